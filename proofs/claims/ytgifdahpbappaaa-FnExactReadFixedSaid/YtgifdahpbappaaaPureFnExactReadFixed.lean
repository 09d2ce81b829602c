/- What is proved here: the Go law FnExactReadFixed answers true for every input, over the functions that print.sh printed; no condition. -/
import Derived.Test.YtgifdahpbappaaaPFnExactReadFixedx1
set_option linter.unusedVariables false
set_option linter.unusedSimpArgs false
namespace Go.Proofs.Ytgifdahpbappaaa.Pure
open Go.RowKit Go.Proofs.Ytgifdahpbappaaa.PFnExactReadFixed Go.Proofs.YtgifdahpbappaaaW.PrintWords Go.Proofs.YtgifdahpbappaaaW.PrintLast

theorem Ev_pos {α : Type} {c : Prop} [Decidable c] {a b : Nat → Option α} {r : α} (h : c) (e : Ev a r) : Ev (fun k => if c then a k else b k) r :=
  Ev.congr (fun k => if_pos h) e
theorem Ev_neg {α : Type} {c : Prop} [Decidable c] {a b : Nat → Option α} {r : α} (h : ¬ c) (e : Ev b r) : Ev (fun k => if c then a k else b k) r :=
  Ev.congr (fun k => if_neg h) e
theorem Ev_bindp {α β : Type} {x : Option α} {f : Nat → α → Option β} {a : α} {r : β} (h : x = some a) (e : Ev (fun n => f n a) r) : Ev (fun n => x.bind (f n)) r := by
  subst h
  exact e
theorem Ev_is {α : Type} {x : Option α} {r : α} (h : x = some r) : Ev (fun _ => x) r := ⟨0, fun _ _ => h⟩

theorem w64 {n : Int} (h0 : -9223372036854775808 ≤ n) (h1 : n ≤ 9223372036854775807) : wrap64 n = n := by
  unfold wrap64
  omega

/-- The number of the first n bytes, most significant first. -/
def rfV (s : ByteArray) : Nat → Int
  | 0 => 0
  | n + 1 => rfV s n * 256 + bt s n
theorem rfV_lt (s : ByteArray) : ∀ n, 0 ≤ rfV s n ∧ rfV s n < ((256 ^ n : Nat) : Int)
  | 0 => by simp [rfV]
  | n + 1 => by
    have ih := rfV_lt s n
    have b := bt_range s n
    simp only [rfV, Nat.pow_succ]
    omega
theorem rfV_le (s : ByteArray) (n m : Nat) (h : n ≤ m) : 0 ≤ rfV s n ∧ rfV s n < ((256 ^ m : Nat) : Int) := by
  have ih := rfV_lt s n
  have hp : 256 ^ n ≤ 256 ^ m := Nat.pow_le_pow_right (by decide) h
  omega
theorem wraps_i64 (n : Int) (h₀ : 0 ≤ n) (h₁ : n < 2 ^ 63) : IntKind.i64.wrap n = n := by rw [IntKind.wrap_i64]; omega
theorem spec_rf_l (s : ByteArray) (w : Nat) (hw : w ≤ 7) (hs : w ≤ s.size) (hz : s.size ≤ 140737488351232) : ∀ (d i : Nat), i + d = w → Ev (fun k => spec_ReadFixed.l0 k s (w : Int) (rfV s i) (i : Int)) (rfV s w, true) := by
  intro d
  induction d with
  | zero =>
    intro i hi
    refine Ev.step (fun k => spec_ReadFixed.l0.eq_2 _ _ _ _ k) (Ev_neg (by omega) ?_)
    obtain rfl : i = w := by omega
    exact Ev.now _
  | succ d ih =>
    intro i hi
    refine Ev.step (fun k => spec_ReadFixed.l0.eq_2 _ _ _ _ k) (Ev_pos (by omega) (Ev_pos (by omega) (Ev_pos (by omega) ?_)))
    have h := rfV_le s i 6 (by omega)
    have b := bt_range s i
    have e3 : wrap64 ((i : Int) + 1) = ((i + 1 : Nat) : Int) := by rw [w64 (by omega) (by omega)]; omega
    have e4 : wrap64 (wrap64 (rfV s i * 256) + wrap64 (bt s (i : Int))) = rfV s (i + 1) := by
      rw [w64 (n := rfV s i * 256) (by omega) (by omega), w64 (n := bt s (i : Int)) (by omega) (by omega), w64 (by omega) (by omega)]
      rfl
    rw [e3, e4]
    exact ih (i + 1) (by omega)
theorem impl_rf_l (s : ByteArray) (w : Nat) (hw : w ≤ 7) (hs : w ≤ s.size) (hz : s.size ≤ 140737488351232) : ∀ (d i : Nat), i + d = w → Ev (fun k => impl_ReadFixed.l0 k s (rfV s i) (w : Int) (i : Int)) (rfV s w, true) := by
  intro d
  induction d with
  | zero =>
    intro i hi
    refine Ev.step (fun k => impl_ReadFixed.l0.eq_2 _ _ _ _ k) (Ev_neg (by omega) ?_)
    obtain rfl : i = w := by omega
    exact Ev.now _
  | succ d ih =>
    intro i hi
    refine Ev.step (fun k => impl_ReadFixed.l0.eq_2 _ _ _ _ k) (Ev_pos (by omega) (Ev_pos (by omega) (Ev_pos (by omega) ?_)))
    have h := rfV_le s i 6 (by omega)
    have b := bt_range s i
    have e3 : wrap64 ((i : Int) + 1) = ((i + 1 : Nat) : Int) := by rw [w64 (by omega) (by omega)]; omega
    have e4 : Go.bits .or .i64 (wrap64 (rfV s i * 256)) (wrap64 (bt s (i : Int))) = rfV s (i + 1) := by
      rw [w64 (n := rfV s i * 256) (by omega) (by omega), w64 (n := bt s (i : Int)) (by omega) (by omega)]
      exact bits_join .i64 63 (by decide) wraps_i64 8 _ _ (by omega) (by omega) (by omega) (by omega) (by omega) (by omega)
    rw [e3, e4]
    exact ih (i + 1) (by omega)
def readFixedV (s : ByteArray) (w : Int) : Int × Bool := if (1 ≤ w ∧ w ≤ 7) ∧ w ≤ s.size then (rfV s w.toNat, true) else (0, false)

theorem l1In_eq (a b c : Int) : spec_l1In.f a b c = some (decide (b ≤ a ∧ a ≤ c)) := by
  unfold spec_l1In.f
  by_cases h : b ≤ a <;> simp [h]

theorem spec_ReadFixed_ev (s : ByteArray) (w : Int) (hz : s.size ≤ 140737488351232) : Ev (fun k => spec_ReadFixed.f k s w) (readFixedV s w) := by
  refine Ev_bindp (l1In_eq _ _ _) ?_
  unfold readFixedV
  by_cases h : 1 ≤ w ∧ w ≤ 7
  · obtain ⟨m, rfl⟩ := Int.eq_ofNat_of_zero_le (show 0 ≤ w by omega)
    refine Ev_pos (decide_eq_true h) (Ev.step (fun k => spec_ReadFixed.j0.eq_2 _ _ _ k) ?_)
    by_cases h' : (m : Int) ≤ s.size
    · rw [if_pos ⟨h, h'⟩, Int.toNat_natCast]
      exact Ev_neg (by simp; omega) (spec_rf_l s m (by omega) (by omega) hz m 0 (by omega))
    · rw [if_neg (fun x => h' x.2)]
      exact Ev_pos (by simp; omega) (Ev.now _)
  · rw [if_neg (fun x => h x.1)]
    exact Ev_neg (by simpa using h) (Ev.step (fun k => spec_ReadFixed.j0.eq_2 _ _ _ k) (Ev_pos rfl (Ev.now _)))

theorem within_eq (a b c : Int) : impl_within.f a b c = some (decide (b ≤ a ∧ a ≤ c)) := by
  unfold impl_within.f
  by_cases h : b ≤ a <;> simp [h]

theorem impl_ReadFixed_ev (s : ByteArray) (w : Int) (hz : s.size ≤ 140737488351232) : Ev (fun k => impl_ReadFixed.f k s w) (readFixedV s w) := by
  refine Ev_bindp (within_eq _ _ _) ?_
  unfold readFixedV
  by_cases h : 1 ≤ w ∧ w ≤ 7
  · obtain ⟨m, rfl⟩ := Int.eq_ofNat_of_zero_le (show 0 ≤ w by omega)
    refine Ev_pos (decide_eq_true h) (Ev.step (fun k => impl_ReadFixed.j0.eq_2 _ _ _ k) ?_)
    by_cases h' : (m : Int) ≤ s.size
    · rw [if_pos ⟨h, h'⟩, Int.toNat_natCast]
      exact Ev_neg (by simp; omega) (impl_rf_l s m (by omega) (by omega) hz m 0 (by omega))
    · rw [if_neg (fun x => h' x.2)]
      exact Ev_pos (by simp; omega) (Ev.now _)
  · rw [if_neg (fun x => h x.1)]
    exact Ev_neg (by simpa using h) (Ev.step (fun k => impl_ReadFixed.j0.eq_2 _ _ _ k) (Ev_pos rfl (Ev.now _)))

theorem FnExactReadFixed : laws_FnExactReadFixed.Pure := by
  intro s w hs _
  refine Ev.rounds (r := true) ?_
  by_cases h : (s.size : Int) > 1048576
  · exact Ev_pos h (Ev.now _)
  · exact Ev_neg h (Ev.bind (spec_ReadFixed_ev s w hs) (Ev.bind (impl_ReadFixed_ev s w hs) (Ev_pos rfl (Ev_neg (by simp) (Ev.now _)))))

end Go.Proofs.Ytgifdahpbappaaa.Pure
