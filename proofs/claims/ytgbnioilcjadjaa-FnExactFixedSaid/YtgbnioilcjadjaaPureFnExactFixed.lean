/- What is proved here: the Go law FnExactFixed answers true for every input, over the functions that print.sh printed; no condition. -/
import Derived.Test.YtgbnioilcjadjaaPFnExactFixedx1
set_option linter.unusedVariables false
set_option linter.unusedSimpArgs false
namespace Go.Proofs.Ytgbnioilcjadjaa.Pure
open Go.RowKit Go.Proofs.Ytgbnioilcjadjaa.PFnExactFixed Go.Proofs.YtgbnioilcjadjaaW.PrintWords Go.Proofs.YtgbnioilcjadjaaW.PrintLast

theorem Ev_pos {α : Type} {c : Prop} [Decidable c] {a b : Nat → Option α} {r : α} (h : c) (e : Ev a r) : Ev (fun k => if c then a k else b k) r :=
  Ev.congr (fun k => if_pos h) e
theorem Ev_neg {α : Type} {c : Prop} [Decidable c] {a b : Nat → Option α} {r : α} (h : ¬ c) (e : Ev b r) : Ev (fun k => if c then a k else b k) r :=
  Ev.congr (fun k => if_neg h) e
theorem Ev_bindp {α β : Type} {x : Option α} {f : Nat → α → Option β} {a : α} {r : β} (h : x = some a) (e : Ev (fun n => f n a) r) : Ev (fun n => x.bind (f n)) r := by
  subst h
  exact e
theorem Ev_is {α : Type} {x : Option α} {r : α} (h : x = some r) : Ev (fun _ => x) r := ⟨0, fun _ _ => h⟩

theorem w64 {n : Int} (h0 : -9223372036854775808 ≤ n) (h1 : n ≤ 9223372036854775807) : wrap64 n = n := by
  unfold wrap64
  omega

/-- The last w bytes of n, most significant first. -/
def fixedL : Nat → Int → List Int
  | 0, _ => []
  | w + 1, n => fixedL w (n / 256) ++ [n % 256]
theorem fixedL_length : ∀ w n, (fixedL w n).length = w
  | 0, _ => rfl
  | w + 1, n => by simp [fixedL, fixedL_length w]
def fixedV (n w : Int) : ByteArray := if (1 ≤ w ∧ w ≤ 7) ∧ 0 ≤ n ∧ n < ((256 ^ w.toNat : Nat) : Int) then strOfNums (fixedL w.toNat n) else ⟨#[]⟩
theorem strOfNums_append' (a b : List Int) : strOfNums a ++ strOfNums b = strOfNums (a ++ b) := by
  apply ByteArray.ext
  unfold strOfNums
  simp [ByteArray.data_append]

theorem l1In_eq (a b c : Int) : spec_l1In.f a b c = some (decide (b ≤ a ∧ a ≤ c)) := by
  unfold spec_l1In.f
  by_cases h : b ≤ a <;> simp [h]

theorem spec_fixed_l (w : Nat) (hw : w ≤ 7) : ∀ (d i : Nat) (n : Int) (acc : List Int), i + d = w → 0 ≤ n → n ≤ 9223372036854775807 → acc.length ≤ i → Ev (fun k => spec_Fixed.l0 k n (w : Int) (strOfNums acc) (i : Int)) (if n < ((256 ^ d : Nat) : Int) then strOfNums (fixedL d n ++ acc) else ⟨#[]⟩) := by
  intro d
  induction d with
  | zero =>
    intro i n acc hi h0 h1 hl
    refine Ev.step (fun k => spec_Fixed.l0.eq_2 _ _ _ _ k) (Ev_neg (by omega) ?_)
    by_cases h : 0 < n
    · have e : ¬ n < ((256 ^ 0 : Nat) : Int) := by simp; omega
      exact Ev_pos h (Ev_is (by rw [if_neg e]))
    · have e : n < ((256 ^ 0 : Nat) : Int) := by simp; omega
      exact Ev_neg h (Ev_is (by rw [if_pos e]; rfl))
  | succ d ih =>
    intro i n acc hi h0 h1 hl
    have e1 : wrap64 (Int.tdiv n 256) = n / 256 := by rw [Int.tdiv_eq_ediv_of_nonneg h0, w64 (by omega) (by omega)]
    have e2 : Int.tmod n 256 % 256 = n % 256 := by rw [Int.tmod_eq_emod_of_nonneg h0]; omega
    have e3 : wrap64 ((i : Int) + 1) = ((i + 1 : Nat) : Int) := by rw [w64 (by omega) (by omega)]; omega
    refine Ev.step (fun k => spec_Fixed.l0.eq_2 _ _ _ _ k) (Ev_pos (by omega) (Ev_bindp rfl (Ev_pos (by rw [strOfNums_size, strOfNums_size]; simp; omega) ?_)))
    rw [e1, e2, e3, strOfNums_append']
    have := ih (i + 1) (n / 256) ([n % 256] ++ acc) (by omega) (by omega) (by omega) (by simp; omega)
    have e : (n < ((256 ^ (d + 1) : Nat) : Int)) ↔ (n / 256 < ((256 ^ d : Nat) : Int)) := by rw [Nat.pow_succ]; omega
    by_cases hh : n < ((256 ^ (d + 1) : Nat) : Int)
    · rw [if_pos (e.1 hh)] at this
      simp only [if_pos hh]
      simpa [fixedL] using this
    · rw [if_neg (fun x => hh (e.2 x))] at this
      simp only [if_neg hh]
      simpa [fixedL] using this
theorem spec_Fixed_ev (n w : Int) (hn : n ≤ 9223372036854775807) : Ev (fun k => spec_Fixed.f k n w) (fixedV n w) := by
  refine Ev_bindp (l1In_eq _ _ _) ?_
  unfold fixedV
  by_cases h : 1 ≤ w ∧ w ≤ 7
  · obtain ⟨m, rfl⟩ := Int.eq_ofNat_of_zero_le (show 0 ≤ w by omega)
    refine Ev_pos (decide_eq_true h) (Ev.step (fun k => spec_Fixed.j0.eq_2 _ _ _ k) ?_)
    by_cases h' : 0 ≤ n
    · have := spec_fixed_l m (by omega) m 0 n [] (by omega) h' hn (by simp)
      refine Ev_neg (by simp; omega) ?_
      rw [Int.toNat_natCast]
      have e : (if (1 ≤ (m : Int) ∧ (m : Int) ≤ 7) ∧ 0 ≤ n ∧ n < ((256 ^ m : Nat) : Int) then strOfNums (fixedL m n) else ⟨#[]⟩) = (if n < ((256 ^ m : Nat) : Int) then strOfNums (fixedL m n ++ []) else ⟨#[]⟩) := by
        by_cases hh : n < ((256 ^ m : Nat) : Int)
        · rw [if_pos hh, if_pos ⟨h, h', hh⟩, List.append_nil]
        · rw [if_neg hh, if_neg (fun x => hh x.2.2)]
      rw [e]
      exact this
    · rw [if_neg (fun x => h' x.2.1)]
      exact Ev_pos (by simp; omega) (Ev.now _)
  · rw [if_neg (fun x => h x.1)]
    exact Ev_neg (by simpa using h) (Ev.step (fun k => spec_Fixed.j0.eq_2 _ _ _ k) (Ev_pos rfl (Ev.now _)))

theorem within_eq (a b c : Int) : impl_within.f a b c = some (decide (b ≤ a ∧ a ≤ c)) := by
  unfold impl_within.f
  by_cases h : b ≤ a <;> simp [h]

theorem impl_fixed_l : ∀ (d : Nat) (n : Int) (acc : List Int), d + acc.length ≤ 7 → 0 ≤ n → n ≤ 9223372036854775807 → Ev (fun k => impl_Fixed.l0 k n (List.replicate d 0 ++ acc) ((d : Int) - 1)) (strOfNums (fixedL d n ++ acc)) := by
  intro d
  induction d with
  | zero =>
    intro n acc hl h0 h1
    exact Ev.step (fun k => impl_Fixed.l0.eq_2 _ _ _ k) (Ev_neg (by omega) (Ev_is (by simp [fixedL])))
  | succ d ih =>
    intro n acc hl h0 h1
    have e0 : (((d + 1 : Nat) : Int) - 1) = (d : Int) := by omega
    rw [e0]
    have e3 : wrap64 ((d : Int) - 1) = (d : Int) - 1 := w64 (by omega) (by omega)
    refine Ev.step (fun k => impl_Fixed.l0.eq_2 _ _ _ k) (Ev_pos (by omega) (Ev_pos (by omega) (Ev_pos (by simp; omega) ?_)))
    have e4 : (List.replicate (d + 1) (0 : Int) ++ acc).set ((d : Int)).toNat (n % 256) = List.replicate d 0 ++ ([n % 256] ++ acc) := by
      rw [Int.toNat_natCast, List.replicate_succ', List.append_assoc, List.set_append_right _ _ (by simp)]
      simp
    rw [e3, e4]
    have := ih (n / 256) ([n % 256] ++ acc) (by simp; omega) (by omega) (by omega)
    simpa [fixedL] using this
theorem impl_Fixed_ev (n w : Int) (hn : n ≤ 9223372036854775807) : Ev (fun k => impl_Fixed.f k n w) (fixedV n w) := by
  refine Ev_bindp (within_eq _ _ _) ?_
  unfold fixedV
  by_cases h : 1 ≤ w ∧ w ≤ 7
  · obtain ⟨m, rfl⟩ := Int.eq_ofNat_of_zero_le (show 0 ≤ w by omega)
    refine Ev_pos (decide_eq_true h) ?_
    by_cases h' : n < 0
    · rw [if_neg (fun x => by omega)]
      exact Ev_pos h' (Ev.step (fun k => impl_Fixed.j0.eq_2 _ _ _ k) (Ev_pos rfl (Ev.now _)))
    · have e1 : wrap64 (8 * (m : Int)) = 8 * (m : Int) := w64 (by omega) (by omega)
      have e2 : shr .i64 n (8 * (m : Int)) = n / ((256 ^ m : Nat) : Int) := by
        unfold shr
        have e3 : min (8 * (m : Int)).toNat (IntKind.bits .i64) = 8 * m := by
          show min (8 * (m : Int)).toNat 64 = 8 * m
          omega
        rw [e3, Int.pow_mul]
        simp
      have hp : (0 : Int) < ((256 ^ m : Nat) : Int) := by exact_mod_cast Nat.pow_pos (n := m) (show 0 < 256 by decide)
      refine Ev_neg h' ?_
      rw [e1, e2]
      refine Ev_pos (by omega) (Ev.step (fun k => impl_Fixed.j0.eq_2 _ _ _ k) ?_)
      by_cases hlt : n < ((256 ^ m : Nat) : Int)
      · rw [Int.toNat_natCast, if_pos ⟨h, by omega, hlt⟩]
        have e5 : n / ((256 ^ m : Nat) : Int) = 0 := Int.ediv_eq_zero_of_lt (by omega) hlt
        refine Ev_neg (by rw [e5]; decide) (Ev_pos (by omega) (Ev_pos (by omega) ?_))
        have := impl_fixed_l m n [] (by simp; omega) (by omega) hn
        rw [w64 (n := (m : Int) - 1) (by omega) (by omega)]
        simpa using this
      · rw [Int.toNat_natCast, if_neg (fun x => hlt x.2.2)]
        have e5 : n / ((256 ^ m : Nat) : Int) ≠ 0 := by
          intro e
          have h1 := Int.emod_def n ((256 ^ m : Nat) : Int)
          have h2 := Int.emod_lt_of_pos n hp
          rw [e, Int.mul_zero] at h1
          omega
        exact Ev_pos (by simpa using e5) (Ev.now _)
  · rw [if_neg (fun x => h x.1)]
    exact Ev_neg (by simpa using h) (Ev.step (fun k => impl_Fixed.j0.eq_2 _ _ _ k) (Ev_pos rfl (Ev.now _)))

theorem wf64 {n : Int} (h : (Lit.int .i64 n).wf = true) : -9223372036854775808 ≤ n ∧ n ≤ 9223372036854775807 := by
  simp only [Lit.wf, IntKind.min, IntKind.max, IntKind.signed, IntKind.bits, Bool.and_eq_true, decide_eq_true_eq, if_true] at h
  omega

theorem FnExactFixed : laws_FnExactFixed.Pure := by
  intro n w hn hw
  refine Ev.rounds (r := true) ?_
  have hn := wf64 hn
  exact Ev.bind (spec_Fixed_ev n w hn.2) (Ev.bind (impl_Fixed_ev n w hn.2) (Ev_pos rfl (Ev.now _)))

end Go.Proofs.Ytgbnioilcjadjaa.Pure
