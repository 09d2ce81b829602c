/- What is proved here: the Go law FnExactVar answers true for every input, over the functions that print.sh printed; no condition. -/
import Derived.Test.YtgbnioilcjadjaaPFnExactVarx1
set_option linter.unusedVariables false
set_option linter.unusedSimpArgs false
namespace Go.Proofs.Ytgbnioilcjadjaa.Pure
open Go.RowKit Go.Proofs.Ytgbnioilcjadjaa.PFnExactVar Go.Proofs.YtgbnioilcjadjaaW.PrintWords Go.Proofs.YtgbnioilcjadjaaW.PrintLast

theorem Ev_pos {α : Type} {c : Prop} [Decidable c] {a b : Nat → Option α} {r : α} (h : c) (e : Ev a r) : Ev (fun k => if c then a k else b k) r :=
  Ev.congr (fun k => if_pos h) e
theorem Ev_neg {α : Type} {c : Prop} [Decidable c] {a b : Nat → Option α} {r : α} (h : ¬ c) (e : Ev b r) : Ev (fun k => if c then a k else b k) r :=
  Ev.congr (fun k => if_neg h) e
theorem Ev_bindp {α β : Type} {x : Option α} {f : Nat → α → Option β} {a : α} {r : β} (h : x = some a) (e : Ev (fun n => f n a) r) : Ev (fun n => x.bind (f n)) r := by
  subst h
  exact e
theorem Ev_is {α : Type} {x : Option α} {r : α} (h : x = some r) : Ev (fun _ => x) r := ⟨0, fun _ _ => h⟩

theorem w64 {n : Int} (h0 : -9223372036854775808 ≤ n) (h1 : n ≤ 9223372036854775807) : wrap64 n = n := by
  unfold wrap64
  omega

/-- The groups of seven bits of n, at most f + 1 of them. -/
def varL : Nat → Int → List Int
  | 0, n => [n % 256]
  | f + 1, n => if 128 ≤ n then (128 + n % 128) :: varL f (n / 128) else [n % 256]
theorem varL_length : ∀ f n, (varL f n).length ≤ f + 1
  | 0, n => by simp [varL]
  | f + 1, n => by
    unfold varL
    split
    · have := varL_length f (n / 128); simp; omega
    · simp

theorem l1In_eq (a b c : Int) : spec_l1In.f a b c = some (decide (b ≤ a ∧ a ≤ c)) := by
  unfold spec_l1In.f
  by_cases h : b ≤ a <;> simp [h]

theorem spec_var_l : ∀ (f : Nat) (n : Int) (acc : List Int), 0 ≤ n → n < ((128 ^ (f + 1) : Nat) : Int) → n ≤ 562949953421311 → acc.length + f ≤ 1000 → Ev (fun k => spec_Var.l0 k n acc) (strOfNums (acc ++ varL f n)) := by
  intro f
  induction f with
  | zero =>
    intro n acc h0 h1 h2 h3
    exact Ev.step (fun k => spec_Var.l0.eq_2 _ _ k) (Ev_neg (by omega) (Ev_pos (by omega) (Ev.now _)))
  | succ f ih =>
    intro n acc h0 h1 h2 h3
    refine Ev.step (fun k => spec_Var.l0.eq_2 _ _ k) ?_
    unfold varL
    by_cases h : 128 ≤ n
    · rw [if_pos h]
      have e1 : wrap64 (Int.tdiv n 128) = n / 128 := by rw [Int.tdiv_eq_ediv_of_nonneg h0, w64 (by omega) (by omega)]
      have e2 : wrap64 (128 + Int.tmod n 128) % 256 = 128 + n % 128 := by rw [Int.tmod_eq_emod_of_nonneg h0, w64 (by omega) (by omega)]; omega
      rw [e1, e2]
      refine Ev_pos h (Ev_pos (by omega) ?_)
      have := ih (n / 128) (acc ++ [128 + n % 128]) (by omega) (by rw [Nat.pow_succ] at h1; omega) (by omega) (by simp; omega)
      simpa using this
    · rw [if_neg h]
      exact Ev_neg h (Ev_pos (by omega) (Ev.now _))
def varV (n : Int) : ByteArray := if 0 ≤ n ∧ n ≤ 562949953421311 then strOfNums (varL 6 n) else ⟨#[]⟩
theorem spec_Var_ev (n : Int) : Ev (fun k => spec_Var.f k n) (varV n) := by
  refine Ev_bindp (l1In_eq _ _ _) ?_
  unfold varV
  by_cases h : 0 ≤ n ∧ n ≤ 562949953421311
  · rw [if_pos h]
    refine Ev_pos (decide_eq_true h) ?_
    exact spec_var_l 6 n [] h.1 (by omega) h.2 (by simp)
  · rw [if_neg h]
    exact Ev_neg (by simpa using h) (Ev.now _)

theorem within_eq (a b c : Int) : impl_within.f a b c = some (decide (b ≤ a ∧ a ≤ c)) := by
  unfold impl_within.f
  by_cases h : b ≤ a <;> simp [h]

theorem or128 (y : Int) (h0 : 0 ≤ y) (h1 : y < 128) : Go.bits .or .u8 y 128 = 128 + y := by
  obtain ⟨b, rfl⟩ := Int.eq_ofNat_of_zero_le h0
  have h := (bits_nat .u8 8 (by decide) wraps_u8 b 128 (by omega) (by decide)).2
  have e : b ||| 128 = 128 + b := by
    have := Nat.two_pow_add_eq_or_of_lt (i := 7) (b := b) (by omega) 1
    rw [Nat.or_comm]
    simpa using this.symm
  have h' : Go.bits .or .u8 (b : Int) 128 = ((b ||| 128 : Nat) : Int) := h
  rw [h', e]; omega
theorem wraps_i64' (n : Int) (h₀ : 0 ≤ n) (h₁ : n < 2 ^ 63) : IntKind.i64.wrap n = n := by rw [IntKind.wrap_i64]; omega
theorem and127 (n : Int) (h0 : 0 ≤ n) (h1 : n ≤ 9223372036854775807) : Go.bits .and .i64 n 127 = n % 128 :=
  bits_mask .i64 63 (by decide) wraps_i64' 7 (by decide) n h0 (by omega)
theorem impl_var_l : ∀ (f : Nat) (n : Int) (acc : List Int), 0 ≤ n → n < ((128 ^ (f + 1) : Nat) : Int) → n ≤ 562949953421311 → acc.length + f ≤ 1000 → Ev (fun k => impl_Var.l0 k n acc) (strOfNums (acc ++ varL f n)) := by
  intro f
  induction f with
  | zero =>
    intro n acc h0 h1 h2 h3
    exact Ev.step (fun k => impl_Var.l0.eq_2 _ _ k) (Ev_neg (by omega) (Ev_pos (by omega) (Ev.now _)))
  | succ f ih =>
    intro n acc h0 h1 h2 h3
    refine Ev.step (fun k => impl_Var.l0.eq_2 _ _ k) ?_
    unfold varL
    by_cases h : 128 ≤ n
    · rw [if_pos h]
      have e2 : Go.bits .or .u8 ((Go.bits .and .i64 n 127) % 256) 128 = 128 + n % 128 := by
        rw [and127 n h0 (by omega), show n % 128 % 256 = n % 128 by omega, or128 _ (by omega) (by omega)]
      rw [e2]
      refine Ev_pos (by omega) (Ev_pos (by omega) ?_)
      have := ih (n / 128) (acc ++ [128 + n % 128]) (by omega) (by rw [Nat.pow_succ] at h1; omega) (by omega) (by simp; omega)
      simpa using this
    · rw [if_neg h]
      exact Ev_neg (by omega) (Ev_pos (by omega) (Ev.now _))
theorem impl_Var_ev (n : Int) : Ev (fun k => impl_Var.f k n) (varV n) := by
  refine Ev_bindp (within_eq _ _ _) ?_
  unfold varV
  by_cases h : 0 ≤ n ∧ n ≤ 562949953421311
  · rw [if_pos h]
    refine Ev_pos (decide_eq_true h) ?_
    exact impl_var_l 6 n [] h.1 (by omega) h.2 (by simp)
  · rw [if_neg h]
    exact Ev_neg (by simpa using h) (Ev.now _)

theorem FnExactVar : laws_FnExactVar.Pure := by
  intro n hn
  refine Ev.rounds (r := true) ?_
  exact Ev.bind (spec_Var_ev n) (Ev.bind (impl_Var_ev n) (Ev_pos rfl (Ev.now _)))

end Go.Proofs.Ytgbnioilcjadjaa.Pure
