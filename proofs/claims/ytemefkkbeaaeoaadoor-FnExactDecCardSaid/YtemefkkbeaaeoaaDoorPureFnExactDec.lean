/- What is proved here: the Go law FnExactDec answers true for every input, over the functions that print.sh printed; no condition. -/
import Derived.Test.YtemefkkbeaaeoaaDoorQFnExactDecx1
set_option linter.unusedVariables false
set_option linter.unusedSimpArgs false
namespace Go.Proofs.YtemefkkbeaaeoaaDoor.Pure
open Go.RowKit Go.Proofs.YtemefkkbeaaeoaaDoor.PFnExactDec Go.Proofs.YtemefkkbeaaeoaaDoorW.PrintWords Go.Proofs.YtemefkkbeaaeoaaDoorW.PrintLast

theorem Ev_pos {α : Type} {c : Prop} [Decidable c] {a b : Nat → Option α} {r : α} (h : c) (e : Ev a r) : Ev (fun k => if c then a k else b k) r :=
  Ev.congr (fun k => if_pos h) e
theorem Ev_neg {α : Type} {c : Prop} [Decidable c] {a b : Nat → Option α} {r : α} (h : ¬ c) (e : Ev b r) : Ev (fun k => if c then a k else b k) r :=
  Ev.congr (fun k => if_neg h) e
theorem Ev_bindp {α β : Type} {x : Option α} {f : Nat → α → Option β} {a : α} {r : β} (h : x = some a) (e : Ev (fun n => f n a) r) : Ev (fun n => x.bind (f n)) r := by
  subst h
  exact e
theorem Ev_is {α : Type} {x : Option α} {r : α} (h : x = some r) : Ev (fun _ => x) r := ⟨0, fun _ _ => h⟩

theorem w64 {n : Int} (h0 : -9223372036854775808 ≤ n) (h1 : n ≤ 9223372036854775807) : wrap64 n = n := by
  unfold wrap64
  omega

theorem wf64 {n : Int} (h : (Lit.int .i64 n).wf = true) : -9223372036854775808 ≤ n ∧ n ≤ 9223372036854775807 := by
  simp only [Lit.wf, IntKind.min, IntKind.max, IntKind.signed, IntKind.bits, Bool.and_eq_true, decide_eq_true_eq, if_true] at h
  omega

def digitsOf (u : Nat) : List UInt8 := if u = 0 then [] else Lib.decDigits u
theorem digitsOf_step {u : Nat} (h : u ≠ 0) : digitsOf u = digitsOf (u / 10) ++ [UInt8.ofNat (48 + u % 10)] := by
  unfold digitsOf
  rw [if_neg h]
  by_cases c : u < 10
  · rw [if_pos (by omega), Lib.decDigits_one c, show u % 10 = u from by omega]; rfl
  · rw [if_neg (by omega)]
    conv => lhs; rw [Lib.decDigits, dif_neg c]
theorem tq (x : Int) : (x.tdiv 10).natAbs = x.natAbs / 10 ∧ (x.tmod 10).natAbs = x.natAbs % 10 ∧ (0 ≤ x → 0 ≤ x.tdiv 10 ∧ 0 ≤ x.tmod 10) ∧ (x ≤ 0 → x.tdiv 10 ≤ 0 ∧ x.tmod 10 ≤ 0) := by
  rcases Int.le_total 0 x with h | h
  · rw [Int.tdiv_eq_ediv_of_nonneg h, Int.tmod_eq_emod_of_nonneg h]; omega
  · obtain ⟨y, rfl⟩ : ∃ y, x = -y := ⟨-x, by omega⟩
    rw [Int.neg_tdiv, Int.neg_tmod, Int.tdiv_eq_ediv_of_nonneg (by omega), Int.tmod_eq_emod_of_nonneg (by omega)]; omega
theorem sn_cons (b : Int) (l : List UInt8) : strOfNums [b] ++ (⟨l.toArray⟩ : ByteArray) = ⟨(UInt8.ofNat b.toNat :: l).toArray⟩ := by
  apply ByteArray.ext
  unfold strOfNums
  simp [ByteArray.data_append]
theorem ba_size (l : List UInt8) : (⟨l.toArray⟩ : ByteArray).size = l.length := by
  show l.toArray.size = l.length
  simp
def decS (n : Int) : ByteArray := ⟨(Lib.itoa n).toArray⟩

theorem spec_dec_0 (neg : Bool) (l : List UInt8) (hl : l.length ≤ 1000) : Ev (fun k => spec_Dec.l0 k 0 ⟨l.toArray⟩ neg) ⟨((if neg then [45] else []) ++ l).toArray⟩ := by
  refine Ev.step (fun k => spec_Dec.l0.eq_2 _ _ _ k) (Ev_pos rfl ?_)
  cases neg with
  | true =>
    refine Ev_pos rfl (Ev_pos (by rw [ba_size]; omega) (Ev_is ?_))
    congr 1
  | false => exact Ev_neg (by decide) (Ev.now _)
theorem spec_dec_l (neg : Bool) : ∀ (f : Nat) (x : Int) (l : List UInt8), x.natAbs < 10 ^ f → -9223372036854775808 ≤ x → x ≤ 9223372036854775807 → l.length + f ≤ 1000 →
    Ev (fun k => spec_Dec.l0 k x ⟨l.toArray⟩ neg) ⟨((if neg then [45] else []) ++ (digitsOf x.natAbs ++ l)).toArray⟩ := by
  intro f
  induction f with
  | zero =>
    intro x l hx _ _ hl
    obtain rfl : x = 0 := by simp at hx; exact hx
    exact spec_dec_0 neg l (by omega)
  | succ f ih =>
    intro x l hx h0 h1 hl
    by_cases z : x = 0
    · subst z; exact spec_dec_0 neg l (by omega)
    obtain ⟨t1, t2, t3, t4⟩ := tq x
    have hs : x.natAbs / 10 < 10 ^ f := by rw [Nat.pow_succ] at hx; omega
    have hn : x.natAbs ≠ 0 := by omega
    have ed : wrap64 (x.tdiv 10) = x.tdiv 10 := w64 (by omega) (by omega)
    have key := ih (x.tdiv 10) (UInt8.ofNat (48 + x.natAbs % 10) :: l) (by rw [t1]; exact hs) (by omega) (by omega) (by simp only [List.length_cons]; omega)
    rw [t1] at key
    have goal : digitsOf x.natAbs ++ l = digitsOf (x.natAbs / 10) ++ (UInt8.ofNat (48 + x.natAbs % 10) :: l) := by
      rw [digitsOf_step hn]; simp
    rw [goal]
    refine Ev.step (fun k => spec_Dec.l0.eq_2 _ _ _ k) (Ev_neg z ?_)
    by_cases d : x.tmod 10 < 0
    · have eb : (wrap64 (48 + (wrap64 (-(x.tmod 10))))) % 256 = ((48 + x.natAbs % 10 : Nat) : Int) := by
        rw [w64 (n := -(x.tmod 10)) (by omega) (by omega), w64 (by omega) (by omega)]; omega
      refine Ev_pos d (Ev_bindp rfl (Ev_pos (by rw [strOfNums_size, ba_size]; simp; omega) ?_))
      rw [eb, ed, sn_cons]
      exact key
    · have eb : (wrap64 (48 + (x.tmod 10))) % 256 = ((48 + x.natAbs % 10 : Nat) : Int) := by
        rw [w64 (by omega) (by omega)]; omega
      refine Ev_neg d (Ev_bindp rfl (Ev_pos (by rw [strOfNums_size, ba_size]; simp; omega) ?_))
      rw [eb, ed, sn_cons]
      exact key
theorem spec_Dec_ev (n : Int) (h0 : -9223372036854775808 ≤ n) (h1 : n ≤ 9223372036854775807) : Ev (fun k => spec_Dec.f k n) (decS n) := by
  by_cases z : n = 0
  · subst z
    refine Ev_pos rfl (Ev_is ?_)
    have : Lib.itoa 0 = [48] := by unfold Lib.itoa; rw [if_neg (by decide)]; exact Lib.decDigits_one (by decide)
    unfold decS
    rw [this]
  · refine Ev_neg z ?_
    have := spec_dec_l (decide (n < 0)) 20 n [] (by omega) h0 h1 (by decide)
    have e : (if decide (n < 0) = true then [45] else []) ++ (digitsOf n.natAbs ++ []) = Lib.itoa n := by
      have hn : n.natAbs ≠ 0 := by omega
      unfold Lib.itoa digitsOf
      by_cases c : n < 0
      · simp [c, hn]
      · have e2 : n.natAbs = n.toNat := by omega
        have hn' : n.toNat ≠ 0 := by omega
        rw [e2]
        simp only [if_neg hn', if_neg c, decide_eq_false c, List.append_nil]
        rfl
    rw [e] at this
    exact this

theorem impl_Dec_ev (n : Int) (h0 : -9223372036854775808 ≤ n) (h1 : n ≤ 9223372036854775807) : Ev (fun k => impl_Dec.f k n) (decS n) := by
  refine ⟨0, fun k _ => ?_⟩
  unfold impl_Dec.f
  rw [if_pos ⟨h0, h1⟩]; rfl

theorem FnExactDec (n : Int) (h : (Lit.int .i64 n).wf = true) : ∃ k, laws_FnExactDec.f k n = some true := by
  obtain ⟨h0, h1⟩ := wf64 h
  refine Ev.rounds (r := true) ?_
  exact Ev.bind (spec_Dec_ev n h0 h1) (Ev.bind (impl_Dec_ev n h0 h1) (Ev_pos rfl (Ev.now _)))

end Go.Proofs.YtemefkkbeaaeoaaDoor.Pure
