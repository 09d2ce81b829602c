/- What is proved here: the Go law FnExactSameCells answers true for every input, over the functions that print.sh printed; no condition. -/
import Derived.Test.YtgpbkfblbibafaaQFnExactSameCellsx1
set_option linter.unusedVariables false
set_option linter.unusedSimpArgs false
namespace Go.Proofs.Ytgpbkfblbibafaa.Pure
open Go.RowKit Go.Proofs.Ytgpbkfblbibafaa.PFnExactSameCells Go.Proofs.YtgpbkfblbibafaaW.PrintWords Go.Proofs.YtgpbkfblbibafaaW.PrintLast

theorem Ev_pos {α : Type} {c : Prop} [Decidable c] {a b : Nat → Option α} {r : α} (h : c) (e : Ev a r) : Ev (fun k => if c then a k else b k) r :=
  Ev.congr (fun k => if_pos h) e
theorem Ev_neg {α : Type} {c : Prop} [Decidable c] {a b : Nat → Option α} {r : α} (h : ¬ c) (e : Ev b r) : Ev (fun k => if c then a k else b k) r :=
  Ev.congr (fun k => if_neg h) e
theorem Ev_bindp {α β : Type} {x : Option α} {f : Nat → α → Option β} {a : α} {r : β} (h : x = some a) (e : Ev (fun n => f n a) r) : Ev (fun n => x.bind (f n)) r := by
  subst h
  exact e
theorem Ev_is {α : Type} {x : Option α} {r : α} (h : x = some r) : Ev (fun _ => x) r := ⟨0, fun _ _ => h⟩

theorem w64 {n : Int} (h0 : -9223372036854775808 ≤ n) (h1 : n ≤ 9223372036854775807) : wrap64 n = n := by
  unfold wrap64
  omega

theorem dec_cons_eq {a b : Int} (h : a = b) (l m : List Int) : decide (a :: l = b :: m) = decide (l = m) := by
  subst h
  exact decide_eq_decide.2 ⟨fun e => (List.cons.inj e).2, fun e => by rw [e]⟩
theorem dec_cons_ne {a b : Int} (h : a ≠ b) (l m : List Int) : decide (a :: l = b :: m) = false := decide_eq_false (fun e => h (List.cons.inj e).1)
theorem rd_get (l : List Int) (i : Nat) (h : i < l.length) : rd l (i : Int) = l[i] := by simp [rd, List.getD_eq_getElem?_getD, List.getElem?_eq_getElem h]

theorem toInt_l (l : List Int) (hl : l.length ≤ 1048576) : ∀ (d i : Nat), i + d = l.length → Ev (fun k => laws_toIntS.l0 k l (l.take i ++ List.replicate d 0) (i : Int)) l := by
  intro d
  induction d with
  | zero =>
    intro i hi
    refine Ev.step (fun k => laws_toIntS.l0.eq_2 _ _ _ k) (Ev_neg (by omega) (Ev_is ?_))
    rw [List.take_of_length_le (by omega)]; simp
  | succ d ih =>
    intro i hi
    have h : i < l.length := by omega
    have ht : (l.take i).length = i := by simp; omega
    refine Ev.step (fun k => laws_toIntS.l0.eq_2 _ _ _ k) (Ev_pos (by omega) (Ev_pos (by omega) (Ev_pos (by simp; omega) ?_)))
    have e : (l.take i ++ List.replicate (d + 1) 0).set ((i : Int)).toNat (rd l (i : Int)) = l.take (i + 1) ++ List.replicate d 0 := by
      rw [Int.toNat_natCast, List.set_append_right _ _ (by omega), ht, Nat.sub_self, List.replicate_succ, List.set_cons_zero, rd_get l i h, List.take_succ_eq_append_getElem h, List.append_assoc]
      rfl
    rw [e, show wrap64 ((i : Int) + 1) = ((i + 1 : Nat) : Int) by rw [w64 (by omega) (by omega)]; omega]
    exact ih (i + 1) (by omega)
theorem toInt_ev (l : List Int) (hl : l.length ≤ 1048576) : Ev (fun k => laws_toIntS.f k l) l := by
  refine Ev_pos (by omega) (Ev_pos (by omega) ?_)
  have := toInt_l l hl l.length 0 (by omega)
  simpa using this

theorem eqInt_l (a b : List Int) (hl : a.length ≤ 1048576) (hab : a.length = b.length) : ∀ (d i : Nat), i + d = a.length → Ev (fun k => laws_eqIntS.l0 k a b (i : Int)) (decide (a.drop i = b.drop i)) := by
  intro d
  induction d with
  | zero =>
    intro i hi
    refine Ev.step (fun k => laws_eqIntS.l0.eq_2 _ _ _ k) (Ev_neg (by omega) (Ev_is ?_))
    rw [List.drop_eq_nil_of_le (by omega), List.drop_eq_nil_of_le (by omega)]; simp
  | succ d ih =>
    intro i hi
    have h : i < a.length := by omega
    have h' : i < b.length := by omega
    refine Ev.step (fun k => laws_eqIntS.l0.eq_2 _ _ _ k) (Ev_pos (by omega) (Ev_pos (by omega) (Ev_pos (by omega) ?_)))
    rw [rd_get a i h, rd_get b i h', List.drop_eq_getElem_cons h, List.drop_eq_getElem_cons h']
    by_cases c : a[i] = b[i]
    · refine Ev_pos c ?_
      rw [show wrap64 ((i : Int) + 1) = ((i + 1 : Nat) : Int) by rw [w64 (by omega) (by omega)]; omega]
      rw [dec_cons_eq c]
      exact ih (i + 1) (by omega)
    · exact Ev_neg c (Ev_is (by rw [dec_cons_ne c]))
theorem eqInt_ev (a b : List Int) (hl : a.length ≤ 1048576) : Ev (fun k => laws_eqIntS.f k a b) (decide (a = b)) := by
  by_cases h : a.length = b.length
  · have := eqInt_l a b hl h a.length 0 (by omega)
    exact Ev_pos (by omega) (by simpa using this)
  · exact Ev_neg (by omega) (Ev_is (by rw [decide_eq_false (fun e => h (congrArg List.length e))]))
theorem eqInt_refl (a : List Int) (hl : a.length ≤ 1048576) : Ev (fun k => laws_eqIntS.f k a a) true := by
  have := eqInt_ev a a hl
  simpa using this

theorem spec_same_l (a b : List Int) (hl : a.length ≤ 1048576) (hab : a.length = b.length) : ∀ (d i : Nat), i + d = a.length → Ev (fun k => spec_SameCells.l0 k a b (i : Int)) (decide (a.drop i = b.drop i)) := by
  intro d
  induction d with
  | zero =>
    intro i hi
    refine Ev.step (fun k => spec_SameCells.l0.eq_2 _ _ _ k) (Ev_neg (by omega) (Ev_is ?_))
    rw [List.drop_eq_nil_of_le (by omega), List.drop_eq_nil_of_le (by omega)]; simp
  | succ d ih =>
    intro i hi
    have h : i < a.length := by omega
    have h' : i < b.length := by omega
    refine Ev.step (fun k => spec_SameCells.l0.eq_2 _ _ _ k) (Ev_pos (by omega) (Ev_pos (by omega) (Ev_pos (by omega) ?_)))
    rw [rd_get a i h, rd_get b i h', List.drop_eq_getElem_cons h, List.drop_eq_getElem_cons h']
    by_cases c : a[i] = b[i]
    · refine Ev_pos c ?_
      rw [show wrap64 ((i : Int) + 1) = ((i + 1 : Nat) : Int) by rw [w64 (by omega) (by omega)]; omega]
      rw [dec_cons_eq c]
      exact ih (i + 1) (by omega)
    · exact Ev_neg c (Ev_is (by rw [dec_cons_ne c]))
theorem spec_SameCells_ev (a b : List Int) (hl : a.length ≤ 1048576) : Ev (fun k => spec_SameCells.f k a b) (decide (a = b)) := by
  by_cases h : a.length = b.length
  · have := spec_same_l a b hl h a.length 0 (by omega)
    exact Ev_pos (by omega) (by simpa using this)
  · exact Ev_neg (by omega) (Ev_is (by rw [decide_eq_false (fun e => h (congrArg List.length e))]))

theorem impl_same_l (a b : List Int) (hl : a.length ≤ 1048576) (hab : a.length = b.length) : ∀ (d i : Nat), i + d = a.length → Ev (fun k => slices_Equal_int_int.l0 k a b (a.length : Int) (i : Int)) (decide (a.drop i = b.drop i)) := by
  intro d
  induction d with
  | zero =>
    intro i hi
    refine Ev.step (fun k => slices_Equal_int_int.l0.eq_2 _ _ _ _ k) (Ev_neg (by omega) (Ev_is ?_))
    rw [List.drop_eq_nil_of_le (by omega), List.drop_eq_nil_of_le (by omega)]; simp
  | succ d ih =>
    intro i hi
    have h : i < a.length := by omega
    have h' : i < b.length := by omega
    refine Ev.step (fun k => slices_Equal_int_int.l0.eq_2 _ _ _ _ k) (Ev_pos (by omega) (Ev_pos (by omega) (Ev_pos (by omega) (Ev_pos (by omega) ?_))))
    rw [rd_get a i h, rd_get b i h', List.drop_eq_getElem_cons h, List.drop_eq_getElem_cons h']
    by_cases c : a[i] = b[i]
    · refine Ev_pos c ?_
      rw [show wrap64 ((i : Int) + 1) = ((i + 1 : Nat) : Int) by rw [w64 (by omega) (by omega)]; omega]
      rw [dec_cons_eq c]
      exact ih (i + 1) (by omega)
    · exact Ev_neg c (Ev_is (by rw [dec_cons_ne c]))
theorem impl_SameCells_ev (a b : List Int) (hl : a.length ≤ 1048576) : Ev (fun k => impl_SameCells.f k a b) (decide (a = b)) := by
  refine Ev.bind (a := decide (a = b)) ?_ (Ev.now _)
  by_cases h : a.length = b.length
  · have := impl_same_l a b hl h a.length 0 (by omega)
    exact Ev_pos (by omega) (by simpa using this)
  · exact Ev_neg (by omega) (Ev_is (by rw [decide_eq_false (fun e => h (congrArg List.length e))]))

theorem FnExactSameCells : laws_FnExactSameCells.Pure := by
  intro l m hm h8 hw hm' h8' hw'
  refine Ev.rounds (r := true) ?_
  by_cases h : (l.length : Int) > 1048576
  · exact Ev_pos h (Ev.now _)
  by_cases h' : (m.length : Int) > 1048576
  · exact Ev_neg h (Ev_pos h' (Ev.now _))
  have hl : l.length ≤ 1048576 := by omega
  have hl' : m.length ≤ 1048576 := by omega
  exact Ev_neg h (Ev_neg h' (Ev.bind (toInt_ev l hl) (Ev.bind (toInt_ev m hl') (Ev.bind (spec_SameCells_ev l m hl) (Ev.bind (toInt_ev l hl) (Ev.bind (toInt_ev m hl') (Ev.bind (impl_SameCells_ev l m hl) (Ev_neg (by simp) (Ev.bind (toInt_ev l hl) (Ev.bind (eqInt_refl l hl) (Ev_pos rfl (Ev.bind (toInt_ev m hl') (Ev.bind (eqInt_refl m hl') (Ev_pos rfl (Ev.now _)))))))))))))))

end Go.Proofs.Ytgpbkfblbibafaa.Pure
