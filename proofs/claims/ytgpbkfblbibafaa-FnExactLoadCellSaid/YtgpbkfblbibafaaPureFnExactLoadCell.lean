/- What is proved here: the Go law FnExactLoadCell answers true for every input, over the functions that print.sh printed; no condition. -/
import Derived.Test.YtgpbkfblbibafaaQFnExactLoadCellx2
set_option linter.unusedVariables false
set_option linter.unusedSimpArgs false
namespace Go.Proofs.Ytgpbkfblbibafaa.Pure
open Go.RowKit Go.Proofs.Ytgpbkfblbibafaa.PFnExactLoadCell Go.Proofs.YtgpbkfblbibafaaW.PrintWords Go.Proofs.YtgpbkfblbibafaaW.PrintLast

theorem Ev_pos {α : Type} {c : Prop} [Decidable c] {a b : Nat → Option α} {r : α} (h : c) (e : Ev a r) : Ev (fun k => if c then a k else b k) r :=
  Ev.congr (fun k => if_pos h) e
theorem Ev_neg {α : Type} {c : Prop} [Decidable c] {a b : Nat → Option α} {r : α} (h : ¬ c) (e : Ev b r) : Ev (fun k => if c then a k else b k) r :=
  Ev.congr (fun k => if_neg h) e
theorem Ev_bindp {α β : Type} {x : Option α} {f : Nat → α → Option β} {a : α} {r : β} (h : x = some a) (e : Ev (fun n => f n a) r) : Ev (fun n => x.bind (f n)) r := by
  subst h
  exact e
theorem Ev_is {α : Type} {x : Option α} {r : α} (h : x = some r) : Ev (fun _ => x) r := ⟨0, fun _ _ => h⟩

theorem w64 {n : Int} (h0 : -9223372036854775808 ≤ n) (h1 : n ≤ 9223372036854775807) : wrap64 n = n := by
  unfold wrap64
  omega

theorem dec_cons_eq {a b : Int} (h : a = b) (l m : List Int) : decide (a :: l = b :: m) = decide (l = m) := by
  subst h
  exact decide_eq_decide.2 ⟨fun e => (List.cons.inj e).2, fun e => by rw [e]⟩
theorem dec_cons_ne {a b : Int} (h : a ≠ b) (l m : List Int) : decide (a :: l = b :: m) = false := decide_eq_false (fun e => h (List.cons.inj e).1)
theorem rd_get (l : List Int) (i : Nat) (h : i < l.length) : rd l (i : Int) = l[i] := by simp [rd, List.getD_eq_getElem?_getD, List.getElem?_eq_getElem h]

theorem toInt_l (l : List Int) (hl : l.length ≤ 1048576) : ∀ (d i : Nat), i + d = l.length → Ev (fun k => laws_toIntS.l0 k l (l.take i ++ List.replicate d 0) (i : Int)) l := by
  intro d
  induction d with
  | zero =>
    intro i hi
    refine Ev.step (fun k => laws_toIntS.l0.eq_2 _ _ _ k) (Ev_neg (by omega) (Ev_is ?_))
    rw [List.take_of_length_le (by omega)]; simp
  | succ d ih =>
    intro i hi
    have h : i < l.length := by omega
    have ht : (l.take i).length = i := by simp; omega
    refine Ev.step (fun k => laws_toIntS.l0.eq_2 _ _ _ k) (Ev_pos (by omega) (Ev_pos (by omega) (Ev_pos (by simp; omega) ?_)))
    have e : (l.take i ++ List.replicate (d + 1) 0).set ((i : Int)).toNat (rd l (i : Int)) = l.take (i + 1) ++ List.replicate d 0 := by
      rw [Int.toNat_natCast, List.set_append_right _ _ (by omega), ht, Nat.sub_self, List.replicate_succ, List.set_cons_zero, rd_get l i h, List.take_succ_eq_append_getElem h, List.append_assoc]
      rfl
    rw [e, show wrap64 ((i : Int) + 1) = ((i + 1 : Nat) : Int) by rw [w64 (by omega) (by omega)]; omega]
    exact ih (i + 1) (by omega)
theorem toInt_ev (l : List Int) (hl : l.length ≤ 1048576) : Ev (fun k => laws_toIntS.f k l) l := by
  refine Ev_pos (by omega) (Ev_pos (by omega) ?_)
  have := toInt_l l hl l.length 0 (by omega)
  simpa using this

theorem eqInt_l (a b : List Int) (hl : a.length ≤ 1048576) (hab : a.length = b.length) : ∀ (d i : Nat), i + d = a.length → Ev (fun k => laws_eqIntS.l0 k a b (i : Int)) (decide (a.drop i = b.drop i)) := by
  intro d
  induction d with
  | zero =>
    intro i hi
    refine Ev.step (fun k => laws_eqIntS.l0.eq_2 _ _ _ k) (Ev_neg (by omega) (Ev_is ?_))
    rw [List.drop_eq_nil_of_le (by omega), List.drop_eq_nil_of_le (by omega)]; simp
  | succ d ih =>
    intro i hi
    have h : i < a.length := by omega
    have h' : i < b.length := by omega
    refine Ev.step (fun k => laws_eqIntS.l0.eq_2 _ _ _ k) (Ev_pos (by omega) (Ev_pos (by omega) (Ev_pos (by omega) ?_)))
    rw [rd_get a i h, rd_get b i h', List.drop_eq_getElem_cons h, List.drop_eq_getElem_cons h']
    by_cases c : a[i] = b[i]
    · refine Ev_pos c ?_
      rw [show wrap64 ((i : Int) + 1) = ((i + 1 : Nat) : Int) by rw [w64 (by omega) (by omega)]; omega]
      rw [dec_cons_eq c]
      exact ih (i + 1) (by omega)
    · exact Ev_neg c (Ev_is (by rw [dec_cons_ne c]))
theorem eqInt_ev (a b : List Int) (hl : a.length ≤ 1048576) : Ev (fun k => laws_eqIntS.f k a b) (decide (a = b)) := by
  by_cases h : a.length = b.length
  · have := eqInt_l a b hl h a.length 0 (by omega)
    exact Ev_pos (by omega) (by simpa using this)
  · exact Ev_neg (by omega) (Ev_is (by rw [decide_eq_false (fun e => h (congrArg List.length e))]))
theorem eqInt_refl (a : List Int) (hl : a.length ≤ 1048576) : Ev (fun k => laws_eqIntS.f k a a) true := by
  have := eqInt_ev a a hl
  simpa using this

theorem l1In_eq (a b c : Int) : spec_l1In.f a b c = some (decide (b ≤ a ∧ a ≤ c)) := by
  unfold spec_l1In.f
  by_cases h : b ≤ a <;> simp [h]

def okW (n : Int) : Bool := decide (0 ≤ n ∧ n ≤ 281474976710655)
def cellsOkV (l : List Int) : Bool := l.all okW && ((l.length : Int) == 71)
theorem okW_in (n : Int) : spec_l1In.f n 0 281474976710655 = some (okW n) := l1In_eq _ _ _
theorem cellsOkV_len (l : List Int) (h : cellsOkV l = true) : l.length = 71 := by
  unfold cellsOkV at h
  rw [Bool.and_eq_true, beq_iff_eq] at h
  omega
theorem cellsOkV_at (l : List Int) (h : cellsOkV l = true) (i : Int) (h0 : 0 ≤ i) (h1 : i ≤ 70) : 0 ≤ rd l i ∧ rd l i ≤ 281474976710655 := by
  have hl := cellsOkV_len l h
  obtain ⟨n, rfl⟩ := Int.eq_ofNat_of_zero_le h0
  have hn : n < l.length := by omega
  unfold cellsOkV at h
  rw [Bool.and_eq_true, List.all_eq_true] at h
  have := h.1 _ (List.getElem_mem hn)
  unfold okW at this
  rw [rd_get l n hn]
  exact of_decide_eq_true this
theorem cellsOkV_set (l : List Int) (h : cellsOkV l = true) (i : Nat) (n : Int) (hn : okW n = true) : cellsOkV (l.set i n) = true := by
  unfold cellsOkV at h ⊢
  rw [Bool.and_eq_true, List.all_eq_true] at h
  rw [Bool.and_eq_true, List.all_eq_true, List.length_set]
  refine ⟨fun x hx => ?_, h.2⟩
  rcases List.mem_or_eq_of_mem_set hx with hx | hx
  · exact h.1 x hx
  · rw [hx]; exact hn

def loadV (a : List Int) (i : Int) : Int × Bool := if cellsOkV a = true ∧ 0 ≤ i ∧ i ≤ 70 then (rd a i, true) else (0, false)

theorem spec_cellsOk_l (l : List Int) (hl : l.length ≤ 17592186044415) : ∀ (d i : Nat), i + d = l.length → Ev (fun k => spec_CellsOk.l0 k l (i : Int)) ((l.drop i).all okW && ((l.length : Int) == 71)) := by
  intro d
  induction d with
  | zero =>
    intro i hi
    refine Ev.step (fun k => spec_CellsOk.l0.eq_2 _ _ k) (Ev_neg (by omega) (Ev_is ?_))
    rw [List.drop_eq_nil_of_le (by omega)]; simp
  | succ d ih =>
    intro i hi
    have h : i < l.length := by omega
    refine Ev.step (fun k => spec_CellsOk.l0.eq_2 _ _ k) (Ev_pos (by omega) (Ev_pos (by omega) (Ev_bindp (okW_in _) ?_)))
    rw [rd_get l i h, List.drop_eq_getElem_cons h, List.all_cons]
    by_cases c : okW l[i] = true
    · refine Ev_pos c ?_
      rw [show wrap64 ((i : Int) + 1) = ((i + 1 : Nat) : Int) by rw [w64 (by omega) (by omega)]; omega, c, Bool.true_and]
      exact ih (i + 1) (by omega)
    · exact Ev_neg c (Ev_is (by rw [Bool.eq_false_iff.2 c]; rfl))
theorem spec_CellsOk_ev (l : List Int) (hl : l.length ≤ 17592186044415) : Ev (fun k => spec_CellsOk.f k l) (cellsOkV l) := by
  have := spec_cellsOk_l l hl l.length 0 (by omega)
  rw [List.drop_zero] at this
  exact this

theorem spec_l2At_ev (a : List Int) (i : Int) (hl : a.length ≤ 17592186044415) : Ev (fun k => spec_l2At.f k a i) (cellsOkV a && decide (0 ≤ i ∧ i ≤ 70)) := by
  refine Ev.bind (spec_CellsOk_ev a hl) ?_
  by_cases h : cellsOkV a = true
  · exact Ev_pos h (Ev_bindp (l1In_eq _ _ _) (Ev_is (by rw [h, Bool.true_and])))
  · exact Ev_neg h (Ev_is (by rw [Bool.eq_false_iff.2 h]; rfl))

theorem spec_LoadCell_ev (a : List Int) (i : Int) (hl : a.length ≤ 17592186044415) : Ev (fun k => spec_LoadCell.f k a i) (loadV a i) := by
  refine Ev.bind (spec_l2At_ev a i hl) ?_
  unfold loadV
  by_cases h : cellsOkV a = true ∧ 0 ≤ i ∧ i ≤ 70
  · have hz := cellsOkV_len a h.1
    rw [if_pos h]
    exact Ev_pos (by rw [h.1, Bool.true_and]; exact decide_eq_true h.2) (Ev_pos (by omega) (Ev_pos (by omega) (Ev.now _)))
  · rw [if_neg h]
    exact Ev_neg (by rw [Bool.and_eq_true, decide_eq_true_eq]; exact h) (Ev.now _)

theorem impl_cellsOk_l (l : List Int) (hl : l.length ≤ 17592186044415) : ∀ (d i : Nat), i + d = l.length → Ev (fun k => impl_CellsOk.l0 k l (i : Int)) ((l.drop i).all okW && ((l.length : Int) == 71)) := by
  intro d
  induction d with
  | zero =>
    intro i hi
    refine Ev.step (fun k => impl_CellsOk.l0.eq_2 _ _ k) (Ev_neg (by omega) (Ev_is ?_))
    rw [List.drop_eq_nil_of_le (by omega)]; simp
  | succ d ih =>
    intro i hi
    have h : i < l.length := by omega
    refine Ev.step (fun k => impl_CellsOk.l0.eq_2 _ _ k) (Ev_pos (by omega) (Ev_pos (by omega) (Ev_bindp (okW_in _) ?_)))
    rw [rd_get l i h, List.drop_eq_getElem_cons h, List.all_cons]
    by_cases c : okW l[i] = true
    · refine Ev_pos c ?_
      rw [show wrap64 ((i : Int) + 1) = ((i + 1 : Nat) : Int) by rw [w64 (by omega) (by omega)]; omega, c, Bool.true_and]
      exact ih (i + 1) (by omega)
    · exact Ev_neg c (Ev_is (by rw [Bool.eq_false_iff.2 c]; rfl))
theorem impl_CellsOk_ev (l : List Int) (hl : l.length ≤ 17592186044415) : Ev (fun k => impl_CellsOk.f k l) (cellsOkV l) := by
  have := impl_cellsOk_l l hl l.length 0 (by omega)
  rw [List.drop_zero] at this
  exact this

theorem within_eq (a b c : Int) : impl_within.f a b c = some (decide (b ≤ a ∧ a ≤ c)) := by
  unfold impl_within.f
  by_cases h : b ≤ a <;> simp [h]

theorem impl_LoadCell_ev (a : List Int) (i : Int) (hl : a.length ≤ 17592186044415) : Ev (fun k => impl_LoadCell.f k a i) (loadV a i) := by
  refine Ev.bind (impl_CellsOk_ev a hl) ?_
  by_cases c : cellsOkV a = true
  · have hz := cellsOkV_len a c
    refine Ev_pos c (Ev_bindp (within_eq _ _ _) ?_)
    rw [w64 (by omega) (by omega), hz]
    by_cases h : 0 ≤ i ∧ i ≤ 70
    · have e : loadV a i = (rd a i, true) := by unfold loadV; rw [if_pos ⟨c, h⟩]
      rw [e]
      exact Ev_pos (decide_eq_true (by omega)) (Ev_pos (by omega) (Ev_pos (by omega) (Ev.now _)))
    · have e : loadV a i = (0, false) := by unfold loadV; rw [if_neg (fun x => h x.2)]
      rw [e]
      exact Ev_neg (by simp; omega) (Ev.now _)
  · have e : loadV a i = (0, false) := by unfold loadV; rw [if_neg (fun x => c x.1)]
    rw [e]
    exact Ev_neg c (Ev.now _)

theorem FnExactLoadCell : laws_FnExactLoadCell.Pure := by
  intro l i hm h8 hw hi
  refine Ev.rounds (r := true) ?_
  by_cases h : (l.length : Int) > 1048576
  · exact Ev_pos h (Ev.now _)
  have hl : l.length ≤ 1048576 := by omega
  refine Ev_neg h (Ev.bind (toInt_ev l hl) (Ev.bind (spec_LoadCell_ev l i (by omega)) (Ev.bind (toInt_ev l hl) (Ev.bind (impl_LoadCell_ev l i (by omega)) (Ev_pos rfl ?_)))))
  rw [show ((loadV l i).2 != (loadV l i).2) = false by simp]
  exact Ev.step (fun k => laws_FnExactLoadCell.j0.eq_2 _ _ _ k) (Ev_neg (by decide) (Ev.bind (toInt_ev l hl) (Ev.bind (eqInt_refl l hl) (Ev_pos rfl (Ev.now _)))))

end Go.Proofs.Ytgpbkfblbibafaa.Pure
