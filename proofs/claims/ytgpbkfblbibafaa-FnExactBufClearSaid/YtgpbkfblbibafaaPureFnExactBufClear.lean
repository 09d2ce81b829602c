/- What is proved here: the Go law FnExactBufClear answers true for every input, over the functions that print.sh printed; no condition. -/
import Derived.Test.YtgpbkfblbibafaaQFnExactBufClearx2
set_option linter.unusedVariables false
set_option linter.unusedSimpArgs false
namespace Go.Proofs.Ytgpbkfblbibafaa.Pure
open Go.RowKit Go.Proofs.Ytgpbkfblbibafaa.PFnExactBufClear Go.Proofs.YtgpbkfblbibafaaW.PrintWords Go.Proofs.YtgpbkfblbibafaaW.PrintLast

theorem Ev_pos {α : Type} {c : Prop} [Decidable c] {a b : Nat → Option α} {r : α} (h : c) (e : Ev a r) : Ev (fun k => if c then a k else b k) r :=
  Ev.congr (fun k => if_pos h) e
theorem Ev_neg {α : Type} {c : Prop} [Decidable c] {a b : Nat → Option α} {r : α} (h : ¬ c) (e : Ev b r) : Ev (fun k => if c then a k else b k) r :=
  Ev.congr (fun k => if_neg h) e
theorem Ev_bindp {α β : Type} {x : Option α} {f : Nat → α → Option β} {a : α} {r : β} (h : x = some a) (e : Ev (fun n => f n a) r) : Ev (fun n => x.bind (f n)) r := by
  subst h
  exact e
theorem Ev_is {α : Type} {x : Option α} {r : α} (h : x = some r) : Ev (fun _ => x) r := ⟨0, fun _ _ => h⟩

theorem w64 {n : Int} (h0 : -9223372036854775808 ≤ n) (h1 : n ≤ 9223372036854775807) : wrap64 n = n := by
  unfold wrap64
  omega

theorem dec_cons_eq {a b : Int} (h : a = b) (l m : List Int) : decide (a :: l = b :: m) = decide (l = m) := by
  subst h
  exact decide_eq_decide.2 ⟨fun e => (List.cons.inj e).2, fun e => by rw [e]⟩
theorem dec_cons_ne {a b : Int} (h : a ≠ b) (l m : List Int) : decide (a :: l = b :: m) = false := decide_eq_false (fun e => h (List.cons.inj e).1)
theorem rd_get (l : List Int) (i : Nat) (h : i < l.length) : rd l (i : Int) = l[i] := by simp [rd, List.getD_eq_getElem?_getD, List.getElem?_eq_getElem h]

theorem toInt_l (l : List Int) (hl : l.length ≤ 1048576) : ∀ (d i : Nat), i + d = l.length → Ev (fun k => laws_toIntS.l0 k l (l.take i ++ List.replicate d 0) (i : Int)) l := by
  intro d
  induction d with
  | zero =>
    intro i hi
    refine Ev.step (fun k => laws_toIntS.l0.eq_2 _ _ _ k) (Ev_neg (by omega) (Ev_is ?_))
    rw [List.take_of_length_le (by omega)]; simp
  | succ d ih =>
    intro i hi
    have h : i < l.length := by omega
    have ht : (l.take i).length = i := by simp; omega
    refine Ev.step (fun k => laws_toIntS.l0.eq_2 _ _ _ k) (Ev_pos (by omega) (Ev_pos (by omega) (Ev_pos (by simp; omega) ?_)))
    have e : (l.take i ++ List.replicate (d + 1) 0).set ((i : Int)).toNat (rd l (i : Int)) = l.take (i + 1) ++ List.replicate d 0 := by
      rw [Int.toNat_natCast, List.set_append_right _ _ (by omega), ht, Nat.sub_self, List.replicate_succ, List.set_cons_zero, rd_get l i h, List.take_succ_eq_append_getElem h, List.append_assoc]
      rfl
    rw [e, show wrap64 ((i : Int) + 1) = ((i + 1 : Nat) : Int) by rw [w64 (by omega) (by omega)]; omega]
    exact ih (i + 1) (by omega)
theorem toInt_ev (l : List Int) (hl : l.length ≤ 1048576) : Ev (fun k => laws_toIntS.f k l) l := by
  refine Ev_pos (by omega) (Ev_pos (by omega) ?_)
  have := toInt_l l hl l.length 0 (by omega)
  simpa using this

theorem eqInt_l (a b : List Int) (hl : a.length ≤ 1048576) (hab : a.length = b.length) : ∀ (d i : Nat), i + d = a.length → Ev (fun k => laws_eqIntS.l0 k a b (i : Int)) (decide (a.drop i = b.drop i)) := by
  intro d
  induction d with
  | zero =>
    intro i hi
    refine Ev.step (fun k => laws_eqIntS.l0.eq_2 _ _ _ k) (Ev_neg (by omega) (Ev_is ?_))
    rw [List.drop_eq_nil_of_le (by omega), List.drop_eq_nil_of_le (by omega)]; simp
  | succ d ih =>
    intro i hi
    have h : i < a.length := by omega
    have h' : i < b.length := by omega
    refine Ev.step (fun k => laws_eqIntS.l0.eq_2 _ _ _ k) (Ev_pos (by omega) (Ev_pos (by omega) (Ev_pos (by omega) ?_)))
    rw [rd_get a i h, rd_get b i h', List.drop_eq_getElem_cons h, List.drop_eq_getElem_cons h']
    by_cases c : a[i] = b[i]
    · refine Ev_pos c ?_
      rw [show wrap64 ((i : Int) + 1) = ((i + 1 : Nat) : Int) by rw [w64 (by omega) (by omega)]; omega]
      rw [dec_cons_eq c]
      exact ih (i + 1) (by omega)
    · exact Ev_neg c (Ev_is (by rw [dec_cons_ne c]))
theorem eqInt_ev (a b : List Int) (hl : a.length ≤ 1048576) : Ev (fun k => laws_eqIntS.f k a b) (decide (a = b)) := by
  by_cases h : a.length = b.length
  · have := eqInt_l a b hl h a.length 0 (by omega)
    exact Ev_pos (by omega) (by simpa using this)
  · exact Ev_neg (by omega) (Ev_is (by rw [decide_eq_false (fun e => h (congrArg List.length e))]))
theorem eqInt_refl (a : List Int) (hl : a.length ≤ 1048576) : Ev (fun k => laws_eqIntS.f k a a) true := by
  have := eqInt_ev a a hl
  simpa using this

theorem l1In_eq (a b c : Int) : spec_l1In.f a b c = some (decide (b ≤ a ∧ a ≤ c)) := by
  unfold spec_l1In.f
  by_cases h : b ≤ a <;> simp [h]

def okW (n : Int) : Bool := decide (0 ≤ n ∧ n ≤ 281474976710655)
def cellsOkV (l : List Int) : Bool := l.all okW && ((l.length : Int) == 71)
theorem okW_in (n : Int) : spec_l1In.f n 0 281474976710655 = some (okW n) := l1In_eq _ _ _
theorem cellsOkV_len (l : List Int) (h : cellsOkV l = true) : l.length = 71 := by
  unfold cellsOkV at h
  rw [Bool.and_eq_true, beq_iff_eq] at h
  omega
theorem cellsOkV_at (l : List Int) (h : cellsOkV l = true) (i : Int) (h0 : 0 ≤ i) (h1 : i ≤ 70) : 0 ≤ rd l i ∧ rd l i ≤ 281474976710655 := by
  have hl := cellsOkV_len l h
  obtain ⟨n, rfl⟩ := Int.eq_ofNat_of_zero_le h0
  have hn : n < l.length := by omega
  unfold cellsOkV at h
  rw [Bool.and_eq_true, List.all_eq_true] at h
  have := h.1 _ (List.getElem_mem hn)
  unfold okW at this
  rw [rd_get l n hn]
  exact of_decide_eq_true this
theorem cellsOkV_set (l : List Int) (h : cellsOkV l = true) (i : Nat) (n : Int) (hn : okW n = true) : cellsOkV (l.set i n) = true := by
  unfold cellsOkV at h ⊢
  rw [Bool.and_eq_true, List.all_eq_true] at h
  rw [Bool.and_eq_true, List.all_eq_true, List.length_set]
  refine ⟨fun x hx => ?_, h.2⟩
  rcases List.mem_or_eq_of_mem_set hx with hx | hx
  · exact h.1 x hx
  · rw [hx]; exact hn

theorem spec_InCell_eq (b : Int) : spec_InCell.f b = some (if 0 ≤ b ∧ b ≤ 1 then 1 + b else -1) := by
  unfold spec_InCell.f
  rw [l1In_eq, Option.bind_some]
  by_cases h : 0 ≤ b ∧ b ≤ 1
  · rw [if_pos (decide_eq_true h), if_pos h, w64 (by omega) (by omega)]
  · rw [if_neg (by simpa using h), if_neg h]

theorem copy_eq (l : List Int) (hl : l.length < 17592186044416) : spec_l2Copy.f l = some l := by
  unfold spec_l2Copy.f
  simp only [Option.bind_some, List.nil_append, List.length_nil]
  rw [if_pos (by omega)]

def clearV (a : List Int) (b : Int) : List Int := if cellsOkV a = true ∧ 0 ≤ b ∧ b ≤ 1 then setZ a (7 + 32 * b.toNat) 32 else a
theorem clearV_length (a : List Int) (b : Int) : (clearV a b).length = a.length := by
  unfold clearV
  split
  · exact setZ_length _ _ _
  · rfl

theorem setZ_get : ∀ (n o : Nat) (l : List Int) (j : Nat), (setZ l o n)[j]? = if o ≤ j ∧ j < o + n ∧ j < l.length then some 0 else l[j]?
  | 0, o, l, j => by simp only [setZ]; rw [if_neg (by omega)]
  | n + 1, o, l, j => by
    simp only [setZ]
    rw [setZ_get n (o + 1) (l.set o 0) j, List.length_set, List.getElem?_set]
    by_cases c1 : o = j
    · subst c1
      rw [if_neg (by omega)]
      by_cases c2 : o < l.length
      · rw [if_pos rfl, if_pos c2, if_pos ⟨by omega, by omega, c2⟩]
      · rw [if_pos rfl, if_neg c2, if_neg (by omega), List.getElem?_eq_none (by omega)]
    · rw [if_neg c1]
      by_cases c3 : o + 1 ≤ j ∧ j < o + 1 + n ∧ j < l.length
      · rw [if_pos c3, if_pos (by omega)]
      · rw [if_neg c3, if_neg (by omega)]
theorem setZ_same (l : List Int) (o n : Nat) (h : o + n ≤ l.length) : (l = setZ l o n) ↔ ∀ j, j < n → rd l ((o + j : Nat) : Int) = 0 := by
  constructor
  · intro e j hj
    have hlt : o + j < l.length := by omega
    rw [rd_get l (o + j) hlt]
    have := setZ_get n o l (o + j)
    rw [← e, if_pos (by omega), List.getElem?_eq_getElem hlt] at this
    exact Option.some.inj this
  · intro hz
    apply List.ext_getElem?
    intro j
    rw [setZ_get]
    by_cases c : o ≤ j ∧ j < o + n ∧ j < l.length
    · rw [if_pos c, List.getElem?_eq_getElem c.2.2]
      have := hz (j - o) (by omega)
      rw [show o + (j - o) = j by omega, rd_get l j c.2.2] at this
      rw [this]
    · rw [if_neg c]
def zB (a : List Int) (o : Nat) : Bool := (List.range 32).all fun j => rd a ((o + j : Nat) : Int) == 0
theorem zB_iff (a : List Int) (o : Nat) : zB a o = true ↔ ∀ j, j < 32 → rd a ((o + j : Nat) : Int) = 0 := by
  unfold zB
  rw [List.all_eq_true]
  constructor
  · intro h j hj
    exact beq_iff_eq.1 (h j (List.mem_range.2 hj))
  · intro h j hj
    exact beq_iff_eq.2 (h j (List.mem_range.1 hj))
def bufClearV (a : List Int) (b : Int) : Bool := if cellsOkV a = true ∧ 0 ≤ b ∧ b ≤ 1 then zB a (7 + 32 * b.toNat) else false

theorem spec_cellsOk_l (l : List Int) (hl : l.length ≤ 17592186044415) : ∀ (d i : Nat), i + d = l.length → Ev (fun k => spec_CellsOk.l0 k l (i : Int)) ((l.drop i).all okW && ((l.length : Int) == 71)) := by
  intro d
  induction d with
  | zero =>
    intro i hi
    refine Ev.step (fun k => spec_CellsOk.l0.eq_2 _ _ k) (Ev_neg (by omega) (Ev_is ?_))
    rw [List.drop_eq_nil_of_le (by omega)]; simp
  | succ d ih =>
    intro i hi
    have h : i < l.length := by omega
    refine Ev.step (fun k => spec_CellsOk.l0.eq_2 _ _ k) (Ev_pos (by omega) (Ev_pos (by omega) (Ev_bindp (okW_in _) ?_)))
    rw [rd_get l i h, List.drop_eq_getElem_cons h, List.all_cons]
    by_cases c : okW l[i] = true
    · refine Ev_pos c ?_
      rw [show wrap64 ((i : Int) + 1) = ((i + 1 : Nat) : Int) by rw [w64 (by omega) (by omega)]; omega, c, Bool.true_and]
      exact ih (i + 1) (by omega)
    · exact Ev_neg c (Ev_is (by rw [Bool.eq_false_iff.2 c]; rfl))
theorem spec_CellsOk_ev (l : List Int) (hl : l.length ≤ 17592186044415) : Ev (fun k => spec_CellsOk.f k l) (cellsOkV l) := by
  have := spec_cellsOk_l l hl l.length 0 (by omega)
  rw [List.drop_zero] at this
  exact this

theorem spec_bufClear_l (a : List Int) (b : Int) (hb : 0 ≤ b ∧ b ≤ 1) (hx : a.length = 71) : ∀ (d i : Nat), i + d = 32 → (∀ j, j < i → rd a ((7 + 32 * b.toNat + j : Nat) : Int) = 0) → Ev (fun k => spec_BufClear.l0 k a b (i : Int)) (zB a (7 + 32 * b.toNat)) := by
  intro d
  induction d with
  | zero =>
    intro i hi hz
    obtain rfl : i = 32 := by omega
    exact Ev.step (fun k => spec_BufClear.l0.eq_2 _ _ _ k) (Ev_neg (by omega) (Ev_is (by rw [(zB_iff a _).2 hz])))
  | succ d ih =>
    intro i hi hz
    have e1 : wrap64 (wrap64 (7 + wrap64 (b * 32)) + (i : Int)) = ((7 + 32 * b.toNat + i : Nat) : Int) := by
      rw [w64 (n := b * 32) (by omega) (by omega), w64 (n := 7 + b * 32) (by omega) (by omega), w64 (by omega) (by omega)]; omega
    have e2 : wrap64 ((i : Int) + 1) = ((i + 1 : Nat) : Int) := by rw [w64 (by omega) (by omega)]; omega
    refine Ev.step (fun k => spec_BufClear.l0.eq_2 _ _ _ k) (Ev_pos (by omega) ?_)
    rw [e1, e2]
    refine Ev_pos (by omega) (Ev_pos (by omega) ?_)
    by_cases c : rd a ((7 + 32 * b.toNat + i : Nat) : Int) = 0
    · exact Ev_pos c (ih (i + 1) (by omega) fun j hj => by
        rcases Nat.lt_or_ge j i with h' | h'
        · exact hz j h'
        · obtain rfl : j = i := by omega
          exact c)
    · exact Ev_neg c (Ev_is (by rw [Bool.eq_false_iff.2 (fun hh => c ((zB_iff a _).1 hh i (by omega)))]))
theorem spec_BufClear_ev (a : List Int) (b : Int) (hl : a.length ≤ 17592186044415) : Ev (fun k => spec_BufClear.f k a b) (bufClearV a b) := by
  refine Ev.bind (spec_CellsOk_ev a hl) ?_
  by_cases c : cellsOkV a = true
  · refine Ev_pos c (Ev_bindp (spec_InCell_eq b) ?_)
    by_cases hb : 0 ≤ b ∧ b ≤ 1
    · have e : bufClearV a b = zB a (7 + 32 * b.toNat) := by unfold bufClearV; rw [if_pos ⟨c, hb⟩]
      rw [e, if_pos hb, show decide (1 + b < 0) = false by simp; omega]
      exact Ev.step (fun k => spec_BufClear.j0.eq_2 _ _ _ k) (Ev_neg (by decide) (spec_bufClear_l a b hb (cellsOkV_len a c) 32 0 (by omega) (fun j hj => by omega)))
    · have e : bufClearV a b = false := by unfold bufClearV; rw [if_neg (fun x => hb x.2)]
      rw [e, if_neg hb]
      exact Ev.step (fun k => spec_BufClear.j0.eq_2 _ _ _ k) (Ev_pos (by decide) (Ev.now _))
  · have e : bufClearV a b = false := by unfold bufClearV; rw [if_neg (fun x => c x.1)]
    rw [e]
    exact Ev_neg c (Ev.step (fun k => spec_BufClear.j0.eq_2 _ _ _ k) (Ev_pos rfl (Ev.now _)))

theorem impl_cellsOk_l (l : List Int) (hl : l.length ≤ 17592186044415) : ∀ (d i : Nat), i + d = l.length → Ev (fun k => impl_CellsOk.l0 k l (i : Int)) ((l.drop i).all okW && ((l.length : Int) == 71)) := by
  intro d
  induction d with
  | zero =>
    intro i hi
    refine Ev.step (fun k => impl_CellsOk.l0.eq_2 _ _ k) (Ev_neg (by omega) (Ev_is ?_))
    rw [List.drop_eq_nil_of_le (by omega)]; simp
  | succ d ih =>
    intro i hi
    have h : i < l.length := by omega
    refine Ev.step (fun k => impl_CellsOk.l0.eq_2 _ _ k) (Ev_pos (by omega) (Ev_pos (by omega) (Ev_bindp (okW_in _) ?_)))
    rw [rd_get l i h, List.drop_eq_getElem_cons h, List.all_cons]
    by_cases c : okW l[i] = true
    · refine Ev_pos c ?_
      rw [show wrap64 ((i : Int) + 1) = ((i + 1 : Nat) : Int) by rw [w64 (by omega) (by omega)]; omega, c, Bool.true_and]
      exact ih (i + 1) (by omega)
    · exact Ev_neg c (Ev_is (by rw [Bool.eq_false_iff.2 c]; rfl))
theorem impl_CellsOk_ev (l : List Int) (hl : l.length ≤ 17592186044415) : Ev (fun k => impl_CellsOk.f k l) (cellsOkV l) := by
  have := impl_cellsOk_l l hl l.length 0 (by omega)
  rw [List.drop_zero] at this
  exact this

theorem impl_clear_l (b : Int) (hb : 0 ≤ b ∧ b ≤ 1) : ∀ (d i : Nat) (x : List Int), i + d = 32 → x.length = 71 → Ev (fun k => impl_ClearBuf.l0 k b x (i : Int)) (setZ x (7 + 32 * b.toNat + i) d) := by
  intro d
  induction d with
  | zero =>
    intro i x hi hx
    exact Ev.step (fun k => impl_ClearBuf.l0.eq_2 _ _ _ k) (Ev_neg (by omega) (Ev.now _))
  | succ d ih =>
    intro i x hi hx
    have e1 : wrap64 (wrap64 (7 + wrap64 (b * 32)) + (i : Int)) = ((7 + 32 * b.toNat + i : Nat) : Int) := by
      rw [w64 (n := b * 32) (by omega) (by omega), w64 (n := 7 + b * 32) (by omega) (by omega), w64 (by omega) (by omega)]; omega
    have e2 : wrap64 ((i : Int) + 1) = ((i + 1 : Nat) : Int) := by rw [w64 (by omega) (by omega)]; omega
    refine Ev.step (fun k => impl_ClearBuf.l0.eq_2 _ _ _ k) (Ev_pos (by omega) ?_)
    rw [e1, e2]
    refine Ev_pos (by omega) (Ev_pos (by omega) ?_)
    rw [Int.toNat_natCast]
    exact ih (i + 1) _ (by omega) (by rw [List.length_set]; exact hx)
theorem impl_ClearBuf_ev (a : List Int) (b : Int) (hl : a.length ≤ 17592186044415) : Ev (fun k => impl_ClearBuf.f k a b) (clearV a b) := by
  refine Ev_bindp (copy_eq a (by omega)) (Ev.bind (spec_CellsOk_ev a hl) ?_)
  by_cases c : cellsOkV a = true
  · refine Ev_pos c (Ev_bindp (spec_InCell_eq b) ?_)
    by_cases hb : 0 ≤ b ∧ b ≤ 1
    · have e : clearV a b = setZ a (7 + 32 * b.toNat) 32 := by unfold clearV; rw [if_pos ⟨c, hb⟩]
      rw [e, if_pos hb, show decide (1 + b < 0) = false by simp; omega]
      exact Ev.step (fun k => impl_ClearBuf.j0.eq_2 _ _ _ k) (Ev_neg (by decide) (impl_clear_l b hb 32 0 a (by omega) (cellsOkV_len a c)))
    · have e : clearV a b = a := by unfold clearV; rw [if_neg (fun x => hb x.2)]
      rw [e, if_neg hb]
      exact Ev.step (fun k => impl_ClearBuf.j0.eq_2 _ _ _ k) (Ev_pos (by decide) (Ev.now _))
  · have e : clearV a b = a := by unfold clearV; rw [if_neg (fun x => c x.1)]
    rw [e]
    exact Ev_neg c (Ev.step (fun k => impl_ClearBuf.j0.eq_2 _ _ _ k) (Ev_pos rfl (Ev.now _)))

theorem impl_same_l (a b : List Int) (hl : a.length ≤ 1048576) (hab : a.length = b.length) : ∀ (d i : Nat), i + d = a.length → Ev (fun k => slices_Equal_int_int.l0 k a b (a.length : Int) (i : Int)) (decide (a.drop i = b.drop i)) := by
  intro d
  induction d with
  | zero =>
    intro i hi
    refine Ev.step (fun k => slices_Equal_int_int.l0.eq_2 _ _ _ _ k) (Ev_neg (by omega) (Ev_is ?_))
    rw [List.drop_eq_nil_of_le (by omega), List.drop_eq_nil_of_le (by omega)]; simp
  | succ d ih =>
    intro i hi
    have h : i < a.length := by omega
    have h' : i < b.length := by omega
    refine Ev.step (fun k => slices_Equal_int_int.l0.eq_2 _ _ _ _ k) (Ev_pos (by omega) (Ev_pos (by omega) (Ev_pos (by omega) (Ev_pos (by omega) ?_))))
    rw [rd_get a i h, rd_get b i h', List.drop_eq_getElem_cons h, List.drop_eq_getElem_cons h']
    by_cases c : a[i] = b[i]
    · refine Ev_pos c ?_
      rw [show wrap64 ((i : Int) + 1) = ((i + 1 : Nat) : Int) by rw [w64 (by omega) (by omega)]; omega]
      rw [dec_cons_eq c]
      exact ih (i + 1) (by omega)
    · exact Ev_neg c (Ev_is (by rw [dec_cons_ne c]))
theorem impl_SameCells_ev (a b : List Int) (hl : a.length ≤ 1048576) : Ev (fun k => impl_SameCells.f k a b) (decide (a = b)) := by
  refine Ev.bind (a := decide (a = b)) ?_ (Ev.now _)
  by_cases h : a.length = b.length
  · have := impl_same_l a b hl h a.length 0 (by omega)
    exact Ev_pos (by omega) (by simpa using this)
  · exact Ev_neg (by omega) (Ev_is (by rw [decide_eq_false (fun e => h (congrArg List.length e))]))

theorem impl_BufClear_ev (a : List Int) (b : Int) (hl : a.length ≤ 1048576) : Ev (fun k => impl_BufClear.f k a b) (bufClearV a b) := by
  refine Ev.bind (impl_CellsOk_ev a (by omega)) ?_
  by_cases c : cellsOkV a = true
  · have hz := cellsOkV_len a c
    refine Ev_pos c (Ev_bindp (slotBase_is b) ?_)
    by_cases hb : 0 ≤ b ∧ b ≤ 1
    · have e : bufClearV a b = zB a (7 + 32 * b.toNat) := by unfold bufClearV; rw [if_pos ⟨c, hb⟩]
      have ec : clearV a b = setZ a (7 + 32 * b.toNat) 32 := by unfold clearV; rw [if_pos ⟨c, hb⟩]
      rw [e, if_pos hb]
      refine Ev_pos (by omega) (Ev.bind (impl_ClearBuf_ev a b (by omega)) (Ev.bind (impl_SameCells_ev _ _ hl) (Ev_is ?_)))
      rw [ec]
      have hs := setZ_same a (7 + 32 * b.toNat) 32 (by omega)
      generalize setZ a (7 + 32 * b.toNat) 32 = z at hs ⊢
      rw [Option.some.injEq, Bool.eq_iff_iff, decide_eq_true_eq, zB_iff]
      exact hs
    · have e : bufClearV a b = false := by unfold bufClearV; rw [if_neg (fun x => hb x.2)]
      rw [e, if_neg hb]
      exact Ev_neg (by omega) (Ev.now _)
  · have e : bufClearV a b = false := by unfold bufClearV; rw [if_neg (fun x => c x.1)]
    rw [e]
    exact Ev_neg c (Ev.now _)

theorem FnExactBufClear : laws_FnExactBufClear.Pure := by
  intro l b hm h8 hw hb
  refine Ev.rounds (r := true) ?_
  by_cases h : (l.length : Int) > 1048576
  · exact Ev_pos h (Ev.now _)
  have hl : l.length ≤ 1048576 := by omega
  exact Ev_neg h (Ev.bind (toInt_ev l hl) (Ev.bind (spec_BufClear_ev l b (by omega)) (Ev.bind (toInt_ev l hl) (Ev.bind (impl_BufClear_ev l b hl) (Ev_neg (by simp) (Ev.bind (toInt_ev l hl) (Ev.bind (eqInt_refl l hl) (Ev_pos rfl (Ev.now _)))))))))

end Go.Proofs.Ytgpbkfblbibafaa.Pure
