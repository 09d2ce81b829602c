/- What is proved here: the Go law FnCells answers true for every input, over the functions that print.sh printed; no condition. -/
import Derived.Test.YtgpbkfblbibafaaQFnCellsx4
set_option linter.unusedVariables false
set_option linter.unusedSimpArgs false
namespace Go.Proofs.Ytgpbkfblbibafaa.Pure
open Go.RowKit Go.Proofs.Ytgpbkfblbibafaa.PFnCells Go.Proofs.YtgpbkfblbibafaaW.PrintWords Go.Proofs.YtgpbkfblbibafaaW.PrintLast

theorem Ev_pos {α : Type} {c : Prop} [Decidable c] {a b : Nat → Option α} {r : α} (h : c) (e : Ev a r) : Ev (fun k => if c then a k else b k) r :=
  Ev.congr (fun k => if_pos h) e
theorem Ev_neg {α : Type} {c : Prop} [Decidable c] {a b : Nat → Option α} {r : α} (h : ¬ c) (e : Ev b r) : Ev (fun k => if c then a k else b k) r :=
  Ev.congr (fun k => if_neg h) e
theorem Ev_bindp {α β : Type} {x : Option α} {f : Nat → α → Option β} {a : α} {r : β} (h : x = some a) (e : Ev (fun n => f n a) r) : Ev (fun n => x.bind (f n)) r := by
  subst h
  exact e
theorem Ev_is {α : Type} {x : Option α} {r : α} (h : x = some r) : Ev (fun _ => x) r := ⟨0, fun _ _ => h⟩

theorem w64 {n : Int} (h0 : -9223372036854775808 ≤ n) (h1 : n ≤ 9223372036854775807) : wrap64 n = n := by
  unfold wrap64
  omega

theorem and255 (n : Int) : Go.bits .and .i64 n 255 = n % 256 := by
  have h255 : (BitVec.ofInt 64 255).toNat = 2 ^ 8 - 1 := by decide
  have key : (BitVec.ofInt 64 n &&& BitVec.ofInt 64 255).toNat = (n % ((2 ^ 64 : Nat) : Int)).toNat % 2 ^ 8 := by
    rw [BitVec.toNat_and, BitVec.toNat_ofInt, h255, Nat.and_two_pow_sub_one_eq_mod]
  show IntKind.i64.wrap ((BitVec.ofInt 64 n &&& BitVec.ofInt 64 255).toNat : Nat) = n % 256
  rw [key, IntKind.wrap_i64]
  omega
/-- A draw's function comes to an answer that meets P, and hands on a cursor that lies in the code. -/
def Dr {α : Type} (f : Option (α × Int × Int)) (P : α → Prop) : Prop := ∃ b i h, f = some (b, i, h) ∧ P b ∧ 0 ≤ i ∧ i ≤ 1048576
theorem l1Byte_dr (l : List Int) (hl : l.length ≤ 1048576) (i h : Int) (h0 : 0 ≤ i) (h1 : i ≤ 1048576) : Dr (spec_l1Byte.f l i h) (fun b => 0 ≤ b ∧ b ≤ 255) := by
  unfold spec_l1Byte.f
  by_cases c : i < (l.length : Int)
  · rw [if_pos c, if_pos h0]
    refine ⟨_, _, _, rfl, ?_, ?_⟩
    · rw [and255]; omega
    · rw [w64 (by omega) (by omega)]; omega
  · rw [if_neg c]
    refine ⟨_, _, _, rfl, ?_, h0, h1⟩
    rw [and255]; omega
theorem l1Below_dr (l : List Int) (hl : l.length ≤ 1048576) (i h n : Int) (h0 : 0 ≤ i) (h1 : i ≤ 1048576) (hn : 0 < n) : Dr (spec_l1Below.f l i h n) (fun b => 0 ≤ b ∧ b < n) := by
  unfold spec_l1Below.f
  rw [if_neg (by omega)]
  by_cases c : n ≤ 256
  · rw [if_pos c]
    obtain ⟨b, i1, g1, e, hb, hi0, hi1⟩ := l1Byte_dr l hl i h h0 h1
    rw [e]
    simp only [Option.bind_some]
    rw [if_neg (by omega)]
    refine ⟨_, _, _, rfl, ?_, hi0, hi1⟩
    rw [Int.tmod_eq_emod_of_nonneg (by omega)]
    exact ⟨Int.emod_nonneg _ (by omega), Int.emod_lt_of_pos _ hn⟩
  · rw [if_neg c]
    obtain ⟨b1, i1, g1, e1, hb1, hi1, hj1⟩ := l1Byte_dr l hl i h h0 h1
    rw [e1]
    simp only [Option.bind_some]
    obtain ⟨b2, i2, g2, e2, hb2, hi2, hj2⟩ := l1Byte_dr l hl i1 g1 hi1 hj1
    rw [e2]
    simp only [Option.bind_some]
    obtain ⟨b3, i3, g3, e3, hb3, hi3, hj3⟩ := l1Byte_dr l hl i2 g2 hi2 hj2
    rw [e3]
    simp only [Option.bind_some]
    obtain ⟨b4, i4, g4, e4, hb4, hi4, hj4⟩ := l1Byte_dr l hl i3 g3 hi3 hj3
    rw [e4]
    simp only [Option.bind_some]
    rw [if_neg (by omega)]
    refine ⟨_, _, _, rfl, ?_, hi4, hj4⟩
    have w1 : wrap64 (b1 * 16777216) = b1 * 16777216 := w64 (by omega) (by omega)
    have w2 : wrap64 (b2 * 65536) = b2 * 65536 := w64 (by omega) (by omega)
    have w3 : wrap64 (b3 * 256) = b3 * 256 := w64 (by omega) (by omega)
    rw [w1, w2, w3, w64 (n := b1 * 16777216 + b2 * 65536) (by omega) (by omega), w64 (n := b1 * 16777216 + b2 * 65536 + b3 * 256) (by omega) (by omega), w64 (by omega) (by omega), Int.tmod_eq_emod_of_nonneg (by omega)]
    exact ⟨Int.emod_nonneg _ (by omega), Int.emod_lt_of_pos _ hn⟩
theorem rdOf_mem {α : Type} (d : α) (xs : List α) (i : Int) (h0 : 0 ≤ i) (h1 : i < (xs.length : Int)) : rdOf d xs i ∈ xs := by
  unfold rdOf
  have h : i.toNat < xs.length := by omega
  rw [List.getD_eq_getElem?_getD, List.getElem?_eq_getElem h]
  exact List.getElem_mem h
theorem rd_mem (xs : List Int) (i : Int) (h0 : 0 ≤ i) (h1 : i < (xs.length : Int)) : rd xs i ∈ xs := by
  unfold rd
  have h : i.toNat < xs.length := by omega
  rw [List.getD_eq_getElem?_getD, List.getElem?_eq_getElem h]
  exact List.getElem_mem h

theorem l1New_l (l : List Int) (hl : l.length ≤ 1048576) : ∀ (d i : Nat) (x : Int), i + d = l.length → ∃ h, Ev (fun k => spec_l1New.l0 k l x (i : Int)) (l, 0, h) := by
  intro d
  induction d with
  | zero =>
    intro i x hi
    exact ⟨x, Ev.step (fun k => spec_l1New.l0.eq_2 _ _ _ k) (Ev_neg (by omega) (Ev.now _))⟩
  | succ d ih =>
    intro i x hi
    by_cases c : (i : Int) < 4000
    · obtain ⟨h, e⟩ := ih (i + 1) (Go.bits .and .i64 (wrap64 ((wrap64 ((wrap64 (x * 131)) + (wrap64 (rd l (i : Int))))) + 7)) 1073741823) (by omega)
      refine ⟨h, Ev.step (fun k => spec_l1New.l0.eq_2 _ _ _ k) (Ev_pos (by omega) (Ev_pos c (Ev_pos (by omega) ?_)))⟩
      rw [show wrap64 ((i : Int) + 1) = ((i + 1 : Nat) : Int) by rw [w64 (by omega) (by omega)]; omega]
      exact e
    · exact ⟨x, Ev.step (fun k => spec_l1New.l0.eq_2 _ _ _ k) (Ev_pos (by omega) (Ev_neg c (Ev.now _)))⟩
theorem l1New_ev (l : List Int) (hl : l.length ≤ 1048576) : ∃ h, Ev (fun k => spec_l1New.f k l) (l, 0, h) := l1New_l l hl l.length 0 _ (by omega)

theorem l1Once_dr (l : List Int) (hl : l.length ≤ 1048576) (i h n : Int) (h0 : 0 ≤ i) (h1 : i ≤ 1048576) (hn : 0 < n) : Dr (spec_l1Once.f l i h n) (fun _ => True) := by
  unfold spec_l1Once.f
  obtain ⟨b, i1, g1, e, hb, hi0, hi1⟩ := l1Below_dr l hl i h n h0 h1 hn
  rw [e]
  exact ⟨_, _, _, rfl, trivial, hi0, hi1⟩

theorem l1PickInt_dr (l : List Int) (hl : l.length ≤ 1048576) (i h : Int) (xs : List Int) (h0 : 0 ≤ i) (h1 : i ≤ 1048576) (hn : 0 < xs.length) : Dr (spec_l1PickInt.f l i h xs) (fun b => b ∈ xs) := by
  unfold spec_l1PickInt.f
  obtain ⟨b, i1, g1, e, hb, hi0, hi1⟩ := l1Below_dr l hl i h (xs.length : Int) h0 h1 (by omega)
  rw [e]
  simp only [Option.bind_some]
  rw [if_pos hb.1, if_pos hb.2]
  exact ⟨_, _, _, rfl, rd_mem _ _ hb.1 hb.2, hi0, hi1⟩

theorem l2Cells_l (l : List Int) (hl : l.length ≤ 1048576) : ∀ (c : Nat) (a : List Int) (i h : Int), a.length = 71 → c ≤ 20 → 0 ≤ i → i ≤ 1048576 →
    ∃ (b : List Int) (i' h' : Int), b.length ≤ 71 ∧ 0 ≤ i' ∧ i' ≤ 1048576 ∧ Ev (fun k => spec_l2Cells.l0 k a (c : Int) l i h) (b, i', h') := by
  intro c
  induction c with
  | zero =>
    intro a i h ha hc h0 h1
    obtain ⟨s, i1, g1, e1, hs, hi0, hi1⟩ := l1Below_dr l hl i h 20 h0 h1 (by omega)
    by_cases q : s = 0
    · refine ⟨_, _, _, ?_, hi0, hi1, Ev.step (fun k => spec_l2Cells.l0.eq_2 _ _ _ _ _ k) (Ev_neg (by omega) (Ev_bindp e1 (Ev_pos q (Ev_pos ?_ (Ev_pos ?_ (Ev.now _))))))⟩
      · rw [List.length_take]; omega
      · rw [ha, w64 (by omega) (by omega)]; omega
      · rw [ha, w64 (by omega) (by omega)]; omega
    · by_cases q' : s = 1
      · obtain ⟨p, i2, g2, e2, hp, hj0, hj1⟩ := l1Below_dr l hl i1 g1 (a.length : Int) hi0 hi1 (by omega)
        obtain ⟨v, i3, g3, e3, _, hk0, hk1⟩ := l1PickInt_dr l hl i2 g2 [-1, 281474976710656] hj0 hj1 (by simp)
        exact ⟨a.set p.toNat v, i3, g3, by rw [List.length_set]; omega, hk0, hk1, Ev.step (fun k => spec_l2Cells.l0.eq_2 _ _ _ _ _ k) (Ev_neg (by omega) (Ev_bindp e1 (Ev_neg q (Ev_pos q' (Ev_bindp e2 (Ev_bindp e3 (Ev_pos hp.1 (Ev_pos hp.2 (Ev.now _)))))))))⟩
      · exact ⟨a, i1, g1, by omega, hi0, hi1, Ev.step (fun k => spec_l2Cells.l0.eq_2 _ _ _ _ _ k) (Ev_neg (by omega) (Ev_bindp e1 (Ev_neg q (Ev_neg q' (Ev.now _)))))⟩
  | succ c ih =>
    intro a i h ha hc h0 h1
    obtain ⟨p, i1, g1, e1, hp, hi0, hi1⟩ := l1Below_dr l hl i h (a.length : Int) h0 h1 (by omega)
    obtain ⟨q, i2, g2, e2, hq, hj0, hj1⟩ := l1Below_dr l hl i1 g1 999 hi0 hi1 (by omega)
    obtain ⟨v, i3, g3, e3, _, hk0, hk1⟩ := l1PickInt_dr l hl i2 g2 [1, 2, 281474976710655, q] hj0 hj1 (by simp)
    obtain ⟨b, i', h', hb, hi', hi'', ev⟩ := ih (a.set p.toNat v) i3 g3 (by rw [List.length_set]; exact ha) (by omega) hk0 hk1
    refine ⟨b, i', h', hb, hi', hi'', Ev.step (fun k => spec_l2Cells.l0.eq_2 _ _ _ _ _ k) (Ev_pos (by omega) (Ev_bindp e1 (Ev_bindp e2 (Ev_bindp e3 (Ev_pos hp.1 (Ev_pos hp.2 ?_))))))⟩
    rw [show wrap64 (((c + 1 : Nat) : Int) - 1) = (c : Int) by rw [w64 (by omega) (by omega)]; omega]
    exact ev
theorem l2Cells_ev (l : List Int) (hl : l.length ≤ 1048576) (i h : Int) (h0 : 0 ≤ i) (h1 : i ≤ 1048576) : ∃ (b : List Int) (i' h' : Int), b.length ≤ 71 ∧ 0 ≤ i' ∧ i' ≤ 1048576 ∧ Ev (fun k => spec_l2Cells.f k l i h) (b, i', h') := by
  obtain ⟨p, i1, g1, e1, hp, hi0, hi1⟩ := l1Below_dr l hl i h 12 h0 h1 (by omega)
  obtain ⟨m, rfl⟩ := Int.eq_ofNat_of_zero_le hp.1
  obtain ⟨b, i', h', hb, hi', hi'', ev⟩ := l2Cells_l l hl m (List.replicate 71 0) i1 g1 (by simp) (by omega) hi0 hi1
  exact ⟨b, i', h', hb, hi', hi'', Ev_pos (by omega) (Ev_bindp e1 ev)⟩

theorem l2Spot_l (l : List Int) (hl : l.length ≤ 1048576) (a : List Int) (ha : a.length ≤ 71) : ∀ (d j : Nat) (i h : Int), j + d = a.length → 0 ≤ i → i ≤ 1048576 →
    ∃ (b : Int) (i' h' : Int), 0 ≤ i' ∧ i' ≤ 1048576 ∧ Ev (fun k => spec_l2Spot.l0 k a (j : Int) l i h) (b, i', h') := by
  intro d
  induction d with
  | zero =>
    intro j i h hj h0 h1
    obtain ⟨s, i1, g1, e1, hs, hi0, hi1⟩ := l1Below_dr l hl i h 71 h0 h1 (by omega)
    exact ⟨s, i1, g1, hi0, hi1, Ev.step (fun k => spec_l2Spot.l0.eq_2 _ _ _ _ _ k) (Ev_neg (by omega) (Ev_bindp e1 (Ev.now _)))⟩
  | succ d ih =>
    intro j i h hj h0 h1
    have e3 : wrap64 ((j : Int) + 1) = ((j + 1 : Nat) : Int) := by rw [w64 (by omega) (by omega)]; omega
    by_cases q : rd a (j : Int) = 0
    · obtain ⟨b, i', h', hi', hi'', ev⟩ := ih (j + 1) i h (by omega) h0 h1
      refine ⟨b, i', h', hi', hi'', Ev.step (fun k => spec_l2Spot.l0.eq_2 _ _ _ _ _ k) (Ev_pos (by omega) (Ev_pos (by omega) (Ev_pos q ?_)))⟩
      rw [e3]; exact ev
    · obtain ⟨o, i1, g1, e1, _, hi0, hi1⟩ := l1Once_dr l hl i h 3 h0 h1 (by omega)
      by_cases c : o = true
      · exact ⟨(j : Int), i1, g1, hi0, hi1, Ev.step (fun k => spec_l2Spot.l0.eq_2 _ _ _ _ _ k) (Ev_pos (by omega) (Ev_pos (by omega) (Ev_neg q (Ev_bindp e1 (Ev_pos c (Ev.now _))))))⟩
      · obtain ⟨b, i', h', hi', hi'', ev⟩ := ih (j + 1) i1 g1 (by omega) hi0 hi1
        refine ⟨b, i', h', hi', hi'', Ev.step (fun k => spec_l2Spot.l0.eq_2 _ _ _ _ _ k) (Ev_pos (by omega) (Ev_pos (by omega) (Ev_neg q (Ev_bindp e1 (Ev_neg c ?_)))))⟩
        rw [e3]; exact ev
theorem l2Spot_ev (l : List Int) (hl : l.length ≤ 1048576) (a : List Int) (ha : a.length ≤ 71) (i h : Int) (h0 : 0 ≤ i) (h1 : i ≤ 1048576) : ∃ (b i' h' : Int), 0 ≤ i' ∧ i' ≤ 1048576 ∧ Ev (fun k => spec_l2Spot.f k l i h a) (b, i', h') := by
  obtain ⟨o, i1, g1, e1, _, hi0, hi1⟩ := l1Once_dr l hl i h 12 h0 h1 (by omega)
  by_cases c : o = true
  · obtain ⟨v, i3, g3, e3, _, hk0, hk1⟩ := l1PickInt_dr l hl i1 g1 [-1, 71] hi0 hi1 (by simp)
    exact ⟨v, i3, g3, hk0, hk1, Ev_bindp e1 (Ev_pos c (Ev_bindp e3 (Ev.now _)))⟩
  · obtain ⟨o2, i2, g2, e2, _, hj0, hj1⟩ := l1Once_dr l hl i1 g1 2 hi0 hi1 (by omega)
    by_cases c2 : o2 = true
    · obtain ⟨b, i', h', hi', hi'', ev⟩ := l2Spot_l l hl a ha a.length 0 i2 g2 (by omega) hj0 hj1
      exact ⟨b, i', h', hi', hi'', Ev_bindp e1 (Ev_neg c (Ev_bindp e2 (Ev_pos c2 ev)))⟩
    · obtain ⟨s, i3, g3, e3, hs, hk0, hk1⟩ := l1Below_dr l hl i2 g2 71 hj0 hj1 (by omega)
      exact ⟨s, i3, g3, hk0, hk1, Ev_bindp e1 (Ev_neg c (Ev_bindp e2 (Ev_neg c2 (Ev_bindp e3 (Ev.now _)))))⟩

theorem DrawStoreCell_ev (l : List Int) (hl : l.length ≤ 1048576) : ∃ (a : List Int) (i n : Int), a.length ≤ 71 ∧ Ev (fun k => spec_DrawStoreCell.f k l) (a, i, n) := by
  obtain ⟨h, e⟩ := l1New_ev l hl
  obtain ⟨a, i1, g1, ha, hi0, hi1, ev1⟩ := l2Cells_ev l hl 0 h (by omega) (by omega)
  obtain ⟨i, i2, g2, hj0, hj1, ev2⟩ := l2Spot_ev l hl a ha i1 g1 hi0 hi1
  obtain ⟨q, i3, g3, e3, hq, hk0, hk1⟩ := l1Below_dr l hl i2 g2 500 hj0 hj1 (by omega)
  obtain ⟨n, i4, g4, e4, _, _, _⟩ := l1PickInt_dr l hl i3 g3 [0, 1, 5, 281474976710655, 281474976710656, -1, q] hk0 hk1 (by simp)
  refine ⟨a, i, n, ha, Ev.bind e (Ev.bind ev1 (Ev.bind ev2 (Ev_bindp (a := (n, i4, g4)) ?_ (Ev.now _))))⟩
  unfold spec_l2Num.f
  rw [e3]
  simp only [Option.bind_some]
  rw [e4]; rfl

theorem dec_cons_eq {a b : Int} (h : a = b) (l m : List Int) : decide (a :: l = b :: m) = decide (l = m) := by
  subst h
  exact decide_eq_decide.2 ⟨fun e => (List.cons.inj e).2, fun e => by rw [e]⟩
theorem dec_cons_ne {a b : Int} (h : a ≠ b) (l m : List Int) : decide (a :: l = b :: m) = false := decide_eq_false (fun e => h (List.cons.inj e).1)
theorem rd_get (l : List Int) (i : Nat) (h : i < l.length) : rd l (i : Int) = l[i] := by simp [rd, List.getD_eq_getElem?_getD, List.getElem?_eq_getElem h]

theorem l1In_eq (a b c : Int) : spec_l1In.f a b c = some (decide (b ≤ a ∧ a ≤ c)) := by
  unfold spec_l1In.f
  by_cases h : b ≤ a <;> simp [h]

def okW (n : Int) : Bool := decide (0 ≤ n ∧ n ≤ 281474976710655)
def cellsOkV (l : List Int) : Bool := l.all okW && ((l.length : Int) == 71)
theorem okW_in (n : Int) : spec_l1In.f n 0 281474976710655 = some (okW n) := l1In_eq _ _ _
theorem cellsOkV_len (l : List Int) (h : cellsOkV l = true) : l.length = 71 := by
  unfold cellsOkV at h
  rw [Bool.and_eq_true, beq_iff_eq] at h
  omega
theorem cellsOkV_at (l : List Int) (h : cellsOkV l = true) (i : Int) (h0 : 0 ≤ i) (h1 : i ≤ 70) : 0 ≤ rd l i ∧ rd l i ≤ 281474976710655 := by
  have hl := cellsOkV_len l h
  obtain ⟨n, rfl⟩ := Int.eq_ofNat_of_zero_le h0
  have hn : n < l.length := by omega
  unfold cellsOkV at h
  rw [Bool.and_eq_true, List.all_eq_true] at h
  have := h.1 _ (List.getElem_mem hn)
  unfold okW at this
  rw [rd_get l n hn]
  exact of_decide_eq_true this
theorem cellsOkV_set (l : List Int) (h : cellsOkV l = true) (i : Nat) (n : Int) (hn : okW n = true) : cellsOkV (l.set i n) = true := by
  unfold cellsOkV at h ⊢
  rw [Bool.and_eq_true, List.all_eq_true] at h
  rw [Bool.and_eq_true, List.all_eq_true, List.length_set]
  refine ⟨fun x hx => ?_, h.2⟩
  rcases List.mem_or_eq_of_mem_set hx with hx | hx
  · exact h.1 x hx
  · rw [hx]; exact hn

def storeV (a : List Int) (i n : Int) : List Int × Bool := if (cellsOkV a = true ∧ 0 ≤ i ∧ i ≤ 70) ∧ okW n = true then (a.set i.toNat n, true) else (a, false)
theorem storeV_length (a : List Int) (i n : Int) : (storeV a i n).1.length = a.length := by
  unfold storeV
  split
  · simp
  · rfl

theorem spec_cellsOk_l (l : List Int) (hl : l.length ≤ 17592186044415) : ∀ (d i : Nat), i + d = l.length → Ev (fun k => spec_CellsOk.l0 k l (i : Int)) ((l.drop i).all okW && ((l.length : Int) == 71)) := by
  intro d
  induction d with
  | zero =>
    intro i hi
    refine Ev.step (fun k => spec_CellsOk.l0.eq_2 _ _ k) (Ev_neg (by omega) (Ev_is ?_))
    rw [List.drop_eq_nil_of_le (by omega)]; simp
  | succ d ih =>
    intro i hi
    have h : i < l.length := by omega
    refine Ev.step (fun k => spec_CellsOk.l0.eq_2 _ _ k) (Ev_pos (by omega) (Ev_pos (by omega) (Ev_bindp (okW_in _) ?_)))
    rw [rd_get l i h, List.drop_eq_getElem_cons h, List.all_cons]
    by_cases c : okW l[i] = true
    · refine Ev_pos c ?_
      rw [show wrap64 ((i : Int) + 1) = ((i + 1 : Nat) : Int) by rw [w64 (by omega) (by omega)]; omega, c, Bool.true_and]
      exact ih (i + 1) (by omega)
    · exact Ev_neg c (Ev_is (by rw [Bool.eq_false_iff.2 c]; rfl))
theorem spec_CellsOk_ev (l : List Int) (hl : l.length ≤ 17592186044415) : Ev (fun k => spec_CellsOk.f k l) (cellsOkV l) := by
  have := spec_cellsOk_l l hl l.length 0 (by omega)
  rw [List.drop_zero] at this
  exact this

theorem spec_l2At_ev (a : List Int) (i : Int) (hl : a.length ≤ 17592186044415) : Ev (fun k => spec_l2At.f k a i) (cellsOkV a && decide (0 ≤ i ∧ i ≤ 70)) := by
  refine Ev.bind (spec_CellsOk_ev a hl) ?_
  by_cases h : cellsOkV a = true
  · exact Ev_pos h (Ev_bindp (l1In_eq _ _ _) (Ev_is (by rw [h, Bool.true_and])))
  · exact Ev_neg h (Ev_is (by rw [Bool.eq_false_iff.2 h]; rfl))

theorem copy_eq (l : List Int) (hl : l.length < 17592186044416) : spec_l2Copy.f l = some l := by
  unfold spec_l2Copy.f
  simp only [Option.bind_some, List.nil_append, List.length_nil]
  rw [if_pos (by omega)]

theorem spec_StoreCell_ev (a : List Int) (i n : Int) (hl : a.length ≤ 17592186044415) : Ev (fun k => spec_StoreCell.f k a i n) (storeV a i n) := by
  refine Ev_bindp (copy_eq a (by omega)) (Ev.bind (spec_l2At_ev a i hl) ?_)
  by_cases h : cellsOkV a = true ∧ 0 ≤ i ∧ i ≤ 70
  · have hz := cellsOkV_len a h.1
    refine Ev_pos (by rw [h.1, Bool.true_and]; exact decide_eq_true h.2) (Ev_bindp (okW_in n) ?_)
    by_cases c : okW n = true
    · have e : storeV a i n = (a.set i.toNat n, true) := by unfold storeV; rw [if_pos ⟨h, c⟩]
      rw [e]
      exact Ev_pos c (Ev_pos (by omega) (Ev_pos (by omega) (Ev.now _)))
    · have e : storeV a i n = (a, false) := by unfold storeV; rw [if_neg (fun x => c x.2)]
      rw [e]
      exact Ev_neg c (Ev.now _)
  · have e : storeV a i n = (a, false) := by unfold storeV; rw [if_neg (fun x => h x.1)]
    rw [e]
    exact Ev_neg (by rw [Bool.and_eq_true, decide_eq_true_eq]; exact h) (Ev.now _)

def loadV (a : List Int) (i : Int) : Int × Bool := if cellsOkV a = true ∧ 0 ≤ i ∧ i ≤ 70 then (rd a i, true) else (0, false)

theorem impl_cellsOk_l (l : List Int) (hl : l.length ≤ 17592186044415) : ∀ (d i : Nat), i + d = l.length → Ev (fun k => impl_CellsOk.l0 k l (i : Int)) ((l.drop i).all okW && ((l.length : Int) == 71)) := by
  intro d
  induction d with
  | zero =>
    intro i hi
    refine Ev.step (fun k => impl_CellsOk.l0.eq_2 _ _ k) (Ev_neg (by omega) (Ev_is ?_))
    rw [List.drop_eq_nil_of_le (by omega)]; simp
  | succ d ih =>
    intro i hi
    have h : i < l.length := by omega
    refine Ev.step (fun k => impl_CellsOk.l0.eq_2 _ _ k) (Ev_pos (by omega) (Ev_pos (by omega) (Ev_bindp (okW_in _) ?_)))
    rw [rd_get l i h, List.drop_eq_getElem_cons h, List.all_cons]
    by_cases c : okW l[i] = true
    · refine Ev_pos c ?_
      rw [show wrap64 ((i : Int) + 1) = ((i + 1 : Nat) : Int) by rw [w64 (by omega) (by omega)]; omega, c, Bool.true_and]
      exact ih (i + 1) (by omega)
    · exact Ev_neg c (Ev_is (by rw [Bool.eq_false_iff.2 c]; rfl))
theorem impl_CellsOk_ev (l : List Int) (hl : l.length ≤ 17592186044415) : Ev (fun k => impl_CellsOk.f k l) (cellsOkV l) := by
  have := impl_cellsOk_l l hl l.length 0 (by omega)
  rw [List.drop_zero] at this
  exact this

theorem within_eq (a b c : Int) : impl_within.f a b c = some (decide (b ≤ a ∧ a ≤ c)) := by
  unfold impl_within.f
  by_cases h : b ≤ a <;> simp [h]

theorem impl_LoadCell_ev (a : List Int) (i : Int) (hl : a.length ≤ 17592186044415) : Ev (fun k => impl_LoadCell.f k a i) (loadV a i) := by
  refine Ev.bind (impl_CellsOk_ev a hl) ?_
  by_cases c : cellsOkV a = true
  · have hz := cellsOkV_len a c
    refine Ev_pos c (Ev_bindp (within_eq _ _ _) ?_)
    rw [w64 (by omega) (by omega), hz]
    by_cases h : 0 ≤ i ∧ i ≤ 70
    · have e : loadV a i = (rd a i, true) := by unfold loadV; rw [if_pos ⟨c, h⟩]
      rw [e]
      exact Ev_pos (decide_eq_true (by omega)) (Ev_pos (by omega) (Ev_pos (by omega) (Ev.now _)))
    · have e : loadV a i = (0, false) := by unfold loadV; rw [if_neg (fun x => h x.2)]
      rw [e]
      exact Ev_neg (by simp; omega) (Ev.now _)
  · have e : loadV a i = (0, false) := by unfold loadV; rw [if_neg (fun x => c x.1)]
    rw [e]
    exact Ev_neg c (Ev.now _)

theorem clone_eq (l : List Int) (hl : l.length < 17592186044416) : slices_Clone_int_int.f l = some l := by
  unfold slices_Clone_int_int.f
  simp only [Option.bind_some, List.nil_append, List.length_nil]
  rw [if_pos (by omega)]

theorem isWord_eq (n : Int) : impl_isWord.f n = some (okW n) := by
  unfold impl_isWord.f
  rw [within_eq]; rfl

theorem loadV_snd (a : List Int) (i : Int) : (loadV a i).2 = true ↔ (cellsOkV a = true ∧ 0 ≤ i ∧ i ≤ 70) := by
  unfold loadV
  by_cases h : cellsOkV a = true ∧ 0 ≤ i ∧ i ≤ 70
  · rw [if_pos h]; exact ⟨fun _ => h, fun _ => rfl⟩
  · rw [if_neg h]; exact ⟨(fun x => by cases x), (fun x => absurd x h)⟩
theorem loadV_fst (a : List Int) (i : Int) (h : cellsOkV a = true ∧ 0 ≤ i ∧ i ≤ 70) : (loadV a i).1 = rd a i := by unfold loadV; rw [if_pos h]

theorem impl_StoreCell_ev (a : List Int) (i n : Int) (hl : a.length ≤ 17592186044415) : Ev (fun k => impl_StoreCell.f k a i n) (storeV a i n) := by
  refine Ev_bindp (clone_eq a (by omega)) (Ev.bind (impl_LoadCell_ev a i hl) ?_)
  by_cases h : cellsOkV a = true ∧ 0 ≤ i ∧ i ≤ 70
  · have hz := cellsOkV_len a h.1
    refine Ev_pos ((loadV_snd a i).2 h) (Ev_bindp (isWord_eq n) ?_)
    by_cases c : okW n = true
    · have e : storeV a i n = (a.set i.toNat n, true) := by unfold storeV; rw [if_pos ⟨h, c⟩]
      rw [e]
      exact Ev_pos c (Ev_pos (by omega) (Ev_pos (by omega) (Ev.now _)))
    · have e : storeV a i n = (a, false) := by unfold storeV; rw [if_neg (fun x => c x.2)]
      rw [e]
      exact Ev_neg c (Ev.now _)
  · have e : storeV a i n = (a, false) := by unfold storeV; rw [if_neg (fun x => h x.1)]
    rw [e]
    exact Ev_neg (fun x => h ((loadV_snd a i).1 x)) (Ev.now _)

def swapV (a : List Int) (i n : Int) : List Int × Int := if (cellsOkV a = true ∧ 0 ≤ i ∧ i ≤ 70) ∧ okW n = true then (a.set i.toNat n, rd a i) else (a, -1)
theorem swapV_length (a : List Int) (i n : Int) : (swapV a i n).1.length = a.length := by
  unfold swapV
  split
  · simp
  · rfl

theorem impl_SwapCell_ev (a : List Int) (i n : Int) (hl : a.length ≤ 17592186044415) : Ev (fun k => impl_SwapCell.f k a i n) (swapV a i n) := by
  refine Ev.bind (impl_StoreCell_ev a i n hl) ?_
  by_cases h : (cellsOkV a = true ∧ 0 ≤ i ∧ i ≤ 70) ∧ okW n = true
  · have hz := cellsOkV_len a h.1.1
    have e : swapV a i n = (a.set i.toNat n, rd a i) := by unfold swapV; rw [if_pos h]
    have e' : storeV a i n = (a.set i.toNat n, true) := by unfold storeV; rw [if_pos h]
    rw [e, e']
    exact Ev_pos rfl (Ev_pos (by omega) (Ev_pos (by omega) (Ev.now _)))
  · have e : swapV a i n = (a, -1) := by unfold swapV; rw [if_neg h]
    have e' : storeV a i n = (a, false) := by unfold storeV; rw [if_neg h]
    rw [e, e']
    exact Ev_neg (by simp) (Ev.now _)

def casV (a : List Int) (i old nw : Int) : List Int × Bool := if (cellsOkV a = true ∧ 0 ≤ i ∧ i ≤ 70) ∧ rd a i = old then storeV a i nw else (a, false)
theorem casV_length (a : List Int) (i old nw : Int) : (casV a i old nw).1.length = a.length := by
  unfold casV
  split
  · exact storeV_length _ _ _
  · rfl

theorem impl_CasCell_ev (a : List Int) (i old nw : Int) (hl : a.length ≤ 17592186044415) : Ev (fun k => impl_CasCell.f k a i old nw) (casV a i old nw) := by
  have hj : casV a i old nw = (a, false) → Ev (fun k => impl_CasCell.j0 k a i nw true) (casV a i old nw) := fun e => by
    rw [e]
    exact Ev.step (fun k => impl_CasCell.j0.eq_2 _ _ _ _ k) (Ev_pos rfl (Ev_bindp (clone_eq a (by omega)) (Ev.now _)))
  refine Ev.bind (impl_LoadCell_ev a i hl) ?_
  by_cases h : cellsOkV a = true ∧ 0 ≤ i ∧ i ≤ 70
  · refine Ev_pos ((loadV_snd a i).2 h) ?_
    rw [loadV_fst a i h]
    by_cases c : rd a i = old
    · have e : casV a i old nw = storeV a i nw := by unfold casV; rw [if_pos ⟨h, c⟩]
      rw [c, show (old != old) = false by simp, e]
      exact Ev.step (fun k => impl_CasCell.j0.eq_2 _ _ _ _ k) (Ev_neg (by decide) (Ev.bind (impl_StoreCell_ev a i nw hl) (Ev.now _)))
    · rw [show (rd a i != old) = true from bne_iff_ne.2 c]
      exact hj (by unfold casV; rw [if_neg (fun x => c x.2)])
  · exact Ev_neg (fun x => h ((loadV_snd a i).1 x)) (hj (by unfold casV; rw [if_neg (fun x => h x.1)]))

def addV (a : List Int) (i n : Int) : List Int × Int := if (cellsOkV a = true ∧ 0 ≤ i ∧ i ≤ 70) ∧ -281474976710655 ≤ n ∧ n ≤ 281474976710655 then (a.set i.toNat ((rd a i + n) % 281474976710656), rd a i) else (a, -1)
theorem addV_length (a : List Int) (i n : Int) : (addV a i n).1.length = a.length := by
  unfold addV
  split
  · simp
  · rfl

theorem impl_AddCell_ev (a : List Int) (i n : Int) (hl : a.length ≤ 17592186044415) : Ev (fun k => impl_AddCell.f k a i n) (addV a i n) := by
  refine Ev_bindp (clone_eq a (by omega)) (Ev.bind (impl_LoadCell_ev a i hl) ?_)
  by_cases h : cellsOkV a = true ∧ 0 ≤ i ∧ i ≤ 70
  · have hz := cellsOkV_len a h.1
    have hr := cellsOkV_at a h.1 i h.2.1 h.2.2
    refine Ev_pos ((loadV_snd a i).2 h) (Ev_bindp (within_eq _ _ _) ?_)
    rw [loadV_fst a i h]
    by_cases c : -281474976710655 ≤ n ∧ n ≤ 281474976710655
    · have e : addV a i n = (a.set i.toNat ((rd a i + n) % 281474976710656), rd a i) := by unfold addV; rw [if_pos ⟨h, c⟩]
      have e1 : Int.tmod (wrap64 ((wrap64 (rd a i + n)) + 281474976710656)) 281474976710656 = (rd a i + n) % 281474976710656 := by
        rw [w64 (n := rd a i + n) (by omega) (by omega), w64 (by omega) (by omega), Int.tmod_eq_emod_of_nonneg (by omega)]; omega
      rw [e, e1]
      exact Ev_pos (decide_eq_true c) (Ev_pos (by omega) (Ev_pos (by omega) (Ev.now _)))
    · have e : addV a i n = (a, -1) := by unfold addV; rw [if_neg (fun x => c x.2)]
      rw [e]
      exact Ev_neg (by simpa using c) (Ev.now _)
  · have e : addV a i n = (a, -1) := by unfold addV; rw [if_neg (fun x => h x.1)]
    rw [e]
    exact Ev_neg (fun x => h ((loadV_snd a i).1 x)) (Ev.now _)

theorem spec_same_l (a b : List Int) (hl : a.length ≤ 1048576) (hab : a.length = b.length) : ∀ (d i : Nat), i + d = a.length → Ev (fun k => spec_SameCells.l0 k a b (i : Int)) (decide (a.drop i = b.drop i)) := by
  intro d
  induction d with
  | zero =>
    intro i hi
    refine Ev.step (fun k => spec_SameCells.l0.eq_2 _ _ _ k) (Ev_neg (by omega) (Ev_is ?_))
    rw [List.drop_eq_nil_of_le (by omega), List.drop_eq_nil_of_le (by omega)]; simp
  | succ d ih =>
    intro i hi
    have h : i < a.length := by omega
    have h' : i < b.length := by omega
    refine Ev.step (fun k => spec_SameCells.l0.eq_2 _ _ _ k) (Ev_pos (by omega) (Ev_pos (by omega) (Ev_pos (by omega) ?_)))
    rw [rd_get a i h, rd_get b i h', List.drop_eq_getElem_cons h, List.drop_eq_getElem_cons h']
    by_cases c : a[i] = b[i]
    · refine Ev_pos c ?_
      rw [show wrap64 ((i : Int) + 1) = ((i + 1 : Nat) : Int) by rw [w64 (by omega) (by omega)]; omega]
      rw [dec_cons_eq c]
      exact ih (i + 1) (by omega)
    · exact Ev_neg c (Ev_is (by rw [dec_cons_ne c]))
theorem spec_SameCells_ev (a b : List Int) (hl : a.length ≤ 1048576) : Ev (fun k => spec_SameCells.f k a b) (decide (a = b)) := by
  by_cases h : a.length = b.length
  · have := spec_same_l a b hl h a.length 0 (by omega)
    exact Ev_pos (by omega) (by simpa using this)
  · exact Ev_neg (by omega) (Ev_is (by rw [decide_eq_false (fun e => h (congrArg List.length e))]))

theorem impl_same_l (a b : List Int) (hl : a.length ≤ 1048576) (hab : a.length = b.length) : ∀ (d i : Nat), i + d = a.length → Ev (fun k => slices_Equal_int_int.l0 k a b (a.length : Int) (i : Int)) (decide (a.drop i = b.drop i)) := by
  intro d
  induction d with
  | zero =>
    intro i hi
    refine Ev.step (fun k => slices_Equal_int_int.l0.eq_2 _ _ _ _ k) (Ev_neg (by omega) (Ev_is ?_))
    rw [List.drop_eq_nil_of_le (by omega), List.drop_eq_nil_of_le (by omega)]; simp
  | succ d ih =>
    intro i hi
    have h : i < a.length := by omega
    have h' : i < b.length := by omega
    refine Ev.step (fun k => slices_Equal_int_int.l0.eq_2 _ _ _ _ k) (Ev_pos (by omega) (Ev_pos (by omega) (Ev_pos (by omega) (Ev_pos (by omega) ?_))))
    rw [rd_get a i h, rd_get b i h', List.drop_eq_getElem_cons h, List.drop_eq_getElem_cons h']
    by_cases c : a[i] = b[i]
    · refine Ev_pos c ?_
      rw [show wrap64 ((i : Int) + 1) = ((i + 1 : Nat) : Int) by rw [w64 (by omega) (by omega)]; omega]
      rw [dec_cons_eq c]
      exact ih (i + 1) (by omega)
    · exact Ev_neg c (Ev_is (by rw [dec_cons_ne c]))
theorem impl_SameCells_ev (a b : List Int) (hl : a.length ≤ 1048576) : Ev (fun k => impl_SameCells.f k a b) (decide (a = b)) := by
  refine Ev.bind (a := decide (a = b)) ?_ (Ev.now _)
  by_cases h : a.length = b.length
  · have := impl_same_l a b hl h a.length 0 (by omega)
    exact Ev_pos (by omega) (by simpa using this)
  · exact Ev_neg (by omega) (Ev_is (by rw [decide_eq_false (fun e => h (congrArg List.length e))]))

theorem rd_set (a : List Int) (i n : Int) (h0 : 0 ≤ i) (h1 : i < (a.length : Int)) : rd (a.set i.toNat n) i = n := by
  have h : i.toNat < a.length := by omega
  simp [rd, List.getD_eq_getElem?_getD, h]
theorem FnCells : laws_FnCells.Pure := by
  intro l hm h8 hw
  refine Ev.rounds (r := true) ?_
  refine Ev_bindp (a := decide ((l.length : Int) > 1048576)) rfl ?_
  by_cases h : (l.length : Int) > 1048576
  · exact Ev_pos (decide_eq_true h) (Ev.now _)
  have hl : l.length ≤ 1048576 := by omega
  refine Ev_neg (by simpa using h) ?_
  obtain ⟨a, i, n, ha, ed⟩ := DrawStoreCell_ev l hl
  have hx := storeV_length a i n
  refine Ev.bind ed (Ev.bind (impl_StoreCell_ev a i n (by omega)) (Ev.bind (spec_StoreCell_ev a i n (by omega)) (Ev_neg (by simp) (Ev.bind (spec_SameCells_ev _ _ (by omega)) ?_))))
  rw [show (!decide ((storeV a i n).1 = (storeV a i n).1)) = false by simp]
  refine Ev.step (fun k => laws_FnCells.j0.eq_2 _ _ _ _ _ _ k) (Ev_neg (by decide) ?_)
  by_cases c : (cellsOkV a = true ∧ 0 ≤ i ∧ i ≤ 70) ∧ okW n = true
  · have ev : storeV a i n = (a.set i.toNat n, true) := by unfold storeV; rw [if_pos c]
    have hz := cellsOkV_len a c.1.1
    have hn : 0 ≤ n ∧ n ≤ 281474976710655 := of_decide_eq_true c.2
    have w7 : okW 7 = true := by decide
    have okx := cellsOkV_set a c.1.1 i.toNat n c.2
    have okz := cellsOkV_set a c.1.1 i.toNat 7 w7
    have hzx : (a.set i.toNat n).length = 71 := by rw [List.length_set]; exact hz
    have hzz : (a.set i.toNat 7).length = 71 := by rw [List.length_set]; exact hz
    have rx : rd (a.set i.toNat n) i = n := rd_set a i n c.1.2.1 (by omega)
    have rz : rd (a.set i.toNat 7) i = 7 := rd_set a i 7 c.1.2.1 (by omega)
    have wd : okW ((n + 281474976710655) % 281474976710656) = true := by unfold okW; exact decide_eq_true (by omega)
    have okd := cellsOkV_set a c.1.1 i.toNat _ wd
    have hzd : (a.set i.toNat ((n + 281474976710655) % 281474976710656)).length = 71 := by rw [List.length_set]; exact hz
    have rdd : rd (a.set i.toNat ((n + 281474976710655) % 281474976710656)) i = (n + 281474976710655) % 281474976710656 := rd_set a i _ c.1.2.1 (by omega)
    have el : loadV (a.set i.toNat n) i = (n, true) := by unfold loadV; rw [if_pos ⟨okx, c.1.2⟩, rx]
    have es : swapV (a.set i.toNat n) i 7 = (a.set i.toNat 7, n) := by unfold swapV; rw [if_pos ⟨⟨okx, c.1.2⟩, w7⟩, rx, List.set_set]
    have ec : casV (a.set i.toNat 7) i 7 n = (a.set i.toNat n, true) := by
      unfold casV
      rw [if_pos ⟨⟨okz, c.1.2⟩, rz⟩]
      unfold storeV
      rw [if_pos ⟨⟨okz, c.1.2⟩, c.2⟩, List.set_set]
    have eb : casV (a.set i.toNat 7) i 8 n = (a.set i.toNat 7, false) := by
      unfold casV
      rw [if_neg (fun x => by rw [rz] at x; exact absurd x.2 (by decide))]
    have ea : addV (a.set i.toNat n) i 281474976710655 = (a.set i.toNat ((n + 281474976710655) % 281474976710656), n) := by
      unfold addV
      rw [if_pos ⟨⟨okx, c.1.2⟩, by omega, by omega⟩, rx, List.set_set]
    have ee : addV (a.set i.toNat ((n + 281474976710655) % 281474976710656)) i 1 = (a.set i.toNat n, (n + 281474976710655) % 281474976710656) := by
      unfold addV
      rw [if_pos ⟨⟨okd, c.1.2⟩, by omega, by omega⟩, rdd, List.set_set, show ((n + 281474976710655) % 281474976710656 + 1) % 281474976710656 = n by omega]
    rw [ev]
    have l1 := impl_LoadCell_ev (a.set i.toNat n) i (by omega)
    have l2 := impl_SwapCell_ev (a.set i.toNat n) i 7 (by omega)
    have l3 := impl_CasCell_ev (a.set i.toNat 7) i 7 n (by omega)
    have l4 := impl_CasCell_ev (a.set i.toNat 7) i 8 n (by omega)
    have l5 := impl_AddCell_ev (a.set i.toNat n) i 281474976710655 (by omega)
    have l6 := impl_AddCell_ev (a.set i.toNat ((n + 281474976710655) % 281474976710656)) i 1 (by omega)
    rw [el] at l1; rw [es] at l2; rw [ec] at l3; rw [eb] at l4; rw [ea] at l5; rw [ee] at l6
    have ok := impl_CellsOk_ev (a.set i.toNat ((n + 281474976710655) % 281474976710656)) (by omega)
    rw [okd] at ok
    refine Ev_pos rfl (Ev.bind l1 (Ev.bind l2 (Ev.bind l3 (Ev.bind l4 (Ev.bind l5 (Ev.bind l6 (Ev_pos rfl (Ev_pos rfl (Ev_pos rfl (Ev_pos rfl (Ev.bind (spec_SameCells_ev _ _ (show (a.set i.toNat n).length ≤ 1048576 by omega)) (Ev_pos (by simp) (Ev_neg (by simp) (Ev_pos rfl (Ev.bind (spec_SameCells_ev _ _ (show (a.set i.toNat n).length ≤ 1048576 by omega)) (Ev_pos (by simp) (Ev.bind (impl_SameCells_ev _ _ (show (a.set i.toNat n).length ≤ 1048576 by omega)) (Ev_pos (by simp) (Ev.bind ok (Ev.now _))))))))))))))))))))
  · have ev : storeV a i n = (a, false) := by unfold storeV; rw [if_neg c]
    rw [ev]
    exact Ev_neg (by simp) (Ev.bind (spec_SameCells_ev _ _ (show a.length ≤ 1048576 by omega)) (Ev_is (by simp)))

end Go.Proofs.Ytgpbkfblbibafaa.Pure
