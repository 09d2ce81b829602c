/- What is proved here: the Go law FnNumbers answers true for every input, over the functions that print.sh printed; no condition. -/
import Derived.Test.YtemefkkbeaaeoaaDoorQFnNumbersx6
set_option linter.unusedVariables false
set_option linter.unusedSimpArgs false
namespace Go.Proofs.YtemefkkbeaaeoaaDoor.Pure
open Go.RowKit Go.Proofs.YtemefkkbeaaeoaaDoor.PFnNumbers Go.Proofs.YtemefkkbeaaeoaaDoorW.PrintWords Go.Proofs.YtemefkkbeaaeoaaDoorW.PrintLast

theorem Ev_pos {α : Type} {c : Prop} [Decidable c] {a b : Nat → Option α} {r : α} (h : c) (e : Ev a r) : Ev (fun k => if c then a k else b k) r :=
  Ev.congr (fun k => if_pos h) e
theorem Ev_neg {α : Type} {c : Prop} [Decidable c] {a b : Nat → Option α} {r : α} (h : ¬ c) (e : Ev b r) : Ev (fun k => if c then a k else b k) r :=
  Ev.congr (fun k => if_neg h) e
theorem Ev_bindp {α β : Type} {x : Option α} {f : Nat → α → Option β} {a : α} {r : β} (h : x = some a) (e : Ev (fun n => f n a) r) : Ev (fun n => x.bind (f n)) r := by
  subst h
  exact e
theorem Ev_is {α : Type} {x : Option α} {r : α} (h : x = some r) : Ev (fun _ => x) r := ⟨0, fun _ _ => h⟩

theorem w64 {n : Int} (h0 : -9223372036854775808 ≤ n) (h1 : n ≤ 9223372036854775807) : wrap64 n = n := by
  unfold wrap64
  omega

theorem and255 (n : Int) : Go.bits .and .i64 n 255 = n % 256 := by
  have h255 : (BitVec.ofInt 64 255).toNat = 2 ^ 8 - 1 := by decide
  have key : (BitVec.ofInt 64 n &&& BitVec.ofInt 64 255).toNat = (n % ((2 ^ 64 : Nat) : Int)).toNat % 2 ^ 8 := by
    rw [BitVec.toNat_and, BitVec.toNat_ofInt, h255, Nat.and_two_pow_sub_one_eq_mod]
  show IntKind.i64.wrap ((BitVec.ofInt 64 n &&& BitVec.ofInt 64 255).toNat : Nat) = n % 256
  rw [key, IntKind.wrap_i64]
  omega
/-- A draw's function comes to an answer that meets P, and hands on a cursor that lies in the code. -/
def Dr {α : Type} (f : Option (α × Int × Int)) (P : α → Prop) : Prop := ∃ b i h, f = some (b, i, h) ∧ P b ∧ 0 ≤ i ∧ i ≤ 1048576
theorem l1Byte_dr (l : List Int) (hl : l.length ≤ 1048576) (i h : Int) (h0 : 0 ≤ i) (h1 : i ≤ 1048576) : Dr (spec_l1Byte.f l i h) (fun b => 0 ≤ b ∧ b ≤ 255) := by
  unfold spec_l1Byte.f
  by_cases c : i < (l.length : Int)
  · rw [if_pos c, if_pos h0]
    refine ⟨_, _, _, rfl, ?_, ?_⟩
    · rw [and255]; omega
    · rw [w64 (by omega) (by omega)]; omega
  · rw [if_neg c]
    refine ⟨_, _, _, rfl, ?_, h0, h1⟩
    rw [and255]; omega
theorem l1Below_dr (l : List Int) (hl : l.length ≤ 1048576) (i h n : Int) (h0 : 0 ≤ i) (h1 : i ≤ 1048576) (hn : 0 < n) : Dr (spec_l1Below.f l i h n) (fun b => 0 ≤ b ∧ b < n) := by
  unfold spec_l1Below.f
  rw [if_neg (by omega)]
  by_cases c : n ≤ 256
  · rw [if_pos c]
    obtain ⟨b, i1, g1, e, hb, hi0, hi1⟩ := l1Byte_dr l hl i h h0 h1
    rw [e]
    simp only [Option.bind_some]
    rw [if_neg (by omega)]
    refine ⟨_, _, _, rfl, ?_, hi0, hi1⟩
    rw [Int.tmod_eq_emod_of_nonneg (by omega)]
    exact ⟨Int.emod_nonneg _ (by omega), Int.emod_lt_of_pos _ hn⟩
  · rw [if_neg c]
    obtain ⟨b1, i1, g1, e1, hb1, hi1, hj1⟩ := l1Byte_dr l hl i h h0 h1
    rw [e1]
    simp only [Option.bind_some]
    obtain ⟨b2, i2, g2, e2, hb2, hi2, hj2⟩ := l1Byte_dr l hl i1 g1 hi1 hj1
    rw [e2]
    simp only [Option.bind_some]
    obtain ⟨b3, i3, g3, e3, hb3, hi3, hj3⟩ := l1Byte_dr l hl i2 g2 hi2 hj2
    rw [e3]
    simp only [Option.bind_some]
    obtain ⟨b4, i4, g4, e4, hb4, hi4, hj4⟩ := l1Byte_dr l hl i3 g3 hi3 hj3
    rw [e4]
    simp only [Option.bind_some]
    rw [if_neg (by omega)]
    refine ⟨_, _, _, rfl, ?_, hi4, hj4⟩
    have w1 : wrap64 (b1 * 16777216) = b1 * 16777216 := w64 (by omega) (by omega)
    have w2 : wrap64 (b2 * 65536) = b2 * 65536 := w64 (by omega) (by omega)
    have w3 : wrap64 (b3 * 256) = b3 * 256 := w64 (by omega) (by omega)
    rw [w1, w2, w3, w64 (n := b1 * 16777216 + b2 * 65536) (by omega) (by omega), w64 (n := b1 * 16777216 + b2 * 65536 + b3 * 256) (by omega) (by omega), w64 (by omega) (by omega), Int.tmod_eq_emod_of_nonneg (by omega)]
    exact ⟨Int.emod_nonneg _ (by omega), Int.emod_lt_of_pos _ hn⟩
theorem rdOf_mem {α : Type} (d : α) (xs : List α) (i : Int) (h0 : 0 ≤ i) (h1 : i < (xs.length : Int)) : rdOf d xs i ∈ xs := by
  unfold rdOf
  have h : i.toNat < xs.length := by omega
  rw [List.getD_eq_getElem?_getD, List.getElem?_eq_getElem h]
  exact List.getElem_mem h
theorem rd_mem (xs : List Int) (i : Int) (h0 : 0 ≤ i) (h1 : i < (xs.length : Int)) : rd xs i ∈ xs := by
  unfold rd
  have h : i.toNat < xs.length := by omega
  rw [List.getD_eq_getElem?_getD, List.getElem?_eq_getElem h]
  exact List.getElem_mem h

theorem l1New_l (l : List Int) (hl : l.length ≤ 1048576) : ∀ (d i : Nat) (x : Int), i + d = l.length → ∃ h, Ev (fun k => spec_l1New.l0 k l x (i : Int)) (l, 0, h) := by
  intro d
  induction d with
  | zero =>
    intro i x hi
    exact ⟨x, Ev.step (fun k => spec_l1New.l0.eq_2 _ _ _ k) (Ev_neg (by omega) (Ev.now _))⟩
  | succ d ih =>
    intro i x hi
    by_cases c : (i : Int) < 4000
    · obtain ⟨h, e⟩ := ih (i + 1) (Go.bits .and .i64 (wrap64 ((wrap64 ((wrap64 (x * 131)) + (wrap64 (rd l (i : Int))))) + 7)) 1073741823) (by omega)
      refine ⟨h, Ev.step (fun k => spec_l1New.l0.eq_2 _ _ _ k) (Ev_pos (by omega) (Ev_pos c (Ev_pos (by omega) ?_)))⟩
      rw [show wrap64 ((i : Int) + 1) = ((i + 1 : Nat) : Int) by rw [w64 (by omega) (by omega)]; omega]
      exact e
    · exact ⟨x, Ev.step (fun k => spec_l1New.l0.eq_2 _ _ _ k) (Ev_pos (by omega) (Ev_neg c (Ev.now _)))⟩
theorem l1New_ev (l : List Int) (hl : l.length ≤ 1048576) : ∃ h, Ev (fun k => spec_l1New.f k l) (l, 0, h) := l1New_l l hl l.length 0 _ (by omega)

theorem l1PickInt_dr (l : List Int) (hl : l.length ≤ 1048576) (i h : Int) (xs : List Int) (h0 : 0 ≤ i) (h1 : i ≤ 1048576) (hn : 0 < xs.length) : Dr (spec_l1PickInt.f l i h xs) (fun b => b ∈ xs) := by
  unfold spec_l1PickInt.f
  obtain ⟨b, i1, g1, e, hb, hi0, hi1⟩ := l1Below_dr l hl i h (xs.length : Int) h0 h1 (by omega)
  rw [e]
  simp only [Option.bind_some]
  rw [if_pos hb.1, if_pos hb.2]
  exact ⟨_, _, _, rfl, rd_mem _ _ hb.1 hb.2, hi0, hi1⟩

theorem l1Once_dr (l : List Int) (hl : l.length ≤ 1048576) (i h n : Int) (h0 : 0 ≤ i) (h1 : i ≤ 1048576) (hn : 0 < n) : Dr (spec_l1Once.f l i h n) (fun _ => True) := by
  unfold spec_l1Once.f
  obtain ⟨b, i1, g1, e, hb, hi0, hi1⟩ := l1Below_dr l hl i h n h0 h1 hn
  rw [e]
  exact ⟨_, _, _, rfl, trivial, hi0, hi1⟩

theorem wrap_range (n : Int) : -9223372036854775808 ≤ wrap64 n ∧ wrap64 n ≤ 9223372036854775807 := by
  unfold wrap64
  omega
theorem l1Num_dr (l : List Int) (hl : l.length ≤ 1048576) (i h : Int) (h0 : 0 ≤ i) (h1 : i ≤ 1048576) : Dr (spec_l1Num.f l i h) (fun n => -9223372036854775808 ≤ n ∧ n ≤ 9223372036854775807) := by
  unfold spec_l1Num.f
  obtain ⟨b, i1, g1, e, hb, hi, hj⟩ := l1Below_dr l hl i h 8 h0 h1 (by decide)
  rw [e, Option.bind_some]
  by_cases b0 : b = 0
  · rw [if_pos b0]
    obtain ⟨c, i2, g2, e2, hc, hi2, hj2⟩ := l1PickInt_dr l hl i1 g1 [(-1), 0, 127, 128, 255, 256, 16383, 16384, 65535, 65536, 562949953421311, 562949953421312, 999999999, 1000000000, (-999999999), 9223372036854775807, (-9223372036854775808)] hi hj (by decide)
    rw [e2, Option.bind_some]
    refine ⟨_, _, _, rfl, ?_, hi2, hj2⟩
    simp only [List.mem_cons, List.not_mem_nil, or_false] at hc
    omega
  rw [if_neg b0]
  by_cases b1 : b = 1
  · rw [if_pos b1]
    obtain ⟨c, i2, g2, e2, hc, hi2, hj2⟩ := l1Below_dr l hl i1 g1 1000000000 hi hj (by decide)
    obtain ⟨d, i3, g3, e3, hd, hi3, hj3⟩ := l1Below_dr l hl i2 g2 1000000000 hi2 hj2 (by decide)
    rw [e2, Option.bind_some, e3, Option.bind_some]
    exact ⟨_, _, _, rfl, wrap_range _, hi3, hj3⟩
  rw [if_neg b1]
  by_cases b2 : b = 2
  · rw [if_pos b2]
    obtain ⟨c, i2, g2, e2, hc, hi2, hj2⟩ := l1Below_dr l hl i1 g1 100000 hi hj (by decide)
    rw [e2, Option.bind_some]
    exact ⟨_, _, _, rfl, wrap_range _, hi2, hj2⟩
  rw [if_neg b2]
  obtain ⟨c, i2, g2, e2, hc, hi2, hj2⟩ := l1Below_dr l hl i1 g1 70000 hi hj (by decide)
  rw [e2, Option.bind_some]
  exact ⟨_, _, _, rfl, ⟨by omega, by omega⟩, hi2, hj2⟩
theorem l1Text_l (l : List Int) (hl : l.length ≤ 1048576) (st : Int) : ∀ (d : Nat) (acc : List Int) (i h : Int), 0 ≤ i → i ≤ 1048576 → acc.length + d ≤ 1000 →
    ∃ s j g, Ev (fun k => spec_l1Text.l0 k acc st (d : Int) l i h) (s, j, g) ∧ s.size = acc.length + d ∧ 0 ≤ j ∧ j ≤ 1048576 := by
  intro d
  induction d with
  | zero =>
    intro acc i h h0 h1 ha
    exact ⟨strOfNums acc, i, h, Ev.step (fun k => spec_l1Text.l0.eq_2 _ _ _ _ _ _ k) (Ev_neg (by omega) (Ev.now _)), by rw [strOfNums_size]; rfl, h0, h1⟩
  | succ d ih =>
    intro acc i h h0 h1 ha
    obtain ⟨b, i1, g1, e, hb, hi, hj⟩ := l1Byte_dr l hl i h h0 h1
    have ed : wrap64 (((d + 1 : Nat) : Int) - 1) = (d : Int) := by rw [w64 (by omega) (by omega)]; omega
    have go : ∀ x : Int, ∃ s j g, Ev (fun k => spec_l1Text.l0 k (acc ++ [x]) st (d : Int) l i1 g1) (s, j, g) ∧ s.size = acc.length + (d + 1) ∧ 0 ≤ j ∧ j ≤ 1048576 := by
      intro x
      obtain ⟨s, j, g, q1, q2, q3, q4⟩ := ih (acc ++ [x]) i1 g1 hi hj (by simp; omega)
      exact ⟨s, j, g, q1, by rw [q2]; simp; omega, q3, q4⟩
    by_cases c1 : st = 1
    · by_cases c2 : st = 2
      · omega
      · obtain ⟨s, j, g, q1, q2, q3, q4⟩ := go ((Int.tmod b 2) % 256)
        exact ⟨s, j, g, Ev.step (fun k => spec_l1Text.l0.eq_2 _ _ _ _ _ _ k) (Ev_pos (by omega) (Ev_bindp e (Ev_pos c1 (Ev_neg c2 (Ev_pos (by omega) (by rw [ed]; exact q1)))))), q2, q3, q4⟩
    · by_cases c2 : st = 2
      · obtain ⟨s, j, g, q1, q2, q3, q4⟩ := go ((wrap64 (97 + (Int.tmod b 4))) % 256)
        exact ⟨s, j, g, Ev.step (fun k => spec_l1Text.l0.eq_2 _ _ _ _ _ _ k) (Ev_pos (by omega) (Ev_bindp e (Ev_neg c1 (Ev_pos c2 (Ev_pos (by omega) (by rw [ed]; exact q1)))))), q2, q3, q4⟩
      · obtain ⟨s, j, g, q1, q2, q3, q4⟩ := go (b % 256)
        exact ⟨s, j, g, Ev.step (fun k => spec_l1Text.l0.eq_2 _ _ _ _ _ _ k) (Ev_pos (by omega) (Ev_bindp e (Ev_neg c1 (Ev_neg c2 (Ev_pos (by omega) (by rw [ed]; exact q1)))))), q2, q3, q4⟩
theorem l1Text_ev (l : List Int) (hl : l.length ≤ 1048576) (i h : Int) (h0 : 0 ≤ i) (h1 : i ≤ 1048576) (a : Int) (ha : 0 ≤ a) (ha1 : a ≤ 100) :
    ∃ s j g, Ev (fun k => spec_l1Text.f k l i h a) (s, j, g) ∧ (s.size : Int) ≤ a ∧ 0 ≤ j ∧ j ≤ 1048576 := by
  obtain ⟨b, i1, g1, e, hb, hi, hj⟩ := l1Below_dr l hl i h 4 h0 h1 (by decide)
  obtain ⟨c, i2, g2, e2, hc, hi2, hj2⟩ := l1Below_dr l hl i1 g1 (wrap64 (a + 1)) hi hj (by rw [w64 (by omega) (by omega)]; omega)
  rw [w64 (n := a + 1) (by omega) (by omega)] at hc
  obtain ⟨s, j, g, q1, q2, q3, q4⟩ := l1Text_l l hl b c.toNat [] i2 g2 hi2 hj2 (by simp; omega)
  rw [show ((c.toNat : Nat) : Int) = c from by omega] at q1
  exact ⟨s, j, g, Ev_bindp e (Ev_bindp e2 q1), by rw [q2]; simp; omega, q3, q4⟩
theorem DrawVar_ev (l : List Int) (hl : l.length ≤ 1048576) : ∃ n : Int, (-9223372036854775808 ≤ n ∧ n ≤ 9223372036854775807) ∧ Ev (fun k => spec_DrawVar.f k l) n := by
  obtain ⟨h, e⟩ := l1New_ev l hl
  obtain ⟨b, i1, g1, e1, hb, hi, hj⟩ := l1Num_dr l hl 0 h (by decide) (by decide)
  exact ⟨b, hb, Ev.bind e (Ev_bindp e1 (Ev.now _))⟩
theorem DrawHex_ev (l : List Int) (hl : l.length ≤ 1048576) : ∃ s : ByteArray, s.size ≤ 40 ∧ Ev (fun k => spec_DrawHex.f k l) s := by
  obtain ⟨h, e⟩ := l1New_ev l hl
  obtain ⟨s, j, g, q1, q2, _, _⟩ := l1Text_ev l hl 0 h (by decide) (by decide) 40 (by decide) (by decide)
  exact ⟨s, by omega, Ev.bind e (Ev.bind q1 (Ev.now _))⟩

theorem l1Spoil_ev (l : List Int) (hl : l.length ≤ 1048576) (i h : Int) (h0 : 0 ≤ i) (h1 : i ≤ 1048576) (a : ByteArray) (ha : a.size ≤ 100) :
    ∃ s j g, Ev (fun k => spec_l1Spoil.f k l i h a) (s, j, g) ∧ s.size ≤ a.size + 3 := by
  by_cases z : (a.size : Int) = 0
  · obtain ⟨s, j, g, q1, q2, q3, q4⟩ := l1Text_ev l hl i h h0 h1 3 (by decide) (by decide)
    exact ⟨s, j, g, Ev_pos z (Ev.bind q1 (Ev.now _)), by omega⟩
  obtain ⟨p, i1, g1, e, hb, hi, hj⟩ := l1Below_dr l hl i h (a.size : Int) h0 h1 (by omega)
  obtain ⟨c, i2, g2, e2, hc, hi2, hj2⟩ := l1Below_dr l hl i1 g1 4 hi hj (by decide)
  have ep : wrap64 (p + 1) = p + 1 := w64 (by omega) (by omega)
  have x1 : (a.extract 0 p.toNat).size = p.toNat := by rw [ByteArray.size_extract]; omega
  have x2 : (a.extract (p + 1).toNat a.size).size = a.size - (p + 1).toNat := by rw [ByteArray.size_extract]; omega
  have x3 : (a.extract p.toNat a.size).size = a.size - p.toNat := by rw [ByteArray.size_extract]; omega
  by_cases c0 : c = 0
  · refine ⟨_, _, _, Ev_neg z (Ev_bindp e (Ev_bindp e2 (Ev_pos c0 (Ev_pos hb.1 (Ev_pos (by omega) (Ev_pos (by rw [ep]; omega) (Ev_pos (by rw [ep]; omega) (Ev_pos (by rw [ep, x1, x2]; omega) (Ev.now _))))))))), ?_⟩
    rw [ByteArray.size_append, ep, x1, x2]; omega
  by_cases c1 : c = 1
  · obtain ⟨d, i3, g3, e3, hd, hi3, hj3⟩ := l1Byte_dr l hl i2 g2 hi2 hj2
    refine ⟨_, _, _, Ev_neg z (Ev_bindp e (Ev_bindp e2 (Ev_neg c0 (Ev_pos c1 (Ev_pos hb.1 (Ev_pos (by omega) (Ev_bindp e3 (Ev_bindp rfl (Ev_pos (by rw [x1, strOfNums_size]; simp; omega) (Ev_pos (by rw [ByteArray.size_append, x1, x3, strOfNums_size]; simp; omega) (Ev.now _))))))))))), ?_⟩
    rw [ByteArray.size_append, ByteArray.size_append, x1, x3, strOfNums_size]; simp; omega
  by_cases c2 : c = 2
  · exact ⟨_, _, _, Ev_neg z (Ev_bindp e (Ev_bindp e2 (Ev_neg c0 (Ev_neg c1 (Ev_pos c2 (Ev_pos hb.1 (Ev_pos (by omega) (Ev.now _)))))))), by rw [x1]; omega⟩
  · obtain ⟨d, i3, g3, e3, hd, hi3, hj3⟩ := l1Below_dr l hl i2 g2 255 hi2 hj2 (by decide)
    refine ⟨_, _, _, Ev_neg z (Ev_bindp e (Ev_bindp e2 (Ev_neg c0 (Ev_neg c1 (Ev_neg c2 (Ev_pos hb.1 (Ev_pos (by omega) (Ev_pos hb.2 (Ev_bindp e3 (Ev_bindp rfl (Ev_pos (by rw [x1, strOfNums_size]; simp; omega) (Ev_pos (by rw [ep]; omega) (Ev_pos (by rw [ep]; omega) (Ev_pos (by rw [ByteArray.size_append, ep, x1, x2, strOfNums_size]; simp; omega) (Ev.now _))))))))))))))), ?_⟩
    rw [ByteArray.size_append, ByteArray.size_append, ep, x1, x2, strOfNums_size]; simp; omega

/-- The groups of seven bits of n, at most f + 1 of them. -/
def varL : Nat → Int → List Int
  | 0, n => [n % 256]
  | f + 1, n => if 128 ≤ n then (128 + n % 128) :: varL f (n / 128) else [n % 256]
theorem varL_length : ∀ f n, (varL f n).length ≤ f + 1
  | 0, n => by simp [varL]
  | f + 1, n => by
    unfold varL
    split
    · have := varL_length f (n / 128); simp; omega
    · simp

def varV (n : Int) : ByteArray := if 0 ≤ n ∧ n ≤ 562949953421311 then strOfNums (varL 6 n) else ⟨#[]⟩

theorem l1In_eq (a b c : Int) : spec_l1In.f a b c = some (decide (b ≤ a ∧ a ≤ c)) := by
  unfold spec_l1In.f
  by_cases h : b ≤ a <;> simp [h]

theorem spec_var_l : ∀ (f : Nat) (n : Int) (acc : List Int), 0 ≤ n → n < ((128 ^ (f + 1) : Nat) : Int) → n ≤ 562949953421311 → acc.length + f ≤ 1000 → Ev (fun k => spec_Var.l0 k n acc) (strOfNums (acc ++ varL f n)) := by
  intro f
  induction f with
  | zero =>
    intro n acc h0 h1 h2 h3
    exact Ev.step (fun k => spec_Var.l0.eq_2 _ _ k) (Ev_neg (by omega) (Ev_pos (by omega) (Ev.now _)))
  | succ f ih =>
    intro n acc h0 h1 h2 h3
    refine Ev.step (fun k => spec_Var.l0.eq_2 _ _ k) ?_
    unfold varL
    by_cases h : 128 ≤ n
    · rw [if_pos h]
      have e1 : wrap64 (Int.tdiv n 128) = n / 128 := by rw [Int.tdiv_eq_ediv_of_nonneg h0, w64 (by omega) (by omega)]
      have e2 : wrap64 (128 + Int.tmod n 128) % 256 = 128 + n % 128 := by rw [Int.tmod_eq_emod_of_nonneg h0, w64 (by omega) (by omega)]; omega
      rw [e1, e2]
      refine Ev_pos h (Ev_pos (by omega) ?_)
      have := ih (n / 128) (acc ++ [128 + n % 128]) (by omega) (by rw [Nat.pow_succ] at h1; omega) (by omega) (by simp; omega)
      simpa using this
    · rw [if_neg h]
      exact Ev_neg h (Ev_pos (by omega) (Ev.now _))
theorem spec_Var_ev (n : Int) : Ev (fun k => spec_Var.f k n) (varV n) := by
  refine Ev_bindp (l1In_eq _ _ _) ?_
  unfold varV
  by_cases h : 0 ≤ n ∧ n ≤ 562949953421311
  · rw [if_pos h]
    refine Ev_pos (decide_eq_true h) ?_
    exact spec_var_l 6 n [] h.1 (by omega) h.2 (by simp)
  · rw [if_neg h]
    exact Ev_neg (by simpa using h) (Ev.now _)

theorem varV_size (n : Int) : (varV n).size ≤ 7 := by
  unfold varV
  split
  · rw [strOfNums_size]; exact varL_length 6 n
  · exact Nat.zero_le _
theorem DrawReadVar_ev (l : List Int) (hl : l.length ≤ 1048576) : ∃ s : ByteArray, s.size ≤ 100 ∧ Ev (fun k => spec_DrawReadVar.f k l) s := by
  obtain ⟨h, e⟩ := l1New_ev l hl
  obtain ⟨n, i1, g1, e1, hn, hi, hj⟩ := l1Num_dr l hl 0 h (by decide) (by decide)
  obtain ⟨t, i2, g2, q1, q2, hi2, hj2⟩ := l1Text_ev l hl i1 g1 hi hj 4 (by decide) (by decide)
  obtain ⟨o, i3, g3, e3, _, hi3, hj3⟩ := l1Once_dr l hl i2 g2 4 hi2 hj2 (by decide)
  have hv := varV_size n
  have hs : (varV n ++ t).size ≤ 11 := by rw [ByteArray.size_append]; omega
  obtain ⟨s, j, g, s1, s2⟩ := l1Spoil_ev l hl i3 g3 hi3 hj3 (varV n ++ t) (by omega)
  cases o with
  | true => exact ⟨s, by omega, Ev.bind e (Ev_bindp e1 (Ev.bind (spec_Var_ev n) (Ev.bind q1 (Ev_pos (by show (varV n).size + t.size ≤ _; omega) (Ev_bindp e3 (Ev_pos rfl (Ev.bind s1 (Ev.now _))))))))⟩
  | false => exact ⟨varV n ++ t, by omega, Ev.bind e (Ev_bindp e1 (Ev.bind (spec_Var_ev n) (Ev.bind q1 (Ev_pos (by show (varV n).size + t.size ≤ _; omega) (Ev_bindp e3 (Ev_neg (by simp) (Ev.now _)))))))⟩

theorem wf64 {n : Int} (h : (Lit.int .i64 n).wf = true) : -9223372036854775808 ≤ n ∧ n ≤ 9223372036854775807 := by
  simp only [Lit.wf, IntKind.min, IntKind.max, IntKind.signed, IntKind.bits, Bool.and_eq_true, decide_eq_true_eq, if_true] at h
  omega

def digitsOf (u : Nat) : List UInt8 := if u = 0 then [] else Lib.decDigits u
theorem digitsOf_step {u : Nat} (h : u ≠ 0) : digitsOf u = digitsOf (u / 10) ++ [UInt8.ofNat (48 + u % 10)] := by
  unfold digitsOf
  rw [if_neg h]
  by_cases c : u < 10
  · rw [if_pos (by omega), Lib.decDigits_one c, show u % 10 = u from by omega]; rfl
  · rw [if_neg (by omega)]
    conv => lhs; rw [Lib.decDigits, dif_neg c]
theorem tq (x : Int) : (x.tdiv 10).natAbs = x.natAbs / 10 ∧ (x.tmod 10).natAbs = x.natAbs % 10 ∧ (0 ≤ x → 0 ≤ x.tdiv 10 ∧ 0 ≤ x.tmod 10) ∧ (x ≤ 0 → x.tdiv 10 ≤ 0 ∧ x.tmod 10 ≤ 0) := by
  rcases Int.le_total 0 x with h | h
  · rw [Int.tdiv_eq_ediv_of_nonneg h, Int.tmod_eq_emod_of_nonneg h]; omega
  · obtain ⟨y, rfl⟩ : ∃ y, x = -y := ⟨-x, by omega⟩
    rw [Int.neg_tdiv, Int.neg_tmod, Int.tdiv_eq_ediv_of_nonneg (by omega), Int.tmod_eq_emod_of_nonneg (by omega)]; omega
theorem sn_cons (b : Int) (l : List UInt8) : strOfNums [b] ++ (⟨l.toArray⟩ : ByteArray) = ⟨(UInt8.ofNat b.toNat :: l).toArray⟩ := by
  apply ByteArray.ext
  unfold strOfNums
  simp [ByteArray.data_append]
theorem ba_size (l : List UInt8) : (⟨l.toArray⟩ : ByteArray).size = l.length := by
  show l.toArray.size = l.length
  simp
def decS (n : Int) : ByteArray := ⟨(Lib.itoa n).toArray⟩

def accV : List Int → Int → Int → Int × Int
  | [], n, k => (n, k)
  | x :: r, n, k => if 48 ≤ x ∧ x ≤ 57 then accV r (n * 10 + (x - 48)) (k + 1) else accV r n k
def valV : List Int → Int → Int
  | [], n => n
  | x :: r, n => valV r (n * 10 + (x - 48))
def isDg (x : Int) : Bool := decide (48 ≤ x ∧ x ≤ 57)
theorem accV_all : ∀ (l : List Int) (n k : Int), l.all isDg = true → accV l n k = (valV l n, k + (l.length : Int))
  | [], n, k, _ => by simp [accV, valV]
  | x :: r, n, k, h => by
    rw [List.all_cons, Bool.and_eq_true] at h
    have hx : 48 ≤ x ∧ x ≤ 57 := of_decide_eq_true h.1
    simp only [accV, valV, if_pos hx]
    rw [accV_all r _ _ h.2]
    simp only [List.length_cons, Prod.mk.injEq, true_and]
    omega
def finS (s : ByteArray) (p : Int × Int) : Int × Bool :=
  if p.2 > 9 then (0, false) else if (s.size : Int) > 10 then (0, false) else
    if (decS (if 0 < s.size ∧ bt s 0 = 45 then -p.1 else p.1)).toList = s.toList then (if 0 < s.size ∧ bt s 0 = 45 then -p.1 else p.1, true) else (0, false)
def finI (s : ByteArray) (sg : Int) (l : List Int) (n : Int) : Int × Bool :=
  if l.all isDg = true then (if (decS (sg * valV l n)).toList = s.toList then (sg * valV l n, true) else (0, false)) else (0, false)
def readDecV (s : ByteArray) : Int × Bool :=
  if 0 < s.size ∧ bt s 0 = 45 then (if 1 ≤ s.size - 1 ∧ s.size - 1 ≤ 9 then finI s (-1) ((bytesOf s).drop 1) 0 else (0, false))
  else (if 1 ≤ s.size ∧ s.size ≤ 9 then finI s 1 (bytesOf s) 0 else (0, false))
theorem bt_get (s : ByteArray) (j : Nat) (h : j < s.size) : (bytesOf s)[j]? = some (bt s (j : Int)) := by
  unfold bytesOf bt
  have hj : ((j : Int)).toNat = j := by omega
  rw [dif_pos (by omega), List.getElem?_map]
  simp only [hj]
  rw [List.getElem?_eq_getElem (by rw [data_length]; exact h)]
  rfl
theorem drop_get (s : ByteArray) (j : Nat) (h : j < s.size) : (bytesOf s).drop j = bt s (j : Int) :: (bytesOf s).drop (j + 1) := by
  have hl : j < (bytesOf s).length := by rw [bytesOf_length]; exact h
  rw [List.drop_eq_getElem_cons hl]
  congr 1
  have := bt_get s j h
  rw [List.getElem?_eq_getElem hl] at this
  exact Option.some.inj this
theorem dg_all : ∀ u : Nat, (∀ b ∈ Lib.decDigits u, 48 ≤ b.toNat ∧ b.toNat ≤ 57) ∧ Lib.decDigits u ≠ [] := by
  intro u
  induction u using Nat.strongRecOn with
  | ind u ih =>
    rw [Lib.decDigits]
    by_cases c : u < 10
    · rw [dif_pos c]
      refine ⟨fun b hb => ?_, by simp⟩
      rw [List.mem_singleton] at hb
      subst hb
      rw [UInt8.toNat_ofNat']
      omega
    · rw [dif_neg c]
      refine ⟨fun b hb => ?_, by simp⟩
      rcases List.mem_append.1 hb with h | h
      · exact (ih (u / 10) (by omega)).1 b h
      · rw [List.mem_singleton] at h
        subst h
        rw [UInt8.toNat_ofNat']
        omega
theorem dg_ints (u : Nat) : ((Lib.decDigits u).map fun b => (b.toNat : Int)).all isDg = true ∧ 1 ≤ ((Lib.decDigits u).map fun b => (b.toNat : Int)).length := by
  refine ⟨List.all_eq_true.2 fun x hx => ?_, ?_⟩
  · obtain ⟨b, hb, rfl⟩ := List.mem_map.1 hx
    have := (dg_all u).1 b hb
    exact decide_eq_true ⟨by omega, by omega⟩
  · rw [List.length_map]
    exact List.length_pos_iff.2 (dg_all u).2
theorem dec_bytes {n : Int} {s : ByteArray} (h : (decS n).toList = s.toList) : bytesOf s = (Lib.itoa n).map fun b => (b.toNat : Int) := by
  rw [Lib.toList_data, Lib.toList_data] at h
  unfold bytesOf
  rw [← h]
  rfl
theorem readDec_eq (s : ByteArray) : readDecV s = finS s (accV ((bytesOf s).take 11) 0 0) := by
  have hlen := bytesOf_length s
  -- the well formed ones
  have well : ∀ T : List Int, T.all isDg = true → T.length ≤ 9 → ((0 < s.size ∧ bt s 0 = 45) ∧ bytesOf s = 45 :: T ∨ ¬ (0 < s.size ∧ bt s 0 = 45) ∧ bytesOf s = T) →
      finS s (accV ((bytesOf s).take 11) 0 0) = finI s (if 0 < s.size ∧ bt s 0 = 45 then -1 else 1) T 0 := by
    intro T hT h9 hc
    have hk : accV ((bytesOf s).take 11) 0 0 = (valV T 0, (T.length : Int)) ∧ s.size ≤ 10 := by
      rcases hc with ⟨_, e⟩ | ⟨_, e⟩
      · rw [e] at hlen ⊢
        rw [List.length_cons] at hlen
        rw [List.take_of_length_le (by rw [List.length_cons]; omega)]
        simp only [accV]
        rw [if_neg (by omega), accV_all T 0 0 hT]
        exact ⟨by simp, by omega⟩
      · rw [e] at hlen ⊢
        rw [List.take_of_length_le (by omega), accV_all T 0 0 hT]
        exact ⟨by simp, by omega⟩
    rw [hk.1]
    unfold finS finI
    simp only
    rw [if_neg (by omega), if_neg (by omega), if_pos hT]
    by_cases c : 0 < s.size ∧ bt s 0 = 45
    · simp only [if_pos c, show (-1 : Int) * valV T 0 = -valV T 0 from by omega]
    · simp only [if_neg c, show (1 : Int) * valV T 0 = valV T 0 from by omega]
  -- the others: a decimal is well formed
  have ill : (∀ T : List Int, T.all isDg = true → 1 ≤ T.length → T.length ≤ 9 → ¬ ((0 < s.size ∧ bt s 0 = 45) ∧ bytesOf s = 45 :: T ∨ ¬ (0 < s.size ∧ bt s 0 = 45) ∧ bytesOf s = T)) →
      finS s (accV ((bytesOf s).take 11) 0 0) = (0, false) := by
    intro hno
    unfold finS
    by_cases k9 : (accV ((bytesOf s).take 11) 0 0).2 > 9
    · rw [if_pos k9]
    rw [if_neg k9]
    by_cases s10 : (s.size : Int) > 10
    · rw [if_pos s10]
    rw [if_neg s10, if_neg]
    intro hd
    have hb := dec_bytes hd
    generalize (if 0 < s.size ∧ bt s 0 = 45 then -(accV ((bytesOf s).take 11) 0 0).1 else (accV ((bytesOf s).take 11) 0 0).1) = m at hb
    rw [List.take_of_length_le (by omega)] at k9
    unfold Lib.itoa at hb
    by_cases c : m < 0
    · rw [if_pos c] at hb
      obtain ⟨d1, d2⟩ := dg_ints m.natAbs
      generalize hD : (Lib.decDigits m.natAbs).map (fun b => (b.toNat : Int)) = D at d1 d2
      have hb' : bytesOf s = 45 :: D := by rw [hb, ← hD]; rfl
      have hs0 : 0 < s.size := by rw [← hlen, hb']; simp
      have h45 : bt s 0 = 45 := by
        have := bt_get s 0 hs0
        rw [hb'] at this
        simpa using this.symm
      have hk : (accV (bytesOf s) 0 0).2 = (D.length : Int) := by
        rw [hb']
        simp only [accV]
        rw [if_neg (by omega), accV_all D 0 0 d1]
        simp
      exact hno D d1 d2 (by omega) (Or.inl ⟨⟨hs0, h45⟩, hb'⟩)
    · rw [if_neg c] at hb
      obtain ⟨d1, d2⟩ := dg_ints m.toNat
      generalize (Lib.decDigits m.toNat).map (fun b => (b.toNat : Int)) = D at d1 d2 hb
      have hk : (accV (bytesOf s) 0 0).2 = (D.length : Int) := by
        rw [hb, accV_all D 0 0 d1]
        simp
      have h45 : ¬ (0 < s.size ∧ bt s 0 = 45) := by
        rintro ⟨hs0, h45⟩
        have := bt_get s 0 hs0
        rw [hb] at this
        have hm := List.mem_of_getElem? this
        have := of_decide_eq_true (List.all_eq_true.1 d1 _ hm)
        have e : bt s ((0 : Nat) : Int) = 45 := h45
        rw [e] at this
        omega
      exact hno D d1 d2 (by omega) (Or.inr ⟨h45, hb⟩)
  unfold readDecV
  by_cases c : 0 < s.size ∧ bt s 0 = 45
  · rw [if_pos c]
    have e : bytesOf s = 45 :: (bytesOf s).drop 1 := by
      have := drop_get s 0 c.1
      rw [List.drop_zero] at this
      rw [← c.2]
      exact this
    have hl1 : ((bytesOf s).drop 1).length = s.size - 1 := by rw [List.length_drop, hlen]
    by_cases q : 1 ≤ s.size - 1 ∧ s.size - 1 ≤ 9
    · rw [if_pos q]
      by_cases a : ((bytesOf s).drop 1).all isDg = true
      · rw [well _ a (by omega) (Or.inl ⟨c, e⟩), if_pos c]
      · rw [ill ?_]
        · unfold finI; rw [if_neg a]
        · rintro T t1 t2 t3 (⟨_, h⟩ | ⟨h, _⟩)
          · rw [h] at a; exact a t1
          · exact h c
    · rw [if_neg q, ill ?_]
      rintro T t1 t2 t3 (⟨_, h⟩ | ⟨h, _⟩)
      · rw [h, List.length_cons] at hlen; omega
      · exact h c
  · rw [if_neg c]
    by_cases q : 1 ≤ s.size ∧ s.size ≤ 9
    · rw [if_pos q]
      by_cases a : (bytesOf s).all isDg = true
      · rw [well _ a (by omega) (Or.inr ⟨c, rfl⟩), if_neg c]
      · rw [ill ?_]
        · unfold finI; rw [if_neg a]
        · rintro T t1 t2 t3 (⟨h, _⟩ | ⟨_, h⟩)
          · exact c h
          · rw [h] at a; exact a t1
    · rw [if_neg q, ill ?_]
      rintro T t1 t2 t3 (⟨h, _⟩ | ⟨_, h⟩)
      · exact c h
      · rw [h] at hlen; omega

theorem impl_Dec_ev (n : Int) (h0 : -9223372036854775808 ≤ n) (h1 : n ≤ 9223372036854775807) : Ev (fun k => impl_Dec.f k n) (decS n) := by
  refine ⟨0, fun k _ => ?_⟩
  unfold impl_Dec.f
  rw [if_pos ⟨h0, h1⟩]; rfl

theorem within_eq (a b c : Int) : impl_within.f a b c = some (decide (b ≤ a ∧ a ≤ c)) := by
  unfold impl_within.f
  by_cases h : b ≤ a <;> simp [h]

theorem impl_rd_l (s t : ByteArray) (sg : Int) (hsg : sg = 1 ∨ sg = -1) (ht : t.size ≤ 9) : ∀ (d i : Nat) (n : Int), i + d = t.size → 0 ≤ n → n < ((10 ^ i : Nat) : Int) →
    Ev (fun q => impl_ReadDec.l0 q s t sg n (t.size : Int) (i : Int)) (finI s sg ((bytesOf t).drop i) n) := by
  have hlen := bytesOf_length t
  intro d
  induction d with
  | zero =>
    intro i n hi h0 h1
    have hn : n < 1000000000 := by
      have : 10 ^ i ≤ 10 ^ 9 := Nat.pow_le_pow_right (by decide) (by omega)
      omega
    have e : (bytesOf t).drop i = [] := List.drop_eq_nil_of_le (by omega)
    have hm : -1000000000 ≤ sg * n ∧ sg * n ≤ 1000000000 := by rcases hsg with rfl | rfl <;> omega
    rw [e]
    unfold finI
    rw [if_pos (by rfl)]
    show Ev _ (if (decS (sg * n)).toList = s.toList then (sg * n, true) else (0, false))
    refine Ev.step (fun k => impl_ReadDec.l0.eq_2 _ _ _ _ _ _ k) (Ev_neg (by omega) ?_)
    rw [w64 (n := sg * n) (by omega) (by omega)]
    refine Ev.bind (impl_Dec_ev (sg * n) (by omega) (by omega)) ?_
    refine Ev_is ?_
    by_cases c3 : (decS (sg * n)).toList = s.toList
    · rw [if_pos c3, if_pos c3]
    · rw [if_neg c3, if_neg c3]
  | succ d ih =>
    intro i n hi h0 h1
    have hn : n < 1000000000 := by
      have : 10 ^ i ≤ 10 ^ 9 := Nat.pow_le_pow_right (by decide) (by omega)
      omega
    have hi' : i < t.size := by omega
    have hb := bt_range t (i : Int)
    have ei : wrap64 ((i : Int) + 1) = ((i + 1 : Nat) : Int) := by rw [w64 (by omega) (by omega)]; omega
    have pw : ((10 ^ (i + 1) : Nat) : Int) = ((10 ^ i : Nat) : Int) * 10 := by rw [Nat.pow_succ]; omega
    have hd := drop_get t i hi'
    refine Ev.step (fun k => impl_ReadDec.l0.eq_2 _ _ _ _ _ _ k) (Ev_pos (by omega) (Ev_pos (by omega) (Ev_pos (by omega) ?_)))
    have no : ¬ (48 ≤ bt t (i : Int) ∧ bt t (i : Int) ≤ 57) → finI s sg ((bytesOf t).drop i) n = (0, false) := by
      intro h
      unfold finI
      rw [hd, if_neg]
      rw [List.all_cons, Bool.and_eq_true]
      exact fun q => h (of_decide_eq_true q.1)
    by_cases c1 : bt t (i : Int) < 48
    · rw [no (by omega)]; exact Ev_pos c1 (Ev.now _)
    refine Ev_neg c1 ?_
    by_cases c2 : bt t (i : Int) > 57
    · rw [no (by omega)]; exact Ev_pos c2 (Ev.now _)
    refine Ev_neg c2 ?_
    have yes : finI s sg ((bytesOf t).drop i) n = finI s sg ((bytesOf t).drop (i + 1)) (n * 10 + (bt t (i : Int) - 48)) := by
      unfold finI
      rw [hd, List.all_cons, show isDg (bt t (i : Int)) = true from decide_eq_true ⟨by omega, by omega⟩, Bool.true_and]
      simp only [valV]
      rfl
    rw [yes, ei, w64 (n := 10 * n) (by omega) (by omega), show (bt t (i : Int) - 48) % 256 = bt t (i : Int) - 48 from by omega, w64 (by omega) (by omega), show 10 * n = n * 10 from by omega]
    exact ih (i + 1) _ (by omega) (by omega) (by omega)
theorem impl_ReadDec_ev (s : ByteArray) (hs : s.size ≤ 1048576) : Ev (fun k => impl_ReadDec.f k s) (readDecV s) := by
  have low : ∀ (t : ByteArray) (sg : Int), (sg = 1 ∨ sg = -1) → t.size ≤ 1048576 → Ev (fun k => impl_ReadDec.j1 k s t sg) (if 1 ≤ t.size ∧ t.size ≤ 9 then finI s sg (bytesOf t) 0 else (0, false)) := by
    intro t sg hsg ht
    refine Ev.step (fun k => impl_ReadDec.j1.eq_2 _ _ _ k) (Ev_bindp (within_eq _ _ _) ?_)
    by_cases c : 1 ≤ t.size ∧ t.size ≤ 9
    · rw [if_pos c]
      refine Ev_pos (decide_eq_true ⟨by omega, by omega⟩) ?_
      have := impl_rd_l s t sg hsg c.2 t.size 0 0 (by omega) (by decide) (by decide)
      rw [List.drop_zero] at this
      exact this
    · rw [if_neg c]
      exact Ev_neg (by rw [decide_eq_true_eq]; omega) (Ev.now _)
  unfold readDecV
  by_cases z : 0 < s.size
  · refine Ev_pos (by omega) (Ev_pos (by omega) ?_)
    by_cases c : bt s 0 = 45
    · rw [if_pos ⟨z, c⟩, show ((bt s 0) == 45) = true from beq_iff_eq.2 c]
      refine Ev.step (fun k => impl_ReadDec.j0.eq_2 _ _ _ _ k) (Ev_pos rfl (Ev_pos (by omega) ?_))
      have hsz : (s.extract 1 s.size).size = s.size - 1 := by rw [ByteArray.size_extract]; omega
      have hby : bytesOf (s.extract 1 s.size) = (bytesOf s).drop 1 := by
        unfold bytesOf
        rw [← List.map_drop]
        congr 1
        rw [ByteArray.data_extract, Array.toList_extract, List.extract_eq_take_drop]
        exact List.take_of_length_le (by rw [List.length_drop, data_length]; omega)
      have := low (s.extract 1 s.size) (-1) (Or.inr rfl) (by omega)
      rw [hsz, hby] at this
      exact this
    · rw [if_neg (fun h => c h.2), show ((bt s 0) == 45) = false from beq_eq_false_iff_ne.2 c]
      exact Ev.step (fun k => impl_ReadDec.j0.eq_2 _ _ _ _ k) (Ev_neg (by decide) (low s 1 (Or.inl rfl) hs))
  · rw [if_neg (fun h => z h.1)]
    refine Ev_neg (by omega) ?_
    exact Ev.step (fun k => impl_ReadDec.j0.eq_2 _ _ _ _ k) (Ev_neg (by decide) (low s 1 (Or.inl rfl) hs))

theorem valV_append : ∀ (a b : List Int) (n : Int), valV (a ++ b) n = valV b (valV a n)
  | [], b, n => rfl
  | x :: a, b, n => by
    simp only [List.cons_append, valV]
    exact valV_append a b _
theorem valV_dec (u : Nat) : valV ((Lib.decDigits u).map fun b => (b.toNat : Int)) 0 = (u : Int) := by
  induction u using Nat.strongRecOn with
  | ind u ih =>
    rw [Lib.decDigits]
    by_cases c : u < 10
    · rw [dif_pos c]
      simp only [List.map_cons, List.map_nil, valV, UInt8.toNat_ofNat']
      omega
    · rw [dif_neg c, List.map_append, valV_append, ih (u / 10) (by omega)]
      simp only [List.map_cons, List.map_nil, valV, UInt8.toNat_ofNat']
      omega
theorem dec_len : ∀ (k u : Nat), (Lib.decDigits u).length ≤ k + 1 ↔ u < 10 ^ (k + 1) := by
  intro k
  induction k with
  | zero =>
    intro u
    rw [Lib.decDigits]
    by_cases c : u < 10
    · rw [dif_pos c]; simp; omega
    · rw [dif_neg c]
      have := List.length_pos_iff.2 (dg_all (u / 10)).2
      rw [List.length_append, List.length_singleton]
      constructor
      · intro h; omega
      · intro h; rw [show (0 + 1 : Nat) = 1 from rfl, Nat.pow_one] at h; omega
  | succ k ih =>
    intro u
    rw [Lib.decDigits]
    by_cases c : u < 10
    · rw [dif_pos c]
      have : 10 ^ 1 ≤ 10 ^ (k + 1 + 1) := Nat.pow_le_pow_right (by decide) (by omega)
      simp; omega
    · rw [dif_neg c]
      have := ih (u / 10)
      have p : 10 ^ (k + 1 + 1) = 10 ^ (k + 1) * 10 := Nat.pow_succ ..
      rw [List.length_append, List.length_singleton, p]
      constructor
      · intro h; have := this.1 (by omega); omega
      · intro h; have := this.2 (by omega); omega
theorem readDec_dec (n : Int) (h0 : -9223372036854775808 ≤ n) (h1 : n ≤ 9223372036854775807) : readDecV (decS n) = if -1000000000 < n ∧ n < 1000000000 then (n, true) else (0, false) := by
  have hb : bytesOf (decS n) = (Lib.itoa n).map fun b => (b.toNat : Int) := rfl
  have hsz : (decS n).size = (Lib.itoa n).length := ba_size _
  unfold readDecV
  by_cases c : n < 0
  · have e : Lib.itoa n = 45 :: Lib.decDigits n.natAbs := by unfold Lib.itoa; rw [if_pos c]
    rw [e] at hb hsz
    rw [List.length_cons] at hsz
    obtain ⟨d1, d2⟩ := dg_ints n.natAbs
    have hv := valV_dec n.natAbs
    have hl := dec_len 8 n.natAbs
    have h45 : bt (decS n) 0 = 45 := by
      have := bt_get (decS n) 0 (by omega)
      rw [hb] at this
      simpa using this.symm
    rw [if_pos ⟨by omega, h45⟩, hb, List.map_cons, List.drop_succ_cons, List.drop_zero]
    rw [List.length_map] at d2
    by_cases q : -1000000000 < n ∧ n < 1000000000
    · rw [if_pos q, if_pos ⟨by omega, by have := hl.2 (by omega); omega⟩]
      unfold finI
      rw [if_pos d1, hv, show (-1 : Int) * (n.natAbs : Int) = n from by omega, if_pos rfl]
    · rw [if_neg q, if_neg]
      rintro ⟨_, g⟩
      have := hl.1 (by omega)
      omega
  · have e : Lib.itoa n = Lib.decDigits n.toNat := by unfold Lib.itoa; rw [if_neg c]
    rw [e] at hb hsz
    obtain ⟨d1, d2⟩ := dg_ints n.toNat
    have hv := valV_dec n.toNat
    have hl := dec_len 8 n.toNat
    rw [List.length_map] at d2
    have h45 : ¬ (0 < (decS n).size ∧ bt (decS n) 0 = 45) := by
      rintro ⟨g0, g1⟩
      have := bt_get (decS n) 0 g0
      rw [hb] at this
      have hm := List.mem_of_getElem? this
      have := of_decide_eq_true (List.all_eq_true.1 d1 _ hm)
      have e0 : bt (decS n) ((0 : Nat) : Int) = 45 := g1
      rw [e0] at this
      omega
    rw [if_neg h45, hb]
    by_cases q : -1000000000 < n ∧ n < 1000000000
    · rw [if_pos q, if_pos ⟨by omega, by have := hl.2 (by omega); omega⟩]
      unfold finI
      rw [if_pos d1, hv, show (1 : Int) * (n.toNat : Int) = n from by omega, if_pos rfl]
    · rw [if_neg q, if_neg]
      rintro ⟨_, g⟩
      have := hl.1 (by omega)
      omega

theorem bytesOf_range (s : ByteArray) : ∀ x ∈ bytesOf s, 0 ≤ x ∧ x ≤ 255 := by
  intro x hx
  unfold bytesOf at hx
  obtain ⟨b, _, rfl⟩ := List.mem_map.1 hx
  have := b.toNat_lt
  omega
theorem nums_back (l : List UInt8) (xs : List Int) (h : ∀ x ∈ xs, 0 ≤ x ∧ x ≤ 255) : (xs.map fun n => UInt8.ofNat n.toNat) = l ↔ xs = l.map fun b => (b.toNat : Int) := by
  constructor
  · intro e
    rw [← e, List.map_map]
    symm
    conv => rhs; rw [← List.map_id xs]
    apply List.map_congr_left
    intro x hx
    have := h x hx
    simp only [Function.comp, UInt8.toNat_ofNat', id]
    omega
  · intro e
    rw [e, List.map_map]
    conv => rhs; rw [← List.map_id l]
    apply List.map_congr_left
    intro b _
    simp
theorem same_take (s : ByteArray) (xs : List Int) (h : ∀ x ∈ xs, 0 ≤ x ∧ x ≤ 255) (k : Nat) : (strOfNums xs).toList = (s.extract 0 k).toList ↔ xs = (bytesOf s).take k := by
  rw [ByteArray.toList_eq, ByteArray.toList_eq]
  have e : (s.extract 0 k).data.toList = s.data.toList.take k := by simp
  rw [e, strOfNums_data, nums_back _ _ h]
  unfold bytesOf
  rw [List.map_take]
theorem take_at (s : ByteArray) (i : Nat) (h : i < s.size) : (bytesOf s).take (i + 1) = (bytesOf s).take i ++ [bt s i] := by
  have hl : i < (bytesOf s).length := by rw [bytesOf_length]; exact h
  rw [List.take_succ_eq_append_getElem hl, ← rd_bytesOf]
  congr 2
  simp [rd, List.getD_eq_getElem?_getD, List.getElem?_eq_getElem hl]

/-- The number of groups of seven bits, least significant first. -/
def valL : List Int → Int
  | [] => 0
  | b :: l => b % 128 + 128 * valL l
theorem valL_lt : ∀ l : List Int, 0 ≤ valL l ∧ valL l < ((128 ^ l.length : Nat) : Int)
  | [] => by simp [valL]
  | b :: l => by
    have ih := valL_lt l
    simp only [valL, List.length_cons, Nat.pow_succ]
    omega
theorem valL_snoc (c : Int) : ∀ l : List Int, valL (l ++ [c]) = valL l + ((128 ^ l.length : Nat) : Int) * (c % 128)
  | [] => by simp [valL]
  | b :: l => by
    have ih := valL_snoc c l
    simp only [List.cons_append, valL, List.length_cons, ih, Nat.pow_succ, Int.natCast_mul, Int.mul_add]
    rw [Int.mul_comm ((128 ^ l.length : Nat) : Int) ((128 : Nat) : Int), Int.mul_assoc]
    omega
/-- Is a list of bytes the varint of a number? 'first': may it be one zero byte? -/
def isVar (first : Bool) : List Int → Prop
  | [] => False
  | b :: l => (b < 128 ∧ l = [] ∧ (first = true ∨ b ≠ 0)) ∨ (128 ≤ b ∧ isVar false l)
theorem isVar_varL : ∀ (f : Nat) (n : Int) (first : Bool), 0 ≤ n → n < ((128 ^ (f + 1) : Nat) : Int) → (first = true ∨ n ≠ 0) → isVar first (varL f n) ∧ valL (varL f n) = n ∧ ∀ x ∈ varL f n, 0 ≤ x ∧ x ≤ 255
  | 0, n, first, h0, h1, hf => by
    have e : n % 256 = n := by omega
    simp only [varL, e, isVar, valL]
    refine ⟨.inl ⟨by omega, trivial, hf⟩, by omega, ?_⟩
    intro x hx
    simp only [List.mem_singleton] at hx
    omega
  | f + 1, n, first, h0, h1, hf => by
    unfold varL
    by_cases h : 128 ≤ n
    · rw [if_pos h]
      have ih := isVar_varL f (n / 128) false (by omega) (by rw [Nat.pow_succ] at h1; omega) (.inr (by omega))
      refine ⟨.inr ⟨by omega, ih.1⟩, ?_, ?_⟩
      · simp only [valL, ih.2.1]; omega
      · intro x hx
        rcases List.mem_cons.1 hx with hx | hx
        · omega
        · exact ih.2.2 x hx
    · rw [if_neg h]
      have e : n % 256 = n := by omega
      simp only [e, isVar, valL]
      refine ⟨.inl ⟨by omega, trivial, hf⟩, by omega, ?_⟩
      intro x hx
      simp only [List.mem_singleton] at hx
      omega
theorem varL_isVar : ∀ (l : List Int) (f : Nat) (first : Bool), isVar first l → (∀ x ∈ l, 0 ≤ x ∧ x ≤ 255) → l.length ≤ f + 1 → varL f (valL l) = l ∧ (first = false → 1 ≤ valL l)
  | [], f, first, h, _, _ => by simp [isVar] at h
  | b :: l, f, first, h, hr, hl => by
    have hb := hr b (by simp)
    simp only [isVar] at h
    rcases h with ⟨h1, rfl, h3⟩ | ⟨h1, h2⟩
    · have e : valL [b] = b := by simp only [valL]; omega
      rw [e]
      refine ⟨?_, ?_⟩
      · cases f with
        | zero => simp only [varL]; congr 1; omega
        | succ f => unfold varL; rw [if_neg (by omega)]; congr 1; omega
      · intro hf
        rcases h3 with h3 | h3
        · rw [hf] at h3; cases h3
        · omega
    · cases f with
      | zero =>
        have : l = [] := List.eq_nil_of_length_eq_zero (by simp only [List.length_cons] at hl; omega)
        subst this
        simp [isVar] at h2
      | succ f =>
        have ih := varL_isVar l f false h2 (fun x hx => hr x (List.mem_cons_of_mem _ hx)) (by simp at hl; omega)
        have hv := ih.2 rfl
        have e : valL (b :: l) = b % 128 + 128 * valL l := rfl
        refine ⟨?_, fun _ => by omega⟩
        unfold varL
        rw [e, if_pos (by omega), show (b % 128 + 128 * valL l) / 128 = valL l by omega, ih.1]
        congr 1
        omega
theorem isVar_all : ∀ (l : List Int) (first : Bool), (∀ x ∈ l, 128 ≤ x) → ¬ isVar first l
  | [], first, _ => by simp [isVar]
  | b :: l, first, h => by
    have hb := h b (by simp)
    have ih := isVar_all l false (fun x hx => h x (List.mem_cons_of_mem _ hx))
    simp only [isVar]
    rintro (⟨h1, _⟩ | ⟨_, h2⟩)
    · omega
    · exact ih h2
theorem isVar_snoc (c : Int) (hc : c < 128) : ∀ (l : List Int) (first : Bool), (∀ x ∈ l, 128 ≤ x) → (isVar first (l ++ [c]) ↔ ((first = true ∧ l = []) ∨ c ≠ 0))
  | [], first, _ => by
    simp only [List.nil_append, isVar]
    constructor
    · rintro (⟨_, _, h⟩ | ⟨h, _⟩)
      · rcases h with h | h
        · exact .inl ⟨h, trivial⟩
        · exact .inr h
      · omega
    · rintro (⟨h, _⟩ | h)
      · exact .inl ⟨hc, trivial, .inl h⟩
      · exact .inl ⟨hc, trivial, .inr h⟩
  | b :: l, first, h => by
    have hb := h b (by simp)
    have ih := isVar_snoc c hc l false (fun x hx => h x (List.mem_cons_of_mem _ hx))
    simp only [List.cons_append, isVar, ih]
    constructor
    · rintro (⟨h1, _⟩ | ⟨_, (⟨h2, _⟩ | h2)⟩)
      · omega
      · cases h2
      · exact .inr h2
    · rintro (⟨_, h2⟩ | h2)
      · cases h2
      · exact .inr ⟨hb, .inr h2⟩
theorem isVar_mid (c : Int) (hc : c < 128) (r : List Int) (hr : r ≠ []) : ∀ (l : List Int) (first : Bool), (∀ x ∈ l, 128 ≤ x) → ¬ isVar first (l ++ c :: r)
  | [], first, _ => by
    simp only [List.nil_append, isVar]
    rintro (⟨_, h, _⟩ | ⟨h, _⟩)
    · exact hr h
    · omega
  | b :: l, first, h => by
    have hb := h b (by simp)
    have ih := isVar_mid c hc r hr l false (fun x hx => h x (List.mem_cons_of_mem _ hx))
    simp only [List.cons_append, isVar]
    rintro (⟨h1, _⟩ | ⟨_, h2⟩)
    · omega
    · exact ih h2
theorem take_mid (s : ByteArray) (i k : Nat) (h : i < s.size) (hk : i + 1 < k) (hk' : k ≤ s.size) : ∃ r, r ≠ [] ∧ (bytesOf s).take k = (bytesOf s).take i ++ bt s i :: r := by
  refine ⟨((bytesOf s).take k).drop (i + 1), ?_, ?_⟩
  · intro e
    have := congrArg List.length e
    simp [bytesOf_length] at this
    omega
  · have e := (List.take_append_drop (i + 1) ((bytesOf s).take k)).symm
    rw [List.take_take, show min (i + 1) k = i + 1 by omega, take_at s i h] at e
    exact e.trans (by simp)
/-- What is read from byte i on, at most d bytes: the number, and where it ends. -/
def rvFrom (s : ByteArray) : Nat → Nat → Int × Int
  | 0, _ => (0, 0)
  | d + 1, i => if bt s i < 128 then (if 0 < i ∧ bt s i = 0 then (0, 0) else (valL ((bytesOf s).take (i + 1)), ((i + 1 : Nat) : Int))) else rvFrom s d (i + 1)
def readVarV (s : ByteArray) : Int × Int := rvFrom s (min 7 s.size) 0
theorem big_take (s : ByteArray) (i : Nat) (hi : i ≤ s.size) (h : ∀ j, j < i → 128 ≤ bt s (j : Nat)) : ∀ x ∈ (bytesOf s).take i, 128 ≤ x := by
  induction i with
  | zero => intro x hx; simp at hx
  | succ i ih =>
    intro x hx
    rw [take_at s i (by omega)] at hx
    rcases List.mem_append.1 hx with hx | hx
    · exact ih (by omega) (fun j hj => h j (by omega)) x hx
    · simp only [List.mem_singleton] at hx
      rw [hx]; exact h i (by omega)
theorem take_len (s : ByteArray) (i : Nat) (hi : i ≤ s.size) : ((bytesOf s).take i).length = i := by simp [bytesOf_length]; omega
theorem take_val (s : ByteArray) (i : Nat) (hi : i ≤ s.size) (h7 : i ≤ 7) : 0 ≤ valL ((bytesOf s).take i) ∧ valL ((bytesOf s).take i) < 562949953421312 := by
  have h := valL_lt ((bytesOf s).take i)
  rw [take_len s i hi] at h
  have hp : 128 ^ i ≤ 128 ^ 7 := Nat.pow_le_pow_right (by decide) h7
  omega

theorem or128 (y : Int) (h0 : 0 ≤ y) (h1 : y < 128) : Go.bits .or .u8 y 128 = 128 + y := by
  obtain ⟨b, rfl⟩ := Int.eq_ofNat_of_zero_le h0
  have h := (bits_nat .u8 8 (by decide) wraps_u8 b 128 (by omega) (by decide)).2
  have e : b ||| 128 = 128 + b := by
    have := Nat.two_pow_add_eq_or_of_lt (i := 7) (b := b) (by omega) 1
    rw [Nat.or_comm]
    simpa using this.symm
  have h' : Go.bits .or .u8 (b : Int) 128 = ((b ||| 128 : Nat) : Int) := h
  rw [h', e]; omega
theorem wraps_i64' (n : Int) (h₀ : 0 ≤ n) (h₁ : n < 2 ^ 63) : IntKind.i64.wrap n = n := by rw [IntKind.wrap_i64]; omega
theorem and127 (n : Int) (h0 : 0 ≤ n) (h1 : n ≤ 9223372036854775807) : Go.bits .and .i64 n 127 = n % 128 :=
  bits_mask .i64 63 (by decide) wraps_i64' 7 (by decide) n h0 (by omega)

theorem impl_var_l : ∀ (f : Nat) (n : Int) (acc : List Int), 0 ≤ n → n < ((128 ^ (f + 1) : Nat) : Int) → n ≤ 562949953421311 → acc.length + f ≤ 1000 → Ev (fun k => impl_Var.l0 k n acc) (strOfNums (acc ++ varL f n)) := by
  intro f
  induction f with
  | zero =>
    intro n acc h0 h1 h2 h3
    exact Ev.step (fun k => impl_Var.l0.eq_2 _ _ k) (Ev_neg (by omega) (Ev_pos (by omega) (Ev.now _)))
  | succ f ih =>
    intro n acc h0 h1 h2 h3
    refine Ev.step (fun k => impl_Var.l0.eq_2 _ _ k) ?_
    unfold varL
    by_cases h : 128 ≤ n
    · rw [if_pos h]
      have e2 : Go.bits .or .u8 ((Go.bits .and .i64 n 127) % 256) 128 = 128 + n % 128 := by
        rw [and127 n h0 (by omega), show n % 128 % 256 = n % 128 by omega, or128 _ (by omega) (by omega)]
      rw [e2]
      refine Ev_pos (by omega) (Ev_pos (by omega) ?_)
      have := ih (n / 128) (acc ++ [128 + n % 128]) (by omega) (by rw [Nat.pow_succ] at h1; omega) (by omega) (by simp; omega)
      simpa using this
    · rw [if_neg h]
      exact Ev_neg (by omega) (Ev_pos (by omega) (Ev.now _))
theorem impl_Var_ev (n : Int) : Ev (fun k => impl_Var.f k n) (varV n) := by
  refine Ev_bindp (within_eq _ _ _) ?_
  unfold varV
  by_cases h : 0 ≤ n ∧ n ≤ 562949953421311
  · rw [if_pos h]
    refine Ev_pos (decide_eq_true h) ?_
    exact impl_var_l 6 n [] h.1 (by omega) h.2 (by simp)
  · rw [if_neg h]
    exact Ev_neg (by simpa using h) (Ev.now _)

theorem or_low (x y : Int) (i : Nat) (hi : i ≤ 62) (hx : 0 ≤ x) (hx1 : x < 2 ^ i) (hy : 0 ≤ y) (hy1 : y % 2 ^ i = 0) (hy2 : y < 2 ^ 63) : Go.bits .or .i64 x y = x + y := by
  have h63 : x < 2 ^ 63 := by
    have hp : 2 ^ i ≤ 2 ^ 62 := Nat.pow_le_pow_right (by decide) hi
    have hp' : ((2 ^ i : Nat) : Int) ≤ ((2 ^ 62 : Nat) : Int) := by exact_mod_cast hp
    have e : ((2 ^ i : Nat) : Int) = (2 : Int) ^ i := by simp
    rw [e] at hp'
    omega
  have h := bits_join .i64 63 (by decide) wraps_i64' i y x hy hy1 hy2 hx hx1 h63
  obtain ⟨a, rfl⟩ := Int.eq_ofNat_of_zero_le hx
  obtain ⟨b, rfl⟩ := Int.eq_ofNat_of_zero_le hy
  have ha : a < 2 ^ 63 := by exact_mod_cast h63
  have hb : b < 2 ^ 63 := by exact_mod_cast hy2
  rw [(bits_nat .i64 63 (by decide) wraps_i64' b a hb ha).2] at h
  rw [(bits_nat .i64 63 (by decide) wraps_i64' a b ha hb).2, Nat.or_comm, h, Int.add_comm]
theorem rv_or (s : ByteArray) (i : Nat) (hi : i < s.size) (h7 : i < 7) : Go.bits .or .i64 (valL ((bytesOf s).take i)) (shl .i64 (wrap64 (Go.bits .and .u8 (bt s (i : Int)) 127)) (wrap64 (7 * (i : Int)))) = valL ((bytesOf s).take (i + 1)) := by
  have b := bt_range s i
  have e1 : Go.bits .and .u8 (bt s (i : Int)) 127 = bt s i % 128 := bits_mask .u8 8 (by decide) wraps_u8 7 (by decide) _ (by omega) (by omega)
  have e2 : wrap64 (7 * (i : Int)) = ((7 * i : Nat) : Int) := by rw [w64 (by omega) (by omega)]; omega
  rw [e1, e2, w64 (n := bt s i % 128) (by omega) (by omega)]
  have hp : (2 : Int) ^ (7 * i) = ((128 ^ i : Nat) : Int) := by
    rw [Int.pow_mul]; simp
  have hp6 : 128 ^ i ≤ 128 ^ 6 := Nat.pow_le_pow_right (by decide) (by omega)
  have hp0 : 0 < 128 ^ i := Nat.pow_pos (by decide)
  have hm : min ((7 * i : Nat) : Int).toNat (IntKind.bits .i64) = 7 * i := by
    show min ((7 * i : Nat) : Int).toNat 64 = 7 * i
    omega
  have hc : bt s i % 128 ≤ 127 := by omega
  have hc0 : 0 ≤ bt s i % 128 := by omega
  have hv := valL_lt ((bytesOf s).take i)
  rw [take_len s i (by omega)] at hv
  have hprod : bt s i % 128 * ((128 ^ i : Nat) : Int) ≤ 127 * ((128 ^ i : Nat) : Int) := Int.mul_le_mul_of_nonneg_right hc (by omega)
  have hprod0 : 0 ≤ bt s i % 128 * ((128 ^ i : Nat) : Int) := Int.mul_nonneg hc0 (by omega)
  have e3 : shl .i64 (bt s i % 128) ((7 * i : Nat) : Int) = bt s i % 128 * ((128 ^ i : Nat) : Int) := by
    unfold shl
    rw [hm, hp]
    exact wraps_i64' _ hprod0 (by omega)
  rw [e3, or_low _ _ (7 * i) (by omega) hv.1 (by rw [hp]; exact hv.2) hprod0 (by rw [hp]; exact Int.mul_emod_left _ _) (by omega), take_at s i hi, valL_snoc, take_len s i (by omega), Int.mul_comm]
theorem impl_rv_l (s : ByteArray) (hs : s.size ≤ 1048576) : ∀ (d i : Nat), i + d = min 7 s.size → Ev (fun k => impl_ReadVar.l0 k s (valL ((bytesOf s).take i)) ((min 7 s.size : Nat) : Int) (i : Int)) (rvFrom s d i) := by
  intro d
  induction d with
  | zero =>
    intro i hi
    exact Ev.step (fun k => impl_ReadVar.l0.eq_2 _ _ _ _ k) (Ev_neg (by omega) (Ev.now _))
  | succ d ih =>
    intro i hi
    have b := bt_range s i
    have e7 : wrap64 (7 * (i : Int)) = 7 * (i : Int) := w64 (by omega) (by omega)
    have e3 : wrap64 ((i : Int) + 1) = ((i + 1 : Nat) : Int) := by rw [w64 (by omega) (by omega)]; omega
    have hv := take_val s (i + 1) (by omega) (by omega)
    refine Ev.step (fun k => impl_ReadVar.l0.eq_2 _ _ _ _ k) (Ev_pos (by omega) (Ev_pos (by omega) (Ev_pos (by omega) (Ev_pos (by omega) ?_))))
    rw [rv_or s i (by omega) (by omega), e3]
    by_cases h : bt s i < 128
    · refine Ev_pos h ?_
      by_cases h1 : (i : Int) > 0
      · refine Ev_pos h1 ?_
        by_cases h2 : bt s i = 0
        · exact Ev_pos h2 (Ev_is (by simp only [rvFrom]; rw [if_pos h, if_pos ⟨by omega, h2⟩]))
        · exact Ev_neg h2 (Ev_neg (by omega) (Ev_is (by simp only [rvFrom]; rw [if_pos h, if_neg (fun x => h2 x.2)])))
      · exact Ev_neg h1 (Ev_neg (by omega) (Ev_is (by simp only [rvFrom]; rw [if_pos h, if_neg (fun x => h1 (by omega))])))
    · refine Ev_neg h ?_
      have := ih (i + 1) (by omega)
      rw [show rvFrom s (d + 1) i = rvFrom s d (i + 1) by simp only [rvFrom]; rw [if_neg h]]
      exact this
theorem impl_ReadVar_ev (s : ByteArray) (hs : s.size ≤ 1048576) : Ev (fun k => impl_ReadVar.f k s) (readVarV s) := by
  have e : mn (s.size : Int) 7 = ((min 7 s.size : Nat) : Int) := by unfold mn; split <;> omega
  show Ev (fun k => impl_ReadVar.l0 k s 0 (mn (s.size : Int) 7) 0) _
  rw [e]
  exact impl_rv_l s hs (min 7 s.size) 0 (by omega)

/-- May a byte stand in a key? -/
def kb (c : Int) : Bool := decide ((97 ≤ c ∧ c ≤ 122) ∨ (65 ≤ c ∧ c ≤ 90) ∨ (48 ≤ c ∧ c ≤ 57) ∨ c = 95)
def keyOkV (s : ByteArray) : Bool := decide (1 ≤ s.size ∧ s.size ≤ 4 ∧ ∀ j, j < s.size → kb (bt s (j : Nat)) = true)

/-- The number of the first n bytes, most significant first. -/
def rfV (s : ByteArray) : Nat → Int
  | 0 => 0
  | n + 1 => rfV s n * 256 + bt s n
theorem rfV_lt (s : ByteArray) : ∀ n, 0 ≤ rfV s n ∧ rfV s n < ((256 ^ n : Nat) : Int)
  | 0 => by simp [rfV]
  | n + 1 => by
    have ih := rfV_lt s n
    have b := bt_range s n
    simp only [rfV, Nat.pow_succ]
    omega
theorem rfV_le (s : ByteArray) (n m : Nat) (h : n ≤ m) : 0 ≤ rfV s n ∧ rfV s n < ((256 ^ m : Nat) : Int) := by
  have ih := rfV_lt s n
  have hp : 256 ^ n ≤ 256 ^ m := Nat.pow_le_pow_right (by decide) h
  omega
theorem wraps_i64 (n : Int) (h₀ : 0 ≤ n) (h₁ : n < 2 ^ 63) : IntKind.i64.wrap n = n := by rw [IntKind.wrap_i64]; omega

/-- The last w bytes of n, most significant first. -/
def fixedL : Nat → Int → List Int
  | 0, _ => []
  | w + 1, n => fixedL w (n / 256) ++ [n % 256]
theorem fixedL_length : ∀ w n, (fixedL w n).length = w
  | 0, _ => rfl
  | w + 1, n => by simp [fixedL, fixedL_length w]
def fixedV (n w : Int) : ByteArray := if (1 ≤ w ∧ w ≤ 7) ∧ 0 ≤ n ∧ n < ((256 ^ w.toNat : Nat) : Int) then strOfNums (fixedL w.toNat n) else ⟨#[]⟩
theorem strOfNums_append' (a b : List Int) : strOfNums a ++ strOfNums b = strOfNums (a ++ b) := by
  apply ByteArray.ext
  unfold strOfNums
  simp [ByteArray.data_append]

/-- The number of a list of bytes, most significant first. -/
def hv : List Int → Int → Int
  | [], a => a
  | b :: l, a => hv l (a * 256 + b)
theorem hv_snoc (c : Int) : ∀ (l : List Int) (a : Int), hv (l ++ [c]) a = hv l a * 256 + c
  | [], a => rfl
  | b :: l, a => by simp only [List.cons_append, hv]; exact hv_snoc c l _
theorem rfV_hv (s : ByteArray) : ∀ n, n ≤ s.size → rfV s n = hv ((bytesOf s).take n) 0
  | 0, _ => by simp [rfV, hv]
  | n + 1, h => by rw [take_at s n (by omega), hv_snoc, ← rfV_hv s n (by omega)]; rfl
theorem rfV_size (s : ByteArray) : rfV s s.size = hv (bytesOf s) 0 := by
  rw [rfV_hv s s.size (Nat.le_refl _), List.take_of_length_le (by rw [bytesOf_length]; exact Nat.le_refl _)]
theorem fixedL_range : ∀ (w : Nat) (n : Int), ∀ x ∈ fixedL w n, 0 ≤ x ∧ x ≤ 255
  | 0, n, x, hx => by simp [fixedL] at hx
  | w + 1, n, x, hx => by
    simp only [fixedL, List.mem_append, List.mem_singleton] at hx
    rcases hx with hx | hx
    · exact fixedL_range w _ x hx
    · omega
theorem hv_fixedL : ∀ (w : Nat) (n : Int), 0 ≤ n → n < ((256 ^ w : Nat) : Int) → hv (fixedL w n) 0 = n
  | 0, n, h0, h1 => by simp [fixedL, hv]; simp at h1; omega
  | w + 1, n, h0, h1 => by
    simp only [fixedL, hv_snoc]
    rw [hv_fixedL w (n / 256) (by omega) (by rw [Nat.pow_succ] at h1; omega)]
    omega
theorem bytesOf_strOf (xs : List Int) (h : ∀ x ∈ xs, 0 ≤ x ∧ x ≤ 255) : bytesOf (strOfNums xs) = xs := by
  unfold bytesOf
  exact ((nums_back _ xs h).1 (strOfNums_data xs).symm).symm
theorem strOf_bytesOf (s : ByteArray) : strOfNums (bytesOf s) = s := by
  apply ByteArray.ext
  apply Array.toList_inj.1
  rw [strOfNums_data, nums_back _ _ (bytesOf_range s)]
  rfl
def keyOkL (l : List Int) : Bool := decide (1 ≤ l.length ∧ l.length ≤ 4) && l.all kb
theorem keyOkV_list (s : ByteArray) : keyOkV s = keyOkL (bytesOf s) := by
  unfold keyOkV keyOkL
  rw [Bool.eq_iff_iff]
  simp only [decide_eq_true_eq, Bool.and_eq_true, List.all_eq_true, bytesOf_length]
  constructor
  · rintro ⟨h1, h2, h3⟩
    refine ⟨⟨h1, h2⟩, fun x hx => ?_⟩
    obtain ⟨i, hi, rfl⟩ := List.mem_iff_getElem.1 hx
    have hi' : i < s.size := by rw [bytesOf_length] at hi; exact hi
    have := h3 i hi'
    rw [← rd_bytesOf] at this
    simpa [rd, List.getD_eq_getElem?_getD, List.getElem?_eq_getElem hi] using this
  · rintro ⟨⟨h1, h2⟩, h3⟩
    refine ⟨h1, h2, fun j hj => ?_⟩
    have hi : j < (bytesOf s).length := by rw [bytesOf_length]; exact hj
    have := h3 _ (List.getElem_mem hi)
    rw [← rd_bytesOf]
    simpa [rd, List.getD_eq_getElem?_getD, List.getElem?_eq_getElem hi] using this
def packV (s : ByteArray) : Int := if keyOkV s = true then rfV s s.size else 0
theorem keyOkV_size (s : ByteArray) (h : keyOkV s = true) : 1 ≤ s.size ∧ s.size ≤ 4 := by
  unfold keyOkV at h
  have := of_decide_eq_true h
  exact ⟨this.1, this.2.1⟩
theorem packV_range (s : ByteArray) : 0 ≤ packV s ∧ packV s ≤ 4294967295 := by
  unfold packV
  split
  · rename_i h
    have hs := keyOkV_size s h
    have := rfV_le s s.size 4 hs.2
    omega
  · omega

theorem rv_isVar (s : ByteArray) (tl : List Int) : ∀ (L : List Int) (d i : Nat), isVar (decide (i = 0)) L → L.length ≤ d → (bytesOf s).drop i = L ++ tl →
    rvFrom s d i = (valL ((bytesOf s).take (i + L.length)), ((i + L.length : Nat) : Int))
  | [], d, i, h, _, _ => by simp [isVar] at h
  | b :: l, 0, i, _, hl, _ => by simp at hl
  | b :: l, d + 1, i, h, hl, hd => by
    have hi : i < s.size := by
      have := congrArg List.length hd
      rw [List.length_drop, bytesOf_length] at this
      simp at this
      omega
    have hbt : bt s (i : Int) = b := by
      have := drop_get s i hi
      rw [hd, List.cons_append] at this
      exact (List.cons.inj this).1.symm
    have hd' : (bytesOf s).drop (i + 1) = l ++ tl := by
      have := drop_get s i hi
      rw [hd, List.cons_append] at this
      exact (List.cons.inj this).2.symm
    simp only [isVar] at h
    unfold rvFrom
    rcases h with ⟨h1, h2, h3⟩ | ⟨h1, h2⟩
    · subst h2
      rw [if_pos (by rw [hbt]; exact h1), if_neg]
      · rfl
      · rintro ⟨g1, g2⟩
        rw [hbt] at g2
        rcases h3 with h3 | h3
        · have := of_decide_eq_true h3; omega
        · exact h3 g2
    · rw [if_neg (by rw [hbt]; omega)]
      have := rv_isVar s tl l d (i + 1) (by rw [decide_eq_false (by omega)]; exact h2) (by simp at hl; omega) hd'
      rw [this, show i + 1 + l.length = i + (b :: l).length from by rw [List.length_cons]; omega]
theorem take_all (xs tl : List Int) (s : ByteArray) (h : bytesOf s = xs ++ tl) : (bytesOf s).take xs.length = xs := by
  rw [h, List.take_left]
theorem readVar_var (n : Int) (h0 : 0 ≤ n) (h1 : n ≤ 562949953421311) (tl : ByteArray) : readVarV (varV n ++ tl) = (n, ((varV n).size : Int)) := by
  obtain ⟨i1, i2, i3⟩ := isVar_varL 6 n true h0 (by omega) (Or.inl rfl)
  have e : varV n = strOfNums (varL 6 n) := by unfold varV; rw [if_pos ⟨h0, h1⟩]
  have hb : bytesOf (varV n ++ tl) = varL 6 n ++ bytesOf tl := by
    have : bytesOf (varV n ++ tl) = bytesOf (varV n) ++ bytesOf tl := by
      unfold bytesOf
      rw [ByteArray.data_append, Array.toList_append, List.map_append]
    rw [this, e, bytesOf_strOf _ i3]
  have hs : (varV n).size = (varL 6 n).length := by rw [e, strOfNums_size]
  have hl := varL_length 6 n
  have hz : (varV n ++ tl).size = (varL 6 n).length + tl.size := by rw [ByteArray.size_append, hs]
  unfold readVarV
  rw [rv_isVar (varV n ++ tl) (bytesOf tl) (varL 6 n) (min 7 (varV n ++ tl).size) 0 i1 (by omega) (by rw [List.drop_zero]; exact hb)]
  rw [Nat.zero_add, take_all _ _ _ hb, i2, hs]
theorem rv_back (s : ByteArray) : ∀ (d i : Nat), i + d ≤ min 7 s.size → (∀ j : Nat, j < i → 128 ≤ bt s (j : Nat)) →
    (rvFrom s d i).2 = 0 ∨ ∃ m : Nat, m + 1 ≤ min 7 s.size ∧ (∀ j : Nat, j < m → 128 ≤ bt s (j : Nat)) ∧ bt s (m : Nat) < 128 ∧ ¬ (0 < m ∧ bt s (m : Nat) = 0) ∧ rvFrom s d i = (valL ((bytesOf s).take (m + 1)), ((m + 1 : Nat) : Int))
  | 0, i, _, _ => Or.inl rfl
  | d + 1, i, h, hb => by
    unfold rvFrom
    by_cases c : bt s (i : Int) < 128
    · rw [if_pos c]
      by_cases g : 0 < i ∧ bt s (i : Int) = 0
      · rw [if_pos g]; exact Or.inl rfl
      · rw [if_neg g]
        exact Or.inr ⟨i, by omega, hb, c, g, rfl⟩
    · rw [if_neg c]
      refine rv_back s d (i + 1) (by omega) fun j hj => ?_
      by_cases e : j = i
      · subst e; omega
      · exact hb j (by omega)
theorem readVar_back (s : ByteArray) : (readVarV s).2 = 0 ∨ ((readVarV s).2 > 0 ∧ (readVarV s).2 ≤ (s.size : Int) ∧ (varV (readVarV s).1).toList = (s.extract 0 (readVarV s).2.toNat).toList) := by
  unfold readVarV
  rcases rv_back s (min 7 s.size) 0 (by omega) (fun j hj => by omega) with h | ⟨m, h1, h2, h3, h4, h5⟩
  · exact Or.inl h
  · refine Or.inr ?_
    rw [h5]
    have hm : m < s.size := by omega
    have hv := take_val s (m + 1) (by omega) (by omega)
    have hr : ∀ x ∈ (bytesOf s).take (m + 1), 0 ≤ x ∧ x ≤ 255 := fun x hx => bytesOf_range s x (List.mem_of_mem_take hx)
    have hi : isVar true ((bytesOf s).take (m + 1)) := by
      rw [take_at s m hm]
      refine (isVar_snoc (bt s (m : Nat)) h3 ((bytesOf s).take m) true (big_take s m (by omega) h2)).2 ?_
      by_cases z : m = 0
      · subst z; exact Or.inl ⟨rfl, rfl⟩
      · exact Or.inr fun q => h4 ⟨by omega, q⟩
    have hk := (varL_isVar ((bytesOf s).take (m + 1)) 6 true hi hr (by rw [take_len s (m + 1) (by omega)]; omega)).1
    refine ⟨by show ((m + 1 : Nat) : Int) > 0; omega, by show ((m + 1 : Nat) : Int) ≤ _; omega, ?_⟩
    show (varV (valL ((bytesOf s).take (m + 1)))).toList = (s.extract 0 (((m + 1 : Nat) : Int)).toNat).toList
    rw [show (((m + 1 : Nat) : Int)).toNat = m + 1 from by omega]
    unfold varV
    rw [if_pos ⟨hv.1, by omega⟩, hk]
    exact (same_take s _ hr (m + 1)).2 rfl

theorem impl_fixed_l : ∀ (d : Nat) (n : Int) (acc : List Int), d + acc.length ≤ 7 → 0 ≤ n → n ≤ 9223372036854775807 → Ev (fun k => impl_Fixed.l0 k n (List.replicate d 0 ++ acc) ((d : Int) - 1)) (strOfNums (fixedL d n ++ acc)) := by
  intro d
  induction d with
  | zero =>
    intro n acc hl h0 h1
    exact Ev.step (fun k => impl_Fixed.l0.eq_2 _ _ _ k) (Ev_neg (by omega) (Ev_is (by simp [fixedL])))
  | succ d ih =>
    intro n acc hl h0 h1
    have e0 : (((d + 1 : Nat) : Int) - 1) = (d : Int) := by omega
    rw [e0]
    have e3 : wrap64 ((d : Int) - 1) = (d : Int) - 1 := w64 (by omega) (by omega)
    refine Ev.step (fun k => impl_Fixed.l0.eq_2 _ _ _ k) (Ev_pos (by omega) (Ev_pos (by omega) (Ev_pos (by simp; omega) ?_)))
    have e4 : (List.replicate (d + 1) (0 : Int) ++ acc).set ((d : Int)).toNat (n % 256) = List.replicate d 0 ++ ([n % 256] ++ acc) := by
      rw [Int.toNat_natCast, List.replicate_succ', List.append_assoc, List.set_append_right _ _ (by simp)]
      simp
    rw [e3, e4]
    have := ih (n / 256) ([n % 256] ++ acc) (by simp; omega) (by omega) (by omega)
    simpa [fixedL] using this
theorem impl_Fixed_ev (n w : Int) (hn : n ≤ 9223372036854775807) : Ev (fun k => impl_Fixed.f k n w) (fixedV n w) := by
  refine Ev_bindp (within_eq _ _ _) ?_
  unfold fixedV
  by_cases h : 1 ≤ w ∧ w ≤ 7
  · obtain ⟨m, rfl⟩ := Int.eq_ofNat_of_zero_le (show 0 ≤ w by omega)
    refine Ev_pos (decide_eq_true h) ?_
    by_cases h' : n < 0
    · rw [if_neg (fun x => by omega)]
      exact Ev_pos h' (Ev.step (fun k => impl_Fixed.j0.eq_2 _ _ _ k) (Ev_pos rfl (Ev.now _)))
    · have e1 : wrap64 (8 * (m : Int)) = 8 * (m : Int) := w64 (by omega) (by omega)
      have e2 : shr .i64 n (8 * (m : Int)) = n / ((256 ^ m : Nat) : Int) := by
        unfold shr
        have e3 : min (8 * (m : Int)).toNat (IntKind.bits .i64) = 8 * m := by
          show min (8 * (m : Int)).toNat 64 = 8 * m
          omega
        rw [e3, Int.pow_mul]
        simp
      have hp : (0 : Int) < ((256 ^ m : Nat) : Int) := by exact_mod_cast Nat.pow_pos (n := m) (show 0 < 256 by decide)
      refine Ev_neg h' ?_
      rw [e1, e2]
      refine Ev_pos (by omega) (Ev.step (fun k => impl_Fixed.j0.eq_2 _ _ _ k) ?_)
      by_cases hlt : n < ((256 ^ m : Nat) : Int)
      · rw [Int.toNat_natCast, if_pos ⟨h, by omega, hlt⟩]
        have e5 : n / ((256 ^ m : Nat) : Int) = 0 := Int.ediv_eq_zero_of_lt (by omega) hlt
        refine Ev_neg (by rw [e5]; decide) (Ev_pos (by omega) (Ev_pos (by omega) ?_))
        have := impl_fixed_l m n [] (by simp; omega) (by omega) hn
        rw [w64 (n := (m : Int) - 1) (by omega) (by omega)]
        simpa using this
      · rw [Int.toNat_natCast, if_neg (fun x => hlt x.2.2)]
        have e5 : n / ((256 ^ m : Nat) : Int) ≠ 0 := by
          intro e
          have h1 := Int.emod_def n ((256 ^ m : Nat) : Int)
          have h2 := Int.emod_lt_of_pos n hp
          rw [e, Int.mul_zero] at h1
          omega
        exact Ev_pos (by simpa using e5) (Ev.now _)
  · rw [if_neg (fun x => h x.1)]
    exact Ev_neg (by simpa using h) (Ev.step (fun k => impl_Fixed.j0.eq_2 _ _ _ k) (Ev_pos rfl (Ev.now _)))

def readFixedV (s : ByteArray) (w : Int) : Int × Bool := if (1 ≤ w ∧ w ≤ 7) ∧ w ≤ s.size then (rfV s w.toNat, true) else (0, false)

theorem impl_rf_l (s : ByteArray) (w : Nat) (hw : w ≤ 7) (hs : w ≤ s.size) (hz : s.size ≤ 140737488351232) : ∀ (d i : Nat), i + d = w → Ev (fun k => impl_ReadFixed.l0 k s (rfV s i) (w : Int) (i : Int)) (rfV s w, true) := by
  intro d
  induction d with
  | zero =>
    intro i hi
    refine Ev.step (fun k => impl_ReadFixed.l0.eq_2 _ _ _ _ k) (Ev_neg (by omega) ?_)
    obtain rfl : i = w := by omega
    exact Ev.now _
  | succ d ih =>
    intro i hi
    refine Ev.step (fun k => impl_ReadFixed.l0.eq_2 _ _ _ _ k) (Ev_pos (by omega) (Ev_pos (by omega) (Ev_pos (by omega) ?_)))
    have h := rfV_le s i 6 (by omega)
    have b := bt_range s i
    have e3 : wrap64 ((i : Int) + 1) = ((i + 1 : Nat) : Int) := by rw [w64 (by omega) (by omega)]; omega
    have e4 : Go.bits .or .i64 (wrap64 (rfV s i * 256)) (wrap64 (bt s (i : Int))) = rfV s (i + 1) := by
      rw [w64 (n := rfV s i * 256) (by omega) (by omega), w64 (n := bt s (i : Int)) (by omega) (by omega)]
      exact bits_join .i64 63 (by decide) wraps_i64 8 _ _ (by omega) (by omega) (by omega) (by omega) (by omega) (by omega)
    rw [e3, e4]
    exact ih (i + 1) (by omega)
theorem impl_ReadFixed_ev (s : ByteArray) (w : Int) (hz : s.size ≤ 140737488351232) : Ev (fun k => impl_ReadFixed.f k s w) (readFixedV s w) := by
  refine Ev_bindp (within_eq _ _ _) ?_
  unfold readFixedV
  by_cases h : 1 ≤ w ∧ w ≤ 7
  · obtain ⟨m, rfl⟩ := Int.eq_ofNat_of_zero_le (show 0 ≤ w by omega)
    refine Ev_pos (decide_eq_true h) (Ev.step (fun k => impl_ReadFixed.j0.eq_2 _ _ _ k) ?_)
    by_cases h' : (m : Int) ≤ s.size
    · rw [if_pos ⟨h, h'⟩, Int.toNat_natCast]
      exact Ev_neg (by simp; omega) (impl_rf_l s m (by omega) (by omega) hz m 0 (by omega))
    · rw [if_neg (fun x => h' x.2)]
      exact Ev_pos (by simp; omega) (Ev.now _)
  · rw [if_neg (fun x => h x.1)]
    exact Ev_neg (by simpa using h) (Ev.step (fun k => impl_ReadFixed.j0.eq_2 _ _ _ k) (Ev_pos rfl (Ev.now _)))

theorem fixed_back (n : Int) (h0 : 0 ≤ n) (h1 : n < 72057594037927936) (tl : ByteArray) : (fixedV n 7).size = 7 ∧ readFixedV (fixedV n 7 ++ tl) 7 = (n, true) := by
  have e : fixedV n 7 = strOfNums (fixedL 7 n) := by
    unfold fixedV
    rw [if_pos ⟨by omega, h0, by show n < ((256 ^ 7 : Nat) : Int); omega⟩]
    rfl
  have hs : (fixedV n 7).size = 7 := by rw [e, strOfNums_size, fixedL_length]
  refine ⟨hs, ?_⟩
  have hb : bytesOf (fixedV n 7 ++ tl) = fixedL 7 n ++ bytesOf tl := by
    have : bytesOf (fixedV n 7 ++ tl) = bytesOf (fixedV n 7) ++ bytesOf tl := by
      unfold bytesOf
      rw [ByteArray.data_append, Array.toList_append, List.map_append]
    rw [this, e, bytesOf_strOf _ (fixedL_range 7 n)]
  have ht : (bytesOf (fixedV n 7 ++ tl)).take 7 = fixedL 7 n := by
    rw [hb]
    exact List.take_left' (fixedL_length 7 n)
  unfold readFixedV
  rw [if_pos ⟨by omega, by rw [ByteArray.size_append, hs]; omega⟩, show (7 : Int).toNat = 7 from rfl, rfV_hv _ 7 (by rw [ByteArray.size_append, hs]; omega), ht, hv_fixedL 7 n h0 (by show n < ((256 ^ 7 : Nat) : Int); omega)]
theorem fixed_none (n : Int) (h : ¬ (0 ≤ n ∧ n < 72057594037927936)) : fixedV n 7 = ⟨#[]⟩ := by
  unfold fixedV
  rw [if_neg]
  rintro ⟨_, g0, g1⟩
  have : n < ((256 ^ 7 : Nat) : Int) := g1
  exact h ⟨g0, by omega⟩

/-- The digits' bytes. -/
def hexT : ByteArray := ⟨#[48, 49, 50, 51, 52, 53, 54, 55, 56, 57, 97, 98, 99, 100, 101, 102]⟩
def hexV (s : ByteArray) : Nat → List Int
  | 0 => []
  | n + 1 => hexV s n ++ [bt hexT (bt s n / 16), bt hexT (bt s n % 16)]
theorem hexV_length (s : ByteArray) : ∀ n, (hexV s n).length = 2 * n
  | 0 => rfl
  | n + 1 => by simp [hexV, hexV_length s n]; omega

theorem impl_hex_l (s : ByteArray) (hs : s.size ≤ 1048576) : ∀ (d i : Nat), i + d = s.size → Ev (fun k => impl_Hex.l0 k s (hexV s i) (s.size : Int) (i : Int)) (strOfNums (hexV s s.size)) := by
  intro d
  induction d with
  | zero =>
    intro i hi
    refine Ev.step (fun k => impl_Hex.l0.eq_2 _ _ _ _ k) (Ev_neg (by omega) ?_)
    obtain rfl : i = s.size := by omega
    exact Ev.now _
  | succ d ih =>
    intro i hi
    have b := bt_range s i
    have e4 : wrap64 ((i : Int) + 1) = ((i + 1 : Nat) : Int) := by rw [w64 (by omega) (by omega)]; omega
    have e5 : Go.bits .and .u8 (bt s (i : Int)) 15 = bt s i % 16 := u8_and15 _ (by omega) (by omega)
    have hl := hexV_length s i
    refine Ev.step (fun k => impl_Hex.l0.eq_2 _ _ _ _ k) (Ev_pos (by omega) (Ev_pos (by omega) (Ev_pos (by omega) ?_)))
    rw [e4, e5]
    refine Ev_pos (by omega) (Ev_pos (by omega) (Ev_pos (by omega) (Ev_pos (by omega) (Ev_bindp rfl (Ev_pos (by simp [hl]; omega) ?_)))))
    exact ih (i + 1) (by omega)
theorem impl_Hex_ev (s : ByteArray) (hs : s.size ≤ 1048576) : Ev (fun k => impl_Hex.f k s) (strOfNums (hexV s s.size)) := impl_hex_l s hs s.size 0 (by omega)

def fhV (c : Int) : Int := if 48 ≤ c ∧ c ≤ 57 then c - 48 else if 97 ≤ c ∧ c ≤ 102 then c - 87 else -1
theorem fhV_range (c : Int) : -1 ≤ fhV c ∧ fhV c ≤ 15 := by
  unfold fhV
  split
  · omega
  · split <;> omega
def unhexStep (s : ByteArray) (i : Nat) : List Int := [(16 * fhV (bt s (2 * i : Nat)) + fhV (bt s (2 * i + 1 : Nat))) % 256]
/-- The bytes of the first n pairs. -/
def unhexL (s : ByteArray) : Nat → List Int
  | 0 => []
  | n + 1 => unhexL s n ++ unhexStep s n
theorem unhexL_length (s : ByteArray) : ∀ n, (unhexL s n).length = n
  | 0 => rfl
  | n + 1 => by simp [unhexL, unhexStep, unhexL_length s n]
/-- Are the pairs from i on, d of them, digits? -/
def pairsOk (s : ByteArray) : Nat → Nat → Bool
  | 0, _ => true
  | d + 1, i => if fhV (bt s (2 * i : Nat)) < 0 then false else if fhV (bt s (2 * i + 1 : Nat)) < 0 then false else pairsOk s d (i + 1)
def unhexV (s : ByteArray) : ByteArray × Bool := if s.size % 2 = 1 then (⟨#[]⟩, false) else if pairsOk s (s.size / 2) 0 = true then (strOfNums (unhexL s (s.size / 2)), true) else (⟨#[]⟩, false)

theorem half_ev (c : Int) (h0 : 0 ≤ c) (h1 : c ≤ 255) : Ev (fun k => impl_half.f k c) (fhV c) := by
  by_cases h : c ≥ 48
  · refine Ev_pos h (Ev.step (fun k => impl_half.j0.eq_2 _ _ k) ?_)
    by_cases h' : c ≤ 57
    · have e : fhV c = c - 48 := by unfold fhV; rw [if_pos ⟨h, h'⟩]
      rw [e]
      exact Ev_pos (decide_eq_true h') (Ev_is (by congr 1; omega))
    · refine Ev_neg (by simpa using h') ?_
      by_cases a1 : c ≥ 97
      · by_cases a2 : c ≤ 102
        · have e : fhV c = c - 87 := by unfold fhV; rw [if_neg (fun x => h' x.2), if_pos ⟨a1, a2⟩]
          rw [e]
          exact Ev_pos a1 (Ev_pos a2 (Ev_is (by congr 1; omega)))
        · have e : fhV c = -1 := by unfold fhV; rw [if_neg (fun x => h' x.2), if_neg (fun x => a2 x.2)]
          rw [e]
          exact Ev_pos a1 (Ev_neg a2 (Ev.now _))
      · have e : fhV c = -1 := by unfold fhV; rw [if_neg (fun x => h' x.2), if_neg (fun x => a1 x.1)]
        rw [e]
        exact Ev_neg a1 (Ev.now _)
  · have e : fhV c = -1 := by unfold fhV; rw [if_neg (fun x => h x.1), if_neg (fun x => by omega)]
    rw [e]
    exact Ev_neg h (Ev.step (fun k => impl_half.j0.eq_2 _ _ k) (Ev_neg (by decide) (Ev_neg (by omega) (Ev.now _))))

theorem impl_unhex_l (s : ByteArray) (hs : s.size ≤ 1048576) (h2 : s.size % 2 = 0) : ∀ (d i : Nat), i + d = s.size / 2 → Ev (fun k => impl_Unhex.l0 k s (unhexL s i) ((2 * i : Nat) : Int)) (if pairsOk s d i = true then (strOfNums (unhexL s (s.size / 2)), true) else (⟨#[]⟩, false)) := by
  intro d
  induction d with
  | zero =>
    intro i hi
    refine Ev.step (fun k => impl_Unhex.l0.eq_2 _ _ _ k) (Ev_neg (by omega) ?_)
    obtain rfl : i = s.size / 2 := by omega
    exact Ev_is (by simp [pairsOk])
  | succ d ih =>
    intro i hi
    have b1 := bt_range s (2 * i : Nat)
    have b2 := bt_range s (2 * i + 1 : Nat)
    have r1 := fhV_range (bt s (2 * i : Nat))
    have r2 := fhV_range (bt s (2 * i + 1 : Nat))
    have e1 : wrap64 (((2 * i : Nat) : Int) + 1) = ((2 * i + 1 : Nat) : Int) := by rw [w64 (by omega) (by omega)]; omega
    have e2 : wrap64 (((2 * i : Nat) : Int) + 2) = ((2 * (i + 1) : Nat) : Int) := by rw [w64 (by omega) (by omega)]; omega
    have hl := unhexL_length s i
    refine Ev.step (fun k => impl_Unhex.l0.eq_2 _ _ _ k) (Ev_pos (by omega) (Ev_pos (by omega) (Ev.bind (half_ev _ b1.1 b1.2) ?_)))
    rw [e1, e2]
    refine Ev_pos (by omega) (Ev_pos (by omega) (Ev.bind (half_ev _ b2.1 b2.2) ?_))
    by_cases a1 : fhV (bt s (2 * i : Nat)) < 0
    · exact Ev_pos a1 (Ev_is (by rw [show pairsOk s (d + 1) i = false by simp only [pairsOk]; rw [if_pos a1]]; rfl))
    by_cases a2 : fhV (bt s (2 * i + 1 : Nat)) < 0
    · exact Ev_neg a1 (Ev_pos a2 (Ev_is (by rw [show pairsOk s (d + 1) i = false by simp only [pairsOk]; rw [if_neg a1, if_pos a2]]; rfl)))
    refine Ev_neg a1 (Ev_neg a2 (Ev_pos (by omega) ?_))
    have e3 : wrap64 (wrap64 (16 * fhV (bt s (2 * i : Nat))) + fhV (bt s (2 * i + 1 : Nat))) % 256 = (16 * fhV (bt s (2 * i : Nat)) + fhV (bt s (2 * i + 1 : Nat))) % 256 := by
      rw [w64 (n := 16 * fhV (bt s (2 * i : Nat))) (by omega) (by omega), w64 (by omega) (by omega)]
    rw [e3]
    have := ih (i + 1) (by omega)
    rw [show pairsOk s (d + 1) i = pairsOk s d (i + 1) by simp only [pairsOk]; rw [if_neg a1, if_neg a2]]
    exact this
theorem impl_Unhex_ev (s : ByteArray) (hs : s.size ≤ 1048576) : Ev (fun k => impl_Unhex.f k s) (unhexV s) := by
  unfold unhexV
  by_cases h : s.size % 2 = 1
  · rw [if_pos h]
    exact Ev_pos (by omega) (Ev.now _)
  · rw [if_neg h]
    exact Ev_neg (by omega) (impl_unhex_l s hs (by omega) (s.size / 2) 0 (by omega))

theorem fh_hex16 : ∀ c : Fin 16, fhV (bt hexT (c.val : Int)) = (c.val : Int) := by decide +kernel
theorem fh_hex (c : Int) (h0 : 0 ≤ c) (h1 : c < 16) : fhV (bt hexT c) = c := by
  have := fh_hex16 ⟨c.toNat, by omega⟩
  rw [show ((⟨c.toNat, by omega⟩ : Fin 16).val : Int) = c from by show ((c.toNat : Nat) : Int) = c; omega] at this
  exact this
theorem hexV_get (s : ByteArray) : ∀ n i : Nat, i < n → (hexV s n)[2 * i]? = some (bt hexT (bt s i / 16)) ∧ (hexV s n)[2 * i + 1]? = some (bt hexT (bt s i % 16))
  | 0, i, h => absurd h (by omega)
  | n + 1, i, h => by
    have hl := hexV_length s n
    simp only [hexV]
    by_cases c : i < n
    · have := hexV_get s n i c
      rw [List.getElem?_append_left (by omega), List.getElem?_append_left (by omega)]
      exact this
    · have e : i = n := by omega
      subst e
      rw [List.getElem?_append_right (by omega), List.getElem?_append_right (by omega), hl, show 2 * i - 2 * i = 0 from by omega, show 2 * i + 1 - 2 * i = 1 from by omega]
      exact ⟨rfl, rfl⟩
theorem hexV_range (s : ByteArray) : ∀ n, ∀ x ∈ hexV s n, 0 ≤ x ∧ x ≤ 255
  | 0, x, h => by simp [hexV] at h
  | n + 1, x, h => by
    simp only [hexV, List.mem_append, List.mem_cons, List.not_mem_nil, or_false] at h
    rcases h with h | h | h
    · exact hexV_range s n x h
    · rw [h]; exact bt_range _ _
    · rw [h]; exact bt_range _ _
theorem hex_bt (s : ByteArray) (i : Nat) (h : i < s.size) : fhV (bt (strOfNums (hexV s s.size)) (2 * i : Nat)) = bt s i / 16 ∧ fhV (bt (strOfNums (hexV s s.size)) (2 * i + 1 : Nat)) = bt s i % 16 := by
  have hb := bytesOf_strOf _ (hexV_range s s.size)
  have hz : (strOfNums (hexV s s.size)).size = 2 * s.size := by rw [strOfNums_size, hexV_length]
  obtain ⟨g1, g2⟩ := hexV_get s s.size i h
  have k1 := bt_get (strOfNums (hexV s s.size)) (2 * i) (by omega)
  have k2 := bt_get (strOfNums (hexV s s.size)) (2 * i + 1) (by omega)
  rw [hb, g1] at k1
  rw [hb, g2] at k2
  have hr := bt_range s (i : Int)
  rw [← Option.some.inj k1, ← Option.some.inj k2, fh_hex _ (by omega) (by omega), fh_hex _ (by omega) (by omega)]
  exact ⟨rfl, rfl⟩
theorem hex_pairs (s : ByteArray) : ∀ d i : Nat, i + d ≤ s.size → pairsOk (strOfNums (hexV s s.size)) d i = true
  | 0, i, _ => rfl
  | d + 1, i, h => by
    obtain ⟨g1, g2⟩ := hex_bt s i (by omega)
    have hr := bt_range s (i : Int)
    unfold pairsOk
    rw [g1, g2, if_neg (by omega), if_neg (by omega)]
    exact hex_pairs s d (i + 1) (by omega)
theorem hex_unhexL (s : ByteArray) : ∀ n : Nat, n ≤ s.size → unhexL (strOfNums (hexV s s.size)) n = (bytesOf s).take n
  | 0, _ => by simp [unhexL]
  | n + 1, h => by
    obtain ⟨g1, g2⟩ := hex_bt s n (by omega)
    have hr := bt_range s (n : Int)
    simp only [unhexL, unhexStep]
    rw [hex_unhexL s n (by omega), g1, g2, take_at s n (by omega)]
    congr 2
    omega
theorem unhex_hex (s : ByteArray) : unhexV (strOfNums (hexV s s.size)) = (s, true) := by
  have hz : (strOfNums (hexV s s.size)).size = 2 * s.size := by rw [strOfNums_size, hexV_length]
  unfold unhexV
  rw [if_neg (by omega), show (strOfNums (hexV s s.size)).size / 2 = s.size from by omega, if_pos (hex_pairs s s.size 0 (by omega)), hex_unhexL s s.size (Nat.le_refl _), List.take_of_length_le (by rw [bytesOf_length]; exact Nat.le_refl _), strOf_bytesOf]

theorem tl_len (s : ByteArray) : s.toList.length = s.size := by rw [Lib.toList_data, data_length]
theorem tl_ne {s : ByteArray} (h : 0 < s.size) : s.toList ≠ ([] : List UInt8) := by
  intro e
  have := tl_len s
  rw [e] at this
  simp at this
  omega
theorem tl_nil : (⟨#[]⟩ : ByteArray).toList = ([] : List UInt8) := by rw [Lib.toList_data]
theorem num_j2 (l : List Int) (hl : l.length ≤ 1048576) (tl : ByteArray) (ht : tl.size ≤ 1000) : Ev (fun k => laws_FnNumbers.j2 k l tl false) true := by
  obtain ⟨s, hs, D⟩ := DrawReadVar_ev l hl
  have U := impl_Unhex_ev (strOfNums (hexV tl tl.size)) (by rw [strOfNums_size, hexV_length]; omega)
  rw [unhex_hex] at U
  have B := readVar_back s
  refine Ev.step (fun k => laws_FnNumbers.j2.eq_2 _ _ _ k) (Ev_neg (by decide) (Ev.bind (impl_Hex_ev tl (by omega)) (Ev.bind U (Ev.bind D (Ev.bind (impl_ReadVar_ev s (by omega)) (Ev_pos rfl (Ev_pos rfl ?_)))))))
  rcases B with z | ⟨b1, b2, b3⟩
  · exact Ev_pos z (Ev.now _)
  · refine Ev_neg (by omega) (Ev_pos b1 (Ev.bind D (Ev_pos b2 (Ev.bind D (Ev_pos b2 (Ev.bind (impl_Var_ev _) (Ev.bind D (Ev_pos (by omega) (Ev_pos b2 (Ev_is ?_))))))))))
    rw [b3]
    simp
theorem num_j1 (l : List Int) (hl : l.length ≤ 1048576) (n : Int) (h0 : -9223372036854775808 ≤ n) (h1 : n ≤ 9223372036854775807) (tl : ByteArray) (ht : tl.size ≤ 1000) : Ev (fun k => laws_FnNumbers.j1 k l n tl false) true := by
  have J := num_j2 l hl tl ht
  have hz : (decS n).size ≤ 1048576 := by
    unfold decS
    rw [ba_size]
    unfold Lib.itoa
    have q := (dec_len 19 n.natAbs).2 (by omega)
    have q' := (dec_len 19 n.toNat).2 (by omega)
    split
    · rw [List.length_cons]; omega
    · omega
  have R := impl_ReadDec_ev (decS n) hz
  rw [readDec_dec n h0 h1] at R
  refine Ev.step (fun k => laws_FnNumbers.j1.eq_2 _ _ _ _ k) (Ev_neg (by decide) (Ev.bind (impl_Dec_ev n h0 h1) (Ev.bind R ?_)))
  by_cases a : n > -1000000000
  · by_cases b : n < 1000000000
    · rw [if_pos ⟨by omega, b⟩]
      refine Ev_pos a (Ev_neg (by simp [b]) (Ev_pos rfl ?_))
      rw [show ((n, true).1 != n) = false from by simp]
      exact J
    · rw [if_neg (fun h => b h.2)]
      exact Ev_pos a (Ev_neg (by simp; omega) (Ev_neg (by decide) J))
  · rw [if_neg (fun h => a h.1)]
    exact Ev_neg a (Ev_neg (by decide) (Ev_neg (by decide) J))
theorem num_j0 (l : List Int) (hl : l.length ≤ 1048576) (n : Int) (h0 : -9223372036854775808 ≤ n) (h1 : n ≤ 9223372036854775807) (tl : ByteArray) (ht : tl.size ≤ 1000) : Ev (fun k => laws_FnNumbers.j0 k l n tl false) true := by
  have J := num_j1 l hl n h0 h1 tl ht
  by_cases c : 0 ≤ n ∧ n < 72057594037927936
  · obtain ⟨f1, f2⟩ := fixed_back n c.1 c.2 tl
    have R := impl_ReadFixed_ev (fixedV n 7 ++ tl) 7 (by rw [ByteArray.size_append, f1]; omega)
    rw [f2] at R
    have hne := tl_ne (s := fixedV n 7) (by omega)
    refine Ev.step (fun k => laws_FnNumbers.j0.eq_2 _ _ _ _ k) (Ev_neg (by decide) (Ev.bind (impl_Fixed_ev n 7 h1) (Ev_pos (by omega) (Ev.bind R (Ev_neg hne (Ev_pos rfl (Ev_pos rfl (Ev_pos (by omega) (Ev_neg (by omega) ?_)))))))))
    rw [beq_eq_false_iff_ne.2 hne, decide_eq_false (show ¬ n ≥ 72057594037927936 by omega)]
    exact J
  · have e := fixed_none n c
    have F := impl_Fixed_ev n 7 h1
    rw [e] at F
    refine Ev.step (fun k => laws_FnNumbers.j0.eq_2 _ _ _ _ k) (Ev_neg (by decide) (Ev.bind F (Ev_pos (by show 0 + tl.size ≤ _; omega) (Ev.bind (impl_ReadFixed_ev _ 7 (by rw [ByteArray.size_append]; show 0 + tl.size ≤ _; omega)) (Ev_pos tl_nil ?_)))))
    rw [beq_iff_eq.2 tl_nil]
    by_cases g : n < 0
    · exact Ev_pos g J
    · refine Ev_neg g ?_
      rw [decide_eq_true (show n ≥ 72057594037927936 by omega)]
      exact J

theorem FnNumbers : laws_FnNumbers.Pure := by
  intro l _ _ hw
  refine Ev.rounds (r := true) ?_
  by_cases hbig : (l.length : Int) > 1048576
  · exact Ev_bindp (a := true) (by unfold laws_big.f; rw [decide_eq_true hbig]) (Ev_pos rfl (Ev.now _))
  refine Ev_bindp (a := false) (by unfold laws_big.f; rw [decide_eq_false hbig]) (Ev_neg (by decide) ?_)
  obtain ⟨n, ⟨h0, h1⟩, D⟩ := DrawVar_ev l (by omega)
  obtain ⟨tl, ht, H⟩ := DrawHex_ev l (by omega)
  have J := num_j0 l (by omega) n h0 h1 tl (by omega)
  have hv := varV_size n
  refine Ev.bind D (Ev.bind H (Ev.bind (impl_Var_ev n) (Ev_pos (by omega) (Ev.bind (impl_ReadVar_ev _ (by rw [ByteArray.size_append]; omega)) ?_))))
  by_cases c : 0 ≤ n ∧ n ≤ 562949953421311
  · rw [readVar_var n c.1 c.2 tl]
    have hne : (varV n).toList ≠ ([] : List UInt8) := by
      refine tl_ne ?_
      unfold varV
      rw [if_pos c, strOfNums_size]
      unfold varL
      split <;> simp
    refine Ev_pos c.1 (Ev_neg ?_ (Ev_neg hne (Ev_pos rfl ?_)))
    · rw [bne_iff_ne.2 hne, decide_eq_true c.2]; decide
    · rw [show ((n, ((varV n).size : Int)).2 != ((varV n).size : Int)) = false from by simp]
      exact J
  · have e : varV n = ⟨#[]⟩ := by unfold varV; rw [if_neg c]
    have e1 : ((varV n).toList != ([] : List UInt8)) = false := by rw [e, tl_nil]; rfl
    have e2 : (varV n).toList = ([] : List UInt8) := by rw [e, tl_nil]
    by_cases g : n ≥ 0
    · refine Ev_pos g (Ev_neg ?_ (Ev_pos e2 J))
      rw [e1, decide_eq_false (by omega)]; decide
    · refine Ev_neg g (Ev_neg ?_ (Ev_pos e2 J))
      rw [e1]; decide

end Go.Proofs.YtemefkkbeaaeoaaDoor.Pure
