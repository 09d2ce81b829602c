/- What is proved here: the Go law FnKeys answers true for every input, over the functions that print.sh printed; no condition. -/
import Derived.Test.YtilhmohfneeglaaQFnKeysx4
set_option linter.unusedVariables false
set_option linter.unusedSimpArgs false
namespace Go.Proofs.Ytilhmohfneeglaa.Pure
open Go.RowKit Go.Proofs.Ytilhmohfneeglaa.PFnKeys Go.Proofs.YtilhmohfneeglaaW.PrintWords Go.Proofs.YtilhmohfneeglaaW.PrintLast

theorem Ev_pos {α : Type} {c : Prop} [Decidable c] {a b : Nat → Option α} {r : α} (h : c) (e : Ev a r) : Ev (fun k => if c then a k else b k) r :=
  Ev.congr (fun k => if_pos h) e
theorem Ev_neg {α : Type} {c : Prop} [Decidable c] {a b : Nat → Option α} {r : α} (h : ¬ c) (e : Ev b r) : Ev (fun k => if c then a k else b k) r :=
  Ev.congr (fun k => if_neg h) e
theorem Ev_bindp {α β : Type} {x : Option α} {f : Nat → α → Option β} {a : α} {r : β} (h : x = some a) (e : Ev (fun n => f n a) r) : Ev (fun n => x.bind (f n)) r := by
  subst h
  exact e
theorem Ev_is {α : Type} {x : Option α} {r : α} (h : x = some r) : Ev (fun _ => x) r := ⟨0, fun _ _ => h⟩

theorem w64 {n : Int} (h0 : -9223372036854775808 ≤ n) (h1 : n ≤ 9223372036854775807) : wrap64 n = n := by
  unfold wrap64
  omega

theorem and255 (n : Int) : Go.bits .and .i64 n 255 = n % 256 := by
  have h255 : (BitVec.ofInt 64 255).toNat = 2 ^ 8 - 1 := by decide
  have key : (BitVec.ofInt 64 n &&& BitVec.ofInt 64 255).toNat = (n % ((2 ^ 64 : Nat) : Int)).toNat % 2 ^ 8 := by
    rw [BitVec.toNat_and, BitVec.toNat_ofInt, h255, Nat.and_two_pow_sub_one_eq_mod]
  show IntKind.i64.wrap ((BitVec.ofInt 64 n &&& BitVec.ofInt 64 255).toNat : Nat) = n % 256
  rw [key, IntKind.wrap_i64]
  omega
/-- A draw's function comes to an answer that meets P, and hands on a cursor that lies in the code. -/
def Dr {α : Type} (f : Option (α × Int × Int)) (P : α → Prop) : Prop := ∃ b i h, f = some (b, i, h) ∧ P b ∧ 0 ≤ i ∧ i ≤ 1048576
theorem l1Byte_dr (l : List Int) (hl : l.length ≤ 1048576) (i h : Int) (h0 : 0 ≤ i) (h1 : i ≤ 1048576) : Dr (spec_l1Byte.f l i h) (fun b => 0 ≤ b ∧ b ≤ 255) := by
  unfold spec_l1Byte.f
  by_cases c : i < (l.length : Int)
  · rw [if_pos c, if_pos h0]
    refine ⟨_, _, _, rfl, ?_, ?_⟩
    · rw [and255]; omega
    · rw [w64 (by omega) (by omega)]; omega
  · rw [if_neg c]
    refine ⟨_, _, _, rfl, ?_, h0, h1⟩
    rw [and255]; omega
theorem l1Below_dr (l : List Int) (hl : l.length ≤ 1048576) (i h n : Int) (h0 : 0 ≤ i) (h1 : i ≤ 1048576) (hn : 0 < n) : Dr (spec_l1Below.f l i h n) (fun b => 0 ≤ b ∧ b < n) := by
  unfold spec_l1Below.f
  rw [if_neg (by omega)]
  by_cases c : n ≤ 256
  · rw [if_pos c]
    obtain ⟨b, i1, g1, e, hb, hi0, hi1⟩ := l1Byte_dr l hl i h h0 h1
    rw [e]
    simp only [Option.bind_some]
    rw [if_neg (by omega)]
    refine ⟨_, _, _, rfl, ?_, hi0, hi1⟩
    rw [Int.tmod_eq_emod_of_nonneg (by omega)]
    exact ⟨Int.emod_nonneg _ (by omega), Int.emod_lt_of_pos _ hn⟩
  · rw [if_neg c]
    obtain ⟨b1, i1, g1, e1, hb1, hi1, hj1⟩ := l1Byte_dr l hl i h h0 h1
    rw [e1]
    simp only [Option.bind_some]
    obtain ⟨b2, i2, g2, e2, hb2, hi2, hj2⟩ := l1Byte_dr l hl i1 g1 hi1 hj1
    rw [e2]
    simp only [Option.bind_some]
    obtain ⟨b3, i3, g3, e3, hb3, hi3, hj3⟩ := l1Byte_dr l hl i2 g2 hi2 hj2
    rw [e3]
    simp only [Option.bind_some]
    obtain ⟨b4, i4, g4, e4, hb4, hi4, hj4⟩ := l1Byte_dr l hl i3 g3 hi3 hj3
    rw [e4]
    simp only [Option.bind_some]
    rw [if_neg (by omega)]
    refine ⟨_, _, _, rfl, ?_, hi4, hj4⟩
    have w1 : wrap64 (b1 * 16777216) = b1 * 16777216 := w64 (by omega) (by omega)
    have w2 : wrap64 (b2 * 65536) = b2 * 65536 := w64 (by omega) (by omega)
    have w3 : wrap64 (b3 * 256) = b3 * 256 := w64 (by omega) (by omega)
    rw [w1, w2, w3, w64 (n := b1 * 16777216 + b2 * 65536) (by omega) (by omega), w64 (n := b1 * 16777216 + b2 * 65536 + b3 * 256) (by omega) (by omega), w64 (by omega) (by omega), Int.tmod_eq_emod_of_nonneg (by omega)]
    exact ⟨Int.emod_nonneg _ (by omega), Int.emod_lt_of_pos _ hn⟩
theorem rdOf_mem {α : Type} (d : α) (xs : List α) (i : Int) (h0 : 0 ≤ i) (h1 : i < (xs.length : Int)) : rdOf d xs i ∈ xs := by
  unfold rdOf
  have h : i.toNat < xs.length := by omega
  rw [List.getD_eq_getElem?_getD, List.getElem?_eq_getElem h]
  exact List.getElem_mem h
theorem rd_mem (xs : List Int) (i : Int) (h0 : 0 ≤ i) (h1 : i < (xs.length : Int)) : rd xs i ∈ xs := by
  unfold rd
  have h : i.toNat < xs.length := by omega
  rw [List.getD_eq_getElem?_getD, List.getElem?_eq_getElem h]
  exact List.getElem_mem h

theorem l1Pick_dr (l : List Int) (hl : l.length ≤ 1048576) (i h : Int) (xs : List ByteArray) (h0 : 0 ≤ i) (h1 : i ≤ 1048576) (hn : 0 < xs.length) : Dr (spec_l1Pick.f l i h xs) (fun b => b ∈ xs) := by
  unfold spec_l1Pick.f
  obtain ⟨b, i1, g1, e, hb, hi0, hi1⟩ := l1Below_dr l hl i h (xs.length : Int) h0 h1 (by omega)
  rw [e]
  simp only [Option.bind_some]
  rw [if_pos hb.1, if_pos hb.2]
  exact ⟨_, _, _, rfl, rdOf_mem _ _ _ hb.1 hb.2, hi0, hi1⟩

theorem l1Once_dr (l : List Int) (hl : l.length ≤ 1048576) (i h n : Int) (h0 : 0 ≤ i) (h1 : i ≤ 1048576) (hn : 0 < n) : Dr (spec_l1Once.f l i h n) (fun _ => True) := by
  unfold spec_l1Once.f
  obtain ⟨b, i1, g1, e, hb, hi0, hi1⟩ := l1Below_dr l hl i h n h0 h1 hn
  rw [e]
  exact ⟨_, _, _, rfl, trivial, hi0, hi1⟩

theorem l4Key_dr (l : List Int) (hl : l.length ≤ 1048576) (i h : Int) (h0 : 0 ≤ i) (h1 : i ≤ 1048576) : Dr (spec_l4Key.f l i h) (fun b => b.size ≤ 5) := by
  unfold spec_l4Key.f
  obtain ⟨b, i1, g1, e, hb, hi0, hi1⟩ := l1Pick_dr l hl i h [(⟨#[97]⟩ : ByteArray), (⟨#[98]⟩ : ByteArray), (⟨#[99, 112, 117]⟩ : ByteArray), (⟨#[114, 101, 113]⟩ : ByteArray), (⟨#[120, 95, 49]⟩ : ByteArray), (⟨#[90, 57]⟩ : ByteArray), (⟨#[109, 101, 109]⟩ : ByteArray), (⟨#[113]⟩ : ByteArray)] h0 h1 (by simp)
  rw [e]
  refine ⟨_, _, _, rfl, (show b.size ≤ 5 from ?_), hi0, hi1⟩
  simp only [List.mem_cons, List.not_mem_nil, or_false] at hb
  rcases hb with rfl | rfl | rfl | rfl | rfl | rfl | rfl | rfl <;> decide

theorem l4Any_dr (l : List Int) (hl : l.length ≤ 1048576) (i h : Int) (h0 : 0 ≤ i) (h1 : i ≤ 1048576) : Dr (spec_l4Any.f l i h) (fun b => b.size ≤ 5) := by
  unfold spec_l4Any.f
  obtain ⟨o, i1, g1, e, _, hi0, hi1⟩ := l1Once_dr l hl i h 5 h0 h1 (by omega)
  rw [e]
  simp only [Option.bind_some]
  by_cases c : o = true
  · rw [if_pos c]
    obtain ⟨b, i2, g2, e2, hb, hj0, hj1⟩ := l1Pick_dr l hl i1 g1 [(⟨#[]⟩ : ByteArray), (⟨#[97, 98, 99, 100, 101]⟩ : ByteArray), (⟨#[97, 32, 98]⟩ : ByteArray), (⟨#[97, 58]⟩ : ByteArray), (⟨#[0]⟩ : ByteArray), (⟨#[97, 98, 99, 100]⟩ : ByteArray), (⟨#[255]⟩ : ByteArray)] hi0 hi1 (by simp)
    rw [e2]
    refine ⟨_, _, _, rfl, (show b.size ≤ 5 from ?_), hj0, hj1⟩
    simp only [List.mem_cons, List.not_mem_nil, or_false] at hb
    rcases hb with rfl | rfl | rfl | rfl | rfl | rfl | rfl <;> decide
  · rw [if_neg c]
    obtain ⟨b, i2, g2, e2, hb, hj0, hj1⟩ := l4Key_dr l hl i1 g1 hi0 hi1
    rw [e2]
    exact ⟨_, _, _, rfl, hb, hj0, hj1⟩

theorem l1New_l (l : List Int) (hl : l.length ≤ 1048576) : ∀ (d i : Nat) (x : Int), i + d = l.length → ∃ h, Ev (fun k => spec_l1New.l0 k l x (i : Int)) (l, 0, h) := by
  intro d
  induction d with
  | zero =>
    intro i x hi
    exact ⟨x, Ev.step (fun k => spec_l1New.l0.eq_2 _ _ _ k) (Ev_neg (by omega) (Ev.now _))⟩
  | succ d ih =>
    intro i x hi
    by_cases c : (i : Int) < 4000
    · obtain ⟨h, e⟩ := ih (i + 1) (Go.bits .and .i64 (wrap64 ((wrap64 ((wrap64 (x * 131)) + (wrap64 (rd l (i : Int))))) + 7)) 1073741823) (by omega)
      refine ⟨h, Ev.step (fun k => spec_l1New.l0.eq_2 _ _ _ k) (Ev_pos (by omega) (Ev_pos c (Ev_pos (by omega) ?_)))⟩
      rw [show wrap64 ((i : Int) + 1) = ((i + 1 : Nat) : Int) by rw [w64 (by omega) (by omega)]; omega]
      exact e
    · exact ⟨x, Ev.step (fun k => spec_l1New.l0.eq_2 _ _ _ k) (Ev_pos (by omega) (Ev_neg c (Ev.now _)))⟩
theorem l1New_ev (l : List Int) (hl : l.length ≤ 1048576) : ∃ h, Ev (fun k => spec_l1New.f k l) (l, 0, h) := l1New_l l hl l.length 0 _ (by omega)

theorem DrawPackKey_ev (l : List Int) (hl : l.length ≤ 1048576) : ∃ s, s.size ≤ 5 ∧ Ev (fun k => spec_DrawPackKey.f k l) s := by
  obtain ⟨h, e⟩ := l1New_ev l hl
  obtain ⟨b, i, g, e1, hb, _, _⟩ := l4Any_dr l hl 0 h (by omega) (by omega)
  refine ⟨b, hb, Ev.bind e (Ev_is ?_)⟩
  simp only [e1, Option.bind_some]

theorem l1PickInt_dr (l : List Int) (hl : l.length ≤ 1048576) (i h : Int) (xs : List Int) (h0 : 0 ≤ i) (h1 : i ≤ 1048576) (hn : 0 < xs.length) : Dr (spec_l1PickInt.f l i h xs) (fun b => b ∈ xs) := by
  unfold spec_l1PickInt.f
  obtain ⟨b, i1, g1, e, hb, hi0, hi1⟩ := l1Below_dr l hl i h (xs.length : Int) h0 h1 (by omega)
  rw [e]
  simp only [Option.bind_some]
  rw [if_pos hb.1, if_pos hb.2]
  exact ⟨_, _, _, rfl, rd_mem _ _ hb.1 hb.2, hi0, hi1⟩

/-- May a byte stand in a key? -/
def kb (c : Int) : Bool := decide ((97 ≤ c ∧ c ≤ 122) ∨ (65 ≤ c ∧ c ≤ 90) ∨ (48 ≤ c ∧ c ≤ 57) ∨ c = 95)
def keyOkV (s : ByteArray) : Bool := decide (1 ≤ s.size ∧ s.size ≤ 4 ∧ ∀ j, j < s.size → kb (bt s (j : Nat)) = true)

/-- The number of the first n bytes, most significant first. -/
def rfV (s : ByteArray) : Nat → Int
  | 0 => 0
  | n + 1 => rfV s n * 256 + bt s n
theorem rfV_lt (s : ByteArray) : ∀ n, 0 ≤ rfV s n ∧ rfV s n < ((256 ^ n : Nat) : Int)
  | 0 => by simp [rfV]
  | n + 1 => by
    have ih := rfV_lt s n
    have b := bt_range s n
    simp only [rfV, Nat.pow_succ]
    omega
theorem rfV_le (s : ByteArray) (n m : Nat) (h : n ≤ m) : 0 ≤ rfV s n ∧ rfV s n < ((256 ^ m : Nat) : Int) := by
  have ih := rfV_lt s n
  have hp : 256 ^ n ≤ 256 ^ m := Nat.pow_le_pow_right (by decide) h
  omega
theorem wraps_i64 (n : Int) (h₀ : 0 ≤ n) (h₁ : n < 2 ^ 63) : IntKind.i64.wrap n = n := by rw [IntKind.wrap_i64]; omega

/-- The last w bytes of n, most significant first. -/
def fixedL : Nat → Int → List Int
  | 0, _ => []
  | w + 1, n => fixedL w (n / 256) ++ [n % 256]
theorem fixedL_length : ∀ w n, (fixedL w n).length = w
  | 0, _ => rfl
  | w + 1, n => by simp [fixedL, fixedL_length w]
def fixedV (n w : Int) : ByteArray := if (1 ≤ w ∧ w ≤ 7) ∧ 0 ≤ n ∧ n < ((256 ^ w.toNat : Nat) : Int) then strOfNums (fixedL w.toNat n) else ⟨#[]⟩
theorem strOfNums_append' (a b : List Int) : strOfNums a ++ strOfNums b = strOfNums (a ++ b) := by
  apply ByteArray.ext
  unfold strOfNums
  simp [ByteArray.data_append]

theorem bytesOf_range (s : ByteArray) : ∀ x ∈ bytesOf s, 0 ≤ x ∧ x ≤ 255 := by
  intro x hx
  unfold bytesOf at hx
  obtain ⟨b, _, rfl⟩ := List.mem_map.1 hx
  have := b.toNat_lt
  omega
theorem nums_back (l : List UInt8) (xs : List Int) (h : ∀ x ∈ xs, 0 ≤ x ∧ x ≤ 255) : (xs.map fun n => UInt8.ofNat n.toNat) = l ↔ xs = l.map fun b => (b.toNat : Int) := by
  constructor
  · intro e
    rw [← e, List.map_map]
    symm
    conv => rhs; rw [← List.map_id xs]
    apply List.map_congr_left
    intro x hx
    have := h x hx
    simp only [Function.comp, UInt8.toNat_ofNat', id]
    omega
  · intro e
    rw [e, List.map_map]
    conv => rhs; rw [← List.map_id l]
    apply List.map_congr_left
    intro b _
    simp
theorem same_take (s : ByteArray) (xs : List Int) (h : ∀ x ∈ xs, 0 ≤ x ∧ x ≤ 255) (k : Nat) : (strOfNums xs).toList = (s.extract 0 k).toList ↔ xs = (bytesOf s).take k := by
  rw [ByteArray.toList_eq, ByteArray.toList_eq]
  have e : (s.extract 0 k).data.toList = s.data.toList.take k := by simp
  rw [e, strOfNums_data, nums_back _ _ h]
  unfold bytesOf
  rw [List.map_take]
theorem take_at (s : ByteArray) (i : Nat) (h : i < s.size) : (bytesOf s).take (i + 1) = (bytesOf s).take i ++ [bt s i] := by
  have hl : i < (bytesOf s).length := by rw [bytesOf_length]; exact h
  rw [List.take_succ_eq_append_getElem hl, ← rd_bytesOf]
  congr 2
  simp [rd, List.getD_eq_getElem?_getD, List.getElem?_eq_getElem hl]

/-- The number of a list of bytes, most significant first. -/
def hv : List Int → Int → Int
  | [], a => a
  | b :: l, a => hv l (a * 256 + b)
theorem hv_snoc (c : Int) : ∀ (l : List Int) (a : Int), hv (l ++ [c]) a = hv l a * 256 + c
  | [], a => rfl
  | b :: l, a => by simp only [List.cons_append, hv]; exact hv_snoc c l _
theorem rfV_hv (s : ByteArray) : ∀ n, n ≤ s.size → rfV s n = hv ((bytesOf s).take n) 0
  | 0, _ => by simp [rfV, hv]
  | n + 1, h => by rw [take_at s n (by omega), hv_snoc, ← rfV_hv s n (by omega)]; rfl
theorem rfV_size (s : ByteArray) : rfV s s.size = hv (bytesOf s) 0 := by
  rw [rfV_hv s s.size (Nat.le_refl _), List.take_of_length_le (by rw [bytesOf_length]; exact Nat.le_refl _)]
theorem fixedL_range : ∀ (w : Nat) (n : Int), ∀ x ∈ fixedL w n, 0 ≤ x ∧ x ≤ 255
  | 0, n, x, hx => by simp [fixedL] at hx
  | w + 1, n, x, hx => by
    simp only [fixedL, List.mem_append, List.mem_singleton] at hx
    rcases hx with hx | hx
    · exact fixedL_range w _ x hx
    · omega
theorem hv_fixedL : ∀ (w : Nat) (n : Int), 0 ≤ n → n < ((256 ^ w : Nat) : Int) → hv (fixedL w n) 0 = n
  | 0, n, h0, h1 => by simp [fixedL, hv]; simp at h1; omega
  | w + 1, n, h0, h1 => by
    simp only [fixedL, hv_snoc]
    rw [hv_fixedL w (n / 256) (by omega) (by rw [Nat.pow_succ] at h1; omega)]
    omega
theorem bytesOf_strOf (xs : List Int) (h : ∀ x ∈ xs, 0 ≤ x ∧ x ≤ 255) : bytesOf (strOfNums xs) = xs := by
  unfold bytesOf
  exact ((nums_back _ xs h).1 (strOfNums_data xs).symm).symm
theorem strOf_bytesOf (s : ByteArray) : strOfNums (bytesOf s) = s := by
  apply ByteArray.ext
  apply Array.toList_inj.1
  rw [strOfNums_data, nums_back _ _ (bytesOf_range s)]
  rfl
def keyOkL (l : List Int) : Bool := decide (1 ≤ l.length ∧ l.length ≤ 4) && l.all kb
theorem keyOkV_list (s : ByteArray) : keyOkV s = keyOkL (bytesOf s) := by
  unfold keyOkV keyOkL
  rw [Bool.eq_iff_iff]
  simp only [decide_eq_true_eq, Bool.and_eq_true, List.all_eq_true, bytesOf_length]
  constructor
  · rintro ⟨h1, h2, h3⟩
    refine ⟨⟨h1, h2⟩, fun x hx => ?_⟩
    obtain ⟨i, hi, rfl⟩ := List.mem_iff_getElem.1 hx
    have hi' : i < s.size := by rw [bytesOf_length] at hi; exact hi
    have := h3 i hi'
    rw [← rd_bytesOf] at this
    simpa [rd, List.getD_eq_getElem?_getD, List.getElem?_eq_getElem hi] using this
  · rintro ⟨⟨h1, h2⟩, h3⟩
    refine ⟨h1, h2, fun j hj => ?_⟩
    have hi : j < (bytesOf s).length := by rw [bytesOf_length]; exact hj
    have := h3 _ (List.getElem_mem hi)
    rw [← rd_bytesOf]
    simpa [rd, List.getD_eq_getElem?_getD, List.getElem?_eq_getElem hi] using this
def packV (s : ByteArray) : Int := if keyOkV s = true then rfV s s.size else 0
theorem keyOkV_size (s : ByteArray) (h : keyOkV s = true) : 1 ≤ s.size ∧ s.size ≤ 4 := by
  unfold keyOkV at h
  have := of_decide_eq_true h
  exact ⟨this.1, this.2.1⟩
theorem packV_range (s : ByteArray) : 0 ≤ packV s ∧ packV s ≤ 4294967295 := by
  unfold packV
  split
  · rename_i h
    have hs := keyOkV_size s h
    have := rfV_le s s.size 4 hs.2
    omega
  · omega

theorem l1In_eq (a b c : Int) : spec_l1In.f a b c = some (decide (b ≤ a ∧ a ≤ c)) := by
  unfold spec_l1In.f
  by_cases h : b ≤ a <;> simp [h]

theorem l4Byte_eq (c : Int) : spec_l4Byte.f c = some (kb c) := by
  unfold spec_l4Byte.f
  simp only [l1In_eq, Option.bind_some]
  unfold kb
  by_cases h1 : 97 ≤ c ∧ c ≤ 122
  · simp [h1]
  by_cases h2 : 65 ≤ c ∧ c ≤ 90
  · simp [h1, h2]
  by_cases h3 : 48 ≤ c ∧ c ≤ 57
  · simp [h1, h2, h3]
  by_cases h4 : c = 95
  · subst h4; rfl
  · simp [h1, h2, h3, h4]
theorem spec_keyOk_l (s : ByteArray) (hs : s.size ≤ 140737488351232) : ∀ (d i : Nat), i + d = s.size → (∀ j, j < i → kb (bt s (j : Nat)) = true) → Ev (fun k => spec_KeyOk.l0 k s (i : Int)) (keyOkV s) := by
  intro d
  induction d with
  | zero =>
    intro i hi hk
    refine Ev.step (fun k => spec_KeyOk.l0.eq_2 _ _ k) (Ev_neg (by omega) (Ev_bindp (l1In_eq _ _ _) (Ev_is ?_)))
    obtain rfl : i = s.size := by omega
    have e : (1 ≤ (s.size : Int) ∧ (s.size : Int) ≤ 4) ↔ (1 ≤ s.size ∧ s.size ≤ 4 ∧ ∀ j, j < s.size → kb (bt s (j : Nat)) = true) := ⟨fun h => ⟨by omega, by omega, hk⟩, fun h => ⟨by omega, by omega⟩⟩
    unfold keyOkV
    rw [decide_eq_decide.2 e]
  | succ d ih =>
    intro i hi hk
    have b := bt_range s i
    refine Ev.step (fun k => spec_KeyOk.l0.eq_2 _ _ k) (Ev_pos (by omega) (Ev_pos (by omega) (Ev_bindp (l4Byte_eq _) ?_)))
    rw [w64 (n := bt s i) (by omega) (by omega), w64 (n := (i : Int) + 1) (by omega) (by omega)]
    by_cases h : kb (bt s i) = true
    · refine Ev_pos h ?_
      have e3 : ((i : Int) + 1) = ((i + 1 : Nat) : Int) := by omega
      rw [e3]
      refine ih (i + 1) (by omega) fun j hj => ?_
      rcases Nat.lt_or_ge j i with h' | h'
      · exact hk j h'
      · obtain rfl : j = i := by omega
        exact h
    · refine Ev_neg h (Ev_is ?_)
      unfold keyOkV
      congr 1
      symm
      exact decide_eq_false fun hh => h (hh.2.2 i (by omega))
theorem spec_KeyOk_ev (s : ByteArray) (hs : s.size ≤ 140737488351232) : Ev (fun k => spec_KeyOk.f k s) (keyOkV s) := spec_keyOk_l s hs s.size 0 (by omega) (fun j hj => by omega)

theorem spec_pack_l (s : ByteArray) (h4 : s.size ≤ 4) : ∀ (d i : Nat), i + d = s.size → Ev (fun k => spec_PackKey.l0 k s (rfV s i) (i : Int)) (rfV s s.size) := by
  intro d
  induction d with
  | zero =>
    intro i hi
    refine Ev.step (fun k => spec_PackKey.l0.eq_2 _ _ _ k) (Ev_neg (by omega) ?_)
    obtain rfl : i = s.size := by omega
    exact Ev.now _
  | succ d ih =>
    intro i hi
    refine Ev.step (fun k => spec_PackKey.l0.eq_2 _ _ _ k) (Ev_pos (by omega) (Ev_pos (by omega) ?_))
    have h := rfV_le s i 6 (by omega)
    have b := bt_range s i
    have e3 : wrap64 ((i : Int) + 1) = ((i + 1 : Nat) : Int) := by rw [w64 (by omega) (by omega)]; omega
    have e4 : wrap64 (wrap64 (rfV s i * 256) + wrap64 (bt s (i : Int))) = rfV s (i + 1) := by
      rw [w64 (n := rfV s i * 256) (by omega) (by omega), w64 (n := bt s (i : Int)) (by omega) (by omega), w64 (by omega) (by omega)]
      rfl
    rw [e3, e4]
    exact ih (i + 1) (by omega)
theorem spec_PackKey_ev (s : ByteArray) (hs : s.size ≤ 140737488351232) : Ev (fun k => spec_PackKey.f k s) (packV s) := by
  refine Ev.bind (spec_KeyOk_ev s hs) ?_
  unfold packV
  by_cases h : keyOkV s = true
  · rw [if_pos h]
    exact Ev_pos h (spec_pack_l s (keyOkV_size s h).2 s.size 0 (by omega))
  · rw [if_neg h]
    exact Ev_neg h (Ev.now _)

theorem DrawUnpackKey_ev (l : List Int) (hl : l.length ≤ 1048576) : ∃ n : Int, n ≤ 9223372036854775807 ∧ Ev (fun k => spec_DrawUnpackKey.f k l) n := by
  obtain ⟨h, e⟩ := l1New_ev l hl
  obtain ⟨b, i, g, e1, hb, hi0, hi1⟩ := l4Key_dr l hl 0 h (by omega) (by omega)
  obtain ⟨o, i2, g2, e2, _, hj0, hj1⟩ := l1Once_dr l hl i g 3 hi0 hi1 (by omega)
  have hp := packV_range b
  by_cases c : o = true
  · obtain ⟨m, i3, g3, e3, hm, _, _⟩ := l1PickInt_dr l hl i2 g2 [0, -1, wrap64 (packV b + 1), wrap64 (packV b * 256), 4294967295, 4294967296, 65] hj0 hj1 (by simp)
    refine ⟨m, ?_, Ev.bind e (Ev_bindp e1 (Ev.bind (spec_PackKey_ev b (by omega)) (Ev_bindp e2 (Ev_pos c (Ev_bindp e3 (Ev.now _))))))⟩
    simp only [List.mem_cons, List.not_mem_nil, or_false] at hm
    have w1 : wrap64 (packV b + 1) = packV b + 1 := w64 (by omega) (by omega)
    have w2 : wrap64 (packV b * 256) = packV b * 256 := w64 (by omega) (by omega)
    omega
  · exact ⟨packV b, by omega, Ev.bind e (Ev_bindp e1 (Ev.bind (spec_PackKey_ev b (by omega)) (Ev_bindp e2 (Ev_neg c (Ev.now _)))))⟩

theorem has_l (l : List Int) (hl : l.length ≤ 1048576) (a : Int) : ∀ (d i : Nat), i + d = l.length → Ev (fun k => laws_has.l0 k l a (i : Int)) ((l.drop i).contains a) := by
  intro d
  induction d with
  | zero =>
    intro i hi
    refine Ev.step (fun k => laws_has.l0.eq_2 _ _ _ k) (Ev_neg (by omega) (Ev_is ?_))
    rw [List.drop_eq_nil_of_le (by omega)]; rfl
  | succ d ih =>
    intro i hi
    have h : i < l.length := by omega
    have e : rd l (i : Int) = l[i] := by simp [rd, List.getD_eq_getElem?_getD, List.getElem?_eq_getElem h]
    rw [List.drop_eq_getElem_cons h]
    refine Ev.step (fun k => laws_has.l0.eq_2 _ _ _ k) (Ev_pos (by omega) (Ev_pos (by omega) ?_))
    rw [e]
    by_cases c : l[i] = a
    · exact Ev_pos c (Ev_is (by rw [c]; simp))
    · refine Ev_neg c ?_
      rw [show wrap64 ((i : Int) + 1) = ((i + 1 : Nat) : Int) by rw [w64 (by omega) (by omega)]; omega]
      have := ih (i + 1) (by omega)
      rw [show (l[i] :: l.drop (i + 1)).contains a = (l.drop (i + 1)).contains a by rw [List.contains_cons, show (a == l[i]) = false from beq_eq_false_iff_ne.2 (fun x => c x.symm), Bool.false_or]]
      exact this
theorem has_ev (l : List Int) (hl : l.length ≤ 1048576) (a : Int) : Ev (fun k => laws_has.f k l a) (l.contains a) := by
  have := has_l l hl a l.length 0 (by omega)
  rwa [List.drop_zero] at this

/-- How many bytes a number takes. -/
def widthV (n : Int) : Nat := if n < 256 then 1 else if n < 65536 then 2 else if n < 16777216 then 3 else 4
def keyOf (n : Int) : ByteArray := strOfNums (fixedL (widthV n) n)
def unpackV (n : Int) : ByteArray × Bool := if (1 ≤ n ∧ n ≤ 4294967295) ∧ keyOkV (keyOf n) = true then (keyOf n, true) else (⟨#[]⟩, false)
theorem strOf_size (w : Nat) (n : Int) : (strOfNums (fixedL w n)).size = w := by rw [strOfNums_size, fixedL_length]
theorem pack_fixed (w : Nat) (n : Int) (h0 : 0 ≤ n) (h1 : n < ((256 ^ w : Nat) : Int)) (hk : keyOkV (strOfNums (fixedL w n)) = true) : packV (strOfNums (fixedL w n)) = n := by
  unfold packV
  rw [if_pos hk, rfV_size, bytesOf_strOf _ (fixedL_range w n), hv_fixedL w n h0 h1]
theorem keyOk_fixed (w : Nat) (n : Int) : keyOkV (strOfNums (fixedL w n)) = keyOkL (fixedL w n) := by
  rw [keyOkV_list, bytesOf_strOf _ (fixedL_range w n)]

theorem within_eq (a b c : Int) : impl_within.f a b c = some (decide (b ≤ a ∧ a ≤ c)) := by
  unfold impl_within.f
  by_cases h : b ≤ a <;> simp [h]

theorem impl_keyOk_step (s : ByteArray) (i : Nat) (h1 : (i : Int) < (s.size : Int)) (k : Nat) : impl_KeyOk.l0 (k + 1) s (s.size : Int) (i : Int) = if kb (bt s i) = true then impl_KeyOk.l0 k s (s.size : Int) (wrap64 ((i : Int) + 1)) else some false := by
  simp only [impl_KeyOk.l0]
  rw [if_pos h1, if_pos (by omega), if_pos h1]
  unfold kb
  generalize bt s (i : Int) = c
  generalize impl_KeyOk.l0 k s (s.size : Int) (wrap64 ((i : Int) + 1)) = X
  by_cases a1 : 97 ≤ c <;> by_cases a2 : c ≤ 122 <;> by_cases a3 : 65 ≤ c <;> by_cases a4 : c ≤ 90 <;> by_cases a5 : 48 ≤ c <;> by_cases a6 : c ≤ 57 <;> by_cases a7 : c = 95 <;> first | (exfalso; omega) | simp [a1, a2, a3, a4, a5, a6, a7]
theorem impl_keyOk_l (s : ByteArray) (hs : s.size ≤ 140737488351232) : ∀ (d i : Nat), i + d = s.size → (∀ j, j < i → kb (bt s (j : Nat)) = true) → Ev (fun k => impl_KeyOk.l0 k s (s.size : Int) (i : Int)) (keyOkV s) := by
  intro d
  induction d with
  | zero =>
    intro i hi hk
    refine Ev.step (fun k => impl_KeyOk.l0.eq_2 _ _ _ k) (Ev_neg (by omega) (Ev_bindp (within_eq _ _ _) (Ev_is ?_)))
    obtain rfl : i = s.size := by omega
    have e : (1 ≤ (s.size : Int) ∧ (s.size : Int) ≤ 4) ↔ (1 ≤ s.size ∧ s.size ≤ 4 ∧ ∀ j, j < s.size → kb (bt s (j : Nat)) = true) := ⟨fun h => ⟨by omega, by omega, hk⟩, fun h => ⟨by omega, by omega⟩⟩
    unfold keyOkV
    rw [decide_eq_decide.2 e]
  | succ d ih =>
    intro i hi hk
    refine Ev.step (fun k => impl_keyOk_step s i (by omega) k) ?_
    rw [w64 (n := (i : Int) + 1) (by omega) (by omega)]
    by_cases h : kb (bt s i) = true
    · refine Ev_pos h ?_
      have e3 : ((i : Int) + 1) = ((i + 1 : Nat) : Int) := by omega
      rw [e3]
      refine ih (i + 1) (by omega) fun j hj => ?_
      rcases Nat.lt_or_ge j i with h' | h'
      · exact hk j h'
      · obtain rfl : j = i := by omega
        exact h
    · refine Ev_neg h (Ev_is ?_)
      unfold keyOkV
      congr 1
      symm
      exact decide_eq_false fun hh => h (hh.2.2 i (by omega))
theorem impl_KeyOk_ev (s : ByteArray) (hs : s.size ≤ 140737488351232) : Ev (fun k => impl_KeyOk.f k s) (keyOkV s) := impl_keyOk_l s hs s.size 0 (by omega) (fun j hj => by omega)

def readFixedV (s : ByteArray) (w : Int) : Int × Bool := if (1 ≤ w ∧ w ≤ 7) ∧ w ≤ s.size then (rfV s w.toNat, true) else (0, false)

theorem impl_rf_l (s : ByteArray) (w : Nat) (hw : w ≤ 7) (hs : w ≤ s.size) (hz : s.size ≤ 140737488351232) : ∀ (d i : Nat), i + d = w → Ev (fun k => impl_ReadFixed.l0 k s (rfV s i) (w : Int) (i : Int)) (rfV s w, true) := by
  intro d
  induction d with
  | zero =>
    intro i hi
    refine Ev.step (fun k => impl_ReadFixed.l0.eq_2 _ _ _ _ k) (Ev_neg (by omega) ?_)
    obtain rfl : i = w := by omega
    exact Ev.now _
  | succ d ih =>
    intro i hi
    refine Ev.step (fun k => impl_ReadFixed.l0.eq_2 _ _ _ _ k) (Ev_pos (by omega) (Ev_pos (by omega) (Ev_pos (by omega) ?_)))
    have h := rfV_le s i 6 (by omega)
    have b := bt_range s i
    have e3 : wrap64 ((i : Int) + 1) = ((i + 1 : Nat) : Int) := by rw [w64 (by omega) (by omega)]; omega
    have e4 : Go.bits .or .i64 (wrap64 (rfV s i * 256)) (wrap64 (bt s (i : Int))) = rfV s (i + 1) := by
      rw [w64 (n := rfV s i * 256) (by omega) (by omega), w64 (n := bt s (i : Int)) (by omega) (by omega)]
      exact bits_join .i64 63 (by decide) wraps_i64 8 _ _ (by omega) (by omega) (by omega) (by omega) (by omega) (by omega)
    rw [e3, e4]
    exact ih (i + 1) (by omega)
theorem impl_ReadFixed_ev (s : ByteArray) (w : Int) (hz : s.size ≤ 140737488351232) : Ev (fun k => impl_ReadFixed.f k s w) (readFixedV s w) := by
  refine Ev_bindp (within_eq _ _ _) ?_
  unfold readFixedV
  by_cases h : 1 ≤ w ∧ w ≤ 7
  · obtain ⟨m, rfl⟩ := Int.eq_ofNat_of_zero_le (show 0 ≤ w by omega)
    refine Ev_pos (decide_eq_true h) (Ev.step (fun k => impl_ReadFixed.j0.eq_2 _ _ _ k) ?_)
    by_cases h' : (m : Int) ≤ s.size
    · rw [if_pos ⟨h, h'⟩, Int.toNat_natCast]
      exact Ev_neg (by simp; omega) (impl_rf_l s m (by omega) (by omega) hz m 0 (by omega))
    · rw [if_neg (fun x => h' x.2)]
      exact Ev_pos (by simp; omega) (Ev.now _)
  · rw [if_neg (fun x => h x.1)]
    exact Ev_neg (by simpa using h) (Ev.step (fun k => impl_ReadFixed.j0.eq_2 _ _ _ k) (Ev_pos rfl (Ev.now _)))

theorem impl_PackKey_ev (s : ByteArray) (hs : s.size ≤ 140737488351232) : Ev (fun k => impl_PackKey.f k s) (packV s) := by
  refine Ev.bind (impl_KeyOk_ev s hs) ?_
  unfold packV
  by_cases h : keyOkV s = true
  · rw [if_pos h]
    have hz := keyOkV_size s h
    refine Ev_pos h (Ev.bind (impl_ReadFixed_ev s s.size hs) (Ev_is ?_))
    unfold readFixedV
    rw [if_pos ⟨by omega, by omega⟩, Int.toNat_natCast]
  · rw [if_neg h]
    exact Ev_neg h (Ev.now _)

theorem impl_fixed_l : ∀ (d : Nat) (n : Int) (acc : List Int), d + acc.length ≤ 7 → 0 ≤ n → n ≤ 9223372036854775807 → Ev (fun k => impl_Fixed.l0 k n (List.replicate d 0 ++ acc) ((d : Int) - 1)) (strOfNums (fixedL d n ++ acc)) := by
  intro d
  induction d with
  | zero =>
    intro n acc hl h0 h1
    exact Ev.step (fun k => impl_Fixed.l0.eq_2 _ _ _ k) (Ev_neg (by omega) (Ev_is (by simp [fixedL])))
  | succ d ih =>
    intro n acc hl h0 h1
    have e0 : (((d + 1 : Nat) : Int) - 1) = (d : Int) := by omega
    rw [e0]
    have e3 : wrap64 ((d : Int) - 1) = (d : Int) - 1 := w64 (by omega) (by omega)
    refine Ev.step (fun k => impl_Fixed.l0.eq_2 _ _ _ k) (Ev_pos (by omega) (Ev_pos (by omega) (Ev_pos (by simp; omega) ?_)))
    have e4 : (List.replicate (d + 1) (0 : Int) ++ acc).set ((d : Int)).toNat (n % 256) = List.replicate d 0 ++ ([n % 256] ++ acc) := by
      rw [Int.toNat_natCast, List.replicate_succ', List.append_assoc, List.set_append_right _ _ (by simp)]
      simp
    rw [e3, e4]
    have := ih (n / 256) ([n % 256] ++ acc) (by simp; omega) (by omega) (by omega)
    simpa [fixedL] using this
theorem impl_Fixed_ev (n w : Int) (hn : n ≤ 9223372036854775807) : Ev (fun k => impl_Fixed.f k n w) (fixedV n w) := by
  refine Ev_bindp (within_eq _ _ _) ?_
  unfold fixedV
  by_cases h : 1 ≤ w ∧ w ≤ 7
  · obtain ⟨m, rfl⟩ := Int.eq_ofNat_of_zero_le (show 0 ≤ w by omega)
    refine Ev_pos (decide_eq_true h) ?_
    by_cases h' : n < 0
    · rw [if_neg (fun x => by omega)]
      exact Ev_pos h' (Ev.step (fun k => impl_Fixed.j0.eq_2 _ _ _ k) (Ev_pos rfl (Ev.now _)))
    · have e1 : wrap64 (8 * (m : Int)) = 8 * (m : Int) := w64 (by omega) (by omega)
      have e2 : shr .i64 n (8 * (m : Int)) = n / ((256 ^ m : Nat) : Int) := by
        unfold shr
        have e3 : min (8 * (m : Int)).toNat (IntKind.bits .i64) = 8 * m := by
          show min (8 * (m : Int)).toNat 64 = 8 * m
          omega
        rw [e3, Int.pow_mul]
        simp
      have hp : (0 : Int) < ((256 ^ m : Nat) : Int) := by exact_mod_cast Nat.pow_pos (n := m) (show 0 < 256 by decide)
      refine Ev_neg h' ?_
      rw [e1, e2]
      refine Ev_pos (by omega) (Ev.step (fun k => impl_Fixed.j0.eq_2 _ _ _ k) ?_)
      by_cases hlt : n < ((256 ^ m : Nat) : Int)
      · rw [Int.toNat_natCast, if_pos ⟨h, by omega, hlt⟩]
        have e5 : n / ((256 ^ m : Nat) : Int) = 0 := Int.ediv_eq_zero_of_lt (by omega) hlt
        refine Ev_neg (by rw [e5]; decide) (Ev_pos (by omega) (Ev_pos (by omega) ?_))
        have := impl_fixed_l m n [] (by simp; omega) (by omega) hn
        rw [w64 (n := (m : Int) - 1) (by omega) (by omega)]
        simpa using this
      · rw [Int.toNat_natCast, if_neg (fun x => hlt x.2.2)]
        have e5 : n / ((256 ^ m : Nat) : Int) ≠ 0 := by
          intro e
          have h1 := Int.emod_def n ((256 ^ m : Nat) : Int)
          have h2 := Int.emod_lt_of_pos n hp
          rw [e, Int.mul_zero] at h1
          omega
        exact Ev_pos (by simpa using e5) (Ev.now _)
  · rw [if_neg (fun x => h x.1)]
    exact Ev_neg (by simpa using h) (Ev.step (fun k => impl_Fixed.j0.eq_2 _ _ _ k) (Ev_pos rfl (Ev.now _)))

theorem fixedV_at (n : Int) (w : Nat) (hw : 1 ≤ w ∧ w ≤ 4) : fixedV n (w : Int) = if 0 ≤ n ∧ n < ((256 ^ w : Nat) : Int) then strOfNums (fixedL w n) else ⟨#[]⟩ := by
  unfold fixedV
  rw [Int.toNat_natCast]
  by_cases h : 0 ≤ n ∧ n < ((256 ^ w : Nat) : Int)
  · rw [if_pos h, if_pos ⟨by omega, h⟩]
  · rw [if_neg h, if_neg (fun x => h x.2)]
theorem empty_toList : (⟨#[]⟩ : ByteArray).toList = ([] : List UInt8) := by rw [ByteArray.toList_eq]
theorem strOf_ne (w : Nat) (n : Int) (hw : 1 ≤ w) : ¬ (strOfNums (fixedL w n)).toList = ([] : List UInt8) := by
  intro e
  have := congrArg List.length e
  rw [ByteArray.toList_eq, strOfNums_data] at this
  simp [fixedL_length] at this
  omega
/-- One width: the number fits and is a key of it, or the next width is tried. -/
theorem impl_unpack_round (n : Int) (hn : n ≤ 9223372036854775807) (w : Nat) (hw : 1 ≤ w ∧ w ≤ 4) (r : ByteArray × Bool)
    (hyes : (0 < n ∧ n < ((256 ^ w : Nat) : Int)) → keyOkL (fixedL w n) = true → r = (strOfNums (fixedL w n), true))
    (hno : ¬ ((0 < n ∧ n < ((256 ^ w : Nat) : Int)) ∧ keyOkL (fixedL w n) = true) → Ev (fun k => impl_UnpackKey.l0 k n ((w + 1 : Nat) : Int)) r) :
    Ev (fun k => impl_UnpackKey.l0 k n (w : Int)) r := by
  have e1 : wrap64 ((w : Int) + 1) = ((w + 1 : Nat) : Int) := by rw [w64 (by omega) (by omega)]; omega
  refine Ev.step (fun k => impl_UnpackKey.l0.eq_2 _ _ k) (Ev_pos (by omega) (Ev.bind (impl_Fixed_ev n w hn) ?_))
  rw [fixedV_at n w hw, e1]
  by_cases h : 0 ≤ n ∧ n < ((256 ^ w : Nat) : Int)
  · rw [if_pos h]
    refine Ev_neg (strOf_ne w n hw.1) (Ev.bind (impl_PackKey_ev _ (by rw [strOf_size]; omega)) ?_)
    by_cases hk : keyOkL (fixedL w n) = true
    · have hp := pack_fixed w n h.1 h.2 (by rw [keyOk_fixed]; exact hk)
      refine Ev_pos hp ?_
      by_cases hz : n > 0
      · exact Ev_pos hz (Ev_is (by rw [hyes ⟨hz, h.2⟩ hk]))
      · exact Ev_neg hz (hno (fun x => hz x.1.1))
    · have hp : packV (strOfNums (fixedL w n)) = 0 := by unfold packV; rw [keyOk_fixed, if_neg hk]
      rw [hp]
      by_cases hz : 0 = n
      · exact Ev_pos hz (Ev_neg (by omega) (hno (fun x => hk x.2)))
      · exact Ev_neg hz (hno (fun x => hk x.2))
  · rw [if_neg h]
    exact Ev_pos empty_toList (hno (fun x => h ⟨by omega, x.1.2⟩))
theorem keyOkL_zero (l : List Int) : keyOkL (0 :: l) = false := by simp [keyOkL, kb]
theorem fixedL_cons : ∀ (w : Nat) (n : Int), 0 ≤ n → n < ((256 ^ w : Nat) : Int) → fixedL (w + 1) n = 0 :: fixedL w n
  | 0, n, h0, h1 => by
    have : n = 0 := by simp at h1; omega
    subst this; rfl
  | w + 1, n, h0, h1 => by
    have ih := fixedL_cons w (n / 256) (by omega) (by rw [Nat.pow_succ] at h1; omega)
    show fixedL (w + 1) (n / 256) ++ [n % 256] = 0 :: (fixedL w (n / 256) ++ [n % 256])
    rw [ih]; rfl
theorem unpack_small (n : Int) (w : Nat) (h0 : 0 ≤ n) (h1 : n < ((256 ^ w : Nat) : Int)) : ¬ keyOkL (fixedL (w + 1) n) = true := by
  rw [fixedL_cons w n h0 h1, keyOkL_zero]; simp
theorem unpackV_is (n : Int) (w : Nat) (hw : widthV n = w) (h : 1 ≤ n ∧ n ≤ 4294967295) : unpackV n = if keyOkL (fixedL w n) = true then (strOfNums (fixedL w n), true) else (⟨#[]⟩, false) := by
  unfold unpackV keyOf
  rw [hw, keyOk_fixed]
  by_cases hk : keyOkL (fixedL w n) = true
  · rw [if_pos hk, if_pos ⟨h, hk⟩]
  · rw [if_neg hk, if_neg (fun x => hk x.2)]
theorem unpackV_out (n : Int) (h : ¬ (1 ≤ n ∧ n ≤ 4294967295)) : unpackV n = (⟨#[]⟩, false) := by unfold unpackV; rw [if_neg (fun x => h x.1)]
theorem impl_UnpackKey_ev (n : Int) (hn : n ≤ 9223372036854775807) : Ev (fun k => impl_UnpackKey.f k n) (unpackV n) := by
  have p1 : ((256 ^ 1 : Nat) : Int) = 256 := by simp
  have p2 : ((256 ^ 2 : Nat) : Int) = 65536 := by simp
  have p3 : ((256 ^ 3 : Nat) : Int) = 16777216 := by simp
  have p4 : ((256 ^ 4 : Nat) : Int) = 4294967296 := by simp
  have w1 : 1 ≤ n → n < 256 → widthV n = 1 := fun _ h => by unfold widthV; rw [if_pos h]
  have w2 : 256 ≤ n → n < 65536 → widthV n = 2 := fun h0 h => by unfold widthV; rw [if_neg (by omega), if_pos h]
  have w3 : 65536 ≤ n → n < 16777216 → widthV n = 3 := fun h0 h => by unfold widthV; rw [if_neg (by omega), if_neg (by omega), if_pos h]
  have w4 : 16777216 ≤ n → widthV n = 4 := fun h0 => by unfold widthV; rw [if_neg (by omega), if_neg (by omega), if_neg (by omega)]
  have yes : ∀ w : Nat, widthV n = w → 1 ≤ n → n ≤ 4294967295 → keyOkL (fixedL w n) = true → unpackV n = (strOfNums (fixedL w n), true) := fun w hw h1 h2 hk => by
    rw [unpackV_is n w hw ⟨h1, h2⟩, if_pos hk]
  refine impl_unpack_round n hn 1 (by omega) _ ?_ fun n1 => ?_
  · rintro ⟨a, b⟩ hk
    exact yes 1 (w1 (by omega) (by omega)) (by omega) (by omega) hk
  refine impl_unpack_round n hn 2 (by omega) _ ?_ fun n2 => ?_
  · rintro ⟨a, b⟩ hk
    rcases Int.lt_or_le n 256 with c | c
    · exact absurd hk (unpack_small n 1 (by omega) (by omega))
    · exact yes 2 (w2 (by omega) (by omega)) (by omega) (by omega) hk
  refine impl_unpack_round n hn 3 (by omega) _ ?_ fun n3 => ?_
  · rintro ⟨a, b⟩ hk
    rcases Int.lt_or_le n 65536 with c | c
    · exact absurd hk (unpack_small n 2 (by omega) (by omega))
    · exact yes 3 (w3 (by omega) (by omega)) (by omega) (by omega) hk
  refine impl_unpack_round n hn 4 (by omega) _ ?_ fun n4 => ?_
  · rintro ⟨a, b⟩ hk
    rcases Int.lt_or_le n 16777216 with c | c
    · exact absurd hk (unpack_small n 3 (by omega) (by omega))
    · exact yes 4 (w4 (by omega)) (by omega) (by omega) hk
  refine Ev.step (fun k => impl_UnpackKey.l0.eq_2 _ _ k) (Ev_neg (by omega) (Ev_is ?_))
  congr 1
  by_cases h : 1 ≤ n ∧ n ≤ 4294967295
  · have key : ∀ w : Nat, widthV n = w → ¬ ((0 < n ∧ n < ((256 ^ w : Nat) : Int)) ∧ keyOkL (fixedL w n) = true) → n < ((256 ^ w : Nat) : Int) → ((⟨#[]⟩, false) : ByteArray × Bool) = unpackV n := fun w hw hno hlt => by
      rw [unpackV_is n w hw h, if_neg (fun hk => hno ⟨⟨by omega, hlt⟩, hk⟩)]
    rcases Int.lt_or_le n 256 with c | c
    · exact key 1 (w1 h.1 c) n1 (by omega)
    rcases Int.lt_or_le n 65536 with c2 | c2
    · exact key 2 (w2 c c2) n2 (by omega)
    rcases Int.lt_or_le n 16777216 with c3 | c3
    · exact key 3 (w3 c2 c3) n3 (by omega)
    · exact key 4 (w4 c3) n4 (by omega)
  · exact (unpackV_out n h).symm

theorem width_fits (n : Int) (h0 : 1 ≤ n) (h1 : n ≤ 4294967295) : n < ((256 ^ widthV n : Nat) : Int) := by
  unfold widthV
  split
  · simp; omega
  split
  · simp; omega
  split
  · simp; omega
  · simp; omega
theorem unpackV_true (n : Int) (h : (unpackV n).2 = true) : (1 ≤ n ∧ n ≤ 4294967295) ∧ keyOkV (unpackV n).1 = true ∧ packV (unpackV n).1 = n := by
  unfold unpackV at h ⊢
  split at h
  · rename_i hh
    rw [if_pos hh]
    exact ⟨hh.1, hh.2, pack_fixed _ n (by omega) (width_fits n hh.1.1 hh.1.2) hh.2⟩
  · cases h
theorem unpackV_false (n : Int) (h : ¬ (unpackV n).2 = true) : unpackV n = (⟨#[]⟩, false) := by
  unfold unpackV at h ⊢
  split
  · rename_i hh
    rw [if_pos hh] at h
    exact absurd rfl h
  · rfl

theorem key_bytes (s : ByteArray) (h : keyOkV s = true) : ∀ x ∈ bytesOf s, 48 ≤ x ∧ x ≤ 122 := by
  rw [keyOkV_list] at h
  unfold keyOkL at h
  simp only [Bool.and_eq_true, List.all_eq_true] at h
  intro x hx
  have := h.2 x hx
  unfold kb at this
  have := of_decide_eq_true this
  omega
theorem list_back : ∀ l : List Int, 1 ≤ l.length → l.length ≤ 4 → (∀ x ∈ l, 48 ≤ x ∧ x ≤ 122) → widthV (hv l 0) = l.length ∧ fixedL l.length (hv l 0) = l ∧ 1 ≤ hv l 0 ∧ hv l 0 ≤ 4294967295
  | [], h, _, _ => by simp at h
  | [a], _, _, h => by
    have ha := h a (by simp)
    have e : hv [a] 0 = a := by simp only [hv]; omega
    rw [e]
    refine ⟨by unfold widthV; rw [if_pos (by omega)]; rfl, ?_, by omega, by omega⟩
    simp only [List.length_cons, List.length_nil, fixedL, List.nil_append]
    congr 1; omega
  | [a, b], _, _, h => by
    have ha := h a (by simp)
    have hb := h b (by simp)
    have e : hv [a, b] 0 = a * 256 + b := by simp only [hv]; omega
    rw [e]
    refine ⟨by unfold widthV; rw [if_neg (by omega), if_pos (by omega)]; rfl, ?_, by omega, by omega⟩
    simp only [List.length_cons, List.length_nil, fixedL, List.nil_append, List.cons_append]
    congr 1
    · omega
    · congr 1; omega
  | [a, b, c], _, _, h => by
    have ha := h a (by simp)
    have hb := h b (by simp)
    have hc := h c (by simp)
    have e : hv [a, b, c] 0 = (a * 256 + b) * 256 + c := by simp only [hv]; omega
    rw [e]
    refine ⟨by unfold widthV; rw [if_neg (by omega), if_neg (by omega), if_pos (by omega)]; rfl, ?_, by omega, by omega⟩
    simp only [List.length_cons, List.length_nil, fixedL, List.nil_append, List.cons_append]
    congr 1
    · omega
    · congr 1
      · omega
      · congr 1; omega
  | [a, b, c, d], _, _, h => by
    have ha := h a (by simp)
    have hb := h b (by simp)
    have hc := h c (by simp)
    have hd := h d (by simp)
    have e : hv [a, b, c, d] 0 = ((a * 256 + b) * 256 + c) * 256 + d := by simp only [hv]; omega
    rw [e]
    refine ⟨by unfold widthV; rw [if_neg (by omega), if_neg (by omega), if_neg (by omega)]; rfl, ?_, by omega, by omega⟩
    simp only [List.length_cons, List.length_nil, fixedL, List.nil_append, List.cons_append]
    congr 1
    · omega
    · congr 1
      · omega
      · congr 1
        · omega
        · congr 1; omega
  | a :: b :: c :: d :: e :: l, _, h, _ => absurd h (by simp only [List.length_cons]; omega)
theorem pack_key (s : ByteArray) (h : keyOkV s = true) : unpackV (packV s) = (s, true) ∧ 1 ≤ packV s := by
  have hz := keyOkV_size s h
  have hb := list_back (bytesOf s) (by rw [bytesOf_length]; omega) (by rw [bytesOf_length]; omega) (key_bytes s h)
  have e : packV s = hv (bytesOf s) 0 := by unfold packV; rw [if_pos h, rfV_size]
  have ek : keyOf (packV s) = s := by
    unfold keyOf
    rw [e, hb.1, hb.2.1, strOf_bytesOf]
  refine ⟨?_, by rw [e]; exact hb.2.2.1⟩
  unfold unpackV
  rw [ek, if_pos ⟨by rw [e]; exact ⟨hb.2.2.1, hb.2.2.2⟩, h⟩]
theorem pack_nokey (s : ByteArray) (h : ¬ keyOkV s = true) : packV s = 0 := by unfold packV; rw [if_neg h]

theorem i64_xor_nat (a b : Nat) (ha : a < 4294967296) (hb : b < 4294967296) : Go.bits .xor .i64 (a : Int) (b : Int) = ((a ^^^ b : Nat) : Int) := by
  have hx : a ^^^ b < 2 ^ 32 := Nat.xor_lt_two_pow (by omega) (by omega)
  show IntKind.i64.wrap ((BitVec.ofInt 64 (a : Int) ^^^ BitVec.ofInt 64 (b : Int)).toNat : Int) = _
  rw [BitVec.toNat_xor, BitVec.ofInt_natCast, BitVec.ofInt_natCast, BitVec.toNat_ofNat, BitVec.toNat_ofNat, Nat.mod_eq_of_lt (show a < 2 ^ 64 by omega), Nat.mod_eq_of_lt (show b < 2 ^ 64 by omega), IntKind.wrap_i64]
  omega
theorem u32_xor_nat' (a b : Nat) (ha : a < 4294967296) (hb : b < 4294967296) : Go.bits .xor .u32 (a : Int) (b : Int) = ((a ^^^ b : Nat) : Int) := by
  have hx : a ^^^ b < 2 ^ 32 := Nat.xor_lt_two_pow (by omega) (by omega)
  show IntKind.u32.wrap ((BitVec.ofInt 32 (a : Int) ^^^ BitVec.ofInt 32 (b : Int)).toNat : Int) = _
  rw [BitVec.toNat_xor, BitVec.ofInt_natCast, BitVec.ofInt_natCast, BitVec.toNat_ofNat, BitVec.toNat_ofNat, Nat.mod_eq_of_lt (show a < 2 ^ 32 by omega), Nat.mod_eq_of_lt (show b < 2 ^ 32 by omega), IntKind.wrap_u32]
  omega
/-- The hash behind n bytes. -/
def hashV (s : ByteArray) : Nat → Int
  | 0 => 2166136261
  | n + 1 => (((hashV s n).toNat ^^^ (bt s n).toNat : Nat) : Int) * 16777619 % 4294967296
theorem hashV_range (s : ByteArray) (n : Nat) : 0 ≤ hashV s n ∧ hashV s n < 4294967296 := by
  cases n with
  | zero => simp [hashV]
  | succ n => simp only [hashV]; omega
theorem hash_xor (s : ByteArray) (n : Nat) : ((hashV s n).toNat ^^^ (bt s n).toNat : Nat) < 4294967296 := by
  have h := hashV_range s n
  have b := bt_range s n
  exact Nat.xor_lt_two_pow (n := 32) (by omega) (by omega)

def probeV (s : ByteArray) (n : Int) : Int := if keyOkV s = true ∧ 0 ≤ n ∧ n ≤ 3 then (hashV s s.size + n) % 4 else -1

theorem impl_hash_l (s : ByteArray) (hs : s.size ≤ 140737488351232) : ∀ (d i : Nat), i + d = s.size → Ev (fun k => impl_HashKey.l0 k s (hashV s i) (s.size : Int) (i : Int)) (hashV s s.size) := by
  intro d
  induction d with
  | zero =>
    intro i hi
    refine Ev.step (fun k => impl_HashKey.l0.eq_2 _ _ _ _ k) (Ev_neg (by omega) ?_)
    obtain rfl : i = s.size := by omega
    have h := hashV_range s s.size
    exact Ev_is (by rw [w64 (by omega) (by omega)])
  | succ d ih =>
    intro i hi
    refine Ev.step (fun k => impl_HashKey.l0.eq_2 _ _ _ _ k) (Ev_pos (by omega) (Ev_pos (by omega) (Ev_pos (by omega) ?_)))
    have h := hashV_range s i
    have b := bt_range s i
    have x := hash_xor s i
    have e1 : bt s (i : Int) % 4294967296 = (((bt s i).toNat : Nat) : Int) := by omega
    have e2 : hashV s i = (((hashV s i).toNat : Nat) : Int) := by omega
    have e3 : wrap64 ((i : Int) + 1) = ((i + 1 : Nat) : Int) := by rw [w64 (by omega) (by omega)]; omega
    have e4 : ((Go.bits .xor .u32 (hashV s i) ((bt s (i : Int)) % 4294967296)) * 16777619) % 4294967296 = hashV s (i + 1) := by
      rw [e1, e2, u32_xor_nat' _ _ (by omega) (by omega)]
      rfl
    rw [e3, e4]
    exact ih (i + 1) (by omega)
theorem impl_HashKey_ev (s : ByteArray) (hs : s.size ≤ 140737488351232) : Ev (fun k => impl_HashKey.f k s) (hashV s s.size) := impl_hash_l s hs s.size 0 (by omega)

theorem impl_Probe_ev (s : ByteArray) (n : Int) (hs : s.size ≤ 140737488351232) : Ev (fun k => impl_Probe.f k s n) (probeV s n) := by
  refine Ev.bind (impl_KeyOk_ev s hs) ?_
  unfold probeV
  by_cases h : keyOkV s = true
  · refine Ev_pos h (Ev_bindp (within_eq _ _ _) ?_)
    by_cases h' : 0 ≤ n ∧ n ≤ 3
    · rw [if_pos ⟨h, h'⟩]
      refine Ev_pos (decide_eq_true h') (Ev.bind (impl_HashKey_ev s hs) (Ev_is ?_))
      have hh := hashV_range s s.size
      rw [w64 (by omega) (by omega), Int.tmod_eq_emod_of_nonneg (by omega)]
    · rw [if_neg (fun x => h' x.2)]
      exact Ev_neg (by simpa using h') (Ev.now _)
  · rw [if_neg (fun x => h x.1)]
    exact Ev_neg h (Ev.now _)

theorem spec_hash_l (s : ByteArray) (hs : s.size ≤ 140737488351232) : ∀ (d i : Nat), i + d = s.size → Ev (fun k => spec_HashKey.l0 k s (hashV s i) (i : Int)) (hashV s s.size) := by
  intro d
  induction d with
  | zero =>
    intro i hi
    refine Ev.step (fun k => spec_HashKey.l0.eq_2 _ _ _ k) (Ev_neg (by omega) ?_)
    obtain rfl : i = s.size := by omega
    exact Ev.now _
  | succ d ih =>
    intro i hi
    refine Ev.step (fun k => spec_HashKey.l0.eq_2 _ _ _ k) (Ev_pos (by omega) (Ev_pos (by omega) ?_))
    have h := hashV_range s i
    have b := bt_range s i
    have x := hash_xor s i
    have e1 : wrap64 (bt s (i : Int)) = (((bt s i).toNat : Nat) : Int) := by rw [w64 (by omega) (by omega)]; omega
    have e2 : hashV s i = (((hashV s i).toNat : Nat) : Int) := by omega
    have e3 : wrap64 ((i : Int) + 1) = ((i + 1 : Nat) : Int) := by rw [w64 (by omega) (by omega)]; omega
    have e4 : Int.tmod (wrap64 ((Go.bits .xor .i64 (hashV s i) (wrap64 (bt s (i : Int)))) * 16777619)) 4294967296 = hashV s (i + 1) := by
      rw [e1, e2, i64_xor_nat _ _ (by omega) (by omega), w64 (by omega) (by omega), Int.tmod_eq_emod_of_nonneg (by omega)]
      rfl
    rw [e3, e4]
    exact ih (i + 1) (by omega)
theorem spec_HashKey_ev (s : ByteArray) (hs : s.size ≤ 140737488351232) : Ev (fun k => spec_HashKey.f k s) (hashV s s.size) := spec_hash_l s hs s.size 0 (by omega)

def seenV (s : ByteArray) : Nat → List Int
  | 0 => []
  | n + 1 => seenV s n ++ [probeV s n]
theorem seenV_length (s : ByteArray) : ∀ n, (seenV s n).length = n
  | 0 => rfl
  | n + 1 => by simp [seenV, seenV_length s n]
theorem seenV_mem (s : ByteArray) (x : Int) : ∀ n, x ∈ seenV s n → ∃ i, i < n ∧ x = probeV s (i : Nat)
  | 0, h => by simp [seenV] at h
  | n + 1, h => by
    simp only [seenV, List.mem_append, List.mem_singleton] at h
    rcases h with h | h
    · obtain ⟨i, hi, e⟩ := seenV_mem s x n h
      exact ⟨i, by omega, e⟩
    · exact ⟨n, by omega, h⟩
theorem keys_l (s : ByteArray) (hs : s.size ≤ 5) : ∀ (d i : Nat), i + d = 4 → Ev (fun k => laws_FnKeys.l0 k s (keyOkV s) (seenV s i) (i : Int)) true := by
  intro d
  induction d with
  | zero =>
    intro i hi
    obtain rfl : i = 4 := by omega
    have hh := hashV_range s s.size
    refine Ev.step (fun k => laws_FnKeys.l0.eq_2 _ _ _ _ k) (Ev_neg (by omega) (Ev.bind (impl_HashKey_ev s (by omega)) (Ev_pos hh.1 (Ev_pos (by omega) (Ev.bind (spec_HashKey_ev s (by omega)) (Ev_pos rfl ?_))))))
    by_cases c : keyOkV s = true
    · refine Ev_pos c (Ev_pos (by rw [seenV_length]; omega) (Ev_is ?_))
      congr 1
      rw [beq_iff_eq]
      show probeV s (0 : Nat) = _
      unfold probeV
      rw [if_pos ⟨c, by omega, by omega⟩, Int.tmod_eq_emod_of_nonneg hh.1]
      omega
    · exact Ev_neg c (Ev.now _)
  | succ d ih =>
    intro i hi
    have hh := hashV_range s s.size
    have hlen := seenV_length s i
    have e3 : wrap64 ((i : Int) + 1) = ((i + 1 : Nat) : Int) := by rw [w64 (by omega) (by omega)]; omega
    refine Ev.step (fun k => laws_FnKeys.l0.eq_2 _ _ _ _ k) (Ev_pos (by omega) (Ev.bind (impl_Probe_ev s i (by omega)) ?_))
    rw [e3]
    by_cases c : keyOkV s = true
    · have ep : ∀ j : Nat, j < 4 → probeV s (j : Nat) = (hashV s s.size + j) % 4 := fun j hj => by
        unfold probeV; rw [if_pos ⟨c, by omega, by omega⟩]
      have ei := ep i (by omega)
      refine Ev_pos (by omega) (Ev_neg (by rw [c]; simp; omega) (Ev_pos c (Ev.bind (has_ev _ (by omega) _) (Ev_neg ?_ (Ev_pos (by omega) ?_)))))
      · rw [List.contains_iff_mem]
        intro hm
        obtain ⟨j, hj, e⟩ := seenV_mem s _ i hm
        rw [ei, ep j (by omega)] at e
        omega
      · exact ih (i + 1) (by omega)
    · have ep : probeV s (i : Nat) = -1 := by unfold probeV; rw [if_neg (fun x => c x.1)]
      refine Ev_neg (by rw [ep]; omega) (Ev_neg (by simpa using c) (Ev_neg c (Ev_pos (by omega) ?_)))
      exact ih (i + 1) (by omega)
theorem FnKeys : laws_FnKeys.Pure := by
  intro l hm h1 hw
  refine Ev.rounds (r := true) ?_
  refine Ev_bindp (a := decide ((l.length : Int) > 1048576)) rfl ?_
  by_cases h : (l.length : Int) > 1048576
  · exact Ev_pos (decide_eq_true h) (Ev.now _)
  have hl : l.length ≤ 1048576 := by omega
  refine Ev_neg (by simpa using h) ?_
  obtain ⟨s, hs, es⟩ := DrawPackKey_ev l hl
  obtain ⟨m, hm', em⟩ := DrawUnpackKey_ev l hl
  have hp := packV_range s
  refine Ev.bind es (Ev.bind (impl_PackKey_ev s (by omega)) (Ev.bind (impl_UnpackKey_ev _ (by omega)) (Ev.bind (spec_KeyOk_ev s (by omega)) ?_)))
  have hj1 : Ev (fun k => laws_FnKeys.j1 k s (keyOkV s) false) true := Ev.step (fun k => laws_FnKeys.j1.eq_2 _ _ _ k) (Ev_neg (by decide) (keys_l s hs 4 0 (by omega)))
  have hj0 : Ev (fun k => laws_FnKeys.j0 k l s (keyOkV s) false) true := by
    refine Ev.step (fun k => laws_FnKeys.j0.eq_2 _ _ _ _ k) (Ev_neg (by decide) (Ev.bind em (Ev.bind (impl_UnpackKey_ev m hm') ?_)))
    by_cases hu : (unpackV m).2 = true
    · have hf := unpackV_true m hu
      have hz := (keyOkV_size _ hf.2.1).2
      refine Ev_pos hu (Ev.bind (impl_PackKey_ev _ (by omega)) ?_)
      rw [hf.2.2, show (m != m) = false by simp]
      exact hj1
    · exact Ev_neg hu hj1
  by_cases c : keyOkV s = true
  · have hk := pack_key s c
    rw [hk.1]
    have e : keyOkV s = true := c
    refine Ev_neg (by rw [c]; simp; omega) (Ev.bind (spec_KeyOk_ev s (by omega)) (Ev_neg (by rw [c]; simp) (Ev_pos rfl ?_)))
    rw [show (s.toList != s.toList) = false by simp]
    rw [c] at hj0
    exact hj0
  · have hk := pack_nokey s c
    have hf : keyOkV s = false := by simpa using c
    rw [hk, unpackV_out 0 (by omega)]
    refine Ev_neg (by rw [hf]; simp) (Ev.bind (spec_KeyOk_ev s (by omega)) (Ev_neg (by rw [hf]; simp) (Ev_neg (by simp) ?_)))
    rw [← hf]
    rw [hf] at hj0 ⊢
    exact hj0

end Go.Proofs.Ytilhmohfneeglaa.Pure
