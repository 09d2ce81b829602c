/- What is proved here: the Go law FnExactTagged answers true for every input, over the functions that print.sh printed; no condition. -/
import Derived.Test.YtilhmohfneeglaaPFnExactTaggedx3
set_option linter.unusedVariables false
set_option linter.unusedSimpArgs false
namespace Go.Proofs.Ytilhmohfneeglaa.Pure
open Go.RowKit Go.Proofs.Ytilhmohfneeglaa.PFnExactTagged Go.Proofs.YtilhmohfneeglaaW.PrintWords Go.Proofs.YtilhmohfneeglaaW.PrintLast

theorem Ev_pos {α : Type} {c : Prop} [Decidable c] {a b : Nat → Option α} {r : α} (h : c) (e : Ev a r) : Ev (fun k => if c then a k else b k) r :=
  Ev.congr (fun k => if_pos h) e
theorem Ev_neg {α : Type} {c : Prop} [Decidable c] {a b : Nat → Option α} {r : α} (h : ¬ c) (e : Ev b r) : Ev (fun k => if c then a k else b k) r :=
  Ev.congr (fun k => if_neg h) e
theorem Ev_bindp {α β : Type} {x : Option α} {f : Nat → α → Option β} {a : α} {r : β} (h : x = some a) (e : Ev (fun n => f n a) r) : Ev (fun n => x.bind (f n)) r := by
  subst h
  exact e
theorem Ev_is {α : Type} {x : Option α} {r : α} (h : x = some r) : Ev (fun _ => x) r := ⟨0, fun _ _ => h⟩

theorem w64 {n : Int} (h0 : -9223372036854775808 ≤ n) (h1 : n ≤ 9223372036854775807) : wrap64 n = n := by
  unfold wrap64
  omega

/-- May a byte stand in a key? -/
def kb (c : Int) : Bool := decide ((97 ≤ c ∧ c ≤ 122) ∨ (65 ≤ c ∧ c ≤ 90) ∨ (48 ≤ c ∧ c ≤ 57) ∨ c = 95)
def keyOkV (s : ByteArray) : Bool := decide (1 ≤ s.size ∧ s.size ≤ 4 ∧ ∀ j, j < s.size → kb (bt s (j : Nat)) = true)

/-- The number of the first n bytes, most significant first. -/
def rfV (s : ByteArray) : Nat → Int
  | 0 => 0
  | n + 1 => rfV s n * 256 + bt s n
theorem rfV_lt (s : ByteArray) : ∀ n, 0 ≤ rfV s n ∧ rfV s n < ((256 ^ n : Nat) : Int)
  | 0 => by simp [rfV]
  | n + 1 => by
    have ih := rfV_lt s n
    have b := bt_range s n
    simp only [rfV, Nat.pow_succ]
    omega
theorem rfV_le (s : ByteArray) (n m : Nat) (h : n ≤ m) : 0 ≤ rfV s n ∧ rfV s n < ((256 ^ m : Nat) : Int) := by
  have ih := rfV_lt s n
  have hp : 256 ^ n ≤ 256 ^ m := Nat.pow_le_pow_right (by decide) h
  omega
theorem wraps_i64 (n : Int) (h₀ : 0 ≤ n) (h₁ : n < 2 ^ 63) : IntKind.i64.wrap n = n := by rw [IntKind.wrap_i64]; omega

/-- The last w bytes of n, most significant first. -/
def fixedL : Nat → Int → List Int
  | 0, _ => []
  | w + 1, n => fixedL w (n / 256) ++ [n % 256]
theorem fixedL_length : ∀ w n, (fixedL w n).length = w
  | 0, _ => rfl
  | w + 1, n => by simp [fixedL, fixedL_length w]
def fixedV (n w : Int) : ByteArray := if (1 ≤ w ∧ w ≤ 7) ∧ 0 ≤ n ∧ n < ((256 ^ w.toNat : Nat) : Int) then strOfNums (fixedL w.toNat n) else ⟨#[]⟩
theorem strOfNums_append' (a b : List Int) : strOfNums a ++ strOfNums b = strOfNums (a ++ b) := by
  apply ByteArray.ext
  unfold strOfNums
  simp [ByteArray.data_append]

theorem bytesOf_range (s : ByteArray) : ∀ x ∈ bytesOf s, 0 ≤ x ∧ x ≤ 255 := by
  intro x hx
  unfold bytesOf at hx
  obtain ⟨b, _, rfl⟩ := List.mem_map.1 hx
  have := b.toNat_lt
  omega
theorem nums_back (l : List UInt8) (xs : List Int) (h : ∀ x ∈ xs, 0 ≤ x ∧ x ≤ 255) : (xs.map fun n => UInt8.ofNat n.toNat) = l ↔ xs = l.map fun b => (b.toNat : Int) := by
  constructor
  · intro e
    rw [← e, List.map_map]
    symm
    conv => rhs; rw [← List.map_id xs]
    apply List.map_congr_left
    intro x hx
    have := h x hx
    simp only [Function.comp, UInt8.toNat_ofNat', id]
    omega
  · intro e
    rw [e, List.map_map]
    conv => rhs; rw [← List.map_id l]
    apply List.map_congr_left
    intro b _
    simp
theorem same_take (s : ByteArray) (xs : List Int) (h : ∀ x ∈ xs, 0 ≤ x ∧ x ≤ 255) (k : Nat) : (strOfNums xs).toList = (s.extract 0 k).toList ↔ xs = (bytesOf s).take k := by
  rw [ByteArray.toList_eq, ByteArray.toList_eq]
  have e : (s.extract 0 k).data.toList = s.data.toList.take k := by simp
  rw [e, strOfNums_data, nums_back _ _ h]
  unfold bytesOf
  rw [List.map_take]
theorem take_at (s : ByteArray) (i : Nat) (h : i < s.size) : (bytesOf s).take (i + 1) = (bytesOf s).take i ++ [bt s i] := by
  have hl : i < (bytesOf s).length := by rw [bytesOf_length]; exact h
  rw [List.take_succ_eq_append_getElem hl, ← rd_bytesOf]
  congr 2
  simp [rd, List.getD_eq_getElem?_getD, List.getElem?_eq_getElem hl]

/-- The number of a list of bytes, most significant first. -/
def hv : List Int → Int → Int
  | [], a => a
  | b :: l, a => hv l (a * 256 + b)
theorem hv_snoc (c : Int) : ∀ (l : List Int) (a : Int), hv (l ++ [c]) a = hv l a * 256 + c
  | [], a => rfl
  | b :: l, a => by simp only [List.cons_append, hv]; exact hv_snoc c l _
theorem rfV_hv (s : ByteArray) : ∀ n, n ≤ s.size → rfV s n = hv ((bytesOf s).take n) 0
  | 0, _ => by simp [rfV, hv]
  | n + 1, h => by rw [take_at s n (by omega), hv_snoc, ← rfV_hv s n (by omega)]; rfl
theorem rfV_size (s : ByteArray) : rfV s s.size = hv (bytesOf s) 0 := by
  rw [rfV_hv s s.size (Nat.le_refl _), List.take_of_length_le (by rw [bytesOf_length]; exact Nat.le_refl _)]
theorem fixedL_range : ∀ (w : Nat) (n : Int), ∀ x ∈ fixedL w n, 0 ≤ x ∧ x ≤ 255
  | 0, n, x, hx => by simp [fixedL] at hx
  | w + 1, n, x, hx => by
    simp only [fixedL, List.mem_append, List.mem_singleton] at hx
    rcases hx with hx | hx
    · exact fixedL_range w _ x hx
    · omega
theorem hv_fixedL : ∀ (w : Nat) (n : Int), 0 ≤ n → n < ((256 ^ w : Nat) : Int) → hv (fixedL w n) 0 = n
  | 0, n, h0, h1 => by simp [fixedL, hv]; simp at h1; omega
  | w + 1, n, h0, h1 => by
    simp only [fixedL, hv_snoc]
    rw [hv_fixedL w (n / 256) (by omega) (by rw [Nat.pow_succ] at h1; omega)]
    omega
theorem bytesOf_strOf (xs : List Int) (h : ∀ x ∈ xs, 0 ≤ x ∧ x ≤ 255) : bytesOf (strOfNums xs) = xs := by
  unfold bytesOf
  exact ((nums_back _ xs h).1 (strOfNums_data xs).symm).symm
theorem strOf_bytesOf (s : ByteArray) : strOfNums (bytesOf s) = s := by
  apply ByteArray.ext
  apply Array.toList_inj.1
  rw [strOfNums_data, nums_back _ _ (bytesOf_range s)]
  rfl
def keyOkL (l : List Int) : Bool := decide (1 ≤ l.length ∧ l.length ≤ 4) && l.all kb
theorem keyOkV_list (s : ByteArray) : keyOkV s = keyOkL (bytesOf s) := by
  unfold keyOkV keyOkL
  rw [Bool.eq_iff_iff]
  simp only [decide_eq_true_eq, Bool.and_eq_true, List.all_eq_true, bytesOf_length]
  constructor
  · rintro ⟨h1, h2, h3⟩
    refine ⟨⟨h1, h2⟩, fun x hx => ?_⟩
    obtain ⟨i, hi, rfl⟩ := List.mem_iff_getElem.1 hx
    have hi' : i < s.size := by rw [bytesOf_length] at hi; exact hi
    have := h3 i hi'
    rw [← rd_bytesOf] at this
    simpa [rd, List.getD_eq_getElem?_getD, List.getElem?_eq_getElem hi] using this
  · rintro ⟨⟨h1, h2⟩, h3⟩
    refine ⟨h1, h2, fun j hj => ?_⟩
    have hi : j < (bytesOf s).length := by rw [bytesOf_length]; exact hj
    have := h3 _ (List.getElem_mem hi)
    rw [← rd_bytesOf]
    simpa [rd, List.getD_eq_getElem?_getD, List.getElem?_eq_getElem hi] using this
def packV (s : ByteArray) : Int := if keyOkV s = true then rfV s s.size else 0
theorem keyOkV_size (s : ByteArray) (h : keyOkV s = true) : 1 ≤ s.size ∧ s.size ≤ 4 := by
  unfold keyOkV at h
  have := of_decide_eq_true h
  exact ⟨this.1, this.2.1⟩
theorem packV_range (s : ByteArray) : 0 ≤ packV s ∧ packV s ≤ 4294967295 := by
  unfold packV
  split
  · rename_i h
    have hs := keyOkV_size s h
    have := rfV_le s s.size 4 hs.2
    omega
  · omega

def kwV (a : Int) : ByteArray := if a = 1 then ⟨#[99]⟩ else if a = 2 then ⟨#[103]⟩ else if a = 3 then ⟨#[109, 115]⟩ else ⟨#[]⟩
theorem impl_KindWord_eq (a : Int) : impl_KindWord.f a = some (kwV a) := by
  unfold impl_KindWord.f kwV
  by_cases h1 : a = 1
  · simp [h1]
  by_cases h2 : a = 2
  · simp [h2]
  by_cases h3 : a = 3
  · simp [h3]
  simp [h1, h2, h3]

def taggedV (s : ByteArray) (k : Int) : Int := if keyOkV s = true ∧ 1 ≤ k ∧ k ≤ 3 then 4 * packV s + k else 0
theorem toList_empty : (⟨#[]⟩ : ByteArray).toList = ([] : List UInt8) := by rw [ByteArray.toList_eq]
theorem kwV_empty (k : Int) : (kwV k).toList = ([] : List UInt8) ↔ ¬ (1 ≤ k ∧ k ≤ 3) := by
  unfold kwV
  by_cases h1 : k = 1
  · simp [h1, ByteArray.toList_eq]
  by_cases h2 : k = 2
  · simp [h2, ByteArray.toList_eq]
  by_cases h3 : k = 3
  · simp [h3, ByteArray.toList_eq]
  rw [if_neg h1, if_neg h2, if_neg h3]
  exact ⟨fun _ => by omega, fun _ => toList_empty⟩

theorem l1In_eq (a b c : Int) : spec_l1In.f a b c = some (decide (b ≤ a ∧ a ≤ c)) := by
  unfold spec_l1In.f
  by_cases h : b ≤ a <;> simp [h]

theorem l4Byte_eq (c : Int) : spec_l4Byte.f c = some (kb c) := by
  unfold spec_l4Byte.f
  simp only [l1In_eq, Option.bind_some]
  unfold kb
  by_cases h1 : 97 ≤ c ∧ c ≤ 122
  · simp [h1]
  by_cases h2 : 65 ≤ c ∧ c ≤ 90
  · simp [h1, h2]
  by_cases h3 : 48 ≤ c ∧ c ≤ 57
  · simp [h1, h2, h3]
  by_cases h4 : c = 95
  · subst h4; rfl
  · simp [h1, h2, h3, h4]
theorem spec_keyOk_l (s : ByteArray) (hs : s.size ≤ 140737488351232) : ∀ (d i : Nat), i + d = s.size → (∀ j, j < i → kb (bt s (j : Nat)) = true) → Ev (fun k => spec_KeyOk.l0 k s (i : Int)) (keyOkV s) := by
  intro d
  induction d with
  | zero =>
    intro i hi hk
    refine Ev.step (fun k => spec_KeyOk.l0.eq_2 _ _ k) (Ev_neg (by omega) (Ev_bindp (l1In_eq _ _ _) (Ev_is ?_)))
    obtain rfl : i = s.size := by omega
    have e : (1 ≤ (s.size : Int) ∧ (s.size : Int) ≤ 4) ↔ (1 ≤ s.size ∧ s.size ≤ 4 ∧ ∀ j, j < s.size → kb (bt s (j : Nat)) = true) := ⟨fun h => ⟨by omega, by omega, hk⟩, fun h => ⟨by omega, by omega⟩⟩
    unfold keyOkV
    rw [decide_eq_decide.2 e]
  | succ d ih =>
    intro i hi hk
    have b := bt_range s i
    refine Ev.step (fun k => spec_KeyOk.l0.eq_2 _ _ k) (Ev_pos (by omega) (Ev_pos (by omega) (Ev_bindp (l4Byte_eq _) ?_)))
    rw [w64 (n := bt s i) (by omega) (by omega), w64 (n := (i : Int) + 1) (by omega) (by omega)]
    by_cases h : kb (bt s i) = true
    · refine Ev_pos h ?_
      have e3 : ((i : Int) + 1) = ((i + 1 : Nat) : Int) := by omega
      rw [e3]
      refine ih (i + 1) (by omega) fun j hj => ?_
      rcases Nat.lt_or_ge j i with h' | h'
      · exact hk j h'
      · obtain rfl : j = i := by omega
        exact h
    · refine Ev_neg h (Ev_is ?_)
      unfold keyOkV
      congr 1
      symm
      exact decide_eq_false fun hh => h (hh.2.2 i (by omega))
theorem spec_KeyOk_ev (s : ByteArray) (hs : s.size ≤ 140737488351232) : Ev (fun k => spec_KeyOk.f k s) (keyOkV s) := spec_keyOk_l s hs s.size 0 (by omega) (fun j hj => by omega)

theorem spec_pack_l (s : ByteArray) (h4 : s.size ≤ 4) : ∀ (d i : Nat), i + d = s.size → Ev (fun k => spec_PackKey.l0 k s (rfV s i) (i : Int)) (rfV s s.size) := by
  intro d
  induction d with
  | zero =>
    intro i hi
    refine Ev.step (fun k => spec_PackKey.l0.eq_2 _ _ _ k) (Ev_neg (by omega) ?_)
    obtain rfl : i = s.size := by omega
    exact Ev.now _
  | succ d ih =>
    intro i hi
    refine Ev.step (fun k => spec_PackKey.l0.eq_2 _ _ _ k) (Ev_pos (by omega) (Ev_pos (by omega) ?_))
    have h := rfV_le s i 6 (by omega)
    have b := bt_range s i
    have e3 : wrap64 ((i : Int) + 1) = ((i + 1 : Nat) : Int) := by rw [w64 (by omega) (by omega)]; omega
    have e4 : wrap64 (wrap64 (rfV s i * 256) + wrap64 (bt s (i : Int))) = rfV s (i + 1) := by
      rw [w64 (n := rfV s i * 256) (by omega) (by omega), w64 (n := bt s (i : Int)) (by omega) (by omega), w64 (by omega) (by omega)]
      rfl
    rw [e3, e4]
    exact ih (i + 1) (by omega)
theorem spec_PackKey_ev (s : ByteArray) (hs : s.size ≤ 140737488351232) : Ev (fun k => spec_PackKey.f k s) (packV s) := by
  refine Ev.bind (spec_KeyOk_ev s hs) ?_
  unfold packV
  by_cases h : keyOkV s = true
  · rw [if_pos h]
    exact Ev_pos h (spec_pack_l s (keyOkV_size s h).2 s.size 0 (by omega))
  · rw [if_neg h]
    exact Ev_neg h (Ev.now _)

theorem spec_KindWord_eq (a : Int) : spec_KindWord.f a = some (kwV a) := by
  by_cases h1 : a = 1
  · subst h1; decide +kernel
  by_cases h2 : a = 2
  · subst h2; decide +kernel
  by_cases h3 : a = 3
  · subst h3; decide +kernel
  have h : ¬ (1 ≤ a ∧ a ≤ 3) := by omega
  unfold spec_KindWord.f kwV
  simp only [l1In_eq, Option.bind_some]
  simp [h, h1, h2, h3]

theorem spec_Tagged_ev (s : ByteArray) (k : Int) (hs : s.size ≤ 140737488351232) : Ev (fun q => spec_Tagged.f q s k) (taggedV s k) := by
  refine Ev.bind (spec_KeyOk_ev s hs) ?_
  unfold taggedV
  by_cases h : keyOkV s = true
  · refine Ev_pos h (Ev_bindp (spec_KindWord_eq k) ?_)
    by_cases hk : 1 ≤ k ∧ k ≤ 3
    · rw [if_pos ⟨h, hk⟩]
      refine Ev_neg (fun x => (kwV_empty k).1 x hk) (Ev.bind (spec_PackKey_ev s hs) (Ev_is ?_))
      have hp := packV_range s
      rw [w64 (n := packV s * 4) (by omega) (by omega), w64 (by omega) (by omega), Int.mul_comm]
    · rw [if_neg (fun x => hk x.2)]
      exact Ev_pos ((kwV_empty k).2 hk) (Ev.now _)
  · rw [if_neg (fun x => h x.1)]
    exact Ev_neg h (Ev.now _)

theorem within_eq (a b c : Int) : impl_within.f a b c = some (decide (b ≤ a ∧ a ≤ c)) := by
  unfold impl_within.f
  by_cases h : b ≤ a <;> simp [h]

theorem impl_keyOk_step (s : ByteArray) (i : Nat) (h1 : (i : Int) < (s.size : Int)) (k : Nat) : impl_KeyOk.l0 (k + 1) s (s.size : Int) (i : Int) = if kb (bt s i) = true then impl_KeyOk.l0 k s (s.size : Int) (wrap64 ((i : Int) + 1)) else some false := by
  simp only [impl_KeyOk.l0]
  rw [if_pos h1, if_pos (by omega), if_pos h1]
  unfold kb
  generalize bt s (i : Int) = c
  generalize impl_KeyOk.l0 k s (s.size : Int) (wrap64 ((i : Int) + 1)) = X
  by_cases a1 : 97 ≤ c <;> by_cases a2 : c ≤ 122 <;> by_cases a3 : 65 ≤ c <;> by_cases a4 : c ≤ 90 <;> by_cases a5 : 48 ≤ c <;> by_cases a6 : c ≤ 57 <;> by_cases a7 : c = 95 <;> first | (exfalso; omega) | simp [a1, a2, a3, a4, a5, a6, a7]
theorem impl_keyOk_l (s : ByteArray) (hs : s.size ≤ 140737488351232) : ∀ (d i : Nat), i + d = s.size → (∀ j, j < i → kb (bt s (j : Nat)) = true) → Ev (fun k => impl_KeyOk.l0 k s (s.size : Int) (i : Int)) (keyOkV s) := by
  intro d
  induction d with
  | zero =>
    intro i hi hk
    refine Ev.step (fun k => impl_KeyOk.l0.eq_2 _ _ _ k) (Ev_neg (by omega) (Ev_bindp (within_eq _ _ _) (Ev_is ?_)))
    obtain rfl : i = s.size := by omega
    have e : (1 ≤ (s.size : Int) ∧ (s.size : Int) ≤ 4) ↔ (1 ≤ s.size ∧ s.size ≤ 4 ∧ ∀ j, j < s.size → kb (bt s (j : Nat)) = true) := ⟨fun h => ⟨by omega, by omega, hk⟩, fun h => ⟨by omega, by omega⟩⟩
    unfold keyOkV
    rw [decide_eq_decide.2 e]
  | succ d ih =>
    intro i hi hk
    refine Ev.step (fun k => impl_keyOk_step s i (by omega) k) ?_
    rw [w64 (n := (i : Int) + 1) (by omega) (by omega)]
    by_cases h : kb (bt s i) = true
    · refine Ev_pos h ?_
      have e3 : ((i : Int) + 1) = ((i + 1 : Nat) : Int) := by omega
      rw [e3]
      refine ih (i + 1) (by omega) fun j hj => ?_
      rcases Nat.lt_or_ge j i with h' | h'
      · exact hk j h'
      · obtain rfl : j = i := by omega
        exact h
    · refine Ev_neg h (Ev_is ?_)
      unfold keyOkV
      congr 1
      symm
      exact decide_eq_false fun hh => h (hh.2.2 i (by omega))
theorem impl_KeyOk_ev (s : ByteArray) (hs : s.size ≤ 140737488351232) : Ev (fun k => impl_KeyOk.f k s) (keyOkV s) := impl_keyOk_l s hs s.size 0 (by omega) (fun j hj => by omega)

def readFixedV (s : ByteArray) (w : Int) : Int × Bool := if (1 ≤ w ∧ w ≤ 7) ∧ w ≤ s.size then (rfV s w.toNat, true) else (0, false)

theorem impl_rf_l (s : ByteArray) (w : Nat) (hw : w ≤ 7) (hs : w ≤ s.size) (hz : s.size ≤ 140737488351232) : ∀ (d i : Nat), i + d = w → Ev (fun k => impl_ReadFixed.l0 k s (rfV s i) (w : Int) (i : Int)) (rfV s w, true) := by
  intro d
  induction d with
  | zero =>
    intro i hi
    refine Ev.step (fun k => impl_ReadFixed.l0.eq_2 _ _ _ _ k) (Ev_neg (by omega) ?_)
    obtain rfl : i = w := by omega
    exact Ev.now _
  | succ d ih =>
    intro i hi
    refine Ev.step (fun k => impl_ReadFixed.l0.eq_2 _ _ _ _ k) (Ev_pos (by omega) (Ev_pos (by omega) (Ev_pos (by omega) ?_)))
    have h := rfV_le s i 6 (by omega)
    have b := bt_range s i
    have e3 : wrap64 ((i : Int) + 1) = ((i + 1 : Nat) : Int) := by rw [w64 (by omega) (by omega)]; omega
    have e4 : Go.bits .or .i64 (wrap64 (rfV s i * 256)) (wrap64 (bt s (i : Int))) = rfV s (i + 1) := by
      rw [w64 (n := rfV s i * 256) (by omega) (by omega), w64 (n := bt s (i : Int)) (by omega) (by omega)]
      exact bits_join .i64 63 (by decide) wraps_i64 8 _ _ (by omega) (by omega) (by omega) (by omega) (by omega) (by omega)
    rw [e3, e4]
    exact ih (i + 1) (by omega)
theorem impl_ReadFixed_ev (s : ByteArray) (w : Int) (hz : s.size ≤ 140737488351232) : Ev (fun k => impl_ReadFixed.f k s w) (readFixedV s w) := by
  refine Ev_bindp (within_eq _ _ _) ?_
  unfold readFixedV
  by_cases h : 1 ≤ w ∧ w ≤ 7
  · obtain ⟨m, rfl⟩ := Int.eq_ofNat_of_zero_le (show 0 ≤ w by omega)
    refine Ev_pos (decide_eq_true h) (Ev.step (fun k => impl_ReadFixed.j0.eq_2 _ _ _ k) ?_)
    by_cases h' : (m : Int) ≤ s.size
    · rw [if_pos ⟨h, h'⟩, Int.toNat_natCast]
      exact Ev_neg (by simp; omega) (impl_rf_l s m (by omega) (by omega) hz m 0 (by omega))
    · rw [if_neg (fun x => h' x.2)]
      exact Ev_pos (by simp; omega) (Ev.now _)
  · rw [if_neg (fun x => h x.1)]
    exact Ev_neg (by simpa using h) (Ev.step (fun k => impl_ReadFixed.j0.eq_2 _ _ _ k) (Ev_pos rfl (Ev.now _)))

theorem impl_PackKey_ev (s : ByteArray) (hs : s.size ≤ 140737488351232) : Ev (fun k => impl_PackKey.f k s) (packV s) := by
  refine Ev.bind (impl_KeyOk_ev s hs) ?_
  unfold packV
  by_cases h : keyOkV s = true
  · rw [if_pos h]
    have hz := keyOkV_size s h
    refine Ev_pos h (Ev.bind (impl_ReadFixed_ev s s.size hs) (Ev_is ?_))
    unfold readFixedV
    rw [if_pos ⟨by omega, by omega⟩, Int.toNat_natCast]
  · rw [if_neg h]
    exact Ev_neg h (Ev.now _)

theorem impl_Tagged_ev (s : ByteArray) (k : Int) (hs : s.size ≤ 140737488351232) : Ev (fun q => impl_Tagged.f q s k) (taggedV s k) := by
  refine Ev.bind (impl_KeyOk_ev s hs) ?_
  unfold taggedV
  by_cases h : keyOkV s = true
  · refine Ev_pos h (Ev_bindp (impl_KindWord_eq k) ?_)
    by_cases hk : 1 ≤ k ∧ k ≤ 3
    · rw [if_pos ⟨h, hk⟩]
      refine Ev_neg (fun x => (kwV_empty k).1 x hk) (Ev.bind (impl_PackKey_ev s hs) (Ev_is ?_))
      have hp := packV_range s
      rw [w64 (n := 4 * packV s) (by omega) (by omega), w64 (by omega) (by omega)]
    · rw [if_neg (fun x => hk x.2)]
      exact Ev_pos ((kwV_empty k).2 hk) (Ev.now _)
  · rw [if_neg (fun x => h x.1)]
    exact Ev_neg h (Ev.now _)

theorem FnExactTagged : laws_FnExactTagged.Pure := by
  intro s n hs _
  refine Ev.rounds (r := true) ?_
  by_cases h : (s.size : Int) > 1048576
  · exact Ev_pos h (Ev.now _)
  · exact Ev_neg h (Ev.bind (spec_Tagged_ev s n hs) (Ev.bind (impl_Tagged_ev s n hs) (Ev_pos rfl (Ev.now _))))

end Go.Proofs.Ytilhmohfneeglaa.Pure
