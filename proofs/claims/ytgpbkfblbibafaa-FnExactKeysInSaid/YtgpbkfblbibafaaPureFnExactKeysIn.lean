/- What is proved here: the Go law FnExactKeysIn answers true for every input, over the functions that print.sh printed; no condition. -/
import Derived.Test.YtgpbkfblbibafaaQFnExactKeysInx5
set_option linter.unusedVariables false
set_option linter.unusedSimpArgs false
namespace Go.Proofs.Ytgpbkfblbibafaa.Pure
open Go.RowKit Go.Proofs.Ytgpbkfblbibafaa.PFnExactKeysIn Go.Proofs.YtgpbkfblbibafaaW.PrintWords Go.Proofs.YtgpbkfblbibafaaW.PrintLast

theorem Ev_pos {α : Type} {c : Prop} [Decidable c] {a b : Nat → Option α} {r : α} (h : c) (e : Ev a r) : Ev (fun k => if c then a k else b k) r :=
  Ev.congr (fun k => if_pos h) e
theorem Ev_neg {α : Type} {c : Prop} [Decidable c] {a b : Nat → Option α} {r : α} (h : ¬ c) (e : Ev b r) : Ev (fun k => if c then a k else b k) r :=
  Ev.congr (fun k => if_neg h) e
theorem Ev_bindp {α β : Type} {x : Option α} {f : Nat → α → Option β} {a : α} {r : β} (h : x = some a) (e : Ev (fun n => f n a) r) : Ev (fun n => x.bind (f n)) r := by
  subst h
  exact e
theorem Ev_is {α : Type} {x : Option α} {r : α} (h : x = some r) : Ev (fun _ => x) r := ⟨0, fun _ _ => h⟩

theorem w64 {n : Int} (h0 : -9223372036854775808 ≤ n) (h1 : n ≤ 9223372036854775807) : wrap64 n = n := by
  unfold wrap64
  omega

theorem dec_cons_eq {a b : Int} (h : a = b) (l m : List Int) : decide (a :: l = b :: m) = decide (l = m) := by
  subst h
  exact decide_eq_decide.2 ⟨fun e => (List.cons.inj e).2, fun e => by rw [e]⟩
theorem dec_cons_ne {a b : Int} (h : a ≠ b) (l m : List Int) : decide (a :: l = b :: m) = false := decide_eq_false (fun e => h (List.cons.inj e).1)
theorem rd_get (l : List Int) (i : Nat) (h : i < l.length) : rd l (i : Int) = l[i] := by simp [rd, List.getD_eq_getElem?_getD, List.getElem?_eq_getElem h]

theorem toInt_l (l : List Int) (hl : l.length ≤ 1048576) : ∀ (d i : Nat), i + d = l.length → Ev (fun k => laws_toIntS.l0 k l (l.take i ++ List.replicate d 0) (i : Int)) l := by
  intro d
  induction d with
  | zero =>
    intro i hi
    refine Ev.step (fun k => laws_toIntS.l0.eq_2 _ _ _ k) (Ev_neg (by omega) (Ev_is ?_))
    rw [List.take_of_length_le (by omega)]; simp
  | succ d ih =>
    intro i hi
    have h : i < l.length := by omega
    have ht : (l.take i).length = i := by simp; omega
    refine Ev.step (fun k => laws_toIntS.l0.eq_2 _ _ _ k) (Ev_pos (by omega) (Ev_pos (by omega) (Ev_pos (by simp; omega) ?_)))
    have e : (l.take i ++ List.replicate (d + 1) 0).set ((i : Int)).toNat (rd l (i : Int)) = l.take (i + 1) ++ List.replicate d 0 := by
      rw [Int.toNat_natCast, List.set_append_right _ _ (by omega), ht, Nat.sub_self, List.replicate_succ, List.set_cons_zero, rd_get l i h, List.take_succ_eq_append_getElem h, List.append_assoc]
      rfl
    rw [e, show wrap64 ((i : Int) + 1) = ((i + 1 : Nat) : Int) by rw [w64 (by omega) (by omega)]; omega]
    exact ih (i + 1) (by omega)
theorem toInt_ev (l : List Int) (hl : l.length ≤ 1048576) : Ev (fun k => laws_toIntS.f k l) l := by
  refine Ev_pos (by omega) (Ev_pos (by omega) ?_)
  have := toInt_l l hl l.length 0 (by omega)
  simpa using this

theorem eqInt_l (a b : List Int) (hl : a.length ≤ 1048576) (hab : a.length = b.length) : ∀ (d i : Nat), i + d = a.length → Ev (fun k => laws_eqIntS.l0 k a b (i : Int)) (decide (a.drop i = b.drop i)) := by
  intro d
  induction d with
  | zero =>
    intro i hi
    refine Ev.step (fun k => laws_eqIntS.l0.eq_2 _ _ _ k) (Ev_neg (by omega) (Ev_is ?_))
    rw [List.drop_eq_nil_of_le (by omega), List.drop_eq_nil_of_le (by omega)]; simp
  | succ d ih =>
    intro i hi
    have h : i < a.length := by omega
    have h' : i < b.length := by omega
    refine Ev.step (fun k => laws_eqIntS.l0.eq_2 _ _ _ k) (Ev_pos (by omega) (Ev_pos (by omega) (Ev_pos (by omega) ?_)))
    rw [rd_get a i h, rd_get b i h', List.drop_eq_getElem_cons h, List.drop_eq_getElem_cons h']
    by_cases c : a[i] = b[i]
    · refine Ev_pos c ?_
      rw [show wrap64 ((i : Int) + 1) = ((i + 1 : Nat) : Int) by rw [w64 (by omega) (by omega)]; omega]
      rw [dec_cons_eq c]
      exact ih (i + 1) (by omega)
    · exact Ev_neg c (Ev_is (by rw [dec_cons_ne c]))
theorem eqInt_ev (a b : List Int) (hl : a.length ≤ 1048576) : Ev (fun k => laws_eqIntS.f k a b) (decide (a = b)) := by
  by_cases h : a.length = b.length
  · have := eqInt_l a b hl h a.length 0 (by omega)
    exact Ev_pos (by omega) (by simpa using this)
  · exact Ev_neg (by omega) (Ev_is (by rw [decide_eq_false (fun e => h (congrArg List.length e))]))
theorem eqInt_refl (a : List Int) (hl : a.length ≤ 1048576) : Ev (fun k => laws_eqIntS.f k a a) true := by
  have := eqInt_ev a a hl
  simpa using this

def marks : Int → Nat → List Int
  | _, 0 => []
  | k, n + 1 => k :: marks (k + 1) n
theorem marks_length : ∀ (k : Int) (n : Nat), (marks k n).length = n
  | _, 0 => rfl
  | k, n + 1 => by simp [marks, marks_length (k + 1) n]
theorem marks_snoc : ∀ (k : Int) (n : Nat), marks k (n + 1) = marks k n ++ [k + n]
  | k, 0 => by simp [marks]
  | k, n + 1 => by
    show k :: marks (k + 1) (n + 1) = (k :: marks (k + 1) n) ++ [k + ((n + 1 : Nat) : Int)]
    rw [marks_snoc (k + 1) n]
    have e : k + 1 + (n : Int) = k + ((n + 1 : Nat) : Int) := by omega
    rw [e]; rfl
theorem marks_get : ∀ (n : Nat) (k : Int) (i : Nat) (h : i < (marks k n).length), (marks k n)[i] = k + i
  | 0, k, i, h => by simp [marks] at h
  | n + 1, k, 0, h => by simp [marks]
  | n + 1, k, i + 1, h => by
    have := marks_get n (k + 1) i (by simpa [marks] using h)
    simp only [marks, List.getElem_cons_succ, this]
    omega
theorem mark_l (l : List Int) (hl : l.length ≤ 1048576) : ∀ (d i : Nat), i + d = l.length → Ev (fun k => laws_markIntS.l0 k (marks 1 i ++ l.drop i) (1 + (i : Int)) (i : Int)) (1 + (l.length : Int), marks 1 l.length) := by
  intro d
  induction d with
  | zero =>
    intro i hi
    obtain rfl : i = l.length := by omega
    refine Ev.step (fun k => laws_markIntS.l0.eq_2 _ _ _ k) (Ev_neg (by simp [marks_length]) (Ev_is ?_))
    simp
  | succ d ih =>
    intro i hi
    have h : i < l.length := by omega
    refine Ev.step (fun k => laws_markIntS.l0.eq_2 _ _ _ k) (Ev_pos (by simp [marks_length]; omega) (Ev_pos (by omega) ?_))
    have e : (marks 1 i ++ l.drop i).set ((i : Int)).toNat (1 + (i : Int)) = marks 1 (i + 1) ++ l.drop (i + 1) := by
      rw [Int.toNat_natCast, List.set_append_right _ _ (by rw [marks_length]; omega), marks_length, Nat.sub_self, List.drop_eq_getElem_cons h, List.set_cons_zero, marks_snoc]
      simp
    rw [e, show wrap64 ((i : Int) + 1) = ((i + 1 : Nat) : Int) by rw [w64 (by omega) (by omega)]; omega, show wrap64 (1 + (i : Int) + 1) = 1 + ((i + 1 : Nat) : Int) by rw [w64 (by omega) (by omega)]; omega]
    exact ih (i + 1) (by omega)
theorem mark_ev (l : List Int) (hl : l.length ≤ 1048576) : Ev (fun k => laws_markIntS.f k l 1) (1 + (l.length : Int), marks 1 l.length) := by
  have := mark_l l hl l.length 0 (by omega)
  rw [show marks 1 0 ++ l.drop 0 = l by simp [marks], show (1 + ((0 : Nat) : Int)) = 1 from rfl] at this
  exact this

def mtV (n : Int) : ByteArray := (laws_markText.f 30 n).getD ⟨#[]⟩
theorem markText_20 : ∀ n : Fin 9, laws_markText.f 30 (n.val : Int) = some (mtV (n.val : Int)) := by decide +kernel
theorem markText_ev (n : Int) (h0 : 0 ≤ n) (h1 : n ≤ 8) : Ev (fun k => laws_markText.f k n) (mtV n) := by
  have h := markText_20 ⟨n.toNat, by omega⟩
  have e : ((n.toNat : Nat) : Int) = n := by omega
  simp only [e] at h
  exact Ev.of (fun k => laws_markText.mono n k) h
theorem rdS_get (l : List ByteArray) (i : Nat) (h : i < l.length) : rdOf ByteArray.empty l (i : Int) = l[i] := by simp [rdOf, List.getD_eq_getElem?_getD, List.getElem?_eq_getElem h]
theorem eqStr_l (l : List ByteArray) (hl : l.length ≤ 1000) : ∀ (d i : Nat), i + d = l.length → Ev (fun k => laws_eqStringS.l0 k l l (i : Int)) true := by
  intro d
  induction d with
  | zero =>
    intro i hi
    exact Ev.step (fun k => laws_eqStringS.l0.eq_2 _ _ _ k) (Ev_neg (by omega) (Ev.now _))
  | succ d ih =>
    intro i hi
    refine Ev.step (fun k => laws_eqStringS.l0.eq_2 _ _ _ k) (Ev_pos (by omega) (Ev_pos (by omega) (Ev_pos (by omega) (Ev_pos rfl ?_))))
    rw [show wrap64 ((i : Int) + 1) = ((i + 1 : Nat) : Int) by rw [w64 (by omega) (by omega)]; omega]
    exact ih (i + 1) (by omega)
theorem eqStr_refl (l : List ByteArray) (hl : l.length ≤ 1000) : Ev (fun k => laws_eqStringS.f k l l) true :=
  Ev_pos rfl (eqStr_l l hl l.length 0 (by omega))
def marksS : Int → Nat → List ByteArray
  | _, 0 => []
  | k, n + 1 => mtV k :: marksS (k + 1) n
theorem marksS_length : ∀ (k : Int) (n : Nat), (marksS k n).length = n
  | _, 0 => rfl
  | k, n + 1 => by simp [marksS, marksS_length (k + 1) n]
theorem marksS_snoc : ∀ (k : Int) (n : Nat), marksS k (n + 1) = marksS k n ++ [mtV (k + n)]
  | k, 0 => by simp [marksS]
  | k, n + 1 => by
    show mtV k :: marksS (k + 1) (n + 1) = (mtV k :: marksS (k + 1) n) ++ [mtV (k + ((n + 1 : Nat) : Int))]
    rw [marksS_snoc (k + 1) n]
    have e : k + 1 + (n : Int) = k + ((n + 1 : Nat) : Int) := by omega
    rw [e]; rfl
theorem marksS_get : ∀ (n : Nat) (k : Int) (i : Nat) (h : i < (marksS k n).length), (marksS k n)[i] = mtV (k + i)
  | 0, k, i, h => by simp [marksS] at h
  | n + 1, k, 0, h => by simp [marksS]
  | n + 1, k, i + 1, h => by
    have := marksS_get n (k + 1) i (by simpa [marksS] using h)
    simp only [marksS, List.getElem_cons_succ, this]
    congr 1
    omega
theorem markS_l (l : List ByteArray) (hl : l.length ≤ 4) : ∀ (d i : Nat), i + d = l.length → Ev (fun k => laws_markStringS.l0 k (marksS 1 i ++ l.drop i) (1 + (i : Int)) (i : Int)) (1 + (l.length : Int), marksS 1 l.length) := by
  intro d
  induction d with
  | zero =>
    intro i hi
    obtain rfl : i = l.length := by omega
    refine Ev.step (fun k => laws_markStringS.l0.eq_2 _ _ _ k) (Ev_neg (by simp [marksS_length]) (Ev_is ?_))
    simp
  | succ d ih =>
    intro i hi
    have h : i < l.length := by omega
    refine Ev.step (fun k => laws_markStringS.l0.eq_2 _ _ _ k) (Ev_pos (by simp [marksS_length]; omega) (Ev.bind (markText_ev _ (by omega) (by omega)) (Ev_pos (by omega) ?_)))
    have e : (marksS 1 i ++ l.drop i).set ((i : Int)).toNat (mtV (1 + (i : Int))) = marksS 1 (i + 1) ++ l.drop (i + 1) := by
      rw [Int.toNat_natCast, List.set_append_right _ _ (by rw [marksS_length]; omega), marksS_length, Nat.sub_self, List.drop_eq_getElem_cons h, List.set_cons_zero, marksS_snoc]
      simp
    rw [e, show wrap64 ((i : Int) + 1) = ((i + 1 : Nat) : Int) by rw [w64 (by omega) (by omega)]; omega, show wrap64 (1 + (i : Int) + 1) = 1 + ((i + 1 : Nat) : Int) by rw [w64 (by omega) (by omega)]; omega]
    exact ih (i + 1) (by omega)
theorem markS_ev (l : List ByteArray) (hl : l.length ≤ 4) : Ev (fun k => laws_markStringS.f k l 1) (1 + (l.length : Int), marksS 1 l.length) := by
  have := markS_l l hl l.length 0 (by omega)
  rw [show marksS 1 0 ++ l.drop 0 = l by simp [marksS], show (1 + ((0 : Nat) : Int)) = 1 from rfl] at this
  exact this
theorem heldS_l (n : Nat) (hn : n ≤ 4) : ∀ (d i : Nat), i + d = n → Ev (fun k => laws_heldStringS.l0 k (marksS 1 n) (1 + (i : Int)) (i : Int)) (1 + (n : Int)) := by
  intro d
  induction d with
  | zero =>
    intro i hi
    obtain rfl : i = n := by omega
    exact Ev.step (fun k => laws_heldStringS.l0.eq_2 _ _ _ k) (Ev_neg (by rw [marksS_length]; omega) (Ev.now _))
  | succ d ih =>
    intro i hi
    have h : i < (marksS 1 n).length := by rw [marksS_length]; omega
    refine Ev.step (fun k => laws_heldStringS.l0.eq_2 _ _ _ k) (Ev_pos (by rw [marksS_length]; omega) (Ev_pos (by omega) (Ev.bind (markText_ev _ (by omega) (by omega)) (Ev_pos (by rw [rdS_get _ i h, marksS_get]) ?_))))
    rw [show wrap64 ((i : Int) + 1) = ((i + 1 : Nat) : Int) by rw [w64 (by omega) (by omega)]; omega, show wrap64 (1 + (i : Int) + 1) = 1 + ((i + 1 : Nat) : Int) by rw [w64 (by omega) (by omega)]; omega]
    exact ih (i + 1) (by omega)
theorem heldS_ev (n : Nat) (hn : n ≤ 4) : Ev (fun k => laws_heldStringS.f k (marksS 1 n) 1) (1 + (n : Int)) := by
  have := heldS_l n hn n 0 (by omega)
  rw [show (1 + ((0 : Nat) : Int)) = 1 from rfl] at this
  exact this

theorem l1In_eq (a b c : Int) : spec_l1In.f a b c = some (decide (b ≤ a ∧ a ≤ c)) := by
  unfold spec_l1In.f
  by_cases h : b ≤ a <;> simp [h]

def okW (n : Int) : Bool := decide (0 ≤ n ∧ n ≤ 281474976710655)
def cellsOkV (l : List Int) : Bool := l.all okW && ((l.length : Int) == 71)
theorem okW_in (n : Int) : spec_l1In.f n 0 281474976710655 = some (okW n) := l1In_eq _ _ _
theorem cellsOkV_len (l : List Int) (h : cellsOkV l = true) : l.length = 71 := by
  unfold cellsOkV at h
  rw [Bool.and_eq_true, beq_iff_eq] at h
  omega
theorem cellsOkV_at (l : List Int) (h : cellsOkV l = true) (i : Int) (h0 : 0 ≤ i) (h1 : i ≤ 70) : 0 ≤ rd l i ∧ rd l i ≤ 281474976710655 := by
  have hl := cellsOkV_len l h
  obtain ⟨n, rfl⟩ := Int.eq_ofNat_of_zero_le h0
  have hn : n < l.length := by omega
  unfold cellsOkV at h
  rw [Bool.and_eq_true, List.all_eq_true] at h
  have := h.1 _ (List.getElem_mem hn)
  unfold okW at this
  rw [rd_get l n hn]
  exact of_decide_eq_true this
theorem cellsOkV_set (l : List Int) (h : cellsOkV l = true) (i : Nat) (n : Int) (hn : okW n = true) : cellsOkV (l.set i n) = true := by
  unfold cellsOkV at h ⊢
  rw [Bool.and_eq_true, List.all_eq_true] at h
  rw [Bool.and_eq_true, List.all_eq_true, List.length_set]
  refine ⟨fun x hx => ?_, h.2⟩
  rcases List.mem_or_eq_of_mem_set hx with hx | hx
  · exact h.1 x hx
  · rw [hx]; exact hn

/-- May a byte stand in a key? -/
def kb (c : Int) : Bool := decide ((97 ≤ c ∧ c ≤ 122) ∨ (65 ≤ c ∧ c ≤ 90) ∨ (48 ≤ c ∧ c ≤ 57) ∨ c = 95)
def keyOkV (s : ByteArray) : Bool := decide (1 ≤ s.size ∧ s.size ≤ 4 ∧ ∀ j, j < s.size → kb (bt s (j : Nat)) = true)

theorem i64_xor_nat (a b : Nat) (ha : a < 4294967296) (hb : b < 4294967296) : Go.bits .xor .i64 (a : Int) (b : Int) = ((a ^^^ b : Nat) : Int) := by
  have hx : a ^^^ b < 2 ^ 32 := Nat.xor_lt_two_pow (by omega) (by omega)
  show IntKind.i64.wrap ((BitVec.ofInt 64 (a : Int) ^^^ BitVec.ofInt 64 (b : Int)).toNat : Int) = _
  rw [BitVec.toNat_xor, BitVec.ofInt_natCast, BitVec.ofInt_natCast, BitVec.toNat_ofNat, BitVec.toNat_ofNat, Nat.mod_eq_of_lt (show a < 2 ^ 64 by omega), Nat.mod_eq_of_lt (show b < 2 ^ 64 by omega), IntKind.wrap_i64]
  omega
theorem u32_xor_nat' (a b : Nat) (ha : a < 4294967296) (hb : b < 4294967296) : Go.bits .xor .u32 (a : Int) (b : Int) = ((a ^^^ b : Nat) : Int) := by
  have hx : a ^^^ b < 2 ^ 32 := Nat.xor_lt_two_pow (by omega) (by omega)
  show IntKind.u32.wrap ((BitVec.ofInt 32 (a : Int) ^^^ BitVec.ofInt 32 (b : Int)).toNat : Int) = _
  rw [BitVec.toNat_xor, BitVec.ofInt_natCast, BitVec.ofInt_natCast, BitVec.toNat_ofNat, BitVec.toNat_ofNat, Nat.mod_eq_of_lt (show a < 2 ^ 32 by omega), Nat.mod_eq_of_lt (show b < 2 ^ 32 by omega), IntKind.wrap_u32]
  omega
/-- The hash behind n bytes. -/
def hashV (s : ByteArray) : Nat → Int
  | 0 => 2166136261
  | n + 1 => (((hashV s n).toNat ^^^ (bt s n).toNat : Nat) : Int) * 16777619 % 4294967296
theorem hashV_range (s : ByteArray) (n : Nat) : 0 ≤ hashV s n ∧ hashV s n < 4294967296 := by
  cases n with
  | zero => simp [hashV]
  | succ n => simp only [hashV]; omega
theorem hash_xor (s : ByteArray) (n : Nat) : ((hashV s n).toNat ^^^ (bt s n).toNat : Nat) < 4294967296 := by
  have h := hashV_range s n
  have b := bt_range s n
  exact Nat.xor_lt_two_pow (n := 32) (by omega) (by omega)

def probeV (s : ByteArray) (n : Int) : Int := if keyOkV s = true ∧ 0 ≤ n ∧ n ≤ 3 then (hashV s s.size + n) % 4 else -1

/-- The number of the first n bytes, most significant first. -/
def rfV (s : ByteArray) : Nat → Int
  | 0 => 0
  | n + 1 => rfV s n * 256 + bt s n
theorem rfV_lt (s : ByteArray) : ∀ n, 0 ≤ rfV s n ∧ rfV s n < ((256 ^ n : Nat) : Int)
  | 0 => by simp [rfV]
  | n + 1 => by
    have ih := rfV_lt s n
    have b := bt_range s n
    simp only [rfV, Nat.pow_succ]
    omega
theorem rfV_le (s : ByteArray) (n m : Nat) (h : n ≤ m) : 0 ≤ rfV s n ∧ rfV s n < ((256 ^ m : Nat) : Int) := by
  have ih := rfV_lt s n
  have hp : 256 ^ n ≤ 256 ^ m := Nat.pow_le_pow_right (by decide) h
  omega
theorem wraps_i64 (n : Int) (h₀ : 0 ≤ n) (h₁ : n < 2 ^ 63) : IntKind.i64.wrap n = n := by rw [IntKind.wrap_i64]; omega

/-- The last w bytes of n, most significant first. -/
def fixedL : Nat → Int → List Int
  | 0, _ => []
  | w + 1, n => fixedL w (n / 256) ++ [n % 256]
theorem fixedL_length : ∀ w n, (fixedL w n).length = w
  | 0, _ => rfl
  | w + 1, n => by simp [fixedL, fixedL_length w]
def fixedV (n w : Int) : ByteArray := if (1 ≤ w ∧ w ≤ 7) ∧ 0 ≤ n ∧ n < ((256 ^ w.toNat : Nat) : Int) then strOfNums (fixedL w.toNat n) else ⟨#[]⟩
theorem strOfNums_append' (a b : List Int) : strOfNums a ++ strOfNums b = strOfNums (a ++ b) := by
  apply ByteArray.ext
  unfold strOfNums
  simp [ByteArray.data_append]

theorem bytesOf_range (s : ByteArray) : ∀ x ∈ bytesOf s, 0 ≤ x ∧ x ≤ 255 := by
  intro x hx
  unfold bytesOf at hx
  obtain ⟨b, _, rfl⟩ := List.mem_map.1 hx
  have := b.toNat_lt
  omega
theorem nums_back (l : List UInt8) (xs : List Int) (h : ∀ x ∈ xs, 0 ≤ x ∧ x ≤ 255) : (xs.map fun n => UInt8.ofNat n.toNat) = l ↔ xs = l.map fun b => (b.toNat : Int) := by
  constructor
  · intro e
    rw [← e, List.map_map]
    symm
    conv => rhs; rw [← List.map_id xs]
    apply List.map_congr_left
    intro x hx
    have := h x hx
    simp only [Function.comp, UInt8.toNat_ofNat', id]
    omega
  · intro e
    rw [e, List.map_map]
    conv => rhs; rw [← List.map_id l]
    apply List.map_congr_left
    intro b _
    simp
theorem same_take (s : ByteArray) (xs : List Int) (h : ∀ x ∈ xs, 0 ≤ x ∧ x ≤ 255) (k : Nat) : (strOfNums xs).toList = (s.extract 0 k).toList ↔ xs = (bytesOf s).take k := by
  rw [ByteArray.toList_eq, ByteArray.toList_eq]
  have e : (s.extract 0 k).data.toList = s.data.toList.take k := by simp
  rw [e, strOfNums_data, nums_back _ _ h]
  unfold bytesOf
  rw [List.map_take]
theorem take_at (s : ByteArray) (i : Nat) (h : i < s.size) : (bytesOf s).take (i + 1) = (bytesOf s).take i ++ [bt s i] := by
  have hl : i < (bytesOf s).length := by rw [bytesOf_length]; exact h
  rw [List.take_succ_eq_append_getElem hl, ← rd_bytesOf]
  congr 2
  simp [rd, List.getD_eq_getElem?_getD, List.getElem?_eq_getElem hl]

/-- The number of a list of bytes, most significant first. -/
def hv : List Int → Int → Int
  | [], a => a
  | b :: l, a => hv l (a * 256 + b)
theorem hv_snoc (c : Int) : ∀ (l : List Int) (a : Int), hv (l ++ [c]) a = hv l a * 256 + c
  | [], a => rfl
  | b :: l, a => by simp only [List.cons_append, hv]; exact hv_snoc c l _
theorem rfV_hv (s : ByteArray) : ∀ n, n ≤ s.size → rfV s n = hv ((bytesOf s).take n) 0
  | 0, _ => by simp [rfV, hv]
  | n + 1, h => by rw [take_at s n (by omega), hv_snoc, ← rfV_hv s n (by omega)]; rfl
theorem rfV_size (s : ByteArray) : rfV s s.size = hv (bytesOf s) 0 := by
  rw [rfV_hv s s.size (Nat.le_refl _), List.take_of_length_le (by rw [bytesOf_length]; exact Nat.le_refl _)]
theorem fixedL_range : ∀ (w : Nat) (n : Int), ∀ x ∈ fixedL w n, 0 ≤ x ∧ x ≤ 255
  | 0, n, x, hx => by simp [fixedL] at hx
  | w + 1, n, x, hx => by
    simp only [fixedL, List.mem_append, List.mem_singleton] at hx
    rcases hx with hx | hx
    · exact fixedL_range w _ x hx
    · omega
theorem hv_fixedL : ∀ (w : Nat) (n : Int), 0 ≤ n → n < ((256 ^ w : Nat) : Int) → hv (fixedL w n) 0 = n
  | 0, n, h0, h1 => by simp [fixedL, hv]; simp at h1; omega
  | w + 1, n, h0, h1 => by
    simp only [fixedL, hv_snoc]
    rw [hv_fixedL w (n / 256) (by omega) (by rw [Nat.pow_succ] at h1; omega)]
    omega
theorem bytesOf_strOf (xs : List Int) (h : ∀ x ∈ xs, 0 ≤ x ∧ x ≤ 255) : bytesOf (strOfNums xs) = xs := by
  unfold bytesOf
  exact ((nums_back _ xs h).1 (strOfNums_data xs).symm).symm
theorem strOf_bytesOf (s : ByteArray) : strOfNums (bytesOf s) = s := by
  apply ByteArray.ext
  apply Array.toList_inj.1
  rw [strOfNums_data, nums_back _ _ (bytesOf_range s)]
  rfl
def keyOkL (l : List Int) : Bool := decide (1 ≤ l.length ∧ l.length ≤ 4) && l.all kb
theorem keyOkV_list (s : ByteArray) : keyOkV s = keyOkL (bytesOf s) := by
  unfold keyOkV keyOkL
  rw [Bool.eq_iff_iff]
  simp only [decide_eq_true_eq, Bool.and_eq_true, List.all_eq_true, bytesOf_length]
  constructor
  · rintro ⟨h1, h2, h3⟩
    refine ⟨⟨h1, h2⟩, fun x hx => ?_⟩
    obtain ⟨i, hi, rfl⟩ := List.mem_iff_getElem.1 hx
    have hi' : i < s.size := by rw [bytesOf_length] at hi; exact hi
    have := h3 i hi'
    rw [← rd_bytesOf] at this
    simpa [rd, List.getD_eq_getElem?_getD, List.getElem?_eq_getElem hi] using this
  · rintro ⟨⟨h1, h2⟩, h3⟩
    refine ⟨h1, h2, fun j hj => ?_⟩
    have hi : j < (bytesOf s).length := by rw [bytesOf_length]; exact hj
    have := h3 _ (List.getElem_mem hi)
    rw [← rd_bytesOf]
    simpa [rd, List.getD_eq_getElem?_getD, List.getElem?_eq_getElem hi] using this
def packV (s : ByteArray) : Int := if keyOkV s = true then rfV s s.size else 0
theorem keyOkV_size (s : ByteArray) (h : keyOkV s = true) : 1 ≤ s.size ∧ s.size ≤ 4 := by
  unfold keyOkV at h
  have := of_decide_eq_true h
  exact ⟨this.1, this.2.1⟩
theorem packV_range (s : ByteArray) : 0 ≤ packV s ∧ packV s ≤ 4294967295 := by
  unfold packV
  split
  · rename_i h
    have hs := keyOkV_size s h
    have := rfV_le s s.size 4 hs.2
    omega
  · omega

def kwV (a : Int) : ByteArray := if a = 1 then ⟨#[99]⟩ else if a = 2 then ⟨#[103]⟩ else if a = 3 then ⟨#[109, 115]⟩ else ⟨#[]⟩
theorem impl_KindWord_eq (a : Int) : impl_KindWord.f a = some (kwV a) := by
  unfold impl_KindWord.f kwV
  by_cases h1 : a = 1
  · simp [h1]
  by_cases h2 : a = 2
  · simp [h2]
  by_cases h3 : a = 3
  · simp [h3]
  simp [h1, h2, h3]

def taggedV (s : ByteArray) (k : Int) : Int := if keyOkV s = true ∧ 1 ≤ k ∧ k ≤ 3 then 4 * packV s + k else 0
theorem toList_empty : (⟨#[]⟩ : ByteArray).toList = ([] : List UInt8) := by rw [ByteArray.toList_eq]
theorem kwV_empty (k : Int) : (kwV k).toList = ([] : List UInt8) ↔ ¬ (1 ≤ k ∧ k ≤ 3) := by
  unfold kwV
  by_cases h1 : k = 1
  · simp [h1, ByteArray.toList_eq]
  by_cases h2 : k = 2
  · simp [h2, ByteArray.toList_eq]
  by_cases h3 : k = 3
  · simp [h3, ByteArray.toList_eq]
  rw [if_neg h1, if_neg h2, if_neg h3]
  exact ⟨fun _ => by omega, fun _ => toList_empty⟩

/-- How many bytes a number takes. -/
def widthV (n : Int) : Nat := if n < 256 then 1 else if n < 65536 then 2 else if n < 16777216 then 3 else 4
def keyOf (n : Int) : ByteArray := strOfNums (fixedL (widthV n) n)
def unpackV (n : Int) : ByteArray × Bool := if (1 ≤ n ∧ n ≤ 4294967295) ∧ keyOkV (keyOf n) = true then (keyOf n, true) else (⟨#[]⟩, false)
theorem strOf_size (w : Nat) (n : Int) : (strOfNums (fixedL w n)).size = w := by rw [strOfNums_size, fixedL_length]
theorem pack_fixed (w : Nat) (n : Int) (h0 : 0 ≤ n) (h1 : n < ((256 ^ w : Nat) : Int)) (hk : keyOkV (strOfNums (fixedL w n)) = true) : packV (strOfNums (fixedL w n)) = n := by
  unfold packV
  rw [if_pos hk, rfV_size, bytesOf_strOf _ (fixedL_range w n), hv_fixedL w n h0 h1]
theorem keyOk_fixed (w : Nat) (n : Int) : keyOkV (strOfNums (fixedL w n)) = keyOkL (fixedL w n) := by
  rw [keyOkV_list, bytesOf_strOf _ (fixedL_range w n)]

theorem width_fits (n : Int) (h0 : 1 ≤ n) (h1 : n ≤ 4294967295) : n < ((256 ^ widthV n : Nat) : Int) := by
  unfold widthV
  split
  · simp; omega
  split
  · simp; omega
  split
  · simp; omega
  · simp; omega
theorem unpackV_true (n : Int) (h : (unpackV n).2 = true) : (1 ≤ n ∧ n ≤ 4294967295) ∧ keyOkV (unpackV n).1 = true ∧ packV (unpackV n).1 = n := by
  unfold unpackV at h ⊢
  split at h
  · rename_i hh
    rw [if_pos hh]
    exact ⟨hh.1, hh.2, pack_fixed _ n (by omega) (width_fits n hh.1.1 hh.1.2) hh.2⟩
  · cases h
theorem unpackV_false (n : Int) (h : ¬ (unpackV n).2 = true) : unpackV n = (⟨#[]⟩, false) := by
  unfold unpackV at h ⊢
  split
  · rename_i hh
    rw [if_pos hh] at h
    exact absurd rfl h
  · rfl

def untagV (n : Int) : ByteArray × Int := if (1 ≤ n ∧ n ≤ 17179869183) ∧ (unpackV (n / 4)).2 = true ∧ 1 ≤ n % 4 then ((unpackV (n / 4)).1, n % 4) else (⟨#[]⟩, 0)
theorem unpack_size (n : Int) : (unpackV n).1.size ≤ 4 := by
  by_cases h : (unpackV n).2 = true
  · exact (keyOkV_size _ (unpackV_true n h).2.1).2
  · rw [unpackV_false n h]; exact Nat.zero_le _

/-- The way of a key from probe n on, at most d probes: its slot and kind; or the free slot that ends the way. -/
def findFrom (a : List Int) (key : ByteArray) : Nat → Nat → Int × Int × Int
  | 0, _ => (-1, 0, -1)
  | d + 1, n =>
    if rd a (3 + probeV key n) = 0 then (-1, 0, probeV key n)
    else if (untagV (rd a (3 + probeV key n))).1.toList = key.toList then (probeV key n, (untagV (rd a (3 + probeV key n))).2, -1)
    else findFrom a key d (n + 1)
def findV (a : List Int) (key : ByteArray) : Int × Int × Int := findFrom a key 4 0
theorem probeV_slot (key : ByteArray) (n : Nat) (hk : keyOkV key = true) (hn : n < 4) : 0 ≤ probeV key (n : Int) ∧ probeV key (n : Int) ≤ 3 := by
  unfold probeV
  rw [if_pos ⟨hk, by omega, by omega⟩]
  omega
theorem toList_inj {a b : ByteArray} (h : a.toList = b.toList) : a = b := by
  rw [ByteArray.toList_eq, ByteArray.toList_eq] at h
  exact ByteArray.ext (Array.toList_inj.1 h)
/-- What is known of the end of a way. -/
def FindOk (a : List Int) (key : ByteArray) (r : Int × Int × Int) : Prop :=
  ((0 ≤ r.1 ∧ r.1 ≤ 3) ∧ rd a (3 + r.1) ≠ 0 ∧ (untagV (rd a (3 + r.1))).1 = key ∧ (untagV (rd a (3 + r.1))).2 = r.2.1 ∧ r.2.2 = -1) ∨ (r.1 = -1 ∧ r.2.1 = 0 ∧ 0 ≤ r.2.2 ∧ r.2.2 ≤ 3) ∨ r = (-1, 0, -1)
theorem findFrom_ok (a : List Int) (key : ByteArray) (hk : keyOkV key = true) : ∀ (d n : Nat), n + d = 4 → FindOk a key (findFrom a key d n)
  | 0, n, h => .inr (.inr rfl)
  | d + 1, n, h => by
    have hp := probeV_slot key n hk (by omega)
    unfold findFrom
    split
    · exact .inr (.inl ⟨rfl, rfl, hp⟩)
    · rename_i h0
      split
      · rename_i h1
        exact .inl ⟨hp, h0, toList_inj h1, rfl, rfl⟩
      · exact findFrom_ok a key hk d (n + 1) (by omega)
theorem findV_ok (a : List Int) (key : ByteArray) (hk : keyOkV key = true) : FindOk a key (findV a key) := findFrom_ok a key hk 4 0 (by omega)
theorem untag_facts (t : Int) : untagV t = (⟨#[]⟩, 0) ∨ (keyOkV (untagV t).1 = true ∧ (1 ≤ (untagV t).2 ∧ (untagV t).2 ≤ 3) ∧ t = 4 * packV (untagV t).1 + (untagV t).2) := by
  unfold untagV
  split
  · rename_i h
    have hf := unpackV_true _ h.2.1
    right
    refine ⟨hf.2.1, ⟨h.2.2, by omega⟩, ?_⟩
    show t = 4 * packV (unpackV (t / 4)).1 + t % 4
    rw [hf.2.2]; omega
  · exact .inl rfl
theorem nokey_empty : ¬ keyOkV (⟨#[]⟩ : ByteArray) = true := by decide
theorem key_lt (key : ByteArray) (hk : keyOkV key = true) : key.size ≤ 140737488351232 := by have := keyOkV_size key hk; omega
theorem cell_range (a : List Int) (h : cellsOkV a = true) (s : Int) (h0 : 0 ≤ s) (h1 : s ≤ 3) : 0 ≤ rd a (3 + s) ∧ rd a (3 + s) ≤ 281474976710655 := cellsOkV_at a h _ (by omega) (by omega)

def keysTo (a : List Int) : Nat → List ByteArray
  | 0 => []
  | n + 1 => if (untagV (rd a (3 + (n : Int)))).2 = 0 then keysTo a n else keysTo a n ++ [(untagV (rd a (3 + (n : Int)))).1]
theorem keysTo_length (a : List Int) : ∀ n, (keysTo a n).length ≤ n
  | 0 => Nat.le_refl _
  | n + 1 => by
    have ih := keysTo_length a n
    unfold keysTo
    split
    · omega
    · simp; omega
def keysV (a : List Int) : List ByteArray := if cellsOkV a = true then keysTo a 4 else []
theorem keysV_length (a : List Int) : (keysV a).length ≤ 4 := by
  unfold keysV
  split
  · exact keysTo_length a 4
  · simp

theorem spec_KeyCell_eq (s : Int) (h0 : 0 ≤ s) (h1 : s ≤ 3) : spec_KeyCell.f s = some (3 + s) := by
  unfold spec_KeyCell.f
  rw [l1In_eq, Option.bind_some, if_pos (decide_eq_true ⟨h0, h1⟩), w64 (by omega) (by omega)]

theorem l4Byte_eq (c : Int) : spec_l4Byte.f c = some (kb c) := by
  unfold spec_l4Byte.f
  simp only [l1In_eq, Option.bind_some]
  unfold kb
  by_cases h1 : 97 ≤ c ∧ c ≤ 122
  · simp [h1]
  by_cases h2 : 65 ≤ c ∧ c ≤ 90
  · simp [h1, h2]
  by_cases h3 : 48 ≤ c ∧ c ≤ 57
  · simp [h1, h2, h3]
  by_cases h4 : c = 95
  · subst h4; rfl
  · simp [h1, h2, h3, h4]
theorem spec_keyOk_l (s : ByteArray) (hs : s.size ≤ 140737488351232) : ∀ (d i : Nat), i + d = s.size → (∀ j, j < i → kb (bt s (j : Nat)) = true) → Ev (fun k => spec_KeyOk.l0 k s (i : Int)) (keyOkV s) := by
  intro d
  induction d with
  | zero =>
    intro i hi hk
    refine Ev.step (fun k => spec_KeyOk.l0.eq_2 _ _ k) (Ev_neg (by omega) (Ev_bindp (l1In_eq _ _ _) (Ev_is ?_)))
    obtain rfl : i = s.size := by omega
    have e : (1 ≤ (s.size : Int) ∧ (s.size : Int) ≤ 4) ↔ (1 ≤ s.size ∧ s.size ≤ 4 ∧ ∀ j, j < s.size → kb (bt s (j : Nat)) = true) := ⟨fun h => ⟨by omega, by omega, hk⟩, fun h => ⟨by omega, by omega⟩⟩
    unfold keyOkV
    rw [decide_eq_decide.2 e]
  | succ d ih =>
    intro i hi hk
    have b := bt_range s i
    refine Ev.step (fun k => spec_KeyOk.l0.eq_2 _ _ k) (Ev_pos (by omega) (Ev_pos (by omega) (Ev_bindp (l4Byte_eq _) ?_)))
    rw [w64 (n := bt s i) (by omega) (by omega), w64 (n := (i : Int) + 1) (by omega) (by omega)]
    by_cases h : kb (bt s i) = true
    · refine Ev_pos h ?_
      have e3 : ((i : Int) + 1) = ((i + 1 : Nat) : Int) := by omega
      rw [e3]
      refine ih (i + 1) (by omega) fun j hj => ?_
      rcases Nat.lt_or_ge j i with h' | h'
      · exact hk j h'
      · obtain rfl : j = i := by omega
        exact h
    · refine Ev_neg h (Ev_is ?_)
      unfold keyOkV
      congr 1
      symm
      exact decide_eq_false fun hh => h (hh.2.2 i (by omega))
theorem spec_KeyOk_ev (s : ByteArray) (hs : s.size ≤ 140737488351232) : Ev (fun k => spec_KeyOk.f k s) (keyOkV s) := spec_keyOk_l s hs s.size 0 (by omega) (fun j hj => by omega)

theorem spec_unpack_l (n0 : Int) : ∀ (d : Nat) (n : Int) (acc : List Int), 0 ≤ n → n ≤ 4294967295 → n < ((256 ^ d : Nat) : Int) → (0 < d → ((256 ^ (d - 1) : Nat) : Int) ≤ n) → acc.length + d ≤ 4 →
    Ev (fun k => spec_UnpackKey.l0 k n acc) (if keyOkV (strOfNums (fixedL d n ++ acc)) = true then (strOfNums (fixedL d n ++ acc), true) else (⟨#[]⟩, false)) := by
  intro d
  induction d with
  | zero =>
    intro n acc h0 h1 h2 h3 h4
    have hz : ¬ n > 0 := by simp at h2; omega
    refine Ev.step (fun k => spec_UnpackKey.l0.eq_2 _ _ k) (Ev_neg hz (Ev.bind (spec_KeyOk_ev _ (by rw [strOfNums_size]; omega)) ?_))
    rw [show fixedL 0 n ++ acc = acc from rfl]
    by_cases h : keyOkV (strOfNums acc) = true
    · exact Ev_pos h (Ev_is (by rw [if_pos h]))
    · exact Ev_neg h (Ev_is (by rw [if_neg h]))
  | succ d ih =>
    intro n acc h0 h1 h2 h3 h4
    have hp : 0 < 256 ^ d := Nat.pow_pos (by decide)
    have h3' := h3 (by omega)
    simp only [Nat.add_sub_cancel] at h3'
    have e1 : wrap64 (Int.tdiv n 256) = n / 256 := by rw [Int.tdiv_eq_ediv_of_nonneg h0, w64 (by omega) (by omega)]
    have e2 : Int.tmod n 256 % 256 = n % 256 := by rw [Int.tmod_eq_emod_of_nonneg h0]; omega
    refine Ev.step (fun k => spec_UnpackKey.l0.eq_2 _ _ k) (Ev_pos (by omega) (Ev_bindp rfl (Ev_pos (by simp; omega) ?_)))
    rw [e1, e2]
    have := ih (n / 256) ([n % 256] ++ acc) (by omega) (by omega) (by rw [Nat.pow_succ] at h2; omega) (fun hd => by
      have e : d = d - 1 + 1 := by omega
      rw [e, Nat.pow_succ] at h3'
      omega) (by simp; omega)
    simpa [fixedL] using this
theorem spec_UnpackKey_ev (n : Int) : Ev (fun k => spec_UnpackKey.f k n) (unpackV n) := by
  refine Ev_bindp (l1In_eq _ _ _) ?_
  by_cases h : 1 ≤ n ∧ n ≤ 4294967295
  · refine Ev_pos (decide_eq_true h) ?_
    have H : ∀ w : Nat, w ≤ 4 → widthV n = w → n < ((256 ^ w : Nat) : Int) → (0 < w → ((256 ^ (w - 1) : Nat) : Int) ≤ n) → Ev (fun k => spec_UnpackKey.l0 k n []) (unpackV n) := fun w hw he h1 h2 => by
      have H := spec_unpack_l n w n [] (by omega) h.2 h1 h2 (by simp; omega)
      rw [List.append_nil] at H
      have e : unpackV n = (if keyOkV (strOfNums (fixedL w n)) = true then (strOfNums (fixedL w n), true) else (⟨#[]⟩, false)) := by
        unfold unpackV keyOf
        rw [he]
        by_cases hk : keyOkV (strOfNums (fixedL w n)) = true
        · rw [if_pos hk, if_pos ⟨h, hk⟩]
        · rw [if_neg hk, if_neg (fun x => hk x.2)]
      rw [e]; exact H
    by_cases a1 : n < 256
    · exact H 1 (by omega) (by unfold widthV; rw [if_pos a1]) (by simpa using a1) (fun _ => by simp; omega)
    by_cases a2 : n < 65536
    · exact H 2 (by omega) (by unfold widthV; rw [if_neg a1, if_pos a2]) (by simpa using a2) (fun _ => by simp; omega)
    by_cases a3 : n < 16777216
    · exact H 3 (by omega) (by unfold widthV; rw [if_neg a1, if_neg a2, if_pos a3]) (by simpa using a3) (fun _ => by simp; omega)
    · exact H 4 (by omega) (by unfold widthV; rw [if_neg a1, if_neg a2, if_neg a3]) (by simp; omega) (fun _ => by simp; omega)
  · have e : unpackV n = (⟨#[]⟩, false) := by unfold unpackV; rw [if_neg (fun x => h x.1)]
    rw [e]
    exact Ev_neg (by simpa using h) (Ev.now _)

theorem spec_KindWord_eq (a : Int) : spec_KindWord.f a = some (kwV a) := by
  by_cases h1 : a = 1
  · subst h1; decide +kernel
  by_cases h2 : a = 2
  · subst h2; decide +kernel
  by_cases h3 : a = 3
  · subst h3; decide +kernel
  have h : ¬ (1 ≤ a ∧ a ≤ 3) := by omega
  unfold spec_KindWord.f kwV
  simp only [l1In_eq, Option.bind_some]
  simp [h, h1, h2, h3]

theorem spec_Untag_ev (n : Int) : Ev (fun q => spec_Untag.f q n) (untagV n) := by
  refine Ev_bindp (l1In_eq _ _ _) ?_
  by_cases h : 1 ≤ n ∧ n ≤ 17179869183
  · have e1 : wrap64 (Int.tdiv n 4) = n / 4 := by rw [Int.tdiv_eq_ediv_of_nonneg (by omega), w64 (by omega) (by omega)]
    have e2 : Int.tmod n 4 = n % 4 := Int.tmod_eq_emod_of_nonneg (by omega)
    refine Ev_pos (decide_eq_true h) ?_
    rw [e1, e2]
    refine Ev.bind (spec_UnpackKey_ev (n / 4)) ?_
    by_cases hu : (unpackV (n / 4)).2 = true
    · refine Ev_pos hu (Ev_bindp (spec_KindWord_eq _) ?_)
      by_cases hk : 1 ≤ n % 4
      · have e : untagV n = ((unpackV (n / 4)).1, n % 4) := by unfold untagV; rw [if_pos ⟨h, hu, hk⟩]
        rw [e]
        exact Ev_neg (fun x => (kwV_empty _).1 x ⟨hk, by omega⟩) (Ev.now _)
      · have e : untagV n = (⟨#[]⟩, 0) := by unfold untagV; rw [if_neg (fun x => hk x.2.2)]
        rw [e]
        exact Ev_pos ((kwV_empty _).2 (fun x => hk x.1)) (Ev.now _)
    · have e : untagV n = (⟨#[]⟩, 0) := by unfold untagV; rw [if_neg (fun x => hu x.2.1)]
      rw [e]
      exact Ev_neg hu (Ev.now _)
  · have e : untagV n = (⟨#[]⟩, 0) := by unfold untagV; rw [if_neg (fun x => h x.1)]
    rw [e]
    exact Ev_neg (by simpa using h) (Ev.now _)

theorem spec_cellsOk_l (l : List Int) (hl : l.length ≤ 17592186044415) : ∀ (d i : Nat), i + d = l.length → Ev (fun k => spec_CellsOk.l0 k l (i : Int)) ((l.drop i).all okW && ((l.length : Int) == 71)) := by
  intro d
  induction d with
  | zero =>
    intro i hi
    refine Ev.step (fun k => spec_CellsOk.l0.eq_2 _ _ k) (Ev_neg (by omega) (Ev_is ?_))
    rw [List.drop_eq_nil_of_le (by omega)]; simp
  | succ d ih =>
    intro i hi
    have h : i < l.length := by omega
    refine Ev.step (fun k => spec_CellsOk.l0.eq_2 _ _ k) (Ev_pos (by omega) (Ev_pos (by omega) (Ev_bindp (okW_in _) ?_)))
    rw [rd_get l i h, List.drop_eq_getElem_cons h, List.all_cons]
    by_cases c : okW l[i] = true
    · refine Ev_pos c ?_
      rw [show wrap64 ((i : Int) + 1) = ((i + 1 : Nat) : Int) by rw [w64 (by omega) (by omega)]; omega, c, Bool.true_and]
      exact ih (i + 1) (by omega)
    · exact Ev_neg c (Ev_is (by rw [Bool.eq_false_iff.2 c]; rfl))
theorem spec_CellsOk_ev (l : List Int) (hl : l.length ≤ 17592186044415) : Ev (fun k => spec_CellsOk.f k l) (cellsOkV l) := by
  have := spec_cellsOk_l l hl l.length 0 (by omega)
  rw [List.drop_zero] at this
  exact this

theorem spec_keys_l (a : List Int) (ha : cellsOkV a = true) : ∀ (d n : Nat), n + d = 4 → Ev (fun k => spec_KeysIn.l0 k a (keysTo a n) (n : Int)) (keysTo a 4) := by
  have hz := cellsOkV_len a ha
  have hc := spec_CellsOk_ev a (by omega)
  rw [ha] at hc
  intro d
  induction d with
  | zero =>
    intro n hn
    obtain rfl : n = 4 := by omega
    exact Ev.step (fun k => spec_KeysIn.l0.eq_2 _ _ _ k) (Ev_neg (by omega) (Ev.step (fun k => spec_KeysIn.j1.eq_2 _ _ _ _ k) (Ev_neg (by decide) (Ev.now _))))
  | succ d ih =>
    intro n hn
    have hr := cell_range a ha (n : Int) (by omega) (by omega)
    have hl := keysTo_length a n
    have e3 : wrap64 ((n : Int) + 1) = ((n + 1 : Nat) : Int) := by rw [w64 (by omega) (by omega)]; omega
    refine Ev.step (fun k => spec_KeysIn.l0.eq_2 _ _ _ k) (Ev_pos (by omega) (Ev.bind hc (Ev.step (fun k => spec_KeysIn.j1.eq_2 _ _ _ _ k) (Ev_pos rfl (Ev_bindp (spec_KeyCell_eq _ (by omega) (by omega)) (Ev_pos (by omega) (Ev_pos (by omega) (Ev.bind (spec_Untag_ev _) ?_))))))))
    rw [e3]
    have := ih (n + 1) (by omega)
    by_cases c : (untagV (rd a (3 + (n : Int)))).2 = 0
    · rw [show keysTo a (n + 1) = keysTo a n by simp only [keysTo]; rw [if_pos c]] at this
      exact Ev_pos c this
    · rw [show keysTo a (n + 1) = keysTo a n ++ [(untagV (rd a (3 + (n : Int)))).1] by simp only [keysTo]; rw [if_neg c]] at this
      exact Ev_neg c (Ev_pos (by omega) this)
theorem spec_KeysIn_ev (a : List Int) (hl : a.length ≤ 17592186044415) : Ev (fun k => spec_KeysIn.f k a) (keysV a) := by
  unfold keysV
  by_cases c : cellsOkV a = true
  · rw [if_pos c]; exact spec_keys_l a c 4 0 (by omega)
  · rw [if_neg c]
    have hc := spec_CellsOk_ev a hl
    rw [Bool.eq_false_iff.2 c] at hc
    exact Ev.step (fun k => spec_KeysIn.l0.eq_2 _ _ _ k) (Ev_pos (by omega) (Ev.bind hc (Ev.step (fun k => spec_KeysIn.j1.eq_2 _ _ _ _ k) (Ev_neg (by decide) (Ev.now _)))))

theorem within_eq (a b c : Int) : impl_within.f a b c = some (decide (b ≤ a ∧ a ≤ c)) := by
  unfold impl_within.f
  by_cases h : b ≤ a <;> simp [h]

theorem impl_KeyCell_eq (s : Int) (h0 : 0 ≤ s) (h1 : s ≤ 3) : impl_KeyCell.f s = some (3 + s) := by
  unfold impl_KeyCell.f
  rw [within_eq, Option.bind_some, if_pos (decide_eq_true ⟨h0, h1⟩), w64 (by omega) (by omega)]

theorem impl_keyOk_step (s : ByteArray) (i : Nat) (h1 : (i : Int) < (s.size : Int)) (k : Nat) : impl_KeyOk.l0 (k + 1) s (s.size : Int) (i : Int) = if kb (bt s i) = true then impl_KeyOk.l0 k s (s.size : Int) (wrap64 ((i : Int) + 1)) else some false := by
  simp only [impl_KeyOk.l0]
  rw [if_pos h1, if_pos (by omega), if_pos h1]
  unfold kb
  generalize bt s (i : Int) = c
  generalize impl_KeyOk.l0 k s (s.size : Int) (wrap64 ((i : Int) + 1)) = X
  by_cases a1 : 97 ≤ c <;> by_cases a2 : c ≤ 122 <;> by_cases a3 : 65 ≤ c <;> by_cases a4 : c ≤ 90 <;> by_cases a5 : 48 ≤ c <;> by_cases a6 : c ≤ 57 <;> by_cases a7 : c = 95 <;> first | (exfalso; omega) | simp [a1, a2, a3, a4, a5, a6, a7]
theorem impl_keyOk_l (s : ByteArray) (hs : s.size ≤ 140737488351232) : ∀ (d i : Nat), i + d = s.size → (∀ j, j < i → kb (bt s (j : Nat)) = true) → Ev (fun k => impl_KeyOk.l0 k s (s.size : Int) (i : Int)) (keyOkV s) := by
  intro d
  induction d with
  | zero =>
    intro i hi hk
    refine Ev.step (fun k => impl_KeyOk.l0.eq_2 _ _ _ k) (Ev_neg (by omega) (Ev_bindp (within_eq _ _ _) (Ev_is ?_)))
    obtain rfl : i = s.size := by omega
    have e : (1 ≤ (s.size : Int) ∧ (s.size : Int) ≤ 4) ↔ (1 ≤ s.size ∧ s.size ≤ 4 ∧ ∀ j, j < s.size → kb (bt s (j : Nat)) = true) := ⟨fun h => ⟨by omega, by omega, hk⟩, fun h => ⟨by omega, by omega⟩⟩
    unfold keyOkV
    rw [decide_eq_decide.2 e]
  | succ d ih =>
    intro i hi hk
    refine Ev.step (fun k => impl_keyOk_step s i (by omega) k) ?_
    rw [w64 (n := (i : Int) + 1) (by omega) (by omega)]
    by_cases h : kb (bt s i) = true
    · refine Ev_pos h ?_
      have e3 : ((i : Int) + 1) = ((i + 1 : Nat) : Int) := by omega
      rw [e3]
      refine ih (i + 1) (by omega) fun j hj => ?_
      rcases Nat.lt_or_ge j i with h' | h'
      · exact hk j h'
      · obtain rfl : j = i := by omega
        exact h
    · refine Ev_neg h (Ev_is ?_)
      unfold keyOkV
      congr 1
      symm
      exact decide_eq_false fun hh => h (hh.2.2 i (by omega))
theorem impl_KeyOk_ev (s : ByteArray) (hs : s.size ≤ 140737488351232) : Ev (fun k => impl_KeyOk.f k s) (keyOkV s) := impl_keyOk_l s hs s.size 0 (by omega) (fun j hj => by omega)

def readFixedV (s : ByteArray) (w : Int) : Int × Bool := if (1 ≤ w ∧ w ≤ 7) ∧ w ≤ s.size then (rfV s w.toNat, true) else (0, false)

theorem impl_rf_l (s : ByteArray) (w : Nat) (hw : w ≤ 7) (hs : w ≤ s.size) (hz : s.size ≤ 140737488351232) : ∀ (d i : Nat), i + d = w → Ev (fun k => impl_ReadFixed.l0 k s (rfV s i) (w : Int) (i : Int)) (rfV s w, true) := by
  intro d
  induction d with
  | zero =>
    intro i hi
    refine Ev.step (fun k => impl_ReadFixed.l0.eq_2 _ _ _ _ k) (Ev_neg (by omega) ?_)
    obtain rfl : i = w := by omega
    exact Ev.now _
  | succ d ih =>
    intro i hi
    refine Ev.step (fun k => impl_ReadFixed.l0.eq_2 _ _ _ _ k) (Ev_pos (by omega) (Ev_pos (by omega) (Ev_pos (by omega) ?_)))
    have h := rfV_le s i 6 (by omega)
    have b := bt_range s i
    have e3 : wrap64 ((i : Int) + 1) = ((i + 1 : Nat) : Int) := by rw [w64 (by omega) (by omega)]; omega
    have e4 : Go.bits .or .i64 (wrap64 (rfV s i * 256)) (wrap64 (bt s (i : Int))) = rfV s (i + 1) := by
      rw [w64 (n := rfV s i * 256) (by omega) (by omega), w64 (n := bt s (i : Int)) (by omega) (by omega)]
      exact bits_join .i64 63 (by decide) wraps_i64 8 _ _ (by omega) (by omega) (by omega) (by omega) (by omega) (by omega)
    rw [e3, e4]
    exact ih (i + 1) (by omega)
theorem impl_ReadFixed_ev (s : ByteArray) (w : Int) (hz : s.size ≤ 140737488351232) : Ev (fun k => impl_ReadFixed.f k s w) (readFixedV s w) := by
  refine Ev_bindp (within_eq _ _ _) ?_
  unfold readFixedV
  by_cases h : 1 ≤ w ∧ w ≤ 7
  · obtain ⟨m, rfl⟩ := Int.eq_ofNat_of_zero_le (show 0 ≤ w by omega)
    refine Ev_pos (decide_eq_true h) (Ev.step (fun k => impl_ReadFixed.j0.eq_2 _ _ _ k) ?_)
    by_cases h' : (m : Int) ≤ s.size
    · rw [if_pos ⟨h, h'⟩, Int.toNat_natCast]
      exact Ev_neg (by simp; omega) (impl_rf_l s m (by omega) (by omega) hz m 0 (by omega))
    · rw [if_neg (fun x => h' x.2)]
      exact Ev_pos (by simp; omega) (Ev.now _)
  · rw [if_neg (fun x => h x.1)]
    exact Ev_neg (by simpa using h) (Ev.step (fun k => impl_ReadFixed.j0.eq_2 _ _ _ k) (Ev_pos rfl (Ev.now _)))

theorem impl_PackKey_ev (s : ByteArray) (hs : s.size ≤ 140737488351232) : Ev (fun k => impl_PackKey.f k s) (packV s) := by
  refine Ev.bind (impl_KeyOk_ev s hs) ?_
  unfold packV
  by_cases h : keyOkV s = true
  · rw [if_pos h]
    have hz := keyOkV_size s h
    refine Ev_pos h (Ev.bind (impl_ReadFixed_ev s s.size hs) (Ev_is ?_))
    unfold readFixedV
    rw [if_pos ⟨by omega, by omega⟩, Int.toNat_natCast]
  · rw [if_neg h]
    exact Ev_neg h (Ev.now _)

theorem impl_fixed_l : ∀ (d : Nat) (n : Int) (acc : List Int), d + acc.length ≤ 7 → 0 ≤ n → n ≤ 9223372036854775807 → Ev (fun k => impl_Fixed.l0 k n (List.replicate d 0 ++ acc) ((d : Int) - 1)) (strOfNums (fixedL d n ++ acc)) := by
  intro d
  induction d with
  | zero =>
    intro n acc hl h0 h1
    exact Ev.step (fun k => impl_Fixed.l0.eq_2 _ _ _ k) (Ev_neg (by omega) (Ev_is (by simp [fixedL])))
  | succ d ih =>
    intro n acc hl h0 h1
    have e0 : (((d + 1 : Nat) : Int) - 1) = (d : Int) := by omega
    rw [e0]
    have e3 : wrap64 ((d : Int) - 1) = (d : Int) - 1 := w64 (by omega) (by omega)
    refine Ev.step (fun k => impl_Fixed.l0.eq_2 _ _ _ k) (Ev_pos (by omega) (Ev_pos (by omega) (Ev_pos (by simp; omega) ?_)))
    have e4 : (List.replicate (d + 1) (0 : Int) ++ acc).set ((d : Int)).toNat (n % 256) = List.replicate d 0 ++ ([n % 256] ++ acc) := by
      rw [Int.toNat_natCast, List.replicate_succ', List.append_assoc, List.set_append_right _ _ (by simp)]
      simp
    rw [e3, e4]
    have := ih (n / 256) ([n % 256] ++ acc) (by simp; omega) (by omega) (by omega)
    simpa [fixedL] using this
theorem impl_Fixed_ev (n w : Int) (hn : n ≤ 9223372036854775807) : Ev (fun k => impl_Fixed.f k n w) (fixedV n w) := by
  refine Ev_bindp (within_eq _ _ _) ?_
  unfold fixedV
  by_cases h : 1 ≤ w ∧ w ≤ 7
  · obtain ⟨m, rfl⟩ := Int.eq_ofNat_of_zero_le (show 0 ≤ w by omega)
    refine Ev_pos (decide_eq_true h) ?_
    by_cases h' : n < 0
    · rw [if_neg (fun x => by omega)]
      exact Ev_pos h' (Ev.step (fun k => impl_Fixed.j0.eq_2 _ _ _ k) (Ev_pos rfl (Ev.now _)))
    · have e1 : wrap64 (8 * (m : Int)) = 8 * (m : Int) := w64 (by omega) (by omega)
      have e2 : shr .i64 n (8 * (m : Int)) = n / ((256 ^ m : Nat) : Int) := by
        unfold shr
        have e3 : min (8 * (m : Int)).toNat (IntKind.bits .i64) = 8 * m := by
          show min (8 * (m : Int)).toNat 64 = 8 * m
          omega
        rw [e3, Int.pow_mul]
        simp
      have hp : (0 : Int) < ((256 ^ m : Nat) : Int) := by exact_mod_cast Nat.pow_pos (n := m) (show 0 < 256 by decide)
      refine Ev_neg h' ?_
      rw [e1, e2]
      refine Ev_pos (by omega) (Ev.step (fun k => impl_Fixed.j0.eq_2 _ _ _ k) ?_)
      by_cases hlt : n < ((256 ^ m : Nat) : Int)
      · rw [Int.toNat_natCast, if_pos ⟨h, by omega, hlt⟩]
        have e5 : n / ((256 ^ m : Nat) : Int) = 0 := Int.ediv_eq_zero_of_lt (by omega) hlt
        refine Ev_neg (by rw [e5]; decide) (Ev_pos (by omega) (Ev_pos (by omega) ?_))
        have := impl_fixed_l m n [] (by simp; omega) (by omega) hn
        rw [w64 (n := (m : Int) - 1) (by omega) (by omega)]
        simpa using this
      · rw [Int.toNat_natCast, if_neg (fun x => hlt x.2.2)]
        have e5 : n / ((256 ^ m : Nat) : Int) ≠ 0 := by
          intro e
          have h1 := Int.emod_def n ((256 ^ m : Nat) : Int)
          have h2 := Int.emod_lt_of_pos n hp
          rw [e, Int.mul_zero] at h1
          omega
        exact Ev_pos (by simpa using e5) (Ev.now _)
  · rw [if_neg (fun x => h x.1)]
    exact Ev_neg (by simpa using h) (Ev.step (fun k => impl_Fixed.j0.eq_2 _ _ _ k) (Ev_pos rfl (Ev.now _)))

theorem fixedV_at (n : Int) (w : Nat) (hw : 1 ≤ w ∧ w ≤ 4) : fixedV n (w : Int) = if 0 ≤ n ∧ n < ((256 ^ w : Nat) : Int) then strOfNums (fixedL w n) else ⟨#[]⟩ := by
  unfold fixedV
  rw [Int.toNat_natCast]
  by_cases h : 0 ≤ n ∧ n < ((256 ^ w : Nat) : Int)
  · rw [if_pos h, if_pos ⟨by omega, h⟩]
  · rw [if_neg h, if_neg (fun x => h x.2)]
theorem empty_toList : (⟨#[]⟩ : ByteArray).toList = ([] : List UInt8) := by rw [ByteArray.toList_eq]
theorem strOf_ne (w : Nat) (n : Int) (hw : 1 ≤ w) : ¬ (strOfNums (fixedL w n)).toList = ([] : List UInt8) := by
  intro e
  have := congrArg List.length e
  rw [ByteArray.toList_eq, strOfNums_data] at this
  simp [fixedL_length] at this
  omega
/-- One width: the number fits and is a key of it, or the next width is tried. -/
theorem impl_unpack_round (n : Int) (hn : n ≤ 9223372036854775807) (w : Nat) (hw : 1 ≤ w ∧ w ≤ 4) (r : ByteArray × Bool)
    (hyes : (0 < n ∧ n < ((256 ^ w : Nat) : Int)) → keyOkL (fixedL w n) = true → r = (strOfNums (fixedL w n), true))
    (hno : ¬ ((0 < n ∧ n < ((256 ^ w : Nat) : Int)) ∧ keyOkL (fixedL w n) = true) → Ev (fun k => impl_UnpackKey.l0 k n ((w + 1 : Nat) : Int)) r) :
    Ev (fun k => impl_UnpackKey.l0 k n (w : Int)) r := by
  have e1 : wrap64 ((w : Int) + 1) = ((w + 1 : Nat) : Int) := by rw [w64 (by omega) (by omega)]; omega
  refine Ev.step (fun k => impl_UnpackKey.l0.eq_2 _ _ k) (Ev_pos (by omega) (Ev.bind (impl_Fixed_ev n w hn) ?_))
  rw [fixedV_at n w hw, e1]
  by_cases h : 0 ≤ n ∧ n < ((256 ^ w : Nat) : Int)
  · rw [if_pos h]
    refine Ev_neg (strOf_ne w n hw.1) (Ev.bind (impl_PackKey_ev _ (by rw [strOf_size]; omega)) ?_)
    by_cases hk : keyOkL (fixedL w n) = true
    · have hp := pack_fixed w n h.1 h.2 (by rw [keyOk_fixed]; exact hk)
      refine Ev_pos hp ?_
      by_cases hz : n > 0
      · exact Ev_pos hz (Ev_is (by rw [hyes ⟨hz, h.2⟩ hk]))
      · exact Ev_neg hz (hno (fun x => hz x.1.1))
    · have hp : packV (strOfNums (fixedL w n)) = 0 := by unfold packV; rw [keyOk_fixed, if_neg hk]
      rw [hp]
      by_cases hz : 0 = n
      · exact Ev_pos hz (Ev_neg (by omega) (hno (fun x => hk x.2)))
      · exact Ev_neg hz (hno (fun x => hk x.2))
  · rw [if_neg h]
    exact Ev_pos empty_toList (hno (fun x => h ⟨by omega, x.1.2⟩))
theorem keyOkL_zero (l : List Int) : keyOkL (0 :: l) = false := by simp [keyOkL, kb]
theorem fixedL_cons : ∀ (w : Nat) (n : Int), 0 ≤ n → n < ((256 ^ w : Nat) : Int) → fixedL (w + 1) n = 0 :: fixedL w n
  | 0, n, h0, h1 => by
    have : n = 0 := by simp at h1; omega
    subst this; rfl
  | w + 1, n, h0, h1 => by
    have ih := fixedL_cons w (n / 256) (by omega) (by rw [Nat.pow_succ] at h1; omega)
    show fixedL (w + 1) (n / 256) ++ [n % 256] = 0 :: (fixedL w (n / 256) ++ [n % 256])
    rw [ih]; rfl
theorem unpack_small (n : Int) (w : Nat) (h0 : 0 ≤ n) (h1 : n < ((256 ^ w : Nat) : Int)) : ¬ keyOkL (fixedL (w + 1) n) = true := by
  rw [fixedL_cons w n h0 h1, keyOkL_zero]; simp
theorem unpackV_is (n : Int) (w : Nat) (hw : widthV n = w) (h : 1 ≤ n ∧ n ≤ 4294967295) : unpackV n = if keyOkL (fixedL w n) = true then (strOfNums (fixedL w n), true) else (⟨#[]⟩, false) := by
  unfold unpackV keyOf
  rw [hw, keyOk_fixed]
  by_cases hk : keyOkL (fixedL w n) = true
  · rw [if_pos hk, if_pos ⟨h, hk⟩]
  · rw [if_neg hk, if_neg (fun x => hk x.2)]
theorem unpackV_out (n : Int) (h : ¬ (1 ≤ n ∧ n ≤ 4294967295)) : unpackV n = (⟨#[]⟩, false) := by unfold unpackV; rw [if_neg (fun x => h x.1)]
theorem impl_UnpackKey_ev (n : Int) (hn : n ≤ 9223372036854775807) : Ev (fun k => impl_UnpackKey.f k n) (unpackV n) := by
  have p1 : ((256 ^ 1 : Nat) : Int) = 256 := by simp
  have p2 : ((256 ^ 2 : Nat) : Int) = 65536 := by simp
  have p3 : ((256 ^ 3 : Nat) : Int) = 16777216 := by simp
  have p4 : ((256 ^ 4 : Nat) : Int) = 4294967296 := by simp
  have w1 : 1 ≤ n → n < 256 → widthV n = 1 := fun _ h => by unfold widthV; rw [if_pos h]
  have w2 : 256 ≤ n → n < 65536 → widthV n = 2 := fun h0 h => by unfold widthV; rw [if_neg (by omega), if_pos h]
  have w3 : 65536 ≤ n → n < 16777216 → widthV n = 3 := fun h0 h => by unfold widthV; rw [if_neg (by omega), if_neg (by omega), if_pos h]
  have w4 : 16777216 ≤ n → widthV n = 4 := fun h0 => by unfold widthV; rw [if_neg (by omega), if_neg (by omega), if_neg (by omega)]
  have yes : ∀ w : Nat, widthV n = w → 1 ≤ n → n ≤ 4294967295 → keyOkL (fixedL w n) = true → unpackV n = (strOfNums (fixedL w n), true) := fun w hw h1 h2 hk => by
    rw [unpackV_is n w hw ⟨h1, h2⟩, if_pos hk]
  refine impl_unpack_round n hn 1 (by omega) _ ?_ fun n1 => ?_
  · rintro ⟨a, b⟩ hk
    exact yes 1 (w1 (by omega) (by omega)) (by omega) (by omega) hk
  refine impl_unpack_round n hn 2 (by omega) _ ?_ fun n2 => ?_
  · rintro ⟨a, b⟩ hk
    rcases Int.lt_or_le n 256 with c | c
    · exact absurd hk (unpack_small n 1 (by omega) (by omega))
    · exact yes 2 (w2 (by omega) (by omega)) (by omega) (by omega) hk
  refine impl_unpack_round n hn 3 (by omega) _ ?_ fun n3 => ?_
  · rintro ⟨a, b⟩ hk
    rcases Int.lt_or_le n 65536 with c | c
    · exact absurd hk (unpack_small n 2 (by omega) (by omega))
    · exact yes 3 (w3 (by omega) (by omega)) (by omega) (by omega) hk
  refine impl_unpack_round n hn 4 (by omega) _ ?_ fun n4 => ?_
  · rintro ⟨a, b⟩ hk
    rcases Int.lt_or_le n 16777216 with c | c
    · exact absurd hk (unpack_small n 3 (by omega) (by omega))
    · exact yes 4 (w4 (by omega)) (by omega) (by omega) hk
  refine Ev.step (fun k => impl_UnpackKey.l0.eq_2 _ _ k) (Ev_neg (by omega) (Ev_is ?_))
  congr 1
  by_cases h : 1 ≤ n ∧ n ≤ 4294967295
  · have key : ∀ w : Nat, widthV n = w → ¬ ((0 < n ∧ n < ((256 ^ w : Nat) : Int)) ∧ keyOkL (fixedL w n) = true) → n < ((256 ^ w : Nat) : Int) → ((⟨#[]⟩, false) : ByteArray × Bool) = unpackV n := fun w hw hno hlt => by
      rw [unpackV_is n w hw h, if_neg (fun hk => hno ⟨⟨by omega, hlt⟩, hk⟩)]
    rcases Int.lt_or_le n 256 with c | c
    · exact key 1 (w1 h.1 c) n1 (by omega)
    rcases Int.lt_or_le n 65536 with c2 | c2
    · exact key 2 (w2 c c2) n2 (by omega)
    rcases Int.lt_or_le n 16777216 with c3 | c3
    · exact key 3 (w3 c2 c3) n3 (by omega)
    · exact key 4 (w4 c3) n4 (by omega)
  · exact (unpackV_out n h).symm

theorem impl_Tagged_ev (s : ByteArray) (k : Int) (hs : s.size ≤ 140737488351232) : Ev (fun q => impl_Tagged.f q s k) (taggedV s k) := by
  refine Ev.bind (impl_KeyOk_ev s hs) ?_
  unfold taggedV
  by_cases h : keyOkV s = true
  · refine Ev_pos h (Ev_bindp (impl_KindWord_eq k) ?_)
    by_cases hk : 1 ≤ k ∧ k ≤ 3
    · rw [if_pos ⟨h, hk⟩]
      refine Ev_neg (fun x => (kwV_empty k).1 x hk) (Ev.bind (impl_PackKey_ev s hs) (Ev_is ?_))
      have hp := packV_range s
      rw [w64 (n := 4 * packV s) (by omega) (by omega), w64 (by omega) (by omega)]
    · rw [if_neg (fun x => hk x.2)]
      exact Ev_pos ((kwV_empty k).2 hk) (Ev.now _)
  · rw [if_neg (fun x => h x.1)]
    exact Ev_neg h (Ev.now _)

theorem impl_Untag_ev (n : Int) (h0 : -9223372036854775808 ≤ n) (h1 : n ≤ 9223372036854775807) : Ev (fun q => impl_Untag.f q n) (untagV n) := by
  by_cases hn : n < 0
  · have e0 : Int.tdiv n 4 = - ((-n) / 4) := by
      have := Int.neg_tdiv (a := -n) (b := 4)
      rw [Int.neg_neg] at this
      rw [this, Int.tdiv_eq_ediv_of_nonneg (by omega)]
    have e1 : wrap64 (Int.tdiv n 4) = Int.tdiv n 4 := by rw [e0]; exact w64 (by omega) (by omega)
    have hout : unpackV (Int.tdiv n 4) = (⟨#[]⟩, false) := unpackV_out _ (by rw [e0]; omega)
    have e : untagV n = (⟨#[]⟩, 0) := by unfold untagV; rw [if_neg (fun x => by omega)]
    rw [e]
    show Ev (fun q => (impl_UnpackKey.f q (wrap64 (Int.tdiv n 4))).bind fun bt130 => _) _
    rw [e1]
    refine Ev.bind (impl_UnpackKey_ev _ (by rw [e0]; omega)) ?_
    rw [hout]
    exact Ev_neg (by decide) (Ev.now _)
  · have e1 : wrap64 (Int.tdiv n 4) = n / 4 := by rw [Int.tdiv_eq_ediv_of_nonneg (by omega), w64 (by omega) (by omega)]
    have e2 : Int.tmod n 4 = n % 4 := Int.tmod_eq_emod_of_nonneg (by omega)
    show Ev (fun q => (impl_UnpackKey.f q (wrap64 (Int.tdiv n 4))).bind fun bt130 => if bt130.2 = true then (impl_Tagged.f q bt130.1 (Int.tmod n 4)).bind fun t132 => if t132 = n then some (bt130.1, Int.tmod n 4) else some (⟨#[]⟩, 0) else some (⟨#[]⟩, 0)) _
    rw [e1, e2]
    refine Ev.bind (impl_UnpackKey_ev _ (by omega)) ?_
    by_cases hu : (unpackV (n / 4)).2 = true
    · have hf := unpackV_true _ hu
      have hz := unpack_size (n / 4)
      refine Ev_pos hu (Ev.bind (impl_Tagged_ev _ _ (by omega)) ?_)
      by_cases hk : 1 ≤ n % 4
      · have et : taggedV (unpackV (n / 4)).1 (n % 4) = n := by
          unfold taggedV
          rw [if_pos ⟨hf.2.1, hk, by omega⟩, hf.2.2]; omega
        have e : untagV n = ((unpackV (n / 4)).1, n % 4) := by unfold untagV; rw [if_pos ⟨by omega, hu, hk⟩]
        rw [e]
        exact Ev_pos et (Ev.now _)
      · have et : taggedV (unpackV (n / 4)).1 (n % 4) = 0 := by
          unfold taggedV
          rw [if_neg (fun x => hk x.2.1)]
        have e : untagV n = (⟨#[]⟩, 0) := by unfold untagV; rw [if_neg (fun x => hk x.2.2)]
        rw [e]
        exact Ev_neg (by rw [et]; omega) (Ev.now _)
    · have e : untagV n = (⟨#[]⟩, 0) := by unfold untagV; rw [if_neg (fun x => hu x.2.1)]
      rw [e]
      exact Ev_neg hu (Ev.now _)

theorem impl_cellsOk_l (l : List Int) (hl : l.length ≤ 17592186044415) : ∀ (d i : Nat), i + d = l.length → Ev (fun k => impl_CellsOk.l0 k l (i : Int)) ((l.drop i).all okW && ((l.length : Int) == 71)) := by
  intro d
  induction d with
  | zero =>
    intro i hi
    refine Ev.step (fun k => impl_CellsOk.l0.eq_2 _ _ k) (Ev_neg (by omega) (Ev_is ?_))
    rw [List.drop_eq_nil_of_le (by omega)]; simp
  | succ d ih =>
    intro i hi
    have h : i < l.length := by omega
    refine Ev.step (fun k => impl_CellsOk.l0.eq_2 _ _ k) (Ev_pos (by omega) (Ev_pos (by omega) (Ev_bindp (okW_in _) ?_)))
    rw [rd_get l i h, List.drop_eq_getElem_cons h, List.all_cons]
    by_cases c : okW l[i] = true
    · refine Ev_pos c ?_
      rw [show wrap64 ((i : Int) + 1) = ((i + 1 : Nat) : Int) by rw [w64 (by omega) (by omega)]; omega, c, Bool.true_and]
      exact ih (i + 1) (by omega)
    · exact Ev_neg c (Ev_is (by rw [Bool.eq_false_iff.2 c]; rfl))
theorem impl_CellsOk_ev (l : List Int) (hl : l.length ≤ 17592186044415) : Ev (fun k => impl_CellsOk.f k l) (cellsOkV l) := by
  have := impl_cellsOk_l l hl l.length 0 (by omega)
  rw [List.drop_zero] at this
  exact this

theorem impl_keys_l (a : List Int) (ha : cellsOkV a = true) : ∀ (d n : Nat), n + d = 4 → Ev (fun k => impl_KeysIn.l0 k a (keysTo a n) (n : Int)) (keysTo a 4) := by
  have hz := cellsOkV_len a ha
  intro d
  induction d with
  | zero =>
    intro n hn
    obtain rfl : n = 4 := by omega
    exact Ev.step (fun k => impl_KeysIn.l0.eq_2 _ _ _ k) (Ev_neg (by omega) (Ev.now _))
  | succ d ih =>
    intro n hn
    have hr := cell_range a ha (n : Int) (by omega) (by omega)
    have hl := keysTo_length a n
    have e3 : wrap64 ((n : Int) + 1) = ((n + 1 : Nat) : Int) := by rw [w64 (by omega) (by omega)]; omega
    refine Ev.step (fun k => impl_KeysIn.l0.eq_2 _ _ _ k) (Ev_pos (by omega) (Ev_bindp (impl_KeyCell_eq _ (by omega) (by omega)) (Ev_pos (by omega) (Ev_pos (by omega) (Ev.bind (impl_Untag_ev (rd a (3 + (n : Int))) (by omega) (by omega)) ?_)))))
    rw [e3]
    have := ih (n + 1) (by omega)
    have hu : 0 ≤ (untagV (rd a (3 + (n : Int)))).2 := by
      rcases untag_facts (rd a (3 + (n : Int))) with h | h
      · rw [h]; decide
      · omega
    by_cases c : (untagV (rd a (3 + (n : Int)))).2 = 0
    · rw [show keysTo a (n + 1) = keysTo a n by simp only [keysTo]; rw [if_pos c]] at this
      exact Ev_neg (by omega) this
    · rw [show keysTo a (n + 1) = keysTo a n ++ [(untagV (rd a (3 + (n : Int)))).1] by simp only [keysTo]; rw [if_neg c]] at this
      exact Ev_pos (by omega) (Ev_pos (by omega) this)
theorem impl_KeysIn_ev (a : List Int) (hl : a.length ≤ 17592186044415) : Ev (fun k => impl_KeysIn.f k a) (keysV a) := by
  refine Ev_bindp (a := []) rfl (Ev.bind (impl_CellsOk_ev a hl) ?_)
  unfold keysV
  by_cases c : cellsOkV a = true
  · rw [if_pos c]; exact Ev_pos c (impl_keys_l a c 4 0 (by omega))
  · rw [if_neg c]; exact Ev_neg c (Ev.now _)

theorem FnExactKeysIn : laws_FnExactKeysIn.Pure := by
  intro l hm h8 hw
  refine Ev.rounds (r := true) ?_
  by_cases h : (l.length : Int) > 1048576
  · exact Ev_pos h (Ev.now _)
  have hl : l.length ≤ 1048576 := by omega
  have hk := keysV_length l
  have hj0 : Ev (fun k => laws_FnExactKeysIn.j0 k l (keysV l) (keysV l) false) true :=
    Ev.step (fun k => laws_FnExactKeysIn.j0.eq_2 _ _ _ _ k) (Ev_neg (by decide) (Ev.bind (markS_ev _ hk) (Ev.bind (heldS_ev _ hk) (Ev_neg (by omega) (Ev_pos rfl (Ev.bind (toInt_ev l hl) (Ev.bind (impl_KeysIn_ev l (by omega)) (Ev.bind (eqStr_refl _ (by omega)) (Ev_pos rfl (Ev.bind (heldS_ev _ hk) (Ev_neg (by omega) (Ev_pos rfl (Ev.now _)))))))))))))
  exact Ev_neg h (Ev.bind (toInt_ev l hl) (Ev.bind (spec_KeysIn_ev l (by omega)) (Ev.bind (toInt_ev l hl) (Ev.bind (impl_KeysIn_ev l (by omega)) (Ev.bind (eqStr_refl _ (by omega)) (Ev_pos rfl (Ev.bind (toInt_ev l hl) (Ev.bind (eqInt_refl l hl) (Ev_pos rfl (Ev.bind (mark_ev _ hl) (Ev_neg (by omega) (Ev.bind (eqStr_refl _ (by omega)) hj0))))))))))))

end Go.Proofs.Ytgpbkfblbibafaa.Pure
