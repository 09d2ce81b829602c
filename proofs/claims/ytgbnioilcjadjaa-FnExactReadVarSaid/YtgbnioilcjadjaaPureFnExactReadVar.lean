/- What is proved here: the Go law FnExactReadVar answers true for every input, over the functions that print.sh printed; no condition. -/
import Derived.Test.YtgbnioilcjadjaaPFnExactReadVarx1
set_option linter.unusedVariables false
set_option linter.unusedSimpArgs false
namespace Go.Proofs.Ytgbnioilcjadjaa.Pure
open Go.RowKit Go.Proofs.Ytgbnioilcjadjaa.PFnExactReadVar Go.Proofs.YtgbnioilcjadjaaW.PrintWords Go.Proofs.YtgbnioilcjadjaaW.PrintLast

theorem Ev_pos {α : Type} {c : Prop} [Decidable c] {a b : Nat → Option α} {r : α} (h : c) (e : Ev a r) : Ev (fun k => if c then a k else b k) r :=
  Ev.congr (fun k => if_pos h) e
theorem Ev_neg {α : Type} {c : Prop} [Decidable c] {a b : Nat → Option α} {r : α} (h : ¬ c) (e : Ev b r) : Ev (fun k => if c then a k else b k) r :=
  Ev.congr (fun k => if_neg h) e
theorem Ev_bindp {α β : Type} {x : Option α} {f : Nat → α → Option β} {a : α} {r : β} (h : x = some a) (e : Ev (fun n => f n a) r) : Ev (fun n => x.bind (f n)) r := by
  subst h
  exact e
theorem Ev_is {α : Type} {x : Option α} {r : α} (h : x = some r) : Ev (fun _ => x) r := ⟨0, fun _ _ => h⟩

theorem w64 {n : Int} (h0 : -9223372036854775808 ≤ n) (h1 : n ≤ 9223372036854775807) : wrap64 n = n := by
  unfold wrap64
  omega

/-- The groups of seven bits of n, at most f + 1 of them. -/
def varL : Nat → Int → List Int
  | 0, n => [n % 256]
  | f + 1, n => if 128 ≤ n then (128 + n % 128) :: varL f (n / 128) else [n % 256]
theorem varL_length : ∀ f n, (varL f n).length ≤ f + 1
  | 0, n => by simp [varL]
  | f + 1, n => by
    unfold varL
    split
    · have := varL_length f (n / 128); simp; omega
    · simp

/-- The number of groups of seven bits, least significant first. -/
def valL : List Int → Int
  | [] => 0
  | b :: l => b % 128 + 128 * valL l
theorem valL_lt : ∀ l : List Int, 0 ≤ valL l ∧ valL l < ((128 ^ l.length : Nat) : Int)
  | [] => by simp [valL]
  | b :: l => by
    have ih := valL_lt l
    simp only [valL, List.length_cons, Nat.pow_succ]
    omega
theorem valL_snoc (c : Int) : ∀ l : List Int, valL (l ++ [c]) = valL l + ((128 ^ l.length : Nat) : Int) * (c % 128)
  | [] => by simp [valL]
  | b :: l => by
    have ih := valL_snoc c l
    simp only [List.cons_append, valL, List.length_cons, ih, Nat.pow_succ, Int.natCast_mul, Int.mul_add]
    rw [Int.mul_comm ((128 ^ l.length : Nat) : Int) ((128 : Nat) : Int), Int.mul_assoc]
    omega
/-- Is a list of bytes the varint of a number? 'first': may it be one zero byte? -/
def isVar (first : Bool) : List Int → Prop
  | [] => False
  | b :: l => (b < 128 ∧ l = [] ∧ (first = true ∨ b ≠ 0)) ∨ (128 ≤ b ∧ isVar false l)
theorem isVar_varL : ∀ (f : Nat) (n : Int) (first : Bool), 0 ≤ n → n < ((128 ^ (f + 1) : Nat) : Int) → (first = true ∨ n ≠ 0) → isVar first (varL f n) ∧ valL (varL f n) = n ∧ ∀ x ∈ varL f n, 0 ≤ x ∧ x ≤ 255
  | 0, n, first, h0, h1, hf => by
    have e : n % 256 = n := by omega
    simp only [varL, e, isVar, valL]
    refine ⟨.inl ⟨by omega, trivial, hf⟩, by omega, ?_⟩
    intro x hx
    simp only [List.mem_singleton] at hx
    omega
  | f + 1, n, first, h0, h1, hf => by
    unfold varL
    by_cases h : 128 ≤ n
    · rw [if_pos h]
      have ih := isVar_varL f (n / 128) false (by omega) (by rw [Nat.pow_succ] at h1; omega) (.inr (by omega))
      refine ⟨.inr ⟨by omega, ih.1⟩, ?_, ?_⟩
      · simp only [valL, ih.2.1]; omega
      · intro x hx
        rcases List.mem_cons.1 hx with hx | hx
        · omega
        · exact ih.2.2 x hx
    · rw [if_neg h]
      have e : n % 256 = n := by omega
      simp only [e, isVar, valL]
      refine ⟨.inl ⟨by omega, trivial, hf⟩, by omega, ?_⟩
      intro x hx
      simp only [List.mem_singleton] at hx
      omega
theorem varL_isVar : ∀ (l : List Int) (f : Nat) (first : Bool), isVar first l → (∀ x ∈ l, 0 ≤ x ∧ x ≤ 255) → l.length ≤ f + 1 → varL f (valL l) = l ∧ (first = false → 1 ≤ valL l)
  | [], f, first, h, _, _ => by simp [isVar] at h
  | b :: l, f, first, h, hr, hl => by
    have hb := hr b (by simp)
    simp only [isVar] at h
    rcases h with ⟨h1, rfl, h3⟩ | ⟨h1, h2⟩
    · have e : valL [b] = b := by simp only [valL]; omega
      rw [e]
      refine ⟨?_, ?_⟩
      · cases f with
        | zero => simp only [varL]; congr 1; omega
        | succ f => unfold varL; rw [if_neg (by omega)]; congr 1; omega
      · intro hf
        rcases h3 with h3 | h3
        · rw [hf] at h3; cases h3
        · omega
    · cases f with
      | zero =>
        have : l = [] := List.eq_nil_of_length_eq_zero (by simp only [List.length_cons] at hl; omega)
        subst this
        simp [isVar] at h2
      | succ f =>
        have ih := varL_isVar l f false h2 (fun x hx => hr x (List.mem_cons_of_mem _ hx)) (by simp at hl; omega)
        have hv := ih.2 rfl
        have e : valL (b :: l) = b % 128 + 128 * valL l := rfl
        refine ⟨?_, fun _ => by omega⟩
        unfold varL
        rw [e, if_pos (by omega), show (b % 128 + 128 * valL l) / 128 = valL l by omega, ih.1]
        congr 1
        omega
theorem isVar_all : ∀ (l : List Int) (first : Bool), (∀ x ∈ l, 128 ≤ x) → ¬ isVar first l
  | [], first, _ => by simp [isVar]
  | b :: l, first, h => by
    have hb := h b (by simp)
    have ih := isVar_all l false (fun x hx => h x (List.mem_cons_of_mem _ hx))
    simp only [isVar]
    rintro (⟨h1, _⟩ | ⟨_, h2⟩)
    · omega
    · exact ih h2
theorem isVar_snoc (c : Int) (hc : c < 128) : ∀ (l : List Int) (first : Bool), (∀ x ∈ l, 128 ≤ x) → (isVar first (l ++ [c]) ↔ ((first = true ∧ l = []) ∨ c ≠ 0))
  | [], first, _ => by
    simp only [List.nil_append, isVar]
    constructor
    · rintro (⟨_, _, h⟩ | ⟨h, _⟩)
      · rcases h with h | h
        · exact .inl ⟨h, trivial⟩
        · exact .inr h
      · omega
    · rintro (⟨h, _⟩ | h)
      · exact .inl ⟨hc, trivial, .inl h⟩
      · exact .inl ⟨hc, trivial, .inr h⟩
  | b :: l, first, h => by
    have hb := h b (by simp)
    have ih := isVar_snoc c hc l false (fun x hx => h x (List.mem_cons_of_mem _ hx))
    simp only [List.cons_append, isVar, ih]
    constructor
    · rintro (⟨h1, _⟩ | ⟨_, (⟨h2, _⟩ | h2)⟩)
      · omega
      · cases h2
      · exact .inr h2
    · rintro (⟨_, h2⟩ | h2)
      · cases h2
      · exact .inr ⟨hb, .inr h2⟩
theorem isVar_mid (c : Int) (hc : c < 128) (r : List Int) (hr : r ≠ []) : ∀ (l : List Int) (first : Bool), (∀ x ∈ l, 128 ≤ x) → ¬ isVar first (l ++ c :: r)
  | [], first, _ => by
    simp only [List.nil_append, isVar]
    rintro (⟨_, h, _⟩ | ⟨h, _⟩)
    · exact hr h
    · omega
  | b :: l, first, h => by
    have hb := h b (by simp)
    have ih := isVar_mid c hc r hr l false (fun x hx => h x (List.mem_cons_of_mem _ hx))
    simp only [List.cons_append, isVar]
    rintro (⟨h1, _⟩ | ⟨_, h2⟩)
    · omega
    · exact ih h2
theorem bytesOf_range (s : ByteArray) : ∀ x ∈ bytesOf s, 0 ≤ x ∧ x ≤ 255 := by
  intro x hx
  unfold bytesOf at hx
  obtain ⟨b, _, rfl⟩ := List.mem_map.1 hx
  have := b.toNat_lt
  omega
theorem nums_back (l : List UInt8) (xs : List Int) (h : ∀ x ∈ xs, 0 ≤ x ∧ x ≤ 255) : (xs.map fun n => UInt8.ofNat n.toNat) = l ↔ xs = l.map fun b => (b.toNat : Int) := by
  constructor
  · intro e
    rw [← e, List.map_map]
    symm
    conv => rhs; rw [← List.map_id xs]
    apply List.map_congr_left
    intro x hx
    have := h x hx
    simp only [Function.comp, UInt8.toNat_ofNat', id]
    omega
  · intro e
    rw [e, List.map_map]
    conv => rhs; rw [← List.map_id l]
    apply List.map_congr_left
    intro b _
    simp
theorem same_take (s : ByteArray) (xs : List Int) (h : ∀ x ∈ xs, 0 ≤ x ∧ x ≤ 255) (k : Nat) : (strOfNums xs).toList = (s.extract 0 k).toList ↔ xs = (bytesOf s).take k := by
  rw [ByteArray.toList_eq, ByteArray.toList_eq]
  have e : (s.extract 0 k).data.toList = s.data.toList.take k := by simp
  rw [e, strOfNums_data, nums_back _ _ h]
  unfold bytesOf
  rw [List.map_take]
theorem take_at (s : ByteArray) (i : Nat) (h : i < s.size) : (bytesOf s).take (i + 1) = (bytesOf s).take i ++ [bt s i] := by
  have hl : i < (bytesOf s).length := by rw [bytesOf_length]; exact h
  rw [List.take_succ_eq_append_getElem hl, ← rd_bytesOf]
  congr 2
  simp [rd, List.getD_eq_getElem?_getD, List.getElem?_eq_getElem hl]
theorem take_mid (s : ByteArray) (i k : Nat) (h : i < s.size) (hk : i + 1 < k) (hk' : k ≤ s.size) : ∃ r, r ≠ [] ∧ (bytesOf s).take k = (bytesOf s).take i ++ bt s i :: r := by
  refine ⟨((bytesOf s).take k).drop (i + 1), ?_, ?_⟩
  · intro e
    have := congrArg List.length e
    simp [bytesOf_length] at this
    omega
  · have e := (List.take_append_drop (i + 1) ((bytesOf s).take k)).symm
    rw [List.take_take, show min (i + 1) k = i + 1 by omega, take_at s i h] at e
    exact e.trans (by simp)
/-- What is read from byte i on, at most d bytes: the number, and where it ends. -/
def rvFrom (s : ByteArray) : Nat → Nat → Int × Int
  | 0, _ => (0, 0)
  | d + 1, i => if bt s i < 128 then (if 0 < i ∧ bt s i = 0 then (0, 0) else (valL ((bytesOf s).take (i + 1)), ((i + 1 : Nat) : Int))) else rvFrom s d (i + 1)
def readVarV (s : ByteArray) : Int × Int := rvFrom s (min 7 s.size) 0
theorem big_take (s : ByteArray) (i : Nat) (hi : i ≤ s.size) (h : ∀ j, j < i → 128 ≤ bt s (j : Nat)) : ∀ x ∈ (bytesOf s).take i, 128 ≤ x := by
  induction i with
  | zero => intro x hx; simp at hx
  | succ i ih =>
    intro x hx
    rw [take_at s i (by omega)] at hx
    rcases List.mem_append.1 hx with hx | hx
    · exact ih (by omega) (fun j hj => h j (by omega)) x hx
    · simp only [List.mem_singleton] at hx
      rw [hx]; exact h i (by omega)
theorem take_len (s : ByteArray) (i : Nat) (hi : i ≤ s.size) : ((bytesOf s).take i).length = i := by simp [bytesOf_length]; omega
theorem take_val (s : ByteArray) (i : Nat) (hi : i ≤ s.size) (h7 : i ≤ 7) : 0 ≤ valL ((bytesOf s).take i) ∧ valL ((bytesOf s).take i) < 562949953421312 := by
  have h := valL_lt ((bytesOf s).take i)
  rw [take_len s i hi] at h
  have hp : 128 ^ i ≤ 128 ^ 7 := Nat.pow_le_pow_right (by decide) h7
  omega

theorem or128 (y : Int) (h0 : 0 ≤ y) (h1 : y < 128) : Go.bits .or .u8 y 128 = 128 + y := by
  obtain ⟨b, rfl⟩ := Int.eq_ofNat_of_zero_le h0
  have h := (bits_nat .u8 8 (by decide) wraps_u8 b 128 (by omega) (by decide)).2
  have e : b ||| 128 = 128 + b := by
    have := Nat.two_pow_add_eq_or_of_lt (i := 7) (b := b) (by omega) 1
    rw [Nat.or_comm]
    simpa using this.symm
  have h' : Go.bits .or .u8 (b : Int) 128 = ((b ||| 128 : Nat) : Int) := h
  rw [h', e]; omega
theorem wraps_i64' (n : Int) (h₀ : 0 ≤ n) (h₁ : n < 2 ^ 63) : IntKind.i64.wrap n = n := by rw [IntKind.wrap_i64]; omega
theorem and127 (n : Int) (h0 : 0 ≤ n) (h1 : n ≤ 9223372036854775807) : Go.bits .and .i64 n 127 = n % 128 :=
  bits_mask .i64 63 (by decide) wraps_i64' 7 (by decide) n h0 (by omega)

theorem or_low (x y : Int) (i : Nat) (hi : i ≤ 62) (hx : 0 ≤ x) (hx1 : x < 2 ^ i) (hy : 0 ≤ y) (hy1 : y % 2 ^ i = 0) (hy2 : y < 2 ^ 63) : Go.bits .or .i64 x y = x + y := by
  have h63 : x < 2 ^ 63 := by
    have hp : 2 ^ i ≤ 2 ^ 62 := Nat.pow_le_pow_right (by decide) hi
    have hp' : ((2 ^ i : Nat) : Int) ≤ ((2 ^ 62 : Nat) : Int) := by exact_mod_cast hp
    have e : ((2 ^ i : Nat) : Int) = (2 : Int) ^ i := by simp
    rw [e] at hp'
    omega
  have h := bits_join .i64 63 (by decide) wraps_i64' i y x hy hy1 hy2 hx hx1 h63
  obtain ⟨a, rfl⟩ := Int.eq_ofNat_of_zero_le hx
  obtain ⟨b, rfl⟩ := Int.eq_ofNat_of_zero_le hy
  have ha : a < 2 ^ 63 := by exact_mod_cast h63
  have hb : b < 2 ^ 63 := by exact_mod_cast hy2
  rw [(bits_nat .i64 63 (by decide) wraps_i64' b a hb ha).2] at h
  rw [(bits_nat .i64 63 (by decide) wraps_i64' a b ha hb).2, Nat.or_comm, h, Int.add_comm]
theorem rv_or (s : ByteArray) (i : Nat) (hi : i < s.size) (h7 : i < 7) : Go.bits .or .i64 (valL ((bytesOf s).take i)) (shl .i64 (wrap64 (Go.bits .and .u8 (bt s (i : Int)) 127)) (wrap64 (7 * (i : Int)))) = valL ((bytesOf s).take (i + 1)) := by
  have b := bt_range s i
  have e1 : Go.bits .and .u8 (bt s (i : Int)) 127 = bt s i % 128 := bits_mask .u8 8 (by decide) wraps_u8 7 (by decide) _ (by omega) (by omega)
  have e2 : wrap64 (7 * (i : Int)) = ((7 * i : Nat) : Int) := by rw [w64 (by omega) (by omega)]; omega
  rw [e1, e2, w64 (n := bt s i % 128) (by omega) (by omega)]
  have hp : (2 : Int) ^ (7 * i) = ((128 ^ i : Nat) : Int) := by
    rw [Int.pow_mul]; simp
  have hp6 : 128 ^ i ≤ 128 ^ 6 := Nat.pow_le_pow_right (by decide) (by omega)
  have hp0 : 0 < 128 ^ i := Nat.pow_pos (by decide)
  have hm : min ((7 * i : Nat) : Int).toNat (IntKind.bits .i64) = 7 * i := by
    show min ((7 * i : Nat) : Int).toNat 64 = 7 * i
    omega
  have hc : bt s i % 128 ≤ 127 := by omega
  have hc0 : 0 ≤ bt s i % 128 := by omega
  have hv := valL_lt ((bytesOf s).take i)
  rw [take_len s i (by omega)] at hv
  have hprod : bt s i % 128 * ((128 ^ i : Nat) : Int) ≤ 127 * ((128 ^ i : Nat) : Int) := Int.mul_le_mul_of_nonneg_right hc (by omega)
  have hprod0 : 0 ≤ bt s i % 128 * ((128 ^ i : Nat) : Int) := Int.mul_nonneg hc0 (by omega)
  have e3 : shl .i64 (bt s i % 128) ((7 * i : Nat) : Int) = bt s i % 128 * ((128 ^ i : Nat) : Int) := by
    unfold shl
    rw [hm, hp]
    exact wraps_i64' _ hprod0 (by omega)
  rw [e3, or_low _ _ (7 * i) (by omega) hv.1 (by rw [hp]; exact hv.2) hprod0 (by rw [hp]; exact Int.mul_emod_left _ _) (by omega), take_at s i hi, valL_snoc, take_len s i (by omega), Int.mul_comm]
theorem impl_rv_l (s : ByteArray) (hs : s.size ≤ 1048576) : ∀ (d i : Nat), i + d = min 7 s.size → Ev (fun k => impl_ReadVar.l0 k s (valL ((bytesOf s).take i)) ((min 7 s.size : Nat) : Int) (i : Int)) (rvFrom s d i) := by
  intro d
  induction d with
  | zero =>
    intro i hi
    exact Ev.step (fun k => impl_ReadVar.l0.eq_2 _ _ _ _ k) (Ev_neg (by omega) (Ev.now _))
  | succ d ih =>
    intro i hi
    have b := bt_range s i
    have e7 : wrap64 (7 * (i : Int)) = 7 * (i : Int) := w64 (by omega) (by omega)
    have e3 : wrap64 ((i : Int) + 1) = ((i + 1 : Nat) : Int) := by rw [w64 (by omega) (by omega)]; omega
    have hv := take_val s (i + 1) (by omega) (by omega)
    refine Ev.step (fun k => impl_ReadVar.l0.eq_2 _ _ _ _ k) (Ev_pos (by omega) (Ev_pos (by omega) (Ev_pos (by omega) (Ev_pos (by omega) ?_))))
    rw [rv_or s i (by omega) (by omega), e3]
    by_cases h : bt s i < 128
    · refine Ev_pos h ?_
      by_cases h1 : (i : Int) > 0
      · refine Ev_pos h1 ?_
        by_cases h2 : bt s i = 0
        · exact Ev_pos h2 (Ev_is (by simp only [rvFrom]; rw [if_pos h, if_pos ⟨by omega, h2⟩]))
        · exact Ev_neg h2 (Ev_neg (by omega) (Ev_is (by simp only [rvFrom]; rw [if_pos h, if_neg (fun x => h2 x.2)])))
      · exact Ev_neg h1 (Ev_neg (by omega) (Ev_is (by simp only [rvFrom]; rw [if_pos h, if_neg (fun x => h1 (by omega))])))
    · refine Ev_neg h ?_
      have := ih (i + 1) (by omega)
      rw [show rvFrom s (d + 1) i = rvFrom s d (i + 1) by simp only [rvFrom]; rw [if_neg h]]
      exact this
theorem impl_ReadVar_ev (s : ByteArray) (hs : s.size ≤ 1048576) : Ev (fun k => impl_ReadVar.f k s) (readVarV s) := by
  have e : mn (s.size : Int) 7 = ((min 7 s.size : Nat) : Int) := by unfold mn; split <;> omega
  show Ev (fun k => impl_ReadVar.l0 k s 0 (mn (s.size : Int) 7) 0) _
  rw [e]
  exact impl_rv_l s hs (min 7 s.size) 0 (by omega)

def varV (n : Int) : ByteArray := if 0 ≤ n ∧ n ≤ 562949953421311 then strOfNums (varL 6 n) else ⟨#[]⟩

theorem l1In_eq (a b c : Int) : spec_l1In.f a b c = some (decide (b ≤ a ∧ a ≤ c)) := by
  unfold spec_l1In.f
  by_cases h : b ≤ a <;> simp [h]

theorem spec_var_l : ∀ (f : Nat) (n : Int) (acc : List Int), 0 ≤ n → n < ((128 ^ (f + 1) : Nat) : Int) → n ≤ 562949953421311 → acc.length + f ≤ 1000 → Ev (fun k => spec_Var.l0 k n acc) (strOfNums (acc ++ varL f n)) := by
  intro f
  induction f with
  | zero =>
    intro n acc h0 h1 h2 h3
    exact Ev.step (fun k => spec_Var.l0.eq_2 _ _ k) (Ev_neg (by omega) (Ev_pos (by omega) (Ev.now _)))
  | succ f ih =>
    intro n acc h0 h1 h2 h3
    refine Ev.step (fun k => spec_Var.l0.eq_2 _ _ k) ?_
    unfold varL
    by_cases h : 128 ≤ n
    · rw [if_pos h]
      have e1 : wrap64 (Int.tdiv n 128) = n / 128 := by rw [Int.tdiv_eq_ediv_of_nonneg h0, w64 (by omega) (by omega)]
      have e2 : wrap64 (128 + Int.tmod n 128) % 256 = 128 + n % 128 := by rw [Int.tmod_eq_emod_of_nonneg h0, w64 (by omega) (by omega)]; omega
      rw [e1, e2]
      refine Ev_pos h (Ev_pos (by omega) ?_)
      have := ih (n / 128) (acc ++ [128 + n % 128]) (by omega) (by rw [Nat.pow_succ] at h1; omega) (by omega) (by simp; omega)
      simpa using this
    · rw [if_neg h]
      exact Ev_neg h (Ev_pos (by omega) (Ev.now _))
theorem spec_Var_ev (n : Int) : Ev (fun k => spec_Var.f k n) (varV n) := by
  refine Ev_bindp (l1In_eq _ _ _) ?_
  unfold varV
  by_cases h : 0 ≤ n ∧ n ≤ 562949953421311
  · rw [if_pos h]
    refine Ev_pos (decide_eq_true h) ?_
    exact spec_var_l 6 n [] h.1 (by omega) h.2 (by simp)
  · rw [if_neg h]
    exact Ev_neg (by simpa using h) (Ev.now _)

theorem spec_rv_l1 (s : ByteArray) (hs : s.size ≤ 1048576) (k : Nat) (hk : 1 ≤ k) (h7 : k ≤ 7) (hks : k ≤ s.size) (r : Int × Int)
    (hr : Ev (fun q => if (varV (valL ((bytesOf s).take k))).toList = (s.extract 0 k).toList then some (valL ((bytesOf s).take k), (k : Int)) else spec_ReadVar.l0 q s (wrap64 ((k : Int) + 1))) r) :
    ∀ d, d ≤ k → Ev (fun q => spec_ReadVar.l1 q s (k : Int) (valL (((bytesOf s).take k).drop d)) ((d : Int) - 1)) r := by
  intro d
  induction d with
  | zero =>
    intro _
    refine Ev.step (fun q => spec_ReadVar.l1.eq_2 _ _ _ _ q) (Ev_neg (by omega) ?_)
    rw [List.drop_zero]
    exact Ev.bind (spec_Var_ev _) (Ev_pos (by omega) (Ev_pos (by omega) hr))
  | succ d ih =>
    intro hd
    have b := bt_range s d
    have hl : d < ((bytesOf s).take k).length := by rw [take_len s k hks]; omega
    have hlt := valL_lt (((bytesOf s).take k).drop (d + 1))
    have hlen : (((bytesOf s).take k).drop (d + 1)).length ≤ 6 := by rw [List.length_drop, take_len s k hks]; omega
    have hp : 128 ^ (((bytesOf s).take k).drop (d + 1)).length ≤ 128 ^ 6 := Nat.pow_le_pow_right (by decide) hlen
    have e0 : (((d + 1 : Nat) : Int) - 1) = (d : Int) := by omega
    rw [e0]
    have e1 : wrap64 ((d : Int) - 1) = (d : Int) - 1 := w64 (by omega) (by omega)
    have e2 : ((bytesOf s).take k).drop d = bt s d :: ((bytesOf s).take k).drop (d + 1) := by
      rw [List.drop_eq_getElem_cons hl]
      congr 1
      rw [← rd_bytesOf]
      have hl' : d < (bytesOf s).length := by rw [bytesOf_length]; omega
      simp [rd, List.getD_eq_getElem?_getD, List.getElem?_eq_getElem hl']
    have e3 : wrap64 (wrap64 (valL (((bytesOf s).take k).drop (d + 1)) * 128) + Int.tmod (wrap64 (bt s (d : Int))) 128) = valL (((bytesOf s).take k).drop d) := by
      rw [e2, w64 (n := bt s (d : Int)) (by omega) (by omega), Int.tmod_eq_emod_of_nonneg (by omega)]
      simp only [valL]
      rw [w64 (n := valL (((bytesOf s).take k).drop (d + 1)) * 128) (by omega) (by omega), w64 (by omega) (by omega)]
      omega
    refine Ev.step (fun q => spec_ReadVar.l1.eq_2 _ _ _ _ q) (Ev_pos (by omega) (Ev_pos (by omega) (Ev_pos (by omega) ?_)))
    rw [e1, e3]
    exact ih (by omega)
theorem spec_rv_start (s : ByteArray) (hs : s.size ≤ 1048576) (k : Nat) (hk : 1 ≤ k) (h7 : k ≤ 7) (hks : k ≤ s.size) (r : Int × Int)
    (hr : Ev (fun q => if (varV (valL ((bytesOf s).take k))).toList = (s.extract 0 k).toList then some (valL ((bytesOf s).take k), (k : Int)) else spec_ReadVar.l0 q s (wrap64 ((k : Int) + 1))) r) :
    Ev (fun q => spec_ReadVar.l1 q s (k : Int) 0 ((k : Int) - 1)) r := by
  have H := spec_rv_l1 s hs k hk h7 hks r hr k (Nat.le_refl _)
  rw [List.drop_eq_nil_of_le (by rw [take_len s k hks]; omega)] at H
  exact H
/-- Behind a byte below 128 that does not end a varint nothing is read. -/
theorem spec_rv_rest (s : ByteArray) (hs : s.size ≤ 1048576) (i : Nat) (hi : i < s.size) (hb : ∀ j, j < i → 128 ≤ bt s (j : Nat)) (hc : bt s i < 128) : ∀ (d k : Nat), i + 1 < k → k + d = min 7 s.size + 1 → Ev (fun q => spec_ReadVar.l0 q s (k : Int)) (0, 0) := by
  intro d
  induction d with
  | zero =>
    intro k hk hd
    refine Ev.step (fun q => spec_ReadVar.l0.eq_2 _ _ q) ?_
    by_cases h7 : (k : Int) ≤ 7
    · exact Ev_pos h7 (Ev.step (fun q => spec_ReadVar.j1.eq_2 _ _ _ q) (Ev_neg (by simp; omega) (Ev.now _)))
    · exact Ev_neg h7 (Ev.step (fun q => spec_ReadVar.j1.eq_2 _ _ _ q) (Ev_neg (by simp) (Ev.now _)))
  | succ d ih =>
    intro k hk hd
    refine Ev.step (fun q => spec_ReadVar.l0.eq_2 _ _ q) (Ev_pos (by omega) (Ev.step (fun q => spec_ReadVar.j1.eq_2 _ _ _ q) (Ev_pos (by simp; omega) ?_)))
    have e1 : wrap64 ((k : Int) - 1) = (k : Int) - 1 := w64 (by omega) (by omega)
    rw [e1]
    refine spec_rv_start s hs k (by omega) (by omega) (by omega) (0, 0) ?_
    have hv := take_val s k (by omega) (by omega)
    obtain ⟨r, hr, e⟩ := take_mid s i k hi hk (by omega)
    have hn : ¬ (varV (valL ((bytesOf s).take k))).toList = (s.extract 0 k).toList := by
      unfold varV
      rw [if_pos ⟨hv.1, by omega⟩]
      have h1 := isVar_varL 6 (valL ((bytesOf s).take k)) true hv.1 (by omega) (.inl rfl)
      rw [same_take s _ h1.2.2 k]
      intro e'
      have h2 := h1.1
      rw [e', e] at h2
      exact isVar_mid _ hc r hr _ true (big_take s i (by omega) hb) h2
    refine Ev_neg hn ?_
    rw [show wrap64 ((k : Int) + 1) = ((k + 1 : Nat) : Int) by rw [w64 (by omega) (by omega)]; omega]
    exact ih (k + 1) (by omega) (by omega)
theorem spec_rv_l (s : ByteArray) (hs : s.size ≤ 1048576) : ∀ (d i : Nat), i + d = min 7 s.size → (∀ j, j < i → 128 ≤ bt s (j : Nat)) → Ev (fun q => spec_ReadVar.l0 q s ((i + 1 : Nat) : Int)) (rvFrom s d i) := by
  intro d
  induction d with
  | zero =>
    intro i hi hb
    refine Ev.step (fun q => spec_ReadVar.l0.eq_2 _ _ q) ?_
    by_cases h7 : ((i + 1 : Nat) : Int) ≤ 7
    · exact Ev_pos h7 (Ev.step (fun q => spec_ReadVar.j1.eq_2 _ _ _ q) (Ev_neg (by simp; omega) (Ev.now _)))
    · exact Ev_neg h7 (Ev.step (fun q => spec_ReadVar.j1.eq_2 _ _ _ q) (Ev_neg (by simp) (Ev.now _)))
  | succ d ih =>
    intro i hi hb
    refine Ev.step (fun q => spec_ReadVar.l0.eq_2 _ _ q) (Ev_pos (by omega) (Ev.step (fun q => spec_ReadVar.j1.eq_2 _ _ _ q) (Ev_pos (by simp; omega) ?_)))
    have e1 : wrap64 (((i + 1 : Nat) : Int) - 1) = ((i + 1 : Nat) : Int) - 1 := w64 (by omega) (by omega)
    rw [e1]
    refine spec_rv_start s hs (i + 1) (by omega) (by omega) (by omega) _ ?_
    have hv := take_val s (i + 1) (by omega) (by omega)
    have h1 := isVar_varL 6 (valL ((bytesOf s).take (i + 1))) true hv.1 (by omega) (.inl rfl)
    have hvar : varV (valL ((bytesOf s).take (i + 1))) = strOfNums (varL 6 (valL ((bytesOf s).take (i + 1)))) := by unfold varV; rw [if_pos ⟨hv.1, by omega⟩]
    have hbig := big_take s i (by omega) hb
    have e2 : wrap64 (((i + 1 : Nat) : Int) + 1) = ((i + 1 + 1 : Nat) : Int) := by rw [w64 (by omega) (by omega)]; omega
    have hit : isVar true ((bytesOf s).take (i + 1)) → (varV (valL ((bytesOf s).take (i + 1)))).toList = (s.extract 0 (i + 1)).toList := fun h => by
      rw [hvar, same_take s _ h1.2.2]
      exact (varL_isVar _ 6 true h (fun x hx => bytesOf_range s x (List.mem_of_mem_take hx)) (by rw [take_len s (i + 1) (by omega)]; omega)).1
    have hmiss : ¬ isVar true ((bytesOf s).take (i + 1)) → ¬ (varV (valL ((bytesOf s).take (i + 1)))).toList = (s.extract 0 (i + 1)).toList := fun h => by
      rw [hvar, same_take s _ h1.2.2]
      intro e
      have h2 := h1.1
      rw [e] at h2
      exact h h2
    by_cases h : bt s i < 128
    · by_cases h2 : 0 < i ∧ bt s i = 0
      · have hn : ¬ isVar true ((bytesOf s).take (i + 1)) := by
          rw [take_at s i (by omega), isVar_snoc _ h _ true hbig]
          rintro (⟨_, h3⟩ | h3)
          · have := congrArg List.length h3
            rw [take_len s i (by omega)] at this
            simp at this
            omega
          · exact h3 h2.2
        refine Ev_neg (hmiss hn) ?_
        rw [e2, show rvFrom s (d + 1) i = (0, 0) by simp only [rvFrom]; rw [if_pos h, if_pos h2]]
        exact spec_rv_rest s hs i (by omega) hb h d (i + 1 + 1) (by omega) (by omega)
      · have hy : isVar true ((bytesOf s).take (i + 1)) := by
          rw [take_at s i (by omega), isVar_snoc _ h _ true hbig]
          by_cases h3 : bt s i = 0
          · obtain rfl : i = 0 := by
              rcases Nat.eq_zero_or_pos i with h4 | h4
              · exact h4
              · exact absurd ⟨h4, h3⟩ h2
            exact .inl ⟨rfl, by simp⟩
          · exact .inr h3
        exact Ev_pos (hit hy) (Ev_is (by simp only [rvFrom]; rw [if_pos h, if_neg h2]))
    · have hn : ¬ isVar true ((bytesOf s).take (i + 1)) := isVar_all _ true (big_take s (i + 1) (by omega) (fun j hj => by
        rcases Nat.lt_or_ge j i with h' | h'
        · exact hb j h'
        · obtain rfl : j = i := by omega
          omega))
      refine Ev_neg (hmiss hn) ?_
      rw [e2, show rvFrom s (d + 1) i = rvFrom s d (i + 1) by simp only [rvFrom]; rw [if_neg h]]
      exact ih (i + 1) (by omega) (fun j hj => by
        rcases Nat.lt_or_ge j i with h' | h'
        · exact hb j h'
        · obtain rfl : j = i := by omega
          omega)
theorem spec_ReadVar_ev (s : ByteArray) (hs : s.size ≤ 1048576) : Ev (fun k => spec_ReadVar.f k s) (readVarV s) := spec_rv_l s hs (min 7 s.size) 0 (by omega) (fun j hj => by omega)

theorem FnExactReadVar : laws_FnExactReadVar.Pure := by
  intro s hs
  refine Ev.rounds (r := true) ?_
  by_cases h : (s.size : Int) > 1048576
  · exact Ev_pos h (Ev.now _)
  · exact Ev_neg h (Ev.bind (spec_ReadVar_ev s (by omega)) (Ev.bind (impl_ReadVar_ev s (by omega)) (Ev_pos rfl (Ev_pos rfl (Ev.now _)))))

end Go.Proofs.Ytgbnioilcjadjaa.Pure
