/- What is proved here: the Go law FnExactReadDec answers true for every input, over the functions that print.sh printed; no condition. -/
import Derived.Test.YtemefkkbeaaeoaaDoorQFnExactReadDecx2
set_option linter.unusedVariables false
set_option linter.unusedSimpArgs false
namespace Go.Proofs.YtemefkkbeaaeoaaDoor.Pure
open Go.RowKit Go.Proofs.YtemefkkbeaaeoaaDoor.PFnExactReadDec Go.Proofs.YtemefkkbeaaeoaaDoorW.PrintWords Go.Proofs.YtemefkkbeaaeoaaDoorW.PrintLast

theorem Ev_pos {α : Type} {c : Prop} [Decidable c] {a b : Nat → Option α} {r : α} (h : c) (e : Ev a r) : Ev (fun k => if c then a k else b k) r :=
  Ev.congr (fun k => if_pos h) e
theorem Ev_neg {α : Type} {c : Prop} [Decidable c] {a b : Nat → Option α} {r : α} (h : ¬ c) (e : Ev b r) : Ev (fun k => if c then a k else b k) r :=
  Ev.congr (fun k => if_neg h) e
theorem Ev_bindp {α β : Type} {x : Option α} {f : Nat → α → Option β} {a : α} {r : β} (h : x = some a) (e : Ev (fun n => f n a) r) : Ev (fun n => x.bind (f n)) r := by
  subst h
  exact e
theorem Ev_is {α : Type} {x : Option α} {r : α} (h : x = some r) : Ev (fun _ => x) r := ⟨0, fun _ _ => h⟩

theorem w64 {n : Int} (h0 : -9223372036854775808 ≤ n) (h1 : n ≤ 9223372036854775807) : wrap64 n = n := by
  unfold wrap64
  omega

theorem wf64 {n : Int} (h : (Lit.int .i64 n).wf = true) : -9223372036854775808 ≤ n ∧ n ≤ 9223372036854775807 := by
  simp only [Lit.wf, IntKind.min, IntKind.max, IntKind.signed, IntKind.bits, Bool.and_eq_true, decide_eq_true_eq, if_true] at h
  omega

def digitsOf (u : Nat) : List UInt8 := if u = 0 then [] else Lib.decDigits u
theorem digitsOf_step {u : Nat} (h : u ≠ 0) : digitsOf u = digitsOf (u / 10) ++ [UInt8.ofNat (48 + u % 10)] := by
  unfold digitsOf
  rw [if_neg h]
  by_cases c : u < 10
  · rw [if_pos (by omega), Lib.decDigits_one c, show u % 10 = u from by omega]; rfl
  · rw [if_neg (by omega)]
    conv => lhs; rw [Lib.decDigits, dif_neg c]
theorem tq (x : Int) : (x.tdiv 10).natAbs = x.natAbs / 10 ∧ (x.tmod 10).natAbs = x.natAbs % 10 ∧ (0 ≤ x → 0 ≤ x.tdiv 10 ∧ 0 ≤ x.tmod 10) ∧ (x ≤ 0 → x.tdiv 10 ≤ 0 ∧ x.tmod 10 ≤ 0) := by
  rcases Int.le_total 0 x with h | h
  · rw [Int.tdiv_eq_ediv_of_nonneg h, Int.tmod_eq_emod_of_nonneg h]; omega
  · obtain ⟨y, rfl⟩ : ∃ y, x = -y := ⟨-x, by omega⟩
    rw [Int.neg_tdiv, Int.neg_tmod, Int.tdiv_eq_ediv_of_nonneg (by omega), Int.tmod_eq_emod_of_nonneg (by omega)]; omega
theorem sn_cons (b : Int) (l : List UInt8) : strOfNums [b] ++ (⟨l.toArray⟩ : ByteArray) = ⟨(UInt8.ofNat b.toNat :: l).toArray⟩ := by
  apply ByteArray.ext
  unfold strOfNums
  simp [ByteArray.data_append]
theorem ba_size (l : List UInt8) : (⟨l.toArray⟩ : ByteArray).size = l.length := by
  show l.toArray.size = l.length
  simp
def decS (n : Int) : ByteArray := ⟨(Lib.itoa n).toArray⟩

def accV : List Int → Int → Int → Int × Int
  | [], n, k => (n, k)
  | x :: r, n, k => if 48 ≤ x ∧ x ≤ 57 then accV r (n * 10 + (x - 48)) (k + 1) else accV r n k
def valV : List Int → Int → Int
  | [], n => n
  | x :: r, n => valV r (n * 10 + (x - 48))
def isDg (x : Int) : Bool := decide (48 ≤ x ∧ x ≤ 57)
theorem accV_all : ∀ (l : List Int) (n k : Int), l.all isDg = true → accV l n k = (valV l n, k + (l.length : Int))
  | [], n, k, _ => by simp [accV, valV]
  | x :: r, n, k, h => by
    rw [List.all_cons, Bool.and_eq_true] at h
    have hx : 48 ≤ x ∧ x ≤ 57 := of_decide_eq_true h.1
    simp only [accV, valV, if_pos hx]
    rw [accV_all r _ _ h.2]
    simp only [List.length_cons, Prod.mk.injEq, true_and]
    omega
def finS (s : ByteArray) (p : Int × Int) : Int × Bool :=
  if p.2 > 9 then (0, false) else if (s.size : Int) > 10 then (0, false) else
    if (decS (if 0 < s.size ∧ bt s 0 = 45 then -p.1 else p.1)).toList = s.toList then (if 0 < s.size ∧ bt s 0 = 45 then -p.1 else p.1, true) else (0, false)
def finI (s : ByteArray) (sg : Int) (l : List Int) (n : Int) : Int × Bool :=
  if l.all isDg = true then (if (decS (sg * valV l n)).toList = s.toList then (sg * valV l n, true) else (0, false)) else (0, false)
def readDecV (s : ByteArray) : Int × Bool :=
  if 0 < s.size ∧ bt s 0 = 45 then (if 1 ≤ s.size - 1 ∧ s.size - 1 ≤ 9 then finI s (-1) ((bytesOf s).drop 1) 0 else (0, false))
  else (if 1 ≤ s.size ∧ s.size ≤ 9 then finI s 1 (bytesOf s) 0 else (0, false))
theorem bt_get (s : ByteArray) (j : Nat) (h : j < s.size) : (bytesOf s)[j]? = some (bt s (j : Int)) := by
  unfold bytesOf bt
  have hj : ((j : Int)).toNat = j := by omega
  rw [dif_pos (by omega), List.getElem?_map]
  simp only [hj]
  rw [List.getElem?_eq_getElem (by rw [data_length]; exact h)]
  rfl
theorem drop_get (s : ByteArray) (j : Nat) (h : j < s.size) : (bytesOf s).drop j = bt s (j : Int) :: (bytesOf s).drop (j + 1) := by
  have hl : j < (bytesOf s).length := by rw [bytesOf_length]; exact h
  rw [List.drop_eq_getElem_cons hl]
  congr 1
  have := bt_get s j h
  rw [List.getElem?_eq_getElem hl] at this
  exact Option.some.inj this
theorem dg_all : ∀ u : Nat, (∀ b ∈ Lib.decDigits u, 48 ≤ b.toNat ∧ b.toNat ≤ 57) ∧ Lib.decDigits u ≠ [] := by
  intro u
  induction u using Nat.strongRecOn with
  | ind u ih =>
    rw [Lib.decDigits]
    by_cases c : u < 10
    · rw [dif_pos c]
      refine ⟨fun b hb => ?_, by simp⟩
      rw [List.mem_singleton] at hb
      subst hb
      rw [UInt8.toNat_ofNat']
      omega
    · rw [dif_neg c]
      refine ⟨fun b hb => ?_, by simp⟩
      rcases List.mem_append.1 hb with h | h
      · exact (ih (u / 10) (by omega)).1 b h
      · rw [List.mem_singleton] at h
        subst h
        rw [UInt8.toNat_ofNat']
        omega
theorem dg_ints (u : Nat) : ((Lib.decDigits u).map fun b => (b.toNat : Int)).all isDg = true ∧ 1 ≤ ((Lib.decDigits u).map fun b => (b.toNat : Int)).length := by
  refine ⟨List.all_eq_true.2 fun x hx => ?_, ?_⟩
  · obtain ⟨b, hb, rfl⟩ := List.mem_map.1 hx
    have := (dg_all u).1 b hb
    exact decide_eq_true ⟨by omega, by omega⟩
  · rw [List.length_map]
    exact List.length_pos_iff.2 (dg_all u).2
theorem dec_bytes {n : Int} {s : ByteArray} (h : (decS n).toList = s.toList) : bytesOf s = (Lib.itoa n).map fun b => (b.toNat : Int) := by
  rw [Lib.toList_data, Lib.toList_data] at h
  unfold bytesOf
  rw [← h]
  rfl
theorem readDec_eq (s : ByteArray) : readDecV s = finS s (accV ((bytesOf s).take 11) 0 0) := by
  have hlen := bytesOf_length s
  -- the well formed ones
  have well : ∀ T : List Int, T.all isDg = true → T.length ≤ 9 → ((0 < s.size ∧ bt s 0 = 45) ∧ bytesOf s = 45 :: T ∨ ¬ (0 < s.size ∧ bt s 0 = 45) ∧ bytesOf s = T) →
      finS s (accV ((bytesOf s).take 11) 0 0) = finI s (if 0 < s.size ∧ bt s 0 = 45 then -1 else 1) T 0 := by
    intro T hT h9 hc
    have hk : accV ((bytesOf s).take 11) 0 0 = (valV T 0, (T.length : Int)) ∧ s.size ≤ 10 := by
      rcases hc with ⟨_, e⟩ | ⟨_, e⟩
      · rw [e] at hlen ⊢
        rw [List.length_cons] at hlen
        rw [List.take_of_length_le (by rw [List.length_cons]; omega)]
        simp only [accV]
        rw [if_neg (by omega), accV_all T 0 0 hT]
        exact ⟨by simp, by omega⟩
      · rw [e] at hlen ⊢
        rw [List.take_of_length_le (by omega), accV_all T 0 0 hT]
        exact ⟨by simp, by omega⟩
    rw [hk.1]
    unfold finS finI
    simp only
    rw [if_neg (by omega), if_neg (by omega), if_pos hT]
    by_cases c : 0 < s.size ∧ bt s 0 = 45
    · simp only [if_pos c, show (-1 : Int) * valV T 0 = -valV T 0 from by omega]
    · simp only [if_neg c, show (1 : Int) * valV T 0 = valV T 0 from by omega]
  -- the others: a decimal is well formed
  have ill : (∀ T : List Int, T.all isDg = true → 1 ≤ T.length → T.length ≤ 9 → ¬ ((0 < s.size ∧ bt s 0 = 45) ∧ bytesOf s = 45 :: T ∨ ¬ (0 < s.size ∧ bt s 0 = 45) ∧ bytesOf s = T)) →
      finS s (accV ((bytesOf s).take 11) 0 0) = (0, false) := by
    intro hno
    unfold finS
    by_cases k9 : (accV ((bytesOf s).take 11) 0 0).2 > 9
    · rw [if_pos k9]
    rw [if_neg k9]
    by_cases s10 : (s.size : Int) > 10
    · rw [if_pos s10]
    rw [if_neg s10, if_neg]
    intro hd
    have hb := dec_bytes hd
    generalize (if 0 < s.size ∧ bt s 0 = 45 then -(accV ((bytesOf s).take 11) 0 0).1 else (accV ((bytesOf s).take 11) 0 0).1) = m at hb
    rw [List.take_of_length_le (by omega)] at k9
    unfold Lib.itoa at hb
    by_cases c : m < 0
    · rw [if_pos c] at hb
      obtain ⟨d1, d2⟩ := dg_ints m.natAbs
      generalize hD : (Lib.decDigits m.natAbs).map (fun b => (b.toNat : Int)) = D at d1 d2
      have hb' : bytesOf s = 45 :: D := by rw [hb, ← hD]; rfl
      have hs0 : 0 < s.size := by rw [← hlen, hb']; simp
      have h45 : bt s 0 = 45 := by
        have := bt_get s 0 hs0
        rw [hb'] at this
        simpa using this.symm
      have hk : (accV (bytesOf s) 0 0).2 = (D.length : Int) := by
        rw [hb']
        simp only [accV]
        rw [if_neg (by omega), accV_all D 0 0 d1]
        simp
      exact hno D d1 d2 (by omega) (Or.inl ⟨⟨hs0, h45⟩, hb'⟩)
    · rw [if_neg c] at hb
      obtain ⟨d1, d2⟩ := dg_ints m.toNat
      generalize (Lib.decDigits m.toNat).map (fun b => (b.toNat : Int)) = D at d1 d2 hb
      have hk : (accV (bytesOf s) 0 0).2 = (D.length : Int) := by
        rw [hb, accV_all D 0 0 d1]
        simp
      have h45 : ¬ (0 < s.size ∧ bt s 0 = 45) := by
        rintro ⟨hs0, h45⟩
        have := bt_get s 0 hs0
        rw [hb] at this
        have hm := List.mem_of_getElem? this
        have := of_decide_eq_true (List.all_eq_true.1 d1 _ hm)
        have e : bt s ((0 : Nat) : Int) = 45 := h45
        rw [e] at this
        omega
      exact hno D d1 d2 (by omega) (Or.inr ⟨h45, hb⟩)
  unfold readDecV
  by_cases c : 0 < s.size ∧ bt s 0 = 45
  · rw [if_pos c]
    have e : bytesOf s = 45 :: (bytesOf s).drop 1 := by
      have := drop_get s 0 c.1
      rw [List.drop_zero] at this
      rw [← c.2]
      exact this
    have hl1 : ((bytesOf s).drop 1).length = s.size - 1 := by rw [List.length_drop, hlen]
    by_cases q : 1 ≤ s.size - 1 ∧ s.size - 1 ≤ 9
    · rw [if_pos q]
      by_cases a : ((bytesOf s).drop 1).all isDg = true
      · rw [well _ a (by omega) (Or.inl ⟨c, e⟩), if_pos c]
      · rw [ill ?_]
        · unfold finI; rw [if_neg a]
        · rintro T t1 t2 t3 (⟨_, h⟩ | ⟨h, _⟩)
          · rw [h] at a; exact a t1
          · exact h c
    · rw [if_neg q, ill ?_]
      rintro T t1 t2 t3 (⟨_, h⟩ | ⟨h, _⟩)
      · rw [h, List.length_cons] at hlen; omega
      · exact h c
  · rw [if_neg c]
    by_cases q : 1 ≤ s.size ∧ s.size ≤ 9
    · rw [if_pos q]
      by_cases a : (bytesOf s).all isDg = true
      · rw [well _ a (by omega) (Or.inr ⟨c, rfl⟩), if_neg c]
      · rw [ill ?_]
        · unfold finI; rw [if_neg a]
        · rintro T t1 t2 t3 (⟨h, _⟩ | ⟨_, h⟩)
          · exact c h
          · rw [h] at a; exact a t1
    · rw [if_neg q, ill ?_]
      rintro T t1 t2 t3 (⟨h, _⟩ | ⟨_, h⟩)
      · exact c h
      · rw [h] at hlen; omega

theorem spec_dec_0 (neg : Bool) (l : List UInt8) (hl : l.length ≤ 1000) : Ev (fun k => spec_Dec.l0 k 0 ⟨l.toArray⟩ neg) ⟨((if neg then [45] else []) ++ l).toArray⟩ := by
  refine Ev.step (fun k => spec_Dec.l0.eq_2 _ _ _ k) (Ev_pos rfl ?_)
  cases neg with
  | true =>
    refine Ev_pos rfl (Ev_pos (by rw [ba_size]; omega) (Ev_is ?_))
    congr 1
  | false => exact Ev_neg (by decide) (Ev.now _)
theorem spec_dec_l (neg : Bool) : ∀ (f : Nat) (x : Int) (l : List UInt8), x.natAbs < 10 ^ f → -9223372036854775808 ≤ x → x ≤ 9223372036854775807 → l.length + f ≤ 1000 →
    Ev (fun k => spec_Dec.l0 k x ⟨l.toArray⟩ neg) ⟨((if neg then [45] else []) ++ (digitsOf x.natAbs ++ l)).toArray⟩ := by
  intro f
  induction f with
  | zero =>
    intro x l hx _ _ hl
    obtain rfl : x = 0 := by simp at hx; exact hx
    exact spec_dec_0 neg l (by omega)
  | succ f ih =>
    intro x l hx h0 h1 hl
    by_cases z : x = 0
    · subst z; exact spec_dec_0 neg l (by omega)
    obtain ⟨t1, t2, t3, t4⟩ := tq x
    have hs : x.natAbs / 10 < 10 ^ f := by rw [Nat.pow_succ] at hx; omega
    have hn : x.natAbs ≠ 0 := by omega
    have ed : wrap64 (x.tdiv 10) = x.tdiv 10 := w64 (by omega) (by omega)
    have key := ih (x.tdiv 10) (UInt8.ofNat (48 + x.natAbs % 10) :: l) (by rw [t1]; exact hs) (by omega) (by omega) (by simp only [List.length_cons]; omega)
    rw [t1] at key
    have goal : digitsOf x.natAbs ++ l = digitsOf (x.natAbs / 10) ++ (UInt8.ofNat (48 + x.natAbs % 10) :: l) := by
      rw [digitsOf_step hn]; simp
    rw [goal]
    refine Ev.step (fun k => spec_Dec.l0.eq_2 _ _ _ k) (Ev_neg z ?_)
    by_cases d : x.tmod 10 < 0
    · have eb : (wrap64 (48 + (wrap64 (-(x.tmod 10))))) % 256 = ((48 + x.natAbs % 10 : Nat) : Int) := by
        rw [w64 (n := -(x.tmod 10)) (by omega) (by omega), w64 (by omega) (by omega)]; omega
      refine Ev_pos d (Ev_bindp rfl (Ev_pos (by rw [strOfNums_size, ba_size]; simp; omega) ?_))
      rw [eb, ed, sn_cons]
      exact key
    · have eb : (wrap64 (48 + (x.tmod 10))) % 256 = ((48 + x.natAbs % 10 : Nat) : Int) := by
        rw [w64 (by omega) (by omega)]; omega
      refine Ev_neg d (Ev_bindp rfl (Ev_pos (by rw [strOfNums_size, ba_size]; simp; omega) ?_))
      rw [eb, ed, sn_cons]
      exact key
theorem spec_Dec_ev (n : Int) (h0 : -9223372036854775808 ≤ n) (h1 : n ≤ 9223372036854775807) : Ev (fun k => spec_Dec.f k n) (decS n) := by
  by_cases z : n = 0
  · subst z
    refine Ev_pos rfl (Ev_is ?_)
    have : Lib.itoa 0 = [48] := by unfold Lib.itoa; rw [if_neg (by decide)]; exact Lib.decDigits_one (by decide)
    unfold decS
    rw [this]
  · refine Ev_neg z ?_
    have := spec_dec_l (decide (n < 0)) 20 n [] (by omega) h0 h1 (by decide)
    have e : (if decide (n < 0) = true then [45] else []) ++ (digitsOf n.natAbs ++ []) = Lib.itoa n := by
      have hn : n.natAbs ≠ 0 := by omega
      unfold Lib.itoa digitsOf
      by_cases c : n < 0
      · simp [c, hn]
      · have e2 : n.natAbs = n.toNat := by omega
        have hn' : n.toNat ≠ 0 := by omega
        rw [e2]
        simp only [if_neg hn', if_neg c, decide_eq_false c, List.append_nil]
        rfl
    rw [e] at this
    exact this

theorem spec_rd_fin (s : ByteArray) (hs : s.size ≤ 1048576) (n k : Int) (h0 : 0 ≤ n) (h1 : n ≤ 100000000000) :
    Ev (fun q => if (s.size : Int) > 0 then (if 0 < (s.size : Int) then (spec_ReadDec.j2 q s n k ((bt s 0) == 45)) else (none)) else (spec_ReadDec.j2 q s n k false)) (finS s (n, k)) := by
  have fin : ∀ (m : Int) (neg : Bool), (if neg = true then wrap64 (-n) else n) = m → -100000000000 ≤ m → m ≤ 100000000000 →
      Ev (fun q => spec_ReadDec.j2 q s n k neg) (if k > 9 then (0, false) else if (s.size : Int) > 10 then (0, false) else if (decS m).toList = s.toList then (m, true) else (0, false)) := by
    intro m neg hm m0 m1
    refine Ev.step (fun k => spec_ReadDec.j2.eq_2 _ _ _ _ k) ?_
    cases neg with
    | true =>
      refine Ev_pos rfl ?_
      rw [if_pos rfl] at hm
      rw [hm]
      by_cases c1 : k > 9
      · rw [if_pos c1]; exact Ev_pos c1 (Ev.now _)
      rw [if_neg c1]
      refine Ev_neg c1 ?_
      by_cases c2 : (s.size : Int) > 10
      · rw [if_pos c2]; exact Ev_pos c2 (Ev.now _)
      rw [if_neg c2]
      refine Ev_neg c2 (Ev.bind (spec_Dec_ev m (by omega) (by omega)) ?_)
      refine Ev_is ?_
      by_cases c3 : (decS m).toList = s.toList
      · rw [if_pos c3, if_pos c3]
      · rw [if_neg c3, if_neg c3]
    | false =>
      refine Ev_neg (by decide) ?_
      rw [if_neg (by decide)] at hm
      subst hm
      by_cases c1 : k > 9
      · rw [if_pos c1]; exact Ev_pos c1 (Ev.now _)
      rw [if_neg c1]
      refine Ev_neg c1 ?_
      by_cases c2 : (s.size : Int) > 10
      · rw [if_pos c2]; exact Ev_pos c2 (Ev.now _)
      rw [if_neg c2]
      refine Ev_neg c2 (Ev.bind (spec_Dec_ev n (by omega) (by omega)) ?_)
      refine Ev_is ?_
      by_cases c3 : (decS n).toList = s.toList
      · rw [if_pos c3, if_pos c3]
      · rw [if_neg c3, if_neg c3]
  unfold finS
  by_cases z : 0 < s.size
  · refine Ev_pos (by omega) (Ev_pos (by omega) ?_)
    by_cases c : bt s 0 = 45
    · simp only [if_pos (show 0 < s.size ∧ bt s 0 = 45 from ⟨z, c⟩)]
      rw [show ((bt s 0) == 45) = true from beq_iff_eq.2 c]
      exact fin (-n) true (by rw [if_pos rfl]; exact w64 (by omega) (by omega)) (by omega) (by omega)
    · simp only [if_neg (show ¬ (0 < s.size ∧ bt s 0 = 45) from fun h => c h.2)]
      rw [show ((bt s 0) == 45) = false from beq_eq_false_iff_ne.2 c]
      exact fin n false rfl (by omega) (by omega)
  · refine Ev_neg (by omega) ?_
    simp only [if_neg (show ¬ (0 < s.size ∧ bt s 0 = 45) from fun h => z h.1)]
    exact fin n false rfl (by omega) (by omega)
theorem spec_rd_l (s : ByteArray) (hs : s.size ≤ 1048576) : ∀ (d i : Nat) (n k : Int), i + d = min 11 s.size → 0 ≤ n → n < ((10 ^ i : Nat) : Int) → 0 ≤ k → k ≤ i →
    Ev (fun q => spec_ReadDec.l0 q s n k (i : Int)) (finS s (accV (((bytesOf s).take 11).drop i) n k)) := by
  have hlen := bytesOf_length s
  intro d
  induction d with
  | zero =>
    intro i n k hi h0 h1 hk0 hk1
    have hn : n ≤ 100000000000 := by
      have : 10 ^ i ≤ 10 ^ 11 := Nat.pow_le_pow_right (by decide) (by omega)
      omega
    have e : ((bytesOf s).take 11).drop i = [] := List.drop_eq_nil_of_le (by rw [List.length_take, hlen]; omega)
    rw [e]
    simp only [accV]
    refine Ev.step (fun k => spec_ReadDec.l0.eq_2 _ _ _ _ k) ?_
    by_cases c : (i : Int) < (s.size : Int)
    · refine Ev_pos c ?_
      rw [decide_eq_false (show ¬ (i : Int) < 11 by omega)]
      exact Ev.step (fun k => spec_ReadDec.j1.eq_2 _ _ _ _ _ k) (Ev_neg (by decide) (spec_rd_fin s hs n k h0 hn))
    · refine Ev_neg c ?_
      exact Ev.step (fun k => spec_ReadDec.j1.eq_2 _ _ _ _ _ k) (Ev_neg (by decide) (spec_rd_fin s hs n k h0 hn))
  | succ d ih =>
    intro i n k hi h0 h1 hk0 hk1
    have hi' : i < s.size := by omega
    have hn : n ≤ 100000000000 := by
      have : 10 ^ i ≤ 10 ^ 11 := Nat.pow_le_pow_right (by decide) (by omega)
      omega
    have e : ((bytesOf s).take 11).drop i = bt s (i : Int) :: ((bytesOf s).take 11).drop (i + 1) := by
      rw [List.drop_take, List.drop_take, drop_get s i hi', show 11 - i = (11 - (i + 1)) + 1 from by omega, List.take_succ_cons]
    have hb := bt_range s (i : Int)
    have ei : wrap64 ((i : Int) + 1) = ((i + 1 : Nat) : Int) := by rw [w64 (by omega) (by omega)]; omega
    have pw : ((10 ^ (i + 1) : Nat) : Int) = ((10 ^ i : Nat) : Int) * 10 := by rw [Nat.pow_succ]; omega
    rw [e]
    refine Ev.step (fun k => spec_ReadDec.l0.eq_2 _ _ _ _ k) (Ev_pos (by omega) ?_)
    rw [decide_eq_true (show (i : Int) < 11 by omega)]
    refine Ev.step (fun k => spec_ReadDec.j1.eq_2 _ _ _ _ _ k) (Ev_pos rfl (Ev_pos (by omega) (Ev_pos (by omega) ?_)))
    simp only [accV]
    by_cases c1 : bt s (i : Int) ≥ 48
    · refine Ev_pos c1 ?_
      by_cases c2 : bt s (i : Int) ≤ 57
      · refine Ev_pos c2 ?_
        rw [if_pos ⟨c1, c2⟩, ei, w64 (n := n * 10) (by omega) (by omega), w64 (n := k + 1) (by omega) (by omega), w64 (by omega) (by omega), show (bt s (i : Int) - 48) % 256 = bt s (i : Int) - 48 from by omega]
        exact ih (i + 1) _ _ (by omega) (by omega) (by omega) (by omega) (by omega)
      · refine Ev_neg c2 ?_
        rw [if_neg (fun h => c2 h.2), ei]
        exact ih (i + 1) _ _ (by omega) (by omega) (by omega) (by omega) (by omega)
    · refine Ev_neg c1 ?_
      rw [if_neg (fun h => c1 h.1), ei]
      exact ih (i + 1) _ _ (by omega) (by omega) (by omega) (by omega) (by omega)
theorem spec_ReadDec_ev (s : ByteArray) (hs : s.size ≤ 1048576) : Ev (fun k => spec_ReadDec.f k s) (readDecV s) := by
  rw [readDec_eq]
  have := spec_rd_l s hs (min 11 s.size) 0 0 0 (by omega) (by decide) (by decide) (by decide) (by decide)
  rw [List.drop_zero] at this
  exact this

theorem impl_Dec_ev (n : Int) (h0 : -9223372036854775808 ≤ n) (h1 : n ≤ 9223372036854775807) : Ev (fun k => impl_Dec.f k n) (decS n) := by
  refine ⟨0, fun k _ => ?_⟩
  unfold impl_Dec.f
  rw [if_pos ⟨h0, h1⟩]; rfl

theorem within_eq (a b c : Int) : impl_within.f a b c = some (decide (b ≤ a ∧ a ≤ c)) := by
  unfold impl_within.f
  by_cases h : b ≤ a <;> simp [h]

theorem impl_rd_l (s t : ByteArray) (sg : Int) (hsg : sg = 1 ∨ sg = -1) (ht : t.size ≤ 9) : ∀ (d i : Nat) (n : Int), i + d = t.size → 0 ≤ n → n < ((10 ^ i : Nat) : Int) →
    Ev (fun q => impl_ReadDec.l0 q s t sg n (t.size : Int) (i : Int)) (finI s sg ((bytesOf t).drop i) n) := by
  have hlen := bytesOf_length t
  intro d
  induction d with
  | zero =>
    intro i n hi h0 h1
    have hn : n < 1000000000 := by
      have : 10 ^ i ≤ 10 ^ 9 := Nat.pow_le_pow_right (by decide) (by omega)
      omega
    have e : (bytesOf t).drop i = [] := List.drop_eq_nil_of_le (by omega)
    have hm : -1000000000 ≤ sg * n ∧ sg * n ≤ 1000000000 := by rcases hsg with rfl | rfl <;> omega
    rw [e]
    unfold finI
    rw [if_pos (by rfl)]
    show Ev _ (if (decS (sg * n)).toList = s.toList then (sg * n, true) else (0, false))
    refine Ev.step (fun k => impl_ReadDec.l0.eq_2 _ _ _ _ _ _ k) (Ev_neg (by omega) ?_)
    rw [w64 (n := sg * n) (by omega) (by omega)]
    refine Ev.bind (impl_Dec_ev (sg * n) (by omega) (by omega)) ?_
    refine Ev_is ?_
    by_cases c3 : (decS (sg * n)).toList = s.toList
    · rw [if_pos c3, if_pos c3]
    · rw [if_neg c3, if_neg c3]
  | succ d ih =>
    intro i n hi h0 h1
    have hn : n < 1000000000 := by
      have : 10 ^ i ≤ 10 ^ 9 := Nat.pow_le_pow_right (by decide) (by omega)
      omega
    have hi' : i < t.size := by omega
    have hb := bt_range t (i : Int)
    have ei : wrap64 ((i : Int) + 1) = ((i + 1 : Nat) : Int) := by rw [w64 (by omega) (by omega)]; omega
    have pw : ((10 ^ (i + 1) : Nat) : Int) = ((10 ^ i : Nat) : Int) * 10 := by rw [Nat.pow_succ]; omega
    have hd := drop_get t i hi'
    refine Ev.step (fun k => impl_ReadDec.l0.eq_2 _ _ _ _ _ _ k) (Ev_pos (by omega) (Ev_pos (by omega) (Ev_pos (by omega) ?_)))
    have no : ¬ (48 ≤ bt t (i : Int) ∧ bt t (i : Int) ≤ 57) → finI s sg ((bytesOf t).drop i) n = (0, false) := by
      intro h
      unfold finI
      rw [hd, if_neg]
      rw [List.all_cons, Bool.and_eq_true]
      exact fun q => h (of_decide_eq_true q.1)
    by_cases c1 : bt t (i : Int) < 48
    · rw [no (by omega)]; exact Ev_pos c1 (Ev.now _)
    refine Ev_neg c1 ?_
    by_cases c2 : bt t (i : Int) > 57
    · rw [no (by omega)]; exact Ev_pos c2 (Ev.now _)
    refine Ev_neg c2 ?_
    have yes : finI s sg ((bytesOf t).drop i) n = finI s sg ((bytesOf t).drop (i + 1)) (n * 10 + (bt t (i : Int) - 48)) := by
      unfold finI
      rw [hd, List.all_cons, show isDg (bt t (i : Int)) = true from decide_eq_true ⟨by omega, by omega⟩, Bool.true_and]
      simp only [valV]
      rfl
    rw [yes, ei, w64 (n := 10 * n) (by omega) (by omega), show (bt t (i : Int) - 48) % 256 = bt t (i : Int) - 48 from by omega, w64 (by omega) (by omega), show 10 * n = n * 10 from by omega]
    exact ih (i + 1) _ (by omega) (by omega) (by omega)
theorem impl_ReadDec_ev (s : ByteArray) (hs : s.size ≤ 1048576) : Ev (fun k => impl_ReadDec.f k s) (readDecV s) := by
  have low : ∀ (t : ByteArray) (sg : Int), (sg = 1 ∨ sg = -1) → t.size ≤ 1048576 → Ev (fun k => impl_ReadDec.j1 k s t sg) (if 1 ≤ t.size ∧ t.size ≤ 9 then finI s sg (bytesOf t) 0 else (0, false)) := by
    intro t sg hsg ht
    refine Ev.step (fun k => impl_ReadDec.j1.eq_2 _ _ _ k) (Ev_bindp (within_eq _ _ _) ?_)
    by_cases c : 1 ≤ t.size ∧ t.size ≤ 9
    · rw [if_pos c]
      refine Ev_pos (decide_eq_true ⟨by omega, by omega⟩) ?_
      have := impl_rd_l s t sg hsg c.2 t.size 0 0 (by omega) (by decide) (by decide)
      rw [List.drop_zero] at this
      exact this
    · rw [if_neg c]
      exact Ev_neg (by rw [decide_eq_true_eq]; omega) (Ev.now _)
  unfold readDecV
  by_cases z : 0 < s.size
  · refine Ev_pos (by omega) (Ev_pos (by omega) ?_)
    by_cases c : bt s 0 = 45
    · rw [if_pos ⟨z, c⟩, show ((bt s 0) == 45) = true from beq_iff_eq.2 c]
      refine Ev.step (fun k => impl_ReadDec.j0.eq_2 _ _ _ _ k) (Ev_pos rfl (Ev_pos (by omega) ?_))
      have hsz : (s.extract 1 s.size).size = s.size - 1 := by rw [ByteArray.size_extract]; omega
      have hby : bytesOf (s.extract 1 s.size) = (bytesOf s).drop 1 := by
        unfold bytesOf
        rw [← List.map_drop]
        congr 1
        rw [ByteArray.data_extract, Array.toList_extract, List.extract_eq_take_drop]
        exact List.take_of_length_le (by rw [List.length_drop, data_length]; omega)
      have := low (s.extract 1 s.size) (-1) (Or.inr rfl) (by omega)
      rw [hsz, hby] at this
      exact this
    · rw [if_neg (fun h => c h.2), show ((bt s 0) == 45) = false from beq_eq_false_iff_ne.2 c]
      exact Ev.step (fun k => impl_ReadDec.j0.eq_2 _ _ _ _ k) (Ev_neg (by decide) (low s 1 (Or.inl rfl) hs))
  · rw [if_neg (fun h => z h.1)]
    refine Ev_neg (by omega) ?_
    exact Ev.step (fun k => impl_ReadDec.j0.eq_2 _ _ _ _ k) (Ev_neg (by decide) (low s 1 (Or.inl rfl) hs))

theorem FnExactReadDec (s : ByteArray) (hs : s.size ≤ 140737488351232) : ∃ k, laws_FnExactReadDec.f k s = some true := by
  refine Ev.rounds (r := true) ?_
  by_cases h : (s.size : Int) > 1048576
  · exact Ev_pos h (Ev.now _)
  · refine Ev_neg h (Ev.bind (spec_ReadDec_ev s (by omega)) (Ev.bind (impl_ReadDec_ev s (by omega)) (Ev_pos rfl (Ev_neg (by simp) (Ev.now _)))))

end Go.Proofs.YtemefkkbeaaeoaaDoor.Pure
