/- What is proved here: the Go law FnLayout answers true for every input, over the functions that print.sh printed; no condition. -/
import Derived.Test.YtemefkkbeaaeoaaDoorQFnLayoutx3
set_option linter.unusedVariables false
set_option linter.unusedSimpArgs false
namespace Go.Proofs.YtemefkkbeaaeoaaDoor.Pure
open Go.RowKit Go.Proofs.YtemefkkbeaaeoaaDoor.PFnLayout Go.Proofs.YtemefkkbeaaeoaaDoorW.PrintWords Go.Proofs.YtemefkkbeaaeoaaDoorW.PrintLast

theorem Ev_pos {α : Type} {c : Prop} [Decidable c] {a b : Nat → Option α} {r : α} (h : c) (e : Ev a r) : Ev (fun k => if c then a k else b k) r :=
  Ev.congr (fun k => if_pos h) e
theorem Ev_neg {α : Type} {c : Prop} [Decidable c] {a b : Nat → Option α} {r : α} (h : ¬ c) (e : Ev b r) : Ev (fun k => if c then a k else b k) r :=
  Ev.congr (fun k => if_neg h) e
theorem Ev_bindp {α β : Type} {x : Option α} {f : Nat → α → Option β} {a : α} {r : β} (h : x = some a) (e : Ev (fun n => f n a) r) : Ev (fun n => x.bind (f n)) r := by
  subst h
  exact e
theorem Ev_is {α : Type} {x : Option α} {r : α} (h : x = some r) : Ev (fun _ => x) r := ⟨0, fun _ _ => h⟩

theorem w64 {n : Int} (h0 : -9223372036854775808 ≤ n) (h1 : n ≤ 9223372036854775807) : wrap64 n = n := by
  unfold wrap64
  omega

theorem wf64 {n : Int} (h : (Lit.int .i64 n).wf = true) : -9223372036854775808 ≤ n ∧ n ≤ 9223372036854775807 := by
  simp only [Lit.wf, IntKind.min, IntKind.max, IntKind.signed, IntKind.bits, Bool.and_eq_true, decide_eq_true_eq, if_true] at h
  omega

def digitsOf (u : Nat) : List UInt8 := if u = 0 then [] else Lib.decDigits u
theorem digitsOf_step {u : Nat} (h : u ≠ 0) : digitsOf u = digitsOf (u / 10) ++ [UInt8.ofNat (48 + u % 10)] := by
  unfold digitsOf
  rw [if_neg h]
  by_cases c : u < 10
  · rw [if_pos (by omega), Lib.decDigits_one c, show u % 10 = u from by omega]; rfl
  · rw [if_neg (by omega)]
    conv => lhs; rw [Lib.decDigits, dif_neg c]
theorem tq (x : Int) : (x.tdiv 10).natAbs = x.natAbs / 10 ∧ (x.tmod 10).natAbs = x.natAbs % 10 ∧ (0 ≤ x → 0 ≤ x.tdiv 10 ∧ 0 ≤ x.tmod 10) ∧ (x ≤ 0 → x.tdiv 10 ≤ 0 ∧ x.tmod 10 ≤ 0) := by
  rcases Int.le_total 0 x with h | h
  · rw [Int.tdiv_eq_ediv_of_nonneg h, Int.tmod_eq_emod_of_nonneg h]; omega
  · obtain ⟨y, rfl⟩ : ∃ y, x = -y := ⟨-x, by omega⟩
    rw [Int.neg_tdiv, Int.neg_tmod, Int.tdiv_eq_ediv_of_nonneg (by omega), Int.tmod_eq_emod_of_nonneg (by omega)]; omega
theorem sn_cons (b : Int) (l : List UInt8) : strOfNums [b] ++ (⟨l.toArray⟩ : ByteArray) = ⟨(UInt8.ofNat b.toNat :: l).toArray⟩ := by
  apply ByteArray.ext
  unfold strOfNums
  simp [ByteArray.data_append]
theorem ba_size (l : List UInt8) : (⟨l.toArray⟩ : ByteArray).size = l.length := by
  show l.toArray.size = l.length
  simp
def decS (n : Int) : ByteArray := ⟨(Lib.itoa n).toArray⟩

theorem dsz (n : Int) (h : 0 ≤ n ∧ n < 100) : (decS n).size ≤ 21 := by
  unfold decS
  rw [ba_size]
  unfold Lib.itoa
  rw [if_neg (by omega)]
  by_cases c : n.toNat < 10
  · rw [Lib.decDigits_one c]; simp
  · rw [Lib.decDigits_two c (by omega)]; simp
theorem impl_Dec_small (n : Int) (h : 0 ≤ n ∧ n < 100) : Ev (fun k => impl_Dec.f k n) (decS n) := by
  refine ⟨0, fun k _ => ?_⟩
  unfold impl_Dec.f
  rw [if_pos h]
  unfold decS Lib.itoa
  rw [if_neg (by omega)]
theorem z1 : (⟨#[32]⟩ : ByteArray).size = 1 := rfl
theorem z2 : (⟨#[105, 110, 32]⟩ : ByteArray).size = 3 := rfl
theorem z3 : (⟨#[107, 101, 121, 32]⟩ : ByteArray).size = 4 := rfl
theorem z4 : (⟨#[115, 116, 114, 105, 112, 101]⟩ : ByteArray).size = 6 := rfl
theorem z5 : (⟨#[115, 116, 97, 109, 112]⟩ : ByteArray).size = 5 := rfl
theorem z6 : (⟨#[103, 97, 117, 103, 101]⟩ : ByteArray).size = 5 := rfl
theorem z7 : (⟨#[116, 105, 99, 107, 101, 116]⟩ : ByteArray).size = 6 := rfl
theorem z8 : (⟨#[114, 105, 110, 103]⟩ : ByteArray).size = 4 := rfl

def placeV (b c : Int) : ByteArray := ((((⟨#[32]⟩ : ByteArray) ++ decS b) ++ (⟨#[32]⟩ : ByteArray)) ++ decS c)
def cellV (i : Int) : ByteArray :=
  if i < 0 ∨ 70 < i then ⟨#[]⟩
  else if i = 0 then ⟨#[101, 112, 111, 99, 104]⟩
  else if i < 3 then (⟨#[105, 110, 32]⟩ : ByteArray) ++ decS (i - 1)
  else if i < 7 then (⟨#[107, 101, 121, 32]⟩ : ByteArray) ++ decS (i - 3)
  else if (i - 7) % 8 < 2 then ((((⟨#[115, 116, 114, 105, 112, 101]⟩ : ByteArray) ++ placeV ((i - 7) / 32) ((i - 7) % 32 / 8)) ++ (⟨#[32]⟩ : ByteArray)) ++ decS ((i - 7) % 8))
  else if (i - 7) % 8 = 2 then (⟨#[115, 116, 97, 109, 112]⟩ : ByteArray) ++ placeV ((i - 7) / 32) ((i - 7) % 32 / 8)
  else if (i - 7) % 8 = 3 then (⟨#[103, 97, 117, 103, 101]⟩ : ByteArray) ++ placeV ((i - 7) / 32) ((i - 7) % 32 / 8)
  else if (i - 7) % 8 = 4 then (⟨#[116, 105, 99, 107, 101, 116]⟩ : ByteArray) ++ placeV ((i - 7) / 32) ((i - 7) % 32 / 8)
  else ((((⟨#[114, 105, 110, 103]⟩ : ByteArray) ++ placeV ((i - 7) / 32) ((i - 7) % 32 / 8)) ++ (⟨#[32]⟩ : ByteArray)) ++ decS ((i - 7) % 8 - 5))
theorem cell_args (i : Int) (h : 7 ≤ i) (h2 : i ≤ 70) : wrap64 (i - 7) = i - 7 ∧ wrap64 (Int.tdiv (i - 7) 32) = (i - 7) / 32 ∧ wrap64 (Int.tdiv (Int.tmod (i - 7) 32) 8) = (i - 7) % 32 / 8 ∧ Int.tmod (i - 7) 8 = (i - 7) % 8 ∧ wrap64 ((i - 7) % 8 - 5) = (i - 7) % 8 - 5 ∧ wrap64 (wrap64 ((i - 7) % 8 - 2) - 3) = (i - 7) % 8 - 5 := by
  rw [Int.tdiv_eq_ediv_of_nonneg (by omega), Int.tmod_eq_emod_of_nonneg (by omega), Int.tmod_eq_emod_of_nonneg (by omega), Int.tdiv_eq_ediv_of_nonneg (by omega)]
  refine ⟨w64 (by omega) (by omega), w64 (by omega) (by omega), w64 (by omega) (by omega), rfl, w64 (by omega) (by omega), ?_⟩
  rw [w64 (n := (i - 7) % 8 - 2) (by omega) (by omega), w64 (by omega) (by omega)]
  omega

theorem within_eq (a b c : Int) : impl_within.f a b c = some (decide (b ≤ a ∧ a ≤ c)) := by
  unfold impl_within.f
  by_cases h : b ≤ a <;> simp [h]

theorem impl_CellName_ev (i : Int) : Ev (fun k => impl_CellName.f k i) (cellV i) := by
  by_cases h : 0 ≤ i ∧ i ≤ 70
  · have n0 : ¬ (i < 0 ∨ 70 < i) := by omega
    have D : ∀ n : Int, 0 ≤ n ∧ n < 100 → Ev (fun k => impl_Dec.f k n) (decS n) := fun n hn => impl_Dec_small n hn
    by_cases i0 : i = 0
    · rw [show cellV i = ⟨#[101, 112, 111, 99, 104]⟩ from by unfold cellV; rw [if_neg n0, if_pos i0]]
      exact Ev_pos i0 (Ev.now _)
    by_cases i3 : i < 3
    · have hz := dsz (i - 1) (by omega)
      rw [show cellV i = (⟨#[105, 110, 32]⟩ : ByteArray) ++ decS (i - 1) from by unfold cellV; rw [if_neg n0, if_neg i0, if_pos i3]]
      unfold impl_CellName.f
      rw [show wrap64 (i - 1) = i - 1 from w64 (by omega) (by omega)]
      exact Ev_neg i0 (Ev_bindp (within_eq _ _ _) (Ev_pos (decide_eq_true (by omega)) (Ev.bind (D _ (by omega)) (Ev_pos (by omega) (Ev.now _)))))
    by_cases i7 : i < 7
    · have hz := dsz (i - 3) (by omega)
      rw [show cellV i = (⟨#[107, 101, 121, 32]⟩ : ByteArray) ++ decS (i - 3) from by unfold cellV; rw [if_neg n0, if_neg i0, if_neg i3, if_pos i7]]
      unfold impl_CellName.f
      rw [show wrap64 (i - 3) = i - 3 from w64 (by omega) (by omega)]
      exact Ev_neg i0 (Ev_bindp (within_eq _ _ _) (Ev_neg (by rw [decide_eq_true_eq]; omega) (Ev_bindp (within_eq _ _ _) (Ev_pos (decide_eq_true (by omega)) (Ev.bind (D _ (by omega)) (Ev_pos (by omega) (Ev.now _)))))))
    obtain ⟨e1, e2, e3, e4, e5, e6⟩ := cell_args i (by omega) h.2
    have ev : cellV i = if (i - 7) % 8 < 2 then ((((⟨#[115, 116, 114, 105, 112, 101]⟩ : ByteArray) ++ placeV ((i - 7) / 32) ((i - 7) % 32 / 8)) ++ (⟨#[32]⟩ : ByteArray)) ++ decS ((i - 7) % 8))
        else if (i - 7) % 8 = 2 then (⟨#[115, 116, 97, 109, 112]⟩ : ByteArray) ++ placeV ((i - 7) / 32) ((i - 7) % 32 / 8)
        else if (i - 7) % 8 = 3 then (⟨#[103, 97, 117, 103, 101]⟩ : ByteArray) ++ placeV ((i - 7) / 32) ((i - 7) % 32 / 8)
        else if (i - 7) % 8 = 4 then (⟨#[116, 105, 99, 107, 101, 116]⟩ : ByteArray) ++ placeV ((i - 7) / 32) ((i - 7) % 32 / 8)
        else ((((⟨#[114, 105, 110, 103]⟩ : ByteArray) ++ placeV ((i - 7) / 32) ((i - 7) % 32 / 8)) ++ (⟨#[32]⟩ : ByteArray)) ++ decS ((i - 7) % 8 - 5)) := by
      unfold cellV; rw [if_neg n0, if_neg i0, if_neg i3, if_neg i7]
    rw [ev]
    unfold impl_CellName.f
    rw [e1, e2, e3, e4, e6]
    clear ev e1 e2 e3 e4 e5 e6
    have hb := dsz ((i - 7) / 32) (by omega)
    have hc := dsz ((i - 7) % 32 / 8) (by omega)
    have hb' : 0 ≤ (i - 7) / 32 ∧ (i - 7) / 32 < 100 := by omega
    have hc' : 0 ≤ (i - 7) % 32 / 8 ∧ (i - 7) % 32 / 8 < 100 := by omega
    have hk0 : 0 ≤ (i - 7) % 8 ∧ (i - 7) % 8 < 8 := by omega
    generalize (i - 7) / 32 = b at *
    generalize (i - 7) % 32 / 8 = c at *
    generalize (i - 7) % 8 = m at *
    unfold placeV
    refine Ev_neg i0 (Ev_bindp (within_eq _ _ _) (Ev_neg (by rw [decide_eq_true_eq]; omega) (Ev_bindp (within_eq _ _ _) (Ev_neg (by rw [decide_eq_true_eq]; omega) (Ev_bindp (within_eq _ _ _) (Ev_pos (decide_eq_true (by omega)) (Ev.bind (D b hb') (Ev_pos (by omega) (Ev_pos (by simp only [ByteArray.size_append, z1]; omega) (Ev.bind (D c hc') (Ev_pos (by simp only [ByteArray.size_append, z1]; omega) ?_)))))))))))
    by_cases m2 : m < 2
    · have hm := dsz m (by omega)
      rw [if_pos m2]
      exact Ev_pos m2 (Ev_pos (by simp only [ByteArray.size_append, z1]; omega) (Ev_pos (by simp only [ByteArray.size_append, z1, z4]; omega) (Ev.bind (D m (by omega)) (Ev_pos (by simp only [ByteArray.size_append, z1, z4]; omega) (Ev.now _)))))
    rw [if_neg m2]
    refine Ev_neg m2 ?_
    by_cases m3 : m = 2
    · rw [if_pos m3]
      exact Ev_pos (by omega) (Ev_is (by rw [if_pos m3, if_pos (by simp only [ByteArray.size_append, z1]; omega)]))
    rw [if_neg m3]
    by_cases m4 : m = 3
    · rw [if_pos m4]
      exact Ev_pos (by omega) (Ev_is (by rw [if_neg m3, if_pos m4, if_pos (by simp only [ByteArray.size_append, z1]; omega)]))
    rw [if_neg m4]
    by_cases m5 : m = 4
    · rw [if_pos m5]
      exact Ev_pos (by omega) (Ev_is (by rw [if_neg m3, if_neg m4, if_pos (by simp only [ByteArray.size_append, z1]; omega)]))
    rw [if_neg m5]
    simp only [if_neg m3, if_neg m4]
    have hm := dsz (m - 5) (by omega)
    exact Ev_neg (by omega) (Ev_pos (by simp only [ByteArray.size_append, z1]; omega) (Ev_pos (by simp only [ByteArray.size_append, z1, z8]; omega) (Ev.bind (D (m - 5) (by omega)) (Ev_pos (by simp only [ByteArray.size_append, z1, z8]; omega) (Ev.now _)))))
  · rw [show cellV i = ⟨#[]⟩ from by unfold cellV; rw [if_pos (by omega)]]
    exact Ev_neg (by omega) (Ev_bindp (within_eq _ _ _) (Ev_neg (by rw [decide_eq_true_eq]; omega) (Ev_bindp (within_eq _ _ _) (Ev_neg (by rw [decide_eq_true_eq]; omega) (Ev_bindp (within_eq _ _ _) (Ev_neg (by rw [decide_eq_true_eq]; omega) (Ev.now _)))))))

theorem spec_dec_0 (neg : Bool) (l : List UInt8) (hl : l.length ≤ 1000) : Ev (fun k => spec_Dec.l0 k 0 ⟨l.toArray⟩ neg) ⟨((if neg then [45] else []) ++ l).toArray⟩ := by
  refine Ev.step (fun k => spec_Dec.l0.eq_2 _ _ _ k) (Ev_pos rfl ?_)
  cases neg with
  | true =>
    refine Ev_pos rfl (Ev_pos (by rw [ba_size]; omega) (Ev_is ?_))
    congr 1
  | false => exact Ev_neg (by decide) (Ev.now _)
theorem spec_dec_l (neg : Bool) : ∀ (f : Nat) (x : Int) (l : List UInt8), x.natAbs < 10 ^ f → -9223372036854775808 ≤ x → x ≤ 9223372036854775807 → l.length + f ≤ 1000 →
    Ev (fun k => spec_Dec.l0 k x ⟨l.toArray⟩ neg) ⟨((if neg then [45] else []) ++ (digitsOf x.natAbs ++ l)).toArray⟩ := by
  intro f
  induction f with
  | zero =>
    intro x l hx _ _ hl
    obtain rfl : x = 0 := by simp at hx; exact hx
    exact spec_dec_0 neg l (by omega)
  | succ f ih =>
    intro x l hx h0 h1 hl
    by_cases z : x = 0
    · subst z; exact spec_dec_0 neg l (by omega)
    obtain ⟨t1, t2, t3, t4⟩ := tq x
    have hs : x.natAbs / 10 < 10 ^ f := by rw [Nat.pow_succ] at hx; omega
    have hn : x.natAbs ≠ 0 := by omega
    have ed : wrap64 (x.tdiv 10) = x.tdiv 10 := w64 (by omega) (by omega)
    have key := ih (x.tdiv 10) (UInt8.ofNat (48 + x.natAbs % 10) :: l) (by rw [t1]; exact hs) (by omega) (by omega) (by simp only [List.length_cons]; omega)
    rw [t1] at key
    have goal : digitsOf x.natAbs ++ l = digitsOf (x.natAbs / 10) ++ (UInt8.ofNat (48 + x.natAbs % 10) :: l) := by
      rw [digitsOf_step hn]; simp
    rw [goal]
    refine Ev.step (fun k => spec_Dec.l0.eq_2 _ _ _ k) (Ev_neg z ?_)
    by_cases d : x.tmod 10 < 0
    · have eb : (wrap64 (48 + (wrap64 (-(x.tmod 10))))) % 256 = ((48 + x.natAbs % 10 : Nat) : Int) := by
        rw [w64 (n := -(x.tmod 10)) (by omega) (by omega), w64 (by omega) (by omega)]; omega
      refine Ev_pos d (Ev_bindp rfl (Ev_pos (by rw [strOfNums_size, ba_size]; simp; omega) ?_))
      rw [eb, ed, sn_cons]
      exact key
    · have eb : (wrap64 (48 + (x.tmod 10))) % 256 = ((48 + x.natAbs % 10 : Nat) : Int) := by
        rw [w64 (by omega) (by omega)]; omega
      refine Ev_neg d (Ev_bindp rfl (Ev_pos (by rw [strOfNums_size, ba_size]; simp; omega) ?_))
      rw [eb, ed, sn_cons]
      exact key
theorem spec_Dec_ev (n : Int) (h0 : -9223372036854775808 ≤ n) (h1 : n ≤ 9223372036854775807) : Ev (fun k => spec_Dec.f k n) (decS n) := by
  by_cases z : n = 0
  · subst z
    refine Ev_pos rfl (Ev_is ?_)
    have : Lib.itoa 0 = [48] := by unfold Lib.itoa; rw [if_neg (by decide)]; exact Lib.decDigits_one (by decide)
    unfold decS
    rw [this]
  · refine Ev_neg z ?_
    have := spec_dec_l (decide (n < 0)) 20 n [] (by omega) h0 h1 (by decide)
    have e : (if decide (n < 0) = true then [45] else []) ++ (digitsOf n.natAbs ++ []) = Lib.itoa n := by
      have hn : n.natAbs ≠ 0 := by omega
      unfold Lib.itoa digitsOf
      by_cases c : n < 0
      · simp [c, hn]
      · have e2 : n.natAbs = n.toNat := by omega
        have hn' : n.toNat ≠ 0 := by omega
        rw [e2]
        simp only [if_neg hn', if_neg c, decide_eq_false c, List.append_nil]
        rfl
    rw [e] at this
    exact this

theorem tl_append (a b : ByteArray) : (a ++ b).toList = a.toList ++ b.toList := by
  rw [Lib.toList_data, Lib.toList_data, Lib.toList_data, ByteArray.data_append, Array.toList_append]
theorem tl_lit (a : Array UInt8) : (⟨a⟩ : ByteArray).toList = a.toList := by
  rw [Lib.toList_data]
theorem tl_mk (l : List UInt8) : (⟨l.toArray⟩ : ByteArray).toList = l := by
  rw [Lib.toList_data]
theorem decS_one (n : Nat) (h : n < 10) : (decS (n : Int)).toList = [UInt8.ofNat (48 + n)] := by
  unfold decS
  rw [tl_mk]
  unfold Lib.itoa
  rw [if_neg (by omega), show ((n : Int)).toNat = n from by omega, Lib.decDigits_one h]
def dC (n : Nat) : List UInt8 := [UInt8.ofNat (48 + n)]
def placeC (b c : Nat) : List UInt8 := (([32] ++ dC b) ++ [32]) ++ dC c
def cellC (i : Nat) : List UInt8 :=
  if i = 0 then [101, 112, 111, 99, 104]
  else if i < 3 then [105, 110, 32] ++ dC (i - 1)
  else if i < 7 then [107, 101, 121, 32] ++ dC (i - 3)
  else if (i - 7) % 8 < 2 then (([115, 116, 114, 105, 112, 101] ++ placeC ((i - 7) / 32) ((i - 7) % 32 / 8)) ++ [32]) ++ dC ((i - 7) % 8)
  else if (i - 7) % 8 = 2 then [115, 116, 97, 109, 112] ++ placeC ((i - 7) / 32) ((i - 7) % 32 / 8)
  else if (i - 7) % 8 = 3 then [103, 97, 117, 103, 101] ++ placeC ((i - 7) / 32) ((i - 7) % 32 / 8)
  else if (i - 7) % 8 = 4 then [116, 105, 99, 107, 101, 116] ++ placeC ((i - 7) / 32) ((i - 7) % 32 / 8)
  else (([114, 105, 110, 103] ++ placeC ((i - 7) / 32) ((i - 7) % 32 / 8)) ++ [32]) ++ dC ((i - 7) % 8 - 5)
theorem place_C (b c : Nat) (hb : b < 10) (hc : c < 10) : (placeV (b : Int) (c : Int)).toList = placeC b c := by
  unfold placeV placeC dC
  rw [tl_append, tl_append, tl_append, decS_one b hb, decS_one c hc]
  simp only [tl_lit]
  try rfl
theorem cell_C (i : Nat) (h : i ≤ 70) : (cellV (i : Int)).toList = cellC i := by
  unfold cellV cellC
  rw [if_neg (by omega)]
  by_cases c0 : i = 0
  · rw [if_pos (by omega), if_pos c0]; simp only [tl_lit]; try rfl
  rw [if_neg (by omega), if_neg c0]
  by_cases c3 : i < 3
  · rw [if_pos (by omega), if_pos c3, tl_append, show (i : Int) - 1 = ((i - 1 : Nat) : Int) from by omega, decS_one _ (by omega)]; simp only [tl_lit]; try rfl
  rw [if_neg (by omega), if_neg c3]
  by_cases c7 : i < 7
  · rw [if_pos (by omega), if_pos c7, tl_append, show (i : Int) - 3 = ((i - 3 : Nat) : Int) from by omega, decS_one _ (by omega)]; simp only [tl_lit]; try rfl
  rw [if_neg (by omega), if_neg c7]
  have e1 : ((i : Int) - 7) % 8 = (((i - 7) % 8 : Nat) : Int) := by omega
  have e2 : ((i : Int) - 7) / 32 = (((i - 7) / 32 : Nat) : Int) := by omega
  have e3 : ((i : Int) - 7) % 32 / 8 = (((i - 7) % 32 / 8 : Nat) : Int) := by omega
  rw [e1, e2, e3]
  have p := place_C ((i - 7) / 32) ((i - 7) % 32 / 8) (by omega) (by omega)
  have hm : (i - 7) % 8 < 8 := by omega
  generalize (i - 7) / 32 = b at *
  generalize (i - 7) % 32 / 8 = c at *
  generalize (i - 7) % 8 = m at *
  by_cases m2 : m < 2
  · rw [if_pos (by omega), if_pos m2, tl_append, tl_append, tl_append, p, decS_one m (by omega)]; simp only [tl_lit]; try rfl
  rw [if_neg (by omega), if_neg m2]
  by_cases m3 : m = 2
  · rw [if_pos (by omega), if_pos m3, tl_append, p]; simp only [tl_lit]; try rfl
  rw [if_neg (by omega), if_neg m3]
  by_cases m4 : m = 3
  · rw [if_pos (by omega), if_pos m4, tl_append, p]; simp only [tl_lit]; try rfl
  rw [if_neg (by omega), if_neg m4]
  by_cases m5 : m = 4
  · rw [if_pos (by omega), if_pos m5, tl_append, p]; simp only [tl_lit]; try rfl
  rw [if_neg (by omega), if_neg m5, tl_append, tl_append, tl_append, p, show (m : Int) - 5 = ((m - 5 : Nat) : Int) from by omega, decS_one _ (by omega)]; simp only [tl_lit]; try rfl
theorem cellC_ne : ∀ i, i < 71 → cellC i ≠ [] := by decide +kernel
theorem cellC_inj : ∀ i, i < 71 → ∀ j, j < 71 → cellC i = cellC j → i = j := by decide +kernel
theorem cellV_ne (x : Int) (h : 0 ≤ x ∧ x ≤ 70) : (cellV x).toList ≠ [] := by
  obtain ⟨n, rfl⟩ : ∃ n : Nat, x = (n : Int) := ⟨x.toNat, by omega⟩
  rw [cell_C n (by omega)]
  exact cellC_ne n (by omega)
theorem cellV_inj (x y : Int) (h : 0 ≤ x ∧ x ≤ 70) (g : 0 ≤ y ∧ y ≤ 70) (e : (cellV x).toList = (cellV y).toList) : x = y := by
  obtain ⟨n, rfl⟩ : ∃ n : Nat, x = (n : Int) := ⟨x.toNat, by omega⟩
  obtain ⟨m, rfl⟩ : ∃ m : Nat, y = (m : Int) := ⟨y.toNat, by omega⟩
  rw [cell_C n (by omega), cell_C m (by omega)] at e
  rw [cellC_inj n (by omega) m (by omega) e]

theorem hasText_l (names : List ByteArray) (n : ByteArray) (hl : names.length ≤ 1000) (h : ∀ x ∈ names, x.toList ≠ n.toList) : ∀ (d i : Nat), names.length - i = d → i ≤ names.length → Ev (fun k => laws_hasText.l0 k names n (i : Int)) false := by
  intro d
  induction d with
  | zero =>
    intro i hd hi
    exact Ev.step (fun k => laws_hasText.l0.eq_2 _ _ _ k) (Ev_neg (by omega) (Ev.now _))
  | succ d ih =>
    intro i hd hi
    have ei : wrap64 ((i : Int) + 1) = ((i + 1 : Nat) : Int) := by rw [w64 (by omega) (by omega)]; omega
    have hm : rdOf ByteArray.empty names (i : Int) ∈ names := by
      unfold rdOf
      rw [show ((i : Int)).toNat = i from by omega, List.getD_eq_getElem?_getD, List.getElem?_eq_getElem (by omega)]
      exact List.getElem_mem _
    refine Ev.step (fun k => laws_hasText.l0.eq_2 _ _ _ k) (Ev_pos (by omega) (Ev_pos (by omega) (Ev_neg (h _ hm) ?_)))
    rw [ei]
    exact ih (i + 1) (by omega) (by omega)
theorem hasText_ev (names : List ByteArray) (n : ByteArray) (hl : names.length ≤ 1000) (h : ∀ x ∈ names, x.toList ≠ n.toList) : Ev (fun k => laws_hasText.f k names n) false :=
  hasText_l names n hl h names.length 0 (by omega) (by omega)

theorem lay_l0 (b s k : Int) (L : List Int) (hL : L.length ≤ 100) (hr : ∀ x ∈ L, 0 ≤ x ∧ x ≤ 70) (hn : L.Nodup) (R : Ev (fun q => laws_FnLayout.l1 q b s k L [] 0) true) : ∀ (d i : Nat), L.length - i = d → i ≤ L.length →
    Ev (fun q => laws_FnLayout.l0 q b s k L ((L.take i).map cellV) (i : Int)) true := by
  intro d
  induction d with
  | zero =>
    intro i hd hi
    exact Ev.step (fun k => laws_FnLayout.l0.eq_2 _ _ _ _ _ _ k) (Ev_neg (by omega) R)
  | succ d ih =>
    intro i hd hi
    have hi' : i < L.length := by omega
    have ei : wrap64 ((i : Int) + 1) = ((i + 1 : Nat) : Int) := by rw [w64 (by omega) (by omega)]; omega
    have er : rd L (i : Int) = L[i] := by
      unfold rd
      rw [show ((i : Int)).toNat = i from by omega, List.getD_eq_getElem?_getD, List.getElem?_eq_getElem hi']; rfl
    have hx := hr L[i] (List.getElem_mem _)
    have step := ih (i + 1) (by omega) (by omega)
    rw [List.take_succ_eq_append_getElem hi', List.map_append, List.map_cons, List.map_nil] at step
    have ht : ∀ y ∈ (L.take i).map cellV, y.toList ≠ (cellV L[i]).toList := by
      intro y hy e
      obtain ⟨z, hz, rfl⟩ := List.mem_map.1 hy
      have hzL := List.mem_of_mem_take hz
      have := cellV_inj z L[i] (hr z hzL) hx e
      subst this
      obtain ⟨j, hj, ej⟩ := List.mem_iff_getElem.1 hz
      rw [List.length_take] at hj
      rw [List.getElem_take] at ej
      have := (List.getElem_inj hn).1 ej
      omega
    refine Ev.step (fun k => laws_FnLayout.l0.eq_2 _ _ _ _ _ _ k) (Ev_pos (by omega) (Ev_pos (by omega) ?_))
    rw [er, ei]
    refine Ev.bind (impl_CellName_ev _) (Ev_neg (by omega) (Ev_neg (by omega) (Ev_neg (cellV_ne _ hx) (Ev.bind (hasText_ev _ _ (by simp; omega) ht) (Ev_neg (by decide) (Ev_pos (by simp; omega) step))))))
theorem lay_l1 (b s k : Int) (L : List Int) (R : ∀ names : List ByteArray, Ev (fun q => laws_FnLayout.l1 q b s k L names 71) true) : ∀ (d i : Nat), 71 - i = d → i ≤ 71 →
    Ev (fun q => laws_FnLayout.l1 q b s k L ((List.range i).map fun j : Nat => cellV (j : Int)) (i : Int)) true := by
  intro d
  induction d with
  | zero =>
    intro i hd hi
    obtain rfl : i = 71 := by omega
    exact R _
  | succ d ih =>
    intro i hd hi
    have ei : wrap64 ((i : Int) + 1) = ((i + 1 : Nat) : Int) := by rw [w64 (by omega) (by omega)]; omega
    have step := ih (i + 1) (by omega) (by omega)
    rw [List.range_succ, List.map_append, List.map_cons, List.map_nil] at step
    have ht : ∀ y ∈ (List.range i).map (fun j : Nat => cellV (j : Int)), y.toList ≠ (cellV (i : Int)).toList := by
      intro y hy e
      obtain ⟨j, hj, rfl⟩ := List.mem_map.1 hy
      have hj' := List.mem_range.1 hj
      have := cellV_inj (j : Int) (i : Int) (by omega) (by omega) e
      omega
    refine Ev.step (fun k => laws_FnLayout.l1.eq_2 _ _ _ _ _ _ k) (Ev_pos (by omega) ?_)
    rw [ei]
    exact Ev.bind (impl_CellName_ev _) (Ev_neg (cellV_ne _ (by omega)) (Ev.bind (hasText_ev _ _ (by simp; omega) ht) (Ev_neg (by decide) (Ev_pos (by simp; omega) step))))

theorem impl_SlotBase_at (b s : Nat) (hb : b < 2) (hs : s < 4) : impl_SlotBase.f (b : Int) (s : Int) = some ((7 + 32 * b + 8 * s : Nat) : Int) := by
  unfold impl_SlotBase.f
  simp only [within_eq, Option.bind_some]
  rw [if_pos (decide_eq_true (by omega)), if_pos (decide_eq_true (by omega))]
  congr 1
  unfold wrap64
  omega

theorem ring_at : ∀ b, b < 2 → ∀ s, s < 4 → ∀ k, k < 3 → cellC (12 + 32 * b + 8 * s + k) = (([114, 105, 110, 103, 32] ++ (([UInt8.ofNat (48 + b)] ++ [32]) ++ [UInt8.ofNat (48 + s)])) ++ [32]) ++ [UInt8.ofNat (48 + k)] := by decide +kernel
theorem gauge_at : ∀ b, b < 2 → ∀ s, s < 4 → cellC (10 + 32 * b + 8 * s) = [103, 97, 117, 103, 101, 32] ++ (([UInt8.ofNat (48 + b)] ++ [32]) ++ [UInt8.ofNat (48 + s)]) := by decide +kernel
theorem dlen (n : Nat) (h : n < 10) : (decS (n : Int)).size ≤ 21 := dsz _ (by omega)
theorem lay_end (b s k : Nat) (hb : b < 2) (hs : s < 4) (hk : k < 3) (L : List Int) (h9 : rd L 9 = ((12 + 32 * b + 8 * s + k : Nat) : Int)) (h7 : rd L 7 = ((10 + 32 * b + 8 * s : Nat) : Int)) (h4 : rd L 4 = ((7 + 32 * b + 8 * s : Nat) : Int)) (hl : L.length = 10) (names : List ByteArray) :
    Ev (fun q => laws_FnLayout.l1 q (b : Int) (s : Int) (k : Int) L names 71) true := by
  have zb := dlen b (by omega)
  have zs := dlen s (by omega)
  have zk := dlen k (by omega)
  have y1 : (⟨#[114, 105, 110, 103, 32]⟩ : ByteArray).size = 5 := rfl
  refine Ev.step (fun k => laws_FnLayout.l1.eq_2 _ _ _ _ _ _ k) (Ev_neg (by decide) ?_)
  rw [h9, h7, h4]
  refine Ev.bind (spec_Dec_ev _ (by omega) (by omega)) (Ev_pos (by omega) (Ev.bind (spec_Dec_ev _ (by omega) (by omega)) (Ev_pos (by simp only [ByteArray.size_append, z1]; omega) (Ev_pos (by omega) (Ev.bind (impl_CellName_ev _) (Ev_pos (by simp only [ByteArray.size_append, z1]; omega) (Ev_pos (by simp only [ByteArray.size_append, z1, y1]; omega) (Ev.bind (spec_Dec_ev _ (by omega) (by omega)) (Ev_pos (by simp only [ByteArray.size_append, z1, y1]; omega) (Ev_pos ?_ (Ev_pos (by omega) (Ev.bind (impl_CellName_ev _) (Ev_pos (by simp only [ByteArray.size_append, z1]; omega) (Ev_pos ?_ (Ev_bindp (impl_SlotBase_at b s hb hs) (Ev_pos (by omega) (Ev_pos rfl (Ev.bind (impl_CellName_ev _) (Ev_is ?_)))))))))))))))))))
  · rw [cell_C _ (by omega)]
    simp only [tl_append, decS_one b (by omega), decS_one s (by omega), decS_one k (by omega), tl_lit]
    exact ring_at b hb s hs k hk
  · rw [cell_C _ (by omega)]
    simp only [tl_append, decS_one b (by omega), decS_one s (by omega), tl_lit]
    exact gauge_at b hb s hs
  · rw [show cellV 71 = ⟨#[]⟩ from by unfold cellV; rw [if_pos (by decide)]]
    simp only [tl_lit]
    rfl

theorem at_I (l : List Int) (hl : l.length ≤ 1048576) (hr : ∀ x ∈ l, 0 ≤ x ∧ x ≤ 255) (a : Nat) (ha : a ≤ 9) : ∃ c : Int, laws_at.f l (a : Int) = some c ∧ 0 ≤ c ∧ c ≤ 255 := by
  unfold laws_at.f
  by_cases h : (a : Int) < (l.length : Int)
  · have hx := hr l[a] (List.getElem_mem (by omega))
    have er : rd l (a : Int) = l[a] := by
      unfold rd
      rw [show ((a : Int)).toNat = a from by omega, List.getD_eq_getElem?_getD, List.getElem?_eq_getElem (by omega)]; rfl
    rw [if_pos h, if_pos (by omega), er, w64 (by omega) (by omega)]
    exact ⟨_, rfl, hx⟩
  · rw [if_neg h]
    refine ⟨_, rfl, ?_⟩
    rw [w64 (n := (a : Int) * 37) (by omega) (by omega), w64 (n := (l.length : Int) * 11) (by omega) (by omega), w64 (by omega) (by omega), Int.tmod_eq_emod_of_nonneg (by omega)]
    omega

theorem impl_cellOf_at (b s : Nat) (hb : b < 2) (hs : s < 4) (c : Int) (h0 : 0 ≤ c) (h1 : c ≤ 100) : impl_cellOf.f (b : Int) (s : Int) c = some (((7 + 32 * b + 8 * s : Nat) : Int) + c) := by
  unfold impl_cellOf.f
  rw [impl_SlotBase_at b s hb hs, Option.bind_some, if_neg (by omega), w64 (by omega) (by omega)]

theorem FnLayout : laws_FnLayout.Pure := by
  intro l _ _ hw
  refine Ev.rounds (r := true) ?_
  by_cases hbig : (l.length : Int) > 1048576
  · exact Ev_bindp (a := true) (by unfold laws_big.f; rw [decide_eq_true hbig]) (Ev_pos rfl (Ev.now _))
  refine Ev_bindp (a := false) (by unfold laws_big.f; rw [decide_eq_false hbig]) (Ev_neg (by decide) ?_)
  have hr : ∀ x ∈ l, 0 ≤ x ∧ x ≤ 255 := by
    intro x hx
    have := hw x hx
    simp only [Lit.wf, IntKind.min, IntKind.max, IntKind.signed, IntKind.bits, Bool.and_eq_true, decide_eq_true_eq] at this
    simpa using this
  obtain ⟨v0, e0, a0, b0⟩ := at_I l (by omega) hr 0 (by omega)
  obtain ⟨v1, e1, a1, b1⟩ := at_I l (by omega) hr 1 (by omega)
  obtain ⟨v2, e2, a2, b2⟩ := at_I l (by omega) hr 2 (by omega)
  refine Ev_bindp e0 (Ev_bindp e1 (Ev_bindp e2 ?_))
  obtain ⟨b, eb, hb⟩ : ∃ b : Nat, Int.tmod v0 2 = (b : Int) ∧ b < 2 := ⟨(v0 % 2).toNat, by rw [Int.tmod_eq_emod_of_nonneg a0]; omega, by omega⟩
  obtain ⟨s, es, hs⟩ : ∃ s : Nat, Int.tmod v1 4 = (s : Int) ∧ s < 4 := ⟨(v1 % 4).toNat, by rw [Int.tmod_eq_emod_of_nonneg a1]; omega, by omega⟩
  obtain ⟨k, ek, hk⟩ : ∃ k : Nat, Int.tmod v2 3 = (k : Int) ∧ k < 3 := ⟨(v2 % 3).toNat, by rw [Int.tmod_eq_emod_of_nonneg a2]; omega, by omega⟩
  rw [eb, es, ek]
  refine Ev_bindp (a := 1) (by unfold impl_InCell.f; rw [within_eq, Option.bind_some, if_pos (by decide), w64 (by omega) (by omega)]; rfl) (Ev_bindp (a := 2) (by unfold impl_InCell.f; rw [within_eq, Option.bind_some, if_pos (by decide), w64 (by omega) (by omega)]; rfl) ?_)
  refine Ev_bindp (a := ((3 + s : Nat) : Int)) (by unfold impl_KeyCell.f; rw [within_eq, Option.bind_some, if_pos (decide_eq_true (by omega)), w64 (by omega) (by omega)]; congr 1; try omega) ?_
  refine Ev_bindp (a := ((7 + 32 * b + 8 * s : Nat) : Int)) (by unfold impl_StripeCell.f; rw [within_eq, Option.bind_some, if_pos (by decide), impl_cellOf_at b s hb hs 0 (by omega) (by omega), Option.bind_some]; congr 1; try omega) ?_
  refine Ev_bindp (a := ((8 + 32 * b + 8 * s : Nat) : Int)) (by unfold impl_StripeCell.f; rw [within_eq, Option.bind_some, if_pos (by decide), impl_cellOf_at b s hb hs 1 (by omega) (by omega), Option.bind_some]; congr 1; try omega) ?_
  refine Ev_bindp (a := ((9 + 32 * b + 8 * s : Nat) : Int)) (by unfold impl_StampCell.f; rw [impl_cellOf_at b s hb hs 2 (by omega) (by omega), Option.bind_some]; congr 1; try omega) ?_
  refine Ev_bindp (a := ((10 + 32 * b + 8 * s : Nat) : Int)) (by unfold impl_GaugeCell.f; rw [impl_cellOf_at b s hb hs 3 (by omega) (by omega), Option.bind_some]; congr 1; try omega) ?_
  refine Ev_bindp (a := ((11 + 32 * b + 8 * s : Nat) : Int)) (by unfold impl_TicketCell.f; rw [impl_cellOf_at b s hb hs 4 (by omega) (by omega), Option.bind_some]; congr 1; try omega) ?_
  refine Ev_bindp (a := ((12 + 32 * b + 8 * s + k : Nat) : Int)) (by unfold impl_RingCell.f; rw [within_eq, Option.bind_some, if_pos (decide_eq_true (by omega)), w64 (by omega) (by omega), impl_cellOf_at b s hb hs (5 + (k : Int)) (by omega) (by omega), Option.bind_some]; congr 1; try omega) ?_
  have main : ∀ L : List Int, L = [0, 1, 2, ((3 + s : Nat) : Int), ((7 + 32 * b + 8 * s : Nat) : Int), ((8 + 32 * b + 8 * s : Nat) : Int), ((9 + 32 * b + 8 * s : Nat) : Int), ((10 + 32 * b + 8 * s : Nat) : Int), ((11 + 32 * b + 8 * s : Nat) : Int), ((12 + 32 * b + 8 * s + k : Nat) : Int)] →
      Ev (fun q => laws_FnLayout.l0 q (b : Int) (s : Int) (k : Int) L [] 0) true := by
    intro L hL
    have R := lay_l1 (b : Int) (s : Int) (k : Int) L (fun names => lay_end b s k hb hs hk L (by subst hL; rfl) (by subst hL; rfl) (by subst hL; rfl) (by subst hL; rfl) names) 71 0 (by omega) (by omega)
    have hr0 : ∀ x ∈ L, 0 ≤ x ∧ x ≤ 70 := by
      subst hL
      intro x hx
      simp only [List.mem_cons, List.not_mem_nil, or_false] at hx
      omega
    have hn0 : L.Nodup := by
      subst hL
      simp only [List.nodup_cons, List.mem_cons, List.not_mem_nil, or_false, not_false_eq_true, List.nodup_nil, and_true]
      omega
    exact lay_l0 (b : Int) (s : Int) (k : Int) L (by subst hL; simp) hr0 hn0 R L.length 0 (by omega) (by omega)
  exact main _ rfl

end Go.Proofs.YtemefkkbeaaeoaaDoor.Pure
