/- What is proved here: the Go law FnExactCellName answers true for every input, over the functions that print.sh printed; no condition. -/
import Derived.Test.YtemefkkbeaaeoaaDoorQFnExactCellNamex2
set_option linter.unusedVariables false
set_option linter.unusedSimpArgs false
namespace Go.Proofs.YtemefkkbeaaeoaaDoor.Pure
open Go.RowKit Go.Proofs.YtemefkkbeaaeoaaDoor.PFnExactCellName Go.Proofs.YtemefkkbeaaeoaaDoorW.PrintWords Go.Proofs.YtemefkkbeaaeoaaDoorW.PrintLast

theorem Ev_pos {α : Type} {c : Prop} [Decidable c] {a b : Nat → Option α} {r : α} (h : c) (e : Ev a r) : Ev (fun k => if c then a k else b k) r :=
  Ev.congr (fun k => if_pos h) e
theorem Ev_neg {α : Type} {c : Prop} [Decidable c] {a b : Nat → Option α} {r : α} (h : ¬ c) (e : Ev b r) : Ev (fun k => if c then a k else b k) r :=
  Ev.congr (fun k => if_neg h) e
theorem Ev_bindp {α β : Type} {x : Option α} {f : Nat → α → Option β} {a : α} {r : β} (h : x = some a) (e : Ev (fun n => f n a) r) : Ev (fun n => x.bind (f n)) r := by
  subst h
  exact e
theorem Ev_is {α : Type} {x : Option α} {r : α} (h : x = some r) : Ev (fun _ => x) r := ⟨0, fun _ _ => h⟩

theorem w64 {n : Int} (h0 : -9223372036854775808 ≤ n) (h1 : n ≤ 9223372036854775807) : wrap64 n = n := by
  unfold wrap64
  omega

theorem wf64 {n : Int} (h : (Lit.int .i64 n).wf = true) : -9223372036854775808 ≤ n ∧ n ≤ 9223372036854775807 := by
  simp only [Lit.wf, IntKind.min, IntKind.max, IntKind.signed, IntKind.bits, Bool.and_eq_true, decide_eq_true_eq, if_true] at h
  omega

def digitsOf (u : Nat) : List UInt8 := if u = 0 then [] else Lib.decDigits u
theorem digitsOf_step {u : Nat} (h : u ≠ 0) : digitsOf u = digitsOf (u / 10) ++ [UInt8.ofNat (48 + u % 10)] := by
  unfold digitsOf
  rw [if_neg h]
  by_cases c : u < 10
  · rw [if_pos (by omega), Lib.decDigits_one c, show u % 10 = u from by omega]; rfl
  · rw [if_neg (by omega)]
    conv => lhs; rw [Lib.decDigits, dif_neg c]
theorem tq (x : Int) : (x.tdiv 10).natAbs = x.natAbs / 10 ∧ (x.tmod 10).natAbs = x.natAbs % 10 ∧ (0 ≤ x → 0 ≤ x.tdiv 10 ∧ 0 ≤ x.tmod 10) ∧ (x ≤ 0 → x.tdiv 10 ≤ 0 ∧ x.tmod 10 ≤ 0) := by
  rcases Int.le_total 0 x with h | h
  · rw [Int.tdiv_eq_ediv_of_nonneg h, Int.tmod_eq_emod_of_nonneg h]; omega
  · obtain ⟨y, rfl⟩ : ∃ y, x = -y := ⟨-x, by omega⟩
    rw [Int.neg_tdiv, Int.neg_tmod, Int.tdiv_eq_ediv_of_nonneg (by omega), Int.tmod_eq_emod_of_nonneg (by omega)]; omega
theorem sn_cons (b : Int) (l : List UInt8) : strOfNums [b] ++ (⟨l.toArray⟩ : ByteArray) = ⟨(UInt8.ofNat b.toNat :: l).toArray⟩ := by
  apply ByteArray.ext
  unfold strOfNums
  simp [ByteArray.data_append]
theorem ba_size (l : List UInt8) : (⟨l.toArray⟩ : ByteArray).size = l.length := by
  show l.toArray.size = l.length
  simp
def decS (n : Int) : ByteArray := ⟨(Lib.itoa n).toArray⟩

theorem dsz (n : Int) (h : 0 ≤ n ∧ n < 100) : (decS n).size ≤ 21 := by
  unfold decS
  rw [ba_size]
  unfold Lib.itoa
  rw [if_neg (by omega)]
  by_cases c : n.toNat < 10
  · rw [Lib.decDigits_one c]; simp
  · rw [Lib.decDigits_two c (by omega)]; simp
theorem impl_Dec_small (n : Int) (h : 0 ≤ n ∧ n < 100) : Ev (fun k => impl_Dec.f k n) (decS n) := by
  refine ⟨0, fun k _ => ?_⟩
  unfold impl_Dec.f
  rw [if_pos h]
  unfold decS Lib.itoa
  rw [if_neg (by omega)]
theorem z1 : (⟨#[32]⟩ : ByteArray).size = 1 := rfl
theorem z2 : (⟨#[105, 110, 32]⟩ : ByteArray).size = 3 := rfl
theorem z3 : (⟨#[107, 101, 121, 32]⟩ : ByteArray).size = 4 := rfl
theorem z4 : (⟨#[115, 116, 114, 105, 112, 101]⟩ : ByteArray).size = 6 := rfl
theorem z5 : (⟨#[115, 116, 97, 109, 112]⟩ : ByteArray).size = 5 := rfl
theorem z6 : (⟨#[103, 97, 117, 103, 101]⟩ : ByteArray).size = 5 := rfl
theorem z7 : (⟨#[116, 105, 99, 107, 101, 116]⟩ : ByteArray).size = 6 := rfl
theorem z8 : (⟨#[114, 105, 110, 103]⟩ : ByteArray).size = 4 := rfl

def placeV (b c : Int) : ByteArray := ((((⟨#[32]⟩ : ByteArray) ++ decS b) ++ (⟨#[32]⟩ : ByteArray)) ++ decS c)
def cellV (i : Int) : ByteArray :=
  if i < 0 ∨ 70 < i then ⟨#[]⟩
  else if i = 0 then ⟨#[101, 112, 111, 99, 104]⟩
  else if i < 3 then (⟨#[105, 110, 32]⟩ : ByteArray) ++ decS (i - 1)
  else if i < 7 then (⟨#[107, 101, 121, 32]⟩ : ByteArray) ++ decS (i - 3)
  else if (i - 7) % 8 < 2 then ((((⟨#[115, 116, 114, 105, 112, 101]⟩ : ByteArray) ++ placeV ((i - 7) / 32) ((i - 7) % 32 / 8)) ++ (⟨#[32]⟩ : ByteArray)) ++ decS ((i - 7) % 8))
  else if (i - 7) % 8 = 2 then (⟨#[115, 116, 97, 109, 112]⟩ : ByteArray) ++ placeV ((i - 7) / 32) ((i - 7) % 32 / 8)
  else if (i - 7) % 8 = 3 then (⟨#[103, 97, 117, 103, 101]⟩ : ByteArray) ++ placeV ((i - 7) / 32) ((i - 7) % 32 / 8)
  else if (i - 7) % 8 = 4 then (⟨#[116, 105, 99, 107, 101, 116]⟩ : ByteArray) ++ placeV ((i - 7) / 32) ((i - 7) % 32 / 8)
  else ((((⟨#[114, 105, 110, 103]⟩ : ByteArray) ++ placeV ((i - 7) / 32) ((i - 7) % 32 / 8)) ++ (⟨#[32]⟩ : ByteArray)) ++ decS ((i - 7) % 8 - 5))
theorem cell_args (i : Int) (h : 7 ≤ i) (h2 : i ≤ 70) : wrap64 (i - 7) = i - 7 ∧ wrap64 (Int.tdiv (i - 7) 32) = (i - 7) / 32 ∧ wrap64 (Int.tdiv (Int.tmod (i - 7) 32) 8) = (i - 7) % 32 / 8 ∧ Int.tmod (i - 7) 8 = (i - 7) % 8 ∧ wrap64 ((i - 7) % 8 - 5) = (i - 7) % 8 - 5 ∧ wrap64 (wrap64 ((i - 7) % 8 - 2) - 3) = (i - 7) % 8 - 5 := by
  rw [Int.tdiv_eq_ediv_of_nonneg (by omega), Int.tmod_eq_emod_of_nonneg (by omega), Int.tmod_eq_emod_of_nonneg (by omega), Int.tdiv_eq_ediv_of_nonneg (by omega)]
  refine ⟨w64 (by omega) (by omega), w64 (by omega) (by omega), w64 (by omega) (by omega), rfl, w64 (by omega) (by omega), ?_⟩
  rw [w64 (n := (i - 7) % 8 - 2) (by omega) (by omega), w64 (by omega) (by omega)]
  omega

theorem spec_dec_0 (neg : Bool) (l : List UInt8) (hl : l.length ≤ 1000) : Ev (fun k => spec_Dec.l0 k 0 ⟨l.toArray⟩ neg) ⟨((if neg then [45] else []) ++ l).toArray⟩ := by
  refine Ev.step (fun k => spec_Dec.l0.eq_2 _ _ _ k) (Ev_pos rfl ?_)
  cases neg with
  | true =>
    refine Ev_pos rfl (Ev_pos (by rw [ba_size]; omega) (Ev_is ?_))
    congr 1
  | false => exact Ev_neg (by decide) (Ev.now _)
theorem spec_dec_l (neg : Bool) : ∀ (f : Nat) (x : Int) (l : List UInt8), x.natAbs < 10 ^ f → -9223372036854775808 ≤ x → x ≤ 9223372036854775807 → l.length + f ≤ 1000 →
    Ev (fun k => spec_Dec.l0 k x ⟨l.toArray⟩ neg) ⟨((if neg then [45] else []) ++ (digitsOf x.natAbs ++ l)).toArray⟩ := by
  intro f
  induction f with
  | zero =>
    intro x l hx _ _ hl
    obtain rfl : x = 0 := by simp at hx; exact hx
    exact spec_dec_0 neg l (by omega)
  | succ f ih =>
    intro x l hx h0 h1 hl
    by_cases z : x = 0
    · subst z; exact spec_dec_0 neg l (by omega)
    obtain ⟨t1, t2, t3, t4⟩ := tq x
    have hs : x.natAbs / 10 < 10 ^ f := by rw [Nat.pow_succ] at hx; omega
    have hn : x.natAbs ≠ 0 := by omega
    have ed : wrap64 (x.tdiv 10) = x.tdiv 10 := w64 (by omega) (by omega)
    have key := ih (x.tdiv 10) (UInt8.ofNat (48 + x.natAbs % 10) :: l) (by rw [t1]; exact hs) (by omega) (by omega) (by simp only [List.length_cons]; omega)
    rw [t1] at key
    have goal : digitsOf x.natAbs ++ l = digitsOf (x.natAbs / 10) ++ (UInt8.ofNat (48 + x.natAbs % 10) :: l) := by
      rw [digitsOf_step hn]; simp
    rw [goal]
    refine Ev.step (fun k => spec_Dec.l0.eq_2 _ _ _ k) (Ev_neg z ?_)
    by_cases d : x.tmod 10 < 0
    · have eb : (wrap64 (48 + (wrap64 (-(x.tmod 10))))) % 256 = ((48 + x.natAbs % 10 : Nat) : Int) := by
        rw [w64 (n := -(x.tmod 10)) (by omega) (by omega), w64 (by omega) (by omega)]; omega
      refine Ev_pos d (Ev_bindp rfl (Ev_pos (by rw [strOfNums_size, ba_size]; simp; omega) ?_))
      rw [eb, ed, sn_cons]
      exact key
    · have eb : (wrap64 (48 + (x.tmod 10))) % 256 = ((48 + x.natAbs % 10 : Nat) : Int) := by
        rw [w64 (by omega) (by omega)]; omega
      refine Ev_neg d (Ev_bindp rfl (Ev_pos (by rw [strOfNums_size, ba_size]; simp; omega) ?_))
      rw [eb, ed, sn_cons]
      exact key
theorem spec_Dec_ev (n : Int) (h0 : -9223372036854775808 ≤ n) (h1 : n ≤ 9223372036854775807) : Ev (fun k => spec_Dec.f k n) (decS n) := by
  by_cases z : n = 0
  · subst z
    refine Ev_pos rfl (Ev_is ?_)
    have : Lib.itoa 0 = [48] := by unfold Lib.itoa; rw [if_neg (by decide)]; exact Lib.decDigits_one (by decide)
    unfold decS
    rw [this]
  · refine Ev_neg z ?_
    have := spec_dec_l (decide (n < 0)) 20 n [] (by omega) h0 h1 (by decide)
    have e : (if decide (n < 0) = true then [45] else []) ++ (digitsOf n.natAbs ++ []) = Lib.itoa n := by
      have hn : n.natAbs ≠ 0 := by omega
      unfold Lib.itoa digitsOf
      by_cases c : n < 0
      · simp [c, hn]
      · have e2 : n.natAbs = n.toNat := by omega
        have hn' : n.toNat ≠ 0 := by omega
        rw [e2]
        simp only [if_neg hn', if_neg c, decide_eq_false c, List.append_nil]
        rfl
    rw [e] at this
    exact this

theorem l1In_eq (a b c : Int) : spec_l1In.f a b c = some (decide (b ≤ a ∧ a ≤ c)) := by
  unfold spec_l1In.f
  by_cases h : b ≤ a <;> simp [h]

theorem spec_CellName_ev (i : Int) : Ev (fun k => spec_CellName.f k i) (cellV i) := by
  by_cases h : 0 ≤ i ∧ i ≤ 70
  · have n0 : ¬ (i < 0 ∨ 70 < i) := by omega
    have D : ∀ n : Int, 0 ≤ n ∧ n < 100 → Ev (fun k => spec_Dec.f k n) (decS n) := fun n hn => spec_Dec_ev n (by omega) (by omega)
    by_cases i0 : i = 0
    · rw [show cellV i = ⟨#[101, 112, 111, 99, 104]⟩ from by unfold cellV; rw [if_neg n0, if_pos i0]]
      exact Ev_bindp (l1In_eq _ _ _) (Ev_pos (decide_eq_true h) (Ev_pos i0 (Ev.now _)))
    by_cases i3 : i < 3
    · have hz := dsz (i - 1) (by omega)
      rw [show cellV i = (⟨#[105, 110, 32]⟩ : ByteArray) ++ decS (i - 1) from by unfold cellV; rw [if_neg n0, if_neg i0, if_pos i3]]
      unfold spec_CellName.f
      rw [show wrap64 (i - 1) = i - 1 from w64 (by omega) (by omega)]
      exact Ev_bindp (l1In_eq _ _ _) (Ev_pos (decide_eq_true h) (Ev_neg i0 (Ev_pos i3 (Ev.bind (D _ (by omega)) (Ev_pos (by omega) (Ev.now _))))))
    by_cases i7 : i < 7
    · have hz := dsz (i - 3) (by omega)
      rw [show cellV i = (⟨#[107, 101, 121, 32]⟩ : ByteArray) ++ decS (i - 3) from by unfold cellV; rw [if_neg n0, if_neg i0, if_neg i3, if_pos i7]]
      unfold spec_CellName.f
      rw [show wrap64 (i - 3) = i - 3 from w64 (by omega) (by omega)]
      exact Ev_bindp (l1In_eq _ _ _) (Ev_pos (decide_eq_true h) (Ev_neg i0 (Ev_neg i3 (Ev_pos i7 (Ev.bind (D _ (by omega)) (Ev_pos (by omega) (Ev.now _)))))))
    obtain ⟨e1, e2, e3, e4, e5, e6⟩ := cell_args i (by omega) h.2
    have ev : cellV i = if (i - 7) % 8 < 2 then ((((⟨#[115, 116, 114, 105, 112, 101]⟩ : ByteArray) ++ placeV ((i - 7) / 32) ((i - 7) % 32 / 8)) ++ (⟨#[32]⟩ : ByteArray)) ++ decS ((i - 7) % 8))
        else if (i - 7) % 8 = 2 then (⟨#[115, 116, 97, 109, 112]⟩ : ByteArray) ++ placeV ((i - 7) / 32) ((i - 7) % 32 / 8)
        else if (i - 7) % 8 = 3 then (⟨#[103, 97, 117, 103, 101]⟩ : ByteArray) ++ placeV ((i - 7) / 32) ((i - 7) % 32 / 8)
        else if (i - 7) % 8 = 4 then (⟨#[116, 105, 99, 107, 101, 116]⟩ : ByteArray) ++ placeV ((i - 7) / 32) ((i - 7) % 32 / 8)
        else ((((⟨#[114, 105, 110, 103]⟩ : ByteArray) ++ placeV ((i - 7) / 32) ((i - 7) % 32 / 8)) ++ (⟨#[32]⟩ : ByteArray)) ++ decS ((i - 7) % 8 - 5)) := by
      unfold cellV; rw [if_neg n0, if_neg i0, if_neg i3, if_neg i7]
    rw [ev]
    unfold spec_CellName.f
    rw [e1, e2, e3, e4, e5]
    clear ev e1 e2 e3 e4 e5 e6
    have hb := dsz ((i - 7) / 32) (by omega)
    have hc := dsz ((i - 7) % 32 / 8) (by omega)
    have hb' : 0 ≤ (i - 7) / 32 ∧ (i - 7) / 32 < 100 := by omega
    have hc' : 0 ≤ (i - 7) % 32 / 8 ∧ (i - 7) % 32 / 8 < 100 := by omega
    have hk0 : 0 ≤ (i - 7) % 8 ∧ (i - 7) % 8 < 8 := by omega
    generalize (i - 7) / 32 = b at *
    generalize (i - 7) % 32 / 8 = c at *
    generalize (i - 7) % 8 = m at *
    unfold placeV
    refine Ev_bindp (l1In_eq _ _ _) (Ev_pos (decide_eq_true h) (Ev_neg i0 (Ev_neg i3 (Ev_neg i7 (Ev.bind (D b hb') (Ev_pos (by omega) (Ev_pos (by simp only [ByteArray.size_append, z1]; omega) (Ev.bind (D c hc') (Ev_pos (by simp only [ByteArray.size_append, z1]; omega) ?_)))))))))
    by_cases m2 : m < 2
    · have hm := dsz m (by omega)
      rw [if_pos m2]
      exact Ev_pos m2 (Ev_pos (by simp only [ByteArray.size_append, z1]; omega) (Ev_pos (by simp only [ByteArray.size_append, z1, z4]; omega) (Ev.bind (D m (by omega)) (Ev_pos (by simp only [ByteArray.size_append, z1, z4]; omega) (Ev.now _)))))
    rw [if_neg m2]
    refine Ev_neg m2 ?_
    by_cases m3 : m = 2
    · rw [if_pos m3]
      exact Ev_pos m3 (Ev_pos (by simp only [ByteArray.size_append, z1]; omega) (Ev.now _))
    rw [if_neg m3]
    refine Ev_neg m3 ?_
    by_cases m4 : m = 3
    · rw [if_pos m4]
      exact Ev_pos m4 (Ev_pos (by simp only [ByteArray.size_append, z1]; omega) (Ev.now _))
    rw [if_neg m4]
    refine Ev_neg m4 ?_
    by_cases m5 : m = 4
    · rw [if_pos m5]
      exact Ev_pos m5 (Ev_pos (by simp only [ByteArray.size_append, z1]; omega) (Ev.now _))
    rw [if_neg m5]
    have hm := dsz (m - 5) (by omega)
    exact Ev_neg m5 (Ev_pos (by simp only [ByteArray.size_append, z1]; omega) (Ev_pos (by simp only [ByteArray.size_append, z1, z8]; omega) (Ev.bind (D (m - 5) (by omega)) (Ev_pos (by simp only [ByteArray.size_append, z1, z8]; omega) (Ev.now _)))))
  · rw [show cellV i = ⟨#[]⟩ from by unfold cellV; rw [if_pos (by omega)]]
    exact Ev_bindp (l1In_eq _ _ _) (Ev_neg (by simpa using h) (Ev.now _))

theorem within_eq (a b c : Int) : impl_within.f a b c = some (decide (b ≤ a ∧ a ≤ c)) := by
  unfold impl_within.f
  by_cases h : b ≤ a <;> simp [h]

theorem impl_CellName_ev (i : Int) : Ev (fun k => impl_CellName.f k i) (cellV i) := by
  by_cases h : 0 ≤ i ∧ i ≤ 70
  · have n0 : ¬ (i < 0 ∨ 70 < i) := by omega
    have D : ∀ n : Int, 0 ≤ n ∧ n < 100 → Ev (fun k => impl_Dec.f k n) (decS n) := fun n hn => impl_Dec_small n hn
    by_cases i0 : i = 0
    · rw [show cellV i = ⟨#[101, 112, 111, 99, 104]⟩ from by unfold cellV; rw [if_neg n0, if_pos i0]]
      exact Ev_pos i0 (Ev.now _)
    by_cases i3 : i < 3
    · have hz := dsz (i - 1) (by omega)
      rw [show cellV i = (⟨#[105, 110, 32]⟩ : ByteArray) ++ decS (i - 1) from by unfold cellV; rw [if_neg n0, if_neg i0, if_pos i3]]
      unfold impl_CellName.f
      rw [show wrap64 (i - 1) = i - 1 from w64 (by omega) (by omega)]
      exact Ev_neg i0 (Ev_bindp (within_eq _ _ _) (Ev_pos (decide_eq_true (by omega)) (Ev.bind (D _ (by omega)) (Ev_pos (by omega) (Ev.now _)))))
    by_cases i7 : i < 7
    · have hz := dsz (i - 3) (by omega)
      rw [show cellV i = (⟨#[107, 101, 121, 32]⟩ : ByteArray) ++ decS (i - 3) from by unfold cellV; rw [if_neg n0, if_neg i0, if_neg i3, if_pos i7]]
      unfold impl_CellName.f
      rw [show wrap64 (i - 3) = i - 3 from w64 (by omega) (by omega)]
      exact Ev_neg i0 (Ev_bindp (within_eq _ _ _) (Ev_neg (by rw [decide_eq_true_eq]; omega) (Ev_bindp (within_eq _ _ _) (Ev_pos (decide_eq_true (by omega)) (Ev.bind (D _ (by omega)) (Ev_pos (by omega) (Ev.now _)))))))
    obtain ⟨e1, e2, e3, e4, e5, e6⟩ := cell_args i (by omega) h.2
    have ev : cellV i = if (i - 7) % 8 < 2 then ((((⟨#[115, 116, 114, 105, 112, 101]⟩ : ByteArray) ++ placeV ((i - 7) / 32) ((i - 7) % 32 / 8)) ++ (⟨#[32]⟩ : ByteArray)) ++ decS ((i - 7) % 8))
        else if (i - 7) % 8 = 2 then (⟨#[115, 116, 97, 109, 112]⟩ : ByteArray) ++ placeV ((i - 7) / 32) ((i - 7) % 32 / 8)
        else if (i - 7) % 8 = 3 then (⟨#[103, 97, 117, 103, 101]⟩ : ByteArray) ++ placeV ((i - 7) / 32) ((i - 7) % 32 / 8)
        else if (i - 7) % 8 = 4 then (⟨#[116, 105, 99, 107, 101, 116]⟩ : ByteArray) ++ placeV ((i - 7) / 32) ((i - 7) % 32 / 8)
        else ((((⟨#[114, 105, 110, 103]⟩ : ByteArray) ++ placeV ((i - 7) / 32) ((i - 7) % 32 / 8)) ++ (⟨#[32]⟩ : ByteArray)) ++ decS ((i - 7) % 8 - 5)) := by
      unfold cellV; rw [if_neg n0, if_neg i0, if_neg i3, if_neg i7]
    rw [ev]
    unfold impl_CellName.f
    rw [e1, e2, e3, e4, e6]
    clear ev e1 e2 e3 e4 e5 e6
    have hb := dsz ((i - 7) / 32) (by omega)
    have hc := dsz ((i - 7) % 32 / 8) (by omega)
    have hb' : 0 ≤ (i - 7) / 32 ∧ (i - 7) / 32 < 100 := by omega
    have hc' : 0 ≤ (i - 7) % 32 / 8 ∧ (i - 7) % 32 / 8 < 100 := by omega
    have hk0 : 0 ≤ (i - 7) % 8 ∧ (i - 7) % 8 < 8 := by omega
    generalize (i - 7) / 32 = b at *
    generalize (i - 7) % 32 / 8 = c at *
    generalize (i - 7) % 8 = m at *
    unfold placeV
    refine Ev_neg i0 (Ev_bindp (within_eq _ _ _) (Ev_neg (by rw [decide_eq_true_eq]; omega) (Ev_bindp (within_eq _ _ _) (Ev_neg (by rw [decide_eq_true_eq]; omega) (Ev_bindp (within_eq _ _ _) (Ev_pos (decide_eq_true (by omega)) (Ev.bind (D b hb') (Ev_pos (by omega) (Ev_pos (by simp only [ByteArray.size_append, z1]; omega) (Ev.bind (D c hc') (Ev_pos (by simp only [ByteArray.size_append, z1]; omega) ?_)))))))))))
    by_cases m2 : m < 2
    · have hm := dsz m (by omega)
      rw [if_pos m2]
      exact Ev_pos m2 (Ev_pos (by simp only [ByteArray.size_append, z1]; omega) (Ev_pos (by simp only [ByteArray.size_append, z1, z4]; omega) (Ev.bind (D m (by omega)) (Ev_pos (by simp only [ByteArray.size_append, z1, z4]; omega) (Ev.now _)))))
    rw [if_neg m2]
    refine Ev_neg m2 ?_
    by_cases m3 : m = 2
    · rw [if_pos m3]
      exact Ev_pos (by omega) (Ev_is (by rw [if_pos m3, if_pos (by simp only [ByteArray.size_append, z1]; omega)]))
    rw [if_neg m3]
    by_cases m4 : m = 3
    · rw [if_pos m4]
      exact Ev_pos (by omega) (Ev_is (by rw [if_neg m3, if_pos m4, if_pos (by simp only [ByteArray.size_append, z1]; omega)]))
    rw [if_neg m4]
    by_cases m5 : m = 4
    · rw [if_pos m5]
      exact Ev_pos (by omega) (Ev_is (by rw [if_neg m3, if_neg m4, if_pos (by simp only [ByteArray.size_append, z1]; omega)]))
    rw [if_neg m5]
    simp only [if_neg m3, if_neg m4]
    have hm := dsz (m - 5) (by omega)
    exact Ev_neg (by omega) (Ev_pos (by simp only [ByteArray.size_append, z1]; omega) (Ev_pos (by simp only [ByteArray.size_append, z1, z8]; omega) (Ev.bind (D (m - 5) (by omega)) (Ev_pos (by simp only [ByteArray.size_append, z1, z8]; omega) (Ev.now _)))))
  · rw [show cellV i = ⟨#[]⟩ from by unfold cellV; rw [if_pos (by omega)]]
    exact Ev_neg (by omega) (Ev_bindp (within_eq _ _ _) (Ev_neg (by rw [decide_eq_true_eq]; omega) (Ev_bindp (within_eq _ _ _) (Ev_neg (by rw [decide_eq_true_eq]; omega) (Ev_bindp (within_eq _ _ _) (Ev_neg (by rw [decide_eq_true_eq]; omega) (Ev.now _)))))))

theorem FnExactCellName (i : Int) (h : (Lit.int .i64 i).wf = true) : ∃ k, laws_FnExactCellName.f k i = some true := by
  refine Ev.rounds (r := true) ?_
  exact Ev.bind (spec_CellName_ev i) (Ev.bind (impl_CellName_ev i) (Ev_pos rfl (Ev.now _)))

end Go.Proofs.YtemefkkbeaaeoaaDoor.Pure
