/- What is proved here: contracts of the Go functions that the law FnLayout reaches, for its row; no condition. The draft was printed; this text is not the print. -/
import Derived.Test.YtemefkkbeaaeoaaDoorShelf
import Derived.Lib.AppendIntMem
import Derived.Test.YtemefkkbeaaeoaaDoorQFnLayoutx0
namespace Go.Proofs.YtemefkkbeaaeoaaDoor.PFnLayout
open Go.RowKit Go.Proofs.YtemefkkbeaaeoaaDoorW.PrintWords Go.Proofs.YtemefkkbeaaeoaaDoorW.PrintLast Go.Proofs.YtemefkkbeaaeoaaDoorW.PrintMore
attribute [local go_sem] max2_int min2_int max_two min_two max_three min_three max_four min_four   -- for this text's walks alone
set_option linter.unusedVariables false
set_option linter.unusedSimpArgs false

/-! ### spec_Dec: function 8 -/
def spec_Dec.l0 : Nat → Int → ByteArray → Bool → Option (ByteArray)
  | 0, _, _, _ => none
  | k + 1, x0, x3, x4 => if x0 = 0 then (if x4 = true then (if 1 + x3.size ≤ 9223372036854775807 then (some ((⟨#[45]⟩ : ByteArray) ++ x3)) else (none)) else (some x3)) else (if (Int.tmod x0 10) < 0 then ((some (([(wrap64 (48 + (wrap64 (-(Int.tmod x0 10))))) % 256] : List Int) : List Int)).bind fun y101 => (if (strOfNums y101).size + x3.size ≤ 9223372036854775807 then (spec_Dec.l0 k (wrap64 (Int.tdiv x0 10)) ((strOfNums y101) ++ x3) x4) else (none))) else ((some (([(wrap64 (48 + (Int.tmod x0 10))) % 256] : List Int) : List Int)).bind fun y104 => (if (strOfNums y104).size + x3.size ≤ 9223372036854775807 then (spec_Dec.l0 k (wrap64 (Int.tdiv x0 10)) ((strOfNums y104) ++ x3) x4) else (none))))
def spec_Dec.f (k : Nat) (a0 : Int) : Option (ByteArray) := if a0 = 0 then (some (⟨#[48]⟩ : ByteArray)) else (spec_Dec.l0 k a0 (⟨#[]⟩ : ByteArray) (decide (a0 < 0)))
theorem spec_Dec.mono_l : ∀ k, (∀ y0 y1 y2, LeO (spec_Dec.l0 k y0 y1 y2) (spec_Dec.l0 (k + 1) y0 y1 y2))
  | 0 => fun _ _ _ r h => by simp [spec_Dec.l0] at h
  | k + 1 => by
    have ih0 := spec_Dec.mono_l k
    · intro y0 y1 y2
      unfold spec_Dec.l0
      repeat' first
      | (with_reducible exact ih0 _ _ _)
      | (with_reducible exact LeO.refl _)
      | (with_reducible exact LeO.none _)
      | (with_reducible refine LeO.ite ?_ ?_)
      | (with_reducible refine LeO.bind ?_ (fun _ => ?_))
      | exact ih0 _ _ _
      | exact LeO.none _
      | refine LeO.ite ?_ ?_
      | refine LeO.bind ?_ (fun _ => ?_)
theorem spec_Dec.mono : ∀ a0 k, LeO (spec_Dec.f k a0) (spec_Dec.f (k + 1) a0) := by
  intro a0 k
  have ih0 := spec_Dec.mono_l k
  unfold spec_Dec.f
  repeat' first
      | (with_reducible exact ih0 _ _ _)
      | (with_reducible exact LeO.refl _)
      | (with_reducible exact LeO.none _)
      | (with_reducible refine LeO.ite ?_ ?_)
      | (with_reducible refine LeO.bind ?_ (fun _ => ?_))
      | exact ih0 _ _ _
      | exact LeO.none _
      | refine LeO.ite ?_ ?_
      | refine LeO.bind ?_ (fun _ => ?_)
set_option maxHeartbeats 8000000 in
set_option maxRecDepth 100000 in
theorem spec_Dec.calls (k : Nat) (a0 : Int) (r : ByteArray) (w : World) (h : spec_Dec.f k a0 = some r) :
    Calls Tryd.prog 8 #[.int .i64 a0] w fun e w' => e = .returned (.string r) ∧ Below w.heap.size w w' := by
  have HB := Aside0.mk (Below.refl w.heap.size w)
  have H : (if a0 = 0 then (some (⟨#[48]⟩ : ByteArray)) else (spec_Dec.l0 k a0 (⟨#[]⟩ : ByteArray) (decide (a0 < 0)))) = some r := h
  clear h
  by_cases c2 : a0 = 0
  · rw [if_pos c2] at H
    have c2b0 : (a0 == 0) = true := beq_iff_eq.mpr c2
    have c2b1 : (a0 != 0) = false := bne_eq_false_iff_eq.mpr c2
    clear c2
    obtain rfl := Option.some.inj H
    go_enter Tryd.func8, Tryd.ntmps8
    go_wp2
    go_ret
    exact ⟨by first | rfl | (simp [errW_none, errW_some] <;> rfl) | (simp [*, errW_none, errW_some] <;> rfl), by repeat (first | (with_reducible first | exact HB.out | apply below_alloc | apply pw_below_drewN | apply below_drew1) | exact HB.out)⟩
  · rw [if_neg c2] at H
    have c2b0 : (a0 == 0) = false := beq_eq_false_iff_ne.mpr c2
    have c2b1 : (a0 != 0) = true := bne_iff_ne.mpr c2
    have H' := Aside0.mk H
    clear H
    go_enter Tryd.func8, Tryd.ntmps8
    go_wp2
    go_loopg [0, 3] k (fun kq v0 v3 w' => ∃ (x0_1 : Int) (x3_1 : ByteArray), v0 = .int .i64 x0_1 ∧ v3 = .string x3_1 ∧ Aside0 (spec_Dec.l0 kq x0_1 x3_1 (decide (a0 < 0)) = some r) ∧ Aside0 (kq ≤ k) ∧ Aside0 (Below w.heap.size w w'))
    case atStart => exact ⟨(a0), ((⟨#[]⟩ : ByteArray)), (by first | rfl | (simp; done) | (simp [*]; done)), (by first | rfl | (simp; done) | (simp [*]; done)), H', ⟨Nat.le_refl _⟩, ⟨by repeat (first | (with_reducible first | exact HB.out | apply below_alloc | apply pw_below_drewN | apply below_drew1) | exact HB.out)⟩⟩
    case round =>
      clear H'
      try clear c2
      try clear c2b0
      try clear c2b1
      try clear p2
      obtain ⟨x0_1, x3_1, rfl, rfl, HA, HK1, HB⟩ := hrel
      cases gk with
      | zero => exact absurd HA.out (by simp [spec_Dec.l0])
      | succ k1 =>
        have H := HA.out
        clear HA
        simp only [spec_Dec.l0] at H
        by_cases c3 : x0_1 = 0
        · rw [if_pos c3] at H
          have c3b0 : (x0_1 == 0) = true := beq_iff_eq.mpr c3
          have c3b1 : (x0_1 != 0) = false := bne_eq_false_iff_eq.mpr c3
          clear c3
          by_cases c4 : (decide (a0 < 0)) = true
          · rw [if_pos c4] at H
            have c4b0 : (decide (a0 < 0)) = true := c4
            clear c4
            by_cases c5 : 1 + x3_1.size ≤ 9223372036854775807
            · rw [if_pos c5] at H
              have c5b0 := eq_true c5
              have c5b1 : decide (1 + x3_1.size ≤ 9223372036854775807) = true := decide_eq_true c5
              try have c5b2 : (9223372036854775807 < 1 + x3_1.size) = False := eq_false (Nat.not_lt.2 c5)
              obtain rfl := Option.some.inj H
              go_wp2
              all_goals first
                | (exfalso; have hs_ := of_decide_eq_true c4b0; omega)
                | (go_ret; exact ⟨by first | rfl | (simp [errW_none, errW_some] <;> rfl) | (simp [*, errW_none, errW_some] <;> rfl), by repeat (first | (with_reducible first | exact HB.out | apply below_alloc | apply pw_below_drewN | apply below_drew1) | exact HB.out)⟩)
            · rw [if_neg c5] at H
              exact absurd H (by simp)
          · rw [if_neg c4] at H
            have c4b0 : (decide (a0 < 0)) = false := by simpa using c4
            clear c4
            obtain rfl := Option.some.inj H
            go_wp2
            all_goals first
              | (exfalso; have hs_ := of_decide_eq_false c4b0; omega)
              | (go_ret; exact ⟨by first | rfl | (simp [errW_none, errW_some] <;> rfl) | (simp [*, errW_none, errW_some] <;> rfl), by repeat (first | (with_reducible first | exact HB.out | apply below_alloc | apply pw_below_drewN | apply below_drew1) | exact HB.out)⟩)
        · rw [if_neg c3] at H
          have c3b0 : (x0_1 == 0) = false := beq_eq_false_iff_ne.mpr c3
          have c3b1 : (x0_1 != 0) = true := bne_iff_ne.mpr c3
          by_cases c6 : (Int.tmod x0_1 10) < 0
          · rw [if_pos c6] at H
            have c6b0 : decide ((Int.tmod x0_1 10) < 0) = true := decide_eq_true c6
            clear c6
            obtain ⟨y101, hy101⟩ : ∃ y_ : List Int, y_ = (([(wrap64 (48 + (wrap64 (-(Int.tmod x0_1 10))))) % 256] : List Int)) := ⟨_, rfl⟩
            replace H : (if (strOfNums y101).size + x3_1.size ≤ 9223372036854775807 then (spec_Dec.l0 k1 (wrap64 (Int.tdiv x0_1 10)) ((strOfNums y101) ++ x3_1) (decide (a0 < 0))) else (none)) = some r := by first | (rw [hy101]; with_reducible exact H) | (have H2_ := (Option.bind_some _ _).symm.trans H; rw [hy101]; with_reducible exact H2_) | (have H2_ := (Option.bind_some _ _).symm.trans H; with_reducible exact H2_) | with_reducible exact H | (rw [hy101]; exact H) | exact H
            have Ny101 := Aside0.mk hy101
            clear hy101
            by_cases c7 : (strOfNums y101).size + x3_1.size ≤ 9223372036854775807
            · rw [if_pos c7] at H
              have c7b0 := eq_true c7
              have c7b1 : decide ((strOfNums y101).size + x3_1.size ≤ 9223372036854775807) = true := decide_eq_true c7
              try have c7b2 : (9223372036854775807 < (strOfNums y101).size + x3_1.size) = False := eq_false (Nat.not_lt.2 c7)
              have H' := Aside0.mk H
              clear H
              go_wp2_with (first | ((with_reducible refine gate_dst (N := 21) rfl ?_); refine Kd.R_lit (Kd.int .u8) _ 5 ?hg (N := 21) ?hd (xs := ([(wrap64 (48 + (wrap64 (-(Int.tmod x0_1 10))))) % 256] : List Int)) (inner := [.int .u8 ((wrap64 (48 + (wrap64 (-(Int.tmod x0_1 10))))) % 256)]) (ok := fun _ => True) (okp := fun _ => True) ?hr ?hp (fun _ hk => hk) trivial (Below.refl _ _) (Nat.le_refl _) (by simp) ?_; (case hd => rfl); (case hg => rfl); (case hr => first | (go_simp; done) | (go_simp; rfl)); (case hp => exact (Reps.one (show Kd.M (Kd.int .u8) _ _ _ ((wrap64 (48 + (wrap64 (-(Int.tmod x0_1 10))))) % 256) [.int .u8 ((wrap64 (48 + (wrap64 (-(Int.tmod x0_1 10))))) % 256)] from rfl) (Reps.none _ _))); intro v102 w8 ho9 hb hg_ hnew_; clear hg_ hnew_; (first | rw [← Ny101.out] at ho9 | (simp only [Int.reduceToNat] at ho9; rw [← Ny101.out] at ho9)); have n0_ := Aside0.mk (Kd.R_lower ho9 (below_size (by repeat (first | (with_reducible first | exact HB.out | apply below_alloc | apply pw_below_drewN | apply below_drew1) | exact HB.out)))); have n1_ := Aside0.mk (below_step (by repeat (first | (with_reducible first | exact HB.out | apply below_alloc | apply pw_below_drewN | apply below_drew1) | exact HB.out)) hb); clear HB; have HO103 := n0_; have HB := n1_; clear n0_ n1_; clear hb ho9; have hcv10 := own_string (P := Tryd.prog) Tryd.underlying27 Tryd.underlying5 Tryd.underlying9 (Kd.own_of_R HO103.out)))
              go_roundg k1
              case measure => have := HK1.out; omega
              case rel => exact ⟨(wrap64 (Int.tdiv x0_1 10)), ((strOfNums y101) ++ x3_1), (by first | rfl | (simp; done) | (simp [*]; done)), (by first | rfl | (simp; done) | (simp [*]; done)), H', ⟨by have := HK1.out; omega⟩, ⟨by repeat (first | (with_reducible first | exact HB.out | apply below_alloc | apply pw_below_drewN | apply below_drew1) | exact HB.out)⟩⟩
            · rw [if_neg c7] at H
              exact absurd H (by simp)
          · rw [if_neg c6] at H
            have c6b0 : decide ((Int.tmod x0_1 10) < 0) = false := decide_eq_false c6
            clear c6
            obtain ⟨y104, hy104⟩ : ∃ y_ : List Int, y_ = (([(wrap64 (48 + (Int.tmod x0_1 10))) % 256] : List Int)) := ⟨_, rfl⟩
            replace H : (if (strOfNums y104).size + x3_1.size ≤ 9223372036854775807 then (spec_Dec.l0 k1 (wrap64 (Int.tdiv x0_1 10)) ((strOfNums y104) ++ x3_1) (decide (a0 < 0))) else (none)) = some r := by first | (rw [hy104]; with_reducible exact H) | (have H2_ := (Option.bind_some _ _).symm.trans H; rw [hy104]; with_reducible exact H2_) | (have H2_ := (Option.bind_some _ _).symm.trans H; with_reducible exact H2_) | with_reducible exact H | (rw [hy104]; exact H) | exact H
            have Ny104 := Aside0.mk hy104
            clear hy104
            by_cases c11 : (strOfNums y104).size + x3_1.size ≤ 9223372036854775807
            · rw [if_pos c11] at H
              have c11b0 := eq_true c11
              have c11b1 : decide ((strOfNums y104).size + x3_1.size ≤ 9223372036854775807) = true := decide_eq_true c11
              try have c11b2 : (9223372036854775807 < (strOfNums y104).size + x3_1.size) = False := eq_false (Nat.not_lt.2 c11)
              have H' := Aside0.mk H
              clear H
              go_wp2_with (first | ((with_reducible refine gate_dst (N := 21) rfl ?_); refine Kd.R_lit (Kd.int .u8) _ 5 ?hg (N := 21) ?hd (xs := ([(wrap64 (48 + (Int.tmod x0_1 10))) % 256] : List Int)) (inner := [.int .u8 ((wrap64 (48 + (Int.tmod x0_1 10))) % 256)]) (ok := fun _ => True) (okp := fun _ => True) ?hr ?hp (fun _ hk => hk) trivial (Below.refl _ _) (Nat.le_refl _) (by simp) ?_; (case hd => rfl); (case hg => rfl); (case hr => first | (go_simp; done) | (go_simp; rfl)); (case hp => exact (Reps.one (show Kd.M (Kd.int .u8) _ _ _ ((wrap64 (48 + (Int.tmod x0_1 10))) % 256) [.int .u8 ((wrap64 (48 + (Int.tmod x0_1 10))) % 256)] from rfl) (Reps.none _ _))); intro v105 w12 ho13 hb hg_ hnew_; clear hg_ hnew_; (first | rw [← Ny104.out] at ho13 | (simp only [Int.reduceToNat] at ho13; rw [← Ny104.out] at ho13)); have n0_ := Aside0.mk (Kd.R_lower ho13 (below_size (by repeat (first | (with_reducible first | exact HB.out | apply below_alloc | apply pw_below_drewN | apply below_drew1) | exact HB.out)))); have n1_ := Aside0.mk (below_step (by repeat (first | (with_reducible first | exact HB.out | apply below_alloc | apply pw_below_drewN | apply below_drew1) | exact HB.out)) hb); clear HB; have HO106 := n0_; have HB := n1_; clear n0_ n1_; clear hb ho13; have hcv14 := own_string (P := Tryd.prog) Tryd.underlying27 Tryd.underlying5 Tryd.underlying9 (Kd.own_of_R HO106.out)))
              go_roundg k1
              case measure => have := HK1.out; omega
              case rel => exact ⟨(wrap64 (Int.tdiv x0_1 10)), ((strOfNums y104) ++ x3_1), (by first | rfl | (simp; done) | (simp [*]; done)), (by first | rfl | (simp; done) | (simp [*]; done)), H', ⟨by have := HK1.out; omega⟩, ⟨by repeat (first | (with_reducible first | exact HB.out | apply below_alloc | apply pw_below_drewN | apply below_drew1) | exact HB.out)⟩⟩
            · rw [if_neg c11] at H
              exact absurd H (by simp)

/-! ### impl_Dec: function 9 -/
def impl_Dec.f (k : Nat) (a0 : Int) : Option (ByteArray) := if 0 ≤ a0 ∧ a0 < 100 then (some (⟨(Lib.decDigits a0.toNat).toArray⟩ : ByteArray)) else (none)
theorem impl_Dec.mono : ∀ a0 k, LeO (impl_Dec.f k a0) (impl_Dec.f (k + 1) a0) := fun _ _ => LeO.refl _
set_option maxHeartbeats 800000 in
set_option maxRecDepth 100000 in
theorem impl_Dec.calls (k : Nat) (a0 : Int) (r : ByteArray) (w : World) (h : impl_Dec.f k a0 = some r) :
    Calls Tryd.prog 9 #[.int .i64 a0] w fun e w' => e = .returned (.string r) ∧ Below w.heap.size w w' := by
  unfold impl_Dec.f at h
  by_cases c : 0 ≤ a0 ∧ a0 < 100
  · rw [if_pos c] at h
    obtain rfl := Option.some.inj h
    obtain ⟨n, rfl⟩ : ∃ n : Nat, a0 = (n : Int) := ⟨a0.toNat, by omega⟩
    rw [show ((n : Int)).toNat = n from by omega]
    have hn : n < 100 := by omega
    have HB := Aside0.mk (Below.refl w.heap.size w)
    go_enter Tryd.func9, Tryd.ntmps9
    go_wp2_with (first | (go_at_call 34; refine (Tryd.strconv_Itoa_small n hn _).mono ?_; rintro e w1 ⟨rfl, rfl⟩))
    go_ret
    exact ⟨rfl, by repeat (first | (with_reducible first | exact HB.out | apply below_alloc | apply pw_below_drewN | apply below_drew1) | exact HB.out)⟩
  · rw [if_neg c] at h
    cases h

/-! ### impl_within: function 35 -/
def impl_within.f (a0 : Int) (a1 : Int) (a2 : Int) : Option (Bool) := if a1 ≤ a0 then (some (decide (a0 ≤ a2))) else (some false)
set_option maxHeartbeats 8000000 in
set_option maxRecDepth 100000 in
theorem impl_within.calls (a0 : Int) (a1 : Int) (a2 : Int) (r : Bool) (w : World) (h : impl_within.f a0 a1 a2 = some r) :
    Calls Tryd.prog 35 #[.int .i64 a0, .int .i64 a1, .int .i64 a2] w fun e w' => e = .returned (.bool r) ∧ Drawn0 w w' := by
  have H : (if a1 ≤ a0 then (some (decide (a0 ≤ a2))) else (some false)) = some r := h
  clear h
  by_cases c4 : a1 ≤ a0
  · rw [if_pos c4] at H
    have c4b0 : decide (a1 ≤ a0) = true := decide_eq_true c4
    clear c4
    obtain rfl := Option.some.inj H
    go_enter Tryd.func35, Tryd.ntmps35
    go_wp2
    go_ret
    exact ⟨by first | rfl | (simp; done) | (simp [*]; done), by repeat (first | exact Drawn0.refl _ | apply Drawn0.step)⟩
  · rw [if_neg c4] at H
    have c4b0 : decide (a1 ≤ a0) = false := decide_eq_false c4
    clear c4
    obtain rfl := Option.some.inj H
    go_enter Tryd.func35, Tryd.ntmps35
    go_wp2
    go_ret
    exact ⟨by first | rfl | (simp; done) | (simp [*]; done), by repeat (first | exact Drawn0.refl _ | apply Drawn0.step)⟩

/-! ### impl_CellName: function 13 -/
theorem impl_CellName.word0 (w : World) : Sem.run Tryd.prog (Instr.index 46 (Value.agg #[Value.string ⟨#[115, 116, 97, 109, 112]⟩, Value.string ⟨#[103, 97, 117, 103, 101]⟩, Value.string ⟨#[116, 105, 99, 107, 101, 116]⟩]) (Value.int IntKind.i64 0)) w = Result.ok (Value.string ⟨#[115, 116, 97, 109, 112]⟩) w := by kernel_rfl
theorem impl_CellName.word1 (w : World) : Sem.run Tryd.prog (Instr.index 46 (Value.agg #[Value.string ⟨#[115, 116, 97, 109, 112]⟩, Value.string ⟨#[103, 97, 117, 103, 101]⟩, Value.string ⟨#[116, 105, 99, 107, 101, 116]⟩]) (Value.int IntKind.i64 1)) w = Result.ok (Value.string ⟨#[103, 97, 117, 103, 101]⟩) w := by kernel_rfl
theorem impl_CellName.word2 (w : World) : Sem.run Tryd.prog (Instr.index 46 (Value.agg #[Value.string ⟨#[115, 116, 97, 109, 112]⟩, Value.string ⟨#[103, 97, 117, 103, 101]⟩, Value.string ⟨#[116, 105, 99, 107, 101, 116]⟩]) (Value.int IntKind.i64 2)) w = Result.ok (Value.string ⟨#[116, 105, 99, 107, 101, 116]⟩) w := by kernel_rfl
attribute [local go_sem] impl_CellName.word0 impl_CellName.word1 impl_CellName.word2
def impl_CellName.f (k : Nat) (a0 : Int) : Option (ByteArray) := if a0 = 0 then (some (⟨#[101, 112, 111, 99, 104]⟩ : ByteArray)) else ((impl_within.f a0 1 2).bind fun t132 => (if t132 = true then ((impl_Dec.f k (wrap64 (a0 - 1))).bind fun t133 => (if 3 + t133.size ≤ 9223372036854775807 then (some ((⟨#[105, 110, 32]⟩ : ByteArray) ++ t133)) else (none))) else ((impl_within.f a0 3 6).bind fun t134 => (if t134 = true then ((impl_Dec.f k (wrap64 (a0 - 3))).bind fun t135 => (if 4 + t135.size ≤ 9223372036854775807 then (some ((⟨#[107, 101, 121, 32]⟩ : ByteArray) ++ t135)) else (none))) else ((impl_within.f a0 7 70).bind fun t136 => (if t136 = true then ((impl_Dec.f k (wrap64 (Int.tdiv (wrap64 (a0 - 7)) 32))).bind fun t137 => (if 1 + t137.size ≤ 9223372036854775807 then (if ((⟨#[32]⟩ : ByteArray) ++ t137).size + 1 ≤ 9223372036854775807 then ((impl_Dec.f k (wrap64 (Int.tdiv (Int.tmod (wrap64 (a0 - 7)) 32) 8))).bind fun t138 => (if (((⟨#[32]⟩ : ByteArray) ++ t137) ++ (⟨#[32]⟩ : ByteArray)).size + t138.size ≤ 9223372036854775807 then (if (Int.tmod (wrap64 (a0 - 7)) 8) < 2 then (if 6 + ((((⟨#[32]⟩ : ByteArray) ++ t137) ++ (⟨#[32]⟩ : ByteArray)) ++ t138).size ≤ 9223372036854775807 then (if ((⟨#[115, 116, 114, 105, 112, 101]⟩ : ByteArray) ++ ((((⟨#[32]⟩ : ByteArray) ++ t137) ++ (⟨#[32]⟩ : ByteArray)) ++ t138)).size + 1 ≤ 9223372036854775807 then ((impl_Dec.f k (Int.tmod (wrap64 (a0 - 7)) 8)).bind fun t139 => (if (((⟨#[115, 116, 114, 105, 112, 101]⟩ : ByteArray) ++ ((((⟨#[32]⟩ : ByteArray) ++ t137) ++ (⟨#[32]⟩ : ByteArray)) ++ t138)) ++ (⟨#[32]⟩ : ByteArray)).size + t139.size ≤ 9223372036854775807 then (some ((((⟨#[115, 116, 114, 105, 112, 101]⟩ : ByteArray) ++ ((((⟨#[32]⟩ : ByteArray) ++ t137) ++ (⟨#[32]⟩ : ByteArray)) ++ t138)) ++ (⟨#[32]⟩ : ByteArray)) ++ t139)) else (none))) else (none)) else (none)) else (if (Int.tmod (wrap64 (a0 - 7)) 8) < 5 then (if (Int.tmod (wrap64 (a0 - 7)) 8) = 2 then (if 5 + ((((⟨#[32]⟩ : ByteArray) ++ t137) ++ (⟨#[32]⟩ : ByteArray)) ++ t138).size ≤ 9223372036854775807 then (some ((⟨#[115, 116, 97, 109, 112]⟩ : ByteArray) ++ ((((⟨#[32]⟩ : ByteArray) ++ t137) ++ (⟨#[32]⟩ : ByteArray)) ++ t138))) else (none)) else (if (Int.tmod (wrap64 (a0 - 7)) 8) = 3 then (if 5 + ((((⟨#[32]⟩ : ByteArray) ++ t137) ++ (⟨#[32]⟩ : ByteArray)) ++ t138).size ≤ 9223372036854775807 then (some ((⟨#[103, 97, 117, 103, 101]⟩ : ByteArray) ++ ((((⟨#[32]⟩ : ByteArray) ++ t137) ++ (⟨#[32]⟩ : ByteArray)) ++ t138))) else (none)) else (if 6 + ((((⟨#[32]⟩ : ByteArray) ++ t137) ++ (⟨#[32]⟩ : ByteArray)) ++ t138).size ≤ 9223372036854775807 then (some ((⟨#[116, 105, 99, 107, 101, 116]⟩ : ByteArray) ++ ((((⟨#[32]⟩ : ByteArray) ++ t137) ++ (⟨#[32]⟩ : ByteArray)) ++ t138))) else (none)))) else (if 4 + ((((⟨#[32]⟩ : ByteArray) ++ t137) ++ (⟨#[32]⟩ : ByteArray)) ++ t138).size ≤ 9223372036854775807 then (if ((⟨#[114, 105, 110, 103]⟩ : ByteArray) ++ ((((⟨#[32]⟩ : ByteArray) ++ t137) ++ (⟨#[32]⟩ : ByteArray)) ++ t138)).size + 1 ≤ 9223372036854775807 then ((impl_Dec.f k (wrap64 ((wrap64 ((Int.tmod (wrap64 (a0 - 7)) 8) - 2)) - 3))).bind fun t140 => (if (((⟨#[114, 105, 110, 103]⟩ : ByteArray) ++ ((((⟨#[32]⟩ : ByteArray) ++ t137) ++ (⟨#[32]⟩ : ByteArray)) ++ t138)) ++ (⟨#[32]⟩ : ByteArray)).size + t140.size ≤ 9223372036854775807 then (some ((((⟨#[114, 105, 110, 103]⟩ : ByteArray) ++ ((((⟨#[32]⟩ : ByteArray) ++ t137) ++ (⟨#[32]⟩ : ByteArray)) ++ t138)) ++ (⟨#[32]⟩ : ByteArray)) ++ t140)) else (none))) else (none)) else (none)))) else (none))) else (none)) else (none))) else (some (⟨#[]⟩ : ByteArray))))))))
theorem impl_CellName.mono : ∀ a0 k, LeO (impl_CellName.f k a0) (impl_CellName.f (k + 1) a0) := by
  intro a0 k
  unfold impl_CellName.f
  repeat' first
      | (with_reducible exact impl_Dec.mono _ _)
      | (with_reducible exact LeO.refl _)
      | (with_reducible exact LeO.none _)
      | (with_reducible refine LeO.ite ?_ ?_)
      | (with_reducible refine LeO.bind ?_ (fun _ => ?_))
      | exact impl_Dec.mono _ _
      | exact LeO.none _
      | refine LeO.ite ?_ ?_
      | refine LeO.bind ?_ (fun _ => ?_)
set_option maxHeartbeats 8000000 in
set_option maxRecDepth 100000 in
theorem impl_CellName.calls (k : Nat) (a0 : Int) (r : ByteArray) (w : World) (h : impl_CellName.f k a0 = some r) :
    Calls Tryd.prog 13 #[.int .i64 a0] w fun e w' => e = .returned (.string r) ∧ Below w.heap.size w w' := by
  have HB := Aside0.mk (Below.refl w.heap.size w)
  have H : (if a0 = 0 then (some (⟨#[101, 112, 111, 99, 104]⟩ : ByteArray)) else ((impl_within.f a0 1 2).bind fun t132 => (if t132 = true then ((impl_Dec.f k (wrap64 (a0 - 1))).bind fun t133 => (if 3 + t133.size ≤ 9223372036854775807 then (some ((⟨#[105, 110, 32]⟩ : ByteArray) ++ t133)) else (none))) else ((impl_within.f a0 3 6).bind fun t134 => (if t134 = true then ((impl_Dec.f k (wrap64 (a0 - 3))).bind fun t135 => (if 4 + t135.size ≤ 9223372036854775807 then (some ((⟨#[107, 101, 121, 32]⟩ : ByteArray) ++ t135)) else (none))) else ((impl_within.f a0 7 70).bind fun t136 => (if t136 = true then ((impl_Dec.f k (wrap64 (Int.tdiv (wrap64 (a0 - 7)) 32))).bind fun t137 => (if 1 + t137.size ≤ 9223372036854775807 then (if ((⟨#[32]⟩ : ByteArray) ++ t137).size + 1 ≤ 9223372036854775807 then ((impl_Dec.f k (wrap64 (Int.tdiv (Int.tmod (wrap64 (a0 - 7)) 32) 8))).bind fun t138 => (if (((⟨#[32]⟩ : ByteArray) ++ t137) ++ (⟨#[32]⟩ : ByteArray)).size + t138.size ≤ 9223372036854775807 then (if (Int.tmod (wrap64 (a0 - 7)) 8) < 2 then (if 6 + ((((⟨#[32]⟩ : ByteArray) ++ t137) ++ (⟨#[32]⟩ : ByteArray)) ++ t138).size ≤ 9223372036854775807 then (if ((⟨#[115, 116, 114, 105, 112, 101]⟩ : ByteArray) ++ ((((⟨#[32]⟩ : ByteArray) ++ t137) ++ (⟨#[32]⟩ : ByteArray)) ++ t138)).size + 1 ≤ 9223372036854775807 then ((impl_Dec.f k (Int.tmod (wrap64 (a0 - 7)) 8)).bind fun t139 => (if (((⟨#[115, 116, 114, 105, 112, 101]⟩ : ByteArray) ++ ((((⟨#[32]⟩ : ByteArray) ++ t137) ++ (⟨#[32]⟩ : ByteArray)) ++ t138)) ++ (⟨#[32]⟩ : ByteArray)).size + t139.size ≤ 9223372036854775807 then (some ((((⟨#[115, 116, 114, 105, 112, 101]⟩ : ByteArray) ++ ((((⟨#[32]⟩ : ByteArray) ++ t137) ++ (⟨#[32]⟩ : ByteArray)) ++ t138)) ++ (⟨#[32]⟩ : ByteArray)) ++ t139)) else (none))) else (none)) else (none)) else (if (Int.tmod (wrap64 (a0 - 7)) 8) < 5 then (if (Int.tmod (wrap64 (a0 - 7)) 8) = 2 then (if 5 + ((((⟨#[32]⟩ : ByteArray) ++ t137) ++ (⟨#[32]⟩ : ByteArray)) ++ t138).size ≤ 9223372036854775807 then (some ((⟨#[115, 116, 97, 109, 112]⟩ : ByteArray) ++ ((((⟨#[32]⟩ : ByteArray) ++ t137) ++ (⟨#[32]⟩ : ByteArray)) ++ t138))) else (none)) else (if (Int.tmod (wrap64 (a0 - 7)) 8) = 3 then (if 5 + ((((⟨#[32]⟩ : ByteArray) ++ t137) ++ (⟨#[32]⟩ : ByteArray)) ++ t138).size ≤ 9223372036854775807 then (some ((⟨#[103, 97, 117, 103, 101]⟩ : ByteArray) ++ ((((⟨#[32]⟩ : ByteArray) ++ t137) ++ (⟨#[32]⟩ : ByteArray)) ++ t138))) else (none)) else (if 6 + ((((⟨#[32]⟩ : ByteArray) ++ t137) ++ (⟨#[32]⟩ : ByteArray)) ++ t138).size ≤ 9223372036854775807 then (some ((⟨#[116, 105, 99, 107, 101, 116]⟩ : ByteArray) ++ ((((⟨#[32]⟩ : ByteArray) ++ t137) ++ (⟨#[32]⟩ : ByteArray)) ++ t138))) else (none)))) else (if 4 + ((((⟨#[32]⟩ : ByteArray) ++ t137) ++ (⟨#[32]⟩ : ByteArray)) ++ t138).size ≤ 9223372036854775807 then (if ((⟨#[114, 105, 110, 103]⟩ : ByteArray) ++ ((((⟨#[32]⟩ : ByteArray) ++ t137) ++ (⟨#[32]⟩ : ByteArray)) ++ t138)).size + 1 ≤ 9223372036854775807 then ((impl_Dec.f k (wrap64 ((wrap64 ((Int.tmod (wrap64 (a0 - 7)) 8) - 2)) - 3))).bind fun t140 => (if (((⟨#[114, 105, 110, 103]⟩ : ByteArray) ++ ((((⟨#[32]⟩ : ByteArray) ++ t137) ++ (⟨#[32]⟩ : ByteArray)) ++ t138)) ++ (⟨#[32]⟩ : ByteArray)).size + t140.size ≤ 9223372036854775807 then (some ((((⟨#[114, 105, 110, 103]⟩ : ByteArray) ++ ((((⟨#[32]⟩ : ByteArray) ++ t137) ++ (⟨#[32]⟩ : ByteArray)) ++ t138)) ++ (⟨#[32]⟩ : ByteArray)) ++ t140)) else (none))) else (none)) else (none)))) else (none))) else (none)) else (none))) else (some (⟨#[]⟩ : ByteArray))))))))) = some r := h
  clear h
  by_cases c2 : a0 = 0
  · rw [if_pos c2] at H
    have c2b0 : (a0 == 0) = true := beq_iff_eq.mpr c2
    have c2b1 : (a0 != 0) = false := bne_eq_false_iff_eq.mpr c2
    clear c2
    obtain rfl := Option.some.inj H
    go_enter Tryd.func13, Tryd.ntmps13
    go_wp2
    go_ret
    exact ⟨by first | rfl | (simp [errW_none, errW_some] <;> rfl) | (simp [*, errW_none, errW_some] <;> rfl), by repeat (first | (with_reducible first | exact HB.out | apply below_alloc | apply pw_below_drewN | apply below_drew1) | exact HB.out)⟩
  · rw [if_neg c2] at H
    have c2b0 : (a0 == 0) = false := beq_eq_false_iff_ne.mpr c2
    have c2b1 : (a0 != 0) = true := bne_iff_ne.mpr c2
    replace H := Option.bind_eq_some_iff.mp H
    obtain ⟨t132, A30, H⟩ := H
    replace H : (if t132 = true then ((impl_Dec.f k (wrap64 (a0 - 1))).bind fun t133 => (if 3 + t133.size ≤ 9223372036854775807 then (some ((⟨#[105, 110, 32]⟩ : ByteArray) ++ t133)) else (none))) else ((impl_within.f a0 3 6).bind fun t134 => (if t134 = true then ((impl_Dec.f k (wrap64 (a0 - 3))).bind fun t135 => (if 4 + t135.size ≤ 9223372036854775807 then (some ((⟨#[107, 101, 121, 32]⟩ : ByteArray) ++ t135)) else (none))) else ((impl_within.f a0 7 70).bind fun t136 => (if t136 = true then ((impl_Dec.f k (wrap64 (Int.tdiv (wrap64 (a0 - 7)) 32))).bind fun t137 => (if 1 + t137.size ≤ 9223372036854775807 then (if ((⟨#[32]⟩ : ByteArray) ++ t137).size + 1 ≤ 9223372036854775807 then ((impl_Dec.f k (wrap64 (Int.tdiv (Int.tmod (wrap64 (a0 - 7)) 32) 8))).bind fun t138 => (if (((⟨#[32]⟩ : ByteArray) ++ t137) ++ (⟨#[32]⟩ : ByteArray)).size + t138.size ≤ 9223372036854775807 then (if (Int.tmod (wrap64 (a0 - 7)) 8) < 2 then (if 6 + ((((⟨#[32]⟩ : ByteArray) ++ t137) ++ (⟨#[32]⟩ : ByteArray)) ++ t138).size ≤ 9223372036854775807 then (if ((⟨#[115, 116, 114, 105, 112, 101]⟩ : ByteArray) ++ ((((⟨#[32]⟩ : ByteArray) ++ t137) ++ (⟨#[32]⟩ : ByteArray)) ++ t138)).size + 1 ≤ 9223372036854775807 then ((impl_Dec.f k (Int.tmod (wrap64 (a0 - 7)) 8)).bind fun t139 => (if (((⟨#[115, 116, 114, 105, 112, 101]⟩ : ByteArray) ++ ((((⟨#[32]⟩ : ByteArray) ++ t137) ++ (⟨#[32]⟩ : ByteArray)) ++ t138)) ++ (⟨#[32]⟩ : ByteArray)).size + t139.size ≤ 9223372036854775807 then (some ((((⟨#[115, 116, 114, 105, 112, 101]⟩ : ByteArray) ++ ((((⟨#[32]⟩ : ByteArray) ++ t137) ++ (⟨#[32]⟩ : ByteArray)) ++ t138)) ++ (⟨#[32]⟩ : ByteArray)) ++ t139)) else (none))) else (none)) else (none)) else (if (Int.tmod (wrap64 (a0 - 7)) 8) < 5 then (if (Int.tmod (wrap64 (a0 - 7)) 8) = 2 then (if 5 + ((((⟨#[32]⟩ : ByteArray) ++ t137) ++ (⟨#[32]⟩ : ByteArray)) ++ t138).size ≤ 9223372036854775807 then (some ((⟨#[115, 116, 97, 109, 112]⟩ : ByteArray) ++ ((((⟨#[32]⟩ : ByteArray) ++ t137) ++ (⟨#[32]⟩ : ByteArray)) ++ t138))) else (none)) else (if (Int.tmod (wrap64 (a0 - 7)) 8) = 3 then (if 5 + ((((⟨#[32]⟩ : ByteArray) ++ t137) ++ (⟨#[32]⟩ : ByteArray)) ++ t138).size ≤ 9223372036854775807 then (some ((⟨#[103, 97, 117, 103, 101]⟩ : ByteArray) ++ ((((⟨#[32]⟩ : ByteArray) ++ t137) ++ (⟨#[32]⟩ : ByteArray)) ++ t138))) else (none)) else (if 6 + ((((⟨#[32]⟩ : ByteArray) ++ t137) ++ (⟨#[32]⟩ : ByteArray)) ++ t138).size ≤ 9223372036854775807 then (some ((⟨#[116, 105, 99, 107, 101, 116]⟩ : ByteArray) ++ ((((⟨#[32]⟩ : ByteArray) ++ t137) ++ (⟨#[32]⟩ : ByteArray)) ++ t138))) else (none)))) else (if 4 + ((((⟨#[32]⟩ : ByteArray) ++ t137) ++ (⟨#[32]⟩ : ByteArray)) ++ t138).size ≤ 9223372036854775807 then (if ((⟨#[114, 105, 110, 103]⟩ : ByteArray) ++ ((((⟨#[32]⟩ : ByteArray) ++ t137) ++ (⟨#[32]⟩ : ByteArray)) ++ t138)).size + 1 ≤ 9223372036854775807 then ((impl_Dec.f k (wrap64 ((wrap64 ((Int.tmod (wrap64 (a0 - 7)) 8) - 2)) - 3))).bind fun t140 => (if (((⟨#[114, 105, 110, 103]⟩ : ByteArray) ++ ((((⟨#[32]⟩ : ByteArray) ++ t137) ++ (⟨#[32]⟩ : ByteArray)) ++ t138)) ++ (⟨#[32]⟩ : ByteArray)).size + t140.size ≤ 9223372036854775807 then (some ((((⟨#[114, 105, 110, 103]⟩ : ByteArray) ++ ((((⟨#[32]⟩ : ByteArray) ++ t137) ++ (⟨#[32]⟩ : ByteArray)) ++ t138)) ++ (⟨#[32]⟩ : ByteArray)) ++ t140)) else (none))) else (none)) else (none)))) else (none))) else (none)) else (none))) else (some (⟨#[]⟩ : ByteArray))))))) = some r := H
    have A3 := Aside0.mk A30
    clear A30
    by_cases c4 : t132 = true
    · subst c4
      have H1 : ((impl_Dec.f k (wrap64 (a0 - 1))).bind fun t133 => (if 3 + t133.size ≤ 9223372036854775807 then (some ((⟨#[105, 110, 32]⟩ : ByteArray) ++ t133)) else (none))) = some r := by rw [if_pos rfl] at H; exact H
      clear H
      have H := H1
      clear H1
      replace H := Option.bind_eq_some_iff.mp H
      obtain ⟨t133, A50, H⟩ := H
      replace H : (if 3 + t133.size ≤ 9223372036854775807 then (some ((⟨#[105, 110, 32]⟩ : ByteArray) ++ t133)) else (none)) = some r := H
      have A5 := Aside0.mk A50
      clear A50
      by_cases c6 : 3 + t133.size ≤ 9223372036854775807
      · rw [if_pos c6] at H
        have c6b0 := eq_true c6
        have c6b1 : decide (3 + t133.size ≤ 9223372036854775807) = true := decide_eq_true c6
        try have c6b2 : (9223372036854775807 < 3 + t133.size) = False := eq_false (Nat.not_lt.2 c6)
        obtain rfl := Option.some.inj H
        go_enter Tryd.func13, Tryd.ntmps13
        go_wp2_with (first | ((with_reducible refine gate_callee (f := 35) rfl ?_); refine goesL_ (some 11) rfl rfl Tryd.func35 (by kernel_rfl) rfl #[.int .i64 a0, .int .i64 1, .int .i64 2] rfl (by (try simp only [List.map_toArray, List.map_cons, List.map_nil]); first | done | rfl | (simp only [List.length_drop, List.length_take]; rfl)) ?_; (with_reducible refine (impl_within.calls a0 1 2 true _ A3.out).mono ?_); rintro e w' ⟨rfl, ⟨nd, rfl⟩⟩; refine ⟨_, rfl, ?_⟩) | ((with_reducible refine gate_callee (f := 9) rfl ?_); refine goesL_ (some 14) rfl rfl Tryd.func9 (by kernel_rfl) rfl #[.int .i64 (wrap64 (a0 - 1))] rfl (by (try simp only [List.map_toArray, List.map_cons, List.map_nil]); first | done | rfl | (simp only [List.length_drop, List.length_take]; rfl)) ?_; (with_reducible refine (impl_Dec.calls k (wrap64 (a0 - 1)) t133 _ A5.out).mono ?_); rintro e w7 ⟨rfl, hb⟩; refine ⟨_, rfl, ?_⟩; have n0_ := Aside0.mk (below_step (by repeat (first | (with_reducible first | exact HB.out | apply below_alloc | apply pw_below_drewN | apply below_drew1) | exact HB.out)) hb); clear HB; have HB := n0_; clear n0_; (try clear hb); (try clear hb2); (try clear hk); (try clear hi)))
        go_ret
        exact ⟨by first | rfl | (simp [errW_none, errW_some] <;> rfl) | (simp [*, errW_none, errW_some] <;> rfl), by repeat (first | (with_reducible first | exact HB.out | apply below_alloc | apply pw_below_drewN | apply below_drew1) | exact HB.out)⟩
      · rw [if_neg c6] at H
        exact absurd H (by simp)
    · replace c4 := Bool.eq_false_iff.mpr c4
      subst c4
      have H1 : ((impl_within.f a0 3 6).bind fun t134 => (if t134 = true then ((impl_Dec.f k (wrap64 (a0 - 3))).bind fun t135 => (if 4 + t135.size ≤ 9223372036854775807 then (some ((⟨#[107, 101, 121, 32]⟩ : ByteArray) ++ t135)) else (none))) else ((impl_within.f a0 7 70).bind fun t136 => (if t136 = true then ((impl_Dec.f k (wrap64 (Int.tdiv (wrap64 (a0 - 7)) 32))).bind fun t137 => (if 1 + t137.size ≤ 9223372036854775807 then (if ((⟨#[32]⟩ : ByteArray) ++ t137).size + 1 ≤ 9223372036854775807 then ((impl_Dec.f k (wrap64 (Int.tdiv (Int.tmod (wrap64 (a0 - 7)) 32) 8))).bind fun t138 => (if (((⟨#[32]⟩ : ByteArray) ++ t137) ++ (⟨#[32]⟩ : ByteArray)).size + t138.size ≤ 9223372036854775807 then (if (Int.tmod (wrap64 (a0 - 7)) 8) < 2 then (if 6 + ((((⟨#[32]⟩ : ByteArray) ++ t137) ++ (⟨#[32]⟩ : ByteArray)) ++ t138).size ≤ 9223372036854775807 then (if ((⟨#[115, 116, 114, 105, 112, 101]⟩ : ByteArray) ++ ((((⟨#[32]⟩ : ByteArray) ++ t137) ++ (⟨#[32]⟩ : ByteArray)) ++ t138)).size + 1 ≤ 9223372036854775807 then ((impl_Dec.f k (Int.tmod (wrap64 (a0 - 7)) 8)).bind fun t139 => (if (((⟨#[115, 116, 114, 105, 112, 101]⟩ : ByteArray) ++ ((((⟨#[32]⟩ : ByteArray) ++ t137) ++ (⟨#[32]⟩ : ByteArray)) ++ t138)) ++ (⟨#[32]⟩ : ByteArray)).size + t139.size ≤ 9223372036854775807 then (some ((((⟨#[115, 116, 114, 105, 112, 101]⟩ : ByteArray) ++ ((((⟨#[32]⟩ : ByteArray) ++ t137) ++ (⟨#[32]⟩ : ByteArray)) ++ t138)) ++ (⟨#[32]⟩ : ByteArray)) ++ t139)) else (none))) else (none)) else (none)) else (if (Int.tmod (wrap64 (a0 - 7)) 8) < 5 then (if (Int.tmod (wrap64 (a0 - 7)) 8) = 2 then (if 5 + ((((⟨#[32]⟩ : ByteArray) ++ t137) ++ (⟨#[32]⟩ : ByteArray)) ++ t138).size ≤ 9223372036854775807 then (some ((⟨#[115, 116, 97, 109, 112]⟩ : ByteArray) ++ ((((⟨#[32]⟩ : ByteArray) ++ t137) ++ (⟨#[32]⟩ : ByteArray)) ++ t138))) else (none)) else (if (Int.tmod (wrap64 (a0 - 7)) 8) = 3 then (if 5 + ((((⟨#[32]⟩ : ByteArray) ++ t137) ++ (⟨#[32]⟩ : ByteArray)) ++ t138).size ≤ 9223372036854775807 then (some ((⟨#[103, 97, 117, 103, 101]⟩ : ByteArray) ++ ((((⟨#[32]⟩ : ByteArray) ++ t137) ++ (⟨#[32]⟩ : ByteArray)) ++ t138))) else (none)) else (if 6 + ((((⟨#[32]⟩ : ByteArray) ++ t137) ++ (⟨#[32]⟩ : ByteArray)) ++ t138).size ≤ 9223372036854775807 then (some ((⟨#[116, 105, 99, 107, 101, 116]⟩ : ByteArray) ++ ((((⟨#[32]⟩ : ByteArray) ++ t137) ++ (⟨#[32]⟩ : ByteArray)) ++ t138))) else (none)))) else (if 4 + ((((⟨#[32]⟩ : ByteArray) ++ t137) ++ (⟨#[32]⟩ : ByteArray)) ++ t138).size ≤ 9223372036854775807 then (if ((⟨#[114, 105, 110, 103]⟩ : ByteArray) ++ ((((⟨#[32]⟩ : ByteArray) ++ t137) ++ (⟨#[32]⟩ : ByteArray)) ++ t138)).size + 1 ≤ 9223372036854775807 then ((impl_Dec.f k (wrap64 ((wrap64 ((Int.tmod (wrap64 (a0 - 7)) 8) - 2)) - 3))).bind fun t140 => (if (((⟨#[114, 105, 110, 103]⟩ : ByteArray) ++ ((((⟨#[32]⟩ : ByteArray) ++ t137) ++ (⟨#[32]⟩ : ByteArray)) ++ t138)) ++ (⟨#[32]⟩ : ByteArray)).size + t140.size ≤ 9223372036854775807 then (some ((((⟨#[114, 105, 110, 103]⟩ : ByteArray) ++ ((((⟨#[32]⟩ : ByteArray) ++ t137) ++ (⟨#[32]⟩ : ByteArray)) ++ t138)) ++ (⟨#[32]⟩ : ByteArray)) ++ t140)) else (none))) else (none)) else (none)))) else (none))) else (none)) else (none))) else (some (⟨#[]⟩ : ByteArray)))))) = some r := by rw [if_neg (show ¬ (false = true) by decide)] at H; exact H
      clear H
      have H := H1
      clear H1
      replace H := Option.bind_eq_some_iff.mp H
      obtain ⟨t134, A80, H⟩ := H
      replace H : (if t134 = true then ((impl_Dec.f k (wrap64 (a0 - 3))).bind fun t135 => (if 4 + t135.size ≤ 9223372036854775807 then (some ((⟨#[107, 101, 121, 32]⟩ : ByteArray) ++ t135)) else (none))) else ((impl_within.f a0 7 70).bind fun t136 => (if t136 = true then ((impl_Dec.f k (wrap64 (Int.tdiv (wrap64 (a0 - 7)) 32))).bind fun t137 => (if 1 + t137.size ≤ 9223372036854775807 then (if ((⟨#[32]⟩ : ByteArray) ++ t137).size + 1 ≤ 9223372036854775807 then ((impl_Dec.f k (wrap64 (Int.tdiv (Int.tmod (wrap64 (a0 - 7)) 32) 8))).bind fun t138 => (if (((⟨#[32]⟩ : ByteArray) ++ t137) ++ (⟨#[32]⟩ : ByteArray)).size + t138.size ≤ 9223372036854775807 then (if (Int.tmod (wrap64 (a0 - 7)) 8) < 2 then (if 6 + ((((⟨#[32]⟩ : ByteArray) ++ t137) ++ (⟨#[32]⟩ : ByteArray)) ++ t138).size ≤ 9223372036854775807 then (if ((⟨#[115, 116, 114, 105, 112, 101]⟩ : ByteArray) ++ ((((⟨#[32]⟩ : ByteArray) ++ t137) ++ (⟨#[32]⟩ : ByteArray)) ++ t138)).size + 1 ≤ 9223372036854775807 then ((impl_Dec.f k (Int.tmod (wrap64 (a0 - 7)) 8)).bind fun t139 => (if (((⟨#[115, 116, 114, 105, 112, 101]⟩ : ByteArray) ++ ((((⟨#[32]⟩ : ByteArray) ++ t137) ++ (⟨#[32]⟩ : ByteArray)) ++ t138)) ++ (⟨#[32]⟩ : ByteArray)).size + t139.size ≤ 9223372036854775807 then (some ((((⟨#[115, 116, 114, 105, 112, 101]⟩ : ByteArray) ++ ((((⟨#[32]⟩ : ByteArray) ++ t137) ++ (⟨#[32]⟩ : ByteArray)) ++ t138)) ++ (⟨#[32]⟩ : ByteArray)) ++ t139)) else (none))) else (none)) else (none)) else (if (Int.tmod (wrap64 (a0 - 7)) 8) < 5 then (if (Int.tmod (wrap64 (a0 - 7)) 8) = 2 then (if 5 + ((((⟨#[32]⟩ : ByteArray) ++ t137) ++ (⟨#[32]⟩ : ByteArray)) ++ t138).size ≤ 9223372036854775807 then (some ((⟨#[115, 116, 97, 109, 112]⟩ : ByteArray) ++ ((((⟨#[32]⟩ : ByteArray) ++ t137) ++ (⟨#[32]⟩ : ByteArray)) ++ t138))) else (none)) else (if (Int.tmod (wrap64 (a0 - 7)) 8) = 3 then (if 5 + ((((⟨#[32]⟩ : ByteArray) ++ t137) ++ (⟨#[32]⟩ : ByteArray)) ++ t138).size ≤ 9223372036854775807 then (some ((⟨#[103, 97, 117, 103, 101]⟩ : ByteArray) ++ ((((⟨#[32]⟩ : ByteArray) ++ t137) ++ (⟨#[32]⟩ : ByteArray)) ++ t138))) else (none)) else (if 6 + ((((⟨#[32]⟩ : ByteArray) ++ t137) ++ (⟨#[32]⟩ : ByteArray)) ++ t138).size ≤ 9223372036854775807 then (some ((⟨#[116, 105, 99, 107, 101, 116]⟩ : ByteArray) ++ ((((⟨#[32]⟩ : ByteArray) ++ t137) ++ (⟨#[32]⟩ : ByteArray)) ++ t138))) else (none)))) else (if 4 + ((((⟨#[32]⟩ : ByteArray) ++ t137) ++ (⟨#[32]⟩ : ByteArray)) ++ t138).size ≤ 9223372036854775807 then (if ((⟨#[114, 105, 110, 103]⟩ : ByteArray) ++ ((((⟨#[32]⟩ : ByteArray) ++ t137) ++ (⟨#[32]⟩ : ByteArray)) ++ t138)).size + 1 ≤ 9223372036854775807 then ((impl_Dec.f k (wrap64 ((wrap64 ((Int.tmod (wrap64 (a0 - 7)) 8) - 2)) - 3))).bind fun t140 => (if (((⟨#[114, 105, 110, 103]⟩ : ByteArray) ++ ((((⟨#[32]⟩ : ByteArray) ++ t137) ++ (⟨#[32]⟩ : ByteArray)) ++ t138)) ++ (⟨#[32]⟩ : ByteArray)).size + t140.size ≤ 9223372036854775807 then (some ((((⟨#[114, 105, 110, 103]⟩ : ByteArray) ++ ((((⟨#[32]⟩ : ByteArray) ++ t137) ++ (⟨#[32]⟩ : ByteArray)) ++ t138)) ++ (⟨#[32]⟩ : ByteArray)) ++ t140)) else (none))) else (none)) else (none)))) else (none))) else (none)) else (none))) else (some (⟨#[]⟩ : ByteArray))))) = some r := H
      have A8 := Aside0.mk A80
      clear A80
      by_cases c9 : t134 = true
      · subst c9
        have H1 : ((impl_Dec.f k (wrap64 (a0 - 3))).bind fun t135 => (if 4 + t135.size ≤ 9223372036854775807 then (some ((⟨#[107, 101, 121, 32]⟩ : ByteArray) ++ t135)) else (none))) = some r := by rw [if_pos rfl] at H; exact H
        clear H
        have H := H1
        clear H1
        replace H := Option.bind_eq_some_iff.mp H
        obtain ⟨t135, A100, H⟩ := H
        replace H : (if 4 + t135.size ≤ 9223372036854775807 then (some ((⟨#[107, 101, 121, 32]⟩ : ByteArray) ++ t135)) else (none)) = some r := H
        have A10 := Aside0.mk A100
        clear A100
        by_cases c11 : 4 + t135.size ≤ 9223372036854775807
        · rw [if_pos c11] at H
          have c11b0 := eq_true c11
          have c11b1 : decide (4 + t135.size ≤ 9223372036854775807) = true := decide_eq_true c11
          try have c11b2 : (9223372036854775807 < 4 + t135.size) = False := eq_false (Nat.not_lt.2 c11)
          obtain rfl := Option.some.inj H
          go_enter Tryd.func13, Tryd.ntmps13
          go_wp2_with (first | ((with_reducible refine gate_callee (f := 35) rfl ?_); refine goesL_ (some 11) rfl rfl Tryd.func35 (by kernel_rfl) rfl #[.int .i64 a0, .int .i64 1, .int .i64 2] rfl (by (try simp only [List.map_toArray, List.map_cons, List.map_nil]); first | done | rfl | (simp only [List.length_drop, List.length_take]; rfl)) ?_; (with_reducible refine (impl_within.calls a0 1 2 false _ A3.out).mono ?_); rintro e w' ⟨rfl, ⟨nd, rfl⟩⟩; refine ⟨_, rfl, ?_⟩) | ((with_reducible refine gate_callee (f := 35) rfl ?_); refine goesL_ (some 18) rfl rfl Tryd.func35 (by kernel_rfl) rfl #[.int .i64 a0, .int .i64 3, .int .i64 6] rfl (by (try simp only [List.map_toArray, List.map_cons, List.map_nil]); first | done | rfl | (simp only [List.length_drop, List.length_take]; rfl)) ?_; (with_reducible refine (impl_within.calls a0 3 6 true _ A8.out).mono ?_); rintro e w' ⟨rfl, ⟨nd, rfl⟩⟩; refine ⟨_, rfl, ?_⟩) | ((with_reducible refine gate_callee (f := 9) rfl ?_); refine goesL_ (some 21) rfl rfl Tryd.func9 (by kernel_rfl) rfl #[.int .i64 (wrap64 (a0 - 3))] rfl (by (try simp only [List.map_toArray, List.map_cons, List.map_nil]); first | done | rfl | (simp only [List.length_drop, List.length_take]; rfl)) ?_; (with_reducible refine (impl_Dec.calls k (wrap64 (a0 - 3)) t135 _ A10.out).mono ?_); rintro e w12 ⟨rfl, hb⟩; refine ⟨_, rfl, ?_⟩; have n0_ := Aside0.mk (below_step (by repeat (first | (with_reducible first | exact HB.out | apply below_alloc | apply pw_below_drewN | apply below_drew1) | exact HB.out)) hb); clear HB; have HB := n0_; clear n0_; (try clear hb); (try clear hb2); (try clear hk); (try clear hi)))
          go_ret
          exact ⟨by first | rfl | (simp [errW_none, errW_some] <;> rfl) | (simp [*, errW_none, errW_some] <;> rfl), by repeat (first | (with_reducible first | exact HB.out | apply below_alloc | apply pw_below_drewN | apply below_drew1) | exact HB.out)⟩
        · rw [if_neg c11] at H
          exact absurd H (by simp)
      · replace c9 := Bool.eq_false_iff.mpr c9
        subst c9
        have H1 : ((impl_within.f a0 7 70).bind fun t136 => (if t136 = true then ((impl_Dec.f k (wrap64 (Int.tdiv (wrap64 (a0 - 7)) 32))).bind fun t137 => (if 1 + t137.size ≤ 9223372036854775807 then (if ((⟨#[32]⟩ : ByteArray) ++ t137).size + 1 ≤ 9223372036854775807 then ((impl_Dec.f k (wrap64 (Int.tdiv (Int.tmod (wrap64 (a0 - 7)) 32) 8))).bind fun t138 => (if (((⟨#[32]⟩ : ByteArray) ++ t137) ++ (⟨#[32]⟩ : ByteArray)).size + t138.size ≤ 9223372036854775807 then (if (Int.tmod (wrap64 (a0 - 7)) 8) < 2 then (if 6 + ((((⟨#[32]⟩ : ByteArray) ++ t137) ++ (⟨#[32]⟩ : ByteArray)) ++ t138).size ≤ 9223372036854775807 then (if ((⟨#[115, 116, 114, 105, 112, 101]⟩ : ByteArray) ++ ((((⟨#[32]⟩ : ByteArray) ++ t137) ++ (⟨#[32]⟩ : ByteArray)) ++ t138)).size + 1 ≤ 9223372036854775807 then ((impl_Dec.f k (Int.tmod (wrap64 (a0 - 7)) 8)).bind fun t139 => (if (((⟨#[115, 116, 114, 105, 112, 101]⟩ : ByteArray) ++ ((((⟨#[32]⟩ : ByteArray) ++ t137) ++ (⟨#[32]⟩ : ByteArray)) ++ t138)) ++ (⟨#[32]⟩ : ByteArray)).size + t139.size ≤ 9223372036854775807 then (some ((((⟨#[115, 116, 114, 105, 112, 101]⟩ : ByteArray) ++ ((((⟨#[32]⟩ : ByteArray) ++ t137) ++ (⟨#[32]⟩ : ByteArray)) ++ t138)) ++ (⟨#[32]⟩ : ByteArray)) ++ t139)) else (none))) else (none)) else (none)) else (if (Int.tmod (wrap64 (a0 - 7)) 8) < 5 then (if (Int.tmod (wrap64 (a0 - 7)) 8) = 2 then (if 5 + ((((⟨#[32]⟩ : ByteArray) ++ t137) ++ (⟨#[32]⟩ : ByteArray)) ++ t138).size ≤ 9223372036854775807 then (some ((⟨#[115, 116, 97, 109, 112]⟩ : ByteArray) ++ ((((⟨#[32]⟩ : ByteArray) ++ t137) ++ (⟨#[32]⟩ : ByteArray)) ++ t138))) else (none)) else (if (Int.tmod (wrap64 (a0 - 7)) 8) = 3 then (if 5 + ((((⟨#[32]⟩ : ByteArray) ++ t137) ++ (⟨#[32]⟩ : ByteArray)) ++ t138).size ≤ 9223372036854775807 then (some ((⟨#[103, 97, 117, 103, 101]⟩ : ByteArray) ++ ((((⟨#[32]⟩ : ByteArray) ++ t137) ++ (⟨#[32]⟩ : ByteArray)) ++ t138))) else (none)) else (if 6 + ((((⟨#[32]⟩ : ByteArray) ++ t137) ++ (⟨#[32]⟩ : ByteArray)) ++ t138).size ≤ 9223372036854775807 then (some ((⟨#[116, 105, 99, 107, 101, 116]⟩ : ByteArray) ++ ((((⟨#[32]⟩ : ByteArray) ++ t137) ++ (⟨#[32]⟩ : ByteArray)) ++ t138))) else (none)))) else (if 4 + ((((⟨#[32]⟩ : ByteArray) ++ t137) ++ (⟨#[32]⟩ : ByteArray)) ++ t138).size ≤ 9223372036854775807 then (if ((⟨#[114, 105, 110, 103]⟩ : ByteArray) ++ ((((⟨#[32]⟩ : ByteArray) ++ t137) ++ (⟨#[32]⟩ : ByteArray)) ++ t138)).size + 1 ≤ 9223372036854775807 then ((impl_Dec.f k (wrap64 ((wrap64 ((Int.tmod (wrap64 (a0 - 7)) 8) - 2)) - 3))).bind fun t140 => (if (((⟨#[114, 105, 110, 103]⟩ : ByteArray) ++ ((((⟨#[32]⟩ : ByteArray) ++ t137) ++ (⟨#[32]⟩ : ByteArray)) ++ t138)) ++ (⟨#[32]⟩ : ByteArray)).size + t140.size ≤ 9223372036854775807 then (some ((((⟨#[114, 105, 110, 103]⟩ : ByteArray) ++ ((((⟨#[32]⟩ : ByteArray) ++ t137) ++ (⟨#[32]⟩ : ByteArray)) ++ t138)) ++ (⟨#[32]⟩ : ByteArray)) ++ t140)) else (none))) else (none)) else (none)))) else (none))) else (none)) else (none))) else (some (⟨#[]⟩ : ByteArray)))) = some r := by rw [if_neg (show ¬ (false = true) by decide)] at H; exact H
        clear H
        have H := H1
        clear H1
        replace H := Option.bind_eq_some_iff.mp H
        obtain ⟨t136, A130, H⟩ := H
        replace H : (if t136 = true then ((impl_Dec.f k (wrap64 (Int.tdiv (wrap64 (a0 - 7)) 32))).bind fun t137 => (if 1 + t137.size ≤ 9223372036854775807 then (if ((⟨#[32]⟩ : ByteArray) ++ t137).size + 1 ≤ 9223372036854775807 then ((impl_Dec.f k (wrap64 (Int.tdiv (Int.tmod (wrap64 (a0 - 7)) 32) 8))).bind fun t138 => (if (((⟨#[32]⟩ : ByteArray) ++ t137) ++ (⟨#[32]⟩ : ByteArray)).size + t138.size ≤ 9223372036854775807 then (if (Int.tmod (wrap64 (a0 - 7)) 8) < 2 then (if 6 + ((((⟨#[32]⟩ : ByteArray) ++ t137) ++ (⟨#[32]⟩ : ByteArray)) ++ t138).size ≤ 9223372036854775807 then (if ((⟨#[115, 116, 114, 105, 112, 101]⟩ : ByteArray) ++ ((((⟨#[32]⟩ : ByteArray) ++ t137) ++ (⟨#[32]⟩ : ByteArray)) ++ t138)).size + 1 ≤ 9223372036854775807 then ((impl_Dec.f k (Int.tmod (wrap64 (a0 - 7)) 8)).bind fun t139 => (if (((⟨#[115, 116, 114, 105, 112, 101]⟩ : ByteArray) ++ ((((⟨#[32]⟩ : ByteArray) ++ t137) ++ (⟨#[32]⟩ : ByteArray)) ++ t138)) ++ (⟨#[32]⟩ : ByteArray)).size + t139.size ≤ 9223372036854775807 then (some ((((⟨#[115, 116, 114, 105, 112, 101]⟩ : ByteArray) ++ ((((⟨#[32]⟩ : ByteArray) ++ t137) ++ (⟨#[32]⟩ : ByteArray)) ++ t138)) ++ (⟨#[32]⟩ : ByteArray)) ++ t139)) else (none))) else (none)) else (none)) else (if (Int.tmod (wrap64 (a0 - 7)) 8) < 5 then (if (Int.tmod (wrap64 (a0 - 7)) 8) = 2 then (if 5 + ((((⟨#[32]⟩ : ByteArray) ++ t137) ++ (⟨#[32]⟩ : ByteArray)) ++ t138).size ≤ 9223372036854775807 then (some ((⟨#[115, 116, 97, 109, 112]⟩ : ByteArray) ++ ((((⟨#[32]⟩ : ByteArray) ++ t137) ++ (⟨#[32]⟩ : ByteArray)) ++ t138))) else (none)) else (if (Int.tmod (wrap64 (a0 - 7)) 8) = 3 then (if 5 + ((((⟨#[32]⟩ : ByteArray) ++ t137) ++ (⟨#[32]⟩ : ByteArray)) ++ t138).size ≤ 9223372036854775807 then (some ((⟨#[103, 97, 117, 103, 101]⟩ : ByteArray) ++ ((((⟨#[32]⟩ : ByteArray) ++ t137) ++ (⟨#[32]⟩ : ByteArray)) ++ t138))) else (none)) else (if 6 + ((((⟨#[32]⟩ : ByteArray) ++ t137) ++ (⟨#[32]⟩ : ByteArray)) ++ t138).size ≤ 9223372036854775807 then (some ((⟨#[116, 105, 99, 107, 101, 116]⟩ : ByteArray) ++ ((((⟨#[32]⟩ : ByteArray) ++ t137) ++ (⟨#[32]⟩ : ByteArray)) ++ t138))) else (none)))) else (if 4 + ((((⟨#[32]⟩ : ByteArray) ++ t137) ++ (⟨#[32]⟩ : ByteArray)) ++ t138).size ≤ 9223372036854775807 then (if ((⟨#[114, 105, 110, 103]⟩ : ByteArray) ++ ((((⟨#[32]⟩ : ByteArray) ++ t137) ++ (⟨#[32]⟩ : ByteArray)) ++ t138)).size + 1 ≤ 9223372036854775807 then ((impl_Dec.f k (wrap64 ((wrap64 ((Int.tmod (wrap64 (a0 - 7)) 8) - 2)) - 3))).bind fun t140 => (if (((⟨#[114, 105, 110, 103]⟩ : ByteArray) ++ ((((⟨#[32]⟩ : ByteArray) ++ t137) ++ (⟨#[32]⟩ : ByteArray)) ++ t138)) ++ (⟨#[32]⟩ : ByteArray)).size + t140.size ≤ 9223372036854775807 then (some ((((⟨#[114, 105, 110, 103]⟩ : ByteArray) ++ ((((⟨#[32]⟩ : ByteArray) ++ t137) ++ (⟨#[32]⟩ : ByteArray)) ++ t138)) ++ (⟨#[32]⟩ : ByteArray)) ++ t140)) else (none))) else (none)) else (none)))) else (none))) else (none)) else (none))) else (some (⟨#[]⟩ : ByteArray))) = some r := H
        have A13 := Aside0.mk A130
        clear A130
        by_cases c14 : t136 = true
        · subst c14
          have H1 : ((impl_Dec.f k (wrap64 (Int.tdiv (wrap64 (a0 - 7)) 32))).bind fun t137 => (if 1 + t137.size ≤ 9223372036854775807 then (if ((⟨#[32]⟩ : ByteArray) ++ t137).size + 1 ≤ 9223372036854775807 then ((impl_Dec.f k (wrap64 (Int.tdiv (Int.tmod (wrap64 (a0 - 7)) 32) 8))).bind fun t138 => (if (((⟨#[32]⟩ : ByteArray) ++ t137) ++ (⟨#[32]⟩ : ByteArray)).size + t138.size ≤ 9223372036854775807 then (if (Int.tmod (wrap64 (a0 - 7)) 8) < 2 then (if 6 + ((((⟨#[32]⟩ : ByteArray) ++ t137) ++ (⟨#[32]⟩ : ByteArray)) ++ t138).size ≤ 9223372036854775807 then (if ((⟨#[115, 116, 114, 105, 112, 101]⟩ : ByteArray) ++ ((((⟨#[32]⟩ : ByteArray) ++ t137) ++ (⟨#[32]⟩ : ByteArray)) ++ t138)).size + 1 ≤ 9223372036854775807 then ((impl_Dec.f k (Int.tmod (wrap64 (a0 - 7)) 8)).bind fun t139 => (if (((⟨#[115, 116, 114, 105, 112, 101]⟩ : ByteArray) ++ ((((⟨#[32]⟩ : ByteArray) ++ t137) ++ (⟨#[32]⟩ : ByteArray)) ++ t138)) ++ (⟨#[32]⟩ : ByteArray)).size + t139.size ≤ 9223372036854775807 then (some ((((⟨#[115, 116, 114, 105, 112, 101]⟩ : ByteArray) ++ ((((⟨#[32]⟩ : ByteArray) ++ t137) ++ (⟨#[32]⟩ : ByteArray)) ++ t138)) ++ (⟨#[32]⟩ : ByteArray)) ++ t139)) else (none))) else (none)) else (none)) else (if (Int.tmod (wrap64 (a0 - 7)) 8) < 5 then (if (Int.tmod (wrap64 (a0 - 7)) 8) = 2 then (if 5 + ((((⟨#[32]⟩ : ByteArray) ++ t137) ++ (⟨#[32]⟩ : ByteArray)) ++ t138).size ≤ 9223372036854775807 then (some ((⟨#[115, 116, 97, 109, 112]⟩ : ByteArray) ++ ((((⟨#[32]⟩ : ByteArray) ++ t137) ++ (⟨#[32]⟩ : ByteArray)) ++ t138))) else (none)) else (if (Int.tmod (wrap64 (a0 - 7)) 8) = 3 then (if 5 + ((((⟨#[32]⟩ : ByteArray) ++ t137) ++ (⟨#[32]⟩ : ByteArray)) ++ t138).size ≤ 9223372036854775807 then (some ((⟨#[103, 97, 117, 103, 101]⟩ : ByteArray) ++ ((((⟨#[32]⟩ : ByteArray) ++ t137) ++ (⟨#[32]⟩ : ByteArray)) ++ t138))) else (none)) else (if 6 + ((((⟨#[32]⟩ : ByteArray) ++ t137) ++ (⟨#[32]⟩ : ByteArray)) ++ t138).size ≤ 9223372036854775807 then (some ((⟨#[116, 105, 99, 107, 101, 116]⟩ : ByteArray) ++ ((((⟨#[32]⟩ : ByteArray) ++ t137) ++ (⟨#[32]⟩ : ByteArray)) ++ t138))) else (none)))) else (if 4 + ((((⟨#[32]⟩ : ByteArray) ++ t137) ++ (⟨#[32]⟩ : ByteArray)) ++ t138).size ≤ 9223372036854775807 then (if ((⟨#[114, 105, 110, 103]⟩ : ByteArray) ++ ((((⟨#[32]⟩ : ByteArray) ++ t137) ++ (⟨#[32]⟩ : ByteArray)) ++ t138)).size + 1 ≤ 9223372036854775807 then ((impl_Dec.f k (wrap64 ((wrap64 ((Int.tmod (wrap64 (a0 - 7)) 8) - 2)) - 3))).bind fun t140 => (if (((⟨#[114, 105, 110, 103]⟩ : ByteArray) ++ ((((⟨#[32]⟩ : ByteArray) ++ t137) ++ (⟨#[32]⟩ : ByteArray)) ++ t138)) ++ (⟨#[32]⟩ : ByteArray)).size + t140.size ≤ 9223372036854775807 then (some ((((⟨#[114, 105, 110, 103]⟩ : ByteArray) ++ ((((⟨#[32]⟩ : ByteArray) ++ t137) ++ (⟨#[32]⟩ : ByteArray)) ++ t138)) ++ (⟨#[32]⟩ : ByteArray)) ++ t140)) else (none))) else (none)) else (none)))) else (none))) else (none)) else (none))) = some r := by rw [if_pos rfl] at H; exact H
          clear H
          have H := H1
          clear H1
          replace H := Option.bind_eq_some_iff.mp H
          obtain ⟨t137, A150, H⟩ := H
          replace H : (if 1 + t137.size ≤ 9223372036854775807 then (if ((⟨#[32]⟩ : ByteArray) ++ t137).size + 1 ≤ 9223372036854775807 then ((impl_Dec.f k (wrap64 (Int.tdiv (Int.tmod (wrap64 (a0 - 7)) 32) 8))).bind fun t138 => (if (((⟨#[32]⟩ : ByteArray) ++ t137) ++ (⟨#[32]⟩ : ByteArray)).size + t138.size ≤ 9223372036854775807 then (if (Int.tmod (wrap64 (a0 - 7)) 8) < 2 then (if 6 + ((((⟨#[32]⟩ : ByteArray) ++ t137) ++ (⟨#[32]⟩ : ByteArray)) ++ t138).size ≤ 9223372036854775807 then (if ((⟨#[115, 116, 114, 105, 112, 101]⟩ : ByteArray) ++ ((((⟨#[32]⟩ : ByteArray) ++ t137) ++ (⟨#[32]⟩ : ByteArray)) ++ t138)).size + 1 ≤ 9223372036854775807 then ((impl_Dec.f k (Int.tmod (wrap64 (a0 - 7)) 8)).bind fun t139 => (if (((⟨#[115, 116, 114, 105, 112, 101]⟩ : ByteArray) ++ ((((⟨#[32]⟩ : ByteArray) ++ t137) ++ (⟨#[32]⟩ : ByteArray)) ++ t138)) ++ (⟨#[32]⟩ : ByteArray)).size + t139.size ≤ 9223372036854775807 then (some ((((⟨#[115, 116, 114, 105, 112, 101]⟩ : ByteArray) ++ ((((⟨#[32]⟩ : ByteArray) ++ t137) ++ (⟨#[32]⟩ : ByteArray)) ++ t138)) ++ (⟨#[32]⟩ : ByteArray)) ++ t139)) else (none))) else (none)) else (none)) else (if (Int.tmod (wrap64 (a0 - 7)) 8) < 5 then (if (Int.tmod (wrap64 (a0 - 7)) 8) = 2 then (if 5 + ((((⟨#[32]⟩ : ByteArray) ++ t137) ++ (⟨#[32]⟩ : ByteArray)) ++ t138).size ≤ 9223372036854775807 then (some ((⟨#[115, 116, 97, 109, 112]⟩ : ByteArray) ++ ((((⟨#[32]⟩ : ByteArray) ++ t137) ++ (⟨#[32]⟩ : ByteArray)) ++ t138))) else (none)) else (if (Int.tmod (wrap64 (a0 - 7)) 8) = 3 then (if 5 + ((((⟨#[32]⟩ : ByteArray) ++ t137) ++ (⟨#[32]⟩ : ByteArray)) ++ t138).size ≤ 9223372036854775807 then (some ((⟨#[103, 97, 117, 103, 101]⟩ : ByteArray) ++ ((((⟨#[32]⟩ : ByteArray) ++ t137) ++ (⟨#[32]⟩ : ByteArray)) ++ t138))) else (none)) else (if 6 + ((((⟨#[32]⟩ : ByteArray) ++ t137) ++ (⟨#[32]⟩ : ByteArray)) ++ t138).size ≤ 9223372036854775807 then (some ((⟨#[116, 105, 99, 107, 101, 116]⟩ : ByteArray) ++ ((((⟨#[32]⟩ : ByteArray) ++ t137) ++ (⟨#[32]⟩ : ByteArray)) ++ t138))) else (none)))) else (if 4 + ((((⟨#[32]⟩ : ByteArray) ++ t137) ++ (⟨#[32]⟩ : ByteArray)) ++ t138).size ≤ 9223372036854775807 then (if ((⟨#[114, 105, 110, 103]⟩ : ByteArray) ++ ((((⟨#[32]⟩ : ByteArray) ++ t137) ++ (⟨#[32]⟩ : ByteArray)) ++ t138)).size + 1 ≤ 9223372036854775807 then ((impl_Dec.f k (wrap64 ((wrap64 ((Int.tmod (wrap64 (a0 - 7)) 8) - 2)) - 3))).bind fun t140 => (if (((⟨#[114, 105, 110, 103]⟩ : ByteArray) ++ ((((⟨#[32]⟩ : ByteArray) ++ t137) ++ (⟨#[32]⟩ : ByteArray)) ++ t138)) ++ (⟨#[32]⟩ : ByteArray)).size + t140.size ≤ 9223372036854775807 then (some ((((⟨#[114, 105, 110, 103]⟩ : ByteArray) ++ ((((⟨#[32]⟩ : ByteArray) ++ t137) ++ (⟨#[32]⟩ : ByteArray)) ++ t138)) ++ (⟨#[32]⟩ : ByteArray)) ++ t140)) else (none))) else (none)) else (none)))) else (none))) else (none)) else (none)) = some r := H
          have A15 := Aside0.mk A150
          clear A150
          by_cases c16 : 1 + t137.size ≤ 9223372036854775807
          · rw [if_pos c16] at H
            have c16b0 := eq_true c16
            have c16b1 : decide (1 + t137.size ≤ 9223372036854775807) = true := decide_eq_true c16
            try have c16b2 : (9223372036854775807 < 1 + t137.size) = False := eq_false (Nat.not_lt.2 c16)
            by_cases c17 : ((⟨#[32]⟩ : ByteArray) ++ t137).size + 1 ≤ 9223372036854775807
            · rw [if_pos c17] at H
              have c17b0 := eq_true c17
              have c17b1 : decide (((⟨#[32]⟩ : ByteArray) ++ t137).size + 1 ≤ 9223372036854775807) = true := decide_eq_true c17
              try have c17b2 : (9223372036854775807 < ((⟨#[32]⟩ : ByteArray) ++ t137).size + 1) = False := eq_false (Nat.not_lt.2 c17)
              have q_ := c17
              simp only [ByteArray.size_append, show (⟨#[101, 112, 111, 99, 104]⟩ : ByteArray).size = 5 from rfl, show (⟨#[103, 97, 117, 103, 101]⟩ : ByteArray).size = 5 from rfl, show (⟨#[105, 110, 32]⟩ : ByteArray).size = 3 from rfl, show (⟨#[107, 101, 121, 32]⟩ : ByteArray).size = 4 from rfl, show (⟨#[114, 105, 110, 103]⟩ : ByteArray).size = 4 from rfl, show (⟨#[115, 116, 114, 105, 112, 101]⟩ : ByteArray).size = 6 from rfl, show (⟨#[115, 116, 97, 109, 112]⟩ : ByteArray).size = 5 from rfl, show (⟨#[116, 105, 99, 107, 101, 116]⟩ : ByteArray).size = 6 from rfl, show (⟨#[32]⟩ : ByteArray).size = 1 from rfl] at q_
              have c17b3 := eq_false (Nat.not_lt.2 q_)
              clear q_
              replace H := Option.bind_eq_some_iff.mp H
              obtain ⟨t138, A180, H⟩ := H
              replace H : (if (((⟨#[32]⟩ : ByteArray) ++ t137) ++ (⟨#[32]⟩ : ByteArray)).size + t138.size ≤ 9223372036854775807 then (if (Int.tmod (wrap64 (a0 - 7)) 8) < 2 then (if 6 + ((((⟨#[32]⟩ : ByteArray) ++ t137) ++ (⟨#[32]⟩ : ByteArray)) ++ t138).size ≤ 9223372036854775807 then (if ((⟨#[115, 116, 114, 105, 112, 101]⟩ : ByteArray) ++ ((((⟨#[32]⟩ : ByteArray) ++ t137) ++ (⟨#[32]⟩ : ByteArray)) ++ t138)).size + 1 ≤ 9223372036854775807 then ((impl_Dec.f k (Int.tmod (wrap64 (a0 - 7)) 8)).bind fun t139 => (if (((⟨#[115, 116, 114, 105, 112, 101]⟩ : ByteArray) ++ ((((⟨#[32]⟩ : ByteArray) ++ t137) ++ (⟨#[32]⟩ : ByteArray)) ++ t138)) ++ (⟨#[32]⟩ : ByteArray)).size + t139.size ≤ 9223372036854775807 then (some ((((⟨#[115, 116, 114, 105, 112, 101]⟩ : ByteArray) ++ ((((⟨#[32]⟩ : ByteArray) ++ t137) ++ (⟨#[32]⟩ : ByteArray)) ++ t138)) ++ (⟨#[32]⟩ : ByteArray)) ++ t139)) else (none))) else (none)) else (none)) else (if (Int.tmod (wrap64 (a0 - 7)) 8) < 5 then (if (Int.tmod (wrap64 (a0 - 7)) 8) = 2 then (if 5 + ((((⟨#[32]⟩ : ByteArray) ++ t137) ++ (⟨#[32]⟩ : ByteArray)) ++ t138).size ≤ 9223372036854775807 then (some ((⟨#[115, 116, 97, 109, 112]⟩ : ByteArray) ++ ((((⟨#[32]⟩ : ByteArray) ++ t137) ++ (⟨#[32]⟩ : ByteArray)) ++ t138))) else (none)) else (if (Int.tmod (wrap64 (a0 - 7)) 8) = 3 then (if 5 + ((((⟨#[32]⟩ : ByteArray) ++ t137) ++ (⟨#[32]⟩ : ByteArray)) ++ t138).size ≤ 9223372036854775807 then (some ((⟨#[103, 97, 117, 103, 101]⟩ : ByteArray) ++ ((((⟨#[32]⟩ : ByteArray) ++ t137) ++ (⟨#[32]⟩ : ByteArray)) ++ t138))) else (none)) else (if 6 + ((((⟨#[32]⟩ : ByteArray) ++ t137) ++ (⟨#[32]⟩ : ByteArray)) ++ t138).size ≤ 9223372036854775807 then (some ((⟨#[116, 105, 99, 107, 101, 116]⟩ : ByteArray) ++ ((((⟨#[32]⟩ : ByteArray) ++ t137) ++ (⟨#[32]⟩ : ByteArray)) ++ t138))) else (none)))) else (if 4 + ((((⟨#[32]⟩ : ByteArray) ++ t137) ++ (⟨#[32]⟩ : ByteArray)) ++ t138).size ≤ 9223372036854775807 then (if ((⟨#[114, 105, 110, 103]⟩ : ByteArray) ++ ((((⟨#[32]⟩ : ByteArray) ++ t137) ++ (⟨#[32]⟩ : ByteArray)) ++ t138)).size + 1 ≤ 9223372036854775807 then ((impl_Dec.f k (wrap64 ((wrap64 ((Int.tmod (wrap64 (a0 - 7)) 8) - 2)) - 3))).bind fun t140 => (if (((⟨#[114, 105, 110, 103]⟩ : ByteArray) ++ ((((⟨#[32]⟩ : ByteArray) ++ t137) ++ (⟨#[32]⟩ : ByteArray)) ++ t138)) ++ (⟨#[32]⟩ : ByteArray)).size + t140.size ≤ 9223372036854775807 then (some ((((⟨#[114, 105, 110, 103]⟩ : ByteArray) ++ ((((⟨#[32]⟩ : ByteArray) ++ t137) ++ (⟨#[32]⟩ : ByteArray)) ++ t138)) ++ (⟨#[32]⟩ : ByteArray)) ++ t140)) else (none))) else (none)) else (none)))) else (none)) = some r := H
              have A18 := Aside0.mk A180
              clear A180
              by_cases c19 : (((⟨#[32]⟩ : ByteArray) ++ t137) ++ (⟨#[32]⟩ : ByteArray)).size + t138.size ≤ 9223372036854775807
              · rw [if_pos c19] at H
                have c19b0 := eq_true c19
                have c19b1 : decide ((((⟨#[32]⟩ : ByteArray) ++ t137) ++ (⟨#[32]⟩ : ByteArray)).size + t138.size ≤ 9223372036854775807) = true := decide_eq_true c19
                try have c19b2 : (9223372036854775807 < (((⟨#[32]⟩ : ByteArray) ++ t137) ++ (⟨#[32]⟩ : ByteArray)).size + t138.size) = False := eq_false (Nat.not_lt.2 c19)
                have q_ := c19
                simp only [ByteArray.size_append, show (⟨#[101, 112, 111, 99, 104]⟩ : ByteArray).size = 5 from rfl, show (⟨#[103, 97, 117, 103, 101]⟩ : ByteArray).size = 5 from rfl, show (⟨#[105, 110, 32]⟩ : ByteArray).size = 3 from rfl, show (⟨#[107, 101, 121, 32]⟩ : ByteArray).size = 4 from rfl, show (⟨#[114, 105, 110, 103]⟩ : ByteArray).size = 4 from rfl, show (⟨#[115, 116, 114, 105, 112, 101]⟩ : ByteArray).size = 6 from rfl, show (⟨#[115, 116, 97, 109, 112]⟩ : ByteArray).size = 5 from rfl, show (⟨#[116, 105, 99, 107, 101, 116]⟩ : ByteArray).size = 6 from rfl, show (⟨#[32]⟩ : ByteArray).size = 1 from rfl] at q_
                have c19b3 := eq_false (Nat.not_lt.2 q_)
                clear q_
                by_cases c20 : (Int.tmod (wrap64 (a0 - 7)) 8) < 2
                · rw [if_pos c20] at H
                  have c20b0 : decide ((Int.tmod (wrap64 (a0 - 7)) 8) < 2) = true := decide_eq_true c20
                  clear c20
                  by_cases c21 : 6 + ((((⟨#[32]⟩ : ByteArray) ++ t137) ++ (⟨#[32]⟩ : ByteArray)) ++ t138).size ≤ 9223372036854775807
                  · rw [if_pos c21] at H
                    have c21b0 := eq_true c21
                    have c21b1 : decide (6 + ((((⟨#[32]⟩ : ByteArray) ++ t137) ++ (⟨#[32]⟩ : ByteArray)) ++ t138).size ≤ 9223372036854775807) = true := decide_eq_true c21
                    try have c21b2 : (9223372036854775807 < 6 + ((((⟨#[32]⟩ : ByteArray) ++ t137) ++ (⟨#[32]⟩ : ByteArray)) ++ t138).size) = False := eq_false (Nat.not_lt.2 c21)
                    have q_ := c21
                    simp only [ByteArray.size_append, show (⟨#[101, 112, 111, 99, 104]⟩ : ByteArray).size = 5 from rfl, show (⟨#[103, 97, 117, 103, 101]⟩ : ByteArray).size = 5 from rfl, show (⟨#[105, 110, 32]⟩ : ByteArray).size = 3 from rfl, show (⟨#[107, 101, 121, 32]⟩ : ByteArray).size = 4 from rfl, show (⟨#[114, 105, 110, 103]⟩ : ByteArray).size = 4 from rfl, show (⟨#[115, 116, 114, 105, 112, 101]⟩ : ByteArray).size = 6 from rfl, show (⟨#[115, 116, 97, 109, 112]⟩ : ByteArray).size = 5 from rfl, show (⟨#[116, 105, 99, 107, 101, 116]⟩ : ByteArray).size = 6 from rfl, show (⟨#[32]⟩ : ByteArray).size = 1 from rfl] at q_
                    have c21b3 := eq_false (Nat.not_lt.2 q_)
                    clear q_
                    by_cases c22 : ((⟨#[115, 116, 114, 105, 112, 101]⟩ : ByteArray) ++ ((((⟨#[32]⟩ : ByteArray) ++ t137) ++ (⟨#[32]⟩ : ByteArray)) ++ t138)).size + 1 ≤ 9223372036854775807
                    · rw [if_pos c22] at H
                      have c22b0 := eq_true c22
                      have c22b1 : decide (((⟨#[115, 116, 114, 105, 112, 101]⟩ : ByteArray) ++ ((((⟨#[32]⟩ : ByteArray) ++ t137) ++ (⟨#[32]⟩ : ByteArray)) ++ t138)).size + 1 ≤ 9223372036854775807) = true := decide_eq_true c22
                      try have c22b2 : (9223372036854775807 < ((⟨#[115, 116, 114, 105, 112, 101]⟩ : ByteArray) ++ ((((⟨#[32]⟩ : ByteArray) ++ t137) ++ (⟨#[32]⟩ : ByteArray)) ++ t138)).size + 1) = False := eq_false (Nat.not_lt.2 c22)
                      have q_ := c22
                      simp only [ByteArray.size_append, show (⟨#[101, 112, 111, 99, 104]⟩ : ByteArray).size = 5 from rfl, show (⟨#[103, 97, 117, 103, 101]⟩ : ByteArray).size = 5 from rfl, show (⟨#[105, 110, 32]⟩ : ByteArray).size = 3 from rfl, show (⟨#[107, 101, 121, 32]⟩ : ByteArray).size = 4 from rfl, show (⟨#[114, 105, 110, 103]⟩ : ByteArray).size = 4 from rfl, show (⟨#[115, 116, 114, 105, 112, 101]⟩ : ByteArray).size = 6 from rfl, show (⟨#[115, 116, 97, 109, 112]⟩ : ByteArray).size = 5 from rfl, show (⟨#[116, 105, 99, 107, 101, 116]⟩ : ByteArray).size = 6 from rfl, show (⟨#[32]⟩ : ByteArray).size = 1 from rfl] at q_
                      have c22b3 := eq_false (Nat.not_lt.2 q_)
                      clear q_
                      replace H := Option.bind_eq_some_iff.mp H
                      obtain ⟨t139, A230, H⟩ := H
                      replace H : (if (((⟨#[115, 116, 114, 105, 112, 101]⟩ : ByteArray) ++ ((((⟨#[32]⟩ : ByteArray) ++ t137) ++ (⟨#[32]⟩ : ByteArray)) ++ t138)) ++ (⟨#[32]⟩ : ByteArray)).size + t139.size ≤ 9223372036854775807 then (some ((((⟨#[115, 116, 114, 105, 112, 101]⟩ : ByteArray) ++ ((((⟨#[32]⟩ : ByteArray) ++ t137) ++ (⟨#[32]⟩ : ByteArray)) ++ t138)) ++ (⟨#[32]⟩ : ByteArray)) ++ t139)) else (none)) = some r := H
                      have A23 := Aside0.mk A230
                      clear A230
                      by_cases c24 : (((⟨#[115, 116, 114, 105, 112, 101]⟩ : ByteArray) ++ ((((⟨#[32]⟩ : ByteArray) ++ t137) ++ (⟨#[32]⟩ : ByteArray)) ++ t138)) ++ (⟨#[32]⟩ : ByteArray)).size + t139.size ≤ 9223372036854775807
                      · rw [if_pos c24] at H
                        have c24b0 := eq_true c24
                        have c24b1 : decide ((((⟨#[115, 116, 114, 105, 112, 101]⟩ : ByteArray) ++ ((((⟨#[32]⟩ : ByteArray) ++ t137) ++ (⟨#[32]⟩ : ByteArray)) ++ t138)) ++ (⟨#[32]⟩ : ByteArray)).size + t139.size ≤ 9223372036854775807) = true := decide_eq_true c24
                        try have c24b2 : (9223372036854775807 < (((⟨#[115, 116, 114, 105, 112, 101]⟩ : ByteArray) ++ ((((⟨#[32]⟩ : ByteArray) ++ t137) ++ (⟨#[32]⟩ : ByteArray)) ++ t138)) ++ (⟨#[32]⟩ : ByteArray)).size + t139.size) = False := eq_false (Nat.not_lt.2 c24)
                        have q_ := c24
                        simp only [ByteArray.size_append, show (⟨#[101, 112, 111, 99, 104]⟩ : ByteArray).size = 5 from rfl, show (⟨#[103, 97, 117, 103, 101]⟩ : ByteArray).size = 5 from rfl, show (⟨#[105, 110, 32]⟩ : ByteArray).size = 3 from rfl, show (⟨#[107, 101, 121, 32]⟩ : ByteArray).size = 4 from rfl, show (⟨#[114, 105, 110, 103]⟩ : ByteArray).size = 4 from rfl, show (⟨#[115, 116, 114, 105, 112, 101]⟩ : ByteArray).size = 6 from rfl, show (⟨#[115, 116, 97, 109, 112]⟩ : ByteArray).size = 5 from rfl, show (⟨#[116, 105, 99, 107, 101, 116]⟩ : ByteArray).size = 6 from rfl, show (⟨#[32]⟩ : ByteArray).size = 1 from rfl] at q_
                        have c24b3 := eq_false (Nat.not_lt.2 q_)
                        clear q_
                        obtain rfl := Option.some.inj H
                        go_enter Tryd.func13, Tryd.ntmps13
                        go_wp2_with (first | ((with_reducible refine gate_callee (f := 35) rfl ?_); refine goesL_ (some 11) rfl rfl Tryd.func35 (by kernel_rfl) rfl #[.int .i64 a0, .int .i64 1, .int .i64 2] rfl (by (try simp only [List.map_toArray, List.map_cons, List.map_nil]); first | done | rfl | (simp only [List.length_drop, List.length_take]; rfl)) ?_; (with_reducible refine (impl_within.calls a0 1 2 false _ A3.out).mono ?_); rintro e w' ⟨rfl, ⟨nd, rfl⟩⟩; refine ⟨_, rfl, ?_⟩) | ((with_reducible refine gate_callee (f := 35) rfl ?_); refine goesL_ (some 18) rfl rfl Tryd.func35 (by kernel_rfl) rfl #[.int .i64 a0, .int .i64 3, .int .i64 6] rfl (by (try simp only [List.map_toArray, List.map_cons, List.map_nil]); first | done | rfl | (simp only [List.length_drop, List.length_take]; rfl)) ?_; (with_reducible refine (impl_within.calls a0 3 6 false _ A8.out).mono ?_); rintro e w' ⟨rfl, ⟨nd, rfl⟩⟩; refine ⟨_, rfl, ?_⟩) | ((with_reducible refine gate_callee (f := 35) rfl ?_); refine goesL_ (some 25) rfl rfl Tryd.func35 (by kernel_rfl) rfl #[.int .i64 a0, .int .i64 7, .int .i64 70] rfl (by (try simp only [List.map_toArray, List.map_cons, List.map_nil]); first | done | rfl | (simp only [List.length_drop, List.length_take]; rfl)) ?_; (with_reducible refine (impl_within.calls a0 7 70 true _ A13.out).mono ?_); rintro e w' ⟨rfl, ⟨nd, rfl⟩⟩; refine ⟨_, rfl, ?_⟩) | ((with_reducible refine gate_callee (f := 9) rfl ?_); refine goesL_ (some 31) rfl rfl Tryd.func9 (by kernel_rfl) rfl #[.int .i64 (wrap64 (Int.tdiv (wrap64 (a0 - 7)) 32))] rfl (by (try simp only [List.map_toArray, List.map_cons, List.map_nil]); first | done | rfl | (simp only [List.length_drop, List.length_take]; rfl)) ?_; (with_reducible refine (impl_Dec.calls k (wrap64 (Int.tdiv (wrap64 (a0 - 7)) 32)) t137 _ A15.out).mono ?_); rintro e w25 ⟨rfl, hb⟩; refine ⟨_, rfl, ?_⟩; have n0_ := Aside0.mk (below_step (by repeat (first | (with_reducible first | exact HB.out | apply below_alloc | apply pw_below_drewN | apply below_drew1) | exact HB.out)) hb); clear HB; have HB := n0_; clear n0_; (try clear hb); (try clear hb2); (try clear hk); (try clear hi)) | ((with_reducible refine gate_callee (f := 9) rfl ?_); refine goesL_ (some 37) rfl rfl Tryd.func9 (by kernel_rfl) rfl #[.int .i64 (wrap64 (Int.tdiv (Int.tmod (wrap64 (a0 - 7)) 32) 8))] rfl (by (try simp only [List.map_toArray, List.map_cons, List.map_nil]); first | done | rfl | (simp only [List.length_drop, List.length_take]; rfl)) ?_; (with_reducible refine (impl_Dec.calls k (wrap64 (Int.tdiv (Int.tmod (wrap64 (a0 - 7)) 32) 8)) t138 _ A18.out).mono ?_); rintro e w26 ⟨rfl, hb⟩; refine ⟨_, rfl, ?_⟩; have n0_ := Aside0.mk (below_step (by repeat (first | (with_reducible first | exact HB.out | apply below_alloc | apply pw_below_drewN | apply below_drew1) | exact HB.out)) hb); clear HB; have HB := n0_; clear n0_; (try clear hb); (try clear hb2); (try clear hk); (try clear hi)) | ((with_reducible refine gate_callee (f := 9) rfl ?_); refine goesL_ (some 56) rfl rfl Tryd.func9 (by kernel_rfl) rfl #[.int .i64 (Int.tmod (wrap64 (a0 - 7)) 8)] rfl (by (try simp only [List.map_toArray, List.map_cons, List.map_nil]); first | done | rfl | (simp only [List.length_drop, List.length_take]; rfl)) ?_; (with_reducible refine (impl_Dec.calls k (Int.tmod (wrap64 (a0 - 7)) 8) t139 _ A23.out).mono ?_); rintro e w27 ⟨rfl, hb⟩; refine ⟨_, rfl, ?_⟩; have n0_ := Aside0.mk (below_step (by repeat (first | (with_reducible first | exact HB.out | apply below_alloc | apply pw_below_drewN | apply below_drew1) | exact HB.out)) hb); clear HB; have HB := n0_; clear n0_; (try clear hb); (try clear hb2); (try clear hk); (try clear hi)))
                        go_ret
                        exact ⟨by first | rfl | (simp [errW_none, errW_some] <;> rfl) | (simp [*, errW_none, errW_some] <;> rfl), by repeat (first | (with_reducible first | exact HB.out | apply below_alloc | apply pw_below_drewN | apply below_drew1) | exact HB.out)⟩
                      · rw [if_neg c24] at H
                        exact absurd H (by simp)
                    · rw [if_neg c22] at H
                      exact absurd H (by simp)
                  · rw [if_neg c21] at H
                    exact absurd H (by simp)
                · rw [if_neg c20] at H
                  have c20b0 : decide ((Int.tmod (wrap64 (a0 - 7)) 8) < 2) = false := decide_eq_false c20
                  clear c20
                  by_cases c28 : (Int.tmod (wrap64 (a0 - 7)) 8) < 5
                  · rw [if_pos c28] at H
                    have c28b0 : decide ((Int.tmod (wrap64 (a0 - 7)) 8) < 5) = true := decide_eq_true c28
                    clear c28
                    by_cases c40 : (Int.tmod (wrap64 (a0 - 7)) 8) = 2
                    · rw [if_pos c40] at H
                      have e40 : wrap64 ((Int.tmod (wrap64 (a0 - 7)) 8) - 2) = 0 := by rw [c40]; unfold wrap64; omega
                      clear c40
                      by_cases c29 : 5 + ((((⟨#[32]⟩ : ByteArray) ++ t137) ++ (⟨#[32]⟩ : ByteArray)) ++ t138).size ≤ 9223372036854775807
                      · rw [if_pos c29] at H
                        have c29b0 := eq_true c29
                        have c29b1 : decide (5 + ((((⟨#[32]⟩ : ByteArray) ++ t137) ++ (⟨#[32]⟩ : ByteArray)) ++ t138).size ≤ 9223372036854775807) = true := decide_eq_true c29
                        try have c29b2 : (9223372036854775807 < 5 + ((((⟨#[32]⟩ : ByteArray) ++ t137) ++ (⟨#[32]⟩ : ByteArray)) ++ t138).size) = False := eq_false (Nat.not_lt.2 c29)
                        have q_ := c29
                        simp only [ByteArray.size_append, show (⟨#[101, 112, 111, 99, 104]⟩ : ByteArray).size = 5 from rfl, show (⟨#[103, 97, 117, 103, 101]⟩ : ByteArray).size = 5 from rfl, show (⟨#[105, 110, 32]⟩ : ByteArray).size = 3 from rfl, show (⟨#[107, 101, 121, 32]⟩ : ByteArray).size = 4 from rfl, show (⟨#[114, 105, 110, 103]⟩ : ByteArray).size = 4 from rfl, show (⟨#[115, 116, 114, 105, 112, 101]⟩ : ByteArray).size = 6 from rfl, show (⟨#[115, 116, 97, 109, 112]⟩ : ByteArray).size = 5 from rfl, show (⟨#[116, 105, 99, 107, 101, 116]⟩ : ByteArray).size = 6 from rfl, show (⟨#[32]⟩ : ByteArray).size = 1 from rfl] at q_
                        have c29b3 := eq_false (Nat.not_lt.2 q_)
                        clear q_
                        obtain rfl := Option.some.inj H
                        go_enter Tryd.func13, Tryd.ntmps13
                        go_wp2_with (first | ((with_reducible refine gate_callee (f := 35) rfl ?_); refine goesL_ (some 11) rfl rfl Tryd.func35 (by kernel_rfl) rfl #[.int .i64 a0, .int .i64 1, .int .i64 2] rfl (by (try simp only [List.map_toArray, List.map_cons, List.map_nil]); first | done | rfl | (simp only [List.length_drop, List.length_take]; rfl)) ?_; (with_reducible refine (impl_within.calls a0 1 2 false _ A3.out).mono ?_); rintro e w' ⟨rfl, ⟨nd, rfl⟩⟩; refine ⟨_, rfl, ?_⟩) | ((with_reducible refine gate_callee (f := 35) rfl ?_); refine goesL_ (some 18) rfl rfl Tryd.func35 (by kernel_rfl) rfl #[.int .i64 a0, .int .i64 3, .int .i64 6] rfl (by (try simp only [List.map_toArray, List.map_cons, List.map_nil]); first | done | rfl | (simp only [List.length_drop, List.length_take]; rfl)) ?_; (with_reducible refine (impl_within.calls a0 3 6 false _ A8.out).mono ?_); rintro e w' ⟨rfl, ⟨nd, rfl⟩⟩; refine ⟨_, rfl, ?_⟩) | ((with_reducible refine gate_callee (f := 35) rfl ?_); refine goesL_ (some 25) rfl rfl Tryd.func35 (by kernel_rfl) rfl #[.int .i64 a0, .int .i64 7, .int .i64 70] rfl (by (try simp only [List.map_toArray, List.map_cons, List.map_nil]); first | done | rfl | (simp only [List.length_drop, List.length_take]; rfl)) ?_; (with_reducible refine (impl_within.calls a0 7 70 true _ A13.out).mono ?_); rintro e w' ⟨rfl, ⟨nd, rfl⟩⟩; refine ⟨_, rfl, ?_⟩) | ((with_reducible refine gate_callee (f := 9) rfl ?_); refine goesL_ (some 31) rfl rfl Tryd.func9 (by kernel_rfl) rfl #[.int .i64 (wrap64 (Int.tdiv (wrap64 (a0 - 7)) 32))] rfl (by (try simp only [List.map_toArray, List.map_cons, List.map_nil]); first | done | rfl | (simp only [List.length_drop, List.length_take]; rfl)) ?_; (with_reducible refine (impl_Dec.calls k (wrap64 (Int.tdiv (wrap64 (a0 - 7)) 32)) t137 _ A15.out).mono ?_); rintro e w30 ⟨rfl, hb⟩; refine ⟨_, rfl, ?_⟩; have n0_ := Aside0.mk (below_step (by repeat (first | (with_reducible first | exact HB.out | apply below_alloc | apply pw_below_drewN | apply below_drew1) | exact HB.out)) hb); clear HB; have HB := n0_; clear n0_; (try clear hb); (try clear hb2); (try clear hk); (try clear hi)) | ((with_reducible refine gate_callee (f := 9) rfl ?_); refine goesL_ (some 37) rfl rfl Tryd.func9 (by kernel_rfl) rfl #[.int .i64 (wrap64 (Int.tdiv (Int.tmod (wrap64 (a0 - 7)) 32) 8))] rfl (by (try simp only [List.map_toArray, List.map_cons, List.map_nil]); first | done | rfl | (simp only [List.length_drop, List.length_take]; rfl)) ?_; (with_reducible refine (impl_Dec.calls k (wrap64 (Int.tdiv (Int.tmod (wrap64 (a0 - 7)) 32) 8)) t138 _ A18.out).mono ?_); rintro e w31 ⟨rfl, hb⟩; refine ⟨_, rfl, ?_⟩; have n0_ := Aside0.mk (below_step (by repeat (first | (with_reducible first | exact HB.out | apply below_alloc | apply pw_below_drewN | apply below_drew1) | exact HB.out)) hb); clear HB; have HB := n0_; clear n0_; (try clear hb); (try clear hb2); (try clear hk); (try clear hi)))
                        go_ret
                        exact ⟨by first | rfl | (simp [errW_none, errW_some] <;> rfl) | (simp [*, errW_none, errW_some] <;> rfl), by repeat (first | (with_reducible first | exact HB.out | apply below_alloc | apply pw_below_drewN | apply below_drew1) | exact HB.out)⟩
                      · rw [if_neg c29] at H
                        exact absurd H (by simp)
                    · rw [if_neg c40] at H
                      by_cases c41 : (Int.tmod (wrap64 (a0 - 7)) 8) = 3
                      · rw [if_pos c41] at H
                        clear c40
                        have e40 : wrap64 ((Int.tmod (wrap64 (a0 - 7)) 8) - 2) = 1 := by rw [c41]; unfold wrap64; omega
                        clear c41
                        by_cases c29 : 5 + ((((⟨#[32]⟩ : ByteArray) ++ t137) ++ (⟨#[32]⟩ : ByteArray)) ++ t138).size ≤ 9223372036854775807
                        · rw [if_pos c29] at H
                          have c29b0 := eq_true c29
                          have c29b1 : decide (5 + ((((⟨#[32]⟩ : ByteArray) ++ t137) ++ (⟨#[32]⟩ : ByteArray)) ++ t138).size ≤ 9223372036854775807) = true := decide_eq_true c29
                          try have c29b2 : (9223372036854775807 < 5 + ((((⟨#[32]⟩ : ByteArray) ++ t137) ++ (⟨#[32]⟩ : ByteArray)) ++ t138).size) = False := eq_false (Nat.not_lt.2 c29)
                          have q_ := c29
                          simp only [ByteArray.size_append, show (⟨#[101, 112, 111, 99, 104]⟩ : ByteArray).size = 5 from rfl, show (⟨#[103, 97, 117, 103, 101]⟩ : ByteArray).size = 5 from rfl, show (⟨#[105, 110, 32]⟩ : ByteArray).size = 3 from rfl, show (⟨#[107, 101, 121, 32]⟩ : ByteArray).size = 4 from rfl, show (⟨#[114, 105, 110, 103]⟩ : ByteArray).size = 4 from rfl, show (⟨#[115, 116, 114, 105, 112, 101]⟩ : ByteArray).size = 6 from rfl, show (⟨#[115, 116, 97, 109, 112]⟩ : ByteArray).size = 5 from rfl, show (⟨#[116, 105, 99, 107, 101, 116]⟩ : ByteArray).size = 6 from rfl, show (⟨#[32]⟩ : ByteArray).size = 1 from rfl] at q_
                          have c29b3 := eq_false (Nat.not_lt.2 q_)
                          clear q_
                          obtain rfl := Option.some.inj H
                          go_enter Tryd.func13, Tryd.ntmps13
                          go_wp2_with (first | ((with_reducible refine gate_callee (f := 35) rfl ?_); refine goesL_ (some 11) rfl rfl Tryd.func35 (by kernel_rfl) rfl #[.int .i64 a0, .int .i64 1, .int .i64 2] rfl (by (try simp only [List.map_toArray, List.map_cons, List.map_nil]); first | done | rfl | (simp only [List.length_drop, List.length_take]; rfl)) ?_; (with_reducible refine (impl_within.calls a0 1 2 false _ A3.out).mono ?_); rintro e w' ⟨rfl, ⟨nd, rfl⟩⟩; refine ⟨_, rfl, ?_⟩) | ((with_reducible refine gate_callee (f := 35) rfl ?_); refine goesL_ (some 18) rfl rfl Tryd.func35 (by kernel_rfl) rfl #[.int .i64 a0, .int .i64 3, .int .i64 6] rfl (by (try simp only [List.map_toArray, List.map_cons, List.map_nil]); first | done | rfl | (simp only [List.length_drop, List.length_take]; rfl)) ?_; (with_reducible refine (impl_within.calls a0 3 6 false _ A8.out).mono ?_); rintro e w' ⟨rfl, ⟨nd, rfl⟩⟩; refine ⟨_, rfl, ?_⟩) | ((with_reducible refine gate_callee (f := 35) rfl ?_); refine goesL_ (some 25) rfl rfl Tryd.func35 (by kernel_rfl) rfl #[.int .i64 a0, .int .i64 7, .int .i64 70] rfl (by (try simp only [List.map_toArray, List.map_cons, List.map_nil]); first | done | rfl | (simp only [List.length_drop, List.length_take]; rfl)) ?_; (with_reducible refine (impl_within.calls a0 7 70 true _ A13.out).mono ?_); rintro e w' ⟨rfl, ⟨nd, rfl⟩⟩; refine ⟨_, rfl, ?_⟩) | ((with_reducible refine gate_callee (f := 9) rfl ?_); refine goesL_ (some 31) rfl rfl Tryd.func9 (by kernel_rfl) rfl #[.int .i64 (wrap64 (Int.tdiv (wrap64 (a0 - 7)) 32))] rfl (by (try simp only [List.map_toArray, List.map_cons, List.map_nil]); first | done | rfl | (simp only [List.length_drop, List.length_take]; rfl)) ?_; (with_reducible refine (impl_Dec.calls k (wrap64 (Int.tdiv (wrap64 (a0 - 7)) 32)) t137 _ A15.out).mono ?_); rintro e w30 ⟨rfl, hb⟩; refine ⟨_, rfl, ?_⟩; have n0_ := Aside0.mk (below_step (by repeat (first | (with_reducible first | exact HB.out | apply below_alloc | apply pw_below_drewN | apply below_drew1) | exact HB.out)) hb); clear HB; have HB := n0_; clear n0_; (try clear hb); (try clear hb2); (try clear hk); (try clear hi)) | ((with_reducible refine gate_callee (f := 9) rfl ?_); refine goesL_ (some 37) rfl rfl Tryd.func9 (by kernel_rfl) rfl #[.int .i64 (wrap64 (Int.tdiv (Int.tmod (wrap64 (a0 - 7)) 32) 8))] rfl (by (try simp only [List.map_toArray, List.map_cons, List.map_nil]); first | done | rfl | (simp only [List.length_drop, List.length_take]; rfl)) ?_; (with_reducible refine (impl_Dec.calls k (wrap64 (Int.tdiv (Int.tmod (wrap64 (a0 - 7)) 32) 8)) t138 _ A18.out).mono ?_); rintro e w31 ⟨rfl, hb⟩; refine ⟨_, rfl, ?_⟩; have n0_ := Aside0.mk (below_step (by repeat (first | (with_reducible first | exact HB.out | apply below_alloc | apply pw_below_drewN | apply below_drew1) | exact HB.out)) hb); clear HB; have HB := n0_; clear n0_; (try clear hb); (try clear hb2); (try clear hk); (try clear hi)))
                          go_ret
                          exact ⟨by first | rfl | (simp [errW_none, errW_some] <;> rfl) | (simp [*, errW_none, errW_some] <;> rfl), by repeat (first | (with_reducible first | exact HB.out | apply below_alloc | apply pw_below_drewN | apply below_drew1) | exact HB.out)⟩
                        · rw [if_neg c29] at H
                          exact absurd H (by simp)
                      · rw [if_neg c41] at H
                        have c42 : (Int.tmod (wrap64 (a0 - 7)) 8) = 4 := by have h1 := of_decide_eq_false c20b0; have h2 := of_decide_eq_true c28b0; omega
                        clear c40 c41
                        have e40 : wrap64 ((Int.tmod (wrap64 (a0 - 7)) 8) - 2) = 2 := by rw [c42]; unfold wrap64; omega
                        clear c42
                        by_cases c29 : 6 + ((((⟨#[32]⟩ : ByteArray) ++ t137) ++ (⟨#[32]⟩ : ByteArray)) ++ t138).size ≤ 9223372036854775807
                        · rw [if_pos c29] at H
                          have c29b0 := eq_true c29
                          have c29b1 : decide (6 + ((((⟨#[32]⟩ : ByteArray) ++ t137) ++ (⟨#[32]⟩ : ByteArray)) ++ t138).size ≤ 9223372036854775807) = true := decide_eq_true c29
                          try have c29b2 : (9223372036854775807 < 6 + ((((⟨#[32]⟩ : ByteArray) ++ t137) ++ (⟨#[32]⟩ : ByteArray)) ++ t138).size) = False := eq_false (Nat.not_lt.2 c29)
                          have q_ := c29
                          simp only [ByteArray.size_append, show (⟨#[101, 112, 111, 99, 104]⟩ : ByteArray).size = 5 from rfl, show (⟨#[103, 97, 117, 103, 101]⟩ : ByteArray).size = 5 from rfl, show (⟨#[105, 110, 32]⟩ : ByteArray).size = 3 from rfl, show (⟨#[107, 101, 121, 32]⟩ : ByteArray).size = 4 from rfl, show (⟨#[114, 105, 110, 103]⟩ : ByteArray).size = 4 from rfl, show (⟨#[115, 116, 114, 105, 112, 101]⟩ : ByteArray).size = 6 from rfl, show (⟨#[115, 116, 97, 109, 112]⟩ : ByteArray).size = 5 from rfl, show (⟨#[116, 105, 99, 107, 101, 116]⟩ : ByteArray).size = 6 from rfl, show (⟨#[32]⟩ : ByteArray).size = 1 from rfl] at q_
                          have c29b3 := eq_false (Nat.not_lt.2 q_)
                          clear q_
                          obtain rfl := Option.some.inj H
                          go_enter Tryd.func13, Tryd.ntmps13
                          go_wp2_with (first | ((with_reducible refine gate_callee (f := 35) rfl ?_); refine goesL_ (some 11) rfl rfl Tryd.func35 (by kernel_rfl) rfl #[.int .i64 a0, .int .i64 1, .int .i64 2] rfl (by (try simp only [List.map_toArray, List.map_cons, List.map_nil]); first | done | rfl | (simp only [List.length_drop, List.length_take]; rfl)) ?_; (with_reducible refine (impl_within.calls a0 1 2 false _ A3.out).mono ?_); rintro e w' ⟨rfl, ⟨nd, rfl⟩⟩; refine ⟨_, rfl, ?_⟩) | ((with_reducible refine gate_callee (f := 35) rfl ?_); refine goesL_ (some 18) rfl rfl Tryd.func35 (by kernel_rfl) rfl #[.int .i64 a0, .int .i64 3, .int .i64 6] rfl (by (try simp only [List.map_toArray, List.map_cons, List.map_nil]); first | done | rfl | (simp only [List.length_drop, List.length_take]; rfl)) ?_; (with_reducible refine (impl_within.calls a0 3 6 false _ A8.out).mono ?_); rintro e w' ⟨rfl, ⟨nd, rfl⟩⟩; refine ⟨_, rfl, ?_⟩) | ((with_reducible refine gate_callee (f := 35) rfl ?_); refine goesL_ (some 25) rfl rfl Tryd.func35 (by kernel_rfl) rfl #[.int .i64 a0, .int .i64 7, .int .i64 70] rfl (by (try simp only [List.map_toArray, List.map_cons, List.map_nil]); first | done | rfl | (simp only [List.length_drop, List.length_take]; rfl)) ?_; (with_reducible refine (impl_within.calls a0 7 70 true _ A13.out).mono ?_); rintro e w' ⟨rfl, ⟨nd, rfl⟩⟩; refine ⟨_, rfl, ?_⟩) | ((with_reducible refine gate_callee (f := 9) rfl ?_); refine goesL_ (some 31) rfl rfl Tryd.func9 (by kernel_rfl) rfl #[.int .i64 (wrap64 (Int.tdiv (wrap64 (a0 - 7)) 32))] rfl (by (try simp only [List.map_toArray, List.map_cons, List.map_nil]); first | done | rfl | (simp only [List.length_drop, List.length_take]; rfl)) ?_; (with_reducible refine (impl_Dec.calls k (wrap64 (Int.tdiv (wrap64 (a0 - 7)) 32)) t137 _ A15.out).mono ?_); rintro e w30 ⟨rfl, hb⟩; refine ⟨_, rfl, ?_⟩; have n0_ := Aside0.mk (below_step (by repeat (first | (with_reducible first | exact HB.out | apply below_alloc | apply pw_below_drewN | apply below_drew1) | exact HB.out)) hb); clear HB; have HB := n0_; clear n0_; (try clear hb); (try clear hb2); (try clear hk); (try clear hi)) | ((with_reducible refine gate_callee (f := 9) rfl ?_); refine goesL_ (some 37) rfl rfl Tryd.func9 (by kernel_rfl) rfl #[.int .i64 (wrap64 (Int.tdiv (Int.tmod (wrap64 (a0 - 7)) 32) 8))] rfl (by (try simp only [List.map_toArray, List.map_cons, List.map_nil]); first | done | rfl | (simp only [List.length_drop, List.length_take]; rfl)) ?_; (with_reducible refine (impl_Dec.calls k (wrap64 (Int.tdiv (Int.tmod (wrap64 (a0 - 7)) 32) 8)) t138 _ A18.out).mono ?_); rintro e w31 ⟨rfl, hb⟩; refine ⟨_, rfl, ?_⟩; have n0_ := Aside0.mk (below_step (by repeat (first | (with_reducible first | exact HB.out | apply below_alloc | apply pw_below_drewN | apply below_drew1) | exact HB.out)) hb); clear HB; have HB := n0_; clear n0_; (try clear hb); (try clear hb2); (try clear hk); (try clear hi)))
                          go_ret
                          exact ⟨by first | rfl | (simp [errW_none, errW_some] <;> rfl) | (simp [*, errW_none, errW_some] <;> rfl), by repeat (first | (with_reducible first | exact HB.out | apply below_alloc | apply pw_below_drewN | apply below_drew1) | exact HB.out)⟩
                        · rw [if_neg c29] at H
                          exact absurd H (by simp)
                  · rw [if_neg c28] at H
                    have c28b0 : decide ((Int.tmod (wrap64 (a0 - 7)) 8) < 5) = false := decide_eq_false c28
                    clear c28
                    by_cases c32 : 4 + ((((⟨#[32]⟩ : ByteArray) ++ t137) ++ (⟨#[32]⟩ : ByteArray)) ++ t138).size ≤ 9223372036854775807
                    · rw [if_pos c32] at H
                      have c32b0 := eq_true c32
                      have c32b1 : decide (4 + ((((⟨#[32]⟩ : ByteArray) ++ t137) ++ (⟨#[32]⟩ : ByteArray)) ++ t138).size ≤ 9223372036854775807) = true := decide_eq_true c32
                      try have c32b2 : (9223372036854775807 < 4 + ((((⟨#[32]⟩ : ByteArray) ++ t137) ++ (⟨#[32]⟩ : ByteArray)) ++ t138).size) = False := eq_false (Nat.not_lt.2 c32)
                      have q_ := c32
                      simp only [ByteArray.size_append, show (⟨#[101, 112, 111, 99, 104]⟩ : ByteArray).size = 5 from rfl, show (⟨#[103, 97, 117, 103, 101]⟩ : ByteArray).size = 5 from rfl, show (⟨#[105, 110, 32]⟩ : ByteArray).size = 3 from rfl, show (⟨#[107, 101, 121, 32]⟩ : ByteArray).size = 4 from rfl, show (⟨#[114, 105, 110, 103]⟩ : ByteArray).size = 4 from rfl, show (⟨#[115, 116, 114, 105, 112, 101]⟩ : ByteArray).size = 6 from rfl, show (⟨#[115, 116, 97, 109, 112]⟩ : ByteArray).size = 5 from rfl, show (⟨#[116, 105, 99, 107, 101, 116]⟩ : ByteArray).size = 6 from rfl, show (⟨#[32]⟩ : ByteArray).size = 1 from rfl] at q_
                      have c32b3 := eq_false (Nat.not_lt.2 q_)
                      clear q_
                      by_cases c33 : ((⟨#[114, 105, 110, 103]⟩ : ByteArray) ++ ((((⟨#[32]⟩ : ByteArray) ++ t137) ++ (⟨#[32]⟩ : ByteArray)) ++ t138)).size + 1 ≤ 9223372036854775807
                      · rw [if_pos c33] at H
                        have c33b0 := eq_true c33
                        have c33b1 : decide (((⟨#[114, 105, 110, 103]⟩ : ByteArray) ++ ((((⟨#[32]⟩ : ByteArray) ++ t137) ++ (⟨#[32]⟩ : ByteArray)) ++ t138)).size + 1 ≤ 9223372036854775807) = true := decide_eq_true c33
                        try have c33b2 : (9223372036854775807 < ((⟨#[114, 105, 110, 103]⟩ : ByteArray) ++ ((((⟨#[32]⟩ : ByteArray) ++ t137) ++ (⟨#[32]⟩ : ByteArray)) ++ t138)).size + 1) = False := eq_false (Nat.not_lt.2 c33)
                        have q_ := c33
                        simp only [ByteArray.size_append, show (⟨#[101, 112, 111, 99, 104]⟩ : ByteArray).size = 5 from rfl, show (⟨#[103, 97, 117, 103, 101]⟩ : ByteArray).size = 5 from rfl, show (⟨#[105, 110, 32]⟩ : ByteArray).size = 3 from rfl, show (⟨#[107, 101, 121, 32]⟩ : ByteArray).size = 4 from rfl, show (⟨#[114, 105, 110, 103]⟩ : ByteArray).size = 4 from rfl, show (⟨#[115, 116, 114, 105, 112, 101]⟩ : ByteArray).size = 6 from rfl, show (⟨#[115, 116, 97, 109, 112]⟩ : ByteArray).size = 5 from rfl, show (⟨#[116, 105, 99, 107, 101, 116]⟩ : ByteArray).size = 6 from rfl, show (⟨#[32]⟩ : ByteArray).size = 1 from rfl] at q_
                        have c33b3 := eq_false (Nat.not_lt.2 q_)
                        clear q_
                        replace H := Option.bind_eq_some_iff.mp H
                        obtain ⟨t140, A340, H⟩ := H
                        replace H : (if (((⟨#[114, 105, 110, 103]⟩ : ByteArray) ++ ((((⟨#[32]⟩ : ByteArray) ++ t137) ++ (⟨#[32]⟩ : ByteArray)) ++ t138)) ++ (⟨#[32]⟩ : ByteArray)).size + t140.size ≤ 9223372036854775807 then (some ((((⟨#[114, 105, 110, 103]⟩ : ByteArray) ++ ((((⟨#[32]⟩ : ByteArray) ++ t137) ++ (⟨#[32]⟩ : ByteArray)) ++ t138)) ++ (⟨#[32]⟩ : ByteArray)) ++ t140)) else (none)) = some r := H
                        have A34 := Aside0.mk A340
                        clear A340
                        by_cases c35 : (((⟨#[114, 105, 110, 103]⟩ : ByteArray) ++ ((((⟨#[32]⟩ : ByteArray) ++ t137) ++ (⟨#[32]⟩ : ByteArray)) ++ t138)) ++ (⟨#[32]⟩ : ByteArray)).size + t140.size ≤ 9223372036854775807
                        · rw [if_pos c35] at H
                          have c35b0 := eq_true c35
                          have c35b1 : decide ((((⟨#[114, 105, 110, 103]⟩ : ByteArray) ++ ((((⟨#[32]⟩ : ByteArray) ++ t137) ++ (⟨#[32]⟩ : ByteArray)) ++ t138)) ++ (⟨#[32]⟩ : ByteArray)).size + t140.size ≤ 9223372036854775807) = true := decide_eq_true c35
                          try have c35b2 : (9223372036854775807 < (((⟨#[114, 105, 110, 103]⟩ : ByteArray) ++ ((((⟨#[32]⟩ : ByteArray) ++ t137) ++ (⟨#[32]⟩ : ByteArray)) ++ t138)) ++ (⟨#[32]⟩ : ByteArray)).size + t140.size) = False := eq_false (Nat.not_lt.2 c35)
                          have q_ := c35
                          simp only [ByteArray.size_append, show (⟨#[101, 112, 111, 99, 104]⟩ : ByteArray).size = 5 from rfl, show (⟨#[103, 97, 117, 103, 101]⟩ : ByteArray).size = 5 from rfl, show (⟨#[105, 110, 32]⟩ : ByteArray).size = 3 from rfl, show (⟨#[107, 101, 121, 32]⟩ : ByteArray).size = 4 from rfl, show (⟨#[114, 105, 110, 103]⟩ : ByteArray).size = 4 from rfl, show (⟨#[115, 116, 114, 105, 112, 101]⟩ : ByteArray).size = 6 from rfl, show (⟨#[115, 116, 97, 109, 112]⟩ : ByteArray).size = 5 from rfl, show (⟨#[116, 105, 99, 107, 101, 116]⟩ : ByteArray).size = 6 from rfl, show (⟨#[32]⟩ : ByteArray).size = 1 from rfl] at q_
                          have c35b3 := eq_false (Nat.not_lt.2 q_)
                          clear q_
                          obtain rfl := Option.some.inj H
                          go_enter Tryd.func13, Tryd.ntmps13
                          go_wp2_with (first | ((with_reducible refine gate_callee (f := 35) rfl ?_); refine goesL_ (some 11) rfl rfl Tryd.func35 (by kernel_rfl) rfl #[.int .i64 a0, .int .i64 1, .int .i64 2] rfl (by (try simp only [List.map_toArray, List.map_cons, List.map_nil]); first | done | rfl | (simp only [List.length_drop, List.length_take]; rfl)) ?_; (with_reducible refine (impl_within.calls a0 1 2 false _ A3.out).mono ?_); rintro e w' ⟨rfl, ⟨nd, rfl⟩⟩; refine ⟨_, rfl, ?_⟩) | ((with_reducible refine gate_callee (f := 35) rfl ?_); refine goesL_ (some 18) rfl rfl Tryd.func35 (by kernel_rfl) rfl #[.int .i64 a0, .int .i64 3, .int .i64 6] rfl (by (try simp only [List.map_toArray, List.map_cons, List.map_nil]); first | done | rfl | (simp only [List.length_drop, List.length_take]; rfl)) ?_; (with_reducible refine (impl_within.calls a0 3 6 false _ A8.out).mono ?_); rintro e w' ⟨rfl, ⟨nd, rfl⟩⟩; refine ⟨_, rfl, ?_⟩) | ((with_reducible refine gate_callee (f := 35) rfl ?_); refine goesL_ (some 25) rfl rfl Tryd.func35 (by kernel_rfl) rfl #[.int .i64 a0, .int .i64 7, .int .i64 70] rfl (by (try simp only [List.map_toArray, List.map_cons, List.map_nil]); first | done | rfl | (simp only [List.length_drop, List.length_take]; rfl)) ?_; (with_reducible refine (impl_within.calls a0 7 70 true _ A13.out).mono ?_); rintro e w' ⟨rfl, ⟨nd, rfl⟩⟩; refine ⟨_, rfl, ?_⟩) | ((with_reducible refine gate_callee (f := 9) rfl ?_); refine goesL_ (some 31) rfl rfl Tryd.func9 (by kernel_rfl) rfl #[.int .i64 (wrap64 (Int.tdiv (wrap64 (a0 - 7)) 32))] rfl (by (try simp only [List.map_toArray, List.map_cons, List.map_nil]); first | done | rfl | (simp only [List.length_drop, List.length_take]; rfl)) ?_; (with_reducible refine (impl_Dec.calls k (wrap64 (Int.tdiv (wrap64 (a0 - 7)) 32)) t137 _ A15.out).mono ?_); rintro e w36 ⟨rfl, hb⟩; refine ⟨_, rfl, ?_⟩; have n0_ := Aside0.mk (below_step (by repeat (first | (with_reducible first | exact HB.out | apply below_alloc | apply pw_below_drewN | apply below_drew1) | exact HB.out)) hb); clear HB; have HB := n0_; clear n0_; (try clear hb); (try clear hb2); (try clear hk); (try clear hi)) | ((with_reducible refine gate_callee (f := 9) rfl ?_); refine goesL_ (some 37) rfl rfl Tryd.func9 (by kernel_rfl) rfl #[.int .i64 (wrap64 (Int.tdiv (Int.tmod (wrap64 (a0 - 7)) 32) 8))] rfl (by (try simp only [List.map_toArray, List.map_cons, List.map_nil]); first | done | rfl | (simp only [List.length_drop, List.length_take]; rfl)) ?_; (with_reducible refine (impl_Dec.calls k (wrap64 (Int.tdiv (Int.tmod (wrap64 (a0 - 7)) 32) 8)) t138 _ A18.out).mono ?_); rintro e w37 ⟨rfl, hb⟩; refine ⟨_, rfl, ?_⟩; have n0_ := Aside0.mk (below_step (by repeat (first | (with_reducible first | exact HB.out | apply below_alloc | apply pw_below_drewN | apply below_drew1) | exact HB.out)) hb); clear HB; have HB := n0_; clear n0_; (try clear hb); (try clear hb2); (try clear hk); (try clear hi)) | ((with_reducible refine gate_callee (f := 9) rfl ?_); refine goesL_ (some 47) rfl rfl Tryd.func9 (by kernel_rfl) rfl #[.int .i64 (wrap64 ((wrap64 ((Int.tmod (wrap64 (a0 - 7)) 8) - 2)) - 3))] rfl (by (try simp only [List.map_toArray, List.map_cons, List.map_nil]); first | done | rfl | (simp only [List.length_drop, List.length_take]; rfl)) ?_; (with_reducible refine (impl_Dec.calls k (wrap64 ((wrap64 ((Int.tmod (wrap64 (a0 - 7)) 8) - 2)) - 3)) t140 _ A34.out).mono ?_); rintro e w38 ⟨rfl, hb⟩; refine ⟨_, rfl, ?_⟩; have n0_ := Aside0.mk (below_step (by repeat (first | (with_reducible first | exact HB.out | apply below_alloc | apply pw_below_drewN | apply below_drew1) | exact HB.out)) hb); clear HB; have HB := n0_; clear n0_; (try clear hb); (try clear hb2); (try clear hk); (try clear hi)))
                          go_ret
                          exact ⟨by first | rfl | (simp [errW_none, errW_some] <;> rfl) | (simp [*, errW_none, errW_some] <;> rfl), by repeat (first | (with_reducible first | exact HB.out | apply below_alloc | apply pw_below_drewN | apply below_drew1) | exact HB.out)⟩
                        · rw [if_neg c35] at H
                          exact absurd H (by simp)
                      · rw [if_neg c33] at H
                        exact absurd H (by simp)
                    · rw [if_neg c32] at H
                      exact absurd H (by simp)
              · rw [if_neg c19] at H
                exact absurd H (by simp)
            · rw [if_neg c17] at H
              exact absurd H (by simp)
          · rw [if_neg c16] at H
            exact absurd H (by simp)
        · replace c14 := Bool.eq_false_iff.mpr c14
          subst c14
          have H1 : (some (⟨#[]⟩ : ByteArray)) = some r := by rw [if_neg (show ¬ (false = true) by decide)] at H; exact H
          clear H
          have H := H1
          clear H1
          obtain rfl := Option.some.inj H
          go_enter Tryd.func13, Tryd.ntmps13
          go_wp2_with (first | ((with_reducible refine gate_callee (f := 35) rfl ?_); refine goesL_ (some 11) rfl rfl Tryd.func35 (by kernel_rfl) rfl #[.int .i64 a0, .int .i64 1, .int .i64 2] rfl (by (try simp only [List.map_toArray, List.map_cons, List.map_nil]); first | done | rfl | (simp only [List.length_drop, List.length_take]; rfl)) ?_; (with_reducible refine (impl_within.calls a0 1 2 false _ A3.out).mono ?_); rintro e w' ⟨rfl, ⟨nd, rfl⟩⟩; refine ⟨_, rfl, ?_⟩) | ((with_reducible refine gate_callee (f := 35) rfl ?_); refine goesL_ (some 18) rfl rfl Tryd.func35 (by kernel_rfl) rfl #[.int .i64 a0, .int .i64 3, .int .i64 6] rfl (by (try simp only [List.map_toArray, List.map_cons, List.map_nil]); first | done | rfl | (simp only [List.length_drop, List.length_take]; rfl)) ?_; (with_reducible refine (impl_within.calls a0 3 6 false _ A8.out).mono ?_); rintro e w' ⟨rfl, ⟨nd, rfl⟩⟩; refine ⟨_, rfl, ?_⟩) | ((with_reducible refine gate_callee (f := 35) rfl ?_); refine goesL_ (some 25) rfl rfl Tryd.func35 (by kernel_rfl) rfl #[.int .i64 a0, .int .i64 7, .int .i64 70] rfl (by (try simp only [List.map_toArray, List.map_cons, List.map_nil]); first | done | rfl | (simp only [List.length_drop, List.length_take]; rfl)) ?_; (with_reducible refine (impl_within.calls a0 7 70 false _ A13.out).mono ?_); rintro e w' ⟨rfl, ⟨nd, rfl⟩⟩; refine ⟨_, rfl, ?_⟩))
          go_ret
          exact ⟨by first | rfl | (simp [errW_none, errW_some] <;> rfl) | (simp [*, errW_none, errW_some] <;> rfl), by repeat (first | (with_reducible first | exact HB.out | apply below_alloc | apply pw_below_drewN | apply below_drew1) | exact HB.out)⟩

/-! ### laws_big: function 14 -/
def laws_big.f (l0 : List Int) : Option (Bool) := some (decide ((l0.length : Int) > 1048576))
set_option maxHeartbeats 8000000 in
set_option maxRecDepth 100000 in
theorem laws_big.calls (A0 : Option Addr) (c0 : Nat) (l0 : List Int) (r : Bool) (w : World) (hr0 : Kd.C (Kd.int .u8) w A0 l0.length l0) (hc0 : l0.length ≤ c0) (h : laws_big.f l0 = some r) :
    Calls Tryd.prog 14 #[.slice A0 l0.length c0] w fun e w' => e = .returned (.bool r) ∧ Drawn0 w w' := by
  have HR0 := Aside0.mk hr0
  have HC0 := Aside0.mk hc0
  clear hr0 hc0
  have H : (some (decide ((l0.length : Int) > 1048576))) = some r := h
  clear h
  obtain rfl := Option.some.inj H
  go_enter Tryd.func14, Tryd.ntmps14
  go_wp2
  go_ret
  exact ⟨by first | rfl | (simp; done) | (simp [*]; done), by repeat (first | exact Drawn0.refl _ | apply Drawn0.step)⟩

end Go.Proofs.YtemefkkbeaaeoaaDoor.PFnLayout
