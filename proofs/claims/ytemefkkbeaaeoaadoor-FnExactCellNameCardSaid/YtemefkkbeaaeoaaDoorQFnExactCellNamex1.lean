/- What is proved here: contracts of the Go functions that the law FnExactCellName reaches, for its row; no condition. The draft was printed; this text is not the print. -/
import Derived.Test.YtemefkkbeaaeoaaDoorQFnExactCellNamex0
namespace Go.Proofs.YtemefkkbeaaeoaaDoor.PFnExactCellName
open Go.RowKit Go.Proofs.YtemefkkbeaaeoaaDoorW.PrintWords Go.Proofs.YtemefkkbeaaeoaaDoorW.PrintLast Go.Proofs.YtemefkkbeaaeoaaDoorW.PrintMore
attribute [local go_sem] max2_int min2_int max_two min_two max_three min_three max_four min_four   -- for this text's walks alone
set_option linter.unusedVariables false
set_option linter.unusedSimpArgs false

/-! ### spec_Dec: function 8 -/
def spec_Dec.l0 : Nat → Int → ByteArray → Bool → Option (ByteArray)
  | 0, _, _, _ => none
  | k + 1, x0, x3, x4 => if x0 = 0 then (if x4 = true then (if 1 + x3.size ≤ 9223372036854775807 then (some ((⟨#[45]⟩ : ByteArray) ++ x3)) else (none)) else (some x3)) else (if (Int.tmod x0 10) < 0 then ((some (([(wrap64 (48 + (wrap64 (-(Int.tmod x0 10))))) % 256] : List Int) : List Int)).bind fun y101 => (if (strOfNums y101).size + x3.size ≤ 9223372036854775807 then (spec_Dec.l0 k (wrap64 (Int.tdiv x0 10)) ((strOfNums y101) ++ x3) x4) else (none))) else ((some (([(wrap64 (48 + (Int.tmod x0 10))) % 256] : List Int) : List Int)).bind fun y104 => (if (strOfNums y104).size + x3.size ≤ 9223372036854775807 then (spec_Dec.l0 k (wrap64 (Int.tdiv x0 10)) ((strOfNums y104) ++ x3) x4) else (none))))
def spec_Dec.f (k : Nat) (a0 : Int) : Option (ByteArray) := if a0 = 0 then (some (⟨#[48]⟩ : ByteArray)) else (spec_Dec.l0 k a0 (⟨#[]⟩ : ByteArray) (decide (a0 < 0)))
theorem spec_Dec.mono_l : ∀ k, (∀ y0 y1 y2, LeO (spec_Dec.l0 k y0 y1 y2) (spec_Dec.l0 (k + 1) y0 y1 y2))
  | 0 => fun _ _ _ r h => by simp [spec_Dec.l0] at h
  | k + 1 => by
    have ih0 := spec_Dec.mono_l k
    · intro y0 y1 y2
      unfold spec_Dec.l0
      repeat' first
      | (with_reducible exact ih0 _ _ _)
      | (with_reducible exact LeO.refl _)
      | (with_reducible exact LeO.none _)
      | (with_reducible refine LeO.ite ?_ ?_)
      | (with_reducible refine LeO.bind ?_ (fun _ => ?_))
      | exact ih0 _ _ _
      | exact LeO.none _
      | refine LeO.ite ?_ ?_
      | refine LeO.bind ?_ (fun _ => ?_)
theorem spec_Dec.mono : ∀ a0 k, LeO (spec_Dec.f k a0) (spec_Dec.f (k + 1) a0) := by
  intro a0 k
  have ih0 := spec_Dec.mono_l k
  unfold spec_Dec.f
  repeat' first
      | (with_reducible exact ih0 _ _ _)
      | (with_reducible exact LeO.refl _)
      | (with_reducible exact LeO.none _)
      | (with_reducible refine LeO.ite ?_ ?_)
      | (with_reducible refine LeO.bind ?_ (fun _ => ?_))
      | exact ih0 _ _ _
      | exact LeO.none _
      | refine LeO.ite ?_ ?_
      | refine LeO.bind ?_ (fun _ => ?_)
set_option maxHeartbeats 8000000 in
set_option maxRecDepth 100000 in
theorem spec_Dec.calls (k : Nat) (a0 : Int) (r : ByteArray) (w : World) (h : spec_Dec.f k a0 = some r) :
    Calls Tryd.prog 8 #[.int .i64 a0] w fun e w' => e = .returned (.string r) ∧ Below w.heap.size w w' := by
  have HB := Aside0.mk (Below.refl w.heap.size w)
  have H : (if a0 = 0 then (some (⟨#[48]⟩ : ByteArray)) else (spec_Dec.l0 k a0 (⟨#[]⟩ : ByteArray) (decide (a0 < 0)))) = some r := h
  clear h
  by_cases c2 : a0 = 0
  · rw [if_pos c2] at H
    have c2b0 : (a0 == 0) = true := beq_iff_eq.mpr c2
    have c2b1 : (a0 != 0) = false := bne_eq_false_iff_eq.mpr c2
    clear c2
    obtain rfl := Option.some.inj H
    go_enter Tryd.func8, Tryd.ntmps8
    go_wp2
    go_ret
    exact ⟨by first | rfl | (simp [errW_none, errW_some] <;> rfl) | (simp [*, errW_none, errW_some] <;> rfl), by repeat (first | (with_reducible first | exact HB.out | apply below_alloc | apply pw_below_drewN | apply below_drew1) | exact HB.out)⟩
  · rw [if_neg c2] at H
    have c2b0 : (a0 == 0) = false := beq_eq_false_iff_ne.mpr c2
    have c2b1 : (a0 != 0) = true := bne_iff_ne.mpr c2
    have H' := Aside0.mk H
    clear H
    go_enter Tryd.func8, Tryd.ntmps8
    go_wp2
    go_loopg [0, 3] k (fun kq v0 v3 w' => ∃ (x0_1 : Int) (x3_1 : ByteArray), v0 = .int .i64 x0_1 ∧ v3 = .string x3_1 ∧ Aside0 (spec_Dec.l0 kq x0_1 x3_1 (decide (a0 < 0)) = some r) ∧ Aside0 (kq ≤ k) ∧ Aside0 (Below w.heap.size w w'))
    case atStart => exact ⟨(a0), ((⟨#[]⟩ : ByteArray)), (by first | rfl | (simp; done) | (simp [*]; done)), (by first | rfl | (simp; done) | (simp [*]; done)), H', ⟨Nat.le_refl _⟩, ⟨by repeat (first | (with_reducible first | exact HB.out | apply below_alloc | apply pw_below_drewN | apply below_drew1) | exact HB.out)⟩⟩
    case round =>
      clear H'
      try clear c2
      try clear c2b0
      try clear c2b1
      try clear p2
      obtain ⟨x0_1, x3_1, rfl, rfl, HA, HK1, HB⟩ := hrel
      cases gk with
      | zero => exact absurd HA.out (by simp [spec_Dec.l0])
      | succ k1 =>
        have H := HA.out
        clear HA
        simp only [spec_Dec.l0] at H
        by_cases c3 : x0_1 = 0
        · rw [if_pos c3] at H
          have c3b0 : (x0_1 == 0) = true := beq_iff_eq.mpr c3
          have c3b1 : (x0_1 != 0) = false := bne_eq_false_iff_eq.mpr c3
          clear c3
          by_cases c4 : (decide (a0 < 0)) = true
          · rw [if_pos c4] at H
            have c4b0 : (decide (a0 < 0)) = true := c4
            clear c4
            by_cases c5 : 1 + x3_1.size ≤ 9223372036854775807
            · rw [if_pos c5] at H
              have c5b0 := eq_true c5
              have c5b1 : decide (1 + x3_1.size ≤ 9223372036854775807) = true := decide_eq_true c5
              try have c5b2 : (9223372036854775807 < 1 + x3_1.size) = False := eq_false (Nat.not_lt.2 c5)
              obtain rfl := Option.some.inj H
              go_wp2
              all_goals first
                | (exfalso; have hs_ := of_decide_eq_true c4b0; omega)
                | (go_ret; exact ⟨by first | rfl | (simp [errW_none, errW_some] <;> rfl) | (simp [*, errW_none, errW_some] <;> rfl), by repeat (first | (with_reducible first | exact HB.out | apply below_alloc | apply pw_below_drewN | apply below_drew1) | exact HB.out)⟩)
            · rw [if_neg c5] at H
              exact absurd H (by simp)
          · rw [if_neg c4] at H
            have c4b0 : (decide (a0 < 0)) = false := by simpa using c4
            clear c4
            obtain rfl := Option.some.inj H
            go_wp2
            all_goals first
              | (exfalso; have hs_ := of_decide_eq_false c4b0; omega)
              | (go_ret; exact ⟨by first | rfl | (simp [errW_none, errW_some] <;> rfl) | (simp [*, errW_none, errW_some] <;> rfl), by repeat (first | (with_reducible first | exact HB.out | apply below_alloc | apply pw_below_drewN | apply below_drew1) | exact HB.out)⟩)
        · rw [if_neg c3] at H
          have c3b0 : (x0_1 == 0) = false := beq_eq_false_iff_ne.mpr c3
          have c3b1 : (x0_1 != 0) = true := bne_iff_ne.mpr c3
          by_cases c6 : (Int.tmod x0_1 10) < 0
          · rw [if_pos c6] at H
            have c6b0 : decide ((Int.tmod x0_1 10) < 0) = true := decide_eq_true c6
            clear c6
            obtain ⟨y101, hy101⟩ : ∃ y_ : List Int, y_ = (([(wrap64 (48 + (wrap64 (-(Int.tmod x0_1 10))))) % 256] : List Int)) := ⟨_, rfl⟩
            replace H : (if (strOfNums y101).size + x3_1.size ≤ 9223372036854775807 then (spec_Dec.l0 k1 (wrap64 (Int.tdiv x0_1 10)) ((strOfNums y101) ++ x3_1) (decide (a0 < 0))) else (none)) = some r := by first | (rw [hy101]; with_reducible exact H) | (have H2_ := (Option.bind_some _ _).symm.trans H; rw [hy101]; with_reducible exact H2_) | (have H2_ := (Option.bind_some _ _).symm.trans H; with_reducible exact H2_) | with_reducible exact H | (rw [hy101]; exact H) | exact H
            have Ny101 := Aside0.mk hy101
            clear hy101
            by_cases c7 : (strOfNums y101).size + x3_1.size ≤ 9223372036854775807
            · rw [if_pos c7] at H
              have c7b0 := eq_true c7
              have c7b1 : decide ((strOfNums y101).size + x3_1.size ≤ 9223372036854775807) = true := decide_eq_true c7
              try have c7b2 : (9223372036854775807 < (strOfNums y101).size + x3_1.size) = False := eq_false (Nat.not_lt.2 c7)
              have H' := Aside0.mk H
              clear H
              go_wp2_with (first | ((with_reducible refine gate_dst (N := 21) rfl ?_); refine Kd.R_lit (Kd.int .u8) _ 5 ?hg (N := 21) ?hd (xs := ([(wrap64 (48 + (wrap64 (-(Int.tmod x0_1 10))))) % 256] : List Int)) (inner := [.int .u8 ((wrap64 (48 + (wrap64 (-(Int.tmod x0_1 10))))) % 256)]) (ok := fun _ => True) (okp := fun _ => True) ?hr ?hp (fun _ hk => hk) trivial (Below.refl _ _) (Nat.le_refl _) (by simp) ?_; (case hd => rfl); (case hg => rfl); (case hr => first | (go_simp; done) | (go_simp; rfl)); (case hp => exact (Reps.one (show Kd.M (Kd.int .u8) _ _ _ ((wrap64 (48 + (wrap64 (-(Int.tmod x0_1 10))))) % 256) [.int .u8 ((wrap64 (48 + (wrap64 (-(Int.tmod x0_1 10))))) % 256)] from rfl) (Reps.none _ _))); intro v102 w8 ho9 hb hg_ hnew_; clear hg_ hnew_; (first | rw [← Ny101.out] at ho9 | (simp only [Int.reduceToNat] at ho9; rw [← Ny101.out] at ho9)); have n0_ := Aside0.mk (Kd.R_lower ho9 (below_size (by repeat (first | (with_reducible first | exact HB.out | apply below_alloc | apply pw_below_drewN | apply below_drew1) | exact HB.out)))); have n1_ := Aside0.mk (below_step (by repeat (first | (with_reducible first | exact HB.out | apply below_alloc | apply pw_below_drewN | apply below_drew1) | exact HB.out)) hb); clear HB; have HO103 := n0_; have HB := n1_; clear n0_ n1_; clear hb ho9; have hcv10 := own_string (P := Tryd.prog) Tryd.underlying27 Tryd.underlying5 Tryd.underlying9 (Kd.own_of_R HO103.out)))
              go_roundg k1
              case measure => have := HK1.out; omega
              case rel => exact ⟨(wrap64 (Int.tdiv x0_1 10)), ((strOfNums y101) ++ x3_1), (by first | rfl | (simp; done) | (simp [*]; done)), (by first | rfl | (simp; done) | (simp [*]; done)), H', ⟨by have := HK1.out; omega⟩, ⟨by repeat (first | (with_reducible first | exact HB.out | apply below_alloc | apply pw_below_drewN | apply below_drew1) | exact HB.out)⟩⟩
            · rw [if_neg c7] at H
              exact absurd H (by simp)
          · rw [if_neg c6] at H
            have c6b0 : decide ((Int.tmod x0_1 10) < 0) = false := decide_eq_false c6
            clear c6
            obtain ⟨y104, hy104⟩ : ∃ y_ : List Int, y_ = (([(wrap64 (48 + (Int.tmod x0_1 10))) % 256] : List Int)) := ⟨_, rfl⟩
            replace H : (if (strOfNums y104).size + x3_1.size ≤ 9223372036854775807 then (spec_Dec.l0 k1 (wrap64 (Int.tdiv x0_1 10)) ((strOfNums y104) ++ x3_1) (decide (a0 < 0))) else (none)) = some r := by first | (rw [hy104]; with_reducible exact H) | (have H2_ := (Option.bind_some _ _).symm.trans H; rw [hy104]; with_reducible exact H2_) | (have H2_ := (Option.bind_some _ _).symm.trans H; with_reducible exact H2_) | with_reducible exact H | (rw [hy104]; exact H) | exact H
            have Ny104 := Aside0.mk hy104
            clear hy104
            by_cases c11 : (strOfNums y104).size + x3_1.size ≤ 9223372036854775807
            · rw [if_pos c11] at H
              have c11b0 := eq_true c11
              have c11b1 : decide ((strOfNums y104).size + x3_1.size ≤ 9223372036854775807) = true := decide_eq_true c11
              try have c11b2 : (9223372036854775807 < (strOfNums y104).size + x3_1.size) = False := eq_false (Nat.not_lt.2 c11)
              have H' := Aside0.mk H
              clear H
              go_wp2_with (first | ((with_reducible refine gate_dst (N := 21) rfl ?_); refine Kd.R_lit (Kd.int .u8) _ 5 ?hg (N := 21) ?hd (xs := ([(wrap64 (48 + (Int.tmod x0_1 10))) % 256] : List Int)) (inner := [.int .u8 ((wrap64 (48 + (Int.tmod x0_1 10))) % 256)]) (ok := fun _ => True) (okp := fun _ => True) ?hr ?hp (fun _ hk => hk) trivial (Below.refl _ _) (Nat.le_refl _) (by simp) ?_; (case hd => rfl); (case hg => rfl); (case hr => first | (go_simp; done) | (go_simp; rfl)); (case hp => exact (Reps.one (show Kd.M (Kd.int .u8) _ _ _ ((wrap64 (48 + (Int.tmod x0_1 10))) % 256) [.int .u8 ((wrap64 (48 + (Int.tmod x0_1 10))) % 256)] from rfl) (Reps.none _ _))); intro v105 w12 ho13 hb hg_ hnew_; clear hg_ hnew_; (first | rw [← Ny104.out] at ho13 | (simp only [Int.reduceToNat] at ho13; rw [← Ny104.out] at ho13)); have n0_ := Aside0.mk (Kd.R_lower ho13 (below_size (by repeat (first | (with_reducible first | exact HB.out | apply below_alloc | apply pw_below_drewN | apply below_drew1) | exact HB.out)))); have n1_ := Aside0.mk (below_step (by repeat (first | (with_reducible first | exact HB.out | apply below_alloc | apply pw_below_drewN | apply below_drew1) | exact HB.out)) hb); clear HB; have HO106 := n0_; have HB := n1_; clear n0_ n1_; clear hb ho13; have hcv14 := own_string (P := Tryd.prog) Tryd.underlying27 Tryd.underlying5 Tryd.underlying9 (Kd.own_of_R HO106.out)))
              go_roundg k1
              case measure => have := HK1.out; omega
              case rel => exact ⟨(wrap64 (Int.tdiv x0_1 10)), ((strOfNums y104) ++ x3_1), (by first | rfl | (simp; done) | (simp [*]; done)), (by first | rfl | (simp; done) | (simp [*]; done)), H', ⟨by have := HK1.out; omega⟩, ⟨by repeat (first | (with_reducible first | exact HB.out | apply below_alloc | apply pw_below_drewN | apply below_drew1) | exact HB.out)⟩⟩
            · rw [if_neg c11] at H
              exact absurd H (by simp)

/-! ### spec_l1In: function 36 -/
def spec_l1In.f (a0 : Int) (a1 : Int) (a2 : Int) : Option (Bool) := if a0 ≥ a1 then (some (decide (a0 ≤ a2))) else (some false)
set_option maxHeartbeats 8000000 in
set_option maxRecDepth 100000 in
theorem spec_l1In.calls (a0 : Int) (a1 : Int) (a2 : Int) (r : Bool) (w : World) (h : spec_l1In.f a0 a1 a2 = some r) :
    Calls Tryd.prog 36 #[.int .i64 a0, .int .i64 a1, .int .i64 a2] w fun e w' => e = .returned (.bool r) ∧ Drawn0 w w' := by
  have H : (if a0 ≥ a1 then (some (decide (a0 ≤ a2))) else (some false)) = some r := h
  clear h
  by_cases c4 : a0 ≥ a1
  · rw [if_pos c4] at H
    have c4b0 : decide (a1 ≤ a0) = true := decide_eq_true c4
    clear c4
    obtain rfl := Option.some.inj H
    go_enter Tryd.func36, Tryd.ntmps36
    go_wp2
    go_ret
    exact ⟨by first | rfl | (simp; done) | (simp [*]; done), by repeat (first | exact Drawn0.refl _ | apply Drawn0.step)⟩
  · rw [if_neg c4] at H
    have c4b0 : decide (a1 ≤ a0) = false := decide_eq_false c4
    clear c4
    obtain rfl := Option.some.inj H
    go_enter Tryd.func36, Tryd.ntmps36
    go_wp2
    go_ret
    exact ⟨by first | rfl | (simp; done) | (simp [*]; done), by repeat (first | exact Drawn0.refl _ | apply Drawn0.step)⟩

/-! ### spec_CellName: function 12 -/
def spec_CellName.f (k : Nat) (a0 : Int) : Option (ByteArray) := (spec_l1In.f a0 0 70).bind fun t107 => (if t107 = true then (if a0 = 0 then (some (⟨#[101, 112, 111, 99, 104]⟩ : ByteArray)) else (if a0 < 3 then ((spec_Dec.f k (wrap64 (a0 - 1))).bind fun t108 => (if 3 + t108.size ≤ 9223372036854775807 then (some ((⟨#[105, 110, 32]⟩ : ByteArray) ++ t108)) else (none))) else (if a0 < 7 then ((spec_Dec.f k (wrap64 (a0 - 3))).bind fun t109 => (if 4 + t109.size ≤ 9223372036854775807 then (some ((⟨#[107, 101, 121, 32]⟩ : ByteArray) ++ t109)) else (none))) else ((spec_Dec.f k (wrap64 (Int.tdiv (wrap64 (a0 - 7)) 32))).bind fun t110 => (if 1 + t110.size ≤ 9223372036854775807 then (if ((⟨#[32]⟩ : ByteArray) ++ t110).size + 1 ≤ 9223372036854775807 then ((spec_Dec.f k (wrap64 (Int.tdiv (Int.tmod (wrap64 (a0 - 7)) 32) 8))).bind fun t111 => (if (((⟨#[32]⟩ : ByteArray) ++ t110) ++ (⟨#[32]⟩ : ByteArray)).size + t111.size ≤ 9223372036854775807 then (if (Int.tmod (wrap64 (a0 - 7)) 8) < 2 then (if 6 + ((((⟨#[32]⟩ : ByteArray) ++ t110) ++ (⟨#[32]⟩ : ByteArray)) ++ t111).size ≤ 9223372036854775807 then (if ((⟨#[115, 116, 114, 105, 112, 101]⟩ : ByteArray) ++ ((((⟨#[32]⟩ : ByteArray) ++ t110) ++ (⟨#[32]⟩ : ByteArray)) ++ t111)).size + 1 ≤ 9223372036854775807 then ((spec_Dec.f k (Int.tmod (wrap64 (a0 - 7)) 8)).bind fun t112 => (if (((⟨#[115, 116, 114, 105, 112, 101]⟩ : ByteArray) ++ ((((⟨#[32]⟩ : ByteArray) ++ t110) ++ (⟨#[32]⟩ : ByteArray)) ++ t111)) ++ (⟨#[32]⟩ : ByteArray)).size + t112.size ≤ 9223372036854775807 then (some ((((⟨#[115, 116, 114, 105, 112, 101]⟩ : ByteArray) ++ ((((⟨#[32]⟩ : ByteArray) ++ t110) ++ (⟨#[32]⟩ : ByteArray)) ++ t111)) ++ (⟨#[32]⟩ : ByteArray)) ++ t112)) else (none))) else (none)) else (none)) else (if (Int.tmod (wrap64 (a0 - 7)) 8) = 2 then (if 5 + ((((⟨#[32]⟩ : ByteArray) ++ t110) ++ (⟨#[32]⟩ : ByteArray)) ++ t111).size ≤ 9223372036854775807 then (some ((⟨#[115, 116, 97, 109, 112]⟩ : ByteArray) ++ ((((⟨#[32]⟩ : ByteArray) ++ t110) ++ (⟨#[32]⟩ : ByteArray)) ++ t111))) else (none)) else (if (Int.tmod (wrap64 (a0 - 7)) 8) = 3 then (if 5 + ((((⟨#[32]⟩ : ByteArray) ++ t110) ++ (⟨#[32]⟩ : ByteArray)) ++ t111).size ≤ 9223372036854775807 then (some ((⟨#[103, 97, 117, 103, 101]⟩ : ByteArray) ++ ((((⟨#[32]⟩ : ByteArray) ++ t110) ++ (⟨#[32]⟩ : ByteArray)) ++ t111))) else (none)) else (if (Int.tmod (wrap64 (a0 - 7)) 8) = 4 then (if 6 + ((((⟨#[32]⟩ : ByteArray) ++ t110) ++ (⟨#[32]⟩ : ByteArray)) ++ t111).size ≤ 9223372036854775807 then (some ((⟨#[116, 105, 99, 107, 101, 116]⟩ : ByteArray) ++ ((((⟨#[32]⟩ : ByteArray) ++ t110) ++ (⟨#[32]⟩ : ByteArray)) ++ t111))) else (none)) else (if 4 + ((((⟨#[32]⟩ : ByteArray) ++ t110) ++ (⟨#[32]⟩ : ByteArray)) ++ t111).size ≤ 9223372036854775807 then (if ((⟨#[114, 105, 110, 103]⟩ : ByteArray) ++ ((((⟨#[32]⟩ : ByteArray) ++ t110) ++ (⟨#[32]⟩ : ByteArray)) ++ t111)).size + 1 ≤ 9223372036854775807 then ((spec_Dec.f k (wrap64 ((Int.tmod (wrap64 (a0 - 7)) 8) - 5))).bind fun t113 => (if (((⟨#[114, 105, 110, 103]⟩ : ByteArray) ++ ((((⟨#[32]⟩ : ByteArray) ++ t110) ++ (⟨#[32]⟩ : ByteArray)) ++ t111)) ++ (⟨#[32]⟩ : ByteArray)).size + t113.size ≤ 9223372036854775807 then (some ((((⟨#[114, 105, 110, 103]⟩ : ByteArray) ++ ((((⟨#[32]⟩ : ByteArray) ++ t110) ++ (⟨#[32]⟩ : ByteArray)) ++ t111)) ++ (⟨#[32]⟩ : ByteArray)) ++ t113)) else (none))) else (none)) else (none)))))) else (none))) else (none)) else (none)))))) else (some (⟨#[]⟩ : ByteArray)))
theorem spec_CellName.mono : ∀ a0 k, LeO (spec_CellName.f k a0) (spec_CellName.f (k + 1) a0) := by
  intro a0 k
  unfold spec_CellName.f
  repeat' first
      | (with_reducible exact spec_Dec.mono _ _)
      | (with_reducible exact LeO.refl _)
      | (with_reducible exact LeO.none _)
      | (with_reducible refine LeO.ite ?_ ?_)
      | (with_reducible refine LeO.bind ?_ (fun _ => ?_))
      | exact spec_Dec.mono _ _
      | exact LeO.none _
      | refine LeO.ite ?_ ?_
      | refine LeO.bind ?_ (fun _ => ?_)
set_option maxHeartbeats 8000000 in
set_option maxRecDepth 100000 in
theorem spec_CellName.calls (k : Nat) (a0 : Int) (r : ByteArray) (w : World) (h : spec_CellName.f k a0 = some r) :
    Calls Tryd.prog 12 #[.int .i64 a0] w fun e w' => e = .returned (.string r) ∧ Below w.heap.size w w' := by
  have HB := Aside0.mk (Below.refl w.heap.size w)
  have H : ((spec_l1In.f a0 0 70).bind fun t107 => (if t107 = true then (if a0 = 0 then (some (⟨#[101, 112, 111, 99, 104]⟩ : ByteArray)) else (if a0 < 3 then ((spec_Dec.f k (wrap64 (a0 - 1))).bind fun t108 => (if 3 + t108.size ≤ 9223372036854775807 then (some ((⟨#[105, 110, 32]⟩ : ByteArray) ++ t108)) else (none))) else (if a0 < 7 then ((spec_Dec.f k (wrap64 (a0 - 3))).bind fun t109 => (if 4 + t109.size ≤ 9223372036854775807 then (some ((⟨#[107, 101, 121, 32]⟩ : ByteArray) ++ t109)) else (none))) else ((spec_Dec.f k (wrap64 (Int.tdiv (wrap64 (a0 - 7)) 32))).bind fun t110 => (if 1 + t110.size ≤ 9223372036854775807 then (if ((⟨#[32]⟩ : ByteArray) ++ t110).size + 1 ≤ 9223372036854775807 then ((spec_Dec.f k (wrap64 (Int.tdiv (Int.tmod (wrap64 (a0 - 7)) 32) 8))).bind fun t111 => (if (((⟨#[32]⟩ : ByteArray) ++ t110) ++ (⟨#[32]⟩ : ByteArray)).size + t111.size ≤ 9223372036854775807 then (if (Int.tmod (wrap64 (a0 - 7)) 8) < 2 then (if 6 + ((((⟨#[32]⟩ : ByteArray) ++ t110) ++ (⟨#[32]⟩ : ByteArray)) ++ t111).size ≤ 9223372036854775807 then (if ((⟨#[115, 116, 114, 105, 112, 101]⟩ : ByteArray) ++ ((((⟨#[32]⟩ : ByteArray) ++ t110) ++ (⟨#[32]⟩ : ByteArray)) ++ t111)).size + 1 ≤ 9223372036854775807 then ((spec_Dec.f k (Int.tmod (wrap64 (a0 - 7)) 8)).bind fun t112 => (if (((⟨#[115, 116, 114, 105, 112, 101]⟩ : ByteArray) ++ ((((⟨#[32]⟩ : ByteArray) ++ t110) ++ (⟨#[32]⟩ : ByteArray)) ++ t111)) ++ (⟨#[32]⟩ : ByteArray)).size + t112.size ≤ 9223372036854775807 then (some ((((⟨#[115, 116, 114, 105, 112, 101]⟩ : ByteArray) ++ ((((⟨#[32]⟩ : ByteArray) ++ t110) ++ (⟨#[32]⟩ : ByteArray)) ++ t111)) ++ (⟨#[32]⟩ : ByteArray)) ++ t112)) else (none))) else (none)) else (none)) else (if (Int.tmod (wrap64 (a0 - 7)) 8) = 2 then (if 5 + ((((⟨#[32]⟩ : ByteArray) ++ t110) ++ (⟨#[32]⟩ : ByteArray)) ++ t111).size ≤ 9223372036854775807 then (some ((⟨#[115, 116, 97, 109, 112]⟩ : ByteArray) ++ ((((⟨#[32]⟩ : ByteArray) ++ t110) ++ (⟨#[32]⟩ : ByteArray)) ++ t111))) else (none)) else (if (Int.tmod (wrap64 (a0 - 7)) 8) = 3 then (if 5 + ((((⟨#[32]⟩ : ByteArray) ++ t110) ++ (⟨#[32]⟩ : ByteArray)) ++ t111).size ≤ 9223372036854775807 then (some ((⟨#[103, 97, 117, 103, 101]⟩ : ByteArray) ++ ((((⟨#[32]⟩ : ByteArray) ++ t110) ++ (⟨#[32]⟩ : ByteArray)) ++ t111))) else (none)) else (if (Int.tmod (wrap64 (a0 - 7)) 8) = 4 then (if 6 + ((((⟨#[32]⟩ : ByteArray) ++ t110) ++ (⟨#[32]⟩ : ByteArray)) ++ t111).size ≤ 9223372036854775807 then (some ((⟨#[116, 105, 99, 107, 101, 116]⟩ : ByteArray) ++ ((((⟨#[32]⟩ : ByteArray) ++ t110) ++ (⟨#[32]⟩ : ByteArray)) ++ t111))) else (none)) else (if 4 + ((((⟨#[32]⟩ : ByteArray) ++ t110) ++ (⟨#[32]⟩ : ByteArray)) ++ t111).size ≤ 9223372036854775807 then (if ((⟨#[114, 105, 110, 103]⟩ : ByteArray) ++ ((((⟨#[32]⟩ : ByteArray) ++ t110) ++ (⟨#[32]⟩ : ByteArray)) ++ t111)).size + 1 ≤ 9223372036854775807 then ((spec_Dec.f k (wrap64 ((Int.tmod (wrap64 (a0 - 7)) 8) - 5))).bind fun t113 => (if (((⟨#[114, 105, 110, 103]⟩ : ByteArray) ++ ((((⟨#[32]⟩ : ByteArray) ++ t110) ++ (⟨#[32]⟩ : ByteArray)) ++ t111)) ++ (⟨#[32]⟩ : ByteArray)).size + t113.size ≤ 9223372036854775807 then (some ((((⟨#[114, 105, 110, 103]⟩ : ByteArray) ++ ((((⟨#[32]⟩ : ByteArray) ++ t110) ++ (⟨#[32]⟩ : ByteArray)) ++ t111)) ++ (⟨#[32]⟩ : ByteArray)) ++ t113)) else (none))) else (none)) else (none)))))) else (none))) else (none)) else (none)))))) else (some (⟨#[]⟩ : ByteArray)))) = some r := h
  clear h
  replace H := Option.bind_eq_some_iff.mp H
  obtain ⟨t107, A20, H⟩ := H
  replace H : (if t107 = true then (if a0 = 0 then (some (⟨#[101, 112, 111, 99, 104]⟩ : ByteArray)) else (if a0 < 3 then ((spec_Dec.f k (wrap64 (a0 - 1))).bind fun t108 => (if 3 + t108.size ≤ 9223372036854775807 then (some ((⟨#[105, 110, 32]⟩ : ByteArray) ++ t108)) else (none))) else (if a0 < 7 then ((spec_Dec.f k (wrap64 (a0 - 3))).bind fun t109 => (if 4 + t109.size ≤ 9223372036854775807 then (some ((⟨#[107, 101, 121, 32]⟩ : ByteArray) ++ t109)) else (none))) else ((spec_Dec.f k (wrap64 (Int.tdiv (wrap64 (a0 - 7)) 32))).bind fun t110 => (if 1 + t110.size ≤ 9223372036854775807 then (if ((⟨#[32]⟩ : ByteArray) ++ t110).size + 1 ≤ 9223372036854775807 then ((spec_Dec.f k (wrap64 (Int.tdiv (Int.tmod (wrap64 (a0 - 7)) 32) 8))).bind fun t111 => (if (((⟨#[32]⟩ : ByteArray) ++ t110) ++ (⟨#[32]⟩ : ByteArray)).size + t111.size ≤ 9223372036854775807 then (if (Int.tmod (wrap64 (a0 - 7)) 8) < 2 then (if 6 + ((((⟨#[32]⟩ : ByteArray) ++ t110) ++ (⟨#[32]⟩ : ByteArray)) ++ t111).size ≤ 9223372036854775807 then (if ((⟨#[115, 116, 114, 105, 112, 101]⟩ : ByteArray) ++ ((((⟨#[32]⟩ : ByteArray) ++ t110) ++ (⟨#[32]⟩ : ByteArray)) ++ t111)).size + 1 ≤ 9223372036854775807 then ((spec_Dec.f k (Int.tmod (wrap64 (a0 - 7)) 8)).bind fun t112 => (if (((⟨#[115, 116, 114, 105, 112, 101]⟩ : ByteArray) ++ ((((⟨#[32]⟩ : ByteArray) ++ t110) ++ (⟨#[32]⟩ : ByteArray)) ++ t111)) ++ (⟨#[32]⟩ : ByteArray)).size + t112.size ≤ 9223372036854775807 then (some ((((⟨#[115, 116, 114, 105, 112, 101]⟩ : ByteArray) ++ ((((⟨#[32]⟩ : ByteArray) ++ t110) ++ (⟨#[32]⟩ : ByteArray)) ++ t111)) ++ (⟨#[32]⟩ : ByteArray)) ++ t112)) else (none))) else (none)) else (none)) else (if (Int.tmod (wrap64 (a0 - 7)) 8) = 2 then (if 5 + ((((⟨#[32]⟩ : ByteArray) ++ t110) ++ (⟨#[32]⟩ : ByteArray)) ++ t111).size ≤ 9223372036854775807 then (some ((⟨#[115, 116, 97, 109, 112]⟩ : ByteArray) ++ ((((⟨#[32]⟩ : ByteArray) ++ t110) ++ (⟨#[32]⟩ : ByteArray)) ++ t111))) else (none)) else (if (Int.tmod (wrap64 (a0 - 7)) 8) = 3 then (if 5 + ((((⟨#[32]⟩ : ByteArray) ++ t110) ++ (⟨#[32]⟩ : ByteArray)) ++ t111).size ≤ 9223372036854775807 then (some ((⟨#[103, 97, 117, 103, 101]⟩ : ByteArray) ++ ((((⟨#[32]⟩ : ByteArray) ++ t110) ++ (⟨#[32]⟩ : ByteArray)) ++ t111))) else (none)) else (if (Int.tmod (wrap64 (a0 - 7)) 8) = 4 then (if 6 + ((((⟨#[32]⟩ : ByteArray) ++ t110) ++ (⟨#[32]⟩ : ByteArray)) ++ t111).size ≤ 9223372036854775807 then (some ((⟨#[116, 105, 99, 107, 101, 116]⟩ : ByteArray) ++ ((((⟨#[32]⟩ : ByteArray) ++ t110) ++ (⟨#[32]⟩ : ByteArray)) ++ t111))) else (none)) else (if 4 + ((((⟨#[32]⟩ : ByteArray) ++ t110) ++ (⟨#[32]⟩ : ByteArray)) ++ t111).size ≤ 9223372036854775807 then (if ((⟨#[114, 105, 110, 103]⟩ : ByteArray) ++ ((((⟨#[32]⟩ : ByteArray) ++ t110) ++ (⟨#[32]⟩ : ByteArray)) ++ t111)).size + 1 ≤ 9223372036854775807 then ((spec_Dec.f k (wrap64 ((Int.tmod (wrap64 (a0 - 7)) 8) - 5))).bind fun t113 => (if (((⟨#[114, 105, 110, 103]⟩ : ByteArray) ++ ((((⟨#[32]⟩ : ByteArray) ++ t110) ++ (⟨#[32]⟩ : ByteArray)) ++ t111)) ++ (⟨#[32]⟩ : ByteArray)).size + t113.size ≤ 9223372036854775807 then (some ((((⟨#[114, 105, 110, 103]⟩ : ByteArray) ++ ((((⟨#[32]⟩ : ByteArray) ++ t110) ++ (⟨#[32]⟩ : ByteArray)) ++ t111)) ++ (⟨#[32]⟩ : ByteArray)) ++ t113)) else (none))) else (none)) else (none)))))) else (none))) else (none)) else (none)))))) else (some (⟨#[]⟩ : ByteArray))) = some r := H
  have A2 := Aside0.mk A20
  clear A20
  by_cases c3 : t107 = true
  · subst c3
    have H1 : (if a0 = 0 then (some (⟨#[101, 112, 111, 99, 104]⟩ : ByteArray)) else (if a0 < 3 then ((spec_Dec.f k (wrap64 (a0 - 1))).bind fun t108 => (if 3 + t108.size ≤ 9223372036854775807 then (some ((⟨#[105, 110, 32]⟩ : ByteArray) ++ t108)) else (none))) else (if a0 < 7 then ((spec_Dec.f k (wrap64 (a0 - 3))).bind fun t109 => (if 4 + t109.size ≤ 9223372036854775807 then (some ((⟨#[107, 101, 121, 32]⟩ : ByteArray) ++ t109)) else (none))) else ((spec_Dec.f k (wrap64 (Int.tdiv (wrap64 (a0 - 7)) 32))).bind fun t110 => (if 1 + t110.size ≤ 9223372036854775807 then (if ((⟨#[32]⟩ : ByteArray) ++ t110).size + 1 ≤ 9223372036854775807 then ((spec_Dec.f k (wrap64 (Int.tdiv (Int.tmod (wrap64 (a0 - 7)) 32) 8))).bind fun t111 => (if (((⟨#[32]⟩ : ByteArray) ++ t110) ++ (⟨#[32]⟩ : ByteArray)).size + t111.size ≤ 9223372036854775807 then (if (Int.tmod (wrap64 (a0 - 7)) 8) < 2 then (if 6 + ((((⟨#[32]⟩ : ByteArray) ++ t110) ++ (⟨#[32]⟩ : ByteArray)) ++ t111).size ≤ 9223372036854775807 then (if ((⟨#[115, 116, 114, 105, 112, 101]⟩ : ByteArray) ++ ((((⟨#[32]⟩ : ByteArray) ++ t110) ++ (⟨#[32]⟩ : ByteArray)) ++ t111)).size + 1 ≤ 9223372036854775807 then ((spec_Dec.f k (Int.tmod (wrap64 (a0 - 7)) 8)).bind fun t112 => (if (((⟨#[115, 116, 114, 105, 112, 101]⟩ : ByteArray) ++ ((((⟨#[32]⟩ : ByteArray) ++ t110) ++ (⟨#[32]⟩ : ByteArray)) ++ t111)) ++ (⟨#[32]⟩ : ByteArray)).size + t112.size ≤ 9223372036854775807 then (some ((((⟨#[115, 116, 114, 105, 112, 101]⟩ : ByteArray) ++ ((((⟨#[32]⟩ : ByteArray) ++ t110) ++ (⟨#[32]⟩ : ByteArray)) ++ t111)) ++ (⟨#[32]⟩ : ByteArray)) ++ t112)) else (none))) else (none)) else (none)) else (if (Int.tmod (wrap64 (a0 - 7)) 8) = 2 then (if 5 + ((((⟨#[32]⟩ : ByteArray) ++ t110) ++ (⟨#[32]⟩ : ByteArray)) ++ t111).size ≤ 9223372036854775807 then (some ((⟨#[115, 116, 97, 109, 112]⟩ : ByteArray) ++ ((((⟨#[32]⟩ : ByteArray) ++ t110) ++ (⟨#[32]⟩ : ByteArray)) ++ t111))) else (none)) else (if (Int.tmod (wrap64 (a0 - 7)) 8) = 3 then (if 5 + ((((⟨#[32]⟩ : ByteArray) ++ t110) ++ (⟨#[32]⟩ : ByteArray)) ++ t111).size ≤ 9223372036854775807 then (some ((⟨#[103, 97, 117, 103, 101]⟩ : ByteArray) ++ ((((⟨#[32]⟩ : ByteArray) ++ t110) ++ (⟨#[32]⟩ : ByteArray)) ++ t111))) else (none)) else (if (Int.tmod (wrap64 (a0 - 7)) 8) = 4 then (if 6 + ((((⟨#[32]⟩ : ByteArray) ++ t110) ++ (⟨#[32]⟩ : ByteArray)) ++ t111).size ≤ 9223372036854775807 then (some ((⟨#[116, 105, 99, 107, 101, 116]⟩ : ByteArray) ++ ((((⟨#[32]⟩ : ByteArray) ++ t110) ++ (⟨#[32]⟩ : ByteArray)) ++ t111))) else (none)) else (if 4 + ((((⟨#[32]⟩ : ByteArray) ++ t110) ++ (⟨#[32]⟩ : ByteArray)) ++ t111).size ≤ 9223372036854775807 then (if ((⟨#[114, 105, 110, 103]⟩ : ByteArray) ++ ((((⟨#[32]⟩ : ByteArray) ++ t110) ++ (⟨#[32]⟩ : ByteArray)) ++ t111)).size + 1 ≤ 9223372036854775807 then ((spec_Dec.f k (wrap64 ((Int.tmod (wrap64 (a0 - 7)) 8) - 5))).bind fun t113 => (if (((⟨#[114, 105, 110, 103]⟩ : ByteArray) ++ ((((⟨#[32]⟩ : ByteArray) ++ t110) ++ (⟨#[32]⟩ : ByteArray)) ++ t111)) ++ (⟨#[32]⟩ : ByteArray)).size + t113.size ≤ 9223372036854775807 then (some ((((⟨#[114, 105, 110, 103]⟩ : ByteArray) ++ ((((⟨#[32]⟩ : ByteArray) ++ t110) ++ (⟨#[32]⟩ : ByteArray)) ++ t111)) ++ (⟨#[32]⟩ : ByteArray)) ++ t113)) else (none))) else (none)) else (none)))))) else (none))) else (none)) else (none)))))) = some r := by rw [if_pos rfl] at H; exact H
    clear H
    have H := H1
    clear H1
    by_cases c4 : a0 = 0
    · rw [if_pos c4] at H
      have c4b0 : (a0 == 0) = true := beq_iff_eq.mpr c4
      have c4b1 : (a0 != 0) = false := bne_eq_false_iff_eq.mpr c4
      clear c4
      obtain rfl := Option.some.inj H
      go_enter Tryd.func12, Tryd.ntmps12
      go_wp2_with (first | ((with_reducible refine gate_callee (f := 36) rfl ?_); refine goesL_ (some 9) rfl rfl Tryd.func36 (by kernel_rfl) rfl #[.int .i64 a0, .int .i64 0, .int .i64 70] rfl (by (try simp only [List.map_toArray, List.map_cons, List.map_nil]); first | done | rfl | (simp only [List.length_drop, List.length_take]; rfl)) ?_; (with_reducible refine (spec_l1In.calls a0 0 70 true _ A2.out).mono ?_); rintro e w' ⟨rfl, ⟨nd, rfl⟩⟩; refine ⟨_, rfl, ?_⟩))
      go_ret
      exact ⟨by first | rfl | (simp [errW_none, errW_some] <;> rfl) | (simp [*, errW_none, errW_some] <;> rfl), by repeat (first | (with_reducible first | exact HB.out | apply below_alloc | apply pw_below_drewN | apply below_drew1) | exact HB.out)⟩
    · rw [if_neg c4] at H
      have c4b0 : (a0 == 0) = false := beq_eq_false_iff_ne.mpr c4
      have c4b1 : (a0 != 0) = true := bne_iff_ne.mpr c4
      by_cases c5 : a0 < 3
      · rw [if_pos c5] at H
        have c5b0 : decide (a0 < 3) = true := decide_eq_true c5
        clear c5
        replace H := Option.bind_eq_some_iff.mp H
        obtain ⟨t108, A60, H⟩ := H
        replace H : (if 3 + t108.size ≤ 9223372036854775807 then (some ((⟨#[105, 110, 32]⟩ : ByteArray) ++ t108)) else (none)) = some r := H
        have A6 := Aside0.mk A60
        clear A60
        by_cases c7 : 3 + t108.size ≤ 9223372036854775807
        · rw [if_pos c7] at H
          have c7b0 := eq_true c7
          have c7b1 : decide (3 + t108.size ≤ 9223372036854775807) = true := decide_eq_true c7
          try have c7b2 : (9223372036854775807 < 3 + t108.size) = False := eq_false (Nat.not_lt.2 c7)
          obtain rfl := Option.some.inj H
          go_enter Tryd.func12, Tryd.ntmps12
          go_wp2_with (first | ((with_reducible refine gate_callee (f := 36) rfl ?_); refine goesL_ (some 9) rfl rfl Tryd.func36 (by kernel_rfl) rfl #[.int .i64 a0, .int .i64 0, .int .i64 70] rfl (by (try simp only [List.map_toArray, List.map_cons, List.map_nil]); first | done | rfl | (simp only [List.length_drop, List.length_take]; rfl)) ?_; (with_reducible refine (spec_l1In.calls a0 0 70 true _ A2.out).mono ?_); rintro e w' ⟨rfl, ⟨nd, rfl⟩⟩; refine ⟨_, rfl, ?_⟩) | ((with_reducible refine gate_callee (f := 8) rfl ?_); refine goesL_ (some 19) rfl rfl Tryd.func8 (by kernel_rfl) rfl #[.int .i64 (wrap64 (a0 - 1))] rfl (by (try simp only [List.map_toArray, List.map_cons, List.map_nil]); first | done | rfl | (simp only [List.length_drop, List.length_take]; rfl)) ?_; (with_reducible refine (spec_Dec.calls k (wrap64 (a0 - 1)) t108 _ A6.out).mono ?_); rintro e w8 ⟨rfl, hb⟩; refine ⟨_, rfl, ?_⟩; have n0_ := Aside0.mk (below_step (by repeat (first | (with_reducible first | exact HB.out | apply below_alloc | apply pw_below_drewN | apply below_drew1) | exact HB.out)) hb); clear HB; have HB := n0_; clear n0_; (try clear hb); (try clear hb2); (try clear hk); (try clear hi)))
          go_ret
          exact ⟨by first | rfl | (simp [errW_none, errW_some] <;> rfl) | (simp [*, errW_none, errW_some] <;> rfl), by repeat (first | (with_reducible first | exact HB.out | apply below_alloc | apply pw_below_drewN | apply below_drew1) | exact HB.out)⟩
        · rw [if_neg c7] at H
          exact absurd H (by simp)
      · rw [if_neg c5] at H
        have c5b0 : decide (a0 < 3) = false := decide_eq_false c5
        clear c5
        by_cases c9 : a0 < 7
        · rw [if_pos c9] at H
          have c9b0 : decide (a0 < 7) = true := decide_eq_true c9
          clear c9
          replace H := Option.bind_eq_some_iff.mp H
          obtain ⟨t109, A100, H⟩ := H
          replace H : (if 4 + t109.size ≤ 9223372036854775807 then (some ((⟨#[107, 101, 121, 32]⟩ : ByteArray) ++ t109)) else (none)) = some r := H
          have A10 := Aside0.mk A100
          clear A100
          by_cases c11 : 4 + t109.size ≤ 9223372036854775807
          · rw [if_pos c11] at H
            have c11b0 := eq_true c11
            have c11b1 : decide (4 + t109.size ≤ 9223372036854775807) = true := decide_eq_true c11
            try have c11b2 : (9223372036854775807 < 4 + t109.size) = False := eq_false (Nat.not_lt.2 c11)
            obtain rfl := Option.some.inj H
            go_enter Tryd.func12, Tryd.ntmps12
            go_wp2_with (first | ((with_reducible refine gate_callee (f := 36) rfl ?_); refine goesL_ (some 9) rfl rfl Tryd.func36 (by kernel_rfl) rfl #[.int .i64 a0, .int .i64 0, .int .i64 70] rfl (by (try simp only [List.map_toArray, List.map_cons, List.map_nil]); first | done | rfl | (simp only [List.length_drop, List.length_take]; rfl)) ?_; (with_reducible refine (spec_l1In.calls a0 0 70 true _ A2.out).mono ?_); rintro e w' ⟨rfl, ⟨nd, rfl⟩⟩; refine ⟨_, rfl, ?_⟩) | ((with_reducible refine gate_callee (f := 8) rfl ?_); refine goesL_ (some 26) rfl rfl Tryd.func8 (by kernel_rfl) rfl #[.int .i64 (wrap64 (a0 - 3))] rfl (by (try simp only [List.map_toArray, List.map_cons, List.map_nil]); first | done | rfl | (simp only [List.length_drop, List.length_take]; rfl)) ?_; (with_reducible refine (spec_Dec.calls k (wrap64 (a0 - 3)) t109 _ A10.out).mono ?_); rintro e w12 ⟨rfl, hb⟩; refine ⟨_, rfl, ?_⟩; have n0_ := Aside0.mk (below_step (by repeat (first | (with_reducible first | exact HB.out | apply below_alloc | apply pw_below_drewN | apply below_drew1) | exact HB.out)) hb); clear HB; have HB := n0_; clear n0_; (try clear hb); (try clear hb2); (try clear hk); (try clear hi)))
            go_ret
            exact ⟨by first | rfl | (simp [errW_none, errW_some] <;> rfl) | (simp [*, errW_none, errW_some] <;> rfl), by repeat (first | (with_reducible first | exact HB.out | apply below_alloc | apply pw_below_drewN | apply below_drew1) | exact HB.out)⟩
          · rw [if_neg c11] at H
            exact absurd H (by simp)
        · rw [if_neg c9] at H
          have c9b0 : decide (a0 < 7) = false := decide_eq_false c9
          clear c9
          replace H := Option.bind_eq_some_iff.mp H
          obtain ⟨t110, A130, H⟩ := H
          replace H : (if 1 + t110.size ≤ 9223372036854775807 then (if ((⟨#[32]⟩ : ByteArray) ++ t110).size + 1 ≤ 9223372036854775807 then ((spec_Dec.f k (wrap64 (Int.tdiv (Int.tmod (wrap64 (a0 - 7)) 32) 8))).bind fun t111 => (if (((⟨#[32]⟩ : ByteArray) ++ t110) ++ (⟨#[32]⟩ : ByteArray)).size + t111.size ≤ 9223372036854775807 then (if (Int.tmod (wrap64 (a0 - 7)) 8) < 2 then (if 6 + ((((⟨#[32]⟩ : ByteArray) ++ t110) ++ (⟨#[32]⟩ : ByteArray)) ++ t111).size ≤ 9223372036854775807 then (if ((⟨#[115, 116, 114, 105, 112, 101]⟩ : ByteArray) ++ ((((⟨#[32]⟩ : ByteArray) ++ t110) ++ (⟨#[32]⟩ : ByteArray)) ++ t111)).size + 1 ≤ 9223372036854775807 then ((spec_Dec.f k (Int.tmod (wrap64 (a0 - 7)) 8)).bind fun t112 => (if (((⟨#[115, 116, 114, 105, 112, 101]⟩ : ByteArray) ++ ((((⟨#[32]⟩ : ByteArray) ++ t110) ++ (⟨#[32]⟩ : ByteArray)) ++ t111)) ++ (⟨#[32]⟩ : ByteArray)).size + t112.size ≤ 9223372036854775807 then (some ((((⟨#[115, 116, 114, 105, 112, 101]⟩ : ByteArray) ++ ((((⟨#[32]⟩ : ByteArray) ++ t110) ++ (⟨#[32]⟩ : ByteArray)) ++ t111)) ++ (⟨#[32]⟩ : ByteArray)) ++ t112)) else (none))) else (none)) else (none)) else (if (Int.tmod (wrap64 (a0 - 7)) 8) = 2 then (if 5 + ((((⟨#[32]⟩ : ByteArray) ++ t110) ++ (⟨#[32]⟩ : ByteArray)) ++ t111).size ≤ 9223372036854775807 then (some ((⟨#[115, 116, 97, 109, 112]⟩ : ByteArray) ++ ((((⟨#[32]⟩ : ByteArray) ++ t110) ++ (⟨#[32]⟩ : ByteArray)) ++ t111))) else (none)) else (if (Int.tmod (wrap64 (a0 - 7)) 8) = 3 then (if 5 + ((((⟨#[32]⟩ : ByteArray) ++ t110) ++ (⟨#[32]⟩ : ByteArray)) ++ t111).size ≤ 9223372036854775807 then (some ((⟨#[103, 97, 117, 103, 101]⟩ : ByteArray) ++ ((((⟨#[32]⟩ : ByteArray) ++ t110) ++ (⟨#[32]⟩ : ByteArray)) ++ t111))) else (none)) else (if (Int.tmod (wrap64 (a0 - 7)) 8) = 4 then (if 6 + ((((⟨#[32]⟩ : ByteArray) ++ t110) ++ (⟨#[32]⟩ : ByteArray)) ++ t111).size ≤ 9223372036854775807 then (some ((⟨#[116, 105, 99, 107, 101, 116]⟩ : ByteArray) ++ ((((⟨#[32]⟩ : ByteArray) ++ t110) ++ (⟨#[32]⟩ : ByteArray)) ++ t111))) else (none)) else (if 4 + ((((⟨#[32]⟩ : ByteArray) ++ t110) ++ (⟨#[32]⟩ : ByteArray)) ++ t111).size ≤ 9223372036854775807 then (if ((⟨#[114, 105, 110, 103]⟩ : ByteArray) ++ ((((⟨#[32]⟩ : ByteArray) ++ t110) ++ (⟨#[32]⟩ : ByteArray)) ++ t111)).size + 1 ≤ 9223372036854775807 then ((spec_Dec.f k (wrap64 ((Int.tmod (wrap64 (a0 - 7)) 8) - 5))).bind fun t113 => (if (((⟨#[114, 105, 110, 103]⟩ : ByteArray) ++ ((((⟨#[32]⟩ : ByteArray) ++ t110) ++ (⟨#[32]⟩ : ByteArray)) ++ t111)) ++ (⟨#[32]⟩ : ByteArray)).size + t113.size ≤ 9223372036854775807 then (some ((((⟨#[114, 105, 110, 103]⟩ : ByteArray) ++ ((((⟨#[32]⟩ : ByteArray) ++ t110) ++ (⟨#[32]⟩ : ByteArray)) ++ t111)) ++ (⟨#[32]⟩ : ByteArray)) ++ t113)) else (none))) else (none)) else (none)))))) else (none))) else (none)) else (none)) = some r := H
          have A13 := Aside0.mk A130
          clear A130
          by_cases c14 : 1 + t110.size ≤ 9223372036854775807
          · rw [if_pos c14] at H
            have c14b0 := eq_true c14
            have c14b1 : decide (1 + t110.size ≤ 9223372036854775807) = true := decide_eq_true c14
            try have c14b2 : (9223372036854775807 < 1 + t110.size) = False := eq_false (Nat.not_lt.2 c14)
            by_cases c15 : ((⟨#[32]⟩ : ByteArray) ++ t110).size + 1 ≤ 9223372036854775807
            · rw [if_pos c15] at H
              have c15b0 := eq_true c15
              have c15b1 : decide (((⟨#[32]⟩ : ByteArray) ++ t110).size + 1 ≤ 9223372036854775807) = true := decide_eq_true c15
              try have c15b2 : (9223372036854775807 < ((⟨#[32]⟩ : ByteArray) ++ t110).size + 1) = False := eq_false (Nat.not_lt.2 c15)
              have q_ := c15
              simp only [ByteArray.size_append, show (⟨#[101, 112, 111, 99, 104]⟩ : ByteArray).size = 5 from rfl, show (⟨#[103, 97, 117, 103, 101]⟩ : ByteArray).size = 5 from rfl, show (⟨#[105, 110, 32]⟩ : ByteArray).size = 3 from rfl, show (⟨#[107, 101, 121, 32]⟩ : ByteArray).size = 4 from rfl, show (⟨#[114, 105, 110, 103]⟩ : ByteArray).size = 4 from rfl, show (⟨#[115, 116, 114, 105, 112, 101]⟩ : ByteArray).size = 6 from rfl, show (⟨#[115, 116, 97, 109, 112]⟩ : ByteArray).size = 5 from rfl, show (⟨#[116, 105, 99, 107, 101, 116]⟩ : ByteArray).size = 6 from rfl, show (⟨#[32]⟩ : ByteArray).size = 1 from rfl] at q_
              have c15b3 := eq_false (Nat.not_lt.2 q_)
              clear q_
              replace H := Option.bind_eq_some_iff.mp H
              obtain ⟨t111, A160, H⟩ := H
              replace H : (if (((⟨#[32]⟩ : ByteArray) ++ t110) ++ (⟨#[32]⟩ : ByteArray)).size + t111.size ≤ 9223372036854775807 then (if (Int.tmod (wrap64 (a0 - 7)) 8) < 2 then (if 6 + ((((⟨#[32]⟩ : ByteArray) ++ t110) ++ (⟨#[32]⟩ : ByteArray)) ++ t111).size ≤ 9223372036854775807 then (if ((⟨#[115, 116, 114, 105, 112, 101]⟩ : ByteArray) ++ ((((⟨#[32]⟩ : ByteArray) ++ t110) ++ (⟨#[32]⟩ : ByteArray)) ++ t111)).size + 1 ≤ 9223372036854775807 then ((spec_Dec.f k (Int.tmod (wrap64 (a0 - 7)) 8)).bind fun t112 => (if (((⟨#[115, 116, 114, 105, 112, 101]⟩ : ByteArray) ++ ((((⟨#[32]⟩ : ByteArray) ++ t110) ++ (⟨#[32]⟩ : ByteArray)) ++ t111)) ++ (⟨#[32]⟩ : ByteArray)).size + t112.size ≤ 9223372036854775807 then (some ((((⟨#[115, 116, 114, 105, 112, 101]⟩ : ByteArray) ++ ((((⟨#[32]⟩ : ByteArray) ++ t110) ++ (⟨#[32]⟩ : ByteArray)) ++ t111)) ++ (⟨#[32]⟩ : ByteArray)) ++ t112)) else (none))) else (none)) else (none)) else (if (Int.tmod (wrap64 (a0 - 7)) 8) = 2 then (if 5 + ((((⟨#[32]⟩ : ByteArray) ++ t110) ++ (⟨#[32]⟩ : ByteArray)) ++ t111).size ≤ 9223372036854775807 then (some ((⟨#[115, 116, 97, 109, 112]⟩ : ByteArray) ++ ((((⟨#[32]⟩ : ByteArray) ++ t110) ++ (⟨#[32]⟩ : ByteArray)) ++ t111))) else (none)) else (if (Int.tmod (wrap64 (a0 - 7)) 8) = 3 then (if 5 + ((((⟨#[32]⟩ : ByteArray) ++ t110) ++ (⟨#[32]⟩ : ByteArray)) ++ t111).size ≤ 9223372036854775807 then (some ((⟨#[103, 97, 117, 103, 101]⟩ : ByteArray) ++ ((((⟨#[32]⟩ : ByteArray) ++ t110) ++ (⟨#[32]⟩ : ByteArray)) ++ t111))) else (none)) else (if (Int.tmod (wrap64 (a0 - 7)) 8) = 4 then (if 6 + ((((⟨#[32]⟩ : ByteArray) ++ t110) ++ (⟨#[32]⟩ : ByteArray)) ++ t111).size ≤ 9223372036854775807 then (some ((⟨#[116, 105, 99, 107, 101, 116]⟩ : ByteArray) ++ ((((⟨#[32]⟩ : ByteArray) ++ t110) ++ (⟨#[32]⟩ : ByteArray)) ++ t111))) else (none)) else (if 4 + ((((⟨#[32]⟩ : ByteArray) ++ t110) ++ (⟨#[32]⟩ : ByteArray)) ++ t111).size ≤ 9223372036854775807 then (if ((⟨#[114, 105, 110, 103]⟩ : ByteArray) ++ ((((⟨#[32]⟩ : ByteArray) ++ t110) ++ (⟨#[32]⟩ : ByteArray)) ++ t111)).size + 1 ≤ 9223372036854775807 then ((spec_Dec.f k (wrap64 ((Int.tmod (wrap64 (a0 - 7)) 8) - 5))).bind fun t113 => (if (((⟨#[114, 105, 110, 103]⟩ : ByteArray) ++ ((((⟨#[32]⟩ : ByteArray) ++ t110) ++ (⟨#[32]⟩ : ByteArray)) ++ t111)) ++ (⟨#[32]⟩ : ByteArray)).size + t113.size ≤ 9223372036854775807 then (some ((((⟨#[114, 105, 110, 103]⟩ : ByteArray) ++ ((((⟨#[32]⟩ : ByteArray) ++ t110) ++ (⟨#[32]⟩ : ByteArray)) ++ t111)) ++ (⟨#[32]⟩ : ByteArray)) ++ t113)) else (none))) else (none)) else (none)))))) else (none)) = some r := H
              have A16 := Aside0.mk A160
              clear A160
              by_cases c17 : (((⟨#[32]⟩ : ByteArray) ++ t110) ++ (⟨#[32]⟩ : ByteArray)).size + t111.size ≤ 9223372036854775807
              · rw [if_pos c17] at H
                have c17b0 := eq_true c17
                have c17b1 : decide ((((⟨#[32]⟩ : ByteArray) ++ t110) ++ (⟨#[32]⟩ : ByteArray)).size + t111.size ≤ 9223372036854775807) = true := decide_eq_true c17
                try have c17b2 : (9223372036854775807 < (((⟨#[32]⟩ : ByteArray) ++ t110) ++ (⟨#[32]⟩ : ByteArray)).size + t111.size) = False := eq_false (Nat.not_lt.2 c17)
                have q_ := c17
                simp only [ByteArray.size_append, show (⟨#[101, 112, 111, 99, 104]⟩ : ByteArray).size = 5 from rfl, show (⟨#[103, 97, 117, 103, 101]⟩ : ByteArray).size = 5 from rfl, show (⟨#[105, 110, 32]⟩ : ByteArray).size = 3 from rfl, show (⟨#[107, 101, 121, 32]⟩ : ByteArray).size = 4 from rfl, show (⟨#[114, 105, 110, 103]⟩ : ByteArray).size = 4 from rfl, show (⟨#[115, 116, 114, 105, 112, 101]⟩ : ByteArray).size = 6 from rfl, show (⟨#[115, 116, 97, 109, 112]⟩ : ByteArray).size = 5 from rfl, show (⟨#[116, 105, 99, 107, 101, 116]⟩ : ByteArray).size = 6 from rfl, show (⟨#[32]⟩ : ByteArray).size = 1 from rfl] at q_
                have c17b3 := eq_false (Nat.not_lt.2 q_)
                clear q_
                by_cases c18 : (Int.tmod (wrap64 (a0 - 7)) 8) < 2
                · rw [if_pos c18] at H
                  have c18b0 : decide ((Int.tmod (wrap64 (a0 - 7)) 8) < 2) = true := decide_eq_true c18
                  clear c18
                  by_cases c19 : 6 + ((((⟨#[32]⟩ : ByteArray) ++ t110) ++ (⟨#[32]⟩ : ByteArray)) ++ t111).size ≤ 9223372036854775807
                  · rw [if_pos c19] at H
                    have c19b0 := eq_true c19
                    have c19b1 : decide (6 + ((((⟨#[32]⟩ : ByteArray) ++ t110) ++ (⟨#[32]⟩ : ByteArray)) ++ t111).size ≤ 9223372036854775807) = true := decide_eq_true c19
                    try have c19b2 : (9223372036854775807 < 6 + ((((⟨#[32]⟩ : ByteArray) ++ t110) ++ (⟨#[32]⟩ : ByteArray)) ++ t111).size) = False := eq_false (Nat.not_lt.2 c19)
                    have q_ := c19
                    simp only [ByteArray.size_append, show (⟨#[101, 112, 111, 99, 104]⟩ : ByteArray).size = 5 from rfl, show (⟨#[103, 97, 117, 103, 101]⟩ : ByteArray).size = 5 from rfl, show (⟨#[105, 110, 32]⟩ : ByteArray).size = 3 from rfl, show (⟨#[107, 101, 121, 32]⟩ : ByteArray).size = 4 from rfl, show (⟨#[114, 105, 110, 103]⟩ : ByteArray).size = 4 from rfl, show (⟨#[115, 116, 114, 105, 112, 101]⟩ : ByteArray).size = 6 from rfl, show (⟨#[115, 116, 97, 109, 112]⟩ : ByteArray).size = 5 from rfl, show (⟨#[116, 105, 99, 107, 101, 116]⟩ : ByteArray).size = 6 from rfl, show (⟨#[32]⟩ : ByteArray).size = 1 from rfl] at q_
                    have c19b3 := eq_false (Nat.not_lt.2 q_)
                    clear q_
                    by_cases c20 : ((⟨#[115, 116, 114, 105, 112, 101]⟩ : ByteArray) ++ ((((⟨#[32]⟩ : ByteArray) ++ t110) ++ (⟨#[32]⟩ : ByteArray)) ++ t111)).size + 1 ≤ 9223372036854775807
                    · rw [if_pos c20] at H
                      have c20b0 := eq_true c20
                      have c20b1 : decide (((⟨#[115, 116, 114, 105, 112, 101]⟩ : ByteArray) ++ ((((⟨#[32]⟩ : ByteArray) ++ t110) ++ (⟨#[32]⟩ : ByteArray)) ++ t111)).size + 1 ≤ 9223372036854775807) = true := decide_eq_true c20
                      try have c20b2 : (9223372036854775807 < ((⟨#[115, 116, 114, 105, 112, 101]⟩ : ByteArray) ++ ((((⟨#[32]⟩ : ByteArray) ++ t110) ++ (⟨#[32]⟩ : ByteArray)) ++ t111)).size + 1) = False := eq_false (Nat.not_lt.2 c20)
                      have q_ := c20
                      simp only [ByteArray.size_append, show (⟨#[101, 112, 111, 99, 104]⟩ : ByteArray).size = 5 from rfl, show (⟨#[103, 97, 117, 103, 101]⟩ : ByteArray).size = 5 from rfl, show (⟨#[105, 110, 32]⟩ : ByteArray).size = 3 from rfl, show (⟨#[107, 101, 121, 32]⟩ : ByteArray).size = 4 from rfl, show (⟨#[114, 105, 110, 103]⟩ : ByteArray).size = 4 from rfl, show (⟨#[115, 116, 114, 105, 112, 101]⟩ : ByteArray).size = 6 from rfl, show (⟨#[115, 116, 97, 109, 112]⟩ : ByteArray).size = 5 from rfl, show (⟨#[116, 105, 99, 107, 101, 116]⟩ : ByteArray).size = 6 from rfl, show (⟨#[32]⟩ : ByteArray).size = 1 from rfl] at q_
                      have c20b3 := eq_false (Nat.not_lt.2 q_)
                      clear q_
                      replace H := Option.bind_eq_some_iff.mp H
                      obtain ⟨t112, A210, H⟩ := H
                      replace H : (if (((⟨#[115, 116, 114, 105, 112, 101]⟩ : ByteArray) ++ ((((⟨#[32]⟩ : ByteArray) ++ t110) ++ (⟨#[32]⟩ : ByteArray)) ++ t111)) ++ (⟨#[32]⟩ : ByteArray)).size + t112.size ≤ 9223372036854775807 then (some ((((⟨#[115, 116, 114, 105, 112, 101]⟩ : ByteArray) ++ ((((⟨#[32]⟩ : ByteArray) ++ t110) ++ (⟨#[32]⟩ : ByteArray)) ++ t111)) ++ (⟨#[32]⟩ : ByteArray)) ++ t112)) else (none)) = some r := H
                      have A21 := Aside0.mk A210
                      clear A210
                      by_cases c22 : (((⟨#[115, 116, 114, 105, 112, 101]⟩ : ByteArray) ++ ((((⟨#[32]⟩ : ByteArray) ++ t110) ++ (⟨#[32]⟩ : ByteArray)) ++ t111)) ++ (⟨#[32]⟩ : ByteArray)).size + t112.size ≤ 9223372036854775807
                      · rw [if_pos c22] at H
                        have c22b0 := eq_true c22
                        have c22b1 : decide ((((⟨#[115, 116, 114, 105, 112, 101]⟩ : ByteArray) ++ ((((⟨#[32]⟩ : ByteArray) ++ t110) ++ (⟨#[32]⟩ : ByteArray)) ++ t111)) ++ (⟨#[32]⟩ : ByteArray)).size + t112.size ≤ 9223372036854775807) = true := decide_eq_true c22
                        try have c22b2 : (9223372036854775807 < (((⟨#[115, 116, 114, 105, 112, 101]⟩ : ByteArray) ++ ((((⟨#[32]⟩ : ByteArray) ++ t110) ++ (⟨#[32]⟩ : ByteArray)) ++ t111)) ++ (⟨#[32]⟩ : ByteArray)).size + t112.size) = False := eq_false (Nat.not_lt.2 c22)
                        have q_ := c22
                        simp only [ByteArray.size_append, show (⟨#[101, 112, 111, 99, 104]⟩ : ByteArray).size = 5 from rfl, show (⟨#[103, 97, 117, 103, 101]⟩ : ByteArray).size = 5 from rfl, show (⟨#[105, 110, 32]⟩ : ByteArray).size = 3 from rfl, show (⟨#[107, 101, 121, 32]⟩ : ByteArray).size = 4 from rfl, show (⟨#[114, 105, 110, 103]⟩ : ByteArray).size = 4 from rfl, show (⟨#[115, 116, 114, 105, 112, 101]⟩ : ByteArray).size = 6 from rfl, show (⟨#[115, 116, 97, 109, 112]⟩ : ByteArray).size = 5 from rfl, show (⟨#[116, 105, 99, 107, 101, 116]⟩ : ByteArray).size = 6 from rfl, show (⟨#[32]⟩ : ByteArray).size = 1 from rfl] at q_
                        have c22b3 := eq_false (Nat.not_lt.2 q_)
                        clear q_
                        obtain rfl := Option.some.inj H
                        go_enter Tryd.func12, Tryd.ntmps12
                        go_wp2_with (first | ((with_reducible refine gate_callee (f := 36) rfl ?_); refine goesL_ (some 9) rfl rfl Tryd.func36 (by kernel_rfl) rfl #[.int .i64 a0, .int .i64 0, .int .i64 70] rfl (by (try simp only [List.map_toArray, List.map_cons, List.map_nil]); first | done | rfl | (simp only [List.length_drop, List.length_take]; rfl)) ?_; (with_reducible refine (spec_l1In.calls a0 0 70 true _ A2.out).mono ?_); rintro e w' ⟨rfl, ⟨nd, rfl⟩⟩; refine ⟨_, rfl, ?_⟩) | ((with_reducible refine gate_callee (f := 8) rfl ?_); refine goesL_ (some 39) rfl rfl Tryd.func8 (by kernel_rfl) rfl #[.int .i64 (wrap64 (Int.tdiv (wrap64 (a0 - 7)) 32))] rfl (by (try simp only [List.map_toArray, List.map_cons, List.map_nil]); first | done | rfl | (simp only [List.length_drop, List.length_take]; rfl)) ?_; (with_reducible refine (spec_Dec.calls k (wrap64 (Int.tdiv (wrap64 (a0 - 7)) 32)) t110 _ A13.out).mono ?_); rintro e w23 ⟨rfl, hb⟩; refine ⟨_, rfl, ?_⟩; have n0_ := Aside0.mk (below_step (by repeat (first | (with_reducible first | exact HB.out | apply below_alloc | apply pw_below_drewN | apply below_drew1) | exact HB.out)) hb); clear HB; have HB := n0_; clear n0_; (try clear hb); (try clear hb2); (try clear hk); (try clear hi)) | ((with_reducible refine gate_callee (f := 8) rfl ?_); refine goesL_ (some 43) rfl rfl Tryd.func8 (by kernel_rfl) rfl #[.int .i64 (wrap64 (Int.tdiv (Int.tmod (wrap64 (a0 - 7)) 32) 8))] rfl (by (try simp only [List.map_toArray, List.map_cons, List.map_nil]); first | done | rfl | (simp only [List.length_drop, List.length_take]; rfl)) ?_; (with_reducible refine (spec_Dec.calls k (wrap64 (Int.tdiv (Int.tmod (wrap64 (a0 - 7)) 32) 8)) t111 _ A16.out).mono ?_); rintro e w24 ⟨rfl, hb⟩; refine ⟨_, rfl, ?_⟩; have n0_ := Aside0.mk (below_step (by repeat (first | (with_reducible first | exact HB.out | apply below_alloc | apply pw_below_drewN | apply below_drew1) | exact HB.out)) hb); clear HB; have HB := n0_; clear n0_; (try clear hb); (try clear hb2); (try clear hk); (try clear hi)) | ((with_reducible refine gate_callee (f := 8) rfl ?_); refine goesL_ (some 52) rfl rfl Tryd.func8 (by kernel_rfl) rfl #[.int .i64 (Int.tmod (wrap64 (a0 - 7)) 8)] rfl (by (try simp only [List.map_toArray, List.map_cons, List.map_nil]); first | done | rfl | (simp only [List.length_drop, List.length_take]; rfl)) ?_; (with_reducible refine (spec_Dec.calls k (Int.tmod (wrap64 (a0 - 7)) 8) t112 _ A21.out).mono ?_); rintro e w25 ⟨rfl, hb⟩; refine ⟨_, rfl, ?_⟩; have n0_ := Aside0.mk (below_step (by repeat (first | (with_reducible first | exact HB.out | apply below_alloc | apply pw_below_drewN | apply below_drew1) | exact HB.out)) hb); clear HB; have HB := n0_; clear n0_; (try clear hb); (try clear hb2); (try clear hk); (try clear hi)))
                        go_ret
                        exact ⟨by first | rfl | (simp [errW_none, errW_some] <;> rfl) | (simp [*, errW_none, errW_some] <;> rfl), by repeat (first | (with_reducible first | exact HB.out | apply below_alloc | apply pw_below_drewN | apply below_drew1) | exact HB.out)⟩
                      · rw [if_neg c22] at H
                        exact absurd H (by simp)
                    · rw [if_neg c20] at H
                      exact absurd H (by simp)
                  · rw [if_neg c19] at H
                    exact absurd H (by simp)
                · rw [if_neg c18] at H
                  have c18b0 : decide ((Int.tmod (wrap64 (a0 - 7)) 8) < 2) = false := decide_eq_false c18
                  clear c18
                  by_cases c26 : (Int.tmod (wrap64 (a0 - 7)) 8) = 2
                  · rw [if_pos c26] at H
                    have c26b0 : ((Int.tmod (wrap64 (a0 - 7)) 8) == 2) = true := beq_iff_eq.mpr c26
                    have c26b1 : ((Int.tmod (wrap64 (a0 - 7)) 8) != 2) = false := bne_eq_false_iff_eq.mpr c26
                    clear c26
                    by_cases c27 : 5 + ((((⟨#[32]⟩ : ByteArray) ++ t110) ++ (⟨#[32]⟩ : ByteArray)) ++ t111).size ≤ 9223372036854775807
                    · rw [if_pos c27] at H
                      have c27b0 := eq_true c27
                      have c27b1 : decide (5 + ((((⟨#[32]⟩ : ByteArray) ++ t110) ++ (⟨#[32]⟩ : ByteArray)) ++ t111).size ≤ 9223372036854775807) = true := decide_eq_true c27
                      try have c27b2 : (9223372036854775807 < 5 + ((((⟨#[32]⟩ : ByteArray) ++ t110) ++ (⟨#[32]⟩ : ByteArray)) ++ t111).size) = False := eq_false (Nat.not_lt.2 c27)
                      have q_ := c27
                      simp only [ByteArray.size_append, show (⟨#[101, 112, 111, 99, 104]⟩ : ByteArray).size = 5 from rfl, show (⟨#[103, 97, 117, 103, 101]⟩ : ByteArray).size = 5 from rfl, show (⟨#[105, 110, 32]⟩ : ByteArray).size = 3 from rfl, show (⟨#[107, 101, 121, 32]⟩ : ByteArray).size = 4 from rfl, show (⟨#[114, 105, 110, 103]⟩ : ByteArray).size = 4 from rfl, show (⟨#[115, 116, 114, 105, 112, 101]⟩ : ByteArray).size = 6 from rfl, show (⟨#[115, 116, 97, 109, 112]⟩ : ByteArray).size = 5 from rfl, show (⟨#[116, 105, 99, 107, 101, 116]⟩ : ByteArray).size = 6 from rfl, show (⟨#[32]⟩ : ByteArray).size = 1 from rfl] at q_
                      have c27b3 := eq_false (Nat.not_lt.2 q_)
                      clear q_
                      obtain rfl := Option.some.inj H
                      go_enter Tryd.func12, Tryd.ntmps12
                      go_wp2_with (first | ((with_reducible refine gate_callee (f := 36) rfl ?_); refine goesL_ (some 9) rfl rfl Tryd.func36 (by kernel_rfl) rfl #[.int .i64 a0, .int .i64 0, .int .i64 70] rfl (by (try simp only [List.map_toArray, List.map_cons, List.map_nil]); first | done | rfl | (simp only [List.length_drop, List.length_take]; rfl)) ?_; (with_reducible refine (spec_l1In.calls a0 0 70 true _ A2.out).mono ?_); rintro e w' ⟨rfl, ⟨nd, rfl⟩⟩; refine ⟨_, rfl, ?_⟩) | ((with_reducible refine gate_callee (f := 8) rfl ?_); refine goesL_ (some 39) rfl rfl Tryd.func8 (by kernel_rfl) rfl #[.int .i64 (wrap64 (Int.tdiv (wrap64 (a0 - 7)) 32))] rfl (by (try simp only [List.map_toArray, List.map_cons, List.map_nil]); first | done | rfl | (simp only [List.length_drop, List.length_take]; rfl)) ?_; (with_reducible refine (spec_Dec.calls k (wrap64 (Int.tdiv (wrap64 (a0 - 7)) 32)) t110 _ A13.out).mono ?_); rintro e w28 ⟨rfl, hb⟩; refine ⟨_, rfl, ?_⟩; have n0_ := Aside0.mk (below_step (by repeat (first | (with_reducible first | exact HB.out | apply below_alloc | apply pw_below_drewN | apply below_drew1) | exact HB.out)) hb); clear HB; have HB := n0_; clear n0_; (try clear hb); (try clear hb2); (try clear hk); (try clear hi)) | ((with_reducible refine gate_callee (f := 8) rfl ?_); refine goesL_ (some 43) rfl rfl Tryd.func8 (by kernel_rfl) rfl #[.int .i64 (wrap64 (Int.tdiv (Int.tmod (wrap64 (a0 - 7)) 32) 8))] rfl (by (try simp only [List.map_toArray, List.map_cons, List.map_nil]); first | done | rfl | (simp only [List.length_drop, List.length_take]; rfl)) ?_; (with_reducible refine (spec_Dec.calls k (wrap64 (Int.tdiv (Int.tmod (wrap64 (a0 - 7)) 32) 8)) t111 _ A16.out).mono ?_); rintro e w29 ⟨rfl, hb⟩; refine ⟨_, rfl, ?_⟩; have n0_ := Aside0.mk (below_step (by repeat (first | (with_reducible first | exact HB.out | apply below_alloc | apply pw_below_drewN | apply below_drew1) | exact HB.out)) hb); clear HB; have HB := n0_; clear n0_; (try clear hb); (try clear hb2); (try clear hk); (try clear hi)))
                      go_ret
                      exact ⟨by first | rfl | (simp [errW_none, errW_some] <;> rfl) | (simp [*, errW_none, errW_some] <;> rfl), by repeat (first | (with_reducible first | exact HB.out | apply below_alloc | apply pw_below_drewN | apply below_drew1) | exact HB.out)⟩
                    · rw [if_neg c27] at H
                      exact absurd H (by simp)
                  · rw [if_neg c26] at H
                    have c26b0 : ((Int.tmod (wrap64 (a0 - 7)) 8) == 2) = false := beq_eq_false_iff_ne.mpr c26
                    have c26b1 : ((Int.tmod (wrap64 (a0 - 7)) 8) != 2) = true := bne_iff_ne.mpr c26
                    by_cases c30 : (Int.tmod (wrap64 (a0 - 7)) 8) = 3
                    · rw [if_pos c30] at H
                      have c30b0 : ((Int.tmod (wrap64 (a0 - 7)) 8) == 3) = true := beq_iff_eq.mpr c30
                      have c30b1 : ((Int.tmod (wrap64 (a0 - 7)) 8) != 3) = false := bne_eq_false_iff_eq.mpr c30
                      clear c30
                      by_cases c31 : 5 + ((((⟨#[32]⟩ : ByteArray) ++ t110) ++ (⟨#[32]⟩ : ByteArray)) ++ t111).size ≤ 9223372036854775807
                      · rw [if_pos c31] at H
                        have c31b0 := eq_true c31
                        have c31b1 : decide (5 + ((((⟨#[32]⟩ : ByteArray) ++ t110) ++ (⟨#[32]⟩ : ByteArray)) ++ t111).size ≤ 9223372036854775807) = true := decide_eq_true c31
                        try have c31b2 : (9223372036854775807 < 5 + ((((⟨#[32]⟩ : ByteArray) ++ t110) ++ (⟨#[32]⟩ : ByteArray)) ++ t111).size) = False := eq_false (Nat.not_lt.2 c31)
                        have q_ := c31
                        simp only [ByteArray.size_append, show (⟨#[101, 112, 111, 99, 104]⟩ : ByteArray).size = 5 from rfl, show (⟨#[103, 97, 117, 103, 101]⟩ : ByteArray).size = 5 from rfl, show (⟨#[105, 110, 32]⟩ : ByteArray).size = 3 from rfl, show (⟨#[107, 101, 121, 32]⟩ : ByteArray).size = 4 from rfl, show (⟨#[114, 105, 110, 103]⟩ : ByteArray).size = 4 from rfl, show (⟨#[115, 116, 114, 105, 112, 101]⟩ : ByteArray).size = 6 from rfl, show (⟨#[115, 116, 97, 109, 112]⟩ : ByteArray).size = 5 from rfl, show (⟨#[116, 105, 99, 107, 101, 116]⟩ : ByteArray).size = 6 from rfl, show (⟨#[32]⟩ : ByteArray).size = 1 from rfl] at q_
                        have c31b3 := eq_false (Nat.not_lt.2 q_)
                        clear q_
                        obtain rfl := Option.some.inj H
                        go_enter Tryd.func12, Tryd.ntmps12
                        go_wp2_with (first | ((with_reducible refine gate_callee (f := 36) rfl ?_); refine goesL_ (some 9) rfl rfl Tryd.func36 (by kernel_rfl) rfl #[.int .i64 a0, .int .i64 0, .int .i64 70] rfl (by (try simp only [List.map_toArray, List.map_cons, List.map_nil]); first | done | rfl | (simp only [List.length_drop, List.length_take]; rfl)) ?_; (with_reducible refine (spec_l1In.calls a0 0 70 true _ A2.out).mono ?_); rintro e w' ⟨rfl, ⟨nd, rfl⟩⟩; refine ⟨_, rfl, ?_⟩) | ((with_reducible refine gate_callee (f := 8) rfl ?_); refine goesL_ (some 39) rfl rfl Tryd.func8 (by kernel_rfl) rfl #[.int .i64 (wrap64 (Int.tdiv (wrap64 (a0 - 7)) 32))] rfl (by (try simp only [List.map_toArray, List.map_cons, List.map_nil]); first | done | rfl | (simp only [List.length_drop, List.length_take]; rfl)) ?_; (with_reducible refine (spec_Dec.calls k (wrap64 (Int.tdiv (wrap64 (a0 - 7)) 32)) t110 _ A13.out).mono ?_); rintro e w32 ⟨rfl, hb⟩; refine ⟨_, rfl, ?_⟩; have n0_ := Aside0.mk (below_step (by repeat (first | (with_reducible first | exact HB.out | apply below_alloc | apply pw_below_drewN | apply below_drew1) | exact HB.out)) hb); clear HB; have HB := n0_; clear n0_; (try clear hb); (try clear hb2); (try clear hk); (try clear hi)) | ((with_reducible refine gate_callee (f := 8) rfl ?_); refine goesL_ (some 43) rfl rfl Tryd.func8 (by kernel_rfl) rfl #[.int .i64 (wrap64 (Int.tdiv (Int.tmod (wrap64 (a0 - 7)) 32) 8))] rfl (by (try simp only [List.map_toArray, List.map_cons, List.map_nil]); first | done | rfl | (simp only [List.length_drop, List.length_take]; rfl)) ?_; (with_reducible refine (spec_Dec.calls k (wrap64 (Int.tdiv (Int.tmod (wrap64 (a0 - 7)) 32) 8)) t111 _ A16.out).mono ?_); rintro e w33 ⟨rfl, hb⟩; refine ⟨_, rfl, ?_⟩; have n0_ := Aside0.mk (below_step (by repeat (first | (with_reducible first | exact HB.out | apply below_alloc | apply pw_below_drewN | apply below_drew1) | exact HB.out)) hb); clear HB; have HB := n0_; clear n0_; (try clear hb); (try clear hb2); (try clear hk); (try clear hi)))
                        go_ret
                        exact ⟨by first | rfl | (simp [errW_none, errW_some] <;> rfl) | (simp [*, errW_none, errW_some] <;> rfl), by repeat (first | (with_reducible first | exact HB.out | apply below_alloc | apply pw_below_drewN | apply below_drew1) | exact HB.out)⟩
                      · rw [if_neg c31] at H
                        exact absurd H (by simp)
                    · rw [if_neg c30] at H
                      have c30b0 : ((Int.tmod (wrap64 (a0 - 7)) 8) == 3) = false := beq_eq_false_iff_ne.mpr c30
                      have c30b1 : ((Int.tmod (wrap64 (a0 - 7)) 8) != 3) = true := bne_iff_ne.mpr c30
                      by_cases c34 : (Int.tmod (wrap64 (a0 - 7)) 8) = 4
                      · rw [if_pos c34] at H
                        have c34b0 : ((Int.tmod (wrap64 (a0 - 7)) 8) == 4) = true := beq_iff_eq.mpr c34
                        have c34b1 : ((Int.tmod (wrap64 (a0 - 7)) 8) != 4) = false := bne_eq_false_iff_eq.mpr c34
                        clear c34
                        by_cases c35 : 6 + ((((⟨#[32]⟩ : ByteArray) ++ t110) ++ (⟨#[32]⟩ : ByteArray)) ++ t111).size ≤ 9223372036854775807
                        · rw [if_pos c35] at H
                          have c35b0 := eq_true c35
                          have c35b1 : decide (6 + ((((⟨#[32]⟩ : ByteArray) ++ t110) ++ (⟨#[32]⟩ : ByteArray)) ++ t111).size ≤ 9223372036854775807) = true := decide_eq_true c35
                          try have c35b2 : (9223372036854775807 < 6 + ((((⟨#[32]⟩ : ByteArray) ++ t110) ++ (⟨#[32]⟩ : ByteArray)) ++ t111).size) = False := eq_false (Nat.not_lt.2 c35)
                          have q_ := c35
                          simp only [ByteArray.size_append, show (⟨#[101, 112, 111, 99, 104]⟩ : ByteArray).size = 5 from rfl, show (⟨#[103, 97, 117, 103, 101]⟩ : ByteArray).size = 5 from rfl, show (⟨#[105, 110, 32]⟩ : ByteArray).size = 3 from rfl, show (⟨#[107, 101, 121, 32]⟩ : ByteArray).size = 4 from rfl, show (⟨#[114, 105, 110, 103]⟩ : ByteArray).size = 4 from rfl, show (⟨#[115, 116, 114, 105, 112, 101]⟩ : ByteArray).size = 6 from rfl, show (⟨#[115, 116, 97, 109, 112]⟩ : ByteArray).size = 5 from rfl, show (⟨#[116, 105, 99, 107, 101, 116]⟩ : ByteArray).size = 6 from rfl, show (⟨#[32]⟩ : ByteArray).size = 1 from rfl] at q_
                          have c35b3 := eq_false (Nat.not_lt.2 q_)
                          clear q_
                          obtain rfl := Option.some.inj H
                          go_enter Tryd.func12, Tryd.ntmps12
                          go_wp2_with (first | ((with_reducible refine gate_callee (f := 36) rfl ?_); refine goesL_ (some 9) rfl rfl Tryd.func36 (by kernel_rfl) rfl #[.int .i64 a0, .int .i64 0, .int .i64 70] rfl (by (try simp only [List.map_toArray, List.map_cons, List.map_nil]); first | done | rfl | (simp only [List.length_drop, List.length_take]; rfl)) ?_; (with_reducible refine (spec_l1In.calls a0 0 70 true _ A2.out).mono ?_); rintro e w' ⟨rfl, ⟨nd, rfl⟩⟩; refine ⟨_, rfl, ?_⟩) | ((with_reducible refine gate_callee (f := 8) rfl ?_); refine goesL_ (some 39) rfl rfl Tryd.func8 (by kernel_rfl) rfl #[.int .i64 (wrap64 (Int.tdiv (wrap64 (a0 - 7)) 32))] rfl (by (try simp only [List.map_toArray, List.map_cons, List.map_nil]); first | done | rfl | (simp only [List.length_drop, List.length_take]; rfl)) ?_; (with_reducible refine (spec_Dec.calls k (wrap64 (Int.tdiv (wrap64 (a0 - 7)) 32)) t110 _ A13.out).mono ?_); rintro e w36 ⟨rfl, hb⟩; refine ⟨_, rfl, ?_⟩; have n0_ := Aside0.mk (below_step (by repeat (first | (with_reducible first | exact HB.out | apply below_alloc | apply pw_below_drewN | apply below_drew1) | exact HB.out)) hb); clear HB; have HB := n0_; clear n0_; (try clear hb); (try clear hb2); (try clear hk); (try clear hi)) | ((with_reducible refine gate_callee (f := 8) rfl ?_); refine goesL_ (some 43) rfl rfl Tryd.func8 (by kernel_rfl) rfl #[.int .i64 (wrap64 (Int.tdiv (Int.tmod (wrap64 (a0 - 7)) 32) 8))] rfl (by (try simp only [List.map_toArray, List.map_cons, List.map_nil]); first | done | rfl | (simp only [List.length_drop, List.length_take]; rfl)) ?_; (with_reducible refine (spec_Dec.calls k (wrap64 (Int.tdiv (Int.tmod (wrap64 (a0 - 7)) 32) 8)) t111 _ A16.out).mono ?_); rintro e w37 ⟨rfl, hb⟩; refine ⟨_, rfl, ?_⟩; have n0_ := Aside0.mk (below_step (by repeat (first | (with_reducible first | exact HB.out | apply below_alloc | apply pw_below_drewN | apply below_drew1) | exact HB.out)) hb); clear HB; have HB := n0_; clear n0_; (try clear hb); (try clear hb2); (try clear hk); (try clear hi)))
                          go_ret
                          exact ⟨by first | rfl | (simp [errW_none, errW_some] <;> rfl) | (simp [*, errW_none, errW_some] <;> rfl), by repeat (first | (with_reducible first | exact HB.out | apply below_alloc | apply pw_below_drewN | apply below_drew1) | exact HB.out)⟩
                        · rw [if_neg c35] at H
                          exact absurd H (by simp)
                      · rw [if_neg c34] at H
                        have c34b0 : ((Int.tmod (wrap64 (a0 - 7)) 8) == 4) = false := beq_eq_false_iff_ne.mpr c34
                        have c34b1 : ((Int.tmod (wrap64 (a0 - 7)) 8) != 4) = true := bne_iff_ne.mpr c34
                        by_cases c38 : 4 + ((((⟨#[32]⟩ : ByteArray) ++ t110) ++ (⟨#[32]⟩ : ByteArray)) ++ t111).size ≤ 9223372036854775807
                        · rw [if_pos c38] at H
                          have c38b0 := eq_true c38
                          have c38b1 : decide (4 + ((((⟨#[32]⟩ : ByteArray) ++ t110) ++ (⟨#[32]⟩ : ByteArray)) ++ t111).size ≤ 9223372036854775807) = true := decide_eq_true c38
                          try have c38b2 : (9223372036854775807 < 4 + ((((⟨#[32]⟩ : ByteArray) ++ t110) ++ (⟨#[32]⟩ : ByteArray)) ++ t111).size) = False := eq_false (Nat.not_lt.2 c38)
                          have q_ := c38
                          simp only [ByteArray.size_append, show (⟨#[101, 112, 111, 99, 104]⟩ : ByteArray).size = 5 from rfl, show (⟨#[103, 97, 117, 103, 101]⟩ : ByteArray).size = 5 from rfl, show (⟨#[105, 110, 32]⟩ : ByteArray).size = 3 from rfl, show (⟨#[107, 101, 121, 32]⟩ : ByteArray).size = 4 from rfl, show (⟨#[114, 105, 110, 103]⟩ : ByteArray).size = 4 from rfl, show (⟨#[115, 116, 114, 105, 112, 101]⟩ : ByteArray).size = 6 from rfl, show (⟨#[115, 116, 97, 109, 112]⟩ : ByteArray).size = 5 from rfl, show (⟨#[116, 105, 99, 107, 101, 116]⟩ : ByteArray).size = 6 from rfl, show (⟨#[32]⟩ : ByteArray).size = 1 from rfl] at q_
                          have c38b3 := eq_false (Nat.not_lt.2 q_)
                          clear q_
                          by_cases c39 : ((⟨#[114, 105, 110, 103]⟩ : ByteArray) ++ ((((⟨#[32]⟩ : ByteArray) ++ t110) ++ (⟨#[32]⟩ : ByteArray)) ++ t111)).size + 1 ≤ 9223372036854775807
                          · rw [if_pos c39] at H
                            have c39b0 := eq_true c39
                            have c39b1 : decide (((⟨#[114, 105, 110, 103]⟩ : ByteArray) ++ ((((⟨#[32]⟩ : ByteArray) ++ t110) ++ (⟨#[32]⟩ : ByteArray)) ++ t111)).size + 1 ≤ 9223372036854775807) = true := decide_eq_true c39
                            try have c39b2 : (9223372036854775807 < ((⟨#[114, 105, 110, 103]⟩ : ByteArray) ++ ((((⟨#[32]⟩ : ByteArray) ++ t110) ++ (⟨#[32]⟩ : ByteArray)) ++ t111)).size + 1) = False := eq_false (Nat.not_lt.2 c39)
                            have q_ := c39
                            simp only [ByteArray.size_append, show (⟨#[101, 112, 111, 99, 104]⟩ : ByteArray).size = 5 from rfl, show (⟨#[103, 97, 117, 103, 101]⟩ : ByteArray).size = 5 from rfl, show (⟨#[105, 110, 32]⟩ : ByteArray).size = 3 from rfl, show (⟨#[107, 101, 121, 32]⟩ : ByteArray).size = 4 from rfl, show (⟨#[114, 105, 110, 103]⟩ : ByteArray).size = 4 from rfl, show (⟨#[115, 116, 114, 105, 112, 101]⟩ : ByteArray).size = 6 from rfl, show (⟨#[115, 116, 97, 109, 112]⟩ : ByteArray).size = 5 from rfl, show (⟨#[116, 105, 99, 107, 101, 116]⟩ : ByteArray).size = 6 from rfl, show (⟨#[32]⟩ : ByteArray).size = 1 from rfl] at q_
                            have c39b3 := eq_false (Nat.not_lt.2 q_)
                            clear q_
                            replace H := Option.bind_eq_some_iff.mp H
                            obtain ⟨t113, A400, H⟩ := H
                            replace H : (if (((⟨#[114, 105, 110, 103]⟩ : ByteArray) ++ ((((⟨#[32]⟩ : ByteArray) ++ t110) ++ (⟨#[32]⟩ : ByteArray)) ++ t111)) ++ (⟨#[32]⟩ : ByteArray)).size + t113.size ≤ 9223372036854775807 then (some ((((⟨#[114, 105, 110, 103]⟩ : ByteArray) ++ ((((⟨#[32]⟩ : ByteArray) ++ t110) ++ (⟨#[32]⟩ : ByteArray)) ++ t111)) ++ (⟨#[32]⟩ : ByteArray)) ++ t113)) else (none)) = some r := H
                            have A40 := Aside0.mk A400
                            clear A400
                            by_cases c41 : (((⟨#[114, 105, 110, 103]⟩ : ByteArray) ++ ((((⟨#[32]⟩ : ByteArray) ++ t110) ++ (⟨#[32]⟩ : ByteArray)) ++ t111)) ++ (⟨#[32]⟩ : ByteArray)).size + t113.size ≤ 9223372036854775807
                            · rw [if_pos c41] at H
                              have c41b0 := eq_true c41
                              have c41b1 : decide ((((⟨#[114, 105, 110, 103]⟩ : ByteArray) ++ ((((⟨#[32]⟩ : ByteArray) ++ t110) ++ (⟨#[32]⟩ : ByteArray)) ++ t111)) ++ (⟨#[32]⟩ : ByteArray)).size + t113.size ≤ 9223372036854775807) = true := decide_eq_true c41
                              try have c41b2 : (9223372036854775807 < (((⟨#[114, 105, 110, 103]⟩ : ByteArray) ++ ((((⟨#[32]⟩ : ByteArray) ++ t110) ++ (⟨#[32]⟩ : ByteArray)) ++ t111)) ++ (⟨#[32]⟩ : ByteArray)).size + t113.size) = False := eq_false (Nat.not_lt.2 c41)
                              have q_ := c41
                              simp only [ByteArray.size_append, show (⟨#[101, 112, 111, 99, 104]⟩ : ByteArray).size = 5 from rfl, show (⟨#[103, 97, 117, 103, 101]⟩ : ByteArray).size = 5 from rfl, show (⟨#[105, 110, 32]⟩ : ByteArray).size = 3 from rfl, show (⟨#[107, 101, 121, 32]⟩ : ByteArray).size = 4 from rfl, show (⟨#[114, 105, 110, 103]⟩ : ByteArray).size = 4 from rfl, show (⟨#[115, 116, 114, 105, 112, 101]⟩ : ByteArray).size = 6 from rfl, show (⟨#[115, 116, 97, 109, 112]⟩ : ByteArray).size = 5 from rfl, show (⟨#[116, 105, 99, 107, 101, 116]⟩ : ByteArray).size = 6 from rfl, show (⟨#[32]⟩ : ByteArray).size = 1 from rfl] at q_
                              have c41b3 := eq_false (Nat.not_lt.2 q_)
                              clear q_
                              obtain rfl := Option.some.inj H
                              go_enter Tryd.func12, Tryd.ntmps12
                              go_wp2_with (first | ((with_reducible refine gate_callee (f := 36) rfl ?_); refine goesL_ (some 9) rfl rfl Tryd.func36 (by kernel_rfl) rfl #[.int .i64 a0, .int .i64 0, .int .i64 70] rfl (by (try simp only [List.map_toArray, List.map_cons, List.map_nil]); first | done | rfl | (simp only [List.length_drop, List.length_take]; rfl)) ?_; (with_reducible refine (spec_l1In.calls a0 0 70 true _ A2.out).mono ?_); rintro e w' ⟨rfl, ⟨nd, rfl⟩⟩; refine ⟨_, rfl, ?_⟩) | ((with_reducible refine gate_callee (f := 8) rfl ?_); refine goesL_ (some 39) rfl rfl Tryd.func8 (by kernel_rfl) rfl #[.int .i64 (wrap64 (Int.tdiv (wrap64 (a0 - 7)) 32))] rfl (by (try simp only [List.map_toArray, List.map_cons, List.map_nil]); first | done | rfl | (simp only [List.length_drop, List.length_take]; rfl)) ?_; (with_reducible refine (spec_Dec.calls k (wrap64 (Int.tdiv (wrap64 (a0 - 7)) 32)) t110 _ A13.out).mono ?_); rintro e w42 ⟨rfl, hb⟩; refine ⟨_, rfl, ?_⟩; have n0_ := Aside0.mk (below_step (by repeat (first | (with_reducible first | exact HB.out | apply below_alloc | apply pw_below_drewN | apply below_drew1) | exact HB.out)) hb); clear HB; have HB := n0_; clear n0_; (try clear hb); (try clear hb2); (try clear hk); (try clear hi)) | ((with_reducible refine gate_callee (f := 8) rfl ?_); refine goesL_ (some 43) rfl rfl Tryd.func8 (by kernel_rfl) rfl #[.int .i64 (wrap64 (Int.tdiv (Int.tmod (wrap64 (a0 - 7)) 32) 8))] rfl (by (try simp only [List.map_toArray, List.map_cons, List.map_nil]); first | done | rfl | (simp only [List.length_drop, List.length_take]; rfl)) ?_; (with_reducible refine (spec_Dec.calls k (wrap64 (Int.tdiv (Int.tmod (wrap64 (a0 - 7)) 32) 8)) t111 _ A16.out).mono ?_); rintro e w43 ⟨rfl, hb⟩; refine ⟨_, rfl, ?_⟩; have n0_ := Aside0.mk (below_step (by repeat (first | (with_reducible first | exact HB.out | apply below_alloc | apply pw_below_drewN | apply below_drew1) | exact HB.out)) hb); clear HB; have HB := n0_; clear n0_; (try clear hb); (try clear hb2); (try clear hk); (try clear hi)) | ((with_reducible refine gate_callee (f := 8) rfl ?_); refine goesL_ (some 74) rfl rfl Tryd.func8 (by kernel_rfl) rfl #[.int .i64 (wrap64 ((Int.tmod (wrap64 (a0 - 7)) 8) - 5))] rfl (by (try simp only [List.map_toArray, List.map_cons, List.map_nil]); first | done | rfl | (simp only [List.length_drop, List.length_take]; rfl)) ?_; (with_reducible refine (spec_Dec.calls k (wrap64 ((Int.tmod (wrap64 (a0 - 7)) 8) - 5)) t113 _ A40.out).mono ?_); rintro e w44 ⟨rfl, hb⟩; refine ⟨_, rfl, ?_⟩; have n0_ := Aside0.mk (below_step (by repeat (first | (with_reducible first | exact HB.out | apply below_alloc | apply pw_below_drewN | apply below_drew1) | exact HB.out)) hb); clear HB; have HB := n0_; clear n0_; (try clear hb); (try clear hb2); (try clear hk); (try clear hi)))
                              go_ret
                              exact ⟨by first | rfl | (simp [errW_none, errW_some] <;> rfl) | (simp [*, errW_none, errW_some] <;> rfl), by repeat (first | (with_reducible first | exact HB.out | apply below_alloc | apply pw_below_drewN | apply below_drew1) | exact HB.out)⟩
                            · rw [if_neg c41] at H
                              exact absurd H (by simp)
                          · rw [if_neg c39] at H
                            exact absurd H (by simp)
                        · rw [if_neg c38] at H
                          exact absurd H (by simp)
              · rw [if_neg c17] at H
                exact absurd H (by simp)
            · rw [if_neg c15] at H
              exact absurd H (by simp)
          · rw [if_neg c14] at H
            exact absurd H (by simp)
  · replace c3 := Bool.eq_false_iff.mpr c3
    subst c3
    have H1 : (some (⟨#[]⟩ : ByteArray)) = some r := by rw [if_neg (show ¬ (false = true) by decide)] at H; exact H
    clear H
    have H := H1
    clear H1
    obtain rfl := Option.some.inj H
    go_enter Tryd.func12, Tryd.ntmps12
    go_wp2_with (first | ((with_reducible refine gate_callee (f := 36) rfl ?_); refine goesL_ (some 9) rfl rfl Tryd.func36 (by kernel_rfl) rfl #[.int .i64 a0, .int .i64 0, .int .i64 70] rfl (by (try simp only [List.map_toArray, List.map_cons, List.map_nil]); first | done | rfl | (simp only [List.length_drop, List.length_take]; rfl)) ?_; (with_reducible refine (spec_l1In.calls a0 0 70 false _ A2.out).mono ?_); rintro e w' ⟨rfl, ⟨nd, rfl⟩⟩; refine ⟨_, rfl, ?_⟩))
    go_ret
    exact ⟨by first | rfl | (simp [errW_none, errW_some] <;> rfl) | (simp [*, errW_none, errW_some] <;> rfl), by repeat (first | (with_reducible first | exact HB.out | apply below_alloc | apply pw_below_drewN | apply below_drew1) | exact HB.out)⟩


end Go.Proofs.YtemefkkbeaaeoaaDoor.PFnExactCellName
