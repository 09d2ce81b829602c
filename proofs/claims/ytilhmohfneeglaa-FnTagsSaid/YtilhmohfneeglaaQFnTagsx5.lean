/- What is proved here: contracts of the Go functions that the law FnTags reaches, for its row; no condition. The draft was printed; this text is not the print. -/
import Derived.Test.YtilhmohfneeglaaQFnTagsx0
import Derived.Test.YtilhmohfneeglaaQFnTagsx1
import Derived.Test.YtilhmohfneeglaaQFnTagsx2
import Derived.Test.YtilhmohfneeglaaQFnTagsx3
import Derived.Test.YtilhmohfneeglaaQFnTagsx4
namespace Go.Proofs.Ytilhmohfneeglaa.PFnTags
open Go.RowKit Go.Proofs.YtilhmohfneeglaaW.PrintWords Go.Proofs.YtilhmohfneeglaaW.PrintLast Go.Proofs.YtilhmohfneeglaaW.PrintMore
attribute [local go_sem] max2_int min2_int max_two min_two max_three min_three max_four min_four   -- for this text's walks alone
set_option linter.unusedVariables false
set_option linter.unusedSimpArgs false

/-! ### laws_FnTags: function 9 -/
mutual
def laws_FnTags.j0 : Nat → List Int → Bool → Option (Bool)
  | 0, _, _ => none
  | k + 1, x0, x54 => if x54 = true then (some false) else ((spec_DrawPackGauge.f k x0).bind fun bt225 => ((impl_PackGauge.f bt225.1 bt225.2).bind fun t227 => ((impl_UnpackGauge.f t227).bind fun bt228 => (if t227 = 0 then (laws_FnTags.j1 k x0 bt225.1 t227 (bt228.1 != 0)) else (if bt225.1 = bt228.1 then (if bt225.2 = bt228.2 then (laws_FnTags.j1 k x0 bt225.1 t227 false) else (laws_FnTags.j1 k x0 bt225.1 t227 true)) else (laws_FnTags.j1 k x0 bt225.1 t227 true))))))
def laws_FnTags.j1 : Nat → List Int → Int → Int → Bool → Option (Bool)
  | 0, _, _, _, _ => none
  | k + 1, x0, x8, x10, x87 => if x87 = true then (some false) else (if x10 = 0 then (some true) else (if x8 = 65535 then (some true) else ((impl_PackGauge.f (wrap64 (x8 + 1)) 0).bind fun t230 => (if t230 > x10 then ((laws_at.f x0 0).bind fun t231 => ((impl_KindWord.f (wrap64 (1 + (Int.tmod t231 3)))).bind fun t232 => ((impl_KindOf.f k t232).bind fun t233 => ((laws_at.f x0 0).bind fun t234 => (some (t233 == (wrap64 (1 + (Int.tmod t234 3))))))))) else (some false)))))
end
def laws_FnTags.f (k : Nat) (l0 : List Int) : Option (Bool) := (laws_big.f l0).bind fun t218 => (if t218 = true then (some true) else ((spec_DrawTagged.f k l0).bind fun bt219 => ((impl_Tagged.f k bt219.1 bt219.2).bind fun t221 => ((impl_Untag.f k t221).bind fun bt222 => ((spec_Tagged.f k bt219.1 bt219.2).bind fun t224 => (if t221 = t224 then (if t221 = 0 then (laws_FnTags.j0 k l0 (bt222.2 != 0)) else (if bt222.1.toList = bt219.1.toList then (if bt222.2 = bt219.2 then (laws_FnTags.j0 k l0 false) else (laws_FnTags.j0 k l0 true)) else (laws_FnTags.j0 k l0 true))) else (laws_FnTags.j0 k l0 true)))))))
theorem laws_FnTags.mono_l : ∀ k, (∀ y0 y1, LeO (laws_FnTags.j0 k y0 y1) (laws_FnTags.j0 (k + 1) y0 y1)) ∧ (∀ y0 y1 y2 y3, LeO (laws_FnTags.j1 k y0 y1 y2 y3) (laws_FnTags.j1 (k + 1) y0 y1 y2 y3))
  | 0 => ⟨fun _ _ r h => by simp [laws_FnTags.j0] at h, fun _ _ _ _ r h => by simp [laws_FnTags.j1] at h⟩
  | k + 1 => by
    obtain ⟨ih0, ih1⟩ := laws_FnTags.mono_l k
    refine ⟨?_, ?_⟩
    · intro y0 y1
      unfold laws_FnTags.j0
      repeat' first
      | (with_reducible exact ih0 _ _)
      | (with_reducible exact ih1 _ _ _ _)
      | (with_reducible exact impl_KindOf.mono _ _)
      | (with_reducible exact impl_Tagged.mono _ _ _)
      | (with_reducible exact impl_Untag.mono _ _)
      | (with_reducible exact spec_DrawPackGauge.mono _ _)
      | (with_reducible exact spec_DrawTagged.mono _ _)
      | (with_reducible exact spec_Tagged.mono _ _ _)
      | (with_reducible exact LeO.refl _)
      | (with_reducible exact LeO.none _)
      | (with_reducible refine LeO.ite ?_ ?_)
      | (with_reducible refine LeO.bind ?_ (fun _ => ?_))
      | exact ih0 _ _
      | exact ih1 _ _ _ _
      | exact impl_KindOf.mono _ _
      | exact impl_Tagged.mono _ _ _
      | exact impl_Untag.mono _ _
      | exact spec_DrawPackGauge.mono _ _
      | exact spec_DrawTagged.mono _ _
      | exact spec_Tagged.mono _ _ _
      | exact LeO.none _
      | refine LeO.ite ?_ ?_
      | refine LeO.bind ?_ (fun _ => ?_)
    · intro y0 y1 y2 y3
      unfold laws_FnTags.j1
      repeat' first
      | (with_reducible exact ih0 _ _)
      | (with_reducible exact ih1 _ _ _ _)
      | (with_reducible exact impl_KindOf.mono _ _)
      | (with_reducible exact impl_Tagged.mono _ _ _)
      | (with_reducible exact impl_Untag.mono _ _)
      | (with_reducible exact spec_DrawPackGauge.mono _ _)
      | (with_reducible exact spec_DrawTagged.mono _ _)
      | (with_reducible exact spec_Tagged.mono _ _ _)
      | (with_reducible exact LeO.refl _)
      | (with_reducible exact LeO.none _)
      | (with_reducible refine LeO.ite ?_ ?_)
      | (with_reducible refine LeO.bind ?_ (fun _ => ?_))
      | exact ih0 _ _
      | exact ih1 _ _ _ _
      | exact impl_KindOf.mono _ _
      | exact impl_Tagged.mono _ _ _
      | exact impl_Untag.mono _ _
      | exact spec_DrawPackGauge.mono _ _
      | exact spec_DrawTagged.mono _ _
      | exact spec_Tagged.mono _ _ _
      | exact LeO.none _
      | refine LeO.ite ?_ ?_
      | refine LeO.bind ?_ (fun _ => ?_)
theorem laws_FnTags.mono : ∀ a0 k, LeO (laws_FnTags.f k a0) (laws_FnTags.f (k + 1) a0) := by
  intro a0 k
  obtain ⟨ih0, ih1⟩ := laws_FnTags.mono_l k
  unfold laws_FnTags.f
  repeat' first
      | (with_reducible exact ih0 _ _)
      | (with_reducible exact ih1 _ _ _ _)
      | (with_reducible exact impl_KindOf.mono _ _)
      | (with_reducible exact impl_Tagged.mono _ _ _)
      | (with_reducible exact impl_Untag.mono _ _)
      | (with_reducible exact spec_DrawPackGauge.mono _ _)
      | (with_reducible exact spec_DrawTagged.mono _ _)
      | (with_reducible exact spec_Tagged.mono _ _ _)
      | (with_reducible exact LeO.refl _)
      | (with_reducible exact LeO.none _)
      | (with_reducible refine LeO.ite ?_ ?_)
      | (with_reducible refine LeO.bind ?_ (fun _ => ?_))
      | exact ih0 _ _
      | exact ih1 _ _ _ _
      | exact impl_KindOf.mono _ _
      | exact impl_Tagged.mono _ _ _
      | exact impl_Untag.mono _ _
      | exact spec_DrawPackGauge.mono _ _
      | exact spec_DrawTagged.mono _ _
      | exact spec_Tagged.mono _ _ _
      | exact LeO.none _
      | refine LeO.ite ?_ ?_
      | refine LeO.bind ?_ (fun _ => ?_)
set_option maxHeartbeats 8000000 in
set_option maxRecDepth 100000 in
theorem laws_FnTags.calls (k : Nat) (A0 : Option Addr) (c0 : Nat) (l0 : List Int) (r : Bool) (w : World) (hr0 : Kd.C (Kd.int .u8) w A0 l0.length l0) (hc0 : l0.length ≤ c0) (h : laws_FnTags.f k l0 = some r) :
    Calls Try.prog 9 #[.slice A0 l0.length c0] w fun e w' => e = .returned (.bool r) ∧ Below w.heap.size w w' := by
  have HR0 := Aside0.mk hr0
  have HC0 := Aside0.mk hc0
  clear hr0 hc0
  have HB := Aside0.mk (Below.refl w.heap.size w)
  have H : ((laws_big.f l0).bind fun t218 => (if t218 = true then (some true) else ((spec_DrawTagged.f k l0).bind fun bt219 => ((impl_Tagged.f k bt219.1 bt219.2).bind fun t221 => ((impl_Untag.f k t221).bind fun bt222 => ((spec_Tagged.f k bt219.1 bt219.2).bind fun t224 => (if t221 = t224 then (if t221 = 0 then (laws_FnTags.j0 k l0 (bt222.2 != 0)) else (if bt222.1.toList = bt219.1.toList then (if bt222.2 = bt219.2 then (laws_FnTags.j0 k l0 false) else (laws_FnTags.j0 k l0 true)) else (laws_FnTags.j0 k l0 true))) else (laws_FnTags.j0 k l0 true)))))))) = some r := h
  clear h
  replace H := Option.bind_eq_some_iff.mp H
  obtain ⟨t218, A20, H⟩ := H
  replace H : (if t218 = true then (some true) else ((spec_DrawTagged.f k l0).bind fun bt219 => ((impl_Tagged.f k bt219.1 bt219.2).bind fun t221 => ((impl_Untag.f k t221).bind fun bt222 => ((spec_Tagged.f k bt219.1 bt219.2).bind fun t224 => (if t221 = t224 then (if t221 = 0 then (laws_FnTags.j0 k l0 (bt222.2 != 0)) else (if bt222.1.toList = bt219.1.toList then (if bt222.2 = bt219.2 then (laws_FnTags.j0 k l0 false) else (laws_FnTags.j0 k l0 true)) else (laws_FnTags.j0 k l0 true))) else (laws_FnTags.j0 k l0 true))))))) = some r := H
  have A2 := Aside0.mk A20
  clear A20
  by_cases c3 : t218 = true
  · subst c3
    have H1 : (some true) = some r := by rw [if_pos rfl] at H; exact H
    clear H
    have H := H1
    clear H1
    obtain rfl := Option.some.inj H
    go_enter Try.func9, Try.ntmps9
    go_wp2_with (first | ((with_reducible refine gate_callee (f := 20) rfl ?_); refine goesL_ (some 14) rfl rfl Try.func20 (by kernel_rfl) rfl #[.slice A0 l0.length c0] rfl (by (try simp only [List.map_toArray, List.map_cons, List.map_nil]); first | done | rfl | (simp only [List.length_drop, List.length_take]; rfl)) ?_; (with_reducible refine (laws_big.calls _ _ l0 true _ ?side1 ?side2 A2.out).mono ?_); (case side1 => repeat (first | exact HR0.out | (with_reducible refine Kd.C_alloc ?_ _) | (with_reducible refine Kd.C_drewN ?_ _) | (with_reducible refine Kd.C_drew ?_))); (case side2 => exact HC0.out); rintro e w' ⟨rfl, ⟨nd, rfl⟩⟩; refine ⟨_, rfl, ?_⟩))
    go_ret
    exact ⟨by first | rfl | (simp [errW_none, errW_some] <;> rfl) | (simp [*, errW_none, errW_some] <;> rfl), by repeat (first | (with_reducible first | exact HB.out | apply below_alloc | apply pw_below_drewN | apply below_drew1) | exact HB.out)⟩
  · replace c3 := Bool.eq_false_iff.mpr c3
    subst c3
    have H1 : ((spec_DrawTagged.f k l0).bind fun bt219 => ((impl_Tagged.f k bt219.1 bt219.2).bind fun t221 => ((impl_Untag.f k t221).bind fun bt222 => ((spec_Tagged.f k bt219.1 bt219.2).bind fun t224 => (if t221 = t224 then (if t221 = 0 then (laws_FnTags.j0 k l0 (bt222.2 != 0)) else (if bt222.1.toList = bt219.1.toList then (if bt222.2 = bt219.2 then (laws_FnTags.j0 k l0 false) else (laws_FnTags.j0 k l0 true)) else (laws_FnTags.j0 k l0 true))) else (laws_FnTags.j0 k l0 true)))))) = some r := by rw [if_neg (show ¬ (false = true) by decide)] at H; exact H
    clear H
    have H := H1
    clear H1
    replace H := Option.bind_eq_some_iff.mp H
    obtain ⟨⟨t219, t220⟩, A40, H⟩ := H
    replace H : ((impl_Tagged.f k t219 t220).bind fun t221 => ((impl_Untag.f k t221).bind fun bt222 => ((spec_Tagged.f k t219 t220).bind fun t224 => (if t221 = t224 then (if t221 = 0 then (laws_FnTags.j0 k l0 (bt222.2 != 0)) else (if bt222.1.toList = t219.toList then (if bt222.2 = t220 then (laws_FnTags.j0 k l0 false) else (laws_FnTags.j0 k l0 true)) else (laws_FnTags.j0 k l0 true))) else (laws_FnTags.j0 k l0 true))))) = some r := H
    have A4 := Aside0.mk A40
    clear A40
    replace H := Option.bind_eq_some_iff.mp H
    obtain ⟨t221, A50, H⟩ := H
    replace H : ((impl_Untag.f k t221).bind fun bt222 => ((spec_Tagged.f k t219 t220).bind fun t224 => (if t221 = t224 then (if t221 = 0 then (laws_FnTags.j0 k l0 (bt222.2 != 0)) else (if bt222.1.toList = t219.toList then (if bt222.2 = t220 then (laws_FnTags.j0 k l0 false) else (laws_FnTags.j0 k l0 true)) else (laws_FnTags.j0 k l0 true))) else (laws_FnTags.j0 k l0 true)))) = some r := H
    have A5 := Aside0.mk A50
    clear A50
    replace H := Option.bind_eq_some_iff.mp H
    obtain ⟨⟨t222, t223⟩, A60, H⟩ := H
    replace H : ((spec_Tagged.f k t219 t220).bind fun t224 => (if t221 = t224 then (if t221 = 0 then (laws_FnTags.j0 k l0 (t223 != 0)) else (if t222.toList = t219.toList then (if t223 = t220 then (laws_FnTags.j0 k l0 false) else (laws_FnTags.j0 k l0 true)) else (laws_FnTags.j0 k l0 true))) else (laws_FnTags.j0 k l0 true))) = some r := H
    have A6 := Aside0.mk A60
    clear A60
    have HC7 := Aside0.mk H
    clear H
    go_enter Try.func9, Try.ntmps9
    go_upto_region 6 with (first | ((with_reducible refine gate_callee (f := 20) rfl ?_); refine goesL_ (some 14) rfl rfl Try.func20 (by kernel_rfl) rfl #[.slice A0 l0.length c0] rfl (by (try simp only [List.map_toArray, List.map_cons, List.map_nil]); first | done | rfl | (simp only [List.length_drop, List.length_take]; rfl)) ?_; (with_reducible refine (laws_big.calls _ _ l0 false _ ?side1 ?side2 A2.out).mono ?_); (case side1 => repeat (first | exact HR0.out | (with_reducible refine Kd.C_alloc ?_ _) | (with_reducible refine Kd.C_drewN ?_ _) | (with_reducible refine Kd.C_drew ?_))); (case side2 => exact HC0.out); rintro e w' ⟨rfl, ⟨nd, rfl⟩⟩; refine ⟨_, rfl, ?_⟩) | ((with_reducible refine gate_callee (f := 27) rfl ?_); refine goesL_ (some 17) rfl rfl Try.func27 (by kernel_rfl) rfl #[.slice A0 l0.length c0] rfl (by (try simp only [List.map_toArray, List.map_cons, List.map_nil]); first | done | rfl | (simp only [List.length_drop, List.length_take]; rfl)) ?_; (with_reducible refine (spec_DrawTagged.calls k _ _ l0 t219 t220 _ ?side1 ?side2 A4.out).mono ?_); (case side1 => repeat (first | exact HR0.out | (with_reducible refine Kd.C_alloc ?_ _) | (with_reducible refine Kd.C_drewN ?_ _) | (with_reducible refine Kd.C_drew ?_))); (case side2 => exact HC0.out); rintro e w8 ⟨rfl, hb⟩; refine ⟨_, rfl, ?_⟩; have n0_ := Aside0.mk (below_step (by repeat (first | (with_reducible first | exact HB.out | apply below_alloc | apply pw_below_drewN | apply below_drew1) | exact HB.out)) hb); clear HB; have HB := n0_; clear n0_; (try clear hb); (try clear hb2); (try clear hk); (try clear hi)) | ((with_reducible refine gate_callee (f := 17) rfl ?_); refine goesL_ (some 22) rfl rfl Try.func17 (by kernel_rfl) rfl #[.string t219, .int .i64 t220] rfl (by (try simp only [List.map_toArray, List.map_cons, List.map_nil]); first | done | rfl | (simp only [List.length_drop, List.length_take]; rfl)) ?_; (with_reducible refine (impl_Tagged.calls k t219 t220 t221 _ A5.out).mono ?_); rintro e w' ⟨rfl, ⟨nd, rfl⟩⟩; refine ⟨_, rfl, ?_⟩) | ((with_reducible refine gate_callee (f := 19) rfl ?_); refine goesL_ (some 25) rfl rfl Try.func19 (by kernel_rfl) rfl #[.int .i64 t221] rfl (by (try simp only [List.map_toArray, List.map_cons, List.map_nil]); first | done | rfl | (simp only [List.length_drop, List.length_take]; rfl)) ?_; (with_reducible refine (impl_Untag.calls k t221 t222 t223 _ A6.out).mono ?_); rintro e w9 ⟨rfl, hb⟩; refine ⟨_, rfl, ?_⟩; have n0_ := Aside0.mk (below_step (by repeat (first | (with_reducible first | exact HB.out | apply below_alloc | apply pw_below_drewN | apply below_drew1) | exact HB.out)) hb); clear HB; have HB := n0_; clear n0_; (try clear hb); (try clear hb2); (try clear hk); (try clear hi)))
    (try simp only [Act.put, List.setIfInBounds_toArray, List.set_cons_zero, List.set_cons_succ])
    go_cut [54] (fun v54 wc => ∃ (kq : Nat) (x54_6 : Bool), v54 = .bool x54_6 ∧ Aside0 (laws_FnTags.j0 kq l0 x54_6 = some r) ∧ Aside0 (kq ≤ k) ∧ Aside0 (Below w.heap.size w wc))
    case first =>
      have H := HC7.out
      clear HC7
      replace H := Option.bind_eq_some_iff.mp H
      obtain ⟨t224, A100, H⟩ := H
      replace H : (if t221 = t224 then (if t221 = 0 then (laws_FnTags.j0 k l0 (t223 != 0)) else (if t222.toList = t219.toList then (if t223 = t220 then (laws_FnTags.j0 k l0 false) else (laws_FnTags.j0 k l0 true)) else (laws_FnTags.j0 k l0 true))) else (laws_FnTags.j0 k l0 true)) = some r := H
      have A10 := Aside0.mk A100
      clear A100
      by_cases c11 : t221 = t224
      · rw [if_pos c11] at H
        have c11b0 : (t221 == t224) = true := beq_iff_eq.mpr c11
        have c11b1 : (t221 != t224) = false := bne_eq_false_iff_eq.mpr c11
        clear c11
        (first | rw [c11b0] | (simp only [i64_w, i32_w]; rw [c11b0]) | skip)
        by_cases c12 : t221 = 0
        · rw [if_pos c12] at H
          have c12b0 : (t221 == 0) = true := beq_iff_eq.mpr c12
          have c12b1 : (t221 != 0) = false := bne_eq_false_iff_eq.mpr c12
          clear c12
          have H' := Aside0.mk H
          clear H
          go_wp2_with (first | ((with_reducible refine gate_callee (f := 16) rfl ?_); refine goesL_ (some 31) rfl rfl Try.func16 (by kernel_rfl) rfl #[.string t219, .int .i64 t220] rfl (by (try simp only [List.map_toArray, List.map_cons, List.map_nil]); first | done | rfl | (simp only [List.length_drop, List.length_take]; rfl)) ?_; (with_reducible refine (spec_Tagged.calls k t219 t220 t224 _ A10.out).mono ?_); rintro e w13 ⟨rfl, hb⟩; refine ⟨_, rfl, ?_⟩; have n0_ := Aside0.mk (below_step (by repeat (first | (with_reducible first | exact HB.out | apply below_alloc | apply pw_below_drewN | apply below_drew1) | exact HB.out)) hb); clear HB; have HB := n0_; clear n0_; (try clear hb); (try clear hb2); (try clear hk); (try clear hi)))
          go_meet
          case rel => exact ⟨_, ((t223 != 0)), (by first | rfl | (simp; done) | (simp [*]; done)), H', ⟨by first | omega | exact Nat.le_refl _⟩, ⟨by repeat (first | (with_reducible first | exact HB.out | apply below_alloc | apply pw_below_drewN | apply below_drew1) | exact HB.out)⟩⟩
        · rw [if_neg c12] at H
          have c12b0 : (t221 == 0) = false := beq_eq_false_iff_ne.mpr c12
          have c12b1 : (t221 != 0) = true := bne_iff_ne.mpr c12
          by_cases c14 : t222.toList = t219.toList
          · rw [if_pos c14] at H
            have c14b0 : (t222.toList == t219.toList) = true := beq_iff_eq.mpr c14
            have c14b1 : (t222.toList != t219.toList) = false := bne_eq_false_iff_eq.mpr c14
            clear c14
            by_cases c15 : t223 = t220
            · rw [if_pos c15] at H
              have c15b0 : (t223 == t220) = true := beq_iff_eq.mpr c15
              have c15b1 : (t223 != t220) = false := bne_eq_false_iff_eq.mpr c15
              clear c15
              have H' := Aside0.mk H
              clear H
              go_wp2_with (first | ((with_reducible refine gate_callee (f := 16) rfl ?_); refine goesL_ (some 31) rfl rfl Try.func16 (by kernel_rfl) rfl #[.string t219, .int .i64 t220] rfl (by (try simp only [List.map_toArray, List.map_cons, List.map_nil]); first | done | rfl | (simp only [List.length_drop, List.length_take]; rfl)) ?_; (with_reducible refine (spec_Tagged.calls k t219 t220 t224 _ A10.out).mono ?_); rintro e w16 ⟨rfl, hb⟩; refine ⟨_, rfl, ?_⟩; have n0_ := Aside0.mk (below_step (by repeat (first | (with_reducible first | exact HB.out | apply below_alloc | apply pw_below_drewN | apply below_drew1) | exact HB.out)) hb); clear HB; have HB := n0_; clear n0_; (try clear hb); (try clear hb2); (try clear hk); (try clear hi)))
              go_meet
              case rel => exact ⟨_, (false), (by first | rfl | (simp; done) | (simp [*]; done)), H', ⟨by first | omega | exact Nat.le_refl _⟩, ⟨by repeat (first | (with_reducible first | exact HB.out | apply below_alloc | apply pw_below_drewN | apply below_drew1) | exact HB.out)⟩⟩
            · rw [if_neg c15] at H
              have c15b0 : (t223 == t220) = false := beq_eq_false_iff_ne.mpr c15
              have c15b1 : (t223 != t220) = true := bne_iff_ne.mpr c15
              have H' := Aside0.mk H
              clear H
              go_wp2_with (first | ((with_reducible refine gate_callee (f := 16) rfl ?_); refine goesL_ (some 31) rfl rfl Try.func16 (by kernel_rfl) rfl #[.string t219, .int .i64 t220] rfl (by (try simp only [List.map_toArray, List.map_cons, List.map_nil]); first | done | rfl | (simp only [List.length_drop, List.length_take]; rfl)) ?_; (with_reducible refine (spec_Tagged.calls k t219 t220 t224 _ A10.out).mono ?_); rintro e w17 ⟨rfl, hb⟩; refine ⟨_, rfl, ?_⟩; have n0_ := Aside0.mk (below_step (by repeat (first | (with_reducible first | exact HB.out | apply below_alloc | apply pw_below_drewN | apply below_drew1) | exact HB.out)) hb); clear HB; have HB := n0_; clear n0_; (try clear hb); (try clear hb2); (try clear hk); (try clear hi)))
              go_meet
              case rel => exact ⟨_, (true), (by first | rfl | (simp; done) | (simp [*]; done)), H', ⟨by first | omega | exact Nat.le_refl _⟩, ⟨by repeat (first | (with_reducible first | exact HB.out | apply below_alloc | apply pw_below_drewN | apply below_drew1) | exact HB.out)⟩⟩
          · rw [if_neg c14] at H
            have c14b0 : (t222.toList == t219.toList) = false := beq_eq_false_iff_ne.mpr c14
            have c14b1 : (t222.toList != t219.toList) = true := bne_iff_ne.mpr c14
            have H' := Aside0.mk H
            clear H
            go_wp2_with (first | ((with_reducible refine gate_callee (f := 16) rfl ?_); refine goesL_ (some 31) rfl rfl Try.func16 (by kernel_rfl) rfl #[.string t219, .int .i64 t220] rfl (by (try simp only [List.map_toArray, List.map_cons, List.map_nil]); first | done | rfl | (simp only [List.length_drop, List.length_take]; rfl)) ?_; (with_reducible refine (spec_Tagged.calls k t219 t220 t224 _ A10.out).mono ?_); rintro e w18 ⟨rfl, hb⟩; refine ⟨_, rfl, ?_⟩; have n0_ := Aside0.mk (below_step (by repeat (first | (with_reducible first | exact HB.out | apply below_alloc | apply pw_below_drewN | apply below_drew1) | exact HB.out)) hb); clear HB; have HB := n0_; clear n0_; (try clear hb); (try clear hb2); (try clear hk); (try clear hi)))
            go_meet
            case rel => exact ⟨_, (true), (by first | rfl | (simp; done) | (simp [*]; done)), H', ⟨by first | omega | exact Nat.le_refl _⟩, ⟨by repeat (first | (with_reducible first | exact HB.out | apply below_alloc | apply pw_below_drewN | apply below_drew1) | exact HB.out)⟩⟩
      · rw [if_neg c11] at H
        have c11b0 : (t221 == t224) = false := beq_eq_false_iff_ne.mpr c11
        have c11b1 : (t221 != t224) = true := bne_iff_ne.mpr c11
        (first | rw [c11b0] | (simp only [i64_w, i32_w]; rw [c11b0]) | skip)
        have H' := Aside0.mk H
        clear H
        go_wp2_with (first | ((with_reducible refine gate_callee (f := 16) rfl ?_); refine goesL_ (some 31) rfl rfl Try.func16 (by kernel_rfl) rfl #[.string t219, .int .i64 t220] rfl (by (try simp only [List.map_toArray, List.map_cons, List.map_nil]); first | done | rfl | (simp only [List.length_drop, List.length_take]; rfl)) ?_; (with_reducible refine (spec_Tagged.calls k t219 t220 t224 _ A10.out).mono ?_); rintro e w19 ⟨rfl, hb⟩; refine ⟨_, rfl, ?_⟩; have n0_ := Aside0.mk (below_step (by repeat (first | (with_reducible first | exact HB.out | apply below_alloc | apply pw_below_drewN | apply below_drew1) | exact HB.out)) hb); clear HB; have HB := n0_; clear n0_; (try clear hb); (try clear hb2); (try clear hk); (try clear hi)))
        go_meet
        case rel => exact ⟨_, (true), (by first | rfl | (simp; done) | (simp [*]; done)), H', ⟨by first | omega | exact Nat.le_refl _⟩, ⟨by repeat (first | (with_reducible first | exact HB.out | apply below_alloc | apply pw_below_drewN | apply below_drew1) | exact HB.out)⟩⟩
    case rest =>
      clear HC7
      try clear c1
      try clear c2
      try clear p2
      try clear c3
      try clear c9
      try clear c11
      try clear c11b0
      try clear c11b1
      try clear c12
      try clear c12b0
      try clear c12b1
      try clear c14
      try clear c14b0
      try clear c14b1
      try clear c15
      try clear c15b0
      try clear c15b1
      try clear c16
      try clear c17
      try clear c19
      obtain ⟨kq, x54_6, rfl, HA, HJ6, HB⟩ := hcut
      cases kq with
      | zero => exact absurd HA.out (by simp [laws_FnTags.j0])
      | succ kj6 =>
        have H := HA.out
        clear HA
        simp only [laws_FnTags.j0] at H
        by_cases c20 : x54_6 = true
        · subst c20
          have H1 : (some false) = some r := by rw [if_pos rfl] at H; exact H
          clear H
          have H := H1
          clear H1
          obtain rfl := Option.some.inj H
          go_wp2
          go_ret
          exact ⟨by first | rfl | (simp [errW_none, errW_some] <;> rfl) | (simp [*, errW_none, errW_some] <;> rfl), by repeat (first | (with_reducible first | exact HB.out | apply below_alloc | apply pw_below_drewN | apply below_drew1) | exact HB.out)⟩
        · replace c20 := Bool.eq_false_iff.mpr c20
          subst c20
          have H1 : ((spec_DrawPackGauge.f kj6 l0).bind fun bt225 => ((impl_PackGauge.f bt225.1 bt225.2).bind fun t227 => ((impl_UnpackGauge.f t227).bind fun bt228 => (if t227 = 0 then (laws_FnTags.j1 kj6 l0 bt225.1 t227 (bt228.1 != 0)) else (if bt225.1 = bt228.1 then (if bt225.2 = bt228.2 then (laws_FnTags.j1 kj6 l0 bt225.1 t227 false) else (laws_FnTags.j1 kj6 l0 bt225.1 t227 true)) else (laws_FnTags.j1 kj6 l0 bt225.1 t227 true)))))) = some r := by rw [if_neg (show ¬ (false = true) by decide)] at H; exact H
          clear H
          have H := H1
          clear H1
          replace H := Option.bind_eq_some_iff.mp H
          obtain ⟨⟨t225, t226⟩, A210, H⟩ := H
          replace H : ((impl_PackGauge.f t225 t226).bind fun t227 => ((impl_UnpackGauge.f t227).bind fun bt228 => (if t227 = 0 then (laws_FnTags.j1 kj6 l0 t225 t227 (bt228.1 != 0)) else (if t225 = bt228.1 then (if t226 = bt228.2 then (laws_FnTags.j1 kj6 l0 t225 t227 false) else (laws_FnTags.j1 kj6 l0 t225 t227 true)) else (laws_FnTags.j1 kj6 l0 t225 t227 true))))) = some r := H
          have A21 := Aside0.mk A210
          clear A210
          replace H := Option.bind_eq_some_iff.mp H
          obtain ⟨t227, A220, H⟩ := H
          replace H : ((impl_UnpackGauge.f t227).bind fun bt228 => (if t227 = 0 then (laws_FnTags.j1 kj6 l0 t225 t227 (bt228.1 != 0)) else (if t225 = bt228.1 then (if t226 = bt228.2 then (laws_FnTags.j1 kj6 l0 t225 t227 false) else (laws_FnTags.j1 kj6 l0 t225 t227 true)) else (laws_FnTags.j1 kj6 l0 t225 t227 true)))) = some r := H
          have A22 := Aside0.mk A220
          clear A220
          replace H := Option.bind_eq_some_iff.mp H
          obtain ⟨⟨t228, t229⟩, A230, H⟩ := H
          replace H : (if t227 = 0 then (laws_FnTags.j1 kj6 l0 t225 t227 (t228 != 0)) else (if t225 = t228 then (if t226 = t229 then (laws_FnTags.j1 kj6 l0 t225 t227 false) else (laws_FnTags.j1 kj6 l0 t225 t227 true)) else (laws_FnTags.j1 kj6 l0 t225 t227 true))) = some r := H
          have A23 := Aside0.mk A230
          clear A230
          have HC24 := Aside0.mk H
          clear H
          go_upto_region 11 with (first | ((with_reducible refine gate_callee (f := 28) rfl ?_); refine goesL_ (some 57) rfl rfl Try.func28 (by kernel_rfl) rfl #[.slice A0 l0.length c0] rfl (by (try simp only [List.map_toArray, List.map_cons, List.map_nil]); first | done | rfl | (simp only [List.length_drop, List.length_take]; rfl)) ?_; (with_reducible refine (spec_DrawPackGauge.calls kj6 _ _ l0 t225 t226 _ ?side1 ?side2 A21.out).mono ?_); (case side1 => repeat (first | exact (Kd.C_below HR0.out HB.out) | (with_reducible refine Kd.C_alloc ?_ _) | (with_reducible refine Kd.C_drewN ?_ _) | (with_reducible refine Kd.C_drew ?_))); (case side2 => exact HC0.out); rintro e w25 ⟨rfl, hb⟩; refine ⟨_, rfl, ?_⟩; have n0_ := Aside0.mk (below_step (by repeat (first | (with_reducible first | exact HB.out | apply below_alloc | apply pw_below_drewN | apply below_drew1) | exact HB.out)) hb); clear HB; have HB := n0_; clear n0_; (try clear hb); (try clear hb2); (try clear hk); (try clear hi)) | ((with_reducible refine gate_callee (f := 29) rfl ?_); refine goesL_ (some 62) rfl rfl Try.func29 (by kernel_rfl) rfl #[.int .i64 t225, .int .i64 t226] rfl (by (try simp only [List.map_toArray, List.map_cons, List.map_nil]); first | done | rfl | (simp only [List.length_drop, List.length_take]; rfl)) ?_; (with_reducible refine (impl_PackGauge.calls t225 t226 t227 _ A22.out).mono ?_); rintro e w' ⟨rfl, ⟨nd, rfl⟩⟩; refine ⟨_, rfl, ?_⟩) | ((with_reducible refine gate_callee (f := 30) rfl ?_); refine goesL_ (some 65) rfl rfl Try.func30 (by kernel_rfl) rfl #[.int .i64 t227] rfl (by (try simp only [List.map_toArray, List.map_cons, List.map_nil]); first | done | rfl | (simp only [List.length_drop, List.length_take]; rfl)) ?_; (with_reducible refine (impl_UnpackGauge.calls t227 t228 t229 _ A23.out).mono ?_); rintro e w' ⟨rfl, ⟨nd, rfl⟩⟩; refine ⟨_, rfl, ?_⟩))
          (try simp only [Act.put, List.setIfInBounds_toArray, List.set_cons_zero, List.set_cons_succ])
          go_cut [87] (fun v87 wc => ∃ (kq : Nat) (x87_23 : Bool), v87 = .bool x87_23 ∧ Aside0 (laws_FnTags.j1 kq l0 t225 t227 x87_23 = some r) ∧ Aside0 (kq ≤ kj6) ∧ Aside0 (Below w.heap.size w wc))
          case first =>
            have H := HC24.out
            clear HC24
            by_cases c26 : t227 = 0
            · rw [if_pos c26] at H
              have c26b0 : (t227 == 0) = true := beq_iff_eq.mpr c26
              have c26b1 : (t227 != 0) = false := bne_eq_false_iff_eq.mpr c26
              clear c26
              (first | rw [c26b0] | (simp only [i64_w, i32_w]; rw [c26b0]) | skip)
              have H' := Aside0.mk H
              clear H
              go_wp2
              go_meet
              case rel => exact ⟨_, ((t228 != 0)), (by first | rfl | (simp; done) | (simp [*]; done)), H', ⟨by have := HJ6.out; first | omega | exact Nat.le_refl _⟩, ⟨by repeat (first | (with_reducible first | exact HB.out | apply below_alloc | apply pw_below_drewN | apply below_drew1) | exact HB.out)⟩⟩
            · rw [if_neg c26] at H
              have c26b0 : (t227 == 0) = false := beq_eq_false_iff_ne.mpr c26
              have c26b1 : (t227 != 0) = true := bne_iff_ne.mpr c26
              (first | rw [c26b0] | (simp only [i64_w, i32_w]; rw [c26b0]) | skip)
              by_cases c27 : t225 = t228
              · rw [if_pos c27] at H
                have c27b0 : (t225 == t228) = true := beq_iff_eq.mpr c27
                have c27b1 : (t225 != t228) = false := bne_eq_false_iff_eq.mpr c27
                clear c27
                by_cases c28 : t226 = t229
                · rw [if_pos c28] at H
                  have c28b0 : (t226 == t229) = true := beq_iff_eq.mpr c28
                  have c28b1 : (t226 != t229) = false := bne_eq_false_iff_eq.mpr c28
                  clear c28
                  have H' := Aside0.mk H
                  clear H
                  go_wp2
                  go_meet
                  case rel => exact ⟨_, (false), (by first | rfl | (simp; done) | (simp [*]; done)), H', ⟨by have := HJ6.out; first | omega | exact Nat.le_refl _⟩, ⟨by repeat (first | (with_reducible first | exact HB.out | apply below_alloc | apply pw_below_drewN | apply below_drew1) | exact HB.out)⟩⟩
                · rw [if_neg c28] at H
                  have c28b0 : (t226 == t229) = false := beq_eq_false_iff_ne.mpr c28
                  have c28b1 : (t226 != t229) = true := bne_iff_ne.mpr c28
                  have H' := Aside0.mk H
                  clear H
                  go_wp2
                  go_meet
                  case rel => exact ⟨_, (true), (by first | rfl | (simp; done) | (simp [*]; done)), H', ⟨by have := HJ6.out; first | omega | exact Nat.le_refl _⟩, ⟨by repeat (first | (with_reducible first | exact HB.out | apply below_alloc | apply pw_below_drewN | apply below_drew1) | exact HB.out)⟩⟩
              · rw [if_neg c27] at H
                have c27b0 : (t225 == t228) = false := beq_eq_false_iff_ne.mpr c27
                have c27b1 : (t225 != t228) = true := bne_iff_ne.mpr c27
                have H' := Aside0.mk H
                clear H
                go_wp2
                go_meet
                case rel => exact ⟨_, (true), (by first | rfl | (simp; done) | (simp [*]; done)), H', ⟨by have := HJ6.out; first | omega | exact Nat.le_refl _⟩, ⟨by repeat (first | (with_reducible first | exact HB.out | apply below_alloc | apply pw_below_drewN | apply below_drew1) | exact HB.out)⟩⟩
          case rest =>
            clear HC24
            try clear c1
            try clear c2
            try clear p2
            try clear c3
            try clear c9
            try clear c11
            try clear c11b0
            try clear c11b1
            try clear c12
            try clear c12b0
            try clear c12b1
            try clear c14
            try clear c14b0
            try clear c14b1
            try clear c15
            try clear c15b0
            try clear c15b1
            try clear c16
            try clear c17
            try clear c19
            try clear c20
            try clear c26
            try clear c26b0
            try clear c26b1
            try clear c27
            try clear c27b0
            try clear c27b1
            try clear c28
            try clear c28b0
            try clear c28b1
            try clear p2
            obtain ⟨kq, x87_23, rfl, HA, HJ23, HB⟩ := hcut
            cases kq with
            | zero => exact absurd HA.out (by simp [laws_FnTags.j1])
            | succ kj23 =>
              have H := HA.out
              clear HA
              simp only [laws_FnTags.j1] at H
              by_cases c29 : x87_23 = true
              · subst c29
                have H1 : (some false) = some r := by rw [if_pos rfl] at H; exact H
                clear H
                have H := H1
                clear H1
                obtain rfl := Option.some.inj H
                go_wp2
                go_ret
                exact ⟨by first | rfl | (simp [errW_none, errW_some] <;> rfl) | (simp [*, errW_none, errW_some] <;> rfl), by repeat (first | (with_reducible first | exact HB.out | apply below_alloc | apply pw_below_drewN | apply below_drew1) | exact HB.out)⟩
              · replace c29 := Bool.eq_false_iff.mpr c29
                subst c29
                have H1 : (if t227 = 0 then (some true) else (if t225 = 65535 then (some true) else ((impl_PackGauge.f (wrap64 (t225 + 1)) 0).bind fun t230 => (if t230 > t227 then ((laws_at.f l0 0).bind fun t231 => ((impl_KindWord.f (wrap64 (1 + (Int.tmod t231 3)))).bind fun t232 => ((impl_KindOf.f kj23 t232).bind fun t233 => ((laws_at.f l0 0).bind fun t234 => (some (t233 == (wrap64 (1 + (Int.tmod t234 3))))))))) else (some false))))) = some r := by rw [if_neg (show ¬ (false = true) by decide)] at H; exact H
                clear H
                have H := H1
                clear H1
                by_cases c30 : t227 = 0
                · rw [if_pos c30] at H
                  have c30b0 : (t227 == 0) = true := beq_iff_eq.mpr c30
                  have c30b1 : (t227 != 0) = false := bne_eq_false_iff_eq.mpr c30
                  clear c30
                  obtain rfl := Option.some.inj H
                  go_wp2
                  go_ret
                  exact ⟨by first | rfl | (simp [errW_none, errW_some] <;> rfl) | (simp [*, errW_none, errW_some] <;> rfl), by repeat (first | (with_reducible first | exact HB.out | apply below_alloc | apply pw_below_drewN | apply below_drew1) | exact HB.out)⟩
                · rw [if_neg c30] at H
                  have c30b0 : (t227 == 0) = false := beq_eq_false_iff_ne.mpr c30
                  have c30b1 : (t227 != 0) = true := bne_iff_ne.mpr c30
                  by_cases c31 : t225 = 65535
                  · rw [if_pos c31] at H
                    have c31b0 : (t225 == 65535) = true := beq_iff_eq.mpr c31
                    have c31b1 : (t225 != 65535) = false := bne_eq_false_iff_eq.mpr c31
                    clear c31
                    obtain rfl := Option.some.inj H
                    go_wp2
                    go_ret
                    exact ⟨by first | rfl | (simp [errW_none, errW_some] <;> rfl) | (simp [*, errW_none, errW_some] <;> rfl), by repeat (first | (with_reducible first | exact HB.out | apply below_alloc | apply pw_below_drewN | apply below_drew1) | exact HB.out)⟩
                  · rw [if_neg c31] at H
                    have c31b0 : (t225 == 65535) = false := beq_eq_false_iff_ne.mpr c31
                    have c31b1 : (t225 != 65535) = true := bne_iff_ne.mpr c31
                    replace H := Option.bind_eq_some_iff.mp H
                    obtain ⟨t230, A320, H⟩ := H
                    replace H : (if t230 > t227 then ((laws_at.f l0 0).bind fun t231 => ((impl_KindWord.f (wrap64 (1 + (Int.tmod t231 3)))).bind fun t232 => ((impl_KindOf.f kj23 t232).bind fun t233 => ((laws_at.f l0 0).bind fun t234 => (some (t233 == (wrap64 (1 + (Int.tmod t234 3))))))))) else (some false)) = some r := H
                    have A32 := Aside0.mk A320
                    clear A320
                    by_cases c33 : t230 > t227
                    · rw [if_pos c33] at H
                      have c33b0 : decide (t227 < t230) = true := decide_eq_true c33
                      clear c33
                      replace H := Option.bind_eq_some_iff.mp H
                      obtain ⟨t231, A340, H⟩ := H
                      replace H : ((impl_KindWord.f (wrap64 (1 + (Int.tmod t231 3)))).bind fun t232 => ((impl_KindOf.f kj23 t232).bind fun t233 => ((laws_at.f l0 0).bind fun t234 => (some (t233 == (wrap64 (1 + (Int.tmod t234 3)))))))) = some r := H
                      have A34 := Aside0.mk A340
                      clear A340
                      replace H := Option.bind_eq_some_iff.mp H
                      obtain ⟨t232, A350, H⟩ := H
                      replace H : ((impl_KindOf.f kj23 t232).bind fun t233 => ((laws_at.f l0 0).bind fun t234 => (some (t233 == (wrap64 (1 + (Int.tmod t234 3))))))) = some r := H
                      have A35 := Aside0.mk A350
                      clear A350
                      replace H := Option.bind_eq_some_iff.mp H
                      obtain ⟨t233, A360, H⟩ := H
                      replace H : ((laws_at.f l0 0).bind fun t234 => (some (t233 == (wrap64 (1 + (Int.tmod t234 3)))))) = some r := H
                      have A36 := Aside0.mk A360
                      clear A360
                      replace H := Option.bind_eq_some_iff.mp H
                      obtain ⟨t234, A370, H⟩ := H
                      replace H : (some (t233 == (wrap64 (1 + (Int.tmod t234 3))))) = some r := H
                      have A37 := Aside0.mk A370
                      clear A370
                      rw [show t234 = t231 from Option.some.inj (A37.out.symm.trans A34.out)] at H
                      obtain rfl := Option.some.inj H
                      go_wp2_with (first | (go_at_call 29; (with_reducible refine (impl_PackGauge.calls (wrap64 (t225 + 1)) 0 t230 _ A32.out).mono ?_); rintro e w' ⟨rfl, ⟨nd, rfl⟩⟩) | (go_at_call 33; (with_reducible refine (laws_at.calls _ _ l0 0 t231 _ ?side1 ?side2 A34.out).mono ?_); (case side1 => repeat (first | exact (Kd.C_below HR0.out (by repeat (first | (with_reducible first | exact HB.out | apply below_alloc | apply pw_below_drewN | apply below_drew1) | exact HB.out))) | (with_reducible refine Kd.C_alloc ?_ _) | (with_reducible refine Kd.C_drewN ?_ _) | (with_reducible refine Kd.C_drew ?_))); (case side2 => exact HC0.out); rintro e w' ⟨rfl, ⟨nd, rfl⟩⟩) | (go_at_call 32; (with_reducible refine (impl_KindWord.calls (wrap64 (1 + (Int.tmod t231 3))) t232 _ A35.out).mono ?_); rintro e w' ⟨rfl, ⟨nd, rfl⟩⟩) | (go_at_call 31; (with_reducible refine (impl_KindOf.calls kj23 t232 t233 _ A36.out).mono ?_); rintro e w' ⟨rfl, ⟨nd, rfl⟩⟩) | (go_at_call 33; (with_reducible refine (laws_at.calls _ _ l0 0 t234 _ ?side1 ?side2 A37.out).mono ?_); (case side1 => repeat (first | exact (Kd.C_below HR0.out (by repeat (first | (with_reducible first | exact HB.out | apply below_alloc | apply pw_below_drewN | apply below_drew1) | exact HB.out))) | (with_reducible refine Kd.C_alloc ?_ _) | (with_reducible refine Kd.C_drewN ?_ _) | (with_reducible refine Kd.C_drew ?_))); (case side2 => exact HC0.out); rintro e w' ⟨rfl, ⟨nd, rfl⟩⟩))
                      go_ret
                      exact ⟨by first | rfl | (simp [errW_none, errW_some] <;> rfl) | (simp [*, errW_none, errW_some] <;> rfl), by repeat (first | (with_reducible first | exact HB.out | apply below_alloc | apply pw_below_drewN | apply below_drew1) | exact HB.out)⟩
                    · rw [if_neg c33] at H
                      have c33b0 : decide (t227 < t230) = false := decide_eq_false c33
                      clear c33
                      obtain rfl := Option.some.inj H
                      go_wp2_with (first | (go_at_call 29; (with_reducible refine (impl_PackGauge.calls (wrap64 (t225 + 1)) 0 t230 _ A32.out).mono ?_); rintro e w' ⟨rfl, ⟨nd, rfl⟩⟩))
                      go_ret
                      exact ⟨by first | rfl | (simp [errW_none, errW_some] <;> rfl) | (simp [*, errW_none, errW_some] <;> rfl), by repeat (first | (with_reducible first | exact HB.out | apply below_alloc | apply pw_below_drewN | apply below_drew1) | exact HB.out)⟩

/-- THE ONE PURE STATEMENT of laws_FnTags: yours. -/
def laws_FnTags.Pure : Prop := ∀ (l0 : List Int), l0.length ≤ maxLen → l0.length * 1 ≤ 140737488351232 → (∀ x ∈ l0, (Lit.int .u8 x).wf = true) → ∃ k, laws_FnTags.f k l0 = some true
theorem laws_FnTags.walk (P : laws_FnTags.Pure) (a0 : Option Addr) (len0 cap0 : Nat) (z0 : List Int) (w : World) (w0 : (a0 = none ∧ len0 = 0 ∧ cap0 = 0 ∧ z0 = []) ∨ ∃ x, a0 = some x ∧ len0 ≤ cap0 ∧ cap0 ≤ maxLen ∧ z0.length = cap0 ∧ (∀ i, i < z0.length → w.cell? (x.add i) = some (.int .u8 (z0.getD i 0))) ∧ ∀ n ∈ z0, (Lit.int .u8 n).wf = true) (y0 : len0 * 1 ≤ 140737488351232) :
    Calls Try.prog 9 #[.slice a0 len0 cap0] w fun e w' => e = .returned (.bool true) ∧ Below w.heap.size w w' := by
  obtain ⟨l0, rfl, hr0, hm0, hw0, hc0⟩ := ReadsInt.ofRowC w0
  obtain ⟨k, h⟩ := P l0 hm0 y0 hw0
  refine (laws_FnTags.calls k _ _ l0 true w (Kd.C_of_reads (d := (0 : Int)) (h1 := fun _ => rfl) hr0) hc0 h).mono ?_
  rintro e w' ⟨rfl, hd⟩
  exact ⟨rfl, hd⟩

end Go.Proofs.Ytilhmohfneeglaa.PFnTags
