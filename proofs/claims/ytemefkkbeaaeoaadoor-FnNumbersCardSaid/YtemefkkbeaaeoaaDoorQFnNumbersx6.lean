/- What is proved here: contracts of the Go functions that the law FnNumbers reaches, for its row; no condition. The draft was printed; this text is not the print. -/
import Derived.Test.YtemefkkbeaaeoaaDoorQFnNumbersx0
import Derived.Test.YtemefkkbeaaeoaaDoorQFnNumbersx1
import Derived.Test.YtemefkkbeaaeoaaDoorQFnNumbersx2
import Derived.Test.YtemefkkbeaaeoaaDoorQFnNumbersx3
import Derived.Test.YtemefkkbeaaeoaaDoorQFnNumbersx4
import Derived.Test.YtemefkkbeaaeoaaDoorQFnNumbersx5
namespace Go.Proofs.YtemefkkbeaaeoaaDoor.PFnNumbers
open Go.RowKit Go.Proofs.YtemefkkbeaaeoaaDoorW.PrintWords Go.Proofs.YtemefkkbeaaeoaaDoorW.PrintLast Go.Proofs.YtemefkkbeaaeoaaDoorW.PrintMore
attribute [local go_sem] max2_int min2_int max_two min_two max_three min_three max_four min_four   -- for this text's walks alone
set_option linter.unusedVariables false
set_option linter.unusedSimpArgs false

/-! ### laws_FnNumbers: function 7 -/
mutual
def laws_FnNumbers.j0 : Nat → List Int → Int → ByteArray → Bool → Option (Bool)
  | 0, _, _, _, _ => none
  | k + 1, x0, x3, x4, x55 => if x55 = true then (some false) else ((impl_Fixed.f k x3 7).bind fun t300 => (if t300.size + x4.size ≤ 9223372036854775807 then ((impl_ReadFixed.f k (t300 ++ x4) 7).bind fun bt301 => (if t300.toList = ([] : List UInt8) then (if x3 < 0 then (laws_FnNumbers.j1 k x0 x3 x4 ((t300.toList == ([] : List UInt8)) != true)) else (laws_FnNumbers.j1 k x0 x3 x4 ((t300.toList == ([] : List UInt8)) != (decide (x3 ≥ 72057594037927936))))) else (if bt301.2 = true then (if bt301.1 = x3 then (if (t300.size : Int) = 7 then (if x3 < 0 then (laws_FnNumbers.j1 k x0 x3 x4 ((t300.toList == ([] : List UInt8)) != true)) else (laws_FnNumbers.j1 k x0 x3 x4 ((t300.toList == ([] : List UInt8)) != (decide (x3 ≥ 72057594037927936))))) else (laws_FnNumbers.j1 k x0 x3 x4 true)) else (laws_FnNumbers.j1 k x0 x3 x4 true)) else (laws_FnNumbers.j1 k x0 x3 x4 true)))) else (none)))
def laws_FnNumbers.j1 : Nat → List Int → Int → ByteArray → Bool → Option (Bool)
  | 0, _, _, _, _ => none
  | k + 1, x0, x3, x4, x91 => if x91 = true then (some false) else ((impl_Dec.f k x3).bind fun t303 => ((impl_ReadDec.f k t303).bind fun bt304 => (if x3 > (-1000000000) then (if (bt304.2 != (decide (x3 < 1000000000))) = true then (laws_FnNumbers.j2 k x0 x4 true) else (if bt304.2 = true then (laws_FnNumbers.j2 k x0 x4 (bt304.1 != x3)) else (laws_FnNumbers.j2 k x0 x4 false))) else (if (bt304.2 != false) = true then (laws_FnNumbers.j2 k x0 x4 true) else (if bt304.2 = true then (laws_FnNumbers.j2 k x0 x4 (bt304.1 != x3)) else (laws_FnNumbers.j2 k x0 x4 false))))))
def laws_FnNumbers.j2 : Nat → List Int → ByteArray → Bool → Option (Bool)
  | 0, _, _, _ => none
  | k + 1, x0, x4, x113 => if x113 = true then (some false) else ((impl_Hex.f k x4).bind fun t306 => ((impl_Unhex.f k t306).bind fun bt307 => ((spec_DrawReadVar.f k x0).bind fun t309 => ((impl_ReadVar.f k t309).bind fun bt310 => (if bt307.2 = true then (if bt307.1.toList = x4.toList then (if bt310.2 = 0 then (some true) else (if bt310.2 > 0 then ((spec_DrawReadVar.f k x0).bind fun t312 => (if bt310.2 ≤ (t312.size : Int) then ((spec_DrawReadVar.f k x0).bind fun t313 => (if bt310.2 ≤ (t313.size : Int) then ((impl_Var.f k bt310.1).bind fun t314 => ((spec_DrawReadVar.f k x0).bind fun t315 => (if 0 ≤ bt310.2 then (if bt310.2 ≤ (t315.size : Int) then (some (t314.toList == (t315.extract 0 (bt310.2 : Int).toNat).toList)) else (none)) else (none)))) else (some false))) else (some false))) else (some false))) else (some false)) else (some false))))))
end
def laws_FnNumbers.f (k : Nat) (l0 : List Int) : Option (Bool) := (laws_big.f l0).bind fun t294 => (if t294 = true then (some true) else ((spec_DrawVar.f k l0).bind fun t295 => ((spec_DrawHex.f k l0).bind fun t296 => ((impl_Var.f k t295).bind fun t297 => (if t297.size + t296.size ≤ 9223372036854775807 then ((impl_ReadVar.f k (t297 ++ t296)).bind fun bt298 => (if t295 ≥ 0 then (if ((t297.toList != ([] : List UInt8)) != (decide (t295 ≤ 562949953421311))) = true then (laws_FnNumbers.j0 k l0 t295 t296 true) else (if t297.toList = ([] : List UInt8) then (laws_FnNumbers.j0 k l0 t295 t296 false) else (if bt298.1 = t295 then (laws_FnNumbers.j0 k l0 t295 t296 (bt298.2 != (t297.size : Int))) else (laws_FnNumbers.j0 k l0 t295 t296 true)))) else (if ((t297.toList != ([] : List UInt8)) != false) = true then (laws_FnNumbers.j0 k l0 t295 t296 true) else (if t297.toList = ([] : List UInt8) then (laws_FnNumbers.j0 k l0 t295 t296 false) else (if bt298.1 = t295 then (laws_FnNumbers.j0 k l0 t295 t296 (bt298.2 != (t297.size : Int))) else (laws_FnNumbers.j0 k l0 t295 t296 true)))))) else (none))))))
theorem laws_FnNumbers.mono_l : ∀ k, (∀ y0 y1 y2 y3, LeO (laws_FnNumbers.j0 k y0 y1 y2 y3) (laws_FnNumbers.j0 (k + 1) y0 y1 y2 y3)) ∧ (∀ y0 y1 y2 y3, LeO (laws_FnNumbers.j1 k y0 y1 y2 y3) (laws_FnNumbers.j1 (k + 1) y0 y1 y2 y3)) ∧ (∀ y0 y1 y2, LeO (laws_FnNumbers.j2 k y0 y1 y2) (laws_FnNumbers.j2 (k + 1) y0 y1 y2))
  | 0 => ⟨fun _ _ _ _ r h => by simp [laws_FnNumbers.j0] at h, fun _ _ _ _ r h => by simp [laws_FnNumbers.j1] at h, fun _ _ _ r h => by simp [laws_FnNumbers.j2] at h⟩
  | k + 1 => by
    obtain ⟨ih0, ih1, ih2⟩ := laws_FnNumbers.mono_l k
    refine ⟨?_, ?_, ?_⟩
    · intro y0 y1 y2 y3
      unfold laws_FnNumbers.j0
      repeat' first
      | (with_reducible exact ih0 _ _ _ _)
      | (with_reducible exact ih1 _ _ _ _)
      | (with_reducible exact ih2 _ _ _)
      | (with_reducible exact impl_Dec.mono _ _)
      | (with_reducible exact impl_Fixed.mono _ _ _)
      | (with_reducible exact impl_Hex.mono _ _)
      | (with_reducible exact impl_ReadDec.mono _ _)
      | (with_reducible exact impl_ReadFixed.mono _ _ _)
      | (with_reducible exact impl_ReadVar.mono _ _)
      | (with_reducible exact impl_Unhex.mono _ _)
      | (with_reducible exact impl_Var.mono _ _)
      | (with_reducible exact spec_DrawHex.mono _ _)
      | (with_reducible exact spec_DrawReadVar.mono _ _)
      | (with_reducible exact spec_DrawVar.mono _ _)
      | (with_reducible exact LeO.refl _)
      | (with_reducible exact LeO.none _)
      | (with_reducible refine LeO.ite ?_ ?_)
      | (with_reducible refine LeO.bind ?_ (fun _ => ?_))
      | exact ih0 _ _ _ _
      | exact ih1 _ _ _ _
      | exact ih2 _ _ _
      | exact impl_Dec.mono _ _
      | exact impl_Fixed.mono _ _ _
      | exact impl_Hex.mono _ _
      | exact impl_ReadDec.mono _ _
      | exact impl_ReadFixed.mono _ _ _
      | exact impl_ReadVar.mono _ _
      | exact impl_Unhex.mono _ _
      | exact impl_Var.mono _ _
      | exact spec_DrawHex.mono _ _
      | exact spec_DrawReadVar.mono _ _
      | exact spec_DrawVar.mono _ _
      | exact LeO.none _
      | refine LeO.ite ?_ ?_
      | refine LeO.bind ?_ (fun _ => ?_)
    · intro y0 y1 y2 y3
      unfold laws_FnNumbers.j1
      repeat' first
      | (with_reducible exact ih0 _ _ _ _)
      | (with_reducible exact ih1 _ _ _ _)
      | (with_reducible exact ih2 _ _ _)
      | (with_reducible exact impl_Dec.mono _ _)
      | (with_reducible exact impl_Fixed.mono _ _ _)
      | (with_reducible exact impl_Hex.mono _ _)
      | (with_reducible exact impl_ReadDec.mono _ _)
      | (with_reducible exact impl_ReadFixed.mono _ _ _)
      | (with_reducible exact impl_ReadVar.mono _ _)
      | (with_reducible exact impl_Unhex.mono _ _)
      | (with_reducible exact impl_Var.mono _ _)
      | (with_reducible exact spec_DrawHex.mono _ _)
      | (with_reducible exact spec_DrawReadVar.mono _ _)
      | (with_reducible exact spec_DrawVar.mono _ _)
      | (with_reducible exact LeO.refl _)
      | (with_reducible exact LeO.none _)
      | (with_reducible refine LeO.ite ?_ ?_)
      | (with_reducible refine LeO.bind ?_ (fun _ => ?_))
      | exact ih0 _ _ _ _
      | exact ih1 _ _ _ _
      | exact ih2 _ _ _
      | exact impl_Dec.mono _ _
      | exact impl_Fixed.mono _ _ _
      | exact impl_Hex.mono _ _
      | exact impl_ReadDec.mono _ _
      | exact impl_ReadFixed.mono _ _ _
      | exact impl_ReadVar.mono _ _
      | exact impl_Unhex.mono _ _
      | exact impl_Var.mono _ _
      | exact spec_DrawHex.mono _ _
      | exact spec_DrawReadVar.mono _ _
      | exact spec_DrawVar.mono _ _
      | exact LeO.none _
      | refine LeO.ite ?_ ?_
      | refine LeO.bind ?_ (fun _ => ?_)
    · intro y0 y1 y2
      unfold laws_FnNumbers.j2
      repeat' first
      | (with_reducible exact ih0 _ _ _ _)
      | (with_reducible exact ih1 _ _ _ _)
      | (with_reducible exact ih2 _ _ _)
      | (with_reducible exact impl_Dec.mono _ _)
      | (with_reducible exact impl_Fixed.mono _ _ _)
      | (with_reducible exact impl_Hex.mono _ _)
      | (with_reducible exact impl_ReadDec.mono _ _)
      | (with_reducible exact impl_ReadFixed.mono _ _ _)
      | (with_reducible exact impl_ReadVar.mono _ _)
      | (with_reducible exact impl_Unhex.mono _ _)
      | (with_reducible exact impl_Var.mono _ _)
      | (with_reducible exact spec_DrawHex.mono _ _)
      | (with_reducible exact spec_DrawReadVar.mono _ _)
      | (with_reducible exact spec_DrawVar.mono _ _)
      | (with_reducible exact LeO.refl _)
      | (with_reducible exact LeO.none _)
      | (with_reducible refine LeO.ite ?_ ?_)
      | (with_reducible refine LeO.bind ?_ (fun _ => ?_))
      | exact ih0 _ _ _ _
      | exact ih1 _ _ _ _
      | exact ih2 _ _ _
      | exact impl_Dec.mono _ _
      | exact impl_Fixed.mono _ _ _
      | exact impl_Hex.mono _ _
      | exact impl_ReadDec.mono _ _
      | exact impl_ReadFixed.mono _ _ _
      | exact impl_ReadVar.mono _ _
      | exact impl_Unhex.mono _ _
      | exact impl_Var.mono _ _
      | exact spec_DrawHex.mono _ _
      | exact spec_DrawReadVar.mono _ _
      | exact spec_DrawVar.mono _ _
      | exact LeO.none _
      | refine LeO.ite ?_ ?_
      | refine LeO.bind ?_ (fun _ => ?_)
theorem laws_FnNumbers.mono : ∀ a0 k, LeO (laws_FnNumbers.f k a0) (laws_FnNumbers.f (k + 1) a0) := by
  intro a0 k
  obtain ⟨ih0, ih1, ih2⟩ := laws_FnNumbers.mono_l k
  unfold laws_FnNumbers.f
  repeat' first
      | (with_reducible exact ih0 _ _ _ _)
      | (with_reducible exact ih1 _ _ _ _)
      | (with_reducible exact ih2 _ _ _)
      | (with_reducible exact impl_Dec.mono _ _)
      | (with_reducible exact impl_Fixed.mono _ _ _)
      | (with_reducible exact impl_Hex.mono _ _)
      | (with_reducible exact impl_ReadDec.mono _ _)
      | (with_reducible exact impl_ReadFixed.mono _ _ _)
      | (with_reducible exact impl_ReadVar.mono _ _)
      | (with_reducible exact impl_Unhex.mono _ _)
      | (with_reducible exact impl_Var.mono _ _)
      | (with_reducible exact spec_DrawHex.mono _ _)
      | (with_reducible exact spec_DrawReadVar.mono _ _)
      | (with_reducible exact spec_DrawVar.mono _ _)
      | (with_reducible exact LeO.refl _)
      | (with_reducible exact LeO.none _)
      | (with_reducible refine LeO.ite ?_ ?_)
      | (with_reducible refine LeO.bind ?_ (fun _ => ?_))
      | exact ih0 _ _ _ _
      | exact ih1 _ _ _ _
      | exact ih2 _ _ _
      | exact impl_Dec.mono _ _
      | exact impl_Fixed.mono _ _ _
      | exact impl_Hex.mono _ _
      | exact impl_ReadDec.mono _ _
      | exact impl_ReadFixed.mono _ _ _
      | exact impl_ReadVar.mono _ _
      | exact impl_Unhex.mono _ _
      | exact impl_Var.mono _ _
      | exact spec_DrawHex.mono _ _
      | exact spec_DrawReadVar.mono _ _
      | exact spec_DrawVar.mono _ _
      | exact LeO.none _
      | refine LeO.ite ?_ ?_
      | refine LeO.bind ?_ (fun _ => ?_)
set_option maxHeartbeats 8000000 in
set_option maxRecDepth 100000 in
theorem laws_FnNumbers.calls (k : Nat) (A0 : Option Addr) (c0 : Nat) (l0 : List Int) (r : Bool) (w : World) (hr0 : Kd.C (Kd.int .u8) w A0 l0.length l0) (hc0 : l0.length ≤ c0) (htab : Lib.TabIs Tryd.prog w "internal/strconv.uint64pow10" .u64 Lib.pow10Tab) (h : laws_FnNumbers.f k l0 = some r) :
    Calls Tryd.prog 7 #[.slice A0 l0.length c0] w fun e w' => e = .returned (.bool r) ∧ Below w.heap.size w w' := by
  have HTAB := Aside0.mk htab
  clear htab
  have HR0 := Aside0.mk hr0
  have HC0 := Aside0.mk hc0
  clear hr0 hc0
  have HB := Aside0.mk (Below.refl w.heap.size w)
  have H : ((laws_big.f l0).bind fun t294 => (if t294 = true then (some true) else ((spec_DrawVar.f k l0).bind fun t295 => ((spec_DrawHex.f k l0).bind fun t296 => ((impl_Var.f k t295).bind fun t297 => (if t297.size + t296.size ≤ 9223372036854775807 then ((impl_ReadVar.f k (t297 ++ t296)).bind fun bt298 => (if t295 ≥ 0 then (if ((t297.toList != ([] : List UInt8)) != (decide (t295 ≤ 562949953421311))) = true then (laws_FnNumbers.j0 k l0 t295 t296 true) else (if t297.toList = ([] : List UInt8) then (laws_FnNumbers.j0 k l0 t295 t296 false) else (if bt298.1 = t295 then (laws_FnNumbers.j0 k l0 t295 t296 (bt298.2 != (t297.size : Int))) else (laws_FnNumbers.j0 k l0 t295 t296 true)))) else (if ((t297.toList != ([] : List UInt8)) != false) = true then (laws_FnNumbers.j0 k l0 t295 t296 true) else (if t297.toList = ([] : List UInt8) then (laws_FnNumbers.j0 k l0 t295 t296 false) else (if bt298.1 = t295 then (laws_FnNumbers.j0 k l0 t295 t296 (bt298.2 != (t297.size : Int))) else (laws_FnNumbers.j0 k l0 t295 t296 true)))))) else (none))))))) = some r := h
  clear h
  replace H := Option.bind_eq_some_iff.mp H
  obtain ⟨t294, A20, H⟩ := H
  replace H : (if t294 = true then (some true) else ((spec_DrawVar.f k l0).bind fun t295 => ((spec_DrawHex.f k l0).bind fun t296 => ((impl_Var.f k t295).bind fun t297 => (if t297.size + t296.size ≤ 9223372036854775807 then ((impl_ReadVar.f k (t297 ++ t296)).bind fun bt298 => (if t295 ≥ 0 then (if ((t297.toList != ([] : List UInt8)) != (decide (t295 ≤ 562949953421311))) = true then (laws_FnNumbers.j0 k l0 t295 t296 true) else (if t297.toList = ([] : List UInt8) then (laws_FnNumbers.j0 k l0 t295 t296 false) else (if bt298.1 = t295 then (laws_FnNumbers.j0 k l0 t295 t296 (bt298.2 != (t297.size : Int))) else (laws_FnNumbers.j0 k l0 t295 t296 true)))) else (if ((t297.toList != ([] : List UInt8)) != false) = true then (laws_FnNumbers.j0 k l0 t295 t296 true) else (if t297.toList = ([] : List UInt8) then (laws_FnNumbers.j0 k l0 t295 t296 false) else (if bt298.1 = t295 then (laws_FnNumbers.j0 k l0 t295 t296 (bt298.2 != (t297.size : Int))) else (laws_FnNumbers.j0 k l0 t295 t296 true)))))) else (none)))))) = some r := H
  have A2 := Aside0.mk A20
  clear A20
  by_cases c3 : t294 = true
  · subst c3
    have H1 : (some true) = some r := by rw [if_pos rfl] at H; exact H
    clear H
    have H := H1
    clear H1
    obtain rfl := Option.some.inj H
    go_enter Tryd.func7, Tryd.ntmps7
    go_wp2_with (first | ((with_reducible refine gate_callee (f := 14) rfl ?_); refine goesL_ (some 18) rfl rfl Tryd.func14 (by kernel_rfl) rfl #[.slice A0 l0.length c0] rfl (by (try simp only [List.map_toArray, List.map_cons, List.map_nil]); first | done | rfl | (simp only [List.length_drop, List.length_take]; rfl)) ?_; (with_reducible refine (laws_big.calls _ _ l0 true _ ?side1 ?side2 A2.out).mono ?_); (case side1 => repeat (first | exact HR0.out | (with_reducible refine Kd.C_alloc ?_ _) | (with_reducible refine Kd.C_drewN ?_ _) | (with_reducible refine Kd.C_drew ?_))); (case side2 => exact HC0.out); rintro e w' ⟨rfl, ⟨nd, rfl⟩⟩; refine ⟨_, rfl, ?_⟩))
    go_ret
    exact ⟨by first | rfl | (simp [errW_none, errW_some] <;> rfl) | (simp [*, errW_none, errW_some] <;> rfl), by repeat (first | (with_reducible first | exact HB.out | apply below_alloc | apply pw_below_drewN | apply below_drew1) | exact HB.out)⟩
  · replace c3 := Bool.eq_false_iff.mpr c3
    subst c3
    have H1 : ((spec_DrawVar.f k l0).bind fun t295 => ((spec_DrawHex.f k l0).bind fun t296 => ((impl_Var.f k t295).bind fun t297 => (if t297.size + t296.size ≤ 9223372036854775807 then ((impl_ReadVar.f k (t297 ++ t296)).bind fun bt298 => (if t295 ≥ 0 then (if ((t297.toList != ([] : List UInt8)) != (decide (t295 ≤ 562949953421311))) = true then (laws_FnNumbers.j0 k l0 t295 t296 true) else (if t297.toList = ([] : List UInt8) then (laws_FnNumbers.j0 k l0 t295 t296 false) else (if bt298.1 = t295 then (laws_FnNumbers.j0 k l0 t295 t296 (bt298.2 != (t297.size : Int))) else (laws_FnNumbers.j0 k l0 t295 t296 true)))) else (if ((t297.toList != ([] : List UInt8)) != false) = true then (laws_FnNumbers.j0 k l0 t295 t296 true) else (if t297.toList = ([] : List UInt8) then (laws_FnNumbers.j0 k l0 t295 t296 false) else (if bt298.1 = t295 then (laws_FnNumbers.j0 k l0 t295 t296 (bt298.2 != (t297.size : Int))) else (laws_FnNumbers.j0 k l0 t295 t296 true)))))) else (none))))) = some r := by rw [if_neg (show ¬ (false = true) by decide)] at H; exact H
    clear H
    have H := H1
    clear H1
    replace H := Option.bind_eq_some_iff.mp H
    obtain ⟨t295, A40, H⟩ := H
    replace H : ((spec_DrawHex.f k l0).bind fun t296 => ((impl_Var.f k t295).bind fun t297 => (if t297.size + t296.size ≤ 9223372036854775807 then ((impl_ReadVar.f k (t297 ++ t296)).bind fun bt298 => (if t295 ≥ 0 then (if ((t297.toList != ([] : List UInt8)) != (decide (t295 ≤ 562949953421311))) = true then (laws_FnNumbers.j0 k l0 t295 t296 true) else (if t297.toList = ([] : List UInt8) then (laws_FnNumbers.j0 k l0 t295 t296 false) else (if bt298.1 = t295 then (laws_FnNumbers.j0 k l0 t295 t296 (bt298.2 != (t297.size : Int))) else (laws_FnNumbers.j0 k l0 t295 t296 true)))) else (if ((t297.toList != ([] : List UInt8)) != false) = true then (laws_FnNumbers.j0 k l0 t295 t296 true) else (if t297.toList = ([] : List UInt8) then (laws_FnNumbers.j0 k l0 t295 t296 false) else (if bt298.1 = t295 then (laws_FnNumbers.j0 k l0 t295 t296 (bt298.2 != (t297.size : Int))) else (laws_FnNumbers.j0 k l0 t295 t296 true)))))) else (none)))) = some r := H
    have A4 := Aside0.mk A40
    clear A40
    replace H := Option.bind_eq_some_iff.mp H
    obtain ⟨t296, A50, H⟩ := H
    replace H : ((impl_Var.f k t295).bind fun t297 => (if t297.size + t296.size ≤ 9223372036854775807 then ((impl_ReadVar.f k (t297 ++ t296)).bind fun bt298 => (if t295 ≥ 0 then (if ((t297.toList != ([] : List UInt8)) != (decide (t295 ≤ 562949953421311))) = true then (laws_FnNumbers.j0 k l0 t295 t296 true) else (if t297.toList = ([] : List UInt8) then (laws_FnNumbers.j0 k l0 t295 t296 false) else (if bt298.1 = t295 then (laws_FnNumbers.j0 k l0 t295 t296 (bt298.2 != (t297.size : Int))) else (laws_FnNumbers.j0 k l0 t295 t296 true)))) else (if ((t297.toList != ([] : List UInt8)) != false) = true then (laws_FnNumbers.j0 k l0 t295 t296 true) else (if t297.toList = ([] : List UInt8) then (laws_FnNumbers.j0 k l0 t295 t296 false) else (if bt298.1 = t295 then (laws_FnNumbers.j0 k l0 t295 t296 (bt298.2 != (t297.size : Int))) else (laws_FnNumbers.j0 k l0 t295 t296 true)))))) else (none))) = some r := H
    have A5 := Aside0.mk A50
    clear A50
    replace H := Option.bind_eq_some_iff.mp H
    obtain ⟨t297, A60, H⟩ := H
    replace H : (if t297.size + t296.size ≤ 9223372036854775807 then ((impl_ReadVar.f k (t297 ++ t296)).bind fun bt298 => (if t295 ≥ 0 then (if ((t297.toList != ([] : List UInt8)) != (decide (t295 ≤ 562949953421311))) = true then (laws_FnNumbers.j0 k l0 t295 t296 true) else (if t297.toList = ([] : List UInt8) then (laws_FnNumbers.j0 k l0 t295 t296 false) else (if bt298.1 = t295 then (laws_FnNumbers.j0 k l0 t295 t296 (bt298.2 != (t297.size : Int))) else (laws_FnNumbers.j0 k l0 t295 t296 true)))) else (if ((t297.toList != ([] : List UInt8)) != false) = true then (laws_FnNumbers.j0 k l0 t295 t296 true) else (if t297.toList = ([] : List UInt8) then (laws_FnNumbers.j0 k l0 t295 t296 false) else (if bt298.1 = t295 then (laws_FnNumbers.j0 k l0 t295 t296 (bt298.2 != (t297.size : Int))) else (laws_FnNumbers.j0 k l0 t295 t296 true)))))) else (none)) = some r := H
    have A6 := Aside0.mk A60
    clear A60
    by_cases c7 : t297.size + t296.size ≤ 9223372036854775807
    · rw [if_pos c7] at H
      have c7b0 := eq_true c7
      have c7b1 : decide (t297.size + t296.size ≤ 9223372036854775807) = true := decide_eq_true c7
      try have c7b2 : (9223372036854775807 < t297.size + t296.size) = False := eq_false (Nat.not_lt.2 c7)
      replace H := Option.bind_eq_some_iff.mp H
      obtain ⟨⟨t298, t299⟩, A80, H⟩ := H
      replace H : (if t295 ≥ 0 then (if ((t297.toList != ([] : List UInt8)) != (decide (t295 ≤ 562949953421311))) = true then (laws_FnNumbers.j0 k l0 t295 t296 true) else (if t297.toList = ([] : List UInt8) then (laws_FnNumbers.j0 k l0 t295 t296 false) else (if t298 = t295 then (laws_FnNumbers.j0 k l0 t295 t296 (t299 != (t297.size : Int))) else (laws_FnNumbers.j0 k l0 t295 t296 true)))) else (if ((t297.toList != ([] : List UInt8)) != false) = true then (laws_FnNumbers.j0 k l0 t295 t296 true) else (if t297.toList = ([] : List UInt8) then (laws_FnNumbers.j0 k l0 t295 t296 false) else (if t298 = t295 then (laws_FnNumbers.j0 k l0 t295 t296 (t299 != (t297.size : Int))) else (laws_FnNumbers.j0 k l0 t295 t296 true))))) = some r := H
      have A8 := Aside0.mk A80
      clear A80
      have HC9 := Aside0.mk H
      clear H
      go_enter Tryd.func7, Tryd.ntmps7
      go_upto_region 7 with (first | ((with_reducible refine gate_callee (f := 14) rfl ?_); refine goesL_ (some 18) rfl rfl Tryd.func14 (by kernel_rfl) rfl #[.slice A0 l0.length c0] rfl (by (try simp only [List.map_toArray, List.map_cons, List.map_nil]); first | done | rfl | (simp only [List.length_drop, List.length_take]; rfl)) ?_; (with_reducible refine (laws_big.calls _ _ l0 false _ ?side1 ?side2 A2.out).mono ?_); (case side1 => repeat (first | exact HR0.out | (with_reducible refine Kd.C_alloc ?_ _) | (with_reducible refine Kd.C_drewN ?_ _) | (with_reducible refine Kd.C_drew ?_))); (case side2 => exact HC0.out); rintro e w' ⟨rfl, ⟨nd, rfl⟩⟩; refine ⟨_, rfl, ?_⟩) | ((with_reducible refine gate_callee (f := 25) rfl ?_); refine goesL_ (some 20) rfl rfl Tryd.func25 (by kernel_rfl) rfl #[.slice A0 l0.length c0] rfl (by (try simp only [List.map_toArray, List.map_cons, List.map_nil]); first | done | rfl | (simp only [List.length_drop, List.length_take]; rfl)) ?_; (with_reducible refine (spec_DrawVar.calls k _ _ l0 t295 _ ?side1 ?side2 A4.out).mono ?_); (case side1 => repeat (first | exact HR0.out | (with_reducible refine Kd.C_alloc ?_ _) | (with_reducible refine Kd.C_drewN ?_ _) | (with_reducible refine Kd.C_drew ?_))); (case side2 => exact HC0.out); rintro e w10 ⟨rfl, hb⟩; refine ⟨_, rfl, ?_⟩; have n0_ := Aside0.mk (below_step (by repeat (first | (with_reducible first | exact HB.out | apply below_alloc | apply pw_below_drewN | apply below_drew1) | exact HB.out)) hb); clear HB; have HB := n0_; clear n0_; (try clear hb); (try clear hb2); (try clear hk); (try clear hi)) | ((with_reducible refine gate_callee (f := 26) rfl ?_); refine goesL_ (some 22) rfl rfl Tryd.func26 (by kernel_rfl) rfl #[.slice A0 l0.length c0] rfl (by (try simp only [List.map_toArray, List.map_cons, List.map_nil]); first | done | rfl | (simp only [List.length_drop, List.length_take]; rfl)) ?_; (with_reducible refine (spec_DrawHex.calls k _ _ l0 t296 _ ?side1 ?side2 A5.out).mono ?_); (case side1 => repeat (first | exact (Kd.C_below HR0.out HB.out) | (with_reducible refine Kd.C_alloc ?_ _) | (with_reducible refine Kd.C_drewN ?_ _) | (with_reducible refine Kd.C_drew ?_))); (case side2 => exact HC0.out); rintro e w11 ⟨rfl, hb⟩; refine ⟨_, rfl, ?_⟩; have n0_ := Aside0.mk (below_step (by repeat (first | (with_reducible first | exact HB.out | apply below_alloc | apply pw_below_drewN | apply below_drew1) | exact HB.out)) hb); clear HB; have HB := n0_; clear n0_; (try clear hb); (try clear hb2); (try clear hk); (try clear hi)) | ((with_reducible refine gate_callee (f := 27) rfl ?_); refine goesL_ (some 24) rfl rfl Tryd.func27 (by kernel_rfl) rfl #[.int .i64 t295] rfl (by (try simp only [List.map_toArray, List.map_cons, List.map_nil]); first | done | rfl | (simp only [List.length_drop, List.length_take]; rfl)) ?_; (with_reducible refine (impl_Var.calls k t295 t297 _ A6.out).mono ?_); rintro e w12 ⟨rfl, hb⟩; refine ⟨_, rfl, ?_⟩; have n0_ := Aside0.mk (below_step (by repeat (first | (with_reducible first | exact HB.out | apply below_alloc | apply pw_below_drewN | apply below_drew1) | exact HB.out)) hb); clear HB; have HB := n0_; clear n0_; (try clear hb); (try clear hb2); (try clear hk); (try clear hi)) | ((with_reducible refine gate_callee (f := 28) rfl ?_); refine goesL_ (some 29) rfl rfl Tryd.func28 (by kernel_rfl) rfl #[.string (t297 ++ t296)] rfl (by (try simp only [List.map_toArray, List.map_cons, List.map_nil]); first | done | rfl | (simp only [List.length_drop, List.length_take]; rfl)) ?_; (with_reducible refine (impl_ReadVar.calls k (t297 ++ t296) t298 t299 _ A8.out).mono ?_); rintro e w13 ⟨rfl, hb⟩; refine ⟨_, rfl, ?_⟩; have n0_ := Aside0.mk (below_step (by repeat (first | (with_reducible first | exact HB.out | apply below_alloc | apply pw_below_drewN | apply below_drew1) | exact HB.out)) hb); clear HB; have HB := n0_; clear n0_; (try clear hb); (try clear hb2); (try clear hk); (try clear hi)))
      (try simp only [Act.put, List.setIfInBounds_toArray, List.set_cons_zero, List.set_cons_succ])
      go_cut [55] (fun v55 wc => ∃ (kq : Nat) (x55_8 : Bool), v55 = .bool x55_8 ∧ Aside0 (laws_FnNumbers.j0 kq l0 t295 t296 x55_8 = some r) ∧ Aside0 (kq ≤ k) ∧ Aside0 (Below w.heap.size w wc))
      case first =>
        have H := HC9.out
        clear HC9
        by_cases hN : t295 ≥ 0
        · by_cases hM : t295 ≤ 562949953421311
          · by_cases hE : t297.toList = ([] : List UInt8)
            · by_cases hQ : t298 = t295
              · have hNb : decide (0 ≤ t295) = true := decide_eq_true hN
                have hMb : decide (t295 ≤ 562949953421311) = true := decide_eq_true hM
                have hEb0 : (t297.toList == ([] : List UInt8)) = true := beq_iff_eq.mpr hE
                have hEb1 : (t297.toList != ([] : List UInt8)) = false := bne_eq_false_iff_eq.mpr hE
                have hQb0 : (t298 == t295) = true := beq_iff_eq.mpr hQ
                have hQb1 : (t298 != t295) = false := bne_eq_false_iff_eq.mpr hQ
                rw [if_pos hN, hEb1, hMb] at H
                rw [if_pos (by decide)] at H
                clear hN hM hE hQ
                (first | rw [hNb] | (simp only [i64_w, i32_w]; rw [hNb]) | skip)
                have H' := Aside0.mk H
                clear H
                go_wp2
                go_meet
                case rel => exact ⟨_, (true), (by first | rfl | (simp; done) | (simp [*]; done)), H', ⟨by first | omega | exact Nat.le_refl _⟩, ⟨by repeat (first | (with_reducible first | exact HB.out | apply below_alloc | apply pw_below_drewN | apply below_drew1) | exact HB.out)⟩⟩
              · have hNb : decide (0 ≤ t295) = true := decide_eq_true hN
                have hMb : decide (t295 ≤ 562949953421311) = true := decide_eq_true hM
                have hEb0 : (t297.toList == ([] : List UInt8)) = true := beq_iff_eq.mpr hE
                have hEb1 : (t297.toList != ([] : List UInt8)) = false := bne_eq_false_iff_eq.mpr hE
                have hQb0 : (t298 == t295) = false := beq_eq_false_iff_ne.mpr hQ
                have hQb1 : (t298 != t295) = true := bne_iff_ne.mpr hQ
                rw [if_pos hN, hEb1, hMb] at H
                rw [if_pos (by decide)] at H
                clear hN hM hE hQ
                (first | rw [hNb] | (simp only [i64_w, i32_w]; rw [hNb]) | skip)
                have H' := Aside0.mk H
                clear H
                go_wp2
                go_meet
                case rel => exact ⟨_, (true), (by first | rfl | (simp; done) | (simp [*]; done)), H', ⟨by first | omega | exact Nat.le_refl _⟩, ⟨by repeat (first | (with_reducible first | exact HB.out | apply below_alloc | apply pw_below_drewN | apply below_drew1) | exact HB.out)⟩⟩
            · by_cases hQ : t298 = t295
              · have hNb : decide (0 ≤ t295) = true := decide_eq_true hN
                have hMb : decide (t295 ≤ 562949953421311) = true := decide_eq_true hM
                have hEb0 : (t297.toList == ([] : List UInt8)) = false := beq_eq_false_iff_ne.mpr hE
                have hEb1 : (t297.toList != ([] : List UInt8)) = true := bne_iff_ne.mpr hE
                have hQb0 : (t298 == t295) = true := beq_iff_eq.mpr hQ
                have hQb1 : (t298 != t295) = false := bne_eq_false_iff_eq.mpr hQ
                rw [if_pos hN, hEb1, hMb] at H
                rw [if_neg (by decide)] at H
                rw [if_neg hE, if_pos hQ] at H
                clear hN hM hE hQ
                (first | rw [hNb] | (simp only [i64_w, i32_w]; rw [hNb]) | skip)
                have H' := Aside0.mk H
                clear H
                go_wp2
                go_meet
                case rel => exact ⟨_, ((t299 != (t297.size : Int))), (by first | rfl | (simp; done) | (simp [*]; done)), H', ⟨by first | omega | exact Nat.le_refl _⟩, ⟨by repeat (first | (with_reducible first | exact HB.out | apply below_alloc | apply pw_below_drewN | apply below_drew1) | exact HB.out)⟩⟩
              · have hNb : decide (0 ≤ t295) = true := decide_eq_true hN
                have hMb : decide (t295 ≤ 562949953421311) = true := decide_eq_true hM
                have hEb0 : (t297.toList == ([] : List UInt8)) = false := beq_eq_false_iff_ne.mpr hE
                have hEb1 : (t297.toList != ([] : List UInt8)) = true := bne_iff_ne.mpr hE
                have hQb0 : (t298 == t295) = false := beq_eq_false_iff_ne.mpr hQ
                have hQb1 : (t298 != t295) = true := bne_iff_ne.mpr hQ
                rw [if_pos hN, hEb1, hMb] at H
                rw [if_neg (by decide)] at H
                rw [if_neg hE, if_neg hQ] at H
                clear hN hM hE hQ
                (first | rw [hNb] | (simp only [i64_w, i32_w]; rw [hNb]) | skip)
                have H' := Aside0.mk H
                clear H
                go_wp2
                go_meet
                case rel => exact ⟨_, (true), (by first | rfl | (simp; done) | (simp [*]; done)), H', ⟨by first | omega | exact Nat.le_refl _⟩, ⟨by repeat (first | (with_reducible first | exact HB.out | apply below_alloc | apply pw_below_drewN | apply below_drew1) | exact HB.out)⟩⟩
          · by_cases hE : t297.toList = ([] : List UInt8)
            · by_cases hQ : t298 = t295
              · have hNb : decide (0 ≤ t295) = true := decide_eq_true hN
                have hMb : decide (t295 ≤ 562949953421311) = false := decide_eq_false hM
                have hEb0 : (t297.toList == ([] : List UInt8)) = true := beq_iff_eq.mpr hE
                have hEb1 : (t297.toList != ([] : List UInt8)) = false := bne_eq_false_iff_eq.mpr hE
                have hQb0 : (t298 == t295) = true := beq_iff_eq.mpr hQ
                have hQb1 : (t298 != t295) = false := bne_eq_false_iff_eq.mpr hQ
                rw [if_pos hN, hEb1, hMb] at H
                rw [if_neg (by decide)] at H
                rw [if_pos hE] at H
                clear hN hM hE hQ
                (first | rw [hNb] | (simp only [i64_w, i32_w]; rw [hNb]) | skip)
                have H' := Aside0.mk H
                clear H
                go_wp2
                go_meet
                case rel => exact ⟨_, (false), (by first | rfl | (simp; done) | (simp [*]; done)), H', ⟨by first | omega | exact Nat.le_refl _⟩, ⟨by repeat (first | (with_reducible first | exact HB.out | apply below_alloc | apply pw_below_drewN | apply below_drew1) | exact HB.out)⟩⟩
              · have hNb : decide (0 ≤ t295) = true := decide_eq_true hN
                have hMb : decide (t295 ≤ 562949953421311) = false := decide_eq_false hM
                have hEb0 : (t297.toList == ([] : List UInt8)) = true := beq_iff_eq.mpr hE
                have hEb1 : (t297.toList != ([] : List UInt8)) = false := bne_eq_false_iff_eq.mpr hE
                have hQb0 : (t298 == t295) = false := beq_eq_false_iff_ne.mpr hQ
                have hQb1 : (t298 != t295) = true := bne_iff_ne.mpr hQ
                rw [if_pos hN, hEb1, hMb] at H
                rw [if_neg (by decide)] at H
                rw [if_pos hE] at H
                clear hN hM hE hQ
                (first | rw [hNb] | (simp only [i64_w, i32_w]; rw [hNb]) | skip)
                have H' := Aside0.mk H
                clear H
                go_wp2
                go_meet
                case rel => exact ⟨_, (false), (by first | rfl | (simp; done) | (simp [*]; done)), H', ⟨by first | omega | exact Nat.le_refl _⟩, ⟨by repeat (first | (with_reducible first | exact HB.out | apply below_alloc | apply pw_below_drewN | apply below_drew1) | exact HB.out)⟩⟩
            · by_cases hQ : t298 = t295
              · have hNb : decide (0 ≤ t295) = true := decide_eq_true hN
                have hMb : decide (t295 ≤ 562949953421311) = false := decide_eq_false hM
                have hEb0 : (t297.toList == ([] : List UInt8)) = false := beq_eq_false_iff_ne.mpr hE
                have hEb1 : (t297.toList != ([] : List UInt8)) = true := bne_iff_ne.mpr hE
                have hQb0 : (t298 == t295) = true := beq_iff_eq.mpr hQ
                have hQb1 : (t298 != t295) = false := bne_eq_false_iff_eq.mpr hQ
                rw [if_pos hN, hEb1, hMb] at H
                rw [if_pos (by decide)] at H
                clear hN hM hE hQ
                (first | rw [hNb] | (simp only [i64_w, i32_w]; rw [hNb]) | skip)
                have H' := Aside0.mk H
                clear H
                go_wp2
                go_meet
                case rel => exact ⟨_, (true), (by first | rfl | (simp; done) | (simp [*]; done)), H', ⟨by first | omega | exact Nat.le_refl _⟩, ⟨by repeat (first | (with_reducible first | exact HB.out | apply below_alloc | apply pw_below_drewN | apply below_drew1) | exact HB.out)⟩⟩
              · have hNb : decide (0 ≤ t295) = true := decide_eq_true hN
                have hMb : decide (t295 ≤ 562949953421311) = false := decide_eq_false hM
                have hEb0 : (t297.toList == ([] : List UInt8)) = false := beq_eq_false_iff_ne.mpr hE
                have hEb1 : (t297.toList != ([] : List UInt8)) = true := bne_iff_ne.mpr hE
                have hQb0 : (t298 == t295) = false := beq_eq_false_iff_ne.mpr hQ
                have hQb1 : (t298 != t295) = true := bne_iff_ne.mpr hQ
                rw [if_pos hN, hEb1, hMb] at H
                rw [if_pos (by decide)] at H
                clear hN hM hE hQ
                (first | rw [hNb] | (simp only [i64_w, i32_w]; rw [hNb]) | skip)
                have H' := Aside0.mk H
                clear H
                go_wp2
                go_meet
                case rel => exact ⟨_, (true), (by first | rfl | (simp; done) | (simp [*]; done)), H', ⟨by first | omega | exact Nat.le_refl _⟩, ⟨by repeat (first | (with_reducible first | exact HB.out | apply below_alloc | apply pw_below_drewN | apply below_drew1) | exact HB.out)⟩⟩
        · by_cases hM : t295 ≤ 562949953421311
          · by_cases hE : t297.toList = ([] : List UInt8)
            · by_cases hQ : t298 = t295
              · have hNb : decide (0 ≤ t295) = false := decide_eq_false hN
                have hMb : decide (t295 ≤ 562949953421311) = true := decide_eq_true hM
                have hEb0 : (t297.toList == ([] : List UInt8)) = true := beq_iff_eq.mpr hE
                have hEb1 : (t297.toList != ([] : List UInt8)) = false := bne_eq_false_iff_eq.mpr hE
                have hQb0 : (t298 == t295) = true := beq_iff_eq.mpr hQ
                have hQb1 : (t298 != t295) = false := bne_eq_false_iff_eq.mpr hQ
                rw [if_neg hN, hEb1] at H
                rw [if_neg (by decide)] at H
                rw [if_pos hE] at H
                clear hN hM hE hQ
                (first | rw [hNb] | (simp only [i64_w, i32_w]; rw [hNb]) | skip)
                have H' := Aside0.mk H
                clear H
                go_wp2
                go_meet
                case rel => exact ⟨_, (false), (by first | rfl | (simp; done) | (simp [*]; done)), H', ⟨by first | omega | exact Nat.le_refl _⟩, ⟨by repeat (first | (with_reducible first | exact HB.out | apply below_alloc | apply pw_below_drewN | apply below_drew1) | exact HB.out)⟩⟩
              · have hNb : decide (0 ≤ t295) = false := decide_eq_false hN
                have hMb : decide (t295 ≤ 562949953421311) = true := decide_eq_true hM
                have hEb0 : (t297.toList == ([] : List UInt8)) = true := beq_iff_eq.mpr hE
                have hEb1 : (t297.toList != ([] : List UInt8)) = false := bne_eq_false_iff_eq.mpr hE
                have hQb0 : (t298 == t295) = false := beq_eq_false_iff_ne.mpr hQ
                have hQb1 : (t298 != t295) = true := bne_iff_ne.mpr hQ
                rw [if_neg hN, hEb1] at H
                rw [if_neg (by decide)] at H
                rw [if_pos hE] at H
                clear hN hM hE hQ
                (first | rw [hNb] | (simp only [i64_w, i32_w]; rw [hNb]) | skip)
                have H' := Aside0.mk H
                clear H
                go_wp2
                go_meet
                case rel => exact ⟨_, (false), (by first | rfl | (simp; done) | (simp [*]; done)), H', ⟨by first | omega | exact Nat.le_refl _⟩, ⟨by repeat (first | (with_reducible first | exact HB.out | apply below_alloc | apply pw_below_drewN | apply below_drew1) | exact HB.out)⟩⟩
            · by_cases hQ : t298 = t295
              · have hNb : decide (0 ≤ t295) = false := decide_eq_false hN
                have hMb : decide (t295 ≤ 562949953421311) = true := decide_eq_true hM
                have hEb0 : (t297.toList == ([] : List UInt8)) = false := beq_eq_false_iff_ne.mpr hE
                have hEb1 : (t297.toList != ([] : List UInt8)) = true := bne_iff_ne.mpr hE
                have hQb0 : (t298 == t295) = true := beq_iff_eq.mpr hQ
                have hQb1 : (t298 != t295) = false := bne_eq_false_iff_eq.mpr hQ
                rw [if_neg hN, hEb1] at H
                rw [if_pos (by decide)] at H
                clear hN hM hE hQ
                (first | rw [hNb] | (simp only [i64_w, i32_w]; rw [hNb]) | skip)
                have H' := Aside0.mk H
                clear H
                go_wp2
                go_meet
                case rel => exact ⟨_, (true), (by first | rfl | (simp; done) | (simp [*]; done)), H', ⟨by first | omega | exact Nat.le_refl _⟩, ⟨by repeat (first | (with_reducible first | exact HB.out | apply below_alloc | apply pw_below_drewN | apply below_drew1) | exact HB.out)⟩⟩
              · have hNb : decide (0 ≤ t295) = false := decide_eq_false hN
                have hMb : decide (t295 ≤ 562949953421311) = true := decide_eq_true hM
                have hEb0 : (t297.toList == ([] : List UInt8)) = false := beq_eq_false_iff_ne.mpr hE
                have hEb1 : (t297.toList != ([] : List UInt8)) = true := bne_iff_ne.mpr hE
                have hQb0 : (t298 == t295) = false := beq_eq_false_iff_ne.mpr hQ
                have hQb1 : (t298 != t295) = true := bne_iff_ne.mpr hQ
                rw [if_neg hN, hEb1] at H
                rw [if_pos (by decide)] at H
                clear hN hM hE hQ
                (first | rw [hNb] | (simp only [i64_w, i32_w]; rw [hNb]) | skip)
                have H' := Aside0.mk H
                clear H
                go_wp2
                go_meet
                case rel => exact ⟨_, (true), (by first | rfl | (simp; done) | (simp [*]; done)), H', ⟨by first | omega | exact Nat.le_refl _⟩, ⟨by repeat (first | (with_reducible first | exact HB.out | apply below_alloc | apply pw_below_drewN | apply below_drew1) | exact HB.out)⟩⟩
          · by_cases hE : t297.toList = ([] : List UInt8)
            · by_cases hQ : t298 = t295
              · have hNb : decide (0 ≤ t295) = false := decide_eq_false hN
                have hMb : decide (t295 ≤ 562949953421311) = false := decide_eq_false hM
                have hEb0 : (t297.toList == ([] : List UInt8)) = true := beq_iff_eq.mpr hE
                have hEb1 : (t297.toList != ([] : List UInt8)) = false := bne_eq_false_iff_eq.mpr hE
                have hQb0 : (t298 == t295) = true := beq_iff_eq.mpr hQ
                have hQb1 : (t298 != t295) = false := bne_eq_false_iff_eq.mpr hQ
                rw [if_neg hN, hEb1] at H
                rw [if_neg (by decide)] at H
                rw [if_pos hE] at H
                clear hN hM hE hQ
                (first | rw [hNb] | (simp only [i64_w, i32_w]; rw [hNb]) | skip)
                have H' := Aside0.mk H
                clear H
                go_wp2
                go_meet
                case rel => exact ⟨_, (false), (by first | rfl | (simp; done) | (simp [*]; done)), H', ⟨by first | omega | exact Nat.le_refl _⟩, ⟨by repeat (first | (with_reducible first | exact HB.out | apply below_alloc | apply pw_below_drewN | apply below_drew1) | exact HB.out)⟩⟩
              · have hNb : decide (0 ≤ t295) = false := decide_eq_false hN
                have hMb : decide (t295 ≤ 562949953421311) = false := decide_eq_false hM
                have hEb0 : (t297.toList == ([] : List UInt8)) = true := beq_iff_eq.mpr hE
                have hEb1 : (t297.toList != ([] : List UInt8)) = false := bne_eq_false_iff_eq.mpr hE
                have hQb0 : (t298 == t295) = false := beq_eq_false_iff_ne.mpr hQ
                have hQb1 : (t298 != t295) = true := bne_iff_ne.mpr hQ
                rw [if_neg hN, hEb1] at H
                rw [if_neg (by decide)] at H
                rw [if_pos hE] at H
                clear hN hM hE hQ
                (first | rw [hNb] | (simp only [i64_w, i32_w]; rw [hNb]) | skip)
                have H' := Aside0.mk H
                clear H
                go_wp2
                go_meet
                case rel => exact ⟨_, (false), (by first | rfl | (simp; done) | (simp [*]; done)), H', ⟨by first | omega | exact Nat.le_refl _⟩, ⟨by repeat (first | (with_reducible first | exact HB.out | apply below_alloc | apply pw_below_drewN | apply below_drew1) | exact HB.out)⟩⟩
            · by_cases hQ : t298 = t295
              · have hNb : decide (0 ≤ t295) = false := decide_eq_false hN
                have hMb : decide (t295 ≤ 562949953421311) = false := decide_eq_false hM
                have hEb0 : (t297.toList == ([] : List UInt8)) = false := beq_eq_false_iff_ne.mpr hE
                have hEb1 : (t297.toList != ([] : List UInt8)) = true := bne_iff_ne.mpr hE
                have hQb0 : (t298 == t295) = true := beq_iff_eq.mpr hQ
                have hQb1 : (t298 != t295) = false := bne_eq_false_iff_eq.mpr hQ
                rw [if_neg hN, hEb1] at H
                rw [if_pos (by decide)] at H
                clear hN hM hE hQ
                (first | rw [hNb] | (simp only [i64_w, i32_w]; rw [hNb]) | skip)
                have H' := Aside0.mk H
                clear H
                go_wp2
                go_meet
                case rel => exact ⟨_, (true), (by first | rfl | (simp; done) | (simp [*]; done)), H', ⟨by first | omega | exact Nat.le_refl _⟩, ⟨by repeat (first | (with_reducible first | exact HB.out | apply below_alloc | apply pw_below_drewN | apply below_drew1) | exact HB.out)⟩⟩
              · have hNb : decide (0 ≤ t295) = false := decide_eq_false hN
                have hMb : decide (t295 ≤ 562949953421311) = false := decide_eq_false hM
                have hEb0 : (t297.toList == ([] : List UInt8)) = false := beq_eq_false_iff_ne.mpr hE
                have hEb1 : (t297.toList != ([] : List UInt8)) = true := bne_iff_ne.mpr hE
                have hQb0 : (t298 == t295) = false := beq_eq_false_iff_ne.mpr hQ
                have hQb1 : (t298 != t295) = true := bne_iff_ne.mpr hQ
                rw [if_neg hN, hEb1] at H
                rw [if_pos (by decide)] at H
                clear hN hM hE hQ
                (first | rw [hNb] | (simp only [i64_w, i32_w]; rw [hNb]) | skip)
                have H' := Aside0.mk H
                clear H
                go_wp2
                go_meet
                case rel => exact ⟨_, (true), (by first | rfl | (simp; done) | (simp [*]; done)), H', ⟨by first | omega | exact Nat.le_refl _⟩, ⟨by repeat (first | (with_reducible first | exact HB.out | apply below_alloc | apply pw_below_drewN | apply below_drew1) | exact HB.out)⟩⟩
      case rest =>
        clear HC9
        try clear c1
        try clear c2
        try clear p2
        try clear c3
        try clear c7
        try clear c7b0
        try clear c7b1
        try clear c7b2
        try clear c14
        try clear c14b0
        try clear c15
        try clear c15b0
        try clear c15b1
        try clear c15b2
        try clear c16
        try clear c16b0
        try clear c16b1
        try clear c17
        try clear c17b0
        try clear c17b1
        try clear c18
        try clear c18b0
        try clear c18b1
        try clear c18b2
        try clear c19
        try clear c19b0
        try clear c19b1
        try clear c20
        try clear c20b0
        try clear c20b1
        obtain ⟨kq, x55_8, rfl, HA, HJ8, HB⟩ := hcut
        cases kq with
        | zero => exact absurd HA.out (by simp [laws_FnNumbers.j0])
        | succ kj8 =>
          have H := HA.out
          clear HA
          simp only [laws_FnNumbers.j0] at H
          by_cases c21 : x55_8 = true
          · subst c21
            have H1 : (some false) = some r := by rw [if_pos rfl] at H; exact H
            clear H
            have H := H1
            clear H1
            obtain rfl := Option.some.inj H
            go_wp2
            go_ret
            exact ⟨by first | rfl | (simp [errW_none, errW_some] <;> rfl) | (simp [*, errW_none, errW_some] <;> rfl), by repeat (first | (with_reducible first | exact HB.out | apply below_alloc | apply pw_below_drewN | apply below_drew1) | exact HB.out)⟩
          · replace c21 := Bool.eq_false_iff.mpr c21
            subst c21
            have H1 : ((impl_Fixed.f kj8 t295 7).bind fun t300 => (if t300.size + t296.size ≤ 9223372036854775807 then ((impl_ReadFixed.f kj8 (t300 ++ t296) 7).bind fun bt301 => (if t300.toList = ([] : List UInt8) then (if t295 < 0 then (laws_FnNumbers.j1 kj8 l0 t295 t296 ((t300.toList == ([] : List UInt8)) != true)) else (laws_FnNumbers.j1 kj8 l0 t295 t296 ((t300.toList == ([] : List UInt8)) != (decide (t295 ≥ 72057594037927936))))) else (if bt301.2 = true then (if bt301.1 = t295 then (if (t300.size : Int) = 7 then (if t295 < 0 then (laws_FnNumbers.j1 kj8 l0 t295 t296 ((t300.toList == ([] : List UInt8)) != true)) else (laws_FnNumbers.j1 kj8 l0 t295 t296 ((t300.toList == ([] : List UInt8)) != (decide (t295 ≥ 72057594037927936))))) else (laws_FnNumbers.j1 kj8 l0 t295 t296 true)) else (laws_FnNumbers.j1 kj8 l0 t295 t296 true)) else (laws_FnNumbers.j1 kj8 l0 t295 t296 true)))) else (none))) = some r := by rw [if_neg (show ¬ (false = true) by decide)] at H; exact H
            clear H
            have H := H1
            clear H1
            replace H := Option.bind_eq_some_iff.mp H
            obtain ⟨t300, A220, H⟩ := H
            replace H : (if t300.size + t296.size ≤ 9223372036854775807 then ((impl_ReadFixed.f kj8 (t300 ++ t296) 7).bind fun bt301 => (if t300.toList = ([] : List UInt8) then (if t295 < 0 then (laws_FnNumbers.j1 kj8 l0 t295 t296 ((t300.toList == ([] : List UInt8)) != true)) else (laws_FnNumbers.j1 kj8 l0 t295 t296 ((t300.toList == ([] : List UInt8)) != (decide (t295 ≥ 72057594037927936))))) else (if bt301.2 = true then (if bt301.1 = t295 then (if (t300.size : Int) = 7 then (if t295 < 0 then (laws_FnNumbers.j1 kj8 l0 t295 t296 ((t300.toList == ([] : List UInt8)) != true)) else (laws_FnNumbers.j1 kj8 l0 t295 t296 ((t300.toList == ([] : List UInt8)) != (decide (t295 ≥ 72057594037927936))))) else (laws_FnNumbers.j1 kj8 l0 t295 t296 true)) else (laws_FnNumbers.j1 kj8 l0 t295 t296 true)) else (laws_FnNumbers.j1 kj8 l0 t295 t296 true)))) else (none)) = some r := H
            have A22 := Aside0.mk A220
            clear A220
            by_cases c23 : t300.size + t296.size ≤ 9223372036854775807
            · rw [if_pos c23] at H
              have c23b0 := eq_true c23
              have c23b1 : decide (t300.size + t296.size ≤ 9223372036854775807) = true := decide_eq_true c23
              try have c23b2 : (9223372036854775807 < t300.size + t296.size) = False := eq_false (Nat.not_lt.2 c23)
              replace H := Option.bind_eq_some_iff.mp H
              obtain ⟨⟨t301, t302⟩, A240, H⟩ := H
              replace H : (if t300.toList = ([] : List UInt8) then (if t295 < 0 then (laws_FnNumbers.j1 kj8 l0 t295 t296 ((t300.toList == ([] : List UInt8)) != true)) else (laws_FnNumbers.j1 kj8 l0 t295 t296 ((t300.toList == ([] : List UInt8)) != (decide (t295 ≥ 72057594037927936))))) else (if t302 = true then (if t301 = t295 then (if (t300.size : Int) = 7 then (if t295 < 0 then (laws_FnNumbers.j1 kj8 l0 t295 t296 ((t300.toList == ([] : List UInt8)) != true)) else (laws_FnNumbers.j1 kj8 l0 t295 t296 ((t300.toList == ([] : List UInt8)) != (decide (t295 ≥ 72057594037927936))))) else (laws_FnNumbers.j1 kj8 l0 t295 t296 true)) else (laws_FnNumbers.j1 kj8 l0 t295 t296 true)) else (laws_FnNumbers.j1 kj8 l0 t295 t296 true))) = some r := H
              have A24 := Aside0.mk A240
              clear A240
              have HC25 := Aside0.mk H
              clear H
              go_upto_region 11 with (first | ((with_reducible refine gate_callee (f := 29) rfl ?_); refine goesL_ (some 57) rfl rfl Tryd.func29 (by kernel_rfl) rfl #[.int .i64 t295, .int .i64 7] rfl (by (try simp only [List.map_toArray, List.map_cons, List.map_nil]); first | done | rfl | (simp only [List.length_drop, List.length_take]; rfl)) ?_; (with_reducible refine (impl_Fixed.calls kj8 t295 7 t300 _ A22.out).mono ?_); rintro e w26 ⟨rfl, hb⟩; refine ⟨_, rfl, ?_⟩; have n0_ := Aside0.mk (below_step (by repeat (first | (with_reducible first | exact HB.out | apply below_alloc | apply pw_below_drewN | apply below_drew1) | exact HB.out)) hb); clear HB; have HB := n0_; clear n0_; (try clear hb); (try clear hb2); (try clear hk); (try clear hi)) | ((with_reducible refine gate_callee (f := 30) rfl ?_); refine goesL_ (some 62) rfl rfl Tryd.func30 (by kernel_rfl) rfl #[.string (t300 ++ t296), .int .i64 7] rfl (by (try simp only [List.map_toArray, List.map_cons, List.map_nil]); first | done | rfl | (simp only [List.length_drop, List.length_take]; rfl)) ?_; (with_reducible refine (impl_ReadFixed.calls kj8 (t300 ++ t296) 7 t301 t302 _ A24.out).mono ?_); rintro e w' ⟨rfl, ⟨nd, rfl⟩⟩; refine ⟨_, rfl, ?_⟩))
              (try simp only [Act.put, List.setIfInBounds_toArray, List.set_cons_zero, List.set_cons_succ])
              go_cut [91] (fun v91 wc => ∃ (kq : Nat) (x91_24 : Bool), v91 = .bool x91_24 ∧ Aside0 (laws_FnNumbers.j1 kq l0 t295 t296 x91_24 = some r) ∧ Aside0 (kq ≤ kj8) ∧ Aside0 (Below w.heap.size w wc))
              case first =>
                have H := HC25.out
                clear HC25
                by_cases c27 : t300.toList = ([] : List UInt8)
                · rw [if_pos c27] at H
                  have c27b0 : (t300.toList == ([] : List UInt8)) = true := beq_iff_eq.mpr c27
                  have c27b1 : (t300.toList != ([] : List UInt8)) = false := bne_eq_false_iff_eq.mpr c27
                  clear c27
                  (first | rw [c27b0] | (simp only [i64_w, i32_w]; rw [c27b0]) | skip)
                  by_cases c28 : t295 < 0
                  · rw [if_pos c28] at H
                    have c28b0 : decide (t295 < 0) = true := decide_eq_true c28
                    clear c28
                    have H' := Aside0.mk H
                    clear H
                    go_wp2
                    go_meet
                    case rel => exact ⟨_, (((t300.toList == ([] : List UInt8)) != true)), (by first | rfl | (simp; done) | (simp [*]; done)), H', ⟨by have := HJ8.out; first | omega | exact Nat.le_refl _⟩, ⟨by repeat (first | (with_reducible first | exact HB.out | apply below_alloc | apply pw_below_drewN | apply below_drew1) | exact HB.out)⟩⟩
                  · rw [if_neg c28] at H
                    have c28b0 : decide (t295 < 0) = false := decide_eq_false c28
                    clear c28
                    have H' := Aside0.mk H
                    clear H
                    go_wp2
                    go_meet
                    case rel => exact ⟨_, (((t300.toList == ([] : List UInt8)) != (decide (t295 ≥ 72057594037927936)))), (by first | rfl | (simp; done) | (simp [*]; done)), H', ⟨by have := HJ8.out; first | omega | exact Nat.le_refl _⟩, ⟨by repeat (first | (with_reducible first | exact HB.out | apply below_alloc | apply pw_below_drewN | apply below_drew1) | exact HB.out)⟩⟩
                · rw [if_neg c27] at H
                  have c27b0 : (t300.toList == ([] : List UInt8)) = false := beq_eq_false_iff_ne.mpr c27
                  have c27b1 : (t300.toList != ([] : List UInt8)) = true := bne_iff_ne.mpr c27
                  (first | rw [c27b0] | (simp only [i64_w, i32_w]; rw [c27b0]) | skip)
                  by_cases c29 : t302 = true
                  · subst c29
                    have H1 : (if t301 = t295 then (if (t300.size : Int) = 7 then (if t295 < 0 then (laws_FnNumbers.j1 kj8 l0 t295 t296 ((t300.toList == ([] : List UInt8)) != true)) else (laws_FnNumbers.j1 kj8 l0 t295 t296 ((t300.toList == ([] : List UInt8)) != (decide (t295 ≥ 72057594037927936))))) else (laws_FnNumbers.j1 kj8 l0 t295 t296 true)) else (laws_FnNumbers.j1 kj8 l0 t295 t296 true)) = some r := by rw [if_pos rfl] at H; exact H
                    clear H
                    have H := H1
                    clear H1
                    by_cases c30 : t301 = t295
                    · rw [if_pos c30] at H
                      have c30b0 : (t301 == t295) = true := beq_iff_eq.mpr c30
                      have c30b1 : (t301 != t295) = false := bne_eq_false_iff_eq.mpr c30
                      clear c30
                      by_cases c31 : (t300.size : Int) = 7
                      · rw [if_pos c31] at H
                        have c31b0 : ((t300.size : Int) == 7) = true := beq_iff_eq.mpr c31
                        have c31b1 : ((t300.size : Int) != 7) = false := bne_eq_false_iff_eq.mpr c31
                        clear c31
                        by_cases c32 : t295 < 0
                        · rw [if_pos c32] at H
                          have c32b0 : decide (t295 < 0) = true := decide_eq_true c32
                          clear c32
                          have H' := Aside0.mk H
                          clear H
                          go_wp2
                          go_meet
                          case rel => exact ⟨_, (((t300.toList == ([] : List UInt8)) != true)), (by first | rfl | (simp; done) | (simp [*]; done)), H', ⟨by have := HJ8.out; first | omega | exact Nat.le_refl _⟩, ⟨by repeat (first | (with_reducible first | exact HB.out | apply below_alloc | apply pw_below_drewN | apply below_drew1) | exact HB.out)⟩⟩
                        · rw [if_neg c32] at H
                          have c32b0 : decide (t295 < 0) = false := decide_eq_false c32
                          clear c32
                          have H' := Aside0.mk H
                          clear H
                          go_wp2
                          go_meet
                          case rel => exact ⟨_, (((t300.toList == ([] : List UInt8)) != (decide (t295 ≥ 72057594037927936)))), (by first | rfl | (simp; done) | (simp [*]; done)), H', ⟨by have := HJ8.out; first | omega | exact Nat.le_refl _⟩, ⟨by repeat (first | (with_reducible first | exact HB.out | apply below_alloc | apply pw_below_drewN | apply below_drew1) | exact HB.out)⟩⟩
                      · rw [if_neg c31] at H
                        have c31b0 : ((t300.size : Int) == 7) = false := beq_eq_false_iff_ne.mpr c31
                        have c31b1 : ((t300.size : Int) != 7) = true := bne_iff_ne.mpr c31
                        have H' := Aside0.mk H
                        clear H
                        go_wp2
                        go_meet
                        case rel => exact ⟨_, (true), (by first | rfl | (simp; done) | (simp [*]; done)), H', ⟨by have := HJ8.out; first | omega | exact Nat.le_refl _⟩, ⟨by repeat (first | (with_reducible first | exact HB.out | apply below_alloc | apply pw_below_drewN | apply below_drew1) | exact HB.out)⟩⟩
                    · rw [if_neg c30] at H
                      have c30b0 : (t301 == t295) = false := beq_eq_false_iff_ne.mpr c30
                      have c30b1 : (t301 != t295) = true := bne_iff_ne.mpr c30
                      have H' := Aside0.mk H
                      clear H
                      go_wp2
                      go_meet
                      case rel => exact ⟨_, (true), (by first | rfl | (simp; done) | (simp [*]; done)), H', ⟨by have := HJ8.out; first | omega | exact Nat.le_refl _⟩, ⟨by repeat (first | (with_reducible first | exact HB.out | apply below_alloc | apply pw_below_drewN | apply below_drew1) | exact HB.out)⟩⟩
                  · replace c29 := Bool.eq_false_iff.mpr c29
                    subst c29
                    have H1 : (laws_FnNumbers.j1 kj8 l0 t295 t296 true) = some r := by rw [if_neg (show ¬ (false = true) by decide)] at H; exact H
                    clear H
                    have H := H1
                    clear H1
                    have H' := Aside0.mk H
                    clear H
                    go_wp2
                    go_meet
                    case rel => exact ⟨_, (true), (by first | rfl | (simp; done) | (simp [*]; done)), H', ⟨by have := HJ8.out; first | omega | exact Nat.le_refl _⟩, ⟨by repeat (first | (with_reducible first | exact HB.out | apply below_alloc | apply pw_below_drewN | apply below_drew1) | exact HB.out)⟩⟩
              case rest =>
                clear HC25
                try clear c1
                try clear c2
                try clear p2
                try clear c3
                try clear c7
                try clear c7b0
                try clear c7b1
                try clear c7b2
                try clear c14
                try clear c14b0
                try clear c15
                try clear c15b0
                try clear c15b1
                try clear c15b2
                try clear c16
                try clear c16b0
                try clear c16b1
                try clear c17
                try clear c17b0
                try clear c17b1
                try clear c18
                try clear c18b0
                try clear c18b1
                try clear c18b2
                try clear c19
                try clear c19b0
                try clear c19b1
                try clear c20
                try clear c20b0
                try clear c20b1
                try clear c21
                try clear c23
                try clear c23b0
                try clear c23b1
                try clear c23b2
                try clear c25
                try clear c26
                try clear c27
                try clear c27b0
                try clear c27b1
                try clear c28
                try clear c28b0
                try clear c29
                try clear c30
                try clear c30b0
                try clear c30b1
                try clear c31
                try clear c31b0
                try clear c31b1
                try clear c32
                try clear c32b0
                try clear p2
                obtain ⟨kq, x91_24, rfl, HA, HJ24, HB⟩ := hcut
                cases kq with
                | zero => exact absurd HA.out (by simp [laws_FnNumbers.j1])
                | succ kj24 =>
                  have H := HA.out
                  clear HA
                  simp only [laws_FnNumbers.j1] at H
                  by_cases c33 : x91_24 = true
                  · subst c33
                    have H1 : (some false) = some r := by rw [if_pos rfl] at H; exact H
                    clear H
                    have H := H1
                    clear H1
                    obtain rfl := Option.some.inj H
                    go_wp2
                    go_ret
                    exact ⟨by first | rfl | (simp [errW_none, errW_some] <;> rfl) | (simp [*, errW_none, errW_some] <;> rfl), by repeat (first | (with_reducible first | exact HB.out | apply below_alloc | apply pw_below_drewN | apply below_drew1) | exact HB.out)⟩
                  · replace c33 := Bool.eq_false_iff.mpr c33
                    subst c33
                    have H1 : ((impl_Dec.f kj24 t295).bind fun t303 => ((impl_ReadDec.f kj24 t303).bind fun bt304 => (if t295 > (-1000000000) then (if (bt304.2 != (decide (t295 < 1000000000))) = true then (laws_FnNumbers.j2 kj24 l0 t296 true) else (if bt304.2 = true then (laws_FnNumbers.j2 kj24 l0 t296 (bt304.1 != t295)) else (laws_FnNumbers.j2 kj24 l0 t296 false))) else (if (bt304.2 != false) = true then (laws_FnNumbers.j2 kj24 l0 t296 true) else (if bt304.2 = true then (laws_FnNumbers.j2 kj24 l0 t296 (bt304.1 != t295)) else (laws_FnNumbers.j2 kj24 l0 t296 false)))))) = some r := by rw [if_neg (show ¬ (false = true) by decide)] at H; exact H
                    clear H
                    have H := H1
                    clear H1
                    replace H := Option.bind_eq_some_iff.mp H
                    obtain ⟨t303, A340, H⟩ := H
                    replace H : ((impl_ReadDec.f kj24 t303).bind fun bt304 => (if t295 > (-1000000000) then (if (bt304.2 != (decide (t295 < 1000000000))) = true then (laws_FnNumbers.j2 kj24 l0 t296 true) else (if bt304.2 = true then (laws_FnNumbers.j2 kj24 l0 t296 (bt304.1 != t295)) else (laws_FnNumbers.j2 kj24 l0 t296 false))) else (if (bt304.2 != false) = true then (laws_FnNumbers.j2 kj24 l0 t296 true) else (if bt304.2 = true then (laws_FnNumbers.j2 kj24 l0 t296 (bt304.1 != t295)) else (laws_FnNumbers.j2 kj24 l0 t296 false))))) = some r := H
                    have A34 := Aside0.mk A340
                    clear A340
                    replace H := Option.bind_eq_some_iff.mp H
                    obtain ⟨⟨t304, t305⟩, A350, H⟩ := H
                    replace H : (if t295 > (-1000000000) then (if (t305 != (decide (t295 < 1000000000))) = true then (laws_FnNumbers.j2 kj24 l0 t296 true) else (if t305 = true then (laws_FnNumbers.j2 kj24 l0 t296 (t304 != t295)) else (laws_FnNumbers.j2 kj24 l0 t296 false))) else (if (t305 != false) = true then (laws_FnNumbers.j2 kj24 l0 t296 true) else (if t305 = true then (laws_FnNumbers.j2 kj24 l0 t296 (t304 != t295)) else (laws_FnNumbers.j2 kj24 l0 t296 false)))) = some r := H
                    have A35 := Aside0.mk A350
                    clear A350
                    have HC36 := Aside0.mk H
                    clear H
                    go_upto_region 14 with (first | ((with_reducible refine gate_callee (f := 9) rfl ?_); refine goesL_ (some 94) rfl rfl Tryd.func9 (by kernel_rfl) rfl #[.int .i64 t295] rfl (by (try simp only [List.map_toArray, List.map_cons, List.map_nil]); first | done | rfl | (simp only [List.length_drop, List.length_take]; rfl)) ?_; (with_reducible refine (impl_Dec.calls kj24 t295 t303 _ (Go.Joins.tab_stays impl_Dec.gPow HTAB.out (by repeat (first | (with_reducible first | exact HB.out | apply below_alloc | apply pw_below_drewN | apply below_drew1) | exact HB.out)) (Nat.le_refl _)) A34.out).mono ?_); rintro e w37 ⟨rfl, hb⟩; refine ⟨_, rfl, ?_⟩; have n0_ := Aside0.mk (below_step (by repeat (first | (with_reducible first | exact HB.out | apply below_alloc | apply pw_below_drewN | apply below_drew1) | exact HB.out)) hb); clear HB; have HB := n0_; clear n0_; (try clear hb); (try clear hb2); (try clear hk); (try clear hi)) | ((with_reducible refine gate_callee (f := 11) rfl ?_); refine goesL_ (some 95) rfl rfl Tryd.func11 (by kernel_rfl) rfl #[.string t303] rfl (by (try simp only [List.map_toArray, List.map_cons, List.map_nil]); first | done | rfl | (simp only [List.length_drop, List.length_take]; rfl)) ?_; (with_reducible refine (impl_ReadDec.calls kj24 t303 t304 t305 _ (Go.Joins.tab_stays impl_Dec.gPow HTAB.out (by repeat (first | (with_reducible first | exact HB.out | apply below_alloc | apply pw_below_drewN | apply below_drew1) | exact HB.out)) (Nat.le_refl _)) A35.out).mono ?_); rintro e w38 ⟨rfl, hb⟩; refine ⟨_, rfl, ?_⟩; have n0_ := Aside0.mk (below_step (by repeat (first | (with_reducible first | exact HB.out | apply below_alloc | apply pw_below_drewN | apply below_drew1) | exact HB.out)) hb); clear HB; have HB := n0_; clear n0_; (try clear hb); (try clear hb2); (try clear hk); (try clear hi)))
                    (try simp only [Act.put, List.setIfInBounds_toArray, List.set_cons_zero, List.set_cons_succ])
                    go_cut [113] (fun v113 wc => ∃ (kq : Nat) (x113_35 : Bool), v113 = .bool x113_35 ∧ Aside0 (laws_FnNumbers.j2 kq l0 t296 x113_35 = some r) ∧ Aside0 (kq ≤ kj24) ∧ Aside0 (Below w.heap.size w wc))
                    case first =>
                      have H := HC36.out
                      clear HC36
                      by_cases c39 : t295 > (-1000000000)
                      · rw [if_pos c39] at H
                        have c39b0 : decide ((-1000000000) < t295) = true := decide_eq_true c39
                        clear c39
                        (first | rw [c39b0] | (simp only [i64_w, i32_w]; rw [c39b0]) | skip)
                        by_cases c40 : (t305 != (decide (t295 < 1000000000))) = true
                        · rw [if_pos c40] at H
                          have c40b0 : (t305 != (decide (t295 < 1000000000))) = true := c40
                          (try (have c40b1 : decide (t305 = (decide (t295 < 1000000000))) = false := by simpa using c40))
                          (try (have c40b2 : (t305 == (decide (t295 < 1000000000))) = false := by simpa using c40))
                          (try (have c40b3 : ¬ (t305 = (decide (t295 < 1000000000))) := by simpa using c40))
                          clear c40
                          have H' := Aside0.mk H
                          clear H
                          go_wp2
                          go_meet
                          case rel => exact ⟨_, (true), (by first | rfl | (simp; done) | (simp [*]; done)), H', ⟨by have := HJ8.out; have := HJ24.out; first | omega | exact Nat.le_refl _⟩, ⟨by repeat (first | (with_reducible first | exact HB.out | apply below_alloc | apply pw_below_drewN | apply below_drew1) | exact HB.out)⟩⟩
                        · rw [if_neg c40] at H
                          have c40b0 : (t305 != (decide (t295 < 1000000000))) = false := by simpa using c40
                          (try (have c40b1 : decide (t305 = (decide (t295 < 1000000000))) = true := by simpa using c40))
                          (try (have c40b2 : (t305 == (decide (t295 < 1000000000))) = true := by simpa using c40))
                          clear c40
                          by_cases c41 : t305 = true
                          · subst c41
                            have H1 : (laws_FnNumbers.j2 kj24 l0 t296 (t304 != t295)) = some r := by rw [if_pos rfl] at H; exact H
                            clear H
                            have H := H1
                            clear H1
                            have H' := Aside0.mk H
                            clear H
                            go_wp2
                            go_meet
                            case rel => exact ⟨_, ((t304 != t295)), (by first | rfl | (simp; done) | (simp [*]; done)), H', ⟨by have := HJ8.out; have := HJ24.out; first | omega | exact Nat.le_refl _⟩, ⟨by repeat (first | (with_reducible first | exact HB.out | apply below_alloc | apply pw_below_drewN | apply below_drew1) | exact HB.out)⟩⟩
                          · replace c41 := Bool.eq_false_iff.mpr c41
                            subst c41
                            have H1 : (laws_FnNumbers.j2 kj24 l0 t296 false) = some r := by rw [if_neg (show ¬ (false = true) by decide)] at H; exact H
                            clear H
                            have H := H1
                            clear H1
                            have H' := Aside0.mk H
                            clear H
                            go_wp2
                            go_meet
                            case rel => exact ⟨_, (false), (by first | rfl | (simp; done) | (simp [*]; done)), H', ⟨by have := HJ8.out; have := HJ24.out; first | omega | exact Nat.le_refl _⟩, ⟨by repeat (first | (with_reducible first | exact HB.out | apply below_alloc | apply pw_below_drewN | apply below_drew1) | exact HB.out)⟩⟩
                      · rw [if_neg c39] at H
                        have c39b0 : decide ((-1000000000) < t295) = false := decide_eq_false c39
                        clear c39
                        (first | rw [c39b0] | (simp only [i64_w, i32_w]; rw [c39b0]) | skip)
                        by_cases c42 : (t305 != false) = true
                        · rw [if_pos c42] at H
                          have c42b0 : (t305 != false) = true := c42
                          (try (have c42b1 : decide (t305 = false) = false := by simpa using c42))
                          (try (have c42b2 : (t305 == false) = false := by simpa using c42))
                          (try (have c42b3 : ¬ (t305 = false) := by simpa using c42))
                          clear c42
                          have H' := Aside0.mk H
                          clear H
                          go_wp2
                          go_meet
                          case rel => exact ⟨_, (true), (by first | rfl | (simp; done) | (simp [*]; done)), H', ⟨by have := HJ8.out; have := HJ24.out; first | omega | exact Nat.le_refl _⟩, ⟨by repeat (first | (with_reducible first | exact HB.out | apply below_alloc | apply pw_below_drewN | apply below_drew1) | exact HB.out)⟩⟩
                        · rw [if_neg c42] at H
                          have c42b0 : (t305 != false) = false := by simpa using c42
                          (try (have c42b1 : decide (t305 = false) = true := by simpa using c42))
                          (try (have c42b2 : (t305 == false) = true := by simpa using c42))
                          clear c42
                          by_cases c43 : t305 = true
                          · subst c43
                            have H1 : (laws_FnNumbers.j2 kj24 l0 t296 (t304 != t295)) = some r := by rw [if_pos rfl] at H; exact H
                            clear H
                            have H := H1
                            clear H1
                            have H' := Aside0.mk H
                            clear H
                            go_wp2
                            go_meet
                            case rel => exact ⟨_, ((t304 != t295)), (by first | rfl | (simp; done) | (simp [*]; done)), H', ⟨by have := HJ8.out; have := HJ24.out; first | omega | exact Nat.le_refl _⟩, ⟨by repeat (first | (with_reducible first | exact HB.out | apply below_alloc | apply pw_below_drewN | apply below_drew1) | exact HB.out)⟩⟩
                          · replace c43 := Bool.eq_false_iff.mpr c43
                            subst c43
                            have H1 : (laws_FnNumbers.j2 kj24 l0 t296 false) = some r := by rw [if_neg (show ¬ (false = true) by decide)] at H; exact H
                            clear H
                            have H := H1
                            clear H1
                            have H' := Aside0.mk H
                            clear H
                            go_wp2
                            go_meet
                            case rel => exact ⟨_, (false), (by first | rfl | (simp; done) | (simp [*]; done)), H', ⟨by have := HJ8.out; have := HJ24.out; first | omega | exact Nat.le_refl _⟩, ⟨by repeat (first | (with_reducible first | exact HB.out | apply below_alloc | apply pw_below_drewN | apply below_drew1) | exact HB.out)⟩⟩
                    case rest =>
                      clear HC36
                      try clear c1
                      try clear c2
                      try clear p2
                      try clear c3
                      try clear c4
                      try clear c7
                      try clear c7b0
                      try clear c7b1
                      try clear c7b2
                      try clear c9
                      try clear c11
                      try clear c14
                      try clear c14b0
                      try clear c15
                      try clear c15b0
                      try clear c15b1
                      try clear c15b2
                      try clear c16
                      try clear c16b0
                      try clear c16b1
                      try clear c17
                      try clear c17b0
                      try clear c17b1
                      try clear c18
                      try clear c18b0
                      try clear c18b1
                      try clear c18b2
                      try clear c19
                      try clear c19b0
                      try clear c19b1
                      try clear c20
                      try clear c20b0
                      try clear c20b1
                      try clear c21
                      try clear c23
                      try clear c23b0
                      try clear c23b1
                      try clear c23b2
                      try clear c25
                      try clear c26
                      try clear c27
                      try clear c27b0
                      try clear c27b1
                      try clear c28
                      try clear c28b0
                      try clear c29
                      try clear c30
                      try clear c30b0
                      try clear c30b1
                      try clear c31
                      try clear c31b0
                      try clear c31b1
                      try clear c32
                      try clear c32b0
                      try clear c33
                      try clear c39
                      try clear c39b0
                      try clear c40
                      try clear c40b0
                      try clear c40b1
                      try clear c40b2
                      try clear c41
                      try clear c42
                      try clear c42b0
                      try clear c42b1
                      try clear c42b2
                      try clear c43
                      try clear p2
                      obtain ⟨kq, x113_35, rfl, HA, HJ35, HB⟩ := hcut
                      cases kq with
                      | zero => exact absurd HA.out (by simp [laws_FnNumbers.j2])
                      | succ kj35 =>
                        have H := HA.out
                        clear HA
                        simp only [laws_FnNumbers.j2] at H
                        by_cases c44 : x113_35 = true
                        · subst c44
                          have H1 : (some false) = some r := by rw [if_pos rfl] at H; exact H
                          clear H
                          have H := H1
                          clear H1
                          obtain rfl := Option.some.inj H
                          go_wp2
                          go_ret
                          exact ⟨by first | rfl | (simp [errW_none, errW_some] <;> rfl) | (simp [*, errW_none, errW_some] <;> rfl), by repeat (first | (with_reducible first | exact HB.out | apply below_alloc | apply pw_below_drewN | apply below_drew1) | exact HB.out)⟩
                        · replace c44 := Bool.eq_false_iff.mpr c44
                          subst c44
                          have H1 : ((impl_Hex.f kj35 t296).bind fun t306 => ((impl_Unhex.f kj35 t306).bind fun bt307 => ((spec_DrawReadVar.f kj35 l0).bind fun t309 => ((impl_ReadVar.f kj35 t309).bind fun bt310 => (if bt307.2 = true then (if bt307.1.toList = t296.toList then (if bt310.2 = 0 then (some true) else (if bt310.2 > 0 then ((spec_DrawReadVar.f kj35 l0).bind fun t312 => (if bt310.2 ≤ (t312.size : Int) then ((spec_DrawReadVar.f kj35 l0).bind fun t313 => (if bt310.2 ≤ (t313.size : Int) then ((impl_Var.f kj35 bt310.1).bind fun t314 => ((spec_DrawReadVar.f kj35 l0).bind fun t315 => (if 0 ≤ bt310.2 then (if bt310.2 ≤ (t315.size : Int) then (some (t314.toList == (t315.extract 0 (bt310.2 : Int).toNat).toList)) else (none)) else (none)))) else (some false))) else (some false))) else (some false))) else (some false)) else (some false)))))) = some r := by rw [if_neg (show ¬ (false = true) by decide)] at H; exact H
                          clear H
                          have H := H1
                          clear H1
                          replace H := Option.bind_eq_some_iff.mp H
                          obtain ⟨t306, A450, H⟩ := H
                          replace H : ((impl_Unhex.f kj35 t306).bind fun bt307 => ((spec_DrawReadVar.f kj35 l0).bind fun t309 => ((impl_ReadVar.f kj35 t309).bind fun bt310 => (if bt307.2 = true then (if bt307.1.toList = t296.toList then (if bt310.2 = 0 then (some true) else (if bt310.2 > 0 then ((spec_DrawReadVar.f kj35 l0).bind fun t312 => (if bt310.2 ≤ (t312.size : Int) then ((spec_DrawReadVar.f kj35 l0).bind fun t313 => (if bt310.2 ≤ (t313.size : Int) then ((impl_Var.f kj35 bt310.1).bind fun t314 => ((spec_DrawReadVar.f kj35 l0).bind fun t315 => (if 0 ≤ bt310.2 then (if bt310.2 ≤ (t315.size : Int) then (some (t314.toList == (t315.extract 0 (bt310.2 : Int).toNat).toList)) else (none)) else (none)))) else (some false))) else (some false))) else (some false))) else (some false)) else (some false))))) = some r := H
                          have A45 := Aside0.mk A450
                          clear A450
                          replace H := Option.bind_eq_some_iff.mp H
                          obtain ⟨⟨t307, t308⟩, A460, H⟩ := H
                          replace H : ((spec_DrawReadVar.f kj35 l0).bind fun t309 => ((impl_ReadVar.f kj35 t309).bind fun bt310 => (if t308 = true then (if t307.toList = t296.toList then (if bt310.2 = 0 then (some true) else (if bt310.2 > 0 then ((spec_DrawReadVar.f kj35 l0).bind fun t312 => (if bt310.2 ≤ (t312.size : Int) then ((spec_DrawReadVar.f kj35 l0).bind fun t313 => (if bt310.2 ≤ (t313.size : Int) then ((impl_Var.f kj35 bt310.1).bind fun t314 => ((spec_DrawReadVar.f kj35 l0).bind fun t315 => (if 0 ≤ bt310.2 then (if bt310.2 ≤ (t315.size : Int) then (some (t314.toList == (t315.extract 0 (bt310.2 : Int).toNat).toList)) else (none)) else (none)))) else (some false))) else (some false))) else (some false))) else (some false)) else (some false)))) = some r := H
                          have A46 := Aside0.mk A460
                          clear A460
                          replace H := Option.bind_eq_some_iff.mp H
                          obtain ⟨t309, A470, H⟩ := H
                          replace H : ((impl_ReadVar.f kj35 t309).bind fun bt310 => (if t308 = true then (if t307.toList = t296.toList then (if bt310.2 = 0 then (some true) else (if bt310.2 > 0 then ((spec_DrawReadVar.f kj35 l0).bind fun t312 => (if bt310.2 ≤ (t312.size : Int) then ((spec_DrawReadVar.f kj35 l0).bind fun t313 => (if bt310.2 ≤ (t313.size : Int) then ((impl_Var.f kj35 bt310.1).bind fun t314 => ((spec_DrawReadVar.f kj35 l0).bind fun t315 => (if 0 ≤ bt310.2 then (if bt310.2 ≤ (t315.size : Int) then (some (t314.toList == (t315.extract 0 (bt310.2 : Int).toNat).toList)) else (none)) else (none)))) else (some false))) else (some false))) else (some false))) else (some false)) else (some false))) = some r := H
                          have A47 := Aside0.mk A470
                          clear A470
                          replace H := Option.bind_eq_some_iff.mp H
                          obtain ⟨⟨t310, t311⟩, A480, H⟩ := H
                          replace H : (if t308 = true then (if t307.toList = t296.toList then (if t311 = 0 then (some true) else (if t311 > 0 then ((spec_DrawReadVar.f kj35 l0).bind fun t312 => (if t311 ≤ (t312.size : Int) then ((spec_DrawReadVar.f kj35 l0).bind fun t313 => (if t311 ≤ (t313.size : Int) then ((impl_Var.f kj35 t310).bind fun t314 => ((spec_DrawReadVar.f kj35 l0).bind fun t315 => (if 0 ≤ t311 then (if t311 ≤ (t315.size : Int) then (some (t314.toList == (t315.extract 0 (t311 : Int).toNat).toList)) else (none)) else (none)))) else (some false))) else (some false))) else (some false))) else (some false)) else (some false)) = some r := H
                          have A48 := Aside0.mk A480
                          clear A480
                          by_cases c49 : t308 = true
                          · subst c49
                            have H1 : (if t307.toList = t296.toList then (if t311 = 0 then (some true) else (if t311 > 0 then ((spec_DrawReadVar.f kj35 l0).bind fun t312 => (if t311 ≤ (t312.size : Int) then ((spec_DrawReadVar.f kj35 l0).bind fun t313 => (if t311 ≤ (t313.size : Int) then ((impl_Var.f kj35 t310).bind fun t314 => ((spec_DrawReadVar.f kj35 l0).bind fun t315 => (if 0 ≤ t311 then (if t311 ≤ (t315.size : Int) then (some (t314.toList == (t315.extract 0 (t311 : Int).toNat).toList)) else (none)) else (none)))) else (some false))) else (some false))) else (some false))) else (some false)) = some r := by rw [if_pos rfl] at H; exact H
                            clear H
                            have H := H1
                            clear H1
                            by_cases c50 : t307.toList = t296.toList
                            · rw [if_pos c50] at H
                              have c50b0 : (t307.toList == t296.toList) = true := beq_iff_eq.mpr c50
                              have c50b1 : (t307.toList != t296.toList) = false := bne_eq_false_iff_eq.mpr c50
                              clear c50
                              by_cases c51 : t311 = 0
                              · rw [if_pos c51] at H
                                have c51b0 : (t311 == 0) = true := beq_iff_eq.mpr c51
                                have c51b1 : (t311 != 0) = false := bne_eq_false_iff_eq.mpr c51
                                clear c51
                                obtain rfl := Option.some.inj H
                                go_wp2_with (first | ((with_reducible refine gate_callee (f := 32) rfl ?_); refine goesL_ (some 116) rfl rfl Tryd.func32 (by kernel_rfl) rfl #[.string t296] rfl (by (try simp only [List.map_toArray, List.map_cons, List.map_nil]); first | done | rfl | (simp only [List.length_drop, List.length_take]; rfl)) ?_; (with_reducible refine (impl_Hex.calls kj35 t296 t306 _ A45.out).mono ?_); rintro e w52 ⟨rfl, hb⟩; refine ⟨_, rfl, ?_⟩; have n0_ := Aside0.mk (below_step (by repeat (first | (with_reducible first | exact HB.out | apply below_alloc | apply pw_below_drewN | apply below_drew1) | exact HB.out)) hb); clear HB; have HB := n0_; clear n0_; (try clear hb); (try clear hb2); (try clear hk); (try clear hi)) | ((with_reducible refine gate_callee (f := 31) rfl ?_); refine goesL_ (some 117) rfl rfl Tryd.func31 (by kernel_rfl) rfl #[.string t306] rfl (by (try simp only [List.map_toArray, List.map_cons, List.map_nil]); first | done | rfl | (simp only [List.length_drop, List.length_take]; rfl)) ?_; (with_reducible refine (impl_Unhex.calls kj35 t306 t307 true _ A46.out).mono ?_); rintro e w53 ⟨rfl, hb⟩; refine ⟨_, rfl, ?_⟩; have n0_ := Aside0.mk (below_step (by repeat (first | (with_reducible first | exact HB.out | apply below_alloc | apply pw_below_drewN | apply below_drew1) | exact HB.out)) hb); clear HB; have HB := n0_; clear n0_; (try clear hb); (try clear hb2); (try clear hk); (try clear hi)) | ((with_reducible refine gate_callee (f := 33) rfl ?_); refine goesL_ (some 122) rfl rfl Tryd.func33 (by kernel_rfl) rfl #[.slice A0 l0.length c0] rfl (by (try simp only [List.map_toArray, List.map_cons, List.map_nil]); first | done | rfl | (simp only [List.length_drop, List.length_take]; rfl)) ?_; (with_reducible refine (spec_DrawReadVar.calls kj35 _ _ l0 t309 _ ?side1 ?side2 A47.out).mono ?_); (case side1 => repeat (first | exact (Kd.C_below HR0.out HB.out) | (with_reducible refine Kd.C_alloc ?_ _) | (with_reducible refine Kd.C_drewN ?_ _) | (with_reducible refine Kd.C_drew ?_))); (case side2 => exact HC0.out); rintro e w54 ⟨rfl, hb⟩; refine ⟨_, rfl, ?_⟩; have n0_ := Aside0.mk (below_step (by repeat (first | (with_reducible first | exact HB.out | apply below_alloc | apply pw_below_drewN | apply below_drew1) | exact HB.out)) hb); clear HB; have HB := n0_; clear n0_; (try clear hb); (try clear hb2); (try clear hk); (try clear hi)) | ((with_reducible refine gate_callee (f := 28) rfl ?_); refine goesL_ (some 123) rfl rfl Tryd.func28 (by kernel_rfl) rfl #[.string t309] rfl (by (try simp only [List.map_toArray, List.map_cons, List.map_nil]); first | done | rfl | (simp only [List.length_drop, List.length_take]; rfl)) ?_; (with_reducible refine (impl_ReadVar.calls kj35 t309 t310 t311 _ A48.out).mono ?_); rintro e w55 ⟨rfl, hb⟩; refine ⟨_, rfl, ?_⟩; have n0_ := Aside0.mk (below_step (by repeat (first | (with_reducible first | exact HB.out | apply below_alloc | apply pw_below_drewN | apply below_drew1) | exact HB.out)) hb); clear HB; have HB := n0_; clear n0_; (try clear hb); (try clear hb2); (try clear hk); (try clear hi)))
                                go_ret
                                exact ⟨by first | rfl | (simp [errW_none, errW_some] <;> rfl) | (simp [*, errW_none, errW_some] <;> rfl), by repeat (first | (with_reducible first | exact HB.out | apply below_alloc | apply pw_below_drewN | apply below_drew1) | exact HB.out)⟩
                              · rw [if_neg c51] at H
                                have c51b0 : (t311 == 0) = false := beq_eq_false_iff_ne.mpr c51
                                have c51b1 : (t311 != 0) = true := bne_iff_ne.mpr c51
                                by_cases c56 : t311 > 0
                                · rw [if_pos c56] at H
                                  have c56b0 : decide (0 < t311) = true := decide_eq_true c56
                                  clear c56
                                  replace H := Option.bind_eq_some_iff.mp H
                                  obtain ⟨t312, A570, H⟩ := H
                                  replace H : (if t311 ≤ (t312.size : Int) then ((spec_DrawReadVar.f kj35 l0).bind fun t313 => (if t311 ≤ (t313.size : Int) then ((impl_Var.f kj35 t310).bind fun t314 => ((spec_DrawReadVar.f kj35 l0).bind fun t315 => (if 0 ≤ t311 then (if t311 ≤ (t315.size : Int) then (some (t314.toList == (t315.extract 0 (t311 : Int).toNat).toList)) else (none)) else (none)))) else (some false))) else (some false)) = some r := H
                                  have A57 := Aside0.mk A570
                                  clear A570
                                  rw [show t312 = t309 from Option.some.inj (A57.out.symm.trans A47.out)] at H
                                  by_cases c58 : t311 ≤ (t309.size : Int)
                                  · rw [if_pos c58] at H
                                    have c58b0 : decide (t311 ≤ (t309.size : Int)) = true := decide_eq_true c58
                                    clear c58
                                    replace H := Option.bind_eq_some_iff.mp H
                                    obtain ⟨t313, A590, H⟩ := H
                                    replace H : (if t311 ≤ (t313.size : Int) then ((impl_Var.f kj35 t310).bind fun t314 => ((spec_DrawReadVar.f kj35 l0).bind fun t315 => (if 0 ≤ t311 then (if t311 ≤ (t315.size : Int) then (some (t314.toList == (t315.extract 0 (t311 : Int).toNat).toList)) else (none)) else (none)))) else (some false)) = some r := H
                                    have A59 := Aside0.mk A590
                                    clear A590
                                    rw [show t313 = t309 from Option.some.inj (A59.out.symm.trans A47.out)] at H
                                    by_cases c60 : t311 ≤ (t309.size : Int)
                                    · rw [if_pos c60] at H
                                      have c60b0 : decide (t311 ≤ (t309.size : Int)) = true := decide_eq_true c60
                                      clear c60
                                      replace H := Option.bind_eq_some_iff.mp H
                                      obtain ⟨t314, A610, H⟩ := H
                                      replace H : ((spec_DrawReadVar.f kj35 l0).bind fun t315 => (if 0 ≤ t311 then (if t311 ≤ (t315.size : Int) then (some (t314.toList == (t315.extract 0 (t311 : Int).toNat).toList)) else (none)) else (none))) = some r := H
                                      have A61 := Aside0.mk A610
                                      clear A610
                                      replace H := Option.bind_eq_some_iff.mp H
                                      obtain ⟨t315, A620, H⟩ := H
                                      replace H : (if 0 ≤ t311 then (if t311 ≤ (t315.size : Int) then (some (t314.toList == (t315.extract 0 (t311 : Int).toNat).toList)) else (none)) else (none)) = some r := H
                                      have A62 := Aside0.mk A620
                                      clear A620
                                      rw [show t315 = t309 from Option.some.inj (A62.out.symm.trans A47.out)] at H
                                      by_cases c63 : 0 ≤ t311
                                      · rw [if_pos c63] at H
                                        have c63b0 := eq_true c63
                                        have c63b1 : decide (0 ≤ t311) = true := decide_eq_true c63
                                        clear c63
                                        by_cases c64 : t311 ≤ (t309.size : Int)
                                        · rw [if_pos c64] at H
                                          have c64b0 := eq_true c64
                                          have c64b1 : decide (t311 ≤ (t309.size : Int)) = true := decide_eq_true c64
                                          clear c64
                                          obtain rfl := Option.some.inj H
                                          go_wp2_with (first | ((with_reducible refine gate_callee (f := 32) rfl ?_); refine goesL_ (some 116) rfl rfl Tryd.func32 (by kernel_rfl) rfl #[.string t296] rfl (by (try simp only [List.map_toArray, List.map_cons, List.map_nil]); first | done | rfl | (simp only [List.length_drop, List.length_take]; rfl)) ?_; (with_reducible refine (impl_Hex.calls kj35 t296 t306 _ A45.out).mono ?_); rintro e w65 ⟨rfl, hb⟩; refine ⟨_, rfl, ?_⟩; have n0_ := Aside0.mk (below_step (by repeat (first | (with_reducible first | exact HB.out | apply below_alloc | apply pw_below_drewN | apply below_drew1) | exact HB.out)) hb); clear HB; have HB := n0_; clear n0_; (try clear hb); (try clear hb2); (try clear hk); (try clear hi)) | ((with_reducible refine gate_callee (f := 31) rfl ?_); refine goesL_ (some 117) rfl rfl Tryd.func31 (by kernel_rfl) rfl #[.string t306] rfl (by (try simp only [List.map_toArray, List.map_cons, List.map_nil]); first | done | rfl | (simp only [List.length_drop, List.length_take]; rfl)) ?_; (with_reducible refine (impl_Unhex.calls kj35 t306 t307 true _ A46.out).mono ?_); rintro e w66 ⟨rfl, hb⟩; refine ⟨_, rfl, ?_⟩; have n0_ := Aside0.mk (below_step (by repeat (first | (with_reducible first | exact HB.out | apply below_alloc | apply pw_below_drewN | apply below_drew1) | exact HB.out)) hb); clear HB; have HB := n0_; clear n0_; (try clear hb); (try clear hb2); (try clear hk); (try clear hi)) | ((with_reducible refine gate_callee (f := 33) rfl ?_); refine goesL_ (some 122) rfl rfl Tryd.func33 (by kernel_rfl) rfl #[.slice A0 l0.length c0] rfl (by (try simp only [List.map_toArray, List.map_cons, List.map_nil]); first | done | rfl | (simp only [List.length_drop, List.length_take]; rfl)) ?_; (with_reducible refine (spec_DrawReadVar.calls kj35 _ _ l0 t309 _ ?side1 ?side2 A47.out).mono ?_); (case side1 => repeat (first | exact (Kd.C_below HR0.out HB.out) | (with_reducible refine Kd.C_alloc ?_ _) | (with_reducible refine Kd.C_drewN ?_ _) | (with_reducible refine Kd.C_drew ?_))); (case side2 => exact HC0.out); rintro e w67 ⟨rfl, hb⟩; refine ⟨_, rfl, ?_⟩; have n0_ := Aside0.mk (below_step (by repeat (first | (with_reducible first | exact HB.out | apply below_alloc | apply pw_below_drewN | apply below_drew1) | exact HB.out)) hb); clear HB; have HB := n0_; clear n0_; (try clear hb); (try clear hb2); (try clear hk); (try clear hi)) | ((with_reducible refine gate_callee (f := 28) rfl ?_); refine goesL_ (some 123) rfl rfl Tryd.func28 (by kernel_rfl) rfl #[.string t309] rfl (by (try simp only [List.map_toArray, List.map_cons, List.map_nil]); first | done | rfl | (simp only [List.length_drop, List.length_take]; rfl)) ?_; (with_reducible refine (impl_ReadVar.calls kj35 t309 t310 t311 _ A48.out).mono ?_); rintro e w68 ⟨rfl, hb⟩; refine ⟨_, rfl, ?_⟩; have n0_ := Aside0.mk (below_step (by repeat (first | (with_reducible first | exact HB.out | apply below_alloc | apply pw_below_drewN | apply below_drew1) | exact HB.out)) hb); clear HB; have HB := n0_; clear n0_; (try clear hb); (try clear hb2); (try clear hk); (try clear hi)) | (go_at_call 33; (with_reducible refine (spec_DrawReadVar.calls kj35 _ _ l0 t309 _ ?side1 ?side2 A47.out).mono ?_); (case side1 => repeat (first | exact (Kd.C_below HR0.out HB.out) | (with_reducible refine Kd.C_alloc ?_ _) | (with_reducible refine Kd.C_drewN ?_ _) | (with_reducible refine Kd.C_drew ?_))); (case side2 => exact HC0.out); rintro e w69 ⟨rfl, hb⟩; have n0_ := Aside0.mk (below_step (by repeat (first | (with_reducible first | exact HB.out | apply below_alloc | apply pw_below_drewN | apply below_drew1) | exact HB.out)) hb); clear HB; have HB := n0_; clear n0_; (try clear hb); (try clear hb2); (try clear hk); (try clear hi)) | (go_at_call 33; (with_reducible refine (spec_DrawReadVar.calls kj35 _ _ l0 t309 _ ?side1 ?side2 A47.out).mono ?_); (case side1 => repeat (first | exact (Kd.C_below HR0.out HB.out) | (with_reducible refine Kd.C_alloc ?_ _) | (with_reducible refine Kd.C_drewN ?_ _) | (with_reducible refine Kd.C_drew ?_))); (case side2 => exact HC0.out); rintro e w70 ⟨rfl, hb⟩; have n0_ := Aside0.mk (below_step (by repeat (first | (with_reducible first | exact HB.out | apply below_alloc | apply pw_below_drewN | apply below_drew1) | exact HB.out)) hb); clear HB; have HB := n0_; clear n0_; (try clear hb); (try clear hb2); (try clear hk); (try clear hi)) | (go_at_call 27; (with_reducible refine (impl_Var.calls kj35 t310 t314 _ A61.out).mono ?_); rintro e w71 ⟨rfl, hb⟩; have n0_ := Aside0.mk (below_step (by repeat (first | (with_reducible first | exact HB.out | apply below_alloc | apply pw_below_drewN | apply below_drew1) | exact HB.out)) hb); clear HB; have HB := n0_; clear n0_; (try clear hb); (try clear hb2); (try clear hk); (try clear hi)) | (go_at_call 33; (with_reducible refine (spec_DrawReadVar.calls kj35 _ _ l0 t309 _ ?side1 ?side2 A47.out).mono ?_); (case side1 => repeat (first | exact (Kd.C_below HR0.out HB.out) | (with_reducible refine Kd.C_alloc ?_ _) | (with_reducible refine Kd.C_drewN ?_ _) | (with_reducible refine Kd.C_drew ?_))); (case side2 => exact HC0.out); rintro e w72 ⟨rfl, hb⟩; have n0_ := Aside0.mk (below_step (by repeat (first | (with_reducible first | exact HB.out | apply below_alloc | apply pw_below_drewN | apply below_drew1) | exact HB.out)) hb); clear HB; have HB := n0_; clear n0_; (try clear hb); (try clear hb2); (try clear hk); (try clear hi)))
                                          go_ret
                                          exact ⟨by first | rfl | (simp [errW_none, errW_some] <;> rfl) | (simp [*, errW_none, errW_some] <;> rfl), by repeat (first | (with_reducible first | exact HB.out | apply below_alloc | apply pw_below_drewN | apply below_drew1) | exact HB.out)⟩
                                        · rw [if_neg c64] at H
                                          exact absurd H (by simp)
                                      · rw [if_neg c63] at H
                                        exact absurd H (by simp)
                                    · rw [if_neg c60] at H
                                      have c60b0 : decide (t311 ≤ (t309.size : Int)) = false := decide_eq_false c60
                                      exact absurd c58b0 (by rw [c60b0]; decide)
                                  · rw [if_neg c58] at H
                                    have c58b0 : decide (t311 ≤ (t309.size : Int)) = false := decide_eq_false c58
                                    clear c58
                                    obtain rfl := Option.some.inj H
                                    go_wp2_with (first | ((with_reducible refine gate_callee (f := 32) rfl ?_); refine goesL_ (some 116) rfl rfl Tryd.func32 (by kernel_rfl) rfl #[.string t296] rfl (by (try simp only [List.map_toArray, List.map_cons, List.map_nil]); first | done | rfl | (simp only [List.length_drop, List.length_take]; rfl)) ?_; (with_reducible refine (impl_Hex.calls kj35 t296 t306 _ A45.out).mono ?_); rintro e w79 ⟨rfl, hb⟩; refine ⟨_, rfl, ?_⟩; have n0_ := Aside0.mk (below_step (by repeat (first | (with_reducible first | exact HB.out | apply below_alloc | apply pw_below_drewN | apply below_drew1) | exact HB.out)) hb); clear HB; have HB := n0_; clear n0_; (try clear hb); (try clear hb2); (try clear hk); (try clear hi)) | ((with_reducible refine gate_callee (f := 31) rfl ?_); refine goesL_ (some 117) rfl rfl Tryd.func31 (by kernel_rfl) rfl #[.string t306] rfl (by (try simp only [List.map_toArray, List.map_cons, List.map_nil]); first | done | rfl | (simp only [List.length_drop, List.length_take]; rfl)) ?_; (with_reducible refine (impl_Unhex.calls kj35 t306 t307 true _ A46.out).mono ?_); rintro e w80 ⟨rfl, hb⟩; refine ⟨_, rfl, ?_⟩; have n0_ := Aside0.mk (below_step (by repeat (first | (with_reducible first | exact HB.out | apply below_alloc | apply pw_below_drewN | apply below_drew1) | exact HB.out)) hb); clear HB; have HB := n0_; clear n0_; (try clear hb); (try clear hb2); (try clear hk); (try clear hi)) | ((with_reducible refine gate_callee (f := 33) rfl ?_); refine goesL_ (some 122) rfl rfl Tryd.func33 (by kernel_rfl) rfl #[.slice A0 l0.length c0] rfl (by (try simp only [List.map_toArray, List.map_cons, List.map_nil]); first | done | rfl | (simp only [List.length_drop, List.length_take]; rfl)) ?_; (with_reducible refine (spec_DrawReadVar.calls kj35 _ _ l0 t309 _ ?side1 ?side2 A47.out).mono ?_); (case side1 => repeat (first | exact (Kd.C_below HR0.out HB.out) | (with_reducible refine Kd.C_alloc ?_ _) | (with_reducible refine Kd.C_drewN ?_ _) | (with_reducible refine Kd.C_drew ?_))); (case side2 => exact HC0.out); rintro e w81 ⟨rfl, hb⟩; refine ⟨_, rfl, ?_⟩; have n0_ := Aside0.mk (below_step (by repeat (first | (with_reducible first | exact HB.out | apply below_alloc | apply pw_below_drewN | apply below_drew1) | exact HB.out)) hb); clear HB; have HB := n0_; clear n0_; (try clear hb); (try clear hb2); (try clear hk); (try clear hi)) | ((with_reducible refine gate_callee (f := 28) rfl ?_); refine goesL_ (some 123) rfl rfl Tryd.func28 (by kernel_rfl) rfl #[.string t309] rfl (by (try simp only [List.map_toArray, List.map_cons, List.map_nil]); first | done | rfl | (simp only [List.length_drop, List.length_take]; rfl)) ?_; (with_reducible refine (impl_ReadVar.calls kj35 t309 t310 t311 _ A48.out).mono ?_); rintro e w82 ⟨rfl, hb⟩; refine ⟨_, rfl, ?_⟩; have n0_ := Aside0.mk (below_step (by repeat (first | (with_reducible first | exact HB.out | apply below_alloc | apply pw_below_drewN | apply below_drew1) | exact HB.out)) hb); clear HB; have HB := n0_; clear n0_; (try clear hb); (try clear hb2); (try clear hk); (try clear hi)) | (go_at_call 33; (with_reducible refine (spec_DrawReadVar.calls kj35 _ _ l0 t309 _ ?side1 ?side2 A47.out).mono ?_); (case side1 => repeat (first | exact (Kd.C_below HR0.out HB.out) | (with_reducible refine Kd.C_alloc ?_ _) | (with_reducible refine Kd.C_drewN ?_ _) | (with_reducible refine Kd.C_drew ?_))); (case side2 => exact HC0.out); rintro e w83 ⟨rfl, hb⟩; have n0_ := Aside0.mk (below_step (by repeat (first | (with_reducible first | exact HB.out | apply below_alloc | apply pw_below_drewN | apply below_drew1) | exact HB.out)) hb); clear HB; have HB := n0_; clear n0_; (try clear hb); (try clear hb2); (try clear hk); (try clear hi)))
                                    go_ret
                                    exact ⟨by first | rfl | (simp [errW_none, errW_some] <;> rfl) | (simp [*, errW_none, errW_some] <;> rfl), by repeat (first | (with_reducible first | exact HB.out | apply below_alloc | apply pw_below_drewN | apply below_drew1) | exact HB.out)⟩
                                · rw [if_neg c56] at H
                                  have c56b0 : decide (0 < t311) = false := decide_eq_false c56
                                  clear c56
                                  obtain rfl := Option.some.inj H
                                  go_wp2_with (first | ((with_reducible refine gate_callee (f := 32) rfl ?_); refine goesL_ (some 116) rfl rfl Tryd.func32 (by kernel_rfl) rfl #[.string t296] rfl (by (try simp only [List.map_toArray, List.map_cons, List.map_nil]); first | done | rfl | (simp only [List.length_drop, List.length_take]; rfl)) ?_; (with_reducible refine (impl_Hex.calls kj35 t296 t306 _ A45.out).mono ?_); rintro e w84 ⟨rfl, hb⟩; refine ⟨_, rfl, ?_⟩; have n0_ := Aside0.mk (below_step (by repeat (first | (with_reducible first | exact HB.out | apply below_alloc | apply pw_below_drewN | apply below_drew1) | exact HB.out)) hb); clear HB; have HB := n0_; clear n0_; (try clear hb); (try clear hb2); (try clear hk); (try clear hi)) | ((with_reducible refine gate_callee (f := 31) rfl ?_); refine goesL_ (some 117) rfl rfl Tryd.func31 (by kernel_rfl) rfl #[.string t306] rfl (by (try simp only [List.map_toArray, List.map_cons, List.map_nil]); first | done | rfl | (simp only [List.length_drop, List.length_take]; rfl)) ?_; (with_reducible refine (impl_Unhex.calls kj35 t306 t307 true _ A46.out).mono ?_); rintro e w85 ⟨rfl, hb⟩; refine ⟨_, rfl, ?_⟩; have n0_ := Aside0.mk (below_step (by repeat (first | (with_reducible first | exact HB.out | apply below_alloc | apply pw_below_drewN | apply below_drew1) | exact HB.out)) hb); clear HB; have HB := n0_; clear n0_; (try clear hb); (try clear hb2); (try clear hk); (try clear hi)) | ((with_reducible refine gate_callee (f := 33) rfl ?_); refine goesL_ (some 122) rfl rfl Tryd.func33 (by kernel_rfl) rfl #[.slice A0 l0.length c0] rfl (by (try simp only [List.map_toArray, List.map_cons, List.map_nil]); first | done | rfl | (simp only [List.length_drop, List.length_take]; rfl)) ?_; (with_reducible refine (spec_DrawReadVar.calls kj35 _ _ l0 t309 _ ?side1 ?side2 A47.out).mono ?_); (case side1 => repeat (first | exact (Kd.C_below HR0.out HB.out) | (with_reducible refine Kd.C_alloc ?_ _) | (with_reducible refine Kd.C_drewN ?_ _) | (with_reducible refine Kd.C_drew ?_))); (case side2 => exact HC0.out); rintro e w86 ⟨rfl, hb⟩; refine ⟨_, rfl, ?_⟩; have n0_ := Aside0.mk (below_step (by repeat (first | (with_reducible first | exact HB.out | apply below_alloc | apply pw_below_drewN | apply below_drew1) | exact HB.out)) hb); clear HB; have HB := n0_; clear n0_; (try clear hb); (try clear hb2); (try clear hk); (try clear hi)) | ((with_reducible refine gate_callee (f := 28) rfl ?_); refine goesL_ (some 123) rfl rfl Tryd.func28 (by kernel_rfl) rfl #[.string t309] rfl (by (try simp only [List.map_toArray, List.map_cons, List.map_nil]); first | done | rfl | (simp only [List.length_drop, List.length_take]; rfl)) ?_; (with_reducible refine (impl_ReadVar.calls kj35 t309 t310 t311 _ A48.out).mono ?_); rintro e w87 ⟨rfl, hb⟩; refine ⟨_, rfl, ?_⟩; have n0_ := Aside0.mk (below_step (by repeat (first | (with_reducible first | exact HB.out | apply below_alloc | apply pw_below_drewN | apply below_drew1) | exact HB.out)) hb); clear HB; have HB := n0_; clear n0_; (try clear hb); (try clear hb2); (try clear hk); (try clear hi)))
                                  go_ret
                                  exact ⟨by first | rfl | (simp [errW_none, errW_some] <;> rfl) | (simp [*, errW_none, errW_some] <;> rfl), by repeat (first | (with_reducible first | exact HB.out | apply below_alloc | apply pw_below_drewN | apply below_drew1) | exact HB.out)⟩
                            · rw [if_neg c50] at H
                              have c50b0 : (t307.toList == t296.toList) = false := beq_eq_false_iff_ne.mpr c50
                              have c50b1 : (t307.toList != t296.toList) = true := bne_iff_ne.mpr c50
                              obtain rfl := Option.some.inj H
                              go_wp2_with (first | ((with_reducible refine gate_callee (f := 32) rfl ?_); refine goesL_ (some 116) rfl rfl Tryd.func32 (by kernel_rfl) rfl #[.string t296] rfl (by (try simp only [List.map_toArray, List.map_cons, List.map_nil]); first | done | rfl | (simp only [List.length_drop, List.length_take]; rfl)) ?_; (with_reducible refine (impl_Hex.calls kj35 t296 t306 _ A45.out).mono ?_); rintro e w88 ⟨rfl, hb⟩; refine ⟨_, rfl, ?_⟩; have n0_ := Aside0.mk (below_step (by repeat (first | (with_reducible first | exact HB.out | apply below_alloc | apply pw_below_drewN | apply below_drew1) | exact HB.out)) hb); clear HB; have HB := n0_; clear n0_; (try clear hb); (try clear hb2); (try clear hk); (try clear hi)) | ((with_reducible refine gate_callee (f := 31) rfl ?_); refine goesL_ (some 117) rfl rfl Tryd.func31 (by kernel_rfl) rfl #[.string t306] rfl (by (try simp only [List.map_toArray, List.map_cons, List.map_nil]); first | done | rfl | (simp only [List.length_drop, List.length_take]; rfl)) ?_; (with_reducible refine (impl_Unhex.calls kj35 t306 t307 true _ A46.out).mono ?_); rintro e w89 ⟨rfl, hb⟩; refine ⟨_, rfl, ?_⟩; have n0_ := Aside0.mk (below_step (by repeat (first | (with_reducible first | exact HB.out | apply below_alloc | apply pw_below_drewN | apply below_drew1) | exact HB.out)) hb); clear HB; have HB := n0_; clear n0_; (try clear hb); (try clear hb2); (try clear hk); (try clear hi)) | ((with_reducible refine gate_callee (f := 33) rfl ?_); refine goesL_ (some 122) rfl rfl Tryd.func33 (by kernel_rfl) rfl #[.slice A0 l0.length c0] rfl (by (try simp only [List.map_toArray, List.map_cons, List.map_nil]); first | done | rfl | (simp only [List.length_drop, List.length_take]; rfl)) ?_; (with_reducible refine (spec_DrawReadVar.calls kj35 _ _ l0 t309 _ ?side1 ?side2 A47.out).mono ?_); (case side1 => repeat (first | exact (Kd.C_below HR0.out HB.out) | (with_reducible refine Kd.C_alloc ?_ _) | (with_reducible refine Kd.C_drewN ?_ _) | (with_reducible refine Kd.C_drew ?_))); (case side2 => exact HC0.out); rintro e w90 ⟨rfl, hb⟩; refine ⟨_, rfl, ?_⟩; have n0_ := Aside0.mk (below_step (by repeat (first | (with_reducible first | exact HB.out | apply below_alloc | apply pw_below_drewN | apply below_drew1) | exact HB.out)) hb); clear HB; have HB := n0_; clear n0_; (try clear hb); (try clear hb2); (try clear hk); (try clear hi)) | ((with_reducible refine gate_callee (f := 28) rfl ?_); refine goesL_ (some 123) rfl rfl Tryd.func28 (by kernel_rfl) rfl #[.string t309] rfl (by (try simp only [List.map_toArray, List.map_cons, List.map_nil]); first | done | rfl | (simp only [List.length_drop, List.length_take]; rfl)) ?_; (with_reducible refine (impl_ReadVar.calls kj35 t309 t310 t311 _ A48.out).mono ?_); rintro e w91 ⟨rfl, hb⟩; refine ⟨_, rfl, ?_⟩; have n0_ := Aside0.mk (below_step (by repeat (first | (with_reducible first | exact HB.out | apply below_alloc | apply pw_below_drewN | apply below_drew1) | exact HB.out)) hb); clear HB; have HB := n0_; clear n0_; (try clear hb); (try clear hb2); (try clear hk); (try clear hi)))
                              go_ret
                              exact ⟨by first | rfl | (simp [errW_none, errW_some] <;> rfl) | (simp [*, errW_none, errW_some] <;> rfl), by repeat (first | (with_reducible first | exact HB.out | apply below_alloc | apply pw_below_drewN | apply below_drew1) | exact HB.out)⟩
                          · replace c49 := Bool.eq_false_iff.mpr c49
                            subst c49
                            have H1 : (some false) = some r := by rw [if_neg (show ¬ (false = true) by decide)] at H; exact H
                            clear H
                            have H := H1
                            clear H1
                            obtain rfl := Option.some.inj H
                            go_wp2_with (first | ((with_reducible refine gate_callee (f := 32) rfl ?_); refine goesL_ (some 116) rfl rfl Tryd.func32 (by kernel_rfl) rfl #[.string t296] rfl (by (try simp only [List.map_toArray, List.map_cons, List.map_nil]); first | done | rfl | (simp only [List.length_drop, List.length_take]; rfl)) ?_; (with_reducible refine (impl_Hex.calls kj35 t296 t306 _ A45.out).mono ?_); rintro e w92 ⟨rfl, hb⟩; refine ⟨_, rfl, ?_⟩; have n0_ := Aside0.mk (below_step (by repeat (first | (with_reducible first | exact HB.out | apply below_alloc | apply pw_below_drewN | apply below_drew1) | exact HB.out)) hb); clear HB; have HB := n0_; clear n0_; (try clear hb); (try clear hb2); (try clear hk); (try clear hi)) | ((with_reducible refine gate_callee (f := 31) rfl ?_); refine goesL_ (some 117) rfl rfl Tryd.func31 (by kernel_rfl) rfl #[.string t306] rfl (by (try simp only [List.map_toArray, List.map_cons, List.map_nil]); first | done | rfl | (simp only [List.length_drop, List.length_take]; rfl)) ?_; (with_reducible refine (impl_Unhex.calls kj35 t306 t307 false _ A46.out).mono ?_); rintro e w93 ⟨rfl, hb⟩; refine ⟨_, rfl, ?_⟩; have n0_ := Aside0.mk (below_step (by repeat (first | (with_reducible first | exact HB.out | apply below_alloc | apply pw_below_drewN | apply below_drew1) | exact HB.out)) hb); clear HB; have HB := n0_; clear n0_; (try clear hb); (try clear hb2); (try clear hk); (try clear hi)) | ((with_reducible refine gate_callee (f := 33) rfl ?_); refine goesL_ (some 122) rfl rfl Tryd.func33 (by kernel_rfl) rfl #[.slice A0 l0.length c0] rfl (by (try simp only [List.map_toArray, List.map_cons, List.map_nil]); first | done | rfl | (simp only [List.length_drop, List.length_take]; rfl)) ?_; (with_reducible refine (spec_DrawReadVar.calls kj35 _ _ l0 t309 _ ?side1 ?side2 A47.out).mono ?_); (case side1 => repeat (first | exact (Kd.C_below HR0.out HB.out) | (with_reducible refine Kd.C_alloc ?_ _) | (with_reducible refine Kd.C_drewN ?_ _) | (with_reducible refine Kd.C_drew ?_))); (case side2 => exact HC0.out); rintro e w94 ⟨rfl, hb⟩; refine ⟨_, rfl, ?_⟩; have n0_ := Aside0.mk (below_step (by repeat (first | (with_reducible first | exact HB.out | apply below_alloc | apply pw_below_drewN | apply below_drew1) | exact HB.out)) hb); clear HB; have HB := n0_; clear n0_; (try clear hb); (try clear hb2); (try clear hk); (try clear hi)) | ((with_reducible refine gate_callee (f := 28) rfl ?_); refine goesL_ (some 123) rfl rfl Tryd.func28 (by kernel_rfl) rfl #[.string t309] rfl (by (try simp only [List.map_toArray, List.map_cons, List.map_nil]); first | done | rfl | (simp only [List.length_drop, List.length_take]; rfl)) ?_; (with_reducible refine (impl_ReadVar.calls kj35 t309 t310 t311 _ A48.out).mono ?_); rintro e w95 ⟨rfl, hb⟩; refine ⟨_, rfl, ?_⟩; have n0_ := Aside0.mk (below_step (by repeat (first | (with_reducible first | exact HB.out | apply below_alloc | apply pw_below_drewN | apply below_drew1) | exact HB.out)) hb); clear HB; have HB := n0_; clear n0_; (try clear hb); (try clear hb2); (try clear hk); (try clear hi)))
                            go_ret
                            exact ⟨by first | rfl | (simp [errW_none, errW_some] <;> rfl) | (simp [*, errW_none, errW_some] <;> rfl), by repeat (first | (with_reducible first | exact HB.out | apply below_alloc | apply pw_below_drewN | apply below_drew1) | exact HB.out)⟩
            · rw [if_neg c23] at H
              exact absurd H (by simp)
    · rw [if_neg c7] at H
      exact absurd H (by simp)

/-- THE ONE PURE STATEMENT of laws_FnNumbers: yours. -/
def laws_FnNumbers.Pure : Prop := ∀ (l0 : List Int), l0.length ≤ maxLen → l0.length * 1 ≤ 140737488351232 → (∀ x ∈ l0, (Lit.int .u8 x).wf = true) → ∃ k, laws_FnNumbers.f k l0 = some true
theorem laws_FnNumbers.walk (P : laws_FnNumbers.Pure) (a0 : Option Addr) (len0 cap0 : Nat) (z0 : List Int) (w : World) (htab : Lib.TabIs Tryd.prog w "internal/strconv.uint64pow10" .u64 Lib.pow10Tab) (w0 : (a0 = none ∧ len0 = 0 ∧ cap0 = 0 ∧ z0 = []) ∨ ∃ x, a0 = some x ∧ len0 ≤ cap0 ∧ cap0 ≤ maxLen ∧ z0.length = cap0 ∧ (∀ i, i < z0.length → w.cell? (x.add i) = some (.int .u8 (z0.getD i 0))) ∧ ∀ n ∈ z0, (Lit.int .u8 n).wf = true) (y0 : len0 * 1 ≤ 140737488351232) :
    Calls Tryd.prog 7 #[.slice a0 len0 cap0] w fun e w' => e = .returned (.bool true) ∧ Below w.heap.size w w' := by
  obtain ⟨l0, rfl, hr0, hm0, hw0, hc0⟩ := ReadsInt.ofRowC w0
  obtain ⟨k, h⟩ := P l0 hm0 y0 hw0
  refine (laws_FnNumbers.calls k _ _ l0 true w (Kd.C_of_reads (d := (0 : Int)) (h1 := fun _ => rfl) hr0) hc0 htab h).mono ?_
  rintro e w' ⟨rfl, hd⟩
  exact ⟨rfl, hd⟩

end Go.Proofs.YtemefkkbeaaeoaaDoor.PFnNumbers
