/- What is proved here: contracts of the Go functions that the law FnRows reaches, for its row; no condition. The draft was printed; this text is not the print. -/
import Derived.Test.YtammijioeeiejaaQFnRowsx0
import Derived.Test.YtammijioeeiejaaQFnRowsx4
import Derived.Test.YtammijioeeiejaaQFnRowsx5
import Derived.Test.YtammijioeeiejaaQFnRowsx6
import Derived.Test.YtammijioeeiejaaQFnRowsx7
namespace Go.Proofs.Ytammijioeeiejaa.PFnRows
open Go.RowKit Go.Proofs.YtammijioeeiejaaW.PrintWords Go.Proofs.YtammijioeeiejaaW.PrintLast
attribute [local go_sem] max2_int min2_int max_two min_two   -- for this text's walks alone
set_option linter.unusedVariables false
set_option linter.unusedSimpArgs false

/-! ### spec_DrawSampled: function 23 -/
def spec_DrawSampled.l0 : Nat → Int → List Int → Int → Int → ByteArray → Int → Int → Bool → Int → Int → Int → Int → Int → Int → Option (ByteArray × Int × Int × Bool × Int × Int × Int × Int × Int × Int × Int)
  | 0, _, _, _, _, _, _, _, _, _, _, _, _, _, _ => none
  | k + 1, x6, x295000, x295001, x295002, x308000, x308001, x308002, x308003, x308004, x308005, x308006, x308007, x308008, x308009 => if x6 > 0 then ((spec_l5Val.f x295000 x295001 x295002).bind fun bt314 => ((spec_Sampled.f k x308000 x308001 x308002 x308003 x308004 x308005 x308006 x308007 x308008 x308009 bt314.1).bind fun bt317 => (spec_DrawSampled.l0 k (wrap64 (x6 - 1)) x295000 bt314.2.1 bt314.2.2 bt317.1 bt317.2.1 bt317.2.2.1 bt317.2.2.2.1 bt317.2.2.2.2.1 bt317.2.2.2.2.2.1 bt317.2.2.2.2.2.2.1 bt317.2.2.2.2.2.2.2.1 bt317.2.2.2.2.2.2.2.2.1 bt317.2.2.2.2.2.2.2.2.2))) else ((spec_l1Below.f x295000 x295001 x295002 900).bind fun bt327 => ((spec_l1PickInt.f x295000 bt327.2.1 bt327.2.2 (([0, 5, 65535, 65536, (-1), bt327.1] : List Int))).bind fun bt333 => (some (x308000, x308001, x308002, x308003, x308004, x308005, x308006, x308007, x308008, x308009, bt333.1))))
def spec_DrawSampled.f (k : Nat) (l0 : List Int) : Option (ByteArray × Int × Int × Bool × Int × Int × Int × Int × Int × Int × Int) := (spec_l1New.f k l0).bind fun bt291 => ((spec_l7Any.f k bt291.1 bt291.2.1 bt291.2.2).bind fun bt295 => ((spec_l1Once.f bt291.1 bt295.2.2.2.2.2.2.2.2.2.2.1 bt295.2.2.2.2.2.2.2.2.2.2.2 2).bind fun bt308 => (if bt308.1 = true then ((spec_l1Below.f bt291.1 bt308.2.1 bt308.2.2 5).bind fun bt311 => (spec_DrawSampled.l0 k bt311.1 bt291.1 bt311.2.1 bt311.2.2 (⟨#[97]⟩ : ByteArray) 3 0 false 0 0 0 0 0 0)) else ((spec_l1Below.f bt291.1 bt308.2.1 bt308.2.2 900).bind fun bt336 => ((spec_l1PickInt.f bt291.1 bt336.2.1 bt336.2.2 (([0, 5, 65535, 65536, (-1), bt336.1] : List Int))).bind fun bt342 => (some (bt295.1, bt295.2.1, bt295.2.2.1, bt295.2.2.2.1, bt295.2.2.2.2.1, bt295.2.2.2.2.2.1, bt295.2.2.2.2.2.2.1, bt295.2.2.2.2.2.2.2.1, bt295.2.2.2.2.2.2.2.2.1, bt295.2.2.2.2.2.2.2.2.2.1, bt342.1)))))))
theorem spec_DrawSampled.mono_l : ∀ k, (∀ y0 y1 y2 y3 y4 y5 y6 y7 y8 y9 y10 y11 y12 y13, LeO (spec_DrawSampled.l0 k y0 y1 y2 y3 y4 y5 y6 y7 y8 y9 y10 y11 y12 y13) (spec_DrawSampled.l0 (k + 1) y0 y1 y2 y3 y4 y5 y6 y7 y8 y9 y10 y11 y12 y13))
  | 0 => fun _ _ _ _ _ _ _ _ _ _ _ _ _ _ r h => by simp [spec_DrawSampled.l0] at h
  | k + 1 => by
    have ih0 := spec_DrawSampled.mono_l k
    · intro y0 y1 y2 y3 y4 y5 y6 y7 y8 y9 y10 y11 y12 y13
      unfold spec_DrawSampled.l0
      repeat' first
      | (with_reducible exact ih0 _ _ _ _ _ _ _ _ _ _ _ _ _ _)
      | (with_reducible exact spec_Sampled.mono _ _ _ _ _ _ _ _ _ _ _ _)
      | (with_reducible exact spec_l1New.mono _ _)
      | (with_reducible exact spec_l7Any.mono _ _ _ _)
      | (with_reducible exact LeO.refl _)
      | (with_reducible exact LeO.none _)
      | (with_reducible refine LeO.ite ?_ ?_)
      | (with_reducible refine LeO.bind ?_ (fun _ => ?_))
      | exact ih0 _ _ _ _ _ _ _ _ _ _ _ _ _ _
      | exact spec_Sampled.mono _ _ _ _ _ _ _ _ _ _ _ _
      | exact spec_l1New.mono _ _
      | exact spec_l7Any.mono _ _ _ _
      | exact LeO.none _
      | refine LeO.ite ?_ ?_
      | refine LeO.bind ?_ (fun _ => ?_)
theorem spec_DrawSampled.mono : ∀ a0 k, LeO (spec_DrawSampled.f k a0) (spec_DrawSampled.f (k + 1) a0) := by
  intro a0 k
  have ih0 := spec_DrawSampled.mono_l k
  unfold spec_DrawSampled.f
  repeat' first
      | (with_reducible exact ih0 _ _ _ _ _ _ _ _ _ _ _ _ _ _)
      | (with_reducible exact spec_Sampled.mono _ _ _ _ _ _ _ _ _ _ _ _)
      | (with_reducible exact spec_l1New.mono _ _)
      | (with_reducible exact spec_l7Any.mono _ _ _ _)
      | (with_reducible exact LeO.refl _)
      | (with_reducible exact LeO.none _)
      | (with_reducible refine LeO.ite ?_ ?_)
      | (with_reducible refine LeO.bind ?_ (fun _ => ?_))
      | exact ih0 _ _ _ _ _ _ _ _ _ _ _ _ _ _
      | exact spec_Sampled.mono _ _ _ _ _ _ _ _ _ _ _ _
      | exact spec_l1New.mono _ _
      | exact spec_l7Any.mono _ _ _ _
      | exact LeO.none _
      | refine LeO.ite ?_ ?_
      | refine LeO.bind ?_ (fun _ => ?_)
def spec_DrawSampled.T9 : Bool × List (List Nat × List Nat) := (true, [([], []), ([], []), ([], []), ([2], [2]), ([3], [3]), ([1, 4, 3], [1, 4]), ([0, 5, 0], [0]), ([5, 6, 0, 1, 2, 3, 4, 5, 6], [5])])
def spec_DrawSampled.B9 : List Nat := [0, 0, 0, 4, 12, 30, 63, 127]
theorem spec_DrawSampled.tab9 : rtab .any (opsOf Try.f23 9) = spec_DrawSampled.T9 := by kernel_rfl
theorem spec_DrawSampled.bits9 : waitsOk spec_DrawSampled.T9.2 spec_DrawSampled.B9 = true := by kernel_rfl
set_option maxHeartbeats 8000000 in
set_option maxRecDepth 100000 in
theorem spec_DrawSampled.calls (k : Nat) (A0 : Option Addr) (c0 : Nat) (l0 : List Int) (r1 : ByteArray) (r2 : Int) (r3 : Int) (r4 : Bool) (r5 : Int) (r6 : Int) (r7 : Int) (r8 : Int) (r9 : Int) (r10 : Int) (r11 : Int) (w : World) (hr0 : Kd.C (Kd.int .u8) w A0 l0.length l0) (hc0 : l0.length ≤ c0) (h : spec_DrawSampled.f k l0 = some (r1, r2, r3, r4, r5, r6, r7, r8, r9, r10, r11)) :
    Calls Try.prog 23 #[.slice A0 l0.length c0] w fun e w' => e = .returned (.tuple #[.agg #[.string r1, .int .i64 r2, .int .i64 r3, .bool r4, .int .i64 r5, .int .i64 r6, .int .i64 r7, .int .i64 r8, .int .i64 r9, .int .i64 r10], .int .i64 r11]) ∧ Below w.heap.size w w' := by
  have hu31 := Try.underlying31
  have HR0 := Aside0.mk hr0
  have HC0 := Aside0.mk hc0
  clear hr0 hc0
  have HB := Aside0.mk (Below.refl w.heap.size w)
  have H : ((spec_l1New.f k l0).bind fun bt291 => ((spec_l7Any.f k bt291.1 bt291.2.1 bt291.2.2).bind fun bt295 => ((spec_l1Once.f bt291.1 bt295.2.2.2.2.2.2.2.2.2.2.1 bt295.2.2.2.2.2.2.2.2.2.2.2 2).bind fun bt308 => (if bt308.1 = true then ((spec_l1Below.f bt291.1 bt308.2.1 bt308.2.2 5).bind fun bt311 => (spec_DrawSampled.l0 k bt311.1 bt291.1 bt311.2.1 bt311.2.2 (⟨#[97]⟩ : ByteArray) 3 0 false 0 0 0 0 0 0)) else ((spec_l1Below.f bt291.1 bt308.2.1 bt308.2.2 900).bind fun bt336 => ((spec_l1PickInt.f bt291.1 bt336.2.1 bt336.2.2 (([0, 5, 65535, 65536, (-1), bt336.1] : List Int))).bind fun bt342 => (some (bt295.1, bt295.2.1, bt295.2.2.1, bt295.2.2.2.1, bt295.2.2.2.2.1, bt295.2.2.2.2.2.1, bt295.2.2.2.2.2.2.1, bt295.2.2.2.2.2.2.2.1, bt295.2.2.2.2.2.2.2.2.1, bt295.2.2.2.2.2.2.2.2.2.1, bt342.1)))))))) = some (r1, r2, r3, r4, r5, r6, r7, r8, r9, r10, r11) := h
  clear h
  replace H := Option.bind_eq_some_iff.mp H
  obtain ⟨⟨t291, t292, t293⟩, A20, H⟩ := H
  replace H : ((spec_l7Any.f k t291 t292 t293).bind fun bt295 => ((spec_l1Once.f t291 bt295.2.2.2.2.2.2.2.2.2.2.1 bt295.2.2.2.2.2.2.2.2.2.2.2 2).bind fun bt308 => (if bt308.1 = true then ((spec_l1Below.f t291 bt308.2.1 bt308.2.2 5).bind fun bt311 => (spec_DrawSampled.l0 k bt311.1 t291 bt311.2.1 bt311.2.2 (⟨#[97]⟩ : ByteArray) 3 0 false 0 0 0 0 0 0)) else ((spec_l1Below.f t291 bt308.2.1 bt308.2.2 900).bind fun bt336 => ((spec_l1PickInt.f t291 bt336.2.1 bt336.2.2 (([0, 5, 65535, 65536, (-1), bt336.1] : List Int))).bind fun bt342 => (some (bt295.1, bt295.2.1, bt295.2.2.1, bt295.2.2.2.1, bt295.2.2.2.2.1, bt295.2.2.2.2.2.1, bt295.2.2.2.2.2.2.1, bt295.2.2.2.2.2.2.2.1, bt295.2.2.2.2.2.2.2.2.1, bt295.2.2.2.2.2.2.2.2.2.1, bt342.1))))))) = some (r1, r2, r3, r4, r5, r6, r7, r8, r9, r10, r11) := H
  have A2 := Aside0.mk A20
  clear A20
  replace H := Option.bind_eq_some_iff.mp H
  obtain ⟨⟨t295, t296, t297, t298, t299, t300, t301, t302, t303, t304, t305, t306⟩, A30, H⟩ := H
  replace H : ((spec_l1Once.f t291 t305 t306 2).bind fun bt308 => (if bt308.1 = true then ((spec_l1Below.f t291 bt308.2.1 bt308.2.2 5).bind fun bt311 => (spec_DrawSampled.l0 k bt311.1 t291 bt311.2.1 bt311.2.2 (⟨#[97]⟩ : ByteArray) 3 0 false 0 0 0 0 0 0)) else ((spec_l1Below.f t291 bt308.2.1 bt308.2.2 900).bind fun bt336 => ((spec_l1PickInt.f t291 bt336.2.1 bt336.2.2 (([0, 5, 65535, 65536, (-1), bt336.1] : List Int))).bind fun bt342 => (some (t295, t296, t297, t298, t299, t300, t301, t302, t303, t304, bt342.1)))))) = some (r1, r2, r3, r4, r5, r6, r7, r8, r9, r10, r11) := H
  have A3 := Aside0.mk A30
  clear A30
  replace H := Option.bind_eq_some_iff.mp H
  obtain ⟨⟨t308, t309, t310⟩, A40, H⟩ := H
  replace H : (if t308 = true then ((spec_l1Below.f t291 t309 t310 5).bind fun bt311 => (spec_DrawSampled.l0 k bt311.1 t291 bt311.2.1 bt311.2.2 (⟨#[97]⟩ : ByteArray) 3 0 false 0 0 0 0 0 0)) else ((spec_l1Below.f t291 t309 t310 900).bind fun bt336 => ((spec_l1PickInt.f t291 bt336.2.1 bt336.2.2 (([0, 5, 65535, 65536, (-1), bt336.1] : List Int))).bind fun bt342 => (some (t295, t296, t297, t298, t299, t300, t301, t302, t303, t304, bt342.1))))) = some (r1, r2, r3, r4, r5, r6, r7, r8, r9, r10, r11) := H
  have A4 := Aside0.mk A40
  clear A40
  by_cases c5 : t308 = true
  · subst c5
    have H1 : ((spec_l1Below.f t291 t309 t310 5).bind fun bt311 => (spec_DrawSampled.l0 k bt311.1 t291 bt311.2.1 bt311.2.2 (⟨#[97]⟩ : ByteArray) 3 0 false 0 0 0 0 0 0)) = some (r1, r2, r3, r4, r5, r6, r7, r8, r9, r10, r11) := by rw [if_pos rfl] at H; exact H
    clear H
    have H := H1
    clear H1
    replace H := Option.bind_eq_some_iff.mp H
    obtain ⟨⟨t311, t312, t313⟩, A60, H⟩ := H
    replace H : (spec_DrawSampled.l0 k t311 t291 t312 t313 (⟨#[97]⟩ : ByteArray) 3 0 false 0 0 0 0 0 0) = some (r1, r2, r3, r4, r5, r6, r7, r8, r9, r10, r11) := H
    have A6 := Aside0.mk A60
    clear A60
    have H' := Aside0.mk H
    clear H
    go_enter Try.func23, Try.ntmps23
    go_wp2_with (first | ((with_reducible refine gate_dst (N := 2) rfl ?_); refine box_event ?hg (N := 2) ?hd (cs := #[.string (⟨#[]⟩ : ByteArray), .int .i64 0, .int .i64 0, .bool false, .int .i64 0, .int .i64 0, .int .i64 0, .int .i64 0, .int .i64 0, .int .i64 0]) (t := 31) ?hr ?_; (case hd => rfl); (case hg => rfl); (case hr => first | (go_simp; done) | (go_simp; rfl)); intro gb290 hg w7 hbox hb; have n0_ := Aside0.mk (below_step (by repeat (first | (with_reducible first | exact HB.out | apply below_alloc | apply pw_below_drewN | apply below_drew1) | exact HB.out)) hb); have n1_ := Aside0.mk (hbox); have n2_ := Aside0.mk ((by rw [hg]; exact (below_size (by repeat (first | (with_reducible first | exact HB.out | apply below_alloc | apply pw_below_drewN | apply below_drew1) | exact HB.out))) : w.heap.size ≤ gb290)); have n3_ := Aside0.mk ((by rw [hg]; exact (below_size (by repeat (first | (with_reducible first | exact HB.out | apply below_alloc | apply pw_below_drewN | apply below_drew1) | exact HB.out))) : w.heap.size ≤ gb290)); clear HB; have HB := n0_; have BK290 := n1_; have GW290 := n2_; have GE290 := n3_; clear n0_ n1_ n2_ n3_; clear hb hbox hg) | ((with_reducible refine gate_callee (f := 33) rfl ?_); refine goesL_ (some 8) rfl rfl Try.func33 (by kernel_rfl) rfl #[.slice A0 l0.length c0] rfl (by (try simp only [List.map_toArray, List.map_cons, List.map_nil]); first | done | rfl | (simp only [List.length_drop, List.length_take]; rfl)) ?_; (with_reducible refine (spec_l1New.calls k _ _ l0 t291 t292 t293 w _ ?side1 ?side2 ?side3 A2.out).mono ?_); (case side1 => repeat (first | (with_reducible first | exact HB.out | apply below_alloc | apply pw_below_drewN | apply below_drew1 | refine below_set ?_ GE290.out) | exact HB.out)); (case side2 => exact HR0.out); (case side3 => exact HC0.out); rintro e w8 ⟨g294, rfl, hi, hb, hb2⟩; refine ⟨_, rfl, ?_⟩; have n0_ := Aside0.mk (blk_below (g := gb290) (o := .cells #[.string (⟨#[]⟩ : ByteArray), .int .i64 0, .int .i64 0, .bool false, .int .i64 0, .int .i64 0, .int .i64 0, .int .i64 0, .int .i64 0, .int .i64 0] 31 (0, 0)) (by (with_reducible repeat (first | refine blk_drewN ?_ _ | refine blk_drew ?_ | refine blk_alloc ?_ _)); exact BK290.out) hb2); have n1_ := Aside0.mk (hb); have n2_ := Aside0.mk (hi); have n3_ := Aside0.mk (IsS56.ne_blk hi (blk_below (g := gb290) (o := .cells #[.string (⟨#[]⟩ : ByteArray), .int .i64 0, .int .i64 0, .bool false, .int .i64 0, .int .i64 0, .int .i64 0, .int .i64 0, .int .i64 0, .int .i64 0] 31 (0, 0)) (by (with_reducible repeat (first | refine blk_drewN ?_ _ | refine blk_drew ?_ | refine blk_alloc ?_ _)); exact BK290.out) hb2) (by decide)); have n4_ := Aside0.mk (Ne.symm (IsS56.ne_blk hi (blk_below (g := gb290) (o := .cells #[.string (⟨#[]⟩ : ByteArray), .int .i64 0, .int .i64 0, .bool false, .int .i64 0, .int .i64 0, .int .i64 0, .int .i64 0, .int .i64 0, .int .i64 0] 31 (0, 0)) (by (with_reducible repeat (first | refine blk_drewN ?_ _ | refine blk_drew ?_ | refine blk_alloc ?_ _)); exact BK290.out) hb2) (by decide))); clear BK290; clear HB; have BK290 := n0_; have HB := n1_; have HI294 := n2_; have NB294_290 := n3_; have NB290_294 := n4_; clear n0_ n1_ n2_ n3_ n4_; (try clear hb); (try clear hb2); (try clear hk); (try clear hi)) | ((with_reducible refine gate_callee (f := 34) rfl ?_); refine goesL_ (some 10) rfl rfl Try.func34 (by kernel_rfl) rfl #[.pointer (some ⟨g294, 0, none⟩)] rfl (by (try simp only [List.map_toArray, List.map_cons, List.map_nil]); first | done | rfl | (simp only [List.length_drop, List.length_take]; rfl)) ?_; (with_reducible refine (spec_l7Any.calls k g294 t291 t292 t293 t295 t296 t297 t298 t299 t300 t301 t302 t303 t304 t305 t306 w _ ?side1 ?side2 A3.out).mono ?_); (case side1 => repeat (first | (with_reducible first | exact HI294.out | apply IsS56.alloc | apply IsS56.drewN | apply IsS56.drew | apply IsS56.set_1 | apply IsS56.set_2 | refine IsS56.far ?_ NB294_290.out _) | exact HI294.out)); (case side2 => repeat (first | (with_reducible first | exact HB.out | apply below_alloc | apply pw_below_drewN | apply below_drew1 | refine below_set ?_ (IsS56.ge HI294.out) | refine below_set ?_ GE290.out) | exact HB.out)); rintro e w9 ⟨rfl, hi, hb, hk⟩; refine ⟨_, rfl, ?_⟩; have n0_ := Aside0.mk (KeepBut.blk hk (g' := gb290) (o := .cells #[.string (⟨#[]⟩ : ByteArray), .int .i64 0, .int .i64 0, .bool false, .int .i64 0, .int .i64 0, .int .i64 0, .int .i64 0, .int .i64 0, .int .i64 0] 31 (0, 0)) (by (with_reducible repeat (first | refine blk_drewN ?_ _ | refine blk_drew ?_ | refine blk_alloc ?_ _)); exact BK290.out) NB290_294.out (by simp)); have n1_ := Aside0.mk (hb); have n2_ := Aside0.mk (hi); clear BK290; clear HB; clear HI294; have BK290 := n0_; have HB := n1_; have HI294 := n2_; clear n0_ n1_ n2_; (try clear hb); (try clear hb2); (try clear hk); (try clear hi)) | ((with_reducible refine gate_dst (N := 5) rfl ?_); refine box_event ?hg (N := 5) ?hd (cs := #[.string (⟨#[]⟩ : ByteArray), .int .i64 0, .int .i64 0, .bool false, .int .i64 0, .int .i64 0, .int .i64 0, .int .i64 0, .int .i64 0, .int .i64 0]) (t := 31) ?hr ?_; (case hd => rfl); (case hg => rfl); (case hr => first | (go_simp; done) | (go_simp; rfl)); intro gb307 hg w10 hbox hb; have n0_ := Aside0.mk (blk_below (g := gb290) (o := .cells #[.string (⟨#[]⟩ : ByteArray), .int .i64 0, .int .i64 0, .bool false, .int .i64 0, .int .i64 0, .int .i64 0, .int .i64 0, .int .i64 0, .int .i64 0] 31 (0, 0)) (by (with_reducible repeat (first | refine blk_drewN ?_ _ | refine blk_drew ?_ | refine blk_alloc ?_ _)); exact BK290.out) hb); have n1_ := Aside0.mk (IsS56.below (by repeat (first | (with_reducible first | exact HI294.out | apply IsS56.alloc | apply IsS56.drewN | apply IsS56.drew | apply IsS56.set_1 | apply IsS56.set_2 | refine IsS56.far ?_ NB294_290.out _) | exact HI294.out)) hb); have n2_ := Aside0.mk (below_step (by repeat (first | (with_reducible first | exact HB.out | apply below_alloc | apply pw_below_drewN | apply below_drew1 | refine below_set ?_ (IsS56.ge HI294.out) | refine below_set ?_ GE290.out) | exact HB.out)) hb); have n3_ := Aside0.mk (hbox); have n4_ := Aside0.mk ((by rw [hg]; exact (below_size (by repeat (first | (with_reducible first | exact HB.out | apply below_alloc | apply pw_below_drewN | apply below_drew1 | refine below_set ?_ (IsS56.ge HI294.out) | refine below_set ?_ GE290.out) | exact HB.out))) : w.heap.size ≤ gb307)); have n5_ := Aside0.mk ((by rw [hg]; exact (below_size (by repeat (first | (with_reducible first | exact HB.out | apply below_alloc | apply pw_below_drewN | apply below_drew1 | refine below_set ?_ (IsS56.ge HI294.out) | refine below_set ?_ GE290.out) | exact HB.out))) : w.heap.size ≤ gb307)); have n6_ := Aside0.mk ((by rw [hg]; exact Nat.ne_of_lt (blk_lt (g := gb290) (o := .cells #[.string (⟨#[]⟩ : ByteArray), .int .i64 0, .int .i64 0, .bool false, .int .i64 0, .int .i64 0, .int .i64 0, .int .i64 0, .int .i64 0, .int .i64 0] 31 (0, 0)) (by (with_reducible repeat (first | refine blk_drewN ?_ _ | refine blk_drew ?_ | refine blk_alloc ?_ _)); exact BK290.out)) : gb290 ≠ gb307)); have n7_ := Aside0.mk ((by rw [hg]; exact Nat.ne_of_gt (blk_lt (g := gb290) (o := .cells #[.string (⟨#[]⟩ : ByteArray), .int .i64 0, .int .i64 0, .bool false, .int .i64 0, .int .i64 0, .int .i64 0, .int .i64 0, .int .i64 0, .int .i64 0] 31 (0, 0)) (by (with_reducible repeat (first | refine blk_drewN ?_ _ | refine blk_drew ?_ | refine blk_alloc ?_ _)); exact BK290.out)) : gb307 ≠ gb290)); have n8_ := Aside0.mk ((by rw [hg]; exact Nat.ne_of_lt (IsS56.lt (show IsS56 w _ g294 t291 t305 t306 from by repeat (first | (with_reducible first | exact HI294.out | apply IsS56.alloc | apply IsS56.drewN | apply IsS56.drew | apply IsS56.set_1 | apply IsS56.set_2 | refine IsS56.far ?_ NB294_290.out _) | exact HI294.out))) : g294 ≠ gb307)); have n9_ := Aside0.mk ((by rw [hg]; exact Nat.ne_of_gt (IsS56.lt (show IsS56 w _ g294 t291 t305 t306 from by repeat (first | (with_reducible first | exact HI294.out | apply IsS56.alloc | apply IsS56.drewN | apply IsS56.drew | apply IsS56.set_1 | apply IsS56.set_2 | refine IsS56.far ?_ NB294_290.out _) | exact HI294.out))) : gb307 ≠ g294)); clear BK290; clear HI294; clear HB; have BK290 := n0_; have HI294 := n1_; have HB := n2_; have BK307 := n3_; have GW307 := n4_; have GE307 := n5_; have NB290_307 := n6_; have NB307_290 := n7_; have NB294_307 := n8_; have NB307_294 := n9_; clear n0_ n1_ n2_ n3_ n4_ n5_ n6_ n7_ n8_ n9_; clear hb hbox hg; have hnb11 := NB307_290.out; have hnc11 := NB290_307.out; have hnb12 := NB307_294.out; have hnc12 := NB294_307.out; have hcz13_0 : w10.cell? ⟨gb307, 0, none⟩ = some (.string (⟨#[]⟩ : ByteArray)) := (blk_cell BK307.out 0).trans rfl; have hcz13_1 : w10.cell? ⟨gb307, 1, none⟩ = some (.int .i64 0) := (blk_cell BK307.out 1).trans rfl; have hcz13_2 : w10.cell? ⟨gb307, 2, none⟩ = some (.int .i64 0) := (blk_cell BK307.out 2).trans rfl; have hcz13_3 : w10.cell? ⟨gb307, 3, none⟩ = some (.bool false) := (blk_cell BK307.out 3).trans rfl; have hcz13_4 : w10.cell? ⟨gb307, 4, none⟩ = some (.int .i64 0) := (blk_cell BK307.out 4).trans rfl; have hcz13_5 : w10.cell? ⟨gb307, 5, none⟩ = some (.int .i64 0) := (blk_cell BK307.out 5).trans rfl; have hcz13_6 : w10.cell? ⟨gb307, 6, none⟩ = some (.int .i64 0) := (blk_cell BK307.out 6).trans rfl; have hcz13_7 : w10.cell? ⟨gb307, 7, none⟩ = some (.int .i64 0) := (blk_cell BK307.out 7).trans rfl; have hcz13_8 : w10.cell? ⟨gb307, 8, none⟩ = some (.int .i64 0) := (blk_cell BK307.out 8).trans rfl; have hcz13_9 : w10.cell? ⟨gb307, 9, none⟩ = some (.int .i64 0) := (blk_cell BK307.out 9).trans rfl; have hfz13_0 := blk_frozen BK307.out 0; have hfz13_1 := blk_frozen BK307.out 1; have hfz13_2 := blk_frozen BK307.out 2; have hfz13_3 := blk_frozen BK307.out 3; have hfz13_4 := blk_frozen BK307.out 4; have hfz13_5 := blk_frozen BK307.out 5; have hfz13_6 := blk_frozen BK307.out 6; have hfz13_7 := blk_frozen BK307.out 7; have hfz13_8 := blk_frozen BK307.out 8; have hfz13_9 := blk_frozen BK307.out 9) | ((with_reducible refine gate_callee (f := 35) rfl ?_); refine goesL_ (some 12) rfl rfl Try.func35 (by kernel_rfl) rfl #[.pointer (some ⟨g294, 0, none⟩), .int .i64 2] rfl (by (try simp only [List.map_toArray, List.map_cons, List.map_nil]); first | done | rfl | (simp only [List.length_drop, List.length_take]; rfl)) ?_; (with_reducible refine (spec_l1Once.calls g294 t291 t305 t306 2 true t309 t310 w _ ?side1 ?side2 A4.out).mono ?_); (case side1 => repeat (first | (with_reducible first | exact HI294.out | apply IsS56.alloc | apply IsS56.drewN | apply IsS56.drew | apply IsS56.set_1 | apply IsS56.set_2 | refine IsS56.far ?_ NB294_290.out _ | refine IsS56.far ?_ NB294_307.out _) | exact HI294.out)); (case side2 => repeat (first | (with_reducible first | exact HB.out | apply below_alloc | apply pw_below_drewN | apply below_drew1 | refine below_set ?_ (IsS56.ge HI294.out) | refine below_set ?_ GE290.out | refine below_set ?_ GE307.out) | exact HB.out)); rintro e w14 ⟨rfl, hi, hb, hk⟩; refine ⟨_, rfl, ?_⟩; have n0_ := Aside0.mk (KeepBut.blk hk (g' := gb290) (o := .cells #[.string (⟨#[]⟩ : ByteArray), .int .i64 0, .int .i64 0, .bool false, .int .i64 0, .int .i64 0, .int .i64 0, .int .i64 0, .int .i64 0, .int .i64 0] 31 (0, 0)) (by (with_reducible repeat (first | refine blk_drewN ?_ _ | refine blk_drew ?_ | refine blk_alloc ?_ _)); refine blk_far ?_ NB290_307.out _; (with_reducible repeat (first | refine blk_drewN ?_ _ | refine blk_drew ?_ | refine blk_alloc ?_ _)); refine blk_far ?_ NB290_307.out _; (with_reducible repeat (first | refine blk_drewN ?_ _ | refine blk_drew ?_ | refine blk_alloc ?_ _)); refine blk_far ?_ NB290_307.out _; (with_reducible repeat (first | refine blk_drewN ?_ _ | refine blk_drew ?_ | refine blk_alloc ?_ _)); refine blk_far ?_ NB290_307.out _; (with_reducible repeat (first | refine blk_drewN ?_ _ | refine blk_drew ?_ | refine blk_alloc ?_ _)); refine blk_far ?_ NB290_307.out _; (with_reducible repeat (first | refine blk_drewN ?_ _ | refine blk_drew ?_ | refine blk_alloc ?_ _)); refine blk_far ?_ NB290_307.out _; (with_reducible repeat (first | refine blk_drewN ?_ _ | refine blk_drew ?_ | refine blk_alloc ?_ _)); refine blk_far ?_ NB290_307.out _; (with_reducible repeat (first | refine blk_drewN ?_ _ | refine blk_drew ?_ | refine blk_alloc ?_ _)); refine blk_far ?_ NB290_307.out _; (with_reducible repeat (first | refine blk_drewN ?_ _ | refine blk_drew ?_ | refine blk_alloc ?_ _)); refine blk_far ?_ NB290_307.out _; (with_reducible repeat (first | refine blk_drewN ?_ _ | refine blk_drew ?_ | refine blk_alloc ?_ _)); refine blk_far ?_ NB290_307.out _; (with_reducible repeat (first | refine blk_drewN ?_ _ | refine blk_drew ?_ | refine blk_alloc ?_ _)); exact BK290.out) NB290_294.out (by simp)); have n1_ := Aside0.mk (KeepBut.blk hk (g' := gb307) (o := .cells #[.string t295, .int .i64 t296, .int .i64 t297, .bool t298, .int .i64 t299, .int .i64 t300, .int .i64 t301, .int .i64 t302, .int .i64 t303, .int .i64 t304] 31 (0, 0)) (by (with_reducible repeat (first | refine blk_drewN ?_ _ | refine blk_drew ?_ | refine blk_alloc ?_ _)); apply blk_put10; (with_reducible repeat (first | refine blk_drewN ?_ _ | refine blk_drew ?_ | refine blk_alloc ?_ _)); exact BK307.out) NB307_294.out (by simp)); have n2_ := Aside0.mk (hb); have n3_ := Aside0.mk (hi); clear BK290; clear BK307; clear HB; clear HI294; have BK290 := n0_; have BK307 := n1_; have HB := n2_; have HI294 := n3_; clear n0_ n1_ n2_ n3_; (try clear hb); (try clear hb2); (try clear hk); (try clear hi); have hcz15_0 : w14.cell? ⟨gb307, 0, none⟩ = some (.string t295) := (blk_cell BK307.out 0).trans rfl; have hcz15_1 : w14.cell? ⟨gb307, 1, none⟩ = some (.int .i64 t296) := (blk_cell BK307.out 1).trans rfl; have hcz15_2 : w14.cell? ⟨gb307, 2, none⟩ = some (.int .i64 t297) := (blk_cell BK307.out 2).trans rfl; have hcz15_3 : w14.cell? ⟨gb307, 3, none⟩ = some (.bool t298) := (blk_cell BK307.out 3).trans rfl; have hcz15_4 : w14.cell? ⟨gb307, 4, none⟩ = some (.int .i64 t299) := (blk_cell BK307.out 4).trans rfl; have hcz15_5 : w14.cell? ⟨gb307, 5, none⟩ = some (.int .i64 t300) := (blk_cell BK307.out 5).trans rfl; have hcz15_6 : w14.cell? ⟨gb307, 6, none⟩ = some (.int .i64 t301) := (blk_cell BK307.out 6).trans rfl; have hcz15_7 : w14.cell? ⟨gb307, 7, none⟩ = some (.int .i64 t302) := (blk_cell BK307.out 7).trans rfl; have hcz15_8 : w14.cell? ⟨gb307, 8, none⟩ = some (.int .i64 t303) := (blk_cell BK307.out 8).trans rfl; have hcz15_9 : w14.cell? ⟨gb307, 9, none⟩ = some (.int .i64 t304) := (blk_cell BK307.out 9).trans rfl; have hfz15_0 := blk_frozen BK307.out 0; have hfz15_1 := blk_frozen BK307.out 1; have hfz15_2 := blk_frozen BK307.out 2; have hfz15_3 := blk_frozen BK307.out 3; have hfz15_4 := blk_frozen BK307.out 4; have hfz15_5 := blk_frozen BK307.out 5; have hfz15_6 := blk_frozen BK307.out 6; have hfz15_7 := blk_frozen BK307.out 7; have hfz15_8 := blk_frozen BK307.out 8; have hfz15_9 := blk_frozen BK307.out 9) | ((with_reducible refine gate_callee (f := 36) rfl ?_); refine goesL_ (some 15) rfl rfl Try.func36 (by kernel_rfl) rfl #[.pointer (some ⟨g294, 0, none⟩), .int .i64 5] rfl (by (try simp only [List.map_toArray, List.map_cons, List.map_nil]); first | done | rfl | (simp only [List.length_drop, List.length_take]; rfl)) ?_; (with_reducible refine (spec_l1Below.calls g294 t291 t309 t310 5 t311 t312 t313 w _ ?side1 ?side2 A6.out).mono ?_); (case side1 => repeat (first | (with_reducible first | exact HI294.out | apply IsS56.alloc | apply IsS56.drewN | apply IsS56.drew | apply IsS56.set_1 | apply IsS56.set_2 | refine IsS56.far ?_ NB294_290.out _ | refine IsS56.far ?_ NB294_307.out _) | exact HI294.out)); (case side2 => repeat (first | (with_reducible first | exact HB.out | apply below_alloc | apply pw_below_drewN | apply below_drew1 | refine below_set ?_ (IsS56.ge HI294.out) | refine below_set ?_ GE290.out | refine below_set ?_ GE307.out) | exact HB.out)); rintro e w16 ⟨rfl, hi, hb, hk⟩; refine ⟨_, rfl, ?_⟩; have n0_ := Aside0.mk (KeepBut.blk hk (g' := gb290) (o := .cells #[.string (⟨#[]⟩ : ByteArray), .int .i64 0, .int .i64 0, .bool false, .int .i64 0, .int .i64 0, .int .i64 0, .int .i64 0, .int .i64 0, .int .i64 0] 31 (0, 0)) (by (with_reducible repeat (first | refine blk_drewN ?_ _ | refine blk_drew ?_ | refine blk_alloc ?_ _)); refine blk_far ?_ NB290_307.out _; (with_reducible repeat (first | refine blk_drewN ?_ _ | refine blk_drew ?_ | refine blk_alloc ?_ _)); refine blk_far ?_ NB290_307.out _; (with_reducible repeat (first | refine blk_drewN ?_ _ | refine blk_drew ?_ | refine blk_alloc ?_ _)); refine blk_far ?_ NB290_307.out _; (with_reducible repeat (first | refine blk_drewN ?_ _ | refine blk_drew ?_ | refine blk_alloc ?_ _)); refine blk_far ?_ NB290_307.out _; (with_reducible repeat (first | refine blk_drewN ?_ _ | refine blk_drew ?_ | refine blk_alloc ?_ _)); refine blk_far ?_ NB290_307.out _; (with_reducible repeat (first | refine blk_drewN ?_ _ | refine blk_drew ?_ | refine blk_alloc ?_ _)); refine blk_far ?_ NB290_307.out _; (with_reducible repeat (first | refine blk_drewN ?_ _ | refine blk_drew ?_ | refine blk_alloc ?_ _)); refine blk_far ?_ NB290_307.out _; (with_reducible repeat (first | refine blk_drewN ?_ _ | refine blk_drew ?_ | refine blk_alloc ?_ _)); refine blk_far ?_ NB290_307.out _; (with_reducible repeat (first | refine blk_drewN ?_ _ | refine blk_drew ?_ | refine blk_alloc ?_ _)); refine blk_far ?_ NB290_307.out _; (with_reducible repeat (first | refine blk_drewN ?_ _ | refine blk_drew ?_ | refine blk_alloc ?_ _)); refine blk_far ?_ NB290_307.out _; (with_reducible repeat (first | refine blk_drewN ?_ _ | refine blk_drew ?_ | refine blk_alloc ?_ _)); exact BK290.out) NB290_294.out (by simp)); have n1_ := Aside0.mk (KeepBut.blk hk (g' := gb307) (o := .cells #[.string (⟨#[97]⟩ : ByteArray), .int .i64 3, .int .i64 0, .bool false, .int .i64 0, .int .i64 0, .int .i64 0, .int .i64 0, .int .i64 0, .int .i64 0] 31 (0, 0)) (by (with_reducible repeat (first | refine blk_drewN ?_ _ | refine blk_drew ?_ | refine blk_alloc ?_ _)); apply blk_put10; (with_reducible repeat (first | refine blk_drewN ?_ _ | refine blk_drew ?_ | refine blk_alloc ?_ _)); exact BK307.out) NB307_294.out (by simp)); have n2_ := Aside0.mk (hb); have n3_ := Aside0.mk (hi); clear BK290; clear BK307; clear HB; clear HI294; have BK290 := n0_; have BK307 := n1_; have HB := n2_; have HI294 := n3_; clear n0_ n1_ n2_ n3_; (try clear hb); (try clear hb2); (try clear hk); (try clear hi)))
    go_loopg [6] k (fun kq v6 w' => ∃ (x6_1 : Int) (x295001_1 : Int) (x295002_1 : Int) (x308000_1 : ByteArray) (x308001_1 : Int) (x308002_1 : Int) (x308003_1 : Bool) (x308004_1 : Int) (x308005_1 : Int) (x308006_1 : Int) (x308007_1 : Int) (x308008_1 : Int) (x308009_1 : Int), v6 = .int .i64 x6_1 ∧ Aside0 (spec_DrawSampled.l0 kq x6_1 t291 x295001_1 x295002_1 x308000_1 x308001_1 x308002_1 x308003_1 x308004_1 x308005_1 x308006_1 x308007_1 x308008_1 x308009_1 = some (r1, r2, r3, r4, r5, r6, r7, r8, r9, r10, r11)) ∧ Aside0 (kq ≤ k) ∧ Aside0 (w'.heap[gb290]? = some (.cells #[.string (⟨#[]⟩ : ByteArray), .int .i64 0, .int .i64 0, .bool false, .int .i64 0, .int .i64 0, .int .i64 0, .int .i64 0, .int .i64 0, .int .i64 0] 31 (0, 0))) ∧ Aside0 (w'.heap[gb307]? = some (.cells #[.string x308000_1, .int .i64 x308001_1, .int .i64 x308002_1, .bool x308003_1, .int .i64 x308004_1, .int .i64 x308005_1, .int .i64 x308006_1, .int .i64 x308007_1, .int .i64 x308008_1, .int .i64 x308009_1] 31 (0, 0))) ∧ Aside0 (IsS56 w w' g294 t291 x295001_1 x295002_1) ∧ Aside0 (Below w.heap.size w w'))
    case atStart => exact ⟨(t311), (t312), (t313), ((⟨#[97]⟩ : ByteArray)), (3), (0), (false), (0), (0), (0), (0), (0), (0), (by first | rfl | (simp; done) | (simp [*]; done)), H', ⟨Nat.le_refl _⟩, ⟨by (with_reducible repeat (first | refine blk_drewN ?_ _ | refine blk_drew ?_ | refine blk_alloc ?_ _)); exact BK290.out⟩, ⟨by (with_reducible repeat (first | refine blk_drewN ?_ _ | refine blk_drew ?_ | refine blk_alloc ?_ _)); exact BK307.out⟩, ⟨by repeat (first | (with_reducible first | exact HI294.out | apply IsS56.alloc | apply IsS56.drewN | apply IsS56.drew | apply IsS56.set_1 | apply IsS56.set_2 | refine IsS56.far ?_ NB294_290.out _ | refine IsS56.far ?_ NB294_307.out _) | exact HI294.out)⟩, ⟨by repeat (first | (with_reducible first | exact HB.out | apply below_alloc | apply pw_below_drewN | apply below_drew1 | refine below_set ?_ (IsS56.ge HI294.out) | refine below_set ?_ GE290.out | refine below_set ?_ GE307.out) | exact HB.out)⟩⟩
    case round =>
      clear H'
      try clear c1
      try clear c2
      try clear p2
      try clear c3
      try clear c5
      try clear c11
      try clear c12
      try clear hcz13_0
      try clear hcz13_1
      try clear hcz13_2
      try clear hcz13_3
      try clear hcz13_4
      try clear hcz13_5
      try clear hcz13_6
      try clear hcz13_7
      try clear hcz13_8
      try clear hcz13_9
      try clear hcz15_0
      try clear hcz15_1
      try clear hcz15_2
      try clear hcz15_3
      try clear hcz15_4
      try clear hcz15_5
      try clear hcz15_6
      try clear hcz15_7
      try clear hcz15_8
      try clear hcz15_9
      try clear hfz13_0
      try clear hfz13_1
      try clear hfz13_2
      try clear hfz13_3
      try clear hfz13_4
      try clear hfz13_5
      try clear hfz13_6
      try clear hfz13_7
      try clear hfz13_8
      try clear hfz13_9
      try clear hfz15_0
      try clear hfz15_1
      try clear hfz15_2
      try clear hfz15_3
      try clear hfz15_4
      try clear hfz15_5
      try clear hfz15_6
      try clear hfz15_7
      try clear hfz15_8
      try clear hfz15_9
      obtain ⟨x6_1, x295001_1, x295002_1, x308000_1, x308001_1, x308002_1, x308003_1, x308004_1, x308005_1, x308006_1, x308007_1, x308008_1, x308009_1, rfl, HA, HK1, BK290, BK307, HI294, HB⟩ := hrel
      cases gk with
      | zero => exact absurd HA.out (by simp [spec_DrawSampled.l0])
      | succ k1 =>
        have H := HA.out
        clear HA
        simp only [spec_DrawSampled.l0] at H
        by_cases c17 : x6_1 > 0
        · rw [if_pos c17] at H
          have c17b0 : decide (0 < x6_1) = true := decide_eq_true c17
          clear c17
          replace H := Option.bind_eq_some_iff.mp H
          obtain ⟨⟨t314, t315, t316⟩, A180, H⟩ := H
          replace H : ((spec_Sampled.f k1 x308000_1 x308001_1 x308002_1 x308003_1 x308004_1 x308005_1 x308006_1 x308007_1 x308008_1 x308009_1 t314).bind fun bt317 => (spec_DrawSampled.l0 k1 (wrap64 (x6_1 - 1)) t291 t315 t316 bt317.1 bt317.2.1 bt317.2.2.1 bt317.2.2.2.1 bt317.2.2.2.2.1 bt317.2.2.2.2.2.1 bt317.2.2.2.2.2.2.1 bt317.2.2.2.2.2.2.2.1 bt317.2.2.2.2.2.2.2.2.1 bt317.2.2.2.2.2.2.2.2.2)) = some (r1, r2, r3, r4, r5, r6, r7, r8, r9, r10, r11) := H
          have A18 := Aside0.mk A180
          clear A180
          replace H := Option.bind_eq_some_iff.mp H
          obtain ⟨⟨t317, t318, t319, t320, t321, t322, t323, t324, t325, t326⟩, A190, H⟩ := H
          replace H : (spec_DrawSampled.l0 k1 (wrap64 (x6_1 - 1)) t291 t315 t316 t317 t318 t319 t320 t321 t322 t323 t324 t325 t326) = some (r1, r2, r3, r4, r5, r6, r7, r8, r9, r10, r11) := H
          have A19 := Aside0.mk A190
          clear A190
          have H' := Aside0.mk H
          clear H
          try go_wp2
          have n0_ := Aside0.mk (blk_drew BK290.out)
          have n1_ := Aside0.mk (blk_drew BK307.out)
          have n2_ := Aside0.mk (IsS56.drew HI294.out)
          have n3_ := Aside0.mk (below_drew1 HB.out)
          clear BK290
          clear BK307
          clear HI294
          clear HB
          have BK290 := n0_
          have BK307 := n1_
          have HI294 := n2_
          have HB := n3_
          clear n0_ n1_ n2_ n3_
          refine start_ (n := 5) (S := fun w' => w'.cell? ⟨gb307, 0, none⟩ = some (.string x308000_1) ∧ w'.cell? ⟨gb307, 1, none⟩ = some (.int .i64 x308001_1) ∧ w'.cell? ⟨gb307, 2, none⟩ = some (.int .i64 x308002_1) ∧ w'.cell? ⟨gb307, 3, none⟩ = some (.bool x308003_1) ∧ w'.cell? ⟨gb307, 4, none⟩ = some (.int .i64 x308004_1) ∧ w'.cell? ⟨gb307, 5, none⟩ = some (.int .i64 x308005_1) ∧ w'.cell? ⟨gb307, 6, none⟩ = some (.int .i64 x308006_1) ∧ w'.cell? ⟨gb307, 7, none⟩ = some (.int .i64 x308007_1) ∧ w'.cell? ⟨gb307, 8, none⟩ = some (.int .i64 x308008_1) ∧ w'.cell? ⟨gb307, 9, none⟩ = some (.int .i64 x308009_1)) (ds := [4]) #[false, false, false, false, false] (by kernel_rfl) rfl rfl ⟨(blk_cell BK307.out 0).trans rfl, (blk_cell BK307.out 1).trans rfl, (blk_cell BK307.out 2).trans rfl, (blk_cell BK307.out 3).trans rfl, (blk_cell BK307.out 4).trans rfl, (blk_cell BK307.out 5).trans rfl, (blk_cell BK307.out 6).trans rfl, (blk_cell BK307.out 7).trans rfl, (blk_cell BK307.out 8).trans rfl, (blk_cell BK307.out 9).trans rfl⟩ (fun hHeld => ?_)
          generalize wr.drew = w20 at BK290 BK307 HI294 HB hHeld ⊢
          refine pure_ (i := 1) (N := some 21) (v := ?_) (a' := ?_) #[false, true, false, false, false] rfl rfl (by kernel_rfl) (fun _ _ _ h => h) (Or.inl ⟨by rfl, ?_⟩) ?_ ?_
          rotate_left
          · intro w'
            go_simp
            with_reducible rfl
          rotate_left
          · simp only [Act.put, List.setIfInBounds_toArray, List.set_cons_zero, List.set_cons_succ, i64_w, i32_w]
            rfl
          refine take_ (i := 0) (N := some 20) (v := ?_) (a' := ?_) #[true, true, false, false, false] rfl rfl (by kernel_rfl) (fun _ _ _ h => h) (Or.inl ⟨by rfl, ?_⟩) hHeld ?_ ?_
          rotate_left
          · rintro w' ⟨s0, s1, s2, s3, s4, s5, s6, s7, s8, s9⟩
            go_simp
            with_reducible rfl
          rotate_left
          · simp only [Act.put, List.setIfInBounds_toArray, List.set_cons_zero, List.set_cons_succ, i64_w, i32_w]
            rfl
          refine one_ (i := 2) (N := some 22) #[true, true, true, false, false] rfl rfl (by kernel_rfl) (by decide) (fun K hK => ?_)
          refine goes_ Try.func37 (by kernel_rfl) rfl #[.pointer (some ⟨g294, 0, none⟩)] (by rfl) rfl rfl (by (try simp only [List.map_toArray, List.map_cons, List.map_nil]); first | done | rfl | (simp only [List.length_drop, List.length_take]; rfl)) ?_
          with_reducible refine (spec_l5Val.calls g294 t291 x295001_1 x295002_1 t314 t315 t316 w _ ?side1 ?side2 A18.out).mono ?_
          (case side1 => repeat (first | (with_reducible first | exact HI294.out | apply IsS56.alloc | apply IsS56.drewN | apply IsS56.drew | apply IsS56.set_1 | apply IsS56.set_2 | refine IsS56.far ?_ NB294_290.out _ | refine IsS56.far ?_ NB294_307.out _) | exact HI294.out))
          (case side2 => repeat (first | (with_reducible first | exact HB.out | apply below_alloc | apply pw_below_drewN | apply below_drew1 | refine below_set ?_ (IsS56.ge HI294.out) | refine below_set ?_ GE290.out | refine below_set ?_ GE307.out) | exact HB.out))
          rintro e w21 ⟨rfl, hi, hb, hk⟩
          refine ⟨_, rfl, ?_⟩
          have n0_ := Aside0.mk (KeepBut.blk hk (g' := gb290) (o := .cells #[.string (⟨#[]⟩ : ByteArray), .int .i64 0, .int .i64 0, .bool false, .int .i64 0, .int .i64 0, .int .i64 0, .int .i64 0, .int .i64 0, .int .i64 0] 31 (0, 0)) (by (with_reducible repeat (first | refine blk_drewN ?_ _ | refine blk_drew ?_ | refine blk_alloc ?_ _)); exact BK290.out) NB290_294.out (by simp))
          have n1_ := Aside0.mk (KeepBut.blk hk (g' := gb307) (o := .cells #[.string x308000_1, .int .i64 x308001_1, .int .i64 x308002_1, .bool x308003_1, .int .i64 x308004_1, .int .i64 x308005_1, .int .i64 x308006_1, .int .i64 x308007_1, .int .i64 x308008_1, .int .i64 x308009_1] 31 (0, 0)) (by (with_reducible repeat (first | refine blk_drewN ?_ _ | refine blk_drew ?_ | refine blk_alloc ?_ _)); exact BK307.out) NB307_294.out (by simp))
          have n2_ := Aside0.mk (hb)
          have n3_ := Aside0.mk (hi)
          clear BK290
          clear BK307
          clear HB
          clear HI294
          have BK290 := n0_
          have BK307 := n1_
          have HB := n2_
          have HI294 := n3_
          clear n0_ n1_ n2_ n3_
          (try clear hb)
          (try clear hb2)
          (try clear hk)
          (try clear hi)
          refine hK.out _ _ ⟨(blk_cell BK307.out 0).trans rfl, (blk_cell BK307.out 1).trans rfl, (blk_cell BK307.out 2).trans rfl, (blk_cell BK307.out 3).trans rfl, (blk_cell BK307.out 4).trans rfl, (blk_cell BK307.out 5).trans rfl, (blk_cell BK307.out 6).trans rfl, (blk_cell BK307.out 7).trans rfl, (blk_cell BK307.out 8).trans rfl, (blk_cell BK307.out 9).trans rfl⟩ (fun hHeld => ?_)
          clear hK K
          refine norm_ (a' := ?_) ?_ ?_
          rotate_left
          · show Act.put _ (some 22) _ = _
            simp only [Act.put, List.setIfInBounds_toArray, List.set_cons_zero, List.set_cons_succ, i64_w, i32_w]
            rfl
          refine one_ (i := 3) (N := some 23) #[true, true, true, true, false] rfl rfl (by kernel_rfl) (by decide) (fun K hK => ?_)
          refine goes_ Try.func18 (by kernel_rfl) rfl #[.agg #[.string x308000_1, .int .i64 x308001_1, .int .i64 x308002_1, .bool x308003_1, .int .i64 x308004_1, .int .i64 x308005_1, .int .i64 x308006_1, .int .i64 x308007_1, .int .i64 x308008_1, .int .i64 x308009_1], .int .i64 t314] (by rfl) rfl rfl (by (try simp only [List.map_toArray, List.map_cons, List.map_nil]); first | done | rfl | (simp only [List.length_drop, List.length_take]; rfl)) ?_
          with_reducible refine (spec_Sampled.calls k1 x308000_1 x308001_1 x308002_1 x308003_1 x308004_1 x308005_1 x308006_1 x308007_1 x308008_1 x308009_1 t314 t317 t318 t319 t320 t321 t322 t323 t324 t325 t326 _ A19.out).mono ?_
          rintro e w22 ⟨rfl, hb⟩
          refine ⟨_, rfl, ?_⟩
          have n0_ := Aside0.mk (blk_below (g := gb290) (o := .cells #[.string (⟨#[]⟩ : ByteArray), .int .i64 0, .int .i64 0, .bool false, .int .i64 0, .int .i64 0, .int .i64 0, .int .i64 0, .int .i64 0, .int .i64 0] 31 (0, 0)) (by (with_reducible repeat (first | refine blk_drewN ?_ _ | refine blk_drew ?_ | refine blk_alloc ?_ _)); exact BK290.out) hb)
          have n1_ := Aside0.mk (blk_below (g := gb307) (o := .cells #[.string x308000_1, .int .i64 x308001_1, .int .i64 x308002_1, .bool x308003_1, .int .i64 x308004_1, .int .i64 x308005_1, .int .i64 x308006_1, .int .i64 x308007_1, .int .i64 x308008_1, .int .i64 x308009_1] 31 (0, 0)) (by (with_reducible repeat (first | refine blk_drewN ?_ _ | refine blk_drew ?_ | refine blk_alloc ?_ _)); exact BK307.out) hb)
          have n2_ := Aside0.mk (IsS56.below (by repeat (first | (with_reducible first | exact HI294.out | apply IsS56.alloc | apply IsS56.drewN | apply IsS56.drew | apply IsS56.set_1 | apply IsS56.set_2 | refine IsS56.far ?_ NB294_290.out _ | refine IsS56.far ?_ NB294_307.out _) | exact HI294.out)) hb)
          have n3_ := Aside0.mk (below_step (by repeat (first | (with_reducible first | exact HB.out | apply below_alloc | apply pw_below_drewN | apply below_drew1 | refine below_set ?_ (IsS56.ge HI294.out) | refine below_set ?_ GE290.out | refine below_set ?_ GE307.out) | exact HB.out)) hb)
          clear BK290
          clear BK307
          clear HI294
          clear HB
          have BK290 := n0_
          have BK307 := n1_
          have HI294 := n2_
          have HB := n3_
          clear n0_ n1_ n2_ n3_
          (try clear hb)
          (try clear hb2)
          (try clear hk)
          (try clear hi)
          refine hK.out _ _ ⟨(blk_cell BK307.out 0).trans rfl, (blk_cell BK307.out 1).trans rfl, (blk_cell BK307.out 2).trans rfl, (blk_cell BK307.out 3).trans rfl, (blk_cell BK307.out 4).trans rfl, (blk_cell BK307.out 5).trans rfl, (blk_cell BK307.out 6).trans rfl, (blk_cell BK307.out 7).trans rfl, (blk_cell BK307.out 8).trans rfl, (blk_cell BK307.out 9).trans rfl⟩ (fun hHeld => ?_)
          clear hK K
          refine norm_ (a' := ?_) ?_ ?_
          rotate_left
          · show Act.put _ (some 23) _ = _
            simp only [Act.put, List.setIfInBounds_toArray, List.set_cons_zero, List.set_cons_succ, i64_w, i32_w]
            rfl
          refine last_ (i := 4) (N := none) #[true, true, true, true, true] rfl rfl (by kernel_rfl) (by decide) (fun K hK => ?_)
          have hs23 : w22.cell? ⟨gb307, 0, none⟩ = some (.string x308000_1) := (blk_cell BK307.out 0).trans rfl
          have hfs23 := blk_frozen BK307.out 0
          have hns23_0 := NB290_307.out
          have hms23_0 := NB307_290.out
          have hs24 : w22.cell? ⟨gb307, 1, none⟩ = some (.int .i64 x308001_1) := (blk_cell BK307.out 1).trans rfl
          have hfs24 := blk_frozen BK307.out 1
          have hns24_0 := NB290_307.out
          have hms24_0 := NB307_290.out
          have hs25 : w22.cell? ⟨gb307, 2, none⟩ = some (.int .i64 x308002_1) := (blk_cell BK307.out 2).trans rfl
          have hfs25 := blk_frozen BK307.out 2
          have hns25_0 := NB290_307.out
          have hms25_0 := NB307_290.out
          have hs26 : w22.cell? ⟨gb307, 3, none⟩ = some (.bool x308003_1) := (blk_cell BK307.out 3).trans rfl
          have hfs26 := blk_frozen BK307.out 3
          have hns26_0 := NB290_307.out
          have hms26_0 := NB307_290.out
          have hs27 : w22.cell? ⟨gb307, 4, none⟩ = some (.int .i64 x308004_1) := (blk_cell BK307.out 4).trans rfl
          have hfs27 := blk_frozen BK307.out 4
          have hns27_0 := NB290_307.out
          have hms27_0 := NB307_290.out
          have hs28 : w22.cell? ⟨gb307, 5, none⟩ = some (.int .i64 x308005_1) := (blk_cell BK307.out 5).trans rfl
          have hfs28 := blk_frozen BK307.out 5
          have hns28_0 := NB290_307.out
          have hms28_0 := NB307_290.out
          have hs29 : w22.cell? ⟨gb307, 6, none⟩ = some (.int .i64 x308006_1) := (blk_cell BK307.out 6).trans rfl
          have hfs29 := blk_frozen BK307.out 6
          have hns29_0 := NB290_307.out
          have hms29_0 := NB307_290.out
          have hs30 : w22.cell? ⟨gb307, 7, none⟩ = some (.int .i64 x308007_1) := (blk_cell BK307.out 7).trans rfl
          have hfs30 := blk_frozen BK307.out 7
          have hns30_0 := NB290_307.out
          have hms30_0 := NB307_290.out
          have hs31 : w22.cell? ⟨gb307, 8, none⟩ = some (.int .i64 x308008_1) := (blk_cell BK307.out 8).trans rfl
          have hfs31 := blk_frozen BK307.out 8
          have hns31_0 := NB290_307.out
          have hms31_0 := NB307_290.out
          have hs32 : w22.cell? ⟨gb307, 9, none⟩ = some (.int .i64 x308009_1) := (blk_cell BK307.out 9).trans rfl
          have hfs32 := blk_frozen BK307.out 9
          have hns32_0 := NB290_307.out
          have hms32_0 := NB307_290.out
          refine skip_ (w1 := ?_) (by rfl) rfl ?_ ?_
          rotate_left
          · go_simp
            rfl
          refine hK.out _ _ ?_
          clear hK K
          refine done_ (by kernel_rfl) ?_
          try go_wp2
          go_roundg k1
          case measure => have := HK1.out; omega
          case rel => exact ⟨(wrap64 (x6_1 - 1)), (t315), (t316), (t317), (t318), (t319), (t320), (t321), (t322), (t323), (t324), (t325), (t326), (by first | rfl | (simp; done) | (simp [*]; done)), H', ⟨by have := HK1.out; omega⟩, ⟨by (with_reducible repeat (first | refine blk_drewN ?_ _ | refine blk_drew ?_ | refine blk_alloc ?_ _)); refine blk_far ?_ NB290_307.out _; (with_reducible repeat (first | refine blk_drewN ?_ _ | refine blk_drew ?_ | refine blk_alloc ?_ _)); refine blk_far ?_ NB290_307.out _; (with_reducible repeat (first | refine blk_drewN ?_ _ | refine blk_drew ?_ | refine blk_alloc ?_ _)); refine blk_far ?_ NB290_307.out _; (with_reducible repeat (first | refine blk_drewN ?_ _ | refine blk_drew ?_ | refine blk_alloc ?_ _)); refine blk_far ?_ NB290_307.out _; (with_reducible repeat (first | refine blk_drewN ?_ _ | refine blk_drew ?_ | refine blk_alloc ?_ _)); refine blk_far ?_ NB290_307.out _; (with_reducible repeat (first | refine blk_drewN ?_ _ | refine blk_drew ?_ | refine blk_alloc ?_ _)); refine blk_far ?_ NB290_307.out _; (with_reducible repeat (first | refine blk_drewN ?_ _ | refine blk_drew ?_ | refine blk_alloc ?_ _)); refine blk_far ?_ NB290_307.out _; (with_reducible repeat (first | refine blk_drewN ?_ _ | refine blk_drew ?_ | refine blk_alloc ?_ _)); refine blk_far ?_ NB290_307.out _; (with_reducible repeat (first | refine blk_drewN ?_ _ | refine blk_drew ?_ | refine blk_alloc ?_ _)); refine blk_far ?_ NB290_307.out _; (with_reducible repeat (first | refine blk_drewN ?_ _ | refine blk_drew ?_ | refine blk_alloc ?_ _)); refine blk_far ?_ NB290_307.out _; (with_reducible repeat (first | refine blk_drewN ?_ _ | refine blk_drew ?_ | refine blk_alloc ?_ _)); exact BK290.out⟩, ⟨by (with_reducible repeat (first | refine blk_drewN ?_ _ | refine blk_drew ?_ | refine blk_alloc ?_ _)); apply blk_put10; (with_reducible repeat (first | refine blk_drewN ?_ _ | refine blk_drew ?_ | refine blk_alloc ?_ _)); exact BK307.out⟩, ⟨by repeat (first | (with_reducible first | exact HI294.out | apply IsS56.alloc | apply IsS56.drewN | apply IsS56.drew | apply IsS56.set_1 | apply IsS56.set_2 | refine IsS56.far ?_ NB294_290.out _ | refine IsS56.far ?_ NB294_307.out _) | exact HI294.out)⟩, ⟨by repeat (first | (with_reducible first | exact HB.out | apply below_alloc | apply pw_below_drewN | apply below_drew1 | refine below_set ?_ (IsS56.ge HI294.out) | refine below_set ?_ GE290.out | refine below_set ?_ GE307.out) | exact HB.out)⟩⟩
        · rw [if_neg c17] at H
          have c17b0 : decide (0 < x6_1) = false := decide_eq_false c17
          clear c17
          replace H := Option.bind_eq_some_iff.mp H
          obtain ⟨⟨t327, t328, t329⟩, A330, H⟩ := H
          replace H : ((spec_l1PickInt.f t291 t328 t329 (([0, 5, 65535, 65536, (-1), t327] : List Int))).bind fun bt333 => (some (x308000_1, x308001_1, x308002_1, x308003_1, x308004_1, x308005_1, x308006_1, x308007_1, x308008_1, x308009_1, bt333.1))) = some (r1, r2, r3, r4, r5, r6, r7, r8, r9, r10, r11) := H
          have A33 := Aside0.mk A330
          clear A330
          obtain ⟨y330, hy330⟩ : ∃ y_ : List Int, y_ = (([0, 5, 65535, 65536, (-1), t327] : List Int)) := ⟨_, rfl⟩
          replace H : ((spec_l1PickInt.f t291 t328 t329 y330).bind fun bt333 => (some (x308000_1, x308001_1, x308002_1, x308003_1, x308004_1, x308005_1, x308006_1, x308007_1, x308008_1, x308009_1, bt333.1))) = some (r1, r2, r3, r4, r5, r6, r7, r8, r9, r10, r11) := by first | (rw [hy330]; with_reducible exact H) | (have H2_ := (Option.bind_some _ _).symm.trans H; rw [hy330]; with_reducible exact H2_) | (have H2_ := (Option.bind_some _ _).symm.trans H; with_reducible exact H2_) | with_reducible exact H | (rw [hy330]; exact H) | exact H
          have Ny330 := Aside0.mk hy330
          clear hy330
          replace H := Option.bind_eq_some_iff.mp H
          obtain ⟨⟨t333, t334, t335⟩, A340, H⟩ := H
          replace H : (some (x308000_1, x308001_1, x308002_1, x308003_1, x308004_1, x308005_1, x308006_1, x308007_1, x308008_1, x308009_1, t333)) = some (r1, r2, r3, r4, r5, r6, r7, r8, r9, r10, r11) := H
          have A34 := Aside0.mk A340
          clear A340
          simp only [Option.some.injEq, Prod.mk.injEq] at H
          obtain ⟨rfl, rfl, rfl, rfl, rfl, rfl, rfl, rfl, rfl, rfl, rfl⟩ := H
          try go_wp2
          have n0_ := Aside0.mk (blk_drew BK290.out)
          have n1_ := Aside0.mk (blk_drew BK307.out)
          have n2_ := Aside0.mk (IsS56.drew HI294.out)
          have n3_ := Aside0.mk (below_drew1 HB.out)
          clear BK290
          clear BK307
          clear HI294
          clear HB
          have BK290 := n0_
          have BK307 := n1_
          have HI294 := n2_
          have HB := n3_
          clear n0_ n1_ n2_ n3_
          refine start_ (n := 8) (S := fun w' => w'.cell? ⟨gb307, 0, none⟩ = some (.string x308000_1) ∧ w'.cell? ⟨gb307, 1, none⟩ = some (.int .i64 x308001_1) ∧ w'.cell? ⟨gb307, 2, none⟩ = some (.int .i64 x308002_1) ∧ w'.cell? ⟨gb307, 3, none⟩ = some (.bool x308003_1) ∧ w'.cell? ⟨gb307, 4, none⟩ = some (.int .i64 x308004_1) ∧ w'.cell? ⟨gb307, 5, none⟩ = some (.int .i64 x308005_1) ∧ w'.cell? ⟨gb307, 6, none⟩ = some (.int .i64 x308006_1) ∧ w'.cell? ⟨gb307, 7, none⟩ = some (.int .i64 x308007_1) ∧ w'.cell? ⟨gb307, 8, none⟩ = some (.int .i64 x308008_1) ∧ w'.cell? ⟨gb307, 9, none⟩ = some (.int .i64 x308009_1)) (ds := []) #[false, false, false, false, false, false, false, false] (by kernel_rfl) rfl rfl ⟨(blk_cell BK307.out 0).trans rfl, (blk_cell BK307.out 1).trans rfl, (blk_cell BK307.out 2).trans rfl, (blk_cell BK307.out 3).trans rfl, (blk_cell BK307.out 4).trans rfl, (blk_cell BK307.out 5).trans rfl, (blk_cell BK307.out 6).trans rfl, (blk_cell BK307.out 7).trans rfl, (blk_cell BK307.out 8).trans rfl, (blk_cell BK307.out 9).trans rfl⟩ (fun hHeld => ?_); refine with_tabW spec_DrawSampled.tab9 spec_DrawSampled.bits9 (fun HT_ HW_ => ?_)
          generalize wr.drew = w35 at BK290 BK307 HI294 HB hHeld ⊢
          refine pure_ (i := 1) (N := some 25) (v := ?_) (a' := ?_) #[false, true, false, false, false, false, false, false] rfl rfl (any_of HT_.out (by kernel_rfl)) (fun _ _ _ h => h) (Or.inl ⟨by rfl, ?_⟩) ?_ ?_
          rotate_left
          · intro w'
            go_simp
            with_reducible rfl
          rotate_left
          · simp only [Act.put, List.setIfInBounds_toArray, List.set_cons_zero, List.set_cons_succ, i64_w, i32_w]
            rfl
          refine pure_ (i := 2) (N := some 26) (v := ?_) (a' := ?_) #[false, true, true, false, false, false, false, false] rfl rfl (any_of HT_.out (by kernel_rfl)) (fun _ _ _ h => h) (Or.inl ⟨by rfl, ?_⟩) ?_ ?_
          rotate_left
          · intro w'
            go_simp
            with_reducible rfl
          rotate_left
          · simp only [Act.put, List.setIfInBounds_toArray, List.set_cons_zero, List.set_cons_succ, i64_w, i32_w]
            rfl
          refine take_ (i := 0) (N := some 24) (v := ?_) (a' := ?_) #[true, true, true, false, false, false, false, false] rfl rfl (take_ofW HT_.out HW_.out (by kernel_rfl)) (fun _ _ _ h => h) (Or.inl ⟨by rfl, ?_⟩) hHeld ?_ ?_
          rotate_left
          · rintro w' ⟨s0, s1, s2, s3, s4, s5, s6, s7, s8, s9⟩
            go_simp
            with_reducible rfl
          rotate_left
          · simp only [Act.put, List.setIfInBounds_toArray, List.set_cons_zero, List.set_cons_succ, i64_w, i32_w]
            rfl
          refine one_ (i := 3) (N := some 27) #[true, true, true, true, false, false, false, false] rfl rfl (one_of HT_.out (by kernel_rfl)) (by decide) (fun K hK => ?_)
          refine goes_ Try.func36 (by kernel_rfl) rfl #[.pointer (some ⟨g294, 0, none⟩), .int .i64 900] (by rfl) rfl rfl (by (try simp only [List.map_toArray, List.map_cons, List.map_nil]); first | done | rfl | (simp only [List.length_drop, List.length_take]; rfl)) ?_
          with_reducible refine (spec_l1Below.calls g294 t291 x295001_1 x295002_1 900 t327 t328 t329 w _ ?side1 ?side2 A33.out).mono ?_
          (case side1 => repeat (first | (with_reducible first | exact HI294.out | apply IsS56.alloc | apply IsS56.drewN | apply IsS56.drew | apply IsS56.set_1 | apply IsS56.set_2 | refine IsS56.far ?_ NB294_290.out _ | refine IsS56.far ?_ NB294_307.out _) | exact HI294.out))
          (case side2 => repeat (first | (with_reducible first | exact HB.out | apply below_alloc | apply pw_below_drewN | apply below_drew1 | refine below_set ?_ (IsS56.ge HI294.out) | refine below_set ?_ GE290.out | refine below_set ?_ GE307.out) | exact HB.out))
          rintro e w36 ⟨rfl, hi, hb, hk⟩
          refine ⟨_, rfl, ?_⟩
          have n0_ := Aside0.mk (KeepBut.blk hk (g' := gb290) (o := .cells #[.string (⟨#[]⟩ : ByteArray), .int .i64 0, .int .i64 0, .bool false, .int .i64 0, .int .i64 0, .int .i64 0, .int .i64 0, .int .i64 0, .int .i64 0] 31 (0, 0)) (by (with_reducible repeat (first | refine blk_drewN ?_ _ | refine blk_drew ?_ | refine blk_alloc ?_ _)); exact BK290.out) NB290_294.out (by simp))
          have n1_ := Aside0.mk (KeepBut.blk hk (g' := gb307) (o := .cells #[.string x308000_1, .int .i64 x308001_1, .int .i64 x308002_1, .bool x308003_1, .int .i64 x308004_1, .int .i64 x308005_1, .int .i64 x308006_1, .int .i64 x308007_1, .int .i64 x308008_1, .int .i64 x308009_1] 31 (0, 0)) (by (with_reducible repeat (first | refine blk_drewN ?_ _ | refine blk_drew ?_ | refine blk_alloc ?_ _)); exact BK307.out) NB307_294.out (by simp))
          have n2_ := Aside0.mk (hb)
          have n3_ := Aside0.mk (hi)
          clear BK290
          clear BK307
          clear HB
          clear HI294
          have BK290 := n0_
          have BK307 := n1_
          have HB := n2_
          have HI294 := n3_
          clear n0_ n1_ n2_ n3_
          (try clear hb)
          (try clear hb2)
          (try clear hk)
          (try clear hi)
          refine hK.out _ _ ⟨(blk_cell BK307.out 0).trans rfl, (blk_cell BK307.out 1).trans rfl, (blk_cell BK307.out 2).trans rfl, (blk_cell BK307.out 3).trans rfl, (blk_cell BK307.out 4).trans rfl, (blk_cell BK307.out 5).trans rfl, (blk_cell BK307.out 6).trans rfl, (blk_cell BK307.out 7).trans rfl, (blk_cell BK307.out 8).trans rfl, (blk_cell BK307.out 9).trans rfl⟩ (fun hHeld => ?_)
          clear hK K
          refine norm_ (a' := ?_) ?_ ?_
          rotate_left
          · show Act.put _ (some 27) _ = _
            simp only [Act.put, List.setIfInBounds_toArray, List.set_cons_zero, List.set_cons_succ, i64_w, i32_w]
            rfl
          refine one_ (i := 4) (N := some 28) #[true, true, true, true, true, false, false, false] rfl rfl (one_of HT_.out (by kernel_rfl)) (by decide) (fun K hK => ?_)
          refine Kd.R_lit_step (Kd.int .i64) _ 3 ?hg (N := 28) ?hd (xs := ([0, 5, 65535, 65536, (-1), t327] : List Int)) (inner := [.int .i64 0, .int .i64 5, .int .i64 65535, .int .i64 65536, .int .i64 (-1), .int .i64 t327]) (ok := fun _ => True) (okp := fun _ => True) ?hr ?hp (fun _ hk => hk) trivial (Below.refl _ _) (Nat.le_refl _) (by simp) ?_; (case hd => rfl); (case hg => rfl); (case hr => first | (go_simp; done) | (go_simp; rfl)); (case hp => exact (Reps.one (show Kd.M (Kd.int .i64) _ _ _ 0 [.int .i64 0] from rfl) (Reps.one (show Kd.M (Kd.int .i64) _ _ _ 5 [.int .i64 5] from rfl) (Reps.one (show Kd.M (Kd.int .i64) _ _ _ 65535 [.int .i64 65535] from rfl) (Reps.one (show Kd.M (Kd.int .i64) _ _ _ 65536 [.int .i64 65536] from rfl) (Reps.one (show Kd.M (Kd.int .i64) _ _ _ (-1) [.int .i64 (-1)] from rfl) (Reps.one (show Kd.M (Kd.int .i64) _ _ _ t327 [.int .i64 t327] from rfl) (Reps.none _ _))))))))
          intro v331 w37 ho38 hb hg_ hnew_
          clear hg_ hnew_
          (first | rw [← Ny330.out] at ho38 | (simp only [Int.reduceToNat] at ho38; rw [← Ny330.out] at ho38))
          have n0_ := Aside0.mk (Kd.R_lower ho38 (below_size (by repeat (first | (with_reducible first | exact HB.out | apply below_alloc | apply pw_below_drewN | apply below_drew1 | refine below_set ?_ (IsS56.ge HI294.out) | refine below_set ?_ GE290.out | refine below_set ?_ GE307.out) | exact HB.out))))
          have n1_ := Aside0.mk (blk_below (g := gb290) (o := .cells #[.string (⟨#[]⟩ : ByteArray), .int .i64 0, .int .i64 0, .bool false, .int .i64 0, .int .i64 0, .int .i64 0, .int .i64 0, .int .i64 0, .int .i64 0] 31 (0, 0)) (by (with_reducible repeat (first | refine blk_drewN ?_ _ | refine blk_drew ?_ | refine blk_alloc ?_ _)); exact BK290.out) hb)
          have n2_ := Aside0.mk (blk_below (g := gb307) (o := .cells #[.string x308000_1, .int .i64 x308001_1, .int .i64 x308002_1, .bool x308003_1, .int .i64 x308004_1, .int .i64 x308005_1, .int .i64 x308006_1, .int .i64 x308007_1, .int .i64 x308008_1, .int .i64 x308009_1] 31 (0, 0)) (by (with_reducible repeat (first | refine blk_drewN ?_ _ | refine blk_drew ?_ | refine blk_alloc ?_ _)); exact BK307.out) hb)
          have n3_ := Aside0.mk (IsS56.below (by repeat (first | (with_reducible first | exact HI294.out | apply IsS56.alloc | apply IsS56.drewN | apply IsS56.drew | apply IsS56.set_1 | apply IsS56.set_2 | refine IsS56.far ?_ NB294_290.out _ | refine IsS56.far ?_ NB294_307.out _) | exact HI294.out)) hb)
          have n4_ := Aside0.mk (below_step (by repeat (first | (with_reducible first | exact HB.out | apply below_alloc | apply pw_below_drewN | apply below_drew1 | refine below_set ?_ (IsS56.ge HI294.out) | refine below_set ?_ GE290.out | refine below_set ?_ GE307.out) | exact HB.out)) hb)
          clear BK290
          clear BK307
          clear HI294
          clear HB
          have HO332 := n0_
          have BK290 := n1_
          have BK307 := n2_
          have HI294 := n3_
          have HB := n4_
          clear n0_ n1_ n2_ n3_ n4_
          clear hb ho38
          obtain ⟨Ao39, co39, eo39⟩ := Kd.R_slice HO332.out
          (first | subst eo39 | (injection eo39 with f1_ f2_ f3_; have f4_ := f1_.symm; have f5_ := f3_.symm; clear f1_ f2_ f3_; subst f4_; subst f5_))
          refine hK.out _ _ ⟨(blk_cell BK307.out 0).trans rfl, (blk_cell BK307.out 1).trans rfl, (blk_cell BK307.out 2).trans rfl, (blk_cell BK307.out 3).trans rfl, (blk_cell BK307.out 4).trans rfl, (blk_cell BK307.out 5).trans rfl, (blk_cell BK307.out 6).trans rfl, (blk_cell BK307.out 7).trans rfl, (blk_cell BK307.out 8).trans rfl, (blk_cell BK307.out 9).trans rfl⟩ (fun hHeld => ?_)
          clear hK K
          refine norm_ (a' := ?_) ?_ ?_
          rotate_left
          · show Act.put _ (some 28) _ = _
            simp only [Act.put, List.setIfInBounds_toArray, List.set_cons_zero, List.set_cons_succ, i64_w, i32_w]
            rfl
          refine one_ (i := 5) (N := some 29) #[true, true, true, true, true, true, false, false] rfl rfl (one_of HT_.out (by kernel_rfl)) (by decide) (fun K hK => ?_)
          refine goes_ Try.func38 (by kernel_rfl) rfl #[.pointer (some ⟨g294, 0, none⟩), .slice Ao39 y330.length co39] (by rfl) rfl rfl (by (try simp only [List.map_toArray, List.map_cons, List.map_nil]); first | done | rfl | (simp only [List.length_drop, List.length_take]; rfl)) ?_
          with_reducible refine (spec_l1PickInt.calls g294 t291 t328 t329 _ _ y330 t333 t334 t335 w _ ?side1 ?side2 ?side3 ?side4 ?side5 A34.out).mono ?_
          (case side1 => repeat (first | (with_reducible first | exact HI294.out | apply IsS56.alloc | apply IsS56.drewN | apply IsS56.drew | apply IsS56.set_1 | apply IsS56.set_2 | refine IsS56.far ?_ NB294_290.out _ | refine IsS56.far ?_ NB294_307.out _) | exact HI294.out))
          (case side2 => repeat (first | (with_reducible first | exact HB.out | apply below_alloc | apply pw_below_drewN | apply below_drew1 | refine below_set ?_ (IsS56.ge HI294.out) | refine below_set ?_ GE290.out | refine below_set ?_ GE307.out) | exact HB.out))
          (case side3 => repeat (first | exact (Kd.R_reads' HO332.out).2.2 | (with_reducible refine Kd.C_alloc ?_ _) | (with_reducible refine Kd.C_drewN ?_ _) | (with_reducible refine Kd.C_drew ?_)))
          (case side4 => exact (Kd.R_reads' HO332.out).2.1)
          (case side5 => exact far_slice (IsS56.own_ne HI294.out HO332.out (by decide)))
          rintro e w40 ⟨rfl, hi, hb, hk⟩
          refine ⟨_, rfl, ?_⟩
          have n0_ := Aside0.mk (KeepBut.blk hk (g' := gb290) (o := .cells #[.string (⟨#[]⟩ : ByteArray), .int .i64 0, .int .i64 0, .bool false, .int .i64 0, .int .i64 0, .int .i64 0, .int .i64 0, .int .i64 0, .int .i64 0] 31 (0, 0)) (by (with_reducible repeat (first | refine blk_drewN ?_ _ | refine blk_drew ?_ | refine blk_alloc ?_ _)); exact BK290.out) NB290_294.out (by simp))
          have n1_ := Aside0.mk (KeepBut.blk hk (g' := gb307) (o := .cells #[.string x308000_1, .int .i64 x308001_1, .int .i64 x308002_1, .bool x308003_1, .int .i64 x308004_1, .int .i64 x308005_1, .int .i64 x308006_1, .int .i64 x308007_1, .int .i64 x308008_1, .int .i64 x308009_1] 31 (0, 0)) (by (with_reducible repeat (first | refine blk_drewN ?_ _ | refine blk_drew ?_ | refine blk_alloc ?_ _)); exact BK307.out) NB307_294.out (by simp))
          have n2_ := Aside0.mk (Kd.R_mono (Kd.R_keep (IsS56.apart (show IsS56 w _ g294 t291 t328 t329 from by repeat (first | (with_reducible first | exact HI294.out | apply IsS56.alloc | apply IsS56.drewN | apply IsS56.drew | apply IsS56.set_1 | apply IsS56.set_2 | refine IsS56.far ?_ NB294_290.out _ | refine IsS56.far ?_ NB294_307.out _) | exact HI294.out)) (by (with_reducible repeat (first | apply Kd.R_alloc | apply Kd.R_drewN | apply Kd.R_drew)); exact HO332.out) (by decide)) hk (fun _ h => h.2)) (fun _ h => h.1))
          have n3_ := Aside0.mk (hb)
          have n4_ := Aside0.mk (hi)
          clear BK290
          clear BK307
          clear HO332
          clear HB
          clear HI294
          have BK290 := n0_
          have BK307 := n1_
          have HO332 := n2_
          have HB := n3_
          have HI294 := n4_
          clear n0_ n1_ n2_ n3_ n4_
          (try clear hb)
          (try clear hb2)
          (try clear hk)
          (try clear hi)
          refine hK.out _ _ ⟨(blk_cell BK307.out 0).trans rfl, (blk_cell BK307.out 1).trans rfl, (blk_cell BK307.out 2).trans rfl, (blk_cell BK307.out 3).trans rfl, (blk_cell BK307.out 4).trans rfl, (blk_cell BK307.out 5).trans rfl, (blk_cell BK307.out 6).trans rfl, (blk_cell BK307.out 7).trans rfl, (blk_cell BK307.out 8).trans rfl, (blk_cell BK307.out 9).trans rfl⟩ (fun hHeld => ?_)
          clear hK K
          refine norm_ (a' := ?_) ?_ ?_
          rotate_left
          · show Act.put _ (some 29) _ = _
            simp only [Act.put, List.setIfInBounds_toArray, List.set_cons_zero, List.set_cons_succ, i64_w, i32_w]
            rfl
          refine one_ (i := 6) (N := none) #[true, true, true, true, true, true, true, false] rfl rfl (one_of HT_.out (by kernel_rfl)) (by decide) (fun K hK => ?_)
          have hs41 : w40.cell? ⟨gb290, 0, none⟩ = some (.string (⟨#[]⟩ : ByteArray)) := (blk_cell BK290.out 0).trans rfl
          have hfs41 := blk_frozen BK290.out 0
          have hns41_1 := NB307_290.out
          have hms41_1 := NB290_307.out
          have hs42 : w40.cell? ⟨gb290, 1, none⟩ = some (.int .i64 0) := (blk_cell BK290.out 1).trans rfl
          have hfs42 := blk_frozen BK290.out 1
          have hns42_1 := NB307_290.out
          have hms42_1 := NB290_307.out
          have hs43 : w40.cell? ⟨gb290, 2, none⟩ = some (.int .i64 0) := (blk_cell BK290.out 2).trans rfl
          have hfs43 := blk_frozen BK290.out 2
          have hns43_1 := NB307_290.out
          have hms43_1 := NB290_307.out
          have hs44 : w40.cell? ⟨gb290, 3, none⟩ = some (.bool false) := (blk_cell BK290.out 3).trans rfl
          have hfs44 := blk_frozen BK290.out 3
          have hns44_1 := NB307_290.out
          have hms44_1 := NB290_307.out
          have hs45 : w40.cell? ⟨gb290, 4, none⟩ = some (.int .i64 0) := (blk_cell BK290.out 4).trans rfl
          have hfs45 := blk_frozen BK290.out 4
          have hns45_1 := NB307_290.out
          have hms45_1 := NB290_307.out
          have hs46 : w40.cell? ⟨gb290, 5, none⟩ = some (.int .i64 0) := (blk_cell BK290.out 5).trans rfl
          have hfs46 := blk_frozen BK290.out 5
          have hns46_1 := NB307_290.out
          have hms46_1 := NB290_307.out
          have hs47 : w40.cell? ⟨gb290, 6, none⟩ = some (.int .i64 0) := (blk_cell BK290.out 6).trans rfl
          have hfs47 := blk_frozen BK290.out 6
          have hns47_1 := NB307_290.out
          have hms47_1 := NB290_307.out
          have hs48 : w40.cell? ⟨gb290, 7, none⟩ = some (.int .i64 0) := (blk_cell BK290.out 7).trans rfl
          have hfs48 := blk_frozen BK290.out 7
          have hns48_1 := NB307_290.out
          have hms48_1 := NB290_307.out
          have hs49 : w40.cell? ⟨gb290, 8, none⟩ = some (.int .i64 0) := (blk_cell BK290.out 8).trans rfl
          have hfs49 := blk_frozen BK290.out 8
          have hns49_1 := NB307_290.out
          have hms49_1 := NB290_307.out
          have hs50 : w40.cell? ⟨gb290, 9, none⟩ = some (.int .i64 0) := (blk_cell BK290.out 9).trans rfl
          have hfs50 := blk_frozen BK290.out 9
          have hns50_1 := NB307_290.out
          have hms50_1 := NB290_307.out
          refine skip_ (w1 := ?_) (by rfl) rfl ?_ ?_
          rotate_left
          · go_simp
            rfl
          refine hK.out _ _ ⟨((cell_far (p := ⟨gb290, _, none⟩) NB307_290.out _).trans (((cell_far (p := ⟨gb290, _, none⟩) NB307_290.out _).trans (((cell_far (p := ⟨gb290, _, none⟩) NB307_290.out _).trans (((cell_far (p := ⟨gb290, _, none⟩) NB307_290.out _).trans (((cell_far (p := ⟨gb290, _, none⟩) NB307_290.out _).trans (((cell_far (p := ⟨gb290, _, none⟩) NB307_290.out _).trans (((cell_far (p := ⟨gb290, _, none⟩) NB307_290.out _).trans (((cell_far (p := ⟨gb290, _, none⟩) NB307_290.out _).trans (((cell_far (p := ⟨gb290, _, none⟩) NB307_290.out _).trans (((cell_far (p := ⟨gb290, _, none⟩) NB307_290.out _).trans (hHeld.1)))))))))))))))))))), ((cell_far (p := ⟨gb290, _, none⟩) NB307_290.out _).trans (((cell_far (p := ⟨gb290, _, none⟩) NB307_290.out _).trans (((cell_far (p := ⟨gb290, _, none⟩) NB307_290.out _).trans (((cell_far (p := ⟨gb290, _, none⟩) NB307_290.out _).trans (((cell_far (p := ⟨gb290, _, none⟩) NB307_290.out _).trans (((cell_far (p := ⟨gb290, _, none⟩) NB307_290.out _).trans (((cell_far (p := ⟨gb290, _, none⟩) NB307_290.out _).trans (((cell_far (p := ⟨gb290, _, none⟩) NB307_290.out _).trans (((cell_far (p := ⟨gb290, _, none⟩) NB307_290.out _).trans (((cell_far (p := ⟨gb290, _, none⟩) NB307_290.out _).trans (hHeld.2.1)))))))))))))))))))), ((cell_far (p := ⟨gb290, _, none⟩) NB307_290.out _).trans (((cell_far (p := ⟨gb290, _, none⟩) NB307_290.out _).trans (((cell_far (p := ⟨gb290, _, none⟩) NB307_290.out _).trans (((cell_far (p := ⟨gb290, _, none⟩) NB307_290.out _).trans (((cell_far (p := ⟨gb290, _, none⟩) NB307_290.out _).trans (((cell_far (p := ⟨gb290, _, none⟩) NB307_290.out _).trans (((cell_far (p := ⟨gb290, _, none⟩) NB307_290.out _).trans (((cell_far (p := ⟨gb290, _, none⟩) NB307_290.out _).trans (((cell_far (p := ⟨gb290, _, none⟩) NB307_290.out _).trans (((cell_far (p := ⟨gb290, _, none⟩) NB307_290.out _).trans (hHeld.2.2.1)))))))))))))))))))), ((cell_far (p := ⟨gb290, _, none⟩) NB307_290.out _).trans (((cell_far (p := ⟨gb290, _, none⟩) NB307_290.out _).trans (((cell_far (p := ⟨gb290, _, none⟩) NB307_290.out _).trans (((cell_far (p := ⟨gb290, _, none⟩) NB307_290.out _).trans (((cell_far (p := ⟨gb290, _, none⟩) NB307_290.out _).trans (((cell_far (p := ⟨gb290, _, none⟩) NB307_290.out _).trans (((cell_far (p := ⟨gb290, _, none⟩) NB307_290.out _).trans (((cell_far (p := ⟨gb290, _, none⟩) NB307_290.out _).trans (((cell_far (p := ⟨gb290, _, none⟩) NB307_290.out _).trans (((cell_far (p := ⟨gb290, _, none⟩) NB307_290.out _).trans (hHeld.2.2.2.1)))))))))))))))))))), ((cell_far (p := ⟨gb290, _, none⟩) NB307_290.out _).trans (((cell_far (p := ⟨gb290, _, none⟩) NB307_290.out _).trans (((cell_far (p := ⟨gb290, _, none⟩) NB307_290.out _).trans (((cell_far (p := ⟨gb290, _, none⟩) NB307_290.out _).trans (((cell_far (p := ⟨gb290, _, none⟩) NB307_290.out _).trans (((cell_far (p := ⟨gb290, _, none⟩) NB307_290.out _).trans (((cell_far (p := ⟨gb290, _, none⟩) NB307_290.out _).trans (((cell_far (p := ⟨gb290, _, none⟩) NB307_290.out _).trans (((cell_far (p := ⟨gb290, _, none⟩) NB307_290.out _).trans (((cell_far (p := ⟨gb290, _, none⟩) NB307_290.out _).trans (hHeld.2.2.2.2.1)))))))))))))))))))), ((cell_far (p := ⟨gb290, _, none⟩) NB307_290.out _).trans (((cell_far (p := ⟨gb290, _, none⟩) NB307_290.out _).trans (((cell_far (p := ⟨gb290, _, none⟩) NB307_290.out _).trans (((cell_far (p := ⟨gb290, _, none⟩) NB307_290.out _).trans (((cell_far (p := ⟨gb290, _, none⟩) NB307_290.out _).trans (((cell_far (p := ⟨gb290, _, none⟩) NB307_290.out _).trans (((cell_far (p := ⟨gb290, _, none⟩) NB307_290.out _).trans (((cell_far (p := ⟨gb290, _, none⟩) NB307_290.out _).trans (((cell_far (p := ⟨gb290, _, none⟩) NB307_290.out _).trans (((cell_far (p := ⟨gb290, _, none⟩) NB307_290.out _).trans (hHeld.2.2.2.2.2.1)))))))))))))))))))), ((cell_far (p := ⟨gb290, _, none⟩) NB307_290.out _).trans (((cell_far (p := ⟨gb290, _, none⟩) NB307_290.out _).trans (((cell_far (p := ⟨gb290, _, none⟩) NB307_290.out _).trans (((cell_far (p := ⟨gb290, _, none⟩) NB307_290.out _).trans (((cell_far (p := ⟨gb290, _, none⟩) NB307_290.out _).trans (((cell_far (p := ⟨gb290, _, none⟩) NB307_290.out _).trans (((cell_far (p := ⟨gb290, _, none⟩) NB307_290.out _).trans (((cell_far (p := ⟨gb290, _, none⟩) NB307_290.out _).trans (((cell_far (p := ⟨gb290, _, none⟩) NB307_290.out _).trans (((cell_far (p := ⟨gb290, _, none⟩) NB307_290.out _).trans (hHeld.2.2.2.2.2.2.1)))))))))))))))))))), ((cell_far (p := ⟨gb290, _, none⟩) NB307_290.out _).trans (((cell_far (p := ⟨gb290, _, none⟩) NB307_290.out _).trans (((cell_far (p := ⟨gb290, _, none⟩) NB307_290.out _).trans (((cell_far (p := ⟨gb290, _, none⟩) NB307_290.out _).trans (((cell_far (p := ⟨gb290, _, none⟩) NB307_290.out _).trans (((cell_far (p := ⟨gb290, _, none⟩) NB307_290.out _).trans (((cell_far (p := ⟨gb290, _, none⟩) NB307_290.out _).trans (((cell_far (p := ⟨gb290, _, none⟩) NB307_290.out _).trans (((cell_far (p := ⟨gb290, _, none⟩) NB307_290.out _).trans (((cell_far (p := ⟨gb290, _, none⟩) NB307_290.out _).trans (hHeld.2.2.2.2.2.2.2.1)))))))))))))))))))), ((cell_far (p := ⟨gb290, _, none⟩) NB307_290.out _).trans (((cell_far (p := ⟨gb290, _, none⟩) NB307_290.out _).trans (((cell_far (p := ⟨gb290, _, none⟩) NB307_290.out _).trans (((cell_far (p := ⟨gb290, _, none⟩) NB307_290.out _).trans (((cell_far (p := ⟨gb290, _, none⟩) NB307_290.out _).trans (((cell_far (p := ⟨gb290, _, none⟩) NB307_290.out _).trans (((cell_far (p := ⟨gb290, _, none⟩) NB307_290.out _).trans (((cell_far (p := ⟨gb290, _, none⟩) NB307_290.out _).trans (((cell_far (p := ⟨gb290, _, none⟩) NB307_290.out _).trans (((cell_far (p := ⟨gb290, _, none⟩) NB307_290.out _).trans (hHeld.2.2.2.2.2.2.2.2.1)))))))))))))))))))), ((cell_far (p := ⟨gb290, _, none⟩) NB307_290.out _).trans (((cell_far (p := ⟨gb290, _, none⟩) NB307_290.out _).trans (((cell_far (p := ⟨gb290, _, none⟩) NB307_290.out _).trans (((cell_far (p := ⟨gb290, _, none⟩) NB307_290.out _).trans (((cell_far (p := ⟨gb290, _, none⟩) NB307_290.out _).trans (((cell_far (p := ⟨gb290, _, none⟩) NB307_290.out _).trans (((cell_far (p := ⟨gb290, _, none⟩) NB307_290.out _).trans (((cell_far (p := ⟨gb290, _, none⟩) NB307_290.out _).trans (((cell_far (p := ⟨gb290, _, none⟩) NB307_290.out _).trans (((cell_far (p := ⟨gb290, _, none⟩) NB307_290.out _).trans (hHeld.2.2.2.2.2.2.2.2.2))))))))))))))))))))⟩ (fun hHeld => ?_)
          clear hK K
          refine pure_ (i := 7) (N := some 3) (v := ?_) (a' := ?_) #[true, true, true, true, true, true, true, true] rfl rfl (any_of HT_.out (by kernel_rfl)) (fun _ _ _ h => h) (Or.inl ⟨by rfl, ?_⟩) ?_ ?_
          rotate_left
          · intro w'
            go_simp
            with_reducible rfl
          rotate_left
          · simp only [Act.put, List.setIfInBounds_toArray, List.set_cons_zero, List.set_cons_succ, i64_w, i32_w]
            rfl
          refine done_ (done_of HT_.out (by kernel_rfl)) ?_
          try go_wp2
          refine bodyPost_ret (results_ct rfl _ _ gb290 31 #[.string x308000_1, .int .i64 x308001_1, .int .i64 x308002_1, .bool x308003_1, .int .i64 x308004_1, .int .i64 x308005_1, .int .i64 x308006_1, .int .i64 x308007_1, .int .i64 x308008_1, .int .i64 x308009_1] (0, 0) _ rfl (by (with_reducible repeat (first | refine blk_drewN ?_ _ | refine blk_drew ?_ | refine blk_alloc ?_ _)); apply blk_put10; (with_reducible repeat (first | refine blk_drewN ?_ _ | refine blk_drew ?_ | refine blk_alloc ?_ _)); exact BK290.out) Try.underlying31 rfl (by kernel_rfl)) rfl ?_
          exact ⟨by first | rfl | (simp [errW_none, errW_some] <;> rfl) | (simp [*, errW_none, errW_some] <;> rfl), by repeat (first | (with_reducible first | exact HB.out | apply below_alloc | apply pw_below_drewN | apply below_drew1 | refine below_set ?_ (IsS56.ge HI294.out) | refine below_set ?_ GE290.out | refine below_set ?_ GE307.out) | exact HB.out)⟩
  · replace c5 := Bool.eq_false_iff.mpr c5
    subst c5
    have H1 : ((spec_l1Below.f t291 t309 t310 900).bind fun bt336 => ((spec_l1PickInt.f t291 bt336.2.1 bt336.2.2 (([0, 5, 65535, 65536, (-1), bt336.1] : List Int))).bind fun bt342 => (some (t295, t296, t297, t298, t299, t300, t301, t302, t303, t304, bt342.1)))) = some (r1, r2, r3, r4, r5, r6, r7, r8, r9, r10, r11) := by rw [if_neg (show ¬ (false = true) by decide)] at H; exact H
    clear H
    have H := H1
    clear H1
    replace H := Option.bind_eq_some_iff.mp H
    obtain ⟨⟨t336, t337, t338⟩, A510, H⟩ := H
    replace H : ((spec_l1PickInt.f t291 t337 t338 (([0, 5, 65535, 65536, (-1), t336] : List Int))).bind fun bt342 => (some (t295, t296, t297, t298, t299, t300, t301, t302, t303, t304, bt342.1))) = some (r1, r2, r3, r4, r5, r6, r7, r8, r9, r10, r11) := H
    have A51 := Aside0.mk A510
    clear A510
    obtain ⟨y339, hy339⟩ : ∃ y_ : List Int, y_ = (([0, 5, 65535, 65536, (-1), t336] : List Int)) := ⟨_, rfl⟩
    replace H : ((spec_l1PickInt.f t291 t337 t338 y339).bind fun bt342 => (some (t295, t296, t297, t298, t299, t300, t301, t302, t303, t304, bt342.1))) = some (r1, r2, r3, r4, r5, r6, r7, r8, r9, r10, r11) := by first | (rw [hy339]; with_reducible exact H) | (have H2_ := (Option.bind_some _ _).symm.trans H; rw [hy339]; with_reducible exact H2_) | (have H2_ := (Option.bind_some _ _).symm.trans H; with_reducible exact H2_) | with_reducible exact H | (rw [hy339]; exact H) | exact H
    have Ny339 := Aside0.mk hy339
    clear hy339
    replace H := Option.bind_eq_some_iff.mp H
    obtain ⟨⟨t342, t343, t344⟩, A520, H⟩ := H
    replace H : (some (t295, t296, t297, t298, t299, t300, t301, t302, t303, t304, t342)) = some (r1, r2, r3, r4, r5, r6, r7, r8, r9, r10, r11) := H
    have A52 := Aside0.mk A520
    clear A520
    simp only [Option.some.injEq, Prod.mk.injEq] at H
    obtain ⟨rfl, rfl, rfl, rfl, rfl, rfl, rfl, rfl, rfl, rfl, rfl⟩ := H
    go_enter Try.func23, Try.ntmps23
    try go_wp2_with (first | ((with_reducible refine gate_dst (N := 2) rfl ?_); refine box_event ?hg (N := 2) ?hd (cs := #[.string (⟨#[]⟩ : ByteArray), .int .i64 0, .int .i64 0, .bool false, .int .i64 0, .int .i64 0, .int .i64 0, .int .i64 0, .int .i64 0, .int .i64 0]) (t := 31) ?hr ?_; (case hd => rfl); (case hg => rfl); (case hr => first | (go_simp; done) | (go_simp; rfl)); intro gb290 hg w53 hbox hb; have n0_ := Aside0.mk (below_step (by repeat (first | (with_reducible first | exact HB.out | apply below_alloc | apply pw_below_drewN | apply below_drew1) | exact HB.out)) hb); have n1_ := Aside0.mk (hbox); have n2_ := Aside0.mk ((by rw [hg]; exact (below_size (by repeat (first | (with_reducible first | exact HB.out | apply below_alloc | apply pw_below_drewN | apply below_drew1) | exact HB.out))) : w.heap.size ≤ gb290)); have n3_ := Aside0.mk ((by rw [hg]; exact (below_size (by repeat (first | (with_reducible first | exact HB.out | apply below_alloc | apply pw_below_drewN | apply below_drew1) | exact HB.out))) : w.heap.size ≤ gb290)); clear HB; have HB := n0_; have BK290 := n1_; have GW290 := n2_; have GE290 := n3_; clear n0_ n1_ n2_ n3_; clear hb hbox hg) | ((with_reducible refine gate_callee (f := 33) rfl ?_); refine goesL_ (some 8) rfl rfl Try.func33 (by kernel_rfl) rfl #[.slice A0 l0.length c0] rfl (by (try simp only [List.map_toArray, List.map_cons, List.map_nil]); first | done | rfl | (simp only [List.length_drop, List.length_take]; rfl)) ?_; (with_reducible refine (spec_l1New.calls k _ _ l0 t291 t292 t293 w _ ?side1 ?side2 ?side3 A2.out).mono ?_); (case side1 => repeat (first | (with_reducible first | exact HB.out | apply below_alloc | apply pw_below_drewN | apply below_drew1 | refine below_set ?_ GE290.out) | exact HB.out)); (case side2 => exact HR0.out); (case side3 => exact HC0.out); rintro e w54 ⟨g294, rfl, hi, hb, hb2⟩; refine ⟨_, rfl, ?_⟩; have n0_ := Aside0.mk (blk_below (g := gb290) (o := .cells #[.string (⟨#[]⟩ : ByteArray), .int .i64 0, .int .i64 0, .bool false, .int .i64 0, .int .i64 0, .int .i64 0, .int .i64 0, .int .i64 0, .int .i64 0] 31 (0, 0)) (by (with_reducible repeat (first | refine blk_drewN ?_ _ | refine blk_drew ?_ | refine blk_alloc ?_ _)); exact BK290.out) hb2); have n1_ := Aside0.mk (hb); have n2_ := Aside0.mk (hi); have n3_ := Aside0.mk (IsS56.ne_blk hi (blk_below (g := gb290) (o := .cells #[.string (⟨#[]⟩ : ByteArray), .int .i64 0, .int .i64 0, .bool false, .int .i64 0, .int .i64 0, .int .i64 0, .int .i64 0, .int .i64 0, .int .i64 0] 31 (0, 0)) (by (with_reducible repeat (first | refine blk_drewN ?_ _ | refine blk_drew ?_ | refine blk_alloc ?_ _)); exact BK290.out) hb2) (by decide)); have n4_ := Aside0.mk (Ne.symm (IsS56.ne_blk hi (blk_below (g := gb290) (o := .cells #[.string (⟨#[]⟩ : ByteArray), .int .i64 0, .int .i64 0, .bool false, .int .i64 0, .int .i64 0, .int .i64 0, .int .i64 0, .int .i64 0, .int .i64 0] 31 (0, 0)) (by (with_reducible repeat (first | refine blk_drewN ?_ _ | refine blk_drew ?_ | refine blk_alloc ?_ _)); exact BK290.out) hb2) (by decide))); clear BK290; clear HB; have BK290 := n0_; have HB := n1_; have HI294 := n2_; have NB294_290 := n3_; have NB290_294 := n4_; clear n0_ n1_ n2_ n3_ n4_; (try clear hb); (try clear hb2); (try clear hk); (try clear hi)) | ((with_reducible refine gate_callee (f := 34) rfl ?_); refine goesL_ (some 10) rfl rfl Try.func34 (by kernel_rfl) rfl #[.pointer (some ⟨g294, 0, none⟩)] rfl (by (try simp only [List.map_toArray, List.map_cons, List.map_nil]); first | done | rfl | (simp only [List.length_drop, List.length_take]; rfl)) ?_; (with_reducible refine (spec_l7Any.calls k g294 t291 t292 t293 t295 t296 t297 t298 t299 t300 t301 t302 t303 t304 t305 t306 w _ ?side1 ?side2 A3.out).mono ?_); (case side1 => repeat (first | (with_reducible first | exact HI294.out | apply IsS56.alloc | apply IsS56.drewN | apply IsS56.drew | apply IsS56.set_1 | apply IsS56.set_2 | refine IsS56.far ?_ NB294_290.out _) | exact HI294.out)); (case side2 => repeat (first | (with_reducible first | exact HB.out | apply below_alloc | apply pw_below_drewN | apply below_drew1 | refine below_set ?_ (IsS56.ge HI294.out) | refine below_set ?_ GE290.out) | exact HB.out)); rintro e w55 ⟨rfl, hi, hb, hk⟩; refine ⟨_, rfl, ?_⟩; have n0_ := Aside0.mk (KeepBut.blk hk (g' := gb290) (o := .cells #[.string (⟨#[]⟩ : ByteArray), .int .i64 0, .int .i64 0, .bool false, .int .i64 0, .int .i64 0, .int .i64 0, .int .i64 0, .int .i64 0, .int .i64 0] 31 (0, 0)) (by (with_reducible repeat (first | refine blk_drewN ?_ _ | refine blk_drew ?_ | refine blk_alloc ?_ _)); exact BK290.out) NB290_294.out (by simp)); have n1_ := Aside0.mk (hb); have n2_ := Aside0.mk (hi); clear BK290; clear HB; clear HI294; have BK290 := n0_; have HB := n1_; have HI294 := n2_; clear n0_ n1_ n2_; (try clear hb); (try clear hb2); (try clear hk); (try clear hi)) | ((with_reducible refine gate_dst (N := 5) rfl ?_); refine box_event ?hg (N := 5) ?hd (cs := #[.string (⟨#[]⟩ : ByteArray), .int .i64 0, .int .i64 0, .bool false, .int .i64 0, .int .i64 0, .int .i64 0, .int .i64 0, .int .i64 0, .int .i64 0]) (t := 31) ?hr ?_; (case hd => rfl); (case hg => rfl); (case hr => first | (go_simp; done) | (go_simp; rfl)); intro gb307 hg w56 hbox hb; have n0_ := Aside0.mk (blk_below (g := gb290) (o := .cells #[.string (⟨#[]⟩ : ByteArray), .int .i64 0, .int .i64 0, .bool false, .int .i64 0, .int .i64 0, .int .i64 0, .int .i64 0, .int .i64 0, .int .i64 0] 31 (0, 0)) (by (with_reducible repeat (first | refine blk_drewN ?_ _ | refine blk_drew ?_ | refine blk_alloc ?_ _)); exact BK290.out) hb); have n1_ := Aside0.mk (IsS56.below (by repeat (first | (with_reducible first | exact HI294.out | apply IsS56.alloc | apply IsS56.drewN | apply IsS56.drew | apply IsS56.set_1 | apply IsS56.set_2 | refine IsS56.far ?_ NB294_290.out _) | exact HI294.out)) hb); have n2_ := Aside0.mk (below_step (by repeat (first | (with_reducible first | exact HB.out | apply below_alloc | apply pw_below_drewN | apply below_drew1 | refine below_set ?_ (IsS56.ge HI294.out) | refine below_set ?_ GE290.out) | exact HB.out)) hb); have n3_ := Aside0.mk (hbox); have n4_ := Aside0.mk ((by rw [hg]; exact (below_size (by repeat (first | (with_reducible first | exact HB.out | apply below_alloc | apply pw_below_drewN | apply below_drew1 | refine below_set ?_ (IsS56.ge HI294.out) | refine below_set ?_ GE290.out) | exact HB.out))) : w.heap.size ≤ gb307)); have n5_ := Aside0.mk ((by rw [hg]; exact (below_size (by repeat (first | (with_reducible first | exact HB.out | apply below_alloc | apply pw_below_drewN | apply below_drew1 | refine below_set ?_ (IsS56.ge HI294.out) | refine below_set ?_ GE290.out) | exact HB.out))) : w.heap.size ≤ gb307)); have n6_ := Aside0.mk ((by rw [hg]; exact Nat.ne_of_lt (blk_lt (g := gb290) (o := .cells #[.string (⟨#[]⟩ : ByteArray), .int .i64 0, .int .i64 0, .bool false, .int .i64 0, .int .i64 0, .int .i64 0, .int .i64 0, .int .i64 0, .int .i64 0] 31 (0, 0)) (by (with_reducible repeat (first | refine blk_drewN ?_ _ | refine blk_drew ?_ | refine blk_alloc ?_ _)); exact BK290.out)) : gb290 ≠ gb307)); have n7_ := Aside0.mk ((by rw [hg]; exact Nat.ne_of_gt (blk_lt (g := gb290) (o := .cells #[.string (⟨#[]⟩ : ByteArray), .int .i64 0, .int .i64 0, .bool false, .int .i64 0, .int .i64 0, .int .i64 0, .int .i64 0, .int .i64 0, .int .i64 0] 31 (0, 0)) (by (with_reducible repeat (first | refine blk_drewN ?_ _ | refine blk_drew ?_ | refine blk_alloc ?_ _)); exact BK290.out)) : gb307 ≠ gb290)); have n8_ := Aside0.mk ((by rw [hg]; exact Nat.ne_of_lt (IsS56.lt (show IsS56 w _ g294 t291 t305 t306 from by repeat (first | (with_reducible first | exact HI294.out | apply IsS56.alloc | apply IsS56.drewN | apply IsS56.drew | apply IsS56.set_1 | apply IsS56.set_2 | refine IsS56.far ?_ NB294_290.out _) | exact HI294.out))) : g294 ≠ gb307)); have n9_ := Aside0.mk ((by rw [hg]; exact Nat.ne_of_gt (IsS56.lt (show IsS56 w _ g294 t291 t305 t306 from by repeat (first | (with_reducible first | exact HI294.out | apply IsS56.alloc | apply IsS56.drewN | apply IsS56.drew | apply IsS56.set_1 | apply IsS56.set_2 | refine IsS56.far ?_ NB294_290.out _) | exact HI294.out))) : gb307 ≠ g294)); clear BK290; clear HI294; clear HB; have BK290 := n0_; have HI294 := n1_; have HB := n2_; have BK307 := n3_; have GW307 := n4_; have GE307 := n5_; have NB290_307 := n6_; have NB307_290 := n7_; have NB294_307 := n8_; have NB307_294 := n9_; clear n0_ n1_ n2_ n3_ n4_ n5_ n6_ n7_ n8_ n9_; clear hb hbox hg; have hnb57 := NB307_290.out; have hnc57 := NB290_307.out; have hnb58 := NB307_294.out; have hnc58 := NB294_307.out; have hcz59_0 : w56.cell? ⟨gb307, 0, none⟩ = some (.string (⟨#[]⟩ : ByteArray)) := (blk_cell BK307.out 0).trans rfl; have hcz59_1 : w56.cell? ⟨gb307, 1, none⟩ = some (.int .i64 0) := (blk_cell BK307.out 1).trans rfl; have hcz59_2 : w56.cell? ⟨gb307, 2, none⟩ = some (.int .i64 0) := (blk_cell BK307.out 2).trans rfl; have hcz59_3 : w56.cell? ⟨gb307, 3, none⟩ = some (.bool false) := (blk_cell BK307.out 3).trans rfl; have hcz59_4 : w56.cell? ⟨gb307, 4, none⟩ = some (.int .i64 0) := (blk_cell BK307.out 4).trans rfl; have hcz59_5 : w56.cell? ⟨gb307, 5, none⟩ = some (.int .i64 0) := (blk_cell BK307.out 5).trans rfl; have hcz59_6 : w56.cell? ⟨gb307, 6, none⟩ = some (.int .i64 0) := (blk_cell BK307.out 6).trans rfl; have hcz59_7 : w56.cell? ⟨gb307, 7, none⟩ = some (.int .i64 0) := (blk_cell BK307.out 7).trans rfl; have hcz59_8 : w56.cell? ⟨gb307, 8, none⟩ = some (.int .i64 0) := (blk_cell BK307.out 8).trans rfl; have hcz59_9 : w56.cell? ⟨gb307, 9, none⟩ = some (.int .i64 0) := (blk_cell BK307.out 9).trans rfl; have hfz59_0 := blk_frozen BK307.out 0; have hfz59_1 := blk_frozen BK307.out 1; have hfz59_2 := blk_frozen BK307.out 2; have hfz59_3 := blk_frozen BK307.out 3; have hfz59_4 := blk_frozen BK307.out 4; have hfz59_5 := blk_frozen BK307.out 5; have hfz59_6 := blk_frozen BK307.out 6; have hfz59_7 := blk_frozen BK307.out 7; have hfz59_8 := blk_frozen BK307.out 8; have hfz59_9 := blk_frozen BK307.out 9) | ((with_reducible refine gate_callee (f := 35) rfl ?_); refine goesL_ (some 12) rfl rfl Try.func35 (by kernel_rfl) rfl #[.pointer (some ⟨g294, 0, none⟩), .int .i64 2] rfl (by (try simp only [List.map_toArray, List.map_cons, List.map_nil]); first | done | rfl | (simp only [List.length_drop, List.length_take]; rfl)) ?_; (with_reducible refine (spec_l1Once.calls g294 t291 t305 t306 2 false t309 t310 w _ ?side1 ?side2 A4.out).mono ?_); (case side1 => repeat (first | (with_reducible first | exact HI294.out | apply IsS56.alloc | apply IsS56.drewN | apply IsS56.drew | apply IsS56.set_1 | apply IsS56.set_2 | refine IsS56.far ?_ NB294_290.out _ | refine IsS56.far ?_ NB294_307.out _) | exact HI294.out)); (case side2 => repeat (first | (with_reducible first | exact HB.out | apply below_alloc | apply pw_below_drewN | apply below_drew1 | refine below_set ?_ (IsS56.ge HI294.out) | refine below_set ?_ GE290.out | refine below_set ?_ GE307.out) | exact HB.out)); rintro e w60 ⟨rfl, hi, hb, hk⟩; refine ⟨_, rfl, ?_⟩; have n0_ := Aside0.mk (KeepBut.blk hk (g' := gb290) (o := .cells #[.string (⟨#[]⟩ : ByteArray), .int .i64 0, .int .i64 0, .bool false, .int .i64 0, .int .i64 0, .int .i64 0, .int .i64 0, .int .i64 0, .int .i64 0] 31 (0, 0)) (by (with_reducible repeat (first | refine blk_drewN ?_ _ | refine blk_drew ?_ | refine blk_alloc ?_ _)); refine blk_far ?_ NB290_307.out _; (with_reducible repeat (first | refine blk_drewN ?_ _ | refine blk_drew ?_ | refine blk_alloc ?_ _)); refine blk_far ?_ NB290_307.out _; (with_reducible repeat (first | refine blk_drewN ?_ _ | refine blk_drew ?_ | refine blk_alloc ?_ _)); refine blk_far ?_ NB290_307.out _; (with_reducible repeat (first | refine blk_drewN ?_ _ | refine blk_drew ?_ | refine blk_alloc ?_ _)); refine blk_far ?_ NB290_307.out _; (with_reducible repeat (first | refine blk_drewN ?_ _ | refine blk_drew ?_ | refine blk_alloc ?_ _)); refine blk_far ?_ NB290_307.out _; (with_reducible repeat (first | refine blk_drewN ?_ _ | refine blk_drew ?_ | refine blk_alloc ?_ _)); refine blk_far ?_ NB290_307.out _; (with_reducible repeat (first | refine blk_drewN ?_ _ | refine blk_drew ?_ | refine blk_alloc ?_ _)); refine blk_far ?_ NB290_307.out _; (with_reducible repeat (first | refine blk_drewN ?_ _ | refine blk_drew ?_ | refine blk_alloc ?_ _)); refine blk_far ?_ NB290_307.out _; (with_reducible repeat (first | refine blk_drewN ?_ _ | refine blk_drew ?_ | refine blk_alloc ?_ _)); refine blk_far ?_ NB290_307.out _; (with_reducible repeat (first | refine blk_drewN ?_ _ | refine blk_drew ?_ | refine blk_alloc ?_ _)); refine blk_far ?_ NB290_307.out _; (with_reducible repeat (first | refine blk_drewN ?_ _ | refine blk_drew ?_ | refine blk_alloc ?_ _)); exact BK290.out) NB290_294.out (by simp)); have n1_ := Aside0.mk (KeepBut.blk hk (g' := gb307) (o := .cells #[.string t295, .int .i64 t296, .int .i64 t297, .bool t298, .int .i64 t299, .int .i64 t300, .int .i64 t301, .int .i64 t302, .int .i64 t303, .int .i64 t304] 31 (0, 0)) (by (with_reducible repeat (first | refine blk_drewN ?_ _ | refine blk_drew ?_ | refine blk_alloc ?_ _)); apply blk_put10; (with_reducible repeat (first | refine blk_drewN ?_ _ | refine blk_drew ?_ | refine blk_alloc ?_ _)); exact BK307.out) NB307_294.out (by simp)); have n2_ := Aside0.mk (hb); have n3_ := Aside0.mk (hi); clear BK290; clear BK307; clear HB; clear HI294; have BK290 := n0_; have BK307 := n1_; have HB := n2_; have HI294 := n3_; clear n0_ n1_ n2_ n3_; (try clear hb); (try clear hb2); (try clear hk); (try clear hi)))
    have n0_ := Aside0.mk (blk_drew BK290.out)
    have n1_ := Aside0.mk (blk_drew BK307.out)
    have n2_ := Aside0.mk (IsS56.drew HI294.out)
    have n3_ := Aside0.mk (below_drew1 HB.out)
    clear BK290
    clear BK307
    clear HI294
    clear HB
    have BK290 := n0_
    have BK307 := n1_
    have HI294 := n2_
    have HB := n3_
    clear n0_ n1_ n2_ n3_
    refine start_ (n := 8) (S := fun w' => w'.cell? ⟨gb307, 0, none⟩ = some (.string t295) ∧ w'.cell? ⟨gb307, 1, none⟩ = some (.int .i64 t296) ∧ w'.cell? ⟨gb307, 2, none⟩ = some (.int .i64 t297) ∧ w'.cell? ⟨gb307, 3, none⟩ = some (.bool t298) ∧ w'.cell? ⟨gb307, 4, none⟩ = some (.int .i64 t299) ∧ w'.cell? ⟨gb307, 5, none⟩ = some (.int .i64 t300) ∧ w'.cell? ⟨gb307, 6, none⟩ = some (.int .i64 t301) ∧ w'.cell? ⟨gb307, 7, none⟩ = some (.int .i64 t302) ∧ w'.cell? ⟨gb307, 8, none⟩ = some (.int .i64 t303) ∧ w'.cell? ⟨gb307, 9, none⟩ = some (.int .i64 t304)) (ds := []) #[false, false, false, false, false, false, false, false] (by kernel_rfl) rfl rfl ⟨(blk_cell BK307.out 0).trans rfl, (blk_cell BK307.out 1).trans rfl, (blk_cell BK307.out 2).trans rfl, (blk_cell BK307.out 3).trans rfl, (blk_cell BK307.out 4).trans rfl, (blk_cell BK307.out 5).trans rfl, (blk_cell BK307.out 6).trans rfl, (blk_cell BK307.out 7).trans rfl, (blk_cell BK307.out 8).trans rfl, (blk_cell BK307.out 9).trans rfl⟩ (fun hHeld => ?_); refine with_tabW spec_DrawSampled.tab9 spec_DrawSampled.bits9 (fun HT_ HW_ => ?_)
    generalize w60.drew = w61 at BK290 BK307 HI294 HB hHeld ⊢
    refine pure_ (i := 1) (N := some 25) (v := ?_) (a' := ?_) #[false, true, false, false, false, false, false, false] rfl rfl (any_of HT_.out (by kernel_rfl)) (fun _ _ _ h => h) (Or.inl ⟨by rfl, ?_⟩) ?_ ?_
    rotate_left
    · intro w'
      go_simp
      with_reducible rfl
    rotate_left
    · simp only [Act.put, List.setIfInBounds_toArray, List.set_cons_zero, List.set_cons_succ, i64_w, i32_w]
      rfl
    refine pure_ (i := 2) (N := some 26) (v := ?_) (a' := ?_) #[false, true, true, false, false, false, false, false] rfl rfl (any_of HT_.out (by kernel_rfl)) (fun _ _ _ h => h) (Or.inl ⟨by rfl, ?_⟩) ?_ ?_
    rotate_left
    · intro w'
      go_simp
      with_reducible rfl
    rotate_left
    · simp only [Act.put, List.setIfInBounds_toArray, List.set_cons_zero, List.set_cons_succ, i64_w, i32_w]
      rfl
    refine take_ (i := 0) (N := some 24) (v := ?_) (a' := ?_) #[true, true, true, false, false, false, false, false] rfl rfl (take_ofW HT_.out HW_.out (by kernel_rfl)) (fun _ _ _ h => h) (Or.inl ⟨by rfl, ?_⟩) hHeld ?_ ?_
    rotate_left
    · rintro w' ⟨s0, s1, s2, s3, s4, s5, s6, s7, s8, s9⟩
      go_simp
      with_reducible rfl
    rotate_left
    · simp only [Act.put, List.setIfInBounds_toArray, List.set_cons_zero, List.set_cons_succ, i64_w, i32_w]
      rfl
    refine one_ (i := 3) (N := some 27) #[true, true, true, true, false, false, false, false] rfl rfl (one_of HT_.out (by kernel_rfl)) (by decide) (fun K hK => ?_)
    refine goes_ Try.func36 (by kernel_rfl) rfl #[.pointer (some ⟨g294, 0, none⟩), .int .i64 900] (by rfl) rfl rfl (by (try simp only [List.map_toArray, List.map_cons, List.map_nil]); first | done | rfl | (simp only [List.length_drop, List.length_take]; rfl)) ?_
    with_reducible refine (spec_l1Below.calls g294 t291 t309 t310 900 t336 t337 t338 w _ ?side1 ?side2 A51.out).mono ?_
    (case side1 => repeat (first | (with_reducible first | exact HI294.out | apply IsS56.alloc | apply IsS56.drewN | apply IsS56.drew | apply IsS56.set_1 | apply IsS56.set_2 | refine IsS56.far ?_ NB294_290.out _ | refine IsS56.far ?_ NB294_307.out _) | exact HI294.out))
    (case side2 => repeat (first | (with_reducible first | exact HB.out | apply below_alloc | apply pw_below_drewN | apply below_drew1 | refine below_set ?_ (IsS56.ge HI294.out) | refine below_set ?_ GE290.out | refine below_set ?_ GE307.out) | exact HB.out))
    rintro e w62 ⟨rfl, hi, hb, hk⟩
    refine ⟨_, rfl, ?_⟩
    have n0_ := Aside0.mk (KeepBut.blk hk (g' := gb290) (o := .cells #[.string (⟨#[]⟩ : ByteArray), .int .i64 0, .int .i64 0, .bool false, .int .i64 0, .int .i64 0, .int .i64 0, .int .i64 0, .int .i64 0, .int .i64 0] 31 (0, 0)) (by (with_reducible repeat (first | refine blk_drewN ?_ _ | refine blk_drew ?_ | refine blk_alloc ?_ _)); exact BK290.out) NB290_294.out (by simp))
    have n1_ := Aside0.mk (KeepBut.blk hk (g' := gb307) (o := .cells #[.string t295, .int .i64 t296, .int .i64 t297, .bool t298, .int .i64 t299, .int .i64 t300, .int .i64 t301, .int .i64 t302, .int .i64 t303, .int .i64 t304] 31 (0, 0)) (by (with_reducible repeat (first | refine blk_drewN ?_ _ | refine blk_drew ?_ | refine blk_alloc ?_ _)); exact BK307.out) NB307_294.out (by simp))
    have n2_ := Aside0.mk (hb)
    have n3_ := Aside0.mk (hi)
    clear BK290
    clear BK307
    clear HB
    clear HI294
    have BK290 := n0_
    have BK307 := n1_
    have HB := n2_
    have HI294 := n3_
    clear n0_ n1_ n2_ n3_
    (try clear hb)
    (try clear hb2)
    (try clear hk)
    (try clear hi)
    refine hK.out _ _ ⟨(blk_cell BK307.out 0).trans rfl, (blk_cell BK307.out 1).trans rfl, (blk_cell BK307.out 2).trans rfl, (blk_cell BK307.out 3).trans rfl, (blk_cell BK307.out 4).trans rfl, (blk_cell BK307.out 5).trans rfl, (blk_cell BK307.out 6).trans rfl, (blk_cell BK307.out 7).trans rfl, (blk_cell BK307.out 8).trans rfl, (blk_cell BK307.out 9).trans rfl⟩ (fun hHeld => ?_)
    clear hK K
    refine norm_ (a' := ?_) ?_ ?_
    rotate_left
    · show Act.put _ (some 27) _ = _
      simp only [Act.put, List.setIfInBounds_toArray, List.set_cons_zero, List.set_cons_succ, i64_w, i32_w]
      rfl
    refine one_ (i := 4) (N := some 28) #[true, true, true, true, true, false, false, false] rfl rfl (one_of HT_.out (by kernel_rfl)) (by decide) (fun K hK => ?_)
    refine Kd.R_lit_step (Kd.int .i64) _ 3 ?hg (N := 28) ?hd (xs := ([0, 5, 65535, 65536, (-1), t336] : List Int)) (inner := [.int .i64 0, .int .i64 5, .int .i64 65535, .int .i64 65536, .int .i64 (-1), .int .i64 t336]) (ok := fun _ => True) (okp := fun _ => True) ?hr ?hp (fun _ hk => hk) trivial (Below.refl _ _) (Nat.le_refl _) (by simp) ?_; (case hd => rfl); (case hg => rfl); (case hr => first | (go_simp; done) | (go_simp; rfl)); (case hp => exact (Reps.one (show Kd.M (Kd.int .i64) _ _ _ 0 [.int .i64 0] from rfl) (Reps.one (show Kd.M (Kd.int .i64) _ _ _ 5 [.int .i64 5] from rfl) (Reps.one (show Kd.M (Kd.int .i64) _ _ _ 65535 [.int .i64 65535] from rfl) (Reps.one (show Kd.M (Kd.int .i64) _ _ _ 65536 [.int .i64 65536] from rfl) (Reps.one (show Kd.M (Kd.int .i64) _ _ _ (-1) [.int .i64 (-1)] from rfl) (Reps.one (show Kd.M (Kd.int .i64) _ _ _ t336 [.int .i64 t336] from rfl) (Reps.none _ _))))))))
    intro v340 w63 ho64 hb hg_ hnew_
    clear hg_ hnew_
    (first | rw [← Ny339.out] at ho64 | (simp only [Int.reduceToNat] at ho64; rw [← Ny339.out] at ho64))
    have n0_ := Aside0.mk (Kd.R_lower ho64 (below_size (by repeat (first | (with_reducible first | exact HB.out | apply below_alloc | apply pw_below_drewN | apply below_drew1 | refine below_set ?_ (IsS56.ge HI294.out) | refine below_set ?_ GE290.out | refine below_set ?_ GE307.out) | exact HB.out))))
    have n1_ := Aside0.mk (blk_below (g := gb290) (o := .cells #[.string (⟨#[]⟩ : ByteArray), .int .i64 0, .int .i64 0, .bool false, .int .i64 0, .int .i64 0, .int .i64 0, .int .i64 0, .int .i64 0, .int .i64 0] 31 (0, 0)) (by (with_reducible repeat (first | refine blk_drewN ?_ _ | refine blk_drew ?_ | refine blk_alloc ?_ _)); exact BK290.out) hb)
    have n2_ := Aside0.mk (IsS56.below (by repeat (first | (with_reducible first | exact HI294.out | apply IsS56.alloc | apply IsS56.drewN | apply IsS56.drew | apply IsS56.set_1 | apply IsS56.set_2 | refine IsS56.far ?_ NB294_290.out _ | refine IsS56.far ?_ NB294_307.out _) | exact HI294.out)) hb)
    have n3_ := Aside0.mk (blk_below (g := gb307) (o := .cells #[.string t295, .int .i64 t296, .int .i64 t297, .bool t298, .int .i64 t299, .int .i64 t300, .int .i64 t301, .int .i64 t302, .int .i64 t303, .int .i64 t304] 31 (0, 0)) (by (with_reducible repeat (first | refine blk_drewN ?_ _ | refine blk_drew ?_ | refine blk_alloc ?_ _)); exact BK307.out) hb)
    have n4_ := Aside0.mk (below_step (by repeat (first | (with_reducible first | exact HB.out | apply below_alloc | apply pw_below_drewN | apply below_drew1 | refine below_set ?_ (IsS56.ge HI294.out) | refine below_set ?_ GE290.out | refine below_set ?_ GE307.out) | exact HB.out)) hb)
    clear BK290
    clear HI294
    clear BK307
    clear HB
    have HO341 := n0_
    have BK290 := n1_
    have HI294 := n2_
    have BK307 := n3_
    have HB := n4_
    clear n0_ n1_ n2_ n3_ n4_
    clear hb ho64
    obtain ⟨Ao65, co65, eo65⟩ := Kd.R_slice HO341.out
    (first | subst eo65 | (injection eo65 with f1_ f2_ f3_; have f4_ := f1_.symm; have f5_ := f3_.symm; clear f1_ f2_ f3_; subst f4_; subst f5_))
    refine hK.out _ _ ⟨(blk_cell BK307.out 0).trans rfl, (blk_cell BK307.out 1).trans rfl, (blk_cell BK307.out 2).trans rfl, (blk_cell BK307.out 3).trans rfl, (blk_cell BK307.out 4).trans rfl, (blk_cell BK307.out 5).trans rfl, (blk_cell BK307.out 6).trans rfl, (blk_cell BK307.out 7).trans rfl, (blk_cell BK307.out 8).trans rfl, (blk_cell BK307.out 9).trans rfl⟩ (fun hHeld => ?_)
    clear hK K
    refine norm_ (a' := ?_) ?_ ?_
    rotate_left
    · show Act.put _ (some 28) _ = _
      simp only [Act.put, List.setIfInBounds_toArray, List.set_cons_zero, List.set_cons_succ, i64_w, i32_w]
      rfl
    refine one_ (i := 5) (N := some 29) #[true, true, true, true, true, true, false, false] rfl rfl (one_of HT_.out (by kernel_rfl)) (by decide) (fun K hK => ?_)
    refine goes_ Try.func38 (by kernel_rfl) rfl #[.pointer (some ⟨g294, 0, none⟩), .slice Ao65 y339.length co65] (by rfl) rfl rfl (by (try simp only [List.map_toArray, List.map_cons, List.map_nil]); first | done | rfl | (simp only [List.length_drop, List.length_take]; rfl)) ?_
    with_reducible refine (spec_l1PickInt.calls g294 t291 t337 t338 _ _ y339 t342 t343 t344 w _ ?side1 ?side2 ?side3 ?side4 ?side5 A52.out).mono ?_
    (case side1 => repeat (first | (with_reducible first | exact HI294.out | apply IsS56.alloc | apply IsS56.drewN | apply IsS56.drew | apply IsS56.set_1 | apply IsS56.set_2 | refine IsS56.far ?_ NB294_290.out _ | refine IsS56.far ?_ NB294_307.out _) | exact HI294.out))
    (case side2 => repeat (first | (with_reducible first | exact HB.out | apply below_alloc | apply pw_below_drewN | apply below_drew1 | refine below_set ?_ (IsS56.ge HI294.out) | refine below_set ?_ GE290.out | refine below_set ?_ GE307.out) | exact HB.out))
    (case side3 => repeat (first | exact (Kd.R_reads' HO341.out).2.2 | (with_reducible refine Kd.C_alloc ?_ _) | (with_reducible refine Kd.C_drewN ?_ _) | (with_reducible refine Kd.C_drew ?_)))
    (case side4 => exact (Kd.R_reads' HO341.out).2.1)
    (case side5 => exact far_slice (IsS56.own_ne HI294.out HO341.out (by decide)))
    rintro e w66 ⟨rfl, hi, hb, hk⟩
    refine ⟨_, rfl, ?_⟩
    have n0_ := Aside0.mk (KeepBut.blk hk (g' := gb290) (o := .cells #[.string (⟨#[]⟩ : ByteArray), .int .i64 0, .int .i64 0, .bool false, .int .i64 0, .int .i64 0, .int .i64 0, .int .i64 0, .int .i64 0, .int .i64 0] 31 (0, 0)) (by (with_reducible repeat (first | refine blk_drewN ?_ _ | refine blk_drew ?_ | refine blk_alloc ?_ _)); exact BK290.out) NB290_294.out (by simp))
    have n1_ := Aside0.mk (KeepBut.blk hk (g' := gb307) (o := .cells #[.string t295, .int .i64 t296, .int .i64 t297, .bool t298, .int .i64 t299, .int .i64 t300, .int .i64 t301, .int .i64 t302, .int .i64 t303, .int .i64 t304] 31 (0, 0)) (by (with_reducible repeat (first | refine blk_drewN ?_ _ | refine blk_drew ?_ | refine blk_alloc ?_ _)); exact BK307.out) NB307_294.out (by simp))
    have n2_ := Aside0.mk (Kd.R_mono (Kd.R_keep (IsS56.apart (show IsS56 w _ g294 t291 t337 t338 from by repeat (first | (with_reducible first | exact HI294.out | apply IsS56.alloc | apply IsS56.drewN | apply IsS56.drew | apply IsS56.set_1 | apply IsS56.set_2 | refine IsS56.far ?_ NB294_290.out _ | refine IsS56.far ?_ NB294_307.out _) | exact HI294.out)) (by (with_reducible repeat (first | apply Kd.R_alloc | apply Kd.R_drewN | apply Kd.R_drew)); exact HO341.out) (by decide)) hk (fun _ h => h.2)) (fun _ h => h.1))
    have n3_ := Aside0.mk (hb)
    have n4_ := Aside0.mk (hi)
    clear BK290
    clear BK307
    clear HO341
    clear HB
    clear HI294
    have BK290 := n0_
    have BK307 := n1_
    have HO341 := n2_
    have HB := n3_
    have HI294 := n4_
    clear n0_ n1_ n2_ n3_ n4_
    (try clear hb)
    (try clear hb2)
    (try clear hk)
    (try clear hi)
    refine hK.out _ _ ⟨(blk_cell BK307.out 0).trans rfl, (blk_cell BK307.out 1).trans rfl, (blk_cell BK307.out 2).trans rfl, (blk_cell BK307.out 3).trans rfl, (blk_cell BK307.out 4).trans rfl, (blk_cell BK307.out 5).trans rfl, (blk_cell BK307.out 6).trans rfl, (blk_cell BK307.out 7).trans rfl, (blk_cell BK307.out 8).trans rfl, (blk_cell BK307.out 9).trans rfl⟩ (fun hHeld => ?_)
    clear hK K
    refine norm_ (a' := ?_) ?_ ?_
    rotate_left
    · show Act.put _ (some 29) _ = _
      simp only [Act.put, List.setIfInBounds_toArray, List.set_cons_zero, List.set_cons_succ, i64_w, i32_w]
      rfl
    refine one_ (i := 6) (N := none) #[true, true, true, true, true, true, true, false] rfl rfl (one_of HT_.out (by kernel_rfl)) (by decide) (fun K hK => ?_)
    have hs67 : w66.cell? ⟨gb290, 0, none⟩ = some (.string (⟨#[]⟩ : ByteArray)) := (blk_cell BK290.out 0).trans rfl
    have hfs67 := blk_frozen BK290.out 0
    have hns67_1 := NB307_290.out
    have hms67_1 := NB290_307.out
    have hs68 : w66.cell? ⟨gb290, 1, none⟩ = some (.int .i64 0) := (blk_cell BK290.out 1).trans rfl
    have hfs68 := blk_frozen BK290.out 1
    have hns68_1 := NB307_290.out
    have hms68_1 := NB290_307.out
    have hs69 : w66.cell? ⟨gb290, 2, none⟩ = some (.int .i64 0) := (blk_cell BK290.out 2).trans rfl
    have hfs69 := blk_frozen BK290.out 2
    have hns69_1 := NB307_290.out
    have hms69_1 := NB290_307.out
    have hs70 : w66.cell? ⟨gb290, 3, none⟩ = some (.bool false) := (blk_cell BK290.out 3).trans rfl
    have hfs70 := blk_frozen BK290.out 3
    have hns70_1 := NB307_290.out
    have hms70_1 := NB290_307.out
    have hs71 : w66.cell? ⟨gb290, 4, none⟩ = some (.int .i64 0) := (blk_cell BK290.out 4).trans rfl
    have hfs71 := blk_frozen BK290.out 4
    have hns71_1 := NB307_290.out
    have hms71_1 := NB290_307.out
    have hs72 : w66.cell? ⟨gb290, 5, none⟩ = some (.int .i64 0) := (blk_cell BK290.out 5).trans rfl
    have hfs72 := blk_frozen BK290.out 5
    have hns72_1 := NB307_290.out
    have hms72_1 := NB290_307.out
    have hs73 : w66.cell? ⟨gb290, 6, none⟩ = some (.int .i64 0) := (blk_cell BK290.out 6).trans rfl
    have hfs73 := blk_frozen BK290.out 6
    have hns73_1 := NB307_290.out
    have hms73_1 := NB290_307.out
    have hs74 : w66.cell? ⟨gb290, 7, none⟩ = some (.int .i64 0) := (blk_cell BK290.out 7).trans rfl
    have hfs74 := blk_frozen BK290.out 7
    have hns74_1 := NB307_290.out
    have hms74_1 := NB290_307.out
    have hs75 : w66.cell? ⟨gb290, 8, none⟩ = some (.int .i64 0) := (blk_cell BK290.out 8).trans rfl
    have hfs75 := blk_frozen BK290.out 8
    have hns75_1 := NB307_290.out
    have hms75_1 := NB290_307.out
    have hs76 : w66.cell? ⟨gb290, 9, none⟩ = some (.int .i64 0) := (blk_cell BK290.out 9).trans rfl
    have hfs76 := blk_frozen BK290.out 9
    have hns76_1 := NB307_290.out
    have hms76_1 := NB290_307.out
    refine skip_ (w1 := ?_) (by rfl) rfl ?_ ?_
    rotate_left
    · go_simp
      rfl
    refine hK.out _ _ ⟨((cell_far (p := ⟨gb290, _, none⟩) NB307_290.out _).trans (((cell_far (p := ⟨gb290, _, none⟩) NB307_290.out _).trans (((cell_far (p := ⟨gb290, _, none⟩) NB307_290.out _).trans (((cell_far (p := ⟨gb290, _, none⟩) NB307_290.out _).trans (((cell_far (p := ⟨gb290, _, none⟩) NB307_290.out _).trans (((cell_far (p := ⟨gb290, _, none⟩) NB307_290.out _).trans (((cell_far (p := ⟨gb290, _, none⟩) NB307_290.out _).trans (((cell_far (p := ⟨gb290, _, none⟩) NB307_290.out _).trans (((cell_far (p := ⟨gb290, _, none⟩) NB307_290.out _).trans (((cell_far (p := ⟨gb290, _, none⟩) NB307_290.out _).trans (hHeld.1)))))))))))))))))))), ((cell_far (p := ⟨gb290, _, none⟩) NB307_290.out _).trans (((cell_far (p := ⟨gb290, _, none⟩) NB307_290.out _).trans (((cell_far (p := ⟨gb290, _, none⟩) NB307_290.out _).trans (((cell_far (p := ⟨gb290, _, none⟩) NB307_290.out _).trans (((cell_far (p := ⟨gb290, _, none⟩) NB307_290.out _).trans (((cell_far (p := ⟨gb290, _, none⟩) NB307_290.out _).trans (((cell_far (p := ⟨gb290, _, none⟩) NB307_290.out _).trans (((cell_far (p := ⟨gb290, _, none⟩) NB307_290.out _).trans (((cell_far (p := ⟨gb290, _, none⟩) NB307_290.out _).trans (((cell_far (p := ⟨gb290, _, none⟩) NB307_290.out _).trans (hHeld.2.1)))))))))))))))))))), ((cell_far (p := ⟨gb290, _, none⟩) NB307_290.out _).trans (((cell_far (p := ⟨gb290, _, none⟩) NB307_290.out _).trans (((cell_far (p := ⟨gb290, _, none⟩) NB307_290.out _).trans (((cell_far (p := ⟨gb290, _, none⟩) NB307_290.out _).trans (((cell_far (p := ⟨gb290, _, none⟩) NB307_290.out _).trans (((cell_far (p := ⟨gb290, _, none⟩) NB307_290.out _).trans (((cell_far (p := ⟨gb290, _, none⟩) NB307_290.out _).trans (((cell_far (p := ⟨gb290, _, none⟩) NB307_290.out _).trans (((cell_far (p := ⟨gb290, _, none⟩) NB307_290.out _).trans (((cell_far (p := ⟨gb290, _, none⟩) NB307_290.out _).trans (hHeld.2.2.1)))))))))))))))))))), ((cell_far (p := ⟨gb290, _, none⟩) NB307_290.out _).trans (((cell_far (p := ⟨gb290, _, none⟩) NB307_290.out _).trans (((cell_far (p := ⟨gb290, _, none⟩) NB307_290.out _).trans (((cell_far (p := ⟨gb290, _, none⟩) NB307_290.out _).trans (((cell_far (p := ⟨gb290, _, none⟩) NB307_290.out _).trans (((cell_far (p := ⟨gb290, _, none⟩) NB307_290.out _).trans (((cell_far (p := ⟨gb290, _, none⟩) NB307_290.out _).trans (((cell_far (p := ⟨gb290, _, none⟩) NB307_290.out _).trans (((cell_far (p := ⟨gb290, _, none⟩) NB307_290.out _).trans (((cell_far (p := ⟨gb290, _, none⟩) NB307_290.out _).trans (hHeld.2.2.2.1)))))))))))))))))))), ((cell_far (p := ⟨gb290, _, none⟩) NB307_290.out _).trans (((cell_far (p := ⟨gb290, _, none⟩) NB307_290.out _).trans (((cell_far (p := ⟨gb290, _, none⟩) NB307_290.out _).trans (((cell_far (p := ⟨gb290, _, none⟩) NB307_290.out _).trans (((cell_far (p := ⟨gb290, _, none⟩) NB307_290.out _).trans (((cell_far (p := ⟨gb290, _, none⟩) NB307_290.out _).trans (((cell_far (p := ⟨gb290, _, none⟩) NB307_290.out _).trans (((cell_far (p := ⟨gb290, _, none⟩) NB307_290.out _).trans (((cell_far (p := ⟨gb290, _, none⟩) NB307_290.out _).trans (((cell_far (p := ⟨gb290, _, none⟩) NB307_290.out _).trans (hHeld.2.2.2.2.1)))))))))))))))))))), ((cell_far (p := ⟨gb290, _, none⟩) NB307_290.out _).trans (((cell_far (p := ⟨gb290, _, none⟩) NB307_290.out _).trans (((cell_far (p := ⟨gb290, _, none⟩) NB307_290.out _).trans (((cell_far (p := ⟨gb290, _, none⟩) NB307_290.out _).trans (((cell_far (p := ⟨gb290, _, none⟩) NB307_290.out _).trans (((cell_far (p := ⟨gb290, _, none⟩) NB307_290.out _).trans (((cell_far (p := ⟨gb290, _, none⟩) NB307_290.out _).trans (((cell_far (p := ⟨gb290, _, none⟩) NB307_290.out _).trans (((cell_far (p := ⟨gb290, _, none⟩) NB307_290.out _).trans (((cell_far (p := ⟨gb290, _, none⟩) NB307_290.out _).trans (hHeld.2.2.2.2.2.1)))))))))))))))))))), ((cell_far (p := ⟨gb290, _, none⟩) NB307_290.out _).trans (((cell_far (p := ⟨gb290, _, none⟩) NB307_290.out _).trans (((cell_far (p := ⟨gb290, _, none⟩) NB307_290.out _).trans (((cell_far (p := ⟨gb290, _, none⟩) NB307_290.out _).trans (((cell_far (p := ⟨gb290, _, none⟩) NB307_290.out _).trans (((cell_far (p := ⟨gb290, _, none⟩) NB307_290.out _).trans (((cell_far (p := ⟨gb290, _, none⟩) NB307_290.out _).trans (((cell_far (p := ⟨gb290, _, none⟩) NB307_290.out _).trans (((cell_far (p := ⟨gb290, _, none⟩) NB307_290.out _).trans (((cell_far (p := ⟨gb290, _, none⟩) NB307_290.out _).trans (hHeld.2.2.2.2.2.2.1)))))))))))))))))))), ((cell_far (p := ⟨gb290, _, none⟩) NB307_290.out _).trans (((cell_far (p := ⟨gb290, _, none⟩) NB307_290.out _).trans (((cell_far (p := ⟨gb290, _, none⟩) NB307_290.out _).trans (((cell_far (p := ⟨gb290, _, none⟩) NB307_290.out _).trans (((cell_far (p := ⟨gb290, _, none⟩) NB307_290.out _).trans (((cell_far (p := ⟨gb290, _, none⟩) NB307_290.out _).trans (((cell_far (p := ⟨gb290, _, none⟩) NB307_290.out _).trans (((cell_far (p := ⟨gb290, _, none⟩) NB307_290.out _).trans (((cell_far (p := ⟨gb290, _, none⟩) NB307_290.out _).trans (((cell_far (p := ⟨gb290, _, none⟩) NB307_290.out _).trans (hHeld.2.2.2.2.2.2.2.1)))))))))))))))))))), ((cell_far (p := ⟨gb290, _, none⟩) NB307_290.out _).trans (((cell_far (p := ⟨gb290, _, none⟩) NB307_290.out _).trans (((cell_far (p := ⟨gb290, _, none⟩) NB307_290.out _).trans (((cell_far (p := ⟨gb290, _, none⟩) NB307_290.out _).trans (((cell_far (p := ⟨gb290, _, none⟩) NB307_290.out _).trans (((cell_far (p := ⟨gb290, _, none⟩) NB307_290.out _).trans (((cell_far (p := ⟨gb290, _, none⟩) NB307_290.out _).trans (((cell_far (p := ⟨gb290, _, none⟩) NB307_290.out _).trans (((cell_far (p := ⟨gb290, _, none⟩) NB307_290.out _).trans (((cell_far (p := ⟨gb290, _, none⟩) NB307_290.out _).trans (hHeld.2.2.2.2.2.2.2.2.1)))))))))))))))))))), ((cell_far (p := ⟨gb290, _, none⟩) NB307_290.out _).trans (((cell_far (p := ⟨gb290, _, none⟩) NB307_290.out _).trans (((cell_far (p := ⟨gb290, _, none⟩) NB307_290.out _).trans (((cell_far (p := ⟨gb290, _, none⟩) NB307_290.out _).trans (((cell_far (p := ⟨gb290, _, none⟩) NB307_290.out _).trans (((cell_far (p := ⟨gb290, _, none⟩) NB307_290.out _).trans (((cell_far (p := ⟨gb290, _, none⟩) NB307_290.out _).trans (((cell_far (p := ⟨gb290, _, none⟩) NB307_290.out _).trans (((cell_far (p := ⟨gb290, _, none⟩) NB307_290.out _).trans (((cell_far (p := ⟨gb290, _, none⟩) NB307_290.out _).trans (hHeld.2.2.2.2.2.2.2.2.2))))))))))))))))))))⟩ (fun hHeld => ?_)
    clear hK K
    refine pure_ (i := 7) (N := some 3) (v := ?_) (a' := ?_) #[true, true, true, true, true, true, true, true] rfl rfl (any_of HT_.out (by kernel_rfl)) (fun _ _ _ h => h) (Or.inl ⟨by rfl, ?_⟩) ?_ ?_
    rotate_left
    · intro w'
      go_simp
      with_reducible rfl
    rotate_left
    · simp only [Act.put, List.setIfInBounds_toArray, List.set_cons_zero, List.set_cons_succ, i64_w, i32_w]
      rfl
    refine done_ (done_of HT_.out (by kernel_rfl)) ?_
    try go_wp2
    refine bodyPost_ret (results_ct rfl _ _ gb290 31 #[.string t295, .int .i64 t296, .int .i64 t297, .bool t298, .int .i64 t299, .int .i64 t300, .int .i64 t301, .int .i64 t302, .int .i64 t303, .int .i64 t304] (0, 0) _ rfl (by (with_reducible repeat (first | refine blk_drewN ?_ _ | refine blk_drew ?_ | refine blk_alloc ?_ _)); apply blk_put10; (with_reducible repeat (first | refine blk_drewN ?_ _ | refine blk_drew ?_ | refine blk_alloc ?_ _)); exact BK290.out) Try.underlying31 rfl (by kernel_rfl)) rfl ?_
    exact ⟨by first | rfl | (simp [errW_none, errW_some] <;> rfl) | (simp [*, errW_none, errW_some] <;> rfl), by repeat (first | (with_reducible first | exact HB.out | apply below_alloc | apply pw_below_drewN | apply below_drew1 | refine below_set ?_ (IsS56.ge HI294.out) | refine below_set ?_ GE290.out | refine below_set ?_ GE307.out) | exact HB.out)⟩

end Go.Proofs.Ytammijioeeiejaa.PFnRows
