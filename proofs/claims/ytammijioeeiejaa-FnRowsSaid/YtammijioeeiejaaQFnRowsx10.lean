/- What is proved here: the walk of the law FnRows over the contracts of what it calls; no condition beside the values that these tell. -/
import Derived.Test.YtammijioeeiejaaQFnRowsx0
import Derived.Test.YtammijioeeiejaaQFnRowsx1
import Derived.Test.YtammijioeeiejaaQFnRowsx2
import Derived.Test.YtammijioeeiejaaQFnRowsx3
import Derived.Test.YtammijioeeiejaaQFnRowsx4
import Derived.Test.YtammijioeeiejaaQFnRowsx5
import Derived.Test.YtammijioeeiejaaQFnRowsx8
import Derived.Test.YtammijioeeiejaaQFnRowsx9
namespace Go.Proofs.Ytammijioeeiejaa.PFnRows
open Go.RowKit Go.Proofs.YtammijioeeiejaaW.PrintWords Go.Proofs.YtammijioeeiejaaW.PrintLast
attribute [local go_sem] max2_int min2_int max_two min_two   -- for this text's walks alone
set_option linter.unusedVariables false
set_option linter.unusedSimpArgs false

attribute [local go_sem high] eqA31
section
open Go.RowKit
variable {P : Program} {ops : Array Oper} {rest : List Oper} {o : Oper} {a : Act} {Q : Exit → Act → World → Prop} {W : World}
theorem bx_gate {t : TypeId} {p : Operand} (_ho : o.op = .load t p) (h : wpList P ops Q (o :: rest) a W) : wpList P ops Q (o :: rest) a W := h
theorem bx_run_load {t : TypeId} {p : Operand} {g i : Nat} {cs : Array Value} {e : TypeId} {v : Value} {d : TypeDesc} (ho : o.op = .load t p) (haddr : a.eval p = .pointer (some ⟨g, i, none⟩))
    (hu : P.underlying t = some d) (hd : (match d with | .struct _ | .array _ _ => true | _ => false) = false) (hb : W.heap[g]? = some (.cells cs e (0, 0))) (hv : cs[i]? = some v) :
    (execOp a.eval o).run P W = .ok (.value v) W := by
  have hc := (cell_of_row W g i cs e (0, 0) hb).trans hv
  have hag : (isAgg t).run P W = .ok false W := by cases d <;> simp_all [isAgg, run_underlying hu]
  unfold execOp
  simp only [ho, haddr, Sem.run_bind, Sem.run_pure, Result.andThen_ok, Instr.loadAt, Instr.sureAddr, loadVar, hag]
  simp [hc]
theorem bx_run_loads {t : TypeId} {p : Operand} {g : Nat} {cs : Array Value} {e : TypeId} {d : TypeDesc} (ho : o.op = .load t p) (haddr : a.eval p = .pointer (some ⟨g, 0, none⟩))
    (hu : P.underlying t = some d) (hd : (match d with | .struct _ | .array _ _ => true | _ => false) = true) (hi : (P.info? t).map (·.size) = some cs.size) (hb : W.heap[g]? = some (.cells cs e (0, 0))) :
    (execOp a.eval o).run P W = .ok (.value (.agg cs)) W := by
  have hl := run_loadVar_row (P := P) W g e t cs (0, 0) d hb hu hd hi
  unfold execOp
  simp only [ho, haddr, Sem.run_bind, Sem.run_pure, Result.andThen_ok, Instr.loadAt, Instr.sureAddr, hl]
theorem bx_loadg {t : TypeId} {p : Operand} {g i : Nat} {cs : Array Value} {e : TypeId} {v : Value} {d : TypeDesc} (hw : Region.wanted o (yielded ops a.tmps) = true) (ho : o.op = .load t p) (haddr : a.eval p = .pointer (some ⟨g, i, none⟩))
    (hu : P.underlying t = some d) (hd : (match d with | .struct _ | .array _ _ => true | _ => false) = false) (hb : W.heap[g]? = some (.cells cs e (0, 0))) (hv : cs[i]? = some v)
    (h : wpList P ops Q rest (a.put o.dst v) W) : wpList P ops Q (o :: rest) a W := by
  refine gate_guard hw ?_
  exact Kd.event_run rfl (bx_run_load (o := { o with guard := none }) ho haddr hu hd hb hv) h
theorem bx_st {t : TypeId} {p x : Operand} {g i : Nat} {cs cs' : Array Value} {e : TypeId} {u : Value} {seg : List Value} {w : World} (hgd : o.guard = none) (hN : o.dst = none) (ho : o.op = .store t p x)
    (haddr : a.eval p = .pointer (some ⟨g, i, none⟩)) (hx : a.eval x = u) (hu : u.cells.toList = seg) (ht : (P.info? t).map (·.size) = some seg.length) (h1 : seg.all Value.oneCell' = true)
    (hb : W.heap[g]? = some (.cells cs e (0, 0))) (hfit : i + seg.length ≤ cs.size) (hcs : cs'.toList = cs.toList.take i ++ seg ++ cs.toList.drop (i + seg.length)) (HB : Below w.heap.size w W) (hg : w.heap.size ≤ g)
    (h : ∀ w1, Aside0 (w1.heap[g]? = some (.cells cs' e (0, 0))) → (∀ k, k ≠ g → w1.heap[k]? = W.heap[k]?) → Aside0 (Below w.heap.size w w1) → wpList P ops Q rest a w1) : wpList P ops Q (o :: rest) a W := by
  have h1' : ∀ q ∈ seg, q.oneCell' = true := List.all_eq_true.1 h1
  have hrun := run_store_run (P := P) t u seg hb hu ht hfit h1'
  obtain ⟨c2, q1, q2, q3⟩ := setCells_row seg i W cs hb hfit
  obtain ⟨s1, s2, s3, s4⟩ := setCells_same g seg i W
  have hc2 : c2 = cs' := Array.toList_inj.1 (q3.trans hcs.symm)
  subst hc2
  have hfar : ∀ k, k ≠ g → (W.setCells g i seg).heap[k]? = W.heap[k]? := fun k hk => setCells_far seg _ k hk
  have hB : Below w.heap.size w (W.setCells g i seg) := HB.trans ⟨s1, s2, s3, by rw [s4]; exact Nat.le_refl _, fun k hk => hfar k (by omega)⟩
  refine wpList_plain hgd fun K hK => ?_
  unfold Oper.wp execOp
  simp only [ho, haddr, hx, Sem.run_bind, Sem.run_pure, Result.andThen_ok, hrun]
  show K (a.put o.dst undef) _
  rw [hN]
  exact hK a _ (h _ ⟨q1⟩ hfar ⟨hB⟩)
end
def laws_FnRows.T14 : Bool × List (List Nat × List Nat) := (true, [([], []), ([], []), ([], []), ([1, 2], [1, 2]), ([0, 3], [0, 3]), ([4, 3], [4]), ([5], [5]), ([5], [5]), ([6, 7, 5], [5, 6, 7]), ([8, 5, 5], [5, 8]), ([9], [9]), ([10, 9, 9], [9, 10]), ([11, 11, 9], [9, 11]), ([12], [12]), ([13, 12], [12, 13]), ([12], [12]), ([15, 12], [12, 15]), ([12], [12]), ([16, 17, 12], [12, 16, 17]), ([18, 12], [12, 18]), ([14, 19, 12], [12, 14, 19]), ([12, 20, 9], [9, 12, 20]), ([9, 21, 5], [5, 9, 21]), ([5, 22], [5, 22]), ([23, 12], [23]), ([24], [24]), ([25, 24], [24, 25]), ([24], [24]), ([27, 24], [24, 27]), ([26, 28, 24], [24, 26, 28]), ([29, 24, 24], [24, 29]), ([24, 30], [24, 30]), ([31, 30, 0, 1, 2, 3, 4, 5, 6, 7, 8, 9, 10, 11, 12, 13, 14, 15, 16, 17, 18, 19, 20, 21, 22, 23, 24, 25, 26, 27, 28, 29, 30, 31], [31])])
def laws_FnRows.B14 : List Nat := [0, 0, 0, 6, 15, 31, 63, 63, 255, 511, 1023, 2047, 4095, 8191, 16383, 8191, 40959, 8191, 237567, 499711, 1048575, 2097151, 4194303, 8388607, 16777215, 33554431, 67108863, 33554431, 167772159, 536870911, 1073741823, 2147483647, 4294967295]
theorem laws_FnRows.tab14 : rtab .any (opsOf Try.f7 14) = laws_FnRows.T14 := by kernel_rfl
theorem laws_FnRows.bits14 : waitsOk laws_FnRows.T14.2 laws_FnRows.B14 = true := by kernel_rfl
set_option maxHeartbeats 8000000 in
set_option maxRecDepth 100000 in
theorem laws_FnRows.big (A0 : Option Addr) (c0 : Nat) (l0 : List Int) (w : World) (hr0 : Kd.C (Kd.int .u8) w A0 l0.length l0) (hc0 : l0.length ≤ c0) (hbig : laws_big.f l0 = some true) :
    Calls Try.prog 7 #[.slice A0 l0.length c0] w fun e w' => e = .returned (.bool true) ∧ Below w.heap.size w w' := by
  have HR0 := Aside0.mk hr0
  have HC0 := Aside0.mk hc0
  have HG := Aside0.mk hbig
  clear hr0 hc0 hbig
  have HB := Aside0.mk (Below.refl w.heap.size w)
  go_enter Try.func7, Try.ntmps7
  go_wp2_with (first | ((with_reducible refine gate_callee (f := 22) rfl ?_); refine goesL_ (some 10) rfl rfl Try.func22 (by kernel_rfl) rfl #[.slice A0 l0.length c0] rfl (by (try simp only [List.map_toArray, List.map_cons, List.map_nil]); first | done | rfl) ?_; (with_reducible refine (laws_big.calls _ _ l0 true _ ?side1 ?side2 HG.out).mono ?_); (case side1 => exact HR0.out); (case side2 => exact HC0.out); rintro e w' ⟨rfl, ⟨nd, rfl⟩⟩; refine ⟨_, rfl, ?_⟩; have nB_ := Aside0.mk (pw_below_drewN HB.out nd); clear HB; have HB := nB_; clear nB_; generalize w.drewN nd = wz at HB ⊢))
  go_ret
  exact ⟨rfl, HB.out⟩
set_option maxHeartbeats 80000000 in
set_option maxRecDepth 100000 in
theorem laws_FnRows.holds (k : Nat) (A0 : Option Addr) (c0 : Nat) (l0 : List Int) (w : World) (hr0 : Kd.C (Kd.int .u8) w A0 l0.length l0) (hc0 : l0.length ≤ c0) (hbig : laws_big.f l0 = some false)
    (a0 : ByteArray) (a1 : Int) (a2 : Int) (a3 : Bool) (a4 : Int) (a5 : Int) (a6 : Int) (a7 : Int) (a8 : Int) (a9 : Int) (v : Int) (hD : spec_DrawSampled.f k l0 = some (a0, a1, a2, a3, a4, a5, a6, a7, a8, a9, v)) (x0 : ByteArray) (x1 : Int) (x2 : Int) (x3 : Bool) (x4 : Int) (x5 : Int) (x6 : Int) (x7 : Int) (x8 : Int) (x9 : Int) (hI : impl_Sampled.f k a0 a1 a2 a3 a4 a5 a6 a7 a8 a9 v = some (x0, x1, x2, x3, x4, x5, x6, x7, x8, x9)) (hS : spec_Sampled.f k a0 a1 a2 a3 a4 a5 a6 a7 a8 a9 v = some (x0, x1, x2, x3, x4, x5, x6, x7, x8, x9))
    (b : Bool) (hR : spec_RowOk.f k a0 a1 a2 a3 a4 a5 a6 a7 a8 a9 = some b) (hM1 : b = true → a1 = 3 → 0 ≤ v → v ≤ 65535 → impl_RowOk.f k x0 x1 x2 x3 x4 x5 x6 x7 x8 x9 = some true ∧ wrap64 (x5 + x9) = mn (wrap64 (wrap64 (a5 + a9) + 1)) 65538 ∧ (x5 > a5 → x6 ≤ v ∧ v ≤ x7 ∧ x8 = wrap64 (a8 + v))) (hM2 : ¬ (b = true ∧ a1 = 3 ∧ 0 ≤ v ∧ v ≤ 65535) → x0 = a0 ∧ x1 = a1 ∧ x2 = a2 ∧ x3 = a3 ∧ x4 = a4 ∧ x5 = a5 ∧ x6 = a6 ∧ x7 = a7 ∧ x8 = a8 ∧ x9 = a9)
    (e0 : ByteArray) (e1 : Int) (e2 : Int) (e3 : Bool) (e4 : Int) (e5 : Int) (e6 : Int) (e7 : Int) (e8 : Int) (e9 : Int) (s m : Int) (hE : spec_DrawCounted.f k l0 = some (e0, e1, e2, e3, e4, e5, e6, e7, e8, e9, m)) (hJ : impl_Counted.f k e0 e1 e2 e3 e4 e5 e6 e7 e8 e9 m = some (e0, e1, s, e3, e4, e5, e6, e7, e8, e9)) (hT : spec_Counted.f k e0 e1 e2 e3 e4 e5 e6 e7 e8 e9 m = some (e0, e1, s, e3, e4, e5, e6, e7, e8, e9))
    (hY : s = e2 ∨ s ≠ e2 ∧ impl_RowOk.f k e0 e1 s e3 e4 e5 e6 e7 e8 e9 = some true ∧ s = Int.tmod (wrap64 (e2 + m)) 281474976710656) (hQ : impl_Quiet.f e0 e1 0 false 0 0 0 0 0 0 = some true) :
    Calls Try.prog 7 #[.slice A0 l0.length c0] w fun e w' => e = .returned (.bool true) ∧ Below w.heap.size w w' := by
  have hu31 := Try.underlying31
  have HR0 := Aside0.mk hr0
  have HC0 := Aside0.mk hc0
  have Hbig_ := Aside0.mk hbig
  have HD_ := Aside0.mk hD
  have HI_ := Aside0.mk hI
  have HS_ := Aside0.mk hS
  have HR_ := Aside0.mk hR
  have HM1_ := Aside0.mk hM1
  have HM2_ := Aside0.mk hM2
  have HE_ := Aside0.mk hE
  have HJ_ := Aside0.mk hJ
  have HT_ := Aside0.mk hT
  have HY_ := Aside0.mk hY
  have HQ_ := Aside0.mk hQ
  clear hr0 hc0 hbig hD hI hS hR hM1 hM2 hE hJ hT hY hQ
  have HB := Aside0.mk (Below.refl w.heap.size w)
  go_enter Try.func7, Try.ntmps7
  go_wp2_with (first | ((with_reducible refine gate_callee (f := 22) rfl ?_); refine goesL_ (some 10) rfl rfl Try.func22 (by kernel_rfl) rfl #[.slice A0 l0.length c0] rfl (by (try simp only [List.map_toArray, List.map_cons, List.map_nil]); first | done | rfl) ?_; (with_reducible refine (laws_big.calls _ _ l0 false _ ?side1 ?side2 Hbig_.out).mono ?_); (case side1 => exact HR0.out); (case side2 => exact HC0.out); rintro e w' ⟨rfl, ⟨nd, rfl⟩⟩; refine ⟨_, rfl, ?_⟩; have nB_ := Aside0.mk (pw_below_drewN HB.out nd); clear HB; have HB := nB_; clear nB_; generalize w.drewN nd = wz at HB ⊢) | ((with_reducible refine gate_callee (f := 23) rfl ?_); refine goesL_ (some 13) rfl rfl Try.func23 (by kernel_rfl) rfl #[.slice A0 l0.length c0] rfl (by (try simp only [List.map_toArray, List.map_cons, List.map_nil]); first | done | rfl) ?_; (with_reducible refine (spec_DrawSampled.calls k _ _ l0 a0 a1 a2 a3 a4 a5 a6 a7 a8 a9 v _ ?side1 ?side2 HD_.out).mono ?_); (case side1 => exact Kd.C_below HR0.out HB.out); (case side2 => exact HC0.out); rintro e w' ⟨rfl, hb⟩; refine ⟨_, rfl, ?_⟩; have nB_ := Aside0.mk (below_step HB.out hb); clear HB hb; have HB := nB_; clear nB_) | ((with_reducible refine gate_dst (N := 3) rfl ?_); refine box_event ?hg (N := 3) ?hd (cs := #[.string (⟨#[]⟩ : ByteArray), .int .i64 0, .int .i64 0, .bool false, .int .i64 0, .int .i64 0, .int .i64 0, .int .i64 0, .int .i64 0, .int .i64 0]) (t := 31) ?hr ?_; (case hd => rfl); (case hg => rfl); (case hr => first | (go_simp; done) | (go_simp; rfl)); intro gbR hg wR hbox hb; have GER : Aside0 (w.heap.size ≤ gbR) := ⟨by rw [hg]; exact below_size HB.out⟩; have nB_ := Aside0.mk (below_step HB.out hb); clear HB hb; have HB := nB_; clear nB_; have BKR := Aside0.mk hbox; clear hbox hg) | (refine bx_st (t := 31) (g := gbR) (seg := [_, _, _, _, _, _, _, _, _, _]) (cs' := #[_, _, _, _, _, _, _, _, _, _]) (w := w) rfl rfl rfl rfl rfl rfl (by kernel_rfl) rfl BKR.out (Nat.le_of_ble_eq_true rfl) rfl HB.out GER.out ?_; intro wq q1_ hfar q3_; clear hfar HB BKR; have BKR := q1_; have HB := q3_; clear q1_ q3_) | ((with_reducible refine bx_gate (t := 31) rfl ?_); refine bx_loads (t := 31) (g := gbR) rfl rfl rfl Try.underlying31 rfl (by kernel_rfl) BKR.out ?_) | ((with_reducible refine gate_callee (f := 19) rfl ?_); refine goesL_ (some 18) rfl rfl Try.func19 (by kernel_rfl) rfl #[.agg #[.string a0, .int .i64 a1, .int .i64 a2, .bool a3, .int .i64 a4, .int .i64 a5, .int .i64 a6, .int .i64 a7, .int .i64 a8, .int .i64 a9], .int .i64 v] rfl (by (try simp only [List.map_toArray, List.map_cons, List.map_nil]); first | done | rfl) ?_; (with_reducible refine (impl_Sampled.calls k a0 a1 a2 a3 a4 a5 a6 a7 a8 a9 v x0 x1 x2 x3 x4 x5 x6 x7 x8 x9 _ HI_.out).mono ?_); rintro e w' ⟨rfl, hb⟩; refine ⟨_, rfl, ?_⟩; have nR_ := Aside0.mk (blk_below BKR.out hb); have nB_ := Aside0.mk (below_step HB.out hb); clear BKR HB hb; have BKR := nR_; have HB := nB_; clear nR_ nB_) | ((with_reducible refine gate_dst (N := 5) rfl ?_); refine box_event ?hg (N := 5) ?hd (cs := #[.string (⟨#[]⟩ : ByteArray), .int .i64 0, .int .i64 0, .bool false, .int .i64 0, .int .i64 0, .int .i64 0, .int .i64 0, .int .i64 0, .int .i64 0]) (t := 31) ?hr ?_; (case hd => rfl); (case hg => rfl); (case hr => first | (go_simp; done) | (go_simp; rfl)); intro gbX hg wX hbox hb; have GEX : Aside0 (w.heap.size ≤ gbX) := ⟨by rw [hg]; exact below_size HB.out⟩; have NR_X : Aside0 (gbR ≠ gbX) := ⟨by rw [hg]; exact Nat.ne_of_lt (blk_lt BKR.out)⟩; have nR_ := Aside0.mk (blk_below BKR.out hb); have nB_ := Aside0.mk (below_step HB.out hb); clear BKR HB hb; have BKR := nR_; have HB := nB_; clear nR_ nB_; have BKX := Aside0.mk hbox; clear hbox hg) | (refine bx_st (t := 31) (g := gbX) (seg := [_, _, _, _, _, _, _, _, _, _]) (cs' := #[_, _, _, _, _, _, _, _, _, _]) (w := w) rfl rfl rfl rfl rfl rfl (by kernel_rfl) rfl BKX.out (Nat.le_of_ble_eq_true rfl) rfl HB.out GEX.out ?_; intro wq q1_ hfar q3_; have nR_ := Aside0.mk ((hfar _ NR_X.out).trans BKR.out); clear hfar HB BKR BKX; have BKX := q1_; have HB := q3_; clear q1_ q3_; have BKR := nR_; clear nR_))
  have nR_ := Aside0.mk (blk_drew BKR.out)
  have nX_ := Aside0.mk (blk_drew BKX.out)
  have nB_ := Aside0.mk (below_drew1 HB.out)
  clear HB BKR BKX
  have BKR := nR_
  clear nR_
  have BKX := nX_
  clear nX_
  have HB := nB_
  clear nB_
  refine start_ (n := 5) (S := fun w' => w'.heap[gbX]? = some (.cells #[.string x0, .int .i64 x1, .int .i64 x2, .bool x3, .int .i64 x4, .int .i64 x5, .int .i64 x6, .int .i64 x7, .int .i64 x8, .int .i64 x9] 31 (0, 0)) ∧ w'.heap[gbR]? = some (.cells #[.string a0, .int .i64 a1, .int .i64 a2, .bool a3, .int .i64 a4, .int .i64 a5, .int .i64 a6, .int .i64 a7, .int .i64 a8, .int .i64 a9] 31 (0, 0))) (ds := []) #[false, false, false, false, false] (by kernel_rfl) rfl rfl ⟨BKX.out, BKR.out⟩ (fun hHeld => ?_)
  generalize wq.drew = wd at BKR BKX HB hHeld ⊢
  refine pure_ (i := 2) (N := some 21) (v := ?_) (a' := ?_) #[false, false, true, false, false] rfl rfl (by kernel_rfl) (fun _ _ _ h => h) (Or.inl ⟨by rfl, ?_⟩) ?_ ?_
  rotate_left
  · intro w'
    go_simp
    with_reducible rfl
  rotate_left
  · simp only [Act.put, List.setIfInBounds_toArray, List.set_cons_zero, List.set_cons_succ, i64_w, i32_w]
    rfl
  refine take_ (i := 0) (N := some 19) (v := .agg #[.string x0, .int .i64 x1, .int .i64 x2, .bool x3, .int .i64 x4, .int .i64 x5, .int .i64 x6, .int .i64 x7, .int .i64 x8, .int .i64 x9]) (a' := ?_) #[true, false, true, false, false] rfl rfl (by kernel_rfl) (fun _ _ _ h => h) (Or.inl ⟨by rfl, ?_⟩) hHeld ?_ ?_
  · intro w' hs
    exact bx_run_loads (by rfl) (by rfl) Try.underlying31 rfl (by kernel_rfl) (hs.1)
  rotate_left
  · simp only [Act.put, List.setIfInBounds_toArray, List.set_cons_zero, List.set_cons_succ, i64_w, i32_w]
    rfl
  refine take_ (i := 1) (N := some 20) (v := .agg #[.string a0, .int .i64 a1, .int .i64 a2, .bool a3, .int .i64 a4, .int .i64 a5, .int .i64 a6, .int .i64 a7, .int .i64 a8, .int .i64 a9]) (a' := ?_) #[true, true, true, false, false] rfl rfl (by kernel_rfl) (fun _ _ _ h => h) (Or.inl ⟨by rfl, ?_⟩) hHeld ?_ ?_
  · intro w' hs
    exact bx_run_loads (by rfl) (by rfl) Try.underlying31 rfl (by kernel_rfl) (hs.2)
  rotate_left
  · simp only [Act.put, List.setIfInBounds_toArray, List.set_cons_zero, List.set_cons_succ, i64_w, i32_w]
    rfl
  refine one_ (i := 3) (N := some 22) #[true, true, true, true, false] rfl rfl (by kernel_rfl) (by decide) (fun K hK => ?_)
  refine goes_ Try.func18 (by kernel_rfl) rfl #[.agg #[.string a0, .int .i64 a1, .int .i64 a2, .bool a3, .int .i64 a4, .int .i64 a5, .int .i64 a6, .int .i64 a7, .int .i64 a8, .int .i64 a9], .int .i64 v] (by rfl) rfl rfl (by (try simp only [List.map_toArray, List.map_cons, List.map_nil]); first | done | rfl) ?_
  with_reducible refine (spec_Sampled.calls k a0 a1 a2 a3 a4 a5 a6 a7 a8 a9 v x0 x1 x2 x3 x4 x5 x6 x7 x8 x9 _ HS_.out).mono ?_
  rintro e w' ⟨rfl, hb⟩
  refine ⟨_, rfl, ?_⟩
  have nR_ := Aside0.mk (blk_below BKR.out hb)
  have nX_ := Aside0.mk (blk_below BKX.out hb)
  have nB_ := Aside0.mk (below_step HB.out hb)
  clear BKR BKX HB hb
  have BKR := nR_
  have BKX := nX_
  have HB := nB_
  clear nR_ nX_ nB_
  refine hK.out _ _ ⟨BKX.out, BKR.out⟩ (fun hHeld => ?_)
  clear hK K
  refine norm_ (a' := ?_) ?_ ?_
  rotate_left
  · show Act.put _ (some 22) _ = _
    simp only [Act.put, List.setIfInBounds_toArray, List.set_cons_zero, List.set_cons_succ, i64_w, i32_w]
    rfl
  refine pure_ (i := 4) (N := some 23) (v := ?_) (a' := ?_) #[true, true, true, true, true] rfl rfl (by kernel_rfl) (fun _ _ _ h => h) (Or.inl ⟨by rfl, ?_⟩) ?_ ?_
  rotate_left
  · intro w'
    go_simp
    with_reducible rfl
  rotate_left
  · simp only [Act.put, List.setIfInBounds_toArray, List.set_cons_zero, List.set_cons_succ, i64_w, i32_w]
    rfl
  refine done_ (by kernel_rfl) ?_
  go_upto_region 7 with (fail)
  go_cut [38] from 9 to 38 (fun v38 wc => ∃ q : Bool, v38 = .bool q ∧ Aside0 (q = true → impl_RowOk.f k x0 x1 x2 x3 x4 x5 x6 x7 x8 x9 = some true ∧ wrap64 (x5 + x9) = mn (wrap64 (wrap64 (a5 + a9) + 1)) 65538 ∧ (x5 > a5 → x6 ≤ v ∧ v ≤ x7 ∧ x8 = wrap64 (a8 + v))) ∧ Aside0 (q = false → x0 = a0 ∧ x1 = a1 ∧ x2 = a2 ∧ x3 = a3 ∧ x4 = a4 ∧ x5 = a5 ∧ x6 = a6 ∧ x7 = a7 ∧ x8 = a8 ∧ x9 = a9) ∧ Aside0 (wc.heap[gbR]? = some (.cells #[.string a0, .int .i64 a1, .int .i64 a2, .bool a3, .int .i64 a4, .int .i64 a5, .int .i64 a6, .int .i64 a7, .int .i64 a8, .int .i64 a9] 31 (0, 0))) ∧ Aside0 (wc.heap[gbX]? = some (.cells #[.string x0, .int .i64 x1, .int .i64 x2, .bool x3, .int .i64 x4, .int .i64 x5, .int .i64 x6, .int .i64 x7, .int .i64 x8, .int .i64 x9] 31 (0, 0))) ∧ Aside0 (Below w.heap.size w wc))
  case first =>
    cases b with
    | false =>
      have hq_ := Aside0.mk (HM2_.out (fun h => by cases h.1))
      go_wp2_with (first | go_skip | ((with_reducible refine bx_gate (t := 31) rfl ?_); refine bx_loads (t := 31) (g := gbR) rfl rfl rfl Try.underlying31 rfl (by kernel_rfl) BKR.out ?_) | ((with_reducible refine gate_callee (f := 24) rfl ?_); refine goesL_ (some 25) rfl rfl Try.func24 (by kernel_rfl) rfl #[.agg #[.string a0, .int .i64 a1, .int .i64 a2, .bool a3, .int .i64 a4, .int .i64 a5, .int .i64 a6, .int .i64 a7, .int .i64 a8, .int .i64 a9]] rfl (by (try simp only [List.map_toArray, List.map_cons, List.map_nil]); first | done | rfl) ?_; (with_reducible refine (spec_RowOk.calls k a0 a1 a2 a3 a4 a5 a6 a7 a8 a9 false _ HR_.out).mono ?_); rintro e w' ⟨rfl, hb⟩; refine ⟨_, rfl, ?_⟩; have nR_ := Aside0.mk (blk_below BKR.out hb); have nX_ := Aside0.mk (blk_below BKX.out hb); have nB_ := Aside0.mk (below_step HB.out hb); clear BKR BKX HB hb; have BKR := nR_; have BKX := nX_; have HB := nB_; clear nR_ nX_ nB_) | ((with_reducible refine bx_gate (t := 3) rfl ?_); refine bx_loadg (t := 3) (g := gbR) (by kernel_rfl) rfl rfl Try.underlying3 rfl BKR.out rfl ?_))
      go_meet
      case rel => exact ⟨false, (by first | rfl | (simp; done) | (simp [*]; done)), ⟨fun h => by cases h⟩, ⟨fun _ => hq_.out⟩, BKR, BKX, HB⟩
    | true =>
      by_cases c1 : a1 = 3
      · have c1b0 : (a1 == 3) = true := beq_iff_eq.mpr c1
        by_cases c2 : 0 ≤ v
        · by_cases c3 : v ≤ 65535
          · have hq_ := Aside0.mk (HM1_.out rfl c1 c2 c3)
            have c2b0 : decide (0 ≤ v) = true := decide_eq_true c2
            have c3b0 : decide (v ≤ 65535) = true := decide_eq_true c3
            clear c1 c2 c3
            go_wp2_with (first | go_skip | ((with_reducible refine bx_gate (t := 31) rfl ?_); refine bx_loads (t := 31) (g := gbR) rfl rfl rfl Try.underlying31 rfl (by kernel_rfl) BKR.out ?_) | ((with_reducible refine gate_callee (f := 24) rfl ?_); refine goesL_ (some 25) rfl rfl Try.func24 (by kernel_rfl) rfl #[.agg #[.string a0, .int .i64 a1, .int .i64 a2, .bool a3, .int .i64 a4, .int .i64 a5, .int .i64 a6, .int .i64 a7, .int .i64 a8, .int .i64 a9]] rfl (by (try simp only [List.map_toArray, List.map_cons, List.map_nil]); first | done | rfl) ?_; (with_reducible refine (spec_RowOk.calls k a0 a1 a2 a3 a4 a5 a6 a7 a8 a9 true _ HR_.out).mono ?_); rintro e w' ⟨rfl, hb⟩; refine ⟨_, rfl, ?_⟩; have nR_ := Aside0.mk (blk_below BKR.out hb); have nX_ := Aside0.mk (blk_below BKX.out hb); have nB_ := Aside0.mk (below_step HB.out hb); clear BKR BKX HB hb; have BKR := nR_; have BKX := nX_; have HB := nB_; clear nR_ nX_ nB_) | ((with_reducible refine bx_gate (t := 3) rfl ?_); refine bx_loadg (t := 3) (g := gbR) (by kernel_rfl) rfl rfl Try.underlying3 rfl BKR.out rfl ?_))
            go_meet
            case rel => exact ⟨true, (by first | rfl | (simp; done) | (simp [*]; done)), ⟨fun _ => hq_.out⟩, ⟨fun h => by cases h⟩, BKR, BKX, HB⟩
          · have hq_ := Aside0.mk (HM2_.out (fun h => c3 h.2.2.2))
            have c2b0 : decide (0 ≤ v) = true := decide_eq_true c2
            have c3b0 : decide (v ≤ 65535) = false := decide_eq_false c3
            clear c1 c2 c3
            go_wp2_with (first | go_skip | ((with_reducible refine bx_gate (t := 31) rfl ?_); refine bx_loads (t := 31) (g := gbR) rfl rfl rfl Try.underlying31 rfl (by kernel_rfl) BKR.out ?_) | ((with_reducible refine gate_callee (f := 24) rfl ?_); refine goesL_ (some 25) rfl rfl Try.func24 (by kernel_rfl) rfl #[.agg #[.string a0, .int .i64 a1, .int .i64 a2, .bool a3, .int .i64 a4, .int .i64 a5, .int .i64 a6, .int .i64 a7, .int .i64 a8, .int .i64 a9]] rfl (by (try simp only [List.map_toArray, List.map_cons, List.map_nil]); first | done | rfl) ?_; (with_reducible refine (spec_RowOk.calls k a0 a1 a2 a3 a4 a5 a6 a7 a8 a9 true _ HR_.out).mono ?_); rintro e w' ⟨rfl, hb⟩; refine ⟨_, rfl, ?_⟩; have nR_ := Aside0.mk (blk_below BKR.out hb); have nX_ := Aside0.mk (blk_below BKX.out hb); have nB_ := Aside0.mk (below_step HB.out hb); clear BKR BKX HB hb; have BKR := nR_; have BKX := nX_; have HB := nB_; clear nR_ nX_ nB_) | ((with_reducible refine bx_gate (t := 3) rfl ?_); refine bx_loadg (t := 3) (g := gbR) (by kernel_rfl) rfl rfl Try.underlying3 rfl BKR.out rfl ?_))
            go_meet
            case rel => exact ⟨false, (by first | rfl | (simp; done) | (simp [*]; done)), ⟨fun h => by cases h⟩, ⟨fun _ => hq_.out⟩, BKR, BKX, HB⟩
        · have hq_ := Aside0.mk (HM2_.out (fun h => c2 h.2.2.1))
          have c2b0 : decide (0 ≤ v) = false := decide_eq_false c2
          clear c1 c2
          go_wp2_with (first | go_skip | ((with_reducible refine bx_gate (t := 31) rfl ?_); refine bx_loads (t := 31) (g := gbR) rfl rfl rfl Try.underlying31 rfl (by kernel_rfl) BKR.out ?_) | ((with_reducible refine gate_callee (f := 24) rfl ?_); refine goesL_ (some 25) rfl rfl Try.func24 (by kernel_rfl) rfl #[.agg #[.string a0, .int .i64 a1, .int .i64 a2, .bool a3, .int .i64 a4, .int .i64 a5, .int .i64 a6, .int .i64 a7, .int .i64 a8, .int .i64 a9]] rfl (by (try simp only [List.map_toArray, List.map_cons, List.map_nil]); first | done | rfl) ?_; (with_reducible refine (spec_RowOk.calls k a0 a1 a2 a3 a4 a5 a6 a7 a8 a9 true _ HR_.out).mono ?_); rintro e w' ⟨rfl, hb⟩; refine ⟨_, rfl, ?_⟩; have nR_ := Aside0.mk (blk_below BKR.out hb); have nX_ := Aside0.mk (blk_below BKX.out hb); have nB_ := Aside0.mk (below_step HB.out hb); clear BKR BKX HB hb; have BKR := nR_; have BKX := nX_; have HB := nB_; clear nR_ nX_ nB_) | ((with_reducible refine bx_gate (t := 3) rfl ?_); refine bx_loadg (t := 3) (g := gbR) (by kernel_rfl) rfl rfl Try.underlying3 rfl BKR.out rfl ?_))
          go_meet
          case rel => exact ⟨false, (by first | rfl | (simp; done) | (simp [*]; done)), ⟨fun h => by cases h⟩, ⟨fun _ => hq_.out⟩, BKR, BKX, HB⟩
      · have hq_ := Aside0.mk (HM2_.out (fun h => c1 h.2.1))
        have c1b0 : (a1 == 3) = false := beq_eq_false_iff_ne.mpr c1
        clear c1
        go_wp2_with (first | go_skip | ((with_reducible refine bx_gate (t := 31) rfl ?_); refine bx_loads (t := 31) (g := gbR) rfl rfl rfl Try.underlying31 rfl (by kernel_rfl) BKR.out ?_) | ((with_reducible refine gate_callee (f := 24) rfl ?_); refine goesL_ (some 25) rfl rfl Try.func24 (by kernel_rfl) rfl #[.agg #[.string a0, .int .i64 a1, .int .i64 a2, .bool a3, .int .i64 a4, .int .i64 a5, .int .i64 a6, .int .i64 a7, .int .i64 a8, .int .i64 a9]] rfl (by (try simp only [List.map_toArray, List.map_cons, List.map_nil]); first | done | rfl) ?_; (with_reducible refine (spec_RowOk.calls k a0 a1 a2 a3 a4 a5 a6 a7 a8 a9 true _ HR_.out).mono ?_); rintro e w' ⟨rfl, hb⟩; refine ⟨_, rfl, ?_⟩; have nR_ := Aside0.mk (blk_below BKR.out hb); have nX_ := Aside0.mk (blk_below BKX.out hb); have nB_ := Aside0.mk (below_step HB.out hb); clear BKR BKX HB hb; have BKR := nR_; have BKX := nX_; have HB := nB_; clear nR_ nX_ nB_) | ((with_reducible refine bx_gate (t := 3) rfl ?_); refine bx_loadg (t := 3) (g := gbR) (by kernel_rfl) rfl rfl Try.underlying3 rfl BKR.out rfl ?_))
        go_meet
        case rel => exact ⟨false, (by first | rfl | (simp; done) | (simp [*]; done)), ⟨fun h => by cases h⟩, ⟨fun _ => hq_.out⟩, BKR, BKX, HB⟩
  case rest =>
    clear HM1_ HM2_ HR_ HS_ HI_ HD_
    obtain ⟨q, rfl, HQ1, HQ2, BKR, BKX, HB⟩ := hcut
    go_upto_if 38 with (fail)
    go_cut [] from 9 to 87 (fun wc => Aside0 (Below w.heap.size w wc))
    case first =>
      cases q with
      | false =>
        obtain ⟨rfl, rfl, rfl, rfl, rfl, rfl, rfl, rfl, rfl, rfl⟩ := HQ2.out rfl
        clear HQ1 HQ2
        go_wp2_with (first | (refine bx_loads (t := 31) (g := gbR) rfl rfl rfl Try.underlying31 rfl (by kernel_rfl) BKR.out ?_) | (refine bx_loads (t := 31) (g := gbX) rfl rfl rfl Try.underlying31 rfl (by kernel_rfl) BKX.out ?_))
        go_meet
        case rel => exact HB
      | true =>
        obtain ⟨h1, h2, h3⟩ := HQ1.out rfl
        clear HQ1 HQ2
        have G1 := Aside0.mk h1
        clear h1
        obtain ⟨ji, hji⟩ : ∃ j_ : Int, (mn (wrap64 ((wrap64 (a5 + a9)) + 1)) 65538) = j_ := ⟨_, rfl⟩
        rw [hji] at h2
        have hji_ : (if 65538 < (wrap64 ((wrap64 (a5 + a9)) + 1)) then 65538 else (wrap64 ((wrap64 (a5 + a9)) + 1))) = ji := hji
        clear hji
        have c53b0 : ((wrap64 (x5 + x9)) == (ji)) = true := beq_iff_eq.mpr h2
        have c53b1 : ((wrap64 (x5 + x9)) != (ji)) = false := bne_eq_false_iff_eq.mpr h2
        clear h2
        by_cases c54 : x5 > a5
        · obtain ⟨h4, h5, h6⟩ := h3 c54
          have c54b0 : decide (a5 < x5) = true := decide_eq_true c54
          have c55b0 : decide (v < x6) = false := decide_eq_false (by omega)
          have c61b0 : decide (x7 < v) = false := decide_eq_false (by omega)
          have c67b0 : (x8 == (wrap64 (a8 + v))) = true := beq_iff_eq.mpr h6
          have c67b1 : (x8 != (wrap64 (a8 + v))) = false := bne_eq_false_iff_eq.mpr h6
          clear c54 h3 h4 h5 h6
          go_wp2_with (first | go_skip | ((with_reducible refine bx_gate (t := 31) rfl ?_); refine bx_loads (t := 31) (g := gbX) rfl rfl rfl Try.underlying31 rfl (by kernel_rfl) BKX.out ?_) | ((with_reducible refine gate_callee (f := 25) rfl ?_); refine goesL_ (some 40) rfl rfl Try.func25 (by kernel_rfl) rfl #[.agg #[.string x0, .int .i64 x1, .int .i64 x2, .bool x3, .int .i64 x4, .int .i64 x5, .int .i64 x6, .int .i64 x7, .int .i64 x8, .int .i64 x9]] rfl (by (try simp only [List.map_toArray, List.map_cons, List.map_nil]); first | done | rfl) ?_; (with_reducible refine (impl_RowOk.calls k x0 x1 x2 x3 x4 x5 x6 x7 x8 x9 true _ G1.out).mono ?_); rintro e w' ⟨rfl, hb⟩; refine ⟨_, rfl, ?_⟩; have nR_ := Aside0.mk (blk_below BKR.out hb); have nX_ := Aside0.mk (blk_below BKX.out hb); have nB_ := Aside0.mk (below_step HB.out hb); clear BKR BKX HB hb; have BKR := nR_; have BKX := nX_; have HB := nB_; clear nR_ nX_ nB_) | ((with_reducible refine bx_gate (t := 3) rfl ?_); refine bx_loadg (t := 3) (g := gbX) (by kernel_rfl) rfl rfl Try.underlying3 rfl BKX.out rfl ?_) | ((with_reducible refine bx_gate (t := 3) rfl ?_); refine bx_loadg (t := 3) (g := gbR) (by kernel_rfl) rfl rfl Try.underlying3 rfl BKR.out rfl ?_))
          go_meet
          case rel => exact HB
        · have c54b0 : decide (a5 < x5) = false := decide_eq_false c54
          clear c54 h3
          go_wp2_with (first | go_skip | ((with_reducible refine bx_gate (t := 31) rfl ?_); refine bx_loads (t := 31) (g := gbX) rfl rfl rfl Try.underlying31 rfl (by kernel_rfl) BKX.out ?_) | ((with_reducible refine gate_callee (f := 25) rfl ?_); refine goesL_ (some 40) rfl rfl Try.func25 (by kernel_rfl) rfl #[.agg #[.string x0, .int .i64 x1, .int .i64 x2, .bool x3, .int .i64 x4, .int .i64 x5, .int .i64 x6, .int .i64 x7, .int .i64 x8, .int .i64 x9]] rfl (by (try simp only [List.map_toArray, List.map_cons, List.map_nil]); first | done | rfl) ?_; (with_reducible refine (impl_RowOk.calls k x0 x1 x2 x3 x4 x5 x6 x7 x8 x9 true _ G1.out).mono ?_); rintro e w' ⟨rfl, hb⟩; refine ⟨_, rfl, ?_⟩; have nR_ := Aside0.mk (blk_below BKR.out hb); have nX_ := Aside0.mk (blk_below BKX.out hb); have nB_ := Aside0.mk (below_step HB.out hb); clear BKR BKX HB hb; have BKR := nR_; have BKX := nX_; have HB := nB_; clear nR_ nX_ nB_) | ((with_reducible refine bx_gate (t := 3) rfl ?_); refine bx_loadg (t := 3) (g := gbX) (by kernel_rfl) rfl rfl Try.underlying3 rfl BKX.out rfl ?_) | ((with_reducible refine bx_gate (t := 3) rfl ?_); refine bx_loadg (t := 3) (g := gbR) (by kernel_rfl) rfl rfl Try.underlying3 rfl BKR.out rfl ?_))
          go_meet
          case rel => exact HB
    case rest =>
      clear BKR BKX HQ1 HQ2
      have HB := hcut
      clear hcut
      have HX := HB
      clear HB
      have HB := HX
      clear HX
      go_wp2_with (first | ((with_reducible refine gate_callee (f := 26) rfl ?_); refine goesL_ (some 90) rfl rfl Try.func26 (by kernel_rfl) rfl #[.slice A0 l0.length c0] rfl (by (try simp only [List.map_toArray, List.map_cons, List.map_nil]); first | done | rfl) ?_; (with_reducible refine (spec_DrawCounted.calls k _ _ l0 e0 e1 e2 e3 e4 e5 e6 e7 e8 e9 m _ ?side1 ?side2 HE_.out).mono ?_); (case side1 => exact Kd.C_below HR0.out HB.out); (case side2 => exact HC0.out); rintro e w' ⟨rfl, hb⟩; refine ⟨_, rfl, ?_⟩; have nB_ := Aside0.mk (below_step HB.out hb); clear HB hb; have HB := nB_; clear nB_) | ((with_reducible refine gate_dst (N := 6) rfl ?_); refine box_event ?hg (N := 6) ?hd (cs := #[.string (⟨#[]⟩ : ByteArray), .int .i64 0, .int .i64 0, .bool false, .int .i64 0, .int .i64 0, .int .i64 0, .int .i64 0, .int .i64 0, .int .i64 0]) (t := 31) ?hr ?_; (case hd => rfl); (case hg => rfl); (case hr => first | (go_simp; done) | (go_simp; rfl)); intro gbC hg wC hbox hb; have GEC : Aside0 (w.heap.size ≤ gbC) := ⟨by rw [hg]; exact below_size HB.out⟩; have nB_ := Aside0.mk (below_step HB.out hb); clear HB hb; have HB := nB_; clear nB_; have BKC := Aside0.mk hbox; clear hbox hg) | (refine bx_st (t := 31) (g := gbC) (seg := [_, _, _, _, _, _, _, _, _, _]) (cs' := #[_, _, _, _, _, _, _, _, _, _]) (w := w) rfl rfl rfl rfl rfl rfl (by kernel_rfl) rfl BKC.out (Nat.le_of_ble_eq_true rfl) rfl HB.out GEC.out ?_; intro wq q1_ hfar q3_; clear hfar HB BKC; have BKC := q1_; have HB := q3_; clear q1_ q3_) | ((with_reducible refine bx_gate (t := 31) rfl ?_); refine bx_loads (t := 31) (g := gbC) rfl rfl rfl Try.underlying31 rfl (by kernel_rfl) BKC.out ?_) | ((with_reducible refine gate_callee (f := 16) rfl ?_); refine goesL_ (some 95) rfl rfl Try.func16 (by kernel_rfl) rfl #[.agg #[.string e0, .int .i64 e1, .int .i64 e2, .bool e3, .int .i64 e4, .int .i64 e5, .int .i64 e6, .int .i64 e7, .int .i64 e8, .int .i64 e9], .int .i64 m] rfl (by (try simp only [List.map_toArray, List.map_cons, List.map_nil]); first | done | rfl) ?_; (with_reducible refine (impl_Counted.calls k e0 e1 e2 e3 e4 e5 e6 e7 e8 e9 m e0 e1 s e3 e4 e5 e6 e7 e8 e9 _ HJ_.out).mono ?_); rintro e w' ⟨rfl, hb⟩; refine ⟨_, rfl, ?_⟩; have nC_ := Aside0.mk (blk_below BKC.out hb); have nB_ := Aside0.mk (below_step HB.out hb); clear BKC HB hb; have BKC := nC_; have HB := nB_; clear nC_ nB_) | ((with_reducible refine gate_dst (N := 8) rfl ?_); refine box_event ?hg (N := 8) ?hd (cs := #[.string (⟨#[]⟩ : ByteArray), .int .i64 0, .int .i64 0, .bool false, .int .i64 0, .int .i64 0, .int .i64 0, .int .i64 0, .int .i64 0, .int .i64 0]) (t := 31) ?hr ?_; (case hd => rfl); (case hg => rfl); (case hr => first | (go_simp; done) | (go_simp; rfl)); intro gbY hg wY hbox hb; have GEY : Aside0 (w.heap.size ≤ gbY) := ⟨by rw [hg]; exact below_size HB.out⟩; have NC_Y : Aside0 (gbC ≠ gbY) := ⟨by rw [hg]; exact Nat.ne_of_lt (blk_lt BKC.out)⟩; have nC_ := Aside0.mk (blk_below BKC.out hb); have nB_ := Aside0.mk (below_step HB.out hb); clear BKC HB hb; have BKC := nC_; have HB := nB_; clear nC_ nB_; have BKY := Aside0.mk hbox; clear hbox hg) | (refine bx_st (t := 31) (g := gbY) (seg := [_, _, _, _, _, _, _, _, _, _]) (cs' := #[_, _, _, _, _, _, _, _, _, _]) (w := w) rfl rfl rfl rfl rfl rfl (by kernel_rfl) rfl BKY.out (Nat.le_of_ble_eq_true rfl) rfl HB.out GEY.out ?_; intro wq q1_ hfar q3_; have nC_ := Aside0.mk ((hfar _ NC_Y.out).trans BKC.out); clear hfar HB BKC BKY; have BKY := q1_; have HB := q3_; clear q1_ q3_; have BKC := nC_; clear nC_))
      have HT2_ := HT_
      clear HT_
      rcases HY_.out with hy | ⟨hy, h1, h2⟩
      · clear HY_
        have hy2 := hy.symm
        clear hy
        subst hy2
        have nC_ := Aside0.mk (blk_drew BKC.out)
        have nY_ := Aside0.mk (blk_drew BKY.out)
        have nB_ := Aside0.mk (below_drew1 HB.out)
        clear HB BKC BKY
        have BKC := nC_
        clear nC_
        have BKY := nY_
        clear nY_
        have HB := nB_
        clear nB_
        refine start_ (n := 33) (S := fun w' => w'.heap[gbY]? = some (.cells #[.string e0, .int .i64 e1, .int .i64 e2, .bool e3, .int .i64 e4, .int .i64 e5, .int .i64 e6, .int .i64 e7, .int .i64 e8, .int .i64 e9] 31 (0, 0)) ∧ w'.heap[gbC]? = some (.cells #[.string e0, .int .i64 e1, .int .i64 e2, .bool e3, .int .i64 e4, .int .i64 e5, .int .i64 e6, .int .i64 e7, .int .i64 e8, .int .i64 e9] 31 (0, 0))) (ds := []) #[false, false, false, false, false, false, false, false, false, false, false, false, false, false, false, false, false, false, false, false, false, false, false, false, false, false, false, false, false, false, false, false, false] (by kernel_rfl) rfl rfl ⟨BKY.out, BKC.out⟩ (fun hHeld => ?_)
        refine with_tabW laws_FnRows.tab14 laws_FnRows.bits14 (fun HT_ HW_ => ?_)
        generalize wq.drew = wd at BKC BKY HB hHeld ⊢
        refine pure_ (i := 2) (N := some 98) (v := ?_) (a' := ?_) #[false, false, true, false, false, false, false, false, false, false, false, false, false, false, false, false, false, false, false, false, false, false, false, false, false, false, false, false, false, false, false, false, false] rfl rfl (any_of HT_.out (by kernel_rfl)) (fun _ _ _ h => h) (Or.inl ⟨by rfl, ?_⟩) ?_ ?_
        rotate_left
        · intro w'
          go_simp
          with_reducible rfl
        rotate_left
        · simp only [Act.put, List.setIfInBounds_toArray, List.set_cons_zero, List.set_cons_succ, i64_w, i32_w]
          rfl
        refine take_ (i := 0) (N := some 96) (v := .agg #[.string e0, .int .i64 e1, .int .i64 e2, .bool e3, .int .i64 e4, .int .i64 e5, .int .i64 e6, .int .i64 e7, .int .i64 e8, .int .i64 e9]) (a' := ?_) #[true, false, true, false, false, false, false, false, false, false, false, false, false, false, false, false, false, false, false, false, false, false, false, false, false, false, false, false, false, false, false, false, false] rfl rfl (take_ofW HT_.out HW_.out (by kernel_rfl)) (fun _ _ _ h => h) (Or.inl ⟨by rfl, ?_⟩) hHeld ?_ ?_
        · intro w' hs
          exact bx_run_loads (by rfl) (by rfl) Try.underlying31 rfl (by kernel_rfl) (hs.1)
        rotate_left
        · simp only [Act.put, List.setIfInBounds_toArray, List.set_cons_zero, List.set_cons_succ, i64_w, i32_w]
          rfl
        refine take_ (i := 1) (N := some 97) (v := .agg #[.string e0, .int .i64 e1, .int .i64 e2, .bool e3, .int .i64 e4, .int .i64 e5, .int .i64 e6, .int .i64 e7, .int .i64 e8, .int .i64 e9]) (a' := ?_) #[true, true, true, false, false, false, false, false, false, false, false, false, false, false, false, false, false, false, false, false, false, false, false, false, false, false, false, false, false, false, false, false, false] rfl rfl (take_ofW HT_.out HW_.out (by kernel_rfl)) (fun _ _ _ h => h) (Or.inl ⟨by rfl, ?_⟩) hHeld ?_ ?_
        · intro w' hs
          exact bx_run_loads (by rfl) (by rfl) Try.underlying31 rfl (by kernel_rfl) (hs.2)
        rotate_left
        · simp only [Act.put, List.setIfInBounds_toArray, List.set_cons_zero, List.set_cons_succ, i64_w, i32_w]
          rfl
        refine one_ (i := 3) (N := some 99) #[true, true, true, true, false, false, false, false, false, false, false, false, false, false, false, false, false, false, false, false, false, false, false, false, false, false, false, false, false, false, false, false, false] rfl rfl (one_of HT_.out (by kernel_rfl)) (by decide) (fun K hK => ?_)
        refine goes_ Try.func14 (by kernel_rfl) rfl #[.agg #[.string e0, .int .i64 e1, .int .i64 e2, .bool e3, .int .i64 e4, .int .i64 e5, .int .i64 e6, .int .i64 e7, .int .i64 e8, .int .i64 e9], .int .i64 m] (by rfl) rfl rfl (by (try simp only [List.map_toArray, List.map_cons, List.map_nil]); first | done | rfl) ?_
        with_reducible refine (spec_Counted.calls k e0 e1 e2 e3 e4 e5 e6 e7 e8 e9 m e0 e1 e2 e3 e4 e5 e6 e7 e8 e9 _ HT2_.out).mono ?_
        rintro e w' ⟨rfl, hb⟩
        refine ⟨_, rfl, ?_⟩
        have nC_ := Aside0.mk (blk_below BKC.out hb)
        have nY_ := Aside0.mk (blk_below BKY.out hb)
        have nB_ := Aside0.mk (below_step HB.out hb)
        clear BKC BKY HB hb
        have BKC := nC_
        have BKY := nY_
        have HB := nB_
        clear nC_ nY_ nB_
        refine hK.out _ _ ⟨BKY.out, BKC.out⟩ (fun hHeld => ?_)
        clear hK K
        refine norm_ (a' := ?_) ?_ ?_
        rotate_left
        · show Act.put _ (some 99) _ = _
          simp only [Act.put, List.setIfInBounds_toArray, List.set_cons_zero, List.set_cons_succ, i64_w, i32_w]
          rfl
        refine pure_ (i := 4) (N := some 100) (v := ?_) (a' := ?_) #[true, true, true, true, true, false, false, false, false, false, false, false, false, false, false, false, false, false, false, false, false, false, false, false, false, false, false, false, false, false, false, false, false] rfl rfl (any_of HT_.out (by kernel_rfl)) (fun _ _ _ h => h) (Or.inl ⟨by rfl, ?_⟩) ?_ ?_
        rotate_left
        · intro w'
          go_simp
          with_reducible rfl
        rotate_left
        · simp only [Act.put, List.setIfInBounds_toArray, List.set_cons_zero, List.set_cons_succ, i64_w, i32_w]
          rfl
        refine pure_ (i := 5) (N := some 101) (v := ?_) (a' := ?_) #[true, true, true, true, true, true, false, false, false, false, false, false, false, false, false, false, false, false, false, false, false, false, false, false, false, false, false, false, false, false, false, false, false] rfl rfl (any_of HT_.out (by kernel_rfl)) (fun _ _ _ h => h) (Or.inl ⟨by rfl, ?_⟩) ?_ ?_
        rotate_left
        · intro w'
          go_simp
          with_reducible rfl
        rotate_left
        · simp only [Act.put, List.setIfInBounds_toArray, List.set_cons_zero, List.set_cons_succ, i64_w, i32_w]
          rfl
        refine take_ (i := 6) (N := some 102) (v := .agg #[.string e0, .int .i64 e1, .int .i64 e2, .bool e3, .int .i64 e4, .int .i64 e5, .int .i64 e6, .int .i64 e7, .int .i64 e8, .int .i64 e9]) (a' := ?_) #[true, true, true, true, true, true, true, false, false, false, false, false, false, false, false, false, false, false, false, false, false, false, false, false, false, false, false, false, false, false, false, false, false] rfl rfl (take_ofW HT_.out HW_.out (by kernel_rfl)) (fun _ _ _ h => h) (Or.inl ⟨by rfl, ?_⟩) hHeld ?_ ?_
        · intro w' hs
          exact bx_run_loads (by rfl) (by rfl) Try.underlying31 rfl (by kernel_rfl) (hs.1)
        rotate_left
        · simp only [Act.put, List.setIfInBounds_toArray, List.set_cons_zero, List.set_cons_succ, i64_w, i32_w]
          rfl
        refine take_ (i := 7) (N := some 103) (v := .agg #[.string e0, .int .i64 e1, .int .i64 e2, .bool e3, .int .i64 e4, .int .i64 e5, .int .i64 e6, .int .i64 e7, .int .i64 e8, .int .i64 e9]) (a' := ?_) #[true, true, true, true, true, true, true, true, false, false, false, false, false, false, false, false, false, false, false, false, false, false, false, false, false, false, false, false, false, false, false, false, false] rfl rfl (take_ofW HT_.out HW_.out (by kernel_rfl)) (fun _ _ _ h => h) (Or.inl ⟨by rfl, ?_⟩) hHeld ?_ ?_
        · intro w' hs
          exact bx_run_loads (by rfl) (by rfl) Try.underlying31 rfl (by kernel_rfl) (hs.2)
        rotate_left
        · simp only [Act.put, List.setIfInBounds_toArray, List.set_cons_zero, List.set_cons_succ, i64_w, i32_w]
          rfl
        refine pure_ (i := 8) (N := some 104) (v := ?_) (a' := ?_) #[true, true, true, true, true, true, true, true, true, false, false, false, false, false, false, false, false, false, false, false, false, false, false, false, false, false, false, false, false, false, false, false, false] rfl rfl (any_of HT_.out (by kernel_rfl)) (fun _ _ _ h => h) (Or.inl ⟨by rfl, ?_⟩) ?_ ?_
        rotate_left
        · intro w'
          go_simp
          with_reducible rfl
        rotate_left
        · simp only [Act.put, List.setIfInBounds_toArray, List.set_cons_zero, List.set_cons_succ, i64_w, i32_w]
          rfl
        refine pure_ (i := 9) (N := some 105) (v := ?_) (a' := ?_) #[true, true, true, true, true, true, true, true, true, true, false, false, false, false, false, false, false, false, false, false, false, false, false, false, false, false, false, false, false, false, false, false, false] rfl rfl (any_of HT_.out (by kernel_rfl)) (fun _ _ _ h => h) (Or.inl ⟨by rfl, ?_⟩) ?_ ?_
        rotate_left
        · intro w'
          go_simp
          with_reducible rfl
        rotate_left
        · simp only [Act.put, List.setIfInBounds_toArray, List.set_cons_zero, List.set_cons_succ, i64_w, i32_w]
          rfl
        refine pure_ (i := 10) (N := some 106) (v := undef) (a' := ?_) #[true, true, true, true, true, true, true, true, true, true, true, false, false, false, false, false, false, false, false, false, false, false, false, false, false, false, false, false, false, false, false, false, false] rfl rfl (any_of HT_.out (by kernel_rfl)) (fun _ _ _ h => h) (Or.inr ⟨by rfl, rfl⟩) ?_ ?_
        rotate_left
        · simp only [Act.put, List.setIfInBounds_toArray, List.set_cons_zero, List.set_cons_succ, i64_w, i32_w]
          rfl
        refine pure_ (i := 11) (N := some 107) (v := undef) (a' := ?_) #[true, true, true, true, true, true, true, true, true, true, true, true, false, false, false, false, false, false, false, false, false, false, false, false, false, false, false, false, false, false, false, false, false] rfl rfl (any_of HT_.out (by kernel_rfl)) (fun _ _ _ h => h) (Or.inr ⟨by rfl, rfl⟩) ?_ ?_
        rotate_left
        · simp only [Act.put, List.setIfInBounds_toArray, List.set_cons_zero, List.set_cons_succ, i64_w, i32_w]
          rfl
        refine pure_ (i := 12) (N := some 108) (v := undef) (a' := ?_) #[true, true, true, true, true, true, true, true, true, true, true, true, true, false, false, false, false, false, false, false, false, false, false, false, false, false, false, false, false, false, false, false, false] rfl rfl (any_of HT_.out (by kernel_rfl)) (fun _ _ _ h => h) (Or.inr ⟨by rfl, rfl⟩) ?_ ?_
        rotate_left
        · simp only [Act.put, List.setIfInBounds_toArray, List.set_cons_zero, List.set_cons_succ, i64_w, i32_w]
          rfl
        refine pure_ (i := 13) (N := some 109) (v := undef) (a' := ?_) #[true, true, true, true, true, true, true, true, true, true, true, true, true, true, false, false, false, false, false, false, false, false, false, false, false, false, false, false, false, false, false, false, false] rfl rfl (any_of HT_.out (by kernel_rfl)) (fun _ _ _ h => h) (Or.inr ⟨by rfl, rfl⟩) ?_ ?_
        rotate_left
        · simp only [Act.put, List.setIfInBounds_toArray, List.set_cons_zero, List.set_cons_succ, i64_w, i32_w]
          rfl
        refine pure_ (i := 14) (N := some 110) (v := undef) (a' := ?_) #[true, true, true, true, true, true, true, true, true, true, true, true, true, true, true, false, false, false, false, false, false, false, false, false, false, false, false, false, false, false, false, false, false] rfl rfl (any_of HT_.out (by kernel_rfl)) (fun _ _ _ h => h) (Or.inr ⟨by rfl, rfl⟩) ?_ ?_
        rotate_left
        · simp only [Act.put, List.setIfInBounds_toArray, List.set_cons_zero, List.set_cons_succ, i64_w, i32_w]
          rfl
        refine pure_ (i := 15) (N := some 111) (v := undef) (a' := ?_) #[true, true, true, true, true, true, true, true, true, true, true, true, true, true, true, true, false, false, false, false, false, false, false, false, false, false, false, false, false, false, false, false, false] rfl rfl (any_of HT_.out (by kernel_rfl)) (fun _ _ _ h => h) (Or.inr ⟨by rfl, rfl⟩) ?_ ?_
        rotate_left
        · simp only [Act.put, List.setIfInBounds_toArray, List.set_cons_zero, List.set_cons_succ, i64_w, i32_w]
          rfl
        refine pure_ (i := 16) (N := some 112) (v := undef) (a' := ?_) #[true, true, true, true, true, true, true, true, true, true, true, true, true, true, true, true, true, false, false, false, false, false, false, false, false, false, false, false, false, false, false, false, false] rfl rfl (any_of HT_.out (by kernel_rfl)) (fun _ _ _ h => h) (Or.inr ⟨by rfl, rfl⟩) ?_ ?_
        rotate_left
        · simp only [Act.put, List.setIfInBounds_toArray, List.set_cons_zero, List.set_cons_succ, i64_w, i32_w]
          rfl
        refine pure_ (i := 17) (N := some 113) (v := undef) (a' := ?_) #[true, true, true, true, true, true, true, true, true, true, true, true, true, true, true, true, true, true, false, false, false, false, false, false, false, false, false, false, false, false, false, false, false] rfl rfl (any_of HT_.out (by kernel_rfl)) (fun _ _ _ h => h) (Or.inr ⟨by rfl, rfl⟩) ?_ ?_
        rotate_left
        · simp only [Act.put, List.setIfInBounds_toArray, List.set_cons_zero, List.set_cons_succ, i64_w, i32_w]
          rfl
        refine pure_ (i := 18) (N := some 114) (v := undef) (a' := ?_) #[true, true, true, true, true, true, true, true, true, true, true, true, true, true, true, true, true, true, true, false, false, false, false, false, false, false, false, false, false, false, false, false, false] rfl rfl (any_of HT_.out (by kernel_rfl)) (fun _ _ _ h => h) (Or.inr ⟨by rfl, rfl⟩) ?_ ?_
        rotate_left
        · simp only [Act.put, List.setIfInBounds_toArray, List.set_cons_zero, List.set_cons_succ, i64_w, i32_w]
          rfl
        refine pure_ (i := 19) (N := some 115) (v := undef) (a' := ?_) #[true, true, true, true, true, true, true, true, true, true, true, true, true, true, true, true, true, true, true, true, false, false, false, false, false, false, false, false, false, false, false, false, false] rfl rfl (any_of HT_.out (by kernel_rfl)) (fun _ _ _ h => h) (Or.inr ⟨by rfl, rfl⟩) ?_ ?_
        rotate_left
        · simp only [Act.put, List.setIfInBounds_toArray, List.set_cons_zero, List.set_cons_succ, i64_w, i32_w]
          rfl
        refine pure_ (i := 20) (N := some 116) (v := undef) (a' := ?_) #[true, true, true, true, true, true, true, true, true, true, true, true, true, true, true, true, true, true, true, true, true, false, false, false, false, false, false, false, false, false, false, false, false] rfl rfl (any_of HT_.out (by kernel_rfl)) (fun _ _ _ h => h) (Or.inr ⟨by rfl, rfl⟩) ?_ ?_
        rotate_left
        · simp only [Act.put, List.setIfInBounds_toArray, List.set_cons_zero, List.set_cons_succ, i64_w, i32_w]
          rfl
        refine pure_ (i := 21) (N := some 117) (v := undef) (a' := ?_) #[true, true, true, true, true, true, true, true, true, true, true, true, true, true, true, true, true, true, true, true, true, true, false, false, false, false, false, false, false, false, false, false, false] rfl rfl (any_of HT_.out (by kernel_rfl)) (fun _ _ _ h => h) (Or.inr ⟨by rfl, rfl⟩) ?_ ?_
        rotate_left
        · simp only [Act.put, List.setIfInBounds_toArray, List.set_cons_zero, List.set_cons_succ, i64_w, i32_w]
          rfl
        refine pure_ (i := 22) (N := some 118) (v := ?_) (a' := ?_) #[true, true, true, true, true, true, true, true, true, true, true, true, true, true, true, true, true, true, true, true, true, true, true, false, false, false, false, false, false, false, false, false, false] rfl rfl (any_of HT_.out (by kernel_rfl)) (fun _ _ _ h => h) (Or.inl ⟨by rfl, ?_⟩) ?_ ?_
        rotate_left
        · intro w'
          go_simp
          with_reducible rfl
        rotate_left
        · simp only [Act.put, List.setIfInBounds_toArray, List.set_cons_zero, List.set_cons_succ, i64_w, i32_w]
          rfl
        refine pure_ (i := 23) (N := some 119) (v := ?_) (a' := ?_) #[true, true, true, true, true, true, true, true, true, true, true, true, true, true, true, true, true, true, true, true, true, true, true, true, false, false, false, false, false, false, false, false, false] rfl rfl (any_of HT_.out (by kernel_rfl)) (fun _ _ _ h => h) (Or.inl ⟨by rfl, ?_⟩) ?_ ?_
        rotate_left
        · intro w'
          go_simp
          with_reducible rfl
        rotate_left
        · simp only [Act.put, List.setIfInBounds_toArray, List.set_cons_zero, List.set_cons_succ, i64_w, i32_w]
          rfl
        refine pure_ (i := 24) (N := some 120) (v := ?_) (a' := ?_) #[true, true, true, true, true, true, true, true, true, true, true, true, true, true, true, true, true, true, true, true, true, true, true, true, true, false, false, false, false, false, false, false, false] rfl rfl (any_of HT_.out (by kernel_rfl)) (fun _ _ _ h => h) (Or.inl ⟨by rfl, ?_⟩) ?_ ?_
        rotate_left
        · intro w'
          go_simp
          with_reducible rfl
        rotate_left
        · simp only [Act.put, List.setIfInBounds_toArray, List.set_cons_zero, List.set_cons_succ, i64_w, i32_w]
          rfl
        refine pure_ (i := 25) (N := some 121) (v := ?_) (a' := ?_) #[true, true, true, true, true, true, true, true, true, true, true, true, true, true, true, true, true, true, true, true, true, true, true, true, true, true, false, false, false, false, false, false, false] rfl rfl (any_of HT_.out (by kernel_rfl)) (fun _ _ _ h => h) (Or.inl ⟨by rfl, ?_⟩) ?_ ?_
        rotate_left
        · intro w'
          go_simp
          with_reducible rfl
        rotate_left
        · simp only [Act.put, List.setIfInBounds_toArray, List.set_cons_zero, List.set_cons_succ, i64_w, i32_w]
          rfl
        refine pure_ (i := 27) (N := some 123) (v := ?_) (a' := ?_) #[true, true, true, true, true, true, true, true, true, true, true, true, true, true, true, true, true, true, true, true, true, true, true, true, true, true, false, true, false, false, false, false, false] rfl rfl (any_of HT_.out (by kernel_rfl)) (fun _ _ _ h => h) (Or.inl ⟨by rfl, ?_⟩) ?_ ?_
        rotate_left
        · intro w'
          go_simp
          with_reducible rfl
        rotate_left
        · simp only [Act.put, List.setIfInBounds_toArray, List.set_cons_zero, List.set_cons_succ, i64_w, i32_w]
          rfl
        refine take_ (i := 26) (N := some 122) (v := .string e0) (a' := ?_) #[true, true, true, true, true, true, true, true, true, true, true, true, true, true, true, true, true, true, true, true, true, true, true, true, true, true, true, true, false, false, false, false, false] rfl rfl (take_ofW HT_.out HW_.out (by kernel_rfl)) (fun _ _ _ h => h) (Or.inl ⟨by rfl, ?_⟩) hHeld ?_ ?_
        · intro w' hs
          exact bx_run_load (by rfl) (by rfl) Try.underlying9 rfl (hs.2) rfl
        rotate_left
        · simp only [Act.put, List.setIfInBounds_toArray, List.set_cons_zero, List.set_cons_succ, i64_w, i32_w]
          rfl
        refine take_ (i := 28) (N := some 124) (v := .int .i64 e1) (a' := ?_) #[true, true, true, true, true, true, true, true, true, true, true, true, true, true, true, true, true, true, true, true, true, true, true, true, true, true, true, true, true, false, false, false, false] rfl rfl (take_ofW HT_.out HW_.out (by kernel_rfl)) (fun _ _ _ h => h) (Or.inl ⟨by rfl, ?_⟩) hHeld ?_ ?_
        · intro w' hs
          exact bx_run_load (by rfl) (by rfl) Try.underlying3 rfl (hs.2) rfl
        rotate_left
        · simp only [Act.put, List.setIfInBounds_toArray, List.set_cons_zero, List.set_cons_succ, i64_w, i32_w]
          rfl
        refine pure_ (i := 29) (N := some 125) (v := ?_) (a' := ?_) #[true, true, true, true, true, true, true, true, true, true, true, true, true, true, true, true, true, true, true, true, true, true, true, true, true, true, true, true, true, true, false, false, false] rfl rfl (any_of HT_.out (by kernel_rfl)) (fun _ _ _ h => h) (Or.inl ⟨by rfl, ?_⟩) ?_ ?_
        rotate_left
        · intro w'
          go_simp
          with_reducible rfl
        rotate_left
        · simp only [Act.put, List.setIfInBounds_toArray, List.set_cons_zero, List.set_cons_succ, i64_w, i32_w]
          rfl
        refine one_ (i := 30) (N := some 126) #[true, true, true, true, true, true, true, true, true, true, true, true, true, true, true, true, true, true, true, true, true, true, true, true, true, true, true, true, true, true, true, false, false] rfl rfl (one_of HT_.out (by kernel_rfl)) (by decide) (fun K hK => ?_)
        refine goes_ Try.func27 (by kernel_rfl) rfl #[.agg #[.string e0, .int .i64 e1, .int .i64 0, .bool false, .int .i64 0, .int .i64 0, .int .i64 0, .int .i64 0, .int .i64 0, .int .i64 0]] (by rfl) rfl rfl (by (try simp only [List.map_toArray, List.map_cons, List.map_nil]); first | done | rfl) ?_
        with_reducible refine (impl_Quiet.calls e0 e1 0 false 0 0 0 0 0 0 true _ HQ_.out).mono ?_
        rintro e w' ⟨rfl, hb⟩
        refine ⟨_, rfl, ?_⟩
        have nC_ := Aside0.mk (blk_below BKC.out hb)
        have nY_ := Aside0.mk (blk_below BKY.out hb)
        have nB_ := Aside0.mk (below_step HB.out hb)
        clear BKC BKY HB hb
        have BKC := nC_
        have BKY := nY_
        have HB := nB_
        clear nC_ nY_ nB_
        refine hK.out _ _ ⟨BKY.out, BKC.out⟩ (fun hHeld => ?_)
        clear hK K
        refine norm_ (a' := ?_) ?_ ?_
        rotate_left
        · show Act.put _ (some 126) _ = _
          simp only [Act.put, List.setIfInBounds_toArray, List.set_cons_zero, List.set_cons_succ, i64_w, i32_w]
          rfl
        refine pure_ (i := 31) (N := some 127) (v := ?_) (a' := ?_) #[true, true, true, true, true, true, true, true, true, true, true, true, true, true, true, true, true, true, true, true, true, true, true, true, true, true, true, true, true, true, true, true, false] rfl rfl (any_of HT_.out (by kernel_rfl)) (fun _ _ _ h => h) (Or.inl ⟨by rfl, ?_⟩) ?_ ?_
        rotate_left
        · intro w'
          go_simp
          with_reducible rfl
        rotate_left
        · simp only [Act.put, List.setIfInBounds_toArray, List.set_cons_zero, List.set_cons_succ, i64_w, i32_w]
          rfl
        refine pure_ (i := 32) (N := some 2) (v := ?_) (a' := ?_) #[true, true, true, true, true, true, true, true, true, true, true, true, true, true, true, true, true, true, true, true, true, true, true, true, true, true, true, true, true, true, true, true, true] rfl rfl (any_of HT_.out (by kernel_rfl)) (fun _ _ _ h => h) (Or.inl ⟨by rfl, ?_⟩) ?_ ?_
        rotate_left
        · intro w'
          go_simp
          with_reducible rfl
        rotate_left
        · simp only [Act.put, List.setIfInBounds_toArray, List.set_cons_zero, List.set_cons_succ, i64_w, i32_w]
          rfl
        refine done_ (done_of HT_.out (by kernel_rfl)) ?_
        try go_wp2
        go_ret
        exact ⟨rfl, HB.out⟩
      · clear HY_
        have G1 := Aside0.mk h1
        clear h1
        have cy0 : (s == e2) = false := beq_eq_false_iff_ne.mpr hy
        have cz0 : (s == Int.tmod (wrap64 (e2 + m)) 281474976710656) = true := beq_iff_eq.mpr h2
        clear hy h2
        have nC_ := Aside0.mk (blk_drew BKC.out)
        have nY_ := Aside0.mk (blk_drew BKY.out)
        have nB_ := Aside0.mk (below_drew1 HB.out)
        clear HB BKC BKY
        have BKC := nC_
        clear nC_
        have BKY := nY_
        clear nY_
        have HB := nB_
        clear nB_
        refine start_ (n := 33) (S := fun w' => w'.heap[gbY]? = some (.cells #[.string e0, .int .i64 e1, .int .i64 s, .bool e3, .int .i64 e4, .int .i64 e5, .int .i64 e6, .int .i64 e7, .int .i64 e8, .int .i64 e9] 31 (0, 0)) ∧ w'.heap[gbC]? = some (.cells #[.string e0, .int .i64 e1, .int .i64 e2, .bool e3, .int .i64 e4, .int .i64 e5, .int .i64 e6, .int .i64 e7, .int .i64 e8, .int .i64 e9] 31 (0, 0))) (ds := []) #[false, false, false, false, false, false, false, false, false, false, false, false, false, false, false, false, false, false, false, false, false, false, false, false, false, false, false, false, false, false, false, false, false] (by kernel_rfl) rfl rfl ⟨BKY.out, BKC.out⟩ (fun hHeld => ?_)
        refine with_tabW laws_FnRows.tab14 laws_FnRows.bits14 (fun HT_ HW_ => ?_)
        generalize wq.drew = wd at BKC BKY HB hHeld ⊢
        refine pure_ (i := 2) (N := some 98) (v := ?_) (a' := ?_) #[false, false, true, false, false, false, false, false, false, false, false, false, false, false, false, false, false, false, false, false, false, false, false, false, false, false, false, false, false, false, false, false, false] rfl rfl (any_of HT_.out (by kernel_rfl)) (fun _ _ _ h => h) (Or.inl ⟨by rfl, ?_⟩) ?_ ?_
        rotate_left
        · intro w'
          go_simp
          with_reducible rfl
        rotate_left
        · simp only [Act.put, List.setIfInBounds_toArray, List.set_cons_zero, List.set_cons_succ, i64_w, i32_w]
          rfl
        refine take_ (i := 0) (N := some 96) (v := .agg #[.string e0, .int .i64 e1, .int .i64 s, .bool e3, .int .i64 e4, .int .i64 e5, .int .i64 e6, .int .i64 e7, .int .i64 e8, .int .i64 e9]) (a' := ?_) #[true, false, true, false, false, false, false, false, false, false, false, false, false, false, false, false, false, false, false, false, false, false, false, false, false, false, false, false, false, false, false, false, false] rfl rfl (take_ofW HT_.out HW_.out (by kernel_rfl)) (fun _ _ _ h => h) (Or.inl ⟨by rfl, ?_⟩) hHeld ?_ ?_
        · intro w' hs
          exact bx_run_loads (by rfl) (by rfl) Try.underlying31 rfl (by kernel_rfl) (hs.1)
        rotate_left
        · simp only [Act.put, List.setIfInBounds_toArray, List.set_cons_zero, List.set_cons_succ, i64_w, i32_w]
          rfl
        refine take_ (i := 1) (N := some 97) (v := .agg #[.string e0, .int .i64 e1, .int .i64 e2, .bool e3, .int .i64 e4, .int .i64 e5, .int .i64 e6, .int .i64 e7, .int .i64 e8, .int .i64 e9]) (a' := ?_) #[true, true, true, false, false, false, false, false, false, false, false, false, false, false, false, false, false, false, false, false, false, false, false, false, false, false, false, false, false, false, false, false, false] rfl rfl (take_ofW HT_.out HW_.out (by kernel_rfl)) (fun _ _ _ h => h) (Or.inl ⟨by rfl, ?_⟩) hHeld ?_ ?_
        · intro w' hs
          exact bx_run_loads (by rfl) (by rfl) Try.underlying31 rfl (by kernel_rfl) (hs.2)
        rotate_left
        · simp only [Act.put, List.setIfInBounds_toArray, List.set_cons_zero, List.set_cons_succ, i64_w, i32_w]
          rfl
        refine one_ (i := 3) (N := some 99) #[true, true, true, true, false, false, false, false, false, false, false, false, false, false, false, false, false, false, false, false, false, false, false, false, false, false, false, false, false, false, false, false, false] rfl rfl (one_of HT_.out (by kernel_rfl)) (by decide) (fun K hK => ?_)
        refine goes_ Try.func14 (by kernel_rfl) rfl #[.agg #[.string e0, .int .i64 e1, .int .i64 e2, .bool e3, .int .i64 e4, .int .i64 e5, .int .i64 e6, .int .i64 e7, .int .i64 e8, .int .i64 e9], .int .i64 m] (by rfl) rfl rfl (by (try simp only [List.map_toArray, List.map_cons, List.map_nil]); first | done | rfl) ?_
        with_reducible refine (spec_Counted.calls k e0 e1 e2 e3 e4 e5 e6 e7 e8 e9 m e0 e1 s e3 e4 e5 e6 e7 e8 e9 _ HT2_.out).mono ?_
        rintro e w' ⟨rfl, hb⟩
        refine ⟨_, rfl, ?_⟩
        have nC_ := Aside0.mk (blk_below BKC.out hb)
        have nY_ := Aside0.mk (blk_below BKY.out hb)
        have nB_ := Aside0.mk (below_step HB.out hb)
        clear BKC BKY HB hb
        have BKC := nC_
        have BKY := nY_
        have HB := nB_
        clear nC_ nY_ nB_
        refine hK.out _ _ ⟨BKY.out, BKC.out⟩ (fun hHeld => ?_)
        clear hK K
        refine norm_ (a' := ?_) ?_ ?_
        rotate_left
        · show Act.put _ (some 99) _ = _
          simp only [Act.put, List.setIfInBounds_toArray, List.set_cons_zero, List.set_cons_succ, i64_w, i32_w]
          rfl
        refine pure_ (i := 4) (N := some 100) (v := ?_) (a' := ?_) #[true, true, true, true, true, false, false, false, false, false, false, false, false, false, false, false, false, false, false, false, false, false, false, false, false, false, false, false, false, false, false, false, false] rfl rfl (any_of HT_.out (by kernel_rfl)) (fun _ _ _ h => h) (Or.inl ⟨by rfl, ?_⟩) ?_ ?_
        rotate_left
        · intro w'
          go_simp
          with_reducible rfl
        rotate_left
        · simp only [Act.put, List.setIfInBounds_toArray, List.set_cons_zero, List.set_cons_succ, i64_w, i32_w]
          rfl
        refine pure_ (i := 5) (N := some 101) (v := ?_) (a' := ?_) #[true, true, true, true, true, true, false, false, false, false, false, false, false, false, false, false, false, false, false, false, false, false, false, false, false, false, false, false, false, false, false, false, false] rfl rfl (any_of HT_.out (by kernel_rfl)) (fun _ _ _ h => h) (Or.inl ⟨by rfl, ?_⟩) ?_ ?_
        rotate_left
        · intro w'
          go_simp
          with_reducible rfl
        rotate_left
        · simp only [Act.put, List.setIfInBounds_toArray, List.set_cons_zero, List.set_cons_succ, i64_w, i32_w]
          rfl
        refine take_ (i := 6) (N := some 102) (v := .agg #[.string e0, .int .i64 e1, .int .i64 s, .bool e3, .int .i64 e4, .int .i64 e5, .int .i64 e6, .int .i64 e7, .int .i64 e8, .int .i64 e9]) (a' := ?_) #[true, true, true, true, true, true, true, false, false, false, false, false, false, false, false, false, false, false, false, false, false, false, false, false, false, false, false, false, false, false, false, false, false] rfl rfl (take_ofW HT_.out HW_.out (by kernel_rfl)) (fun _ _ _ h => h) (Or.inl ⟨by rfl, ?_⟩) hHeld ?_ ?_
        · intro w' hs
          exact bx_run_loads (by rfl) (by rfl) Try.underlying31 rfl (by kernel_rfl) (hs.1)
        rotate_left
        · simp only [Act.put, List.setIfInBounds_toArray, List.set_cons_zero, List.set_cons_succ, i64_w, i32_w]
          rfl
        refine take_ (i := 7) (N := some 103) (v := .agg #[.string e0, .int .i64 e1, .int .i64 e2, .bool e3, .int .i64 e4, .int .i64 e5, .int .i64 e6, .int .i64 e7, .int .i64 e8, .int .i64 e9]) (a' := ?_) #[true, true, true, true, true, true, true, true, false, false, false, false, false, false, false, false, false, false, false, false, false, false, false, false, false, false, false, false, false, false, false, false, false] rfl rfl (take_ofW HT_.out HW_.out (by kernel_rfl)) (fun _ _ _ h => h) (Or.inl ⟨by rfl, ?_⟩) hHeld ?_ ?_
        · intro w' hs
          exact bx_run_loads (by rfl) (by rfl) Try.underlying31 rfl (by kernel_rfl) (hs.2)
        rotate_left
        · simp only [Act.put, List.setIfInBounds_toArray, List.set_cons_zero, List.set_cons_succ, i64_w, i32_w]
          rfl
        refine pure_ (i := 8) (N := some 104) (v := ?_) (a' := ?_) #[true, true, true, true, true, true, true, true, true, false, false, false, false, false, false, false, false, false, false, false, false, false, false, false, false, false, false, false, false, false, false, false, false] rfl rfl (any_of HT_.out (by kernel_rfl)) (fun _ _ _ h => h) (Or.inl ⟨by rfl, ?_⟩) ?_ ?_
        rotate_left
        · intro w'
          go_simp
          with_reducible rfl
        rotate_left
        · simp only [Act.put, List.setIfInBounds_toArray, List.set_cons_zero, List.set_cons_succ, i64_w, i32_w]
          rfl
        refine pure_ (i := 9) (N := some 105) (v := ?_) (a' := ?_) #[true, true, true, true, true, true, true, true, true, true, false, false, false, false, false, false, false, false, false, false, false, false, false, false, false, false, false, false, false, false, false, false, false] rfl rfl (any_of HT_.out (by kernel_rfl)) (fun _ _ _ h => h) (Or.inl ⟨by rfl, ?_⟩) ?_ ?_
        rotate_left
        · intro w'
          go_simp
          with_reducible rfl
        rotate_left
        · simp only [Act.put, List.setIfInBounds_toArray, List.set_cons_zero, List.set_cons_succ, i64_w, i32_w]
          rfl
        refine take_ (i := 10) (N := some 106) (v := .agg #[.string e0, .int .i64 e1, .int .i64 s, .bool e3, .int .i64 e4, .int .i64 e5, .int .i64 e6, .int .i64 e7, .int .i64 e8, .int .i64 e9]) (a' := ?_) #[true, true, true, true, true, true, true, true, true, true, true, false, false, false, false, false, false, false, false, false, false, false, false, false, false, false, false, false, false, false, false, false, false] rfl rfl (take_ofW HT_.out HW_.out (by kernel_rfl)) (fun _ _ _ h => h) (Or.inl ⟨by rfl, ?_⟩) hHeld ?_ ?_
        · intro w' hs
          exact bx_run_loads (by rfl) (by rfl) Try.underlying31 rfl (by kernel_rfl) (hs.1)
        rotate_left
        · simp only [Act.put, List.setIfInBounds_toArray, List.set_cons_zero, List.set_cons_succ, i64_w, i32_w]
          rfl
        refine one_ (i := 11) (N := some 107) #[true, true, true, true, true, true, true, true, true, true, true, true, false, false, false, false, false, false, false, false, false, false, false, false, false, false, false, false, false, false, false, false, false] rfl rfl (one_of HT_.out (by kernel_rfl)) (by decide) (fun K hK => ?_)
        refine goes_ Try.func25 (by kernel_rfl) rfl #[.agg #[.string e0, .int .i64 e1, .int .i64 s, .bool e3, .int .i64 e4, .int .i64 e5, .int .i64 e6, .int .i64 e7, .int .i64 e8, .int .i64 e9]] (by rfl) rfl rfl (by (try simp only [List.map_toArray, List.map_cons, List.map_nil]); first | done | rfl) ?_
        with_reducible refine (impl_RowOk.calls k e0 e1 s e3 e4 e5 e6 e7 e8 e9 true _ G1.out).mono ?_
        rintro e w' ⟨rfl, hb⟩
        refine ⟨_, rfl, ?_⟩
        have nC_ := Aside0.mk (blk_below BKC.out hb)
        have nY_ := Aside0.mk (blk_below BKY.out hb)
        have nB_ := Aside0.mk (below_step HB.out hb)
        clear BKC BKY HB hb
        have BKC := nC_
        have BKY := nY_
        have HB := nB_
        clear nC_ nY_ nB_
        refine hK.out _ _ ⟨BKY.out, BKC.out⟩ (fun hHeld => ?_)
        clear hK K
        refine norm_ (a' := ?_) ?_ ?_
        rotate_left
        · show Act.put _ (some 107) _ = _
          simp only [Act.put, List.setIfInBounds_toArray, List.set_cons_zero, List.set_cons_succ, i64_w, i32_w]
          rfl
        refine pure_ (i := 12) (N := some 108) (v := ?_) (a' := ?_) #[true, true, true, true, true, true, true, true, true, true, true, true, true, false, false, false, false, false, false, false, false, false, false, false, false, false, false, false, false, false, false, false, false] rfl rfl (any_of HT_.out (by kernel_rfl)) (fun _ _ _ h => h) (Or.inl ⟨by rfl, ?_⟩) ?_ ?_
        rotate_left
        · intro w'
          go_simp
          with_reducible rfl
        rotate_left
        · simp only [Act.put, List.setIfInBounds_toArray, List.set_cons_zero, List.set_cons_succ, i64_w, i32_w]
          rfl
        refine pure_ (i := 13) (N := some 109) (v := ?_) (a' := ?_) #[true, true, true, true, true, true, true, true, true, true, true, true, true, true, false, false, false, false, false, false, false, false, false, false, false, false, false, false, false, false, false, false, false] rfl rfl (any_of HT_.out (by kernel_rfl)) (fun _ _ _ h => h) (Or.inl ⟨by rfl, ?_⟩) ?_ ?_
        rotate_left
        · intro w'
          go_simp
          with_reducible rfl
        rotate_left
        · simp only [Act.put, List.setIfInBounds_toArray, List.set_cons_zero, List.set_cons_succ, i64_w, i32_w]
          rfl
        refine pure_ (i := 15) (N := some 111) (v := ?_) (a' := ?_) #[true, true, true, true, true, true, true, true, true, true, true, true, true, true, false, true, false, false, false, false, false, false, false, false, false, false, false, false, false, false, false, false, false] rfl rfl (any_of HT_.out (by kernel_rfl)) (fun _ _ _ h => h) (Or.inl ⟨by rfl, ?_⟩) ?_ ?_
        rotate_left
        · intro w'
          go_simp
          with_reducible rfl
        rotate_left
        · simp only [Act.put, List.setIfInBounds_toArray, List.set_cons_zero, List.set_cons_succ, i64_w, i32_w]
          rfl
        refine pure_ (i := 17) (N := some 113) (v := ?_) (a' := ?_) #[true, true, true, true, true, true, true, true, true, true, true, true, true, true, false, true, false, true, false, false, false, false, false, false, false, false, false, false, false, false, false, false, false] rfl rfl (any_of HT_.out (by kernel_rfl)) (fun _ _ _ h => h) (Or.inl ⟨by rfl, ?_⟩) ?_ ?_
        rotate_left
        · intro w'
          go_simp
          with_reducible rfl
        rotate_left
        · simp only [Act.put, List.setIfInBounds_toArray, List.set_cons_zero, List.set_cons_succ, i64_w, i32_w]
          rfl
        refine take_ (i := 14) (N := some 110) (v := .int .i64 s) (a' := ?_) #[true, true, true, true, true, true, true, true, true, true, true, true, true, true, true, true, false, true, false, false, false, false, false, false, false, false, false, false, false, false, false, false, false] rfl rfl (take_ofW HT_.out HW_.out (by kernel_rfl)) (fun _ _ _ h => h) (Or.inl ⟨by rfl, ?_⟩) hHeld ?_ ?_
        · intro w' hs
          exact bx_run_load (by rfl) (by rfl) Try.underlying3 rfl (hs.1) rfl
        rotate_left
        · simp only [Act.put, List.setIfInBounds_toArray, List.set_cons_zero, List.set_cons_succ, i64_w, i32_w]
          rfl
        refine take_ (i := 16) (N := some 112) (v := .int .i64 e2) (a' := ?_) #[true, true, true, true, true, true, true, true, true, true, true, true, true, true, true, true, true, true, false, false, false, false, false, false, false, false, false, false, false, false, false, false, false] rfl rfl (take_ofW HT_.out HW_.out (by kernel_rfl)) (fun _ _ _ h => h) (Or.inl ⟨by rfl, ?_⟩) hHeld ?_ ?_
        · intro w' hs
          exact bx_run_load (by rfl) (by rfl) Try.underlying3 rfl (hs.2) rfl
        rotate_left
        · simp only [Act.put, List.setIfInBounds_toArray, List.set_cons_zero, List.set_cons_succ, i64_w, i32_w]
          rfl
        refine pure_ (i := 18) (N := some 114) (v := ?_) (a' := ?_) #[true, true, true, true, true, true, true, true, true, true, true, true, true, true, true, true, true, true, true, false, false, false, false, false, false, false, false, false, false, false, false, false, false] rfl rfl (any_of HT_.out (by kernel_rfl)) (fun _ _ _ h => h) (Or.inl ⟨by rfl, ?_⟩) ?_ ?_
        rotate_left
        · intro w'
          go_simp
          with_reducible rfl
        rotate_left
        · simp only [Act.put, List.setIfInBounds_toArray, List.set_cons_zero, List.set_cons_succ, i64_w, i32_w]
          rfl
        refine pure_ (i := 19) (N := some 115) (v := ?_) (a' := ?_) #[true, true, true, true, true, true, true, true, true, true, true, true, true, true, true, true, true, true, true, true, false, false, false, false, false, false, false, false, false, false, false, false, false] rfl rfl (any_of HT_.out (by kernel_rfl)) (fun _ _ _ h => h) (Or.inl ⟨by rfl, ?_⟩) ?_ ?_
        rotate_left
        · intro w'
          go_simp
          with_reducible rfl
        rotate_left
        · simp only [Act.put, List.setIfInBounds_toArray, List.set_cons_zero, List.set_cons_succ, i64_w, i32_w]
          rfl
        refine pure_ (i := 20) (N := some 116) (v := ?_) (a' := ?_) #[true, true, true, true, true, true, true, true, true, true, true, true, true, true, true, true, true, true, true, true, true, false, false, false, false, false, false, false, false, false, false, false, false] rfl rfl (any_of HT_.out (by kernel_rfl)) (fun _ _ _ h => h) (Or.inl ⟨by rfl, ?_⟩) ?_ ?_
        rotate_left
        · intro w'
          go_simp
          with_reducible rfl
        rotate_left
        · simp only [Act.put, List.setIfInBounds_toArray, List.set_cons_zero, List.set_cons_succ, i64_w, i32_w]
          rfl
        refine pure_ (i := 21) (N := some 117) (v := ?_) (a' := ?_) #[true, true, true, true, true, true, true, true, true, true, true, true, true, true, true, true, true, true, true, true, true, true, false, false, false, false, false, false, false, false, false, false, false] rfl rfl (any_of HT_.out (by kernel_rfl)) (fun _ _ _ h => h) (Or.inl ⟨by rfl, ?_⟩) ?_ ?_
        rotate_left
        · intro w'
          go_simp
          with_reducible rfl
        rotate_left
        · simp only [Act.put, List.setIfInBounds_toArray, List.set_cons_zero, List.set_cons_succ, i64_w, i32_w]
          rfl
        refine pure_ (i := 22) (N := some 118) (v := ?_) (a' := ?_) #[true, true, true, true, true, true, true, true, true, true, true, true, true, true, true, true, true, true, true, true, true, true, true, false, false, false, false, false, false, false, false, false, false] rfl rfl (any_of HT_.out (by kernel_rfl)) (fun _ _ _ h => h) (Or.inl ⟨by rfl, ?_⟩) ?_ ?_
        rotate_left
        · intro w'
          go_simp
          with_reducible rfl
        rotate_left
        · simp only [Act.put, List.setIfInBounds_toArray, List.set_cons_zero, List.set_cons_succ, i64_w, i32_w]
          rfl
        refine pure_ (i := 23) (N := some 119) (v := ?_) (a' := ?_) #[true, true, true, true, true, true, true, true, true, true, true, true, true, true, true, true, true, true, true, true, true, true, true, true, false, false, false, false, false, false, false, false, false] rfl rfl (any_of HT_.out (by kernel_rfl)) (fun _ _ _ h => h) (Or.inl ⟨by rfl, ?_⟩) ?_ ?_
        rotate_left
        · intro w'
          go_simp
          with_reducible rfl
        rotate_left
        · simp only [Act.put, List.setIfInBounds_toArray, List.set_cons_zero, List.set_cons_succ, i64_w, i32_w]
          rfl
        refine pure_ (i := 24) (N := some 120) (v := ?_) (a' := ?_) #[true, true, true, true, true, true, true, true, true, true, true, true, true, true, true, true, true, true, true, true, true, true, true, true, true, false, false, false, false, false, false, false, false] rfl rfl (any_of HT_.out (by kernel_rfl)) (fun _ _ _ h => h) (Or.inl ⟨by rfl, ?_⟩) ?_ ?_
        rotate_left
        · intro w'
          go_simp
          with_reducible rfl
        rotate_left
        · simp only [Act.put, List.setIfInBounds_toArray, List.set_cons_zero, List.set_cons_succ, i64_w, i32_w]
          rfl
        refine pure_ (i := 25) (N := some 121) (v := ?_) (a' := ?_) #[true, true, true, true, true, true, true, true, true, true, true, true, true, true, true, true, true, true, true, true, true, true, true, true, true, true, false, false, false, false, false, false, false] rfl rfl (any_of HT_.out (by kernel_rfl)) (fun _ _ _ h => h) (Or.inl ⟨by rfl, ?_⟩) ?_ ?_
        rotate_left
        · intro w'
          go_simp
          with_reducible rfl
        rotate_left
        · simp only [Act.put, List.setIfInBounds_toArray, List.set_cons_zero, List.set_cons_succ, i64_w, i32_w]
          rfl
        refine pure_ (i := 27) (N := some 123) (v := ?_) (a' := ?_) #[true, true, true, true, true, true, true, true, true, true, true, true, true, true, true, true, true, true, true, true, true, true, true, true, true, true, false, true, false, false, false, false, false] rfl rfl (any_of HT_.out (by kernel_rfl)) (fun _ _ _ h => h) (Or.inl ⟨by rfl, ?_⟩) ?_ ?_
        rotate_left
        · intro w'
          go_simp
          with_reducible rfl
        rotate_left
        · simp only [Act.put, List.setIfInBounds_toArray, List.set_cons_zero, List.set_cons_succ, i64_w, i32_w]
          rfl
        refine take_ (i := 26) (N := some 122) (v := .string e0) (a' := ?_) #[true, true, true, true, true, true, true, true, true, true, true, true, true, true, true, true, true, true, true, true, true, true, true, true, true, true, true, true, false, false, false, false, false] rfl rfl (take_ofW HT_.out HW_.out (by kernel_rfl)) (fun _ _ _ h => h) (Or.inl ⟨by rfl, ?_⟩) hHeld ?_ ?_
        · intro w' hs
          exact bx_run_load (by rfl) (by rfl) Try.underlying9 rfl (hs.2) rfl
        rotate_left
        · simp only [Act.put, List.setIfInBounds_toArray, List.set_cons_zero, List.set_cons_succ, i64_w, i32_w]
          rfl
        refine take_ (i := 28) (N := some 124) (v := .int .i64 e1) (a' := ?_) #[true, true, true, true, true, true, true, true, true, true, true, true, true, true, true, true, true, true, true, true, true, true, true, true, true, true, true, true, true, false, false, false, false] rfl rfl (take_ofW HT_.out HW_.out (by kernel_rfl)) (fun _ _ _ h => h) (Or.inl ⟨by rfl, ?_⟩) hHeld ?_ ?_
        · intro w' hs
          exact bx_run_load (by rfl) (by rfl) Try.underlying3 rfl (hs.2) rfl
        rotate_left
        · simp only [Act.put, List.setIfInBounds_toArray, List.set_cons_zero, List.set_cons_succ, i64_w, i32_w]
          rfl
        refine pure_ (i := 29) (N := some 125) (v := ?_) (a' := ?_) #[true, true, true, true, true, true, true, true, true, true, true, true, true, true, true, true, true, true, true, true, true, true, true, true, true, true, true, true, true, true, false, false, false] rfl rfl (any_of HT_.out (by kernel_rfl)) (fun _ _ _ h => h) (Or.inl ⟨by rfl, ?_⟩) ?_ ?_
        rotate_left
        · intro w'
          go_simp
          with_reducible rfl
        rotate_left
        · simp only [Act.put, List.setIfInBounds_toArray, List.set_cons_zero, List.set_cons_succ, i64_w, i32_w]
          rfl
        refine one_ (i := 30) (N := some 126) #[true, true, true, true, true, true, true, true, true, true, true, true, true, true, true, true, true, true, true, true, true, true, true, true, true, true, true, true, true, true, true, false, false] rfl rfl (one_of HT_.out (by kernel_rfl)) (by decide) (fun K hK => ?_)
        refine goes_ Try.func27 (by kernel_rfl) rfl #[.agg #[.string e0, .int .i64 e1, .int .i64 0, .bool false, .int .i64 0, .int .i64 0, .int .i64 0, .int .i64 0, .int .i64 0, .int .i64 0]] (by rfl) rfl rfl (by (try simp only [List.map_toArray, List.map_cons, List.map_nil]); first | done | rfl) ?_
        with_reducible refine (impl_Quiet.calls e0 e1 0 false 0 0 0 0 0 0 true _ HQ_.out).mono ?_
        rintro e w' ⟨rfl, hb⟩
        refine ⟨_, rfl, ?_⟩
        have nC_ := Aside0.mk (blk_below BKC.out hb)
        have nY_ := Aside0.mk (blk_below BKY.out hb)
        have nB_ := Aside0.mk (below_step HB.out hb)
        clear BKC BKY HB hb
        have BKC := nC_
        have BKY := nY_
        have HB := nB_
        clear nC_ nY_ nB_
        refine hK.out _ _ ⟨BKY.out, BKC.out⟩ (fun hHeld => ?_)
        clear hK K
        refine norm_ (a' := ?_) ?_ ?_
        rotate_left
        · show Act.put _ (some 126) _ = _
          simp only [Act.put, List.setIfInBounds_toArray, List.set_cons_zero, List.set_cons_succ, i64_w, i32_w]
          rfl
        refine pure_ (i := 31) (N := some 127) (v := ?_) (a' := ?_) #[true, true, true, true, true, true, true, true, true, true, true, true, true, true, true, true, true, true, true, true, true, true, true, true, true, true, true, true, true, true, true, true, false] rfl rfl (any_of HT_.out (by kernel_rfl)) (fun _ _ _ h => h) (Or.inl ⟨by rfl, ?_⟩) ?_ ?_
        rotate_left
        · intro w'
          go_simp
          with_reducible rfl
        rotate_left
        · simp only [Act.put, List.setIfInBounds_toArray, List.set_cons_zero, List.set_cons_succ, i64_w, i32_w]
          rfl
        refine pure_ (i := 32) (N := some 2) (v := ?_) (a' := ?_) #[true, true, true, true, true, true, true, true, true, true, true, true, true, true, true, true, true, true, true, true, true, true, true, true, true, true, true, true, true, true, true, true, true] rfl rfl (any_of HT_.out (by kernel_rfl)) (fun _ _ _ h => h) (Or.inl ⟨by rfl, ?_⟩) ?_ ?_
        rotate_left
        · intro w'
          go_simp
          with_reducible rfl
        rotate_left
        · simp only [Act.put, List.setIfInBounds_toArray, List.set_cons_zero, List.set_cons_succ, i64_w, i32_w]
          rfl
        refine done_ (done_of HT_.out (by kernel_rfl)) ?_
        try go_wp2
        go_ret
        exact ⟨rfl, HB.out⟩
def RowsFacts (k : Nat) (l0 : List Int) : Prop := laws_big.f l0 = some true ∨ (laws_big.f l0 = some false ∧
  ∃ (a0 : ByteArray) (a1 : Int) (a2 : Int) (a3 : Bool) (a4 : Int) (a5 : Int) (a6 : Int) (a7 : Int) (a8 : Int) (a9 : Int), ∃ (v : Int), spec_DrawSampled.f k l0 = some (a0, a1, a2, a3, a4, a5, a6, a7, a8, a9, v) ∧ ∃ (x0 : ByteArray) (x1 : Int) (x2 : Int) (x3 : Bool) (x4 : Int) (x5 : Int) (x6 : Int) (x7 : Int) (x8 : Int) (x9 : Int), impl_Sampled.f k a0 a1 a2 a3 a4 a5 a6 a7 a8 a9 v = some (x0, x1, x2, x3, x4, x5, x6, x7, x8, x9) ∧ spec_Sampled.f k a0 a1 a2 a3 a4 a5 a6 a7 a8 a9 v = some (x0, x1, x2, x3, x4, x5, x6, x7, x8, x9) ∧
  ∃ (b : Bool), spec_RowOk.f k a0 a1 a2 a3 a4 a5 a6 a7 a8 a9 = some b ∧ (b = true → a1 = 3 → 0 ≤ v → v ≤ 65535 → impl_RowOk.f k x0 x1 x2 x3 x4 x5 x6 x7 x8 x9 = some true ∧ wrap64 (x5 + x9) = mn (wrap64 (wrap64 (a5 + a9) + 1)) 65538 ∧ (x5 > a5 → x6 ≤ v ∧ v ≤ x7 ∧ x8 = wrap64 (a8 + v))) ∧ (¬ (b = true ∧ a1 = 3 ∧ 0 ≤ v ∧ v ≤ 65535) → x0 = a0 ∧ x1 = a1 ∧ x2 = a2 ∧ x3 = a3 ∧ x4 = a4 ∧ x5 = a5 ∧ x6 = a6 ∧ x7 = a7 ∧ x8 = a8 ∧ x9 = a9) ∧
  ∃ (e0 : ByteArray) (e1 : Int) (e2 : Int) (e3 : Bool) (e4 : Int) (e5 : Int) (e6 : Int) (e7 : Int) (e8 : Int) (e9 : Int), ∃ (s m : Int), spec_DrawCounted.f k l0 = some (e0, e1, e2, e3, e4, e5, e6, e7, e8, e9, m) ∧ impl_Counted.f k e0 e1 e2 e3 e4 e5 e6 e7 e8 e9 m = some (e0, e1, s, e3, e4, e5, e6, e7, e8, e9) ∧ spec_Counted.f k e0 e1 e2 e3 e4 e5 e6 e7 e8 e9 m = some (e0, e1, s, e3, e4, e5, e6, e7, e8, e9) ∧
  (s = e2 ∨ s ≠ e2 ∧ impl_RowOk.f k e0 e1 s e3 e4 e5 e6 e7 e8 e9 = some true ∧ s = Int.tmod (wrap64 (e2 + m)) 281474976710656) ∧ impl_Quiet.f e0 e1 0 false 0 0 0 0 0 0 = some true)
def laws_FnRows.Pure : Prop := ∀ (l0 : List Int), l0.length ≤ maxLen → l0.length * 1 ≤ 140737488351232 → (∀ x ∈ l0, (Lit.int .u8 x).wf = true) → ∃ k, RowsFacts k l0
theorem laws_FnRows.walk (P : laws_FnRows.Pure) (a0 : Option Addr) (len0 cap0 : Nat) (z0 : List Int) (w : World) (w0 : (a0 = none ∧ len0 = 0 ∧ cap0 = 0 ∧ z0 = []) ∨ ∃ x, a0 = some x ∧ len0 ≤ cap0 ∧ cap0 ≤ maxLen ∧ z0.length = cap0 ∧ (∀ i, i < z0.length → w.cell? (x.add i) = some (.int .u8 (z0.getD i 0))) ∧ ∀ n ∈ z0, (Lit.int .u8 n).wf = true) (y0 : len0 * 1 ≤ 140737488351232) :
    Calls Try.prog 7 #[.slice a0 len0 cap0] w fun e w' => e = .returned (.bool true) ∧ Below w.heap.size w w' := by
  obtain ⟨l0, rfl, hr0, hm0, hw0, hc0⟩ := ReadsInt.ofRowC w0
  have hr := Kd.C_of_reads (d := (0 : Int)) (h1 := fun _ => rfl) hr0
  obtain ⟨k, h⟩ := P l0 hm0 y0 hw0
  rcases h with h | ⟨h0, d0, a1, a2, a3, a4, a5, a6, a7, a8, a9, v, h1, x0, x1, x2, x3, x4, x5, x6, x7, x8, x9, h2, h3, b, h4, h5, h6, e0, e1, e2, e3, e4, e5, e6, e7, e8, e9, s, m, h7, h8, h9, h10, h11⟩
  · exact laws_FnRows.big _ _ l0 w hr hc0 h
  · exact laws_FnRows.holds k _ _ l0 w hr hc0 h0 d0 a1 a2 a3 a4 a5 a6 a7 a8 a9 v h1 x0 x1 x2 x3 x4 x5 x6 x7 x8 x9 h2 h3 b h4 h5 h6 e0 e1 e2 e3 e4 e5 e6 e7 e8 e9 s m h7 h8 h9 h10 h11
end Go.Proofs.Ytammijioeeiejaa.PFnRows
