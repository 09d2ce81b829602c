/- What is proved here: contracts of the Go functions that the law FnRows reaches, for its row; no condition. The draft was printed; this text is not the print. -/
import Derived.Test.YtammijioeeiejaaProg
import Derived.Below
import Derived.Deep.Draws
import Derived.Deep.AppendLies
import Derived.Maps.AppendAt
import Derived.OwnWalk
import Derived.Laws.BytesArg
import Derived.Laws.MakeOwn
import Derived.Laws.OwnMore
import Derived.Deep.OwnRows
import Derived.Tactics
import Derived.Lib.ConvBytes
import Derived.Laws.Slices
import Derived.WalkKit
import Derived.KernelRfl
import Derived.RowKit3
import Derived.Deep.LoopGhost
import Derived.Deep.QuietTactic
import Derived.BigQuiet
import Derived.WideLaws
import Derived.Deep.DeepCutAuto
import Derived.Deep.CutBlock
import Derived.Deep.RegionHeld3
import Derived.Laws.Rows
import Derived.Lib.AppendStr
import Derived.ArgAppend
import Derived.Laws.IdiomCopy
import Derived.OrdersHeld
import Derived.Laws.BitsLemmas
import Derived.RowKit
import Derived.Test.YtammijioeeiejaaWWords
import Derived.Test.YtammijioeeiejaaWLast
import Derived.Test.YtammijioeeiejaaWTab
import Derived.Test.YtammijioeeiejaaWEqStruct
import Derived.Test.YtammijioeeiejaaWRepsOne
import Derived.Test.YtammijioeeiejaaWGuard
namespace Go.Proofs.Ytammijioeeiejaa.PFnRows
open Go.RowKit Go.Proofs.YtammijioeeiejaaW.PrintWords Go.Proofs.YtammijioeeiejaaW.PrintLast
set_option linter.unusedVariables false
set_option linter.unusedSimpArgs false



def errW : Option Int → Value
  | none => .nilIface
  | some c => .iface 0 (.int .i64 c)
theorem errW_none : errW none = .nilIface := rfl
theorem errW_some (c : Int) : errW (some c) = .iface 0 (.int .i64 c) := rfl

theorem info3 : (Try.prog.info? 3).map (fun i => (i.zero, i.size, i.bytes)) = some (some (.int .i64 0), 1, 8) := by kernel_rfl
theorem info9 : (Try.prog.info? 9).map (fun i => (i.zero, i.size, i.bytes)) = some (some (.string ⟨#[]⟩), 1, 16) := by kernel_rfl
-- the values' own types

/-- The greater and the lesser of two whole numbers. -/
def mx (a b : Int) : Int := if a < b then b else a
def mn (a b : Int) : Int := if b < a then b else a
theorem max2_int (k k' : IntKind) (x y : Int) : Builtin.max2 (.int k x) (.int k' y) = pure (.int k (if x < y then y else x)) := by unfold Builtin.max2; rfl
theorem min2_int (k k' : IntKind) (x y : Int) : Builtin.min2 (.int k x) (.int k' y) = pure (.int k (if y < x then y else x)) := by unfold Builtin.min2; rfl
theorem max_two (ats : Array TypeId) (ty : TypeId) (a b : Value) : Builtin.max_ ats ty #[a, b] = (Builtin.max2 a b >>= fun s => pure s) := by unfold Builtin.max_; simp
theorem min_two (ats : Array TypeId) (ty : TypeId) (a b : Value) : Builtin.min_ ats ty #[a, b] = (Builtin.min2 a b >>= fun s => pure s) := by unfold Builtin.min_; simp
theorem drewN_self (w : World) (n : Nat) : w.drewN n = w.drewN n := Eq.refl _
section
variable {P : Program} {ops : Array Oper} {rest : List Oper} {o : Oper} {a : Act} {Q : Exit → Act → World → Prop} {W : World}
theorem gate_callee {f : FuncId} {xs : Array Operand} {ts : Array TypeId} (_ho : o.op = .call { callee := .value (.func f), args := xs, argTypes := ts }) (h : wpList P ops Q (o :: rest) a W) : wpList P ops Q (o :: rest) a W := by exact h
/-- Ten cells of a block, written one behind the other. -/
theorem blk_put10 {g : Nat} {t : TypeId} {z0 z1 z2 z3 z4 z5 z6 z7 z8 z9 v0 v1 v2 v3 v4 v5 v6 v7 v8 v9 : Value} (h : W.heap[g]? = some (.cells #[z0, z1, z2, z3, z4, z5, z6, z7, z8, z9] t (0, 0))) :
    ((((((((((W.setCell ⟨g, 0, none⟩ v0).setCell ⟨g, 1, none⟩ v1).setCell ⟨g, 2, none⟩ v2).setCell ⟨g, 3, none⟩ v3).setCell ⟨g, 4, none⟩ v4).setCell ⟨g, 5, none⟩ v5).setCell ⟨g, 6, none⟩ v6).setCell ⟨g, 7, none⟩ v7).setCell ⟨g, 8, none⟩ v8).setCell ⟨g, 9, none⟩ v9).heap[g]? = some (.cells #[v0, v1, v2, v3, v4, v5, v6, v7, v8, v9] t (0, 0)) := by
  refine blk_put (cs := #[v0, v1, v2, v3, v4, v5, v6, v7, v8, z9]) ?_ 9 _ rfl
  refine blk_put (cs := #[v0, v1, v2, v3, v4, v5, v6, v7, z8, z9]) ?_ 8 _ rfl
  refine blk_put (cs := #[v0, v1, v2, v3, v4, v5, v6, z7, z8, z9]) ?_ 7 _ rfl
  refine blk_put (cs := #[v0, v1, v2, v3, v4, v5, z6, z7, z8, z9]) ?_ 6 _ rfl
  refine blk_put (cs := #[v0, v1, v2, v3, v4, z5, z6, z7, z8, z9]) ?_ 5 _ rfl
  refine blk_put (cs := #[v0, v1, v2, v3, z4, z5, z6, z7, z8, z9]) ?_ 4 _ rfl
  refine blk_put (cs := #[v0, v1, v2, z3, z4, z5, z6, z7, z8, z9]) ?_ 3 _ rfl
  refine blk_put (cs := #[v0, v1, z2, z3, z4, z5, z6, z7, z8, z9]) ?_ 2 _ rfl
  refine blk_put (cs := #[v0, z1, z2, z3, z4, z5, z6, z7, z8, z9]) ?_ 1 _ rfl
  exact blk_put (cs := #[z0, z1, z2, z3, z4, z5, z6, z7, z8, z9]) h 0 _ rfl
end
section
variable {P : Program} {ops : Array Oper} {rest : List Oper} {o : Oper} {a : Act} {Q : Exit → Act → World → Prop} {W : World}
theorem bx_mn (x : Int) : mn x x = x := by unfold mn; split <;> rfl
theorem bx_mx (x : Int) : mx x x = x := by unfold mx; split <;> rfl
theorem bx_load {t : TypeId} {p : Operand} {g i : Nat} {cs : Array Value} {e : TypeId} {v : Value} {d : TypeDesc} (hgd : o.guard = none) (ho : o.op = .load t p) (haddr : a.eval p = .pointer (some ⟨g, i, none⟩))
    (hu : P.underlying t = some d) (hd : (match d with | .struct _ | .array _ _ => true | _ => false) = false) (hb : W.heap[g]? = some (.cells cs e (0, 0))) (hv : cs[i]? = some v)
    (h : wpList P ops Q rest (a.put o.dst v) W) : wpList P ops Q (o :: rest) a W := by
  refine Kd.event_run hgd ?_ h
  have hc := (cell_of_row W g i cs e (0, 0) hb).trans hv
  have hag : (isAgg t).run P W = .ok false W := by cases d <;> simp_all [isAgg, run_underlying hu]
  unfold execOp
  simp only [ho, haddr, Sem.run_bind, Sem.run_pure, Result.andThen_ok, Instr.loadAt, Instr.sureAddr, loadVar, hag]
  simp [hc]
theorem bx_loads {t : TypeId} {p : Operand} {g : Nat} {cs : Array Value} {e : TypeId} {d : TypeDesc} (hgd : o.guard = none) (ho : o.op = .load t p) (haddr : a.eval p = .pointer (some ⟨g, 0, none⟩))
    (hu : P.underlying t = some d) (hd : (match d with | .struct _ | .array _ _ => true | _ => false) = true) (hi : (P.info? t).map (·.size) = some cs.size) (hb : W.heap[g]? = some (.cells cs e (0, 0)))
    (h : wpList P ops Q rest (a.put o.dst (.agg cs)) W) : wpList P ops Q (o :: rest) a W := by
  refine Kd.event_run hgd ?_ h
  have hl := run_loadVar_row (P := P) W g e t cs (0, 0) d hb hu hd hi
  unfold execOp
  simp only [ho, haddr, Sem.run_bind, Sem.run_pure, Result.andThen_ok, Instr.loadAt, Instr.sureAddr, hl]
theorem bx_stores {t : TypeId} {p x : Operand} {g g2 i : Nat} {cs cs' cs2 : Array Value} {e e2 : TypeId} {u : Value} {seg : List Value} {w : World} (hgd : o.guard = none) (hN : o.dst = none) (ho : o.op = .store t p x)
    (haddr : a.eval p = .pointer (some ⟨g, i, none⟩)) (hx : a.eval x = u) (hu : u.cells.toList = seg) (ht : (P.info? t).map (·.size) = some seg.length) (h1 : seg.all Value.oneCell' = true)
    (hb : W.heap[g]? = some (.cells cs e (0, 0))) (hfit : i + seg.length ≤ cs.size) (hcs : cs'.toList = cs.toList.take i ++ seg ++ cs.toList.drop (i + seg.length))
    (hb2 : W.heap[g2]? = some (.cells cs2 e2 (0, 0))) (hne : g2 ≠ g) (HB : Below w.heap.size w W) (hg : w.heap.size ≤ g)
    (h : ∀ w1, Aside0 (w1.heap[g]? = some (.cells cs' e (0, 0))) → Aside0 (w1.heap[g2]? = some (.cells cs2 e2 (0, 0))) → Aside0 (Below w.heap.size w w1) → wpList P ops Q rest a w1) : wpList P ops Q (o :: rest) a W := by
  have h1' : ∀ q ∈ seg, q.oneCell' = true := List.all_eq_true.1 h1
  have hrun := run_store_run (P := P) t u seg hb hu ht hfit h1'
  obtain ⟨c2, q1, q2, q3⟩ := setCells_row seg i W cs hb hfit
  obtain ⟨s1, s2, s3, s4⟩ := setCells_same g seg i W
  have hc2 : c2 = cs' := Array.toList_inj.1 (q3.trans hcs.symm)
  subst hc2
  have hfar : ∀ k, k ≠ g → (W.setCells g i seg).heap[k]? = W.heap[k]? := fun k hk => setCells_far seg _ k hk
  have hB : Below w.heap.size w (W.setCells g i seg) := HB.trans ⟨s1, s2, s3, by rw [s4]; exact Nat.le_refl _, fun k hk => hfar k (by omega)⟩
  refine wpList_plain hgd fun K hK => ?_
  unfold Oper.wp execOp
  simp only [ho, haddr, hx, Sem.run_bind, Sem.run_pure, Result.andThen_ok, hrun]
  show K (a.put o.dst undef) _
  rw [hN]
  exact hK a _ (h _ ⟨q1⟩ ⟨(hfar g2 hne).trans hb2⟩ ⟨hB⟩)
end
end Go.Proofs.Ytammijioeeiejaa.PFnRows
