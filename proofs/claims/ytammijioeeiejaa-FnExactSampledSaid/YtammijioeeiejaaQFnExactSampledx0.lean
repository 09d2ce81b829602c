/- What is proved here: contracts of the Go functions that the law FnExactSampled reaches, for its row; no condition. The draft was printed; this text is not the print. -/
import Derived.Test.YtammijioeeiejaaProg
import Derived.Below
import Derived.Deep.Draws
import Derived.Deep.AppendLies
import Derived.Maps.AppendAt
import Derived.OwnWalk
import Derived.Laws.BytesArg
import Derived.Laws.MakeOwn
import Derived.Laws.OwnMore
import Derived.Deep.OwnRows
import Derived.Tactics
import Derived.Lib.ConvBytes
import Derived.Laws.Slices
import Derived.WalkKit
import Derived.KernelRfl
import Derived.RowKit3
import Derived.Deep.LoopGhost
import Derived.Deep.QuietTactic
import Derived.BigQuiet
import Derived.WideLaws
import Derived.Deep.DeepCutAuto
import Derived.Deep.CutBlock
import Derived.Deep.RegionHeld3
import Derived.Laws.Rows
import Derived.Lib.AppendStr
import Derived.ArgAppend
import Derived.Laws.IdiomCopy
import Derived.OrdersHeld
import Derived.Laws.BitsLemmas
import Derived.RowKit
import Derived.Test.YtammijioeeiejaaWWords
import Derived.Test.YtammijioeeiejaaWLast
import Derived.Test.YtammijioeeiejaaWTab
import Derived.Test.YtammijioeeiejaaWFour
import Derived.Test.YtammijioeeiejaaWQPut
import Derived.Test.YtammijioeeiejaaWApart
import Derived.Test.YtammijioeeiejaaWArr
import Derived.Test.YtammijioeeiejaaWZeros
import Derived.Test.YtammijioeeiejaaWFoot
import Derived.Test.YtammijioeeiejaaWKept
import Derived.Test.YtammijioeeiejaaWShare
import Derived.Test.YtammijioeeiejaaWN
import Derived.Test.YtammijioeeiejaaWFootNe
import Derived.Test.YtammijioeeiejaaWAt
import Derived.Test.YtammijioeeiejaaWEqStruct
import Derived.Test.YtammijioeeiejaaWRepsOne
import Derived.Test.YtammijioeeiejaaWInv
import Derived.Test.YtammijioeeiejaaWInvWords
import Derived.Test.YtammijioeeiejaaWGuard
import Derived.Test.YtammijioeeiejaaWNEv
import Derived.Test.YtammijioeeiejaaWMore
namespace Go.Proofs.Ytammijioeeiejaa.PFnExactSampled
open Go.RowKit Go.Proofs.YtammijioeeiejaaW.PrintWords Go.Proofs.YtammijioeeiejaaW.PrintLast Go.Proofs.YtammijioeeiejaaW.PrintMore
attribute [local go_sem] max2_int min2_int max_two min_two max_three min_three max_four min_four   -- for this text's walks alone
set_option linter.unusedVariables false
set_option linter.unusedSimpArgs false



def errW : Option Int → Value
  | none => .nilIface
  | some c => .iface 0 (.int .i64 c)
theorem errW_none : errW none = .nilIface := rfl
theorem errW_some (c : Int) : errW (some c) = .iface 0 (.int .i64 c) := rfl

-- the values' own types

section
open Go.RowKit Go.Proofs.YtammijioeeiejaaW.PrintWords Go.Proofs.YtammijioeeiejaaW.PrintLast
variable {P : Program} {ops : Array Oper} {rest : List Oper} {o : Oper} {a : Act} {Q : Exit → Act → World → Prop} {W : World}
theorem bx_mn (x : Int) : mn x x = x := by unfold mn; split <;> rfl
theorem bx_mx (x : Int) : mx x x = x := by unfold mx; split <;> rfl
theorem bx_load {t : TypeId} {p : Operand} {g i : Nat} {cs : Array Value} {e : TypeId} {v : Value} {d : TypeDesc} (hgd : o.guard = none) (ho : o.op = .load t p) (haddr : a.eval p = .pointer (some ⟨g, i, none⟩))
    (hu : P.underlying t = some d) (hd : (match d with | .struct _ | .array _ _ => true | _ => false) = false) (hb : W.heap[g]? = some (.cells cs e (0, 0))) (hv : cs[i]? = some v)
    (h : wpList P ops Q rest (a.put o.dst v) W) : wpList P ops Q (o :: rest) a W := by
  refine Kd.event_run hgd ?_ h
  have hc := (cell_of_row W g i cs e (0, 0) hb).trans hv
  have hag : (isAgg t).run P W = .ok false W := by cases d <;> simp_all [isAgg, run_underlying hu]
  unfold execOp
  simp only [ho, haddr, Sem.run_bind, Sem.run_pure, Result.andThen_ok, Instr.loadAt, Instr.sureAddr, loadVar, hag]
  simp [hc]
theorem bx_loads {t : TypeId} {p : Operand} {g : Nat} {cs : Array Value} {e : TypeId} {d : TypeDesc} (hgd : o.guard = none) (ho : o.op = .load t p) (haddr : a.eval p = .pointer (some ⟨g, 0, none⟩))
    (hu : P.underlying t = some d) (hd : (match d with | .struct _ | .array _ _ => true | _ => false) = true) (hi : (P.info? t).map (·.size) = some cs.size) (hb : W.heap[g]? = some (.cells cs e (0, 0)))
    (h : wpList P ops Q rest (a.put o.dst (.agg cs)) W) : wpList P ops Q (o :: rest) a W := by
  refine Kd.event_run hgd ?_ h
  have hl := run_loadVar_row (P := P) W g e t cs (0, 0) d hb hu hd hi
  unfold execOp
  simp only [ho, haddr, Sem.run_bind, Sem.run_pure, Result.andThen_ok, Instr.loadAt, Instr.sureAddr, hl]
theorem bx_stores {t : TypeId} {p x : Operand} {g g2 i : Nat} {cs cs' cs2 : Array Value} {e e2 : TypeId} {u : Value} {seg : List Value} {w : World} (hgd : o.guard = none) (hN : o.dst = none) (ho : o.op = .store t p x)
    (haddr : a.eval p = .pointer (some ⟨g, i, none⟩)) (hx : a.eval x = u) (hu : u.cells.toList = seg) (ht : (P.info? t).map (·.size) = some seg.length) (h1 : seg.all Value.oneCell' = true)
    (hb : W.heap[g]? = some (.cells cs e (0, 0))) (hfit : i + seg.length ≤ cs.size) (hcs : cs'.toList = cs.toList.take i ++ seg ++ cs.toList.drop (i + seg.length))
    (hb2 : W.heap[g2]? = some (.cells cs2 e2 (0, 0))) (hne : g2 ≠ g) (HB : Below w.heap.size w W) (hg : w.heap.size ≤ g)
    (h : ∀ w1, Aside0 (w1.heap[g]? = some (.cells cs' e (0, 0))) → Aside0 (w1.heap[g2]? = some (.cells cs2 e2 (0, 0))) → Aside0 (Below w.heap.size w w1) → wpList P ops Q rest a w1) : wpList P ops Q (o :: rest) a W := by
  have h1' : ∀ q ∈ seg, q.oneCell' = true := List.all_eq_true.1 h1
  have hrun := run_store_run (P := P) t u seg hb hu ht hfit h1'
  obtain ⟨c2, q1, q2, q3⟩ := setCells_row seg i W cs hb hfit
  obtain ⟨s1, s2, s3, s4⟩ := setCells_same g seg i W
  have hc2 : c2 = cs' := Array.toList_inj.1 (q3.trans hcs.symm)
  subst hc2
  have hfar : ∀ k, k ≠ g → (W.setCells g i seg).heap[k]? = W.heap[k]? := fun k hk => setCells_far seg _ k hk
  have hB : Below w.heap.size w (W.setCells g i seg) := HB.trans ⟨s1, s2, s3, by rw [s4]; exact Nat.le_refl _, fun k hk => hfar k (by omega)⟩
  refine wpList_plain hgd fun K hK => ?_
  unfold Oper.wp execOp
  simp only [ho, haddr, hx, Sem.run_bind, Sem.run_pure, Result.andThen_ok, hrun]
  show K (a.put o.dst undef) _
  rw [hN]
  exact hK a _ (h _ ⟨q1⟩ ⟨(hfar g2 hne).trans hb2⟩ ⟨hB⟩)
end
end Go.Proofs.Ytammijioeeiejaa.PFnExactSampled
