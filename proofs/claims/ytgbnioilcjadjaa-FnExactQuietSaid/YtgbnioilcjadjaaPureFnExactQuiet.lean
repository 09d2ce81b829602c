/- What is proved here: the Go law FnExactQuiet answers true for every input, over the functions that print.sh printed; no condition. -/
import Derived.Test.YtgbnioilcjadjaaPFnExactQuietx1
set_option linter.unusedVariables false
set_option linter.unusedSimpArgs false
namespace Go.Proofs.Ytgbnioilcjadjaa.Pure
open Go.RowKit Go.Proofs.Ytgbnioilcjadjaa.PFnExactQuiet Go.Proofs.YtgbnioilcjadjaaW.PrintWords Go.Proofs.YtgbnioilcjadjaaW.PrintLast

theorem w64 {n : Int} (h0 : -9223372036854775808 ≤ n) (h1 : n ≤ 9223372036854775807) : wrap64 n = n := by
  unfold wrap64
  omega

theorem wf64 {n : Int} (h : (Lit.int .i64 n).wf = true) : -9223372036854775808 ≤ n ∧ n ≤ 9223372036854775807 := by
  simp only [Lit.wf, IntKind.min, IntKind.max, IntKind.signed, IntKind.bits, Bool.and_eq_true, decide_eq_true_eq, if_true] at h
  omega

theorem FnExactQuiet (s : ByteArray) (kind sum : Int) (set : Bool) (last n mn' mx' total dropped : Int) (hs : s.size ≤ maxLen) (_ : (Lit.int .i64 kind).wf = true) (_ : (Lit.int .i64 sum).wf = true) (_ : (Lit.int .i64 last).wf = true) (_ : (Lit.int .i64 n).wf = true) (_ : (Lit.int .i64 mn').wf = true) (_ : (Lit.int .i64 mx').wf = true) (_ : (Lit.int .i64 total).wf = true) (_ : (Lit.int .i64 dropped).wf = true) :
    laws_FnExactQuiet.f s kind sum set last n mn' mx' total dropped = some true := by
  unfold maxLen at hs
  unfold laws_FnExactQuiet.f laws_szRow.f laws_toRow.f spec_Quiet.f impl_Quiet.f
  by_cases h : wrap64 (1048576 - (s.size : Int)) < 0
  · simp [h]
  · by_cases h1 : sum = 0 <;> by_cases h2 : n = 0 <;> cases set <;> simp [h, h1, h2]

end Go.Proofs.Ytgbnioilcjadjaa.Pure
