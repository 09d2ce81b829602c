/-
  No cell of these rows narrows 'for every input' (looked for: loops, veiled, ifaces, maps, wideKeys, modest, calm, conditions, laid).
  DERIVED. THE GIVEN ROWS OF THIS SEAT. 7 by the template 'for every input the law returns true; each argument reads behind the call as it read before'; 0 by the template 'total and deterministic' (their statements: YtilhmohfneeglaaTotals.lean).
  GIVEN WITH THE SEED: the statements are not yours to turn. If you find one false, say at which input.
  Laid BY PROGRAM, IN A SANDBOX (cutbox-rows.mjs): the forced cells as the released guide's own fill.sh prints them over the translation 7218fd7cc77e0ae7… (all of the seat's roots in one cut). By AI agents, Wed Nov 11 2026. No macro, syntax, notation, axiom, sorry.
-/
import Derived.Test.YtilhmohfneeglaaChecked
import GoSem.Claim
import GoSem.ClaimJoined
import GoSem.ClaimMapViews
import Derived.JoinedTies
import Derived.KernelRfl
namespace Go.Proofs.Ytilhmohfneeglaa
/- THE CELL 'sum', in the pinned program and in every row, IS THE sha256 OF THE DUMP (.gsa) THAT YtilhmohfneeglaaProg.lean LOADS. Nothing in Lean hashes anything: it is a label: what it is worth is what the hold of that sum in a sandbox is worth. -/
noncomputable def Try.pinned : Pinned := { name := "ytilhmohfneeglaa", sum := "7218fd7cc77e0ae775d8f7109b9d8a8a0bdf57346f97d8b33184c0ed0610ab59", checked := Try.checked }
namespace Rows
def none {H : Type} : Left H := { results := [], args := [] }

/-- 'laws.FnExactProbe': WHATEVER THE INPUT: true; the input reads as it did. -/
def fnExactProbeSpec : ChangeSpec := { name := "fnExactProbe", fn := fun _ => fun
  | [d1, d2] => { results := [.lit (.bool true)], args := [d1, d2] }
  | _ => none }
def fnExactProbeRow : OpenClaim := { program := "ytilhmohfneeglaa", sum := "7218fd7cc77e0ae775d8f7109b9d8a8a0bdf57346f97d8b33184c0ed0610ab59", func := "loop.example/g01608/laws.FnExactProbe", spec := "fnExactProbe", apart := false }
def FnExactProbeSaid : Prop := fnExactProbeRow.holds Try.pinned (OpenSpec.ofChange fnExactProbeSpec)

/-- ITS FALSE NEIGHBOUR: 'it returns false'. Refute it at one input. -/
def fnExactProbeWrong : ChangeSpec := { name := "fnExactProbe", fn := fun _ => fun
  | [d1, d2] => { results := [.lit (.bool false)], args := [d1, d2] }
  | _ => none }
def FnExactProbeWrongFalsely : Prop := fnExactProbeRow.holds Try.pinned (OpenSpec.ofChange fnExactProbeWrong)

/-- 'laws.FnExactPackKey': WHATEVER THE INPUT: true; the input reads as it did. -/
def fnExactPackKeySpec : ChangeSpec := { name := "fnExactPackKey", fn := fun _ => fun
  | [d] => { results := [.lit (.bool true)], args := [d] }
  | _ => none }
def fnExactPackKeyRow : OpenClaim := { program := "ytilhmohfneeglaa", sum := "7218fd7cc77e0ae775d8f7109b9d8a8a0bdf57346f97d8b33184c0ed0610ab59", func := "loop.example/g01608/laws.FnExactPackKey", spec := "fnExactPackKey", apart := false }
def FnExactPackKeySaid : Prop := fnExactPackKeyRow.holds Try.pinned (OpenSpec.ofChange fnExactPackKeySpec)

/-- ITS FALSE NEIGHBOUR: 'it returns false'. Refute it at one input. -/
def fnExactPackKeyWrong : ChangeSpec := { name := "fnExactPackKey", fn := fun _ => fun
  | [d] => { results := [.lit (.bool false)], args := [d] }
  | _ => none }
def FnExactPackKeyWrongFalsely : Prop := fnExactPackKeyRow.holds Try.pinned (OpenSpec.ofChange fnExactPackKeyWrong)

/-- 'laws.FnExactUnpackKey': WHATEVER THE INPUT: true; the input reads as it did. -/
def fnExactUnpackKeySpec : ChangeSpec := { name := "fnExactUnpackKey", fn := fun _ => fun
  | [d] => { results := [.lit (.bool true)], args := [d] }
  | _ => none }
def fnExactUnpackKeyRow : OpenClaim := { program := "ytilhmohfneeglaa", sum := "7218fd7cc77e0ae775d8f7109b9d8a8a0bdf57346f97d8b33184c0ed0610ab59", func := "loop.example/g01608/laws.FnExactUnpackKey", spec := "fnExactUnpackKey", apart := false }
def FnExactUnpackKeySaid : Prop := fnExactUnpackKeyRow.holds Try.pinned (OpenSpec.ofChange fnExactUnpackKeySpec)

/-- ITS FALSE NEIGHBOUR: 'it returns false'. Refute it at one input. -/
def fnExactUnpackKeyWrong : ChangeSpec := { name := "fnExactUnpackKey", fn := fun _ => fun
  | [d] => { results := [.lit (.bool false)], args := [d] }
  | _ => none }
def FnExactUnpackKeyWrongFalsely : Prop := fnExactUnpackKeyRow.holds Try.pinned (OpenSpec.ofChange fnExactUnpackKeyWrong)

/-- 'laws.FnExactTagged': WHATEVER THE INPUT: true; the input reads as it did. -/
def fnExactTaggedSpec : ChangeSpec := { name := "fnExactTagged", fn := fun _ => fun
  | [d1, d2] => { results := [.lit (.bool true)], args := [d1, d2] }
  | _ => none }
def fnExactTaggedRow : OpenClaim := { program := "ytilhmohfneeglaa", sum := "7218fd7cc77e0ae775d8f7109b9d8a8a0bdf57346f97d8b33184c0ed0610ab59", func := "loop.example/g01608/laws.FnExactTagged", spec := "fnExactTagged", apart := false }
def FnExactTaggedSaid : Prop := fnExactTaggedRow.holds Try.pinned (OpenSpec.ofChange fnExactTaggedSpec)

/-- ITS FALSE NEIGHBOUR: 'it returns false'. Refute it at one input. -/
def fnExactTaggedWrong : ChangeSpec := { name := "fnExactTagged", fn := fun _ => fun
  | [d1, d2] => { results := [.lit (.bool false)], args := [d1, d2] }
  | _ => none }
def FnExactTaggedWrongFalsely : Prop := fnExactTaggedRow.holds Try.pinned (OpenSpec.ofChange fnExactTaggedWrong)

/-- 'laws.FnExactUntag': WHATEVER THE INPUT: true; the input reads as it did. -/
def fnExactUntagSpec : ChangeSpec := { name := "fnExactUntag", fn := fun _ => fun
  | [d] => { results := [.lit (.bool true)], args := [d] }
  | _ => none }
def fnExactUntagRow : OpenClaim := { program := "ytilhmohfneeglaa", sum := "7218fd7cc77e0ae775d8f7109b9d8a8a0bdf57346f97d8b33184c0ed0610ab59", func := "loop.example/g01608/laws.FnExactUntag", spec := "fnExactUntag", apart := false }
def FnExactUntagSaid : Prop := fnExactUntagRow.holds Try.pinned (OpenSpec.ofChange fnExactUntagSpec)

/-- ITS FALSE NEIGHBOUR: 'it returns false'. Refute it at one input. -/
def fnExactUntagWrong : ChangeSpec := { name := "fnExactUntag", fn := fun _ => fun
  | [d] => { results := [.lit (.bool false)], args := [d] }
  | _ => none }
def FnExactUntagWrongFalsely : Prop := fnExactUntagRow.holds Try.pinned (OpenSpec.ofChange fnExactUntagWrong)

/-- 'laws.FnKeys': WHATEVER THE INPUT: true; the input reads as it did. -/
def fnKeysSpec : ChangeSpec := { name := "fnKeys", fn := fun _ => fun
  | [d] => { results := [.lit (.bool true)], args := [d] }
  | _ => none }
def fnKeysRow : OpenClaim := { program := "ytilhmohfneeglaa", sum := "7218fd7cc77e0ae775d8f7109b9d8a8a0bdf57346f97d8b33184c0ed0610ab59", func := "loop.example/g01608/laws.FnKeys", spec := "fnKeys", apart := false }
def FnKeysSaid : Prop := fnKeysRow.holds Try.pinned (OpenSpec.ofChange fnKeysSpec)

/-- ITS FALSE NEIGHBOUR: 'it returns false'. Refute it at one input. -/
def fnKeysWrong : ChangeSpec := { name := "fnKeys", fn := fun _ => fun
  | [d] => { results := [.lit (.bool false)], args := [d] }
  | _ => none }
def FnKeysWrongFalsely : Prop := fnKeysRow.holds Try.pinned (OpenSpec.ofChange fnKeysWrong)

/-- 'laws.FnTags': WHATEVER THE INPUT: true; the input reads as it did. -/
def fnTagsSpec : ChangeSpec := { name := "fnTags", fn := fun _ => fun
  | [d] => { results := [.lit (.bool true)], args := [d] }
  | _ => none }
def fnTagsRow : OpenClaim := { program := "ytilhmohfneeglaa", sum := "7218fd7cc77e0ae775d8f7109b9d8a8a0bdf57346f97d8b33184c0ed0610ab59", func := "loop.example/g01608/laws.FnTags", spec := "fnTags", apart := false }
def FnTagsSaid : Prop := fnTagsRow.holds Try.pinned (OpenSpec.ofChange fnTagsSpec)

/-- ITS FALSE NEIGHBOUR: 'it returns false'. Refute it at one input. -/
def fnTagsWrong : ChangeSpec := { name := "fnTags", fn := fun _ => fun
  | [d] => { results := [.lit (.bool false)], args := [d] }
  | _ => none }
def FnTagsWrongFalsely : Prop := fnTagsRow.holds Try.pinned (OpenSpec.ofChange fnTagsWrong)

/- THE SECOND FORM. 'bulk': how many values and letters a reading holds, each counted each time it is reached (what is shared counts as often as it is met; a slice's spare places count too). A statement '..UptoSaid' is the law's where the arguments, and the package variables that the reading takes, are together of bulk at most 1048576: NARROWER than '..Said'. Prove '..Said' where nothing that the law and all that it calls make is longer than what came in: it says more and counts as full. Else prove '..UptoSaid'. A law counts once. -/
mutual
def uptoBulk {H : Type} : DataW H → Nat
  | .lit (.string bytes) => bytes.length + 1
  | .lit _ => 1
  | .nil => 1
  | .ptr d => uptoBulk d + 1
  | .slice elems spare => uptoBulkAll elems + uptoBulkAll spare + 1
  | .agg parts => uptoBulkAll parts + 1
  | .iface _ d => uptoBulk d + 1
  | .map entries => uptoBulkEntries entries + 1
  | .held _ => 1
def uptoBulkAll {H : Type} : List (DataW H) → Nat
  | [] => 0
  | d :: r => uptoBulk d + uptoBulkAll r
def uptoBulkEntries {H : Type} : List (Lit × DataW H) → Nat
  | [] => 0
  | x :: r => uptoBulkEntry x + uptoBulkEntries r
def uptoBulkEntry {H : Type} : Lit × DataW H → Nat
  | (.string bytes, d) => bytes.length + uptoBulk d + 1
  | (_, d) => uptoBulk d + 1
 end
def uptoSmall : (H : Type) → List (DataW H) → Bool := fun _ ds => decide (uptoBulkAll ds ≤ 1048576)
def OpenSpec.upto (s : _root_.Go.ChangeSpec) : _root_.Go.OpenSpec := { _root_.Go.OpenSpec.ofChange s with cond := some uptoSmall }

/-- 'laws.FnExactProbe', WHERE WHAT IT READS IS OF BULK AT MOST 1048576: true; the input reads as it did. -/
def fnExactProbeUptoRow : OpenClaim := { program := "ytilhmohfneeglaa", sum := "7218fd7cc77e0ae775d8f7109b9d8a8a0bdf57346f97d8b33184c0ed0610ab59", func := "loop.example/g01608/laws.FnExactProbe", spec := "fnExactProbe", apart := false, narrowed := true }
def FnExactProbeUptoSaid : Prop := fnExactProbeUptoRow.holds Try.pinned (OpenSpec.upto fnExactProbeSpec)

/-- 'laws.FnExactPackKey', WHERE WHAT IT READS IS OF BULK AT MOST 1048576: true; the input reads as it did. -/
def fnExactPackKeyUptoRow : OpenClaim := { program := "ytilhmohfneeglaa", sum := "7218fd7cc77e0ae775d8f7109b9d8a8a0bdf57346f97d8b33184c0ed0610ab59", func := "loop.example/g01608/laws.FnExactPackKey", spec := "fnExactPackKey", apart := false, narrowed := true }
def FnExactPackKeyUptoSaid : Prop := fnExactPackKeyUptoRow.holds Try.pinned (OpenSpec.upto fnExactPackKeySpec)

/-- 'laws.FnExactUnpackKey', WHERE WHAT IT READS IS OF BULK AT MOST 1048576: true; the input reads as it did. -/
def fnExactUnpackKeyUptoRow : OpenClaim := { program := "ytilhmohfneeglaa", sum := "7218fd7cc77e0ae775d8f7109b9d8a8a0bdf57346f97d8b33184c0ed0610ab59", func := "loop.example/g01608/laws.FnExactUnpackKey", spec := "fnExactUnpackKey", apart := false, narrowed := true }
def FnExactUnpackKeyUptoSaid : Prop := fnExactUnpackKeyUptoRow.holds Try.pinned (OpenSpec.upto fnExactUnpackKeySpec)

/-- 'laws.FnExactTagged', WHERE WHAT IT READS IS OF BULK AT MOST 1048576: true; the input reads as it did. -/
def fnExactTaggedUptoRow : OpenClaim := { program := "ytilhmohfneeglaa", sum := "7218fd7cc77e0ae775d8f7109b9d8a8a0bdf57346f97d8b33184c0ed0610ab59", func := "loop.example/g01608/laws.FnExactTagged", spec := "fnExactTagged", apart := false, narrowed := true }
def FnExactTaggedUptoSaid : Prop := fnExactTaggedUptoRow.holds Try.pinned (OpenSpec.upto fnExactTaggedSpec)

/-- 'laws.FnExactUntag', WHERE WHAT IT READS IS OF BULK AT MOST 1048576: true; the input reads as it did. -/
def fnExactUntagUptoRow : OpenClaim := { program := "ytilhmohfneeglaa", sum := "7218fd7cc77e0ae775d8f7109b9d8a8a0bdf57346f97d8b33184c0ed0610ab59", func := "loop.example/g01608/laws.FnExactUntag", spec := "fnExactUntag", apart := false, narrowed := true }
def FnExactUntagUptoSaid : Prop := fnExactUntagUptoRow.holds Try.pinned (OpenSpec.upto fnExactUntagSpec)

/-- 'laws.FnKeys', WHERE WHAT IT READS IS OF BULK AT MOST 1048576: true; the input reads as it did. -/
def fnKeysUptoRow : OpenClaim := { program := "ytilhmohfneeglaa", sum := "7218fd7cc77e0ae775d8f7109b9d8a8a0bdf57346f97d8b33184c0ed0610ab59", func := "loop.example/g01608/laws.FnKeys", spec := "fnKeys", apart := false, narrowed := true }
def FnKeysUptoSaid : Prop := fnKeysUptoRow.holds Try.pinned (OpenSpec.upto fnKeysSpec)

/-- 'laws.FnTags', WHERE WHAT IT READS IS OF BULK AT MOST 1048576: true; the input reads as it did. -/
def fnTagsUptoRow : OpenClaim := { program := "ytilhmohfneeglaa", sum := "7218fd7cc77e0ae775d8f7109b9d8a8a0bdf57346f97d8b33184c0ed0610ab59", func := "loop.example/g01608/laws.FnTags", spec := "fnTags", apart := false, narrowed := true }
def FnTagsUptoSaid : Prop := fnTagsUptoRow.holds Try.pinned (OpenSpec.upto fnTagsSpec)

end Rows
end Go.Proofs.Ytilhmohfneeglaa
