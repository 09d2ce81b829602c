/-
  No cell of these rows narrows 'for every input' (looked for: loops, veiled, ifaces, maps, wideKeys, modest, calm, conditions, laid).
  DERIVED. THE GIVEN ROWS OF THIS SEAT. 12 by the template 'for every input the law returns true; each argument reads behind the call as it read before'; 0 by the template 'total and deterministic' (their statements: YtgifdahpbappaaaTotals.lean).
  GIVEN WITH THE SEED: the statements are not yours to turn. If you find one false, say at which input.
  Laid BY PROGRAM, IN A SANDBOX (cutbox-rows.mjs): the forced cells as the released guide's own fill.sh prints them over the translation 0f4970a56457bc0e… (all of the seat's roots in one cut). By AI agents, Wed Nov 11 2026. No macro, syntax, notation, axiom, sorry.
-/
import Derived.Test.YtgifdahpbappaaaChecked
import GoSem.Claim
import GoSem.ClaimJoined
import GoSem.ClaimMapViews
import Derived.JoinedTies
import Derived.KernelRfl
namespace Go.Proofs.Ytgifdahpbappaaa
/- THE CELL 'sum', in the pinned program and in every row, IS THE sha256 OF THE DUMP (.gsa) THAT YtgifdahpbappaaaProg.lean LOADS. Nothing in Lean hashes anything: it is a label: what it is worth is what the hold of that sum in a sandbox is worth. -/
noncomputable def Try.pinned : Pinned := { name := "ytgifdahpbappaaa", sum := "0f4970a56457bc0e5149e59aa73947999b5539be7426bafaae3339c6a999a351", checked := Try.checked }
namespace Rows
def none {H : Type} : Left H := { results := [], args := [] }

/-- 'laws.FnExactConstants': WHATEVER THE INPUT: true; the input reads as it did. -/
def fnExactConstantsSpec : ChangeSpec := { name := "fnExactConstants", fn := fun _ => fun
  | [] => { results := [.lit (.bool true)], args := [] }
  | _ => none }
def fnExactConstantsRow : OpenClaim := { program := "ytgifdahpbappaaa", sum := "0f4970a56457bc0e5149e59aa73947999b5539be7426bafaae3339c6a999a351", func := "loop.example/g01608/laws.FnExactConstants", spec := "fnExactConstants", apart := false }
def FnExactConstantsSaid : Prop := fnExactConstantsRow.holds Try.pinned (OpenSpec.ofChange fnExactConstantsSpec)

/-- ITS FALSE NEIGHBOUR: 'it returns false'. Refute it at one input. -/
def fnExactConstantsWrong : ChangeSpec := { name := "fnExactConstants", fn := fun _ => fun
  | [] => { results := [.lit (.bool false)], args := [] }
  | _ => none }
def FnExactConstantsWrongFalsely : Prop := fnExactConstantsRow.holds Try.pinned (OpenSpec.ofChange fnExactConstantsWrong)

/-- 'laws.FnExactHashKey': WHATEVER THE INPUT: true; the input reads as it did. -/
def fnExactHashKeySpec : ChangeSpec := { name := "fnExactHashKey", fn := fun _ => fun
  | [d] => { results := [.lit (.bool true)], args := [d] }
  | _ => none }
def fnExactHashKeyRow : OpenClaim := { program := "ytgifdahpbappaaa", sum := "0f4970a56457bc0e5149e59aa73947999b5539be7426bafaae3339c6a999a351", func := "loop.example/g01608/laws.FnExactHashKey", spec := "fnExactHashKey", apart := false }
def FnExactHashKeySaid : Prop := fnExactHashKeyRow.holds Try.pinned (OpenSpec.ofChange fnExactHashKeySpec)

/-- ITS FALSE NEIGHBOUR: 'it returns false'. Refute it at one input. -/
def fnExactHashKeyWrong : ChangeSpec := { name := "fnExactHashKey", fn := fun _ => fun
  | [d] => { results := [.lit (.bool false)], args := [d] }
  | _ => none }
def FnExactHashKeyWrongFalsely : Prop := fnExactHashKeyRow.holds Try.pinned (OpenSpec.ofChange fnExactHashKeyWrong)

/-- 'laws.FnExactInCell': WHATEVER THE INPUT: true; the input reads as it did. -/
def fnExactInCellSpec : ChangeSpec := { name := "fnExactInCell", fn := fun _ => fun
  | [d] => { results := [.lit (.bool true)], args := [d] }
  | _ => none }
def fnExactInCellRow : OpenClaim := { program := "ytgifdahpbappaaa", sum := "0f4970a56457bc0e5149e59aa73947999b5539be7426bafaae3339c6a999a351", func := "loop.example/g01608/laws.FnExactInCell", spec := "fnExactInCell", apart := false }
def FnExactInCellSaid : Prop := fnExactInCellRow.holds Try.pinned (OpenSpec.ofChange fnExactInCellSpec)

/-- ITS FALSE NEIGHBOUR: 'it returns false'. Refute it at one input. -/
def fnExactInCellWrong : ChangeSpec := { name := "fnExactInCell", fn := fun _ => fun
  | [d] => { results := [.lit (.bool false)], args := [d] }
  | _ => none }
def FnExactInCellWrongFalsely : Prop := fnExactInCellRow.holds Try.pinned (OpenSpec.ofChange fnExactInCellWrong)

/-- 'laws.FnExactKeyCell': WHATEVER THE INPUT: true; the input reads as it did. -/
def fnExactKeyCellSpec : ChangeSpec := { name := "fnExactKeyCell", fn := fun _ => fun
  | [d] => { results := [.lit (.bool true)], args := [d] }
  | _ => none }
def fnExactKeyCellRow : OpenClaim := { program := "ytgifdahpbappaaa", sum := "0f4970a56457bc0e5149e59aa73947999b5539be7426bafaae3339c6a999a351", func := "loop.example/g01608/laws.FnExactKeyCell", spec := "fnExactKeyCell", apart := false }
def FnExactKeyCellSaid : Prop := fnExactKeyCellRow.holds Try.pinned (OpenSpec.ofChange fnExactKeyCellSpec)

/-- ITS FALSE NEIGHBOUR: 'it returns false'. Refute it at one input. -/
def fnExactKeyCellWrong : ChangeSpec := { name := "fnExactKeyCell", fn := fun _ => fun
  | [d] => { results := [.lit (.bool false)], args := [d] }
  | _ => none }
def FnExactKeyCellWrongFalsely : Prop := fnExactKeyCellRow.holds Try.pinned (OpenSpec.ofChange fnExactKeyCellWrong)

/-- 'laws.FnExactPackGauge': WHATEVER THE INPUT: true; the input reads as it did. -/
def fnExactPackGaugeSpec : ChangeSpec := { name := "fnExactPackGauge", fn := fun _ => fun
  | [d1, d2] => { results := [.lit (.bool true)], args := [d1, d2] }
  | _ => none }
def fnExactPackGaugeRow : OpenClaim := { program := "ytgifdahpbappaaa", sum := "0f4970a56457bc0e5149e59aa73947999b5539be7426bafaae3339c6a999a351", func := "loop.example/g01608/laws.FnExactPackGauge", spec := "fnExactPackGauge", apart := false }
def FnExactPackGaugeSaid : Prop := fnExactPackGaugeRow.holds Try.pinned (OpenSpec.ofChange fnExactPackGaugeSpec)

/-- ITS FALSE NEIGHBOUR: 'it returns false'. Refute it at one input. -/
def fnExactPackGaugeWrong : ChangeSpec := { name := "fnExactPackGauge", fn := fun _ => fun
  | [d1, d2] => { results := [.lit (.bool false)], args := [d1, d2] }
  | _ => none }
def FnExactPackGaugeWrongFalsely : Prop := fnExactPackGaugeRow.holds Try.pinned (OpenSpec.ofChange fnExactPackGaugeWrong)

/-- 'laws.FnExactSlotBase': WHATEVER THE INPUT: true; the input reads as it did. -/
def fnExactSlotBaseSpec : ChangeSpec := { name := "fnExactSlotBase", fn := fun _ => fun
  | [d1, d2] => { results := [.lit (.bool true)], args := [d1, d2] }
  | _ => none }
def fnExactSlotBaseRow : OpenClaim := { program := "ytgifdahpbappaaa", sum := "0f4970a56457bc0e5149e59aa73947999b5539be7426bafaae3339c6a999a351", func := "loop.example/g01608/laws.FnExactSlotBase", spec := "fnExactSlotBase", apart := false }
def FnExactSlotBaseSaid : Prop := fnExactSlotBaseRow.holds Try.pinned (OpenSpec.ofChange fnExactSlotBaseSpec)

/-- ITS FALSE NEIGHBOUR: 'it returns false'. Refute it at one input. -/
def fnExactSlotBaseWrong : ChangeSpec := { name := "fnExactSlotBase", fn := fun _ => fun
  | [d1, d2] => { results := [.lit (.bool false)], args := [d1, d2] }
  | _ => none }
def FnExactSlotBaseWrongFalsely : Prop := fnExactSlotBaseRow.holds Try.pinned (OpenSpec.ofChange fnExactSlotBaseWrong)

/-- 'laws.FnExactHex': WHATEVER THE INPUT: true; the input reads as it did. -/
def fnExactHexSpec : ChangeSpec := { name := "fnExactHex", fn := fun _ => fun
  | [d] => { results := [.lit (.bool true)], args := [d] }
  | _ => none }
def fnExactHexRow : OpenClaim := { program := "ytgifdahpbappaaa", sum := "0f4970a56457bc0e5149e59aa73947999b5539be7426bafaae3339c6a999a351", func := "loop.example/g01608/laws.FnExactHex", spec := "fnExactHex", apart := false }
def FnExactHexSaid : Prop := fnExactHexRow.holds Try.pinned (OpenSpec.ofChange fnExactHexSpec)

/-- ITS FALSE NEIGHBOUR: 'it returns false'. Refute it at one input. -/
def fnExactHexWrong : ChangeSpec := { name := "fnExactHex", fn := fun _ => fun
  | [d] => { results := [.lit (.bool false)], args := [d] }
  | _ => none }
def FnExactHexWrongFalsely : Prop := fnExactHexRow.holds Try.pinned (OpenSpec.ofChange fnExactHexWrong)

/-- 'laws.FnExactCodeWord': WHATEVER THE INPUT: true; the input reads as it did. -/
def fnExactCodeWordSpec : ChangeSpec := { name := "fnExactCodeWord", fn := fun _ => fun
  | [d] => { results := [.lit (.bool true)], args := [d] }
  | _ => none }
def fnExactCodeWordRow : OpenClaim := { program := "ytgifdahpbappaaa", sum := "0f4970a56457bc0e5149e59aa73947999b5539be7426bafaae3339c6a999a351", func := "loop.example/g01608/laws.FnExactCodeWord", spec := "fnExactCodeWord", apart := false }
def FnExactCodeWordSaid : Prop := fnExactCodeWordRow.holds Try.pinned (OpenSpec.ofChange fnExactCodeWordSpec)

/-- ITS FALSE NEIGHBOUR: 'it returns false'. Refute it at one input. -/
def fnExactCodeWordWrong : ChangeSpec := { name := "fnExactCodeWord", fn := fun _ => fun
  | [d] => { results := [.lit (.bool false)], args := [d] }
  | _ => none }
def FnExactCodeWordWrongFalsely : Prop := fnExactCodeWordRow.holds Try.pinned (OpenSpec.ofChange fnExactCodeWordWrong)

/-- 'laws.FnExactKindWord': WHATEVER THE INPUT: true; the input reads as it did. -/
def fnExactKindWordSpec : ChangeSpec := { name := "fnExactKindWord", fn := fun _ => fun
  | [d] => { results := [.lit (.bool true)], args := [d] }
  | _ => none }
def fnExactKindWordRow : OpenClaim := { program := "ytgifdahpbappaaa", sum := "0f4970a56457bc0e5149e59aa73947999b5539be7426bafaae3339c6a999a351", func := "loop.example/g01608/laws.FnExactKindWord", spec := "fnExactKindWord", apart := false }
def FnExactKindWordSaid : Prop := fnExactKindWordRow.holds Try.pinned (OpenSpec.ofChange fnExactKindWordSpec)

/-- ITS FALSE NEIGHBOUR: 'it returns false'. Refute it at one input. -/
def fnExactKindWordWrong : ChangeSpec := { name := "fnExactKindWord", fn := fun _ => fun
  | [d] => { results := [.lit (.bool false)], args := [d] }
  | _ => none }
def FnExactKindWordWrongFalsely : Prop := fnExactKindWordRow.holds Try.pinned (OpenSpec.ofChange fnExactKindWordWrong)

/-- 'laws.FnExactUnpackGauge': WHATEVER THE INPUT: true; the input reads as it did. -/
def fnExactUnpackGaugeSpec : ChangeSpec := { name := "fnExactUnpackGauge", fn := fun _ => fun
  | [d] => { results := [.lit (.bool true)], args := [d] }
  | _ => none }
def fnExactUnpackGaugeRow : OpenClaim := { program := "ytgifdahpbappaaa", sum := "0f4970a56457bc0e5149e59aa73947999b5539be7426bafaae3339c6a999a351", func := "loop.example/g01608/laws.FnExactUnpackGauge", spec := "fnExactUnpackGauge", apart := false }
def FnExactUnpackGaugeSaid : Prop := fnExactUnpackGaugeRow.holds Try.pinned (OpenSpec.ofChange fnExactUnpackGaugeSpec)

/-- ITS FALSE NEIGHBOUR: 'it returns false'. Refute it at one input. -/
def fnExactUnpackGaugeWrong : ChangeSpec := { name := "fnExactUnpackGauge", fn := fun _ => fun
  | [d] => { results := [.lit (.bool false)], args := [d] }
  | _ => none }
def FnExactUnpackGaugeWrongFalsely : Prop := fnExactUnpackGaugeRow.holds Try.pinned (OpenSpec.ofChange fnExactUnpackGaugeWrong)

/-- 'laws.FnExactReadFixed': WHATEVER THE INPUT: true; the input reads as it did. -/
def fnExactReadFixedSpec : ChangeSpec := { name := "fnExactReadFixed", fn := fun _ => fun
  | [d1, d2] => { results := [.lit (.bool true)], args := [d1, d2] }
  | _ => none }
def fnExactReadFixedRow : OpenClaim := { program := "ytgifdahpbappaaa", sum := "0f4970a56457bc0e5149e59aa73947999b5539be7426bafaae3339c6a999a351", func := "loop.example/g01608/laws.FnExactReadFixed", spec := "fnExactReadFixed", apart := false }
def FnExactReadFixedSaid : Prop := fnExactReadFixedRow.holds Try.pinned (OpenSpec.ofChange fnExactReadFixedSpec)

/-- ITS FALSE NEIGHBOUR: 'it returns false'. Refute it at one input. -/
def fnExactReadFixedWrong : ChangeSpec := { name := "fnExactReadFixed", fn := fun _ => fun
  | [d1, d2] => { results := [.lit (.bool false)], args := [d1, d2] }
  | _ => none }
def FnExactReadFixedWrongFalsely : Prop := fnExactReadFixedRow.holds Try.pinned (OpenSpec.ofChange fnExactReadFixedWrong)

/-- 'laws.FnExactKeyOk': WHATEVER THE INPUT: true; the input reads as it did. -/
def fnExactKeyOkSpec : ChangeSpec := { name := "fnExactKeyOk", fn := fun _ => fun
  | [d] => { results := [.lit (.bool true)], args := [d] }
  | _ => none }
def fnExactKeyOkRow : OpenClaim := { program := "ytgifdahpbappaaa", sum := "0f4970a56457bc0e5149e59aa73947999b5539be7426bafaae3339c6a999a351", func := "loop.example/g01608/laws.FnExactKeyOk", spec := "fnExactKeyOk", apart := false }
def FnExactKeyOkSaid : Prop := fnExactKeyOkRow.holds Try.pinned (OpenSpec.ofChange fnExactKeyOkSpec)

/-- ITS FALSE NEIGHBOUR: 'it returns false'. Refute it at one input. -/
def fnExactKeyOkWrong : ChangeSpec := { name := "fnExactKeyOk", fn := fun _ => fun
  | [d] => { results := [.lit (.bool false)], args := [d] }
  | _ => none }
def FnExactKeyOkWrongFalsely : Prop := fnExactKeyOkRow.holds Try.pinned (OpenSpec.ofChange fnExactKeyOkWrong)

/- THE SECOND FORM. 'bulk': how many values and letters a reading holds, each counted each time it is reached (what is shared counts as often as it is met; a slice's spare places count too). A statement '..UptoSaid' is the law's where the arguments, and the package variables that the reading takes, are together of bulk at most 1048576: NARROWER than '..Said'. Prove '..Said' where nothing that the law and all that it calls make is longer than what came in: it says more and counts as full. Else prove '..UptoSaid'. A law counts once. -/
mutual
def uptoBulk {H : Type} : DataW H → Nat
  | .lit (.string bytes) => bytes.length + 1
  | .lit _ => 1
  | .nil => 1
  | .ptr d => uptoBulk d + 1
  | .slice elems spare => uptoBulkAll elems + uptoBulkAll spare + 1
  | .agg parts => uptoBulkAll parts + 1
  | .iface _ d => uptoBulk d + 1
  | .map entries => uptoBulkEntries entries + 1
  | .held _ => 1
def uptoBulkAll {H : Type} : List (DataW H) → Nat
  | [] => 0
  | d :: r => uptoBulk d + uptoBulkAll r
def uptoBulkEntries {H : Type} : List (Lit × DataW H) → Nat
  | [] => 0
  | x :: r => uptoBulkEntry x + uptoBulkEntries r
def uptoBulkEntry {H : Type} : Lit × DataW H → Nat
  | (.string bytes, d) => bytes.length + uptoBulk d + 1
  | (_, d) => uptoBulk d + 1
 end
def uptoSmall : (H : Type) → List (DataW H) → Bool := fun _ ds => decide (uptoBulkAll ds ≤ 1048576)
def OpenSpec.upto (s : _root_.Go.ChangeSpec) : _root_.Go.OpenSpec := { _root_.Go.OpenSpec.ofChange s with cond := some uptoSmall }

/-- 'laws.FnExactConstants', WHERE WHAT IT READS IS OF BULK AT MOST 1048576: true; the input reads as it did. -/
def fnExactConstantsUptoRow : OpenClaim := { program := "ytgifdahpbappaaa", sum := "0f4970a56457bc0e5149e59aa73947999b5539be7426bafaae3339c6a999a351", func := "loop.example/g01608/laws.FnExactConstants", spec := "fnExactConstants", apart := false, narrowed := true }
def FnExactConstantsUptoSaid : Prop := fnExactConstantsUptoRow.holds Try.pinned (OpenSpec.upto fnExactConstantsSpec)

/-- 'laws.FnExactHashKey', WHERE WHAT IT READS IS OF BULK AT MOST 1048576: true; the input reads as it did. -/
def fnExactHashKeyUptoRow : OpenClaim := { program := "ytgifdahpbappaaa", sum := "0f4970a56457bc0e5149e59aa73947999b5539be7426bafaae3339c6a999a351", func := "loop.example/g01608/laws.FnExactHashKey", spec := "fnExactHashKey", apart := false, narrowed := true }
def FnExactHashKeyUptoSaid : Prop := fnExactHashKeyUptoRow.holds Try.pinned (OpenSpec.upto fnExactHashKeySpec)

/-- 'laws.FnExactInCell', WHERE WHAT IT READS IS OF BULK AT MOST 1048576: true; the input reads as it did. -/
def fnExactInCellUptoRow : OpenClaim := { program := "ytgifdahpbappaaa", sum := "0f4970a56457bc0e5149e59aa73947999b5539be7426bafaae3339c6a999a351", func := "loop.example/g01608/laws.FnExactInCell", spec := "fnExactInCell", apart := false, narrowed := true }
def FnExactInCellUptoSaid : Prop := fnExactInCellUptoRow.holds Try.pinned (OpenSpec.upto fnExactInCellSpec)

/-- 'laws.FnExactKeyCell', WHERE WHAT IT READS IS OF BULK AT MOST 1048576: true; the input reads as it did. -/
def fnExactKeyCellUptoRow : OpenClaim := { program := "ytgifdahpbappaaa", sum := "0f4970a56457bc0e5149e59aa73947999b5539be7426bafaae3339c6a999a351", func := "loop.example/g01608/laws.FnExactKeyCell", spec := "fnExactKeyCell", apart := false, narrowed := true }
def FnExactKeyCellUptoSaid : Prop := fnExactKeyCellUptoRow.holds Try.pinned (OpenSpec.upto fnExactKeyCellSpec)

/-- 'laws.FnExactPackGauge', WHERE WHAT IT READS IS OF BULK AT MOST 1048576: true; the input reads as it did. -/
def fnExactPackGaugeUptoRow : OpenClaim := { program := "ytgifdahpbappaaa", sum := "0f4970a56457bc0e5149e59aa73947999b5539be7426bafaae3339c6a999a351", func := "loop.example/g01608/laws.FnExactPackGauge", spec := "fnExactPackGauge", apart := false, narrowed := true }
def FnExactPackGaugeUptoSaid : Prop := fnExactPackGaugeUptoRow.holds Try.pinned (OpenSpec.upto fnExactPackGaugeSpec)

/-- 'laws.FnExactSlotBase', WHERE WHAT IT READS IS OF BULK AT MOST 1048576: true; the input reads as it did. -/
def fnExactSlotBaseUptoRow : OpenClaim := { program := "ytgifdahpbappaaa", sum := "0f4970a56457bc0e5149e59aa73947999b5539be7426bafaae3339c6a999a351", func := "loop.example/g01608/laws.FnExactSlotBase", spec := "fnExactSlotBase", apart := false, narrowed := true }
def FnExactSlotBaseUptoSaid : Prop := fnExactSlotBaseUptoRow.holds Try.pinned (OpenSpec.upto fnExactSlotBaseSpec)

/-- 'laws.FnExactHex', WHERE WHAT IT READS IS OF BULK AT MOST 1048576: true; the input reads as it did. -/
def fnExactHexUptoRow : OpenClaim := { program := "ytgifdahpbappaaa", sum := "0f4970a56457bc0e5149e59aa73947999b5539be7426bafaae3339c6a999a351", func := "loop.example/g01608/laws.FnExactHex", spec := "fnExactHex", apart := false, narrowed := true }
def FnExactHexUptoSaid : Prop := fnExactHexUptoRow.holds Try.pinned (OpenSpec.upto fnExactHexSpec)

/-- 'laws.FnExactCodeWord', WHERE WHAT IT READS IS OF BULK AT MOST 1048576: true; the input reads as it did. -/
def fnExactCodeWordUptoRow : OpenClaim := { program := "ytgifdahpbappaaa", sum := "0f4970a56457bc0e5149e59aa73947999b5539be7426bafaae3339c6a999a351", func := "loop.example/g01608/laws.FnExactCodeWord", spec := "fnExactCodeWord", apart := false, narrowed := true }
def FnExactCodeWordUptoSaid : Prop := fnExactCodeWordUptoRow.holds Try.pinned (OpenSpec.upto fnExactCodeWordSpec)

/-- 'laws.FnExactKindWord', WHERE WHAT IT READS IS OF BULK AT MOST 1048576: true; the input reads as it did. -/
def fnExactKindWordUptoRow : OpenClaim := { program := "ytgifdahpbappaaa", sum := "0f4970a56457bc0e5149e59aa73947999b5539be7426bafaae3339c6a999a351", func := "loop.example/g01608/laws.FnExactKindWord", spec := "fnExactKindWord", apart := false, narrowed := true }
def FnExactKindWordUptoSaid : Prop := fnExactKindWordUptoRow.holds Try.pinned (OpenSpec.upto fnExactKindWordSpec)

/-- 'laws.FnExactUnpackGauge', WHERE WHAT IT READS IS OF BULK AT MOST 1048576: true; the input reads as it did. -/
def fnExactUnpackGaugeUptoRow : OpenClaim := { program := "ytgifdahpbappaaa", sum := "0f4970a56457bc0e5149e59aa73947999b5539be7426bafaae3339c6a999a351", func := "loop.example/g01608/laws.FnExactUnpackGauge", spec := "fnExactUnpackGauge", apart := false, narrowed := true }
def FnExactUnpackGaugeUptoSaid : Prop := fnExactUnpackGaugeUptoRow.holds Try.pinned (OpenSpec.upto fnExactUnpackGaugeSpec)

/-- 'laws.FnExactReadFixed', WHERE WHAT IT READS IS OF BULK AT MOST 1048576: true; the input reads as it did. -/
def fnExactReadFixedUptoRow : OpenClaim := { program := "ytgifdahpbappaaa", sum := "0f4970a56457bc0e5149e59aa73947999b5539be7426bafaae3339c6a999a351", func := "loop.example/g01608/laws.FnExactReadFixed", spec := "fnExactReadFixed", apart := false, narrowed := true }
def FnExactReadFixedUptoSaid : Prop := fnExactReadFixedUptoRow.holds Try.pinned (OpenSpec.upto fnExactReadFixedSpec)

/-- 'laws.FnExactKeyOk', WHERE WHAT IT READS IS OF BULK AT MOST 1048576: true; the input reads as it did. -/
def fnExactKeyOkUptoRow : OpenClaim := { program := "ytgifdahpbappaaa", sum := "0f4970a56457bc0e5149e59aa73947999b5539be7426bafaae3339c6a999a351", func := "loop.example/g01608/laws.FnExactKeyOk", spec := "fnExactKeyOk", apart := false, narrowed := true }
def FnExactKeyOkUptoSaid : Prop := fnExactKeyOkUptoRow.holds Try.pinned (OpenSpec.upto fnExactKeyOkSpec)

end Rows
end Go.Proofs.Ytgifdahpbappaaa
