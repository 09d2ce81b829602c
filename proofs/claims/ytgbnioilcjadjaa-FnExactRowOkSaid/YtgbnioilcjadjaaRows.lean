/-
  No cell of these rows narrows 'for every input' (looked for: loops, veiled, ifaces, maps, wideKeys, modest, calm, conditions, laid).
  DERIVED. THE GIVEN ROWS OF THIS SEAT. 12 by the template 'for every input the law returns true; each argument reads behind the call as it read before'; 0 by the template 'total and deterministic' (their statements: YtgbnioilcjadjaaTotals.lean).
  GIVEN WITH THE SEED: the statements are not yours to turn. If you find one false, say at which input.
  Laid BY PROGRAM, IN A SANDBOX (cutbox-rows.mjs): the forced cells as the released guide's own fill.sh prints them over the translation c67cf6b09535ca4f… (all of the seat's roots in one cut). By AI agents, Wed Nov 11 2026. No macro, syntax, notation, axiom, sorry.
-/
import Derived.Test.YtgbnioilcjadjaaChecked
import GoSem.Claim
import GoSem.ClaimJoined
import GoSem.ClaimMapViews
import Derived.JoinedTies
import Derived.KernelRfl
namespace Go.Proofs.Ytgbnioilcjadjaa
/- THE CELL 'sum', in the pinned program and in every row, IS THE sha256 OF THE DUMP (.gsa) THAT YtgbnioilcjadjaaProg.lean LOADS. Nothing in Lean hashes anything: it is a label: what it is worth is what the hold of that sum in a sandbox is worth. -/
noncomputable def Try.pinned : Pinned := { name := "ytgbnioilcjadjaa", sum := "c67cf6b09535ca4f2567c21ceea9932f20025b78ff9ef4e9ae72c8f54ea9b4ea", checked := Try.checked }
namespace Rows
def none {H : Type} : Left H := { results := [], args := [] }

/-- 'laws.FnExactVar': WHATEVER THE INPUT: true; the input reads as it did. -/
def fnExactVarSpec : ChangeSpec := { name := "fnExactVar", fn := fun _ => fun
  | [d] => { results := [.lit (.bool true)], args := [d] }
  | _ => none }
def fnExactVarRow : OpenClaim := { program := "ytgbnioilcjadjaa", sum := "c67cf6b09535ca4f2567c21ceea9932f20025b78ff9ef4e9ae72c8f54ea9b4ea", func := "loop.example/g01608/laws.FnExactVar", spec := "fnExactVar", apart := false }
def FnExactVarSaid : Prop := fnExactVarRow.holds Try.pinned (OpenSpec.ofChange fnExactVarSpec)

/-- ITS FALSE NEIGHBOUR: 'it returns false'. Refute it at one input. -/
def fnExactVarWrong : ChangeSpec := { name := "fnExactVar", fn := fun _ => fun
  | [d] => { results := [.lit (.bool false)], args := [d] }
  | _ => none }
def FnExactVarWrongFalsely : Prop := fnExactVarRow.holds Try.pinned (OpenSpec.ofChange fnExactVarWrong)

/-- 'laws.FnExactFixed': WHATEVER THE INPUT: true; the input reads as it did. -/
def fnExactFixedSpec : ChangeSpec := { name := "fnExactFixed", fn := fun _ => fun
  | [d1, d2] => { results := [.lit (.bool true)], args := [d1, d2] }
  | _ => none }
def fnExactFixedRow : OpenClaim := { program := "ytgbnioilcjadjaa", sum := "c67cf6b09535ca4f2567c21ceea9932f20025b78ff9ef4e9ae72c8f54ea9b4ea", func := "loop.example/g01608/laws.FnExactFixed", spec := "fnExactFixed", apart := false }
def FnExactFixedSaid : Prop := fnExactFixedRow.holds Try.pinned (OpenSpec.ofChange fnExactFixedSpec)

/-- ITS FALSE NEIGHBOUR: 'it returns false'. Refute it at one input. -/
def fnExactFixedWrong : ChangeSpec := { name := "fnExactFixed", fn := fun _ => fun
  | [d1, d2] => { results := [.lit (.bool false)], args := [d1, d2] }
  | _ => none }
def FnExactFixedWrongFalsely : Prop := fnExactFixedRow.holds Try.pinned (OpenSpec.ofChange fnExactFixedWrong)

/-- 'laws.FnExactGaugeCell': WHATEVER THE INPUT: true; the input reads as it did. -/
def fnExactGaugeCellSpec : ChangeSpec := { name := "fnExactGaugeCell", fn := fun _ => fun
  | [d1, d2] => { results := [.lit (.bool true)], args := [d1, d2] }
  | _ => none }
def fnExactGaugeCellRow : OpenClaim := { program := "ytgbnioilcjadjaa", sum := "c67cf6b09535ca4f2567c21ceea9932f20025b78ff9ef4e9ae72c8f54ea9b4ea", func := "loop.example/g01608/laws.FnExactGaugeCell", spec := "fnExactGaugeCell", apart := false }
def FnExactGaugeCellSaid : Prop := fnExactGaugeCellRow.holds Try.pinned (OpenSpec.ofChange fnExactGaugeCellSpec)

/-- ITS FALSE NEIGHBOUR: 'it returns false'. Refute it at one input. -/
def fnExactGaugeCellWrong : ChangeSpec := { name := "fnExactGaugeCell", fn := fun _ => fun
  | [d1, d2] => { results := [.lit (.bool false)], args := [d1, d2] }
  | _ => none }
def FnExactGaugeCellWrongFalsely : Prop := fnExactGaugeCellRow.holds Try.pinned (OpenSpec.ofChange fnExactGaugeCellWrong)

/-- 'laws.FnExactStampCell': WHATEVER THE INPUT: true; the input reads as it did. -/
def fnExactStampCellSpec : ChangeSpec := { name := "fnExactStampCell", fn := fun _ => fun
  | [d1, d2] => { results := [.lit (.bool true)], args := [d1, d2] }
  | _ => none }
def fnExactStampCellRow : OpenClaim := { program := "ytgbnioilcjadjaa", sum := "c67cf6b09535ca4f2567c21ceea9932f20025b78ff9ef4e9ae72c8f54ea9b4ea", func := "loop.example/g01608/laws.FnExactStampCell", spec := "fnExactStampCell", apart := false }
def FnExactStampCellSaid : Prop := fnExactStampCellRow.holds Try.pinned (OpenSpec.ofChange fnExactStampCellSpec)

/-- ITS FALSE NEIGHBOUR: 'it returns false'. Refute it at one input. -/
def fnExactStampCellWrong : ChangeSpec := { name := "fnExactStampCell", fn := fun _ => fun
  | [d1, d2] => { results := [.lit (.bool false)], args := [d1, d2] }
  | _ => none }
def FnExactStampCellWrongFalsely : Prop := fnExactStampCellRow.holds Try.pinned (OpenSpec.ofChange fnExactStampCellWrong)

/-- 'laws.FnExactTicketCell': WHATEVER THE INPUT: true; the input reads as it did. -/
def fnExactTicketCellSpec : ChangeSpec := { name := "fnExactTicketCell", fn := fun _ => fun
  | [d1, d2] => { results := [.lit (.bool true)], args := [d1, d2] }
  | _ => none }
def fnExactTicketCellRow : OpenClaim := { program := "ytgbnioilcjadjaa", sum := "c67cf6b09535ca4f2567c21ceea9932f20025b78ff9ef4e9ae72c8f54ea9b4ea", func := "loop.example/g01608/laws.FnExactTicketCell", spec := "fnExactTicketCell", apart := false }
def FnExactTicketCellSaid : Prop := fnExactTicketCellRow.holds Try.pinned (OpenSpec.ofChange fnExactTicketCellSpec)

/-- ITS FALSE NEIGHBOUR: 'it returns false'. Refute it at one input. -/
def fnExactTicketCellWrong : ChangeSpec := { name := "fnExactTicketCell", fn := fun _ => fun
  | [d1, d2] => { results := [.lit (.bool false)], args := [d1, d2] }
  | _ => none }
def FnExactTicketCellWrongFalsely : Prop := fnExactTicketCellRow.holds Try.pinned (OpenSpec.ofChange fnExactTicketCellWrong)

/-- 'laws.FnExactKindOf': WHATEVER THE INPUT: true; the input reads as it did. -/
def fnExactKindOfSpec : ChangeSpec := { name := "fnExactKindOf", fn := fun _ => fun
  | [d] => { results := [.lit (.bool true)], args := [d] }
  | _ => none }
def fnExactKindOfRow : OpenClaim := { program := "ytgbnioilcjadjaa", sum := "c67cf6b09535ca4f2567c21ceea9932f20025b78ff9ef4e9ae72c8f54ea9b4ea", func := "loop.example/g01608/laws.FnExactKindOf", spec := "fnExactKindOf", apart := false }
def FnExactKindOfSaid : Prop := fnExactKindOfRow.holds Try.pinned (OpenSpec.ofChange fnExactKindOfSpec)

/-- ITS FALSE NEIGHBOUR: 'it returns false'. Refute it at one input. -/
def fnExactKindOfWrong : ChangeSpec := { name := "fnExactKindOf", fn := fun _ => fun
  | [d] => { results := [.lit (.bool false)], args := [d] }
  | _ => none }
def FnExactKindOfWrongFalsely : Prop := fnExactKindOfRow.holds Try.pinned (OpenSpec.ofChange fnExactKindOfWrong)

/-- 'laws.FnExactReadVar': WHATEVER THE INPUT: true; the input reads as it did. -/
def fnExactReadVarSpec : ChangeSpec := { name := "fnExactReadVar", fn := fun _ => fun
  | [d] => { results := [.lit (.bool true)], args := [d] }
  | _ => none }
def fnExactReadVarRow : OpenClaim := { program := "ytgbnioilcjadjaa", sum := "c67cf6b09535ca4f2567c21ceea9932f20025b78ff9ef4e9ae72c8f54ea9b4ea", func := "loop.example/g01608/laws.FnExactReadVar", spec := "fnExactReadVar", apart := false }
def FnExactReadVarSaid : Prop := fnExactReadVarRow.holds Try.pinned (OpenSpec.ofChange fnExactReadVarSpec)

/-- ITS FALSE NEIGHBOUR: 'it returns false'. Refute it at one input. -/
def fnExactReadVarWrong : ChangeSpec := { name := "fnExactReadVar", fn := fun _ => fun
  | [d] => { results := [.lit (.bool false)], args := [d] }
  | _ => none }
def FnExactReadVarWrongFalsely : Prop := fnExactReadVarRow.holds Try.pinned (OpenSpec.ofChange fnExactReadVarWrong)

/-- 'laws.FnExactRingCell': WHATEVER THE INPUT: true; the input reads as it did. -/
def fnExactRingCellSpec : ChangeSpec := { name := "fnExactRingCell", fn := fun _ => fun
  | [d1, d2, d3] => { results := [.lit (.bool true)], args := [d1, d2, d3] }
  | _ => none }
def fnExactRingCellRow : OpenClaim := { program := "ytgbnioilcjadjaa", sum := "c67cf6b09535ca4f2567c21ceea9932f20025b78ff9ef4e9ae72c8f54ea9b4ea", func := "loop.example/g01608/laws.FnExactRingCell", spec := "fnExactRingCell", apart := false }
def FnExactRingCellSaid : Prop := fnExactRingCellRow.holds Try.pinned (OpenSpec.ofChange fnExactRingCellSpec)

/-- ITS FALSE NEIGHBOUR: 'it returns false'. Refute it at one input. -/
def fnExactRingCellWrong : ChangeSpec := { name := "fnExactRingCell", fn := fun _ => fun
  | [d1, d2, d3] => { results := [.lit (.bool false)], args := [d1, d2, d3] }
  | _ => none }
def FnExactRingCellWrongFalsely : Prop := fnExactRingCellRow.holds Try.pinned (OpenSpec.ofChange fnExactRingCellWrong)

/-- 'laws.FnExactStripeCell': WHATEVER THE INPUT: true; the input reads as it did. -/
def fnExactStripeCellSpec : ChangeSpec := { name := "fnExactStripeCell", fn := fun _ => fun
  | [d1, d2, d3] => { results := [.lit (.bool true)], args := [d1, d2, d3] }
  | _ => none }
def fnExactStripeCellRow : OpenClaim := { program := "ytgbnioilcjadjaa", sum := "c67cf6b09535ca4f2567c21ceea9932f20025b78ff9ef4e9ae72c8f54ea9b4ea", func := "loop.example/g01608/laws.FnExactStripeCell", spec := "fnExactStripeCell", apart := false }
def FnExactStripeCellSaid : Prop := fnExactStripeCellRow.holds Try.pinned (OpenSpec.ofChange fnExactStripeCellSpec)

/-- ITS FALSE NEIGHBOUR: 'it returns false'. Refute it at one input. -/
def fnExactStripeCellWrong : ChangeSpec := { name := "fnExactStripeCell", fn := fun _ => fun
  | [d1, d2, d3] => { results := [.lit (.bool false)], args := [d1, d2, d3] }
  | _ => none }
def FnExactStripeCellWrongFalsely : Prop := fnExactStripeCellRow.holds Try.pinned (OpenSpec.ofChange fnExactStripeCellWrong)

/-- 'laws.FnExactUnhex': WHATEVER THE INPUT: true; the input reads as it did. -/
def fnExactUnhexSpec : ChangeSpec := { name := "fnExactUnhex", fn := fun _ => fun
  | [d] => { results := [.lit (.bool true)], args := [d] }
  | _ => none }
def fnExactUnhexRow : OpenClaim := { program := "ytgbnioilcjadjaa", sum := "c67cf6b09535ca4f2567c21ceea9932f20025b78ff9ef4e9ae72c8f54ea9b4ea", func := "loop.example/g01608/laws.FnExactUnhex", spec := "fnExactUnhex", apart := false }
def FnExactUnhexSaid : Prop := fnExactUnhexRow.holds Try.pinned (OpenSpec.ofChange fnExactUnhexSpec)

/-- ITS FALSE NEIGHBOUR: 'it returns false'. Refute it at one input. -/
def fnExactUnhexWrong : ChangeSpec := { name := "fnExactUnhex", fn := fun _ => fun
  | [d] => { results := [.lit (.bool false)], args := [d] }
  | _ => none }
def FnExactUnhexWrongFalsely : Prop := fnExactUnhexRow.holds Try.pinned (OpenSpec.ofChange fnExactUnhexWrong)

/-- 'laws.FnExactQuiet': WHATEVER THE INPUT: true; the input reads as it did. -/
def fnExactQuietSpec : ChangeSpec := { name := "fnExactQuiet", fn := fun _ => fun
  | [d] => { results := [.lit (.bool true)], args := [d] }
  | _ => none }
def fnExactQuietRow : OpenClaim := { program := "ytgbnioilcjadjaa", sum := "c67cf6b09535ca4f2567c21ceea9932f20025b78ff9ef4e9ae72c8f54ea9b4ea", func := "loop.example/g01608/laws.FnExactQuiet", spec := "fnExactQuiet", apart := false }
def FnExactQuietSaid : Prop := fnExactQuietRow.holds Try.pinned (OpenSpec.ofChange fnExactQuietSpec)

/-- ITS FALSE NEIGHBOUR: 'it returns false'. Refute it at one input. -/
def fnExactQuietWrong : ChangeSpec := { name := "fnExactQuiet", fn := fun _ => fun
  | [d] => { results := [.lit (.bool false)], args := [d] }
  | _ => none }
def FnExactQuietWrongFalsely : Prop := fnExactQuietRow.holds Try.pinned (OpenSpec.ofChange fnExactQuietWrong)

/-- 'laws.FnExactRowOk': WHATEVER THE INPUT: true; the input reads as it did. -/
def fnExactRowOkSpec : ChangeSpec := { name := "fnExactRowOk", fn := fun _ => fun
  | [d] => { results := [.lit (.bool true)], args := [d] }
  | _ => none }
def fnExactRowOkRow : OpenClaim := { program := "ytgbnioilcjadjaa", sum := "c67cf6b09535ca4f2567c21ceea9932f20025b78ff9ef4e9ae72c8f54ea9b4ea", func := "loop.example/g01608/laws.FnExactRowOk", spec := "fnExactRowOk", apart := false }
def FnExactRowOkSaid : Prop := fnExactRowOkRow.holds Try.pinned (OpenSpec.ofChange fnExactRowOkSpec)

/-- ITS FALSE NEIGHBOUR: 'it returns false'. Refute it at one input. -/
def fnExactRowOkWrong : ChangeSpec := { name := "fnExactRowOk", fn := fun _ => fun
  | [d] => { results := [.lit (.bool false)], args := [d] }
  | _ => none }
def FnExactRowOkWrongFalsely : Prop := fnExactRowOkRow.holds Try.pinned (OpenSpec.ofChange fnExactRowOkWrong)

/- THE SECOND FORM. 'bulk': how many values and letters a reading holds, each counted each time it is reached (what is shared counts as often as it is met; a slice's spare places count too). A statement '..UptoSaid' is the law's where the arguments, and the package variables that the reading takes, are together of bulk at most 1048576: NARROWER than '..Said'. Prove '..Said' where nothing that the law and all that it calls make is longer than what came in: it says more and counts as full. Else prove '..UptoSaid'. A law counts once. -/
mutual
def uptoBulk {H : Type} : DataW H → Nat
  | .lit (.string bytes) => bytes.length + 1
  | .lit _ => 1
  | .nil => 1
  | .ptr d => uptoBulk d + 1
  | .slice elems spare => uptoBulkAll elems + uptoBulkAll spare + 1
  | .agg parts => uptoBulkAll parts + 1
  | .iface _ d => uptoBulk d + 1
  | .map entries => uptoBulkEntries entries + 1
  | .held _ => 1
def uptoBulkAll {H : Type} : List (DataW H) → Nat
  | [] => 0
  | d :: r => uptoBulk d + uptoBulkAll r
def uptoBulkEntries {H : Type} : List (Lit × DataW H) → Nat
  | [] => 0
  | x :: r => uptoBulkEntry x + uptoBulkEntries r
def uptoBulkEntry {H : Type} : Lit × DataW H → Nat
  | (.string bytes, d) => bytes.length + uptoBulk d + 1
  | (_, d) => uptoBulk d + 1
 end
def uptoSmall : (H : Type) → List (DataW H) → Bool := fun _ ds => decide (uptoBulkAll ds ≤ 1048576)
def OpenSpec.upto (s : _root_.Go.ChangeSpec) : _root_.Go.OpenSpec := { _root_.Go.OpenSpec.ofChange s with cond := some uptoSmall }

/-- 'laws.FnExactVar', WHERE WHAT IT READS IS OF BULK AT MOST 1048576: true; the input reads as it did. -/
def fnExactVarUptoRow : OpenClaim := { program := "ytgbnioilcjadjaa", sum := "c67cf6b09535ca4f2567c21ceea9932f20025b78ff9ef4e9ae72c8f54ea9b4ea", func := "loop.example/g01608/laws.FnExactVar", spec := "fnExactVar", apart := false, narrowed := true }
def FnExactVarUptoSaid : Prop := fnExactVarUptoRow.holds Try.pinned (OpenSpec.upto fnExactVarSpec)

/-- 'laws.FnExactFixed', WHERE WHAT IT READS IS OF BULK AT MOST 1048576: true; the input reads as it did. -/
def fnExactFixedUptoRow : OpenClaim := { program := "ytgbnioilcjadjaa", sum := "c67cf6b09535ca4f2567c21ceea9932f20025b78ff9ef4e9ae72c8f54ea9b4ea", func := "loop.example/g01608/laws.FnExactFixed", spec := "fnExactFixed", apart := false, narrowed := true }
def FnExactFixedUptoSaid : Prop := fnExactFixedUptoRow.holds Try.pinned (OpenSpec.upto fnExactFixedSpec)

/-- 'laws.FnExactGaugeCell', WHERE WHAT IT READS IS OF BULK AT MOST 1048576: true; the input reads as it did. -/
def fnExactGaugeCellUptoRow : OpenClaim := { program := "ytgbnioilcjadjaa", sum := "c67cf6b09535ca4f2567c21ceea9932f20025b78ff9ef4e9ae72c8f54ea9b4ea", func := "loop.example/g01608/laws.FnExactGaugeCell", spec := "fnExactGaugeCell", apart := false, narrowed := true }
def FnExactGaugeCellUptoSaid : Prop := fnExactGaugeCellUptoRow.holds Try.pinned (OpenSpec.upto fnExactGaugeCellSpec)

/-- 'laws.FnExactStampCell', WHERE WHAT IT READS IS OF BULK AT MOST 1048576: true; the input reads as it did. -/
def fnExactStampCellUptoRow : OpenClaim := { program := "ytgbnioilcjadjaa", sum := "c67cf6b09535ca4f2567c21ceea9932f20025b78ff9ef4e9ae72c8f54ea9b4ea", func := "loop.example/g01608/laws.FnExactStampCell", spec := "fnExactStampCell", apart := false, narrowed := true }
def FnExactStampCellUptoSaid : Prop := fnExactStampCellUptoRow.holds Try.pinned (OpenSpec.upto fnExactStampCellSpec)

/-- 'laws.FnExactTicketCell', WHERE WHAT IT READS IS OF BULK AT MOST 1048576: true; the input reads as it did. -/
def fnExactTicketCellUptoRow : OpenClaim := { program := "ytgbnioilcjadjaa", sum := "c67cf6b09535ca4f2567c21ceea9932f20025b78ff9ef4e9ae72c8f54ea9b4ea", func := "loop.example/g01608/laws.FnExactTicketCell", spec := "fnExactTicketCell", apart := false, narrowed := true }
def FnExactTicketCellUptoSaid : Prop := fnExactTicketCellUptoRow.holds Try.pinned (OpenSpec.upto fnExactTicketCellSpec)

/-- 'laws.FnExactKindOf', WHERE WHAT IT READS IS OF BULK AT MOST 1048576: true; the input reads as it did. -/
def fnExactKindOfUptoRow : OpenClaim := { program := "ytgbnioilcjadjaa", sum := "c67cf6b09535ca4f2567c21ceea9932f20025b78ff9ef4e9ae72c8f54ea9b4ea", func := "loop.example/g01608/laws.FnExactKindOf", spec := "fnExactKindOf", apart := false, narrowed := true }
def FnExactKindOfUptoSaid : Prop := fnExactKindOfUptoRow.holds Try.pinned (OpenSpec.upto fnExactKindOfSpec)

/-- 'laws.FnExactReadVar', WHERE WHAT IT READS IS OF BULK AT MOST 1048576: true; the input reads as it did. -/
def fnExactReadVarUptoRow : OpenClaim := { program := "ytgbnioilcjadjaa", sum := "c67cf6b09535ca4f2567c21ceea9932f20025b78ff9ef4e9ae72c8f54ea9b4ea", func := "loop.example/g01608/laws.FnExactReadVar", spec := "fnExactReadVar", apart := false, narrowed := true }
def FnExactReadVarUptoSaid : Prop := fnExactReadVarUptoRow.holds Try.pinned (OpenSpec.upto fnExactReadVarSpec)

/-- 'laws.FnExactRingCell', WHERE WHAT IT READS IS OF BULK AT MOST 1048576: true; the input reads as it did. -/
def fnExactRingCellUptoRow : OpenClaim := { program := "ytgbnioilcjadjaa", sum := "c67cf6b09535ca4f2567c21ceea9932f20025b78ff9ef4e9ae72c8f54ea9b4ea", func := "loop.example/g01608/laws.FnExactRingCell", spec := "fnExactRingCell", apart := false, narrowed := true }
def FnExactRingCellUptoSaid : Prop := fnExactRingCellUptoRow.holds Try.pinned (OpenSpec.upto fnExactRingCellSpec)

/-- 'laws.FnExactStripeCell', WHERE WHAT IT READS IS OF BULK AT MOST 1048576: true; the input reads as it did. -/
def fnExactStripeCellUptoRow : OpenClaim := { program := "ytgbnioilcjadjaa", sum := "c67cf6b09535ca4f2567c21ceea9932f20025b78ff9ef4e9ae72c8f54ea9b4ea", func := "loop.example/g01608/laws.FnExactStripeCell", spec := "fnExactStripeCell", apart := false, narrowed := true }
def FnExactStripeCellUptoSaid : Prop := fnExactStripeCellUptoRow.holds Try.pinned (OpenSpec.upto fnExactStripeCellSpec)

/-- 'laws.FnExactUnhex', WHERE WHAT IT READS IS OF BULK AT MOST 1048576: true; the input reads as it did. -/
def fnExactUnhexUptoRow : OpenClaim := { program := "ytgbnioilcjadjaa", sum := "c67cf6b09535ca4f2567c21ceea9932f20025b78ff9ef4e9ae72c8f54ea9b4ea", func := "loop.example/g01608/laws.FnExactUnhex", spec := "fnExactUnhex", apart := false, narrowed := true }
def FnExactUnhexUptoSaid : Prop := fnExactUnhexUptoRow.holds Try.pinned (OpenSpec.upto fnExactUnhexSpec)

/-- 'laws.FnExactQuiet', WHERE WHAT IT READS IS OF BULK AT MOST 1048576: true; the input reads as it did. -/
def fnExactQuietUptoRow : OpenClaim := { program := "ytgbnioilcjadjaa", sum := "c67cf6b09535ca4f2567c21ceea9932f20025b78ff9ef4e9ae72c8f54ea9b4ea", func := "loop.example/g01608/laws.FnExactQuiet", spec := "fnExactQuiet", apart := false, narrowed := true }
def FnExactQuietUptoSaid : Prop := fnExactQuietUptoRow.holds Try.pinned (OpenSpec.upto fnExactQuietSpec)

/-- 'laws.FnExactRowOk', WHERE WHAT IT READS IS OF BULK AT MOST 1048576: true; the input reads as it did. -/
def fnExactRowOkUptoRow : OpenClaim := { program := "ytgbnioilcjadjaa", sum := "c67cf6b09535ca4f2567c21ceea9932f20025b78ff9ef4e9ae72c8f54ea9b4ea", func := "loop.example/g01608/laws.FnExactRowOk", spec := "fnExactRowOk", apart := false, narrowed := true }
def FnExactRowOkUptoSaid : Prop := fnExactRowOkUptoRow.holds Try.pinned (OpenSpec.upto fnExactRowOkSpec)

end Rows
end Go.Proofs.Ytgbnioilcjadjaa
