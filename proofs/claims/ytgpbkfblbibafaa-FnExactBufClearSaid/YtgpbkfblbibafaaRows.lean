/-
  No cell of these rows narrows 'for every input' (looked for: loops, veiled, ifaces, maps, wideKeys, modest, calm, conditions, laid).
  DERIVED. THE GIVEN ROWS OF THIS SEAT. 14 by the template 'for every input the law returns true; each argument reads behind the call as it read before'; 0 by the template 'total and deterministic' (their statements: YtgpbkfblbibafaaTotals.lean).
  GIVEN WITH THE SEED: the statements are not yours to turn. If you find one false, say at which input.
  Laid BY PROGRAM, IN A SANDBOX (cutbox-rows.mjs): the forced cells as the released guide's own fill.sh prints them over the translation 076ebcc00f9f6612… (all of the seat's roots in one cut). By AI agents, Wed Nov 11 2026. No macro, syntax, notation, axiom, sorry.
-/
import Derived.Test.YtgpbkfblbibafaaChecked
import GoSem.Claim
import GoSem.ClaimJoined
import GoSem.ClaimMapViews
import Derived.JoinedTies
import Derived.KernelRfl
namespace Go.Proofs.Ytgpbkfblbibafaa
/- THE CELL 'sum', in the pinned program and in every row, IS THE sha256 OF THE DUMP (.gsa) THAT YtgpbkfblbibafaaProg.lean LOADS. Nothing in Lean hashes anything: it is a label: what it is worth is what the hold of that sum in a sandbox is worth. -/
noncomputable def Try.pinned : Pinned := { name := "ytgpbkfblbibafaa", sum := "076ebcc00f9f6612ffb2c5ae37e10191101df0dab8fe568921a572ac4bf759b8", checked := Try.checked }
namespace Rows
def none {H : Type} : Left H := { results := [], args := [] }

/-- 'laws.FnExactSameCells': WHATEVER THE INPUT: true; the input reads as it did. -/
def fnExactSameCellsSpec : ChangeSpec := { name := "fnExactSameCells", fn := fun _ => fun
  | [d1, d2] => { results := [.lit (.bool true)], args := [d1, d2] }
  | _ => none }
def fnExactSameCellsRow : OpenClaim := { program := "ytgpbkfblbibafaa", sum := "076ebcc00f9f6612ffb2c5ae37e10191101df0dab8fe568921a572ac4bf759b8", func := "loop.example/g01608/laws.FnExactSameCells", spec := "fnExactSameCells", apart := false }
def FnExactSameCellsSaid : Prop := fnExactSameCellsRow.holds Try.pinned (OpenSpec.ofChange fnExactSameCellsSpec)

/-- ITS FALSE NEIGHBOUR: 'it returns false'. Refute it at one input. -/
def fnExactSameCellsWrong : ChangeSpec := { name := "fnExactSameCells", fn := fun _ => fun
  | [d1, d2] => { results := [.lit (.bool false)], args := [d1, d2] }
  | _ => none }
def FnExactSameCellsWrongFalsely : Prop := fnExactSameCellsRow.holds Try.pinned (OpenSpec.ofChange fnExactSameCellsWrong)

/-- 'laws.FnExactCellsOk': WHATEVER THE INPUT: true; the input reads as it did. -/
def fnExactCellsOkSpec : ChangeSpec := { name := "fnExactCellsOk", fn := fun _ => fun
  | [d] => { results := [.lit (.bool true)], args := [d] }
  | _ => none }
def fnExactCellsOkRow : OpenClaim := { program := "ytgpbkfblbibafaa", sum := "076ebcc00f9f6612ffb2c5ae37e10191101df0dab8fe568921a572ac4bf759b8", func := "loop.example/g01608/laws.FnExactCellsOk", spec := "fnExactCellsOk", unfollowed := true, recurses := true, apart := false }
def FnExactCellsOkSaid : Prop := fnExactCellsOkRow.holds Try.pinned (OpenSpec.ofChange fnExactCellsOkSpec)

/-- ITS FALSE NEIGHBOUR: 'it returns false'. Refute it at one input. -/
def fnExactCellsOkWrong : ChangeSpec := { name := "fnExactCellsOk", fn := fun _ => fun
  | [d] => { results := [.lit (.bool false)], args := [d] }
  | _ => none }
def FnExactCellsOkWrongFalsely : Prop := fnExactCellsOkRow.holds Try.pinned (OpenSpec.ofChange fnExactCellsOkWrong)

/-- 'laws.FnExactLoadCell': WHATEVER THE INPUT: true; the input reads as it did. -/
def fnExactLoadCellSpec : ChangeSpec := { name := "fnExactLoadCell", fn := fun _ => fun
  | [d1, d2] => { results := [.lit (.bool true)], args := [d1, d2] }
  | _ => none }
def fnExactLoadCellRow : OpenClaim := { program := "ytgpbkfblbibafaa", sum := "076ebcc00f9f6612ffb2c5ae37e10191101df0dab8fe568921a572ac4bf759b8", func := "loop.example/g01608/laws.FnExactLoadCell", spec := "fnExactLoadCell", unfollowed := true, recurses := true, apart := false }
def FnExactLoadCellSaid : Prop := fnExactLoadCellRow.holds Try.pinned (OpenSpec.ofChange fnExactLoadCellSpec)

/-- ITS FALSE NEIGHBOUR: 'it returns false'. Refute it at one input. -/
def fnExactLoadCellWrong : ChangeSpec := { name := "fnExactLoadCell", fn := fun _ => fun
  | [d1, d2] => { results := [.lit (.bool false)], args := [d1, d2] }
  | _ => none }
def FnExactLoadCellWrongFalsely : Prop := fnExactLoadCellRow.holds Try.pinned (OpenSpec.ofChange fnExactLoadCellWrong)

/-- 'laws.FnExactBufClear': WHATEVER THE INPUT: true; the input reads as it did. -/
def fnExactBufClearSpec : ChangeSpec := { name := "fnExactBufClear", fn := fun _ => fun
  | [d1, d2] => { results := [.lit (.bool true)], args := [d1, d2] }
  | _ => none }
def fnExactBufClearRow : OpenClaim := { program := "ytgpbkfblbibafaa", sum := "076ebcc00f9f6612ffb2c5ae37e10191101df0dab8fe568921a572ac4bf759b8", func := "loop.example/g01608/laws.FnExactBufClear", spec := "fnExactBufClear", unfollowed := true, recurses := true, apart := false }
def FnExactBufClearSaid : Prop := fnExactBufClearRow.holds Try.pinned (OpenSpec.ofChange fnExactBufClearSpec)

/-- ITS FALSE NEIGHBOUR: 'it returns false'. Refute it at one input. -/
def fnExactBufClearWrong : ChangeSpec := { name := "fnExactBufClear", fn := fun _ => fun
  | [d1, d2] => { results := [.lit (.bool false)], args := [d1, d2] }
  | _ => none }
def FnExactBufClearWrongFalsely : Prop := fnExactBufClearRow.holds Try.pinned (OpenSpec.ofChange fnExactBufClearWrong)

/-- 'laws.FnExactClearBuf': WHATEVER THE INPUT: true; the input reads as it did. -/
def fnExactClearBufSpec : ChangeSpec := { name := "fnExactClearBuf", fn := fun _ => fun
  | [d1, d2] => { results := [.lit (.bool true)], args := [d1, d2] }
  | _ => none }
def fnExactClearBufRow : OpenClaim := { program := "ytgpbkfblbibafaa", sum := "076ebcc00f9f6612ffb2c5ae37e10191101df0dab8fe568921a572ac4bf759b8", func := "loop.example/g01608/laws.FnExactClearBuf", spec := "fnExactClearBuf", unfollowed := true, recurses := true, apart := false }
def FnExactClearBufSaid : Prop := fnExactClearBufRow.holds Try.pinned (OpenSpec.ofChange fnExactClearBufSpec)

/-- ITS FALSE NEIGHBOUR: 'it returns false'. Refute it at one input. -/
def fnExactClearBufWrong : ChangeSpec := { name := "fnExactClearBuf", fn := fun _ => fun
  | [d1, d2] => { results := [.lit (.bool false)], args := [d1, d2] }
  | _ => none }
def FnExactClearBufWrongFalsely : Prop := fnExactClearBufRow.holds Try.pinned (OpenSpec.ofChange fnExactClearBufWrong)

/-- 'laws.FnExactStoreCell': WHATEVER THE INPUT: true; the input reads as it did. -/
def fnExactStoreCellSpec : ChangeSpec := { name := "fnExactStoreCell", fn := fun _ => fun
  | [d1, d2, d3] => { results := [.lit (.bool true)], args := [d1, d2, d3] }
  | _ => none }
def fnExactStoreCellRow : OpenClaim := { program := "ytgpbkfblbibafaa", sum := "076ebcc00f9f6612ffb2c5ae37e10191101df0dab8fe568921a572ac4bf759b8", func := "loop.example/g01608/laws.FnExactStoreCell", spec := "fnExactStoreCell", unfollowed := true, recurses := true, apart := false }
def FnExactStoreCellSaid : Prop := fnExactStoreCellRow.holds Try.pinned (OpenSpec.ofChange fnExactStoreCellSpec)

/-- ITS FALSE NEIGHBOUR: 'it returns false'. Refute it at one input. -/
def fnExactStoreCellWrong : ChangeSpec := { name := "fnExactStoreCell", fn := fun _ => fun
  | [d1, d2, d3] => { results := [.lit (.bool false)], args := [d1, d2, d3] }
  | _ => none }
def FnExactStoreCellWrongFalsely : Prop := fnExactStoreCellRow.holds Try.pinned (OpenSpec.ofChange fnExactStoreCellWrong)

/-- 'laws.FnExactAddCell': WHATEVER THE INPUT: true; the input reads as it did. -/
def fnExactAddCellSpec : ChangeSpec := { name := "fnExactAddCell", fn := fun _ => fun
  | [d1, d2, d3] => { results := [.lit (.bool true)], args := [d1, d2, d3] }
  | _ => none }
def fnExactAddCellRow : OpenClaim := { program := "ytgpbkfblbibafaa", sum := "076ebcc00f9f6612ffb2c5ae37e10191101df0dab8fe568921a572ac4bf759b8", func := "loop.example/g01608/laws.FnExactAddCell", spec := "fnExactAddCell", unfollowed := true, recurses := true, apart := false }
def FnExactAddCellSaid : Prop := fnExactAddCellRow.holds Try.pinned (OpenSpec.ofChange fnExactAddCellSpec)

/-- ITS FALSE NEIGHBOUR: 'it returns false'. Refute it at one input. -/
def fnExactAddCellWrong : ChangeSpec := { name := "fnExactAddCell", fn := fun _ => fun
  | [d1, d2, d3] => { results := [.lit (.bool false)], args := [d1, d2, d3] }
  | _ => none }
def FnExactAddCellWrongFalsely : Prop := fnExactAddCellRow.holds Try.pinned (OpenSpec.ofChange fnExactAddCellWrong)

/-- 'laws.FnExactSwapCell': WHATEVER THE INPUT: true; the input reads as it did. -/
def fnExactSwapCellSpec : ChangeSpec := { name := "fnExactSwapCell", fn := fun _ => fun
  | [d1, d2, d3] => { results := [.lit (.bool true)], args := [d1, d2, d3] }
  | _ => none }
def fnExactSwapCellRow : OpenClaim := { program := "ytgpbkfblbibafaa", sum := "076ebcc00f9f6612ffb2c5ae37e10191101df0dab8fe568921a572ac4bf759b8", func := "loop.example/g01608/laws.FnExactSwapCell", spec := "fnExactSwapCell", unfollowed := true, recurses := true, apart := false }
def FnExactSwapCellSaid : Prop := fnExactSwapCellRow.holds Try.pinned (OpenSpec.ofChange fnExactSwapCellSpec)

/-- ITS FALSE NEIGHBOUR: 'it returns false'. Refute it at one input. -/
def fnExactSwapCellWrong : ChangeSpec := { name := "fnExactSwapCell", fn := fun _ => fun
  | [d1, d2, d3] => { results := [.lit (.bool false)], args := [d1, d2, d3] }
  | _ => none }
def FnExactSwapCellWrongFalsely : Prop := fnExactSwapCellRow.holds Try.pinned (OpenSpec.ofChange fnExactSwapCellWrong)

/-- 'laws.FnExactCasCell': WHATEVER THE INPUT: true; the input reads as it did. -/
def fnExactCasCellSpec : ChangeSpec := { name := "fnExactCasCell", fn := fun _ => fun
  | [d1, d2, d3, d4] => { results := [.lit (.bool true)], args := [d1, d2, d3, d4] }
  | _ => none }
def fnExactCasCellRow : OpenClaim := { program := "ytgpbkfblbibafaa", sum := "076ebcc00f9f6612ffb2c5ae37e10191101df0dab8fe568921a572ac4bf759b8", func := "loop.example/g01608/laws.FnExactCasCell", spec := "fnExactCasCell", unfollowed := true, recurses := true, apart := false }
def FnExactCasCellSaid : Prop := fnExactCasCellRow.holds Try.pinned (OpenSpec.ofChange fnExactCasCellSpec)

/-- ITS FALSE NEIGHBOUR: 'it returns false'. Refute it at one input. -/
def fnExactCasCellWrong : ChangeSpec := { name := "fnExactCasCell", fn := fun _ => fun
  | [d1, d2, d3, d4] => { results := [.lit (.bool false)], args := [d1, d2, d3, d4] }
  | _ => none }
def FnExactCasCellWrongFalsely : Prop := fnExactCasCellRow.holds Try.pinned (OpenSpec.ofChange fnExactCasCellWrong)

/-- 'laws.FnCells': WHATEVER THE INPUT: true; the input reads as it did. -/
def fnCellsSpec : ChangeSpec := { name := "fnCells", fn := fun _ => fun
  | [d] => { results := [.lit (.bool true)], args := [d] }
  | _ => none }
def fnCellsRow : OpenClaim := { program := "ytgpbkfblbibafaa", sum := "076ebcc00f9f6612ffb2c5ae37e10191101df0dab8fe568921a572ac4bf759b8", func := "loop.example/g01608/laws.FnCells", spec := "fnCells", unfollowed := true, recurses := true, apart := false }
def FnCellsSaid : Prop := fnCellsRow.holds Try.pinned (OpenSpec.ofChange fnCellsSpec)

/-- ITS FALSE NEIGHBOUR: 'it returns false'. Refute it at one input. -/
def fnCellsWrong : ChangeSpec := { name := "fnCells", fn := fun _ => fun
  | [d] => { results := [.lit (.bool false)], args := [d] }
  | _ => none }
def FnCellsWrongFalsely : Prop := fnCellsRow.holds Try.pinned (OpenSpec.ofChange fnCellsWrong)

/-- 'laws.FnExactRegister': WHATEVER THE INPUT: true; the input reads as it did. -/
def fnExactRegisterSpec : ChangeSpec := { name := "fnExactRegister", fn := fun _ => fun
  | [d1, d2, d3] => { results := [.lit (.bool true)], args := [d1, d2, d3] }
  | _ => none }
def fnExactRegisterRow : OpenClaim := { program := "ytgpbkfblbibafaa", sum := "076ebcc00f9f6612ffb2c5ae37e10191101df0dab8fe568921a572ac4bf759b8", func := "loop.example/g01608/laws.FnExactRegister", spec := "fnExactRegister", unfollowed := true, recurses := true, apart := false }
def FnExactRegisterSaid : Prop := fnExactRegisterRow.holds Try.pinned (OpenSpec.ofChange fnExactRegisterSpec)

/-- ITS FALSE NEIGHBOUR: 'it returns false'. Refute it at one input. -/
def fnExactRegisterWrong : ChangeSpec := { name := "fnExactRegister", fn := fun _ => fun
  | [d1, d2, d3] => { results := [.lit (.bool false)], args := [d1, d2, d3] }
  | _ => none }
def FnExactRegisterWrongFalsely : Prop := fnExactRegisterRow.holds Try.pinned (OpenSpec.ofChange fnExactRegisterWrong)

/-- 'laws.FnExactKeysIn': WHATEVER THE INPUT: true; the input reads as it did. -/
def fnExactKeysInSpec : ChangeSpec := { name := "fnExactKeysIn", fn := fun _ => fun
  | [d] => { results := [.lit (.bool true)], args := [d] }
  | _ => none }
def fnExactKeysInRow : OpenClaim := { program := "ytgpbkfblbibafaa", sum := "076ebcc00f9f6612ffb2c5ae37e10191101df0dab8fe568921a572ac4bf759b8", func := "loop.example/g01608/laws.FnExactKeysIn", spec := "fnExactKeysIn", unfollowed := true, recurses := true, apart := false }
def FnExactKeysInSaid : Prop := fnExactKeysInRow.holds Try.pinned (OpenSpec.ofChange fnExactKeysInSpec)

/-- ITS FALSE NEIGHBOUR: 'it returns false'. Refute it at one input. -/
def fnExactKeysInWrong : ChangeSpec := { name := "fnExactKeysIn", fn := fun _ => fun
  | [d] => { results := [.lit (.bool false)], args := [d] }
  | _ => none }
def FnExactKeysInWrongFalsely : Prop := fnExactKeysInRow.holds Try.pinned (OpenSpec.ofChange fnExactKeysInWrong)

/-- 'laws.FnExactFindKey': WHATEVER THE INPUT: true; the input reads as it did. -/
def fnExactFindKeySpec : ChangeSpec := { name := "fnExactFindKey", fn := fun _ => fun
  | [d1, d2] => { results := [.lit (.bool true)], args := [d1, d2] }
  | _ => none }
def fnExactFindKeyRow : OpenClaim := { program := "ytgpbkfblbibafaa", sum := "076ebcc00f9f6612ffb2c5ae37e10191101df0dab8fe568921a572ac4bf759b8", func := "loop.example/g01608/laws.FnExactFindKey", spec := "fnExactFindKey", unfollowed := true, recurses := true, apart := false }
def FnExactFindKeySaid : Prop := fnExactFindKeyRow.holds Try.pinned (OpenSpec.ofChange fnExactFindKeySpec)

/-- ITS FALSE NEIGHBOUR: 'it returns false'. Refute it at one input. -/
def fnExactFindKeyWrong : ChangeSpec := { name := "fnExactFindKey", fn := fun _ => fun
  | [d1, d2] => { results := [.lit (.bool false)], args := [d1, d2] }
  | _ => none }
def FnExactFindKeyWrongFalsely : Prop := fnExactFindKeyRow.holds Try.pinned (OpenSpec.ofChange fnExactFindKeyWrong)

/-- 'laws.FnExactTableOk': WHATEVER THE INPUT: true; the input reads as it did. -/
def fnExactTableOkSpec : ChangeSpec := { name := "fnExactTableOk", fn := fun _ => fun
  | [d] => { results := [.lit (.bool true)], args := [d] }
  | _ => none }
def fnExactTableOkRow : OpenClaim := { program := "ytgpbkfblbibafaa", sum := "076ebcc00f9f6612ffb2c5ae37e10191101df0dab8fe568921a572ac4bf759b8", func := "loop.example/g01608/laws.FnExactTableOk", spec := "fnExactTableOk", unfollowed := true, recurses := true, apart := false }
def FnExactTableOkSaid : Prop := fnExactTableOkRow.holds Try.pinned (OpenSpec.ofChange fnExactTableOkSpec)

/-- ITS FALSE NEIGHBOUR: 'it returns false'. Refute it at one input. -/
def fnExactTableOkWrong : ChangeSpec := { name := "fnExactTableOk", fn := fun _ => fun
  | [d] => { results := [.lit (.bool false)], args := [d] }
  | _ => none }
def FnExactTableOkWrongFalsely : Prop := fnExactTableOkRow.holds Try.pinned (OpenSpec.ofChange fnExactTableOkWrong)

/- THE SECOND FORM. 'bulk': how many values and letters a reading holds, each counted each time it is reached (what is shared counts as often as it is met; a slice's spare places count too). A statement '..UptoSaid' is the law's where the arguments, and the package variables that the reading takes, are together of bulk at most 1048576: NARROWER than '..Said'. Prove '..Said' where nothing that the law and all that it calls make is longer than what came in: it says more and counts as full. Else prove '..UptoSaid'. A law counts once. -/
mutual
def uptoBulk {H : Type} : DataW H → Nat
  | .lit (.string bytes) => bytes.length + 1
  | .lit _ => 1
  | .nil => 1
  | .ptr d => uptoBulk d + 1
  | .slice elems spare => uptoBulkAll elems + uptoBulkAll spare + 1
  | .agg parts => uptoBulkAll parts + 1
  | .iface _ d => uptoBulk d + 1
  | .map entries => uptoBulkEntries entries + 1
  | .held _ => 1
def uptoBulkAll {H : Type} : List (DataW H) → Nat
  | [] => 0
  | d :: r => uptoBulk d + uptoBulkAll r
def uptoBulkEntries {H : Type} : List (Lit × DataW H) → Nat
  | [] => 0
  | x :: r => uptoBulkEntry x + uptoBulkEntries r
def uptoBulkEntry {H : Type} : Lit × DataW H → Nat
  | (.string bytes, d) => bytes.length + uptoBulk d + 1
  | (_, d) => uptoBulk d + 1
 end
def uptoSmall : (H : Type) → List (DataW H) → Bool := fun _ ds => decide (uptoBulkAll ds ≤ 1048576)
def OpenSpec.upto (s : _root_.Go.ChangeSpec) : _root_.Go.OpenSpec := { _root_.Go.OpenSpec.ofChange s with cond := some uptoSmall }

/-- 'laws.FnExactSameCells', WHERE WHAT IT READS IS OF BULK AT MOST 1048576: true; the input reads as it did. -/
def fnExactSameCellsUptoRow : OpenClaim := { program := "ytgpbkfblbibafaa", sum := "076ebcc00f9f6612ffb2c5ae37e10191101df0dab8fe568921a572ac4bf759b8", func := "loop.example/g01608/laws.FnExactSameCells", spec := "fnExactSameCells", apart := false, narrowed := true }
def FnExactSameCellsUptoSaid : Prop := fnExactSameCellsUptoRow.holds Try.pinned (OpenSpec.upto fnExactSameCellsSpec)

/-- 'laws.FnExactCellsOk', WHERE WHAT IT READS IS OF BULK AT MOST 1048576: true; the input reads as it did. -/
def fnExactCellsOkUptoRow : OpenClaim := { program := "ytgpbkfblbibafaa", sum := "076ebcc00f9f6612ffb2c5ae37e10191101df0dab8fe568921a572ac4bf759b8", func := "loop.example/g01608/laws.FnExactCellsOk", spec := "fnExactCellsOk", unfollowed := true, recurses := true, apart := false, narrowed := true }
def FnExactCellsOkUptoSaid : Prop := fnExactCellsOkUptoRow.holds Try.pinned (OpenSpec.upto fnExactCellsOkSpec)

/-- 'laws.FnExactLoadCell', WHERE WHAT IT READS IS OF BULK AT MOST 1048576: true; the input reads as it did. -/
def fnExactLoadCellUptoRow : OpenClaim := { program := "ytgpbkfblbibafaa", sum := "076ebcc00f9f6612ffb2c5ae37e10191101df0dab8fe568921a572ac4bf759b8", func := "loop.example/g01608/laws.FnExactLoadCell", spec := "fnExactLoadCell", unfollowed := true, recurses := true, apart := false, narrowed := true }
def FnExactLoadCellUptoSaid : Prop := fnExactLoadCellUptoRow.holds Try.pinned (OpenSpec.upto fnExactLoadCellSpec)

/-- 'laws.FnExactBufClear', WHERE WHAT IT READS IS OF BULK AT MOST 1048576: true; the input reads as it did. -/
def fnExactBufClearUptoRow : OpenClaim := { program := "ytgpbkfblbibafaa", sum := "076ebcc00f9f6612ffb2c5ae37e10191101df0dab8fe568921a572ac4bf759b8", func := "loop.example/g01608/laws.FnExactBufClear", spec := "fnExactBufClear", unfollowed := true, recurses := true, apart := false, narrowed := true }
def FnExactBufClearUptoSaid : Prop := fnExactBufClearUptoRow.holds Try.pinned (OpenSpec.upto fnExactBufClearSpec)

/-- 'laws.FnExactClearBuf', WHERE WHAT IT READS IS OF BULK AT MOST 1048576: true; the input reads as it did. -/
def fnExactClearBufUptoRow : OpenClaim := { program := "ytgpbkfblbibafaa", sum := "076ebcc00f9f6612ffb2c5ae37e10191101df0dab8fe568921a572ac4bf759b8", func := "loop.example/g01608/laws.FnExactClearBuf", spec := "fnExactClearBuf", unfollowed := true, recurses := true, apart := false, narrowed := true }
def FnExactClearBufUptoSaid : Prop := fnExactClearBufUptoRow.holds Try.pinned (OpenSpec.upto fnExactClearBufSpec)

/-- 'laws.FnExactStoreCell', WHERE WHAT IT READS IS OF BULK AT MOST 1048576: true; the input reads as it did. -/
def fnExactStoreCellUptoRow : OpenClaim := { program := "ytgpbkfblbibafaa", sum := "076ebcc00f9f6612ffb2c5ae37e10191101df0dab8fe568921a572ac4bf759b8", func := "loop.example/g01608/laws.FnExactStoreCell", spec := "fnExactStoreCell", unfollowed := true, recurses := true, apart := false, narrowed := true }
def FnExactStoreCellUptoSaid : Prop := fnExactStoreCellUptoRow.holds Try.pinned (OpenSpec.upto fnExactStoreCellSpec)

/-- 'laws.FnExactAddCell', WHERE WHAT IT READS IS OF BULK AT MOST 1048576: true; the input reads as it did. -/
def fnExactAddCellUptoRow : OpenClaim := { program := "ytgpbkfblbibafaa", sum := "076ebcc00f9f6612ffb2c5ae37e10191101df0dab8fe568921a572ac4bf759b8", func := "loop.example/g01608/laws.FnExactAddCell", spec := "fnExactAddCell", unfollowed := true, recurses := true, apart := false, narrowed := true }
def FnExactAddCellUptoSaid : Prop := fnExactAddCellUptoRow.holds Try.pinned (OpenSpec.upto fnExactAddCellSpec)

/-- 'laws.FnExactSwapCell', WHERE WHAT IT READS IS OF BULK AT MOST 1048576: true; the input reads as it did. -/
def fnExactSwapCellUptoRow : OpenClaim := { program := "ytgpbkfblbibafaa", sum := "076ebcc00f9f6612ffb2c5ae37e10191101df0dab8fe568921a572ac4bf759b8", func := "loop.example/g01608/laws.FnExactSwapCell", spec := "fnExactSwapCell", unfollowed := true, recurses := true, apart := false, narrowed := true }
def FnExactSwapCellUptoSaid : Prop := fnExactSwapCellUptoRow.holds Try.pinned (OpenSpec.upto fnExactSwapCellSpec)

/-- 'laws.FnExactCasCell', WHERE WHAT IT READS IS OF BULK AT MOST 1048576: true; the input reads as it did. -/
def fnExactCasCellUptoRow : OpenClaim := { program := "ytgpbkfblbibafaa", sum := "076ebcc00f9f6612ffb2c5ae37e10191101df0dab8fe568921a572ac4bf759b8", func := "loop.example/g01608/laws.FnExactCasCell", spec := "fnExactCasCell", unfollowed := true, recurses := true, apart := false, narrowed := true }
def FnExactCasCellUptoSaid : Prop := fnExactCasCellUptoRow.holds Try.pinned (OpenSpec.upto fnExactCasCellSpec)

/-- 'laws.FnCells', WHERE WHAT IT READS IS OF BULK AT MOST 1048576: true; the input reads as it did. -/
def fnCellsUptoRow : OpenClaim := { program := "ytgpbkfblbibafaa", sum := "076ebcc00f9f6612ffb2c5ae37e10191101df0dab8fe568921a572ac4bf759b8", func := "loop.example/g01608/laws.FnCells", spec := "fnCells", unfollowed := true, recurses := true, apart := false, narrowed := true }
def FnCellsUptoSaid : Prop := fnCellsUptoRow.holds Try.pinned (OpenSpec.upto fnCellsSpec)

/-- 'laws.FnExactRegister', WHERE WHAT IT READS IS OF BULK AT MOST 1048576: true; the input reads as it did. -/
def fnExactRegisterUptoRow : OpenClaim := { program := "ytgpbkfblbibafaa", sum := "076ebcc00f9f6612ffb2c5ae37e10191101df0dab8fe568921a572ac4bf759b8", func := "loop.example/g01608/laws.FnExactRegister", spec := "fnExactRegister", unfollowed := true, recurses := true, apart := false, narrowed := true }
def FnExactRegisterUptoSaid : Prop := fnExactRegisterUptoRow.holds Try.pinned (OpenSpec.upto fnExactRegisterSpec)

/-- 'laws.FnExactKeysIn', WHERE WHAT IT READS IS OF BULK AT MOST 1048576: true; the input reads as it did. -/
def fnExactKeysInUptoRow : OpenClaim := { program := "ytgpbkfblbibafaa", sum := "076ebcc00f9f6612ffb2c5ae37e10191101df0dab8fe568921a572ac4bf759b8", func := "loop.example/g01608/laws.FnExactKeysIn", spec := "fnExactKeysIn", unfollowed := true, recurses := true, apart := false, narrowed := true }
def FnExactKeysInUptoSaid : Prop := fnExactKeysInUptoRow.holds Try.pinned (OpenSpec.upto fnExactKeysInSpec)

/-- 'laws.FnExactFindKey', WHERE WHAT IT READS IS OF BULK AT MOST 1048576: true; the input reads as it did. -/
def fnExactFindKeyUptoRow : OpenClaim := { program := "ytgpbkfblbibafaa", sum := "076ebcc00f9f6612ffb2c5ae37e10191101df0dab8fe568921a572ac4bf759b8", func := "loop.example/g01608/laws.FnExactFindKey", spec := "fnExactFindKey", unfollowed := true, recurses := true, apart := false, narrowed := true }
def FnExactFindKeyUptoSaid : Prop := fnExactFindKeyUptoRow.holds Try.pinned (OpenSpec.upto fnExactFindKeySpec)

/-- 'laws.FnExactTableOk', WHERE WHAT IT READS IS OF BULK AT MOST 1048576: true; the input reads as it did. -/
def fnExactTableOkUptoRow : OpenClaim := { program := "ytgpbkfblbibafaa", sum := "076ebcc00f9f6612ffb2c5ae37e10191101df0dab8fe568921a572ac4bf759b8", func := "loop.example/g01608/laws.FnExactTableOk", spec := "fnExactTableOk", unfollowed := true, recurses := true, apart := false, narrowed := true }
def FnExactTableOkUptoSaid : Prop := fnExactTableOkUptoRow.holds Try.pinned (OpenSpec.upto fnExactTableOkSpec)

end Rows
end Go.Proofs.Ytgpbkfblbibafaa
