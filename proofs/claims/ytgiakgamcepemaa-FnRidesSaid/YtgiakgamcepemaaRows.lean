/-
  No cell of these rows narrows 'for every input' (looked for: loops, veiled, ifaces, maps, wideKeys, modest, calm, conditions, laid).
  DERIVED. THE GIVEN ROWS OF THIS SEAT. 11 by the template 'for every input the law returns true; each argument reads behind the call as it read before'; 0 by the template 'total and deterministic' (their statements: YtgiakgamcepemaaTotals.lean).
  GIVEN WITH THE SEED: the statements are not yours to turn. If you find one false, say at which input.
  Laid BY PROGRAM, IN A SANDBOX (cutbox-rows.mjs): the forced cells as the released guide's own fill.sh prints them over the translation 73342f1c353dfc2f… (all of the seat's roots in one cut). By AI agents, Wed Nov 11 2026. No macro, syntax, notation, axiom, sorry.
-/
import Derived.Test.YtgiakgamcepemaaChecked
import GoSem.Claim
import GoSem.ClaimJoined
import GoSem.ClaimMapViews
import Derived.JoinedTies
import Derived.KernelRfl
namespace Go.Proofs.Ytgiakgamcepemaa
/- THE CELL 'sum', in the pinned program and in every row, IS THE sha256 OF THE DUMP (.gsa) THAT YtgiakgamcepemaaProg.lean LOADS. Nothing in Lean hashes anything: it is a label: what it is worth is what the hold of that sum in a sandbox is worth. -/
noncomputable def Try.pinned : Pinned := { name := "ytgiakgamcepemaa", sum := "73342f1c353dfc2f00e544a7df3c821c199b02c96c6469291a2b5e12f884063a", checked := Try.checked }
namespace Rows
def none {H : Type} : Left H := { results := [], args := [] }

/-- 'laws.FnDeltas': WHATEVER THE INPUT: true; the input reads as it did. -/
def fnDeltasSpec : ChangeSpec := { name := "fnDeltas", fn := fun _ => fun
  | [d] => { results := [.lit (.bool true)], args := [d] }
  | _ => none }
def fnDeltasRow : OpenClaim := { program := "ytgiakgamcepemaa", sum := "73342f1c353dfc2f00e544a7df3c821c199b02c96c6469291a2b5e12f884063a", func := "loop.example/g03318/laws.FnDeltas", spec := "fnDeltas", unfollowed := true, recurses := true, apart := false }
def FnDeltasSaid : Prop := fnDeltasRow.holds Try.pinned (OpenSpec.ofChange fnDeltasSpec)

/-- ITS FALSE NEIGHBOUR: 'it returns false'. Refute it at one input. -/
def fnDeltasWrong : ChangeSpec := { name := "fnDeltas", fn := fun _ => fun
  | [d] => { results := [.lit (.bool false)], args := [d] }
  | _ => none }
def FnDeltasWrongFalsely : Prop := fnDeltasRow.holds Try.pinned (OpenSpec.ofChange fnDeltasWrong)

/-- 'laws.FnExactTriangleOk': WHATEVER THE INPUT: true; the input reads as it did. -/
def fnExactTriangleOkSpec : ChangeSpec := { name := "fnExactTriangleOk", fn := fun _ => fun
  | [d] => { results := [.lit (.bool true)], args := [d] }
  | _ => none }
def fnExactTriangleOkRow : OpenClaim := { program := "ytgiakgamcepemaa", sum := "73342f1c353dfc2f00e544a7df3c821c199b02c96c6469291a2b5e12f884063a", func := "loop.example/g03318/laws.FnExactTriangleOk", spec := "fnExactTriangleOk", unfollowed := true, recurses := true, apart := false }
def FnExactTriangleOkSaid : Prop := fnExactTriangleOkRow.holds Try.pinned (OpenSpec.ofChange fnExactTriangleOkSpec)

/-- ITS FALSE NEIGHBOUR: 'it returns false'. Refute it at one input. -/
def fnExactTriangleOkWrong : ChangeSpec := { name := "fnExactTriangleOk", fn := fun _ => fun
  | [d] => { results := [.lit (.bool false)], args := [d] }
  | _ => none }
def FnExactTriangleOkWrongFalsely : Prop := fnExactTriangleOkRow.holds Try.pinned (OpenSpec.ofChange fnExactTriangleOkWrong)

/-- 'laws.FnExactOrderOk': WHATEVER THE INPUT: true; the input reads as it did. -/
def fnExactOrderOkSpec : ChangeSpec := { name := "fnExactOrderOk", fn := fun _ => fun
  | [d1, d2] => { results := [.lit (.bool true)], args := [d1, d2] }
  | _ => none }
def fnExactOrderOkRow : OpenClaim := { program := "ytgiakgamcepemaa", sum := "73342f1c353dfc2f00e544a7df3c821c199b02c96c6469291a2b5e12f884063a", func := "loop.example/g03318/laws.FnExactOrderOk", spec := "fnExactOrderOk", unfollowed := true, recurses := true, apart := false }
def FnExactOrderOkSaid : Prop := fnExactOrderOkRow.holds Try.pinned (OpenSpec.ofChange fnExactOrderOkSpec)

/-- ITS FALSE NEIGHBOUR: 'it returns false'. Refute it at one input. -/
def fnExactOrderOkWrong : ChangeSpec := { name := "fnExactOrderOk", fn := fun _ => fun
  | [d1, d2] => { results := [.lit (.bool false)], args := [d1, d2] }
  | _ => none }
def FnExactOrderOkWrongFalsely : Prop := fnExactOrderOkRow.holds Try.pinned (OpenSpec.ofChange fnExactOrderOkWrong)

/-- 'laws.FnExactBillOf': WHATEVER THE INPUT: true; the input reads as it did. -/
def fnExactBillOfSpec : ChangeSpec := { name := "fnExactBillOf", fn := fun _ => fun
  | [d1, d2, d3] => { results := [.lit (.bool true)], args := [d1, d2, d3] }
  | _ => none }
def fnExactBillOfRow : OpenClaim := { program := "ytgiakgamcepemaa", sum := "73342f1c353dfc2f00e544a7df3c821c199b02c96c6469291a2b5e12f884063a", func := "loop.example/g03318/laws.FnExactBillOf", spec := "fnExactBillOf", apart := false }
def FnExactBillOfSaid : Prop := fnExactBillOfRow.holds Try.pinned (OpenSpec.ofChange fnExactBillOfSpec)

/-- ITS FALSE NEIGHBOUR: 'it returns false'. Refute it at one input. -/
def fnExactBillOfWrong : ChangeSpec := { name := "fnExactBillOf", fn := fun _ => fun
  | [d1, d2, d3] => { results := [.lit (.bool false)], args := [d1, d2, d3] }
  | _ => none }
def FnExactBillOfWrongFalsely : Prop := fnExactBillOfRow.holds Try.pinned (OpenSpec.ofChange fnExactBillOfWrong)

/-- 'laws.FnBills': WHATEVER THE INPUT: true; the input reads as it did. -/
def fnBillsSpec : ChangeSpec := { name := "fnBills", fn := fun _ => fun
  | [d] => { results := [.lit (.bool true)], args := [d] }
  | _ => none }
def fnBillsRow : OpenClaim := { program := "ytgiakgamcepemaa", sum := "73342f1c353dfc2f00e544a7df3c821c199b02c96c6469291a2b5e12f884063a", func := "loop.example/g03318/laws.FnBills", spec := "fnBills", apart := false }
def FnBillsSaid : Prop := fnBillsRow.holds Try.pinned (OpenSpec.ofChange fnBillsSpec)

/-- ITS FALSE NEIGHBOUR: 'it returns false'. Refute it at one input. -/
def fnBillsWrong : ChangeSpec := { name := "fnBills", fn := fun _ => fun
  | [d] => { results := [.lit (.bool false)], args := [d] }
  | _ => none }
def FnBillsWrongFalsely : Prop := fnBillsRow.holds Try.pinned (OpenSpec.ofChange fnBillsWrong)

/-- 'laws.FnTriangles': WHATEVER THE INPUT: true; the input reads as it did. -/
def fnTrianglesSpec : ChangeSpec := { name := "fnTriangles", fn := fun _ => fun
  | [d] => { results := [.lit (.bool true)], args := [d] }
  | _ => none }
def fnTrianglesRow : OpenClaim := { program := "ytgiakgamcepemaa", sum := "73342f1c353dfc2f00e544a7df3c821c199b02c96c6469291a2b5e12f884063a", func := "loop.example/g03318/laws.FnTriangles", spec := "fnTriangles", unfollowed := true, recurses := true, apart := false }
def FnTrianglesSaid : Prop := fnTrianglesRow.holds Try.pinned (OpenSpec.ofChange fnTrianglesSpec)

/-- ITS FALSE NEIGHBOUR: 'it returns false'. Refute it at one input. -/
def fnTrianglesWrong : ChangeSpec := { name := "fnTriangles", fn := fun _ => fun
  | [d] => { results := [.lit (.bool false)], args := [d] }
  | _ => none }
def FnTrianglesWrongFalsely : Prop := fnTrianglesRow.holds Try.pinned (OpenSpec.ofChange fnTrianglesWrong)

/-- 'laws.FnExactPeakOf': WHATEVER THE INPUT: true; the input reads as it did. -/
def fnExactPeakOfSpec : ChangeSpec := { name := "fnExactPeakOf", fn := fun _ => fun
  | [d1, d2] => { results := [.lit (.bool true)], args := [d1, d2] }
  | _ => none }
def fnExactPeakOfRow : OpenClaim := { program := "ytgiakgamcepemaa", sum := "73342f1c353dfc2f00e544a7df3c821c199b02c96c6469291a2b5e12f884063a", func := "loop.example/g03318/laws.FnExactPeakOf", spec := "fnExactPeakOf", unfollowed := true, recurses := true, apart := false }
def FnExactPeakOfSaid : Prop := fnExactPeakOfRow.holds Try.pinned (OpenSpec.ofChange fnExactPeakOfSpec)

/-- ITS FALSE NEIGHBOUR: 'it returns false'. Refute it at one input. -/
def fnExactPeakOfWrong : ChangeSpec := { name := "fnExactPeakOf", fn := fun _ => fun
  | [d1, d2] => { results := [.lit (.bool false)], args := [d1, d2] }
  | _ => none }
def FnExactPeakOfWrongFalsely : Prop := fnExactPeakOfRow.holds Try.pinned (OpenSpec.ofChange fnExactPeakOfWrong)

/-- 'laws.FnExactWaitOf': WHATEVER THE INPUT: true; the input reads as it did. -/
def fnExactWaitOfSpec : ChangeSpec := { name := "fnExactWaitOf", fn := fun _ => fun
  | [d1, d2] => { results := [.lit (.bool true)], args := [d1, d2] }
  | _ => none }
def fnExactWaitOfRow : OpenClaim := { program := "ytgiakgamcepemaa", sum := "73342f1c353dfc2f00e544a7df3c821c199b02c96c6469291a2b5e12f884063a", func := "loop.example/g03318/laws.FnExactWaitOf", spec := "fnExactWaitOf", unfollowed := true, recurses := true, apart := false }
def FnExactWaitOfSaid : Prop := fnExactWaitOfRow.holds Try.pinned (OpenSpec.ofChange fnExactWaitOfSpec)

/-- ITS FALSE NEIGHBOUR: 'it returns false'. Refute it at one input. -/
def fnExactWaitOfWrong : ChangeSpec := { name := "fnExactWaitOf", fn := fun _ => fun
  | [d1, d2] => { results := [.lit (.bool false)], args := [d1, d2] }
  | _ => none }
def FnExactWaitOfWrongFalsely : Prop := fnExactWaitOfRow.holds Try.pinned (OpenSpec.ofChange fnExactWaitOfWrong)

/-- 'laws.FnExactAddEvent': WHATEVER THE INPUT: true; the input reads as it did. -/
def fnExactAddEventSpec : ChangeSpec := { name := "fnExactAddEvent", fn := fun _ => fun
  | [d1, d2, d3, d4, d5, d6] => { results := [.lit (.bool true)], args := [d1, d2, d3, d4, d5, d6] }
  | _ => none }
def fnExactAddEventRow : OpenClaim := { program := "ytgiakgamcepemaa", sum := "73342f1c353dfc2f00e544a7df3c821c199b02c96c6469291a2b5e12f884063a", func := "loop.example/g03318/laws.FnExactAddEvent", spec := "fnExactAddEvent", inPlace := ["slices.overlaps[loop.example/g03318/impl.Event]"], apart := false }
def FnExactAddEventSaid : Prop := fnExactAddEventRow.holds Try.pinned (OpenSpec.ofChange fnExactAddEventSpec)

/-- ITS FALSE NEIGHBOUR: 'it returns false'. Refute it at one input. -/
def fnExactAddEventWrong : ChangeSpec := { name := "fnExactAddEvent", fn := fun _ => fun
  | [d1, d2, d3, d4, d5, d6] => { results := [.lit (.bool false)], args := [d1, d2, d3, d4, d5, d6] }
  | _ => none }
def FnExactAddEventWrongFalsely : Prop := fnExactAddEventRow.holds Try.pinned (OpenSpec.ofChange fnExactAddEventWrong)

/-- 'laws.FnRides': WHATEVER THE INPUT: true; the input reads as it did. -/
def fnRidesSpec : ChangeSpec := { name := "fnRides", fn := fun _ => fun
  | [d] => { results := [.lit (.bool true)], args := [d] }
  | _ => none }
def fnRidesRow : OpenClaim := { program := "ytgiakgamcepemaa", sum := "73342f1c353dfc2f00e544a7df3c821c199b02c96c6469291a2b5e12f884063a", func := "loop.example/g03318/laws.FnRides", spec := "fnRides", unfollowed := true, recurses := true, apart := false }
def FnRidesSaid : Prop := fnRidesRow.holds Try.pinned (OpenSpec.ofChange fnRidesSpec)

/-- ITS FALSE NEIGHBOUR: 'it returns false'. Refute it at one input. -/
def fnRidesWrong : ChangeSpec := { name := "fnRides", fn := fun _ => fun
  | [d] => { results := [.lit (.bool false)], args := [d] }
  | _ => none }
def FnRidesWrongFalsely : Prop := fnRidesRow.holds Try.pinned (OpenSpec.ofChange fnRidesWrong)

/-- 'laws.FnExactLatestBegin': WHATEVER THE INPUT: true; the input reads as it did. -/
def fnExactLatestBeginSpec : ChangeSpec := { name := "fnExactLatestBegin", fn := fun _ => fun
  | [d1, d2] => { results := [.lit (.bool true)], args := [d1, d2] }
  | _ => none }
def fnExactLatestBeginRow : OpenClaim := { program := "ytgiakgamcepemaa", sum := "73342f1c353dfc2f00e544a7df3c821c199b02c96c6469291a2b5e12f884063a", func := "loop.example/g03318/laws.FnExactLatestBegin", spec := "fnExactLatestBegin", unfollowed := true, recurses := true, apart := false }
def FnExactLatestBeginSaid : Prop := fnExactLatestBeginRow.holds Try.pinned (OpenSpec.ofChange fnExactLatestBeginSpec)

/-- ITS FALSE NEIGHBOUR: 'it returns false'. Refute it at one input. -/
def fnExactLatestBeginWrong : ChangeSpec := { name := "fnExactLatestBegin", fn := fun _ => fun
  | [d1, d2] => { results := [.lit (.bool false)], args := [d1, d2] }
  | _ => none }
def FnExactLatestBeginWrongFalsely : Prop := fnExactLatestBeginRow.holds Try.pinned (OpenSpec.ofChange fnExactLatestBeginWrong)

/- THE SECOND FORM. 'bulk': how many values and letters a reading holds, each counted each time it is reached (what is shared counts as often as it is met; a slice's spare places count too). A statement '..UptoSaid' is the law's where the arguments, and the package variables that the reading takes, are together of bulk at most 1048576: NARROWER than '..Said'. Prove '..Said' where nothing that the law and all that it calls make is longer than what came in: it says more and counts as full. Else prove '..UptoSaid'. A law counts once. -/
mutual
def uptoBulk {H : Type} : DataW H → Nat
  | .lit (.string bytes) => bytes.length + 1
  | .lit _ => 1
  | .nil => 1
  | .ptr d => uptoBulk d + 1
  | .slice elems spare => uptoBulkAll elems + uptoBulkAll spare + 1
  | .agg parts => uptoBulkAll parts + 1
  | .iface _ d => uptoBulk d + 1
  | .map entries => uptoBulkEntries entries + 1
  | .held _ => 1
def uptoBulkAll {H : Type} : List (DataW H) → Nat
  | [] => 0
  | d :: r => uptoBulk d + uptoBulkAll r
def uptoBulkEntries {H : Type} : List (Lit × DataW H) → Nat
  | [] => 0
  | x :: r => uptoBulkEntry x + uptoBulkEntries r
def uptoBulkEntry {H : Type} : Lit × DataW H → Nat
  | (.string bytes, d) => bytes.length + uptoBulk d + 1
  | (_, d) => uptoBulk d + 1
 end
def uptoSmall : (H : Type) → List (DataW H) → Bool := fun _ ds => decide (uptoBulkAll ds ≤ 1048576)
def OpenSpec.upto (s : _root_.Go.ChangeSpec) : _root_.Go.OpenSpec := { _root_.Go.OpenSpec.ofChange s with cond := some uptoSmall }

/-- 'laws.FnDeltas', WHERE WHAT IT READS IS OF BULK AT MOST 1048576: true; the input reads as it did. -/
def fnDeltasUptoRow : OpenClaim := { program := "ytgiakgamcepemaa", sum := "73342f1c353dfc2f00e544a7df3c821c199b02c96c6469291a2b5e12f884063a", func := "loop.example/g03318/laws.FnDeltas", spec := "fnDeltas", unfollowed := true, recurses := true, apart := false, narrowed := true }
def FnDeltasUptoSaid : Prop := fnDeltasUptoRow.holds Try.pinned (OpenSpec.upto fnDeltasSpec)

/-- 'laws.FnExactTriangleOk', WHERE WHAT IT READS IS OF BULK AT MOST 1048576: true; the input reads as it did. -/
def fnExactTriangleOkUptoRow : OpenClaim := { program := "ytgiakgamcepemaa", sum := "73342f1c353dfc2f00e544a7df3c821c199b02c96c6469291a2b5e12f884063a", func := "loop.example/g03318/laws.FnExactTriangleOk", spec := "fnExactTriangleOk", unfollowed := true, recurses := true, apart := false, narrowed := true }
def FnExactTriangleOkUptoSaid : Prop := fnExactTriangleOkUptoRow.holds Try.pinned (OpenSpec.upto fnExactTriangleOkSpec)

/-- 'laws.FnExactOrderOk', WHERE WHAT IT READS IS OF BULK AT MOST 1048576: true; the input reads as it did. -/
def fnExactOrderOkUptoRow : OpenClaim := { program := "ytgiakgamcepemaa", sum := "73342f1c353dfc2f00e544a7df3c821c199b02c96c6469291a2b5e12f884063a", func := "loop.example/g03318/laws.FnExactOrderOk", spec := "fnExactOrderOk", unfollowed := true, recurses := true, apart := false, narrowed := true }
def FnExactOrderOkUptoSaid : Prop := fnExactOrderOkUptoRow.holds Try.pinned (OpenSpec.upto fnExactOrderOkSpec)

/-- 'laws.FnExactBillOf', WHERE WHAT IT READS IS OF BULK AT MOST 1048576: true; the input reads as it did. -/
def fnExactBillOfUptoRow : OpenClaim := { program := "ytgiakgamcepemaa", sum := "73342f1c353dfc2f00e544a7df3c821c199b02c96c6469291a2b5e12f884063a", func := "loop.example/g03318/laws.FnExactBillOf", spec := "fnExactBillOf", apart := false, narrowed := true }
def FnExactBillOfUptoSaid : Prop := fnExactBillOfUptoRow.holds Try.pinned (OpenSpec.upto fnExactBillOfSpec)

/-- 'laws.FnBills', WHERE WHAT IT READS IS OF BULK AT MOST 1048576: true; the input reads as it did. -/
def fnBillsUptoRow : OpenClaim := { program := "ytgiakgamcepemaa", sum := "73342f1c353dfc2f00e544a7df3c821c199b02c96c6469291a2b5e12f884063a", func := "loop.example/g03318/laws.FnBills", spec := "fnBills", apart := false, narrowed := true }
def FnBillsUptoSaid : Prop := fnBillsUptoRow.holds Try.pinned (OpenSpec.upto fnBillsSpec)

/-- 'laws.FnTriangles', WHERE WHAT IT READS IS OF BULK AT MOST 1048576: true; the input reads as it did. -/
def fnTrianglesUptoRow : OpenClaim := { program := "ytgiakgamcepemaa", sum := "73342f1c353dfc2f00e544a7df3c821c199b02c96c6469291a2b5e12f884063a", func := "loop.example/g03318/laws.FnTriangles", spec := "fnTriangles", unfollowed := true, recurses := true, apart := false, narrowed := true }
def FnTrianglesUptoSaid : Prop := fnTrianglesUptoRow.holds Try.pinned (OpenSpec.upto fnTrianglesSpec)

/-- 'laws.FnExactPeakOf', WHERE WHAT IT READS IS OF BULK AT MOST 1048576: true; the input reads as it did. -/
def fnExactPeakOfUptoRow : OpenClaim := { program := "ytgiakgamcepemaa", sum := "73342f1c353dfc2f00e544a7df3c821c199b02c96c6469291a2b5e12f884063a", func := "loop.example/g03318/laws.FnExactPeakOf", spec := "fnExactPeakOf", unfollowed := true, recurses := true, apart := false, narrowed := true }
def FnExactPeakOfUptoSaid : Prop := fnExactPeakOfUptoRow.holds Try.pinned (OpenSpec.upto fnExactPeakOfSpec)

/-- 'laws.FnExactWaitOf', WHERE WHAT IT READS IS OF BULK AT MOST 1048576: true; the input reads as it did. -/
def fnExactWaitOfUptoRow : OpenClaim := { program := "ytgiakgamcepemaa", sum := "73342f1c353dfc2f00e544a7df3c821c199b02c96c6469291a2b5e12f884063a", func := "loop.example/g03318/laws.FnExactWaitOf", spec := "fnExactWaitOf", unfollowed := true, recurses := true, apart := false, narrowed := true }
def FnExactWaitOfUptoSaid : Prop := fnExactWaitOfUptoRow.holds Try.pinned (OpenSpec.upto fnExactWaitOfSpec)

/-- 'laws.FnExactAddEvent', WHERE WHAT IT READS IS OF BULK AT MOST 1048576: true; the input reads as it did. -/
def fnExactAddEventUptoRow : OpenClaim := { program := "ytgiakgamcepemaa", sum := "73342f1c353dfc2f00e544a7df3c821c199b02c96c6469291a2b5e12f884063a", func := "loop.example/g03318/laws.FnExactAddEvent", spec := "fnExactAddEvent", inPlace := ["slices.overlaps[loop.example/g03318/impl.Event]"], apart := false, narrowed := true }
def FnExactAddEventUptoSaid : Prop := fnExactAddEventUptoRow.holds Try.pinned (OpenSpec.upto fnExactAddEventSpec)

/-- 'laws.FnRides', WHERE WHAT IT READS IS OF BULK AT MOST 1048576: true; the input reads as it did. -/
def fnRidesUptoRow : OpenClaim := { program := "ytgiakgamcepemaa", sum := "73342f1c353dfc2f00e544a7df3c821c199b02c96c6469291a2b5e12f884063a", func := "loop.example/g03318/laws.FnRides", spec := "fnRides", unfollowed := true, recurses := true, apart := false, narrowed := true }
def FnRidesUptoSaid : Prop := fnRidesUptoRow.holds Try.pinned (OpenSpec.upto fnRidesSpec)

/-- 'laws.FnExactLatestBegin', WHERE WHAT IT READS IS OF BULK AT MOST 1048576: true; the input reads as it did. -/
def fnExactLatestBeginUptoRow : OpenClaim := { program := "ytgiakgamcepemaa", sum := "73342f1c353dfc2f00e544a7df3c821c199b02c96c6469291a2b5e12f884063a", func := "loop.example/g03318/laws.FnExactLatestBegin", spec := "fnExactLatestBegin", unfollowed := true, recurses := true, apart := false, narrowed := true }
def FnExactLatestBeginUptoSaid : Prop := fnExactLatestBeginUptoRow.holds Try.pinned (OpenSpec.upto fnExactLatestBeginSpec)

end Rows
end Go.Proofs.Ytgiakgamcepemaa
