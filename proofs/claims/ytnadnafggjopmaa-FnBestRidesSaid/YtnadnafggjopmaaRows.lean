/-
  No cell of these rows narrows 'for every input' (looked for: loops, veiled, ifaces, maps, wideKeys, modest, calm, conditions, laid).
  DERIVED. THE GIVEN ROWS OF THIS SEAT. 12 by the template 'for every input the law returns true; each argument reads behind the call as it read before'; 0 by the template 'total and deterministic' (their statements: YtnadnafggjopmaaTotals.lean).
  GIVEN WITH THE SEED: the statements are not yours to turn. If you find one false, say at which input.
  Laid BY PROGRAM, IN A SANDBOX (cutbox-rows.mjs): the forced cells as the released guide's own fill.sh prints them over the translation 317b7c904a061b36… (all of the seat's roots in one cut). By AI agents, Wed Nov 11 2026. No macro, syntax, notation, axiom, sorry.
-/
import Derived.Test.YtnadnafggjopmaaChecked
import GoSem.Claim
import GoSem.ClaimJoined
import GoSem.ClaimMapViews
import Derived.JoinedTies
import Derived.KernelRfl
namespace Go.Proofs.Ytnadnafggjopmaa
/- THE CELL 'sum', in the pinned program and in every row, IS THE sha256 OF THE DUMP (.gsa) THAT YtnadnafggjopmaaProg.lean LOADS. Nothing in Lean hashes anything: it is a label: what it is worth is what the hold of that sum in a sandbox is worth. -/
noncomputable def Try.pinned : Pinned := { name := "ytnadnafggjopmaa", sum := "317b7c904a061b3642f8ebaa0b545de41c5007791165adb16fc054b85ba6d5bb", checked := Try.checked }
namespace Rows
def none {H : Type} : Left H := { results := [], args := [] }

/-- 'laws.FnExactOrderOf': WHATEVER THE INPUT: true; the input reads as it did. -/
def fnExactOrderOfSpec : ChangeSpec := { name := "fnExactOrderOf", fn := fun _ => fun
  | [d] => { results := [.lit (.bool true)], args := [d] }
  | _ => none }
def fnExactOrderOfRow : OpenClaim := { program := "ytnadnafggjopmaa", sum := "317b7c904a061b3642f8ebaa0b545de41c5007791165adb16fc054b85ba6d5bb", func := "loop.example/g03318/laws.FnExactOrderOf", spec := "fnExactOrderOf", unfollowed := true, recurses := true, apart := false }
def FnExactOrderOfSaid : Prop := fnExactOrderOfRow.holds Try.pinned (OpenSpec.ofChange fnExactOrderOfSpec)

/-- ITS FALSE NEIGHBOUR: 'it returns false'. Refute it at one input. -/
def fnExactOrderOfWrong : ChangeSpec := { name := "fnExactOrderOf", fn := fun _ => fun
  | [d] => { results := [.lit (.bool false)], args := [d] }
  | _ => none }
def FnExactOrderOfWrongFalsely : Prop := fnExactOrderOfRow.holds Try.pinned (OpenSpec.ofChange fnExactOrderOfWrong)

/-- 'laws.FnExactCheapestTerms': WHATEVER THE INPUT: true; the input reads as it did. -/
def fnExactCheapestTermsSpec : ChangeSpec := { name := "fnExactCheapestTerms", fn := fun _ => fun
  | [d1, d2, d3] => { results := [.lit (.bool true)], args := [d1, d2, d3] }
  | _ => none }
def fnExactCheapestTermsRow : OpenClaim := { program := "ytnadnafggjopmaa", sum := "317b7c904a061b3642f8ebaa0b545de41c5007791165adb16fc054b85ba6d5bb", func := "loop.example/g03318/laws.FnExactCheapestTerms", spec := "fnExactCheapestTerms", apart := false }
def FnExactCheapestTermsSaid : Prop := fnExactCheapestTermsRow.holds Try.pinned (OpenSpec.ofChange fnExactCheapestTermsSpec)

/-- ITS FALSE NEIGHBOUR: 'it returns false'. Refute it at one input. -/
def fnExactCheapestTermsWrong : ChangeSpec := { name := "fnExactCheapestTerms", fn := fun _ => fun
  | [d1, d2, d3] => { results := [.lit (.bool false)], args := [d1, d2, d3] }
  | _ => none }
def FnExactCheapestTermsWrongFalsely : Prop := fnExactCheapestTermsRow.holds Try.pinned (OpenSpec.ofChange fnExactCheapestTermsWrong)

/-- 'laws.FnExactRide': WHATEVER THE INPUT: true; the input reads as it did. -/
def fnExactRideSpec : ChangeSpec := { name := "fnExactRide", fn := fun _ => fun
  | [d1, d2] => { results := [.lit (.bool true)], args := [d1, d2] }
  | _ => none }
def fnExactRideRow : OpenClaim := { program := "ytnadnafggjopmaa", sum := "317b7c904a061b3642f8ebaa0b545de41c5007791165adb16fc054b85ba6d5bb", func := "loop.example/g03318/laws.FnExactRide", spec := "fnExactRide", unfollowed := true, recurses := true, apart := false }
def FnExactRideSaid : Prop := fnExactRideRow.holds Try.pinned (OpenSpec.ofChange fnExactRideSpec)

/-- ITS FALSE NEIGHBOUR: 'it returns false'. Refute it at one input. -/
def fnExactRideWrong : ChangeSpec := { name := "fnExactRide", fn := fun _ => fun
  | [d1, d2] => { results := [.lit (.bool false)], args := [d1, d2] }
  | _ => none }
def FnExactRideWrongFalsely : Prop := fnExactRideRow.holds Try.pinned (OpenSpec.ofChange fnExactRideWrong)

/-- 'laws.FnExactFateOf': WHATEVER THE INPUT: true; the input reads as it did. -/
def fnExactFateOfSpec : ChangeSpec := { name := "fnExactFateOf", fn := fun _ => fun
  | [d1, d2] => { results := [.lit (.bool true)], args := [d1, d2] }
  | _ => none }
def fnExactFateOfRow : OpenClaim := { program := "ytnadnafggjopmaa", sum := "317b7c904a061b3642f8ebaa0b545de41c5007791165adb16fc054b85ba6d5bb", func := "loop.example/g03318/laws.FnExactFateOf", spec := "fnExactFateOf", unfollowed := true, recurses := true, apart := false }
def FnExactFateOfSaid : Prop := fnExactFateOfRow.holds Try.pinned (OpenSpec.ofChange fnExactFateOfSpec)

/-- ITS FALSE NEIGHBOUR: 'it returns false'. Refute it at one input. -/
def fnExactFateOfWrong : ChangeSpec := { name := "fnExactFateOf", fn := fun _ => fun
  | [d1, d2] => { results := [.lit (.bool false)], args := [d1, d2] }
  | _ => none }
def FnExactFateOfWrongFalsely : Prop := fnExactFateOfRow.holds Try.pinned (OpenSpec.ofChange fnExactFateOfWrong)

/-- 'laws.FnBestRides': WHATEVER THE INPUT: true; the input reads as it did. -/
def fnBestRidesSpec : ChangeSpec := { name := "fnBestRides", fn := fun _ => fun
  | [d] => { results := [.lit (.bool true)], args := [d] }
  | _ => none }
def fnBestRidesRow : OpenClaim := { program := "ytnadnafggjopmaa", sum := "317b7c904a061b3642f8ebaa0b545de41c5007791165adb16fc054b85ba6d5bb", func := "loop.example/g03318/laws.FnBestRides", spec := "fnBestRides", unfollowed := true, recurses := true, apart := false }
def FnBestRidesSaid : Prop := fnBestRidesRow.holds Try.pinned (OpenSpec.ofChange fnBestRidesSpec)

/-- ITS FALSE NEIGHBOUR: 'it returns false'. Refute it at one input. -/
def fnBestRidesWrong : ChangeSpec := { name := "fnBestRides", fn := fun _ => fun
  | [d] => { results := [.lit (.bool false)], args := [d] }
  | _ => none }
def FnBestRidesWrongFalsely : Prop := fnBestRidesRow.holds Try.pinned (OpenSpec.ofChange fnBestRidesWrong)

/-- 'laws.FnExactBestRide': WHATEVER THE INPUT: true; the input reads as it did. -/
def fnExactBestRideSpec : ChangeSpec := { name := "fnExactBestRide", fn := fun _ => fun
  | [d] => { results := [.lit (.bool true)], args := [d] }
  | _ => none }
def fnExactBestRideRow : OpenClaim := { program := "ytnadnafggjopmaa", sum := "317b7c904a061b3642f8ebaa0b545de41c5007791165adb16fc054b85ba6d5bb", func := "loop.example/g03318/laws.FnExactBestRide", spec := "fnExactBestRide", unfollowed := true, recurses := true, apart := false }
def FnExactBestRideSaid : Prop := fnExactBestRideRow.holds Try.pinned (OpenSpec.ofChange fnExactBestRideSpec)

/-- ITS FALSE NEIGHBOUR: 'it returns false'. Refute it at one input. -/
def fnExactBestRideWrong : ChangeSpec := { name := "fnExactBestRide", fn := fun _ => fun
  | [d] => { results := [.lit (.bool false)], args := [d] }
  | _ => none }
def FnExactBestRideWrongFalsely : Prop := fnExactBestRideRow.holds Try.pinned (OpenSpec.ofChange fnExactBestRideWrong)

/-- 'laws.FnExactMostRide': WHATEVER THE INPUT: true; the input reads as it did. -/
def fnExactMostRideSpec : ChangeSpec := { name := "fnExactMostRide", fn := fun _ => fun
  | [d] => { results := [.lit (.bool true)], args := [d] }
  | _ => none }
def fnExactMostRideRow : OpenClaim := { program := "ytnadnafggjopmaa", sum := "317b7c904a061b3642f8ebaa0b545de41c5007791165adb16fc054b85ba6d5bb", func := "loop.example/g03318/laws.FnExactMostRide", spec := "fnExactMostRide", unfollowed := true, recurses := true, apart := false }
def FnExactMostRideSaid : Prop := fnExactMostRideRow.holds Try.pinned (OpenSpec.ofChange fnExactMostRideSpec)

/-- ITS FALSE NEIGHBOUR: 'it returns false'. Refute it at one input. -/
def fnExactMostRideWrong : ChangeSpec := { name := "fnExactMostRide", fn := fun _ => fun
  | [d] => { results := [.lit (.bool false)], args := [d] }
  | _ => none }
def FnExactMostRideWrongFalsely : Prop := fnExactMostRideRow.holds Try.pinned (OpenSpec.ofChange fnExactMostRideWrong)

/-- 'laws.FnExactParcelsIn': WHATEVER THE INPUT: true; the input reads as it did. -/
def fnExactParcelsInSpec : ChangeSpec := { name := "fnExactParcelsIn", fn := fun _ => fun
  | [d] => { results := [.lit (.bool true)], args := [d] }
  | _ => none }
def fnExactParcelsInRow : OpenClaim := { program := "ytnadnafggjopmaa", sum := "317b7c904a061b3642f8ebaa0b545de41c5007791165adb16fc054b85ba6d5bb", func := "loop.example/g03318/laws.FnExactParcelsIn", spec := "fnExactParcelsIn", recurses := true, apart := false }
def FnExactParcelsInSaid : Prop := fnExactParcelsInRow.holds Try.pinned (OpenSpec.ofChange fnExactParcelsInSpec)

/-- ITS FALSE NEIGHBOUR: 'it returns false'. Refute it at one input. -/
def fnExactParcelsInWrong : ChangeSpec := { name := "fnExactParcelsIn", fn := fun _ => fun
  | [d] => { results := [.lit (.bool false)], args := [d] }
  | _ => none }
def FnExactParcelsInWrongFalsely : Prop := fnExactParcelsInRow.holds Try.pinned (OpenSpec.ofChange fnExactParcelsInWrong)

/-- 'laws.FnMerges': WHATEVER THE INPUT: true; the input reads as it did. -/
def fnMergesSpec : ChangeSpec := { name := "fnMerges", fn := fun _ => fun
  | [d] => { results := [.lit (.bool true)], args := [d] }
  | _ => none }
def fnMergesRow : OpenClaim := { program := "ytnadnafggjopmaa", sum := "317b7c904a061b3642f8ebaa0b545de41c5007791165adb16fc054b85ba6d5bb", func := "loop.example/g03318/laws.FnMerges", spec := "fnMerges", unfollowed := true, recurses := true, apart := false }
def FnMergesSaid : Prop := fnMergesRow.holds Try.pinned (OpenSpec.ofChange fnMergesSpec)

/-- ITS FALSE NEIGHBOUR: 'it returns false'. Refute it at one input. -/
def fnMergesWrong : ChangeSpec := { name := "fnMerges", fn := fun _ => fun
  | [d] => { results := [.lit (.bool false)], args := [d] }
  | _ => none }
def FnMergesWrongFalsely : Prop := fnMergesRow.holds Try.pinned (OpenSpec.ofChange fnMergesWrong)

/-- 'laws.FnExactMergeJournals': WHATEVER THE INPUT: true; the input reads as it did. -/
def fnExactMergeJournalsSpec : ChangeSpec := { name := "fnExactMergeJournals", fn := fun _ => fun
  | [d1, d2] => { results := [.lit (.bool true)], args := [d1, d2] }
  | _ => none }
def fnExactMergeJournalsRow : OpenClaim := { program := "ytnadnafggjopmaa", sum := "317b7c904a061b3642f8ebaa0b545de41c5007791165adb16fc054b85ba6d5bb", func := "loop.example/g03318/laws.FnExactMergeJournals", spec := "fnExactMergeJournals", unfollowed := true, recurses := true, apart := false }
def FnExactMergeJournalsSaid : Prop := fnExactMergeJournalsRow.holds Try.pinned (OpenSpec.ofChange fnExactMergeJournalsSpec)

/-- ITS FALSE NEIGHBOUR: 'it returns false'. Refute it at one input. -/
def fnExactMergeJournalsWrong : ChangeSpec := { name := "fnExactMergeJournals", fn := fun _ => fun
  | [d1, d2] => { results := [.lit (.bool false)], args := [d1, d2] }
  | _ => none }
def FnExactMergeJournalsWrongFalsely : Prop := fnExactMergeJournalsRow.holds Try.pinned (OpenSpec.ofChange fnExactMergeJournalsWrong)

/-- 'laws.FnContradictions': WHATEVER THE INPUT: true; the input reads as it did. -/
def fnContradictionsSpec : ChangeSpec := { name := "fnContradictions", fn := fun _ => fun
  | [d] => { results := [.lit (.bool true)], args := [d] }
  | _ => none }
def fnContradictionsRow : OpenClaim := { program := "ytnadnafggjopmaa", sum := "317b7c904a061b3642f8ebaa0b545de41c5007791165adb16fc054b85ba6d5bb", func := "loop.example/g03318/laws.FnContradictions", spec := "fnContradictions", unfollowed := true, recurses := true, apart := false }
def FnContradictionsSaid : Prop := fnContradictionsRow.holds Try.pinned (OpenSpec.ofChange fnContradictionsSpec)

/-- ITS FALSE NEIGHBOUR: 'it returns false'. Refute it at one input. -/
def fnContradictionsWrong : ChangeSpec := { name := "fnContradictions", fn := fun _ => fun
  | [d] => { results := [.lit (.bool false)], args := [d] }
  | _ => none }
def FnContradictionsWrongFalsely : Prop := fnContradictionsRow.holds Try.pinned (OpenSpec.ofChange fnContradictionsWrong)

/-- 'laws.FnExactSecretOf': WHATEVER THE INPUT: true; the input reads as it did. -/
def fnExactSecretOfSpec : ChangeSpec := { name := "fnExactSecretOf", fn := fun _ => fun
  | [d1, d2] => { results := [.lit (.bool true)], args := [d1, d2] }
  | _ => none }
def fnExactSecretOfRow : OpenClaim := { program := "ytnadnafggjopmaa", sum := "317b7c904a061b3642f8ebaa0b545de41c5007791165adb16fc054b85ba6d5bb", func := "loop.example/g03318/laws.FnExactSecretOf", spec := "fnExactSecretOf", apart := false }
def FnExactSecretOfSaid : Prop := fnExactSecretOfRow.holds Try.pinned (OpenSpec.ofChange fnExactSecretOfSpec)

/-- ITS FALSE NEIGHBOUR: 'it returns false'. Refute it at one input. -/
def fnExactSecretOfWrong : ChangeSpec := { name := "fnExactSecretOf", fn := fun _ => fun
  | [d1, d2] => { results := [.lit (.bool false)], args := [d1, d2] }
  | _ => none }
def FnExactSecretOfWrongFalsely : Prop := fnExactSecretOfRow.holds Try.pinned (OpenSpec.ofChange fnExactSecretOfWrong)

/- THE SECOND FORM. 'bulk': how many values and letters a reading holds, each counted each time it is reached (what is shared counts as often as it is met; a slice's spare places count too). A statement '..UptoSaid' is the law's where the arguments, and the package variables that the reading takes, are together of bulk at most 1048576: NARROWER than '..Said'. Prove '..Said' where nothing that the law and all that it calls make is longer than what came in: it says more and counts as full. Else prove '..UptoSaid'. A law counts once. -/
mutual
def uptoBulk {H : Type} : DataW H → Nat
  | .lit (.string bytes) => bytes.length + 1
  | .lit _ => 1
  | .nil => 1
  | .ptr d => uptoBulk d + 1
  | .slice elems spare => uptoBulkAll elems + uptoBulkAll spare + 1
  | .agg parts => uptoBulkAll parts + 1
  | .iface _ d => uptoBulk d + 1
  | .map entries => uptoBulkEntries entries + 1
  | .held _ => 1
def uptoBulkAll {H : Type} : List (DataW H) → Nat
  | [] => 0
  | d :: r => uptoBulk d + uptoBulkAll r
def uptoBulkEntries {H : Type} : List (Lit × DataW H) → Nat
  | [] => 0
  | x :: r => uptoBulkEntry x + uptoBulkEntries r
def uptoBulkEntry {H : Type} : Lit × DataW H → Nat
  | (.string bytes, d) => bytes.length + uptoBulk d + 1
  | (_, d) => uptoBulk d + 1
 end
def uptoSmall : (H : Type) → List (DataW H) → Bool := fun _ ds => decide (uptoBulkAll ds ≤ 1048576)
def OpenSpec.upto (s : _root_.Go.ChangeSpec) : _root_.Go.OpenSpec := { _root_.Go.OpenSpec.ofChange s with cond := some uptoSmall }

/-- 'laws.FnExactOrderOf', WHERE WHAT IT READS IS OF BULK AT MOST 1048576: true; the input reads as it did. -/
def fnExactOrderOfUptoRow : OpenClaim := { program := "ytnadnafggjopmaa", sum := "317b7c904a061b3642f8ebaa0b545de41c5007791165adb16fc054b85ba6d5bb", func := "loop.example/g03318/laws.FnExactOrderOf", spec := "fnExactOrderOf", unfollowed := true, recurses := true, apart := false, narrowed := true }
def FnExactOrderOfUptoSaid : Prop := fnExactOrderOfUptoRow.holds Try.pinned (OpenSpec.upto fnExactOrderOfSpec)

/-- 'laws.FnExactCheapestTerms', WHERE WHAT IT READS IS OF BULK AT MOST 1048576: true; the input reads as it did. -/
def fnExactCheapestTermsUptoRow : OpenClaim := { program := "ytnadnafggjopmaa", sum := "317b7c904a061b3642f8ebaa0b545de41c5007791165adb16fc054b85ba6d5bb", func := "loop.example/g03318/laws.FnExactCheapestTerms", spec := "fnExactCheapestTerms", apart := false, narrowed := true }
def FnExactCheapestTermsUptoSaid : Prop := fnExactCheapestTermsUptoRow.holds Try.pinned (OpenSpec.upto fnExactCheapestTermsSpec)

/-- 'laws.FnExactRide', WHERE WHAT IT READS IS OF BULK AT MOST 1048576: true; the input reads as it did. -/
def fnExactRideUptoRow : OpenClaim := { program := "ytnadnafggjopmaa", sum := "317b7c904a061b3642f8ebaa0b545de41c5007791165adb16fc054b85ba6d5bb", func := "loop.example/g03318/laws.FnExactRide", spec := "fnExactRide", unfollowed := true, recurses := true, apart := false, narrowed := true }
def FnExactRideUptoSaid : Prop := fnExactRideUptoRow.holds Try.pinned (OpenSpec.upto fnExactRideSpec)

/-- 'laws.FnExactFateOf', WHERE WHAT IT READS IS OF BULK AT MOST 1048576: true; the input reads as it did. -/
def fnExactFateOfUptoRow : OpenClaim := { program := "ytnadnafggjopmaa", sum := "317b7c904a061b3642f8ebaa0b545de41c5007791165adb16fc054b85ba6d5bb", func := "loop.example/g03318/laws.FnExactFateOf", spec := "fnExactFateOf", unfollowed := true, recurses := true, apart := false, narrowed := true }
def FnExactFateOfUptoSaid : Prop := fnExactFateOfUptoRow.holds Try.pinned (OpenSpec.upto fnExactFateOfSpec)

/-- 'laws.FnBestRides', WHERE WHAT IT READS IS OF BULK AT MOST 1048576: true; the input reads as it did. -/
def fnBestRidesUptoRow : OpenClaim := { program := "ytnadnafggjopmaa", sum := "317b7c904a061b3642f8ebaa0b545de41c5007791165adb16fc054b85ba6d5bb", func := "loop.example/g03318/laws.FnBestRides", spec := "fnBestRides", unfollowed := true, recurses := true, apart := false, narrowed := true }
def FnBestRidesUptoSaid : Prop := fnBestRidesUptoRow.holds Try.pinned (OpenSpec.upto fnBestRidesSpec)

/-- 'laws.FnExactBestRide', WHERE WHAT IT READS IS OF BULK AT MOST 1048576: true; the input reads as it did. -/
def fnExactBestRideUptoRow : OpenClaim := { program := "ytnadnafggjopmaa", sum := "317b7c904a061b3642f8ebaa0b545de41c5007791165adb16fc054b85ba6d5bb", func := "loop.example/g03318/laws.FnExactBestRide", spec := "fnExactBestRide", unfollowed := true, recurses := true, apart := false, narrowed := true }
def FnExactBestRideUptoSaid : Prop := fnExactBestRideUptoRow.holds Try.pinned (OpenSpec.upto fnExactBestRideSpec)

/-- 'laws.FnExactMostRide', WHERE WHAT IT READS IS OF BULK AT MOST 1048576: true; the input reads as it did. -/
def fnExactMostRideUptoRow : OpenClaim := { program := "ytnadnafggjopmaa", sum := "317b7c904a061b3642f8ebaa0b545de41c5007791165adb16fc054b85ba6d5bb", func := "loop.example/g03318/laws.FnExactMostRide", spec := "fnExactMostRide", unfollowed := true, recurses := true, apart := false, narrowed := true }
def FnExactMostRideUptoSaid : Prop := fnExactMostRideUptoRow.holds Try.pinned (OpenSpec.upto fnExactMostRideSpec)

/-- 'laws.FnExactParcelsIn', WHERE WHAT IT READS IS OF BULK AT MOST 1048576: true; the input reads as it did. -/
def fnExactParcelsInUptoRow : OpenClaim := { program := "ytnadnafggjopmaa", sum := "317b7c904a061b3642f8ebaa0b545de41c5007791165adb16fc054b85ba6d5bb", func := "loop.example/g03318/laws.FnExactParcelsIn", spec := "fnExactParcelsIn", recurses := true, apart := false, narrowed := true }
def FnExactParcelsInUptoSaid : Prop := fnExactParcelsInUptoRow.holds Try.pinned (OpenSpec.upto fnExactParcelsInSpec)

/-- 'laws.FnMerges', WHERE WHAT IT READS IS OF BULK AT MOST 1048576: true; the input reads as it did. -/
def fnMergesUptoRow : OpenClaim := { program := "ytnadnafggjopmaa", sum := "317b7c904a061b3642f8ebaa0b545de41c5007791165adb16fc054b85ba6d5bb", func := "loop.example/g03318/laws.FnMerges", spec := "fnMerges", unfollowed := true, recurses := true, apart := false, narrowed := true }
def FnMergesUptoSaid : Prop := fnMergesUptoRow.holds Try.pinned (OpenSpec.upto fnMergesSpec)

/-- 'laws.FnExactMergeJournals', WHERE WHAT IT READS IS OF BULK AT MOST 1048576: true; the input reads as it did. -/
def fnExactMergeJournalsUptoRow : OpenClaim := { program := "ytnadnafggjopmaa", sum := "317b7c904a061b3642f8ebaa0b545de41c5007791165adb16fc054b85ba6d5bb", func := "loop.example/g03318/laws.FnExactMergeJournals", spec := "fnExactMergeJournals", unfollowed := true, recurses := true, apart := false, narrowed := true }
def FnExactMergeJournalsUptoSaid : Prop := fnExactMergeJournalsUptoRow.holds Try.pinned (OpenSpec.upto fnExactMergeJournalsSpec)

/-- 'laws.FnContradictions', WHERE WHAT IT READS IS OF BULK AT MOST 1048576: true; the input reads as it did. -/
def fnContradictionsUptoRow : OpenClaim := { program := "ytnadnafggjopmaa", sum := "317b7c904a061b3642f8ebaa0b545de41c5007791165adb16fc054b85ba6d5bb", func := "loop.example/g03318/laws.FnContradictions", spec := "fnContradictions", unfollowed := true, recurses := true, apart := false, narrowed := true }
def FnContradictionsUptoSaid : Prop := fnContradictionsUptoRow.holds Try.pinned (OpenSpec.upto fnContradictionsSpec)

/-- 'laws.FnExactSecretOf', WHERE WHAT IT READS IS OF BULK AT MOST 1048576: true; the input reads as it did. -/
def fnExactSecretOfUptoRow : OpenClaim := { program := "ytnadnafggjopmaa", sum := "317b7c904a061b3642f8ebaa0b545de41c5007791165adb16fc054b85ba6d5bb", func := "loop.example/g03318/laws.FnExactSecretOf", spec := "fnExactSecretOf", apart := false, narrowed := true }
def FnExactSecretOfUptoSaid : Prop := fnExactSecretOfUptoRow.holds Try.pinned (OpenSpec.upto fnExactSecretOfSpec)

end Rows
end Go.Proofs.Ytnadnafggjopmaa
