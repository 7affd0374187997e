/-
  No cell of these rows narrows 'for every input' (looked for: loops, veiled, ifaces, maps, wideKeys, modest, calm, conditions, laid).
  DERIVED. THE GIVEN ROWS OF THIS SEAT. 8 by the template 'for every input the law returns true; each argument reads behind the call as it read before'; 0 by the template 'total and deterministic' (their statements: YthdhgmppijjhpaaGreatTotals.lean).
  GIVEN WITH THE SEED: the statements are not yours to turn. If you find one false, say at which input.
  Laid BY PROGRAM, IN A SANDBOX (cutbox-rows.mjs): the forced cells as the released guide's own fill.sh prints them over the translation 2747f8ef70b4cd41… (all of the seat's roots in one cut). By AI agents, Wed Nov 11 2026. No macro, syntax, notation, axiom, sorry.
-/
import Derived.Test.YthdhgmppijjhpaaGreatChecked
import GoSem.Claim
import GoSem.ClaimJoined
import GoSem.ClaimMapViews
import Derived.JoinedTies
import Derived.KernelRfl
namespace Go.Proofs.YthdhgmppijjhpaaGreat
/- THE CELL 'sum', in the pinned program and in every row, IS THE sha256 OF THE DUMP (.gsa) THAT YthdhgmppijjhpaaGreatProg.lean LOADS. Nothing in Lean hashes anything: it is a label: what it is worth is what the hold of that sum in a sandbox is worth. -/
noncomputable def Tryz.pinned : Pinned := { name := "ythdhgmppijjhpaagreat", sum := "2747f8ef70b4cd412b1df1bd5bb7ef3ad9f99794d5eb251b317f4a0c979f0fea", checked := Tryz.checked }
namespace Rows
def none {H : Type} : Left H := { results := [], args := [] }

/-- 'laws.FnExactNetworkOk': WHATEVER THE INPUT: true; the input reads as it did. -/
def fnExactNetworkOkSpec : ChangeSpec := { name := "fnExactNetworkOk", fn := fun _ => fun
  | [d] => { results := [.lit (.bool true)], args := [d] }
  | _ => none }
def fnExactNetworkOkRow : OpenClaim := { program := "ythdhgmppijjhpaagreat", sum := "2747f8ef70b4cd412b1df1bd5bb7ef3ad9f99794d5eb251b317f4a0c979f0fea", func := "loop.example/g03318/laws.FnExactNetworkOk", spec := "fnExactNetworkOk", unfollowed := true, recurses := true, apart := false }
def FnExactNetworkOkSaid : Prop := fnExactNetworkOkRow.holds Tryz.pinned (OpenSpec.ofChange fnExactNetworkOkSpec)

/-- ITS FALSE NEIGHBOUR: 'it returns false'. Refute it at one input. -/
def fnExactNetworkOkWrong : ChangeSpec := { name := "fnExactNetworkOk", fn := fun _ => fun
  | [d] => { results := [.lit (.bool false)], args := [d] }
  | _ => none }
def FnExactNetworkOkWrongFalsely : Prop := fnExactNetworkOkRow.holds Tryz.pinned (OpenSpec.ofChange fnExactNetworkOkWrong)

/-- 'laws.FnExactFeesOf': WHATEVER THE INPUT: true; the input reads as it did. -/
def fnExactFeesOfSpec : ChangeSpec := { name := "fnExactFeesOf", fn := fun _ => fun
  | [d] => { results := [.lit (.bool true)], args := [d] }
  | _ => none }
def fnExactFeesOfRow : OpenClaim := { program := "ythdhgmppijjhpaagreat", sum := "2747f8ef70b4cd412b1df1bd5bb7ef3ad9f99794d5eb251b317f4a0c979f0fea", func := "loop.example/g03318/laws.FnExactFeesOf", spec := "fnExactFeesOf", unfollowed := true, recurses := true, apart := false }
def FnExactFeesOfSaid : Prop := fnExactFeesOfRow.holds Tryz.pinned (OpenSpec.ofChange fnExactFeesOfSpec)

/-- ITS FALSE NEIGHBOUR: 'it returns false'. Refute it at one input. -/
def fnExactFeesOfWrong : ChangeSpec := { name := "fnExactFeesOf", fn := fun _ => fun
  | [d] => { results := [.lit (.bool false)], args := [d] }
  | _ => none }
def FnExactFeesOfWrongFalsely : Prop := fnExactFeesOfRow.holds Tryz.pinned (OpenSpec.ofChange fnExactFeesOfWrong)

/-- 'laws.FnExactSeenFate': WHATEVER THE INPUT: true; the input reads as it did. -/
def fnExactSeenFateSpec : ChangeSpec := { name := "fnExactSeenFate", fn := fun _ => fun
  | [d1, d2] => { results := [.lit (.bool true)], args := [d1, d2] }
  | _ => none }
def fnExactSeenFateRow : OpenClaim := { program := "ythdhgmppijjhpaagreat", sum := "2747f8ef70b4cd412b1df1bd5bb7ef3ad9f99794d5eb251b317f4a0c979f0fea", func := "loop.example/g03318/laws.FnExactSeenFate", spec := "fnExactSeenFate", unfollowed := true, recurses := true, apart := false }
def FnExactSeenFateSaid : Prop := fnExactSeenFateRow.holds Tryz.pinned (OpenSpec.ofChange fnExactSeenFateSpec)

/-- ITS FALSE NEIGHBOUR: 'it returns false'. Refute it at one input. -/
def fnExactSeenFateWrong : ChangeSpec := { name := "fnExactSeenFate", fn := fun _ => fun
  | [d1, d2] => { results := [.lit (.bool false)], args := [d1, d2] }
  | _ => none }
def FnExactSeenFateWrongFalsely : Prop := fnExactSeenFateRow.holds Tryz.pinned (OpenSpec.ofChange fnExactSeenFateWrong)

/-- 'laws.FnExactNewNetwork': WHATEVER THE INPUT: true; the input reads as it did. -/
def fnExactNewNetworkSpec : ChangeSpec := { name := "fnExactNewNetwork", fn := fun _ => fun
  | [d1, d2, d3, d4, d5] => { results := [.lit (.bool true)], args := [d1, d2, d3, d4, d5] }
  | _ => none }
def fnExactNewNetworkRow : OpenClaim := { program := "ythdhgmppijjhpaagreat", sum := "2747f8ef70b4cd412b1df1bd5bb7ef3ad9f99794d5eb251b317f4a0c979f0fea", func := "loop.example/g03318/laws.FnExactNewNetwork", spec := "fnExactNewNetwork", unfollowed := true, recurses := true, apart := false }
def FnExactNewNetworkSaid : Prop := fnExactNewNetworkRow.holds Tryz.pinned (OpenSpec.ofChange fnExactNewNetworkSpec)

/-- ITS FALSE NEIGHBOUR: 'it returns false'. Refute it at one input. -/
def fnExactNewNetworkWrong : ChangeSpec := { name := "fnExactNewNetwork", fn := fun _ => fun
  | [d1, d2, d3, d4, d5] => { results := [.lit (.bool false)], args := [d1, d2, d3, d4, d5] }
  | _ => none }
def FnExactNewNetworkWrongFalsely : Prop := fnExactNewNetworkRow.holds Tryz.pinned (OpenSpec.ofChange fnExactNewNetworkWrong)

/-- 'laws.FnExactRoundFor': WHATEVER THE INPUT: true; the input reads as it did. -/
def fnExactRoundForSpec : ChangeSpec := { name := "fnExactRoundFor", fn := fun _ => fun
  | [d1, d2, d3] => { results := [.lit (.bool true)], args := [d1, d2, d3] }
  | _ => none }
def fnExactRoundForRow : OpenClaim := { program := "ythdhgmppijjhpaagreat", sum := "2747f8ef70b4cd412b1df1bd5bb7ef3ad9f99794d5eb251b317f4a0c979f0fea", func := "loop.example/g03318/laws.FnExactRoundFor", spec := "fnExactRoundFor", unfollowed := true, recurses := true, apart := false }
def FnExactRoundForSaid : Prop := fnExactRoundForRow.holds Tryz.pinned (OpenSpec.ofChange fnExactRoundForSpec)

/-- ITS FALSE NEIGHBOUR: 'it returns false'. Refute it at one input. -/
def fnExactRoundForWrong : ChangeSpec := { name := "fnExactRoundFor", fn := fun _ => fun
  | [d1, d2, d3] => { results := [.lit (.bool false)], args := [d1, d2, d3] }
  | _ => none }
def FnExactRoundForWrongFalsely : Prop := fnExactRoundForRow.holds Tryz.pinned (OpenSpec.ofChange fnExactRoundForWrong)

/-- 'laws.FnExactAllJournals': WHATEVER THE INPUT: true; the input reads as it did. -/
def fnExactAllJournalsSpec : ChangeSpec := { name := "fnExactAllJournals", fn := fun _ => fun
  | [d] => { results := [.lit (.bool true)], args := [d] }
  | _ => none }
def fnExactAllJournalsRow : OpenClaim := { program := "ythdhgmppijjhpaagreat", sum := "2747f8ef70b4cd412b1df1bd5bb7ef3ad9f99794d5eb251b317f4a0c979f0fea", func := "loop.example/g03318/laws.FnExactAllJournals", spec := "fnExactAllJournals", unfollowed := true, recurses := true, apart := false }
def FnExactAllJournalsSaid : Prop := fnExactAllJournalsRow.holds Tryz.pinned (OpenSpec.ofChange fnExactAllJournalsSpec)

/-- ITS FALSE NEIGHBOUR: 'it returns false'. Refute it at one input. -/
def fnExactAllJournalsWrong : ChangeSpec := { name := "fnExactAllJournals", fn := fun _ => fun
  | [d] => { results := [.lit (.bool false)], args := [d] }
  | _ => none }
def FnExactAllJournalsWrongFalsely : Prop := fnExactAllJournalsRow.holds Tryz.pinned (OpenSpec.ofChange fnExactAllJournalsWrong)

/-- 'laws.FnExactTourOf': WHATEVER THE INPUT: true; the input reads as it did. -/
def fnExactTourOfSpec : ChangeSpec := { name := "fnExactTourOf", fn := fun _ => fun
  | [d1, d2, d3] => { results := [.lit (.bool true)], args := [d1, d2, d3] }
  | _ => none }
def fnExactTourOfRow : OpenClaim := { program := "ythdhgmppijjhpaagreat", sum := "2747f8ef70b4cd412b1df1bd5bb7ef3ad9f99794d5eb251b317f4a0c979f0fea", func := "loop.example/g03318/laws.FnExactTourOf", spec := "fnExactTourOf", unfollowed := true, recurses := true, apart := false }
def FnExactTourOfSaid : Prop := fnExactTourOfRow.holds Tryz.pinned (OpenSpec.ofChange fnExactTourOfSpec)

/-- ITS FALSE NEIGHBOUR: 'it returns false'. Refute it at one input. -/
def fnExactTourOfWrong : ChangeSpec := { name := "fnExactTourOf", fn := fun _ => fun
  | [d1, d2, d3] => { results := [.lit (.bool false)], args := [d1, d2, d3] }
  | _ => none }
def FnExactTourOfWrongFalsely : Prop := fnExactTourOfRow.holds Tryz.pinned (OpenSpec.ofChange fnExactTourOfWrong)

/-- 'laws.FnNewNetworks': WHATEVER THE INPUT: true; the input reads as it did. -/
def fnNewNetworksSpec : ChangeSpec := { name := "fnNewNetworks", fn := fun _ => fun
  | [d] => { results := [.lit (.bool true)], args := [d] }
  | _ => none }
def fnNewNetworksRow : OpenClaim := { program := "ythdhgmppijjhpaagreat", sum := "2747f8ef70b4cd412b1df1bd5bb7ef3ad9f99794d5eb251b317f4a0c979f0fea", func := "loop.example/g03318/laws.FnNewNetworks", spec := "fnNewNetworks", unfollowed := true, recurses := true, apart := false }
def FnNewNetworksSaid : Prop := fnNewNetworksRow.holds Tryz.pinned (OpenSpec.ofChange fnNewNetworksSpec)

/-- ITS FALSE NEIGHBOUR: 'it returns false'. Refute it at one input. -/
def fnNewNetworksWrong : ChangeSpec := { name := "fnNewNetworks", fn := fun _ => fun
  | [d] => { results := [.lit (.bool false)], args := [d] }
  | _ => none }
def FnNewNetworksWrongFalsely : Prop := fnNewNetworksRow.holds Tryz.pinned (OpenSpec.ofChange fnNewNetworksWrong)

/- THE SECOND FORM. 'bulk': how many values and letters a reading holds, each counted each time it is reached (what is shared counts as often as it is met; a slice's spare places count too). A statement '..UptoSaid' is the law's where the arguments, and the package variables that the reading takes, are together of bulk at most 1048576: NARROWER than '..Said'. Prove '..Said' where nothing that the law and all that it calls make is longer than what came in: it says more and counts as full. Else prove '..UptoSaid'. A law counts once. -/
mutual
def uptoBulk {H : Type} : DataW H → Nat
  | .lit (.string bytes) => bytes.length + 1
  | .lit _ => 1
  | .nil => 1
  | .ptr d => uptoBulk d + 1
  | .slice elems spare => uptoBulkAll elems + uptoBulkAll spare + 1
  | .agg parts => uptoBulkAll parts + 1
  | .iface _ d => uptoBulk d + 1
  | .map entries => uptoBulkEntries entries + 1
  | .held _ => 1
def uptoBulkAll {H : Type} : List (DataW H) → Nat
  | [] => 0
  | d :: r => uptoBulk d + uptoBulkAll r
def uptoBulkEntries {H : Type} : List (Lit × DataW H) → Nat
  | [] => 0
  | x :: r => uptoBulkEntry x + uptoBulkEntries r
def uptoBulkEntry {H : Type} : Lit × DataW H → Nat
  | (.string bytes, d) => bytes.length + uptoBulk d + 1
  | (_, d) => uptoBulk d + 1
 end
def uptoSmall : (H : Type) → List (DataW H) → Bool := fun _ ds => decide (uptoBulkAll ds ≤ 1048576)
def OpenSpec.upto (s : _root_.Go.ChangeSpec) : _root_.Go.OpenSpec := { _root_.Go.OpenSpec.ofChange s with cond := some uptoSmall }

/-- 'laws.FnExactNetworkOk', WHERE WHAT IT READS IS OF BULK AT MOST 1048576: true; the input reads as it did. -/
def fnExactNetworkOkUptoRow : OpenClaim := { program := "ythdhgmppijjhpaagreat", sum := "2747f8ef70b4cd412b1df1bd5bb7ef3ad9f99794d5eb251b317f4a0c979f0fea", func := "loop.example/g03318/laws.FnExactNetworkOk", spec := "fnExactNetworkOk", unfollowed := true, recurses := true, apart := false, narrowed := true }
def FnExactNetworkOkUptoSaid : Prop := fnExactNetworkOkUptoRow.holds Tryz.pinned (OpenSpec.upto fnExactNetworkOkSpec)

/-- 'laws.FnExactFeesOf', WHERE WHAT IT READS IS OF BULK AT MOST 1048576: true; the input reads as it did. -/
def fnExactFeesOfUptoRow : OpenClaim := { program := "ythdhgmppijjhpaagreat", sum := "2747f8ef70b4cd412b1df1bd5bb7ef3ad9f99794d5eb251b317f4a0c979f0fea", func := "loop.example/g03318/laws.FnExactFeesOf", spec := "fnExactFeesOf", unfollowed := true, recurses := true, apart := false, narrowed := true }
def FnExactFeesOfUptoSaid : Prop := fnExactFeesOfUptoRow.holds Tryz.pinned (OpenSpec.upto fnExactFeesOfSpec)

/-- 'laws.FnExactSeenFate', WHERE WHAT IT READS IS OF BULK AT MOST 1048576: true; the input reads as it did. -/
def fnExactSeenFateUptoRow : OpenClaim := { program := "ythdhgmppijjhpaagreat", sum := "2747f8ef70b4cd412b1df1bd5bb7ef3ad9f99794d5eb251b317f4a0c979f0fea", func := "loop.example/g03318/laws.FnExactSeenFate", spec := "fnExactSeenFate", unfollowed := true, recurses := true, apart := false, narrowed := true }
def FnExactSeenFateUptoSaid : Prop := fnExactSeenFateUptoRow.holds Tryz.pinned (OpenSpec.upto fnExactSeenFateSpec)

/-- 'laws.FnExactNewNetwork', WHERE WHAT IT READS IS OF BULK AT MOST 1048576: true; the input reads as it did. -/
def fnExactNewNetworkUptoRow : OpenClaim := { program := "ythdhgmppijjhpaagreat", sum := "2747f8ef70b4cd412b1df1bd5bb7ef3ad9f99794d5eb251b317f4a0c979f0fea", func := "loop.example/g03318/laws.FnExactNewNetwork", spec := "fnExactNewNetwork", unfollowed := true, recurses := true, apart := false, narrowed := true }
def FnExactNewNetworkUptoSaid : Prop := fnExactNewNetworkUptoRow.holds Tryz.pinned (OpenSpec.upto fnExactNewNetworkSpec)

/-- 'laws.FnExactRoundFor', WHERE WHAT IT READS IS OF BULK AT MOST 1048576: true; the input reads as it did. -/
def fnExactRoundForUptoRow : OpenClaim := { program := "ythdhgmppijjhpaagreat", sum := "2747f8ef70b4cd412b1df1bd5bb7ef3ad9f99794d5eb251b317f4a0c979f0fea", func := "loop.example/g03318/laws.FnExactRoundFor", spec := "fnExactRoundFor", unfollowed := true, recurses := true, apart := false, narrowed := true }
def FnExactRoundForUptoSaid : Prop := fnExactRoundForUptoRow.holds Tryz.pinned (OpenSpec.upto fnExactRoundForSpec)

/-- 'laws.FnExactAllJournals', WHERE WHAT IT READS IS OF BULK AT MOST 1048576: true; the input reads as it did. -/
def fnExactAllJournalsUptoRow : OpenClaim := { program := "ythdhgmppijjhpaagreat", sum := "2747f8ef70b4cd412b1df1bd5bb7ef3ad9f99794d5eb251b317f4a0c979f0fea", func := "loop.example/g03318/laws.FnExactAllJournals", spec := "fnExactAllJournals", unfollowed := true, recurses := true, apart := false, narrowed := true }
def FnExactAllJournalsUptoSaid : Prop := fnExactAllJournalsUptoRow.holds Tryz.pinned (OpenSpec.upto fnExactAllJournalsSpec)

/-- 'laws.FnExactTourOf', WHERE WHAT IT READS IS OF BULK AT MOST 1048576: true; the input reads as it did. -/
def fnExactTourOfUptoRow : OpenClaim := { program := "ythdhgmppijjhpaagreat", sum := "2747f8ef70b4cd412b1df1bd5bb7ef3ad9f99794d5eb251b317f4a0c979f0fea", func := "loop.example/g03318/laws.FnExactTourOf", spec := "fnExactTourOf", unfollowed := true, recurses := true, apart := false, narrowed := true }
def FnExactTourOfUptoSaid : Prop := fnExactTourOfUptoRow.holds Tryz.pinned (OpenSpec.upto fnExactTourOfSpec)

/-- 'laws.FnNewNetworks', WHERE WHAT IT READS IS OF BULK AT MOST 1048576: true; the input reads as it did. -/
def fnNewNetworksUptoRow : OpenClaim := { program := "ythdhgmppijjhpaagreat", sum := "2747f8ef70b4cd412b1df1bd5bb7ef3ad9f99794d5eb251b317f4a0c979f0fea", func := "loop.example/g03318/laws.FnNewNetworks", spec := "fnNewNetworks", unfollowed := true, recurses := true, apart := false, narrowed := true }
def FnNewNetworksUptoSaid : Prop := fnNewNetworksUptoRow.holds Tryz.pinned (OpenSpec.upto fnNewNetworksSpec)

end Rows
end Go.Proofs.YthdhgmppijjhpaaGreat
