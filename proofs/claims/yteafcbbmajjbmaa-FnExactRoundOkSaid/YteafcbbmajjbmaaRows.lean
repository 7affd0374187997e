/-
  No cell of these rows narrows 'for every input' (looked for: loops, veiled, ifaces, maps, wideKeys, modest, calm, conditions, laid).
  DERIVED. THE GIVEN ROWS OF THIS SEAT. 6 by the template 'for every input the law returns true; each argument reads behind the call as it read before'; 0 by the template 'total and deterministic' (their statements: YteafcbbmajjbmaaTotals.lean).
  GIVEN WITH THE SEED: the statements are not yours to turn. If you find one false, say at which input.
  Laid BY PROGRAM, IN A SANDBOX (cutbox-rows.mjs): the forced cells as the released guide's own fill.sh prints them over the translation fc55a948f83f4a72… (all of the seat's roots in one cut). By AI agents, Wed Nov 11 2026. No macro, syntax, notation, axiom, sorry.
-/
import Derived.Test.YteafcbbmajjbmaaChecked
import GoSem.Claim
import GoSem.ClaimJoined
import GoSem.ClaimMapViews
import Derived.JoinedTies
import Derived.KernelRfl
namespace Go.Proofs.Yteafcbbmajjbmaa
/- THE CELL 'sum', in the pinned program and in every row, IS THE sha256 OF THE DUMP (.gsa) THAT YteafcbbmajjbmaaProg.lean LOADS. Nothing in Lean hashes anything: it is a label: what it is worth is what the hold of that sum in a sandbox is worth. -/
noncomputable def Try.pinned : Pinned := { name := "yteafcbbmajjbmaa", sum := "fc55a948f83f4a725e085a98dd0a3b8537d89ba61753751c933a4d6ebe4df69c", checked := Try.checked }
namespace Rows
def none {H : Type} : Left H := { results := [], args := [] }

/-- 'laws.FnExactNtName': WHATEVER THE INPUT: true; the input reads as it did. -/
def fnExactNtNameSpec : ChangeSpec := { name := "fnExactNtName", fn := fun _ => fun
  | [d] => { results := [.lit (.bool true)], args := [d] }
  | _ => none }
def fnExactNtNameRow : OpenClaim := { program := "yteafcbbmajjbmaa", sum := "fc55a948f83f4a725e085a98dd0a3b8537d89ba61753751c933a4d6ebe4df69c", func := "loop.example/g03318/laws.FnExactNtName", spec := "fnExactNtName", apart := false }
def FnExactNtNameSaid : Prop := fnExactNtNameRow.holds Try.pinned (OpenSpec.ofChange fnExactNtNameSpec)

/-- ITS FALSE NEIGHBOUR: 'it returns false'. Refute it at one input. -/
def fnExactNtNameWrong : ChangeSpec := { name := "fnExactNtName", fn := fun _ => fun
  | [d] => { results := [.lit (.bool false)], args := [d] }
  | _ => none }
def FnExactNtNameWrongFalsely : Prop := fnExactNtNameRow.holds Try.pinned (OpenSpec.ofChange fnExactNtNameWrong)

/-- 'laws.FnExactEventOk': WHATEVER THE INPUT: true; the input reads as it did. -/
def fnExactEventOkSpec : ChangeSpec := { name := "fnExactEventOk", fn := fun _ => fun
  | [d] => { results := [.lit (.bool true)], args := [d] }
  | _ => none }
def fnExactEventOkRow : OpenClaim := { program := "yteafcbbmajjbmaa", sum := "fc55a948f83f4a725e085a98dd0a3b8537d89ba61753751c933a4d6ebe4df69c", func := "loop.example/g03318/laws.FnExactEventOk", spec := "fnExactEventOk", apart := false }
def FnExactEventOkSaid : Prop := fnExactEventOkRow.holds Try.pinned (OpenSpec.ofChange fnExactEventOkSpec)

/-- ITS FALSE NEIGHBOUR: 'it returns false'. Refute it at one input. -/
def fnExactEventOkWrong : ChangeSpec := { name := "fnExactEventOk", fn := fun _ => fun
  | [d] => { results := [.lit (.bool false)], args := [d] }
  | _ => none }
def FnExactEventOkWrongFalsely : Prop := fnExactEventOkRow.holds Try.pinned (OpenSpec.ofChange fnExactEventOkWrong)

/-- 'laws.FnExactJournalOk': WHATEVER THE INPUT: true; the input reads as it did. -/
def fnExactJournalOkSpec : ChangeSpec := { name := "fnExactJournalOk", fn := fun _ => fun
  | [d] => { results := [.lit (.bool true)], args := [d] }
  | _ => none }
def fnExactJournalOkRow : OpenClaim := { program := "yteafcbbmajjbmaa", sum := "fc55a948f83f4a725e085a98dd0a3b8537d89ba61753751c933a4d6ebe4df69c", func := "loop.example/g03318/laws.FnExactJournalOk", spec := "fnExactJournalOk", apart := false }
def FnExactJournalOkSaid : Prop := fnExactJournalOkRow.holds Try.pinned (OpenSpec.ofChange fnExactJournalOkSpec)

/-- ITS FALSE NEIGHBOUR: 'it returns false'. Refute it at one input. -/
def fnExactJournalOkWrong : ChangeSpec := { name := "fnExactJournalOk", fn := fun _ => fun
  | [d] => { results := [.lit (.bool false)], args := [d] }
  | _ => none }
def FnExactJournalOkWrongFalsely : Prop := fnExactJournalOkRow.holds Try.pinned (OpenSpec.ofChange fnExactJournalOkWrong)

/-- 'laws.FnExactKnownOf': WHATEVER THE INPUT: true; the input reads as it did. -/
def fnExactKnownOfSpec : ChangeSpec := { name := "fnExactKnownOf", fn := fun _ => fun
  | [d] => { results := [.lit (.bool true)], args := [d] }
  | _ => none }
def fnExactKnownOfRow : OpenClaim := { program := "yteafcbbmajjbmaa", sum := "fc55a948f83f4a725e085a98dd0a3b8537d89ba61753751c933a4d6ebe4df69c", func := "loop.example/g03318/laws.FnExactKnownOf", spec := "fnExactKnownOf", apart := false }
def FnExactKnownOfSaid : Prop := fnExactKnownOfRow.holds Try.pinned (OpenSpec.ofChange fnExactKnownOfSpec)

/-- ITS FALSE NEIGHBOUR: 'it returns false'. Refute it at one input. -/
def fnExactKnownOfWrong : ChangeSpec := { name := "fnExactKnownOf", fn := fun _ => fun
  | [d] => { results := [.lit (.bool false)], args := [d] }
  | _ => none }
def FnExactKnownOfWrongFalsely : Prop := fnExactKnownOfRow.holds Try.pinned (OpenSpec.ofChange fnExactKnownOfWrong)

/-- 'laws.FnExactRoundOk': WHATEVER THE INPUT: true; the input reads as it did. -/
def fnExactRoundOkSpec : ChangeSpec := { name := "fnExactRoundOk", fn := fun _ => fun
  | [d] => { results := [.lit (.bool true)], args := [d] }
  | _ => none }
def fnExactRoundOkRow : OpenClaim := { program := "yteafcbbmajjbmaa", sum := "fc55a948f83f4a725e085a98dd0a3b8537d89ba61753751c933a4d6ebe4df69c", func := "loop.example/g03318/laws.FnExactRoundOk", spec := "fnExactRoundOk", unfollowed := true, recurses := true, apart := false }
def FnExactRoundOkSaid : Prop := fnExactRoundOkRow.holds Try.pinned (OpenSpec.ofChange fnExactRoundOkSpec)

/-- ITS FALSE NEIGHBOUR: 'it returns false'. Refute it at one input. -/
def fnExactRoundOkWrong : ChangeSpec := { name := "fnExactRoundOk", fn := fun _ => fun
  | [d] => { results := [.lit (.bool false)], args := [d] }
  | _ => none }
def FnExactRoundOkWrongFalsely : Prop := fnExactRoundOkRow.holds Try.pinned (OpenSpec.ofChange fnExactRoundOkWrong)

/-- 'laws.FnExactDeltaFor': WHATEVER THE INPUT: true; the input reads as it did. -/
def fnExactDeltaForSpec : ChangeSpec := { name := "fnExactDeltaFor", fn := fun _ => fun
  | [d1, d2] => { results := [.lit (.bool true)], args := [d1, d2] }
  | _ => none }
def fnExactDeltaForRow : OpenClaim := { program := "yteafcbbmajjbmaa", sum := "fc55a948f83f4a725e085a98dd0a3b8537d89ba61753751c933a4d6ebe4df69c", func := "loop.example/g03318/laws.FnExactDeltaFor", spec := "fnExactDeltaFor", apart := false }
def FnExactDeltaForSaid : Prop := fnExactDeltaForRow.holds Try.pinned (OpenSpec.ofChange fnExactDeltaForSpec)

/-- ITS FALSE NEIGHBOUR: 'it returns false'. Refute it at one input. -/
def fnExactDeltaForWrong : ChangeSpec := { name := "fnExactDeltaFor", fn := fun _ => fun
  | [d1, d2] => { results := [.lit (.bool false)], args := [d1, d2] }
  | _ => none }
def FnExactDeltaForWrongFalsely : Prop := fnExactDeltaForRow.holds Try.pinned (OpenSpec.ofChange fnExactDeltaForWrong)

/- THE SECOND FORM. 'bulk': how many values and letters a reading holds, each counted each time it is reached (what is shared counts as often as it is met; a slice's spare places count too). A statement '..UptoSaid' is the law's where the arguments, and the package variables that the reading takes, are together of bulk at most 1048576: NARROWER than '..Said'. Prove '..Said' where nothing that the law and all that it calls make is longer than what came in: it says more and counts as full. Else prove '..UptoSaid'. A law counts once. -/
mutual
def uptoBulk {H : Type} : DataW H → Nat
  | .lit (.string bytes) => bytes.length + 1
  | .lit _ => 1
  | .nil => 1
  | .ptr d => uptoBulk d + 1
  | .slice elems spare => uptoBulkAll elems + uptoBulkAll spare + 1
  | .agg parts => uptoBulkAll parts + 1
  | .iface _ d => uptoBulk d + 1
  | .map entries => uptoBulkEntries entries + 1
  | .held _ => 1
def uptoBulkAll {H : Type} : List (DataW H) → Nat
  | [] => 0
  | d :: r => uptoBulk d + uptoBulkAll r
def uptoBulkEntries {H : Type} : List (Lit × DataW H) → Nat
  | [] => 0
  | x :: r => uptoBulkEntry x + uptoBulkEntries r
def uptoBulkEntry {H : Type} : Lit × DataW H → Nat
  | (.string bytes, d) => bytes.length + uptoBulk d + 1
  | (_, d) => uptoBulk d + 1
 end
def uptoSmall : (H : Type) → List (DataW H) → Bool := fun _ ds => decide (uptoBulkAll ds ≤ 1048576)
def OpenSpec.upto (s : _root_.Go.ChangeSpec) : _root_.Go.OpenSpec := { _root_.Go.OpenSpec.ofChange s with cond := some uptoSmall }

/-- 'laws.FnExactNtName', WHERE WHAT IT READS IS OF BULK AT MOST 1048576: true; the input reads as it did. -/
def fnExactNtNameUptoRow : OpenClaim := { program := "yteafcbbmajjbmaa", sum := "fc55a948f83f4a725e085a98dd0a3b8537d89ba61753751c933a4d6ebe4df69c", func := "loop.example/g03318/laws.FnExactNtName", spec := "fnExactNtName", apart := false, narrowed := true }
def FnExactNtNameUptoSaid : Prop := fnExactNtNameUptoRow.holds Try.pinned (OpenSpec.upto fnExactNtNameSpec)

/-- 'laws.FnExactEventOk', WHERE WHAT IT READS IS OF BULK AT MOST 1048576: true; the input reads as it did. -/
def fnExactEventOkUptoRow : OpenClaim := { program := "yteafcbbmajjbmaa", sum := "fc55a948f83f4a725e085a98dd0a3b8537d89ba61753751c933a4d6ebe4df69c", func := "loop.example/g03318/laws.FnExactEventOk", spec := "fnExactEventOk", apart := false, narrowed := true }
def FnExactEventOkUptoSaid : Prop := fnExactEventOkUptoRow.holds Try.pinned (OpenSpec.upto fnExactEventOkSpec)

/-- 'laws.FnExactJournalOk', WHERE WHAT IT READS IS OF BULK AT MOST 1048576: true; the input reads as it did. -/
def fnExactJournalOkUptoRow : OpenClaim := { program := "yteafcbbmajjbmaa", sum := "fc55a948f83f4a725e085a98dd0a3b8537d89ba61753751c933a4d6ebe4df69c", func := "loop.example/g03318/laws.FnExactJournalOk", spec := "fnExactJournalOk", apart := false, narrowed := true }
def FnExactJournalOkUptoSaid : Prop := fnExactJournalOkUptoRow.holds Try.pinned (OpenSpec.upto fnExactJournalOkSpec)

/-- 'laws.FnExactKnownOf', WHERE WHAT IT READS IS OF BULK AT MOST 1048576: true; the input reads as it did. -/
def fnExactKnownOfUptoRow : OpenClaim := { program := "yteafcbbmajjbmaa", sum := "fc55a948f83f4a725e085a98dd0a3b8537d89ba61753751c933a4d6ebe4df69c", func := "loop.example/g03318/laws.FnExactKnownOf", spec := "fnExactKnownOf", apart := false, narrowed := true }
def FnExactKnownOfUptoSaid : Prop := fnExactKnownOfUptoRow.holds Try.pinned (OpenSpec.upto fnExactKnownOfSpec)

/-- 'laws.FnExactRoundOk', WHERE WHAT IT READS IS OF BULK AT MOST 1048576: true; the input reads as it did. -/
def fnExactRoundOkUptoRow : OpenClaim := { program := "yteafcbbmajjbmaa", sum := "fc55a948f83f4a725e085a98dd0a3b8537d89ba61753751c933a4d6ebe4df69c", func := "loop.example/g03318/laws.FnExactRoundOk", spec := "fnExactRoundOk", unfollowed := true, recurses := true, apart := false, narrowed := true }
def FnExactRoundOkUptoSaid : Prop := fnExactRoundOkUptoRow.holds Try.pinned (OpenSpec.upto fnExactRoundOkSpec)

/-- 'laws.FnExactDeltaFor', WHERE WHAT IT READS IS OF BULK AT MOST 1048576: true; the input reads as it did. -/
def fnExactDeltaForUptoRow : OpenClaim := { program := "yteafcbbmajjbmaa", sum := "fc55a948f83f4a725e085a98dd0a3b8537d89ba61753751c933a4d6ebe4df69c", func := "loop.example/g03318/laws.FnExactDeltaFor", spec := "fnExactDeltaFor", apart := false, narrowed := true }
def FnExactDeltaForUptoSaid : Prop := fnExactDeltaForUptoRow.holds Try.pinned (OpenSpec.upto fnExactDeltaForSpec)

end Rows
end Go.Proofs.Yteafcbbmajjbmaa
