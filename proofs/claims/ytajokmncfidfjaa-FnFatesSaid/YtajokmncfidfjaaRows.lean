/-
  No cell of these rows narrows 'for every input' (looked for: loops, veiled, ifaces, maps, wideKeys, modest, calm, conditions, laid).
  DERIVED. THE GIVEN ROWS OF THIS SEAT. 2 by the template 'for every input the law returns true; each argument reads behind the call as it read before'; 0 by the template 'total and deterministic' (their statements: YtajokmncfidfjaaTotals.lean).
  GIVEN WITH THE SEED: the statements are not yours to turn. If you find one false, say at which input.
  Laid BY PROGRAM, IN A SANDBOX (cutbox-rows.mjs): the forced cells as the released guide's own fill.sh prints them over the translation 7b4dfb1c48c65eba… (all of the seat's roots in one cut). By AI agents, Wed Nov 11 2026. No macro, syntax, notation, axiom, sorry.
-/
import Derived.Test.YtajokmncfidfjaaChecked
import GoSem.Claim
import GoSem.ClaimJoined
import GoSem.ClaimMapViews
import Derived.JoinedTies
import Derived.KernelRfl
namespace Go.Proofs.Ytajokmncfidfjaa
/- THE CELL 'sum', in the pinned program and in every row, IS THE sha256 OF THE DUMP (.gsa) THAT YtajokmncfidfjaaProg.lean LOADS. Nothing in Lean hashes anything: it is a label: what it is worth is what the hold of that sum in a sandbox is worth. -/
noncomputable def Try.pinned : Pinned := { name := "ytajokmncfidfjaa", sum := "7b4dfb1c48c65ebaaaf411a26add1044965a823ebde8866d0e4800c76faa65a7", checked := Try.checked }
namespace Rows
def none {H : Type} : Left H := { results := [], args := [] }

/-- 'laws.FnContradictions': WHATEVER THE INPUT: true; the input reads as it did. -/
def fnContradictionsSpec : ChangeSpec := { name := "fnContradictions", fn := fun _ => fun
  | [d] => { results := [.lit (.bool true)], args := [d] }
  | _ => none }
def fnContradictionsRow : OpenClaim := { program := "ytajokmncfidfjaa", sum := "7b4dfb1c48c65ebaaaf411a26add1044965a823ebde8866d0e4800c76faa65a7", func := "loop.example/g03318/laws.FnContradictions", spec := "fnContradictions", unfollowed := true, recurses := true, apart := false }
def FnContradictionsSaid : Prop := fnContradictionsRow.holds Try.pinned (OpenSpec.ofChange fnContradictionsSpec)

/-- ITS FALSE NEIGHBOUR: 'it returns false'. Refute it at one input. -/
def fnContradictionsWrong : ChangeSpec := { name := "fnContradictions", fn := fun _ => fun
  | [d] => { results := [.lit (.bool false)], args := [d] }
  | _ => none }
def FnContradictionsWrongFalsely : Prop := fnContradictionsRow.holds Try.pinned (OpenSpec.ofChange fnContradictionsWrong)

/-- 'laws.FnFates': WHATEVER THE INPUT: true; the input reads as it did. -/
def fnFatesSpec : ChangeSpec := { name := "fnFates", fn := fun _ => fun
  | [d] => { results := [.lit (.bool true)], args := [d] }
  | _ => none }
def fnFatesRow : OpenClaim := { program := "ytajokmncfidfjaa", sum := "7b4dfb1c48c65ebaaaf411a26add1044965a823ebde8866d0e4800c76faa65a7", func := "loop.example/g03318/laws.FnFates", spec := "fnFates", unfollowed := true, recurses := true, apart := false }
def FnFatesSaid : Prop := fnFatesRow.holds Try.pinned (OpenSpec.ofChange fnFatesSpec)

/-- ITS FALSE NEIGHBOUR: 'it returns false'. Refute it at one input. -/
def fnFatesWrong : ChangeSpec := { name := "fnFates", fn := fun _ => fun
  | [d] => { results := [.lit (.bool false)], args := [d] }
  | _ => none }
def FnFatesWrongFalsely : Prop := fnFatesRow.holds Try.pinned (OpenSpec.ofChange fnFatesWrong)

/- THE SECOND FORM. 'bulk': how many values and letters a reading holds, each counted each time it is reached (what is shared counts as often as it is met; a slice's spare places count too). A statement '..UptoSaid' is the law's where the arguments, and the package variables that the reading takes, are together of bulk at most 1048576: NARROWER than '..Said'. Prove '..Said' where nothing that the law and all that it calls make is longer than what came in: it says more and counts as full. Else prove '..UptoSaid'. A law counts once. -/
mutual
def uptoBulk {H : Type} : DataW H → Nat
  | .lit (.string bytes) => bytes.length + 1
  | .lit _ => 1
  | .nil => 1
  | .ptr d => uptoBulk d + 1
  | .slice elems spare => uptoBulkAll elems + uptoBulkAll spare + 1
  | .agg parts => uptoBulkAll parts + 1
  | .iface _ d => uptoBulk d + 1
  | .map entries => uptoBulkEntries entries + 1
  | .held _ => 1
def uptoBulkAll {H : Type} : List (DataW H) → Nat
  | [] => 0
  | d :: r => uptoBulk d + uptoBulkAll r
def uptoBulkEntries {H : Type} : List (Lit × DataW H) → Nat
  | [] => 0
  | x :: r => uptoBulkEntry x + uptoBulkEntries r
def uptoBulkEntry {H : Type} : Lit × DataW H → Nat
  | (.string bytes, d) => bytes.length + uptoBulk d + 1
  | (_, d) => uptoBulk d + 1
 end
def uptoSmall : (H : Type) → List (DataW H) → Bool := fun _ ds => decide (uptoBulkAll ds ≤ 1048576)
def OpenSpec.upto (s : _root_.Go.ChangeSpec) : _root_.Go.OpenSpec := { _root_.Go.OpenSpec.ofChange s with cond := some uptoSmall }

/-- 'laws.FnContradictions', WHERE WHAT IT READS IS OF BULK AT MOST 1048576: true; the input reads as it did. -/
def fnContradictionsUptoRow : OpenClaim := { program := "ytajokmncfidfjaa", sum := "7b4dfb1c48c65ebaaaf411a26add1044965a823ebde8866d0e4800c76faa65a7", func := "loop.example/g03318/laws.FnContradictions", spec := "fnContradictions", unfollowed := true, recurses := true, apart := false, narrowed := true }
def FnContradictionsUptoSaid : Prop := fnContradictionsUptoRow.holds Try.pinned (OpenSpec.upto fnContradictionsSpec)

/-- 'laws.FnFates', WHERE WHAT IT READS IS OF BULK AT MOST 1048576: true; the input reads as it did. -/
def fnFatesUptoRow : OpenClaim := { program := "ytajokmncfidfjaa", sum := "7b4dfb1c48c65ebaaaf411a26add1044965a823ebde8866d0e4800c76faa65a7", func := "loop.example/g03318/laws.FnFates", spec := "fnFates", unfollowed := true, recurses := true, apart := false, narrowed := true }
def FnFatesUptoSaid : Prop := fnFatesUptoRow.holds Try.pinned (OpenSpec.upto fnFatesSpec)

end Rows
end Go.Proofs.Ytajokmncfidfjaa
