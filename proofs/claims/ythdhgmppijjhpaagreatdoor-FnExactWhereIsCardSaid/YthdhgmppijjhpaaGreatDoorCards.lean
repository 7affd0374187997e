/-
  DERIVED. GIVEN WITH THE SEED: THE CARDS: each row of YthdhgmppijjhpaaGreatDoorRows.lean that lists a variable, with what it lists TIED to the program's text (the seventh form; the later family's looks); each row that meets fmt, with fmt's text TOLD by the authors' own Lean function (tested against real Go, not proved from fmt's source: count such statements apart). THE CARD IS WHAT COUNTS. Prove the row's statement (the work); the ties are given (YthdhgmppijjhpaaGreatDoorTie.lean); close each card by the builder's one call (the guide's Derived/Test/ToyasCard.lean, 'card_holds'). Laid BY PROGRAM, IN A SANDBOX (cutbox-door.mjs). By AI agents, Wed Nov 11 2026. No macro, syntax, notation, axiom, sorry.
-/
import Derived.Test.YthdhgmppijjhpaaGreatDoorRows
import GoSem.ClaimSeven
namespace Go.Proofs.YthdhgmppijjhpaaGreatDoor
namespace Rows

/-- THE TIED CARD OF 'laws.FnExactWhereIs'. -/
def fnExactWhereIsCard : Claim7 := { stood := { row := fnExactWhereIsRow, standIns := [], harness := (true, "4f8454d24be2ddc8750da44788245278b4f411665bc107fe46c15cfa6c2648ee"), looks := false }, kinds := [], alts := [], laidByText := true, laidKinds := [.data, .data, .data], laidTests := true, laidLooks := .later }
def FnExactWhereIsCardSaid : Prop := Claim7.holds Tryz.pinned (.plain (OpenSpec.ofChange fnExactWhereIsSpec)) fnExactWhereIsCard

/-- THE SECOND FORM's CARD OF 'laws.FnExactWhereIs'. -/
def fnExactWhereIsUptoCard : Claim7 := { stood := { row := fnExactWhereIsUptoRow, standIns := [], harness := (true, "4f8454d24be2ddc8750da44788245278b4f411665bc107fe46c15cfa6c2648ee"), looks := false }, kinds := [], alts := [], laidByText := true, laidKinds := [.data, .data, .data], laidTests := true, laidLooks := .later }
def FnExactWhereIsUptoCardSaid : Prop := Claim7.holds Tryz.pinned (.plain (OpenSpec.upto fnExactWhereIsSpec)) fnExactWhereIsUptoCard
end Rows
end Go.Proofs.YthdhgmppijjhpaaGreatDoor
