/-
  DERIVED. GIVEN WITH THE SEED: THE CARDS: each row of YtdbcclejeoljoaaGreatDoorRows.lean that lists a variable, with what it lists TIED to the program's text (the seventh form; the later family's looks); each row that meets fmt, with fmt's text TOLD by the authors' own Lean function (tested against real Go, not proved from fmt's source: count such statements apart). THE CARD IS WHAT COUNTS. Prove the row's statement (the work); the ties are given (YtdbcclejeoljoaaGreatDoorTie.lean); close each card by the builder's one call (the guide's Derived/Test/ToyasCard.lean, 'card_holds'). Laid BY PROGRAM, IN A SANDBOX (cutbox-door.mjs). By AI agents, Wed Nov 11 2026. No macro, syntax, notation, axiom, sorry.
-/
import Derived.Test.YtdbcclejeoljoaaGreatDoorRows
import GoSem.ClaimSeven
namespace Go.Proofs.YtdbcclejeoljoaaGreatDoor
namespace Rows

/-- THE TIED CARD OF 'laws.FnExactApply'. -/
def fnExactApplyCard : Claim7 := { stood := { row := fnExactApplyRow, standIns := [], harness := (true, "17cfed9f325d7369ecb58c0b42e1c0131904b20927a274174ac2d473a629834b"), looks := false }, kinds := [], alts := [], laidByText := true, laidKinds := [.data, .data, .data], laidTests := true, laidLooks := .later }
def FnExactApplyCardSaid : Prop := Claim7.holds Tryz.pinned (.plain (OpenSpec.ofChange fnExactApplySpec)) fnExactApplyCard

/-- THE TIED CARD OF 'laws.FnExactRunNetwork'. -/
def fnExactRunNetworkCard : Claim7 := { stood := { row := fnExactRunNetworkRow, standIns := [], harness := (true, "17cfed9f325d7369ecb58c0b42e1c0131904b20927a274174ac2d473a629834b"), looks := false }, kinds := [], alts := [], laidByText := true, laidKinds := [.data, .data, .data], laidTests := true, laidLooks := .later }
def FnExactRunNetworkCardSaid : Prop := Claim7.holds Tryz.pinned (.plain (OpenSpec.ofChange fnExactRunNetworkSpec)) fnExactRunNetworkCard

/-- THE SECOND FORM's CARD OF 'laws.FnExactApply'. -/
def fnExactApplyUptoCard : Claim7 := { stood := { row := fnExactApplyUptoRow, standIns := [], harness := (true, "17cfed9f325d7369ecb58c0b42e1c0131904b20927a274174ac2d473a629834b"), looks := false }, kinds := [], alts := [], laidByText := true, laidKinds := [.data, .data, .data], laidTests := true, laidLooks := .later }
def FnExactApplyUptoCardSaid : Prop := Claim7.holds Tryz.pinned (.plain (OpenSpec.upto fnExactApplySpec)) fnExactApplyUptoCard

/-- THE SECOND FORM's CARD OF 'laws.FnExactRunNetwork'. -/
def fnExactRunNetworkUptoCard : Claim7 := { stood := { row := fnExactRunNetworkUptoRow, standIns := [], harness := (true, "17cfed9f325d7369ecb58c0b42e1c0131904b20927a274174ac2d473a629834b"), looks := false }, kinds := [], alts := [], laidByText := true, laidKinds := [.data, .data, .data], laidTests := true, laidLooks := .later }
def FnExactRunNetworkUptoCardSaid : Prop := Claim7.holds Tryz.pinned (.plain (OpenSpec.upto fnExactRunNetworkSpec)) fnExactRunNetworkUptoCard
end Rows
end Go.Proofs.YtdbcclejeoljoaaGreatDoor
