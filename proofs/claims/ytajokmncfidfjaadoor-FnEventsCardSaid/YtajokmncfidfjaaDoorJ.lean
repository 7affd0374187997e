/- What the rows ask of the whole program, once for all laws of this seat. Conditions: none. -/
import Derived.Test.YtajokmncfidfjaaDoorRows
import Derived.JoinedOf
import Derived.WalkKit
import Derived.ProofKit
import Derived.OpenShut
import Derived.ShutString
import Derived.ChangeOld
import Derived.Below
import Derived.SizedLaws
import Derived.KernelRfl
namespace Go.Proofs.YtajokmncfidfjaaDoor.whole
open Go.RowKit
set_option maxRecDepth 100000
theorem own : ownKnob Tryd.prog.godebug = none := by kernel_rfl
theorem laid : laidOutB Tryd.prog = true := by kernel_rfl
theorem rowed : mapsRowed Tryd.prog = true := by kernel_rfl
theorem full : ((List.range Tryd.prog.types.size).all fun t => match Tryd.prog.underlying t with | some (.slice e) => decide (0 < Tryd.prog.cellsOf e) | _ => true) = true := by kernel_rfl
theorem stops : Tryd.prog.stops = [] := by kernel_rfl
theorem knobs : Tryd.prog.stopKnobs = [] := by kernel_rfl
theorem keys : Tryd.prog.plainKeys = true := by kernel_rfl
theorem heard : Tryd.prog.stopsHeard = true := by kernel_rfl
theorem may : Tryd.prog.mayEnter = true := by kernel_rfl
theorem lifts : Tryd.prog.liftsFinal = false := by kernel_rfl
theorem made : Tryd.prog.make = some .cut := by kernel_rfl
end Go.Proofs.YtajokmncfidfjaaDoor.whole
