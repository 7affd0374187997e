import Derived.Test.YtnadnafggjopmaaRE
import Derived.Lib.SlicesCompact
import Derived.Sort.AssemblyPlain
/- Plain functions that stand for Go functions, and what they answer. Conditions: none. -/
set_option autoImplicit false
set_option linter.unusedVariables false
set_option linter.unusedSimpArgs false
set_option linter.unusedVariables false
namespace Go.Fn
open Go.R
noncomputable def zIIIIIII : Int × Int × Int × Int × Int × Int × Int := ((0 : Int), (0 : Int), (0 : Int), (0 : Int), (0 : Int), (0 : Int), (0 : Int))
noncomputable def spec_l01In (a0 : Int) (a1 : Int) (a2 : Int) : Option (Bool × Unit) :=
 (bif (rCmp .geq a0 a1) then some ((rCmp .leq a0 a2), ()) else some (false, ()))
noncomputable def impl_within (a0 : Int) (a1 : Int) (a2 : Int) : Option (Bool × Unit) :=
 (bif (rCmp .geq a0 a1) then some ((rCmp .leq a0 a2), ()) else some (false, ()))
noncomputable def impl_timeOk (a0 : Int) : Option (Bool × Unit) :=
 ((impl_within a0 (0 : Int) (20000 : Int)).bind fun y0 => some (y0.1, ()))
end Go.Fn
set_option linter.unusedVariables false
namespace Go.Fn
open Go.R
noncomputable def zI : Int := (0 : Int)
noncomputable def laws_eqIntS_b0 (k : (List (Int)) × (List (Int)) × Unit) (x : Int × Unit) : Option ((Int × Unit) ⊕ (Bool × Unit ⊕ (Unit ⊕ Empty))) :=
 (bif (rCmp .lss x.1 (rLen k.1)) then (bif (rInR k.1 x.1) then (bif (rInR k.2.1 x.1) then (bif (rCmp .neq (rGet zI k.1 x.1) (rGet zI k.2.1 x.1)) then some (.inr (.inl (false, ()))) else some (.inl ((rArith .add .i64 x.1 (1 : Int)), ()))) else none) else none) else some (.inr (.inr (.inl (())))))
noncomputable def laws_eqIntS_l0 (k : (List (Int)) × (List (Int)) × Unit) (x : Int × Unit) : Option (Bool × Unit ⊕ (Unit ⊕ Empty)) := iter (laws_eqIntS_b0 k) big x
noncomputable def laws_eqIntS (a0 : (List (Int))) (a1 : (List (Int))) : Option (Bool × Unit) :=
 (bif (rCmp .neq (rLen a0) (rLen a1)) then some (false, ()) else ((laws_eqIntS_l0 (a0, a1, ()) ((0 : Int), ())).bind fun q0 => (Sum.elim (fun y1 => some (y1.1, ())) (fun q2 => (Sum.elim (fun y3 => some (true, ())) (fun q4 => (Empty.elim q4)) q2)) q0)))
noncomputable def laws_markIntS_b0 (k : Unit) (x : (List (Int)) × Int × Int × Unit) : Option (((List (Int)) × Int × Int × Unit) ⊕ ((List (Int)) × Int × Unit ⊕ Empty)) :=
 (bif (rCmp .lss x.2.2.1 (rLen x.1)) then (bif (rInR x.1 x.2.2.1) then some (.inl ((rPut x.1 x.2.2.1 x.2.1), (rArith .add .i64 x.2.1 (1 : Int)), (rArith .add .i64 x.2.2.1 (1 : Int)), ())) else none) else some (.inr (.inl (x.1, x.2.1, ()))))
noncomputable def laws_markIntS_l0 (k : Unit) (x : (List (Int)) × Int × Int × Unit) : Option ((List (Int)) × Int × Unit ⊕ Empty) := iter (laws_markIntS_b0 k) big x
noncomputable def laws_markIntS (a0 : (List (Int))) (a1 : Int) : Option (Int × (List (Int)) × Unit) :=
 ((laws_markIntS_l0 (()) (a0, a1, (0 : Int), ())).bind fun q0 => (Sum.elim (fun y1 => some (y1.2.1, y1.1, ())) (fun q2 => (Empty.elim q2)) q0))
noncomputable def laws_heldIntS_b0 (k : (List (Int)) × Unit) (x : Int × Int × Unit) : Option ((Int × Int × Unit) ⊕ (Int × Unit ⊕ (Int × Unit ⊕ Empty))) :=
 (bif (rCmp .lss x.2.1 (rLen k.1)) then (bif (rInR k.1 x.2.1) then (bif (rCmp .neq (rGet zI k.1 x.2.1) x.1) then some (.inr (.inl ((-1 : Int), ()))) else some (.inl ((rArith .add .i64 x.1 (1 : Int)), (rArith .add .i64 x.2.1 (1 : Int)), ()))) else none) else some (.inr (.inr (.inl (x.1, ())))))
noncomputable def laws_heldIntS_l0 (k : (List (Int)) × Unit) (x : Int × Int × Unit) : Option (Int × Unit ⊕ (Int × Unit ⊕ Empty)) := iter (laws_heldIntS_b0 k) big x
noncomputable def laws_heldIntS (a0 : (List (Int))) (a1 : Int) : Option (Int × Unit) :=
 ((laws_heldIntS_l0 (a0, ()) (a1, (0 : Int), ())).bind fun q0 => (Sum.elim (fun y1 => some (y1.1, ())) (fun q2 => (Sum.elim (fun y3 => some (y3.1, ())) (fun q4 => (Empty.elim q4)) q2)) q0))
noncomputable def laws_toIntS_b0 (k : (List (Int)) × Unit) (x : (List (Int)) × Int × Unit) : Option (((List (Int)) × Int × Unit) ⊕ ((List (Int)) × Unit ⊕ Empty)) :=
 (bif (rCmp .lss x.2.1 (rLen k.1)) then (bif (rInR k.1 x.2.1) then (bif (rInR x.1 x.2.1) then some (.inl ((rPut x.1 x.2.1 (rGet zI k.1 x.2.1)), (rArith .add .i64 x.2.1 (1 : Int)), ())) else none) else none) else some (.inr (.inl (x.1, ()))))
noncomputable def laws_toIntS_l0 (k : (List (Int)) × Unit) (x : (List (Int)) × Int × Unit) : Option ((List (Int)) × Unit ⊕ Empty) := iter (laws_toIntS_b0 k) big x
noncomputable def laws_toIntS (a0 : (List (Int))) : Option ((List (Int)) × Unit) :=
 (bif (rRepOk (rLen a0)) then ((laws_toIntS_l0 (a0, ()) ((rRep (rLen a0) (0 : Int)), (0 : Int), ())).bind fun q0 => (Sum.elim (fun y1 => some (y1.1, ())) (fun q2 => (Empty.elim q2)) q0)) else none)
end Go.Fn
set_option linter.unusedVariables false
namespace Go.Fn
open Go.R
noncomputable def zLIl : List (Int) := ([] : List (Int))
noncomputable def zIIIII : Int × Int × Int × Int × Int := ((0 : Int), (0 : Int), (0 : Int), (0 : Int), (0 : Int))
noncomputable def laws_szIntS (a0 : (List (Int))) (a1 : Int) : Option (Int × Unit) :=
 (bif (rCmp .lss (rArith .sub .i64 a1 (rLen a0)) (0 : Int)) then some ((-1 : Int), ()) else some ((rArith .sub .i64 a1 (rLen a0)), ()))
noncomputable def laws_szIntSS_b0 (k : (List (List (Int))) × Unit) (x : Int × Int × Unit) : Option ((Int × Int × Unit) ⊕ (Int × Unit ⊕ (Int × Unit ⊕ Empty))) :=
 (bif (rCmp .lss x.2.1 (rLen k.1)) then (bif (rInR k.1 x.2.1) then ((laws_szIntS (rGet zLIl k.1 x.2.1) x.1).bind fun y0 => (bif (rCmp .lss y0.1 (0 : Int)) then some (.inr (.inl ((-1 : Int), ()))) else some (.inl (y0.1, (rArith .add .i64 x.2.1 (1 : Int)), ())))) else none) else some (.inr (.inr (.inl (x.1, ())))))
noncomputable def laws_szIntSS_l0 (k : (List (List (Int))) × Unit) (x : Int × Int × Unit) : Option (Int × Unit ⊕ (Int × Unit ⊕ Empty)) := iter (laws_szIntSS_b0 k) big x
noncomputable def laws_szIntSS (a0 : (List (List (Int)))) (a1 : Int) : Option (Int × Unit) :=
 (bif (rCmp .lss (rArith .sub .i64 a1 (rLen a0)) (0 : Int)) then some ((-1 : Int), ()) else ((laws_szIntSS_l0 (a0, ()) ((rArith .sub .i64 a1 (rLen a0)), (0 : Int), ())).bind fun q0 => (Sum.elim (fun y1 => some (y1.1, ())) (fun q2 => (Sum.elim (fun y3 => some (y3.1, ())) (fun q4 => (Empty.elim q4)) q2)) q0)))
noncomputable def laws_szStopS (a0 : (List (Int × Int × Int × Int × Int))) (a1 : Int) : Option (Int × Unit) :=
 (bif (rCmp .lss (rArith .sub .i64 a1 (rLen a0)) (0 : Int)) then some ((-1 : Int), ()) else some ((rArith .sub .i64 a1 (rLen a0)), ()))
noncomputable def laws_szRound (a0 : Int) (a1 : Int) (a2 : (List (List (Int)))) (a3 : (List (Int × Int × Int × Int × Int))) (a4 : Int) : Option (Int × Unit) :=
 ((laws_szIntSS a2 a4).bind fun y0 => (bif (rCmp .lss y0.1 (0 : Int)) then some ((-1 : Int), ()) else ((laws_szStopS a3 y0.1).bind fun y1 => (bif (rCmp .lss y1.1 (0 : Int)) then some ((-1 : Int), ()) else some (y1.1, ())))))
noncomputable def laws_toIntSS_b0 (k : (List (List (Int))) × Unit) (x : (List (List (Int))) × Int × Unit) : Option (((List (List (Int))) × Int × Unit) ⊕ ((List (List (Int))) × Unit ⊕ Empty)) :=
 (bif (rCmp .lss x.2.1 (rLen k.1)) then (bif (rInR k.1 x.2.1) then ((laws_toIntS (rGet zLIl k.1 x.2.1)).bind fun y0 => (bif (rInR x.1 x.2.1) then some (.inl ((rPut x.1 x.2.1 y0.1), (rArith .add .i64 x.2.1 (1 : Int)), ())) else none)) else none) else some (.inr (.inl (x.1, ()))))
noncomputable def laws_toIntSS_l0 (k : (List (List (Int))) × Unit) (x : (List (List (Int))) × Int × Unit) : Option ((List (List (Int))) × Unit ⊕ Empty) := iter (laws_toIntSS_b0 k) big x
noncomputable def laws_toIntSS (a0 : (List (List (Int)))) : Option ((List (List (Int))) × Unit) :=
 (bif (rRepOk (rLen a0)) then ((laws_toIntSS_l0 (a0, ()) ((rRep (rLen a0) ([] : List (Int))), (0 : Int), ())).bind fun q0 => (Sum.elim (fun y1 => some (y1.1, ())) (fun q2 => (Empty.elim q2)) q0)) else none)
noncomputable def laws_toStop (a0 : Int) (a1 : Int) (a2 : Int) (a3 : Int) (a4 : Int) : Option (Int × Int × Int × Int × Int × Unit) :=
 some (a0, a1, a2, a3, a4, ())
noncomputable def laws_toStopS_b0 (k : (List (Int × Int × Int × Int × Int)) × Unit) (x : (List (Int × Int × Int × Int × Int)) × Int × Unit) : Option (((List (Int × Int × Int × Int × Int)) × Int × Unit) ⊕ ((List (Int × Int × Int × Int × Int)) × Unit ⊕ Empty)) :=
 (bif (rCmp .lss x.2.1 (rLen k.1)) then (bif (rInR k.1 x.2.1) then ((laws_toStop (rGet zIIIII k.1 x.2.1).1 (rGet zIIIII k.1 x.2.1).2.1 (rGet zIIIII k.1 x.2.1).2.2.1 (rGet zIIIII k.1 x.2.1).2.2.2.1 (rGet zIIIII k.1 x.2.1).2.2.2.2).bind fun y0 => (bif (rInR x.1 x.2.1) then some (.inl ((rPut x.1 x.2.1 (y0.1, y0.2.1, y0.2.2.1, y0.2.2.2.1, y0.2.2.2.2.1)), (rArith .add .i64 x.2.1 (1 : Int)), ())) else none)) else none) else some (.inr (.inl (x.1, ()))))
noncomputable def laws_toStopS_l0 (k : (List (Int × Int × Int × Int × Int)) × Unit) (x : (List (Int × Int × Int × Int × Int)) × Int × Unit) : Option ((List (Int × Int × Int × Int × Int)) × Unit ⊕ Empty) := iter (laws_toStopS_b0 k) big x
noncomputable def laws_toStopS (a0 : (List (Int × Int × Int × Int × Int))) : Option ((List (Int × Int × Int × Int × Int)) × Unit) :=
 (bif (rRepOk (rLen a0)) then ((laws_toStopS_l0 (a0, ()) ((rRep (rLen a0) ((0 : Int), (0 : Int), (0 : Int), (0 : Int), (0 : Int))), (0 : Int), ())).bind fun q0 => (Sum.elim (fun y1 => some (y1.1, ())) (fun q2 => (Empty.elim q2)) q0)) else none)
noncomputable def laws_toRound (a0 : Int) (a1 : Int) (a2 : (List (List (Int)))) (a3 : (List (Int × Int × Int × Int × Int))) : Option (Int × Int × (List (List (Int))) × (List (Int × Int × Int × Int × Int)) × Unit) :=
 ((laws_toIntSS a2).bind fun y0 => ((laws_toStopS a3).bind fun y1 => some (a0, a1, y0.1, y1.1, ())))
noncomputable def spec_RoundOk_b2 (k : Int × Int × (List (List (Int))) × (List (Int × Int × Int × Int × Int)) × Int × Unit) (x : Int × Unit) : Option ((Int × Unit) ⊕ (Bool × Unit ⊕ (Unit ⊕ Empty))) :=
 (bif (rCmp .lss x.1 (rLen k.2.2.1)) then (bif (rInR k.2.2.1 k.2.2.2.2.1) then (bif (rInR (rGet zLIl k.2.2.1 k.2.2.2.2.1) x.1) then ((spec_l01In (rGet zI (rGet zLIl k.2.2.1 k.2.2.2.2.1) x.1) (0 : Int) (200 : Int)).bind fun y0 => (bif (Bool.not y0.1) then some (.inr (.inl (false, ()))) else some (.inl ((rArith .add .i64 x.1 (1 : Int)), ())))) else none) else none) else some (.inr (.inr (.inl (())))))
noncomputable def spec_RoundOk_l2 (k : Int × Int × (List (List (Int))) × (List (Int × Int × Int × Int × Int)) × Int × Unit) (x : Int × Unit) : Option (Bool × Unit ⊕ (Unit ⊕ Empty)) := iter (spec_RoundOk_b2 k) big x
noncomputable def spec_RoundOk_b0 (k : Int × Int × (List (List (Int))) × (List (Int × Int × Int × Int × Int)) × Unit) (x : Int × Unit) : Option ((Int × Unit) ⊕ (Bool × Unit ⊕ (Unit ⊕ Empty))) :=
 (bif (rCmp .lss x.1 (rLen k.2.2.1)) then (bif (rInR k.2.2.1 x.1) then (bif (rCmp .neq (rLen (rGet zLIl k.2.2.1 x.1)) (rLen k.2.2.1)) then some (.inr (.inl (false, ()))) else ((spec_RoundOk_l2 (k.1, k.2.1, k.2.2.1, k.2.2.2.1, x.1, ()) ((0 : Int), ())).bind fun q0 => (Sum.elim (fun y1 => some (.inr (.inl (y1.1, ())))) (fun q2 => (Sum.elim (fun y3 => some (.inl ((rArith .add .i64 x.1 (1 : Int)), ()))) (fun q4 => (Empty.elim q4)) q2)) q0))) else none) else some (.inr (.inr (.inl (())))))
noncomputable def spec_RoundOk_l0 (k : Int × Int × (List (List (Int))) × (List (Int × Int × Int × Int × Int)) × Unit) (x : Int × Unit) : Option (Bool × Unit ⊕ (Unit ⊕ Empty)) := iter (spec_RoundOk_b0 k) big x
noncomputable def spec_RoundOk_b4 (k : Int × Int × (List (List (Int))) × (List (Int × Int × Int × Int × Int)) × Unit) (x : Int × Unit) : Option ((Int × Unit) ⊕ (Bool × Unit ⊕ (Unit ⊕ Empty))) :=
 (bif (rCmp .lss x.1 (rLen k.2.2.2.1)) then (bif (rInR k.2.2.2.1 x.1) then ((spec_l01In (rGet zIIIII k.2.2.2.1 x.1).2.1 (0 : Int) (20000 : Int)).bind fun y0 => (bif (Bool.not y0.1) then some (.inr (.inl (false, ()))) else ((spec_l01In (rGet zIIIII k.2.2.2.1 x.1).1 (0 : Int) (rGet zIIIII k.2.2.2.1 x.1).2.1).bind fun y1 => (bif (Bool.not y1.1) then some (.inr (.inl (false, ()))) else ((spec_l01In (rGet zIIIII k.2.2.2.1 x.1).2.2.1 (0 : Int) (200 : Int)).bind fun y2 => (bif (Bool.not y2.1) then some (.inr (.inl (false, ()))) else ((spec_l01In (rGet zIIIII k.2.2.2.1 x.1).2.2.2.1 (0 : Int) (1000 : Int)).bind fun y3 => (bif (Bool.not y3.1) then some (.inr (.inl (false, ()))) else ((spec_l01In (rGet zIIIII k.2.2.2.1 x.1).2.2.2.2 (0 : Int) (1000 : Int)).bind fun y4 => (bif (Bool.not y4.1) then some (.inr (.inl (false, ()))) else some (.inl ((rArith .add .i64 x.1 (1 : Int)), ())))))))))))) else none) else some (.inr (.inr (.inl (())))))
noncomputable def spec_RoundOk_l4 (k : Int × Int × (List (List (Int))) × (List (Int × Int × Int × Int × Int)) × Unit) (x : Int × Unit) : Option (Bool × Unit ⊕ (Unit ⊕ Empty)) := iter (spec_RoundOk_b4 k) big x
noncomputable def spec_RoundOk (a0 : Int) (a1 : Int) (a2 : (List (List (Int)))) (a3 : (List (Int × Int × Int × Int × Int))) : Option (Bool × Unit) :=
 ((spec_l01In a0 (0 : Int) (20000 : Int)).bind fun y0 => (bif (Bool.not y0.1) then some (false, ()) else ((spec_l01In a1 (0 : Int) (1000 : Int)).bind fun y1 => (bif (Bool.not y1.1) then some (false, ()) else (bif (rCmp .gtr (rLen a3) (6 : Int)) then some (false, ()) else (bif (rCmp .neq (rLen a2) (rArith .add .i64 (rLen a3) (1 : Int))) then some (false, ()) else ((spec_RoundOk_l0 (a0, a1, a2, a3, ()) ((0 : Int), ())).bind fun q2 => (Sum.elim (fun y3 => some (y3.1, ())) (fun q4 => (Sum.elim (fun y5 => ((spec_RoundOk_l4 (a0, a1, a2, a3, ()) ((0 : Int), ())).bind fun q6 => (Sum.elim (fun y7 => some (y7.1, ())) (fun q8 => (Sum.elim (fun y9 => some (true, ())) (fun q10 => (Empty.elim q10)) q8)) q6))) (fun q6 => (Empty.elim q6)) q4)) q2))))))))
noncomputable def impl_RoundOk_1 (a0 : Int) : Option (Bool × Unit) :=
 ((impl_within a0 (0 : Int) (200 : Int)).bind fun y0 => some ((Bool.not y0.1), ()))
noncomputable def slices_IndexFunc___int_int___impl_RoundOk_1_b0 (k : (List (Int)) × Int × Unit) (x : Int × Unit) : Option ((Int × Unit) ⊕ (Int × Unit ⊕ (Unit ⊕ Empty))) :=
 (bif (rCmp .lss x.1 k.2.1) then (bif (rInR k.1 x.1) then ((impl_RoundOk_1 (rGet zI k.1 x.1)).bind fun y0 => (bif y0.1 then some (.inr (.inl (x.1, ()))) else some (.inl ((rArith .add .i64 x.1 (1 : Int)), ())))) else none) else some (.inr (.inr (.inl (())))))
noncomputable def slices_IndexFunc___int_int___impl_RoundOk_1_l0 (k : (List (Int)) × Int × Unit) (x : Int × Unit) : Option (Int × Unit ⊕ (Unit ⊕ Empty)) := iter (slices_IndexFunc___int_int___impl_RoundOk_1_b0 k) big x
noncomputable def slices_IndexFunc___int_int___impl_RoundOk_1 (a0 : (List (Int))) : Option (Int × Unit) :=
 ((slices_IndexFunc___int_int___impl_RoundOk_1_l0 (a0, (rLen a0), ()) ((0 : Int), ())).bind fun q0 => (Sum.elim (fun y1 => some (y1.1, ())) (fun q2 => (Sum.elim (fun y3 => some ((-1 : Int), ())) (fun q4 => (Empty.elim q4)) q2)) q0))
noncomputable def slices_ContainsFunc___int_int___impl_RoundOk_1 (a0 : (List (Int))) : Option (Bool × Unit) :=
 ((slices_IndexFunc___int_int___impl_RoundOk_1 a0).bind fun y0 => some ((rCmp .geq y0.1 (0 : Int)), ()))
noncomputable def impl_RoundOk_b0 (k : Int × Int × (List (List (Int))) × (List (Int × Int × Int × Int × Int)) × (List (List (Int))) × Int × Unit) (x : Int × Unit) : Option ((Int × Unit) ⊕ (Bool × Unit ⊕ (Unit ⊕ Empty))) :=
 (bif (rCmp .lss x.1 k.2.2.2.2.2.1) then (bif (rInR k.2.2.2.2.1 x.1) then (bif (rCmp .neq (rLen (rGet zLIl k.2.2.2.2.1 x.1)) (rLen k.2.2.1)) then some (.inr (.inl (false, ()))) else ((slices_ContainsFunc___int_int___impl_RoundOk_1 (rGet zLIl k.2.2.2.2.1 x.1)).bind fun y0 => (bif y0.1 then some (.inr (.inl (false, ()))) else some (.inl ((rArith .add .i64 x.1 (1 : Int)), ()))))) else none) else some (.inr (.inr (.inl (())))))
noncomputable def impl_RoundOk_l0 (k : Int × Int × (List (List (Int))) × (List (Int × Int × Int × Int × Int)) × (List (List (Int))) × Int × Unit) (x : Int × Unit) : Option (Bool × Unit ⊕ (Unit ⊕ Empty)) := iter (impl_RoundOk_b0 k) big x
noncomputable def impl_RoundOk_b2 (k : (List (Int × Int × Int × Int × Int)) × Int × Unit) (x : Int × Unit) : Option ((Int × Unit) ⊕ (Bool × Unit ⊕ (Unit ⊕ Empty))) :=
 (bif (rCmp .lss x.1 k.2.1) then (bif (rInR k.1 x.1) then ((impl_timeOk (rGet zIIIII k.1 x.1).1).bind fun y0 => (bif (Bool.not y0.1) then some (.inr (.inl (false, ()))) else ((impl_timeOk (rGet zIIIII k.1 x.1).2.1).bind fun y1 => (bif (Bool.not y1.1) then some (.inr (.inl (false, ()))) else (bif (rCmp .gtr (rGet zIIIII k.1 x.1).1 (rGet zIIIII k.1 x.1).2.1) then some (.inr (.inl (false, ()))) else ((impl_within (rGet zIIIII k.1 x.1).2.2.1 (0 : Int) (200 : Int)).bind fun y2 => (bif (Bool.not y2.1) then some (.inr (.inl (false, ()))) else ((impl_within (rGet zIIIII k.1 x.1).2.2.2.1 (0 : Int) (1000 : Int)).bind fun y3 => (bif (Bool.not y3.1) then some (.inr (.inl (false, ()))) else ((impl_within (rGet zIIIII k.1 x.1).2.2.2.2 (0 : Int) (1000 : Int)).bind fun y4 => (bif (Bool.not y4.1) then some (.inr (.inl (false, ()))) else some (.inl ((rArith .add .i64 x.1 (1 : Int)), ()))))))))))))) else none) else some (.inr (.inr (.inl (())))))
noncomputable def impl_RoundOk_l2 (k : (List (Int × Int × Int × Int × Int)) × Int × Unit) (x : Int × Unit) : Option (Bool × Unit ⊕ (Unit ⊕ Empty)) := iter (impl_RoundOk_b2 k) big x
noncomputable def impl_RoundOk (a0 : Int) (a1 : Int) (a2 : (List (List (Int)))) (a3 : (List (Int × Int × Int × Int × Int))) : Option (Bool × Unit) :=
 ((impl_timeOk a0).bind fun y0 => (bif (Bool.not y0.1) then some (false, ()) else ((impl_within a1 (0 : Int) (1000 : Int)).bind fun y1 => (bif (Bool.not y1.1) then some (false, ()) else (bif (rCmp .gtr (rLen a3) (6 : Int)) then some (false, ()) else (bif (rCmp .neq (rLen a2) (rArith .add .i64 (rLen a3) (1 : Int))) then some (false, ()) else ((impl_RoundOk_l0 (a0, a1, a2, a3, a2, (rLen a2), ()) ((0 : Int), ())).bind fun q2 => (Sum.elim (fun y3 => some (y3.1, ())) (fun q4 => (Sum.elim (fun y5 => ((impl_RoundOk_l2 (a3, (rLen a3), ()) ((0 : Int), ())).bind fun q6 => (Sum.elim (fun y7 => some (y7.1, ())) (fun q8 => (Sum.elim (fun y9 => some (true, ())) (fun q10 => (Empty.elim q10)) q8)) q6))) (fun q6 => (Empty.elim q6)) q4)) q2))))))))
noncomputable def laws_eqIntSS_b0 (k : (List (List (Int))) × (List (List (Int))) × Unit) (x : Int × Unit) : Option ((Int × Unit) ⊕ (Bool × Unit ⊕ (Unit ⊕ Empty))) :=
 (bif (rCmp .lss x.1 (rLen k.1)) then (bif (rInR k.1 x.1) then (bif (rInR k.2.1 x.1) then ((laws_eqIntS (rGet zLIl k.1 x.1) (rGet zLIl k.2.1 x.1)).bind fun y0 => (bif (Bool.not y0.1) then some (.inr (.inl (false, ()))) else some (.inl ((rArith .add .i64 x.1 (1 : Int)), ())))) else none) else none) else some (.inr (.inr (.inl (())))))
noncomputable def laws_eqIntSS_l0 (k : (List (List (Int))) × (List (List (Int))) × Unit) (x : Int × Unit) : Option (Bool × Unit ⊕ (Unit ⊕ Empty)) := iter (laws_eqIntSS_b0 k) big x
noncomputable def laws_eqIntSS (a0 : (List (List (Int)))) (a1 : (List (List (Int)))) : Option (Bool × Unit) :=
 (bif (rCmp .neq (rLen a0) (rLen a1)) then some (false, ()) else ((laws_eqIntSS_l0 (a0, a1, ()) ((0 : Int), ())).bind fun q0 => (Sum.elim (fun y1 => some (y1.1, ())) (fun q2 => (Sum.elim (fun y3 => some (true, ())) (fun q4 => (Empty.elim q4)) q2)) q0)))
noncomputable def laws_eqStop (a0 : Int) (a1 : Int) (a2 : Int) (a3 : Int) (a4 : Int) (a5 : Int) (a6 : Int) (a7 : Int) (a8 : Int) (a9 : Int) : Option (Bool × Unit) :=
 (bif (rCmp .neq a0 a5) then some (false, ()) else (bif (rCmp .neq a1 a6) then some (false, ()) else (bif (rCmp .neq a2 a7) then some (false, ()) else (bif (rCmp .neq a3 a8) then some (false, ()) else (bif (rCmp .neq a4 a9) then some (false, ()) else some (true, ()))))))
noncomputable def laws_eqStopS_b0 (k : (List (Int × Int × Int × Int × Int)) × (List (Int × Int × Int × Int × Int)) × Unit) (x : Int × Unit) : Option ((Int × Unit) ⊕ (Bool × Unit ⊕ (Unit ⊕ Empty))) :=
 (bif (rCmp .lss x.1 (rLen k.1)) then (bif (rInR k.1 x.1) then (bif (rInR k.2.1 x.1) then ((laws_eqStop (rGet zIIIII k.1 x.1).1 (rGet zIIIII k.1 x.1).2.1 (rGet zIIIII k.1 x.1).2.2.1 (rGet zIIIII k.1 x.1).2.2.2.1 (rGet zIIIII k.1 x.1).2.2.2.2 (rGet zIIIII k.2.1 x.1).1 (rGet zIIIII k.2.1 x.1).2.1 (rGet zIIIII k.2.1 x.1).2.2.1 (rGet zIIIII k.2.1 x.1).2.2.2.1 (rGet zIIIII k.2.1 x.1).2.2.2.2).bind fun y0 => (bif (Bool.not y0.1) then some (.inr (.inl (false, ()))) else some (.inl ((rArith .add .i64 x.1 (1 : Int)), ())))) else none) else none) else some (.inr (.inr (.inl (())))))
noncomputable def laws_eqStopS_l0 (k : (List (Int × Int × Int × Int × Int)) × (List (Int × Int × Int × Int × Int)) × Unit) (x : Int × Unit) : Option (Bool × Unit ⊕ (Unit ⊕ Empty)) := iter (laws_eqStopS_b0 k) big x
noncomputable def laws_eqStopS (a0 : (List (Int × Int × Int × Int × Int))) (a1 : (List (Int × Int × Int × Int × Int))) : Option (Bool × Unit) :=
 (bif (rCmp .neq (rLen a0) (rLen a1)) then some (false, ()) else ((laws_eqStopS_l0 (a0, a1, ()) ((0 : Int), ())).bind fun q0 => (Sum.elim (fun y1 => some (y1.1, ())) (fun q2 => (Sum.elim (fun y3 => some (true, ())) (fun q4 => (Empty.elim q4)) q2)) q0)))
noncomputable def laws_eqRound (a0 : Int) (a1 : Int) (a2 : (List (List (Int)))) (a3 : (List (Int × Int × Int × Int × Int))) (a4 : Int) (a5 : Int) (a6 : (List (List (Int)))) (a7 : (List (Int × Int × Int × Int × Int))) : Option (Bool × Unit) :=
 (bif (rCmp .neq a0 a4) then some (false, ()) else (bif (rCmp .neq a1 a5) then some (false, ()) else ((laws_eqIntSS a2 a6).bind fun y0 => (bif (Bool.not y0.1) then some (false, ()) else ((laws_eqStopS a3 a7).bind fun y1 => (bif (Bool.not y1.1) then some (false, ()) else some (true, ())))))))
end Go.Fn
set_option linter.unusedVariables false
namespace Go.Fn
open Go.R
noncomputable def spec_l02Has_b0 (k : (List (Int)) × Int × Unit) (x : Int × Unit) : Option ((Int × Unit) ⊕ (Bool × Unit ⊕ (Unit ⊕ Empty))) :=
 (bif (rCmp .lss x.1 (rLen k.1)) then (bif (rInR k.1 x.1) then (bif (rCmp .eql (rGet zI k.1 x.1) k.2.1) then some (.inr (.inl (true, ()))) else some (.inl ((rArith .add .i64 x.1 (1 : Int)), ()))) else none) else some (.inr (.inr (.inl (())))))
noncomputable def spec_l02Has_l0 (k : (List (Int)) × Int × Unit) (x : Int × Unit) : Option (Bool × Unit ⊕ (Unit ⊕ Empty)) := iter (spec_l02Has_b0 k) big x
noncomputable def spec_l02Has (a0 : (List (Int))) (a1 : Int) : Option (Bool × Unit) :=
 ((spec_l02Has_l0 (a0, a1, ()) ((0 : Int), ())).bind fun q0 => (Sum.elim (fun y1 => some (y1.1, ())) (fun q2 => (Sum.elim (fun y3 => some (false, ())) (fun q4 => (Empty.elim q4)) q2)) q0))
noncomputable def spec_OrderOk_b0 (k : (List (Int)) × Int × Int × (List (List (Int))) × (List (Int × Int × Int × Int × Int)) × Unit) (x : Int × Unit) : Option ((Int × Unit) ⊕ (Bool × Unit ⊕ (Unit ⊕ Empty))) :=
 (bif (rCmp .lss x.1 (rLen k.1)) then (bif (rInR k.1 x.1) then ((spec_l01In (rGet zI k.1 x.1) (0 : Int) (rArith .sub .i64 (rLen k.2.2.2.2.1) (1 : Int))).bind fun y0 => (bif (Bool.not y0.1) then some (.inr (.inl (false, ()))) else (bif (rSubOk k.1 (0 : Int) x.1) then (bif (rInR k.1 x.1) then ((spec_l02Has (rSub k.1 (0 : Int) x.1) (rGet zI k.1 x.1)).bind fun y1 => (bif y1.1 then some (.inr (.inl (false, ()))) else some (.inl ((rArith .add .i64 x.1 (1 : Int)), ())))) else none) else none))) else none) else some (.inr (.inr (.inl (())))))
noncomputable def spec_OrderOk_l0 (k : (List (Int)) × Int × Int × (List (List (Int))) × (List (Int × Int × Int × Int × Int)) × Unit) (x : Int × Unit) : Option (Bool × Unit ⊕ (Unit ⊕ Empty)) := iter (spec_OrderOk_b0 k) big x
noncomputable def spec_OrderOk (a0 : Int) (a1 : Int) (a2 : (List (List (Int)))) (a3 : (List (Int × Int × Int × Int × Int))) (a4 : (List (Int))) : Option (Bool × Unit) :=
 ((spec_RoundOk a0 a1 a2 a3).bind fun y0 => (bif (Bool.not y0.1) then some (false, ()) else ((spec_OrderOk_l0 (a4, a0, a1, a2, a3, ()) ((0 : Int), ())).bind fun q1 => (Sum.elim (fun y2 => some (y2.1, ())) (fun q3 => (Sum.elim (fun y4 => some (true, ())) (fun q5 => (Empty.elim q5)) q3)) q1))))
noncomputable def slices_Index___int_int__b0 (k : (List (Int)) × Int × Int × Unit) (x : Int × Unit) : Option ((Int × Unit) ⊕ (Int × Unit ⊕ (Unit ⊕ Empty))) :=
 (bif (rCmp .lss x.1 k.2.2.1) then (bif (rInR k.1 x.1) then (bif (rCmp .eql k.2.1 (rGet zI k.1 x.1)) then some (.inr (.inl (x.1, ()))) else some (.inl ((rArith .add .i64 x.1 (1 : Int)), ()))) else none) else some (.inr (.inr (.inl (())))))
noncomputable def slices_Index___int_int__l0 (k : (List (Int)) × Int × Int × Unit) (x : Int × Unit) : Option (Int × Unit ⊕ (Unit ⊕ Empty)) := iter (slices_Index___int_int__b0 k) big x
noncomputable def slices_Index___int_int_ (a0 : (List (Int))) (a1 : Int) : Option (Int × Unit) :=
 ((slices_Index___int_int__l0 (a0, a1, (rLen a0), ()) ((0 : Int), ())).bind fun q0 => (Sum.elim (fun y1 => some (y1.1, ())) (fun q2 => (Sum.elim (fun y3 => some ((-1 : Int), ())) (fun q4 => (Empty.elim q4)) q2)) q0))
noncomputable def slices_Contains___int_int_ (a0 : (List (Int))) (a1 : Int) : Option (Bool × Unit) :=
 ((slices_Index___int_int_ a0 a1).bind fun y0 => some ((rCmp .geq y0.1 (0 : Int)), ()))
noncomputable def impl_OrderOk_b0 (k : (List (Int)) × Int × Int × (List (List (Int))) × (List (Int × Int × Int × Int × Int)) × (List (Int)) × Int × Unit) (x : Int × Unit) : Option ((Int × Unit) ⊕ (Bool × Unit ⊕ (Unit ⊕ Empty))) :=
 (bif (rCmp .lss x.1 k.2.2.2.2.2.2.1) then (bif (rInR k.2.2.2.2.2.1 x.1) then ((impl_within (rGet zI k.2.2.2.2.2.1 x.1) (0 : Int) (rArith .sub .i64 (rLen k.2.2.2.2.1) (1 : Int))).bind fun y0 => (bif (Bool.not y0.1) then some (.inr (.inl (false, ()))) else (bif (rSubOk k.1 (0 : Int) x.1) then ((slices_Contains___int_int_ (rSub k.1 (0 : Int) x.1) (rGet zI k.2.2.2.2.2.1 x.1)).bind fun y1 => (bif y1.1 then some (.inr (.inl (false, ()))) else some (.inl ((rArith .add .i64 x.1 (1 : Int)), ())))) else none))) else none) else some (.inr (.inr (.inl (())))))
noncomputable def impl_OrderOk_l0 (k : (List (Int)) × Int × Int × (List (List (Int))) × (List (Int × Int × Int × Int × Int)) × (List (Int)) × Int × Unit) (x : Int × Unit) : Option (Bool × Unit ⊕ (Unit ⊕ Empty)) := iter (impl_OrderOk_b0 k) big x
noncomputable def impl_OrderOk (a0 : Int) (a1 : Int) (a2 : (List (List (Int)))) (a3 : (List (Int × Int × Int × Int × Int))) (a4 : (List (Int))) : Option (Bool × Unit) :=
 ((impl_RoundOk a0 a1 a2 a3).bind fun y0 => (bif (Bool.not y0.1) then some (false, ()) else ((impl_OrderOk_l0 (a4, a0, a1, a2, a3, a4, (rLen a4), ()) ((0 : Int), ())).bind fun q1 => (Sum.elim (fun y2 => some (y2.1, ())) (fun q3 => (Sum.elim (fun y4 => some (true, ())) (fun q5 => (Empty.elim q5)) q3)) q1))))
noncomputable def spec_l07Drive_b0 (k : (List (Int)) × Int × Int × (List (List (Int))) × (List (Int × Int × Int × Int × Int)) × Unit) (x : (List (Int)) × Int × Int × Int × (List (Int)) × Int × Int × Int × Int × Int × Unit) : Option (((List (Int)) × Int × Int × Int × (List (Int)) × Int × Int × Int × Int × Int × Unit) ⊕ ((List (Int)) × Int × Int × Int × (List (Int)) × Int × Int × Int × Int × Unit ⊕ Empty)) :=
 (bif (rCmp .lss x.2.2.2.2.2.2.2.2.2.1 (rLen k.1)) then (bif (rInR k.1 x.2.2.2.2.2.2.2.2.2.1) then (bif (rInR k.2.2.2.2.1 (rGet zI k.1 x.2.2.2.2.2.2.2.2.2.1)) then some (.inl (x.1, x.2.1, x.2.2.1, x.2.2.2.1, x.2.2.2.2.1, x.2.2.2.2.2.1, x.2.2.2.2.2.2.1, x.2.2.2.2.2.2.2.1, (rArith .add .i64 x.2.2.2.2.2.2.2.2.1 (rGet zIIIII k.2.2.2.2.1 (rGet zI k.1 x.2.2.2.2.2.2.2.2.2.1)).2.2.2.1), (rArith .add .i64 x.2.2.2.2.2.2.2.2.2.1 (1 : Int)), ())) else none) else none) else some (.inr (.inl (x.1, x.2.1, x.2.2.1, x.2.2.2.1, x.2.2.2.2.1, x.2.2.2.2.2.1, x.2.2.2.2.2.2.1, x.2.2.2.2.2.2.2.1, x.2.2.2.2.2.2.2.2.1, ()))))
noncomputable def spec_l07Drive_l0 (k : (List (Int)) × Int × Int × (List (List (Int))) × (List (Int × Int × Int × Int × Int)) × Unit) (x : (List (Int)) × Int × Int × Int × (List (Int)) × Int × Int × Int × Int × Int × Unit) : Option ((List (Int)) × Int × Int × Int × (List (Int)) × Int × Int × Int × Int × Unit ⊕ Empty) := iter (spec_l07Drive_b0 k) big x
noncomputable def spec_l07Drive_b2 (k : (List (Int)) × Int × Int × (List (List (Int))) × (List (Int × Int × Int × Int × Int)) × Unit) (x : (List (Int)) × Int × Int × Int × (List (Int)) × Int × Int × Int × Int × Int × Int × Unit) : Option (((List (Int)) × Int × Int × Int × (List (Int)) × Int × Int × Int × Int × Int × Int × Unit) ⊕ ((List (Int)) × Int × Int × Int × Bool × Unit ⊕ ((List (Int)) × Int × Int × Int × (List (Int)) × Int × Int × Int × Int × Unit ⊕ Empty))) :=
 (bif (rCmp .lss x.2.2.2.2.2.2.2.2.2.2.1 (rLen k.1)) then (bif (rInR k.1 x.2.2.2.2.2.2.2.2.2.2.1) then (bif (rInR k.2.2.2.2.1 (rGet zI k.1 x.2.2.2.2.2.2.2.2.2.2.1)) then (bif (rInR k.2.2.2.1 x.2.2.2.2.2.2.2.2.2.1) then (bif (rInR k.1 x.2.2.2.2.2.2.2.2.2.2.1) then (bif (rInR (rGet zLIl k.2.2.2.1 x.2.2.2.2.2.2.2.2.2.1) (rArith .add .i64 (rGet zI k.1 x.2.2.2.2.2.2.2.2.2.2.1) (1 : Int))) then (lets (rCmp .gtr (rArith .add .i64 x.2.2.2.2.2.1 (rGet zI (rGet zLIl k.2.2.2.1 x.2.2.2.2.2.2.2.2.2.1) (rArith .add .i64 (rGet zI k.1 x.2.2.2.2.2.2.2.2.2.2.1) (1 : Int)))) (rGet zIIIII k.2.2.2.2.1 (rGet zI k.1 x.2.2.2.2.2.2.2.2.2.2.1)).2.1) fun v0 => (bif v0 then some (.inr (.inl (x.2.2.2.2.1, x.2.2.2.2.2.1, x.2.2.2.2.2.2.1, x.2.2.2.2.2.2.2.1, false, ()))) else (lets (rMxmn true (rArith .add .i64 x.2.2.2.2.2.1 (rGet zI (rGet zLIl k.2.2.2.1 x.2.2.2.2.2.2.2.2.2.1) (rArith .add .i64 (rGet zI k.1 x.2.2.2.2.2.2.2.2.2.2.1) (1 : Int)))) (rGet zIIIII k.2.2.2.2.1 (rGet zI k.1 x.2.2.2.2.2.2.2.2.2.2.1)).1) fun v1 => (bif (rSmall (List.append (α := Int) x.2.2.2.2.1 (List.append (α := Int) ([] : List (Int)) [v1]))) then (lets (rArith .sub .i64 (rArith .add .i64 x.2.2.2.2.2.2.2.1 v1) (rArith .add .i64 x.2.2.2.2.2.1 (rGet zI (rGet zLIl k.2.2.2.1 x.2.2.2.2.2.2.2.2.2.1) (rArith .add .i64 (rGet zI k.1 x.2.2.2.2.2.2.2.2.2.2.1) (1 : Int))))) fun v2 => (lets (rArith .add .i64 (rArith .sub .i64 x.2.2.2.2.2.2.2.2.1 (rGet zIIIII k.2.2.2.2.1 (rGet zI k.1 x.2.2.2.2.2.2.2.2.2.2.1)).2.2.2.1) (rGet zIIIII k.2.2.2.2.1 (rGet zI k.1 x.2.2.2.2.2.2.2.2.2.2.1)).2.2.2.2) fun v3 => (bif (rInR k.1 x.2.2.2.2.2.2.2.2.2.2.1) then some (.inl (x.1, x.2.1, x.2.2.1, x.2.2.2.1, (List.append (α := Int) x.2.2.2.2.1 (List.append (α := Int) ([] : List (Int)) [v1])), (rArith .add .i64 v1 (rGet zIIIII k.2.2.2.2.1 (rGet zI k.1 x.2.2.2.2.2.2.2.2.2.2.1)).2.2.1), (rMxmn true x.2.2.2.2.2.2.1 v3), v2, v3, (rArith .add .i64 (rGet zI k.1 x.2.2.2.2.2.2.2.2.2.2.1) (1 : Int)), (rArith .add .i64 x.2.2.2.2.2.2.2.2.2.2.1 (1 : Int)), ())) else none))) else none)))) else none) else none) else none) else none) else none) else some (.inr (.inr (.inl (x.1, x.2.1, x.2.2.1, x.2.2.2.1, x.2.2.2.2.1, x.2.2.2.2.2.1, x.2.2.2.2.2.2.1, x.2.2.2.2.2.2.2.1, x.2.2.2.2.2.2.2.2.2.1, ())))))
noncomputable def spec_l07Drive_l2 (k : (List (Int)) × Int × Int × (List (List (Int))) × (List (Int × Int × Int × Int × Int)) × Unit) (x : (List (Int)) × Int × Int × Int × (List (Int)) × Int × Int × Int × Int × Int × Int × Unit) : Option ((List (Int)) × Int × Int × Int × Bool × Unit ⊕ ((List (Int)) × Int × Int × Int × (List (Int)) × Int × Int × Int × Int × Unit ⊕ Empty)) := iter (spec_l07Drive_b2 k) big x
noncomputable def spec_l07Drive (a0 : Int) (a1 : Int) (a2 : (List (List (Int)))) (a3 : (List (Int × Int × Int × Int × Int))) (a4 : (List (Int))) : Option ((List (Int)) × Int × Int × Int × Bool × Unit) :=
 ((spec_OrderOk a0 a1 a2 a3 a4).bind fun y0 => (bif (Bool.not y0.1) then some (([] : List (Int)), a0, (0 : Int), (0 : Int), false, ()) else ((spec_l07Drive_l0 (a4, a0, a1, a2, a3, ()) (([] : List (Int)), (0 : Int), (0 : Int), (0 : Int), ([] : List (Int)), a0, (0 : Int), (0 : Int), (0 : Int), (0 : Int), ())).bind fun q1 => (Sum.elim (fun y2 => ((spec_l07Drive_l2 (a4, a0, a1, a2, a3, ()) (y2.1, y2.2.1, y2.2.2.1, y2.2.2.2.1, y2.2.2.2.2.1, y2.2.2.2.2.2.1, y2.2.2.2.2.2.2.2.2.1, y2.2.2.2.2.2.2.2.1, y2.2.2.2.2.2.2.2.2.1, (0 : Int), (0 : Int), ())).bind fun q3 => (Sum.elim (fun y4 => some (y4.1, y4.2.1, y4.2.2.1, y4.2.2.2.1, y4.2.2.2.2.1, ())) (fun q5 => (Sum.elim (fun y6 => (bif (rCmp .gtr (rLen a4) (0 : Int)) then (bif (rInR a2 y6.2.2.2.2.2.2.2.2.1) then (bif (rInR (rGet zLIl a2 y6.2.2.2.2.2.2.2.2.1) (0 : Int)) then some (y6.2.2.2.2.1, (rArith .add .i64 y6.2.2.2.2.2.1 (rGet zI (rGet zLIl a2 y6.2.2.2.2.2.2.2.2.1) (0 : Int))), y6.2.2.2.2.2.2.1, y6.2.2.2.2.2.2.2.1, (rCmp .leq y6.2.2.2.2.2.2.1 a1), ()) else none) else none) else some (y6.2.2.2.2.1, y6.2.2.2.2.2.1, y6.2.2.2.2.2.2.1, y6.2.2.2.2.2.2.2.1, (rCmp .leq y6.2.2.2.2.2.2.1 a1), ()))) (fun q7 => (Empty.elim q7)) q5)) q3))) (fun q3 => (Empty.elim q3)) q1))))
noncomputable def impl_ride_b0 (k : (List (Int)) × Int × Int × (List (List (Int))) × (List (Int × Int × Int × Int × Int)) × (List (Int)) × Int × Unit) (x : (List (Int)) × Int × Int × Int × Int × Int × Unit) : Option (((List (Int)) × Int × Int × Int × Int × Int × Unit) ⊕ ((List (Int)) × Int × Int × Int × Int × Unit ⊕ Empty)) :=
 (bif (rCmp .lss x.2.2.2.2.2.1 k.2.2.2.2.2.2.1) then (bif (rInR k.2.2.2.2.2.1 x.2.2.2.2.2.1) then (bif (rInR k.2.2.2.2.1 (rGet zI k.2.2.2.2.2.1 x.2.2.2.2.2.1)) then some (.inl (x.1, x.2.1, x.2.2.1, x.2.2.2.1, (rArith .add .i64 x.2.2.2.2.1 (rGet zIIIII k.2.2.2.2.1 (rGet zI k.2.2.2.2.2.1 x.2.2.2.2.2.1)).2.2.2.1), (rArith .add .i64 x.2.2.2.2.2.1 (1 : Int)), ())) else none) else none) else some (.inr (.inl (x.1, x.2.1, x.2.2.1, x.2.2.2.1, x.2.2.2.2.1, ()))))
noncomputable def impl_ride_l0 (k : (List (Int)) × Int × Int × (List (List (Int))) × (List (Int × Int × Int × Int × Int)) × (List (Int)) × Int × Unit) (x : (List (Int)) × Int × Int × Int × Int × Int × Unit) : Option ((List (Int)) × Int × Int × Int × Int × Unit ⊕ Empty) := iter (impl_ride_b0 k) big x
noncomputable def impl_ride_b2 (k : (List (Int)) × Int × Int × (List (List (Int))) × (List (Int × Int × Int × Int × Int)) × (List (Int)) × Int × Unit) (x : (List (Int)) × Int × Int × Int × Int × (List (Int)) × Int × Int × Int × Int × Int × Unit) : Option (((List (Int)) × Int × Int × Int × Int × (List (Int)) × Int × Int × Int × Int × Int × Unit) ⊕ ((List (Int)) × Int × Int × Int × Bool × Unit ⊕ ((List (Int)) × Int × Int × Int × (List (Int)) × Int × Int × Int × Int × Unit ⊕ Empty))) :=
 (bif (rCmp .lss x.2.2.2.2.2.2.2.2.2.2.1 k.2.2.2.2.2.2.1) then (bif (rInR k.2.2.2.2.2.1 x.2.2.2.2.2.2.2.2.2.2.1) then (bif (rInR k.2.2.2.2.1 (rGet zI k.2.2.2.2.2.1 x.2.2.2.2.2.2.2.2.2.2.1)) then (bif (rInR k.2.2.2.1 x.2.2.2.2.2.2.2.2.2.1) then (bif (rInR (rGet zLIl k.2.2.2.1 x.2.2.2.2.2.2.2.2.2.1) (rArith .add .i64 (rGet zI k.2.2.2.2.2.1 x.2.2.2.2.2.2.2.2.2.2.1) (1 : Int))) then (lets (rArith .add .i64 x.2.2.2.2.2.2.1 (rGet zI (rGet zLIl k.2.2.2.1 x.2.2.2.2.2.2.2.2.2.1) (rArith .add .i64 (rGet zI k.2.2.2.2.2.1 x.2.2.2.2.2.2.2.2.2.2.1) (1 : Int)))) fun v0 => (bif (rCmp .gtr v0 (rGet zIIIII k.2.2.2.2.1 (rGet zI k.2.2.2.2.2.1 x.2.2.2.2.2.2.2.2.2.2.1)).2.1) then some (.inr (.inl (([] : List (Int)), (0 : Int), (0 : Int), (0 : Int), false, ()))) else (bif (rSmall (List.append (α := Int) x.2.2.2.2.2.1 (List.append (α := Int) ([] : List (Int)) [(rMxmn true v0 (rGet zIIIII k.2.2.2.2.1 (rGet zI k.2.2.2.2.2.1 x.2.2.2.2.2.2.2.2.2.2.1)).1)]))) then (lets (rArith .sub .i64 (rGet zIIIII k.2.2.2.2.1 (rGet zI k.2.2.2.2.2.1 x.2.2.2.2.2.2.2.2.2.2.1)).2.2.2.2 (rGet zIIIII k.2.2.2.2.1 (rGet zI k.2.2.2.2.2.1 x.2.2.2.2.2.2.2.2.2.2.1)).2.2.2.1) fun v1 => (lets (rArith .add .i64 (rMxmn true v0 (rGet zIIIII k.2.2.2.2.1 (rGet zI k.2.2.2.2.2.1 x.2.2.2.2.2.2.2.2.2.2.1)).1) (rGet zIIIII k.2.2.2.2.1 (rGet zI k.2.2.2.2.2.1 x.2.2.2.2.2.2.2.2.2.2.1)).2.2.1) fun v2 => some (.inl (x.1, x.2.1, x.2.2.1, x.2.2.2.1, (rArith .add .i64 x.2.2.2.2.1 v1), (List.append (α := Int) x.2.2.2.2.2.1 (List.append (α := Int) ([] : List (Int)) [(rMxmn true v0 (rGet zIIIII k.2.2.2.2.1 (rGet zI k.2.2.2.2.2.1 x.2.2.2.2.2.2.2.2.2.2.1)).1)])), v2, (rMxmn true x.2.2.2.2.2.2.2.1 (rArith .add .i64 x.2.2.2.2.1 v1)), (rArith .add .i64 x.2.2.2.2.2.2.2.2.1 (rArith .sub .i64 (rMxmn true v0 (rGet zIIIII k.2.2.2.2.1 (rGet zI k.2.2.2.2.2.1 x.2.2.2.2.2.2.2.2.2.2.1)).1) v0)), (rArith .add .i64 (rGet zI k.2.2.2.2.2.1 x.2.2.2.2.2.2.2.2.2.2.1) (1 : Int)), (rArith .add .i64 x.2.2.2.2.2.2.2.2.2.2.1 (1 : Int)), ())))) else none))) else none) else none) else none) else none) else some (.inr (.inr (.inl (x.1, x.2.1, x.2.2.1, x.2.2.2.1, x.2.2.2.2.2.1, x.2.2.2.2.2.2.1, x.2.2.2.2.2.2.2.1, x.2.2.2.2.2.2.2.2.1, x.2.2.2.2.2.2.2.2.2.1, ())))))
noncomputable def impl_ride_l2 (k : (List (Int)) × Int × Int × (List (List (Int))) × (List (Int × Int × Int × Int × Int)) × (List (Int)) × Int × Unit) (x : (List (Int)) × Int × Int × Int × Int × (List (Int)) × Int × Int × Int × Int × Int × Unit) : Option ((List (Int)) × Int × Int × Int × Bool × Unit ⊕ ((List (Int)) × Int × Int × Int × (List (Int)) × Int × Int × Int × Int × Unit ⊕ Empty)) := iter (impl_ride_b2 k) big x
noncomputable def impl_ride (a0 : Int) (a1 : Int) (a2 : (List (List (Int)))) (a3 : (List (Int × Int × Int × Int × Int))) (a4 : (List (Int))) : Option ((List (Int)) × Int × Int × Int × Bool × Unit) :=
 ((impl_OrderOk a0 a1 a2 a3 a4).bind fun y0 => (bif (Bool.not y0.1) then some (([] : List (Int)), (0 : Int), (0 : Int), (0 : Int), false, ()) else ((impl_ride_l0 (a4, a0, a1, a2, a3, a4, (rLen a4), ()) (([] : List (Int)), (0 : Int), (0 : Int), (0 : Int), (0 : Int), (0 : Int), ())).bind fun q1 => (Sum.elim (fun y2 => ((impl_ride_l2 (a4, a0, a1, a2, a3, a4, (rLen a4), ()) (y2.1, y2.2.1, y2.2.2.1, y2.2.2.2.1, y2.2.2.2.2.1, ([] : List (Int)), a0, y2.2.2.2.2.1, (0 : Int), (0 : Int), (0 : Int), ())).bind fun q3 => (Sum.elim (fun y4 => some (y4.1, y4.2.1, y4.2.2.1, y4.2.2.2.1, y4.2.2.2.2.1, ())) (fun q5 => (Sum.elim (fun y6 => (bif (rInR a2 y6.2.2.2.2.2.2.2.2.1) then (bif (rInR (rGet zLIl a2 y6.2.2.2.2.2.2.2.2.1) (0 : Int)) then (bif (rCmp .gtr y6.2.2.2.2.2.2.1 a1) then some (([] : List (Int)), (0 : Int), (0 : Int), (0 : Int), false, ()) else some (y6.2.2.2.2.1, (rArith .add .i64 y6.2.2.2.2.2.1 (rArith .mul .i64 (rGet zI (rGet zLIl a2 y6.2.2.2.2.2.2.2.2.1) (0 : Int)) (rMxmn false (1 : Int) (rLen a4)))), y6.2.2.2.2.2.2.1, y6.2.2.2.2.2.2.2.1, true, ())) else none) else none)) (fun q7 => (Empty.elim q7)) q5)) q3))) (fun q3 => (Empty.elim q3)) q1))))
end Go.Fn
set_option linter.unusedVariables false
namespace Go.Fn
open Go.R
noncomputable def spec_l07Orders_b0 (rec : (List (List (Int))) → (List (Int)) → Int → Option ((List (List (Int))) × Unit)) (k : (List (Int)) × Int × Unit) (x : (List (List (Int))) × Int × Unit) : Option (((List (List (Int))) × Int × Unit) ⊕ ((List (List (Int))) × Unit ⊕ Empty)) :=
 (bif (rCmp .lss x.2.1 k.2.1) then ((spec_l02Has k.1 x.2.1).bind fun y0 => (bif (Bool.not y0.1) then (bif (rSmall (List.append (α := Int) ([] : List (Int)) k.1)) then (bif (rSmall (List.append (α := Int) (List.append (α := Int) ([] : List (Int)) k.1) (List.append (α := Int) ([] : List (Int)) [x.2.1]))) then ((rec x.1 (List.append (α := Int) (List.append (α := Int) ([] : List (Int)) k.1) (List.append (α := Int) ([] : List (Int)) [x.2.1])) k.2.1).bind fun y1 => some (.inl (y1.1, (rArith .add .i64 x.2.1 (1 : Int)), ()))) else none) else none) else some (.inl (x.1, (rArith .add .i64 x.2.1 (1 : Int)), ())))) else some (.inr (.inl (x.1, ()))))
noncomputable def spec_l07Orders_l0 (rec : (List (List (Int))) → (List (Int)) → Int → Option ((List (List (Int))) × Unit)) (k : (List (Int)) × Int × Unit) (x : (List (List (Int))) × Int × Unit) : Option ((List (List (Int))) × Unit ⊕ Empty) := iter (spec_l07Orders_b0 rec k) big x
noncomputable def spec_l07Orders_r (rec : (List (List (Int))) → (List (Int)) → Int → Option ((List (List (Int))) × Unit)) (a0 : (List (List (Int)))) (a1 : (List (Int))) (a2 : Int) : Option ((List (List (Int))) × Unit) :=
 (bif (rSmall (List.append (α := List (Int)) a0 (List.append (α := List (Int)) ([] : List (List (Int))) [a1]))) then ((spec_l07Orders_l0 rec (a1, a2, ()) ((List.append (α := List (Int)) a0 (List.append (α := List (Int)) ([] : List (List (Int))) [a1])), (0 : Int), ())).bind fun q0 => (Sum.elim (fun y1 => some (y1.1, ())) (fun q2 => (Empty.elim q2)) q0)) else none)
noncomputable def spec_l07Orders_f : Nat → (List (List (Int))) → (List (Int)) → Int → Option ((List (List (Int))) × Unit) | 0 => fun _ _ _ => none | n + 1 => spec_l07Orders_r (spec_l07Orders_f n)
noncomputable def spec_l07Orders (a0 : (List (List (Int)))) (a1 : (List (Int))) (a2 : Int) : Option ((List (List (Int))) × Unit) := spec_l07Orders_f big a0 a1 a2
noncomputable def spec_Ride (a0 : Int) (a1 : Int) (a2 : (List (List (Int)))) (a3 : (List (Int × Int × Int × Int × Int))) (a4 : (List (Int))) : Option ((List (Int)) × Int × Bool × Unit) :=
 ((spec_l07Drive a0 a1 a2 a3 a4).bind fun y0 => (bif (Bool.not y0.2.2.2.2.1) then some (([] : List (Int)), (0 : Int), false, ()) else some (y0.1, y0.2.1, true, ())))
noncomputable def spec_l07Best_b0 (k : Int × Int × Int × (List (List (Int))) × (List (Int × Int × Int × Int × Int)) × Unit) (x : (List (Int)) × Int × Bool × (List (List (Int))) × Int × Unit) : Option (((List (Int)) × Int × Bool × (List (List (Int))) × Int × Unit) ⊕ ((List (Int)) × Int × Bool × Unit ⊕ Empty)) :=
 (bif (rCmp .lss x.2.2.2.2.1 (rLen x.2.2.2.1)) then (bif (rInR x.2.2.2.1 x.2.2.2.2.1) then (bif (rCmp .lss (rLen (rGet zLIl x.2.2.2.1 x.2.2.2.2.1)) k.1) then some (.inl (x.1, x.2.1, x.2.2.1, x.2.2.2.1, (rArith .add .i64 x.2.2.2.2.1 (1 : Int)), ())) else (bif (rInR x.2.2.2.1 x.2.2.2.2.1) then ((spec_Ride k.2.1 k.2.2.1 k.2.2.2.1 k.2.2.2.2.1 (rGet zLIl x.2.2.2.1 x.2.2.2.2.1)).bind fun y0 => (bif y0.2.2.1 then (bif (Bool.not x.2.2.1) then (bif (rInR x.2.2.2.1 x.2.2.2.2.1) then some (.inl ((rGet zLIl x.2.2.2.1 x.2.2.2.2.1), y0.2.1, true, x.2.2.2.1, (rArith .add .i64 x.2.2.2.2.1 (1 : Int)), ())) else none) else (bif (rInR x.2.2.2.1 x.2.2.2.2.1) then (bif (rCmp .gtr (rLen (rGet zLIl x.2.2.2.1 x.2.2.2.2.1)) (rLen x.1)) then (bif (rInR x.2.2.2.1 x.2.2.2.2.1) then some (.inl ((rGet zLIl x.2.2.2.1 x.2.2.2.2.1), y0.2.1, true, x.2.2.2.1, (rArith .add .i64 x.2.2.2.2.1 (1 : Int)), ())) else none) else (bif (rInR x.2.2.2.1 x.2.2.2.2.1) then (bif (rCmp .eql (rLen (rGet zLIl x.2.2.2.1 x.2.2.2.2.1)) (rLen x.1)) then (bif (rCmp .lss y0.2.1 x.2.1) then (bif (rInR x.2.2.2.1 x.2.2.2.2.1) then some (.inl ((rGet zLIl x.2.2.2.1 x.2.2.2.2.1), y0.2.1, true, x.2.2.2.1, (rArith .add .i64 x.2.2.2.2.1 (1 : Int)), ())) else none) else some (.inl (x.1, x.2.1, x.2.2.1, x.2.2.2.1, (rArith .add .i64 x.2.2.2.2.1 (1 : Int)), ()))) else some (.inl (x.1, x.2.1, x.2.2.1, x.2.2.2.1, (rArith .add .i64 x.2.2.2.2.1 (1 : Int)), ()))) else none)) else none)) else some (.inl (x.1, x.2.1, x.2.2.1, x.2.2.2.1, (rArith .add .i64 x.2.2.2.2.1 (1 : Int)), ())))) else none)) else none) else some (.inr (.inl (x.1, x.2.1, x.2.2.1, ()))))
noncomputable def spec_l07Best_l0 (k : Int × Int × Int × (List (List (Int))) × (List (Int × Int × Int × Int × Int)) × Unit) (x : (List (Int)) × Int × Bool × (List (List (Int))) × Int × Unit) : Option ((List (Int)) × Int × Bool × Unit ⊕ Empty) := iter (spec_l07Best_b0 k) big x
noncomputable def spec_l07Best (a0 : Int) (a1 : Int) (a2 : (List (List (Int)))) (a3 : (List (Int × Int × Int × Int × Int))) (a4 : Int) : Option ((List (Int)) × Int × Bool × Unit) :=
 ((spec_RoundOk a0 a1 a2 a3).bind fun y0 => (bif (Bool.not y0.1) then some (([] : List (Int)), (0 : Int), false, ()) else ((spec_l07Orders ([] : List (List (Int))) ([] : List (Int)) (rLen a3)).bind fun y1 => ((spec_l07Best_l0 (a4, a0, a1, a2, a3, ()) (([] : List (Int)), (0 : Int), false, y1.1, (0 : Int), ())).bind fun q2 => (Sum.elim (fun y3 => (bif (Bool.not y3.2.2.1) then some (([] : List (Int)), (0 : Int), false, ()) else some (y3.1, y3.2.1, true, ()))) (fun q4 => (Empty.elim q4)) q2)))))
noncomputable def spec_MostRide (a0 : Int) (a1 : Int) (a2 : (List (List (Int)))) (a3 : (List (Int × Int × Int × Int × Int))) : Option ((List (Int)) × Int × Bool × Unit) :=
 ((spec_l07Best a0 a1 a2 a3 (0 : Int)).bind fun y0 => some (y0.1, y0.2.1, y0.2.2.1, ()))
end Go.Fn
set_option linter.unusedVariables false
namespace Go.Fn
open Go.R
noncomputable def cmp_isNaN_int_ (a0 : Int) : Option (Bool × Unit) :=
 some ((rCmp .neq a0 a0), ())
noncomputable def cmp_Compare_int_ (a0 : Int) (a1 : Int) : Option (Int × Unit) :=
 ((cmp_isNaN_int_ a0).bind fun y0 => ((cmp_isNaN_int_ a1).bind fun y1 => (bif y0.1 then (bif y1.1 then some ((0 : Int), ()) else some ((-1 : Int), ())) else (bif y1.1 then some ((1 : Int), ()) else (bif (rCmp .lss a0 a1) then some ((-1 : Int), ()) else (bif (rCmp .gtr a0 a1) then some ((1 : Int), ()) else some ((0 : Int), ())))))))
end Go.Fn
namespace Go.Fn
open Go.R
abbrev Ev := Int × Int × Int × Int × Int × Int × Int
noncomputable def inB (a lo hi : Int) : Bool := bif decide (a ≥ lo) then decide (a ≤ hi) else false
theorem within_eq (a lo hi : Int) : impl_within a lo hi = some (inB a lo hi, ()) := by
 unfold impl_within inB
 simp only [rCmp]
 cases decide (a ≥ lo) <;> rfl
theorem in_eq (a lo hi : Int) : spec_l01In a lo hi = some (inB a lo hi, ()) := within_eq a lo hi
theorem timeOk_eq (a : Int) : impl_timeOk a = some (inB a 0 20000, ()) := by unfold impl_timeOk; rw [within_eq]; rfl
noncomputable def evOk (e : Ev) : Bool := bif inB e.1 0 5 then bif inB e.2.1 1 999 then bif inB e.2.2.1 1 100000 then bif inB e.2.2.2.1 1 4 then bif inB e.2.2.2.2.1 1 999 then bif inB e.2.2.2.2.2.1 0 20000 then inB e.2.2.2.2.2.2 0 20000 else false else false else false else false else false else false
noncomputable def ordOk (p e : Ev) : Bool := !(decide (e.1 < p.1) || (decide (e.1 = p.1) && (decide (e.2.1 ≤ p.2.1) || decide (e.2.2.1 ≤ p.2.2.1))))
noncomputable def jokAt (l : List Ev) : Nat → Bool
 | 0 => evOk (l.getD 0 zIIIIIII)
 | n + 1 => evOk (l.getD (n + 1) zIIIIIII) && ordOk (l.getD n zIIIIIII) (l.getD (n + 1) zIIIIIII)
noncomputable def jok (l : List Ev) : Bool := bif decide (60 < l.length) then false else allFrom (jokAt l) 0 l.length
theorem neq_self (a : Int) : rCmp .neq a a = false := by simp [rCmp]
end Go.Fn
set_option linter.unusedSimpArgs false
namespace Go.Fn
open Go.R
theorem toIntS_eq (l : List Int) (hl : l.length ≤ 1073741824) : laws_toIntS l = some (l, ()) := by
 unfold laws_toIntS
 rw [repOk_len hl]
 have hloop : laws_toIntS_l0 (l, ()) (List.replicate l.length 0, (0 : Int), ()) = some (Sum.inl (l, ())) := by
  have := loop_end (body := laws_toIntS_b0 (l, ())) (fun n => (l.take n ++ List.replicate (l.length - n) 0, (n : Int), ())) l.length (by omega) (Sum.inl (l, ())) (fun n hn => ?_) ?_
  ·unfold laws_toIntS_l0; simpa using this
  ·unfold laws_toIntS_b0
   have hx : n < (l.take n ++ List.replicate (l.length - n) (0 : Int)).length := by rw [fill_len _ _ (Nat.le_of_lt hn)]; exact hn
   simp only [lss_len, inR_nat, hn, hx, decide_true, cond_true, get_nat, succ64 (n := n) (by omega), put_nat]
   rw [← set_fill l 0 hn, getD_lt hn zI 0]
  ·unfold laws_toIntS_b0
   simp only [lss_len, Nat.lt_irrefl, decide_false, cond_false, Nat.sub_self, List.replicate_zero, List.append_nil, List.take_length]
 have hr : rRep (rLen l) (0 : Int) = List.replicate l.length 0 := rep_nat _ _
 rw [hr]
 simp only [cond_true]
 rw [hloop]
 rfl
theorem eqIntS_self (l : List Int) (hl : l.length ≤ 1073741824) : laws_eqIntS l l = some (true, ()) := by
 unfold laws_eqIntS
 rw [neq_self]
 have hloop : laws_eqIntS_l0 (l, l, ()) ((0 : Int), ()) = some (Sum.inr (Sum.inl ())) := by
  refine loop_end (fun n => ((n : Int), ())) l.length (by omega) _ (fun n hn => ?_) ?_
  ·unfold laws_eqIntS_b0
   simp only [lss_len, inR_nat, hn, decide_true, cond_true, neq_self, succ64 (n := n) (by omega)]
   rfl
  ·unfold laws_eqIntS_b0
   simp only [lss_len, Nat.lt_irrefl, decide_false, cond_false]
 simp only [cond_false]
 rw [hloop]
 rfl
theorem add1 {a : Int} (h0 : 0 ≤ a) (h1 : a ≤ 4611686018427387904) : rArith .add .i64 a 1 = a + 1 := add64 (by omega) (by omega)
noncomputable def fillF {α : Type} (l : List α) (f : Nat → α) (n : Nat) : List α := (List.range n).map f ++ l.drop n
theorem fillF_len {α : Type} (l : List α) (f : Nat → α) {n : Nat} (h : n ≤ l.length) : (fillF l f n).length = l.length := by
 simp only [fillF, List.length_append, List.length_map, List.length_range, List.length_drop]; omega
theorem fillF_set {α : Type} (l : List α) (f : Nat → α) {n : Nat} (h : n < l.length) : (fillF l f n).set n (f n) = fillF l f (n + 1) := by
 unfold fillF
 have h1 : ((List.range n).map f).length = n := by simp
 rw [List.set_append, if_neg (by omega), h1, Nat.sub_self, List.range_succ, List.map_append, List.append_assoc]
 congr 1
 rw [List.drop_eq_getElem_cons h]
 rfl
theorem fillF_get {α : Type} (f : Nat → α) (k : Nat) {n : Nat} (h : n < k) (z : α) : ((List.range k).map f).getD n z = f n := by
 rw [List.getD_eq_getElem?_getD, List.getElem?_map, List.getElem?_range h]; rfl
noncomputable def marksI (k : Int) (n : Nat) : List Int := (List.range n).map fun i : Nat => k + (i : Int)
theorem markIntS_eq (l : List Int) (k : Int) (hl : l.length ≤ 1073741824) (h0 : 0 ≤ k) (h1 : k ≤ 1125899906842624) : laws_markIntS l k = some (k + (l.length : Int), marksI k l.length, ()) := by
 unfold laws_markIntS
 have hloop : laws_markIntS_l0 () (l, k, (0 : Int), ()) = some (Sum.inl (marksI k l.length, k + (l.length : Int), ())) := by
  have := loop_end (body := laws_markIntS_b0 ()) (fun n => (fillF l (fun i => k + (i : Int)) n, k + (n : Int), (n : Int), ())) l.length (by omega) (Sum.inl (marksI k l.length, k + (l.length : Int), ())) (fun n hn => ?_) ?_
  ·unfold laws_markIntS_l0
   have e0 : fillF l (fun i => k + (i : Int)) 0 = l := by simp [fillF]
   simp only [e0] at this
   simpa using this
  ·unfold laws_markIntS_b0
   have hx : n < (fillF l (fun i => k + (i : Int)) n).length := by rw [fillF_len _ _ (Nat.le_of_lt hn)]; exact hn
   simp only [lss_len, inR_nat, hx, decide_true, cond_true, succ64 (n := n) (by omega), put_nat]
   rw [add1 (by omega) (by omega), ← fillF_set _ _ hn]
   have : k + (n : Int) + 1 = k + ((n + 1 : Nat) : Int) := by omega
   rw [this]
  ·unfold laws_markIntS_b0
   have hx : (fillF l (fun i => k + (i : Int)) l.length).length = l.length := fillF_len _ _ (Nat.le_refl _)
   simp only [lss_len, hx, Nat.lt_irrefl, decide_false, cond_false]
   simp [fillF, marksI]
 rw [hloop]
 rfl
theorem heldIntS_eq (n : Nat) (k : Int) (hl : n ≤ 1073741824) (h0 : 0 ≤ k) (h1 : k ≤ 1125899906842624) : laws_heldIntS (marksI k n) k = some (k + (n : Int), ()) := by
 unfold laws_heldIntS
 have hlen : (marksI k n).length = n := by simp [marksI]
 have hloop : laws_heldIntS_l0 (marksI k n, ()) (k, (0 : Int), ()) = some (Sum.inr (Sum.inl (k + (n : Int), ()))) := by
  have := loop_end (body := laws_heldIntS_b0 (marksI k n, ())) (fun m => (k + (m : Int), (m : Int), ())) n (by omega) (Sum.inr (Sum.inl (k + (n : Int), ()))) (fun m hm => ?_) ?_
  ·unfold laws_heldIntS_l0; simpa using this
  ·unfold laws_heldIntS_b0
   have hg : (marksI k n).getD m zI = k + (m : Int) := fillF_get _ _ hm _
   simp only [lss_len, hlen, inR_nat, hm, decide_true, cond_true, get_nat, hg, neq_self, cond_false, succ64 (n := m) (by omega)]
   rw [add1 (by omega) (by omega)]
   have : k + (m : Int) + 1 = k + ((m + 1 : Nat) : Int) := by omega
   rw [this]
  ·unfold laws_heldIntS_b0
   simp only [lss_len, hlen, Nat.lt_irrefl, decide_false, cond_false]
 rw [hloop]
 rfl
theorem jok_len {l : List Ev} (h : jok l = true) : l.length ≤ 60 := by
 unfold jok at h
 cases hd : decide (60 < l.length) with
 | true => rw [hd] at h; cases h
 | false => have := of_decide_eq_false hd; omega
theorem jok_at {l : List Ev} (h : jok l = true) {n : Nat} (hn : n < l.length) : jokAt l n = true := by
 have h60 := jok_len h
 unfold jok at h
 rw [decide_eq_false (by omega)] at h
 exact (allFrom_iff _ _).1 h n (Nat.zero_le _) (by omega)
theorem inB_iff {a lo hi : Int} : inB a lo hi = true ↔ lo ≤ a ∧ a ≤ hi := by
 unfold inB
 by_cases h : lo ≤ a
 ·rw [decide_eq_true (show a ≥ lo from h)]; simp [h]
 ·rw [decide_eq_false (show ¬ a ≥ lo from h)]; simp [h]
theorem inR_iff {α : Type} {l : List α} {i : Int} (h0 : 0 ≤ i) (h1 : i < (l.length : Int)) : rInR l i = true := by
 unfold rInR; rw [Bool.and_eq_true]; exact ⟨decide_eq_true h0, decide_eq_true h1⟩
theorem eql_eq {a b : Int} (h : rCmp .eql a b = true) : a = b := by simpa [rCmp] using h
theorem neg_of {a : Int} (h : 0 ≤ a) : rCmp .lss a 0 = false := by simp only [rCmp, decide_eq_false_iff_not]; omega
theorem small_of {α : Type} {l : List α} (h : l.length ≤ 1073741824) : rSmall l = true := by unfold rSmall limit; exact decide_eq_true (by omega)
end Go.Fn
set_option linter.unusedSimpArgs false
namespace Go.Fn
open Go.R
abbrev Spn := Int × Int
theorem gtr_not (a b : Int) : rCmp .gtr a b = Bool.not (rCmp .leq a b) := by
 simp only [rCmp, gt_iff_lt]
 by_cases h : a ≤ b
 ·rw [decide_eq_true h, decide_eq_false (by omega)]; rfl
 ·rw [decide_eq_false h, decide_eq_true (by omega)]; rfl
abbrev Sty := Int × Int × Int × Int
theorem rBeq_self (b : Bool) : rBeq b b = true := by unfold rBeq; simp
end Go.Fn
set_option linter.unusedSimpArgs false
namespace Go.Fn
open Go.R
theorem toStop_eq (a0 a1 a2 a3 a4 : Int) : laws_toStop a0 a1 a2 a3 a4 = some (a0, a1, a2, a3, a4, ()) := rfl
theorem toStopS_eq (l : List (Int × Int × Int × Int × Int)) (hl : l.length ≤ 1073741824) : laws_toStopS l = some (l, ()) := by
 unfold laws_toStopS
 rw [repOk_len hl]
 have hloop : laws_toStopS_l0 (l, ()) (List.replicate l.length (0, 0, 0, 0, 0), (0 : Int), ()) = some (Sum.inl (l, ())) := by
  have := loop_end (body := laws_toStopS_b0 (l, ())) (fun n => (l.take n ++ List.replicate (l.length - n) (0, 0, 0, 0, 0), (n : Int), ())) l.length (by omega) (Sum.inl (l, ())) (fun n hn => ?_) ?_
  ·unfold laws_toStopS_l0; simpa using this
  ·unfold laws_toStopS_b0
   have hx : n < (l.take n ++ List.replicate (l.length - n) ((0, 0, 0, 0, 0) : Int × Int × Int × Int × Int)).length := by rw [fill_len _ _ (Nat.le_of_lt hn)]; exact hn
   simp only [lss_len, inR_nat, hn, hx, decide_true, cond_true, get_nat, toStop_eq, Option.bind_some, succ64 (n := n) (by omega), put_nat]
   rw [← set_fill l (0, 0, 0, 0, 0) hn, getD_lt hn zIIIII (0, 0, 0, 0, 0)]
  ·unfold laws_toStopS_b0
   simp only [lss_len, Nat.lt_irrefl, decide_false, cond_false, Nat.sub_self, List.replicate_zero, List.append_nil, List.take_length]
 have hr : rRep (rLen l) (((0 : Int), (0 : Int), (0 : Int), (0 : Int), (0 : Int))) = List.replicate l.length (0, 0, 0, 0, 0) := rep_nat _ _
 rw [hr]
 simp only [cond_true]
 rw [hloop]
 rfl
theorem eqStop_self (a0 a1 a2 a3 a4 : Int) : laws_eqStop a0 a1 a2 a3 a4 a0 a1 a2 a3 a4 = some (true, ()) := by
 unfold laws_eqStop
 simp only [neq_self, cond_false]
theorem eqStopS_self (l : List (Int × Int × Int × Int × Int)) (hl : l.length ≤ 1073741824) : laws_eqStopS l l = some (true, ()) := by
 unfold laws_eqStopS
 rw [neq_self]
 have hloop : laws_eqStopS_l0 (l, l, ()) ((0 : Int), ()) = some (Sum.inr (Sum.inl ())) := by
  refine loop_end (fun n => ((n : Int), ())) l.length (by omega) _ (fun n hn => ?_) ?_
  ·unfold laws_eqStopS_b0
   simp only [lss_len, inR_nat, hn, decide_true, cond_true, eqStop_self, Option.bind_some, succ64 (n := n) (by omega)]
   rfl
  ·unfold laws_eqStopS_b0
   simp only [lss_len, Nat.lt_irrefl, decide_false, cond_false]
 simp only [cond_false]
 rw [hloop]
 rfl
theorem szStopS_eq (l : List (Int × Int × Int × Int × Int)) (a : Int) (hl : l.length ≤ 9223372036854775807) (ha : 0 ≤ a) (ha' : a ≤ 1048576) : laws_szStopS l a = some (bif decide (a < (l.length : Int)) then -1 else a - (l.length : Int), ()) := by
 unfold laws_szStopS
 have h1 : rArith .sub .i64 a (rLen l) = a - (l.length : Int) := sub64 (by unfold rLen; omega) (by unfold rLen; omega)
 rw [h1]
 have h2 : rCmp .lss (a - (l.length : Int)) 0 = decide (a < (l.length : Int)) := by simp only [rCmp, decide_eq_decide]; omega
 rw [h2]
 cases decide (a < (l.length : Int)) <;> rfl
abbrev Stp := Int × Int × Int × Int × Int
theorem toIntSS_eq (l : List (List Int)) (hl : l.length ≤ 1073741824) (hr : ∀ r ∈ l, r.length ≤ 1073741824) : laws_toIntSS l = some (l, ()) := by
 unfold laws_toIntSS
 rw [repOk_len hl]
 have hloop : laws_toIntSS_l0 (l, ()) (List.replicate l.length [], (0 : Int), ()) = some (Sum.inl (l, ())) := by
  have := loop_end (body := laws_toIntSS_b0 (l, ())) (fun n => (l.take n ++ List.replicate (l.length - n) [], (n : Int), ())) l.length (by omega) (Sum.inl (l, ())) (fun n hn => ?_) ?_
  ·unfold laws_toIntSS_l0; simpa using this
  ·unfold laws_toIntSS_b0
   have hx : n < (l.take n ++ List.replicate (l.length - n) ([] : List Int)).length := by rw [fill_len _ _ (Nat.le_of_lt hn)]; exact hn
   have hrow : (l.getD n zLIl).length ≤ 1073741824 := by
    rw [List.getD_eq_getElem?_getD, List.getElem?_eq_getElem hn]
    exact hr _ (List.getElem_mem hn)
   simp only [lss_len, inR_nat, hn, hx, decide_true, cond_true, get_nat, toIntS_eq _ hrow, Option.bind_some, succ64 (n := n) (by omega), put_nat]
   rw [← set_fill l [] hn, getD_lt hn zLIl []]
  ·unfold laws_toIntSS_b0
   simp only [lss_len, Nat.lt_irrefl, decide_false, cond_false, Nat.sub_self, List.replicate_zero, List.append_nil, List.take_length]
 have hr' : rRep (rLen l) ([] : List Int) = List.replicate l.length [] := rep_nat _ _
 rw [hr']
 simp only [cond_true]
 rw [hloop]
 rfl
theorem eqIntSS_self (l : List (List Int)) (hl : l.length ≤ 1073741824) (hr : ∀ r ∈ l, r.length ≤ 1073741824) : laws_eqIntSS l l = some (true, ()) := by
 unfold laws_eqIntSS
 rw [neq_self]
 have hloop : laws_eqIntSS_l0 (l, l, ()) ((0 : Int), ()) = some (Sum.inr (Sum.inl ())) := by
  refine loop_end (fun n => ((n : Int), ())) l.length (by omega) _ (fun n hn => ?_) ?_
  ·unfold laws_eqIntSS_b0
   have hrow : (l.getD n zLIl).length ≤ 1073741824 := by
    rw [List.getD_eq_getElem?_getD, List.getElem?_eq_getElem hn]
    exact hr _ (List.getElem_mem hn)
   simp only [lss_len, inR_nat, hn, decide_true, cond_true, get_nat, eqIntS_self _ hrow, Option.bind_some, succ64 (n := n) (by omega)]
   rfl
  ·unfold laws_eqIntSS_b0
   simp only [lss_len, Nat.lt_irrefl, decide_false, cond_false]
 simp only [cond_false]
 rw [hloop]
 rfl
theorem szIntS_eq (l : List Int) (a : Int) (hl : l.length ≤ 9223372036854775807) (ha : 0 ≤ a) (ha' : a ≤ 1048576) : laws_szIntS l a = some (bif decide (a < (l.length : Int)) then -1 else a - (l.length : Int), ()) := by
 unfold laws_szIntS
 have h1 : rArith .sub .i64 a (rLen l) = a - (l.length : Int) := sub64 (by unfold rLen; omega) (by unfold rLen; omega)
 rw [h1]
 have h2 : rCmp .lss (a - (l.length : Int)) 0 = decide (a < (l.length : Int)) := by simp only [rCmp, decide_eq_decide]; omega
 rw [h2]
 cases decide (a < (l.length : Int)) <;> rfl
noncomputable def szStep (a : Int) (r : List Int) : Int ⊕ (Int × Unit ⊕ (Int × Unit ⊕ Empty)) := bif decide (a < (r.length : Int)) then .inr (.inl (-1, ())) else .inl (a - (r.length : Int))
theorem szRun : ∀ (l : List (List Int)) (a : Int), 0 ≤ a → ∃ y, runL szStep (fun a => .inr (.inl (a, ()))) l a = y ∧ (y = .inl (-1, ()) ∨ ∃ b, y = .inr (.inl (b, ())) ∧ 0 ≤ b ∧ b ≤ a ∧ ∀ r ∈ l, (r.length : Int) ≤ a)
 | [], a, ha => ⟨_, rfl, .inr ⟨a, rfl, ha, Int.le_refl _, fun r hr => nomatch hr⟩⟩
 | r :: l, a, ha => by
  simp only [runL, szStep]
  cases hd : decide (a < (r.length : Int)) with
  | true => exact ⟨_, rfl, .inl rfl⟩
  | false =>
   have hd := of_decide_eq_false hd
   obtain ⟨y, h1, h2⟩ := szRun l (a - (r.length : Int)) (by omega)
   refine ⟨y, h1, h2.imp id fun ⟨b, q1, q2, q3, q4⟩ => ⟨b, q1, q2, by omega, fun r' hr' => ?_⟩⟩
   cases hr' with
   | head => omega
   | tail _ hm => have := q4 r' hm; omega
theorem szIntSS_eq (l : List (List Int)) (a : Int) (hl : l.length ≤ 9223372036854775807) (hr : ∀ r ∈ l, r.length ≤ 9223372036854775807) (ha : 0 ≤ a) (ha' : a ≤ 1048576) :
  ∃ b, laws_szIntSS l a = some (b, ()) ∧ (b = -1 ∨ (0 ≤ b ∧ b ≤ a ∧ (l.length : Int) ≤ a ∧ ∀ r ∈ l, (r.length : Int) ≤ a)) := by
 unfold laws_szIntSS
 have h1 : rArith .sub .i64 a (rLen l) = a - (l.length : Int) := sub64 (by unfold rLen; omega) (by unfold rLen; omega)
 have h2 : rCmp .lss (a - (l.length : Int)) 0 = decide (a < (l.length : Int)) := by simp only [rCmp, decide_eq_decide]; omega
 rw [h1, h2]
 cases hd : decide (a < (l.length : Int)) with
 | true => exact ⟨-1, rfl, .inl rfl⟩
 | false =>
  have hd := of_decide_eq_false hd
  obtain ⟨y, q1, q2⟩ := szRun l (a - (l.length : Int)) (by omega)
  have hloop : laws_szIntSS_l0 (l, ()) (a - (l.length : Int), (0 : Int), ()) = some y := by
   rw [← q1]
   refine loop_run (body := laws_szIntSS_b0 (l, ())) l zLIl (by omega) (fun a n => (a, (n : Int), ())) szStep _ (fun _ a => 0 ≤ a ∧ a ≤ 1048576) (fun n a hn hi => ⟨?_, fun b hb => ?_⟩) (fun a _ => ?_) (a - (l.length : Int)) ⟨by omega, by omega⟩
   ·have hrow : (l.getD n zLIl).length ≤ 9223372036854775807 := by
     rw [List.getD_eq_getElem?_getD, List.getElem?_eq_getElem hn]
     exact hr _ (List.getElem_mem hn)
    unfold laws_szIntSS_b0 szStep
    simp only [lss_len, inR_nat, hn, decide_true, cond_true, get_nat, szIntS_eq _ _ hrow hi.1 hi.2, Option.bind_some, succ64 (n := n) (by omega)]
    cases hd : decide (a < ((l.getD n zLIl).length : Int)) with
    | true => rfl
    | false =>
     have hd := of_decide_eq_false hd
     simp only [cond_false]
     rw [neg_of (by omega)]
     rfl
   ·unfold szStep at hb
    cases hd : decide (a < ((l.getD n zLIl).length : Int)) with
    | true => rw [hd] at hb; cases hb
    | false =>
     have hd' := of_decide_eq_false hd
     rw [hd] at hb
     injection hb with hb
     subst hb
     exact ⟨by omega, by omega⟩
   ·unfold laws_szIntSS_b0
    simp only [lss_len, Nat.lt_irrefl, decide_false, cond_false]
  simp only [cond_false]
  rw [hloop]
  rcases q2 with rfl | ⟨b, rfl, b1, b2, b3⟩
  ·exact ⟨-1, rfl, .inl rfl⟩
  ·exact ⟨b, rfl, .inr ⟨b1, by omega, by omega, fun r hr => by have := b3 r hr; omega⟩⟩
theorem szRound_eq (a0 a1 : Int) (g : List (List Int)) (s : List Stp) (a : Int) (hg : g.length ≤ 9223372036854775807) (hr : ∀ r ∈ g, r.length ≤ 9223372036854775807) (hs : s.length ≤ 9223372036854775807) (ha : 0 ≤ a) (ha' : a ≤ 1048576) :
  ∃ b, laws_szRound a0 a1 g s a = some (b, ()) ∧ (b = -1 ∨ (0 ≤ b ∧ b ≤ a ∧ (g.length : Int) ≤ a ∧ (∀ r ∈ g, (r.length : Int) ≤ a) ∧ (s.length : Int) ≤ a)) := by
 unfold laws_szRound
 obtain ⟨b, h1, h2⟩ := szIntSS_eq g a hg hr ha ha'
 rw [h1]
 simp only [Option.bind_some]
 rcases h2 with rfl | ⟨q1, q2, q3, q4⟩
 ·exact ⟨-1, rfl, .inl rfl⟩
 ·rw [neg_of q1]
  simp only [cond_false]
  rw [szStopS_eq s b hs q1 (by omega)]
  simp only [Option.bind_some]
  cases hd : decide (b < (s.length : Int)) with
  | true => exact ⟨-1, rfl, .inl rfl⟩
  | false =>
   have hd := of_decide_eq_false hd
   simp only [cond_false]
   rw [neg_of (by omega)]
   exact ⟨_, rfl, .inr ⟨by omega, by omega, q3, q4, by omega⟩⟩
theorem toRound_eq (a0 a1 : Int) (g : List (List Int)) (s : List Stp) (hg : g.length ≤ 1073741824) (hr : ∀ r ∈ g, r.length ≤ 1073741824) (hs : s.length ≤ 1073741824) : laws_toRound a0 a1 g s = some (a0, a1, g, s, ()) := by
 unfold laws_toRound
 rw [toIntSS_eq g hg hr, toStopS_eq s hs]
 rfl
theorem eqRound_self (a0 a1 : Int) (g : List (List Int)) (s : List Stp) (hg : g.length ≤ 1073741824) (hr : ∀ r ∈ g, r.length ≤ 1073741824) (hs : s.length ≤ 1073741824) : laws_eqRound a0 a1 g s a0 a1 g s = some (true, ()) := by
 unfold laws_eqRound
 rw [neq_self, neq_self, eqIntSS_self g hg hr, eqStopS_self s hs]
 rfl
noncomputable def legAt (r : List Int) (j : Nat) : Bool := inB (r.getD j zI) 0 200
noncomputable def rowAt (g : List (List Int)) (n : Nat) : Bool := bif rCmp .neq (rLen (g.getD n zLIl)) (rLen g) then false else allFrom (legAt (g.getD n zLIl)) 0 (g.getD n zLIl).length
noncomputable def stopOk (s : Stp) : Bool := inB s.1 0 20000 && (inB s.2.1 0 20000 && (!rCmp .gtr s.1 s.2.1 && (inB s.2.2.1 0 200 && (inB s.2.2.2.1 0 1000 && inB s.2.2.2.2 0 1000))))
noncomputable def roundOk (a0 a1 : Int) (g : List (List Int)) (s : List Stp) : Bool :=
 inB a0 0 20000 && (inB a1 0 1000 && (!rCmp .gtr (rLen s) 6 && (!rCmp .neq (rLen g) (rArith .add .i64 (rLen s) 1) && (allFrom (rowAt g) 0 g.length && allFrom (fun n => stopOk (s.getD n zIIIII)) 0 s.length))))
theorem neq_len {α β : Type} {l : List α} {m : List β} (h : rCmp .neq (rLen l) (rLen m) = false) : l.length = m.length := by
 simp only [rCmp, rLen, bne_eq_false_iff_eq] at h
 omega
theorem contains_eq (r : List Int) (hr : r.length ≤ 1073741824) : slices_ContainsFunc___int_int___impl_RoundOk_1 r = some (Bool.not (allFrom (legAt r) 0 r.length), ()) := by
 unfold slices_ContainsFunc___int_int___impl_RoundOk_1 slices_IndexFunc___int_int___impl_RoundOk_1
 obtain ⟨y, h1, h2⟩ := loop_find (body := slices_IndexFunc___int_int___impl_RoundOk_1_b0 (r, rLen r, ())) (fun n => ((n : Int), ())) r.length (by omega) (legAt r) (Sum.inr (Sum.inl ())) (fun n => Sum.inl ((n : Int), ())) (fun n hn => by
  unfold slices_IndexFunc___int_int___impl_RoundOk_1_b0 impl_RoundOk_1 legAt
  simp only [lss_len, inR_nat, hn, decide_true, cond_true, get_nat, within_eq, Option.bind_some, succ64 (n := n) (by omega)]
  cases inB (r.getD n zI) 0 200 <;> rfl) (by
  unfold slices_IndexFunc___int_int___impl_RoundOk_1_b0
  simp only [lss_len, Nat.lt_irrefl, decide_false, cond_false])
 have h1' : slices_IndexFunc___int_int___impl_RoundOk_1_l0 (r, rLen r, ()) ((0 : Int), ()) = some y := h1
 rw [h1']
 rcases h2 with ⟨e1, rfl⟩ | ⟨e1, n, hn, rfl, _⟩
 ·rw [e1]; rfl
 ·rw [e1]
  show some (rCmp .geq ((n : Nat) : Int) 0, ()) = some (Bool.not false, ())
  have : rCmp .geq ((n : Nat) : Int) 0 = true := by simp [rCmp]
  rw [this]
  rfl
theorem implRound_eq (a0 a1 : Int) (g : List (List Int)) (s : List Stp) (hg : ∀ r ∈ g, r.length ≤ 1073741824) : impl_RoundOk a0 a1 g s = some (roundOk a0 a1 g s, ()) := by
 unfold impl_RoundOk roundOk
 simp only [timeOk_eq, within_eq, Option.bind_some]
 cases inB a0 0 20000 with
 | false => rfl
 | true =>
  cases inB a1 0 1000 with
  | false => rfl
  | true =>
   cases h6 : rCmp .gtr (rLen s) 6 with
   | true => rfl
   | false =>
    have hs6 : s.length ≤ 6 := by simp [rCmp, rLen] at h6; omega
    cases hn : rCmp .neq (rLen g) (rArith .add .i64 (rLen s) 1) with
    | true => rfl
    | false =>
     have hg7 : g.length = s.length + 1 := by
      rw [add64 (by unfold rLen; omega) (by unfold rLen; omega)] at hn
      simp only [rCmp, rLen, bne_eq_false_iff_eq] at hn
      omega
     have hloop1 : impl_RoundOk_l0 (a0, a1, g, s, g, rLen g, ()) ((0 : Int), ()) = some (bif allFrom (rowAt g) 0 g.length then (Sum.inr (Sum.inl ()) : Bool × Unit ⊕ (Unit ⊕ Empty)) else Sum.inl (false, ())) := by
      refine loop_all (fun n => ((n : Int), ())) g.length (by omega) (rowAt g) _ _ (fun n hn => ?_) ?_
      ·have hrow : (g.getD n zLIl).length ≤ 1073741824 := by
        rw [List.getD_eq_getElem?_getD, List.getElem?_eq_getElem hn]
        exact hg _ (List.getElem_mem hn)
       unfold impl_RoundOk_b0 rowAt
       simp only [lss_len, inR_nat, hn, decide_true, cond_true, get_nat, contains_eq _ hrow, Option.bind_some, succ64 (n := n) (by omega)]
       cases rCmp .neq (rLen (g.getD n zLIl)) (rLen g) with
       | true => rfl
       | false => cases allFrom (legAt (g.getD n zLIl)) 0 (g.getD n zLIl).length <;> rfl
      ·unfold impl_RoundOk_b0
       simp only [lss_len, Nat.lt_irrefl, decide_false, cond_false]
     have hloop2 : impl_RoundOk_l2 (s, rLen s, ()) ((0 : Int), ()) = some (bif allFrom (fun n => stopOk (s.getD n zIIIII)) 0 s.length then (Sum.inr (Sum.inl ()) : Bool × Unit ⊕ (Unit ⊕ Empty)) else Sum.inl (false, ())) := by
      refine loop_all (fun n => ((n : Int), ())) s.length (by omega) (fun n => stopOk (s.getD n zIIIII)) _ _ (fun n hn => ?_) ?_
      ·unfold impl_RoundOk_b2 stopOk
       simp only [lss_len, inR_nat, hn, decide_true, cond_true, get_nat, timeOk_eq, within_eq, Option.bind_some, succ64 (n := n) (by omega)]
       generalize s.getD n zIIIII = e
       cases inB e.1 0 20000 with
       | false => rfl
       | true =>
        cases inB e.2.1 0 20000 with
        | false => rfl
        | true =>
         cases rCmp .gtr e.1 e.2.1 with
         | true => rfl
         | false =>
          cases inB e.2.2.1 0 200 with
          | false => rfl
          | true =>
           cases inB e.2.2.2.1 0 1000 with
           | false => rfl
           | true => cases inB e.2.2.2.2 0 1000 <;> rfl
      ·unfold impl_RoundOk_b2
       simp only [lss_len, Nat.lt_irrefl, decide_false, cond_false]
     simp only [Bool.not_true, cond_false]
     rw [hloop1, hloop2]
     cases allFrom (rowAt g) 0 g.length with
     | false => rfl
     | true => cases allFrom (fun n => stopOk (s.getD n zIIIII)) 0 s.length <;> rfl
theorem specRound_eq (a0 a1 : Int) (g : List (List Int)) (s : List Stp) : spec_RoundOk a0 a1 g s = some (roundOk a0 a1 g s, ()) := by
 unfold spec_RoundOk roundOk
 simp only [in_eq, Option.bind_some]
 cases inB a0 0 20000 with
 | false => rfl
 | true =>
  cases inB a1 0 1000 with
  | false => rfl
  | true =>
   cases h6 : rCmp .gtr (rLen s) 6 with
   | true => rfl
   | false =>
    have hs6 : s.length ≤ 6 := by simp [rCmp, rLen] at h6; omega
    cases hn : rCmp .neq (rLen g) (rArith .add .i64 (rLen s) 1) with
    | true => rfl
    | false =>
     have hg7 : g.length = s.length + 1 := by
      rw [add64 (by unfold rLen; omega) (by unfold rLen; omega)] at hn
      simp only [rCmp, rLen, bne_eq_false_iff_eq] at hn
      omega
     have hloop1 : spec_RoundOk_l0 (a0, a1, g, s, ()) ((0 : Int), ()) = some (bif allFrom (rowAt g) 0 g.length then (Sum.inr (Sum.inl ()) : Bool × Unit ⊕ (Unit ⊕ Empty)) else Sum.inl (false, ())) := by
      refine loop_all (fun n => ((n : Int), ())) g.length (by omega) (rowAt g) _ _ (fun n hn => ?_) ?_
      ·unfold spec_RoundOk_b0 rowAt
       simp only [lss_len, inR_nat, hn, decide_true, cond_true, get_nat, succ64 (n := n) (by omega)]
       cases hne : rCmp .neq (rLen (g.getD n zLIl)) (rLen g) with
       | true => rfl
       | false =>
        have hlen := neq_len hne
        have hin : spec_RoundOk_l2 (a0, a1, g, s, (n : Int), ()) ((0 : Int), ()) = some (bif allFrom (legAt (g.getD n zLIl)) 0 g.length then (Sum.inr (Sum.inl ()) : Bool × Unit ⊕ (Unit ⊕ Empty)) else Sum.inl (false, ())) := by
         refine loop_all (fun n => ((n : Int), ())) g.length (by omega) (legAt (g.getD n zLIl)) _ _ (fun m hm => ?_) ?_
         ·have hm' : m < (g.getD n zLIl).length := by rw [hlen]; exact hm
          unfold spec_RoundOk_b2 legAt
          simp only [lss_len, inR_nat, hn, hm, get_nat, hm', decide_true, cond_true, in_eq, Option.bind_some, succ64 (n := m) (by omega)]
          cases inB ((g.getD n zLIl).getD m zI) 0 200 <;> rfl
         ·unfold spec_RoundOk_b2
          simp only [lss_len, Nat.lt_irrefl, decide_false, cond_false]
        simp only [cond_false]
        rw [hin, hlen]
        cases allFrom (legAt (g.getD n zLIl)) 0 g.length <;> rfl
      ·unfold spec_RoundOk_b0
       simp only [lss_len, Nat.lt_irrefl, decide_false, cond_false]
     have hloop2 : spec_RoundOk_l4 (a0, a1, g, s, ()) ((0 : Int), ()) = some (bif allFrom (fun n => stopOk (s.getD n zIIIII)) 0 s.length then (Sum.inr (Sum.inl ()) : Bool × Unit ⊕ (Unit ⊕ Empty)) else Sum.inl (false, ())) := by
      refine loop_all (fun n => ((n : Int), ())) s.length (by omega) (fun n => stopOk (s.getD n zIIIII)) _ _ (fun n hn => ?_) ?_
      ·unfold spec_RoundOk_b4 stopOk
       simp only [lss_len, inR_nat, hn, decide_true, cond_true, get_nat, in_eq, Option.bind_some, succ64 (n := n) (by omega)]
       generalize s.getD n zIIIII = e
       have hse : inB e.2.1 0 20000 = true → inB e.1 0 e.2.1 = (inB e.1 0 20000 && !rCmp .gtr e.1 e.2.1) := by
        intro hb
        have hb := inB_iff.1 hb
        rw [Bool.eq_iff_iff, Bool.and_eq_true, inB_iff, inB_iff]
        simp only [rCmp, Bool.not_eq_true', decide_eq_false_iff_not]
        omega
       cases hb : inB e.2.1 0 20000 with
       | false => cases inB e.1 0 20000 <;> rfl
       | true =>
        rw [hse hb]
        cases inB e.1 0 20000 with
        | false => rfl
        | true =>
         cases rCmp .gtr e.1 e.2.1 with
         | true => rfl
         | false =>
          cases inB e.2.2.1 0 200 with
          | false => rfl
          | true =>
           cases inB e.2.2.2.1 0 1000 with
           | false => rfl
           | true => cases inB e.2.2.2.2 0 1000 <;> rfl
      ·unfold spec_RoundOk_b4
       simp only [lss_len, Nat.lt_irrefl, decide_false, cond_false]
     simp only [Bool.not_true, cond_false]
     rw [hloop1, hloop2]
     cases allFrom (rowAt g) 0 g.length with
     | false => rfl
     | true => cases allFrom (fun n => stopOk (s.getD n zIIIII)) 0 s.length <;> rfl
end Go.Fn
set_option linter.unusedSimpArgs false
namespace Go.Fn
open Go.R
theorem roundOk_rows {a0 a1 : Int} {g : List (List Int)} {s : List Stp} (h : roundOk a0 a1 g s = true) : s.length ≤ 6 ∧ g.length = s.length + 1 ∧ (∀ n, n < g.length → (g.getD n zLIl).length = g.length ∧ ∀ m, m < g.length → 0 ≤ (g.getD n zLIl).getD m zI ∧ (g.getD n zLIl).getD m zI ≤ 200) ∧
  (∀ n, n < s.length → stopOk (s.getD n zIIIII) = true) ∧ (0 ≤ a0 ∧ a0 ≤ 20000) ∧ (0 ≤ a1 ∧ a1 ≤ 1000) := by
 unfold roundOk at h
 simp only [Bool.and_eq_true] at h
 obtain ⟨h1, h2, h3, h4, h5, h6⟩ := h
 have hs6 : s.length ≤ 6 := by simp [rCmp, rLen] at h3; omega
 have hg : g.length = s.length + 1 := by
  rw [add64 (by unfold rLen; omega) (by unfold rLen; omega)] at h4
  simp only [rCmp, rLen, Bool.not_eq_true', bne_eq_false_iff_eq] at h4
  omega
 refine ⟨hs6, hg, fun n hn => ?_, fun n hn => (allFrom_iff _ _).1 h6 n (Nat.zero_le _) (by omega), inB_iff.1 h1, inB_iff.1 h2⟩
 have := (allFrom_iff _ _).1 h5 n (Nat.zero_le _) (by omega)
 unfold rowAt at this
 cases hne : rCmp .neq (rLen (g.getD n zLIl)) (rLen g) with
 | true => rw [hne] at this; cases this
 | false =>
  rw [hne] at this
  have hl := neq_len hne
  refine ⟨hl, fun m hm => ?_⟩
  have := (allFrom_iff _ _).1 this m (Nat.zero_le _) (by omega)
  exact inB_iff.1 this
noncomputable def nat (l : List Int) (x : Int) (n : Nat) : Bool := !rCmp .eql (l.getD n zI) x
noncomputable def hasI (l : List Int) (x : Int) : Bool := !allFrom (nat l x) 0 l.length
theorem eql_comm (a b : Int) : rCmp .eql a b = rCmp .eql b a := by
 simp only [rCmp]
 rw [Bool.eq_iff_iff, beq_iff_eq, beq_iff_eq]
 exact eq_comm
theorem specHas_eq (l : List Int) (x : Int) (hl : l.length ≤ 1073741824) : spec_l02Has l x = some (hasI l x, ()) := by
 unfold spec_l02Has hasI
 have hloop : spec_l02Has_l0 (l, x, ()) ((0 : Int), ()) = some (bif allFrom (nat l x) 0 l.length then (Sum.inr (Sum.inl ()) : Bool × Unit ⊕ (Unit ⊕ Empty)) else Sum.inl (true, ())) := by
  refine loop_all (fun n => ((n : Int), ())) l.length (by omega) (nat l x) _ _ (fun n hn => ?_) ?_
  ·unfold spec_l02Has_b0 nat
   simp only [lss_len, inR_nat, get_nat, hn, decide_true, cond_true, succ64 (n := n) (by omega)]
   cases rCmp .eql (l.getD n zI) x <;> rfl
  ·unfold spec_l02Has_b0
   simp only [lss_len, Nat.lt_irrefl, decide_false, cond_false]
 rw [hloop]
 cases allFrom (nat l x) 0 l.length <;> rfl
theorem containsI_eq (l : List Int) (x : Int) (hl : l.length ≤ 1073741824) : slices_Contains___int_int_ l x = some (hasI l x, ()) := by
 unfold slices_Contains___int_int_ slices_Index___int_int_ hasI
 obtain ⟨y, h1, h2⟩ := loop_find (body := slices_Index___int_int__b0 (l, x, rLen l, ())) (fun n => ((n : Int), ())) l.length (by omega) (nat l x) (Sum.inr (Sum.inl ())) (fun n => Sum.inl ((n : Int), ())) (fun n hn => by
  unfold slices_Index___int_int__b0 nat
  simp only [lss_len, inR_nat, hn, decide_true, cond_true, get_nat, succ64 (n := n) (by omega), eql_comm x]
  cases rCmp .eql (l.getD n zI) x <;> rfl) (by
  unfold slices_Index___int_int__b0
  simp only [lss_len, Nat.lt_irrefl, decide_false, cond_false])
 have h1' : slices_Index___int_int__l0 (l, x, rLen l, ()) ((0 : Int), ()) = some y := h1
 rw [h1']
 rcases h2 with ⟨e1, rfl⟩ | ⟨e1, n, hn, rfl, _⟩
 ·rw [e1]; rfl
 ·rw [e1]
  show some (rCmp .geq ((n : Nat) : Int) 0, ()) = some (Bool.not false, ())
  have : rCmp .geq ((n : Nat) : Int) 0 = true := by simp [rCmp]
  rw [this]
  rfl
noncomputable def ordAt (s : List Stp) (o : List Int) (n : Nat) : Bool := inB (o.getD n zI) 0 (rArith .sub .i64 (rLen s) 1) && !hasI (o.take n) (o.getD n zI)
noncomputable def orderOk (a0 a1 : Int) (g : List (List Int)) (s : List Stp) (o : List Int) : Bool := roundOk a0 a1 g s && allFrom (ordAt s o) 0 o.length
theorem sub_take {α : Type} (l : List α) (n : Nat) : rSub l 0 (n : Int) = l.take n := by simp [rSub]
theorem subOk_take {α : Type} {l : List α} {n : Nat} (h : n ≤ l.length) : rSubOk l 0 (n : Int) = true := by
 unfold rSubOk
 simp only [Bool.and_eq_true, decide_eq_true_eq]
 omega
theorem take_len {α : Type} {l : List α} {n m : Nat} (h : l.length ≤ m) : (l.take n).length ≤ m := by rw [List.length_take]; omega
theorem specOrder_eq (a0 a1 : Int) (g : List (List Int)) (s : List Stp) (o : List Int) (ho : o.length ≤ 1073741824) : spec_OrderOk a0 a1 g s o = some (orderOk a0 a1 g s o, ()) := by
 unfold spec_OrderOk orderOk
 rw [specRound_eq]
 simp only [Option.bind_some]
 cases hr : roundOk a0 a1 g s with
 | false => rfl
 | true =>
  have hl0 : spec_OrderOk_l0 (o, a0, a1, g, s, ()) ((0 : Int), ()) = some (bif allFrom (ordAt s o) 0 o.length then (Sum.inr (Sum.inl ()) : Bool × Unit ⊕ (Unit ⊕ Empty)) else Sum.inl (false, ())) := by
   refine loop_all (fun n => ((n : Int), ())) o.length (by omega) (ordAt s o) _ _ (fun n hn => ?_) ?_
   ·unfold spec_OrderOk_b0 ordAt
    simp only [lss_len, inR_nat, get_nat, hn, decide_true, cond_true, in_eq, Option.bind_some, sub_take, subOk_take (Nat.le_of_lt hn), specHas_eq _ _ (take_len ho), succ64 (n := n) (by omega)]
    cases inB (o.getD n zI) 0 (rArith .sub .i64 (rLen s) 1) with
    | false => rfl
    | true => cases hasI (o.take n) (o.getD n zI) <;> rfl
   ·unfold spec_OrderOk_b0
    simp only [lss_len, Nat.lt_irrefl, decide_false, cond_false]
  simp only [Bool.not_true, cond_false, Bool.true_and]
  rw [hl0]
  cases allFrom (ordAt s o) 0 o.length <;> rfl
theorem implOrder_eq (a0 a1 : Int) (g : List (List Int)) (s : List Stp) (o : List Int) (hgr : ∀ r ∈ g, r.length ≤ 1073741824) (ho : o.length ≤ 1073741824) : impl_OrderOk a0 a1 g s o = some (orderOk a0 a1 g s o, ()) := by
 unfold impl_OrderOk orderOk
 rw [implRound_eq a0 a1 g s hgr]
 simp only [Option.bind_some]
 cases hr : roundOk a0 a1 g s with
 | false => rfl
 | true =>
  have hl0 : impl_OrderOk_l0 (o, a0, a1, g, s, o, rLen o, ()) ((0 : Int), ()) = some (bif allFrom (ordAt s o) 0 o.length then (Sum.inr (Sum.inl ()) : Bool × Unit ⊕ (Unit ⊕ Empty)) else Sum.inl (false, ())) := by
   refine loop_all (fun n => ((n : Int), ())) o.length (by omega) (ordAt s o) _ _ (fun n hn => ?_) ?_
   ·unfold impl_OrderOk_b0 ordAt
    simp only [lss_len, inR_nat, get_nat, hn, decide_true, cond_true, within_eq, Option.bind_some, sub_take, subOk_take (Nat.le_of_lt hn), containsI_eq _ _ (take_len ho), succ64 (n := n) (by omega)]
    cases inB (o.getD n zI) 0 (rArith .sub .i64 (rLen s) 1) with
    | false => rfl
    | true => cases hasI (o.take n) (o.getD n zI) <;> rfl
   ·unfold impl_OrderOk_b0
    simp only [lss_len, Nat.lt_irrefl, decide_false, cond_false]
  simp only [Bool.not_true, cond_false, Bool.true_and]
  rw [hl0]
  cases allFrom (ordAt s o) 0 o.length <;> rfl
end Go.Fn
set_option linter.unusedSimpArgs false
namespace Go.Fn
open Go.R
theorem subadd (a b c : Int) : rArith .sub .i64 (rArith .add .i64 a b) c = rArith .add .i64 a (rArith .sub .i64 b c) := by
 show IntKind.i64.wrap (IntKind.i64.wrap (a + b) - c) = IntKind.i64.wrap (a + IntKind.i64.wrap (b - c))
 simp only [IntKind.wrap_i64]
 omega
theorem addsub (a b c : Int) : rArith .add .i64 (rArith .sub .i64 a b) c = rArith .add .i64 a (rArith .sub .i64 c b) := by
 show IntKind.i64.wrap (IntKind.i64.wrap (a - b) + c) = IntKind.i64.wrap (a + IntKind.i64.wrap (c - b))
 simp only [IntKind.wrap_i64]
 omega
abbrev RSt := Int × List Int × Int × Int × Int × Int
noncomputable def arr (g : List (List Int)) (st : RSt) (i : Int) : Int := rArith .add .i64 st.2.2.1 (rGet zI (rGet zLIl g st.2.2.2.2.2) (rArith .add .i64 i 1))
noncomputable def load1 (s : List Stp) (l i : Int) : Int := rArith .add .i64 l (rGet zIIIII s i).2.2.2.1
noncomputable def next (g : List (List Int)) (s : List Stp) (st : RSt) (i : Int) : RSt :=
  (rArith .add .i64 st.1 (rArith .sub .i64 (rGet zIIIII s i).2.2.2.2 (rGet zIIIII s i).2.2.2.1),
   st.2.1 ++ [rMxmn true (arr g st i) (rGet zIIIII s i).1],
   rArith .add .i64 (rMxmn true (arr g st i) (rGet zIIIII s i).1) (rGet zIIIII s i).2.2.1,
   rMxmn true st.2.2.2.1 (rArith .add .i64 st.1 (rArith .sub .i64 (rGet zIIIII s i).2.2.2.2 (rGet zIIIII s i).2.2.2.1)),
   rArith .add .i64 st.2.2.2.2.1 (rArith .sub .i64 (rMxmn true (arr g st i) (rGet zIIIII s i).1) (arr g st i)),
   rArith .add .i64 i 1)
noncomputable def late (g : List (List Int)) (s : List Stp) (st : RSt) (i : Int) : Bool := rCmp .gtr (arr g st i) (rGet zIIIII s i).2.1
noncomputable def stepR {Y : Type} (g : List (List Int)) (s : List Stp) (f : RSt → Y) (st : RSt) (i : Int) : RSt ⊕ Y := bif late g s st i then .inr (f st) else .inl (next g s st i)
noncomputable def rideGo (g : List (List Int)) (s : List Stp) : List Int → RSt → RSt ⊕ RSt
 | [], st => .inl st
 | i :: o, st => bif late g s st i then .inr st else rideGo g s o (next g s st i)
theorem runL_go {Y : Type} (g : List (List Int)) (s : List Stp) (f fin : RSt → Y) : ∀ (o : List Int) (st : RSt), runL (stepR g s f) fin o st = match rideGo g s o st with | .inl st' => fin st' | .inr st' => f st'
 | [], st => rfl
 | i :: o, st => by
  simp only [runL, rideGo, stepR]
  cases late g s st i with
  | true => rfl
  | false => exact runL_go g s f fin o _
noncomputable def load0 (s : List Stp) (o : List Int) : Int := o.foldl (load1 s) 0
noncomputable def start (a0 : Int) (s : List Stp) (o : List Int) : RSt := (load0 s o, [], a0, load0 s o, 0, 0)
noncomputable def home (g : List (List Int)) (o : List Int) (st : RSt) : Int := rArith .add .i64 st.2.2.1 (rArith .mul .i64 (rGet zI (rGet zLIl g st.2.2.2.2.2) 0) (rMxmn false 1 (rLen o)))
noncomputable def ride (a0 a1 : Int) (g : List (List Int)) (s : List Stp) (o : List Int) : Option (List Int × Int × Int × Int) :=
 bif orderOk a0 a1 g s o then
  match rideGo g s o (start a0 s o) with
  | .inr _ => none
  | .inl st => bif rCmp .gtr st.2.2.2.1 a1 then none else some (st.2.1, home g o st, st.2.2.2.1, st.2.2.2.2.1)
 else none
theorem orderOk_round {a0 a1 : Int} {g : List (List Int)} {s : List Stp} {o : List Int} (h : orderOk a0 a1 g s o = true) : roundOk a0 a1 g s = true := by
 unfold orderOk at h; rw [Bool.and_eq_true] at h; exact h.1
theorem orderOk_at {a0 a1 : Int} {g : List (List Int)} {s : List Stp} {o : List Int} (h : orderOk a0 a1 g s o = true) {n : Nat} (hn : n < o.length) : 0 ≤ o.getD n zI ∧ o.getD n zI < (s.length : Int) := by
 have hr := roundOk_rows (orderOk_round h)
 unfold orderOk at h
 rw [Bool.and_eq_true] at h
 have := (allFrom_iff _ _).1 h.2 n (Nat.zero_le _) (by omega)
 unfold ordAt at this
 rw [Bool.and_eq_true, inB_iff] at this
 have e : rArith .sub .i64 (rLen s) 1 = (s.length : Int) - 1 := sub64 (by unfold rLen; omega) (by unfold rLen; omega)
 rw [e] at this
 omega
structure InvR (g : List (List Int)) (n : Nat) (st : RSt) : Prop where
 lo : 0 ≤ st.2.2.2.2.2
 hi : st.2.2.2.2.2 < (g.length : Int)
 len : st.2.1.length = n
section
variable {a0 a1 : Int} {g : List (List Int)} {s : List Stp} {o : List Int}
theorem at_facts (h : orderOk a0 a1 g s o = true) {n : Nat} (hn : n < o.length) {st : RSt} (hi : InvR g n st) (ho : o.length ≤ 1073741824) :
  rInR s (o.getD n zI) = true ∧ rInR g st.2.2.2.2.2 = true ∧ rInR (rGet zLIl g st.2.2.2.2.2) (rArith .add .i64 (o.getD n zI) 1) = true ∧ rInR (rGet zLIl g st.2.2.2.2.2) 0 = true ∧
  (∀ v : Int, rSmall (List.append st.2.1 (List.append [] [v])) = true) ∧ InvR g (n + 1) (next g s st (o.getD n zI)) := by
 obtain ⟨h6, hg, hrow, _, _, _⟩ := roundOk_rows (orderOk_round h)
 obtain ⟨i0, i1⟩ := orderOk_at h hn
 have hp := hi.hi
 have hp0 := hi.lo
 have hr := (hrow st.2.2.2.2.2.toNat (by omega)).1
 have e1 : rArith .add .i64 (o.getD n zI) 1 = o.getD n zI + 1 := add1 i0 (by omega)
 have hrl : (rGet zLIl g st.2.2.2.2.2).length = g.length := hr
 have hl := hi.len
 refine ⟨inR_iff i0 i1, inR_iff hp0 hp, ?_, inR_iff (Int.le_refl 0) (by rw [hrl]; omega), fun v => small_of (by show (st.2.1 ++ ([] ++ [v])).length ≤ _; simp; omega), ?_, ?_, ?_⟩
 ·rw [e1]; exact inR_iff (by omega) (by rw [hrl]; omega)
 ·show 0 ≤ rArith .add .i64 (o.getD n zI) 1; rw [e1]; omega
 ·show rArith .add .i64 (o.getD n zI) 1 < _; rw [e1]; omega
 ·show (st.2.1 ++ [_]).length = n + 1; simp [hl]
theorem start_inv (h : orderOk a0 a1 g s o = true) : InvR g 0 (start a0 s o) := by
 obtain ⟨h6, hg, _, _, _, _⟩ := roundOk_rows (orderOk_round h)
 exact ⟨Int.le_refl 0, by show (0 : Int) < _; omega, rfl⟩
theorem implLoad (h : orderOk a0 a1 g s o = true) (ho : o.length ≤ 1073741824) : impl_ride_l0 (o, a0, a1, g, s, o, rLen o, ()) ([], 0, 0, 0, 0, 0, ()) = some (Sum.inl ([], 0, 0, 0, load0 s o, ())) := by
 refine (loop_fold (body := impl_ride_b0 (o, a0, a1, g, s, o, rLen o, ())) o zI (by omega) (load1 s) (fun l n => ([], 0, 0, 0, l, (n : Int), ())) (fun _ _ => True) (fun l => Sum.inl ([], 0, 0, 0, l, ())) (fun n l hn _ => ⟨?_, trivial⟩) (fun l _ => ?_) 0 trivial).1
 ·obtain ⟨i0, i1⟩ := orderOk_at h hn
  unfold impl_ride_b0 load1
  simp only [lss_len, inR_nat, get_nat, hn, decide_true, cond_true, inR_iff i0 i1, succ64 (n := n) (by omega)]
 ·unfold impl_ride_b0
  simp only [lss_len, Nat.lt_irrefl, decide_false, cond_false]
theorem specLoad (h : orderOk a0 a1 g s o = true) (ho : o.length ≤ 1073741824) : spec_l07Drive_l0 (o, a0, a1, g, s, ()) ([], 0, 0, 0, [], a0, 0, 0, 0, 0, ()) = some (Sum.inl ([], 0, 0, 0, [], a0, 0, 0, load0 s o, ())) := by
 refine (loop_fold (body := spec_l07Drive_b0 (o, a0, a1, g, s, ())) o zI (by omega) (load1 s) (fun l n => ([], 0, 0, 0, [], a0, 0, 0, l, (n : Int), ())) (fun _ _ => True) (fun l => Sum.inl ([], 0, 0, 0, [], a0, 0, 0, l, ())) (fun n l hn _ => ⟨?_, trivial⟩) (fun l _ => ?_) 0 trivial).1
 ·obtain ⟨i0, i1⟩ := orderOk_at h hn
  unfold spec_l07Drive_b0 load1
  simp only [lss_len, inR_nat, get_nat, hn, decide_true, cond_true, inR_iff i0 i1, succ64 (n := n) (by omega)]
 ·unfold spec_l07Drive_b0
  simp only [lss_len, Nat.lt_irrefl, decide_false, cond_false]
theorem implWay (h : orderOk a0 a1 g s o = true) (ho : o.length ≤ 1073741824) : impl_ride_l2 (o, a0, a1, g, s, o, rLen o, ()) ([], 0, 0, 0, load0 s o, [], a0, load0 s o, 0, 0, 0, ()) =
  some (match rideGo g s o (start a0 s o) with | .inl st => Sum.inr (Sum.inl ([], 0, 0, 0, st.2.1, st.2.2.1, st.2.2.2.1, st.2.2.2.2.1, st.2.2.2.2.2, ())) | .inr _ => Sum.inl ([], 0, 0, 0, false, ())) := by
 rw [← runL_go g s (fun _ => Sum.inl ([], 0, 0, 0, false, ())) (fun st => Sum.inr (Sum.inl ([], 0, 0, 0, st.2.1, st.2.2.1, st.2.2.2.1, st.2.2.2.2.1, st.2.2.2.2.2, ())))]
 refine loop_run (body := impl_ride_b2 (o, a0, a1, g, s, o, rLen o, ())) o zI (by omega) (fun st n => ([], 0, 0, 0, st.1, st.2.1, st.2.2.1, st.2.2.2.1, st.2.2.2.2.1, st.2.2.2.2.2, (n : Int), ())) _ _ (InvR g) (fun n st hn hi => ?_) (fun st hi => ?_) (start a0 s o) (start_inv h)
 ·obtain ⟨f1, f2, f3, _, f5, f6⟩ := at_facts h hn hi ho
  refine ⟨?_, fun b hb => ?_⟩
  ·unfold impl_ride_b2 stepR
   simp only [lss_len, inR_nat, get_nat, hn, decide_true, cond_true, f1, f2, f3, f5, lets_def, succ64 (n := n) (by omega)]
   show (bif late g s st (o.getD n zI) then _ else _) = _
   cases late g s st (o.getD n zI) <;> rfl
  ·unfold stepR at hb
   cases hl : late g s st (o.getD n zI) with
   | true => rw [hl] at hb; cases hb
   | false => rw [hl] at hb; injection hb with hb; subst hb; exact f6
 ·unfold impl_ride_b2
  simp only [lss_len, Nat.lt_irrefl, decide_false, cond_false]
theorem specWay (h : orderOk a0 a1 g s o = true) (ho : o.length ≤ 1073741824) : spec_l07Drive_l2 (o, a0, a1, g, s, ()) ([], 0, 0, 0, [], a0, load0 s o, 0, load0 s o, 0, 0, ()) =
  some (match rideGo g s o (start a0 s o) with | .inl st => Sum.inr (Sum.inl ([], 0, 0, 0, st.2.1, st.2.2.1, st.2.2.2.1, st.2.2.2.2.1, st.2.2.2.2.2, ())) | .inr st => Sum.inl (st.2.1, st.2.2.1, st.2.2.2.1, st.2.2.2.2.1, false, ())) := by
 rw [← runL_go g s (fun st => Sum.inl (st.2.1, st.2.2.1, st.2.2.2.1, st.2.2.2.2.1, false, ())) (fun st => Sum.inr (Sum.inl ([], 0, 0, 0, st.2.1, st.2.2.1, st.2.2.2.1, st.2.2.2.2.1, st.2.2.2.2.2, ())))]
 refine loop_run (body := spec_l07Drive_b2 (o, a0, a1, g, s, ())) o zI (by omega) (fun st n => ([], 0, 0, 0, st.2.1, st.2.2.1, st.2.2.2.1, st.2.2.2.2.1, st.1, st.2.2.2.2.2, (n : Int), ())) _ _ (InvR g) (fun n st hn hi => ?_) (fun st hi => ?_) (start a0 s o) (start_inv h)
 ·obtain ⟨f1, f2, f3, _, f5, f6⟩ := at_facts h hn hi ho
  refine ⟨?_, fun b hb => ?_⟩
  ·unfold spec_l07Drive_b2 stepR
   simp only [lss_len, inR_nat, get_nat, hn, decide_true, cond_true, f1, f2, f3, f5, lets_def, succ64 (n := n) (by omega), subadd, addsub]
   show (bif late g s st (o.getD n zI) then _ else _) = _
   cases late g s st (o.getD n zI) <;> rfl
  ·unfold stepR at hb
   cases hl : late g s st (o.getD n zI) with
   | true => rw [hl] at hb; cases hb
   | false => rw [hl] at hb; injection hb with hb; subst hb; exact f6
 ·unfold spec_l07Drive_b2
  simp only [lss_len, Nat.lt_irrefl, decide_false, cond_false]
theorem go_inv (h : orderOk a0 a1 g s o = true) (ho : o.length ≤ 1073741824) : ∀ (k n : Nat) (st st' : RSt), n + k = o.length → InvR g n st → rideGo g s (o.drop n) st = .inl st' → InvR g o.length st'
 | 0, n, st, st', hk, hi, hg => by
  have : n = o.length := by omega
  subst this
  rw [List.drop_length] at hg
  injection hg with hg
  subst hg
  exact hi
 | k + 1, n, st, st', hk, hi, hg => by
  have hn : n < o.length := by omega
  rw [drop_getD hn zI] at hg
  simp only [rideGo] at hg
  cases hl : late g s st (o.getD n zI) with
  | true => rw [hl] at hg; cases hg
  | false =>
   rw [hl] at hg
   exact go_inv h ho k (n + 1) _ st' (by omega) (at_facts h hn hi ho).2.2.2.2.2 hg
theorem home_facts (h : orderOk a0 a1 g s o = true) {st : RSt} {n : Nat} (hi : InvR g n st) : rInR g st.2.2.2.2.2 = true ∧ rInR (rGet zLIl g st.2.2.2.2.2) 0 = true ∧ 0 ≤ rGet zI (rGet zLIl g st.2.2.2.2.2) 0 ∧ rGet zI (rGet zLIl g st.2.2.2.2.2) 0 ≤ 200 := by
 obtain ⟨h6, hg, hrow, _, _, _⟩ := roundOk_rows (orderOk_round h)
 have hp := hi.hi
 have hp0 := hi.lo
 obtain ⟨hr, hv⟩ := hrow st.2.2.2.2.2.toNat (by omega)
 have hv := hv 0 (by omega)
 exact ⟨inR_iff hp0 hp, inR_iff (Int.le_refl 0) (by show (0 : Int) < ((g.getD st.2.2.2.2.2.toNat zLIl).length : Int); omega), hv.1, hv.2⟩
end
theorem implRide_eq (a0 a1 : Int) (g : List (List Int)) (s : List Stp) (o : List Int) (hgr : ∀ r ∈ g, r.length ≤ 1073741824) (ho : o.length ≤ 1073741824) :
  impl_ride a0 a1 g s o = some (match ride a0 a1 g s o with | some (b, e, p, w) => (b, e, p, w, true, ()) | none => ([], 0, 0, 0, false, ())) := by
 unfold impl_ride ride
 rw [implOrder_eq a0 a1 g s o hgr ho]
 simp only [Option.bind_some]
 cases hk : orderOk a0 a1 g s o with
 | false => rfl
 | true =>
  simp only [Bool.not_true, cond_false, cond_true]
  rw [implLoad hk ho]
  simp only [Option.bind_some, Sum.elim_inl]
  rw [implWay hk ho]
  cases hgo : rideGo g s o (start a0 s o) with
  | inr st => rfl
  | inl st =>
   have hi := go_inv hk ho o.length 0 _ st (by omega) (start_inv hk) (by rw [List.drop_zero]; exact hgo)
   obtain ⟨f1, f2, _, _⟩ := home_facts hk hi
   simp only [Option.bind_some, Sum.elim_inl, Sum.elim_inr, f1, f2, cond_true]
   cases rCmp .gtr st.2.2.2.1 a1 <;> rfl
theorem leq_not (a b : Int) : rCmp .leq a b = Bool.not (rCmp .gtr a b) := by rw [gtr_not, Bool.not_not]
theorem specRide_eq (a0 a1 : Int) (g : List (List Int)) (s : List Stp) (o : List Int) (ho : o.length ≤ 1073741824) :
  ∃ y, spec_l07Drive a0 a1 g s o = some y ∧ match ride a0 a1 g s o with | some (b, e, p, w) => y = (b, e, p, w, true, ()) | none => y.2.2.2.2.1 = false := by
 unfold spec_l07Drive ride
 rw [specOrder_eq a0 a1 g s o ho]
 simp only [Option.bind_some]
 cases hk : orderOk a0 a1 g s o with
 | false => exact ⟨_, rfl, rfl⟩
 | true =>
  simp only [Bool.not_true, cond_false, cond_true]
  rw [specLoad hk ho]
  simp only [Option.bind_some, Sum.elim_inl]
  rw [specWay hk ho]
  cases hgo : rideGo g s o (start a0 s o) with
  | inr st => exact ⟨_, rfl, rfl⟩
  | inl st =>
   have hi := go_inv hk ho o.length 0 _ st (by omega) (start_inv hk) (by rw [List.drop_zero]; exact hgo)
   obtain ⟨f1, f2, f3, f4⟩ := home_facts hk hi
   obtain ⟨_, _, _, _, ha0, _⟩ := roundOk_rows (orderOk_round hk)
   simp only [Option.bind_some, Sum.elim_inl, Sum.elim_inr, f1, f2, cond_true, leq_not]
   have hhome : home g o st = bif rCmp .gtr (rLen o) 0 then rArith .add .i64 st.2.2.1 (rGet zI (rGet zLIl g st.2.2.2.2.2) 0) else st.2.2.1 := by
    unfold home
    cases o with
    | nil =>
     have : st = start a0 s [] := by injection hgo with hgo; exact hgo.symm
     subst this
     show rArith .add .i64 a0 (rArith .mul .i64 _ 0) = a0
     have hm : ∀ x : Int, rArith .mul .i64 x 0 = 0 := fun x => by rw [mul64] <;> simp
     rw [hm, add64 (by omega) (by omega)]
     omega
    | cons i o =>
     have h1 : rMxmn false 1 (rLen (i :: o)) = 1 := by
      unfold rMxmn rLen
      simp only [cond_false]
      rw [if_neg (by simp only [List.length_cons]; omega)]
     have h2 : rCmp .gtr (rLen (i :: o)) 0 = true := by simp [rCmp, rLen]
     rw [h1, h2, mul64 (by omega) (by omega)]
     simp
   rw [hhome]
   cases rCmp .gtr (rLen o) 0 <;> cases rCmp .gtr st.2.2.2.1 a1 <;> exact ⟨_, rfl, rfl⟩
end Go.Fn
set_option linter.unusedSimpArgs false
namespace Go.Fn
open Go.R
abbrev Trm := Int × Int × Int × Int × Int × Int × Int × Int
end Go.Fn
set_option linter.unusedSimpArgs false
namespace Go.Fn
open Go.R
abbrev Bx := Int × Int × Int × Bool
abbrev Col := Int × List Int × List Bx
abbrev Site := List Spn × List Spn × List Col × Int × Int × Bool × Bool × Bool × Int × Int × List Ev
theorem getD_mem {α : Type} {l : List α} {n : Nat} (h : n < l.length) (z : α) : l.getD n z ∈ l := by
 rw [List.getD_eq_getElem?_getD, List.getElem?_eq_getElem h]
 exact List.getElem_mem h
end Go.Fn
set_option linter.unusedSimpArgs false
namespace Go.Fn
open Go.R
abbrev Prc := Int × Int × Int × Int × Int × Int × Int × Int × Int × Int × Int × Int × Int
abbrev Grt := Int × Int × Int × Int × Int × Int × Bool
end Go.Fn
namespace Go.R
def Yl {α : Type} (x : Option α) (P : α → Prop) : Prop := ∃ a, x = some a ∧ P a
section
variable {α β : Type} {P : α → Prop} {Q : β → Prop}
theorem Yl.ret {a : α} (h : P a) : Yl (some a) P := ⟨a, rfl, h⟩
theorem Yl.bind {x : Option α} {f : α → Option β} (hx : Yl x P) (hf : ∀ a, P a → Yl (f a) Q) : Yl (x.bind f) Q := by
 obtain ⟨a, rfl, ha⟩ := hx
 exact hf a ha
theorem Yl.mono {P' : α → Prop} {x : Option α} (hx : Yl x P) (h : ∀ a, P a → P' a) : Yl x P' := by
 obtain ⟨a, e, ha⟩ := hx
 exact ⟨a, e, h a ha⟩
theorem Yl.lets {γ : Type} {v : γ} {k : γ → Option α} (h : Yl (k v) P) : Yl (lets v k) P := h
end
theorem small_of {α : Type} {l : List α} (h : l.length ≤ 1073741824) : rSmall l = true := by
 unfold rSmall limit
 exact decide_eq_true (by omega)
open Go.Fn
end Go.R
set_option linter.unusedSimpArgs false
set_option linter.unusedVariables false
namespace Go.Fn
open Go.R Go.Sort
section
variable {α : Type} [Inhabited α] {lt : α → α → Bool}
theorem one : (1 : Int) = ((1 : Nat) : Int) := rfl
end
end Go.Fn
set_option linter.unusedSimpArgs false
set_option linter.unusedVariables false
namespace Go.Fn
open Go.R Go.Sort
section
variable {α : Type} [Inhabited α] {lt : α → α → Bool}
abbrev PdqQ (α : Type) := Option (((List α) × Int × Int × Int × Bool × Bool × Unit) ⊕ ((List α) × Unit ⊕ Empty))
noncomputable def Next (lt : α → α → Bool) (q : PdqQ α) (d : Array α) (a b : Nat) : Prop :=
 (∃ R, q = some (.inr (.inl (R.toList, ()))) ∧ PermIn a b d R ∧ SortedIn lt a b R) ∨
 (∃ (E : Array α) (a' b' : Nat) (L : Int) (wb wp : Bool), q = some (.inl (E.toList, (a' : Int), (b' : Int), L, wb, wp, ())) ∧ E.size = d.size ∧ a' ≤ b' ∧ b' ≤ b ∧ b' - a' < b - a ∧ Below lt a' b' E ∧ ∀ R, PermIn a' b' E R → SortedIn lt a' b' R → PermIn a b d R ∧ SortedIn lt a b R)
theorem Next.mono {q : PdqQ α} {d D : Array α} {a b : Nat} (h : Next lt q D a b) (p : PermIn a b d D) : Next lt q d a b := by
 rcases h with ⟨R, h1, h2, h3⟩ | ⟨E, a', b', L, wb, wp, h1, h2, h3, h4, h5, h6, h7⟩
 ·exact .inl ⟨R, h1, permIn_trans _ _ _ a b p h2, h3⟩
 ·refine .inr ⟨E, a', b', L, wb, wp, h1, by rw [h2, p.1], h3, h4, h5, h6, fun R hR hs => ?_⟩
  obtain ⟨k1, k2⟩ := h7 R hR hs
  exact ⟨permIn_trans _ _ _ a b p k1, k2⟩
end
end Go.Fn
set_option linter.unusedSimpArgs false
set_option linter.unusedVariables false
namespace Go.Fn
open Go.R Go.Sort
noncomputable def ltE (x y : Ev) : Bool := decide (x.1 < y.1) || (decide (x.1 = y.1) && decide (x.2.1 < y.2.1))
end Go.Fn
set_option linter.unusedSimpArgs false
set_option linter.unusedVariables false
namespace Go.Fn
open Go.R Go.Sort
theorem ltE_iff {x y : Ev} : ltE x y = true ↔ x.1 < y.1 ∨ (x.1 = y.1 ∧ x.2.1 < y.2.1) := by
 unfold ltE; simp
theorem ltE_tr {x y z : Ev} (h1 : ltE x y = true) (h2 : ltE y z = true) : ltE x z = true := by rw [ltE_iff] at *; omega
abbrev Srt (l : List Ev) : Prop := l.Pairwise fun x y => ltE x y = true
theorem srt_adj : ∀ (l : List Ev), (∀ n, n + 1 < l.length → ltE (l.getD n zIIIIIII) (l.getD (n + 1) zIIIIIII) = true) → Srt l
 | [], _ => List.Pairwise.nil
 | [x], _ => List.pairwise_singleton _ _
 | x :: y :: l, h => by
  have ih := srt_adj (y :: l) (fun n hn => h (n + 1) (by simpa using hn))
  have hxy : ltE x y = true := h 0 (by simp)
  refine List.Pairwise.cons (fun z hz => ?_) ih
  rcases List.mem_cons.1 hz with rfl | hz
  ·exact hxy
  ·exact ltE_tr hxy ((List.pairwise_cons.1 ih).1 z hz)
theorem jok_srt {l : List Ev} (h : jok l = true) : Srt l := by
 refine srt_adj l fun n hn => ?_
 have := jok_at h hn
 simp only [jokAt, Bool.and_eq_true, ordOk, Bool.not_eq_true', Bool.or_eq_false_iff, Bool.and_eq_false_iff, decide_eq_false_iff_not] at this
 rw [ltE_iff]
 omega
end Go.Fn
set_option linter.unusedSimpArgs false
set_option linter.unusedVariables false
namespace Go.Fn
open Go.R Go.Sort
theorem both_self {R : Type} (x : Option R) : both x x = x := by unfold both; simp
end Go.Fn
set_option linter.unusedSimpArgs false
set_option linter.unusedVariables false
namespace Go.Fn
open Go.R Go.Sort
noncomputable def aStep (node : Int) (s : Int × Int × Nat × Nat) (x : Ev) : Int × Int × Nat × Nat :=
 ((bif decide (x.1 = node) then x.2.1 + 1 else s.1), max s.2.1 (x.2.2.1 + 1), (bif decide (x.1 ≤ node) then s.2.2.2 + 1 else s.2.2.1), s.2.2.2 + 1)
noncomputable def aRun (l : List Ev) (node : Int) : Int × Int × Nat × Nat := l.foldl (aStep node) (1, 1, 0, 0)
noncomputable def newE (l : List Ev) (node kind parcel a b : Int) : Ev := (node, (aRun l node).1, (aRun l node).2.1, kind, parcel, a, b)
noncomputable def withE (l : List Ev) (node kind parcel a b : Int) : List Ev := l.take (aRun l node).2.2.1 ++ [newE l node kind parcel a b] ++ l.drop (aRun l node).2.2.1
noncomputable def addEv (l : List Ev) (node kind parcel a b : Int) : List Ev × Bool := bif jok l then bif jok (withE l node kind parcel a b) then (withE l node kind parcel a b, true) else (l, false) else (l, false)
structure AInv (node : Int) (p : List Ev) (s : Int × Int × Nat × Nat) : Prop where
 c : s.2.2.2 = p.length
 at_le : s.2.2.1 ≤ p.length
 s1 : ∀ x, x ∈ p → x.1 = node → x.2.1 < s.1
 s2 : s.1 = 1 ∨ ∃ x, x ∈ p ∧ x.1 = node ∧ s.1 = x.2.1 + 1
 p1 : ∀ x, x ∈ p → x.2.2.1 < s.2.1
 p2 : s.2.1 = 1 ∨ ∃ x, x ∈ p ∧ s.2.1 = x.2.2.1 + 1
 a1 : ∀ x, x ∈ p.take s.2.2.1 → x.1 ≤ node
 a2 : ∀ x, x ∈ p.drop s.2.2.1 → node < x.1
theorem aInv_step {node : Int} {p : List Ev} {s : Int × Int × Nat × Nat} {x : Ev} (h : AInv node p s) (hp : Srt (p ++ [x])) : AInv node (p ++ [x]) (aStep node s x) := by
 have hlt : ∀ y, y ∈ p → ltE y x = true := fun y hy => (List.pairwise_append.1 hp).2.2 y hy x (List.mem_singleton.2 rfl)
 obtain ⟨h1, h2, h3, h4, h5, h6, h7, h8⟩ := h
 unfold aStep
 refine ⟨by simp [h1], ?_, fun y hy hn => ?_, ?_, fun y hy => ?_, ?_, ?_, ?_⟩
 ·cases decide (x.1 ≤ node) <;> simp <;> omega
 ·simp only []
  rcases List.mem_append.1 hy with hy | hy
  ·by_cases hx : x.1 = node
   ·rw [decide_eq_true hx]
    have := hlt y hy
    rw [ltE_iff] at this
    simp only [cond_true]; omega
   ·rw [decide_eq_false hx]
    exact h3 y hy hn
  ·rw [List.mem_singleton] at hy
   subst hy
   rw [decide_eq_true hn]
   simp only [cond_true]; omega
 ·simp only []
  by_cases hx : x.1 = node
  ·rw [decide_eq_true hx]
   exact .inr ⟨x, by simp, hx, rfl⟩
  ·rw [decide_eq_false hx]
   rcases h4 with h4 | ⟨y, hy, h4⟩
   ·exact .inl h4
   ·exact .inr ⟨y, List.mem_append_left _ hy, h4⟩
 ·simp only []
  rcases List.mem_append.1 hy with hy | hy
  ·have := h5 y hy; omega
  ·rw [List.mem_singleton] at hy
   subst hy; omega
 ·simp only []
  by_cases hm : s.2.1 ≤ x.2.2.1 + 1
  ·exact .inr ⟨x, by simp, by omega⟩
  ·rcases h6 with h6 | ⟨y, hy, h6⟩
   ·exact .inl (by omega)
   ·exact .inr ⟨y, List.mem_append_left _ hy, by omega⟩
 ·simp only []
  by_cases hx : x.1 ≤ node
  ·rw [decide_eq_true hx]
   intro y hy
   rw [cond_true, h1, List.take_of_length_le (by simp)] at hy
   rcases List.mem_append.1 hy with hy | hy
   ·have := hlt y hy; rw [ltE_iff] at this; omega
   ·rw [List.mem_singleton] at hy; subst hy; exact hx
  ·rw [decide_eq_false hx]
   intro y hy
   rw [cond_false, List.take_append_of_le_length h2] at hy
   exact h7 y hy
 ·simp only []
  by_cases hx : x.1 ≤ node
  ·rw [decide_eq_true hx]
   intro y hy
   rw [cond_true, h1, List.drop_of_length_le (by simp)] at hy
   exact absurd hy List.not_mem_nil
  ·rw [decide_eq_false hx]
   intro y hy
   rw [cond_false, List.drop_append_of_le_length h2] at hy
   rcases List.mem_append.1 hy with hy | hy
   ·exact h8 y hy
   ·rw [List.mem_singleton] at hy; subst hy; omega
theorem aInv_run (node : Int) : ∀ (l p : List Ev) (s : Int × Int × Nat × Nat), Srt (p ++ l) → AInv node p s → AInv node (p ++ l) (l.foldl (aStep node) s)
 | [], p, s, _, h => by simpa using h
 | x :: l, p, s, hp, h => by
  have e : p ++ x :: l = (p ++ [x]) ++ l := by simp
  rw [e] at hp ⊢
  exact aInv_run node l (p ++ [x]) (aStep node s x) hp (aInv_step h (List.pairwise_append.1 hp).1)
theorem aRun_inv (node : Int) {l : List Ev} (h : Srt l) : AInv node l (aRun l node) := by
 have := aInv_run node l [] (1, 1, 0, 0) (by simpa using h) ⟨rfl, Nat.le_refl _, fun x hx => absurd hx List.not_mem_nil, .inl rfl, fun x hx => absurd hx List.not_mem_nil, .inl rfl, fun x hx => absurd (List.mem_of_mem_take hx) List.not_mem_nil, fun x hx => absurd (List.mem_of_mem_drop hx) List.not_mem_nil⟩
 exact this
theorem withE_mem {l : List Ev} {node kind parcel a b : Int} (z : Ev) : z ∈ withE l node kind parcel a b ↔ z = newE l node kind parcel a b ∨ z ∈ l := by
 unfold withE
 rw [List.mem_append, List.mem_append, List.mem_singleton]
 constructor
 ·rintro ((h | h) | h)
  ·exact .inr (List.mem_of_mem_take h)
  ·exact .inl h
  ·exact .inr (List.mem_of_mem_drop h)
 ·rintro (h | h)
  ·exact .inl (.inr h)
  ·rw [← List.take_append_drop (aRun l node).2.2.1 l, List.mem_append] at h
   rcases h with h | h
   ·exact .inl (.inl h)
   ·exact .inr h
theorem withE_len {l : List Ev} (h : Srt l) (node kind parcel a b : Int) : (withE l node kind parcel a b).length = l.length + 1 := by
 have := (aRun_inv node h).at_le
 unfold withE
 simp only [List.length_append, List.length_take, List.length_drop, List.length_singleton]
 omega
end Go.Fn
set_option linter.unusedSimpArgs false
set_option linter.unusedVariables false
namespace Go.Fn
open Go.R Go.Sort
structure JInv (n : Nat) (base : List Ev) (S : Int → Prop) (l : List Ev) : Prop where
 j : jok l = true
 len : l.length ≤ n
 st : ∀ x, x ∈ l → x.2.2.1 ≤ (n : Int)
 gap : ∀ x, x ∈ l → ∀ s : Int, 1 ≤ s → s ≤ x.2.1 → ∃ y, y ∈ l ∧ y.1 = x.1 ∧ y.2.1 = s
 sub : ∀ x, x ∈ base → x ∈ l
 new : ∀ x, x ∈ l → x ∈ base ∨ S x.1
theorem JInv.mono {n m : Nat} {base : List Ev} {S : Int → Prop} {l : List Ev} (h : JInv n base S l) (hm : n ≤ m) : JInv m base S l :=
 ⟨h.j, by have := h.len; omega, fun x hx => by have := h.st x hx; omega, h.gap, h.sub, h.new⟩
theorem JInv.add {n : Nat} {base : List Ev} {S : Int → Prop} {l : List Ev} (h : JInv n base S l) {node : Int} (hS : S node) (kind parcel a b : Int) : JInv (n + 1) base S (addEv l node kind parcel a b).1 := by
 unfold addEv
 rw [h.j]
 simp only [cond_true]
 cases hw : jok (withE l node kind parcel a b) with
 | false => exact h.mono (Nat.le_succ _)
 | true =>
  have hs := jok_srt h.j
  have hi := aRun_inv node hs
  simp only [cond_true]
  refine ⟨hw, by rw [withE_len hs]; have := h.len; omega, fun x hx => ?_, fun x hx s h1 h2 => ?_, fun x hx => (withE_mem x).2 (.inr (h.sub x hx)), fun x hx => ?_⟩
  ·rcases (withE_mem x).1 hx with e | e
   ·rw [e]
    show (aRun l node).2.1 ≤ _
    rcases hi.p2 with p | ⟨y, hy, p⟩
    ·rw [p]; omega
    ·rw [p]; have := h.st y hy; omega
   ·have := h.st x e; omega
  ·rcases (withE_mem x).1 hx with e | e
   ·subst e
    have h2 : s ≤ (aRun l node).1 := h2
    by_cases e : s = (aRun l node).1
    ·exact ⟨_, hx, rfl, e.symm⟩
    ·rcases hi.s2 with p | ⟨y, hy, q, p⟩
     ·omega
     ·obtain ⟨z, hz, e1, e2⟩ := h.gap y hy s h1 (by omega)
      exact ⟨z, (withE_mem z).2 (.inr hz), by rw [e1, q]; rfl, e2⟩
   ·obtain ⟨z, hz, e1, e2⟩ := h.gap x e s h1 h2
    exact ⟨z, (withE_mem z).2 (.inr hz), e1, e2⟩
  ·rcases (withE_mem x).1 hx with e | e
   ·rw [e]; exact .inr hS
   ·exact h.new x e
end Go.Fn
set_option linter.unusedSimpArgs false
set_option linter.unusedVariables false
namespace Go.Fn
open Go.R Go.Sort
noncomputable def stp (l : List Ev) (x : Int) : Int := (l.getD x.toNat zIIIIIII).2.2.1
end Go.Fn
set_option linter.unusedSimpArgs false
set_option linter.unusedVariables false
namespace Go.Fn
open Go.R
theorem hasI_iff {l : List Int} {x : Int} : hasI l x = true ↔ x ∈ l := by
 unfold hasI
 rw [Bool.not_eq_true', ← Bool.not_eq_true, allFrom_iff]
 constructor
 ·intro h
  refine Decidable.byContradiction fun hn => h fun m _ hm => ?_
  unfold nat
  rw [Bool.not_eq_true', ← Bool.not_eq_true]
  intro he
  have he : l.getD m zI = x := eql_eq he
  exact hn (he ▸ getD_mem (by omega) zI)
 ·intro h hall
  obtain ⟨m, hm, rfl⟩ := List.getElem_of_mem h
  have := hall m (Nat.zero_le _) (by omega)
  unfold nat at this
  rw [List.getD_eq_getElem?_getD, List.getElem?_eq_getElem hm] at this
  simp [rCmp] at this
end Go.Fn
set_option linter.unusedVariables false
namespace Go.Fn
open Go.R
noncomputable def laws_markIntSS_b0 (k : Unit) (x : (List (List (Int))) × Int × Int × Unit) : Option (((List (List (Int))) × Int × Int × Unit) ⊕ ((List (List (Int))) × Int × Unit ⊕ Empty)) :=
 (bif (rCmp .lss x.2.2.1 (rLen x.1)) then (bif (rInR x.1 x.2.2.1) then ((laws_markIntS (rGet zLIl x.1 x.2.2.1) x.2.1).bind fun y0 => some (.inl ((rPut x.1 x.2.2.1 y0.2.1), y0.1, (rArith .add .i64 x.2.2.1 (1 : Int)), ()))) else none) else some (.inr (.inl (x.1, x.2.1, ()))))
noncomputable def laws_markIntSS_l0 (k : Unit) (x : (List (List (Int))) × Int × Int × Unit) : Option ((List (List (Int))) × Int × Unit ⊕ Empty) := iter (laws_markIntSS_b0 k) big x
noncomputable def laws_markIntSS (a0 : (List (List (Int)))) (a1 : Int) : Option (Int × (List (List (Int))) × Unit) :=
 ((laws_markIntSS_l0 (()) (a0, a1, (0 : Int), ())).bind fun q0 => (Sum.elim (fun y1 => some (y1.2.1, y1.1, ())) (fun q2 => (Empty.elim q2)) q0))
noncomputable def laws_markStopS_b0 (k : Unit) (x : (List (Int × Int × Int × Int × Int)) × Int × Int × Unit) : Option (((List (Int × Int × Int × Int × Int)) × Int × Int × Unit) ⊕ ((List (Int × Int × Int × Int × Int)) × Int × Unit ⊕ Empty)) :=
 (bif (rCmp .lss x.2.2.1 (rLen x.1)) then (bif (rInR x.1 x.2.2.1) then (bif (rInR (rPut x.1 x.2.2.1 (x.2.1, (rGet zIIIII x.1 x.2.2.1).2.1, (rGet zIIIII x.1 x.2.2.1).2.2.1, (rGet zIIIII x.1 x.2.2.1).2.2.2.1, (rGet zIIIII x.1 x.2.2.1).2.2.2.2)) x.2.2.1) then (lets (rPut (rPut x.1 x.2.2.1 (x.2.1, (rGet zIIIII x.1 x.2.2.1).2.1, (rGet zIIIII x.1 x.2.2.1).2.2.1, (rGet zIIIII x.1 x.2.2.1).2.2.2.1, (rGet zIIIII x.1 x.2.2.1).2.2.2.2)) x.2.2.1 ((rGet zIIIII (rPut x.1 x.2.2.1 (x.2.1, (rGet zIIIII x.1 x.2.2.1).2.1, (rGet zIIIII x.1 x.2.2.1).2.2.1, (rGet zIIIII x.1 x.2.2.1).2.2.2.1, (rGet zIIIII x.1 x.2.2.1).2.2.2.2)) x.2.2.1).1, (rArith .add .i64 x.2.1 (1 : Int)), (rGet zIIIII (rPut x.1 x.2.2.1 (x.2.1, (rGet zIIIII x.1 x.2.2.1).2.1, (rGet zIIIII x.1 x.2.2.1).2.2.1, (rGet zIIIII x.1 x.2.2.1).2.2.2.1, (rGet zIIIII x.1 x.2.2.1).2.2.2.2)) x.2.2.1).2.2.1, (rGet zIIIII (rPut x.1 x.2.2.1 (x.2.1, (rGet zIIIII x.1 x.2.2.1).2.1, (rGet zIIIII x.1 x.2.2.1).2.2.1, (rGet zIIIII x.1 x.2.2.1).2.2.2.1, (rGet zIIIII x.1 x.2.2.1).2.2.2.2)) x.2.2.1).2.2.2.1, (rGet zIIIII (rPut x.1 x.2.2.1 (x.2.1, (rGet zIIIII x.1 x.2.2.1).2.1, (rGet zIIIII x.1 x.2.2.1).2.2.1, (rGet zIIIII x.1 x.2.2.1).2.2.2.1, (rGet zIIIII x.1 x.2.2.1).2.2.2.2)) x.2.2.1).2.2.2.2)) fun v0 => (bif (rInR v0 x.2.2.1) then (lets (rPut v0 x.2.2.1 ((rGet zIIIII v0 x.2.2.1).1, (rGet zIIIII v0 x.2.2.1).2.1, (rArith .add .i64 (rArith .add .i64 x.2.1 (1 : Int)) (1 : Int)), (rGet zIIIII v0 x.2.2.1).2.2.2.1, (rGet zIIIII v0 x.2.2.1).2.2.2.2)) fun v1 => (bif (rInR v1 x.2.2.1) then (lets (rPut v1 x.2.2.1 ((rGet zIIIII v1 x.2.2.1).1, (rGet zIIIII v1 x.2.2.1).2.1, (rGet zIIIII v1 x.2.2.1).2.2.1, (rArith .add .i64 (rArith .add .i64 (rArith .add .i64 x.2.1 (1 : Int)) (1 : Int)) (1 : Int)), (rGet zIIIII v1 x.2.2.1).2.2.2.2)) fun v2 => (bif (rInR v2 x.2.2.1) then (lets (rPut v2 x.2.2.1 ((rGet zIIIII v2 x.2.2.1).1, (rGet zIIIII v2 x.2.2.1).2.1, (rGet zIIIII v2 x.2.2.1).2.2.1, (rGet zIIIII v2 x.2.2.1).2.2.2.1, (rArith .add .i64 (rArith .add .i64 (rArith .add .i64 (rArith .add .i64 x.2.1 (1 : Int)) (1 : Int)) (1 : Int)) (1 : Int)))) fun v3 => some (.inl (v3, (rArith .add .i64 (rArith .add .i64 (rArith .add .i64 (rArith .add .i64 (rArith .add .i64 x.2.1 (1 : Int)) (1 : Int)) (1 : Int)) (1 : Int)) (1 : Int)), (rArith .add .i64 x.2.2.1 (1 : Int)), ()))) else none)) else none)) else none)) else none) else none) else some (.inr (.inl (x.1, x.2.1, ()))))
noncomputable def laws_markStopS_l0 (k : Unit) (x : (List (Int × Int × Int × Int × Int)) × Int × Int × Unit) : Option ((List (Int × Int × Int × Int × Int)) × Int × Unit ⊕ Empty) := iter (laws_markStopS_b0 k) big x
noncomputable def laws_markStopS (a0 : (List (Int × Int × Int × Int × Int))) (a1 : Int) : Option (Int × (List (Int × Int × Int × Int × Int)) × Unit) :=
 ((laws_markStopS_l0 (()) (a0, a1, (0 : Int), ())).bind fun q0 => (Sum.elim (fun y1 => some (y1.2.1, y1.1, ())) (fun q2 => (Empty.elim q2)) q0))
noncomputable def laws_markRound (a0 : Int) (a1 : Int) (a2 : (List (List (Int)))) (a3 : (List (Int × Int × Int × Int × Int))) (a4 : Int) : Option (Int × (List (List (Int))) × (List (Int × Int × Int × Int × Int)) × Unit) :=
 ((laws_markIntSS a2 a4).bind fun y0 => ((laws_markStopS a3 y0.1).bind fun y1 => some (y1.1, y0.2.1, y1.2.1, ())))
end Go.Fn
set_option linter.unusedVariables false
set_option linter.unusedSimpArgs false
namespace Go.Fn
open Go.R
noncomputable def goM {α : Type} (mk : Int → α → α × Int) : List α → Int → List α × Int
 | [], k => ([], k)
 | x :: xs, k => ((mk k x).1 :: (goM mk xs (mk k x).2).1, (goM mk xs (mk k x).2).2)
theorem goM_snoc {α : Type} (mk : Int → α → α × Int) (y : α) : ∀ (l : List α) (k : Int), goM mk (l ++ [y]) k = ((goM mk l k).1 ++ [(mk (goM mk l k).2 y).1], (mk (goM mk l k).2 y).2)
 | [], k => rfl
 | x :: xs, k => by simp only [List.cons_append, goM, goM_snoc mk y xs]
theorem goM_len {α : Type} (mk : Int → α → α × Int) : ∀ (l : List α) (k : Int), (goM mk l k).1.length = l.length
 | [], k => rfl
 | x :: xs, k => by simp only [goM, List.length_cons, goM_len mk xs]
noncomputable def costs {α : Type} (cost : α → Nat) : List α → Nat
 | [] => 0
 | x :: xs => cost x + costs cost xs
theorem costs_app {α : Type} (cost : α → Nat) : ∀ (l l' : List α), costs cost (l ++ l') = costs cost l + costs cost l'
 | [], _ => by simp [costs]
 | x :: xs, l' => by simp only [List.cons_append, costs, costs_app cost xs]; omega
theorem costs_const {α : Type} (c : Nat) : ∀ l : List α, costs (fun _ => c) l = c * l.length
 | [] => rfl
 | x :: xs => by simp only [costs, costs_const c xs, List.length_cons, Nat.mul_succ]; omega
theorem costs_take {α : Type} (cost : α → Nat) (l : List α) (n : Nat) : costs cost (l.take n) ≤ costs cost l := by
 have := costs_app cost (l.take n) (l.drop n)
 rw [List.take_append_drop] at this
 omega
theorem goM_bd {α : Type} {mk : Int → α → α × Int} {cost : α → Nat} (hm : ∀ k x, k ≤ (mk k x).2 ∧ (mk k x).2 ≤ k + cost x) : ∀ (l : List α) (k : Int), k ≤ (goM mk l k).2 ∧ (goM mk l k).2 ≤ k + costs cost l
 | [], k => by simp [goM, costs]
 | x :: xs, k => by
  have h1 := hm k x
  have h2 := goM_bd hm xs (mk k x).2
  simp only [goM, costs]
  omega
theorem mark_gen {α : Type} {body : List α × Int × Int × Unit → Option ((List α × Int × Int × Unit) ⊕ (List α × Int × Unit ⊕ Empty))} {mk : Int → α → α × Int} {cost : α → Nat} (z : α) (l : List α) (k0 : Int) (hl : l.length ≤ 1073741824) (h0 : 0 ≤ k0)
  (hm : ∀ k x, k ≤ (mk k x).2 ∧ (mk k x).2 ≤ k + cost x)
  (hs : ∀ (L : List α) (k : Int) (n : Nat), n < L.length → L.length = l.length → L.getD n z = l.getD n z → 0 ≤ k → k ≤ k0 + costs cost l → body (L, k, (n : Int), ()) = some (.inl (L.set n (mk k (l.getD n z)).1, (mk k (l.getD n z)).2, ((n + 1 : Nat) : Int), ())))
  (he : ∀ (L : List α) (k : Int), body (L, k, (L.length : Int), ()) = some (.inr (.inl (L, k, ())))) : iter body big (l, k0, 0, ()) = some (.inl ((goM mk l k0).1, (goM mk l k0).2, ())) := by
 have hst : ∀ n, n ≤ l.length → ((goM mk (l.take n) k0).1 ++ l.drop n).length = l.length := by
  intro n hn
  rw [List.length_append, goM_len, List.length_take, List.length_drop]
  omega
 have := loop_end (body := body) (fun n => ((goM mk (l.take n) k0).1 ++ l.drop n, (goM mk (l.take n) k0).2, (n : Int), ())) l.length (by omega) (.inl ((goM mk l k0).1, (goM mk l k0).2, ())) (fun n hn => ?_) ?_
 ·simpa [goM] using this
 ·have hb := goM_bd hm (l.take n) k0
  have hc := costs_take cost l n
  have hgl : (goM mk (l.take n) k0).1.length = n := by rw [goM_len, List.length_take]; omega
  have hget : ((goM mk (l.take n) k0).1 ++ l.drop n).getD n z = l.getD n z := by
   rw [List.getD_eq_getElem?_getD, List.getElem?_append_right (by omega), hgl, Nat.sub_self, List.getElem?_drop, Nat.add_zero, ← List.getD_eq_getElem?_getD]
  rw [hs _ _ n (by rw [hst n (Nat.le_of_lt hn)]; exact hn) (hst n (Nat.le_of_lt hn)) hget (by omega) (by omega)]
  have htake : l.take (n + 1) = l.take n ++ [l.getD n z] := by
   rw [List.take_add_one, List.getElem?_eq_getElem hn, List.getD_eq_getElem?_getD, List.getElem?_eq_getElem hn]
   rfl
  rw [htake, goM_snoc]
  congr 3
  rw [List.set_append, if_neg (by omega), hgl, Nat.sub_self, List.drop_eq_getElem_cons hn, List.set_cons_zero, List.append_assoc]
  rfl
 ·have hlen : ((goM mk l k0).1).length = l.length := goM_len _ _ _
  have := he (goM mk l k0).1 (goM mk l k0).2
  rw [hlen] at this
  simp only [List.take_length, List.drop_length, List.append_nil]
  exact this
noncomputable def mkIs (k : Int) (x : List Int) : List Int × Int := (marksI k x.length, k + (x.length : Int))
theorem markIntSS_eq (l : List (List Int)) (k : Int) (hl : l.length ≤ 1073741824) (hr : ∀ r ∈ l, r.length ≤ 1073741824) (h0 : 0 ≤ k) (h1 : k + costs List.length l ≤ 1125899906842624) : laws_markIntSS l k = some ((goM mkIs l k).2, (goM mkIs l k).1, ()) := by
 unfold laws_markIntSS
 have : laws_markIntSS_l0 () (l, k, 0, ()) = some (.inl ((goM mkIs l k).1, (goM mkIs l k).2, ())) := by
  refine mark_gen (cost := List.length) zLIl l k hl h0 (fun k x => ⟨by show k ≤ k + (x.length : Int); omega, Int.le_refl _⟩) (fun L k' n hn hL hg hk0 hk1 => ?_) (fun L k' => ?_)
  ·have hlt : n < l.length := by omega
   have hrow : (l.getD n zLIl).length ≤ 1073741824 := hr _ (by rw [List.getD_eq_getElem?_getD, List.getElem?_eq_getElem hlt]; exact List.getElem_mem hlt)
   unfold laws_markIntSS_b0
   simp only [lss_len, inR_nat, hn, decide_true, cond_true, get_nat, hg, markIntS_eq (l.getD n zLIl) k' hrow hk0 (by omega), Option.bind_some, put_nat, succ64 (n := n) (by omega)]
   rfl
  ·unfold laws_markIntSS_b0
   simp only [lss_len, Nat.lt_irrefl, decide_false, cond_false]
 rw [this]
 rfl
noncomputable def mkStp (k : Int) (x : Stp) : Stp × Int := ((k, k + 1, k + 1 + 1, k + 1 + 1 + 1, k + 1 + 1 + 1 + 1), k + 1 + 1 + 1 + 1 + 1)
theorem markStopS_eq (l : List Stp) (k : Int) (hl : l.length ≤ 1073741824) (h0 : 0 ≤ k) (h1 : k + 5 * (l.length : Int) ≤ 1125899906842624) : laws_markStopS l k = some ((goM mkStp l k).2, (goM mkStp l k).1, ()) := by
 unfold laws_markStopS
 have : laws_markStopS_l0 () (l, k, 0, ()) = some (.inl ((goM mkStp l k).1, (goM mkStp l k).2, ())) := by
  refine mark_gen (cost := fun _ => 5) zIIIII l k hl h0 (fun k x => ⟨by show k ≤ k + 1 + 1 + 1 + 1 + 1; omega, by show k + 1 + 1 + 1 + 1 + 1 ≤ k + 5; omega⟩) (fun L q n hx hL hg hk0 hk1 => ?_) (fun L k' => ?_)
  ·rw [costs_const] at hk1
   unfold mkStp
   have a1 : rArith .add .i64 q 1 = q + 1 := add1 (by omega) (by omega)
   have a2 : rArith .add .i64 (q + 1) 1 = q + 1 + 1 := add1 (by omega) (by omega)
   have a3 : rArith .add .i64 (q + 1 + 1) 1 = q + 1 + 1 + 1 := add1 (by omega) (by omega)
   have a4 : rArith .add .i64 (q + 1 + 1 + 1) 1 = q + 1 + 1 + 1 + 1 := add1 (by omega) (by omega)
   have a5 : rArith .add .i64 (q + 1 + 1 + 1 + 1) 1 = q + 1 + 1 + 1 + 1 + 1 := add1 (by omega) (by omega)
   unfold laws_markStopS_b0
   simp only [lss_len, inR_nat, hx, decide_true, cond_true, succ64 (n := n) (by omega), put_nat, get_nat, a1, a2, a3, a4, a5]
   repeat (first | rw [lets_def] | simp only [inR_set, List.length_set, hx, decide_true, cond_true, put_nat, get_nat, getD_set_self hx, List.set_set, a5])
  ·unfold laws_markStopS_b0
   simp only [lss_len, Nat.lt_irrefl, decide_false, cond_false]
 rw [this]
 rfl
theorem costs_rows {l : List (List Int)} {b : Nat} (h : ∀ r ∈ l, r.length ≤ b) : costs List.length l ≤ l.length * b := by
 induction l with
 | nil => simp [costs]
 | cons x xs ih =>
  have h1 := h x (by simp)
  have h2 := ih fun r hr => h r (by simp [hr])
  simp only [costs, List.length_cons, Nat.succ_mul]
  omega
theorem markRound_eq (a0 a1 : Int) (g : List (List Int)) (s : List Stp) (k : Int) (hg : g.length ≤ 1048576) (hr : ∀ r ∈ g, r.length ≤ 1048576) (hs : s.length ≤ 1048576) (h0 : 0 ≤ k) (h1 : k ≤ 1048576) : ∃ g' s' k', laws_markRound a0 a1 g s k = some (k', g', s', ()) ∧ 0 ≤ k' ∧ k' ≤ 1099520000000 := by
 have hc := costs_rows hr
 have hc2 : g.length * 1048576 ≤ 1048576 * 1048576 := Nat.mul_le_mul_right _ hg
 unfold laws_markRound
 have b1 := goM_bd (mk := mkIs) (cost := List.length) (fun k x => ⟨by show k ≤ k + (x.length : Int); omega, Int.le_refl _⟩) g k
 rw [markIntSS_eq g k (by omega) (fun r h => by have := hr r h; omega) h0 (by omega)]
 simp only [Option.bind_some]
 have b2 := goM_bd (mk := mkStp) (cost := fun _ => 5) (fun k x => ⟨by show k ≤ k + 1 + 1 + 1 + 1 + 1; omega, by show k + 1 + 1 + 1 + 1 + 1 ≤ k + 5; omega⟩) s (goM mkIs g k).2
 rw [costs_const] at b2
 rw [markStopS_eq s _ (by omega) (by omega) (by omega)]
 exact ⟨_, _, _, rfl, by omega, by omega⟩
end Go.Fn
set_option linter.unusedVariables false
namespace Go.Fn
open Go.R
noncomputable def slices_Clone___int_int_ (a0 : (List (Int))) : Option ((List (Int)) × Unit) :=
 (bif (rCmp .gtr (rLen a0) (0 : Int)) then (bif (rSmall (List.append (α := Int) ([] : List (Int)) a0)) then some ((List.append (α := Int) ([] : List (Int)) a0), ()) else none) else (both (some (([] : List (Int)), ())) ((bif (rSmall (List.append (α := Int) ([] : List (Int)) a0)) then some ((List.append (α := Int) ([] : List (Int)) a0), ()) else none))))
end Go.Fn
set_option linter.unusedVariables false
namespace Go.Fn
open Go.R
noncomputable def slices_Compare___int_int__b0 (k : (List (Int)) × (List (Int)) × (List (Int)) × Int × Unit) (x : Int × Unit) : Option ((Int × Unit) ⊕ (Int × Unit ⊕ (Unit ⊕ Empty))) :=
 (bif (rCmp .lss x.1 k.2.2.2.1) then (bif (rInR k.2.2.1 x.1) then (bif (rCmp .geq x.1 (rLen k.2.1)) then some (.inr (.inl ((1 : Int), ()))) else (bif (rInR k.2.1 x.1) then ((cmp_Compare_int_ (rGet zI k.2.2.1 x.1) (rGet zI k.2.1 x.1)).bind fun y0 => (bif (rCmp .neq y0.1 (0 : Int)) then some (.inr (.inl (y0.1, ()))) else some (.inl ((rArith .add .i64 x.1 (1 : Int)), ())))) else none)) else none) else some (.inr (.inr (.inl (())))))
noncomputable def slices_Compare___int_int__l0 (k : (List (Int)) × (List (Int)) × (List (Int)) × Int × Unit) (x : Int × Unit) : Option (Int × Unit ⊕ (Unit ⊕ Empty)) := iter (slices_Compare___int_int__b0 k) big x
noncomputable def slices_Compare___int_int_ (a0 : (List (Int))) (a1 : (List (Int))) : Option (Int × Unit) :=
 ((slices_Compare___int_int__l0 (a0, a1, a0, (rLen a0), ()) ((0 : Int), ())).bind fun q0 => (Sum.elim (fun y1 => some (y1.1, ())) (fun q2 => (Sum.elim (fun y3 => (bif (rCmp .lss (rLen a0) (rLen a1)) then some ((-1 : Int), ()) else some ((0 : Int), ()))) (fun q4 => (Empty.elim q4)) q2)) q0))
noncomputable def impl_MostRide_1 (a0 : (List (Int))) (a1 : Int) (a2 : Int) (a3 : (List (List (Int)))) (a4 : (List (Int × Int × Int × Int × Int))) (a5 : Bool) (a6 : (List (Int))) (a7 : Int) : Option (Bool × (List (Int)) × Int × Unit) :=
 ((impl_ride a1 a2 a3 a4 a0).bind fun y0 => (bif y0.2.2.2.2.1 then (bif (Bool.not a5) then ((slices_Clone___int_int_ a0).bind fun y1 => some (true, y1.1, y0.2.1, ())) else (bif (rCmp .gtr (rLen a0) (rLen a6)) then ((slices_Clone___int_int_ a0).bind fun y1 => some (true, y1.1, y0.2.1, ())) else (bif (rCmp .eql (rLen a0) (rLen a6)) then (bif (rCmp .lss y0.2.1 a7) then ((slices_Clone___int_int_ a0).bind fun y1 => some (true, y1.1, y0.2.1, ())) else (bif (rCmp .eql y0.2.1 a7) then ((slices_Compare___int_int_ a0 a6).bind fun y1 => (bif (rCmp .lss y1.1 (0 : Int)) then ((slices_Clone___int_int_ a0).bind fun y2 => some (true, y2.1, y0.2.1, ())) else some (a5, a6, a7, ()))) else some (a5, a6, a7, ()))) else some (a5, a6, a7, ())))) else some (a5, a6, a7, ())))
noncomputable def impl_orders__impl_MostRide_1_b0 (rec : Int → (List (Int)) → Int → Int → (List (List (Int))) → (List (Int × Int × Int × Int × Int)) → Bool → (List (Int)) → Int → Option (Bool × (List (Int)) × Int × Unit)) (k : Int × (List (Int)) × Unit) (x : Int × Int × (List (List (Int))) × (List (Int × Int × Int × Int × Int)) × Bool × (List (Int)) × Int × Int × Unit) : Option ((Int × Int × (List (List (Int))) × (List (Int × Int × Int × Int × Int)) × Bool × (List (Int)) × Int × Int × Unit) ⊕ (Int × Int × (List (List (Int))) × (List (Int × Int × Int × Int × Int)) × Bool × (List (Int)) × Int × Unit ⊕ Empty)) :=
 (bif (rCmp .lss x.2.2.2.2.2.2.2.1 k.1) then ((slices_Contains___int_int_ k.2.1 x.2.2.2.2.2.2.2.1).bind fun y0 => (bif (Bool.not y0.1) then ((slices_Clone___int_int_ k.2.1).bind fun y1 => (bif (rSmall (List.append (α := Int) y1.1 (List.append (α := Int) ([] : List (Int)) [x.2.2.2.2.2.2.2.1]))) then ((rec k.1 (List.append (α := Int) y1.1 (List.append (α := Int) ([] : List (Int)) [x.2.2.2.2.2.2.2.1])) x.1 x.2.1 x.2.2.1 x.2.2.2.1 x.2.2.2.2.1 x.2.2.2.2.2.1 x.2.2.2.2.2.2.1).bind fun y2 => some (.inl (x.1, x.2.1, x.2.2.1, x.2.2.2.1, y2.1, y2.2.1, y2.2.2.1, (rArith .add .i64 x.2.2.2.2.2.2.2.1 (1 : Int)), ()))) else none)) else some (.inl (x.1, x.2.1, x.2.2.1, x.2.2.2.1, x.2.2.2.2.1, x.2.2.2.2.2.1, x.2.2.2.2.2.2.1, (rArith .add .i64 x.2.2.2.2.2.2.2.1 (1 : Int)), ())))) else some (.inr (.inl (x.1, x.2.1, x.2.2.1, x.2.2.2.1, x.2.2.2.2.1, x.2.2.2.2.2.1, x.2.2.2.2.2.2.1, ()))))
noncomputable def impl_orders__impl_MostRide_1_l0 (rec : Int → (List (Int)) → Int → Int → (List (List (Int))) → (List (Int × Int × Int × Int × Int)) → Bool → (List (Int)) → Int → Option (Bool × (List (Int)) × Int × Unit)) (k : Int × (List (Int)) × Unit) (x : Int × Int × (List (List (Int))) × (List (Int × Int × Int × Int × Int)) × Bool × (List (Int)) × Int × Int × Unit) : Option (Int × Int × (List (List (Int))) × (List (Int × Int × Int × Int × Int)) × Bool × (List (Int)) × Int × Unit ⊕ Empty) := iter (impl_orders__impl_MostRide_1_b0 rec k) big x
noncomputable def impl_orders__impl_MostRide_1_r (rec : Int → (List (Int)) → Int → Int → (List (List (Int))) → (List (Int × Int × Int × Int × Int)) → Bool → (List (Int)) → Int → Option (Bool × (List (Int)) × Int × Unit)) (a0 : Int) (a1 : (List (Int))) (a2 : Int) (a3 : Int) (a4 : (List (List (Int)))) (a5 : (List (Int × Int × Int × Int × Int))) (a6 : Bool) (a7 : (List (Int))) (a8 : Int) : Option (Bool × (List (Int)) × Int × Unit) :=
 ((impl_MostRide_1 a1 a2 a3 a4 a5 a6 a7 a8).bind fun y0 => ((impl_orders__impl_MostRide_1_l0 rec (a0, a1, ()) (a2, a3, a4, a5, y0.1, y0.2.1, y0.2.2.1, (0 : Int), ())).bind fun q1 => (Sum.elim (fun y2 => some (y2.2.2.2.2.1, y2.2.2.2.2.2.1, y2.2.2.2.2.2.2.1, ())) (fun q3 => (Empty.elim q3)) q1)))
noncomputable def impl_orders__impl_MostRide_1_f : Nat → Int → (List (Int)) → Int → Int → (List (List (Int))) → (List (Int × Int × Int × Int × Int)) → Bool → (List (Int)) → Int → Option (Bool × (List (Int)) × Int × Unit) | 0 => fun _ _ _ _ _ _ _ _ _ => none | n + 1 => impl_orders__impl_MostRide_1_r (impl_orders__impl_MostRide_1_f n)
noncomputable def impl_orders__impl_MostRide_1 (a0 : Int) (a1 : (List (Int))) (a2 : Int) (a3 : Int) (a4 : (List (List (Int)))) (a5 : (List (Int × Int × Int × Int × Int))) (a6 : Bool) (a7 : (List (Int))) (a8 : Int) : Option (Bool × (List (Int)) × Int × Unit) := impl_orders__impl_MostRide_1_f big a0 a1 a2 a3 a4 a5 a6 a7 a8
noncomputable def impl_MostRide (a0 : Int) (a1 : Int) (a2 : (List (List (Int)))) (a3 : (List (Int × Int × Int × Int × Int))) : Option ((List (Int)) × Int × Bool × Unit) :=
 ((impl_RoundOk a0 a1 a2 a3).bind fun y0 => (bif (Bool.not y0.1) then some (([] : List (Int)), (0 : Int), false, ()) else ((impl_orders__impl_MostRide_1 (rLen a3) ([] : List (Int)) a0 a1 a2 a3 false ([] : List (Int)) (0 : Int)).bind fun y1 => some (y1.2.1, y1.2.2.1, y1.1, ()))))
noncomputable def laws_FnExactMostRide (a0 : Int) (a1 : Int) (a2 : (List (List (Int)))) (a3 : (List (Int × Int × Int × Int × Int))) : Option (Bool × Unit) :=
 ((laws_szRound a0 a1 a2 a3 (1048576 : Int)).bind fun y0 => (bif (rCmp .lss y0.1 (0 : Int)) then some (true, ()) else ((laws_toRound a0 a1 a2 a3).bind fun y1 => ((spec_MostRide y1.1 y1.2.1 y1.2.2.1 y1.2.2.2.1).bind fun y2 => ((laws_toRound a0 a1 a2 a3).bind fun y3 => ((impl_MostRide y3.1 y3.2.1 y3.2.2.1 y3.2.2.2.1).bind fun y4 => ((laws_eqIntS y4.1 y2.1).bind fun y5 => (bif (Bool.not y5.1) then some (false, ()) else (bif (rCmp .neq y4.2.1 y2.2.1) then some (false, ()) else (bif (Bool.not (rBeq y4.2.2.1 y2.2.2.1)) then some (false, ()) else ((laws_toRound a0 a1 a2 a3).bind fun y6 => ((laws_eqRound y3.1 y3.2.1 y3.2.2.1 y3.2.2.2.1 y6.1 y6.2.1 y6.2.2.1 y6.2.2.2.1).bind fun y7 => (bif (Bool.not y7.1) then some (false, ()) else ((laws_markRound y3.1 y3.2.1 y3.2.2.1 y3.2.2.2.1 (1 : Int)).bind fun y8 => (bif (rCmp .lss y8.1 (0 : Int)) then some (false, ()) else ((laws_eqIntS y4.1 y2.1).bind fun y9 => (bif (Bool.not y9.1) then some (false, ()) else (bif (rCmp .neq y4.2.1 y2.2.1) then some (false, ()) else (bif (Bool.not (rBeq y4.2.2.1 y2.2.2.1)) then some (false, ()) else ((laws_markIntS y4.1 (1 : Int)).bind fun y10 => ((laws_heldIntS y10.2.1 (1 : Int)).bind fun y11 => (bif (rCmp .lss y11.1 (0 : Int)) then some (false, ()) else (bif (rCmp .neq y11.1 y10.1) then some (false, ()) else ((laws_toRound a0 a1 a2 a3).bind fun y12 => ((impl_MostRide y12.1 y12.2.1 y12.2.2.1 y12.2.2.2.1).bind fun y13 => ((laws_eqIntS y13.1 y2.1).bind fun y14 => (bif (Bool.not y14.1) then some (false, ()) else (bif (rCmp .neq y13.2.1 y2.2.1) then some (false, ()) else (bif (Bool.not (rBeq y13.2.2.1 y2.2.2.1)) then some (false, ()) else ((laws_heldIntS y10.2.1 (1 : Int)).bind fun y15 => (bif (rCmp .lss y15.1 (0 : Int)) then some (false, ()) else (bif (rCmp .neq y15.1 y10.1) then some (false, ()) else some (true, ())))))))))))))))))))))))))))))))))
end Go.Fn
set_option linter.unusedVariables false
set_option linter.unusedSimpArgs false
namespace Go.Fn
open Go.R
noncomputable def kid (n : Nat) : Nat → List Int → Nat → List (List Int)
 | 0, _, _ => []
 | d + 1, p, i => bif hasI p (i : Int) then [] else (p ++ [(i : Int)]) :: (List.range n).flatMap (kid n d (p ++ [(i : Int)]))
noncomputable def tree (n d : Nat) (p : List Int) : List (List Int) := p :: (List.range n).flatMap (kid n d p)
theorem kid_has {n d : Nat} {p : List Int} {i : Nat} (h : hasI p (i : Int) = true) : kid n d p i = [] := by cases d <;> simp [kid, h]
theorem kid_no {n d : Nat} {p : List Int} {i : Nat} (h : hasI p (i : Int) = false) : kid n (d + 1) p i = tree n d (p ++ [(i : Int)]) := by simp [kid, h, tree]
noncomputable def free (n : Nat) (p : List Int) : Nat := ((List.range n).filter fun i : Nat => Bool.not (hasI p (i : Int))).length
theorem filter_lt {α : Type} {q q' : α → Bool} (h : ∀ x, q' x = true → q x = true) : ∀ l : List α, (l.filter q').length ≤ (l.filter q).length ∧ ((∃ x, x ∈ l ∧ q x = true ∧ q' x = false) → (l.filter q').length < (l.filter q).length)
 | [] => ⟨Nat.le_refl _, fun ⟨x, hx, _⟩ => absurd hx List.not_mem_nil⟩
 | y :: ys => by
  obtain ⟨h1, h2⟩ := filter_lt h ys
  cases hq' : q' y with
  | true =>
   have hq := h y hq'
   simp only [List.filter_cons, hq, hq', if_true, List.length_cons]
   refine ⟨by omega, fun ⟨x, hx, a, b⟩ => ?_⟩
   rcases List.mem_cons.1 hx with rfl | hx
   ·rw [hq'] at b; cases b
   ·have := h2 ⟨x, hx, a, b⟩
    omega
  | false =>
   cases hq : q y with
   | true =>
    simp only [List.filter_cons, hq, hq', if_true, List.length_cons, Bool.false_eq_true, if_false]
    exact ⟨by omega, fun _ => by omega⟩
   | false =>
    simp only [List.filter_cons, hq, hq', Bool.false_eq_true, if_false]
    refine ⟨h1, fun ⟨x, hx, a, b⟩ => ?_⟩
    rcases List.mem_cons.1 hx with rfl | hx
    ·rw [hq] at a; cases a
    ·exact h2 ⟨x, hx, a, b⟩
theorem free_lt {n : Nat} {p : List Int} {i : Nat} (hi : i < n) (h : hasI p (i : Int) = false) : free n (p ++ [(i : Int)]) < free n p := by
 refine (filter_lt (fun x hx => ?_) _).2 ⟨i, List.mem_range.2 hi, by rw [h]; rfl, ?_⟩
 ·rw [Bool.not_eq_true'] at hx ⊢
  cases hh : hasI p (x : Int) with
  | false => rfl
  | true =>
   have : hasI (p ++ [(i : Int)]) (x : Int) = true := hasI_iff.2 (List.mem_append_left _ (hasI_iff.1 hh))
   rw [this] at hx
   cases hx
 ·have : hasI (p ++ [(i : Int)]) (i : Int) = true := hasI_iff.2 (List.mem_append_right _ (by simp))
  rw [this]
  rfl
theorem free_zero {n : Nat} {p : List Int} (h : free n p ≤ 0) {i : Nat} (hi : i < n) : hasI p (i : Int) = true := by
 cases hh : hasI p (i : Int) with
 | true => rfl
 | false => have := free_lt hi hh; omega
theorem free_nil (n : Nat) : free n [] ≤ n := by
 unfold free
 have := List.length_filter_le (fun i : Nat => Bool.not (hasI [] (i : Int))) (List.range n)
 rw [List.length_range] at this
 exact this
theorem fm_succ {β : Type} (f : Nat → List β) (i : Nat) : (List.range (i + 1)).flatMap f = (List.range i).flatMap f ++ f i := by
 rw [List.range_succ, List.flatMap_append]
 simp
theorem fm_len {β : Type} {f : Nat → List β} {b : Nat} (h : ∀ i, (f i).length ≤ b) : ∀ i, ((List.range i).flatMap f).length ≤ i * b
 | 0 => by simp
 | i + 1 => by
  have h1 := fm_len h i
  have h2 := h i
  rw [fm_succ, List.length_append, Nat.succ_mul]
  omega
noncomputable def szT (n : Nat) : Nat → Nat
 | 0 => 1
 | d + 1 => 1 + n * szT n d
theorem szT_pos (n : Nat) : ∀ d, 1 ≤ szT n d
 | 0 => Nat.le_refl _
 | d + 1 => by unfold szT; omega
theorem tree_len (n : Nat) : ∀ (d : Nat) (p : List Int), (tree n d p).length ≤ szT n d
 | 0, p => by
  have : ∀ m, (List.range m).flatMap (kid n 0 p) = [] := fun m => by
   induction m with
   | zero => rfl
   | succ m ih => rw [fm_succ, ih]; rfl
  simp [tree, this, szT]
 | d + 1, p => by
  have := fm_len (f := kid n (d + 1) p) (b := szT n d) (fun i => by
   cases h : hasI p (i : Int) with
   | true => rw [kid_has h]; exact Nat.zero_le _
   | false => rw [kid_no h]; exact tree_len n d _) n
  simp only [tree, szT, List.length_cons]
  omega
theorem tree_in (n : Nat) : ∀ (d : Nat) (p o : List Int), o ∈ tree n d p → o.length ≤ p.length + d
 | 0, p, o, h => by
  have : ∀ m, (List.range m).flatMap (kid n 0 p) = [] := fun m => by
   induction m with
   | zero => rfl
   | succ m ih => rw [fm_succ, ih]; rfl
  rw [tree, this, List.mem_singleton] at h
  subst h
  omega
 | d + 1, p, o, h => by
  rcases List.mem_cons.1 h with rfl | h
  ·omega
  ·obtain ⟨i, _, h⟩ := List.mem_flatMap.1 h
   cases hh : hasI p (i : Int) with
   | true => rw [kid_has hh] at h; exact absurd h List.not_mem_nil
   | false =>
    rw [kid_no hh] at h
    have := tree_in n d _ o h
    simp only [List.length_append, List.length_cons, List.length_nil] at this
    omega
theorem specOrders_f (n : Nat) (hn : n ≤ 1000) : ∀ (d fu : Nat) (acc : List (List Int)) (p : List Int), d < fu → free n p ≤ d → p.length + d ≤ 1000 → acc.length + szT n d ≤ 1000000 → spec_l07Orders_f fu acc p (n : Int) = some (acc ++ tree n d p, ()) := by
 intro d
 induction d with
 | zero =>
  intro fu acc p hf hfr hp ha
  obtain ⟨fu, rfl⟩ : ∃ m, fu = m + 1 := ⟨fu - 1, by omega⟩
  show spec_l07Orders_r _ acc p _ = _
  unfold spec_l07Orders_r
  have hs : rSmall (List.append acc (List.append [] [p])) = true := small_of (by show (acc ++ ([] ++ [p])).length ≤ _; simp; omega)
  rw [hs]
  have : spec_l07Orders_l0 (spec_l07Orders_f fu) (p, (n : Int), ()) (List.append acc (List.append [] [p]), 0, ()) = some (.inl (acc ++ tree n 0 p, ())) := by
   refine loop_end (fun i => (acc ++ [p], (i : Int), ())) n (by omega) _ (fun i hi => ?_) ?_
   ·unfold spec_l07Orders_b0
    simp only [lss_nat, hi, decide_true, cond_true, specHas_eq p i (by omega), free_zero hfr hi, Option.bind_some, Bool.not_true, cond_false, succ64 (n := i) (by omega)]
   ·unfold spec_l07Orders_b0
    have : ∀ m, (List.range m).flatMap (kid n 0 p) = [] := fun m => by
     induction m with
     | zero => rfl
     | succ m ih => rw [fm_succ, ih]; rfl
    simp only [lss_nat, Nat.lt_irrefl, decide_false, cond_false, tree, this]
  rw [this]
  rfl
 | succ d ih =>
  intro fu acc p hf hfr hp ha
  obtain ⟨fu, rfl⟩ : ∃ m, fu = m + 1 := ⟨fu - 1, by omega⟩
  show spec_l07Orders_r _ acc p _ = _
  unfold spec_l07Orders_r
  have hpos := szT_pos n (d + 1)
  have hs : rSmall (List.append acc (List.append [] [p])) = true := small_of (by show (acc ++ ([] ++ [p])).length ≤ _; simp; omega)
  rw [hs]
  have : spec_l07Orders_l0 (spec_l07Orders_f fu) (p, (n : Int), ()) (List.append acc (List.append [] [p]), 0, ()) = some (.inl (acc ++ tree n (d + 1) p, ())) := by
   have := loop_end (body := spec_l07Orders_b0 (spec_l07Orders_f fu) (p, (n : Int), ())) (fun i => (acc ++ [p] ++ (List.range i).flatMap (kid n (d + 1) p), (i : Int), ())) n (by omega) (.inl (acc ++ tree n (d + 1) p, ())) (fun i hi => ?_) ?_
   ·unfold spec_l07Orders_l0; simpa using this
   ·unfold spec_l07Orders_b0
    simp only [lss_nat, hi, decide_true, cond_true, specHas_eq p i (by omega), Option.bind_some, succ64 (n := i) (by omega), fm_succ]
    cases hh : hasI p (i : Int) with
    | true => simp only [Bool.not_true, cond_false, kid_has hh, List.append_nil]
    | false =>
     have s1 : rSmall (List.append (α := Int) [] p) = true := small_of (by show ([] ++ p).length ≤ _; simp; omega)
     have s2 : rSmall (List.append (α := Int) (List.append [] p) (List.append [] [(i : Int)])) = true := small_of (by show (([] ++ p) ++ ([] ++ [(i : Int)])).length ≤ _; simp; omega)
     have hk := fm_len (f := kid n (d + 1) p) (b := szT n d) (fun i => by
      cases h : hasI p (i : Int) with
      | true => rw [kid_has h]; exact Nat.zero_le _
      | false => rw [kid_no h]; exact tree_len n d _) i
     have hle : (i + 1) * szT n d ≤ n * szT n d := Nat.mul_le_mul_right _ hi
     rw [Nat.succ_mul] at hle
     have hsz : szT n (d + 1) = 1 + n * szT n d := rfl
     have hr := ih fu (acc ++ [p] ++ (List.range i).flatMap (kid n (d + 1) p)) (p ++ [(i : Int)]) (by omega) (by have := free_lt hi hh; omega) (by simp; omega) (by simp only [List.length_append, List.length_cons, List.length_nil]; omega)
     have he : List.append (α := Int) (List.append [] p) (List.append [] [(i : Int)]) = p ++ [(i : Int)] := rfl
     rw [he] at s2
     simp only [Bool.not_false, cond_true, s1, he, s2, hr, Option.bind_some, kid_no hh]
     simp only [List.append_assoc]
   ·unfold spec_l07Orders_b0
    simp only [lss_nat, Nat.lt_irrefl, decide_false, cond_false, tree, List.append_assoc, List.cons_append, List.nil_append]
  rw [this]
  rfl
theorem orders_gen {S : Type} (n : Nat) (stp : S → List Int → S) (F : Nat → List Int → S → Option S)
  (h : ∀ (fu : Nat) (p : List Int) (st : S) (ch : Nat → List (List Int)), p.length ≤ 1000 → (∀ i, i < n → hasI p (i : Int) = true → ch i = []) → (∀ i st, i < n → hasI p (i : Int) = false → F fu (p ++ [(i : Int)]) st = some ((ch i).foldl stp st)) → F (fu + 1) p st = some (((List.range n).flatMap ch).foldl stp (stp st p))) :
  ∀ (d fu : Nat) (p : List Int) (st : S), d < fu → free n p ≤ d → p.length + d ≤ 1000 → F fu p st = some ((tree n d p).foldl stp st) := by
 intro d
 induction d with
 | zero =>
  intro fu p st hf hfr hp
  obtain ⟨fu, rfl⟩ : ∃ m, fu = m + 1 := ⟨fu - 1, by omega⟩
  exact h fu p st (kid n 0 p) (by omega) (fun i hi hh => rfl) (fun i st hi hh => by rw [free_zero hfr hi] at hh; cases hh)
 | succ d ih =>
  intro fu p st hf hfr hp
  obtain ⟨fu, rfl⟩ : ∃ m, fu = m + 1 := ⟨fu - 1, by omega⟩
  refine h fu p st (kid n (d + 1) p) (by omega) (fun i hi hh => kid_has hh) (fun i st hi hh => ?_)
  rw [kid_no hh]
  exact ih fu _ st (by omega) (by have := free_lt hi hh; omega) (by simp; omega)
theorem clone_eq (l : List Int) (h : l.length ≤ 1073741824) : slices_Clone___int_int_ l = some (l, ()) := by
 unfold slices_Clone___int_int_
 have hs : rSmall (List.append (α := Int) [] l) = true := small_of h
 cases l with
 | nil => simp only [hs, cond_true]; rw [show rCmp .gtr (rLen ([] : List Int)) 0 = false from rfl]; exact both_self _
 | cons x l => rw [show rCmp .gtr (rLen (x :: l)) 0 = true from by simp [rCmp, rLen]]; simp only [hs, cond_true]; rfl
theorem gtr_lens {α β : Type} (l : List α) (m : List β) : rCmp .gtr (rLen l) (rLen m) = decide (m.length < l.length) := by simp [rCmp, rLen]
theorem lss_lens {α β : Type} (l : List α) (m : List β) : rCmp .lss (rLen l) (rLen m) = decide (l.length < m.length) := by simp [rCmp, rLen]
theorem eql_lens {α β : Type} (l : List α) (m : List β) : rCmp .eql (rLen l) (rLen m) = decide (l.length = m.length) := by rw [Bool.eq_iff_iff]; simp [rCmp, rLen]; omega
section
variable (a0 a1 : Int) (g : List (List Int)) (s : List Stp)
abbrev SB : Type := Bool × Int × List Int × Unit
abbrev SS : Type := List Int × Int × Bool × Unit
noncomputable def stepS (k : Nat) (st : SS) (p : List Int) : SS :=
 bif decide (p.length < k) then st else match ride a0 a1 g s p with
  | none => st
  | some v => bif Bool.not st.2.2.1 then (p, v.2.1, true, ()) else bif decide (st.1.length < p.length) then (p, v.2.1, true, ()) else
   bif decide (p.length = st.1.length) then (bif rCmp .lss v.2.1 st.2.1 then (p, v.2.1, true, ()) else st) else st
theorem specBest_loop (k : Nat) (L : List (List Int)) (hL : L.length ≤ 1000000) (ho : ∀ o, o ∈ L → o.length ≤ 1000) : spec_l07Best_l0 ((k : Int), a0, a1, g, s, ()) ([], 0, false, L, 0, ()) = some (.inl (L.foldl (stepS a0 a1 g s k) ([], 0, false, ()))) := by
 unfold spec_l07Best_l0
 have := loop_end (body := spec_l07Best_b0 ((k : Int), a0, a1, g, s, ())) (fun i => (((L.take i).foldl (stepS a0 a1 g s k) ([], 0, false, ())).1, ((L.take i).foldl (stepS a0 a1 g s k) ([], 0, false, ())).2.1, ((L.take i).foldl (stepS a0 a1 g s k) ([], 0, false, ())).2.2.1, L, (i : Int), ())) L.length (by omega) (.inl (L.foldl (stepS a0 a1 g s k) ([], 0, false, ()))) (fun i hi => ?_) ?_
 ·simpa using this
 ·have hol := ho _ (getD_mem hi zLIl)
  have htake : L.take (i + 1) = L.take i ++ [L.getD i zLIl] := by
   rw [List.take_add_one, List.getElem?_eq_getElem hi, List.getD_eq_getElem?_getD, List.getElem?_eq_getElem hi]
   rfl
  rw [htake]
  simp only [List.foldl_append, List.foldl_cons, List.foldl_nil]
  generalize (L.take i).foldl (stepS a0 a1 g s k) ([], 0, false, ()) = st
  obtain ⟨y, hy, hm⟩ := specRide_eq a0 a1 g s (L.getD i zLIl) (by omega)
  have hlk : rCmp .lss (rLen (L.getD i zLIl)) (k : Int) = decide ((L.getD i zLIl).length < k) := by simp [rCmp, rLen]
  unfold spec_l07Best_b0 spec_Ride
  simp only [lss_len, hi, decide_true, cond_true, inR_nat, get_nat, cond_false, hy, Option.bind_some, succ64 (n := i) (by omega), hlk, gtr_lens, eql_lens]
  unfold stepS
  cases decide ((L.getD i zLIl).length < k) with
  | true => rfl
  | false =>
   simp only [cond_false]
   cases hr : ride a0 a1 g s (L.getD i zLIl) with
   | none =>
    rw [hr] at hm
    have hm : y.2.2.2.2.1 = false := hm
    simp only [hm, Bool.not_false, cond_true, cond_false, Option.bind_some]
   | some v =>
    obtain ⟨vb, ve, vp, vw⟩ := v
    rw [hr] at hm
    have hm : y = (vb, ve, vp, vw, true, ()) := hm
    subst hm
    simp only [Bool.not_true, cond_false, cond_true, Option.bind_some]
    cases hq : st.2.2.1 with
    | false => rfl
    | true =>
     simp only [Bool.not_true, cond_false]
     cases decide (st.1.length < (L.getD i zLIl).length) with
     | true => rfl
     | false =>
      simp only [cond_false]
      cases decide ((L.getD i zLIl).length = st.1.length) with
      | false => simp only [cond_false, hq]
      | true =>
       simp only [cond_true]
       cases rCmp .lss ve st.2.1 with
       | true => rfl
       | false => simp only [cond_false, hq]
 ·unfold spec_l07Best_b0
  simp only [lss_len, Nat.lt_irrefl, decide_false, cond_false, List.take_length]
abbrev SM : Type := Bool × List Int × Int × Unit
noncomputable def cmp1 (a b : Int) : Int := bif rCmp .lss a b then -1 else bif rCmp .gtr a b then 1 else 0
theorem cmpI (a b : Int) : cmp_Compare_int_ a b = some (cmp1 a b, ()) := by
 unfold cmp_Compare_int_ cmp_isNaN_int_ cmp1
 simp only [neq_self, Option.bind_some, cond_false]
 cases rCmp .lss a b <;> cases rCmp .gtr a b <;> rfl
noncomputable def lex0 : List Int → List Int → Option Int
 | [], _ => none
 | _ :: _, [] => some 1
 | x :: xs, y :: ys => bif rCmp .neq (cmp1 x y) 0 then some (cmp1 x y) else lex0 xs ys
noncomputable def lexc (a b : List Int) : Int := match lex0 a b with | some c => c | none => bif decide (a.length < b.length) then -1 else 0
theorem lex0_drop (a b : List Int) {i : Nat} (hi : i < a.length) : lex0 (a.drop i) (b.drop i) = if i < b.length then (bif rCmp .neq (cmp1 (a.getD i zI) (b.getD i zI)) 0 then some (cmp1 (a.getD i zI) (b.getD i zI)) else lex0 (a.drop (i + 1)) (b.drop (i + 1))) else some 1 := by
 rw [drop_getD hi zI]
 by_cases hb : i < b.length
 ·rw [if_pos hb, drop_getD hb zI]; rfl
 ·rw [if_neg hb, List.drop_eq_nil_of_le (as := b) (by omega)]; rfl
theorem compareL_eq (a b : List Int) (ha : a.length ≤ 1000) (hb : b.length ≤ 1000) : slices_Compare___int_int_ a b = some (lexc a b, ()) := by
 unfold slices_Compare___int_int_ lexc
 have : slices_Compare___int_int__l0 (a, b, a, rLen a, ()) (0, ()) = some (match lex0 a b with | some c => .inl (c, ()) | none => .inr (.inl ())) := by
  have := loop_st (body := slices_Compare___int_int__b0 (a, b, a, rLen a, ())) (fun i => ((i : Int), ())) a.length (by omega) (fun i => match lex0 (a.drop i) (b.drop i) with | some c => .inl (c, ()) | none => .inr (.inl ())) (fun i hi => ?_) ?_
  ·unfold slices_Compare___int_int__l0; simpa using this
  ·unfold slices_Compare___int_int__b0
   have hg : rCmp .geq (i : Int) (rLen b) = decide (b.length ≤ i) := by simp [rCmp, rLen]
   simp only [lss_len, hi, decide_true, cond_true, inR_nat, get_nat, hg, cmpI, Option.bind_some, succ64 (n := i) (by omega), lex0_drop a b hi]
   by_cases hb' : i < b.length
   ·rw [if_pos hb', decide_eq_false (by omega : ¬ b.length ≤ i), decide_eq_true hb']
    simp only [cond_false, cond_true]
    cases rCmp .neq (cmp1 (a.getD i zI) (b.getD i zI)) 0 with
    | true => exact .inr rfl
    | false => exact .inl ⟨rfl, rfl⟩
   ·rw [if_neg hb', decide_eq_true (by omega : b.length ≤ i)]
    exact .inr rfl
  ·unfold slices_Compare___int_int__b0
   simp only [lss_len, Nat.lt_irrefl, decide_false, cond_false, List.drop_length]
   rfl
 rw [this]
 cases lex0 a b with
 | some c => rfl
 | none =>
  simp only [Option.bind_some, Sum.elim_inr, Sum.elim_inl, lss_lens]
  cases decide (a.length < b.length) <;> rfl
theorem lex_gt {i j : Int} (h : i < j) (u v : List Int) : ∀ p : List Int, lex0 (p ++ j :: u) (p ++ i :: v) = some 1
 | [] => by
  have h1 : rCmp .lss j i = false := decide_eq_false (by omega)
  have h2 : rCmp .gtr j i = true := decide_eq_true (by omega)
  have h3 : cmp1 j i = 1 := by unfold cmp1; rw [h1, h2]; rfl
  show (bif rCmp .neq (cmp1 j i) 0 then some (cmp1 j i) else _) = _
  rw [h3]
  rfl
 | x :: p => by
  have h1 : rCmp .lss x x = false := decide_eq_false (by omega)
  have h2 : rCmp .gtr x x = false := decide_eq_false (by omega)
  have h3 : cmp1 x x = 0 := by unfold cmp1; rw [h1, h2]; rfl
  show (bif rCmp .neq (cmp1 x x) 0 then some (cmp1 x x) else lex0 (p ++ j :: u) (p ++ i :: v)) = _
  rw [h3, lex_gt h u v p]
  rfl
noncomputable def Aft (a b : List Int) : Prop := a.length = b.length → lexc b a = 1
theorem kid_form (n : Nat) : ∀ (d : Nat) (p o : List Int) (i : Nat), o ∈ kid n d p i → ∃ u, o = p ++ (i : Int) :: u
 | 0, p, o, i, h => absurd h List.not_mem_nil
 | d + 1, p, o, i, h => by
  cases hh : hasI p (i : Int) with
  | true => rw [kid_has hh] at h; exact absurd h List.not_mem_nil
  | false =>
   rw [kid_no hh] at h
   rcases List.mem_cons.1 h with rfl | h
   ·exact ⟨[], rfl⟩
   ·obtain ⟨j, _, h⟩ := List.mem_flatMap.1 h
    obtain ⟨u, rfl⟩ := kid_form n d _ o j h
    exact ⟨(j : Int) :: u, by simp⟩
theorem tree_pair (n : Nat) : ∀ (d : Nat) (p : List Int), (tree n d p).Pairwise Aft := by
 intro d
 induction d with
 | zero =>
  intro p
  have : ∀ m, (List.range m).flatMap (kid n 0 p) = [] := fun m => by
   induction m with
   | zero => rfl
   | succ m ih => rw [fm_succ, ih]; rfl
  rw [tree, this]
  exact List.pairwise_singleton _ _
 | succ d ih =>
  intro p
  refine List.pairwise_cons.2 ⟨fun o ho he => ?_, ?_⟩
  ·obtain ⟨j, _, h⟩ := List.mem_flatMap.1 ho
   obtain ⟨u, rfl⟩ := kid_form n _ _ o j h
   simp only [List.length_append, List.length_cons] at he
   omega
  ·suffices ∀ m, ((List.range m).flatMap (kid n (d + 1) p)).Pairwise Aft from this n
   intro m
   induction m with
   | zero => exact List.Pairwise.nil
   | succ m ihm =>
    rw [fm_succ]
    refine List.pairwise_append.2 ⟨ihm, ?_, fun a ha b hb he => ?_⟩
    ·cases hh : hasI p (m : Int) with
     | true => rw [kid_has hh]; exact List.Pairwise.nil
     | false => rw [kid_no hh]; exact ih _
    ·obtain ⟨i, hi, h⟩ := List.mem_flatMap.1 ha
     have hi := List.mem_range.1 hi
     obtain ⟨u, rfl⟩ := kid_form n _ _ a i h
     obtain ⟨v, rfl⟩ := kid_form n _ _ b m hb
     unfold lexc
     rw [lex_gt (by omega) v u p]
noncomputable def stepM (st : SM) (p : List Int) : SM :=
 match ride a0 a1 g s p with
  | none => st
  | some v => bif Bool.not st.1 then (true, p, v.2.1, ()) else bif decide (st.2.1.length < p.length) then (true, p, v.2.1, ()) else
   bif decide (p.length = st.2.1.length) then (bif rCmp .lss v.2.1 st.2.2.1 then (true, p, v.2.1, ()) else bif rCmp .eql v.2.1 st.2.2.1 then (bif rCmp .lss (lexc p st.2.1) 0 then (true, p, v.2.1, ()) else st) else st) else st
theorem stepM_eq (hgr : ∀ r ∈ g, r.length ≤ 1073741824) (p : List Int) (st : SM) (hp : p.length ≤ 1000) : impl_MostRide_1 p a0 a1 g s st.1 st.2.1 st.2.2.1 = some (stepM a0 a1 g s st p) := by
 unfold impl_MostRide_1 stepM
 rw [implRide_eq a0 a1 g s p hgr (by omega)]
 simp only [Option.bind_some]
 cases ride a0 a1 g s p with
 | none => rfl
 | some v =>
  obtain ⟨vb, ve, vp, vw⟩ := v
  obtain ⟨f, b, e, u⟩ := st
  simp only [cond_true, clone_eq p (by omega), Option.bind_some, gtr_lens, eql_lens]
  cases f with
  | false => rfl
  | true =>
   simp only [Bool.not_true, cond_false]
   by_cases h1 : b.length < p.length
   ·simp only [h1, decide_true, cond_true]
   ·by_cases h2 : p.length = b.length
    ·simp only [h1, h2, decide_true, decide_false, cond_true, cond_false, compareL_eq p b hp (by omega), Option.bind_some, Nat.lt_irrefl]
     cases rCmp .lss ve e <;> cases rCmp .eql ve e <;> cases rCmp .lss (lexc p b) 0 <;> rfl
    ·simp only [h1, h2, decide_true, decide_false, cond_true, cond_false]
theorem ordersM (hgr : ∀ r ∈ g, r.length ≤ 1073741824) (n : Nat) (hn : n ≤ 1000) : impl_orders__impl_MostRide_1 (n : Int) [] a0 a1 g s false [] 0 = some ((tree n n []).foldl (stepM a0 a1 g s) (false, [], 0, ())) := by
 refine orders_gen n (stepM a0 a1 g s) (fun fu p st => impl_orders__impl_MostRide_1_f fu (n : Int) p a0 a1 g s st.1 st.2.1 st.2.2.1) (fun fu p st ch hp h1 h2 => ?_) n big [] (false, [], 0, ()) (lt_big (by omega)) (free_nil n) (by simp; omega)
 show impl_orders__impl_MostRide_1_r _ (n : Int) p a0 a1 g s st.1 st.2.1 st.2.2.1 = _
 unfold impl_orders__impl_MostRide_1_r
 rw [stepM_eq a0 a1 g s hgr p st hp]
 simp only [Option.bind_some]
 generalize stepM a0 a1 g s st p = st'
 have : impl_orders__impl_MostRide_1_l0 (impl_orders__impl_MostRide_1_f fu) ((n : Int), p, ()) (a0, a1, g, s, st'.1, st'.2.1, st'.2.2.1, 0, ()) = some (.inl (a0, a1, g, s, (((List.range n).flatMap ch).foldl (stepM a0 a1 g s) st').1, (((List.range n).flatMap ch).foldl (stepM a0 a1 g s) st').2.1, (((List.range n).flatMap ch).foldl (stepM a0 a1 g s) st').2.2.1, ())) := by
  refine loop_end (fun i => (a0, a1, g, s, (((List.range i).flatMap ch).foldl (stepM a0 a1 g s) st').1, (((List.range i).flatMap ch).foldl (stepM a0 a1 g s) st').2.1, (((List.range i).flatMap ch).foldl (stepM a0 a1 g s) st').2.2.1, (i : Int), ())) n (by omega) _ (fun i hi => ?_) ?_
  ·unfold impl_orders__impl_MostRide_1_b0
   simp only [lss_nat, hi, decide_true, cond_true, containsI_eq p i (by omega), Option.bind_some, succ64 (n := i) (by omega), fm_succ, List.foldl_append]
   cases hh : hasI p (i : Int) with
   | true => simp only [Bool.not_true, cond_false, h1 i hi hh, List.foldl_nil]
   | false =>
    have he : List.append (α := Int) p (List.append [] [(i : Int)]) = p ++ [(i : Int)] := rfl
    have s2 : rSmall (p ++ [(i : Int)]) = true := small_of (by simp; omega)
    have hq := h2 i (((List.range i).flatMap ch).foldl (stepM a0 a1 g s) st') hi hh
    simp only [Bool.not_false, cond_true, clone_eq p (by omega), Option.bind_some, he, s2, hq]
  ·unfold impl_orders__impl_MostRide_1_b0
   simp only [lss_nat, Nat.lt_irrefl, decide_false, cond_false]
 rw [this]
 rfl
noncomputable def flipM (st : SM) : SS := (st.2.1, st.2.2.1, st.1, ())
theorem mostFold : ∀ (L P : List (List Int)) (st : SM), (P ++ L).Pairwise Aft → (st.1 = true → st.2.1 ∈ P) → L.foldl (stepS a0 a1 g s 0) (flipM st) = flipM (L.foldl (stepM a0 a1 g s) st) ∧ ((L.foldl (stepM a0 a1 g s) st).1 = false → st = L.foldl (stepM a0 a1 g s) st)
 | [], P, st, _, _ => ⟨rfl, fun _ => rfl⟩
 | o :: L, P, st, hP, hst => by
  have key : stepS a0 a1 g s 0 (flipM st) o = flipM (stepM a0 a1 g s st o) ∧ ((stepM a0 a1 g s st o).1 = true → (stepM a0 a1 g s st o).2.1 ∈ P ++ [o]) ∧ ((stepM a0 a1 g s st o).1 = false → st = stepM a0 a1 g s st o) := by
   have hold : st.1 = true → st.2.1 ∈ P ++ [o] := fun h => List.mem_append_left _ (hst h)
   have hnew : o ∈ P ++ [o] := by simp
   unfold stepS stepM
   simp only [Nat.not_lt_zero, decide_false, cond_false]
   cases ride a0 a1 g s o with
   | none => exact ⟨rfl, hold, fun _ => rfl⟩
   | some v =>
    obtain ⟨f, b, e, u⟩ := st
    cases f with
    | false => exact ⟨rfl, fun _ => hnew, fun h => by cases h⟩
    | true =>
     simp only [flipM, Bool.not_true, cond_false]
     by_cases h1 : b.length < o.length
     ·simp only [h1, decide_true, cond_true]
      exact ⟨trivial, fun _ => hnew, fun h => by cases h⟩
     ·by_cases h2 : o.length = b.length
      ·have ha : Aft b o := (List.pairwise_append.1 hP).2.2 b (hst rfl) o (by simp)
       have hn : rCmp .lss (lexc o b) 0 = false := by rw [ha h2.symm]; rfl
       simp only [h2, Nat.lt_irrefl, decide_true, decide_false, cond_true, cond_false, hn]
       cases rCmp .lss v.2.1 e with
       | true => exact ⟨rfl, fun _ => hnew, fun h => by cases h⟩
       | false =>
        cases rCmp .eql v.2.1 e with
        | true => exact ⟨rfl, fun _ => hold rfl, fun _ => rfl⟩
        | false => exact ⟨rfl, fun _ => hold rfl, fun _ => rfl⟩
      ·simp only [h1, h2, decide_false, cond_false]
       exact ⟨trivial, fun _ => hold rfl, fun _ => trivial⟩
  obtain ⟨k1, k2, k3⟩ := key
  obtain ⟨h1, h2⟩ := mostFold L (P ++ [o]) (stepM a0 a1 g s st o) (by rw [List.append_assoc]; exact hP) k2
  simp only [List.foldl_cons, k1]
  refine ⟨h1, fun h => ?_⟩
  have e2 := h2 h
  rw [← e2] at h
  rw [← e2]
  exact k3 h
theorem specBest_eq (hro : roundOk a0 a1 g s = true) (k : Nat) : spec_l07Best a0 a1 g s (k : Int) = some (bif Bool.not ((tree s.length s.length []).foldl (stepS a0 a1 g s k) ([], 0, false, ())).2.2.1 then ([], 0, false, ()) else (((tree s.length s.length []).foldl (stepS a0 a1 g s k) ([], 0, false, ())).1, ((tree s.length s.length []).foldl (stepS a0 a1 g s k) ([], 0, false, ())).2.1, true, ())) := by
 obtain ⟨hs, _⟩ := roundOk_rows hro
 have hsz : szT s.length s.length ≤ 100000 := by
  have : ∀ n, n ≤ 6 → szT n n ≤ 100000 := by decide
  exact this _ hs
 unfold spec_l07Best
 rw [specRound_eq, hro]
 have hL : spec_l07Orders [] [] (rLen s) = some (tree s.length s.length [], ()) := specOrders_f s.length (by omega) s.length big [] [] (lt_big (by omega)) (free_nil _) (by simp; omega) (by simp; omega)
 have hlen := tree_len s.length s.length []
 have hloop := specBest_loop a0 a1 g s k (tree s.length s.length []) (by omega) (fun o ho => by have := tree_in _ _ _ o ho; simp at this; omega)
 simp only [Option.bind_some, Bool.not_true, cond_false, hL, hloop, Sum.elim_inl]
 cases ((tree s.length s.length []).foldl (stepS a0 a1 g s k) ([], 0, false, ())).2.2.1 <;> rfl
noncomputable def mostR : SS := bif roundOk a0 a1 g s then flipM ((tree s.length s.length []).foldl (stepM a0 a1 g s) (false, [], 0, ())) else ([], 0, false, ())
theorem implMost (hgr : ∀ r ∈ g, r.length ≤ 1073741824) : impl_MostRide a0 a1 g s = some (mostR a0 a1 g s) := by
 unfold impl_MostRide mostR
 rw [implRound_eq a0 a1 g s hgr]
 cases hro : roundOk a0 a1 g s with
 | false => rfl
 | true =>
  obtain ⟨hs, _⟩ := roundOk_rows hro
  simp only [Option.bind_some, Bool.not_true, cond_false, cond_true]
  have : impl_orders__impl_MostRide_1 (rLen s) [] a0 a1 g s false [] 0 = _ := ordersM a0 a1 g s hgr s.length (by omega)
  rw [this]
  rfl
theorem specMost : spec_MostRide a0 a1 g s = some (mostR a0 a1 g s) := by
 unfold spec_MostRide mostR
 cases hro : roundOk a0 a1 g s with
 | false =>
  unfold spec_l07Best
  rw [specRound_eq, hro]
  rfl
 | true =>
  have : spec_l07Best a0 a1 g s 0 = _ := specBest_eq a0 a1 g s hro 0
  rw [this]
  obtain ⟨h1, h2⟩ := mostFold a0 a1 g s (tree s.length s.length []) [] (false, [], 0, ()) (tree_pair _ _ _) (fun h => by cases h)
  have h1 : (tree s.length s.length []).foldl (stepS a0 a1 g s 0) ([], 0, false, ()) = _ := h1
  rw [h1]
  revert h2
  generalize (tree s.length s.length []).foldl (stepM a0 a1 g s) (false, [], 0, ()) = r
  intro h2
  obtain ⟨f, b, e, u⟩ := r
  cases f with
  | true => rfl
  | false => rw [← h2 rfl]; rfl
theorem most_in : ∀ (L : List (List Int)) (st : SM), st.2.1.length ≤ 1000 → (∀ o, o ∈ L → o.length ≤ 1000) → (L.foldl (stepM a0 a1 g s) st).2.1.length ≤ 1000
 | [], st, h, _ => h
 | o :: L, st, h, hL => by
  refine most_in L _ ?_ fun o' ho' => hL o' (by simp [ho'])
  have ho := hL o (by simp)
  unfold stepM
  cases ride a0 a1 g s o with
  | none => exact h
  | some v =>
   simp only
   cases st.1 <;> cases decide (st.2.1.length < o.length) <;> cases decide (o.length = st.2.1.length) <;> cases rCmp .lss v.2.1 st.2.2.1 <;> cases rCmp .eql v.2.1 st.2.2.1 <;> cases rCmp .lss (lexc o st.2.1) 0 <;> first | exact ho | exact h
theorem mostR_len : (mostR a0 a1 g s).1.length ≤ 1000 := by
 unfold mostR
 cases hro : roundOk a0 a1 g s with
 | false => exact Nat.zero_le _
 | true =>
  obtain ⟨hs, _⟩ := roundOk_rows hro
  exact most_in a0 a1 g s _ _ (Nat.zero_le _) fun o ho => by have := tree_in _ _ _ o ho; simp at this; omega
theorem mostRide_true (hg : g.length ≤ 9223372036854775807) (hr : ∀ r ∈ g, r.length ≤ 9223372036854775807) (hs : s.length ≤ 9223372036854775807) : laws_FnExactMostRide a0 a1 g s = some (true, ()) := by
 unfold laws_FnExactMostRide
 obtain ⟨b, h1, h2⟩ := szRound_eq a0 a1 g s 1048576 hg hr hs (by decide) (by decide)
 rw [h1]
 simp only [Option.bind_some]
 rcases h2 with rfl | ⟨q1, q2, q3, q4, q5⟩
 ·rfl
 ·rw [neg_of q1]
  have hr' : ∀ r ∈ g, r.length ≤ 1073741824 := fun r hr => by have := q4 r hr; omega
  have t := toRound_eq a0 a1 g s (by omega) hr' (by omega)
  have e := eqRound_self a0 a1 g s (by omega) hr' (by omega)
  obtain ⟨g', s', k', m1, m2, m3⟩ := markRound_eq a0 a1 g s 1 (by omega) (fun r hr => by have := q4 r hr; omega) (by omega) (by decide) (by decide)
  have hlen := mostR_len a0 a1 g s
  have hx := implMost a0 a1 g s hr'
  have hy := specMost a0 a1 g s
  revert hlen hx hy
  generalize mostR a0 a1 g s = r
  intro hlen hx hy
  have n1 : rCmp .lss k' 0 = false := neg_of (by omega)
  have n2 : rCmp .lss (1 + (r.1.length : Int)) 0 = false := neg_of (by omega)
  simp only [cond_false, t, e, hx, hy, Option.bind_some, eqIntS_self r.1 (by omega), neq_self, rBeq_self, Bool.not_true, m1, n1, n2,
   markIntS_eq r.1 1 (by omega) (by decide) (by omega), heldIntS_eq r.1.length 1 (by omega) (by decide) (by omega)]
end
end Go.Fn
