import Derived.Test.YtnadnafggjopmaaRE
import Derived.Lib.SlicesCompact
import Derived.Sort.AssemblyPlain
/- Plain functions that stand for Go functions, and what they answer. Conditions: none. -/
set_option autoImplicit false
set_option linter.unusedVariables false
set_option linter.unusedSimpArgs false
set_option linter.unusedVariables false
namespace Go.Fn
open Go.R
noncomputable def zIIIIIII : Int × Int × Int × Int × Int × Int × Int := ((0 : Int), (0 : Int), (0 : Int), (0 : Int), (0 : Int), (0 : Int), (0 : Int))
noncomputable def spec_l01In (a0 : Int) (a1 : Int) (a2 : Int) : Option (Bool × Unit) :=
 (bif (rCmp .geq a0 a1) then some ((rCmp .leq a0 a2), ()) else some (false, ()))
noncomputable def impl_within (a0 : Int) (a1 : Int) (a2 : Int) : Option (Bool × Unit) :=
 (bif (rCmp .geq a0 a1) then some ((rCmp .leq a0 a2), ()) else some (false, ()))
noncomputable def impl_timeOk (a0 : Int) : Option (Bool × Unit) :=
 ((impl_within a0 (0 : Int) (20000 : Int)).bind fun y0 => some (y0.1, ()))
end Go.Fn
set_option linter.unusedVariables false
namespace Go.Fn
open Go.R
noncomputable def zI : Int := (0 : Int)
end Go.Fn
set_option linter.unusedVariables false
namespace Go.Fn
open Go.R
noncomputable def zLIl : List (Int) := ([] : List (Int))
noncomputable def zIIIII : Int × Int × Int × Int × Int := ((0 : Int), (0 : Int), (0 : Int), (0 : Int), (0 : Int))
noncomputable def spec_RoundOk_b2 (k : Int × Int × (List (List (Int))) × (List (Int × Int × Int × Int × Int)) × Int × Unit) (x : Int × Unit) : Option ((Int × Unit) ⊕ (Bool × Unit ⊕ (Unit ⊕ Empty))) :=
 (bif (rCmp .lss x.1 (rLen k.2.2.1)) then (bif (rInR k.2.2.1 k.2.2.2.2.1) then (bif (rInR (rGet zLIl k.2.2.1 k.2.2.2.2.1) x.1) then ((spec_l01In (rGet zI (rGet zLIl k.2.2.1 k.2.2.2.2.1) x.1) (0 : Int) (200 : Int)).bind fun y0 => (bif (Bool.not y0.1) then some (.inr (.inl (false, ()))) else some (.inl ((rArith .add .i64 x.1 (1 : Int)), ())))) else none) else none) else some (.inr (.inr (.inl (())))))
noncomputable def spec_RoundOk_l2 (k : Int × Int × (List (List (Int))) × (List (Int × Int × Int × Int × Int)) × Int × Unit) (x : Int × Unit) : Option (Bool × Unit ⊕ (Unit ⊕ Empty)) := iter (spec_RoundOk_b2 k) big x
noncomputable def spec_RoundOk_b0 (k : Int × Int × (List (List (Int))) × (List (Int × Int × Int × Int × Int)) × Unit) (x : Int × Unit) : Option ((Int × Unit) ⊕ (Bool × Unit ⊕ (Unit ⊕ Empty))) :=
 (bif (rCmp .lss x.1 (rLen k.2.2.1)) then (bif (rInR k.2.2.1 x.1) then (bif (rCmp .neq (rLen (rGet zLIl k.2.2.1 x.1)) (rLen k.2.2.1)) then some (.inr (.inl (false, ()))) else ((spec_RoundOk_l2 (k.1, k.2.1, k.2.2.1, k.2.2.2.1, x.1, ()) ((0 : Int), ())).bind fun q0 => (Sum.elim (fun y1 => some (.inr (.inl (y1.1, ())))) (fun q2 => (Sum.elim (fun y3 => some (.inl ((rArith .add .i64 x.1 (1 : Int)), ()))) (fun q4 => (Empty.elim q4)) q2)) q0))) else none) else some (.inr (.inr (.inl (())))))
noncomputable def spec_RoundOk_l0 (k : Int × Int × (List (List (Int))) × (List (Int × Int × Int × Int × Int)) × Unit) (x : Int × Unit) : Option (Bool × Unit ⊕ (Unit ⊕ Empty)) := iter (spec_RoundOk_b0 k) big x
noncomputable def spec_RoundOk_b4 (k : Int × Int × (List (List (Int))) × (List (Int × Int × Int × Int × Int)) × Unit) (x : Int × Unit) : Option ((Int × Unit) ⊕ (Bool × Unit ⊕ (Unit ⊕ Empty))) :=
 (bif (rCmp .lss x.1 (rLen k.2.2.2.1)) then (bif (rInR k.2.2.2.1 x.1) then ((spec_l01In (rGet zIIIII k.2.2.2.1 x.1).2.1 (0 : Int) (20000 : Int)).bind fun y0 => (bif (Bool.not y0.1) then some (.inr (.inl (false, ()))) else ((spec_l01In (rGet zIIIII k.2.2.2.1 x.1).1 (0 : Int) (rGet zIIIII k.2.2.2.1 x.1).2.1).bind fun y1 => (bif (Bool.not y1.1) then some (.inr (.inl (false, ()))) else ((spec_l01In (rGet zIIIII k.2.2.2.1 x.1).2.2.1 (0 : Int) (200 : Int)).bind fun y2 => (bif (Bool.not y2.1) then some (.inr (.inl (false, ()))) else ((spec_l01In (rGet zIIIII k.2.2.2.1 x.1).2.2.2.1 (0 : Int) (1000 : Int)).bind fun y3 => (bif (Bool.not y3.1) then some (.inr (.inl (false, ()))) else ((spec_l01In (rGet zIIIII k.2.2.2.1 x.1).2.2.2.2 (0 : Int) (1000 : Int)).bind fun y4 => (bif (Bool.not y4.1) then some (.inr (.inl (false, ()))) else some (.inl ((rArith .add .i64 x.1 (1 : Int)), ())))))))))))) else none) else some (.inr (.inr (.inl (())))))
noncomputable def spec_RoundOk_l4 (k : Int × Int × (List (List (Int))) × (List (Int × Int × Int × Int × Int)) × Unit) (x : Int × Unit) : Option (Bool × Unit ⊕ (Unit ⊕ Empty)) := iter (spec_RoundOk_b4 k) big x
noncomputable def spec_RoundOk (a0 : Int) (a1 : Int) (a2 : (List (List (Int)))) (a3 : (List (Int × Int × Int × Int × Int))) : Option (Bool × Unit) :=
 ((spec_l01In a0 (0 : Int) (20000 : Int)).bind fun y0 => (bif (Bool.not y0.1) then some (false, ()) else ((spec_l01In a1 (0 : Int) (1000 : Int)).bind fun y1 => (bif (Bool.not y1.1) then some (false, ()) else (bif (rCmp .gtr (rLen a3) (6 : Int)) then some (false, ()) else (bif (rCmp .neq (rLen a2) (rArith .add .i64 (rLen a3) (1 : Int))) then some (false, ()) else ((spec_RoundOk_l0 (a0, a1, a2, a3, ()) ((0 : Int), ())).bind fun q2 => (Sum.elim (fun y3 => some (y3.1, ())) (fun q4 => (Sum.elim (fun y5 => ((spec_RoundOk_l4 (a0, a1, a2, a3, ()) ((0 : Int), ())).bind fun q6 => (Sum.elim (fun y7 => some (y7.1, ())) (fun q8 => (Sum.elim (fun y9 => some (true, ())) (fun q10 => (Empty.elim q10)) q8)) q6))) (fun q6 => (Empty.elim q6)) q4)) q2))))))))
noncomputable def impl_RoundOk_1 (a0 : Int) : Option (Bool × Unit) :=
 ((impl_within a0 (0 : Int) (200 : Int)).bind fun y0 => some ((Bool.not y0.1), ()))
noncomputable def slices_IndexFunc___int_int___impl_RoundOk_1_b0 (k : (List (Int)) × Int × Unit) (x : Int × Unit) : Option ((Int × Unit) ⊕ (Int × Unit ⊕ (Unit ⊕ Empty))) :=
 (bif (rCmp .lss x.1 k.2.1) then (bif (rInR k.1 x.1) then ((impl_RoundOk_1 (rGet zI k.1 x.1)).bind fun y0 => (bif y0.1 then some (.inr (.inl (x.1, ()))) else some (.inl ((rArith .add .i64 x.1 (1 : Int)), ())))) else none) else some (.inr (.inr (.inl (())))))
noncomputable def slices_IndexFunc___int_int___impl_RoundOk_1_l0 (k : (List (Int)) × Int × Unit) (x : Int × Unit) : Option (Int × Unit ⊕ (Unit ⊕ Empty)) := iter (slices_IndexFunc___int_int___impl_RoundOk_1_b0 k) big x
noncomputable def slices_IndexFunc___int_int___impl_RoundOk_1 (a0 : (List (Int))) : Option (Int × Unit) :=
 ((slices_IndexFunc___int_int___impl_RoundOk_1_l0 (a0, (rLen a0), ()) ((0 : Int), ())).bind fun q0 => (Sum.elim (fun y1 => some (y1.1, ())) (fun q2 => (Sum.elim (fun y3 => some ((-1 : Int), ())) (fun q4 => (Empty.elim q4)) q2)) q0))
noncomputable def slices_ContainsFunc___int_int___impl_RoundOk_1 (a0 : (List (Int))) : Option (Bool × Unit) :=
 ((slices_IndexFunc___int_int___impl_RoundOk_1 a0).bind fun y0 => some ((rCmp .geq y0.1 (0 : Int)), ()))
noncomputable def impl_RoundOk_b0 (k : Int × Int × (List (List (Int))) × (List (Int × Int × Int × Int × Int)) × (List (List (Int))) × Int × Unit) (x : Int × Unit) : Option ((Int × Unit) ⊕ (Bool × Unit ⊕ (Unit ⊕ Empty))) :=
 (bif (rCmp .lss x.1 k.2.2.2.2.2.1) then (bif (rInR k.2.2.2.2.1 x.1) then (bif (rCmp .neq (rLen (rGet zLIl k.2.2.2.2.1 x.1)) (rLen k.2.2.1)) then some (.inr (.inl (false, ()))) else ((slices_ContainsFunc___int_int___impl_RoundOk_1 (rGet zLIl k.2.2.2.2.1 x.1)).bind fun y0 => (bif y0.1 then some (.inr (.inl (false, ()))) else some (.inl ((rArith .add .i64 x.1 (1 : Int)), ()))))) else none) else some (.inr (.inr (.inl (())))))
noncomputable def impl_RoundOk_l0 (k : Int × Int × (List (List (Int))) × (List (Int × Int × Int × Int × Int)) × (List (List (Int))) × Int × Unit) (x : Int × Unit) : Option (Bool × Unit ⊕ (Unit ⊕ Empty)) := iter (impl_RoundOk_b0 k) big x
noncomputable def impl_RoundOk_b2 (k : (List (Int × Int × Int × Int × Int)) × Int × Unit) (x : Int × Unit) : Option ((Int × Unit) ⊕ (Bool × Unit ⊕ (Unit ⊕ Empty))) :=
 (bif (rCmp .lss x.1 k.2.1) then (bif (rInR k.1 x.1) then ((impl_timeOk (rGet zIIIII k.1 x.1).1).bind fun y0 => (bif (Bool.not y0.1) then some (.inr (.inl (false, ()))) else ((impl_timeOk (rGet zIIIII k.1 x.1).2.1).bind fun y1 => (bif (Bool.not y1.1) then some (.inr (.inl (false, ()))) else (bif (rCmp .gtr (rGet zIIIII k.1 x.1).1 (rGet zIIIII k.1 x.1).2.1) then some (.inr (.inl (false, ()))) else ((impl_within (rGet zIIIII k.1 x.1).2.2.1 (0 : Int) (200 : Int)).bind fun y2 => (bif (Bool.not y2.1) then some (.inr (.inl (false, ()))) else ((impl_within (rGet zIIIII k.1 x.1).2.2.2.1 (0 : Int) (1000 : Int)).bind fun y3 => (bif (Bool.not y3.1) then some (.inr (.inl (false, ()))) else ((impl_within (rGet zIIIII k.1 x.1).2.2.2.2 (0 : Int) (1000 : Int)).bind fun y4 => (bif (Bool.not y4.1) then some (.inr (.inl (false, ()))) else some (.inl ((rArith .add .i64 x.1 (1 : Int)), ()))))))))))))) else none) else some (.inr (.inr (.inl (())))))
noncomputable def impl_RoundOk_l2 (k : (List (Int × Int × Int × Int × Int)) × Int × Unit) (x : Int × Unit) : Option (Bool × Unit ⊕ (Unit ⊕ Empty)) := iter (impl_RoundOk_b2 k) big x
noncomputable def impl_RoundOk (a0 : Int) (a1 : Int) (a2 : (List (List (Int)))) (a3 : (List (Int × Int × Int × Int × Int))) : Option (Bool × Unit) :=
 ((impl_timeOk a0).bind fun y0 => (bif (Bool.not y0.1) then some (false, ()) else ((impl_within a1 (0 : Int) (1000 : Int)).bind fun y1 => (bif (Bool.not y1.1) then some (false, ()) else (bif (rCmp .gtr (rLen a3) (6 : Int)) then some (false, ()) else (bif (rCmp .neq (rLen a2) (rArith .add .i64 (rLen a3) (1 : Int))) then some (false, ()) else ((impl_RoundOk_l0 (a0, a1, a2, a3, a2, (rLen a2), ()) ((0 : Int), ())).bind fun q2 => (Sum.elim (fun y3 => some (y3.1, ())) (fun q4 => (Sum.elim (fun y5 => ((impl_RoundOk_l2 (a3, (rLen a3), ()) ((0 : Int), ())).bind fun q6 => (Sum.elim (fun y7 => some (y7.1, ())) (fun q8 => (Sum.elim (fun y9 => some (true, ())) (fun q10 => (Empty.elim q10)) q8)) q6))) (fun q6 => (Empty.elim q6)) q4)) q2))))))))
end Go.Fn
set_option linter.unusedVariables false
namespace Go.Fn
open Go.R
noncomputable def spec_l02Has_b0 (k : (List (Int)) × Int × Unit) (x : Int × Unit) : Option ((Int × Unit) ⊕ (Bool × Unit ⊕ (Unit ⊕ Empty))) :=
 (bif (rCmp .lss x.1 (rLen k.1)) then (bif (rInR k.1 x.1) then (bif (rCmp .eql (rGet zI k.1 x.1) k.2.1) then some (.inr (.inl (true, ()))) else some (.inl ((rArith .add .i64 x.1 (1 : Int)), ()))) else none) else some (.inr (.inr (.inl (())))))
noncomputable def spec_l02Has_l0 (k : (List (Int)) × Int × Unit) (x : Int × Unit) : Option (Bool × Unit ⊕ (Unit ⊕ Empty)) := iter (spec_l02Has_b0 k) big x
noncomputable def spec_l02Has (a0 : (List (Int))) (a1 : Int) : Option (Bool × Unit) :=
 ((spec_l02Has_l0 (a0, a1, ()) ((0 : Int), ())).bind fun q0 => (Sum.elim (fun y1 => some (y1.1, ())) (fun q2 => (Sum.elim (fun y3 => some (false, ())) (fun q4 => (Empty.elim q4)) q2)) q0))
noncomputable def spec_OrderOk_b0 (k : (List (Int)) × Int × Int × (List (List (Int))) × (List (Int × Int × Int × Int × Int)) × Unit) (x : Int × Unit) : Option ((Int × Unit) ⊕ (Bool × Unit ⊕ (Unit ⊕ Empty))) :=
 (bif (rCmp .lss x.1 (rLen k.1)) then (bif (rInR k.1 x.1) then ((spec_l01In (rGet zI k.1 x.1) (0 : Int) (rArith .sub .i64 (rLen k.2.2.2.2.1) (1 : Int))).bind fun y0 => (bif (Bool.not y0.1) then some (.inr (.inl (false, ()))) else (bif (rSubOk k.1 (0 : Int) x.1) then (bif (rInR k.1 x.1) then ((spec_l02Has (rSub k.1 (0 : Int) x.1) (rGet zI k.1 x.1)).bind fun y1 => (bif y1.1 then some (.inr (.inl (false, ()))) else some (.inl ((rArith .add .i64 x.1 (1 : Int)), ())))) else none) else none))) else none) else some (.inr (.inr (.inl (())))))
noncomputable def spec_OrderOk_l0 (k : (List (Int)) × Int × Int × (List (List (Int))) × (List (Int × Int × Int × Int × Int)) × Unit) (x : Int × Unit) : Option (Bool × Unit ⊕ (Unit ⊕ Empty)) := iter (spec_OrderOk_b0 k) big x
noncomputable def spec_OrderOk (a0 : Int) (a1 : Int) (a2 : (List (List (Int)))) (a3 : (List (Int × Int × Int × Int × Int))) (a4 : (List (Int))) : Option (Bool × Unit) :=
 ((spec_RoundOk a0 a1 a2 a3).bind fun y0 => (bif (Bool.not y0.1) then some (false, ()) else ((spec_OrderOk_l0 (a4, a0, a1, a2, a3, ()) ((0 : Int), ())).bind fun q1 => (Sum.elim (fun y2 => some (y2.1, ())) (fun q3 => (Sum.elim (fun y4 => some (true, ())) (fun q5 => (Empty.elim q5)) q3)) q1))))
noncomputable def slices_Index___int_int__b0 (k : (List (Int)) × Int × Int × Unit) (x : Int × Unit) : Option ((Int × Unit) ⊕ (Int × Unit ⊕ (Unit ⊕ Empty))) :=
 (bif (rCmp .lss x.1 k.2.2.1) then (bif (rInR k.1 x.1) then (bif (rCmp .eql k.2.1 (rGet zI k.1 x.1)) then some (.inr (.inl (x.1, ()))) else some (.inl ((rArith .add .i64 x.1 (1 : Int)), ()))) else none) else some (.inr (.inr (.inl (())))))
noncomputable def slices_Index___int_int__l0 (k : (List (Int)) × Int × Int × Unit) (x : Int × Unit) : Option (Int × Unit ⊕ (Unit ⊕ Empty)) := iter (slices_Index___int_int__b0 k) big x
noncomputable def slices_Index___int_int_ (a0 : (List (Int))) (a1 : Int) : Option (Int × Unit) :=
 ((slices_Index___int_int__l0 (a0, a1, (rLen a0), ()) ((0 : Int), ())).bind fun q0 => (Sum.elim (fun y1 => some (y1.1, ())) (fun q2 => (Sum.elim (fun y3 => some ((-1 : Int), ())) (fun q4 => (Empty.elim q4)) q2)) q0))
noncomputable def slices_Contains___int_int_ (a0 : (List (Int))) (a1 : Int) : Option (Bool × Unit) :=
 ((slices_Index___int_int_ a0 a1).bind fun y0 => some ((rCmp .geq y0.1 (0 : Int)), ()))
noncomputable def impl_OrderOk_b0 (k : (List (Int)) × Int × Int × (List (List (Int))) × (List (Int × Int × Int × Int × Int)) × (List (Int)) × Int × Unit) (x : Int × Unit) : Option ((Int × Unit) ⊕ (Bool × Unit ⊕ (Unit ⊕ Empty))) :=
 (bif (rCmp .lss x.1 k.2.2.2.2.2.2.1) then (bif (rInR k.2.2.2.2.2.1 x.1) then ((impl_within (rGet zI k.2.2.2.2.2.1 x.1) (0 : Int) (rArith .sub .i64 (rLen k.2.2.2.2.1) (1 : Int))).bind fun y0 => (bif (Bool.not y0.1) then some (.inr (.inl (false, ()))) else (bif (rSubOk k.1 (0 : Int) x.1) then ((slices_Contains___int_int_ (rSub k.1 (0 : Int) x.1) (rGet zI k.2.2.2.2.2.1 x.1)).bind fun y1 => (bif y1.1 then some (.inr (.inl (false, ()))) else some (.inl ((rArith .add .i64 x.1 (1 : Int)), ())))) else none))) else none) else some (.inr (.inr (.inl (())))))
noncomputable def impl_OrderOk_l0 (k : (List (Int)) × Int × Int × (List (List (Int))) × (List (Int × Int × Int × Int × Int)) × (List (Int)) × Int × Unit) (x : Int × Unit) : Option (Bool × Unit ⊕ (Unit ⊕ Empty)) := iter (impl_OrderOk_b0 k) big x
noncomputable def impl_OrderOk (a0 : Int) (a1 : Int) (a2 : (List (List (Int)))) (a3 : (List (Int × Int × Int × Int × Int))) (a4 : (List (Int))) : Option (Bool × Unit) :=
 ((impl_RoundOk a0 a1 a2 a3).bind fun y0 => (bif (Bool.not y0.1) then some (false, ()) else ((impl_OrderOk_l0 (a4, a0, a1, a2, a3, a4, (rLen a4), ()) ((0 : Int), ())).bind fun q1 => (Sum.elim (fun y2 => some (y2.1, ())) (fun q3 => (Sum.elim (fun y4 => some (true, ())) (fun q5 => (Empty.elim q5)) q3)) q1))))
noncomputable def spec_l07Drive_b0 (k : (List (Int)) × Int × Int × (List (List (Int))) × (List (Int × Int × Int × Int × Int)) × Unit) (x : (List (Int)) × Int × Int × Int × (List (Int)) × Int × Int × Int × Int × Int × Unit) : Option (((List (Int)) × Int × Int × Int × (List (Int)) × Int × Int × Int × Int × Int × Unit) ⊕ ((List (Int)) × Int × Int × Int × (List (Int)) × Int × Int × Int × Int × Unit ⊕ Empty)) :=
 (bif (rCmp .lss x.2.2.2.2.2.2.2.2.2.1 (rLen k.1)) then (bif (rInR k.1 x.2.2.2.2.2.2.2.2.2.1) then (bif (rInR k.2.2.2.2.1 (rGet zI k.1 x.2.2.2.2.2.2.2.2.2.1)) then some (.inl (x.1, x.2.1, x.2.2.1, x.2.2.2.1, x.2.2.2.2.1, x.2.2.2.2.2.1, x.2.2.2.2.2.2.1, x.2.2.2.2.2.2.2.1, (rArith .add .i64 x.2.2.2.2.2.2.2.2.1 (rGet zIIIII k.2.2.2.2.1 (rGet zI k.1 x.2.2.2.2.2.2.2.2.2.1)).2.2.2.1), (rArith .add .i64 x.2.2.2.2.2.2.2.2.2.1 (1 : Int)), ())) else none) else none) else some (.inr (.inl (x.1, x.2.1, x.2.2.1, x.2.2.2.1, x.2.2.2.2.1, x.2.2.2.2.2.1, x.2.2.2.2.2.2.1, x.2.2.2.2.2.2.2.1, x.2.2.2.2.2.2.2.2.1, ()))))
noncomputable def spec_l07Drive_l0 (k : (List (Int)) × Int × Int × (List (List (Int))) × (List (Int × Int × Int × Int × Int)) × Unit) (x : (List (Int)) × Int × Int × Int × (List (Int)) × Int × Int × Int × Int × Int × Unit) : Option ((List (Int)) × Int × Int × Int × (List (Int)) × Int × Int × Int × Int × Unit ⊕ Empty) := iter (spec_l07Drive_b0 k) big x
noncomputable def spec_l07Drive_b2 (k : (List (Int)) × Int × Int × (List (List (Int))) × (List (Int × Int × Int × Int × Int)) × Unit) (x : (List (Int)) × Int × Int × Int × (List (Int)) × Int × Int × Int × Int × Int × Int × Unit) : Option (((List (Int)) × Int × Int × Int × (List (Int)) × Int × Int × Int × Int × Int × Int × Unit) ⊕ ((List (Int)) × Int × Int × Int × Bool × Unit ⊕ ((List (Int)) × Int × Int × Int × (List (Int)) × Int × Int × Int × Int × Unit ⊕ Empty))) :=
 (bif (rCmp .lss x.2.2.2.2.2.2.2.2.2.2.1 (rLen k.1)) then (bif (rInR k.1 x.2.2.2.2.2.2.2.2.2.2.1) then (bif (rInR k.2.2.2.2.1 (rGet zI k.1 x.2.2.2.2.2.2.2.2.2.2.1)) then (bif (rInR k.2.2.2.1 x.2.2.2.2.2.2.2.2.2.1) then (bif (rInR k.1 x.2.2.2.2.2.2.2.2.2.2.1) then (bif (rInR (rGet zLIl k.2.2.2.1 x.2.2.2.2.2.2.2.2.2.1) (rArith .add .i64 (rGet zI k.1 x.2.2.2.2.2.2.2.2.2.2.1) (1 : Int))) then (lets (rCmp .gtr (rArith .add .i64 x.2.2.2.2.2.1 (rGet zI (rGet zLIl k.2.2.2.1 x.2.2.2.2.2.2.2.2.2.1) (rArith .add .i64 (rGet zI k.1 x.2.2.2.2.2.2.2.2.2.2.1) (1 : Int)))) (rGet zIIIII k.2.2.2.2.1 (rGet zI k.1 x.2.2.2.2.2.2.2.2.2.2.1)).2.1) fun v0 => (bif v0 then some (.inr (.inl (x.2.2.2.2.1, x.2.2.2.2.2.1, x.2.2.2.2.2.2.1, x.2.2.2.2.2.2.2.1, false, ()))) else (lets (rMxmn true (rArith .add .i64 x.2.2.2.2.2.1 (rGet zI (rGet zLIl k.2.2.2.1 x.2.2.2.2.2.2.2.2.2.1) (rArith .add .i64 (rGet zI k.1 x.2.2.2.2.2.2.2.2.2.2.1) (1 : Int)))) (rGet zIIIII k.2.2.2.2.1 (rGet zI k.1 x.2.2.2.2.2.2.2.2.2.2.1)).1) fun v1 => (bif (rSmall (List.append (α := Int) x.2.2.2.2.1 (List.append (α := Int) ([] : List (Int)) [v1]))) then (lets (rArith .sub .i64 (rArith .add .i64 x.2.2.2.2.2.2.2.1 v1) (rArith .add .i64 x.2.2.2.2.2.1 (rGet zI (rGet zLIl k.2.2.2.1 x.2.2.2.2.2.2.2.2.2.1) (rArith .add .i64 (rGet zI k.1 x.2.2.2.2.2.2.2.2.2.2.1) (1 : Int))))) fun v2 => (lets (rArith .add .i64 (rArith .sub .i64 x.2.2.2.2.2.2.2.2.1 (rGet zIIIII k.2.2.2.2.1 (rGet zI k.1 x.2.2.2.2.2.2.2.2.2.2.1)).2.2.2.1) (rGet zIIIII k.2.2.2.2.1 (rGet zI k.1 x.2.2.2.2.2.2.2.2.2.2.1)).2.2.2.2) fun v3 => (bif (rInR k.1 x.2.2.2.2.2.2.2.2.2.2.1) then some (.inl (x.1, x.2.1, x.2.2.1, x.2.2.2.1, (List.append (α := Int) x.2.2.2.2.1 (List.append (α := Int) ([] : List (Int)) [v1])), (rArith .add .i64 v1 (rGet zIIIII k.2.2.2.2.1 (rGet zI k.1 x.2.2.2.2.2.2.2.2.2.2.1)).2.2.1), (rMxmn true x.2.2.2.2.2.2.1 v3), v2, v3, (rArith .add .i64 (rGet zI k.1 x.2.2.2.2.2.2.2.2.2.2.1) (1 : Int)), (rArith .add .i64 x.2.2.2.2.2.2.2.2.2.2.1 (1 : Int)), ())) else none))) else none)))) else none) else none) else none) else none) else none) else some (.inr (.inr (.inl (x.1, x.2.1, x.2.2.1, x.2.2.2.1, x.2.2.2.2.1, x.2.2.2.2.2.1, x.2.2.2.2.2.2.1, x.2.2.2.2.2.2.2.1, x.2.2.2.2.2.2.2.2.2.1, ())))))
noncomputable def spec_l07Drive_l2 (k : (List (Int)) × Int × Int × (List (List (Int))) × (List (Int × Int × Int × Int × Int)) × Unit) (x : (List (Int)) × Int × Int × Int × (List (Int)) × Int × Int × Int × Int × Int × Int × Unit) : Option ((List (Int)) × Int × Int × Int × Bool × Unit ⊕ ((List (Int)) × Int × Int × Int × (List (Int)) × Int × Int × Int × Int × Unit ⊕ Empty)) := iter (spec_l07Drive_b2 k) big x
noncomputable def spec_l07Drive (a0 : Int) (a1 : Int) (a2 : (List (List (Int)))) (a3 : (List (Int × Int × Int × Int × Int))) (a4 : (List (Int))) : Option ((List (Int)) × Int × Int × Int × Bool × Unit) :=
 ((spec_OrderOk a0 a1 a2 a3 a4).bind fun y0 => (bif (Bool.not y0.1) then some (([] : List (Int)), a0, (0 : Int), (0 : Int), false, ()) else ((spec_l07Drive_l0 (a4, a0, a1, a2, a3, ()) (([] : List (Int)), (0 : Int), (0 : Int), (0 : Int), ([] : List (Int)), a0, (0 : Int), (0 : Int), (0 : Int), (0 : Int), ())).bind fun q1 => (Sum.elim (fun y2 => ((spec_l07Drive_l2 (a4, a0, a1, a2, a3, ()) (y2.1, y2.2.1, y2.2.2.1, y2.2.2.2.1, y2.2.2.2.2.1, y2.2.2.2.2.2.1, y2.2.2.2.2.2.2.2.2.1, y2.2.2.2.2.2.2.2.1, y2.2.2.2.2.2.2.2.2.1, (0 : Int), (0 : Int), ())).bind fun q3 => (Sum.elim (fun y4 => some (y4.1, y4.2.1, y4.2.2.1, y4.2.2.2.1, y4.2.2.2.2.1, ())) (fun q5 => (Sum.elim (fun y6 => (bif (rCmp .gtr (rLen a4) (0 : Int)) then (bif (rInR a2 y6.2.2.2.2.2.2.2.2.1) then (bif (rInR (rGet zLIl a2 y6.2.2.2.2.2.2.2.2.1) (0 : Int)) then some (y6.2.2.2.2.1, (rArith .add .i64 y6.2.2.2.2.2.1 (rGet zI (rGet zLIl a2 y6.2.2.2.2.2.2.2.2.1) (0 : Int))), y6.2.2.2.2.2.2.1, y6.2.2.2.2.2.2.2.1, (rCmp .leq y6.2.2.2.2.2.2.1 a1), ()) else none) else none) else some (y6.2.2.2.2.1, y6.2.2.2.2.2.1, y6.2.2.2.2.2.2.1, y6.2.2.2.2.2.2.2.1, (rCmp .leq y6.2.2.2.2.2.2.1 a1), ()))) (fun q7 => (Empty.elim q7)) q5)) q3))) (fun q3 => (Empty.elim q3)) q1))))
noncomputable def impl_ride_b0 (k : (List (Int)) × Int × Int × (List (List (Int))) × (List (Int × Int × Int × Int × Int)) × (List (Int)) × Int × Unit) (x : (List (Int)) × Int × Int × Int × Int × Int × Unit) : Option (((List (Int)) × Int × Int × Int × Int × Int × Unit) ⊕ ((List (Int)) × Int × Int × Int × Int × Unit ⊕ Empty)) :=
 (bif (rCmp .lss x.2.2.2.2.2.1 k.2.2.2.2.2.2.1) then (bif (rInR k.2.2.2.2.2.1 x.2.2.2.2.2.1) then (bif (rInR k.2.2.2.2.1 (rGet zI k.2.2.2.2.2.1 x.2.2.2.2.2.1)) then some (.inl (x.1, x.2.1, x.2.2.1, x.2.2.2.1, (rArith .add .i64 x.2.2.2.2.1 (rGet zIIIII k.2.2.2.2.1 (rGet zI k.2.2.2.2.2.1 x.2.2.2.2.2.1)).2.2.2.1), (rArith .add .i64 x.2.2.2.2.2.1 (1 : Int)), ())) else none) else none) else some (.inr (.inl (x.1, x.2.1, x.2.2.1, x.2.2.2.1, x.2.2.2.2.1, ()))))
noncomputable def impl_ride_l0 (k : (List (Int)) × Int × Int × (List (List (Int))) × (List (Int × Int × Int × Int × Int)) × (List (Int)) × Int × Unit) (x : (List (Int)) × Int × Int × Int × Int × Int × Unit) : Option ((List (Int)) × Int × Int × Int × Int × Unit ⊕ Empty) := iter (impl_ride_b0 k) big x
noncomputable def impl_ride_b2 (k : (List (Int)) × Int × Int × (List (List (Int))) × (List (Int × Int × Int × Int × Int)) × (List (Int)) × Int × Unit) (x : (List (Int)) × Int × Int × Int × Int × (List (Int)) × Int × Int × Int × Int × Int × Unit) : Option (((List (Int)) × Int × Int × Int × Int × (List (Int)) × Int × Int × Int × Int × Int × Unit) ⊕ ((List (Int)) × Int × Int × Int × Bool × Unit ⊕ ((List (Int)) × Int × Int × Int × (List (Int)) × Int × Int × Int × Int × Unit ⊕ Empty))) :=
 (bif (rCmp .lss x.2.2.2.2.2.2.2.2.2.2.1 k.2.2.2.2.2.2.1) then (bif (rInR k.2.2.2.2.2.1 x.2.2.2.2.2.2.2.2.2.2.1) then (bif (rInR k.2.2.2.2.1 (rGet zI k.2.2.2.2.2.1 x.2.2.2.2.2.2.2.2.2.2.1)) then (bif (rInR k.2.2.2.1 x.2.2.2.2.2.2.2.2.2.1) then (bif (rInR (rGet zLIl k.2.2.2.1 x.2.2.2.2.2.2.2.2.2.1) (rArith .add .i64 (rGet zI k.2.2.2.2.2.1 x.2.2.2.2.2.2.2.2.2.2.1) (1 : Int))) then (lets (rArith .add .i64 x.2.2.2.2.2.2.1 (rGet zI (rGet zLIl k.2.2.2.1 x.2.2.2.2.2.2.2.2.2.1) (rArith .add .i64 (rGet zI k.2.2.2.2.2.1 x.2.2.2.2.2.2.2.2.2.2.1) (1 : Int)))) fun v0 => (bif (rCmp .gtr v0 (rGet zIIIII k.2.2.2.2.1 (rGet zI k.2.2.2.2.2.1 x.2.2.2.2.2.2.2.2.2.2.1)).2.1) then some (.inr (.inl (([] : List (Int)), (0 : Int), (0 : Int), (0 : Int), false, ()))) else (bif (rSmall (List.append (α := Int) x.2.2.2.2.2.1 (List.append (α := Int) ([] : List (Int)) [(rMxmn true v0 (rGet zIIIII k.2.2.2.2.1 (rGet zI k.2.2.2.2.2.1 x.2.2.2.2.2.2.2.2.2.2.1)).1)]))) then (lets (rArith .sub .i64 (rGet zIIIII k.2.2.2.2.1 (rGet zI k.2.2.2.2.2.1 x.2.2.2.2.2.2.2.2.2.2.1)).2.2.2.2 (rGet zIIIII k.2.2.2.2.1 (rGet zI k.2.2.2.2.2.1 x.2.2.2.2.2.2.2.2.2.2.1)).2.2.2.1) fun v1 => (lets (rArith .add .i64 (rMxmn true v0 (rGet zIIIII k.2.2.2.2.1 (rGet zI k.2.2.2.2.2.1 x.2.2.2.2.2.2.2.2.2.2.1)).1) (rGet zIIIII k.2.2.2.2.1 (rGet zI k.2.2.2.2.2.1 x.2.2.2.2.2.2.2.2.2.2.1)).2.2.1) fun v2 => some (.inl (x.1, x.2.1, x.2.2.1, x.2.2.2.1, (rArith .add .i64 x.2.2.2.2.1 v1), (List.append (α := Int) x.2.2.2.2.2.1 (List.append (α := Int) ([] : List (Int)) [(rMxmn true v0 (rGet zIIIII k.2.2.2.2.1 (rGet zI k.2.2.2.2.2.1 x.2.2.2.2.2.2.2.2.2.2.1)).1)])), v2, (rMxmn true x.2.2.2.2.2.2.2.1 (rArith .add .i64 x.2.2.2.2.1 v1)), (rArith .add .i64 x.2.2.2.2.2.2.2.2.1 (rArith .sub .i64 (rMxmn true v0 (rGet zIIIII k.2.2.2.2.1 (rGet zI k.2.2.2.2.2.1 x.2.2.2.2.2.2.2.2.2.2.1)).1) v0)), (rArith .add .i64 (rGet zI k.2.2.2.2.2.1 x.2.2.2.2.2.2.2.2.2.2.1) (1 : Int)), (rArith .add .i64 x.2.2.2.2.2.2.2.2.2.2.1 (1 : Int)), ())))) else none))) else none) else none) else none) else none) else some (.inr (.inr (.inl (x.1, x.2.1, x.2.2.1, x.2.2.2.1, x.2.2.2.2.2.1, x.2.2.2.2.2.2.1, x.2.2.2.2.2.2.2.1, x.2.2.2.2.2.2.2.2.1, x.2.2.2.2.2.2.2.2.2.1, ())))))
noncomputable def impl_ride_l2 (k : (List (Int)) × Int × Int × (List (List (Int))) × (List (Int × Int × Int × Int × Int)) × (List (Int)) × Int × Unit) (x : (List (Int)) × Int × Int × Int × Int × (List (Int)) × Int × Int × Int × Int × Int × Unit) : Option ((List (Int)) × Int × Int × Int × Bool × Unit ⊕ ((List (Int)) × Int × Int × Int × (List (Int)) × Int × Int × Int × Int × Unit ⊕ Empty)) := iter (impl_ride_b2 k) big x
noncomputable def impl_ride (a0 : Int) (a1 : Int) (a2 : (List (List (Int)))) (a3 : (List (Int × Int × Int × Int × Int))) (a4 : (List (Int))) : Option ((List (Int)) × Int × Int × Int × Bool × Unit) :=
 ((impl_OrderOk a0 a1 a2 a3 a4).bind fun y0 => (bif (Bool.not y0.1) then some (([] : List (Int)), (0 : Int), (0 : Int), (0 : Int), false, ()) else ((impl_ride_l0 (a4, a0, a1, a2, a3, a4, (rLen a4), ()) (([] : List (Int)), (0 : Int), (0 : Int), (0 : Int), (0 : Int), (0 : Int), ())).bind fun q1 => (Sum.elim (fun y2 => ((impl_ride_l2 (a4, a0, a1, a2, a3, a4, (rLen a4), ()) (y2.1, y2.2.1, y2.2.2.1, y2.2.2.2.1, y2.2.2.2.2.1, ([] : List (Int)), a0, y2.2.2.2.2.1, (0 : Int), (0 : Int), (0 : Int), ())).bind fun q3 => (Sum.elim (fun y4 => some (y4.1, y4.2.1, y4.2.2.1, y4.2.2.2.1, y4.2.2.2.2.1, ())) (fun q5 => (Sum.elim (fun y6 => (bif (rInR a2 y6.2.2.2.2.2.2.2.2.1) then (bif (rInR (rGet zLIl a2 y6.2.2.2.2.2.2.2.2.1) (0 : Int)) then (bif (rCmp .gtr y6.2.2.2.2.2.2.1 a1) then some (([] : List (Int)), (0 : Int), (0 : Int), (0 : Int), false, ()) else some (y6.2.2.2.2.1, (rArith .add .i64 y6.2.2.2.2.2.1 (rArith .mul .i64 (rGet zI (rGet zLIl a2 y6.2.2.2.2.2.2.2.2.1) (0 : Int)) (rMxmn false (1 : Int) (rLen a4)))), y6.2.2.2.2.2.2.1, y6.2.2.2.2.2.2.2.1, true, ())) else none) else none)) (fun q7 => (Empty.elim q7)) q5)) q3))) (fun q3 => (Empty.elim q3)) q1))))
end Go.Fn
set_option linter.unusedVariables false
namespace Go.Fn
open Go.R
noncomputable def laws_big (a0 : (List (Int))) : Option (Bool × Unit) :=
 some ((rCmp .gtr (rLen a0) (1048576 : Int)), ())
noncomputable def spec_l01New_b0 (k : (List (Int)) × Unit) (x : Int × Int × Unit) : Option ((Int × Int × Unit) ⊕ (Int × Unit ⊕ Empty)) :=
 (bif (rCmp .lss x.2.1 (rLen k.1)) then (bif (rCmp .lss x.2.1 (4000 : Int)) then (bif (rInR k.1 x.2.1) then some (.inl ((rArith .and .i64 (rArith .add .i64 (rArith .add .i64 (rArith .mul .i64 x.1 (131 : Int)) (rConv .i64 (rGet zI k.1 x.2.1))) (7 : Int)) (1073741823 : Int)), (rArith .add .i64 x.2.1 (1 : Int)), ())) else none) else some (.inr (.inl (x.1, ())))) else some (.inr (.inl (x.1, ()))))
noncomputable def spec_l01New_l0 (k : (List (Int)) × Unit) (x : Int × Int × Unit) : Option (Int × Unit ⊕ Empty) := iter (spec_l01New_b0 k) big x
noncomputable def spec_l01New (a0 : (List (Int))) : Option ((List (Int)) × Int × Int × Unit) :=
 ((spec_l01New_l0 (a0, ()) ((rArith .add .i64 (33183 : Int) (rLen a0)), (0 : Int), ())).bind fun q0 => (Sum.elim (fun y1 => some (a0, (0 : Int), y1.1, ())) (fun q2 => (Empty.elim q2)) q0))
noncomputable def spec_l01Byte (a0 : (List (Int))) (a1 : Int) (a2 : Int) : Option (Int × (List (Int)) × Int × Int × Unit) :=
 (bif (rIsNeg (33 : Int)) then none else (bif (rIsNeg (45 : Int)) then none else (lets (rArith .xor .i64 (rShift .shr .i64 (rArith .add .i64 (rArith .mul .i64 a2 (6364136223846793005 : Int)) (1442695040888963407 : Int)) (33 : Int)) (rShift .shr .i64 (rArith .add .i64 (rArith .mul .i64 a2 (6364136223846793005 : Int)) (1442695040888963407 : Int)) (45 : Int))) fun v0 => (bif (rCmp .lss a1 (rLen a0)) then (bif (rInR a0 a1) then some ((rArith .and .i64 (rArith .add .i64 (rArith .and .i64 v0 (255 : Int)) (rConv .i64 (rGet zI a0 a1))) (255 : Int)), a0, (rArith .add .i64 a1 (1 : Int)), (rArith .add .i64 (rArith .mul .i64 a2 (6364136223846793005 : Int)) (1442695040888963407 : Int)), ()) else none) else some ((rArith .and .i64 v0 (255 : Int)), a0, a1, (rArith .add .i64 (rArith .mul .i64 a2 (6364136223846793005 : Int)) (1442695040888963407 : Int)), ())))))
noncomputable def spec_l01Below (a0 : (List (Int))) (a1 : Int) (a2 : Int) (a3 : Int) : Option (Int × (List (Int)) × Int × Int × Unit) :=
 (bif (rCmp .leq a3 (0 : Int)) then some ((0 : Int), a0, a1, a2, ()) else (bif (rCmp .leq a3 (256 : Int)) then ((spec_l01Byte a0 a1 a2).bind fun y0 => (bif (rIsZero a3) then none else some ((rArith .rem .i64 y0.1 a3), y0.2.1, y0.2.2.1, y0.2.2.2.1, ()))) else ((spec_l01Byte a0 a1 a2).bind fun y0 => ((spec_l01Byte y0.2.1 y0.2.2.1 y0.2.2.2.1).bind fun y1 => ((spec_l01Byte y1.2.1 y1.2.2.1 y1.2.2.2.1).bind fun y2 => ((spec_l01Byte y2.2.1 y2.2.2.1 y2.2.2.2.1).bind fun y3 => (lets (rArith .add .i64 (rArith .add .i64 (rArith .add .i64 (rArith .mul .i64 y0.1 (16777216 : Int)) (rArith .mul .i64 y1.1 (65536 : Int))) (rArith .mul .i64 y2.1 (256 : Int))) y3.1) fun v4 => (bif (rIsZero a3) then none else some ((rArith .rem .i64 v4 a3), y3.2.1, y3.2.2.1, y3.2.2.2.1, ())))))))))
noncomputable def spec_l01PickInt (a0 : (List (Int))) (a1 : Int) (a2 : Int) (a3 : (List (Int))) : Option (Int × (List (Int)) × Int × Int × Unit) :=
 ((spec_l01Below a0 a1 a2 (rLen a3)).bind fun y0 => (bif (rInR a3 y0.1) then some ((rGet zI a3 y0.1), y0.2.1, y0.2.2.1, y0.2.2.2.1, ()) else none))
noncomputable def spec_l01Once (a0 : (List (Int))) (a1 : Int) (a2 : Int) (a3 : Int) : Option (Bool × (List (Int)) × Int × Int × Unit) :=
 ((spec_l01Below a0 a1 a2 a3).bind fun y0 => some ((rCmp .eql y0.1 (0 : Int)), y0.2.1, y0.2.2.1, y0.2.2.2.1, ()))
end Go.Fn
set_option linter.unusedVariables false
namespace Go.Fn
open Go.R
noncomputable def spec_l07Round_b0 (k : Int × Bool × Unit) (x : (List (Int)) × Int × Int × Int × Int × (List (List (Int))) × (List (Int × Int × Int × Int × Int)) × Int × Int × (List (List (Int))) × (List (Int × Int × Int × Int × Int)) × (List (Int)) × Int × Unit) : Option (((List (Int)) × Int × Int × Int × Int × (List (List (Int))) × (List (Int × Int × Int × Int × Int)) × Int × Int × (List (List (Int))) × (List (Int × Int × Int × Int × Int)) × (List (Int)) × Int × Unit) ⊕ ((List (Int)) × Int × Int × Int × Int × (List (List (Int))) × (List (Int × Int × Int × Int × Int)) × Int × Int × (List (List (Int))) × (List (Int × Int × Int × Int × Int)) × (List (Int)) × Unit ⊕ Empty)) :=
 (bif (rCmp .leq x.2.2.2.2.2.2.2.2.2.2.2.2.1 k.1) then ((spec_l01Below x.1 x.2.1 x.2.2.1 (9 : Int)).bind fun y0 => (bif (rSmall (List.append (α := Int) x.2.2.2.2.2.2.2.2.2.2.2.1 (List.append (α := Int) ([] : List (Int)) [y0.1]))) then some (.inl (y0.2.1, y0.2.2.1, y0.2.2.2.1, x.2.2.2.1, x.2.2.2.2.1, x.2.2.2.2.2.1, x.2.2.2.2.2.2.1, x.2.2.2.2.2.2.2.1, x.2.2.2.2.2.2.2.2.1, x.2.2.2.2.2.2.2.2.2.1, x.2.2.2.2.2.2.2.2.2.2.1, (List.append (α := Int) x.2.2.2.2.2.2.2.2.2.2.2.1 (List.append (α := Int) ([] : List (Int)) [y0.1])), (rArith .add .i64 x.2.2.2.2.2.2.2.2.2.2.2.2.1 (1 : Int)), ())) else none)) else some (.inr (.inl (x.1, x.2.1, x.2.2.1, x.2.2.2.1, x.2.2.2.2.1, x.2.2.2.2.2.1, x.2.2.2.2.2.2.1, x.2.2.2.2.2.2.2.1, x.2.2.2.2.2.2.2.2.1, x.2.2.2.2.2.2.2.2.2.1, x.2.2.2.2.2.2.2.2.2.2.1, x.2.2.2.2.2.2.2.2.2.2.2.1, ()))))
noncomputable def spec_l07Round_l0 (k : Int × Bool × Unit) (x : (List (Int)) × Int × Int × Int × Int × (List (List (Int))) × (List (Int × Int × Int × Int × Int)) × Int × Int × (List (List (Int))) × (List (Int × Int × Int × Int × Int)) × (List (Int)) × Int × Unit) : Option ((List (Int)) × Int × Int × Int × Int × (List (List (Int))) × (List (Int × Int × Int × Int × Int)) × Int × Int × (List (List (Int))) × (List (Int × Int × Int × Int × Int)) × (List (Int)) × Unit ⊕ Empty) := iter (spec_l07Round_b0 k) big x
noncomputable def spec_l07Round_b4 (k : Int × Bool × Int × Unit) (x : (List (Int)) × Int × Int × Int × Int × (List (List (Int))) × (List (Int × Int × Int × Int × Int)) × Int × Int × (List (List (Int))) × (List (Int × Int × Int × Int × Int)) × (List (Int)) × (List (Int)) × Int × Unit) : Option (((List (Int)) × Int × Int × Int × Int × (List (List (Int))) × (List (Int × Int × Int × Int × Int)) × Int × Int × (List (List (Int))) × (List (Int × Int × Int × Int × Int)) × (List (Int)) × (List (Int)) × Int × Unit) ⊕ ((List (Int)) × Int × Int × Int × Int × (List (List (Int))) × (List (Int × Int × Int × Int × Int)) × Int × Int × (List (List (Int))) × (List (Int × Int × Int × Int × Int)) × (List (Int)) × (List (Int)) × Unit ⊕ Empty)) :=
 (bif (rCmp .leq x.2.2.2.2.2.2.2.2.2.2.2.2.2.1 k.1) then (bif (rInR x.2.2.2.2.2.2.2.2.2.2.2.1 k.2.2.1) then (bif (rInR x.2.2.2.2.2.2.2.2.2.2.2.1 x.2.2.2.2.2.2.2.2.2.2.2.2.2.1) then (bif (rInR x.2.2.2.2.2.2.2.2.2.2.2.1 x.2.2.2.2.2.2.2.2.2.2.2.2.2.1) then (bif (rInR x.2.2.2.2.2.2.2.2.2.2.2.1 k.2.2.1) then (lets (rMxmn true (rArith .sub .i64 (rGet zI x.2.2.2.2.2.2.2.2.2.2.2.1 k.2.2.1) (rGet zI x.2.2.2.2.2.2.2.2.2.2.2.1 x.2.2.2.2.2.2.2.2.2.2.2.2.2.1)) (rArith .sub .i64 (rGet zI x.2.2.2.2.2.2.2.2.2.2.2.1 x.2.2.2.2.2.2.2.2.2.2.2.2.2.1) (rGet zI x.2.2.2.2.2.2.2.2.2.2.2.1 k.2.2.1))) fun v0 => (bif (Bool.not k.2.1) then ((spec_l01Below x.1 x.2.1 x.2.2.1 (9 : Int)).bind fun y1 => (bif (rSmall (List.append (α := Int) x.2.2.2.2.2.2.2.2.2.2.2.2.1 (List.append (α := Int) ([] : List (Int)) [y1.1]))) then some (.inl (y1.2.1, y1.2.2.1, y1.2.2.2.1, x.2.2.2.1, x.2.2.2.2.1, x.2.2.2.2.2.1, x.2.2.2.2.2.2.1, x.2.2.2.2.2.2.2.1, x.2.2.2.2.2.2.2.2.1, x.2.2.2.2.2.2.2.2.2.1, x.2.2.2.2.2.2.2.2.2.2.1, x.2.2.2.2.2.2.2.2.2.2.2.1, (List.append (α := Int) x.2.2.2.2.2.2.2.2.2.2.2.2.1 (List.append (α := Int) ([] : List (Int)) [y1.1])), (rArith .add .i64 x.2.2.2.2.2.2.2.2.2.2.2.2.2.1 (1 : Int)), ())) else none)) else (bif (rSmall (List.append (α := Int) x.2.2.2.2.2.2.2.2.2.2.2.2.1 (List.append (α := Int) ([] : List (Int)) [v0]))) then some (.inl (x.1, x.2.1, x.2.2.1, x.2.2.2.1, x.2.2.2.2.1, x.2.2.2.2.2.1, x.2.2.2.2.2.2.1, x.2.2.2.2.2.2.2.1, x.2.2.2.2.2.2.2.2.1, x.2.2.2.2.2.2.2.2.2.1, x.2.2.2.2.2.2.2.2.2.2.1, x.2.2.2.2.2.2.2.2.2.2.2.1, (List.append (α := Int) x.2.2.2.2.2.2.2.2.2.2.2.2.1 (List.append (α := Int) ([] : List (Int)) [v0])), (rArith .add .i64 x.2.2.2.2.2.2.2.2.2.2.2.2.2.1 (1 : Int)), ())) else none))) else none) else none) else none) else none) else some (.inr (.inl (x.1, x.2.1, x.2.2.1, x.2.2.2.1, x.2.2.2.2.1, x.2.2.2.2.2.1, x.2.2.2.2.2.2.1, x.2.2.2.2.2.2.2.1, x.2.2.2.2.2.2.2.2.1, x.2.2.2.2.2.2.2.2.2.1, x.2.2.2.2.2.2.2.2.2.2.1, x.2.2.2.2.2.2.2.2.2.2.2.1, x.2.2.2.2.2.2.2.2.2.2.2.2.1, ()))))
noncomputable def spec_l07Round_l4 (k : Int × Bool × Int × Unit) (x : (List (Int)) × Int × Int × Int × Int × (List (List (Int))) × (List (Int × Int × Int × Int × Int)) × Int × Int × (List (List (Int))) × (List (Int × Int × Int × Int × Int)) × (List (Int)) × (List (Int)) × Int × Unit) : Option ((List (Int)) × Int × Int × Int × Int × (List (List (Int))) × (List (Int × Int × Int × Int × Int)) × Int × Int × (List (List (Int))) × (List (Int × Int × Int × Int × Int)) × (List (Int)) × (List (Int)) × Unit ⊕ Empty) := iter (spec_l07Round_b4 k) big x
noncomputable def spec_l07Round_b2 (k : Int × Bool × Unit) (x : (List (Int)) × Int × Int × Int × Int × (List (List (Int))) × (List (Int × Int × Int × Int × Int)) × Int × Int × (List (List (Int))) × (List (Int × Int × Int × Int × Int)) × (List (Int)) × Int × Unit) : Option (((List (Int)) × Int × Int × Int × Int × (List (List (Int))) × (List (Int × Int × Int × Int × Int)) × Int × Int × (List (List (Int))) × (List (Int × Int × Int × Int × Int)) × (List (Int)) × Int × Unit) ⊕ ((List (Int)) × Int × Int × Int × Int × (List (List (Int))) × (List (Int × Int × Int × Int × Int)) × Int × Int × (List (List (Int))) × (List (Int × Int × Int × Int × Int)) × Unit ⊕ Empty)) :=
 (bif (rCmp .leq x.2.2.2.2.2.2.2.2.2.2.2.2.1 k.1) then ((spec_l07Round_l4 (k.1, k.2.1, x.2.2.2.2.2.2.2.2.2.2.2.2.1, ()) (x.1, x.2.1, x.2.2.1, x.2.2.2.1, x.2.2.2.2.1, x.2.2.2.2.2.1, x.2.2.2.2.2.2.1, x.2.2.2.2.2.2.2.1, x.2.2.2.2.2.2.2.2.1, x.2.2.2.2.2.2.2.2.2.1, x.2.2.2.2.2.2.2.2.2.2.1, x.2.2.2.2.2.2.2.2.2.2.2.1, ([] : List (Int)), (0 : Int), ())).bind fun q0 => (Sum.elim (fun y1 => (bif (rSmall (List.append (α := List (Int)) y1.2.2.2.2.2.2.2.2.2.1 (List.append (α := List (Int)) ([] : List (List (Int))) [y1.2.2.2.2.2.2.2.2.2.2.2.2.1]))) then some (.inl (y1.1, y1.2.1, y1.2.2.1, y1.2.2.2.1, y1.2.2.2.2.1, y1.2.2.2.2.2.1, y1.2.2.2.2.2.2.1, y1.2.2.2.2.2.2.2.1, y1.2.2.2.2.2.2.2.2.1, (List.append (α := List (Int)) y1.2.2.2.2.2.2.2.2.2.1 (List.append (α := List (Int)) ([] : List (List (Int))) [y1.2.2.2.2.2.2.2.2.2.2.2.2.1])), y1.2.2.2.2.2.2.2.2.2.2.1, y1.2.2.2.2.2.2.2.2.2.2.2.1, (rArith .add .i64 x.2.2.2.2.2.2.2.2.2.2.2.2.1 (1 : Int)), ())) else none)) (fun q2 => (Empty.elim q2)) q0)) else some (.inr (.inl (x.1, x.2.1, x.2.2.1, x.2.2.2.1, x.2.2.2.2.1, x.2.2.2.2.2.1, x.2.2.2.2.2.2.1, x.2.2.2.2.2.2.2.1, x.2.2.2.2.2.2.2.2.1, x.2.2.2.2.2.2.2.2.2.1, x.2.2.2.2.2.2.2.2.2.2.1, ()))))
noncomputable def spec_l07Round_l2 (k : Int × Bool × Unit) (x : (List (Int)) × Int × Int × Int × Int × (List (List (Int))) × (List (Int × Int × Int × Int × Int)) × Int × Int × (List (List (Int))) × (List (Int × Int × Int × Int × Int)) × (List (Int)) × Int × Unit) : Option ((List (Int)) × Int × Int × Int × Int × (List (List (Int))) × (List (Int × Int × Int × Int × Int)) × Int × Int × (List (List (Int))) × (List (Int × Int × Int × Int × Int)) × Unit ⊕ Empty) := iter (spec_l07Round_b2 k) big x
noncomputable def spec_l07Round_b6 (k : Int × Unit) (x : (List (Int)) × Int × Int × Int × Int × (List (List (Int))) × (List (Int × Int × Int × Int × Int)) × Int × Int × (List (List (Int))) × (List (Int × Int × Int × Int × Int)) × Int × Unit) : Option (((List (Int)) × Int × Int × Int × Int × (List (List (Int))) × (List (Int × Int × Int × Int × Int)) × Int × Int × (List (List (Int))) × (List (Int × Int × Int × Int × Int)) × Int × Unit) ⊕ ((List (Int)) × Int × Int × Int × Int × (List (List (Int))) × (List (Int × Int × Int × Int × Int)) × Int × Int × (List (List (Int))) × (List (Int × Int × Int × Int × Int)) × Unit ⊕ Empty)) :=
 (bif (rCmp .lss x.2.2.2.2.2.2.2.2.2.2.2.1 k.1) then ((spec_l01Below x.1 x.2.1 x.2.2.1 (50 : Int)).bind fun y0 => ((spec_l01Below y0.2.1 y0.2.2.1 y0.2.2.2.1 (60 : Int)).bind fun y1 => ((spec_l01Below y1.2.1 y1.2.2.1 y1.2.2.2.1 (4 : Int)).bind fun y2 => ((spec_l01Below y2.2.1 y2.2.2.1 y2.2.2.2.1 (6 : Int)).bind fun y3 => ((spec_l01Below y3.2.1 y3.2.2.1 y3.2.2.2.1 (6 : Int)).bind fun y4 => (bif (rSmall (List.append (α := Int × Int × Int × Int × Int) x.2.2.2.2.2.2.2.2.2.2.1 (List.append (α := Int × Int × Int × Int × Int) ([] : List (Int × Int × Int × Int × Int)) [(y0.1, (rArith .add .i64 (rArith .add .i64 y0.1 (10 : Int)) y1.1), y2.1, y3.1, y4.1)]))) then some (.inl (y4.2.1, y4.2.2.1, y4.2.2.2.1, x.2.2.2.1, x.2.2.2.2.1, x.2.2.2.2.2.1, x.2.2.2.2.2.2.1, x.2.2.2.2.2.2.2.1, x.2.2.2.2.2.2.2.2.1, x.2.2.2.2.2.2.2.2.2.1, (List.append (α := Int × Int × Int × Int × Int) x.2.2.2.2.2.2.2.2.2.2.1 (List.append (α := Int × Int × Int × Int × Int) ([] : List (Int × Int × Int × Int × Int)) [(y0.1, (rArith .add .i64 (rArith .add .i64 y0.1 (10 : Int)) y1.1), y2.1, y3.1, y4.1)])), (rArith .add .i64 x.2.2.2.2.2.2.2.2.2.2.2.1 (1 : Int)), ())) else none)))))) else some (.inr (.inl (x.1, x.2.1, x.2.2.1, x.2.2.2.1, x.2.2.2.2.1, x.2.2.2.2.2.1, x.2.2.2.2.2.2.1, x.2.2.2.2.2.2.2.1, x.2.2.2.2.2.2.2.2.1, x.2.2.2.2.2.2.2.2.2.1, x.2.2.2.2.2.2.2.2.2.2.1, ()))))
noncomputable def spec_l07Round_l6 (k : Int × Unit) (x : (List (Int)) × Int × Int × Int × Int × (List (List (Int))) × (List (Int × Int × Int × Int × Int)) × Int × Int × (List (List (Int))) × (List (Int × Int × Int × Int × Int)) × Int × Unit) : Option ((List (Int)) × Int × Int × Int × Int × (List (List (Int))) × (List (Int × Int × Int × Int × Int)) × Int × Int × (List (List (Int))) × (List (Int × Int × Int × Int × Int)) × Unit ⊕ Empty) := iter (spec_l07Round_b6 k) big x
noncomputable def spec_l07Round (a0 : (List (Int))) (a1 : Int) (a2 : Int) : Option (Int × Int × (List (List (Int))) × (List (Int × Int × Int × Int × Int)) × (List (Int)) × Int × Int × Unit) :=
 ((spec_l01Below a0 a1 a2 (5 : Int)).bind fun y0 => ((spec_l01Below y0.2.1 y0.2.2.1 y0.2.2.2.1 (40 : Int)).bind fun y1 => ((spec_l01PickInt y1.2.1 y1.2.2.1 y1.2.2.2.1 (List.append (α := Int) (List.append (α := Int) (List.append (α := Int) (List.append (α := Int) (List.append (α := Int) ([] : List (Int)) [(4 : Int)]) [(8 : Int)]) [(12 : Int)]) [(20 : Int)]) [(1000 : Int)])).bind fun y2 => ((spec_l01Once y2.2.1 y2.2.2.1 y2.2.2.2.1 (2 : Int)).bind fun y3 => ((spec_l07Round_l0 (y0.1, y3.1, ()) (y3.2.1, y3.2.2.1, y3.2.2.2.1, (0 : Int), (0 : Int), ([] : List (List (Int))), ([] : List (Int × Int × Int × Int × Int)), y1.1, y2.1, ([] : List (List (Int))), ([] : List (Int × Int × Int × Int × Int)), ([] : List (Int)), (0 : Int), ())).bind fun q4 => (Sum.elim (fun y5 => ((spec_l07Round_l2 (y0.1, y3.1, ()) (y5.1, y5.2.1, y5.2.2.1, y5.2.2.2.1, y5.2.2.2.2.1, y5.2.2.2.2.2.1, y5.2.2.2.2.2.2.1, y5.2.2.2.2.2.2.2.1, y5.2.2.2.2.2.2.2.2.1, y5.2.2.2.2.2.2.2.2.2.1, y5.2.2.2.2.2.2.2.2.2.2.1, y5.2.2.2.2.2.2.2.2.2.2.2.1, (0 : Int), ())).bind fun q6 => (Sum.elim (fun y7 => ((spec_l07Round_l6 (y0.1, ()) (y7.1, y7.2.1, y7.2.2.1, y7.2.2.2.1, y7.2.2.2.2.1, y7.2.2.2.2.2.1, y7.2.2.2.2.2.2.1, y7.2.2.2.2.2.2.2.1, y7.2.2.2.2.2.2.2.2.1, y7.2.2.2.2.2.2.2.2.2.1, y7.2.2.2.2.2.2.2.2.2.2.1, (0 : Int), ())).bind fun q8 => (Sum.elim (fun y9 => some (y9.2.2.2.2.2.2.2.1, y9.2.2.2.2.2.2.2.2.1, y9.2.2.2.2.2.2.2.2.2.1, y9.2.2.2.2.2.2.2.2.2.2.1, y9.1, y9.2.1, y9.2.2.1, ())) (fun q10 => (Empty.elim q10)) q8))) (fun q8 => (Empty.elim q8)) q6))) (fun q6 => (Empty.elim q6)) q4))))))
noncomputable def spec_DrawRound (a0 : (List (Int))) : Option (Int × Int × (List (List (Int))) × (List (Int × Int × Int × Int × Int)) × Unit) :=
 ((spec_l01New a0).bind fun y0 => ((spec_l07Round y0.1 y0.2.1 y0.2.2.1).bind fun y1 => some (y1.1, y1.2.1, y1.2.2.1, y1.2.2.2.1, ())))
noncomputable def spec_l07Orders_b0 (rec : (List (List (Int))) → (List (Int)) → Int → Option ((List (List (Int))) × Unit)) (k : (List (Int)) × Int × Unit) (x : (List (List (Int))) × Int × Unit) : Option (((List (List (Int))) × Int × Unit) ⊕ ((List (List (Int))) × Unit ⊕ Empty)) :=
 (bif (rCmp .lss x.2.1 k.2.1) then ((spec_l02Has k.1 x.2.1).bind fun y0 => (bif (Bool.not y0.1) then (bif (rSmall (List.append (α := Int) ([] : List (Int)) k.1)) then (bif (rSmall (List.append (α := Int) (List.append (α := Int) ([] : List (Int)) k.1) (List.append (α := Int) ([] : List (Int)) [x.2.1]))) then ((rec x.1 (List.append (α := Int) (List.append (α := Int) ([] : List (Int)) k.1) (List.append (α := Int) ([] : List (Int)) [x.2.1])) k.2.1).bind fun y1 => some (.inl (y1.1, (rArith .add .i64 x.2.1 (1 : Int)), ()))) else none) else none) else some (.inl (x.1, (rArith .add .i64 x.2.1 (1 : Int)), ())))) else some (.inr (.inl (x.1, ()))))
noncomputable def spec_l07Orders_l0 (rec : (List (List (Int))) → (List (Int)) → Int → Option ((List (List (Int))) × Unit)) (k : (List (Int)) × Int × Unit) (x : (List (List (Int))) × Int × Unit) : Option ((List (List (Int))) × Unit ⊕ Empty) := iter (spec_l07Orders_b0 rec k) big x
noncomputable def spec_l07Orders_r (rec : (List (List (Int))) → (List (Int)) → Int → Option ((List (List (Int))) × Unit)) (a0 : (List (List (Int)))) (a1 : (List (Int))) (a2 : Int) : Option ((List (List (Int))) × Unit) :=
 (bif (rSmall (List.append (α := List (Int)) a0 (List.append (α := List (Int)) ([] : List (List (Int))) [a1]))) then ((spec_l07Orders_l0 rec (a1, a2, ()) ((List.append (α := List (Int)) a0 (List.append (α := List (Int)) ([] : List (List (Int))) [a1])), (0 : Int), ())).bind fun q0 => (Sum.elim (fun y1 => some (y1.1, ())) (fun q2 => (Empty.elim q2)) q0)) else none)
noncomputable def spec_l07Orders_f : Nat → (List (List (Int))) → (List (Int)) → Int → Option ((List (List (Int))) × Unit) | 0 => fun _ _ _ => none | n + 1 => spec_l07Orders_r (spec_l07Orders_f n)
noncomputable def spec_l07Orders (a0 : (List (List (Int)))) (a1 : (List (Int))) (a2 : Int) : Option ((List (List (Int))) × Unit) := spec_l07Orders_f big a0 a1 a2
noncomputable def spec_Ride (a0 : Int) (a1 : Int) (a2 : (List (List (Int)))) (a3 : (List (Int × Int × Int × Int × Int))) (a4 : (List (Int))) : Option ((List (Int)) × Int × Bool × Unit) :=
 ((spec_l07Drive a0 a1 a2 a3 a4).bind fun y0 => (bif (Bool.not y0.2.2.2.2.1) then some (([] : List (Int)), (0 : Int), false, ()) else some (y0.1, y0.2.1, true, ())))
noncomputable def spec_l07Best_b0 (k : Int × Int × Int × (List (List (Int))) × (List (Int × Int × Int × Int × Int)) × Unit) (x : (List (Int)) × Int × Bool × (List (List (Int))) × Int × Unit) : Option (((List (Int)) × Int × Bool × (List (List (Int))) × Int × Unit) ⊕ ((List (Int)) × Int × Bool × Unit ⊕ Empty)) :=
 (bif (rCmp .lss x.2.2.2.2.1 (rLen x.2.2.2.1)) then (bif (rInR x.2.2.2.1 x.2.2.2.2.1) then (bif (rCmp .lss (rLen (rGet zLIl x.2.2.2.1 x.2.2.2.2.1)) k.1) then some (.inl (x.1, x.2.1, x.2.2.1, x.2.2.2.1, (rArith .add .i64 x.2.2.2.2.1 (1 : Int)), ())) else (bif (rInR x.2.2.2.1 x.2.2.2.2.1) then ((spec_Ride k.2.1 k.2.2.1 k.2.2.2.1 k.2.2.2.2.1 (rGet zLIl x.2.2.2.1 x.2.2.2.2.1)).bind fun y0 => (bif y0.2.2.1 then (bif (Bool.not x.2.2.1) then (bif (rInR x.2.2.2.1 x.2.2.2.2.1) then some (.inl ((rGet zLIl x.2.2.2.1 x.2.2.2.2.1), y0.2.1, true, x.2.2.2.1, (rArith .add .i64 x.2.2.2.2.1 (1 : Int)), ())) else none) else (bif (rInR x.2.2.2.1 x.2.2.2.2.1) then (bif (rCmp .gtr (rLen (rGet zLIl x.2.2.2.1 x.2.2.2.2.1)) (rLen x.1)) then (bif (rInR x.2.2.2.1 x.2.2.2.2.1) then some (.inl ((rGet zLIl x.2.2.2.1 x.2.2.2.2.1), y0.2.1, true, x.2.2.2.1, (rArith .add .i64 x.2.2.2.2.1 (1 : Int)), ())) else none) else (bif (rInR x.2.2.2.1 x.2.2.2.2.1) then (bif (rCmp .eql (rLen (rGet zLIl x.2.2.2.1 x.2.2.2.2.1)) (rLen x.1)) then (bif (rCmp .lss y0.2.1 x.2.1) then (bif (rInR x.2.2.2.1 x.2.2.2.2.1) then some (.inl ((rGet zLIl x.2.2.2.1 x.2.2.2.2.1), y0.2.1, true, x.2.2.2.1, (rArith .add .i64 x.2.2.2.2.1 (1 : Int)), ())) else none) else some (.inl (x.1, x.2.1, x.2.2.1, x.2.2.2.1, (rArith .add .i64 x.2.2.2.2.1 (1 : Int)), ()))) else some (.inl (x.1, x.2.1, x.2.2.1, x.2.2.2.1, (rArith .add .i64 x.2.2.2.2.1 (1 : Int)), ()))) else none)) else none)) else some (.inl (x.1, x.2.1, x.2.2.1, x.2.2.2.1, (rArith .add .i64 x.2.2.2.2.1 (1 : Int)), ())))) else none)) else none) else some (.inr (.inl (x.1, x.2.1, x.2.2.1, ()))))
noncomputable def spec_l07Best_l0 (k : Int × Int × Int × (List (List (Int))) × (List (Int × Int × Int × Int × Int)) × Unit) (x : (List (Int)) × Int × Bool × (List (List (Int))) × Int × Unit) : Option ((List (Int)) × Int × Bool × Unit ⊕ Empty) := iter (spec_l07Best_b0 k) big x
noncomputable def spec_l07Best (a0 : Int) (a1 : Int) (a2 : (List (List (Int)))) (a3 : (List (Int × Int × Int × Int × Int))) (a4 : Int) : Option ((List (Int)) × Int × Bool × Unit) :=
 ((spec_RoundOk a0 a1 a2 a3).bind fun y0 => (bif (Bool.not y0.1) then some (([] : List (Int)), (0 : Int), false, ()) else ((spec_l07Orders ([] : List (List (Int))) ([] : List (Int)) (rLen a3)).bind fun y1 => ((spec_l07Best_l0 (a4, a0, a1, a2, a3, ()) (([] : List (Int)), (0 : Int), false, y1.1, (0 : Int), ())).bind fun q2 => (Sum.elim (fun y3 => (bif (Bool.not y3.2.2.1) then some (([] : List (Int)), (0 : Int), false, ()) else some (y3.1, y3.2.1, true, ()))) (fun q4 => (Empty.elim q4)) q2)))))
noncomputable def spec_MostRide (a0 : Int) (a1 : Int) (a2 : (List (List (Int)))) (a3 : (List (Int × Int × Int × Int × Int))) : Option ((List (Int)) × Int × Bool × Unit) :=
 ((spec_l07Best a0 a1 a2 a3 (0 : Int)).bind fun y0 => some (y0.1, y0.2.1, y0.2.2.1, ()))
noncomputable def impl_Ride (a0 : Int) (a1 : Int) (a2 : (List (List (Int)))) (a3 : (List (Int × Int × Int × Int × Int))) (a4 : (List (Int))) : Option ((List (Int)) × Int × Bool × Unit) :=
 ((impl_ride a0 a1 a2 a3 a4).bind fun y0 => some (y0.1, y0.2.1, y0.2.2.2.2.1, ()))
end Go.Fn
set_option linter.unusedVariables false
namespace Go.Fn
open Go.R
noncomputable def cmp_isNaN_int_ (a0 : Int) : Option (Bool × Unit) :=
 some ((rCmp .neq a0 a0), ())
noncomputable def cmp_Compare_int_ (a0 : Int) (a1 : Int) : Option (Int × Unit) :=
 ((cmp_isNaN_int_ a0).bind fun y0 => ((cmp_isNaN_int_ a1).bind fun y1 => (bif y0.1 then (bif y1.1 then some ((0 : Int), ()) else some ((-1 : Int), ())) else (bif y1.1 then some ((1 : Int), ()) else (bif (rCmp .lss a0 a1) then some ((-1 : Int), ()) else (bif (rCmp .gtr a0 a1) then some ((1 : Int), ()) else some ((0 : Int), ())))))))
end Go.Fn
namespace Go.Fn
open Go.R
abbrev Ev := Int × Int × Int × Int × Int × Int × Int
noncomputable def inB (a lo hi : Int) : Bool := bif decide (a ≥ lo) then decide (a ≤ hi) else false
theorem within_eq (a lo hi : Int) : impl_within a lo hi = some (inB a lo hi, ()) := by
 unfold impl_within inB
 simp only [rCmp]
 cases decide (a ≥ lo) <;> rfl
theorem in_eq (a lo hi : Int) : spec_l01In a lo hi = some (inB a lo hi, ()) := within_eq a lo hi
theorem timeOk_eq (a : Int) : impl_timeOk a = some (inB a 0 20000, ()) := by unfold impl_timeOk; rw [within_eq]; rfl
noncomputable def evOk (e : Ev) : Bool := bif inB e.1 0 5 then bif inB e.2.1 1 999 then bif inB e.2.2.1 1 100000 then bif inB e.2.2.2.1 1 4 then bif inB e.2.2.2.2.1 1 999 then bif inB e.2.2.2.2.2.1 0 20000 then inB e.2.2.2.2.2.2 0 20000 else false else false else false else false else false else false
noncomputable def ordOk (p e : Ev) : Bool := !(decide (e.1 < p.1) || (decide (e.1 = p.1) && (decide (e.2.1 ≤ p.2.1) || decide (e.2.2.1 ≤ p.2.2.1))))
noncomputable def jokAt (l : List Ev) : Nat → Bool
 | 0 => evOk (l.getD 0 zIIIIIII)
 | n + 1 => evOk (l.getD (n + 1) zIIIIIII) && ordOk (l.getD n zIIIIIII) (l.getD (n + 1) zIIIIIII)
noncomputable def jok (l : List Ev) : Bool := bif decide (60 < l.length) then false else allFrom (jokAt l) 0 l.length
theorem neq_self (a : Int) : rCmp .neq a a = false := by simp [rCmp]
end Go.Fn
set_option linter.unusedSimpArgs false
namespace Go.Fn
open Go.R
theorem add1 {a : Int} (h0 : 0 ≤ a) (h1 : a ≤ 4611686018427387904) : rArith .add .i64 a 1 = a + 1 := add64 (by omega) (by omega)
theorem jok_len {l : List Ev} (h : jok l = true) : l.length ≤ 60 := by
 unfold jok at h
 cases hd : decide (60 < l.length) with
 | true => rw [hd] at h; cases h
 | false => have := of_decide_eq_false hd; omega
theorem jok_at {l : List Ev} (h : jok l = true) {n : Nat} (hn : n < l.length) : jokAt l n = true := by
 have h60 := jok_len h
 unfold jok at h
 rw [decide_eq_false (by omega)] at h
 exact (allFrom_iff _ _).1 h n (Nat.zero_le _) (by omega)
theorem inB_iff {a lo hi : Int} : inB a lo hi = true ↔ lo ≤ a ∧ a ≤ hi := by
 unfold inB
 by_cases h : lo ≤ a
 ·rw [decide_eq_true (show a ≥ lo from h)]; simp [h]
 ·rw [decide_eq_false (show ¬ a ≥ lo from h)]; simp [h]
theorem inR_iff {α : Type} {l : List α} {i : Int} (h0 : 0 ≤ i) (h1 : i < (l.length : Int)) : rInR l i = true := by
 unfold rInR; rw [Bool.and_eq_true]; exact ⟨decide_eq_true h0, decide_eq_true h1⟩
theorem eql_eq {a b : Int} (h : rCmp .eql a b = true) : a = b := by simpa [rCmp] using h
theorem small_of {α : Type} {l : List α} (h : l.length ≤ 1073741824) : rSmall l = true := by unfold rSmall limit; exact decide_eq_true (by omega)
end Go.Fn
set_option linter.unusedSimpArgs false
namespace Go.Fn
open Go.R
abbrev Spn := Int × Int
theorem gtr_not (a b : Int) : rCmp .gtr a b = Bool.not (rCmp .leq a b) := by
 simp only [rCmp, gt_iff_lt]
 by_cases h : a ≤ b
 ·rw [decide_eq_true h, decide_eq_false (by omega)]; rfl
 ·rw [decide_eq_false h, decide_eq_true (by omega)]; rfl
abbrev Sty := Int × Int × Int × Int
theorem rBeq_self (b : Bool) : rBeq b b = true := by unfold rBeq; simp
end Go.Fn
set_option linter.unusedSimpArgs false
namespace Go.Fn
open Go.R
abbrev Stp := Int × Int × Int × Int × Int
noncomputable def legAt (r : List Int) (j : Nat) : Bool := inB (r.getD j zI) 0 200
noncomputable def rowAt (g : List (List Int)) (n : Nat) : Bool := bif rCmp .neq (rLen (g.getD n zLIl)) (rLen g) then false else allFrom (legAt (g.getD n zLIl)) 0 (g.getD n zLIl).length
noncomputable def stopOk (s : Stp) : Bool := inB s.1 0 20000 && (inB s.2.1 0 20000 && (!rCmp .gtr s.1 s.2.1 && (inB s.2.2.1 0 200 && (inB s.2.2.2.1 0 1000 && inB s.2.2.2.2 0 1000))))
noncomputable def roundOk (a0 a1 : Int) (g : List (List Int)) (s : List Stp) : Bool :=
 inB a0 0 20000 && (inB a1 0 1000 && (!rCmp .gtr (rLen s) 6 && (!rCmp .neq (rLen g) (rArith .add .i64 (rLen s) 1) && (allFrom (rowAt g) 0 g.length && allFrom (fun n => stopOk (s.getD n zIIIII)) 0 s.length))))
theorem neq_len {α β : Type} {l : List α} {m : List β} (h : rCmp .neq (rLen l) (rLen m) = false) : l.length = m.length := by
 simp only [rCmp, rLen, bne_eq_false_iff_eq] at h
 omega
theorem contains_eq (r : List Int) (hr : r.length ≤ 1073741824) : slices_ContainsFunc___int_int___impl_RoundOk_1 r = some (Bool.not (allFrom (legAt r) 0 r.length), ()) := by
 unfold slices_ContainsFunc___int_int___impl_RoundOk_1 slices_IndexFunc___int_int___impl_RoundOk_1
 obtain ⟨y, h1, h2⟩ := loop_find (body := slices_IndexFunc___int_int___impl_RoundOk_1_b0 (r, rLen r, ())) (fun n => ((n : Int), ())) r.length (by omega) (legAt r) (Sum.inr (Sum.inl ())) (fun n => Sum.inl ((n : Int), ())) (fun n hn => by
  unfold slices_IndexFunc___int_int___impl_RoundOk_1_b0 impl_RoundOk_1 legAt
  simp only [lss_len, inR_nat, hn, decide_true, cond_true, get_nat, within_eq, Option.bind_some, succ64 (n := n) (by omega)]
  cases inB (r.getD n zI) 0 200 <;> rfl) (by
  unfold slices_IndexFunc___int_int___impl_RoundOk_1_b0
  simp only [lss_len, Nat.lt_irrefl, decide_false, cond_false])
 have h1' : slices_IndexFunc___int_int___impl_RoundOk_1_l0 (r, rLen r, ()) ((0 : Int), ()) = some y := h1
 rw [h1']
 rcases h2 with ⟨e1, rfl⟩ | ⟨e1, n, hn, rfl, _⟩
 ·rw [e1]; rfl
 ·rw [e1]
  show some (rCmp .geq ((n : Nat) : Int) 0, ()) = some (Bool.not false, ())
  have : rCmp .geq ((n : Nat) : Int) 0 = true := by simp [rCmp]
  rw [this]
  rfl
theorem implRound_eq (a0 a1 : Int) (g : List (List Int)) (s : List Stp) (hg : ∀ r ∈ g, r.length ≤ 1073741824) : impl_RoundOk a0 a1 g s = some (roundOk a0 a1 g s, ()) := by
 unfold impl_RoundOk roundOk
 simp only [timeOk_eq, within_eq, Option.bind_some]
 cases inB a0 0 20000 with
 | false => rfl
 | true =>
  cases inB a1 0 1000 with
  | false => rfl
  | true =>
   cases h6 : rCmp .gtr (rLen s) 6 with
   | true => rfl
   | false =>
    have hs6 : s.length ≤ 6 := by simp [rCmp, rLen] at h6; omega
    cases hn : rCmp .neq (rLen g) (rArith .add .i64 (rLen s) 1) with
    | true => rfl
    | false =>
     have hg7 : g.length = s.length + 1 := by
      rw [add64 (by unfold rLen; omega) (by unfold rLen; omega)] at hn
      simp only [rCmp, rLen, bne_eq_false_iff_eq] at hn
      omega
     have hloop1 : impl_RoundOk_l0 (a0, a1, g, s, g, rLen g, ()) ((0 : Int), ()) = some (bif allFrom (rowAt g) 0 g.length then (Sum.inr (Sum.inl ()) : Bool × Unit ⊕ (Unit ⊕ Empty)) else Sum.inl (false, ())) := by
      refine loop_all (fun n => ((n : Int), ())) g.length (by omega) (rowAt g) _ _ (fun n hn => ?_) ?_
      ·have hrow : (g.getD n zLIl).length ≤ 1073741824 := by
        rw [List.getD_eq_getElem?_getD, List.getElem?_eq_getElem hn]
        exact hg _ (List.getElem_mem hn)
       unfold impl_RoundOk_b0 rowAt
       simp only [lss_len, inR_nat, hn, decide_true, cond_true, get_nat, contains_eq _ hrow, Option.bind_some, succ64 (n := n) (by omega)]
       cases rCmp .neq (rLen (g.getD n zLIl)) (rLen g) with
       | true => rfl
       | false => cases allFrom (legAt (g.getD n zLIl)) 0 (g.getD n zLIl).length <;> rfl
      ·unfold impl_RoundOk_b0
       simp only [lss_len, Nat.lt_irrefl, decide_false, cond_false]
     have hloop2 : impl_RoundOk_l2 (s, rLen s, ()) ((0 : Int), ()) = some (bif allFrom (fun n => stopOk (s.getD n zIIIII)) 0 s.length then (Sum.inr (Sum.inl ()) : Bool × Unit ⊕ (Unit ⊕ Empty)) else Sum.inl (false, ())) := by
      refine loop_all (fun n => ((n : Int), ())) s.length (by omega) (fun n => stopOk (s.getD n zIIIII)) _ _ (fun n hn => ?_) ?_
      ·unfold impl_RoundOk_b2 stopOk
       simp only [lss_len, inR_nat, hn, decide_true, cond_true, get_nat, timeOk_eq, within_eq, Option.bind_some, succ64 (n := n) (by omega)]
       generalize s.getD n zIIIII = e
       cases inB e.1 0 20000 with
       | false => rfl
       | true =>
        cases inB e.2.1 0 20000 with
        | false => rfl
        | true =>
         cases rCmp .gtr e.1 e.2.1 with
         | true => rfl
         | false =>
          cases inB e.2.2.1 0 200 with
          | false => rfl
          | true =>
           cases inB e.2.2.2.1 0 1000 with
           | false => rfl
           | true => cases inB e.2.2.2.2 0 1000 <;> rfl
      ·unfold impl_RoundOk_b2
       simp only [lss_len, Nat.lt_irrefl, decide_false, cond_false]
     simp only [Bool.not_true, cond_false]
     rw [hloop1, hloop2]
     cases allFrom (rowAt g) 0 g.length with
     | false => rfl
     | true => cases allFrom (fun n => stopOk (s.getD n zIIIII)) 0 s.length <;> rfl
theorem specRound_eq (a0 a1 : Int) (g : List (List Int)) (s : List Stp) : spec_RoundOk a0 a1 g s = some (roundOk a0 a1 g s, ()) := by
 unfold spec_RoundOk roundOk
 simp only [in_eq, Option.bind_some]
 cases inB a0 0 20000 with
 | false => rfl
 | true =>
  cases inB a1 0 1000 with
  | false => rfl
  | true =>
   cases h6 : rCmp .gtr (rLen s) 6 with
   | true => rfl
   | false =>
    have hs6 : s.length ≤ 6 := by simp [rCmp, rLen] at h6; omega
    cases hn : rCmp .neq (rLen g) (rArith .add .i64 (rLen s) 1) with
    | true => rfl
    | false =>
     have hg7 : g.length = s.length + 1 := by
      rw [add64 (by unfold rLen; omega) (by unfold rLen; omega)] at hn
      simp only [rCmp, rLen, bne_eq_false_iff_eq] at hn
      omega
     have hloop1 : spec_RoundOk_l0 (a0, a1, g, s, ()) ((0 : Int), ()) = some (bif allFrom (rowAt g) 0 g.length then (Sum.inr (Sum.inl ()) : Bool × Unit ⊕ (Unit ⊕ Empty)) else Sum.inl (false, ())) := by
      refine loop_all (fun n => ((n : Int), ())) g.length (by omega) (rowAt g) _ _ (fun n hn => ?_) ?_
      ·unfold spec_RoundOk_b0 rowAt
       simp only [lss_len, inR_nat, hn, decide_true, cond_true, get_nat, succ64 (n := n) (by omega)]
       cases hne : rCmp .neq (rLen (g.getD n zLIl)) (rLen g) with
       | true => rfl
       | false =>
        have hlen := neq_len hne
        have hin : spec_RoundOk_l2 (a0, a1, g, s, (n : Int), ()) ((0 : Int), ()) = some (bif allFrom (legAt (g.getD n zLIl)) 0 g.length then (Sum.inr (Sum.inl ()) : Bool × Unit ⊕ (Unit ⊕ Empty)) else Sum.inl (false, ())) := by
         refine loop_all (fun n => ((n : Int), ())) g.length (by omega) (legAt (g.getD n zLIl)) _ _ (fun m hm => ?_) ?_
         ·have hm' : m < (g.getD n zLIl).length := by rw [hlen]; exact hm
          unfold spec_RoundOk_b2 legAt
          simp only [lss_len, inR_nat, hn, hm, get_nat, hm', decide_true, cond_true, in_eq, Option.bind_some, succ64 (n := m) (by omega)]
          cases inB ((g.getD n zLIl).getD m zI) 0 200 <;> rfl
         ·unfold spec_RoundOk_b2
          simp only [lss_len, Nat.lt_irrefl, decide_false, cond_false]
        simp only [cond_false]
        rw [hin, hlen]
        cases allFrom (legAt (g.getD n zLIl)) 0 g.length <;> rfl
      ·unfold spec_RoundOk_b0
       simp only [lss_len, Nat.lt_irrefl, decide_false, cond_false]
     have hloop2 : spec_RoundOk_l4 (a0, a1, g, s, ()) ((0 : Int), ()) = some (bif allFrom (fun n => stopOk (s.getD n zIIIII)) 0 s.length then (Sum.inr (Sum.inl ()) : Bool × Unit ⊕ (Unit ⊕ Empty)) else Sum.inl (false, ())) := by
      refine loop_all (fun n => ((n : Int), ())) s.length (by omega) (fun n => stopOk (s.getD n zIIIII)) _ _ (fun n hn => ?_) ?_
      ·unfold spec_RoundOk_b4 stopOk
       simp only [lss_len, inR_nat, hn, decide_true, cond_true, get_nat, in_eq, Option.bind_some, succ64 (n := n) (by omega)]
       generalize s.getD n zIIIII = e
       have hse : inB e.2.1 0 20000 = true → inB e.1 0 e.2.1 = (inB e.1 0 20000 && !rCmp .gtr e.1 e.2.1) := by
        intro hb
        have hb := inB_iff.1 hb
        rw [Bool.eq_iff_iff, Bool.and_eq_true, inB_iff, inB_iff]
        simp only [rCmp, Bool.not_eq_true', decide_eq_false_iff_not]
        omega
       cases hb : inB e.2.1 0 20000 with
       | false => cases inB e.1 0 20000 <;> rfl
       | true =>
        rw [hse hb]
        cases inB e.1 0 20000 with
        | false => rfl
        | true =>
         cases rCmp .gtr e.1 e.2.1 with
         | true => rfl
         | false =>
          cases inB e.2.2.1 0 200 with
          | false => rfl
          | true =>
           cases inB e.2.2.2.1 0 1000 with
           | false => rfl
           | true => cases inB e.2.2.2.2 0 1000 <;> rfl
      ·unfold spec_RoundOk_b4
       simp only [lss_len, Nat.lt_irrefl, decide_false, cond_false]
     simp only [Bool.not_true, cond_false]
     rw [hloop1, hloop2]
     cases allFrom (rowAt g) 0 g.length with
     | false => rfl
     | true => cases allFrom (fun n => stopOk (s.getD n zIIIII)) 0 s.length <;> rfl
end Go.Fn
set_option linter.unusedSimpArgs false
namespace Go.Fn
open Go.R
theorem roundOk_rows {a0 a1 : Int} {g : List (List Int)} {s : List Stp} (h : roundOk a0 a1 g s = true) : s.length ≤ 6 ∧ g.length = s.length + 1 ∧ (∀ n, n < g.length → (g.getD n zLIl).length = g.length ∧ ∀ m, m < g.length → 0 ≤ (g.getD n zLIl).getD m zI ∧ (g.getD n zLIl).getD m zI ≤ 200) ∧
  (∀ n, n < s.length → stopOk (s.getD n zIIIII) = true) ∧ (0 ≤ a0 ∧ a0 ≤ 20000) ∧ (0 ≤ a1 ∧ a1 ≤ 1000) := by
 unfold roundOk at h
 simp only [Bool.and_eq_true] at h
 obtain ⟨h1, h2, h3, h4, h5, h6⟩ := h
 have hs6 : s.length ≤ 6 := by simp [rCmp, rLen] at h3; omega
 have hg : g.length = s.length + 1 := by
  rw [add64 (by unfold rLen; omega) (by unfold rLen; omega)] at h4
  simp only [rCmp, rLen, Bool.not_eq_true', bne_eq_false_iff_eq] at h4
  omega
 refine ⟨hs6, hg, fun n hn => ?_, fun n hn => (allFrom_iff _ _).1 h6 n (Nat.zero_le _) (by omega), inB_iff.1 h1, inB_iff.1 h2⟩
 have := (allFrom_iff _ _).1 h5 n (Nat.zero_le _) (by omega)
 unfold rowAt at this
 cases hne : rCmp .neq (rLen (g.getD n zLIl)) (rLen g) with
 | true => rw [hne] at this; cases this
 | false =>
  rw [hne] at this
  have hl := neq_len hne
  refine ⟨hl, fun m hm => ?_⟩
  have := (allFrom_iff _ _).1 this m (Nat.zero_le _) (by omega)
  exact inB_iff.1 this
noncomputable def nat (l : List Int) (x : Int) (n : Nat) : Bool := !rCmp .eql (l.getD n zI) x
noncomputable def hasI (l : List Int) (x : Int) : Bool := !allFrom (nat l x) 0 l.length
theorem eql_comm (a b : Int) : rCmp .eql a b = rCmp .eql b a := by
 simp only [rCmp]
 rw [Bool.eq_iff_iff, beq_iff_eq, beq_iff_eq]
 exact eq_comm
theorem specHas_eq (l : List Int) (x : Int) (hl : l.length ≤ 1073741824) : spec_l02Has l x = some (hasI l x, ()) := by
 unfold spec_l02Has hasI
 have hloop : spec_l02Has_l0 (l, x, ()) ((0 : Int), ()) = some (bif allFrom (nat l x) 0 l.length then (Sum.inr (Sum.inl ()) : Bool × Unit ⊕ (Unit ⊕ Empty)) else Sum.inl (true, ())) := by
  refine loop_all (fun n => ((n : Int), ())) l.length (by omega) (nat l x) _ _ (fun n hn => ?_) ?_
  ·unfold spec_l02Has_b0 nat
   simp only [lss_len, inR_nat, get_nat, hn, decide_true, cond_true, succ64 (n := n) (by omega)]
   cases rCmp .eql (l.getD n zI) x <;> rfl
  ·unfold spec_l02Has_b0
   simp only [lss_len, Nat.lt_irrefl, decide_false, cond_false]
 rw [hloop]
 cases allFrom (nat l x) 0 l.length <;> rfl
theorem containsI_eq (l : List Int) (x : Int) (hl : l.length ≤ 1073741824) : slices_Contains___int_int_ l x = some (hasI l x, ()) := by
 unfold slices_Contains___int_int_ slices_Index___int_int_ hasI
 obtain ⟨y, h1, h2⟩ := loop_find (body := slices_Index___int_int__b0 (l, x, rLen l, ())) (fun n => ((n : Int), ())) l.length (by omega) (nat l x) (Sum.inr (Sum.inl ())) (fun n => Sum.inl ((n : Int), ())) (fun n hn => by
  unfold slices_Index___int_int__b0 nat
  simp only [lss_len, inR_nat, hn, decide_true, cond_true, get_nat, succ64 (n := n) (by omega), eql_comm x]
  cases rCmp .eql (l.getD n zI) x <;> rfl) (by
  unfold slices_Index___int_int__b0
  simp only [lss_len, Nat.lt_irrefl, decide_false, cond_false])
 have h1' : slices_Index___int_int__l0 (l, x, rLen l, ()) ((0 : Int), ()) = some y := h1
 rw [h1']
 rcases h2 with ⟨e1, rfl⟩ | ⟨e1, n, hn, rfl, _⟩
 ·rw [e1]; rfl
 ·rw [e1]
  show some (rCmp .geq ((n : Nat) : Int) 0, ()) = some (Bool.not false, ())
  have : rCmp .geq ((n : Nat) : Int) 0 = true := by simp [rCmp]
  rw [this]
  rfl
noncomputable def ordAt (s : List Stp) (o : List Int) (n : Nat) : Bool := inB (o.getD n zI) 0 (rArith .sub .i64 (rLen s) 1) && !hasI (o.take n) (o.getD n zI)
noncomputable def orderOk (a0 a1 : Int) (g : List (List Int)) (s : List Stp) (o : List Int) : Bool := roundOk a0 a1 g s && allFrom (ordAt s o) 0 o.length
theorem sub_take {α : Type} (l : List α) (n : Nat) : rSub l 0 (n : Int) = l.take n := by simp [rSub]
theorem subOk_take {α : Type} {l : List α} {n : Nat} (h : n ≤ l.length) : rSubOk l 0 (n : Int) = true := by
 unfold rSubOk
 simp only [Bool.and_eq_true, decide_eq_true_eq]
 omega
theorem take_len {α : Type} {l : List α} {n m : Nat} (h : l.length ≤ m) : (l.take n).length ≤ m := by rw [List.length_take]; omega
theorem specOrder_eq (a0 a1 : Int) (g : List (List Int)) (s : List Stp) (o : List Int) (ho : o.length ≤ 1073741824) : spec_OrderOk a0 a1 g s o = some (orderOk a0 a1 g s o, ()) := by
 unfold spec_OrderOk orderOk
 rw [specRound_eq]
 simp only [Option.bind_some]
 cases hr : roundOk a0 a1 g s with
 | false => rfl
 | true =>
  have hl0 : spec_OrderOk_l0 (o, a0, a1, g, s, ()) ((0 : Int), ()) = some (bif allFrom (ordAt s o) 0 o.length then (Sum.inr (Sum.inl ()) : Bool × Unit ⊕ (Unit ⊕ Empty)) else Sum.inl (false, ())) := by
   refine loop_all (fun n => ((n : Int), ())) o.length (by omega) (ordAt s o) _ _ (fun n hn => ?_) ?_
   ·unfold spec_OrderOk_b0 ordAt
    simp only [lss_len, inR_nat, get_nat, hn, decide_true, cond_true, in_eq, Option.bind_some, sub_take, subOk_take (Nat.le_of_lt hn), specHas_eq _ _ (take_len ho), succ64 (n := n) (by omega)]
    cases inB (o.getD n zI) 0 (rArith .sub .i64 (rLen s) 1) with
    | false => rfl
    | true => cases hasI (o.take n) (o.getD n zI) <;> rfl
   ·unfold spec_OrderOk_b0
    simp only [lss_len, Nat.lt_irrefl, decide_false, cond_false]
  simp only [Bool.not_true, cond_false, Bool.true_and]
  rw [hl0]
  cases allFrom (ordAt s o) 0 o.length <;> rfl
theorem implOrder_eq (a0 a1 : Int) (g : List (List Int)) (s : List Stp) (o : List Int) (hgr : ∀ r ∈ g, r.length ≤ 1073741824) (ho : o.length ≤ 1073741824) : impl_OrderOk a0 a1 g s o = some (orderOk a0 a1 g s o, ()) := by
 unfold impl_OrderOk orderOk
 rw [implRound_eq a0 a1 g s hgr]
 simp only [Option.bind_some]
 cases hr : roundOk a0 a1 g s with
 | false => rfl
 | true =>
  have hl0 : impl_OrderOk_l0 (o, a0, a1, g, s, o, rLen o, ()) ((0 : Int), ()) = some (bif allFrom (ordAt s o) 0 o.length then (Sum.inr (Sum.inl ()) : Bool × Unit ⊕ (Unit ⊕ Empty)) else Sum.inl (false, ())) := by
   refine loop_all (fun n => ((n : Int), ())) o.length (by omega) (ordAt s o) _ _ (fun n hn => ?_) ?_
   ·unfold impl_OrderOk_b0 ordAt
    simp only [lss_len, inR_nat, get_nat, hn, decide_true, cond_true, within_eq, Option.bind_some, sub_take, subOk_take (Nat.le_of_lt hn), containsI_eq _ _ (take_len ho), succ64 (n := n) (by omega)]
    cases inB (o.getD n zI) 0 (rArith .sub .i64 (rLen s) 1) with
    | false => rfl
    | true => cases hasI (o.take n) (o.getD n zI) <;> rfl
   ·unfold impl_OrderOk_b0
    simp only [lss_len, Nat.lt_irrefl, decide_false, cond_false]
  simp only [Bool.not_true, cond_false, Bool.true_and]
  rw [hl0]
  cases allFrom (ordAt s o) 0 o.length <;> rfl
end Go.Fn
set_option linter.unusedSimpArgs false
namespace Go.Fn
open Go.R
theorem subadd (a b c : Int) : rArith .sub .i64 (rArith .add .i64 a b) c = rArith .add .i64 a (rArith .sub .i64 b c) := by
 show IntKind.i64.wrap (IntKind.i64.wrap (a + b) - c) = IntKind.i64.wrap (a + IntKind.i64.wrap (b - c))
 simp only [IntKind.wrap_i64]
 omega
theorem addsub (a b c : Int) : rArith .add .i64 (rArith .sub .i64 a b) c = rArith .add .i64 a (rArith .sub .i64 c b) := by
 show IntKind.i64.wrap (IntKind.i64.wrap (a - b) + c) = IntKind.i64.wrap (a + IntKind.i64.wrap (c - b))
 simp only [IntKind.wrap_i64]
 omega
abbrev RSt := Int × List Int × Int × Int × Int × Int
noncomputable def arr (g : List (List Int)) (st : RSt) (i : Int) : Int := rArith .add .i64 st.2.2.1 (rGet zI (rGet zLIl g st.2.2.2.2.2) (rArith .add .i64 i 1))
noncomputable def load1 (s : List Stp) (l i : Int) : Int := rArith .add .i64 l (rGet zIIIII s i).2.2.2.1
noncomputable def next (g : List (List Int)) (s : List Stp) (st : RSt) (i : Int) : RSt :=
  (rArith .add .i64 st.1 (rArith .sub .i64 (rGet zIIIII s i).2.2.2.2 (rGet zIIIII s i).2.2.2.1),
   st.2.1 ++ [rMxmn true (arr g st i) (rGet zIIIII s i).1],
   rArith .add .i64 (rMxmn true (arr g st i) (rGet zIIIII s i).1) (rGet zIIIII s i).2.2.1,
   rMxmn true st.2.2.2.1 (rArith .add .i64 st.1 (rArith .sub .i64 (rGet zIIIII s i).2.2.2.2 (rGet zIIIII s i).2.2.2.1)),
   rArith .add .i64 st.2.2.2.2.1 (rArith .sub .i64 (rMxmn true (arr g st i) (rGet zIIIII s i).1) (arr g st i)),
   rArith .add .i64 i 1)
noncomputable def late (g : List (List Int)) (s : List Stp) (st : RSt) (i : Int) : Bool := rCmp .gtr (arr g st i) (rGet zIIIII s i).2.1
noncomputable def stepR {Y : Type} (g : List (List Int)) (s : List Stp) (f : RSt → Y) (st : RSt) (i : Int) : RSt ⊕ Y := bif late g s st i then .inr (f st) else .inl (next g s st i)
noncomputable def rideGo (g : List (List Int)) (s : List Stp) : List Int → RSt → RSt ⊕ RSt
 | [], st => .inl st
 | i :: o, st => bif late g s st i then .inr st else rideGo g s o (next g s st i)
theorem runL_go {Y : Type} (g : List (List Int)) (s : List Stp) (f fin : RSt → Y) : ∀ (o : List Int) (st : RSt), runL (stepR g s f) fin o st = match rideGo g s o st with | .inl st' => fin st' | .inr st' => f st'
 | [], st => rfl
 | i :: o, st => by
  simp only [runL, rideGo, stepR]
  cases late g s st i with
  | true => rfl
  | false => exact runL_go g s f fin o _
noncomputable def load0 (s : List Stp) (o : List Int) : Int := o.foldl (load1 s) 0
noncomputable def start (a0 : Int) (s : List Stp) (o : List Int) : RSt := (load0 s o, [], a0, load0 s o, 0, 0)
noncomputable def home (g : List (List Int)) (o : List Int) (st : RSt) : Int := rArith .add .i64 st.2.2.1 (rArith .mul .i64 (rGet zI (rGet zLIl g st.2.2.2.2.2) 0) (rMxmn false 1 (rLen o)))
noncomputable def ride (a0 a1 : Int) (g : List (List Int)) (s : List Stp) (o : List Int) : Option (List Int × Int × Int × Int) :=
 bif orderOk a0 a1 g s o then
  match rideGo g s o (start a0 s o) with
  | .inr _ => none
  | .inl st => bif rCmp .gtr st.2.2.2.1 a1 then none else some (st.2.1, home g o st, st.2.2.2.1, st.2.2.2.2.1)
 else none
theorem orderOk_round {a0 a1 : Int} {g : List (List Int)} {s : List Stp} {o : List Int} (h : orderOk a0 a1 g s o = true) : roundOk a0 a1 g s = true := by
 unfold orderOk at h; rw [Bool.and_eq_true] at h; exact h.1
theorem orderOk_at {a0 a1 : Int} {g : List (List Int)} {s : List Stp} {o : List Int} (h : orderOk a0 a1 g s o = true) {n : Nat} (hn : n < o.length) : 0 ≤ o.getD n zI ∧ o.getD n zI < (s.length : Int) := by
 have hr := roundOk_rows (orderOk_round h)
 unfold orderOk at h
 rw [Bool.and_eq_true] at h
 have := (allFrom_iff _ _).1 h.2 n (Nat.zero_le _) (by omega)
 unfold ordAt at this
 rw [Bool.and_eq_true, inB_iff] at this
 have e : rArith .sub .i64 (rLen s) 1 = (s.length : Int) - 1 := sub64 (by unfold rLen; omega) (by unfold rLen; omega)
 rw [e] at this
 omega
structure InvR (g : List (List Int)) (n : Nat) (st : RSt) : Prop where
 lo : 0 ≤ st.2.2.2.2.2
 hi : st.2.2.2.2.2 < (g.length : Int)
 len : st.2.1.length = n
section
variable {a0 a1 : Int} {g : List (List Int)} {s : List Stp} {o : List Int}
theorem at_facts (h : orderOk a0 a1 g s o = true) {n : Nat} (hn : n < o.length) {st : RSt} (hi : InvR g n st) (ho : o.length ≤ 1073741824) :
  rInR s (o.getD n zI) = true ∧ rInR g st.2.2.2.2.2 = true ∧ rInR (rGet zLIl g st.2.2.2.2.2) (rArith .add .i64 (o.getD n zI) 1) = true ∧ rInR (rGet zLIl g st.2.2.2.2.2) 0 = true ∧
  (∀ v : Int, rSmall (List.append st.2.1 (List.append [] [v])) = true) ∧ InvR g (n + 1) (next g s st (o.getD n zI)) := by
 obtain ⟨h6, hg, hrow, _, _, _⟩ := roundOk_rows (orderOk_round h)
 obtain ⟨i0, i1⟩ := orderOk_at h hn
 have hp := hi.hi
 have hp0 := hi.lo
 have hr := (hrow st.2.2.2.2.2.toNat (by omega)).1
 have e1 : rArith .add .i64 (o.getD n zI) 1 = o.getD n zI + 1 := add1 i0 (by omega)
 have hrl : (rGet zLIl g st.2.2.2.2.2).length = g.length := hr
 have hl := hi.len
 refine ⟨inR_iff i0 i1, inR_iff hp0 hp, ?_, inR_iff (Int.le_refl 0) (by rw [hrl]; omega), fun v => small_of (by show (st.2.1 ++ ([] ++ [v])).length ≤ _; simp; omega), ?_, ?_, ?_⟩
 ·rw [e1]; exact inR_iff (by omega) (by rw [hrl]; omega)
 ·show 0 ≤ rArith .add .i64 (o.getD n zI) 1; rw [e1]; omega
 ·show rArith .add .i64 (o.getD n zI) 1 < _; rw [e1]; omega
 ·show (st.2.1 ++ [_]).length = n + 1; simp [hl]
theorem start_inv (h : orderOk a0 a1 g s o = true) : InvR g 0 (start a0 s o) := by
 obtain ⟨h6, hg, _, _, _, _⟩ := roundOk_rows (orderOk_round h)
 exact ⟨Int.le_refl 0, by show (0 : Int) < _; omega, rfl⟩
theorem implLoad (h : orderOk a0 a1 g s o = true) (ho : o.length ≤ 1073741824) : impl_ride_l0 (o, a0, a1, g, s, o, rLen o, ()) ([], 0, 0, 0, 0, 0, ()) = some (Sum.inl ([], 0, 0, 0, load0 s o, ())) := by
 refine (loop_fold (body := impl_ride_b0 (o, a0, a1, g, s, o, rLen o, ())) o zI (by omega) (load1 s) (fun l n => ([], 0, 0, 0, l, (n : Int), ())) (fun _ _ => True) (fun l => Sum.inl ([], 0, 0, 0, l, ())) (fun n l hn _ => ⟨?_, trivial⟩) (fun l _ => ?_) 0 trivial).1
 ·obtain ⟨i0, i1⟩ := orderOk_at h hn
  unfold impl_ride_b0 load1
  simp only [lss_len, inR_nat, get_nat, hn, decide_true, cond_true, inR_iff i0 i1, succ64 (n := n) (by omega)]
 ·unfold impl_ride_b0
  simp only [lss_len, Nat.lt_irrefl, decide_false, cond_false]
theorem specLoad (h : orderOk a0 a1 g s o = true) (ho : o.length ≤ 1073741824) : spec_l07Drive_l0 (o, a0, a1, g, s, ()) ([], 0, 0, 0, [], a0, 0, 0, 0, 0, ()) = some (Sum.inl ([], 0, 0, 0, [], a0, 0, 0, load0 s o, ())) := by
 refine (loop_fold (body := spec_l07Drive_b0 (o, a0, a1, g, s, ())) o zI (by omega) (load1 s) (fun l n => ([], 0, 0, 0, [], a0, 0, 0, l, (n : Int), ())) (fun _ _ => True) (fun l => Sum.inl ([], 0, 0, 0, [], a0, 0, 0, l, ())) (fun n l hn _ => ⟨?_, trivial⟩) (fun l _ => ?_) 0 trivial).1
 ·obtain ⟨i0, i1⟩ := orderOk_at h hn
  unfold spec_l07Drive_b0 load1
  simp only [lss_len, inR_nat, get_nat, hn, decide_true, cond_true, inR_iff i0 i1, succ64 (n := n) (by omega)]
 ·unfold spec_l07Drive_b0
  simp only [lss_len, Nat.lt_irrefl, decide_false, cond_false]
theorem implWay (h : orderOk a0 a1 g s o = true) (ho : o.length ≤ 1073741824) : impl_ride_l2 (o, a0, a1, g, s, o, rLen o, ()) ([], 0, 0, 0, load0 s o, [], a0, load0 s o, 0, 0, 0, ()) =
  some (match rideGo g s o (start a0 s o) with | .inl st => Sum.inr (Sum.inl ([], 0, 0, 0, st.2.1, st.2.2.1, st.2.2.2.1, st.2.2.2.2.1, st.2.2.2.2.2, ())) | .inr _ => Sum.inl ([], 0, 0, 0, false, ())) := by
 rw [← runL_go g s (fun _ => Sum.inl ([], 0, 0, 0, false, ())) (fun st => Sum.inr (Sum.inl ([], 0, 0, 0, st.2.1, st.2.2.1, st.2.2.2.1, st.2.2.2.2.1, st.2.2.2.2.2, ())))]
 refine loop_run (body := impl_ride_b2 (o, a0, a1, g, s, o, rLen o, ())) o zI (by omega) (fun st n => ([], 0, 0, 0, st.1, st.2.1, st.2.2.1, st.2.2.2.1, st.2.2.2.2.1, st.2.2.2.2.2, (n : Int), ())) _ _ (InvR g) (fun n st hn hi => ?_) (fun st hi => ?_) (start a0 s o) (start_inv h)
 ·obtain ⟨f1, f2, f3, _, f5, f6⟩ := at_facts h hn hi ho
  refine ⟨?_, fun b hb => ?_⟩
  ·unfold impl_ride_b2 stepR
   simp only [lss_len, inR_nat, get_nat, hn, decide_true, cond_true, f1, f2, f3, f5, lets_def, succ64 (n := n) (by omega)]
   show (bif late g s st (o.getD n zI) then _ else _) = _
   cases late g s st (o.getD n zI) <;> rfl
  ·unfold stepR at hb
   cases hl : late g s st (o.getD n zI) with
   | true => rw [hl] at hb; cases hb
   | false => rw [hl] at hb; injection hb with hb; subst hb; exact f6
 ·unfold impl_ride_b2
  simp only [lss_len, Nat.lt_irrefl, decide_false, cond_false]
theorem specWay (h : orderOk a0 a1 g s o = true) (ho : o.length ≤ 1073741824) : spec_l07Drive_l2 (o, a0, a1, g, s, ()) ([], 0, 0, 0, [], a0, load0 s o, 0, load0 s o, 0, 0, ()) =
  some (match rideGo g s o (start a0 s o) with | .inl st => Sum.inr (Sum.inl ([], 0, 0, 0, st.2.1, st.2.2.1, st.2.2.2.1, st.2.2.2.2.1, st.2.2.2.2.2, ())) | .inr st => Sum.inl (st.2.1, st.2.2.1, st.2.2.2.1, st.2.2.2.2.1, false, ())) := by
 rw [← runL_go g s (fun st => Sum.inl (st.2.1, st.2.2.1, st.2.2.2.1, st.2.2.2.2.1, false, ())) (fun st => Sum.inr (Sum.inl ([], 0, 0, 0, st.2.1, st.2.2.1, st.2.2.2.1, st.2.2.2.2.1, st.2.2.2.2.2, ())))]
 refine loop_run (body := spec_l07Drive_b2 (o, a0, a1, g, s, ())) o zI (by omega) (fun st n => ([], 0, 0, 0, st.2.1, st.2.2.1, st.2.2.2.1, st.2.2.2.2.1, st.1, st.2.2.2.2.2, (n : Int), ())) _ _ (InvR g) (fun n st hn hi => ?_) (fun st hi => ?_) (start a0 s o) (start_inv h)
 ·obtain ⟨f1, f2, f3, _, f5, f6⟩ := at_facts h hn hi ho
  refine ⟨?_, fun b hb => ?_⟩
  ·unfold spec_l07Drive_b2 stepR
   simp only [lss_len, inR_nat, get_nat, hn, decide_true, cond_true, f1, f2, f3, f5, lets_def, succ64 (n := n) (by omega), subadd, addsub]
   show (bif late g s st (o.getD n zI) then _ else _) = _
   cases late g s st (o.getD n zI) <;> rfl
  ·unfold stepR at hb
   cases hl : late g s st (o.getD n zI) with
   | true => rw [hl] at hb; cases hb
   | false => rw [hl] at hb; injection hb with hb; subst hb; exact f6
 ·unfold spec_l07Drive_b2
  simp only [lss_len, Nat.lt_irrefl, decide_false, cond_false]
theorem go_inv (h : orderOk a0 a1 g s o = true) (ho : o.length ≤ 1073741824) : ∀ (k n : Nat) (st st' : RSt), n + k = o.length → InvR g n st → rideGo g s (o.drop n) st = .inl st' → InvR g o.length st'
 | 0, n, st, st', hk, hi, hg => by
  have : n = o.length := by omega
  subst this
  rw [List.drop_length] at hg
  injection hg with hg
  subst hg
  exact hi
 | k + 1, n, st, st', hk, hi, hg => by
  have hn : n < o.length := by omega
  rw [drop_getD hn zI] at hg
  simp only [rideGo] at hg
  cases hl : late g s st (o.getD n zI) with
  | true => rw [hl] at hg; cases hg
  | false =>
   rw [hl] at hg
   exact go_inv h ho k (n + 1) _ st' (by omega) (at_facts h hn hi ho).2.2.2.2.2 hg
theorem home_facts (h : orderOk a0 a1 g s o = true) {st : RSt} {n : Nat} (hi : InvR g n st) : rInR g st.2.2.2.2.2 = true ∧ rInR (rGet zLIl g st.2.2.2.2.2) 0 = true ∧ 0 ≤ rGet zI (rGet zLIl g st.2.2.2.2.2) 0 ∧ rGet zI (rGet zLIl g st.2.2.2.2.2) 0 ≤ 200 := by
 obtain ⟨h6, hg, hrow, _, _, _⟩ := roundOk_rows (orderOk_round h)
 have hp := hi.hi
 have hp0 := hi.lo
 obtain ⟨hr, hv⟩ := hrow st.2.2.2.2.2.toNat (by omega)
 have hv := hv 0 (by omega)
 exact ⟨inR_iff hp0 hp, inR_iff (Int.le_refl 0) (by show (0 : Int) < ((g.getD st.2.2.2.2.2.toNat zLIl).length : Int); omega), hv.1, hv.2⟩
end
theorem implRide_eq (a0 a1 : Int) (g : List (List Int)) (s : List Stp) (o : List Int) (hgr : ∀ r ∈ g, r.length ≤ 1073741824) (ho : o.length ≤ 1073741824) :
  impl_ride a0 a1 g s o = some (match ride a0 a1 g s o with | some (b, e, p, w) => (b, e, p, w, true, ()) | none => ([], 0, 0, 0, false, ())) := by
 unfold impl_ride ride
 rw [implOrder_eq a0 a1 g s o hgr ho]
 simp only [Option.bind_some]
 cases hk : orderOk a0 a1 g s o with
 | false => rfl
 | true =>
  simp only [Bool.not_true, cond_false, cond_true]
  rw [implLoad hk ho]
  simp only [Option.bind_some, Sum.elim_inl]
  rw [implWay hk ho]
  cases hgo : rideGo g s o (start a0 s o) with
  | inr st => rfl
  | inl st =>
   have hi := go_inv hk ho o.length 0 _ st (by omega) (start_inv hk) (by rw [List.drop_zero]; exact hgo)
   obtain ⟨f1, f2, _, _⟩ := home_facts hk hi
   simp only [Option.bind_some, Sum.elim_inl, Sum.elim_inr, f1, f2, cond_true]
   cases rCmp .gtr st.2.2.2.1 a1 <;> rfl
theorem leq_not (a b : Int) : rCmp .leq a b = Bool.not (rCmp .gtr a b) := by rw [gtr_not, Bool.not_not]
theorem specRide_eq (a0 a1 : Int) (g : List (List Int)) (s : List Stp) (o : List Int) (ho : o.length ≤ 1073741824) :
  ∃ y, spec_l07Drive a0 a1 g s o = some y ∧ match ride a0 a1 g s o with | some (b, e, p, w) => y = (b, e, p, w, true, ()) | none => y.2.2.2.2.1 = false := by
 unfold spec_l07Drive ride
 rw [specOrder_eq a0 a1 g s o ho]
 simp only [Option.bind_some]
 cases hk : orderOk a0 a1 g s o with
 | false => exact ⟨_, rfl, rfl⟩
 | true =>
  simp only [Bool.not_true, cond_false, cond_true]
  rw [specLoad hk ho]
  simp only [Option.bind_some, Sum.elim_inl]
  rw [specWay hk ho]
  cases hgo : rideGo g s o (start a0 s o) with
  | inr st => exact ⟨_, rfl, rfl⟩
  | inl st =>
   have hi := go_inv hk ho o.length 0 _ st (by omega) (start_inv hk) (by rw [List.drop_zero]; exact hgo)
   obtain ⟨f1, f2, f3, f4⟩ := home_facts hk hi
   obtain ⟨_, _, _, _, ha0, _⟩ := roundOk_rows (orderOk_round hk)
   simp only [Option.bind_some, Sum.elim_inl, Sum.elim_inr, f1, f2, cond_true, leq_not]
   have hhome : home g o st = bif rCmp .gtr (rLen o) 0 then rArith .add .i64 st.2.2.1 (rGet zI (rGet zLIl g st.2.2.2.2.2) 0) else st.2.2.1 := by
    unfold home
    cases o with
    | nil =>
     have : st = start a0 s [] := by injection hgo with hgo; exact hgo.symm
     subst this
     show rArith .add .i64 a0 (rArith .mul .i64 _ 0) = a0
     have hm : ∀ x : Int, rArith .mul .i64 x 0 = 0 := fun x => by rw [mul64] <;> simp
     rw [hm, add64 (by omega) (by omega)]
     omega
    | cons i o =>
     have h1 : rMxmn false 1 (rLen (i :: o)) = 1 := by
      unfold rMxmn rLen
      simp only [cond_false]
      rw [if_neg (by simp only [List.length_cons]; omega)]
     have h2 : rCmp .gtr (rLen (i :: o)) 0 = true := by simp [rCmp, rLen]
     rw [h1, h2, mul64 (by omega) (by omega)]
     simp
   rw [hhome]
   cases rCmp .gtr (rLen o) 0 <;> cases rCmp .gtr st.2.2.2.1 a1 <;> exact ⟨_, rfl, rfl⟩
end Go.Fn
set_option linter.unusedSimpArgs false
namespace Go.Fn
open Go.R
abbrev Trm := Int × Int × Int × Int × Int × Int × Int × Int
end Go.Fn
set_option linter.unusedSimpArgs false
namespace Go.Fn
open Go.R
abbrev Bx := Int × Int × Int × Bool
abbrev Col := Int × List Int × List Bx
abbrev Site := List Spn × List Spn × List Col × Int × Int × Bool × Bool × Bool × Int × Int × List Ev
theorem getD_mem {α : Type} {l : List α} {n : Nat} (h : n < l.length) (z : α) : l.getD n z ∈ l := by
 rw [List.getD_eq_getElem?_getD, List.getElem?_eq_getElem h]
 exact List.getElem_mem h
end Go.Fn
set_option linter.unusedSimpArgs false
namespace Go.Fn
open Go.R
abbrev Prc := Int × Int × Int × Int × Int × Int × Int × Int × Int × Int × Int × Int × Int
abbrev Grt := Int × Int × Int × Int × Int × Int × Bool
end Go.Fn
namespace Go.R
def Yl {α : Type} (x : Option α) (P : α → Prop) : Prop := ∃ a, x = some a ∧ P a
section
variable {α β : Type} {P : α → Prop} {Q : β → Prop}
theorem Yl.ret {a : α} (h : P a) : Yl (some a) P := ⟨a, rfl, h⟩
theorem Yl.bind {x : Option α} {f : α → Option β} (hx : Yl x P) (hf : ∀ a, P a → Yl (f a) Q) : Yl (x.bind f) Q := by
 obtain ⟨a, rfl, ha⟩ := hx
 exact hf a ha
theorem Yl.mono {P' : α → Prop} {x : Option α} (hx : Yl x P) (h : ∀ a, P a → P' a) : Yl x P' := by
 obtain ⟨a, e, ha⟩ := hx
 exact ⟨a, e, h a ha⟩
theorem Yl.cond {b : Bool} {x y : Option α} (hx : b = true → Yl x P) (hy : b = false → Yl y P) : Yl (bif b then x else y) P := by
 cases b
 ·exact hy rfl
 ·exact hx rfl
theorem Yl.guard {b : Bool} {x : Option α} (hb : b = true) (hx : Yl x P) : Yl (bif b then x else none) P := by
 subst hb; exact hx
theorem Yl.nguard {b : Bool} {x : Option α} (hb : b = false) (hx : Yl x P) : Yl (bif b then none else x) P := by
 subst hb; exact hx
theorem Yl.lets {γ : Type} {v : γ} {k : γ → Option α} (h : Yl (k v) P) : Yl (lets v k) P := h
theorem Yl.loop {X Y : Type} {body : X → Option (X ⊕ Y)} (Inv : X → Prop) (m : X → Nat) {R : Y → Prop} (hb : ∀ x, Inv x → Yl (body x) fun r => match r with | .inl y => Inv y ∧ m y < m x | .inr b => R b) :
  ∀ (n : Nat) (x : X), Inv x → m x < n → Yl (iter body n x) R
 | 0, _, _, h => absurd h (Nat.not_lt_zero _)
 | n + 1, x, hi, hm => by
  obtain ⟨r, e, hr⟩ := hb x hi
  cases r with
  | inl y =>
   rw [iter_next e]
   exact Yl.loop Inv m hb n y hr.1 (by omega)
  | inr b => exact ⟨b, iter_done e, hr⟩
end
theorem cmp_lss {a b : Int} : rCmp .lss a b = decide (a < b) := rfl
theorem cmp_leq {a b : Int} : rCmp .leq a b = decide (a ≤ b) := rfl
theorem inR_int {α : Type} {l : List α} {i : Int} (h0 : 0 ≤ i) (h1 : i < (l.length : Int)) : rInR l i = true := by
 unfold rInR
 rw [Bool.and_eq_true]
 exact ⟨decide_eq_true h0, decide_eq_true h1⟩
theorem small_of {α : Type} {l : List α} (h : l.length ≤ 1073741824) : rSmall l = true := by
 unfold rSmall limit
 exact decide_eq_true (by omega)
theorem and64 (x : Int) {c : Nat} (hc : c < 9223372036854775808) : 0 ≤ rArith .and .i64 x (c : Int) ∧ rArith .and .i64 x (c : Int) ≤ (c : Int) := by
 have h1 : (BitVec.ofInt 64 (c : Int)).toNat = c := by
  rw [BitVec.toNat_ofInt]
  have : ((c : Int) % ((2 ^ 64 : Nat) : Int)) = c := Int.emod_eq_of_lt (by omega) (by omega)
  rw [this]; rfl
 have h2 : (BitVec.ofInt 64 x &&& BitVec.ofInt 64 (c : Int)).toNat ≤ c := by
  rw [BitVec.toNat_and, h1]
  exact Nat.and_le_right
 have e : rArith .and .i64 x (c : Int) = IntKind.i64.wrap (((BitVec.ofInt 64 x &&& BitVec.ofInt 64 (c : Int)).toNat : Nat) : Int) := rfl
 rw [e, w64 (by omega) (by omega)]
 exact ⟨by omega, by omega⟩
open Go.Fn
def Drawn (b : List Int) (lo hi : Int) (y : Int × List Int × Int × Int × Unit) : Prop := lo ≤ y.1 ∧ y.1 ≤ hi ∧ y.2.1 = b ∧ 0 ≤ y.2.2.1
theorem byte_yl (b : List Int) (hb : b.length ≤ 1048576) (i h : Int) (hi : 0 ≤ i) : Yl (spec_l01Byte b i h) (Drawn b 0 255) := by
 unfold spec_l01Byte
 refine .nguard rfl (.nguard rfl (.lets (.cond (fun h1 => ?_) fun _ => ?_)))
 ·rw [cmp_lss] at h1
  have h1 : i < (b.length : Int) := of_decide_eq_true h1
  refine .guard (inR_int hi h1) (.ret ?_)
  have := and64 (rArith .add .i64 (rArith .and .i64 (rArith .xor .i64 (rShift .shr .i64 (rArith .add .i64 (rArith .mul .i64 h 6364136223846793005) 1442695040888963407) 33) (rShift .shr .i64 (rArith .add .i64 (rArith .mul .i64 h 6364136223846793005) 1442695040888963407) 45)) 255) (rConv .i64 (rGet zI b i))) (c := 255) (by omega)
  refine ⟨this.1, this.2, rfl, ?_⟩
  show 0 ≤ rArith .add .i64 i 1
  rw [add64 (by omega) (by omega)]
  omega
 ·have := and64 (rArith .xor .i64 (rShift .shr .i64 (rArith .add .i64 (rArith .mul .i64 h 6364136223846793005) 1442695040888963407) 33) (rShift .shr .i64 (rArith .add .i64 (rArith .mul .i64 h 6364136223846793005) 1442695040888963407) 45)) (c := 255) (by omega)
  exact .ret ⟨this.1, this.2, rfl, hi⟩
theorem below_yl (b : List Int) (hb : b.length ≤ 1048576) (i h n : Int) (hi : 0 ≤ i) (hn : n ≤ 1073741824) : Yl (spec_l01Below b i h n) (Drawn b 0 (max 0 (n - 1))) := by
 unfold spec_l01Below
 have mod : ∀ (x : Int), 0 ≤ x → 0 < n → 0 ≤ rArith .rem .i64 x n ∧ rArith .rem .i64 x n ≤ max 0 (n - 1) := by
  intro x hx hn
  have e : rArith .rem .i64 x n = x.tmod n := rfl
  have h1 := Int.tmod_nonneg n hx
  have h2 := Int.tmod_lt_of_pos x hn
  rw [e]
  omega
 refine .cond (fun _ => .ret ⟨Int.le_refl _, by show (0 : Int) ≤ max 0 (n - 1); omega, rfl, hi⟩) fun h0 => .cond (fun _ => ?_) fun h1 => ?_
 ·rw [cmp_leq] at h0
  have h0 := of_decide_eq_false h0
  refine (byte_yl b hb i h hi).bind fun y hy => .nguard (decide_eq_false (by omega)) (.ret ?_)
  have := mod y.1 hy.1 (by omega)
  exact ⟨this.1, this.2, hy.2.2.1, hy.2.2.2⟩
 ·rw [cmp_leq] at h0
  have h0 := of_decide_eq_false h0
  refine (byte_yl b hb i h hi).bind fun y hy => ?_
  obtain ⟨y1, y2, y3, y4⟩ := hy
  rw [y3]
  refine (byte_yl b hb _ _ y4).bind fun z hz => ?_
  obtain ⟨z1, z2, z3, z4⟩ := hz
  rw [z3]
  refine (byte_yl b hb _ _ z4).bind fun u hu => ?_
  obtain ⟨u1, u2, u3, u4⟩ := hu
  rw [u3]
  refine (byte_yl b hb _ _ u4).bind fun v hv => .lets (.nguard (decide_eq_false (by omega)) (.ret ?_))
  obtain ⟨v1, v2, v3, v4⟩ := hv
  have e : rArith .add .i64 (rArith .add .i64 (rArith .add .i64 (rArith .mul .i64 y.1 16777216) (rArith .mul .i64 z.1 65536)) (rArith .mul .i64 u.1 256)) v.1 = y.1 * 16777216 + z.1 * 65536 + u.1 * 256 + v.1 := by
   rw [mul64 (a := y.1) (by omega) (by omega), mul64 (a := z.1) (by omega) (by omega), mul64 (a := u.1) (by omega) (by omega), add64 (a := y.1 * 16777216) (by omega) (by omega), add64 (a := y.1 * 16777216 + z.1 * 65536) (by omega) (by omega), add64 (a := y.1 * 16777216 + z.1 * 65536 + u.1 * 256) (by omega) (by omega)]
  have := mod (y.1 * 16777216 + z.1 * 65536 + u.1 * 256 + v.1) (by omega) (by omega)
  rw [e]
  exact ⟨this.1, this.2, v3, v4⟩
theorem once_yl (b : List Int) (hb : b.length ≤ 1048576) (i h n : Int) (hi : 0 ≤ i) (hn : n ≤ 1073741824) : Yl (spec_l01Once b i h n) fun y => y.2.1 = b ∧ 0 ≤ y.2.2.1 := by
 unfold spec_l01Once
 exact (below_yl b hb i h n hi hn).bind fun y hy => .ret ⟨hy.2.2.1, hy.2.2.2⟩
theorem pickInt_yl (b : List Int) (hb : b.length ≤ 1048576) (i h : Int) (l : List Int) (hi : 0 ≤ i) (h1 : 1 ≤ l.length) (h2 : l.length ≤ 1048576) : Yl (spec_l01PickInt b i h l) fun y => y.1 ∈ l ∧ y.2.1 = b ∧ 0 ≤ y.2.2.1 := by
 unfold spec_l01PickInt
 refine (below_yl b hb i h (rLen l) hi (by unfold rLen; omega)).bind fun y hy => ?_
 obtain ⟨y1, y2, y3, y4⟩ := hy
 have y2 : y.1 ≤ max 0 ((l.length : Int) - 1) := y2
 refine .guard (inR_int y1 (by omega)) (.ret ⟨?_, y3, y4⟩)
 show l.getD y.1.toNat zI ∈ l
 have hlt : y.1.toNat < l.length := by omega
 rw [List.getD_eq_getElem?_getD, List.getElem?_eq_getElem hlt]
 exact List.getElem_mem hlt
theorem new_yl (b : List Int) (hb : b.length ≤ 1048576) : Yl (spec_l01New b) fun y => y.1 = b ∧ y.2.1 = 0 := by
 unfold spec_l01New
 have hl : Yl (spec_l01New_l0 (b, ()) (rArith .add .i64 33183 (rLen b), 0, ())) fun _ => True := by
  unfold spec_l01New_l0
  refine Yl.loop (fun x => 0 ≤ x.2.1) (fun x => b.length + 1 - x.2.1.toNat) (fun x hx => ?_) big _ (by show (0 : Int) ≤ 0; omega) (lt_big (by show b.length + 1 - (0 : Int).toNat < _; omega))
  unfold spec_l01New_b0
  refine .cond (fun h1 => .cond (fun _ => ?_) fun _ => .ret trivial) fun _ => .ret trivial
  rw [cmp_lss] at h1
  have h1 : x.2.1 < (b.length : Int) := of_decide_eq_true h1
  refine .guard (inR_int hx h1) (.ret ?_)
  have e : rArith .add .i64 x.2.1 1 = x.2.1 + 1 := add64 (by omega) (by omega)
  show 0 ≤ rArith .add .i64 x.2.1 1 ∧ b.length + 1 - (rArith .add .i64 x.2.1 1).toNat < b.length + 1 - x.2.1.toNat
  rw [e]
  omega
 refine hl.bind fun q _ => ?_
 cases q with
 | inl y => exact .ret ⟨rfl, rfl⟩
 | inr q => exact nomatch q
end Go.R
set_option linter.unusedSimpArgs false
set_option linter.unusedVariables false
namespace Go.Fn
open Go.R Go.Sort
section
variable {α : Type} [Inhabited α] {lt : α → α → Bool}
theorem one : (1 : Int) = ((1 : Nat) : Int) := rfl
end
end Go.Fn
set_option linter.unusedSimpArgs false
set_option linter.unusedVariables false
namespace Go.Fn
open Go.R Go.Sort
section
variable {α : Type} [Inhabited α] {lt : α → α → Bool}
abbrev PdqQ (α : Type) := Option (((List α) × Int × Int × Int × Bool × Bool × Unit) ⊕ ((List α) × Unit ⊕ Empty))
noncomputable def Next (lt : α → α → Bool) (q : PdqQ α) (d : Array α) (a b : Nat) : Prop :=
 (∃ R, q = some (.inr (.inl (R.toList, ()))) ∧ PermIn a b d R ∧ SortedIn lt a b R) ∨
 (∃ (E : Array α) (a' b' : Nat) (L : Int) (wb wp : Bool), q = some (.inl (E.toList, (a' : Int), (b' : Int), L, wb, wp, ())) ∧ E.size = d.size ∧ a' ≤ b' ∧ b' ≤ b ∧ b' - a' < b - a ∧ Below lt a' b' E ∧ ∀ R, PermIn a' b' E R → SortedIn lt a' b' R → PermIn a b d R ∧ SortedIn lt a b R)
theorem Next.mono {q : PdqQ α} {d D : Array α} {a b : Nat} (h : Next lt q D a b) (p : PermIn a b d D) : Next lt q d a b := by
 rcases h with ⟨R, h1, h2, h3⟩ | ⟨E, a', b', L, wb, wp, h1, h2, h3, h4, h5, h6, h7⟩
 ·exact .inl ⟨R, h1, permIn_trans _ _ _ a b p h2, h3⟩
 ·refine .inr ⟨E, a', b', L, wb, wp, h1, by rw [h2, p.1], h3, h4, h5, h6, fun R hR hs => ?_⟩
  obtain ⟨k1, k2⟩ := h7 R hR hs
  exact ⟨permIn_trans _ _ _ a b p k1, k2⟩
end
end Go.Fn
set_option linter.unusedSimpArgs false
set_option linter.unusedVariables false
namespace Go.Fn
open Go.R Go.Sort
noncomputable def ltE (x y : Ev) : Bool := decide (x.1 < y.1) || (decide (x.1 = y.1) && decide (x.2.1 < y.2.1))
end Go.Fn
set_option linter.unusedSimpArgs false
set_option linter.unusedVariables false
namespace Go.Fn
open Go.R Go.Sort
theorem ltE_iff {x y : Ev} : ltE x y = true ↔ x.1 < y.1 ∨ (x.1 = y.1 ∧ x.2.1 < y.2.1) := by
 unfold ltE; simp
theorem ltE_tr {x y z : Ev} (h1 : ltE x y = true) (h2 : ltE y z = true) : ltE x z = true := by rw [ltE_iff] at *; omega
abbrev Srt (l : List Ev) : Prop := l.Pairwise fun x y => ltE x y = true
theorem srt_adj : ∀ (l : List Ev), (∀ n, n + 1 < l.length → ltE (l.getD n zIIIIIII) (l.getD (n + 1) zIIIIIII) = true) → Srt l
 | [], _ => List.Pairwise.nil
 | [x], _ => List.pairwise_singleton _ _
 | x :: y :: l, h => by
  have ih := srt_adj (y :: l) (fun n hn => h (n + 1) (by simpa using hn))
  have hxy : ltE x y = true := h 0 (by simp)
  refine List.Pairwise.cons (fun z hz => ?_) ih
  rcases List.mem_cons.1 hz with rfl | hz
  ·exact hxy
  ·exact ltE_tr hxy ((List.pairwise_cons.1 ih).1 z hz)
theorem jok_srt {l : List Ev} (h : jok l = true) : Srt l := by
 refine srt_adj l fun n hn => ?_
 have := jok_at h hn
 simp only [jokAt, Bool.and_eq_true, ordOk, Bool.not_eq_true', Bool.or_eq_false_iff, Bool.and_eq_false_iff, decide_eq_false_iff_not] at this
 rw [ltE_iff]
 omega
end Go.Fn
set_option linter.unusedSimpArgs false
set_option linter.unusedVariables false
namespace Go.Fn
open Go.R Go.Sort
theorem both_self {R : Type} (x : Option R) : both x x = x := by unfold both; simp
end Go.Fn
set_option linter.unusedSimpArgs false
set_option linter.unusedVariables false
namespace Go.Fn
open Go.R Go.Sort
noncomputable def aStep (node : Int) (s : Int × Int × Nat × Nat) (x : Ev) : Int × Int × Nat × Nat :=
 ((bif decide (x.1 = node) then x.2.1 + 1 else s.1), max s.2.1 (x.2.2.1 + 1), (bif decide (x.1 ≤ node) then s.2.2.2 + 1 else s.2.2.1), s.2.2.2 + 1)
noncomputable def aRun (l : List Ev) (node : Int) : Int × Int × Nat × Nat := l.foldl (aStep node) (1, 1, 0, 0)
noncomputable def newE (l : List Ev) (node kind parcel a b : Int) : Ev := (node, (aRun l node).1, (aRun l node).2.1, kind, parcel, a, b)
noncomputable def withE (l : List Ev) (node kind parcel a b : Int) : List Ev := l.take (aRun l node).2.2.1 ++ [newE l node kind parcel a b] ++ l.drop (aRun l node).2.2.1
noncomputable def addEv (l : List Ev) (node kind parcel a b : Int) : List Ev × Bool := bif jok l then bif jok (withE l node kind parcel a b) then (withE l node kind parcel a b, true) else (l, false) else (l, false)
structure AInv (node : Int) (p : List Ev) (s : Int × Int × Nat × Nat) : Prop where
 c : s.2.2.2 = p.length
 at_le : s.2.2.1 ≤ p.length
 s1 : ∀ x, x ∈ p → x.1 = node → x.2.1 < s.1
 s2 : s.1 = 1 ∨ ∃ x, x ∈ p ∧ x.1 = node ∧ s.1 = x.2.1 + 1
 p1 : ∀ x, x ∈ p → x.2.2.1 < s.2.1
 p2 : s.2.1 = 1 ∨ ∃ x, x ∈ p ∧ s.2.1 = x.2.2.1 + 1
 a1 : ∀ x, x ∈ p.take s.2.2.1 → x.1 ≤ node
 a2 : ∀ x, x ∈ p.drop s.2.2.1 → node < x.1
theorem aInv_step {node : Int} {p : List Ev} {s : Int × Int × Nat × Nat} {x : Ev} (h : AInv node p s) (hp : Srt (p ++ [x])) : AInv node (p ++ [x]) (aStep node s x) := by
 have hlt : ∀ y, y ∈ p → ltE y x = true := fun y hy => (List.pairwise_append.1 hp).2.2 y hy x (List.mem_singleton.2 rfl)
 obtain ⟨h1, h2, h3, h4, h5, h6, h7, h8⟩ := h
 unfold aStep
 refine ⟨by simp [h1], ?_, fun y hy hn => ?_, ?_, fun y hy => ?_, ?_, ?_, ?_⟩
 ·cases decide (x.1 ≤ node) <;> simp <;> omega
 ·simp only []
  rcases List.mem_append.1 hy with hy | hy
  ·by_cases hx : x.1 = node
   ·rw [decide_eq_true hx]
    have := hlt y hy
    rw [ltE_iff] at this
    simp only [cond_true]; omega
   ·rw [decide_eq_false hx]
    exact h3 y hy hn
  ·rw [List.mem_singleton] at hy
   subst hy
   rw [decide_eq_true hn]
   simp only [cond_true]; omega
 ·simp only []
  by_cases hx : x.1 = node
  ·rw [decide_eq_true hx]
   exact .inr ⟨x, by simp, hx, rfl⟩
  ·rw [decide_eq_false hx]
   rcases h4 with h4 | ⟨y, hy, h4⟩
   ·exact .inl h4
   ·exact .inr ⟨y, List.mem_append_left _ hy, h4⟩
 ·simp only []
  rcases List.mem_append.1 hy with hy | hy
  ·have := h5 y hy; omega
  ·rw [List.mem_singleton] at hy
   subst hy; omega
 ·simp only []
  by_cases hm : s.2.1 ≤ x.2.2.1 + 1
  ·exact .inr ⟨x, by simp, by omega⟩
  ·rcases h6 with h6 | ⟨y, hy, h6⟩
   ·exact .inl (by omega)
   ·exact .inr ⟨y, List.mem_append_left _ hy, by omega⟩
 ·simp only []
  by_cases hx : x.1 ≤ node
  ·rw [decide_eq_true hx]
   intro y hy
   rw [cond_true, h1, List.take_of_length_le (by simp)] at hy
   rcases List.mem_append.1 hy with hy | hy
   ·have := hlt y hy; rw [ltE_iff] at this; omega
   ·rw [List.mem_singleton] at hy; subst hy; exact hx
  ·rw [decide_eq_false hx]
   intro y hy
   rw [cond_false, List.take_append_of_le_length h2] at hy
   exact h7 y hy
 ·simp only []
  by_cases hx : x.1 ≤ node
  ·rw [decide_eq_true hx]
   intro y hy
   rw [cond_true, h1, List.drop_of_length_le (by simp)] at hy
   exact absurd hy List.not_mem_nil
  ·rw [decide_eq_false hx]
   intro y hy
   rw [cond_false, List.drop_append_of_le_length h2] at hy
   rcases List.mem_append.1 hy with hy | hy
   ·exact h8 y hy
   ·rw [List.mem_singleton] at hy; subst hy; omega
theorem aInv_run (node : Int) : ∀ (l p : List Ev) (s : Int × Int × Nat × Nat), Srt (p ++ l) → AInv node p s → AInv node (p ++ l) (l.foldl (aStep node) s)
 | [], p, s, _, h => by simpa using h
 | x :: l, p, s, hp, h => by
  have e : p ++ x :: l = (p ++ [x]) ++ l := by simp
  rw [e] at hp ⊢
  exact aInv_run node l (p ++ [x]) (aStep node s x) hp (aInv_step h (List.pairwise_append.1 hp).1)
theorem aRun_inv (node : Int) {l : List Ev} (h : Srt l) : AInv node l (aRun l node) := by
 have := aInv_run node l [] (1, 1, 0, 0) (by simpa using h) ⟨rfl, Nat.le_refl _, fun x hx => absurd hx List.not_mem_nil, .inl rfl, fun x hx => absurd hx List.not_mem_nil, .inl rfl, fun x hx => absurd (List.mem_of_mem_take hx) List.not_mem_nil, fun x hx => absurd (List.mem_of_mem_drop hx) List.not_mem_nil⟩
 exact this
theorem withE_mem {l : List Ev} {node kind parcel a b : Int} (z : Ev) : z ∈ withE l node kind parcel a b ↔ z = newE l node kind parcel a b ∨ z ∈ l := by
 unfold withE
 rw [List.mem_append, List.mem_append, List.mem_singleton]
 constructor
 ·rintro ((h | h) | h)
  ·exact .inr (List.mem_of_mem_take h)
  ·exact .inl h
  ·exact .inr (List.mem_of_mem_drop h)
 ·rintro (h | h)
  ·exact .inl (.inr h)
  ·rw [← List.take_append_drop (aRun l node).2.2.1 l, List.mem_append] at h
   rcases h with h | h
   ·exact .inl (.inl h)
   ·exact .inr h
theorem withE_len {l : List Ev} (h : Srt l) (node kind parcel a b : Int) : (withE l node kind parcel a b).length = l.length + 1 := by
 have := (aRun_inv node h).at_le
 unfold withE
 simp only [List.length_append, List.length_take, List.length_drop, List.length_singleton]
 omega
end Go.Fn
set_option linter.unusedSimpArgs false
set_option linter.unusedVariables false
namespace Go.Fn
open Go.R Go.Sort
structure JInv (n : Nat) (base : List Ev) (S : Int → Prop) (l : List Ev) : Prop where
 j : jok l = true
 len : l.length ≤ n
 st : ∀ x, x ∈ l → x.2.2.1 ≤ (n : Int)
 gap : ∀ x, x ∈ l → ∀ s : Int, 1 ≤ s → s ≤ x.2.1 → ∃ y, y ∈ l ∧ y.1 = x.1 ∧ y.2.1 = s
 sub : ∀ x, x ∈ base → x ∈ l
 new : ∀ x, x ∈ l → x ∈ base ∨ S x.1
theorem JInv.mono {n m : Nat} {base : List Ev} {S : Int → Prop} {l : List Ev} (h : JInv n base S l) (hm : n ≤ m) : JInv m base S l :=
 ⟨h.j, by have := h.len; omega, fun x hx => by have := h.st x hx; omega, h.gap, h.sub, h.new⟩
theorem JInv.add {n : Nat} {base : List Ev} {S : Int → Prop} {l : List Ev} (h : JInv n base S l) {node : Int} (hS : S node) (kind parcel a b : Int) : JInv (n + 1) base S (addEv l node kind parcel a b).1 := by
 unfold addEv
 rw [h.j]
 simp only [cond_true]
 cases hw : jok (withE l node kind parcel a b) with
 | false => exact h.mono (Nat.le_succ _)
 | true =>
  have hs := jok_srt h.j
  have hi := aRun_inv node hs
  simp only [cond_true]
  refine ⟨hw, by rw [withE_len hs]; have := h.len; omega, fun x hx => ?_, fun x hx s h1 h2 => ?_, fun x hx => (withE_mem x).2 (.inr (h.sub x hx)), fun x hx => ?_⟩
  ·rcases (withE_mem x).1 hx with e | e
   ·rw [e]
    show (aRun l node).2.1 ≤ _
    rcases hi.p2 with p | ⟨y, hy, p⟩
    ·rw [p]; omega
    ·rw [p]; have := h.st y hy; omega
   ·have := h.st x e; omega
  ·rcases (withE_mem x).1 hx with e | e
   ·subst e
    have h2 : s ≤ (aRun l node).1 := h2
    by_cases e : s = (aRun l node).1
    ·exact ⟨_, hx, rfl, e.symm⟩
    ·rcases hi.s2 with p | ⟨y, hy, q, p⟩
     ·omega
     ·obtain ⟨z, hz, e1, e2⟩ := h.gap y hy s h1 (by omega)
      exact ⟨z, (withE_mem z).2 (.inr hz), by rw [e1, q]; rfl, e2⟩
   ·obtain ⟨z, hz, e1, e2⟩ := h.gap x e s h1 h2
    exact ⟨z, (withE_mem z).2 (.inr hz), e1, e2⟩
  ·rcases (withE_mem x).1 hx with e | e
   ·rw [e]; exact .inr hS
   ·exact h.new x e
end Go.Fn
set_option linter.unusedSimpArgs false
set_option linter.unusedVariables false
namespace Go.Fn
open Go.R Go.Sort
noncomputable def stp (l : List Ev) (x : Int) : Int := (l.getD x.toNat zIIIIIII).2.2.1
end Go.Fn
set_option linter.unusedSimpArgs false
set_option linter.unusedVariables false
namespace Go.Fn
open Go.R
theorem hasI_iff {l : List Int} {x : Int} : hasI l x = true ↔ x ∈ l := by
 unfold hasI
 rw [Bool.not_eq_true', ← Bool.not_eq_true, allFrom_iff]
 constructor
 ·intro h
  refine Decidable.byContradiction fun hn => h fun m _ hm => ?_
  unfold nat
  rw [Bool.not_eq_true', ← Bool.not_eq_true]
  intro he
  have he : l.getD m zI = x := eql_eq he
  exact hn (he ▸ getD_mem (by omega) zI)
 ·intro h hall
  obtain ⟨m, hm, rfl⟩ := List.getElem_of_mem h
  have := hall m (Nat.zero_le _) (by omega)
  unfold nat at this
  rw [List.getD_eq_getElem?_getD, List.getElem?_eq_getElem hm] at this
  simp [rCmp] at this
theorem orderOk_iff {a0 a1 : Int} {g : List (List Int)} {s : List Stp} {o : List Int} : orderOk a0 a1 g s o = true ↔ roundOk a0 a1 g s = true ∧ (∀ x, x ∈ o → 0 ≤ x ∧ x < (s.length : Int)) ∧ o.Pairwise (· ≠ ·) := by
  constructor
  · intro h
    refine ⟨orderOk_round h, fun x hx => ?_, ?_⟩
    · obtain ⟨m, hm, rfl⟩ := List.getElem_of_mem hx
      have := orderOk_at h hm
      rwa [List.getD_eq_getElem?_getD, List.getElem?_eq_getElem hm] at this
    · unfold orderOk at h
      rw [Bool.and_eq_true] at h
      rw [List.pairwise_iff_getElem]
      intro i j hi hj hij he
      have := (allFrom_iff _ _).1 h.2 j (Nat.zero_le _) (by omega)
      unfold ordAt at this
      rw [Bool.and_eq_true, Bool.not_eq_true', ← Bool.not_eq_true, hasI_iff] at this
      refine this.2 ?_
      rw [List.getD_eq_getElem?_getD, List.getElem?_eq_getElem hj]
      show o[j] ∈ o.take j
      rw [← he]
      exact List.mem_take_iff_getElem.2 ⟨i, by omega, rfl⟩
  · intro ⟨h1, h2, h3⟩
    have hr := roundOk_rows h1
    unfold orderOk
    rw [Bool.and_eq_true]
    refine ⟨h1, (allFrom_iff _ _).2 fun m _ hm => ?_⟩
    have hm : m < o.length := by omega
    have e : rArith .sub .i64 (rLen s) 1 = (s.length : Int) - 1 := sub64 (by unfold rLen; omega) (by unfold rLen; omega)
    have hx := h2 _ (getD_mem hm zI)
    unfold ordAt
    rw [Bool.and_eq_true, inB_iff, e, Bool.not_eq_true', ← Bool.not_eq_true, hasI_iff]
    refine ⟨by omega, fun hmem => ?_⟩
    obtain ⟨i, hi, he⟩ := List.mem_take_iff_getElem.1 hmem
    rw [List.getD_eq_getElem?_getD, List.getElem?_eq_getElem hm] at he
    exact List.pairwise_iff_getElem.1 h3 i m (by omega) hm (by omega) he
section
variable {a0 a1 : Int} {g : List (List Int)} {s : List Stp}
theorem maxT (a b : Int) : rMxmn true a b = max a b := by unfold rMxmn; simp only [cond_true]; omega
end
end Go.Fn
set_option linter.unusedSimpArgs false
set_option linter.unusedVariables false
namespace Go.Fn
open Go.R
section
variable {a0 a1 : Int} {g : List (List Int)} {s : List Stp}
theorem ride_nil (hro : roundOk a0 a1 g s = true) : (ride a0 a1 g s []).isSome = true := by
 obtain ⟨_, _, _, _, _, ha1⟩ := roundOk_rows hro
 have hok : orderOk a0 a1 g s [] = true := orderOk_iff.2 ⟨hro, fun x hx => absurd hx List.not_mem_nil, List.Pairwise.nil⟩
 unfold ride
 rw [hok]
 have : rCmp .gtr (start a0 s []).2.2.2.1 a1 = false := decide_eq_false (by show ¬ ((0 : Int) > a1); omega)
 simp only [cond_true, rideGo, this, cond_false]
 rfl
end
theorem roundOk_of {a0 a1 : Int} {g : List (List Int)} {s : List Stp} (h0 : 0 ≤ a0 ∧ a0 ≤ 20000) (h1 : 0 ≤ a1 ∧ a1 ≤ 1000) (hs : s.length ≤ 6) (hg : g.length = s.length + 1) (hr : ∀ r, r ∈ g → r.length = g.length ∧ ∀ x, x ∈ r → 0 ≤ x ∧ x ≤ 200) (ht : ∀ x, x ∈ s → stopOk x = true) : roundOk a0 a1 g s = true := by
 unfold roundOk
 rw [add64 (a := rLen s) (by unfold rLen; omega) (by unfold rLen; omega)]
 simp only [Bool.and_eq_true]
 refine ⟨inB_iff.2 h0, inB_iff.2 h1, ?_, ?_, (allFrom_iff _ _).2 fun m _ hm => ?_, (allFrom_iff _ _).2 fun m _ hm => ht _ (getD_mem (by omega) _)⟩
 ·rw [Bool.not_eq_true']; exact decide_eq_false (by unfold rLen; omega)
 ·rw [Bool.not_eq_true']
  have : rLen g = rLen s + 1 := by unfold rLen; omega
  rw [this]; simp [rCmp]
 ·obtain ⟨r1, r2⟩ := hr _ (getD_mem (show m < g.length by omega) zLIl)
  unfold rowAt
  have : rCmp .neq (rLen (g.getD m zLIl)) (rLen g) = false := by unfold rLen; rw [r1]; simp [rCmp]
  rw [this]
  simp only [cond_false]
  refine (allFrom_iff _ _).2 fun q _ hq => ?_
  exact inB_iff.2 (r2 _ (getD_mem (by omega) zI))
theorem round_yl (b : List Int) (hb : b.length ≤ 1048576) (i h : Int) (hi : 0 ≤ i) : Yl (spec_l07Round b i h) fun y => roundOk y.1 y.2.1 y.2.2.1 y.2.2.2.1 = true ∧ y.2.2.2.1.length ≤ 4 ∧ y.2.2.2.2.1 = b ∧ 0 ≤ y.2.2.2.2.2.1 := by
 unfold spec_l07Round
 refine (below_yl b hb i h 5 hi (by omega)).bind fun y0 ⟨a1, a2, a3, a4⟩ => ?_
 have a2 : y0.1 ≤ 4 := a2
 rw [a3]
 refine (below_yl b hb _ _ 40 a4 (by omega)).bind fun y1 ⟨b1, b2, b3, b4⟩ => ?_
 have b2 : y1.1 ≤ 39 := b2
 rw [b3]
 refine (pickInt_yl b hb _ _ [4, 8, 12, 20, 1000] b4 (by simp) (by simp)).bind fun y2 ⟨c1, c3, c4⟩ => ?_
 have c1 : 0 ≤ y2.1 ∧ y2.1 ≤ 1000 := by
  have : y2.1 = 4 ∨ y2.1 = 8 ∨ y2.1 = 12 ∨ y2.1 = 20 ∨ y2.1 = 1000 := by simpa using c1
  omega
 rw [c3]
 refine (once_yl b hb _ _ 2 c4 (by omega)).bind fun y3 ⟨d3, d4⟩ => ?_
 rw [d3]
 obtain ⟨n, hn⟩ : ∃ n : Nat, y0.1 = (n : Int) := ⟨y0.1.toNat, by omega⟩
 rw [hn] at a2 ⊢
 generalize y1.1 = bg at b1 b2 ⊢
 generalize y2.1 = rm at c1 ⊢
 generalize y3.1 = flat
 have hl0 : Yl (spec_l07Round_l0 ((n : Int), flat, ()) (b, y3.2.2.1, y3.2.2.2.1, 0, 0, [], [], bg, rm, [], [], [], 0, ())) fun q => ∃ (i h : Int) (pl : List Int), 0 ≤ i ∧ pl.length = n + 1 ∧ (∀ x, x ∈ pl → 0 ≤ x ∧ x ≤ 8) ∧ q = .inl (b, i, h, 0, 0, [], [], bg, rm, [], [], pl, ()) := by
  unfold spec_l07Round_l0
  refine Yl.loop (fun x => ∃ (i h : Int) (pl : List Int), 0 ≤ i ∧ pl.length ≤ n + 1 ∧ (∀ x, x ∈ pl → 0 ≤ x ∧ x ≤ 8) ∧ x = (b, i, h, 0, 0, [], [], bg, rm, [], [], pl, (pl.length : Int), ())) (fun x => n + 1 - x.2.2.2.2.2.2.2.2.2.2.2.1.length) (fun x hx => ?_) big _ ⟨_, _, [], d4, Nat.zero_le _, fun x hx => absurd hx List.not_mem_nil, rfl⟩ (lt_big (by show n + 1 - 0 < _; omega))
  obtain ⟨i, h, pl, x1, x2, x3, rfl⟩ := hx
  unfold spec_l07Round_b0
  refine .cond (fun h1 => ?_) fun h1 => ?_
  ·have h1 : (pl.length : Int) ≤ n := of_decide_eq_true h1
   refine (below_yl b hb _ _ 9 x1 (by omega)).bind fun z ⟨e1, e2, e3, e4⟩ => ?_
   have e2 : z.1 ≤ 8 := e2
   refine .guard (small_of (by simp; omega)) (.ret ⟨⟨z.2.2.1, z.2.2.2.1, pl ++ [z.1], e4, by simp; omega, fun x hx => ?_, ?_⟩, ?_⟩)
   ·rcases List.mem_append.1 hx with hx | hx
    ·exact x3 x hx
    ·rw [List.mem_singleton] at hx; subst hx; exact ⟨e1, e2⟩
   ·rw [e3, succ64 (n := pl.length) (by omega), List.length_append]; rfl
   ·show n + 1 - (pl ++ [z.1]).length < n + 1 - pl.length
    rw [List.length_append]; simp; omega
  ·have h1 : ¬ ((pl.length : Int) ≤ n) := of_decide_eq_false h1
   exact .ret ⟨i, h, pl, x1, by omega, x3, rfl⟩
 refine hl0.bind fun q hq => ?_
 obtain ⟨i1, h1, pl, p1, p2, p3, rfl⟩ := hq
 simp only [Sum.elim_inl]
 have hrow : ∀ (i h : Int) (lgs : List (List Int)) (r : Nat), 0 ≤ i → r ≤ n → Yl (spec_l07Round_l4 ((n : Int), flat, (r : Int), ()) (b, i, h, 0, 0, [], [], bg, rm, lgs, [], pl, [], 0, ())) fun q => ∃ (i h : Int) (row : List Int), 0 ≤ i ∧ row.length = n + 1 ∧ (∀ x, x ∈ row → 0 ≤ x ∧ x ≤ 200) ∧ q = .inl (b, i, h, 0, 0, [], [], bg, rm, lgs, [], pl, row, ()) := by
  intro i h lgs r hi hr
  unfold spec_l07Round_l4
  refine Yl.loop (fun x => ∃ (i h : Int) (row : List Int), 0 ≤ i ∧ row.length ≤ n + 1 ∧ (∀ x, x ∈ row → 0 ≤ x ∧ x ≤ 200) ∧ x = (b, i, h, 0, 0, [], [], bg, rm, lgs, [], pl, row, (row.length : Int), ())) (fun x => n + 1 - x.2.2.2.2.2.2.2.2.2.2.2.2.1.length) (fun x hx => ?_) big _ ⟨_, _, [], hi, Nat.zero_le _, fun x hx => absurd hx List.not_mem_nil, rfl⟩ (lt_big (by show n + 1 - 0 < _; omega))
  obtain ⟨i, h, row, x1, x2, x3, rfl⟩ := hx
  unfold spec_l07Round_b4
  refine .cond (fun h1 => ?_) fun h1 => ?_
  ·have h1 : (row.length : Int) ≤ n := of_decide_eq_true h1
   have m1 := p3 _ (getD_mem (show r < pl.length by omega) zI)
   have m2 := p3 _ (getD_mem (show row.length < pl.length by omega) zI)
   refine .guard (inR_lt (show r < pl.length by omega)) (.guard (inR_lt (show row.length < pl.length by omega)) (.guard (inR_lt (show row.length < pl.length by omega)) (.guard (inR_lt (show r < pl.length by omega)) (.lets ?_))))
   simp only [get_nat]
   refine .cond (fun _ => ?_) fun _ => ?_
   ·refine (below_yl b hb _ _ 9 x1 (by omega)).bind fun z ⟨e1, e2, e3, e4⟩ => ?_
    have e2 : z.1 ≤ 8 := e2
    refine .guard (small_of (by simp; omega)) (.ret ⟨⟨z.2.2.1, z.2.2.2.1, row ++ [z.1], e4, by simp; omega, fun x hx => ?_, ?_⟩, ?_⟩)
    ·rcases List.mem_append.1 hx with hx | hx
     ·exact x3 x hx
     ·rw [List.mem_singleton] at hx; subst hx; omega
    ·rw [e3, succ64 (n := row.length) (by omega), List.length_append]; rfl
    ·show n + 1 - (row ++ [z.1]).length < n + 1 - row.length
     rw [List.length_append]; simp; omega
   ·have hv : 0 ≤ rMxmn true (rArith .sub .i64 (pl.getD r zI) (pl.getD row.length zI)) (rArith .sub .i64 (pl.getD row.length zI) (pl.getD r zI)) ∧ rMxmn true (rArith .sub .i64 (pl.getD r zI) (pl.getD row.length zI)) (rArith .sub .i64 (pl.getD row.length zI) (pl.getD r zI)) ≤ 200 := by
     rw [sub64 (by omega) (by omega), sub64 (by omega) (by omega), maxT]; omega
    generalize rMxmn true (rArith .sub .i64 (pl.getD r zI) (pl.getD row.length zI)) (rArith .sub .i64 (pl.getD row.length zI) (pl.getD r zI)) = v at hv ⊢
    refine .guard (small_of (by simp; omega)) (.ret ⟨⟨i, h, row ++ [v], x1, by simp; omega, fun x hx => ?_, ?_⟩, ?_⟩)
    ·rcases List.mem_append.1 hx with hx | hx
     ·exact x3 x hx
     ·rw [List.mem_singleton] at hx; subst hx; exact hv
    ·rw [succ64 (n := row.length) (by omega), List.length_append]; rfl
    ·show n + 1 - (row ++ [v]).length < n + 1 - row.length
     rw [List.length_append]; simp; omega
  ·have h1 : ¬ ((row.length : Int) ≤ n) := of_decide_eq_false h1
   exact .ret ⟨i, h, row, x1, by omega, x3, rfl⟩
 have hl2 : Yl (spec_l07Round_l2 ((n : Int), flat, ()) (b, i1, h1, 0, 0, [], [], bg, rm, [], [], pl, 0, ())) fun q => ∃ (i h : Int) (lgs : List (List Int)), 0 ≤ i ∧ lgs.length = n + 1 ∧ (∀ r, r ∈ lgs → r.length = n + 1 ∧ ∀ x, x ∈ r → 0 ≤ x ∧ x ≤ 200) ∧ q = .inl (b, i, h, 0, 0, [], [], bg, rm, lgs, [], ()) := by
  unfold spec_l07Round_l2
  refine Yl.loop (fun x => ∃ (i h : Int) (lgs : List (List Int)), 0 ≤ i ∧ lgs.length ≤ n + 1 ∧ (∀ r, r ∈ lgs → r.length = n + 1 ∧ ∀ x, x ∈ r → 0 ≤ x ∧ x ≤ 200) ∧ x = (b, i, h, 0, 0, [], [], bg, rm, lgs, [], pl, (lgs.length : Int), ())) (fun x => n + 1 - x.2.2.2.2.2.2.2.2.2.1.length) (fun x hx => ?_) big _ ⟨_, _, [], p1, Nat.zero_le _, fun x hx => absurd hx List.not_mem_nil, rfl⟩ (lt_big (by show n + 1 - 0 < _; omega))
  obtain ⟨i, h, lgs, x1, x2, x3, rfl⟩ := hx
  unfold spec_l07Round_b2
  refine .cond (fun h1 => ?_) fun h1 => ?_
  ·have h1 : (lgs.length : Int) ≤ n := of_decide_eq_true h1
   refine (hrow i h lgs lgs.length x1 (by omega)).bind fun q hq => ?_
   obtain ⟨i2, h2, row, r1, r2, r3, rfl⟩ := hq
   simp only [Sum.elim_inl]
   refine .guard (small_of (by simp; omega)) (.ret ⟨⟨i2, h2, lgs ++ [row], r1, by simp; omega, fun r hr => ?_, ?_⟩, ?_⟩)
   ·rcases List.mem_append.1 hr with hr | hr
    ·exact x3 r hr
    ·rw [List.mem_singleton] at hr; subst hr; exact ⟨r2, r3⟩
   ·rw [succ64 (n := lgs.length) (by omega), List.length_append]; rfl
   ·show n + 1 - (lgs ++ [row]).length < n + 1 - lgs.length
    rw [List.length_append]; simp; omega
  ·have h1 : ¬ ((lgs.length : Int) ≤ n) := of_decide_eq_false h1
   exact .ret ⟨i, h, lgs, x1, by omega, x3, rfl⟩
 refine hl2.bind fun q hq => ?_
 obtain ⟨i2, h2, lgs, q1, q2, q3, rfl⟩ := hq
 simp only [Sum.elim_inl]
 have hl6 : Yl (spec_l07Round_l6 ((n : Int), ()) (b, i2, h2, 0, 0, [], [], bg, rm, lgs, [], 0, ())) fun q => ∃ (i h : Int) (st : List Stp), 0 ≤ i ∧ st.length = n ∧ (∀ x, x ∈ st → stopOk x = true) ∧ q = .inl (b, i, h, 0, 0, [], [], bg, rm, lgs, st, ()) := by
  unfold spec_l07Round_l6
  refine Yl.loop (fun x => ∃ (i h : Int) (st : List Stp), 0 ≤ i ∧ st.length ≤ n ∧ (∀ x, x ∈ st → stopOk x = true) ∧ x = (b, i, h, 0, 0, [], [], bg, rm, lgs, st, (st.length : Int), ())) (fun x => n - x.2.2.2.2.2.2.2.2.2.2.1.length) (fun x hx => ?_) big _ ⟨_, _, [], q1, Nat.zero_le _, fun x hx => absurd hx List.not_mem_nil, rfl⟩ (lt_big (by show n - 0 < _; omega))
  obtain ⟨i, h, st, x1, x2, x3, rfl⟩ := hx
  unfold spec_l07Round_b6
  refine .cond (fun h1 => ?_) fun h1 => ?_
  ·have h1 : (st.length : Int) < n := of_decide_eq_true h1
   refine (below_yl b hb _ _ 50 x1 (by omega)).bind fun z0 ⟨e1, e2, e3, e4⟩ => ?_
   have e2 : z0.1 ≤ 49 := e2
   rw [e3]
   refine (below_yl b hb _ _ 60 e4 (by omega)).bind fun z1 ⟨f1, f2, f3, f4⟩ => ?_
   have f2 : z1.1 ≤ 59 := f2
   rw [f3]
   refine (below_yl b hb _ _ 4 f4 (by omega)).bind fun z2 ⟨g1, g2, g3, g4⟩ => ?_
   have g2 : z2.1 ≤ 3 := g2
   rw [g3]
   refine (below_yl b hb _ _ 6 g4 (by omega)).bind fun z3 ⟨k1, k2, k3, k4⟩ => ?_
   have k2 : z3.1 ≤ 5 := k2
   rw [k3]
   refine (below_yl b hb _ _ 6 k4 (by omega)).bind fun z4 ⟨l1, l2, l3, l4⟩ => ?_
   have l2 : z4.1 ≤ 5 := l2
   have ha : rArith .add .i64 (rArith .add .i64 z0.1 10) z1.1 = z0.1 + 10 + z1.1 := by rw [add64 (a := z0.1) (by omega) (by omega), add64 (by omega) (by omega)]
   rw [ha]
   refine .guard (small_of (by simp; omega)) (.ret ⟨⟨z4.2.2.1, z4.2.2.2.1, st ++ [(z0.1, z0.1 + 10 + z1.1, z2.1, z3.1, z4.1)], l4, by simp; omega, fun x hx => ?_, ?_⟩, ?_⟩)
   ·rcases List.mem_append.1 hx with hx | hx
    ·exact x3 x hx
    ·rw [List.mem_singleton] at hx
     subst hx
     unfold stopOk
     simp only [Bool.and_eq_true, inB_iff, Bool.not_eq_true']
     exact ⟨by omega, by omega, decide_eq_false (by omega), by omega, by omega, by omega⟩
   ·rw [l3, succ64 (n := st.length) (by omega), List.length_append]; rfl
   ·show n - (st ++ [_]).length < n - st.length
    rw [List.length_append]; simp; omega
  ·have h1 : ¬ ((st.length : Int) < n) := of_decide_eq_false h1
   exact .ret ⟨i, h, st, x1, by omega, x3, rfl⟩
 refine hl6.bind fun q hq => ?_
 obtain ⟨i3, h3, st, s0, s1, s2, rfl⟩ := hq
 refine .ret ⟨roundOk_of (show 0 ≤ bg ∧ bg ≤ 20000 by omega) c1 (by show st.length ≤ 6; omega) (by show lgs.length = st.length + 1; omega) (fun r hr => ?_) s2, by show st.length ≤ 4; omega, rfl, s0⟩
 obtain ⟨r1, r2⟩ := q3 r hr
 exact ⟨by rw [r1, q2], r2⟩
theorem drawRound_yl (b : List Int) (hb : b.length ≤ 1048576) : Yl (spec_DrawRound b) fun y => roundOk y.1 y.2.1 y.2.2.1 y.2.2.2.1 = true ∧ y.2.2.2.1.length ≤ 4 := by
 unfold spec_DrawRound
 refine (new_yl b hb).bind fun y0 ⟨h1, h2⟩ => ?_
 rw [h1]
 exact (round_yl b hb _ _ (by omega)).bind fun y1 h => .ret ⟨h.1, h.2.1⟩
end Go.Fn
set_option linter.unusedVariables false
namespace Go.Fn
open Go.R
noncomputable def laws_sameInts_b0 (k : (List (Int)) × (List (Int)) × Unit) (x : Int × Unit) : Option ((Int × Unit) ⊕ (Bool × Unit ⊕ (Unit ⊕ Empty))) :=
 (bif (rCmp .lss x.1 (rLen k.1)) then (bif (rInR k.1 x.1) then (bif (rInR k.2.1 x.1) then (bif (rCmp .neq (rGet zI k.1 x.1) (rGet zI k.2.1 x.1)) then some (.inr (.inl (false, ()))) else some (.inl ((rArith .add .i64 x.1 (1 : Int)), ()))) else none) else none) else some (.inr (.inr (.inl (())))))
noncomputable def laws_sameInts_l0 (k : (List (Int)) × (List (Int)) × Unit) (x : Int × Unit) : Option (Bool × Unit ⊕ (Unit ⊕ Empty)) := iter (laws_sameInts_b0 k) big x
noncomputable def laws_sameInts (a0 : (List (Int))) (a1 : (List (Int))) : Option (Bool × Unit) :=
 (bif (rCmp .neq (rLen a0) (rLen a1)) then some (false, ()) else ((laws_sameInts_l0 (a0, a1, ()) ((0 : Int), ())).bind fun q0 => (Sum.elim (fun y1 => some (y1.1, ())) (fun q2 => (Sum.elim (fun y3 => some (true, ())) (fun q4 => (Empty.elim q4)) q2)) q0)))
end Go.Fn
set_option linter.unusedVariables false
set_option linter.unusedSimpArgs false
namespace Go.Fn
open Go.R
noncomputable def rideR (r : Option (List Int × Int × Int × Int)) : List Int × Int × Bool × Unit := match r with | some (b, e, _, _) => (b, e, true, ()) | none => ([], 0, false, ())
theorem implRideR (a0 a1 : Int) (g : List (List Int)) (s : List Stp) (o : List Int) (hgr : ∀ r ∈ g, r.length ≤ 1073741824) (ho : o.length ≤ 1073741824) : impl_Ride a0 a1 g s o = some (rideR (ride a0 a1 g s o)) := by
 unfold impl_Ride
 rw [implRide_eq a0 a1 g s o hgr ho]
 cases ride a0 a1 g s o <;> rfl
end Go.Fn
set_option linter.unusedVariables false
namespace Go.Fn
open Go.R
noncomputable def spec_BestRide (a0 : Int) (a1 : Int) (a2 : (List (List (Int)))) (a3 : (List (Int × Int × Int × Int × Int))) : Option ((List (Int)) × Int × Bool × Unit) :=
 ((spec_l07Best a0 a1 a2 a3 (rLen a3)).bind fun y0 => some (y0.1, y0.2.1, y0.2.2.1, ()))
noncomputable def slices_Clone___int_int_ (a0 : (List (Int))) : Option ((List (Int)) × Unit) :=
 (bif (rCmp .gtr (rLen a0) (0 : Int)) then (bif (rSmall (List.append (α := Int) ([] : List (Int)) a0)) then some ((List.append (α := Int) ([] : List (Int)) a0), ()) else none) else (both (some (([] : List (Int)), ())) ((bif (rSmall (List.append (α := Int) ([] : List (Int)) a0)) then some ((List.append (α := Int) ([] : List (Int)) a0), ()) else none))))
noncomputable def impl_BestRide_1 (a0 : (List (Int))) (a1 : Int) (a2 : Int) (a3 : (List (List (Int)))) (a4 : (List (Int × Int × Int × Int × Int))) (a5 : Bool) (a6 : Int) (a7 : (List (Int))) : Option (Bool × Int × (List (Int)) × Unit) :=
 (bif (rCmp .lss (rLen a0) (rLen a4)) then some (a5, a6, a7, ()) else ((impl_ride a1 a2 a3 a4 a0).bind fun y0 => (bif y0.2.2.2.2.1 then (bif (Bool.not a5) then ((slices_Clone___int_int_ a0).bind fun y1 => some (true, y0.2.1, y1.1, ())) else (bif (rCmp .lss y0.2.1 a6) then ((slices_Clone___int_int_ a0).bind fun y1 => some (true, y0.2.1, y1.1, ())) else some (a5, a6, a7, ()))) else some (a5, a6, a7, ()))))
noncomputable def impl_orders__impl_BestRide_1_b0 (rec : Int → (List (Int)) → Int → Int → (List (List (Int))) → (List (Int × Int × Int × Int × Int)) → Bool → Int → (List (Int)) → Option (Bool × Int × (List (Int)) × Unit)) (k : Int × (List (Int)) × Unit) (x : Int × Int × (List (List (Int))) × (List (Int × Int × Int × Int × Int)) × Bool × Int × (List (Int)) × Int × Unit) : Option ((Int × Int × (List (List (Int))) × (List (Int × Int × Int × Int × Int)) × Bool × Int × (List (Int)) × Int × Unit) ⊕ (Int × Int × (List (List (Int))) × (List (Int × Int × Int × Int × Int)) × Bool × Int × (List (Int)) × Unit ⊕ Empty)) :=
 (bif (rCmp .lss x.2.2.2.2.2.2.2.1 k.1) then ((slices_Contains___int_int_ k.2.1 x.2.2.2.2.2.2.2.1).bind fun y0 => (bif (Bool.not y0.1) then ((slices_Clone___int_int_ k.2.1).bind fun y1 => (bif (rSmall (List.append (α := Int) y1.1 (List.append (α := Int) ([] : List (Int)) [x.2.2.2.2.2.2.2.1]))) then ((rec k.1 (List.append (α := Int) y1.1 (List.append (α := Int) ([] : List (Int)) [x.2.2.2.2.2.2.2.1])) x.1 x.2.1 x.2.2.1 x.2.2.2.1 x.2.2.2.2.1 x.2.2.2.2.2.1 x.2.2.2.2.2.2.1).bind fun y2 => some (.inl (x.1, x.2.1, x.2.2.1, x.2.2.2.1, y2.1, y2.2.1, y2.2.2.1, (rArith .add .i64 x.2.2.2.2.2.2.2.1 (1 : Int)), ()))) else none)) else some (.inl (x.1, x.2.1, x.2.2.1, x.2.2.2.1, x.2.2.2.2.1, x.2.2.2.2.2.1, x.2.2.2.2.2.2.1, (rArith .add .i64 x.2.2.2.2.2.2.2.1 (1 : Int)), ())))) else some (.inr (.inl (x.1, x.2.1, x.2.2.1, x.2.2.2.1, x.2.2.2.2.1, x.2.2.2.2.2.1, x.2.2.2.2.2.2.1, ()))))
noncomputable def impl_orders__impl_BestRide_1_l0 (rec : Int → (List (Int)) → Int → Int → (List (List (Int))) → (List (Int × Int × Int × Int × Int)) → Bool → Int → (List (Int)) → Option (Bool × Int × (List (Int)) × Unit)) (k : Int × (List (Int)) × Unit) (x : Int × Int × (List (List (Int))) × (List (Int × Int × Int × Int × Int)) × Bool × Int × (List (Int)) × Int × Unit) : Option (Int × Int × (List (List (Int))) × (List (Int × Int × Int × Int × Int)) × Bool × Int × (List (Int)) × Unit ⊕ Empty) := iter (impl_orders__impl_BestRide_1_b0 rec k) big x
noncomputable def impl_orders__impl_BestRide_1_r (rec : Int → (List (Int)) → Int → Int → (List (List (Int))) → (List (Int × Int × Int × Int × Int)) → Bool → Int → (List (Int)) → Option (Bool × Int × (List (Int)) × Unit)) (a0 : Int) (a1 : (List (Int))) (a2 : Int) (a3 : Int) (a4 : (List (List (Int)))) (a5 : (List (Int × Int × Int × Int × Int))) (a6 : Bool) (a7 : Int) (a8 : (List (Int))) : Option (Bool × Int × (List (Int)) × Unit) :=
 ((impl_BestRide_1 a1 a2 a3 a4 a5 a6 a7 a8).bind fun y0 => ((impl_orders__impl_BestRide_1_l0 rec (a0, a1, ()) (a2, a3, a4, a5, y0.1, y0.2.1, y0.2.2.1, (0 : Int), ())).bind fun q1 => (Sum.elim (fun y2 => some (y2.2.2.2.2.1, y2.2.2.2.2.2.1, y2.2.2.2.2.2.2.1, ())) (fun q3 => (Empty.elim q3)) q1)))
noncomputable def impl_orders__impl_BestRide_1_f : Nat → Int → (List (Int)) → Int → Int → (List (List (Int))) → (List (Int × Int × Int × Int × Int)) → Bool → Int → (List (Int)) → Option (Bool × Int × (List (Int)) × Unit) | 0 => fun _ _ _ _ _ _ _ _ _ => none | n + 1 => impl_orders__impl_BestRide_1_r (impl_orders__impl_BestRide_1_f n)
noncomputable def impl_orders__impl_BestRide_1 (a0 : Int) (a1 : (List (Int))) (a2 : Int) (a3 : Int) (a4 : (List (List (Int)))) (a5 : (List (Int × Int × Int × Int × Int))) (a6 : Bool) (a7 : Int) (a8 : (List (Int))) : Option (Bool × Int × (List (Int)) × Unit) := impl_orders__impl_BestRide_1_f big a0 a1 a2 a3 a4 a5 a6 a7 a8
noncomputable def impl_BestRide (a0 : Int) (a1 : Int) (a2 : (List (List (Int)))) (a3 : (List (Int × Int × Int × Int × Int))) : Option ((List (Int)) × Int × Bool × Unit) :=
 ((impl_RoundOk a0 a1 a2 a3).bind fun y0 => (bif (Bool.not y0.1) then some (([] : List (Int)), (0 : Int), false, ()) else ((impl_orders__impl_BestRide_1 (rLen a3) ([] : List (Int)) a0 a1 a2 a3 false (0 : Int) ([] : List (Int))).bind fun y1 => some (y1.2.2.1, y1.2.1, y1.1, ()))))
end Go.Fn
set_option linter.unusedVariables false
namespace Go.Fn
open Go.R
noncomputable def slices_Compare___int_int__b0 (k : (List (Int)) × (List (Int)) × (List (Int)) × Int × Unit) (x : Int × Unit) : Option ((Int × Unit) ⊕ (Int × Unit ⊕ (Unit ⊕ Empty))) :=
 (bif (rCmp .lss x.1 k.2.2.2.1) then (bif (rInR k.2.2.1 x.1) then (bif (rCmp .geq x.1 (rLen k.2.1)) then some (.inr (.inl ((1 : Int), ()))) else (bif (rInR k.2.1 x.1) then ((cmp_Compare_int_ (rGet zI k.2.2.1 x.1) (rGet zI k.2.1 x.1)).bind fun y0 => (bif (rCmp .neq y0.1 (0 : Int)) then some (.inr (.inl (y0.1, ()))) else some (.inl ((rArith .add .i64 x.1 (1 : Int)), ())))) else none)) else none) else some (.inr (.inr (.inl (())))))
noncomputable def slices_Compare___int_int__l0 (k : (List (Int)) × (List (Int)) × (List (Int)) × Int × Unit) (x : Int × Unit) : Option (Int × Unit ⊕ (Unit ⊕ Empty)) := iter (slices_Compare___int_int__b0 k) big x
noncomputable def slices_Compare___int_int_ (a0 : (List (Int))) (a1 : (List (Int))) : Option (Int × Unit) :=
 ((slices_Compare___int_int__l0 (a0, a1, a0, (rLen a0), ()) ((0 : Int), ())).bind fun q0 => (Sum.elim (fun y1 => some (y1.1, ())) (fun q2 => (Sum.elim (fun y3 => (bif (rCmp .lss (rLen a0) (rLen a1)) then some ((-1 : Int), ()) else some ((0 : Int), ()))) (fun q4 => (Empty.elim q4)) q2)) q0))
noncomputable def impl_MostRide_1 (a0 : (List (Int))) (a1 : Int) (a2 : Int) (a3 : (List (List (Int)))) (a4 : (List (Int × Int × Int × Int × Int))) (a5 : Bool) (a6 : (List (Int))) (a7 : Int) : Option (Bool × (List (Int)) × Int × Unit) :=
 ((impl_ride a1 a2 a3 a4 a0).bind fun y0 => (bif y0.2.2.2.2.1 then (bif (Bool.not a5) then ((slices_Clone___int_int_ a0).bind fun y1 => some (true, y1.1, y0.2.1, ())) else (bif (rCmp .gtr (rLen a0) (rLen a6)) then ((slices_Clone___int_int_ a0).bind fun y1 => some (true, y1.1, y0.2.1, ())) else (bif (rCmp .eql (rLen a0) (rLen a6)) then (bif (rCmp .lss y0.2.1 a7) then ((slices_Clone___int_int_ a0).bind fun y1 => some (true, y1.1, y0.2.1, ())) else (bif (rCmp .eql y0.2.1 a7) then ((slices_Compare___int_int_ a0 a6).bind fun y1 => (bif (rCmp .lss y1.1 (0 : Int)) then ((slices_Clone___int_int_ a0).bind fun y2 => some (true, y2.1, y0.2.1, ())) else some (a5, a6, a7, ()))) else some (a5, a6, a7, ()))) else some (a5, a6, a7, ())))) else some (a5, a6, a7, ())))
noncomputable def impl_orders__impl_MostRide_1_b0 (rec : Int → (List (Int)) → Int → Int → (List (List (Int))) → (List (Int × Int × Int × Int × Int)) → Bool → (List (Int)) → Int → Option (Bool × (List (Int)) × Int × Unit)) (k : Int × (List (Int)) × Unit) (x : Int × Int × (List (List (Int))) × (List (Int × Int × Int × Int × Int)) × Bool × (List (Int)) × Int × Int × Unit) : Option ((Int × Int × (List (List (Int))) × (List (Int × Int × Int × Int × Int)) × Bool × (List (Int)) × Int × Int × Unit) ⊕ (Int × Int × (List (List (Int))) × (List (Int × Int × Int × Int × Int)) × Bool × (List (Int)) × Int × Unit ⊕ Empty)) :=
 (bif (rCmp .lss x.2.2.2.2.2.2.2.1 k.1) then ((slices_Contains___int_int_ k.2.1 x.2.2.2.2.2.2.2.1).bind fun y0 => (bif (Bool.not y0.1) then ((slices_Clone___int_int_ k.2.1).bind fun y1 => (bif (rSmall (List.append (α := Int) y1.1 (List.append (α := Int) ([] : List (Int)) [x.2.2.2.2.2.2.2.1]))) then ((rec k.1 (List.append (α := Int) y1.1 (List.append (α := Int) ([] : List (Int)) [x.2.2.2.2.2.2.2.1])) x.1 x.2.1 x.2.2.1 x.2.2.2.1 x.2.2.2.2.1 x.2.2.2.2.2.1 x.2.2.2.2.2.2.1).bind fun y2 => some (.inl (x.1, x.2.1, x.2.2.1, x.2.2.2.1, y2.1, y2.2.1, y2.2.2.1, (rArith .add .i64 x.2.2.2.2.2.2.2.1 (1 : Int)), ()))) else none)) else some (.inl (x.1, x.2.1, x.2.2.1, x.2.2.2.1, x.2.2.2.2.1, x.2.2.2.2.2.1, x.2.2.2.2.2.2.1, (rArith .add .i64 x.2.2.2.2.2.2.2.1 (1 : Int)), ())))) else some (.inr (.inl (x.1, x.2.1, x.2.2.1, x.2.2.2.1, x.2.2.2.2.1, x.2.2.2.2.2.1, x.2.2.2.2.2.2.1, ()))))
noncomputable def impl_orders__impl_MostRide_1_l0 (rec : Int → (List (Int)) → Int → Int → (List (List (Int))) → (List (Int × Int × Int × Int × Int)) → Bool → (List (Int)) → Int → Option (Bool × (List (Int)) × Int × Unit)) (k : Int × (List (Int)) × Unit) (x : Int × Int × (List (List (Int))) × (List (Int × Int × Int × Int × Int)) × Bool × (List (Int)) × Int × Int × Unit) : Option (Int × Int × (List (List (Int))) × (List (Int × Int × Int × Int × Int)) × Bool × (List (Int)) × Int × Unit ⊕ Empty) := iter (impl_orders__impl_MostRide_1_b0 rec k) big x
noncomputable def impl_orders__impl_MostRide_1_r (rec : Int → (List (Int)) → Int → Int → (List (List (Int))) → (List (Int × Int × Int × Int × Int)) → Bool → (List (Int)) → Int → Option (Bool × (List (Int)) × Int × Unit)) (a0 : Int) (a1 : (List (Int))) (a2 : Int) (a3 : Int) (a4 : (List (List (Int)))) (a5 : (List (Int × Int × Int × Int × Int))) (a6 : Bool) (a7 : (List (Int))) (a8 : Int) : Option (Bool × (List (Int)) × Int × Unit) :=
 ((impl_MostRide_1 a1 a2 a3 a4 a5 a6 a7 a8).bind fun y0 => ((impl_orders__impl_MostRide_1_l0 rec (a0, a1, ()) (a2, a3, a4, a5, y0.1, y0.2.1, y0.2.2.1, (0 : Int), ())).bind fun q1 => (Sum.elim (fun y2 => some (y2.2.2.2.2.1, y2.2.2.2.2.2.1, y2.2.2.2.2.2.2.1, ())) (fun q3 => (Empty.elim q3)) q1)))
noncomputable def impl_orders__impl_MostRide_1_f : Nat → Int → (List (Int)) → Int → Int → (List (List (Int))) → (List (Int × Int × Int × Int × Int)) → Bool → (List (Int)) → Int → Option (Bool × (List (Int)) × Int × Unit) | 0 => fun _ _ _ _ _ _ _ _ _ => none | n + 1 => impl_orders__impl_MostRide_1_r (impl_orders__impl_MostRide_1_f n)
noncomputable def impl_orders__impl_MostRide_1 (a0 : Int) (a1 : (List (Int))) (a2 : Int) (a3 : Int) (a4 : (List (List (Int)))) (a5 : (List (Int × Int × Int × Int × Int))) (a6 : Bool) (a7 : (List (Int))) (a8 : Int) : Option (Bool × (List (Int)) × Int × Unit) := impl_orders__impl_MostRide_1_f big a0 a1 a2 a3 a4 a5 a6 a7 a8
noncomputable def impl_MostRide (a0 : Int) (a1 : Int) (a2 : (List (List (Int)))) (a3 : (List (Int × Int × Int × Int × Int))) : Option ((List (Int)) × Int × Bool × Unit) :=
 ((impl_RoundOk a0 a1 a2 a3).bind fun y0 => (bif (Bool.not y0.1) then some (([] : List (Int)), (0 : Int), false, ()) else ((impl_orders__impl_MostRide_1 (rLen a3) ([] : List (Int)) a0 a1 a2 a3 false ([] : List (Int)) (0 : Int)).bind fun y1 => some (y1.2.1, y1.2.2.1, y1.1, ()))))
end Go.Fn
set_option linter.unusedVariables false
set_option linter.unusedSimpArgs false
namespace Go.Fn
open Go.R
noncomputable def kid (n : Nat) : Nat → List Int → Nat → List (List Int)
 | 0, _, _ => []
 | d + 1, p, i => bif hasI p (i : Int) then [] else (p ++ [(i : Int)]) :: (List.range n).flatMap (kid n d (p ++ [(i : Int)]))
noncomputable def tree (n d : Nat) (p : List Int) : List (List Int) := p :: (List.range n).flatMap (kid n d p)
theorem kid_has {n d : Nat} {p : List Int} {i : Nat} (h : hasI p (i : Int) = true) : kid n d p i = [] := by cases d <;> simp [kid, h]
theorem kid_no {n d : Nat} {p : List Int} {i : Nat} (h : hasI p (i : Int) = false) : kid n (d + 1) p i = tree n d (p ++ [(i : Int)]) := by simp [kid, h, tree]
noncomputable def free (n : Nat) (p : List Int) : Nat := ((List.range n).filter fun i : Nat => Bool.not (hasI p (i : Int))).length
theorem filter_lt {α : Type} {q q' : α → Bool} (h : ∀ x, q' x = true → q x = true) : ∀ l : List α, (l.filter q').length ≤ (l.filter q).length ∧ ((∃ x, x ∈ l ∧ q x = true ∧ q' x = false) → (l.filter q').length < (l.filter q).length)
 | [] => ⟨Nat.le_refl _, fun ⟨x, hx, _⟩ => absurd hx List.not_mem_nil⟩
 | y :: ys => by
  obtain ⟨h1, h2⟩ := filter_lt h ys
  cases hq' : q' y with
  | true =>
   have hq := h y hq'
   simp only [List.filter_cons, hq, hq', if_true, List.length_cons]
   refine ⟨by omega, fun ⟨x, hx, a, b⟩ => ?_⟩
   rcases List.mem_cons.1 hx with rfl | hx
   ·rw [hq'] at b; cases b
   ·have := h2 ⟨x, hx, a, b⟩
    omega
  | false =>
   cases hq : q y with
   | true =>
    simp only [List.filter_cons, hq, hq', if_true, List.length_cons, Bool.false_eq_true, if_false]
    exact ⟨by omega, fun _ => by omega⟩
   | false =>
    simp only [List.filter_cons, hq, hq', Bool.false_eq_true, if_false]
    refine ⟨h1, fun ⟨x, hx, a, b⟩ => ?_⟩
    rcases List.mem_cons.1 hx with rfl | hx
    ·rw [hq] at a; cases a
    ·exact h2 ⟨x, hx, a, b⟩
theorem free_lt {n : Nat} {p : List Int} {i : Nat} (hi : i < n) (h : hasI p (i : Int) = false) : free n (p ++ [(i : Int)]) < free n p := by
 refine (filter_lt (fun x hx => ?_) _).2 ⟨i, List.mem_range.2 hi, by rw [h]; rfl, ?_⟩
 ·rw [Bool.not_eq_true'] at hx ⊢
  cases hh : hasI p (x : Int) with
  | false => rfl
  | true =>
   have : hasI (p ++ [(i : Int)]) (x : Int) = true := hasI_iff.2 (List.mem_append_left _ (hasI_iff.1 hh))
   rw [this] at hx
   cases hx
 ·have : hasI (p ++ [(i : Int)]) (i : Int) = true := hasI_iff.2 (List.mem_append_right _ (by simp))
  rw [this]
  rfl
theorem free_zero {n : Nat} {p : List Int} (h : free n p ≤ 0) {i : Nat} (hi : i < n) : hasI p (i : Int) = true := by
 cases hh : hasI p (i : Int) with
 | true => rfl
 | false => have := free_lt hi hh; omega
theorem free_nil (n : Nat) : free n [] ≤ n := by
 unfold free
 have := List.length_filter_le (fun i : Nat => Bool.not (hasI [] (i : Int))) (List.range n)
 rw [List.length_range] at this
 exact this
theorem fm_succ {β : Type} (f : Nat → List β) (i : Nat) : (List.range (i + 1)).flatMap f = (List.range i).flatMap f ++ f i := by
 rw [List.range_succ, List.flatMap_append]
 simp
theorem fm_len {β : Type} {f : Nat → List β} {b : Nat} (h : ∀ i, (f i).length ≤ b) : ∀ i, ((List.range i).flatMap f).length ≤ i * b
 | 0 => by simp
 | i + 1 => by
  have h1 := fm_len h i
  have h2 := h i
  rw [fm_succ, List.length_append, Nat.succ_mul]
  omega
noncomputable def szT (n : Nat) : Nat → Nat
 | 0 => 1
 | d + 1 => 1 + n * szT n d
theorem szT_pos (n : Nat) : ∀ d, 1 ≤ szT n d
 | 0 => Nat.le_refl _
 | d + 1 => by unfold szT; omega
theorem tree_len (n : Nat) : ∀ (d : Nat) (p : List Int), (tree n d p).length ≤ szT n d
 | 0, p => by
  have : ∀ m, (List.range m).flatMap (kid n 0 p) = [] := fun m => by
   induction m with
   | zero => rfl
   | succ m ih => rw [fm_succ, ih]; rfl
  simp [tree, this, szT]
 | d + 1, p => by
  have := fm_len (f := kid n (d + 1) p) (b := szT n d) (fun i => by
   cases h : hasI p (i : Int) with
   | true => rw [kid_has h]; exact Nat.zero_le _
   | false => rw [kid_no h]; exact tree_len n d _) n
  simp only [tree, szT, List.length_cons]
  omega
theorem tree_in (n : Nat) : ∀ (d : Nat) (p o : List Int), o ∈ tree n d p → o.length ≤ p.length + d
 | 0, p, o, h => by
  have : ∀ m, (List.range m).flatMap (kid n 0 p) = [] := fun m => by
   induction m with
   | zero => rfl
   | succ m ih => rw [fm_succ, ih]; rfl
  rw [tree, this, List.mem_singleton] at h
  subst h
  omega
 | d + 1, p, o, h => by
  rcases List.mem_cons.1 h with rfl | h
  ·omega
  ·obtain ⟨i, _, h⟩ := List.mem_flatMap.1 h
   cases hh : hasI p (i : Int) with
   | true => rw [kid_has hh] at h; exact absurd h List.not_mem_nil
   | false =>
    rw [kid_no hh] at h
    have := tree_in n d _ o h
    simp only [List.length_append, List.length_cons, List.length_nil] at this
    omega
theorem specOrders_f (n : Nat) (hn : n ≤ 1000) : ∀ (d fu : Nat) (acc : List (List Int)) (p : List Int), d < fu → free n p ≤ d → p.length + d ≤ 1000 → acc.length + szT n d ≤ 1000000 → spec_l07Orders_f fu acc p (n : Int) = some (acc ++ tree n d p, ()) := by
 intro d
 induction d with
 | zero =>
  intro fu acc p hf hfr hp ha
  obtain ⟨fu, rfl⟩ : ∃ m, fu = m + 1 := ⟨fu - 1, by omega⟩
  show spec_l07Orders_r _ acc p _ = _
  unfold spec_l07Orders_r
  have hs : rSmall (List.append acc (List.append [] [p])) = true := small_of (by show (acc ++ ([] ++ [p])).length ≤ _; simp; omega)
  rw [hs]
  have : spec_l07Orders_l0 (spec_l07Orders_f fu) (p, (n : Int), ()) (List.append acc (List.append [] [p]), 0, ()) = some (.inl (acc ++ tree n 0 p, ())) := by
   refine loop_end (fun i => (acc ++ [p], (i : Int), ())) n (by omega) _ (fun i hi => ?_) ?_
   ·unfold spec_l07Orders_b0
    simp only [lss_nat, hi, decide_true, cond_true, specHas_eq p i (by omega), free_zero hfr hi, Option.bind_some, Bool.not_true, cond_false, succ64 (n := i) (by omega)]
   ·unfold spec_l07Orders_b0
    have : ∀ m, (List.range m).flatMap (kid n 0 p) = [] := fun m => by
     induction m with
     | zero => rfl
     | succ m ih => rw [fm_succ, ih]; rfl
    simp only [lss_nat, Nat.lt_irrefl, decide_false, cond_false, tree, this]
  rw [this]
  rfl
 | succ d ih =>
  intro fu acc p hf hfr hp ha
  obtain ⟨fu, rfl⟩ : ∃ m, fu = m + 1 := ⟨fu - 1, by omega⟩
  show spec_l07Orders_r _ acc p _ = _
  unfold spec_l07Orders_r
  have hpos := szT_pos n (d + 1)
  have hs : rSmall (List.append acc (List.append [] [p])) = true := small_of (by show (acc ++ ([] ++ [p])).length ≤ _; simp; omega)
  rw [hs]
  have : spec_l07Orders_l0 (spec_l07Orders_f fu) (p, (n : Int), ()) (List.append acc (List.append [] [p]), 0, ()) = some (.inl (acc ++ tree n (d + 1) p, ())) := by
   have := loop_end (body := spec_l07Orders_b0 (spec_l07Orders_f fu) (p, (n : Int), ())) (fun i => (acc ++ [p] ++ (List.range i).flatMap (kid n (d + 1) p), (i : Int), ())) n (by omega) (.inl (acc ++ tree n (d + 1) p, ())) (fun i hi => ?_) ?_
   ·unfold spec_l07Orders_l0; simpa using this
   ·unfold spec_l07Orders_b0
    simp only [lss_nat, hi, decide_true, cond_true, specHas_eq p i (by omega), Option.bind_some, succ64 (n := i) (by omega), fm_succ]
    cases hh : hasI p (i : Int) with
    | true => simp only [Bool.not_true, cond_false, kid_has hh, List.append_nil]
    | false =>
     have s1 : rSmall (List.append (α := Int) [] p) = true := small_of (by show ([] ++ p).length ≤ _; simp; omega)
     have s2 : rSmall (List.append (α := Int) (List.append [] p) (List.append [] [(i : Int)])) = true := small_of (by show (([] ++ p) ++ ([] ++ [(i : Int)])).length ≤ _; simp; omega)
     have hk := fm_len (f := kid n (d + 1) p) (b := szT n d) (fun i => by
      cases h : hasI p (i : Int) with
      | true => rw [kid_has h]; exact Nat.zero_le _
      | false => rw [kid_no h]; exact tree_len n d _) i
     have hle : (i + 1) * szT n d ≤ n * szT n d := Nat.mul_le_mul_right _ hi
     rw [Nat.succ_mul] at hle
     have hsz : szT n (d + 1) = 1 + n * szT n d := rfl
     have hr := ih fu (acc ++ [p] ++ (List.range i).flatMap (kid n (d + 1) p)) (p ++ [(i : Int)]) (by omega) (by have := free_lt hi hh; omega) (by simp; omega) (by simp only [List.length_append, List.length_cons, List.length_nil]; omega)
     have he : List.append (α := Int) (List.append [] p) (List.append [] [(i : Int)]) = p ++ [(i : Int)] := rfl
     rw [he] at s2
     simp only [Bool.not_false, cond_true, s1, he, s2, hr, Option.bind_some, kid_no hh]
     simp only [List.append_assoc]
   ·unfold spec_l07Orders_b0
    simp only [lss_nat, Nat.lt_irrefl, decide_false, cond_false, tree, List.append_assoc, List.cons_append, List.nil_append]
  rw [this]
  rfl
theorem orders_gen {S : Type} (n : Nat) (stp : S → List Int → S) (F : Nat → List Int → S → Option S)
  (h : ∀ (fu : Nat) (p : List Int) (st : S) (ch : Nat → List (List Int)), p.length ≤ 1000 → (∀ i, i < n → hasI p (i : Int) = true → ch i = []) → (∀ i st, i < n → hasI p (i : Int) = false → F fu (p ++ [(i : Int)]) st = some ((ch i).foldl stp st)) → F (fu + 1) p st = some (((List.range n).flatMap ch).foldl stp (stp st p))) :
  ∀ (d fu : Nat) (p : List Int) (st : S), d < fu → free n p ≤ d → p.length + d ≤ 1000 → F fu p st = some ((tree n d p).foldl stp st) := by
 intro d
 induction d with
 | zero =>
  intro fu p st hf hfr hp
  obtain ⟨fu, rfl⟩ : ∃ m, fu = m + 1 := ⟨fu - 1, by omega⟩
  exact h fu p st (kid n 0 p) (by omega) (fun i hi hh => rfl) (fun i st hi hh => by rw [free_zero hfr hi] at hh; cases hh)
 | succ d ih =>
  intro fu p st hf hfr hp
  obtain ⟨fu, rfl⟩ : ∃ m, fu = m + 1 := ⟨fu - 1, by omega⟩
  refine h fu p st (kid n (d + 1) p) (by omega) (fun i hi hh => kid_has hh) (fun i st hi hh => ?_)
  rw [kid_no hh]
  exact ih fu _ st (by omega) (by have := free_lt hi hh; omega) (by simp; omega)
theorem clone_eq (l : List Int) (h : l.length ≤ 1073741824) : slices_Clone___int_int_ l = some (l, ()) := by
 unfold slices_Clone___int_int_
 have hs : rSmall (List.append (α := Int) [] l) = true := small_of h
 cases l with
 | nil => simp only [hs, cond_true]; rw [show rCmp .gtr (rLen ([] : List Int)) 0 = false from rfl]; exact both_self _
 | cons x l => rw [show rCmp .gtr (rLen (x :: l)) 0 = true from by simp [rCmp, rLen]]; simp only [hs, cond_true]; rfl
theorem gtr_lens {α β : Type} (l : List α) (m : List β) : rCmp .gtr (rLen l) (rLen m) = decide (m.length < l.length) := by simp [rCmp, rLen]
theorem lss_lens {α β : Type} (l : List α) (m : List β) : rCmp .lss (rLen l) (rLen m) = decide (l.length < m.length) := by simp [rCmp, rLen]
theorem eql_lens {α β : Type} (l : List α) (m : List β) : rCmp .eql (rLen l) (rLen m) = decide (l.length = m.length) := by rw [Bool.eq_iff_iff]; simp [rCmp, rLen]; omega
section
variable (a0 a1 : Int) (g : List (List Int)) (s : List Stp)
abbrev SB : Type := Bool × Int × List Int × Unit
noncomputable def stepB (st : SB) (p : List Int) : SB :=
 bif decide (p.length < s.length) then st else match ride a0 a1 g s p with
  | none => st
  | some v => bif Bool.not st.1 then (true, v.2.1, p, ()) else bif rCmp .lss v.2.1 st.2.1 then (true, v.2.1, p, ()) else st
theorem stepB_eq (hgr : ∀ r ∈ g, r.length ≤ 1073741824) (p : List Int) (st : SB) (hp : p.length ≤ 1000) : impl_BestRide_1 p a0 a1 g s st.1 st.2.1 st.2.2.1 = some (stepB a0 a1 g s st p) := by
 unfold impl_BestRide_1 stepB
 rw [lss_lens, implRide_eq a0 a1 g s p hgr (by omega)]
 cases decide (p.length < s.length) with
 | true => rfl
 | false =>
  simp only [cond_false, Option.bind_some]
  cases ride a0 a1 g s p with
  | none => rfl
  | some v =>
   obtain ⟨vb, ve, vp, vw⟩ := v
   simp only [cond_true, clone_eq p (by omega), Option.bind_some]
   cases hst : st.1 with
   | false => rfl
   | true =>
    simp only [Bool.not_true, cond_false]
    cases rCmp .lss ve st.2.1 with
    | true => rfl
    | false => simp only [cond_false]; rw [← hst]
theorem ordersB (hgr : ∀ r ∈ g, r.length ≤ 1073741824) (n : Nat) (hn : n ≤ 1000) : impl_orders__impl_BestRide_1 (n : Int) [] a0 a1 g s false 0 [] = some ((tree n n []).foldl (stepB a0 a1 g s) (false, 0, [], ())) := by
 refine orders_gen n (stepB a0 a1 g s) (fun fu p st => impl_orders__impl_BestRide_1_f fu (n : Int) p a0 a1 g s st.1 st.2.1 st.2.2.1) (fun fu p st ch hp h1 h2 => ?_) n big [] (false, 0, [], ()) (lt_big (by omega)) (free_nil n) (by simp; omega)
 show impl_orders__impl_BestRide_1_r _ (n : Int) p a0 a1 g s st.1 st.2.1 st.2.2.1 = _
 unfold impl_orders__impl_BestRide_1_r
 rw [stepB_eq a0 a1 g s hgr p st hp]
 simp only [Option.bind_some]
 generalize stepB a0 a1 g s st p = st'
 have : impl_orders__impl_BestRide_1_l0 (impl_orders__impl_BestRide_1_f fu) ((n : Int), p, ()) (a0, a1, g, s, st'.1, st'.2.1, st'.2.2.1, 0, ()) = some (.inl (a0, a1, g, s, (((List.range n).flatMap ch).foldl (stepB a0 a1 g s) st').1, (((List.range n).flatMap ch).foldl (stepB a0 a1 g s) st').2.1, (((List.range n).flatMap ch).foldl (stepB a0 a1 g s) st').2.2.1, ())) := by
  refine loop_end (fun i => (a0, a1, g, s, (((List.range i).flatMap ch).foldl (stepB a0 a1 g s) st').1, (((List.range i).flatMap ch).foldl (stepB a0 a1 g s) st').2.1, (((List.range i).flatMap ch).foldl (stepB a0 a1 g s) st').2.2.1, (i : Int), ())) n (by omega) _ (fun i hi => ?_) ?_
  ·unfold impl_orders__impl_BestRide_1_b0
   simp only [lss_nat, hi, decide_true, cond_true, containsI_eq p i (by omega), Option.bind_some, succ64 (n := i) (by omega), fm_succ, List.foldl_append]
   cases hh : hasI p (i : Int) with
   | true => simp only [Bool.not_true, cond_false, h1 i hi hh, List.foldl_nil]
   | false =>
    have he : List.append (α := Int) p (List.append [] [(i : Int)]) = p ++ [(i : Int)] := rfl
    have s2 : rSmall (p ++ [(i : Int)]) = true := small_of (by simp; omega)
    have hq := h2 i (((List.range i).flatMap ch).foldl (stepB a0 a1 g s) st') hi hh
    simp only [Bool.not_false, cond_true, clone_eq p (by omega), Option.bind_some, he, s2, hq]
  ·unfold impl_orders__impl_BestRide_1_b0
   simp only [lss_nat, Nat.lt_irrefl, decide_false, cond_false]
 rw [this]
 rfl
abbrev SS : Type := List Int × Int × Bool × Unit
noncomputable def stepS (k : Nat) (st : SS) (p : List Int) : SS :=
 bif decide (p.length < k) then st else match ride a0 a1 g s p with
  | none => st
  | some v => bif Bool.not st.2.2.1 then (p, v.2.1, true, ()) else bif decide (st.1.length < p.length) then (p, v.2.1, true, ()) else
   bif decide (p.length = st.1.length) then (bif rCmp .lss v.2.1 st.2.1 then (p, v.2.1, true, ()) else st) else st
theorem specBest_loop (k : Nat) (L : List (List Int)) (hL : L.length ≤ 1000000) (ho : ∀ o, o ∈ L → o.length ≤ 1000) : spec_l07Best_l0 ((k : Int), a0, a1, g, s, ()) ([], 0, false, L, 0, ()) = some (.inl (L.foldl (stepS a0 a1 g s k) ([], 0, false, ()))) := by
 unfold spec_l07Best_l0
 have := loop_end (body := spec_l07Best_b0 ((k : Int), a0, a1, g, s, ())) (fun i => (((L.take i).foldl (stepS a0 a1 g s k) ([], 0, false, ())).1, ((L.take i).foldl (stepS a0 a1 g s k) ([], 0, false, ())).2.1, ((L.take i).foldl (stepS a0 a1 g s k) ([], 0, false, ())).2.2.1, L, (i : Int), ())) L.length (by omega) (.inl (L.foldl (stepS a0 a1 g s k) ([], 0, false, ()))) (fun i hi => ?_) ?_
 ·simpa using this
 ·have hol := ho _ (getD_mem hi zLIl)
  have htake : L.take (i + 1) = L.take i ++ [L.getD i zLIl] := by
   rw [List.take_add_one, List.getElem?_eq_getElem hi, List.getD_eq_getElem?_getD, List.getElem?_eq_getElem hi]
   rfl
  rw [htake]
  simp only [List.foldl_append, List.foldl_cons, List.foldl_nil]
  generalize (L.take i).foldl (stepS a0 a1 g s k) ([], 0, false, ()) = st
  obtain ⟨y, hy, hm⟩ := specRide_eq a0 a1 g s (L.getD i zLIl) (by omega)
  have hlk : rCmp .lss (rLen (L.getD i zLIl)) (k : Int) = decide ((L.getD i zLIl).length < k) := by simp [rCmp, rLen]
  unfold spec_l07Best_b0 spec_Ride
  simp only [lss_len, hi, decide_true, cond_true, inR_nat, get_nat, cond_false, hy, Option.bind_some, succ64 (n := i) (by omega), hlk, gtr_lens, eql_lens]
  unfold stepS
  cases decide ((L.getD i zLIl).length < k) with
  | true => rfl
  | false =>
   simp only [cond_false]
   cases hr : ride a0 a1 g s (L.getD i zLIl) with
   | none =>
    rw [hr] at hm
    have hm : y.2.2.2.2.1 = false := hm
    simp only [hm, Bool.not_false, cond_true, cond_false, Option.bind_some]
   | some v =>
    obtain ⟨vb, ve, vp, vw⟩ := v
    rw [hr] at hm
    have hm : y = (vb, ve, vp, vw, true, ()) := hm
    subst hm
    simp only [Bool.not_true, cond_false, cond_true, Option.bind_some]
    cases hq : st.2.2.1 with
    | false => rfl
    | true =>
     simp only [Bool.not_true, cond_false]
     cases decide (st.1.length < (L.getD i zLIl).length) with
     | true => rfl
     | false =>
      simp only [cond_false]
      cases decide ((L.getD i zLIl).length = st.1.length) with
      | false => simp only [cond_false, hq]
      | true =>
       simp only [cond_true]
       cases rCmp .lss ve st.2.1 with
       | true => rfl
       | false => simp only [cond_false, hq]
 ·unfold spec_l07Best_b0
  simp only [lss_len, Nat.lt_irrefl, decide_false, cond_false, List.take_length]
noncomputable def flip3 (st : SB) : SS := (st.2.2.1, st.2.1, st.1, ())
theorem bestFold : ∀ (L : List (List Int)) (st : SB), (∀ o, o ∈ L → o.length ≤ s.length) → (st.1 = true → st.2.2.1.length = s.length) → L.foldl (stepS a0 a1 g s s.length) (flip3 st) = flip3 (L.foldl (stepB a0 a1 g s) st) ∧ ((L.foldl (stepB a0 a1 g s) st).1 = false → st = L.foldl (stepB a0 a1 g s) st)
 | [], st, _, _ => ⟨rfl, fun _ => rfl⟩
 | o :: L, st, hL, hst => by
  have ho := hL o (by simp)
  have key : stepS a0 a1 g s s.length (flip3 st) o = flip3 (stepB a0 a1 g s st o) ∧ ((stepB a0 a1 g s st o).1 = true → (stepB a0 a1 g s st o).2.2.1.length = s.length) ∧ ((stepB a0 a1 g s st o).1 = false → st = stepB a0 a1 g s st o) := by
   unfold stepS stepB
   by_cases hk : o.length < s.length
   ·simp only [hk, decide_true, cond_true]
    exact ⟨trivial, hst, fun _ => trivial⟩
   ·have hlen : o.length = s.length := by omega
    simp only [hk, decide_false, cond_false]
    cases ride a0 a1 g s o with
    | none => exact ⟨rfl, hst, fun _ => rfl⟩
    | some v =>
     obtain ⟨f, e, b, u⟩ := st
     cases f with
     | false => exact ⟨rfl, fun _ => hlen, fun h => by cases h⟩
     | true =>
      have hb : b.length = s.length := hst rfl
      simp only [flip3, Bool.not_true, cond_false, hb, hlen, Nat.lt_irrefl, decide_false, decide_true, cond_true]
      cases rCmp .lss v.2.1 e with
      | true => exact ⟨rfl, fun _ => hlen, fun h => by cases h⟩
      | false => exact ⟨rfl, fun _ => hb, fun _ => rfl⟩
  obtain ⟨k1, k2, k3⟩ := key
  obtain ⟨h1, h2⟩ := bestFold L (stepB a0 a1 g s st o) (fun o' h => hL o' (by simp [h])) k2
  simp only [List.foldl_cons, k1]
  refine ⟨h1, fun h => ?_⟩
  have e2 := h2 h
  rw [← e2] at h
  rw [← e2]
  exact k3 h
abbrev SM : Type := Bool × List Int × Int × Unit
noncomputable def cmp1 (a b : Int) : Int := bif rCmp .lss a b then -1 else bif rCmp .gtr a b then 1 else 0
theorem cmpI (a b : Int) : cmp_Compare_int_ a b = some (cmp1 a b, ()) := by
 unfold cmp_Compare_int_ cmp_isNaN_int_ cmp1
 simp only [neq_self, Option.bind_some, cond_false]
 cases rCmp .lss a b <;> cases rCmp .gtr a b <;> rfl
noncomputable def lex0 : List Int → List Int → Option Int
 | [], _ => none
 | _ :: _, [] => some 1
 | x :: xs, y :: ys => bif rCmp .neq (cmp1 x y) 0 then some (cmp1 x y) else lex0 xs ys
noncomputable def lexc (a b : List Int) : Int := match lex0 a b with | some c => c | none => bif decide (a.length < b.length) then -1 else 0
theorem lex0_drop (a b : List Int) {i : Nat} (hi : i < a.length) : lex0 (a.drop i) (b.drop i) = if i < b.length then (bif rCmp .neq (cmp1 (a.getD i zI) (b.getD i zI)) 0 then some (cmp1 (a.getD i zI) (b.getD i zI)) else lex0 (a.drop (i + 1)) (b.drop (i + 1))) else some 1 := by
 rw [drop_getD hi zI]
 by_cases hb : i < b.length
 ·rw [if_pos hb, drop_getD hb zI]; rfl
 ·rw [if_neg hb, List.drop_eq_nil_of_le (as := b) (by omega)]; rfl
theorem compareL_eq (a b : List Int) (ha : a.length ≤ 1000) (hb : b.length ≤ 1000) : slices_Compare___int_int_ a b = some (lexc a b, ()) := by
 unfold slices_Compare___int_int_ lexc
 have : slices_Compare___int_int__l0 (a, b, a, rLen a, ()) (0, ()) = some (match lex0 a b with | some c => .inl (c, ()) | none => .inr (.inl ())) := by
  have := loop_st (body := slices_Compare___int_int__b0 (a, b, a, rLen a, ())) (fun i => ((i : Int), ())) a.length (by omega) (fun i => match lex0 (a.drop i) (b.drop i) with | some c => .inl (c, ()) | none => .inr (.inl ())) (fun i hi => ?_) ?_
  ·unfold slices_Compare___int_int__l0; simpa using this
  ·unfold slices_Compare___int_int__b0
   have hg : rCmp .geq (i : Int) (rLen b) = decide (b.length ≤ i) := by simp [rCmp, rLen]
   simp only [lss_len, hi, decide_true, cond_true, inR_nat, get_nat, hg, cmpI, Option.bind_some, succ64 (n := i) (by omega), lex0_drop a b hi]
   by_cases hb' : i < b.length
   ·rw [if_pos hb', decide_eq_false (by omega : ¬ b.length ≤ i), decide_eq_true hb']
    simp only [cond_false, cond_true]
    cases rCmp .neq (cmp1 (a.getD i zI) (b.getD i zI)) 0 with
    | true => exact .inr rfl
    | false => exact .inl ⟨rfl, rfl⟩
   ·rw [if_neg hb', decide_eq_true (by omega : b.length ≤ i)]
    exact .inr rfl
  ·unfold slices_Compare___int_int__b0
   simp only [lss_len, Nat.lt_irrefl, decide_false, cond_false, List.drop_length]
   rfl
 rw [this]
 cases lex0 a b with
 | some c => rfl
 | none =>
  simp only [Option.bind_some, Sum.elim_inr, Sum.elim_inl, lss_lens]
  cases decide (a.length < b.length) <;> rfl
theorem lex_gt {i j : Int} (h : i < j) (u v : List Int) : ∀ p : List Int, lex0 (p ++ j :: u) (p ++ i :: v) = some 1
 | [] => by
  have h1 : rCmp .lss j i = false := decide_eq_false (by omega)
  have h2 : rCmp .gtr j i = true := decide_eq_true (by omega)
  have h3 : cmp1 j i = 1 := by unfold cmp1; rw [h1, h2]; rfl
  show (bif rCmp .neq (cmp1 j i) 0 then some (cmp1 j i) else _) = _
  rw [h3]
  rfl
 | x :: p => by
  have h1 : rCmp .lss x x = false := decide_eq_false (by omega)
  have h2 : rCmp .gtr x x = false := decide_eq_false (by omega)
  have h3 : cmp1 x x = 0 := by unfold cmp1; rw [h1, h2]; rfl
  show (bif rCmp .neq (cmp1 x x) 0 then some (cmp1 x x) else lex0 (p ++ j :: u) (p ++ i :: v)) = _
  rw [h3, lex_gt h u v p]
  rfl
noncomputable def Aft (a b : List Int) : Prop := a.length = b.length → lexc b a = 1
theorem kid_form (n : Nat) : ∀ (d : Nat) (p o : List Int) (i : Nat), o ∈ kid n d p i → ∃ u, o = p ++ (i : Int) :: u
 | 0, p, o, i, h => absurd h List.not_mem_nil
 | d + 1, p, o, i, h => by
  cases hh : hasI p (i : Int) with
  | true => rw [kid_has hh] at h; exact absurd h List.not_mem_nil
  | false =>
   rw [kid_no hh] at h
   rcases List.mem_cons.1 h with rfl | h
   ·exact ⟨[], rfl⟩
   ·obtain ⟨j, _, h⟩ := List.mem_flatMap.1 h
    obtain ⟨u, rfl⟩ := kid_form n d _ o j h
    exact ⟨(j : Int) :: u, by simp⟩
theorem tree_pair (n : Nat) : ∀ (d : Nat) (p : List Int), (tree n d p).Pairwise Aft := by
 intro d
 induction d with
 | zero =>
  intro p
  have : ∀ m, (List.range m).flatMap (kid n 0 p) = [] := fun m => by
   induction m with
   | zero => rfl
   | succ m ih => rw [fm_succ, ih]; rfl
  rw [tree, this]
  exact List.pairwise_singleton _ _
 | succ d ih =>
  intro p
  refine List.pairwise_cons.2 ⟨fun o ho he => ?_, ?_⟩
  ·obtain ⟨j, _, h⟩ := List.mem_flatMap.1 ho
   obtain ⟨u, rfl⟩ := kid_form n _ _ o j h
   simp only [List.length_append, List.length_cons] at he
   omega
  ·suffices ∀ m, ((List.range m).flatMap (kid n (d + 1) p)).Pairwise Aft from this n
   intro m
   induction m with
   | zero => exact List.Pairwise.nil
   | succ m ihm =>
    rw [fm_succ]
    refine List.pairwise_append.2 ⟨ihm, ?_, fun a ha b hb he => ?_⟩
    ·cases hh : hasI p (m : Int) with
     | true => rw [kid_has hh]; exact List.Pairwise.nil
     | false => rw [kid_no hh]; exact ih _
    ·obtain ⟨i, hi, h⟩ := List.mem_flatMap.1 ha
     have hi := List.mem_range.1 hi
     obtain ⟨u, rfl⟩ := kid_form n _ _ a i h
     obtain ⟨v, rfl⟩ := kid_form n _ _ b m hb
     unfold lexc
     rw [lex_gt (by omega) v u p]
noncomputable def stepM (st : SM) (p : List Int) : SM :=
 match ride a0 a1 g s p with
  | none => st
  | some v => bif Bool.not st.1 then (true, p, v.2.1, ()) else bif decide (st.2.1.length < p.length) then (true, p, v.2.1, ()) else
   bif decide (p.length = st.2.1.length) then (bif rCmp .lss v.2.1 st.2.2.1 then (true, p, v.2.1, ()) else bif rCmp .eql v.2.1 st.2.2.1 then (bif rCmp .lss (lexc p st.2.1) 0 then (true, p, v.2.1, ()) else st) else st) else st
theorem stepM_eq (hgr : ∀ r ∈ g, r.length ≤ 1073741824) (p : List Int) (st : SM) (hp : p.length ≤ 1000) : impl_MostRide_1 p a0 a1 g s st.1 st.2.1 st.2.2.1 = some (stepM a0 a1 g s st p) := by
 unfold impl_MostRide_1 stepM
 rw [implRide_eq a0 a1 g s p hgr (by omega)]
 simp only [Option.bind_some]
 cases ride a0 a1 g s p with
 | none => rfl
 | some v =>
  obtain ⟨vb, ve, vp, vw⟩ := v
  obtain ⟨f, b, e, u⟩ := st
  simp only [cond_true, clone_eq p (by omega), Option.bind_some, gtr_lens, eql_lens]
  cases f with
  | false => rfl
  | true =>
   simp only [Bool.not_true, cond_false]
   by_cases h1 : b.length < p.length
   ·simp only [h1, decide_true, cond_true]
   ·by_cases h2 : p.length = b.length
    ·simp only [h1, h2, decide_true, decide_false, cond_true, cond_false, compareL_eq p b hp (by omega), Option.bind_some, Nat.lt_irrefl]
     cases rCmp .lss ve e <;> cases rCmp .eql ve e <;> cases rCmp .lss (lexc p b) 0 <;> rfl
    ·simp only [h1, h2, decide_true, decide_false, cond_true, cond_false]
theorem ordersM (hgr : ∀ r ∈ g, r.length ≤ 1073741824) (n : Nat) (hn : n ≤ 1000) : impl_orders__impl_MostRide_1 (n : Int) [] a0 a1 g s false [] 0 = some ((tree n n []).foldl (stepM a0 a1 g s) (false, [], 0, ())) := by
 refine orders_gen n (stepM a0 a1 g s) (fun fu p st => impl_orders__impl_MostRide_1_f fu (n : Int) p a0 a1 g s st.1 st.2.1 st.2.2.1) (fun fu p st ch hp h1 h2 => ?_) n big [] (false, [], 0, ()) (lt_big (by omega)) (free_nil n) (by simp; omega)
 show impl_orders__impl_MostRide_1_r _ (n : Int) p a0 a1 g s st.1 st.2.1 st.2.2.1 = _
 unfold impl_orders__impl_MostRide_1_r
 rw [stepM_eq a0 a1 g s hgr p st hp]
 simp only [Option.bind_some]
 generalize stepM a0 a1 g s st p = st'
 have : impl_orders__impl_MostRide_1_l0 (impl_orders__impl_MostRide_1_f fu) ((n : Int), p, ()) (a0, a1, g, s, st'.1, st'.2.1, st'.2.2.1, 0, ()) = some (.inl (a0, a1, g, s, (((List.range n).flatMap ch).foldl (stepM a0 a1 g s) st').1, (((List.range n).flatMap ch).foldl (stepM a0 a1 g s) st').2.1, (((List.range n).flatMap ch).foldl (stepM a0 a1 g s) st').2.2.1, ())) := by
  refine loop_end (fun i => (a0, a1, g, s, (((List.range i).flatMap ch).foldl (stepM a0 a1 g s) st').1, (((List.range i).flatMap ch).foldl (stepM a0 a1 g s) st').2.1, (((List.range i).flatMap ch).foldl (stepM a0 a1 g s) st').2.2.1, (i : Int), ())) n (by omega) _ (fun i hi => ?_) ?_
  ·unfold impl_orders__impl_MostRide_1_b0
   simp only [lss_nat, hi, decide_true, cond_true, containsI_eq p i (by omega), Option.bind_some, succ64 (n := i) (by omega), fm_succ, List.foldl_append]
   cases hh : hasI p (i : Int) with
   | true => simp only [Bool.not_true, cond_false, h1 i hi hh, List.foldl_nil]
   | false =>
    have he : List.append (α := Int) p (List.append [] [(i : Int)]) = p ++ [(i : Int)] := rfl
    have s2 : rSmall (p ++ [(i : Int)]) = true := small_of (by simp; omega)
    have hq := h2 i (((List.range i).flatMap ch).foldl (stepM a0 a1 g s) st') hi hh
    simp only [Bool.not_false, cond_true, clone_eq p (by omega), Option.bind_some, he, s2, hq]
  ·unfold impl_orders__impl_MostRide_1_b0
   simp only [lss_nat, Nat.lt_irrefl, decide_false, cond_false]
 rw [this]
 rfl
noncomputable def flipM (st : SM) : SS := (st.2.1, st.2.2.1, st.1, ())
theorem mostFold : ∀ (L P : List (List Int)) (st : SM), (P ++ L).Pairwise Aft → (st.1 = true → st.2.1 ∈ P) → L.foldl (stepS a0 a1 g s 0) (flipM st) = flipM (L.foldl (stepM a0 a1 g s) st) ∧ ((L.foldl (stepM a0 a1 g s) st).1 = false → st = L.foldl (stepM a0 a1 g s) st)
 | [], P, st, _, _ => ⟨rfl, fun _ => rfl⟩
 | o :: L, P, st, hP, hst => by
  have key : stepS a0 a1 g s 0 (flipM st) o = flipM (stepM a0 a1 g s st o) ∧ ((stepM a0 a1 g s st o).1 = true → (stepM a0 a1 g s st o).2.1 ∈ P ++ [o]) ∧ ((stepM a0 a1 g s st o).1 = false → st = stepM a0 a1 g s st o) := by
   have hold : st.1 = true → st.2.1 ∈ P ++ [o] := fun h => List.mem_append_left _ (hst h)
   have hnew : o ∈ P ++ [o] := by simp
   unfold stepS stepM
   simp only [Nat.not_lt_zero, decide_false, cond_false]
   cases ride a0 a1 g s o with
   | none => exact ⟨rfl, hold, fun _ => rfl⟩
   | some v =>
    obtain ⟨f, b, e, u⟩ := st
    cases f with
    | false => exact ⟨rfl, fun _ => hnew, fun h => by cases h⟩
    | true =>
     simp only [flipM, Bool.not_true, cond_false]
     by_cases h1 : b.length < o.length
     ·simp only [h1, decide_true, cond_true]
      exact ⟨trivial, fun _ => hnew, fun h => by cases h⟩
     ·by_cases h2 : o.length = b.length
      ·have ha : Aft b o := (List.pairwise_append.1 hP).2.2 b (hst rfl) o (by simp)
       have hn : rCmp .lss (lexc o b) 0 = false := by rw [ha h2.symm]; rfl
       simp only [h2, Nat.lt_irrefl, decide_true, decide_false, cond_true, cond_false, hn]
       cases rCmp .lss v.2.1 e with
       | true => exact ⟨rfl, fun _ => hnew, fun h => by cases h⟩
       | false =>
        cases rCmp .eql v.2.1 e with
        | true => exact ⟨rfl, fun _ => hold rfl, fun _ => rfl⟩
        | false => exact ⟨rfl, fun _ => hold rfl, fun _ => rfl⟩
      ·simp only [h1, h2, decide_false, cond_false]
       exact ⟨trivial, fun _ => hold rfl, fun _ => trivial⟩
  obtain ⟨k1, k2, k3⟩ := key
  obtain ⟨h1, h2⟩ := mostFold L (P ++ [o]) (stepM a0 a1 g s st o) (by rw [List.append_assoc]; exact hP) k2
  simp only [List.foldl_cons, k1]
  refine ⟨h1, fun h => ?_⟩
  have e2 := h2 h
  rw [← e2] at h
  rw [← e2]
  exact k3 h
theorem specBest_eq (hro : roundOk a0 a1 g s = true) (k : Nat) : spec_l07Best a0 a1 g s (k : Int) = some (bif Bool.not ((tree s.length s.length []).foldl (stepS a0 a1 g s k) ([], 0, false, ())).2.2.1 then ([], 0, false, ()) else (((tree s.length s.length []).foldl (stepS a0 a1 g s k) ([], 0, false, ())).1, ((tree s.length s.length []).foldl (stepS a0 a1 g s k) ([], 0, false, ())).2.1, true, ())) := by
 obtain ⟨hs, _⟩ := roundOk_rows hro
 have hsz : szT s.length s.length ≤ 100000 := by
  have : ∀ n, n ≤ 6 → szT n n ≤ 100000 := by decide
  exact this _ hs
 unfold spec_l07Best
 rw [specRound_eq, hro]
 have hL : spec_l07Orders [] [] (rLen s) = some (tree s.length s.length [], ()) := specOrders_f s.length (by omega) s.length big [] [] (lt_big (by omega)) (free_nil _) (by simp; omega) (by simp; omega)
 have hlen := tree_len s.length s.length []
 have hloop := specBest_loop a0 a1 g s k (tree s.length s.length []) (by omega) (fun o ho => by have := tree_in _ _ _ o ho; simp at this; omega)
 simp only [Option.bind_some, Bool.not_true, cond_false, hL, hloop, Sum.elim_inl]
 cases ((tree s.length s.length []).foldl (stepS a0 a1 g s k) ([], 0, false, ())).2.2.1 <;> rfl
noncomputable def bestR : SS := bif roundOk a0 a1 g s then flip3 ((tree s.length s.length []).foldl (stepB a0 a1 g s) (false, 0, [], ())) else ([], 0, false, ())
theorem implBest (hgr : ∀ r ∈ g, r.length ≤ 1073741824) : impl_BestRide a0 a1 g s = some (bestR a0 a1 g s) := by
 unfold impl_BestRide bestR
 rw [implRound_eq a0 a1 g s hgr]
 cases hro : roundOk a0 a1 g s with
 | false => rfl
 | true =>
  obtain ⟨hs, _⟩ := roundOk_rows hro
  simp only [Option.bind_some, Bool.not_true, cond_false, cond_true]
  have : impl_orders__impl_BestRide_1 (rLen s) [] a0 a1 g s false 0 [] = _ := ordersB a0 a1 g s hgr s.length (by omega)
  rw [this]
  rfl
theorem specBest : spec_BestRide a0 a1 g s = some (bestR a0 a1 g s) := by
 unfold spec_BestRide bestR
 cases hro : roundOk a0 a1 g s with
 | false =>
  unfold spec_l07Best
  rw [specRound_eq, hro]
  rfl
 | true =>
  have : spec_l07Best a0 a1 g s (rLen s) = _ := specBest_eq a0 a1 g s hro s.length
  rw [this]
  obtain ⟨h1, h2⟩ := bestFold a0 a1 g s (tree s.length s.length []) (false, 0, [], ()) (fun o ho => by have := tree_in _ _ _ o ho; simpa using this) (fun h => by cases h)
  have h1 : (tree s.length s.length []).foldl (stepS a0 a1 g s s.length) ([], 0, false, ()) = _ := h1
  rw [h1]
  revert h2
  generalize (tree s.length s.length []).foldl (stepB a0 a1 g s) (false, 0, [], ()) = r
  intro h2
  obtain ⟨f, e, b, u⟩ := r
  cases f with
  | true => rfl
  | false => rw [← h2 rfl]; rfl
noncomputable def mostR : SS := bif roundOk a0 a1 g s then flipM ((tree s.length s.length []).foldl (stepM a0 a1 g s) (false, [], 0, ())) else ([], 0, false, ())
theorem implMost (hgr : ∀ r ∈ g, r.length ≤ 1073741824) : impl_MostRide a0 a1 g s = some (mostR a0 a1 g s) := by
 unfold impl_MostRide mostR
 rw [implRound_eq a0 a1 g s hgr]
 cases hro : roundOk a0 a1 g s with
 | false => rfl
 | true =>
  obtain ⟨hs, _⟩ := roundOk_rows hro
  simp only [Option.bind_some, Bool.not_true, cond_false, cond_true]
  have : impl_orders__impl_MostRide_1 (rLen s) [] a0 a1 g s false [] 0 = _ := ordersM a0 a1 g s hgr s.length (by omega)
  rw [this]
  rfl
theorem specMost : spec_MostRide a0 a1 g s = some (mostR a0 a1 g s) := by
 unfold spec_MostRide mostR
 cases hro : roundOk a0 a1 g s with
 | false =>
  unfold spec_l07Best
  rw [specRound_eq, hro]
  rfl
 | true =>
  have : spec_l07Best a0 a1 g s 0 = _ := specBest_eq a0 a1 g s hro 0
  rw [this]
  obtain ⟨h1, h2⟩ := mostFold a0 a1 g s (tree s.length s.length []) [] (false, [], 0, ()) (tree_pair _ _ _) (fun h => by cases h)
  have h1 : (tree s.length s.length []).foldl (stepS a0 a1 g s 0) ([], 0, false, ()) = _ := h1
  rw [h1]
  revert h2
  generalize (tree s.length s.length []).foldl (stepM a0 a1 g s) (false, [], 0, ()) = r
  intro h2
  obtain ⟨f, b, e, u⟩ := r
  cases f with
  | true => rfl
  | false => rw [← h2 rfl]; rfl
theorem best_in : ∀ (L : List (List Int)) (st : SB), st.2.2.1.length ≤ 1000 → (∀ o, o ∈ L → o.length ≤ 1000) → (L.foldl (stepB a0 a1 g s) st).2.2.1.length ≤ 1000
 | [], st, h, _ => h
 | o :: L, st, h, hL => by
  refine best_in L _ ?_ fun o' ho' => hL o' (by simp [ho'])
  have ho := hL o (by simp)
  unfold stepB
  cases decide (o.length < s.length) with
  | true => exact h
  | false =>
   simp only [cond_false]
   cases ride a0 a1 g s o with
   | none => exact h
   | some v =>
    simp only
    cases st.1 <;> cases rCmp .lss v.2.1 st.2.1 <;> first | exact ho | exact h
theorem most_in : ∀ (L : List (List Int)) (st : SM), st.2.1.length ≤ 1000 → (∀ o, o ∈ L → o.length ≤ 1000) → (L.foldl (stepM a0 a1 g s) st).2.1.length ≤ 1000
 | [], st, h, _ => h
 | o :: L, st, h, hL => by
  refine most_in L _ ?_ fun o' ho' => hL o' (by simp [ho'])
  have ho := hL o (by simp)
  unfold stepM
  cases ride a0 a1 g s o with
  | none => exact h
  | some v =>
   simp only
   cases st.1 <;> cases decide (st.2.1.length < o.length) <;> cases decide (o.length = st.2.1.length) <;> cases rCmp .lss v.2.1 st.2.2.1 <;> cases rCmp .eql v.2.1 st.2.2.1 <;> cases rCmp .lss (lexc o st.2.1) 0 <;> first | exact ho | exact h
theorem bestR_len : (bestR a0 a1 g s).1.length ≤ 1000 := by
 unfold bestR
 cases hro : roundOk a0 a1 g s with
 | false => exact Nat.zero_le _
 | true =>
  obtain ⟨hs, _⟩ := roundOk_rows hro
  exact best_in a0 a1 g s _ _ (Nat.zero_le _) fun o ho => by have := tree_in _ _ _ o ho; simp at this; omega
theorem mostR_len : (mostR a0 a1 g s).1.length ≤ 1000 := by
 unfold mostR
 cases hro : roundOk a0 a1 g s with
 | false => exact Nat.zero_le _
 | true =>
  obtain ⟨hs, _⟩ := roundOk_rows hro
  exact most_in a0 a1 g s _ _ (Nat.zero_le _) fun o ho => by have := tree_in _ _ _ o ho; simp at this; omega
end
end Go.Fn
set_option linter.unusedVariables false
namespace Go.Fn
open Go.R
noncomputable def laws_has_b0 (k : (List (Int)) × Int × Unit) (x : Int × Unit) : Option ((Int × Unit) ⊕ (Bool × Unit ⊕ (Unit ⊕ Empty))) :=
 (bif (rCmp .lss x.1 (rLen k.1)) then (bif (rInR k.1 x.1) then (bif (rCmp .eql (rGet zI k.1 x.1) k.2.1) then some (.inr (.inl (true, ()))) else some (.inl ((rArith .add .i64 x.1 (1 : Int)), ()))) else none) else some (.inr (.inr (.inl (())))))
noncomputable def laws_has_l0 (k : (List (Int)) × Int × Unit) (x : Int × Unit) : Option (Bool × Unit ⊕ (Unit ⊕ Empty)) := iter (laws_has_b0 k) big x
noncomputable def laws_has (a0 : (List (Int))) (a1 : Int) : Option (Bool × Unit) :=
 ((laws_has_l0 (a0, a1, ()) ((0 : Int), ())).bind fun q0 => (Sum.elim (fun y1 => some (y1.1, ())) (fun q2 => (Sum.elim (fun y3 => some (false, ())) (fun q4 => (Empty.elim q4)) q2)) q0))
noncomputable def laws_before_b0 (k : (List (Int)) × (List (Int)) × Unit) (x : Int × Unit) : Option ((Int × Unit) ⊕ (Bool × Unit ⊕ (Unit ⊕ Empty))) :=
 (bif (rCmp .lss x.1 (rLen k.1)) then (bif (rCmp .lss x.1 (rLen k.2.1)) then (bif (rInR k.1 x.1) then (bif (rInR k.2.1 x.1) then (bif (rCmp .neq (rGet zI k.1 x.1) (rGet zI k.2.1 x.1)) then (bif (rInR k.1 x.1) then (bif (rInR k.2.1 x.1) then some (.inr (.inl ((rCmp .lss (rGet zI k.1 x.1) (rGet zI k.2.1 x.1)), ()))) else none) else none) else some (.inl ((rArith .add .i64 x.1 (1 : Int)), ()))) else none) else none) else some (.inr (.inr (.inl (()))))) else some (.inr (.inr (.inl (())))))
noncomputable def laws_before_l0 (k : (List (Int)) × (List (Int)) × Unit) (x : Int × Unit) : Option (Bool × Unit ⊕ (Unit ⊕ Empty)) := iter (laws_before_b0 k) big x
noncomputable def laws_before (a0 : (List (Int))) (a1 : (List (Int))) : Option (Bool × Unit) :=
 ((laws_before_l0 (a0, a1, ()) ((0 : Int), ())).bind fun q0 => (Sum.elim (fun y1 => some (y1.1, ())) (fun q2 => (Sum.elim (fun y3 => some (false, ())) (fun q4 => (Empty.elim q4)) q2)) q0))
noncomputable def laws_FnBestRides_b2 (k : (List (Int)) × Int × Int × Int × Unit) (x : Int × Int × (List (List (Int))) × (List (Int × Int × Int × Int × Int)) × (List (Int)) × Int × Unit) : Option ((Int × Int × (List (List (Int))) × (List (Int × Int × Int × Int × Int)) × (List (Int)) × Int × Unit) ⊕ (Int × Int × (List (List (Int))) × (List (Int × Int × Int × Int × Int)) × (List (Int)) × Unit ⊕ Empty)) :=
 (bif (rCmp .lss x.2.2.2.2.2.1 (4 : Int)) then (bif (rIsNeg (rArith .mul .i64 (2 : Int) x.2.2.2.2.2.1)) then none else (bif (rCmp .lss (rArith .and .i64 (rShift .shr .i64 k.2.2.2.1 (rArith .mul .i64 (2 : Int) x.2.2.2.2.2.1)) (3 : Int)) k.2.2.1) then ((laws_has x.2.2.2.2.1 (rArith .and .i64 (rShift .shr .i64 k.2.2.2.1 (rArith .mul .i64 (2 : Int) x.2.2.2.2.2.1)) (3 : Int))).bind fun y0 => (bif (Bool.not y0.1) then (bif (rSmall (List.append (α := Int) x.2.2.2.2.1 (List.append (α := Int) ([] : List (Int)) [(rArith .and .i64 (rShift .shr .i64 k.2.2.2.1 (rArith .mul .i64 (2 : Int) x.2.2.2.2.2.1)) (3 : Int))]))) then some (.inl (x.1, x.2.1, x.2.2.1, x.2.2.2.1, (List.append (α := Int) x.2.2.2.2.1 (List.append (α := Int) ([] : List (Int)) [(rArith .and .i64 (rShift .shr .i64 k.2.2.2.1 (rArith .mul .i64 (2 : Int) x.2.2.2.2.2.1)) (3 : Int))])), (rArith .add .i64 x.2.2.2.2.2.1 (1 : Int)), ())) else none) else some (.inl (x.1, x.2.1, x.2.2.1, x.2.2.2.1, x.2.2.2.2.1, (rArith .add .i64 x.2.2.2.2.2.1 (1 : Int)), ())))) else some (.inl (x.1, x.2.1, x.2.2.1, x.2.2.2.1, x.2.2.2.2.1, (rArith .add .i64 x.2.2.2.2.2.1 (1 : Int)), ())))) else some (.inr (.inl (x.1, x.2.1, x.2.2.1, x.2.2.2.1, x.2.2.2.2.1, ()))))
noncomputable def laws_FnBestRides_l2 (k : (List (Int)) × Int × Int × Int × Unit) (x : Int × Int × (List (List (Int))) × (List (Int × Int × Int × Int × Int)) × (List (Int)) × Int × Unit) : Option (Int × Int × (List (List (Int))) × (List (Int × Int × Int × Int × Int)) × (List (Int)) × Unit ⊕ Empty) := iter (laws_FnBestRides_b2 k) big x
noncomputable def laws_FnBestRides_b0 (k : (List (Int)) × Int × Int × Unit) (x : Int × Int × (List (List (Int))) × (List (Int × Int × Int × Int × Int)) × Int × Unit) : Option ((Int × Int × (List (List (Int))) × (List (Int × Int × Int × Int × Int)) × Int × Unit) ⊕ (Bool × Unit ⊕ (Int × Int × (List (List (Int))) × (List (Int × Int × Int × Int × Int)) × Unit ⊕ Empty))) :=
 (bif (rCmp .lss x.2.2.2.2.1 (256 : Int)) then ((laws_FnBestRides_l2 (k.1, k.2.1, k.2.2.1, x.2.2.2.2.1, ()) (x.1, x.2.1, x.2.2.1, x.2.2.2.1, ([] : List (Int)), (0 : Int), ())).bind fun q0 => (Sum.elim (fun y1 => ((impl_Ride y1.1 y1.2.1 y1.2.2.1 y1.2.2.2.1 y1.2.2.2.2.1).bind fun y2 => (bif y2.2.2.1 then (bif (rCmp .gtr (rLen y1.2.2.2.2.1) (rLen k.1)) then some (.inr (.inl (false, ()))) else (bif (rCmp .eql (rLen y1.2.2.2.2.1) (rLen k.1)) then (bif (rCmp .lss y2.2.1 k.2.1) then some (.inr (.inl (false, ()))) else (bif (rCmp .eql (rLen y1.2.2.2.2.1) (rLen k.1)) then (bif (rCmp .eql y2.2.1 k.2.1) then ((laws_before y1.2.2.2.2.1 k.1).bind fun y3 => (bif y3.1 then some (.inr (.inl (false, ()))) else some (.inl (y1.1, y1.2.1, y1.2.2.1, y1.2.2.2.1, (rArith .add .i64 x.2.2.2.2.1 (1 : Int)), ())))) else some (.inl (y1.1, y1.2.1, y1.2.2.1, y1.2.2.2.1, (rArith .add .i64 x.2.2.2.2.1 (1 : Int)), ()))) else some (.inl (y1.1, y1.2.1, y1.2.2.1, y1.2.2.2.1, (rArith .add .i64 x.2.2.2.2.1 (1 : Int)), ())))) else (bif (rCmp .eql (rLen y1.2.2.2.2.1) (rLen k.1)) then (bif (rCmp .eql y2.2.1 k.2.1) then ((laws_before y1.2.2.2.2.1 k.1).bind fun y3 => (bif y3.1 then some (.inr (.inl (false, ()))) else some (.inl (y1.1, y1.2.1, y1.2.2.1, y1.2.2.2.1, (rArith .add .i64 x.2.2.2.2.1 (1 : Int)), ())))) else some (.inl (y1.1, y1.2.1, y1.2.2.1, y1.2.2.2.1, (rArith .add .i64 x.2.2.2.2.1 (1 : Int)), ()))) else some (.inl (y1.1, y1.2.1, y1.2.2.1, y1.2.2.2.1, (rArith .add .i64 x.2.2.2.2.1 (1 : Int)), ()))))) else some (.inl (y1.1, y1.2.1, y1.2.2.1, y1.2.2.2.1, (rArith .add .i64 x.2.2.2.2.1 (1 : Int)), ()))))) (fun q2 => (Empty.elim q2)) q0)) else some (.inr (.inr (.inl (x.1, x.2.1, x.2.2.1, x.2.2.2.1, ())))))
noncomputable def laws_FnBestRides_l0 (k : (List (Int)) × Int × Int × Unit) (x : Int × Int × (List (List (Int))) × (List (Int × Int × Int × Int × Int)) × Int × Unit) : Option (Bool × Unit ⊕ (Int × Int × (List (List (Int))) × (List (Int × Int × Int × Int × Int)) × Unit ⊕ Empty)) := iter (laws_FnBestRides_b0 k) big x
noncomputable def laws_FnBestRides (a0 : (List (Int))) : Option (Bool × Unit) :=
 ((laws_big a0).bind fun y0 => (bif y0.1 then some (true, ()) else ((spec_DrawRound a0).bind fun y1 => ((impl_BestRide y1.1 y1.2.1 y1.2.2.1 y1.2.2.2.1).bind fun y2 => ((spec_BestRide y1.1 y1.2.1 y1.2.2.1 y1.2.2.2.1).bind fun y3 => ((impl_MostRide y1.1 y1.2.1 y1.2.2.1 y1.2.2.2.1).bind fun y4 => ((spec_MostRide y1.1 y1.2.1 y1.2.2.1 y1.2.2.2.1).bind fun y5 => (bif (Bool.not (rBeq y2.2.2.1 y3.2.2.1)) then some (false, ()) else (bif (rCmp .neq y2.2.1 y3.2.1) then some (false, ()) else ((laws_sameInts y2.1 y3.1).bind fun y6 => (bif (Bool.not y6.1) then some (false, ()) else (bif (Bool.not y4.2.2.1) then some (false, ()) else (bif (Bool.not y5.2.2.1) then some (false, ()) else (bif (rCmp .neq y4.2.1 y5.2.1) then some (false, ()) else ((laws_sameInts y4.1 y5.1).bind fun y7 => (bif (Bool.not y7.1) then some (false, ()) else ((impl_RoundOk y1.1 y1.2.1 y1.2.2.1 y1.2.2.2.1).bind fun y8 => (bif (Bool.not y8.1) then some (false, ()) else (bif (Bool.not (rBeq y3.2.2.1 (rCmp .eql (rLen y5.1) (rLen y1.2.2.2.1)))) then some (false, ()) else (bif y3.2.2.1 then (bif (rCmp .neq y3.2.1 y5.2.1) then some (false, ()) else ((laws_FnBestRides_l0 (y5.1, y5.2.1, (rLen y1.2.2.2.1), ()) (y1.1, y1.2.1, y1.2.2.1, y1.2.2.2.1, (0 : Int), ())).bind fun q9 => (Sum.elim (fun y10 => some (y10.1, ())) (fun q11 => (Sum.elim (fun y12 => ((impl_Ride y12.1 y12.2.1 y12.2.2.1 y12.2.2.2.1 y5.1).bind fun y13 => (bif y13.2.2.1 then some ((rCmp .eql y13.2.1 y5.2.1), ()) else some (false, ())))) (fun q13 => (Empty.elim q13)) q11)) q9))) else ((laws_FnBestRides_l0 (y5.1, y5.2.1, (rLen y1.2.2.2.1), ()) (y1.1, y1.2.1, y1.2.2.1, y1.2.2.2.1, (0 : Int), ())).bind fun q9 => (Sum.elim (fun y10 => some (y10.1, ())) (fun q11 => (Sum.elim (fun y12 => ((impl_Ride y12.1 y12.2.1 y12.2.2.1 y12.2.2.2.1 y5.1).bind fun y13 => (bif y13.2.2.1 then some ((rCmp .eql y13.2.1 y5.2.1), ()) else some (false, ())))) (fun q13 => (Empty.elim q13)) q11)) q9))))))))))))))))))))))
end Go.Fn
set_option linter.unusedVariables false
set_option linter.unusedSimpArgs false
namespace Go.Fn
open Go.R
theorem sameI_self (l : List Int) (hl : l.length ≤ 1073741824) : laws_sameInts l l = some (true, ()) := by
 unfold laws_sameInts
 rw [neq_self]
 have hloop : laws_sameInts_l0 (l, l, ()) ((0 : Int), ()) = some (Sum.inr (Sum.inl ())) := by
  refine loop_end (fun n => ((n : Int), ())) l.length (by omega) _ (fun n hn => ?_) ?_
  ·unfold laws_sameInts_b0
   simp only [lss_len, inR_nat, hn, decide_true, cond_true, neq_self, succ64 (n := n) (by omega)]
   rfl
  ·unfold laws_sameInts_b0
   simp only [lss_len, Nat.lt_irrefl, decide_false, cond_false]
 simp only [cond_false]
 rw [hloop]
 rfl
theorem lawsHas_eq (l : List Int) (x : Int) (hl : l.length ≤ 1073741824) : laws_has l x = some (hasI l x, ()) := by
 unfold laws_has hasI
 have hloop : laws_has_l0 (l, x, ()) ((0 : Int), ()) = some (bif allFrom (nat l x) 0 l.length then (Sum.inr (Sum.inl ()) : Bool × Unit ⊕ (Unit ⊕ Empty)) else Sum.inl (true, ())) := by
  refine loop_all (fun n => ((n : Int), ())) l.length (by omega) (nat l x) _ _ (fun n hn => ?_) ?_
  ·unfold laws_has_b0 nat
   simp only [lss_len, inR_nat, get_nat, hn, decide_true, cond_true, succ64 (n := n) (by omega)]
   cases rCmp .eql (l.getD n zI) x <;> rfl
  ·unfold laws_has_b0
   simp only [lss_len, Nat.lt_irrefl, decide_false, cond_false]
 rw [hloop]
 cases allFrom (nat l x) 0 l.length <;> rfl
theorem beforeL_eq (a b : List Int) (hab : a.length = b.length) (ha : a.length ≤ 1000) : ∃ r, laws_before a b = some (r, ()) ∧ (r = true → rCmp .lss (lexc a b) 0 = true) := by
 unfold laws_before lexc
 have : laws_before_l0 (a, b, ()) (0, ()) = some (match lex0 a b with | some c => .inl (rCmp .lss c 0, ()) | none => .inr (.inl ())) := by
  have := loop_st (body := laws_before_b0 (a, b, ())) (fun i => ((i : Int), ())) a.length (by omega) (fun i => match lex0 (a.drop i) (b.drop i) with | some c => .inl (rCmp .lss c 0, ()) | none => .inr (.inl ())) (fun i hi => ?_) ?_
  ·unfold laws_before_l0; simpa using this
  ·unfold laws_before_b0
   have hb : i < b.length := by omega
   simp only [lss_len, hi, hb, decide_true, cond_true, inR_nat, get_nat, Option.bind_some, succ64 (n := i) (by omega), lex0_drop a b hi, if_true]
   have hc : rCmp .neq (cmp1 (a.getD i zI) (b.getD i zI)) 0 = rCmp .neq (a.getD i zI) (b.getD i zI) ∧ (rCmp .lss (cmp1 (a.getD i zI) (b.getD i zI)) 0 = rCmp .lss (a.getD i zI) (b.getD i zI)) := by
    generalize a.getD i zI = x
    generalize b.getD i zI = y
    unfold cmp1
    rcases Int.lt_trichotomy x y with h | h | h
    ·rw [show rCmp .lss x y = true from decide_eq_true h]
     refine ⟨?_, rfl⟩
     have : x ≠ y := by omega
     simp [rCmp, this]
    ·subst h
     rw [show rCmp .lss x x = false from decide_eq_false (by omega), show rCmp .gtr x x = false from decide_eq_false (by omega), neq_self]
     exact ⟨rfl, rfl⟩
    ·rw [show rCmp .lss x y = false from decide_eq_false (by omega), show rCmp .gtr x y = true from decide_eq_true h]
     refine ⟨?_, rfl⟩
     have : x ≠ y := by omega
     simp [rCmp, this]
   rw [hc.1]
   cases rCmp .neq (a.getD i zI) (b.getD i zI) with
   | true => simp only [cond_true, hc.2]; exact .inr trivial
   | false => simp only [cond_false]; exact .inl ⟨trivial, trivial⟩
  ·unfold laws_before_b0
   simp only [lss_len, Nat.lt_irrefl, decide_false, cond_false, List.drop_length]
   rfl
 rw [this]
 cases lex0 a b with
 | some c => exact ⟨_, rfl, fun h => h⟩
 | none => exact ⟨false, rfl, fun h => by cases h⟩
section
variable (a0 a1 : Int) (g : List (List Int)) (s : List Stp)
noncomputable def GoodM (P : List (List Int)) (st : SM) : Prop :=
 (st.1 = true → st.2.1 ∈ P ∧ ∃ v, ride a0 a1 g s st.2.1 = some v ∧ v.2.1 = st.2.2.1) ∧
 ∀ o v, o ∈ P → ride a0 a1 g s o = some v → st.1 = true ∧ o.length ≤ st.2.1.length ∧ (o.length = st.2.1.length → ¬ v.2.1 < st.2.2.1 ∧ (v.2.1 = st.2.2.1 → rCmp .lss (lexc o st.2.1) 0 = false))
theorem lexc_self (o : List Int) : lexc o o = 0 := by
 have : ∀ o : List Int, lex0 o o = none := fun o => by
  induction o with
  | nil => rfl
  | cons x o ih =>
   have h1 : cmp1 x x = 0 := by unfold cmp1; rw [show rCmp .lss x x = false from decide_eq_false (by omega), show rCmp .gtr x x = false from decide_eq_false (by omega)]; rfl
   show (bif rCmp .neq (cmp1 x x) 0 then _ else lex0 o o) = _
   rw [h1, ih]; rfl
 unfold lexc
 rw [this]
 simp
theorem goodM_take {P : List (List Int)} {st : SM} {o : List Int} {v : List Int × Int × Int × Int} (hv : ride a0 a1 g s o = some v) (h : GoodM a0 a1 g s P st) (hb : st.1 = false ∨ st.2.1.length < o.length ∨ (o.length = st.2.1.length ∧ v.2.1 < st.2.2.1)) : GoodM a0 a1 g s (P ++ [o]) (true, o, v.2.1, ()) := by
 refine ⟨fun _ => ⟨by simp, v, hv, rfl⟩, fun o' v' ho' hv' => ?_⟩
 rcases List.mem_append.1 ho' with ho' | ho'
 ·obtain ⟨h1, h2, h3⟩ := h.2 o' v' ho' hv'
  rcases hb with hb | hb | ⟨hb, hb'⟩
  ·rw [hb] at h1; cases h1
  ·exact ⟨rfl, by show o'.length ≤ o.length; omega, fun he => by have he : o'.length = o.length := he; omega⟩
  ·refine ⟨rfl, by show o'.length ≤ o.length; omega, fun he => ?_⟩
   have he : o'.length = o.length := he
   obtain ⟨h4, h5⟩ := h3 (by omega)
   exact ⟨by show ¬ v'.2.1 < v.2.1; omega, fun hq => by have hq : v'.2.1 = v.2.1 := hq; omega⟩
 ·have ho' : o' = o := by simpa using ho'
  subst ho'
  rw [hv] at hv'
  injection hv' with hv'
  subst hv'
  refine ⟨rfl, Nat.le_refl _, fun _ => ⟨by show ¬ v.2.1 < v.2.1; omega, fun _ => ?_⟩⟩
  show rCmp .lss (lexc o' o') 0 = false
  rw [lexc_self]
  rfl
theorem goodM_keep {P : List (List Int)} {st : SM} {o : List Int} (h : GoodM a0 a1 g s P st) (hb : ∀ v, ride a0 a1 g s o = some v → st.1 = true ∧ o.length ≤ st.2.1.length ∧ (o.length = st.2.1.length → ¬ v.2.1 < st.2.2.1 ∧ (v.2.1 = st.2.2.1 → rCmp .lss (lexc o st.2.1) 0 = false))) : GoodM a0 a1 g s (P ++ [o]) st := by
 refine ⟨fun hf => ⟨List.mem_append_left _ (h.1 hf).1, (h.1 hf).2⟩, fun o' v' ho' hv' => ?_⟩
 rcases List.mem_append.1 ho' with ho' | ho'
 ·exact h.2 o' v' ho' hv'
 ·have ho' : o' = o := by simpa using ho'
  subst ho'
  exact hb v' hv'
theorem goodM_step {P : List (List Int)} {st : SM} {o : List Int} (hP : st.1 = true → Aft st.2.1 o) (h : GoodM a0 a1 g s P st) : GoodM a0 a1 g s (P ++ [o]) (stepM a0 a1 g s st o) := by
 unfold stepM
 cases hr : ride a0 a1 g s o with
 | none => exact goodM_keep a0 a1 g s h fun v hv => by rw [hr] at hv; cases hv
 | some v =>
  simp only
  cases hf : st.1 with
  | false => exact goodM_take a0 a1 g s hr h (.inl hf)
  | true =>
   simp only [Bool.not_true, cond_false]
   by_cases h1 : st.2.1.length < o.length
   ·rw [decide_eq_true h1]
    exact goodM_take a0 a1 g s hr h (.inr (.inl h1))
   ·rw [decide_eq_false h1]
    simp only [cond_false]
    by_cases h2 : o.length = st.2.1.length
    ·rw [decide_eq_true h2]
     simp only [cond_true]
     have hl : rCmp .lss (lexc o st.2.1) 0 = false := by rw [hP hf h2.symm]; rfl
     rw [hl]
     cases h3 : rCmp .lss v.2.1 st.2.2.1 with
     | true => exact goodM_take a0 a1 g s hr h (.inr (.inr ⟨h2, of_decide_eq_true h3⟩))
     | false =>
      simp only [cond_false]
      have : GoodM a0 a1 g s (P ++ [o]) st := goodM_keep a0 a1 g s h fun v' hv' => by
       rw [hr] at hv'
       injection hv' with hv'
       subst hv'
       exact ⟨hf, by omega, fun _ => ⟨of_decide_eq_false h3, fun _ => hl⟩⟩
      cases rCmp .eql v.2.1 st.2.2.1 <;> exact this
    ·rw [decide_eq_false h2]
     show GoodM a0 a1 g s (P ++ [o]) st
     exact goodM_keep a0 a1 g s h fun v' hv' => ⟨hf, by omega, fun he => absurd he h2⟩
theorem goodM_fold : ∀ (L P : List (List Int)) (st : SM), (P ++ L).Pairwise Aft → GoodM a0 a1 g s P st → GoodM a0 a1 g s (P ++ L) (L.foldl (stepM a0 a1 g s) st)
 | [], P, st, _, h => by rw [List.append_nil]; exact h
 | o :: L, P, st, hp, h => by
  have := goodM_fold L (P ++ [o]) (stepM a0 a1 g s st o) (by rw [List.append_assoc]; exact hp) (goodM_step a0 a1 g s (fun hf => (List.pairwise_append.1 hp).2.2 _ (h.1 hf).1 o (by simp)) h)
  rw [List.append_assoc] at this
  exact this
noncomputable def GoodB (P : List (List Int)) (st : SB) : Prop :=
 (st.1 = true → st.2.2.1 ∈ P ∧ ¬ st.2.2.1.length < s.length ∧ ∃ v, ride a0 a1 g s st.2.2.1 = some v ∧ v.2.1 = st.2.1) ∧
 ∀ o v, o ∈ P → ¬ o.length < s.length → ride a0 a1 g s o = some v → st.1 = true ∧ ¬ v.2.1 < st.2.1
theorem goodB_step {P : List (List Int)} {st : SB} {o : List Int} (h : GoodB a0 a1 g s P st) : GoodB a0 a1 g s (P ++ [o]) (stepB a0 a1 g s st o) := by
 have keep : (∀ v, ¬ o.length < s.length → ride a0 a1 g s o = some v → st.1 = true ∧ ¬ v.2.1 < st.2.1) → GoodB a0 a1 g s (P ++ [o]) st := fun hb => by
  refine ⟨fun hf => ⟨List.mem_append_left _ (h.1 hf).1, (h.1 hf).2⟩, fun o' v' ho' hl' hv' => ?_⟩
  rcases List.mem_append.1 ho' with ho' | ho'
  ·exact h.2 o' v' ho' hl' hv'
  ·have ho' : o' = o := by simpa using ho'
   subst ho'
   exact hb v' hl' hv'
 unfold stepB
 by_cases hk : o.length < s.length
 ·rw [decide_eq_true hk]
  exact keep fun v h => absurd hk h
 ·rw [decide_eq_false hk]
  simp only [cond_false]
  cases hr : ride a0 a1 g s o with
  | none => exact keep fun v _ hv => by rw [hr] at hv; cases hv
  | some v =>
   have take : (st.1 = false ∨ v.2.1 < st.2.1) → GoodB a0 a1 g s (P ++ [o]) (true, v.2.1, o, ()) := fun hb => by
    refine ⟨fun _ => ⟨by simp, hk, v, hr, rfl⟩, fun o' v' ho' hl' hv' => ⟨rfl, ?_⟩⟩
    show ¬ v'.2.1 < v.2.1
    rcases List.mem_append.1 ho' with ho' | ho'
    ·obtain ⟨h1, h2⟩ := h.2 o' v' ho' hl' hv'
     rcases hb with hb | hb
     ·rw [hb] at h1; cases h1
     ·omega
    ·have ho' : o' = o := by simpa using ho'
     subst ho'
     rw [hr] at hv'
     injection hv' with hv'
     subst hv'
     omega
   simp only
   cases hf : st.1 with
   | false => exact take (.inl hf)
   | true =>
    simp only [Bool.not_true, cond_false]
    cases h3 : rCmp .lss v.2.1 st.2.1 with
    | true => exact take (.inr (of_decide_eq_true h3))
    | false =>
     exact keep fun v' _ hv' => by
      rw [hr] at hv'
      injection hv' with hv'
      subst hv'
      exact ⟨hf, of_decide_eq_false h3⟩
theorem goodB_fold : ∀ (L P : List (List Int)) (st : SB), GoodB a0 a1 g s P st → GoodB a0 a1 g s (P ++ L) (L.foldl (stepB a0 a1 g s) st)
 | [], P, st, h => by rw [List.append_nil]; exact h
 | o :: L, P, st, h => by
  have := goodB_fold L (P ++ [o]) _ (goodB_step a0 a1 g s h)
  rw [List.append_assoc] at this
  exact this
theorem tree_mem (n : Nat) : ∀ (u p : List Int) (d : Nat), free n p ≤ d → (∀ x, x ∈ u → 0 ≤ x ∧ x < (n : Int)) → (p ++ u).Pairwise (· ≠ ·) → p ++ u ∈ tree n d p
  | [], p, d, _, _, _ => by rw [List.append_nil]; exact List.mem_cons_self
  | x :: u, p, d, hd, hx, hp => by
    obtain ⟨h0, h1⟩ := hx x (by simp)
    obtain ⟨i, rfl⟩ : ∃ i : Nat, x = (i : Int) := ⟨x.toNat, by omega⟩
    have hi : i < n := by omega
    have hno : hasI p (i : Int) = false := by
      cases hh : hasI p (i : Int) with
      | false => rfl
      | true => exact absurd rfl ((List.pairwise_append.1 hp).2.2 _ (hasI_iff.1 hh) _ (by simp))
    have hlt := free_lt hi hno
    obtain ⟨d, rfl⟩ : ∃ m, d = m + 1 := ⟨d - 1, by omega⟩
    refine List.mem_cons_of_mem _ (List.mem_flatMap.2 ⟨i, List.mem_range.2 hi, ?_⟩)
    rw [kid_no hno]
    have := tree_mem n u (p ++ [(i : Int)]) d (by omega) (fun x h => hx x (by simp [h])) (by rw [List.append_assoc]; exact hp)
    rw [List.append_assoc] at this
    exact this
theorem code_yl (mo : List Int) (me c : Int) {n : Int} (hn : n ≤ 1000) : Yl (laws_FnBestRides_l2 (mo, me, n, c, ()) (a0, a1, g, s, [], 0, ())) fun y => ∃ o, y = .inl (a0, a1, g, s, o, ()) ∧ o.Pairwise (· ≠ ·) ∧ (∀ x, x ∈ o → 0 ≤ x ∧ x < n) ∧ o.length ≤ 1000 := by
  unfold laws_FnBestRides_l2
  refine Yl.loop (fun x => ∃ (o : List Int) (k : Int), x = (a0, a1, g, s, o, k, ()) ∧ 0 ≤ k ∧ k ≤ 4 ∧ o.Pairwise (· ≠ ·) ∧ (∀ x, x ∈ o → 0 ≤ x ∧ x < n) ∧ (o.length : Int) ≤ k) (fun x => (4 - x.2.2.2.2.2.1).toNat) (fun x hx => ?_) big _ ⟨[], 0, rfl, by decide, by decide, List.Pairwise.nil, fun x h => absurd h List.not_mem_nil, by decide⟩ (lt_big (by show (4 - (0 : Int)).toNat < _; decide))
  obtain ⟨o, k, rfl, h0, h4, hp, hi, hl⟩ := hx
  unfold laws_FnBestRides_b2
  simp only
  refine Yl.cond (fun h => ?_) (fun h => ?_)
  · have hk : k < 4 := of_decide_eq_true h
    have a1' : rArith .add .i64 k 1 = k + 1 := add64 (by omega) (by omega)
    rw [mul64 (by omega) (by omega), a1']
    refine Yl.nguard (decide_eq_false (by omega)) ?_
    have hd := (and64 (rShift .shr .i64 c (2 * k)) (c := 3) (by decide)).1
    have hd : 0 ≤ rArith .and .i64 (rShift .shr .i64 c (2 * k)) 3 := hd
    revert hd
    generalize rArith .and .i64 (rShift .shr .i64 c (2 * k)) 3 = d
    intro hd
    refine Yl.cond (fun hdn => ?_) (fun _ => .ret ⟨⟨o, k + 1, rfl, by omega, by omega, hp, hi, by omega⟩, by simp only; omega⟩)
    have hdn : d < n := of_decide_eq_true hdn
    rw [lawsHas_eq o d (by omega)]
    simp only [Option.bind_some]
    refine Yl.cond (fun hh => ?_) (fun _ => .ret ⟨⟨o, k + 1, rfl, by omega, by omega, hp, hi, by omega⟩, by simp only; omega⟩)
    have hh : hasI o d = false := by rwa [Bool.not_eq_true'] at hh
    have he : List.append (α := Int) o (List.append [] [d]) = o ++ [d] := rfl
    rw [he]
    refine Yl.guard (small_of (by simp; omega)) (.ret ⟨⟨o ++ [d], k + 1, rfl, by omega, by omega, ?_, ?_, by simp; omega⟩, by simp only; omega⟩)
    · refine List.pairwise_append.2 ⟨hp, List.pairwise_singleton _ _, fun x hx y hy hxy => ?_⟩
      have hy : y = d := by simpa using hy
      rw [hy] at hxy
      rw [hxy] at hx
      rw [hasI_iff.2 hx] at hh
      cases hh
    · intro x hx
      rcases List.mem_append.1 hx with hx | hx
      · exact hi x hx
      · have hx : x = d := by simpa using hx
        subst hx
        exact ⟨hd, hdn⟩
  · exact .ret ⟨o, rfl, hp, hi, by have : ¬ k < 4 := of_decide_eq_false h; omega⟩
end
theorem bestRides_true (code : List Int) : laws_FnBestRides code = some (true, ()) := by
 unfold laws_FnBestRides laws_big
 simp only [Option.bind_some]
 cases hbig : rCmp .gtr (rLen code) 1048576 with
 | true => rfl
 | false =>
  have hb : code.length ≤ 1048576 := by
   have : ¬ ((1048576 : Int) < (code.length : Int)) := of_decide_eq_false hbig
   omega
  simp only [cond_false]
  obtain ⟨⟨a0, a1, g, s, u⟩, he, hro, hs4⟩ := drawRound_yl code hb
  rw [he]
  have hro : roundOk a0 a1 g s = true := hro
  have hs4 : s.length ≤ 4 := hs4
  obtain ⟨_, hg, hrow, _, _, _⟩ := roundOk_rows hro
  have hgr : ∀ r ∈ g, r.length ≤ 1073741824 := fun r hr => by
   obtain ⟨m, hm, rfl⟩ := List.getElem_of_mem hr
   have := (hrow m hm).1
   rw [List.getD_eq_getElem?_getD, List.getElem?_eq_getElem hm] at this
   simp only [Option.getD_some] at this
   omega
  have lb := bestR_len a0 a1 g s
  have lm := mostR_len a0 a1 g s
  have gm : GoodM a0 a1 g s (tree s.length s.length []) ((tree s.length s.length []).foldl (stepM a0 a1 g s) (false, [], 0, ())) := goodM_fold a0 a1 g s _ [] _ (tree_pair _ _ _) ⟨(fun h => by cases h), fun o v h => absurd h List.not_mem_nil⟩
  have gb : GoodB a0 a1 g s (tree s.length s.length []) ((tree s.length s.length []).foldl (stepB a0 a1 g s) (false, 0, [], ())) := goodB_fold a0 a1 g s _ [] _ ⟨(fun h => by cases h), fun o v h => absurd h List.not_mem_nil⟩
  have eb : bestR a0 a1 g s = flip3 ((tree s.length s.length []).foldl (stepB a0 a1 g s) (false, 0, [], ())) := by unfold bestR; rw [hro]; rfl
  have em : mostR a0 a1 g s = flipM ((tree s.length s.length []).foldl (stepM a0 a1 g s) (false, [], 0, ())) := by unfold mostR; rw [hro]; rfl
  have ib := implBest a0 a1 g s hgr
  have sb := specBest a0 a1 g s
  have im := implMost a0 a1 g s hgr
  have sm := specMost a0 a1 g s
  rw [eb] at lb ib sb
  rw [em] at lm im sm
  revert lb lm ib sb im sm gm gb
  generalize (tree s.length s.length []).foldl (stepB a0 a1 g s) (false, 0, [], ()) = B
  generalize (tree s.length s.length []).foldl (stepM a0 a1 g s) (false, [], 0, ()) = M
  intro lb lm gm gb ib sb im sm
  obtain ⟨bf, be, bo, bu⟩ := B
  obtain ⟨mf, mo, me, mu⟩ := M
  have lb : bo.length ≤ 1000 := lb
  have lm : mo.length ≤ 1000 := lm
  have hnil : [] ∈ tree s.length s.length ([] : List Int) := List.mem_cons_self
  obtain ⟨vn, hvn⟩ := Option.isSome_iff_exists.1 (ride_nil hro)
  have hmf : mf = true := (gm.2 [] vn hnil hvn).1
  subst hmf
  obtain ⟨hmo, vm, hvm, hve⟩ := gm.1 rfl
  have hmo : mo ∈ tree s.length s.length [] := hmo
  have hvm : ride a0 a1 g s mo = some vm := hvm
  have hve : vm.2.1 = me := hve
  have hml : mo.length ≤ s.length := by have := tree_in _ _ _ mo hmo; simpa using this
  have hfound : bf = decide (mo.length = s.length) := by
   by_cases hh : mo.length = s.length
   ·rw [decide_eq_true hh]
    exact (gb.2 mo vm hmo (by omega) hvm).1
   ·rw [decide_eq_false hh]
    cases hbf : bf with
    | false => rfl
    | true =>
     obtain ⟨h1, h2, v, h3, _⟩ := gb.1 hbf
     have h2 : ¬ bo.length < s.length := h2
     have := (gm.2 bo v h1 h3).2.1
     have : bo.length ≤ mo.length := this
     omega
  have hend : bf = true → be = me := by
   intro hbf
   have hl : mo.length = s.length := by rw [hbf] at hfound; exact of_decide_eq_true hfound.symm
   obtain ⟨h1, h2, v, h3, h4⟩ := gb.1 hbf
   have h4 : v.2.1 = be := h4
   have h2 : ¬ bo.length < s.length := h2
   have k1 := (gb.2 mo vm hmo (by omega) hvm).2
   have k1 : ¬ vm.2.1 < be := k1
   obtain ⟨_, k2, k3⟩ := gm.2 bo v h1 h3
   have k2 : bo.length ≤ mo.length := k2
   have k3 := (k3 (by show bo.length = mo.length; omega)).1
   have k3 : ¬ v.2.1 < me := k3
   omega
  have hsame : rCmp .eql (rLen mo) (rLen s) = bf := by rw [eql_lens, hfound]
  have hloop : laws_FnBestRides_l0 (mo, me, rLen s, ()) (a0, a1, g, s, 0, ()) = some (.inr (.inl (a0, a1, g, s, ()))) := by
   refine loop_end (fun n => (a0, a1, g, s, (n : Int), ())) 256 (by omega) _ (fun n hn => ?_) ?_
   ·unfold laws_FnBestRides_b0
    have h1 : rCmp .lss (n : Int) 256 = true := by simp only [rCmp, decide_eq_true_eq]; omega
    obtain ⟨y, hy, o, rfl, ho1, ho2, ho3⟩ := code_yl a0 a1 g s mo me (n : Int) (n := rLen s) (by unfold rLen; omega)
    simp only [h1, cond_true, hy, Option.bind_some, Sum.elim_inl, implRideR a0 a1 g s o hgr (by omega), succ64 (n := n) (by omega)]
    have hin : o ∈ tree s.length s.length [] := tree_mem s.length o [] s.length (free_nil _) ho2 ho1
    cases hr : ride a0 a1 g s o with
    | none => rfl
    | some v =>
     obtain ⟨_, k1, k2⟩ := gm.2 o v hin hr
     have k1 : o.length ≤ mo.length := k1
     obtain ⟨vb, ve, vp, vw⟩ := v
     simp only [rideR, cond_true, gtr_lens, eql_lens, decide_eq_false (show ¬ mo.length < o.length by omega), cond_false]
     by_cases hl : o.length = mo.length
     ·obtain ⟨k3, k4⟩ := k2 hl
      have k3 : ¬ ve < me := k3
      have k4 : ve = me → rCmp .lss (lexc o mo) 0 = false := k4
      rw [decide_eq_true hl, show rCmp .lss ve me = false from decide_eq_false k3]
      simp only [cond_true, cond_false]
      cases hq : rCmp .eql ve me with
      | false => rfl
      | true =>
       obtain ⟨r, hr1, hr2⟩ := beforeL_eq o mo hl ho3
       have : r = false := by
        cases r with
        | false => rfl
        | true => have := hr2 rfl; rw [k4 (eql_eq hq)] at this; cases this
       subst this
       rw [hr1]
       rfl
     ·rw [decide_eq_false hl]
      rfl
   ·unfold laws_FnBestRides_b0
    rfl
  have hmr : rideR (ride a0 a1 g s mo) = (vm.1, me, true, ()) := by rw [hvm, ← hve]; rfl
  have e1 : rCmp .eql me me = true := by simp [rCmp]
  simp only [Option.bind_some, ib, sb, im, sm, flip3, flipM, rBeq_self, Bool.not_true, cond_false, neq_self, sameI_self bo (by omega), sameI_self mo (by omega), implRound_eq a0 a1 g s hgr, hro, hsame, hloop, Sum.elim_inr, Sum.elim_inl, implRideR a0 a1 g s mo hgr (by omega), hmr, cond_true, e1]
  cases hbf : bf with
  | false => rfl
  | true =>
   rw [hend hbf, neq_self]
   rfl
end Go.Fn
