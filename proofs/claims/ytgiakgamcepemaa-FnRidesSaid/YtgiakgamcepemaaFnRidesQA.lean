import Derived.Test.YtgiakgamcepemaaRE
import Derived.Lib.SlicesCompact
import Derived.Sort.AssemblyPlain
/- Plain functions that stand for Go functions, and what they answer. Conditions: none. -/
set_option autoImplicit false
set_option linter.unusedVariables false
set_option linter.unusedSimpArgs false
set_option linter.unusedVariables false
namespace Go.Fn
open Go.R
noncomputable def zIIIIIII : Int × Int × Int × Int × Int × Int × Int := ((0 : Int), (0 : Int), (0 : Int), (0 : Int), (0 : Int), (0 : Int), (0 : Int))
noncomputable def spec_l01In (a0 : Int) (a1 : Int) (a2 : Int) : Option (Bool × Unit) :=
 (bif (rCmp .geq a0 a1) then some ((rCmp .leq a0 a2), ()) else some (false, ()))
noncomputable def impl_within (a0 : Int) (a1 : Int) (a2 : Int) : Option (Bool × Unit) :=
 (bif (rCmp .geq a0 a1) then some ((rCmp .leq a0 a2), ()) else some (false, ()))
noncomputable def impl_timeOk (a0 : Int) : Option (Bool × Unit) :=
 ((impl_within a0 (0 : Int) (20000 : Int)).bind fun y0 => some (y0.1, ()))
end Go.Fn
set_option linter.unusedVariables false
namespace Go.Fn
open Go.R
noncomputable def zI : Int := (0 : Int)
end Go.Fn
set_option linter.unusedVariables false
namespace Go.Fn
open Go.R
noncomputable def zLIl : List (Int) := ([] : List (Int))
noncomputable def zIIIII : Int × Int × Int × Int × Int := ((0 : Int), (0 : Int), (0 : Int), (0 : Int), (0 : Int))
noncomputable def spec_RoundOk_b2 (k : Int × Int × (List (List (Int))) × (List (Int × Int × Int × Int × Int)) × Int × Unit) (x : Int × Unit) : Option ((Int × Unit) ⊕ (Bool × Unit ⊕ (Unit ⊕ Empty))) :=
 (bif (rCmp .lss x.1 (rLen k.2.2.1)) then (bif (rInR k.2.2.1 k.2.2.2.2.1) then (bif (rInR (rGet zLIl k.2.2.1 k.2.2.2.2.1) x.1) then ((spec_l01In (rGet zI (rGet zLIl k.2.2.1 k.2.2.2.2.1) x.1) (0 : Int) (200 : Int)).bind fun y0 => (bif (Bool.not y0.1) then some (.inr (.inl (false, ()))) else some (.inl ((rArith .add .i64 x.1 (1 : Int)), ())))) else none) else none) else some (.inr (.inr (.inl (())))))
noncomputable def spec_RoundOk_l2 (k : Int × Int × (List (List (Int))) × (List (Int × Int × Int × Int × Int)) × Int × Unit) (x : Int × Unit) : Option (Bool × Unit ⊕ (Unit ⊕ Empty)) := iter (spec_RoundOk_b2 k) big x
noncomputable def spec_RoundOk_b0 (k : Int × Int × (List (List (Int))) × (List (Int × Int × Int × Int × Int)) × Unit) (x : Int × Unit) : Option ((Int × Unit) ⊕ (Bool × Unit ⊕ (Unit ⊕ Empty))) :=
 (bif (rCmp .lss x.1 (rLen k.2.2.1)) then (bif (rInR k.2.2.1 x.1) then (bif (rCmp .neq (rLen (rGet zLIl k.2.2.1 x.1)) (rLen k.2.2.1)) then some (.inr (.inl (false, ()))) else ((spec_RoundOk_l2 (k.1, k.2.1, k.2.2.1, k.2.2.2.1, x.1, ()) ((0 : Int), ())).bind fun q0 => (Sum.elim (fun y1 => some (.inr (.inl (y1.1, ())))) (fun q2 => (Sum.elim (fun y3 => some (.inl ((rArith .add .i64 x.1 (1 : Int)), ()))) (fun q4 => (Empty.elim q4)) q2)) q0))) else none) else some (.inr (.inr (.inl (())))))
noncomputable def spec_RoundOk_l0 (k : Int × Int × (List (List (Int))) × (List (Int × Int × Int × Int × Int)) × Unit) (x : Int × Unit) : Option (Bool × Unit ⊕ (Unit ⊕ Empty)) := iter (spec_RoundOk_b0 k) big x
noncomputable def spec_RoundOk_b4 (k : Int × Int × (List (List (Int))) × (List (Int × Int × Int × Int × Int)) × Unit) (x : Int × Unit) : Option ((Int × Unit) ⊕ (Bool × Unit ⊕ (Unit ⊕ Empty))) :=
 (bif (rCmp .lss x.1 (rLen k.2.2.2.1)) then (bif (rInR k.2.2.2.1 x.1) then ((spec_l01In (rGet zIIIII k.2.2.2.1 x.1).2.1 (0 : Int) (20000 : Int)).bind fun y0 => (bif (Bool.not y0.1) then some (.inr (.inl (false, ()))) else ((spec_l01In (rGet zIIIII k.2.2.2.1 x.1).1 (0 : Int) (rGet zIIIII k.2.2.2.1 x.1).2.1).bind fun y1 => (bif (Bool.not y1.1) then some (.inr (.inl (false, ()))) else ((spec_l01In (rGet zIIIII k.2.2.2.1 x.1).2.2.1 (0 : Int) (200 : Int)).bind fun y2 => (bif (Bool.not y2.1) then some (.inr (.inl (false, ()))) else ((spec_l01In (rGet zIIIII k.2.2.2.1 x.1).2.2.2.1 (0 : Int) (1000 : Int)).bind fun y3 => (bif (Bool.not y3.1) then some (.inr (.inl (false, ()))) else ((spec_l01In (rGet zIIIII k.2.2.2.1 x.1).2.2.2.2 (0 : Int) (1000 : Int)).bind fun y4 => (bif (Bool.not y4.1) then some (.inr (.inl (false, ()))) else some (.inl ((rArith .add .i64 x.1 (1 : Int)), ())))))))))))) else none) else some (.inr (.inr (.inl (())))))
noncomputable def spec_RoundOk_l4 (k : Int × Int × (List (List (Int))) × (List (Int × Int × Int × Int × Int)) × Unit) (x : Int × Unit) : Option (Bool × Unit ⊕ (Unit ⊕ Empty)) := iter (spec_RoundOk_b4 k) big x
noncomputable def spec_RoundOk (a0 : Int) (a1 : Int) (a2 : (List (List (Int)))) (a3 : (List (Int × Int × Int × Int × Int))) : Option (Bool × Unit) :=
 ((spec_l01In a0 (0 : Int) (20000 : Int)).bind fun y0 => (bif (Bool.not y0.1) then some (false, ()) else ((spec_l01In a1 (0 : Int) (1000 : Int)).bind fun y1 => (bif (Bool.not y1.1) then some (false, ()) else (bif (rCmp .gtr (rLen a3) (6 : Int)) then some (false, ()) else (bif (rCmp .neq (rLen a2) (rArith .add .i64 (rLen a3) (1 : Int))) then some (false, ()) else ((spec_RoundOk_l0 (a0, a1, a2, a3, ()) ((0 : Int), ())).bind fun q2 => (Sum.elim (fun y3 => some (y3.1, ())) (fun q4 => (Sum.elim (fun y5 => ((spec_RoundOk_l4 (a0, a1, a2, a3, ()) ((0 : Int), ())).bind fun q6 => (Sum.elim (fun y7 => some (y7.1, ())) (fun q8 => (Sum.elim (fun y9 => some (true, ())) (fun q10 => (Empty.elim q10)) q8)) q6))) (fun q6 => (Empty.elim q6)) q4)) q2))))))))
noncomputable def impl_RoundOk_1 (a0 : Int) : Option (Bool × Unit) :=
 ((impl_within a0 (0 : Int) (200 : Int)).bind fun y0 => some ((Bool.not y0.1), ()))
noncomputable def slices_IndexFunc___int_int___impl_RoundOk_1_b0 (k : (List (Int)) × Int × Unit) (x : Int × Unit) : Option ((Int × Unit) ⊕ (Int × Unit ⊕ (Unit ⊕ Empty))) :=
 (bif (rCmp .lss x.1 k.2.1) then (bif (rInR k.1 x.1) then ((impl_RoundOk_1 (rGet zI k.1 x.1)).bind fun y0 => (bif y0.1 then some (.inr (.inl (x.1, ()))) else some (.inl ((rArith .add .i64 x.1 (1 : Int)), ())))) else none) else some (.inr (.inr (.inl (())))))
noncomputable def slices_IndexFunc___int_int___impl_RoundOk_1_l0 (k : (List (Int)) × Int × Unit) (x : Int × Unit) : Option (Int × Unit ⊕ (Unit ⊕ Empty)) := iter (slices_IndexFunc___int_int___impl_RoundOk_1_b0 k) big x
noncomputable def slices_IndexFunc___int_int___impl_RoundOk_1 (a0 : (List (Int))) : Option (Int × Unit) :=
 ((slices_IndexFunc___int_int___impl_RoundOk_1_l0 (a0, (rLen a0), ()) ((0 : Int), ())).bind fun q0 => (Sum.elim (fun y1 => some (y1.1, ())) (fun q2 => (Sum.elim (fun y3 => some ((-1 : Int), ())) (fun q4 => (Empty.elim q4)) q2)) q0))
noncomputable def slices_ContainsFunc___int_int___impl_RoundOk_1 (a0 : (List (Int))) : Option (Bool × Unit) :=
 ((slices_IndexFunc___int_int___impl_RoundOk_1 a0).bind fun y0 => some ((rCmp .geq y0.1 (0 : Int)), ()))
noncomputable def impl_RoundOk_b0 (k : Int × Int × (List (List (Int))) × (List (Int × Int × Int × Int × Int)) × (List (List (Int))) × Int × Unit) (x : Int × Unit) : Option ((Int × Unit) ⊕ (Bool × Unit ⊕ (Unit ⊕ Empty))) :=
 (bif (rCmp .lss x.1 k.2.2.2.2.2.1) then (bif (rInR k.2.2.2.2.1 x.1) then (bif (rCmp .neq (rLen (rGet zLIl k.2.2.2.2.1 x.1)) (rLen k.2.2.1)) then some (.inr (.inl (false, ()))) else ((slices_ContainsFunc___int_int___impl_RoundOk_1 (rGet zLIl k.2.2.2.2.1 x.1)).bind fun y0 => (bif y0.1 then some (.inr (.inl (false, ()))) else some (.inl ((rArith .add .i64 x.1 (1 : Int)), ()))))) else none) else some (.inr (.inr (.inl (())))))
noncomputable def impl_RoundOk_l0 (k : Int × Int × (List (List (Int))) × (List (Int × Int × Int × Int × Int)) × (List (List (Int))) × Int × Unit) (x : Int × Unit) : Option (Bool × Unit ⊕ (Unit ⊕ Empty)) := iter (impl_RoundOk_b0 k) big x
noncomputable def impl_RoundOk_b2 (k : (List (Int × Int × Int × Int × Int)) × Int × Unit) (x : Int × Unit) : Option ((Int × Unit) ⊕ (Bool × Unit ⊕ (Unit ⊕ Empty))) :=
 (bif (rCmp .lss x.1 k.2.1) then (bif (rInR k.1 x.1) then ((impl_timeOk (rGet zIIIII k.1 x.1).1).bind fun y0 => (bif (Bool.not y0.1) then some (.inr (.inl (false, ()))) else ((impl_timeOk (rGet zIIIII k.1 x.1).2.1).bind fun y1 => (bif (Bool.not y1.1) then some (.inr (.inl (false, ()))) else (bif (rCmp .gtr (rGet zIIIII k.1 x.1).1 (rGet zIIIII k.1 x.1).2.1) then some (.inr (.inl (false, ()))) else ((impl_within (rGet zIIIII k.1 x.1).2.2.1 (0 : Int) (200 : Int)).bind fun y2 => (bif (Bool.not y2.1) then some (.inr (.inl (false, ()))) else ((impl_within (rGet zIIIII k.1 x.1).2.2.2.1 (0 : Int) (1000 : Int)).bind fun y3 => (bif (Bool.not y3.1) then some (.inr (.inl (false, ()))) else ((impl_within (rGet zIIIII k.1 x.1).2.2.2.2 (0 : Int) (1000 : Int)).bind fun y4 => (bif (Bool.not y4.1) then some (.inr (.inl (false, ()))) else some (.inl ((rArith .add .i64 x.1 (1 : Int)), ()))))))))))))) else none) else some (.inr (.inr (.inl (())))))
noncomputable def impl_RoundOk_l2 (k : (List (Int × Int × Int × Int × Int)) × Int × Unit) (x : Int × Unit) : Option (Bool × Unit ⊕ (Unit ⊕ Empty)) := iter (impl_RoundOk_b2 k) big x
noncomputable def impl_RoundOk (a0 : Int) (a1 : Int) (a2 : (List (List (Int)))) (a3 : (List (Int × Int × Int × Int × Int))) : Option (Bool × Unit) :=
 ((impl_timeOk a0).bind fun y0 => (bif (Bool.not y0.1) then some (false, ()) else ((impl_within a1 (0 : Int) (1000 : Int)).bind fun y1 => (bif (Bool.not y1.1) then some (false, ()) else (bif (rCmp .gtr (rLen a3) (6 : Int)) then some (false, ()) else (bif (rCmp .neq (rLen a2) (rArith .add .i64 (rLen a3) (1 : Int))) then some (false, ()) else ((impl_RoundOk_l0 (a0, a1, a2, a3, a2, (rLen a2), ()) ((0 : Int), ())).bind fun q2 => (Sum.elim (fun y3 => some (y3.1, ())) (fun q4 => (Sum.elim (fun y5 => ((impl_RoundOk_l2 (a3, (rLen a3), ()) ((0 : Int), ())).bind fun q6 => (Sum.elim (fun y7 => some (y7.1, ())) (fun q8 => (Sum.elim (fun y9 => some (true, ())) (fun q10 => (Empty.elim q10)) q8)) q6))) (fun q6 => (Empty.elim q6)) q4)) q2))))))))
end Go.Fn
set_option linter.unusedVariables false
namespace Go.Fn
open Go.R
noncomputable def spec_l02Has_b0 (k : (List (Int)) × Int × Unit) (x : Int × Unit) : Option ((Int × Unit) ⊕ (Bool × Unit ⊕ (Unit ⊕ Empty))) :=
 (bif (rCmp .lss x.1 (rLen k.1)) then (bif (rInR k.1 x.1) then (bif (rCmp .eql (rGet zI k.1 x.1) k.2.1) then some (.inr (.inl (true, ()))) else some (.inl ((rArith .add .i64 x.1 (1 : Int)), ()))) else none) else some (.inr (.inr (.inl (())))))
noncomputable def spec_l02Has_l0 (k : (List (Int)) × Int × Unit) (x : Int × Unit) : Option (Bool × Unit ⊕ (Unit ⊕ Empty)) := iter (spec_l02Has_b0 k) big x
noncomputable def spec_l02Has (a0 : (List (Int))) (a1 : Int) : Option (Bool × Unit) :=
 ((spec_l02Has_l0 (a0, a1, ()) ((0 : Int), ())).bind fun q0 => (Sum.elim (fun y1 => some (y1.1, ())) (fun q2 => (Sum.elim (fun y3 => some (false, ())) (fun q4 => (Empty.elim q4)) q2)) q0))
noncomputable def spec_OrderOk_b0 (k : (List (Int)) × Int × Int × (List (List (Int))) × (List (Int × Int × Int × Int × Int)) × Unit) (x : Int × Unit) : Option ((Int × Unit) ⊕ (Bool × Unit ⊕ (Unit ⊕ Empty))) :=
 (bif (rCmp .lss x.1 (rLen k.1)) then (bif (rInR k.1 x.1) then ((spec_l01In (rGet zI k.1 x.1) (0 : Int) (rArith .sub .i64 (rLen k.2.2.2.2.1) (1 : Int))).bind fun y0 => (bif (Bool.not y0.1) then some (.inr (.inl (false, ()))) else (bif (rSubOk k.1 (0 : Int) x.1) then (bif (rInR k.1 x.1) then ((spec_l02Has (rSub k.1 (0 : Int) x.1) (rGet zI k.1 x.1)).bind fun y1 => (bif y1.1 then some (.inr (.inl (false, ()))) else some (.inl ((rArith .add .i64 x.1 (1 : Int)), ())))) else none) else none))) else none) else some (.inr (.inr (.inl (())))))
noncomputable def spec_OrderOk_l0 (k : (List (Int)) × Int × Int × (List (List (Int))) × (List (Int × Int × Int × Int × Int)) × Unit) (x : Int × Unit) : Option (Bool × Unit ⊕ (Unit ⊕ Empty)) := iter (spec_OrderOk_b0 k) big x
noncomputable def spec_OrderOk (a0 : Int) (a1 : Int) (a2 : (List (List (Int)))) (a3 : (List (Int × Int × Int × Int × Int))) (a4 : (List (Int))) : Option (Bool × Unit) :=
 ((spec_RoundOk a0 a1 a2 a3).bind fun y0 => (bif (Bool.not y0.1) then some (false, ()) else ((spec_OrderOk_l0 (a4, a0, a1, a2, a3, ()) ((0 : Int), ())).bind fun q1 => (Sum.elim (fun y2 => some (y2.1, ())) (fun q3 => (Sum.elim (fun y4 => some (true, ())) (fun q5 => (Empty.elim q5)) q3)) q1))))
noncomputable def slices_Index___int_int__b0 (k : (List (Int)) × Int × Int × Unit) (x : Int × Unit) : Option ((Int × Unit) ⊕ (Int × Unit ⊕ (Unit ⊕ Empty))) :=
 (bif (rCmp .lss x.1 k.2.2.1) then (bif (rInR k.1 x.1) then (bif (rCmp .eql k.2.1 (rGet zI k.1 x.1)) then some (.inr (.inl (x.1, ()))) else some (.inl ((rArith .add .i64 x.1 (1 : Int)), ()))) else none) else some (.inr (.inr (.inl (())))))
noncomputable def slices_Index___int_int__l0 (k : (List (Int)) × Int × Int × Unit) (x : Int × Unit) : Option (Int × Unit ⊕ (Unit ⊕ Empty)) := iter (slices_Index___int_int__b0 k) big x
noncomputable def slices_Index___int_int_ (a0 : (List (Int))) (a1 : Int) : Option (Int × Unit) :=
 ((slices_Index___int_int__l0 (a0, a1, (rLen a0), ()) ((0 : Int), ())).bind fun q0 => (Sum.elim (fun y1 => some (y1.1, ())) (fun q2 => (Sum.elim (fun y3 => some ((-1 : Int), ())) (fun q4 => (Empty.elim q4)) q2)) q0))
noncomputable def slices_Contains___int_int_ (a0 : (List (Int))) (a1 : Int) : Option (Bool × Unit) :=
 ((slices_Index___int_int_ a0 a1).bind fun y0 => some ((rCmp .geq y0.1 (0 : Int)), ()))
noncomputable def impl_OrderOk_b0 (k : (List (Int)) × Int × Int × (List (List (Int))) × (List (Int × Int × Int × Int × Int)) × (List (Int)) × Int × Unit) (x : Int × Unit) : Option ((Int × Unit) ⊕ (Bool × Unit ⊕ (Unit ⊕ Empty))) :=
 (bif (rCmp .lss x.1 k.2.2.2.2.2.2.1) then (bif (rInR k.2.2.2.2.2.1 x.1) then ((impl_within (rGet zI k.2.2.2.2.2.1 x.1) (0 : Int) (rArith .sub .i64 (rLen k.2.2.2.2.1) (1 : Int))).bind fun y0 => (bif (Bool.not y0.1) then some (.inr (.inl (false, ()))) else (bif (rSubOk k.1 (0 : Int) x.1) then ((slices_Contains___int_int_ (rSub k.1 (0 : Int) x.1) (rGet zI k.2.2.2.2.2.1 x.1)).bind fun y1 => (bif y1.1 then some (.inr (.inl (false, ()))) else some (.inl ((rArith .add .i64 x.1 (1 : Int)), ())))) else none))) else none) else some (.inr (.inr (.inl (())))))
noncomputable def impl_OrderOk_l0 (k : (List (Int)) × Int × Int × (List (List (Int))) × (List (Int × Int × Int × Int × Int)) × (List (Int)) × Int × Unit) (x : Int × Unit) : Option (Bool × Unit ⊕ (Unit ⊕ Empty)) := iter (impl_OrderOk_b0 k) big x
noncomputable def impl_OrderOk (a0 : Int) (a1 : Int) (a2 : (List (List (Int)))) (a3 : (List (Int × Int × Int × Int × Int))) (a4 : (List (Int))) : Option (Bool × Unit) :=
 ((impl_RoundOk a0 a1 a2 a3).bind fun y0 => (bif (Bool.not y0.1) then some (false, ()) else ((impl_OrderOk_l0 (a4, a0, a1, a2, a3, a4, (rLen a4), ()) ((0 : Int), ())).bind fun q1 => (Sum.elim (fun y2 => some (y2.1, ())) (fun q3 => (Sum.elim (fun y4 => some (true, ())) (fun q5 => (Empty.elim q5)) q3)) q1))))
noncomputable def spec_l07Drive_b0 (k : (List (Int)) × Int × Int × (List (List (Int))) × (List (Int × Int × Int × Int × Int)) × Unit) (x : (List (Int)) × Int × Int × Int × (List (Int)) × Int × Int × Int × Int × Int × Unit) : Option (((List (Int)) × Int × Int × Int × (List (Int)) × Int × Int × Int × Int × Int × Unit) ⊕ ((List (Int)) × Int × Int × Int × (List (Int)) × Int × Int × Int × Int × Unit ⊕ Empty)) :=
 (bif (rCmp .lss x.2.2.2.2.2.2.2.2.2.1 (rLen k.1)) then (bif (rInR k.1 x.2.2.2.2.2.2.2.2.2.1) then (bif (rInR k.2.2.2.2.1 (rGet zI k.1 x.2.2.2.2.2.2.2.2.2.1)) then some (.inl (x.1, x.2.1, x.2.2.1, x.2.2.2.1, x.2.2.2.2.1, x.2.2.2.2.2.1, x.2.2.2.2.2.2.1, x.2.2.2.2.2.2.2.1, (rArith .add .i64 x.2.2.2.2.2.2.2.2.1 (rGet zIIIII k.2.2.2.2.1 (rGet zI k.1 x.2.2.2.2.2.2.2.2.2.1)).2.2.2.1), (rArith .add .i64 x.2.2.2.2.2.2.2.2.2.1 (1 : Int)), ())) else none) else none) else some (.inr (.inl (x.1, x.2.1, x.2.2.1, x.2.2.2.1, x.2.2.2.2.1, x.2.2.2.2.2.1, x.2.2.2.2.2.2.1, x.2.2.2.2.2.2.2.1, x.2.2.2.2.2.2.2.2.1, ()))))
noncomputable def spec_l07Drive_l0 (k : (List (Int)) × Int × Int × (List (List (Int))) × (List (Int × Int × Int × Int × Int)) × Unit) (x : (List (Int)) × Int × Int × Int × (List (Int)) × Int × Int × Int × Int × Int × Unit) : Option ((List (Int)) × Int × Int × Int × (List (Int)) × Int × Int × Int × Int × Unit ⊕ Empty) := iter (spec_l07Drive_b0 k) big x
noncomputable def spec_l07Drive_b2 (k : (List (Int)) × Int × Int × (List (List (Int))) × (List (Int × Int × Int × Int × Int)) × Unit) (x : (List (Int)) × Int × Int × Int × (List (Int)) × Int × Int × Int × Int × Int × Int × Unit) : Option (((List (Int)) × Int × Int × Int × (List (Int)) × Int × Int × Int × Int × Int × Int × Unit) ⊕ ((List (Int)) × Int × Int × Int × Bool × Unit ⊕ ((List (Int)) × Int × Int × Int × (List (Int)) × Int × Int × Int × Int × Unit ⊕ Empty))) :=
 (bif (rCmp .lss x.2.2.2.2.2.2.2.2.2.2.1 (rLen k.1)) then (bif (rInR k.1 x.2.2.2.2.2.2.2.2.2.2.1) then (bif (rInR k.2.2.2.2.1 (rGet zI k.1 x.2.2.2.2.2.2.2.2.2.2.1)) then (bif (rInR k.2.2.2.1 x.2.2.2.2.2.2.2.2.2.1) then (bif (rInR k.1 x.2.2.2.2.2.2.2.2.2.2.1) then (bif (rInR (rGet zLIl k.2.2.2.1 x.2.2.2.2.2.2.2.2.2.1) (rArith .add .i64 (rGet zI k.1 x.2.2.2.2.2.2.2.2.2.2.1) (1 : Int))) then (lets (rCmp .gtr (rArith .add .i64 x.2.2.2.2.2.1 (rGet zI (rGet zLIl k.2.2.2.1 x.2.2.2.2.2.2.2.2.2.1) (rArith .add .i64 (rGet zI k.1 x.2.2.2.2.2.2.2.2.2.2.1) (1 : Int)))) (rGet zIIIII k.2.2.2.2.1 (rGet zI k.1 x.2.2.2.2.2.2.2.2.2.2.1)).2.1) fun v0 => (bif v0 then some (.inr (.inl (x.2.2.2.2.1, x.2.2.2.2.2.1, x.2.2.2.2.2.2.1, x.2.2.2.2.2.2.2.1, false, ()))) else (lets (rMxmn true (rArith .add .i64 x.2.2.2.2.2.1 (rGet zI (rGet zLIl k.2.2.2.1 x.2.2.2.2.2.2.2.2.2.1) (rArith .add .i64 (rGet zI k.1 x.2.2.2.2.2.2.2.2.2.2.1) (1 : Int)))) (rGet zIIIII k.2.2.2.2.1 (rGet zI k.1 x.2.2.2.2.2.2.2.2.2.2.1)).1) fun v1 => (bif (rSmall (List.append (α := Int) x.2.2.2.2.1 (List.append (α := Int) ([] : List (Int)) [v1]))) then (lets (rArith .sub .i64 (rArith .add .i64 x.2.2.2.2.2.2.2.1 v1) (rArith .add .i64 x.2.2.2.2.2.1 (rGet zI (rGet zLIl k.2.2.2.1 x.2.2.2.2.2.2.2.2.2.1) (rArith .add .i64 (rGet zI k.1 x.2.2.2.2.2.2.2.2.2.2.1) (1 : Int))))) fun v2 => (lets (rArith .add .i64 (rArith .sub .i64 x.2.2.2.2.2.2.2.2.1 (rGet zIIIII k.2.2.2.2.1 (rGet zI k.1 x.2.2.2.2.2.2.2.2.2.2.1)).2.2.2.1) (rGet zIIIII k.2.2.2.2.1 (rGet zI k.1 x.2.2.2.2.2.2.2.2.2.2.1)).2.2.2.2) fun v3 => (bif (rInR k.1 x.2.2.2.2.2.2.2.2.2.2.1) then some (.inl (x.1, x.2.1, x.2.2.1, x.2.2.2.1, (List.append (α := Int) x.2.2.2.2.1 (List.append (α := Int) ([] : List (Int)) [v1])), (rArith .add .i64 v1 (rGet zIIIII k.2.2.2.2.1 (rGet zI k.1 x.2.2.2.2.2.2.2.2.2.2.1)).2.2.1), (rMxmn true x.2.2.2.2.2.2.1 v3), v2, v3, (rArith .add .i64 (rGet zI k.1 x.2.2.2.2.2.2.2.2.2.2.1) (1 : Int)), (rArith .add .i64 x.2.2.2.2.2.2.2.2.2.2.1 (1 : Int)), ())) else none))) else none)))) else none) else none) else none) else none) else none) else some (.inr (.inr (.inl (x.1, x.2.1, x.2.2.1, x.2.2.2.1, x.2.2.2.2.1, x.2.2.2.2.2.1, x.2.2.2.2.2.2.1, x.2.2.2.2.2.2.2.1, x.2.2.2.2.2.2.2.2.2.1, ())))))
noncomputable def spec_l07Drive_l2 (k : (List (Int)) × Int × Int × (List (List (Int))) × (List (Int × Int × Int × Int × Int)) × Unit) (x : (List (Int)) × Int × Int × Int × (List (Int)) × Int × Int × Int × Int × Int × Int × Unit) : Option ((List (Int)) × Int × Int × Int × Bool × Unit ⊕ ((List (Int)) × Int × Int × Int × (List (Int)) × Int × Int × Int × Int × Unit ⊕ Empty)) := iter (spec_l07Drive_b2 k) big x
noncomputable def spec_l07Drive (a0 : Int) (a1 : Int) (a2 : (List (List (Int)))) (a3 : (List (Int × Int × Int × Int × Int))) (a4 : (List (Int))) : Option ((List (Int)) × Int × Int × Int × Bool × Unit) :=
 ((spec_OrderOk a0 a1 a2 a3 a4).bind fun y0 => (bif (Bool.not y0.1) then some (([] : List (Int)), a0, (0 : Int), (0 : Int), false, ()) else ((spec_l07Drive_l0 (a4, a0, a1, a2, a3, ()) (([] : List (Int)), (0 : Int), (0 : Int), (0 : Int), ([] : List (Int)), a0, (0 : Int), (0 : Int), (0 : Int), (0 : Int), ())).bind fun q1 => (Sum.elim (fun y2 => ((spec_l07Drive_l2 (a4, a0, a1, a2, a3, ()) (y2.1, y2.2.1, y2.2.2.1, y2.2.2.2.1, y2.2.2.2.2.1, y2.2.2.2.2.2.1, y2.2.2.2.2.2.2.2.2.1, y2.2.2.2.2.2.2.2.1, y2.2.2.2.2.2.2.2.2.1, (0 : Int), (0 : Int), ())).bind fun q3 => (Sum.elim (fun y4 => some (y4.1, y4.2.1, y4.2.2.1, y4.2.2.2.1, y4.2.2.2.2.1, ())) (fun q5 => (Sum.elim (fun y6 => (bif (rCmp .gtr (rLen a4) (0 : Int)) then (bif (rInR a2 y6.2.2.2.2.2.2.2.2.1) then (bif (rInR (rGet zLIl a2 y6.2.2.2.2.2.2.2.2.1) (0 : Int)) then some (y6.2.2.2.2.1, (rArith .add .i64 y6.2.2.2.2.2.1 (rGet zI (rGet zLIl a2 y6.2.2.2.2.2.2.2.2.1) (0 : Int))), y6.2.2.2.2.2.2.1, y6.2.2.2.2.2.2.2.1, (rCmp .leq y6.2.2.2.2.2.2.1 a1), ()) else none) else none) else some (y6.2.2.2.2.1, y6.2.2.2.2.2.1, y6.2.2.2.2.2.2.1, y6.2.2.2.2.2.2.2.1, (rCmp .leq y6.2.2.2.2.2.2.1 a1), ()))) (fun q7 => (Empty.elim q7)) q5)) q3))) (fun q3 => (Empty.elim q3)) q1))))
noncomputable def impl_ride_b0 (k : (List (Int)) × Int × Int × (List (List (Int))) × (List (Int × Int × Int × Int × Int)) × (List (Int)) × Int × Unit) (x : (List (Int)) × Int × Int × Int × Int × Int × Unit) : Option (((List (Int)) × Int × Int × Int × Int × Int × Unit) ⊕ ((List (Int)) × Int × Int × Int × Int × Unit ⊕ Empty)) :=
 (bif (rCmp .lss x.2.2.2.2.2.1 k.2.2.2.2.2.2.1) then (bif (rInR k.2.2.2.2.2.1 x.2.2.2.2.2.1) then (bif (rInR k.2.2.2.2.1 (rGet zI k.2.2.2.2.2.1 x.2.2.2.2.2.1)) then some (.inl (x.1, x.2.1, x.2.2.1, x.2.2.2.1, (rArith .add .i64 x.2.2.2.2.1 (rGet zIIIII k.2.2.2.2.1 (rGet zI k.2.2.2.2.2.1 x.2.2.2.2.2.1)).2.2.2.1), (rArith .add .i64 x.2.2.2.2.2.1 (1 : Int)), ())) else none) else none) else some (.inr (.inl (x.1, x.2.1, x.2.2.1, x.2.2.2.1, x.2.2.2.2.1, ()))))
noncomputable def impl_ride_l0 (k : (List (Int)) × Int × Int × (List (List (Int))) × (List (Int × Int × Int × Int × Int)) × (List (Int)) × Int × Unit) (x : (List (Int)) × Int × Int × Int × Int × Int × Unit) : Option ((List (Int)) × Int × Int × Int × Int × Unit ⊕ Empty) := iter (impl_ride_b0 k) big x
noncomputable def impl_ride_b2 (k : (List (Int)) × Int × Int × (List (List (Int))) × (List (Int × Int × Int × Int × Int)) × (List (Int)) × Int × Unit) (x : (List (Int)) × Int × Int × Int × Int × (List (Int)) × Int × Int × Int × Int × Int × Unit) : Option (((List (Int)) × Int × Int × Int × Int × (List (Int)) × Int × Int × Int × Int × Int × Unit) ⊕ ((List (Int)) × Int × Int × Int × Bool × Unit ⊕ ((List (Int)) × Int × Int × Int × (List (Int)) × Int × Int × Int × Int × Unit ⊕ Empty))) :=
 (bif (rCmp .lss x.2.2.2.2.2.2.2.2.2.2.1 k.2.2.2.2.2.2.1) then (bif (rInR k.2.2.2.2.2.1 x.2.2.2.2.2.2.2.2.2.2.1) then (bif (rInR k.2.2.2.2.1 (rGet zI k.2.2.2.2.2.1 x.2.2.2.2.2.2.2.2.2.2.1)) then (bif (rInR k.2.2.2.1 x.2.2.2.2.2.2.2.2.2.1) then (bif (rInR (rGet zLIl k.2.2.2.1 x.2.2.2.2.2.2.2.2.2.1) (rArith .add .i64 (rGet zI k.2.2.2.2.2.1 x.2.2.2.2.2.2.2.2.2.2.1) (1 : Int))) then (lets (rArith .add .i64 x.2.2.2.2.2.2.1 (rGet zI (rGet zLIl k.2.2.2.1 x.2.2.2.2.2.2.2.2.2.1) (rArith .add .i64 (rGet zI k.2.2.2.2.2.1 x.2.2.2.2.2.2.2.2.2.2.1) (1 : Int)))) fun v0 => (bif (rCmp .gtr v0 (rGet zIIIII k.2.2.2.2.1 (rGet zI k.2.2.2.2.2.1 x.2.2.2.2.2.2.2.2.2.2.1)).2.1) then some (.inr (.inl (([] : List (Int)), (0 : Int), (0 : Int), (0 : Int), false, ()))) else (bif (rSmall (List.append (α := Int) x.2.2.2.2.2.1 (List.append (α := Int) ([] : List (Int)) [(rMxmn true v0 (rGet zIIIII k.2.2.2.2.1 (rGet zI k.2.2.2.2.2.1 x.2.2.2.2.2.2.2.2.2.2.1)).1)]))) then (lets (rArith .sub .i64 (rGet zIIIII k.2.2.2.2.1 (rGet zI k.2.2.2.2.2.1 x.2.2.2.2.2.2.2.2.2.2.1)).2.2.2.2 (rGet zIIIII k.2.2.2.2.1 (rGet zI k.2.2.2.2.2.1 x.2.2.2.2.2.2.2.2.2.2.1)).2.2.2.1) fun v1 => (lets (rArith .add .i64 (rMxmn true v0 (rGet zIIIII k.2.2.2.2.1 (rGet zI k.2.2.2.2.2.1 x.2.2.2.2.2.2.2.2.2.2.1)).1) (rGet zIIIII k.2.2.2.2.1 (rGet zI k.2.2.2.2.2.1 x.2.2.2.2.2.2.2.2.2.2.1)).2.2.1) fun v2 => some (.inl (x.1, x.2.1, x.2.2.1, x.2.2.2.1, (rArith .add .i64 x.2.2.2.2.1 v1), (List.append (α := Int) x.2.2.2.2.2.1 (List.append (α := Int) ([] : List (Int)) [(rMxmn true v0 (rGet zIIIII k.2.2.2.2.1 (rGet zI k.2.2.2.2.2.1 x.2.2.2.2.2.2.2.2.2.2.1)).1)])), v2, (rMxmn true x.2.2.2.2.2.2.2.1 (rArith .add .i64 x.2.2.2.2.1 v1)), (rArith .add .i64 x.2.2.2.2.2.2.2.2.1 (rArith .sub .i64 (rMxmn true v0 (rGet zIIIII k.2.2.2.2.1 (rGet zI k.2.2.2.2.2.1 x.2.2.2.2.2.2.2.2.2.2.1)).1) v0)), (rArith .add .i64 (rGet zI k.2.2.2.2.2.1 x.2.2.2.2.2.2.2.2.2.2.1) (1 : Int)), (rArith .add .i64 x.2.2.2.2.2.2.2.2.2.2.1 (1 : Int)), ())))) else none))) else none) else none) else none) else none) else some (.inr (.inr (.inl (x.1, x.2.1, x.2.2.1, x.2.2.2.1, x.2.2.2.2.2.1, x.2.2.2.2.2.2.1, x.2.2.2.2.2.2.2.1, x.2.2.2.2.2.2.2.2.1, x.2.2.2.2.2.2.2.2.2.1, ())))))
noncomputable def impl_ride_l2 (k : (List (Int)) × Int × Int × (List (List (Int))) × (List (Int × Int × Int × Int × Int)) × (List (Int)) × Int × Unit) (x : (List (Int)) × Int × Int × Int × Int × (List (Int)) × Int × Int × Int × Int × Int × Unit) : Option ((List (Int)) × Int × Int × Int × Bool × Unit ⊕ ((List (Int)) × Int × Int × Int × (List (Int)) × Int × Int × Int × Int × Unit ⊕ Empty)) := iter (impl_ride_b2 k) big x
noncomputable def impl_ride (a0 : Int) (a1 : Int) (a2 : (List (List (Int)))) (a3 : (List (Int × Int × Int × Int × Int))) (a4 : (List (Int))) : Option ((List (Int)) × Int × Int × Int × Bool × Unit) :=
 ((impl_OrderOk a0 a1 a2 a3 a4).bind fun y0 => (bif (Bool.not y0.1) then some (([] : List (Int)), (0 : Int), (0 : Int), (0 : Int), false, ()) else ((impl_ride_l0 (a4, a0, a1, a2, a3, a4, (rLen a4), ()) (([] : List (Int)), (0 : Int), (0 : Int), (0 : Int), (0 : Int), (0 : Int), ())).bind fun q1 => (Sum.elim (fun y2 => ((impl_ride_l2 (a4, a0, a1, a2, a3, a4, (rLen a4), ()) (y2.1, y2.2.1, y2.2.2.1, y2.2.2.2.1, y2.2.2.2.2.1, ([] : List (Int)), a0, y2.2.2.2.2.1, (0 : Int), (0 : Int), (0 : Int), ())).bind fun q3 => (Sum.elim (fun y4 => some (y4.1, y4.2.1, y4.2.2.1, y4.2.2.2.1, y4.2.2.2.2.1, ())) (fun q5 => (Sum.elim (fun y6 => (bif (rInR a2 y6.2.2.2.2.2.2.2.2.1) then (bif (rInR (rGet zLIl a2 y6.2.2.2.2.2.2.2.2.1) (0 : Int)) then (bif (rCmp .gtr y6.2.2.2.2.2.2.1 a1) then some (([] : List (Int)), (0 : Int), (0 : Int), (0 : Int), false, ()) else some (y6.2.2.2.2.1, (rArith .add .i64 y6.2.2.2.2.2.1 (rArith .mul .i64 (rGet zI (rGet zLIl a2 y6.2.2.2.2.2.2.2.2.1) (0 : Int)) (rMxmn false (1 : Int) (rLen a4)))), y6.2.2.2.2.2.2.1, y6.2.2.2.2.2.2.2.1, true, ())) else none) else none)) (fun q7 => (Empty.elim q7)) q5)) q3))) (fun q3 => (Empty.elim q3)) q1))))
noncomputable def impl_PeakOf (a0 : Int) (a1 : Int) (a2 : (List (List (Int)))) (a3 : (List (Int × Int × Int × Int × Int))) (a4 : (List (Int))) : Option (Int × Unit) :=
 ((impl_ride a0 a1 a2 a3 a4).bind fun y0 => (bif (Bool.not y0.2.2.2.2.1) then some ((-1 : Int), ()) else some (y0.2.2.1, ())))
noncomputable def impl_WaitOf (a0 : Int) (a1 : Int) (a2 : (List (List (Int)))) (a3 : (List (Int × Int × Int × Int × Int))) (a4 : (List (Int))) : Option (Int × Unit) :=
 ((impl_ride a0 a1 a2 a3 a4).bind fun y0 => (bif (Bool.not y0.2.2.2.2.1) then some ((-1 : Int), ()) else some (y0.2.2.2.1, ())))
noncomputable def spec_LatestBegin_b0 (k : (List (Int)) × Unit) (x : Int × Int × (List (List (Int))) × (List (Int × Int × Int × Int × Int)) × Int × Int × Unit) : Option ((Int × Int × (List (List (Int))) × (List (Int × Int × Int × Int × Int)) × Int × Int × Unit) ⊕ (Int × Unit ⊕ Empty)) :=
 (bif (rCmp .gtr (rArith .sub .i64 x.2.2.2.2.2.1 x.2.2.2.2.1) (1 : Int)) then (bif (rIsZero (2 : Int)) then none else ((spec_l07Drive (rArith .quo .i64 (rArith .add .i64 x.2.2.2.2.1 x.2.2.2.2.2.1) (2 : Int)) x.2.1 x.2.2.1 x.2.2.2.1 k.1).bind fun y0 => (bif y0.2.2.2.2.1 then some (.inl ((rArith .quo .i64 (rArith .add .i64 x.2.2.2.2.1 x.2.2.2.2.2.1) (2 : Int)), x.2.1, x.2.2.1, x.2.2.2.1, (rArith .quo .i64 (rArith .add .i64 x.2.2.2.2.1 x.2.2.2.2.2.1) (2 : Int)), x.2.2.2.2.2.1, ())) else some (.inl ((rArith .quo .i64 (rArith .add .i64 x.2.2.2.2.1 x.2.2.2.2.2.1) (2 : Int)), x.2.1, x.2.2.1, x.2.2.2.1, x.2.2.2.2.1, (rArith .quo .i64 (rArith .add .i64 x.2.2.2.2.1 x.2.2.2.2.2.1) (2 : Int)), ()))))) else some (.inr (.inl (x.2.2.2.2.1, ()))))
noncomputable def spec_LatestBegin_l0 (k : (List (Int)) × Unit) (x : Int × Int × (List (List (Int))) × (List (Int × Int × Int × Int × Int)) × Int × Int × Unit) : Option (Int × Unit ⊕ Empty) := iter (spec_LatestBegin_b0 k) big x
noncomputable def spec_LatestBegin (a0 : Int) (a1 : Int) (a2 : (List (List (Int)))) (a3 : (List (Int × Int × Int × Int × Int))) (a4 : (List (Int))) : Option (Int × Bool × Unit) :=
 ((spec_OrderOk a0 a1 a2 a3 a4).bind fun y0 => (bif (Bool.not y0.1) then some ((0 : Int), false, ()) else ((spec_LatestBegin_l0 (a4, ()) (a0, a1, a2, a3, (-1 : Int), (20001 : Int), ())).bind fun q1 => (Sum.elim (fun y2 => (bif (rCmp .lss y2.1 (0 : Int)) then some ((0 : Int), false, ()) else some (y2.1, true, ()))) (fun q3 => (Empty.elim q3)) q1))))
noncomputable def impl_LatestBegin_b0 (k : (List (Int)) × Unit) (x : Int × Int × (List (List (Int))) × (List (Int × Int × Int × Int × Int)) × Int × Unit) : Option ((Int × Int × (List (List (Int))) × (List (Int × Int × Int × Int × Int)) × Int × Unit) ⊕ (Int × Bool × Unit ⊕ (Unit ⊕ Empty))) :=
 (bif (rCmp .geq x.2.2.2.2.1 (0 : Int)) then ((impl_ride x.2.2.2.2.1 x.2.1 x.2.2.1 x.2.2.2.1 k.1).bind fun y0 => (bif y0.2.2.2.2.1 then some (.inr (.inl (x.2.2.2.2.1, true, ()))) else some (.inl (x.2.2.2.2.1, x.2.1, x.2.2.1, x.2.2.2.1, (rArith .sub .i64 x.2.2.2.2.1 (1 : Int)), ())))) else some (.inr (.inr (.inl (())))))
noncomputable def impl_LatestBegin_l0 (k : (List (Int)) × Unit) (x : Int × Int × (List (List (Int))) × (List (Int × Int × Int × Int × Int)) × Int × Unit) : Option (Int × Bool × Unit ⊕ (Unit ⊕ Empty)) := iter (impl_LatestBegin_b0 k) big x
noncomputable def impl_LatestBegin (a0 : Int) (a1 : Int) (a2 : (List (List (Int)))) (a3 : (List (Int × Int × Int × Int × Int))) (a4 : (List (Int))) : Option (Int × Bool × Unit) :=
 ((impl_OrderOk a0 a1 a2 a3 a4).bind fun y0 => (bif (Bool.not y0.1) then some ((0 : Int), false, ()) else ((impl_LatestBegin_l0 (a4, ()) (a0, a1, a2, a3, (20000 : Int), ())).bind fun q1 => (Sum.elim (fun y2 => some (y2.1, y2.2.1, ())) (fun q3 => (Sum.elim (fun y4 => some ((0 : Int), false, ())) (fun q5 => (Empty.elim q5)) q3)) q1))))
end Go.Fn
set_option linter.unusedVariables false
namespace Go.Fn
open Go.R
noncomputable def laws_big (a0 : (List (Int))) : Option (Bool × Unit) :=
 some ((rCmp .gtr (rLen a0) (1048576 : Int)), ())
noncomputable def spec_l01New_b0 (k : (List (Int)) × Unit) (x : Int × Int × Unit) : Option ((Int × Int × Unit) ⊕ (Int × Unit ⊕ Empty)) :=
 (bif (rCmp .lss x.2.1 (rLen k.1)) then (bif (rCmp .lss x.2.1 (4000 : Int)) then (bif (rInR k.1 x.2.1) then some (.inl ((rArith .and .i64 (rArith .add .i64 (rArith .add .i64 (rArith .mul .i64 x.1 (131 : Int)) (rConv .i64 (rGet zI k.1 x.2.1))) (7 : Int)) (1073741823 : Int)), (rArith .add .i64 x.2.1 (1 : Int)), ())) else none) else some (.inr (.inl (x.1, ())))) else some (.inr (.inl (x.1, ()))))
noncomputable def spec_l01New_l0 (k : (List (Int)) × Unit) (x : Int × Int × Unit) : Option (Int × Unit ⊕ Empty) := iter (spec_l01New_b0 k) big x
noncomputable def spec_l01New (a0 : (List (Int))) : Option ((List (Int)) × Int × Int × Unit) :=
 ((spec_l01New_l0 (a0, ()) ((rArith .add .i64 (33183 : Int) (rLen a0)), (0 : Int), ())).bind fun q0 => (Sum.elim (fun y1 => some (a0, (0 : Int), y1.1, ())) (fun q2 => (Empty.elim q2)) q0))
noncomputable def spec_l01Byte (a0 : (List (Int))) (a1 : Int) (a2 : Int) : Option (Int × (List (Int)) × Int × Int × Unit) :=
 (bif (rIsNeg (33 : Int)) then none else (bif (rIsNeg (45 : Int)) then none else (lets (rArith .xor .i64 (rShift .shr .i64 (rArith .add .i64 (rArith .mul .i64 a2 (6364136223846793005 : Int)) (1442695040888963407 : Int)) (33 : Int)) (rShift .shr .i64 (rArith .add .i64 (rArith .mul .i64 a2 (6364136223846793005 : Int)) (1442695040888963407 : Int)) (45 : Int))) fun v0 => (bif (rCmp .lss a1 (rLen a0)) then (bif (rInR a0 a1) then some ((rArith .and .i64 (rArith .add .i64 (rArith .and .i64 v0 (255 : Int)) (rConv .i64 (rGet zI a0 a1))) (255 : Int)), a0, (rArith .add .i64 a1 (1 : Int)), (rArith .add .i64 (rArith .mul .i64 a2 (6364136223846793005 : Int)) (1442695040888963407 : Int)), ()) else none) else some ((rArith .and .i64 v0 (255 : Int)), a0, a1, (rArith .add .i64 (rArith .mul .i64 a2 (6364136223846793005 : Int)) (1442695040888963407 : Int)), ())))))
noncomputable def spec_l01Below (a0 : (List (Int))) (a1 : Int) (a2 : Int) (a3 : Int) : Option (Int × (List (Int)) × Int × Int × Unit) :=
 (bif (rCmp .leq a3 (0 : Int)) then some ((0 : Int), a0, a1, a2, ()) else (bif (rCmp .leq a3 (256 : Int)) then ((spec_l01Byte a0 a1 a2).bind fun y0 => (bif (rIsZero a3) then none else some ((rArith .rem .i64 y0.1 a3), y0.2.1, y0.2.2.1, y0.2.2.2.1, ()))) else ((spec_l01Byte a0 a1 a2).bind fun y0 => ((spec_l01Byte y0.2.1 y0.2.2.1 y0.2.2.2.1).bind fun y1 => ((spec_l01Byte y1.2.1 y1.2.2.1 y1.2.2.2.1).bind fun y2 => ((spec_l01Byte y2.2.1 y2.2.2.1 y2.2.2.2.1).bind fun y3 => (lets (rArith .add .i64 (rArith .add .i64 (rArith .add .i64 (rArith .mul .i64 y0.1 (16777216 : Int)) (rArith .mul .i64 y1.1 (65536 : Int))) (rArith .mul .i64 y2.1 (256 : Int))) y3.1) fun v4 => (bif (rIsZero a3) then none else some ((rArith .rem .i64 v4 a3), y3.2.1, y3.2.2.1, y3.2.2.2.1, ())))))))))
noncomputable def spec_l01PickInt (a0 : (List (Int))) (a1 : Int) (a2 : Int) (a3 : (List (Int))) : Option (Int × (List (Int)) × Int × Int × Unit) :=
 ((spec_l01Below a0 a1 a2 (rLen a3)).bind fun y0 => (bif (rInR a3 y0.1) then some ((rGet zI a3 y0.1), y0.2.1, y0.2.2.1, y0.2.2.2.1, ()) else none))
noncomputable def spec_l01Once (a0 : (List (Int))) (a1 : Int) (a2 : Int) (a3 : Int) : Option (Bool × (List (Int)) × Int × Int × Unit) :=
 ((spec_l01Below a0 a1 a2 a3).bind fun y0 => some ((rCmp .eql y0.1 (0 : Int)), y0.2.1, y0.2.2.1, y0.2.2.2.1, ()))
end Go.Fn
set_option linter.unusedVariables false
namespace Go.Fn
open Go.R
noncomputable def spec_l07Round_b0 (k : Int × Bool × Unit) (x : (List (Int)) × Int × Int × Int × Int × (List (List (Int))) × (List (Int × Int × Int × Int × Int)) × Int × Int × (List (List (Int))) × (List (Int × Int × Int × Int × Int)) × (List (Int)) × Int × Unit) : Option (((List (Int)) × Int × Int × Int × Int × (List (List (Int))) × (List (Int × Int × Int × Int × Int)) × Int × Int × (List (List (Int))) × (List (Int × Int × Int × Int × Int)) × (List (Int)) × Int × Unit) ⊕ ((List (Int)) × Int × Int × Int × Int × (List (List (Int))) × (List (Int × Int × Int × Int × Int)) × Int × Int × (List (List (Int))) × (List (Int × Int × Int × Int × Int)) × (List (Int)) × Unit ⊕ Empty)) :=
 (bif (rCmp .leq x.2.2.2.2.2.2.2.2.2.2.2.2.1 k.1) then ((spec_l01Below x.1 x.2.1 x.2.2.1 (9 : Int)).bind fun y0 => (bif (rSmall (List.append (α := Int) x.2.2.2.2.2.2.2.2.2.2.2.1 (List.append (α := Int) ([] : List (Int)) [y0.1]))) then some (.inl (y0.2.1, y0.2.2.1, y0.2.2.2.1, x.2.2.2.1, x.2.2.2.2.1, x.2.2.2.2.2.1, x.2.2.2.2.2.2.1, x.2.2.2.2.2.2.2.1, x.2.2.2.2.2.2.2.2.1, x.2.2.2.2.2.2.2.2.2.1, x.2.2.2.2.2.2.2.2.2.2.1, (List.append (α := Int) x.2.2.2.2.2.2.2.2.2.2.2.1 (List.append (α := Int) ([] : List (Int)) [y0.1])), (rArith .add .i64 x.2.2.2.2.2.2.2.2.2.2.2.2.1 (1 : Int)), ())) else none)) else some (.inr (.inl (x.1, x.2.1, x.2.2.1, x.2.2.2.1, x.2.2.2.2.1, x.2.2.2.2.2.1, x.2.2.2.2.2.2.1, x.2.2.2.2.2.2.2.1, x.2.2.2.2.2.2.2.2.1, x.2.2.2.2.2.2.2.2.2.1, x.2.2.2.2.2.2.2.2.2.2.1, x.2.2.2.2.2.2.2.2.2.2.2.1, ()))))
noncomputable def spec_l07Round_l0 (k : Int × Bool × Unit) (x : (List (Int)) × Int × Int × Int × Int × (List (List (Int))) × (List (Int × Int × Int × Int × Int)) × Int × Int × (List (List (Int))) × (List (Int × Int × Int × Int × Int)) × (List (Int)) × Int × Unit) : Option ((List (Int)) × Int × Int × Int × Int × (List (List (Int))) × (List (Int × Int × Int × Int × Int)) × Int × Int × (List (List (Int))) × (List (Int × Int × Int × Int × Int)) × (List (Int)) × Unit ⊕ Empty) := iter (spec_l07Round_b0 k) big x
noncomputable def spec_l07Round_b4 (k : Int × Bool × Int × Unit) (x : (List (Int)) × Int × Int × Int × Int × (List (List (Int))) × (List (Int × Int × Int × Int × Int)) × Int × Int × (List (List (Int))) × (List (Int × Int × Int × Int × Int)) × (List (Int)) × (List (Int)) × Int × Unit) : Option (((List (Int)) × Int × Int × Int × Int × (List (List (Int))) × (List (Int × Int × Int × Int × Int)) × Int × Int × (List (List (Int))) × (List (Int × Int × Int × Int × Int)) × (List (Int)) × (List (Int)) × Int × Unit) ⊕ ((List (Int)) × Int × Int × Int × Int × (List (List (Int))) × (List (Int × Int × Int × Int × Int)) × Int × Int × (List (List (Int))) × (List (Int × Int × Int × Int × Int)) × (List (Int)) × (List (Int)) × Unit ⊕ Empty)) :=
 (bif (rCmp .leq x.2.2.2.2.2.2.2.2.2.2.2.2.2.1 k.1) then (bif (rInR x.2.2.2.2.2.2.2.2.2.2.2.1 k.2.2.1) then (bif (rInR x.2.2.2.2.2.2.2.2.2.2.2.1 x.2.2.2.2.2.2.2.2.2.2.2.2.2.1) then (bif (rInR x.2.2.2.2.2.2.2.2.2.2.2.1 x.2.2.2.2.2.2.2.2.2.2.2.2.2.1) then (bif (rInR x.2.2.2.2.2.2.2.2.2.2.2.1 k.2.2.1) then (lets (rMxmn true (rArith .sub .i64 (rGet zI x.2.2.2.2.2.2.2.2.2.2.2.1 k.2.2.1) (rGet zI x.2.2.2.2.2.2.2.2.2.2.2.1 x.2.2.2.2.2.2.2.2.2.2.2.2.2.1)) (rArith .sub .i64 (rGet zI x.2.2.2.2.2.2.2.2.2.2.2.1 x.2.2.2.2.2.2.2.2.2.2.2.2.2.1) (rGet zI x.2.2.2.2.2.2.2.2.2.2.2.1 k.2.2.1))) fun v0 => (bif (Bool.not k.2.1) then ((spec_l01Below x.1 x.2.1 x.2.2.1 (9 : Int)).bind fun y1 => (bif (rSmall (List.append (α := Int) x.2.2.2.2.2.2.2.2.2.2.2.2.1 (List.append (α := Int) ([] : List (Int)) [y1.1]))) then some (.inl (y1.2.1, y1.2.2.1, y1.2.2.2.1, x.2.2.2.1, x.2.2.2.2.1, x.2.2.2.2.2.1, x.2.2.2.2.2.2.1, x.2.2.2.2.2.2.2.1, x.2.2.2.2.2.2.2.2.1, x.2.2.2.2.2.2.2.2.2.1, x.2.2.2.2.2.2.2.2.2.2.1, x.2.2.2.2.2.2.2.2.2.2.2.1, (List.append (α := Int) x.2.2.2.2.2.2.2.2.2.2.2.2.1 (List.append (α := Int) ([] : List (Int)) [y1.1])), (rArith .add .i64 x.2.2.2.2.2.2.2.2.2.2.2.2.2.1 (1 : Int)), ())) else none)) else (bif (rSmall (List.append (α := Int) x.2.2.2.2.2.2.2.2.2.2.2.2.1 (List.append (α := Int) ([] : List (Int)) [v0]))) then some (.inl (x.1, x.2.1, x.2.2.1, x.2.2.2.1, x.2.2.2.2.1, x.2.2.2.2.2.1, x.2.2.2.2.2.2.1, x.2.2.2.2.2.2.2.1, x.2.2.2.2.2.2.2.2.1, x.2.2.2.2.2.2.2.2.2.1, x.2.2.2.2.2.2.2.2.2.2.1, x.2.2.2.2.2.2.2.2.2.2.2.1, (List.append (α := Int) x.2.2.2.2.2.2.2.2.2.2.2.2.1 (List.append (α := Int) ([] : List (Int)) [v0])), (rArith .add .i64 x.2.2.2.2.2.2.2.2.2.2.2.2.2.1 (1 : Int)), ())) else none))) else none) else none) else none) else none) else some (.inr (.inl (x.1, x.2.1, x.2.2.1, x.2.2.2.1, x.2.2.2.2.1, x.2.2.2.2.2.1, x.2.2.2.2.2.2.1, x.2.2.2.2.2.2.2.1, x.2.2.2.2.2.2.2.2.1, x.2.2.2.2.2.2.2.2.2.1, x.2.2.2.2.2.2.2.2.2.2.1, x.2.2.2.2.2.2.2.2.2.2.2.1, x.2.2.2.2.2.2.2.2.2.2.2.2.1, ()))))
noncomputable def spec_l07Round_l4 (k : Int × Bool × Int × Unit) (x : (List (Int)) × Int × Int × Int × Int × (List (List (Int))) × (List (Int × Int × Int × Int × Int)) × Int × Int × (List (List (Int))) × (List (Int × Int × Int × Int × Int)) × (List (Int)) × (List (Int)) × Int × Unit) : Option ((List (Int)) × Int × Int × Int × Int × (List (List (Int))) × (List (Int × Int × Int × Int × Int)) × Int × Int × (List (List (Int))) × (List (Int × Int × Int × Int × Int)) × (List (Int)) × (List (Int)) × Unit ⊕ Empty) := iter (spec_l07Round_b4 k) big x
noncomputable def spec_l07Round_b2 (k : Int × Bool × Unit) (x : (List (Int)) × Int × Int × Int × Int × (List (List (Int))) × (List (Int × Int × Int × Int × Int)) × Int × Int × (List (List (Int))) × (List (Int × Int × Int × Int × Int)) × (List (Int)) × Int × Unit) : Option (((List (Int)) × Int × Int × Int × Int × (List (List (Int))) × (List (Int × Int × Int × Int × Int)) × Int × Int × (List (List (Int))) × (List (Int × Int × Int × Int × Int)) × (List (Int)) × Int × Unit) ⊕ ((List (Int)) × Int × Int × Int × Int × (List (List (Int))) × (List (Int × Int × Int × Int × Int)) × Int × Int × (List (List (Int))) × (List (Int × Int × Int × Int × Int)) × Unit ⊕ Empty)) :=
 (bif (rCmp .leq x.2.2.2.2.2.2.2.2.2.2.2.2.1 k.1) then ((spec_l07Round_l4 (k.1, k.2.1, x.2.2.2.2.2.2.2.2.2.2.2.2.1, ()) (x.1, x.2.1, x.2.2.1, x.2.2.2.1, x.2.2.2.2.1, x.2.2.2.2.2.1, x.2.2.2.2.2.2.1, x.2.2.2.2.2.2.2.1, x.2.2.2.2.2.2.2.2.1, x.2.2.2.2.2.2.2.2.2.1, x.2.2.2.2.2.2.2.2.2.2.1, x.2.2.2.2.2.2.2.2.2.2.2.1, ([] : List (Int)), (0 : Int), ())).bind fun q0 => (Sum.elim (fun y1 => (bif (rSmall (List.append (α := List (Int)) y1.2.2.2.2.2.2.2.2.2.1 (List.append (α := List (Int)) ([] : List (List (Int))) [y1.2.2.2.2.2.2.2.2.2.2.2.2.1]))) then some (.inl (y1.1, y1.2.1, y1.2.2.1, y1.2.2.2.1, y1.2.2.2.2.1, y1.2.2.2.2.2.1, y1.2.2.2.2.2.2.1, y1.2.2.2.2.2.2.2.1, y1.2.2.2.2.2.2.2.2.1, (List.append (α := List (Int)) y1.2.2.2.2.2.2.2.2.2.1 (List.append (α := List (Int)) ([] : List (List (Int))) [y1.2.2.2.2.2.2.2.2.2.2.2.2.1])), y1.2.2.2.2.2.2.2.2.2.2.1, y1.2.2.2.2.2.2.2.2.2.2.2.1, (rArith .add .i64 x.2.2.2.2.2.2.2.2.2.2.2.2.1 (1 : Int)), ())) else none)) (fun q2 => (Empty.elim q2)) q0)) else some (.inr (.inl (x.1, x.2.1, x.2.2.1, x.2.2.2.1, x.2.2.2.2.1, x.2.2.2.2.2.1, x.2.2.2.2.2.2.1, x.2.2.2.2.2.2.2.1, x.2.2.2.2.2.2.2.2.1, x.2.2.2.2.2.2.2.2.2.1, x.2.2.2.2.2.2.2.2.2.2.1, ()))))
noncomputable def spec_l07Round_l2 (k : Int × Bool × Unit) (x : (List (Int)) × Int × Int × Int × Int × (List (List (Int))) × (List (Int × Int × Int × Int × Int)) × Int × Int × (List (List (Int))) × (List (Int × Int × Int × Int × Int)) × (List (Int)) × Int × Unit) : Option ((List (Int)) × Int × Int × Int × Int × (List (List (Int))) × (List (Int × Int × Int × Int × Int)) × Int × Int × (List (List (Int))) × (List (Int × Int × Int × Int × Int)) × Unit ⊕ Empty) := iter (spec_l07Round_b2 k) big x
noncomputable def spec_l07Round_b6 (k : Int × Unit) (x : (List (Int)) × Int × Int × Int × Int × (List (List (Int))) × (List (Int × Int × Int × Int × Int)) × Int × Int × (List (List (Int))) × (List (Int × Int × Int × Int × Int)) × Int × Unit) : Option (((List (Int)) × Int × Int × Int × Int × (List (List (Int))) × (List (Int × Int × Int × Int × Int)) × Int × Int × (List (List (Int))) × (List (Int × Int × Int × Int × Int)) × Int × Unit) ⊕ ((List (Int)) × Int × Int × Int × Int × (List (List (Int))) × (List (Int × Int × Int × Int × Int)) × Int × Int × (List (List (Int))) × (List (Int × Int × Int × Int × Int)) × Unit ⊕ Empty)) :=
 (bif (rCmp .lss x.2.2.2.2.2.2.2.2.2.2.2.1 k.1) then ((spec_l01Below x.1 x.2.1 x.2.2.1 (50 : Int)).bind fun y0 => ((spec_l01Below y0.2.1 y0.2.2.1 y0.2.2.2.1 (60 : Int)).bind fun y1 => ((spec_l01Below y1.2.1 y1.2.2.1 y1.2.2.2.1 (4 : Int)).bind fun y2 => ((spec_l01Below y2.2.1 y2.2.2.1 y2.2.2.2.1 (6 : Int)).bind fun y3 => ((spec_l01Below y3.2.1 y3.2.2.1 y3.2.2.2.1 (6 : Int)).bind fun y4 => (bif (rSmall (List.append (α := Int × Int × Int × Int × Int) x.2.2.2.2.2.2.2.2.2.2.1 (List.append (α := Int × Int × Int × Int × Int) ([] : List (Int × Int × Int × Int × Int)) [(y0.1, (rArith .add .i64 (rArith .add .i64 y0.1 (10 : Int)) y1.1), y2.1, y3.1, y4.1)]))) then some (.inl (y4.2.1, y4.2.2.1, y4.2.2.2.1, x.2.2.2.1, x.2.2.2.2.1, x.2.2.2.2.2.1, x.2.2.2.2.2.2.1, x.2.2.2.2.2.2.2.1, x.2.2.2.2.2.2.2.2.1, x.2.2.2.2.2.2.2.2.2.1, (List.append (α := Int × Int × Int × Int × Int) x.2.2.2.2.2.2.2.2.2.2.1 (List.append (α := Int × Int × Int × Int × Int) ([] : List (Int × Int × Int × Int × Int)) [(y0.1, (rArith .add .i64 (rArith .add .i64 y0.1 (10 : Int)) y1.1), y2.1, y3.1, y4.1)])), (rArith .add .i64 x.2.2.2.2.2.2.2.2.2.2.2.1 (1 : Int)), ())) else none)))))) else some (.inr (.inl (x.1, x.2.1, x.2.2.1, x.2.2.2.1, x.2.2.2.2.1, x.2.2.2.2.2.1, x.2.2.2.2.2.2.1, x.2.2.2.2.2.2.2.1, x.2.2.2.2.2.2.2.2.1, x.2.2.2.2.2.2.2.2.2.1, x.2.2.2.2.2.2.2.2.2.2.1, ()))))
noncomputable def spec_l07Round_l6 (k : Int × Unit) (x : (List (Int)) × Int × Int × Int × Int × (List (List (Int))) × (List (Int × Int × Int × Int × Int)) × Int × Int × (List (List (Int))) × (List (Int × Int × Int × Int × Int)) × Int × Unit) : Option ((List (Int)) × Int × Int × Int × Int × (List (List (Int))) × (List (Int × Int × Int × Int × Int)) × Int × Int × (List (List (Int))) × (List (Int × Int × Int × Int × Int)) × Unit ⊕ Empty) := iter (spec_l07Round_b6 k) big x
noncomputable def spec_l07Round (a0 : (List (Int))) (a1 : Int) (a2 : Int) : Option (Int × Int × (List (List (Int))) × (List (Int × Int × Int × Int × Int)) × (List (Int)) × Int × Int × Unit) :=
 ((spec_l01Below a0 a1 a2 (5 : Int)).bind fun y0 => ((spec_l01Below y0.2.1 y0.2.2.1 y0.2.2.2.1 (40 : Int)).bind fun y1 => ((spec_l01PickInt y1.2.1 y1.2.2.1 y1.2.2.2.1 (List.append (α := Int) (List.append (α := Int) (List.append (α := Int) (List.append (α := Int) (List.append (α := Int) ([] : List (Int)) [(4 : Int)]) [(8 : Int)]) [(12 : Int)]) [(20 : Int)]) [(1000 : Int)])).bind fun y2 => ((spec_l01Once y2.2.1 y2.2.2.1 y2.2.2.2.1 (2 : Int)).bind fun y3 => ((spec_l07Round_l0 (y0.1, y3.1, ()) (y3.2.1, y3.2.2.1, y3.2.2.2.1, (0 : Int), (0 : Int), ([] : List (List (Int))), ([] : List (Int × Int × Int × Int × Int)), y1.1, y2.1, ([] : List (List (Int))), ([] : List (Int × Int × Int × Int × Int)), ([] : List (Int)), (0 : Int), ())).bind fun q4 => (Sum.elim (fun y5 => ((spec_l07Round_l2 (y0.1, y3.1, ()) (y5.1, y5.2.1, y5.2.2.1, y5.2.2.2.1, y5.2.2.2.2.1, y5.2.2.2.2.2.1, y5.2.2.2.2.2.2.1, y5.2.2.2.2.2.2.2.1, y5.2.2.2.2.2.2.2.2.1, y5.2.2.2.2.2.2.2.2.2.1, y5.2.2.2.2.2.2.2.2.2.2.1, y5.2.2.2.2.2.2.2.2.2.2.2.1, (0 : Int), ())).bind fun q6 => (Sum.elim (fun y7 => ((spec_l07Round_l6 (y0.1, ()) (y7.1, y7.2.1, y7.2.2.1, y7.2.2.2.1, y7.2.2.2.2.1, y7.2.2.2.2.2.1, y7.2.2.2.2.2.2.1, y7.2.2.2.2.2.2.2.1, y7.2.2.2.2.2.2.2.2.1, y7.2.2.2.2.2.2.2.2.2.1, y7.2.2.2.2.2.2.2.2.2.2.1, (0 : Int), ())).bind fun q8 => (Sum.elim (fun y9 => some (y9.2.2.2.2.2.2.2.1, y9.2.2.2.2.2.2.2.2.1, y9.2.2.2.2.2.2.2.2.2.1, y9.2.2.2.2.2.2.2.2.2.2.1, y9.1, y9.2.1, y9.2.2.1, ())) (fun q10 => (Empty.elim q10)) q8))) (fun q8 => (Empty.elim q8)) q6))) (fun q6 => (Empty.elim q6)) q4))))))
noncomputable def spec_Ride (a0 : Int) (a1 : Int) (a2 : (List (List (Int)))) (a3 : (List (Int × Int × Int × Int × Int))) (a4 : (List (Int))) : Option ((List (Int)) × Int × Bool × Unit) :=
 ((spec_l07Drive a0 a1 a2 a3 a4).bind fun y0 => (bif (Bool.not y0.2.2.2.2.1) then some (([] : List (Int)), (0 : Int), false, ()) else some (y0.1, y0.2.1, true, ())))
noncomputable def impl_Ride (a0 : Int) (a1 : Int) (a2 : (List (List (Int)))) (a3 : (List (Int × Int × Int × Int × Int))) (a4 : (List (Int))) : Option ((List (Int)) × Int × Bool × Unit) :=
 ((impl_ride a0 a1 a2 a3 a4).bind fun y0 => some (y0.1, y0.2.1, y0.2.2.2.2.1, ()))
end Go.Fn
namespace Go.Fn
open Go.R
abbrev Ev := Int × Int × Int × Int × Int × Int × Int
noncomputable def inB (a lo hi : Int) : Bool := bif decide (a ≥ lo) then decide (a ≤ hi) else false
theorem within_eq (a lo hi : Int) : impl_within a lo hi = some (inB a lo hi, ()) := by
 unfold impl_within inB
 simp only [rCmp]
 cases decide (a ≥ lo) <;> rfl
theorem in_eq (a lo hi : Int) : spec_l01In a lo hi = some (inB a lo hi, ()) := within_eq a lo hi
theorem timeOk_eq (a : Int) : impl_timeOk a = some (inB a 0 20000, ()) := by unfold impl_timeOk; rw [within_eq]; rfl
noncomputable def evOk (e : Ev) : Bool := bif inB e.1 0 5 then bif inB e.2.1 1 999 then bif inB e.2.2.1 1 100000 then bif inB e.2.2.2.1 1 4 then bif inB e.2.2.2.2.1 1 999 then bif inB e.2.2.2.2.2.1 0 20000 then inB e.2.2.2.2.2.2 0 20000 else false else false else false else false else false else false
noncomputable def ordOk (p e : Ev) : Bool := !(decide (e.1 < p.1) || (decide (e.1 = p.1) && (decide (e.2.1 ≤ p.2.1) || decide (e.2.2.1 ≤ p.2.2.1))))
noncomputable def jokAt (l : List Ev) : Nat → Bool
 | 0 => evOk (l.getD 0 zIIIIIII)
 | n + 1 => evOk (l.getD (n + 1) zIIIIIII) && ordOk (l.getD n zIIIIIII) (l.getD (n + 1) zIIIIIII)
noncomputable def jok (l : List Ev) : Bool := bif decide (60 < l.length) then false else allFrom (jokAt l) 0 l.length
theorem neq_self (a : Int) : rCmp .neq a a = false := by simp [rCmp]
end Go.Fn
set_option linter.unusedSimpArgs false
namespace Go.Fn
open Go.R
theorem add1 {a : Int} (h0 : 0 ≤ a) (h1 : a ≤ 4611686018427387904) : rArith .add .i64 a 1 = a + 1 := add64 (by omega) (by omega)
theorem jok_len {l : List Ev} (h : jok l = true) : l.length ≤ 60 := by
 unfold jok at h
 cases hd : decide (60 < l.length) with
 | true => rw [hd] at h; cases h
 | false => have := of_decide_eq_false hd; omega
theorem jok_at {l : List Ev} (h : jok l = true) {n : Nat} (hn : n < l.length) : jokAt l n = true := by
 have h60 := jok_len h
 unfold jok at h
 rw [decide_eq_false (by omega)] at h
 exact (allFrom_iff _ _).1 h n (Nat.zero_le _) (by omega)
theorem inB_iff {a lo hi : Int} : inB a lo hi = true ↔ lo ≤ a ∧ a ≤ hi := by
 unfold inB
 by_cases h : lo ≤ a
 ·rw [decide_eq_true (show a ≥ lo from h)]; simp [h]
 ·rw [decide_eq_false (show ¬ a ≥ lo from h)]; simp [h]
theorem inR_iff {α : Type} {l : List α} {i : Int} (h0 : 0 ≤ i) (h1 : i < (l.length : Int)) : rInR l i = true := by
 unfold rInR; rw [Bool.and_eq_true]; exact ⟨decide_eq_true h0, decide_eq_true h1⟩
theorem eql_eq {a b : Int} (h : rCmp .eql a b = true) : a = b := by simpa [rCmp] using h
theorem neg_of {a : Int} (h : 0 ≤ a) : rCmp .lss a 0 = false := by simp only [rCmp, decide_eq_false_iff_not]; omega
theorem small_of {α : Type} {l : List α} (h : l.length ≤ 1073741824) : rSmall l = true := by unfold rSmall limit; exact decide_eq_true (by omega)
end Go.Fn
set_option linter.unusedSimpArgs false
namespace Go.Fn
open Go.R
abbrev Spn := Int × Int
theorem gtr_not (a b : Int) : rCmp .gtr a b = Bool.not (rCmp .leq a b) := by
 simp only [rCmp, gt_iff_lt]
 by_cases h : a ≤ b
 ·rw [decide_eq_true h, decide_eq_false (by omega)]; rfl
 ·rw [decide_eq_false h, decide_eq_true (by omega)]; rfl
abbrev Sty := Int × Int × Int × Int
theorem rBeq_self (b : Bool) : rBeq b b = true := by unfold rBeq; simp
end Go.Fn
set_option linter.unusedSimpArgs false
namespace Go.Fn
open Go.R
abbrev Stp := Int × Int × Int × Int × Int
noncomputable def legAt (r : List Int) (j : Nat) : Bool := inB (r.getD j zI) 0 200
noncomputable def rowAt (g : List (List Int)) (n : Nat) : Bool := bif rCmp .neq (rLen (g.getD n zLIl)) (rLen g) then false else allFrom (legAt (g.getD n zLIl)) 0 (g.getD n zLIl).length
noncomputable def stopOk (s : Stp) : Bool := inB s.1 0 20000 && (inB s.2.1 0 20000 && (!rCmp .gtr s.1 s.2.1 && (inB s.2.2.1 0 200 && (inB s.2.2.2.1 0 1000 && inB s.2.2.2.2 0 1000))))
noncomputable def roundOk (a0 a1 : Int) (g : List (List Int)) (s : List Stp) : Bool :=
 inB a0 0 20000 && (inB a1 0 1000 && (!rCmp .gtr (rLen s) 6 && (!rCmp .neq (rLen g) (rArith .add .i64 (rLen s) 1) && (allFrom (rowAt g) 0 g.length && allFrom (fun n => stopOk (s.getD n zIIIII)) 0 s.length))))
theorem neq_len {α β : Type} {l : List α} {m : List β} (h : rCmp .neq (rLen l) (rLen m) = false) : l.length = m.length := by
 simp only [rCmp, rLen, bne_eq_false_iff_eq] at h
 omega
theorem contains_eq (r : List Int) (hr : r.length ≤ 1073741824) : slices_ContainsFunc___int_int___impl_RoundOk_1 r = some (Bool.not (allFrom (legAt r) 0 r.length), ()) := by
 unfold slices_ContainsFunc___int_int___impl_RoundOk_1 slices_IndexFunc___int_int___impl_RoundOk_1
 obtain ⟨y, h1, h2⟩ := loop_find (body := slices_IndexFunc___int_int___impl_RoundOk_1_b0 (r, rLen r, ())) (fun n => ((n : Int), ())) r.length (by omega) (legAt r) (Sum.inr (Sum.inl ())) (fun n => Sum.inl ((n : Int), ())) (fun n hn => by
  unfold slices_IndexFunc___int_int___impl_RoundOk_1_b0 impl_RoundOk_1 legAt
  simp only [lss_len, inR_nat, hn, decide_true, cond_true, get_nat, within_eq, Option.bind_some, succ64 (n := n) (by omega)]
  cases inB (r.getD n zI) 0 200 <;> rfl) (by
  unfold slices_IndexFunc___int_int___impl_RoundOk_1_b0
  simp only [lss_len, Nat.lt_irrefl, decide_false, cond_false])
 have h1' : slices_IndexFunc___int_int___impl_RoundOk_1_l0 (r, rLen r, ()) ((0 : Int), ()) = some y := h1
 rw [h1']
 rcases h2 with ⟨e1, rfl⟩ | ⟨e1, n, hn, rfl, _⟩
 ·rw [e1]; rfl
 ·rw [e1]
  show some (rCmp .geq ((n : Nat) : Int) 0, ()) = some (Bool.not false, ())
  have : rCmp .geq ((n : Nat) : Int) 0 = true := by simp [rCmp]
  rw [this]
  rfl
theorem implRound_eq (a0 a1 : Int) (g : List (List Int)) (s : List Stp) (hg : ∀ r ∈ g, r.length ≤ 1073741824) : impl_RoundOk a0 a1 g s = some (roundOk a0 a1 g s, ()) := by
 unfold impl_RoundOk roundOk
 simp only [timeOk_eq, within_eq, Option.bind_some]
 cases inB a0 0 20000 with
 | false => rfl
 | true =>
  cases inB a1 0 1000 with
  | false => rfl
  | true =>
   cases h6 : rCmp .gtr (rLen s) 6 with
   | true => rfl
   | false =>
    have hs6 : s.length ≤ 6 := by simp [rCmp, rLen] at h6; omega
    cases hn : rCmp .neq (rLen g) (rArith .add .i64 (rLen s) 1) with
    | true => rfl
    | false =>
     have hg7 : g.length = s.length + 1 := by
      rw [add64 (by unfold rLen; omega) (by unfold rLen; omega)] at hn
      simp only [rCmp, rLen, bne_eq_false_iff_eq] at hn
      omega
     have hloop1 : impl_RoundOk_l0 (a0, a1, g, s, g, rLen g, ()) ((0 : Int), ()) = some (bif allFrom (rowAt g) 0 g.length then (Sum.inr (Sum.inl ()) : Bool × Unit ⊕ (Unit ⊕ Empty)) else Sum.inl (false, ())) := by
      refine loop_all (fun n => ((n : Int), ())) g.length (by omega) (rowAt g) _ _ (fun n hn => ?_) ?_
      ·have hrow : (g.getD n zLIl).length ≤ 1073741824 := by
        rw [List.getD_eq_getElem?_getD, List.getElem?_eq_getElem hn]
        exact hg _ (List.getElem_mem hn)
       unfold impl_RoundOk_b0 rowAt
       simp only [lss_len, inR_nat, hn, decide_true, cond_true, get_nat, contains_eq _ hrow, Option.bind_some, succ64 (n := n) (by omega)]
       cases rCmp .neq (rLen (g.getD n zLIl)) (rLen g) with
       | true => rfl
       | false => cases allFrom (legAt (g.getD n zLIl)) 0 (g.getD n zLIl).length <;> rfl
      ·unfold impl_RoundOk_b0
       simp only [lss_len, Nat.lt_irrefl, decide_false, cond_false]
     have hloop2 : impl_RoundOk_l2 (s, rLen s, ()) ((0 : Int), ()) = some (bif allFrom (fun n => stopOk (s.getD n zIIIII)) 0 s.length then (Sum.inr (Sum.inl ()) : Bool × Unit ⊕ (Unit ⊕ Empty)) else Sum.inl (false, ())) := by
      refine loop_all (fun n => ((n : Int), ())) s.length (by omega) (fun n => stopOk (s.getD n zIIIII)) _ _ (fun n hn => ?_) ?_
      ·unfold impl_RoundOk_b2 stopOk
       simp only [lss_len, inR_nat, hn, decide_true, cond_true, get_nat, timeOk_eq, within_eq, Option.bind_some, succ64 (n := n) (by omega)]
       generalize s.getD n zIIIII = e
       cases inB e.1 0 20000 with
       | false => rfl
       | true =>
        cases inB e.2.1 0 20000 with
        | false => rfl
        | true =>
         cases rCmp .gtr e.1 e.2.1 with
         | true => rfl
         | false =>
          cases inB e.2.2.1 0 200 with
          | false => rfl
          | true =>
           cases inB e.2.2.2.1 0 1000 with
           | false => rfl
           | true => cases inB e.2.2.2.2 0 1000 <;> rfl
      ·unfold impl_RoundOk_b2
       simp only [lss_len, Nat.lt_irrefl, decide_false, cond_false]
     simp only [Bool.not_true, cond_false]
     rw [hloop1, hloop2]
     cases allFrom (rowAt g) 0 g.length with
     | false => rfl
     | true => cases allFrom (fun n => stopOk (s.getD n zIIIII)) 0 s.length <;> rfl
theorem specRound_eq (a0 a1 : Int) (g : List (List Int)) (s : List Stp) : spec_RoundOk a0 a1 g s = some (roundOk a0 a1 g s, ()) := by
 unfold spec_RoundOk roundOk
 simp only [in_eq, Option.bind_some]
 cases inB a0 0 20000 with
 | false => rfl
 | true =>
  cases inB a1 0 1000 with
  | false => rfl
  | true =>
   cases h6 : rCmp .gtr (rLen s) 6 with
   | true => rfl
   | false =>
    have hs6 : s.length ≤ 6 := by simp [rCmp, rLen] at h6; omega
    cases hn : rCmp .neq (rLen g) (rArith .add .i64 (rLen s) 1) with
    | true => rfl
    | false =>
     have hg7 : g.length = s.length + 1 := by
      rw [add64 (by unfold rLen; omega) (by unfold rLen; omega)] at hn
      simp only [rCmp, rLen, bne_eq_false_iff_eq] at hn
      omega
     have hloop1 : spec_RoundOk_l0 (a0, a1, g, s, ()) ((0 : Int), ()) = some (bif allFrom (rowAt g) 0 g.length then (Sum.inr (Sum.inl ()) : Bool × Unit ⊕ (Unit ⊕ Empty)) else Sum.inl (false, ())) := by
      refine loop_all (fun n => ((n : Int), ())) g.length (by omega) (rowAt g) _ _ (fun n hn => ?_) ?_
      ·unfold spec_RoundOk_b0 rowAt
       simp only [lss_len, inR_nat, hn, decide_true, cond_true, get_nat, succ64 (n := n) (by omega)]
       cases hne : rCmp .neq (rLen (g.getD n zLIl)) (rLen g) with
       | true => rfl
       | false =>
        have hlen := neq_len hne
        have hin : spec_RoundOk_l2 (a0, a1, g, s, (n : Int), ()) ((0 : Int), ()) = some (bif allFrom (legAt (g.getD n zLIl)) 0 g.length then (Sum.inr (Sum.inl ()) : Bool × Unit ⊕ (Unit ⊕ Empty)) else Sum.inl (false, ())) := by
         refine loop_all (fun n => ((n : Int), ())) g.length (by omega) (legAt (g.getD n zLIl)) _ _ (fun m hm => ?_) ?_
         ·have hm' : m < (g.getD n zLIl).length := by rw [hlen]; exact hm
          unfold spec_RoundOk_b2 legAt
          simp only [lss_len, inR_nat, hn, hm, get_nat, hm', decide_true, cond_true, in_eq, Option.bind_some, succ64 (n := m) (by omega)]
          cases inB ((g.getD n zLIl).getD m zI) 0 200 <;> rfl
         ·unfold spec_RoundOk_b2
          simp only [lss_len, Nat.lt_irrefl, decide_false, cond_false]
        simp only [cond_false]
        rw [hin, hlen]
        cases allFrom (legAt (g.getD n zLIl)) 0 g.length <;> rfl
      ·unfold spec_RoundOk_b0
       simp only [lss_len, Nat.lt_irrefl, decide_false, cond_false]
     have hloop2 : spec_RoundOk_l4 (a0, a1, g, s, ()) ((0 : Int), ()) = some (bif allFrom (fun n => stopOk (s.getD n zIIIII)) 0 s.length then (Sum.inr (Sum.inl ()) : Bool × Unit ⊕ (Unit ⊕ Empty)) else Sum.inl (false, ())) := by
      refine loop_all (fun n => ((n : Int), ())) s.length (by omega) (fun n => stopOk (s.getD n zIIIII)) _ _ (fun n hn => ?_) ?_
      ·unfold spec_RoundOk_b4 stopOk
       simp only [lss_len, inR_nat, hn, decide_true, cond_true, get_nat, in_eq, Option.bind_some, succ64 (n := n) (by omega)]
       generalize s.getD n zIIIII = e
       have hse : inB e.2.1 0 20000 = true → inB e.1 0 e.2.1 = (inB e.1 0 20000 && !rCmp .gtr e.1 e.2.1) := by
        intro hb
        have hb := inB_iff.1 hb
        rw [Bool.eq_iff_iff, Bool.and_eq_true, inB_iff, inB_iff]
        simp only [rCmp, Bool.not_eq_true', decide_eq_false_iff_not]
        omega
       cases hb : inB e.2.1 0 20000 with
       | false => cases inB e.1 0 20000 <;> rfl
       | true =>
        rw [hse hb]
        cases inB e.1 0 20000 with
        | false => rfl
        | true =>
         cases rCmp .gtr e.1 e.2.1 with
         | true => rfl
         | false =>
          cases inB e.2.2.1 0 200 with
          | false => rfl
          | true =>
           cases inB e.2.2.2.1 0 1000 with
           | false => rfl
           | true => cases inB e.2.2.2.2 0 1000 <;> rfl
      ·unfold spec_RoundOk_b4
       simp only [lss_len, Nat.lt_irrefl, decide_false, cond_false]
     simp only [Bool.not_true, cond_false]
     rw [hloop1, hloop2]
     cases allFrom (rowAt g) 0 g.length with
     | false => rfl
     | true => cases allFrom (fun n => stopOk (s.getD n zIIIII)) 0 s.length <;> rfl
end Go.Fn
set_option linter.unusedSimpArgs false
namespace Go.Fn
open Go.R
theorem roundOk_rows {a0 a1 : Int} {g : List (List Int)} {s : List Stp} (h : roundOk a0 a1 g s = true) : s.length ≤ 6 ∧ g.length = s.length + 1 ∧ (∀ n, n < g.length → (g.getD n zLIl).length = g.length ∧ ∀ m, m < g.length → 0 ≤ (g.getD n zLIl).getD m zI ∧ (g.getD n zLIl).getD m zI ≤ 200) ∧
  (∀ n, n < s.length → stopOk (s.getD n zIIIII) = true) ∧ (0 ≤ a0 ∧ a0 ≤ 20000) ∧ (0 ≤ a1 ∧ a1 ≤ 1000) := by
 unfold roundOk at h
 simp only [Bool.and_eq_true] at h
 obtain ⟨h1, h2, h3, h4, h5, h6⟩ := h
 have hs6 : s.length ≤ 6 := by simp [rCmp, rLen] at h3; omega
 have hg : g.length = s.length + 1 := by
  rw [add64 (by unfold rLen; omega) (by unfold rLen; omega)] at h4
  simp only [rCmp, rLen, Bool.not_eq_true', bne_eq_false_iff_eq] at h4
  omega
 refine ⟨hs6, hg, fun n hn => ?_, fun n hn => (allFrom_iff _ _).1 h6 n (Nat.zero_le _) (by omega), inB_iff.1 h1, inB_iff.1 h2⟩
 have := (allFrom_iff _ _).1 h5 n (Nat.zero_le _) (by omega)
 unfold rowAt at this
 cases hne : rCmp .neq (rLen (g.getD n zLIl)) (rLen g) with
 | true => rw [hne] at this; cases this
 | false =>
  rw [hne] at this
  have hl := neq_len hne
  refine ⟨hl, fun m hm => ?_⟩
  have := (allFrom_iff _ _).1 this m (Nat.zero_le _) (by omega)
  exact inB_iff.1 this
noncomputable def leg (g : List (List Int)) (i j : Nat) : Int := (g.getD i zLIl).getD j zI
noncomputable def nat (l : List Int) (x : Int) (n : Nat) : Bool := !rCmp .eql (l.getD n zI) x
noncomputable def hasI (l : List Int) (x : Int) : Bool := !allFrom (nat l x) 0 l.length
theorem eql_comm (a b : Int) : rCmp .eql a b = rCmp .eql b a := by
 simp only [rCmp]
 rw [Bool.eq_iff_iff, beq_iff_eq, beq_iff_eq]
 exact eq_comm
theorem specHas_eq (l : List Int) (x : Int) (hl : l.length ≤ 1073741824) : spec_l02Has l x = some (hasI l x, ()) := by
 unfold spec_l02Has hasI
 have hloop : spec_l02Has_l0 (l, x, ()) ((0 : Int), ()) = some (bif allFrom (nat l x) 0 l.length then (Sum.inr (Sum.inl ()) : Bool × Unit ⊕ (Unit ⊕ Empty)) else Sum.inl (true, ())) := by
  refine loop_all (fun n => ((n : Int), ())) l.length (by omega) (nat l x) _ _ (fun n hn => ?_) ?_
  ·unfold spec_l02Has_b0 nat
   simp only [lss_len, inR_nat, get_nat, hn, decide_true, cond_true, succ64 (n := n) (by omega)]
   cases rCmp .eql (l.getD n zI) x <;> rfl
  ·unfold spec_l02Has_b0
   simp only [lss_len, Nat.lt_irrefl, decide_false, cond_false]
 rw [hloop]
 cases allFrom (nat l x) 0 l.length <;> rfl
theorem containsI_eq (l : List Int) (x : Int) (hl : l.length ≤ 1073741824) : slices_Contains___int_int_ l x = some (hasI l x, ()) := by
 unfold slices_Contains___int_int_ slices_Index___int_int_ hasI
 obtain ⟨y, h1, h2⟩ := loop_find (body := slices_Index___int_int__b0 (l, x, rLen l, ())) (fun n => ((n : Int), ())) l.length (by omega) (nat l x) (Sum.inr (Sum.inl ())) (fun n => Sum.inl ((n : Int), ())) (fun n hn => by
  unfold slices_Index___int_int__b0 nat
  simp only [lss_len, inR_nat, hn, decide_true, cond_true, get_nat, succ64 (n := n) (by omega), eql_comm x]
  cases rCmp .eql (l.getD n zI) x <;> rfl) (by
  unfold slices_Index___int_int__b0
  simp only [lss_len, Nat.lt_irrefl, decide_false, cond_false])
 have h1' : slices_Index___int_int__l0 (l, x, rLen l, ()) ((0 : Int), ()) = some y := h1
 rw [h1']
 rcases h2 with ⟨e1, rfl⟩ | ⟨e1, n, hn, rfl, _⟩
 ·rw [e1]; rfl
 ·rw [e1]
  show some (rCmp .geq ((n : Nat) : Int) 0, ()) = some (Bool.not false, ())
  have : rCmp .geq ((n : Nat) : Int) 0 = true := by simp [rCmp]
  rw [this]
  rfl
noncomputable def ordAt (s : List Stp) (o : List Int) (n : Nat) : Bool := inB (o.getD n zI) 0 (rArith .sub .i64 (rLen s) 1) && !hasI (o.take n) (o.getD n zI)
noncomputable def orderOk (a0 a1 : Int) (g : List (List Int)) (s : List Stp) (o : List Int) : Bool := roundOk a0 a1 g s && allFrom (ordAt s o) 0 o.length
theorem sub_take {α : Type} (l : List α) (n : Nat) : rSub l 0 (n : Int) = l.take n := by simp [rSub]
theorem subOk_take {α : Type} {l : List α} {n : Nat} (h : n ≤ l.length) : rSubOk l 0 (n : Int) = true := by
 unfold rSubOk
 simp only [Bool.and_eq_true, decide_eq_true_eq]
 omega
theorem take_len {α : Type} {l : List α} {n m : Nat} (h : l.length ≤ m) : (l.take n).length ≤ m := by rw [List.length_take]; omega
theorem specOrder_eq (a0 a1 : Int) (g : List (List Int)) (s : List Stp) (o : List Int) (ho : o.length ≤ 1073741824) : spec_OrderOk a0 a1 g s o = some (orderOk a0 a1 g s o, ()) := by
 unfold spec_OrderOk orderOk
 rw [specRound_eq]
 simp only [Option.bind_some]
 cases hr : roundOk a0 a1 g s with
 | false => rfl
 | true =>
  have hl0 : spec_OrderOk_l0 (o, a0, a1, g, s, ()) ((0 : Int), ()) = some (bif allFrom (ordAt s o) 0 o.length then (Sum.inr (Sum.inl ()) : Bool × Unit ⊕ (Unit ⊕ Empty)) else Sum.inl (false, ())) := by
   refine loop_all (fun n => ((n : Int), ())) o.length (by omega) (ordAt s o) _ _ (fun n hn => ?_) ?_
   ·unfold spec_OrderOk_b0 ordAt
    simp only [lss_len, inR_nat, get_nat, hn, decide_true, cond_true, in_eq, Option.bind_some, sub_take, subOk_take (Nat.le_of_lt hn), specHas_eq _ _ (take_len ho), succ64 (n := n) (by omega)]
    cases inB (o.getD n zI) 0 (rArith .sub .i64 (rLen s) 1) with
    | false => rfl
    | true => cases hasI (o.take n) (o.getD n zI) <;> rfl
   ·unfold spec_OrderOk_b0
    simp only [lss_len, Nat.lt_irrefl, decide_false, cond_false]
  simp only [Bool.not_true, cond_false, Bool.true_and]
  rw [hl0]
  cases allFrom (ordAt s o) 0 o.length <;> rfl
theorem implOrder_eq (a0 a1 : Int) (g : List (List Int)) (s : List Stp) (o : List Int) (hgr : ∀ r ∈ g, r.length ≤ 1073741824) (ho : o.length ≤ 1073741824) : impl_OrderOk a0 a1 g s o = some (orderOk a0 a1 g s o, ()) := by
 unfold impl_OrderOk orderOk
 rw [implRound_eq a0 a1 g s hgr]
 simp only [Option.bind_some]
 cases hr : roundOk a0 a1 g s with
 | false => rfl
 | true =>
  have hl0 : impl_OrderOk_l0 (o, a0, a1, g, s, o, rLen o, ()) ((0 : Int), ()) = some (bif allFrom (ordAt s o) 0 o.length then (Sum.inr (Sum.inl ()) : Bool × Unit ⊕ (Unit ⊕ Empty)) else Sum.inl (false, ())) := by
   refine loop_all (fun n => ((n : Int), ())) o.length (by omega) (ordAt s o) _ _ (fun n hn => ?_) ?_
   ·unfold impl_OrderOk_b0 ordAt
    simp only [lss_len, inR_nat, get_nat, hn, decide_true, cond_true, within_eq, Option.bind_some, sub_take, subOk_take (Nat.le_of_lt hn), containsI_eq _ _ (take_len ho), succ64 (n := n) (by omega)]
    cases inB (o.getD n zI) 0 (rArith .sub .i64 (rLen s) 1) with
    | false => rfl
    | true => cases hasI (o.take n) (o.getD n zI) <;> rfl
   ·unfold impl_OrderOk_b0
    simp only [lss_len, Nat.lt_irrefl, decide_false, cond_false]
  simp only [Bool.not_true, cond_false, Bool.true_and]
  rw [hl0]
  cases allFrom (ordAt s o) 0 o.length <;> rfl
end Go.Fn
set_option linter.unusedSimpArgs false
namespace Go.Fn
open Go.R
theorem subadd (a b c : Int) : rArith .sub .i64 (rArith .add .i64 a b) c = rArith .add .i64 a (rArith .sub .i64 b c) := by
 show IntKind.i64.wrap (IntKind.i64.wrap (a + b) - c) = IntKind.i64.wrap (a + IntKind.i64.wrap (b - c))
 simp only [IntKind.wrap_i64]
 omega
theorem addsub (a b c : Int) : rArith .add .i64 (rArith .sub .i64 a b) c = rArith .add .i64 a (rArith .sub .i64 c b) := by
 show IntKind.i64.wrap (IntKind.i64.wrap (a - b) + c) = IntKind.i64.wrap (a + IntKind.i64.wrap (c - b))
 simp only [IntKind.wrap_i64]
 omega
abbrev RSt := Int × List Int × Int × Int × Int × Int
noncomputable def arr (g : List (List Int)) (st : RSt) (i : Int) : Int := rArith .add .i64 st.2.2.1 (rGet zI (rGet zLIl g st.2.2.2.2.2) (rArith .add .i64 i 1))
noncomputable def load1 (s : List Stp) (l i : Int) : Int := rArith .add .i64 l (rGet zIIIII s i).2.2.2.1
noncomputable def next (g : List (List Int)) (s : List Stp) (st : RSt) (i : Int) : RSt :=
  (rArith .add .i64 st.1 (rArith .sub .i64 (rGet zIIIII s i).2.2.2.2 (rGet zIIIII s i).2.2.2.1),
   st.2.1 ++ [rMxmn true (arr g st i) (rGet zIIIII s i).1],
   rArith .add .i64 (rMxmn true (arr g st i) (rGet zIIIII s i).1) (rGet zIIIII s i).2.2.1,
   rMxmn true st.2.2.2.1 (rArith .add .i64 st.1 (rArith .sub .i64 (rGet zIIIII s i).2.2.2.2 (rGet zIIIII s i).2.2.2.1)),
   rArith .add .i64 st.2.2.2.2.1 (rArith .sub .i64 (rMxmn true (arr g st i) (rGet zIIIII s i).1) (arr g st i)),
   rArith .add .i64 i 1)
noncomputable def late (g : List (List Int)) (s : List Stp) (st : RSt) (i : Int) : Bool := rCmp .gtr (arr g st i) (rGet zIIIII s i).2.1
noncomputable def stepR {Y : Type} (g : List (List Int)) (s : List Stp) (f : RSt → Y) (st : RSt) (i : Int) : RSt ⊕ Y := bif late g s st i then .inr (f st) else .inl (next g s st i)
noncomputable def rideGo (g : List (List Int)) (s : List Stp) : List Int → RSt → RSt ⊕ RSt
 | [], st => .inl st
 | i :: o, st => bif late g s st i then .inr st else rideGo g s o (next g s st i)
theorem runL_go {Y : Type} (g : List (List Int)) (s : List Stp) (f fin : RSt → Y) : ∀ (o : List Int) (st : RSt), runL (stepR g s f) fin o st = match rideGo g s o st with | .inl st' => fin st' | .inr st' => f st'
 | [], st => rfl
 | i :: o, st => by
  simp only [runL, rideGo, stepR]
  cases late g s st i with
  | true => rfl
  | false => exact runL_go g s f fin o _
noncomputable def load0 (s : List Stp) (o : List Int) : Int := o.foldl (load1 s) 0
noncomputable def start (a0 : Int) (s : List Stp) (o : List Int) : RSt := (load0 s o, [], a0, load0 s o, 0, 0)
noncomputable def home (g : List (List Int)) (o : List Int) (st : RSt) : Int := rArith .add .i64 st.2.2.1 (rArith .mul .i64 (rGet zI (rGet zLIl g st.2.2.2.2.2) 0) (rMxmn false 1 (rLen o)))
noncomputable def ride (a0 a1 : Int) (g : List (List Int)) (s : List Stp) (o : List Int) : Option (List Int × Int × Int × Int) :=
 bif orderOk a0 a1 g s o then
  match rideGo g s o (start a0 s o) with
  | .inr _ => none
  | .inl st => bif rCmp .gtr st.2.2.2.1 a1 then none else some (st.2.1, home g o st, st.2.2.2.1, st.2.2.2.2.1)
 else none
theorem orderOk_round {a0 a1 : Int} {g : List (List Int)} {s : List Stp} {o : List Int} (h : orderOk a0 a1 g s o = true) : roundOk a0 a1 g s = true := by
 unfold orderOk at h; rw [Bool.and_eq_true] at h; exact h.1
theorem orderOk_at {a0 a1 : Int} {g : List (List Int)} {s : List Stp} {o : List Int} (h : orderOk a0 a1 g s o = true) {n : Nat} (hn : n < o.length) : 0 ≤ o.getD n zI ∧ o.getD n zI < (s.length : Int) := by
 have hr := roundOk_rows (orderOk_round h)
 unfold orderOk at h
 rw [Bool.and_eq_true] at h
 have := (allFrom_iff _ _).1 h.2 n (Nat.zero_le _) (by omega)
 unfold ordAt at this
 rw [Bool.and_eq_true, inB_iff] at this
 have e : rArith .sub .i64 (rLen s) 1 = (s.length : Int) - 1 := sub64 (by unfold rLen; omega) (by unfold rLen; omega)
 rw [e] at this
 omega
structure InvR (g : List (List Int)) (n : Nat) (st : RSt) : Prop where
 lo : 0 ≤ st.2.2.2.2.2
 hi : st.2.2.2.2.2 < (g.length : Int)
 len : st.2.1.length = n
section
variable {a0 a1 : Int} {g : List (List Int)} {s : List Stp} {o : List Int}
theorem at_facts (h : orderOk a0 a1 g s o = true) {n : Nat} (hn : n < o.length) {st : RSt} (hi : InvR g n st) (ho : o.length ≤ 1073741824) :
  rInR s (o.getD n zI) = true ∧ rInR g st.2.2.2.2.2 = true ∧ rInR (rGet zLIl g st.2.2.2.2.2) (rArith .add .i64 (o.getD n zI) 1) = true ∧ rInR (rGet zLIl g st.2.2.2.2.2) 0 = true ∧
  (∀ v : Int, rSmall (List.append st.2.1 (List.append [] [v])) = true) ∧ InvR g (n + 1) (next g s st (o.getD n zI)) := by
 obtain ⟨h6, hg, hrow, _, _, _⟩ := roundOk_rows (orderOk_round h)
 obtain ⟨i0, i1⟩ := orderOk_at h hn
 have hp := hi.hi
 have hp0 := hi.lo
 have hr := (hrow st.2.2.2.2.2.toNat (by omega)).1
 have e1 : rArith .add .i64 (o.getD n zI) 1 = o.getD n zI + 1 := add1 i0 (by omega)
 have hrl : (rGet zLIl g st.2.2.2.2.2).length = g.length := hr
 have hl := hi.len
 refine ⟨inR_iff i0 i1, inR_iff hp0 hp, ?_, inR_iff (Int.le_refl 0) (by rw [hrl]; omega), fun v => small_of (by show (st.2.1 ++ ([] ++ [v])).length ≤ _; simp; omega), ?_, ?_, ?_⟩
 ·rw [e1]; exact inR_iff (by omega) (by rw [hrl]; omega)
 ·show 0 ≤ rArith .add .i64 (o.getD n zI) 1; rw [e1]; omega
 ·show rArith .add .i64 (o.getD n zI) 1 < _; rw [e1]; omega
 ·show (st.2.1 ++ [_]).length = n + 1; simp [hl]
theorem start_inv (h : orderOk a0 a1 g s o = true) : InvR g 0 (start a0 s o) := by
 obtain ⟨h6, hg, _, _, _, _⟩ := roundOk_rows (orderOk_round h)
 exact ⟨Int.le_refl 0, by show (0 : Int) < _; omega, rfl⟩
theorem implLoad (h : orderOk a0 a1 g s o = true) (ho : o.length ≤ 1073741824) : impl_ride_l0 (o, a0, a1, g, s, o, rLen o, ()) ([], 0, 0, 0, 0, 0, ()) = some (Sum.inl ([], 0, 0, 0, load0 s o, ())) := by
 refine (loop_fold (body := impl_ride_b0 (o, a0, a1, g, s, o, rLen o, ())) o zI (by omega) (load1 s) (fun l n => ([], 0, 0, 0, l, (n : Int), ())) (fun _ _ => True) (fun l => Sum.inl ([], 0, 0, 0, l, ())) (fun n l hn _ => ⟨?_, trivial⟩) (fun l _ => ?_) 0 trivial).1
 ·obtain ⟨i0, i1⟩ := orderOk_at h hn
  unfold impl_ride_b0 load1
  simp only [lss_len, inR_nat, get_nat, hn, decide_true, cond_true, inR_iff i0 i1, succ64 (n := n) (by omega)]
 ·unfold impl_ride_b0
  simp only [lss_len, Nat.lt_irrefl, decide_false, cond_false]
theorem specLoad (h : orderOk a0 a1 g s o = true) (ho : o.length ≤ 1073741824) : spec_l07Drive_l0 (o, a0, a1, g, s, ()) ([], 0, 0, 0, [], a0, 0, 0, 0, 0, ()) = some (Sum.inl ([], 0, 0, 0, [], a0, 0, 0, load0 s o, ())) := by
 refine (loop_fold (body := spec_l07Drive_b0 (o, a0, a1, g, s, ())) o zI (by omega) (load1 s) (fun l n => ([], 0, 0, 0, [], a0, 0, 0, l, (n : Int), ())) (fun _ _ => True) (fun l => Sum.inl ([], 0, 0, 0, [], a0, 0, 0, l, ())) (fun n l hn _ => ⟨?_, trivial⟩) (fun l _ => ?_) 0 trivial).1
 ·obtain ⟨i0, i1⟩ := orderOk_at h hn
  unfold spec_l07Drive_b0 load1
  simp only [lss_len, inR_nat, get_nat, hn, decide_true, cond_true, inR_iff i0 i1, succ64 (n := n) (by omega)]
 ·unfold spec_l07Drive_b0
  simp only [lss_len, Nat.lt_irrefl, decide_false, cond_false]
theorem implWay (h : orderOk a0 a1 g s o = true) (ho : o.length ≤ 1073741824) : impl_ride_l2 (o, a0, a1, g, s, o, rLen o, ()) ([], 0, 0, 0, load0 s o, [], a0, load0 s o, 0, 0, 0, ()) =
  some (match rideGo g s o (start a0 s o) with | .inl st => Sum.inr (Sum.inl ([], 0, 0, 0, st.2.1, st.2.2.1, st.2.2.2.1, st.2.2.2.2.1, st.2.2.2.2.2, ())) | .inr _ => Sum.inl ([], 0, 0, 0, false, ())) := by
 rw [← runL_go g s (fun _ => Sum.inl ([], 0, 0, 0, false, ())) (fun st => Sum.inr (Sum.inl ([], 0, 0, 0, st.2.1, st.2.2.1, st.2.2.2.1, st.2.2.2.2.1, st.2.2.2.2.2, ())))]
 refine loop_run (body := impl_ride_b2 (o, a0, a1, g, s, o, rLen o, ())) o zI (by omega) (fun st n => ([], 0, 0, 0, st.1, st.2.1, st.2.2.1, st.2.2.2.1, st.2.2.2.2.1, st.2.2.2.2.2, (n : Int), ())) _ _ (InvR g) (fun n st hn hi => ?_) (fun st hi => ?_) (start a0 s o) (start_inv h)
 ·obtain ⟨f1, f2, f3, _, f5, f6⟩ := at_facts h hn hi ho
  refine ⟨?_, fun b hb => ?_⟩
  ·unfold impl_ride_b2 stepR
   simp only [lss_len, inR_nat, get_nat, hn, decide_true, cond_true, f1, f2, f3, f5, lets_def, succ64 (n := n) (by omega)]
   show (bif late g s st (o.getD n zI) then _ else _) = _
   cases late g s st (o.getD n zI) <;> rfl
  ·unfold stepR at hb
   cases hl : late g s st (o.getD n zI) with
   | true => rw [hl] at hb; cases hb
   | false => rw [hl] at hb; injection hb with hb; subst hb; exact f6
 ·unfold impl_ride_b2
  simp only [lss_len, Nat.lt_irrefl, decide_false, cond_false]
theorem specWay (h : orderOk a0 a1 g s o = true) (ho : o.length ≤ 1073741824) : spec_l07Drive_l2 (o, a0, a1, g, s, ()) ([], 0, 0, 0, [], a0, load0 s o, 0, load0 s o, 0, 0, ()) =
  some (match rideGo g s o (start a0 s o) with | .inl st => Sum.inr (Sum.inl ([], 0, 0, 0, st.2.1, st.2.2.1, st.2.2.2.1, st.2.2.2.2.1, st.2.2.2.2.2, ())) | .inr st => Sum.inl (st.2.1, st.2.2.1, st.2.2.2.1, st.2.2.2.2.1, false, ())) := by
 rw [← runL_go g s (fun st => Sum.inl (st.2.1, st.2.2.1, st.2.2.2.1, st.2.2.2.2.1, false, ())) (fun st => Sum.inr (Sum.inl ([], 0, 0, 0, st.2.1, st.2.2.1, st.2.2.2.1, st.2.2.2.2.1, st.2.2.2.2.2, ())))]
 refine loop_run (body := spec_l07Drive_b2 (o, a0, a1, g, s, ())) o zI (by omega) (fun st n => ([], 0, 0, 0, st.2.1, st.2.2.1, st.2.2.2.1, st.2.2.2.2.1, st.1, st.2.2.2.2.2, (n : Int), ())) _ _ (InvR g) (fun n st hn hi => ?_) (fun st hi => ?_) (start a0 s o) (start_inv h)
 ·obtain ⟨f1, f2, f3, _, f5, f6⟩ := at_facts h hn hi ho
  refine ⟨?_, fun b hb => ?_⟩
  ·unfold spec_l07Drive_b2 stepR
   simp only [lss_len, inR_nat, get_nat, hn, decide_true, cond_true, f1, f2, f3, f5, lets_def, succ64 (n := n) (by omega), subadd, addsub]
   show (bif late g s st (o.getD n zI) then _ else _) = _
   cases late g s st (o.getD n zI) <;> rfl
  ·unfold stepR at hb
   cases hl : late g s st (o.getD n zI) with
   | true => rw [hl] at hb; cases hb
   | false => rw [hl] at hb; injection hb with hb; subst hb; exact f6
 ·unfold spec_l07Drive_b2
  simp only [lss_len, Nat.lt_irrefl, decide_false, cond_false]
theorem go_inv (h : orderOk a0 a1 g s o = true) (ho : o.length ≤ 1073741824) : ∀ (k n : Nat) (st st' : RSt), n + k = o.length → InvR g n st → rideGo g s (o.drop n) st = .inl st' → InvR g o.length st'
 | 0, n, st, st', hk, hi, hg => by
  have : n = o.length := by omega
  subst this
  rw [List.drop_length] at hg
  injection hg with hg
  subst hg
  exact hi
 | k + 1, n, st, st', hk, hi, hg => by
  have hn : n < o.length := by omega
  rw [drop_getD hn zI] at hg
  simp only [rideGo] at hg
  cases hl : late g s st (o.getD n zI) with
  | true => rw [hl] at hg; cases hg
  | false =>
   rw [hl] at hg
   exact go_inv h ho k (n + 1) _ st' (by omega) (at_facts h hn hi ho).2.2.2.2.2 hg
theorem home_facts (h : orderOk a0 a1 g s o = true) {st : RSt} {n : Nat} (hi : InvR g n st) : rInR g st.2.2.2.2.2 = true ∧ rInR (rGet zLIl g st.2.2.2.2.2) 0 = true ∧ 0 ≤ rGet zI (rGet zLIl g st.2.2.2.2.2) 0 ∧ rGet zI (rGet zLIl g st.2.2.2.2.2) 0 ≤ 200 := by
 obtain ⟨h6, hg, hrow, _, _, _⟩ := roundOk_rows (orderOk_round h)
 have hp := hi.hi
 have hp0 := hi.lo
 obtain ⟨hr, hv⟩ := hrow st.2.2.2.2.2.toNat (by omega)
 have hv := hv 0 (by omega)
 exact ⟨inR_iff hp0 hp, inR_iff (Int.le_refl 0) (by show (0 : Int) < ((g.getD st.2.2.2.2.2.toNat zLIl).length : Int); omega), hv.1, hv.2⟩
end
theorem implRide_eq (a0 a1 : Int) (g : List (List Int)) (s : List Stp) (o : List Int) (hgr : ∀ r ∈ g, r.length ≤ 1073741824) (ho : o.length ≤ 1073741824) :
  impl_ride a0 a1 g s o = some (match ride a0 a1 g s o with | some (b, e, p, w) => (b, e, p, w, true, ()) | none => ([], 0, 0, 0, false, ())) := by
 unfold impl_ride ride
 rw [implOrder_eq a0 a1 g s o hgr ho]
 simp only [Option.bind_some]
 cases hk : orderOk a0 a1 g s o with
 | false => rfl
 | true =>
  simp only [Bool.not_true, cond_false, cond_true]
  rw [implLoad hk ho]
  simp only [Option.bind_some, Sum.elim_inl]
  rw [implWay hk ho]
  cases hgo : rideGo g s o (start a0 s o) with
  | inr st => rfl
  | inl st =>
   have hi := go_inv hk ho o.length 0 _ st (by omega) (start_inv hk) (by rw [List.drop_zero]; exact hgo)
   obtain ⟨f1, f2, _, _⟩ := home_facts hk hi
   simp only [Option.bind_some, Sum.elim_inl, Sum.elim_inr, f1, f2, cond_true]
   cases rCmp .gtr st.2.2.2.1 a1 <;> rfl
theorem leq_not (a b : Int) : rCmp .leq a b = Bool.not (rCmp .gtr a b) := by rw [gtr_not, Bool.not_not]
theorem specRide_eq (a0 a1 : Int) (g : List (List Int)) (s : List Stp) (o : List Int) (ho : o.length ≤ 1073741824) :
  ∃ y, spec_l07Drive a0 a1 g s o = some y ∧ match ride a0 a1 g s o with | some (b, e, p, w) => y = (b, e, p, w, true, ()) | none => y.2.2.2.2.1 = false := by
 unfold spec_l07Drive ride
 rw [specOrder_eq a0 a1 g s o ho]
 simp only [Option.bind_some]
 cases hk : orderOk a0 a1 g s o with
 | false => exact ⟨_, rfl, rfl⟩
 | true =>
  simp only [Bool.not_true, cond_false, cond_true]
  rw [specLoad hk ho]
  simp only [Option.bind_some, Sum.elim_inl]
  rw [specWay hk ho]
  cases hgo : rideGo g s o (start a0 s o) with
  | inr st => exact ⟨_, rfl, rfl⟩
  | inl st =>
   have hi := go_inv hk ho o.length 0 _ st (by omega) (start_inv hk) (by rw [List.drop_zero]; exact hgo)
   obtain ⟨f1, f2, f3, f4⟩ := home_facts hk hi
   obtain ⟨_, _, _, _, ha0, _⟩ := roundOk_rows (orderOk_round hk)
   simp only [Option.bind_some, Sum.elim_inl, Sum.elim_inr, f1, f2, cond_true, leq_not]
   have hhome : home g o st = bif rCmp .gtr (rLen o) 0 then rArith .add .i64 st.2.2.1 (rGet zI (rGet zLIl g st.2.2.2.2.2) 0) else st.2.2.1 := by
    unfold home
    cases o with
    | nil =>
     have : st = start a0 s [] := by injection hgo with hgo; exact hgo.symm
     subst this
     show rArith .add .i64 a0 (rArith .mul .i64 _ 0) = a0
     have hm : ∀ x : Int, rArith .mul .i64 x 0 = 0 := fun x => by rw [mul64] <;> simp
     rw [hm, add64 (by omega) (by omega)]
     omega
    | cons i o =>
     have h1 : rMxmn false 1 (rLen (i :: o)) = 1 := by
      unfold rMxmn rLen
      simp only [cond_false]
      rw [if_neg (by simp only [List.length_cons]; omega)]
     have h2 : rCmp .gtr (rLen (i :: o)) 0 = true := by simp [rCmp, rLen]
     rw [h1, h2, mul64 (by omega) (by omega)]
     simp
   rw [hhome]
   cases rCmp .gtr (rLen o) 0 <;> cases rCmp .gtr st.2.2.2.1 a1 <;> exact ⟨_, rfl, rfl⟩
noncomputable def peakOf (r : Option (List Int × Int × Int × Int)) : Int := match r with | some (_, _, p, _) => p | none => -1
noncomputable def waitOf (r : Option (List Int × Int × Int × Int)) : Int := match r with | some (_, _, _, w) => w | none => -1
theorem implPeak_eq (a0 a1 : Int) (g : List (List Int)) (s : List Stp) (o : List Int) (hgr : ∀ r ∈ g, r.length ≤ 1073741824) (ho : o.length ≤ 1073741824) : impl_PeakOf a0 a1 g s o = some (peakOf (ride a0 a1 g s o), ()) := by
 unfold impl_PeakOf
 rw [implRide_eq a0 a1 g s o hgr ho]
 simp only [Option.bind_some]
 cases ride a0 a1 g s o with
 | none => rfl
 | some q => obtain ⟨b, e, p, w⟩ := q; rfl
theorem implWait_eq (a0 a1 : Int) (g : List (List Int)) (s : List Stp) (o : List Int) (hgr : ∀ r ∈ g, r.length ≤ 1073741824) (ho : o.length ≤ 1073741824) : impl_WaitOf a0 a1 g s o = some (waitOf (ride a0 a1 g s o), ()) := by
 unfold impl_WaitOf
 rw [implRide_eq a0 a1 g s o hgr ho]
 simp only [Option.bind_some]
 cases ride a0 a1 g s o with
 | none => rfl
 | some q => obtain ⟨b, e, p, w⟩ := q; rfl
end Go.Fn
set_option linter.unusedSimpArgs false
namespace Go.Fn
open Go.R
theorem loop_meas {X Y : Type} {body : X → Option (X ⊕ Y)} (Inv : X → Prop) (m : X → Nat) (Post : Y → Prop) (h : ∀ x, Inv x → (∃ x', body x = some (.inl x') ∧ Inv x' ∧ m x' < m x) ∨ ∃ y, body x = some (.inr y) ∧ Post y) :
  ∀ (n : Nat) (x : X), Inv x → m x < n → ∃ y, iter body n x = some y ∧ Post y
 | 0, x, _, hm => absurd hm (Nat.not_lt_zero _)
 | n + 1, x, hi, hm => by
  rcases h x hi with ⟨x', h1, h2, h3⟩ | ⟨y, h1, h2⟩
  ·obtain ⟨y, q1, q2⟩ := loop_meas Inv m Post h n x' h2 (by omega)
   exact ⟨y, by rw [iter_next h1]; exact q1, q2⟩
  ·exact ⟨y, iter_done h1, h2⟩
section
variable {a1 : Int} {g : List (List Int)} {s : List Stp} {o : List Int}
theorem orderOk_begin {b b' : Int} (h : orderOk b' a1 g s o = true) (h0 : 0 ≤ b) (h1 : b ≤ 20000) : orderOk b a1 g s o = true := by
 unfold orderOk roundOk at h ⊢
 simp only [Bool.and_eq_true] at h ⊢
 exact ⟨⟨inB_iff.2 ⟨h0, h1⟩, h.1.2⟩, h.2⟩
theorem orderOk_range {b : Int} (h : orderOk b a1 g s o = true) : 0 ≤ b ∧ b ≤ 20000 := (roundOk_rows (orderOk_round h)).2.2.2.2.1
structure Ahead (g : List (List Int)) (st st' : RSt) : Prop where
 load : st.1 = st'.1
 lo : 0 ≤ st.2.2.1
 le : st.2.2.1 ≤ st'.2.2.1
 hi : st'.2.2.1 ≤ 20200
 peak : st.2.2.2.1 = st'.2.2.2.1
 place : st.2.2.2.2.2 = st'.2.2.2.2.2
 p0 : 0 ≤ st.2.2.2.2.2
 p1 : st.2.2.2.2.2 < (g.length : Int)
theorem max_eq (a b : Int) : rMxmn true a b = if b > a then b else a := rfl
theorem ahead_go {a0 : Int} (h : roundOk a0 a1 g s = true) : ∀ (l : List Int), (∀ i ∈ l, 0 ≤ i ∧ i < (s.length : Int)) → ∀ (st st' r' : RSt), Ahead g st st' → rideGo g s l st' = .inl r' → ∃ r, rideGo g s l st = .inl r ∧ r.2.2.2.1 = r'.2.2.2.1
 | [], _, st, st', r', ha, hg => by
  injection hg with hg
  subst hg
  exact ⟨st, rfl, ha.peak⟩
 | i :: l, hl, st, st', r', ha, hg => by
  obtain ⟨h6, hgl, hrow, hst, _, _⟩ := roundOk_rows h
  obtain ⟨i0, i1⟩ := hl i (by simp)
  have hp0 := ha.p0
  have hp1 := ha.p1
  have hlo := ha.lo
  have hle := ha.le
  have hhi := ha.hi
  have hs := hst i.toNat (by omega)
  unfold stopOk at hs
  simp only [Bool.and_eq_true, inB_iff] at hs
  obtain ⟨s1, s2, _, s3, _, _⟩ := hs
  have hsi : rGet zIIIII s i = s.getD i.toNat zIIIII := rfl
  rw [← hsi] at s1 s2 s3
  have e1 : rArith .add .i64 i 1 = i + 1 := add1 i0 (by omega)
  have hleg := (hrow st.2.2.2.2.2.toNat (by omega)).2 (i + 1).toNat (by omega)
  have hleg' : 0 ≤ rGet zI (rGet zLIl g st.2.2.2.2.2) (i + 1) ∧ rGet zI (rGet zLIl g st.2.2.2.2.2) (i + 1) ≤ 200 := hleg
  have ha1 : arr g st i = st.2.2.1 + rGet zI (rGet zLIl g st.2.2.2.2.2) (i + 1) := by unfold arr; rw [e1, add64] <;> omega
  have ha2 : arr g st' i = st'.2.2.1 + rGet zI (rGet zLIl g st.2.2.2.2.2) (i + 1) := by unfold arr; rw [← ha.place, e1, add64] <;> omega
  simp only [rideGo] at hg ⊢
  cases hl' : late g s st' i with
  | true => rw [hl'] at hg; cases hg
  | false =>
   rw [hl'] at hg
   have hnl' : st'.2.2.1 + rGet zI (rGet zLIl g st.2.2.2.2.2) (i + 1) ≤ (rGet zIIIII s i).2.1 := by
    unfold late at hl'
    rw [ha2] at hl'
    simp only [rCmp, decide_eq_false_iff_not] at hl'
    omega
   have hnl : late g s st i = false := by
    unfold late
    rw [ha1]
    simp only [rCmp, decide_eq_false_iff_not]
    omega
   rw [hnl]
   simp only [cond_false] at hg ⊢
   refine ahead_go h l (fun j hj => hl j (by simp [hj])) _ _ r' ?_ hg
   have hw : ∀ st : RSt, (next g s st i).2.2.1 = rArith .add .i64 (rMxmn true (arr g st i) (rGet zIIIII s i).1) (rGet zIIIII s i).2.2.1 := fun _ => rfl
   have hb1 : 0 ≤ rMxmn true (arr g st i) (rGet zIIIII s i).1 ∧ rMxmn true (arr g st i) (rGet zIIIII s i).1 ≤ rMxmn true (arr g st' i) (rGet zIIIII s i).1 ∧ rMxmn true (arr g st' i) (rGet zIIIII s i).1 ≤ 20000 := by
    rw [max_eq, max_eq, ha1, ha2]
    refine ⟨?_, ?_, ?_⟩ <;> split <;> (try split) <;> omega
   obtain ⟨b1, b2, b3⟩ := hb1
   have w1 : (next g s st i).2.2.1 = rMxmn true (arr g st i) (rGet zIIIII s i).1 + (rGet zIIIII s i).2.2.1 := by rw [hw, add64] <;> omega
   have w2 : (next g s st' i).2.2.1 = rMxmn true (arr g st' i) (rGet zIIIII s i).1 + (rGet zIIIII s i).2.2.1 := by rw [hw, add64] <;> omega
   refine ⟨?_, ?_, ?_, ?_, ?_, rfl, ?_, ?_⟩
   ·show rArith .add .i64 st.1 _ = rArith .add .i64 st'.1 _; rw [ha.load]
   ·rw [w1]; omega
   ·rw [w1, w2]; omega
   ·rw [w2]; omega
   ·show rMxmn true st.2.2.2.1 (rArith .add .i64 st.1 _) = rMxmn true st'.2.2.2.1 (rArith .add .i64 st'.1 _); rw [ha.load, ha.peak]
   ·show 0 ≤ rArith .add .i64 i 1; rw [e1]; omega
   ·show rArith .add .i64 i 1 < _; rw [e1]; omega
noncomputable def can (a1 : Int) (g : List (List Int)) (s : List Stp) (o : List Int) (b : Int) : Bool := (ride b a1 g s o).isSome
theorem can_range {b : Int} (h : can a1 g s o b = true) : 0 ≤ b ∧ b ≤ 20000 := by
 unfold can ride at h
 cases hk : orderOk b a1 g s o with
 | true => exact orderOk_range hk
 | false => rw [hk] at h; cases h
theorem mem_getD {l : List Int} {i : Int} (h : i ∈ l) : ∃ n, n < l.length ∧ l.getD n zI = i := by
 obtain ⟨n, hn, e⟩ := List.mem_iff_getElem.1 h
 exact ⟨n, hn, by rw [List.getD_eq_getElem?_getD, List.getElem?_eq_getElem hn]; exact e⟩
theorem can_mono {b b' : Int} (h0 : 0 ≤ b) (hb : b ≤ b') (h : can a1 g s o b' = true) : can a1 g s o b = true := by
 obtain ⟨_, hb'⟩ := can_range h
 unfold can ride at h ⊢
 cases hk : orderOk b' a1 g s o with
 | false => rw [hk] at h; cases h
 | true =>
  rw [hk] at h
  rw [orderOk_begin hk h0 (by omega)]
  simp only [cond_true] at h ⊢
  cases hgo : rideGo g s o (start b' s o) with
  | inr st => rw [hgo] at h; cases h
  | inl st' =>
   rw [hgo] at h
   obtain ⟨h6, hgl, _, _, _, _⟩ := roundOk_rows (orderOk_round hk)
   obtain ⟨r, q1, q2⟩ := ahead_go (orderOk_round hk) o (fun i hi => by
    obtain ⟨n, hn, e⟩ := mem_getD hi
    have := orderOk_at hk hn
    rw [e] at this
    exact this) (start b s o) (start b' s o) st' ⟨rfl, h0, hb, by show b' ≤ 20200; omega, rfl, rfl, Int.le_refl 0, by show (0 : Int) < _; omega⟩ hgo
   rw [q1]
   simp only at h ⊢
   rw [q2]
   cases hp : rCmp .gtr st'.2.2.2.1 a1 with
   | true => rw [hp] at h; cases h
   | false => rfl
end
noncomputable def IsLatest (a1 : Int) (g : List (List Int)) (s : List Stp) (o : List Int) (b : Int) : Prop := (b = -1 ∨ can a1 g s o b = true) ∧ ∀ b', b < b' → can a1 g s o b' = false
theorem latest_unique {a1 : Int} {g : List (List Int)} {s : List Stp} {o : List Int} {b b' : Int} (h : IsLatest a1 g s o b) (h' : IsLatest a1 g s o b') (h0 : -1 ≤ b) (h0' : -1 ≤ b') : b = b' := by
 rcases Int.lt_trichotomy b b' with hlt | heq | hlt
 ·have := h.2 b' hlt
  rcases h'.1 with e | e
  ·omega
  ·rw [this] at e; cases e
 ·exact heq
 ·have := h'.2 b hlt
  rcases h.1 with e | e
  ·omega
  ·rw [this] at e; cases e
theorem implRide_can (a0 a1 : Int) (g : List (List Int)) (s : List Stp) (o : List Int) (hgr : ∀ r ∈ g, r.length ≤ 1073741824) (ho : o.length ≤ 1073741824) :
  ∃ y, impl_ride a0 a1 g s o = some y ∧ y.2.2.2.2.1 = can a1 g s o a0 := by
 rw [implRide_eq a0 a1 g s o hgr ho]
 unfold can
 cases ride a0 a1 g s o with
 | none => exact ⟨_, rfl, rfl⟩
 | some q => exact ⟨_, rfl, rfl⟩
theorem specRide_can (a0 a1 : Int) (g : List (List Int)) (s : List Stp) (o : List Int) (ho : o.length ≤ 1073741824) :
  ∃ y, spec_l07Drive a0 a1 g s o = some y ∧ y.2.2.2.2.1 = can a1 g s o a0 := by
 obtain ⟨y, h1, h2⟩ := specRide_eq a0 a1 g s o ho
 refine ⟨y, h1, ?_⟩
 unfold can
 cases hr : ride a0 a1 g s o with
 | none => rw [hr] at h2; exact h2
 | some q => rw [hr] at h2; simp only at h2; rw [h2]; rfl
theorem implLatest (a0 a1 : Int) (g : List (List Int)) (s : List Stp) (o : List Int) (hgr : ∀ r ∈ g, r.length ≤ 1073741824) (ho : o.length ≤ 1073741824) :
  ∃ y, impl_LatestBegin_l0 (o, ()) (a0, a1, g, s, 20000, ()) = some y ∧ ∃ b, -1 ≤ b ∧ IsLatest a1 g s o b ∧ y = if b = -1 then Sum.inr (Sum.inl ()) else Sum.inl (b, true, ()) := by
 refine loop_meas (body := impl_LatestBegin_b0 (o, ())) (fun x => x.2.1 = a1 ∧ x.2.2.1 = g ∧ x.2.2.2.1 = s ∧ -1 ≤ x.2.2.2.2.1 ∧ x.2.2.2.2.1 ≤ 20000 ∧ ∀ b', x.2.2.2.2.1 < b' → can a1 g s o b' = false) (fun x => (x.2.2.2.2.1 + 1).toNat) _ (fun x hx => ?_) big _ ⟨rfl, rfl, rfl, by show (-1 : Int) ≤ 20000; omega, Int.le_refl _, fun b' hb' => ?_⟩ (lt_big (by show (20000 + 1 : Int).toNat < _; omega))
 ·obtain ⟨x0, x1, x2, x3, b, u⟩ := x
  obtain ⟨rfl, rfl, rfl, hb0, hb1, hlat⟩ := hx
  unfold impl_LatestBegin_b0
  simp only at hb0 hb1 hlat ⊢
  by_cases hb : 0 ≤ b
  ·have hge : rCmp .geq b 0 = true := by simp only [rCmp, decide_eq_true_eq]; omega
   obtain ⟨y, q1, q2⟩ := implRide_can b x1 x2 x3 o hgr ho
   simp only [hge, cond_true, q1, Option.bind_some, q2]
   cases hc : can x1 x2 x3 o b with
   | true => exact .inr ⟨_, rfl, b, hb0, ⟨.inr hc, hlat⟩, by rw [if_neg (by omega)]⟩
   | false =>
    refine .inl ⟨_, rfl, ⟨rfl, rfl, rfl, ?_, ?_, fun b' hb' => ?_⟩, ?_⟩
    ·show -1 ≤ rArith .sub .i64 b 1; rw [sub64] <;> omega
    ·show rArith .sub .i64 b 1 ≤ 20000; rw [sub64] <;> omega
    ·have hb' : rArith .sub .i64 b 1 < b' := hb'
     rw [sub64 (by omega) (by omega)] at hb'
     rcases Int.lt_trichotomy b b' with h | h | h
     ·exact hlat b' h
     ·rw [← h]; exact hc
     ·omega
    ·show (rArith .sub .i64 b 1 + 1).toNat < (b + 1).toNat
     rw [sub64 (by omega) (by omega)]
     omega
  ·have hbm : b = -1 := by omega
   subst hbm
   exact .inr ⟨_, rfl, -1, Int.le_refl _, ⟨.inl rfl, hlat⟩, rfl⟩
 ·cases hc : can a1 g s o b' with
  | false => rfl
  | true => have := can_range hc; have hb' : (20000 : Int) < b' := hb'; omega
theorem quo2 {a : Int} (h0 : 0 ≤ a) (h1 : a ≤ 100000) : rArith .quo .i64 a 2 = a / 2 := by
 show IntKind.i64.wrap (a.tdiv 2) = a / 2
 rw [Int.tdiv_eq_ediv_of_nonneg h0]
 exact w64 (by omega) (by omega)
theorem specLatest (a0 a1 : Int) (g : List (List Int)) (s : List Stp) (o : List Int) (ho : o.length ≤ 1073741824) :
  ∃ y, spec_LatestBegin_l0 (o, ()) (a0, a1, g, s, -1, 20001, ()) = some y ∧ ∃ b, -1 ≤ b ∧ IsLatest a1 g s o b ∧ y = Sum.inl (b, ()) := by
 refine loop_meas (body := spec_LatestBegin_b0 (o, ())) (fun x => x.2.1 = a1 ∧ x.2.2.1 = g ∧ x.2.2.2.1 = s ∧ -1 ≤ x.2.2.2.2.1 ∧ x.2.2.2.2.1 < x.2.2.2.2.2.1 ∧ x.2.2.2.2.2.1 ≤ 20001 ∧ (x.2.2.2.2.1 = -1 ∨ can a1 g s o x.2.2.2.2.1 = true) ∧ can a1 g s o x.2.2.2.2.2.1 = false) (fun x => (x.2.2.2.2.2.1 - x.2.2.2.2.1).toNat) _ (fun x hx => ?_) big _ ⟨rfl, rfl, rfl, Int.le_refl _, by show (-1 : Int) < 20001; omega, Int.le_refl _, .inl rfl, ?_⟩ (lt_big (by show (20001 - -1 : Int).toNat < _; omega))
 ·obtain ⟨x0, x1, x2, x3, lo, hi, u⟩ := x
  obtain ⟨rfl, rfl, rfl, h1, h2, h3, h4, h5⟩ := hx
  unfold spec_LatestBegin_b0
  simp only at h1 h2 h3 h4 h5 ⊢
  have e1 : rArith .sub .i64 hi lo = hi - lo := sub64 (by omega) (by omega)
  have e2 : rArith .add .i64 lo hi = lo + hi := add64 (by omega) (by omega)
  rw [e1, e2]
  by_cases hgap : hi - lo > 1
  ·have hg1 : rCmp .gtr (hi - lo) 1 = true := by simp only [rCmp, decide_eq_true_eq]; omega
   have hz : rIsZero (2 : Int) = false := rfl
   rw [hg1, hz, quo2 (by omega) (by omega)]
   obtain ⟨y, q1, q2⟩ := specRide_can ((lo + hi) / 2) x1 x2 x3 o ho
   simp only [cond_true, cond_false, q1, Option.bind_some, q2]
   cases hc : can x1 x2 x3 o ((lo + hi) / 2) with
   | true => exact .inl ⟨_, rfl, ⟨rfl, rfl, rfl, by show -1 ≤ (lo + hi) / 2; omega, by show (lo + hi) / 2 < hi; omega, h3, .inr hc, h5⟩, by show (hi - (lo + hi) / 2).toNat < (hi - lo).toNat; omega⟩
   | false => exact .inl ⟨_, rfl, ⟨rfl, rfl, rfl, h1, by show lo < (lo + hi) / 2; omega, by show (lo + hi) / 2 ≤ 20001; omega, h4, hc⟩, by show ((lo + hi) / 2 - lo).toNat < (hi - lo).toNat; omega⟩
  ·have hg1 : rCmp .gtr (hi - lo) 1 = false := by simp only [rCmp, decide_eq_false_iff_not]; omega
   rw [hg1]
   refine .inr ⟨_, rfl, lo, h1, ⟨h4, fun b' hb' => ?_⟩, rfl⟩
   cases hc : can x1 x2 x3 o b' with
   | false => rfl
   | true =>
    have := can_mono (b := hi) (by omega) (by omega) hc
    rw [h5] at this
    cases this
 ·cases hc : can a1 g s o 20001 with
  | false => exact hc
  | true => have := can_range hc; omega
theorem latest_eq (a0 a1 : Int) (g : List (List Int)) (s : List Stp) (o : List Int) (hgr : ∀ r ∈ g, r.length ≤ 1073741824) (ho : o.length ≤ 1073741824) :
  ∃ n ok, spec_LatestBegin a0 a1 g s o = some (n, ok, ()) ∧ impl_LatestBegin a0 a1 g s o = some (n, ok, ()) := by
 unfold spec_LatestBegin impl_LatestBegin
 rw [specOrder_eq a0 a1 g s o ho, implOrder_eq a0 a1 g s o hgr ho]
 simp only [Option.bind_some]
 cases hk : orderOk a0 a1 g s o with
 | false => exact ⟨0, false, rfl, rfl⟩
 | true =>
  obtain ⟨y, q1, b, q2, q3, rfl⟩ := implLatest a0 a1 g s o hgr ho
  obtain ⟨y', r1, b', r2, r3, rfl⟩ := specLatest a0 a1 g s o ho
  have := latest_unique q3 r3 q2 r2
  subst this
  simp only [Bool.not_true, cond_false]
  rw [q1, r1]
  by_cases hb : b = -1
  ·subst hb
   exact ⟨0, false, rfl, rfl⟩
  ·rw [if_neg hb]
   refine ⟨b, true, ?_, rfl⟩
   simp only [Option.bind_some, Sum.elim_inl]
   rw [neg_of (by omega)]
   rfl
end Go.Fn
set_option linter.unusedSimpArgs false
namespace Go.Fn
open Go.R
abbrev Trm := Int × Int × Int × Int × Int × Int × Int × Int
end Go.Fn
set_option linter.unusedSimpArgs false
namespace Go.Fn
open Go.R
abbrev Bx := Int × Int × Int × Bool
abbrev Col := Int × List Int × List Bx
abbrev Site := List Spn × List Spn × List Col × Int × Int × Bool × Bool × Bool × Int × Int × List Ev
theorem getD_mem {α : Type} {l : List α} {n : Nat} (h : n < l.length) (z : α) : l.getD n z ∈ l := by
 rw [List.getD_eq_getElem?_getD, List.getElem?_eq_getElem h]
 exact List.getElem_mem h
end Go.Fn
set_option linter.unusedSimpArgs false
namespace Go.Fn
open Go.R
abbrev Prc := Int × Int × Int × Int × Int × Int × Int × Int × Int × Int × Int × Int × Int
abbrev Grt := Int × Int × Int × Int × Int × Int × Bool
end Go.Fn
namespace Go.R
def Yl {α : Type} (x : Option α) (P : α → Prop) : Prop := ∃ a, x = some a ∧ P a
section
variable {α β : Type} {P : α → Prop} {Q : β → Prop}
theorem Yl.ret {a : α} (h : P a) : Yl (some a) P := ⟨a, rfl, h⟩
theorem Yl.bind {x : Option α} {f : α → Option β} (hx : Yl x P) (hf : ∀ a, P a → Yl (f a) Q) : Yl (x.bind f) Q := by
 obtain ⟨a, rfl, ha⟩ := hx
 exact hf a ha
theorem Yl.mono {P' : α → Prop} {x : Option α} (hx : Yl x P) (h : ∀ a, P a → P' a) : Yl x P' := by
 obtain ⟨a, e, ha⟩ := hx
 exact ⟨a, e, h a ha⟩
theorem Yl.cond {b : Bool} {x y : Option α} (hx : b = true → Yl x P) (hy : b = false → Yl y P) : Yl (bif b then x else y) P := by
 cases b
 ·exact hy rfl
 ·exact hx rfl
theorem Yl.guard {b : Bool} {x : Option α} (hb : b = true) (hx : Yl x P) : Yl (bif b then x else none) P := by
 subst hb; exact hx
theorem Yl.nguard {b : Bool} {x : Option α} (hb : b = false) (hx : Yl x P) : Yl (bif b then none else x) P := by
 subst hb; exact hx
theorem Yl.lets {γ : Type} {v : γ} {k : γ → Option α} (h : Yl (k v) P) : Yl (lets v k) P := h
theorem Yl.loop {X Y : Type} {body : X → Option (X ⊕ Y)} (Inv : X → Prop) (m : X → Nat) {R : Y → Prop} (hb : ∀ x, Inv x → Yl (body x) fun r => match r with | .inl y => Inv y ∧ m y < m x | .inr b => R b) :
  ∀ (n : Nat) (x : X), Inv x → m x < n → Yl (iter body n x) R
 | 0, _, _, h => absurd h (Nat.not_lt_zero _)
 | n + 1, x, hi, hm => by
  obtain ⟨r, e, hr⟩ := hb x hi
  cases r with
  | inl y =>
   rw [iter_next e]
   exact Yl.loop Inv m hb n y hr.1 (by omega)
  | inr b => exact ⟨b, iter_done e, hr⟩
end
theorem cmp_lss {a b : Int} : rCmp .lss a b = decide (a < b) := rfl
theorem cmp_leq {a b : Int} : rCmp .leq a b = decide (a ≤ b) := rfl
theorem inR_int {α : Type} {l : List α} {i : Int} (h0 : 0 ≤ i) (h1 : i < (l.length : Int)) : rInR l i = true := by
 unfold rInR
 rw [Bool.and_eq_true]
 exact ⟨decide_eq_true h0, decide_eq_true h1⟩
theorem small_of {α : Type} {l : List α} (h : l.length ≤ 1073741824) : rSmall l = true := by
 unfold rSmall limit
 exact decide_eq_true (by omega)
theorem and64 (x : Int) {c : Nat} (hc : c < 9223372036854775808) : 0 ≤ rArith .and .i64 x (c : Int) ∧ rArith .and .i64 x (c : Int) ≤ (c : Int) := by
 have h1 : (BitVec.ofInt 64 (c : Int)).toNat = c := by
  rw [BitVec.toNat_ofInt]
  have : ((c : Int) % ((2 ^ 64 : Nat) : Int)) = c := Int.emod_eq_of_lt (by omega) (by omega)
  rw [this]; rfl
 have h2 : (BitVec.ofInt 64 x &&& BitVec.ofInt 64 (c : Int)).toNat ≤ c := by
  rw [BitVec.toNat_and, h1]
  exact Nat.and_le_right
 have e : rArith .and .i64 x (c : Int) = IntKind.i64.wrap (((BitVec.ofInt 64 x &&& BitVec.ofInt 64 (c : Int)).toNat : Nat) : Int) := rfl
 rw [e, w64 (by omega) (by omega)]
 exact ⟨by omega, by omega⟩
open Go.Fn
def Drawn (b : List Int) (lo hi : Int) (y : Int × List Int × Int × Int × Unit) : Prop := lo ≤ y.1 ∧ y.1 ≤ hi ∧ y.2.1 = b ∧ 0 ≤ y.2.2.1
theorem byte_yl (b : List Int) (hb : b.length ≤ 1048576) (i h : Int) (hi : 0 ≤ i) : Yl (spec_l01Byte b i h) (Drawn b 0 255) := by
 unfold spec_l01Byte
 refine .nguard rfl (.nguard rfl (.lets (.cond (fun h1 => ?_) fun _ => ?_)))
 ·rw [cmp_lss] at h1
  have h1 : i < (b.length : Int) := of_decide_eq_true h1
  refine .guard (inR_int hi h1) (.ret ?_)
  have := and64 (rArith .add .i64 (rArith .and .i64 (rArith .xor .i64 (rShift .shr .i64 (rArith .add .i64 (rArith .mul .i64 h 6364136223846793005) 1442695040888963407) 33) (rShift .shr .i64 (rArith .add .i64 (rArith .mul .i64 h 6364136223846793005) 1442695040888963407) 45)) 255) (rConv .i64 (rGet zI b i))) (c := 255) (by omega)
  refine ⟨this.1, this.2, rfl, ?_⟩
  show 0 ≤ rArith .add .i64 i 1
  rw [add64 (by omega) (by omega)]
  omega
 ·have := and64 (rArith .xor .i64 (rShift .shr .i64 (rArith .add .i64 (rArith .mul .i64 h 6364136223846793005) 1442695040888963407) 33) (rShift .shr .i64 (rArith .add .i64 (rArith .mul .i64 h 6364136223846793005) 1442695040888963407) 45)) (c := 255) (by omega)
  exact .ret ⟨this.1, this.2, rfl, hi⟩
theorem below_yl (b : List Int) (hb : b.length ≤ 1048576) (i h n : Int) (hi : 0 ≤ i) (hn : n ≤ 1073741824) : Yl (spec_l01Below b i h n) (Drawn b 0 (max 0 (n - 1))) := by
 unfold spec_l01Below
 have mod : ∀ (x : Int), 0 ≤ x → 0 < n → 0 ≤ rArith .rem .i64 x n ∧ rArith .rem .i64 x n ≤ max 0 (n - 1) := by
  intro x hx hn
  have e : rArith .rem .i64 x n = x.tmod n := rfl
  have h1 := Int.tmod_nonneg n hx
  have h2 := Int.tmod_lt_of_pos x hn
  rw [e]
  omega
 refine .cond (fun _ => .ret ⟨Int.le_refl _, by show (0 : Int) ≤ max 0 (n - 1); omega, rfl, hi⟩) fun h0 => .cond (fun _ => ?_) fun h1 => ?_
 ·rw [cmp_leq] at h0
  have h0 := of_decide_eq_false h0
  refine (byte_yl b hb i h hi).bind fun y hy => .nguard (decide_eq_false (by omega)) (.ret ?_)
  have := mod y.1 hy.1 (by omega)
  exact ⟨this.1, this.2, hy.2.2.1, hy.2.2.2⟩
 ·rw [cmp_leq] at h0
  have h0 := of_decide_eq_false h0
  refine (byte_yl b hb i h hi).bind fun y hy => ?_
  obtain ⟨y1, y2, y3, y4⟩ := hy
  rw [y3]
  refine (byte_yl b hb _ _ y4).bind fun z hz => ?_
  obtain ⟨z1, z2, z3, z4⟩ := hz
  rw [z3]
  refine (byte_yl b hb _ _ z4).bind fun u hu => ?_
  obtain ⟨u1, u2, u3, u4⟩ := hu
  rw [u3]
  refine (byte_yl b hb _ _ u4).bind fun v hv => .lets (.nguard (decide_eq_false (by omega)) (.ret ?_))
  obtain ⟨v1, v2, v3, v4⟩ := hv
  have e : rArith .add .i64 (rArith .add .i64 (rArith .add .i64 (rArith .mul .i64 y.1 16777216) (rArith .mul .i64 z.1 65536)) (rArith .mul .i64 u.1 256)) v.1 = y.1 * 16777216 + z.1 * 65536 + u.1 * 256 + v.1 := by
   rw [mul64 (a := y.1) (by omega) (by omega), mul64 (a := z.1) (by omega) (by omega), mul64 (a := u.1) (by omega) (by omega), add64 (a := y.1 * 16777216) (by omega) (by omega), add64 (a := y.1 * 16777216 + z.1 * 65536) (by omega) (by omega), add64 (a := y.1 * 16777216 + z.1 * 65536 + u.1 * 256) (by omega) (by omega)]
  have := mod (y.1 * 16777216 + z.1 * 65536 + u.1 * 256 + v.1) (by omega) (by omega)
  rw [e]
  exact ⟨this.1, this.2, v3, v4⟩
theorem once_yl (b : List Int) (hb : b.length ≤ 1048576) (i h n : Int) (hi : 0 ≤ i) (hn : n ≤ 1073741824) : Yl (spec_l01Once b i h n) fun y => y.2.1 = b ∧ 0 ≤ y.2.2.1 := by
 unfold spec_l01Once
 exact (below_yl b hb i h n hi hn).bind fun y hy => .ret ⟨hy.2.2.1, hy.2.2.2⟩
theorem pickInt_yl (b : List Int) (hb : b.length ≤ 1048576) (i h : Int) (l : List Int) (hi : 0 ≤ i) (h1 : 1 ≤ l.length) (h2 : l.length ≤ 1048576) : Yl (spec_l01PickInt b i h l) fun y => y.1 ∈ l ∧ y.2.1 = b ∧ 0 ≤ y.2.2.1 := by
 unfold spec_l01PickInt
 refine (below_yl b hb i h (rLen l) hi (by unfold rLen; omega)).bind fun y hy => ?_
 obtain ⟨y1, y2, y3, y4⟩ := hy
 have y2 : y.1 ≤ max 0 ((l.length : Int) - 1) := y2
 refine .guard (inR_int y1 (by omega)) (.ret ⟨?_, y3, y4⟩)
 show l.getD y.1.toNat zI ∈ l
 have hlt : y.1.toNat < l.length := by omega
 rw [List.getD_eq_getElem?_getD, List.getElem?_eq_getElem hlt]
 exact List.getElem_mem hlt
theorem new_yl (b : List Int) (hb : b.length ≤ 1048576) : Yl (spec_l01New b) fun y => y.1 = b ∧ y.2.1 = 0 := by
 unfold spec_l01New
 have hl : Yl (spec_l01New_l0 (b, ()) (rArith .add .i64 33183 (rLen b), 0, ())) fun _ => True := by
  unfold spec_l01New_l0
  refine Yl.loop (fun x => 0 ≤ x.2.1) (fun x => b.length + 1 - x.2.1.toNat) (fun x hx => ?_) big _ (by show (0 : Int) ≤ 0; omega) (lt_big (by show b.length + 1 - (0 : Int).toNat < _; omega))
  unfold spec_l01New_b0
  refine .cond (fun h1 => .cond (fun _ => ?_) fun _ => .ret trivial) fun _ => .ret trivial
  rw [cmp_lss] at h1
  have h1 : x.2.1 < (b.length : Int) := of_decide_eq_true h1
  refine .guard (inR_int hx h1) (.ret ?_)
  have e : rArith .add .i64 x.2.1 1 = x.2.1 + 1 := add64 (by omega) (by omega)
  show 0 ≤ rArith .add .i64 x.2.1 1 ∧ b.length + 1 - (rArith .add .i64 x.2.1 1).toNat < b.length + 1 - x.2.1.toNat
  rw [e]
  omega
 refine hl.bind fun q _ => ?_
 cases q with
 | inl y => exact .ret ⟨rfl, rfl⟩
 | inr q => exact nomatch q
end Go.R
set_option linter.unusedSimpArgs false
set_option linter.unusedVariables false
namespace Go.Fn
open Go.R Go.Sort
section
variable {α : Type} [Inhabited α] {lt : α → α → Bool}
theorem one : (1 : Int) = ((1 : Nat) : Int) := rfl
end
end Go.Fn
set_option linter.unusedSimpArgs false
set_option linter.unusedVariables false
namespace Go.Fn
open Go.R Go.Sort
section
variable {α : Type} [Inhabited α] {lt : α → α → Bool}
abbrev PdqQ (α : Type) := Option (((List α) × Int × Int × Int × Bool × Bool × Unit) ⊕ ((List α) × Unit ⊕ Empty))
noncomputable def Next (lt : α → α → Bool) (q : PdqQ α) (d : Array α) (a b : Nat) : Prop :=
 (∃ R, q = some (.inr (.inl (R.toList, ()))) ∧ PermIn a b d R ∧ SortedIn lt a b R) ∨
 (∃ (E : Array α) (a' b' : Nat) (L : Int) (wb wp : Bool), q = some (.inl (E.toList, (a' : Int), (b' : Int), L, wb, wp, ())) ∧ E.size = d.size ∧ a' ≤ b' ∧ b' ≤ b ∧ b' - a' < b - a ∧ Below lt a' b' E ∧ ∀ R, PermIn a' b' E R → SortedIn lt a' b' R → PermIn a b d R ∧ SortedIn lt a b R)
theorem Next.mono {q : PdqQ α} {d D : Array α} {a b : Nat} (h : Next lt q D a b) (p : PermIn a b d D) : Next lt q d a b := by
 rcases h with ⟨R, h1, h2, h3⟩ | ⟨E, a', b', L, wb, wp, h1, h2, h3, h4, h5, h6, h7⟩
 ·exact .inl ⟨R, h1, permIn_trans _ _ _ a b p h2, h3⟩
 ·refine .inr ⟨E, a', b', L, wb, wp, h1, by rw [h2, p.1], h3, h4, h5, h6, fun R hR hs => ?_⟩
  obtain ⟨k1, k2⟩ := h7 R hR hs
  exact ⟨permIn_trans _ _ _ a b p k1, k2⟩
end
end Go.Fn
set_option linter.unusedSimpArgs false
set_option linter.unusedVariables false
namespace Go.Fn
open Go.R Go.Sort
noncomputable def ltE (x y : Ev) : Bool := decide (x.1 < y.1) || (decide (x.1 = y.1) && decide (x.2.1 < y.2.1))
end Go.Fn
set_option linter.unusedSimpArgs false
set_option linter.unusedVariables false
namespace Go.Fn
open Go.R Go.Sort
theorem ltE_iff {x y : Ev} : ltE x y = true ↔ x.1 < y.1 ∨ (x.1 = y.1 ∧ x.2.1 < y.2.1) := by
 unfold ltE; simp
theorem ltE_tr {x y z : Ev} (h1 : ltE x y = true) (h2 : ltE y z = true) : ltE x z = true := by rw [ltE_iff] at *; omega
abbrev Srt (l : List Ev) : Prop := l.Pairwise fun x y => ltE x y = true
theorem srt_adj : ∀ (l : List Ev), (∀ n, n + 1 < l.length → ltE (l.getD n zIIIIIII) (l.getD (n + 1) zIIIIIII) = true) → Srt l
 | [], _ => List.Pairwise.nil
 | [x], _ => List.pairwise_singleton _ _
 | x :: y :: l, h => by
  have ih := srt_adj (y :: l) (fun n hn => h (n + 1) (by simpa using hn))
  have hxy : ltE x y = true := h 0 (by simp)
  refine List.Pairwise.cons (fun z hz => ?_) ih
  rcases List.mem_cons.1 hz with rfl | hz
  ·exact hxy
  ·exact ltE_tr hxy ((List.pairwise_cons.1 ih).1 z hz)
theorem jok_srt {l : List Ev} (h : jok l = true) : Srt l := by
 refine srt_adj l fun n hn => ?_
 have := jok_at h hn
 simp only [jokAt, Bool.and_eq_true, ordOk, Bool.not_eq_true', Bool.or_eq_false_iff, Bool.and_eq_false_iff, decide_eq_false_iff_not] at this
 rw [ltE_iff]
 omega
end Go.Fn
set_option linter.unusedSimpArgs false
set_option linter.unusedVariables false
namespace Go.Fn
open Go.R Go.Sort
noncomputable def aStep (node : Int) (s : Int × Int × Nat × Nat) (x : Ev) : Int × Int × Nat × Nat :=
 ((bif decide (x.1 = node) then x.2.1 + 1 else s.1), max s.2.1 (x.2.2.1 + 1), (bif decide (x.1 ≤ node) then s.2.2.2 + 1 else s.2.2.1), s.2.2.2 + 1)
noncomputable def aRun (l : List Ev) (node : Int) : Int × Int × Nat × Nat := l.foldl (aStep node) (1, 1, 0, 0)
noncomputable def newE (l : List Ev) (node kind parcel a b : Int) : Ev := (node, (aRun l node).1, (aRun l node).2.1, kind, parcel, a, b)
noncomputable def withE (l : List Ev) (node kind parcel a b : Int) : List Ev := l.take (aRun l node).2.2.1 ++ [newE l node kind parcel a b] ++ l.drop (aRun l node).2.2.1
noncomputable def addEv (l : List Ev) (node kind parcel a b : Int) : List Ev × Bool := bif jok l then bif jok (withE l node kind parcel a b) then (withE l node kind parcel a b, true) else (l, false) else (l, false)
structure AInv (node : Int) (p : List Ev) (s : Int × Int × Nat × Nat) : Prop where
 c : s.2.2.2 = p.length
 at_le : s.2.2.1 ≤ p.length
 s1 : ∀ x, x ∈ p → x.1 = node → x.2.1 < s.1
 s2 : s.1 = 1 ∨ ∃ x, x ∈ p ∧ x.1 = node ∧ s.1 = x.2.1 + 1
 p1 : ∀ x, x ∈ p → x.2.2.1 < s.2.1
 p2 : s.2.1 = 1 ∨ ∃ x, x ∈ p ∧ s.2.1 = x.2.2.1 + 1
 a1 : ∀ x, x ∈ p.take s.2.2.1 → x.1 ≤ node
 a2 : ∀ x, x ∈ p.drop s.2.2.1 → node < x.1
theorem aInv_step {node : Int} {p : List Ev} {s : Int × Int × Nat × Nat} {x : Ev} (h : AInv node p s) (hp : Srt (p ++ [x])) : AInv node (p ++ [x]) (aStep node s x) := by
 have hlt : ∀ y, y ∈ p → ltE y x = true := fun y hy => (List.pairwise_append.1 hp).2.2 y hy x (List.mem_singleton.2 rfl)
 obtain ⟨h1, h2, h3, h4, h5, h6, h7, h8⟩ := h
 unfold aStep
 refine ⟨by simp [h1], ?_, fun y hy hn => ?_, ?_, fun y hy => ?_, ?_, ?_, ?_⟩
 ·cases decide (x.1 ≤ node) <;> simp <;> omega
 ·simp only []
  rcases List.mem_append.1 hy with hy | hy
  ·by_cases hx : x.1 = node
   ·rw [decide_eq_true hx]
    have := hlt y hy
    rw [ltE_iff] at this
    simp only [cond_true]; omega
   ·rw [decide_eq_false hx]
    exact h3 y hy hn
  ·rw [List.mem_singleton] at hy
   subst hy
   rw [decide_eq_true hn]
   simp only [cond_true]; omega
 ·simp only []
  by_cases hx : x.1 = node
  ·rw [decide_eq_true hx]
   exact .inr ⟨x, by simp, hx, rfl⟩
  ·rw [decide_eq_false hx]
   rcases h4 with h4 | ⟨y, hy, h4⟩
   ·exact .inl h4
   ·exact .inr ⟨y, List.mem_append_left _ hy, h4⟩
 ·simp only []
  rcases List.mem_append.1 hy with hy | hy
  ·have := h5 y hy; omega
  ·rw [List.mem_singleton] at hy
   subst hy; omega
 ·simp only []
  by_cases hm : s.2.1 ≤ x.2.2.1 + 1
  ·exact .inr ⟨x, by simp, by omega⟩
  ·rcases h6 with h6 | ⟨y, hy, h6⟩
   ·exact .inl (by omega)
   ·exact .inr ⟨y, List.mem_append_left _ hy, by omega⟩
 ·simp only []
  by_cases hx : x.1 ≤ node
  ·rw [decide_eq_true hx]
   intro y hy
   rw [cond_true, h1, List.take_of_length_le (by simp)] at hy
   rcases List.mem_append.1 hy with hy | hy
   ·have := hlt y hy; rw [ltE_iff] at this; omega
   ·rw [List.mem_singleton] at hy; subst hy; exact hx
  ·rw [decide_eq_false hx]
   intro y hy
   rw [cond_false, List.take_append_of_le_length h2] at hy
   exact h7 y hy
 ·simp only []
  by_cases hx : x.1 ≤ node
  ·rw [decide_eq_true hx]
   intro y hy
   rw [cond_true, h1, List.drop_of_length_le (by simp)] at hy
   exact absurd hy List.not_mem_nil
  ·rw [decide_eq_false hx]
   intro y hy
   rw [cond_false, List.drop_append_of_le_length h2] at hy
   rcases List.mem_append.1 hy with hy | hy
   ·exact h8 y hy
   ·rw [List.mem_singleton] at hy; subst hy; omega
theorem aInv_run (node : Int) : ∀ (l p : List Ev) (s : Int × Int × Nat × Nat), Srt (p ++ l) → AInv node p s → AInv node (p ++ l) (l.foldl (aStep node) s)
 | [], p, s, _, h => by simpa using h
 | x :: l, p, s, hp, h => by
  have e : p ++ x :: l = (p ++ [x]) ++ l := by simp
  rw [e] at hp ⊢
  exact aInv_run node l (p ++ [x]) (aStep node s x) hp (aInv_step h (List.pairwise_append.1 hp).1)
theorem aRun_inv (node : Int) {l : List Ev} (h : Srt l) : AInv node l (aRun l node) := by
 have := aInv_run node l [] (1, 1, 0, 0) (by simpa using h) ⟨rfl, Nat.le_refl _, fun x hx => absurd hx List.not_mem_nil, .inl rfl, fun x hx => absurd hx List.not_mem_nil, .inl rfl, fun x hx => absurd (List.mem_of_mem_take hx) List.not_mem_nil, fun x hx => absurd (List.mem_of_mem_drop hx) List.not_mem_nil⟩
 exact this
theorem withE_mem {l : List Ev} {node kind parcel a b : Int} (z : Ev) : z ∈ withE l node kind parcel a b ↔ z = newE l node kind parcel a b ∨ z ∈ l := by
 unfold withE
 rw [List.mem_append, List.mem_append, List.mem_singleton]
 constructor
 ·rintro ((h | h) | h)
  ·exact .inr (List.mem_of_mem_take h)
  ·exact .inl h
  ·exact .inr (List.mem_of_mem_drop h)
 ·rintro (h | h)
  ·exact .inl (.inr h)
  ·rw [← List.take_append_drop (aRun l node).2.2.1 l, List.mem_append] at h
   rcases h with h | h
   ·exact .inl (.inl h)
   ·exact .inr h
theorem withE_len {l : List Ev} (h : Srt l) (node kind parcel a b : Int) : (withE l node kind parcel a b).length = l.length + 1 := by
 have := (aRun_inv node h).at_le
 unfold withE
 simp only [List.length_append, List.length_take, List.length_drop, List.length_singleton]
 omega
end Go.Fn
set_option linter.unusedSimpArgs false
set_option linter.unusedVariables false
namespace Go.Fn
open Go.R Go.Sort
structure JInv (n : Nat) (base : List Ev) (S : Int → Prop) (l : List Ev) : Prop where
 j : jok l = true
 len : l.length ≤ n
 st : ∀ x, x ∈ l → x.2.2.1 ≤ (n : Int)
 gap : ∀ x, x ∈ l → ∀ s : Int, 1 ≤ s → s ≤ x.2.1 → ∃ y, y ∈ l ∧ y.1 = x.1 ∧ y.2.1 = s
 sub : ∀ x, x ∈ base → x ∈ l
 new : ∀ x, x ∈ l → x ∈ base ∨ S x.1
theorem JInv.mono {n m : Nat} {base : List Ev} {S : Int → Prop} {l : List Ev} (h : JInv n base S l) (hm : n ≤ m) : JInv m base S l :=
 ⟨h.j, by have := h.len; omega, fun x hx => by have := h.st x hx; omega, h.gap, h.sub, h.new⟩
theorem JInv.add {n : Nat} {base : List Ev} {S : Int → Prop} {l : List Ev} (h : JInv n base S l) {node : Int} (hS : S node) (kind parcel a b : Int) : JInv (n + 1) base S (addEv l node kind parcel a b).1 := by
 unfold addEv
 rw [h.j]
 simp only [cond_true]
 cases hw : jok (withE l node kind parcel a b) with
 | false => exact h.mono (Nat.le_succ _)
 | true =>
  have hs := jok_srt h.j
  have hi := aRun_inv node hs
  simp only [cond_true]
  refine ⟨hw, by rw [withE_len hs]; have := h.len; omega, fun x hx => ?_, fun x hx s h1 h2 => ?_, fun x hx => (withE_mem x).2 (.inr (h.sub x hx)), fun x hx => ?_⟩
  ·rcases (withE_mem x).1 hx with e | e
   ·rw [e]
    show (aRun l node).2.1 ≤ _
    rcases hi.p2 with p | ⟨y, hy, p⟩
    ·rw [p]; omega
    ·rw [p]; have := h.st y hy; omega
   ·have := h.st x e; omega
  ·rcases (withE_mem x).1 hx with e | e
   ·subst e
    have h2 : s ≤ (aRun l node).1 := h2
    by_cases e : s = (aRun l node).1
    ·exact ⟨_, hx, rfl, e.symm⟩
    ·rcases hi.s2 with p | ⟨y, hy, q, p⟩
     ·omega
     ·obtain ⟨z, hz, e1, e2⟩ := h.gap y hy s h1 (by omega)
      exact ⟨z, (withE_mem z).2 (.inr hz), by rw [e1, q]; rfl, e2⟩
   ·obtain ⟨z, hz, e1, e2⟩ := h.gap x e s h1 h2
    exact ⟨z, (withE_mem z).2 (.inr hz), e1, e2⟩
  ·rcases (withE_mem x).1 hx with e | e
   ·rw [e]; exact .inr hS
   ·exact h.new x e
end Go.Fn
set_option linter.unusedSimpArgs false
set_option linter.unusedVariables false
namespace Go.Fn
open Go.R
theorem hasI_iff {l : List Int} {x : Int} : hasI l x = true ↔ x ∈ l := by
 unfold hasI
 rw [Bool.not_eq_true', ← Bool.not_eq_true, allFrom_iff]
 constructor
 ·intro h
  refine Decidable.byContradiction fun hn => h fun m _ hm => ?_
  unfold nat
  rw [Bool.not_eq_true', ← Bool.not_eq_true]
  intro he
  have he : l.getD m zI = x := eql_eq he
  exact hn (he ▸ getD_mem (by omega) zI)
 ·intro h hall
  obtain ⟨m, hm, rfl⟩ := List.getElem_of_mem h
  have := hall m (Nat.zero_le _) (by omega)
  unfold nat at this
  rw [List.getD_eq_getElem?_getD, List.getElem?_eq_getElem hm] at this
  simp [rCmp] at this
theorem orderOk_iff {a0 a1 : Int} {g : List (List Int)} {s : List Stp} {o : List Int} : orderOk a0 a1 g s o = true ↔ roundOk a0 a1 g s = true ∧ (∀ x, x ∈ o → 0 ≤ x ∧ x < (s.length : Int)) ∧ o.Pairwise (· ≠ ·) := by
  constructor
  · intro h
    refine ⟨orderOk_round h, fun x hx => ?_, ?_⟩
    · obtain ⟨m, hm, rfl⟩ := List.getElem_of_mem hx
      have := orderOk_at h hm
      rwa [List.getD_eq_getElem?_getD, List.getElem?_eq_getElem hm] at this
    · unfold orderOk at h
      rw [Bool.and_eq_true] at h
      rw [List.pairwise_iff_getElem]
      intro i j hi hj hij he
      have := (allFrom_iff _ _).1 h.2 j (Nat.zero_le _) (by omega)
      unfold ordAt at this
      rw [Bool.and_eq_true, Bool.not_eq_true', ← Bool.not_eq_true, hasI_iff] at this
      refine this.2 ?_
      rw [List.getD_eq_getElem?_getD, List.getElem?_eq_getElem hj]
      show o[j] ∈ o.take j
      rw [← he]
      exact List.mem_take_iff_getElem.2 ⟨i, by omega, rfl⟩
  · intro ⟨h1, h2, h3⟩
    have hr := roundOk_rows h1
    unfold orderOk
    rw [Bool.and_eq_true]
    refine ⟨h1, (allFrom_iff _ _).2 fun m _ hm => ?_⟩
    have hm : m < o.length := by omega
    have e : rArith .sub .i64 (rLen s) 1 = (s.length : Int) - 1 := sub64 (by unfold rLen; omega) (by unfold rLen; omega)
    have hx := h2 _ (getD_mem hm zI)
    unfold ordAt
    rw [Bool.and_eq_true, inB_iff, e, Bool.not_eq_true', ← Bool.not_eq_true, hasI_iff]
    refine ⟨by omega, fun hmem => ?_⟩
    obtain ⟨i, hi, he⟩ := List.mem_take_iff_getElem.1 hmem
    rw [List.getD_eq_getElem?_getD, List.getElem?_eq_getElem hm] at he
    exact List.pairwise_iff_getElem.1 h3 i m (by omega) hm (by omega) he
section
variable {a0 a1 : Int} {g : List (List Int)} {s : List Stp}
noncomputable def lg (g : List (List Int)) (p q : Int) : Int := leg g p.toNat q.toNat
theorem lg_facts (h : roundOk a0 a1 g s = true) {p q : Int} (hp : 0 ≤ p ∧ p ≤ s.length) (hq : 0 ≤ q ∧ q ≤ s.length) : 0 ≤ lg g p q ∧ lg g p q ≤ 200 := by
 obtain ⟨h6, hg, hrow, _, _, _⟩ := roundOk_rows h
 exact (hrow p.toNat (by omega)).2 q.toNat (by omega)
theorem stop_facts (h : roundOk a0 a1 g s = true) {i : Int} (hi : 0 ≤ i ∧ i < s.length) : (0 ≤ (rGet zIIIII s i).1 ∧ (rGet zIIIII s i).1 ≤ 20000) ∧ (0 ≤ (rGet zIIIII s i).2.1 ∧ (rGet zIIIII s i).2.1 ≤ 20000) ∧ (0 ≤ (rGet zIIIII s i).2.2.1 ∧ (rGet zIIIII s i).2.2.1 ≤ 200) ∧ (0 ≤ (rGet zIIIII s i).2.2.2.1 ∧ (rGet zIIIII s i).2.2.2.1 ≤ 1000) ∧ (0 ≤ (rGet zIIIII s i).2.2.2.2 ∧ (rGet zIIIII s i).2.2.2.2 ≤ 1000) := by
 obtain ⟨_, _, _, hst, _, _⟩ := roundOk_rows h
 have := hst i.toNat (by omega)
 unfold stopOk at this
 simp only [Bool.and_eq_true, inB_iff] at this
 exact ⟨this.1, this.2.1, this.2.2.2.1, this.2.2.2.2.1, this.2.2.2.2.2⟩
structure Bd (s : List Stp) (k : Int) (st : RSt) : Prop where
 e0 : 0 ≤ st.2.2.1
 e1 : st.2.2.1 ≤ 20200
 p0 : 0 ≤ st.2.2.2.2.2
 p1 : st.2.2.2.2.2 ≤ s.length
 l0 : -(1000 * k) ≤ st.1
 l1 : st.1 ≤ 1000 * k
theorem maxT (a b : Int) : rMxmn true a b = max a b := by unfold rMxmn; simp only [cond_true]; omega
theorem arr_eq (h : roundOk a0 a1 g s = true) {st : RSt} {k : Int} (hb : Bd s k st) {i : Int} (hi : 0 ≤ i ∧ i < s.length) : arr g st i = st.2.2.1 + lg g st.2.2.2.2.2 (i + 1) := by
 have hs6 := (roundOk_rows h).1
 have := lg_facts h (p := st.2.2.2.2.2) (q := i + 1) ⟨hb.p0, hb.p1⟩ (by omega)
 have e1 := hb.e0
 have e2 := hb.e1
 unfold arr
 rw [show rArith .add .i64 i 1 = i + 1 from add1 hi.1 (by omega)]
 show rArith .add .i64 st.2.2.1 (lg g st.2.2.2.2.2 (i + 1)) = _
 exact add64 (by omega) (by omega)
theorem next_eq (h : roundOk a0 a1 g s = true) {st : RSt} {k : Int} (hk0 : 0 ≤ k) (hk : k ≤ 1000000) (hb : Bd s k st) {i : Int} (hi : 0 ≤ i ∧ i < s.length) (hl : late g s st i = false) :
  (next g s st i).1 = st.1 + (rGet zIIIII s i).2.2.2.2 - (rGet zIIIII s i).2.2.2.1 ∧ (next g s st i).2.2.1 = max (st.2.2.1 + lg g st.2.2.2.2.2 (i + 1)) (rGet zIIIII s i).1 + (rGet zIIIII s i).2.2.1 ∧ (next g s st i).2.2.2.1 = max st.2.2.2.1 (next g s st i).1 ∧ (next g s st i).2.2.2.2.2 = i + 1 ∧ Bd s (k + 1) (next g s st i) ∧ st.2.2.1 + lg g st.2.2.2.2.2 (i + 1) ≤ (rGet zIIIII s i).2.1 := by
 have hs6 := (roundOk_rows h).1
 obtain ⟨f1, f2, f3, f4, f5⟩ := stop_facts h hi
 have ha := arr_eq h hb hi
 have hlg := lg_facts h (p := st.2.2.2.2.2) (q := i + 1) ⟨hb.p0, hb.p1⟩ (by omega)
 have hle : st.2.2.1 + lg g st.2.2.2.2.2 (i + 1) ≤ (rGet zIIIII s i).2.1 := by
  unfold late at hl
  rw [ha] at hl
  have := of_decide_eq_false hl
  omega
 have e0 := hb.e0
 have e1 := hb.e1
 have l0 := hb.l0
 have l1 := hb.l1
 have x1 : rArith .sub .i64 (rGet zIIIII s i).2.2.2.2 (rGet zIIIII s i).2.2.2.1 = (rGet zIIIII s i).2.2.2.2 - (rGet zIIIII s i).2.2.2.1 := sub64 (by omega) (by omega)
 have x2 : (next g s st i).1 = st.1 + (rGet zIIIII s i).2.2.2.2 - (rGet zIIIII s i).2.2.2.1 := by
  show rArith .add .i64 st.1 (rArith .sub .i64 (rGet zIIIII s i).2.2.2.2 (rGet zIIIII s i).2.2.2.1) = _
  rw [x1, add64 (by omega) (by omega)]; omega
 have x3 : (next g s st i).2.2.1 = max (st.2.2.1 + lg g st.2.2.2.2.2 (i + 1)) (rGet zIIIII s i).1 + (rGet zIIIII s i).2.2.1 := by
  show rArith .add .i64 (rMxmn true (arr g st i) (rGet zIIIII s i).1) (rGet zIIIII s i).2.2.1 = _
  rw [ha, maxT, add64 (by omega) (by omega)]
 have x4 : (next g s st i).2.2.2.2.2 = i + 1 := add1 hi.1 (by omega)
 refine ⟨x2, x3, ?_, x4, ⟨by rw [x3]; omega, by rw [x3]; omega, by rw [x4]; omega, by rw [x4]; omega, by rw [x2]; omega, by rw [x2]; omega⟩, hle⟩
 show rMxmn true st.2.2.2.1 _ = _
 rw [maxT]; rfl
structure Rel (g : List (List Int)) (s : List Stp) (k c : Int) (st' st : RSt) : Prop where
 b' : Bd s k st'
 b : Bd s k st
 t : ∀ q : Int, 0 ≤ q → q ≤ s.length → st'.2.2.1 + lg g st'.2.2.2.2.2 q ≤ st.2.2.1 + lg g st.2.2.2.2.2 q
 l : st'.1 ≤ st.1 - c
 p : st'.2.2.2.1 ≤ st.2.2.2.1
theorem rel_next (h : roundOk a0 a1 g s = true) {k c : Int} (hk0 : 0 ≤ k) (hk : k ≤ 1000000) (hc : 0 ≤ c) {st' st : RSt} (hr : Rel g s k c st' st) {i : Int} (hi : 0 ≤ i ∧ i < s.length) (hl : late g s st i = false) : late g s st' i = false ∧ Rel g s (k + 1) c (next g s st' i) (next g s st i) := by
 obtain ⟨n1, n2, n3, n4, n5, n6⟩ := next_eq h hk0 hk hr.b hi hl
 have ht := hr.t (i + 1) (by omega) (by omega)
 have hl' : late g s st' i = false := by
  unfold late
  rw [arr_eq h hr.b' hi]
  exact decide_eq_false (by omega)
 obtain ⟨m1, m2, m3, m4, m5, m6⟩ := next_eq h hk0 hk hr.b' hi hl'
 have hrl := hr.l
 have hrp := hr.p
 refine ⟨hl', m5, n5, fun q q1 q2 => ?_, by rw [m1, n1]; omega, by rw [m3, n3, m1, n1]; omega⟩
 rw [m2, n2, m4, n4]; omega
theorem rel_go (h : roundOk a0 a1 g s = true) {c : Int} (hc : 0 ≤ c) : ∀ (o : List Int) (k : Int) (st' st fin : RSt), 0 ≤ k → k + o.length ≤ 1000000 → (∀ x, x ∈ o → 0 ≤ x ∧ x < (s.length : Int)) → Rel g s k c st' st → rideGo g s o st = .inl fin → ∃ fin', rideGo g s o st' = .inl fin' ∧ Rel g s (k + o.length) c fin' fin
 | [], k, st', st, fin, _, _, _, hr, hg => by
  injection hg with hg; subst hg
  exact ⟨st', rfl, by simpa using hr⟩
 | i :: o, k, st', st, fin, hk0, hk, hv, hr, hg => by
  rw [List.length_cons] at hk
  simp only [rideGo] at hg ⊢
  cases hl : late g s st i with
  | true => rw [hl] at hg; cases hg
  | false =>
   rw [hl] at hg
   obtain ⟨hl', hr'⟩ := rel_next h hk0 (by omega) hc hr (hv i (List.mem_cons_self ..)) hl
   obtain ⟨fin', h1, h2⟩ := rel_go h hc o (k + 1) _ _ fin (by omega) (by omega) (fun x hx => hv x (List.mem_cons_of_mem _ hx)) hr' hg
   rw [hl']
   refine ⟨fin', h1, ?_⟩
   have e : k + ((i :: o).length : Int) = k + 1 + (o.length : Int) := by rw [List.length_cons]; omega
   rw [e]; exact h2
theorem go_app (g : List (List Int)) (s : List Stp) : ∀ (P S : List Int) (st : RSt), rideGo g s (P ++ S) st = match rideGo g s P st with | .inl st' => rideGo g s S st' | .inr st' => .inr st'
 | [], S, st => rfl
 | i :: P, S, st => by
  simp only [List.cons_append, rideGo]
  cases late g s st i with
  | true => rfl
  | false => exact go_app g s P S _
theorem load_acc (h : roundOk a0 a1 g s = true) : ∀ (o : List Int) (acc k : Int), 0 ≤ k → k + o.length ≤ 1000000 → 0 ≤ acc → acc ≤ 1000 * k → (∀ x, x ∈ o → 0 ≤ x ∧ x < (s.length : Int)) → o.foldl (load1 s) acc = acc + (o.map fun i => (rGet zIIIII s i).2.2.2.1).sum ∧ 0 ≤ o.foldl (load1 s) acc ∧ o.foldl (load1 s) acc ≤ 1000 * (k + o.length)
 | [], acc, k, _, _, h0, h1, _ => by simp; omega
 | i :: o, acc, k, hk0, hk, h0, h1, hv => by
  have f4 := (stop_facts h (hv i (List.mem_cons_self ..))).2.2.2.1
  rw [List.length_cons] at hk
  have e : load1 s acc i = acc + (rGet zIIIII s i).2.2.2.1 := add64 (by omega) (by omega)
  obtain ⟨r1, r2, r3⟩ := load_acc h o (acc + (rGet zIIIII s i).2.2.2.1) (k + 1) (by omega) (by omega) (by omega) (by omega) (fun x hx => hv x (List.mem_cons_of_mem _ hx))
  rw [List.foldl_cons, e]
  refine ⟨by rw [r1]; simp; omega, r2, ?_⟩
  rw [List.length_cons]
  have : k + 1 + (o.length : Int) = k + ((o.length + 1 : Nat) : Int) := by omega
  rw [← this]; exact r3
end
end Go.Fn
set_option linter.unusedSimpArgs false
set_option linter.unusedVariables false
namespace Go.Fn
open Go.R
theorem roundOk_of {a0 a1 : Int} {g : List (List Int)} {s : List Stp} (h0 : 0 ≤ a0 ∧ a0 ≤ 20000) (h1 : 0 ≤ a1 ∧ a1 ≤ 1000) (hs : s.length ≤ 6) (hg : g.length = s.length + 1) (hr : ∀ r, r ∈ g → r.length = g.length ∧ ∀ x, x ∈ r → 0 ≤ x ∧ x ≤ 200) (ht : ∀ x, x ∈ s → stopOk x = true) : roundOk a0 a1 g s = true := by
 unfold roundOk
 rw [add64 (a := rLen s) (by unfold rLen; omega) (by unfold rLen; omega)]
 simp only [Bool.and_eq_true]
 refine ⟨inB_iff.2 h0, inB_iff.2 h1, ?_, ?_, (allFrom_iff _ _).2 fun m _ hm => ?_, (allFrom_iff _ _).2 fun m _ hm => ht _ (getD_mem (by omega) _)⟩
 ·rw [Bool.not_eq_true']; exact decide_eq_false (by unfold rLen; omega)
 ·rw [Bool.not_eq_true']
  have : rLen g = rLen s + 1 := by unfold rLen; omega
  rw [this]; simp [rCmp]
 ·obtain ⟨r1, r2⟩ := hr _ (getD_mem (show m < g.length by omega) zLIl)
  unfold rowAt
  have : rCmp .neq (rLen (g.getD m zLIl)) (rLen g) = false := by unfold rLen; rw [r1]; simp [rCmp]
  rw [this]
  simp only [cond_false]
  refine (allFrom_iff _ _).2 fun q _ hq => ?_
  exact inB_iff.2 (r2 _ (getD_mem (by omega) zI))
theorem round_yl (b : List Int) (hb : b.length ≤ 1048576) (i h : Int) (hi : 0 ≤ i) : Yl (spec_l07Round b i h) fun y => roundOk y.1 y.2.1 y.2.2.1 y.2.2.2.1 = true ∧ y.2.2.2.1.length ≤ 4 ∧ y.2.2.2.2.1 = b ∧ 0 ≤ y.2.2.2.2.2.1 := by
 unfold spec_l07Round
 refine (below_yl b hb i h 5 hi (by omega)).bind fun y0 ⟨a1, a2, a3, a4⟩ => ?_
 have a2 : y0.1 ≤ 4 := a2
 rw [a3]
 refine (below_yl b hb _ _ 40 a4 (by omega)).bind fun y1 ⟨b1, b2, b3, b4⟩ => ?_
 have b2 : y1.1 ≤ 39 := b2
 rw [b3]
 refine (pickInt_yl b hb _ _ [4, 8, 12, 20, 1000] b4 (by simp) (by simp)).bind fun y2 ⟨c1, c3, c4⟩ => ?_
 have c1 : 0 ≤ y2.1 ∧ y2.1 ≤ 1000 := by
  have : y2.1 = 4 ∨ y2.1 = 8 ∨ y2.1 = 12 ∨ y2.1 = 20 ∨ y2.1 = 1000 := by simpa using c1
  omega
 rw [c3]
 refine (once_yl b hb _ _ 2 c4 (by omega)).bind fun y3 ⟨d3, d4⟩ => ?_
 rw [d3]
 obtain ⟨n, hn⟩ : ∃ n : Nat, y0.1 = (n : Int) := ⟨y0.1.toNat, by omega⟩
 rw [hn] at a2 ⊢
 generalize y1.1 = bg at b1 b2 ⊢
 generalize y2.1 = rm at c1 ⊢
 generalize y3.1 = flat
 have hl0 : Yl (spec_l07Round_l0 ((n : Int), flat, ()) (b, y3.2.2.1, y3.2.2.2.1, 0, 0, [], [], bg, rm, [], [], [], 0, ())) fun q => ∃ (i h : Int) (pl : List Int), 0 ≤ i ∧ pl.length = n + 1 ∧ (∀ x, x ∈ pl → 0 ≤ x ∧ x ≤ 8) ∧ q = .inl (b, i, h, 0, 0, [], [], bg, rm, [], [], pl, ()) := by
  unfold spec_l07Round_l0
  refine Yl.loop (fun x => ∃ (i h : Int) (pl : List Int), 0 ≤ i ∧ pl.length ≤ n + 1 ∧ (∀ x, x ∈ pl → 0 ≤ x ∧ x ≤ 8) ∧ x = (b, i, h, 0, 0, [], [], bg, rm, [], [], pl, (pl.length : Int), ())) (fun x => n + 1 - x.2.2.2.2.2.2.2.2.2.2.2.1.length) (fun x hx => ?_) big _ ⟨_, _, [], d4, Nat.zero_le _, fun x hx => absurd hx List.not_mem_nil, rfl⟩ (lt_big (by show n + 1 - 0 < _; omega))
  obtain ⟨i, h, pl, x1, x2, x3, rfl⟩ := hx
  unfold spec_l07Round_b0
  refine .cond (fun h1 => ?_) fun h1 => ?_
  ·have h1 : (pl.length : Int) ≤ n := of_decide_eq_true h1
   refine (below_yl b hb _ _ 9 x1 (by omega)).bind fun z ⟨e1, e2, e3, e4⟩ => ?_
   have e2 : z.1 ≤ 8 := e2
   refine .guard (small_of (by simp; omega)) (.ret ⟨⟨z.2.2.1, z.2.2.2.1, pl ++ [z.1], e4, by simp; omega, fun x hx => ?_, ?_⟩, ?_⟩)
   ·rcases List.mem_append.1 hx with hx | hx
    ·exact x3 x hx
    ·rw [List.mem_singleton] at hx; subst hx; exact ⟨e1, e2⟩
   ·rw [e3, succ64 (n := pl.length) (by omega), List.length_append]; rfl
   ·show n + 1 - (pl ++ [z.1]).length < n + 1 - pl.length
    rw [List.length_append]; simp; omega
  ·have h1 : ¬ ((pl.length : Int) ≤ n) := of_decide_eq_false h1
   exact .ret ⟨i, h, pl, x1, by omega, x3, rfl⟩
 refine hl0.bind fun q hq => ?_
 obtain ⟨i1, h1, pl, p1, p2, p3, rfl⟩ := hq
 simp only [Sum.elim_inl]
 have hrow : ∀ (i h : Int) (lgs : List (List Int)) (r : Nat), 0 ≤ i → r ≤ n → Yl (spec_l07Round_l4 ((n : Int), flat, (r : Int), ()) (b, i, h, 0, 0, [], [], bg, rm, lgs, [], pl, [], 0, ())) fun q => ∃ (i h : Int) (row : List Int), 0 ≤ i ∧ row.length = n + 1 ∧ (∀ x, x ∈ row → 0 ≤ x ∧ x ≤ 200) ∧ q = .inl (b, i, h, 0, 0, [], [], bg, rm, lgs, [], pl, row, ()) := by
  intro i h lgs r hi hr
  unfold spec_l07Round_l4
  refine Yl.loop (fun x => ∃ (i h : Int) (row : List Int), 0 ≤ i ∧ row.length ≤ n + 1 ∧ (∀ x, x ∈ row → 0 ≤ x ∧ x ≤ 200) ∧ x = (b, i, h, 0, 0, [], [], bg, rm, lgs, [], pl, row, (row.length : Int), ())) (fun x => n + 1 - x.2.2.2.2.2.2.2.2.2.2.2.2.1.length) (fun x hx => ?_) big _ ⟨_, _, [], hi, Nat.zero_le _, fun x hx => absurd hx List.not_mem_nil, rfl⟩ (lt_big (by show n + 1 - 0 < _; omega))
  obtain ⟨i, h, row, x1, x2, x3, rfl⟩ := hx
  unfold spec_l07Round_b4
  refine .cond (fun h1 => ?_) fun h1 => ?_
  ·have h1 : (row.length : Int) ≤ n := of_decide_eq_true h1
   have m1 := p3 _ (getD_mem (show r < pl.length by omega) zI)
   have m2 := p3 _ (getD_mem (show row.length < pl.length by omega) zI)
   refine .guard (inR_lt (show r < pl.length by omega)) (.guard (inR_lt (show row.length < pl.length by omega)) (.guard (inR_lt (show row.length < pl.length by omega)) (.guard (inR_lt (show r < pl.length by omega)) (.lets ?_))))
   simp only [get_nat]
   refine .cond (fun _ => ?_) fun _ => ?_
   ·refine (below_yl b hb _ _ 9 x1 (by omega)).bind fun z ⟨e1, e2, e3, e4⟩ => ?_
    have e2 : z.1 ≤ 8 := e2
    refine .guard (small_of (by simp; omega)) (.ret ⟨⟨z.2.2.1, z.2.2.2.1, row ++ [z.1], e4, by simp; omega, fun x hx => ?_, ?_⟩, ?_⟩)
    ·rcases List.mem_append.1 hx with hx | hx
     ·exact x3 x hx
     ·rw [List.mem_singleton] at hx; subst hx; omega
    ·rw [e3, succ64 (n := row.length) (by omega), List.length_append]; rfl
    ·show n + 1 - (row ++ [z.1]).length < n + 1 - row.length
     rw [List.length_append]; simp; omega
   ·have hv : 0 ≤ rMxmn true (rArith .sub .i64 (pl.getD r zI) (pl.getD row.length zI)) (rArith .sub .i64 (pl.getD row.length zI) (pl.getD r zI)) ∧ rMxmn true (rArith .sub .i64 (pl.getD r zI) (pl.getD row.length zI)) (rArith .sub .i64 (pl.getD row.length zI) (pl.getD r zI)) ≤ 200 := by
     rw [sub64 (by omega) (by omega), sub64 (by omega) (by omega), maxT]; omega
    generalize rMxmn true (rArith .sub .i64 (pl.getD r zI) (pl.getD row.length zI)) (rArith .sub .i64 (pl.getD row.length zI) (pl.getD r zI)) = v at hv ⊢
    refine .guard (small_of (by simp; omega)) (.ret ⟨⟨i, h, row ++ [v], x1, by simp; omega, fun x hx => ?_, ?_⟩, ?_⟩)
    ·rcases List.mem_append.1 hx with hx | hx
     ·exact x3 x hx
     ·rw [List.mem_singleton] at hx; subst hx; exact hv
    ·rw [succ64 (n := row.length) (by omega), List.length_append]; rfl
    ·show n + 1 - (row ++ [v]).length < n + 1 - row.length
     rw [List.length_append]; simp; omega
  ·have h1 : ¬ ((row.length : Int) ≤ n) := of_decide_eq_false h1
   exact .ret ⟨i, h, row, x1, by omega, x3, rfl⟩
 have hl2 : Yl (spec_l07Round_l2 ((n : Int), flat, ()) (b, i1, h1, 0, 0, [], [], bg, rm, [], [], pl, 0, ())) fun q => ∃ (i h : Int) (lgs : List (List Int)), 0 ≤ i ∧ lgs.length = n + 1 ∧ (∀ r, r ∈ lgs → r.length = n + 1 ∧ ∀ x, x ∈ r → 0 ≤ x ∧ x ≤ 200) ∧ q = .inl (b, i, h, 0, 0, [], [], bg, rm, lgs, [], ()) := by
  unfold spec_l07Round_l2
  refine Yl.loop (fun x => ∃ (i h : Int) (lgs : List (List Int)), 0 ≤ i ∧ lgs.length ≤ n + 1 ∧ (∀ r, r ∈ lgs → r.length = n + 1 ∧ ∀ x, x ∈ r → 0 ≤ x ∧ x ≤ 200) ∧ x = (b, i, h, 0, 0, [], [], bg, rm, lgs, [], pl, (lgs.length : Int), ())) (fun x => n + 1 - x.2.2.2.2.2.2.2.2.2.1.length) (fun x hx => ?_) big _ ⟨_, _, [], p1, Nat.zero_le _, fun x hx => absurd hx List.not_mem_nil, rfl⟩ (lt_big (by show n + 1 - 0 < _; omega))
  obtain ⟨i, h, lgs, x1, x2, x3, rfl⟩ := hx
  unfold spec_l07Round_b2
  refine .cond (fun h1 => ?_) fun h1 => ?_
  ·have h1 : (lgs.length : Int) ≤ n := of_decide_eq_true h1
   refine (hrow i h lgs lgs.length x1 (by omega)).bind fun q hq => ?_
   obtain ⟨i2, h2, row, r1, r2, r3, rfl⟩ := hq
   simp only [Sum.elim_inl]
   refine .guard (small_of (by simp; omega)) (.ret ⟨⟨i2, h2, lgs ++ [row], r1, by simp; omega, fun r hr => ?_, ?_⟩, ?_⟩)
   ·rcases List.mem_append.1 hr with hr | hr
    ·exact x3 r hr
    ·rw [List.mem_singleton] at hr; subst hr; exact ⟨r2, r3⟩
   ·rw [succ64 (n := lgs.length) (by omega), List.length_append]; rfl
   ·show n + 1 - (lgs ++ [row]).length < n + 1 - lgs.length
    rw [List.length_append]; simp; omega
  ·have h1 : ¬ ((lgs.length : Int) ≤ n) := of_decide_eq_false h1
   exact .ret ⟨i, h, lgs, x1, by omega, x3, rfl⟩
 refine hl2.bind fun q hq => ?_
 obtain ⟨i2, h2, lgs, q1, q2, q3, rfl⟩ := hq
 simp only [Sum.elim_inl]
 have hl6 : Yl (spec_l07Round_l6 ((n : Int), ()) (b, i2, h2, 0, 0, [], [], bg, rm, lgs, [], 0, ())) fun q => ∃ (i h : Int) (st : List Stp), 0 ≤ i ∧ st.length = n ∧ (∀ x, x ∈ st → stopOk x = true) ∧ q = .inl (b, i, h, 0, 0, [], [], bg, rm, lgs, st, ()) := by
  unfold spec_l07Round_l6
  refine Yl.loop (fun x => ∃ (i h : Int) (st : List Stp), 0 ≤ i ∧ st.length ≤ n ∧ (∀ x, x ∈ st → stopOk x = true) ∧ x = (b, i, h, 0, 0, [], [], bg, rm, lgs, st, (st.length : Int), ())) (fun x => n - x.2.2.2.2.2.2.2.2.2.2.1.length) (fun x hx => ?_) big _ ⟨_, _, [], q1, Nat.zero_le _, fun x hx => absurd hx List.not_mem_nil, rfl⟩ (lt_big (by show n - 0 < _; omega))
  obtain ⟨i, h, st, x1, x2, x3, rfl⟩ := hx
  unfold spec_l07Round_b6
  refine .cond (fun h1 => ?_) fun h1 => ?_
  ·have h1 : (st.length : Int) < n := of_decide_eq_true h1
   refine (below_yl b hb _ _ 50 x1 (by omega)).bind fun z0 ⟨e1, e2, e3, e4⟩ => ?_
   have e2 : z0.1 ≤ 49 := e2
   rw [e3]
   refine (below_yl b hb _ _ 60 e4 (by omega)).bind fun z1 ⟨f1, f2, f3, f4⟩ => ?_
   have f2 : z1.1 ≤ 59 := f2
   rw [f3]
   refine (below_yl b hb _ _ 4 f4 (by omega)).bind fun z2 ⟨g1, g2, g3, g4⟩ => ?_
   have g2 : z2.1 ≤ 3 := g2
   rw [g3]
   refine (below_yl b hb _ _ 6 g4 (by omega)).bind fun z3 ⟨k1, k2, k3, k4⟩ => ?_
   have k2 : z3.1 ≤ 5 := k2
   rw [k3]
   refine (below_yl b hb _ _ 6 k4 (by omega)).bind fun z4 ⟨l1, l2, l3, l4⟩ => ?_
   have l2 : z4.1 ≤ 5 := l2
   have ha : rArith .add .i64 (rArith .add .i64 z0.1 10) z1.1 = z0.1 + 10 + z1.1 := by rw [add64 (a := z0.1) (by omega) (by omega), add64 (by omega) (by omega)]
   rw [ha]
   refine .guard (small_of (by simp; omega)) (.ret ⟨⟨z4.2.2.1, z4.2.2.2.1, st ++ [(z0.1, z0.1 + 10 + z1.1, z2.1, z3.1, z4.1)], l4, by simp; omega, fun x hx => ?_, ?_⟩, ?_⟩)
   ·rcases List.mem_append.1 hx with hx | hx
    ·exact x3 x hx
    ·rw [List.mem_singleton] at hx
     subst hx
     unfold stopOk
     simp only [Bool.and_eq_true, inB_iff, Bool.not_eq_true']
     exact ⟨by omega, by omega, decide_eq_false (by omega), by omega, by omega, by omega⟩
   ·rw [l3, succ64 (n := st.length) (by omega), List.length_append]; rfl
   ·show n - (st ++ [_]).length < n - st.length
    rw [List.length_append]; simp; omega
  ·have h1 : ¬ ((st.length : Int) < n) := of_decide_eq_false h1
   exact .ret ⟨i, h, st, x1, by omega, x3, rfl⟩
 refine hl6.bind fun q hq => ?_
 obtain ⟨i3, h3, st, s0, s1, s2, rfl⟩ := hq
 refine .ret ⟨roundOk_of (show 0 ≤ bg ∧ bg ≤ 20000 by omega) c1 (by show st.length ≤ 6; omega) (by show lgs.length = st.length + 1; omega) (fun r hr => ?_) s2, by show st.length ≤ 4; omega, rfl, s0⟩
 obtain ⟨r1, r2⟩ := q3 r hr
 exact ⟨by rw [r1, q2], r2⟩
end Go.Fn
set_option linter.unusedVariables false
namespace Go.Fn
open Go.R
noncomputable def spec_l07Any (a0 : (List (Int))) (a1 : Int) (a2 : Int) : Option (Int × Int × (List (List (Int))) × (List (Int × Int × Int × Int × Int)) × (List (Int)) × Int × Int × Unit) :=
 ((spec_l07Round a0 a1 a2).bind fun y0 => ((spec_l01Below y0.2.2.2.2.1 y0.2.2.2.2.2.1 y0.2.2.2.2.2.2.1 (rLen y0.2.2.1)).bind fun y1 => ((spec_l01Below y1.2.1 y1.2.2.1 y1.2.2.2.1 (16 : Int)).bind fun y2 => (bif (rCmp .eql y2.1 (0 : Int)) then ((spec_l01PickInt y2.2.1 y2.2.2.1 y2.2.2.2.1 (List.append (α := Int) (List.append (α := Int) (List.append (α := Int) ([] : List (Int)) [(-1 : Int)]) [(20000 : Int)]) [(20001 : Int)])).bind fun y3 => some (y3.1, y0.2.1, y0.2.2.1, y0.2.2.2.1, y3.2.1, y3.2.2.1, y3.2.2.2.1, ())) else (bif (rCmp .eql y2.1 (1 : Int)) then ((spec_l01PickInt y2.2.1 y2.2.2.1 y2.2.2.2.1 (List.append (α := Int) (List.append (α := Int) (List.append (α := Int) ([] : List (Int)) [(-1 : Int)]) [(0 : Int)]) [(1001 : Int)])).bind fun y3 => some (y0.1, y3.1, y0.2.2.1, y0.2.2.2.1, y3.2.1, y3.2.2.1, y3.2.2.2.1, ())) else (bif (rCmp .eql y2.1 (2 : Int)) then (bif (rInR y0.2.2.1 y1.1) then ((spec_l01PickInt y2.2.1 y2.2.2.1 y2.2.2.2.1 (List.append (α := Int) (List.append (α := Int) (List.append (α := Int) ([] : List (Int)) [(-1 : Int)]) [(200 : Int)]) [(201 : Int)])).bind fun y3 => (bif (rInR (rGet zLIl y0.2.2.1 y1.1) (0 : Int)) then some (y0.1, y0.2.1, (rPut y0.2.2.1 y1.1 (rPut (rGet zLIl y0.2.2.1 y1.1) (0 : Int) y3.1)), y0.2.2.2.1, y3.2.1, y3.2.2.1, y3.2.2.2.1, ()) else none)) else none) else (bif (rCmp .eql y2.1 (3 : Int)) then (bif (rSubOk y0.2.2.1 (1 : Int) (rLen y0.2.2.1)) then some (y0.1, y0.2.1, (rSub y0.2.2.1 (1 : Int) (rLen y0.2.2.1)), y0.2.2.2.1, y2.2.1, y2.2.2.1, y2.2.2.2.1, ()) else none) else (bif (rCmp .eql y2.1 (4 : Int)) then (bif (rCmp .gtr (rLen y0.2.2.2.1) (0 : Int)) then (bif (rInR y0.2.2.2.1 (0 : Int)) then ((spec_l01PickInt y2.2.1 y2.2.2.1 y2.2.2.2.1 (List.append (α := Int) (List.append (α := Int) (List.append (α := Int) (List.append (α := Int) ([] : List (Int)) [(-1 : Int)]) [(20000 : Int)]) [(20001 : Int)]) [(rArith .sub .i64 (rGet zIIIII y0.2.2.2.1 (0 : Int)).1 (1 : Int))])).bind fun y3 => (bif (rInR y0.2.2.2.1 (0 : Int)) then (lets (rPut y0.2.2.2.1 (0 : Int) ((rGet zIIIII y0.2.2.2.1 (0 : Int)).1, y3.1, (rGet zIIIII y0.2.2.2.1 (0 : Int)).2.2.1, (rGet zIIIII y0.2.2.2.1 (0 : Int)).2.2.2.1, (rGet zIIIII y0.2.2.2.1 (0 : Int)).2.2.2.2)) fun v4 => some (y0.1, y0.2.1, y0.2.2.1, v4, y3.2.1, y3.2.2.1, y3.2.2.2.1, ())) else none)) else none) else some (y0.1, y0.2.1, y0.2.2.1, y0.2.2.2.1, y2.2.1, y2.2.2.1, y2.2.2.2.1, ())) else some (y0.1, y0.2.1, y0.2.2.1, y0.2.2.2.1, y2.2.1, y2.2.2.1, y2.2.2.2.1, ())))))))))
noncomputable def spec_l07Order_b0 (k : Int × Unit) (x : (List (Int)) × Int × Int × (List (Int)) × Int × Unit) : Option (((List (Int)) × Int × Int × (List (Int)) × Int × Unit) ⊕ ((List (Int)) × Int × Int × (List (Int)) × Unit ⊕ Empty)) :=
 (bif (rCmp .lss x.2.2.2.2.1 k.1) then ((spec_l01Below x.1 x.2.1 x.2.2.1 (rArith .add .i64 x.2.2.2.2.1 (1 : Int))).bind fun y0 => (bif (rSmall (List.append (α := Int) x.2.2.2.1 (List.append (α := Int) ([] : List (Int)) [x.2.2.2.2.1]))) then (bif (rInR (List.append (α := Int) x.2.2.2.1 (List.append (α := Int) ([] : List (Int)) [x.2.2.2.2.1])) y0.1) then (bif (rInR (List.append (α := Int) x.2.2.2.1 (List.append (α := Int) ([] : List (Int)) [x.2.2.2.2.1])) x.2.2.2.2.1) then (lets (rPut (List.append (α := Int) x.2.2.2.1 (List.append (α := Int) ([] : List (Int)) [x.2.2.2.2.1])) x.2.2.2.2.1 (rGet zI (List.append (α := Int) x.2.2.2.1 (List.append (α := Int) ([] : List (Int)) [x.2.2.2.2.1])) y0.1)) fun v1 => (bif (rInR v1 y0.1) then some (.inl (y0.2.1, y0.2.2.1, y0.2.2.2.1, (rPut v1 y0.1 x.2.2.2.2.1), (rArith .add .i64 x.2.2.2.2.1 (1 : Int)), ())) else none)) else none) else none) else none)) else some (.inr (.inl (x.1, x.2.1, x.2.2.1, x.2.2.2.1, ()))))
noncomputable def spec_l07Order_l0 (k : Int × Unit) (x : (List (Int)) × Int × Int × (List (Int)) × Int × Unit) : Option ((List (Int)) × Int × Int × (List (Int)) × Unit ⊕ Empty) := iter (spec_l07Order_b0 k) big x
noncomputable def spec_l07Order (a0 : (List (Int))) (a1 : Int) (a2 : Int) (a3 : Int) : Option ((List (Int)) × (List (Int)) × Int × Int × Unit) :=
 ((spec_l07Order_l0 (a3, ()) (a0, a1, a2, ([] : List (Int)), (0 : Int), ())).bind fun q0 => (Sum.elim (fun y1 => (bif (rCmp .gtr (rLen y1.2.2.2.1) (0 : Int)) then ((spec_l01Once y1.1 y1.2.1 y1.2.2.1 (4 : Int)).bind fun y2 => (bif y2.1 then ((spec_l01Below y2.2.1 y2.2.2.1 y2.2.2.2.1 (rLen y1.2.2.2.1)).bind fun y3 => (bif (rSubOk y1.2.2.2.1 (0 : Int) y3.1) then ((spec_l01Once y3.2.1 y3.2.2.1 y3.2.2.2.1 (14 : Int)).bind fun y4 => (bif y4.1 then ((spec_l01PickInt y4.2.1 y4.2.2.1 y4.2.2.2.1 (List.append (α := Int) (List.append (α := Int) (List.append (α := Int) ([] : List (Int)) [(-1 : Int)]) [(0 : Int)]) [a3])).bind fun y5 => (bif (rSmall (List.append (α := Int) (rSub y1.2.2.2.1 (0 : Int) y3.1) (List.append (α := Int) ([] : List (Int)) [y5.1]))) then some ((List.append (α := Int) (rSub y1.2.2.2.1 (0 : Int) y3.1) (List.append (α := Int) ([] : List (Int)) [y5.1])), y5.2.1, y5.2.2.1, y5.2.2.2.1, ()) else none)) else some ((rSub y1.2.2.2.1 (0 : Int) y3.1), y4.2.1, y4.2.2.1, y4.2.2.2.1, ()))) else none)) else ((spec_l01Once y2.2.1 y2.2.2.1 y2.2.2.2.1 (14 : Int)).bind fun y3 => (bif y3.1 then ((spec_l01PickInt y3.2.1 y3.2.2.1 y3.2.2.2.1 (List.append (α := Int) (List.append (α := Int) (List.append (α := Int) ([] : List (Int)) [(-1 : Int)]) [(0 : Int)]) [a3])).bind fun y4 => (bif (rSmall (List.append (α := Int) y1.2.2.2.1 (List.append (α := Int) ([] : List (Int)) [y4.1]))) then some ((List.append (α := Int) y1.2.2.2.1 (List.append (α := Int) ([] : List (Int)) [y4.1])), y4.2.1, y4.2.2.1, y4.2.2.2.1, ()) else none)) else some (y1.2.2.2.1, y3.2.1, y3.2.2.1, y3.2.2.2.1, ()))))) else ((spec_l01Once y1.1 y1.2.1 y1.2.2.1 (14 : Int)).bind fun y2 => (bif y2.1 then ((spec_l01PickInt y2.2.1 y2.2.2.1 y2.2.2.2.1 (List.append (α := Int) (List.append (α := Int) (List.append (α := Int) ([] : List (Int)) [(-1 : Int)]) [(0 : Int)]) [a3])).bind fun y3 => (bif (rSmall (List.append (α := Int) y1.2.2.2.1 (List.append (α := Int) ([] : List (Int)) [y3.1]))) then some ((List.append (α := Int) y1.2.2.2.1 (List.append (α := Int) ([] : List (Int)) [y3.1])), y3.2.1, y3.2.2.1, y3.2.2.2.1, ()) else none)) else some (y1.2.2.2.1, y2.2.1, y2.2.2.1, y2.2.2.2.1, ()))))) (fun q2 => (Empty.elim q2)) q0))
noncomputable def spec_l07Two (a0 : (List (Int))) : Option (Int × Int × (List (List (Int))) × (List (Int × Int × Int × Int × Int)) × (List (Int)) × Unit) :=
 ((spec_l01New a0).bind fun y0 => ((spec_l07Any y0.1 y0.2.1 y0.2.2.1).bind fun y1 => ((spec_l07Order y1.2.2.2.2.1 y1.2.2.2.2.2.1 y1.2.2.2.2.2.2.1 (rLen y1.2.2.2.1)).bind fun y2 => some (y1.1, y1.2.1, y1.2.2.1, y1.2.2.2.1, y2.1, ()))))
noncomputable def spec_DrawRide (a0 : (List (Int))) : Option (Int × Int × (List (List (Int))) × (List (Int × Int × Int × Int × Int)) × (List (Int)) × Unit) :=
 ((spec_l07Two a0).bind fun y0 => some (y0.1, y0.2.1, y0.2.2.1, y0.2.2.2.1, y0.2.2.2.2.1, ()))
noncomputable def laws_sameInts_b0 (k : (List (Int)) × (List (Int)) × Unit) (x : Int × Unit) : Option ((Int × Unit) ⊕ (Bool × Unit ⊕ (Unit ⊕ Empty))) :=
 (bif (rCmp .lss x.1 (rLen k.1)) then (bif (rInR k.1 x.1) then (bif (rInR k.2.1 x.1) then (bif (rCmp .neq (rGet zI k.1 x.1) (rGet zI k.2.1 x.1)) then some (.inr (.inl (false, ()))) else some (.inl ((rArith .add .i64 x.1 (1 : Int)), ()))) else none) else none) else some (.inr (.inr (.inl (())))))
noncomputable def laws_sameInts_l0 (k : (List (Int)) × (List (Int)) × Unit) (x : Int × Unit) : Option (Bool × Unit ⊕ (Unit ⊕ Empty)) := iter (laws_sameInts_b0 k) big x
noncomputable def laws_sameInts (a0 : (List (Int))) (a1 : (List (Int))) : Option (Bool × Unit) :=
 (bif (rCmp .neq (rLen a0) (rLen a1)) then some (false, ()) else ((laws_sameInts_l0 (a0, a1, ()) ((0 : Int), ())).bind fun q0 => (Sum.elim (fun y1 => some (y1.1, ())) (fun q2 => (Sum.elim (fun y3 => some (true, ())) (fun q4 => (Empty.elim q4)) q2)) q0)))
noncomputable def laws_FnRides_b0 (k : (List (Int)) × Int × Int × Bool × Bool × Bool × Bool × Int × Bool × Unit) (x : Int × Int × (List (List (Int))) × (List (Int × Int × Int × Int × Int)) × Int × Int × Int × Unit) : Option ((Int × Int × (List (List (Int))) × (List (Int × Int × Int × Int × Int)) × Int × Int × Int × Unit) ⊕ (Int × Int × (List (List (Int))) × (List (Int × Int × Int × Int × Int)) × Int × Int × Unit ⊕ Empty)) :=
 (bif (rCmp .lss x.2.2.2.2.2.2.1 (rLen k.1)) then (bif (rInR x.2.2.1 x.2.2.2.2.2.1) then (bif (rInR k.1 x.2.2.2.2.2.2.1) then (bif (rInR (rGet zLIl x.2.2.1 x.2.2.2.2.2.1) (rArith .add .i64 (rGet zI k.1 x.2.2.2.2.2.2.1) (1 : Int))) then (bif (rInR k.1 x.2.2.2.2.2.2.1) then (bif (rInR x.2.2.2.1 (rGet zI k.1 x.2.2.2.2.2.2.1)) then (lets (rArith .add .i64 (rArith .add .i64 x.2.2.2.2.1 (rGet zI (rGet zLIl x.2.2.1 x.2.2.2.2.2.1) (rArith .add .i64 (rGet zI k.1 x.2.2.2.2.2.2.1) (1 : Int)))) (rGet zIIIII x.2.2.2.1 (rGet zI k.1 x.2.2.2.2.2.2.1)).2.2.1) fun v0 => (bif (rInR k.1 x.2.2.2.2.2.2.1) then some (.inl (x.1, x.2.1, x.2.2.1, x.2.2.2.1, v0, (rArith .add .i64 (rGet zI k.1 x.2.2.2.2.2.2.1) (1 : Int)), (rArith .add .i64 x.2.2.2.2.2.2.1 (1 : Int)), ())) else none)) else none) else none) else none) else none) else none) else some (.inr (.inl (x.1, x.2.1, x.2.2.1, x.2.2.2.1, x.2.2.2.2.1, x.2.2.2.2.2.1, ()))))
noncomputable def laws_FnRides_l0 (k : (List (Int)) × Int × Int × Bool × Bool × Bool × Bool × Int × Bool × Unit) (x : Int × Int × (List (List (Int))) × (List (Int × Int × Int × Int × Int)) × Int × Int × Int × Unit) : Option (Int × Int × (List (List (Int))) × (List (Int × Int × Int × Int × Int)) × Int × Int × Unit ⊕ Empty) := iter (laws_FnRides_b0 k) big x
noncomputable def laws_FnRides (a0 : (List (Int))) : Option (Bool × Unit) :=
 ((laws_big a0).bind fun y0 => (bif y0.1 then some (true, ()) else ((spec_DrawRide a0).bind fun y1 => ((impl_Ride y1.1 y1.2.1 y1.2.2.1 y1.2.2.2.1 y1.2.2.2.2.1).bind fun y2 => ((spec_Ride y1.1 y1.2.1 y1.2.2.1 y1.2.2.2.1 y1.2.2.2.2.1).bind fun y3 => (bif (Bool.not (rBeq y2.2.2.1 y3.2.2.1)) then some (false, ()) else (bif (rCmp .neq y2.2.1 y3.2.1) then some (false, ()) else ((laws_sameInts y2.1 y3.1).bind fun y4 => (bif (Bool.not y4.1) then some (false, ()) else ((impl_OrderOk y1.1 y1.2.1 y1.2.2.1 y1.2.2.2.1 y1.2.2.2.2.1).bind fun y5 => ((spec_OrderOk y1.1 y1.2.1 y1.2.2.1 y1.2.2.2.1 y1.2.2.2.2.1).bind fun y6 => (bif (Bool.not (rBeq y5.1 y6.1)) then some (false, ()) else ((impl_LatestBegin y1.1 y1.2.1 y1.2.2.1 y1.2.2.2.1 y1.2.2.2.2.1).bind fun y7 => ((spec_LatestBegin y1.1 y1.2.1 y1.2.2.1 y1.2.2.2.1 y1.2.2.2.2.1).bind fun y8 => (bif (Bool.not (rBeq y7.2.1 y8.2.1)) then some (false, ()) else (bif (rCmp .neq y7.1 y8.1) then some (false, ()) else (bif (Bool.not y3.2.2.1) then ((impl_PeakOf y1.1 y1.2.1 y1.2.2.1 y1.2.2.2.1 y1.2.2.2.2.1).bind fun y9 => (bif (rCmp .eql y9.1 (-1 : Int)) then ((impl_WaitOf y1.1 y1.2.1 y1.2.2.1 y1.2.2.2.1 y1.2.2.2.2.1).bind fun y10 => (bif (rCmp .eql y10.1 (-1 : Int)) then (bif (Bool.not y8.2.1) then some (true, ()) else some ((rCmp .lss y8.1 y1.1), ())) else some (false, ()))) else some (false, ()))) else (bif (rIsZero (2 : Int)) then none else (bif (rSubOk y1.2.2.2.2.1 (0 : Int) (rArith .quo .i64 (rLen y1.2.2.2.2.1) (2 : Int))) then ((impl_Ride y1.1 y1.2.1 y1.2.2.1 y1.2.2.2.1 (rSub y1.2.2.2.2.1 (0 : Int) (rArith .quo .i64 (rLen y1.2.2.2.2.1) (2 : Int)))).bind fun y9 => ((impl_Ride y8.1 y1.2.1 y1.2.2.1 y1.2.2.2.1 y1.2.2.2.2.1).bind fun y10 => ((impl_Ride (rArith .add .i64 y8.1 (1 : Int)) y1.2.1 y1.2.2.1 y1.2.2.2.1 y1.2.2.2.2.1).bind fun y11 => (bif (rIsZero (2 : Int)) then none else ((impl_Ride (rArith .quo .i64 y1.1 (2 : Int)) y1.2.1 y1.2.2.1 y1.2.2.2.1 y1.2.2.2.2.1).bind fun y12 => ((laws_FnRides_l0 (y1.2.2.2.2.1, y3.2.1, y8.1, y8.2.1, y9.2.2.1, y10.2.2.1, y11.2.2.1, y12.2.1, y12.2.2.1, ()) (y1.1, y1.2.1, y1.2.2.1, y1.2.2.2.1, (0 : Int), (0 : Int), (0 : Int), ())).bind fun q13 => (Sum.elim (fun y14 => (bif (rCmp .gtr (rLen y1.2.2.2.2.1) (0 : Int)) then (bif (rInR y14.2.2.1 y14.2.2.2.2.2.1) then (bif (rInR (rGet zLIl y14.2.2.1 y14.2.2.2.2.2.1) (0 : Int)) then (bif y9.2.2.1 then (bif y8.2.1 then (bif y10.2.2.1 then (bif (Bool.not y11.2.2.1) then (bif (rCmp .geq y8.1 y14.1) then (bif y12.2.2.1 then (bif (rCmp .leq y12.2.1 y3.2.1) then ((impl_PeakOf y14.1 y14.2.1 y14.2.2.1 y14.2.2.2.1 y1.2.2.2.2.1).bind fun y15 => (bif (rCmp .leq y15.1 y14.2.1) then ((impl_WaitOf y14.1 y14.2.1 y14.2.2.1 y14.2.2.2.1 y1.2.2.2.2.1).bind fun y16 => some ((rCmp .eql y16.1 (rArith .sub .i64 (rArith .sub .i64 y3.2.1 y14.1) (rArith .add .i64 y14.2.2.2.2.1 (rGet zI (rGet zLIl y14.2.2.1 y14.2.2.2.2.2.1) (0 : Int))))), ())) else some (false, ()))) else some (false, ())) else some (false, ())) else some (false, ())) else some (false, ())) else some (false, ())) else some (false, ())) else some (false, ())) else none) else none) else (bif y9.2.2.1 then (bif y8.2.1 then (bif y10.2.2.1 then (bif (Bool.not y11.2.2.1) then (bif (rCmp .geq y8.1 y14.1) then (bif y12.2.2.1 then (bif (rCmp .leq y12.2.1 y3.2.1) then ((impl_PeakOf y14.1 y14.2.1 y14.2.2.1 y14.2.2.2.1 y1.2.2.2.2.1).bind fun y15 => (bif (rCmp .leq y15.1 y14.2.1) then ((impl_WaitOf y14.1 y14.2.1 y14.2.2.1 y14.2.2.2.1 y1.2.2.2.2.1).bind fun y16 => some ((rCmp .eql y16.1 (rArith .sub .i64 (rArith .sub .i64 y3.2.1 y14.1) y14.2.2.2.2.1)), ())) else some (false, ()))) else some (false, ())) else some (false, ())) else some (false, ())) else some (false, ())) else some (false, ())) else some (false, ())) else some (false, ())))) (fun q15 => (Empty.elim q15)) q13))))))) else none)))))))))))))))))))
end Go.Fn
set_option linter.unusedVariables false
set_option linter.unusedSimpArgs false
namespace Go.Fn
open Go.R
noncomputable def rideR (r : Option (List Int × Int × Int × Int)) : List Int × Int × Bool × Unit := match r with | some (b, e, _, _) => (b, e, true, ()) | none => ([], 0, false, ())
theorem implRideR (a0 a1 : Int) (g : List (List Int)) (s : List Stp) (o : List Int) (hgr : ∀ r ∈ g, r.length ≤ 1073741824) (ho : o.length ≤ 1073741824) : impl_Ride a0 a1 g s o = some (rideR (ride a0 a1 g s o)) := by
 unfold impl_Ride
 rw [implRide_eq a0 a1 g s o hgr ho]
 cases ride a0 a1 g s o <;> rfl
theorem specRideR (a0 a1 : Int) (g : List (List Int)) (s : List Stp) (o : List Int) (ho : o.length ≤ 1073741824) : spec_Ride a0 a1 g s o = some (rideR (ride a0 a1 g s o)) := by
 unfold spec_Ride
 obtain ⟨y, h1, h2⟩ := specRide_eq a0 a1 g s o ho
 rw [h1]
 simp only [Option.bind_some]
 cases hr : ride a0 a1 g s o with
 | none => rw [hr] at h2; simp only at h2; rw [h2]; rfl
 | some q => rw [hr] at h2; simp only at h2; subst h2; rfl
theorem go_len (g : List (List Int)) (s : List Stp) : ∀ (l : List Int) (st st' : RSt), rideGo g s l st = .inl st' → st'.2.1.length = st.2.1.length + l.length
 | [], st, st', h => by injection h with h; subst h; rfl
 | i :: l, st, st', h => by
  simp only [rideGo] at h
  cases hl : late g s st i with
  | true => rw [hl] at h; cases h
  | false =>
   rw [hl] at h
   rw [go_len g s l _ st' h]
   simp only [next, List.length_append, List.length_cons, List.length_nil]
   omega
theorem ride_len (a0 a1 : Int) (g : List (List Int)) (s : List Stp) (o : List Int) : (rideR (ride a0 a1 g s o)).1.length ≤ o.length := by
 unfold ride
 cases orderOk a0 a1 g s o with
 | false => exact Nat.zero_le _
 | true =>
  simp only [cond_true]
  cases hg : rideGo g s o (start a0 s o) with
  | inr st => exact Nat.zero_le _
  | inl st =>
   have h1 := go_len g s o _ st hg
   simp only
   cases rCmp .gtr st.2.2.2.1 a1 with
   | true => exact Nat.zero_le _
   | false =>
    show st.2.1.length ≤ o.length
    rw [h1]
    show 0 + o.length ≤ o.length
    omega
end Go.Fn
set_option linter.unusedVariables false
set_option linter.unusedSimpArgs false
namespace Go.Fn
open Go.R
section
variable (a0 a1 : Int) (g : List (List Int)) (s : List Stp)
abbrev SB : Type := Bool × Int × List Int × Unit
end
end Go.Fn
set_option linter.unusedVariables false
set_option linter.unusedSimpArgs false
namespace Go.Fn
open Go.R
theorem sameI_self (l : List Int) (hl : l.length ≤ 1073741824) : laws_sameInts l l = some (true, ()) := by
 unfold laws_sameInts
 rw [neq_self]
 have hloop : laws_sameInts_l0 (l, l, ()) ((0 : Int), ()) = some (Sum.inr (Sum.inl ())) := by
  refine loop_end (fun n => ((n : Int), ())) l.length (by omega) _ (fun n hn => ?_) ?_
  ·unfold laws_sameInts_b0
   simp only [lss_len, inR_nat, hn, decide_true, cond_true, neq_self, succ64 (n := n) (by omega)]
   rfl
  ·unfold laws_sameInts_b0
   simp only [lss_len, Nat.lt_irrefl, decide_false, cond_false]
 simp only [cond_false]
 rw [hloop]
 rfl
end Go.Fn
set_option linter.unusedVariables false
set_option linter.unusedSimpArgs false
namespace Go.Fn
open Go.R
theorem any_yl (b : List Int) (hb : b.length ≤ 1048576) (i h : Int) (hi : 0 ≤ i) : Yl (spec_l07Any b i h) fun y => (∀ r, r ∈ y.2.2.1 → r.length ≤ 1000) ∧ y.2.2.2.1.length ≤ 4 ∧ y.2.2.2.2.1 = b ∧ 0 ≤ y.2.2.2.2.2.1 := by
 unfold spec_l07Any
 refine (round_yl b hb i h hi).bind fun y0 ⟨hro, h4, e0, i0⟩ => ?_
 obtain ⟨h6, hg, hrow, _, _, _⟩ := roundOk_rows hro
 have hgr : ∀ r ∈ y0.2.2.1, 1 ≤ r.length ∧ r.length ≤ 1000 := fun r hr => by
  obtain ⟨m, hm, rfl⟩ := List.getElem_of_mem hr
  have := (hrow m hm).1
  rw [List.getD_eq_getElem?_getD, List.getElem?_eq_getElem hm] at this
  simp only [Option.getD_some] at this
  omega
 rw [e0]
 refine (below_yl b hb _ _ (rLen y0.2.2.1) i0 (by unfold rLen; omega)).bind fun y1 ⟨a1, a2, a3, a4⟩ => ?_
 have a2 : y1.1 ≤ max 0 ((y0.2.2.1.length : Int) - 1) := a2
 rw [a3]
 refine (below_yl b hb _ _ 16 a4 (by omega)).bind fun y2 ⟨b1, b2, b3, b4⟩ => ?_
 rw [b3]
 refine .cond (fun _ => ?_) fun _ => .cond (fun _ => ?_) fun _ => .cond (fun _ => ?_) fun _ => .cond (fun _ => ?_) fun _ => .cond (fun _ => ?_) fun _ => ?_
 ·exact (pickInt_yl b hb _ _ [-1, 20000, 20001] b4 (by simp) (by simp)).bind fun y3 ⟨_, c3, c4⟩ => .ret ⟨fun r hr => (hgr r hr).2, h4, c3, c4⟩
 ·exact (pickInt_yl b hb _ _ [-1, 0, 1001] b4 (by simp) (by simp)).bind fun y3 ⟨_, c3, c4⟩ => .ret ⟨fun r hr => (hgr r hr).2, h4, c3, c4⟩
 ·refine .guard (inR_int a1 (by omega)) ((pickInt_yl b hb _ _ [-1, 200, 201] b4 (by simp) (by simp)).bind fun y3 ⟨_, c3, c4⟩ => ?_)
  obtain ⟨n, hn⟩ : ∃ n : Nat, y1.1 = (n : Int) := ⟨y1.1.toNat, by omega⟩
  rw [hn]
  have hlt : n < y0.2.2.1.length := by omega
  have hm := hgr _ (getD_mem hlt zLIl)
  rw [get_nat, put_nat]
  refine .guard (inR_int (Int.le_refl 0) (by omega)) (.ret ⟨fun r hr => ?_, h4, c3, c4⟩)
  have hr : r ∈ y0.2.2.1.set n (rPut (y0.2.2.1.getD n zLIl) 0 y3.1) := hr
  rcases List.mem_or_eq_of_mem_set hr with hr | rfl
  ·exact (hgr r hr).2
  ·unfold rPut; rw [List.length_set]; exact hm.2
 ·refine .guard ?_ (.ret ⟨fun r hr => ?_, h4, rfl, b4⟩)
  ·unfold rSubOk rLen
   simp only [Bool.and_eq_true, decide_eq_true_eq]
   omega
  ·have hr : r ∈ rSub y0.2.2.1 1 (rLen y0.2.2.1) := hr
   unfold rSub at hr
   exact (hgr r (List.mem_of_mem_drop (List.mem_of_mem_take hr))).2
 ·refine .cond (fun h1 => ?_) fun _ => .ret ⟨fun r hr => (hgr r hr).2, h4, rfl, b4⟩
  have h1 : (0 : Int) < (y0.2.2.2.1.length : Int) := of_decide_eq_true h1
  refine .guard (inR_int (Int.le_refl 0) h1) ((pickInt_yl b hb _ _ _ b4 (by simp) (by simp)).bind fun y3 ⟨_, c3, c4⟩ => ?_)
  refine .guard (inR_int (Int.le_refl 0) h1) (.lets (.ret ⟨fun r hr => (hgr r hr).2, ?_, c3, c4⟩))
  show (rPut y0.2.2.2.1 0 _).length ≤ 4
  unfold rPut
  rw [List.length_set]
  exact h4
 ·exact .ret ⟨fun r hr => (hgr r hr).2, h4, rfl, b4⟩
theorem tail_yl (b : List Int) (hb : b.length ≤ 1048576) (o : List Int) (ho : o.length ≤ 1000) (i h n : Int) (hi : 0 ≤ i) :
  Yl ((spec_l01Once b i h (14 : Int)).bind fun y4 => (bif y4.1 then ((spec_l01PickInt y4.2.1 y4.2.2.1 y4.2.2.2.1 (List.append (α := Int) (List.append (α := Int) (List.append (α := Int) ([] : List (Int)) [(-1 : Int)]) [(0 : Int)]) [n])).bind fun y5 => (bif (rSmall (List.append (α := Int) o (List.append (α := Int) ([] : List (Int)) [y5.1]))) then some ((List.append (α := Int) o (List.append (α := Int) ([] : List (Int)) [y5.1])), y5.2.1, y5.2.2.1, y5.2.2.2.1, ()) else none)) else some (o, y4.2.1, y4.2.2.1, y4.2.2.2.1, ()))) fun y => y.1.length ≤ 1001 := by
 refine (once_yl b hb i h 14 hi (by omega)).bind fun y4 ⟨d3, d4⟩ => ?_
 rw [d3]
 refine .cond (fun _ => ?_) fun _ => .ret (by show o.length ≤ 1001; omega)
 refine (pickInt_yl b hb _ _ [-1, 0, n] d4 (by simp) (by simp)).bind fun y5 _ => ?_
 have : (List.append (α := Int) o (List.append (α := Int) ([] : List (Int)) [y5.1])).length ≤ 1001 := by show (o ++ ([] ++ [y5.1])).length ≤ _; simp; omega
 exact .guard (small_of (by omega)) (.ret this)
theorem order_yl (b : List Int) (hb : b.length ≤ 1048576) (i h : Int) (hi : 0 ≤ i) (n : Nat) (hn : n ≤ 1000) : Yl (spec_l07Order b i h (n : Int)) fun y => y.1.length ≤ 1001 := by
 unfold spec_l07Order
 have hl : Yl (spec_l07Order_l0 ((n : Int), ()) (b, i, h, ([] : List Int), (0 : Int), ())) fun q => ∃ (i h : Int) (o : List Int), q = .inl (b, i, h, o, ()) ∧ 0 ≤ i ∧ o.length ≤ 1000 := by
  unfold spec_l07Order_l0
  refine Yl.loop (fun x => ∃ (i h : Int) (o : List Int), x = (b, i, h, o, (o.length : Int), ()) ∧ 0 ≤ i ∧ o.length ≤ n) (fun x => n - x.2.2.2.1.length) (fun x hx => ?_) big _ ⟨i, h, [], rfl, hi, Nat.zero_le _⟩ (lt_big (by show n - 0 < _; omega))
  obtain ⟨i, h, o, rfl, x1, x2⟩ := hx
  unfold spec_l07Order_b0
  refine .cond (fun h1 => ?_) fun _ => .ret ⟨i, h, o, rfl, x1, by omega⟩
  have h1 : (o.length : Int) < n := of_decide_eq_true h1
  have e : rArith .add .i64 (o.length : Int) 1 = ((o.length + 1 : Nat) : Int) := succ64 (n := o.length) (by omega)
  simp only [e]
  refine (below_yl b hb i h _ x1 (by omega)).bind fun z ⟨e1, e2, e3, e4⟩ => ?_
  have e2 : z.1 ≤ max 0 (((o.length + 1 : Nat) : Int) - 1) := e2
  have happ : List.append (α := Int) o (List.append (α := Int) ([] : List (Int)) [(o.length : Int)]) = o ++ [(o.length : Int)] := rfl
  rw [happ]
  have hlen : (o ++ [(o.length : Int)]).length = o.length + 1 := by simp
  refine .guard (small_of (by omega)) (.guard (inR_int e1 (by omega)) (.guard (inR_int (by omega) (by omega)) (.lets ?_)))
  have hlen2 : (rPut (o ++ [(o.length : Int)]) (o.length : Int) (rGet zI (o ++ [(o.length : Int)]) z.1)).length = o.length + 1 := by unfold rPut; rw [List.length_set, hlen]
  refine .guard (inR_int e1 (by omega)) (.ret ⟨⟨z.2.2.1, z.2.2.2.1, rPut (rPut (o ++ [(o.length : Int)]) (o.length : Int) (rGet zI (o ++ [(o.length : Int)]) z.1)) z.1 (o.length : Int), ?_, e4, ?_⟩, ?_⟩)
  ·have : (rPut (rPut (o ++ [(o.length : Int)]) (o.length : Int) (rGet zI (o ++ [(o.length : Int)]) z.1)) z.1 (o.length : Int)).length = o.length + 1 := by unfold rPut; rw [List.length_set]; exact hlen2
   rw [this, e3]
  ·have : (rPut (rPut (o ++ [(o.length : Int)]) (o.length : Int) (rGet zI (o ++ [(o.length : Int)]) z.1)) z.1 (o.length : Int)).length = o.length + 1 := by unfold rPut; rw [List.length_set]; exact hlen2
   rw [this]; omega
  ·have : (rPut (rPut (o ++ [(o.length : Int)]) (o.length : Int) (rGet zI (o ++ [(o.length : Int)]) z.1)) z.1 (o.length : Int)).length = o.length + 1 := by unfold rPut; rw [List.length_set]; exact hlen2
   show n - (rPut (rPut (o ++ [(o.length : Int)]) (o.length : Int) (rGet zI (o ++ [(o.length : Int)]) z.1)) z.1 (o.length : Int)).length < n - o.length
   rw [this]; omega
 refine hl.bind fun q ⟨i2, h2, o, hq, j0, ho⟩ => ?_
 subst hq
 simp only [Sum.elim_inl]
 refine .cond (fun hpos => ?_) fun _ => tail_yl b hb o ho i2 h2 n j0
 refine (once_yl b hb i2 h2 4 j0 (by omega)).bind fun y2 ⟨d3, d4⟩ => ?_
 rw [d3]
 refine .cond (fun _ => ?_) fun _ => tail_yl b hb o ho _ _ n d4
 refine (below_yl b hb _ _ (rLen o) d4 (by unfold rLen; omega)).bind fun y3 ⟨c1, c2, c3, c4⟩ => ?_
 have c2 : y3.1 ≤ max 0 ((o.length : Int) - 1) := c2
 rw [c3]
 refine .guard ?_ (tail_yl b hb _ ?_ _ _ n c4)
 ·unfold rSubOk
  simp only [Bool.and_eq_true, decide_eq_true_eq]
  have hpos : (0 : Int) < (o.length : Int) := of_decide_eq_true hpos
  omega
 ·unfold rSub
  rw [List.length_take, List.length_drop]
  omega
theorem drawRide_yl (b : List Int) (hb : b.length ≤ 1048576) : Yl (spec_DrawRide b) fun y => (∀ r, r ∈ y.2.2.1 → r.length ≤ 1000) ∧ y.2.2.2.2.1.length ≤ 1001 := by
 unfold spec_DrawRide spec_l07Two
 refine Yl.bind (P := fun y => (∀ r, r ∈ y.2.2.1 → r.length ≤ 1000) ∧ y.2.2.2.2.1.length ≤ 1001) ((new_yl b hb).bind fun y0 ⟨h1, h2⟩ => ?_) fun y hy => .ret hy
 rw [h1]
 refine (any_yl b hb _ _ (by omega)).bind fun y1 ⟨k1, k2, k3, k4⟩ => ?_
 rw [k3]
 exact (order_yl b hb _ _ k4 y1.2.2.2.1.length (by omega)).bind fun y2 hy2 => .ret ⟨k1, hy2⟩
section
variable {a0 a1 : Int} {g : List (List Int)} {s : List Stp}
theorem ride_some {o : List Int} {b : List Int} {e p w : Int} (hr : ride a0 a1 g s o = some (b, e, p, w)) : orderOk a0 a1 g s o = true ∧ ∃ fin, rideGo g s o (start a0 s o) = .inl fin ∧ fin.2.2.2.1 ≤ a1 ∧ b = fin.2.1 ∧ e = home g o fin ∧ p = fin.2.2.2.1 ∧ w = fin.2.2.2.2.1 := by
 unfold ride at hr
 cases hok : orderOk a0 a1 g s o with
 | false => rw [hok] at hr; cases hr
 | true =>
  rw [hok] at hr
  simp only [cond_true] at hr
  cases hgo : rideGo g s o (start a0 s o) with
  | inr st => rw [hgo] at hr; cases hr
  | inl fin =>
   rw [hgo] at hr
   simp only [] at hr
   cases hpk : rCmp .gtr fin.2.2.2.1 a1 with
   | true => rw [hpk] at hr; cases hr
   | false =>
    rw [hpk] at hr
    simp only [cond_false, Option.some.injEq, Prod.mk.injEq] at hr
    obtain ⟨e1, e2, e3, e4⟩ := hr
    have := of_decide_eq_false hpk
    exact ⟨rfl, fin, rfl, by omega, e1.symm, e2.symm, e3.symm, e4.symm⟩
theorem ride_of {o : List Int} (hok : orderOk a0 a1 g s o = true) {fin : RSt} (hgo : rideGo g s o (start a0 s o) = .inl fin) (hp : fin.2.2.2.1 ≤ a1) : ride a0 a1 g s o = some (fin.2.1, home g o fin, fin.2.2.2.1, fin.2.2.2.2.1) := by
 unfold ride
 rw [hok, hgo]
 simp only [cond_true]
 rw [show rCmp .gtr fin.2.2.2.1 a1 = false from decide_eq_false (by omega)]
 rfl
theorem start_bd {o : List Int} (hok : orderOk a0 a1 g s o = true) (hlen : o.length ≤ 1001) {b : Int} (h0 : 0 ≤ b) (h1 : b ≤ 20000) : Bd s 2000 (start b s o) := by
 obtain ⟨h, hv, hnd⟩ := orderOk_iff.1 hok
 obtain ⟨u1, u2, u3⟩ := load_acc h o 0 0 (by omega) (by omega) (by omega) (by omega) hv
 exact ⟨h0, by show b ≤ 20200; omega, Int.le_refl _, by show (0 : Int) ≤ _; omega, by show _ ≤ load0 s o; unfold load0; omega, by show load0 s o ≤ _; unfold load0; omega⟩
theorem peak_mono : ∀ (o : List Int) (st fin : RSt), rideGo g s o st = .inl fin → st.2.2.2.1 ≤ fin.2.2.2.1
 | [], st, fin, h => by injection h with h; subst h; exact Int.le_refl _
 | i :: o, st, fin, h => by
  simp only [rideGo] at h
  cases hl : late g s st i with
  | true => rw [hl] at h; cases h
  | false =>
   rw [hl] at h
   have h1 := peak_mono o _ fin h
   have h2 : st.2.2.2.1 ≤ (next g s st i).2.2.2.1 := by
    show st.2.2.2.1 ≤ rMxmn true st.2.2.2.1 _
    rw [maxT]
    omega
   omega
theorem ride_part {P S : List Int} {b : List Int} {e p w : Int} (hlen : (P ++ S).length ≤ 1001) (hr : ride a0 a1 g s (P ++ S) = some (b, e, p, w)) : (ride a0 a1 g s P).isSome = true := by
 obtain ⟨hok, fin, hgo, hpk, _⟩ := ride_some hr
 obtain ⟨h, hv, hnd⟩ := orderOk_iff.1 hok
 obtain ⟨h6, hg6, hrow, _, ha0, ha1⟩ := roundOk_rows h
 have hsub : P.Sublist (P ++ S) := List.sublist_append_left P S
 have hok' : orderOk a0 a1 g s P = true := orderOk_iff.2 ⟨h, fun x hx => hv x (hsub.subset hx), hnd.sublist hsub⟩
 simp only [List.length_append] at hlen
 have b1 := start_bd hok (by simp; omega) ha0.1 ha0.2
 have b2 := start_bd hok' (by omega) ha0.1 ha0.2
 have hl : load0 s P ≤ load0 s (P ++ S) := by
  obtain ⟨v1, v2, v3⟩ := load_acc h P 0 0 (by omega) (by omega) (by omega) (by omega) (fun x hx => hv x (hsub.subset hx))
  obtain ⟨u1, u2, u3⟩ := load_acc h S (load0 s P) P.length (by omega) (by omega) v2 (by unfold load0; omega) (fun x hx => hv x (List.mem_append_right _ hx))
  have hs : ∀ l : List Int, (∀ x, x ∈ l → 0 ≤ x ∧ x < (s.length : Int)) → 0 ≤ (l.map fun i => (rGet zIIIII s i).2.2.2.1).sum := fun l => by
   induction l with
   | nil => intro _; simp
   | cons x l ih =>
    intro hx
    have f := (stop_facts h (hx x (by simp))).2.2.2.1
    have := ih fun y hy => hx y (by simp [hy])
    simp only [List.map_cons, List.sum_cons]
    omega
  have hs := hs S fun x hx => hv x (List.mem_append_right _ hx)
  have e : load0 s (P ++ S) = S.foldl (load1 s) (load0 s P) := by unfold load0; rw [List.foldl_append]
  rw [e, u1]
  omega
 rw [go_app] at hgo
 cases hP : rideGo g s P (start a0 s (P ++ S)) with
 | inr st => rw [hP] at hgo; cases hgo
 | inl st =>
  rw [hP] at hgo
  have hm := peak_mono S st fin hgo
  have hrel : Rel g s 2000 0 (start a0 s P) (start a0 s (P ++ S)) := ⟨b2, b1, fun t _ _ => Int.le_refl _, by show load0 s P ≤ load0 s (P ++ S) - 0; omega, hl⟩
  obtain ⟨st', k1, k2⟩ := rel_go h (Int.le_refl 0) P 2000 _ _ st (by omega) (by omega) (fun x hx => hv x (List.mem_append_left _ hx)) hrel hP
  have hp' := k2.p
  rw [ride_of hok' k1 (by omega)]
  rfl
theorem home_eq (o : List Int) (st : RSt) (q1 : 0 ≤ st.2.2.1) (q2 : st.2.2.1 ≤ 20200) (q3 : 0 ≤ lg g st.2.2.2.2.2 0) (q4 : lg g st.2.2.2.2.2 0 ≤ 200) : home g o st = st.2.2.1 + lg g st.2.2.2.2.2 0 * min 1 (o.length : Int) := by
 have hm : rMxmn false 1 (rLen o) = min 1 (o.length : Int) := by unfold rMxmn rLen; simp only [cond_false]; omega
 unfold home
 rw [hm]
 show rArith .add .i64 st.2.2.1 (rArith .mul .i64 (lg g st.2.2.2.2.2 0) _) = _
 have hmin : min 1 (o.length : Int) = 0 ∨ min 1 (o.length : Int) = 1 := by omega
 rcases hmin with e | e <;> rw [e]
 ·rw [Int.mul_zero, mul64 (by omega) (by omega), Int.mul_zero, add64 (by omega) (by omega)]
 ·rw [Int.mul_one, mul64 (by omega) (by omega), Int.mul_one, add64 (by omega) (by omega)]
theorem ride_early {o : List Int} {b : List Int} {e p w : Int} (hlen : o.length ≤ 1001) (hr : ride a0 a1 g s o = some (b, e, p, w)) {c : Int} (h0 : 0 ≤ c) (hc : c ≤ a0) : ∃ b' e' p' w', ride c a1 g s o = some (b', e', p', w') ∧ e' ≤ e := by
 obtain ⟨hok, fin, hgo, hpk, _, he, _, _⟩ := ride_some hr
 obtain ⟨h, hv, hnd⟩ := orderOk_iff.1 hok
 obtain ⟨h6, hg6, hrow, _, ha0, ha1⟩ := roundOk_rows h
 have hok' := orderOk_begin hok h0 (by omega)
 have b1 := start_bd hok hlen ha0.1 ha0.2
 have b2 := start_bd hok hlen h0 (by omega)
 have hrel : Rel g s 2000 0 (start c s o) (start a0 s o) := ⟨b2, b1, fun t _ _ => by show c + _ ≤ a0 + _; exact Int.add_le_add_right hc _, by show load0 s o ≤ load0 s o - 0; omega, Int.le_refl _⟩
 obtain ⟨fin', k1, k2⟩ := rel_go h (Int.le_refl 0) o 2000 _ _ fin (by omega) (by omega) hv hrel hgo
 have hp' := k2.p
 refine ⟨_, _, _, _, ride_of hok' k1 (by omega), ?_⟩
 have fl := lg_facts h (p := fin.2.2.2.2.2) (q := 0) ⟨k2.b.p0, k2.b.p1⟩ (by omega)
 have fl' := lg_facts h (p := fin'.2.2.2.2.2) (q := 0) ⟨k2.b'.p0, k2.b'.p1⟩ (by omega)
 have b1 := k2.b.e0
 have b2 := k2.b.e1
 have b3 := k2.b'.e0
 have b4 := k2.b'.e1
 rw [he, home_eq o fin b1 b2 fl.1 fl.2, home_eq o fin' b3 b4 fl'.1 fl'.2]
 have ht := k2.t 0 (by omega) (by omega)
 cases o with
 | nil =>
  have e1 : fin = start a0 s [] := by injection hgo with hgo; exact hgo.symm
  have e2 : fin' = start c s [] := by injection k1 with k1; exact k1.symm
  subst e1 e2
  show c + _ * 0 ≤ a0 + _ * 0
  omega
 | cons x o =>
  have : min 1 ((x :: o).length : Int) = 1 := by simp only [List.length_cons]; omega
  rw [this]
  omega
theorem legs_loop {K : List Int × Int × Int × Bool × Bool × Bool × Bool × Int × Bool × Unit} {o : List Int} (hK : K.1 = o) (h : roundOk a0 a1 g s = true) (hv : ∀ x, x ∈ o → 0 ≤ x ∧ x < (s.length : Int)) (ho : o.length ≤ 1001) : ∀ (k n : Nat) (st fin : RSt) (fu : Nat), n + k = o.length → k < fu → rideGo g s (o.drop n) st = .inl fin → Bd s (2000 + n) st → 0 ≤ st.2.2.2.2.1 → st.2.2.2.2.1 ≤ st.2.2.1 →
  iter (laws_FnRides_b0 K) fu (a0, a1, g, s, st.2.2.1 - st.2.2.2.2.1 - a0, st.2.2.2.2.2, (n : Int), ()) = some (.inl (a0, a1, g, s, fin.2.2.1 - fin.2.2.2.2.1 - a0, fin.2.2.2.2.2, ())) ∧ Bd s (2000 + o.length) fin ∧ 0 ≤ fin.2.2.2.2.1 ∧ fin.2.2.2.2.1 ≤ fin.2.2.1 := by
 obtain ⟨h6, hg6, hrow, _, ha0, ha1⟩ := roundOk_rows h
 intro k
 induction k with
 | zero =>
  intro n st fin fu hn hf hgo hb hw0 hw1
  obtain ⟨fu, rfl⟩ : ∃ m, fu = m + 1 := ⟨fu - 1, by omega⟩
  have hn : n = o.length := by omega
  subst hn
  rw [List.drop_length] at hgo
  injection hgo with hgo
  subst hgo
  refine ⟨iter_done ?_, hb, hw0, hw1⟩
  unfold laws_FnRides_b0
  rw [hK]
  simp only [lss_len, Nat.lt_irrefl, decide_false, cond_false]
 | succ k ih =>
  intro n st fin fu hn hf hgo hb hw0 hw1
  obtain ⟨fu, rfl⟩ : ∃ m, fu = m + 1 := ⟨fu - 1, by omega⟩
  have hlt : n < o.length := by omega
  rw [drop_getD hlt zI] at hgo
  have hi := hv _ (getD_mem hlt zI)
  simp only [rideGo] at hgo
  cases hl : late g s st (o.getD n zI) with
  | true => rw [hl] at hgo; cases hgo
  | false =>
   rw [hl] at hgo
   obtain ⟨n1, n2, n3, n4, n5, n6⟩ := next_eq h (by omega) (by omega) hb hi hl
   have ha := arr_eq h hb hi
   have hlg := lg_facts h (p := st.2.2.2.2.2) (q := o.getD n zI + 1) ⟨hb.p0, hb.p1⟩ (by omega)
   obtain ⟨f1, f2, f3, f4, f5⟩ := stop_facts h hi
   have q0 := hb.e0
   have q1 := hb.e1
   have p0 := hb.p0
   have p1 := hb.p1
   have hwn : (next g s st (o.getD n zI)).2.2.2.2.1 = st.2.2.2.2.1 + (max (st.2.2.1 + lg g st.2.2.2.2.2 (o.getD n zI + 1)) (rGet zIIIII s (o.getD n zI)).1 - (st.2.2.1 + lg g st.2.2.2.2.2 (o.getD n zI + 1))) := by
    show rArith .add .i64 st.2.2.2.2.1 (rArith .sub .i64 (rMxmn true (arr g st (o.getD n zI)) (rGet zIIIII s (o.getD n zI)).1) (arr g st (o.getD n zI))) = _
    rw [ha, maxT, sub64 (by omega) (by omega), add64 (by omega) (by omega)]
   have q1' := n5.e1
   obtain ⟨r1, r2⟩ := ih (n + 1) (next g s st (o.getD n zI)) fin fu (by omega) (by omega) hgo (by rw [show (2000 : Int) + ((n + 1 : Nat) : Int) = 2000 + n + 1 by omega]; exact n5) (by rw [hwn]; omega) (by rw [hwn, n2]; omega)
   refine ⟨?_, r2⟩
   have e1 : rArith .add .i64 (o.getD n zI) 1 = o.getD n zI + 1 := add1 hi.1 (by omega)
   have hrw := hrow st.2.2.2.2.2.toNat (by omega)
   have g1 : rInR g st.2.2.2.2.2 = true := inR_int p0 (by omega)
   have g2 : rInR (rGet zLIl g st.2.2.2.2.2) (o.getD n zI + 1) = true := inR_int (by omega) (by show _ < ((g.getD st.2.2.2.2.2.toNat zLIl).length : Int); omega)
   have g3 : rInR s (o.getD n zI) = true := inR_int hi.1 hi.2
   have hlgd : rGet zI (rGet zLIl g st.2.2.2.2.2) (o.getD n zI + 1) = lg g st.2.2.2.2.2 (o.getD n zI + 1) := rfl
   have hstep : laws_FnRides_b0 K (a0, a1, g, s, st.2.2.1 - st.2.2.2.2.1 - a0, st.2.2.2.2.2, (n : Int), ()) = some (.inl (a0, a1, g, s, (next g s st (o.getD n zI)).2.2.1 - (next g s st (o.getD n zI)).2.2.2.2.1 - a0, (next g s st (o.getD n zI)).2.2.2.2.2, ((n + 1 : Nat) : Int), ())) := by
    unfold laws_FnRides_b0
    rw [hK]
    simp only [lss_len, hlt, decide_true, cond_true, inR_nat, get_nat, g1, e1, g2, g3, lets_def, hlgd, succ64 (n := n) (by omega)]
    have e5 : rArith .add .i64 (rArith .add .i64 (st.2.2.1 - st.2.2.2.2.1 - a0) (lg g st.2.2.2.2.2 (o.getD n zI + 1))) (rGet zIIIII s (o.getD n zI)).2.2.1 = (next g s st (o.getD n zI)).2.2.1 - (next g s st (o.getD n zI)).2.2.2.2.1 - a0 := by
     rw [add64 (a := st.2.2.1 - st.2.2.2.2.1 - a0) (by omega) (by omega), add64 (by omega) (by omega), n2, hwn]
     omega
    rw [e5, n4]
   rw [iter_next hstep]
   exact r1
theorem quoLen (o : List Int) (ho : o.length ≤ 1001) : rArith .quo .i64 (rLen o) 2 = ((o.length / 2 : Nat) : Int) := by
 rw [quo2 (by unfold rLen; omega) (by unfold rLen; omega)]
 unfold rLen
 omega
end
theorem rides_true (code : List Int) : laws_FnRides code = some (true, ()) := by
 unfold laws_FnRides laws_big
 simp only [Option.bind_some]
 cases hbig : rCmp .gtr (rLen code) 1048576 with
 | true => rfl
 | false =>
  have hb : code.length ≤ 1048576 := by
   have : ¬ ((1048576 : Int) < (code.length : Int)) := of_decide_eq_false hbig
   omega
  simp only [cond_false]
  obtain ⟨⟨a0, a1, g, s, o, u⟩, he, hgr, hol⟩ := drawRide_yl code hb
  rw [he]
  have hol : o.length ≤ 1001 := hol
  have hgr : ∀ r ∈ g, r.length ≤ 1073741824 := fun r hr => by
   have : r.length ≤ 1000 := hgr r hr
   omega
  have ho : o.length ≤ 1073741824 := by omega
  have hx := fun b o (ho : o.length ≤ 1073741824) => implRideR b a1 g s o hgr ho
  have hy := specRideR a0 a1 g s o ho
  have hlen := ride_len a0 a1 g s o
  have hwp := specOrder_eq a0 a1 g s o ho
  have hwi := implOrder_eq a0 a1 g s o hgr ho
  obtain ⟨last, may, l1, l2⟩ := latest_eq a0 a1 g s o hgr ho
  have hpk := implPeak_eq a0 a1 g s o hgr ho
  have hwt := implWait_eq a0 a1 g s o hgr ho
  have hlat : (orderOk a0 a1 g s o = false → may = false) ∧ (orderOk a0 a1 g s o = true → ∃ b, -1 ≤ b ∧ IsLatest a1 g s o b ∧ ((b = -1 ∧ may = false) ∨ (b ≠ -1 ∧ may = true ∧ last = b))) := by
   unfold impl_LatestBegin at l2
   rw [hwi] at l2
   simp only [Option.bind_some] at l2
   refine ⟨fun hk => ?_, fun hk => ?_⟩
   ·rw [hk] at l2
    simp only [Bool.not_false, cond_true, Option.some.injEq, Prod.mk.injEq] at l2
    exact l2.2.1.symm
   ·rw [hk] at l2
    obtain ⟨y, q1, b, q2, q3, rfl⟩ := implLatest a0 a1 g s o hgr ho
    simp only [Bool.not_true, cond_false] at l2
    rw [q1] at l2
    refine ⟨b, q2, q3, ?_⟩
    by_cases hb1 : b = -1
    ·subst hb1
     simp only [if_true, Option.bind_some, Sum.elim_inr, Sum.elim_inl, Option.some.injEq, Prod.mk.injEq] at l2
     exact .inl ⟨rfl, l2.2.1.symm⟩
    ·rw [if_neg hb1] at l2
     simp only [Option.bind_some, Sum.elim_inl, Option.some.injEq, Prod.mk.injEq] at l2
     exact .inr ⟨hb1, l2.2.1.symm, l2.1.symm⟩
  simp only [Option.bind_some, hx a0 o ho, hy, rBeq_self, Bool.not_true, cond_false, neq_self, sameI_self _ (show (rideR (ride a0 a1 g s o)).1.length ≤ 1073741824 by omega), hwp, hwi, l1, l2, hpk, hwt]
  cases hr : ride a0 a1 g s o with
  | none =>
   show (bif Bool.not false then _ else _) = _
   simp only [Bool.not_false, cond_true, peakOf, waitOf]
   show (bif rCmp .eql (-1 : Int) (-1) then (bif rCmp .eql (-1 : Int) (-1) then _ else _) else _) = _
   rw [show rCmp .eql (-1 : Int) (-1) = true from rfl]
   simp only [cond_true]
   cases hm : may with
   | false => rfl
   | true =>
    simp only [Bool.not_true, cond_false]
    cases hk : orderOk a0 a1 g s o with
    | false => have := hlat.1 hk; rw [hm] at this; cases this
    | true =>
     obtain ⟨b, c1, c2, c3⟩ := hlat.2 hk
     rcases c3 with ⟨_, c3⟩ | ⟨c3, _, c4⟩
     ·rw [hm] at c3; cases c3
     ·subst c4
      have hcan : can a1 g s o last = true := c2.1.resolve_left c3
      have hlt : last < a0 := by
       refine Decidable.byContradiction fun hn => ?_
       have := can_mono (b := a0) (orderOk_range hk).1 (by omega) hcan
       unfold can at this
       rw [hr] at this
       cases this
      rw [show rCmp .lss last a0 = true from decide_eq_true hlt]
  | some v =>
   obtain ⟨vb, ve, vp, vw⟩ := v
   obtain ⟨hk, fin, hgo, hpeak, rfl, rfl, rfl, rfl⟩ := ride_some hr
   obtain ⟨hro, hv, hnd⟩ := orderOk_iff.1 hk
   obtain ⟨h6, hg6, hrow, _, ha0, ha1⟩ := roundOk_rows hro
   obtain ⟨b, c1, c2, c3⟩ := hlat.2 hk
   have hcan0 : can a1 g s o a0 = true := by unfold can; rw [hr]; rfl
   have hb1 : a0 ≤ b := by
    refine Decidable.byContradiction fun hn => ?_
    have := c2.2 a0 (by omega)
    rw [hcan0] at this
    cases this
   obtain ⟨hm, hlb⟩ : may = true ∧ last = b := by
    rcases c3 with ⟨c3, _⟩ | ⟨_, c3⟩
    ·omega
    ·exact c3
   subst hm hlb
   have hcan : can a1 g s o last = true := c2.1.resolve_left (by omega)
   have hr1 := can_range hcan
   have hcan' : can a1 g s o (last + 1) = false := c2.2 _ (by omega)
   have isR : ∀ b, (rideR (ride b a1 g s o)).2.2.1 = can a1 g s o b := fun b => by unfold can; cases ride b a1 g s o <;> rfl
   have hhalf : (rideR (ride a0 a1 g s (o.take (o.length / 2)))).2.2.1 = true := by
    have : (ride a0 a1 g s (o.take (o.length / 2))).isSome = true := ride_part (S := o.drop (o.length / 2)) (by rw [List.take_append_drop]; exact hol) (by rw [List.take_append_drop]; exact hr)
    cases hq : ride a0 a1 g s (o.take (o.length / 2)) with
    | none => rw [hq] at this; cases this
    | some v => rfl
   obtain ⟨b', e', p', w', hearly, hle⟩ := ride_early hol hr (c := a0 / 2) (by omega) (by omega)
   have hse : rArith .add .i64 last 1 = last + 1 := add1 (by omega) (by omega)
   have htk : (o.take (o.length / 2)).length ≤ 1073741824 := by rw [List.length_take]; omega
   have hbd := start_bd hk hol ha0.1 ha0.2
   obtain ⟨hloop, hbf, hw0, hw1⟩ := legs_loop (o := o) (a0 := a0) (a1 := a1) (g := g) (s := s) (K := (o, home g o fin, last, true, true, true, false, e', true, ())) rfl hro hv hol o.length 0 (start a0 s o) fin big (by omega) (lt_big (by omega)) (by rw [List.drop_zero]; exact hgo) (by simpa using hbd) (Int.le_refl _) ha0.1
   have hst : (start a0 s o).2.2.1 - (start a0 s o).2.2.2.2.1 - a0 = 0 := by show a0 - 0 - a0 = 0; omega
   have hst2 : (start a0 s o).2.2.2.2.2 = 0 := rfl
   rw [hst, hst2] at hloop
   have hl0 : laws_FnRides_l0 (o, home g o fin, last, true, true, true, false, e', true, ()) (a0, a1, g, s, 0, 0, 0, ()) = some (.inl (a0, a1, g, s, fin.2.2.1 - fin.2.2.2.2.1 - a0, fin.2.2.2.2.2, ())) := hloop
   have hz : rIsZero (2 : Int) = false := rfl
   have hR : rideR (some (fin.2.1, home g o fin, fin.2.2.2.1, fin.2.2.2.2.1)) = (fin.2.1, home g o fin, true, ()) := rfl
   have fl := lg_facts hro (p := fin.2.2.2.2.2) (q := 0) ⟨hbf.p0, hbf.p1⟩ (by omega)
   have q0 := hbf.e0
   have q1 := hbf.e1
   have hhome := home_eq o fin q0 q1 fl.1 fl.2
   have hgeq : rCmp .geq last a0 = true := decide_eq_true (by omega)
   have hleq : rCmp .leq e' (home g o fin) = true := decide_eq_true hle
   have hpl : rCmp .leq fin.2.2.2.1 a1 = true := decide_eq_true hpeak
   have g1 : rInR g fin.2.2.2.2.2 = true := inR_int hbf.p0 (by have := hbf.p1; omega)
   have g2 : rInR (rGet zLIl g fin.2.2.2.2.2) 0 = true := inR_int (Int.le_refl 0) (by have := hrow fin.2.2.2.2.2.toNat (by have := hbf.p1; have := hbf.p0; omega); show (0 : Int) < ((g.getD fin.2.2.2.2.2.toNat zLIl).length : Int); omega)
   simp only [hR, Bool.not_true, cond_false, hz, quoLen o hol, subOk_take (Nat.div_le_self _ _), sub_take, cond_true, hx a0 _ htk, hx last o ho, hse, hx (last + 1) o ho, quo2 ha0.1 (by omega), hx (a0 / 2) o ho, Option.bind_some, hhalf, isR, hcan, hcan', hearly]
   have hE : rideR (some (b', e', p', w')) = (b', e', true, ()) := rfl
   simp only [hE, hl0, Option.bind_some, Sum.elim_inl, hgeq, hleq, Bool.not_false, cond_true, hpk, hwt, hr, peakOf, waitOf, hpl, g1, g2]
   have hlgd : rGet zI (rGet zLIl g fin.2.2.2.2.2) 0 = lg g fin.2.2.2.2.2 0 := rfl
   rw [hlgd]
   cases o with
   | nil =>
    rw [show rCmp .gtr (rLen ([] : List Int)) 0 = false from rfl]
    simp only [cond_false]
    rw [hhome]
    simp only [List.length_nil]
    rw [show (min 1 ((0 : Nat) : Int)) = 0 from rfl, Int.mul_zero, Int.add_zero, sub64 (a := fin.2.2.1) (by omega) (by omega), sub64 (by omega) (by omega)]
    rw [show rCmp .eql fin.2.2.2.2.1 (fin.2.2.1 - a0 - (fin.2.2.1 - fin.2.2.2.2.1 - a0)) = true from by simp [rCmp]; omega]
   | cons x o =>
    rw [show rCmp .gtr (rLen (x :: o)) 0 = true from by simp [rCmp, rLen]]
    simp only [cond_true]
    rw [hhome]
    rw [show min 1 ((x :: o).length : Int) = 1 from by simp only [List.length_cons]; omega, Int.mul_one, sub64 (a := fin.2.2.1 + lg g fin.2.2.2.2.2 0) (by omega) (by omega), add64 (by omega) (by omega), sub64 (by omega) (by omega)]
    rw [show rCmp .eql fin.2.2.2.2.1 (fin.2.2.1 + lg g fin.2.2.2.2.2 0 - a0 - (fin.2.2.1 - fin.2.2.2.2.1 - a0 + lg g fin.2.2.2.2.2 0)) = true from by simp [rCmp]; omega]
end Go.Fn
