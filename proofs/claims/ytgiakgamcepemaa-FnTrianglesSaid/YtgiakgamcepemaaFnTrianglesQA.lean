import Derived.Test.YtgiakgamcepemaaRD
import Derived.Sort.AssemblyPlain
/- Plain functions that stand for Go functions, and what they answer. Conditions: none. -/
set_option autoImplicit false
set_option linter.unusedVariables false
set_option linter.unusedSimpArgs false
set_option linter.unusedVariables false
namespace Go.Fn
open Go.R
def zIIIIIII : Int × Int × Int × Int × Int × Int × Int := ((0 : Int), (0 : Int), (0 : Int), (0 : Int), (0 : Int), (0 : Int), (0 : Int))
def spec_l01In (a0 : Int) (a1 : Int) (a2 : Int) : Option (Bool × Unit) :=
  (bif (rCmp .geq a0 a1) then some ((rCmp .leq a0 a2), ()) else some (false, ()))
def impl_within (a0 : Int) (a1 : Int) (a2 : Int) : Option (Bool × Unit) :=
  (bif (rCmp .geq a0 a1) then some ((rCmp .leq a0 a2), ()) else some (false, ()))
def impl_timeOk (a0 : Int) : Option (Bool × Unit) :=
  ((impl_within a0 (0 : Int) (20000 : Int)).bind fun y0 => some (y0.1, ()))
end Go.Fn
set_option linter.unusedVariables false
namespace Go.Fn
open Go.R
def zI : Int := (0 : Int)
end Go.Fn
set_option linter.unusedVariables false
namespace Go.Fn
open Go.R
def zLIl : List (Int) := ([] : List (Int))
def zIIIII : Int × Int × Int × Int × Int := ((0 : Int), (0 : Int), (0 : Int), (0 : Int), (0 : Int))
def spec_RoundOk_b2 (k : Int × Int × (List (List (Int))) × (List (Int × Int × Int × Int × Int)) × Int × Unit) (x : Int × Unit) : Option ((Int × Unit) ⊕ (Bool × Unit ⊕ (Unit ⊕ Empty))) :=
  (bif (rCmp .lss x.1 (rLen k.2.2.1)) then (bif (rInR k.2.2.1 k.2.2.2.2.1) then (bif (rInR (rGet zLIl k.2.2.1 k.2.2.2.2.1) x.1) then ((spec_l01In (rGet zI (rGet zLIl k.2.2.1 k.2.2.2.2.1) x.1) (0 : Int) (200 : Int)).bind fun y0 => (bif (Bool.not y0.1) then some (.inr (.inl (false, ()))) else some (.inl ((rArith .add .i64 x.1 (1 : Int)), ())))) else none) else none) else some (.inr (.inr (.inl (())))))
def spec_RoundOk_l2 (k : Int × Int × (List (List (Int))) × (List (Int × Int × Int × Int × Int)) × Int × Unit) (x : Int × Unit) : Option (Bool × Unit ⊕ (Unit ⊕ Empty)) := iter (spec_RoundOk_b2 k) big x
def spec_RoundOk_b0 (k : Int × Int × (List (List (Int))) × (List (Int × Int × Int × Int × Int)) × Unit) (x : Int × Unit) : Option ((Int × Unit) ⊕ (Bool × Unit ⊕ (Unit ⊕ Empty))) :=
  (bif (rCmp .lss x.1 (rLen k.2.2.1)) then (bif (rInR k.2.2.1 x.1) then (bif (rCmp .neq (rLen (rGet zLIl k.2.2.1 x.1)) (rLen k.2.2.1)) then some (.inr (.inl (false, ()))) else ((spec_RoundOk_l2 (k.1, k.2.1, k.2.2.1, k.2.2.2.1, x.1, ()) ((0 : Int), ())).bind fun q0 => (Sum.elim (fun y1 => some (.inr (.inl (y1.1, ())))) (fun q2 => (Sum.elim (fun y3 => some (.inl ((rArith .add .i64 x.1 (1 : Int)), ()))) (fun q4 => (Empty.elim q4)) q2)) q0))) else none) else some (.inr (.inr (.inl (())))))
def spec_RoundOk_l0 (k : Int × Int × (List (List (Int))) × (List (Int × Int × Int × Int × Int)) × Unit) (x : Int × Unit) : Option (Bool × Unit ⊕ (Unit ⊕ Empty)) := iter (spec_RoundOk_b0 k) big x
def spec_RoundOk_b4 (k : Int × Int × (List (List (Int))) × (List (Int × Int × Int × Int × Int)) × Unit) (x : Int × Unit) : Option ((Int × Unit) ⊕ (Bool × Unit ⊕ (Unit ⊕ Empty))) :=
  (bif (rCmp .lss x.1 (rLen k.2.2.2.1)) then (bif (rInR k.2.2.2.1 x.1) then ((spec_l01In (rGet zIIIII k.2.2.2.1 x.1).2.1 (0 : Int) (20000 : Int)).bind fun y0 => (bif (Bool.not y0.1) then some (.inr (.inl (false, ()))) else ((spec_l01In (rGet zIIIII k.2.2.2.1 x.1).1 (0 : Int) (rGet zIIIII k.2.2.2.1 x.1).2.1).bind fun y1 => (bif (Bool.not y1.1) then some (.inr (.inl (false, ()))) else ((spec_l01In (rGet zIIIII k.2.2.2.1 x.1).2.2.1 (0 : Int) (200 : Int)).bind fun y2 => (bif (Bool.not y2.1) then some (.inr (.inl (false, ()))) else ((spec_l01In (rGet zIIIII k.2.2.2.1 x.1).2.2.2.1 (0 : Int) (1000 : Int)).bind fun y3 => (bif (Bool.not y3.1) then some (.inr (.inl (false, ()))) else ((spec_l01In (rGet zIIIII k.2.2.2.1 x.1).2.2.2.2 (0 : Int) (1000 : Int)).bind fun y4 => (bif (Bool.not y4.1) then some (.inr (.inl (false, ()))) else some (.inl ((rArith .add .i64 x.1 (1 : Int)), ())))))))))))) else none) else some (.inr (.inr (.inl (())))))
def spec_RoundOk_l4 (k : Int × Int × (List (List (Int))) × (List (Int × Int × Int × Int × Int)) × Unit) (x : Int × Unit) : Option (Bool × Unit ⊕ (Unit ⊕ Empty)) := iter (spec_RoundOk_b4 k) big x
def spec_RoundOk (a0 : Int) (a1 : Int) (a2 : (List (List (Int)))) (a3 : (List (Int × Int × Int × Int × Int))) : Option (Bool × Unit) :=
  ((spec_l01In a0 (0 : Int) (20000 : Int)).bind fun y0 => (bif (Bool.not y0.1) then some (false, ()) else ((spec_l01In a1 (0 : Int) (1000 : Int)).bind fun y1 => (bif (Bool.not y1.1) then some (false, ()) else (bif (rCmp .gtr (rLen a3) (6 : Int)) then some (false, ()) else (bif (rCmp .neq (rLen a2) (rArith .add .i64 (rLen a3) (1 : Int))) then some (false, ()) else ((spec_RoundOk_l0 (a0, a1, a2, a3, ()) ((0 : Int), ())).bind fun q2 => (Sum.elim (fun y3 => some (y3.1, ())) (fun q4 => (Sum.elim (fun y5 => ((spec_RoundOk_l4 (a0, a1, a2, a3, ()) ((0 : Int), ())).bind fun q6 => (Sum.elim (fun y7 => some (y7.1, ())) (fun q8 => (Sum.elim (fun y9 => some (true, ())) (fun q10 => (Empty.elim q10)) q8)) q6))) (fun q6 => (Empty.elim q6)) q4)) q2))))))))
def impl_RoundOk_1 (a0 : Int) : Option (Bool × Unit) :=
  ((impl_within a0 (0 : Int) (200 : Int)).bind fun y0 => some ((Bool.not y0.1), ()))
def slices_IndexFunc___int_int___impl_RoundOk_1_b0 (k : (List (Int)) × Int × Unit) (x : Int × Unit) : Option ((Int × Unit) ⊕ (Int × Unit ⊕ (Unit ⊕ Empty))) :=
  (bif (rCmp .lss x.1 k.2.1) then (bif (rInR k.1 x.1) then ((impl_RoundOk_1 (rGet zI k.1 x.1)).bind fun y0 => (bif y0.1 then some (.inr (.inl (x.1, ()))) else some (.inl ((rArith .add .i64 x.1 (1 : Int)), ())))) else none) else some (.inr (.inr (.inl (())))))
def slices_IndexFunc___int_int___impl_RoundOk_1_l0 (k : (List (Int)) × Int × Unit) (x : Int × Unit) : Option (Int × Unit ⊕ (Unit ⊕ Empty)) := iter (slices_IndexFunc___int_int___impl_RoundOk_1_b0 k) big x
def slices_IndexFunc___int_int___impl_RoundOk_1 (a0 : (List (Int))) : Option (Int × Unit) :=
  ((slices_IndexFunc___int_int___impl_RoundOk_1_l0 (a0, (rLen a0), ()) ((0 : Int), ())).bind fun q0 => (Sum.elim (fun y1 => some (y1.1, ())) (fun q2 => (Sum.elim (fun y3 => some ((-1 : Int), ())) (fun q4 => (Empty.elim q4)) q2)) q0))
def slices_ContainsFunc___int_int___impl_RoundOk_1 (a0 : (List (Int))) : Option (Bool × Unit) :=
  ((slices_IndexFunc___int_int___impl_RoundOk_1 a0).bind fun y0 => some ((rCmp .geq y0.1 (0 : Int)), ()))
def impl_RoundOk_b0 (k : Int × Int × (List (List (Int))) × (List (Int × Int × Int × Int × Int)) × (List (List (Int))) × Int × Unit) (x : Int × Unit) : Option ((Int × Unit) ⊕ (Bool × Unit ⊕ (Unit ⊕ Empty))) :=
  (bif (rCmp .lss x.1 k.2.2.2.2.2.1) then (bif (rInR k.2.2.2.2.1 x.1) then (bif (rCmp .neq (rLen (rGet zLIl k.2.2.2.2.1 x.1)) (rLen k.2.2.1)) then some (.inr (.inl (false, ()))) else ((slices_ContainsFunc___int_int___impl_RoundOk_1 (rGet zLIl k.2.2.2.2.1 x.1)).bind fun y0 => (bif y0.1 then some (.inr (.inl (false, ()))) else some (.inl ((rArith .add .i64 x.1 (1 : Int)), ()))))) else none) else some (.inr (.inr (.inl (())))))
def impl_RoundOk_l0 (k : Int × Int × (List (List (Int))) × (List (Int × Int × Int × Int × Int)) × (List (List (Int))) × Int × Unit) (x : Int × Unit) : Option (Bool × Unit ⊕ (Unit ⊕ Empty)) := iter (impl_RoundOk_b0 k) big x
def impl_RoundOk_b2 (k : (List (Int × Int × Int × Int × Int)) × Int × Unit) (x : Int × Unit) : Option ((Int × Unit) ⊕ (Bool × Unit ⊕ (Unit ⊕ Empty))) :=
  (bif (rCmp .lss x.1 k.2.1) then (bif (rInR k.1 x.1) then ((impl_timeOk (rGet zIIIII k.1 x.1).1).bind fun y0 => (bif (Bool.not y0.1) then some (.inr (.inl (false, ()))) else ((impl_timeOk (rGet zIIIII k.1 x.1).2.1).bind fun y1 => (bif (Bool.not y1.1) then some (.inr (.inl (false, ()))) else (bif (rCmp .gtr (rGet zIIIII k.1 x.1).1 (rGet zIIIII k.1 x.1).2.1) then some (.inr (.inl (false, ()))) else ((impl_within (rGet zIIIII k.1 x.1).2.2.1 (0 : Int) (200 : Int)).bind fun y2 => (bif (Bool.not y2.1) then some (.inr (.inl (false, ()))) else ((impl_within (rGet zIIIII k.1 x.1).2.2.2.1 (0 : Int) (1000 : Int)).bind fun y3 => (bif (Bool.not y3.1) then some (.inr (.inl (false, ()))) else ((impl_within (rGet zIIIII k.1 x.1).2.2.2.2 (0 : Int) (1000 : Int)).bind fun y4 => (bif (Bool.not y4.1) then some (.inr (.inl (false, ()))) else some (.inl ((rArith .add .i64 x.1 (1 : Int)), ()))))))))))))) else none) else some (.inr (.inr (.inl (())))))
def impl_RoundOk_l2 (k : (List (Int × Int × Int × Int × Int)) × Int × Unit) (x : Int × Unit) : Option (Bool × Unit ⊕ (Unit ⊕ Empty)) := iter (impl_RoundOk_b2 k) big x
def impl_RoundOk (a0 : Int) (a1 : Int) (a2 : (List (List (Int)))) (a3 : (List (Int × Int × Int × Int × Int))) : Option (Bool × Unit) :=
  ((impl_timeOk a0).bind fun y0 => (bif (Bool.not y0.1) then some (false, ()) else ((impl_within a1 (0 : Int) (1000 : Int)).bind fun y1 => (bif (Bool.not y1.1) then some (false, ()) else (bif (rCmp .gtr (rLen a3) (6 : Int)) then some (false, ()) else (bif (rCmp .neq (rLen a2) (rArith .add .i64 (rLen a3) (1 : Int))) then some (false, ()) else ((impl_RoundOk_l0 (a0, a1, a2, a3, a2, (rLen a2), ()) ((0 : Int), ())).bind fun q2 => (Sum.elim (fun y3 => some (y3.1, ())) (fun q4 => (Sum.elim (fun y5 => ((impl_RoundOk_l2 (a3, (rLen a3), ()) ((0 : Int), ())).bind fun q6 => (Sum.elim (fun y7 => some (y7.1, ())) (fun q8 => (Sum.elim (fun y9 => some (true, ())) (fun q10 => (Empty.elim q10)) q8)) q6))) (fun q6 => (Empty.elim q6)) q4)) q2))))))))
end Go.Fn
set_option linter.unusedVariables false
namespace Go.Fn
open Go.R
def spec_TriangleOk_b4 (k : Int × Int × (List (List (Int))) × (List (Int × Int × Int × Int × Int)) × Int × Int × Unit) (x : Int × Unit) : Option ((Int × Unit) ⊕ (Bool × Unit ⊕ (Unit ⊕ Empty))) :=
  (bif (rCmp .lss x.1 (rLen k.2.2.1)) then (bif (rInR k.2.2.1 k.2.2.2.2.1) then (bif (rInR (rGet zLIl k.2.2.1 k.2.2.2.2.1) k.2.2.2.2.2.1) then (bif (rInR k.2.2.1 k.2.2.2.2.1) then (bif (rInR (rGet zLIl k.2.2.1 k.2.2.2.2.1) x.1) then (bif (rInR k.2.2.1 x.1) then (bif (rInR (rGet zLIl k.2.2.1 x.1) k.2.2.2.2.2.1) then (lets (rCmp .gtr (rGet zI (rGet zLIl k.2.2.1 k.2.2.2.2.1) k.2.2.2.2.2.1) (rArith .add .i64 (rGet zI (rGet zLIl k.2.2.1 k.2.2.2.2.1) x.1) (rGet zI (rGet zLIl k.2.2.1 x.1) k.2.2.2.2.2.1))) fun v0 => (bif v0 then some (.inr (.inl (false, ()))) else some (.inl ((rArith .add .i64 x.1 (1 : Int)), ())))) else none) else none) else none) else none) else none) else none) else some (.inr (.inr (.inl (())))))
def spec_TriangleOk_l4 (k : Int × Int × (List (List (Int))) × (List (Int × Int × Int × Int × Int)) × Int × Int × Unit) (x : Int × Unit) : Option (Bool × Unit ⊕ (Unit ⊕ Empty)) := iter (spec_TriangleOk_b4 k) big x
def spec_TriangleOk_b2 (k : Int × Int × (List (List (Int))) × (List (Int × Int × Int × Int × Int)) × Int × Unit) (x : Int × Unit) : Option ((Int × Unit) ⊕ (Bool × Unit ⊕ (Unit ⊕ Empty))) :=
  (bif (rCmp .lss x.1 (rLen k.2.2.1)) then ((spec_TriangleOk_l4 (k.1, k.2.1, k.2.2.1, k.2.2.2.1, k.2.2.2.2.1, x.1, ()) ((0 : Int), ())).bind fun q0 => (Sum.elim (fun y1 => some (.inr (.inl (y1.1, ())))) (fun q2 => (Sum.elim (fun y3 => some (.inl ((rArith .add .i64 x.1 (1 : Int)), ()))) (fun q4 => (Empty.elim q4)) q2)) q0)) else some (.inr (.inr (.inl (())))))
def spec_TriangleOk_l2 (k : Int × Int × (List (List (Int))) × (List (Int × Int × Int × Int × Int)) × Int × Unit) (x : Int × Unit) : Option (Bool × Unit ⊕ (Unit ⊕ Empty)) := iter (spec_TriangleOk_b2 k) big x
def spec_TriangleOk_b0 (k : Int × Int × (List (List (Int))) × (List (Int × Int × Int × Int × Int)) × Unit) (x : Int × Unit) : Option ((Int × Unit) ⊕ (Bool × Unit ⊕ (Unit ⊕ Empty))) :=
  (bif (rCmp .lss x.1 (rLen k.2.2.1)) then ((spec_TriangleOk_l2 (k.1, k.2.1, k.2.2.1, k.2.2.2.1, x.1, ()) ((0 : Int), ())).bind fun q0 => (Sum.elim (fun y1 => some (.inr (.inl (y1.1, ())))) (fun q2 => (Sum.elim (fun y3 => some (.inl ((rArith .add .i64 x.1 (1 : Int)), ()))) (fun q4 => (Empty.elim q4)) q2)) q0)) else some (.inr (.inr (.inl (())))))
def spec_TriangleOk_l0 (k : Int × Int × (List (List (Int))) × (List (Int × Int × Int × Int × Int)) × Unit) (x : Int × Unit) : Option (Bool × Unit ⊕ (Unit ⊕ Empty)) := iter (spec_TriangleOk_b0 k) big x
def spec_TriangleOk (a0 : Int) (a1 : Int) (a2 : (List (List (Int)))) (a3 : (List (Int × Int × Int × Int × Int))) : Option (Bool × Unit) :=
  ((spec_RoundOk a0 a1 a2 a3).bind fun y0 => (bif (Bool.not y0.1) then some (false, ()) else ((spec_TriangleOk_l0 (a0, a1, a2, a3, ()) ((0 : Int), ())).bind fun q1 => (Sum.elim (fun y2 => some (y2.1, ())) (fun q3 => (Sum.elim (fun y4 => some (true, ())) (fun q5 => (Empty.elim q5)) q3)) q1))))
def impl_TriangleOk_b4 (k : Int × Int × (List (List (Int))) × (List (Int × Int × Int × Int × Int)) × Int × Int × Int × Int × Int × Int × Int × Unit) (x : Int × Unit) : Option ((Int × Unit) ⊕ (Bool × Unit ⊕ (Unit ⊕ Empty))) :=
  (bif (rCmp .lss x.1 k.2.2.2.2.2.2.2.2.2.2.1) then (bif (rInR k.2.2.1 k.2.2.2.2.1) then (bif (rInR (rGet zLIl k.2.2.1 k.2.2.2.2.1) k.2.2.2.2.2.1) then (bif (rInR k.2.2.1 k.2.2.2.2.1) then (bif (rInR (rGet zLIl k.2.2.1 k.2.2.2.2.1) x.1) then (bif (rInR k.2.2.1 x.1) then (bif (rInR (rGet zLIl k.2.2.1 x.1) k.2.2.2.2.2.1) then (lets (rCmp .gtr (rGet zI (rGet zLIl k.2.2.1 k.2.2.2.2.1) k.2.2.2.2.2.1) (rArith .add .i64 (rGet zI (rGet zLIl k.2.2.1 k.2.2.2.2.1) x.1) (rGet zI (rGet zLIl k.2.2.1 x.1) k.2.2.2.2.2.1))) fun v0 => (bif v0 then some (.inr (.inl (false, ()))) else some (.inl ((rArith .add .i64 x.1 (1 : Int)), ())))) else none) else none) else none) else none) else none) else none) else some (.inr (.inr (.inl (())))))
def impl_TriangleOk_l4 (k : Int × Int × (List (List (Int))) × (List (Int × Int × Int × Int × Int)) × Int × Int × Int × Int × Int × Int × Int × Unit) (x : Int × Unit) : Option (Bool × Unit ⊕ (Unit ⊕ Empty)) := iter (impl_TriangleOk_b4 k) big x
def impl_TriangleOk_b2 (k : Int × Int × (List (List (Int))) × (List (Int × Int × Int × Int × Int)) × Int × Int × Int × Int × Unit) (x : Int × Unit) : Option ((Int × Unit) ⊕ (Bool × Unit ⊕ (Unit ⊕ Empty))) :=
  (bif (rCmp .lss x.1 k.2.2.2.2.2.2.2.1) then ((impl_TriangleOk_l4 (k.1, k.2.1, k.2.2.1, k.2.2.2.1, k.2.2.2.2.1, x.1, k.2.2.2.2.2.1, k.2.2.2.2.2.2.1, k.2.2.2.2.2.2.2.1, x.1, (rLen k.2.2.1), ()) ((0 : Int), ())).bind fun q0 => (Sum.elim (fun y1 => some (.inr (.inl (y1.1, ())))) (fun q2 => (Sum.elim (fun y3 => some (.inl ((rArith .add .i64 x.1 (1 : Int)), ()))) (fun q4 => (Empty.elim q4)) q2)) q0)) else some (.inr (.inr (.inl (())))))
def impl_TriangleOk_l2 (k : Int × Int × (List (List (Int))) × (List (Int × Int × Int × Int × Int)) × Int × Int × Int × Int × Unit) (x : Int × Unit) : Option (Bool × Unit ⊕ (Unit ⊕ Empty)) := iter (impl_TriangleOk_b2 k) big x
def impl_TriangleOk_b0 (k : Int × Int × (List (List (Int))) × (List (Int × Int × Int × Int × Int)) × Int × Unit) (x : Int × Unit) : Option ((Int × Unit) ⊕ (Bool × Unit ⊕ (Unit ⊕ Empty))) :=
  (bif (rCmp .lss x.1 k.2.2.2.2.1) then ((impl_TriangleOk_l2 (k.1, k.2.1, k.2.2.1, k.2.2.2.1, x.1, k.2.2.2.2.1, x.1, (rLen k.2.2.1), ()) ((0 : Int), ())).bind fun q0 => (Sum.elim (fun y1 => some (.inr (.inl (y1.1, ())))) (fun q2 => (Sum.elim (fun y3 => some (.inl ((rArith .add .i64 x.1 (1 : Int)), ()))) (fun q4 => (Empty.elim q4)) q2)) q0)) else some (.inr (.inr (.inl (())))))
def impl_TriangleOk_l0 (k : Int × Int × (List (List (Int))) × (List (Int × Int × Int × Int × Int)) × Int × Unit) (x : Int × Unit) : Option (Bool × Unit ⊕ (Unit ⊕ Empty)) := iter (impl_TriangleOk_b0 k) big x
def impl_TriangleOk (a0 : Int) (a1 : Int) (a2 : (List (List (Int)))) (a3 : (List (Int × Int × Int × Int × Int))) : Option (Bool × Unit) :=
  ((impl_RoundOk a0 a1 a2 a3).bind fun y0 => (bif (Bool.not y0.1) then some (false, ()) else ((impl_TriangleOk_l0 (a0, a1, a2, a3, (rLen a2), ()) ((0 : Int), ())).bind fun q1 => (Sum.elim (fun y2 => some (y2.1, ())) (fun q3 => (Sum.elim (fun y4 => some (true, ())) (fun q5 => (Empty.elim q5)) q3)) q1))))
def spec_l02Has_b0 (k : (List (Int)) × Int × Unit) (x : Int × Unit) : Option ((Int × Unit) ⊕ (Bool × Unit ⊕ (Unit ⊕ Empty))) :=
  (bif (rCmp .lss x.1 (rLen k.1)) then (bif (rInR k.1 x.1) then (bif (rCmp .eql (rGet zI k.1 x.1) k.2.1) then some (.inr (.inl (true, ()))) else some (.inl ((rArith .add .i64 x.1 (1 : Int)), ()))) else none) else some (.inr (.inr (.inl (())))))
def spec_l02Has_l0 (k : (List (Int)) × Int × Unit) (x : Int × Unit) : Option (Bool × Unit ⊕ (Unit ⊕ Empty)) := iter (spec_l02Has_b0 k) big x
def spec_l02Has (a0 : (List (Int))) (a1 : Int) : Option (Bool × Unit) :=
  ((spec_l02Has_l0 (a0, a1, ()) ((0 : Int), ())).bind fun q0 => (Sum.elim (fun y1 => some (y1.1, ())) (fun q2 => (Sum.elim (fun y3 => some (false, ())) (fun q4 => (Empty.elim q4)) q2)) q0))
def spec_OrderOk_b0 (k : (List (Int)) × Int × Int × (List (List (Int))) × (List (Int × Int × Int × Int × Int)) × Unit) (x : Int × Unit) : Option ((Int × Unit) ⊕ (Bool × Unit ⊕ (Unit ⊕ Empty))) :=
  (bif (rCmp .lss x.1 (rLen k.1)) then (bif (rInR k.1 x.1) then ((spec_l01In (rGet zI k.1 x.1) (0 : Int) (rArith .sub .i64 (rLen k.2.2.2.2.1) (1 : Int))).bind fun y0 => (bif (Bool.not y0.1) then some (.inr (.inl (false, ()))) else (bif (rSubOk k.1 (0 : Int) x.1) then (bif (rInR k.1 x.1) then ((spec_l02Has (rSub k.1 (0 : Int) x.1) (rGet zI k.1 x.1)).bind fun y1 => (bif y1.1 then some (.inr (.inl (false, ()))) else some (.inl ((rArith .add .i64 x.1 (1 : Int)), ())))) else none) else none))) else none) else some (.inr (.inr (.inl (())))))
def spec_OrderOk_l0 (k : (List (Int)) × Int × Int × (List (List (Int))) × (List (Int × Int × Int × Int × Int)) × Unit) (x : Int × Unit) : Option (Bool × Unit ⊕ (Unit ⊕ Empty)) := iter (spec_OrderOk_b0 k) big x
def spec_OrderOk (a0 : Int) (a1 : Int) (a2 : (List (List (Int)))) (a3 : (List (Int × Int × Int × Int × Int))) (a4 : (List (Int))) : Option (Bool × Unit) :=
  ((spec_RoundOk a0 a1 a2 a3).bind fun y0 => (bif (Bool.not y0.1) then some (false, ()) else ((spec_OrderOk_l0 (a4, a0, a1, a2, a3, ()) ((0 : Int), ())).bind fun q1 => (Sum.elim (fun y2 => some (y2.1, ())) (fun q3 => (Sum.elim (fun y4 => some (true, ())) (fun q5 => (Empty.elim q5)) q3)) q1))))
def slices_Index___int_int__b0 (k : (List (Int)) × Int × Int × Unit) (x : Int × Unit) : Option ((Int × Unit) ⊕ (Int × Unit ⊕ (Unit ⊕ Empty))) :=
  (bif (rCmp .lss x.1 k.2.2.1) then (bif (rInR k.1 x.1) then (bif (rCmp .eql k.2.1 (rGet zI k.1 x.1)) then some (.inr (.inl (x.1, ()))) else some (.inl ((rArith .add .i64 x.1 (1 : Int)), ()))) else none) else some (.inr (.inr (.inl (())))))
def slices_Index___int_int__l0 (k : (List (Int)) × Int × Int × Unit) (x : Int × Unit) : Option (Int × Unit ⊕ (Unit ⊕ Empty)) := iter (slices_Index___int_int__b0 k) big x
def slices_Index___int_int_ (a0 : (List (Int))) (a1 : Int) : Option (Int × Unit) :=
  ((slices_Index___int_int__l0 (a0, a1, (rLen a0), ()) ((0 : Int), ())).bind fun q0 => (Sum.elim (fun y1 => some (y1.1, ())) (fun q2 => (Sum.elim (fun y3 => some ((-1 : Int), ())) (fun q4 => (Empty.elim q4)) q2)) q0))
def slices_Contains___int_int_ (a0 : (List (Int))) (a1 : Int) : Option (Bool × Unit) :=
  ((slices_Index___int_int_ a0 a1).bind fun y0 => some ((rCmp .geq y0.1 (0 : Int)), ()))
def impl_OrderOk_b0 (k : (List (Int)) × Int × Int × (List (List (Int))) × (List (Int × Int × Int × Int × Int)) × (List (Int)) × Int × Unit) (x : Int × Unit) : Option ((Int × Unit) ⊕ (Bool × Unit ⊕ (Unit ⊕ Empty))) :=
  (bif (rCmp .lss x.1 k.2.2.2.2.2.2.1) then (bif (rInR k.2.2.2.2.2.1 x.1) then ((impl_within (rGet zI k.2.2.2.2.2.1 x.1) (0 : Int) (rArith .sub .i64 (rLen k.2.2.2.2.1) (1 : Int))).bind fun y0 => (bif (Bool.not y0.1) then some (.inr (.inl (false, ()))) else (bif (rSubOk k.1 (0 : Int) x.1) then ((slices_Contains___int_int_ (rSub k.1 (0 : Int) x.1) (rGet zI k.2.2.2.2.2.1 x.1)).bind fun y1 => (bif y1.1 then some (.inr (.inl (false, ()))) else some (.inl ((rArith .add .i64 x.1 (1 : Int)), ())))) else none))) else none) else some (.inr (.inr (.inl (())))))
def impl_OrderOk_l0 (k : (List (Int)) × Int × Int × (List (List (Int))) × (List (Int × Int × Int × Int × Int)) × (List (Int)) × Int × Unit) (x : Int × Unit) : Option (Bool × Unit ⊕ (Unit ⊕ Empty)) := iter (impl_OrderOk_b0 k) big x
def impl_OrderOk (a0 : Int) (a1 : Int) (a2 : (List (List (Int)))) (a3 : (List (Int × Int × Int × Int × Int))) (a4 : (List (Int))) : Option (Bool × Unit) :=
  ((impl_RoundOk a0 a1 a2 a3).bind fun y0 => (bif (Bool.not y0.1) then some (false, ()) else ((impl_OrderOk_l0 (a4, a0, a1, a2, a3, a4, (rLen a4), ()) ((0 : Int), ())).bind fun q1 => (Sum.elim (fun y2 => some (y2.1, ())) (fun q3 => (Sum.elim (fun y4 => some (true, ())) (fun q5 => (Empty.elim q5)) q3)) q1))))
def spec_l07Drive_b0 (k : (List (Int)) × Int × Int × (List (List (Int))) × (List (Int × Int × Int × Int × Int)) × Unit) (x : (List (Int)) × Int × Int × Int × (List (Int)) × Int × Int × Int × Int × Int × Unit) : Option (((List (Int)) × Int × Int × Int × (List (Int)) × Int × Int × Int × Int × Int × Unit) ⊕ ((List (Int)) × Int × Int × Int × (List (Int)) × Int × Int × Int × Int × Unit ⊕ Empty)) :=
  (bif (rCmp .lss x.2.2.2.2.2.2.2.2.2.1 (rLen k.1)) then (bif (rInR k.1 x.2.2.2.2.2.2.2.2.2.1) then (bif (rInR k.2.2.2.2.1 (rGet zI k.1 x.2.2.2.2.2.2.2.2.2.1)) then some (.inl (x.1, x.2.1, x.2.2.1, x.2.2.2.1, x.2.2.2.2.1, x.2.2.2.2.2.1, x.2.2.2.2.2.2.1, x.2.2.2.2.2.2.2.1, (rArith .add .i64 x.2.2.2.2.2.2.2.2.1 (rGet zIIIII k.2.2.2.2.1 (rGet zI k.1 x.2.2.2.2.2.2.2.2.2.1)).2.2.2.1), (rArith .add .i64 x.2.2.2.2.2.2.2.2.2.1 (1 : Int)), ())) else none) else none) else some (.inr (.inl (x.1, x.2.1, x.2.2.1, x.2.2.2.1, x.2.2.2.2.1, x.2.2.2.2.2.1, x.2.2.2.2.2.2.1, x.2.2.2.2.2.2.2.1, x.2.2.2.2.2.2.2.2.1, ()))))
def spec_l07Drive_l0 (k : (List (Int)) × Int × Int × (List (List (Int))) × (List (Int × Int × Int × Int × Int)) × Unit) (x : (List (Int)) × Int × Int × Int × (List (Int)) × Int × Int × Int × Int × Int × Unit) : Option ((List (Int)) × Int × Int × Int × (List (Int)) × Int × Int × Int × Int × Unit ⊕ Empty) := iter (spec_l07Drive_b0 k) big x
def spec_l07Drive_b2 (k : (List (Int)) × Int × Int × (List (List (Int))) × (List (Int × Int × Int × Int × Int)) × Unit) (x : (List (Int)) × Int × Int × Int × (List (Int)) × Int × Int × Int × Int × Int × Int × Unit) : Option (((List (Int)) × Int × Int × Int × (List (Int)) × Int × Int × Int × Int × Int × Int × Unit) ⊕ ((List (Int)) × Int × Int × Int × Bool × Unit ⊕ ((List (Int)) × Int × Int × Int × (List (Int)) × Int × Int × Int × Int × Unit ⊕ Empty))) :=
  (bif (rCmp .lss x.2.2.2.2.2.2.2.2.2.2.1 (rLen k.1)) then (bif (rInR k.1 x.2.2.2.2.2.2.2.2.2.2.1) then (bif (rInR k.2.2.2.2.1 (rGet zI k.1 x.2.2.2.2.2.2.2.2.2.2.1)) then (bif (rInR k.2.2.2.1 x.2.2.2.2.2.2.2.2.2.1) then (bif (rInR k.1 x.2.2.2.2.2.2.2.2.2.2.1) then (bif (rInR (rGet zLIl k.2.2.2.1 x.2.2.2.2.2.2.2.2.2.1) (rArith .add .i64 (rGet zI k.1 x.2.2.2.2.2.2.2.2.2.2.1) (1 : Int))) then (lets (rCmp .gtr (rArith .add .i64 x.2.2.2.2.2.1 (rGet zI (rGet zLIl k.2.2.2.1 x.2.2.2.2.2.2.2.2.2.1) (rArith .add .i64 (rGet zI k.1 x.2.2.2.2.2.2.2.2.2.2.1) (1 : Int)))) (rGet zIIIII k.2.2.2.2.1 (rGet zI k.1 x.2.2.2.2.2.2.2.2.2.2.1)).2.1) fun v0 => (bif v0 then some (.inr (.inl (x.2.2.2.2.1, x.2.2.2.2.2.1, x.2.2.2.2.2.2.1, x.2.2.2.2.2.2.2.1, false, ()))) else (lets (rMxmn true (rArith .add .i64 x.2.2.2.2.2.1 (rGet zI (rGet zLIl k.2.2.2.1 x.2.2.2.2.2.2.2.2.2.1) (rArith .add .i64 (rGet zI k.1 x.2.2.2.2.2.2.2.2.2.2.1) (1 : Int)))) (rGet zIIIII k.2.2.2.2.1 (rGet zI k.1 x.2.2.2.2.2.2.2.2.2.2.1)).1) fun v1 => (bif (rSmall (List.append (α := Int) x.2.2.2.2.1 (List.append (α := Int) ([] : List (Int)) [v1]))) then (lets (rArith .sub .i64 (rArith .add .i64 x.2.2.2.2.2.2.2.1 v1) (rArith .add .i64 x.2.2.2.2.2.1 (rGet zI (rGet zLIl k.2.2.2.1 x.2.2.2.2.2.2.2.2.2.1) (rArith .add .i64 (rGet zI k.1 x.2.2.2.2.2.2.2.2.2.2.1) (1 : Int))))) fun v2 => (lets (rArith .add .i64 (rArith .sub .i64 x.2.2.2.2.2.2.2.2.1 (rGet zIIIII k.2.2.2.2.1 (rGet zI k.1 x.2.2.2.2.2.2.2.2.2.2.1)).2.2.2.1) (rGet zIIIII k.2.2.2.2.1 (rGet zI k.1 x.2.2.2.2.2.2.2.2.2.2.1)).2.2.2.2) fun v3 => (bif (rInR k.1 x.2.2.2.2.2.2.2.2.2.2.1) then some (.inl (x.1, x.2.1, x.2.2.1, x.2.2.2.1, (List.append (α := Int) x.2.2.2.2.1 (List.append (α := Int) ([] : List (Int)) [v1])), (rArith .add .i64 v1 (rGet zIIIII k.2.2.2.2.1 (rGet zI k.1 x.2.2.2.2.2.2.2.2.2.2.1)).2.2.1), (rMxmn true x.2.2.2.2.2.2.1 v3), v2, v3, (rArith .add .i64 (rGet zI k.1 x.2.2.2.2.2.2.2.2.2.2.1) (1 : Int)), (rArith .add .i64 x.2.2.2.2.2.2.2.2.2.2.1 (1 : Int)), ())) else none))) else none)))) else none) else none) else none) else none) else none) else some (.inr (.inr (.inl (x.1, x.2.1, x.2.2.1, x.2.2.2.1, x.2.2.2.2.1, x.2.2.2.2.2.1, x.2.2.2.2.2.2.1, x.2.2.2.2.2.2.2.1, x.2.2.2.2.2.2.2.2.2.1, ())))))
def spec_l07Drive_l2 (k : (List (Int)) × Int × Int × (List (List (Int))) × (List (Int × Int × Int × Int × Int)) × Unit) (x : (List (Int)) × Int × Int × Int × (List (Int)) × Int × Int × Int × Int × Int × Int × Unit) : Option ((List (Int)) × Int × Int × Int × Bool × Unit ⊕ ((List (Int)) × Int × Int × Int × (List (Int)) × Int × Int × Int × Int × Unit ⊕ Empty)) := iter (spec_l07Drive_b2 k) big x
def spec_l07Drive (a0 : Int) (a1 : Int) (a2 : (List (List (Int)))) (a3 : (List (Int × Int × Int × Int × Int))) (a4 : (List (Int))) : Option ((List (Int)) × Int × Int × Int × Bool × Unit) :=
  ((spec_OrderOk a0 a1 a2 a3 a4).bind fun y0 => (bif (Bool.not y0.1) then some (([] : List (Int)), a0, (0 : Int), (0 : Int), false, ()) else ((spec_l07Drive_l0 (a4, a0, a1, a2, a3, ()) (([] : List (Int)), (0 : Int), (0 : Int), (0 : Int), ([] : List (Int)), a0, (0 : Int), (0 : Int), (0 : Int), (0 : Int), ())).bind fun q1 => (Sum.elim (fun y2 => ((spec_l07Drive_l2 (a4, a0, a1, a2, a3, ()) (y2.1, y2.2.1, y2.2.2.1, y2.2.2.2.1, y2.2.2.2.2.1, y2.2.2.2.2.2.1, y2.2.2.2.2.2.2.2.2.1, y2.2.2.2.2.2.2.2.1, y2.2.2.2.2.2.2.2.2.1, (0 : Int), (0 : Int), ())).bind fun q3 => (Sum.elim (fun y4 => some (y4.1, y4.2.1, y4.2.2.1, y4.2.2.2.1, y4.2.2.2.2.1, ())) (fun q5 => (Sum.elim (fun y6 => (bif (rCmp .gtr (rLen a4) (0 : Int)) then (bif (rInR a2 y6.2.2.2.2.2.2.2.2.1) then (bif (rInR (rGet zLIl a2 y6.2.2.2.2.2.2.2.2.1) (0 : Int)) then some (y6.2.2.2.2.1, (rArith .add .i64 y6.2.2.2.2.2.1 (rGet zI (rGet zLIl a2 y6.2.2.2.2.2.2.2.2.1) (0 : Int))), y6.2.2.2.2.2.2.1, y6.2.2.2.2.2.2.2.1, (rCmp .leq y6.2.2.2.2.2.2.1 a1), ()) else none) else none) else some (y6.2.2.2.2.1, y6.2.2.2.2.2.1, y6.2.2.2.2.2.2.1, y6.2.2.2.2.2.2.2.1, (rCmp .leq y6.2.2.2.2.2.2.1 a1), ()))) (fun q7 => (Empty.elim q7)) q5)) q3))) (fun q3 => (Empty.elim q3)) q1))))
def impl_ride_b0 (k : (List (Int)) × Int × Int × (List (List (Int))) × (List (Int × Int × Int × Int × Int)) × (List (Int)) × Int × Unit) (x : (List (Int)) × Int × Int × Int × Int × Int × Unit) : Option (((List (Int)) × Int × Int × Int × Int × Int × Unit) ⊕ ((List (Int)) × Int × Int × Int × Int × Unit ⊕ Empty)) :=
  (bif (rCmp .lss x.2.2.2.2.2.1 k.2.2.2.2.2.2.1) then (bif (rInR k.2.2.2.2.2.1 x.2.2.2.2.2.1) then (bif (rInR k.2.2.2.2.1 (rGet zI k.2.2.2.2.2.1 x.2.2.2.2.2.1)) then some (.inl (x.1, x.2.1, x.2.2.1, x.2.2.2.1, (rArith .add .i64 x.2.2.2.2.1 (rGet zIIIII k.2.2.2.2.1 (rGet zI k.2.2.2.2.2.1 x.2.2.2.2.2.1)).2.2.2.1), (rArith .add .i64 x.2.2.2.2.2.1 (1 : Int)), ())) else none) else none) else some (.inr (.inl (x.1, x.2.1, x.2.2.1, x.2.2.2.1, x.2.2.2.2.1, ()))))
def impl_ride_l0 (k : (List (Int)) × Int × Int × (List (List (Int))) × (List (Int × Int × Int × Int × Int)) × (List (Int)) × Int × Unit) (x : (List (Int)) × Int × Int × Int × Int × Int × Unit) : Option ((List (Int)) × Int × Int × Int × Int × Unit ⊕ Empty) := iter (impl_ride_b0 k) big x
def impl_ride_b2 (k : (List (Int)) × Int × Int × (List (List (Int))) × (List (Int × Int × Int × Int × Int)) × (List (Int)) × Int × Unit) (x : (List (Int)) × Int × Int × Int × Int × (List (Int)) × Int × Int × Int × Int × Int × Unit) : Option (((List (Int)) × Int × Int × Int × Int × (List (Int)) × Int × Int × Int × Int × Int × Unit) ⊕ ((List (Int)) × Int × Int × Int × Bool × Unit ⊕ ((List (Int)) × Int × Int × Int × (List (Int)) × Int × Int × Int × Int × Unit ⊕ Empty))) :=
  (bif (rCmp .lss x.2.2.2.2.2.2.2.2.2.2.1 k.2.2.2.2.2.2.1) then (bif (rInR k.2.2.2.2.2.1 x.2.2.2.2.2.2.2.2.2.2.1) then (bif (rInR k.2.2.2.2.1 (rGet zI k.2.2.2.2.2.1 x.2.2.2.2.2.2.2.2.2.2.1)) then (bif (rInR k.2.2.2.1 x.2.2.2.2.2.2.2.2.2.1) then (bif (rInR (rGet zLIl k.2.2.2.1 x.2.2.2.2.2.2.2.2.2.1) (rArith .add .i64 (rGet zI k.2.2.2.2.2.1 x.2.2.2.2.2.2.2.2.2.2.1) (1 : Int))) then (lets (rArith .add .i64 x.2.2.2.2.2.2.1 (rGet zI (rGet zLIl k.2.2.2.1 x.2.2.2.2.2.2.2.2.2.1) (rArith .add .i64 (rGet zI k.2.2.2.2.2.1 x.2.2.2.2.2.2.2.2.2.2.1) (1 : Int)))) fun v0 => (bif (rCmp .gtr v0 (rGet zIIIII k.2.2.2.2.1 (rGet zI k.2.2.2.2.2.1 x.2.2.2.2.2.2.2.2.2.2.1)).2.1) then some (.inr (.inl (([] : List (Int)), (0 : Int), (0 : Int), (0 : Int), false, ()))) else (bif (rSmall (List.append (α := Int) x.2.2.2.2.2.1 (List.append (α := Int) ([] : List (Int)) [(rMxmn true v0 (rGet zIIIII k.2.2.2.2.1 (rGet zI k.2.2.2.2.2.1 x.2.2.2.2.2.2.2.2.2.2.1)).1)]))) then (lets (rArith .sub .i64 (rGet zIIIII k.2.2.2.2.1 (rGet zI k.2.2.2.2.2.1 x.2.2.2.2.2.2.2.2.2.2.1)).2.2.2.2 (rGet zIIIII k.2.2.2.2.1 (rGet zI k.2.2.2.2.2.1 x.2.2.2.2.2.2.2.2.2.2.1)).2.2.2.1) fun v1 => (lets (rArith .add .i64 (rMxmn true v0 (rGet zIIIII k.2.2.2.2.1 (rGet zI k.2.2.2.2.2.1 x.2.2.2.2.2.2.2.2.2.2.1)).1) (rGet zIIIII k.2.2.2.2.1 (rGet zI k.2.2.2.2.2.1 x.2.2.2.2.2.2.2.2.2.2.1)).2.2.1) fun v2 => some (.inl (x.1, x.2.1, x.2.2.1, x.2.2.2.1, (rArith .add .i64 x.2.2.2.2.1 v1), (List.append (α := Int) x.2.2.2.2.2.1 (List.append (α := Int) ([] : List (Int)) [(rMxmn true v0 (rGet zIIIII k.2.2.2.2.1 (rGet zI k.2.2.2.2.2.1 x.2.2.2.2.2.2.2.2.2.2.1)).1)])), v2, (rMxmn true x.2.2.2.2.2.2.2.1 (rArith .add .i64 x.2.2.2.2.1 v1)), (rArith .add .i64 x.2.2.2.2.2.2.2.2.1 (rArith .sub .i64 (rMxmn true v0 (rGet zIIIII k.2.2.2.2.1 (rGet zI k.2.2.2.2.2.1 x.2.2.2.2.2.2.2.2.2.2.1)).1) v0)), (rArith .add .i64 (rGet zI k.2.2.2.2.2.1 x.2.2.2.2.2.2.2.2.2.2.1) (1 : Int)), (rArith .add .i64 x.2.2.2.2.2.2.2.2.2.2.1 (1 : Int)), ())))) else none))) else none) else none) else none) else none) else some (.inr (.inr (.inl (x.1, x.2.1, x.2.2.1, x.2.2.2.1, x.2.2.2.2.2.1, x.2.2.2.2.2.2.1, x.2.2.2.2.2.2.2.1, x.2.2.2.2.2.2.2.2.1, x.2.2.2.2.2.2.2.2.2.1, ())))))
def impl_ride_l2 (k : (List (Int)) × Int × Int × (List (List (Int))) × (List (Int × Int × Int × Int × Int)) × (List (Int)) × Int × Unit) (x : (List (Int)) × Int × Int × Int × Int × (List (Int)) × Int × Int × Int × Int × Int × Unit) : Option ((List (Int)) × Int × Int × Int × Bool × Unit ⊕ ((List (Int)) × Int × Int × Int × (List (Int)) × Int × Int × Int × Int × Unit ⊕ Empty)) := iter (impl_ride_b2 k) big x
def impl_ride (a0 : Int) (a1 : Int) (a2 : (List (List (Int)))) (a3 : (List (Int × Int × Int × Int × Int))) (a4 : (List (Int))) : Option ((List (Int)) × Int × Int × Int × Bool × Unit) :=
  ((impl_OrderOk a0 a1 a2 a3 a4).bind fun y0 => (bif (Bool.not y0.1) then some (([] : List (Int)), (0 : Int), (0 : Int), (0 : Int), false, ()) else ((impl_ride_l0 (a4, a0, a1, a2, a3, a4, (rLen a4), ()) (([] : List (Int)), (0 : Int), (0 : Int), (0 : Int), (0 : Int), (0 : Int), ())).bind fun q1 => (Sum.elim (fun y2 => ((impl_ride_l2 (a4, a0, a1, a2, a3, a4, (rLen a4), ()) (y2.1, y2.2.1, y2.2.2.1, y2.2.2.2.1, y2.2.2.2.2.1, ([] : List (Int)), a0, y2.2.2.2.2.1, (0 : Int), (0 : Int), (0 : Int), ())).bind fun q3 => (Sum.elim (fun y4 => some (y4.1, y4.2.1, y4.2.2.1, y4.2.2.2.1, y4.2.2.2.2.1, ())) (fun q5 => (Sum.elim (fun y6 => (bif (rInR a2 y6.2.2.2.2.2.2.2.2.1) then (bif (rInR (rGet zLIl a2 y6.2.2.2.2.2.2.2.2.1) (0 : Int)) then (bif (rCmp .gtr y6.2.2.2.2.2.2.1 a1) then some (([] : List (Int)), (0 : Int), (0 : Int), (0 : Int), false, ()) else some (y6.2.2.2.2.1, (rArith .add .i64 y6.2.2.2.2.2.1 (rArith .mul .i64 (rGet zI (rGet zLIl a2 y6.2.2.2.2.2.2.2.2.1) (0 : Int)) (rMxmn false (1 : Int) (rLen a4)))), y6.2.2.2.2.2.2.1, y6.2.2.2.2.2.2.2.1, true, ())) else none) else none)) (fun q7 => (Empty.elim q7)) q5)) q3))) (fun q3 => (Empty.elim q3)) q1))))
end Go.Fn
set_option linter.unusedVariables false
namespace Go.Fn
open Go.R
def laws_big (a0 : (List (Int))) : Option (Bool × Unit) :=
  some ((rCmp .gtr (rLen a0) (1048576 : Int)), ())
def spec_l01New_b0 (k : (List (Int)) × Unit) (x : Int × Int × Unit) : Option ((Int × Int × Unit) ⊕ (Int × Unit ⊕ Empty)) :=
  (bif (rCmp .lss x.2.1 (rLen k.1)) then (bif (rCmp .lss x.2.1 (4000 : Int)) then (bif (rInR k.1 x.2.1) then some (.inl ((rArith .and .i64 (rArith .add .i64 (rArith .add .i64 (rArith .mul .i64 x.1 (131 : Int)) (rConv .i64 (rGet zI k.1 x.2.1))) (7 : Int)) (1073741823 : Int)), (rArith .add .i64 x.2.1 (1 : Int)), ())) else none) else some (.inr (.inl (x.1, ())))) else some (.inr (.inl (x.1, ()))))
def spec_l01New_l0 (k : (List (Int)) × Unit) (x : Int × Int × Unit) : Option (Int × Unit ⊕ Empty) := iter (spec_l01New_b0 k) big x
def spec_l01New (a0 : (List (Int))) : Option ((List (Int)) × Int × Int × Unit) :=
  ((spec_l01New_l0 (a0, ()) ((rArith .add .i64 (33183 : Int) (rLen a0)), (0 : Int), ())).bind fun q0 => (Sum.elim (fun y1 => some (a0, (0 : Int), y1.1, ())) (fun q2 => (Empty.elim q2)) q0))
def spec_l01Byte (a0 : (List (Int))) (a1 : Int) (a2 : Int) : Option (Int × (List (Int)) × Int × Int × Unit) :=
  (bif (rIsNeg (33 : Int)) then none else (bif (rIsNeg (45 : Int)) then none else (lets (rArith .xor .i64 (rShift .shr .i64 (rArith .add .i64 (rArith .mul .i64 a2 (6364136223846793005 : Int)) (1442695040888963407 : Int)) (33 : Int)) (rShift .shr .i64 (rArith .add .i64 (rArith .mul .i64 a2 (6364136223846793005 : Int)) (1442695040888963407 : Int)) (45 : Int))) fun v0 => (bif (rCmp .lss a1 (rLen a0)) then (bif (rInR a0 a1) then some ((rArith .and .i64 (rArith .add .i64 (rArith .and .i64 v0 (255 : Int)) (rConv .i64 (rGet zI a0 a1))) (255 : Int)), a0, (rArith .add .i64 a1 (1 : Int)), (rArith .add .i64 (rArith .mul .i64 a2 (6364136223846793005 : Int)) (1442695040888963407 : Int)), ()) else none) else some ((rArith .and .i64 v0 (255 : Int)), a0, a1, (rArith .add .i64 (rArith .mul .i64 a2 (6364136223846793005 : Int)) (1442695040888963407 : Int)), ())))))
def spec_l01Below (a0 : (List (Int))) (a1 : Int) (a2 : Int) (a3 : Int) : Option (Int × (List (Int)) × Int × Int × Unit) :=
  (bif (rCmp .leq a3 (0 : Int)) then some ((0 : Int), a0, a1, a2, ()) else (bif (rCmp .leq a3 (256 : Int)) then ((spec_l01Byte a0 a1 a2).bind fun y0 => (bif (rIsZero a3) then none else some ((rArith .rem .i64 y0.1 a3), y0.2.1, y0.2.2.1, y0.2.2.2.1, ()))) else ((spec_l01Byte a0 a1 a2).bind fun y0 => ((spec_l01Byte y0.2.1 y0.2.2.1 y0.2.2.2.1).bind fun y1 => ((spec_l01Byte y1.2.1 y1.2.2.1 y1.2.2.2.1).bind fun y2 => ((spec_l01Byte y2.2.1 y2.2.2.1 y2.2.2.2.1).bind fun y3 => (lets (rArith .add .i64 (rArith .add .i64 (rArith .add .i64 (rArith .mul .i64 y0.1 (16777216 : Int)) (rArith .mul .i64 y1.1 (65536 : Int))) (rArith .mul .i64 y2.1 (256 : Int))) y3.1) fun v4 => (bif (rIsZero a3) then none else some ((rArith .rem .i64 v4 a3), y3.2.1, y3.2.2.1, y3.2.2.2.1, ())))))))))
def spec_l01PickInt (a0 : (List (Int))) (a1 : Int) (a2 : Int) (a3 : (List (Int))) : Option (Int × (List (Int)) × Int × Int × Unit) :=
  ((spec_l01Below a0 a1 a2 (rLen a3)).bind fun y0 => (bif (rInR a3 y0.1) then some ((rGet zI a3 y0.1), y0.2.1, y0.2.2.1, y0.2.2.2.1, ()) else none))
def spec_l01Once (a0 : (List (Int))) (a1 : Int) (a2 : Int) (a3 : Int) : Option (Bool × (List (Int)) × Int × Int × Unit) :=
  ((spec_l01Below a0 a1 a2 a3).bind fun y0 => some ((rCmp .eql y0.1 (0 : Int)), y0.2.1, y0.2.2.1, y0.2.2.2.1, ()))
end Go.Fn
set_option linter.unusedVariables false
namespace Go.Fn
open Go.R
def spec_l07Round_b0 (k : Int × Bool × Unit) (x : (List (Int)) × Int × Int × Int × Int × (List (List (Int))) × (List (Int × Int × Int × Int × Int)) × Int × Int × (List (List (Int))) × (List (Int × Int × Int × Int × Int)) × (List (Int)) × Int × Unit) : Option (((List (Int)) × Int × Int × Int × Int × (List (List (Int))) × (List (Int × Int × Int × Int × Int)) × Int × Int × (List (List (Int))) × (List (Int × Int × Int × Int × Int)) × (List (Int)) × Int × Unit) ⊕ ((List (Int)) × Int × Int × Int × Int × (List (List (Int))) × (List (Int × Int × Int × Int × Int)) × Int × Int × (List (List (Int))) × (List (Int × Int × Int × Int × Int)) × (List (Int)) × Unit ⊕ Empty)) :=
  (bif (rCmp .leq x.2.2.2.2.2.2.2.2.2.2.2.2.1 k.1) then ((spec_l01Below x.1 x.2.1 x.2.2.1 (9 : Int)).bind fun y0 => (bif (rSmall (List.append (α := Int) x.2.2.2.2.2.2.2.2.2.2.2.1 (List.append (α := Int) ([] : List (Int)) [y0.1]))) then some (.inl (y0.2.1, y0.2.2.1, y0.2.2.2.1, x.2.2.2.1, x.2.2.2.2.1, x.2.2.2.2.2.1, x.2.2.2.2.2.2.1, x.2.2.2.2.2.2.2.1, x.2.2.2.2.2.2.2.2.1, x.2.2.2.2.2.2.2.2.2.1, x.2.2.2.2.2.2.2.2.2.2.1, (List.append (α := Int) x.2.2.2.2.2.2.2.2.2.2.2.1 (List.append (α := Int) ([] : List (Int)) [y0.1])), (rArith .add .i64 x.2.2.2.2.2.2.2.2.2.2.2.2.1 (1 : Int)), ())) else none)) else some (.inr (.inl (x.1, x.2.1, x.2.2.1, x.2.2.2.1, x.2.2.2.2.1, x.2.2.2.2.2.1, x.2.2.2.2.2.2.1, x.2.2.2.2.2.2.2.1, x.2.2.2.2.2.2.2.2.1, x.2.2.2.2.2.2.2.2.2.1, x.2.2.2.2.2.2.2.2.2.2.1, x.2.2.2.2.2.2.2.2.2.2.2.1, ()))))
def spec_l07Round_l0 (k : Int × Bool × Unit) (x : (List (Int)) × Int × Int × Int × Int × (List (List (Int))) × (List (Int × Int × Int × Int × Int)) × Int × Int × (List (List (Int))) × (List (Int × Int × Int × Int × Int)) × (List (Int)) × Int × Unit) : Option ((List (Int)) × Int × Int × Int × Int × (List (List (Int))) × (List (Int × Int × Int × Int × Int)) × Int × Int × (List (List (Int))) × (List (Int × Int × Int × Int × Int)) × (List (Int)) × Unit ⊕ Empty) := iter (spec_l07Round_b0 k) big x
def spec_l07Round_b4 (k : Int × Bool × Int × Unit) (x : (List (Int)) × Int × Int × Int × Int × (List (List (Int))) × (List (Int × Int × Int × Int × Int)) × Int × Int × (List (List (Int))) × (List (Int × Int × Int × Int × Int)) × (List (Int)) × (List (Int)) × Int × Unit) : Option (((List (Int)) × Int × Int × Int × Int × (List (List (Int))) × (List (Int × Int × Int × Int × Int)) × Int × Int × (List (List (Int))) × (List (Int × Int × Int × Int × Int)) × (List (Int)) × (List (Int)) × Int × Unit) ⊕ ((List (Int)) × Int × Int × Int × Int × (List (List (Int))) × (List (Int × Int × Int × Int × Int)) × Int × Int × (List (List (Int))) × (List (Int × Int × Int × Int × Int)) × (List (Int)) × (List (Int)) × Unit ⊕ Empty)) :=
  (bif (rCmp .leq x.2.2.2.2.2.2.2.2.2.2.2.2.2.1 k.1) then (bif (rInR x.2.2.2.2.2.2.2.2.2.2.2.1 k.2.2.1) then (bif (rInR x.2.2.2.2.2.2.2.2.2.2.2.1 x.2.2.2.2.2.2.2.2.2.2.2.2.2.1) then (bif (rInR x.2.2.2.2.2.2.2.2.2.2.2.1 x.2.2.2.2.2.2.2.2.2.2.2.2.2.1) then (bif (rInR x.2.2.2.2.2.2.2.2.2.2.2.1 k.2.2.1) then (lets (rMxmn true (rArith .sub .i64 (rGet zI x.2.2.2.2.2.2.2.2.2.2.2.1 k.2.2.1) (rGet zI x.2.2.2.2.2.2.2.2.2.2.2.1 x.2.2.2.2.2.2.2.2.2.2.2.2.2.1)) (rArith .sub .i64 (rGet zI x.2.2.2.2.2.2.2.2.2.2.2.1 x.2.2.2.2.2.2.2.2.2.2.2.2.2.1) (rGet zI x.2.2.2.2.2.2.2.2.2.2.2.1 k.2.2.1))) fun v0 => (bif (Bool.not k.2.1) then ((spec_l01Below x.1 x.2.1 x.2.2.1 (9 : Int)).bind fun y1 => (bif (rSmall (List.append (α := Int) x.2.2.2.2.2.2.2.2.2.2.2.2.1 (List.append (α := Int) ([] : List (Int)) [y1.1]))) then some (.inl (y1.2.1, y1.2.2.1, y1.2.2.2.1, x.2.2.2.1, x.2.2.2.2.1, x.2.2.2.2.2.1, x.2.2.2.2.2.2.1, x.2.2.2.2.2.2.2.1, x.2.2.2.2.2.2.2.2.1, x.2.2.2.2.2.2.2.2.2.1, x.2.2.2.2.2.2.2.2.2.2.1, x.2.2.2.2.2.2.2.2.2.2.2.1, (List.append (α := Int) x.2.2.2.2.2.2.2.2.2.2.2.2.1 (List.append (α := Int) ([] : List (Int)) [y1.1])), (rArith .add .i64 x.2.2.2.2.2.2.2.2.2.2.2.2.2.1 (1 : Int)), ())) else none)) else (bif (rSmall (List.append (α := Int) x.2.2.2.2.2.2.2.2.2.2.2.2.1 (List.append (α := Int) ([] : List (Int)) [v0]))) then some (.inl (x.1, x.2.1, x.2.2.1, x.2.2.2.1, x.2.2.2.2.1, x.2.2.2.2.2.1, x.2.2.2.2.2.2.1, x.2.2.2.2.2.2.2.1, x.2.2.2.2.2.2.2.2.1, x.2.2.2.2.2.2.2.2.2.1, x.2.2.2.2.2.2.2.2.2.2.1, x.2.2.2.2.2.2.2.2.2.2.2.1, (List.append (α := Int) x.2.2.2.2.2.2.2.2.2.2.2.2.1 (List.append (α := Int) ([] : List (Int)) [v0])), (rArith .add .i64 x.2.2.2.2.2.2.2.2.2.2.2.2.2.1 (1 : Int)), ())) else none))) else none) else none) else none) else none) else some (.inr (.inl (x.1, x.2.1, x.2.2.1, x.2.2.2.1, x.2.2.2.2.1, x.2.2.2.2.2.1, x.2.2.2.2.2.2.1, x.2.2.2.2.2.2.2.1, x.2.2.2.2.2.2.2.2.1, x.2.2.2.2.2.2.2.2.2.1, x.2.2.2.2.2.2.2.2.2.2.1, x.2.2.2.2.2.2.2.2.2.2.2.1, x.2.2.2.2.2.2.2.2.2.2.2.2.1, ()))))
def spec_l07Round_l4 (k : Int × Bool × Int × Unit) (x : (List (Int)) × Int × Int × Int × Int × (List (List (Int))) × (List (Int × Int × Int × Int × Int)) × Int × Int × (List (List (Int))) × (List (Int × Int × Int × Int × Int)) × (List (Int)) × (List (Int)) × Int × Unit) : Option ((List (Int)) × Int × Int × Int × Int × (List (List (Int))) × (List (Int × Int × Int × Int × Int)) × Int × Int × (List (List (Int))) × (List (Int × Int × Int × Int × Int)) × (List (Int)) × (List (Int)) × Unit ⊕ Empty) := iter (spec_l07Round_b4 k) big x
def spec_l07Round_b2 (k : Int × Bool × Unit) (x : (List (Int)) × Int × Int × Int × Int × (List (List (Int))) × (List (Int × Int × Int × Int × Int)) × Int × Int × (List (List (Int))) × (List (Int × Int × Int × Int × Int)) × (List (Int)) × Int × Unit) : Option (((List (Int)) × Int × Int × Int × Int × (List (List (Int))) × (List (Int × Int × Int × Int × Int)) × Int × Int × (List (List (Int))) × (List (Int × Int × Int × Int × Int)) × (List (Int)) × Int × Unit) ⊕ ((List (Int)) × Int × Int × Int × Int × (List (List (Int))) × (List (Int × Int × Int × Int × Int)) × Int × Int × (List (List (Int))) × (List (Int × Int × Int × Int × Int)) × Unit ⊕ Empty)) :=
  (bif (rCmp .leq x.2.2.2.2.2.2.2.2.2.2.2.2.1 k.1) then ((spec_l07Round_l4 (k.1, k.2.1, x.2.2.2.2.2.2.2.2.2.2.2.2.1, ()) (x.1, x.2.1, x.2.2.1, x.2.2.2.1, x.2.2.2.2.1, x.2.2.2.2.2.1, x.2.2.2.2.2.2.1, x.2.2.2.2.2.2.2.1, x.2.2.2.2.2.2.2.2.1, x.2.2.2.2.2.2.2.2.2.1, x.2.2.2.2.2.2.2.2.2.2.1, x.2.2.2.2.2.2.2.2.2.2.2.1, ([] : List (Int)), (0 : Int), ())).bind fun q0 => (Sum.elim (fun y1 => (bif (rSmall (List.append (α := List (Int)) y1.2.2.2.2.2.2.2.2.2.1 (List.append (α := List (Int)) ([] : List (List (Int))) [y1.2.2.2.2.2.2.2.2.2.2.2.2.1]))) then some (.inl (y1.1, y1.2.1, y1.2.2.1, y1.2.2.2.1, y1.2.2.2.2.1, y1.2.2.2.2.2.1, y1.2.2.2.2.2.2.1, y1.2.2.2.2.2.2.2.1, y1.2.2.2.2.2.2.2.2.1, (List.append (α := List (Int)) y1.2.2.2.2.2.2.2.2.2.1 (List.append (α := List (Int)) ([] : List (List (Int))) [y1.2.2.2.2.2.2.2.2.2.2.2.2.1])), y1.2.2.2.2.2.2.2.2.2.2.1, y1.2.2.2.2.2.2.2.2.2.2.2.1, (rArith .add .i64 x.2.2.2.2.2.2.2.2.2.2.2.2.1 (1 : Int)), ())) else none)) (fun q2 => (Empty.elim q2)) q0)) else some (.inr (.inl (x.1, x.2.1, x.2.2.1, x.2.2.2.1, x.2.2.2.2.1, x.2.2.2.2.2.1, x.2.2.2.2.2.2.1, x.2.2.2.2.2.2.2.1, x.2.2.2.2.2.2.2.2.1, x.2.2.2.2.2.2.2.2.2.1, x.2.2.2.2.2.2.2.2.2.2.1, ()))))
def spec_l07Round_l2 (k : Int × Bool × Unit) (x : (List (Int)) × Int × Int × Int × Int × (List (List (Int))) × (List (Int × Int × Int × Int × Int)) × Int × Int × (List (List (Int))) × (List (Int × Int × Int × Int × Int)) × (List (Int)) × Int × Unit) : Option ((List (Int)) × Int × Int × Int × Int × (List (List (Int))) × (List (Int × Int × Int × Int × Int)) × Int × Int × (List (List (Int))) × (List (Int × Int × Int × Int × Int)) × Unit ⊕ Empty) := iter (spec_l07Round_b2 k) big x
def spec_l07Round_b6 (k : Int × Unit) (x : (List (Int)) × Int × Int × Int × Int × (List (List (Int))) × (List (Int × Int × Int × Int × Int)) × Int × Int × (List (List (Int))) × (List (Int × Int × Int × Int × Int)) × Int × Unit) : Option (((List (Int)) × Int × Int × Int × Int × (List (List (Int))) × (List (Int × Int × Int × Int × Int)) × Int × Int × (List (List (Int))) × (List (Int × Int × Int × Int × Int)) × Int × Unit) ⊕ ((List (Int)) × Int × Int × Int × Int × (List (List (Int))) × (List (Int × Int × Int × Int × Int)) × Int × Int × (List (List (Int))) × (List (Int × Int × Int × Int × Int)) × Unit ⊕ Empty)) :=
  (bif (rCmp .lss x.2.2.2.2.2.2.2.2.2.2.2.1 k.1) then ((spec_l01Below x.1 x.2.1 x.2.2.1 (50 : Int)).bind fun y0 => ((spec_l01Below y0.2.1 y0.2.2.1 y0.2.2.2.1 (60 : Int)).bind fun y1 => ((spec_l01Below y1.2.1 y1.2.2.1 y1.2.2.2.1 (4 : Int)).bind fun y2 => ((spec_l01Below y2.2.1 y2.2.2.1 y2.2.2.2.1 (6 : Int)).bind fun y3 => ((spec_l01Below y3.2.1 y3.2.2.1 y3.2.2.2.1 (6 : Int)).bind fun y4 => (bif (rSmall (List.append (α := Int × Int × Int × Int × Int) x.2.2.2.2.2.2.2.2.2.2.1 (List.append (α := Int × Int × Int × Int × Int) ([] : List (Int × Int × Int × Int × Int)) [(y0.1, (rArith .add .i64 (rArith .add .i64 y0.1 (10 : Int)) y1.1), y2.1, y3.1, y4.1)]))) then some (.inl (y4.2.1, y4.2.2.1, y4.2.2.2.1, x.2.2.2.1, x.2.2.2.2.1, x.2.2.2.2.2.1, x.2.2.2.2.2.2.1, x.2.2.2.2.2.2.2.1, x.2.2.2.2.2.2.2.2.1, x.2.2.2.2.2.2.2.2.2.1, (List.append (α := Int × Int × Int × Int × Int) x.2.2.2.2.2.2.2.2.2.2.1 (List.append (α := Int × Int × Int × Int × Int) ([] : List (Int × Int × Int × Int × Int)) [(y0.1, (rArith .add .i64 (rArith .add .i64 y0.1 (10 : Int)) y1.1), y2.1, y3.1, y4.1)])), (rArith .add .i64 x.2.2.2.2.2.2.2.2.2.2.2.1 (1 : Int)), ())) else none)))))) else some (.inr (.inl (x.1, x.2.1, x.2.2.1, x.2.2.2.1, x.2.2.2.2.1, x.2.2.2.2.2.1, x.2.2.2.2.2.2.1, x.2.2.2.2.2.2.2.1, x.2.2.2.2.2.2.2.2.1, x.2.2.2.2.2.2.2.2.2.1, x.2.2.2.2.2.2.2.2.2.2.1, ()))))
def spec_l07Round_l6 (k : Int × Unit) (x : (List (Int)) × Int × Int × Int × Int × (List (List (Int))) × (List (Int × Int × Int × Int × Int)) × Int × Int × (List (List (Int))) × (List (Int × Int × Int × Int × Int)) × Int × Unit) : Option ((List (Int)) × Int × Int × Int × Int × (List (List (Int))) × (List (Int × Int × Int × Int × Int)) × Int × Int × (List (List (Int))) × (List (Int × Int × Int × Int × Int)) × Unit ⊕ Empty) := iter (spec_l07Round_b6 k) big x
def spec_l07Round (a0 : (List (Int))) (a1 : Int) (a2 : Int) : Option (Int × Int × (List (List (Int))) × (List (Int × Int × Int × Int × Int)) × (List (Int)) × Int × Int × Unit) :=
  ((spec_l01Below a0 a1 a2 (5 : Int)).bind fun y0 => ((spec_l01Below y0.2.1 y0.2.2.1 y0.2.2.2.1 (40 : Int)).bind fun y1 => ((spec_l01PickInt y1.2.1 y1.2.2.1 y1.2.2.2.1 (List.append (α := Int) (List.append (α := Int) (List.append (α := Int) (List.append (α := Int) (List.append (α := Int) ([] : List (Int)) [(4 : Int)]) [(8 : Int)]) [(12 : Int)]) [(20 : Int)]) [(1000 : Int)])).bind fun y2 => ((spec_l01Once y2.2.1 y2.2.2.1 y2.2.2.2.1 (2 : Int)).bind fun y3 => ((spec_l07Round_l0 (y0.1, y3.1, ()) (y3.2.1, y3.2.2.1, y3.2.2.2.1, (0 : Int), (0 : Int), ([] : List (List (Int))), ([] : List (Int × Int × Int × Int × Int)), y1.1, y2.1, ([] : List (List (Int))), ([] : List (Int × Int × Int × Int × Int)), ([] : List (Int)), (0 : Int), ())).bind fun q4 => (Sum.elim (fun y5 => ((spec_l07Round_l2 (y0.1, y3.1, ()) (y5.1, y5.2.1, y5.2.2.1, y5.2.2.2.1, y5.2.2.2.2.1, y5.2.2.2.2.2.1, y5.2.2.2.2.2.2.1, y5.2.2.2.2.2.2.2.1, y5.2.2.2.2.2.2.2.2.1, y5.2.2.2.2.2.2.2.2.2.1, y5.2.2.2.2.2.2.2.2.2.2.1, y5.2.2.2.2.2.2.2.2.2.2.2.1, (0 : Int), ())).bind fun q6 => (Sum.elim (fun y7 => ((spec_l07Round_l6 (y0.1, ()) (y7.1, y7.2.1, y7.2.2.1, y7.2.2.2.1, y7.2.2.2.2.1, y7.2.2.2.2.2.1, y7.2.2.2.2.2.2.1, y7.2.2.2.2.2.2.2.1, y7.2.2.2.2.2.2.2.2.1, y7.2.2.2.2.2.2.2.2.2.1, y7.2.2.2.2.2.2.2.2.2.2.1, (0 : Int), ())).bind fun q8 => (Sum.elim (fun y9 => some (y9.2.2.2.2.2.2.2.1, y9.2.2.2.2.2.2.2.2.1, y9.2.2.2.2.2.2.2.2.2.1, y9.2.2.2.2.2.2.2.2.2.2.1, y9.1, y9.2.1, y9.2.2.1, ())) (fun q10 => (Empty.elim q10)) q8))) (fun q8 => (Empty.elim q8)) q6))) (fun q6 => (Empty.elim q6)) q4))))))
def spec_DrawRound (a0 : (List (Int))) : Option (Int × Int × (List (List (Int))) × (List (Int × Int × Int × Int × Int)) × Unit) :=
  ((spec_l01New a0).bind fun y0 => ((spec_l07Round y0.1 y0.2.1 y0.2.2.1).bind fun y1 => some (y1.1, y1.2.1, y1.2.2.1, y1.2.2.2.1, ())))
def spec_l07Orders_b0 (rec : (List (List (Int))) → (List (Int)) → Int → Option ((List (List (Int))) × Unit)) (k : (List (Int)) × Int × Unit) (x : (List (List (Int))) × Int × Unit) : Option (((List (List (Int))) × Int × Unit) ⊕ ((List (List (Int))) × Unit ⊕ Empty)) :=
  (bif (rCmp .lss x.2.1 k.2.1) then ((spec_l02Has k.1 x.2.1).bind fun y0 => (bif (Bool.not y0.1) then (bif (rSmall (List.append (α := Int) ([] : List (Int)) k.1)) then (bif (rSmall (List.append (α := Int) (List.append (α := Int) ([] : List (Int)) k.1) (List.append (α := Int) ([] : List (Int)) [x.2.1]))) then ((rec x.1 (List.append (α := Int) (List.append (α := Int) ([] : List (Int)) k.1) (List.append (α := Int) ([] : List (Int)) [x.2.1])) k.2.1).bind fun y1 => some (.inl (y1.1, (rArith .add .i64 x.2.1 (1 : Int)), ()))) else none) else none) else some (.inl (x.1, (rArith .add .i64 x.2.1 (1 : Int)), ())))) else some (.inr (.inl (x.1, ()))))
def spec_l07Orders_l0 (rec : (List (List (Int))) → (List (Int)) → Int → Option ((List (List (Int))) × Unit)) (k : (List (Int)) × Int × Unit) (x : (List (List (Int))) × Int × Unit) : Option ((List (List (Int))) × Unit ⊕ Empty) := iter (spec_l07Orders_b0 rec k) big x
def spec_l07Orders_r (rec : (List (List (Int))) → (List (Int)) → Int → Option ((List (List (Int))) × Unit)) (a0 : (List (List (Int)))) (a1 : (List (Int))) (a2 : Int) : Option ((List (List (Int))) × Unit) :=
  (bif (rSmall (List.append (α := List (Int)) a0 (List.append (α := List (Int)) ([] : List (List (Int))) [a1]))) then ((spec_l07Orders_l0 rec (a1, a2, ()) ((List.append (α := List (Int)) a0 (List.append (α := List (Int)) ([] : List (List (Int))) [a1])), (0 : Int), ())).bind fun q0 => (Sum.elim (fun y1 => some (y1.1, ())) (fun q2 => (Empty.elim q2)) q0)) else none)
def spec_l07Orders_f : Nat → (List (List (Int))) → (List (Int)) → Int → Option ((List (List (Int))) × Unit) | 0 => fun _ _ _ => none | n + 1 => spec_l07Orders_r (spec_l07Orders_f n)
def spec_l07Orders (a0 : (List (List (Int)))) (a1 : (List (Int))) (a2 : Int) : Option ((List (List (Int))) × Unit) := spec_l07Orders_f big a0 a1 a2
def spec_Ride (a0 : Int) (a1 : Int) (a2 : (List (List (Int)))) (a3 : (List (Int × Int × Int × Int × Int))) (a4 : (List (Int))) : Option ((List (Int)) × Int × Bool × Unit) :=
  ((spec_l07Drive a0 a1 a2 a3 a4).bind fun y0 => (bif (Bool.not y0.2.2.2.2.1) then some (([] : List (Int)), (0 : Int), false, ()) else some (y0.1, y0.2.1, true, ())))
def spec_l07Best_b0 (k : Int × Int × Int × (List (List (Int))) × (List (Int × Int × Int × Int × Int)) × Unit) (x : (List (Int)) × Int × Bool × (List (List (Int))) × Int × Unit) : Option (((List (Int)) × Int × Bool × (List (List (Int))) × Int × Unit) ⊕ ((List (Int)) × Int × Bool × Unit ⊕ Empty)) :=
  (bif (rCmp .lss x.2.2.2.2.1 (rLen x.2.2.2.1)) then (bif (rInR x.2.2.2.1 x.2.2.2.2.1) then (bif (rCmp .lss (rLen (rGet zLIl x.2.2.2.1 x.2.2.2.2.1)) k.1) then some (.inl (x.1, x.2.1, x.2.2.1, x.2.2.2.1, (rArith .add .i64 x.2.2.2.2.1 (1 : Int)), ())) else (bif (rInR x.2.2.2.1 x.2.2.2.2.1) then ((spec_Ride k.2.1 k.2.2.1 k.2.2.2.1 k.2.2.2.2.1 (rGet zLIl x.2.2.2.1 x.2.2.2.2.1)).bind fun y0 => (bif y0.2.2.1 then (bif (Bool.not x.2.2.1) then (bif (rInR x.2.2.2.1 x.2.2.2.2.1) then some (.inl ((rGet zLIl x.2.2.2.1 x.2.2.2.2.1), y0.2.1, true, x.2.2.2.1, (rArith .add .i64 x.2.2.2.2.1 (1 : Int)), ())) else none) else (bif (rInR x.2.2.2.1 x.2.2.2.2.1) then (bif (rCmp .gtr (rLen (rGet zLIl x.2.2.2.1 x.2.2.2.2.1)) (rLen x.1)) then (bif (rInR x.2.2.2.1 x.2.2.2.2.1) then some (.inl ((rGet zLIl x.2.2.2.1 x.2.2.2.2.1), y0.2.1, true, x.2.2.2.1, (rArith .add .i64 x.2.2.2.2.1 (1 : Int)), ())) else none) else (bif (rInR x.2.2.2.1 x.2.2.2.2.1) then (bif (rCmp .eql (rLen (rGet zLIl x.2.2.2.1 x.2.2.2.2.1)) (rLen x.1)) then (bif (rCmp .lss y0.2.1 x.2.1) then (bif (rInR x.2.2.2.1 x.2.2.2.2.1) then some (.inl ((rGet zLIl x.2.2.2.1 x.2.2.2.2.1), y0.2.1, true, x.2.2.2.1, (rArith .add .i64 x.2.2.2.2.1 (1 : Int)), ())) else none) else some (.inl (x.1, x.2.1, x.2.2.1, x.2.2.2.1, (rArith .add .i64 x.2.2.2.2.1 (1 : Int)), ()))) else some (.inl (x.1, x.2.1, x.2.2.1, x.2.2.2.1, (rArith .add .i64 x.2.2.2.2.1 (1 : Int)), ()))) else none)) else none)) else some (.inl (x.1, x.2.1, x.2.2.1, x.2.2.2.1, (rArith .add .i64 x.2.2.2.2.1 (1 : Int)), ())))) else none)) else none) else some (.inr (.inl (x.1, x.2.1, x.2.2.1, ()))))
def spec_l07Best_l0 (k : Int × Int × Int × (List (List (Int))) × (List (Int × Int × Int × Int × Int)) × Unit) (x : (List (Int)) × Int × Bool × (List (List (Int))) × Int × Unit) : Option ((List (Int)) × Int × Bool × Unit ⊕ Empty) := iter (spec_l07Best_b0 k) big x
def spec_l07Best (a0 : Int) (a1 : Int) (a2 : (List (List (Int)))) (a3 : (List (Int × Int × Int × Int × Int))) (a4 : Int) : Option ((List (Int)) × Int × Bool × Unit) :=
  ((spec_RoundOk a0 a1 a2 a3).bind fun y0 => (bif (Bool.not y0.1) then some (([] : List (Int)), (0 : Int), false, ()) else ((spec_l07Orders ([] : List (List (Int))) ([] : List (Int)) (rLen a3)).bind fun y1 => ((spec_l07Best_l0 (a4, a0, a1, a2, a3, ()) (([] : List (Int)), (0 : Int), false, y1.1, (0 : Int), ())).bind fun q2 => (Sum.elim (fun y3 => (bif (Bool.not y3.2.2.1) then some (([] : List (Int)), (0 : Int), false, ()) else some (y3.1, y3.2.1, true, ()))) (fun q4 => (Empty.elim q4)) q2)))))
def spec_MostRide (a0 : Int) (a1 : Int) (a2 : (List (List (Int)))) (a3 : (List (Int × Int × Int × Int × Int))) : Option ((List (Int)) × Int × Bool × Unit) :=
  ((spec_l07Best a0 a1 a2 a3 (0 : Int)).bind fun y0 => some (y0.1, y0.2.1, y0.2.2.1, ()))
def impl_Ride (a0 : Int) (a1 : Int) (a2 : (List (List (Int)))) (a3 : (List (Int × Int × Int × Int × Int))) (a4 : (List (Int))) : Option ((List (Int)) × Int × Bool × Unit) :=
  ((impl_ride a0 a1 a2 a3 a4).bind fun y0 => some (y0.1, y0.2.1, y0.2.2.2.2.1, ()))
def laws_FnTriangles_b0 (k : (List (Int)) × Bool × Int × Unit) (x : Int × Int × (List (List (Int))) × (List (Int × Int × Int × Int × Int)) × Int × Unit) : Option ((Int × Int × (List (List (Int))) × (List (Int × Int × Int × Int × Int)) × Int × Unit) ⊕ (Bool × Unit ⊕ (Unit ⊕ Empty))) :=
  (bif (rCmp .lss x.2.2.2.2.1 (rLen k.1)) then (bif k.2.1 then (bif (rSubOk k.1 (0 : Int) x.2.2.2.2.1) then (bif (rSmall (List.append (α := Int) ([] : List (Int)) (rSub k.1 (0 : Int) x.2.2.2.2.1))) then (bif (rSubOk k.1 (rArith .add .i64 x.2.2.2.2.1 (1 : Int)) (rLen k.1)) then (bif (rSmall (List.append (α := Int) (List.append (α := Int) ([] : List (Int)) (rSub k.1 (0 : Int) x.2.2.2.2.1)) (rSub k.1 (rArith .add .i64 x.2.2.2.2.1 (1 : Int)) (rLen k.1)))) then ((impl_Ride x.1 x.2.1 x.2.2.1 x.2.2.2.1 (List.append (α := Int) (List.append (α := Int) ([] : List (Int)) (rSub k.1 (0 : Int) x.2.2.2.2.1)) (rSub k.1 (rArith .add .i64 x.2.2.2.2.1 (1 : Int)) (rLen k.1)))).bind fun y0 => (bif (Bool.not y0.2.2.1) then some (.inr (.inl (false, ()))) else (bif (rCmp .gtr y0.2.1 k.2.2.1) then some (.inr (.inl (false, ()))) else some (.inl (x.1, x.2.1, x.2.2.1, x.2.2.2.1, (rArith .add .i64 x.2.2.2.2.1 (1 : Int)), ()))))) else none) else none) else none) else none) else some (.inr (.inr (.inl (()))))) else some (.inr (.inr (.inl (())))))
def laws_FnTriangles_l0 (k : (List (Int)) × Bool × Int × Unit) (x : Int × Int × (List (List (Int))) × (List (Int × Int × Int × Int × Int)) × Int × Unit) : Option (Bool × Unit ⊕ (Unit ⊕ Empty)) := iter (laws_FnTriangles_b0 k) big x
def laws_FnTriangles (a0 : (List (Int))) : Option (Bool × Unit) :=
  ((laws_big a0).bind fun y0 => (bif y0.1 then some (true, ()) else ((spec_DrawRound a0).bind fun y1 => ((spec_MostRide y1.1 y1.2.1 y1.2.2.1 y1.2.2.2.1).bind fun y2 => ((impl_TriangleOk y1.1 y1.2.1 y1.2.2.1 y1.2.2.2.1).bind fun y3 => ((impl_Ride y1.1 y1.2.1 y1.2.2.1 y1.2.2.2.1 y2.1).bind fun y4 => ((spec_TriangleOk y1.1 y1.2.1 y1.2.2.1 y1.2.2.2.1).bind fun y5 => (bif (Bool.not (rBeq y3.1 y5.1)) then some (false, ()) else (bif (Bool.not y4.2.2.1) then some (false, ()) else ((laws_FnTriangles_l0 (y2.1, y3.1, y4.2.1, ()) (y1.1, y1.2.1, y1.2.2.1, y1.2.2.2.1, (0 : Int), ())).bind fun q6 => (Sum.elim (fun y7 => some (y7.1, ())) (fun q8 => (Sum.elim (fun y9 => some (true, ())) (fun q10 => (Empty.elim q10)) q8)) q6)))))))))))
end Go.Fn
namespace Go.Fn
open Go.R
abbrev Ev := Int × Int × Int × Int × Int × Int × Int
def inB (a lo hi : Int) : Bool := bif decide (a ≥ lo) then decide (a ≤ hi) else false
theorem within_eq (a lo hi : Int) : impl_within a lo hi = some (inB a lo hi, ()) := by
  unfold impl_within inB
  simp only [rCmp]
  cases decide (a ≥ lo) <;> rfl
theorem in_eq (a lo hi : Int) : spec_l01In a lo hi = some (inB a lo hi, ()) := within_eq a lo hi
theorem timeOk_eq (a : Int) : impl_timeOk a = some (inB a 0 20000, ()) := by unfold impl_timeOk; rw [within_eq]; rfl
def evOk (e : Ev) : Bool := bif inB e.1 0 5 then bif inB e.2.1 1 999 then bif inB e.2.2.1 1 100000 then bif inB e.2.2.2.1 1 4 then bif inB e.2.2.2.2.1 1 999 then bif inB e.2.2.2.2.2.1 0 20000 then inB e.2.2.2.2.2.2 0 20000 else false else false else false else false else false else false
def ordOk (p e : Ev) : Bool := !(decide (e.1 < p.1) || (decide (e.1 = p.1) && (decide (e.2.1 ≤ p.2.1) || decide (e.2.2.1 ≤ p.2.2.1))))
def jokAt (l : List Ev) : Nat → Bool
  | 0 => evOk (l.getD 0 zIIIIIII)
  | n + 1 => evOk (l.getD (n + 1) zIIIIIII) && ordOk (l.getD n zIIIIIII) (l.getD (n + 1) zIIIIIII)
/-- A journal in order. -/
def jok (l : List Ev) : Bool := bif decide (60 < l.length) then false else allFrom (jokAt l) 0 l.length
end Go.Fn
set_option linter.unusedSimpArgs false
namespace Go.Fn
open Go.R
theorem add1 {a : Int} (h0 : 0 ≤ a) (h1 : a ≤ 4611686018427387904) : rArith .add .i64 a 1 = a + 1 := add64 (by omega) (by omega)
theorem jok_len {l : List Ev} (h : jok l = true) : l.length ≤ 60 := by
  unfold jok at h
  cases hd : decide (60 < l.length) with
  | true => rw [hd] at h; cases h
  | false => have := of_decide_eq_false hd; omega
theorem jok_at {l : List Ev} (h : jok l = true) {n : Nat} (hn : n < l.length) : jokAt l n = true := by
  have h60 := jok_len h
  unfold jok at h
  rw [decide_eq_false (by omega)] at h
  exact (allFrom_iff _ _).1 h n (Nat.zero_le _) (by omega)
theorem inB_iff {a lo hi : Int} : inB a lo hi = true ↔ lo ≤ a ∧ a ≤ hi := by
  unfold inB
  by_cases h : lo ≤ a
  · rw [decide_eq_true (show a ≥ lo from h)]; simp [h]
  · rw [decide_eq_false (show ¬ a ≥ lo from h)]; simp [h]
theorem inR_iff {α : Type} {l : List α} {i : Int} (h0 : 0 ≤ i) (h1 : i < (l.length : Int)) : rInR l i = true := by
  unfold rInR; rw [Bool.and_eq_true]; exact ⟨decide_eq_true h0, decide_eq_true h1⟩
theorem eql_eq {a b : Int} (h : rCmp .eql a b = true) : a = b := by simpa [rCmp] using h
theorem neg_of {a : Int} (h : 0 ≤ a) : rCmp .lss a 0 = false := by simp only [rCmp, decide_eq_false_iff_not]; omega
theorem small_of {α : Type} {l : List α} (h : l.length ≤ 1073741824) : rSmall l = true := by unfold rSmall limit; exact decide_eq_true (by omega)
end Go.Fn
set_option linter.unusedSimpArgs false
namespace Go.Fn
open Go.R
abbrev Spn := Int × Int
theorem gtr_not (a b : Int) : rCmp .gtr a b = Bool.not (rCmp .leq a b) := by
  simp only [rCmp, gt_iff_lt]
  by_cases h : a ≤ b
  · rw [decide_eq_true h, decide_eq_false (by omega)]; rfl
  · rw [decide_eq_false h, decide_eq_true (by omega)]; rfl
abbrev Sty := Int × Int × Int × Int
theorem rBeq_self (b : Bool) : rBeq b b = true := by unfold rBeq; simp
end Go.Fn
set_option linter.unusedSimpArgs false
namespace Go.Fn
open Go.R
abbrev Stp := Int × Int × Int × Int × Int
def legAt (r : List Int) (j : Nat) : Bool := inB (r.getD j zI) 0 200
def rowAt (g : List (List Int)) (n : Nat) : Bool := bif rCmp .neq (rLen (g.getD n zLIl)) (rLen g) then false else allFrom (legAt (g.getD n zLIl)) 0 (g.getD n zLIl).length
def stopOk (s : Stp) : Bool := inB s.1 0 20000 && (inB s.2.1 0 20000 && (!rCmp .gtr s.1 s.2.1 && (inB s.2.2.1 0 200 && (inB s.2.2.2.1 0 1000 && inB s.2.2.2.2 0 1000))))
def roundOk (a0 a1 : Int) (g : List (List Int)) (s : List Stp) : Bool :=
  inB a0 0 20000 && (inB a1 0 1000 && (!rCmp .gtr (rLen s) 6 && (!rCmp .neq (rLen g) (rArith .add .i64 (rLen s) 1) && (allFrom (rowAt g) 0 g.length && allFrom (fun n => stopOk (s.getD n zIIIII)) 0 s.length))))
theorem neq_len {α β : Type} {l : List α} {m : List β} (h : rCmp .neq (rLen l) (rLen m) = false) : l.length = m.length := by
  simp only [rCmp, rLen, bne_eq_false_iff_eq] at h
  omega
theorem contains_eq (r : List Int) (hr : r.length ≤ 1073741824) : slices_ContainsFunc___int_int___impl_RoundOk_1 r = some (Bool.not (allFrom (legAt r) 0 r.length), ()) := by
  unfold slices_ContainsFunc___int_int___impl_RoundOk_1 slices_IndexFunc___int_int___impl_RoundOk_1
  obtain ⟨y, h1, h2⟩ := loop_find (body := slices_IndexFunc___int_int___impl_RoundOk_1_b0 (r, rLen r, ())) (fun n => ((n : Int), ())) r.length (by omega) (legAt r) (Sum.inr (Sum.inl ())) (fun n => Sum.inl ((n : Int), ())) (fun n hn => by
    unfold slices_IndexFunc___int_int___impl_RoundOk_1_b0 impl_RoundOk_1 legAt
    simp only [lss_len, inR_nat, hn, decide_true, cond_true, get_nat, within_eq, Option.bind_some, succ64 (n := n) (by omega)]
    cases inB (r.getD n zI) 0 200 <;> rfl) (by
    unfold slices_IndexFunc___int_int___impl_RoundOk_1_b0
    simp only [lss_len, Nat.lt_irrefl, decide_false, cond_false])
  have h1' : slices_IndexFunc___int_int___impl_RoundOk_1_l0 (r, rLen r, ()) ((0 : Int), ()) = some y := h1
  rw [h1']
  rcases h2 with ⟨e1, rfl⟩ | ⟨e1, n, hn, rfl, _⟩
  · rw [e1]; rfl
  · rw [e1]
    show some (rCmp .geq ((n : Nat) : Int) 0, ()) = some (Bool.not false, ())
    have : rCmp .geq ((n : Nat) : Int) 0 = true := by simp [rCmp]
    rw [this]
    rfl
theorem implRound_eq (a0 a1 : Int) (g : List (List Int)) (s : List Stp) (hg : ∀ r ∈ g, r.length ≤ 1073741824) : impl_RoundOk a0 a1 g s = some (roundOk a0 a1 g s, ()) := by
  unfold impl_RoundOk roundOk
  simp only [timeOk_eq, within_eq, Option.bind_some]
  cases inB a0 0 20000 with
  | false => rfl
  | true =>
    cases inB a1 0 1000 with
    | false => rfl
    | true =>
      cases h6 : rCmp .gtr (rLen s) 6 with
      | true => rfl
      | false =>
        have hs6 : s.length ≤ 6 := by simp [rCmp, rLen] at h6; omega
        cases hn : rCmp .neq (rLen g) (rArith .add .i64 (rLen s) 1) with
        | true => rfl
        | false =>
          have hg7 : g.length = s.length + 1 := by
            rw [add64 (by unfold rLen; omega) (by unfold rLen; omega)] at hn
            simp only [rCmp, rLen, bne_eq_false_iff_eq] at hn
            omega
          have hloop1 : impl_RoundOk_l0 (a0, a1, g, s, g, rLen g, ()) ((0 : Int), ()) = some (bif allFrom (rowAt g) 0 g.length then (Sum.inr (Sum.inl ()) : Bool × Unit ⊕ (Unit ⊕ Empty)) else Sum.inl (false, ())) := by
            refine loop_all (fun n => ((n : Int), ())) g.length (by omega) (rowAt g) _ _ (fun n hn => ?_) ?_
            · have hrow : (g.getD n zLIl).length ≤ 1073741824 := by
                rw [List.getD_eq_getElem?_getD, List.getElem?_eq_getElem hn]
                exact hg _ (List.getElem_mem hn)
              unfold impl_RoundOk_b0 rowAt
              simp only [lss_len, inR_nat, hn, decide_true, cond_true, get_nat, contains_eq _ hrow, Option.bind_some, succ64 (n := n) (by omega)]
              cases rCmp .neq (rLen (g.getD n zLIl)) (rLen g) with
              | true => rfl
              | false => cases allFrom (legAt (g.getD n zLIl)) 0 (g.getD n zLIl).length <;> rfl
            · unfold impl_RoundOk_b0
              simp only [lss_len, Nat.lt_irrefl, decide_false, cond_false]
          have hloop2 : impl_RoundOk_l2 (s, rLen s, ()) ((0 : Int), ()) = some (bif allFrom (fun n => stopOk (s.getD n zIIIII)) 0 s.length then (Sum.inr (Sum.inl ()) : Bool × Unit ⊕ (Unit ⊕ Empty)) else Sum.inl (false, ())) := by
            refine loop_all (fun n => ((n : Int), ())) s.length (by omega) (fun n => stopOk (s.getD n zIIIII)) _ _ (fun n hn => ?_) ?_
            · unfold impl_RoundOk_b2 stopOk
              simp only [lss_len, inR_nat, hn, decide_true, cond_true, get_nat, timeOk_eq, within_eq, Option.bind_some, succ64 (n := n) (by omega)]
              generalize s.getD n zIIIII = e
              cases inB e.1 0 20000 with
              | false => rfl
              | true =>
                cases inB e.2.1 0 20000 with
                | false => rfl
                | true =>
                  cases rCmp .gtr e.1 e.2.1 with
                  | true => rfl
                  | false =>
                    cases inB e.2.2.1 0 200 with
                    | false => rfl
                    | true =>
                      cases inB e.2.2.2.1 0 1000 with
                      | false => rfl
                      | true => cases inB e.2.2.2.2 0 1000 <;> rfl
            · unfold impl_RoundOk_b2
              simp only [lss_len, Nat.lt_irrefl, decide_false, cond_false]
          simp only [Bool.not_true, cond_false]
          rw [hloop1, hloop2]
          cases allFrom (rowAt g) 0 g.length with
          | false => rfl
          | true => cases allFrom (fun n => stopOk (s.getD n zIIIII)) 0 s.length <;> rfl
theorem specRound_eq (a0 a1 : Int) (g : List (List Int)) (s : List Stp) : spec_RoundOk a0 a1 g s = some (roundOk a0 a1 g s, ()) := by
  unfold spec_RoundOk roundOk
  simp only [in_eq, Option.bind_some]
  cases inB a0 0 20000 with
  | false => rfl
  | true =>
    cases inB a1 0 1000 with
    | false => rfl
    | true =>
      cases h6 : rCmp .gtr (rLen s) 6 with
      | true => rfl
      | false =>
        have hs6 : s.length ≤ 6 := by simp [rCmp, rLen] at h6; omega
        cases hn : rCmp .neq (rLen g) (rArith .add .i64 (rLen s) 1) with
        | true => rfl
        | false =>
          have hg7 : g.length = s.length + 1 := by
            rw [add64 (by unfold rLen; omega) (by unfold rLen; omega)] at hn
            simp only [rCmp, rLen, bne_eq_false_iff_eq] at hn
            omega
          have hloop1 : spec_RoundOk_l0 (a0, a1, g, s, ()) ((0 : Int), ()) = some (bif allFrom (rowAt g) 0 g.length then (Sum.inr (Sum.inl ()) : Bool × Unit ⊕ (Unit ⊕ Empty)) else Sum.inl (false, ())) := by
            refine loop_all (fun n => ((n : Int), ())) g.length (by omega) (rowAt g) _ _ (fun n hn => ?_) ?_
            · unfold spec_RoundOk_b0 rowAt
              simp only [lss_len, inR_nat, hn, decide_true, cond_true, get_nat, succ64 (n := n) (by omega)]
              cases hne : rCmp .neq (rLen (g.getD n zLIl)) (rLen g) with
              | true => rfl
              | false =>
                have hlen := neq_len hne
                have hin : spec_RoundOk_l2 (a0, a1, g, s, (n : Int), ()) ((0 : Int), ()) = some (bif allFrom (legAt (g.getD n zLIl)) 0 g.length then (Sum.inr (Sum.inl ()) : Bool × Unit ⊕ (Unit ⊕ Empty)) else Sum.inl (false, ())) := by
                  refine loop_all (fun n => ((n : Int), ())) g.length (by omega) (legAt (g.getD n zLIl)) _ _ (fun m hm => ?_) ?_
                  · have hm' : m < (g.getD n zLIl).length := by rw [hlen]; exact hm
                    unfold spec_RoundOk_b2 legAt
                    simp only [lss_len, inR_nat, hn, hm, get_nat, hm', decide_true, cond_true, in_eq, Option.bind_some, succ64 (n := m) (by omega)]
                    cases inB ((g.getD n zLIl).getD m zI) 0 200 <;> rfl
                  · unfold spec_RoundOk_b2
                    simp only [lss_len, Nat.lt_irrefl, decide_false, cond_false]
                simp only [cond_false]
                rw [hin, hlen]
                cases allFrom (legAt (g.getD n zLIl)) 0 g.length <;> rfl
            · unfold spec_RoundOk_b0
              simp only [lss_len, Nat.lt_irrefl, decide_false, cond_false]
          have hloop2 : spec_RoundOk_l4 (a0, a1, g, s, ()) ((0 : Int), ()) = some (bif allFrom (fun n => stopOk (s.getD n zIIIII)) 0 s.length then (Sum.inr (Sum.inl ()) : Bool × Unit ⊕ (Unit ⊕ Empty)) else Sum.inl (false, ())) := by
            refine loop_all (fun n => ((n : Int), ())) s.length (by omega) (fun n => stopOk (s.getD n zIIIII)) _ _ (fun n hn => ?_) ?_
            · unfold spec_RoundOk_b4 stopOk
              simp only [lss_len, inR_nat, hn, decide_true, cond_true, get_nat, in_eq, Option.bind_some, succ64 (n := n) (by omega)]
              generalize s.getD n zIIIII = e
              have hse : inB e.2.1 0 20000 = true → inB e.1 0 e.2.1 = (inB e.1 0 20000 && !rCmp .gtr e.1 e.2.1) := by
                intro hb
                have hb := inB_iff.1 hb
                rw [Bool.eq_iff_iff, Bool.and_eq_true, inB_iff, inB_iff]
                simp only [rCmp, Bool.not_eq_true', decide_eq_false_iff_not]
                omega
              cases hb : inB e.2.1 0 20000 with
              | false => cases inB e.1 0 20000 <;> rfl
              | true =>
                rw [hse hb]
                cases inB e.1 0 20000 with
                | false => rfl
                | true =>
                  cases rCmp .gtr e.1 e.2.1 with
                  | true => rfl
                  | false =>
                    cases inB e.2.2.1 0 200 with
                    | false => rfl
                    | true =>
                      cases inB e.2.2.2.1 0 1000 with
                      | false => rfl
                      | true => cases inB e.2.2.2.2 0 1000 <;> rfl
            · unfold spec_RoundOk_b4
              simp only [lss_len, Nat.lt_irrefl, decide_false, cond_false]
          simp only [Bool.not_true, cond_false]
          rw [hloop1, hloop2]
          cases allFrom (rowAt g) 0 g.length with
          | false => rfl
          | true => cases allFrom (fun n => stopOk (s.getD n zIIIII)) 0 s.length <;> rfl
end Go.Fn
set_option linter.unusedSimpArgs false
namespace Go.Fn
open Go.R
theorem roundOk_rows {a0 a1 : Int} {g : List (List Int)} {s : List Stp} (h : roundOk a0 a1 g s = true) : s.length ≤ 6 ∧ g.length = s.length + 1 ∧ (∀ n, n < g.length → (g.getD n zLIl).length = g.length ∧ ∀ m, m < g.length → 0 ≤ (g.getD n zLIl).getD m zI ∧ (g.getD n zLIl).getD m zI ≤ 200) ∧
    (∀ n, n < s.length → stopOk (s.getD n zIIIII) = true) ∧ (0 ≤ a0 ∧ a0 ≤ 20000) ∧ (0 ≤ a1 ∧ a1 ≤ 1000) := by
  unfold roundOk at h
  simp only [Bool.and_eq_true] at h
  obtain ⟨h1, h2, h3, h4, h5, h6⟩ := h
  have hs6 : s.length ≤ 6 := by simp [rCmp, rLen] at h3; omega
  have hg : g.length = s.length + 1 := by
    rw [add64 (by unfold rLen; omega) (by unfold rLen; omega)] at h4
    simp only [rCmp, rLen, Bool.not_eq_true', bne_eq_false_iff_eq] at h4
    omega
  refine ⟨hs6, hg, fun n hn => ?_, fun n hn => (allFrom_iff _ _).1 h6 n (Nat.zero_le _) (by omega), inB_iff.1 h1, inB_iff.1 h2⟩
  have := (allFrom_iff _ _).1 h5 n (Nat.zero_le _) (by omega)
  unfold rowAt at this
  cases hne : rCmp .neq (rLen (g.getD n zLIl)) (rLen g) with
  | true => rw [hne] at this; cases this
  | false =>
    rw [hne] at this
    have hl := neq_len hne
    refine ⟨hl, fun m hm => ?_⟩
    have := (allFrom_iff _ _).1 this m (Nat.zero_le _) (by omega)
    exact inB_iff.1 this
def leg (g : List (List Int)) (i j : Nat) : Int := (g.getD i zLIl).getD j zI
def triAt (g : List (List Int)) (i j k : Nat) : Bool := !rCmp .gtr (leg g i j) (rArith .add .i64 (leg g i k) (leg g k j))
def tri (g : List (List Int)) : Bool := allFrom (fun i => allFrom (fun j => allFrom (triAt g i j) 0 g.length) 0 g.length) 0 g.length
theorem specTri_eq (a0 a1 : Int) (g : List (List Int)) (s : List Stp) : spec_TriangleOk a0 a1 g s = some (roundOk a0 a1 g s && tri g, ()) := by
  unfold spec_TriangleOk
  rw [specRound_eq]
  simp only [Option.bind_some]
  cases hr : roundOk a0 a1 g s with
  | false => rfl
  | true =>
    obtain ⟨h6, hg, hrow, _, _, _⟩ := roundOk_rows hr
    have hl4 : ∀ i j, i < g.length → j < g.length → spec_TriangleOk_l4 (a0, a1, g, s, (i : Int), (j : Int), ()) ((0 : Int), ()) = some (bif allFrom (triAt g i j) 0 g.length then (Sum.inr (Sum.inl ()) : Bool × Unit ⊕ (Unit ⊕ Empty)) else Sum.inl (false, ())) := by
      intro i j hi hj
      refine loop_all (fun n => ((n : Int), ())) g.length (by omega) (triAt g i j) _ _ (fun n hn => ?_) ?_
      · have e1 := (hrow i hi).1
        have e2 := (hrow n hn).1
        unfold spec_TriangleOk_b4 triAt leg
        simp only [lss_len, inR_nat, get_nat, hn, hi, hj, e1, e2, decide_true, cond_true, lets_def, succ64 (n := n) (by omega)]
        cases rCmp .gtr _ _ <;> rfl
      · unfold spec_TriangleOk_b4
        simp only [lss_len, Nat.lt_irrefl, decide_false, cond_false]
    have hl2 : ∀ i, i < g.length → spec_TriangleOk_l2 (a0, a1, g, s, (i : Int), ()) ((0 : Int), ()) = some (bif allFrom (fun j => allFrom (triAt g i j) 0 g.length) 0 g.length then (Sum.inr (Sum.inl ()) : Bool × Unit ⊕ (Unit ⊕ Empty)) else Sum.inl (false, ())) := by
      intro i hi
      refine loop_all (fun n => ((n : Int), ())) g.length (by omega) (fun j => allFrom (triAt g i j) 0 g.length) _ _ (fun n hn => ?_) ?_
      · unfold spec_TriangleOk_b2
        simp only [lss_len, hn, decide_true, cond_true, hl4 i n hi hn, Option.bind_some, succ64 (n := n) (by omega)]
        cases allFrom (triAt g i n) 0 g.length <;> rfl
      · unfold spec_TriangleOk_b2
        simp only [lss_len, Nat.lt_irrefl, decide_false, cond_false]
    have hl0 : spec_TriangleOk_l0 (a0, a1, g, s, ()) ((0 : Int), ()) = some (bif tri g then (Sum.inr (Sum.inl ()) : Bool × Unit ⊕ (Unit ⊕ Empty)) else Sum.inl (false, ())) := by
      refine loop_all (fun n => ((n : Int), ())) g.length (by omega) _ _ _ (fun n hn => ?_) ?_
      · unfold spec_TriangleOk_b0
        simp only [lss_len, hn, decide_true, cond_true, hl2 n hn, Option.bind_some, succ64 (n := n) (by omega)]
        cases allFrom (fun j => allFrom (triAt g n j) 0 g.length) 0 g.length <;> rfl
      · unfold spec_TriangleOk_b0
        simp only [lss_len, Nat.lt_irrefl, decide_false, cond_false]
    simp only [Bool.not_true, cond_false, Bool.true_and]
    rw [hl0]
    cases tri g <;> rfl
theorem implTri_eq (a0 a1 : Int) (g : List (List Int)) (s : List Stp) (hgr : ∀ r ∈ g, r.length ≤ 1073741824) : impl_TriangleOk a0 a1 g s = some (roundOk a0 a1 g s && tri g, ()) := by
  unfold impl_TriangleOk
  rw [implRound_eq a0 a1 g s hgr]
  simp only [Option.bind_some]
  cases hr : roundOk a0 a1 g s with
  | false => rfl
  | true =>
    obtain ⟨h6, hg, hrow, _, _, _⟩ := roundOk_rows hr
    have hl4 : ∀ i j, i < g.length → j < g.length → impl_TriangleOk_l4 (a0, a1, g, s, (i : Int), (j : Int), rLen g, (i : Int), rLen g, (j : Int), rLen g, ()) ((0 : Int), ()) = some (bif allFrom (triAt g i j) 0 g.length then (Sum.inr (Sum.inl ()) : Bool × Unit ⊕ (Unit ⊕ Empty)) else Sum.inl (false, ())) := by
      intro i j hi hj
      refine loop_all (fun n => ((n : Int), ())) g.length (by omega) (triAt g i j) _ _ (fun n hn => ?_) ?_
      · have e1 := (hrow i hi).1
        have e2 := (hrow n hn).1
        unfold impl_TriangleOk_b4 triAt leg
        simp only [lss_len, inR_nat, get_nat, hn, hi, hj, e1, e2, decide_true, cond_true, lets_def, succ64 (n := n) (by omega)]
        cases rCmp .gtr _ _ <;> rfl
      · unfold impl_TriangleOk_b4
        simp only [lss_len, Nat.lt_irrefl, decide_false, cond_false]
    have hl2 : ∀ i, i < g.length → impl_TriangleOk_l2 (a0, a1, g, s, (i : Int), rLen g, (i : Int), rLen g, ()) ((0 : Int), ()) = some (bif allFrom (fun j => allFrom (triAt g i j) 0 g.length) 0 g.length then (Sum.inr (Sum.inl ()) : Bool × Unit ⊕ (Unit ⊕ Empty)) else Sum.inl (false, ())) := by
      intro i hi
      refine loop_all (fun n => ((n : Int), ())) g.length (by omega) (fun j => allFrom (triAt g i j) 0 g.length) _ _ (fun n hn => ?_) ?_
      · unfold impl_TriangleOk_b2
        simp only [lss_len, hn, decide_true, cond_true, hl4 i n hi hn, Option.bind_some, succ64 (n := n) (by omega)]
        cases allFrom (triAt g i n) 0 g.length <;> rfl
      · unfold impl_TriangleOk_b2
        simp only [lss_len, Nat.lt_irrefl, decide_false, cond_false]
    have hl0 : impl_TriangleOk_l0 (a0, a1, g, s, rLen g, ()) ((0 : Int), ()) = some (bif tri g then (Sum.inr (Sum.inl ()) : Bool × Unit ⊕ (Unit ⊕ Empty)) else Sum.inl (false, ())) := by
      refine loop_all (fun n => ((n : Int), ())) g.length (by omega) _ _ _ (fun n hn => ?_) ?_
      · unfold impl_TriangleOk_b0
        simp only [lss_len, hn, decide_true, cond_true, hl2 n hn, Option.bind_some, succ64 (n := n) (by omega)]
        cases allFrom (fun j => allFrom (triAt g n j) 0 g.length) 0 g.length <;> rfl
      · unfold impl_TriangleOk_b0
        simp only [lss_len, Nat.lt_irrefl, decide_false, cond_false]
    simp only [Bool.not_true, cond_false, Bool.true_and]
    rw [hl0]
    cases tri g <;> rfl
def nat (l : List Int) (x : Int) (n : Nat) : Bool := !rCmp .eql (l.getD n zI) x
def hasI (l : List Int) (x : Int) : Bool := !allFrom (nat l x) 0 l.length
theorem eql_comm (a b : Int) : rCmp .eql a b = rCmp .eql b a := by
  simp only [rCmp]
  rw [Bool.eq_iff_iff, beq_iff_eq, beq_iff_eq]
  exact eq_comm
theorem specHas_eq (l : List Int) (x : Int) (hl : l.length ≤ 1073741824) : spec_l02Has l x = some (hasI l x, ()) := by
  unfold spec_l02Has hasI
  have hloop : spec_l02Has_l0 (l, x, ()) ((0 : Int), ()) = some (bif allFrom (nat l x) 0 l.length then (Sum.inr (Sum.inl ()) : Bool × Unit ⊕ (Unit ⊕ Empty)) else Sum.inl (true, ())) := by
    refine loop_all (fun n => ((n : Int), ())) l.length (by omega) (nat l x) _ _ (fun n hn => ?_) ?_
    · unfold spec_l02Has_b0 nat
      simp only [lss_len, inR_nat, get_nat, hn, decide_true, cond_true, succ64 (n := n) (by omega)]
      cases rCmp .eql (l.getD n zI) x <;> rfl
    · unfold spec_l02Has_b0
      simp only [lss_len, Nat.lt_irrefl, decide_false, cond_false]
  rw [hloop]
  cases allFrom (nat l x) 0 l.length <;> rfl
theorem containsI_eq (l : List Int) (x : Int) (hl : l.length ≤ 1073741824) : slices_Contains___int_int_ l x = some (hasI l x, ()) := by
  unfold slices_Contains___int_int_ slices_Index___int_int_ hasI
  obtain ⟨y, h1, h2⟩ := loop_find (body := slices_Index___int_int__b0 (l, x, rLen l, ())) (fun n => ((n : Int), ())) l.length (by omega) (nat l x) (Sum.inr (Sum.inl ())) (fun n => Sum.inl ((n : Int), ())) (fun n hn => by
    unfold slices_Index___int_int__b0 nat
    simp only [lss_len, inR_nat, hn, decide_true, cond_true, get_nat, succ64 (n := n) (by omega), eql_comm x]
    cases rCmp .eql (l.getD n zI) x <;> rfl) (by
    unfold slices_Index___int_int__b0
    simp only [lss_len, Nat.lt_irrefl, decide_false, cond_false])
  have h1' : slices_Index___int_int__l0 (l, x, rLen l, ()) ((0 : Int), ()) = some y := h1
  rw [h1']
  rcases h2 with ⟨e1, rfl⟩ | ⟨e1, n, hn, rfl, _⟩
  · rw [e1]; rfl
  · rw [e1]
    show some (rCmp .geq ((n : Nat) : Int) 0, ()) = some (Bool.not false, ())
    have : rCmp .geq ((n : Nat) : Int) 0 = true := by simp [rCmp]
    rw [this]
    rfl
def ordAt (s : List Stp) (o : List Int) (n : Nat) : Bool := inB (o.getD n zI) 0 (rArith .sub .i64 (rLen s) 1) && !hasI (o.take n) (o.getD n zI)
def orderOk (a0 a1 : Int) (g : List (List Int)) (s : List Stp) (o : List Int) : Bool := roundOk a0 a1 g s && allFrom (ordAt s o) 0 o.length
theorem sub_take {α : Type} (l : List α) (n : Nat) : rSub l 0 (n : Int) = l.take n := by simp [rSub]
theorem subOk_take {α : Type} {l : List α} {n : Nat} (h : n ≤ l.length) : rSubOk l 0 (n : Int) = true := by
  unfold rSubOk
  simp only [Bool.and_eq_true, decide_eq_true_eq]
  omega
theorem take_len {α : Type} {l : List α} {n m : Nat} (h : l.length ≤ m) : (l.take n).length ≤ m := by rw [List.length_take]; omega
theorem specOrder_eq (a0 a1 : Int) (g : List (List Int)) (s : List Stp) (o : List Int) (ho : o.length ≤ 1073741824) : spec_OrderOk a0 a1 g s o = some (orderOk a0 a1 g s o, ()) := by
  unfold spec_OrderOk orderOk
  rw [specRound_eq]
  simp only [Option.bind_some]
  cases hr : roundOk a0 a1 g s with
  | false => rfl
  | true =>
    have hl0 : spec_OrderOk_l0 (o, a0, a1, g, s, ()) ((0 : Int), ()) = some (bif allFrom (ordAt s o) 0 o.length then (Sum.inr (Sum.inl ()) : Bool × Unit ⊕ (Unit ⊕ Empty)) else Sum.inl (false, ())) := by
      refine loop_all (fun n => ((n : Int), ())) o.length (by omega) (ordAt s o) _ _ (fun n hn => ?_) ?_
      · unfold spec_OrderOk_b0 ordAt
        simp only [lss_len, inR_nat, get_nat, hn, decide_true, cond_true, in_eq, Option.bind_some, sub_take, subOk_take (Nat.le_of_lt hn), specHas_eq _ _ (take_len ho), succ64 (n := n) (by omega)]
        cases inB (o.getD n zI) 0 (rArith .sub .i64 (rLen s) 1) with
        | false => rfl
        | true => cases hasI (o.take n) (o.getD n zI) <;> rfl
      · unfold spec_OrderOk_b0
        simp only [lss_len, Nat.lt_irrefl, decide_false, cond_false]
    simp only [Bool.not_true, cond_false, Bool.true_and]
    rw [hl0]
    cases allFrom (ordAt s o) 0 o.length <;> rfl
theorem implOrder_eq (a0 a1 : Int) (g : List (List Int)) (s : List Stp) (o : List Int) (hgr : ∀ r ∈ g, r.length ≤ 1073741824) (ho : o.length ≤ 1073741824) : impl_OrderOk a0 a1 g s o = some (orderOk a0 a1 g s o, ()) := by
  unfold impl_OrderOk orderOk
  rw [implRound_eq a0 a1 g s hgr]
  simp only [Option.bind_some]
  cases hr : roundOk a0 a1 g s with
  | false => rfl
  | true =>
    have hl0 : impl_OrderOk_l0 (o, a0, a1, g, s, o, rLen o, ()) ((0 : Int), ()) = some (bif allFrom (ordAt s o) 0 o.length then (Sum.inr (Sum.inl ()) : Bool × Unit ⊕ (Unit ⊕ Empty)) else Sum.inl (false, ())) := by
      refine loop_all (fun n => ((n : Int), ())) o.length (by omega) (ordAt s o) _ _ (fun n hn => ?_) ?_
      · unfold impl_OrderOk_b0 ordAt
        simp only [lss_len, inR_nat, get_nat, hn, decide_true, cond_true, within_eq, Option.bind_some, sub_take, subOk_take (Nat.le_of_lt hn), containsI_eq _ _ (take_len ho), succ64 (n := n) (by omega)]
        cases inB (o.getD n zI) 0 (rArith .sub .i64 (rLen s) 1) with
        | false => rfl
        | true => cases hasI (o.take n) (o.getD n zI) <;> rfl
      · unfold impl_OrderOk_b0
        simp only [lss_len, Nat.lt_irrefl, decide_false, cond_false]
    simp only [Bool.not_true, cond_false, Bool.true_and]
    rw [hl0]
    cases allFrom (ordAt s o) 0 o.length <;> rfl
end Go.Fn
set_option linter.unusedSimpArgs false
namespace Go.Fn
open Go.R
theorem subadd (a b c : Int) : rArith .sub .i64 (rArith .add .i64 a b) c = rArith .add .i64 a (rArith .sub .i64 b c) := by
  show IntKind.i64.wrap (IntKind.i64.wrap (a + b) - c) = IntKind.i64.wrap (a + IntKind.i64.wrap (b - c))
  simp only [IntKind.wrap_i64]
  omega
theorem addsub (a b c : Int) : rArith .add .i64 (rArith .sub .i64 a b) c = rArith .add .i64 a (rArith .sub .i64 c b) := by
  show IntKind.i64.wrap (IntKind.i64.wrap (a - b) + c) = IntKind.i64.wrap (a + IntKind.i64.wrap (c - b))
  simp only [IntKind.wrap_i64]
  omega
/-- Where a ride stands: load, begins, end, peak, wait, place. -/
abbrev RSt := Int × List Int × Int × Int × Int × Int
def arr (g : List (List Int)) (st : RSt) (i : Int) : Int := rArith .add .i64 st.2.2.1 (rGet zI (rGet zLIl g st.2.2.2.2.2) (rArith .add .i64 i 1))
def load1 (s : List Stp) (l i : Int) : Int := rArith .add .i64 l (rGet zIIIII s i).2.2.2.1
def next (g : List (List Int)) (s : List Stp) (st : RSt) (i : Int) : RSt :=
  (rArith .add .i64 st.1 (rArith .sub .i64 (rGet zIIIII s i).2.2.2.2 (rGet zIIIII s i).2.2.2.1),
   st.2.1 ++ [rMxmn true (arr g st i) (rGet zIIIII s i).1],
   rArith .add .i64 (rMxmn true (arr g st i) (rGet zIIIII s i).1) (rGet zIIIII s i).2.2.1,
   rMxmn true st.2.2.2.1 (rArith .add .i64 st.1 (rArith .sub .i64 (rGet zIIIII s i).2.2.2.2 (rGet zIIIII s i).2.2.2.1)),
   rArith .add .i64 st.2.2.2.2.1 (rArith .sub .i64 (rMxmn true (arr g st i) (rGet zIIIII s i).1) (arr g st i)),
   rArith .add .i64 i 1)
def late (g : List (List Int)) (s : List Stp) (st : RSt) (i : Int) : Bool := rCmp .gtr (arr g st i) (rGet zIIIII s i).2.1
def stepR {Y : Type} (g : List (List Int)) (s : List Stp) (f : RSt → Y) (st : RSt) (i : Int) : RSt ⊕ Y := bif late g s st i then .inr (f st) else .inl (next g s st i)
def rideGo (g : List (List Int)) (s : List Stp) : List Int → RSt → RSt ⊕ RSt
  | [], st => .inl st
  | i :: o, st => bif late g s st i then .inr st else rideGo g s o (next g s st i)
theorem runL_go {Y : Type} (g : List (List Int)) (s : List Stp) (f fin : RSt → Y) : ∀ (o : List Int) (st : RSt), runL (stepR g s f) fin o st = match rideGo g s o st with | .inl st' => fin st' | .inr st' => f st'
  | [], st => rfl
  | i :: o, st => by
    simp only [runL, rideGo, stepR]
    cases late g s st i with
    | true => rfl
    | false => exact runL_go g s f fin o _
def load0 (s : List Stp) (o : List Int) : Int := o.foldl (load1 s) 0
def start (a0 : Int) (s : List Stp) (o : List Int) : RSt := (load0 s o, [], a0, load0 s o, 0, 0)
def home (g : List (List Int)) (o : List Int) (st : RSt) : Int := rArith .add .i64 st.2.2.1 (rArith .mul .i64 (rGet zI (rGet zLIl g st.2.2.2.2.2) 0) (rMxmn false 1 (rLen o)))
def ride (a0 a1 : Int) (g : List (List Int)) (s : List Stp) (o : List Int) : Option (List Int × Int × Int × Int) :=
  bif orderOk a0 a1 g s o then
    match rideGo g s o (start a0 s o) with
    | .inr _ => none
    | .inl st => bif rCmp .gtr st.2.2.2.1 a1 then none else some (st.2.1, home g o st, st.2.2.2.1, st.2.2.2.2.1)
  else none
theorem orderOk_round {a0 a1 : Int} {g : List (List Int)} {s : List Stp} {o : List Int} (h : orderOk a0 a1 g s o = true) : roundOk a0 a1 g s = true := by
  unfold orderOk at h; rw [Bool.and_eq_true] at h; exact h.1
theorem orderOk_at {a0 a1 : Int} {g : List (List Int)} {s : List Stp} {o : List Int} (h : orderOk a0 a1 g s o = true) {n : Nat} (hn : n < o.length) : 0 ≤ o.getD n zI ∧ o.getD n zI < (s.length : Int) := by
  have hr := roundOk_rows (orderOk_round h)
  unfold orderOk at h
  rw [Bool.and_eq_true] at h
  have := (allFrom_iff _ _).1 h.2 n (Nat.zero_le _) (by omega)
  unfold ordAt at this
  rw [Bool.and_eq_true, inB_iff] at this
  have e : rArith .sub .i64 (rLen s) 1 = (s.length : Int) - 1 := sub64 (by unfold rLen; omega) (by unfold rLen; omega)
  rw [e] at this
  omega
structure InvR (g : List (List Int)) (n : Nat) (st : RSt) : Prop where
  lo : 0 ≤ st.2.2.2.2.2
  hi : st.2.2.2.2.2 < (g.length : Int)
  len : st.2.1.length = n
section
variable {a0 a1 : Int} {g : List (List Int)} {s : List Stp} {o : List Int}
theorem at_facts (h : orderOk a0 a1 g s o = true) {n : Nat} (hn : n < o.length) {st : RSt} (hi : InvR g n st) (ho : o.length ≤ 1073741824) :
    rInR s (o.getD n zI) = true ∧ rInR g st.2.2.2.2.2 = true ∧ rInR (rGet zLIl g st.2.2.2.2.2) (rArith .add .i64 (o.getD n zI) 1) = true ∧ rInR (rGet zLIl g st.2.2.2.2.2) 0 = true ∧
    (∀ v : Int, rSmall (List.append st.2.1 (List.append [] [v])) = true) ∧ InvR g (n + 1) (next g s st (o.getD n zI)) := by
  obtain ⟨h6, hg, hrow, _, _, _⟩ := roundOk_rows (orderOk_round h)
  obtain ⟨i0, i1⟩ := orderOk_at h hn
  have hp := hi.hi
  have hp0 := hi.lo
  have hr := (hrow st.2.2.2.2.2.toNat (by omega)).1
  have e1 : rArith .add .i64 (o.getD n zI) 1 = o.getD n zI + 1 := add1 i0 (by omega)
  have hrl : (rGet zLIl g st.2.2.2.2.2).length = g.length := hr
  have hl := hi.len
  refine ⟨inR_iff i0 i1, inR_iff hp0 hp, ?_, inR_iff (Int.le_refl 0) (by rw [hrl]; omega), fun v => small_of (by show (st.2.1 ++ ([] ++ [v])).length ≤ _; simp; omega), ?_, ?_, ?_⟩
  · rw [e1]; exact inR_iff (by omega) (by rw [hrl]; omega)
  · show 0 ≤ rArith .add .i64 (o.getD n zI) 1; rw [e1]; omega
  · show rArith .add .i64 (o.getD n zI) 1 < _; rw [e1]; omega
  · show (st.2.1 ++ [_]).length = n + 1; simp [hl]
theorem start_inv (h : orderOk a0 a1 g s o = true) : InvR g 0 (start a0 s o) := by
  obtain ⟨h6, hg, _, _, _, _⟩ := roundOk_rows (orderOk_round h)
  exact ⟨Int.le_refl 0, by show (0 : Int) < _; omega, rfl⟩
/-- The first stretch: what is loaded. -/
theorem implLoad (h : orderOk a0 a1 g s o = true) (ho : o.length ≤ 1073741824) : impl_ride_l0 (o, a0, a1, g, s, o, rLen o, ()) ([], 0, 0, 0, 0, 0, ()) = some (Sum.inl ([], 0, 0, 0, load0 s o, ())) := by
  refine (loop_fold (body := impl_ride_b0 (o, a0, a1, g, s, o, rLen o, ())) o zI (by omega) (load1 s) (fun l n => ([], 0, 0, 0, l, (n : Int), ())) (fun _ _ => True) (fun l => Sum.inl ([], 0, 0, 0, l, ())) (fun n l hn _ => ⟨?_, trivial⟩) (fun l _ => ?_) 0 trivial).1
  · obtain ⟨i0, i1⟩ := orderOk_at h hn
    unfold impl_ride_b0 load1
    simp only [lss_len, inR_nat, get_nat, hn, decide_true, cond_true, inR_iff i0 i1, succ64 (n := n) (by omega)]
  · unfold impl_ride_b0
    simp only [lss_len, Nat.lt_irrefl, decide_false, cond_false]
theorem specLoad (h : orderOk a0 a1 g s o = true) (ho : o.length ≤ 1073741824) : spec_l07Drive_l0 (o, a0, a1, g, s, ()) ([], 0, 0, 0, [], a0, 0, 0, 0, 0, ()) = some (Sum.inl ([], 0, 0, 0, [], a0, 0, 0, load0 s o, ())) := by
  refine (loop_fold (body := spec_l07Drive_b0 (o, a0, a1, g, s, ())) o zI (by omega) (load1 s) (fun l n => ([], 0, 0, 0, [], a0, 0, 0, l, (n : Int), ())) (fun _ _ => True) (fun l => Sum.inl ([], 0, 0, 0, [], a0, 0, 0, l, ())) (fun n l hn _ => ⟨?_, trivial⟩) (fun l _ => ?_) 0 trivial).1
  · obtain ⟨i0, i1⟩ := orderOk_at h hn
    unfold spec_l07Drive_b0 load1
    simp only [lss_len, inR_nat, get_nat, hn, decide_true, cond_true, inR_iff i0 i1, succ64 (n := n) (by omega)]
  · unfold spec_l07Drive_b0
    simp only [lss_len, Nat.lt_irrefl, decide_false, cond_false]
theorem implWay (h : orderOk a0 a1 g s o = true) (ho : o.length ≤ 1073741824) : impl_ride_l2 (o, a0, a1, g, s, o, rLen o, ()) ([], 0, 0, 0, load0 s o, [], a0, load0 s o, 0, 0, 0, ()) =
    some (match rideGo g s o (start a0 s o) with | .inl st => Sum.inr (Sum.inl ([], 0, 0, 0, st.2.1, st.2.2.1, st.2.2.2.1, st.2.2.2.2.1, st.2.2.2.2.2, ())) | .inr _ => Sum.inl ([], 0, 0, 0, false, ())) := by
  rw [← runL_go g s (fun _ => Sum.inl ([], 0, 0, 0, false, ())) (fun st => Sum.inr (Sum.inl ([], 0, 0, 0, st.2.1, st.2.2.1, st.2.2.2.1, st.2.2.2.2.1, st.2.2.2.2.2, ())))]
  refine loop_run (body := impl_ride_b2 (o, a0, a1, g, s, o, rLen o, ())) o zI (by omega) (fun st n => ([], 0, 0, 0, st.1, st.2.1, st.2.2.1, st.2.2.2.1, st.2.2.2.2.1, st.2.2.2.2.2, (n : Int), ())) _ _ (InvR g) (fun n st hn hi => ?_) (fun st hi => ?_) (start a0 s o) (start_inv h)
  · obtain ⟨f1, f2, f3, _, f5, f6⟩ := at_facts h hn hi ho
    refine ⟨?_, fun b hb => ?_⟩
    · unfold impl_ride_b2 stepR
      simp only [lss_len, inR_nat, get_nat, hn, decide_true, cond_true, f1, f2, f3, f5, lets_def, succ64 (n := n) (by omega)]
      show (bif late g s st (o.getD n zI) then _ else _) = _
      cases late g s st (o.getD n zI) <;> rfl
    · unfold stepR at hb
      cases hl : late g s st (o.getD n zI) with
      | true => rw [hl] at hb; cases hb
      | false => rw [hl] at hb; injection hb with hb; subst hb; exact f6
  · unfold impl_ride_b2
    simp only [lss_len, Nat.lt_irrefl, decide_false, cond_false]
theorem specWay (h : orderOk a0 a1 g s o = true) (ho : o.length ≤ 1073741824) : spec_l07Drive_l2 (o, a0, a1, g, s, ()) ([], 0, 0, 0, [], a0, load0 s o, 0, load0 s o, 0, 0, ()) =
    some (match rideGo g s o (start a0 s o) with | .inl st => Sum.inr (Sum.inl ([], 0, 0, 0, st.2.1, st.2.2.1, st.2.2.2.1, st.2.2.2.2.1, st.2.2.2.2.2, ())) | .inr st => Sum.inl (st.2.1, st.2.2.1, st.2.2.2.1, st.2.2.2.2.1, false, ())) := by
  rw [← runL_go g s (fun st => Sum.inl (st.2.1, st.2.2.1, st.2.2.2.1, st.2.2.2.2.1, false, ())) (fun st => Sum.inr (Sum.inl ([], 0, 0, 0, st.2.1, st.2.2.1, st.2.2.2.1, st.2.2.2.2.1, st.2.2.2.2.2, ())))]
  refine loop_run (body := spec_l07Drive_b2 (o, a0, a1, g, s, ())) o zI (by omega) (fun st n => ([], 0, 0, 0, st.2.1, st.2.2.1, st.2.2.2.1, st.2.2.2.2.1, st.1, st.2.2.2.2.2, (n : Int), ())) _ _ (InvR g) (fun n st hn hi => ?_) (fun st hi => ?_) (start a0 s o) (start_inv h)
  · obtain ⟨f1, f2, f3, _, f5, f6⟩ := at_facts h hn hi ho
    refine ⟨?_, fun b hb => ?_⟩
    · unfold spec_l07Drive_b2 stepR
      simp only [lss_len, inR_nat, get_nat, hn, decide_true, cond_true, f1, f2, f3, f5, lets_def, succ64 (n := n) (by omega), subadd, addsub]
      show (bif late g s st (o.getD n zI) then _ else _) = _
      cases late g s st (o.getD n zI) <;> rfl
    · unfold stepR at hb
      cases hl : late g s st (o.getD n zI) with
      | true => rw [hl] at hb; cases hb
      | false => rw [hl] at hb; injection hb with hb; subst hb; exact f6
  · unfold spec_l07Drive_b2
    simp only [lss_len, Nat.lt_irrefl, decide_false, cond_false]
theorem go_inv (h : orderOk a0 a1 g s o = true) (ho : o.length ≤ 1073741824) : ∀ (k n : Nat) (st st' : RSt), n + k = o.length → InvR g n st → rideGo g s (o.drop n) st = .inl st' → InvR g o.length st'
  | 0, n, st, st', hk, hi, hg => by
    have : n = o.length := by omega
    subst this
    rw [List.drop_length] at hg
    injection hg with hg
    subst hg
    exact hi
  | k + 1, n, st, st', hk, hi, hg => by
    have hn : n < o.length := by omega
    rw [drop_getD hn zI] at hg
    simp only [rideGo] at hg
    cases hl : late g s st (o.getD n zI) with
    | true => rw [hl] at hg; cases hg
    | false =>
      rw [hl] at hg
      exact go_inv h ho k (n + 1) _ st' (by omega) (at_facts h hn hi ho).2.2.2.2.2 hg
theorem home_facts (h : orderOk a0 a1 g s o = true) {st : RSt} {n : Nat} (hi : InvR g n st) : rInR g st.2.2.2.2.2 = true ∧ rInR (rGet zLIl g st.2.2.2.2.2) 0 = true ∧ 0 ≤ rGet zI (rGet zLIl g st.2.2.2.2.2) 0 ∧ rGet zI (rGet zLIl g st.2.2.2.2.2) 0 ≤ 200 := by
  obtain ⟨h6, hg, hrow, _, _, _⟩ := roundOk_rows (orderOk_round h)
  have hp := hi.hi
  have hp0 := hi.lo
  obtain ⟨hr, hv⟩ := hrow st.2.2.2.2.2.toNat (by omega)
  have hv := hv 0 (by omega)
  exact ⟨inR_iff hp0 hp, inR_iff (Int.le_refl 0) (by show (0 : Int) < ((g.getD st.2.2.2.2.2.toNat zLIl).length : Int); omega), hv.1, hv.2⟩
end
theorem implRide_eq (a0 a1 : Int) (g : List (List Int)) (s : List Stp) (o : List Int) (hgr : ∀ r ∈ g, r.length ≤ 1073741824) (ho : o.length ≤ 1073741824) :
    impl_ride a0 a1 g s o = some (match ride a0 a1 g s o with | some (b, e, p, w) => (b, e, p, w, true, ()) | none => ([], 0, 0, 0, false, ())) := by
  unfold impl_ride ride
  rw [implOrder_eq a0 a1 g s o hgr ho]
  simp only [Option.bind_some]
  cases hk : orderOk a0 a1 g s o with
  | false => rfl
  | true =>
    simp only [Bool.not_true, cond_false, cond_true]
    rw [implLoad hk ho]
    simp only [Option.bind_some, Sum.elim_inl]
    rw [implWay hk ho]
    cases hgo : rideGo g s o (start a0 s o) with
    | inr st => rfl
    | inl st =>
      have hi := go_inv hk ho o.length 0 _ st (by omega) (start_inv hk) (by rw [List.drop_zero]; exact hgo)
      obtain ⟨f1, f2, _, _⟩ := home_facts hk hi
      simp only [Option.bind_some, Sum.elim_inl, Sum.elim_inr, f1, f2, cond_true]
      cases rCmp .gtr st.2.2.2.1 a1 <;> rfl
theorem leq_not (a b : Int) : rCmp .leq a b = Bool.not (rCmp .gtr a b) := by rw [gtr_not, Bool.not_not]
theorem specRide_eq (a0 a1 : Int) (g : List (List Int)) (s : List Stp) (o : List Int) (ho : o.length ≤ 1073741824) :
    ∃ y, spec_l07Drive a0 a1 g s o = some y ∧ match ride a0 a1 g s o with | some (b, e, p, w) => y = (b, e, p, w, true, ()) | none => y.2.2.2.2.1 = false := by
  unfold spec_l07Drive ride
  rw [specOrder_eq a0 a1 g s o ho]
  simp only [Option.bind_some]
  cases hk : orderOk a0 a1 g s o with
  | false => exact ⟨_, rfl, rfl⟩
  | true =>
    simp only [Bool.not_true, cond_false, cond_true]
    rw [specLoad hk ho]
    simp only [Option.bind_some, Sum.elim_inl]
    rw [specWay hk ho]
    cases hgo : rideGo g s o (start a0 s o) with
    | inr st => exact ⟨_, rfl, rfl⟩
    | inl st =>
      have hi := go_inv hk ho o.length 0 _ st (by omega) (start_inv hk) (by rw [List.drop_zero]; exact hgo)
      obtain ⟨f1, f2, f3, f4⟩ := home_facts hk hi
      obtain ⟨_, _, _, _, ha0, _⟩ := roundOk_rows (orderOk_round hk)
      simp only [Option.bind_some, Sum.elim_inl, Sum.elim_inr, f1, f2, cond_true, leq_not]
      have hhome : home g o st = bif rCmp .gtr (rLen o) 0 then rArith .add .i64 st.2.2.1 (rGet zI (rGet zLIl g st.2.2.2.2.2) 0) else st.2.2.1 := by
        unfold home
        cases o with
        | nil =>
          have : st = start a0 s [] := by injection hgo with hgo; exact hgo.symm
          subst this
          show rArith .add .i64 a0 (rArith .mul .i64 _ 0) = a0
          have hm : ∀ x : Int, rArith .mul .i64 x 0 = 0 := fun x => by rw [mul64] <;> simp
          rw [hm, add64 (by omega) (by omega)]
          omega
        | cons i o =>
          have h1 : rMxmn false 1 (rLen (i :: o)) = 1 := by
            unfold rMxmn rLen
            simp only [cond_false]
            rw [if_neg (by simp only [List.length_cons]; omega)]
          have h2 : rCmp .gtr (rLen (i :: o)) 0 = true := by simp [rCmp, rLen]
          rw [h1, h2, mul64 (by omega) (by omega)]
          simp
      rw [hhome]
      cases rCmp .gtr (rLen o) 0 <;> cases rCmp .gtr st.2.2.2.1 a1 <;> exact ⟨_, rfl, rfl⟩
end Go.Fn
set_option linter.unusedSimpArgs false
namespace Go.Fn
open Go.R
abbrev Trm := Int × Int × Int × Int × Int × Int × Int × Int
end Go.Fn
set_option linter.unusedSimpArgs false
namespace Go.Fn
open Go.R
abbrev Bx := Int × Int × Int × Bool
abbrev Col := Int × List Int × List Bx
abbrev Site := List Spn × List Spn × List Col × Int × Int × Bool × Bool × Bool × Int × Int × List Ev
theorem getD_mem {α : Type} {l : List α} {n : Nat} (h : n < l.length) (z : α) : l.getD n z ∈ l := by
  rw [List.getD_eq_getElem?_getD, List.getElem?_eq_getElem h]
  exact List.getElem_mem h
end Go.Fn
set_option linter.unusedSimpArgs false
namespace Go.Fn
open Go.R
abbrev Prc := Int × Int × Int × Int × Int × Int × Int × Int × Int × Int × Int × Int × Int
abbrev Grt := Int × Int × Int × Int × Int × Int × Bool
end Go.Fn
namespace Go.R
/-- It answers, and so. -/
def Yl {α : Type} (x : Option α) (P : α → Prop) : Prop := ∃ a, x = some a ∧ P a
section
variable {α β : Type} {P : α → Prop} {Q : β → Prop}
theorem Yl.ret {a : α} (h : P a) : Yl (some a) P := ⟨a, rfl, h⟩
theorem Yl.bind {x : Option α} {f : α → Option β} (hx : Yl x P) (hf : ∀ a, P a → Yl (f a) Q) : Yl (x.bind f) Q := by
  obtain ⟨a, rfl, ha⟩ := hx
  exact hf a ha
theorem Yl.mono {P' : α → Prop} {x : Option α} (hx : Yl x P) (h : ∀ a, P a → P' a) : Yl x P' := by
  obtain ⟨a, e, ha⟩ := hx
  exact ⟨a, e, h a ha⟩
theorem Yl.cond {b : Bool} {x y : Option α} (hx : b = true → Yl x P) (hy : b = false → Yl y P) : Yl (bif b then x else y) P := by
  cases b
  · exact hy rfl
  · exact hx rfl
theorem Yl.guard {b : Bool} {x : Option α} (hb : b = true) (hx : Yl x P) : Yl (bif b then x else none) P := by
  subst hb; exact hx
theorem Yl.nguard {b : Bool} {x : Option α} (hb : b = false) (hx : Yl x P) : Yl (bif b then none else x) P := by
  subst hb; exact hx
theorem Yl.lets {γ : Type} {v : γ} {k : γ → Option α} (h : Yl (k v) P) : Yl (lets v k) P := h
/-- A loop with a measure. -/
theorem Yl.loop {X Y : Type} {body : X → Option (X ⊕ Y)} (Inv : X → Prop) (m : X → Nat) {R : Y → Prop} (hb : ∀ x, Inv x → Yl (body x) fun r => match r with | .inl y => Inv y ∧ m y < m x | .inr b => R b) :
    ∀ (n : Nat) (x : X), Inv x → m x < n → Yl (iter body n x) R
  | 0, _, _, h => absurd h (Nat.not_lt_zero _)
  | n + 1, x, hi, hm => by
    obtain ⟨r, e, hr⟩ := hb x hi
    cases r with
    | inl y =>
      rw [iter_next e]
      exact Yl.loop Inv m hb n y hr.1 (by omega)
    | inr b => exact ⟨b, iter_done e, hr⟩
end
theorem cmp_lss {a b : Int} : rCmp .lss a b = decide (a < b) := rfl
theorem cmp_leq {a b : Int} : rCmp .leq a b = decide (a ≤ b) := rfl
theorem inR_int {α : Type} {l : List α} {i : Int} (h0 : 0 ≤ i) (h1 : i < (l.length : Int)) : rInR l i = true := by
  unfold rInR
  rw [Bool.and_eq_true]
  exact ⟨decide_eq_true h0, decide_eq_true h1⟩
theorem small_of {α : Type} {l : List α} (h : l.length ≤ 1073741824) : rSmall l = true := by
  unfold rSmall limit
  exact decide_eq_true (by omega)
/-- x & c for c from 0 on. -/
theorem and64 (x : Int) {c : Nat} (hc : c < 9223372036854775808) : 0 ≤ rArith .and .i64 x (c : Int) ∧ rArith .and .i64 x (c : Int) ≤ (c : Int) := by
  have h1 : (BitVec.ofInt 64 (c : Int)).toNat = c := by
    rw [BitVec.toNat_ofInt]
    have : ((c : Int) % ((2 ^ 64 : Nat) : Int)) = c := Int.emod_eq_of_lt (by omega) (by omega)
    rw [this]; rfl
  have h2 : (BitVec.ofInt 64 x &&& BitVec.ofInt 64 (c : Int)).toNat ≤ c := by
    rw [BitVec.toNat_and, h1]
    exact Nat.and_le_right
  have e : rArith .and .i64 x (c : Int) = IntKind.i64.wrap (((BitVec.ofInt 64 x &&& BitVec.ofInt 64 (c : Int)).toNat : Nat) : Int) := rfl
  rw [e, w64 (by omega) (by omega)]
  exact ⟨by omega, by omega⟩
open Go.Fn
/-- A drawn number, and the cursor behind it. -/
def Drawn (b : List Int) (lo hi : Int) (y : Int × List Int × Int × Int × Unit) : Prop := lo ≤ y.1 ∧ y.1 ≤ hi ∧ y.2.1 = b ∧ 0 ≤ y.2.2.1
theorem byte_yl (b : List Int) (hb : b.length ≤ 1048576) (i h : Int) (hi : 0 ≤ i) : Yl (spec_l01Byte b i h) (Drawn b 0 255) := by
  unfold spec_l01Byte
  refine .nguard rfl (.nguard rfl (.lets (.cond (fun h1 => ?_) fun _ => ?_)))
  · rw [cmp_lss] at h1
    have h1 : i < (b.length : Int) := of_decide_eq_true h1
    refine .guard (inR_int hi h1) (.ret ?_)
    have := and64 (rArith .add .i64 (rArith .and .i64 (rArith .xor .i64 (rShift .shr .i64 (rArith .add .i64 (rArith .mul .i64 h 6364136223846793005) 1442695040888963407) 33) (rShift .shr .i64 (rArith .add .i64 (rArith .mul .i64 h 6364136223846793005) 1442695040888963407) 45)) 255) (rConv .i64 (rGet zI b i))) (c := 255) (by omega)
    refine ⟨this.1, this.2, rfl, ?_⟩
    show 0 ≤ rArith .add .i64 i 1
    rw [add64 (by omega) (by omega)]
    omega
  · have := and64 (rArith .xor .i64 (rShift .shr .i64 (rArith .add .i64 (rArith .mul .i64 h 6364136223846793005) 1442695040888963407) 33) (rShift .shr .i64 (rArith .add .i64 (rArith .mul .i64 h 6364136223846793005) 1442695040888963407) 45)) (c := 255) (by omega)
    exact .ret ⟨this.1, this.2, rfl, hi⟩
/-- A number below n (0 where n is not above 0). -/
theorem below_yl (b : List Int) (hb : b.length ≤ 1048576) (i h n : Int) (hi : 0 ≤ i) (hn : n ≤ 1073741824) : Yl (spec_l01Below b i h n) (Drawn b 0 (max 0 (n - 1))) := by
  unfold spec_l01Below
  have mod : ∀ (x : Int), 0 ≤ x → 0 < n → 0 ≤ rArith .rem .i64 x n ∧ rArith .rem .i64 x n ≤ max 0 (n - 1) := by
    intro x hx hn
    have e : rArith .rem .i64 x n = x.tmod n := rfl
    have h1 := Int.tmod_nonneg n hx
    have h2 := Int.tmod_lt_of_pos x hn
    rw [e]
    omega
  refine .cond (fun _ => .ret ⟨Int.le_refl _, by show (0 : Int) ≤ max 0 (n - 1); omega, rfl, hi⟩) fun h0 => .cond (fun _ => ?_) fun h1 => ?_
  · rw [cmp_leq] at h0
    have h0 := of_decide_eq_false h0
    refine (byte_yl b hb i h hi).bind fun y hy => .nguard (decide_eq_false (by omega)) (.ret ?_)
    have := mod y.1 hy.1 (by omega)
    exact ⟨this.1, this.2, hy.2.2.1, hy.2.2.2⟩
  · rw [cmp_leq] at h0
    have h0 := of_decide_eq_false h0
    refine (byte_yl b hb i h hi).bind fun y hy => ?_
    obtain ⟨y1, y2, y3, y4⟩ := hy
    rw [y3]
    refine (byte_yl b hb _ _ y4).bind fun z hz => ?_
    obtain ⟨z1, z2, z3, z4⟩ := hz
    rw [z3]
    refine (byte_yl b hb _ _ z4).bind fun u hu => ?_
    obtain ⟨u1, u2, u3, u4⟩ := hu
    rw [u3]
    refine (byte_yl b hb _ _ u4).bind fun v hv => .lets (.nguard (decide_eq_false (by omega)) (.ret ?_))
    obtain ⟨v1, v2, v3, v4⟩ := hv
    have e : rArith .add .i64 (rArith .add .i64 (rArith .add .i64 (rArith .mul .i64 y.1 16777216) (rArith .mul .i64 z.1 65536)) (rArith .mul .i64 u.1 256)) v.1 = y.1 * 16777216 + z.1 * 65536 + u.1 * 256 + v.1 := by
      rw [mul64 (a := y.1) (by omega) (by omega), mul64 (a := z.1) (by omega) (by omega), mul64 (a := u.1) (by omega) (by omega), add64 (a := y.1 * 16777216) (by omega) (by omega), add64 (a := y.1 * 16777216 + z.1 * 65536) (by omega) (by omega), add64 (a := y.1 * 16777216 + z.1 * 65536 + u.1 * 256) (by omega) (by omega)]
    have := mod (y.1 * 16777216 + z.1 * 65536 + u.1 * 256 + v.1) (by omega) (by omega)
    rw [e]
    exact ⟨this.1, this.2, v3, v4⟩
theorem once_yl (b : List Int) (hb : b.length ≤ 1048576) (i h n : Int) (hi : 0 ≤ i) (hn : n ≤ 1073741824) : Yl (spec_l01Once b i h n) fun y => y.2.1 = b ∧ 0 ≤ y.2.2.1 := by
  unfold spec_l01Once
  exact (below_yl b hb i h n hi hn).bind fun y hy => .ret ⟨hy.2.2.1, hy.2.2.2⟩
/-- One of a list that is not empty. -/
theorem pickInt_yl (b : List Int) (hb : b.length ≤ 1048576) (i h : Int) (l : List Int) (hi : 0 ≤ i) (h1 : 1 ≤ l.length) (h2 : l.length ≤ 1048576) : Yl (spec_l01PickInt b i h l) fun y => y.1 ∈ l ∧ y.2.1 = b ∧ 0 ≤ y.2.2.1 := by
  unfold spec_l01PickInt
  refine (below_yl b hb i h (rLen l) hi (by unfold rLen; omega)).bind fun y hy => ?_
  obtain ⟨y1, y2, y3, y4⟩ := hy
  have y2 : y.1 ≤ max 0 ((l.length : Int) - 1) := y2
  refine .guard (inR_int y1 (by omega)) (.ret ⟨?_, y3, y4⟩)
  show l.getD y.1.toNat zI ∈ l
  have hlt : y.1.toNat < l.length := by omega
  rw [List.getD_eq_getElem?_getD, List.getElem?_eq_getElem hlt]
  exact List.getElem_mem hlt
theorem new_yl (b : List Int) (hb : b.length ≤ 1048576) : Yl (spec_l01New b) fun y => y.1 = b ∧ y.2.1 = 0 := by
  unfold spec_l01New
  have hl : Yl (spec_l01New_l0 (b, ()) (rArith .add .i64 33183 (rLen b), 0, ())) fun _ => True := by
    unfold spec_l01New_l0
    refine Yl.loop (fun x => 0 ≤ x.2.1) (fun x => b.length + 1 - x.2.1.toNat) (fun x hx => ?_) big _ (by show (0 : Int) ≤ 0; omega) (lt_big (by show b.length + 1 - (0 : Int).toNat < _; omega))
    unfold spec_l01New_b0
    refine .cond (fun h1 => .cond (fun _ => ?_) fun _ => .ret trivial) fun _ => .ret trivial
    rw [cmp_lss] at h1
    have h1 : x.2.1 < (b.length : Int) := of_decide_eq_true h1
    refine .guard (inR_int hx h1) (.ret ?_)
    have e : rArith .add .i64 x.2.1 1 = x.2.1 + 1 := add64 (by omega) (by omega)
    show 0 ≤ rArith .add .i64 x.2.1 1 ∧ b.length + 1 - (rArith .add .i64 x.2.1 1).toNat < b.length + 1 - x.2.1.toNat
    rw [e]
    omega
  refine hl.bind fun q _ => ?_
  cases q with
  | inl y => exact .ret ⟨rfl, rfl⟩
  | inr q => exact nomatch q
end Go.R
set_option linter.unusedSimpArgs false
set_option linter.unusedVariables false
namespace Go.Fn
open Go.R Go.Sort
section
variable {α : Type} [Inhabited α] {lt : α → α → Bool}
theorem one : (1 : Int) = ((1 : Nat) : Int) := rfl
end
end Go.Fn
set_option linter.unusedSimpArgs false
set_option linter.unusedVariables false
namespace Go.Fn
open Go.R Go.Sort
section
variable {α : Type} [Inhabited α] {lt : α → α → Bool}
abbrev PdqQ (α : Type) := Option (((List α) × Int × Int × Int × Bool × Bool × Unit) ⊕ ((List α) × Unit ⊕ Empty))
def Next (lt : α → α → Bool) (q : PdqQ α) (d : Array α) (a b : Nat) : Prop :=
  (∃ R, q = some (.inr (.inl (R.toList, ()))) ∧ PermIn a b d R ∧ SortedIn lt a b R) ∨
  (∃ (E : Array α) (a' b' : Nat) (L : Int) (wb wp : Bool), q = some (.inl (E.toList, (a' : Int), (b' : Int), L, wb, wp, ())) ∧ E.size = d.size ∧ a' ≤ b' ∧ b' ≤ b ∧ b' - a' < b - a ∧ Below lt a' b' E ∧ ∀ R, PermIn a' b' E R → SortedIn lt a' b' R → PermIn a b d R ∧ SortedIn lt a b R)
theorem Next.mono {q : PdqQ α} {d D : Array α} {a b : Nat} (h : Next lt q D a b) (p : PermIn a b d D) : Next lt q d a b := by
  rcases h with ⟨R, h1, h2, h3⟩ | ⟨E, a', b', L, wb, wp, h1, h2, h3, h4, h5, h6, h7⟩
  · exact .inl ⟨R, h1, permIn_trans _ _ _ a b p h2, h3⟩
  · refine .inr ⟨E, a', b', L, wb, wp, h1, by rw [h2, p.1], h3, h4, h5, h6, fun R hR hs => ?_⟩
    obtain ⟨k1, k2⟩ := h7 R hR hs
    exact ⟨permIn_trans _ _ _ a b p k1, k2⟩
end
end Go.Fn
set_option linter.unusedSimpArgs false
set_option linter.unusedVariables false
namespace Go.Fn
open Go.R Go.Sort
def ltE (x y : Ev) : Bool := decide (x.1 < y.1) || (decide (x.1 = y.1) && decide (x.2.1 < y.2.1))
end Go.Fn
set_option linter.unusedSimpArgs false
set_option linter.unusedVariables false
namespace Go.Fn
open Go.R Go.Sort
theorem ltE_iff {x y : Ev} : ltE x y = true ↔ x.1 < y.1 ∨ (x.1 = y.1 ∧ x.2.1 < y.2.1) := by
  unfold ltE; simp
theorem ltE_tr {x y z : Ev} (h1 : ltE x y = true) (h2 : ltE y z = true) : ltE x z = true := by rw [ltE_iff] at *; omega
abbrev Srt (l : List Ev) : Prop := l.Pairwise fun x y => ltE x y = true
theorem srt_adj : ∀ (l : List Ev), (∀ n, n + 1 < l.length → ltE (l.getD n zIIIIIII) (l.getD (n + 1) zIIIIIII) = true) → Srt l
  | [], _ => List.Pairwise.nil
  | [x], _ => List.pairwise_singleton _ _
  | x :: y :: l, h => by
    have ih := srt_adj (y :: l) (fun n hn => h (n + 1) (by simpa using hn))
    have hxy : ltE x y = true := h 0 (by simp)
    refine List.Pairwise.cons (fun z hz => ?_) ih
    rcases List.mem_cons.1 hz with rfl | hz
    · exact hxy
    · exact ltE_tr hxy ((List.pairwise_cons.1 ih).1 z hz)
theorem jok_srt {l : List Ev} (h : jok l = true) : Srt l := by
  refine srt_adj l fun n hn => ?_
  have := jok_at h hn
  simp only [jokAt, Bool.and_eq_true, ordOk, Bool.not_eq_true', Bool.or_eq_false_iff, Bool.and_eq_false_iff, decide_eq_false_iff_not] at this
  rw [ltE_iff]
  omega
end Go.Fn
set_option linter.unusedSimpArgs false
set_option linter.unusedVariables false
namespace Go.Fn
open Go.R Go.Sort
def aStep (node : Int) (s : Int × Int × Nat × Nat) (x : Ev) : Int × Int × Nat × Nat :=
  ((bif decide (x.1 = node) then x.2.1 + 1 else s.1), max s.2.1 (x.2.2.1 + 1), (bif decide (x.1 ≤ node) then s.2.2.2 + 1 else s.2.2.1), s.2.2.2 + 1)
def aRun (l : List Ev) (node : Int) : Int × Int × Nat × Nat := l.foldl (aStep node) (1, 1, 0, 0)
def newE (l : List Ev) (node kind parcel a b : Int) : Ev := (node, (aRun l node).1, (aRun l node).2.1, kind, parcel, a, b)
def withE (l : List Ev) (node kind parcel a b : Int) : List Ev := l.take (aRun l node).2.2.1 ++ [newE l node kind parcel a b] ++ l.drop (aRun l node).2.2.1
def addEv (l : List Ev) (node kind parcel a b : Int) : List Ev × Bool := bif jok l then bif jok (withE l node kind parcel a b) then (withE l node kind parcel a b, true) else (l, false) else (l, false)
structure AInv (node : Int) (p : List Ev) (s : Int × Int × Nat × Nat) : Prop where
  c : s.2.2.2 = p.length
  at_le : s.2.2.1 ≤ p.length
  s1 : ∀ x, x ∈ p → x.1 = node → x.2.1 < s.1
  s2 : s.1 = 1 ∨ ∃ x, x ∈ p ∧ x.1 = node ∧ s.1 = x.2.1 + 1
  p1 : ∀ x, x ∈ p → x.2.2.1 < s.2.1
  p2 : s.2.1 = 1 ∨ ∃ x, x ∈ p ∧ s.2.1 = x.2.2.1 + 1
  a1 : ∀ x, x ∈ p.take s.2.2.1 → x.1 ≤ node
  a2 : ∀ x, x ∈ p.drop s.2.2.1 → node < x.1
theorem aInv_step {node : Int} {p : List Ev} {s : Int × Int × Nat × Nat} {x : Ev} (h : AInv node p s) (hp : Srt (p ++ [x])) : AInv node (p ++ [x]) (aStep node s x) := by
  have hlt : ∀ y, y ∈ p → ltE y x = true := fun y hy => (List.pairwise_append.1 hp).2.2 y hy x (List.mem_singleton.2 rfl)
  obtain ⟨h1, h2, h3, h4, h5, h6, h7, h8⟩ := h
  unfold aStep
  refine ⟨by simp [h1], ?_, fun y hy hn => ?_, ?_, fun y hy => ?_, ?_, ?_, ?_⟩
  · cases decide (x.1 ≤ node) <;> simp <;> omega
  · simp only []
    rcases List.mem_append.1 hy with hy | hy
    · by_cases hx : x.1 = node
      · rw [decide_eq_true hx]
        have := hlt y hy
        rw [ltE_iff] at this
        simp only [cond_true]; omega
      · rw [decide_eq_false hx]
        exact h3 y hy hn
    · rw [List.mem_singleton] at hy
      subst hy
      rw [decide_eq_true hn]
      simp only [cond_true]; omega
  · simp only []
    by_cases hx : x.1 = node
    · rw [decide_eq_true hx]
      exact .inr ⟨x, by simp, hx, rfl⟩
    · rw [decide_eq_false hx]
      rcases h4 with h4 | ⟨y, hy, h4⟩
      · exact .inl h4
      · exact .inr ⟨y, List.mem_append_left _ hy, h4⟩
  · simp only []
    rcases List.mem_append.1 hy with hy | hy
    · have := h5 y hy; omega
    · rw [List.mem_singleton] at hy
      subst hy; omega
  · simp only []
    by_cases hm : s.2.1 ≤ x.2.2.1 + 1
    · exact .inr ⟨x, by simp, by omega⟩
    · rcases h6 with h6 | ⟨y, hy, h6⟩
      · exact .inl (by omega)
      · exact .inr ⟨y, List.mem_append_left _ hy, by omega⟩
  · simp only []
    by_cases hx : x.1 ≤ node
    · rw [decide_eq_true hx]
      intro y hy
      rw [cond_true, h1, List.take_of_length_le (by simp)] at hy
      rcases List.mem_append.1 hy with hy | hy
      · have := hlt y hy; rw [ltE_iff] at this; omega
      · rw [List.mem_singleton] at hy; subst hy; exact hx
    · rw [decide_eq_false hx]
      intro y hy
      rw [cond_false, List.take_append_of_le_length h2] at hy
      exact h7 y hy
  · simp only []
    by_cases hx : x.1 ≤ node
    · rw [decide_eq_true hx]
      intro y hy
      rw [cond_true, h1, List.drop_of_length_le (by simp)] at hy
      exact absurd hy List.not_mem_nil
    · rw [decide_eq_false hx]
      intro y hy
      rw [cond_false, List.drop_append_of_le_length h2] at hy
      rcases List.mem_append.1 hy with hy | hy
      · exact h8 y hy
      · rw [List.mem_singleton] at hy; subst hy; omega
theorem aInv_run (node : Int) : ∀ (l p : List Ev) (s : Int × Int × Nat × Nat), Srt (p ++ l) → AInv node p s → AInv node (p ++ l) (l.foldl (aStep node) s)
  | [], p, s, _, h => by simpa using h
  | x :: l, p, s, hp, h => by
    have e : p ++ x :: l = (p ++ [x]) ++ l := by simp
    rw [e] at hp ⊢
    exact aInv_run node l (p ++ [x]) (aStep node s x) hp (aInv_step h (List.pairwise_append.1 hp).1)
theorem aRun_inv (node : Int) {l : List Ev} (h : Srt l) : AInv node l (aRun l node) := by
  have := aInv_run node l [] (1, 1, 0, 0) (by simpa using h) ⟨rfl, Nat.le_refl _, fun x hx => absurd hx List.not_mem_nil, .inl rfl, fun x hx => absurd hx List.not_mem_nil, .inl rfl, fun x hx => absurd (List.mem_of_mem_take hx) List.not_mem_nil, fun x hx => absurd (List.mem_of_mem_drop hx) List.not_mem_nil⟩
  exact this
theorem withE_mem {l : List Ev} {node kind parcel a b : Int} (z : Ev) : z ∈ withE l node kind parcel a b ↔ z = newE l node kind parcel a b ∨ z ∈ l := by
  unfold withE
  rw [List.mem_append, List.mem_append, List.mem_singleton]
  constructor
  · rintro ((h | h) | h)
    · exact .inr (List.mem_of_mem_take h)
    · exact .inl h
    · exact .inr (List.mem_of_mem_drop h)
  · rintro (h | h)
    · exact .inl (.inr h)
    · rw [← List.take_append_drop (aRun l node).2.2.1 l, List.mem_append] at h
      rcases h with h | h
      · exact .inl (.inl h)
      · exact .inr h
theorem withE_len {l : List Ev} (h : Srt l) (node kind parcel a b : Int) : (withE l node kind parcel a b).length = l.length + 1 := by
  have := (aRun_inv node h).at_le
  unfold withE
  simp only [List.length_append, List.length_take, List.length_drop, List.length_singleton]
  omega
end Go.Fn
set_option linter.unusedSimpArgs false
set_option linter.unusedVariables false
namespace Go.Fn
open Go.R Go.Sort
/-- What drawn journals are: n bounds events and stamps, base is in it, the others are of nodes S. -/
structure JInv (n : Nat) (base : List Ev) (S : Int → Prop) (l : List Ev) : Prop where
  j : jok l = true
  len : l.length ≤ n
  st : ∀ x, x ∈ l → x.2.2.1 ≤ (n : Int)
  gap : ∀ x, x ∈ l → ∀ s : Int, 1 ≤ s → s ≤ x.2.1 → ∃ y, y ∈ l ∧ y.1 = x.1 ∧ y.2.1 = s
  sub : ∀ x, x ∈ base → x ∈ l
  new : ∀ x, x ∈ l → x ∈ base ∨ S x.1
theorem JInv.mono {n m : Nat} {base : List Ev} {S : Int → Prop} {l : List Ev} (h : JInv n base S l) (hm : n ≤ m) : JInv m base S l :=
  ⟨h.j, by have := h.len; omega, fun x hx => by have := h.st x hx; omega, h.gap, h.sub, h.new⟩
theorem JInv.add {n : Nat} {base : List Ev} {S : Int → Prop} {l : List Ev} (h : JInv n base S l) {node : Int} (hS : S node) (kind parcel a b : Int) : JInv (n + 1) base S (addEv l node kind parcel a b).1 := by
  unfold addEv
  rw [h.j]
  simp only [cond_true]
  cases hw : jok (withE l node kind parcel a b) with
  | false => exact h.mono (Nat.le_succ _)
  | true =>
    have hs := jok_srt h.j
    have hi := aRun_inv node hs
    simp only [cond_true]
    refine ⟨hw, by rw [withE_len hs]; have := h.len; omega, fun x hx => ?_, fun x hx s h1 h2 => ?_, fun x hx => (withE_mem x).2 (.inr (h.sub x hx)), fun x hx => ?_⟩
    · rcases (withE_mem x).1 hx with e | e
      · rw [e]
        show (aRun l node).2.1 ≤ _
        rcases hi.p2 with p | ⟨y, hy, p⟩
        · rw [p]; omega
        · rw [p]; have := h.st y hy; omega
      · have := h.st x e; omega
    · rcases (withE_mem x).1 hx with e | e
      · subst e
        have h2 : s ≤ (aRun l node).1 := h2
        by_cases e : s = (aRun l node).1
        · exact ⟨_, hx, rfl, e.symm⟩
        · rcases hi.s2 with p | ⟨y, hy, q, p⟩
          · omega
          · obtain ⟨z, hz, e1, e2⟩ := h.gap y hy s h1 (by omega)
            exact ⟨z, (withE_mem z).2 (.inr hz), by rw [e1, q]; rfl, e2⟩
      · obtain ⟨z, hz, e1, e2⟩ := h.gap x e s h1 h2
        exact ⟨z, (withE_mem z).2 (.inr hz), e1, e2⟩
    · rcases (withE_mem x).1 hx with e | e
      · rw [e]; exact .inr hS
      · exact h.new x e
end Go.Fn
set_option linter.unusedSimpArgs false
set_option linter.unusedVariables false
namespace Go.Fn
open Go.R
theorem hasI_iff {l : List Int} {x : Int} : hasI l x = true ↔ x ∈ l := by
  unfold hasI
  rw [Bool.not_eq_true', ← Bool.not_eq_true, allFrom_iff]
  constructor
  · intro h
    refine Decidable.byContradiction fun hn => h fun m _ hm => ?_
    unfold nat
    rw [Bool.not_eq_true', ← Bool.not_eq_true]
    intro he
    have he : l.getD m zI = x := eql_eq he
    exact hn (he ▸ getD_mem (by omega) zI)
  · intro h hall
    obtain ⟨m, hm, rfl⟩ := List.getElem_of_mem h
    have := hall m (Nat.zero_le _) (by omega)
    unfold nat at this
    rw [List.getD_eq_getElem?_getD, List.getElem?_eq_getElem hm] at this
    simp [rCmp] at this
theorem orderOk_iff {a0 a1 : Int} {g : List (List Int)} {s : List Stp} {o : List Int} : orderOk a0 a1 g s o = true ↔ roundOk a0 a1 g s = true ∧ (∀ x, x ∈ o → 0 ≤ x ∧ x < (s.length : Int)) ∧ o.Pairwise (· ≠ ·) := by
  constructor
  · intro h
    refine ⟨orderOk_round h, fun x hx => ?_, ?_⟩
    · obtain ⟨m, hm, rfl⟩ := List.getElem_of_mem hx
      have := orderOk_at h hm
      rwa [List.getD_eq_getElem?_getD, List.getElem?_eq_getElem hm] at this
    · unfold orderOk at h
      rw [Bool.and_eq_true] at h
      rw [List.pairwise_iff_getElem]
      intro i j hi hj hij he
      have := (allFrom_iff _ _).1 h.2 j (Nat.zero_le _) (by omega)
      unfold ordAt at this
      rw [Bool.and_eq_true, Bool.not_eq_true', ← Bool.not_eq_true, hasI_iff] at this
      refine this.2 ?_
      rw [List.getD_eq_getElem?_getD, List.getElem?_eq_getElem hj]
      show o[j] ∈ o.take j
      rw [← he]
      exact List.mem_take_iff_getElem.2 ⟨i, by omega, rfl⟩
  · intro ⟨h1, h2, h3⟩
    have hr := roundOk_rows h1
    unfold orderOk
    rw [Bool.and_eq_true]
    refine ⟨h1, (allFrom_iff _ _).2 fun m _ hm => ?_⟩
    have hm : m < o.length := by omega
    have e : rArith .sub .i64 (rLen s) 1 = (s.length : Int) - 1 := sub64 (by unfold rLen; omega) (by unfold rLen; omega)
    have hx := h2 _ (getD_mem hm zI)
    unfold ordAt
    rw [Bool.and_eq_true, inB_iff, e, Bool.not_eq_true', ← Bool.not_eq_true, hasI_iff]
    refine ⟨by omega, fun hmem => ?_⟩
    obtain ⟨i, hi, he⟩ := List.mem_take_iff_getElem.1 hmem
    rw [List.getD_eq_getElem?_getD, List.getElem?_eq_getElem hm] at he
    exact List.pairwise_iff_getElem.1 h3 i m (by omega) hm (by omega) he
section
variable {a0 a1 : Int} {g : List (List Int)} {s : List Stp}
def lg (g : List (List Int)) (p q : Int) : Int := leg g p.toNat q.toNat
theorem lg_facts (h : roundOk a0 a1 g s = true) {p q : Int} (hp : 0 ≤ p ∧ p ≤ s.length) (hq : 0 ≤ q ∧ q ≤ s.length) : 0 ≤ lg g p q ∧ lg g p q ≤ 200 := by
  obtain ⟨h6, hg, hrow, _, _, _⟩ := roundOk_rows h
  exact (hrow p.toNat (by omega)).2 q.toNat (by omega)
theorem stop_facts (h : roundOk a0 a1 g s = true) {i : Int} (hi : 0 ≤ i ∧ i < s.length) : (0 ≤ (rGet zIIIII s i).1 ∧ (rGet zIIIII s i).1 ≤ 20000) ∧ (0 ≤ (rGet zIIIII s i).2.1 ∧ (rGet zIIIII s i).2.1 ≤ 20000) ∧ (0 ≤ (rGet zIIIII s i).2.2.1 ∧ (rGet zIIIII s i).2.2.1 ≤ 200) ∧ (0 ≤ (rGet zIIIII s i).2.2.2.1 ∧ (rGet zIIIII s i).2.2.2.1 ≤ 1000) ∧ (0 ≤ (rGet zIIIII s i).2.2.2.2 ∧ (rGet zIIIII s i).2.2.2.2 ≤ 1000) := by
  obtain ⟨_, _, _, hst, _, _⟩ := roundOk_rows h
  have := hst i.toNat (by omega)
  unfold stopOk at this
  simp only [Bool.and_eq_true, inB_iff] at this
  exact ⟨this.1, this.2.1, this.2.2.2.1, this.2.2.2.2.1, this.2.2.2.2.2⟩
/-- Bounds on a state of a ride. -/
structure Bd (s : List Stp) (k : Int) (st : RSt) : Prop where
  e0 : 0 ≤ st.2.2.1
  e1 : st.2.2.1 ≤ 20200
  p0 : 0 ≤ st.2.2.2.2.2
  p1 : st.2.2.2.2.2 ≤ s.length
  l0 : -(1000 * k) ≤ st.1
  l1 : st.1 ≤ 1000 * k
theorem maxT (a b : Int) : rMxmn true a b = max a b := by unfold rMxmn; simp only [cond_true]; omega
theorem arr_eq (h : roundOk a0 a1 g s = true) {st : RSt} {k : Int} (hb : Bd s k st) {i : Int} (hi : 0 ≤ i ∧ i < s.length) : arr g st i = st.2.2.1 + lg g st.2.2.2.2.2 (i + 1) := by
  have hs6 := (roundOk_rows h).1
  have := lg_facts h (p := st.2.2.2.2.2) (q := i + 1) ⟨hb.p0, hb.p1⟩ (by omega)
  have e1 := hb.e0
  have e2 := hb.e1
  unfold arr
  rw [show rArith .add .i64 i 1 = i + 1 from add1 hi.1 (by omega)]
  show rArith .add .i64 st.2.2.1 (lg g st.2.2.2.2.2 (i + 1)) = _
  exact add64 (by omega) (by omega)
theorem next_eq (h : roundOk a0 a1 g s = true) {st : RSt} {k : Int} (hk0 : 0 ≤ k) (hk : k ≤ 1000000) (hb : Bd s k st) {i : Int} (hi : 0 ≤ i ∧ i < s.length) (hl : late g s st i = false) :
    (next g s st i).1 = st.1 + (rGet zIIIII s i).2.2.2.2 - (rGet zIIIII s i).2.2.2.1 ∧ (next g s st i).2.2.1 = max (st.2.2.1 + lg g st.2.2.2.2.2 (i + 1)) (rGet zIIIII s i).1 + (rGet zIIIII s i).2.2.1 ∧ (next g s st i).2.2.2.1 = max st.2.2.2.1 (next g s st i).1 ∧ (next g s st i).2.2.2.2.2 = i + 1 ∧ Bd s (k + 1) (next g s st i) ∧ st.2.2.1 + lg g st.2.2.2.2.2 (i + 1) ≤ (rGet zIIIII s i).2.1 := by
  have hs6 := (roundOk_rows h).1
  obtain ⟨f1, f2, f3, f4, f5⟩ := stop_facts h hi
  have ha := arr_eq h hb hi
  have hlg := lg_facts h (p := st.2.2.2.2.2) (q := i + 1) ⟨hb.p0, hb.p1⟩ (by omega)
  have hle : st.2.2.1 + lg g st.2.2.2.2.2 (i + 1) ≤ (rGet zIIIII s i).2.1 := by
    unfold late at hl
    rw [ha] at hl
    have := of_decide_eq_false hl
    omega
  have e0 := hb.e0
  have e1 := hb.e1
  have l0 := hb.l0
  have l1 := hb.l1
  have x1 : rArith .sub .i64 (rGet zIIIII s i).2.2.2.2 (rGet zIIIII s i).2.2.2.1 = (rGet zIIIII s i).2.2.2.2 - (rGet zIIIII s i).2.2.2.1 := sub64 (by omega) (by omega)
  have x2 : (next g s st i).1 = st.1 + (rGet zIIIII s i).2.2.2.2 - (rGet zIIIII s i).2.2.2.1 := by
    show rArith .add .i64 st.1 (rArith .sub .i64 (rGet zIIIII s i).2.2.2.2 (rGet zIIIII s i).2.2.2.1) = _
    rw [x1, add64 (by omega) (by omega)]; omega
  have x3 : (next g s st i).2.2.1 = max (st.2.2.1 + lg g st.2.2.2.2.2 (i + 1)) (rGet zIIIII s i).1 + (rGet zIIIII s i).2.2.1 := by
    show rArith .add .i64 (rMxmn true (arr g st i) (rGet zIIIII s i).1) (rGet zIIIII s i).2.2.1 = _
    rw [ha, maxT, add64 (by omega) (by omega)]
  have x4 : (next g s st i).2.2.2.2.2 = i + 1 := add1 hi.1 (by omega)
  refine ⟨x2, x3, ?_, x4, ⟨by rw [x3]; omega, by rw [x3]; omega, by rw [x4]; omega, by rw [x4]; omega, by rw [x2]; omega, by rw [x2]; omega⟩, hle⟩
  show rMxmn true st.2.2.2.1 _ = _
  rw [maxT]; rfl
/-- The second is nowhere before the first. -/
structure Rel (g : List (List Int)) (s : List Stp) (k c : Int) (st' st : RSt) : Prop where
  b' : Bd s k st'
  b : Bd s k st
  t : ∀ q : Int, 0 ≤ q → q ≤ s.length → st'.2.2.1 + lg g st'.2.2.2.2.2 q ≤ st.2.2.1 + lg g st.2.2.2.2.2 q
  l : st'.1 ≤ st.1 - c
  p : st'.2.2.2.1 ≤ st.2.2.2.1
theorem rel_next (h : roundOk a0 a1 g s = true) {k c : Int} (hk0 : 0 ≤ k) (hk : k ≤ 1000000) (hc : 0 ≤ c) {st' st : RSt} (hr : Rel g s k c st' st) {i : Int} (hi : 0 ≤ i ∧ i < s.length) (hl : late g s st i = false) : late g s st' i = false ∧ Rel g s (k + 1) c (next g s st' i) (next g s st i) := by
  obtain ⟨n1, n2, n3, n4, n5, n6⟩ := next_eq h hk0 hk hr.b hi hl
  have ht := hr.t (i + 1) (by omega) (by omega)
  have hl' : late g s st' i = false := by
    unfold late
    rw [arr_eq h hr.b' hi]
    exact decide_eq_false (by omega)
  obtain ⟨m1, m2, m3, m4, m5, m6⟩ := next_eq h hk0 hk hr.b' hi hl'
  have hrl := hr.l
  have hrp := hr.p
  refine ⟨hl', m5, n5, fun q q1 q2 => ?_, by rw [m1, n1]; omega, by rw [m3, n3, m1, n1]; omega⟩
  rw [m2, n2, m4, n4]; omega
theorem rel_skip (h : roundOk a0 a1 g s = true) (htri : tri g = true) {k : Int} (hk0 : 0 ≤ k) (hk : k ≤ 1000000) {st' st : RSt} {i : Int} (hi : 0 ≤ i ∧ i < s.length) (hr : Rel g s k (rGet zIIIII s i).2.2.2.1 st' st) (hl : late g s st i = false) : Rel g s (k + 1) 0 st' (next g s st i) := by
  obtain ⟨n1, n2, n3, n4, n5, n6⟩ := next_eq h hk0 hk hr.b hi hl
  obtain ⟨f1, f2, f3, f4, f5⟩ := stop_facts h hi
  obtain ⟨h6, hg, hrow, _, _, _⟩ := roundOk_rows h
  have hb := hr.b'
  have hrl := hr.l
  have hrp := hr.p
  refine ⟨⟨hb.e0, hb.e1, hb.p0, hb.p1, by have := hb.l0; omega, by have := hb.l1; omega⟩, n5, fun q q1 q2 => ?_, by rw [n1]; omega, by rw [n3]; omega⟩
  have ht := hr.t (i + 1) (by omega) (by omega)
  have hp0 := hb.p0
  have hp1 := hb.p1
  have t1 := lg_facts h (p := st'.2.2.2.2.2) (q := i + 1) ⟨hp0, hp1⟩ (by omega)
  have t2 := lg_facts h (p := i + 1) (q := q) (by omega) (by omega)
  have htr : lg g st'.2.2.2.2.2 q ≤ lg g st'.2.2.2.2.2 (i + 1) + lg g (i + 1) q := by
    unfold tri at htri
    have a := (allFrom_iff _ _).1 htri st'.2.2.2.2.2.toNat (Nat.zero_le _) (by omega)
    have b := (allFrom_iff _ _).1 a q.toNat (Nat.zero_le _) (by omega)
    have c := (allFrom_iff _ _).1 b (i + 1).toNat (Nat.zero_le _) (by omega)
    unfold triAt at c
    rw [show rArith .add .i64 (leg g st'.2.2.2.2.2.toNat (i + 1).toNat) (leg g (i + 1).toNat q.toNat) = leg g st'.2.2.2.2.2.toNat (i + 1).toNat + leg g (i + 1).toNat q.toNat from add64 (by unfold lg at t1 t2; omega) (by unfold lg at t1 t2; omega)] at c
    have c : decide (leg g st'.2.2.2.2.2.toNat q.toNat > leg g st'.2.2.2.2.2.toNat (i + 1).toNat + leg g (i + 1).toNat q.toNat) = false := by simpa [rCmp] using c
    have := of_decide_eq_false c
    unfold lg; omega
  rw [n2, n4]; omega
theorem rel_go (h : roundOk a0 a1 g s = true) {c : Int} (hc : 0 ≤ c) : ∀ (o : List Int) (k : Int) (st' st fin : RSt), 0 ≤ k → k + o.length ≤ 1000000 → (∀ x, x ∈ o → 0 ≤ x ∧ x < (s.length : Int)) → Rel g s k c st' st → rideGo g s o st = .inl fin → ∃ fin', rideGo g s o st' = .inl fin' ∧ Rel g s (k + o.length) c fin' fin
  | [], k, st', st, fin, _, _, _, hr, hg => by
    injection hg with hg; subst hg
    exact ⟨st', rfl, by simpa using hr⟩
  | i :: o, k, st', st, fin, hk0, hk, hv, hr, hg => by
    rw [List.length_cons] at hk
    simp only [rideGo] at hg ⊢
    cases hl : late g s st i with
    | true => rw [hl] at hg; cases hg
    | false =>
      rw [hl] at hg
      obtain ⟨hl', hr'⟩ := rel_next h hk0 (by omega) hc hr (hv i (List.mem_cons_self ..)) hl
      obtain ⟨fin', h1, h2⟩ := rel_go h hc o (k + 1) _ _ fin (by omega) (by omega) (fun x hx => hv x (List.mem_cons_of_mem _ hx)) hr' hg
      rw [hl']
      refine ⟨fin', h1, ?_⟩
      have e : k + ((i :: o).length : Int) = k + 1 + (o.length : Int) := by rw [List.length_cons]; omega
      rw [e]; exact h2
theorem go_app (g : List (List Int)) (s : List Stp) : ∀ (P S : List Int) (st : RSt), rideGo g s (P ++ S) st = match rideGo g s P st with | .inl st' => rideGo g s S st' | .inr st' => .inr st'
  | [], S, st => rfl
  | i :: P, S, st => by
    simp only [List.cons_append, rideGo]
    cases late g s st i with
    | true => rfl
    | false => exact go_app g s P S _
theorem load_acc (h : roundOk a0 a1 g s = true) : ∀ (o : List Int) (acc k : Int), 0 ≤ k → k + o.length ≤ 1000000 → 0 ≤ acc → acc ≤ 1000 * k → (∀ x, x ∈ o → 0 ≤ x ∧ x < (s.length : Int)) → o.foldl (load1 s) acc = acc + (o.map fun i => (rGet zIIIII s i).2.2.2.1).sum ∧ 0 ≤ o.foldl (load1 s) acc ∧ o.foldl (load1 s) acc ≤ 1000 * (k + o.length)
  | [], acc, k, _, _, h0, h1, _ => by simp; omega
  | i :: o, acc, k, hk0, hk, h0, h1, hv => by
    have f4 := (stop_facts h (hv i (List.mem_cons_self ..))).2.2.2.1
    rw [List.length_cons] at hk
    have e : load1 s acc i = acc + (rGet zIIIII s i).2.2.2.1 := add64 (by omega) (by omega)
    obtain ⟨r1, r2, r3⟩ := load_acc h o (acc + (rGet zIIIII s i).2.2.2.1) (k + 1) (by omega) (by omega) (by omega) (by omega) (fun x hx => hv x (List.mem_cons_of_mem _ hx))
    rw [List.foldl_cons, e]
    refine ⟨by rw [r1]; simp; omega, r2, ?_⟩
    rw [List.length_cons]
    have : k + 1 + (o.length : Int) = k + ((o.length + 1 : Nat) : Int) := by omega
    rw [← this]; exact r3
/-- A ride without one of its stops. -/
theorem ride_less {P S : List Int} {q : Int} {b : List Int} {e p w : Int} (htri : tri g = true) (hlen : (P ++ q :: S).length ≤ 1000) (hr : ride a0 a1 g s (P ++ q :: S) = some (b, e, p, w)) : ∃ b' e' p' w', ride a0 a1 g s (P ++ S) = some (b', e', p', w') ∧ e' ≤ e := by
  unfold ride at hr
  cases hok : orderOk a0 a1 g s (P ++ q :: S) with
  | false => rw [hok] at hr; cases hr
  | true =>
    rw [hok] at hr
    simp only [cond_true] at hr
    obtain ⟨h, hv, hnd⟩ := orderOk_iff.1 hok
    obtain ⟨h6, hg6, hrow, _, ha0, ha1⟩ := roundOk_rows h
    have hsub : (P ++ S).Sublist (P ++ q :: S) := List.Sublist.append (List.Sublist.refl _) (List.sublist_cons_self q S)
    have hok' : orderOk a0 a1 g s (P ++ S) = true := orderOk_iff.2 ⟨h, fun x hx => hv x (hsub.subset hx), hnd.sublist hsub⟩
    have hq := hv q (by simp)
    simp only [List.length_append, List.length_cons] at hlen
    cases hgo : rideGo g s (P ++ q :: S) (start a0 s (P ++ q :: S)) with
    | inr st => rw [hgo] at hr; cases hr
    | inl fin =>
      rw [hgo] at hr
      simp only [] at hr
      cases hpk : rCmp .gtr fin.2.2.2.1 a1 with
      | true => rw [hpk] at hr; cases hr
      | false =>
        rw [hpk] at hr
        simp only [cond_false, Option.some.injEq, Prod.mk.injEq] at hr
        obtain ⟨_, he, _, _⟩ := hr
        obtain ⟨u1, u2, u3⟩ := load_acc h (P ++ q :: S) 0 0 (by omega) (by simp; omega) (by omega) (by omega) hv
        obtain ⟨v1, v2, v3⟩ := load_acc h (P ++ S) 0 0 (by omega) (by simp; omega) (by omega) (by omega) (fun x hx => hv x (hsub.subset hx))
        have hld : load0 s (P ++ S) = load0 s (P ++ q :: S) - (rGet zIIIII s q).2.2.2.1 := by
          unfold load0
          rw [u1, v1]; simp; omega
        have fq := (stop_facts h hq).2.2.2.1
        have hrel : Rel g s 1000 (rGet zIIIII s q).2.2.2.1 (start a0 s (P ++ S)) (start a0 s (P ++ q :: S)) := by
          simp only [List.length_append, List.length_cons] at u3 v3
          refine ⟨⟨ha0.1, by show a0 ≤ 20200; omega, Int.le_refl _, by show (0 : Int) ≤ _; omega, by show _ ≤ load0 s (P ++ S); unfold load0; omega, by show load0 s (P ++ S) ≤ _; unfold load0; omega⟩, ⟨ha0.1, by show a0 ≤ 20200; omega, Int.le_refl _, by show (0 : Int) ≤ _; omega, by show _ ≤ load0 s (P ++ q :: S); unfold load0; omega, by show load0 s (P ++ q :: S) ≤ _; unfold load0; omega⟩, fun t _ _ => Int.le_refl _, by show load0 s (P ++ S) ≤ load0 s (P ++ q :: S) - _; omega, by show load0 s (P ++ S) ≤ load0 s (P ++ q :: S); omega⟩
        rw [go_app] at hgo
        cases hP : rideGo g s P (start a0 s (P ++ q :: S)) with
        | inr st => rw [hP] at hgo; cases hgo
        | inl st =>
          rw [hP] at hgo
          simp only [rideGo] at hgo
          obtain ⟨st', k1, k2⟩ := rel_go h fq.1 P 1000 _ _ st (by omega) (by omega) (fun x hx => hv x (List.mem_append_left _ hx)) hrel hP
          cases hl : late g s st q with
          | true => rw [hl] at hgo; cases hgo
          | false =>
            rw [hl] at hgo
            have k3 := rel_skip h htri (by omega) (by omega) hq k2 hl
            obtain ⟨fin', m1, m2⟩ := rel_go h (Int.le_refl 0) S _ _ _ fin (by omega) (by omega) (fun x hx => hv x (by simp [hx])) k3 hgo
            have hgo' : rideGo g s (P ++ S) (start a0 s (P ++ S)) = .inl fin' := by rw [go_app, k1]; exact m1
            have hp' := m2.p
            have hpk' : rCmp .gtr fin'.2.2.2.1 a1 = false := by
              have := of_decide_eq_false hpk
              exact decide_eq_false (by omega)
            refine ⟨_, _, _, _, by unfold ride; rw [hok', hgo']; simp only [cond_true, hpk', cond_false]; rfl, ?_⟩
            have ht := m2.t 0 (by omega) (by omega)
            have fl := lg_facts h (p := fin.2.2.2.2.2) (q := 0) ⟨m2.b.p0, m2.b.p1⟩ (by omega)
            have fl' := lg_facts h (p := fin'.2.2.2.2.2) (q := 0) ⟨m2.b'.p0, m2.b'.p1⟩ (by omega)
            have b1 := m2.b.e0
            have b2 := m2.b.e1
            have b3 := m2.b'.e0
            have b4 := m2.b'.e1
            have hhome : ∀ (o : List Int) (st : RSt), 0 ≤ st.2.2.1 → st.2.2.1 ≤ 20200 → 0 ≤ lg g st.2.2.2.2.2 0 → lg g st.2.2.2.2.2 0 ≤ 200 → home g o st = st.2.2.1 + lg g st.2.2.2.2.2 0 * min 1 (o.length : Int) := fun o st q1 q2 q3 q4 => by
              have hm : rMxmn false 1 (rLen o) = min 1 (o.length : Int) := by unfold rMxmn rLen; simp only [cond_false]; omega
              unfold home
              rw [hm]
              show rArith .add .i64 st.2.2.1 (rArith .mul .i64 (lg g st.2.2.2.2.2 0) _) = _
              have hmin : min 1 (o.length : Int) = 0 ∨ min 1 (o.length : Int) = 1 := by omega
              rcases hmin with e | e <;> rw [e]
              · rw [Int.mul_zero, mul64 (by omega) (by omega), Int.mul_zero, add64 (by omega) (by omega)]
              · rw [Int.mul_one, mul64 (by omega) (by omega), Int.mul_one, add64 (by omega) (by omega)]
            rw [← he, hhome _ _ b1 b2 fl.1 fl.2, hhome _ _ b3 b4 fl'.1 fl'.2]
            have e1 : min 1 ((P ++ q :: S).length : Int) = 1 := by simp only [List.length_append, List.length_cons]; omega
            have hmin : min 1 ((P ++ S).length : Int) = 0 ∨ min 1 ((P ++ S).length : Int) = 1 := by omega
            rw [e1]
            rcases hmin with e | e <;> rw [e] <;> omega
end
end Go.Fn
set_option linter.unusedSimpArgs false
set_option linter.unusedVariables false
namespace Go.Fn
open Go.R
theorem orders_all : (List.range 5).all (fun n => match spec_l07Orders [] [] (n : Int) with | some (L, ()) => decide (L.length ≤ 1000) && L.all (fun o => decide (o.length ≤ 4)) | none => false) = true := by decide +kernel
theorem orders_ok {n : Nat} (hn : n ≤ 4) : ∃ L, spec_l07Orders [] [] (n : Int) = some (L, ()) ∧ L.length ≤ 1000 ∧ ∀ o, o ∈ L → o.length ≤ 4 := by
  have h := List.all_eq_true.1 orders_all n (List.mem_range.2 (by omega))
  cases hq : spec_l07Orders [] [] (n : Int) with
  | none => rw [hq] at h; cases h
  | some p =>
    obtain ⟨L, u⟩ := p
    cases u
    rw [hq] at h
    simp only [Bool.and_eq_true, decide_eq_true_eq, List.all_eq_true] at h
    exact ⟨L, rfl, h.1, h.2⟩
section
variable {a0 a1 : Int} {g : List (List Int)} {s : List Stp}
/-- What MostRide answers can be ridden. -/
theorem best_loop (hro : roundOk a0 a1 g s = true) (L : List (List Int)) (hL : L.length ≤ 1000) (ho : ∀ o, o ∈ L → o.length ≤ 4) : ∀ (k n : Nat) (best : List Int) (e : Int) (f : Bool) (fu : Nat), L.length - n ≤ k → n ≤ L.length → best.length ≤ 4 → (f = true → (ride a0 a1 g s best).isSome = true) → k < fu →
    ∃ (best' : List Int) (e' : Int) (f' : Bool), iter (spec_l07Best_b0 ((0 : Int), a0, a1, g, s, ())) fu (best, e, f, L, (n : Int), ()) = some (.inl (best', e', f', ())) ∧ best'.length ≤ 4 ∧ (f' = true → (ride a0 a1 g s best').isSome = true) := by
  intro k
  induction k with
  | zero =>
    intro n best e f fu hk hn hb hf hfu
    obtain ⟨fu, rfl⟩ : ∃ m, fu = m + 1 := ⟨fu - 1, by omega⟩
    refine ⟨best, e, f, iter_done ?_, hb, hf⟩
    unfold spec_l07Best_b0
    simp only [lss_len, show ¬ (n < L.length) by omega, decide_false, cond_false]
  | succ k ih =>
    intro n best e f fu hk hn hb hf hfu
    obtain ⟨fu, rfl⟩ : ∃ m, fu = m + 1 := ⟨fu - 1, by omega⟩
    by_cases h : n < L.length
    · have hol := ho _ (getD_mem h zLIl)
      obtain ⟨y, hy, hm⟩ := specRide_eq a0 a1 g s (L.getD n zLIl) (by omega)
      have hneg : rCmp .lss (rLen (L.getD n zLIl)) (0 : Int) = false := neg_of (by unfold rLen; omega)
      have hstep : ∃ (b2 : List Int) (e2 : Int) (f2 : Bool), spec_l07Best_b0 ((0 : Int), a0, a1, g, s, ()) (best, e, f, L, (n : Int), ()) = some (.inl (b2, e2, f2, L, ((n + 1 : Nat) : Int), ())) ∧ b2.length ≤ 4 ∧ (f2 = true → (ride a0 a1 g s b2).isSome = true) := by
        unfold spec_l07Best_b0 spec_Ride
        simp only [lss_len, h, decide_true, cond_true, inR_nat, get_nat, hneg, cond_false, hy, Option.bind_some, succ64 (n := n) (by omega)]
        cases hr : ride a0 a1 g s (L.getD n zLIl) with
        | none =>
          rw [hr] at hm
          have hm : y.2.2.2.2.1 = false := hm
          simp only [hm, Bool.not_false, cond_true, cond_false, Option.bind_some]
          exact ⟨best, e, f, rfl, hb, hf⟩
        | some v =>
          obtain ⟨vb, ve, vp, vw⟩ := v
          rw [hr] at hm
          have hm : y = (vb, ve, vp, vw, true, ()) := hm
          subst hm
          simp only [Bool.not_true, cond_false, cond_true, Option.bind_some]
          have good : (L.getD n zLIl).length ≤ 4 ∧ (true = true → (ride a0 a1 g s (L.getD n zLIl)).isSome = true) := ⟨hol, fun _ => by rw [hr]; rfl⟩
          cases f with
          | false => exact ⟨_, _, _, rfl, good⟩
          | true =>
            simp only [Bool.not_true, cond_false]
            cases rCmp .gtr (rLen (L.getD n zLIl)) (rLen best) with
            | true => exact ⟨_, _, _, rfl, good⟩
            | false =>
              cases rCmp .eql (rLen (L.getD n zLIl)) (rLen best) with
              | false => exact ⟨_, _, _, rfl, hb, hf⟩
              | true =>
                cases rCmp .lss ve e with
                | true => exact ⟨_, _, _, rfl, good⟩
                | false => exact ⟨_, _, _, rfl, hb, hf⟩
      obtain ⟨b2, e2, f2, h1, h2, h3⟩ := hstep
      rw [iter_next h1]
      exact ih (n + 1) b2 e2 f2 fu (by omega) h h2 h3 (by omega)
    · refine ⟨best, e, f, iter_done ?_, hb, hf⟩
      unfold spec_l07Best_b0
      simp only [lss_len, h, decide_false, cond_false]
theorem ride_nil (hro : roundOk a0 a1 g s = true) : (ride a0 a1 g s []).isSome = true := by
  obtain ⟨_, _, _, _, _, ha1⟩ := roundOk_rows hro
  have hok : orderOk a0 a1 g s [] = true := orderOk_iff.2 ⟨hro, fun x hx => absurd hx List.not_mem_nil, List.Pairwise.nil⟩
  unfold ride
  rw [hok]
  have : rCmp .gtr (start a0 s []).2.2.2.1 a1 = false := decide_eq_false (by show ¬ ((0 : Int) > a1); omega)
  simp only [cond_true, rideGo, this, cond_false]
  rfl
theorem most_ok (hro : roundOk a0 a1 g s = true) (hs : s.length ≤ 4) : ∃ (o : List Int) (e : Int) (f : Bool), spec_MostRide a0 a1 g s = some (o, e, f, ()) ∧ o.length ≤ 4 ∧ (ride a0 a1 g s o).isSome = true := by
  obtain ⟨L, hL, h1, h2⟩ := orders_ok hs
  obtain ⟨b, e, f, k1, k2, k3⟩ := best_loop hro L h1 h2 L.length 0 [] 0 false big (by omega) (Nat.zero_le _) (Nat.zero_le _) (fun h => by cases h) (lt_big (by omega))
  unfold spec_MostRide spec_l07Best spec_l07Best_l0
  rw [specRound_eq, hro]
  have hL' : spec_l07Orders [] [] (rLen s) = some (L, ()) := hL
  simp only [Option.bind_some, Bool.not_true, cond_false, hL']
  rw [show (0 : Int) = ((0 : Nat) : Int) from rfl] at *
  rw [k1]
  simp only [Option.bind_some, Sum.elim_inl]
  cases f with
  | false => exact ⟨[], _, _, rfl, Nat.zero_le _, ride_nil hro⟩
  | true => exact ⟨b, _, _, rfl, k2, k3 rfl⟩
end
theorem roundOk_of {a0 a1 : Int} {g : List (List Int)} {s : List Stp} (h0 : 0 ≤ a0 ∧ a0 ≤ 20000) (h1 : 0 ≤ a1 ∧ a1 ≤ 1000) (hs : s.length ≤ 6) (hg : g.length = s.length + 1) (hr : ∀ r, r ∈ g → r.length = g.length ∧ ∀ x, x ∈ r → 0 ≤ x ∧ x ≤ 200) (ht : ∀ x, x ∈ s → stopOk x = true) : roundOk a0 a1 g s = true := by
  unfold roundOk
  rw [add64 (a := rLen s) (by unfold rLen; omega) (by unfold rLen; omega)]
  simp only [Bool.and_eq_true]
  refine ⟨inB_iff.2 h0, inB_iff.2 h1, ?_, ?_, (allFrom_iff _ _).2 fun m _ hm => ?_, (allFrom_iff _ _).2 fun m _ hm => ht _ (getD_mem (by omega) _)⟩
  · rw [Bool.not_eq_true']; exact decide_eq_false (by unfold rLen; omega)
  · rw [Bool.not_eq_true']
    have : rLen g = rLen s + 1 := by unfold rLen; omega
    rw [this]; simp [rCmp]
  · obtain ⟨r1, r2⟩ := hr _ (getD_mem (show m < g.length by omega) zLIl)
    unfold rowAt
    have : rCmp .neq (rLen (g.getD m zLIl)) (rLen g) = false := by unfold rLen; rw [r1]; simp [rCmp]
    rw [this]
    simp only [cond_false]
    refine (allFrom_iff _ _).2 fun q _ hq => ?_
    exact inB_iff.2 (r2 _ (getD_mem (by omega) zI))
theorem round_yl (b : List Int) (hb : b.length ≤ 1048576) (i h : Int) (hi : 0 ≤ i) : Yl (spec_l07Round b i h) fun y => roundOk y.1 y.2.1 y.2.2.1 y.2.2.2.1 = true ∧ y.2.2.2.1.length ≤ 4 := by
  unfold spec_l07Round
  refine (below_yl b hb i h 5 hi (by omega)).bind fun y0 ⟨a1, a2, a3, a4⟩ => ?_
  have a2 : y0.1 ≤ 4 := a2
  rw [a3]
  refine (below_yl b hb _ _ 40 a4 (by omega)).bind fun y1 ⟨b1, b2, b3, b4⟩ => ?_
  have b2 : y1.1 ≤ 39 := b2
  rw [b3]
  refine (pickInt_yl b hb _ _ [4, 8, 12, 20, 1000] b4 (by simp) (by simp)).bind fun y2 ⟨c1, c3, c4⟩ => ?_
  have c1 : 0 ≤ y2.1 ∧ y2.1 ≤ 1000 := by
    have : y2.1 = 4 ∨ y2.1 = 8 ∨ y2.1 = 12 ∨ y2.1 = 20 ∨ y2.1 = 1000 := by simpa using c1
    omega
  rw [c3]
  refine (once_yl b hb _ _ 2 c4 (by omega)).bind fun y3 ⟨d3, d4⟩ => ?_
  rw [d3]
  obtain ⟨n, hn⟩ : ∃ n : Nat, y0.1 = (n : Int) := ⟨y0.1.toNat, by omega⟩
  rw [hn] at a2 ⊢
  generalize y1.1 = bg at b1 b2 ⊢
  generalize y2.1 = rm at c1 ⊢
  generalize y3.1 = flat
  -- the places
  have hl0 : Yl (spec_l07Round_l0 ((n : Int), flat, ()) (b, y3.2.2.1, y3.2.2.2.1, 0, 0, [], [], bg, rm, [], [], [], 0, ())) fun q => ∃ (i h : Int) (pl : List Int), 0 ≤ i ∧ pl.length = n + 1 ∧ (∀ x, x ∈ pl → 0 ≤ x ∧ x ≤ 8) ∧ q = .inl (b, i, h, 0, 0, [], [], bg, rm, [], [], pl, ()) := by
    unfold spec_l07Round_l0
    refine Yl.loop (fun x => ∃ (i h : Int) (pl : List Int), 0 ≤ i ∧ pl.length ≤ n + 1 ∧ (∀ x, x ∈ pl → 0 ≤ x ∧ x ≤ 8) ∧ x = (b, i, h, 0, 0, [], [], bg, rm, [], [], pl, (pl.length : Int), ())) (fun x => n + 1 - x.2.2.2.2.2.2.2.2.2.2.2.1.length) (fun x hx => ?_) big _ ⟨_, _, [], d4, Nat.zero_le _, fun x hx => absurd hx List.not_mem_nil, rfl⟩ (lt_big (by show n + 1 - 0 < _; omega))
    obtain ⟨i, h, pl, x1, x2, x3, rfl⟩ := hx
    unfold spec_l07Round_b0
    refine .cond (fun h1 => ?_) fun h1 => ?_
    · have h1 : (pl.length : Int) ≤ n := of_decide_eq_true h1
      refine (below_yl b hb _ _ 9 x1 (by omega)).bind fun z ⟨e1, e2, e3, e4⟩ => ?_
      have e2 : z.1 ≤ 8 := e2
      refine .guard (small_of (by simp; omega)) (.ret ⟨⟨z.2.2.1, z.2.2.2.1, pl ++ [z.1], e4, by simp; omega, fun x hx => ?_, ?_⟩, ?_⟩)
      · rcases List.mem_append.1 hx with hx | hx
        · exact x3 x hx
        · rw [List.mem_singleton] at hx; subst hx; exact ⟨e1, e2⟩
      · rw [e3, succ64 (n := pl.length) (by omega), List.length_append]; rfl
      · show n + 1 - (pl ++ [z.1]).length < n + 1 - pl.length
        rw [List.length_append]; simp; omega
    · have h1 : ¬ ((pl.length : Int) ≤ n) := of_decide_eq_false h1
      exact .ret ⟨i, h, pl, x1, by omega, x3, rfl⟩
  refine hl0.bind fun q hq => ?_
  obtain ⟨i1, h1, pl, p1, p2, p3, rfl⟩ := hq
  simp only [Sum.elim_inl]
  -- a row
  have hrow : ∀ (i h : Int) (lgs : List (List Int)) (r : Nat), 0 ≤ i → r ≤ n → Yl (spec_l07Round_l4 ((n : Int), flat, (r : Int), ()) (b, i, h, 0, 0, [], [], bg, rm, lgs, [], pl, [], 0, ())) fun q => ∃ (i h : Int) (row : List Int), 0 ≤ i ∧ row.length = n + 1 ∧ (∀ x, x ∈ row → 0 ≤ x ∧ x ≤ 200) ∧ q = .inl (b, i, h, 0, 0, [], [], bg, rm, lgs, [], pl, row, ()) := by
    intro i h lgs r hi hr
    unfold spec_l07Round_l4
    refine Yl.loop (fun x => ∃ (i h : Int) (row : List Int), 0 ≤ i ∧ row.length ≤ n + 1 ∧ (∀ x, x ∈ row → 0 ≤ x ∧ x ≤ 200) ∧ x = (b, i, h, 0, 0, [], [], bg, rm, lgs, [], pl, row, (row.length : Int), ())) (fun x => n + 1 - x.2.2.2.2.2.2.2.2.2.2.2.2.1.length) (fun x hx => ?_) big _ ⟨_, _, [], hi, Nat.zero_le _, fun x hx => absurd hx List.not_mem_nil, rfl⟩ (lt_big (by show n + 1 - 0 < _; omega))
    obtain ⟨i, h, row, x1, x2, x3, rfl⟩ := hx
    unfold spec_l07Round_b4
    refine .cond (fun h1 => ?_) fun h1 => ?_
    · have h1 : (row.length : Int) ≤ n := of_decide_eq_true h1
      have m1 := p3 _ (getD_mem (show r < pl.length by omega) zI)
      have m2 := p3 _ (getD_mem (show row.length < pl.length by omega) zI)
      refine .guard (inR_lt (show r < pl.length by omega)) (.guard (inR_lt (show row.length < pl.length by omega)) (.guard (inR_lt (show row.length < pl.length by omega)) (.guard (inR_lt (show r < pl.length by omega)) (.lets ?_))))
      simp only [get_nat]
      refine .cond (fun _ => ?_) fun _ => ?_
      · refine (below_yl b hb _ _ 9 x1 (by omega)).bind fun z ⟨e1, e2, e3, e4⟩ => ?_
        have e2 : z.1 ≤ 8 := e2
        refine .guard (small_of (by simp; omega)) (.ret ⟨⟨z.2.2.1, z.2.2.2.1, row ++ [z.1], e4, by simp; omega, fun x hx => ?_, ?_⟩, ?_⟩)
        · rcases List.mem_append.1 hx with hx | hx
          · exact x3 x hx
          · rw [List.mem_singleton] at hx; subst hx; omega
        · rw [e3, succ64 (n := row.length) (by omega), List.length_append]; rfl
        · show n + 1 - (row ++ [z.1]).length < n + 1 - row.length
          rw [List.length_append]; simp; omega
      · have hv : 0 ≤ rMxmn true (rArith .sub .i64 (pl.getD r zI) (pl.getD row.length zI)) (rArith .sub .i64 (pl.getD row.length zI) (pl.getD r zI)) ∧ rMxmn true (rArith .sub .i64 (pl.getD r zI) (pl.getD row.length zI)) (rArith .sub .i64 (pl.getD row.length zI) (pl.getD r zI)) ≤ 200 := by
          rw [sub64 (by omega) (by omega), sub64 (by omega) (by omega), maxT]; omega
        generalize rMxmn true (rArith .sub .i64 (pl.getD r zI) (pl.getD row.length zI)) (rArith .sub .i64 (pl.getD row.length zI) (pl.getD r zI)) = v at hv ⊢
        refine .guard (small_of (by simp; omega)) (.ret ⟨⟨i, h, row ++ [v], x1, by simp; omega, fun x hx => ?_, ?_⟩, ?_⟩)
        · rcases List.mem_append.1 hx with hx | hx
          · exact x3 x hx
          · rw [List.mem_singleton] at hx; subst hx; exact hv
        · rw [succ64 (n := row.length) (by omega), List.length_append]; rfl
        · show n + 1 - (row ++ [v]).length < n + 1 - row.length
          rw [List.length_append]; simp; omega
    · have h1 : ¬ ((row.length : Int) ≤ n) := of_decide_eq_false h1
      exact .ret ⟨i, h, row, x1, by omega, x3, rfl⟩
  -- the rows
  have hl2 : Yl (spec_l07Round_l2 ((n : Int), flat, ()) (b, i1, h1, 0, 0, [], [], bg, rm, [], [], pl, 0, ())) fun q => ∃ (i h : Int) (lgs : List (List Int)), 0 ≤ i ∧ lgs.length = n + 1 ∧ (∀ r, r ∈ lgs → r.length = n + 1 ∧ ∀ x, x ∈ r → 0 ≤ x ∧ x ≤ 200) ∧ q = .inl (b, i, h, 0, 0, [], [], bg, rm, lgs, [], ()) := by
    unfold spec_l07Round_l2
    refine Yl.loop (fun x => ∃ (i h : Int) (lgs : List (List Int)), 0 ≤ i ∧ lgs.length ≤ n + 1 ∧ (∀ r, r ∈ lgs → r.length = n + 1 ∧ ∀ x, x ∈ r → 0 ≤ x ∧ x ≤ 200) ∧ x = (b, i, h, 0, 0, [], [], bg, rm, lgs, [], pl, (lgs.length : Int), ())) (fun x => n + 1 - x.2.2.2.2.2.2.2.2.2.1.length) (fun x hx => ?_) big _ ⟨_, _, [], p1, Nat.zero_le _, fun x hx => absurd hx List.not_mem_nil, rfl⟩ (lt_big (by show n + 1 - 0 < _; omega))
    obtain ⟨i, h, lgs, x1, x2, x3, rfl⟩ := hx
    unfold spec_l07Round_b2
    refine .cond (fun h1 => ?_) fun h1 => ?_
    · have h1 : (lgs.length : Int) ≤ n := of_decide_eq_true h1
      refine (hrow i h lgs lgs.length x1 (by omega)).bind fun q hq => ?_
      obtain ⟨i2, h2, row, r1, r2, r3, rfl⟩ := hq
      simp only [Sum.elim_inl]
      refine .guard (small_of (by simp; omega)) (.ret ⟨⟨i2, h2, lgs ++ [row], r1, by simp; omega, fun r hr => ?_, ?_⟩, ?_⟩)
      · rcases List.mem_append.1 hr with hr | hr
        · exact x3 r hr
        · rw [List.mem_singleton] at hr; subst hr; exact ⟨r2, r3⟩
      · rw [succ64 (n := lgs.length) (by omega), List.length_append]; rfl
      · show n + 1 - (lgs ++ [row]).length < n + 1 - lgs.length
        rw [List.length_append]; simp; omega
    · have h1 : ¬ ((lgs.length : Int) ≤ n) := of_decide_eq_false h1
      exact .ret ⟨i, h, lgs, x1, by omega, x3, rfl⟩
  refine hl2.bind fun q hq => ?_
  obtain ⟨i2, h2, lgs, q1, q2, q3, rfl⟩ := hq
  simp only [Sum.elim_inl]
  -- the stops
  have hl6 : Yl (spec_l07Round_l6 ((n : Int), ()) (b, i2, h2, 0, 0, [], [], bg, rm, lgs, [], 0, ())) fun q => ∃ (i h : Int) (st : List Stp), st.length = n ∧ (∀ x, x ∈ st → stopOk x = true) ∧ q = .inl (b, i, h, 0, 0, [], [], bg, rm, lgs, st, ()) := by
    unfold spec_l07Round_l6
    refine Yl.loop (fun x => ∃ (i h : Int) (st : List Stp), 0 ≤ i ∧ st.length ≤ n ∧ (∀ x, x ∈ st → stopOk x = true) ∧ x = (b, i, h, 0, 0, [], [], bg, rm, lgs, st, (st.length : Int), ())) (fun x => n - x.2.2.2.2.2.2.2.2.2.2.1.length) (fun x hx => ?_) big _ ⟨_, _, [], q1, Nat.zero_le _, fun x hx => absurd hx List.not_mem_nil, rfl⟩ (lt_big (by show n - 0 < _; omega))
    obtain ⟨i, h, st, x1, x2, x3, rfl⟩ := hx
    unfold spec_l07Round_b6
    refine .cond (fun h1 => ?_) fun h1 => ?_
    · have h1 : (st.length : Int) < n := of_decide_eq_true h1
      refine (below_yl b hb _ _ 50 x1 (by omega)).bind fun z0 ⟨e1, e2, e3, e4⟩ => ?_
      have e2 : z0.1 ≤ 49 := e2
      rw [e3]
      refine (below_yl b hb _ _ 60 e4 (by omega)).bind fun z1 ⟨f1, f2, f3, f4⟩ => ?_
      have f2 : z1.1 ≤ 59 := f2
      rw [f3]
      refine (below_yl b hb _ _ 4 f4 (by omega)).bind fun z2 ⟨g1, g2, g3, g4⟩ => ?_
      have g2 : z2.1 ≤ 3 := g2
      rw [g3]
      refine (below_yl b hb _ _ 6 g4 (by omega)).bind fun z3 ⟨k1, k2, k3, k4⟩ => ?_
      have k2 : z3.1 ≤ 5 := k2
      rw [k3]
      refine (below_yl b hb _ _ 6 k4 (by omega)).bind fun z4 ⟨l1, l2, l3, l4⟩ => ?_
      have l2 : z4.1 ≤ 5 := l2
      have ha : rArith .add .i64 (rArith .add .i64 z0.1 10) z1.1 = z0.1 + 10 + z1.1 := by rw [add64 (a := z0.1) (by omega) (by omega), add64 (by omega) (by omega)]
      rw [ha]
      refine .guard (small_of (by simp; omega)) (.ret ⟨⟨z4.2.2.1, z4.2.2.2.1, st ++ [(z0.1, z0.1 + 10 + z1.1, z2.1, z3.1, z4.1)], l4, by simp; omega, fun x hx => ?_, ?_⟩, ?_⟩)
      · rcases List.mem_append.1 hx with hx | hx
        · exact x3 x hx
        · rw [List.mem_singleton] at hx
          subst hx
          unfold stopOk
          simp only [Bool.and_eq_true, inB_iff, Bool.not_eq_true']
          exact ⟨by omega, by omega, decide_eq_false (by omega), by omega, by omega, by omega⟩
      · rw [l3, succ64 (n := st.length) (by omega), List.length_append]; rfl
      · show n - (st ++ [_]).length < n - st.length
        rw [List.length_append]; simp; omega
    · have h1 : ¬ ((st.length : Int) < n) := of_decide_eq_false h1
      exact .ret ⟨i, h, st, by omega, x3, rfl⟩
  refine hl6.bind fun q hq => ?_
  obtain ⟨i3, h3, st, s1, s2, rfl⟩ := hq
  refine .ret ⟨roundOk_of (show 0 ≤ bg ∧ bg ≤ 20000 by omega) c1 (by show st.length ≤ 6; omega) (by show lgs.length = st.length + 1; omega) (fun r hr => ?_) s2, by show st.length ≤ 4; omega⟩
  obtain ⟨r1, r2⟩ := q3 r hr
  exact ⟨by rw [r1, q2], r2⟩
theorem drawRound_yl (b : List Int) (hb : b.length ≤ 1048576) : Yl (spec_DrawRound b) fun y => roundOk y.1 y.2.1 y.2.2.1 y.2.2.2.1 = true ∧ y.2.2.2.1.length ≤ 4 := by
  unfold spec_DrawRound
  refine (new_yl b hb).bind fun y0 ⟨h1, h2⟩ => ?_
  rw [h1]
  exact (round_yl b hb _ _ (by omega)).bind fun y1 h => .ret h
theorem triangles_true (code : List Int) : laws_FnTriangles code = some (true, ()) := by
  unfold laws_FnTriangles laws_big
  simp only [Option.bind_some]
  cases hbig : rCmp .gtr (rLen code) 1048576 with
  | true => rfl
  | false =>
    have hb : code.length ≤ 1048576 := by
      have : ¬ ((1048576 : Int) < (code.length : Int)) := of_decide_eq_false hbig
      omega
    simp only [cond_false]
    obtain ⟨⟨a0, a1, g, s, u⟩, he, hro, hs4⟩ := drawRound_yl code hb
    rw [he]
    have hro : roundOk a0 a1 g s = true := hro
    have hs4 : s.length ≤ 4 := hs4
    obtain ⟨_, hg, hrow, _, _, _⟩ := roundOk_rows hro
    have hgr : ∀ r ∈ g, r.length ≤ 1073741824 := fun r hr => by
      obtain ⟨m, hm, rfl⟩ := List.getElem_of_mem hr
      have := (hrow m hm).1
      rw [List.getD_eq_getElem?_getD, List.getElem?_eq_getElem hm] at this
      simp only [Option.getD_some] at this
      omega
    obtain ⟨o, e, f, hm, ho, hrd⟩ := most_ok hro hs4
    obtain ⟨⟨rb, re, rp, rw'⟩, hride⟩ := Option.isSome_iff_exists.1 hrd
    simp only [Option.bind_some, hm, implTri_eq a0 a1 g s hgr, specTri_eq, impl_Ride, implRide_eq a0 a1 g s o hgr (by omega), hride, rBeq_self, Bool.not_true, cond_false, hro, Bool.true_and]
    cases ht : tri g with
    | false =>
      have hloop : laws_FnTriangles_l0 (o, false, re, ()) (a0, a1, g, s, (0 : Int), ()) = some (.inr (.inl ())) := by
        refine iter_mono (n := 1) (iter_done ?_) (Nat.le_of_lt (lt_big (by omega)))
        unfold laws_FnTriangles_b0
        simp only [cond_false]
        cases rCmp .lss (0 : Int) (rLen o) <;> rfl
      rw [hloop]; rfl
    | true =>
      have hloop : laws_FnTriangles_l0 (o, true, re, ()) (a0, a1, g, s, (0 : Int), ()) = some (.inr (.inl ())) := by
        refine loop_end (body := laws_FnTriangles_b0 (o, true, re, ())) (fun n => (a0, a1, g, s, (n : Int), ())) o.length (by omega) _ (fun n hn => ?_) ?_
        · have hsplit : o = o.take n ++ o.getD n zI :: o.drop (n + 1) := by
            rw [← drop_getD hn zI, List.take_append_drop]
          have hr2 := hride
          rw [hsplit] at hr2
          obtain ⟨b', e', p', w', h1, h2⟩ := ride_less ht (by rw [← hsplit]; omega) hr2
          have hl1 : (o.take n ++ o.drop (n + 1)).length ≤ 4 := by rw [List.length_append, List.length_take, List.length_drop]; omega
          have s1 : rSubOk o (0 : Int) (n : Int) = true := subOk_take (by omega)
          have s2 : rSubOk o ((n + 1 : Nat) : Int) (rLen o) = true := by
            unfold rSubOk rLen
            simp only [Bool.and_eq_true, decide_eq_true_eq]
            omega
          have t1 : rSub o (0 : Int) (n : Int) = o.take n := sub_take o n
          have t2 : rSub o ((n + 1 : Nat) : Int) (rLen o) = o.drop (n + 1) := by unfold rSub rLen; rw [Int.toNat_natCast, Int.toNat_natCast]; exact List.take_of_length_le (by simp)
          have ap1 : List.append (α := Int) ([] : List Int) (o.take n) = o.take n := rfl
          have ap2 : List.append (α := Int) (o.take n) (o.drop (n + 1)) = o.take n ++ o.drop (n + 1) := rfl
          have k1 : rSmall (o.take n) = true := small_of (by rw [List.length_take]; omega)
          have k2 : rSmall (o.take n ++ o.drop (n + 1)) = true := small_of (by omega)
          have hle : rCmp .gtr e' re = false := decide_eq_false (by omega)
          unfold laws_FnTriangles_b0
          simp only [lss_len, hn, decide_true, cond_true, s1, t1, ap1, k1, succ64 (n := n) (by omega), s2, t2, ap2, k2, impl_Ride, implRide_eq a0 a1 g s (o.take n ++ o.drop (n + 1)) hgr (by omega), h1, Option.bind_some, Bool.not_true, cond_false, hle]
        · unfold laws_FnTriangles_b0
          simp only [lss_len, Nat.lt_irrefl, decide_false, cond_false]
      rw [hloop]; rfl
end Go.Fn
