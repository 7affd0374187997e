import Derived.Test.YtnadnafggjopmaaRD
import Derived.Sort.AssemblyPlain
/- Plain functions that stand for Go functions, and what they answer. Conditions: none. -/
set_option autoImplicit false
set_option linter.unusedVariables false
set_option linter.unusedSimpArgs false
set_option linter.unusedVariables false
namespace Go.Fn
open Go.R
def zIIIIIII : Int × Int × Int × Int × Int × Int × Int := ((0 : Int), (0 : Int), (0 : Int), (0 : Int), (0 : Int), (0 : Int), (0 : Int))
def laws_toEvent (a0 : Int) (a1 : Int) (a2 : Int) (a3 : Int) (a4 : Int) (a5 : Int) (a6 : Int) : Option (Int × Int × Int × Int × Int × Int × Int × Unit) :=
  some (a0, a1, a2, a3, a4, a5, a6, ())
def spec_l01In (a0 : Int) (a1 : Int) (a2 : Int) : Option (Bool × Unit) :=
  (bif (rCmp .geq a0 a1) then some ((rCmp .leq a0 a2), ()) else some (false, ()))
def spec_EventOk (a0 : Int) (a1 : Int) (a2 : Int) (a3 : Int) (a4 : Int) (a5 : Int) (a6 : Int) : Option (Bool × Unit) :=
  ((spec_l01In a0 (0 : Int) (5 : Int)).bind fun y0 => (bif y0.1 then ((spec_l01In a1 (1 : Int) (999 : Int)).bind fun y1 => (bif y1.1 then ((spec_l01In a2 (1 : Int) (100000 : Int)).bind fun y2 => (bif y2.1 then ((spec_l01In a3 (1 : Int) (4 : Int)).bind fun y3 => (bif y3.1 then ((spec_l01In a4 (1 : Int) (999 : Int)).bind fun y4 => (bif y4.1 then ((spec_l01In a5 (0 : Int) (20000 : Int)).bind fun y5 => (bif y5.1 then ((spec_l01In a6 (0 : Int) (20000 : Int)).bind fun y6 => some (y6.1, ())) else some (false, ()))) else some (false, ()))) else some (false, ()))) else some (false, ()))) else some (false, ()))) else some (false, ())))
def impl_within (a0 : Int) (a1 : Int) (a2 : Int) : Option (Bool × Unit) :=
  (bif (rCmp .geq a0 a1) then some ((rCmp .leq a0 a2), ()) else some (false, ()))
def impl_timeOk (a0 : Int) : Option (Bool × Unit) :=
  ((impl_within a0 (0 : Int) (20000 : Int)).bind fun y0 => some (y0.1, ()))
def impl_EventOk (a0 : Int) (a1 : Int) (a2 : Int) (a3 : Int) (a4 : Int) (a5 : Int) (a6 : Int) : Option (Bool × Unit) :=
  ((impl_within a0 (0 : Int) (5 : Int)).bind fun y0 => (bif y0.1 then ((impl_within a1 (1 : Int) (999 : Int)).bind fun y1 => (bif y1.1 then ((impl_within a2 (1 : Int) (100000 : Int)).bind fun y2 => (bif y2.1 then ((impl_within a3 (1 : Int) (4 : Int)).bind fun y3 => (bif y3.1 then ((impl_within a4 (1 : Int) (999 : Int)).bind fun y4 => (bif y4.1 then ((impl_timeOk a5).bind fun y5 => (bif y5.1 then ((impl_timeOk a6).bind fun y6 => some (y6.1, ())) else some (false, ()))) else some (false, ()))) else some (false, ()))) else some (false, ()))) else some (false, ()))) else some (false, ())))
def laws_szEventS (a0 : (List (Int × Int × Int × Int × Int × Int × Int))) (a1 : Int) : Option (Int × Unit) :=
  (bif (rCmp .lss (rArith .sub .i64 a1 (rLen a0)) (0 : Int)) then some ((-1 : Int), ()) else some ((rArith .sub .i64 a1 (rLen a0)), ()))
def laws_toEventS_b0 (k : (List (Int × Int × Int × Int × Int × Int × Int)) × Unit) (x : (List (Int × Int × Int × Int × Int × Int × Int)) × Int × Unit) : Option (((List (Int × Int × Int × Int × Int × Int × Int)) × Int × Unit) ⊕ ((List (Int × Int × Int × Int × Int × Int × Int)) × Unit ⊕ Empty)) :=
  (bif (rCmp .lss x.2.1 (rLen k.1)) then (bif (rInR k.1 x.2.1) then ((laws_toEvent (rGet zIIIIIII k.1 x.2.1).1 (rGet zIIIIIII k.1 x.2.1).2.1 (rGet zIIIIIII k.1 x.2.1).2.2.1 (rGet zIIIIIII k.1 x.2.1).2.2.2.1 (rGet zIIIIIII k.1 x.2.1).2.2.2.2.1 (rGet zIIIIIII k.1 x.2.1).2.2.2.2.2.1 (rGet zIIIIIII k.1 x.2.1).2.2.2.2.2.2).bind fun y0 => (bif (rInR x.1 x.2.1) then some (.inl ((rPut x.1 x.2.1 (y0.1, y0.2.1, y0.2.2.1, y0.2.2.2.1, y0.2.2.2.2.1, y0.2.2.2.2.2.1, y0.2.2.2.2.2.2.1)), (rArith .add .i64 x.2.1 (1 : Int)), ())) else none)) else none) else some (.inr (.inl (x.1, ()))))
def laws_toEventS_l0 (k : (List (Int × Int × Int × Int × Int × Int × Int)) × Unit) (x : (List (Int × Int × Int × Int × Int × Int × Int)) × Int × Unit) : Option ((List (Int × Int × Int × Int × Int × Int × Int)) × Unit ⊕ Empty) := iter (laws_toEventS_b0 k) big x
def laws_toEventS (a0 : (List (Int × Int × Int × Int × Int × Int × Int))) : Option ((List (Int × Int × Int × Int × Int × Int × Int)) × Unit) :=
  (bif (rRepOk (rLen a0)) then ((laws_toEventS_l0 (a0, ()) ((rRep (rLen a0) ((0 : Int), (0 : Int), (0 : Int), (0 : Int), (0 : Int), (0 : Int), (0 : Int))), (0 : Int), ())).bind fun q0 => (Sum.elim (fun y1 => some (y1.1, ())) (fun q2 => (Empty.elim q2)) q0)) else none)
def spec_JournalOk_b0 (k : (List (Int × Int × Int × Int × Int × Int × Int)) × Unit) (x : Int × Unit) : Option ((Int × Unit) ⊕ (Bool × Unit ⊕ (Unit ⊕ Empty))) :=
  (bif (rCmp .lss x.1 (rLen k.1)) then (bif (rInR k.1 x.1) then ((spec_EventOk (rGet zIIIIIII k.1 x.1).1 (rGet zIIIIIII k.1 x.1).2.1 (rGet zIIIIIII k.1 x.1).2.2.1 (rGet zIIIIIII k.1 x.1).2.2.2.1 (rGet zIIIIIII k.1 x.1).2.2.2.2.1 (rGet zIIIIIII k.1 x.1).2.2.2.2.2.1 (rGet zIIIIIII k.1 x.1).2.2.2.2.2.2).bind fun y0 => (bif (Bool.not y0.1) then some (.inr (.inl (false, ()))) else (bif (rCmp .gtr x.1 (0 : Int)) then (bif (rInR k.1 (rArith .sub .i64 x.1 (1 : Int))) then (bif (rCmp .lss (rGet zIIIIIII k.1 x.1).1 (rGet zIIIIIII k.1 (rArith .sub .i64 x.1 (1 : Int))).1) then some (.inr (.inl (false, ()))) else (bif (rCmp .gtr x.1 (0 : Int)) then (bif (rInR k.1 (rArith .sub .i64 x.1 (1 : Int))) then (bif (rCmp .eql (rGet zIIIIIII k.1 x.1).1 (rGet zIIIIIII k.1 (rArith .sub .i64 x.1 (1 : Int))).1) then (bif (rInR k.1 (rArith .sub .i64 x.1 (1 : Int))) then (bif (rCmp .leq (rGet zIIIIIII k.1 x.1).2.1 (rGet zIIIIIII k.1 (rArith .sub .i64 x.1 (1 : Int))).2.1) then some (.inr (.inl (false, ()))) else (bif (rInR k.1 (rArith .sub .i64 x.1 (1 : Int))) then (bif (rCmp .leq (rGet zIIIIIII k.1 x.1).2.2.1 (rGet zIIIIIII k.1 (rArith .sub .i64 x.1 (1 : Int))).2.2.1) then some (.inr (.inl (false, ()))) else some (.inl ((rArith .add .i64 x.1 (1 : Int)), ()))) else none)) else none) else some (.inl ((rArith .add .i64 x.1 (1 : Int)), ()))) else none) else some (.inl ((rArith .add .i64 x.1 (1 : Int)), ())))) else none) else (bif (rCmp .gtr x.1 (0 : Int)) then (bif (rInR k.1 (rArith .sub .i64 x.1 (1 : Int))) then (bif (rCmp .eql (rGet zIIIIIII k.1 x.1).1 (rGet zIIIIIII k.1 (rArith .sub .i64 x.1 (1 : Int))).1) then (bif (rInR k.1 (rArith .sub .i64 x.1 (1 : Int))) then (bif (rCmp .leq (rGet zIIIIIII k.1 x.1).2.1 (rGet zIIIIIII k.1 (rArith .sub .i64 x.1 (1 : Int))).2.1) then some (.inr (.inl (false, ()))) else (bif (rInR k.1 (rArith .sub .i64 x.1 (1 : Int))) then (bif (rCmp .leq (rGet zIIIIIII k.1 x.1).2.2.1 (rGet zIIIIIII k.1 (rArith .sub .i64 x.1 (1 : Int))).2.2.1) then some (.inr (.inl (false, ()))) else some (.inl ((rArith .add .i64 x.1 (1 : Int)), ()))) else none)) else none) else some (.inl ((rArith .add .i64 x.1 (1 : Int)), ()))) else none) else some (.inl ((rArith .add .i64 x.1 (1 : Int)), ())))))) else none) else some (.inr (.inr (.inl (())))))
def spec_JournalOk_l0 (k : (List (Int × Int × Int × Int × Int × Int × Int)) × Unit) (x : Int × Unit) : Option (Bool × Unit ⊕ (Unit ⊕ Empty)) := iter (spec_JournalOk_b0 k) big x
def spec_JournalOk (a0 : (List (Int × Int × Int × Int × Int × Int × Int))) : Option (Bool × Unit) :=
  (bif (rCmp .gtr (rLen a0) (60 : Int)) then some (false, ()) else ((spec_JournalOk_l0 (a0, ()) ((0 : Int), ())).bind fun q0 => (Sum.elim (fun y1 => some (y1.1, ())) (fun q2 => (Sum.elim (fun y3 => some (true, ())) (fun q4 => (Empty.elim q4)) q2)) q0)))
def impl_JournalOk_b0 (k : (List (Int × Int × Int × Int × Int × Int × Int)) × (List (Int × Int × Int × Int × Int × Int × Int)) × Int × Unit) (x : Int × Unit) : Option ((Int × Unit) ⊕ (Bool × Unit ⊕ (Unit ⊕ Empty))) :=
  (bif (rCmp .lss x.1 k.2.2.1) then (bif (rInR k.2.1 x.1) then ((impl_EventOk (rGet zIIIIIII k.2.1 x.1).1 (rGet zIIIIIII k.2.1 x.1).2.1 (rGet zIIIIIII k.2.1 x.1).2.2.1 (rGet zIIIIIII k.2.1 x.1).2.2.2.1 (rGet zIIIIIII k.2.1 x.1).2.2.2.2.1 (rGet zIIIIIII k.2.1 x.1).2.2.2.2.2.1 (rGet zIIIIIII k.2.1 x.1).2.2.2.2.2.2).bind fun y0 => (bif (Bool.not y0.1) then some (.inr (.inl (false, ()))) else (bif (rCmp .eql x.1 (0 : Int)) then some (.inl ((rArith .add .i64 x.1 (1 : Int)), ())) else (bif (rInR k.1 (rArith .sub .i64 x.1 (1 : Int))) then (bif (rCmp .lss (rGet zIIIIIII k.2.1 x.1).1 (rGet zIIIIIII k.1 (rArith .sub .i64 x.1 (1 : Int))).1) then some (.inr (.inl (false, ()))) else (bif (rCmp .eql (rGet zIIIIIII k.2.1 x.1).1 (rGet zIIIIIII k.1 (rArith .sub .i64 x.1 (1 : Int))).1) then (bif (rCmp .leq (rGet zIIIIIII k.2.1 x.1).2.1 (rGet zIIIIIII k.1 (rArith .sub .i64 x.1 (1 : Int))).2.1) then some (.inr (.inl (false, ()))) else (bif (rCmp .leq (rGet zIIIIIII k.2.1 x.1).2.2.1 (rGet zIIIIIII k.1 (rArith .sub .i64 x.1 (1 : Int))).2.2.1) then some (.inr (.inl (false, ()))) else some (.inl ((rArith .add .i64 x.1 (1 : Int)), ())))) else some (.inl ((rArith .add .i64 x.1 (1 : Int)), ())))) else none)))) else none) else some (.inr (.inr (.inl (())))))
def impl_JournalOk_l0 (k : (List (Int × Int × Int × Int × Int × Int × Int)) × (List (Int × Int × Int × Int × Int × Int × Int)) × Int × Unit) (x : Int × Unit) : Option (Bool × Unit ⊕ (Unit ⊕ Empty)) := iter (impl_JournalOk_b0 k) big x
def impl_JournalOk (a0 : (List (Int × Int × Int × Int × Int × Int × Int))) : Option (Bool × Unit) :=
  (bif (rCmp .gtr (rLen a0) (60 : Int)) then some (false, ()) else ((impl_JournalOk_l0 (a0, a0, (rLen a0), ()) ((0 : Int), ())).bind fun q0 => (Sum.elim (fun y1 => some (y1.1, ())) (fun q2 => (Sum.elim (fun y3 => some (true, ())) (fun q4 => (Empty.elim q4)) q2)) q0)))
def laws_eqEvent (a0 : Int) (a1 : Int) (a2 : Int) (a3 : Int) (a4 : Int) (a5 : Int) (a6 : Int) (a7 : Int) (a8 : Int) (a9 : Int) (a10 : Int) (a11 : Int) (a12 : Int) (a13 : Int) : Option (Bool × Unit) :=
  (bif (rCmp .neq a0 a7) then some (false, ()) else (bif (rCmp .neq a1 a8) then some (false, ()) else (bif (rCmp .neq a2 a9) then some (false, ()) else (bif (rCmp .neq a3 a10) then some (false, ()) else (bif (rCmp .neq a4 a11) then some (false, ()) else (bif (rCmp .neq a5 a12) then some (false, ()) else (bif (rCmp .neq a6 a13) then some (false, ()) else some (true, ()))))))))
def laws_eqEventS_b0 (k : (List (Int × Int × Int × Int × Int × Int × Int)) × (List (Int × Int × Int × Int × Int × Int × Int)) × Unit) (x : Int × Unit) : Option ((Int × Unit) ⊕ (Bool × Unit ⊕ (Unit ⊕ Empty))) :=
  (bif (rCmp .lss x.1 (rLen k.1)) then (bif (rInR k.1 x.1) then (bif (rInR k.2.1 x.1) then ((laws_eqEvent (rGet zIIIIIII k.1 x.1).1 (rGet zIIIIIII k.1 x.1).2.1 (rGet zIIIIIII k.1 x.1).2.2.1 (rGet zIIIIIII k.1 x.1).2.2.2.1 (rGet zIIIIIII k.1 x.1).2.2.2.2.1 (rGet zIIIIIII k.1 x.1).2.2.2.2.2.1 (rGet zIIIIIII k.1 x.1).2.2.2.2.2.2 (rGet zIIIIIII k.2.1 x.1).1 (rGet zIIIIIII k.2.1 x.1).2.1 (rGet zIIIIIII k.2.1 x.1).2.2.1 (rGet zIIIIIII k.2.1 x.1).2.2.2.1 (rGet zIIIIIII k.2.1 x.1).2.2.2.2.1 (rGet zIIIIIII k.2.1 x.1).2.2.2.2.2.1 (rGet zIIIIIII k.2.1 x.1).2.2.2.2.2.2).bind fun y0 => (bif (Bool.not y0.1) then some (.inr (.inl (false, ()))) else some (.inl ((rArith .add .i64 x.1 (1 : Int)), ())))) else none) else none) else some (.inr (.inr (.inl (())))))
def laws_eqEventS_l0 (k : (List (Int × Int × Int × Int × Int × Int × Int)) × (List (Int × Int × Int × Int × Int × Int × Int)) × Unit) (x : Int × Unit) : Option (Bool × Unit ⊕ (Unit ⊕ Empty)) := iter (laws_eqEventS_b0 k) big x
def laws_eqEventS (a0 : (List (Int × Int × Int × Int × Int × Int × Int))) (a1 : (List (Int × Int × Int × Int × Int × Int × Int))) : Option (Bool × Unit) :=
  (bif (rCmp .neq (rLen a0) (rLen a1)) then some (false, ()) else ((laws_eqEventS_l0 (a0, a1, ()) ((0 : Int), ())).bind fun q0 => (Sum.elim (fun y1 => some (y1.1, ())) (fun q2 => (Sum.elim (fun y3 => some (true, ())) (fun q4 => (Empty.elim q4)) q2)) q0)))
end Go.Fn
set_option linter.unusedVariables false
namespace Go.Fn
open Go.R
def zI : Int := (0 : Int)
end Go.Fn
set_option linter.unusedVariables false
namespace Go.Fn
open Go.R
def zLIl : List (Int) := ([] : List (Int))
end Go.Fn
set_option linter.unusedVariables false
namespace Go.Fn
open Go.R
noncomputable def cmp_isNaN_int_ (a0 : Int) : Option (Bool × Unit) :=
  some ((rCmp .neq a0 a0), ())
noncomputable def cmp_Compare_int_ (a0 : Int) (a1 : Int) : Option (Int × Unit) :=
  ((cmp_isNaN_int_ a0).bind fun y0 => ((cmp_isNaN_int_ a1).bind fun y1 => (bif y0.1 then (bif y1.1 then some ((0 : Int), ()) else some ((-1 : Int), ())) else (bif y1.1 then some ((1 : Int), ()) else (bif (rCmp .lss a0 a1) then some ((-1 : Int), ()) else (bif (rCmp .gtr a0 a1) then some ((1 : Int), ()) else some ((0 : Int), ())))))))
noncomputable def cmp_Or_int__b0 (k : Int × (List (Int)) × Int × Unit) (x : Int × Unit) : Option ((Int × Unit) ⊕ (Int × Unit ⊕ (Unit ⊕ Empty))) :=
  (bif (rCmp .lss x.1 k.2.2.1) then (bif (rInR k.2.1 x.1) then (bif (rCmp .neq (rGet zI k.2.1 x.1) k.1) then some (.inr (.inl ((rGet zI k.2.1 x.1), ()))) else some (.inl ((rArith .add .i64 x.1 (1 : Int)), ()))) else none) else some (.inr (.inr (.inl (())))))
noncomputable def cmp_Or_int__l0 (k : Int × (List (Int)) × Int × Unit) (x : Int × Unit) : Option (Int × Unit ⊕ (Unit ⊕ Empty)) := iter (cmp_Or_int__b0 k) big x
noncomputable def cmp_Or_int_ (a0 : (List (Int))) : Option (Int × Unit) :=
  ((cmp_Or_int__l0 ((0 : Int), a0, (rLen a0), ()) ((0 : Int), ())).bind fun q0 => (Sum.elim (fun y1 => some (y1.1, ())) (fun q2 => (Sum.elim (fun y3 => some ((0 : Int), ())) (fun q4 => (Empty.elim q4)) q2)) q0))
end Go.Fn
set_option linter.unusedVariables false
namespace Go.Fn
open Go.R
noncomputable def spec_OrderOf_b2 (k : (List (Int × Int × Int × Int × Int × Int × Int)) × Int × Unit) (x : (List (Int)) × Int × Unit) : Option (((List (Int)) × Int × Unit) ⊕ ((List (Int)) × Unit ⊕ Empty)) :=
  (bif (rCmp .gtr x.2.1 (0 : Int)) then (bif (rInR x.1 (rArith .sub .i64 x.2.1 (1 : Int))) then (bif (rInR k.1 (rGet zI x.1 (rArith .sub .i64 x.2.1 (1 : Int)))) then (bif (rInR x.1 x.2.1) then (bif (rInR k.1 (rGet zI x.1 x.2.1)) then (bif (rCmp .gtr (rGet zIIIIIII k.1 (rGet zI x.1 (rArith .sub .i64 x.2.1 (1 : Int)))).2.2.1 (rGet zIIIIIII k.1 (rGet zI x.1 x.2.1)).2.2.1) then (bif (rInR x.1 x.2.1) then (bif (rInR x.1 (rArith .sub .i64 x.2.1 (1 : Int))) then (bif (rInR x.1 x.2.1) then (bif (rInR (rPut x.1 x.2.1 (rGet zI x.1 (rArith .sub .i64 x.2.1 (1 : Int)))) (rArith .sub .i64 x.2.1 (1 : Int))) then some (.inl ((rPut (rPut x.1 x.2.1 (rGet zI x.1 (rArith .sub .i64 x.2.1 (1 : Int)))) (rArith .sub .i64 x.2.1 (1 : Int)) (rGet zI x.1 x.2.1)), (rArith .sub .i64 x.2.1 (1 : Int)), ())) else none) else none) else none) else none) else some (.inr (.inl (x.1, ())))) else none) else none) else none) else none) else some (.inr (.inl (x.1, ()))))
noncomputable def spec_OrderOf_l2 (k : (List (Int × Int × Int × Int × Int × Int × Int)) × Int × Unit) (x : (List (Int)) × Int × Unit) : Option ((List (Int)) × Unit ⊕ Empty) := iter (spec_OrderOf_b2 k) big x
noncomputable def spec_OrderOf_b0 (k : (List (Int × Int × Int × Int × Int × Int × Int)) × Unit) (x : (List (Int)) × Int × Unit) : Option (((List (Int)) × Int × Unit) ⊕ ((List (Int)) × Unit ⊕ Empty)) :=
  (bif (rCmp .lss x.2.1 (rLen k.1)) then ((spec_JournalOk k.1).bind fun y0 => (bif y0.1 then (bif (rSmall (List.append (α := Int) x.1 (List.append (α := Int) ([] : List (Int)) [x.2.1]))) then ((spec_OrderOf_l2 (k.1, x.2.1, ()) ((List.append (α := Int) x.1 (List.append (α := Int) ([] : List (Int)) [x.2.1])), x.2.1, ())).bind fun q1 => (Sum.elim (fun y2 => some (.inl (y2.1, (rArith .add .i64 x.2.1 (1 : Int)), ()))) (fun q3 => (Empty.elim q3)) q1)) else none) else some (.inr (.inl (x.1, ()))))) else some (.inr (.inl (x.1, ()))))
noncomputable def spec_OrderOf_l0 (k : (List (Int × Int × Int × Int × Int × Int × Int)) × Unit) (x : (List (Int)) × Int × Unit) : Option ((List (Int)) × Unit ⊕ Empty) := iter (spec_OrderOf_b0 k) big x
noncomputable def spec_OrderOf (a0 : (List (Int × Int × Int × Int × Int × Int × Int))) : Option ((List (Int)) × Unit) :=
  ((spec_OrderOf_l0 (a0, ()) (([] : List (Int)), (0 : Int), ())).bind fun q0 => (Sum.elim (fun y1 => some (y1.1, ())) (fun q2 => (Empty.elim q2)) q0))
noncomputable def impl_OrderOf_1 (a0 : Int) (a1 : Int) (a2 : (List (Int × Int × Int × Int × Int × Int × Int))) : Option (Int × Unit) :=
  (bif (rInR a2 a0) then (bif (rInR a2 a1) then ((cmp_Compare_int_ (rGet zIIIIIII a2 a0).2.2.1 (rGet zIIIIIII a2 a1).2.2.1).bind fun y0 => (bif (rInR a2 a0) then (bif (rInR a2 a1) then ((cmp_Compare_int_ (rGet zIIIIIII a2 a0).1 (rGet zIIIIIII a2 a1).1).bind fun y1 => ((cmp_Or_int_ (List.append (α := Int) (List.append (α := Int) ([] : List (Int)) [y0.1]) [y1.1])).bind fun y2 => some (y2.1, ()))) else none) else none)) else none) else none)
noncomputable def slices_insertionSortCmpFunc_int___impl_OrderOf_1_b2 (k : Int × Int × (List (Int × Int × Int × Int × Int × Int × Int)) × Int × Unit) (x : (List (Int)) × Int × Unit) : Option (((List (Int)) × Int × Unit) ⊕ ((List (Int)) × Unit ⊕ Empty)) :=
  (bif (rCmp .gtr x.2.1 k.1) then (bif (rInR x.1 x.2.1) then (bif (rInR x.1 (rArith .sub .i64 x.2.1 (1 : Int))) then ((impl_OrderOf_1 (rGet zI x.1 x.2.1) (rGet zI x.1 (rArith .sub .i64 x.2.1 (1 : Int))) k.2.2.1).bind fun y0 => (bif (rCmp .lss y0.1 (0 : Int)) then (bif (rInR x.1 (rArith .sub .i64 x.2.1 (1 : Int))) then (bif (rInR x.1 x.2.1) then (bif (rInR x.1 x.2.1) then (bif (rInR (rPut x.1 x.2.1 (rGet zI x.1 (rArith .sub .i64 x.2.1 (1 : Int)))) (rArith .sub .i64 x.2.1 (1 : Int))) then some (.inl ((rPut (rPut x.1 x.2.1 (rGet zI x.1 (rArith .sub .i64 x.2.1 (1 : Int)))) (rArith .sub .i64 x.2.1 (1 : Int)) (rGet zI x.1 x.2.1)), (rArith .sub .i64 x.2.1 (1 : Int)), ())) else none) else none) else none) else none) else some (.inr (.inl (x.1, ()))))) else none) else none) else some (.inr (.inl (x.1, ()))))
noncomputable def slices_insertionSortCmpFunc_int___impl_OrderOf_1_l2 (k : Int × Int × (List (Int × Int × Int × Int × Int × Int × Int)) × Int × Unit) (x : (List (Int)) × Int × Unit) : Option ((List (Int)) × Unit ⊕ Empty) := iter (slices_insertionSortCmpFunc_int___impl_OrderOf_1_b2 k) big x
noncomputable def slices_insertionSortCmpFunc_int___impl_OrderOf_1_b0 (k : Int × Int × (List (Int × Int × Int × Int × Int × Int × Int)) × Unit) (x : (List (Int)) × Int × Unit) : Option (((List (Int)) × Int × Unit) ⊕ ((List (Int)) × Unit ⊕ Empty)) :=
  (bif (rCmp .lss x.2.1 k.2.1) then ((slices_insertionSortCmpFunc_int___impl_OrderOf_1_l2 (k.1, k.2.1, k.2.2.1, x.2.1, ()) (x.1, x.2.1, ())).bind fun q0 => (Sum.elim (fun y1 => some (.inl (y1.1, (rArith .add .i64 x.2.1 (1 : Int)), ()))) (fun q2 => (Empty.elim q2)) q0)) else some (.inr (.inl (x.1, ()))))
noncomputable def slices_insertionSortCmpFunc_int___impl_OrderOf_1_l0 (k : Int × Int × (List (Int × Int × Int × Int × Int × Int × Int)) × Unit) (x : (List (Int)) × Int × Unit) : Option ((List (Int)) × Unit ⊕ Empty) := iter (slices_insertionSortCmpFunc_int___impl_OrderOf_1_b0 k) big x
noncomputable def slices_insertionSortCmpFunc_int___impl_OrderOf_1 (a0 : (List (Int))) (a1 : Int) (a2 : Int) (a3 : (List (Int × Int × Int × Int × Int × Int × Int))) : Option ((List (Int)) × Unit) :=
  ((slices_insertionSortCmpFunc_int___impl_OrderOf_1_l0 (a1, a2, a3, ()) (a0, (rArith .add .i64 a1 (1 : Int)), ())).bind fun q0 => (Sum.elim (fun y1 => some (y1.1, ())) (fun q2 => (Empty.elim q2)) q0))
noncomputable def slices_swapRangeCmpFunc_int___impl_OrderOf_1_b0 (k : Int × Int × Int × Unit) (x : (List (Int)) × Int × Unit) : Option (((List (Int)) × Int × Unit) ⊕ ((List (Int)) × Unit ⊕ Empty)) :=
  (bif (rCmp .lss x.2.1 k.2.2.1) then (bif (rInR x.1 (rArith .add .i64 k.2.1 x.2.1)) then (bif (rInR x.1 (rArith .add .i64 k.1 x.2.1)) then (bif (rInR x.1 (rArith .add .i64 k.1 x.2.1)) then (bif (rInR (rPut x.1 (rArith .add .i64 k.1 x.2.1) (rGet zI x.1 (rArith .add .i64 k.2.1 x.2.1))) (rArith .add .i64 k.2.1 x.2.1)) then (lets (rPut (rPut x.1 (rArith .add .i64 k.1 x.2.1) (rGet zI x.1 (rArith .add .i64 k.2.1 x.2.1))) (rArith .add .i64 k.2.1 x.2.1) (rGet zI x.1 (rArith .add .i64 k.1 x.2.1))) fun v0 => some (.inl (v0, (rArith .add .i64 x.2.1 (1 : Int)), ()))) else none) else none) else none) else none) else some (.inr (.inl (x.1, ()))))
noncomputable def slices_swapRangeCmpFunc_int___impl_OrderOf_1_l0 (k : Int × Int × Int × Unit) (x : (List (Int)) × Int × Unit) : Option ((List (Int)) × Unit ⊕ Empty) := iter (slices_swapRangeCmpFunc_int___impl_OrderOf_1_b0 k) big x
noncomputable def slices_swapRangeCmpFunc_int___impl_OrderOf_1 (a0 : (List (Int))) (a1 : Int) (a2 : Int) (a3 : Int) (a4 : (List (Int × Int × Int × Int × Int × Int × Int))) : Option ((List (Int)) × Unit) :=
  ((slices_swapRangeCmpFunc_int___impl_OrderOf_1_l0 (a1, a2, a3, ()) (a0, (0 : Int), ())).bind fun q0 => (Sum.elim (fun y1 => some (y1.1, ())) (fun q2 => (Empty.elim q2)) q0))
noncomputable def slices_rotateCmpFunc_int___impl_OrderOf_1_b0 (k : Int × (List (Int × Int × Int × Int × Int × Int × Int)) × Unit) (x : (List (Int)) × Int × Int × Unit) : Option (((List (Int)) × Int × Int × Unit) ⊕ ((List (Int)) × Int × Unit ⊕ Empty)) :=
  (bif (rCmp .neq x.2.1 x.2.2.1) then (bif (rCmp .gtr x.2.1 x.2.2.1) then ((slices_swapRangeCmpFunc_int___impl_OrderOf_1 x.1 (rArith .sub .i64 k.1 x.2.1) k.1 x.2.2.1 k.2.1).bind fun y0 => some (.inl (y0.1, (rArith .sub .i64 x.2.1 x.2.2.1), x.2.2.1, ()))) else ((slices_swapRangeCmpFunc_int___impl_OrderOf_1 x.1 (rArith .sub .i64 k.1 x.2.1) (rArith .sub .i64 (rArith .add .i64 k.1 x.2.2.1) x.2.1) x.2.1 k.2.1).bind fun y0 => some (.inl (y0.1, x.2.1, (rArith .sub .i64 x.2.2.1 x.2.1), ())))) else some (.inr (.inl (x.1, x.2.1, ()))))
noncomputable def slices_rotateCmpFunc_int___impl_OrderOf_1_l0 (k : Int × (List (Int × Int × Int × Int × Int × Int × Int)) × Unit) (x : (List (Int)) × Int × Int × Unit) : Option ((List (Int)) × Int × Unit ⊕ Empty) := iter (slices_rotateCmpFunc_int___impl_OrderOf_1_b0 k) big x
noncomputable def slices_rotateCmpFunc_int___impl_OrderOf_1 (a0 : (List (Int))) (a1 : Int) (a2 : Int) (a3 : Int) (a4 : (List (Int × Int × Int × Int × Int × Int × Int))) : Option ((List (Int)) × Unit) :=
  ((slices_rotateCmpFunc_int___impl_OrderOf_1_l0 (a2, a4, ()) (a0, (rArith .sub .i64 a2 a1), (rArith .sub .i64 a3 a2), ())).bind fun q0 => (Sum.elim (fun y1 => ((slices_swapRangeCmpFunc_int___impl_OrderOf_1 y1.1 (rArith .sub .i64 a2 y1.2.1) a2 y1.2.1 a4).bind fun y2 => some (y2.1, ()))) (fun q2 => (Empty.elim q2)) q0))
noncomputable def slices_symMergeCmpFunc_int___impl_OrderOf_1_b0 (rec : (List (Int)) → Int → Int → Int → (List (Int × Int × Int × Int × Int × Int × Int)) → Option ((List (Int)) × Unit)) (k : Int × (List (Int × Int × Int × Int × Int × Int × Int)) × Unit) (x : (List (Int)) × Int × Int × Unit) : Option (((List (Int)) × Int × Int × Unit) ⊕ ((List (Int)) × Int × Unit ⊕ Empty)) :=
  (bif (rCmp .lss x.2.1 x.2.2.1) then (bif (rIsNeg (1 : Int)) then none else (bif (rInR x.1 (rConv .i64 (rShift .shr .u64 (rConv .u64 (rArith .add .i64 x.2.1 x.2.2.1)) (1 : Int)))) then (bif (rInR x.1 k.1) then ((impl_OrderOf_1 (rGet zI x.1 (rConv .i64 (rShift .shr .u64 (rConv .u64 (rArith .add .i64 x.2.1 x.2.2.1)) (1 : Int)))) (rGet zI x.1 k.1) k.2.1).bind fun y0 => (bif (rCmp .lss y0.1 (0 : Int)) then some (.inl (x.1, (rArith .add .i64 (rConv .i64 (rShift .shr .u64 (rConv .u64 (rArith .add .i64 x.2.1 x.2.2.1)) (1 : Int))) (1 : Int)), x.2.2.1, ())) else some (.inl (x.1, x.2.1, (rConv .i64 (rShift .shr .u64 (rConv .u64 (rArith .add .i64 x.2.1 x.2.2.1)) (1 : Int))), ())))) else none) else none)) else some (.inr (.inl (x.1, x.2.1, ()))))
noncomputable def slices_symMergeCmpFunc_int___impl_OrderOf_1_l0 (rec : (List (Int)) → Int → Int → Int → (List (Int × Int × Int × Int × Int × Int × Int)) → Option ((List (Int)) × Unit)) (k : Int × (List (Int × Int × Int × Int × Int × Int × Int)) × Unit) (x : (List (Int)) × Int × Int × Unit) : Option ((List (Int)) × Int × Unit ⊕ Empty) := iter (slices_symMergeCmpFunc_int___impl_OrderOf_1_b0 rec k) big x
noncomputable def slices_symMergeCmpFunc_int___impl_OrderOf_1_b2 (rec : (List (Int)) → Int → Int → Int → (List (Int × Int × Int × Int × Int × Int × Int)) → Option ((List (Int)) × Unit)) (k : Int × Unit) (x : (List (Int)) × Int × Unit) : Option (((List (Int)) × Int × Unit) ⊕ ((List (Int)) × Unit ⊕ Empty)) :=
  (bif (rCmp .lss x.2.1 (rArith .sub .i64 k.1 (1 : Int))) then (bif (rInR x.1 (rArith .add .i64 x.2.1 (1 : Int))) then (bif (rInR x.1 x.2.1) then (bif (rInR x.1 x.2.1) then (bif (rInR (rPut x.1 x.2.1 (rGet zI x.1 (rArith .add .i64 x.2.1 (1 : Int)))) (rArith .add .i64 x.2.1 (1 : Int))) then some (.inl ((rPut (rPut x.1 x.2.1 (rGet zI x.1 (rArith .add .i64 x.2.1 (1 : Int)))) (rArith .add .i64 x.2.1 (1 : Int)) (rGet zI x.1 x.2.1)), (rArith .add .i64 x.2.1 (1 : Int)), ())) else none) else none) else none) else none) else some (.inr (.inl (x.1, ()))))
noncomputable def slices_symMergeCmpFunc_int___impl_OrderOf_1_l2 (rec : (List (Int)) → Int → Int → Int → (List (Int × Int × Int × Int × Int × Int × Int)) → Option ((List (Int)) × Unit)) (k : Int × Unit) (x : (List (Int)) × Int × Unit) : Option ((List (Int)) × Unit ⊕ Empty) := iter (slices_symMergeCmpFunc_int___impl_OrderOf_1_b2 rec k) big x
noncomputable def slices_symMergeCmpFunc_int___impl_OrderOf_1_b4 (rec : (List (Int)) → Int → Int → Int → (List (Int × Int × Int × Int × Int × Int × Int)) → Option ((List (Int)) × Unit)) (k : Int × (List (Int × Int × Int × Int × Int × Int × Int)) × Unit) (x : (List (Int)) × Int × Int × Unit) : Option (((List (Int)) × Int × Int × Unit) ⊕ ((List (Int)) × Int × Unit ⊕ Empty)) :=
  (bif (rCmp .lss x.2.1 x.2.2.1) then (bif (rIsNeg (1 : Int)) then none else (bif (rInR x.1 k.1) then (bif (rInR x.1 (rConv .i64 (rShift .shr .u64 (rConv .u64 (rArith .add .i64 x.2.1 x.2.2.1)) (1 : Int)))) then ((impl_OrderOf_1 (rGet zI x.1 k.1) (rGet zI x.1 (rConv .i64 (rShift .shr .u64 (rConv .u64 (rArith .add .i64 x.2.1 x.2.2.1)) (1 : Int)))) k.2.1).bind fun y0 => (bif (Bool.not (rCmp .lss y0.1 (0 : Int))) then some (.inl (x.1, (rArith .add .i64 (rConv .i64 (rShift .shr .u64 (rConv .u64 (rArith .add .i64 x.2.1 x.2.2.1)) (1 : Int))) (1 : Int)), x.2.2.1, ())) else some (.inl (x.1, x.2.1, (rConv .i64 (rShift .shr .u64 (rConv .u64 (rArith .add .i64 x.2.1 x.2.2.1)) (1 : Int))), ())))) else none) else none)) else some (.inr (.inl (x.1, x.2.1, ()))))
noncomputable def slices_symMergeCmpFunc_int___impl_OrderOf_1_l4 (rec : (List (Int)) → Int → Int → Int → (List (Int × Int × Int × Int × Int × Int × Int)) → Option ((List (Int)) × Unit)) (k : Int × (List (Int × Int × Int × Int × Int × Int × Int)) × Unit) (x : (List (Int)) × Int × Int × Unit) : Option ((List (Int)) × Int × Unit ⊕ Empty) := iter (slices_symMergeCmpFunc_int___impl_OrderOf_1_b4 rec k) big x
noncomputable def slices_symMergeCmpFunc_int___impl_OrderOf_1_b6 (rec : (List (Int)) → Int → Int → Int → (List (Int × Int × Int × Int × Int × Int × Int)) → Option ((List (Int)) × Unit)) (k : Int × Unit) (x : (List (Int)) × Int × Unit) : Option (((List (Int)) × Int × Unit) ⊕ ((List (Int)) × Unit ⊕ Empty)) :=
  (bif (rCmp .gtr x.2.1 k.1) then (bif (rInR x.1 (rArith .sub .i64 x.2.1 (1 : Int))) then (bif (rInR x.1 x.2.1) then (bif (rInR x.1 x.2.1) then (bif (rInR (rPut x.1 x.2.1 (rGet zI x.1 (rArith .sub .i64 x.2.1 (1 : Int)))) (rArith .sub .i64 x.2.1 (1 : Int))) then some (.inl ((rPut (rPut x.1 x.2.1 (rGet zI x.1 (rArith .sub .i64 x.2.1 (1 : Int)))) (rArith .sub .i64 x.2.1 (1 : Int)) (rGet zI x.1 x.2.1)), (rArith .sub .i64 x.2.1 (1 : Int)), ())) else none) else none) else none) else none) else some (.inr (.inl (x.1, ()))))
noncomputable def slices_symMergeCmpFunc_int___impl_OrderOf_1_l6 (rec : (List (Int)) → Int → Int → Int → (List (Int × Int × Int × Int × Int × Int × Int)) → Option ((List (Int)) × Unit)) (k : Int × Unit) (x : (List (Int)) × Int × Unit) : Option ((List (Int)) × Unit ⊕ Empty) := iter (slices_symMergeCmpFunc_int___impl_OrderOf_1_b6 rec k) big x
noncomputable def slices_symMergeCmpFunc_int___impl_OrderOf_1_b8 (rec : (List (Int)) → Int → Int → Int → (List (Int × Int × Int × Int × Int × Int × Int)) → Option ((List (Int)) × Unit)) (k : Int × Int × Int × (List (Int × Int × Int × Int × Int × Int × Int)) × Int × Int × Int × Unit) (x : (List (Int)) × Int × Int × Unit) : Option (((List (Int)) × Int × Int × Unit) ⊕ ((List (Int)) × Int × Unit ⊕ Empty)) :=
  (bif (rCmp .lss x.2.1 x.2.2.1) then (bif (rIsNeg (1 : Int)) then none else (bif (rInR x.1 (rArith .sub .i64 k.2.2.2.2.2.2.1 (rConv .i64 (rShift .shr .u64 (rConv .u64 (rArith .add .i64 x.2.1 x.2.2.1)) (1 : Int))))) then (bif (rInR x.1 (rConv .i64 (rShift .shr .u64 (rConv .u64 (rArith .add .i64 x.2.1 x.2.2.1)) (1 : Int)))) then ((impl_OrderOf_1 (rGet zI x.1 (rArith .sub .i64 k.2.2.2.2.2.2.1 (rConv .i64 (rShift .shr .u64 (rConv .u64 (rArith .add .i64 x.2.1 x.2.2.1)) (1 : Int))))) (rGet zI x.1 (rConv .i64 (rShift .shr .u64 (rConv .u64 (rArith .add .i64 x.2.1 x.2.2.1)) (1 : Int)))) k.2.2.2.1).bind fun y0 => (bif (Bool.not (rCmp .lss y0.1 (0 : Int))) then some (.inl (x.1, (rArith .add .i64 (rConv .i64 (rShift .shr .u64 (rConv .u64 (rArith .add .i64 x.2.1 x.2.2.1)) (1 : Int))) (1 : Int)), x.2.2.1, ())) else some (.inl (x.1, x.2.1, (rConv .i64 (rShift .shr .u64 (rConv .u64 (rArith .add .i64 x.2.1 x.2.2.1)) (1 : Int))), ())))) else none) else none)) else some (.inr (.inl (x.1, x.2.1, ()))))
noncomputable def slices_symMergeCmpFunc_int___impl_OrderOf_1_l8 (rec : (List (Int)) → Int → Int → Int → (List (Int × Int × Int × Int × Int × Int × Int)) → Option ((List (Int)) × Unit)) (k : Int × Int × Int × (List (Int × Int × Int × Int × Int × Int × Int)) × Int × Int × Int × Unit) (x : (List (Int)) × Int × Int × Unit) : Option ((List (Int)) × Int × Unit ⊕ Empty) := iter (slices_symMergeCmpFunc_int___impl_OrderOf_1_b8 rec k) big x
noncomputable def slices_symMergeCmpFunc_int___impl_OrderOf_1_r (rec : (List (Int)) → Int → Int → Int → (List (Int × Int × Int × Int × Int × Int × Int)) → Option ((List (Int)) × Unit)) (a0 : (List (Int))) (a1 : Int) (a2 : Int) (a3 : Int) (a4 : (List (Int × Int × Int × Int × Int × Int × Int))) : Option ((List (Int)) × Unit) :=
  (bif (rCmp .eql (rArith .sub .i64 a2 a1) (1 : Int)) then ((slices_symMergeCmpFunc_int___impl_OrderOf_1_l0 rec (a1, a4, ()) (a0, a2, a3, ())).bind fun q0 => (Sum.elim (fun y1 => ((slices_symMergeCmpFunc_int___impl_OrderOf_1_l2 rec (y1.2.1, ()) (y1.1, a1, ())).bind fun q2 => (Sum.elim (fun y3 => some (y3.1, ())) (fun q4 => (Empty.elim q4)) q2))) (fun q2 => (Empty.elim q2)) q0)) else (bif (rCmp .eql (rArith .sub .i64 a3 a2) (1 : Int)) then ((slices_symMergeCmpFunc_int___impl_OrderOf_1_l4 rec (a2, a4, ()) (a0, a1, a2, ())).bind fun q0 => (Sum.elim (fun y1 => ((slices_symMergeCmpFunc_int___impl_OrderOf_1_l6 rec (y1.2.1, ()) (y1.1, a2, ())).bind fun q2 => (Sum.elim (fun y3 => some (y3.1, ())) (fun q4 => (Empty.elim q4)) q2))) (fun q2 => (Empty.elim q2)) q0)) else (bif (rIsNeg (1 : Int)) then none else (bif (rCmp .gtr a2 (rConv .i64 (rShift .shr .u64 (rConv .u64 (rArith .add .i64 a1 a3)) (1 : Int)))) then ((slices_symMergeCmpFunc_int___impl_OrderOf_1_l8 rec (a1, a2, a3, a4, (rConv .i64 (rShift .shr .u64 (rConv .u64 (rArith .add .i64 a1 a3)) (1 : Int))), (rArith .add .i64 (rConv .i64 (rShift .shr .u64 (rConv .u64 (rArith .add .i64 a1 a3)) (1 : Int))) a2), (rArith .sub .i64 (rArith .add .i64 (rConv .i64 (rShift .shr .u64 (rConv .u64 (rArith .add .i64 a1 a3)) (1 : Int))) a2) (1 : Int)), ()) (a0, (rArith .sub .i64 (rArith .add .i64 (rConv .i64 (rShift .shr .u64 (rConv .u64 (rArith .add .i64 a1 a3)) (1 : Int))) a2) a3), (rConv .i64 (rShift .shr .u64 (rConv .u64 (rArith .add .i64 a1 a3)) (1 : Int))), ())).bind fun q0 => (Sum.elim (fun y1 => (bif (rCmp .lss y1.2.1 a2) then (bif (rCmp .lss a2 (rArith .sub .i64 (rArith .add .i64 (rConv .i64 (rShift .shr .u64 (rConv .u64 (rArith .add .i64 a1 a3)) (1 : Int))) a2) y1.2.1)) then ((slices_rotateCmpFunc_int___impl_OrderOf_1 y1.1 y1.2.1 a2 (rArith .sub .i64 (rArith .add .i64 (rConv .i64 (rShift .shr .u64 (rConv .u64 (rArith .add .i64 a1 a3)) (1 : Int))) a2) y1.2.1) a4).bind fun y2 => (bif (rCmp .lss a1 y1.2.1) then (bif (rCmp .lss y1.2.1 (rConv .i64 (rShift .shr .u64 (rConv .u64 (rArith .add .i64 a1 a3)) (1 : Int)))) then ((rec y2.1 a1 y1.2.1 (rConv .i64 (rShift .shr .u64 (rConv .u64 (rArith .add .i64 a1 a3)) (1 : Int))) a4).bind fun y3 => (lets (rCmp .lss (rConv .i64 (rShift .shr .u64 (rConv .u64 (rArith .add .i64 a1 a3)) (1 : Int))) (rArith .sub .i64 (rArith .add .i64 (rConv .i64 (rShift .shr .u64 (rConv .u64 (rArith .add .i64 a1 a3)) (1 : Int))) a2) y1.2.1)) fun v4 => (bif v4 then (bif (rCmp .lss (rArith .sub .i64 (rArith .add .i64 (rConv .i64 (rShift .shr .u64 (rConv .u64 (rArith .add .i64 a1 a3)) (1 : Int))) a2) y1.2.1) a3) then ((rec y3.1 (rConv .i64 (rShift .shr .u64 (rConv .u64 (rArith .add .i64 a1 a3)) (1 : Int))) (rArith .sub .i64 (rArith .add .i64 (rConv .i64 (rShift .shr .u64 (rConv .u64 (rArith .add .i64 a1 a3)) (1 : Int))) a2) y1.2.1) a3 a4).bind fun y5 => some (y5.1, ())) else some (y3.1, ())) else some (y3.1, ())))) else (lets (rCmp .lss (rConv .i64 (rShift .shr .u64 (rConv .u64 (rArith .add .i64 a1 a3)) (1 : Int))) (rArith .sub .i64 (rArith .add .i64 (rConv .i64 (rShift .shr .u64 (rConv .u64 (rArith .add .i64 a1 a3)) (1 : Int))) a2) y1.2.1)) fun v3 => (bif v3 then (bif (rCmp .lss (rArith .sub .i64 (rArith .add .i64 (rConv .i64 (rShift .shr .u64 (rConv .u64 (rArith .add .i64 a1 a3)) (1 : Int))) a2) y1.2.1) a3) then ((rec y2.1 (rConv .i64 (rShift .shr .u64 (rConv .u64 (rArith .add .i64 a1 a3)) (1 : Int))) (rArith .sub .i64 (rArith .add .i64 (rConv .i64 (rShift .shr .u64 (rConv .u64 (rArith .add .i64 a1 a3)) (1 : Int))) a2) y1.2.1) a3 a4).bind fun y4 => some (y4.1, ())) else some (y2.1, ())) else some (y2.1, ())))) else (lets (rCmp .lss (rConv .i64 (rShift .shr .u64 (rConv .u64 (rArith .add .i64 a1 a3)) (1 : Int))) (rArith .sub .i64 (rArith .add .i64 (rConv .i64 (rShift .shr .u64 (rConv .u64 (rArith .add .i64 a1 a3)) (1 : Int))) a2) y1.2.1)) fun v3 => (bif v3 then (bif (rCmp .lss (rArith .sub .i64 (rArith .add .i64 (rConv .i64 (rShift .shr .u64 (rConv .u64 (rArith .add .i64 a1 a3)) (1 : Int))) a2) y1.2.1) a3) then ((rec y2.1 (rConv .i64 (rShift .shr .u64 (rConv .u64 (rArith .add .i64 a1 a3)) (1 : Int))) (rArith .sub .i64 (rArith .add .i64 (rConv .i64 (rShift .shr .u64 (rConv .u64 (rArith .add .i64 a1 a3)) (1 : Int))) a2) y1.2.1) a3 a4).bind fun y4 => some (y4.1, ())) else some (y2.1, ())) else some (y2.1, ()))))) else (bif (rCmp .lss a1 y1.2.1) then (bif (rCmp .lss y1.2.1 (rConv .i64 (rShift .shr .u64 (rConv .u64 (rArith .add .i64 a1 a3)) (1 : Int)))) then ((rec y1.1 a1 y1.2.1 (rConv .i64 (rShift .shr .u64 (rConv .u64 (rArith .add .i64 a1 a3)) (1 : Int))) a4).bind fun y2 => (lets (rCmp .lss (rConv .i64 (rShift .shr .u64 (rConv .u64 (rArith .add .i64 a1 a3)) (1 : Int))) (rArith .sub .i64 (rArith .add .i64 (rConv .i64 (rShift .shr .u64 (rConv .u64 (rArith .add .i64 a1 a3)) (1 : Int))) a2) y1.2.1)) fun v3 => (bif v3 then (bif (rCmp .lss (rArith .sub .i64 (rArith .add .i64 (rConv .i64 (rShift .shr .u64 (rConv .u64 (rArith .add .i64 a1 a3)) (1 : Int))) a2) y1.2.1) a3) then ((rec y2.1 (rConv .i64 (rShift .shr .u64 (rConv .u64 (rArith .add .i64 a1 a3)) (1 : Int))) (rArith .sub .i64 (rArith .add .i64 (rConv .i64 (rShift .shr .u64 (rConv .u64 (rArith .add .i64 a1 a3)) (1 : Int))) a2) y1.2.1) a3 a4).bind fun y4 => some (y4.1, ())) else some (y2.1, ())) else some (y2.1, ())))) else (lets (rCmp .lss (rConv .i64 (rShift .shr .u64 (rConv .u64 (rArith .add .i64 a1 a3)) (1 : Int))) (rArith .sub .i64 (rArith .add .i64 (rConv .i64 (rShift .shr .u64 (rConv .u64 (rArith .add .i64 a1 a3)) (1 : Int))) a2) y1.2.1)) fun v2 => (bif v2 then (bif (rCmp .lss (rArith .sub .i64 (rArith .add .i64 (rConv .i64 (rShift .shr .u64 (rConv .u64 (rArith .add .i64 a1 a3)) (1 : Int))) a2) y1.2.1) a3) then ((rec y1.1 (rConv .i64 (rShift .shr .u64 (rConv .u64 (rArith .add .i64 a1 a3)) (1 : Int))) (rArith .sub .i64 (rArith .add .i64 (rConv .i64 (rShift .shr .u64 (rConv .u64 (rArith .add .i64 a1 a3)) (1 : Int))) a2) y1.2.1) a3 a4).bind fun y3 => some (y3.1, ())) else some (y1.1, ())) else some (y1.1, ())))) else (lets (rCmp .lss (rConv .i64 (rShift .shr .u64 (rConv .u64 (rArith .add .i64 a1 a3)) (1 : Int))) (rArith .sub .i64 (rArith .add .i64 (rConv .i64 (rShift .shr .u64 (rConv .u64 (rArith .add .i64 a1 a3)) (1 : Int))) a2) y1.2.1)) fun v2 => (bif v2 then (bif (rCmp .lss (rArith .sub .i64 (rArith .add .i64 (rConv .i64 (rShift .shr .u64 (rConv .u64 (rArith .add .i64 a1 a3)) (1 : Int))) a2) y1.2.1) a3) then ((rec y1.1 (rConv .i64 (rShift .shr .u64 (rConv .u64 (rArith .add .i64 a1 a3)) (1 : Int))) (rArith .sub .i64 (rArith .add .i64 (rConv .i64 (rShift .shr .u64 (rConv .u64 (rArith .add .i64 a1 a3)) (1 : Int))) a2) y1.2.1) a3 a4).bind fun y3 => some (y3.1, ())) else some (y1.1, ())) else some (y1.1, ()))))) else (bif (rCmp .lss a1 y1.2.1) then (bif (rCmp .lss y1.2.1 (rConv .i64 (rShift .shr .u64 (rConv .u64 (rArith .add .i64 a1 a3)) (1 : Int)))) then ((rec y1.1 a1 y1.2.1 (rConv .i64 (rShift .shr .u64 (rConv .u64 (rArith .add .i64 a1 a3)) (1 : Int))) a4).bind fun y2 => (lets (rCmp .lss (rConv .i64 (rShift .shr .u64 (rConv .u64 (rArith .add .i64 a1 a3)) (1 : Int))) (rArith .sub .i64 (rArith .add .i64 (rConv .i64 (rShift .shr .u64 (rConv .u64 (rArith .add .i64 a1 a3)) (1 : Int))) a2) y1.2.1)) fun v3 => (bif v3 then (bif (rCmp .lss (rArith .sub .i64 (rArith .add .i64 (rConv .i64 (rShift .shr .u64 (rConv .u64 (rArith .add .i64 a1 a3)) (1 : Int))) a2) y1.2.1) a3) then ((rec y2.1 (rConv .i64 (rShift .shr .u64 (rConv .u64 (rArith .add .i64 a1 a3)) (1 : Int))) (rArith .sub .i64 (rArith .add .i64 (rConv .i64 (rShift .shr .u64 (rConv .u64 (rArith .add .i64 a1 a3)) (1 : Int))) a2) y1.2.1) a3 a4).bind fun y4 => some (y4.1, ())) else some (y2.1, ())) else some (y2.1, ())))) else (lets (rCmp .lss (rConv .i64 (rShift .shr .u64 (rConv .u64 (rArith .add .i64 a1 a3)) (1 : Int))) (rArith .sub .i64 (rArith .add .i64 (rConv .i64 (rShift .shr .u64 (rConv .u64 (rArith .add .i64 a1 a3)) (1 : Int))) a2) y1.2.1)) fun v2 => (bif v2 then (bif (rCmp .lss (rArith .sub .i64 (rArith .add .i64 (rConv .i64 (rShift .shr .u64 (rConv .u64 (rArith .add .i64 a1 a3)) (1 : Int))) a2) y1.2.1) a3) then ((rec y1.1 (rConv .i64 (rShift .shr .u64 (rConv .u64 (rArith .add .i64 a1 a3)) (1 : Int))) (rArith .sub .i64 (rArith .add .i64 (rConv .i64 (rShift .shr .u64 (rConv .u64 (rArith .add .i64 a1 a3)) (1 : Int))) a2) y1.2.1) a3 a4).bind fun y3 => some (y3.1, ())) else some (y1.1, ())) else some (y1.1, ())))) else (lets (rCmp .lss (rConv .i64 (rShift .shr .u64 (rConv .u64 (rArith .add .i64 a1 a3)) (1 : Int))) (rArith .sub .i64 (rArith .add .i64 (rConv .i64 (rShift .shr .u64 (rConv .u64 (rArith .add .i64 a1 a3)) (1 : Int))) a2) y1.2.1)) fun v2 => (bif v2 then (bif (rCmp .lss (rArith .sub .i64 (rArith .add .i64 (rConv .i64 (rShift .shr .u64 (rConv .u64 (rArith .add .i64 a1 a3)) (1 : Int))) a2) y1.2.1) a3) then ((rec y1.1 (rConv .i64 (rShift .shr .u64 (rConv .u64 (rArith .add .i64 a1 a3)) (1 : Int))) (rArith .sub .i64 (rArith .add .i64 (rConv .i64 (rShift .shr .u64 (rConv .u64 (rArith .add .i64 a1 a3)) (1 : Int))) a2) y1.2.1) a3 a4).bind fun y3 => some (y3.1, ())) else some (y1.1, ())) else some (y1.1, ())))))) (fun q2 => (Empty.elim q2)) q0)) else ((slices_symMergeCmpFunc_int___impl_OrderOf_1_l8 rec (a1, a2, a3, a4, (rConv .i64 (rShift .shr .u64 (rConv .u64 (rArith .add .i64 a1 a3)) (1 : Int))), (rArith .add .i64 (rConv .i64 (rShift .shr .u64 (rConv .u64 (rArith .add .i64 a1 a3)) (1 : Int))) a2), (rArith .sub .i64 (rArith .add .i64 (rConv .i64 (rShift .shr .u64 (rConv .u64 (rArith .add .i64 a1 a3)) (1 : Int))) a2) (1 : Int)), ()) (a0, a1, a2, ())).bind fun q0 => (Sum.elim (fun y1 => (bif (rCmp .lss y1.2.1 a2) then (bif (rCmp .lss a2 (rArith .sub .i64 (rArith .add .i64 (rConv .i64 (rShift .shr .u64 (rConv .u64 (rArith .add .i64 a1 a3)) (1 : Int))) a2) y1.2.1)) then ((slices_rotateCmpFunc_int___impl_OrderOf_1 y1.1 y1.2.1 a2 (rArith .sub .i64 (rArith .add .i64 (rConv .i64 (rShift .shr .u64 (rConv .u64 (rArith .add .i64 a1 a3)) (1 : Int))) a2) y1.2.1) a4).bind fun y2 => (bif (rCmp .lss a1 y1.2.1) then (bif (rCmp .lss y1.2.1 (rConv .i64 (rShift .shr .u64 (rConv .u64 (rArith .add .i64 a1 a3)) (1 : Int)))) then ((rec y2.1 a1 y1.2.1 (rConv .i64 (rShift .shr .u64 (rConv .u64 (rArith .add .i64 a1 a3)) (1 : Int))) a4).bind fun y3 => (lets (rCmp .lss (rConv .i64 (rShift .shr .u64 (rConv .u64 (rArith .add .i64 a1 a3)) (1 : Int))) (rArith .sub .i64 (rArith .add .i64 (rConv .i64 (rShift .shr .u64 (rConv .u64 (rArith .add .i64 a1 a3)) (1 : Int))) a2) y1.2.1)) fun v4 => (bif v4 then (bif (rCmp .lss (rArith .sub .i64 (rArith .add .i64 (rConv .i64 (rShift .shr .u64 (rConv .u64 (rArith .add .i64 a1 a3)) (1 : Int))) a2) y1.2.1) a3) then ((rec y3.1 (rConv .i64 (rShift .shr .u64 (rConv .u64 (rArith .add .i64 a1 a3)) (1 : Int))) (rArith .sub .i64 (rArith .add .i64 (rConv .i64 (rShift .shr .u64 (rConv .u64 (rArith .add .i64 a1 a3)) (1 : Int))) a2) y1.2.1) a3 a4).bind fun y5 => some (y5.1, ())) else some (y3.1, ())) else some (y3.1, ())))) else (lets (rCmp .lss (rConv .i64 (rShift .shr .u64 (rConv .u64 (rArith .add .i64 a1 a3)) (1 : Int))) (rArith .sub .i64 (rArith .add .i64 (rConv .i64 (rShift .shr .u64 (rConv .u64 (rArith .add .i64 a1 a3)) (1 : Int))) a2) y1.2.1)) fun v3 => (bif v3 then (bif (rCmp .lss (rArith .sub .i64 (rArith .add .i64 (rConv .i64 (rShift .shr .u64 (rConv .u64 (rArith .add .i64 a1 a3)) (1 : Int))) a2) y1.2.1) a3) then ((rec y2.1 (rConv .i64 (rShift .shr .u64 (rConv .u64 (rArith .add .i64 a1 a3)) (1 : Int))) (rArith .sub .i64 (rArith .add .i64 (rConv .i64 (rShift .shr .u64 (rConv .u64 (rArith .add .i64 a1 a3)) (1 : Int))) a2) y1.2.1) a3 a4).bind fun y4 => some (y4.1, ())) else some (y2.1, ())) else some (y2.1, ())))) else (lets (rCmp .lss (rConv .i64 (rShift .shr .u64 (rConv .u64 (rArith .add .i64 a1 a3)) (1 : Int))) (rArith .sub .i64 (rArith .add .i64 (rConv .i64 (rShift .shr .u64 (rConv .u64 (rArith .add .i64 a1 a3)) (1 : Int))) a2) y1.2.1)) fun v3 => (bif v3 then (bif (rCmp .lss (rArith .sub .i64 (rArith .add .i64 (rConv .i64 (rShift .shr .u64 (rConv .u64 (rArith .add .i64 a1 a3)) (1 : Int))) a2) y1.2.1) a3) then ((rec y2.1 (rConv .i64 (rShift .shr .u64 (rConv .u64 (rArith .add .i64 a1 a3)) (1 : Int))) (rArith .sub .i64 (rArith .add .i64 (rConv .i64 (rShift .shr .u64 (rConv .u64 (rArith .add .i64 a1 a3)) (1 : Int))) a2) y1.2.1) a3 a4).bind fun y4 => some (y4.1, ())) else some (y2.1, ())) else some (y2.1, ()))))) else (bif (rCmp .lss a1 y1.2.1) then (bif (rCmp .lss y1.2.1 (rConv .i64 (rShift .shr .u64 (rConv .u64 (rArith .add .i64 a1 a3)) (1 : Int)))) then ((rec y1.1 a1 y1.2.1 (rConv .i64 (rShift .shr .u64 (rConv .u64 (rArith .add .i64 a1 a3)) (1 : Int))) a4).bind fun y2 => (lets (rCmp .lss (rConv .i64 (rShift .shr .u64 (rConv .u64 (rArith .add .i64 a1 a3)) (1 : Int))) (rArith .sub .i64 (rArith .add .i64 (rConv .i64 (rShift .shr .u64 (rConv .u64 (rArith .add .i64 a1 a3)) (1 : Int))) a2) y1.2.1)) fun v3 => (bif v3 then (bif (rCmp .lss (rArith .sub .i64 (rArith .add .i64 (rConv .i64 (rShift .shr .u64 (rConv .u64 (rArith .add .i64 a1 a3)) (1 : Int))) a2) y1.2.1) a3) then ((rec y2.1 (rConv .i64 (rShift .shr .u64 (rConv .u64 (rArith .add .i64 a1 a3)) (1 : Int))) (rArith .sub .i64 (rArith .add .i64 (rConv .i64 (rShift .shr .u64 (rConv .u64 (rArith .add .i64 a1 a3)) (1 : Int))) a2) y1.2.1) a3 a4).bind fun y4 => some (y4.1, ())) else some (y2.1, ())) else some (y2.1, ())))) else (lets (rCmp .lss (rConv .i64 (rShift .shr .u64 (rConv .u64 (rArith .add .i64 a1 a3)) (1 : Int))) (rArith .sub .i64 (rArith .add .i64 (rConv .i64 (rShift .shr .u64 (rConv .u64 (rArith .add .i64 a1 a3)) (1 : Int))) a2) y1.2.1)) fun v2 => (bif v2 then (bif (rCmp .lss (rArith .sub .i64 (rArith .add .i64 (rConv .i64 (rShift .shr .u64 (rConv .u64 (rArith .add .i64 a1 a3)) (1 : Int))) a2) y1.2.1) a3) then ((rec y1.1 (rConv .i64 (rShift .shr .u64 (rConv .u64 (rArith .add .i64 a1 a3)) (1 : Int))) (rArith .sub .i64 (rArith .add .i64 (rConv .i64 (rShift .shr .u64 (rConv .u64 (rArith .add .i64 a1 a3)) (1 : Int))) a2) y1.2.1) a3 a4).bind fun y3 => some (y3.1, ())) else some (y1.1, ())) else some (y1.1, ())))) else (lets (rCmp .lss (rConv .i64 (rShift .shr .u64 (rConv .u64 (rArith .add .i64 a1 a3)) (1 : Int))) (rArith .sub .i64 (rArith .add .i64 (rConv .i64 (rShift .shr .u64 (rConv .u64 (rArith .add .i64 a1 a3)) (1 : Int))) a2) y1.2.1)) fun v2 => (bif v2 then (bif (rCmp .lss (rArith .sub .i64 (rArith .add .i64 (rConv .i64 (rShift .shr .u64 (rConv .u64 (rArith .add .i64 a1 a3)) (1 : Int))) a2) y1.2.1) a3) then ((rec y1.1 (rConv .i64 (rShift .shr .u64 (rConv .u64 (rArith .add .i64 a1 a3)) (1 : Int))) (rArith .sub .i64 (rArith .add .i64 (rConv .i64 (rShift .shr .u64 (rConv .u64 (rArith .add .i64 a1 a3)) (1 : Int))) a2) y1.2.1) a3 a4).bind fun y3 => some (y3.1, ())) else some (y1.1, ())) else some (y1.1, ()))))) else (bif (rCmp .lss a1 y1.2.1) then (bif (rCmp .lss y1.2.1 (rConv .i64 (rShift .shr .u64 (rConv .u64 (rArith .add .i64 a1 a3)) (1 : Int)))) then ((rec y1.1 a1 y1.2.1 (rConv .i64 (rShift .shr .u64 (rConv .u64 (rArith .add .i64 a1 a3)) (1 : Int))) a4).bind fun y2 => (lets (rCmp .lss (rConv .i64 (rShift .shr .u64 (rConv .u64 (rArith .add .i64 a1 a3)) (1 : Int))) (rArith .sub .i64 (rArith .add .i64 (rConv .i64 (rShift .shr .u64 (rConv .u64 (rArith .add .i64 a1 a3)) (1 : Int))) a2) y1.2.1)) fun v3 => (bif v3 then (bif (rCmp .lss (rArith .sub .i64 (rArith .add .i64 (rConv .i64 (rShift .shr .u64 (rConv .u64 (rArith .add .i64 a1 a3)) (1 : Int))) a2) y1.2.1) a3) then ((rec y2.1 (rConv .i64 (rShift .shr .u64 (rConv .u64 (rArith .add .i64 a1 a3)) (1 : Int))) (rArith .sub .i64 (rArith .add .i64 (rConv .i64 (rShift .shr .u64 (rConv .u64 (rArith .add .i64 a1 a3)) (1 : Int))) a2) y1.2.1) a3 a4).bind fun y4 => some (y4.1, ())) else some (y2.1, ())) else some (y2.1, ())))) else (lets (rCmp .lss (rConv .i64 (rShift .shr .u64 (rConv .u64 (rArith .add .i64 a1 a3)) (1 : Int))) (rArith .sub .i64 (rArith .add .i64 (rConv .i64 (rShift .shr .u64 (rConv .u64 (rArith .add .i64 a1 a3)) (1 : Int))) a2) y1.2.1)) fun v2 => (bif v2 then (bif (rCmp .lss (rArith .sub .i64 (rArith .add .i64 (rConv .i64 (rShift .shr .u64 (rConv .u64 (rArith .add .i64 a1 a3)) (1 : Int))) a2) y1.2.1) a3) then ((rec y1.1 (rConv .i64 (rShift .shr .u64 (rConv .u64 (rArith .add .i64 a1 a3)) (1 : Int))) (rArith .sub .i64 (rArith .add .i64 (rConv .i64 (rShift .shr .u64 (rConv .u64 (rArith .add .i64 a1 a3)) (1 : Int))) a2) y1.2.1) a3 a4).bind fun y3 => some (y3.1, ())) else some (y1.1, ())) else some (y1.1, ())))) else (lets (rCmp .lss (rConv .i64 (rShift .shr .u64 (rConv .u64 (rArith .add .i64 a1 a3)) (1 : Int))) (rArith .sub .i64 (rArith .add .i64 (rConv .i64 (rShift .shr .u64 (rConv .u64 (rArith .add .i64 a1 a3)) (1 : Int))) a2) y1.2.1)) fun v2 => (bif v2 then (bif (rCmp .lss (rArith .sub .i64 (rArith .add .i64 (rConv .i64 (rShift .shr .u64 (rConv .u64 (rArith .add .i64 a1 a3)) (1 : Int))) a2) y1.2.1) a3) then ((rec y1.1 (rConv .i64 (rShift .shr .u64 (rConv .u64 (rArith .add .i64 a1 a3)) (1 : Int))) (rArith .sub .i64 (rArith .add .i64 (rConv .i64 (rShift .shr .u64 (rConv .u64 (rArith .add .i64 a1 a3)) (1 : Int))) a2) y1.2.1) a3 a4).bind fun y3 => some (y3.1, ())) else some (y1.1, ())) else some (y1.1, ())))))) (fun q2 => (Empty.elim q2)) q0))))))
noncomputable def slices_symMergeCmpFunc_int___impl_OrderOf_1_f : Nat → (List (Int)) → Int → Int → Int → (List (Int × Int × Int × Int × Int × Int × Int)) → Option ((List (Int)) × Unit) | 0 => fun _ _ _ _ _ => none | n + 1 => slices_symMergeCmpFunc_int___impl_OrderOf_1_r (slices_symMergeCmpFunc_int___impl_OrderOf_1_f n)
noncomputable def slices_symMergeCmpFunc_int___impl_OrderOf_1 (a0 : (List (Int))) (a1 : Int) (a2 : Int) (a3 : Int) (a4 : (List (Int × Int × Int × Int × Int × Int × Int))) : Option ((List (Int)) × Unit) := slices_symMergeCmpFunc_int___impl_OrderOf_1_f big a0 a1 a2 a3 a4
noncomputable def slices_stableCmpFunc_int___impl_OrderOf_1_b0 (k : Int × (List (Int × Int × Int × Int × Int × Int × Int)) × Int × Unit) (x : (List (Int)) × Int × Int × Unit) : Option (((List (Int)) × Int × Int × Unit) ⊕ ((List (Int)) × Int × Unit ⊕ Empty)) :=
  (bif (rCmp .leq x.2.2.1 k.1) then ((slices_insertionSortCmpFunc_int___impl_OrderOf_1 x.1 x.2.1 x.2.2.1 k.2.1).bind fun y0 => some (.inl (y0.1, x.2.2.1, (rArith .add .i64 x.2.2.1 k.2.2.1), ()))) else some (.inr (.inl (x.1, x.2.1, ()))))
noncomputable def slices_stableCmpFunc_int___impl_OrderOf_1_l0 (k : Int × (List (Int × Int × Int × Int × Int × Int × Int)) × Int × Unit) (x : (List (Int)) × Int × Int × Unit) : Option ((List (Int)) × Int × Unit ⊕ Empty) := iter (slices_stableCmpFunc_int___impl_OrderOf_1_b0 k) big x
noncomputable def slices_stableCmpFunc_int___impl_OrderOf_1_b4 (k : Int × (List (Int × Int × Int × Int × Int × Int × Int)) × Int × Unit) (x : (List (Int)) × Int × Int × Unit) : Option (((List (Int)) × Int × Int × Unit) ⊕ ((List (Int)) × Int × Unit ⊕ Empty)) :=
  (bif (rCmp .leq x.2.2.1 k.1) then ((slices_symMergeCmpFunc_int___impl_OrderOf_1 x.1 x.2.1 (rArith .add .i64 x.2.1 k.2.2.1) x.2.2.1 k.2.1).bind fun y0 => some (.inl (y0.1, x.2.2.1, (rArith .add .i64 x.2.2.1 (rArith .mul .i64 (2 : Int) k.2.2.1)), ()))) else some (.inr (.inl (x.1, x.2.1, ()))))
noncomputable def slices_stableCmpFunc_int___impl_OrderOf_1_l4 (k : Int × (List (Int × Int × Int × Int × Int × Int × Int)) × Int × Unit) (x : (List (Int)) × Int × Int × Unit) : Option ((List (Int)) × Int × Unit ⊕ Empty) := iter (slices_stableCmpFunc_int___impl_OrderOf_1_b4 k) big x
noncomputable def slices_stableCmpFunc_int___impl_OrderOf_1_b2 (k : Int × (List (Int × Int × Int × Int × Int × Int × Int)) × Unit) (x : (List (Int)) × Int × Unit) : Option (((List (Int)) × Int × Unit) ⊕ ((List (Int)) × Unit ⊕ Empty)) :=
  (bif (rCmp .lss x.2.1 k.1) then ((slices_stableCmpFunc_int___impl_OrderOf_1_l4 (k.1, k.2.1, x.2.1, ()) (x.1, (0 : Int), (rArith .mul .i64 (2 : Int) x.2.1), ())).bind fun q0 => (Sum.elim (fun y1 => (bif (rCmp .lss (rArith .add .i64 y1.2.1 x.2.1) k.1) then ((slices_symMergeCmpFunc_int___impl_OrderOf_1 y1.1 y1.2.1 (rArith .add .i64 y1.2.1 x.2.1) k.1 k.2.1).bind fun y2 => some (.inl (y2.1, (rArith .mul .i64 x.2.1 (2 : Int)), ()))) else some (.inl (y1.1, (rArith .mul .i64 x.2.1 (2 : Int)), ())))) (fun q2 => (Empty.elim q2)) q0)) else some (.inr (.inl (x.1, ()))))
noncomputable def slices_stableCmpFunc_int___impl_OrderOf_1_l2 (k : Int × (List (Int × Int × Int × Int × Int × Int × Int)) × Unit) (x : (List (Int)) × Int × Unit) : Option ((List (Int)) × Unit ⊕ Empty) := iter (slices_stableCmpFunc_int___impl_OrderOf_1_b2 k) big x
noncomputable def slices_stableCmpFunc_int___impl_OrderOf_1 (a0 : (List (Int))) (a1 : Int) (a2 : (List (Int × Int × Int × Int × Int × Int × Int))) : Option ((List (Int)) × Unit) :=
  ((slices_stableCmpFunc_int___impl_OrderOf_1_l0 (a1, a2, (20 : Int), ()) (a0, (0 : Int), (20 : Int), ())).bind fun q0 => (Sum.elim (fun y1 => ((slices_insertionSortCmpFunc_int___impl_OrderOf_1 y1.1 y1.2.1 a1 a2).bind fun y2 => ((slices_stableCmpFunc_int___impl_OrderOf_1_l2 (a1, a2, ()) (y2.1, (20 : Int), ())).bind fun q3 => (Sum.elim (fun y4 => some (y4.1, ())) (fun q5 => (Empty.elim q5)) q3)))) (fun q2 => (Empty.elim q2)) q0))
noncomputable def slices_SortStableFunc___int_int___impl_OrderOf_1 (a0 : (List (Int))) (a1 : (List (Int × Int × Int × Int × Int × Int × Int))) : Option ((List (Int)) × Unit) :=
  ((slices_stableCmpFunc_int___impl_OrderOf_1 a0 (rLen a0) a1).bind fun y0 => some (y0.1, ()))
noncomputable def impl_OrderOf_b0 (k : Int × Unit) (x : (List (Int × Int × Int × Int × Int × Int × Int)) × (List (Int)) × Int × Unit) : Option (((List (Int × Int × Int × Int × Int × Int × Int)) × (List (Int)) × Int × Unit) ⊕ ((List (Int × Int × Int × Int × Int × Int × Int)) × (List (Int)) × Unit ⊕ Empty)) :=
  (bif (rCmp .lss x.2.2.1 k.1) then (bif (rSmall (List.append (α := Int) x.2.1 (List.append (α := Int) ([] : List (Int)) [x.2.2.1]))) then some (.inl (x.1, (List.append (α := Int) x.2.1 (List.append (α := Int) ([] : List (Int)) [x.2.2.1])), (rArith .add .i64 x.2.2.1 (1 : Int)), ())) else none) else some (.inr (.inl (x.1, x.2.1, ()))))
noncomputable def impl_OrderOf_l0 (k : Int × Unit) (x : (List (Int × Int × Int × Int × Int × Int × Int)) × (List (Int)) × Int × Unit) : Option ((List (Int × Int × Int × Int × Int × Int × Int)) × (List (Int)) × Unit ⊕ Empty) := iter (impl_OrderOf_b0 k) big x
noncomputable def impl_OrderOf (a0 : (List (Int × Int × Int × Int × Int × Int × Int))) : Option ((List (Int)) × Unit) :=
  ((impl_JournalOk a0).bind fun y0 => (bif (Bool.not y0.1) then some (([] : List (Int)), ()) else ((impl_OrderOf_l0 ((rLen a0), ()) (a0, ([] : List (Int)), (0 : Int), ())).bind fun q1 => (Sum.elim (fun y2 => ((slices_SortStableFunc___int_int___impl_OrderOf_1 y2.2.1 y2.1).bind fun y3 => some (y3.1, ()))) (fun q3 => (Empty.elim q3)) q1))))
noncomputable def spec_l08Next (a0 : Int) (a1 : Int) (a2 : Int) (a3 : Int) (a4 : Int) (a5 : Int) (a6 : Int) (a7 : Int) (a8 : Int) (a9 : Int) (a10 : Int) (a11 : Int) (a12 : Int) (a13 : Int) : Option (Int × Int × Int × Int × Int × Int × Int × Unit) :=
  (bif (rCmp .eql a10 (1 : Int)) then (bif (rCmp .eql a0 (0 : Int)) then some ((1 : Int), a12, a13, a3, a4, a5, a6, ()) else (bif (rCmp .eql a10 (2 : Int)) then (bif (rCmp .eql a0 (1 : Int)) then some (a0, a1, a2, (rArith .add .i64 a3 (1 : Int)), a4, a5, a6, ()) else (bif (rCmp .eql a10 (3 : Int)) then (bif (rCmp .eql a0 (1 : Int)) then some ((2 : Int), a1, a2, a3, a12, a13, a6, ()) else (bif (rCmp .eql a10 (4 : Int)) then (bif (rCmp .eql a0 (1 : Int)) then some ((3 : Int), a1, a2, a3, a4, a13, a6, ()) else some (a0, a1, a2, a3, a4, a5, (rArith .add .i64 a6 (1 : Int)), ())) else some (a0, a1, a2, a3, a4, a5, (rArith .add .i64 a6 (1 : Int)), ()))) else (bif (rCmp .eql a10 (4 : Int)) then (bif (rCmp .eql a0 (1 : Int)) then some ((3 : Int), a1, a2, a3, a4, a13, a6, ()) else some (a0, a1, a2, a3, a4, a5, (rArith .add .i64 a6 (1 : Int)), ())) else some (a0, a1, a2, a3, a4, a5, (rArith .add .i64 a6 (1 : Int)), ())))) else (bif (rCmp .eql a10 (3 : Int)) then (bif (rCmp .eql a0 (1 : Int)) then some ((2 : Int), a1, a2, a3, a12, a13, a6, ()) else (bif (rCmp .eql a10 (4 : Int)) then (bif (rCmp .eql a0 (1 : Int)) then some ((3 : Int), a1, a2, a3, a4, a13, a6, ()) else some (a0, a1, a2, a3, a4, a5, (rArith .add .i64 a6 (1 : Int)), ())) else some (a0, a1, a2, a3, a4, a5, (rArith .add .i64 a6 (1 : Int)), ()))) else (bif (rCmp .eql a10 (4 : Int)) then (bif (rCmp .eql a0 (1 : Int)) then some ((3 : Int), a1, a2, a3, a4, a13, a6, ()) else some (a0, a1, a2, a3, a4, a5, (rArith .add .i64 a6 (1 : Int)), ())) else some (a0, a1, a2, a3, a4, a5, (rArith .add .i64 a6 (1 : Int)), ()))))) else (bif (rCmp .eql a10 (2 : Int)) then (bif (rCmp .eql a0 (1 : Int)) then some (a0, a1, a2, (rArith .add .i64 a3 (1 : Int)), a4, a5, a6, ()) else (bif (rCmp .eql a10 (3 : Int)) then (bif (rCmp .eql a0 (1 : Int)) then some ((2 : Int), a1, a2, a3, a12, a13, a6, ()) else (bif (rCmp .eql a10 (4 : Int)) then (bif (rCmp .eql a0 (1 : Int)) then some ((3 : Int), a1, a2, a3, a4, a13, a6, ()) else some (a0, a1, a2, a3, a4, a5, (rArith .add .i64 a6 (1 : Int)), ())) else some (a0, a1, a2, a3, a4, a5, (rArith .add .i64 a6 (1 : Int)), ()))) else (bif (rCmp .eql a10 (4 : Int)) then (bif (rCmp .eql a0 (1 : Int)) then some ((3 : Int), a1, a2, a3, a4, a13, a6, ()) else some (a0, a1, a2, a3, a4, a5, (rArith .add .i64 a6 (1 : Int)), ())) else some (a0, a1, a2, a3, a4, a5, (rArith .add .i64 a6 (1 : Int)), ())))) else (bif (rCmp .eql a10 (3 : Int)) then (bif (rCmp .eql a0 (1 : Int)) then some ((2 : Int), a1, a2, a3, a12, a13, a6, ()) else (bif (rCmp .eql a10 (4 : Int)) then (bif (rCmp .eql a0 (1 : Int)) then some ((3 : Int), a1, a2, a3, a4, a13, a6, ()) else some (a0, a1, a2, a3, a4, a5, (rArith .add .i64 a6 (1 : Int)), ())) else some (a0, a1, a2, a3, a4, a5, (rArith .add .i64 a6 (1 : Int)), ()))) else (bif (rCmp .eql a10 (4 : Int)) then (bif (rCmp .eql a0 (1 : Int)) then some ((3 : Int), a1, a2, a3, a4, a13, a6, ()) else some (a0, a1, a2, a3, a4, a5, (rArith .add .i64 a6 (1 : Int)), ())) else some (a0, a1, a2, a3, a4, a5, (rArith .add .i64 a6 (1 : Int)), ())))))
noncomputable def spec_FateOf_b0 (k : (List (Int × Int × Int × Int × Int × Int × Int)) × Int × Unit) (x : Int × Int × Int × Int × Int × Int × Int × Int × Int × Int × Int × Int × Int × Int × (List (Int)) × Int × Unit) : Option ((Int × Int × Int × Int × Int × Int × Int × Int × Int × Int × Int × Int × Int × Int × (List (Int)) × Int × Unit) ⊕ (Int × Int × Int × Int × Int × Int × Int × Int × Int × Int × Int × Int × Int × Int × Unit ⊕ Empty)) :=
  (bif (rCmp .lss x.2.2.2.2.2.2.2.2.2.2.2.2.2.2.2.1 (rLen x.2.2.2.2.2.2.2.2.2.2.2.2.2.2.1)) then (bif (rInR x.2.2.2.2.2.2.2.2.2.2.2.2.2.2.1 x.2.2.2.2.2.2.2.2.2.2.2.2.2.2.2.1) then (bif (rInR k.1 (rGet zI x.2.2.2.2.2.2.2.2.2.2.2.2.2.2.1 x.2.2.2.2.2.2.2.2.2.2.2.2.2.2.2.1)) then (bif (rCmp .eql (rGet zIIIIIII k.1 (rGet zI x.2.2.2.2.2.2.2.2.2.2.2.2.2.2.1 x.2.2.2.2.2.2.2.2.2.2.2.2.2.2.2.1)).2.2.2.2.1 k.2.1) then ((spec_l08Next x.2.2.2.2.2.2.2.1 x.2.2.2.2.2.2.2.2.1 x.2.2.2.2.2.2.2.2.2.1 x.2.2.2.2.2.2.2.2.2.2.1 x.2.2.2.2.2.2.2.2.2.2.2.1 x.2.2.2.2.2.2.2.2.2.2.2.2.1 x.2.2.2.2.2.2.2.2.2.2.2.2.2.1 (rGet zIIIIIII k.1 (rGet zI x.2.2.2.2.2.2.2.2.2.2.2.2.2.2.1 x.2.2.2.2.2.2.2.2.2.2.2.2.2.2.2.1)).1 (rGet zIIIIIII k.1 (rGet zI x.2.2.2.2.2.2.2.2.2.2.2.2.2.2.1 x.2.2.2.2.2.2.2.2.2.2.2.2.2.2.2.1)).2.1 (rGet zIIIIIII k.1 (rGet zI x.2.2.2.2.2.2.2.2.2.2.2.2.2.2.1 x.2.2.2.2.2.2.2.2.2.2.2.2.2.2.2.1)).2.2.1 (rGet zIIIIIII k.1 (rGet zI x.2.2.2.2.2.2.2.2.2.2.2.2.2.2.1 x.2.2.2.2.2.2.2.2.2.2.2.2.2.2.2.1)).2.2.2.1 (rGet zIIIIIII k.1 (rGet zI x.2.2.2.2.2.2.2.2.2.2.2.2.2.2.1 x.2.2.2.2.2.2.2.2.2.2.2.2.2.2.2.1)).2.2.2.2.1 (rGet zIIIIIII k.1 (rGet zI x.2.2.2.2.2.2.2.2.2.2.2.2.2.2.1 x.2.2.2.2.2.2.2.2.2.2.2.2.2.2.2.1)).2.2.2.2.2.1 (rGet zIIIIIII k.1 (rGet zI x.2.2.2.2.2.2.2.2.2.2.2.2.2.2.1 x.2.2.2.2.2.2.2.2.2.2.2.2.2.2.2.1)).2.2.2.2.2.2).bind fun y0 => some (.inl (x.1, x.2.1, x.2.2.1, x.2.2.2.1, x.2.2.2.2.1, x.2.2.2.2.2.1, x.2.2.2.2.2.2.1, y0.1, y0.2.1, y0.2.2.1, y0.2.2.2.1, y0.2.2.2.2.1, y0.2.2.2.2.2.1, y0.2.2.2.2.2.2.1, x.2.2.2.2.2.2.2.2.2.2.2.2.2.2.1, (rArith .add .i64 x.2.2.2.2.2.2.2.2.2.2.2.2.2.2.2.1 (1 : Int)), ()))) else some (.inl (x.1, x.2.1, x.2.2.1, x.2.2.2.1, x.2.2.2.2.1, x.2.2.2.2.2.1, x.2.2.2.2.2.2.1, x.2.2.2.2.2.2.2.1, x.2.2.2.2.2.2.2.2.1, x.2.2.2.2.2.2.2.2.2.1, x.2.2.2.2.2.2.2.2.2.2.1, x.2.2.2.2.2.2.2.2.2.2.2.1, x.2.2.2.2.2.2.2.2.2.2.2.2.1, x.2.2.2.2.2.2.2.2.2.2.2.2.2.1, x.2.2.2.2.2.2.2.2.2.2.2.2.2.2.1, (rArith .add .i64 x.2.2.2.2.2.2.2.2.2.2.2.2.2.2.2.1 (1 : Int)), ()))) else none) else none) else some (.inr (.inl (x.1, x.2.1, x.2.2.1, x.2.2.2.1, x.2.2.2.2.1, x.2.2.2.2.2.1, x.2.2.2.2.2.2.1, x.2.2.2.2.2.2.2.1, x.2.2.2.2.2.2.2.2.1, x.2.2.2.2.2.2.2.2.2.1, x.2.2.2.2.2.2.2.2.2.2.1, x.2.2.2.2.2.2.2.2.2.2.2.1, x.2.2.2.2.2.2.2.2.2.2.2.2.1, x.2.2.2.2.2.2.2.2.2.2.2.2.2.1, ()))))
noncomputable def spec_FateOf_l0 (k : (List (Int × Int × Int × Int × Int × Int × Int)) × Int × Unit) (x : Int × Int × Int × Int × Int × Int × Int × Int × Int × Int × Int × Int × Int × Int × (List (Int)) × Int × Unit) : Option (Int × Int × Int × Int × Int × Int × Int × Int × Int × Int × Int × Int × Int × Int × Unit ⊕ Empty) := iter (spec_FateOf_b0 k) big x
noncomputable def spec_FateOf (a0 : (List (Int × Int × Int × Int × Int × Int × Int))) (a1 : Int) : Option (Int × Int × Int × Int × Int × Int × Int × Unit) :=
  ((spec_OrderOf a0).bind fun y0 => ((spec_FateOf_l0 (a0, a1, ()) ((0 : Int), (0 : Int), (0 : Int), (0 : Int), (0 : Int), (0 : Int), (0 : Int), (0 : Int), (0 : Int), (0 : Int), (0 : Int), (0 : Int), (0 : Int), (0 : Int), y0.1, (0 : Int), ())).bind fun q1 => (Sum.elim (fun y2 => some (y2.2.2.2.2.2.2.2.1, y2.2.2.2.2.2.2.2.2.1, y2.2.2.2.2.2.2.2.2.2.1, y2.2.2.2.2.2.2.2.2.2.2.1, y2.2.2.2.2.2.2.2.2.2.2.2.1, y2.2.2.2.2.2.2.2.2.2.2.2.2.1, y2.2.2.2.2.2.2.2.2.2.2.2.2.2.1, ())) (fun q3 => (Empty.elim q3)) q1)))
noncomputable def impl_FateOf_b0 (k : (List (Int × Int × Int × Int × Int × Int × Int)) × Int × Int × Unit) (x : Int × Int × Int × Int × Int × Int × Int × Int × Int × Int × Int × Int × Int × Int × (List (Int)) × Int × Unit) : Option ((Int × Int × Int × Int × Int × Int × Int × Int × Int × Int × Int × Int × Int × Int × (List (Int)) × Int × Unit) ⊕ (Int × Int × Int × Int × Int × Int × Int × Int × Int × Int × Int × Int × Int × Int × Unit ⊕ Empty)) :=
  (bif (rCmp .lss x.2.2.2.2.2.2.2.2.2.2.2.2.2.2.2.1 k.2.2.1) then (bif (rInR x.2.2.2.2.2.2.2.2.2.2.2.2.2.2.1 x.2.2.2.2.2.2.2.2.2.2.2.2.2.2.2.1) then (bif (rInR k.1 (rGet zI x.2.2.2.2.2.2.2.2.2.2.2.2.2.2.1 x.2.2.2.2.2.2.2.2.2.2.2.2.2.2.2.1)) then (bif (rCmp .neq (rGet zIIIIIII k.1 (rGet zI x.2.2.2.2.2.2.2.2.2.2.2.2.2.2.1 x.2.2.2.2.2.2.2.2.2.2.2.2.2.2.2.1)).2.2.2.2.1 k.2.1) then some (.inl (x.1, x.2.1, x.2.2.1, x.2.2.2.1, x.2.2.2.2.1, x.2.2.2.2.2.1, x.2.2.2.2.2.2.1, x.2.2.2.2.2.2.2.1, x.2.2.2.2.2.2.2.2.1, x.2.2.2.2.2.2.2.2.2.1, x.2.2.2.2.2.2.2.2.2.2.1, x.2.2.2.2.2.2.2.2.2.2.2.1, x.2.2.2.2.2.2.2.2.2.2.2.2.1, x.2.2.2.2.2.2.2.2.2.2.2.2.2.1, x.2.2.2.2.2.2.2.2.2.2.2.2.2.2.1, (rArith .add .i64 x.2.2.2.2.2.2.2.2.2.2.2.2.2.2.2.1 (1 : Int)), ())) else (bif (rCmp .eql (rGet zIIIIIII k.1 (rGet zI x.2.2.2.2.2.2.2.2.2.2.2.2.2.2.1 x.2.2.2.2.2.2.2.2.2.2.2.2.2.2.2.1)).2.2.2.1 (1 : Int)) then (bif (rCmp .neq x.2.2.2.2.2.2.2.1 (0 : Int)) then some (.inl (x.1, x.2.1, x.2.2.1, x.2.2.2.1, x.2.2.2.2.1, x.2.2.2.2.2.1, x.2.2.2.2.2.2.1, x.2.2.2.2.2.2.2.1, x.2.2.2.2.2.2.2.2.1, x.2.2.2.2.2.2.2.2.2.1, x.2.2.2.2.2.2.2.2.2.2.1, x.2.2.2.2.2.2.2.2.2.2.2.1, x.2.2.2.2.2.2.2.2.2.2.2.2.1, (rArith .add .i64 x.2.2.2.2.2.2.2.2.2.2.2.2.2.1 (1 : Int)), x.2.2.2.2.2.2.2.2.2.2.2.2.2.2.1, (rArith .add .i64 x.2.2.2.2.2.2.2.2.2.2.2.2.2.2.2.1 (1 : Int)), ())) else (bif (rCmp .eql (rGet zIIIIIII k.1 (rGet zI x.2.2.2.2.2.2.2.2.2.2.2.2.2.2.1 x.2.2.2.2.2.2.2.2.2.2.2.2.2.2.2.1)).2.2.2.1 (1 : Int)) then some (.inl (x.1, x.2.1, x.2.2.1, x.2.2.2.1, x.2.2.2.2.1, x.2.2.2.2.2.1, x.2.2.2.2.2.2.1, (1 : Int), (rGet zIIIIIII k.1 (rGet zI x.2.2.2.2.2.2.2.2.2.2.2.2.2.2.1 x.2.2.2.2.2.2.2.2.2.2.2.2.2.2.2.1)).2.2.2.2.2.1, (rGet zIIIIIII k.1 (rGet zI x.2.2.2.2.2.2.2.2.2.2.2.2.2.2.1 x.2.2.2.2.2.2.2.2.2.2.2.2.2.2.2.1)).2.2.2.2.2.2, x.2.2.2.2.2.2.2.2.2.2.1, x.2.2.2.2.2.2.2.2.2.2.2.1, x.2.2.2.2.2.2.2.2.2.2.2.2.1, x.2.2.2.2.2.2.2.2.2.2.2.2.2.1, x.2.2.2.2.2.2.2.2.2.2.2.2.2.2.1, (rArith .add .i64 x.2.2.2.2.2.2.2.2.2.2.2.2.2.2.2.1 (1 : Int)), ())) else (bif (rCmp .eql (rGet zIIIIIII k.1 (rGet zI x.2.2.2.2.2.2.2.2.2.2.2.2.2.2.1 x.2.2.2.2.2.2.2.2.2.2.2.2.2.2.2.1)).2.2.2.1 (2 : Int)) then some (.inl (x.1, x.2.1, x.2.2.1, x.2.2.2.1, x.2.2.2.2.1, x.2.2.2.2.2.1, x.2.2.2.2.2.2.1, x.2.2.2.2.2.2.2.1, x.2.2.2.2.2.2.2.2.1, x.2.2.2.2.2.2.2.2.2.1, (rArith .add .i64 x.2.2.2.2.2.2.2.2.2.2.1 (1 : Int)), x.2.2.2.2.2.2.2.2.2.2.2.1, x.2.2.2.2.2.2.2.2.2.2.2.2.1, x.2.2.2.2.2.2.2.2.2.2.2.2.2.1, x.2.2.2.2.2.2.2.2.2.2.2.2.2.2.1, (rArith .add .i64 x.2.2.2.2.2.2.2.2.2.2.2.2.2.2.2.1 (1 : Int)), ())) else (bif (rCmp .eql (rGet zIIIIIII k.1 (rGet zI x.2.2.2.2.2.2.2.2.2.2.2.2.2.2.1 x.2.2.2.2.2.2.2.2.2.2.2.2.2.2.2.1)).2.2.2.1 (3 : Int)) then some (.inl (x.1, x.2.1, x.2.2.1, x.2.2.2.1, x.2.2.2.2.1, x.2.2.2.2.2.1, x.2.2.2.2.2.2.1, (2 : Int), x.2.2.2.2.2.2.2.2.1, x.2.2.2.2.2.2.2.2.2.1, x.2.2.2.2.2.2.2.2.2.2.1, (rGet zIIIIIII k.1 (rGet zI x.2.2.2.2.2.2.2.2.2.2.2.2.2.2.1 x.2.2.2.2.2.2.2.2.2.2.2.2.2.2.2.1)).2.2.2.2.2.1, (rGet zIIIIIII k.1 (rGet zI x.2.2.2.2.2.2.2.2.2.2.2.2.2.2.1 x.2.2.2.2.2.2.2.2.2.2.2.2.2.2.2.1)).2.2.2.2.2.2, x.2.2.2.2.2.2.2.2.2.2.2.2.2.1, x.2.2.2.2.2.2.2.2.2.2.2.2.2.2.1, (rArith .add .i64 x.2.2.2.2.2.2.2.2.2.2.2.2.2.2.2.1 (1 : Int)), ())) else (bif (rCmp .eql (rGet zIIIIIII k.1 (rGet zI x.2.2.2.2.2.2.2.2.2.2.2.2.2.2.1 x.2.2.2.2.2.2.2.2.2.2.2.2.2.2.2.1)).2.2.2.1 (4 : Int)) then some (.inl (x.1, x.2.1, x.2.2.1, x.2.2.2.1, x.2.2.2.2.1, x.2.2.2.2.2.1, x.2.2.2.2.2.2.1, (3 : Int), x.2.2.2.2.2.2.2.2.1, x.2.2.2.2.2.2.2.2.2.1, x.2.2.2.2.2.2.2.2.2.2.1, x.2.2.2.2.2.2.2.2.2.2.2.1, (rGet zIIIIIII k.1 (rGet zI x.2.2.2.2.2.2.2.2.2.2.2.2.2.2.1 x.2.2.2.2.2.2.2.2.2.2.2.2.2.2.2.1)).2.2.2.2.2.2, x.2.2.2.2.2.2.2.2.2.2.2.2.2.1, x.2.2.2.2.2.2.2.2.2.2.2.2.2.2.1, (rArith .add .i64 x.2.2.2.2.2.2.2.2.2.2.2.2.2.2.2.1 (1 : Int)), ())) else some (.inl (x.1, x.2.1, x.2.2.1, x.2.2.2.1, x.2.2.2.2.1, x.2.2.2.2.2.1, x.2.2.2.2.2.2.1, x.2.2.2.2.2.2.2.1, x.2.2.2.2.2.2.2.2.1, x.2.2.2.2.2.2.2.2.2.1, x.2.2.2.2.2.2.2.2.2.2.1, x.2.2.2.2.2.2.2.2.2.2.2.1, x.2.2.2.2.2.2.2.2.2.2.2.2.1, x.2.2.2.2.2.2.2.2.2.2.2.2.2.1, x.2.2.2.2.2.2.2.2.2.2.2.2.2.2.1, (rArith .add .i64 x.2.2.2.2.2.2.2.2.2.2.2.2.2.2.2.1 (1 : Int)), ()))))))) else (bif (rCmp .neq x.2.2.2.2.2.2.2.1 (1 : Int)) then some (.inl (x.1, x.2.1, x.2.2.1, x.2.2.2.1, x.2.2.2.2.1, x.2.2.2.2.2.1, x.2.2.2.2.2.2.1, x.2.2.2.2.2.2.2.1, x.2.2.2.2.2.2.2.2.1, x.2.2.2.2.2.2.2.2.2.1, x.2.2.2.2.2.2.2.2.2.2.1, x.2.2.2.2.2.2.2.2.2.2.2.1, x.2.2.2.2.2.2.2.2.2.2.2.2.1, (rArith .add .i64 x.2.2.2.2.2.2.2.2.2.2.2.2.2.1 (1 : Int)), x.2.2.2.2.2.2.2.2.2.2.2.2.2.2.1, (rArith .add .i64 x.2.2.2.2.2.2.2.2.2.2.2.2.2.2.2.1 (1 : Int)), ())) else (bif (rCmp .eql (rGet zIIIIIII k.1 (rGet zI x.2.2.2.2.2.2.2.2.2.2.2.2.2.2.1 x.2.2.2.2.2.2.2.2.2.2.2.2.2.2.2.1)).2.2.2.1 (1 : Int)) then some (.inl (x.1, x.2.1, x.2.2.1, x.2.2.2.1, x.2.2.2.2.1, x.2.2.2.2.2.1, x.2.2.2.2.2.2.1, (1 : Int), (rGet zIIIIIII k.1 (rGet zI x.2.2.2.2.2.2.2.2.2.2.2.2.2.2.1 x.2.2.2.2.2.2.2.2.2.2.2.2.2.2.2.1)).2.2.2.2.2.1, (rGet zIIIIIII k.1 (rGet zI x.2.2.2.2.2.2.2.2.2.2.2.2.2.2.1 x.2.2.2.2.2.2.2.2.2.2.2.2.2.2.2.1)).2.2.2.2.2.2, x.2.2.2.2.2.2.2.2.2.2.1, x.2.2.2.2.2.2.2.2.2.2.2.1, x.2.2.2.2.2.2.2.2.2.2.2.2.1, x.2.2.2.2.2.2.2.2.2.2.2.2.2.1, x.2.2.2.2.2.2.2.2.2.2.2.2.2.2.1, (rArith .add .i64 x.2.2.2.2.2.2.2.2.2.2.2.2.2.2.2.1 (1 : Int)), ())) else (bif (rCmp .eql (rGet zIIIIIII k.1 (rGet zI x.2.2.2.2.2.2.2.2.2.2.2.2.2.2.1 x.2.2.2.2.2.2.2.2.2.2.2.2.2.2.2.1)).2.2.2.1 (2 : Int)) then some (.inl (x.1, x.2.1, x.2.2.1, x.2.2.2.1, x.2.2.2.2.1, x.2.2.2.2.2.1, x.2.2.2.2.2.2.1, x.2.2.2.2.2.2.2.1, x.2.2.2.2.2.2.2.2.1, x.2.2.2.2.2.2.2.2.2.1, (rArith .add .i64 x.2.2.2.2.2.2.2.2.2.2.1 (1 : Int)), x.2.2.2.2.2.2.2.2.2.2.2.1, x.2.2.2.2.2.2.2.2.2.2.2.2.1, x.2.2.2.2.2.2.2.2.2.2.2.2.2.1, x.2.2.2.2.2.2.2.2.2.2.2.2.2.2.1, (rArith .add .i64 x.2.2.2.2.2.2.2.2.2.2.2.2.2.2.2.1 (1 : Int)), ())) else (bif (rCmp .eql (rGet zIIIIIII k.1 (rGet zI x.2.2.2.2.2.2.2.2.2.2.2.2.2.2.1 x.2.2.2.2.2.2.2.2.2.2.2.2.2.2.2.1)).2.2.2.1 (3 : Int)) then some (.inl (x.1, x.2.1, x.2.2.1, x.2.2.2.1, x.2.2.2.2.1, x.2.2.2.2.2.1, x.2.2.2.2.2.2.1, (2 : Int), x.2.2.2.2.2.2.2.2.1, x.2.2.2.2.2.2.2.2.2.1, x.2.2.2.2.2.2.2.2.2.2.1, (rGet zIIIIIII k.1 (rGet zI x.2.2.2.2.2.2.2.2.2.2.2.2.2.2.1 x.2.2.2.2.2.2.2.2.2.2.2.2.2.2.2.1)).2.2.2.2.2.1, (rGet zIIIIIII k.1 (rGet zI x.2.2.2.2.2.2.2.2.2.2.2.2.2.2.1 x.2.2.2.2.2.2.2.2.2.2.2.2.2.2.2.1)).2.2.2.2.2.2, x.2.2.2.2.2.2.2.2.2.2.2.2.2.1, x.2.2.2.2.2.2.2.2.2.2.2.2.2.2.1, (rArith .add .i64 x.2.2.2.2.2.2.2.2.2.2.2.2.2.2.2.1 (1 : Int)), ())) else (bif (rCmp .eql (rGet zIIIIIII k.1 (rGet zI x.2.2.2.2.2.2.2.2.2.2.2.2.2.2.1 x.2.2.2.2.2.2.2.2.2.2.2.2.2.2.2.1)).2.2.2.1 (4 : Int)) then some (.inl (x.1, x.2.1, x.2.2.1, x.2.2.2.1, x.2.2.2.2.1, x.2.2.2.2.2.1, x.2.2.2.2.2.2.1, (3 : Int), x.2.2.2.2.2.2.2.2.1, x.2.2.2.2.2.2.2.2.2.1, x.2.2.2.2.2.2.2.2.2.2.1, x.2.2.2.2.2.2.2.2.2.2.2.1, (rGet zIIIIIII k.1 (rGet zI x.2.2.2.2.2.2.2.2.2.2.2.2.2.2.1 x.2.2.2.2.2.2.2.2.2.2.2.2.2.2.2.1)).2.2.2.2.2.2, x.2.2.2.2.2.2.2.2.2.2.2.2.2.1, x.2.2.2.2.2.2.2.2.2.2.2.2.2.2.1, (rArith .add .i64 x.2.2.2.2.2.2.2.2.2.2.2.2.2.2.2.1 (1 : Int)), ())) else some (.inl (x.1, x.2.1, x.2.2.1, x.2.2.2.1, x.2.2.2.2.1, x.2.2.2.2.2.1, x.2.2.2.2.2.2.1, x.2.2.2.2.2.2.2.1, x.2.2.2.2.2.2.2.2.1, x.2.2.2.2.2.2.2.2.2.1, x.2.2.2.2.2.2.2.2.2.2.1, x.2.2.2.2.2.2.2.2.2.2.2.1, x.2.2.2.2.2.2.2.2.2.2.2.2.1, x.2.2.2.2.2.2.2.2.2.2.2.2.2.1, x.2.2.2.2.2.2.2.2.2.2.2.2.2.2.1, (rArith .add .i64 x.2.2.2.2.2.2.2.2.2.2.2.2.2.2.2.1 (1 : Int)), ()))))))))) else none) else none) else some (.inr (.inl (x.1, x.2.1, x.2.2.1, x.2.2.2.1, x.2.2.2.2.1, x.2.2.2.2.2.1, x.2.2.2.2.2.2.1, x.2.2.2.2.2.2.2.1, x.2.2.2.2.2.2.2.2.1, x.2.2.2.2.2.2.2.2.2.1, x.2.2.2.2.2.2.2.2.2.2.1, x.2.2.2.2.2.2.2.2.2.2.2.1, x.2.2.2.2.2.2.2.2.2.2.2.2.1, x.2.2.2.2.2.2.2.2.2.2.2.2.2.1, ()))))
noncomputable def impl_FateOf_l0 (k : (List (Int × Int × Int × Int × Int × Int × Int)) × Int × Int × Unit) (x : Int × Int × Int × Int × Int × Int × Int × Int × Int × Int × Int × Int × Int × Int × (List (Int)) × Int × Unit) : Option (Int × Int × Int × Int × Int × Int × Int × Int × Int × Int × Int × Int × Int × Int × Unit ⊕ Empty) := iter (impl_FateOf_b0 k) big x
noncomputable def impl_FateOf (a0 : (List (Int × Int × Int × Int × Int × Int × Int))) (a1 : Int) : Option (Int × Int × Int × Int × Int × Int × Int × Unit) :=
  ((impl_OrderOf a0).bind fun y0 => ((impl_FateOf_l0 (a0, a1, (rLen y0.1), ()) ((0 : Int), (0 : Int), (0 : Int), (0 : Int), (0 : Int), (0 : Int), (0 : Int), (0 : Int), (0 : Int), (0 : Int), (0 : Int), (0 : Int), (0 : Int), (0 : Int), y0.1, (0 : Int), ())).bind fun q1 => (Sum.elim (fun y2 => some (y2.2.2.2.2.2.2.2.1, y2.2.2.2.2.2.2.2.2.1, y2.2.2.2.2.2.2.2.2.2.1, y2.2.2.2.2.2.2.2.2.2.2.1, y2.2.2.2.2.2.2.2.2.2.2.2.1, y2.2.2.2.2.2.2.2.2.2.2.2.2.1, y2.2.2.2.2.2.2.2.2.2.2.2.2.2.1, ())) (fun q3 => (Empty.elim q3)) q1)))
noncomputable def laws_eqFate (a0 : Int) (a1 : Int) (a2 : Int) (a3 : Int) (a4 : Int) (a5 : Int) (a6 : Int) (a7 : Int) (a8 : Int) (a9 : Int) (a10 : Int) (a11 : Int) (a12 : Int) (a13 : Int) : Option (Bool × Unit) :=
  (bif (rCmp .neq a0 a7) then some (false, ()) else (bif (rCmp .neq a1 a8) then some (false, ()) else (bif (rCmp .neq a2 a9) then some (false, ()) else (bif (rCmp .neq a3 a10) then some (false, ()) else (bif (rCmp .neq a4 a11) then some (false, ()) else (bif (rCmp .neq a5 a12) then some (false, ()) else (bif (rCmp .neq a6 a13) then some (false, ()) else some (true, ()))))))))
noncomputable def laws_FnExactFateOf (a0 : (List (Int × Int × Int × Int × Int × Int × Int))) (a1 : Int) : Option (Bool × Unit) :=
  ((laws_szEventS a0 (1048576 : Int)).bind fun y0 => (bif (rCmp .lss y0.1 (0 : Int)) then some (true, ()) else ((laws_toEventS a0).bind fun y1 => ((spec_FateOf y1.1 a1).bind fun y2 => ((laws_toEventS a0).bind fun y3 => ((impl_FateOf y3.1 a1).bind fun y4 => ((laws_eqFate y4.1 y4.2.1 y4.2.2.1 y4.2.2.2.1 y4.2.2.2.2.1 y4.2.2.2.2.2.1 y4.2.2.2.2.2.2.1 y2.1 y2.2.1 y2.2.2.1 y2.2.2.2.1 y2.2.2.2.2.1 y2.2.2.2.2.2.1 y2.2.2.2.2.2.2.1).bind fun y5 => (bif (Bool.not y5.1) then some (false, ()) else ((laws_toEventS a0).bind fun y6 => ((laws_eqEventS y3.1 y6.1).bind fun y7 => (bif (Bool.not y7.1) then some (false, ()) else some (true, ()))))))))))))
end Go.Fn
namespace Go.Fn
open Go.R
abbrev Ev := Int × Int × Int × Int × Int × Int × Int
def inB (a lo hi : Int) : Bool := bif decide (a ≥ lo) then decide (a ≤ hi) else false
theorem within_eq (a lo hi : Int) : impl_within a lo hi = some (inB a lo hi, ()) := by
  unfold impl_within inB
  simp only [rCmp]
  cases decide (a ≥ lo) <;> rfl
theorem in_eq (a lo hi : Int) : spec_l01In a lo hi = some (inB a lo hi, ()) := within_eq a lo hi
theorem timeOk_eq (a : Int) : impl_timeOk a = some (inB a 0 20000, ()) := by unfold impl_timeOk; rw [within_eq]; rfl
def evOk (e : Ev) : Bool := bif inB e.1 0 5 then bif inB e.2.1 1 999 then bif inB e.2.2.1 1 100000 then bif inB e.2.2.2.1 1 4 then bif inB e.2.2.2.2.1 1 999 then bif inB e.2.2.2.2.2.1 0 20000 then inB e.2.2.2.2.2.2 0 20000 else false else false else false else false else false else false
theorem bif_some {α : Type} (b : Bool) (x y : α) : (bif b then some x else some y) = some (bif b then x else y) := by cases b <;> rfl
theorem bif_pair (b x y : Bool) : (bif b then (x, ()) else (y, ())) = ((bif b then x else y), ()) := by cases b <;> rfl
theorem specOk_eq (a b c d e f g : Int) : spec_EventOk a b c d e f g = some (evOk (a, b, c, d, e, f, g), ()) := by
  unfold spec_EventOk evOk
  simp only [in_eq, Option.bind_some, bif_some, bif_pair]
theorem implOk_eq (a b c d e f g : Int) : impl_EventOk a b c d e f g = some (evOk (a, b, c, d, e, f, g), ()) := by
  unfold impl_EventOk evOk
  simp only [within_eq, timeOk_eq, Option.bind_some, bif_some, bif_pair]
def ordOk (p e : Ev) : Bool := !(decide (e.1 < p.1) || (decide (e.1 = p.1) && (decide (e.2.1 ≤ p.2.1) || decide (e.2.2.1 ≤ p.2.2.1))))
def jokAt (l : List Ev) : Nat → Bool
  | 0 => evOk (l.getD 0 zIIIIIII)
  | n + 1 => evOk (l.getD (n + 1) zIIIIIII) && ordOk (l.getD n zIIIIIII) (l.getD (n + 1) zIIIIIII)
/-- A journal in order. -/
def jok (l : List Ev) : Bool := bif decide (60 < l.length) then false else allFrom (jokAt l) 0 l.length
theorem len60 (l : List Ev) : rCmp .gtr (rLen l) (60 : Int) = decide (60 < l.length) := by
  simp only [rCmp, rLen, gt_iff_lt, decide_eq_decide]
  omega
theorem implJ_eq (l : List Ev) : impl_JournalOk l = some (jok l, ()) := by
  unfold impl_JournalOk jok
  rw [len60]
  cases hl : decide (60 < l.length) with
  | true => rfl
  | false =>
    have hl : l.length ≤ 60 := by have := of_decide_eq_false hl; omega
    have hloop : impl_JournalOk_l0 (l, l, (rLen l), ()) ((0 : Int), ()) = some (bif allFrom (jokAt l) 0 l.length then (Sum.inr (Sum.inl ()) : Bool × Unit ⊕ (Unit ⊕ Empty)) else Sum.inl (false, ())) := by
      refine loop_all (fun n => ((n : Int), ())) l.length (by omega) (jokAt l) _ _ (fun n hn => ?_) ?_
      · unfold impl_JournalOk_b0
        simp only [lss_len, inR_nat, get_nat, implOk_eq, hn, decide_true, cond_true, Option.bind_some]
        cases n with
        | zero =>
          simp only [jokAt]
          cases evOk (l.getD 0 zIIIIIII) <;> rfl
        | succ n =>
          have hn' : n < l.length := by omega
          simp only [jokAt, succ64 (n := n + 1) (by omega), pred64 (n := n) (by omega), inR_lt hn', get_nat, ordOk, rCmp]
          have e0 : ((((n + 1 : Nat) : Int)) == 0) = false := by rw [beq_eq_false_iff_ne]; omega
          rw [e0]
          simp only [cond_false, cond_true]
          generalize l.getD (n + 1) zIIIIIII = e
          generalize l.getD n zIIIIIII = p
          show (bif !(evOk e) then _ else _) = _
          cases evOk e with
          | false => rfl
          | true =>
            simp only [Bool.not_true, cond_false, Bool.true_and]
            cases decide (e.1 < p.1) with
            | true => rfl
            | false =>
              simp only [cond_false, Bool.false_or]
              have eb : (e.1 == p.1) = decide (e.1 = p.1) := rfl
              rw [eb]
              cases decide (e.1 = p.1) with
              | false => rfl
              | true =>
                simp only [cond_true, Bool.true_and]
                cases decide (e.2.1 ≤ p.2.1) with
                | true => rfl
                | false => cases decide (e.2.2.1 ≤ p.2.2.1) <;> rfl
      · unfold impl_JournalOk_b0
        simp only [lss_len, Nat.lt_irrefl, decide_false, cond_false]
    rw [hloop]
    cases allFrom (jokAt l) 0 l.length <;> rfl
theorem gt0 (n : Nat) : rCmp .gtr ((n + 1 : Nat) : Int) 0 = true := by simp only [rCmp, gt_iff_lt, decide_eq_true_eq]; omega
theorem specJ_eq (l : List Ev) : spec_JournalOk l = some (jok l, ()) := by
  unfold spec_JournalOk jok
  rw [len60]
  cases hl : decide (60 < l.length) with
  | true => rfl
  | false =>
    have hl : l.length ≤ 60 := by have := of_decide_eq_false hl; omega
    have hloop : spec_JournalOk_l0 (l, ()) ((0 : Int), ()) = some (bif allFrom (jokAt l) 0 l.length then (Sum.inr (Sum.inl ()) : Bool × Unit ⊕ (Unit ⊕ Empty)) else Sum.inl (false, ())) := by
      refine loop_all (fun n => ((n : Int), ())) l.length (by omega) (jokAt l) _ _ (fun n hn => ?_) ?_
      · unfold spec_JournalOk_b0
        simp only [lss_len, inR_nat, get_nat, specOk_eq, hn, decide_true, cond_true, Option.bind_some]
        cases n with
        | zero =>
          simp only [jokAt]
          cases evOk (l.getD 0 zIIIIIII) <;> rfl
        | succ n =>
          have hn' : n < l.length := by omega
          simp only [jokAt, gt0, succ64 (n := n + 1) (by omega), pred64 (n := n) (by omega), inR_lt hn', get_nat, ordOk, cond_true]
          simp only [rCmp]
          generalize l.getD (n + 1) zIIIIIII = e
          generalize l.getD n zIIIIIII = p
          show (bif !(evOk e) then _ else _) = _
          cases evOk e with
          | false => rfl
          | true =>
            simp only [Bool.not_true, cond_false, Bool.true_and]
            cases decide (e.1 < p.1) with
            | true => rfl
            | false =>
              simp only [cond_false, Bool.false_or]
              have eb : (e.1 == p.1) = decide (e.1 = p.1) := rfl
              rw [eb]
              cases decide (e.1 = p.1) with
              | false => rfl
              | true =>
                simp only [cond_true, Bool.true_and]
                cases decide (e.2.1 ≤ p.2.1) with
                | true => rfl
                | false => cases decide (e.2.2.1 ≤ p.2.2.1) <;> rfl
      · unfold spec_JournalOk_b0
        simp only [lss_len, Nat.lt_irrefl, decide_false, cond_false]
    rw [hloop]
    cases allFrom (jokAt l) 0 l.length <;> rfl
theorem toEv_eq (a b c d e f g : Int) : laws_toEvent a b c d e f g = some (a, b, c, d, e, f, g, ()) := rfl
/-- The copy of a list of events. -/
theorem toEvS_eq (l : List Ev) (hl : l.length ≤ 1073741824) : laws_toEventS l = some (l, ()) := by
  unfold laws_toEventS
  rw [repOk_len hl]
  have hloop : laws_toEventS_l0 (l, ()) (List.replicate l.length (0, 0, 0, 0, 0, 0, 0), (0 : Int), ()) = some (Sum.inl (l, ())) := by
    have := loop_end (body := laws_toEventS_b0 (l, ())) (fun n => (l.take n ++ List.replicate (l.length - n) (0, 0, 0, 0, 0, 0, 0), (n : Int), ())) l.length (by omega) (Sum.inl (l, ())) (fun n hn => ?_) ?_
    · unfold laws_toEventS_l0; simpa using this
    · unfold laws_toEventS_b0
      have hx : n < (l.take n ++ List.replicate (l.length - n) ((0, 0, 0, 0, 0, 0, 0) : Ev)).length := by rw [fill_len _ _ (Nat.le_of_lt hn)]; exact hn
      simp only [lss_len, inR_nat, hn, hx, decide_true, cond_true, get_nat, toEv_eq, Option.bind_some, succ64 (n := n) (by omega), put_nat]
      rw [← set_fill l (0, 0, 0, 0, 0, 0, 0) hn, getD_lt hn zIIIIIII (0, 0, 0, 0, 0, 0, 0)]
    · unfold laws_toEventS_b0
      simp only [lss_len, Nat.lt_irrefl, decide_false, cond_false, Nat.sub_self, List.replicate_zero, List.append_nil, List.take_length]
  have hr : rRep (rLen l) ((0 : Int), (0 : Int), (0 : Int), (0 : Int), (0 : Int), (0 : Int), (0 : Int)) = List.replicate l.length (0, 0, 0, 0, 0, 0, 0) := rep_nat _ _
  rw [hr]
  simp only [cond_true]
  rw [hloop]
  rfl
theorem neq_self (a : Int) : rCmp .neq a a = false := by simp [rCmp]
theorem eqEv_self (a b c d e f g : Int) : laws_eqEvent a b c d e f g a b c d e f g = some (true, ()) := by
  unfold laws_eqEvent
  simp only [neq_self, cond_false]
theorem eqEvS_self (l : List Ev) (hl : l.length ≤ 1073741824) : laws_eqEventS l l = some (true, ()) := by
  unfold laws_eqEventS
  rw [neq_self]
  have hloop : laws_eqEventS_l0 (l, l, ()) ((0 : Int), ()) = some (Sum.inr (Sum.inl ())) := by
    refine loop_end (fun n => ((n : Int), ())) l.length (by omega) _ (fun n hn => ?_) ?_
    · unfold laws_eqEventS_b0
      simp only [lss_len, inR_nat, hn, decide_true, cond_true, eqEv_self, Option.bind_some, succ64 (n := n) (by omega)]
      rfl
    · unfold laws_eqEventS_b0
      simp only [lss_len, Nat.lt_irrefl, decide_false, cond_false]
  simp only [cond_false]
  rw [hloop]
  rfl
theorem szEvS_eq (l : List Ev) (a : Int) (hl : l.length ≤ 9223372036854775807) (ha : 0 ≤ a) (ha' : a ≤ 1048576) : laws_szEventS l a = some (bif decide (a < (l.length : Int)) then -1 else a - (l.length : Int), ()) := by
  unfold laws_szEventS
  have h1 : rArith .sub .i64 a (rLen l) = a - (l.length : Int) := sub64 (by unfold rLen; omega) (by unfold rLen; omega)
  rw [h1]
  have h2 : rCmp .lss (a - (l.length : Int)) 0 = decide (a < (l.length : Int)) := by simp only [rCmp, decide_eq_decide]; omega
  rw [h2]
  cases decide (a < (l.length : Int)) <;> rfl
end Go.Fn
set_option linter.unusedSimpArgs false
namespace Go.Fn
open Go.R
theorem jok_len {l : List Ev} (h : jok l = true) : l.length ≤ 60 := by
  unfold jok at h
  cases hd : decide (60 < l.length) with
  | true => rw [hd] at h; cases h
  | false => have := of_decide_eq_false hd; omega
theorem jok_at {l : List Ev} (h : jok l = true) {n : Nat} (hn : n < l.length) : jokAt l n = true := by
  have h60 := jok_len h
  unfold jok at h
  rw [decide_eq_false (by omega)] at h
  exact (allFrom_iff _ _).1 h n (Nat.zero_le _) (by omega)
theorem jok_ev {l : List Ev} (h : jok l = true) {n : Nat} (hn : n < l.length) : evOk (l.getD n zIIIIIII) = true := by
  have := jok_at h hn
  cases n with
  | zero => exact this
  | succ n => simp only [jokAt, Bool.and_eq_true] at this; exact this.1
theorem inB_iff {a lo hi : Int} : inB a lo hi = true ↔ lo ≤ a ∧ a ≤ hi := by
  unfold inB
  by_cases h : lo ≤ a
  · rw [decide_eq_true (show a ≥ lo from h)]; simp [h]
  · rw [decide_eq_false (show ¬ a ≥ lo from h)]; simp [h]
theorem bif_and {a b : Bool} : (bif a then b else false) = true ↔ a = true ∧ b = true := by cases a <;> simp
theorem evOk_iff {e : Ev} : evOk e = true ↔ (0 ≤ e.1 ∧ e.1 ≤ 5) ∧ (1 ≤ e.2.1 ∧ e.2.1 ≤ 999) ∧ (1 ≤ e.2.2.1 ∧ e.2.2.1 ≤ 100000) ∧ (1 ≤ e.2.2.2.1 ∧ e.2.2.2.1 ≤ 4) ∧ (1 ≤ e.2.2.2.2.1 ∧ e.2.2.2.2.1 ≤ 999) ∧ (0 ≤ e.2.2.2.2.2.1 ∧ e.2.2.2.2.2.1 ≤ 20000) ∧ (0 ≤ e.2.2.2.2.2.2 ∧ e.2.2.2.2.2.2 ≤ 20000) := by
  unfold evOk
  simp only [bif_and, inB_iff]
theorem neg_of {a : Int} (h : 0 ≤ a) : rCmp .lss a 0 = false := by simp only [rCmp, decide_eq_false_iff_not]; omega
theorem small_of {α : Type} {l : List α} (h : l.length ≤ 1073741824) : rSmall l = true := by unfold rSmall limit; exact decide_eq_true (by omega)
end Go.Fn
set_option linter.unusedSimpArgs false
namespace Go.Fn
open Go.R
abbrev Spn := Int × Int
abbrev Sty := Int × Int × Int × Int
end Go.Fn
set_option linter.unusedSimpArgs false
namespace Go.Fn
open Go.R
abbrev Stp := Int × Int × Int × Int × Int
end Go.Fn
set_option linter.unusedSimpArgs false
namespace Go.Fn
open Go.R
/-- Where a ride stands: load, begins, end, peak, wait, place. -/
abbrev RSt := Int × List Int × Int × Int × Int × Int
def arr (g : List (List Int)) (st : RSt) (i : Int) : Int := rArith .add .i64 st.2.2.1 (rGet zI (rGet zLIl g st.2.2.2.2.2) (rArith .add .i64 i 1))
end Go.Fn
set_option linter.unusedSimpArgs false
namespace Go.Fn
open Go.R
abbrev Trm := Int × Int × Int × Int × Int × Int × Int × Int
end Go.Fn
set_option linter.unusedSimpArgs false
namespace Go.Fn
open Go.R
abbrev Bx := Int × Int × Int × Bool
abbrev Col := Int × List Int × List Bx
abbrev Site := List Spn × List Spn × List Col × Int × Int × Bool × Bool × Bool × Int × Int × List Ev
theorem getD_mem {α : Type} {l : List α} {n : Nat} (h : n < l.length) (z : α) : l.getD n z ∈ l := by
  rw [List.getD_eq_getElem?_getD, List.getElem?_eq_getElem h]
  exact List.getElem_mem h
end Go.Fn
set_option linter.unusedSimpArgs false
namespace Go.Fn
open Go.R
abbrev Prc := Int × Int × Int × Int × Int × Int × Int × Int × Int × Int × Int × Int × Int
abbrev Grt := Int × Int × Int × Int × Int × Int × Bool
end Go.Fn
namespace Go.R
/-- It answers, and so. -/
def Yl {α : Type} (x : Option α) (P : α → Prop) : Prop := ∃ a, x = some a ∧ P a
section
variable {α β : Type} {P : α → Prop} {Q : β → Prop}
theorem Yl.ret {a : α} (h : P a) : Yl (some a) P := ⟨a, rfl, h⟩
theorem Yl.bind {x : Option α} {f : α → Option β} (hx : Yl x P) (hf : ∀ a, P a → Yl (f a) Q) : Yl (x.bind f) Q := by
  obtain ⟨a, rfl, ha⟩ := hx
  exact hf a ha
theorem Yl.mono {P' : α → Prop} {x : Option α} (hx : Yl x P) (h : ∀ a, P a → P' a) : Yl x P' := by
  obtain ⟨a, e, ha⟩ := hx
  exact ⟨a, e, h a ha⟩
theorem Yl.lets {γ : Type} {v : γ} {k : γ → Option α} (h : Yl (k v) P) : Yl (lets v k) P := h
end
theorem small_of {α : Type} {l : List α} (h : l.length ≤ 1073741824) : rSmall l = true := by
  unfold rSmall limit
  exact decide_eq_true (by omega)
open Go.Fn
end Go.R
set_option linter.unusedSimpArgs false
set_option linter.unusedVariables false
namespace Go.Fn
open Go.R Go.Sort
theorem inA {α : Type} (d : Array α) (i : Nat) : rInR d.toList (i : Int) = decide (i < d.size) := by rw [inR_nat, Array.length_toList]
theorem inP {α : Type} (d : Array α) (i j : Nat) (x : α) : rInR (rPut d.toList (i : Int) x) (j : Int) = decide (j < d.size) := by rw [put_nat, inR_set, Array.length_toList]
section
variable {α : Type} [Inhabited α] {lt : α → α → Bool}
theorem gA (d : Array α) (i : Nat) : rGet default d.toList (i : Int) = d[i]! := by
  rw [get_nat, List.getD_eq_getElem?_getD, getElem!_def, ← Array.getElem?_toList]
  cases d.toList[i]? <;> rfl
theorem swA (d : Array α) (i j : Nat) : rPut (rPut d.toList (i : Int) d[j]!) (j : Int) d[i]! = (swp d i j).toList := by
  rw [put_nat, put_nat]; unfold swp; rw [Array.toList_setIfInBounds, Array.toList_setIfInBounds]
theorem aS {n m : Nat} (h : n + m < 1099511627776) : rArith .add .i64 (n : Int) (m : Int) = ((n + m : Nat) : Int) := by rw [add64] <;> omega
theorem sS {n m : Nat} (h : m ≤ n) (h2 : n < 1099511627776) : rArith .sub .i64 (n : Int) (m : Int) = ((n - m : Nat) : Int) := by rw [sub64] <;> omega
theorem mS {n m : Nat} (h : n * m < 1099511627776) : rArith .mul .i64 (n : Int) (m : Int) = ((n * m : Nat) : Int) := by
  rw [mul64]
  · rw [Int.natCast_mul]
  · rw [← Int.natCast_mul]; omega
  · rw [← Int.natCast_mul]; omega
theorem gtS (n m : Nat) : rCmp .gtr (n : Int) (m : Int) = decide (n > m) := by simp [rCmp]
theorem ltS (n m : Nat) : rCmp .lss (n : Int) (m : Int) = decide (n < m) := by simp [rCmp]
theorem leS (n m : Nat) : rCmp .leq (n : Int) (m : Int) = decide (n ≤ m) := by simp [rCmp]
theorem eqS (n m : Nat) : rCmp .eql (n : Int) (m : Int) = decide (n = m) := by
  simp only [rCmp]
  by_cases h : n = m
  · subst h; simp
  · rw [decide_eq_false h]; simp; omega
theorem size_insInner (lt : α → α → Bool) (a : Nat) : ∀ j (d : Array α), (insInner lt a j d).size = d.size
  | 0, _ => rfl
  | j + 1, d => by
    unfold insInner
    split
    · rw [size_insInner lt a j, size_swp]
    · rfl
theorem one : (1 : Int) = ((1 : Nat) : Int) := rfl
end
end Go.Fn
set_option linter.unusedSimpArgs false
set_option linter.unusedVariables false
namespace Go.Fn
open Go.R Go.Sort
theorem wu64 {n : Int} (h1 : 0 ≤ n) (h2 : n < 18446744073709551616) : IntKind.u64.wrap n = n := IntWalk.u64_in n ⟨h1, by omega⟩
theorem convI {n : Nat} (h : n < 1099511627776) : rConv .i64 (n : Int) = (n : Int) := w64 (by omega) (by omega)
section
variable {α : Type} [Inhabited α] {lt : α → α → Bool}
theorem convU {n : Nat} (h : n < 1099511627776) : rConv .u64 (n : Int) = (n : Int) := wu64 (by omega) (by omega)
abbrev PdqQ (α : Type) := Option (((List α) × Int × Int × Int × Bool × Bool × Unit) ⊕ ((List α) × Unit ⊕ Empty))
def Next (lt : α → α → Bool) (q : PdqQ α) (d : Array α) (a b : Nat) : Prop :=
  (∃ R, q = some (.inr (.inl (R.toList, ()))) ∧ PermIn a b d R ∧ SortedIn lt a b R) ∨
  (∃ (E : Array α) (a' b' : Nat) (L : Int) (wb wp : Bool), q = some (.inl (E.toList, (a' : Int), (b' : Int), L, wb, wp, ())) ∧ E.size = d.size ∧ a' ≤ b' ∧ b' ≤ b ∧ b' - a' < b - a ∧ Below lt a' b' E ∧ ∀ R, PermIn a' b' E R → SortedIn lt a' b' R → PermIn a b d R ∧ SortedIn lt a b R)
theorem Next.mono {q : PdqQ α} {d D : Array α} {a b : Nat} (h : Next lt q D a b) (p : PermIn a b d D) : Next lt q d a b := by
  rcases h with ⟨R, h1, h2, h3⟩ | ⟨E, a', b', L, wb, wp, h1, h2, h3, h4, h5, h6, h7⟩
  · exact .inl ⟨R, h1, permIn_trans _ _ _ a b p h2, h3⟩
  · refine .inr ⟨E, a', b', L, wb, wp, h1, by rw [h2, p.1], h3, h4, h5, h6, fun R hR hs => ?_⟩
    obtain ⟨k1, k2⟩ := h7 R hR hs
    exact ⟨permIn_trans _ _ _ a b p k1, k2⟩
end
end Go.Fn
set_option linter.unusedSimpArgs false
set_option linter.unusedVariables false
namespace Go.Fn
open Go.R Go.Sort
def ltE (x y : Ev) : Bool := decide (x.1 < y.1) || (decide (x.1 = y.1) && decide (x.2.1 < y.2.1))
def sgn (a b : Int) : Int := bif decide (a < b) then -1 else bif decide (b < a) then 1 else 0
theorem compare_eq (a b : Int) : cmp_Compare_int_ a b = some (sgn a b, ()) := by
  unfold cmp_Compare_int_ cmp_isNaN_int_ sgn
  simp only [neq_self, Option.bind_some, cond_false]
  simp only [rCmp, gt_iff_lt]
  cases decide (a < b) <;> cases decide (b < a) <;> rfl
theorem or_eq (a b : Int) : cmp_Or_int_ [a, b] = some ((bif decide (a = 0) then b else a), ()) := by
  unfold cmp_Or_int_ cmp_Or_int__l0
  have hb : ∀ n : Nat, n < 2 → cmp_Or_int__b0 ((0 : Int), [a, b], rLen [a, b], ()) ((n : Int), ()) = some (bif decide (([a, b].getD n 0) = 0) then .inl (((n + 1 : Nat) : Int), ()) else .inr (.inl ([a, b].getD n 0, ()))) := by
    intro n hn
    unfold cmp_Or_int__b0
    simp only [lss_len, inR_nat, get_nat, show n < [a, b].length from hn, decide_true, cond_true, succ64 (n := n) (by omega), zI]
    by_cases h : [a, b].getD n 0 = 0
    · rw [h]; rfl
    · rw [show rCmp .neq ([a, b].getD n 0) (0 : Int) = true from by simpa [rCmp] using h, decide_eq_false h]; rfl
  by_cases ha : a = 0
  · by_cases hb0 : b = 0
    · have e : iter (cmp_Or_int__b0 ((0 : Int), [a, b], rLen [a, b], ())) 3 ((0 : Int), ()) = some (.inr (.inl ())) := by
        rw [iter_next (y := (((1 : Nat) : Int), ())) (by simpa [ha] using hb 0 (by omega)), iter_next (y := (((2 : Nat) : Int), ())) (by simpa [hb0] using hb 1 (by omega))]
        exact iter_done rfl
      rw [iter_mono e (by unfold big; omega), ha, hb0]
      rfl
    · have e : iter (cmp_Or_int__b0 ((0 : Int), [a, b], rLen [a, b], ())) 2 ((0 : Int), ()) = some (.inl (b, ())) := by
        rw [iter_next (y := (((1 : Nat) : Int), ())) (by simpa [ha] using hb 0 (by omega))]
        exact iter_done (by simpa [hb0] using hb 1 (by omega))
      rw [iter_mono e (by unfold big; omega), ha]
      rfl
  · have e : iter (cmp_Or_int__b0 ((0 : Int), [a, b], rLen [a, b], ())) 1 ((0 : Int), ()) = some (.inl (a, ())) := iter_done (by simpa [ha] using hb 0 (by omega))
    rw [iter_mono e (by unfold big; omega)]
    simp [ha]
end Go.Fn
set_option linter.unusedSimpArgs false
set_option linter.unusedVariables false
namespace Go.Fn
open Go.R Go.Sort
theorem ltE_iff {x y : Ev} : ltE x y = true ↔ x.1 < y.1 ∨ (x.1 = y.1 ∧ x.2.1 < y.2.1) := by
  unfold ltE; simp
theorem ltE_tr {x y z : Ev} (h1 : ltE x y = true) (h2 : ltE y z = true) : ltE x z = true := by rw [ltE_iff] at *; omega
abbrev Srt (l : List Ev) : Prop := l.Pairwise fun x y => ltE x y = true
theorem srt_adj : ∀ (l : List Ev), (∀ n, n + 1 < l.length → ltE (l.getD n zIIIIIII) (l.getD (n + 1) zIIIIIII) = true) → Srt l
  | [], _ => List.Pairwise.nil
  | [x], _ => List.pairwise_singleton _ _
  | x :: y :: l, h => by
    have ih := srt_adj (y :: l) (fun n hn => h (n + 1) (by simpa using hn))
    have hxy : ltE x y = true := h 0 (by simp)
    refine List.Pairwise.cons (fun z hz => ?_) ih
    rcases List.mem_cons.1 hz with rfl | hz
    · exact hxy
    · exact ltE_tr hxy ((List.pairwise_cons.1 ih).1 z hz)
theorem jok_srt {l : List Ev} (h : jok l = true) : Srt l := by
  refine srt_adj l fun n hn => ?_
  have := jok_at h hn
  simp only [jokAt, Bool.and_eq_true, ordOk, Bool.not_eq_true', Bool.or_eq_false_iff, Bool.and_eq_false_iff, decide_eq_false_iff_not] at this
  rw [ltE_iff]
  omega
end Go.Fn
set_option linter.unusedSimpArgs false
set_option linter.unusedVariables false
namespace Go.Fn
open Go.R Go.Sort
def ordE (x y : Ev) : Prop := ltE x y = true ∧ (x.1 = y.1 → x.2.2.1 < y.2.2.1)
theorem ordE_tr {x y z : Ev} (h1 : ordE x y) (h2 : ordE y z) : ordE x z := by
  obtain ⟨a1, a2⟩ := h1
  obtain ⟨b1, b2⟩ := h2
  refine ⟨ltE_tr a1 b1, fun h => ?_⟩
  rw [ltE_iff] at a1 b1
  have := a2 (by omega)
  have := b2 (by omega)
  omega
theorem ordOk_iff {x y : Ev} : ordOk x y = true ↔ ordE x y := by
  unfold ordE
  simp only [ordOk, Bool.not_eq_true', Bool.or_eq_false_iff, Bool.and_eq_false_iff, decide_eq_false_iff_not, ltE_iff]
  omega
theorem pair_adj {R : Ev → Ev → Prop} (tr : ∀ x y z, R x y → R y z → R x z) : ∀ (l : List Ev), (∀ n, n + 1 < l.length → R (l.getD n zIIIIIII) (l.getD (n + 1) zIIIIIII)) → l.Pairwise R
  | [], _ => List.Pairwise.nil
  | [x], _ => List.pairwise_singleton _ _
  | x :: y :: l, h => by
    have ih := pair_adj tr (y :: l) (fun n hn => h (n + 1) (by simpa using hn))
    have hxy : R x y := h 0 (by simp)
    refine List.Pairwise.cons (fun z hz => ?_) ih
    rcases List.mem_cons.1 hz with rfl | hz
    · exact hxy
    · exact tr _ _ _ hxy ((List.pairwise_cons.1 ih).1 z hz)
theorem getD_eq {α : Type} {l : List α} {n : Nat} (h : n < l.length) (z : α) : l.getD n z = l[n] := by
  rw [List.getD_eq_getElem?_getD, List.getElem?_eq_getElem h]; rfl
theorem jok_iff {l : List Ev} : jok l = true ↔ l.length ≤ 60 ∧ (∀ x, x ∈ l → evOk x = true) ∧ l.Pairwise ordE := by
  constructor
  · intro h
    refine ⟨jok_len h, fun x hx => ?_, pair_adj (R := ordE) (fun _ _ _ h1 h2 => ordE_tr h1 h2) l fun n hn => ?_⟩
    · obtain ⟨n, hn, rfl⟩ := List.getElem_of_mem hx
      have := jok_ev h hn
      rwa [getD_eq hn] at this
    · have := jok_at h hn
      simp only [jokAt, Bool.and_eq_true] at this
      exact ordOk_iff.1 this.2
  · intro ⟨h1, h2, h3⟩
    unfold jok
    rw [decide_eq_false (by omega)]
    refine (allFrom_iff _ _).2 fun m _ hm => ?_
    rw [Nat.zero_add] at hm
    cases m with
    | zero => exact h2 _ (getD_mem hm _)
    | succ m =>
      simp only [jokAt, Bool.and_eq_true]
      refine ⟨h2 _ (getD_mem hm _), ordOk_iff.2 ?_⟩
      rw [getD_eq hm, getD_eq (show m < l.length by omega)]
      exact List.pairwise_iff_getElem.1 h3 m (m + 1) (by omega) hm (by omega)
def aStep (node : Int) (s : Int × Int × Nat × Nat) (x : Ev) : Int × Int × Nat × Nat :=
  ((bif decide (x.1 = node) then x.2.1 + 1 else s.1), max s.2.1 (x.2.2.1 + 1), (bif decide (x.1 ≤ node) then s.2.2.2 + 1 else s.2.2.1), s.2.2.2 + 1)
def aRun (l : List Ev) (node : Int) : Int × Int × Nat × Nat := l.foldl (aStep node) (1, 1, 0, 0)
def newE (l : List Ev) (node kind parcel a b : Int) : Ev := (node, (aRun l node).1, (aRun l node).2.1, kind, parcel, a, b)
def withE (l : List Ev) (node kind parcel a b : Int) : List Ev := l.take (aRun l node).2.2.1 ++ [newE l node kind parcel a b] ++ l.drop (aRun l node).2.2.1
def addEv (l : List Ev) (node kind parcel a b : Int) : List Ev × Bool := bif jok l then bif jok (withE l node kind parcel a b) then (withE l node kind parcel a b, true) else (l, false) else (l, false)
structure AInv (node : Int) (p : List Ev) (s : Int × Int × Nat × Nat) : Prop where
  c : s.2.2.2 = p.length
  at_le : s.2.2.1 ≤ p.length
  s1 : ∀ x, x ∈ p → x.1 = node → x.2.1 < s.1
  s2 : s.1 = 1 ∨ ∃ x, x ∈ p ∧ x.1 = node ∧ s.1 = x.2.1 + 1
  p1 : ∀ x, x ∈ p → x.2.2.1 < s.2.1
  p2 : s.2.1 = 1 ∨ ∃ x, x ∈ p ∧ s.2.1 = x.2.2.1 + 1
  a1 : ∀ x, x ∈ p.take s.2.2.1 → x.1 ≤ node
  a2 : ∀ x, x ∈ p.drop s.2.2.1 → node < x.1
theorem aInv_step {node : Int} {p : List Ev} {s : Int × Int × Nat × Nat} {x : Ev} (h : AInv node p s) (hp : Srt (p ++ [x])) : AInv node (p ++ [x]) (aStep node s x) := by
  have hlt : ∀ y, y ∈ p → ltE y x = true := fun y hy => (List.pairwise_append.1 hp).2.2 y hy x (List.mem_singleton.2 rfl)
  obtain ⟨h1, h2, h3, h4, h5, h6, h7, h8⟩ := h
  unfold aStep
  refine ⟨by simp [h1], ?_, fun y hy hn => ?_, ?_, fun y hy => ?_, ?_, ?_, ?_⟩
  · cases decide (x.1 ≤ node) <;> simp <;> omega
  · simp only []
    rcases List.mem_append.1 hy with hy | hy
    · by_cases hx : x.1 = node
      · rw [decide_eq_true hx]
        have := hlt y hy
        rw [ltE_iff] at this
        simp only [cond_true]; omega
      · rw [decide_eq_false hx]
        exact h3 y hy hn
    · rw [List.mem_singleton] at hy
      subst hy
      rw [decide_eq_true hn]
      simp only [cond_true]; omega
  · simp only []
    by_cases hx : x.1 = node
    · rw [decide_eq_true hx]
      exact .inr ⟨x, by simp, hx, rfl⟩
    · rw [decide_eq_false hx]
      rcases h4 with h4 | ⟨y, hy, h4⟩
      · exact .inl h4
      · exact .inr ⟨y, List.mem_append_left _ hy, h4⟩
  · simp only []
    rcases List.mem_append.1 hy with hy | hy
    · have := h5 y hy; omega
    · rw [List.mem_singleton] at hy
      subst hy; omega
  · simp only []
    by_cases hm : s.2.1 ≤ x.2.2.1 + 1
    · exact .inr ⟨x, by simp, by omega⟩
    · rcases h6 with h6 | ⟨y, hy, h6⟩
      · exact .inl (by omega)
      · exact .inr ⟨y, List.mem_append_left _ hy, by omega⟩
  · simp only []
    by_cases hx : x.1 ≤ node
    · rw [decide_eq_true hx]
      intro y hy
      rw [cond_true, h1, List.take_of_length_le (by simp)] at hy
      rcases List.mem_append.1 hy with hy | hy
      · have := hlt y hy; rw [ltE_iff] at this; omega
      · rw [List.mem_singleton] at hy; subst hy; exact hx
    · rw [decide_eq_false hx]
      intro y hy
      rw [cond_false, List.take_append_of_le_length h2] at hy
      exact h7 y hy
  · simp only []
    by_cases hx : x.1 ≤ node
    · rw [decide_eq_true hx]
      intro y hy
      rw [cond_true, h1, List.drop_of_length_le (by simp)] at hy
      exact absurd hy List.not_mem_nil
    · rw [decide_eq_false hx]
      intro y hy
      rw [cond_false, List.drop_append_of_le_length h2] at hy
      rcases List.mem_append.1 hy with hy | hy
      · exact h8 y hy
      · rw [List.mem_singleton] at hy; subst hy; omega
theorem aInv_run (node : Int) : ∀ (l p : List Ev) (s : Int × Int × Nat × Nat), Srt (p ++ l) → AInv node p s → AInv node (p ++ l) (l.foldl (aStep node) s)
  | [], p, s, _, h => by simpa using h
  | x :: l, p, s, hp, h => by
    have e : p ++ x :: l = (p ++ [x]) ++ l := by simp
    rw [e] at hp ⊢
    exact aInv_run node l (p ++ [x]) (aStep node s x) hp (aInv_step h (List.pairwise_append.1 hp).1)
theorem aRun_inv (node : Int) {l : List Ev} (h : Srt l) : AInv node l (aRun l node) := by
  have := aInv_run node l [] (1, 1, 0, 0) (by simpa using h) ⟨rfl, Nat.le_refl _, fun x hx => absurd hx List.not_mem_nil, .inl rfl, fun x hx => absurd hx List.not_mem_nil, .inl rfl, fun x hx => absurd (List.mem_of_mem_take hx) List.not_mem_nil, fun x hx => absurd (List.mem_of_mem_drop hx) List.not_mem_nil⟩
  exact this
theorem withE_mem {l : List Ev} {node kind parcel a b : Int} (z : Ev) : z ∈ withE l node kind parcel a b ↔ z = newE l node kind parcel a b ∨ z ∈ l := by
  unfold withE
  rw [List.mem_append, List.mem_append, List.mem_singleton]
  constructor
  · rintro ((h | h) | h)
    · exact .inr (List.mem_of_mem_take h)
    · exact .inl h
    · exact .inr (List.mem_of_mem_drop h)
  · rintro (h | h)
    · exact .inl (.inr h)
    · rw [← List.take_append_drop (aRun l node).2.2.1 l, List.mem_append] at h
      rcases h with h | h
      · exact .inl (.inl h)
      · exact .inr h
theorem withE_len {l : List Ev} (h : Srt l) (node kind parcel a b : Int) : (withE l node kind parcel a b).length = l.length + 1 := by
  have := (aRun_inv node h).at_le
  unfold withE
  simp only [List.length_append, List.length_take, List.length_drop, List.length_singleton]
  omega
end Go.Fn
set_option linter.unusedSimpArgs false
set_option linter.unusedVariables false
namespace Go.Fn
open Go.R Go.Sort
/-- What drawn journals are: n bounds events and stamps, base is in it, the others are of nodes S. -/
structure JInv (n : Nat) (base : List Ev) (S : Int → Prop) (l : List Ev) : Prop where
  j : jok l = true
  len : l.length ≤ n
  st : ∀ x, x ∈ l → x.2.2.1 ≤ (n : Int)
  gap : ∀ x, x ∈ l → ∀ s : Int, 1 ≤ s → s ≤ x.2.1 → ∃ y, y ∈ l ∧ y.1 = x.1 ∧ y.2.1 = s
  sub : ∀ x, x ∈ base → x ∈ l
  new : ∀ x, x ∈ l → x ∈ base ∨ S x.1
theorem JInv.mono {n m : Nat} {base : List Ev} {S : Int → Prop} {l : List Ev} (h : JInv n base S l) (hm : n ≤ m) : JInv m base S l :=
  ⟨h.j, by have := h.len; omega, fun x hx => by have := h.st x hx; omega, h.gap, h.sub, h.new⟩
theorem JInv.add {n : Nat} {base : List Ev} {S : Int → Prop} {l : List Ev} (h : JInv n base S l) {node : Int} (hS : S node) (kind parcel a b : Int) : JInv (n + 1) base S (addEv l node kind parcel a b).1 := by
  unfold addEv
  rw [h.j]
  simp only [cond_true]
  cases hw : jok (withE l node kind parcel a b) with
  | false => exact h.mono (Nat.le_succ _)
  | true =>
    have hs := jok_srt h.j
    have hi := aRun_inv node hs
    simp only [cond_true]
    refine ⟨hw, by rw [withE_len hs]; have := h.len; omega, fun x hx => ?_, fun x hx s h1 h2 => ?_, fun x hx => (withE_mem x).2 (.inr (h.sub x hx)), fun x hx => ?_⟩
    · rcases (withE_mem x).1 hx with e | e
      · rw [e]
        show (aRun l node).2.1 ≤ _
        rcases hi.p2 with p | ⟨y, hy, p⟩
        · rw [p]; omega
        · rw [p]; have := h.st y hy; omega
      · have := h.st x e; omega
    · rcases (withE_mem x).1 hx with e | e
      · subst e
        have h2 : s ≤ (aRun l node).1 := h2
        by_cases e : s = (aRun l node).1
        · exact ⟨_, hx, rfl, e.symm⟩
        · rcases hi.s2 with p | ⟨y, hy, q, p⟩
          · omega
          · obtain ⟨z, hz, e1, e2⟩ := h.gap y hy s h1 (by omega)
            exact ⟨z, (withE_mem z).2 (.inr hz), by rw [e1, q]; rfl, e2⟩
      · obtain ⟨z, hz, e1, e2⟩ := h.gap x e s h1 h2
        exact ⟨z, (withE_mem z).2 (.inr hz), e1, e2⟩
    · rcases (withE_mem x).1 hx with e | e
      · rw [e]; exact .inr hS
      · exact h.new x e
end Go.Fn
set_option linter.unusedSimpArgs false
set_option linter.unusedVariables false
namespace Go.Fn
open Go.R Go.Sort
theorem gI (d : Array Int) (i : Nat) : rGet zI d.toList (i : Int) = d[i]! := gA d i
def ltK (u v : Ev) : Bool := decide (u.2.2.1 < v.2.2.1) || (decide (u.2.2.1 = v.2.2.1) && decide (u.1 < v.1))
theorem ltK_iff {u v : Ev} : ltK u v = true ↔ u.2.2.1 < v.2.2.1 ∨ (u.2.2.1 = v.2.2.1 ∧ u.1 < v.1) := by unfold ltK; simp
theorem ltK_no {u v : Ev} : ltK u v = false ↔ v.2.2.1 < u.2.2.1 ∨ (u.2.2.1 = v.2.2.1 ∧ v.1 ≤ u.1) := by
  rw [← Bool.not_eq_true, ltK_iff]; omega
def ltO (l : List Ev) (x y : Int) : Bool := ltK (l.getD x.toNat zIIIIIII) (l.getD y.toNat zIIIIIII)
theorem ltO_swo (l : List Ev) : SWO (ltO l) := ⟨fun x => by unfold ltO; rw [ltK_no]; omega, fun x y z h1 h2 => by unfold ltO at *; rw [ltK_iff] at *; omega, fun x y z h1 h2 => by unfold ltO at *; rw [ltK_no] at *; omega⟩
def cmpO (l : List Ev) (x y : Int) : Int := bif ltO l x y then -1 else bif ltO l y x then 1 else 0
theorem cmpO_neg (l : List Ev) (x y : Int) : rCmp .lss (cmpO l x y) (0 : Int) = ltO l x y := by
  unfold cmpO
  cases ltO l x y <;> cases ltO l y x <;> rfl
theorem sgn_or (a b c d : Int) : (bif decide (sgn a b = 0) then sgn c d else sgn a b) = (bif decide (a < b) || (decide (a = b) && decide (c < d)) then -1 else bif decide (b < a) || (decide (b = a) && decide (d < c)) then 1 else 0) := by
  unfold sgn
  by_cases h1 : a < b
  · simp [h1]
  · by_cases h2 : b < a
    · have h3 : ¬ (a = b) := by omega
      have h4 : ¬ (b = a) := by omega
      simp [h1, h2, h3, h4]
    · have h3 : a = b := by omega
      subst h3
      by_cases h4 : c < d
      · simp [h4]
      · by_cases h5 : d < c
        · simp [h4, h5]
        · simp [h4, h5]
theorem cmpO_eq (l : List Ev) (x y : Int) (hx : 0 ≤ x ∧ x < l.length) (hy : 0 ≤ y ∧ y < l.length) : impl_OrderOf_1 x y l = some (cmpO l x y, ()) := by
  obtain ⟨n, rfl⟩ : ∃ n : Nat, x = (n : Int) := ⟨x.toNat, by omega⟩
  obtain ⟨m, rfl⟩ : ∃ n : Nat, y = (n : Int) := ⟨y.toNat, by omega⟩
  unfold impl_OrderOf_1 cmpO ltO
  simp only [inR_nat, get_nat, show n < l.length by omega, show m < l.length by omega, decide_true, cond_true, compare_eq, Option.bind_some, Int.toNat_natCast]
  generalize l.getD n zIIIIIII = u
  generalize l.getD m zIIIIIII = v
  rw [show (List.append (α := Int) (List.append (α := Int) ([] : List Int) [sgn u.2.2.1 v.2.2.1]) [sgn u.1 v.1]) = [sgn u.2.2.1 v.2.2.1, sgn u.1 v.1] from rfl, or_eq, sgn_or]
  rfl
/-- Each place holds an event's number. -/
abbrev Oks (l : List Ev) (d : Array Int) : Prop := ∀ k, k < d.size → 0 ≤ d[k]! ∧ d[k]! < l.length
theorem Oks.perm {l : List Ev} {d d' : Array Int} {a b : Nat} (h : Oks l d) (hb : b ≤ d.size) (hp : PermIn a b d d') : Oks l d' := by
  have h0 := permIn_mono d d' a b 0 d.size (Nat.zero_le _) hb (Nat.le_refl _) hp
  have := permIn_all d d' 0 d.size (fun x => 0 ≤ x ∧ x < l.length) (Nat.le_refl _) h0 (fun i _ hi => h i hi)
  exact fun k hk => this k (Nat.zero_le _) (by rw [← hp.1]; exact hk)
theorem cmpA {l : List Ev} {d : Array Int} (h : Oks l d) {i j : Nat} (hi : i < d.size) (hj : j < d.size) : impl_OrderOf_1 d[i]! d[j]! l = some (cmpO l d[i]! d[j]!, ()) := cmpO_eq l _ _ (h i hi) (h j hj)
theorem halfS {n : Nat} (h : n < 1099511627776) : rConv .i64 (rShift .shr .u64 (rConv .u64 (n : Int)) (1 : Int)) = ((n / 2 : Nat) : Int) := by
  rw [convU h]
  have e : rShift .shr .u64 (n : Int) (1 : Int) = ((n / 2 : Nat) : Int) := by
    show (n : Int).fdiv (2 ^ 1) = _
    rw [Int.fdiv_eq_ediv_of_nonneg _ (by decide)]; omega
  rw [e, convI (by omega)]
theorem o_ins_in (l : List Ev) (a b i : Nat) : ∀ (j : Nat) (d : Array Int) (n : Nat), Oks l d → j < d.size → d.size ≤ 255 → j < n → iter (slices_insertionSortCmpFunc_int___impl_OrderOf_1_b2 ((a : Int), (b : Int), l, (i : Int), ())) n (d.toList, (j : Int), ()) = some (.inl ((insInner (ltO l) a j d).toList, ())) := by
  intro j
  induction j with
  | zero =>
    intro d n ho hj hd hn
    obtain ⟨n, rfl⟩ : ∃ m, n = m + 1 := ⟨n - 1, by omega⟩
    refine iter_done ?_
    unfold slices_insertionSortCmpFunc_int___impl_OrderOf_1_b2 insInner
    simp only [gtS, show ¬ (0 > a) by omega, decide_false, cond_false]
  | succ j ih =>
    intro d n ho hj hd hn
    obtain ⟨n, rfl⟩ : ∃ m, n = m + 1 := ⟨n - 1, by omega⟩
    have e1 : rArith .sub .i64 ((j + 1 : Nat) : Int) (1 : Int) = (j : Int) := pred64 (by omega)
    have hc := cmpA ho hj (show j < d.size by omega)
    unfold insInner
    by_cases h : j + 1 > a
    · cases hl : ltO l d[j + 1]! d[j]! with
      | true =>
        simp only [h, decide_true, Bool.true_and, if_true]
        rw [← ih (swp d (j + 1) j) n (ho.perm (Nat.le_refl _) (swp_permIn d 0 d.size (j + 1) j (by omega) hj (by omega) (by omega) (Nat.le_refl _))) (by rw [size_swp]; omega) (by rw [size_swp]; omega) (by omega)]
        refine iter_next ?_
        unfold slices_insertionSortCmpFunc_int___impl_OrderOf_1_b2
        simp only [gtS, h, decide_true, cond_true, e1, inA, gI, inP, hj, show j < d.size by omega, hc, Option.bind_some, cmpO_neg, hl, swA]
      | false =>
        simp only [Bool.and_false, Bool.false_eq_true, if_false]
        refine iter_done ?_
        unfold slices_insertionSortCmpFunc_int___impl_OrderOf_1_b2
        simp only [gtS, h, decide_true, cond_true, e1, inA, gI, hj, show j < d.size by omega, hc, Option.bind_some, cmpO_neg, hl, cond_false]
    · simp only [h, decide_false, Bool.false_and, Bool.false_eq_true, if_false]
      refine iter_done ?_
      unfold slices_insertionSortCmpFunc_int___impl_OrderOf_1_b2
      simp only [gtS, h, decide_false, cond_false]
theorem perm_insInner {lt : Int → Int → Bool} (a b : Nat) : ∀ j (d : Array Int), j < d.size → PermIn 0 d.size d (insInner lt a j d)
  | 0, d, _ => permIn_refl _ _ _
  | j + 1, d, hj => by
    unfold insInner
    split
    · have h1 := perm_insInner (lt := lt) a b j (swp d (j + 1) j) (by rw [size_swp]; omega)
      rw [size_swp] at h1
      exact permIn_trans _ _ _ 0 d.size (swp_permIn d 0 d.size (j + 1) j (by omega) hj (by omega) (by omega) (Nat.le_refl _)) h1
    · exact permIn_refl _ _ _
theorem o_ins_out (l : List Ev) (a b : Nat) (hb : b ≤ 255) : ∀ (k i : Nat) (d : Array Int) (n : Nat), Oks l d → b - i ≤ k → b ≤ d.size → d.size ≤ 255 → i ≤ 256 → k < n → iter (slices_insertionSortCmpFunc_int___impl_OrderOf_1_b0 ((a : Int), (b : Int), l, ())) n (d.toList, (i : Int), ()) = some (.inl ((insOuter (ltO l) a b i d).toList, ())) := by
  intro k
  induction k with
  | zero =>
    intro i d n ho hk hbd hd hi hn
    obtain ⟨n, rfl⟩ : ∃ m, n = m + 1 := ⟨n - 1, by omega⟩
    refine iter_done ?_
    unfold slices_insertionSortCmpFunc_int___impl_OrderOf_1_b0 insOuter
    simp only [ltS, show ¬ (i < b) by omega, decide_false, cond_false, if_false]
  | succ k ih =>
    intro i d n ho hk hbd hd hi hn
    obtain ⟨n, rfl⟩ : ∃ m, n = m + 1 := ⟨n - 1, by omega⟩
    unfold insOuter
    by_cases h : i < b
    · simp only [h, if_true]
      rw [← ih (i + 1) (insInner (ltO l) a i d) n (ho.perm (Nat.le_refl _) (perm_insInner a b i d (by omega))) (by omega) (by rw [size_insInner]; omega) (by rw [size_insInner]; omega) (by omega) (by omega)]
      refine iter_next ?_
      unfold slices_insertionSortCmpFunc_int___impl_OrderOf_1_b0 slices_insertionSortCmpFunc_int___impl_OrderOf_1_l2
      simp only [ltS, h, decide_true, cond_true, o_ins_in l a b i i d big ho (by omega) hd (lt_big (by omega)), Option.bind_some, Sum.elim_inl, succ64 (n := i) (by omega)]
    · simp only [h, if_false]
      refine iter_done ?_
      unfold slices_insertionSortCmpFunc_int___impl_OrderOf_1_b0
      simp only [ltS, h, decide_false, cond_false]
theorem o_ins (l : List Ev) (d : Array Int) (a b : Nat) (ho : Oks l d) (hab : a ≤ b) (hb : b ≤ d.size) (hd : d.size ≤ 255) : ∃ d', slices_insertionSortCmpFunc_int___impl_OrderOf_1 d.toList (a : Int) (b : Int) l = some (d'.toList, ()) ∧ PermIn a b d d' ∧ SortedIn (ltO l) a b d' := by
  refine ⟨insertionSort (ltO l) d a b, ?_, insertionSort_holds (ltO_swo l) d a b hab hb⟩
  unfold slices_insertionSortCmpFunc_int___impl_OrderOf_1 slices_insertionSortCmpFunc_int___impl_OrderOf_1_l0 insertionSort
  simp only [succ64 (n := a) (by omega), o_ins_out l a b (by omega) 256 (a + 1) d big ho (by omega) hb hd (by omega) (lt_big (by omega)), Option.bind_some, Sum.elim_inl]
theorem swapR (a b n : Nat) (hab : a + n ≤ b) : ∀ (r i : Nat) (d : Array Int) (f : Nat), i + r = n → b + n ≤ d.size → d.size ≤ 255 → r < f →
    ∃ d', iter (slices_swapRangeCmpFunc_int___impl_OrderOf_1_b0 ((a : Int), (b : Int), (n : Int), ())) f (d.toList, (i : Int), ()) = some (.inl (d'.toList, ())) ∧ PermIn a (b + n) d d' ∧
      (∀ k, i ≤ k → k < n → d'[a + k]! = d[b + k]! ∧ d'[b + k]! = d[a + k]!) ∧ (∀ t, (∀ k, i ≤ k → k < n → t ≠ a + k ∧ t ≠ b + k) → d'[t]! = d[t]!) := by
  intro r
  induction r with
  | zero =>
    intro i d f hi hb hd hf
    obtain ⟨f, rfl⟩ : ∃ m, f = m + 1 := ⟨f - 1, by omega⟩
    refine ⟨d, iter_done ?_, permIn_refl _ _ _, fun k h1 h2 => by omega, fun t _ => rfl⟩
    unfold slices_swapRangeCmpFunc_int___impl_OrderOf_1_b0
    simp only [ltS, show ¬ (i < n) by omega, decide_false, cond_false]
  | succ r ih =>
    intro i d f hi hb hd hf
    obtain ⟨f, rfl⟩ : ∃ m, f = m + 1 := ⟨f - 1, by omega⟩
    obtain ⟨d', h1, h2, h3, h4⟩ := ih (i + 1) (swp d (a + i) (b + i)) f (by omega) (by rw [size_swp]; omega) (by rw [size_swp]; omega) (by omega)
    refine ⟨d', ?_, permIn_trans _ _ _ a (b + n) (swp_permIn d a (b + n) (a + i) (b + i) (by omega) (by omega) (by omega) (by omega) hb) h2, fun k k1 k2 => ?_, fun t ht => ?_⟩
    · rw [← h1]
      refine iter_next ?_
      unfold slices_swapRangeCmpFunc_int___impl_OrderOf_1_b0
      have e1 : rArith .add .i64 (b : Int) (i : Int) = ((b + i : Nat) : Int) := aS (by omega)
      have e2 : rArith .add .i64 (a : Int) (i : Int) = ((a + i : Nat) : Int) := aS (by omega)
      simp only [ltS, show i < n by omega, decide_true, cond_true, e1, e2, inA, gI, inP, show a + i < d.size by omega, show b + i < d.size by omega, swA, lets_def, succ64 (n := i) (by omega)]
    · by_cases e : k = i
      · subst e
        have x1 := h4 (a + k) (fun j _ _ => by omega)
        have x2 := h4 (b + k) (fun j _ _ => by omega)
        rw [x1, x2, swp_left d _ _ (by omega) (by omega), swp_right d _ _ (by omega)]
        exact ⟨rfl, rfl⟩
      · obtain ⟨x1, x2⟩ := h3 k (by omega) k2
        rw [x1, x2, swp_other d _ _ _ (by omega) (by omega), swp_other d _ _ _ (by omega) (by omega)]
        exact ⟨rfl, rfl⟩
    · rw [h4 t (fun k k1 k2 => ht k (by omega) k2)]
      have := ht i (Nat.le_refl _) (by omega)
      exact swp_other d _ _ _ this.1 this.2
theorem o_swapR (l : List Ev) (d : Array Int) (a b n : Nat) (hab : a + n ≤ b) (hb : b + n ≤ d.size) (hd : d.size ≤ 255) : ∃ d', slices_swapRangeCmpFunc_int___impl_OrderOf_1 d.toList (a : Int) (b : Int) (n : Int) l = some (d'.toList, ()) ∧ PermIn a (b + n) d d' ∧
      (∀ k, k < n → d'[a + k]! = d[b + k]! ∧ d'[b + k]! = d[a + k]!) ∧ (∀ t, (∀ k, k < n → t ≠ a + k ∧ t ≠ b + k) → d'[t]! = d[t]!) := by
  obtain ⟨d', h1, h2, h3, h4⟩ := swapR a b n hab n 0 d big (by omega) hb hd (lt_big (by omega))
  refine ⟨d', ?_, h2, fun k hk => h3 k (Nat.zero_le _) hk, fun t ht => h4 t fun k _ hk => ht k hk⟩
  unfold slices_swapRangeCmpFunc_int___impl_OrderOf_1 slices_swapRangeCmpFunc_int___impl_OrderOf_1_l0
  rw [show (0 : Int) = ((0 : Nat) : Int) from rfl, h1]
  rfl
/-- T is cur with the i elements before m and the j from m on exchanged. -/
structure Rot (m i j : Nat) (cur T : Array Int) : Prop where
  perm : PermIn (m - i) (m + j) cur T
  lo : ∀ k, k < j → T[m - i + k]! = cur[m + k]!
  hi : ∀ k, k < i → T[m - i + j + k]! = cur[m - i + k]!
theorem rot_loop (l : List Ev) (m : Nat) : ∀ (s i j : Nat) (d : Array Int) (f : Nat), i + j ≤ s → 0 < i → 0 < j → i ≤ m → m + j ≤ d.size → d.size ≤ 255 → s < f →
    ∃ (d1 : Array Int) (i1 : Nat) (T : Array Int), iter (slices_rotateCmpFunc_int___impl_OrderOf_1_b0 ((m : Int), l, ())) f (d.toList, (i : Int), (j : Int), ()) = some (.inl (d1.toList, ((i1 : Nat) : Int), ())) ∧ d1.size = d.size ∧ slices_swapRangeCmpFunc_int___impl_OrderOf_1 d1.toList (rArith .sub .i64 (m : Int) ((i1 : Nat) : Int)) (m : Int) ((i1 : Nat) : Int) l = some (T.toList, ()) ∧ Rot m i j d T := by
  intro s
  induction s with
  | zero => intro i j d f hs h0; omega
  | succ s ih =>
    intro i j d f hs hi0 hj0 him hm hd hf
    obtain ⟨f, rfl⟩ : ∃ m, f = m + 1 := ⟨f - 1, by omega⟩
    have e1 : rArith .sub .i64 (m : Int) (i : Int) = ((m - i : Nat) : Int) := sS him (by omega)
    have ne : rCmp .neq (i : Int) (j : Int) = !decide (i = j) := by rw [← eqS i j]; rfl
    by_cases hij : i = j
    · subst hij
      obtain ⟨T, h1, h2, h3, h4⟩ := o_swapR l d (m - i) m i (by omega) hm hd
      refine ⟨d, i, T, iter_done ?_, rfl, by rw [e1]; exact h1, ⟨h2, fun k hk => (h3 k hk).1, fun k hk => ?_⟩⟩
      · unfold slices_rotateCmpFunc_int___impl_OrderOf_1_b0
        simp only [ne, decide_true, Bool.not_true, cond_false]
      · rw [show m - i + i + k = m + k by omega]; exact (h3 k hk).2
    · by_cases hgt : i > j
      · obtain ⟨d2, h1, h2, h3, h4⟩ := o_swapR l d (m - i) m j (by omega) hm hd
        have hs2 := h2.1
        obtain ⟨d1, i1, T, k1, k2, k3, k4⟩ := ih (i - j) j d2 f (by omega) (by omega) hj0 (by omega) (by omega) (by omega) (by omega)
        refine ⟨d1, i1, T, ?_, by omega, k3, ⟨?_, fun k hk => ?_, fun k hk => ?_⟩⟩
        · rw [← k1]
          refine iter_next ?_
          unfold slices_rotateCmpFunc_int___impl_OrderOf_1_b0
          have e2 : rArith .sub .i64 (i : Int) (j : Int) = ((i - j : Nat) : Int) := sS (by omega) (by omega)
          simp only [ne, decide_eq_false hij, Bool.not_false, cond_true, gtS, hgt, decide_true, e1, h1, Option.bind_some, e2]
        · exact permIn_trans _ _ _ _ _ h2 (permIn_mono d2 T (m - (i - j)) (m + j) (m - i) (m + j) (by omega) (Nat.le_refl _) (by omega) k4.perm)
        · rw [k4.perm.2.1 (m - i + k) (.inl (by omega)), (h3 k hk).1]
        · by_cases hk2 : k < j
          · have := k4.lo k hk2
            rw [show m - (i - j) + k = m - i + j + k by omega] at this
            rw [this, (h3 k hk2).2]
          · have := k4.hi (k - j) (by omega)
            rw [show m - (i - j) + j + (k - j) = m - i + j + k by omega, show m - (i - j) + (k - j) = m - i + k by omega] at this
            rw [this]
            exact h4 _ fun q hq => by omega
      · obtain ⟨d2, h1, h2, h3, h4⟩ := o_swapR l d (m - i) (m + j - i) i (by omega) (by omega) hd
        have hs2 := h2.1
        rw [show m + j - i + i = m + j by omega] at h2
        obtain ⟨d1, i1, T, k1, k2, k3, k4⟩ := ih i (j - i) d2 f (by omega) hi0 (by omega) him (by omega) (by omega) (by omega)
        refine ⟨d1, i1, T, ?_, by omega, k3, ⟨?_, fun k hk => ?_, fun k hk => ?_⟩⟩
        · rw [← k1]
          refine iter_next ?_
          unfold slices_rotateCmpFunc_int___impl_OrderOf_1_b0
          have e2 : rArith .sub .i64 (j : Int) (i : Int) = ((j - i : Nat) : Int) := sS (by omega) (by omega)
          have e3 : rArith .add .i64 (m : Int) (j : Int) = ((m + j : Nat) : Int) := aS (by omega)
          have e4 : rArith .sub .i64 ((m + j : Nat) : Int) (i : Int) = ((m + j - i : Nat) : Int) := sS (by omega) (by omega)
          simp only [ne, decide_eq_false hij, Bool.not_false, cond_true, gtS, hgt, decide_false, cond_false, e1, e3, e4, h1, Option.bind_some, e2]
        · exact permIn_trans _ _ _ _ _ h2 (permIn_mono d2 T (m - i) (m + (j - i)) (m - i) (m + j) (Nat.le_refl _) (by omega) (by omega) k4.perm)
        · by_cases hk2 : k < j - i
          · rw [k4.lo k hk2]
            exact h4 _ fun q hq => by omega
          · have := k4.hi (k - (j - i)) (by omega)
            rw [show m - i + (j - i) + (k - (j - i)) = m - i + k by omega] at this
            rw [this, (h3 (k - (j - i)) (by omega)).1]
            congr 1; omega
        · rw [k4.perm.2.1 (m - i + j + k) (.inr (by omega))]
          have := (h3 k hk).2
          rw [show m + j - i + k = m - i + j + k by omega] at this
          exact this
theorem o_rotate (l : List Ev) (d : Array Int) (s m e : Nat) (h1 : s < m) (h2 : m < e) (he : e ≤ d.size) (hd : d.size ≤ 255) : ∃ T, slices_rotateCmpFunc_int___impl_OrderOf_1 d.toList (s : Int) (m : Int) (e : Int) l = some (T.toList, ()) ∧ Rot m (m - s) (e - m) d T := by
  obtain ⟨d1, i1, T, k1, k2, k3, k4⟩ := rot_loop l m 256 (m - s) (e - m) d big (by omega) (by omega) (by omega) (by omega) (by omega) hd (lt_big (by omega))
  refine ⟨T, ?_, k4⟩
  unfold slices_rotateCmpFunc_int___impl_OrderOf_1 slices_rotateCmpFunc_int___impl_OrderOf_1_l0
  have e1 : rArith .sub .i64 (m : Int) (s : Int) = ((m - s : Nat) : Int) := sS (by omega) (by omega)
  have e2 : rArith .sub .i64 (e : Int) (m : Int) = ((e - m : Nat) : Int) := sS (by omega) (by omega)
  rw [e1, e2, k1]
  simp only [Option.bind_some, Sum.elim_inl, k3]
theorem bsearch {X Y : Type} {body : X → Option (X ⊕ Y)} (st : Nat → Nat → X) (fin : Nat → Y) (P : Nat → Bool) (lo hi : Nat) (hs : ∀ i j, lo ≤ i → i < j → j ≤ hi → body (st i j) = some (.inl (bif P ((i + j) / 2) then st ((i + j) / 2 + 1) j else st i ((i + j) / 2)))) (he : ∀ i, body (st i i) = some (.inr (fin i))) :
    ∀ (k i j n : Nat), j - i ≤ k → k < n → lo ≤ i → i ≤ j → j ≤ hi → (i = lo ∨ P (i - 1) = true) → (j = hi ∨ P j = false) → ∃ r, iter body n (st i j) = some (fin r) ∧ lo ≤ r ∧ r ≤ hi ∧ (r = lo ∨ P (r - 1) = true) ∧ (r = hi ∨ P r = false) := by
  intro k
  induction k with
  | zero =>
    intro i j n hk hn h1 h2 h3 h4 h5
    obtain ⟨n, rfl⟩ : ∃ m, n = m + 1 := ⟨n - 1, by omega⟩
    obtain rfl : i = j := by omega
    exact ⟨i, iter_done (he i), h1, h3, h4, h5⟩
  | succ k ih =>
    intro i j n hk hn h1 h2 h3 h4 h5
    obtain ⟨n, rfl⟩ : ∃ m, n = m + 1 := ⟨n - 1, by omega⟩
    by_cases h : i = j
    · subst h; exact ⟨i, iter_done (he i), h1, h3, h4, h5⟩
    · have hb := hs i j h1 (by omega) h3
      cases hp : P ((i + j) / 2) with
      | true =>
        rw [hp] at hb
        rw [iter_next hb]
        exact ih ((i + j) / 2 + 1) j n (by omega) (by omega) (by omega) (by omega) h3 (.inr (by simpa using hp)) h5
      | false =>
        rw [hp] at hb
        rw [iter_next hb]
        exact ih i ((i + j) / 2) n (by omega) (by omega) h1 (by omega) (by omega) h4 (.inr hp)
theorem le_sorted {lt : Int → Int → Bool} (h : SWO lt) {d : Array Int} {a b u v : Nat} (hs : SortedIn lt a b d) (h1 : a ≤ u) (h2 : u ≤ v) (h3 : v < b) : lt d[v]! d[u]! = false := by
  by_cases e : u = v
  · subst e; exact h.irrefl _
  · exact hs u v h1 (by omega) h3
end Go.Fn
set_option linter.unusedSimpArgs false
set_option linter.unusedVariables false
namespace Go.Fn
open Go.R Go.Sort
theorem bub_up (rec : List Int → Int → Int → Int → List Ev → Option (List Int × Unit)) (i : Nat) (hi : 0 < i) : ∀ (r k : Nat) (d : Array Int) (f : Nat), i - 1 - k = r → i ≤ d.size → d.size ≤ 255 → k < i → r < f →
    ∃ d', iter (slices_symMergeCmpFunc_int___impl_OrderOf_1_b2 rec ((i : Int), ())) f (d.toList, (k : Int), ()) = some (.inl (d'.toList, ())) ∧ PermIn k i d d' ∧ (∀ t, k ≤ t → t < i - 1 → d'[t]! = d[t + 1]!) ∧ d'[i - 1]! = d[k]! := by
  have e1 : rArith .sub .i64 (i : Int) 1 = ((i - 1 : Nat) : Int) ∨ 255 < i := by
    by_cases h : 255 < i
    · exact .inr h
    · exact .inl (sS (m := 1) (by omega) (by omega))
  intro r
  induction r with
  | zero =>
    intro k d f hk hs hd hki hf
    have e1 := e1.resolve_right (by omega)
    obtain ⟨f, rfl⟩ : ∃ m, f = m + 1 := ⟨f - 1, by omega⟩
    refine ⟨d, iter_done ?_, permIn_refl _ _ _, fun t h1 h2 => by omega, by rw [show i - 1 = k by omega]⟩
    unfold slices_symMergeCmpFunc_int___impl_OrderOf_1_b2
    simp only [e1, ltS, show ¬ (k < i - 1) by omega, decide_false, cond_false]
  | succ r ih =>
    intro k d f hk hs hd hki hf
    have e1 := e1.resolve_right (by omega)
    obtain ⟨f, rfl⟩ : ∃ m, f = m + 1 := ⟨f - 1, by omega⟩
    obtain ⟨d', h1, h2, h3, h4⟩ := ih (k + 1) (swp d k (k + 1)) f (by omega) (by rw [size_swp]; omega) (by rw [size_swp]; omega) (by omega) (by omega)
    refine ⟨d', ?_, permIn_trans _ _ _ k i (swp_permIn d k i k (k + 1) (by omega) (by omega) (by omega) (by omega) hs) (permIn_mono _ _ (k + 1) i k i (by omega) (Nat.le_refl _) (by rw [size_swp]; omega) h2), fun t t1 t2 => ?_, ?_⟩
    · rw [← h1]
      refine iter_next ?_
      unfold slices_symMergeCmpFunc_int___impl_OrderOf_1_b2
      simp only [e1, ltS, show k < i - 1 by omega, decide_true, cond_true, succ64 (n := k) (by omega), inA, gI, inP, show k + 1 < d.size by omega, show k < d.size by omega, swA]
    · by_cases e : t = k
      · subst e
        rw [h2.2.1 t (.inl (by omega)), swp_left d _ _ (by omega) (by omega)]
      · rw [h3 t (by omega) t2, swp_other d _ _ _ (by omega) (by omega)]
    · rw [h4, swp_right d _ _ (by omega)]
theorem bub_down (rec : List Int → Int → Int → Int → List Ev → Option (List Int × Unit)) (i : Nat) : ∀ (r k : Nat) (d : Array Int) (f : Nat), k - i = r → i ≤ k → k < d.size → d.size ≤ 255 → r < f →
    ∃ d', iter (slices_symMergeCmpFunc_int___impl_OrderOf_1_b6 rec ((i : Int), ())) f (d.toList, (k : Int), ()) = some (.inl (d'.toList, ())) ∧ PermIn i (k + 1) d d' ∧ (∀ t, i ≤ t → t < k → d'[t + 1]! = d[t]!) ∧ d'[i]! = d[k]! := by
  intro r
  induction r with
  | zero =>
    intro k d f hk hik hs hd hf
    obtain ⟨f, rfl⟩ : ∃ m, f = m + 1 := ⟨f - 1, by omega⟩
    refine ⟨d, iter_done ?_, permIn_refl _ _ _, fun t h1 h2 => by omega, by rw [show i = k by omega]⟩
    unfold slices_symMergeCmpFunc_int___impl_OrderOf_1_b6
    simp only [gtS, show ¬ (k > i) by omega, decide_false, cond_false]
  | succ r ih =>
    intro k d f hk hik hs hd hf
    obtain ⟨f, rfl⟩ : ∃ m, f = m + 1 := ⟨f - 1, by omega⟩
    have e1 : rArith .sub .i64 (k : Int) 1 = ((k - 1 : Nat) : Int) := sS (m := 1) (by omega) (by omega)
    obtain ⟨d', h1, h2, h3, h4⟩ := ih (k - 1) (swp d k (k - 1)) f (by omega) (by omega) (by rw [size_swp]; omega) (by rw [size_swp]; omega) (by omega)
    rw [show k - 1 + 1 = k by omega] at h2
    refine ⟨d', ?_, permIn_trans _ _ _ i (k + 1) (swp_permIn d i (k + 1) k (k - 1) (by omega) (by omega) (by omega) (by omega) (by omega)) (permIn_mono _ _ i k i (k + 1) (Nat.le_refl _) (by omega) (by rw [size_swp]; omega) h2), fun t t1 t2 => ?_, ?_⟩
    · rw [← h1]
      refine iter_next ?_
      unfold slices_symMergeCmpFunc_int___impl_OrderOf_1_b6
      simp only [gtS, show k > i by omega, decide_true, cond_true, e1, inA, gI, inP, show k < d.size by omega, show k - 1 < d.size by omega, swA]
    · by_cases e : t + 1 = k
      · rw [e, h2.2.1 k (.inr (by omega)), swp_left d _ _ (by omega) (by omega), show k - 1 = t by omega]
      · rw [h3 t t1 (by omega), swp_other d _ _ _ (by omega) (by omega)]
    · rw [h4, swp_right d _ _ (by omega)]
/-- What a merge promises. -/
def MergeOk (l : List Ev) (rec : List Int → Int → Int → Int → List Ev → Option (List Int × Unit)) (M : Nat) : Prop :=
  ∀ (d : Array Int) (a m b : Nat), b - a < M → a < m → m < b → b ≤ d.size → d.size ≤ 255 → Oks l d → SortedIn (ltO l) a m d → SortedIn (ltO l) m b d → ∃ d', rec d.toList (a : Int) (m : Int) (b : Int) l = some (d'.toList, ()) ∧ PermIn a b d d' ∧ SortedIn (ltO l) a b d'
theorem merge_left (l : List Ev) (rec : List Int → Int → Int → Int → List Ev → Option (List Int × Unit)) (d : Array Int) (a b : Nat) (h1 : a + 1 < b) (hb : b ≤ d.size) (hd : d.size ≤ 255) (ho : Oks l d) (hs : SortedIn (ltO l) (a + 1) b d) :
    ∃ d', slices_symMergeCmpFunc_int___impl_OrderOf_1_r rec d.toList (a : Int) ((a + 1 : Nat) : Int) (b : Int) l = some (d'.toList, ()) ∧ PermIn a b d d' ∧ SortedIn (ltO l) a b d' := by
  have hw := ltO_swo l
  have e0 : rArith .sub .i64 ((a + 1 : Nat) : Int) (a : Int) = ((1 : Nat) : Int) := by rw [sS (by omega) (by omega)]; congr 1; omega
  obtain ⟨i, hi, i1, i2, i3, i4⟩ := bsearch (body := slices_symMergeCmpFunc_int___impl_OrderOf_1_b0 rec ((a : Int), l, ())) (fun i j => (d.toList, (i : Int), (j : Int), ())) (fun i => (.inl (d.toList, (i : Int), ()) : List Int × Int × Unit ⊕ Empty)) (fun c => ltO l d[c]! d[a]!) (a + 1) b (fun i j h1 h2 h3 => by
    unfold slices_symMergeCmpFunc_int___impl_OrderOf_1_b0
    have e1 : rArith .add .i64 (i : Int) (j : Int) = ((i + j : Nat) : Int) := aS (by omega)
    have z : rIsNeg (1 : Int) = false := rfl
    have hc := cmpA ho (i := (i + j) / 2) (j := a) (by omega) (by omega)
    simp only [ltS, h2, decide_true, cond_true, z, cond_false, e1, halfS (n := i + j) (by omega), inA, gI, show (i + j) / 2 < d.size by omega, show a < d.size by omega, hc, Option.bind_some, cmpO_neg, succ64 (n := (i + j) / 2) (by omega)]
    cases ltO l d[(i + j) / 2]! d[a]! <;> rfl) (fun i => by
    unfold slices_symMergeCmpFunc_int___impl_OrderOf_1_b0
    simp only [ltS, Nat.lt_irrefl, decide_false, cond_false]) 256 (a + 1) b big (by omega) (lt_big (by omega)) (Nat.le_refl _) (by omega) (Nat.le_refl _) (.inl rfl) (.inl rfl)
  obtain ⟨d', h3, h4, h5, h6⟩ := bub_up rec i (by omega) (i - 1 - a) a d big rfl (by omega) hd (by omega) (lt_big (by omega))
  refine ⟨d', ?_, permIn_mono _ _ a i a b (Nat.le_refl _) i2 hb h4, ?_⟩
  · unfold slices_symMergeCmpFunc_int___impl_OrderOf_1_r slices_symMergeCmpFunc_int___impl_OrderOf_1_l0 slices_symMergeCmpFunc_int___impl_OrderOf_1_l2
    simp only [e0, show rCmp .eql ((1 : Nat) : Int) (1 : Int) = true from rfl, cond_true, hi, Option.bind_some, Sum.elim_inl, h3]
  · have hi0 : ∀ u, i ≤ u → d'[u]! = d[u]! := fun u hu => h4.2.1 u (.inr hu)
    intro u v h7 h8 h9
    have atI : ∀ u, u < i - 1 → a ≤ u → ltO l d[a]! d[u + 1]! = false := fun u hu hau => by
      have hP : ltO l d[i - 1]! d[a]! = true := i3.resolve_left (by omega)
      exact hw.ntrans _ _ _ (hw.asymm hP) (le_sorted hw hs (by omega) (by omega) (by omega))
    by_cases u1 : u < i - 1
    · rw [h5 u h7 u1]
      by_cases v1 : v < i - 1
      · rw [h5 v (by omega) v1]; exact le_sorted hw hs (by omega) (by omega) (by omega)
      · by_cases v2 : v = i - 1
        · rw [v2, h6]; exact atI u u1 h7
        · rw [hi0 v (by omega)]; exact le_sorted hw hs (by omega) (by omega) h9
    · by_cases u2 : u = i - 1
      · rw [u2, h6, hi0 v (by omega)]
        have hN : ltO l d[i]! d[a]! = false := i4.resolve_left (by omega)
        exact hw.ntrans _ _ _ (le_sorted hw hs (by omega) (by omega) h9) hN
      · rw [hi0 u (by omega), hi0 v (by omega)]; exact le_sorted hw hs (by omega) (by omega) h9
theorem merge_right (l : List Ev) (rec : List Int → Int → Int → Int → List Ev → Option (List Int × Unit)) (d : Array Int) (a m : Nat) (h1 : a < m) (hne : m - a ≠ 1) (hb : m + 1 ≤ d.size) (hd : d.size ≤ 255) (ho : Oks l d) (hs : SortedIn (ltO l) a m d) :
    ∃ d', slices_symMergeCmpFunc_int___impl_OrderOf_1_r rec d.toList (a : Int) (m : Int) ((m + 1 : Nat) : Int) l = some (d'.toList, ()) ∧ PermIn a (m + 1) d d' ∧ SortedIn (ltO l) a (m + 1) d' := by
  have hw := ltO_swo l
  have e0 : rArith .sub .i64 (m : Int) (a : Int) = ((m - a : Nat) : Int) := sS (by omega) (by omega)
  have e1 : rArith .sub .i64 ((m + 1 : Nat) : Int) (m : Int) = ((1 : Nat) : Int) := by rw [sS (by omega) (by omega)]; congr 1; omega
  have ne1 : rCmp .eql ((m - a : Nat) : Int) (1 : Int) = false := (eqS (m - a) 1).trans (decide_eq_false hne)
  obtain ⟨i, hi, i1, i2, i3, i4⟩ := bsearch (body := slices_symMergeCmpFunc_int___impl_OrderOf_1_b4 rec ((m : Int), l, ())) (fun i j => (d.toList, (i : Int), (j : Int), ())) (fun i => (.inl (d.toList, (i : Int), ()) : List Int × Int × Unit ⊕ Empty)) (fun c => !ltO l d[m]! d[c]!) a m (fun i j h1 h2 h3 => by
    unfold slices_symMergeCmpFunc_int___impl_OrderOf_1_b4
    have e1 : rArith .add .i64 (i : Int) (j : Int) = ((i + j : Nat) : Int) := aS (by omega)
    have z : rIsNeg (1 : Int) = false := rfl
    have hc := cmpA ho (i := m) (j := (i + j) / 2) (by omega) (by omega)
    simp only [ltS, h2, decide_true, cond_true, z, cond_false, e1, halfS (n := i + j) (by omega), inA, gI, show (i + j) / 2 < d.size by omega, show m < d.size by omega, hc, Option.bind_some, cmpO_neg, succ64 (n := (i + j) / 2) (by omega)]
    cases ltO l d[m]! d[(i + j) / 2]! <;> rfl) (fun i => by
    unfold slices_symMergeCmpFunc_int___impl_OrderOf_1_b4
    simp only [ltS, Nat.lt_irrefl, decide_false, cond_false]) 256 a m big (by omega) (lt_big (by omega)) (Nat.le_refl _) (by omega) (Nat.le_refl _) (.inl rfl) (.inl rfl)
  obtain ⟨d', h3, h4, h5, h6⟩ := bub_down rec i (m - i) m d big rfl (by omega) (by omega) hd (lt_big (by omega))
  refine ⟨d', ?_, permIn_mono _ _ i (m + 1) a (m + 1) i1 (Nat.le_refl _) hb h4, ?_⟩
  · unfold slices_symMergeCmpFunc_int___impl_OrderOf_1_r slices_symMergeCmpFunc_int___impl_OrderOf_1_l4 slices_symMergeCmpFunc_int___impl_OrderOf_1_l6
    simp only [e0, ne1, cond_false, e1, show rCmp .eql ((1 : Nat) : Int) (1 : Int) = true from rfl, cond_true, hi, Option.bind_some, Sum.elim_inl, h3]
  · have hi0 : ∀ u, u < i → d'[u]! = d[u]! := fun u hu => h4.2.1 u (.inl hu)
    have hup : ∀ u, i < u → u < m + 1 → d'[u]! = d[u - 1]! := fun u hu hu2 => by
      have := h5 (u - 1) (by omega) (by omega)
      rwa [show u - 1 + 1 = u by omega] at this
    intro u v h7 h8 h9
    by_cases u1 : u < i
    · rw [hi0 u u1]
      by_cases v1 : v < i
      · rw [hi0 v v1]; exact le_sorted hw hs h7 (by omega) (by omega)
      · by_cases v2 : v = i
        · rw [v2, h6]
          have hP := i3.resolve_left (by omega)
          rw [Bool.not_eq_true'] at hP
          exact hw.ntrans _ _ _ hP (le_sorted hw hs h7 (by omega) (by omega))
        · rw [hup v (by omega) h9]; exact le_sorted hw hs h7 (by omega) (by omega)
    · by_cases u2 : u = i
      · rw [u2, h6, hup v (by omega) h9]
        have hN := i4.resolve_left (by omega)
        rw [Bool.not_eq_false'] at hN
        exact hw.ntrans _ _ _ (le_sorted hw hs (by omega) (by omega) (by omega)) (hw.asymm hN)
      · rw [hup u (by omega) (by omega), hup v (by omega) h9]; exact le_sorted hw hs (by omega) (by omega) (by omega)
def g_right (rec : List Int → Int → Int → Int → List Ev → Option (List Int × Unit)) (l : List Ev) (mid e b : Int) (d : List Int) : Option (List Int × Unit) :=
  (lets (rCmp .lss mid e) fun v3 => (bif v3 then (bif (rCmp .lss e b) then ((rec d mid e b l).bind fun y4 => some (y4.1, ())) else some (d, ())) else some (d, ())))
def g_rest (rec : List Int → Int → Int → Int → List Ev → Option (List Int × Unit)) (l : List Ev) (a s mid e b : Int) (d : List Int) : Option (List Int × Unit) :=
  (bif (rCmp .lss a s) then (bif (rCmp .lss s mid) then ((rec d a s mid l).bind fun y2 => g_right rec l mid e b y2.1) else g_right rec l mid e b d) else g_right rec l mid e b d)
theorem rest_ok {l : List Ev} {rec : List Int → Int → Int → Int → List Ev → Option (List Int × Unit)} {M : Nat} (hrec : MergeOk l rec M) (d : Array Int) (a s mid e b : Nat) (h1 : a ≤ s) (h2 : s ≤ mid) (h3 : mid ≤ e) (h4 : e ≤ b) (hab : a < mid) (hmb : mid < b) (hM : b - a ≤ M) (hb : b ≤ d.size) (hd : d.size ≤ 255) (ho : Oks l d)
    (s1 : SortedIn (ltO l) a s d) (s2 : SortedIn (ltO l) s mid d) (s3 : SortedIn (ltO l) mid e d) (s4 : SortedIn (ltO l) e b d) (hx : ∀ u v, a ≤ u → u < mid → mid ≤ v → v < b → ltO l d[v]! d[u]! = false) :
    ∃ d', g_rest rec l (a : Int) (s : Int) (mid : Int) (e : Int) (b : Int) d.toList = some (d'.toList, ()) ∧ PermIn a b d d' ∧ SortedIn (ltO l) a b d' := by
  have hw := ltO_swo l
  -- the left half
  obtain ⟨d2, k1, k2, k3⟩ : ∃ d2 : Array Int, g_rest rec l (a : Int) (s : Int) (mid : Int) (e : Int) (b : Int) d.toList = g_right rec l (mid : Int) (e : Int) (b : Int) d2.toList ∧ PermIn a mid d d2 ∧ SortedIn (ltO l) a mid d2 := by
    unfold g_rest
    rw [ltS, ltS]
    by_cases q1 : a < s
    · by_cases q2 : s < mid
      · obtain ⟨d2, k1, k2, k3⟩ := hrec d a s mid (by omega) q1 q2 (by omega) hd ho s1 s2
        exact ⟨d2, by simp only [q1, q2, decide_true, cond_true, k1, Option.bind_some], k2, k3⟩
      · have : s = mid := by omega
        exact ⟨d, by simp only [q1, q2, decide_true, decide_false, cond_true, cond_false], permIn_refl _ _ _, this ▸ s1⟩
    · have : s = a := by omega
      exact ⟨d, by simp only [q1, decide_false, cond_false], permIn_refl _ _ _, this ▸ s2⟩
  have z2 : d2.size = d.size := k2.1
  have ho2 := ho.perm (by omega) k2
  obtain ⟨d3, m1, m2, m3⟩ : ∃ d3 : Array Int, g_right rec l (mid : Int) (e : Int) (b : Int) d2.toList = some (d3.toList, ()) ∧ PermIn mid b d2 d3 ∧ SortedIn (ltO l) mid b d3 := by
    have s3' : SortedIn (ltO l) mid e d2 := s3.congr fun i hi _ => k2.2.1 i (.inr hi)
    have s4' : SortedIn (ltO l) e b d2 := s4.congr fun i hi _ => k2.2.1 i (.inr (by omega))
    unfold g_right
    rw [ltS, ltS]
    by_cases q1 : mid < e
    · by_cases q2 : e < b
      · obtain ⟨d3, m1, m2, m3⟩ := hrec d2 mid e b (by omega) q1 q2 (by omega) (by omega) ho2 s3' s4'
        exact ⟨d3, by simp only [lets_def, q1, q2, decide_true, cond_true, m1, Option.bind_some], m2, m3⟩
      · have : e = b := by omega
        exact ⟨d2, by simp only [lets_def, q1, q2, decide_true, decide_false, cond_true, cond_false], permIn_refl _ _ _, this ▸ s3'⟩
    · have : e = mid := by omega
      exact ⟨d2, by simp only [lets_def, q1, decide_false, cond_false], permIn_refl _ _ _, this ▸ s4'⟩
  refine ⟨d3, by rw [k1, m1], permIn_trans _ _ _ a b (permIn_mono _ _ a mid a b (Nat.le_refl _) (by omega) hb k2) (permIn_mono _ _ mid b a b (by omega) (Nat.le_refl _) (by omega) m2), fun u v h7 h8 h9 => ?_⟩
  have left : ∀ u, u < mid → d3[u]! = d2[u]! := fun u hu => m2.2.1 u (.inl hu)
  by_cases v1 : v < mid
  · rw [left u (by omega), left v v1]; exact k3 u v h7 h8 v1
  · by_cases u1 : u < mid
    · rw [left u u1]
      have c1 : ∀ w, mid ≤ w → w < b → ltO l d2[w]! d2[u]! = false := fun w hw1 hw2 => by
        rw [k2.2.1 w (.inr hw1)]
        exact permIn_all d d2 a mid (fun x => ltO l d[w]! x = false) (by omega) k2 (fun t ht1 ht2 => hx t w ht1 ht2 hw1 hw2) u h7 u1
      exact permIn_all d2 d3 mid b (fun x => ltO l x d2[u]! = false) (by omega) m2 (fun t ht1 ht2 => c1 t ht1 ht2) v (by omega) h9
    · exact m3 u v (by omega) h8 h9
/-- What the search and the exchange have found: then the halves. -/
theorem found_ok {l : List Ev} {rec : List Int → Int → Int → Int → List Ev → Option (List Int × Unit)} {M : Nat} (hrec : MergeOk l rec M) (d : Array Int) (a m b mid s e lo hi : Nat) (ham : a + 2 ≤ m) (hmb : m + 2 ≤ b) (hM : b - a ≤ M) (hb : b ≤ d.size) (hd : d.size ≤ 255) (ho : Oks l d)
    (s1 : SortedIn (ltO l) a m d) (s2 : SortedIn (ltO l) m b d) (hmid : mid = (a + b) / 2) (hlo : lo = if m > mid then mid + m - b else a) (hhi : hi = if m > mid then mid else m) (r1 : lo ≤ s) (r2 : s ≤ hi) (he : e = mid + m - s)
    (r3 : s = lo ∨ ltO l d[mid + m - 1 - (s - 1)]! d[s - 1]! = false) (r4 : s = hi ∨ ltO l d[mid + m - 1 - s]! d[s]! = true) :
    ∃ d', (bif (rCmp .lss (s : Int) (m : Int)) then (bif (rCmp .lss (m : Int) (e : Int)) then ((slices_rotateCmpFunc_int___impl_OrderOf_1 d.toList (s : Int) (m : Int) (e : Int) l).bind fun y2 => g_rest rec l (a : Int) (s : Int) (mid : Int) (e : Int) (b : Int) y2.1) else g_rest rec l (a : Int) (s : Int) (mid : Int) (e : Int) (b : Int) d.toList) else g_rest rec l (a : Int) (s : Int) (mid : Int) (e : Int) (b : Int) d.toList) = some (d'.toList, ()) ∧ PermIn a b d d' ∧ SortedIn (ltO l) a b d' := by
  have hw := ltO_swo l
  have b1 : a ≤ s ∧ s ≤ m ∧ m ≤ e ∧ e ≤ b ∧ s ≤ mid ∧ mid ≤ e := by
    split at hlo <;> rename_i q <;> simp only [q, if_true, if_false] at hhi <;> omega
  obtain ⟨c1, c2, c3, c4, c5, c6⟩ := b1
  -- the array behind the exchange
  obtain ⟨T, t0, t1, t2, t3⟩ : ∃ T : Array Int, (bif (rCmp .lss (s : Int) (m : Int)) then (bif (rCmp .lss (m : Int) (e : Int)) then ((slices_rotateCmpFunc_int___impl_OrderOf_1 d.toList (s : Int) (m : Int) (e : Int) l).bind fun y2 => g_rest rec l (a : Int) (s : Int) (mid : Int) (e : Int) (b : Int) y2.1) else g_rest rec l (a : Int) (s : Int) (mid : Int) (e : Int) (b : Int) d.toList) else g_rest rec l (a : Int) (s : Int) (mid : Int) (e : Int) (b : Int) d.toList) = g_rest rec l (a : Int) (s : Int) (mid : Int) (e : Int) (b : Int) T.toList ∧ PermIn s e d T ∧ (∀ u, s ≤ u → u < mid → T[u]! = d[m + (u - s)]!) ∧ (∀ v, mid ≤ v → v < e → T[v]! = d[s + (v - mid)]!) := by
    rw [ltS, ltS]
    by_cases q1 : s < m
    · by_cases q2 : m < e
      · obtain ⟨T, k1, k2, k3, k4⟩ := o_rotate l d s m e q1 q2 (by omega) hd
        rw [show m - (m - s) = s by omega] at k2 k3 k4
        rw [show m + (e - m) = e by omega] at k2
        refine ⟨T, by simp only [q1, q2, decide_true, cond_true, k1, Option.bind_some], k2, fun u h1 h2 => ?_, fun v h1 h2 => ?_⟩
        · have := k3 (u - s) (by omega)
          rwa [show s + (u - s) = u by omega] at this
        · have := k4 (v - mid) (by omega)
          rwa [show s + (e - m) + (v - mid) = v by omega] at this
      · have : e = m := by omega
        refine ⟨d, by simp only [q1, q2, decide_true, decide_false, cond_true, cond_false], permIn_refl _ _ _, fun u h1 h2 => by omega, fun v h1 h2 => ?_⟩
        congr 1; omega
    · have : s = m := by omega
      refine ⟨d, by simp only [q1, decide_false, cond_false], permIn_refl _ _ _, fun u h1 h2 => ?_, fun v h1 h2 => by omega⟩
      congr 1; omega
  have lo' : ∀ u, u < s → T[u]! = d[u]! := fun u hu => t1.2.1 u (.inl hu)
  have hi' : ∀ v, e ≤ v → T[v]! = d[v]! := fun v hv => t1.2.1 v (.inr hv)
  have zT : T.size = d.size := t1.1
  obtain ⟨d', k1, k2, k3⟩ := rest_ok hrec T a s mid e b c1 c5 c6 c4 (by omega) (by omega) hM (by omega) (by omega) (ho.perm (by omega) t1)
    (fun u v h1 h2 h3 => by rw [lo' u (by omega), lo' v h3]; exact s1 u v h1 h2 (by omega))
    (fun u v h1 h2 h3 => by rw [t2 u h1 (by omega), t2 v (by omega) h3]; exact le_sorted hw s2 (by omega) (by omega) (by omega))
    (fun u v h1 h2 h3 => by rw [t3 u h1 (by omega), t3 v (by omega) h3]; exact le_sorted hw s1 (by omega) (by omega) (by omega))
    (fun u v h1 h2 h3 => by rw [hi' u h1, hi' v (by omega)]; exact s2 u v (by omega) h2 h3)
    (fun u v h1 h2 h3 h4 => by
      by_cases u1 : u < s
      · rw [lo' u u1]
        by_cases v1 : v < e
        · rw [t3 v h3 v1]; exact le_sorted hw s1 h1 (by omega) (by omega)
        · rw [hi' v (by omega)]
          have hP : ltO l d[e]! d[s - 1]! = false := by
            have := r3.resolve_left (by split at hlo <;> omega)
            rwa [show mid + m - 1 - (s - 1) = e by omega] at this
          exact hw.ntrans _ _ _ (hw.ntrans _ _ _ (le_sorted hw s2 (by omega) (by omega) h4) hP) (le_sorted hw s1 h1 (by omega) (by omega))
      · rw [t2 u (by omega) h2]
        by_cases v1 : v < e
        · rw [t3 v h3 v1]
          have hP : ltO l d[e - 1]! d[s]! = true := by
            have := r4.resolve_left (by split at hhi <;> omega)
            rwa [show mid + m - 1 - s = e - 1 by omega] at this
          exact hw.ntrans _ _ _ (hw.ntrans _ _ _ (le_sorted hw s1 (by omega) (by omega) (by omega)) (hw.asymm hP)) (le_sorted hw s2 (by omega) (by omega) (by omega))
        · rw [hi' v (by omega)]
          exact le_sorted hw s2 (by omega) (by omega) h4)
  exact ⟨d', by rw [t0]; exact k1, permIn_trans _ _ _ a b (permIn_mono _ _ s e a b c1 c4 hb t1) k2, k3⟩
theorem merge_any (l : List Ev) {rec : List Int → Int → Int → Int → List Ev → Option (List Int × Unit)} {M : Nat} (hrec : MergeOk l rec M) (d : Array Int) (a m b : Nat) (hM : b - a ≤ M) (ham : a < m) (hmb : m < b) (hb : b ≤ d.size) (hd : d.size ≤ 255) (ho : Oks l d) (s1 : SortedIn (ltO l) a m d) (s2 : SortedIn (ltO l) m b d) :
    ∃ d', slices_symMergeCmpFunc_int___impl_OrderOf_1_r rec d.toList (a : Int) (m : Int) (b : Int) l = some (d'.toList, ()) ∧ PermIn a b d d' ∧ SortedIn (ltO l) a b d' := by
  by_cases q1 : m = a + 1
  · subst q1; exact merge_left l rec d a b hmb hb hd ho s2
  · by_cases q2 : b = m + 1
    · subst q2; exact merge_right l rec d a m ham (by omega) hb hd ho s1
    · have e0 : rArith .sub .i64 (m : Int) (a : Int) = ((m - a : Nat) : Int) := sS (by omega) (by omega)
      have e1 : rArith .sub .i64 (b : Int) (m : Int) = ((b - m : Nat) : Int) := sS (by omega) (by omega)
      have n1 : rCmp .eql ((m - a : Nat) : Int) (1 : Int) = false := (eqS (m - a) 1).trans (decide_eq_false (by omega))
      have n2 : rCmp .eql ((b - m : Nat) : Int) (1 : Int) = false := (eqS (b - m) 1).trans (decide_eq_false (by omega))
      have z : rIsNeg (1 : Int) = false := rfl
      have e2 : rArith .add .i64 (a : Int) (b : Int) = ((a + b : Nat) : Int) := aS (by omega)
      have e3 := halfS (n := a + b) (by omega)
      obtain ⟨mid, hmid⟩ : ∃ mid, mid = (a + b) / 2 := ⟨_, rfl⟩
      rw [← hmid] at e3
      have e4 : rArith .add .i64 (mid : Int) (m : Int) = ((mid + m : Nat) : Int) := aS (by omega)
      have e5 : rArith .sub .i64 ((mid + m : Nat) : Int) 1 = ((mid + m - 1 : Nat) : Int) := sS (m := 1) (by omega) (by omega)
      obtain ⟨lo, hlo⟩ : ∃ lo, lo = if m > mid then mid + m - b else a := ⟨_, rfl⟩
      obtain ⟨hi, hhi⟩ : ∃ hi, hi = if m > mid then mid else m := ⟨_, rfl⟩
      have hlh : a ≤ lo ∧ lo ≤ hi ∧ hi ≤ m ∧ hi ≤ mid ∧ (∀ c, lo ≤ c → c < hi → mid + m - 1 - c < b ∧ c ≤ mid + m - 1) := by
        split at hlo <;> rename_i q <;> simp only [q, if_true, if_false] at hhi
        · exact ⟨by omega, by omega, by omega, by omega, fun c _ _ => by omega⟩
        · exact ⟨by omega, by omega, by omega, by omega, fun c _ _ => by omega⟩
      obtain ⟨l1, l2, l3, l4, l5⟩ := hlh
      obtain ⟨s, hs, i1, i2, i3, i4⟩ := bsearch (body := slices_symMergeCmpFunc_int___impl_OrderOf_1_b8 rec ((a : Int), (m : Int), (b : Int), l, (mid : Int), ((mid + m : Nat) : Int), ((mid + m - 1 : Nat) : Int), ())) (fun i j => (d.toList, (i : Int), (j : Int), ())) (fun i => (.inl (d.toList, (i : Int), ()) : List Int × Int × Unit ⊕ Empty)) (fun c => !ltO l d[mid + m - 1 - c]! d[c]!) lo hi (fun i j h1 h2 h3 => by
        have hc1 := l5 ((i + j) / 2) (by omega) (by omega)
        unfold slices_symMergeCmpFunc_int___impl_OrderOf_1_b8
        have x1 : rArith .add .i64 (i : Int) (j : Int) = ((i + j : Nat) : Int) := aS (by omega)
        have x2 : rArith .sub .i64 ((mid + m - 1 : Nat) : Int) (((i + j) / 2 : Nat) : Int) = ((mid + m - 1 - (i + j) / 2 : Nat) : Int) := sS (by omega) (by omega)
        have hc := cmpA ho (i := mid + m - 1 - (i + j) / 2) (j := (i + j) / 2) (by omega) (by omega)
        simp only [ltS, h2, decide_true, cond_true, z, cond_false, x1, halfS (n := i + j) (by omega), x2, inA, gI, show (i + j) / 2 < d.size by omega, show mid + m - 1 - (i + j) / 2 < d.size by omega, hc, Option.bind_some, cmpO_neg, succ64 (n := (i + j) / 2) (by omega)]
        cases ltO l d[mid + m - 1 - (i + j) / 2]! d[(i + j) / 2]! <;> rfl) (fun i => by
        unfold slices_symMergeCmpFunc_int___impl_OrderOf_1_b8
        simp only [ltS, Nat.lt_irrefl, decide_false, cond_false]) 256 lo hi big (by omega) (lt_big (by omega)) (Nat.le_refl _) l2 (Nat.le_refl _) (.inl rfl) (.inl rfl)
      have e6 : rArith .sub .i64 ((mid + m : Nat) : Int) (s : Int) = ((mid + m - s : Nat) : Int) := sS (by omega) (by omega)
      obtain ⟨d', k1, k2, k3⟩ := found_ok hrec d a m b mid s (mid + m - s) lo hi (by omega) (by omega) hM hb hd ho s1 s2 hmid hlo hhi i1 i2 rfl (i3.imp id fun h => by simpa using h) (i4.imp id fun h => by simpa using h)
      refine ⟨d', ?_, k2, k3⟩
      rw [← k1]
      unfold slices_symMergeCmpFunc_int___impl_OrderOf_1_r
      by_cases q : m > mid
      · simp only [q, if_true] at hlo hhi
        have x1 : rArith .sub .i64 ((mid + m : Nat) : Int) (b : Int) = ((mid + m - b : Nat) : Int) := sS (by omega) (by omega)
        rw [hlo, hhi] at hs
        have hs' : slices_symMergeCmpFunc_int___impl_OrderOf_1_l8 rec ((a : Int), (m : Int), (b : Int), l, (mid : Int), ((mid + m : Nat) : Int), ((mid + m - 1 : Nat) : Int), ()) (d.toList, ((mid + m - b : Nat) : Int), (mid : Int), ()) = _ := hs
        simp only [e0, n1, cond_false, e1, n2, z, e2, e3, gtS, q, decide_true, cond_true, e4, e5, x1, hs', Option.bind_some, Sum.elim_inl, e6]
        rfl
      · simp only [q, if_false] at hlo hhi
        rw [hlo, hhi] at hs
        have hs' : slices_symMergeCmpFunc_int___impl_OrderOf_1_l8 rec ((a : Int), (m : Int), (b : Int), l, (mid : Int), ((mid + m : Nat) : Int), ((mid + m - 1 : Nat) : Int), ()) (d.toList, (a : Int), (m : Int), ()) = _ := hs
        simp only [e0, n1, cond_false, e1, n2, z, e2, e3, gtS, q, decide_false, e4, e5, hs', Option.bind_some, Sum.elim_inl, e6]
        rfl
theorem merge_f (l : List Ev) : ∀ F, MergeOk l (slices_symMergeCmpFunc_int___impl_OrderOf_1_f F) F := by
  intro F
  induction F with
  | zero => intro d a m b h; omega
  | succ F ih => intro d a m b h ham hmb hb hd ho s1 s2; exact merge_any l ih d a m b (by omega) ham hmb hb hd ho s1 s2
theorem o_merge (l : List Ev) (d : Array Int) (a m b : Nat) (ham : a < m) (hmb : m < b) (hb : b ≤ d.size) (hd : d.size ≤ 255) (ho : Oks l d) (s1 : SortedIn (ltO l) a m d) (s2 : SortedIn (ltO l) m b d) : ∃ d', slices_symMergeCmpFunc_int___impl_OrderOf_1 d.toList (a : Int) (m : Int) (b : Int) l = some (d'.toList, ()) ∧ PermIn a b d d' ∧ SortedIn (ltO l) a b d' :=
  merge_f l big d a m b (lt_big (by omega)) ham hmb hb hd ho s1 s2
end Go.Fn
set_option linter.unusedSimpArgs false
set_option linter.unusedVariables false
namespace Go.Fn
open Go.R Go.Sort
/-- Sorted in blocks of w, up to a. -/
def Blk (l : List Ev) (w a : Nat) (d : Array Int) : Prop := ∀ i j, i < j → j < a → i / w = j / w → ltO l d[j]! d[i]! = false
theorem stable0 (l : List Ev) (n : Nat) (hn : n ≤ 60) : ∀ (s a : Nat) (d : Array Int) (f : Nat), n - a ≤ s → a % 20 = 0 → a ≤ n → d.size = n → Oks l d → Blk l 20 a d → s < f →
    ∃ (d' : Array Int) (a' : Nat), iter (slices_stableCmpFunc_int___impl_OrderOf_1_b0 ((n : Int), l, (20 : Int), ())) f (d.toList, (a : Int), ((a + 20 : Nat) : Int), ()) = some (.inl (d'.toList, (a' : Int), ())) ∧ PermIn 0 n d d' ∧ a' % 20 = 0 ∧ a' ≤ n ∧ n < a' + 20 ∧ Blk l 20 a' d' := by
  intro s
  induction s with
  | zero =>
    intro a d f hs ha han hd ho hb hf
    obtain ⟨f, rfl⟩ : ∃ m, f = m + 1 := ⟨f - 1, by omega⟩
    refine ⟨d, a, iter_done ?_, permIn_refl _ _ _, ha, han, by omega, hb⟩
    unfold slices_stableCmpFunc_int___impl_OrderOf_1_b0
    simp only [leS, show ¬ (a + 20 ≤ n) by omega, decide_false, cond_false]
  | succ s ih =>
    intro a d f hs ha han hd ho hb hf
    obtain ⟨f, rfl⟩ : ∃ m, f = m + 1 := ⟨f - 1, by omega⟩
    by_cases h : a + 20 ≤ n
    · obtain ⟨d1, k1, k2, k3⟩ := o_ins l d a (a + 20) ho (by omega) (by omega) (by omega)
      obtain ⟨d', a', m1, m2, m3, m4, m5, m6⟩ := ih (a + 20) d1 f (by omega) (by omega) h (by rw [k2.1]; exact hd) (ho.perm (by omega) k2) (fun i j h1 h2 h3 => by
        by_cases q : j < a
        · rw [k2.2.1 i (.inl (by omega)), k2.2.1 j (.inl q)]; exact hb i j h1 q h3
        · exact k3 i j (by omega) h1 h2) (by omega)
      refine ⟨d', a', ?_, permIn_trans _ _ _ 0 n (permIn_mono _ _ a (a + 20) 0 n (Nat.zero_le _) h (by omega) k2) m2, m3, m4, m5, m6⟩
      rw [← m1]
      refine iter_next ?_
      unfold slices_stableCmpFunc_int___impl_OrderOf_1_b0
      have e1 : rArith .add .i64 ((a + 20 : Nat) : Int) (20 : Int) = ((a + 20 + 20 : Nat) : Int) := aS (m := 20) (by omega)
      simp only [leS, h, decide_true, cond_true, k1, Option.bind_some, e1]
    · refine ⟨d, a, iter_done ?_, permIn_refl _ _ _, ha, han, by omega, hb⟩
      unfold slices_stableCmpFunc_int___impl_OrderOf_1_b0
      simp only [leS, h, decide_false, cond_false]
/-- Merging the blocks of 20, by pairs. -/
theorem stable4 (l : List Ev) (n : Nat) (hn : n ≤ 60) : ∀ (s a : Nat) (d : Array Int) (f : Nat), n - a ≤ s → a % 40 = 0 → a ≤ n → d.size = n → Oks l d → Blk l 40 a d → (∀ i j, a ≤ i → i < j → j < n → i / 20 = j / 20 → ltO l d[j]! d[i]! = false) → s < f →
    ∃ (d' : Array Int) (a' : Nat), iter (slices_stableCmpFunc_int___impl_OrderOf_1_b4 ((n : Int), l, (20 : Int), ())) f (d.toList, (a : Int), ((a + 40 : Nat) : Int), ()) = some (.inl (d'.toList, (a' : Int), ())) ∧ PermIn 0 n d d' ∧ a' % 40 = 0 ∧ a' ≤ n ∧ n < a' + 40 ∧ Blk l 40 a' d' ∧ (∀ i j, a' ≤ i → i < j → j < n → i / 20 = j / 20 → ltO l d'[j]! d'[i]! = false) := by
  intro s
  induction s with
  | zero =>
    intro a d f hs ha han hd ho hb hr hf
    obtain ⟨f, rfl⟩ : ∃ m, f = m + 1 := ⟨f - 1, by omega⟩
    refine ⟨d, a, iter_done ?_, permIn_refl _ _ _, ha, han, by omega, hb, hr⟩
    unfold slices_stableCmpFunc_int___impl_OrderOf_1_b4
    simp only [leS, show ¬ (a + 40 ≤ n) by omega, decide_false, cond_false]
  | succ s ih =>
    intro a d f hs ha han hd ho hb hr hf
    obtain ⟨f, rfl⟩ : ∃ m, f = m + 1 := ⟨f - 1, by omega⟩
    by_cases h : a + 40 ≤ n
    · obtain ⟨d1, k1, k2, k3⟩ := o_merge l d a (a + 20) (a + 40) (by omega) (by omega) (by omega) (by omega) ho (fun i j h1 h2 h3 => hr i j h1 h2 (by omega) (by omega)) (fun i j h1 h2 h3 => hr i j (by omega) h2 (by omega) (by omega))
      obtain ⟨d', a', m1, m2, m3, m4, m5, m6, m7⟩ := ih (a + 40) d1 f (by omega) (by omega) h (by rw [k2.1]; exact hd) (ho.perm (by omega) k2) (fun i j h1 h2 h3 => by
        by_cases q : j < a
        · rw [k2.2.1 i (.inl (by omega)), k2.2.1 j (.inl q)]; exact hb i j h1 q h3
        · exact k3 i j (by omega) h1 h2) (fun i j h0 h1 h2 h3 => by
        rw [k2.2.1 i (.inr (by omega)), k2.2.1 j (.inr (by omega))]; exact hr i j (by omega) h1 h2 h3) (by omega)
      refine ⟨d', a', ?_, permIn_trans _ _ _ 0 n (permIn_mono _ _ a (a + 40) 0 n (Nat.zero_le _) h (by omega) k2) m2, m3, m4, m5, m6, m7⟩
      rw [← m1]
      refine iter_next ?_
      unfold slices_stableCmpFunc_int___impl_OrderOf_1_b4
      have e0 : rArith .add .i64 (a : Int) (20 : Int) = ((a + 20 : Nat) : Int) := aS (m := 20) (by omega)
      have e1 : rArith .add .i64 ((a + 40 : Nat) : Int) (rArith .mul .i64 (2 : Int) (20 : Int)) = ((a + 40 + 40 : Nat) : Int) := by
        rw [show rArith .mul .i64 (2 : Int) (20 : Int) = ((40 : Nat) : Int) from mS (n := 2) (m := 20) (by omega)]
        exact aS (by omega)
      simp only [leS, h, decide_true, cond_true, e0, k1, Option.bind_some, e1]
    · refine ⟨d, a, iter_done ?_, permIn_refl _ _ _, ha, han, by omega, hb, hr⟩
      unfold slices_stableCmpFunc_int___impl_OrderOf_1_b4
      simp only [leS, h, decide_false, cond_false]
theorem o_stable (l : List Ev) (d : Array Int) (n : Nat) (hn : n ≤ 60) (hd : d.size = n) (ho : Oks l d) : ∃ d', slices_stableCmpFunc_int___impl_OrderOf_1 d.toList (n : Int) l = some (d'.toList, ()) ∧ PermIn 0 n d d' ∧ SortedIn (ltO l) 0 n d' := by
  obtain ⟨d1, a1, k1, k2, k3, k4, k5, k6⟩ := stable0 l n hn 60 0 d big (by omega) rfl (Nat.zero_le _) hd ho (fun i j _ h => by omega) (lt_big (by omega))
  have z1 : d1.size = n := by rw [k2.1]; exact hd
  have ho1 := ho.perm (by omega) k2
  obtain ⟨d2, m1, m2, m3⟩ := o_ins l d1 a1 n ho1 k4 (by omega) (by omega)
  have z2 : d2.size = n := by rw [m2.1]; exact z1
  have ho2 := ho1.perm (by omega) m2
  have p2 := permIn_trans _ _ _ 0 n k2 (permIn_mono _ _ a1 n 0 n (Nat.zero_le _) (Nat.le_refl _) (by omega) m2)
  have b2 : ∀ i j, 0 ≤ i → i < j → j < n → i / 20 = j / 20 → ltO l d2[j]! d2[i]! = false := fun i j _ h1 h2 h3 => by
    by_cases q : j < a1
    · rw [m2.2.1 i (.inl (by omega)), m2.2.1 j (.inl q)]; exact k6 i j h1 q h3
    · exact m3 i j (by omega) h1 h2
  have st : slices_stableCmpFunc_int___impl_OrderOf_1_l0 ((n : Int), l, (20 : Int), ()) (d.toList, (0 : Int), (20 : Int), ()) = _ := k1
  unfold slices_stableCmpFunc_int___impl_OrderOf_1
  simp only [st, Option.bind_some, Sum.elim_inl, m1]
  unfold slices_stableCmpFunc_int___impl_OrderOf_1_l2
  by_cases q20 : 20 < n
  · obtain ⟨d3, a3, r1, r2, r3, r4, r5, r6, r7⟩ := stable4 l n hn 60 0 d2 big (by omega) rfl (Nat.zero_le _) z2 ho2 (fun i j _ h => by omega) b2 (lt_big (by omega))
    have z3 : d3.size = n := by rw [r2.1]; exact z2
    have ho3 := ho2.perm (by omega) r2
    have st4 : slices_stableCmpFunc_int___impl_OrderOf_1_l4 ((n : Int), l, (20 : Int), ()) (d2.toList, (0 : Int), rArith .mul .i64 (2 : Int) (20 : Int), ()) = _ := r1
    have e40 : rArith .mul .i64 (20 : Int) (2 : Int) = ((40 : Nat) : Int) := mS (n := 20) (m := 2) (by omega)
    have ea : rArith .add .i64 (a3 : Int) (20 : Int) = ((a3 + 20 : Nat) : Int) := aS (m := 20) (by omega)
    have g20 : rCmp .lss (20 : Int) (n : Int) = true := (ltS 20 n).trans (decide_eq_true q20)
    obtain ⟨d4, s1, s2, s3⟩ : ∃ d4 : Array Int, slices_stableCmpFunc_int___impl_OrderOf_1_b2 ((n : Int), l, ()) (d2.toList, (20 : Int), ()) = some (.inl (d4.toList, ((40 : Nat) : Int), ())) ∧ PermIn 0 n d2 d4 ∧ Blk l 40 n d4 := by
      by_cases q : a3 + 20 < n
      · obtain ⟨d4, t1, t2, t3⟩ := o_merge l d3 a3 (a3 + 20) n (by omega) q (by omega) (by omega) ho3 (fun i j h1 h2 h3 => r7 i j h1 h2 (by omega) (by omega)) (fun i j h1 h2 h3 => r7 i j (by omega) h2 (by omega) (by omega))
        refine ⟨d4, ?_, permIn_trans _ _ _ 0 n r2 (permIn_mono _ _ a3 n 0 n (Nat.zero_le _) (Nat.le_refl _) (by omega) t2), fun i j h1 h2 h3 => ?_⟩
        · unfold slices_stableCmpFunc_int___impl_OrderOf_1_b2
          simp only [g20, cond_true, st4, Option.bind_some, Sum.elim_inl, ea, ltS, q, decide_true, t1, e40]
        · by_cases q' : j < a3
          · rw [t2.2.1 i (.inl (by omega)), t2.2.1 j (.inl q')]; exact r6 i j h1 q' h3
          · exact t3 i j (by omega) h1 h2
      · refine ⟨d3, ?_, r2, fun i j h1 h2 h3 => ?_⟩
        · unfold slices_stableCmpFunc_int___impl_OrderOf_1_b2
          simp only [g20, cond_true, st4, Option.bind_some, Sum.elim_inl, ea, ltS, q, decide_false, cond_false, e40]
        · by_cases q' : j < a3
          · exact r6 i j h1 q' h3
          · exact r7 i j (by omega) h1 h2 (by omega)
    have z4 : d4.size = n := by rw [s2.1]; exact z2
    have ho4 := ho2.perm (by omega) s2
    by_cases q40 : 40 < n
    · have st5 : slices_stableCmpFunc_int___impl_OrderOf_1_l4 ((n : Int), l, ((40 : Nat) : Int), ()) (d4.toList, (0 : Int), rArith .mul .i64 (2 : Int) ((40 : Nat) : Int), ()) = some (.inl (d4.toList, (0 : Int), ())) := by
        refine iter_mono (n := 1) (iter_done ?_) (Nat.le_of_lt (lt_big (by omega)))
        have e80 : rArith .mul .i64 (2 : Int) ((40 : Nat) : Int) = ((80 : Nat) : Int) := mS (n := 2) (m := 40) (by omega)
        unfold slices_stableCmpFunc_int___impl_OrderOf_1_b4
        simp only [e80, leS, show ¬ (80 ≤ n) by omega, decide_false, cond_false]
      obtain ⟨d5, t1, t2, t3⟩ := o_merge l d4 0 40 n (by omega) q40 (by omega) (by omega) ho4 (fun i j h1 h2 h3 => s3 i j h2 (by omega) (by omega)) (fun i j h1 h2 h3 => s3 i j h2 (by omega) (by omega))
      refine ⟨d5, ?_, permIn_trans _ _ _ 0 n p2 (permIn_trans _ _ _ 0 n s2 t2), t3⟩
      have it : iter (slices_stableCmpFunc_int___impl_OrderOf_1_b2 ((n : Int), l, ())) 3 (d2.toList, (20 : Int), ()) = some (.inl (d5.toList, ())) := by
        have e0 : rArith .add .i64 (0 : Int) ((40 : Nat) : Int) = ((40 : Nat) : Int) := by rw [show (0 : Int) = ((0 : Nat) : Int) from rfl, aS (by omega)]
        have e80 : rArith .mul .i64 ((40 : Nat) : Int) (2 : Int) = ((80 : Nat) : Int) := mS (n := 40) (m := 2) (by omega)
        have t1' : slices_symMergeCmpFunc_int___impl_OrderOf_1 d4.toList (0 : Int) ((40 : Nat) : Int) (n : Int) l = _ := t1
        rw [iter_next s1, iter_next (y := (d5.toList, ((80 : Nat) : Int), ())) (by
          unfold slices_stableCmpFunc_int___impl_OrderOf_1_b2
          simp only [ltS, q40, decide_true, cond_true, st5, Option.bind_some, Sum.elim_inl, e0, t1', e80])]
        refine iter_done ?_
        unfold slices_stableCmpFunc_int___impl_OrderOf_1_b2
        simp only [ltS, show ¬ (80 < n) by omega, decide_false, cond_false]
      rw [iter_mono it (Nat.le_of_lt (lt_big (by omega)))]
      rfl
    · refine ⟨d4, ?_, permIn_trans _ _ _ 0 n p2 s2, fun i j h1 h2 h3 => s3 i j h2 h3 (by omega)⟩
      have it : iter (slices_stableCmpFunc_int___impl_OrderOf_1_b2 ((n : Int), l, ())) 2 (d2.toList, (20 : Int), ()) = some (.inl (d4.toList, ())) := by
        rw [iter_next s1]
        refine iter_done ?_
        unfold slices_stableCmpFunc_int___impl_OrderOf_1_b2
        simp only [ltS, q40, decide_false, cond_false]
      rw [iter_mono it (Nat.le_of_lt (lt_big (by omega)))]
      rfl
  · refine ⟨d2, ?_, p2, fun i j h1 h2 h3 => b2 i j (Nat.zero_le _) h2 h3 (by omega)⟩
    have it : iter (slices_stableCmpFunc_int___impl_OrderOf_1_b2 ((n : Int), l, ())) 1 (d2.toList, (20 : Int), ()) = some (.inl (d2.toList, ())) := by
      refine iter_done ?_
      have g20 : rCmp .lss (20 : Int) (n : Int) = false := (ltS 20 n).trans (decide_eq_false q20)
      unfold slices_stableCmpFunc_int___impl_OrderOf_1_b2
      simp only [g20, cond_false]
    rw [iter_mono it (Nat.le_of_lt (lt_big (by omega)))]
    rfl
theorem sorted_ext {α : Type} {lt : α → α → Prop} (irr : ∀ x, ¬ lt x x) (asy : ∀ x y, lt x y → ¬ lt y x) : ∀ {l m : List α}, l.Pairwise lt → m.Pairwise lt → (∀ x, x ∈ l ↔ x ∈ m) → l = m
  | [], [], _, _, _ => rfl
  | [], y :: m, _, _, h => absurd ((h y).2 (List.mem_cons_self ..)) (List.not_mem_nil)
  | x :: l, [], _, _, h => absurd ((h x).1 (List.mem_cons_self ..)) (List.not_mem_nil)
  | x :: l, y :: m, hl, hm, h => by
    have hl' := List.pairwise_cons.1 hl
    have hm' := List.pairwise_cons.1 hm
    have hxy : x = y := by
      rcases List.mem_cons.1 ((h x).1 (List.mem_cons_self ..)) with e | h1
      · exact e
      · rcases List.mem_cons.1 ((h y).2 (List.mem_cons_self ..)) with e | h2
        · exact e.symm
        · exact absurd (hl'.1 y h2) (asy _ _ (hm'.1 x h1))
    subst hxy
    congr 1
    refine sorted_ext irr asy hl'.2 hm'.2 fun z => ⟨fun hz => ?_, fun hz => ?_⟩
    · rcases List.mem_cons.1 ((h z).1 (List.mem_cons_of_mem _ hz)) with e | h1
      · subst e; exact absurd (hl'.1 z hz) (irr z)
      · exact h1
    · rcases List.mem_cons.1 ((h z).2 (List.mem_cons_of_mem _ hz)) with e | h1
      · subst e; exact absurd (hm'.1 z hz) (irr z)
      · exact h1
def rangeI (n : Nat) : List Int := (List.range n).map fun i : Nat => (i : Int)
theorem rangeI_len (n : Nat) : (rangeI n).length = n := by simp [rangeI]
theorem extract_all {α : Type} {d : Array α} {n : Nat} (h : d.size = n) : d.extract 0 n = d := by subst h; exact Array.extract_size
theorem rangeI_succ (n : Nat) : rangeI (n + 1) = rangeI n ++ [(n : Int)] := by unfold rangeI; rw [List.range_succ, List.map_append]; rfl
theorem rangeI_mem {n : Nat} {x : Int} : x ∈ rangeI n ↔ 0 ≤ x ∧ x < n := by
  unfold rangeI
  rw [List.mem_map]
  constructor
  · rintro ⟨k, hk, rfl⟩; have := List.mem_range.1 hk; omega
  · intro h; exact ⟨x.toNat, List.mem_range.2 (by omega), by omega⟩
/-- Of two events of a journal the one with the smaller number in the list is earlier, or has the greater stamp. -/
theorem ltO_tri {l : List Ev} (h : jok l = true) {i j : Nat} (hij : i < j) (hj : j < l.length) (hs : (l.getD i zIIIIIII).2.2.1 = (l.getD j zIIIIIII).2.2.1) : ltO l (i : Int) (j : Int) = true := by
  have hp := (jok_iff.1 h).2.2
  rw [List.pairwise_iff_getElem] at hp
  have := hp i j (by omega) hj hij
  rw [← getD_eq (show i < l.length by omega) zIIIIIII, ← getD_eq hj zIIIIIII] at this
  obtain ⟨h1, h2⟩ := this
  unfold ltO
  rw [Int.toNat_natCast, Int.toNat_natCast, ltK_iff]
  rw [ltE_iff] at h1
  by_cases e : (l.getD i zIIIIIII).1 = (l.getD j zIIIIIII).1
  · have := h2 e; omega
  · omega
theorem ltO_total {l : List Ev} (h : jok l = true) {x y : Int} (hx : 0 ≤ x ∧ x < l.length) (hy : 0 ≤ y ∧ y < l.length) (hne : x ≠ y) (hn : ltO l y x = false) : ltO l x y = true := by
  obtain ⟨i, rfl⟩ : ∃ n : Nat, x = (n : Int) := ⟨x.toNat, by omega⟩
  obtain ⟨j, rfl⟩ : ∃ n : Nat, y = (n : Int) := ⟨y.toNat, by omega⟩
  by_cases hs : (l.getD i zIIIIIII).2.2.1 = (l.getD j zIIIIIII).2.2.1
  · by_cases hij : i < j
    · exact ltO_tri h hij (by omega) hs
    · rw [ltO_tri h (i := j) (j := i) (by omega) (by omega) hs.symm] at hn; cases hn
  · unfold ltO at hn ⊢
    rw [Int.toNat_natCast, Int.toNat_natCast] at hn ⊢
    rw [ltK_no] at hn
    rw [ltK_iff]
    omega
/-- The numbers of a journal's events, in the order of their stamps. -/
def OrdIs (l : List Ev) (r : List Int) : Prop := (∀ x, x ∈ r ↔ 0 ≤ x ∧ x < l.length) ∧ r.Pairwise (fun x y => ltO l x y = true)
theorem ordIs_ext {l : List Ev} {r s : List Int} (h1 : OrdIs l r) (h2 : OrdIs l s) : r = s :=
  sorted_ext (lt := fun x y => ltO l x y = true) (fun x h => by rw [(ltO_swo l).irrefl] at h; cases h) (fun x y h h' => by rw [(ltO_swo l).asymm h] at h'; cases h') h1.2 h2.2 fun x => by rw [h1.1, h2.1]
theorem implSort_ok (l : List Ev) (h : jok l = true) : ∃ r, slices_SortStableFunc___int_int___impl_OrderOf_1 (rangeI l.length) l = some (r, ()) ∧ OrdIs l r := by
  have hl := jok_len h
  have hsz : (rangeI l.length).toArray.size = l.length := by simp [rangeI]
  have ho : Oks l (rangeI l.length).toArray := fun k hk => by
    have : (rangeI l.length).toArray[k]! ∈ rangeI l.length := by
      rw [getElem!_pos _ k hk, List.getElem_toArray]; exact List.getElem_mem _
    exact rangeI_mem.1 this
  obtain ⟨d', h1, h2, h3⟩ := o_stable l (rangeI l.length).toArray l.length hl hsz ho
  have hz : d'.size = l.length := by rw [h2.1, hsz]
  have hp : d'.toList.Perm (rangeI l.length) := by
    have := h2.2.2
    rw [extract_all hz, extract_all hsz] at this
    exact this
  refine ⟨d'.toList, ?_, fun x => by rw [hp.mem_iff, rangeI_mem], ?_⟩
  · unfold slices_SortStableFunc___int_int___impl_OrderOf_1
    have e : rLen (rangeI l.length) = (l.length : Int) := by unfold rLen; rw [rangeI_len]
    rw [e, show slices_stableCmpFunc_int___impl_OrderOf_1 (rangeI l.length) (l.length : Int) l = _ from h1]
    rfl
  · have hnd : (rangeI l.length).Pairwise (· ≠ ·) := by
      unfold rangeI
      rw [List.pairwise_map]
      exact List.pairwise_lt_range.imp fun {a b} h => by omega
    have hnd' : d'.toList.Pairwise (· ≠ ·) := (hp.pairwise_iff (fun {a b} h => Ne.symm h)).2 hnd
    rw [List.pairwise_iff_getElem] at hnd' ⊢
    intro i j hi hj hij
    have hi' : i < d'.size := by simpa using hi
    have hj' : j < d'.size := by simpa using hj
    have k1 := h3 i j (Nat.zero_le _) hij (by omega)
    rw [getElem!_pos d' i hi', getElem!_pos d' j hj'] at k1
    have ok := ho.perm (by omega) h2
    have oi := ok i hi'
    have oj := ok j hj'
    rw [getElem!_pos d' i hi'] at oi
    rw [getElem!_pos d' j hj'] at oj
    exact ltO_total h oi oj (hnd' i j hi hj hij) k1
end Go.Fn
set_option linter.unusedSimpArgs false
set_option linter.unusedVariables false
namespace Go.Fn
open Go.R Go.Sort
def stp (l : List Ev) (x : Int) : Int := (l.getD x.toNat zIIIIIII).2.2.1
theorem l_get0 (P T : List Int) (a : Int) : (P ++ a :: T).getD P.length 0 = a := by induction P <;> simp_all
theorem l_get1 (P T : List Int) (a x : Int) : (P ++ a :: x :: T).getD (P.length + 1) 0 = x := by simp
theorem l_set0 (P T : List Int) (a x : Int) : (P ++ a :: T).set P.length x = P ++ x :: T := by induction P <;> simp_all
theorem l_set1 (P T : List Int) (a b x : Int) : (P ++ a :: b :: T).set (P.length + 1) x = P ++ a :: x :: T := by simp
theorem ins_loop (l : List Ev) (i : Int) (x : Int) (hx : 0 ≤ x ∧ x < l.length) : ∀ (k : Nat) (P S : List Int) (n : Nat), P.length = k → P.length + S.length ≤ 1000 → (∀ y, y ∈ P ++ S → 0 ≤ y ∧ y < l.length) → (∀ y, y ∈ S → stp l x < stp l y) → k < n →
    ∃ A B, iter (spec_OrderOf_b2 (l, i, ())) n (P ++ x :: S, (k : Int), ()) = some (.inl (A ++ x :: B, ())) ∧ A ++ B = P ++ S ∧ (∀ y, y ∈ B → stp l x < stp l y) ∧ (∀ A' a, A = A' ++ [a] → stp l a ≤ stp l x) := by
  intro k
  induction k with
  | zero =>
    intro P S n hP _ _ hS hn
    obtain ⟨n, rfl⟩ : ∃ m, n = m + 1 := ⟨n - 1, by omega⟩
    have : P = [] := List.length_eq_zero_iff.1 hP
    subst this
    refine ⟨[], S, iter_done rfl, rfl, hS, fun A' a h => ?_⟩
    have := congrArg List.length h
    simp at this
  | succ p ih =>
    intro P S n hP hlen hv hS hn
    obtain ⟨n, rfl⟩ : ∃ m, n = m + 1 := ⟨n - 1, by omega⟩
    obtain ⟨P', a, rfl⟩ : ∃ P' a, P = P' ++ [a] := by
      have hne : P ≠ [] := fun h => by rw [h] at hP; cases hP
      exact ⟨P.dropLast, P.getLast hne, (List.dropLast_concat_getLast hne).symm⟩
    have hp : P'.length = p := by simpa using hP
    subst hp
    have ha := hv a (by simp)
    obtain ⟨an, rfl⟩ : ∃ q : Nat, a = (q : Int) := ⟨a.toNat, by omega⟩
    obtain ⟨xn, rfl⟩ : ∃ q : Nat, x = (q : Int) := ⟨x.toNat, by omega⟩
    have e1 : rArith .sub .i64 ((P'.length + 1 : Nat) : Int) 1 = (P'.length : Int) := pred64 (by simp at hlen; omega)
    have hL : (P' ++ [(an : Int)]) ++ (xn : Int) :: S = P' ++ (an : Int) :: (xn : Int) :: S := by simp
    rw [hL]
    have i0 : P'.length < (P' ++ (an : Int) :: (xn : Int) :: S).length := by simp
    have i1 : P'.length + 1 < (P' ++ (an : Int) :: (xn : Int) :: S).length := by simp
    have g0 : rGet zI (P' ++ (an : Int) :: (xn : Int) :: S) (P'.length : Int) = (an : Int) := by rw [get_nat]; exact l_get0 _ _ _
    have g1 : rGet zI (P' ++ (an : Int) :: (xn : Int) :: S) ((P'.length + 1 : Nat) : Int) = (xn : Int) := by rw [get_nat]; exact l_get1 _ _ _ _
    have ia : rInR l (an : Int) = true := inR_lt (by omega)
    have ix : rInR l (xn : Int) = true := inR_lt (by omega)
    by_cases hc : stp l (xn : Int) < stp l (an : Int)
    · obtain ⟨A, B, k1, k2, k3, k4⟩ := ih P' ((an : Int) :: S) n rfl (by simp at hlen ⊢; omega) (fun y hy => hv y (by simpa using hy)) (fun y hy => by
        rcases List.mem_cons.1 hy with rfl | hy
        · exact hc
        · exact hS y hy) (by omega)
      refine ⟨A, B, ?_, by rw [k2]; simp, k3, k4⟩
      rw [← k1]
      refine iter_next ?_
      have hgt : rCmp .gtr (rGet zIIIIIII l (an : Int)).2.2.1 (rGet zIIIIIII l (xn : Int)).2.2.1 = true := by
        rw [get_nat, get_nat]; exact decide_eq_true (by unfold stp at hc; rw [Int.toNat_natCast, Int.toNat_natCast] at hc; exact hc)
      unfold spec_OrderOf_b2
      simp only [gt0, cond_true, e1, inR_lt i0, inR_lt i1, g0, g1, ia, ix, hgt]
      have s1 : rPut (P' ++ (an : Int) :: (xn : Int) :: S) ((P'.length + 1 : Nat) : Int) (an : Int) = P' ++ (an : Int) :: (an : Int) :: S := by rw [put_nat]; exact l_set1 _ _ _ _ _
      have s2 : rPut (P' ++ (an : Int) :: (an : Int) :: S) ((P'.length : Nat) : Int) (xn : Int) = P' ++ (xn : Int) :: (an : Int) :: S := by rw [put_nat]; exact l_set0 _ _ _ _
      have i2 : P'.length < (P' ++ (an : Int) :: (an : Int) :: S).length := by simp
      rw [s1, s2, inR_lt i2]
      rfl
    · refine ⟨P' ++ [(an : Int)], S, ?_, rfl, hS, fun A' a h => ?_⟩
      · rw [hL]
        refine iter_done ?_
        have hgt : rCmp .gtr (rGet zIIIIIII l (an : Int)).2.2.1 (rGet zIIIIIII l (xn : Int)).2.2.1 = false := by
          rw [get_nat, get_nat]; exact decide_eq_false (by unfold stp at hc; rw [Int.toNat_natCast, Int.toNat_natCast] at hc; exact hc)
        unfold spec_OrderOf_b2
        simp only [gt0, cond_true, e1, inR_lt i0, inR_lt i1, g0, g1, ia, ix, hgt, cond_false]
      · have := List.append_inj_right' h rfl
        injection this with h1 _
        rw [← h1]; omega
theorem specO_loop (l : List Ev) (hj : jok l = true) : ∀ (s i : Nat) (out : List Int) (n : Nat), l.length - i ≤ s → i ≤ l.length → out.length = i → (∀ x, x ∈ out ↔ 0 ≤ x ∧ x < i) → out.Pairwise (fun x y => ltO l x y = true) → s < n →
    ∃ r, iter (spec_OrderOf_b0 (l, ())) n (out, (i : Int), ()) = some (.inl (r, ())) ∧ OrdIs l r := by
  have h60 := jok_len hj
  intro s
  induction s with
  | zero =>
    intro i out n hs hi hlen hm hp hn
    obtain ⟨n, rfl⟩ : ∃ m, n = m + 1 := ⟨n - 1, by omega⟩
    have : i = l.length := by omega
    refine ⟨out, iter_done ?_, fun x => by rw [hm, this], hp⟩
    unfold spec_OrderOf_b0
    simp only [lss_len, show ¬ (i < l.length) by omega, decide_false, cond_false]
  | succ s ih =>
    intro i out n hs hi hlen hm hp hn
    obtain ⟨n, rfl⟩ : ∃ m, n = m + 1 := ⟨n - 1, by omega⟩
    by_cases h : i < l.length
    · have hv : ∀ y, y ∈ out ++ [] → 0 ≤ y ∧ y < (l.length : Int) := fun y hy => by
        have := (hm y).1 (by simpa using hy); omega
      obtain ⟨A, B, k1, k2, k3, k4⟩ := ins_loop l (i : Int) (i : Int) (by omega) i out [] big hlen (by simp; omega) hv (fun y hy => absurd hy List.not_mem_nil) (lt_big (by omega))
      rw [List.append_nil] at k2
      have hout : out.Pairwise (fun x y => ltO l x y = true) := hp
      rw [← k2, List.pairwise_append] at hout
      have hAi : ∀ a, a ∈ A → ltO l a (i : Int) = true := fun a ha => by
        have hao := (hm a).1 (by rw [← k2]; exact List.mem_append_left _ ha)
        have hne : A ≠ [] := fun e => by rw [e] at ha; cases ha
        have hl := k4 _ _ (List.dropLast_concat_getLast hne).symm
        have hle : stp l a ≤ stp l (i : Int) := by
          by_cases e : a = A.getLast hne
          · rw [e]; exact hl
          · have hpa := hout.1
            rw [← List.dropLast_concat_getLast hne, List.pairwise_append] at hpa
            have ha2 : a ∈ A.dropLast := by
              have ha' := ha
              rw [← List.dropLast_concat_getLast hne, List.mem_append] at ha'
              rcases ha' with h | h
              · exact h
              · rw [List.mem_singleton] at h; exact absurd h e
            have := hpa.2.2 a ha2 (A.getLast hne) (List.mem_singleton.2 rfl)
            unfold ltO at this
            rw [ltK_iff] at this
            unfold stp at hl ⊢
            omega
        obtain ⟨an, rfl⟩ : ∃ q : Nat, a = (q : Int) := ⟨a.toNat, by omega⟩
        by_cases e : stp l (an : Int) = stp l (i : Int)
        · exact ltO_tri hj (by omega) h (by unfold stp at e; rwa [Int.toNat_natCast, Int.toNat_natCast] at e)
        · unfold ltO; rw [ltK_iff]; unfold stp at e hle; omega
      have hiB : ∀ y, y ∈ B → ltO l (i : Int) y = true := fun y hy => by
        have := k3 y hy
        unfold ltO; rw [ltK_iff]; unfold stp at this; omega
      obtain ⟨r, r1, r2⟩ := ih (i + 1) (A ++ (i : Int) :: B) n (by omega) h (by
        have := congrArg List.length k2
        simp only [List.length_append, List.length_cons] at this ⊢; omega) (fun x => by
        have := hm x
        rw [← k2, List.mem_append] at this
        rw [List.mem_append, List.mem_cons]
        constructor
        · rintro (q | q | q)
          · have := this.1 (.inl q); omega
          · omega
          · have := this.1 (.inr q); omega
        · intro q
          by_cases e : x = (i : Int)
          · exact .inr (.inl e)
          · rcases this.2 (by omega) with q | q
            · exact .inl q
            · exact .inr (.inr q)) (by
        rw [List.pairwise_append]
        refine ⟨hout.1, List.Pairwise.cons hiB hout.2.1, fun a ha y hy => ?_⟩
        rcases List.mem_cons.1 hy with rfl | hy
        · exact hAi a ha
        · exact hout.2.2 a ha y hy) (by omega)
      refine ⟨r, ?_, r2⟩
      rw [← r1]
      refine iter_next ?_
      have hsm : rSmall (out ++ [(i : Int)]) = true := small_of (by simp; omega)
      have hap : List.append (α := Int) out (List.append (α := Int) ([] : List Int) [(i : Int)]) = out ++ [(i : Int)] := rfl
      unfold spec_OrderOf_b0 spec_OrderOf_l2
      simp only [lss_len, h, decide_true, cond_true, specJ_eq, hj, Option.bind_some, hap, hsm, k1, Sum.elim_inl, succ64 (n := i) (by omega)]
    · have : i = l.length := by omega
      refine ⟨out, iter_done ?_, fun x => by rw [hm, this], hp⟩
      unfold spec_OrderOf_b0
      simp only [lss_len, h, decide_false, cond_false]
theorem implO_loop (l : List Ev) (h60 : l.length ≤ 60) : impl_OrderOf_l0 (rLen l, ()) (l, [], (0 : Int), ()) = some (.inl (l, rangeI l.length, ())) := by
  refine loop_end (body := impl_OrderOf_b0 (rLen l, ())) (fun n => (l, rangeI n, (n : Int), ())) l.length (by omega) _ (fun n hn => ?_) ?_
  · have hsm : rSmall (rangeI (n + 1)) = true := small_of (by rw [rangeI_len]; omega)
    have hap : List.append (α := Int) (rangeI n) (List.append (α := Int) ([] : List Int) [(n : Int)]) = rangeI (n + 1) := (rangeI_succ n).symm
    unfold impl_OrderOf_b0
    simp only [lss_len, hn, decide_true, cond_true, hap, hsm, succ64 (n := n) (by omega)]
  · unfold impl_OrderOf_b0
    simp only [lss_len, Nat.lt_irrefl, decide_false, cond_false]
/-- Both give the same order. -/
theorem order_both (l : List Ev) : ∃ r, spec_OrderOf l = some (r, ()) ∧ impl_OrderOf l = some (r, ()) ∧ r.length ≤ 60 ∧ (∀ x, x ∈ r → 0 ≤ x ∧ x < l.length) ∧ (r ≠ [] → jok l = true) ∧ (jok l = true → OrdIs l r) := by
  cases hj : jok l with
  | false =>
    refine ⟨[], ?_, ?_, Nat.zero_le _, fun x hx => absurd hx List.not_mem_nil, fun h => absurd rfl h, fun h => by cases h⟩
    · have it : iter (spec_OrderOf_b0 (l, ())) 1 ([], (0 : Int), ()) = some (.inl ([], ())) := by
        refine iter_done ?_
        unfold spec_OrderOf_b0
        simp only [specJ_eq, hj, Option.bind_some, cond_false]
        cases rCmp .lss (0 : Int) (rLen l) <;> rfl
      unfold spec_OrderOf spec_OrderOf_l0
      rw [iter_mono it (Nat.le_of_lt (lt_big (by omega)))]
      rfl
    · unfold impl_OrderOf
      rw [implJ_eq, hj]
      rfl
  | true =>
    have h60 := jok_len hj
    obtain ⟨r, r1, r2⟩ := specO_loop l hj 60 0 [] big (by omega) (Nat.zero_le _) rfl (fun x => ⟨fun h => absurd h List.not_mem_nil, fun h => by omega⟩) List.Pairwise.nil (lt_big (by omega))
    obtain ⟨r', q1, q2⟩ := implSort_ok l hj
    have : r' = r := ordIs_ext q2 r2
    subst this
    have hlen : r'.length ≤ 60 := by
      have hp : r'.Perm (rangeI l.length) := by
        refine (List.perm_ext_iff_of_nodup ?_ ?_).2 fun x => by rw [r2.1, rangeI_mem]
        · exact r2.2.imp fun {a b} h e => by subst e; rw [(ltO_swo l).irrefl] at h; cases h
        · unfold rangeI
          rw [List.nodup_iff_pairwise_ne, List.pairwise_map]
          exact List.pairwise_lt_range.imp fun {a b} h => by omega
      rw [hp.length_eq, rangeI_len]; exact h60
    refine ⟨r', ?_, ?_, hlen, fun x hx => (r2.1 x).1 hx, fun _ => rfl, fun _ => r2⟩
    · unfold spec_OrderOf spec_OrderOf_l0
      rw [show (0 : Int) = ((0 : Nat) : Int) from rfl, r1]
      rfl
    · unfold impl_OrderOf
      simp only [implJ_eq, hj, Option.bind_some, Bool.not_true, cond_false, implO_loop l h60, Sum.elim_inl, q1]
abbrev Fat := Int × Int × Int × Int × Int × Int × Int
def fst (r : List Int) (f : Fat) (n : Nat) : Int × Int × Int × Int × Int × Int × Int × Int × Int × Int × Int × Int × Int × Int × (List Int) × Int × Unit := (0, 0, 0, 0, 0, 0, 0, f.1, f.2.1, f.2.2.1, f.2.2.2.1, f.2.2.2.2.1, f.2.2.2.2.2.1, f.2.2.2.2.2.2, r, (n : Int), ())
theorem fate_step (l : List Ev) (hj : jok l = true) (p : Int) (r : List Int) (hr : ∀ x, x ∈ r → 0 ≤ x ∧ x < l.length) (hr2 : r.length ≤ 60) (f : Fat) (n : Nat) (hn : n < r.length) :
    ∃ g : Fat, spec_FateOf_b0 (l, p, ()) (fst r f n) = some (.inl (fst r g (n + 1))) ∧ impl_FateOf_b0 (l, p, rLen r, ()) (fst r f n) = some (.inl (fst r g (n + 1))) := by
  have hx := hr _ (getD_mem hn zI)
  obtain ⟨m, hm⟩ : ∃ q : Nat, r.getD n zI = (q : Int) := ⟨(r.getD n zI).toNat, by omega⟩
  rw [hm] at hx
  have hml : m < l.length := by omega
  have he := evOk_iff.1 (jok_ev hj hml)
  obtain ⟨f1, f2, f3, f4, f5, f6, f7⟩ := f
  unfold spec_FateOf_b0 impl_FateOf_b0 spec_l08Next fst
  simp only [lss_len, hn, decide_true, cond_true, inR_nat, get_nat, hm, hml, succ64 (n := n) (by omega)]
  revert he
  generalize l.getD m zIIIIIII = e
  intro he
  have ne : ∀ x y : Int, rCmp .neq x y = !rCmp .eql x y := fun x y => rfl
  simp only [ne]
  cases hp : rCmp .eql e.2.2.2.2.1 p with
  | false => exact ⟨(_, _, _, _, _, _, _), rfl, rfl⟩
  | true =>
    have hk : e.2.2.2.1 = 1 ∨ e.2.2.2.1 = 2 ∨ e.2.2.2.1 = 3 ∨ e.2.2.2.1 = 4 := by omega
    by_cases q0 : f1 = 0
    · subst q0
      rcases hk with h | h | h | h <;> rw [h] <;> exact ⟨(_, _, _, _, _, _, _), rfl, rfl⟩
    · by_cases q1 : f1 = 1
      · subst q1
        rcases hk with h | h | h | h <;> rw [h] <;> exact ⟨(_, _, _, _, _, _, _), rfl, rfl⟩
      · have c0 : rCmp .eql f1 (0 : Int) = false := by simpa [rCmp] using q0
        have c1 : rCmp .eql f1 (1 : Int) = false := by simpa [rCmp] using q1
        simp only [c0, c1]
        rcases hk with h | h | h | h <;> rw [h] <;> exact ⟨(_, _, _, _, _, _, _), rfl, rfl⟩
theorem fate_loop (l : List Ev) (p : Int) (r : List Int) (hj : r ≠ [] → jok l = true) (hr : ∀ x, x ∈ r → 0 ≤ x ∧ x < l.length) (hr2 : r.length ≤ 60) : ∀ (s n k : Nat) (f : Fat), r.length - n ≤ s → n ≤ r.length → s < k →
    ∃ g : Fat, iter (spec_FateOf_b0 (l, p, ())) k (fst r f n) = some (.inl (0, 0, 0, 0, 0, 0, 0, g.1, g.2.1, g.2.2.1, g.2.2.2.1, g.2.2.2.2.1, g.2.2.2.2.2.1, g.2.2.2.2.2.2, ())) ∧ iter (impl_FateOf_b0 (l, p, rLen r, ())) k (fst r f n) = some (.inl (0, 0, 0, 0, 0, 0, 0, g.1, g.2.1, g.2.2.1, g.2.2.2.1, g.2.2.2.2.1, g.2.2.2.2.2.1, g.2.2.2.2.2.2, ())) := by
  have done : ∀ (n : Nat) (f : Fat), ¬ (n < r.length) → spec_FateOf_b0 (l, p, ()) (fst r f n) = some (.inr (.inl (0, 0, 0, 0, 0, 0, 0, f.1, f.2.1, f.2.2.1, f.2.2.2.1, f.2.2.2.2.1, f.2.2.2.2.2.1, f.2.2.2.2.2.2, ()))) ∧ impl_FateOf_b0 (l, p, rLen r, ()) (fst r f n) = some (.inr (.inl (0, 0, 0, 0, 0, 0, 0, f.1, f.2.1, f.2.2.1, f.2.2.2.1, f.2.2.2.2.1, f.2.2.2.2.2.1, f.2.2.2.2.2.2, ()))) := fun n f h => by
    unfold spec_FateOf_b0 impl_FateOf_b0 fst
    simp only [lss_len, h, decide_false, cond_false]
    exact ⟨trivial, trivial⟩
  intro s
  induction s with
  | zero =>
    intro n k f hs hn hk
    obtain ⟨k, rfl⟩ : ∃ m, k = m + 1 := ⟨k - 1, by omega⟩
    have := done n f (by omega)
    exact ⟨f, iter_done this.1, iter_done this.2⟩
  | succ s ih =>
    intro n k f hs hn hk
    obtain ⟨k, rfl⟩ : ∃ m, k = m + 1 := ⟨k - 1, by omega⟩
    by_cases h : n < r.length
    · obtain ⟨g, g1, g2⟩ := fate_step l (hj (fun e => by rw [e] at h; cases h)) p r hr hr2 f n h
      rw [iter_next g1, iter_next g2]
      exact ih (n + 1) k g (by omega) h (by omega)
    · have := done n f h
      exact ⟨f, iter_done this.1, iter_done this.2⟩
theorem fate_both (l : List Ev) (p : Int) : ∃ g : Fat, spec_FateOf l p = some (g.1, g.2.1, g.2.2.1, g.2.2.2.1, g.2.2.2.2.1, g.2.2.2.2.2.1, g.2.2.2.2.2.2, ()) ∧ impl_FateOf l p = some (g.1, g.2.1, g.2.2.1, g.2.2.2.1, g.2.2.2.2.1, g.2.2.2.2.2.1, g.2.2.2.2.2.2, ()) := by
  obtain ⟨r, r1, r2, r3, r4, r5, _⟩ := order_both l
  obtain ⟨g, g1, g2⟩ := fate_loop l p r r5 r4 r3 60 0 big (0, 0, 0, 0, 0, 0, 0) (by omega) (Nat.zero_le _) (lt_big (by omega))
  refine ⟨g, ?_, ?_⟩
  · unfold spec_FateOf
    rw [r1]
    simp only [Option.bind_some]
    have g1 : spec_FateOf_l0 (l, p, ()) (0, 0, 0, 0, 0, 0, 0, 0, 0, 0, 0, 0, 0, 0, r, 0, ()) = _ := g1
    rw [g1]
    rfl
  · unfold impl_FateOf
    rw [r2]
    simp only [Option.bind_some]
    have g2 : impl_FateOf_l0 (l, p, rLen r, ()) (0, 0, 0, 0, 0, 0, 0, 0, 0, 0, 0, 0, 0, 0, r, 0, ()) = _ := g2
    rw [g2]
    rfl
theorem fateOf_true (l : List Ev) (p : Int) (hl0 : l.length ≤ 9223372036854775807) : laws_FnExactFateOf l p = some (true, ()) := by
  unfold laws_FnExactFateOf
  rw [szEvS_eq l _ hl0 (by decide) (by decide)]
  simp only [Option.bind_some]
  cases hd : decide ((1048576 : Int) < (l.length : Int)) with
  | true => rfl
  | false =>
    have hd := of_decide_eq_false hd
    have hl : l.length ≤ 1073741824 := by omega
    simp only [cond_false]
    rw [neg_of (by omega)]
    obtain ⟨g, g1, g2⟩ := fate_both l p
    simp only [cond_false, toEvS_eq l hl, Option.bind_some, g1, g2, eqEvS_self l hl, Bool.not_true]
    unfold laws_eqFate
    simp only [neq_self, cond_false, Option.bind_some, Bool.not_true]
end Go.Fn
