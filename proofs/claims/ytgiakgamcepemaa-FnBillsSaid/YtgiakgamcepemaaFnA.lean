import Derived.Test.YtgiakgamcepemaaRD
/- Plain functions that stand for Go functions, and what they answer: FnA. Conditions: none. -/
set_option autoImplicit false
set_option linter.unusedVariables false
set_option linter.unusedSimpArgs false
set_option linter.unusedVariables false
namespace Go.Fn
open Go.R
def zIIIIIII : Int × Int × Int × Int × Int × Int × Int := ((0 : Int), (0 : Int), (0 : Int), (0 : Int), (0 : Int), (0 : Int), (0 : Int))

/-! loop.example/g03318/laws.toEvent -/
def laws_toEvent (a0 : Int) (a1 : Int) (a2 : Int) (a3 : Int) (a4 : Int) (a5 : Int) (a6 : Int) : Option (Int × Int × Int × Int × Int × Int × Int × Unit) :=
  some (a0, a1, a2, a3, a4, a5, a6, ())

/-! loop.example/g03318/spec.l01In -/
def spec_l01In (a0 : Int) (a1 : Int) (a2 : Int) : Option (Bool × Unit) :=
  (bif (rCmp .geq a0 a1) then some ((rCmp .leq a0 a2), ()) else some (false, ()))

/-! loop.example/g03318/spec.EventOk -/
def spec_EventOk (a0 : Int) (a1 : Int) (a2 : Int) (a3 : Int) (a4 : Int) (a5 : Int) (a6 : Int) : Option (Bool × Unit) :=
  ((spec_l01In a0 (0 : Int) (5 : Int)).bind fun y0 => (bif y0.1 then ((spec_l01In a1 (1 : Int) (999 : Int)).bind fun y1 => (bif y1.1 then ((spec_l01In a2 (1 : Int) (100000 : Int)).bind fun y2 => (bif y2.1 then ((spec_l01In a3 (1 : Int) (4 : Int)).bind fun y3 => (bif y3.1 then ((spec_l01In a4 (1 : Int) (999 : Int)).bind fun y4 => (bif y4.1 then ((spec_l01In a5 (0 : Int) (20000 : Int)).bind fun y5 => (bif y5.1 then ((spec_l01In a6 (0 : Int) (20000 : Int)).bind fun y6 => some (y6.1, ())) else some (false, ()))) else some (false, ()))) else some (false, ()))) else some (false, ()))) else some (false, ()))) else some (false, ())))

/-! loop.example/g03318/impl.within -/
def impl_within (a0 : Int) (a1 : Int) (a2 : Int) : Option (Bool × Unit) :=
  (bif (rCmp .geq a0 a1) then some ((rCmp .leq a0 a2), ()) else some (false, ()))

/-! loop.example/g03318/impl.timeOk -/
def impl_timeOk (a0 : Int) : Option (Bool × Unit) :=
  ((impl_within a0 (0 : Int) (20000 : Int)).bind fun y0 => some (y0.1, ()))

/-! loop.example/g03318/impl.EventOk -/
def impl_EventOk (a0 : Int) (a1 : Int) (a2 : Int) (a3 : Int) (a4 : Int) (a5 : Int) (a6 : Int) : Option (Bool × Unit) :=
  ((impl_within a0 (0 : Int) (5 : Int)).bind fun y0 => (bif y0.1 then ((impl_within a1 (1 : Int) (999 : Int)).bind fun y1 => (bif y1.1 then ((impl_within a2 (1 : Int) (100000 : Int)).bind fun y2 => (bif y2.1 then ((impl_within a3 (1 : Int) (4 : Int)).bind fun y3 => (bif y3.1 then ((impl_within a4 (1 : Int) (999 : Int)).bind fun y4 => (bif y4.1 then ((impl_timeOk a5).bind fun y5 => (bif y5.1 then ((impl_timeOk a6).bind fun y6 => some (y6.1, ())) else some (false, ()))) else some (false, ()))) else some (false, ()))) else some (false, ()))) else some (false, ()))) else some (false, ())))

/-! loop.example/g03318/laws.FnExactEventOk -/
def laws_FnExactEventOk (a0 : Int) (a1 : Int) (a2 : Int) (a3 : Int) (a4 : Int) (a5 : Int) (a6 : Int) : Option (Bool × Unit) :=
  ((laws_toEvent a0 a1 a2 a3 a4 a5 a6).bind fun y0 => ((spec_EventOk y0.1 y0.2.1 y0.2.2.1 y0.2.2.2.1 y0.2.2.2.2.1 y0.2.2.2.2.2.1 y0.2.2.2.2.2.2.1).bind fun y1 => ((laws_toEvent a0 a1 a2 a3 a4 a5 a6).bind fun y2 => ((impl_EventOk y2.1 y2.2.1 y2.2.2.1 y2.2.2.2.1 y2.2.2.2.2.1 y2.2.2.2.2.2.1 y2.2.2.2.2.2.2.1).bind fun y3 => (bif (Bool.not (rBeq y3.1 y1.1)) then some (false, ()) else some (true, ()))))))

/-! loop.example/g03318/laws.szEventS -/
def laws_szEventS (a0 : (List (Int × Int × Int × Int × Int × Int × Int))) (a1 : Int) : Option (Int × Unit) :=
  (bif (rCmp .lss (rArith .sub .i64 a1 (rLen a0)) (0 : Int)) then some ((-1 : Int), ()) else some ((rArith .sub .i64 a1 (rLen a0)), ()))

/-! loop.example/g03318/laws.toEventS -/
def laws_toEventS_b0 (k : (List (Int × Int × Int × Int × Int × Int × Int)) × Unit) (x : (List (Int × Int × Int × Int × Int × Int × Int)) × Int × Unit) : Option (((List (Int × Int × Int × Int × Int × Int × Int)) × Int × Unit) ⊕ ((List (Int × Int × Int × Int × Int × Int × Int)) × Unit ⊕ Empty)) :=
  (bif (rCmp .lss x.2.1 (rLen k.1)) then (bif (rInR k.1 x.2.1) then ((laws_toEvent (rGet zIIIIIII k.1 x.2.1).1 (rGet zIIIIIII k.1 x.2.1).2.1 (rGet zIIIIIII k.1 x.2.1).2.2.1 (rGet zIIIIIII k.1 x.2.1).2.2.2.1 (rGet zIIIIIII k.1 x.2.1).2.2.2.2.1 (rGet zIIIIIII k.1 x.2.1).2.2.2.2.2.1 (rGet zIIIIIII k.1 x.2.1).2.2.2.2.2.2).bind fun y0 => (bif (rInR x.1 x.2.1) then some (.inl ((rPut x.1 x.2.1 (y0.1, y0.2.1, y0.2.2.1, y0.2.2.2.1, y0.2.2.2.2.1, y0.2.2.2.2.2.1, y0.2.2.2.2.2.2.1)), (rArith .add .i64 x.2.1 (1 : Int)), ())) else none)) else none) else some (.inr (.inl (x.1, ()))))
def laws_toEventS_l0 (k : (List (Int × Int × Int × Int × Int × Int × Int)) × Unit) (x : (List (Int × Int × Int × Int × Int × Int × Int)) × Int × Unit) : Option ((List (Int × Int × Int × Int × Int × Int × Int)) × Unit ⊕ Empty) := iter (laws_toEventS_b0 k) big x
def laws_toEventS (a0 : (List (Int × Int × Int × Int × Int × Int × Int))) : Option ((List (Int × Int × Int × Int × Int × Int × Int)) × Unit) :=
  (bif (rRepOk (rLen a0)) then ((laws_toEventS_l0 (a0, ()) ((rRep (rLen a0) ((0 : Int), (0 : Int), (0 : Int), (0 : Int), (0 : Int), (0 : Int), (0 : Int))), (0 : Int), ())).bind fun q0 => (Sum.elim (fun y1 => some (y1.1, ())) (fun q2 => (Empty.elim q2)) q0)) else none)

/-! loop.example/g03318/spec.JournalOk -/
def spec_JournalOk_b0 (k : (List (Int × Int × Int × Int × Int × Int × Int)) × Unit) (x : Int × Unit) : Option ((Int × Unit) ⊕ (Bool × Unit ⊕ (Unit ⊕ Empty))) :=
  (bif (rCmp .lss x.1 (rLen k.1)) then (bif (rInR k.1 x.1) then ((spec_EventOk (rGet zIIIIIII k.1 x.1).1 (rGet zIIIIIII k.1 x.1).2.1 (rGet zIIIIIII k.1 x.1).2.2.1 (rGet zIIIIIII k.1 x.1).2.2.2.1 (rGet zIIIIIII k.1 x.1).2.2.2.2.1 (rGet zIIIIIII k.1 x.1).2.2.2.2.2.1 (rGet zIIIIIII k.1 x.1).2.2.2.2.2.2).bind fun y0 => (bif (Bool.not y0.1) then some (.inr (.inl (false, ()))) else (bif (rCmp .gtr x.1 (0 : Int)) then (bif (rInR k.1 (rArith .sub .i64 x.1 (1 : Int))) then (bif (rCmp .lss (rGet zIIIIIII k.1 x.1).1 (rGet zIIIIIII k.1 (rArith .sub .i64 x.1 (1 : Int))).1) then some (.inr (.inl (false, ()))) else (bif (rCmp .gtr x.1 (0 : Int)) then (bif (rInR k.1 (rArith .sub .i64 x.1 (1 : Int))) then (bif (rCmp .eql (rGet zIIIIIII k.1 x.1).1 (rGet zIIIIIII k.1 (rArith .sub .i64 x.1 (1 : Int))).1) then (bif (rInR k.1 (rArith .sub .i64 x.1 (1 : Int))) then (bif (rCmp .leq (rGet zIIIIIII k.1 x.1).2.1 (rGet zIIIIIII k.1 (rArith .sub .i64 x.1 (1 : Int))).2.1) then some (.inr (.inl (false, ()))) else (bif (rInR k.1 (rArith .sub .i64 x.1 (1 : Int))) then (bif (rCmp .leq (rGet zIIIIIII k.1 x.1).2.2.1 (rGet zIIIIIII k.1 (rArith .sub .i64 x.1 (1 : Int))).2.2.1) then some (.inr (.inl (false, ()))) else some (.inl ((rArith .add .i64 x.1 (1 : Int)), ()))) else none)) else none) else some (.inl ((rArith .add .i64 x.1 (1 : Int)), ()))) else none) else some (.inl ((rArith .add .i64 x.1 (1 : Int)), ())))) else none) else (bif (rCmp .gtr x.1 (0 : Int)) then (bif (rInR k.1 (rArith .sub .i64 x.1 (1 : Int))) then (bif (rCmp .eql (rGet zIIIIIII k.1 x.1).1 (rGet zIIIIIII k.1 (rArith .sub .i64 x.1 (1 : Int))).1) then (bif (rInR k.1 (rArith .sub .i64 x.1 (1 : Int))) then (bif (rCmp .leq (rGet zIIIIIII k.1 x.1).2.1 (rGet zIIIIIII k.1 (rArith .sub .i64 x.1 (1 : Int))).2.1) then some (.inr (.inl (false, ()))) else (bif (rInR k.1 (rArith .sub .i64 x.1 (1 : Int))) then (bif (rCmp .leq (rGet zIIIIIII k.1 x.1).2.2.1 (rGet zIIIIIII k.1 (rArith .sub .i64 x.1 (1 : Int))).2.2.1) then some (.inr (.inl (false, ()))) else some (.inl ((rArith .add .i64 x.1 (1 : Int)), ()))) else none)) else none) else some (.inl ((rArith .add .i64 x.1 (1 : Int)), ()))) else none) else some (.inl ((rArith .add .i64 x.1 (1 : Int)), ())))))) else none) else some (.inr (.inr (.inl (())))))
def spec_JournalOk_l0 (k : (List (Int × Int × Int × Int × Int × Int × Int)) × Unit) (x : Int × Unit) : Option (Bool × Unit ⊕ (Unit ⊕ Empty)) := iter (spec_JournalOk_b0 k) big x
def spec_JournalOk (a0 : (List (Int × Int × Int × Int × Int × Int × Int))) : Option (Bool × Unit) :=
  (bif (rCmp .gtr (rLen a0) (60 : Int)) then some (false, ()) else ((spec_JournalOk_l0 (a0, ()) ((0 : Int), ())).bind fun q0 => (Sum.elim (fun y1 => some (y1.1, ())) (fun q2 => (Sum.elim (fun y3 => some (true, ())) (fun q4 => (Empty.elim q4)) q2)) q0)))

/-! loop.example/g03318/impl.JournalOk -/
def impl_JournalOk_b0 (k : (List (Int × Int × Int × Int × Int × Int × Int)) × (List (Int × Int × Int × Int × Int × Int × Int)) × Int × Unit) (x : Int × Unit) : Option ((Int × Unit) ⊕ (Bool × Unit ⊕ (Unit ⊕ Empty))) :=
  (bif (rCmp .lss x.1 k.2.2.1) then (bif (rInR k.2.1 x.1) then ((impl_EventOk (rGet zIIIIIII k.2.1 x.1).1 (rGet zIIIIIII k.2.1 x.1).2.1 (rGet zIIIIIII k.2.1 x.1).2.2.1 (rGet zIIIIIII k.2.1 x.1).2.2.2.1 (rGet zIIIIIII k.2.1 x.1).2.2.2.2.1 (rGet zIIIIIII k.2.1 x.1).2.2.2.2.2.1 (rGet zIIIIIII k.2.1 x.1).2.2.2.2.2.2).bind fun y0 => (bif (Bool.not y0.1) then some (.inr (.inl (false, ()))) else (bif (rCmp .eql x.1 (0 : Int)) then some (.inl ((rArith .add .i64 x.1 (1 : Int)), ())) else (bif (rInR k.1 (rArith .sub .i64 x.1 (1 : Int))) then (bif (rCmp .lss (rGet zIIIIIII k.2.1 x.1).1 (rGet zIIIIIII k.1 (rArith .sub .i64 x.1 (1 : Int))).1) then some (.inr (.inl (false, ()))) else (bif (rCmp .eql (rGet zIIIIIII k.2.1 x.1).1 (rGet zIIIIIII k.1 (rArith .sub .i64 x.1 (1 : Int))).1) then (bif (rCmp .leq (rGet zIIIIIII k.2.1 x.1).2.1 (rGet zIIIIIII k.1 (rArith .sub .i64 x.1 (1 : Int))).2.1) then some (.inr (.inl (false, ()))) else (bif (rCmp .leq (rGet zIIIIIII k.2.1 x.1).2.2.1 (rGet zIIIIIII k.1 (rArith .sub .i64 x.1 (1 : Int))).2.2.1) then some (.inr (.inl (false, ()))) else some (.inl ((rArith .add .i64 x.1 (1 : Int)), ())))) else some (.inl ((rArith .add .i64 x.1 (1 : Int)), ())))) else none)))) else none) else some (.inr (.inr (.inl (())))))
def impl_JournalOk_l0 (k : (List (Int × Int × Int × Int × Int × Int × Int)) × (List (Int × Int × Int × Int × Int × Int × Int)) × Int × Unit) (x : Int × Unit) : Option (Bool × Unit ⊕ (Unit ⊕ Empty)) := iter (impl_JournalOk_b0 k) big x
def impl_JournalOk (a0 : (List (Int × Int × Int × Int × Int × Int × Int))) : Option (Bool × Unit) :=
  (bif (rCmp .gtr (rLen a0) (60 : Int)) then some (false, ()) else ((impl_JournalOk_l0 (a0, a0, (rLen a0), ()) ((0 : Int), ())).bind fun q0 => (Sum.elim (fun y1 => some (y1.1, ())) (fun q2 => (Sum.elim (fun y3 => some (true, ())) (fun q4 => (Empty.elim q4)) q2)) q0)))

/-! loop.example/g03318/laws.eqEvent -/
def laws_eqEvent (a0 : Int) (a1 : Int) (a2 : Int) (a3 : Int) (a4 : Int) (a5 : Int) (a6 : Int) (a7 : Int) (a8 : Int) (a9 : Int) (a10 : Int) (a11 : Int) (a12 : Int) (a13 : Int) : Option (Bool × Unit) :=
  (bif (rCmp .neq a0 a7) then some (false, ()) else (bif (rCmp .neq a1 a8) then some (false, ()) else (bif (rCmp .neq a2 a9) then some (false, ()) else (bif (rCmp .neq a3 a10) then some (false, ()) else (bif (rCmp .neq a4 a11) then some (false, ()) else (bif (rCmp .neq a5 a12) then some (false, ()) else (bif (rCmp .neq a6 a13) then some (false, ()) else some (true, ()))))))))

/-! loop.example/g03318/laws.eqEventS -/
def laws_eqEventS_b0 (k : (List (Int × Int × Int × Int × Int × Int × Int)) × (List (Int × Int × Int × Int × Int × Int × Int)) × Unit) (x : Int × Unit) : Option ((Int × Unit) ⊕ (Bool × Unit ⊕ (Unit ⊕ Empty))) :=
  (bif (rCmp .lss x.1 (rLen k.1)) then (bif (rInR k.1 x.1) then (bif (rInR k.2.1 x.1) then ((laws_eqEvent (rGet zIIIIIII k.1 x.1).1 (rGet zIIIIIII k.1 x.1).2.1 (rGet zIIIIIII k.1 x.1).2.2.1 (rGet zIIIIIII k.1 x.1).2.2.2.1 (rGet zIIIIIII k.1 x.1).2.2.2.2.1 (rGet zIIIIIII k.1 x.1).2.2.2.2.2.1 (rGet zIIIIIII k.1 x.1).2.2.2.2.2.2 (rGet zIIIIIII k.2.1 x.1).1 (rGet zIIIIIII k.2.1 x.1).2.1 (rGet zIIIIIII k.2.1 x.1).2.2.1 (rGet zIIIIIII k.2.1 x.1).2.2.2.1 (rGet zIIIIIII k.2.1 x.1).2.2.2.2.1 (rGet zIIIIIII k.2.1 x.1).2.2.2.2.2.1 (rGet zIIIIIII k.2.1 x.1).2.2.2.2.2.2).bind fun y0 => (bif (Bool.not y0.1) then some (.inr (.inl (false, ()))) else some (.inl ((rArith .add .i64 x.1 (1 : Int)), ())))) else none) else none) else some (.inr (.inr (.inl (())))))
def laws_eqEventS_l0 (k : (List (Int × Int × Int × Int × Int × Int × Int)) × (List (Int × Int × Int × Int × Int × Int × Int)) × Unit) (x : Int × Unit) : Option (Bool × Unit ⊕ (Unit ⊕ Empty)) := iter (laws_eqEventS_b0 k) big x
def laws_eqEventS (a0 : (List (Int × Int × Int × Int × Int × Int × Int))) (a1 : (List (Int × Int × Int × Int × Int × Int × Int))) : Option (Bool × Unit) :=
  (bif (rCmp .neq (rLen a0) (rLen a1)) then some (false, ()) else ((laws_eqEventS_l0 (a0, a1, ()) ((0 : Int), ())).bind fun q0 => (Sum.elim (fun y1 => some (y1.1, ())) (fun q2 => (Sum.elim (fun y3 => some (true, ())) (fun q4 => (Empty.elim q4)) q2)) q0)))

/-! loop.example/g03318/laws.FnExactJournalOk -/
def laws_FnExactJournalOk (a0 : (List (Int × Int × Int × Int × Int × Int × Int))) : Option (Bool × Unit) :=
  ((laws_szEventS a0 (1048576 : Int)).bind fun y0 => (bif (rCmp .lss y0.1 (0 : Int)) then some (true, ()) else ((laws_toEventS a0).bind fun y1 => ((spec_JournalOk y1.1).bind fun y2 => ((laws_toEventS a0).bind fun y3 => ((impl_JournalOk y3.1).bind fun y4 => (bif (Bool.not (rBeq y4.1 y2.1)) then some (false, ()) else ((laws_toEventS a0).bind fun y5 => ((laws_eqEventS y3.1 y5.1).bind fun y6 => (bif (Bool.not y6.1) then some (false, ()) else some (true, ())))))))))))
end Go.Fn
