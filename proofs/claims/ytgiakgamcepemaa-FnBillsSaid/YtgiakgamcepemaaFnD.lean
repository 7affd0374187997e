import Derived.Test.YtgiakgamcepemaaFnC
/- Plain functions that stand for Go functions, and what they answer: FnD. Conditions: none. -/
set_option autoImplicit false
set_option linter.unusedVariables false
set_option linter.unusedSimpArgs false
set_option linter.unusedVariables false
namespace Go.Fn
open Go.R
def zIIII : Int × Int × Int × Int := ((0 : Int), (0 : Int), (0 : Int), (0 : Int))
def zII : Int × Int := ((0 : Int), (0 : Int))

/-! loop.example/g03318/laws.szSpanS -/
def laws_szSpanS (a0 : (List (Int × Int))) (a1 : Int) : Option (Int × Unit) :=
  (bif (rCmp .lss (rArith .sub .i64 a1 (rLen a0)) (0 : Int)) then some ((-1 : Int), ()) else some ((rArith .sub .i64 a1 (rLen a0)), ()))

/-! loop.example/g03318/laws.szWeek -/
def laws_szWeek (a0 : (List (Int × Int))) (a1 : (List (Int × Int))) (a2 : Int) : Option (Int × Unit) :=
  ((laws_szSpanS a0 a2).bind fun y0 => (bif (rCmp .lss y0.1 (0 : Int)) then some ((-1 : Int), ()) else ((laws_szSpanS a1 y0.1).bind fun y1 => (bif (rCmp .lss y1.1 (0 : Int)) then some ((-1 : Int), ()) else some (y1.1, ())))))

/-! loop.example/g03318/laws.szStayS -/
def laws_szStayS (a0 : (List (Int × Int × Int × Int))) (a1 : Int) : Option (Int × Unit) :=
  (bif (rCmp .lss (rArith .sub .i64 a1 (rLen a0)) (0 : Int)) then some ((-1 : Int), ()) else some ((rArith .sub .i64 a1 (rLen a0)), ()))

/-! loop.example/g03318/laws.toSpan -/
def laws_toSpan (a0 : Int) (a1 : Int) : Option (Int × Int × Unit) :=
  some (a0, a1, ())

/-! loop.example/g03318/laws.toSpanS -/
def laws_toSpanS_b0 (k : (List (Int × Int)) × Unit) (x : (List (Int × Int)) × Int × Unit) : Option (((List (Int × Int)) × Int × Unit) ⊕ ((List (Int × Int)) × Unit ⊕ Empty)) :=
  (bif (rCmp .lss x.2.1 (rLen k.1)) then (bif (rInR k.1 x.2.1) then ((laws_toSpan (rGet zII k.1 x.2.1).1 (rGet zII k.1 x.2.1).2).bind fun y0 => (bif (rInR x.1 x.2.1) then some (.inl ((rPut x.1 x.2.1 (y0.1, y0.2.1)), (rArith .add .i64 x.2.1 (1 : Int)), ())) else none)) else none) else some (.inr (.inl (x.1, ()))))
def laws_toSpanS_l0 (k : (List (Int × Int)) × Unit) (x : (List (Int × Int)) × Int × Unit) : Option ((List (Int × Int)) × Unit ⊕ Empty) := iter (laws_toSpanS_b0 k) big x
def laws_toSpanS (a0 : (List (Int × Int))) : Option ((List (Int × Int)) × Unit) :=
  (bif (rRepOk (rLen a0)) then ((laws_toSpanS_l0 (a0, ()) ((rRep (rLen a0) ((0 : Int), (0 : Int))), (0 : Int), ())).bind fun q0 => (Sum.elim (fun y1 => some (y1.1, ())) (fun q2 => (Empty.elim q2)) q0)) else none)

/-! loop.example/g03318/laws.toWeek -/
def laws_toWeek (a0 : (List (Int × Int))) (a1 : (List (Int × Int))) : Option ((List (Int × Int)) × (List (Int × Int)) × Unit) :=
  ((laws_toSpanS a0).bind fun y0 => ((laws_toSpanS a1).bind fun y1 => some (y0.1, y1.1, ())))

/-! loop.example/g03318/laws.toTerms -/
def laws_toTerms (a0 : Int) (a1 : Int) (a2 : Int) (a3 : Int) (a4 : Int) (a5 : Int) (a6 : Int) (a7 : Int) : Option (Int × Int × Int × Int × Int × Int × Int × Int × Unit) :=
  some (a0, a1, a2, a3, a4, a5, a6, a7, ())

/-! loop.example/g03318/laws.toStay -/
def laws_toStay (a0 : Int) (a1 : Int) (a2 : Int) (a3 : Int) : Option (Int × Int × Int × Int × Unit) :=
  some (a0, a1, a2, a3, ())

/-! loop.example/g03318/laws.toStayS -/
def laws_toStayS_b0 (k : (List (Int × Int × Int × Int)) × Unit) (x : (List (Int × Int × Int × Int)) × Int × Unit) : Option (((List (Int × Int × Int × Int)) × Int × Unit) ⊕ ((List (Int × Int × Int × Int)) × Unit ⊕ Empty)) :=
  (bif (rCmp .lss x.2.1 (rLen k.1)) then (bif (rInR k.1 x.2.1) then ((laws_toStay (rGet zIIII k.1 x.2.1).1 (rGet zIIII k.1 x.2.1).2.1 (rGet zIIII k.1 x.2.1).2.2.1 (rGet zIIII k.1 x.2.1).2.2.2).bind fun y0 => (bif (rInR x.1 x.2.1) then some (.inl ((rPut x.1 x.2.1 (y0.1, y0.2.1, y0.2.2.1, y0.2.2.2.1)), (rArith .add .i64 x.2.1 (1 : Int)), ())) else none)) else none) else some (.inr (.inl (x.1, ()))))
def laws_toStayS_l0 (k : (List (Int × Int × Int × Int)) × Unit) (x : (List (Int × Int × Int × Int)) × Int × Unit) : Option ((List (Int × Int × Int × Int)) × Unit ⊕ Empty) := iter (laws_toStayS_b0 k) big x
def laws_toStayS (a0 : (List (Int × Int × Int × Int))) : Option ((List (Int × Int × Int × Int)) × Unit) :=
  (bif (rRepOk (rLen a0)) then ((laws_toStayS_l0 (a0, ()) ((rRep (rLen a0) ((0 : Int), (0 : Int), (0 : Int), (0 : Int))), (0 : Int), ())).bind fun q0 => (Sum.elim (fun y1 => some (y1.1, ())) (fun q2 => (Empty.elim q2)) q0)) else none)

/-! loop.example/g03318/spec.SpansOk -/
def spec_SpansOk_b0 (k : (List (Int × Int)) × Int × Unit) (x : Int × Unit) : Option ((Int × Unit) ⊕ (Bool × Unit ⊕ (Unit ⊕ Empty))) :=
  (bif (rCmp .lss x.1 (rLen k.1)) then (bif (rInR k.1 x.1) then (bif (rCmp .lss (rGet zII k.1 x.1).1 (0 : Int)) then some (.inr (.inl (false, ()))) else (bif (rCmp .geq (rGet zII k.1 x.1).1 (rGet zII k.1 x.1).2) then some (.inr (.inl (false, ()))) else (bif (rCmp .gtr (rGet zII k.1 x.1).2 k.2.1) then some (.inr (.inl (false, ()))) else (bif (rCmp .gtr x.1 (0 : Int)) then (bif (rInR k.1 (rArith .sub .i64 x.1 (1 : Int))) then (bif (rCmp .leq (rGet zII k.1 x.1).1 (rGet zII k.1 (rArith .sub .i64 x.1 (1 : Int))).2) then some (.inr (.inl (false, ()))) else some (.inl ((rArith .add .i64 x.1 (1 : Int)), ()))) else none) else some (.inl ((rArith .add .i64 x.1 (1 : Int)), ())))))) else none) else some (.inr (.inr (.inl (())))))
def spec_SpansOk_l0 (k : (List (Int × Int)) × Int × Unit) (x : Int × Unit) : Option (Bool × Unit ⊕ (Unit ⊕ Empty)) := iter (spec_SpansOk_b0 k) big x
def spec_SpansOk (a0 : (List (Int × Int))) (a1 : Int) : Option (Bool × Unit) :=
  (bif (rCmp .gtr (rLen a0) (20 : Int)) then some (false, ()) else ((spec_SpansOk_l0 (a0, a1, ()) ((0 : Int), ())).bind fun q0 => (Sum.elim (fun y1 => some (y1.1, ())) (fun q2 => (Sum.elim (fun y3 => some (true, ())) (fun q4 => (Empty.elim q4)) q2)) q0)))

/-! loop.example/g03318/spec.WeekOk -/
def spec_WeekOk (a0 : (List (Int × Int))) (a1 : (List (Int × Int))) : Option (Bool × Unit) :=
  ((spec_SpansOk a0 (168 : Int)).bind fun y0 => (bif y0.1 then ((spec_SpansOk a1 (20000 : Int)).bind fun y1 => some (y1.1, ())) else some (false, ())))

/-! loop.example/g03318/spec.TermsOk -/
def spec_TermsOk (a0 : Int) (a1 : Int) (a2 : Int) (a3 : Int) (a4 : Int) (a5 : Int) (a6 : Int) (a7 : Int) : Option (Bool × Unit) :=
  ((spec_l01In a0 (1 : Int) (2000 : Int)).bind fun y0 => (bif y0.1 then ((spec_l01In a2 (1 : Int) (2000 : Int)).bind fun y1 => (bif y1.1 then ((spec_l01In a5 (1 : Int) (2000 : Int)).bind fun y2 => (bif y2.1 then ((spec_l01In a1 (0 : Int) (2000 : Int)).bind fun y3 => (bif y3.1 then ((spec_l01In a3 (0 : Int) (10000 : Int)).bind fun y4 => (bif y4.1 then ((spec_l01In a4 (0 : Int) (1000000 : Int)).bind fun y5 => (bif y5.1 then ((spec_l01In a6 (0 : Int) (100000 : Int)).bind fun y6 => (bif y6.1 then ((spec_l01In a7 (0 : Int) (20 : Int)).bind fun y7 => some (y7.1, ())) else some (false, ()))) else some (false, ()))) else some (false, ()))) else some (false, ()))) else some (false, ()))) else some (false, ()))) else some (false, ())))

/-! loop.example/g03318/spec.l01Within -/
def spec_l01Within_b0 (k : (List (Int × Int)) × Int × Unit) (x : Int × Unit) : Option ((Int × Unit) ⊕ (Bool × Unit ⊕ (Unit ⊕ Empty))) :=
  (bif (rCmp .lss x.1 (rLen k.1)) then (bif (rInR k.1 x.1) then (bif (rCmp .leq (rGet zII k.1 x.1).1 k.2.1) then (bif (rInR k.1 x.1) then (bif (rCmp .lss k.2.1 (rGet zII k.1 x.1).2) then some (.inr (.inl (true, ()))) else some (.inl ((rArith .add .i64 x.1 (1 : Int)), ()))) else none) else some (.inl ((rArith .add .i64 x.1 (1 : Int)), ()))) else none) else some (.inr (.inr (.inl (())))))
def spec_l01Within_l0 (k : (List (Int × Int)) × Int × Unit) (x : Int × Unit) : Option (Bool × Unit ⊕ (Unit ⊕ Empty)) := iter (spec_l01Within_b0 k) big x
def spec_l01Within (a0 : (List (Int × Int))) (a1 : Int) : Option (Bool × Unit) :=
  ((spec_l01Within_l0 (a0, a1, ()) ((0 : Int), ())).bind fun q0 => (Sum.elim (fun y1 => some (y1.1, ())) (fun q2 => (Sum.elim (fun y3 => some (false, ())) (fun q4 => (Empty.elim q4)) q2)) q0))

/-! loop.example/g03318/spec.l01Open -/
def spec_l01Open (a0 : (List (Int × Int))) (a1 : (List (Int × Int))) (a2 : Int) : Option (Bool × Unit) :=
  (bif (rIsZero (168 : Int)) then none else ((spec_l01Within a0 (rArith .rem .i64 a2 (168 : Int))).bind fun y0 => (bif y0.1 then ((spec_l01Within a1 a2).bind fun y1 => some ((Bool.not y1.1), ())) else some (false, ()))))

/-! loop.example/g03318/spec.OpenHours -/
def spec_OpenHours_b0 (k : Int × (List (Int × Int)) × (List (Int × Int)) × Unit) (x : Int × Int × Unit) : Option ((Int × Int × Unit) ⊕ (Int × Unit ⊕ Empty)) :=
  (bif (rCmp .lss x.2.1 k.1) then ((spec_l01Open k.2.1 k.2.2.1 x.2.1).bind fun y0 => (bif y0.1 then some (.inl ((rArith .add .i64 x.1 (1 : Int)), (rArith .add .i64 x.2.1 (1 : Int)), ())) else some (.inl (x.1, (rArith .add .i64 x.2.1 (1 : Int)), ())))) else some (.inr (.inl (x.1, ()))))
def spec_OpenHours_l0 (k : Int × (List (Int × Int)) × (List (Int × Int)) × Unit) (x : Int × Int × Unit) : Option (Int × Unit ⊕ Empty) := iter (spec_OpenHours_b0 k) big x
def spec_OpenHours (a0 : (List (Int × Int))) (a1 : (List (Int × Int))) (a2 : Int) (a3 : Int) : Option (Int × Unit) :=
  ((spec_WeekOk a0 a1).bind fun y0 => (bif (Bool.not y0.1) then some ((0 : Int), ()) else ((spec_l01In a2 (0 : Int) (20000 : Int)).bind fun y1 => (bif (Bool.not y1.1) then some ((0 : Int), ()) else ((spec_l01In a3 (0 : Int) (20000 : Int)).bind fun y2 => (bif (Bool.not y2.1) then some ((0 : Int), ()) else ((spec_OpenHours_l0 (a3, a0, a1, ()) ((0 : Int), a2, ())).bind fun q3 => (Sum.elim (fun y4 => some (y4.1, ())) (fun q5 => (Empty.elim q5)) q3))))))))

/-! loop.example/g03318/spec.l06Fee -/
def spec_l06Fee (a0 : Int) (a1 : Int) (a2 : Int) (a3 : Int) (a4 : Int) (a5 : Int) (a6 : Int) (a7 : Int) (a8 : Int) (a9 : Int) (a10 : Int) : Option (Int × Unit) :=
  (bif (rCmp .gtr (rArith .sub .i64 a9 a1) (0 : Int)) then (bif (rIsZero a2) then none else (lets (rArith .add .i64 (rMxmn false a4 (rArith .mul .i64 (rArith .mul .i64 (rArith .quo .i64 (rArith .sub .i64 (rArith .add .i64 (rArith .sub .i64 a9 a1) a2) (1 : Int)) a2) a3) a8)) (rArith .mul .i64 a6 a10)) fun v0 => some (v0, ()))) else some ((rArith .add .i64 (0 : Int) (rArith .mul .i64 a6 a10)), ()))

/-! loop.example/g03318/spec.FeeOf -/
def spec_FeeOf (a0 : (List (Int × Int))) (a1 : (List (Int × Int))) (a2 : Int) (a3 : Int) (a4 : Int) (a5 : Int) (a6 : Int) (a7 : Int) (a8 : Int) (a9 : Int) (a10 : Int) (a11 : Int) (a12 : Int) (a13 : Int) : Option (Int × Unit) :=
  ((spec_WeekOk a0 a1).bind fun y0 => (bif (Bool.not y0.1) then some ((-1 : Int), ()) else ((spec_TermsOk a2 a3 a4 a5 a6 a7 a8 a9).bind fun y1 => (bif (Bool.not y1.1) then some ((-1 : Int), ()) else ((spec_l01In a10 (1 : Int) (24 : Int)).bind fun y2 => (bif (Bool.not y2.1) then some ((-1 : Int), ()) else ((spec_l01In a12 (0 : Int) (20000 : Int)).bind fun y3 => (bif (Bool.not y3.1) then some ((-1 : Int), ()) else ((spec_l01In a11 (0 : Int) a12).bind fun y4 => (bif (Bool.not y4.1) then some ((-1 : Int), ()) else ((spec_l01In a13 (0 : Int) a9).bind fun y5 => (bif (Bool.not y5.1) then some ((-1 : Int), ()) else ((spec_OpenHours a0 a1 a11 a12).bind fun y6 => ((spec_l06Fee a2 a3 a4 a5 a6 a7 a8 a9 a10 y6.1 a13).bind fun y7 => some (y7.1, ())))))))))))))))

/-! loop.example/g03318/spec.BillOf -/
def spec_BillOf_b0 (k : (List (Int × Int × Int × Int)) × (List (Int × Int)) × (List (Int × Int)) × Int × Int × Int × Int × Int × Int × Int × Int × Unit) (x : Int × Int × Unit) : Option ((Int × Int × Unit) ⊕ (Int × Bool × Unit ⊕ (Int × Unit ⊕ Empty))) :=
  (bif (rCmp .lss x.2.1 (rLen k.1)) then (bif (rInR k.1 x.2.1) then (bif (rInR k.1 x.2.1) then (bif (rInR k.1 x.2.1) then (bif (rInR k.1 x.2.1) then ((spec_FeeOf k.2.1 k.2.2.1 k.2.2.2.1 k.2.2.2.2.1 k.2.2.2.2.2.1 k.2.2.2.2.2.2.1 k.2.2.2.2.2.2.2.1 k.2.2.2.2.2.2.2.2.1 k.2.2.2.2.2.2.2.2.2.1 k.2.2.2.2.2.2.2.2.2.2.1 (rGet zIIII k.1 x.2.1).1 (rGet zIIII k.1 x.2.1).2.1 (rGet zIIII k.1 x.2.1).2.2.1 (rGet zIIII k.1 x.2.1).2.2.2).bind fun y0 => (bif (rCmp .lss y0.1 (0 : Int)) then some (.inr (.inl ((0 : Int), false, ()))) else some (.inl ((rArith .add .i64 x.1 y0.1), (rArith .add .i64 x.2.1 (1 : Int)), ())))) else none) else none) else none) else none) else some (.inr (.inr (.inl (x.1, ())))))
def spec_BillOf_l0 (k : (List (Int × Int × Int × Int)) × (List (Int × Int)) × (List (Int × Int)) × Int × Int × Int × Int × Int × Int × Int × Int × Unit) (x : Int × Int × Unit) : Option (Int × Bool × Unit ⊕ (Int × Unit ⊕ Empty)) := iter (spec_BillOf_b0 k) big x
def spec_BillOf (a0 : (List (Int × Int))) (a1 : (List (Int × Int))) (a2 : Int) (a3 : Int) (a4 : Int) (a5 : Int) (a6 : Int) (a7 : Int) (a8 : Int) (a9 : Int) (a10 : (List (Int × Int × Int × Int))) : Option (Int × Bool × Unit) :=
  ((spec_WeekOk a0 a1).bind fun y0 => (bif (Bool.not y0.1) then some ((0 : Int), false, ()) else ((spec_TermsOk a2 a3 a4 a5 a6 a7 a8 a9).bind fun y1 => (bif (Bool.not y1.1) then some ((0 : Int), false, ()) else (bif (rCmp .gtr (rLen a10) (20 : Int)) then some ((0 : Int), false, ()) else ((spec_BillOf_l0 (a10, a0, a1, a2, a3, a4, a5, a6, a7, a8, a9, ()) ((0 : Int), (0 : Int), ())).bind fun q2 => (Sum.elim (fun y3 => some (y3.1, y3.2.1, ())) (fun q4 => (Sum.elim (fun y5 => some (y5.1, true, ())) (fun q6 => (Empty.elim q6)) q4)) q2)))))))

/-! loop.example/g03318/impl.SpansOk -/
def impl_SpansOk_b0 (k : (List (Int × Int)) × Int × (List (Int × Int)) × Int × Unit) (x : Int × Unit) : Option ((Int × Unit) ⊕ (Bool × Unit ⊕ (Unit ⊕ Empty))) :=
  (bif (rCmp .lss x.1 k.2.2.2.1) then (bif (rInR k.2.2.1 x.1) then (bif (rCmp .lss (rGet zII k.2.2.1 x.1).1 (0 : Int)) then some (.inr (.inl (false, ()))) else (bif (rCmp .geq (rGet zII k.2.2.1 x.1).1 (rGet zII k.2.2.1 x.1).2) then some (.inr (.inl (false, ()))) else (bif (rCmp .gtr (rGet zII k.2.2.1 x.1).2 k.2.1) then some (.inr (.inl (false, ()))) else (bif (rCmp .gtr x.1 (0 : Int)) then (bif (rInR k.1 (rArith .sub .i64 x.1 (1 : Int))) then (bif (rCmp .leq (rGet zII k.2.2.1 x.1).1 (rGet zII k.1 (rArith .sub .i64 x.1 (1 : Int))).2) then some (.inr (.inl (false, ()))) else some (.inl ((rArith .add .i64 x.1 (1 : Int)), ()))) else none) else some (.inl ((rArith .add .i64 x.1 (1 : Int)), ())))))) else none) else some (.inr (.inr (.inl (())))))
def impl_SpansOk_l0 (k : (List (Int × Int)) × Int × (List (Int × Int)) × Int × Unit) (x : Int × Unit) : Option (Bool × Unit ⊕ (Unit ⊕ Empty)) := iter (impl_SpansOk_b0 k) big x
def impl_SpansOk (a0 : (List (Int × Int))) (a1 : Int) : Option (Bool × Unit) :=
  (bif (rCmp .gtr (rLen a0) (20 : Int)) then some (false, ()) else ((impl_SpansOk_l0 (a0, a1, a0, (rLen a0), ()) ((0 : Int), ())).bind fun q0 => (Sum.elim (fun y1 => some (y1.1, ())) (fun q2 => (Sum.elim (fun y3 => some (true, ())) (fun q4 => (Empty.elim q4)) q2)) q0)))

/-! loop.example/g03318/impl.WeekOk -/
def impl_WeekOk (a0 : (List (Int × Int))) (a1 : (List (Int × Int))) : Option (Bool × Unit) :=
  ((impl_SpansOk a0 (168 : Int)).bind fun y0 => (bif y0.1 then ((impl_SpansOk a1 (20000 : Int)).bind fun y1 => some (y1.1, ())) else some (false, ())))

/-! loop.example/g03318/impl.TermsOk -/
def impl_TermsOk (a0 : Int) (a1 : Int) (a2 : Int) (a3 : Int) (a4 : Int) (a5 : Int) (a6 : Int) (a7 : Int) : Option (Bool × Unit) :=
  ((impl_within a0 (1 : Int) (2000 : Int)).bind fun y0 => (bif y0.1 then ((impl_within a2 (1 : Int) (2000 : Int)).bind fun y1 => (bif y1.1 then ((impl_within a5 (1 : Int) (2000 : Int)).bind fun y2 => (bif y2.1 then ((impl_within a1 (0 : Int) (2000 : Int)).bind fun y3 => (bif y3.1 then ((impl_within a3 (0 : Int) (10000 : Int)).bind fun y4 => (bif y4.1 then ((impl_within a4 (0 : Int) (1000000 : Int)).bind fun y5 => (bif y5.1 then ((impl_within a6 (0 : Int) (100000 : Int)).bind fun y6 => (bif y6.1 then ((impl_within a7 (0 : Int) (20 : Int)).bind fun y7 => some (y7.1, ())) else some (false, ()))) else some (false, ()))) else some (false, ()))) else some (false, ()))) else some (false, ()))) else some (false, ()))) else some (false, ())))

/-! loop.example/g03318/impl.inSpans -/
def impl_inSpans_b0 (k : Int × (List (Int × Int)) × Int × Unit) (x : Int × Unit) : Option ((Int × Unit) ⊕ (Bool × Unit ⊕ (Unit ⊕ Empty))) :=
  (bif (rCmp .lss x.1 k.2.2.1) then (bif (rInR k.2.1 x.1) then (bif (rCmp .geq k.1 (rGet zII k.2.1 x.1).1) then (bif (rCmp .lss k.1 (rGet zII k.2.1 x.1).2) then some (.inr (.inl (true, ()))) else some (.inl ((rArith .add .i64 x.1 (1 : Int)), ()))) else some (.inl ((rArith .add .i64 x.1 (1 : Int)), ()))) else none) else some (.inr (.inr (.inl (())))))
def impl_inSpans_l0 (k : Int × (List (Int × Int)) × Int × Unit) (x : Int × Unit) : Option (Bool × Unit ⊕ (Unit ⊕ Empty)) := iter (impl_inSpans_b0 k) big x
def impl_inSpans (a0 : (List (Int × Int))) (a1 : Int) : Option (Bool × Unit) :=
  ((impl_inSpans_l0 (a1, a0, (rLen a0), ()) ((0 : Int), ())).bind fun q0 => (Sum.elim (fun y1 => some (y1.1, ())) (fun q2 => (Sum.elim (fun y3 => some (false, ())) (fun q4 => (Empty.elim q4)) q2)) q0))

/-! loop.example/g03318/impl.isOpen -/
def impl_isOpen (a0 : (List (Int × Int))) (a1 : (List (Int × Int))) (a2 : Int) : Option (Bool × Unit) :=
  (bif (rIsZero (168 : Int)) then none else ((impl_inSpans a0 (rArith .rem .i64 a2 (168 : Int))).bind fun y0 => (bif y0.1 then ((impl_inSpans a1 a2).bind fun y1 => some ((Bool.not y1.1), ())) else some (false, ()))))

/-! loop.example/g03318/impl.OpenHours -/
def impl_OpenHours_b0 (k : Int × (List (Int × Int)) × (List (Int × Int)) × Unit) (x : Int × Int × Unit) : Option ((Int × Int × Unit) ⊕ (Int × Unit ⊕ Empty)) :=
  (bif (rCmp .lss x.2.1 k.1) then ((impl_isOpen k.2.1 k.2.2.1 x.2.1).bind fun y0 => (bif y0.1 then some (.inl ((rArith .add .i64 x.1 (1 : Int)), (rArith .add .i64 x.2.1 (1 : Int)), ())) else some (.inl (x.1, (rArith .add .i64 x.2.1 (1 : Int)), ())))) else some (.inr (.inl (x.1, ()))))
def impl_OpenHours_l0 (k : Int × (List (Int × Int)) × (List (Int × Int)) × Unit) (x : Int × Int × Unit) : Option (Int × Unit ⊕ Empty) := iter (impl_OpenHours_b0 k) big x
def impl_OpenHours (a0 : (List (Int × Int))) (a1 : (List (Int × Int))) (a2 : Int) (a3 : Int) : Option (Int × Unit) :=
  ((impl_WeekOk a0 a1).bind fun y0 => (bif (Bool.not y0.1) then some ((0 : Int), ()) else ((impl_timeOk a2).bind fun y1 => (bif (Bool.not y1.1) then some ((0 : Int), ()) else ((impl_timeOk a3).bind fun y2 => (bif (Bool.not y2.1) then some ((0 : Int), ()) else ((impl_OpenHours_l0 (a3, a0, a1, ()) ((0 : Int), a2, ())).bind fun q3 => (Sum.elim (fun y4 => some (y4.1, ())) (fun q5 => (Empty.elim q5)) q3))))))))

/-! loop.example/g03318/impl.storage -/
def impl_storage (a0 : Int) (a1 : Int) (a2 : Int) (a3 : Int) (a4 : Int) (a5 : Int) (a6 : Int) (a7 : Int) (a8 : Int) (a9 : Int) : Option (Int × Unit) :=
  (bif (rCmp .leq (rArith .sub .i64 a9 a1) (0 : Int)) then some ((0 : Int), ()) else (bif (rIsZero a2) then none else some ((rMxmn false a4 (rArith .mul .i64 (rArith .mul .i64 (rArith .quo .i64 (rArith .sub .i64 (rArith .add .i64 (rArith .sub .i64 a9 a1) a2) (1 : Int)) a2) a3) a8)), ())))

/-! loop.example/g03318/impl.FeeOf -/
def impl_FeeOf (a0 : (List (Int × Int))) (a1 : (List (Int × Int))) (a2 : Int) (a3 : Int) (a4 : Int) (a5 : Int) (a6 : Int) (a7 : Int) (a8 : Int) (a9 : Int) (a10 : Int) (a11 : Int) (a12 : Int) (a13 : Int) : Option (Int × Unit) :=
  ((impl_WeekOk a0 a1).bind fun y0 => (bif (Bool.not y0.1) then some ((-1 : Int), ()) else ((impl_TermsOk a2 a3 a4 a5 a6 a7 a8 a9).bind fun y1 => (bif (Bool.not y1.1) then some ((-1 : Int), ()) else ((impl_within a10 (1 : Int) (24 : Int)).bind fun y2 => (bif (Bool.not y2.1) then some ((-1 : Int), ()) else ((impl_timeOk a11).bind fun y3 => (bif (Bool.not y3.1) then some ((-1 : Int), ()) else ((impl_timeOk a12).bind fun y4 => (bif (Bool.not y4.1) then some ((-1 : Int), ()) else (bif (rCmp .lss a12 a11) then some ((-1 : Int), ()) else ((impl_within a13 (0 : Int) a9).bind fun y5 => (bif (Bool.not y5.1) then some ((-1 : Int), ()) else ((impl_OpenHours a0 a1 a11 a12).bind fun y6 => ((impl_storage a2 a3 a4 a5 a6 a7 a8 a9 a10 y6.1).bind fun y7 => some ((rArith .add .i64 y7.1 (rArith .mul .i64 a8 a13)), ()))))))))))))))))

/-! loop.example/g03318/impl.BillOf -/
def impl_BillOf_b0 (k : (List (Int × Int)) × (List (Int × Int)) × Int × Int × Int × Int × Int × Int × Int × Int × (List (Int × Int × Int × Int)) × Int × Unit) (x : Int × Int × Unit) : Option ((Int × Int × Unit) ⊕ (Int × Bool × Unit ⊕ (Int × Unit ⊕ Empty))) :=
  (bif (rCmp .lss x.2.1 k.2.2.2.2.2.2.2.2.2.2.2.1) then (bif (rInR k.2.2.2.2.2.2.2.2.2.2.1 x.2.1) then ((impl_FeeOf k.1 k.2.1 k.2.2.1 k.2.2.2.1 k.2.2.2.2.1 k.2.2.2.2.2.1 k.2.2.2.2.2.2.1 k.2.2.2.2.2.2.2.1 k.2.2.2.2.2.2.2.2.1 k.2.2.2.2.2.2.2.2.2.1 (rGet zIIII k.2.2.2.2.2.2.2.2.2.2.1 x.2.1).1 (rGet zIIII k.2.2.2.2.2.2.2.2.2.2.1 x.2.1).2.1 (rGet zIIII k.2.2.2.2.2.2.2.2.2.2.1 x.2.1).2.2.1 (rGet zIIII k.2.2.2.2.2.2.2.2.2.2.1 x.2.1).2.2.2).bind fun y0 => (bif (rCmp .lss y0.1 (0 : Int)) then some (.inr (.inl ((0 : Int), false, ()))) else some (.inl ((rArith .add .i64 x.1 y0.1), (rArith .add .i64 x.2.1 (1 : Int)), ())))) else none) else some (.inr (.inr (.inl (x.1, ())))))
def impl_BillOf_l0 (k : (List (Int × Int)) × (List (Int × Int)) × Int × Int × Int × Int × Int × Int × Int × Int × (List (Int × Int × Int × Int)) × Int × Unit) (x : Int × Int × Unit) : Option (Int × Bool × Unit ⊕ (Int × Unit ⊕ Empty)) := iter (impl_BillOf_b0 k) big x
def impl_BillOf (a0 : (List (Int × Int))) (a1 : (List (Int × Int))) (a2 : Int) (a3 : Int) (a4 : Int) (a5 : Int) (a6 : Int) (a7 : Int) (a8 : Int) (a9 : Int) (a10 : (List (Int × Int × Int × Int))) : Option (Int × Bool × Unit) :=
  ((impl_WeekOk a0 a1).bind fun y0 => (bif (Bool.not y0.1) then some ((0 : Int), false, ()) else ((impl_TermsOk a2 a3 a4 a5 a6 a7 a8 a9).bind fun y1 => (bif (Bool.not y1.1) then some ((0 : Int), false, ()) else (bif (rCmp .gtr (rLen a10) (20 : Int)) then some ((0 : Int), false, ()) else ((impl_BillOf_l0 (a0, a1, a2, a3, a4, a5, a6, a7, a8, a9, a10, (rLen a10), ()) ((0 : Int), (0 : Int), ())).bind fun q2 => (Sum.elim (fun y3 => some (y3.1, y3.2.1, ())) (fun q4 => (Sum.elim (fun y5 => some (y5.1, true, ())) (fun q6 => (Empty.elim q6)) q4)) q2)))))))

/-! loop.example/g03318/laws.eqSpan -/
def laws_eqSpan (a0 : Int) (a1 : Int) (a2 : Int) (a3 : Int) : Option (Bool × Unit) :=
  (bif (rCmp .neq a0 a2) then some (false, ()) else (bif (rCmp .neq a1 a3) then some (false, ()) else some (true, ())))

/-! loop.example/g03318/laws.eqSpanS -/
def laws_eqSpanS_b0 (k : (List (Int × Int)) × (List (Int × Int)) × Unit) (x : Int × Unit) : Option ((Int × Unit) ⊕ (Bool × Unit ⊕ (Unit ⊕ Empty))) :=
  (bif (rCmp .lss x.1 (rLen k.1)) then (bif (rInR k.1 x.1) then (bif (rInR k.2.1 x.1) then ((laws_eqSpan (rGet zII k.1 x.1).1 (rGet zII k.1 x.1).2 (rGet zII k.2.1 x.1).1 (rGet zII k.2.1 x.1).2).bind fun y0 => (bif (Bool.not y0.1) then some (.inr (.inl (false, ()))) else some (.inl ((rArith .add .i64 x.1 (1 : Int)), ())))) else none) else none) else some (.inr (.inr (.inl (())))))
def laws_eqSpanS_l0 (k : (List (Int × Int)) × (List (Int × Int)) × Unit) (x : Int × Unit) : Option (Bool × Unit ⊕ (Unit ⊕ Empty)) := iter (laws_eqSpanS_b0 k) big x
def laws_eqSpanS (a0 : (List (Int × Int))) (a1 : (List (Int × Int))) : Option (Bool × Unit) :=
  (bif (rCmp .neq (rLen a0) (rLen a1)) then some (false, ()) else ((laws_eqSpanS_l0 (a0, a1, ()) ((0 : Int), ())).bind fun q0 => (Sum.elim (fun y1 => some (y1.1, ())) (fun q2 => (Sum.elim (fun y3 => some (true, ())) (fun q4 => (Empty.elim q4)) q2)) q0)))

/-! loop.example/g03318/laws.eqWeek -/
def laws_eqWeek (a0 : (List (Int × Int))) (a1 : (List (Int × Int))) (a2 : (List (Int × Int))) (a3 : (List (Int × Int))) : Option (Bool × Unit) :=
  ((laws_eqSpanS a0 a2).bind fun y0 => (bif (Bool.not y0.1) then some (false, ()) else ((laws_eqSpanS a1 a3).bind fun y1 => (bif (Bool.not y1.1) then some (false, ()) else some (true, ())))))

/-! loop.example/g03318/laws.eqStay -/
def laws_eqStay (a0 : Int) (a1 : Int) (a2 : Int) (a3 : Int) (a4 : Int) (a5 : Int) (a6 : Int) (a7 : Int) : Option (Bool × Unit) :=
  (bif (rCmp .neq a0 a4) then some (false, ()) else (bif (rCmp .neq a1 a5) then some (false, ()) else (bif (rCmp .neq a2 a6) then some (false, ()) else (bif (rCmp .neq a3 a7) then some (false, ()) else some (true, ())))))

/-! loop.example/g03318/laws.eqStayS -/
def laws_eqStayS_b0 (k : (List (Int × Int × Int × Int)) × (List (Int × Int × Int × Int)) × Unit) (x : Int × Unit) : Option ((Int × Unit) ⊕ (Bool × Unit ⊕ (Unit ⊕ Empty))) :=
  (bif (rCmp .lss x.1 (rLen k.1)) then (bif (rInR k.1 x.1) then (bif (rInR k.2.1 x.1) then ((laws_eqStay (rGet zIIII k.1 x.1).1 (rGet zIIII k.1 x.1).2.1 (rGet zIIII k.1 x.1).2.2.1 (rGet zIIII k.1 x.1).2.2.2 (rGet zIIII k.2.1 x.1).1 (rGet zIIII k.2.1 x.1).2.1 (rGet zIIII k.2.1 x.1).2.2.1 (rGet zIIII k.2.1 x.1).2.2.2).bind fun y0 => (bif (Bool.not y0.1) then some (.inr (.inl (false, ()))) else some (.inl ((rArith .add .i64 x.1 (1 : Int)), ())))) else none) else none) else some (.inr (.inr (.inl (())))))
def laws_eqStayS_l0 (k : (List (Int × Int × Int × Int)) × (List (Int × Int × Int × Int)) × Unit) (x : Int × Unit) : Option (Bool × Unit ⊕ (Unit ⊕ Empty)) := iter (laws_eqStayS_b0 k) big x
def laws_eqStayS (a0 : (List (Int × Int × Int × Int))) (a1 : (List (Int × Int × Int × Int))) : Option (Bool × Unit) :=
  (bif (rCmp .neq (rLen a0) (rLen a1)) then some (false, ()) else ((laws_eqStayS_l0 (a0, a1, ()) ((0 : Int), ())).bind fun q0 => (Sum.elim (fun y1 => some (y1.1, ())) (fun q2 => (Sum.elim (fun y3 => some (true, ())) (fun q4 => (Empty.elim q4)) q2)) q0)))

/-! loop.example/g03318/laws.FnExactBillOf -/
def laws_FnExactBillOf (a0 : (List (Int × Int))) (a1 : (List (Int × Int))) (a2 : Int) (a3 : Int) (a4 : Int) (a5 : Int) (a6 : Int) (a7 : Int) (a8 : Int) (a9 : Int) (a10 : (List (Int × Int × Int × Int))) : Option (Bool × Unit) :=
  ((laws_szWeek a0 a1 (1048576 : Int)).bind fun y0 => (bif (rCmp .lss y0.1 (0 : Int)) then some (true, ()) else ((laws_szStayS a10 y0.1).bind fun y1 => (bif (rCmp .lss y1.1 (0 : Int)) then some (true, ()) else ((laws_toWeek a0 a1).bind fun y2 => ((laws_toTerms a2 a3 a4 a5 a6 a7 a8 a9).bind fun y3 => ((laws_toStayS a10).bind fun y4 => ((spec_BillOf y2.1 y2.2.1 y3.1 y3.2.1 y3.2.2.1 y3.2.2.2.1 y3.2.2.2.2.1 y3.2.2.2.2.2.1 y3.2.2.2.2.2.2.1 y3.2.2.2.2.2.2.2.1 y4.1).bind fun y5 => ((laws_toWeek a0 a1).bind fun y6 => ((laws_toStayS a10).bind fun y7 => ((laws_toTerms a2 a3 a4 a5 a6 a7 a8 a9).bind fun y8 => ((impl_BillOf y6.1 y6.2.1 y8.1 y8.2.1 y8.2.2.1 y8.2.2.2.1 y8.2.2.2.2.1 y8.2.2.2.2.2.1 y8.2.2.2.2.2.2.1 y8.2.2.2.2.2.2.2.1 y7.1).bind fun y9 => (bif (rCmp .neq y9.1 y5.1) then some (false, ()) else (bif (Bool.not (rBeq y9.2.1 y5.2.1)) then some (false, ()) else ((laws_toWeek a0 a1).bind fun y10 => ((laws_eqWeek y6.1 y6.2.1 y10.1 y10.2.1).bind fun y11 => (bif (Bool.not y11.1) then some (false, ()) else ((laws_toStayS a10).bind fun y12 => ((laws_eqStayS y7.1 y12.1).bind fun y13 => (bif (Bool.not y13.1) then some (false, ()) else some (true, ())))))))))))))))))))))
end Go.Fn
