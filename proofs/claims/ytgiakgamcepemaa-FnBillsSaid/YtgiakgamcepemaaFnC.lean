import Derived.Test.YtgiakgamcepemaaFnB
/- Plain functions that stand for Go functions, and what they answer: FnC. Conditions: none. -/
set_option autoImplicit false
set_option linter.unusedVariables false
set_option linter.unusedSimpArgs false
set_option linter.unusedVariables false
namespace Go.Fn
open Go.R
def zLIl : List (Int) := ([] : List (Int))
def zIIIII : Int × Int × Int × Int × Int := ((0 : Int), (0 : Int), (0 : Int), (0 : Int), (0 : Int))

/-! loop.example/g03318/laws.szIntS -/
def laws_szIntS (a0 : (List (Int))) (a1 : Int) : Option (Int × Unit) :=
  (bif (rCmp .lss (rArith .sub .i64 a1 (rLen a0)) (0 : Int)) then some ((-1 : Int), ()) else some ((rArith .sub .i64 a1 (rLen a0)), ()))

/-! loop.example/g03318/laws.szIntSS -/
def laws_szIntSS_b0 (k : (List (List (Int))) × Unit) (x : Int × Int × Unit) : Option ((Int × Int × Unit) ⊕ (Int × Unit ⊕ (Int × Unit ⊕ Empty))) :=
  (bif (rCmp .lss x.2.1 (rLen k.1)) then (bif (rInR k.1 x.2.1) then ((laws_szIntS (rGet zLIl k.1 x.2.1) x.1).bind fun y0 => (bif (rCmp .lss y0.1 (0 : Int)) then some (.inr (.inl ((-1 : Int), ()))) else some (.inl (y0.1, (rArith .add .i64 x.2.1 (1 : Int)), ())))) else none) else some (.inr (.inr (.inl (x.1, ())))))
def laws_szIntSS_l0 (k : (List (List (Int))) × Unit) (x : Int × Int × Unit) : Option (Int × Unit ⊕ (Int × Unit ⊕ Empty)) := iter (laws_szIntSS_b0 k) big x
def laws_szIntSS (a0 : (List (List (Int)))) (a1 : Int) : Option (Int × Unit) :=
  (bif (rCmp .lss (rArith .sub .i64 a1 (rLen a0)) (0 : Int)) then some ((-1 : Int), ()) else ((laws_szIntSS_l0 (a0, ()) ((rArith .sub .i64 a1 (rLen a0)), (0 : Int), ())).bind fun q0 => (Sum.elim (fun y1 => some (y1.1, ())) (fun q2 => (Sum.elim (fun y3 => some (y3.1, ())) (fun q4 => (Empty.elim q4)) q2)) q0)))

/-! loop.example/g03318/laws.szStopS -/
def laws_szStopS (a0 : (List (Int × Int × Int × Int × Int))) (a1 : Int) : Option (Int × Unit) :=
  (bif (rCmp .lss (rArith .sub .i64 a1 (rLen a0)) (0 : Int)) then some ((-1 : Int), ()) else some ((rArith .sub .i64 a1 (rLen a0)), ()))

/-! loop.example/g03318/laws.szRound -/
def laws_szRound (a0 : Int) (a1 : Int) (a2 : (List (List (Int)))) (a3 : (List (Int × Int × Int × Int × Int))) (a4 : Int) : Option (Int × Unit) :=
  ((laws_szIntSS a2 a4).bind fun y0 => (bif (rCmp .lss y0.1 (0 : Int)) then some ((-1 : Int), ()) else ((laws_szStopS a3 y0.1).bind fun y1 => (bif (rCmp .lss y1.1 (0 : Int)) then some ((-1 : Int), ()) else some (y1.1, ())))))

/-! loop.example/g03318/laws.toIntSS -/
def laws_toIntSS_b0 (k : (List (List (Int))) × Unit) (x : (List (List (Int))) × Int × Unit) : Option (((List (List (Int))) × Int × Unit) ⊕ ((List (List (Int))) × Unit ⊕ Empty)) :=
  (bif (rCmp .lss x.2.1 (rLen k.1)) then (bif (rInR k.1 x.2.1) then ((laws_toIntS (rGet zLIl k.1 x.2.1)).bind fun y0 => (bif (rInR x.1 x.2.1) then some (.inl ((rPut x.1 x.2.1 y0.1), (rArith .add .i64 x.2.1 (1 : Int)), ())) else none)) else none) else some (.inr (.inl (x.1, ()))))
def laws_toIntSS_l0 (k : (List (List (Int))) × Unit) (x : (List (List (Int))) × Int × Unit) : Option ((List (List (Int))) × Unit ⊕ Empty) := iter (laws_toIntSS_b0 k) big x
def laws_toIntSS (a0 : (List (List (Int)))) : Option ((List (List (Int))) × Unit) :=
  (bif (rRepOk (rLen a0)) then ((laws_toIntSS_l0 (a0, ()) ((rRep (rLen a0) ([] : List (Int))), (0 : Int), ())).bind fun q0 => (Sum.elim (fun y1 => some (y1.1, ())) (fun q2 => (Empty.elim q2)) q0)) else none)

/-! loop.example/g03318/laws.toStop -/
def laws_toStop (a0 : Int) (a1 : Int) (a2 : Int) (a3 : Int) (a4 : Int) : Option (Int × Int × Int × Int × Int × Unit) :=
  some (a0, a1, a2, a3, a4, ())

/-! loop.example/g03318/laws.toStopS -/
def laws_toStopS_b0 (k : (List (Int × Int × Int × Int × Int)) × Unit) (x : (List (Int × Int × Int × Int × Int)) × Int × Unit) : Option (((List (Int × Int × Int × Int × Int)) × Int × Unit) ⊕ ((List (Int × Int × Int × Int × Int)) × Unit ⊕ Empty)) :=
  (bif (rCmp .lss x.2.1 (rLen k.1)) then (bif (rInR k.1 x.2.1) then ((laws_toStop (rGet zIIIII k.1 x.2.1).1 (rGet zIIIII k.1 x.2.1).2.1 (rGet zIIIII k.1 x.2.1).2.2.1 (rGet zIIIII k.1 x.2.1).2.2.2.1 (rGet zIIIII k.1 x.2.1).2.2.2.2).bind fun y0 => (bif (rInR x.1 x.2.1) then some (.inl ((rPut x.1 x.2.1 (y0.1, y0.2.1, y0.2.2.1, y0.2.2.2.1, y0.2.2.2.2.1)), (rArith .add .i64 x.2.1 (1 : Int)), ())) else none)) else none) else some (.inr (.inl (x.1, ()))))
def laws_toStopS_l0 (k : (List (Int × Int × Int × Int × Int)) × Unit) (x : (List (Int × Int × Int × Int × Int)) × Int × Unit) : Option ((List (Int × Int × Int × Int × Int)) × Unit ⊕ Empty) := iter (laws_toStopS_b0 k) big x
def laws_toStopS (a0 : (List (Int × Int × Int × Int × Int))) : Option ((List (Int × Int × Int × Int × Int)) × Unit) :=
  (bif (rRepOk (rLen a0)) then ((laws_toStopS_l0 (a0, ()) ((rRep (rLen a0) ((0 : Int), (0 : Int), (0 : Int), (0 : Int), (0 : Int))), (0 : Int), ())).bind fun q0 => (Sum.elim (fun y1 => some (y1.1, ())) (fun q2 => (Empty.elim q2)) q0)) else none)

/-! loop.example/g03318/laws.toRound -/
def laws_toRound (a0 : Int) (a1 : Int) (a2 : (List (List (Int)))) (a3 : (List (Int × Int × Int × Int × Int))) : Option (Int × Int × (List (List (Int))) × (List (Int × Int × Int × Int × Int)) × Unit) :=
  ((laws_toIntSS a2).bind fun y0 => ((laws_toStopS a3).bind fun y1 => some (a0, a1, y0.1, y1.1, ())))

/-! loop.example/g03318/spec.RoundOk -/
def spec_RoundOk_b2 (k : Int × Int × (List (List (Int))) × (List (Int × Int × Int × Int × Int)) × Int × Unit) (x : Int × Unit) : Option ((Int × Unit) ⊕ (Bool × Unit ⊕ (Unit ⊕ Empty))) :=
  (bif (rCmp .lss x.1 (rLen k.2.2.1)) then (bif (rInR k.2.2.1 k.2.2.2.2.1) then (bif (rInR (rGet zLIl k.2.2.1 k.2.2.2.2.1) x.1) then ((spec_l01In (rGet zI (rGet zLIl k.2.2.1 k.2.2.2.2.1) x.1) (0 : Int) (200 : Int)).bind fun y0 => (bif (Bool.not y0.1) then some (.inr (.inl (false, ()))) else some (.inl ((rArith .add .i64 x.1 (1 : Int)), ())))) else none) else none) else some (.inr (.inr (.inl (())))))
def spec_RoundOk_l2 (k : Int × Int × (List (List (Int))) × (List (Int × Int × Int × Int × Int)) × Int × Unit) (x : Int × Unit) : Option (Bool × Unit ⊕ (Unit ⊕ Empty)) := iter (spec_RoundOk_b2 k) big x
def spec_RoundOk_b0 (k : Int × Int × (List (List (Int))) × (List (Int × Int × Int × Int × Int)) × Unit) (x : Int × Unit) : Option ((Int × Unit) ⊕ (Bool × Unit ⊕ (Unit ⊕ Empty))) :=
  (bif (rCmp .lss x.1 (rLen k.2.2.1)) then (bif (rInR k.2.2.1 x.1) then (bif (rCmp .neq (rLen (rGet zLIl k.2.2.1 x.1)) (rLen k.2.2.1)) then some (.inr (.inl (false, ()))) else ((spec_RoundOk_l2 (k.1, k.2.1, k.2.2.1, k.2.2.2.1, x.1, ()) ((0 : Int), ())).bind fun q0 => (Sum.elim (fun y1 => some (.inr (.inl (y1.1, ())))) (fun q2 => (Sum.elim (fun y3 => some (.inl ((rArith .add .i64 x.1 (1 : Int)), ()))) (fun q4 => (Empty.elim q4)) q2)) q0))) else none) else some (.inr (.inr (.inl (())))))
def spec_RoundOk_l0 (k : Int × Int × (List (List (Int))) × (List (Int × Int × Int × Int × Int)) × Unit) (x : Int × Unit) : Option (Bool × Unit ⊕ (Unit ⊕ Empty)) := iter (spec_RoundOk_b0 k) big x
def spec_RoundOk_b4 (k : Int × Int × (List (List (Int))) × (List (Int × Int × Int × Int × Int)) × Unit) (x : Int × Unit) : Option ((Int × Unit) ⊕ (Bool × Unit ⊕ (Unit ⊕ Empty))) :=
  (bif (rCmp .lss x.1 (rLen k.2.2.2.1)) then (bif (rInR k.2.2.2.1 x.1) then ((spec_l01In (rGet zIIIII k.2.2.2.1 x.1).2.1 (0 : Int) (20000 : Int)).bind fun y0 => (bif (Bool.not y0.1) then some (.inr (.inl (false, ()))) else ((spec_l01In (rGet zIIIII k.2.2.2.1 x.1).1 (0 : Int) (rGet zIIIII k.2.2.2.1 x.1).2.1).bind fun y1 => (bif (Bool.not y1.1) then some (.inr (.inl (false, ()))) else ((spec_l01In (rGet zIIIII k.2.2.2.1 x.1).2.2.1 (0 : Int) (200 : Int)).bind fun y2 => (bif (Bool.not y2.1) then some (.inr (.inl (false, ()))) else ((spec_l01In (rGet zIIIII k.2.2.2.1 x.1).2.2.2.1 (0 : Int) (1000 : Int)).bind fun y3 => (bif (Bool.not y3.1) then some (.inr (.inl (false, ()))) else ((spec_l01In (rGet zIIIII k.2.2.2.1 x.1).2.2.2.2 (0 : Int) (1000 : Int)).bind fun y4 => (bif (Bool.not y4.1) then some (.inr (.inl (false, ()))) else some (.inl ((rArith .add .i64 x.1 (1 : Int)), ())))))))))))) else none) else some (.inr (.inr (.inl (())))))
def spec_RoundOk_l4 (k : Int × Int × (List (List (Int))) × (List (Int × Int × Int × Int × Int)) × Unit) (x : Int × Unit) : Option (Bool × Unit ⊕ (Unit ⊕ Empty)) := iter (spec_RoundOk_b4 k) big x
def spec_RoundOk (a0 : Int) (a1 : Int) (a2 : (List (List (Int)))) (a3 : (List (Int × Int × Int × Int × Int))) : Option (Bool × Unit) :=
  ((spec_l01In a0 (0 : Int) (20000 : Int)).bind fun y0 => (bif (Bool.not y0.1) then some (false, ()) else ((spec_l01In a1 (0 : Int) (1000 : Int)).bind fun y1 => (bif (Bool.not y1.1) then some (false, ()) else (bif (rCmp .gtr (rLen a3) (6 : Int)) then some (false, ()) else (bif (rCmp .neq (rLen a2) (rArith .add .i64 (rLen a3) (1 : Int))) then some (false, ()) else ((spec_RoundOk_l0 (a0, a1, a2, a3, ()) ((0 : Int), ())).bind fun q2 => (Sum.elim (fun y3 => some (y3.1, ())) (fun q4 => (Sum.elim (fun y5 => ((spec_RoundOk_l4 (a0, a1, a2, a3, ()) ((0 : Int), ())).bind fun q6 => (Sum.elim (fun y7 => some (y7.1, ())) (fun q8 => (Sum.elim (fun y9 => some (true, ())) (fun q10 => (Empty.elim q10)) q8)) q6))) (fun q6 => (Empty.elim q6)) q4)) q2))))))))

/-! loop.example/g03318/impl.RoundOk$1 -/
def impl_RoundOk_1 (a0 : Int) : Option (Bool × Unit) :=
  ((impl_within a0 (0 : Int) (200 : Int)).bind fun y0 => some ((Bool.not y0.1), ()))

/-! slices.IndexFunc[[]int,int] -/
def slices_IndexFunc___int_int___impl_RoundOk_1_b0 (k : (List (Int)) × Int × Unit) (x : Int × Unit) : Option ((Int × Unit) ⊕ (Int × Unit ⊕ (Unit ⊕ Empty))) :=
  (bif (rCmp .lss x.1 k.2.1) then (bif (rInR k.1 x.1) then ((impl_RoundOk_1 (rGet zI k.1 x.1)).bind fun y0 => (bif y0.1 then some (.inr (.inl (x.1, ()))) else some (.inl ((rArith .add .i64 x.1 (1 : Int)), ())))) else none) else some (.inr (.inr (.inl (())))))
def slices_IndexFunc___int_int___impl_RoundOk_1_l0 (k : (List (Int)) × Int × Unit) (x : Int × Unit) : Option (Int × Unit ⊕ (Unit ⊕ Empty)) := iter (slices_IndexFunc___int_int___impl_RoundOk_1_b0 k) big x
def slices_IndexFunc___int_int___impl_RoundOk_1 (a0 : (List (Int))) : Option (Int × Unit) :=
  ((slices_IndexFunc___int_int___impl_RoundOk_1_l0 (a0, (rLen a0), ()) ((0 : Int), ())).bind fun q0 => (Sum.elim (fun y1 => some (y1.1, ())) (fun q2 => (Sum.elim (fun y3 => some ((-1 : Int), ())) (fun q4 => (Empty.elim q4)) q2)) q0))

/-! slices.ContainsFunc[[]int,int] -/
def slices_ContainsFunc___int_int___impl_RoundOk_1 (a0 : (List (Int))) : Option (Bool × Unit) :=
  ((slices_IndexFunc___int_int___impl_RoundOk_1 a0).bind fun y0 => some ((rCmp .geq y0.1 (0 : Int)), ()))

/-! loop.example/g03318/impl.RoundOk -/
def impl_RoundOk_b0 (k : Int × Int × (List (List (Int))) × (List (Int × Int × Int × Int × Int)) × (List (List (Int))) × Int × Unit) (x : Int × Unit) : Option ((Int × Unit) ⊕ (Bool × Unit ⊕ (Unit ⊕ Empty))) :=
  (bif (rCmp .lss x.1 k.2.2.2.2.2.1) then (bif (rInR k.2.2.2.2.1 x.1) then (bif (rCmp .neq (rLen (rGet zLIl k.2.2.2.2.1 x.1)) (rLen k.2.2.1)) then some (.inr (.inl (false, ()))) else ((slices_ContainsFunc___int_int___impl_RoundOk_1 (rGet zLIl k.2.2.2.2.1 x.1)).bind fun y0 => (bif y0.1 then some (.inr (.inl (false, ()))) else some (.inl ((rArith .add .i64 x.1 (1 : Int)), ()))))) else none) else some (.inr (.inr (.inl (())))))
def impl_RoundOk_l0 (k : Int × Int × (List (List (Int))) × (List (Int × Int × Int × Int × Int)) × (List (List (Int))) × Int × Unit) (x : Int × Unit) : Option (Bool × Unit ⊕ (Unit ⊕ Empty)) := iter (impl_RoundOk_b0 k) big x
def impl_RoundOk_b2 (k : (List (Int × Int × Int × Int × Int)) × Int × Unit) (x : Int × Unit) : Option ((Int × Unit) ⊕ (Bool × Unit ⊕ (Unit ⊕ Empty))) :=
  (bif (rCmp .lss x.1 k.2.1) then (bif (rInR k.1 x.1) then ((impl_timeOk (rGet zIIIII k.1 x.1).1).bind fun y0 => (bif (Bool.not y0.1) then some (.inr (.inl (false, ()))) else ((impl_timeOk (rGet zIIIII k.1 x.1).2.1).bind fun y1 => (bif (Bool.not y1.1) then some (.inr (.inl (false, ()))) else (bif (rCmp .gtr (rGet zIIIII k.1 x.1).1 (rGet zIIIII k.1 x.1).2.1) then some (.inr (.inl (false, ()))) else ((impl_within (rGet zIIIII k.1 x.1).2.2.1 (0 : Int) (200 : Int)).bind fun y2 => (bif (Bool.not y2.1) then some (.inr (.inl (false, ()))) else ((impl_within (rGet zIIIII k.1 x.1).2.2.2.1 (0 : Int) (1000 : Int)).bind fun y3 => (bif (Bool.not y3.1) then some (.inr (.inl (false, ()))) else ((impl_within (rGet zIIIII k.1 x.1).2.2.2.2 (0 : Int) (1000 : Int)).bind fun y4 => (bif (Bool.not y4.1) then some (.inr (.inl (false, ()))) else some (.inl ((rArith .add .i64 x.1 (1 : Int)), ()))))))))))))) else none) else some (.inr (.inr (.inl (())))))
def impl_RoundOk_l2 (k : (List (Int × Int × Int × Int × Int)) × Int × Unit) (x : Int × Unit) : Option (Bool × Unit ⊕ (Unit ⊕ Empty)) := iter (impl_RoundOk_b2 k) big x
def impl_RoundOk (a0 : Int) (a1 : Int) (a2 : (List (List (Int)))) (a3 : (List (Int × Int × Int × Int × Int))) : Option (Bool × Unit) :=
  ((impl_timeOk a0).bind fun y0 => (bif (Bool.not y0.1) then some (false, ()) else ((impl_within a1 (0 : Int) (1000 : Int)).bind fun y1 => (bif (Bool.not y1.1) then some (false, ()) else (bif (rCmp .gtr (rLen a3) (6 : Int)) then some (false, ()) else (bif (rCmp .neq (rLen a2) (rArith .add .i64 (rLen a3) (1 : Int))) then some (false, ()) else ((impl_RoundOk_l0 (a0, a1, a2, a3, a2, (rLen a2), ()) ((0 : Int), ())).bind fun q2 => (Sum.elim (fun y3 => some (y3.1, ())) (fun q4 => (Sum.elim (fun y5 => ((impl_RoundOk_l2 (a3, (rLen a3), ()) ((0 : Int), ())).bind fun q6 => (Sum.elim (fun y7 => some (y7.1, ())) (fun q8 => (Sum.elim (fun y9 => some (true, ())) (fun q10 => (Empty.elim q10)) q8)) q6))) (fun q6 => (Empty.elim q6)) q4)) q2))))))))

/-! loop.example/g03318/laws.eqIntSS -/
def laws_eqIntSS_b0 (k : (List (List (Int))) × (List (List (Int))) × Unit) (x : Int × Unit) : Option ((Int × Unit) ⊕ (Bool × Unit ⊕ (Unit ⊕ Empty))) :=
  (bif (rCmp .lss x.1 (rLen k.1)) then (bif (rInR k.1 x.1) then (bif (rInR k.2.1 x.1) then ((laws_eqIntS (rGet zLIl k.1 x.1) (rGet zLIl k.2.1 x.1)).bind fun y0 => (bif (Bool.not y0.1) then some (.inr (.inl (false, ()))) else some (.inl ((rArith .add .i64 x.1 (1 : Int)), ())))) else none) else none) else some (.inr (.inr (.inl (())))))
def laws_eqIntSS_l0 (k : (List (List (Int))) × (List (List (Int))) × Unit) (x : Int × Unit) : Option (Bool × Unit ⊕ (Unit ⊕ Empty)) := iter (laws_eqIntSS_b0 k) big x
def laws_eqIntSS (a0 : (List (List (Int)))) (a1 : (List (List (Int)))) : Option (Bool × Unit) :=
  (bif (rCmp .neq (rLen a0) (rLen a1)) then some (false, ()) else ((laws_eqIntSS_l0 (a0, a1, ()) ((0 : Int), ())).bind fun q0 => (Sum.elim (fun y1 => some (y1.1, ())) (fun q2 => (Sum.elim (fun y3 => some (true, ())) (fun q4 => (Empty.elim q4)) q2)) q0)))

/-! loop.example/g03318/laws.eqStop -/
def laws_eqStop (a0 : Int) (a1 : Int) (a2 : Int) (a3 : Int) (a4 : Int) (a5 : Int) (a6 : Int) (a7 : Int) (a8 : Int) (a9 : Int) : Option (Bool × Unit) :=
  (bif (rCmp .neq a0 a5) then some (false, ()) else (bif (rCmp .neq a1 a6) then some (false, ()) else (bif (rCmp .neq a2 a7) then some (false, ()) else (bif (rCmp .neq a3 a8) then some (false, ()) else (bif (rCmp .neq a4 a9) then some (false, ()) else some (true, ()))))))

/-! loop.example/g03318/laws.eqStopS -/
def laws_eqStopS_b0 (k : (List (Int × Int × Int × Int × Int)) × (List (Int × Int × Int × Int × Int)) × Unit) (x : Int × Unit) : Option ((Int × Unit) ⊕ (Bool × Unit ⊕ (Unit ⊕ Empty))) :=
  (bif (rCmp .lss x.1 (rLen k.1)) then (bif (rInR k.1 x.1) then (bif (rInR k.2.1 x.1) then ((laws_eqStop (rGet zIIIII k.1 x.1).1 (rGet zIIIII k.1 x.1).2.1 (rGet zIIIII k.1 x.1).2.2.1 (rGet zIIIII k.1 x.1).2.2.2.1 (rGet zIIIII k.1 x.1).2.2.2.2 (rGet zIIIII k.2.1 x.1).1 (rGet zIIIII k.2.1 x.1).2.1 (rGet zIIIII k.2.1 x.1).2.2.1 (rGet zIIIII k.2.1 x.1).2.2.2.1 (rGet zIIIII k.2.1 x.1).2.2.2.2).bind fun y0 => (bif (Bool.not y0.1) then some (.inr (.inl (false, ()))) else some (.inl ((rArith .add .i64 x.1 (1 : Int)), ())))) else none) else none) else some (.inr (.inr (.inl (())))))
def laws_eqStopS_l0 (k : (List (Int × Int × Int × Int × Int)) × (List (Int × Int × Int × Int × Int)) × Unit) (x : Int × Unit) : Option (Bool × Unit ⊕ (Unit ⊕ Empty)) := iter (laws_eqStopS_b0 k) big x
def laws_eqStopS (a0 : (List (Int × Int × Int × Int × Int))) (a1 : (List (Int × Int × Int × Int × Int))) : Option (Bool × Unit) :=
  (bif (rCmp .neq (rLen a0) (rLen a1)) then some (false, ()) else ((laws_eqStopS_l0 (a0, a1, ()) ((0 : Int), ())).bind fun q0 => (Sum.elim (fun y1 => some (y1.1, ())) (fun q2 => (Sum.elim (fun y3 => some (true, ())) (fun q4 => (Empty.elim q4)) q2)) q0)))

/-! loop.example/g03318/laws.eqRound -/
def laws_eqRound (a0 : Int) (a1 : Int) (a2 : (List (List (Int)))) (a3 : (List (Int × Int × Int × Int × Int))) (a4 : Int) (a5 : Int) (a6 : (List (List (Int)))) (a7 : (List (Int × Int × Int × Int × Int))) : Option (Bool × Unit) :=
  (bif (rCmp .neq a0 a4) then some (false, ()) else (bif (rCmp .neq a1 a5) then some (false, ()) else ((laws_eqIntSS a2 a6).bind fun y0 => (bif (Bool.not y0.1) then some (false, ()) else ((laws_eqStopS a3 a7).bind fun y1 => (bif (Bool.not y1.1) then some (false, ()) else some (true, ())))))))

/-! loop.example/g03318/laws.FnExactRoundOk -/
def laws_FnExactRoundOk (a0 : Int) (a1 : Int) (a2 : (List (List (Int)))) (a3 : (List (Int × Int × Int × Int × Int))) : Option (Bool × Unit) :=
  ((laws_szRound a0 a1 a2 a3 (1048576 : Int)).bind fun y0 => (bif (rCmp .lss y0.1 (0 : Int)) then some (true, ()) else ((laws_toRound a0 a1 a2 a3).bind fun y1 => ((spec_RoundOk y1.1 y1.2.1 y1.2.2.1 y1.2.2.2.1).bind fun y2 => ((laws_toRound a0 a1 a2 a3).bind fun y3 => ((impl_RoundOk y3.1 y3.2.1 y3.2.2.1 y3.2.2.2.1).bind fun y4 => (bif (Bool.not (rBeq y4.1 y2.1)) then some (false, ()) else ((laws_toRound a0 a1 a2 a3).bind fun y5 => ((laws_eqRound y3.1 y3.2.1 y3.2.2.1 y3.2.2.2.1 y5.1 y5.2.1 y5.2.2.1 y5.2.2.2.1).bind fun y6 => (bif (Bool.not y6.1) then some (false, ()) else some (true, ())))))))))))
end Go.Fn
