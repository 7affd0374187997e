import Derived.Test.YthdhgmppijjhpaaGreatFeesOfQA
/- Plain functions that stand for Go functions, and what they answer. Conditions: none. -/
set_option autoImplicit false
set_option linter.unusedVariables false
set_option linter.unusedSimpArgs false
set_option linter.unusedVariables false
namespace Go.Fn
open Go.R
noncomputable def spec_l05Person (a0 : Int) : Option (Bool × Unit) :=
 ((spec_l01In a0 (1 : Int) (40 : Int)).bind fun y0 => some (y0.1, ()))
noncomputable def spec_l05Time (a0 : Int) : Option (Bool × Unit) :=
 ((spec_l01In a0 (0 : Int) (20000 : Int)).bind fun y0 => some (y0.1, ()))
noncomputable def spec_GrantOk (a0 : Int) (a1 : Int) (a2 : Int) (a3 : Int) (a4 : Int) (a5 : Int) (a6 : Bool) : Option (Bool × Unit) :=
 ((spec_l05Person a0).bind fun y0 => (bif y0.1 then ((spec_l05Person a1).bind fun y1 => (bif y1.1 then (bif (rCmp .neq a0 a1) then ((spec_l01In a2 (0 : Int) (999 : Int)).bind fun y2 => (bif y2.1 then ((spec_l01In a3 (0 : Int) (5 : Int)).bind fun y3 => (bif y3.1 then ((spec_l05Time a4).bind fun y4 => (bif y4.1 then ((spec_l05Time a5).bind fun y5 => (bif y5.1 then some ((rCmp .lss a4 a5), ()) else some (false, ()))) else some (false, ()))) else some (false, ()))) else some (false, ()))) else some (false, ())) else some (false, ()))) else some (false, ())))
noncomputable def spec_GrantsOk_b0 (k : (List (Int × Int × Int × Int × Int × Int × Bool)) × Unit) (x : Int × Unit) : Option ((Int × Unit) ⊕ (Bool × Unit ⊕ (Unit ⊕ Empty))) :=
 (bif (rCmp .lss x.1 (rLen k.1)) then (bif (rInR k.1 x.1) then ((spec_GrantOk (rGet zIIIIIIB k.1 x.1).1 (rGet zIIIIIIB k.1 x.1).2.1 (rGet zIIIIIIB k.1 x.1).2.2.1 (rGet zIIIIIIB k.1 x.1).2.2.2.1 (rGet zIIIIIIB k.1 x.1).2.2.2.2.1 (rGet zIIIIIIB k.1 x.1).2.2.2.2.2.1 (rGet zIIIIIIB k.1 x.1).2.2.2.2.2.2).bind fun y0 => (bif (Bool.not y0.1) then some (.inr (.inl (false, ()))) else some (.inl ((rArith .add .i64 x.1 (1 : Int)), ())))) else none) else some (.inr (.inr (.inl (())))))
noncomputable def spec_GrantsOk_l0 (k : (List (Int × Int × Int × Int × Int × Int × Bool)) × Unit) (x : Int × Unit) : Option (Bool × Unit ⊕ (Unit ⊕ Empty)) := iter (spec_GrantsOk_b0 k) big x
noncomputable def spec_GrantsOk (a0 : (List (Int × Int × Int × Int × Int × Int × Bool))) : Option (Bool × Unit) :=
 (bif (rCmp .gtr (rLen a0) (30 : Int)) then some (false, ()) else ((spec_GrantsOk_l0 (a0, ()) ((0 : Int), ())).bind fun q0 => (Sum.elim (fun y1 => some (y1.1, ())) (fun q2 => (Sum.elim (fun y3 => some (true, ())) (fun q4 => (Empty.elim q4)) q2)) q0)))
noncomputable def spec_l02Boxes_b2 (k : Int × (List (Int)) × (List (Int × Int × Int × Bool)) × Int × Int × Unit) (x : Int × Int × Int × Bool × Int × Unit) : Option ((Int × Int × Int × Bool × Int × Unit) ⊕ (Bool × Unit ⊕ (Int × Int × Int × Bool × Unit ⊕ Empty))) :=
 (bif (rCmp .lss x.2.2.2.2.1 k.2.2.2.2.1) then (bif (rCmp .gtr x.2.2.1 (0 : Int)) then (bif (rInR k.2.2.1 x.2.2.2.2.1) then (bif (rCmp .eql (rGet zIIIB k.2.2.1 x.2.2.2.2.1).2.2.1 x.2.2.1) then some (.inr (.inl (false, ()))) else some (.inl (x.1, x.2.1, x.2.2.1, x.2.2.2.1, (rArith .add .i64 x.2.2.2.2.1 (1 : Int)), ()))) else none) else some (.inl (x.1, x.2.1, x.2.2.1, x.2.2.2.1, (rArith .add .i64 x.2.2.2.2.1 (1 : Int)), ()))) else some (.inr (.inr (.inl (x.1, x.2.1, x.2.2.1, x.2.2.2.1, ())))))
noncomputable def spec_l02Boxes_l2 (k : Int × (List (Int)) × (List (Int × Int × Int × Bool)) × Int × Int × Unit) (x : Int × Int × Int × Bool × Int × Unit) : Option (Bool × Unit ⊕ (Int × Int × Int × Bool × Unit ⊕ Empty)) := iter (spec_l02Boxes_b2 k) big x
noncomputable def spec_l02Boxes_b0 (k : Int × (List (Int)) × (List (Int × Int × Int × Bool)) × Unit) (x : Int × Int × Unit) : Option ((Int × Int × Unit) ⊕ (Bool × Unit ⊕ (Int × Unit ⊕ Empty))) :=
 (bif (rCmp .lss x.2.1 (rLen k.2.2.1)) then (bif (rInR k.2.2.1 x.2.1) then (bif (rCmp .neq (rGet zIIIB k.2.2.1 x.2.1).1 x.1) then some (.inr (.inl (false, ()))) else ((spec_l01In (rGet zIIIB k.2.2.1 x.2.1).2.1 (1 : Int) (24 : Int)).bind fun y0 => (bif (Bool.not y0.1) then some (.inr (.inl (false, ()))) else ((spec_l01In (rGet zIIIB k.2.2.1 x.2.1).2.2.1 (0 : Int) (999 : Int)).bind fun y1 => (bif (Bool.not y1.1) then some (.inr (.inl (false, ()))) else ((spec_l02Boxes_l2 (k.1, k.2.1, k.2.2.1, x.1, x.2.1, ()) ((rGet zIIIB k.2.2.1 x.2.1).1, (rGet zIIIB k.2.2.1 x.2.1).2.1, (rGet zIIIB k.2.2.1 x.2.1).2.2.1, (rGet zIIIB k.2.2.1 x.2.1).2.2.2, (0 : Int), ())).bind fun q2 => (Sum.elim (fun y3 => some (.inr (.inl (y3.1, ())))) (fun q4 => (Sum.elim (fun y5 => (bif (rCmp .gtr (rArith .add .i64 x.1 y5.2.1) (24 : Int)) then some (.inr (.inl (false, ()))) else some (.inl ((rArith .add .i64 x.1 y5.2.1), (rArith .add .i64 x.2.1 (1 : Int)), ())))) (fun q6 => (Empty.elim q6)) q4)) q2))))))) else none) else some (.inr (.inr (.inl (x.1, ())))))
noncomputable def spec_l02Boxes_l0 (k : Int × (List (Int)) × (List (Int × Int × Int × Bool)) × Unit) (x : Int × Int × Unit) : Option (Bool × Unit ⊕ (Int × Unit ⊕ Empty)) := iter (spec_l02Boxes_b0 k) big x
noncomputable def spec_l02Boxes (a0 : Int) (a1 : (List (Int))) (a2 : (List (Int × Int × Int × Bool))) : Option (Bool × Unit) :=
 ((spec_l02Boxes_l0 (a0, a1, a2, ()) ((0 : Int), (0 : Int), ())).bind fun q0 => (Sum.elim (fun y1 => some (y1.1, ())) (fun q2 => (Sum.elim (fun y3 => (bif (rCmp .gtr (rLen a2) (0 : Int)) then some ((rCmp .eql y3.1 a0), ()) else some (false, ()))) (fun q4 => (Empty.elim q4)) q2)) q0))
noncomputable def spec_ColumnOk_b2 (k : Int × (List (Int)) × (List (Int × Int × Int × Bool)) × Int × Unit) (x : Bool × Int × Unit) : Option ((Bool × Int × Unit) ⊕ (Bool × Unit ⊕ Empty)) :=
 (bif (rCmp .lss x.2.1 (rLen k.2.2.1)) then (bif x.1 then some (.inl (true, (rArith .add .i64 x.2.1 (1 : Int)), ())) else (bif (rInR k.2.2.1 x.2.1) then (bif (rInR k.2.1 k.2.2.2.1) then some (.inl ((rCmp .eql (rGet zIIIB k.2.2.1 x.2.1).1 (rGet zI k.2.1 k.2.2.2.1)), (rArith .add .i64 x.2.1 (1 : Int)), ())) else none) else none)) else some (.inr (.inl (x.1, ()))))
noncomputable def spec_ColumnOk_l2 (k : Int × (List (Int)) × (List (Int × Int × Int × Bool)) × Int × Unit) (x : Bool × Int × Unit) : Option (Bool × Unit ⊕ Empty) := iter (spec_ColumnOk_b2 k) big x
noncomputable def spec_ColumnOk_b0 (k : Int × (List (Int)) × (List (Int × Int × Int × Bool)) × Unit) (x : Int × Unit) : Option ((Int × Unit) ⊕ (Bool × Unit ⊕ (Unit ⊕ Empty))) :=
 (bif (rCmp .lss x.1 (rLen k.2.1)) then (bif (rInR k.2.1 x.1) then ((spec_l01In (rGet zI k.2.1 x.1) (1 : Int) (rArith .sub .i64 k.1 (1 : Int))).bind fun y0 => (bif (Bool.not y0.1) then some (.inr (.inl (false, ()))) else (bif (rCmp .gtr x.1 (0 : Int)) then (bif (rInR k.2.1 x.1) then (bif (rInR k.2.1 (rArith .sub .i64 x.1 (1 : Int))) then (bif (rCmp .leq (rGet zI k.2.1 x.1) (rGet zI k.2.1 (rArith .sub .i64 x.1 (1 : Int)))) then some (.inr (.inl (false, ()))) else ((spec_ColumnOk_l2 (k.1, k.2.1, k.2.2.1, x.1, ()) (false, (0 : Int), ())).bind fun q1 => (Sum.elim (fun y2 => (bif (Bool.not y2.1) then some (.inr (.inl (false, ()))) else some (.inl ((rArith .add .i64 x.1 (1 : Int)), ())))) (fun q3 => (Empty.elim q3)) q1))) else none) else none) else ((spec_ColumnOk_l2 (k.1, k.2.1, k.2.2.1, x.1, ()) (false, (0 : Int), ())).bind fun q1 => (Sum.elim (fun y2 => (bif (Bool.not y2.1) then some (.inr (.inl (false, ()))) else some (.inl ((rArith .add .i64 x.1 (1 : Int)), ())))) (fun q3 => (Empty.elim q3)) q1))))) else none) else some (.inr (.inr (.inl (())))))
noncomputable def spec_ColumnOk_l0 (k : Int × (List (Int)) × (List (Int × Int × Int × Bool)) × Unit) (x : Int × Unit) : Option (Bool × Unit ⊕ (Unit ⊕ Empty)) := iter (spec_ColumnOk_b0 k) big x
noncomputable def spec_ColumnOk (a0 : Int) (a1 : (List (Int))) (a2 : (List (Int × Int × Int × Bool))) : Option (Bool × Unit) :=
 ((spec_l01In a0 (1 : Int) (24 : Int)).bind fun y0 => (bif (Bool.not y0.1) then some (false, ()) else ((spec_l02Boxes a0 a1 a2).bind fun y1 => (bif (Bool.not y1.1) then some (false, ()) else ((spec_ColumnOk_l0 (a0, a1, a2, ()) ((0 : Int), ())).bind fun q2 => (Sum.elim (fun y3 => some (y3.1, ())) (fun q4 => (Sum.elim (fun y5 => some (true, ())) (fun q6 => (Empty.elim q6)) q4)) q2))))))
noncomputable def spec_l02Box_b0 (k : Int × Int × (List (Int)) × (List (Int × Int × Int × Bool)) × Unit) (x : Int × Unit) : Option ((Int × Unit) ⊕ (Int × Unit ⊕ (Unit ⊕ Empty))) :=
 (bif (rCmp .lss x.1 (rLen k.2.2.2.1)) then (bif (rInR k.2.2.2.1 x.1) then (bif (rCmp .eql (rGet zIIIB k.2.2.2.1 x.1).2.2.1 k.1) then (bif (rCmp .gtr k.1 (0 : Int)) then some (.inr (.inl (x.1, ()))) else some (.inl ((rArith .add .i64 x.1 (1 : Int)), ()))) else some (.inl ((rArith .add .i64 x.1 (1 : Int)), ()))) else none) else some (.inr (.inr (.inl (())))))
noncomputable def spec_l02Box_l0 (k : Int × Int × (List (Int)) × (List (Int × Int × Int × Bool)) × Unit) (x : Int × Unit) : Option (Int × Unit ⊕ (Unit ⊕ Empty)) := iter (spec_l02Box_b0 k) big x
noncomputable def spec_l02Box (a0 : Int) (a1 : (List (Int))) (a2 : (List (Int × Int × Int × Bool))) (a3 : Int) : Option (Int × Unit) :=
 ((spec_l02Box_l0 (a3, a0, a1, a2, ()) ((0 : Int), ())).bind fun q0 => (Sum.elim (fun y1 => some (y1.1, ())) (fun q2 => (Sum.elim (fun y3 => some ((-1 : Int), ())) (fun q4 => (Empty.elim q4)) q2)) q0))
noncomputable def spec_BankOk_b4 (k : (List (Int × (List (Int)) × List (Int × Int × Int × Bool))) × Int × Int × Unit) (x : Int × Unit) : Option ((Int × Unit) ⊕ (Bool × Unit ⊕ (Unit ⊕ Empty))) :=
 (bif (rInR k.1 k.2.1) then (bif (rCmp .lss x.1 (rLen (rGet zILIlLIIIBl k.1 k.2.1).2.2)) then (bif (rInR k.1 k.2.2.1) then (bif (rInR k.1 k.2.1) then (bif (rInR (rGet zILIlLIIIBl k.1 k.2.1).2.2 x.1) then ((spec_l02Box (rGet zILIlLIIIBl k.1 k.2.2.1).1 (rGet zILIlLIIIBl k.1 k.2.2.1).2.1 (rGet zILIlLIIIBl k.1 k.2.2.1).2.2 (rGet zIIIB (rGet zILIlLIIIBl k.1 k.2.1).2.2 x.1).2.2.1).bind fun y0 => (bif (rCmp .geq y0.1 (0 : Int)) then some (.inr (.inl (false, ()))) else some (.inl ((rArith .add .i64 x.1 (1 : Int)), ())))) else none) else none) else none) else some (.inr (.inr (.inl (()))))) else none)
noncomputable def spec_BankOk_l4 (k : (List (Int × (List (Int)) × List (Int × Int × Int × Bool))) × Int × Int × Unit) (x : Int × Unit) : Option (Bool × Unit ⊕ (Unit ⊕ Empty)) := iter (spec_BankOk_b4 k) big x
noncomputable def spec_BankOk_b2 (k : (List (Int × (List (Int)) × List (Int × Int × Int × Bool))) × Int × Unit) (x : Int × Unit) : Option ((Int × Unit) ⊕ (Bool × Unit ⊕ (Unit ⊕ Empty))) :=
 (bif (rCmp .lss x.1 k.2.1) then ((spec_BankOk_l4 (k.1, k.2.1, x.1, ()) ((0 : Int), ())).bind fun q0 => (Sum.elim (fun y1 => some (.inr (.inl (y1.1, ())))) (fun q2 => (Sum.elim (fun y3 => some (.inl ((rArith .add .i64 x.1 (1 : Int)), ()))) (fun q4 => (Empty.elim q4)) q2)) q0)) else some (.inr (.inr (.inl (())))))
noncomputable def spec_BankOk_l2 (k : (List (Int × (List (Int)) × List (Int × Int × Int × Bool))) × Int × Unit) (x : Int × Unit) : Option (Bool × Unit ⊕ (Unit ⊕ Empty)) := iter (spec_BankOk_b2 k) big x
noncomputable def spec_BankOk_b0 (k : (List (Int × (List (Int)) × List (Int × Int × Int × Bool))) × Unit) (x : Int × Unit) : Option ((Int × Unit) ⊕ (Bool × Unit ⊕ (Unit ⊕ Empty))) :=
 (bif (rCmp .lss x.1 (rLen k.1)) then (bif (rInR k.1 x.1) then ((spec_ColumnOk (rGet zILIlLIIIBl k.1 x.1).1 (rGet zILIlLIIIBl k.1 x.1).2.1 (rGet zILIlLIIIBl k.1 x.1).2.2).bind fun y0 => (bif (Bool.not y0.1) then some (.inr (.inl (false, ()))) else ((spec_BankOk_l2 (k.1, x.1, ()) ((0 : Int), ())).bind fun q1 => (Sum.elim (fun y2 => some (.inr (.inl (y2.1, ())))) (fun q3 => (Sum.elim (fun y4 => some (.inl ((rArith .add .i64 x.1 (1 : Int)), ()))) (fun q5 => (Empty.elim q5)) q3)) q1)))) else none) else some (.inr (.inr (.inl (())))))
noncomputable def spec_BankOk_l0 (k : (List (Int × (List (Int)) × List (Int × Int × Int × Bool))) × Unit) (x : Int × Unit) : Option (Bool × Unit ⊕ (Unit ⊕ Empty)) := iter (spec_BankOk_b0 k) big x
noncomputable def spec_BankOk (a0 : (List (Int × (List (Int)) × List (Int × Int × Int × Bool)))) : Option (Bool × Unit) :=
 ((spec_l01In (rLen a0) (1 : Int) (6 : Int)).bind fun y0 => (bif (Bool.not y0.1) then some (false, ()) else ((spec_BankOk_l0 (a0, ()) ((0 : Int), ())).bind fun q1 => (Sum.elim (fun y2 => some (y2.1, ())) (fun q3 => (Sum.elim (fun y4 => some (true, ())) (fun q5 => (Empty.elim q5)) q3)) q1))))
noncomputable def spec_l04Before (a0 : Int) (a1 : Int) (a2 : Bool) (a3 : Bool) (a4 : Bool) : Option (Bool × Unit) :=
 some ((rBeq a4 (rCmp .eql a0 (2 : Int))), ())
noncomputable def spec_DoorOk (a0 : Int) (a1 : Int) (a2 : Bool) (a3 : Bool) (a4 : Bool) : Option (Bool × Unit) :=
 ((spec_l01In a0 (0 : Int) (2 : Int)).bind fun y0 => (bif (Bool.not y0.1) then some (false, ()) else ((spec_l01In a1 (0 : Int) (6 : Int)).bind fun y1 => (bif (Bool.not y1.1) then some (false, ()) else (bif a3 then (bif (Bool.not a2) then some (false, ()) else (bif (rCmp .eql a0 (0 : Int)) then (bif (rCmp .eql a1 (0 : Int)) then some ((Bool.not a2), ()) else some (false, ())) else (bif (rCmp .eql a1 (1 : Int)) then ((spec_l04Before a0 a1 a2 a3 a4).bind fun y2 => (bif y2.1 then some ((Bool.not a2), ()) else some (false, ()))) else (bif (rCmp .eql a1 (2 : Int)) then ((spec_l04Before a0 a1 a2 a3 a4).bind fun y2 => (bif y2.1 then (bif a2 then some ((Bool.not a3), ()) else some (false, ())) else some (false, ()))) else (bif (rCmp .eql a1 (3 : Int)) then ((spec_l04Before a0 a1 a2 a3 a4).bind fun y2 => (bif y2.1 then some (a3, ()) else some (false, ()))) else (bif (rCmp .eql a1 (4 : Int)) then ((spec_l04Before a0 a1 a2 a3 a4).bind fun y2 => (bif (Bool.not y2.1) then some (a3, ()) else some (false, ()))) else (bif (rCmp .eql a1 (5 : Int)) then (bif a2 then some ((Bool.not a3), ()) else some (false, ())) else (bif (rCmp .eql a1 (6 : Int)) then some ((Bool.not a2), ()) else some (true, ()))))))))) else (bif (rCmp .eql a0 (0 : Int)) then (bif (rCmp .eql a1 (0 : Int)) then some ((Bool.not a2), ()) else some (false, ())) else (bif (rCmp .eql a1 (1 : Int)) then ((spec_l04Before a0 a1 a2 a3 a4).bind fun y2 => (bif y2.1 then some ((Bool.not a2), ()) else some (false, ()))) else (bif (rCmp .eql a1 (2 : Int)) then ((spec_l04Before a0 a1 a2 a3 a4).bind fun y2 => (bif y2.1 then (bif a2 then some ((Bool.not a3), ()) else some (false, ())) else some (false, ()))) else (bif (rCmp .eql a1 (3 : Int)) then ((spec_l04Before a0 a1 a2 a3 a4).bind fun y2 => (bif y2.1 then some (a3, ()) else some (false, ()))) else (bif (rCmp .eql a1 (4 : Int)) then ((spec_l04Before a0 a1 a2 a3 a4).bind fun y2 => (bif (Bool.not y2.1) then some (a3, ()) else some (false, ()))) else (bif (rCmp .eql a1 (5 : Int)) then (bif a2 then some ((Bool.not a3), ()) else some (false, ())) else (bif (rCmp .eql a1 (6 : Int)) then some ((Bool.not a2), ()) else some (true, ())))))))))))))
noncomputable def spec_l09SiteOk (a0 : Int) (a1 : Int) (a2 : Int) (a3 : Int) (a4 : Int) (a5 : Int) (a6 : Int) (a7 : Int) (a8 : Int) (a9 : Int) (a10 : Int) (a11 : (List ((List (Int × Int)) × (List (Int × Int)) × (List (Int × (List (Int)) × List (Int × Int × Int × Bool))) × Int × Int × Bool × Bool × Bool × Int × Int × List (Int × Int × Int × Int × Int × Int × Int)))) (a12 : (List (Int × Int × Int × Int × Int × Int × Int × Int × Int × Int × Int × Int × Int))) (a13 : (List (Int × Int × Int × Int × Int × Int × Bool))) (a14 : (List (Int × Int × Int × Int × Int × Int × Int))) (a15 : Int) : Option (Bool × Unit) :=
 (bif (rInR a11 a15) then ((spec_WeekOk (rGet zLIIlLIIlLILIlLIIIBllIIBBBIILIIIIIIIl a11 a15).1 (rGet zLIIlLIIlLILIlLIIIBllIIBBBIILIIIIIIIl a11 a15).2.1).bind fun y0 => (bif (Bool.not y0.1) then some (false, ()) else ((spec_BankOk (rGet zLIIlLIIlLILIlLIIIBllIIBBBIILIIIIIIIl a11 a15).2.2.1).bind fun y1 => (bif (Bool.not y1.1) then some (false, ()) else ((spec_DoorOk (rGet zLIIlLIIlLILIlLIIIBllIIBBBIILIIIIIIIl a11 a15).2.2.2.1 (rGet zLIIlLIIlLILIlLIIIBllIIBBBIILIIIIIIIl a11 a15).2.2.2.2.1 (rGet zLIIlLIIlLILIlLIIIBllIIBBBIILIIIIIIIl a11 a15).2.2.2.2.2.1 (rGet zLIIlLIIlLILIlLIIIBllIIBBBIILIIIIIIIl a11 a15).2.2.2.2.2.2.1 (rGet zLIIlLIIlLILIlLIIIBllIIBBBIILIIIIIIIl a11 a15).2.2.2.2.2.2.2.1).bind fun y2 => (bif (Bool.not y2.1) then some (false, ()) else ((spec_JournalOk (rGet zLIIlLIIlLILIlLIIIBllIIBBBIILIIIIIIIl a11 a15).2.2.2.2.2.2.2.2.2.2).bind fun y3 => (bif (Bool.not y3.1) then some (false, ()) else (bif (rCmp .eql (rGet zLIIlLIIlLILIlLIIIBllIIBBBIILIIIIIIIl a11 a15).2.2.2.2.2.2.2.2.1 (0 : Int)) then (lets (Bool.and (rCmp .eql (rGet zLIIlLIIlLILIlLIIIBllIIBBBIILIIIIIIIl a11 a15).2.2.2.1 (0 : Int)) (Bool.and (rCmp .eql (rGet zLIIlLIIlLILIlLIIIBllIIBBBIILIIIIIIIl a11 a15).2.2.2.2.1 (0 : Int)) (Bool.and (rBeq (rGet zLIIlLIIlLILIlLIIIBllIIBBBIILIIIIIIIl a11 a15).2.2.2.2.2.1 false) (Bool.and (rBeq (rGet zLIIlLIIlLILIlLIIIBllIIBBBIILIIIIIIIl a11 a15).2.2.2.2.2.2.1 false) (Bool.and (rBeq (rGet zLIIlLIIlLILIlLIIIBllIIBBBIILIIIIIIIl a11 a15).2.2.2.2.2.2.2.1 false) true))))) fun v4 => (bif v4 then some ((rCmp .eql (rGet zLIIlLIIlLILIlLIIIBllIIBBBIILIIIIIIIl a11 a15).2.2.2.2.2.2.2.2.2.1 (0 : Int)), ()) else some (false, ()))) else ((spec_l01In (rGet zLIIlLIIlLILIlLIIIBllIIBBBIILIIIIIIIl a11 a15).2.2.2.2.2.2.2.2.1 (1 : Int) (rLen a12)).bind fun y4 => (bif (Bool.not y4.1) then some (false, ()) else (bif (rInR a12 (rArith .sub .i64 (rGet zLIIlLIIlLILIlLIIIBllIIBBBIILIIIIIIIl a11 a15).2.2.2.2.2.2.2.2.1 (1 : Int))) then (bif (rCmp .neq (rGet zIIIIIIIIIIIII a12 (rArith .sub .i64 (rGet zLIIlLIIlLILIlLIIIBllIIBBBIILIIIIIIIl a11 a15).2.2.2.2.2.2.2.2.1 (1 : Int))).2.2.1 a15) then some (false, ()) else (bif (rInR a12 (rArith .sub .i64 (rGet zLIIlLIIlLILIlLIIIBllIIBBBIILIIIIIIIl a11 a15).2.2.2.2.2.2.2.2.1 (1 : Int))) then (bif (rCmp .neq (rGet zIIIIIIIIIIIII a12 (rArith .sub .i64 (rGet zLIIlLIIlLILIlLIIIBllIIBBBIILIIIIIIIl a11 a15).2.2.2.2.2.2.2.2.1 (1 : Int))).2.2.2.1 (2 : Int)) then some (false, ()) else (bif (rCmp .eql (rGet zLIIlLIIlLILIlLIIIBllIIBBBIILIIIIIIIl a11 a15).2.2.2.1 (1 : Int)) then (bif (rCmp .eql (rGet zLIIlLIIlLILIlLIIIBllIIBBBIILIIIIIIIl a11 a15).2.2.2.2.2.2.2.2.2.1 (0 : Int)) then some (true, ()) else (bif (rCmp .eql (rGet zLIIlLIIlLILIlLIIIBllIIBBBIILIIIIIIIl a11 a15).2.2.2.1 (2 : Int)) then ((spec_l01In (rGet zLIIlLIIlLILIlLIIIBllIIBBBIILIIIIIIIl a11 a15).2.2.2.2.2.2.2.2.2.1 (0 : Int) (40 : Int)).bind fun y5 => some (y5.1, ())) else some (false, ()))) else (bif (rCmp .eql (rGet zLIIlLIIlLILIlLIIIBllIIBBBIILIIIIIIIl a11 a15).2.2.2.1 (2 : Int)) then ((spec_l01In (rGet zLIIlLIIlLILIlLIIIBllIIBBBIILIIIIIIIl a11 a15).2.2.2.2.2.2.2.2.2.1 (0 : Int) (40 : Int)).bind fun y5 => some (y5.1, ())) else some (false, ())))) else none)) else none)))))))))))) else none)
noncomputable def spec_l09Unplaced (a0 : Int) (a1 : Int) (a2 : Int) (a3 : Int) (a4 : Int) (a5 : Int) (a6 : Int) (a7 : Int) (a8 : Int) (a9 : Int) (a10 : Int) (a11 : (List ((List (Int × Int)) × (List (Int × Int)) × (List (Int × (List (Int)) × List (Int × Int × Int × Bool))) × Int × Int × Bool × Bool × Bool × Int × Int × List (Int × Int × Int × Int × Int × Int × Int)))) (a12 : (List (Int × Int × Int × Int × Int × Int × Int × Int × Int × Int × Int × Int × Int))) (a13 : (List (Int × Int × Int × Int × Int × Int × Bool))) (a14 : (List (Int × Int × Int × Int × Int × Int × Int))) (a15 : Int) : Option (Bool × Unit) :=
 (bif (rInR a12 a15) then (bif (rCmp .eql (rGet zIIIIIIIIIIIII a12 a15).2.2.2.1 (0 : Int)) then some (true, ()) else (bif (rCmp .eql (rGet zIIIIIIIIIIIII a12 a15).2.2.2.1 (1 : Int)) then some (true, ()) else (bif (rCmp .eql (rGet zIIIIIIIIIIIII a12 a15).2.2.2.1 (2 : Int)) then (bif (rInR a11 (rGet zIIIIIIIIIIIII a12 a15).2.2.1) then some ((rCmp .eql (rGet zLIIlLIIlLILIlLIIIBllIIBBBIILIIIIIIIl a11 (rGet zIIIIIIIIIIIII a12 a15).2.2.1).2.2.2.1 (1 : Int)), ()) else none) else some (false, ())))) else none)
noncomputable def spec_LockOk (a0 : Int) (a1 : Int) (a2 : Int) (a3 : Int) (a4 : Int) : Option (Bool × Unit) :=
 ((spec_l03Secret a0).bind fun y0 => (bif y0.1 then ((spec_l01In a1 (0 : Int) (1000001 : Int)).bind fun y1 => (bif y1.1 then ((spec_l01In a2 (0 : Int) (2 : Int)).bind fun y2 => (bif y2.1 then ((spec_l01In a3 (0 : Int) (6 : Int)).bind fun y3 => (bif y3.1 then ((spec_l01In a4 (0 : Int) (20064 : Int)).bind fun y4 => some (y4.1, ())) else some (false, ()))) else some (false, ()))) else some (false, ()))) else some (false, ())))
noncomputable def spec_l09ParcelOk (a0 : Int) (a1 : Int) (a2 : Int) (a3 : Int) (a4 : Int) (a5 : Int) (a6 : Int) (a7 : Int) (a8 : Int) (a9 : Int) (a10 : Int) (a11 : (List ((List (Int × Int)) × (List (Int × Int)) × (List (Int × (List (Int)) × List (Int × Int × Int × Bool))) × Int × Int × Bool × Bool × Bool × Int × Int × List (Int × Int × Int × Int × Int × Int × Int)))) (a12 : (List (Int × Int × Int × Int × Int × Int × Int × Int × Int × Int × Int × Int × Int))) (a13 : (List (Int × Int × Int × Int × Int × Int × Bool))) (a14 : (List (Int × Int × Int × Int × Int × Int × Int))) (a15 : Int) : Option (Bool × Unit) :=
 (bif (rInR a12 a15) then ((spec_l01In (rGet zIIIIIIIIIIIII a12 a15).1 (1 : Int) (24 : Int)).bind fun y0 => (bif (Bool.not y0.1) then some (false, ()) else ((spec_l05Person (rGet zIIIIIIIIIIIII a12 a15).2.1).bind fun y1 => (bif (Bool.not y1.1) then some (false, ()) else ((spec_l01In (rGet zIIIIIIIIIIIII a12 a15).2.2.1 (0 : Int) (rArith .sub .i64 (rLen a11) (1 : Int))).bind fun y2 => (bif (Bool.not y2.1) then some (false, ()) else ((spec_l01In (rGet zIIIIIIIIIIIII a12 a15).2.2.2.1 (0 : Int) (5 : Int)).bind fun y3 => (bif (Bool.not y3.1) then some (false, ()) else (bif (rCmp .eql (rGet zIIIIIIIIIIIII a12 a15).2.2.2.1 (2 : Int)) then (bif (rInR a11 (rGet zIIIIIIIIIIIII a12 a15).2.2.1) then (bif (rCmp .neq (rGet zLIIlLIIlLILIlLIIIBllIIBBBIILIIIIIIIl a11 (rGet zIIIIIIIIIIIII a12 a15).2.2.1).2.2.2.2.2.2.2.2.1 (rArith .add .i64 a15 (1 : Int))) then some (false, ()) else ((spec_l09Unplaced a0 a1 a2 a3 a4 a5 a6 a7 a8 a9 a10 a11 a12 a13 a14 a15).bind fun y4 => (bif y4.1 then (bif (rCmp .eql (rGet zIIIIIIIIIIIII a12 a15).2.2.2.2.1 (0 : Int)) then (bif (rCmp .eql (rGet zIIIIIIIIIIIII a12 a15).2.2.2.2.2.1 (0 : Int)) then (bif (rCmp .eql (rGet zIIIIIIIIIIIII a12 a15).2.2.2.2.2.2.2.2.2.2.2.1 (0 : Int)) then (bif (rCmp .eql (rGet zIIIIIIIIIIIII a12 a15).2.2.2.2.2.2.2.2.2.2.2.2 (0 : Int)) then (lets (Bool.and (rCmp .eql (rGet zIIIIIIIIIIIII a12 a15).2.2.2.2.2.2.1 (0 : Int)) (Bool.and (rCmp .eql (rGet zIIIIIIIIIIIII a12 a15).2.2.2.2.2.2.2.1 (0 : Int)) (Bool.and (rCmp .eql (rGet zIIIIIIIIIIIII a12 a15).2.2.2.2.2.2.2.2.1 (0 : Int)) (Bool.and (rCmp .eql (rGet zIIIIIIIIIIIII a12 a15).2.2.2.2.2.2.2.2.2.1 (0 : Int)) (Bool.and (rCmp .eql (rGet zIIIIIIIIIIIII a12 a15).2.2.2.2.2.2.2.2.2.2.1 (0 : Int)) true))))) fun v5 => some (v5, ())) else some (false, ())) else some (false, ())) else some (false, ())) else some (false, ())) else ((spec_l01In (rGet zIIIIIIIIIIIII a12 a15).2.2.2.2.1 (0 : Int) a10).bind fun y5 => (bif (Bool.not y5.1) then some (false, ()) else ((spec_l01In (rGet zIIIIIIIIIIIII a12 a15).2.2.2.2.2.1 (0 : Int) a7).bind fun y6 => (bif (Bool.not y6.1) then some (false, ()) else ((spec_LockOk (rGet zIIIIIIIIIIIII a12 a15).2.2.2.2.2.2.1 (rGet zIIIIIIIIIIIII a12 a15).2.2.2.2.2.2.2.1 (rGet zIIIIIIIIIIIII a12 a15).2.2.2.2.2.2.2.2.1 (rGet zIIIIIIIIIIIII a12 a15).2.2.2.2.2.2.2.2.2.1 (rGet zIIIIIIIIIIIII a12 a15).2.2.2.2.2.2.2.2.2.2.1).bind fun y7 => (bif (Bool.not y7.1) then some (false, ()) else ((spec_SecretOf a0 a1 a2 a3 a4 a5 a6 a7 a8 a9 a10 a11 a12 a13 a14 (rArith .add .i64 a15 (1 : Int))).bind fun y8 => (bif (rCmp .neq (rGet zIIIIIIIIIIIII a12 a15).2.2.2.2.2.2.1 y8.1) then some (false, ()) else (bif (rCmp .eql (rGet zIIIIIIIIIIIII a12 a15).2.2.2.1 (4 : Int)) then ((spec_l05Person (rGet zIIIIIIIIIIIII a12 a15).2.2.2.2.2.2.2.2.2.2.2.1).bind fun y9 => (bif y9.1 then ((spec_l01In (rGet zIIIIIIIIIIIII a12 a15).2.2.2.2.2.2.2.2.2.2.2.2 (0 : Int) (rArith .add .i64 a4 (rArith .mul .i64 a6 a7))).bind fun y10 => some (y10.1, ())) else some (false, ()))) else (bif (rCmp .eql (rGet zIIIIIIIIIIIII a12 a15).2.2.2.2.2.2.2.2.2.2.2.1 (0 : Int)) then some ((rCmp .eql (rGet zIIIIIIIIIIIII a12 a15).2.2.2.2.2.2.2.2.2.2.2.2 (0 : Int)), ()) else some (false, ())))))))))))))) else none) else ((spec_l09Unplaced a0 a1 a2 a3 a4 a5 a6 a7 a8 a9 a10 a11 a12 a13 a14 a15).bind fun y4 => (bif y4.1 then (bif (rCmp .eql (rGet zIIIIIIIIIIIII a12 a15).2.2.2.2.1 (0 : Int)) then (bif (rCmp .eql (rGet zIIIIIIIIIIIII a12 a15).2.2.2.2.2.1 (0 : Int)) then (bif (rCmp .eql (rGet zIIIIIIIIIIIII a12 a15).2.2.2.2.2.2.2.2.2.2.2.1 (0 : Int)) then (bif (rCmp .eql (rGet zIIIIIIIIIIIII a12 a15).2.2.2.2.2.2.2.2.2.2.2.2 (0 : Int)) then (lets (Bool.and (rCmp .eql (rGet zIIIIIIIIIIIII a12 a15).2.2.2.2.2.2.1 (0 : Int)) (Bool.and (rCmp .eql (rGet zIIIIIIIIIIIII a12 a15).2.2.2.2.2.2.2.1 (0 : Int)) (Bool.and (rCmp .eql (rGet zIIIIIIIIIIIII a12 a15).2.2.2.2.2.2.2.2.1 (0 : Int)) (Bool.and (rCmp .eql (rGet zIIIIIIIIIIIII a12 a15).2.2.2.2.2.2.2.2.2.1 (0 : Int)) (Bool.and (rCmp .eql (rGet zIIIIIIIIIIIII a12 a15).2.2.2.2.2.2.2.2.2.2.1 (0 : Int)) true))))) fun v5 => some (v5, ())) else some (false, ())) else some (false, ())) else some (false, ())) else some (false, ())) else ((spec_l01In (rGet zIIIIIIIIIIIII a12 a15).2.2.2.2.1 (0 : Int) a10).bind fun y5 => (bif (Bool.not y5.1) then some (false, ()) else ((spec_l01In (rGet zIIIIIIIIIIIII a12 a15).2.2.2.2.2.1 (0 : Int) a7).bind fun y6 => (bif (Bool.not y6.1) then some (false, ()) else ((spec_LockOk (rGet zIIIIIIIIIIIII a12 a15).2.2.2.2.2.2.1 (rGet zIIIIIIIIIIIII a12 a15).2.2.2.2.2.2.2.1 (rGet zIIIIIIIIIIIII a12 a15).2.2.2.2.2.2.2.2.1 (rGet zIIIIIIIIIIIII a12 a15).2.2.2.2.2.2.2.2.2.1 (rGet zIIIIIIIIIIIII a12 a15).2.2.2.2.2.2.2.2.2.2.1).bind fun y7 => (bif (Bool.not y7.1) then some (false, ()) else ((spec_SecretOf a0 a1 a2 a3 a4 a5 a6 a7 a8 a9 a10 a11 a12 a13 a14 (rArith .add .i64 a15 (1 : Int))).bind fun y8 => (bif (rCmp .neq (rGet zIIIIIIIIIIIII a12 a15).2.2.2.2.2.2.1 y8.1) then some (false, ()) else (bif (rCmp .eql (rGet zIIIIIIIIIIIII a12 a15).2.2.2.1 (4 : Int)) then ((spec_l05Person (rGet zIIIIIIIIIIIII a12 a15).2.2.2.2.2.2.2.2.2.2.2.1).bind fun y9 => (bif y9.1 then ((spec_l01In (rGet zIIIIIIIIIIIII a12 a15).2.2.2.2.2.2.2.2.2.2.2.2 (0 : Int) (rArith .add .i64 a4 (rArith .mul .i64 a6 a7))).bind fun y10 => some (y10.1, ())) else some (false, ()))) else (bif (rCmp .eql (rGet zIIIIIIIIIIIII a12 a15).2.2.2.2.2.2.2.2.2.2.2.1 (0 : Int)) then some ((rCmp .eql (rGet zIIIIIIIIIIIII a12 a15).2.2.2.2.2.2.2.2.2.2.2.2 (0 : Int)), ()) else some (false, ())))))))))))))))))))))) else none)
noncomputable def spec_l09BoxesOk_b4 (k : Int × Int × Int × Int × Int × Int × Int × Int × Int × Int × Int × (List ((List (Int × Int)) × (List (Int × Int)) × (List (Int × (List (Int)) × List (Int × Int × Int × Bool))) × Int × Int × Bool × Bool × Bool × Int × Int × List (Int × Int × Int × Int × Int × Int × Int))) × (List (Int × Int × Int × Int × Int × Int × Int × Int × Int × Int × Int × Int × Int)) × (List (Int × Int × Int × Int × Int × Int × Bool)) × (List (Int × Int × Int × Int × Int × Int × Int)) × Int × Int × (List (Int × Int × Int × Bool)) × Unit) (x : Int × Int × Unit) : Option ((Int × Int × Unit) ⊕ (Bool × Unit ⊕ (Int × Unit ⊕ Empty))) :=
 (bif (rCmp .lss x.2.1 (rLen k.2.2.2.2.2.2.2.2.2.2.2.2.2.2.2.2.2.1)) then (bif (rInR k.2.2.2.2.2.2.2.2.2.2.2.2.2.2.2.2.2.1 x.2.1) then (bif (rCmp .eql (rGet zIIIB k.2.2.2.2.2.2.2.2.2.2.2.2.2.2.2.2.2.1 x.2.1).2.2.1 (0 : Int)) then some (.inl (x.1, (rArith .add .i64 x.2.1 (1 : Int)), ())) else (bif (rCmp .gtr (rGet zIIIB k.2.2.2.2.2.2.2.2.2.2.2.2.2.2.2.2.2.1 x.2.1).2.2.1 (rLen k.2.2.2.2.2.2.2.2.2.2.2.2.1)) then some (.inr (.inl (false, ()))) else (bif (rInR k.2.2.2.2.2.2.2.2.2.2.2.2.1 (rArith .sub .i64 (rGet zIIIB k.2.2.2.2.2.2.2.2.2.2.2.2.2.2.2.2.2.1 x.2.1).2.2.1 (1 : Int))) then (lets (rGet zIIIIIIIIIIIII k.2.2.2.2.2.2.2.2.2.2.2.2.1 (rArith .sub .i64 (rGet zIIIB k.2.2.2.2.2.2.2.2.2.2.2.2.2.2.2.2.2.1 x.2.1).2.2.1 (1 : Int))).2.2.2.2.2.2.2.2.2.1 fun v0 => (lets (rGet zIIIIIIIIIIIII k.2.2.2.2.2.2.2.2.2.2.2.2.1 (rArith .sub .i64 (rGet zIIIB k.2.2.2.2.2.2.2.2.2.2.2.2.2.2.2.2.2.1 x.2.1).2.2.1 (1 : Int))).2.2.2.2.2.2.2.2.2.2.1 fun v1 => (lets (rGet zIIIIIIIIIIIII k.2.2.2.2.2.2.2.2.2.2.2.2.1 (rArith .sub .i64 (rGet zIIIB k.2.2.2.2.2.2.2.2.2.2.2.2.2.2.2.2.2.1 x.2.1).2.2.1 (1 : Int))).2.2.2.2.2.2.2.2.2.2.2.1 fun v2 => (lets (rGet zIIIIIIIIIIIII k.2.2.2.2.2.2.2.2.2.2.2.2.1 (rArith .sub .i64 (rGet zIIIB k.2.2.2.2.2.2.2.2.2.2.2.2.2.2.2.2.2.1 x.2.1).2.2.1 (1 : Int))).2.2.2.2.2.2.2.2.2.2.2.2 fun v3 => (lets (rCmp .neq (rGet zIIIIIIIIIIIII k.2.2.2.2.2.2.2.2.2.2.2.2.1 (rArith .sub .i64 (rGet zIIIB k.2.2.2.2.2.2.2.2.2.2.2.2.2.2.2.2.2.1 x.2.1).2.2.1 (1 : Int))).2.2.1 k.2.2.2.2.2.2.2.2.2.2.2.2.2.2.2.1) fun v4 => (bif v4 then some (.inr (.inl (false, ()))) else (bif (rInR k.2.2.2.2.2.2.2.2.2.2.2.2.2.2.2.2.2.1 x.2.1) then (lets (rCmp .neq (rGet zIIIIIIIIIIIII k.2.2.2.2.2.2.2.2.2.2.2.2.1 (rArith .sub .i64 (rGet zIIIB k.2.2.2.2.2.2.2.2.2.2.2.2.2.2.2.2.2.1 x.2.1).2.2.1 (1 : Int))).1 (rGet zIIIB k.2.2.2.2.2.2.2.2.2.2.2.2.2.2.2.2.2.1 x.2.1).2.1) fun v5 => (bif v5 then some (.inr (.inl (false, ()))) else (lets (rCmp .neq (rGet zIIIIIIIIIIIII k.2.2.2.2.2.2.2.2.2.2.2.2.1 (rArith .sub .i64 (rGet zIIIB k.2.2.2.2.2.2.2.2.2.2.2.2.2.2.2.2.2.1 x.2.1).2.2.1 (1 : Int))).2.2.2.1 (2 : Int)) fun v6 => (bif v6 then (lets (rCmp .neq (rGet zIIIIIIIIIIIII k.2.2.2.2.2.2.2.2.2.2.2.2.1 (rArith .sub .i64 (rGet zIIIB k.2.2.2.2.2.2.2.2.2.2.2.2.2.2.2.2.2.1 x.2.1).2.2.1 (1 : Int))).2.2.2.1 (3 : Int)) fun v7 => (bif v7 then some (.inr (.inl (false, ()))) else (lets (rCmp .eql (rGet zIIIIIIIIIIIII k.2.2.2.2.2.2.2.2.2.2.2.2.1 (rArith .sub .i64 (rGet zIIIB k.2.2.2.2.2.2.2.2.2.2.2.2.2.2.2.2.2.1 x.2.1).2.2.1 (1 : Int))).2.2.2.1 (2 : Int)) fun v8 => (bif v8 then (bif (rInR k.2.2.2.2.2.2.2.2.2.2.2.2.2.2.2.2.2.1 x.2.1) then (bif (rGet zIIIB k.2.2.2.2.2.2.2.2.2.2.2.2.2.2.2.2.2.1 x.2.1).2.2.2 then some (.inr (.inl (false, ()))) else some (.inl ((rArith .add .i64 x.1 (1 : Int)), (rArith .add .i64 x.2.1 (1 : Int)), ()))) else none) else some (.inl ((rArith .add .i64 x.1 (1 : Int)), (rArith .add .i64 x.2.1 (1 : Int)), ())))))) else (lets (rCmp .eql (rGet zIIIIIIIIIIIII k.2.2.2.2.2.2.2.2.2.2.2.2.1 (rArith .sub .i64 (rGet zIIIB k.2.2.2.2.2.2.2.2.2.2.2.2.2.2.2.2.2.1 x.2.1).2.2.1 (1 : Int))).2.2.2.1 (2 : Int)) fun v7 => (bif v7 then (bif (rInR k.2.2.2.2.2.2.2.2.2.2.2.2.2.2.2.2.2.1 x.2.1) then (bif (rGet zIIIB k.2.2.2.2.2.2.2.2.2.2.2.2.2.2.2.2.2.1 x.2.1).2.2.2 then some (.inr (.inl (false, ()))) else some (.inl ((rArith .add .i64 x.1 (1 : Int)), (rArith .add .i64 x.2.1 (1 : Int)), ()))) else none) else some (.inl ((rArith .add .i64 x.1 (1 : Int)), (rArith .add .i64 x.2.1 (1 : Int)), ())))))))) else none))))))) else none))) else none) else some (.inr (.inr (.inl (x.1, ())))))
noncomputable def spec_l09BoxesOk_l4 (k : Int × Int × Int × Int × Int × Int × Int × Int × Int × Int × Int × (List ((List (Int × Int)) × (List (Int × Int)) × (List (Int × (List (Int)) × List (Int × Int × Int × Bool))) × Int × Int × Bool × Bool × Bool × Int × Int × List (Int × Int × Int × Int × Int × Int × Int))) × (List (Int × Int × Int × Int × Int × Int × Int × Int × Int × Int × Int × Int × Int)) × (List (Int × Int × Int × Int × Int × Int × Bool)) × (List (Int × Int × Int × Int × Int × Int × Int)) × Int × Int × (List (Int × Int × Int × Bool)) × Unit) (x : Int × Int × Unit) : Option (Bool × Unit ⊕ (Int × Unit ⊕ Empty)) := iter (spec_l09BoxesOk_b4 k) big x
noncomputable def spec_l09BoxesOk_b2 (k : Int × Int × Int × Int × Int × Int × Int × Int × Int × Int × Int × (List ((List (Int × Int)) × (List (Int × Int)) × (List (Int × (List (Int)) × List (Int × Int × Int × Bool))) × Int × Int × Bool × Bool × Bool × Int × Int × List (Int × Int × Int × Int × Int × Int × Int))) × (List (Int × Int × Int × Int × Int × Int × Int × Int × Int × Int × Int × Int × Int)) × (List (Int × Int × Int × Int × Int × Int × Bool)) × (List (Int × Int × Int × Int × Int × Int × Int)) × Int × Unit) (x : Int × Int × Unit) : Option ((Int × Int × Unit) ⊕ (Bool × Unit ⊕ (Int × Unit ⊕ Empty))) :=
 (bif (rInR k.2.2.2.2.2.2.2.2.2.2.2.1 k.2.2.2.2.2.2.2.2.2.2.2.2.2.2.2.1) then (bif (rCmp .lss x.2.1 (rLen (rGet zLIIlLIIlLILIlLIIIBllIIBBBIILIIIIIIIl k.2.2.2.2.2.2.2.2.2.2.2.1 k.2.2.2.2.2.2.2.2.2.2.2.2.2.2.2.1).2.2.1)) then (bif (rInR k.2.2.2.2.2.2.2.2.2.2.2.1 k.2.2.2.2.2.2.2.2.2.2.2.2.2.2.2.1) then (bif (rInR (rGet zLIIlLIIlLILIlLIIIBllIIBBBIILIIIIIIIl k.2.2.2.2.2.2.2.2.2.2.2.1 k.2.2.2.2.2.2.2.2.2.2.2.2.2.2.2.1).2.2.1 x.2.1) then ((spec_l09BoxesOk_l4 (k.1, k.2.1, k.2.2.1, k.2.2.2.1, k.2.2.2.2.1, k.2.2.2.2.2.1, k.2.2.2.2.2.2.1, k.2.2.2.2.2.2.2.1, k.2.2.2.2.2.2.2.2.1, k.2.2.2.2.2.2.2.2.2.1, k.2.2.2.2.2.2.2.2.2.2.1, k.2.2.2.2.2.2.2.2.2.2.2.1, k.2.2.2.2.2.2.2.2.2.2.2.2.1, k.2.2.2.2.2.2.2.2.2.2.2.2.2.1, k.2.2.2.2.2.2.2.2.2.2.2.2.2.2.1, k.2.2.2.2.2.2.2.2.2.2.2.2.2.2.2.1, x.2.1, (rGet zILIlLIIIBl (rGet zLIIlLIIlLILIlLIIIBllIIBBBIILIIIIIIIl k.2.2.2.2.2.2.2.2.2.2.2.1 k.2.2.2.2.2.2.2.2.2.2.2.2.2.2.2.1).2.2.1 x.2.1).2.2, ()) (x.1, (0 : Int), ())).bind fun q0 => (Sum.elim (fun y1 => some (.inr (.inl (y1.1, ())))) (fun q2 => (Sum.elim (fun y3 => some (.inl (y3.1, (rArith .add .i64 x.2.1 (1 : Int)), ()))) (fun q4 => (Empty.elim q4)) q2)) q0)) else none) else none) else some (.inr (.inr (.inl (x.1, ()))))) else none)
noncomputable def spec_l09BoxesOk_l2 (k : Int × Int × Int × Int × Int × Int × Int × Int × Int × Int × Int × (List ((List (Int × Int)) × (List (Int × Int)) × (List (Int × (List (Int)) × List (Int × Int × Int × Bool))) × Int × Int × Bool × Bool × Bool × Int × Int × List (Int × Int × Int × Int × Int × Int × Int))) × (List (Int × Int × Int × Int × Int × Int × Int × Int × Int × Int × Int × Int × Int)) × (List (Int × Int × Int × Int × Int × Int × Bool)) × (List (Int × Int × Int × Int × Int × Int × Int)) × Int × Unit) (x : Int × Int × Unit) : Option (Bool × Unit ⊕ (Int × Unit ⊕ Empty)) := iter (spec_l09BoxesOk_b2 k) big x
noncomputable def spec_l09BoxesOk_b0 (k : Int × Int × Int × Int × Int × Int × Int × Int × Int × Int × Int × (List ((List (Int × Int)) × (List (Int × Int)) × (List (Int × (List (Int)) × List (Int × Int × Int × Bool))) × Int × Int × Bool × Bool × Bool × Int × Int × List (Int × Int × Int × Int × Int × Int × Int))) × (List (Int × Int × Int × Int × Int × Int × Int × Int × Int × Int × Int × Int × Int)) × (List (Int × Int × Int × Int × Int × Int × Bool)) × (List (Int × Int × Int × Int × Int × Int × Int)) × Unit) (x : Int × Int × Unit) : Option ((Int × Int × Unit) ⊕ (Bool × Unit ⊕ (Int × Unit ⊕ Empty))) :=
 (bif (rCmp .lss x.2.1 (rLen k.2.2.2.2.2.2.2.2.2.2.2.1)) then ((spec_l09BoxesOk_l2 (k.1, k.2.1, k.2.2.1, k.2.2.2.1, k.2.2.2.2.1, k.2.2.2.2.2.1, k.2.2.2.2.2.2.1, k.2.2.2.2.2.2.2.1, k.2.2.2.2.2.2.2.2.1, k.2.2.2.2.2.2.2.2.2.1, k.2.2.2.2.2.2.2.2.2.2.1, k.2.2.2.2.2.2.2.2.2.2.2.1, k.2.2.2.2.2.2.2.2.2.2.2.2.1, k.2.2.2.2.2.2.2.2.2.2.2.2.2.1, k.2.2.2.2.2.2.2.2.2.2.2.2.2.2.1, x.2.1, ()) (x.1, (0 : Int), ())).bind fun q0 => (Sum.elim (fun y1 => some (.inr (.inl (y1.1, ())))) (fun q2 => (Sum.elim (fun y3 => some (.inl (y3.1, (rArith .add .i64 x.2.1 (1 : Int)), ()))) (fun q4 => (Empty.elim q4)) q2)) q0)) else some (.inr (.inr (.inl (x.1, ())))))
noncomputable def spec_l09BoxesOk_l0 (k : Int × Int × Int × Int × Int × Int × Int × Int × Int × Int × Int × (List ((List (Int × Int)) × (List (Int × Int)) × (List (Int × (List (Int)) × List (Int × Int × Int × Bool))) × Int × Int × Bool × Bool × Bool × Int × Int × List (Int × Int × Int × Int × Int × Int × Int))) × (List (Int × Int × Int × Int × Int × Int × Int × Int × Int × Int × Int × Int × Int)) × (List (Int × Int × Int × Int × Int × Int × Bool)) × (List (Int × Int × Int × Int × Int × Int × Int)) × Unit) (x : Int × Int × Unit) : Option (Bool × Unit ⊕ (Int × Unit ⊕ Empty)) := iter (spec_l09BoxesOk_b0 k) big x
noncomputable def spec_l09BoxesOk_b6 (k : Int × Int × Int × Int × Int × Int × Int × Int × Int × Int × Int × (List ((List (Int × Int)) × (List (Int × Int)) × (List (Int × (List (Int)) × List (Int × Int × Int × Bool))) × Int × Int × Bool × Bool × Bool × Int × Int × List (Int × Int × Int × Int × Int × Int × Int))) × (List (Int × Int × Int × Int × Int × Int × Int × Int × Int × Int × Int × Int × Int)) × (List (Int × Int × Int × Int × Int × Int × Bool)) × (List (Int × Int × Int × Int × Int × Int × Int)) × Unit) (x : Int × Int × Unit) : Option ((Int × Int × Unit) ⊕ (Int × Unit ⊕ Empty)) :=
 (bif (rCmp .lss x.2.1 (rLen k.2.2.2.2.2.2.2.2.2.2.2.2.1)) then (bif (rInR k.2.2.2.2.2.2.2.2.2.2.2.2.1 x.2.1) then (bif (rCmp .eql (rGet zIIIIIIIIIIIII k.2.2.2.2.2.2.2.2.2.2.2.2.1 x.2.1).2.2.2.1 (2 : Int)) then some (.inl ((rArith .sub .i64 x.1 (1 : Int)), (rArith .add .i64 x.2.1 (1 : Int)), ())) else (bif (rInR k.2.2.2.2.2.2.2.2.2.2.2.2.1 x.2.1) then (bif (rCmp .eql (rGet zIIIIIIIIIIIII k.2.2.2.2.2.2.2.2.2.2.2.2.1 x.2.1).2.2.2.1 (3 : Int)) then some (.inl ((rArith .sub .i64 x.1 (1 : Int)), (rArith .add .i64 x.2.1 (1 : Int)), ())) else some (.inl (x.1, (rArith .add .i64 x.2.1 (1 : Int)), ()))) else none)) else none) else some (.inr (.inl (x.1, ()))))
noncomputable def spec_l09BoxesOk_l6 (k : Int × Int × Int × Int × Int × Int × Int × Int × Int × Int × Int × (List ((List (Int × Int)) × (List (Int × Int)) × (List (Int × (List (Int)) × List (Int × Int × Int × Bool))) × Int × Int × Bool × Bool × Bool × Int × Int × List (Int × Int × Int × Int × Int × Int × Int))) × (List (Int × Int × Int × Int × Int × Int × Int × Int × Int × Int × Int × Int × Int)) × (List (Int × Int × Int × Int × Int × Int × Bool)) × (List (Int × Int × Int × Int × Int × Int × Int)) × Unit) (x : Int × Int × Unit) : Option (Int × Unit ⊕ Empty) := iter (spec_l09BoxesOk_b6 k) big x
noncomputable def spec_l09BoxesOk (a0 : Int) (a1 : Int) (a2 : Int) (a3 : Int) (a4 : Int) (a5 : Int) (a6 : Int) (a7 : Int) (a8 : Int) (a9 : Int) (a10 : Int) (a11 : (List ((List (Int × Int)) × (List (Int × Int)) × (List (Int × (List (Int)) × List (Int × Int × Int × Bool))) × Int × Int × Bool × Bool × Bool × Int × Int × List (Int × Int × Int × Int × Int × Int × Int)))) (a12 : (List (Int × Int × Int × Int × Int × Int × Int × Int × Int × Int × Int × Int × Int))) (a13 : (List (Int × Int × Int × Int × Int × Int × Bool))) (a14 : (List (Int × Int × Int × Int × Int × Int × Int))) : Option (Bool × Unit) :=
 ((spec_l09BoxesOk_l0 (a0, a1, a2, a3, a4, a5, a6, a7, a8, a9, a10, a11, a12, a13, a14, ()) ((0 : Int), (0 : Int), ())).bind fun q0 => (Sum.elim (fun y1 => some (y1.1, ())) (fun q2 => (Sum.elim (fun y3 => ((spec_l09BoxesOk_l6 (a0, a1, a2, a3, a4, a5, a6, a7, a8, a9, a10, a11, a12, a13, a14, ()) (y3.1, (0 : Int), ())).bind fun q4 => (Sum.elim (fun y5 => some ((rCmp .eql y5.1 (0 : Int)), ())) (fun q6 => (Empty.elim q6)) q4))) (fun q4 => (Empty.elim q4)) q2)) q0))
noncomputable def spec_l09Load_b0 (k : Int × Int × Int × Int × Int × Int × Int × Int × Int × Int × Int × (List ((List (Int × Int)) × (List (Int × Int)) × (List (Int × (List (Int)) × List (Int × Int × Int × Bool))) × Int × Int × Bool × Bool × Bool × Int × Int × List (Int × Int × Int × Int × Int × Int × Int))) × (List (Int × Int × Int × Int × Int × Int × Int × Int × Int × Int × Int × Int × Int)) × (List (Int × Int × Int × Int × Int × Int × Bool)) × (List (Int × Int × Int × Int × Int × Int × Int)) × Unit) (x : Int × Int × Unit) : Option ((Int × Int × Unit) ⊕ (Int × Unit ⊕ Empty)) :=
 (bif (rCmp .lss x.2.1 (rLen k.2.2.2.2.2.2.2.2.2.2.2.2.1)) then (bif (rInR k.2.2.2.2.2.2.2.2.2.2.2.2.1 x.2.1) then (bif (rCmp .neq (rGet zIIIIIIIIIIIII k.2.2.2.2.2.2.2.2.2.2.2.2.1 x.2.1).2.2.2.1 (0 : Int)) then ((spec_l09Unplaced k.1 k.2.1 k.2.2.1 k.2.2.2.1 k.2.2.2.2.1 k.2.2.2.2.2.1 k.2.2.2.2.2.2.1 k.2.2.2.2.2.2.2.1 k.2.2.2.2.2.2.2.2.1 k.2.2.2.2.2.2.2.2.2.1 k.2.2.2.2.2.2.2.2.2.2.1 k.2.2.2.2.2.2.2.2.2.2.2.1 k.2.2.2.2.2.2.2.2.2.2.2.2.1 k.2.2.2.2.2.2.2.2.2.2.2.2.2.1 k.2.2.2.2.2.2.2.2.2.2.2.2.2.2.1 x.2.1).bind fun y0 => (bif y0.1 then (bif (rInR k.2.2.2.2.2.2.2.2.2.2.2.2.1 x.2.1) then some (.inl ((rArith .add .i64 x.1 (rGet zIIIIIIIIIIIII k.2.2.2.2.2.2.2.2.2.2.2.2.1 x.2.1).1), (rArith .add .i64 x.2.1 (1 : Int)), ())) else none) else some (.inl (x.1, (rArith .add .i64 x.2.1 (1 : Int)), ())))) else some (.inl (x.1, (rArith .add .i64 x.2.1 (1 : Int)), ()))) else none) else some (.inr (.inl (x.1, ()))))
noncomputable def spec_l09Load_l0 (k : Int × Int × Int × Int × Int × Int × Int × Int × Int × Int × Int × (List ((List (Int × Int)) × (List (Int × Int)) × (List (Int × (List (Int)) × List (Int × Int × Int × Bool))) × Int × Int × Bool × Bool × Bool × Int × Int × List (Int × Int × Int × Int × Int × Int × Int))) × (List (Int × Int × Int × Int × Int × Int × Int × Int × Int × Int × Int × Int × Int)) × (List (Int × Int × Int × Int × Int × Int × Bool)) × (List (Int × Int × Int × Int × Int × Int × Int)) × Unit) (x : Int × Int × Unit) : Option (Int × Unit ⊕ Empty) := iter (spec_l09Load_b0 k) big x
noncomputable def spec_l09Load (a0 : Int) (a1 : Int) (a2 : Int) (a3 : Int) (a4 : Int) (a5 : Int) (a6 : Int) (a7 : Int) (a8 : Int) (a9 : Int) (a10 : Int) (a11 : (List ((List (Int × Int)) × (List (Int × Int)) × (List (Int × (List (Int)) × List (Int × Int × Int × Bool))) × Int × Int × Bool × Bool × Bool × Int × Int × List (Int × Int × Int × Int × Int × Int × Int)))) (a12 : (List (Int × Int × Int × Int × Int × Int × Int × Int × Int × Int × Int × Int × Int))) (a13 : (List (Int × Int × Int × Int × Int × Int × Bool))) (a14 : (List (Int × Int × Int × Int × Int × Int × Int))) : Option (Int × Unit) :=
 ((spec_l09Load_l0 (a0, a1, a2, a3, a4, a5, a6, a7, a8, a9, a10, a11, a12, a13, a14, ()) ((0 : Int), (0 : Int), ())).bind fun q0 => (Sum.elim (fun y1 => some (y1.1, ())) (fun q2 => (Empty.elim q2)) q0))
noncomputable def spec_NetworkOk_b0 (k : Int × Int × Int × Int × Int × Int × Int × Int × Int × Int × Int × (List ((List (Int × Int)) × (List (Int × Int)) × (List (Int × (List (Int)) × List (Int × Int × Int × Bool))) × Int × Int × Bool × Bool × Bool × Int × Int × List (Int × Int × Int × Int × Int × Int × Int))) × (List (Int × Int × Int × Int × Int × Int × Int × Int × Int × Int × Int × Int × Int)) × (List (Int × Int × Int × Int × Int × Int × Bool)) × (List (Int × Int × Int × Int × Int × Int × Int)) × Unit) (x : Int × Unit) : Option ((Int × Unit) ⊕ (Bool × Unit ⊕ (Unit ⊕ Empty))) :=
 (bif (rCmp .lss x.1 (rLen k.2.2.2.2.2.2.2.2.2.2.2.1)) then ((spec_l09SiteOk k.1 k.2.1 k.2.2.1 k.2.2.2.1 k.2.2.2.2.1 k.2.2.2.2.2.1 k.2.2.2.2.2.2.1 k.2.2.2.2.2.2.2.1 k.2.2.2.2.2.2.2.2.1 k.2.2.2.2.2.2.2.2.2.1 k.2.2.2.2.2.2.2.2.2.2.1 k.2.2.2.2.2.2.2.2.2.2.2.1 k.2.2.2.2.2.2.2.2.2.2.2.2.1 k.2.2.2.2.2.2.2.2.2.2.2.2.2.1 k.2.2.2.2.2.2.2.2.2.2.2.2.2.2.1 x.1).bind fun y0 => (bif (Bool.not y0.1) then some (.inr (.inl (false, ()))) else some (.inl ((rArith .add .i64 x.1 (1 : Int)), ())))) else some (.inr (.inr (.inl (())))))
noncomputable def spec_NetworkOk_l0 (k : Int × Int × Int × Int × Int × Int × Int × Int × Int × Int × Int × (List ((List (Int × Int)) × (List (Int × Int)) × (List (Int × (List (Int)) × List (Int × Int × Int × Bool))) × Int × Int × Bool × Bool × Bool × Int × Int × List (Int × Int × Int × Int × Int × Int × Int))) × (List (Int × Int × Int × Int × Int × Int × Int × Int × Int × Int × Int × Int × Int)) × (List (Int × Int × Int × Int × Int × Int × Bool)) × (List (Int × Int × Int × Int × Int × Int × Int)) × Unit) (x : Int × Unit) : Option (Bool × Unit ⊕ (Unit ⊕ Empty)) := iter (spec_NetworkOk_b0 k) big x
noncomputable def spec_NetworkOk_b2 (k : Int × Int × Int × Int × Int × Int × Int × Int × Int × Int × Int × (List ((List (Int × Int)) × (List (Int × Int)) × (List (Int × (List (Int)) × List (Int × Int × Int × Bool))) × Int × Int × Bool × Bool × Bool × Int × Int × List (Int × Int × Int × Int × Int × Int × Int))) × (List (Int × Int × Int × Int × Int × Int × Int × Int × Int × Int × Int × Int × Int)) × (List (Int × Int × Int × Int × Int × Int × Bool)) × (List (Int × Int × Int × Int × Int × Int × Int)) × Unit) (x : Int × Unit) : Option ((Int × Unit) ⊕ (Bool × Unit ⊕ (Unit ⊕ Empty))) :=
 (bif (rCmp .lss x.1 (rLen k.2.2.2.2.2.2.2.2.2.2.2.2.1)) then ((spec_l09ParcelOk k.1 k.2.1 k.2.2.1 k.2.2.2.1 k.2.2.2.2.1 k.2.2.2.2.2.1 k.2.2.2.2.2.2.1 k.2.2.2.2.2.2.2.1 k.2.2.2.2.2.2.2.2.1 k.2.2.2.2.2.2.2.2.2.1 k.2.2.2.2.2.2.2.2.2.2.1 k.2.2.2.2.2.2.2.2.2.2.2.1 k.2.2.2.2.2.2.2.2.2.2.2.2.1 k.2.2.2.2.2.2.2.2.2.2.2.2.2.1 k.2.2.2.2.2.2.2.2.2.2.2.2.2.2.1 x.1).bind fun y0 => (bif (Bool.not y0.1) then some (.inr (.inl (false, ()))) else some (.inl ((rArith .add .i64 x.1 (1 : Int)), ())))) else some (.inr (.inr (.inl (())))))
noncomputable def spec_NetworkOk_l2 (k : Int × Int × Int × Int × Int × Int × Int × Int × Int × Int × Int × (List ((List (Int × Int)) × (List (Int × Int)) × (List (Int × (List (Int)) × List (Int × Int × Int × Bool))) × Int × Int × Bool × Bool × Bool × Int × Int × List (Int × Int × Int × Int × Int × Int × Int))) × (List (Int × Int × Int × Int × Int × Int × Int × Int × Int × Int × Int × Int × Int)) × (List (Int × Int × Int × Int × Int × Int × Bool)) × (List (Int × Int × Int × Int × Int × Int × Int)) × Unit) (x : Int × Unit) : Option (Bool × Unit ⊕ (Unit ⊕ Empty)) := iter (spec_NetworkOk_b2 k) big x
noncomputable def spec_NetworkOk (a0 : Int) (a1 : Int) (a2 : Int) (a3 : Int) (a4 : Int) (a5 : Int) (a6 : Int) (a7 : Int) (a8 : Int) (a9 : Int) (a10 : Int) (a11 : (List ((List (Int × Int)) × (List (Int × Int)) × (List (Int × (List (Int)) × List (Int × Int × Int × Bool))) × Int × Int × Bool × Bool × Bool × Int × Int × List (Int × Int × Int × Int × Int × Int × Int)))) (a12 : (List (Int × Int × Int × Int × Int × Int × Int × Int × Int × Int × Int × Int × Int))) (a13 : (List (Int × Int × Int × Int × Int × Int × Bool))) (a14 : (List (Int × Int × Int × Int × Int × Int × Int))) : Option (Bool × Unit) :=
 ((spec_TermsOk a0 a1 a2 a3 a4 a5 a6 a7).bind fun y0 => (bif (Bool.not y0.1) then some (false, ()) else ((spec_l01In a8 (0 : Int) (1000 : Int)).bind fun y1 => (bif (Bool.not y1.1) then some (false, ()) else ((spec_l03Secret a9).bind fun y2 => (bif (Bool.not y2.1) then some (false, ()) else ((spec_l01In a10 (0 : Int) (20000 : Int)).bind fun y3 => (bif (Bool.not y3.1) then some (false, ()) else ((spec_l01In (rLen a11) (1 : Int) (3 : Int)).bind fun y4 => (bif (Bool.not y4.1) then some (false, ()) else (bif (rCmp .gtr (rLen a12) (12 : Int)) then some (false, ()) else ((spec_GrantsOk a13).bind fun y5 => (bif (Bool.not y5.1) then some (false, ()) else ((spec_JournalOk a14).bind fun y6 => (bif (Bool.not y6.1) then some (false, ()) else ((spec_NetworkOk_l0 (a0, a1, a2, a3, a4, a5, a6, a7, a8, a9, a10, a11, a12, a13, a14, ()) ((0 : Int), ())).bind fun q7 => (Sum.elim (fun y8 => some (y8.1, ())) (fun q9 => (Sum.elim (fun y10 => ((spec_NetworkOk_l2 (a0, a1, a2, a3, a4, a5, a6, a7, a8, a9, a10, a11, a12, a13, a14, ()) ((0 : Int), ())).bind fun q11 => (Sum.elim (fun y12 => some (y12.1, ())) (fun q13 => (Sum.elim (fun y14 => ((spec_l09BoxesOk a0 a1 a2 a3 a4 a5 a6 a7 a8 a9 a10 a11 a12 a13 a14).bind fun y15 => (bif y15.1 then ((spec_l09Load a0 a1 a2 a3 a4 a5 a6 a7 a8 a9 a10 a11 a12 a13 a14).bind fun y16 => some ((rCmp .leq y16.1 a8), ())) else some (false, ())))) (fun q15 => (Empty.elim q15)) q13)) q11))) (fun q11 => (Empty.elim q11)) q9)) q7)))))))))))))))))
noncomputable def impl_personOk (a0 : Int) : Option (Bool × Unit) :=
 ((impl_within a0 (1 : Int) (40 : Int)).bind fun y0 => some (y0.1, ()))
noncomputable def impl_GrantOk (a0 : Int) (a1 : Int) (a2 : Int) (a3 : Int) (a4 : Int) (a5 : Int) (a6 : Bool) : Option (Bool × Unit) :=
 ((impl_personOk a0).bind fun y0 => (bif y0.1 then ((impl_personOk a1).bind fun y1 => (bif y1.1 then (bif (rCmp .neq a0 a1) then ((impl_within a2 (0 : Int) (999 : Int)).bind fun y2 => (bif y2.1 then ((impl_within a3 (0 : Int) (5 : Int)).bind fun y3 => (bif y3.1 then ((impl_timeOk a4).bind fun y4 => (bif y4.1 then ((impl_timeOk a5).bind fun y5 => (bif y5.1 then some ((rCmp .lss a4 a5), ()) else some (false, ()))) else some (false, ()))) else some (false, ()))) else some (false, ()))) else some (false, ())) else some (false, ()))) else some (false, ())))
noncomputable def impl_GrantsOk_1 (a0 : Int) (a1 : Int) (a2 : Int) (a3 : Int) (a4 : Int) (a5 : Int) (a6 : Bool) : Option (Bool × Unit) :=
 ((impl_GrantOk a0 a1 a2 a3 a4 a5 a6).bind fun y0 => some ((Bool.not y0.1), ()))
noncomputable def slices_IndexFunc___impl_Grant_impl_Grant___impl_GrantsOk_1_b0 (k : (List (Int × Int × Int × Int × Int × Int × Bool)) × Int × Unit) (x : Int × Unit) : Option ((Int × Unit) ⊕ (Int × Unit ⊕ (Unit ⊕ Empty))) :=
 (bif (rCmp .lss x.1 k.2.1) then (bif (rInR k.1 x.1) then ((impl_GrantsOk_1 (rGet zIIIIIIB k.1 x.1).1 (rGet zIIIIIIB k.1 x.1).2.1 (rGet zIIIIIIB k.1 x.1).2.2.1 (rGet zIIIIIIB k.1 x.1).2.2.2.1 (rGet zIIIIIIB k.1 x.1).2.2.2.2.1 (rGet zIIIIIIB k.1 x.1).2.2.2.2.2.1 (rGet zIIIIIIB k.1 x.1).2.2.2.2.2.2).bind fun y0 => (bif y0.1 then some (.inr (.inl (x.1, ()))) else some (.inl ((rArith .add .i64 x.1 (1 : Int)), ())))) else none) else some (.inr (.inr (.inl (())))))
noncomputable def slices_IndexFunc___impl_Grant_impl_Grant___impl_GrantsOk_1_l0 (k : (List (Int × Int × Int × Int × Int × Int × Bool)) × Int × Unit) (x : Int × Unit) : Option (Int × Unit ⊕ (Unit ⊕ Empty)) := iter (slices_IndexFunc___impl_Grant_impl_Grant___impl_GrantsOk_1_b0 k) big x
noncomputable def slices_IndexFunc___impl_Grant_impl_Grant___impl_GrantsOk_1 (a0 : (List (Int × Int × Int × Int × Int × Int × Bool))) : Option (Int × Unit) :=
 ((slices_IndexFunc___impl_Grant_impl_Grant___impl_GrantsOk_1_l0 (a0, (rLen a0), ()) ((0 : Int), ())).bind fun q0 => (Sum.elim (fun y1 => some (y1.1, ())) (fun q2 => (Sum.elim (fun y3 => some ((-1 : Int), ())) (fun q4 => (Empty.elim q4)) q2)) q0))
noncomputable def slices_ContainsFunc___impl_Grant_impl_Grant___impl_GrantsOk_1 (a0 : (List (Int × Int × Int × Int × Int × Int × Bool))) : Option (Bool × Unit) :=
 ((slices_IndexFunc___impl_Grant_impl_Grant___impl_GrantsOk_1 a0).bind fun y0 => some ((rCmp .geq y0.1 (0 : Int)), ()))
noncomputable def impl_GrantsOk (a0 : (List (Int × Int × Int × Int × Int × Int × Bool))) : Option (Bool × Unit) :=
 (bif (rCmp .leq (rLen a0) (30 : Int)) then ((slices_ContainsFunc___impl_Grant_impl_Grant___impl_GrantsOk_1 a0).bind fun y0 => some ((Bool.not y0.1), ())) else some (false, ()))
noncomputable def impl_ColumnOk_b0 (k : Int × (List (Int)) × (List (Int × Int × Int × Bool)) × (List (Int)) × Int × Unit) (x : Int × Unit) : Option ((Int × Unit) ⊕ (Bool × Unit ⊕ (Unit ⊕ Empty))) :=
 (bif (rCmp .lss x.1 k.2.2.2.2.1) then (bif (rInR k.2.2.2.1 x.1) then ((impl_within (rGet zI k.2.2.2.1 x.1) (1 : Int) (rArith .sub .i64 k.1 (1 : Int))).bind fun y0 => (bif (Bool.not y0.1) then some (.inr (.inl (false, ()))) else (bif (rCmp .gtr x.1 (0 : Int)) then (bif (rInR k.2.1 (rArith .sub .i64 x.1 (1 : Int))) then (bif (rCmp .leq (rGet zI k.2.2.2.1 x.1) (rGet zI k.2.1 (rArith .sub .i64 x.1 (1 : Int)))) then some (.inr (.inl (false, ()))) else some (.inl ((rArith .add .i64 x.1 (1 : Int)), ()))) else none) else some (.inl ((rArith .add .i64 x.1 (1 : Int)), ()))))) else none) else some (.inr (.inr (.inl (())))))
noncomputable def impl_ColumnOk_l0 (k : Int × (List (Int)) × (List (Int × Int × Int × Bool)) × (List (Int)) × Int × Unit) (x : Int × Unit) : Option (Bool × Unit ⊕ (Unit ⊕ Empty)) := iter (impl_ColumnOk_b0 k) big x
noncomputable def impl_ColumnOk_b2 (k : Int × (List (Int)) × (List (Int × Int × Int × Bool)) × (List (Int × Int × Int × Bool)) × Int × Unit) (x : Int × (List (Int × Bool)) × (List (Int × Bool)) × Int × Unit) : Option ((Int × (List (Int × Bool)) × (List (Int × Bool)) × Int × Unit) ⊕ (Bool × Unit ⊕ (Int × (List (Int × Bool)) × Unit ⊕ Empty))) :=
 (bif (rCmp .lss x.2.2.2.1 k.2.2.2.2.1) then (bif (rInR k.2.2.2.1 x.2.2.2.1) then (bif (rCmp .neq (rGet zIIIB k.2.2.2.1 x.2.2.2.1).1 x.1) then some (.inr (.inl (false, ()))) else ((impl_within (rGet zIIIB k.2.2.2.1 x.2.2.2.1).2.1 (1 : Int) (rArith .sub .i64 k.1 x.1)).bind fun y0 => (bif (Bool.not y0.1) then some (.inr (.inl (false, ()))) else ((impl_within (rGet zIIIB k.2.2.2.1 x.2.2.2.1).2.2.1 (0 : Int) (999 : Int)).bind fun y1 => (bif (Bool.not y1.1) then some (.inr (.inl (false, ()))) else (bif (rCmp .gtr (rGet zIIIB k.2.2.2.1 x.2.2.2.1).2.2.1 (0 : Int)) then (bif (rMget x.2.2.1 (rGet zIIIB k.2.2.2.1 x.2.2.2.1).2.2.1) then some (.inr (.inl (false, ()))) else some (.inl ((rArith .add .i64 x.1 (rGet zIIIB k.2.2.2.1 x.2.2.2.1).2.1), (rMput x.2.1 (rGet zIIIB k.2.2.2.1 x.2.2.2.1).1 true), (rMput x.2.2.1 (rGet zIIIB k.2.2.2.1 x.2.2.2.1).2.2.1 true), (rArith .add .i64 x.2.2.2.1 (1 : Int)), ()))) else some (.inl ((rArith .add .i64 x.1 (rGet zIIIB k.2.2.2.1 x.2.2.2.1).2.1), (rMput x.2.1 (rGet zIIIB k.2.2.2.1 x.2.2.2.1).1 true), (rMput x.2.2.1 (rGet zIIIB k.2.2.2.1 x.2.2.2.1).2.2.1 true), (rArith .add .i64 x.2.2.2.1 (1 : Int)), ())))))))) else none) else some (.inr (.inr (.inl (x.1, x.2.1, ())))))
noncomputable def impl_ColumnOk_l2 (k : Int × (List (Int)) × (List (Int × Int × Int × Bool)) × (List (Int × Int × Int × Bool)) × Int × Unit) (x : Int × (List (Int × Bool)) × (List (Int × Bool)) × Int × Unit) : Option (Bool × Unit ⊕ (Int × (List (Int × Bool)) × Unit ⊕ Empty)) := iter (impl_ColumnOk_b2 k) big x
noncomputable def impl_ColumnOk_b4 (k : Int × (List (Int)) × (List (Int × Int × Int × Bool)) × Int × (List (Int)) × Int × Unit) (x : (List (Int × Bool)) × Int × Unit) : Option (((List (Int × Bool)) × Int × Unit) ⊕ (Bool × Unit ⊕ (Unit ⊕ Empty))) :=
 (bif (rCmp .lss x.2.1 k.2.2.2.2.2.1) then (bif (rInR k.2.2.2.2.1 x.2.1) then (bif (Bool.not (rMget x.1 (rGet zI k.2.2.2.2.1 x.2.1))) then some (.inr (.inl (false, ()))) else some (.inl (x.1, (rArith .add .i64 x.2.1 (1 : Int)), ()))) else none) else some (.inr (.inr (.inl (())))))
noncomputable def impl_ColumnOk_l4 (k : Int × (List (Int)) × (List (Int × Int × Int × Bool)) × Int × (List (Int)) × Int × Unit) (x : (List (Int × Bool)) × Int × Unit) : Option (Bool × Unit ⊕ (Unit ⊕ Empty)) := iter (impl_ColumnOk_b4 k) big x
noncomputable def impl_ColumnOk (a0 : Int) (a1 : (List (Int))) (a2 : (List (Int × Int × Int × Bool))) : Option (Bool × Unit) :=
 ((impl_within a0 (1 : Int) (24 : Int)).bind fun y0 => (bif (Bool.not y0.1) then some (false, ()) else (bif (rCmp .eql (rLen a2) (0 : Int)) then some (false, ()) else ((impl_ColumnOk_l0 (a0, a1, a2, a1, (rLen a1), ()) ((0 : Int), ())).bind fun q1 => (Sum.elim (fun y2 => some (y2.1, ())) (fun q3 => (Sum.elim (fun y4 => ((impl_ColumnOk_l2 (a0, a1, a2, a2, (rLen a2), ()) ((0 : Int), ([] : List (Int × Bool)), ([] : List (Int × Bool)), (0 : Int), ())).bind fun q5 => (Sum.elim (fun y6 => some (y6.1, ())) (fun q7 => (Sum.elim (fun y8 => ((impl_ColumnOk_l4 (a0, a1, a2, y8.1, a1, (rLen a1), ()) (y8.2.1, (0 : Int), ())).bind fun q9 => (Sum.elim (fun y10 => some (y10.1, ())) (fun q11 => (Sum.elim (fun y12 => some ((rCmp .eql y8.1 a0), ())) (fun q13 => (Empty.elim q13)) q11)) q9))) (fun q9 => (Empty.elim q9)) q7)) q5))) (fun q5 => (Empty.elim q5)) q3)) q1)))))
noncomputable def impl_BankOk_b2 (k : (List (Int × (List (Int)) × List (Int × Int × Int × Bool))) × Int × Int × (List (Int × Int × Int × Bool)) × Int × Unit) (x : (List (Int × Bool)) × Int × Unit) : Option (((List (Int × Bool)) × Int × Unit) ⊕ (Bool × Unit ⊕ ((List (Int × Bool)) × Unit ⊕ Empty))) :=
 (bif (rCmp .lss x.2.1 k.2.2.2.2.1) then (bif (rInR k.2.2.2.1 x.2.1) then (bif (rCmp .gtr (rGet zIIIB k.2.2.2.1 x.2.1).2.2.1 (0 : Int)) then (bif (rMget x.1 (rGet zIIIB k.2.2.2.1 x.2.1).2.2.1) then some (.inr (.inl (false, ()))) else some (.inl ((rMput x.1 (rGet zIIIB k.2.2.2.1 x.2.1).2.2.1 true), (rArith .add .i64 x.2.1 (1 : Int)), ()))) else some (.inl ((rMput x.1 (rGet zIIIB k.2.2.2.1 x.2.1).2.2.1 true), (rArith .add .i64 x.2.1 (1 : Int)), ()))) else none) else some (.inr (.inr (.inl (x.1, ())))))
noncomputable def impl_BankOk_l2 (k : (List (Int × (List (Int)) × List (Int × Int × Int × Bool))) × Int × Int × (List (Int × Int × Int × Bool)) × Int × Unit) (x : (List (Int × Bool)) × Int × Unit) : Option (Bool × Unit ⊕ ((List (Int × Bool)) × Unit ⊕ Empty)) := iter (impl_BankOk_b2 k) big x
noncomputable def impl_BankOk_b0 (k : (List (Int × (List (Int)) × List (Int × Int × Int × Bool))) × Int × Unit) (x : (List (Int × Bool)) × Int × Unit) : Option (((List (Int × Bool)) × Int × Unit) ⊕ (Bool × Unit ⊕ (Unit ⊕ Empty))) :=
 (bif (rCmp .lss x.2.1 k.2.1) then (bif (rInR k.1 x.2.1) then ((impl_ColumnOk (rGet zILIlLIIIBl k.1 x.2.1).1 (rGet zILIlLIIIBl k.1 x.2.1).2.1 (rGet zILIlLIIIBl k.1 x.2.1).2.2).bind fun y0 => (bif (Bool.not y0.1) then some (.inr (.inl (false, ()))) else ((impl_BankOk_l2 (k.1, k.2.1, x.2.1, (rGet zILIlLIIIBl k.1 x.2.1).2.2, (rLen (rGet zILIlLIIIBl k.1 x.2.1).2.2), ()) (x.1, (0 : Int), ())).bind fun q1 => (Sum.elim (fun y2 => some (.inr (.inl (y2.1, ())))) (fun q3 => (Sum.elim (fun y4 => some (.inl (y4.1, (rArith .add .i64 x.2.1 (1 : Int)), ()))) (fun q5 => (Empty.elim q5)) q3)) q1)))) else none) else some (.inr (.inr (.inl (())))))
noncomputable def impl_BankOk_l0 (k : (List (Int × (List (Int)) × List (Int × Int × Int × Bool))) × Int × Unit) (x : (List (Int × Bool)) × Int × Unit) : Option (Bool × Unit ⊕ (Unit ⊕ Empty)) := iter (impl_BankOk_b0 k) big x
noncomputable def impl_BankOk (a0 : (List (Int × (List (Int)) × List (Int × Int × Int × Bool)))) : Option (Bool × Unit) :=
 ((impl_within (rLen a0) (1 : Int) (6 : Int)).bind fun y0 => (bif (Bool.not y0.1) then some (false, ()) else ((impl_BankOk_l0 (a0, (rLen a0), ()) (([] : List (Int × Bool)), (0 : Int), ())).bind fun q1 => (Sum.elim (fun y2 => some (y2.1, ())) (fun q3 => (Sum.elim (fun y4 => some (true, ())) (fun q5 => (Empty.elim q5)) q3)) q1))))
noncomputable def impl_isDone (a0 : Int) (a1 : Int) (a2 : Bool) (a3 : Bool) (a4 : Bool) : Option (Bool × Unit) :=
 some ((rBeq a4 (rCmp .eql a0 (1 : Int))), ())
noncomputable def impl_DoorOk (a0 : Int) (a1 : Int) (a2 : Bool) (a3 : Bool) (a4 : Bool) : Option (Bool × Unit) :=
 ((impl_within a0 (0 : Int) (2 : Int)).bind fun y0 => (bif (Bool.not y0.1) then some (false, ()) else ((impl_within a1 (0 : Int) (6 : Int)).bind fun y1 => (bif (Bool.not y1.1) then some (false, ()) else (bif a3 then (bif (Bool.not a2) then some (false, ()) else (bif (rCmp .eql a0 (0 : Int)) then (bif (rCmp .eql a1 (0 : Int)) then some ((Bool.not a2), ()) else some (false, ())) else (bif (rCmp .eql a1 (1 : Int)) then ((impl_isDone a0 a1 a2 a3 a4).bind fun y2 => (bif (Bool.not y2.1) then some ((Bool.not a2), ()) else some (false, ()))) else (bif (rCmp .eql a1 (2 : Int)) then ((impl_isDone a0 a1 a2 a3 a4).bind fun y2 => (bif (Bool.not y2.1) then (bif a2 then some ((Bool.not a3), ()) else some (false, ())) else some (false, ()))) else (bif (rCmp .eql a1 (3 : Int)) then ((impl_isDone a0 a1 a2 a3 a4).bind fun y2 => (bif (Bool.not y2.1) then some (a3, ()) else some (false, ()))) else (bif (rCmp .eql a1 (4 : Int)) then ((impl_isDone a0 a1 a2 a3 a4).bind fun y2 => (bif y2.1 then some (a3, ()) else some (false, ()))) else (bif (rCmp .eql a1 (5 : Int)) then (bif a2 then some ((Bool.not a3), ()) else some (false, ())) else (bif (rCmp .eql a1 (6 : Int)) then some ((Bool.not a2), ()) else some (true, ()))))))))) else (bif (rCmp .eql a0 (0 : Int)) then (bif (rCmp .eql a1 (0 : Int)) then some ((Bool.not a2), ()) else some (false, ())) else (bif (rCmp .eql a1 (1 : Int)) then ((impl_isDone a0 a1 a2 a3 a4).bind fun y2 => (bif (Bool.not y2.1) then some ((Bool.not a2), ()) else some (false, ()))) else (bif (rCmp .eql a1 (2 : Int)) then ((impl_isDone a0 a1 a2 a3 a4).bind fun y2 => (bif (Bool.not y2.1) then (bif a2 then some ((Bool.not a3), ()) else some (false, ())) else some (false, ()))) else (bif (rCmp .eql a1 (3 : Int)) then ((impl_isDone a0 a1 a2 a3 a4).bind fun y2 => (bif (Bool.not y2.1) then some (a3, ()) else some (false, ()))) else (bif (rCmp .eql a1 (4 : Int)) then ((impl_isDone a0 a1 a2 a3 a4).bind fun y2 => (bif y2.1 then some (a3, ()) else some (false, ()))) else (bif (rCmp .eql a1 (5 : Int)) then (bif a2 then some ((Bool.not a3), ()) else some (false, ())) else (bif (rCmp .eql a1 (6 : Int)) then some ((Bool.not a2), ()) else some (true, ())))))))))))))
noncomputable def impl_siteOk (a0 : Int) (a1 : Int) (a2 : Int) (a3 : Int) (a4 : Int) (a5 : Int) (a6 : Int) (a7 : Int) (a8 : Int) (a9 : Int) (a10 : Int) (a11 : (List ((List (Int × Int)) × (List (Int × Int)) × (List (Int × (List (Int)) × List (Int × Int × Int × Bool))) × Int × Int × Bool × Bool × Bool × Int × Int × List (Int × Int × Int × Int × Int × Int × Int)))) (a12 : (List (Int × Int × Int × Int × Int × Int × Int × Int × Int × Int × Int × Int × Int))) (a13 : (List (Int × Int × Int × Int × Int × Int × Bool))) (a14 : (List (Int × Int × Int × Int × Int × Int × Int))) (a15 : Int) : Option (Bool × Unit) :=
 (bif (rInR a11 a15) then ((impl_WeekOk (rGet zLIIlLIIlLILIlLIIIBllIIBBBIILIIIIIIIl a11 a15).1 (rGet zLIIlLIIlLILIlLIIIBllIIBBBIILIIIIIIIl a11 a15).2.1).bind fun y0 => (bif (Bool.not y0.1) then some (false, ()) else ((impl_BankOk (rGet zLIIlLIIlLILIlLIIIBllIIBBBIILIIIIIIIl a11 a15).2.2.1).bind fun y1 => (bif (Bool.not y1.1) then some (false, ()) else ((impl_DoorOk (rGet zLIIlLIIlLILIlLIIIBllIIBBBIILIIIIIIIl a11 a15).2.2.2.1 (rGet zLIIlLIIlLILIlLIIIBllIIBBBIILIIIIIIIl a11 a15).2.2.2.2.1 (rGet zLIIlLIIlLILIlLIIIBllIIBBBIILIIIIIIIl a11 a15).2.2.2.2.2.1 (rGet zLIIlLIIlLILIlLIIIBllIIBBBIILIIIIIIIl a11 a15).2.2.2.2.2.2.1 (rGet zLIIlLIIlLILIlLIIIBllIIBBBIILIIIIIIIl a11 a15).2.2.2.2.2.2.2.1).bind fun y2 => (bif (Bool.not y2.1) then some (false, ()) else ((impl_JournalOk (rGet zLIIlLIIlLILIlLIIIBllIIBBBIILIIIIIIIl a11 a15).2.2.2.2.2.2.2.2.2.2).bind fun y3 => (bif (Bool.not y3.1) then some (false, ()) else (bif (rCmp .eql (rGet zLIIlLIIlLILIlLIIIBllIIBBBIILIIIIIIIl a11 a15).2.2.2.2.2.2.2.2.1 (0 : Int)) then (lets (Bool.and (rCmp .eql (rGet zLIIlLIIlLILIlLIIIBllIIBBBIILIIIIIIIl a11 a15).2.2.2.1 (0 : Int)) (Bool.and (rCmp .eql (rGet zLIIlLIIlLILIlLIIIBllIIBBBIILIIIIIIIl a11 a15).2.2.2.2.1 (0 : Int)) (Bool.and (rBeq (rGet zLIIlLIIlLILIlLIIIBllIIBBBIILIIIIIIIl a11 a15).2.2.2.2.2.1 false) (Bool.and (rBeq (rGet zLIIlLIIlLILIlLIIIBllIIBBBIILIIIIIIIl a11 a15).2.2.2.2.2.2.1 false) (Bool.and (rBeq (rGet zLIIlLIIlLILIlLIIIBllIIBBBIILIIIIIIIl a11 a15).2.2.2.2.2.2.2.1 false) true))))) fun v4 => (bif v4 then some ((rCmp .eql (rGet zLIIlLIIlLILIlLIIIBllIIBBBIILIIIIIIIl a11 a15).2.2.2.2.2.2.2.2.2.1 (0 : Int)), ()) else some (false, ()))) else ((impl_within (rGet zLIIlLIIlLILIlLIIIBllIIBBBIILIIIIIIIl a11 a15).2.2.2.2.2.2.2.2.1 (1 : Int) (rLen a12)).bind fun y4 => (bif (Bool.not y4.1) then some (false, ()) else (bif (rInR a12 (rArith .sub .i64 (rGet zLIIlLIIlLILIlLIIIBllIIBBBIILIIIIIIIl a11 a15).2.2.2.2.2.2.2.2.1 (1 : Int))) then (bif (rCmp .neq (rGet zIIIIIIIIIIIII a12 (rArith .sub .i64 (rGet zLIIlLIIlLILIlLIIIBllIIBBBIILIIIIIIIl a11 a15).2.2.2.2.2.2.2.2.1 (1 : Int))).2.2.1 a15) then some (false, ()) else (bif (rCmp .neq (rGet zIIIIIIIIIIIII a12 (rArith .sub .i64 (rGet zLIIlLIIlLILIlLIIIBllIIBBBIILIIIIIIIl a11 a15).2.2.2.2.2.2.2.2.1 (1 : Int))).2.2.2.1 (2 : Int)) then some (false, ()) else (bif (rCmp .eql (rGet zLIIlLIIlLILIlLIIIBllIIBBBIILIIIIIIIl a11 a15).2.2.2.1 (0 : Int)) then some (false, ()) else (bif (rCmp .eql (rGet zLIIlLIIlLILIlLIIIBllIIBBBIILIIIIIIIl a11 a15).2.2.2.2.2.2.2.2.2.1 (0 : Int)) then some (true, ()) else (bif (rCmp .eql (rGet zLIIlLIIlLILIlLIIIBllIIBBBIILIIIIIIIl a11 a15).2.2.2.1 (2 : Int)) then ((impl_personOk (rGet zLIIlLIIlLILIlLIIIBllIIBBBIILIIIIIIIl a11 a15).2.2.2.2.2.2.2.2.2.1).bind fun y5 => some (y5.1, ())) else some (false, ())))))) else none)))))))))))) else none)
noncomputable def impl_isUnplaced (a0 : Int) (a1 : Int) (a2 : Int) (a3 : Int) (a4 : Int) (a5 : Int) (a6 : Int) (a7 : Int) (a8 : Int) (a9 : Int) (a10 : Int) (a11 : (List ((List (Int × Int)) × (List (Int × Int)) × (List (Int × (List (Int)) × List (Int × Int × Int × Bool))) × Int × Int × Bool × Bool × Bool × Int × Int × List (Int × Int × Int × Int × Int × Int × Int)))) (a12 : (List (Int × Int × Int × Int × Int × Int × Int × Int × Int × Int × Int × Int × Int))) (a13 : (List (Int × Int × Int × Int × Int × Int × Bool))) (a14 : (List (Int × Int × Int × Int × Int × Int × Int))) (a15 : Int) (a16 : Int) (a17 : Int) (a18 : Int) (a19 : Int) (a20 : Int) (a21 : Int) (a22 : Int) (a23 : Int) (a24 : Int) (a25 : Int) (a26 : Int) (a27 : Int) : Option (Bool × Unit) :=
 (bif (rCmp .eql a18 (0 : Int)) then some (true, ()) else (bif (rCmp .eql a18 (1 : Int)) then some (true, ()) else (bif (rCmp .eql a18 (2 : Int)) then (bif (rInR a11 a17) then some ((rCmp .eql (rGet zLIIlLIIlLILIlLIIIBllIIBBBIILIIIIIIIl a11 a17).2.2.2.1 (1 : Int)), ()) else none) else some (false, ()))))
noncomputable def impl_LockOk (a0 : Int) (a1 : Int) (a2 : Int) (a3 : Int) (a4 : Int) : Option (Bool × Unit) :=
 ((impl_secretOk a0).bind fun y0 => (bif y0.1 then ((impl_within a1 (0 : Int) (1000001 : Int)).bind fun y1 => (bif y1.1 then ((impl_within a2 (0 : Int) (2 : Int)).bind fun y2 => (bif y2.1 then ((impl_within a3 (0 : Int) (6 : Int)).bind fun y3 => (bif y3.1 then ((impl_within a4 (0 : Int) (20064 : Int)).bind fun y4 => some (y4.1, ())) else some (false, ()))) else some (false, ()))) else some (false, ()))) else some (false, ())))
noncomputable def impl_parcelOk (a0 : Int) (a1 : Int) (a2 : Int) (a3 : Int) (a4 : Int) (a5 : Int) (a6 : Int) (a7 : Int) (a8 : Int) (a9 : Int) (a10 : Int) (a11 : (List ((List (Int × Int)) × (List (Int × Int)) × (List (Int × (List (Int)) × List (Int × Int × Int × Bool))) × Int × Int × Bool × Bool × Bool × Int × Int × List (Int × Int × Int × Int × Int × Int × Int)))) (a12 : (List (Int × Int × Int × Int × Int × Int × Int × Int × Int × Int × Int × Int × Int))) (a13 : (List (Int × Int × Int × Int × Int × Int × Bool))) (a14 : (List (Int × Int × Int × Int × Int × Int × Int))) (a15 : Int) : Option (Bool × Unit) :=
 (bif (rInR a12 a15) then ((impl_within (rGet zIIIIIIIIIIIII a12 a15).1 (1 : Int) (24 : Int)).bind fun y0 => (bif (Bool.not y0.1) then some (false, ()) else ((impl_personOk (rGet zIIIIIIIIIIIII a12 a15).2.1).bind fun y1 => (bif (Bool.not y1.1) then some (false, ()) else ((impl_within (rGet zIIIIIIIIIIIII a12 a15).2.2.1 (0 : Int) (rArith .sub .i64 (rLen a11) (1 : Int))).bind fun y2 => (bif (Bool.not y2.1) then some (false, ()) else ((impl_within (rGet zIIIIIIIIIIIII a12 a15).2.2.2.1 (0 : Int) (5 : Int)).bind fun y3 => (bif (Bool.not y3.1) then some (false, ()) else (bif (rCmp .eql (rGet zIIIIIIIIIIIII a12 a15).2.2.2.1 (2 : Int)) then (bif (rInR a11 (rGet zIIIIIIIIIIIII a12 a15).2.2.1) then (bif (rCmp .neq (rGet zLIIlLIIlLILIlLIIIBllIIBBBIILIIIIIIIl a11 (rGet zIIIIIIIIIIIII a12 a15).2.2.1).2.2.2.2.2.2.2.2.1 (rArith .add .i64 a15 (1 : Int))) then some (false, ()) else ((impl_isUnplaced a0 a1 a2 a3 a4 a5 a6 a7 a8 a9 a10 a11 a12 a13 a14 (rGet zIIIIIIIIIIIII a12 a15).1 (rGet zIIIIIIIIIIIII a12 a15).2.1 (rGet zIIIIIIIIIIIII a12 a15).2.2.1 (rGet zIIIIIIIIIIIII a12 a15).2.2.2.1 (rGet zIIIIIIIIIIIII a12 a15).2.2.2.2.1 (rGet zIIIIIIIIIIIII a12 a15).2.2.2.2.2.1 (rGet zIIIIIIIIIIIII a12 a15).2.2.2.2.2.2.1 (rGet zIIIIIIIIIIIII a12 a15).2.2.2.2.2.2.2.1 (rGet zIIIIIIIIIIIII a12 a15).2.2.2.2.2.2.2.2.1 (rGet zIIIIIIIIIIIII a12 a15).2.2.2.2.2.2.2.2.2.1 (rGet zIIIIIIIIIIIII a12 a15).2.2.2.2.2.2.2.2.2.2.1 (rGet zIIIIIIIIIIIII a12 a15).2.2.2.2.2.2.2.2.2.2.2.1 (rGet zIIIIIIIIIIIII a12 a15).2.2.2.2.2.2.2.2.2.2.2.2).bind fun y4 => (bif y4.1 then (bif (rCmp .eql (rGet zIIIIIIIIIIIII a12 a15).2.2.2.2.1 (0 : Int)) then (bif (rCmp .eql (rGet zIIIIIIIIIIIII a12 a15).2.2.2.2.2.1 (0 : Int)) then (bif (rCmp .eql (rGet zIIIIIIIIIIIII a12 a15).2.2.2.2.2.2.2.2.2.2.2.1 (0 : Int)) then (bif (rCmp .eql (rGet zIIIIIIIIIIIII a12 a15).2.2.2.2.2.2.2.2.2.2.2.2 (0 : Int)) then (lets (Bool.and (rCmp .eql (rGet zIIIIIIIIIIIII a12 a15).2.2.2.2.2.2.1 (0 : Int)) (Bool.and (rCmp .eql (rGet zIIIIIIIIIIIII a12 a15).2.2.2.2.2.2.2.1 (0 : Int)) (Bool.and (rCmp .eql (rGet zIIIIIIIIIIIII a12 a15).2.2.2.2.2.2.2.2.1 (0 : Int)) (Bool.and (rCmp .eql (rGet zIIIIIIIIIIIII a12 a15).2.2.2.2.2.2.2.2.2.1 (0 : Int)) (Bool.and (rCmp .eql (rGet zIIIIIIIIIIIII a12 a15).2.2.2.2.2.2.2.2.2.2.1 (0 : Int)) true))))) fun v5 => some (v5, ())) else some (false, ())) else some (false, ())) else some (false, ())) else some (false, ())) else ((impl_within (rGet zIIIIIIIIIIIII a12 a15).2.2.2.2.1 (0 : Int) a10).bind fun y5 => (bif (Bool.not y5.1) then some (false, ()) else ((impl_within (rGet zIIIIIIIIIIIII a12 a15).2.2.2.2.2.1 (0 : Int) a7).bind fun y6 => (bif (Bool.not y6.1) then some (false, ()) else ((impl_LockOk (rGet zIIIIIIIIIIIII a12 a15).2.2.2.2.2.2.1 (rGet zIIIIIIIIIIIII a12 a15).2.2.2.2.2.2.2.1 (rGet zIIIIIIIIIIIII a12 a15).2.2.2.2.2.2.2.2.1 (rGet zIIIIIIIIIIIII a12 a15).2.2.2.2.2.2.2.2.2.1 (rGet zIIIIIIIIIIIII a12 a15).2.2.2.2.2.2.2.2.2.2.1).bind fun y7 => (bif (Bool.not y7.1) then some (false, ()) else ((impl_SecretOf a0 a1 a2 a3 a4 a5 a6 a7 a8 a9 a10 a11 a12 a13 a14 (rArith .add .i64 a15 (1 : Int))).bind fun y8 => (bif (rCmp .neq (rGet zIIIIIIIIIIIII a12 a15).2.2.2.2.2.2.1 y8.1) then some (false, ()) else (bif (rCmp .eql (rGet zIIIIIIIIIIIII a12 a15).2.2.2.1 (4 : Int)) then ((impl_personOk (rGet zIIIIIIIIIIIII a12 a15).2.2.2.2.2.2.2.2.2.2.2.1).bind fun y9 => (bif y9.1 then ((impl_within (rGet zIIIIIIIIIIIII a12 a15).2.2.2.2.2.2.2.2.2.2.2.2 (0 : Int) (rArith .add .i64 a4 (rArith .mul .i64 a6 a7))).bind fun y10 => some (y10.1, ())) else some (false, ()))) else (bif (rCmp .eql (rGet zIIIIIIIIIIIII a12 a15).2.2.2.2.2.2.2.2.2.2.2.1 (0 : Int)) then some ((rCmp .eql (rGet zIIIIIIIIIIIII a12 a15).2.2.2.2.2.2.2.2.2.2.2.2 (0 : Int)), ()) else some (false, ())))))))))))))) else none) else ((impl_isUnplaced a0 a1 a2 a3 a4 a5 a6 a7 a8 a9 a10 a11 a12 a13 a14 (rGet zIIIIIIIIIIIII a12 a15).1 (rGet zIIIIIIIIIIIII a12 a15).2.1 (rGet zIIIIIIIIIIIII a12 a15).2.2.1 (rGet zIIIIIIIIIIIII a12 a15).2.2.2.1 (rGet zIIIIIIIIIIIII a12 a15).2.2.2.2.1 (rGet zIIIIIIIIIIIII a12 a15).2.2.2.2.2.1 (rGet zIIIIIIIIIIIII a12 a15).2.2.2.2.2.2.1 (rGet zIIIIIIIIIIIII a12 a15).2.2.2.2.2.2.2.1 (rGet zIIIIIIIIIIIII a12 a15).2.2.2.2.2.2.2.2.1 (rGet zIIIIIIIIIIIII a12 a15).2.2.2.2.2.2.2.2.2.1 (rGet zIIIIIIIIIIIII a12 a15).2.2.2.2.2.2.2.2.2.2.1 (rGet zIIIIIIIIIIIII a12 a15).2.2.2.2.2.2.2.2.2.2.2.1 (rGet zIIIIIIIIIIIII a12 a15).2.2.2.2.2.2.2.2.2.2.2.2).bind fun y4 => (bif y4.1 then (bif (rCmp .eql (rGet zIIIIIIIIIIIII a12 a15).2.2.2.2.1 (0 : Int)) then (bif (rCmp .eql (rGet zIIIIIIIIIIIII a12 a15).2.2.2.2.2.1 (0 : Int)) then (bif (rCmp .eql (rGet zIIIIIIIIIIIII a12 a15).2.2.2.2.2.2.2.2.2.2.2.1 (0 : Int)) then (bif (rCmp .eql (rGet zIIIIIIIIIIIII a12 a15).2.2.2.2.2.2.2.2.2.2.2.2 (0 : Int)) then (lets (Bool.and (rCmp .eql (rGet zIIIIIIIIIIIII a12 a15).2.2.2.2.2.2.1 (0 : Int)) (Bool.and (rCmp .eql (rGet zIIIIIIIIIIIII a12 a15).2.2.2.2.2.2.2.1 (0 : Int)) (Bool.and (rCmp .eql (rGet zIIIIIIIIIIIII a12 a15).2.2.2.2.2.2.2.2.1 (0 : Int)) (Bool.and (rCmp .eql (rGet zIIIIIIIIIIIII a12 a15).2.2.2.2.2.2.2.2.2.1 (0 : Int)) (Bool.and (rCmp .eql (rGet zIIIIIIIIIIIII a12 a15).2.2.2.2.2.2.2.2.2.2.1 (0 : Int)) true))))) fun v5 => some (v5, ())) else some (false, ())) else some (false, ())) else some (false, ())) else some (false, ())) else ((impl_within (rGet zIIIIIIIIIIIII a12 a15).2.2.2.2.1 (0 : Int) a10).bind fun y5 => (bif (Bool.not y5.1) then some (false, ()) else ((impl_within (rGet zIIIIIIIIIIIII a12 a15).2.2.2.2.2.1 (0 : Int) a7).bind fun y6 => (bif (Bool.not y6.1) then some (false, ()) else ((impl_LockOk (rGet zIIIIIIIIIIIII a12 a15).2.2.2.2.2.2.1 (rGet zIIIIIIIIIIIII a12 a15).2.2.2.2.2.2.2.1 (rGet zIIIIIIIIIIIII a12 a15).2.2.2.2.2.2.2.2.1 (rGet zIIIIIIIIIIIII a12 a15).2.2.2.2.2.2.2.2.2.1 (rGet zIIIIIIIIIIIII a12 a15).2.2.2.2.2.2.2.2.2.2.1).bind fun y7 => (bif (Bool.not y7.1) then some (false, ()) else ((impl_SecretOf a0 a1 a2 a3 a4 a5 a6 a7 a8 a9 a10 a11 a12 a13 a14 (rArith .add .i64 a15 (1 : Int))).bind fun y8 => (bif (rCmp .neq (rGet zIIIIIIIIIIIII a12 a15).2.2.2.2.2.2.1 y8.1) then some (false, ()) else (bif (rCmp .eql (rGet zIIIIIIIIIIIII a12 a15).2.2.2.1 (4 : Int)) then ((impl_personOk (rGet zIIIIIIIIIIIII a12 a15).2.2.2.2.2.2.2.2.2.2.2.1).bind fun y9 => (bif y9.1 then ((impl_within (rGet zIIIIIIIIIIIII a12 a15).2.2.2.2.2.2.2.2.2.2.2.2 (0 : Int) (rArith .add .i64 a4 (rArith .mul .i64 a6 a7))).bind fun y10 => some (y10.1, ())) else some (false, ()))) else (bif (rCmp .eql (rGet zIIIIIIIIIIIII a12 a15).2.2.2.2.2.2.2.2.2.2.2.1 (0 : Int)) then some ((rCmp .eql (rGet zIIIIIIIIIIIII a12 a15).2.2.2.2.2.2.2.2.2.2.2.2 (0 : Int)), ()) else some (false, ())))))))))))))))))))))) else none)
noncomputable def impl_boxesOk_b4 (k : Int × Int × Int × Int × Int × Int × Int × Int × Int × Int × Int × (List ((List (Int × Int)) × (List (Int × Int)) × (List (Int × (List (Int)) × List (Int × Int × Int × Bool))) × Int × Int × Bool × Bool × Bool × Int × Int × List (Int × Int × Int × Int × Int × Int × Int))) × (List (Int × Int × Int × Int × Int × Int × Int × Int × Int × Int × Int × Int × Int)) × (List (Int × Int × Int × Int × Int × Int × Bool)) × (List (Int × Int × Int × Int × Int × Int × Int)) × Int × (List ((List (Int × Int)) × (List (Int × Int)) × (List (Int × (List (Int)) × List (Int × Int × Int × Bool))) × Int × Int × Bool × Bool × Bool × Int × Int × List (Int × Int × Int × Int × Int × Int × Int))) × Int × Int × (List (Int × (List (Int)) × List (Int × Int × Int × Bool))) × Int × Int × (List (Int × Int × Int × Bool)) × Int × Unit) (x : Int × Int × Unit) : Option ((Int × Int × Unit) ⊕ (Bool × Unit ⊕ (Int × Unit ⊕ Empty))) :=
 (bif (rCmp .lss x.2.1 k.2.2.2.2.2.2.2.2.2.2.2.2.2.2.2.2.2.2.2.2.2.2.2.1) then (bif (rInR k.2.2.2.2.2.2.2.2.2.2.2.2.2.2.2.2.2.2.2.2.2.2.1 x.2.1) then (bif (rCmp .eql (rGet zIIIB k.2.2.2.2.2.2.2.2.2.2.2.2.2.2.2.2.2.2.2.2.2.2.1 x.2.1).2.2.1 (0 : Int)) then some (.inl (x.1, (rArith .add .i64 x.2.1 (1 : Int)), ())) else ((impl_within (rGet zIIIB k.2.2.2.2.2.2.2.2.2.2.2.2.2.2.2.2.2.2.2.2.2.2.1 x.2.1).2.2.1 (1 : Int) (rLen k.2.2.2.2.2.2.2.2.2.2.2.2.1)).bind fun y0 => (bif (Bool.not y0.1) then some (.inr (.inl (false, ()))) else (bif (rInR k.2.2.2.2.2.2.2.2.2.2.2.2.1 (rArith .sub .i64 (rGet zIIIB k.2.2.2.2.2.2.2.2.2.2.2.2.2.2.2.2.2.2.2.2.2.2.1 x.2.1).2.2.1 (1 : Int))) then (lets (rGet zIIIIIIIIIIIII k.2.2.2.2.2.2.2.2.2.2.2.2.1 (rArith .sub .i64 (rGet zIIIB k.2.2.2.2.2.2.2.2.2.2.2.2.2.2.2.2.2.2.2.2.2.2.1 x.2.1).2.2.1 (1 : Int))).2.2.2.2.1 fun v1 => (lets (rGet zIIIIIIIIIIIII k.2.2.2.2.2.2.2.2.2.2.2.2.1 (rArith .sub .i64 (rGet zIIIB k.2.2.2.2.2.2.2.2.2.2.2.2.2.2.2.2.2.2.2.2.2.2.1 x.2.1).2.2.1 (1 : Int))).2.2.2.2.2.1 fun v2 => (lets (rGet zIIIIIIIIIIIII k.2.2.2.2.2.2.2.2.2.2.2.2.1 (rArith .sub .i64 (rGet zIIIB k.2.2.2.2.2.2.2.2.2.2.2.2.2.2.2.2.2.2.2.2.2.2.1 x.2.1).2.2.1 (1 : Int))).2.2.2.2.2.2.1 fun v3 => (lets (rGet zIIIIIIIIIIIII k.2.2.2.2.2.2.2.2.2.2.2.2.1 (rArith .sub .i64 (rGet zIIIB k.2.2.2.2.2.2.2.2.2.2.2.2.2.2.2.2.2.2.2.2.2.2.1 x.2.1).2.2.1 (1 : Int))).2.2.2.2.2.2.2.1 fun v4 => (lets (rGet zIIIIIIIIIIIII k.2.2.2.2.2.2.2.2.2.2.2.2.1 (rArith .sub .i64 (rGet zIIIB k.2.2.2.2.2.2.2.2.2.2.2.2.2.2.2.2.2.2.2.2.2.2.1 x.2.1).2.2.1 (1 : Int))).2.2.2.2.2.2.2.2.1 fun v5 => (lets (rGet zIIIIIIIIIIIII k.2.2.2.2.2.2.2.2.2.2.2.2.1 (rArith .sub .i64 (rGet zIIIB k.2.2.2.2.2.2.2.2.2.2.2.2.2.2.2.2.2.2.2.2.2.2.1 x.2.1).2.2.1 (1 : Int))).2.2.2.2.2.2.2.2.2.1 fun v6 => (lets (rGet zIIIIIIIIIIIII k.2.2.2.2.2.2.2.2.2.2.2.2.1 (rArith .sub .i64 (rGet zIIIB k.2.2.2.2.2.2.2.2.2.2.2.2.2.2.2.2.2.2.2.2.2.2.1 x.2.1).2.2.1 (1 : Int))).2.2.2.2.2.2.2.2.2.2.1 fun v7 => (lets (rGet zIIIIIIIIIIIII k.2.2.2.2.2.2.2.2.2.2.2.2.1 (rArith .sub .i64 (rGet zIIIB k.2.2.2.2.2.2.2.2.2.2.2.2.2.2.2.2.2.2.2.2.2.2.1 x.2.1).2.2.1 (1 : Int))).2.2.2.2.2.2.2.2.2.2.2.1 fun v8 => (lets (rGet zIIIIIIIIIIIII k.2.2.2.2.2.2.2.2.2.2.2.2.1 (rArith .sub .i64 (rGet zIIIB k.2.2.2.2.2.2.2.2.2.2.2.2.2.2.2.2.2.2.2.2.2.2.1 x.2.1).2.2.1 (1 : Int))).2.2.2.2.2.2.2.2.2.2.2.2 fun v9 => (lets (rCmp .neq (rGet zIIIIIIIIIIIII k.2.2.2.2.2.2.2.2.2.2.2.2.1 (rArith .sub .i64 (rGet zIIIB k.2.2.2.2.2.2.2.2.2.2.2.2.2.2.2.2.2.2.2.2.2.2.1 x.2.1).2.2.1 (1 : Int))).2.2.2.1 (2 : Int)) fun v10 => (bif v10 then (lets (rCmp .neq (rGet zIIIIIIIIIIIII k.2.2.2.2.2.2.2.2.2.2.2.2.1 (rArith .sub .i64 (rGet zIIIB k.2.2.2.2.2.2.2.2.2.2.2.2.2.2.2.2.2.2.2.2.2.2.1 x.2.1).2.2.1 (1 : Int))).2.2.2.1 (3 : Int)) fun v11 => (bif v11 then some (.inr (.inl (false, ()))) else (lets (rCmp .neq (rGet zIIIIIIIIIIIII k.2.2.2.2.2.2.2.2.2.2.2.2.1 (rArith .sub .i64 (rGet zIIIB k.2.2.2.2.2.2.2.2.2.2.2.2.2.2.2.2.2.2.2.2.2.2.1 x.2.1).2.2.1 (1 : Int))).2.2.1 k.2.2.2.2.2.2.2.2.2.2.2.2.2.2.2.1) fun v12 => (bif v12 then some (.inr (.inl (false, ()))) else (lets (rCmp .neq (rGet zIIIIIIIIIIIII k.2.2.2.2.2.2.2.2.2.2.2.2.1 (rArith .sub .i64 (rGet zIIIB k.2.2.2.2.2.2.2.2.2.2.2.2.2.2.2.2.2.2.2.2.2.2.1 x.2.1).2.2.1 (1 : Int))).1 (rGet zIIIB k.2.2.2.2.2.2.2.2.2.2.2.2.2.2.2.2.2.2.2.2.2.2.1 x.2.1).2.1) fun v13 => (bif v13 then some (.inr (.inl (false, ()))) else (lets (rCmp .eql (rGet zIIIIIIIIIIIII k.2.2.2.2.2.2.2.2.2.2.2.2.1 (rArith .sub .i64 (rGet zIIIB k.2.2.2.2.2.2.2.2.2.2.2.2.2.2.2.2.2.2.2.2.2.2.1 x.2.1).2.2.1 (1 : Int))).2.2.2.1 (2 : Int)) fun v14 => (bif v14 then (bif (rGet zIIIB k.2.2.2.2.2.2.2.2.2.2.2.2.2.2.2.2.2.2.2.2.2.2.1 x.2.1).2.2.2 then some (.inr (.inl (false, ()))) else some (.inl ((rArith .add .i64 x.1 (1 : Int)), (rArith .add .i64 x.2.1 (1 : Int)), ()))) else some (.inl ((rArith .add .i64 x.1 (1 : Int)), (rArith .add .i64 x.2.1 (1 : Int)), ())))))))))) else (lets (rCmp .neq (rGet zIIIIIIIIIIIII k.2.2.2.2.2.2.2.2.2.2.2.2.1 (rArith .sub .i64 (rGet zIIIB k.2.2.2.2.2.2.2.2.2.2.2.2.2.2.2.2.2.2.2.2.2.2.1 x.2.1).2.2.1 (1 : Int))).2.2.1 k.2.2.2.2.2.2.2.2.2.2.2.2.2.2.2.1) fun v11 => (bif v11 then some (.inr (.inl (false, ()))) else (lets (rCmp .neq (rGet zIIIIIIIIIIIII k.2.2.2.2.2.2.2.2.2.2.2.2.1 (rArith .sub .i64 (rGet zIIIB k.2.2.2.2.2.2.2.2.2.2.2.2.2.2.2.2.2.2.2.2.2.2.1 x.2.1).2.2.1 (1 : Int))).1 (rGet zIIIB k.2.2.2.2.2.2.2.2.2.2.2.2.2.2.2.2.2.2.2.2.2.2.1 x.2.1).2.1) fun v12 => (bif v12 then some (.inr (.inl (false, ()))) else (lets (rCmp .eql (rGet zIIIIIIIIIIIII k.2.2.2.2.2.2.2.2.2.2.2.2.1 (rArith .sub .i64 (rGet zIIIB k.2.2.2.2.2.2.2.2.2.2.2.2.2.2.2.2.2.2.2.2.2.2.1 x.2.1).2.2.1 (1 : Int))).2.2.2.1 (2 : Int)) fun v13 => (bif v13 then (bif (rGet zIIIB k.2.2.2.2.2.2.2.2.2.2.2.2.2.2.2.2.2.2.2.2.2.2.1 x.2.1).2.2.2 then some (.inr (.inl (false, ()))) else some (.inl ((rArith .add .i64 x.1 (1 : Int)), (rArith .add .i64 x.2.1 (1 : Int)), ()))) else some (.inl ((rArith .add .i64 x.1 (1 : Int)), (rArith .add .i64 x.2.1 (1 : Int)), ()))))))))))))))))))) else none)))) else none) else some (.inr (.inr (.inl (x.1, ())))))
noncomputable def impl_boxesOk_l4 (k : Int × Int × Int × Int × Int × Int × Int × Int × Int × Int × Int × (List ((List (Int × Int)) × (List (Int × Int)) × (List (Int × (List (Int)) × List (Int × Int × Int × Bool))) × Int × Int × Bool × Bool × Bool × Int × Int × List (Int × Int × Int × Int × Int × Int × Int))) × (List (Int × Int × Int × Int × Int × Int × Int × Int × Int × Int × Int × Int × Int)) × (List (Int × Int × Int × Int × Int × Int × Bool)) × (List (Int × Int × Int × Int × Int × Int × Int)) × Int × (List ((List (Int × Int)) × (List (Int × Int)) × (List (Int × (List (Int)) × List (Int × Int × Int × Bool))) × Int × Int × Bool × Bool × Bool × Int × Int × List (Int × Int × Int × Int × Int × Int × Int))) × Int × Int × (List (Int × (List (Int)) × List (Int × Int × Int × Bool))) × Int × Int × (List (Int × Int × Int × Bool)) × Int × Unit) (x : Int × Int × Unit) : Option (Bool × Unit ⊕ (Int × Unit ⊕ Empty)) := iter (impl_boxesOk_b4 k) big x
noncomputable def impl_boxesOk_b2 (k : Int × Int × Int × Int × Int × Int × Int × Int × Int × Int × Int × (List ((List (Int × Int)) × (List (Int × Int)) × (List (Int × (List (Int)) × List (Int × Int × Int × Bool))) × Int × Int × Bool × Bool × Bool × Int × Int × List (Int × Int × Int × Int × Int × Int × Int))) × (List (Int × Int × Int × Int × Int × Int × Int × Int × Int × Int × Int × Int × Int)) × (List (Int × Int × Int × Int × Int × Int × Bool)) × (List (Int × Int × Int × Int × Int × Int × Int)) × Int × (List ((List (Int × Int)) × (List (Int × Int)) × (List (Int × (List (Int)) × List (Int × Int × Int × Bool))) × Int × Int × Bool × Bool × Bool × Int × Int × List (Int × Int × Int × Int × Int × Int × Int))) × Int × Int × (List (Int × (List (Int)) × List (Int × Int × Int × Bool))) × Int × Unit) (x : Int × Int × Unit) : Option ((Int × Int × Unit) ⊕ (Bool × Unit ⊕ (Int × Unit ⊕ Empty))) :=
 (bif (rCmp .lss x.2.1 k.2.2.2.2.2.2.2.2.2.2.2.2.2.2.2.2.2.2.2.2.1) then (bif (rInR k.2.2.2.2.2.2.2.2.2.2.2.2.2.2.2.2.2.2.2.1 x.2.1) then ((impl_boxesOk_l4 (k.1, k.2.1, k.2.2.1, k.2.2.2.1, k.2.2.2.2.1, k.2.2.2.2.2.1, k.2.2.2.2.2.2.1, k.2.2.2.2.2.2.2.1, k.2.2.2.2.2.2.2.2.1, k.2.2.2.2.2.2.2.2.2.1, k.2.2.2.2.2.2.2.2.2.2.1, k.2.2.2.2.2.2.2.2.2.2.2.1, k.2.2.2.2.2.2.2.2.2.2.2.2.1, k.2.2.2.2.2.2.2.2.2.2.2.2.2.1, k.2.2.2.2.2.2.2.2.2.2.2.2.2.2.1, k.2.2.2.2.2.2.2.2.2.2.2.2.2.2.2.1, k.2.2.2.2.2.2.2.2.2.2.2.2.2.2.2.2.1, k.2.2.2.2.2.2.2.2.2.2.2.2.2.2.2.2.2.1, k.2.2.2.2.2.2.2.2.2.2.2.2.2.2.2.2.2.2.1, k.2.2.2.2.2.2.2.2.2.2.2.2.2.2.2.2.2.2.2.1, k.2.2.2.2.2.2.2.2.2.2.2.2.2.2.2.2.2.2.2.2.1, x.2.1, (rGet zILIlLIIIBl k.2.2.2.2.2.2.2.2.2.2.2.2.2.2.2.2.2.2.2.1 x.2.1).2.2, (rLen (rGet zILIlLIIIBl k.2.2.2.2.2.2.2.2.2.2.2.2.2.2.2.2.2.2.2.1 x.2.1).2.2), ()) (x.1, (0 : Int), ())).bind fun q0 => (Sum.elim (fun y1 => some (.inr (.inl (y1.1, ())))) (fun q2 => (Sum.elim (fun y3 => some (.inl (y3.1, (rArith .add .i64 x.2.1 (1 : Int)), ()))) (fun q4 => (Empty.elim q4)) q2)) q0)) else none) else some (.inr (.inr (.inl (x.1, ())))))
noncomputable def impl_boxesOk_l2 (k : Int × Int × Int × Int × Int × Int × Int × Int × Int × Int × Int × (List ((List (Int × Int)) × (List (Int × Int)) × (List (Int × (List (Int)) × List (Int × Int × Int × Bool))) × Int × Int × Bool × Bool × Bool × Int × Int × List (Int × Int × Int × Int × Int × Int × Int))) × (List (Int × Int × Int × Int × Int × Int × Int × Int × Int × Int × Int × Int × Int)) × (List (Int × Int × Int × Int × Int × Int × Bool)) × (List (Int × Int × Int × Int × Int × Int × Int)) × Int × (List ((List (Int × Int)) × (List (Int × Int)) × (List (Int × (List (Int)) × List (Int × Int × Int × Bool))) × Int × Int × Bool × Bool × Bool × Int × Int × List (Int × Int × Int × Int × Int × Int × Int))) × Int × Int × (List (Int × (List (Int)) × List (Int × Int × Int × Bool))) × Int × Unit) (x : Int × Int × Unit) : Option (Bool × Unit ⊕ (Int × Unit ⊕ Empty)) := iter (impl_boxesOk_b2 k) big x
noncomputable def impl_boxesOk_b0 (k : Int × Int × Int × Int × Int × Int × Int × Int × Int × Int × Int × (List ((List (Int × Int)) × (List (Int × Int)) × (List (Int × (List (Int)) × List (Int × Int × Int × Bool))) × Int × Int × Bool × Bool × Bool × Int × Int × List (Int × Int × Int × Int × Int × Int × Int))) × (List (Int × Int × Int × Int × Int × Int × Int × Int × Int × Int × Int × Int × Int)) × (List (Int × Int × Int × Int × Int × Int × Bool)) × (List (Int × Int × Int × Int × Int × Int × Int)) × (List ((List (Int × Int)) × (List (Int × Int)) × (List (Int × (List (Int)) × List (Int × Int × Int × Bool))) × Int × Int × Bool × Bool × Bool × Int × Int × List (Int × Int × Int × Int × Int × Int × Int))) × Int × Unit) (x : Int × Int × Unit) : Option ((Int × Int × Unit) ⊕ (Bool × Unit ⊕ (Int × Unit ⊕ Empty))) :=
 (bif (rCmp .lss x.2.1 k.2.2.2.2.2.2.2.2.2.2.2.2.2.2.2.2.1) then (bif (rInR k.2.2.2.2.2.2.2.2.2.2.2.2.2.2.2.1 x.2.1) then ((impl_boxesOk_l2 (k.1, k.2.1, k.2.2.1, k.2.2.2.1, k.2.2.2.2.1, k.2.2.2.2.2.1, k.2.2.2.2.2.2.1, k.2.2.2.2.2.2.2.1, k.2.2.2.2.2.2.2.2.1, k.2.2.2.2.2.2.2.2.2.1, k.2.2.2.2.2.2.2.2.2.2.1, k.2.2.2.2.2.2.2.2.2.2.2.1, k.2.2.2.2.2.2.2.2.2.2.2.2.1, k.2.2.2.2.2.2.2.2.2.2.2.2.2.1, k.2.2.2.2.2.2.2.2.2.2.2.2.2.2.1, x.2.1, k.2.2.2.2.2.2.2.2.2.2.2.2.2.2.2.1, k.2.2.2.2.2.2.2.2.2.2.2.2.2.2.2.2.1, x.2.1, (rGet zLIIlLIIlLILIlLIIIBllIIBBBIILIIIIIIIl k.2.2.2.2.2.2.2.2.2.2.2.2.2.2.2.1 x.2.1).2.2.1, (rLen (rGet zLIIlLIIlLILIlLIIIBllIIBBBIILIIIIIIIl k.2.2.2.2.2.2.2.2.2.2.2.2.2.2.2.1 x.2.1).2.2.1), ()) (x.1, (0 : Int), ())).bind fun q0 => (Sum.elim (fun y1 => some (.inr (.inl (y1.1, ())))) (fun q2 => (Sum.elim (fun y3 => some (.inl (y3.1, (rArith .add .i64 x.2.1 (1 : Int)), ()))) (fun q4 => (Empty.elim q4)) q2)) q0)) else none) else some (.inr (.inr (.inl (x.1, ())))))
noncomputable def impl_boxesOk_l0 (k : Int × Int × Int × Int × Int × Int × Int × Int × Int × Int × Int × (List ((List (Int × Int)) × (List (Int × Int)) × (List (Int × (List (Int)) × List (Int × Int × Int × Bool))) × Int × Int × Bool × Bool × Bool × Int × Int × List (Int × Int × Int × Int × Int × Int × Int))) × (List (Int × Int × Int × Int × Int × Int × Int × Int × Int × Int × Int × Int × Int)) × (List (Int × Int × Int × Int × Int × Int × Bool)) × (List (Int × Int × Int × Int × Int × Int × Int)) × (List ((List (Int × Int)) × (List (Int × Int)) × (List (Int × (List (Int)) × List (Int × Int × Int × Bool))) × Int × Int × Bool × Bool × Bool × Int × Int × List (Int × Int × Int × Int × Int × Int × Int))) × Int × Unit) (x : Int × Int × Unit) : Option (Bool × Unit ⊕ (Int × Unit ⊕ Empty)) := iter (impl_boxesOk_b0 k) big x
noncomputable def impl_boxesOk_b6 (k : (List (Int × Int × Int × Int × Int × Int × Int × Int × Int × Int × Int × Int × Int)) × Int × Unit) (x : Int × Int × Unit) : Option ((Int × Int × Unit) ⊕ (Int × Unit ⊕ Empty)) :=
 (bif (rCmp .lss x.2.1 k.2.1) then (bif (rInR k.1 x.2.1) then (bif (rCmp .eql (rGet zIIIIIIIIIIIII k.1 x.2.1).2.2.2.1 (2 : Int)) then some (.inl ((rArith .sub .i64 x.1 (1 : Int)), (rArith .add .i64 x.2.1 (1 : Int)), ())) else (bif (rCmp .eql (rGet zIIIIIIIIIIIII k.1 x.2.1).2.2.2.1 (3 : Int)) then some (.inl ((rArith .sub .i64 x.1 (1 : Int)), (rArith .add .i64 x.2.1 (1 : Int)), ())) else some (.inl (x.1, (rArith .add .i64 x.2.1 (1 : Int)), ())))) else none) else some (.inr (.inl (x.1, ()))))
noncomputable def impl_boxesOk_l6 (k : (List (Int × Int × Int × Int × Int × Int × Int × Int × Int × Int × Int × Int × Int)) × Int × Unit) (x : Int × Int × Unit) : Option (Int × Unit ⊕ Empty) := iter (impl_boxesOk_b6 k) big x
noncomputable def impl_boxesOk (a0 : Int) (a1 : Int) (a2 : Int) (a3 : Int) (a4 : Int) (a5 : Int) (a6 : Int) (a7 : Int) (a8 : Int) (a9 : Int) (a10 : Int) (a11 : (List ((List (Int × Int)) × (List (Int × Int)) × (List (Int × (List (Int)) × List (Int × Int × Int × Bool))) × Int × Int × Bool × Bool × Bool × Int × Int × List (Int × Int × Int × Int × Int × Int × Int)))) (a12 : (List (Int × Int × Int × Int × Int × Int × Int × Int × Int × Int × Int × Int × Int))) (a13 : (List (Int × Int × Int × Int × Int × Int × Bool))) (a14 : (List (Int × Int × Int × Int × Int × Int × Int))) : Option (Bool × Unit) :=
 ((impl_boxesOk_l0 (a0, a1, a2, a3, a4, a5, a6, a7, a8, a9, a10, a11, a12, a13, a14, a11, (rLen a11), ()) ((0 : Int), (0 : Int), ())).bind fun q0 => (Sum.elim (fun y1 => some (y1.1, ())) (fun q2 => (Sum.elim (fun y3 => ((impl_boxesOk_l6 (a12, (rLen a12), ()) (y3.1, (0 : Int), ())).bind fun q4 => (Sum.elim (fun y5 => some ((rCmp .eql y5.1 (0 : Int)), ())) (fun q6 => (Empty.elim q6)) q4))) (fun q4 => (Empty.elim q4)) q2)) q0))
noncomputable def impl_loadOf_b0 (k : Int × Int × Int × Int × Int × Int × Int × Int × Int × Int × Int × (List ((List (Int × Int)) × (List (Int × Int)) × (List (Int × (List (Int)) × List (Int × Int × Int × Bool))) × Int × Int × Bool × Bool × Bool × Int × Int × List (Int × Int × Int × Int × Int × Int × Int))) × (List (Int × Int × Int × Int × Int × Int × Int × Int × Int × Int × Int × Int × Int)) × (List (Int × Int × Int × Int × Int × Int × Bool)) × (List (Int × Int × Int × Int × Int × Int × Int)) × (List (Int × Int × Int × Int × Int × Int × Int × Int × Int × Int × Int × Int × Int)) × Int × Unit) (x : Int × Int × Unit) : Option ((Int × Int × Unit) ⊕ (Int × Unit ⊕ Empty)) :=
 (bif (rCmp .lss x.2.1 k.2.2.2.2.2.2.2.2.2.2.2.2.2.2.2.2.1) then (bif (rInR k.2.2.2.2.2.2.2.2.2.2.2.2.2.2.2.1 x.2.1) then (bif (rCmp .neq (rGet zIIIIIIIIIIIII k.2.2.2.2.2.2.2.2.2.2.2.2.2.2.2.1 x.2.1).2.2.2.1 (0 : Int)) then ((impl_isUnplaced k.1 k.2.1 k.2.2.1 k.2.2.2.1 k.2.2.2.2.1 k.2.2.2.2.2.1 k.2.2.2.2.2.2.1 k.2.2.2.2.2.2.2.1 k.2.2.2.2.2.2.2.2.1 k.2.2.2.2.2.2.2.2.2.1 k.2.2.2.2.2.2.2.2.2.2.1 k.2.2.2.2.2.2.2.2.2.2.2.1 k.2.2.2.2.2.2.2.2.2.2.2.2.1 k.2.2.2.2.2.2.2.2.2.2.2.2.2.1 k.2.2.2.2.2.2.2.2.2.2.2.2.2.2.1 (rGet zIIIIIIIIIIIII k.2.2.2.2.2.2.2.2.2.2.2.2.2.2.2.1 x.2.1).1 (rGet zIIIIIIIIIIIII k.2.2.2.2.2.2.2.2.2.2.2.2.2.2.2.1 x.2.1).2.1 (rGet zIIIIIIIIIIIII k.2.2.2.2.2.2.2.2.2.2.2.2.2.2.2.1 x.2.1).2.2.1 (rGet zIIIIIIIIIIIII k.2.2.2.2.2.2.2.2.2.2.2.2.2.2.2.1 x.2.1).2.2.2.1 (rGet zIIIIIIIIIIIII k.2.2.2.2.2.2.2.2.2.2.2.2.2.2.2.1 x.2.1).2.2.2.2.1 (rGet zIIIIIIIIIIIII k.2.2.2.2.2.2.2.2.2.2.2.2.2.2.2.1 x.2.1).2.2.2.2.2.1 (rGet zIIIIIIIIIIIII k.2.2.2.2.2.2.2.2.2.2.2.2.2.2.2.1 x.2.1).2.2.2.2.2.2.1 (rGet zIIIIIIIIIIIII k.2.2.2.2.2.2.2.2.2.2.2.2.2.2.2.1 x.2.1).2.2.2.2.2.2.2.1 (rGet zIIIIIIIIIIIII k.2.2.2.2.2.2.2.2.2.2.2.2.2.2.2.1 x.2.1).2.2.2.2.2.2.2.2.1 (rGet zIIIIIIIIIIIII k.2.2.2.2.2.2.2.2.2.2.2.2.2.2.2.1 x.2.1).2.2.2.2.2.2.2.2.2.1 (rGet zIIIIIIIIIIIII k.2.2.2.2.2.2.2.2.2.2.2.2.2.2.2.1 x.2.1).2.2.2.2.2.2.2.2.2.2.1 (rGet zIIIIIIIIIIIII k.2.2.2.2.2.2.2.2.2.2.2.2.2.2.2.1 x.2.1).2.2.2.2.2.2.2.2.2.2.2.1 (rGet zIIIIIIIIIIIII k.2.2.2.2.2.2.2.2.2.2.2.2.2.2.2.1 x.2.1).2.2.2.2.2.2.2.2.2.2.2.2).bind fun y0 => (bif y0.1 then some (.inl ((rArith .add .i64 x.1 (rGet zIIIIIIIIIIIII k.2.2.2.2.2.2.2.2.2.2.2.2.2.2.2.1 x.2.1).1), (rArith .add .i64 x.2.1 (1 : Int)), ())) else some (.inl (x.1, (rArith .add .i64 x.2.1 (1 : Int)), ())))) else some (.inl (x.1, (rArith .add .i64 x.2.1 (1 : Int)), ()))) else none) else some (.inr (.inl (x.1, ()))))
noncomputable def impl_loadOf_l0 (k : Int × Int × Int × Int × Int × Int × Int × Int × Int × Int × Int × (List ((List (Int × Int)) × (List (Int × Int)) × (List (Int × (List (Int)) × List (Int × Int × Int × Bool))) × Int × Int × Bool × Bool × Bool × Int × Int × List (Int × Int × Int × Int × Int × Int × Int))) × (List (Int × Int × Int × Int × Int × Int × Int × Int × Int × Int × Int × Int × Int)) × (List (Int × Int × Int × Int × Int × Int × Bool)) × (List (Int × Int × Int × Int × Int × Int × Int)) × (List (Int × Int × Int × Int × Int × Int × Int × Int × Int × Int × Int × Int × Int)) × Int × Unit) (x : Int × Int × Unit) : Option (Int × Unit ⊕ Empty) := iter (impl_loadOf_b0 k) big x
noncomputable def impl_loadOf (a0 : Int) (a1 : Int) (a2 : Int) (a3 : Int) (a4 : Int) (a5 : Int) (a6 : Int) (a7 : Int) (a8 : Int) (a9 : Int) (a10 : Int) (a11 : (List ((List (Int × Int)) × (List (Int × Int)) × (List (Int × (List (Int)) × List (Int × Int × Int × Bool))) × Int × Int × Bool × Bool × Bool × Int × Int × List (Int × Int × Int × Int × Int × Int × Int)))) (a12 : (List (Int × Int × Int × Int × Int × Int × Int × Int × Int × Int × Int × Int × Int))) (a13 : (List (Int × Int × Int × Int × Int × Int × Bool))) (a14 : (List (Int × Int × Int × Int × Int × Int × Int))) : Option (Int × Unit) :=
 ((impl_loadOf_l0 (a0, a1, a2, a3, a4, a5, a6, a7, a8, a9, a10, a11, a12, a13, a14, a12, (rLen a12), ()) ((0 : Int), (0 : Int), ())).bind fun q0 => (Sum.elim (fun y1 => some (y1.1, ())) (fun q2 => (Empty.elim q2)) q0))
noncomputable def impl_NetworkOk_b0 (k : Int × Int × Int × Int × Int × Int × Int × Int × Int × Int × Int × (List ((List (Int × Int)) × (List (Int × Int)) × (List (Int × (List (Int)) × List (Int × Int × Int × Bool))) × Int × Int × Bool × Bool × Bool × Int × Int × List (Int × Int × Int × Int × Int × Int × Int))) × (List (Int × Int × Int × Int × Int × Int × Int × Int × Int × Int × Int × Int × Int)) × (List (Int × Int × Int × Int × Int × Int × Bool)) × (List (Int × Int × Int × Int × Int × Int × Int)) × Int × Unit) (x : Int × Unit) : Option ((Int × Unit) ⊕ (Bool × Unit ⊕ (Unit ⊕ Empty))) :=
 (bif (rCmp .lss x.1 k.2.2.2.2.2.2.2.2.2.2.2.2.2.2.2.1) then ((impl_siteOk k.1 k.2.1 k.2.2.1 k.2.2.2.1 k.2.2.2.2.1 k.2.2.2.2.2.1 k.2.2.2.2.2.2.1 k.2.2.2.2.2.2.2.1 k.2.2.2.2.2.2.2.2.1 k.2.2.2.2.2.2.2.2.2.1 k.2.2.2.2.2.2.2.2.2.2.1 k.2.2.2.2.2.2.2.2.2.2.2.1 k.2.2.2.2.2.2.2.2.2.2.2.2.1 k.2.2.2.2.2.2.2.2.2.2.2.2.2.1 k.2.2.2.2.2.2.2.2.2.2.2.2.2.2.1 x.1).bind fun y0 => (bif (Bool.not y0.1) then some (.inr (.inl (false, ()))) else some (.inl ((rArith .add .i64 x.1 (1 : Int)), ())))) else some (.inr (.inr (.inl (())))))
noncomputable def impl_NetworkOk_l0 (k : Int × Int × Int × Int × Int × Int × Int × Int × Int × Int × Int × (List ((List (Int × Int)) × (List (Int × Int)) × (List (Int × (List (Int)) × List (Int × Int × Int × Bool))) × Int × Int × Bool × Bool × Bool × Int × Int × List (Int × Int × Int × Int × Int × Int × Int))) × (List (Int × Int × Int × Int × Int × Int × Int × Int × Int × Int × Int × Int × Int)) × (List (Int × Int × Int × Int × Int × Int × Bool)) × (List (Int × Int × Int × Int × Int × Int × Int)) × Int × Unit) (x : Int × Unit) : Option (Bool × Unit ⊕ (Unit ⊕ Empty)) := iter (impl_NetworkOk_b0 k) big x
noncomputable def impl_NetworkOk_b2 (k : Int × Int × Int × Int × Int × Int × Int × Int × Int × Int × Int × (List ((List (Int × Int)) × (List (Int × Int)) × (List (Int × (List (Int)) × List (Int × Int × Int × Bool))) × Int × Int × Bool × Bool × Bool × Int × Int × List (Int × Int × Int × Int × Int × Int × Int))) × (List (Int × Int × Int × Int × Int × Int × Int × Int × Int × Int × Int × Int × Int)) × (List (Int × Int × Int × Int × Int × Int × Bool)) × (List (Int × Int × Int × Int × Int × Int × Int)) × Int × Unit) (x : Int × Unit) : Option ((Int × Unit) ⊕ (Bool × Unit ⊕ (Unit ⊕ Empty))) :=
 (bif (rCmp .lss x.1 k.2.2.2.2.2.2.2.2.2.2.2.2.2.2.2.1) then ((impl_parcelOk k.1 k.2.1 k.2.2.1 k.2.2.2.1 k.2.2.2.2.1 k.2.2.2.2.2.1 k.2.2.2.2.2.2.1 k.2.2.2.2.2.2.2.1 k.2.2.2.2.2.2.2.2.1 k.2.2.2.2.2.2.2.2.2.1 k.2.2.2.2.2.2.2.2.2.2.1 k.2.2.2.2.2.2.2.2.2.2.2.1 k.2.2.2.2.2.2.2.2.2.2.2.2.1 k.2.2.2.2.2.2.2.2.2.2.2.2.2.1 k.2.2.2.2.2.2.2.2.2.2.2.2.2.2.1 x.1).bind fun y0 => (bif (Bool.not y0.1) then some (.inr (.inl (false, ()))) else some (.inl ((rArith .add .i64 x.1 (1 : Int)), ())))) else some (.inr (.inr (.inl (())))))
noncomputable def impl_NetworkOk_l2 (k : Int × Int × Int × Int × Int × Int × Int × Int × Int × Int × Int × (List ((List (Int × Int)) × (List (Int × Int)) × (List (Int × (List (Int)) × List (Int × Int × Int × Bool))) × Int × Int × Bool × Bool × Bool × Int × Int × List (Int × Int × Int × Int × Int × Int × Int))) × (List (Int × Int × Int × Int × Int × Int × Int × Int × Int × Int × Int × Int × Int)) × (List (Int × Int × Int × Int × Int × Int × Bool)) × (List (Int × Int × Int × Int × Int × Int × Int)) × Int × Unit) (x : Int × Unit) : Option (Bool × Unit ⊕ (Unit ⊕ Empty)) := iter (impl_NetworkOk_b2 k) big x
noncomputable def impl_NetworkOk (a0 : Int) (a1 : Int) (a2 : Int) (a3 : Int) (a4 : Int) (a5 : Int) (a6 : Int) (a7 : Int) (a8 : Int) (a9 : Int) (a10 : Int) (a11 : (List ((List (Int × Int)) × (List (Int × Int)) × (List (Int × (List (Int)) × List (Int × Int × Int × Bool))) × Int × Int × Bool × Bool × Bool × Int × Int × List (Int × Int × Int × Int × Int × Int × Int)))) (a12 : (List (Int × Int × Int × Int × Int × Int × Int × Int × Int × Int × Int × Int × Int))) (a13 : (List (Int × Int × Int × Int × Int × Int × Bool))) (a14 : (List (Int × Int × Int × Int × Int × Int × Int))) : Option (Bool × Unit) :=
 ((impl_TermsOk a0 a1 a2 a3 a4 a5 a6 a7).bind fun y0 => (bif (Bool.not y0.1) then some (false, ()) else ((impl_within a8 (0 : Int) (1000 : Int)).bind fun y1 => (bif (Bool.not y1.1) then some (false, ()) else ((impl_secretOk a9).bind fun y2 => (bif (Bool.not y2.1) then some (false, ()) else ((impl_timeOk a10).bind fun y3 => (bif (Bool.not y3.1) then some (false, ()) else ((impl_within (rLen a11) (1 : Int) (3 : Int)).bind fun y4 => (bif (Bool.not y4.1) then some (false, ()) else (bif (rCmp .gtr (rLen a12) (12 : Int)) then some (false, ()) else ((impl_GrantsOk a13).bind fun y5 => (bif (Bool.not y5.1) then some (false, ()) else ((impl_JournalOk a14).bind fun y6 => (bif (Bool.not y6.1) then some (false, ()) else ((impl_NetworkOk_l0 (a0, a1, a2, a3, a4, a5, a6, a7, a8, a9, a10, a11, a12, a13, a14, (rLen a11), ()) ((0 : Int), ())).bind fun q7 => (Sum.elim (fun y8 => some (y8.1, ())) (fun q9 => (Sum.elim (fun y10 => ((impl_NetworkOk_l2 (a0, a1, a2, a3, a4, a5, a6, a7, a8, a9, a10, a11, a12, a13, a14, (rLen a12), ()) ((0 : Int), ())).bind fun q11 => (Sum.elim (fun y12 => some (y12.1, ())) (fun q13 => (Sum.elim (fun y14 => ((impl_boxesOk a0 a1 a2 a3 a4 a5 a6 a7 a8 a9 a10 a11 a12 a13 a14).bind fun y15 => (bif y15.1 then ((impl_loadOf a0 a1 a2 a3 a4 a5 a6 a7 a8 a9 a10 a11 a12 a13 a14).bind fun y16 => some ((rCmp .leq y16.1 a8), ())) else some (false, ())))) (fun q15 => (Empty.elim q15)) q13)) q11))) (fun q11 => (Empty.elim q11)) q9)) q7)))))))))))))))))
end Go.Fn
set_option linter.unusedVariables false
set_option linter.unusedSimpArgs false
namespace Go.Fn
open Go.R
theorem mget_put (m : List (Int × Bool)) (k k' : Int) (v : Bool) : rMget (rMput m k v) k' = bif k' == k then v else rMget m k' := by
 induction m with
 | nil => simp only [rMput, rMget]
 | cons y r ih =>
  unfold rMput
  cases hb : k == y.1 with
  | true =>
   have hk : k = y.1 := by simpa using hb
   subst hk
   simp only [cond_true, rMget]
   cases k' == y.1 <;> rfl
  | false =>
   simp only [cond_false, rMget, ih]
   cases h1 : k' == y.1 with
   | false => rfl
   | true =>
    have : k' = y.1 := by simpa using h1
    subst this
    have : (y.1 == k) = false := by
     rw [Bool.eq_false_iff] at hb ⊢
     intro e
     exact hb (by simpa using (beq_iff_eq.1 e).symm)
    rw [this]
    rfl
noncomputable def putAll (m : List (Int × Bool)) (l : List Int) : List (Int × Bool) := l.foldl (fun m k => rMput m k true) m
theorem mget_all (k : Int) : ∀ (l : List Int) (m : List (Int × Bool)), rMget (putAll m l) k = true ↔ rMget m k = true ∨ k ∈ l
 | [], m => by simp [putAll]
 | x :: l, m => by
  have := mget_all k l (rMput m x true)
  unfold putAll at this ⊢
  rw [List.foldl_cons, this, mget_put]
  cases hb : k == x with
  | true => simp [beq_iff_eq.1 hb]
  | false =>
   have : k ≠ x := by rintro rfl; simp at hb
   simp [this]
theorem putAll_snoc (m : List (Int × Bool)) (l : List Int) (x : Int) : putAll m (l ++ [x]) = rMput (putAll m l) x true := by unfold putAll; rw [List.foldl_append]; rfl
theorem take_snoc {α : Type} {l : List α} {n : Nat} (h : n < l.length) (z : α) : l.take (n + 1) = l.take n ++ [l.getD n z] := by
 rw [List.take_add_one, List.getElem?_eq_getElem h, List.getD_eq_getElem?_getD, List.getElem?_eq_getElem h]
 rfl
theorem mem_take {α : Type} {l : List α} {n : Nat} {x z : α} (hn : n ≤ l.length) : x ∈ l.take n ↔ ∃ k, k < n ∧ l.getD k z = x := by
 constructor
 ·intro h
  obtain ⟨k, hk, e⟩ := List.mem_iff_getElem.1 h
  rw [List.length_take] at hk
  rw [List.getElem_take] at e
  exact ⟨k, by omega, by rw [List.getD_eq_getElem?_getD, List.getElem?_eq_getElem (by omega)]; exact e⟩
 ·rintro ⟨k, hk, e⟩
  rw [List.getD_eq_getElem?_getD, List.getElem?_eq_getElem (show k < l.length by omega)] at e
  rw [← e]
  have : (l.take n)[k]? = some l[k] := by rw [List.getElem?_take_of_lt hk, List.getElem?_eq_getElem (by omega)]
  exact List.mem_of_getElem? this
noncomputable def bxAt (l : List Bx) (n : Nat) : Bx := l.getD n zIIIB
noncomputable def psum (l : List Bx) (n : Nat) : Int := (l.take n).foldl (fun a b => rArith .add .i64 a b.2.1) 0
theorem psum_succ (l : List Bx) {n : Nat} (h : n < l.length) : psum l (n + 1) = rArith .add .i64 (psum l n) (bxAt l n).2.1 := by
 unfold psum bxAt
 rw [take_snoc h zIIIB, List.foldl_append]
 rfl
noncomputable def dupIn (l : List Bx) (n k : Nat) : Bool := Bool.not (rCmp .gtr (bxAt l n).2.2.1 0 && rCmp .eql (bxAt l k).2.2.1 (bxAt l n).2.2.1)
noncomputable def okS (l : List Bx) (n : Nat) : Bool := Bool.not (rCmp .neq (bxAt l n).1 (psum l n)) && inB (bxAt l n).2.1 1 24 && inB (bxAt l n).2.2.1 0 999 && allFrom (dupIn l n) 0 n && Bool.not (rCmp .gtr (psum l (n + 1)) 24)
theorem specBoxes_eq (h : Int) (f : List Int) (l : List Bx) (hl : l.length ≤ 1073741824) : spec_l02Boxes h f l = some (allFrom (okS l) 0 l.length && (rCmp .gtr (rLen l) 0 && rCmp .eql (psum l l.length) h), ()) := by
 unfold spec_l02Boxes
 have : spec_l02Boxes_l0 (h, f, l, ()) (0, 0, ()) = some (bif allFrom (okS l) 0 l.length then (Sum.inr (Sum.inl (psum l l.length, ())) : Bool × Unit ⊕ (Int × Unit ⊕ Empty)) else .inl (false, ())) := by
  refine loop_all (fun n => (psum l n, (n : Int), ())) l.length (by omega) (okS l) _ _ (fun n hn => ?_) ?_
  ·have hin : spec_l02Boxes_l2 (h, f, l, psum l n, (n : Int), ()) ((bxAt l n).1, (bxAt l n).2.1, (bxAt l n).2.2.1, (bxAt l n).2.2.2, 0, ()) = some (bif allFrom (dupIn l n) 0 n then (Sum.inr (Sum.inl ((bxAt l n).1, (bxAt l n).2.1, (bxAt l n).2.2.1, (bxAt l n).2.2.2, ())) : Bool × Unit ⊕ (Int × Int × Int × Bool × Unit ⊕ Empty)) else .inl (false, ())) := by
    refine loop_all (fun k => ((bxAt l n).1, (bxAt l n).2.1, (bxAt l n).2.2.1, (bxAt l n).2.2.2, (k : Int), ())) n (by omega) (dupIn l n) _ _ (fun k hk => ?_) ?_
    ·unfold spec_l02Boxes_b2 dupIn
     have hk2 : k < l.length := by omega
     simp only [lss_nat, hk, decide_true, cond_true, inR_nat, hk2, get_nat, succ64 (n := k) (by omega)]
     show (bif rCmp .gtr (bxAt l n).2.2.1 0 then (bif rCmp .eql (bxAt l k).2.2.1 (bxAt l n).2.2.1 then _ else _) else _) = _
     cases rCmp .gtr (bxAt l n).2.2.1 0 <;> cases rCmp .eql (bxAt l k).2.2.1 (bxAt l n).2.2.1 <;> rfl
    ·unfold spec_l02Boxes_b2
     simp only [lss_nat, Nat.lt_irrefl, decide_false, cond_false]
   unfold spec_l02Boxes_b0 okS
   simp only [lss_len, hn, decide_true, cond_true, inR_nat, get_nat, in_eq, Option.bind_some, succ64 (n := n) (by omega), psum_succ l hn]
   show (bif rCmp .neq (bxAt l n).1 (psum l n) then _ else bif Bool.not (inB (bxAt l n).2.1 1 24) then _ else bif Bool.not (inB (bxAt l n).2.2.1 0 999) then _ else (spec_l02Boxes_l2 (h, f, l, psum l n, (n : Int), ()) ((bxAt l n).1, (bxAt l n).2.1, (bxAt l n).2.2.1, (bxAt l n).2.2.2, 0, ())).bind _) = _
   rw [hin]
   cases rCmp .neq (bxAt l n).1 (psum l n) with
   | true => rfl
   | false =>
    cases inB (bxAt l n).2.1 1 24 with
    | false => rfl
    | true =>
     cases inB (bxAt l n).2.2.1 0 999 with
     | false => rfl
     | true =>
      cases allFrom (dupIn l n) 0 n with
      | false => rfl
      | true =>
       simp only [Bool.not_true, cond_false, cond_true, Option.bind_some, Sum.elim_inr, Sum.elim_inl, Bool.not_false, Bool.true_and]
       cases rCmp .gtr (rArith .add .i64 (psum l n) (bxAt l n).2.1) 24 <;> rfl
  ·unfold spec_l02Boxes_b0
   simp only [lss_len, Nat.lt_irrefl, decide_false, cond_false]
 rw [this]
 cases allFrom (okS l) 0 l.length with
 | false => rfl
 | true =>
  simp only [cond_true, Option.bind_some, Sum.elim_inr, Sum.elim_inl, Bool.true_and]
  cases rCmp .gtr (rLen l) 0 <;> rfl
noncomputable def lows (l : List Bx) : List Int := l.map (·.1)
noncomputable def pars (l : List Bx) : List Int := l.map (·.2.2.1)
noncomputable def okI (h : Int) (l : List Bx) (n : Nat) : Bool := Bool.not (rCmp .neq (bxAt l n).1 (psum l n)) && inB (bxAt l n).2.1 1 (rArith .sub .i64 h (psum l n)) && inB (bxAt l n).2.2.1 0 999 && Bool.not (rCmp .gtr (bxAt l n).2.2.1 0 && rMget (putAll [] (pars (l.take n))) (bxAt l n).2.2.1)
theorem implBoxes_eq (h : Int) (f : List Int) (l : List Bx) (hl : l.length ≤ 1073741824) : impl_ColumnOk_l2 (h, f, l, l, rLen l, ()) (0, [], [], 0, ()) = some (bif allFrom (okI h l) 0 l.length then (Sum.inr (Sum.inl (psum l l.length, putAll [] (lows l), ())) : Bool × Unit ⊕ (Int × (List (Int × Bool)) × Unit ⊕ Empty)) else .inl (false, ())) := by
 have := loop_all (body := impl_ColumnOk_b2 (h, f, l, l, rLen l, ())) (fun n => (psum l n, putAll [] (lows (l.take n)), putAll [] (pars (l.take n)), (n : Int), ())) l.length (by omega) (okI h l) (.inr (.inl (psum l l.length, putAll [] (lows l), ()))) (.inl (false, ())) (fun n hn => ?_) ?_
 ·exact this
 ·unfold impl_ColumnOk_b2 okI
  have e1 : putAll [] (lows (l.take (n + 1))) = rMput (putAll [] (lows (l.take n))) (bxAt l n).1 true := by unfold lows bxAt; rw [take_snoc hn zIIIB, List.map_append]; exact putAll_snoc _ _ _
  have e2 : putAll [] (pars (l.take (n + 1))) = rMput (putAll [] (pars (l.take n))) (bxAt l n).2.2.1 true := by unfold pars bxAt; rw [take_snoc hn zIIIB, List.map_append]; exact putAll_snoc _ _ _
  simp only [lss_len, hn, decide_true, cond_true, inR_nat, get_nat, within_eq, Option.bind_some, succ64 (n := n) (by omega), psum_succ l hn, e1, e2]
  show (bif rCmp .neq (bxAt l n).1 (psum l n) then _ else bif Bool.not (inB (bxAt l n).2.1 1 (rArith .sub .i64 h (psum l n))) then _ else bif Bool.not (inB (bxAt l n).2.2.1 0 999) then _ else bif rCmp .gtr (bxAt l n).2.2.1 0 then (bif rMget (putAll [] (pars (l.take n))) (bxAt l n).2.2.1 then _ else _) else _) = _
  cases rCmp .neq (bxAt l n).1 (psum l n) with
  | true => rfl
  | false =>
   cases inB (bxAt l n).2.1 1 (rArith .sub .i64 h (psum l n)) with
   | false => rfl
   | true =>
    cases inB (bxAt l n).2.2.1 0 999 with
    | false => rfl
    | true =>
     cases rCmp .gtr (bxAt l n).2.2.1 0 with
     | false => rfl
     | true => cases rMget (putAll [] (pars (l.take n))) (bxAt l n).2.2.1 <;> rfl
 ·unfold impl_ColumnOk_b2
  simp only [lss_len, Nat.lt_irrefl, decide_false, cond_false, List.take_length]
theorem neqF {a b : Int} : rCmp .neq a b = false ↔ a = b := by simp [rCmp]
theorem gtrF {a b : Int} : rCmp .gtr a b = false ↔ a ≤ b := by simp [rCmp]
theorem gtrT {a b : Int} : rCmp .gtr a b = true ↔ b < a := by simp [rCmp]
theorem eqlT {a b : Int} : rCmp .eql a b = true ↔ a = b := by simp [rCmp]
theorem par_mem {l : List Bx} {n : Nat} (hn : n ≤ l.length) (p : Int) : rMget (putAll [] (pars (l.take n))) p = true ↔ ∃ k, k < n ∧ (bxAt l k).2.2.1 = p := by
 rw [mget_all]
 simp only [rMget, Bool.false_eq_true, false_or, pars, List.mem_map]
 constructor
 ·rintro ⟨b, hb, e⟩
  obtain ⟨k, hk, rfl⟩ := (mem_take (z := zIIIB) hn).1 hb
  exact ⟨k, hk, e⟩
 ·rintro ⟨k, hk, e⟩
  exact ⟨bxAt l k, (mem_take (z := zIIIB) hn).2 ⟨k, hk, rfl⟩, e⟩
theorem dup_iff {l : List Bx} {n : Nat} (hn : n ≤ l.length) : (Bool.not (rCmp .gtr (bxAt l n).2.2.1 0 && rMget (putAll [] (pars (l.take n))) (bxAt l n).2.2.1)) = allFrom (dupIn l n) 0 n := by
 rw [Bool.eq_iff_iff, allFrom_iff]
 simp only [dupIn, Bool.not_eq_true', Bool.and_eq_false_iff]
 cases h0 : rCmp .gtr (bxAt l n).2.2.1 0 with
 | false => exact ⟨fun _ _ _ _ => .inl rfl, fun _ => .inl rfl⟩
 | true =>
  constructor
  ·intro h m _ hm
   refine .inr ?_
   rcases h with h | h
   ·cases h
   ·cases he : rCmp .eql (bxAt l m).2.2.1 (bxAt l n).2.2.1 with
    | false => rfl
    | true =>
     have := (par_mem hn _).2 ⟨m, by omega, eqlT.1 he⟩
     rw [h] at this
     cases this
  ·intro h
   refine .inr ?_
   cases hm : rMget (putAll [] (pars (l.take n))) (bxAt l n).2.2.1 with
   | false => rfl
   | true =>
    obtain ⟨k, hk, e⟩ := (par_mem hn _).1 hm
    rcases h k (Nat.zero_le _) (by omega) with h | h
    ·cases h
    ·rw [eqlT.2 e] at h; cases h
theorem boxes_iff {h : Int} (h1 : 1 ≤ h) (h2 : h ≤ 24) (l : List Bx) (hl : l.length ≤ 1073741824) : (allFrom (okS l) 0 l.length = true ∧ psum l l.length = h) ↔ (allFrom (okI h l) 0 l.length = true ∧ psum l l.length = h) := by
 have mono : ∀ (hs : ∀ n, n < l.length → 0 ≤ psum l n ∧ psum l n ≤ psum l (n + 1)) (m n : Nat), m ≤ n → n ≤ l.length → psum l m ≤ psum l n := by
  intro hs m n hmn hn
  induction n with
  | zero => rw [show m = 0 by omega]; exact Int.le_refl _
  | succ n ih =>
   rcases Nat.lt_or_ge m (n + 1) with h | h
   ·exact Int.le_trans (ih (by omega) (by omega)) (hs n (by omega)).2
   ·rw [show m = n + 1 by omega]; exact Int.le_refl _
 have p0 : psum l 0 = 0 := rfl
 constructor
 ·rintro ⟨ha, he⟩
  rw [allFrom_iff] at ha
  simp only [okS, Bool.and_eq_true, Bool.not_eq_true', neqF, gtrF, inB_iff] at ha
  have hp : ∀ n, n ≤ l.length → 0 ≤ psum l n ∧ psum l n ≤ 24 := by
   intro n
   induction n with
   | zero => intro _; rw [p0]; omega
   | succ n ih =>
    intro hn
    obtain ⟨⟨⟨⟨_, c2⟩, _⟩, _⟩, c5⟩ := ha n (Nat.zero_le _) (by omega)
    have := ih (by omega)
    refine ⟨?_, c5⟩
    rw [psum_succ l (by omega), add64 (by omega) (by omega)]
    omega
  have hs : ∀ n, n < l.length → 0 ≤ psum l n ∧ psum l n ≤ psum l (n + 1) := fun n hn => by
   obtain ⟨⟨⟨⟨_, c2⟩, _⟩, _⟩, c5⟩ := ha n (Nat.zero_le _) (by omega)
   have := hp n (by omega)
   refine ⟨this.1, ?_⟩
   rw [psum_succ l hn, add64 (by omega) (by omega)]
   omega
  refine ⟨?_, he⟩
  rw [allFrom_iff]
  intro n _ hn
  obtain ⟨⟨⟨⟨c1, c2⟩, c3⟩, c4⟩, c5⟩ := ha n (Nat.zero_le _) (by omega)
  unfold okI
  rw [dup_iff (by omega), c4]
  have := hp n (by omega)
  have hm := mono hs (n + 1) l.length (by omega) (Nat.le_refl _)
  rw [he, psum_succ l (by omega), add64 (by omega) (by omega)] at hm
  rw [sub64 (by omega) (by omega)]
  simp only [Bool.and_eq_true, Bool.not_eq_true', neqF, inB_iff]
  exact ⟨⟨⟨c1, by omega, by omega⟩, c3⟩, trivial⟩
 ·rintro ⟨ha, he⟩
  rw [allFrom_iff] at ha
  have hp : ∀ n, n ≤ l.length → 0 ≤ psum l n ∧ psum l n ≤ h := by
   intro n
   induction n with
   | zero => intro _; rw [p0]; omega
   | succ n ih =>
    intro hn
    have hi := ih (by omega)
    have := ha n (Nat.zero_le _) (by omega)
    unfold okI at this
    rw [sub64 (by omega) (by omega)] at this
    simp only [Bool.and_eq_true, Bool.not_eq_true', neqF, inB_iff] at this
    obtain ⟨⟨⟨_, c2⟩, _⟩, _⟩ := this
    rw [psum_succ l (by omega), add64 (by omega) (by omega)]
    omega
  refine ⟨?_, he⟩
  rw [allFrom_iff]
  intro n _ hn
  have hi := hp n (by omega)
  have hj := hp (n + 1) (by omega)
  have := ha n (Nat.zero_le _) hn
  unfold okI at this
  rw [dup_iff (by omega), sub64 (by omega) (by omega)] at this
  simp only [Bool.and_eq_true, Bool.not_eq_true', neqF, inB_iff] at this
  obtain ⟨⟨⟨c1, c2⟩, c3⟩, c4⟩ := this
  unfold okS
  simp only [Bool.and_eq_true, Bool.not_eq_true', neqF, gtrF, inB_iff]
  exact ⟨⟨⟨⟨c1, by omega, by omega⟩, c3⟩, c4⟩, by omega⟩
noncomputable def fixAt (h : Int) (f : List Int) : Nat → Bool
 | 0 => inB (f.getD 0 zI) 1 (rArith .sub .i64 h 1)
 | n + 1 => inB (f.getD (n + 1) zI) 1 (rArith .sub .i64 h 1) && Bool.not (rCmp .leq (f.getD (n + 1) zI) (f.getD n zI))
noncomputable def foundAt (f : List Int) (l : List Bx) (n : Nat) : Bool := l.any fun b => rCmp .eql b.1 (f.getD n zI)
theorem specFound_eq (h : Int) (f : List Int) (l : List Bx) (n : Nat) (hn : n < f.length) (hl : l.length ≤ 1073741824) : spec_ColumnOk_l2 (h, f, l, (n : Int), ()) (false, 0, ()) = some (.inl (foundAt f l n, ())) := by
 have := loop_end (body := spec_ColumnOk_b2 (h, f, l, (n : Int), ())) (fun k => ((l.take k).any fun b => rCmp .eql b.1 (f.getD n zI), (k : Int), ())) l.length (by omega) (.inl (foundAt f l n, ())) (fun k hk => ?_) ?_
 ·exact this
 ·unfold spec_ColumnOk_b2
  rw [take_snoc hk zIIIB, List.any_append]
  simp only [lss_len, hk, hn, decide_true, cond_true, inR_nat, get_nat, succ64 (n := k) (by omega)]
  cases (l.take k).any fun b => rCmp .eql b.1 (f.getD n zI) with
  | true => rfl
  | false => simp [List.any]
 ·unfold spec_ColumnOk_b2 foundAt
  simp only [lss_len, Nat.lt_irrefl, decide_false, cond_false, List.take_length]
theorem pred1 {n : Nat} (h : n < 1099511627776) : rArith .sub .i64 ((n + 1 : Nat) : Int) 1 = (n : Int) := pred64 h
theorem gt1 (n : Nat) : rCmp .gtr ((n + 1 : Nat) : Int) 0 = true := by simp only [rCmp, gt_iff_lt, decide_eq_true_eq]; omega
noncomputable def colS (h : Int) (f : List Int) (l : List Bx) : Bool := inB h 1 24 && ((allFrom (okS l) 0 l.length && (rCmp .gtr (rLen l) 0 && rCmp .eql (psum l l.length) h)) && allFrom (fun n => fixAt h f n && foundAt f l n) 0 f.length)
theorem specColumn_eq (h : Int) (f : List Int) (l : List Bx) (hf : f.length ≤ 1073741824) (hl : l.length ≤ 1073741824) : spec_ColumnOk h f l = some (colS h f l, ()) := by
 unfold spec_ColumnOk colS
 rw [in_eq, specBoxes_eq h f l hl]
 simp only [Option.bind_some]
 have : spec_ColumnOk_l0 (h, f, l, ()) (0, ()) = some (bif allFrom (fun n => fixAt h f n && foundAt f l n) 0 f.length then (Sum.inr (Sum.inl ()) : Bool × Unit ⊕ (Unit ⊕ Empty)) else .inl (false, ())) := by
  refine loop_all (fun n => ((n : Int), ())) f.length (by omega) (fun n => fixAt h f n && foundAt f l n) _ _ (fun n hn => ?_) ?_
  ·unfold spec_ColumnOk_b0
   simp only [lss_len, hn, decide_true, cond_true, inR_nat, get_nat, in_eq, Option.bind_some, succ64 (n := n) (by omega), specFound_eq h f l n hn hl, Sum.elim_inl]
   cases n with
   | zero =>
    unfold fixAt
    rw [show rCmp .gtr ((0 : Nat) : Int) 0 = false from rfl]
    cases inB (f.getD 0 zI) 1 (rArith .sub .i64 h 1) <;> cases foundAt f l 0 <;> rfl
   | succ m =>
    have hm : m < f.length := by omega
    unfold fixAt
    rw [gt1, pred1 (by omega)]
    simp only [inR_nat, get_nat, hm, decide_true, cond_true]
    cases inB (f.getD (m + 1) zI) 1 (rArith .sub .i64 h 1) <;> cases rCmp .leq (f.getD (m + 1) zI) (f.getD m zI) <;> cases foundAt f l (m + 1) <;> rfl
  ·unfold spec_ColumnOk_b0
   simp only [lss_len, Nat.lt_irrefl, decide_false, cond_false]
 rw [this]
 cases inB h 1 24 with
 | false => rfl
 | true =>
  simp only [Bool.not_true, cond_false, Bool.true_and]
  cases (allFrom (okS l) 0 l.length && (rCmp .gtr (rLen l) 0 && rCmp .eql (psum l l.length) h)) with
  | false => rfl
  | true =>
   simp only [Bool.not_true, cond_false, Bool.true_and]
   cases allFrom (fun n => fixAt h f n && foundAt f l n) 0 f.length <;> rfl
noncomputable def colI (h : Int) (f : List Int) (l : List Bx) : Bool := inB h 1 24 && (Bool.not (rCmp .eql (rLen l) 0) && (allFrom (fixAt h f) 0 f.length && (allFrom (okI h l) 0 l.length && (allFrom (fun n => rMget (putAll [] (lows l)) (f.getD n zI)) 0 f.length && rCmp .eql (psum l l.length) h))))
theorem implColumn_eq (h : Int) (f : List Int) (l : List Bx) (hf : f.length ≤ 1073741824) (hl : l.length ≤ 1073741824) : impl_ColumnOk h f l = some (colI h f l, ()) := by
 unfold impl_ColumnOk colI
 rw [within_eq]
 simp only [Option.bind_some]
 have h0 : impl_ColumnOk_l0 (h, f, l, f, rLen f, ()) (0, ()) = some (bif allFrom (fixAt h f) 0 f.length then (Sum.inr (Sum.inl ()) : Bool × Unit ⊕ (Unit ⊕ Empty)) else .inl (false, ())) := by
  refine loop_all (fun n => ((n : Int), ())) f.length (by omega) (fixAt h f) _ _ (fun n hn => ?_) ?_
  ·unfold impl_ColumnOk_b0
   simp only [lss_len, hn, decide_true, cond_true, inR_nat, get_nat, within_eq, Option.bind_some, succ64 (n := n) (by omega)]
   cases n with
   | zero =>
    unfold fixAt
    rw [show rCmp .gtr ((0 : Nat) : Int) 0 = false from rfl]
    cases inB (f.getD 0 zI) 1 (rArith .sub .i64 h 1) <;> rfl
   | succ m =>
    have hm : m < f.length := by omega
    unfold fixAt
    rw [gt1, pred1 (by omega)]
    simp only [inR_nat, get_nat, hm, decide_true, cond_true]
    cases inB (f.getD (m + 1) zI) 1 (rArith .sub .i64 h 1) <;> cases rCmp .leq (f.getD (m + 1) zI) (f.getD m zI) <;> rfl
  ·unfold impl_ColumnOk_b0
   simp only [lss_len, Nat.lt_irrefl, decide_false, cond_false]
 have h4 : impl_ColumnOk_l4 (h, f, l, psum l l.length, f, rLen f, ()) (putAll [] (lows l), 0, ()) = some (bif allFrom (fun n => rMget (putAll [] (lows l)) (f.getD n zI)) 0 f.length then (Sum.inr (Sum.inl ()) : Bool × Unit ⊕ (Unit ⊕ Empty)) else .inl (false, ())) := by
  refine loop_all (fun n => (putAll [] (lows l), (n : Int), ())) f.length (by omega) _ _ _ (fun n hn => ?_) ?_
  ·unfold impl_ColumnOk_b4
   simp only [lss_len, hn, decide_true, cond_true, inR_nat, get_nat, succ64 (n := n) (by omega)]
   cases rMget (putAll [] (lows l)) (f.getD n zI) <;> rfl
  ·unfold impl_ColumnOk_b4
   simp only [lss_len, Nat.lt_irrefl, decide_false, cond_false]
 rw [h0, implBoxes_eq h f l hl]
 cases inB h 1 24 with
 | false => rfl
 | true =>
  simp only [Bool.not_true, cond_false, Bool.true_and]
  cases rCmp .eql (rLen l) 0 with
  | true => rfl
  | false =>
   simp only [cond_false, Bool.not_false, Bool.true_and]
   cases allFrom (fixAt h f) 0 f.length with
   | false => rfl
   | true =>
    simp only [cond_true, Option.bind_some, Sum.elim_inr, Sum.elim_inl, Bool.true_and]
    cases allFrom (okI h l) 0 l.length with
    | false => rfl
    | true =>
     simp only [cond_true, Option.bind_some, Sum.elim_inr, Sum.elim_inl, Bool.true_and, h4]
     cases allFrom (fun n => rMget (putAll [] (lows l)) (f.getD n zI)) 0 f.length <;> rfl
theorem found_eq (f : List Int) (l : List Bx) (n : Nat) : rMget (putAll [] (lows l)) (f.getD n zI) = foundAt f l n := by
 rw [Bool.eq_iff_iff, mget_all]
 simp only [rMget, Bool.false_eq_true, false_or, lows, foundAt, List.mem_map, List.any_eq_true, eqlT]
theorem col_eq (h : Int) (f : List Int) (l : List Bx) (hl : l.length ≤ 1073741824) : colS h f l = colI h f l := by
 unfold colS colI
 cases h1 : inB h 1 24 with
 | false => rfl
 | true =>
  obtain ⟨q1, q2⟩ := inB_iff.1 h1
  have hb := boxes_iff q1 q2 l hl
  have hne : Bool.not (rCmp .eql (rLen l) 0) = rCmp .gtr (rLen l) 0 := by
   cases hq : rCmp .gtr (rLen l) 0 with
   | true =>
    have : rCmp .eql (rLen l) 0 = false := by rw [Bool.eq_false_iff, ne_eq, eqlT]; have := gtrT.1 hq; omega
    rw [this]; rfl
   | false =>
    have : rCmp .eql (rLen l) 0 = true := by rw [eqlT]; have := gtrF.1 hq; unfold rLen at this ⊢; omega
    rw [this]; rfl
  rw [hne]
  have hfn : (fun n => rMget (putAll [] (lows l)) (f.getD n zI)) = foundAt f l := funext fun n => found_eq f l n
  rw [hfn, Bool.eq_iff_iff]
  simp only [Bool.and_eq_true, eqlT, allFrom_iff, Bool.true_and]
  simp only [allFrom_iff] at hb
  constructor
  ·rintro ⟨⟨c1, c2, c3⟩, c4⟩
   obtain ⟨d1, _⟩ := hb.1 ⟨c1, c3⟩
   exact ⟨c2, fun m x y => (c4 m x y).1, d1, fun m x y => (c4 m x y).2, c3⟩
  ·rintro ⟨c2, c4, c1, c5, c3⟩
   obtain ⟨d1, _⟩ := hb.2 ⟨c1, c3⟩
   exact ⟨⟨d1, c2, c3⟩, fun m x y => ⟨c4 m x y, c5 m x y⟩⟩
noncomputable def colAt (L : List Col) (i : Nat) : Col := L.getD i zILIlLIIIBl
noncomputable def hasP (l : List Bx) (p : Int) : Bool := l.any fun b => rCmp .eql b.2.2.1 p
theorem box_eq (h : Int) (f : List Int) (l : List Bx) (p : Int) (hl : l.length ≤ 1073741824) : ∃ r, spec_l02Box h f l p = some (r, ()) ∧ rCmp .geq r 0 = (rCmp .gtr p 0 && hasP l p) := by
 unfold spec_l02Box
 obtain ⟨y, h1, h2⟩ := loop_find (body := spec_l02Box_b0 (p, h, f, l, ())) (fun n => ((n : Int), ())) l.length (by omega) (fun n => Bool.not (rCmp .eql (l.getD n zIIIB).2.2.1 p && rCmp .gtr p 0)) (Sum.inr (Sum.inl ())) (fun n => Sum.inl ((n : Int), ())) (fun n hn => by
  unfold spec_l02Box_b0
  simp only [lss_len, inR_nat, hn, decide_true, cond_true, get_nat, succ64 (n := n) (by omega)]
  cases rCmp .eql (l.getD n zIIIB).2.2.1 p <;> cases rCmp .gtr p 0 <;> rfl) (by
  unfold spec_l02Box_b0
  simp only [lss_len, Nat.lt_irrefl, decide_false, cond_false])
 have h1' : spec_l02Box_l0 (p, h, f, l, ()) ((0 : Int), ()) = some y := h1
 rw [h1']
 rcases h2 with ⟨e1, rfl⟩ | ⟨e1, n, hn, rfl, e3⟩
 ·refine ⟨-1, rfl, ?_⟩
  rw [allFrom_iff] at e1
  show false = _
  symm
  rw [Bool.and_eq_false_iff]
  cases hp : rCmp .gtr p 0 with
  | false => exact .inl rfl
  | true =>
   refine .inr ?_
   rw [Bool.eq_false_iff]
   intro hh
   obtain ⟨b, hb, he⟩ := List.any_eq_true.1 hh
   obtain ⟨n, hn, rfl⟩ := List.mem_iff_getElem.1 hb
   have := e1 n (Nat.zero_le _) (by omega)
   rw [List.getD_eq_getElem?_getD, List.getElem?_eq_getElem hn, Option.getD_some, he, hp] at this
   cases this
 ·refine ⟨(n : Int), rfl, ?_⟩
  have h0 : rCmp .geq (n : Int) 0 = true := by simp [rCmp]
  rw [h0]
  symm
  have e3 : (rCmp .eql (l.getD n zIIIB).2.2.1 p && rCmp .gtr p 0) = true := by
   cases hq : (rCmp .eql (l.getD n zIIIB).2.2.1 p && rCmp .gtr p 0) with
   | true => rfl
   | false => rw [hq] at e3; first | cases e3 | (simp at e3)
  rw [Bool.and_eq_true] at e3 ⊢
  exact ⟨e3.2, List.any_eq_true.2 ⟨_, getD_mem hn zIIIB, e3.1⟩⟩
noncomputable def crossAt (L : List Col) (i k n : Nat) : Bool := Bool.not (rCmp .gtr (bxAt (colAt L i).2.2 n).2.2.1 0 && hasP (colAt L k).2.2 (bxAt (colAt L i).2.2 n).2.2.1)
noncomputable def bankAtS (L : List Col) (i : Nat) : Bool := colS (colAt L i).1 (colAt L i).2.1 (colAt L i).2.2 && allFrom (fun k => allFrom (crossAt L i k) 0 (colAt L i).2.2.length) 0 i
noncomputable def bankS (L : List Col) : Bool := inB (rLen L) 1 6 && allFrom (bankAtS L) 0 L.length
noncomputable def BankWf (L : List Col) : Prop := L.length ≤ 1073741824 ∧ ∀ c, c ∈ L → c.2.1.length ≤ 1073741824 ∧ c.2.2.length ≤ 1073741824
theorem BankWf.at {L : List Col} (h : BankWf L) {i : Nat} (hi : i < L.length) : (colAt L i).2.1.length ≤ 1073741824 ∧ (colAt L i).2.2.length ≤ 1073741824 := h.2 _ (getD_mem hi _)
theorem specBank_eq (L : List Col) (hw : BankWf L) : spec_BankOk L = some (bankS L, ()) := by
 have hL := hw.1
 unfold spec_BankOk bankS
 rw [in_eq]
 simp only [Option.bind_some]
 have h4 : ∀ i k, i < L.length → k < i → spec_BankOk_l4 (L, (i : Int), (k : Int), ()) (0, ()) = some (bif allFrom (crossAt L i k) 0 (colAt L i).2.2.length then (Sum.inr (Sum.inl ()) : Bool × Unit ⊕ (Unit ⊕ Empty)) else .inl (false, ())) := by
  intro i k hi hk
  have hki : k < L.length := by omega
  have hbi := (hw.at hi).2
  refine loop_all (fun n => ((n : Int), ())) (colAt L i).2.2.length (by omega) _ _ _ (fun n hn => ?_) ?_
  ·unfold spec_BankOk_b4
   obtain ⟨r, e1, e2⟩ := box_eq (colAt L k).1 (colAt L k).2.1 (colAt L k).2.2 (bxAt (colAt L i).2.2 n).2.2.1 (hw.at hki).2
   have e1' : spec_l02Box (L.getD k zILIlLIIIBl).1 (L.getD k zILIlLIIIBl).2.1 (L.getD k zILIlLIIIBl).2.2 ((L.getD i zILIlLIIIBl).2.2.getD n zIIIB).2.2.1 = some (r, ()) := e1
   have hn' : n < (L.getD i zILIlLIIIBl).2.2.length := hn
   simp only [inR_nat, hi, hki, decide_true, cond_true, get_nat, lss_len, hn', e1', Option.bind_some, e2, succ64 (n := n) (by omega)]
   unfold crossAt
   cases (rCmp .gtr (bxAt (colAt L i).2.2 n).2.2.1 0 && hasP (colAt L k).2.2 (bxAt (colAt L i).2.2 n).2.2.1) <;> rfl
  ·unfold spec_BankOk_b4
   have : ¬ ((colAt L i).2.2.length < (L.getD i zILIlLIIIBl).2.2.length) := Nat.lt_irrefl _
   simp only [inR_nat, hi, decide_true, cond_true, get_nat, lss_len, this, decide_false, cond_false]
 have h2 : ∀ i, i < L.length → spec_BankOk_l2 (L, (i : Int), ()) (0, ()) = some (bif allFrom (fun k => allFrom (crossAt L i k) 0 (colAt L i).2.2.length) 0 i then (Sum.inr (Sum.inl ()) : Bool × Unit ⊕ (Unit ⊕ Empty)) else .inl (false, ())) := by
  intro i hi
  refine loop_all (fun n => ((n : Int), ())) i (by omega) _ _ _ (fun k hk => ?_) ?_
  ·unfold spec_BankOk_b2
   simp only [lss_nat, hk, decide_true, cond_true, h4 i k hi hk, Option.bind_some, succ64 (n := k) (by omega)]
   cases allFrom (crossAt L i k) 0 (colAt L i).2.2.length <;> rfl
  ·unfold spec_BankOk_b2
   simp only [lss_nat, Nat.lt_irrefl, decide_false, cond_false]
 have h0 : spec_BankOk_l0 (L, ()) (0, ()) = some (bif allFrom (bankAtS L) 0 L.length then (Sum.inr (Sum.inl ()) : Bool × Unit ⊕ (Unit ⊕ Empty)) else .inl (false, ())) := by
  refine loop_all (fun n => ((n : Int), ())) L.length (by omega) _ _ _ (fun i hi => ?_) ?_
  ·unfold spec_BankOk_b0 bankAtS
   have hc : spec_ColumnOk (L.getD i zILIlLIIIBl).1 (L.getD i zILIlLIIIBl).2.1 (L.getD i zILIlLIIIBl).2.2 = some (colS (colAt L i).1 (colAt L i).2.1 (colAt L i).2.2, ()) := specColumn_eq _ _ _ (hw.at hi).1 (hw.at hi).2
   simp only [lss_len, inR_nat, hi, decide_true, cond_true, get_nat, hc, Option.bind_some, h2 i hi, succ64 (n := i) (by omega)]
   cases colS (colAt L i).1 (colAt L i).2.1 (colAt L i).2.2 with
   | false => rfl
   | true => cases allFrom (fun k => allFrom (crossAt L i k) 0 (colAt L i).2.2.length) 0 i <;> rfl
  ·unfold spec_BankOk_b0
   simp only [lss_len, Nat.lt_irrefl, decide_false, cond_false]
 rw [h0]
 cases inB (rLen L) 1 6 with
 | false => rfl
 | true => cases allFrom (bankAtS L) 0 L.length <;> rfl
noncomputable def parsTo (L : List Col) (i : Nat) : List Int := ((L.take i).map fun c => pars c.2.2).flatten
theorem parsTo_succ {L : List Col} {i : Nat} (h : i < L.length) : parsTo L (i + 1) = parsTo L i ++ pars (colAt L i).2.2 := by
 unfold parsTo colAt
 rw [take_snoc h zILIlLIIIBl, List.map_append, List.flatten_append]
 simp
theorem putAll_app (m : List (Int × Bool)) (a b : List Int) : putAll m (a ++ b) = putAll (putAll m a) b := List.foldl_append
noncomputable def ownAt (L : List Col) (i n : Nat) : Bool := Bool.not (rCmp .gtr (bxAt (colAt L i).2.2 n).2.2.1 0 && rMget (putAll (putAll [] (parsTo L i)) (pars ((colAt L i).2.2.take n))) (bxAt (colAt L i).2.2 n).2.2.1)
noncomputable def bankAtI (L : List Col) (i : Nat) : Bool := colI (colAt L i).1 (colAt L i).2.1 (colAt L i).2.2 && allFrom (ownAt L i) 0 (colAt L i).2.2.length
theorem implBank_eq' (L : List Col) (hw : BankWf L) : impl_BankOk L = some (inB (rLen L) 1 6 && allFrom (bankAtI L) 0 L.length, ()) := by
 have hL := hw.1
 unfold impl_BankOk
 rw [within_eq]
 simp only [Option.bind_some]
 have h2 : ∀ i, i < L.length → impl_BankOk_l2 (L, rLen L, (i : Int), (colAt L i).2.2, rLen (colAt L i).2.2, ()) (putAll [] (parsTo L i), 0, ()) = some (bif allFrom (ownAt L i) 0 (colAt L i).2.2.length then (Sum.inr (Sum.inl (putAll [] (parsTo L (i + 1)), ())) : Bool × Unit ⊕ ((List (Int × Bool)) × Unit ⊕ Empty)) else .inl (false, ())) := by
  intro i hi
  have hb := (hw.at hi).2
  have := loop_all (body := impl_BankOk_b2 (L, rLen L, (i : Int), (colAt L i).2.2, rLen (colAt L i).2.2, ())) (fun n => (putAll (putAll [] (parsTo L i)) (pars ((colAt L i).2.2.take n)), (n : Int), ())) (colAt L i).2.2.length (by omega) (ownAt L i) (Sum.inr (Sum.inl (putAll [] (parsTo L (i + 1)), ()))) (Sum.inl (false, ())) (fun n hn => ?_) ?_
  ·exact this
  ·unfold impl_BankOk_b2 ownAt
   have e2 : putAll (putAll [] (parsTo L i)) (pars ((colAt L i).2.2.take (n + 1))) = rMput (putAll (putAll [] (parsTo L i)) (pars ((colAt L i).2.2.take n))) (bxAt (colAt L i).2.2 n).2.2.1 true := by unfold pars bxAt; rw [take_snoc hn zIIIB, List.map_append]; exact putAll_snoc _ _ _
   simp only [lss_len, inR_nat, hn, decide_true, cond_true, get_nat, succ64 (n := n) (by omega), e2]
   show (bif rCmp .gtr (bxAt (colAt L i).2.2 n).2.2.1 0 then (bif rMget (putAll (putAll [] (parsTo L i)) (pars ((colAt L i).2.2.take n))) (bxAt (colAt L i).2.2 n).2.2.1 then _ else _) else _) = _
   cases rCmp .gtr (bxAt (colAt L i).2.2 n).2.2.1 0 with
   | false => rfl
   | true => cases rMget (putAll (putAll [] (parsTo L i)) (pars ((colAt L i).2.2.take n))) (bxAt (colAt L i).2.2 n).2.2.1 <;> rfl
  ·unfold impl_BankOk_b2
   simp only [lss_len, Nat.lt_irrefl, decide_false, cond_false, List.take_length, parsTo_succ hi, putAll_app]
 have h0 : impl_BankOk_l0 (L, rLen L, ()) ([], 0, ()) = some (bif allFrom (bankAtI L) 0 L.length then (Sum.inr (Sum.inl ()) : Bool × Unit ⊕ (Unit ⊕ Empty)) else .inl (false, ())) := by
  refine loop_all (fun n => (putAll [] (parsTo L n), (n : Int), ())) L.length (by omega) _ _ _ (fun i hi => ?_) ?_
  ·unfold impl_BankOk_b0 bankAtI
   have hc : impl_ColumnOk (L.getD i zILIlLIIIBl).1 (L.getD i zILIlLIIIBl).2.1 (L.getD i zILIlLIIIBl).2.2 = some (colI (colAt L i).1 (colAt L i).2.1 (colAt L i).2.2, ()) := implColumn_eq _ _ _ (hw.at hi).1 (hw.at hi).2
   have h2' := h2 i hi
   unfold colAt at h2'
   simp only [lss_len, inR_nat, hi, decide_true, cond_true, get_nat, hc, Option.bind_some, h2', succ64 (n := i) (by omega)]
   cases colI (colAt L i).1 (colAt L i).2.1 (colAt L i).2.2 with
   | false => rfl
   | true =>
    show (bif Bool.not true then _ else (some (bif allFrom (ownAt L i) 0 (colAt L i).2.2.length then _ else _)).bind _) = _
    cases allFrom (ownAt L i) 0 (colAt L i).2.2.length <;> rfl
  ·unfold impl_BankOk_b0
   simp only [lss_len, Nat.lt_irrefl, decide_false, cond_false]
 rw [h0]
 cases inB (rLen L) 1 6 with
 | false => rfl
 | true => cases allFrom (bankAtI L) 0 L.length <;> rfl
theorem hasP_iff {l : List Bx} {p : Int} : hasP l p = true ↔ p ∈ pars l := by
 simp only [hasP, pars, List.any_eq_true, List.mem_map, eqlT]
theorem parsTo_mem {L : List Col} {i : Nat} (hi : i ≤ L.length) (p : Int) : p ∈ parsTo L i ↔ ∃ k, k < i ∧ p ∈ pars (colAt L k).2.2 := by
 unfold parsTo
 simp only [List.mem_flatten, List.mem_map]
 constructor
 ·rintro ⟨l, ⟨c, hc, rfl⟩, hp⟩
  obtain ⟨k, hk, rfl⟩ := (mem_take (z := zILIlLIIIBl) hi).1 hc
  exact ⟨k, hk, hp⟩
 ·rintro ⟨k, hk, hp⟩
  exact ⟨_, ⟨colAt L k, (mem_take (z := zILIlLIIIBl) hi).2 ⟨k, hk, rfl⟩, rfl⟩, hp⟩
theorem bankAt_eq (L : List Col) (hw : BankWf L) {i : Nat} (hi : i < L.length) : bankAtS L i = bankAtI L i := by
 unfold bankAtS bankAtI
 rw [col_eq _ _ _ (hw.at hi).2]
 cases hc : colI (colAt L i).1 (colAt L i).2.1 (colAt L i).2.2 with
 | false => rfl
 | true =>
  simp only [Bool.true_and]
  have hdup : ∀ n, n < (colAt L i).2.2.length → allFrom (dupIn (colAt L i).2.2 n) 0 n = true := by
   rw [← col_eq _ _ _ (hw.at hi).2] at hc
   unfold colS at hc
   simp only [Bool.and_eq_true] at hc
   intro n hn
   have := (allFrom_iff _ _).1 hc.2.1.1 n (Nat.zero_le _) (by omega)
   unfold okS at this
   simp only [Bool.and_eq_true] at this
   exact this.1.2
  rw [Bool.eq_iff_iff, allFrom_iff, allFrom_iff]
  constructor
  ·intro h n _ hn
   unfold ownAt
   rw [Bool.not_eq_true', Bool.and_eq_false_iff]
   cases hg : rCmp .gtr (bxAt (colAt L i).2.2 n).2.2.1 0 with
   | false => exact .inl rfl
   | true =>
    refine .inr ?_
    cases hm : rMget (putAll (putAll [] (parsTo L i)) (pars ((colAt L i).2.2.take n))) (bxAt (colAt L i).2.2 n).2.2.1 with
    | false => rfl
    | true =>
     exfalso
     rcases (mget_all _ _ _).1 hm with hm | hm
     ·have := (mget_all _ _ _).1 hm
      simp only [rMget, Bool.false_eq_true, false_or] at this
      obtain ⟨k, hk, hp⟩ := (parsTo_mem (by omega) _).1 this
      have := h k (Nat.zero_le _) (by omega)
      have := (allFrom_iff _ _).1 this n (Nat.zero_le _) hn
      unfold crossAt at this
      rw [hg, hasP_iff.2 hp] at this
      cases this
     ·have hd := hdup n (by omega)
      rw [← dup_iff (by omega), hg] at hd
      have : rMget (putAll [] (pars ((colAt L i).2.2.take n))) (bxAt (colAt L i).2.2 n).2.2.1 = true := (mget_all _ _ _).2 (.inr hm)
      rw [this] at hd
      cases hd
  ·intro h k _ hk
   rw [allFrom_iff]
   intro n _ hn
   have := h n (Nat.zero_le _) hn
   unfold ownAt at this
   unfold crossAt
   rw [Bool.not_eq_true', Bool.and_eq_false_iff] at this ⊢
   rcases this with h1 | h1
   ·exact .inl h1
   ·refine .inr ?_
    cases hp : hasP (colAt L k).2.2 (bxAt (colAt L i).2.2 n).2.2.1 with
    | false => rfl
    | true =>
     have : rMget (putAll (putAll [] (parsTo L i)) (pars ((colAt L i).2.2.take n))) (bxAt (colAt L i).2.2 n).2.2.1 = true := (mget_all _ _ _).2 (.inl ((mget_all _ _ _).2 (.inr ((parsTo_mem (by omega) _).2 ⟨k, by omega, hasP_iff.1 hp⟩))))
     rw [this] at h1
     cases h1
theorem implBank_eq (L : List Col) (hw : BankWf L) : impl_BankOk L = some (bankS L, ()) := by
 rw [implBank_eq' L hw]
 unfold bankS
 rw [allFrom_congr L.length 0 fun m _ hm => bankAt_eq L hw (by omega)]
end Go.Fn
set_option linter.unusedVariables false
set_option linter.unusedSimpArgs false
namespace Go.Fn
open Go.R
noncomputable def Sm {α : Type} (P : α → Prop) (x y : Option α) : Prop := ∃ r, x = some r ∧ y = some r ∧ P r
section
variable {α β : Type} {P : α → Prop} {Q : β → Prop}
theorem Sm.ret {a : α} (h : P a) : Sm P (some a) (some a) := ⟨a, rfl, rfl, h⟩
theorem Sm.bind {x y : Option α} {f g : α → Option β} (hx : Sm P x y) (h : ∀ r, P r → Sm Q (f r) (g r)) : Sm Q (x.bind f) (y.bind g) := by
 obtain ⟨r, rfl, rfl, hr⟩ := hx
 exact h r hr
theorem Sm.cond {b : Bool} {x y x' y' : Option α} (hx : b = true → Sm P x x') (hy : b = false → Sm P y y') : Sm P (bif b then x else y) (bif b then x' else y') := by
 cases b
 ·exact hy rfl
 ·exact hx rfl
theorem Sm.guard {b c : Bool} {x y : Option α} (hb : b = true) (hc : c = true) (h : Sm P x y) : Sm P (bif b then x else none) (bif c then y else none) := by
 subst hb hc; exact h
theorem Sm.mono {P' : α → Prop} {x y : Option α} (h : Sm P x y) (hp : ∀ r, P r → P' r) : Sm P' x y := by
 obtain ⟨r, e1, e2, hr⟩ := h
 exact ⟨r, e1, e2, hp r hr⟩
theorem Sm.symm {x y : Option α} (h : Sm P x y) : Sm P y x := by
 obtain ⟨r, e1, e2, hr⟩ := h
 exact ⟨r, e2, e1, hr⟩
theorem same_loop {X Y : Type} {body body' : X → Option (X ⊕ Y)} (Inv : X → Prop) (m : X → Nat) {Q : Y → Prop} (h : ∀ x, Inv x → Sm (fun r => match r with | .inl a => Inv a ∧ m a < m x | .inr b => Q b) (body x) (body' x)) : ∀ (fu : Nat) (x : X), Inv x → m x < fu → Sm Q (iter body fu x) (iter body' fu x)
 | 0, x, _, hm => absurd hm (Nat.not_lt_zero _)
 | fu + 1, x, hi, hm => by
  obtain ⟨r, e1, e2, hr⟩ := h x hi
  cases r with
  | inl a =>
   rw [iter_next e1, iter_next e2]
   exact same_loop Inv m h fu a hr.1 (by have := hr.2; omega)
  | inr b => exact ⟨b, iter_done e1, iter_done e2, hr⟩
end
theorem same_upto {B Y : Type} {body body' : B × Int × Unit → Option ((B × Int × Unit) ⊕ Y)} (len : Nat) (hlen : len ≤ 1073741824) {Q : Y → Prop} (I : B → Prop)
  (hs : ∀ b n, n < len → I b → Sm (fun r => match r with | .inl a => I a.1 ∧ a.2.1 = ((n + 1 : Nat) : Int) | .inr y => Q y) (body (b, (n : Int), ())) (body' (b, (n : Int), ()))) (he : ∀ b, I b → Sm (fun r => match r with | .inl a => False | .inr y => Q y) (body (b, (len : Int), ())) (body' (b, (len : Int), ()))) (b : B) (hb : I b) : Sm Q (iter body big (b, 0, ())) (iter body' big (b, 0, ())) := by
 refine same_loop (fun x => I x.1 ∧ 0 ≤ x.2.1 ∧ x.2.1 ≤ (len : Int)) (fun x => ((len : Int) - x.2.1).toNat) (fun x hx => ?_) big (b, 0, ()) ⟨hb, Int.le_refl _, by show (0 : Int) ≤ (len : Int); omega⟩ (lt_big (by show ((len : Int) - 0).toNat < _; omega))
 obtain ⟨b, i, u⟩ := x
 obtain ⟨h0, h1, h2⟩ := hx
 have h1 : 0 ≤ i := h1
 have h2 : i ≤ (len : Int) := h2
 obtain ⟨n, rfl⟩ : ∃ n : Nat, i = (n : Int) := ⟨i.toNat, by omega⟩
 by_cases h : n < len
 ·refine (hs b n h h0).mono fun r hr => ?_
  cases r with
  | inr y => exact hr
  | inl a =>
   obtain ⟨q1, q2⟩ := hr
   refine ⟨⟨q1, by rw [q2]; omega, by rw [q2]; omega⟩, ?_⟩
   show ((len : Int) - a.2.1).toNat < ((len : Int) - (n : Int)).toNat
   rw [q2]
   omega
 ·have hn : n = len := by omega
  subst hn
  refine (he b h0).mono fun r hr => ?_
  cases r with
  | inl a => exact hr.elim
  | inr y => exact hr
theorem same_all {Y : Type} {body body' : Int × Unit → Option ((Int × Unit) ⊕ Y)} (len : Nat) (hlen : len ≤ 1073741824) (F : Nat → Prop) {Q : Y → Prop}
  (hs : ∀ n, n < len → Sm (fun r => match r with | .inl a => a.1 = ((n + 1 : Nat) : Int) ∧ F n | .inr y => Q y) (body ((n : Int), ())) (body' ((n : Int), ()))) (he : (∀ n, n < len → F n) → Sm (fun r => match r with | .inl a => False | .inr y => Q y) (body ((len : Int), ())) (body' ((len : Int), ()))) : Sm Q (iter body big (0, ())) (iter body' big (0, ())) := by
 refine same_loop (fun x => 0 ≤ x.1 ∧ x.1 ≤ (len : Int) ∧ ∀ m : Nat, (m : Int) < x.1 → F m) (fun x => ((len : Int) - x.1).toNat) (fun x hx => ?_) big (0, ()) ⟨Int.le_refl _, by show (0 : Int) ≤ (len : Int); omega, fun m hm => by have hm : (m : Int) < 0 := hm; omega⟩ (lt_big (by show ((len : Int) - 0).toNat < _; omega))
 obtain ⟨i, u⟩ := x
 obtain ⟨h1, h2, h3⟩ := hx
 have h1 : 0 ≤ i := h1
 have h2 : i ≤ (len : Int) := h2
 have h3 : ∀ m : Nat, (m : Int) < i → F m := h3
 obtain ⟨n, rfl⟩ : ∃ n : Nat, i = (n : Int) := ⟨i.toNat, by omega⟩
 by_cases h : n < len
 ·refine (hs n h).mono fun r hr => ?_
  cases r with
  | inr y => exact hr
  | inl a =>
   obtain ⟨q2, q3⟩ : a.1 = ((n + 1 : Nat) : Int) ∧ F n := hr
   refine ⟨⟨by rw [q2]; omega, by rw [q2]; omega, fun m hm => ?_⟩, ?_⟩
   ·rw [q2] at hm
    rcases Nat.lt_or_ge m n with hmn | hmn
    ·exact h3 m (by omega)
    ·rw [show m = n by omega]; exact q3
   ·show ((len : Int) - a.1).toNat < ((len : Int) - (n : Int)).toNat
    rw [q2]
    omega
 ·have hn : n = len := by omega
  subst hn
  refine (he fun m hm => h3 m (by omega)).mono fun r hr => ?_
  cases r with
  | inl a => exact hr.elim
  | inr y => exact hr
abbrev Any {α : Type} : α → Prop := fun _ => True
theorem sm_eq {α : Type} {x y : Option α} {a : α} (h1 : x = some a) (h2 : y = some a) : Sm (fun r => r = a) x y := ⟨a, h1, h2, rfl⟩
theorem in_sm (a lo hi : Int) : Sm (fun r => r = (inB a lo hi, ())) (spec_l01In a lo hi) (impl_within a lo hi) := sm_eq (in_eq a lo hi) (within_eq a lo hi)
theorem door_all : ∀ (k : Fin 3) (t : Fin 7) (a b c : Bool), spec_DoorOk ((k.val : Nat) : Int) ((t.val : Nat) : Int) a b c = impl_DoorOk ((k.val : Nat) : Int) ((t.val : Nat) : Int) a b c ∧ (impl_DoorOk ((k.val : Nat) : Int) ((t.val : Nat) : Int) a b c).isSome = true := by decide +kernel
theorem door_sm (k t : Int) (a b c : Bool) : Sm (fun r => r.1 = true → 0 ≤ k ∧ k ≤ 2) (spec_DoorOk k t a b c) (impl_DoorOk k t a b c) := by
 cases hk : inB k 0 2 with
 | false =>
  refine ⟨(false, ()), ?_, ?_, fun h => by cases h⟩
  ·unfold spec_DoorOk; rw [in_eq, hk]; rfl
  ·unfold impl_DoorOk; rw [within_eq, hk]; rfl
 | true =>
  obtain ⟨h1, h2⟩ := inB_iff.1 hk
  cases ht : inB t 0 6 with
  | false =>
   refine ⟨(false, ()), ?_, ?_, fun h => by cases h⟩
   ·unfold spec_DoorOk; rw [in_eq, hk, in_eq, ht]; rfl
   ·unfold impl_DoorOk; rw [within_eq, hk, within_eq, ht]; rfl
  | true =>
   obtain ⟨h3, h4⟩ := inB_iff.1 ht
   have := door_all ⟨k.toNat, by omega⟩ ⟨t.toNat, by omega⟩ a b c
   simp only [Int.toNat_of_nonneg h1, Int.toNat_of_nonneg h3] at this
   obtain ⟨r, hr⟩ := Option.isSome_iff_exists.1 this.2
   exact ⟨r, this.1.trans hr, hr, fun _ => ⟨h1, h2⟩⟩
theorem lock_sm (a b c d e : Int) : Sm Any (spec_LockOk a b c d e) (impl_LockOk a b c d e) := by
 unfold spec_LockOk impl_LockOk spec_l03Secret impl_secretOk
 simp only [in_eq, within_eq, Option.bind_some]
 cases inB a 1 2147483646 <;> cases inB b 0 1000001 <;> cases inB c 0 2 <;> cases inB d 0 6 <;> exact .ret trivial
theorem grant_sm (a b c d e f : Int) (o : Bool) : Sm Any (spec_GrantOk a b c d e f o) (impl_GrantOk a b c d e f o) := by
 unfold spec_GrantOk impl_GrantOk spec_l05Person impl_personOk spec_l05Time impl_timeOk
 simp only [in_eq, within_eq, Option.bind_some]
 cases inB a 1 40 <;> cases inB b 1 40 <;> cases rCmp .neq a b <;> cases inB c 0 999 <;> cases inB d 0 5 <;> cases inB e 0 20000 <;> cases inB f 0 20000 <;> exact .ret trivial
noncomputable def grV (x : Grt) : Bool := match impl_GrantOk x.1 x.2.1 x.2.2.1 x.2.2.2.1 x.2.2.2.2.1 x.2.2.2.2.2.1 x.2.2.2.2.2.2 with | some r => r.1 | none => false
theorem grV_eq (x : Grt) : spec_GrantOk x.1 x.2.1 x.2.2.1 x.2.2.2.1 x.2.2.2.2.1 x.2.2.2.2.2.1 x.2.2.2.2.2.2 = some (grV x, ()) ∧ impl_GrantOk x.1 x.2.1 x.2.2.1 x.2.2.2.1 x.2.2.2.2.1 x.2.2.2.2.2.1 x.2.2.2.2.2.2 = some (grV x, ()) := by
 obtain ⟨r, e1, e2, _⟩ := grant_sm x.1 x.2.1 x.2.2.1 x.2.2.2.1 x.2.2.2.2.1 x.2.2.2.2.2.1 x.2.2.2.2.2.2
 have : grV x = r.1 := by unfold grV; rw [e2]
 rw [this]
 exact ⟨e1, e2⟩
theorem grants_sm (g : List Grt) (hg : g.length ≤ 1073741824) : Sm Any (spec_GrantsOk g) (impl_GrantsOk g) := by
 unfold spec_GrantsOk impl_GrantsOk slices_ContainsFunc___impl_Grant_impl_Grant___impl_GrantsOk_1 slices_IndexFunc___impl_Grant_impl_Grant___impl_GrantsOk_1
 have hs : spec_GrantsOk_l0 (g, ()) (0, ()) = some (bif allFrom (fun n => grV (g.getD n zIIIIIIB)) 0 g.length then (Sum.inr (Sum.inl ()) : Bool × Unit ⊕ (Unit ⊕ Empty)) else .inl (false, ())) := by
  refine loop_all (fun n => ((n : Int), ())) g.length (by omega) _ _ _ (fun n hn => ?_) ?_
  ·unfold spec_GrantsOk_b0
   simp only [lss_len, inR_nat, hn, decide_true, cond_true, get_nat, (grV_eq _).1, Option.bind_some, succ64 (n := n) (by omega)]
   cases grV (g.getD n zIIIIIIB) <;> rfl
  ·unfold spec_GrantsOk_b0
   simp only [lss_len, Nat.lt_irrefl, decide_false, cond_false]
 obtain ⟨y, h1, h2⟩ := loop_find (body := slices_IndexFunc___impl_Grant_impl_Grant___impl_GrantsOk_1_b0 (g, rLen g, ())) (fun n => ((n : Int), ())) g.length (by omega) (fun n => grV (g.getD n zIIIIIIB)) (Sum.inr (Sum.inl ())) (fun n => Sum.inl ((n : Int), ())) (fun n hn => by
  unfold slices_IndexFunc___impl_Grant_impl_Grant___impl_GrantsOk_1_b0 impl_GrantsOk_1
  simp only [lss_len, inR_nat, hn, decide_true, cond_true, get_nat, (grV_eq _).2, Option.bind_some, succ64 (n := n) (by omega)]
  cases grV (g.getD n zIIIIIIB) <;> rfl) (by
  unfold slices_IndexFunc___impl_Grant_impl_Grant___impl_GrantsOk_1_b0
  simp only [lss_len, Nat.lt_irrefl, decide_false, cond_false])
 have h1' : slices_IndexFunc___impl_Grant_impl_Grant___impl_GrantsOk_1_l0 (g, rLen g, ()) ((0 : Int), ()) = some y := h1
 rw [hs, h1']
 have hle : rCmp .leq (rLen g) (30 : Int) = Bool.not (rCmp .gtr (rLen g) 30) := leq_not _ _
 rw [hle]
 cases rCmp .gtr (rLen g) (30 : Int) with
 | true => exact .ret trivial
 | false =>
  simp only [Bool.not_false, cond_true, cond_false]
  rcases h2 with ⟨e1, rfl⟩ | ⟨e1, n, hn, rfl, _⟩
  ·rw [e1]; exact ⟨(true, ()), rfl, rfl, trivial⟩
  ·rw [e1]
   have h0 : rCmp .geq (n : Int) 0 = true := by simp [rCmp]
   refine ⟨(false, ()), rfl, ?_, trivial⟩
   show some (Bool.not (rCmp .geq (n : Int) 0), ()) = _
   rw [h0]
   rfl
section
variable (a0 a1 a2 a3 a4 a5 a6 a7 a8 a9 a10 : Int) (s : List Site) (p : List Prc) (g : List Grt) (j : List Ev)
theorem bankWf_of {x : Site} (h : siteLe 1073741824 x) : BankWf x.2.2.1 := ⟨h.b, fun c hc => by
 obtain ⟨n, hn, rfl⟩ := List.mem_iff_getElem.1 hc
 have := h.bs n hn
 rw [List.getD_eq_getElem?_getD, List.getElem?_eq_getElem hn] at this
 exact this⟩
theorem week_sm (o c : List Spn) : Sm Any (spec_WeekOk o c) (impl_WeekOk o c) := ⟨_, specWeek_eq o c, implWeek_eq o c, trivial⟩
theorem bank_sm {L : List Col} (h : BankWf L) : Sm (fun r => r.1 = true → bankS L = true) (spec_BankOk L) (impl_BankOk L) := ⟨_, specBank_eq L h, implBank_eq L h, fun h => h⟩
theorem journal_sm (l : List Ev) : Sm Any (spec_JournalOk l) (impl_JournalOk l) := ⟨_, specJ_eq l, implJ_eq l, trivial⟩
theorem site_sm (k : Nat) (hk : k < s.length) (hs : siteLe 1073741824 (s.getD k zSite)) (hp : p.length ≤ 1048576) : Sm (fun r => r.1 = true → bankS (s.getD k zSite).2.2.1 = true) (spec_l09SiteOk a0 a1 a2 a3 a4 a5 a6 a7 a8 a9 a10 s p g j (k : Int)) (impl_siteOk a0 a1 a2 a3 a4 a5 a6 a7 a8 a9 a10 s p g j (k : Int)) := by
 unfold spec_l09SiteOk impl_siteOk
 refine .guard (inR_lt hk) (inR_lt hk) ?_
 simp only [get_nat]
 have hz : s.getD k zLIIlLIIlLILIlLIIIBllIIBBBIILIIIIIIIl = s.getD k zSite := rfl
 rw [hz]
 generalize s.getD k zSite = x at hs
 have no : ∀ {Q : Prop}, ((false : Bool), ()).1 = true → Q := fun h => by cases h
 refine (week_sm x.1 x.2.1).bind fun r _ => .cond (fun _ => .ret no) fun _ => ?_
 refine (bank_sm (bankWf_of hs)).bind fun r hr => .cond (fun _ => .ret no) fun hb => ?_
 have hbk : bankS x.2.2.1 = true := hr (by cases h : r.1 with | true => rfl | false => rw [h] at hb; cases hb)
 refine (door_sm x.2.2.2.1 x.2.2.2.2.1 x.2.2.2.2.2.1 x.2.2.2.2.2.2.1 x.2.2.2.2.2.2.2.1).bind fun r hr => .cond (fun _ => .ret no) fun hb => ?_
 have hkind := hr (by cases h : r.1 with | true => rfl | false => rw [h] at hb; cases hb)
 refine (journal_sm x.2.2.2.2.2.2.2.2.2.2).bind fun r _ => .cond (fun _ => .ret no) fun _ => ?_
 refine .cond (fun _ => ?_) fun _ => ?_
 ·simp only [lets_def]
  exact .cond (fun _ => .ret fun _ => hbk) fun _ => .ret no
 ·refine (in_sm x.2.2.2.2.2.2.2.2.1 1 (rLen p)).bind fun r hr => .cond (fun _ => .ret no) fun hb => ?_
  subst hr
  have hin : inB x.2.2.2.2.2.2.2.2.1 1 (rLen p) = true := by cases h : inB x.2.2.2.2.2.2.2.2.1 1 (rLen p) with | true => rfl | false => rw [h] at hb; cases hb
  obtain ⟨i1, i2⟩ := inB_iff.1 hin
  unfold rLen at i2
  have hsub : rArith .sub .i64 x.2.2.2.2.2.2.2.2.1 1 = x.2.2.2.2.2.2.2.2.1 - 1 := sub64 (by omega) (by omega)
  rw [hsub]
  have hr : rInR p (x.2.2.2.2.2.2.2.2.1 - 1) = true := inR_iff (by omega) (by omega)
  rw [hr]
  simp only [cond_true]
  refine .cond (fun _ => .ret no) fun _ => .cond (fun _ => .ret no) fun _ => ?_
  obtain ⟨k1, k2⟩ := hkind
  unfold spec_l01In impl_personOk
  simp only [within_eq]
  have hc : x.2.2.2.1 = 0 ∨ x.2.2.2.1 = 1 ∨ x.2.2.2.1 = 2 := by omega
  rcases hc with hc | hc | hc <;> rw [hc]
  ·exact .ret no
  ·show Sm _ (bif rCmp .eql x.2.2.2.2.2.2.2.2.2.1 0 then _ else _) (bif rCmp .eql x.2.2.2.2.2.2.2.2.2.1 0 then _ else _)
   cases rCmp .eql x.2.2.2.2.2.2.2.2.2.1 0 with
   | true => exact .ret fun _ => hbk
   | false => exact .ret no
  ·show Sm _ (spec_l01In x.2.2.2.2.2.2.2.2.2.1 0 40 |>.bind _) (bif rCmp .eql x.2.2.2.2.2.2.2.2.2.1 0 then _ else (some (inB x.2.2.2.2.2.2.2.2.2.1 1 40, ())).bind fun y => some (y.1, ()))
   rw [in_eq]
   cases hq : rCmp .eql x.2.2.2.2.2.2.2.2.2.1 0 with
   | true =>
    have : x.2.2.2.2.2.2.2.2.2.1 = 0 := eqlT.1 hq
    rw [this]
    exact ⟨(true, ()), rfl, rfl, fun _ => hbk⟩
   | false =>
    have h0 : x.2.2.2.2.2.2.2.2.2.1 ≠ 0 := fun e => by rw [eqlT.2 e] at hq; cases hq
    have : inB x.2.2.2.2.2.2.2.2.2.1 0 40 = inB x.2.2.2.2.2.2.2.2.2.1 1 40 := by rw [Bool.eq_iff_iff, inB_iff, inB_iff]; omega
    rw [this]
    exact ⟨_, rfl, rfl, fun _ => hbk⟩
theorem person_sm (a : Int) : Sm Any (spec_l05Person a) (impl_personOk a) := by
 unfold spec_l05Person impl_personOk
 rw [in_eq, within_eq]
 exact .ret trivial
theorem secret_sm (n : Int) : Sm Any (spec_SecretOf a0 a1 a2 a3 a4 a5 a6 a7 a8 a9 a10 s p g j n) (impl_SecretOf a0 a1 a2 a3 a4 a5 a6 a7 a8 a9 a10 s p g j n) := by
 obtain ⟨y, e1, e2⟩ := secret_eq a0 a1 a2 a3 a4 a5 a6 a7 a8 a9 a10 s p g j n
 exact ⟨_, e1, e2, trivial⟩
theorem unplaced_sm (x : Prc) (k : Nat) (hk : k < p.length) (hx : p.getD k zIIIIIIIIIIIII = x) (h0 : 0 ≤ x.2.2.1) (h1 : x.2.2.1 < s.length) : Sm Any (spec_l09Unplaced a0 a1 a2 a3 a4 a5 a6 a7 a8 a9 a10 s p g j (k : Int)) (impl_isUnplaced a0 a1 a2 a3 a4 a5 a6 a7 a8 a9 a10 s p g j x.1 x.2.1 x.2.2.1 x.2.2.2.1 x.2.2.2.2.1 x.2.2.2.2.2.1 x.2.2.2.2.2.2.1 x.2.2.2.2.2.2.2.1 x.2.2.2.2.2.2.2.2.1 x.2.2.2.2.2.2.2.2.2.1 x.2.2.2.2.2.2.2.2.2.2.1 x.2.2.2.2.2.2.2.2.2.2.2.1 x.2.2.2.2.2.2.2.2.2.2.2.2) := by
 unfold spec_l09Unplaced impl_isUnplaced
 rw [inR_lt hk, get_nat, hx, inR_iff h0 h1]
 simp only [cond_true]
 exact .cond (fun _ => .ret trivial) fun _ => .cond (fun _ => .ret trivial) fun _ => .cond (fun _ => .ret trivial) fun _ => .ret trivial
theorem parcel_sm (k : Nat) (hk : k < p.length) (hs : s.length ≤ 1048576) : Sm (fun r => r.1 = true → 0 ≤ (p.getD k zIIIIIIIIIIIII).2.2.1 ∧ (p.getD k zIIIIIIIIIIIII).2.2.1 < s.length) (spec_l09ParcelOk a0 a1 a2 a3 a4 a5 a6 a7 a8 a9 a10 s p g j (k : Int)) (impl_parcelOk a0 a1 a2 a3 a4 a5 a6 a7 a8 a9 a10 s p g j (k : Int)) := by
 unfold spec_l09ParcelOk impl_parcelOk
 refine .guard (inR_lt hk) (inR_lt hk) ?_
 simp only [get_nat]
 generalize hx : p.getD k zIIIIIIIIIIIII = x
 have no : ∀ {Q : Prop}, ((false : Bool), ()).1 = true → Q := fun h => by cases h
 refine (in_sm x.1 1 24).bind fun r _ => .cond (fun _ => .ret no) fun _ => ?_
 refine (person_sm x.2.1).bind fun r _ => .cond (fun _ => .ret no) fun _ => ?_
 refine (in_sm x.2.2.1 0 (rArith .sub .i64 (rLen s) 1)).bind fun r hr => .cond (fun _ => .ret no) fun hb => ?_
 subst hr
 have hin : inB x.2.2.1 0 (rArith .sub .i64 (rLen s) 1) = true := by cases h : inB x.2.2.1 0 (rArith .sub .i64 (rLen s) 1) with | true => rfl | false => rw [h] at hb; cases hb
 obtain ⟨i1, i2⟩ := inB_iff.1 hin
 rw [sub64 (by unfold rLen; omega) (by unfold rLen; omega)] at i2
 have i2 : x.2.2.1 < s.length := by unfold rLen at i2; omega
 have yes : ∀ {b : Bool}, b = true → 0 ≤ x.2.2.1 ∧ x.2.2.1 < s.length := fun _ => ⟨i1, i2⟩
 refine (in_sm x.2.2.2.1 0 5).bind fun r _ => .cond (fun _ => .ret no) fun _ => ?_
 refine .cond (fun _ => .guard (inR_iff i1 i2) (inR_iff i1 i2) (.cond (fun _ => .ret no) fun _ => ?_)) fun _ => ?_
 all_goals
  refine (unplaced_sm a0 a1 a2 a3 a4 a5 a6 a7 a8 a9 a10 s p g j x k hk hx i1 i2).bind fun r _ => .cond (fun _ => ?_) fun _ => ?_
  ·refine .cond (fun _ => .cond (fun _ => .cond (fun _ => .cond (fun _ => ?_) fun _ => .ret no) fun _ => .ret no) fun _ => .ret no) fun _ => .ret no
   simp only [lets_def]
   exact .ret yes
  ·refine (in_sm x.2.2.2.2.1 0 a10).bind fun r _ => .cond (fun _ => .ret no) fun _ => ?_
   refine (in_sm x.2.2.2.2.2.1 0 a7).bind fun r _ => .cond (fun _ => .ret no) fun _ => ?_
   refine (lock_sm x.2.2.2.2.2.2.1 x.2.2.2.2.2.2.2.1 x.2.2.2.2.2.2.2.2.1 x.2.2.2.2.2.2.2.2.2.1 x.2.2.2.2.2.2.2.2.2.2.1).bind fun r _ => .cond (fun _ => .ret no) fun _ => ?_
   refine (secret_sm a0 a1 a2 a3 a4 a5 a6 a7 a8 a9 a10 s p g j (rArith .add .i64 (k : Int) 1)).bind fun r _ => .cond (fun _ => .ret no) fun _ => ?_
   refine .cond (fun _ => ?_) fun _ => ?_
   ·refine (person_sm x.2.2.2.2.2.2.2.2.2.2.2.1).bind fun r _ => .cond (fun _ => ?_) fun _ => .ret no
    exact (in_sm x.2.2.2.2.2.2.2.2.2.2.2.2 0 (rArith .add .i64 a4 (rArith .mul .i64 a6 a7))).bind fun r _ => .ret yes
   ·exact .cond (fun _ => .ret yes) fun _ => .ret no
theorem load_sm (hp : p.length ≤ 1048576) (hs : ∀ k, k < p.length → 0 ≤ (p.getD k zIIIIIIIIIIIII).2.2.1 ∧ (p.getD k zIIIIIIIIIIIII).2.2.1 < s.length) : Sm Any (spec_l09Load a0 a1 a2 a3 a4 a5 a6 a7 a8 a9 a10 s p g j) (impl_loadOf a0 a1 a2 a3 a4 a5 a6 a7 a8 a9 a10 s p g j) := by
 unfold spec_l09Load impl_loadOf
 refine (same_upto (B := Int) (Q := Any) p.length (by omega) (fun _ => True) (fun b n hn _ => ?_) (fun b _ => ?_) (0 : Int) trivial).bind fun q _ => ?_
 ·unfold spec_l09Load_b0 impl_loadOf_b0
  simp only [lss_len, inR_nat, hn, decide_true, cond_true, get_nat, succ64 (n := n) (by omega)]
  obtain ⟨h0, h1⟩ := hs n hn
  refine .cond (fun _ => ?_) fun _ => .ret ⟨trivial, rfl⟩
  refine (unplaced_sm a0 a1 a2 a3 a4 a5 a6 a7 a8 a9 a10 s p g j (p.getD n zIIIIIIIIIIIII) n hn rfl h0 h1).bind fun r _ => .cond (fun _ => .ret ⟨trivial, rfl⟩) fun _ => .ret ⟨trivial, rfl⟩
 ·unfold spec_l09Load_b0 impl_loadOf_b0
  simp only [lss_len, Nat.lt_irrefl, decide_false, cond_false]
  exact .ret trivial
 ·cases q with
  | inl y => exact .ret trivial
  | inr e => exact e.elim
theorem boxes4 (k i : Int) (bank : List Col) (l : List Bx) (hl : l.length ≤ 1073741824) (hpar : ∀ n, n < l.length → 0 ≤ (l.getD n zIIIB).2.2.1 ∧ (l.getD n zIIIB).2.2.1 ≤ 999) (hp : p.length ≤ 1048576) (c : Int) :
  Sm Any (spec_l09BoxesOk_l4 (a0, a1, a2, a3, a4, a5, a6, a7, a8, a9, a10, s, p, g, j, k, i, l, ()) (c, 0, ())) (impl_boxesOk_l4 (a0, a1, a2, a3, a4, a5, a6, a7, a8, a9, a10, s, p, g, j, k, s, rLen s, k, bank, rLen bank, i, l, rLen l, ()) (c, 0, ())) := by
 refine same_upto (B := Int) (Q := Any) l.length (by omega) (fun _ => True) (fun b n hn _ => ?_) (fun b _ => ?_) c trivial
 ·unfold spec_l09BoxesOk_b4 impl_boxesOk_b4
  obtain ⟨h0, h9⟩ := hpar n hn
  revert h0 h9
  simp only [lss_len, inR_nat, hn, decide_true, cond_true, get_nat, succ64 (n := n) (by omega), within_eq, Option.bind_some, lets_def]
  generalize l.getD n zIIIB = x
  intro h0 h9
  refine .cond (fun _ => .ret ⟨trivial, rfl⟩) fun hz => ?_
  have hz : ¬ x.2.2.1 = 0 := fun e => by rw [eqlT.2 e] at hz; cases hz
  have hb : Bool.not (inB x.2.2.1 1 (rLen p)) = rCmp .gtr x.2.2.1 (rLen p) := by
   cases hq : rCmp .gtr x.2.2.1 (rLen p) with
   | true =>
    have := gtrT.1 hq
    have : inB x.2.2.1 1 (rLen p) = false := by rw [Bool.eq_false_iff, ne_eq, inB_iff]; omega
    rw [this]; rfl
   | false =>
    have := gtrF.1 hq
    have : inB x.2.2.1 1 (rLen p) = true := inB_iff.2 ⟨by omega, by omega⟩
    rw [this]; rfl
  rw [hb]
  refine .cond (fun _ => .ret trivial) fun hg => ?_
  have hg := gtrF.1 hg
  unfold rLen at hg
  rw [sub64 (by omega) (by omega)]
  refine .guard (inR_iff (by omega) (by omega)) (inR_iff (by omega) (by omega)) ?_
  generalize rGet zIIIIIIIIIIIII p (x.2.2.1 - 1) = y
  cases rCmp .neq y.2.2.1 k <;> cases rCmp .neq y.1 x.2.1 <;> cases rCmp .neq y.2.2.2.1 2 <;> cases rCmp .neq y.2.2.2.1 3 <;> cases rCmp .eql y.2.2.2.1 2 <;> cases x.2.2.2 <;> first | exact .ret trivial | exact .ret ⟨trivial, rfl⟩
 ·unfold spec_l09BoxesOk_b4 impl_boxesOk_b4
  simp only [lss_len, Nat.lt_irrefl, decide_false, cond_false]
  exact .ret trivial
theorem boxes2 (k : Nat) (hk : k < s.length) (hs : siteLe 1073741824 (s.getD k zSite)) (hb : bankS (s.getD k zSite).2.2.1 = true) (hp : p.length ≤ 1048576) (c : Int) :
  Sm Any (spec_l09BoxesOk_l2 (a0, a1, a2, a3, a4, a5, a6, a7, a8, a9, a10, s, p, g, j, (k : Int), ()) (c, 0, ())) (impl_boxesOk_l2 (a0, a1, a2, a3, a4, a5, a6, a7, a8, a9, a10, s, p, g, j, (k : Int), s, rLen s, (k : Int), (s.getD k zSite).2.2.1, rLen (s.getD k zSite).2.2.1, ()) (c, 0, ())) := by
 have hw := bankWf_of hs
 refine same_upto (B := Int) (Q := Any) (s.getD k zSite).2.2.1.length (by have := hw.1; omega) (fun _ => True) (fun b n hn _ => ?_) (fun b _ => ?_) c trivial
 ·unfold spec_l09BoxesOk_b2 impl_boxesOk_b2
  have hz : s.getD k zLIIlLIIlLILIlLIIIBllIIBBBIILIIIIIIIl = s.getD k zSite := rfl
  simp only [inR_nat, hk, decide_true, cond_true, get_nat, hz, lss_len, hn, succ64 (n := n) (by have := hw.1; omega)]
  refine (boxes4 a0 a1 a2 a3 a4 a5 a6 a7 a8 a9 a10 s p g j (k : Int) (n : Int) (s.getD k zSite).2.2.1 (colAt (s.getD k zSite).2.2.1 n).2.2 (hw.at hn).2 (fun m hm => ?_) hp b).bind fun q _ => ?_
  ·unfold bankS at hb
   rw [Bool.and_eq_true] at hb
   have := (allFrom_iff _ _).1 hb.2 n (Nat.zero_le _) (by omega)
   unfold bankAtS colS at this
   simp only [Bool.and_eq_true] at this
   have := (allFrom_iff _ _).1 this.1.2.1.1 m (Nat.zero_le _) (by omega)
   unfold okS at this
   simp only [Bool.and_eq_true] at this
   exact inB_iff.1 this.1.1.2
  ·cases q with
   | inl y => exact .ret trivial
   | inr q =>
    cases q with
    | inl y => exact .ret ⟨trivial, rfl⟩
    | inr e => exact e.elim
 ·unfold spec_l09BoxesOk_b2 impl_boxesOk_b2
  have hz : s.getD k zLIIlLIIlLILIlLIIIBllIIBBBIILIIIIIIIl = s.getD k zSite := rfl
  simp only [inR_nat, hk, decide_true, cond_true, get_nat, hz, lss_len, Nat.lt_irrefl, decide_false, cond_false]
  exact .ret trivial
theorem boxes_sm (hle : netLe s p g j) (hb : ∀ k, k < s.length → bankS (s.getD k zSite).2.2.1 = true) : Sm Any (spec_l09BoxesOk a0 a1 a2 a3 a4 a5 a6 a7 a8 a9 a10 s p g j) (impl_boxesOk a0 a1 a2 a3 a4 a5 a6 a7 a8 a9 a10 s p g j) := by
 have hls := hle.ls
 have hlp := hle.lp
 unfold spec_l09BoxesOk impl_boxesOk
 refine (same_upto (B := Int) (Q := Any) s.length (by omega) (fun _ => True) (fun b n hn _ => ?_) (fun b _ => ?_) (0 : Int) trivial).bind fun q _ => ?_
 ·unfold spec_l09BoxesOk_b0 impl_boxesOk_b0
  have hz : ∀ n, s.getD n zLIIlLIIlLILIlLIIIBllIIBBBIILIIIIIIIl = s.getD n zSite := fun _ => rfl
  simp only [lss_len, inR_nat, hn, decide_true, cond_true, get_nat, succ64 (n := n) (by omega), hz]
  refine (boxes2 a0 a1 a2 a3 a4 a5 a6 a7 a8 a9 a10 s p g j n hn (hle.ss n hn) (hb n hn) hlp b).bind fun q _ => ?_
  cases q with
  | inl y => exact .ret trivial
  | inr q =>
   cases q with
   | inl y => exact .ret ⟨trivial, rfl⟩
   | inr e => exact e.elim
 ·unfold spec_l09BoxesOk_b0 impl_boxesOk_b0
  simp only [lss_len, Nat.lt_irrefl, decide_false, cond_false]
  exact .ret trivial
 ·cases q with
  | inl y => exact .ret trivial
  | inr q =>
   cases q with
   | inr e => exact e.elim
   | inl y =>
    refine (same_upto (B := Int) (Q := Any) p.length (by omega) (fun _ => True) (fun b n hn _ => ?_) (fun b _ => ?_) y.1 trivial).bind fun q _ => ?_
    ·unfold spec_l09BoxesOk_b6 impl_boxesOk_b6
     simp only [lss_len, inR_nat, hn, decide_true, cond_true, get_nat, succ64 (n := n) (by omega)]
     exact .cond (fun _ => .ret ⟨trivial, rfl⟩) fun _ => .cond (fun _ => .ret ⟨trivial, rfl⟩) fun _ => .ret ⟨trivial, rfl⟩
    ·unfold spec_l09BoxesOk_b6 impl_boxesOk_b6
     simp only [lss_len, Nat.lt_irrefl, decide_false, cond_false]
     exact .ret trivial
    ·cases q with
     | inl y => exact .ret trivial
     | inr e => exact e.elim
theorem network_sm (hle : netLe s p g j) : Sm Any (spec_NetworkOk a0 a1 a2 a3 a4 a5 a6 a7 a8 a9 a10 s p g j) (impl_NetworkOk a0 a1 a2 a3 a4 a5 a6 a7 a8 a9 a10 s p g j) := by
 have hls := hle.ls
 have hlp := hle.lp
 have hlg := hle.lg
 unfold spec_NetworkOk impl_NetworkOk
 refine Sm.bind (P := Any) ⟨_, specTerms_eq .., implTerms_eq .., trivial⟩ fun r _ => .cond (fun _ => .ret trivial) fun _ => ?_
 refine (in_sm a8 0 1000).bind fun r _ => .cond (fun _ => .ret trivial) fun _ => ?_
 refine Sm.bind (P := Any) (by unfold spec_l03Secret impl_secretOk; rw [in_eq, within_eq]; exact .ret trivial) fun r _ => .cond (fun _ => .ret trivial) fun _ => ?_
 refine Sm.bind (P := Any) (by rw [in_eq, timeOk_eq]; exact .ret trivial) fun r _ => .cond (fun _ => .ret trivial) fun _ => ?_
 refine (in_sm (rLen s) 1 3).bind fun r _ => .cond (fun _ => .ret trivial) fun _ => .cond (fun _ => .ret trivial) fun _ => ?_
 refine (grants_sm g (by omega)).bind fun r _ => .cond (fun _ => .ret trivial) fun _ => ?_
 refine (journal_sm j).bind fun r _ => .cond (fun _ => .ret trivial) fun _ => ?_
 refine (same_all s.length (by omega) (fun n => bankS (s.getD n zSite).2.2.1 = true) (Q := fun y => match y with | .inl _ => True | .inr _ => ∀ n, n < s.length → bankS (s.getD n zSite).2.2.1 = true) (fun n hn => ?_) (fun hF => ?_)).bind fun q hq => ?_
 ·unfold spec_NetworkOk_b0 impl_NetworkOk_b0
  simp only [lss_len, hn, decide_true, cond_true, succ64 (n := n) (by omega)]
  refine (site_sm a0 a1 a2 a3 a4 a5 a6 a7 a8 a9 a10 s p g j n hn (hle.ss n hn) hlp).bind fun r hr => .cond (fun _ => .ret trivial) fun hb => .ret ⟨rfl, hr ?_⟩
  cases h : r.1 with | true => rfl | false => rw [h] at hb; cases hb
 ·unfold spec_NetworkOk_b0 impl_NetworkOk_b0
  simp only [lss_len, Nat.lt_irrefl, decide_false, cond_false]
  exact .ret hF
 ·cases q with
  | inl y => exact .ret trivial
  | inr q =>
   cases q with
   | inr e => exact e.elim
   | inl y =>
    have hbank : ∀ n, n < s.length → bankS (s.getD n zSite).2.2.1 = true := hq
    refine (same_all p.length (by omega) (fun n => 0 ≤ (p.getD n zIIIIIIIIIIIII).2.2.1 ∧ (p.getD n zIIIIIIIIIIIII).2.2.1 < s.length) (Q := fun y => match y with | .inl _ => True | .inr _ => ∀ n, n < p.length → 0 ≤ (p.getD n zIIIIIIIIIIIII).2.2.1 ∧ (p.getD n zIIIIIIIIIIIII).2.2.1 < s.length) (fun n hn => ?_) (fun hF => ?_)).bind fun q hq => ?_
    ·unfold spec_NetworkOk_b2 impl_NetworkOk_b2
     simp only [lss_len, hn, decide_true, cond_true, succ64 (n := n) (by omega)]
     refine (parcel_sm a0 a1 a2 a3 a4 a5 a6 a7 a8 a9 a10 s p g j n hn hls).bind fun r hr => .cond (fun _ => .ret trivial) fun hb => .ret ⟨rfl, hr ?_⟩
     cases h : r.1 with | true => rfl | false => rw [h] at hb; cases hb
    ·unfold spec_NetworkOk_b2 impl_NetworkOk_b2
     simp only [lss_len, Nat.lt_irrefl, decide_false, cond_false]
     exact .ret hF
    ·cases q with
     | inl y => exact .ret trivial
     | inr q =>
      cases q with
      | inr e => exact e.elim
      | inl y =>
       refine (boxes_sm a0 a1 a2 a3 a4 a5 a6 a7 a8 a9 a10 s p g j hle hbank).bind fun r _ => .cond (fun _ => ?_) fun _ => .ret trivial
       exact (load_sm a0 a1 a2 a3 a4 a5 a6 a7 a8 a9 a10 s p g j hlp hq).bind fun r _ => .ret trivial
end
end Go.Fn
set_option linter.unusedVariables false
namespace Go.Fn
open Go.R
noncomputable def spec_FeesOf_b0 (k : Int × Int × Int × Int × Int × Int × Int × Int × Int × Int × Int × (List ((List (Int × Int)) × (List (Int × Int)) × (List (Int × (List (Int)) × List (Int × Int × Int × Bool))) × Int × Int × Bool × Bool × Bool × Int × Int × List (Int × Int × Int × Int × Int × Int × Int))) × (List (Int × Int × Int × Int × Int × Int × Int × Int × Int × Int × Int × Int × Int)) × (List (Int × Int × Int × Int × Int × Int × Bool)) × (List (Int × Int × Int × Int × Int × Int × Int)) × Unit) (x : Int × Int × Unit) : Option ((Int × Int × Unit) ⊕ (Int × Unit ⊕ Empty)) :=
 (bif (rCmp .lss x.2.1 (rLen k.2.2.2.2.2.2.2.2.2.2.2.2.1)) then ((spec_NetworkOk k.1 k.2.1 k.2.2.1 k.2.2.2.1 k.2.2.2.2.1 k.2.2.2.2.2.1 k.2.2.2.2.2.2.1 k.2.2.2.2.2.2.2.1 k.2.2.2.2.2.2.2.2.1 k.2.2.2.2.2.2.2.2.2.1 k.2.2.2.2.2.2.2.2.2.2.1 k.2.2.2.2.2.2.2.2.2.2.2.1 k.2.2.2.2.2.2.2.2.2.2.2.2.1 k.2.2.2.2.2.2.2.2.2.2.2.2.2.1 k.2.2.2.2.2.2.2.2.2.2.2.2.2.2.1).bind fun y0 => (bif y0.1 then (bif (rInR k.2.2.2.2.2.2.2.2.2.2.2.2.1 x.2.1) then some (.inl ((rArith .add .i64 x.1 (rGet zIIIIIIIIIIIII k.2.2.2.2.2.2.2.2.2.2.2.2.1 x.2.1).2.2.2.2.2.2.2.2.2.2.2.2), (rArith .add .i64 x.2.1 (1 : Int)), ())) else none) else some (.inr (.inl (x.1, ()))))) else some (.inr (.inl (x.1, ()))))
noncomputable def spec_FeesOf_l0 (k : Int × Int × Int × Int × Int × Int × Int × Int × Int × Int × Int × (List ((List (Int × Int)) × (List (Int × Int)) × (List (Int × (List (Int)) × List (Int × Int × Int × Bool))) × Int × Int × Bool × Bool × Bool × Int × Int × List (Int × Int × Int × Int × Int × Int × Int))) × (List (Int × Int × Int × Int × Int × Int × Int × Int × Int × Int × Int × Int × Int)) × (List (Int × Int × Int × Int × Int × Int × Bool)) × (List (Int × Int × Int × Int × Int × Int × Int)) × Unit) (x : Int × Int × Unit) : Option (Int × Unit ⊕ Empty) := iter (spec_FeesOf_b0 k) big x
noncomputable def spec_FeesOf (a0 : Int) (a1 : Int) (a2 : Int) (a3 : Int) (a4 : Int) (a5 : Int) (a6 : Int) (a7 : Int) (a8 : Int) (a9 : Int) (a10 : Int) (a11 : (List ((List (Int × Int)) × (List (Int × Int)) × (List (Int × (List (Int)) × List (Int × Int × Int × Bool))) × Int × Int × Bool × Bool × Bool × Int × Int × List (Int × Int × Int × Int × Int × Int × Int)))) (a12 : (List (Int × Int × Int × Int × Int × Int × Int × Int × Int × Int × Int × Int × Int))) (a13 : (List (Int × Int × Int × Int × Int × Int × Bool))) (a14 : (List (Int × Int × Int × Int × Int × Int × Int))) : Option (Int × Unit) :=
 ((spec_FeesOf_l0 (a0, a1, a2, a3, a4, a5, a6, a7, a8, a9, a10, a11, a12, a13, a14, ()) ((0 : Int), (0 : Int), ())).bind fun q0 => (Sum.elim (fun y1 => some (y1.1, ())) (fun q2 => (Empty.elim q2)) q0))
noncomputable def impl_FeesOf_b0 (k : (List (Int × Int × Int × Int × Int × Int × Int × Int × Int × Int × Int × Int × Int)) × Int × Unit) (x : Int × Int × Unit) : Option ((Int × Int × Unit) ⊕ (Int × Unit ⊕ Empty)) :=
 (bif (rCmp .lss x.2.1 k.2.1) then (bif (rInR k.1 x.2.1) then some (.inl ((rArith .add .i64 x.1 (rGet zIIIIIIIIIIIII k.1 x.2.1).2.2.2.2.2.2.2.2.2.2.2.2), (rArith .add .i64 x.2.1 (1 : Int)), ())) else none) else some (.inr (.inl (x.1, ()))))
noncomputable def impl_FeesOf_l0 (k : (List (Int × Int × Int × Int × Int × Int × Int × Int × Int × Int × Int × Int × Int)) × Int × Unit) (x : Int × Int × Unit) : Option (Int × Unit ⊕ Empty) := iter (impl_FeesOf_b0 k) big x
noncomputable def impl_FeesOf (a0 : Int) (a1 : Int) (a2 : Int) (a3 : Int) (a4 : Int) (a5 : Int) (a6 : Int) (a7 : Int) (a8 : Int) (a9 : Int) (a10 : Int) (a11 : (List ((List (Int × Int)) × (List (Int × Int)) × (List (Int × (List (Int)) × List (Int × Int × Int × Bool))) × Int × Int × Bool × Bool × Bool × Int × Int × List (Int × Int × Int × Int × Int × Int × Int)))) (a12 : (List (Int × Int × Int × Int × Int × Int × Int × Int × Int × Int × Int × Int × Int))) (a13 : (List (Int × Int × Int × Int × Int × Int × Bool))) (a14 : (List (Int × Int × Int × Int × Int × Int × Int))) : Option (Int × Unit) :=
 ((impl_NetworkOk a0 a1 a2 a3 a4 a5 a6 a7 a8 a9 a10 a11 a12 a13 a14).bind fun y0 => (bif (Bool.not y0.1) then some ((0 : Int), ()) else ((impl_FeesOf_l0 (a12, (rLen a12), ()) ((0 : Int), (0 : Int), ())).bind fun q1 => (Sum.elim (fun y2 => some (y2.1, ())) (fun q3 => (Empty.elim q3)) q1))))
noncomputable def laws_FnExactFeesOf (a0 : Int) (a1 : Int) (a2 : Int) (a3 : Int) (a4 : Int) (a5 : Int) (a6 : Int) (a7 : Int) (a8 : Int) (a9 : Int) (a10 : Int) (a11 : (List ((List (Int × Int)) × (List (Int × Int)) × (List (Int × (List (Int)) × List (Int × Int × Int × Bool))) × Int × Int × Bool × Bool × Bool × Int × Int × List (Int × Int × Int × Int × Int × Int × Int)))) (a12 : (List (Int × Int × Int × Int × Int × Int × Int × Int × Int × Int × Int × Int × Int))) (a13 : (List (Int × Int × Int × Int × Int × Int × Bool))) (a14 : (List (Int × Int × Int × Int × Int × Int × Int))) : Option (Bool × Unit) :=
 ((laws_szNetwork a0 a1 a2 a3 a4 a5 a6 a7 a8 a9 a10 a11 a12 a13 a14 (1048576 : Int)).bind fun y0 => (bif (rCmp .lss y0.1 (0 : Int)) then some (true, ()) else ((laws_toNetwork a0 a1 a2 a3 a4 a5 a6 a7 a8 a9 a10 a11 a12 a13 a14).bind fun y1 => ((spec_FeesOf y1.1 y1.2.1 y1.2.2.1 y1.2.2.2.1 y1.2.2.2.2.1 y1.2.2.2.2.2.1 y1.2.2.2.2.2.2.1 y1.2.2.2.2.2.2.2.1 y1.2.2.2.2.2.2.2.2.1 y1.2.2.2.2.2.2.2.2.2.1 y1.2.2.2.2.2.2.2.2.2.2.1 y1.2.2.2.2.2.2.2.2.2.2.2.1 y1.2.2.2.2.2.2.2.2.2.2.2.2.1 y1.2.2.2.2.2.2.2.2.2.2.2.2.2.1 y1.2.2.2.2.2.2.2.2.2.2.2.2.2.2.1).bind fun y2 => ((laws_toNetwork a0 a1 a2 a3 a4 a5 a6 a7 a8 a9 a10 a11 a12 a13 a14).bind fun y3 => ((impl_FeesOf y3.1 y3.2.1 y3.2.2.1 y3.2.2.2.1 y3.2.2.2.2.1 y3.2.2.2.2.2.1 y3.2.2.2.2.2.2.1 y3.2.2.2.2.2.2.2.1 y3.2.2.2.2.2.2.2.2.1 y3.2.2.2.2.2.2.2.2.2.1 y3.2.2.2.2.2.2.2.2.2.2.1 y3.2.2.2.2.2.2.2.2.2.2.2.1 y3.2.2.2.2.2.2.2.2.2.2.2.2.1 y3.2.2.2.2.2.2.2.2.2.2.2.2.2.1 y3.2.2.2.2.2.2.2.2.2.2.2.2.2.2.1).bind fun y4 => (bif (rCmp .neq y4.1 y2.1) then some (false, ()) else ((laws_toNetwork a0 a1 a2 a3 a4 a5 a6 a7 a8 a9 a10 a11 a12 a13 a14).bind fun y5 => ((laws_eqNetwork y3.1 y3.2.1 y3.2.2.1 y3.2.2.2.1 y3.2.2.2.2.1 y3.2.2.2.2.2.1 y3.2.2.2.2.2.2.1 y3.2.2.2.2.2.2.2.1 y3.2.2.2.2.2.2.2.2.1 y3.2.2.2.2.2.2.2.2.2.1 y3.2.2.2.2.2.2.2.2.2.2.1 y3.2.2.2.2.2.2.2.2.2.2.2.1 y3.2.2.2.2.2.2.2.2.2.2.2.2.1 y3.2.2.2.2.2.2.2.2.2.2.2.2.2.1 y3.2.2.2.2.2.2.2.2.2.2.2.2.2.2.1 y5.1 y5.2.1 y5.2.2.1 y5.2.2.2.1 y5.2.2.2.2.1 y5.2.2.2.2.2.1 y5.2.2.2.2.2.2.1 y5.2.2.2.2.2.2.2.1 y5.2.2.2.2.2.2.2.2.1 y5.2.2.2.2.2.2.2.2.2.1 y5.2.2.2.2.2.2.2.2.2.2.1 y5.2.2.2.2.2.2.2.2.2.2.2.1 y5.2.2.2.2.2.2.2.2.2.2.2.2.1 y5.2.2.2.2.2.2.2.2.2.2.2.2.2.1 y5.2.2.2.2.2.2.2.2.2.2.2.2.2.2.1).bind fun y6 => (bif (Bool.not y6.1) then some (false, ()) else some (true, ())))))))))))
end Go.Fn
set_option linter.unusedVariables false
set_option linter.unusedSimpArgs false
namespace Go.Fn
open Go.R
section
variable (a0 a1 a2 a3 a4 a5 a6 a7 a8 a9 a10 : Int) (s : List Site) (p : List Prc) (g : List Grt) (j : List Ev)
theorem fees_sm (hle : netLe s p g j) : Sm Any (spec_FeesOf a0 a1 a2 a3 a4 a5 a6 a7 a8 a9 a10 s p g j) (impl_FeesOf a0 a1 a2 a3 a4 a5 a6 a7 a8 a9 a10 s p g j) := by
 have hlp := hle.lp
 obtain ⟨r, e1, e2, _⟩ := network_sm a0 a1 a2 a3 a4 a5 a6 a7 a8 a9 a10 s p g j hle
 obtain ⟨b, u⟩ := r
 unfold spec_FeesOf impl_FeesOf
 rw [e2]
 simp only [Option.bind_some]
 cases b with
 | false =>
  have hs : spec_FeesOf_l0 (a0, a1, a2, a3, a4, a5, a6, a7, a8, a9, a10, s, p, g, j, ()) (0, 0, ()) = some (.inl (0, ())) := by
   refine iter_mono (n := 1) (iter_done ?_) (Nat.le_of_lt (lt_big (by omega)))
   unfold spec_FeesOf_b0
   simp only [e1, Option.bind_some, cond_false]
   cases rCmp .lss (0 : Int) (rLen p) <;> rfl
  rw [hs]
  exact ⟨_, rfl, rfl, trivial⟩
 | true =>
  simp only [Bool.not_true, cond_false]
  refine (same_upto (B := Int) (Q := Any) p.length (by omega) (fun _ => True) (fun b n hn _ => ?_) (fun b _ => ?_) (0 : Int) trivial).bind fun q _ => ?_
  ·unfold spec_FeesOf_b0 impl_FeesOf_b0
   simp only [lss_len, inR_nat, hn, decide_true, cond_true, get_nat, succ64 (n := n) (by omega), e1, Option.bind_some]
   exact .ret ⟨trivial, rfl⟩
  ·unfold spec_FeesOf_b0 impl_FeesOf_b0
   simp only [lss_len, Nat.lt_irrefl, decide_false, cond_false]
   exact .ret trivial
  ·cases q with
   | inl y => exact .ret trivial
   | inr e => exact e.elim
theorem feesOf_true (h : netWf s p g j) : laws_FnExactFeesOf a0 a1 a2 a3 a4 a5 a6 a7 a8 a9 a10 s p g j = some (true, ()) := by
 unfold laws_FnExactFeesOf
 obtain ⟨b, h1, h2⟩ := szNetwork_eq a0 a1 a2 a3 a4 a5 a6 a7 a8 a9 a10 s p g j 1048576 h (by decide) (by decide)
 rw [h1]
 simp only [Option.bind_some]
 rcases h2 with rfl | ⟨b0, b1, hle⟩
 ·rfl
 ·rw [neg_of b0]
  have t := toNetwork_eq a0 a1 a2 a3 a4 a5 a6 a7 a8 a9 a10 s p g j hle
  have e := eqNetwork_self a0 a1 a2 a3 a4 a5 a6 a7 a8 a9 a10 s p g j hle
  obtain ⟨y, y1, y2, _⟩ := fees_sm a0 a1 a2 a3 a4 a5 a6 a7 a8 a9 a10 s p g j hle
  simp only [cond_false, t, e, y1, y2, Option.bind_some, neq_self, Bool.not_true]
end
end Go.Fn
