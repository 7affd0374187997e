import Derived.Test.YthdhgmppijjhpaaGreatRE
import Derived.Lib.SlicesCompact
import Derived.Sort.AssemblyPlain
/- Plain functions that stand for Go functions, and what they answer. Conditions: none. -/
set_option autoImplicit false
set_option linter.unusedVariables false
set_option linter.unusedSimpArgs false
set_option linter.unusedVariables false
namespace Go.Fn
open Go.R
noncomputable def zIIIIIII:Int×Int×Int×Int×Int×Int×Int:=((0:Int),(0:Int),(0:Int),(0:Int),(0:Int),(0:Int),(0:Int))
noncomputable def spec_l01In (a0:Int) (a1:Int) (a2:Int):Option (Bool×Unit):=
 (bif (rCmp .geq a0 a1) then some ((rCmp .leq a0 a2),()) else some (false,()))
noncomputable def spec_EventOk (a0:Int) (a1:Int) (a2:Int) (a3:Int) (a4:Int) (a5:Int) (a6:Int):Option (Bool×Unit):=
 ((spec_l01In a0 (0:Int) (5:Int)).bind fun y0=>(bif y0.1 then ((spec_l01In a1 (1:Int) (999:Int)).bind fun y1=>(bif y1.1 then ((spec_l01In a2 (1:Int) (100000:Int)).bind fun y2=>(bif y2.1 then ((spec_l01In a3 (1:Int) (4:Int)).bind fun y3=>(bif y3.1 then ((spec_l01In a4 (1:Int) (999:Int)).bind fun y4=>(bif y4.1 then ((spec_l01In a5 (0:Int) (20000:Int)).bind fun y5=>(bif y5.1 then ((spec_l01In a6 (0:Int) (20000:Int)).bind fun y6=>some (y6.1,())) else some (false,()))) else some (false,()))) else some (false,()))) else some (false,()))) else some (false,()))) else some (false,())))
noncomputable def impl_within (a0:Int) (a1:Int) (a2:Int):Option (Bool×Unit):=
 (bif (rCmp .geq a0 a1) then some ((rCmp .leq a0 a2),()) else some (false,()))
noncomputable def impl_timeOk (a0:Int):Option (Bool×Unit):=
 ((impl_within a0 (0:Int) (20000:Int)).bind fun y0=>some (y0.1,()))
noncomputable def impl_EventOk (a0:Int) (a1:Int) (a2:Int) (a3:Int) (a4:Int) (a5:Int) (a6:Int):Option (Bool×Unit):=
 ((impl_within a0 (0:Int) (5:Int)).bind fun y0=>(bif y0.1 then ((impl_within a1 (1:Int) (999:Int)).bind fun y1=>(bif y1.1 then ((impl_within a2 (1:Int) (100000:Int)).bind fun y2=>(bif y2.1 then ((impl_within a3 (1:Int) (4:Int)).bind fun y3=>(bif y3.1 then ((impl_within a4 (1:Int) (999:Int)).bind fun y4=>(bif y4.1 then ((impl_timeOk a5).bind fun y5=>(bif y5.1 then ((impl_timeOk a6).bind fun y6=>some (y6.1,())) else some (false,()))) else some (false,()))) else some (false,()))) else some (false,()))) else some (false,()))) else some (false,())))
noncomputable def spec_JournalOk_b0 (k:(List (Int×Int×Int×Int×Int×Int×Int))×Unit) (x:Int×Unit):Option ((Int×Unit) ⊕ (Bool×Unit ⊕ (Unit ⊕ Empty))):=
 (bif (rCmp .lss x.1 (rLen k.1)) then (bif (rInR k.1 x.1) then ((spec_EventOk (rGet zIIIIIII k.1 x.1).1 (rGet zIIIIIII k.1 x.1).2.1 (rGet zIIIIIII k.1 x.1).2.2.1 (rGet zIIIIIII k.1 x.1).2.2.2.1 (rGet zIIIIIII k.1 x.1).2.2.2.2.1 (rGet zIIIIIII k.1 x.1).2.2.2.2.2.1 (rGet zIIIIIII k.1 x.1).2.2.2.2.2.2).bind fun y0=>(bif (Bool.not y0.1) then some (.inr (.inl (false,()))) else (bif (rCmp .gtr x.1 (0:Int)) then (bif (rInR k.1 (rArith .sub .i64 x.1 (1:Int))) then (bif (rCmp .lss (rGet zIIIIIII k.1 x.1).1 (rGet zIIIIIII k.1 (rArith .sub .i64 x.1 (1:Int))).1) then some (.inr (.inl (false,()))) else (bif (rCmp .gtr x.1 (0:Int)) then (bif (rInR k.1 (rArith .sub .i64 x.1 (1:Int))) then (bif (rCmp .eql (rGet zIIIIIII k.1 x.1).1 (rGet zIIIIIII k.1 (rArith .sub .i64 x.1 (1:Int))).1) then (bif (rInR k.1 (rArith .sub .i64 x.1 (1:Int))) then (bif (rCmp .leq (rGet zIIIIIII k.1 x.1).2.1 (rGet zIIIIIII k.1 (rArith .sub .i64 x.1 (1:Int))).2.1) then some (.inr (.inl (false,()))) else (bif (rInR k.1 (rArith .sub .i64 x.1 (1:Int))) then (bif (rCmp .leq (rGet zIIIIIII k.1 x.1).2.2.1 (rGet zIIIIIII k.1 (rArith .sub .i64 x.1 (1:Int))).2.2.1) then some (.inr (.inl (false,()))) else some (.inl ((rArith .add .i64 x.1 (1:Int)),()))) else none)) else none) else some (.inl ((rArith .add .i64 x.1 (1:Int)),()))) else none) else some (.inl ((rArith .add .i64 x.1 (1:Int)),())))) else none) else (bif (rCmp .gtr x.1 (0:Int)) then (bif (rInR k.1 (rArith .sub .i64 x.1 (1:Int))) then (bif (rCmp .eql (rGet zIIIIIII k.1 x.1).1 (rGet zIIIIIII k.1 (rArith .sub .i64 x.1 (1:Int))).1) then (bif (rInR k.1 (rArith .sub .i64 x.1 (1:Int))) then (bif (rCmp .leq (rGet zIIIIIII k.1 x.1).2.1 (rGet zIIIIIII k.1 (rArith .sub .i64 x.1 (1:Int))).2.1) then some (.inr (.inl (false,()))) else (bif (rInR k.1 (rArith .sub .i64 x.1 (1:Int))) then (bif (rCmp .leq (rGet zIIIIIII k.1 x.1).2.2.1 (rGet zIIIIIII k.1 (rArith .sub .i64 x.1 (1:Int))).2.2.1) then some (.inr (.inl (false,()))) else some (.inl ((rArith .add .i64 x.1 (1:Int)),()))) else none)) else none) else some (.inl ((rArith .add .i64 x.1 (1:Int)),()))) else none) else some (.inl ((rArith .add .i64 x.1 (1:Int)),())))))) else none) else some (.inr (.inr (.inl (())))))
noncomputable def spec_JournalOk_l0 (k:(List (Int×Int×Int×Int×Int×Int×Int))×Unit) (x:Int×Unit):Option (Bool×Unit ⊕ (Unit ⊕ Empty)):=iter (spec_JournalOk_b0 k) big x
noncomputable def spec_JournalOk (a0:(List (Int×Int×Int×Int×Int×Int×Int))):Option (Bool×Unit):=
 (bif (rCmp .gtr (rLen a0) (60:Int)) then some (false,()) else ((spec_JournalOk_l0 (a0,()) ((0:Int),())).bind fun q0=>(Sum.elim (fun y1=>some (y1.1,())) (fun q2=>(Sum.elim (fun y3=>some (true,())) (fun q4=>(Empty.elim q4)) q2)) q0)))
noncomputable def impl_JournalOk_b0 (k:(List (Int×Int×Int×Int×Int×Int×Int))×(List (Int×Int×Int×Int×Int×Int×Int))×Int×Unit) (x:Int×Unit):Option ((Int×Unit) ⊕ (Bool×Unit ⊕ (Unit ⊕ Empty))):=
 (bif (rCmp .lss x.1 k.2.2.1) then (bif (rInR k.2.1 x.1) then ((impl_EventOk (rGet zIIIIIII k.2.1 x.1).1 (rGet zIIIIIII k.2.1 x.1).2.1 (rGet zIIIIIII k.2.1 x.1).2.2.1 (rGet zIIIIIII k.2.1 x.1).2.2.2.1 (rGet zIIIIIII k.2.1 x.1).2.2.2.2.1 (rGet zIIIIIII k.2.1 x.1).2.2.2.2.2.1 (rGet zIIIIIII k.2.1 x.1).2.2.2.2.2.2).bind fun y0=>(bif (Bool.not y0.1) then some (.inr (.inl (false,()))) else (bif (rCmp .eql x.1 (0:Int)) then some (.inl ((rArith .add .i64 x.1 (1:Int)),())) else (bif (rInR k.1 (rArith .sub .i64 x.1 (1:Int))) then (bif (rCmp .lss (rGet zIIIIIII k.2.1 x.1).1 (rGet zIIIIIII k.1 (rArith .sub .i64 x.1 (1:Int))).1) then some (.inr (.inl (false,()))) else (bif (rCmp .eql (rGet zIIIIIII k.2.1 x.1).1 (rGet zIIIIIII k.1 (rArith .sub .i64 x.1 (1:Int))).1) then (bif (rCmp .leq (rGet zIIIIIII k.2.1 x.1).2.1 (rGet zIIIIIII k.1 (rArith .sub .i64 x.1 (1:Int))).2.1) then some (.inr (.inl (false,()))) else (bif (rCmp .leq (rGet zIIIIIII k.2.1 x.1).2.2.1 (rGet zIIIIIII k.1 (rArith .sub .i64 x.1 (1:Int))).2.2.1) then some (.inr (.inl (false,()))) else some (.inl ((rArith .add .i64 x.1 (1:Int)),())))) else some (.inl ((rArith .add .i64 x.1 (1:Int)),())))) else none)))) else none) else some (.inr (.inr (.inl (())))))
noncomputable def impl_JournalOk_l0 (k:(List (Int×Int×Int×Int×Int×Int×Int))×(List (Int×Int×Int×Int×Int×Int×Int))×Int×Unit) (x:Int×Unit):Option (Bool×Unit ⊕ (Unit ⊕ Empty)):=iter (impl_JournalOk_b0 k) big x
noncomputable def impl_JournalOk (a0:(List (Int×Int×Int×Int×Int×Int×Int))):Option (Bool×Unit):=
 (bif (rCmp .gtr (rLen a0) (60:Int)) then some (false,()) else ((impl_JournalOk_l0 (a0,a0,(rLen a0),()) ((0:Int),())).bind fun q0=>(Sum.elim (fun y1=>some (y1.1,())) (fun q2=>(Sum.elim (fun y3=>some (true,())) (fun q4=>(Empty.elim q4)) q2)) q0)))
noncomputable def laws_eqEvent (a0:Int) (a1:Int) (a2:Int) (a3:Int) (a4:Int) (a5:Int) (a6:Int) (a7:Int) (a8:Int) (a9:Int) (a10:Int) (a11:Int) (a12:Int) (a13:Int):Option (Bool×Unit):=
 (bif (rCmp .neq a0 a7) then some (false,()) else (bif (rCmp .neq a1 a8) then some (false,()) else (bif (rCmp .neq a2 a9) then some (false,()) else (bif (rCmp .neq a3 a10) then some (false,()) else (bif (rCmp .neq a4 a11) then some (false,()) else (bif (rCmp .neq a5 a12) then some (false,()) else (bif (rCmp .neq a6 a13) then some (false,()) else some (true,()))))))))
noncomputable def laws_eqEventS_b0 (k:(List (Int×Int×Int×Int×Int×Int×Int))×(List (Int×Int×Int×Int×Int×Int×Int))×Unit) (x:Int×Unit):Option ((Int×Unit) ⊕ (Bool×Unit ⊕ (Unit ⊕ Empty))):=
 (bif (rCmp .lss x.1 (rLen k.1)) then (bif (rInR k.1 x.1) then (bif (rInR k.2.1 x.1) then ((laws_eqEvent (rGet zIIIIIII k.1 x.1).1 (rGet zIIIIIII k.1 x.1).2.1 (rGet zIIIIIII k.1 x.1).2.2.1 (rGet zIIIIIII k.1 x.1).2.2.2.1 (rGet zIIIIIII k.1 x.1).2.2.2.2.1 (rGet zIIIIIII k.1 x.1).2.2.2.2.2.1 (rGet zIIIIIII k.1 x.1).2.2.2.2.2.2 (rGet zIIIIIII k.2.1 x.1).1 (rGet zIIIIIII k.2.1 x.1).2.1 (rGet zIIIIIII k.2.1 x.1).2.2.1 (rGet zIIIIIII k.2.1 x.1).2.2.2.1 (rGet zIIIIIII k.2.1 x.1).2.2.2.2.1 (rGet zIIIIIII k.2.1 x.1).2.2.2.2.2.1 (rGet zIIIIIII k.2.1 x.1).2.2.2.2.2.2).bind fun y0=>(bif (Bool.not y0.1) then some (.inr (.inl (false,()))) else some (.inl ((rArith .add .i64 x.1 (1:Int)),())))) else none) else none) else some (.inr (.inr (.inl (())))))
noncomputable def laws_eqEventS_l0 (k:(List (Int×Int×Int×Int×Int×Int×Int))×(List (Int×Int×Int×Int×Int×Int×Int))×Unit) (x:Int×Unit):Option (Bool×Unit ⊕ (Unit ⊕ Empty)):=iter (laws_eqEventS_b0 k) big x
noncomputable def laws_eqEventS (a0:(List (Int×Int×Int×Int×Int×Int×Int))) (a1:(List (Int×Int×Int×Int×Int×Int×Int))):Option (Bool×Unit):=
 (bif (rCmp .neq (rLen a0) (rLen a1)) then some (false,()) else ((laws_eqEventS_l0 (a0,a1,()) ((0:Int),())).bind fun q0=>(Sum.elim (fun y1=>some (y1.1,())) (fun q2=>(Sum.elim (fun y3=>some (true,())) (fun q4=>(Empty.elim q4)) q2)) q0)))
end Go.Fn
set_option linter.unusedVariables false
namespace Go.Fn
open Go.R
noncomputable def zI:Int:=(0:Int)
noncomputable def laws_eqIntS_b0 (k:(List (Int))×(List (Int))×Unit) (x:Int×Unit):Option ((Int×Unit) ⊕ (Bool×Unit ⊕ (Unit ⊕ Empty))):=
 (bif (rCmp .lss x.1 (rLen k.1)) then (bif (rInR k.1 x.1) then (bif (rInR k.2.1 x.1) then (bif (rCmp .neq (rGet zI k.1 x.1) (rGet zI k.2.1 x.1)) then some (.inr (.inl (false,()))) else some (.inl ((rArith .add .i64 x.1 (1:Int)),()))) else none) else none) else some (.inr (.inr (.inl (())))))
noncomputable def laws_eqIntS_l0 (k:(List (Int))×(List (Int))×Unit) (x:Int×Unit):Option (Bool×Unit ⊕ (Unit ⊕ Empty)):=iter (laws_eqIntS_b0 k) big x
noncomputable def laws_eqIntS (a0:(List (Int))) (a1:(List (Int))):Option (Bool×Unit):=
 (bif (rCmp .neq (rLen a0) (rLen a1)) then some (false,()) else ((laws_eqIntS_l0 (a0,a1,()) ((0:Int),())).bind fun q0=>(Sum.elim (fun y1=>some (y1.1,())) (fun q2=>(Sum.elim (fun y3=>some (true,())) (fun q4=>(Empty.elim q4)) q2)) q0)))
noncomputable def laws_markEventS_b0 (k:Unit) (x:(List (Int×Int×Int×Int×Int×Int×Int))×Int×Int×Unit):Option (((List (Int×Int×Int×Int×Int×Int×Int))×Int×Int×Unit) ⊕ ((List (Int×Int×Int×Int×Int×Int×Int))×Int×Unit ⊕ Empty)):=
 (bif (rCmp .lss x.2.2.1 (rLen x.1)) then (bif (rInR x.1 x.2.2.1) then (lets (rPut x.1 x.2.2.1 (x.2.1,(rGet zIIIIIII x.1 x.2.2.1).2.1,(rGet zIIIIIII x.1 x.2.2.1).2.2.1,(rGet zIIIIIII x.1 x.2.2.1).2.2.2.1,(rGet zIIIIIII x.1 x.2.2.1).2.2.2.2.1,(rGet zIIIIIII x.1 x.2.2.1).2.2.2.2.2.1,(rGet zIIIIIII x.1 x.2.2.1).2.2.2.2.2.2)) fun v0=>(bif (rInR v0 x.2.2.1) then (lets (rPut v0 x.2.2.1 ((rGet zIIIIIII v0 x.2.2.1).1,(rArith .add .i64 x.2.1 (1:Int)),(rGet zIIIIIII v0 x.2.2.1).2.2.1,(rGet zIIIIIII v0 x.2.2.1).2.2.2.1,(rGet zIIIIIII v0 x.2.2.1).2.2.2.2.1,(rGet zIIIIIII v0 x.2.2.1).2.2.2.2.2.1,(rGet zIIIIIII v0 x.2.2.1).2.2.2.2.2.2)) fun v1=>(bif (rInR v1 x.2.2.1) then (lets (rPut v1 x.2.2.1 ((rGet zIIIIIII v1 x.2.2.1).1,(rGet zIIIIIII v1 x.2.2.1).2.1,(rArith .add .i64 (rArith .add .i64 x.2.1 (1:Int)) (1:Int)),(rGet zIIIIIII v1 x.2.2.1).2.2.2.1,(rGet zIIIIIII v1 x.2.2.1).2.2.2.2.1,(rGet zIIIIIII v1 x.2.2.1).2.2.2.2.2.1,(rGet zIIIIIII v1 x.2.2.1).2.2.2.2.2.2)) fun v2=>(bif (rInR v2 x.2.2.1) then (lets (rPut v2 x.2.2.1 ((rGet zIIIIIII v2 x.2.2.1).1,(rGet zIIIIIII v2 x.2.2.1).2.1,(rGet zIIIIIII v2 x.2.2.1).2.2.1,(rArith .add .i64 (rArith .add .i64 (rArith .add .i64 x.2.1 (1:Int)) (1:Int)) (1:Int)),(rGet zIIIIIII v2 x.2.2.1).2.2.2.2.1,(rGet zIIIIIII v2 x.2.2.1).2.2.2.2.2.1,(rGet zIIIIIII v2 x.2.2.1).2.2.2.2.2.2)) fun v3=>(bif (rInR v3 x.2.2.1) then (lets (rPut v3 x.2.2.1 ((rGet zIIIIIII v3 x.2.2.1).1,(rGet zIIIIIII v3 x.2.2.1).2.1,(rGet zIIIIIII v3 x.2.2.1).2.2.1,(rGet zIIIIIII v3 x.2.2.1).2.2.2.1,(rArith .add .i64 (rArith .add .i64 (rArith .add .i64 (rArith .add .i64 x.2.1 (1:Int)) (1:Int)) (1:Int)) (1:Int)),(rGet zIIIIIII v3 x.2.2.1).2.2.2.2.2.1,(rGet zIIIIIII v3 x.2.2.1).2.2.2.2.2.2)) fun v4=>(bif (rInR v4 x.2.2.1) then (lets (rPut v4 x.2.2.1 ((rGet zIIIIIII v4 x.2.2.1).1,(rGet zIIIIIII v4 x.2.2.1).2.1,(rGet zIIIIIII v4 x.2.2.1).2.2.1,(rGet zIIIIIII v4 x.2.2.1).2.2.2.1,(rGet zIIIIIII v4 x.2.2.1).2.2.2.2.1,(rArith .add .i64 (rArith .add .i64 (rArith .add .i64 (rArith .add .i64 (rArith .add .i64 x.2.1 (1:Int)) (1:Int)) (1:Int)) (1:Int)) (1:Int)),(rGet zIIIIIII v4 x.2.2.1).2.2.2.2.2.2)) fun v5=>(lets (rArith .add .i64 (rArith .add .i64 (rArith .add .i64 (rArith .add .i64 (rArith .add .i64 (rArith .add .i64 x.2.1 (1:Int)) (1:Int)) (1:Int)) (1:Int)) (1:Int)) (1:Int)) fun v6=>(bif (rInR v5 x.2.2.1) then (lets (rPut v5 x.2.2.1 ((rGet zIIIIIII v5 x.2.2.1).1,(rGet zIIIIIII v5 x.2.2.1).2.1,(rGet zIIIIIII v5 x.2.2.1).2.2.1,(rGet zIIIIIII v5 x.2.2.1).2.2.2.1,(rGet zIIIIIII v5 x.2.2.1).2.2.2.2.1,(rGet zIIIIIII v5 x.2.2.1).2.2.2.2.2.1,v6)) fun v7=>some (.inl (v7,(rArith .add .i64 v6 (1:Int)),(rArith .add .i64 x.2.2.1 (1:Int)),()))) else none))) else none)) else none)) else none)) else none)) else none)) else none) else some (.inr (.inl (x.1,x.2.1,()))))
noncomputable def laws_markEventS_l0 (k:Unit) (x:(List (Int×Int×Int×Int×Int×Int×Int))×Int×Int×Unit):Option ((List (Int×Int×Int×Int×Int×Int×Int))×Int×Unit ⊕ Empty):=iter (laws_markEventS_b0 k) big x
noncomputable def laws_markEventS (a0:(List (Int×Int×Int×Int×Int×Int×Int))) (a1:Int):Option (Int×(List (Int×Int×Int×Int×Int×Int×Int))×Unit):=
 ((laws_markEventS_l0 (()) (a0,a1,(0:Int),())).bind fun q0=>(Sum.elim (fun y1=>some (y1.2.1,y1.1,())) (fun q2=>(Empty.elim q2)) q0))
noncomputable def laws_markIntS_b0 (k:Unit) (x:(List (Int))×Int×Int×Unit):Option (((List (Int))×Int×Int×Unit) ⊕ ((List (Int))×Int×Unit ⊕ Empty)):=
 (bif (rCmp .lss x.2.2.1 (rLen x.1)) then (bif (rInR x.1 x.2.2.1) then some (.inl ((rPut x.1 x.2.2.1 x.2.1),(rArith .add .i64 x.2.1 (1:Int)),(rArith .add .i64 x.2.2.1 (1:Int)),())) else none) else some (.inr (.inl (x.1,x.2.1,()))))
noncomputable def laws_markIntS_l0 (k:Unit) (x:(List (Int))×Int×Int×Unit):Option ((List (Int))×Int×Unit ⊕ Empty):=iter (laws_markIntS_b0 k) big x
noncomputable def laws_markIntS (a0:(List (Int))) (a1:Int):Option (Int×(List (Int))×Unit):=
 ((laws_markIntS_l0 (()) (a0,a1,(0:Int),())).bind fun q0=>(Sum.elim (fun y1=>some (y1.2.1,y1.1,())) (fun q2=>(Empty.elim q2)) q0))
noncomputable def laws_heldIntS_b0 (k:(List (Int))×Unit) (x:Int×Int×Unit):Option ((Int×Int×Unit) ⊕ (Int×Unit ⊕ (Int×Unit ⊕ Empty))):=
 (bif (rCmp .lss x.2.1 (rLen k.1)) then (bif (rInR k.1 x.2.1) then (bif (rCmp .neq (rGet zI k.1 x.2.1) x.1) then some (.inr (.inl ((-1:Int),()))) else some (.inl ((rArith .add .i64 x.1 (1:Int)),(rArith .add .i64 x.2.1 (1:Int)),()))) else none) else some (.inr (.inr (.inl (x.1,())))))
noncomputable def laws_heldIntS_l0 (k:(List (Int))×Unit) (x:Int×Int×Unit):Option (Int×Unit ⊕ (Int×Unit ⊕ Empty)):=iter (laws_heldIntS_b0 k) big x
noncomputable def laws_heldIntS (a0:(List (Int))) (a1:Int):Option (Int×Unit):=
 ((laws_heldIntS_l0 (a0,()) (a1,(0:Int),())).bind fun q0=>(Sum.elim (fun y1=>some (y1.1,())) (fun q2=>(Sum.elim (fun y3=>some (y3.1,())) (fun q4=>(Empty.elim q4)) q2)) q0))
noncomputable def laws_toIntS_b0 (k:(List (Int))×Unit) (x:(List (Int))×Int×Unit):Option (((List (Int))×Int×Unit) ⊕ ((List (Int))×Unit ⊕ Empty)):=
 (bif (rCmp .lss x.2.1 (rLen k.1)) then (bif (rInR k.1 x.2.1) then (bif (rInR x.1 x.2.1) then some (.inl ((rPut x.1 x.2.1 (rGet zI k.1 x.2.1)),(rArith .add .i64 x.2.1 (1:Int)),())) else none) else none) else some (.inr (.inl (x.1,()))))
noncomputable def laws_toIntS_l0 (k:(List (Int))×Unit) (x:(List (Int))×Int×Unit):Option ((List (Int))×Unit ⊕ Empty):=iter (laws_toIntS_b0 k) big x
noncomputable def laws_toIntS (a0:(List (Int))):Option ((List (Int))×Unit):=
 (bif (rRepOk (rLen a0)) then ((laws_toIntS_l0 (a0,()) ((rRep (rLen a0) (0:Int)),(0:Int),())).bind fun q0=>(Sum.elim (fun y1=>some (y1.1,())) (fun q2=>(Empty.elim q2)) q0)) else none)
noncomputable def laws_heldEventS_b0 (k:(List (Int×Int×Int×Int×Int×Int×Int))×Unit) (x:Int×Int×Unit):Option ((Int×Int×Unit) ⊕ (Int×Unit ⊕ (Int×Unit ⊕ Empty))):=
 (bif (rCmp .lss x.2.1 (rLen k.1)) then (bif (rInR k.1 x.2.1) then (bif (rCmp .neq (rGet zIIIIIII k.1 x.2.1).1 x.1) then some (.inr (.inl ((-1:Int),()))) else (bif (rInR k.1 x.2.1) then (bif (rCmp .neq (rGet zIIIIIII k.1 x.2.1).2.1 (rArith .add .i64 x.1 (1:Int))) then some (.inr (.inl ((-1:Int),()))) else (bif (rInR k.1 x.2.1) then (bif (rCmp .neq (rGet zIIIIIII k.1 x.2.1).2.2.1 (rArith .add .i64 (rArith .add .i64 x.1 (1:Int)) (1:Int))) then some (.inr (.inl ((-1:Int),()))) else (bif (rInR k.1 x.2.1) then (bif (rCmp .neq (rGet zIIIIIII k.1 x.2.1).2.2.2.1 (rArith .add .i64 (rArith .add .i64 (rArith .add .i64 x.1 (1:Int)) (1:Int)) (1:Int))) then some (.inr (.inl ((-1:Int),()))) else (bif (rInR k.1 x.2.1) then (lets (rCmp .neq (rGet zIIIIIII k.1 x.2.1).2.2.2.2.1 (rArith .add .i64 (rArith .add .i64 (rArith .add .i64 (rArith .add .i64 x.1 (1:Int)) (1:Int)) (1:Int)) (1:Int))) fun v0=>(bif v0 then some (.inr (.inl ((-1:Int),()))) else (bif (rInR k.1 x.2.1) then (lets (rCmp .neq (rGet zIIIIIII k.1 x.2.1).2.2.2.2.2.1 (rArith .add .i64 (rArith .add .i64 (rArith .add .i64 (rArith .add .i64 (rArith .add .i64 x.1 (1:Int)) (1:Int)) (1:Int)) (1:Int)) (1:Int))) fun v1=>(bif v1 then some (.inr (.inl ((-1:Int),()))) else (lets (rArith .add .i64 (rArith .add .i64 (rArith .add .i64 (rArith .add .i64 (rArith .add .i64 (rArith .add .i64 x.1 (1:Int)) (1:Int)) (1:Int)) (1:Int)) (1:Int)) (1:Int)) fun v2=>(bif (rInR k.1 x.2.1) then (bif (rCmp .neq (rGet zIIIIIII k.1 x.2.1).2.2.2.2.2.2 v2) then some (.inr (.inl ((-1:Int),()))) else some (.inl ((rArith .add .i64 v2 (1:Int)),(rArith .add .i64 x.2.1 (1:Int)),()))) else none)))) else none))) else none)) else none)) else none)) else none)) else none) else some (.inr (.inr (.inl (x.1,())))))
noncomputable def laws_heldEventS_l0 (k:(List (Int×Int×Int×Int×Int×Int×Int))×Unit) (x:Int×Int×Unit):Option (Int×Unit ⊕ (Int×Unit ⊕ Empty)):=iter (laws_heldEventS_b0 k) big x
noncomputable def laws_heldEventS (a0:(List (Int×Int×Int×Int×Int×Int×Int))) (a1:Int):Option (Int×Unit):=
 ((laws_heldEventS_l0 (a0,()) (a1,(0:Int),())).bind fun q0=>(Sum.elim (fun y1=>some (y1.1,())) (fun q2=>(Sum.elim (fun y3=>some (y3.1,())) (fun q4=>(Empty.elim q4)) q2)) q0))
end Go.Fn
set_option linter.unusedVariables false
namespace Go.Fn
open Go.R
noncomputable def zLIl:List (Int):=([]:List (Int))
noncomputable def laws_szIntS (a0:(List (Int))) (a1:Int):Option (Int×Unit):=
 (bif (rCmp .lss (rArith .sub .i64 a1 (rLen a0)) (0:Int)) then some ((-1:Int),()) else some ((rArith .sub .i64 a1 (rLen a0)),()))
end Go.Fn
set_option linter.unusedVariables false
namespace Go.Fn
open Go.R
noncomputable def zII:Int×Int:=((0:Int),(0:Int))
noncomputable def laws_szSpanS (a0:(List (Int×Int))) (a1:Int):Option (Int×Unit):=
 (bif (rCmp .lss (rArith .sub .i64 a1 (rLen a0)) (0:Int)) then some ((-1:Int),()) else some ((rArith .sub .i64 a1 (rLen a0)),()))
noncomputable def laws_szWeek (a0:(List (Int×Int))) (a1:(List (Int×Int))) (a2:Int):Option (Int×Unit):=
 ((laws_szSpanS a0 a2).bind fun y0=>(bif (rCmp .lss y0.1 (0:Int)) then some ((-1:Int),()) else ((laws_szSpanS a1 y0.1).bind fun y1=>(bif (rCmp .lss y1.1 (0:Int)) then some ((-1:Int),()) else some (y1.1,())))))
noncomputable def laws_toSpan (a0:Int) (a1:Int):Option (Int×Int×Unit):=
 some (a0,a1,())
noncomputable def laws_toSpanS_b0 (k:(List (Int×Int))×Unit) (x:(List (Int×Int))×Int×Unit):Option (((List (Int×Int))×Int×Unit) ⊕ ((List (Int×Int))×Unit ⊕ Empty)):=
 (bif (rCmp .lss x.2.1 (rLen k.1)) then (bif (rInR k.1 x.2.1) then ((laws_toSpan (rGet zII k.1 x.2.1).1 (rGet zII k.1 x.2.1).2).bind fun y0=>(bif (rInR x.1 x.2.1) then some (.inl ((rPut x.1 x.2.1 (y0.1,y0.2.1)),(rArith .add .i64 x.2.1 (1:Int)),())) else none)) else none) else some (.inr (.inl (x.1,()))))
noncomputable def laws_toSpanS_l0 (k:(List (Int×Int))×Unit) (x:(List (Int×Int))×Int×Unit):Option ((List (Int×Int))×Unit ⊕ Empty):=iter (laws_toSpanS_b0 k) big x
noncomputable def laws_toSpanS (a0:(List (Int×Int))):Option ((List (Int×Int))×Unit):=
 (bif (rRepOk (rLen a0)) then ((laws_toSpanS_l0 (a0,()) ((rRep (rLen a0) ((0:Int),(0:Int))),(0:Int),())).bind fun q0=>(Sum.elim (fun y1=>some (y1.1,())) (fun q2=>(Empty.elim q2)) q0)) else none)
noncomputable def laws_toWeek (a0:(List (Int×Int))) (a1:(List (Int×Int))):Option ((List (Int×Int))×(List (Int×Int))×Unit):=
 ((laws_toSpanS a0).bind fun y0=>((laws_toSpanS a1).bind fun y1=>some (y0.1,y1.1,())))
noncomputable def laws_toTerms (a0:Int) (a1:Int) (a2:Int) (a3:Int) (a4:Int) (a5:Int) (a6:Int) (a7:Int):Option (Int×Int×Int×Int×Int×Int×Int×Int×Unit):=
 some (a0,a1,a2,a3,a4,a5,a6,a7,())
noncomputable def spec_SpansOk_b0 (k:(List (Int×Int))×Int×Unit) (x:Int×Unit):Option ((Int×Unit) ⊕ (Bool×Unit ⊕ (Unit ⊕ Empty))):=
 (bif (rCmp .lss x.1 (rLen k.1)) then (bif (rInR k.1 x.1) then (bif (rCmp .lss (rGet zII k.1 x.1).1 (0:Int)) then some (.inr (.inl (false,()))) else (bif (rCmp .geq (rGet zII k.1 x.1).1 (rGet zII k.1 x.1).2) then some (.inr (.inl (false,()))) else (bif (rCmp .gtr (rGet zII k.1 x.1).2 k.2.1) then some (.inr (.inl (false,()))) else (bif (rCmp .gtr x.1 (0:Int)) then (bif (rInR k.1 (rArith .sub .i64 x.1 (1:Int))) then (bif (rCmp .leq (rGet zII k.1 x.1).1 (rGet zII k.1 (rArith .sub .i64 x.1 (1:Int))).2) then some (.inr (.inl (false,()))) else some (.inl ((rArith .add .i64 x.1 (1:Int)),()))) else none) else some (.inl ((rArith .add .i64 x.1 (1:Int)),())))))) else none) else some (.inr (.inr (.inl (())))))
noncomputable def spec_SpansOk_l0 (k:(List (Int×Int))×Int×Unit) (x:Int×Unit):Option (Bool×Unit ⊕ (Unit ⊕ Empty)):=iter (spec_SpansOk_b0 k) big x
noncomputable def spec_SpansOk (a0:(List (Int×Int))) (a1:Int):Option (Bool×Unit):=
 (bif (rCmp .gtr (rLen a0) (20:Int)) then some (false,()) else ((spec_SpansOk_l0 (a0,a1,()) ((0:Int),())).bind fun q0=>(Sum.elim (fun y1=>some (y1.1,())) (fun q2=>(Sum.elim (fun y3=>some (true,())) (fun q4=>(Empty.elim q4)) q2)) q0)))
noncomputable def spec_WeekOk (a0:(List (Int×Int))) (a1:(List (Int×Int))):Option (Bool×Unit):=
 ((spec_SpansOk a0 (168:Int)).bind fun y0=>(bif y0.1 then ((spec_SpansOk a1 (20000:Int)).bind fun y1=>some (y1.1,())) else some (false,())))
noncomputable def spec_TermsOk (a0:Int) (a1:Int) (a2:Int) (a3:Int) (a4:Int) (a5:Int) (a6:Int) (a7:Int):Option (Bool×Unit):=
 ((spec_l01In a0 (1:Int) (2000:Int)).bind fun y0=>(bif y0.1 then ((spec_l01In a2 (1:Int) (2000:Int)).bind fun y1=>(bif y1.1 then ((spec_l01In a5 (1:Int) (2000:Int)).bind fun y2=>(bif y2.1 then ((spec_l01In a1 (0:Int) (2000:Int)).bind fun y3=>(bif y3.1 then ((spec_l01In a3 (0:Int) (10000:Int)).bind fun y4=>(bif y4.1 then ((spec_l01In a4 (0:Int) (1000000:Int)).bind fun y5=>(bif y5.1 then ((spec_l01In a6 (0:Int) (100000:Int)).bind fun y6=>(bif y6.1 then ((spec_l01In a7 (0:Int) (20:Int)).bind fun y7=>some (y7.1,())) else some (false,()))) else some (false,()))) else some (false,()))) else some (false,()))) else some (false,()))) else some (false,()))) else some (false,())))
noncomputable def impl_SpansOk_b0 (k:(List (Int×Int))×Int×(List (Int×Int))×Int×Unit) (x:Int×Unit):Option ((Int×Unit) ⊕ (Bool×Unit ⊕ (Unit ⊕ Empty))):=
 (bif (rCmp .lss x.1 k.2.2.2.1) then (bif (rInR k.2.2.1 x.1) then (bif (rCmp .lss (rGet zII k.2.2.1 x.1).1 (0:Int)) then some (.inr (.inl (false,()))) else (bif (rCmp .geq (rGet zII k.2.2.1 x.1).1 (rGet zII k.2.2.1 x.1).2) then some (.inr (.inl (false,()))) else (bif (rCmp .gtr (rGet zII k.2.2.1 x.1).2 k.2.1) then some (.inr (.inl (false,()))) else (bif (rCmp .gtr x.1 (0:Int)) then (bif (rInR k.1 (rArith .sub .i64 x.1 (1:Int))) then (bif (rCmp .leq (rGet zII k.2.2.1 x.1).1 (rGet zII k.1 (rArith .sub .i64 x.1 (1:Int))).2) then some (.inr (.inl (false,()))) else some (.inl ((rArith .add .i64 x.1 (1:Int)),()))) else none) else some (.inl ((rArith .add .i64 x.1 (1:Int)),())))))) else none) else some (.inr (.inr (.inl (())))))
noncomputable def impl_SpansOk_l0 (k:(List (Int×Int))×Int×(List (Int×Int))×Int×Unit) (x:Int×Unit):Option (Bool×Unit ⊕ (Unit ⊕ Empty)):=iter (impl_SpansOk_b0 k) big x
noncomputable def impl_SpansOk (a0:(List (Int×Int))) (a1:Int):Option (Bool×Unit):=
 (bif (rCmp .gtr (rLen a0) (20:Int)) then some (false,()) else ((impl_SpansOk_l0 (a0,a1,a0,(rLen a0),()) ((0:Int),())).bind fun q0=>(Sum.elim (fun y1=>some (y1.1,())) (fun q2=>(Sum.elim (fun y3=>some (true,())) (fun q4=>(Empty.elim q4)) q2)) q0)))
noncomputable def impl_WeekOk (a0:(List (Int×Int))) (a1:(List (Int×Int))):Option (Bool×Unit):=
 ((impl_SpansOk a0 (168:Int)).bind fun y0=>(bif y0.1 then ((impl_SpansOk a1 (20000:Int)).bind fun y1=>some (y1.1,())) else some (false,())))
noncomputable def impl_TermsOk (a0:Int) (a1:Int) (a2:Int) (a3:Int) (a4:Int) (a5:Int) (a6:Int) (a7:Int):Option (Bool×Unit):=
 ((impl_within a0 (1:Int) (2000:Int)).bind fun y0=>(bif y0.1 then ((impl_within a2 (1:Int) (2000:Int)).bind fun y1=>(bif y1.1 then ((impl_within a5 (1:Int) (2000:Int)).bind fun y2=>(bif y2.1 then ((impl_within a1 (0:Int) (2000:Int)).bind fun y3=>(bif y3.1 then ((impl_within a3 (0:Int) (10000:Int)).bind fun y4=>(bif y4.1 then ((impl_within a4 (0:Int) (1000000:Int)).bind fun y5=>(bif y5.1 then ((impl_within a6 (0:Int) (100000:Int)).bind fun y6=>(bif y6.1 then ((impl_within a7 (0:Int) (20:Int)).bind fun y7=>some (y7.1,())) else some (false,()))) else some (false,()))) else some (false,()))) else some (false,()))) else some (false,()))) else some (false,()))) else some (false,())))
noncomputable def laws_eqSpan (a0:Int) (a1:Int) (a2:Int) (a3:Int):Option (Bool×Unit):=
 (bif (rCmp .neq a0 a2) then some (false,()) else (bif (rCmp .neq a1 a3) then some (false,()) else some (true,())))
noncomputable def laws_eqSpanS_b0 (k:(List (Int×Int))×(List (Int×Int))×Unit) (x:Int×Unit):Option ((Int×Unit) ⊕ (Bool×Unit ⊕ (Unit ⊕ Empty))):=
 (bif (rCmp .lss x.1 (rLen k.1)) then (bif (rInR k.1 x.1) then (bif (rInR k.2.1 x.1) then ((laws_eqSpan (rGet zII k.1 x.1).1 (rGet zII k.1 x.1).2 (rGet zII k.2.1 x.1).1 (rGet zII k.2.1 x.1).2).bind fun y0=>(bif (Bool.not y0.1) then some (.inr (.inl (false,()))) else some (.inl ((rArith .add .i64 x.1 (1:Int)),())))) else none) else none) else some (.inr (.inr (.inl (())))))
noncomputable def laws_eqSpanS_l0 (k:(List (Int×Int))×(List (Int×Int))×Unit) (x:Int×Unit):Option (Bool×Unit ⊕ (Unit ⊕ Empty)):=iter (laws_eqSpanS_b0 k) big x
noncomputable def laws_eqSpanS (a0:(List (Int×Int))) (a1:(List (Int×Int))):Option (Bool×Unit):=
 (bif (rCmp .neq (rLen a0) (rLen a1)) then some (false,()) else ((laws_eqSpanS_l0 (a0,a1,()) ((0:Int),())).bind fun q0=>(Sum.elim (fun y1=>some (y1.1,())) (fun q2=>(Sum.elim (fun y3=>some (true,())) (fun q4=>(Empty.elim q4)) q2)) q0)))
noncomputable def laws_eqWeek (a0:(List (Int×Int))) (a1:(List (Int×Int))) (a2:(List (Int×Int))) (a3:(List (Int×Int))):Option (Bool×Unit):=
 ((laws_eqSpanS a0 a2).bind fun y0=>(bif (Bool.not y0.1) then some (false,()) else ((laws_eqSpanS a1 a3).bind fun y1=>(bif (Bool.not y1.1) then some (false,()) else some (true,())))))
end Go.Fn
set_option linter.unusedVariables false
namespace Go.Fn
open Go.R
noncomputable def laws_eqTerms (a0:Int) (a1:Int) (a2:Int) (a3:Int) (a4:Int) (a5:Int) (a6:Int) (a7:Int) (a8:Int) (a9:Int) (a10:Int) (a11:Int) (a12:Int) (a13:Int) (a14:Int) (a15:Int):Option (Bool×Unit):=
 (bif (rCmp .neq a0 a8) then some (false,()) else (bif (rCmp .neq a1 a9) then some (false,()) else (bif (rCmp .neq a2 a10) then some (false,()) else (bif (rCmp .neq a3 a11) then some (false,()) else (bif (rCmp .neq a4 a12) then some (false,()) else (bif (rCmp .neq a5 a13) then some (false,()) else (bif (rCmp .neq a6 a14) then some (false,()) else (bif (rCmp .neq a7 a15) then some (false,()) else some (true,())))))))))
end Go.Fn
set_option linter.unusedVariables false
namespace Go.Fn
open Go.R
noncomputable def zLIIlLIIlLILIlLIIIBllIIBBBIILIIIIIIIl:(List (Int×Int))×(List (Int×Int))×(List (Int×(List (Int))×List (Int×Int×Int×Bool)))×Int×Int×Bool×Bool×Bool×Int×Int×List (Int×Int×Int×Int×Int×Int×Int):=(([]:List (Int×Int)),([]:List (Int×Int)),([]:List (Int×(List (Int))×List (Int×Int×Int×Bool))),(0:Int),(0:Int),false,false,false,(0:Int),(0:Int),([]:List (Int×Int×Int×Int×Int×Int×Int)))
noncomputable def zIIIIIIIIIIIII:Int×Int×Int×Int×Int×Int×Int×Int×Int×Int×Int×Int×Int:=((0:Int),(0:Int),(0:Int),(0:Int),(0:Int),(0:Int),(0:Int),(0:Int),(0:Int),(0:Int),(0:Int),(0:Int),(0:Int))
noncomputable def zIIIIIIB:Int×Int×Int×Int×Int×Int×Bool:=((0:Int),(0:Int),(0:Int),(0:Int),(0:Int),(0:Int),false)
noncomputable def zILIlLIIIBl:Int×(List (Int))×List (Int×Int×Int×Bool):=((0:Int),([]:List (Int)),([]:List (Int×Int×Int×Bool)))
noncomputable def zIIIB:Int×Int×Int×Bool:=((0:Int),(0:Int),(0:Int),false)
noncomputable def laws_szBoxS (a0:(List (Int×Int×Int×Bool))) (a1:Int):Option (Int×Unit):=
 (bif (rCmp .lss (rArith .sub .i64 a1 (rLen a0)) (0:Int)) then some ((-1:Int),()) else some ((rArith .sub .i64 a1 (rLen a0)),()))
noncomputable def laws_szColumn (a0:Int) (a1:(List (Int))) (a2:(List (Int×Int×Int×Bool))) (a3:Int):Option (Int×Unit):=
 ((laws_szIntS a1 a3).bind fun y0=>(bif (rCmp .lss y0.1 (0:Int)) then some ((-1:Int),()) else ((laws_szBoxS a2 y0.1).bind fun y1=>(bif (rCmp .lss y1.1 (0:Int)) then some ((-1:Int),()) else some (y1.1,())))))
noncomputable def laws_szColumnS_b0 (k:(List (Int×(List (Int))×List (Int×Int×Int×Bool)))×Unit) (x:Int×Int×Unit):Option ((Int×Int×Unit) ⊕ (Int×Unit ⊕ (Int×Unit ⊕ Empty))):=
 (bif (rCmp .lss x.2.1 (rLen k.1)) then (bif (rInR k.1 x.2.1) then ((laws_szColumn (rGet zILIlLIIIBl k.1 x.2.1).1 (rGet zILIlLIIIBl k.1 x.2.1).2.1 (rGet zILIlLIIIBl k.1 x.2.1).2.2 x.1).bind fun y0=>(bif (rCmp .lss y0.1 (0:Int)) then some (.inr (.inl ((-1:Int),()))) else some (.inl (y0.1,(rArith .add .i64 x.2.1 (1:Int)),())))) else none) else some (.inr (.inr (.inl (x.1,())))))
noncomputable def laws_szColumnS_l0 (k:(List (Int×(List (Int))×List (Int×Int×Int×Bool)))×Unit) (x:Int×Int×Unit):Option (Int×Unit ⊕ (Int×Unit ⊕ Empty)):=iter (laws_szColumnS_b0 k) big x
noncomputable def laws_szColumnS (a0:(List (Int×(List (Int))×List (Int×Int×Int×Bool)))) (a1:Int):Option (Int×Unit):=
 (bif (rCmp .lss (rArith .sub .i64 a1 (rLen a0)) (0:Int)) then some ((-1:Int),()) else ((laws_szColumnS_l0 (a0,()) ((rArith .sub .i64 a1 (rLen a0)),(0:Int),())).bind fun q0=>(Sum.elim (fun y1=>some (y1.1,())) (fun q2=>(Sum.elim (fun y3=>some (y3.1,())) (fun q4=>(Empty.elim q4)) q2)) q0)))
noncomputable def laws_toBox (a0:Int) (a1:Int) (a2:Int) (a3:Bool):Option (Int×Int×Int×Bool×Unit):=
 some (a0,a1,a2,a3,())
noncomputable def laws_toBoxS_b0 (k:(List (Int×Int×Int×Bool))×Unit) (x:(List (Int×Int×Int×Bool))×Int×Unit):Option (((List (Int×Int×Int×Bool))×Int×Unit) ⊕ ((List (Int×Int×Int×Bool))×Unit ⊕ Empty)):=
 (bif (rCmp .lss x.2.1 (rLen k.1)) then (bif (rInR k.1 x.2.1) then ((laws_toBox (rGet zIIIB k.1 x.2.1).1 (rGet zIIIB k.1 x.2.1).2.1 (rGet zIIIB k.1 x.2.1).2.2.1 (rGet zIIIB k.1 x.2.1).2.2.2).bind fun y0=>(bif (rInR x.1 x.2.1) then some (.inl ((rPut x.1 x.2.1 (y0.1,y0.2.1,y0.2.2.1,y0.2.2.2.1)),(rArith .add .i64 x.2.1 (1:Int)),())) else none)) else none) else some (.inr (.inl (x.1,()))))
noncomputable def laws_toBoxS_l0 (k:(List (Int×Int×Int×Bool))×Unit) (x:(List (Int×Int×Int×Bool))×Int×Unit):Option ((List (Int×Int×Int×Bool))×Unit ⊕ Empty):=iter (laws_toBoxS_b0 k) big x
noncomputable def laws_toBoxS (a0:(List (Int×Int×Int×Bool))):Option ((List (Int×Int×Int×Bool))×Unit):=
 (bif (rRepOk (rLen a0)) then ((laws_toBoxS_l0 (a0,()) ((rRep (rLen a0) ((0:Int),(0:Int),(0:Int),false)),(0:Int),())).bind fun q0=>(Sum.elim (fun y1=>some (y1.1,())) (fun q2=>(Empty.elim q2)) q0)) else none)
noncomputable def laws_toColumn (a0:Int) (a1:(List (Int))) (a2:(List (Int×Int×Int×Bool))):Option (Int×(List (Int))×(List (Int×Int×Int×Bool))×Unit):=
 ((laws_toIntS a1).bind fun y0=>((laws_toBoxS a2).bind fun y1=>some (a0,y0.1,y1.1,())))
noncomputable def laws_toColumnS_b0 (k:(List (Int×(List (Int))×List (Int×Int×Int×Bool)))×Unit) (x:(List (Int×(List (Int))×List (Int×Int×Int×Bool)))×Int×Unit):Option (((List (Int×(List (Int))×List (Int×Int×Int×Bool)))×Int×Unit) ⊕ ((List (Int×(List (Int))×List (Int×Int×Int×Bool)))×Unit ⊕ Empty)):=
 (bif (rCmp .lss x.2.1 (rLen k.1)) then (bif (rInR k.1 x.2.1) then ((laws_toColumn (rGet zILIlLIIIBl k.1 x.2.1).1 (rGet zILIlLIIIBl k.1 x.2.1).2.1 (rGet zILIlLIIIBl k.1 x.2.1).2.2).bind fun y0=>(bif (rInR x.1 x.2.1) then some (.inl ((rPut x.1 x.2.1 (y0.1,y0.2.1,y0.2.2.1)),(rArith .add .i64 x.2.1 (1:Int)),())) else none)) else none) else some (.inr (.inl (x.1,()))))
noncomputable def laws_toColumnS_l0 (k:(List (Int×(List (Int))×List (Int×Int×Int×Bool)))×Unit) (x:(List (Int×(List (Int))×List (Int×Int×Int×Bool)))×Int×Unit):Option ((List (Int×(List (Int))×List (Int×Int×Int×Bool)))×Unit ⊕ Empty):=iter (laws_toColumnS_b0 k) big x
noncomputable def laws_toColumnS (a0:(List (Int×(List (Int))×List (Int×Int×Int×Bool)))):Option ((List (Int×(List (Int))×List (Int×Int×Int×Bool)))×Unit):=
 (bif (rRepOk (rLen a0)) then ((laws_toColumnS_l0 (a0,()) ((rRep (rLen a0) ((0:Int),([]:List (Int)),([]:List (Int×Int×Int×Bool)))),(0:Int),())).bind fun q0=>(Sum.elim (fun y1=>some (y1.1,())) (fun q2=>(Empty.elim q2)) q0)) else none)
noncomputable def spec_l03Secret (a0:Int):Option (Bool×Unit):=
 ((spec_l01In a0 (1:Int) (2147483646:Int)).bind fun y0=>some (y0.1,()))
noncomputable def spec_SecretOf (a0:Int) (a1:Int) (a2:Int) (a3:Int) (a4:Int) (a5:Int) (a6:Int) (a7:Int) (a8:Int) (a9:Int) (a10:Int) (a11:(List ((List (Int×Int))×(List (Int×Int))×(List (Int×(List (Int))×List (Int×Int×Int×Bool)))×Int×Int×Bool×Bool×Bool×Int×Int×List (Int×Int×Int×Int×Int×Int×Int)))) (a12:(List (Int×Int×Int×Int×Int×Int×Int×Int×Int×Int×Int×Int×Int))) (a13:(List (Int×Int×Int×Int×Int×Int×Bool))) (a14:(List (Int×Int×Int×Int×Int×Int×Int))) (a15:Int):Option (Int×Unit):=
 ((spec_l03Secret a9).bind fun y0=>(bif (Bool.not y0.1) then some ((0:Int),()) else ((spec_l01In a15 (1:Int) (12:Int)).bind fun y1=>(bif (Bool.not y1.1) then some ((0:Int),()) else (bif (rIsZero (2147483646:Int)) then none else some ((rArith .add .i64 (rArith .rem .i64 (rArith .add .i64 a9 (rArith .mul .i64 (7919:Int) a15)) (2147483646:Int)) (1:Int)),()))))))
noncomputable def impl_secretOk (a0:Int):Option (Bool×Unit):=
 ((impl_within a0 (1:Int) (2147483646:Int)).bind fun y0=>some (y0.1,()))
noncomputable def impl_SecretOf (a0:Int) (a1:Int) (a2:Int) (a3:Int) (a4:Int) (a5:Int) (a6:Int) (a7:Int) (a8:Int) (a9:Int) (a10:Int) (a11:(List ((List (Int×Int))×(List (Int×Int))×(List (Int×(List (Int))×List (Int×Int×Int×Bool)))×Int×Int×Bool×Bool×Bool×Int×Int×List (Int×Int×Int×Int×Int×Int×Int)))) (a12:(List (Int×Int×Int×Int×Int×Int×Int×Int×Int×Int×Int×Int×Int))) (a13:(List (Int×Int×Int×Int×Int×Int×Bool))) (a14:(List (Int×Int×Int×Int×Int×Int×Int))) (a15:Int):Option (Int×Unit):=
 ((impl_secretOk a9).bind fun y0=>(bif (Bool.not y0.1) then some ((0:Int),()) else ((impl_within a15 (1:Int) (12:Int)).bind fun y1=>(bif (Bool.not y1.1) then some ((0:Int),()) else (bif (rIsZero (2147483646:Int)) then none else some ((rArith .add .i64 (rArith .rem .i64 (rArith .add .i64 a9 (rArith .mul .i64 (7919:Int) a15)) (2147483646:Int)) (1:Int)),()))))))
noncomputable def laws_eqBox (a0:Int) (a1:Int) (a2:Int) (a3:Bool) (a4:Int) (a5:Int) (a6:Int) (a7:Bool):Option (Bool×Unit):=
 (bif (rCmp .neq a0 a4) then some (false,()) else (bif (rCmp .neq a1 a5) then some (false,()) else (bif (rCmp .neq a2 a6) then some (false,()) else (bif (Bool.not (rBeq a3 a7)) then some (false,()) else some (true,())))))
noncomputable def laws_eqBoxS_b0 (k:(List (Int×Int×Int×Bool))×(List (Int×Int×Int×Bool))×Unit) (x:Int×Unit):Option ((Int×Unit) ⊕ (Bool×Unit ⊕ (Unit ⊕ Empty))):=
 (bif (rCmp .lss x.1 (rLen k.1)) then (bif (rInR k.1 x.1) then (bif (rInR k.2.1 x.1) then ((laws_eqBox (rGet zIIIB k.1 x.1).1 (rGet zIIIB k.1 x.1).2.1 (rGet zIIIB k.1 x.1).2.2.1 (rGet zIIIB k.1 x.1).2.2.2 (rGet zIIIB k.2.1 x.1).1 (rGet zIIIB k.2.1 x.1).2.1 (rGet zIIIB k.2.1 x.1).2.2.1 (rGet zIIIB k.2.1 x.1).2.2.2).bind fun y0=>(bif (Bool.not y0.1) then some (.inr (.inl (false,()))) else some (.inl ((rArith .add .i64 x.1 (1:Int)),())))) else none) else none) else some (.inr (.inr (.inl (())))))
noncomputable def laws_eqBoxS_l0 (k:(List (Int×Int×Int×Bool))×(List (Int×Int×Int×Bool))×Unit) (x:Int×Unit):Option (Bool×Unit ⊕ (Unit ⊕ Empty)):=iter (laws_eqBoxS_b0 k) big x
noncomputable def laws_eqBoxS (a0:(List (Int×Int×Int×Bool))) (a1:(List (Int×Int×Int×Bool))):Option (Bool×Unit):=
 (bif (rCmp .neq (rLen a0) (rLen a1)) then some (false,()) else ((laws_eqBoxS_l0 (a0,a1,()) ((0:Int),())).bind fun q0=>(Sum.elim (fun y1=>some (y1.1,())) (fun q2=>(Sum.elim (fun y3=>some (true,())) (fun q4=>(Empty.elim q4)) q2)) q0)))
noncomputable def laws_eqColumn (a0:Int) (a1:(List (Int))) (a2:(List (Int×Int×Int×Bool))) (a3:Int) (a4:(List (Int))) (a5:(List (Int×Int×Int×Bool))):Option (Bool×Unit):=
 (bif (rCmp .neq a0 a3) then some (false,()) else ((laws_eqIntS a1 a4).bind fun y0=>(bif (Bool.not y0.1) then some (false,()) else ((laws_eqBoxS a2 a5).bind fun y1=>(bif (Bool.not y1.1) then some (false,()) else some (true,()))))))
noncomputable def laws_eqColumnS_b0 (k:(List (Int×(List (Int))×List (Int×Int×Int×Bool)))×(List (Int×(List (Int))×List (Int×Int×Int×Bool)))×Unit) (x:Int×Unit):Option ((Int×Unit) ⊕ (Bool×Unit ⊕ (Unit ⊕ Empty))):=
 (bif (rCmp .lss x.1 (rLen k.1)) then (bif (rInR k.1 x.1) then (bif (rInR k.2.1 x.1) then ((laws_eqColumn (rGet zILIlLIIIBl k.1 x.1).1 (rGet zILIlLIIIBl k.1 x.1).2.1 (rGet zILIlLIIIBl k.1 x.1).2.2 (rGet zILIlLIIIBl k.2.1 x.1).1 (rGet zILIlLIIIBl k.2.1 x.1).2.1 (rGet zILIlLIIIBl k.2.1 x.1).2.2).bind fun y0=>(bif (Bool.not y0.1) then some (.inr (.inl (false,()))) else some (.inl ((rArith .add .i64 x.1 (1:Int)),())))) else none) else none) else some (.inr (.inr (.inl (())))))
noncomputable def laws_eqColumnS_l0 (k:(List (Int×(List (Int))×List (Int×Int×Int×Bool)))×(List (Int×(List (Int))×List (Int×Int×Int×Bool)))×Unit) (x:Int×Unit):Option (Bool×Unit ⊕ (Unit ⊕ Empty)):=iter (laws_eqColumnS_b0 k) big x
noncomputable def laws_eqColumnS (a0:(List (Int×(List (Int))×List (Int×Int×Int×Bool)))) (a1:(List (Int×(List (Int))×List (Int×Int×Int×Bool)))):Option (Bool×Unit):=
 (bif (rCmp .neq (rLen a0) (rLen a1)) then some (false,()) else ((laws_eqColumnS_l0 (a0,a1,()) ((0:Int),())).bind fun q0=>(Sum.elim (fun y1=>some (y1.1,())) (fun q2=>(Sum.elim (fun y3=>some (true,())) (fun q4=>(Empty.elim q4)) q2)) q0)))
noncomputable def laws_eqDoor (a0:Int) (a1:Int) (a2:Bool) (a3:Bool) (a4:Bool) (a5:Int) (a6:Int) (a7:Bool) (a8:Bool) (a9:Bool):Option (Bool×Unit):=
 (bif (rCmp .neq a0 a5) then some (false,()) else (bif (rCmp .neq a1 a6) then some (false,()) else (bif (Bool.not (rBeq a2 a7)) then some (false,()) else (bif (Bool.not (rBeq a3 a8)) then some (false,()) else (bif (Bool.not (rBeq a4 a9)) then some (false,()) else some (true,()))))))
noncomputable def laws_eqSite (a0:(List (Int×Int))) (a1:(List (Int×Int))) (a2:(List (Int×(List (Int))×List (Int×Int×Int×Bool)))) (a3:Int) (a4:Int) (a5:Bool) (a6:Bool) (a7:Bool) (a8:Int) (a9:Int) (a10:(List (Int×Int×Int×Int×Int×Int×Int))) (a11:(List (Int×Int))) (a12:(List (Int×Int))) (a13:(List (Int×(List (Int))×List (Int×Int×Int×Bool)))) (a14:Int) (a15:Int) (a16:Bool) (a17:Bool) (a18:Bool) (a19:Int) (a20:Int) (a21:(List (Int×Int×Int×Int×Int×Int×Int))):Option (Bool×Unit):=
 ((laws_eqWeek a0 a1 a11 a12).bind fun y0=>(bif (Bool.not y0.1) then some (false,()) else ((laws_eqColumnS a2 a13).bind fun y1=>(bif (Bool.not y1.1) then some (false,()) else ((laws_eqDoor a3 a4 a5 a6 a7 a14 a15 a16 a17 a18).bind fun y2=>(bif (Bool.not y2.1) then some (false,()) else (bif (rCmp .neq a8 a19) then some (false,()) else (bif (rCmp .neq a9 a20) then some (false,()) else ((laws_eqEventS a10 a21).bind fun y3=>(bif (Bool.not y3.1) then some (false,()) else some (true,())))))))))))
noncomputable def laws_eqSiteS_b0 (k:(List ((List (Int×Int))×(List (Int×Int))×(List (Int×(List (Int))×List (Int×Int×Int×Bool)))×Int×Int×Bool×Bool×Bool×Int×Int×List (Int×Int×Int×Int×Int×Int×Int)))×(List ((List (Int×Int))×(List (Int×Int))×(List (Int×(List (Int))×List (Int×Int×Int×Bool)))×Int×Int×Bool×Bool×Bool×Int×Int×List (Int×Int×Int×Int×Int×Int×Int)))×Unit) (x:Int×Unit):Option ((Int×Unit) ⊕ (Bool×Unit ⊕ (Unit ⊕ Empty))):=
 (bif (rCmp .lss x.1 (rLen k.1)) then (bif (rInR k.1 x.1) then (bif (rInR k.2.1 x.1) then ((laws_eqSite (rGet zLIIlLIIlLILIlLIIIBllIIBBBIILIIIIIIIl k.1 x.1).1 (rGet zLIIlLIIlLILIlLIIIBllIIBBBIILIIIIIIIl k.1 x.1).2.1 (rGet zLIIlLIIlLILIlLIIIBllIIBBBIILIIIIIIIl k.1 x.1).2.2.1 (rGet zLIIlLIIlLILIlLIIIBllIIBBBIILIIIIIIIl k.1 x.1).2.2.2.1 (rGet zLIIlLIIlLILIlLIIIBllIIBBBIILIIIIIIIl k.1 x.1).2.2.2.2.1 (rGet zLIIlLIIlLILIlLIIIBllIIBBBIILIIIIIIIl k.1 x.1).2.2.2.2.2.1 (rGet zLIIlLIIlLILIlLIIIBllIIBBBIILIIIIIIIl k.1 x.1).2.2.2.2.2.2.1 (rGet zLIIlLIIlLILIlLIIIBllIIBBBIILIIIIIIIl k.1 x.1).2.2.2.2.2.2.2.1 (rGet zLIIlLIIlLILIlLIIIBllIIBBBIILIIIIIIIl k.1 x.1).2.2.2.2.2.2.2.2.1 (rGet zLIIlLIIlLILIlLIIIBllIIBBBIILIIIIIIIl k.1 x.1).2.2.2.2.2.2.2.2.2.1 (rGet zLIIlLIIlLILIlLIIIBllIIBBBIILIIIIIIIl k.1 x.1).2.2.2.2.2.2.2.2.2.2 (rGet zLIIlLIIlLILIlLIIIBllIIBBBIILIIIIIIIl k.2.1 x.1).1 (rGet zLIIlLIIlLILIlLIIIBllIIBBBIILIIIIIIIl k.2.1 x.1).2.1 (rGet zLIIlLIIlLILIlLIIIBllIIBBBIILIIIIIIIl k.2.1 x.1).2.2.1 (rGet zLIIlLIIlLILIlLIIIBllIIBBBIILIIIIIIIl k.2.1 x.1).2.2.2.1 (rGet zLIIlLIIlLILIlLIIIBllIIBBBIILIIIIIIIl k.2.1 x.1).2.2.2.2.1 (rGet zLIIlLIIlLILIlLIIIBllIIBBBIILIIIIIIIl k.2.1 x.1).2.2.2.2.2.1 (rGet zLIIlLIIlLILIlLIIIBllIIBBBIILIIIIIIIl k.2.1 x.1).2.2.2.2.2.2.1 (rGet zLIIlLIIlLILIlLIIIBllIIBBBIILIIIIIIIl k.2.1 x.1).2.2.2.2.2.2.2.1 (rGet zLIIlLIIlLILIlLIIIBllIIBBBIILIIIIIIIl k.2.1 x.1).2.2.2.2.2.2.2.2.1 (rGet zLIIlLIIlLILIlLIIIBllIIBBBIILIIIIIIIl k.2.1 x.1).2.2.2.2.2.2.2.2.2.1 (rGet zLIIlLIIlLILIlLIIIBllIIBBBIILIIIIIIIl k.2.1 x.1).2.2.2.2.2.2.2.2.2.2).bind fun y0=>(bif (Bool.not y0.1) then some (.inr (.inl (false,()))) else some (.inl ((rArith .add .i64 x.1 (1:Int)),())))) else none) else none) else some (.inr (.inr (.inl (())))))
noncomputable def laws_eqSiteS_l0 (k:(List ((List (Int×Int))×(List (Int×Int))×(List (Int×(List (Int))×List (Int×Int×Int×Bool)))×Int×Int×Bool×Bool×Bool×Int×Int×List (Int×Int×Int×Int×Int×Int×Int)))×(List ((List (Int×Int))×(List (Int×Int))×(List (Int×(List (Int))×List (Int×Int×Int×Bool)))×Int×Int×Bool×Bool×Bool×Int×Int×List (Int×Int×Int×Int×Int×Int×Int)))×Unit) (x:Int×Unit):Option (Bool×Unit ⊕ (Unit ⊕ Empty)):=iter (laws_eqSiteS_b0 k) big x
noncomputable def laws_eqSiteS (a0:(List ((List (Int×Int))×(List (Int×Int))×(List (Int×(List (Int))×List (Int×Int×Int×Bool)))×Int×Int×Bool×Bool×Bool×Int×Int×List (Int×Int×Int×Int×Int×Int×Int)))) (a1:(List ((List (Int×Int))×(List (Int×Int))×(List (Int×(List (Int))×List (Int×Int×Int×Bool)))×Int×Int×Bool×Bool×Bool×Int×Int×List (Int×Int×Int×Int×Int×Int×Int)))):Option (Bool×Unit):=
 (bif (rCmp .neq (rLen a0) (rLen a1)) then some (false,()) else ((laws_eqSiteS_l0 (a0,a1,()) ((0:Int),())).bind fun q0=>(Sum.elim (fun y1=>some (y1.1,())) (fun q2=>(Sum.elim (fun y3=>some (true,())) (fun q4=>(Empty.elim q4)) q2)) q0)))
noncomputable def laws_eqLock (a0:Int) (a1:Int) (a2:Int) (a3:Int) (a4:Int) (a5:Int) (a6:Int) (a7:Int) (a8:Int) (a9:Int):Option (Bool×Unit):=
 (bif (rCmp .neq a0 a5) then some (false,()) else (bif (rCmp .neq a1 a6) then some (false,()) else (bif (rCmp .neq a2 a7) then some (false,()) else (bif (rCmp .neq a3 a8) then some (false,()) else (bif (rCmp .neq a4 a9) then some (false,()) else some (true,()))))))
noncomputable def laws_eqParcel (a0:Int) (a1:Int) (a2:Int) (a3:Int) (a4:Int) (a5:Int) (a6:Int) (a7:Int) (a8:Int) (a9:Int) (a10:Int) (a11:Int) (a12:Int) (a13:Int) (a14:Int) (a15:Int) (a16:Int) (a17:Int) (a18:Int) (a19:Int) (a20:Int) (a21:Int) (a22:Int) (a23:Int) (a24:Int) (a25:Int):Option (Bool×Unit):=
 (bif (rCmp .neq a0 a13) then some (false,()) else (bif (rCmp .neq a1 a14) then some (false,()) else (bif (rCmp .neq a2 a15) then some (false,()) else (bif (rCmp .neq a3 a16) then some (false,()) else (bif (rCmp .neq a4 a17) then some (false,()) else (bif (rCmp .neq a5 a18) then some (false,()) else ((laws_eqLock a6 a7 a8 a9 a10 a19 a20 a21 a22 a23).bind fun y0=>(bif (Bool.not y0.1) then some (false,()) else (bif (rCmp .neq a11 a24) then some (false,()) else (bif (rCmp .neq a12 a25) then some (false,()) else some (true,())))))))))))
noncomputable def laws_eqParcelS_b0 (k:(List (Int×Int×Int×Int×Int×Int×Int×Int×Int×Int×Int×Int×Int))×(List (Int×Int×Int×Int×Int×Int×Int×Int×Int×Int×Int×Int×Int))×Unit) (x:Int×Unit):Option ((Int×Unit) ⊕ (Bool×Unit ⊕ (Unit ⊕ Empty))):=
 (bif (rCmp .lss x.1 (rLen k.1)) then (bif (rInR k.1 x.1) then (bif (rInR k.2.1 x.1) then ((laws_eqParcel (rGet zIIIIIIIIIIIII k.1 x.1).1 (rGet zIIIIIIIIIIIII k.1 x.1).2.1 (rGet zIIIIIIIIIIIII k.1 x.1).2.2.1 (rGet zIIIIIIIIIIIII k.1 x.1).2.2.2.1 (rGet zIIIIIIIIIIIII k.1 x.1).2.2.2.2.1 (rGet zIIIIIIIIIIIII k.1 x.1).2.2.2.2.2.1 (rGet zIIIIIIIIIIIII k.1 x.1).2.2.2.2.2.2.1 (rGet zIIIIIIIIIIIII k.1 x.1).2.2.2.2.2.2.2.1 (rGet zIIIIIIIIIIIII k.1 x.1).2.2.2.2.2.2.2.2.1 (rGet zIIIIIIIIIIIII k.1 x.1).2.2.2.2.2.2.2.2.2.1 (rGet zIIIIIIIIIIIII k.1 x.1).2.2.2.2.2.2.2.2.2.2.1 (rGet zIIIIIIIIIIIII k.1 x.1).2.2.2.2.2.2.2.2.2.2.2.1 (rGet zIIIIIIIIIIIII k.1 x.1).2.2.2.2.2.2.2.2.2.2.2.2 (rGet zIIIIIIIIIIIII k.2.1 x.1).1 (rGet zIIIIIIIIIIIII k.2.1 x.1).2.1 (rGet zIIIIIIIIIIIII k.2.1 x.1).2.2.1 (rGet zIIIIIIIIIIIII k.2.1 x.1).2.2.2.1 (rGet zIIIIIIIIIIIII k.2.1 x.1).2.2.2.2.1 (rGet zIIIIIIIIIIIII k.2.1 x.1).2.2.2.2.2.1 (rGet zIIIIIIIIIIIII k.2.1 x.1).2.2.2.2.2.2.1 (rGet zIIIIIIIIIIIII k.2.1 x.1).2.2.2.2.2.2.2.1 (rGet zIIIIIIIIIIIII k.2.1 x.1).2.2.2.2.2.2.2.2.1 (rGet zIIIIIIIIIIIII k.2.1 x.1).2.2.2.2.2.2.2.2.2.1 (rGet zIIIIIIIIIIIII k.2.1 x.1).2.2.2.2.2.2.2.2.2.2.1 (rGet zIIIIIIIIIIIII k.2.1 x.1).2.2.2.2.2.2.2.2.2.2.2.1 (rGet zIIIIIIIIIIIII k.2.1 x.1).2.2.2.2.2.2.2.2.2.2.2.2).bind fun y0=>(bif (Bool.not y0.1) then some (.inr (.inl (false,()))) else some (.inl ((rArith .add .i64 x.1 (1:Int)),())))) else none) else none) else some (.inr (.inr (.inl (())))))
noncomputable def laws_eqParcelS_l0 (k:(List (Int×Int×Int×Int×Int×Int×Int×Int×Int×Int×Int×Int×Int))×(List (Int×Int×Int×Int×Int×Int×Int×Int×Int×Int×Int×Int×Int))×Unit) (x:Int×Unit):Option (Bool×Unit ⊕ (Unit ⊕ Empty)):=iter (laws_eqParcelS_b0 k) big x
noncomputable def laws_eqParcelS (a0:(List (Int×Int×Int×Int×Int×Int×Int×Int×Int×Int×Int×Int×Int))) (a1:(List (Int×Int×Int×Int×Int×Int×Int×Int×Int×Int×Int×Int×Int))):Option (Bool×Unit):=
 (bif (rCmp .neq (rLen a0) (rLen a1)) then some (false,()) else ((laws_eqParcelS_l0 (a0,a1,()) ((0:Int),())).bind fun q0=>(Sum.elim (fun y1=>some (y1.1,())) (fun q2=>(Sum.elim (fun y3=>some (true,())) (fun q4=>(Empty.elim q4)) q2)) q0)))
noncomputable def laws_eqGrant (a0:Int) (a1:Int) (a2:Int) (a3:Int) (a4:Int) (a5:Int) (a6:Bool) (a7:Int) (a8:Int) (a9:Int) (a10:Int) (a11:Int) (a12:Int) (a13:Bool):Option (Bool×Unit):=
 (bif (rCmp .neq a0 a7) then some (false,()) else (bif (rCmp .neq a1 a8) then some (false,()) else (bif (rCmp .neq a2 a9) then some (false,()) else (bif (rCmp .neq a3 a10) then some (false,()) else (bif (rCmp .neq a4 a11) then some (false,()) else (bif (rCmp .neq a5 a12) then some (false,()) else (bif (Bool.not (rBeq a6 a13)) then some (false,()) else some (true,()))))))))
noncomputable def laws_eqGrantS_b0 (k:(List (Int×Int×Int×Int×Int×Int×Bool))×(List (Int×Int×Int×Int×Int×Int×Bool))×Unit) (x:Int×Unit):Option ((Int×Unit) ⊕ (Bool×Unit ⊕ (Unit ⊕ Empty))):=
 (bif (rCmp .lss x.1 (rLen k.1)) then (bif (rInR k.1 x.1) then (bif (rInR k.2.1 x.1) then ((laws_eqGrant (rGet zIIIIIIB k.1 x.1).1 (rGet zIIIIIIB k.1 x.1).2.1 (rGet zIIIIIIB k.1 x.1).2.2.1 (rGet zIIIIIIB k.1 x.1).2.2.2.1 (rGet zIIIIIIB k.1 x.1).2.2.2.2.1 (rGet zIIIIIIB k.1 x.1).2.2.2.2.2.1 (rGet zIIIIIIB k.1 x.1).2.2.2.2.2.2 (rGet zIIIIIIB k.2.1 x.1).1 (rGet zIIIIIIB k.2.1 x.1).2.1 (rGet zIIIIIIB k.2.1 x.1).2.2.1 (rGet zIIIIIIB k.2.1 x.1).2.2.2.1 (rGet zIIIIIIB k.2.1 x.1).2.2.2.2.1 (rGet zIIIIIIB k.2.1 x.1).2.2.2.2.2.1 (rGet zIIIIIIB k.2.1 x.1).2.2.2.2.2.2).bind fun y0=>(bif (Bool.not y0.1) then some (.inr (.inl (false,()))) else some (.inl ((rArith .add .i64 x.1 (1:Int)),())))) else none) else none) else some (.inr (.inr (.inl (())))))
noncomputable def laws_eqGrantS_l0 (k:(List (Int×Int×Int×Int×Int×Int×Bool))×(List (Int×Int×Int×Int×Int×Int×Bool))×Unit) (x:Int×Unit):Option (Bool×Unit ⊕ (Unit ⊕ Empty)):=iter (laws_eqGrantS_b0 k) big x
noncomputable def laws_eqGrantS (a0:(List (Int×Int×Int×Int×Int×Int×Bool))) (a1:(List (Int×Int×Int×Int×Int×Int×Bool))):Option (Bool×Unit):=
 (bif (rCmp .neq (rLen a0) (rLen a1)) then some (false,()) else ((laws_eqGrantS_l0 (a0,a1,()) ((0:Int),())).bind fun q0=>(Sum.elim (fun y1=>some (y1.1,())) (fun q2=>(Sum.elim (fun y3=>some (true,())) (fun q4=>(Empty.elim q4)) q2)) q0)))
noncomputable def laws_eqNetwork (a0:Int) (a1:Int) (a2:Int) (a3:Int) (a4:Int) (a5:Int) (a6:Int) (a7:Int) (a8:Int) (a9:Int) (a10:Int) (a11:(List ((List (Int×Int))×(List (Int×Int))×(List (Int×(List (Int))×List (Int×Int×Int×Bool)))×Int×Int×Bool×Bool×Bool×Int×Int×List (Int×Int×Int×Int×Int×Int×Int)))) (a12:(List (Int×Int×Int×Int×Int×Int×Int×Int×Int×Int×Int×Int×Int))) (a13:(List (Int×Int×Int×Int×Int×Int×Bool))) (a14:(List (Int×Int×Int×Int×Int×Int×Int))) (a15:Int) (a16:Int) (a17:Int) (a18:Int) (a19:Int) (a20:Int) (a21:Int) (a22:Int) (a23:Int) (a24:Int) (a25:Int) (a26:(List ((List (Int×Int))×(List (Int×Int))×(List (Int×(List (Int))×List (Int×Int×Int×Bool)))×Int×Int×Bool×Bool×Bool×Int×Int×List (Int×Int×Int×Int×Int×Int×Int)))) (a27:(List (Int×Int×Int×Int×Int×Int×Int×Int×Int×Int×Int×Int×Int))) (a28:(List (Int×Int×Int×Int×Int×Int×Bool))) (a29:(List (Int×Int×Int×Int×Int×Int×Int))):Option (Bool×Unit):=
 ((laws_eqTerms a0 a1 a2 a3 a4 a5 a6 a7 a15 a16 a17 a18 a19 a20 a21 a22).bind fun y0=>(bif (Bool.not y0.1) then some (false,()) else (bif (rCmp .neq a8 a23) then some (false,()) else (bif (rCmp .neq a9 a24) then some (false,()) else (bif (rCmp .neq a10 a25) then some (false,()) else ((laws_eqSiteS a11 a26).bind fun y1=>(bif (Bool.not y1.1) then some (false,()) else ((laws_eqParcelS a12 a27).bind fun y2=>(bif (Bool.not y2.1) then some (false,()) else ((laws_eqGrantS a13 a28).bind fun y3=>(bif (Bool.not y3.1) then some (false,()) else ((laws_eqEventS a14 a29).bind fun y4=>(bif (Bool.not y4.1) then some (false,()) else some (true,()))))))))))))))
end Go.Fn
namespace Go.Fn
open Go.R
abbrev Ev:=Int×Int×Int×Int×Int×Int×Int
noncomputable def inB (a lo hi:Int):Bool:=bif decide (a ≥ lo) then decide (a≤hi) else false
theorem within_eq (a lo hi:Int):impl_within a lo hi=some (inB a lo hi,()):=by
 unfold impl_within inB
 simp only [rCmp]
 cases decide (a ≥ lo) <;> rfl
theorem in_eq (a lo hi:Int):spec_l01In a lo hi=some (inB a lo hi,()):=within_eq a lo hi
theorem timeOk_eq (a:Int):impl_timeOk a=some (inB a 0 20000,()):=by unfold impl_timeOk;rw [within_eq];rfl
noncomputable def evOk (e:Ev):Bool:=bif inB e.1 0 5 then bif inB e.2.1 1 999 then bif inB e.2.2.1 1 100000 then bif inB e.2.2.2.1 1 4 then bif inB e.2.2.2.2.1 1 999 then bif inB e.2.2.2.2.2.1 0 20000 then inB e.2.2.2.2.2.2 0 20000 else false else false else false else false else false else false
theorem bif_some {α:Type} (b:Bool) (x y:α):(bif b then some x else some y)=some (bif b then x else y):=by cases b <;> rfl
theorem bif_pair (b x y:Bool):(bif b then (x,()) else (y,()))=((bif b then x else y),()):=by cases b <;> rfl
theorem specOk_eq (a b c d e f g:Int):spec_EventOk a b c d e f g=some (evOk (a,b,c,d,e,f,g),()):=by
 unfold spec_EventOk evOk
 simp only [in_eq,Option.bind_some,bif_some,bif_pair]
theorem implOk_eq (a b c d e f g:Int):impl_EventOk a b c d e f g=some (evOk (a,b,c,d,e,f,g),()):=by
 unfold impl_EventOk evOk
 simp only [within_eq,timeOk_eq,Option.bind_some,bif_some,bif_pair]
noncomputable def ordOk (p e:Ev):Bool:=!(decide (e.1 < p.1) || (decide (e.1=p.1) && (decide (e.2.1≤p.2.1) || decide (e.2.2.1≤p.2.2.1))))
noncomputable def jokAt (l:List Ev):Nat→Bool
 | 0=>evOk (l.getD 0 zIIIIIII)
 | n+1=>evOk (l.getD (n+1) zIIIIIII) && ordOk (l.getD n zIIIIIII) (l.getD (n+1) zIIIIIII)
noncomputable def jok (l:List Ev):Bool:=bif decide (60 < l.length) then false else allFrom (jokAt l) 0 l.length
theorem len60 (l:List Ev):rCmp .gtr (rLen l) (60:Int)=decide (60 < l.length):=by
 simp only [rCmp,rLen,gt_iff_lt,decide_eq_decide]
 omega
theorem implJ_eq (l:List Ev):impl_JournalOk l=some (jok l,()):=by
 unfold impl_JournalOk jok
 rw [len60]
 cases hl:decide (60 < l.length) with
 | true=>rfl
 | false =>
  have hl:l.length≤60:=by have:=of_decide_eq_false hl;omega
  have hloop:impl_JournalOk_l0 (l,l,(rLen l),()) ((0:Int),())=some (bif allFrom (jokAt l) 0 l.length then (Sum.inr (Sum.inl ()):Bool×Unit ⊕ (Unit ⊕ Empty)) else Sum.inl (false,())):=by
   refine loop_all (fun n=>((n:Int),())) l.length (by omega) (jokAt l) _ _ (fun n hn=>?_) ?_
   ·unfold impl_JournalOk_b0
    simp only [lss_len,inR_nat,get_nat,implOk_eq,hn,decide_true,cond_true,Option.bind_some]
    cases n with
    | zero =>
     simp only [jokAt]
     cases evOk (l.getD 0 zIIIIIII) <;> rfl
    | succ n =>
     have hn':n < l.length:=by omega
     simp only [jokAt,succ64 (n:=n+1) (by omega),pred64 (n:=n) (by omega),inR_lt hn',get_nat,ordOk,rCmp]
     have e0:((((n+1:Nat):Int)) == 0)=false:=by rw [beq_eq_false_iff_ne];omega
     rw [e0]
     simp only [cond_false,cond_true]
     generalize l.getD (n+1) zIIIIIII=e
     generalize l.getD n zIIIIIII=p
     show (bif !(evOk e) then _ else _)=_
     cases evOk e with
     | false=>rfl
     | true =>
      simp only [Bool.not_true,cond_false,Bool.true_and]
      cases decide (e.1 < p.1) with
      | true=>rfl
      | false =>
       simp only [cond_false,Bool.false_or]
       have eb:(e.1 == p.1)=decide (e.1=p.1):=rfl
       rw [eb]
       cases decide (e.1=p.1) with
       | false=>rfl
       | true =>
        simp only [cond_true,Bool.true_and]
        cases decide (e.2.1≤p.2.1) with
        | true=>rfl
        | false=>cases decide (e.2.2.1≤p.2.2.1) <;> rfl
   ·unfold impl_JournalOk_b0
    simp only [lss_len,Nat.lt_irrefl,decide_false,cond_false]
  rw [hloop]
  cases allFrom (jokAt l) 0 l.length <;> rfl
theorem gt0 (n:Nat):rCmp .gtr ((n+1:Nat):Int) 0=true:=by simp only [rCmp,gt_iff_lt,decide_eq_true_eq];omega
theorem specJ_eq (l:List Ev):spec_JournalOk l=some (jok l,()):=by
 unfold spec_JournalOk jok
 rw [len60]
 cases hl:decide (60 < l.length) with
 | true=>rfl
 | false =>
  have hl:l.length≤60:=by have:=of_decide_eq_false hl;omega
  have hloop:spec_JournalOk_l0 (l,()) ((0:Int),())=some (bif allFrom (jokAt l) 0 l.length then (Sum.inr (Sum.inl ()):Bool×Unit ⊕ (Unit ⊕ Empty)) else Sum.inl (false,())):=by
   refine loop_all (fun n=>((n:Int),())) l.length (by omega) (jokAt l) _ _ (fun n hn=>?_) ?_
   ·unfold spec_JournalOk_b0
    simp only [lss_len,inR_nat,get_nat,specOk_eq,hn,decide_true,cond_true,Option.bind_some]
    cases n with
    | zero =>
     simp only [jokAt]
     cases evOk (l.getD 0 zIIIIIII) <;> rfl
    | succ n =>
     have hn':n < l.length:=by omega
     simp only [jokAt,gt0,succ64 (n:=n+1) (by omega),pred64 (n:=n) (by omega),inR_lt hn',get_nat,ordOk,cond_true]
     simp only [rCmp]
     generalize l.getD (n+1) zIIIIIII=e
     generalize l.getD n zIIIIIII=p
     show (bif !(evOk e) then _ else _)=_
     cases evOk e with
     | false=>rfl
     | true =>
      simp only [Bool.not_true,cond_false,Bool.true_and]
      cases decide (e.1 < p.1) with
      | true=>rfl
      | false =>
       simp only [cond_false,Bool.false_or]
       have eb:(e.1 == p.1)=decide (e.1=p.1):=rfl
       rw [eb]
       cases decide (e.1=p.1) with
       | false=>rfl
       | true =>
        simp only [cond_true,Bool.true_and]
        cases decide (e.2.1≤p.2.1) with
        | true=>rfl
        | false=>cases decide (e.2.2.1≤p.2.2.1) <;> rfl
   ·unfold spec_JournalOk_b0
    simp only [lss_len,Nat.lt_irrefl,decide_false,cond_false]
  rw [hloop]
  cases allFrom (jokAt l) 0 l.length <;> rfl
theorem neq_self (a:Int):rCmp .neq a a=false:=by simp [rCmp]
theorem eqEv_self (a b c d e f g:Int):laws_eqEvent a b c d e f g a b c d e f g=some (true,()):=by
 unfold laws_eqEvent
 simp only [neq_self,cond_false]
theorem eqEvS_self (l:List Ev) (hl:l.length≤1073741824):laws_eqEventS l l=some (true,()):=by
 unfold laws_eqEventS
 rw [neq_self]
 have hloop:laws_eqEventS_l0 (l,l,()) ((0:Int),())=some (Sum.inr (Sum.inl ())):=by
  refine loop_end (fun n=>((n:Int),())) l.length (by omega) _ (fun n hn=>?_) ?_
  ·unfold laws_eqEventS_b0
   simp only [lss_len,inR_nat,hn,decide_true,cond_true,eqEv_self,Option.bind_some,succ64 (n:=n) (by omega)]
   rfl
  ·unfold laws_eqEventS_b0
   simp only [lss_len,Nat.lt_irrefl,decide_false,cond_false]
 simp only [cond_false]
 rw [hloop]
 rfl
end Go.Fn
set_option linter.unusedSimpArgs false
namespace Go.Fn
open Go.R
theorem toIntS_eq (l:List Int) (hl:l.length≤1073741824):laws_toIntS l=some (l,()):=by
 unfold laws_toIntS
 rw [repOk_len hl]
 have hloop:laws_toIntS_l0 (l,()) (List.replicate l.length 0,(0:Int),())=some (Sum.inl (l,())):=by
  have:=loop_end (body:=laws_toIntS_b0 (l,())) (fun n=>(l.take n++List.replicate (l.length - n) 0,(n:Int),())) l.length (by omega) (Sum.inl (l,())) (fun n hn=>?_) ?_
  ·unfold laws_toIntS_l0;simpa using this
  ·unfold laws_toIntS_b0
   have hx:n < (l.take n++List.replicate (l.length - n) (0:Int)).length:=by rw [fill_len _ _ (Nat.le_of_lt hn)];exact hn
   simp only [lss_len,inR_nat,hn,hx,decide_true,cond_true,get_nat,succ64 (n:=n) (by omega),put_nat]
   rw [←set_fill l 0 hn,getD_lt hn zI 0]
  ·unfold laws_toIntS_b0
   simp only [lss_len,Nat.lt_irrefl,decide_false,cond_false,Nat.sub_self,List.replicate_zero,List.append_nil,List.take_length]
 have hr:rRep (rLen l) (0:Int)=List.replicate l.length 0:=rep_nat _ _
 rw [hr]
 simp only [cond_true]
 rw [hloop]
 rfl
theorem eqIntS_self (l:List Int) (hl:l.length≤1073741824):laws_eqIntS l l=some (true,()):=by
 unfold laws_eqIntS
 rw [neq_self]
 have hloop:laws_eqIntS_l0 (l,l,()) ((0:Int),())=some (Sum.inr (Sum.inl ())):=by
  refine loop_end (fun n=>((n:Int),())) l.length (by omega) _ (fun n hn=>?_) ?_
  ·unfold laws_eqIntS_b0
   simp only [lss_len,inR_nat,hn,decide_true,cond_true,neq_self,succ64 (n:=n) (by omega)]
   rfl
  ·unfold laws_eqIntS_b0
   simp only [lss_len,Nat.lt_irrefl,decide_false,cond_false]
 simp only [cond_false]
 rw [hloop]
 rfl
theorem add1 {a:Int} (h0:0≤a) (h1:a≤4611686018427387904):rArith .add .i64 a 1=a+1:=add64 (by omega) (by omega)
noncomputable def fillF {α:Type} (l:List α) (f:Nat→α) (n:Nat):List α:=(List.range n).map f++l.drop n
theorem fillF_len {α:Type} (l:List α) (f:Nat→α) {n:Nat} (h:n≤l.length):(fillF l f n).length=l.length:=by
 simp only [fillF,List.length_append,List.length_map,List.length_range,List.length_drop];omega
theorem fillF_set {α:Type} (l:List α) (f:Nat→α) {n:Nat} (h:n < l.length):(fillF l f n).set n (f n)=fillF l f (n+1):=by
 unfold fillF
 have h1:((List.range n).map f).length=n:=by simp
 rw [List.set_append,if_neg (by omega),h1,Nat.sub_self,List.range_succ,List.map_append,List.append_assoc]
 congr 1
 rw [List.drop_eq_getElem_cons h]
 rfl
theorem fillF_get {α:Type} (f:Nat→α) (k:Nat) {n:Nat} (h:n < k) (z:α):((List.range k).map f).getD n z=f n:=by
 rw [List.getD_eq_getElem?_getD,List.getElem?_map,List.getElem?_range h];rfl
noncomputable def marksI (k:Int) (n:Nat):List Int:=(List.range n).map fun i:Nat=>k+(i:Int)
theorem markIntS_eq (l:List Int) (k:Int) (hl:l.length≤1073741824) (h0:0≤k) (h1:k≤1125899906842624):laws_markIntS l k=some (k+(l.length:Int),marksI k l.length,()):=by
 unfold laws_markIntS
 have hloop:laws_markIntS_l0 () (l,k,(0:Int),())=some (Sum.inl (marksI k l.length,k+(l.length:Int),())):=by
  have:=loop_end (body:=laws_markIntS_b0 ()) (fun n=>(fillF l (fun i=>k+(i:Int)) n,k+(n:Int),(n:Int),())) l.length (by omega) (Sum.inl (marksI k l.length,k+(l.length:Int),())) (fun n hn=>?_) ?_
  ·unfold laws_markIntS_l0
   have e0:fillF l (fun i=>k+(i:Int)) 0=l:=by simp [fillF]
   simp only [e0] at this
   simpa using this
  ·unfold laws_markIntS_b0
   have hx:n < (fillF l (fun i=>k+(i:Int)) n).length:=by rw [fillF_len _ _ (Nat.le_of_lt hn)];exact hn
   simp only [lss_len,inR_nat,hx,decide_true,cond_true,succ64 (n:=n) (by omega),put_nat]
   rw [add1 (by omega) (by omega),←fillF_set _ _ hn]
   have:k+(n:Int)+1=k+((n+1:Nat):Int):=by omega
   rw [this]
  ·unfold laws_markIntS_b0
   have hx:(fillF l (fun i=>k+(i:Int)) l.length).length=l.length:=fillF_len _ _ (Nat.le_refl _)
   simp only [lss_len,hx,Nat.lt_irrefl,decide_false,cond_false]
   simp [fillF,marksI]
 rw [hloop]
 rfl
theorem heldIntS_eq (n:Nat) (k:Int) (hl:n≤1073741824) (h0:0≤k) (h1:k≤1125899906842624):laws_heldIntS (marksI k n) k=some (k+(n:Int),()):=by
 unfold laws_heldIntS
 have hlen:(marksI k n).length=n:=by simp [marksI]
 have hloop:laws_heldIntS_l0 (marksI k n,()) (k,(0:Int),())=some (Sum.inr (Sum.inl (k+(n:Int),()))):=by
  have:=loop_end (body:=laws_heldIntS_b0 (marksI k n,())) (fun m=>(k+(m:Int),(m:Int),())) n (by omega) (Sum.inr (Sum.inl (k+(n:Int),()))) (fun m hm=>?_) ?_
  ·unfold laws_heldIntS_l0;simpa using this
  ·unfold laws_heldIntS_b0
   have hg:(marksI k n).getD m zI=k+(m:Int):=fillF_get _ _ hm _
   simp only [lss_len,hlen,inR_nat,hm,decide_true,cond_true,get_nat,hg,neq_self,cond_false,succ64 (n:=m) (by omega)]
   rw [add1 (by omega) (by omega)]
   have:k+(m:Int)+1=k+((m+1:Nat):Int):=by omega
   rw [this]
  ·unfold laws_heldIntS_b0
   simp only [lss_len,hlen,Nat.lt_irrefl,decide_false,cond_false]
 rw [hloop]
 rfl
noncomputable def markE (k:Int) (i:Nat):Ev:=(k+7*(i:Int),k+7*(i:Int)+1,k+7*(i:Int)+1+1,k+7*(i:Int)+1+1+1,k+7*(i:Int)+1+1+1+1,k+7*(i:Int)+1+1+1+1+1,k+7*(i:Int)+1+1+1+1+1+1)
noncomputable def marksE (k:Int) (n:Nat):List Ev:=(List.range n).map (markE k)
theorem markEventS_eq (l:List Ev) (k:Int) (hl:l.length≤1073741824) (h0:0≤k) (h1:k≤1099511627776):laws_markEventS l k=some (k+7*(l.length:Int),marksE k l.length,()):=by
 unfold laws_markEventS
 have hloop:laws_markEventS_l0 () (l,k,(0:Int),())=some (Sum.inl (marksE k l.length,k+7*(l.length:Int),())):=by
  have:=loop_end (body:=laws_markEventS_b0 ()) (fun n=>(fillF l (markE k) n,k+7*(n:Int),(n:Int),())) l.length (by omega) (Sum.inl (marksE k l.length,k+7*(l.length:Int),())) (fun n hn=>?_) ?_
  ·unfold laws_markEventS_l0
   have e0:fillF l (markE k) 0=l:=by simp [fillF]
   simp only [e0] at this
   simpa using this
  ·have hx:n < (fillF l (markE k) n).length:=by rw [fillF_len _ _ (Nat.le_of_lt hn)];exact hn
   rw [←fillF_set l (markE k) hn]
   generalize hL:fillF l (markE k) n=L at hx
   have e1:k+7*((n+1:Nat):Int)=k+7*(n:Int)+1+1+1+1+1+1+1:=by omega
   rw [e1]
   unfold markE
   have b0:0≤k+7*(n:Int):=by omega
   have b1:k+7*(n:Int)≤1125899906842624:=by omega
   revert b0 b1
   generalize k+7*(n:Int)=q
   intro b0 b1
   have a1:rArith .add .i64 q 1=q+1:=add1 (by omega) (by omega)
   have a2:rArith .add .i64 (q+1) 1=q+1+1:=add1 (by omega) (by omega)
   have a3:rArith .add .i64 (q+1+1) 1=q+1+1+1:=add1 (by omega) (by omega)
   have a4:rArith .add .i64 (q+1+1+1) 1=q+1+1+1+1:=add1 (by omega) (by omega)
   have a5:rArith .add .i64 (q+1+1+1+1) 1=q+1+1+1+1+1:=add1 (by omega) (by omega)
   have a6:rArith .add .i64 (q+1+1+1+1+1) 1=q+1+1+1+1+1+1:=add1 (by omega) (by omega)
   have a7:rArith .add .i64 (q+1+1+1+1+1+1) 1=q+1+1+1+1+1+1+1:=add1 (by omega) (by omega)
   unfold laws_markEventS_b0
   simp only [lss_len,inR_nat,hx,decide_true,cond_true,succ64 (n:=n) (by omega),put_nat,get_nat,a1,a2,a3,a4,a5,a6,a7]
   iterate 8 (rw [lets_def];try simp only [inR_set,List.length_set,hx,decide_true,cond_true,put_nat,get_nat,getD_set_self hx,List.set_set,a7])
  ·unfold laws_markEventS_b0
   have hx:(fillF l (markE k) l.length).length=l.length:=fillF_len _ _ (Nat.le_refl _)
   simp only [lss_len,hx,Nat.lt_irrefl,decide_false,cond_false]
   simp [fillF,marksE]
 rw [hloop]
 rfl
theorem heldEventS_eq (n:Nat) (k:Int) (hl:n≤1073741824) (h0:0≤k) (h1:k≤1099511627776):laws_heldEventS (marksE k n) k=some (k+7*(n:Int),()):=by
 unfold laws_heldEventS
 have hlen:(marksE k n).length=n:=by simp [marksE]
 have hloop:laws_heldEventS_l0 (marksE k n,()) (k,(0:Int),())=some (Sum.inr (Sum.inl (k+7*(n:Int),()))):=by
  have:=loop_end (body:=laws_heldEventS_b0 (marksE k n,())) (fun m=>(k+7*(m:Int),(m:Int),())) n (by omega) (Sum.inr (Sum.inl (k+7*(n:Int),()))) (fun m hm=>?_) ?_
  ·unfold laws_heldEventS_l0;simpa using this
  ·have hg:(marksE k n).getD m zIIIIIII=markE k m:=fillF_get _ _ hm _
   have e1:k+7*((m+1:Nat):Int)=k+7*(m:Int)+1+1+1+1+1+1+1:=by omega
   rw [e1]
   unfold markE at hg
   have b0:0≤k+7*(m:Int):=by omega
   have b1:k+7*(m:Int)≤1125899906842624:=by omega
   revert b0 b1 hg
   generalize k+7*(m:Int)=q
   intro hg b0 b1
   have a1:rArith .add .i64 q 1=q+1:=add1 (by omega) (by omega)
   have a2:rArith .add .i64 (q+1) 1=q+1+1:=add1 (by omega) (by omega)
   have a3:rArith .add .i64 (q+1+1) 1=q+1+1+1:=add1 (by omega) (by omega)
   have a4:rArith .add .i64 (q+1+1+1) 1=q+1+1+1+1:=add1 (by omega) (by omega)
   have a5:rArith .add .i64 (q+1+1+1+1) 1=q+1+1+1+1+1:=add1 (by omega) (by omega)
   have a6:rArith .add .i64 (q+1+1+1+1+1) 1=q+1+1+1+1+1+1:=add1 (by omega) (by omega)
   have a7:rArith .add .i64 (q+1+1+1+1+1+1) 1=q+1+1+1+1+1+1+1:=add1 (by omega) (by omega)
   unfold laws_heldEventS_b0
   simp only [lss_len,hlen,inR_nat,hm,decide_true,cond_true,get_nat,hg,neq_self,cond_false,succ64 (n:=m) (by omega),a1,a2,a3,a4,a5,a6,a7,lets_def]
  ·unfold laws_heldEventS_b0
   simp only [lss_len,hlen,Nat.lt_irrefl,decide_false,cond_false]
 rw [hloop]
 rfl
theorem jok_len {l:List Ev} (h:jok l=true):l.length≤60:=by
 unfold jok at h
 cases hd:decide (60 < l.length) with
 | true=>rw [hd] at h;cases h
 | false=>have:=of_decide_eq_false hd;omega
theorem jok_at {l:List Ev} (h:jok l=true) {n:Nat} (hn:n < l.length):jokAt l n=true:=by
 have h60:=jok_len h
 unfold jok at h
 rw [decide_eq_false (by omega)] at h
 exact (allFrom_iff _ _).1 h n (Nat.zero_le _) (by omega)
theorem inB_iff {a lo hi:Int}:inB a lo hi=true↔lo≤a∧a≤hi:=by
 unfold inB
 by_cases h:lo≤a
 ·rw [decide_eq_true (show a ≥ lo from h)];simp [h]
 ·rw [decide_eq_false (show ¬ a ≥ lo from h)];simp [h]
theorem inR_iff {α:Type} {l:List α} {i:Int} (h0:0≤i) (h1:i < (l.length:Int)):rInR l i=true:=by
 unfold rInR;rw [Bool.and_eq_true];exact ⟨decide_eq_true h0,decide_eq_true h1⟩
theorem neg_of {a:Int} (h:0≤a):rCmp .lss a 0=false:=by simp only [rCmp,decide_eq_false_iff_not];omega
theorem small_of {α:Type} {l:List α} (h:l.length≤1073741824):rSmall l=true:=by unfold rSmall limit;exact decide_eq_true (by omega)
end Go.Fn
set_option linter.unusedSimpArgs false
namespace Go.Fn
open Go.R
theorem toSpan_eq (a0 a1:Int):laws_toSpan a0 a1=some (a0,a1,()):=rfl
theorem toSpanS_eq (l:List (Int×Int)) (hl:l.length≤1073741824):laws_toSpanS l=some (l,()):=by
 unfold laws_toSpanS
 rw [repOk_len hl]
 have hloop:laws_toSpanS_l0 (l,()) (List.replicate l.length (0,0),(0:Int),())=some (Sum.inl (l,())):=by
  have:=loop_end (body:=laws_toSpanS_b0 (l,())) (fun n=>(l.take n++List.replicate (l.length - n) (0,0),(n:Int),())) l.length (by omega) (Sum.inl (l,())) (fun n hn=>?_) ?_
  ·unfold laws_toSpanS_l0;simpa using this
  ·unfold laws_toSpanS_b0
   have hx:n < (l.take n++List.replicate (l.length - n) ((0,0):Int×Int)).length:=by rw [fill_len _ _ (Nat.le_of_lt hn)];exact hn
   simp only [lss_len,inR_nat,hn,hx,decide_true,cond_true,get_nat,toSpan_eq,Option.bind_some,succ64 (n:=n) (by omega),put_nat]
   rw [←set_fill l (0,0) hn,getD_lt hn zII (0,0)]
  ·unfold laws_toSpanS_b0
   simp only [lss_len,Nat.lt_irrefl,decide_false,cond_false,Nat.sub_self,List.replicate_zero,List.append_nil,List.take_length]
 have hr:rRep (rLen l) (((0:Int),(0:Int)))=List.replicate l.length (0,0):=rep_nat _ _
 rw [hr]
 simp only [cond_true]
 rw [hloop]
 rfl
theorem eqSpan_self (a0 a1:Int):laws_eqSpan a0 a1 a0 a1=some (true,()):=by
 unfold laws_eqSpan
 simp only [neq_self,cond_false]
theorem eqSpanS_self (l:List (Int×Int)) (hl:l.length≤1073741824):laws_eqSpanS l l=some (true,()):=by
 unfold laws_eqSpanS
 rw [neq_self]
 have hloop:laws_eqSpanS_l0 (l,l,()) ((0:Int),())=some (Sum.inr (Sum.inl ())):=by
  refine loop_end (fun n=>((n:Int),())) l.length (by omega) _ (fun n hn=>?_) ?_
  ·unfold laws_eqSpanS_b0
   simp only [lss_len,inR_nat,hn,decide_true,cond_true,eqSpan_self,Option.bind_some,succ64 (n:=n) (by omega)]
   rfl
  ·unfold laws_eqSpanS_b0
   simp only [lss_len,Nat.lt_irrefl,decide_false,cond_false]
 simp only [cond_false]
 rw [hloop]
 rfl
theorem szSpanS_eq (l:List (Int×Int)) (a:Int) (hl:l.length≤9223372036854775807) (ha:0≤a) (ha':a≤1048576):laws_szSpanS l a=some (bif decide (a < (l.length:Int)) then -1 else a - (l.length:Int),()):=by
 unfold laws_szSpanS
 have h1:rArith .sub .i64 a (rLen l)=a - (l.length:Int):=sub64 (by unfold rLen;omega) (by unfold rLen;omega)
 rw [h1]
 have h2:rCmp .lss (a - (l.length:Int)) 0=decide (a < (l.length:Int)):=by simp only [rCmp,decide_eq_decide];omega
 rw [h2]
 cases decide (a < (l.length:Int)) <;> rfl
abbrev Spn:=Int×Int
noncomputable def spanAt (l:List Spn) (most:Int) (n:Nat):Bool:=
 bif rCmp .lss (l.getD n zII).1 0 then false else bif rCmp .geq (l.getD n zII).1 (l.getD n zII).2 then false else bif rCmp .gtr (l.getD n zII).2 most then false else
  match n with
  | 0=>true
  | m+1=>bif rCmp .leq (l.getD (m+1) zII).1 (l.getD m zII).2 then false else true
noncomputable def spansOk (l:List Spn) (most:Int):Bool:=bif decide (20 < l.length) then false else allFrom (spanAt l most) 0 l.length
theorem len20 {α:Type} (l:List α):rCmp .gtr (rLen l) (20:Int)=decide (20 < l.length):=by
 simp only [rCmp,rLen,gt_iff_lt,decide_eq_decide]
 omega
theorem gt00:rCmp .gtr ((0:Nat):Int) 0=false:=rfl
theorem specSpans_eq (l:List Spn) (most:Int):spec_SpansOk l most=some (spansOk l most,()):=by
 unfold spec_SpansOk spansOk
 rw [len20]
 cases hl:decide (20 < l.length) with
 | true=>rfl
 | false =>
  have hl:l.length≤20:=by have:=of_decide_eq_false hl;omega
  have hloop:spec_SpansOk_l0 (l,most,()) ((0:Int),())=some (bif allFrom (spanAt l most) 0 l.length then (Sum.inr (Sum.inl ()):Bool×Unit ⊕ (Unit ⊕ Empty)) else Sum.inl (false,())):=by
   refine loop_all (fun n=>((n:Int),())) l.length (by omega) (spanAt l most) _ _ (fun n hn=>?_) ?_
   ·unfold spec_SpansOk_b0 spanAt
    simp only [lss_len,inR_nat,get_nat,hn,decide_true,cond_true]
    cases n with
    | zero =>
     simp only [gt00,cond_false]
     cases rCmp .lss (l.getD 0 zII).1 0 <;> cases rCmp .geq (l.getD 0 zII).1 (l.getD 0 zII).2 <;> cases rCmp .gtr (l.getD 0 zII).2 most <;> rfl
    | succ n =>
     have hn':n < l.length:=by omega
     simp only [gt0,succ64 (n:=n+1) (by omega),pred64 (n:=n) (by omega),inR_lt hn',get_nat,cond_true]
     cases rCmp .lss (l.getD (n+1) zII).1 0 <;> cases rCmp .geq (l.getD (n+1) zII).1 (l.getD (n+1) zII).2 <;> cases rCmp .gtr (l.getD (n+1) zII).2 most <;> cases rCmp .leq (l.getD (n+1) zII).1 (l.getD n zII).2 <;> rfl
   ·unfold spec_SpansOk_b0
    simp only [lss_len,Nat.lt_irrefl,decide_false,cond_false]
  rw [hloop]
  cases allFrom (spanAt l most) 0 l.length <;> rfl
theorem implSpans_eq (l:List Spn) (most:Int):impl_SpansOk l most=some (spansOk l most,()):=by
 unfold impl_SpansOk spansOk
 rw [len20]
 cases hl:decide (20 < l.length) with
 | true=>rfl
 | false =>
  have hl:l.length≤20:=by have:=of_decide_eq_false hl;omega
  have hloop:impl_SpansOk_l0 (l,most,l,rLen l,()) ((0:Int),())=some (bif allFrom (spanAt l most) 0 l.length then (Sum.inr (Sum.inl ()):Bool×Unit ⊕ (Unit ⊕ Empty)) else Sum.inl (false,())):=by
   refine loop_all (fun n=>((n:Int),())) l.length (by omega) (spanAt l most) _ _ (fun n hn=>?_) ?_
   ·unfold impl_SpansOk_b0 spanAt
    simp only [lss_len,inR_nat,get_nat,hn,decide_true,cond_true]
    cases n with
    | zero =>
     simp only [gt00,cond_false]
     cases rCmp .lss (l.getD 0 zII).1 0 <;> cases rCmp .geq (l.getD 0 zII).1 (l.getD 0 zII).2 <;> cases rCmp .gtr (l.getD 0 zII).2 most <;> rfl
    | succ n =>
     have hn':n < l.length:=by omega
     simp only [gt0,succ64 (n:=n+1) (by omega),pred64 (n:=n) (by omega),inR_lt hn',get_nat,cond_true]
     cases rCmp .lss (l.getD (n+1) zII).1 0 <;> cases rCmp .geq (l.getD (n+1) zII).1 (l.getD (n+1) zII).2 <;> cases rCmp .gtr (l.getD (n+1) zII).2 most <;> cases rCmp .leq (l.getD (n+1) zII).1 (l.getD n zII).2 <;> rfl
   ·unfold impl_SpansOk_b0
    simp only [lss_len,Nat.lt_irrefl,decide_false,cond_false]
  rw [hloop]
  cases allFrom (spanAt l most) 0 l.length <;> rfl
noncomputable def weekOk (o c:List Spn):Bool:=bif spansOk o 168 then spansOk c 20000 else false
theorem specWeek_eq (o c:List Spn):spec_WeekOk o c=some (weekOk o c,()):=by
 unfold spec_WeekOk weekOk
 simp only [specSpans_eq,Option.bind_some,bif_some,bif_pair]
theorem implWeek_eq (o c:List Spn):impl_WeekOk o c=some (weekOk o c,()):=by
 unfold impl_WeekOk weekOk
 simp only [implSpans_eq,Option.bind_some,bif_some,bif_pair]
noncomputable def termsOk (a0 a1 a2 a3 a4 a5 a6 a7:Int):Bool:=bif inB a0 1 2000 then bif inB a2 1 2000 then bif inB a5 1 2000 then bif inB a1 0 2000 then bif inB a3 0 10000 then bif inB a4 0 1000000 then bif inB a6 0 100000 then inB a7 0 20 else false else false else false else false else false else false else false
theorem specTerms_eq (a0 a1 a2 a3 a4 a5 a6 a7:Int):spec_TermsOk a0 a1 a2 a3 a4 a5 a6 a7=some (termsOk a0 a1 a2 a3 a4 a5 a6 a7,()):=by
 unfold spec_TermsOk termsOk
 simp only [in_eq,Option.bind_some,bif_some,bif_pair]
theorem implTerms_eq (a0 a1 a2 a3 a4 a5 a6 a7:Int):impl_TermsOk a0 a1 a2 a3 a4 a5 a6 a7=some (termsOk a0 a1 a2 a3 a4 a5 a6 a7,()):=by
 unfold impl_TermsOk termsOk
 simp only [within_eq,Option.bind_some,bif_some,bif_pair]
theorem gtr_not (a b:Int):rCmp .gtr a b=Bool.not (rCmp .leq a b):=by
 simp only [rCmp,gt_iff_lt]
 by_cases h:a≤b
 ·rw [decide_eq_true h,decide_eq_false (by omega)];rfl
 ·rw [decide_eq_false h,decide_eq_true (by omega)];rfl
abbrev Sty:=Int×Int×Int×Int
theorem toWeek_eq (o c:List Spn) (ho:o.length≤1073741824) (hc:c.length≤1073741824):laws_toWeek o c=some (o,c,()):=by
 unfold laws_toWeek
 rw [toSpanS_eq o ho]
 simp only [Option.bind_some]
 rw [toSpanS_eq c hc]
 rfl
theorem eqWeek_self (o c:List Spn) (ho:o.length≤1073741824) (hc:c.length≤1073741824):laws_eqWeek o c o c=some (true,()):=by
 unfold laws_eqWeek
 rw [eqSpanS_self o ho]
 simp only [Option.bind_some,Bool.not_true,cond_false]
 rw [eqSpanS_self c hc]
 rfl
theorem toTerms_eq (a0 a1 a2 a3 a4 a5 a6 a7:Int):laws_toTerms a0 a1 a2 a3 a4 a5 a6 a7=some (a0,a1,a2,a3,a4,a5,a6,a7,()):=rfl
theorem rBeq_self (b:Bool):rBeq b b=true:=by unfold rBeq;simp
theorem neg1:rCmp .lss (-1:Int) 0=true:=rfl
theorem szWeek_eq (o c:List Spn) (a:Int) (ho:o.length≤9223372036854775807) (hc:c.length≤9223372036854775807) (ha:0≤a) (ha':a≤1048576) :
  laws_szWeek o c a=some (bif decide (a < (o.length:Int)+(c.length:Int)) then -1 else a - (o.length:Int) - (c.length:Int),()):=by
 unfold laws_szWeek
 rw [szSpanS_eq o a ho ha ha']
 simp only [Option.bind_some]
 cases h1:decide (a < (o.length:Int)) with
 | true =>
  have h1:=of_decide_eq_true h1
  rw [decide_eq_true (show a < (o.length:Int)+(c.length:Int) by omega)]
  simp only [cond_true,neg1]
 | false =>
  have h1:=of_decide_eq_false h1
  simp only [cond_false]
  rw [neg_of (by omega)]
  simp only [cond_false]
  rw [szSpanS_eq c _ hc (by omega) (by omega)]
  simp only [Option.bind_some]
  have h3:decide (a - (o.length:Int) < (c.length:Int))=decide (a < (o.length:Int)+(c.length:Int)):=by rw [decide_eq_decide];omega
  rw [h3]
  cases h2:decide (a < (o.length:Int)+(c.length:Int)) with
  | true=>simp only [cond_true,neg1]
  | false =>
   have h2:=of_decide_eq_false h2
   simp only [cond_false]
   rw [neg_of (by omega)]
   rfl
end Go.Fn
set_option linter.unusedSimpArgs false
namespace Go.Fn
open Go.R
abbrev Stp:=Int×Int×Int×Int×Int
theorem szIntS_eq (l:List Int) (a:Int) (hl:l.length≤9223372036854775807) (ha:0≤a) (ha':a≤1048576):laws_szIntS l a=some (bif decide (a < (l.length:Int)) then -1 else a - (l.length:Int),()):=by
 unfold laws_szIntS
 have h1:rArith .sub .i64 a (rLen l)=a - (l.length:Int):=sub64 (by unfold rLen;omega) (by unfold rLen;omega)
 rw [h1]
 have h2:rCmp .lss (a - (l.length:Int)) 0=decide (a < (l.length:Int)):=by simp only [rCmp,decide_eq_decide];omega
 rw [h2]
 cases decide (a < (l.length:Int)) <;> rfl
end Go.Fn
set_option linter.unusedSimpArgs false
namespace Go.Fn
open Go.R
noncomputable def leg (g:List (List Int)) (i j:Nat):Int:=(g.getD i zLIl).getD j zI
end Go.Fn
set_option linter.unusedSimpArgs false
namespace Go.Fn
open Go.R
abbrev RSt:=Int×List Int×Int×Int×Int×Int
noncomputable def arr (g:List (List Int)) (st:RSt) (i:Int):Int:=rArith .add .i64 st.2.2.1 (rGet zI (rGet zLIl g st.2.2.2.2.2) (rArith .add .i64 i 1))
theorem leq_not (a b:Int):rCmp .leq a b=Bool.not (rCmp .gtr a b):=by rw [gtr_not,Bool.not_not]
end Go.Fn
set_option linter.unusedSimpArgs false
namespace Go.Fn
open Go.R
theorem eqTerms_self (a0 a1 a2 a3 a4 a5 a6 a7:Int):laws_eqTerms a0 a1 a2 a3 a4 a5 a6 a7 a0 a1 a2 a3 a4 a5 a6 a7=some (true,()):=by
 unfold laws_eqTerms
 simp only [neq_self,cond_false]
abbrev Trm:=Int×Int×Int×Int×Int×Int×Int×Int
end Go.Fn
set_option linter.unusedSimpArgs false
namespace Go.Fn
open Go.R
theorem eqLock_self (a0 a1 a2 a3 a4:Int):laws_eqLock a0 a1 a2 a3 a4 a0 a1 a2 a3 a4=some (true,()):=by
 unfold laws_eqLock
 simp only [neq_self,cond_false]
theorem eqParcel_self (a0 a1 a2 a3 a4 a5 a6 a7 a8 a9 a10 a11 a12:Int):laws_eqParcel a0 a1 a2 a3 a4 a5 a6 a7 a8 a9 a10 a11 a12 a0 a1 a2 a3 a4 a5 a6 a7 a8 a9 a10 a11 a12=some (true,()):=by
 unfold laws_eqParcel
 simp only [neq_self,cond_false,eqLock_self,Option.bind_some,Bool.not_true]
theorem toBox_eq (a0:Int) (a1:Int) (a2:Int) (a3:Bool):laws_toBox a0 a1 a2 a3=some (a0,a1,a2,a3,()):=rfl
theorem toBoxS_eq (l:List (Int×Int×Int×Bool)) (hl:l.length≤1073741824):laws_toBoxS l=some (l,()):=by
 unfold laws_toBoxS
 rw [repOk_len hl]
 have hloop:laws_toBoxS_l0 (l,()) (List.replicate l.length (0,0,0,false),(0:Int),())=some (Sum.inl (l,())):=by
  have:=loop_end (body:=laws_toBoxS_b0 (l,())) (fun n=>(l.take n++List.replicate (l.length - n) (0,0,0,false),(n:Int),())) l.length (by omega) (Sum.inl (l,())) (fun n hn=>?_) ?_
  ·unfold laws_toBoxS_l0;simpa using this
  ·unfold laws_toBoxS_b0
   have hx:n < (l.take n++List.replicate (l.length - n) ((0,0,0,false):Int×Int×Int×Bool)).length:=by rw [fill_len _ _ (Nat.le_of_lt hn)];exact hn
   simp only [lss_len,inR_nat,hn,hx,decide_true,cond_true,get_nat,toBox_eq,Option.bind_some,lets_def,succ64 (n:=n) (by omega),put_nat]
   rw [←set_fill l (0,0,0,false) hn,getD_lt hn zIIIB (0,0,0,false)]
  ·unfold laws_toBoxS_b0
   simp only [lss_len,Nat.lt_irrefl,decide_false,cond_false,Nat.sub_self,List.replicate_zero,List.append_nil,List.take_length]
 have hr:rRep (rLen l) (((0:Int),(0:Int),(0:Int),false))=List.replicate l.length (0,0,0,false):=rep_nat _ _
 rw [hr]
 simp only [cond_true]
 rw [hloop]
 rfl
theorem eqBox_self (a0:Int) (a1:Int) (a2:Int) (a3:Bool):laws_eqBox a0 a1 a2 a3 a0 a1 a2 a3=some (true,()):=by
 unfold laws_eqBox
 simp only [neq_self,rBeq_self,Bool.not_true,cond_false]
theorem eqBoxS_self (l:List (Int×Int×Int×Bool)) (hl:l.length≤1073741824):laws_eqBoxS l l=some (true,()):=by
 unfold laws_eqBoxS
 rw [neq_self]
 have hloop:laws_eqBoxS_l0 (l,l,()) ((0:Int),())=some (Sum.inr (Sum.inl ())):=by
  refine loop_end (fun n=>((n:Int),())) l.length (by omega) _ (fun n hn=>?_) ?_
  ·unfold laws_eqBoxS_b0
   simp only [lss_len,inR_nat,hn,decide_true,cond_true,eqBox_self,Option.bind_some,succ64 (n:=n) (by omega)]
   rfl
  ·unfold laws_eqBoxS_b0
   simp only [lss_len,Nat.lt_irrefl,decide_false,cond_false]
 simp only [cond_false]
 rw [hloop]
 rfl
theorem szBoxS_eq (l:List (Int×Int×Int×Bool)) (a:Int) (hl:l.length≤9223372036854775807) (ha:0≤a) (ha':a≤1048576):laws_szBoxS l a=some (bif decide (a < (l.length:Int)) then -1 else a - (l.length:Int),()):=by
 unfold laws_szBoxS
 have h1:rArith .sub .i64 a (rLen l)=a - (l.length:Int):=sub64 (by unfold rLen;omega) (by unfold rLen;omega)
 rw [h1]
 have h2:rCmp .lss (a - (l.length:Int)) 0=decide (a < (l.length:Int)):=by simp only [rCmp,decide_eq_decide];omega
 rw [h2]
 cases decide (a < (l.length:Int)) <;> rfl
theorem eqParcelS_self (l:List (Int×Int×Int×Int×Int×Int×Int×Int×Int×Int×Int×Int×Int)) (hl:l.length≤1073741824):laws_eqParcelS l l=some (true,()):=by
 unfold laws_eqParcelS
 rw [neq_self]
 have hloop:laws_eqParcelS_l0 (l,l,()) ((0:Int),())=some (Sum.inr (Sum.inl ())):=by
  refine loop_end (fun n=>((n:Int),())) l.length (by omega) _ (fun n hn=>?_) ?_
  ·unfold laws_eqParcelS_b0
   simp only [lss_len,inR_nat,hn,decide_true,cond_true,eqParcel_self,Option.bind_some,succ64 (n:=n) (by omega)]
   rfl
  ·unfold laws_eqParcelS_b0
   simp only [lss_len,Nat.lt_irrefl,decide_false,cond_false]
 simp only [cond_false]
 rw [hloop]
 rfl
theorem eqGrant_self (a0:Int) (a1:Int) (a2:Int) (a3:Int) (a4:Int) (a5:Int) (a6:Bool):laws_eqGrant a0 a1 a2 a3 a4 a5 a6 a0 a1 a2 a3 a4 a5 a6=some (true,()):=by
 unfold laws_eqGrant
 simp only [neq_self,rBeq_self,Bool.not_true,cond_false]
theorem eqGrantS_self (l:List (Int×Int×Int×Int×Int×Int×Bool)) (hl:l.length≤1073741824):laws_eqGrantS l l=some (true,()):=by
 unfold laws_eqGrantS
 rw [neq_self]
 have hloop:laws_eqGrantS_l0 (l,l,()) ((0:Int),())=some (Sum.inr (Sum.inl ())):=by
  refine loop_end (fun n=>((n:Int),())) l.length (by omega) _ (fun n hn=>?_) ?_
  ·unfold laws_eqGrantS_b0
   simp only [lss_len,inR_nat,hn,decide_true,cond_true,eqGrant_self,Option.bind_some,succ64 (n:=n) (by omega)]
   rfl
  ·unfold laws_eqGrantS_b0
   simp only [lss_len,Nat.lt_irrefl,decide_false,cond_false]
 simp only [cond_false]
 rw [hloop]
 rfl
theorem copy_gen {α:Type} {body:List α×Int×Unit→Option ((List α×Int×Unit) ⊕ (List α×Unit ⊕ Empty))} (l:List α) (zr z:α) (hl:l.length≤1073741824)
  (h:∀ (n:Nat) (acc:List α),n < l.length→acc.length=l.length→body (acc,(n:Int),())=some (.inl (acc.set n (l.getD n z),((n+1:Nat):Int),())))
  (hend:∀ acc:List α,acc.length=l.length→body (acc,(l.length:Int),())=some (.inr (.inl (acc,())))):iter body big (List.replicate l.length zr,0,())=some (Sum.inl (l,())):=by
 have:=loop_end (body:=body) (fun n=>(l.take n++List.replicate (l.length - n) zr,(n:Int),())) l.length (by omega) (Sum.inl (l,())) (fun n hn=>?_) ?_
 ·simpa using this
 ·show body (l.take n++List.replicate (l.length - n) zr,(n:Int),())=_
  rw [h n _ hn (fill_len _ _ (Nat.le_of_lt hn)),getD_lt hn z zr,set_fill l zr hn]
 ·show body (l.take l.length++List.replicate (l.length - l.length) zr,(l.length:Int),())=_
  rw [hend _ (fill_len _ _ (Nat.le_refl _))]
  simp
abbrev Bx:=Int×Int×Int×Bool
abbrev Col:=Int×List Int×List Bx
abbrev Site:=List Spn×List Spn×List Col×Int×Int×Bool×Bool×Bool×Int×Int×List Ev
noncomputable def zCol:Col:=zILIlLIIIBl
noncomputable def zSite:Site:=zLIIlLIIlLILIlLIIIBllIIBBBIILIIIIIIIl
noncomputable def colLe (m:Nat) (c:Col):Prop:=c.2.1.length≤m∧c.2.2.length≤m
theorem toColumn_eq (a0:Int) (a1:List Int) (a2:List Bx) (h1:a1.length≤1073741824) (h2:a2.length≤1073741824):laws_toColumn a0 a1 a2=some (a0,a1,a2,()):=by
 unfold laws_toColumn
 rw [toIntS_eq a1 h1]
 simp only [Option.bind_some]
 rw [toBoxS_eq a2 h2]
 rfl
theorem eqColumn_self (a0:Int) (a1:List Int) (a2:List Bx) (h1:a1.length≤1073741824) (h2:a2.length≤1073741824):laws_eqColumn a0 a1 a2 a0 a1 a2=some (true,()):=by
 unfold laws_eqColumn
 simp only [neq_self,cond_false,eqIntS_self a1 h1,Option.bind_some,Bool.not_true,eqBoxS_self a2 h2]
theorem getD_mem {α:Type} {l:List α} {n:Nat} (h:n < l.length) (z:α):l.getD n z∈l:=by
 rw [List.getD_eq_getElem?_getD,List.getElem?_eq_getElem h]
 exact List.getElem_mem h
theorem toColumnS_eq (l:List Col) (hl:l.length≤1073741824) (hc:∀ n,n < l.length→colLe 1073741824 (l.getD n zCol)):laws_toColumnS l=some (l,()):=by
 unfold laws_toColumnS
 rw [repOk_len hl]
 have hr:rRep (rLen l) (((0:Int),([]:List Int),([]:List Bx)))=List.replicate l.length (0,[],[]):=rep_nat _ _
 rw [hr]
 have:=copy_gen (body:=laws_toColumnS_b0 (l,())) l (0,[],[]) zCol hl (fun n acc hn ha=>by
  obtain ⟨c1,c2⟩:=hc n hn
  unfold laws_toColumnS_b0
  simp only [lss_len,inR_nat,hn,ha,decide_true,cond_true,get_nat,lets_def,succ64 (n:=n) (show n < 1099511627776 by omega),put_nat]
  show ((laws_toColumn (l.getD n zCol).1 (l.getD n zCol).2.1 (l.getD n zCol).2.2).bind _)=_
  rw [toColumn_eq _ _ _ c1 c2]
  rfl) (fun acc _=>by
  unfold laws_toColumnS_b0
  simp only [lss_len,Nat.lt_irrefl,decide_false,cond_false])
 simp only [cond_true]
 unfold laws_toColumnS_l0
 rw [this]
 rfl
theorem eqColumnS_self (l:List Col) (hl:l.length≤1073741824) (hc:∀ n,n < l.length→colLe 1073741824 (l.getD n zCol)):laws_eqColumnS l l=some (true,()):=by
 unfold laws_eqColumnS
 rw [neq_self]
 have hloop:laws_eqColumnS_l0 (l,l,()) ((0:Int),())=some (Sum.inr (Sum.inl ())):=by
  refine loop_end (fun n=>((n:Int),())) l.length (by show _ < _;omega) _ (fun n hn=>?_) ?_
  ·obtain ⟨c1,c2⟩:=hc n hn
   unfold laws_eqColumnS_b0
   simp only [lss_len,inR_nat,hn,decide_true,cond_true,get_nat,lets_def,succ64 (n:=n) (show n < 1099511627776 by omega)]
   show ((laws_eqColumn (l.getD n zCol).1 (l.getD n zCol).2.1 (l.getD n zCol).2.2 (l.getD n zCol).1 (l.getD n zCol).2.1 (l.getD n zCol).2.2).bind _)=_
   rw [eqColumn_self _ _ _ c1 c2]
   rfl
  ·unfold laws_eqColumnS_b0
   simp only [lss_len,Nat.lt_irrefl,decide_false,cond_false]
 simp only [cond_false]
 rw [hloop]
 rfl
structure siteLe (m:Nat) (x:Site):Prop where
 o:x.1.length≤m
 c:x.2.1.length≤m
 b:x.2.2.1.length≤m
 bs:∀ n,n < x.2.2.1.length→colLe m (x.2.2.1.getD n zCol)
 j:x.2.2.2.2.2.2.2.2.2.2.length≤m
theorem eqDoor_self (a0 a1:Int) (a2 a3 a4:Bool):laws_eqDoor a0 a1 a2 a3 a4 a0 a1 a2 a3 a4=some (true,()):=by
 unfold laws_eqDoor
 simp only [neq_self,rBeq_self,Bool.not_true,cond_false]
theorem eqSite_self (x:Site) (h:siteLe 1073741824 x):laws_eqSite x.1 x.2.1 x.2.2.1 x.2.2.2.1 x.2.2.2.2.1 x.2.2.2.2.2.1 x.2.2.2.2.2.2.1 x.2.2.2.2.2.2.2.1 x.2.2.2.2.2.2.2.2.1 x.2.2.2.2.2.2.2.2.2.1 x.2.2.2.2.2.2.2.2.2.2 x.1 x.2.1 x.2.2.1 x.2.2.2.1 x.2.2.2.2.1 x.2.2.2.2.2.1 x.2.2.2.2.2.2.1 x.2.2.2.2.2.2.2.1 x.2.2.2.2.2.2.2.2.1 x.2.2.2.2.2.2.2.2.2.1 x.2.2.2.2.2.2.2.2.2.2=some (true,()):=by
 unfold laws_eqSite
 simp only [eqWeek_self _ _ h.o h.c,eqColumnS_self _ h.b h.bs,eqDoor_self,eqEvS_self _ h.j,Option.bind_some,neq_self,Bool.not_true,cond_false]
theorem eqSiteS_self (l:List Site) (hl:l.length≤1073741824) (hc:∀ n,n < l.length→siteLe 1073741824 (l.getD n zSite)):laws_eqSiteS l l=some (true,()):=by
 unfold laws_eqSiteS
 rw [neq_self]
 have hloop:laws_eqSiteS_l0 (l,l,()) ((0:Int),())=some (Sum.inr (Sum.inl ())):=by
  refine loop_end (fun n=>((n:Int),())) l.length (by show _ < _;omega) _ (fun n hn=>?_) ?_
  ·have hs:=eqSite_self (l.getD n zSite) (hc n hn)
   unfold laws_eqSiteS_b0
   simp only [lss_len,inR_nat,hn,decide_true,cond_true,get_nat,lets_def,succ64 (n:=n) (show n < 1099511627776 by omega)]
   have hs':=congrArg (fun q=>q.bind fun (y0:Bool×Unit)=>(bif (Bool.not y0.1) then some (Sum.inr (Sum.inl (false,()))) else some (Sum.inl (((n+1:Nat):Int),())):Option ((Int×Unit) ⊕ (Bool×Unit ⊕ (Unit ⊕ Empty))))) hs
   exact hs'
  ·unfold laws_eqSiteS_b0
   simp only [lss_len,Nat.lt_irrefl,decide_false,cond_false]
 simp only [cond_false]
 rw [hloop]
 rfl
end Go.Fn
set_option linter.unusedSimpArgs false
namespace Go.Fn
open Go.R
abbrev Prc:=Int×Int×Int×Int×Int×Int×Int×Int×Int×Int×Int×Int×Int
abbrev Grt:=Int×Int×Int×Int×Int×Int×Bool
structure netLe (s:List Site) (p:List Prc) (g:List Grt) (j:List Ev):Prop where
 ls:s.length≤1048576
 ss:∀ n,n < s.length→siteLe 1073741824 (s.getD n zSite)
 lp:p.length≤1048576
 lg:g.length≤1048576
 lj:j.length≤1048576
section
variable (a0 a1 a2 a3 a4 a5 a6 a7 a8 a9 a10:Int) (s:List Site) (p:List Prc) (g:List Grt) (j:List Ev)
theorem eqNetwork_self (h:netLe s p g j):laws_eqNetwork a0 a1 a2 a3 a4 a5 a6 a7 a8 a9 a10 s p g j a0 a1 a2 a3 a4 a5 a6 a7 a8 a9 a10 s p g j=some (true,()):=by
 have h1:=h.ls;have h2:=h.lp;have h3:=h.lg;have h4:=h.lj
 unfold laws_eqNetwork
 simp only [eqTerms_self,neq_self,eqSiteS_self s (by omega) h.ss,eqParcelS_self p (by omega),eqGrantS_self g (by omega),eqEvS_self j (by omega),Option.bind_some,Bool.not_true,cond_false]
theorem secret_eq (n:Int):∃ y,spec_SecretOf a0 a1 a2 a3 a4 a5 a6 a7 a8 a9 a10 s p g j n=some (y,())∧impl_SecretOf a0 a1 a2 a3 a4 a5 a6 a7 a8 a9 a10 s p g j n=some (y,()):=by
 unfold spec_SecretOf impl_SecretOf spec_l03Secret impl_secretOk
 simp only [in_eq,within_eq,Option.bind_some]
 have hz:rIsZero (2147483646:Int)=false:=rfl
 cases inB a9 1 2147483646 with
 | false=>exact ⟨_,rfl,rfl⟩
 | true =>
  cases inB n 1 12 with
  | false=>exact ⟨_,rfl,rfl⟩
  | true=>simp only [hz];exact ⟨_,rfl,rfl⟩
end
end Go.Fn
namespace Go.R
def Yl {α:Type} (x:Option α) (P:α→Prop):Prop:=∃ a,x=some a∧P a
section
variable {α β:Type} {P:α→Prop} {Q:β→Prop}
theorem Yl.ret {a:α} (h:P a):Yl (some a) P:=⟨a,rfl,h⟩
theorem Yl.bind {x:Option α} {f:α→Option β} (hx:Yl x P) (hf:∀ a,P a→Yl (f a) Q):Yl (x.bind f) Q:=by
 obtain ⟨a,rfl,ha⟩:=hx
 exact hf a ha
theorem Yl.mono {P':α→Prop} {x:Option α} (hx:Yl x P) (h:∀ a,P a→P' a):Yl x P':=by
 obtain ⟨a,e,ha⟩:=hx
 exact ⟨a,e,h a ha⟩
theorem Yl.cond {b:Bool} {x y:Option α} (hx:b=true→Yl x P) (hy:b=false→Yl y P):Yl (bif b then x else y) P:=by
 cases b
 ·exact hy rfl
 ·exact hx rfl
theorem Yl.guard {b:Bool} {x:Option α} (hb:b=true) (hx:Yl x P):Yl (bif b then x else none) P:=by
 subst hb;exact hx
theorem Yl.lets {γ:Type} {v:γ} {k:γ→Option α} (h:Yl (k v) P):Yl (lets v k) P:=h
end
theorem small_of {α:Type} {l:List α} (h:l.length≤1073741824):rSmall l=true:=by
 unfold rSmall limit
 exact decide_eq_true (by omega)
open Go.Fn
end Go.R
set_option linter.unusedSimpArgs false
set_option linter.unusedVariables false
namespace Go.Fn
open Go.R Go.Sort
section
variable {α:Type} [Inhabited α] {lt:α→α→Bool}
theorem one:(1:Int)=((1:Nat):Int):=rfl
end
end Go.Fn
set_option linter.unusedSimpArgs false
set_option linter.unusedVariables false
namespace Go.Fn
open Go.R Go.Sort
section
variable {α:Type} [Inhabited α] {lt:α→α→Bool}
abbrev PdqQ (α:Type):=Option (((List α)×Int×Int×Int×Bool×Bool×Unit) ⊕ ((List α)×Unit ⊕ Empty))
noncomputable def Next (lt:α→α→Bool) (q:PdqQ α) (d:Array α) (a b:Nat):Prop:=
 (∃ R,q=some (.inr (.inl (R.toList,())))∧PermIn a b d R∧SortedIn lt a b R) ∨
 (∃ (E:Array α) (a' b':Nat) (L:Int) (wb wp:Bool),q=some (.inl (E.toList,(a':Int),(b':Int),L,wb,wp,()))∧E.size=d.size∧a'≤b'∧b'≤b∧b' - a' < b - a∧Below lt a' b' E∧∀ R,PermIn a' b' E R→SortedIn lt a' b' R→PermIn a b d R∧SortedIn lt a b R)
theorem Next.mono {q:PdqQ α} {d D:Array α} {a b:Nat} (h:Next lt q D a b) (p:PermIn a b d D):Next lt q d a b:=by
 rcases h with ⟨R,h1,h2,h3⟩ | ⟨E,a',b',L,wb,wp,h1,h2,h3,h4,h5,h6,h7⟩
 ·exact .inl ⟨R,h1,permIn_trans _ _ _ a b p h2,h3⟩
 ·refine .inr ⟨E,a',b',L,wb,wp,h1,by rw [h2,p.1],h3,h4,h5,h6,fun R hR hs=>?_⟩
  obtain ⟨k1,k2⟩:=h7 R hR hs
  exact ⟨permIn_trans _ _ _ a b p k1,k2⟩
end
end Go.Fn
set_option linter.unusedSimpArgs false
set_option linter.unusedVariables false
namespace Go.Fn
open Go.R Go.Sort
noncomputable def ltE (x y:Ev):Bool:=decide (x.1 < y.1) || (decide (x.1=y.1) && decide (x.2.1 < y.2.1))
end Go.Fn
set_option linter.unusedSimpArgs false
set_option linter.unusedVariables false
namespace Go.Fn
open Go.R Go.Sort
theorem ltE_iff {x y:Ev}:ltE x y=true↔x.1 < y.1∨(x.1=y.1∧x.2.1 < y.2.1):=by
 unfold ltE;simp
theorem ltE_tr {x y z:Ev} (h1:ltE x y=true) (h2:ltE y z=true):ltE x z=true:=by rw [ltE_iff] at *;omega
abbrev Srt (l:List Ev):Prop:=l.Pairwise fun x y=>ltE x y=true
theorem srt_adj:∀ (l:List Ev),(∀ n,n+1 < l.length→ltE (l.getD n zIIIIIII) (l.getD (n+1) zIIIIIII)=true)→Srt l
 | [],_=>List.Pairwise.nil
 | [x],_=>List.pairwise_singleton _ _
 | x::y::l,h=>by
  have ih:=srt_adj (y::l) (fun n hn=>h (n+1) (by simpa using hn))
  have hxy:ltE x y=true:=h 0 (by simp)
  refine List.Pairwise.cons (fun z hz=>?_) ih
  rcases List.mem_cons.1 hz with rfl | hz
  ·exact hxy
  ·exact ltE_tr hxy ((List.pairwise_cons.1 ih).1 z hz)
theorem jok_srt {l:List Ev} (h:jok l=true):Srt l:=by
 refine srt_adj l fun n hn=>?_
 have:=jok_at h hn
 simp only [jokAt,Bool.and_eq_true,ordOk,Bool.not_eq_true',Bool.or_eq_false_iff,Bool.and_eq_false_iff,decide_eq_false_iff_not] at this
 rw [ltE_iff]
 omega
end Go.Fn
set_option linter.unusedSimpArgs false
set_option linter.unusedVariables false
namespace Go.Fn
open Go.R Go.Sort
theorem both_self {R:Type} (x:Option R):both x x=x:=by unfold both;simp
end Go.Fn
set_option linter.unusedSimpArgs false
set_option linter.unusedVariables false
namespace Go.Fn
open Go.R Go.Sort
noncomputable def aStep (node:Int) (s:Int×Int×Nat×Nat) (x:Ev):Int×Int×Nat×Nat:=
 ((bif decide (x.1=node) then x.2.1+1 else s.1),max s.2.1 (x.2.2.1+1),(bif decide (x.1≤node) then s.2.2.2+1 else s.2.2.1),s.2.2.2+1)
noncomputable def aRun (l:List Ev) (node:Int):Int×Int×Nat×Nat:=l.foldl (aStep node) (1,1,0,0)
noncomputable def newE (l:List Ev) (node kind parcel a b:Int):Ev:=(node,(aRun l node).1,(aRun l node).2.1,kind,parcel,a,b)
noncomputable def withE (l:List Ev) (node kind parcel a b:Int):List Ev:=l.take (aRun l node).2.2.1++[newE l node kind parcel a b]++l.drop (aRun l node).2.2.1
noncomputable def addEv (l:List Ev) (node kind parcel a b:Int):List Ev×Bool:=bif jok l then bif jok (withE l node kind parcel a b) then (withE l node kind parcel a b,true) else (l,false) else (l,false)
structure AInv (node:Int) (p:List Ev) (s:Int×Int×Nat×Nat):Prop where
 c:s.2.2.2=p.length
 at_le:s.2.2.1≤p.length
 s1:∀ x,x∈p→x.1=node→x.2.1 < s.1
 s2:s.1=1∨∃ x,x∈p∧x.1=node∧s.1=x.2.1+1
 p1:∀ x,x∈p→x.2.2.1 < s.2.1
 p2:s.2.1=1∨∃ x,x∈p∧s.2.1=x.2.2.1+1
 a1:∀ x,x∈p.take s.2.2.1→x.1≤node
 a2:∀ x,x∈p.drop s.2.2.1→node < x.1
theorem aInv_step {node:Int} {p:List Ev} {s:Int×Int×Nat×Nat} {x:Ev} (h:AInv node p s) (hp:Srt (p++[x])):AInv node (p++[x]) (aStep node s x):=by
 have hlt:∀ y,y∈p→ltE y x=true:=fun y hy=>(List.pairwise_append.1 hp).2.2 y hy x (List.mem_singleton.2 rfl)
 obtain ⟨h1,h2,h3,h4,h5,h6,h7,h8⟩:=h
 unfold aStep
 refine ⟨by simp [h1],?_,fun y hy hn=>?_,?_,fun y hy=>?_,?_,?_,?_⟩
 ·cases decide (x.1≤node) <;> simp <;> omega
 ·simp only []
  rcases List.mem_append.1 hy with hy | hy
  ·by_cases hx:x.1=node
   ·rw [decide_eq_true hx]
    have:=hlt y hy
    rw [ltE_iff] at this
    simp only [cond_true];omega
   ·rw [decide_eq_false hx]
    exact h3 y hy hn
  ·rw [List.mem_singleton] at hy
   subst hy
   rw [decide_eq_true hn]
   simp only [cond_true];omega
 ·simp only []
  by_cases hx:x.1=node
  ·rw [decide_eq_true hx]
   exact .inr ⟨x,by simp,hx,rfl⟩
  ·rw [decide_eq_false hx]
   rcases h4 with h4 | ⟨y,hy,h4⟩
   ·exact .inl h4
   ·exact .inr ⟨y,List.mem_append_left _ hy,h4⟩
 ·simp only []
  rcases List.mem_append.1 hy with hy | hy
  ·have:=h5 y hy;omega
  ·rw [List.mem_singleton] at hy
   subst hy;omega
 ·simp only []
  by_cases hm:s.2.1≤x.2.2.1+1
  ·exact .inr ⟨x,by simp,by omega⟩
  ·rcases h6 with h6 | ⟨y,hy,h6⟩
   ·exact .inl (by omega)
   ·exact .inr ⟨y,List.mem_append_left _ hy,by omega⟩
 ·simp only []
  by_cases hx:x.1≤node
  ·rw [decide_eq_true hx]
   intro y hy
   rw [cond_true,h1,List.take_of_length_le (by simp)] at hy
   rcases List.mem_append.1 hy with hy | hy
   ·have:=hlt y hy;rw [ltE_iff] at this;omega
   ·rw [List.mem_singleton] at hy;subst hy;exact hx
  ·rw [decide_eq_false hx]
   intro y hy
   rw [cond_false,List.take_append_of_le_length h2] at hy
   exact h7 y hy
 ·simp only []
  by_cases hx:x.1≤node
  ·rw [decide_eq_true hx]
   intro y hy
   rw [cond_true,h1,List.drop_of_length_le (by simp)] at hy
   exact absurd hy List.not_mem_nil
  ·rw [decide_eq_false hx]
   intro y hy
   rw [cond_false,List.drop_append_of_le_length h2] at hy
   rcases List.mem_append.1 hy with hy | hy
   ·exact h8 y hy
   ·rw [List.mem_singleton] at hy;subst hy;omega
theorem aInv_run (node:Int):∀ (l p:List Ev) (s:Int×Int×Nat×Nat),Srt (p++l)→AInv node p s→AInv node (p++l) (l.foldl (aStep node) s)
 | [],p,s,_,h=>by simpa using h
 | x::l,p,s,hp,h=>by
  have e:p++x::l=(p++[x])++l:=by simp
  rw [e] at hp ⊢
  exact aInv_run node l (p++[x]) (aStep node s x) hp (aInv_step h (List.pairwise_append.1 hp).1)
theorem aRun_inv (node:Int) {l:List Ev} (h:Srt l):AInv node l (aRun l node):=by
 have:=aInv_run node l [] (1,1,0,0) (by simpa using h) ⟨rfl,Nat.le_refl _,fun x hx=>absurd hx List.not_mem_nil,.inl rfl,fun x hx=>absurd hx List.not_mem_nil,.inl rfl,fun x hx=>absurd (List.mem_of_mem_take hx) List.not_mem_nil,fun x hx=>absurd (List.mem_of_mem_drop hx) List.not_mem_nil⟩
 exact this
theorem withE_mem {l:List Ev} {node kind parcel a b:Int} (z:Ev):z∈withE l node kind parcel a b↔z=newE l node kind parcel a b∨z∈l:=by
 unfold withE
 rw [List.mem_append,List.mem_append,List.mem_singleton]
 constructor
 ·rintro ((h | h) | h)
  ·exact .inr (List.mem_of_mem_take h)
  ·exact .inl h
  ·exact .inr (List.mem_of_mem_drop h)
 ·rintro (h | h)
  ·exact .inl (.inr h)
  ·rw [←List.take_append_drop (aRun l node).2.2.1 l,List.mem_append] at h
   rcases h with h | h
   ·exact .inl (.inl h)
   ·exact .inr h
theorem withE_len {l:List Ev} (h:Srt l) (node kind parcel a b:Int):(withE l node kind parcel a b).length=l.length+1:=by
 have:=(aRun_inv node h).at_le
 unfold withE
 simp only [List.length_append,List.length_take,List.length_drop,List.length_singleton]
 omega
end Go.Fn
set_option linter.unusedSimpArgs false
set_option linter.unusedVariables false
namespace Go.Fn
open Go.R Go.Sort
structure JInv (n:Nat) (base:List Ev) (S:Int→Prop) (l:List Ev):Prop where
 j:jok l=true
 len:l.length≤n
 st:∀ x,x∈l→x.2.2.1≤(n:Int)
 gap:∀ x,x∈l→∀ s:Int,1≤s→s≤x.2.1→∃ y,y∈l∧y.1=x.1∧y.2.1=s
 sub:∀ x,x∈base→x∈l
 new:∀ x,x∈l→x∈base∨S x.1
theorem JInv.mono {n m:Nat} {base:List Ev} {S:Int→Prop} {l:List Ev} (h:JInv n base S l) (hm:n≤m):JInv m base S l:=
 ⟨h.j,by have:=h.len;omega,fun x hx=>by have:=h.st x hx;omega,h.gap,h.sub,h.new⟩
theorem JInv.add {n:Nat} {base:List Ev} {S:Int→Prop} {l:List Ev} (h:JInv n base S l) {node:Int} (hS:S node) (kind parcel a b:Int):JInv (n+1) base S (addEv l node kind parcel a b).1:=by
 unfold addEv
 rw [h.j]
 simp only [cond_true]
 cases hw:jok (withE l node kind parcel a b) with
 | false=>exact h.mono (Nat.le_succ _)
 | true =>
  have hs:=jok_srt h.j
  have hi:=aRun_inv node hs
  simp only [cond_true]
  refine ⟨hw,by rw [withE_len hs];have:=h.len;omega,fun x hx=>?_,fun x hx s h1 h2=>?_,fun x hx=>(withE_mem x).2 (.inr (h.sub x hx)),fun x hx=>?_⟩
  ·rcases (withE_mem x).1 hx with e | e
   ·rw [e]
    show (aRun l node).2.1≤_
    rcases hi.p2 with p | ⟨y,hy,p⟩
    ·rw [p];omega
    ·rw [p];have:=h.st y hy;omega
   ·have:=h.st x e;omega
  ·rcases (withE_mem x).1 hx with e | e
   ·subst e
    have h2:s≤(aRun l node).1:=h2
    by_cases e:s=(aRun l node).1
    ·exact ⟨_,hx,rfl,e.symm⟩
    ·rcases hi.s2 with p | ⟨y,hy,q,p⟩
     ·omega
     ·obtain ⟨z,hz,e1,e2⟩:=h.gap y hy s h1 (by omega)
      exact ⟨z,(withE_mem z).2 (.inr hz),by rw [e1,q];rfl,e2⟩
   ·obtain ⟨z,hz,e1,e2⟩:=h.gap x e s h1 h2
    exact ⟨z,(withE_mem z).2 (.inr hz),e1,e2⟩
  ·rcases (withE_mem x).1 hx with e | e
   ·rw [e];exact .inr hS
   ·exact h.new x e
end Go.Fn
set_option linter.unusedSimpArgs false
set_option linter.unusedVariables false
namespace Go.Fn
open Go.R
section
variable {a0 a1:Int} {g:List (List Int)} {s:List Stp}
noncomputable def lg (g:List (List Int)) (p q:Int):Int:=leg g p.toNat q.toNat
end
end Go.Fn
set_option linter.unusedVariables false
set_option linter.unusedSimpArgs false
namespace Go.Fn
open Go.R
noncomputable def goM {α:Type} (mk:Int→α→α×Int):List α→Int→List α×Int
 | [],k=>([],k)
 | x::xs,k=>((mk k x).1::(goM mk xs (mk k x).2).1,(goM mk xs (mk k x).2).2)
theorem goM_snoc {α:Type} (mk:Int→α→α×Int) (y:α):∀ (l:List α) (k:Int),goM mk (l++[y]) k=((goM mk l k).1++[(mk (goM mk l k).2 y).1],(mk (goM mk l k).2 y).2)
 | [],k=>rfl
 | x::xs,k=>by simp only [List.cons_append,goM,goM_snoc mk y xs]
theorem goM_len {α:Type} (mk:Int→α→α×Int):∀ (l:List α) (k:Int),(goM mk l k).1.length=l.length
 | [],k=>rfl
 | x::xs,k=>by simp only [goM,List.length_cons,goM_len mk xs]
noncomputable def costs {α:Type} (cost:α→Nat):List α→Nat
 | []=>0
 | x::xs=>cost x+costs cost xs
theorem costs_app {α:Type} (cost:α→Nat):∀ (l l':List α),costs cost (l++l')=costs cost l+costs cost l'
 | [],_=>by simp [costs]
 | x::xs,l'=>by simp only [List.cons_append,costs,costs_app cost xs];omega
theorem costs_const {α:Type} (c:Nat):∀ l:List α,costs (fun _=>c) l=c*l.length
 | []=>rfl
 | x::xs=>by simp only [costs,costs_const c xs,List.length_cons,Nat.mul_succ];omega
theorem costs_take {α:Type} (cost:α→Nat) (l:List α) (n:Nat):costs cost (l.take n)≤costs cost l:=by
 have:=costs_app cost (l.take n) (l.drop n)
 rw [List.take_append_drop] at this
 omega
theorem goM_bd {α:Type} {mk:Int→α→α×Int} {cost:α→Nat} (hm:∀ k x,k≤(mk k x).2∧(mk k x).2≤k+cost x):∀ (l:List α) (k:Int),k≤(goM mk l k).2∧(goM mk l k).2≤k+costs cost l
 | [],k=>by simp [goM,costs]
 | x::xs,k=>by
  have h1:=hm k x
  have h2:=goM_bd hm xs (mk k x).2
  simp only [goM,costs]
  omega
theorem mark_gen {α:Type} {body:List α×Int×Int×Unit→Option ((List α×Int×Int×Unit) ⊕ (List α×Int×Unit ⊕ Empty))} {mk:Int→α→α×Int} {cost:α→Nat} (z:α) (l:List α) (k0:Int) (hl:l.length≤1073741824) (h0:0≤k0)
  (hm:∀ k x,k≤(mk k x).2∧(mk k x).2≤k+cost x)
  (hs:∀ (L:List α) (k:Int) (n:Nat),n < L.length→L.length=l.length→L.getD n z=l.getD n z→0≤k→k≤k0+costs cost l→body (L,k,(n:Int),())=some (.inl (L.set n (mk k (l.getD n z)).1,(mk k (l.getD n z)).2,((n+1:Nat):Int),())))
  (he:∀ (L:List α) (k:Int),body (L,k,(L.length:Int),())=some (.inr (.inl (L,k,())))):iter body big (l,k0,0,())=some (.inl ((goM mk l k0).1,(goM mk l k0).2,())):=by
 have hst:∀ n,n≤l.length→((goM mk (l.take n) k0).1++l.drop n).length=l.length:=by
  intro n hn
  rw [List.length_append,goM_len,List.length_take,List.length_drop]
  omega
 have:=loop_end (body:=body) (fun n=>((goM mk (l.take n) k0).1++l.drop n,(goM mk (l.take n) k0).2,(n:Int),())) l.length (by omega) (.inl ((goM mk l k0).1,(goM mk l k0).2,())) (fun n hn=>?_) ?_
 ·simpa [goM] using this
 ·have hb:=goM_bd hm (l.take n) k0
  have hc:=costs_take cost l n
  have hgl:(goM mk (l.take n) k0).1.length=n:=by rw [goM_len,List.length_take];omega
  have hget:((goM mk (l.take n) k0).1++l.drop n).getD n z=l.getD n z:=by
   rw [List.getD_eq_getElem?_getD,List.getElem?_append_right (by omega),hgl,Nat.sub_self,List.getElem?_drop,Nat.add_zero,←List.getD_eq_getElem?_getD]
  rw [hs _ _ n (by rw [hst n (Nat.le_of_lt hn)];exact hn) (hst n (Nat.le_of_lt hn)) hget (by omega) (by omega)]
  have htake:l.take (n+1)=l.take n++[l.getD n z]:=by
   rw [List.take_add_one,List.getElem?_eq_getElem hn,List.getD_eq_getElem?_getD,List.getElem?_eq_getElem hn]
   rfl
  rw [htake,goM_snoc]
  congr 3
  rw [List.set_append,if_neg (by omega),hgl,Nat.sub_self,List.drop_eq_getElem_cons hn,List.set_cons_zero,List.append_assoc]
  rfl
 ·have hlen:((goM mk l k0).1).length=l.length:=goM_len _ _ _
  have:=he (goM mk l k0).1 (goM mk l k0).2
  rw [hlen] at this
  simp only [List.take_length,List.drop_length,List.append_nil]
  exact this
theorem held_gen {α:Type} {mk:Int→α→α×Int} {cost:α→Nat} {Y:Type} {body:Int×Int×Unit→Option ((Int×Int×Unit) ⊕ (Y ⊕ (Int×Unit ⊕ Empty)))} (z:α) (l:List α) (k0:Int) (hl:l.length≤1073741824) (h0:0≤k0)
  (hm:∀ k x,k≤(mk k x).2∧(mk k x).2≤k+cost x)
  (hs:∀ (k:Int) (n:Nat),n < l.length→0≤k→k≤k0+costs cost l→(goM mk l k0).1.getD n z=(mk k (l.getD n z)).1→body (k,(n:Int),())=some (.inl ((mk k (l.getD n z)).2,((n+1:Nat):Int),())))
  (he:∀ k:Int,body (k,(l.length:Int),())=some (.inr (.inr (.inl (k,()))))):iter body big (k0,0,())=some (.inr (.inl ((goM mk l k0).2,()))):=by
 have:=loop_end (body:=body) (fun n=>((goM mk (l.take n) k0).2,(n:Int),())) l.length (by omega) (.inr (.inl ((goM mk l k0).2,()))) (fun n hn=>?_) (by rw [List.take_length];exact he _)
 ·simpa [goM] using this
 ·have hb:=goM_bd hm (l.take n) k0
  have hc:=costs_take cost l n
  have htake:l.take (n+1)=l.take n++[l.getD n z]:=by
   rw [List.take_add_one,List.getElem?_eq_getElem hn,List.getD_eq_getElem?_getD,List.getElem?_eq_getElem hn]
   rfl
  have hget:(goM mk l k0).1.getD n z=(mk (goM mk (l.take n) k0).2 (l.getD n z)).1:=by
   have happ:∀ (a b:List α) (k:Int),(goM mk (a++b) k).1=(goM mk a k).1++(goM mk b (goM mk a k).2).1:=by
    intro a
    induction a with
    | nil=>intro b k;rfl
    | cons x a ih=>intro b k;simp only [List.cons_append,goM,ih]
   have hd:l.drop n=l.getD n z::l.drop (n+1):=by
    rw [List.drop_eq_getElem_cons hn,List.getD_eq_getElem?_getD,List.getElem?_eq_getElem hn]
    rfl
   have h1:=happ (l.take n) (l.drop n) k0
   rw [List.take_append_drop] at h1
   have hgl:(goM mk (l.take n) k0).1.length=n:=by rw [goM_len,List.length_take];omega
   rw [h1,List.getD_eq_getElem?_getD,List.getElem?_append_right (by omega),hgl,Nat.sub_self,hd]
   rfl
  rw [hs _ n hn (by omega) (by omega) hget,htake,goM_snoc]
end Go.Fn
set_option linter.unusedVariables false
namespace Go.Fn
open Go.R
noncomputable def slices_Clone___int_int_ (a0:(List (Int))):Option ((List (Int))×Unit):=
 (bif (rCmp .gtr (rLen a0) (0:Int)) then (bif (rSmall (List.append (α:=Int) ([]:List (Int)) a0)) then some ((List.append (α:=Int) ([]:List (Int)) a0),()) else none) else (both (some (([]:List (Int)),())) ((bif (rSmall (List.append (α:=Int) ([]:List (Int)) a0)) then some ((List.append (α:=Int) ([]:List (Int)) a0),()) else none))))
end Go.Fn
set_option linter.unusedVariables false
set_option linter.unusedSimpArgs false
namespace Go.Fn
open Go.R
theorem clone_eq (l:List Int) (h:l.length≤1073741824):slices_Clone___int_int_ l=some (l,()):=by
 unfold slices_Clone___int_int_
 have hs:rSmall (List.append (α:=Int) [] l)=true:=small_of h
 cases l with
 | nil=>simp only [hs,cond_true];rw [show rCmp .gtr (rLen ([]:List Int)) 0=false from rfl];exact both_self _
 | cons x l=>rw [show rCmp .gtr (rLen (x::l)) 0=true from by simp [rCmp,rLen]];simp only [hs,cond_true];rfl
section
variable (a0 a1:Int) (g:List (List Int)) (s:List Stp)
abbrev SB:Type:=Bool×Int×List Int×Unit
end
end Go.Fn
set_option linter.unusedVariables false
namespace Go.Fn
open Go.R
noncomputable def spec_l05Person (a0:Int):Option (Bool×Unit):=
 ((spec_l01In a0 (1:Int) (40:Int)).bind fun y0=>some (y0.1,()))
noncomputable def spec_l05Time (a0:Int):Option (Bool×Unit):=
 ((spec_l01In a0 (0:Int) (20000:Int)).bind fun y0=>some (y0.1,()))
noncomputable def spec_GrantOk (a0:Int) (a1:Int) (a2:Int) (a3:Int) (a4:Int) (a5:Int) (a6:Bool):Option (Bool×Unit):=
 ((spec_l05Person a0).bind fun y0=>(bif y0.1 then ((spec_l05Person a1).bind fun y1=>(bif y1.1 then (bif (rCmp .neq a0 a1) then ((spec_l01In a2 (0:Int) (999:Int)).bind fun y2=>(bif y2.1 then ((spec_l01In a3 (0:Int) (5:Int)).bind fun y3=>(bif y3.1 then ((spec_l05Time a4).bind fun y4=>(bif y4.1 then ((spec_l05Time a5).bind fun y5=>(bif y5.1 then some ((rCmp .lss a4 a5),()) else some (false,()))) else some (false,()))) else some (false,()))) else some (false,()))) else some (false,())) else some (false,()))) else some (false,())))
noncomputable def spec_GrantsOk_b0 (k:(List (Int×Int×Int×Int×Int×Int×Bool))×Unit) (x:Int×Unit):Option ((Int×Unit) ⊕ (Bool×Unit ⊕ (Unit ⊕ Empty))):=
 (bif (rCmp .lss x.1 (rLen k.1)) then (bif (rInR k.1 x.1) then ((spec_GrantOk (rGet zIIIIIIB k.1 x.1).1 (rGet zIIIIIIB k.1 x.1).2.1 (rGet zIIIIIIB k.1 x.1).2.2.1 (rGet zIIIIIIB k.1 x.1).2.2.2.1 (rGet zIIIIIIB k.1 x.1).2.2.2.2.1 (rGet zIIIIIIB k.1 x.1).2.2.2.2.2.1 (rGet zIIIIIIB k.1 x.1).2.2.2.2.2.2).bind fun y0=>(bif (Bool.not y0.1) then some (.inr (.inl (false,()))) else some (.inl ((rArith .add .i64 x.1 (1:Int)),())))) else none) else some (.inr (.inr (.inl (())))))
noncomputable def spec_GrantsOk_l0 (k:(List (Int×Int×Int×Int×Int×Int×Bool))×Unit) (x:Int×Unit):Option (Bool×Unit ⊕ (Unit ⊕ Empty)):=iter (spec_GrantsOk_b0 k) big x
noncomputable def spec_GrantsOk (a0:(List (Int×Int×Int×Int×Int×Int×Bool))):Option (Bool×Unit):=
 (bif (rCmp .gtr (rLen a0) (30:Int)) then some (false,()) else ((spec_GrantsOk_l0 (a0,()) ((0:Int),())).bind fun q0=>(Sum.elim (fun y1=>some (y1.1,())) (fun q2=>(Sum.elim (fun y3=>some (true,())) (fun q4=>(Empty.elim q4)) q2)) q0)))
noncomputable def spec_l02Boxes_b2 (k:Int×(List (Int))×(List (Int×Int×Int×Bool))×Int×Int×Unit) (x:Int×Int×Int×Bool×Int×Unit):Option ((Int×Int×Int×Bool×Int×Unit) ⊕ (Bool×Unit ⊕ (Int×Int×Int×Bool×Unit ⊕ Empty))):=
 (bif (rCmp .lss x.2.2.2.2.1 k.2.2.2.2.1) then (bif (rCmp .gtr x.2.2.1 (0:Int)) then (bif (rInR k.2.2.1 x.2.2.2.2.1) then (bif (rCmp .eql (rGet zIIIB k.2.2.1 x.2.2.2.2.1).2.2.1 x.2.2.1) then some (.inr (.inl (false,()))) else some (.inl (x.1,x.2.1,x.2.2.1,x.2.2.2.1,(rArith .add .i64 x.2.2.2.2.1 (1:Int)),()))) else none) else some (.inl (x.1,x.2.1,x.2.2.1,x.2.2.2.1,(rArith .add .i64 x.2.2.2.2.1 (1:Int)),()))) else some (.inr (.inr (.inl (x.1,x.2.1,x.2.2.1,x.2.2.2.1,())))))
noncomputable def spec_l02Boxes_l2 (k:Int×(List (Int))×(List (Int×Int×Int×Bool))×Int×Int×Unit) (x:Int×Int×Int×Bool×Int×Unit):Option (Bool×Unit ⊕ (Int×Int×Int×Bool×Unit ⊕ Empty)):=iter (spec_l02Boxes_b2 k) big x
noncomputable def spec_l02Boxes_b0 (k:Int×(List (Int))×(List (Int×Int×Int×Bool))×Unit) (x:Int×Int×Unit):Option ((Int×Int×Unit) ⊕ (Bool×Unit ⊕ (Int×Unit ⊕ Empty))):=
 (bif (rCmp .lss x.2.1 (rLen k.2.2.1)) then (bif (rInR k.2.2.1 x.2.1) then (bif (rCmp .neq (rGet zIIIB k.2.2.1 x.2.1).1 x.1) then some (.inr (.inl (false,()))) else ((spec_l01In (rGet zIIIB k.2.2.1 x.2.1).2.1 (1:Int) (24:Int)).bind fun y0=>(bif (Bool.not y0.1) then some (.inr (.inl (false,()))) else ((spec_l01In (rGet zIIIB k.2.2.1 x.2.1).2.2.1 (0:Int) (999:Int)).bind fun y1=>(bif (Bool.not y1.1) then some (.inr (.inl (false,()))) else ((spec_l02Boxes_l2 (k.1,k.2.1,k.2.2.1,x.1,x.2.1,()) ((rGet zIIIB k.2.2.1 x.2.1).1,(rGet zIIIB k.2.2.1 x.2.1).2.1,(rGet zIIIB k.2.2.1 x.2.1).2.2.1,(rGet zIIIB k.2.2.1 x.2.1).2.2.2,(0:Int),())).bind fun q2=>(Sum.elim (fun y3=>some (.inr (.inl (y3.1,())))) (fun q4=>(Sum.elim (fun y5=>(bif (rCmp .gtr (rArith .add .i64 x.1 y5.2.1) (24:Int)) then some (.inr (.inl (false,()))) else some (.inl ((rArith .add .i64 x.1 y5.2.1),(rArith .add .i64 x.2.1 (1:Int)),())))) (fun q6=>(Empty.elim q6)) q4)) q2))))))) else none) else some (.inr (.inr (.inl (x.1,())))))
noncomputable def spec_l02Boxes_l0 (k:Int×(List (Int))×(List (Int×Int×Int×Bool))×Unit) (x:Int×Int×Unit):Option (Bool×Unit ⊕ (Int×Unit ⊕ Empty)):=iter (spec_l02Boxes_b0 k) big x
noncomputable def spec_l02Boxes (a0:Int) (a1:(List (Int))) (a2:(List (Int×Int×Int×Bool))):Option (Bool×Unit):=
 ((spec_l02Boxes_l0 (a0,a1,a2,()) ((0:Int),(0:Int),())).bind fun q0=>(Sum.elim (fun y1=>some (y1.1,())) (fun q2=>(Sum.elim (fun y3=>(bif (rCmp .gtr (rLen a2) (0:Int)) then some ((rCmp .eql y3.1 a0),()) else some (false,()))) (fun q4=>(Empty.elim q4)) q2)) q0))
noncomputable def spec_ColumnOk_b2 (k:Int×(List (Int))×(List (Int×Int×Int×Bool))×Int×Unit) (x:Bool×Int×Unit):Option ((Bool×Int×Unit) ⊕ (Bool×Unit ⊕ Empty)):=
 (bif (rCmp .lss x.2.1 (rLen k.2.2.1)) then (bif x.1 then some (.inl (true,(rArith .add .i64 x.2.1 (1:Int)),())) else (bif (rInR k.2.2.1 x.2.1) then (bif (rInR k.2.1 k.2.2.2.1) then some (.inl ((rCmp .eql (rGet zIIIB k.2.2.1 x.2.1).1 (rGet zI k.2.1 k.2.2.2.1)),(rArith .add .i64 x.2.1 (1:Int)),())) else none) else none)) else some (.inr (.inl (x.1,()))))
noncomputable def spec_ColumnOk_l2 (k:Int×(List (Int))×(List (Int×Int×Int×Bool))×Int×Unit) (x:Bool×Int×Unit):Option (Bool×Unit ⊕ Empty):=iter (spec_ColumnOk_b2 k) big x
noncomputable def spec_ColumnOk_b0 (k:Int×(List (Int))×(List (Int×Int×Int×Bool))×Unit) (x:Int×Unit):Option ((Int×Unit) ⊕ (Bool×Unit ⊕ (Unit ⊕ Empty))):=
 (bif (rCmp .lss x.1 (rLen k.2.1)) then (bif (rInR k.2.1 x.1) then ((spec_l01In (rGet zI k.2.1 x.1) (1:Int) (rArith .sub .i64 k.1 (1:Int))).bind fun y0=>(bif (Bool.not y0.1) then some (.inr (.inl (false,()))) else (bif (rCmp .gtr x.1 (0:Int)) then (bif (rInR k.2.1 x.1) then (bif (rInR k.2.1 (rArith .sub .i64 x.1 (1:Int))) then (bif (rCmp .leq (rGet zI k.2.1 x.1) (rGet zI k.2.1 (rArith .sub .i64 x.1 (1:Int)))) then some (.inr (.inl (false,()))) else ((spec_ColumnOk_l2 (k.1,k.2.1,k.2.2.1,x.1,()) (false,(0:Int),())).bind fun q1=>(Sum.elim (fun y2=>(bif (Bool.not y2.1) then some (.inr (.inl (false,()))) else some (.inl ((rArith .add .i64 x.1 (1:Int)),())))) (fun q3=>(Empty.elim q3)) q1))) else none) else none) else ((spec_ColumnOk_l2 (k.1,k.2.1,k.2.2.1,x.1,()) (false,(0:Int),())).bind fun q1=>(Sum.elim (fun y2=>(bif (Bool.not y2.1) then some (.inr (.inl (false,()))) else some (.inl ((rArith .add .i64 x.1 (1:Int)),())))) (fun q3=>(Empty.elim q3)) q1))))) else none) else some (.inr (.inr (.inl (())))))
noncomputable def spec_ColumnOk_l0 (k:Int×(List (Int))×(List (Int×Int×Int×Bool))×Unit) (x:Int×Unit):Option (Bool×Unit ⊕ (Unit ⊕ Empty)):=iter (spec_ColumnOk_b0 k) big x
noncomputable def spec_ColumnOk (a0:Int) (a1:(List (Int))) (a2:(List (Int×Int×Int×Bool))):Option (Bool×Unit):=
 ((spec_l01In a0 (1:Int) (24:Int)).bind fun y0=>(bif (Bool.not y0.1) then some (false,()) else ((spec_l02Boxes a0 a1 a2).bind fun y1=>(bif (Bool.not y1.1) then some (false,()) else ((spec_ColumnOk_l0 (a0,a1,a2,()) ((0:Int),())).bind fun q2=>(Sum.elim (fun y3=>some (y3.1,())) (fun q4=>(Sum.elim (fun y5=>some (true,())) (fun q6=>(Empty.elim q6)) q4)) q2))))))
noncomputable def spec_l02Box_b0 (k:Int×Int×(List (Int))×(List (Int×Int×Int×Bool))×Unit) (x:Int×Unit):Option ((Int×Unit) ⊕ (Int×Unit ⊕ (Unit ⊕ Empty))):=
 (bif (rCmp .lss x.1 (rLen k.2.2.2.1)) then (bif (rInR k.2.2.2.1 x.1) then (bif (rCmp .eql (rGet zIIIB k.2.2.2.1 x.1).2.2.1 k.1) then (bif (rCmp .gtr k.1 (0:Int)) then some (.inr (.inl (x.1,()))) else some (.inl ((rArith .add .i64 x.1 (1:Int)),()))) else some (.inl ((rArith .add .i64 x.1 (1:Int)),()))) else none) else some (.inr (.inr (.inl (())))))
noncomputable def spec_l02Box_l0 (k:Int×Int×(List (Int))×(List (Int×Int×Int×Bool))×Unit) (x:Int×Unit):Option (Int×Unit ⊕ (Unit ⊕ Empty)):=iter (spec_l02Box_b0 k) big x
noncomputable def spec_l02Box (a0:Int) (a1:(List (Int))) (a2:(List (Int×Int×Int×Bool))) (a3:Int):Option (Int×Unit):=
 ((spec_l02Box_l0 (a3,a0,a1,a2,()) ((0:Int),())).bind fun q0=>(Sum.elim (fun y1=>some (y1.1,())) (fun q2=>(Sum.elim (fun y3=>some ((-1:Int),())) (fun q4=>(Empty.elim q4)) q2)) q0))
noncomputable def spec_BankOk_b4 (k:(List (Int×(List (Int))×List (Int×Int×Int×Bool)))×Int×Int×Unit) (x:Int×Unit):Option ((Int×Unit) ⊕ (Bool×Unit ⊕ (Unit ⊕ Empty))):=
 (bif (rInR k.1 k.2.1) then (bif (rCmp .lss x.1 (rLen (rGet zILIlLIIIBl k.1 k.2.1).2.2)) then (bif (rInR k.1 k.2.2.1) then (bif (rInR k.1 k.2.1) then (bif (rInR (rGet zILIlLIIIBl k.1 k.2.1).2.2 x.1) then ((spec_l02Box (rGet zILIlLIIIBl k.1 k.2.2.1).1 (rGet zILIlLIIIBl k.1 k.2.2.1).2.1 (rGet zILIlLIIIBl k.1 k.2.2.1).2.2 (rGet zIIIB (rGet zILIlLIIIBl k.1 k.2.1).2.2 x.1).2.2.1).bind fun y0=>(bif (rCmp .geq y0.1 (0:Int)) then some (.inr (.inl (false,()))) else some (.inl ((rArith .add .i64 x.1 (1:Int)),())))) else none) else none) else none) else some (.inr (.inr (.inl (()))))) else none)
noncomputable def spec_BankOk_l4 (k:(List (Int×(List (Int))×List (Int×Int×Int×Bool)))×Int×Int×Unit) (x:Int×Unit):Option (Bool×Unit ⊕ (Unit ⊕ Empty)):=iter (spec_BankOk_b4 k) big x
noncomputable def spec_BankOk_b2 (k:(List (Int×(List (Int))×List (Int×Int×Int×Bool)))×Int×Unit) (x:Int×Unit):Option ((Int×Unit) ⊕ (Bool×Unit ⊕ (Unit ⊕ Empty))):=
 (bif (rCmp .lss x.1 k.2.1) then ((spec_BankOk_l4 (k.1,k.2.1,x.1,()) ((0:Int),())).bind fun q0=>(Sum.elim (fun y1=>some (.inr (.inl (y1.1,())))) (fun q2=>(Sum.elim (fun y3=>some (.inl ((rArith .add .i64 x.1 (1:Int)),()))) (fun q4=>(Empty.elim q4)) q2)) q0)) else some (.inr (.inr (.inl (())))))
noncomputable def spec_BankOk_l2 (k:(List (Int×(List (Int))×List (Int×Int×Int×Bool)))×Int×Unit) (x:Int×Unit):Option (Bool×Unit ⊕ (Unit ⊕ Empty)):=iter (spec_BankOk_b2 k) big x
noncomputable def spec_BankOk_b0 (k:(List (Int×(List (Int))×List (Int×Int×Int×Bool)))×Unit) (x:Int×Unit):Option ((Int×Unit) ⊕ (Bool×Unit ⊕ (Unit ⊕ Empty))):=
 (bif (rCmp .lss x.1 (rLen k.1)) then (bif (rInR k.1 x.1) then ((spec_ColumnOk (rGet zILIlLIIIBl k.1 x.1).1 (rGet zILIlLIIIBl k.1 x.1).2.1 (rGet zILIlLIIIBl k.1 x.1).2.2).bind fun y0=>(bif (Bool.not y0.1) then some (.inr (.inl (false,()))) else ((spec_BankOk_l2 (k.1,x.1,()) ((0:Int),())).bind fun q1=>(Sum.elim (fun y2=>some (.inr (.inl (y2.1,())))) (fun q3=>(Sum.elim (fun y4=>some (.inl ((rArith .add .i64 x.1 (1:Int)),()))) (fun q5=>(Empty.elim q5)) q3)) q1)))) else none) else some (.inr (.inr (.inl (())))))
noncomputable def spec_BankOk_l0 (k:(List (Int×(List (Int))×List (Int×Int×Int×Bool)))×Unit) (x:Int×Unit):Option (Bool×Unit ⊕ (Unit ⊕ Empty)):=iter (spec_BankOk_b0 k) big x
noncomputable def spec_BankOk (a0:(List (Int×(List (Int))×List (Int×Int×Int×Bool)))):Option (Bool×Unit):=
 ((spec_l01In (rLen a0) (1:Int) (6:Int)).bind fun y0=>(bif (Bool.not y0.1) then some (false,()) else ((spec_BankOk_l0 (a0,()) ((0:Int),())).bind fun q1=>(Sum.elim (fun y2=>some (y2.1,())) (fun q3=>(Sum.elim (fun y4=>some (true,())) (fun q5=>(Empty.elim q5)) q3)) q1))))
noncomputable def spec_l04Before (a0:Int) (a1:Int) (a2:Bool) (a3:Bool) (a4:Bool):Option (Bool×Unit):=
 some ((rBeq a4 (rCmp .eql a0 (2:Int))),())
noncomputable def spec_DoorOk (a0:Int) (a1:Int) (a2:Bool) (a3:Bool) (a4:Bool):Option (Bool×Unit):=
 ((spec_l01In a0 (0:Int) (2:Int)).bind fun y0=>(bif (Bool.not y0.1) then some (false,()) else ((spec_l01In a1 (0:Int) (6:Int)).bind fun y1=>(bif (Bool.not y1.1) then some (false,()) else (bif a3 then (bif (Bool.not a2) then some (false,()) else (bif (rCmp .eql a0 (0:Int)) then (bif (rCmp .eql a1 (0:Int)) then some ((Bool.not a2),()) else some (false,())) else (bif (rCmp .eql a1 (1:Int)) then ((spec_l04Before a0 a1 a2 a3 a4).bind fun y2=>(bif y2.1 then some ((Bool.not a2),()) else some (false,()))) else (bif (rCmp .eql a1 (2:Int)) then ((spec_l04Before a0 a1 a2 a3 a4).bind fun y2=>(bif y2.1 then (bif a2 then some ((Bool.not a3),()) else some (false,())) else some (false,()))) else (bif (rCmp .eql a1 (3:Int)) then ((spec_l04Before a0 a1 a2 a3 a4).bind fun y2=>(bif y2.1 then some (a3,()) else some (false,()))) else (bif (rCmp .eql a1 (4:Int)) then ((spec_l04Before a0 a1 a2 a3 a4).bind fun y2=>(bif (Bool.not y2.1) then some (a3,()) else some (false,()))) else (bif (rCmp .eql a1 (5:Int)) then (bif a2 then some ((Bool.not a3),()) else some (false,())) else (bif (rCmp .eql a1 (6:Int)) then some ((Bool.not a2),()) else some (true,()))))))))) else (bif (rCmp .eql a0 (0:Int)) then (bif (rCmp .eql a1 (0:Int)) then some ((Bool.not a2),()) else some (false,())) else (bif (rCmp .eql a1 (1:Int)) then ((spec_l04Before a0 a1 a2 a3 a4).bind fun y2=>(bif y2.1 then some ((Bool.not a2),()) else some (false,()))) else (bif (rCmp .eql a1 (2:Int)) then ((spec_l04Before a0 a1 a2 a3 a4).bind fun y2=>(bif y2.1 then (bif a2 then some ((Bool.not a3),()) else some (false,())) else some (false,()))) else (bif (rCmp .eql a1 (3:Int)) then ((spec_l04Before a0 a1 a2 a3 a4).bind fun y2=>(bif y2.1 then some (a3,()) else some (false,()))) else (bif (rCmp .eql a1 (4:Int)) then ((spec_l04Before a0 a1 a2 a3 a4).bind fun y2=>(bif (Bool.not y2.1) then some (a3,()) else some (false,()))) else (bif (rCmp .eql a1 (5:Int)) then (bif a2 then some ((Bool.not a3),()) else some (false,())) else (bif (rCmp .eql a1 (6:Int)) then some ((Bool.not a2),()) else some (true,())))))))))))))
noncomputable def spec_l09SiteOk (a0:Int) (a1:Int) (a2:Int) (a3:Int) (a4:Int) (a5:Int) (a6:Int) (a7:Int) (a8:Int) (a9:Int) (a10:Int) (a11:(List ((List (Int×Int))×(List (Int×Int))×(List (Int×(List (Int))×List (Int×Int×Int×Bool)))×Int×Int×Bool×Bool×Bool×Int×Int×List (Int×Int×Int×Int×Int×Int×Int)))) (a12:(List (Int×Int×Int×Int×Int×Int×Int×Int×Int×Int×Int×Int×Int))) (a13:(List (Int×Int×Int×Int×Int×Int×Bool))) (a14:(List (Int×Int×Int×Int×Int×Int×Int))) (a15:Int):Option (Bool×Unit):=
 (bif (rInR a11 a15) then ((spec_WeekOk (rGet zLIIlLIIlLILIlLIIIBllIIBBBIILIIIIIIIl a11 a15).1 (rGet zLIIlLIIlLILIlLIIIBllIIBBBIILIIIIIIIl a11 a15).2.1).bind fun y0=>(bif (Bool.not y0.1) then some (false,()) else ((spec_BankOk (rGet zLIIlLIIlLILIlLIIIBllIIBBBIILIIIIIIIl a11 a15).2.2.1).bind fun y1=>(bif (Bool.not y1.1) then some (false,()) else ((spec_DoorOk (rGet zLIIlLIIlLILIlLIIIBllIIBBBIILIIIIIIIl a11 a15).2.2.2.1 (rGet zLIIlLIIlLILIlLIIIBllIIBBBIILIIIIIIIl a11 a15).2.2.2.2.1 (rGet zLIIlLIIlLILIlLIIIBllIIBBBIILIIIIIIIl a11 a15).2.2.2.2.2.1 (rGet zLIIlLIIlLILIlLIIIBllIIBBBIILIIIIIIIl a11 a15).2.2.2.2.2.2.1 (rGet zLIIlLIIlLILIlLIIIBllIIBBBIILIIIIIIIl a11 a15).2.2.2.2.2.2.2.1).bind fun y2=>(bif (Bool.not y2.1) then some (false,()) else ((spec_JournalOk (rGet zLIIlLIIlLILIlLIIIBllIIBBBIILIIIIIIIl a11 a15).2.2.2.2.2.2.2.2.2.2).bind fun y3=>(bif (Bool.not y3.1) then some (false,()) else (bif (rCmp .eql (rGet zLIIlLIIlLILIlLIIIBllIIBBBIILIIIIIIIl a11 a15).2.2.2.2.2.2.2.2.1 (0:Int)) then (lets (Bool.and (rCmp .eql (rGet zLIIlLIIlLILIlLIIIBllIIBBBIILIIIIIIIl a11 a15).2.2.2.1 (0:Int)) (Bool.and (rCmp .eql (rGet zLIIlLIIlLILIlLIIIBllIIBBBIILIIIIIIIl a11 a15).2.2.2.2.1 (0:Int)) (Bool.and (rBeq (rGet zLIIlLIIlLILIlLIIIBllIIBBBIILIIIIIIIl a11 a15).2.2.2.2.2.1 false) (Bool.and (rBeq (rGet zLIIlLIIlLILIlLIIIBllIIBBBIILIIIIIIIl a11 a15).2.2.2.2.2.2.1 false) (Bool.and (rBeq (rGet zLIIlLIIlLILIlLIIIBllIIBBBIILIIIIIIIl a11 a15).2.2.2.2.2.2.2.1 false) true))))) fun v4=>(bif v4 then some ((rCmp .eql (rGet zLIIlLIIlLILIlLIIIBllIIBBBIILIIIIIIIl a11 a15).2.2.2.2.2.2.2.2.2.1 (0:Int)),()) else some (false,()))) else ((spec_l01In (rGet zLIIlLIIlLILIlLIIIBllIIBBBIILIIIIIIIl a11 a15).2.2.2.2.2.2.2.2.1 (1:Int) (rLen a12)).bind fun y4=>(bif (Bool.not y4.1) then some (false,()) else (bif (rInR a12 (rArith .sub .i64 (rGet zLIIlLIIlLILIlLIIIBllIIBBBIILIIIIIIIl a11 a15).2.2.2.2.2.2.2.2.1 (1:Int))) then (bif (rCmp .neq (rGet zIIIIIIIIIIIII a12 (rArith .sub .i64 (rGet zLIIlLIIlLILIlLIIIBllIIBBBIILIIIIIIIl a11 a15).2.2.2.2.2.2.2.2.1 (1:Int))).2.2.1 a15) then some (false,()) else (bif (rInR a12 (rArith .sub .i64 (rGet zLIIlLIIlLILIlLIIIBllIIBBBIILIIIIIIIl a11 a15).2.2.2.2.2.2.2.2.1 (1:Int))) then (bif (rCmp .neq (rGet zIIIIIIIIIIIII a12 (rArith .sub .i64 (rGet zLIIlLIIlLILIlLIIIBllIIBBBIILIIIIIIIl a11 a15).2.2.2.2.2.2.2.2.1 (1:Int))).2.2.2.1 (2:Int)) then some (false,()) else (bif (rCmp .eql (rGet zLIIlLIIlLILIlLIIIBllIIBBBIILIIIIIIIl a11 a15).2.2.2.1 (1:Int)) then (bif (rCmp .eql (rGet zLIIlLIIlLILIlLIIIBllIIBBBIILIIIIIIIl a11 a15).2.2.2.2.2.2.2.2.2.1 (0:Int)) then some (true,()) else (bif (rCmp .eql (rGet zLIIlLIIlLILIlLIIIBllIIBBBIILIIIIIIIl a11 a15).2.2.2.1 (2:Int)) then ((spec_l01In (rGet zLIIlLIIlLILIlLIIIBllIIBBBIILIIIIIIIl a11 a15).2.2.2.2.2.2.2.2.2.1 (0:Int) (40:Int)).bind fun y5=>some (y5.1,())) else some (false,()))) else (bif (rCmp .eql (rGet zLIIlLIIlLILIlLIIIBllIIBBBIILIIIIIIIl a11 a15).2.2.2.1 (2:Int)) then ((spec_l01In (rGet zLIIlLIIlLILIlLIIIBllIIBBBIILIIIIIIIl a11 a15).2.2.2.2.2.2.2.2.2.1 (0:Int) (40:Int)).bind fun y5=>some (y5.1,())) else some (false,())))) else none)) else none)))))))))))) else none)
noncomputable def spec_l09Unplaced (a0:Int) (a1:Int) (a2:Int) (a3:Int) (a4:Int) (a5:Int) (a6:Int) (a7:Int) (a8:Int) (a9:Int) (a10:Int) (a11:(List ((List (Int×Int))×(List (Int×Int))×(List (Int×(List (Int))×List (Int×Int×Int×Bool)))×Int×Int×Bool×Bool×Bool×Int×Int×List (Int×Int×Int×Int×Int×Int×Int)))) (a12:(List (Int×Int×Int×Int×Int×Int×Int×Int×Int×Int×Int×Int×Int))) (a13:(List (Int×Int×Int×Int×Int×Int×Bool))) (a14:(List (Int×Int×Int×Int×Int×Int×Int))) (a15:Int):Option (Bool×Unit):=
 (bif (rInR a12 a15) then (bif (rCmp .eql (rGet zIIIIIIIIIIIII a12 a15).2.2.2.1 (0:Int)) then some (true,()) else (bif (rCmp .eql (rGet zIIIIIIIIIIIII a12 a15).2.2.2.1 (1:Int)) then some (true,()) else (bif (rCmp .eql (rGet zIIIIIIIIIIIII a12 a15).2.2.2.1 (2:Int)) then (bif (rInR a11 (rGet zIIIIIIIIIIIII a12 a15).2.2.1) then some ((rCmp .eql (rGet zLIIlLIIlLILIlLIIIBllIIBBBIILIIIIIIIl a11 (rGet zIIIIIIIIIIIII a12 a15).2.2.1).2.2.2.1 (1:Int)),()) else none) else some (false,())))) else none)
noncomputable def spec_LockOk (a0:Int) (a1:Int) (a2:Int) (a3:Int) (a4:Int):Option (Bool×Unit):=
 ((spec_l03Secret a0).bind fun y0=>(bif y0.1 then ((spec_l01In a1 (0:Int) (1000001:Int)).bind fun y1=>(bif y1.1 then ((spec_l01In a2 (0:Int) (2:Int)).bind fun y2=>(bif y2.1 then ((spec_l01In a3 (0:Int) (6:Int)).bind fun y3=>(bif y3.1 then ((spec_l01In a4 (0:Int) (20064:Int)).bind fun y4=>some (y4.1,())) else some (false,()))) else some (false,()))) else some (false,()))) else some (false,())))
noncomputable def spec_l09ParcelOk (a0:Int) (a1:Int) (a2:Int) (a3:Int) (a4:Int) (a5:Int) (a6:Int) (a7:Int) (a8:Int) (a9:Int) (a10:Int) (a11:(List ((List (Int×Int))×(List (Int×Int))×(List (Int×(List (Int))×List (Int×Int×Int×Bool)))×Int×Int×Bool×Bool×Bool×Int×Int×List (Int×Int×Int×Int×Int×Int×Int)))) (a12:(List (Int×Int×Int×Int×Int×Int×Int×Int×Int×Int×Int×Int×Int))) (a13:(List (Int×Int×Int×Int×Int×Int×Bool))) (a14:(List (Int×Int×Int×Int×Int×Int×Int))) (a15:Int):Option (Bool×Unit):=
 (bif (rInR a12 a15) then ((spec_l01In (rGet zIIIIIIIIIIIII a12 a15).1 (1:Int) (24:Int)).bind fun y0=>(bif (Bool.not y0.1) then some (false,()) else ((spec_l05Person (rGet zIIIIIIIIIIIII a12 a15).2.1).bind fun y1=>(bif (Bool.not y1.1) then some (false,()) else ((spec_l01In (rGet zIIIIIIIIIIIII a12 a15).2.2.1 (0:Int) (rArith .sub .i64 (rLen a11) (1:Int))).bind fun y2=>(bif (Bool.not y2.1) then some (false,()) else ((spec_l01In (rGet zIIIIIIIIIIIII a12 a15).2.2.2.1 (0:Int) (5:Int)).bind fun y3=>(bif (Bool.not y3.1) then some (false,()) else (bif (rCmp .eql (rGet zIIIIIIIIIIIII a12 a15).2.2.2.1 (2:Int)) then (bif (rInR a11 (rGet zIIIIIIIIIIIII a12 a15).2.2.1) then (bif (rCmp .neq (rGet zLIIlLIIlLILIlLIIIBllIIBBBIILIIIIIIIl a11 (rGet zIIIIIIIIIIIII a12 a15).2.2.1).2.2.2.2.2.2.2.2.1 (rArith .add .i64 a15 (1:Int))) then some (false,()) else ((spec_l09Unplaced a0 a1 a2 a3 a4 a5 a6 a7 a8 a9 a10 a11 a12 a13 a14 a15).bind fun y4=>(bif y4.1 then (bif (rCmp .eql (rGet zIIIIIIIIIIIII a12 a15).2.2.2.2.1 (0:Int)) then (bif (rCmp .eql (rGet zIIIIIIIIIIIII a12 a15).2.2.2.2.2.1 (0:Int)) then (bif (rCmp .eql (rGet zIIIIIIIIIIIII a12 a15).2.2.2.2.2.2.2.2.2.2.2.1 (0:Int)) then (bif (rCmp .eql (rGet zIIIIIIIIIIIII a12 a15).2.2.2.2.2.2.2.2.2.2.2.2 (0:Int)) then (lets (Bool.and (rCmp .eql (rGet zIIIIIIIIIIIII a12 a15).2.2.2.2.2.2.1 (0:Int)) (Bool.and (rCmp .eql (rGet zIIIIIIIIIIIII a12 a15).2.2.2.2.2.2.2.1 (0:Int)) (Bool.and (rCmp .eql (rGet zIIIIIIIIIIIII a12 a15).2.2.2.2.2.2.2.2.1 (0:Int)) (Bool.and (rCmp .eql (rGet zIIIIIIIIIIIII a12 a15).2.2.2.2.2.2.2.2.2.1 (0:Int)) (Bool.and (rCmp .eql (rGet zIIIIIIIIIIIII a12 a15).2.2.2.2.2.2.2.2.2.2.1 (0:Int)) true))))) fun v5=>some (v5,())) else some (false,())) else some (false,())) else some (false,())) else some (false,())) else ((spec_l01In (rGet zIIIIIIIIIIIII a12 a15).2.2.2.2.1 (0:Int) a10).bind fun y5=>(bif (Bool.not y5.1) then some (false,()) else ((spec_l01In (rGet zIIIIIIIIIIIII a12 a15).2.2.2.2.2.1 (0:Int) a7).bind fun y6=>(bif (Bool.not y6.1) then some (false,()) else ((spec_LockOk (rGet zIIIIIIIIIIIII a12 a15).2.2.2.2.2.2.1 (rGet zIIIIIIIIIIIII a12 a15).2.2.2.2.2.2.2.1 (rGet zIIIIIIIIIIIII a12 a15).2.2.2.2.2.2.2.2.1 (rGet zIIIIIIIIIIIII a12 a15).2.2.2.2.2.2.2.2.2.1 (rGet zIIIIIIIIIIIII a12 a15).2.2.2.2.2.2.2.2.2.2.1).bind fun y7=>(bif (Bool.not y7.1) then some (false,()) else ((spec_SecretOf a0 a1 a2 a3 a4 a5 a6 a7 a8 a9 a10 a11 a12 a13 a14 (rArith .add .i64 a15 (1:Int))).bind fun y8=>(bif (rCmp .neq (rGet zIIIIIIIIIIIII a12 a15).2.2.2.2.2.2.1 y8.1) then some (false,()) else (bif (rCmp .eql (rGet zIIIIIIIIIIIII a12 a15).2.2.2.1 (4:Int)) then ((spec_l05Person (rGet zIIIIIIIIIIIII a12 a15).2.2.2.2.2.2.2.2.2.2.2.1).bind fun y9=>(bif y9.1 then ((spec_l01In (rGet zIIIIIIIIIIIII a12 a15).2.2.2.2.2.2.2.2.2.2.2.2 (0:Int) (rArith .add .i64 a4 (rArith .mul .i64 a6 a7))).bind fun y10=>some (y10.1,())) else some (false,()))) else (bif (rCmp .eql (rGet zIIIIIIIIIIIII a12 a15).2.2.2.2.2.2.2.2.2.2.2.1 (0:Int)) then some ((rCmp .eql (rGet zIIIIIIIIIIIII a12 a15).2.2.2.2.2.2.2.2.2.2.2.2 (0:Int)),()) else some (false,())))))))))))))) else none) else ((spec_l09Unplaced a0 a1 a2 a3 a4 a5 a6 a7 a8 a9 a10 a11 a12 a13 a14 a15).bind fun y4=>(bif y4.1 then (bif (rCmp .eql (rGet zIIIIIIIIIIIII a12 a15).2.2.2.2.1 (0:Int)) then (bif (rCmp .eql (rGet zIIIIIIIIIIIII a12 a15).2.2.2.2.2.1 (0:Int)) then (bif (rCmp .eql (rGet zIIIIIIIIIIIII a12 a15).2.2.2.2.2.2.2.2.2.2.2.1 (0:Int)) then (bif (rCmp .eql (rGet zIIIIIIIIIIIII a12 a15).2.2.2.2.2.2.2.2.2.2.2.2 (0:Int)) then (lets (Bool.and (rCmp .eql (rGet zIIIIIIIIIIIII a12 a15).2.2.2.2.2.2.1 (0:Int)) (Bool.and (rCmp .eql (rGet zIIIIIIIIIIIII a12 a15).2.2.2.2.2.2.2.1 (0:Int)) (Bool.and (rCmp .eql (rGet zIIIIIIIIIIIII a12 a15).2.2.2.2.2.2.2.2.1 (0:Int)) (Bool.and (rCmp .eql (rGet zIIIIIIIIIIIII a12 a15).2.2.2.2.2.2.2.2.2.1 (0:Int)) (Bool.and (rCmp .eql (rGet zIIIIIIIIIIIII a12 a15).2.2.2.2.2.2.2.2.2.2.1 (0:Int)) true))))) fun v5=>some (v5,())) else some (false,())) else some (false,())) else some (false,())) else some (false,())) else ((spec_l01In (rGet zIIIIIIIIIIIII a12 a15).2.2.2.2.1 (0:Int) a10).bind fun y5=>(bif (Bool.not y5.1) then some (false,()) else ((spec_l01In (rGet zIIIIIIIIIIIII a12 a15).2.2.2.2.2.1 (0:Int) a7).bind fun y6=>(bif (Bool.not y6.1) then some (false,()) else ((spec_LockOk (rGet zIIIIIIIIIIIII a12 a15).2.2.2.2.2.2.1 (rGet zIIIIIIIIIIIII a12 a15).2.2.2.2.2.2.2.1 (rGet zIIIIIIIIIIIII a12 a15).2.2.2.2.2.2.2.2.1 (rGet zIIIIIIIIIIIII a12 a15).2.2.2.2.2.2.2.2.2.1 (rGet zIIIIIIIIIIIII a12 a15).2.2.2.2.2.2.2.2.2.2.1).bind fun y7=>(bif (Bool.not y7.1) then some (false,()) else ((spec_SecretOf a0 a1 a2 a3 a4 a5 a6 a7 a8 a9 a10 a11 a12 a13 a14 (rArith .add .i64 a15 (1:Int))).bind fun y8=>(bif (rCmp .neq (rGet zIIIIIIIIIIIII a12 a15).2.2.2.2.2.2.1 y8.1) then some (false,()) else (bif (rCmp .eql (rGet zIIIIIIIIIIIII a12 a15).2.2.2.1 (4:Int)) then ((spec_l05Person (rGet zIIIIIIIIIIIII a12 a15).2.2.2.2.2.2.2.2.2.2.2.1).bind fun y9=>(bif y9.1 then ((spec_l01In (rGet zIIIIIIIIIIIII a12 a15).2.2.2.2.2.2.2.2.2.2.2.2 (0:Int) (rArith .add .i64 a4 (rArith .mul .i64 a6 a7))).bind fun y10=>some (y10.1,())) else some (false,()))) else (bif (rCmp .eql (rGet zIIIIIIIIIIIII a12 a15).2.2.2.2.2.2.2.2.2.2.2.1 (0:Int)) then some ((rCmp .eql (rGet zIIIIIIIIIIIII a12 a15).2.2.2.2.2.2.2.2.2.2.2.2 (0:Int)),()) else some (false,())))))))))))))))))))))) else none)
noncomputable def spec_l09BoxesOk_b4 (k:Int×Int×Int×Int×Int×Int×Int×Int×Int×Int×Int×(List ((List (Int×Int))×(List (Int×Int))×(List (Int×(List (Int))×List (Int×Int×Int×Bool)))×Int×Int×Bool×Bool×Bool×Int×Int×List (Int×Int×Int×Int×Int×Int×Int)))×(List (Int×Int×Int×Int×Int×Int×Int×Int×Int×Int×Int×Int×Int))×(List (Int×Int×Int×Int×Int×Int×Bool))×(List (Int×Int×Int×Int×Int×Int×Int))×Int×Int×(List (Int×Int×Int×Bool))×Unit) (x:Int×Int×Unit):Option ((Int×Int×Unit) ⊕ (Bool×Unit ⊕ (Int×Unit ⊕ Empty))):=
 (bif (rCmp .lss x.2.1 (rLen k.2.2.2.2.2.2.2.2.2.2.2.2.2.2.2.2.2.1)) then (bif (rInR k.2.2.2.2.2.2.2.2.2.2.2.2.2.2.2.2.2.1 x.2.1) then (bif (rCmp .eql (rGet zIIIB k.2.2.2.2.2.2.2.2.2.2.2.2.2.2.2.2.2.1 x.2.1).2.2.1 (0:Int)) then some (.inl (x.1,(rArith .add .i64 x.2.1 (1:Int)),())) else (bif (rCmp .gtr (rGet zIIIB k.2.2.2.2.2.2.2.2.2.2.2.2.2.2.2.2.2.1 x.2.1).2.2.1 (rLen k.2.2.2.2.2.2.2.2.2.2.2.2.1)) then some (.inr (.inl (false,()))) else (bif (rInR k.2.2.2.2.2.2.2.2.2.2.2.2.1 (rArith .sub .i64 (rGet zIIIB k.2.2.2.2.2.2.2.2.2.2.2.2.2.2.2.2.2.1 x.2.1).2.2.1 (1:Int))) then (lets (rGet zIIIIIIIIIIIII k.2.2.2.2.2.2.2.2.2.2.2.2.1 (rArith .sub .i64 (rGet zIIIB k.2.2.2.2.2.2.2.2.2.2.2.2.2.2.2.2.2.1 x.2.1).2.2.1 (1:Int))).2.2.2.2.2.2.2.2.2.1 fun v0=>(lets (rGet zIIIIIIIIIIIII k.2.2.2.2.2.2.2.2.2.2.2.2.1 (rArith .sub .i64 (rGet zIIIB k.2.2.2.2.2.2.2.2.2.2.2.2.2.2.2.2.2.1 x.2.1).2.2.1 (1:Int))).2.2.2.2.2.2.2.2.2.2.1 fun v1=>(lets (rGet zIIIIIIIIIIIII k.2.2.2.2.2.2.2.2.2.2.2.2.1 (rArith .sub .i64 (rGet zIIIB k.2.2.2.2.2.2.2.2.2.2.2.2.2.2.2.2.2.1 x.2.1).2.2.1 (1:Int))).2.2.2.2.2.2.2.2.2.2.2.1 fun v2=>(lets (rGet zIIIIIIIIIIIII k.2.2.2.2.2.2.2.2.2.2.2.2.1 (rArith .sub .i64 (rGet zIIIB k.2.2.2.2.2.2.2.2.2.2.2.2.2.2.2.2.2.1 x.2.1).2.2.1 (1:Int))).2.2.2.2.2.2.2.2.2.2.2.2 fun v3=>(lets (rCmp .neq (rGet zIIIIIIIIIIIII k.2.2.2.2.2.2.2.2.2.2.2.2.1 (rArith .sub .i64 (rGet zIIIB k.2.2.2.2.2.2.2.2.2.2.2.2.2.2.2.2.2.1 x.2.1).2.2.1 (1:Int))).2.2.1 k.2.2.2.2.2.2.2.2.2.2.2.2.2.2.2.1) fun v4=>(bif v4 then some (.inr (.inl (false,()))) else (bif (rInR k.2.2.2.2.2.2.2.2.2.2.2.2.2.2.2.2.2.1 x.2.1) then (lets (rCmp .neq (rGet zIIIIIIIIIIIII k.2.2.2.2.2.2.2.2.2.2.2.2.1 (rArith .sub .i64 (rGet zIIIB k.2.2.2.2.2.2.2.2.2.2.2.2.2.2.2.2.2.1 x.2.1).2.2.1 (1:Int))).1 (rGet zIIIB k.2.2.2.2.2.2.2.2.2.2.2.2.2.2.2.2.2.1 x.2.1).2.1) fun v5=>(bif v5 then some (.inr (.inl (false,()))) else (lets (rCmp .neq (rGet zIIIIIIIIIIIII k.2.2.2.2.2.2.2.2.2.2.2.2.1 (rArith .sub .i64 (rGet zIIIB k.2.2.2.2.2.2.2.2.2.2.2.2.2.2.2.2.2.1 x.2.1).2.2.1 (1:Int))).2.2.2.1 (2:Int)) fun v6=>(bif v6 then (lets (rCmp .neq (rGet zIIIIIIIIIIIII k.2.2.2.2.2.2.2.2.2.2.2.2.1 (rArith .sub .i64 (rGet zIIIB k.2.2.2.2.2.2.2.2.2.2.2.2.2.2.2.2.2.1 x.2.1).2.2.1 (1:Int))).2.2.2.1 (3:Int)) fun v7=>(bif v7 then some (.inr (.inl (false,()))) else (lets (rCmp .eql (rGet zIIIIIIIIIIIII k.2.2.2.2.2.2.2.2.2.2.2.2.1 (rArith .sub .i64 (rGet zIIIB k.2.2.2.2.2.2.2.2.2.2.2.2.2.2.2.2.2.1 x.2.1).2.2.1 (1:Int))).2.2.2.1 (2:Int)) fun v8=>(bif v8 then (bif (rInR k.2.2.2.2.2.2.2.2.2.2.2.2.2.2.2.2.2.1 x.2.1) then (bif (rGet zIIIB k.2.2.2.2.2.2.2.2.2.2.2.2.2.2.2.2.2.1 x.2.1).2.2.2 then some (.inr (.inl (false,()))) else some (.inl ((rArith .add .i64 x.1 (1:Int)),(rArith .add .i64 x.2.1 (1:Int)),()))) else none) else some (.inl ((rArith .add .i64 x.1 (1:Int)),(rArith .add .i64 x.2.1 (1:Int)),())))))) else (lets (rCmp .eql (rGet zIIIIIIIIIIIII k.2.2.2.2.2.2.2.2.2.2.2.2.1 (rArith .sub .i64 (rGet zIIIB k.2.2.2.2.2.2.2.2.2.2.2.2.2.2.2.2.2.1 x.2.1).2.2.1 (1:Int))).2.2.2.1 (2:Int)) fun v7=>(bif v7 then (bif (rInR k.2.2.2.2.2.2.2.2.2.2.2.2.2.2.2.2.2.1 x.2.1) then (bif (rGet zIIIB k.2.2.2.2.2.2.2.2.2.2.2.2.2.2.2.2.2.1 x.2.1).2.2.2 then some (.inr (.inl (false,()))) else some (.inl ((rArith .add .i64 x.1 (1:Int)),(rArith .add .i64 x.2.1 (1:Int)),()))) else none) else some (.inl ((rArith .add .i64 x.1 (1:Int)),(rArith .add .i64 x.2.1 (1:Int)),())))))))) else none))))))) else none))) else none) else some (.inr (.inr (.inl (x.1,())))))
noncomputable def spec_l09BoxesOk_l4 (k:Int×Int×Int×Int×Int×Int×Int×Int×Int×Int×Int×(List ((List (Int×Int))×(List (Int×Int))×(List (Int×(List (Int))×List (Int×Int×Int×Bool)))×Int×Int×Bool×Bool×Bool×Int×Int×List (Int×Int×Int×Int×Int×Int×Int)))×(List (Int×Int×Int×Int×Int×Int×Int×Int×Int×Int×Int×Int×Int))×(List (Int×Int×Int×Int×Int×Int×Bool))×(List (Int×Int×Int×Int×Int×Int×Int))×Int×Int×(List (Int×Int×Int×Bool))×Unit) (x:Int×Int×Unit):Option (Bool×Unit ⊕ (Int×Unit ⊕ Empty)):=iter (spec_l09BoxesOk_b4 k) big x
noncomputable def spec_l09BoxesOk_b2 (k:Int×Int×Int×Int×Int×Int×Int×Int×Int×Int×Int×(List ((List (Int×Int))×(List (Int×Int))×(List (Int×(List (Int))×List (Int×Int×Int×Bool)))×Int×Int×Bool×Bool×Bool×Int×Int×List (Int×Int×Int×Int×Int×Int×Int)))×(List (Int×Int×Int×Int×Int×Int×Int×Int×Int×Int×Int×Int×Int))×(List (Int×Int×Int×Int×Int×Int×Bool))×(List (Int×Int×Int×Int×Int×Int×Int))×Int×Unit) (x:Int×Int×Unit):Option ((Int×Int×Unit) ⊕ (Bool×Unit ⊕ (Int×Unit ⊕ Empty))):=
 (bif (rInR k.2.2.2.2.2.2.2.2.2.2.2.1 k.2.2.2.2.2.2.2.2.2.2.2.2.2.2.2.1) then (bif (rCmp .lss x.2.1 (rLen (rGet zLIIlLIIlLILIlLIIIBllIIBBBIILIIIIIIIl k.2.2.2.2.2.2.2.2.2.2.2.1 k.2.2.2.2.2.2.2.2.2.2.2.2.2.2.2.1).2.2.1)) then (bif (rInR k.2.2.2.2.2.2.2.2.2.2.2.1 k.2.2.2.2.2.2.2.2.2.2.2.2.2.2.2.1) then (bif (rInR (rGet zLIIlLIIlLILIlLIIIBllIIBBBIILIIIIIIIl k.2.2.2.2.2.2.2.2.2.2.2.1 k.2.2.2.2.2.2.2.2.2.2.2.2.2.2.2.1).2.2.1 x.2.1) then ((spec_l09BoxesOk_l4 (k.1,k.2.1,k.2.2.1,k.2.2.2.1,k.2.2.2.2.1,k.2.2.2.2.2.1,k.2.2.2.2.2.2.1,k.2.2.2.2.2.2.2.1,k.2.2.2.2.2.2.2.2.1,k.2.2.2.2.2.2.2.2.2.1,k.2.2.2.2.2.2.2.2.2.2.1,k.2.2.2.2.2.2.2.2.2.2.2.1,k.2.2.2.2.2.2.2.2.2.2.2.2.1,k.2.2.2.2.2.2.2.2.2.2.2.2.2.1,k.2.2.2.2.2.2.2.2.2.2.2.2.2.2.1,k.2.2.2.2.2.2.2.2.2.2.2.2.2.2.2.1,x.2.1,(rGet zILIlLIIIBl (rGet zLIIlLIIlLILIlLIIIBllIIBBBIILIIIIIIIl k.2.2.2.2.2.2.2.2.2.2.2.1 k.2.2.2.2.2.2.2.2.2.2.2.2.2.2.2.1).2.2.1 x.2.1).2.2,()) (x.1,(0:Int),())).bind fun q0=>(Sum.elim (fun y1=>some (.inr (.inl (y1.1,())))) (fun q2=>(Sum.elim (fun y3=>some (.inl (y3.1,(rArith .add .i64 x.2.1 (1:Int)),()))) (fun q4=>(Empty.elim q4)) q2)) q0)) else none) else none) else some (.inr (.inr (.inl (x.1,()))))) else none)
noncomputable def spec_l09BoxesOk_l2 (k:Int×Int×Int×Int×Int×Int×Int×Int×Int×Int×Int×(List ((List (Int×Int))×(List (Int×Int))×(List (Int×(List (Int))×List (Int×Int×Int×Bool)))×Int×Int×Bool×Bool×Bool×Int×Int×List (Int×Int×Int×Int×Int×Int×Int)))×(List (Int×Int×Int×Int×Int×Int×Int×Int×Int×Int×Int×Int×Int))×(List (Int×Int×Int×Int×Int×Int×Bool))×(List (Int×Int×Int×Int×Int×Int×Int))×Int×Unit) (x:Int×Int×Unit):Option (Bool×Unit ⊕ (Int×Unit ⊕ Empty)):=iter (spec_l09BoxesOk_b2 k) big x
noncomputable def spec_l09BoxesOk_b0 (k:Int×Int×Int×Int×Int×Int×Int×Int×Int×Int×Int×(List ((List (Int×Int))×(List (Int×Int))×(List (Int×(List (Int))×List (Int×Int×Int×Bool)))×Int×Int×Bool×Bool×Bool×Int×Int×List (Int×Int×Int×Int×Int×Int×Int)))×(List (Int×Int×Int×Int×Int×Int×Int×Int×Int×Int×Int×Int×Int))×(List (Int×Int×Int×Int×Int×Int×Bool))×(List (Int×Int×Int×Int×Int×Int×Int))×Unit) (x:Int×Int×Unit):Option ((Int×Int×Unit) ⊕ (Bool×Unit ⊕ (Int×Unit ⊕ Empty))):=
 (bif (rCmp .lss x.2.1 (rLen k.2.2.2.2.2.2.2.2.2.2.2.1)) then ((spec_l09BoxesOk_l2 (k.1,k.2.1,k.2.2.1,k.2.2.2.1,k.2.2.2.2.1,k.2.2.2.2.2.1,k.2.2.2.2.2.2.1,k.2.2.2.2.2.2.2.1,k.2.2.2.2.2.2.2.2.1,k.2.2.2.2.2.2.2.2.2.1,k.2.2.2.2.2.2.2.2.2.2.1,k.2.2.2.2.2.2.2.2.2.2.2.1,k.2.2.2.2.2.2.2.2.2.2.2.2.1,k.2.2.2.2.2.2.2.2.2.2.2.2.2.1,k.2.2.2.2.2.2.2.2.2.2.2.2.2.2.1,x.2.1,()) (x.1,(0:Int),())).bind fun q0=>(Sum.elim (fun y1=>some (.inr (.inl (y1.1,())))) (fun q2=>(Sum.elim (fun y3=>some (.inl (y3.1,(rArith .add .i64 x.2.1 (1:Int)),()))) (fun q4=>(Empty.elim q4)) q2)) q0)) else some (.inr (.inr (.inl (x.1,())))))
noncomputable def spec_l09BoxesOk_l0 (k:Int×Int×Int×Int×Int×Int×Int×Int×Int×Int×Int×(List ((List (Int×Int))×(List (Int×Int))×(List (Int×(List (Int))×List (Int×Int×Int×Bool)))×Int×Int×Bool×Bool×Bool×Int×Int×List (Int×Int×Int×Int×Int×Int×Int)))×(List (Int×Int×Int×Int×Int×Int×Int×Int×Int×Int×Int×Int×Int))×(List (Int×Int×Int×Int×Int×Int×Bool))×(List (Int×Int×Int×Int×Int×Int×Int))×Unit) (x:Int×Int×Unit):Option (Bool×Unit ⊕ (Int×Unit ⊕ Empty)):=iter (spec_l09BoxesOk_b0 k) big x
noncomputable def spec_l09BoxesOk_b6 (k:Int×Int×Int×Int×Int×Int×Int×Int×Int×Int×Int×(List ((List (Int×Int))×(List (Int×Int))×(List (Int×(List (Int))×List (Int×Int×Int×Bool)))×Int×Int×Bool×Bool×Bool×Int×Int×List (Int×Int×Int×Int×Int×Int×Int)))×(List (Int×Int×Int×Int×Int×Int×Int×Int×Int×Int×Int×Int×Int))×(List (Int×Int×Int×Int×Int×Int×Bool))×(List (Int×Int×Int×Int×Int×Int×Int))×Unit) (x:Int×Int×Unit):Option ((Int×Int×Unit) ⊕ (Int×Unit ⊕ Empty)):=
 (bif (rCmp .lss x.2.1 (rLen k.2.2.2.2.2.2.2.2.2.2.2.2.1)) then (bif (rInR k.2.2.2.2.2.2.2.2.2.2.2.2.1 x.2.1) then (bif (rCmp .eql (rGet zIIIIIIIIIIIII k.2.2.2.2.2.2.2.2.2.2.2.2.1 x.2.1).2.2.2.1 (2:Int)) then some (.inl ((rArith .sub .i64 x.1 (1:Int)),(rArith .add .i64 x.2.1 (1:Int)),())) else (bif (rInR k.2.2.2.2.2.2.2.2.2.2.2.2.1 x.2.1) then (bif (rCmp .eql (rGet zIIIIIIIIIIIII k.2.2.2.2.2.2.2.2.2.2.2.2.1 x.2.1).2.2.2.1 (3:Int)) then some (.inl ((rArith .sub .i64 x.1 (1:Int)),(rArith .add .i64 x.2.1 (1:Int)),())) else some (.inl (x.1,(rArith .add .i64 x.2.1 (1:Int)),()))) else none)) else none) else some (.inr (.inl (x.1,()))))
noncomputable def spec_l09BoxesOk_l6 (k:Int×Int×Int×Int×Int×Int×Int×Int×Int×Int×Int×(List ((List (Int×Int))×(List (Int×Int))×(List (Int×(List (Int))×List (Int×Int×Int×Bool)))×Int×Int×Bool×Bool×Bool×Int×Int×List (Int×Int×Int×Int×Int×Int×Int)))×(List (Int×Int×Int×Int×Int×Int×Int×Int×Int×Int×Int×Int×Int))×(List (Int×Int×Int×Int×Int×Int×Bool))×(List (Int×Int×Int×Int×Int×Int×Int))×Unit) (x:Int×Int×Unit):Option (Int×Unit ⊕ Empty):=iter (spec_l09BoxesOk_b6 k) big x
noncomputable def spec_l09BoxesOk (a0:Int) (a1:Int) (a2:Int) (a3:Int) (a4:Int) (a5:Int) (a6:Int) (a7:Int) (a8:Int) (a9:Int) (a10:Int) (a11:(List ((List (Int×Int))×(List (Int×Int))×(List (Int×(List (Int))×List (Int×Int×Int×Bool)))×Int×Int×Bool×Bool×Bool×Int×Int×List (Int×Int×Int×Int×Int×Int×Int)))) (a12:(List (Int×Int×Int×Int×Int×Int×Int×Int×Int×Int×Int×Int×Int))) (a13:(List (Int×Int×Int×Int×Int×Int×Bool))) (a14:(List (Int×Int×Int×Int×Int×Int×Int))):Option (Bool×Unit):=
 ((spec_l09BoxesOk_l0 (a0,a1,a2,a3,a4,a5,a6,a7,a8,a9,a10,a11,a12,a13,a14,()) ((0:Int),(0:Int),())).bind fun q0=>(Sum.elim (fun y1=>some (y1.1,())) (fun q2=>(Sum.elim (fun y3=>((spec_l09BoxesOk_l6 (a0,a1,a2,a3,a4,a5,a6,a7,a8,a9,a10,a11,a12,a13,a14,()) (y3.1,(0:Int),())).bind fun q4=>(Sum.elim (fun y5=>some ((rCmp .eql y5.1 (0:Int)),())) (fun q6=>(Empty.elim q6)) q4))) (fun q4=>(Empty.elim q4)) q2)) q0))
noncomputable def spec_l09Load_b0 (k:Int×Int×Int×Int×Int×Int×Int×Int×Int×Int×Int×(List ((List (Int×Int))×(List (Int×Int))×(List (Int×(List (Int))×List (Int×Int×Int×Bool)))×Int×Int×Bool×Bool×Bool×Int×Int×List (Int×Int×Int×Int×Int×Int×Int)))×(List (Int×Int×Int×Int×Int×Int×Int×Int×Int×Int×Int×Int×Int))×(List (Int×Int×Int×Int×Int×Int×Bool))×(List (Int×Int×Int×Int×Int×Int×Int))×Unit) (x:Int×Int×Unit):Option ((Int×Int×Unit) ⊕ (Int×Unit ⊕ Empty)):=
 (bif (rCmp .lss x.2.1 (rLen k.2.2.2.2.2.2.2.2.2.2.2.2.1)) then (bif (rInR k.2.2.2.2.2.2.2.2.2.2.2.2.1 x.2.1) then (bif (rCmp .neq (rGet zIIIIIIIIIIIII k.2.2.2.2.2.2.2.2.2.2.2.2.1 x.2.1).2.2.2.1 (0:Int)) then ((spec_l09Unplaced k.1 k.2.1 k.2.2.1 k.2.2.2.1 k.2.2.2.2.1 k.2.2.2.2.2.1 k.2.2.2.2.2.2.1 k.2.2.2.2.2.2.2.1 k.2.2.2.2.2.2.2.2.1 k.2.2.2.2.2.2.2.2.2.1 k.2.2.2.2.2.2.2.2.2.2.1 k.2.2.2.2.2.2.2.2.2.2.2.1 k.2.2.2.2.2.2.2.2.2.2.2.2.1 k.2.2.2.2.2.2.2.2.2.2.2.2.2.1 k.2.2.2.2.2.2.2.2.2.2.2.2.2.2.1 x.2.1).bind fun y0=>(bif y0.1 then (bif (rInR k.2.2.2.2.2.2.2.2.2.2.2.2.1 x.2.1) then some (.inl ((rArith .add .i64 x.1 (rGet zIIIIIIIIIIIII k.2.2.2.2.2.2.2.2.2.2.2.2.1 x.2.1).1),(rArith .add .i64 x.2.1 (1:Int)),())) else none) else some (.inl (x.1,(rArith .add .i64 x.2.1 (1:Int)),())))) else some (.inl (x.1,(rArith .add .i64 x.2.1 (1:Int)),()))) else none) else some (.inr (.inl (x.1,()))))
noncomputable def spec_l09Load_l0 (k:Int×Int×Int×Int×Int×Int×Int×Int×Int×Int×Int×(List ((List (Int×Int))×(List (Int×Int))×(List (Int×(List (Int))×List (Int×Int×Int×Bool)))×Int×Int×Bool×Bool×Bool×Int×Int×List (Int×Int×Int×Int×Int×Int×Int)))×(List (Int×Int×Int×Int×Int×Int×Int×Int×Int×Int×Int×Int×Int))×(List (Int×Int×Int×Int×Int×Int×Bool))×(List (Int×Int×Int×Int×Int×Int×Int))×Unit) (x:Int×Int×Unit):Option (Int×Unit ⊕ Empty):=iter (spec_l09Load_b0 k) big x
noncomputable def spec_l09Load (a0:Int) (a1:Int) (a2:Int) (a3:Int) (a4:Int) (a5:Int) (a6:Int) (a7:Int) (a8:Int) (a9:Int) (a10:Int) (a11:(List ((List (Int×Int))×(List (Int×Int))×(List (Int×(List (Int))×List (Int×Int×Int×Bool)))×Int×Int×Bool×Bool×Bool×Int×Int×List (Int×Int×Int×Int×Int×Int×Int)))) (a12:(List (Int×Int×Int×Int×Int×Int×Int×Int×Int×Int×Int×Int×Int))) (a13:(List (Int×Int×Int×Int×Int×Int×Bool))) (a14:(List (Int×Int×Int×Int×Int×Int×Int))):Option (Int×Unit):=
 ((spec_l09Load_l0 (a0,a1,a2,a3,a4,a5,a6,a7,a8,a9,a10,a11,a12,a13,a14,()) ((0:Int),(0:Int),())).bind fun q0=>(Sum.elim (fun y1=>some (y1.1,())) (fun q2=>(Empty.elim q2)) q0))
noncomputable def spec_NetworkOk_b0 (k:Int×Int×Int×Int×Int×Int×Int×Int×Int×Int×Int×(List ((List (Int×Int))×(List (Int×Int))×(List (Int×(List (Int))×List (Int×Int×Int×Bool)))×Int×Int×Bool×Bool×Bool×Int×Int×List (Int×Int×Int×Int×Int×Int×Int)))×(List (Int×Int×Int×Int×Int×Int×Int×Int×Int×Int×Int×Int×Int))×(List (Int×Int×Int×Int×Int×Int×Bool))×(List (Int×Int×Int×Int×Int×Int×Int))×Unit) (x:Int×Unit):Option ((Int×Unit) ⊕ (Bool×Unit ⊕ (Unit ⊕ Empty))):=
 (bif (rCmp .lss x.1 (rLen k.2.2.2.2.2.2.2.2.2.2.2.1)) then ((spec_l09SiteOk k.1 k.2.1 k.2.2.1 k.2.2.2.1 k.2.2.2.2.1 k.2.2.2.2.2.1 k.2.2.2.2.2.2.1 k.2.2.2.2.2.2.2.1 k.2.2.2.2.2.2.2.2.1 k.2.2.2.2.2.2.2.2.2.1 k.2.2.2.2.2.2.2.2.2.2.1 k.2.2.2.2.2.2.2.2.2.2.2.1 k.2.2.2.2.2.2.2.2.2.2.2.2.1 k.2.2.2.2.2.2.2.2.2.2.2.2.2.1 k.2.2.2.2.2.2.2.2.2.2.2.2.2.2.1 x.1).bind fun y0=>(bif (Bool.not y0.1) then some (.inr (.inl (false,()))) else some (.inl ((rArith .add .i64 x.1 (1:Int)),())))) else some (.inr (.inr (.inl (())))))
noncomputable def spec_NetworkOk_l0 (k:Int×Int×Int×Int×Int×Int×Int×Int×Int×Int×Int×(List ((List (Int×Int))×(List (Int×Int))×(List (Int×(List (Int))×List (Int×Int×Int×Bool)))×Int×Int×Bool×Bool×Bool×Int×Int×List (Int×Int×Int×Int×Int×Int×Int)))×(List (Int×Int×Int×Int×Int×Int×Int×Int×Int×Int×Int×Int×Int))×(List (Int×Int×Int×Int×Int×Int×Bool))×(List (Int×Int×Int×Int×Int×Int×Int))×Unit) (x:Int×Unit):Option (Bool×Unit ⊕ (Unit ⊕ Empty)):=iter (spec_NetworkOk_b0 k) big x
noncomputable def spec_NetworkOk_b2 (k:Int×Int×Int×Int×Int×Int×Int×Int×Int×Int×Int×(List ((List (Int×Int))×(List (Int×Int))×(List (Int×(List (Int))×List (Int×Int×Int×Bool)))×Int×Int×Bool×Bool×Bool×Int×Int×List (Int×Int×Int×Int×Int×Int×Int)))×(List (Int×Int×Int×Int×Int×Int×Int×Int×Int×Int×Int×Int×Int))×(List (Int×Int×Int×Int×Int×Int×Bool))×(List (Int×Int×Int×Int×Int×Int×Int))×Unit) (x:Int×Unit):Option ((Int×Unit) ⊕ (Bool×Unit ⊕ (Unit ⊕ Empty))):=
 (bif (rCmp .lss x.1 (rLen k.2.2.2.2.2.2.2.2.2.2.2.2.1)) then ((spec_l09ParcelOk k.1 k.2.1 k.2.2.1 k.2.2.2.1 k.2.2.2.2.1 k.2.2.2.2.2.1 k.2.2.2.2.2.2.1 k.2.2.2.2.2.2.2.1 k.2.2.2.2.2.2.2.2.1 k.2.2.2.2.2.2.2.2.2.1 k.2.2.2.2.2.2.2.2.2.2.1 k.2.2.2.2.2.2.2.2.2.2.2.1 k.2.2.2.2.2.2.2.2.2.2.2.2.1 k.2.2.2.2.2.2.2.2.2.2.2.2.2.1 k.2.2.2.2.2.2.2.2.2.2.2.2.2.2.1 x.1).bind fun y0=>(bif (Bool.not y0.1) then some (.inr (.inl (false,()))) else some (.inl ((rArith .add .i64 x.1 (1:Int)),())))) else some (.inr (.inr (.inl (())))))
noncomputable def spec_NetworkOk_l2 (k:Int×Int×Int×Int×Int×Int×Int×Int×Int×Int×Int×(List ((List (Int×Int))×(List (Int×Int))×(List (Int×(List (Int))×List (Int×Int×Int×Bool)))×Int×Int×Bool×Bool×Bool×Int×Int×List (Int×Int×Int×Int×Int×Int×Int)))×(List (Int×Int×Int×Int×Int×Int×Int×Int×Int×Int×Int×Int×Int))×(List (Int×Int×Int×Int×Int×Int×Bool))×(List (Int×Int×Int×Int×Int×Int×Int))×Unit) (x:Int×Unit):Option (Bool×Unit ⊕ (Unit ⊕ Empty)):=iter (spec_NetworkOk_b2 k) big x
noncomputable def spec_NetworkOk (a0:Int) (a1:Int) (a2:Int) (a3:Int) (a4:Int) (a5:Int) (a6:Int) (a7:Int) (a8:Int) (a9:Int) (a10:Int) (a11:(List ((List (Int×Int))×(List (Int×Int))×(List (Int×(List (Int))×List (Int×Int×Int×Bool)))×Int×Int×Bool×Bool×Bool×Int×Int×List (Int×Int×Int×Int×Int×Int×Int)))) (a12:(List (Int×Int×Int×Int×Int×Int×Int×Int×Int×Int×Int×Int×Int))) (a13:(List (Int×Int×Int×Int×Int×Int×Bool))) (a14:(List (Int×Int×Int×Int×Int×Int×Int))):Option (Bool×Unit):=
 ((spec_TermsOk a0 a1 a2 a3 a4 a5 a6 a7).bind fun y0=>(bif (Bool.not y0.1) then some (false,()) else ((spec_l01In a8 (0:Int) (1000:Int)).bind fun y1=>(bif (Bool.not y1.1) then some (false,()) else ((spec_l03Secret a9).bind fun y2=>(bif (Bool.not y2.1) then some (false,()) else ((spec_l01In a10 (0:Int) (20000:Int)).bind fun y3=>(bif (Bool.not y3.1) then some (false,()) else ((spec_l01In (rLen a11) (1:Int) (3:Int)).bind fun y4=>(bif (Bool.not y4.1) then some (false,()) else (bif (rCmp .gtr (rLen a12) (12:Int)) then some (false,()) else ((spec_GrantsOk a13).bind fun y5=>(bif (Bool.not y5.1) then some (false,()) else ((spec_JournalOk a14).bind fun y6=>(bif (Bool.not y6.1) then some (false,()) else ((spec_NetworkOk_l0 (a0,a1,a2,a3,a4,a5,a6,a7,a8,a9,a10,a11,a12,a13,a14,()) ((0:Int),())).bind fun q7=>(Sum.elim (fun y8=>some (y8.1,())) (fun q9=>(Sum.elim (fun y10=>((spec_NetworkOk_l2 (a0,a1,a2,a3,a4,a5,a6,a7,a8,a9,a10,a11,a12,a13,a14,()) ((0:Int),())).bind fun q11=>(Sum.elim (fun y12=>some (y12.1,())) (fun q13=>(Sum.elim (fun y14=>((spec_l09BoxesOk a0 a1 a2 a3 a4 a5 a6 a7 a8 a9 a10 a11 a12 a13 a14).bind fun y15=>(bif y15.1 then ((spec_l09Load a0 a1 a2 a3 a4 a5 a6 a7 a8 a9 a10 a11 a12 a13 a14).bind fun y16=>some ((rCmp .leq y16.1 a8),())) else some (false,())))) (fun q15=>(Empty.elim q15)) q13)) q11))) (fun q11=>(Empty.elim q11)) q9)) q7)))))))))))))))))
noncomputable def impl_personOk (a0:Int):Option (Bool×Unit):=
 ((impl_within a0 (1:Int) (40:Int)).bind fun y0=>some (y0.1,()))
noncomputable def impl_GrantOk (a0:Int) (a1:Int) (a2:Int) (a3:Int) (a4:Int) (a5:Int) (a6:Bool):Option (Bool×Unit):=
 ((impl_personOk a0).bind fun y0=>(bif y0.1 then ((impl_personOk a1).bind fun y1=>(bif y1.1 then (bif (rCmp .neq a0 a1) then ((impl_within a2 (0:Int) (999:Int)).bind fun y2=>(bif y2.1 then ((impl_within a3 (0:Int) (5:Int)).bind fun y3=>(bif y3.1 then ((impl_timeOk a4).bind fun y4=>(bif y4.1 then ((impl_timeOk a5).bind fun y5=>(bif y5.1 then some ((rCmp .lss a4 a5),()) else some (false,()))) else some (false,()))) else some (false,()))) else some (false,()))) else some (false,())) else some (false,()))) else some (false,())))
noncomputable def impl_GrantsOk_1 (a0:Int) (a1:Int) (a2:Int) (a3:Int) (a4:Int) (a5:Int) (a6:Bool):Option (Bool×Unit):=
 ((impl_GrantOk a0 a1 a2 a3 a4 a5 a6).bind fun y0=>some ((Bool.not y0.1),()))
noncomputable def slices_IndexFunc___impl_Grant_impl_Grant___impl_GrantsOk_1_b0 (k:(List (Int×Int×Int×Int×Int×Int×Bool))×Int×Unit) (x:Int×Unit):Option ((Int×Unit) ⊕ (Int×Unit ⊕ (Unit ⊕ Empty))):=
 (bif (rCmp .lss x.1 k.2.1) then (bif (rInR k.1 x.1) then ((impl_GrantsOk_1 (rGet zIIIIIIB k.1 x.1).1 (rGet zIIIIIIB k.1 x.1).2.1 (rGet zIIIIIIB k.1 x.1).2.2.1 (rGet zIIIIIIB k.1 x.1).2.2.2.1 (rGet zIIIIIIB k.1 x.1).2.2.2.2.1 (rGet zIIIIIIB k.1 x.1).2.2.2.2.2.1 (rGet zIIIIIIB k.1 x.1).2.2.2.2.2.2).bind fun y0=>(bif y0.1 then some (.inr (.inl (x.1,()))) else some (.inl ((rArith .add .i64 x.1 (1:Int)),())))) else none) else some (.inr (.inr (.inl (())))))
noncomputable def slices_IndexFunc___impl_Grant_impl_Grant___impl_GrantsOk_1_l0 (k:(List (Int×Int×Int×Int×Int×Int×Bool))×Int×Unit) (x:Int×Unit):Option (Int×Unit ⊕ (Unit ⊕ Empty)):=iter (slices_IndexFunc___impl_Grant_impl_Grant___impl_GrantsOk_1_b0 k) big x
noncomputable def slices_IndexFunc___impl_Grant_impl_Grant___impl_GrantsOk_1 (a0:(List (Int×Int×Int×Int×Int×Int×Bool))):Option (Int×Unit):=
 ((slices_IndexFunc___impl_Grant_impl_Grant___impl_GrantsOk_1_l0 (a0,(rLen a0),()) ((0:Int),())).bind fun q0=>(Sum.elim (fun y1=>some (y1.1,())) (fun q2=>(Sum.elim (fun y3=>some ((-1:Int),())) (fun q4=>(Empty.elim q4)) q2)) q0))
noncomputable def slices_ContainsFunc___impl_Grant_impl_Grant___impl_GrantsOk_1 (a0:(List (Int×Int×Int×Int×Int×Int×Bool))):Option (Bool×Unit):=
 ((slices_IndexFunc___impl_Grant_impl_Grant___impl_GrantsOk_1 a0).bind fun y0=>some ((rCmp .geq y0.1 (0:Int)),()))
noncomputable def impl_GrantsOk (a0:(List (Int×Int×Int×Int×Int×Int×Bool))):Option (Bool×Unit):=
 (bif (rCmp .leq (rLen a0) (30:Int)) then ((slices_ContainsFunc___impl_Grant_impl_Grant___impl_GrantsOk_1 a0).bind fun y0=>some ((Bool.not y0.1),())) else some (false,()))
noncomputable def impl_ColumnOk_b0 (k:Int×(List (Int))×(List (Int×Int×Int×Bool))×(List (Int))×Int×Unit) (x:Int×Unit):Option ((Int×Unit) ⊕ (Bool×Unit ⊕ (Unit ⊕ Empty))):=
 (bif (rCmp .lss x.1 k.2.2.2.2.1) then (bif (rInR k.2.2.2.1 x.1) then ((impl_within (rGet zI k.2.2.2.1 x.1) (1:Int) (rArith .sub .i64 k.1 (1:Int))).bind fun y0=>(bif (Bool.not y0.1) then some (.inr (.inl (false,()))) else (bif (rCmp .gtr x.1 (0:Int)) then (bif (rInR k.2.1 (rArith .sub .i64 x.1 (1:Int))) then (bif (rCmp .leq (rGet zI k.2.2.2.1 x.1) (rGet zI k.2.1 (rArith .sub .i64 x.1 (1:Int)))) then some (.inr (.inl (false,()))) else some (.inl ((rArith .add .i64 x.1 (1:Int)),()))) else none) else some (.inl ((rArith .add .i64 x.1 (1:Int)),()))))) else none) else some (.inr (.inr (.inl (())))))
noncomputable def impl_ColumnOk_l0 (k:Int×(List (Int))×(List (Int×Int×Int×Bool))×(List (Int))×Int×Unit) (x:Int×Unit):Option (Bool×Unit ⊕ (Unit ⊕ Empty)):=iter (impl_ColumnOk_b0 k) big x
noncomputable def impl_ColumnOk_b2 (k:Int×(List (Int))×(List (Int×Int×Int×Bool))×(List (Int×Int×Int×Bool))×Int×Unit) (x:Int×(List (Int×Bool))×(List (Int×Bool))×Int×Unit):Option ((Int×(List (Int×Bool))×(List (Int×Bool))×Int×Unit) ⊕ (Bool×Unit ⊕ (Int×(List (Int×Bool))×Unit ⊕ Empty))):=
 (bif (rCmp .lss x.2.2.2.1 k.2.2.2.2.1) then (bif (rInR k.2.2.2.1 x.2.2.2.1) then (bif (rCmp .neq (rGet zIIIB k.2.2.2.1 x.2.2.2.1).1 x.1) then some (.inr (.inl (false,()))) else ((impl_within (rGet zIIIB k.2.2.2.1 x.2.2.2.1).2.1 (1:Int) (rArith .sub .i64 k.1 x.1)).bind fun y0=>(bif (Bool.not y0.1) then some (.inr (.inl (false,()))) else ((impl_within (rGet zIIIB k.2.2.2.1 x.2.2.2.1).2.2.1 (0:Int) (999:Int)).bind fun y1=>(bif (Bool.not y1.1) then some (.inr (.inl (false,()))) else (bif (rCmp .gtr (rGet zIIIB k.2.2.2.1 x.2.2.2.1).2.2.1 (0:Int)) then (bif (rMget x.2.2.1 (rGet zIIIB k.2.2.2.1 x.2.2.2.1).2.2.1) then some (.inr (.inl (false,()))) else some (.inl ((rArith .add .i64 x.1 (rGet zIIIB k.2.2.2.1 x.2.2.2.1).2.1),(rMput x.2.1 (rGet zIIIB k.2.2.2.1 x.2.2.2.1).1 true),(rMput x.2.2.1 (rGet zIIIB k.2.2.2.1 x.2.2.2.1).2.2.1 true),(rArith .add .i64 x.2.2.2.1 (1:Int)),()))) else some (.inl ((rArith .add .i64 x.1 (rGet zIIIB k.2.2.2.1 x.2.2.2.1).2.1),(rMput x.2.1 (rGet zIIIB k.2.2.2.1 x.2.2.2.1).1 true),(rMput x.2.2.1 (rGet zIIIB k.2.2.2.1 x.2.2.2.1).2.2.1 true),(rArith .add .i64 x.2.2.2.1 (1:Int)),())))))))) else none) else some (.inr (.inr (.inl (x.1,x.2.1,())))))
noncomputable def impl_ColumnOk_l2 (k:Int×(List (Int))×(List (Int×Int×Int×Bool))×(List (Int×Int×Int×Bool))×Int×Unit) (x:Int×(List (Int×Bool))×(List (Int×Bool))×Int×Unit):Option (Bool×Unit ⊕ (Int×(List (Int×Bool))×Unit ⊕ Empty)):=iter (impl_ColumnOk_b2 k) big x
noncomputable def impl_ColumnOk_b4 (k:Int×(List (Int))×(List (Int×Int×Int×Bool))×Int×(List (Int))×Int×Unit) (x:(List (Int×Bool))×Int×Unit):Option (((List (Int×Bool))×Int×Unit) ⊕ (Bool×Unit ⊕ (Unit ⊕ Empty))):=
 (bif (rCmp .lss x.2.1 k.2.2.2.2.2.1) then (bif (rInR k.2.2.2.2.1 x.2.1) then (bif (Bool.not (rMget x.1 (rGet zI k.2.2.2.2.1 x.2.1))) then some (.inr (.inl (false,()))) else some (.inl (x.1,(rArith .add .i64 x.2.1 (1:Int)),()))) else none) else some (.inr (.inr (.inl (())))))
noncomputable def impl_ColumnOk_l4 (k:Int×(List (Int))×(List (Int×Int×Int×Bool))×Int×(List (Int))×Int×Unit) (x:(List (Int×Bool))×Int×Unit):Option (Bool×Unit ⊕ (Unit ⊕ Empty)):=iter (impl_ColumnOk_b4 k) big x
noncomputable def impl_ColumnOk (a0:Int) (a1:(List (Int))) (a2:(List (Int×Int×Int×Bool))):Option (Bool×Unit):=
 ((impl_within a0 (1:Int) (24:Int)).bind fun y0=>(bif (Bool.not y0.1) then some (false,()) else (bif (rCmp .eql (rLen a2) (0:Int)) then some (false,()) else ((impl_ColumnOk_l0 (a0,a1,a2,a1,(rLen a1),()) ((0:Int),())).bind fun q1=>(Sum.elim (fun y2=>some (y2.1,())) (fun q3=>(Sum.elim (fun y4=>((impl_ColumnOk_l2 (a0,a1,a2,a2,(rLen a2),()) ((0:Int),([]:List (Int×Bool)),([]:List (Int×Bool)),(0:Int),())).bind fun q5=>(Sum.elim (fun y6=>some (y6.1,())) (fun q7=>(Sum.elim (fun y8=>((impl_ColumnOk_l4 (a0,a1,a2,y8.1,a1,(rLen a1),()) (y8.2.1,(0:Int),())).bind fun q9=>(Sum.elim (fun y10=>some (y10.1,())) (fun q11=>(Sum.elim (fun y12=>some ((rCmp .eql y8.1 a0),())) (fun q13=>(Empty.elim q13)) q11)) q9))) (fun q9=>(Empty.elim q9)) q7)) q5))) (fun q5=>(Empty.elim q5)) q3)) q1)))))
noncomputable def impl_BankOk_b2 (k:(List (Int×(List (Int))×List (Int×Int×Int×Bool)))×Int×Int×(List (Int×Int×Int×Bool))×Int×Unit) (x:(List (Int×Bool))×Int×Unit):Option (((List (Int×Bool))×Int×Unit) ⊕ (Bool×Unit ⊕ ((List (Int×Bool))×Unit ⊕ Empty))):=
 (bif (rCmp .lss x.2.1 k.2.2.2.2.1) then (bif (rInR k.2.2.2.1 x.2.1) then (bif (rCmp .gtr (rGet zIIIB k.2.2.2.1 x.2.1).2.2.1 (0:Int)) then (bif (rMget x.1 (rGet zIIIB k.2.2.2.1 x.2.1).2.2.1) then some (.inr (.inl (false,()))) else some (.inl ((rMput x.1 (rGet zIIIB k.2.2.2.1 x.2.1).2.2.1 true),(rArith .add .i64 x.2.1 (1:Int)),()))) else some (.inl ((rMput x.1 (rGet zIIIB k.2.2.2.1 x.2.1).2.2.1 true),(rArith .add .i64 x.2.1 (1:Int)),()))) else none) else some (.inr (.inr (.inl (x.1,())))))
noncomputable def impl_BankOk_l2 (k:(List (Int×(List (Int))×List (Int×Int×Int×Bool)))×Int×Int×(List (Int×Int×Int×Bool))×Int×Unit) (x:(List (Int×Bool))×Int×Unit):Option (Bool×Unit ⊕ ((List (Int×Bool))×Unit ⊕ Empty)):=iter (impl_BankOk_b2 k) big x
noncomputable def impl_BankOk_b0 (k:(List (Int×(List (Int))×List (Int×Int×Int×Bool)))×Int×Unit) (x:(List (Int×Bool))×Int×Unit):Option (((List (Int×Bool))×Int×Unit) ⊕ (Bool×Unit ⊕ (Unit ⊕ Empty))):=
 (bif (rCmp .lss x.2.1 k.2.1) then (bif (rInR k.1 x.2.1) then ((impl_ColumnOk (rGet zILIlLIIIBl k.1 x.2.1).1 (rGet zILIlLIIIBl k.1 x.2.1).2.1 (rGet zILIlLIIIBl k.1 x.2.1).2.2).bind fun y0=>(bif (Bool.not y0.1) then some (.inr (.inl (false,()))) else ((impl_BankOk_l2 (k.1,k.2.1,x.2.1,(rGet zILIlLIIIBl k.1 x.2.1).2.2,(rLen (rGet zILIlLIIIBl k.1 x.2.1).2.2),()) (x.1,(0:Int),())).bind fun q1=>(Sum.elim (fun y2=>some (.inr (.inl (y2.1,())))) (fun q3=>(Sum.elim (fun y4=>some (.inl (y4.1,(rArith .add .i64 x.2.1 (1:Int)),()))) (fun q5=>(Empty.elim q5)) q3)) q1)))) else none) else some (.inr (.inr (.inl (())))))
noncomputable def impl_BankOk_l0 (k:(List (Int×(List (Int))×List (Int×Int×Int×Bool)))×Int×Unit) (x:(List (Int×Bool))×Int×Unit):Option (Bool×Unit ⊕ (Unit ⊕ Empty)):=iter (impl_BankOk_b0 k) big x
noncomputable def impl_BankOk (a0:(List (Int×(List (Int))×List (Int×Int×Int×Bool)))):Option (Bool×Unit):=
 ((impl_within (rLen a0) (1:Int) (6:Int)).bind fun y0=>(bif (Bool.not y0.1) then some (false,()) else ((impl_BankOk_l0 (a0,(rLen a0),()) (([]:List (Int×Bool)),(0:Int),())).bind fun q1=>(Sum.elim (fun y2=>some (y2.1,())) (fun q3=>(Sum.elim (fun y4=>some (true,())) (fun q5=>(Empty.elim q5)) q3)) q1))))
noncomputable def impl_isDone (a0:Int) (a1:Int) (a2:Bool) (a3:Bool) (a4:Bool):Option (Bool×Unit):=
 some ((rBeq a4 (rCmp .eql a0 (1:Int))),())
noncomputable def impl_DoorOk (a0:Int) (a1:Int) (a2:Bool) (a3:Bool) (a4:Bool):Option (Bool×Unit):=
 ((impl_within a0 (0:Int) (2:Int)).bind fun y0=>(bif (Bool.not y0.1) then some (false,()) else ((impl_within a1 (0:Int) (6:Int)).bind fun y1=>(bif (Bool.not y1.1) then some (false,()) else (bif a3 then (bif (Bool.not a2) then some (false,()) else (bif (rCmp .eql a0 (0:Int)) then (bif (rCmp .eql a1 (0:Int)) then some ((Bool.not a2),()) else some (false,())) else (bif (rCmp .eql a1 (1:Int)) then ((impl_isDone a0 a1 a2 a3 a4).bind fun y2=>(bif (Bool.not y2.1) then some ((Bool.not a2),()) else some (false,()))) else (bif (rCmp .eql a1 (2:Int)) then ((impl_isDone a0 a1 a2 a3 a4).bind fun y2=>(bif (Bool.not y2.1) then (bif a2 then some ((Bool.not a3),()) else some (false,())) else some (false,()))) else (bif (rCmp .eql a1 (3:Int)) then ((impl_isDone a0 a1 a2 a3 a4).bind fun y2=>(bif (Bool.not y2.1) then some (a3,()) else some (false,()))) else (bif (rCmp .eql a1 (4:Int)) then ((impl_isDone a0 a1 a2 a3 a4).bind fun y2=>(bif y2.1 then some (a3,()) else some (false,()))) else (bif (rCmp .eql a1 (5:Int)) then (bif a2 then some ((Bool.not a3),()) else some (false,())) else (bif (rCmp .eql a1 (6:Int)) then some ((Bool.not a2),()) else some (true,()))))))))) else (bif (rCmp .eql a0 (0:Int)) then (bif (rCmp .eql a1 (0:Int)) then some ((Bool.not a2),()) else some (false,())) else (bif (rCmp .eql a1 (1:Int)) then ((impl_isDone a0 a1 a2 a3 a4).bind fun y2=>(bif (Bool.not y2.1) then some ((Bool.not a2),()) else some (false,()))) else (bif (rCmp .eql a1 (2:Int)) then ((impl_isDone a0 a1 a2 a3 a4).bind fun y2=>(bif (Bool.not y2.1) then (bif a2 then some ((Bool.not a3),()) else some (false,())) else some (false,()))) else (bif (rCmp .eql a1 (3:Int)) then ((impl_isDone a0 a1 a2 a3 a4).bind fun y2=>(bif (Bool.not y2.1) then some (a3,()) else some (false,()))) else (bif (rCmp .eql a1 (4:Int)) then ((impl_isDone a0 a1 a2 a3 a4).bind fun y2=>(bif y2.1 then some (a3,()) else some (false,()))) else (bif (rCmp .eql a1 (5:Int)) then (bif a2 then some ((Bool.not a3),()) else some (false,())) else (bif (rCmp .eql a1 (6:Int)) then some ((Bool.not a2),()) else some (true,())))))))))))))
noncomputable def impl_siteOk (a0:Int) (a1:Int) (a2:Int) (a3:Int) (a4:Int) (a5:Int) (a6:Int) (a7:Int) (a8:Int) (a9:Int) (a10:Int) (a11:(List ((List (Int×Int))×(List (Int×Int))×(List (Int×(List (Int))×List (Int×Int×Int×Bool)))×Int×Int×Bool×Bool×Bool×Int×Int×List (Int×Int×Int×Int×Int×Int×Int)))) (a12:(List (Int×Int×Int×Int×Int×Int×Int×Int×Int×Int×Int×Int×Int))) (a13:(List (Int×Int×Int×Int×Int×Int×Bool))) (a14:(List (Int×Int×Int×Int×Int×Int×Int))) (a15:Int):Option (Bool×Unit):=
 (bif (rInR a11 a15) then ((impl_WeekOk (rGet zLIIlLIIlLILIlLIIIBllIIBBBIILIIIIIIIl a11 a15).1 (rGet zLIIlLIIlLILIlLIIIBllIIBBBIILIIIIIIIl a11 a15).2.1).bind fun y0=>(bif (Bool.not y0.1) then some (false,()) else ((impl_BankOk (rGet zLIIlLIIlLILIlLIIIBllIIBBBIILIIIIIIIl a11 a15).2.2.1).bind fun y1=>(bif (Bool.not y1.1) then some (false,()) else ((impl_DoorOk (rGet zLIIlLIIlLILIlLIIIBllIIBBBIILIIIIIIIl a11 a15).2.2.2.1 (rGet zLIIlLIIlLILIlLIIIBllIIBBBIILIIIIIIIl a11 a15).2.2.2.2.1 (rGet zLIIlLIIlLILIlLIIIBllIIBBBIILIIIIIIIl a11 a15).2.2.2.2.2.1 (rGet zLIIlLIIlLILIlLIIIBllIIBBBIILIIIIIIIl a11 a15).2.2.2.2.2.2.1 (rGet zLIIlLIIlLILIlLIIIBllIIBBBIILIIIIIIIl a11 a15).2.2.2.2.2.2.2.1).bind fun y2=>(bif (Bool.not y2.1) then some (false,()) else ((impl_JournalOk (rGet zLIIlLIIlLILIlLIIIBllIIBBBIILIIIIIIIl a11 a15).2.2.2.2.2.2.2.2.2.2).bind fun y3=>(bif (Bool.not y3.1) then some (false,()) else (bif (rCmp .eql (rGet zLIIlLIIlLILIlLIIIBllIIBBBIILIIIIIIIl a11 a15).2.2.2.2.2.2.2.2.1 (0:Int)) then (lets (Bool.and (rCmp .eql (rGet zLIIlLIIlLILIlLIIIBllIIBBBIILIIIIIIIl a11 a15).2.2.2.1 (0:Int)) (Bool.and (rCmp .eql (rGet zLIIlLIIlLILIlLIIIBllIIBBBIILIIIIIIIl a11 a15).2.2.2.2.1 (0:Int)) (Bool.and (rBeq (rGet zLIIlLIIlLILIlLIIIBllIIBBBIILIIIIIIIl a11 a15).2.2.2.2.2.1 false) (Bool.and (rBeq (rGet zLIIlLIIlLILIlLIIIBllIIBBBIILIIIIIIIl a11 a15).2.2.2.2.2.2.1 false) (Bool.and (rBeq (rGet zLIIlLIIlLILIlLIIIBllIIBBBIILIIIIIIIl a11 a15).2.2.2.2.2.2.2.1 false) true))))) fun v4=>(bif v4 then some ((rCmp .eql (rGet zLIIlLIIlLILIlLIIIBllIIBBBIILIIIIIIIl a11 a15).2.2.2.2.2.2.2.2.2.1 (0:Int)),()) else some (false,()))) else ((impl_within (rGet zLIIlLIIlLILIlLIIIBllIIBBBIILIIIIIIIl a11 a15).2.2.2.2.2.2.2.2.1 (1:Int) (rLen a12)).bind fun y4=>(bif (Bool.not y4.1) then some (false,()) else (bif (rInR a12 (rArith .sub .i64 (rGet zLIIlLIIlLILIlLIIIBllIIBBBIILIIIIIIIl a11 a15).2.2.2.2.2.2.2.2.1 (1:Int))) then (bif (rCmp .neq (rGet zIIIIIIIIIIIII a12 (rArith .sub .i64 (rGet zLIIlLIIlLILIlLIIIBllIIBBBIILIIIIIIIl a11 a15).2.2.2.2.2.2.2.2.1 (1:Int))).2.2.1 a15) then some (false,()) else (bif (rCmp .neq (rGet zIIIIIIIIIIIII a12 (rArith .sub .i64 (rGet zLIIlLIIlLILIlLIIIBllIIBBBIILIIIIIIIl a11 a15).2.2.2.2.2.2.2.2.1 (1:Int))).2.2.2.1 (2:Int)) then some (false,()) else (bif (rCmp .eql (rGet zLIIlLIIlLILIlLIIIBllIIBBBIILIIIIIIIl a11 a15).2.2.2.1 (0:Int)) then some (false,()) else (bif (rCmp .eql (rGet zLIIlLIIlLILIlLIIIBllIIBBBIILIIIIIIIl a11 a15).2.2.2.2.2.2.2.2.2.1 (0:Int)) then some (true,()) else (bif (rCmp .eql (rGet zLIIlLIIlLILIlLIIIBllIIBBBIILIIIIIIIl a11 a15).2.2.2.1 (2:Int)) then ((impl_personOk (rGet zLIIlLIIlLILIlLIIIBllIIBBBIILIIIIIIIl a11 a15).2.2.2.2.2.2.2.2.2.1).bind fun y5=>some (y5.1,())) else some (false,())))))) else none)))))))))))) else none)
noncomputable def impl_isUnplaced (a0:Int) (a1:Int) (a2:Int) (a3:Int) (a4:Int) (a5:Int) (a6:Int) (a7:Int) (a8:Int) (a9:Int) (a10:Int) (a11:(List ((List (Int×Int))×(List (Int×Int))×(List (Int×(List (Int))×List (Int×Int×Int×Bool)))×Int×Int×Bool×Bool×Bool×Int×Int×List (Int×Int×Int×Int×Int×Int×Int)))) (a12:(List (Int×Int×Int×Int×Int×Int×Int×Int×Int×Int×Int×Int×Int))) (a13:(List (Int×Int×Int×Int×Int×Int×Bool))) (a14:(List (Int×Int×Int×Int×Int×Int×Int))) (a15:Int) (a16:Int) (a17:Int) (a18:Int) (a19:Int) (a20:Int) (a21:Int) (a22:Int) (a23:Int) (a24:Int) (a25:Int) (a26:Int) (a27:Int):Option (Bool×Unit):=
 (bif (rCmp .eql a18 (0:Int)) then some (true,()) else (bif (rCmp .eql a18 (1:Int)) then some (true,()) else (bif (rCmp .eql a18 (2:Int)) then (bif (rInR a11 a17) then some ((rCmp .eql (rGet zLIIlLIIlLILIlLIIIBllIIBBBIILIIIIIIIl a11 a17).2.2.2.1 (1:Int)),()) else none) else some (false,()))))
noncomputable def impl_LockOk (a0:Int) (a1:Int) (a2:Int) (a3:Int) (a4:Int):Option (Bool×Unit):=
 ((impl_secretOk a0).bind fun y0=>(bif y0.1 then ((impl_within a1 (0:Int) (1000001:Int)).bind fun y1=>(bif y1.1 then ((impl_within a2 (0:Int) (2:Int)).bind fun y2=>(bif y2.1 then ((impl_within a3 (0:Int) (6:Int)).bind fun y3=>(bif y3.1 then ((impl_within a4 (0:Int) (20064:Int)).bind fun y4=>some (y4.1,())) else some (false,()))) else some (false,()))) else some (false,()))) else some (false,())))
noncomputable def impl_parcelOk (a0:Int) (a1:Int) (a2:Int) (a3:Int) (a4:Int) (a5:Int) (a6:Int) (a7:Int) (a8:Int) (a9:Int) (a10:Int) (a11:(List ((List (Int×Int))×(List (Int×Int))×(List (Int×(List (Int))×List (Int×Int×Int×Bool)))×Int×Int×Bool×Bool×Bool×Int×Int×List (Int×Int×Int×Int×Int×Int×Int)))) (a12:(List (Int×Int×Int×Int×Int×Int×Int×Int×Int×Int×Int×Int×Int))) (a13:(List (Int×Int×Int×Int×Int×Int×Bool))) (a14:(List (Int×Int×Int×Int×Int×Int×Int))) (a15:Int):Option (Bool×Unit):=
 (bif (rInR a12 a15) then ((impl_within (rGet zIIIIIIIIIIIII a12 a15).1 (1:Int) (24:Int)).bind fun y0=>(bif (Bool.not y0.1) then some (false,()) else ((impl_personOk (rGet zIIIIIIIIIIIII a12 a15).2.1).bind fun y1=>(bif (Bool.not y1.1) then some (false,()) else ((impl_within (rGet zIIIIIIIIIIIII a12 a15).2.2.1 (0:Int) (rArith .sub .i64 (rLen a11) (1:Int))).bind fun y2=>(bif (Bool.not y2.1) then some (false,()) else ((impl_within (rGet zIIIIIIIIIIIII a12 a15).2.2.2.1 (0:Int) (5:Int)).bind fun y3=>(bif (Bool.not y3.1) then some (false,()) else (bif (rCmp .eql (rGet zIIIIIIIIIIIII a12 a15).2.2.2.1 (2:Int)) then (bif (rInR a11 (rGet zIIIIIIIIIIIII a12 a15).2.2.1) then (bif (rCmp .neq (rGet zLIIlLIIlLILIlLIIIBllIIBBBIILIIIIIIIl a11 (rGet zIIIIIIIIIIIII a12 a15).2.2.1).2.2.2.2.2.2.2.2.1 (rArith .add .i64 a15 (1:Int))) then some (false,()) else ((impl_isUnplaced a0 a1 a2 a3 a4 a5 a6 a7 a8 a9 a10 a11 a12 a13 a14 (rGet zIIIIIIIIIIIII a12 a15).1 (rGet zIIIIIIIIIIIII a12 a15).2.1 (rGet zIIIIIIIIIIIII a12 a15).2.2.1 (rGet zIIIIIIIIIIIII a12 a15).2.2.2.1 (rGet zIIIIIIIIIIIII a12 a15).2.2.2.2.1 (rGet zIIIIIIIIIIIII a12 a15).2.2.2.2.2.1 (rGet zIIIIIIIIIIIII a12 a15).2.2.2.2.2.2.1 (rGet zIIIIIIIIIIIII a12 a15).2.2.2.2.2.2.2.1 (rGet zIIIIIIIIIIIII a12 a15).2.2.2.2.2.2.2.2.1 (rGet zIIIIIIIIIIIII a12 a15).2.2.2.2.2.2.2.2.2.1 (rGet zIIIIIIIIIIIII a12 a15).2.2.2.2.2.2.2.2.2.2.1 (rGet zIIIIIIIIIIIII a12 a15).2.2.2.2.2.2.2.2.2.2.2.1 (rGet zIIIIIIIIIIIII a12 a15).2.2.2.2.2.2.2.2.2.2.2.2).bind fun y4=>(bif y4.1 then (bif (rCmp .eql (rGet zIIIIIIIIIIIII a12 a15).2.2.2.2.1 (0:Int)) then (bif (rCmp .eql (rGet zIIIIIIIIIIIII a12 a15).2.2.2.2.2.1 (0:Int)) then (bif (rCmp .eql (rGet zIIIIIIIIIIIII a12 a15).2.2.2.2.2.2.2.2.2.2.2.1 (0:Int)) then (bif (rCmp .eql (rGet zIIIIIIIIIIIII a12 a15).2.2.2.2.2.2.2.2.2.2.2.2 (0:Int)) then (lets (Bool.and (rCmp .eql (rGet zIIIIIIIIIIIII a12 a15).2.2.2.2.2.2.1 (0:Int)) (Bool.and (rCmp .eql (rGet zIIIIIIIIIIIII a12 a15).2.2.2.2.2.2.2.1 (0:Int)) (Bool.and (rCmp .eql (rGet zIIIIIIIIIIIII a12 a15).2.2.2.2.2.2.2.2.1 (0:Int)) (Bool.and (rCmp .eql (rGet zIIIIIIIIIIIII a12 a15).2.2.2.2.2.2.2.2.2.1 (0:Int)) (Bool.and (rCmp .eql (rGet zIIIIIIIIIIIII a12 a15).2.2.2.2.2.2.2.2.2.2.1 (0:Int)) true))))) fun v5=>some (v5,())) else some (false,())) else some (false,())) else some (false,())) else some (false,())) else ((impl_within (rGet zIIIIIIIIIIIII a12 a15).2.2.2.2.1 (0:Int) a10).bind fun y5=>(bif (Bool.not y5.1) then some (false,()) else ((impl_within (rGet zIIIIIIIIIIIII a12 a15).2.2.2.2.2.1 (0:Int) a7).bind fun y6=>(bif (Bool.not y6.1) then some (false,()) else ((impl_LockOk (rGet zIIIIIIIIIIIII a12 a15).2.2.2.2.2.2.1 (rGet zIIIIIIIIIIIII a12 a15).2.2.2.2.2.2.2.1 (rGet zIIIIIIIIIIIII a12 a15).2.2.2.2.2.2.2.2.1 (rGet zIIIIIIIIIIIII a12 a15).2.2.2.2.2.2.2.2.2.1 (rGet zIIIIIIIIIIIII a12 a15).2.2.2.2.2.2.2.2.2.2.1).bind fun y7=>(bif (Bool.not y7.1) then some (false,()) else ((impl_SecretOf a0 a1 a2 a3 a4 a5 a6 a7 a8 a9 a10 a11 a12 a13 a14 (rArith .add .i64 a15 (1:Int))).bind fun y8=>(bif (rCmp .neq (rGet zIIIIIIIIIIIII a12 a15).2.2.2.2.2.2.1 y8.1) then some (false,()) else (bif (rCmp .eql (rGet zIIIIIIIIIIIII a12 a15).2.2.2.1 (4:Int)) then ((impl_personOk (rGet zIIIIIIIIIIIII a12 a15).2.2.2.2.2.2.2.2.2.2.2.1).bind fun y9=>(bif y9.1 then ((impl_within (rGet zIIIIIIIIIIIII a12 a15).2.2.2.2.2.2.2.2.2.2.2.2 (0:Int) (rArith .add .i64 a4 (rArith .mul .i64 a6 a7))).bind fun y10=>some (y10.1,())) else some (false,()))) else (bif (rCmp .eql (rGet zIIIIIIIIIIIII a12 a15).2.2.2.2.2.2.2.2.2.2.2.1 (0:Int)) then some ((rCmp .eql (rGet zIIIIIIIIIIIII a12 a15).2.2.2.2.2.2.2.2.2.2.2.2 (0:Int)),()) else some (false,())))))))))))))) else none) else ((impl_isUnplaced a0 a1 a2 a3 a4 a5 a6 a7 a8 a9 a10 a11 a12 a13 a14 (rGet zIIIIIIIIIIIII a12 a15).1 (rGet zIIIIIIIIIIIII a12 a15).2.1 (rGet zIIIIIIIIIIIII a12 a15).2.2.1 (rGet zIIIIIIIIIIIII a12 a15).2.2.2.1 (rGet zIIIIIIIIIIIII a12 a15).2.2.2.2.1 (rGet zIIIIIIIIIIIII a12 a15).2.2.2.2.2.1 (rGet zIIIIIIIIIIIII a12 a15).2.2.2.2.2.2.1 (rGet zIIIIIIIIIIIII a12 a15).2.2.2.2.2.2.2.1 (rGet zIIIIIIIIIIIII a12 a15).2.2.2.2.2.2.2.2.1 (rGet zIIIIIIIIIIIII a12 a15).2.2.2.2.2.2.2.2.2.1 (rGet zIIIIIIIIIIIII a12 a15).2.2.2.2.2.2.2.2.2.2.1 (rGet zIIIIIIIIIIIII a12 a15).2.2.2.2.2.2.2.2.2.2.2.1 (rGet zIIIIIIIIIIIII a12 a15).2.2.2.2.2.2.2.2.2.2.2.2).bind fun y4=>(bif y4.1 then (bif (rCmp .eql (rGet zIIIIIIIIIIIII a12 a15).2.2.2.2.1 (0:Int)) then (bif (rCmp .eql (rGet zIIIIIIIIIIIII a12 a15).2.2.2.2.2.1 (0:Int)) then (bif (rCmp .eql (rGet zIIIIIIIIIIIII a12 a15).2.2.2.2.2.2.2.2.2.2.2.1 (0:Int)) then (bif (rCmp .eql (rGet zIIIIIIIIIIIII a12 a15).2.2.2.2.2.2.2.2.2.2.2.2 (0:Int)) then (lets (Bool.and (rCmp .eql (rGet zIIIIIIIIIIIII a12 a15).2.2.2.2.2.2.1 (0:Int)) (Bool.and (rCmp .eql (rGet zIIIIIIIIIIIII a12 a15).2.2.2.2.2.2.2.1 (0:Int)) (Bool.and (rCmp .eql (rGet zIIIIIIIIIIIII a12 a15).2.2.2.2.2.2.2.2.1 (0:Int)) (Bool.and (rCmp .eql (rGet zIIIIIIIIIIIII a12 a15).2.2.2.2.2.2.2.2.2.1 (0:Int)) (Bool.and (rCmp .eql (rGet zIIIIIIIIIIIII a12 a15).2.2.2.2.2.2.2.2.2.2.1 (0:Int)) true))))) fun v5=>some (v5,())) else some (false,())) else some (false,())) else some (false,())) else some (false,())) else ((impl_within (rGet zIIIIIIIIIIIII a12 a15).2.2.2.2.1 (0:Int) a10).bind fun y5=>(bif (Bool.not y5.1) then some (false,()) else ((impl_within (rGet zIIIIIIIIIIIII a12 a15).2.2.2.2.2.1 (0:Int) a7).bind fun y6=>(bif (Bool.not y6.1) then some (false,()) else ((impl_LockOk (rGet zIIIIIIIIIIIII a12 a15).2.2.2.2.2.2.1 (rGet zIIIIIIIIIIIII a12 a15).2.2.2.2.2.2.2.1 (rGet zIIIIIIIIIIIII a12 a15).2.2.2.2.2.2.2.2.1 (rGet zIIIIIIIIIIIII a12 a15).2.2.2.2.2.2.2.2.2.1 (rGet zIIIIIIIIIIIII a12 a15).2.2.2.2.2.2.2.2.2.2.1).bind fun y7=>(bif (Bool.not y7.1) then some (false,()) else ((impl_SecretOf a0 a1 a2 a3 a4 a5 a6 a7 a8 a9 a10 a11 a12 a13 a14 (rArith .add .i64 a15 (1:Int))).bind fun y8=>(bif (rCmp .neq (rGet zIIIIIIIIIIIII a12 a15).2.2.2.2.2.2.1 y8.1) then some (false,()) else (bif (rCmp .eql (rGet zIIIIIIIIIIIII a12 a15).2.2.2.1 (4:Int)) then ((impl_personOk (rGet zIIIIIIIIIIIII a12 a15).2.2.2.2.2.2.2.2.2.2.2.1).bind fun y9=>(bif y9.1 then ((impl_within (rGet zIIIIIIIIIIIII a12 a15).2.2.2.2.2.2.2.2.2.2.2.2 (0:Int) (rArith .add .i64 a4 (rArith .mul .i64 a6 a7))).bind fun y10=>some (y10.1,())) else some (false,()))) else (bif (rCmp .eql (rGet zIIIIIIIIIIIII a12 a15).2.2.2.2.2.2.2.2.2.2.2.1 (0:Int)) then some ((rCmp .eql (rGet zIIIIIIIIIIIII a12 a15).2.2.2.2.2.2.2.2.2.2.2.2 (0:Int)),()) else some (false,())))))))))))))))))))))) else none)
noncomputable def impl_boxesOk_b4 (k:Int×Int×Int×Int×Int×Int×Int×Int×Int×Int×Int×(List ((List (Int×Int))×(List (Int×Int))×(List (Int×(List (Int))×List (Int×Int×Int×Bool)))×Int×Int×Bool×Bool×Bool×Int×Int×List (Int×Int×Int×Int×Int×Int×Int)))×(List (Int×Int×Int×Int×Int×Int×Int×Int×Int×Int×Int×Int×Int))×(List (Int×Int×Int×Int×Int×Int×Bool))×(List (Int×Int×Int×Int×Int×Int×Int))×Int×(List ((List (Int×Int))×(List (Int×Int))×(List (Int×(List (Int))×List (Int×Int×Int×Bool)))×Int×Int×Bool×Bool×Bool×Int×Int×List (Int×Int×Int×Int×Int×Int×Int)))×Int×Int×(List (Int×(List (Int))×List (Int×Int×Int×Bool)))×Int×Int×(List (Int×Int×Int×Bool))×Int×Unit) (x:Int×Int×Unit):Option ((Int×Int×Unit) ⊕ (Bool×Unit ⊕ (Int×Unit ⊕ Empty))):=
 (bif (rCmp .lss x.2.1 k.2.2.2.2.2.2.2.2.2.2.2.2.2.2.2.2.2.2.2.2.2.2.2.1) then (bif (rInR k.2.2.2.2.2.2.2.2.2.2.2.2.2.2.2.2.2.2.2.2.2.2.1 x.2.1) then (bif (rCmp .eql (rGet zIIIB k.2.2.2.2.2.2.2.2.2.2.2.2.2.2.2.2.2.2.2.2.2.2.1 x.2.1).2.2.1 (0:Int)) then some (.inl (x.1,(rArith .add .i64 x.2.1 (1:Int)),())) else ((impl_within (rGet zIIIB k.2.2.2.2.2.2.2.2.2.2.2.2.2.2.2.2.2.2.2.2.2.2.1 x.2.1).2.2.1 (1:Int) (rLen k.2.2.2.2.2.2.2.2.2.2.2.2.1)).bind fun y0=>(bif (Bool.not y0.1) then some (.inr (.inl (false,()))) else (bif (rInR k.2.2.2.2.2.2.2.2.2.2.2.2.1 (rArith .sub .i64 (rGet zIIIB k.2.2.2.2.2.2.2.2.2.2.2.2.2.2.2.2.2.2.2.2.2.2.1 x.2.1).2.2.1 (1:Int))) then (lets (rGet zIIIIIIIIIIIII k.2.2.2.2.2.2.2.2.2.2.2.2.1 (rArith .sub .i64 (rGet zIIIB k.2.2.2.2.2.2.2.2.2.2.2.2.2.2.2.2.2.2.2.2.2.2.1 x.2.1).2.2.1 (1:Int))).2.2.2.2.1 fun v1=>(lets (rGet zIIIIIIIIIIIII k.2.2.2.2.2.2.2.2.2.2.2.2.1 (rArith .sub .i64 (rGet zIIIB k.2.2.2.2.2.2.2.2.2.2.2.2.2.2.2.2.2.2.2.2.2.2.1 x.2.1).2.2.1 (1:Int))).2.2.2.2.2.1 fun v2=>(lets (rGet zIIIIIIIIIIIII k.2.2.2.2.2.2.2.2.2.2.2.2.1 (rArith .sub .i64 (rGet zIIIB k.2.2.2.2.2.2.2.2.2.2.2.2.2.2.2.2.2.2.2.2.2.2.1 x.2.1).2.2.1 (1:Int))).2.2.2.2.2.2.1 fun v3=>(lets (rGet zIIIIIIIIIIIII k.2.2.2.2.2.2.2.2.2.2.2.2.1 (rArith .sub .i64 (rGet zIIIB k.2.2.2.2.2.2.2.2.2.2.2.2.2.2.2.2.2.2.2.2.2.2.1 x.2.1).2.2.1 (1:Int))).2.2.2.2.2.2.2.1 fun v4=>(lets (rGet zIIIIIIIIIIIII k.2.2.2.2.2.2.2.2.2.2.2.2.1 (rArith .sub .i64 (rGet zIIIB k.2.2.2.2.2.2.2.2.2.2.2.2.2.2.2.2.2.2.2.2.2.2.1 x.2.1).2.2.1 (1:Int))).2.2.2.2.2.2.2.2.1 fun v5=>(lets (rGet zIIIIIIIIIIIII k.2.2.2.2.2.2.2.2.2.2.2.2.1 (rArith .sub .i64 (rGet zIIIB k.2.2.2.2.2.2.2.2.2.2.2.2.2.2.2.2.2.2.2.2.2.2.1 x.2.1).2.2.1 (1:Int))).2.2.2.2.2.2.2.2.2.1 fun v6=>(lets (rGet zIIIIIIIIIIIII k.2.2.2.2.2.2.2.2.2.2.2.2.1 (rArith .sub .i64 (rGet zIIIB k.2.2.2.2.2.2.2.2.2.2.2.2.2.2.2.2.2.2.2.2.2.2.1 x.2.1).2.2.1 (1:Int))).2.2.2.2.2.2.2.2.2.2.1 fun v7=>(lets (rGet zIIIIIIIIIIIII k.2.2.2.2.2.2.2.2.2.2.2.2.1 (rArith .sub .i64 (rGet zIIIB k.2.2.2.2.2.2.2.2.2.2.2.2.2.2.2.2.2.2.2.2.2.2.1 x.2.1).2.2.1 (1:Int))).2.2.2.2.2.2.2.2.2.2.2.1 fun v8=>(lets (rGet zIIIIIIIIIIIII k.2.2.2.2.2.2.2.2.2.2.2.2.1 (rArith .sub .i64 (rGet zIIIB k.2.2.2.2.2.2.2.2.2.2.2.2.2.2.2.2.2.2.2.2.2.2.1 x.2.1).2.2.1 (1:Int))).2.2.2.2.2.2.2.2.2.2.2.2 fun v9=>(lets (rCmp .neq (rGet zIIIIIIIIIIIII k.2.2.2.2.2.2.2.2.2.2.2.2.1 (rArith .sub .i64 (rGet zIIIB k.2.2.2.2.2.2.2.2.2.2.2.2.2.2.2.2.2.2.2.2.2.2.1 x.2.1).2.2.1 (1:Int))).2.2.2.1 (2:Int)) fun v10=>(bif v10 then (lets (rCmp .neq (rGet zIIIIIIIIIIIII k.2.2.2.2.2.2.2.2.2.2.2.2.1 (rArith .sub .i64 (rGet zIIIB k.2.2.2.2.2.2.2.2.2.2.2.2.2.2.2.2.2.2.2.2.2.2.1 x.2.1).2.2.1 (1:Int))).2.2.2.1 (3:Int)) fun v11=>(bif v11 then some (.inr (.inl (false,()))) else (lets (rCmp .neq (rGet zIIIIIIIIIIIII k.2.2.2.2.2.2.2.2.2.2.2.2.1 (rArith .sub .i64 (rGet zIIIB k.2.2.2.2.2.2.2.2.2.2.2.2.2.2.2.2.2.2.2.2.2.2.1 x.2.1).2.2.1 (1:Int))).2.2.1 k.2.2.2.2.2.2.2.2.2.2.2.2.2.2.2.1) fun v12=>(bif v12 then some (.inr (.inl (false,()))) else (lets (rCmp .neq (rGet zIIIIIIIIIIIII k.2.2.2.2.2.2.2.2.2.2.2.2.1 (rArith .sub .i64 (rGet zIIIB k.2.2.2.2.2.2.2.2.2.2.2.2.2.2.2.2.2.2.2.2.2.2.1 x.2.1).2.2.1 (1:Int))).1 (rGet zIIIB k.2.2.2.2.2.2.2.2.2.2.2.2.2.2.2.2.2.2.2.2.2.2.1 x.2.1).2.1) fun v13=>(bif v13 then some (.inr (.inl (false,()))) else (lets (rCmp .eql (rGet zIIIIIIIIIIIII k.2.2.2.2.2.2.2.2.2.2.2.2.1 (rArith .sub .i64 (rGet zIIIB k.2.2.2.2.2.2.2.2.2.2.2.2.2.2.2.2.2.2.2.2.2.2.1 x.2.1).2.2.1 (1:Int))).2.2.2.1 (2:Int)) fun v14=>(bif v14 then (bif (rGet zIIIB k.2.2.2.2.2.2.2.2.2.2.2.2.2.2.2.2.2.2.2.2.2.2.1 x.2.1).2.2.2 then some (.inr (.inl (false,()))) else some (.inl ((rArith .add .i64 x.1 (1:Int)),(rArith .add .i64 x.2.1 (1:Int)),()))) else some (.inl ((rArith .add .i64 x.1 (1:Int)),(rArith .add .i64 x.2.1 (1:Int)),())))))))))) else (lets (rCmp .neq (rGet zIIIIIIIIIIIII k.2.2.2.2.2.2.2.2.2.2.2.2.1 (rArith .sub .i64 (rGet zIIIB k.2.2.2.2.2.2.2.2.2.2.2.2.2.2.2.2.2.2.2.2.2.2.1 x.2.1).2.2.1 (1:Int))).2.2.1 k.2.2.2.2.2.2.2.2.2.2.2.2.2.2.2.1) fun v11=>(bif v11 then some (.inr (.inl (false,()))) else (lets (rCmp .neq (rGet zIIIIIIIIIIIII k.2.2.2.2.2.2.2.2.2.2.2.2.1 (rArith .sub .i64 (rGet zIIIB k.2.2.2.2.2.2.2.2.2.2.2.2.2.2.2.2.2.2.2.2.2.2.1 x.2.1).2.2.1 (1:Int))).1 (rGet zIIIB k.2.2.2.2.2.2.2.2.2.2.2.2.2.2.2.2.2.2.2.2.2.2.1 x.2.1).2.1) fun v12=>(bif v12 then some (.inr (.inl (false,()))) else (lets (rCmp .eql (rGet zIIIIIIIIIIIII k.2.2.2.2.2.2.2.2.2.2.2.2.1 (rArith .sub .i64 (rGet zIIIB k.2.2.2.2.2.2.2.2.2.2.2.2.2.2.2.2.2.2.2.2.2.2.1 x.2.1).2.2.1 (1:Int))).2.2.2.1 (2:Int)) fun v13=>(bif v13 then (bif (rGet zIIIB k.2.2.2.2.2.2.2.2.2.2.2.2.2.2.2.2.2.2.2.2.2.2.1 x.2.1).2.2.2 then some (.inr (.inl (false,()))) else some (.inl ((rArith .add .i64 x.1 (1:Int)),(rArith .add .i64 x.2.1 (1:Int)),()))) else some (.inl ((rArith .add .i64 x.1 (1:Int)),(rArith .add .i64 x.2.1 (1:Int)),()))))))))))))))))))) else none)))) else none) else some (.inr (.inr (.inl (x.1,())))))
noncomputable def impl_boxesOk_l4 (k:Int×Int×Int×Int×Int×Int×Int×Int×Int×Int×Int×(List ((List (Int×Int))×(List (Int×Int))×(List (Int×(List (Int))×List (Int×Int×Int×Bool)))×Int×Int×Bool×Bool×Bool×Int×Int×List (Int×Int×Int×Int×Int×Int×Int)))×(List (Int×Int×Int×Int×Int×Int×Int×Int×Int×Int×Int×Int×Int))×(List (Int×Int×Int×Int×Int×Int×Bool))×(List (Int×Int×Int×Int×Int×Int×Int))×Int×(List ((List (Int×Int))×(List (Int×Int))×(List (Int×(List (Int))×List (Int×Int×Int×Bool)))×Int×Int×Bool×Bool×Bool×Int×Int×List (Int×Int×Int×Int×Int×Int×Int)))×Int×Int×(List (Int×(List (Int))×List (Int×Int×Int×Bool)))×Int×Int×(List (Int×Int×Int×Bool))×Int×Unit) (x:Int×Int×Unit):Option (Bool×Unit ⊕ (Int×Unit ⊕ Empty)):=iter (impl_boxesOk_b4 k) big x
noncomputable def impl_boxesOk_b2 (k:Int×Int×Int×Int×Int×Int×Int×Int×Int×Int×Int×(List ((List (Int×Int))×(List (Int×Int))×(List (Int×(List (Int))×List (Int×Int×Int×Bool)))×Int×Int×Bool×Bool×Bool×Int×Int×List (Int×Int×Int×Int×Int×Int×Int)))×(List (Int×Int×Int×Int×Int×Int×Int×Int×Int×Int×Int×Int×Int))×(List (Int×Int×Int×Int×Int×Int×Bool))×(List (Int×Int×Int×Int×Int×Int×Int))×Int×(List ((List (Int×Int))×(List (Int×Int))×(List (Int×(List (Int))×List (Int×Int×Int×Bool)))×Int×Int×Bool×Bool×Bool×Int×Int×List (Int×Int×Int×Int×Int×Int×Int)))×Int×Int×(List (Int×(List (Int))×List (Int×Int×Int×Bool)))×Int×Unit) (x:Int×Int×Unit):Option ((Int×Int×Unit) ⊕ (Bool×Unit ⊕ (Int×Unit ⊕ Empty))):=
 (bif (rCmp .lss x.2.1 k.2.2.2.2.2.2.2.2.2.2.2.2.2.2.2.2.2.2.2.2.1) then (bif (rInR k.2.2.2.2.2.2.2.2.2.2.2.2.2.2.2.2.2.2.2.1 x.2.1) then ((impl_boxesOk_l4 (k.1,k.2.1,k.2.2.1,k.2.2.2.1,k.2.2.2.2.1,k.2.2.2.2.2.1,k.2.2.2.2.2.2.1,k.2.2.2.2.2.2.2.1,k.2.2.2.2.2.2.2.2.1,k.2.2.2.2.2.2.2.2.2.1,k.2.2.2.2.2.2.2.2.2.2.1,k.2.2.2.2.2.2.2.2.2.2.2.1,k.2.2.2.2.2.2.2.2.2.2.2.2.1,k.2.2.2.2.2.2.2.2.2.2.2.2.2.1,k.2.2.2.2.2.2.2.2.2.2.2.2.2.2.1,k.2.2.2.2.2.2.2.2.2.2.2.2.2.2.2.1,k.2.2.2.2.2.2.2.2.2.2.2.2.2.2.2.2.1,k.2.2.2.2.2.2.2.2.2.2.2.2.2.2.2.2.2.1,k.2.2.2.2.2.2.2.2.2.2.2.2.2.2.2.2.2.2.1,k.2.2.2.2.2.2.2.2.2.2.2.2.2.2.2.2.2.2.2.1,k.2.2.2.2.2.2.2.2.2.2.2.2.2.2.2.2.2.2.2.2.1,x.2.1,(rGet zILIlLIIIBl k.2.2.2.2.2.2.2.2.2.2.2.2.2.2.2.2.2.2.2.1 x.2.1).2.2,(rLen (rGet zILIlLIIIBl k.2.2.2.2.2.2.2.2.2.2.2.2.2.2.2.2.2.2.2.1 x.2.1).2.2),()) (x.1,(0:Int),())).bind fun q0=>(Sum.elim (fun y1=>some (.inr (.inl (y1.1,())))) (fun q2=>(Sum.elim (fun y3=>some (.inl (y3.1,(rArith .add .i64 x.2.1 (1:Int)),()))) (fun q4=>(Empty.elim q4)) q2)) q0)) else none) else some (.inr (.inr (.inl (x.1,())))))
noncomputable def impl_boxesOk_l2 (k:Int×Int×Int×Int×Int×Int×Int×Int×Int×Int×Int×(List ((List (Int×Int))×(List (Int×Int))×(List (Int×(List (Int))×List (Int×Int×Int×Bool)))×Int×Int×Bool×Bool×Bool×Int×Int×List (Int×Int×Int×Int×Int×Int×Int)))×(List (Int×Int×Int×Int×Int×Int×Int×Int×Int×Int×Int×Int×Int))×(List (Int×Int×Int×Int×Int×Int×Bool))×(List (Int×Int×Int×Int×Int×Int×Int))×Int×(List ((List (Int×Int))×(List (Int×Int))×(List (Int×(List (Int))×List (Int×Int×Int×Bool)))×Int×Int×Bool×Bool×Bool×Int×Int×List (Int×Int×Int×Int×Int×Int×Int)))×Int×Int×(List (Int×(List (Int))×List (Int×Int×Int×Bool)))×Int×Unit) (x:Int×Int×Unit):Option (Bool×Unit ⊕ (Int×Unit ⊕ Empty)):=iter (impl_boxesOk_b2 k) big x
noncomputable def impl_boxesOk_b0 (k:Int×Int×Int×Int×Int×Int×Int×Int×Int×Int×Int×(List ((List (Int×Int))×(List (Int×Int))×(List (Int×(List (Int))×List (Int×Int×Int×Bool)))×Int×Int×Bool×Bool×Bool×Int×Int×List (Int×Int×Int×Int×Int×Int×Int)))×(List (Int×Int×Int×Int×Int×Int×Int×Int×Int×Int×Int×Int×Int))×(List (Int×Int×Int×Int×Int×Int×Bool))×(List (Int×Int×Int×Int×Int×Int×Int))×(List ((List (Int×Int))×(List (Int×Int))×(List (Int×(List (Int))×List (Int×Int×Int×Bool)))×Int×Int×Bool×Bool×Bool×Int×Int×List (Int×Int×Int×Int×Int×Int×Int)))×Int×Unit) (x:Int×Int×Unit):Option ((Int×Int×Unit) ⊕ (Bool×Unit ⊕ (Int×Unit ⊕ Empty))):=
 (bif (rCmp .lss x.2.1 k.2.2.2.2.2.2.2.2.2.2.2.2.2.2.2.2.1) then (bif (rInR k.2.2.2.2.2.2.2.2.2.2.2.2.2.2.2.1 x.2.1) then ((impl_boxesOk_l2 (k.1,k.2.1,k.2.2.1,k.2.2.2.1,k.2.2.2.2.1,k.2.2.2.2.2.1,k.2.2.2.2.2.2.1,k.2.2.2.2.2.2.2.1,k.2.2.2.2.2.2.2.2.1,k.2.2.2.2.2.2.2.2.2.1,k.2.2.2.2.2.2.2.2.2.2.1,k.2.2.2.2.2.2.2.2.2.2.2.1,k.2.2.2.2.2.2.2.2.2.2.2.2.1,k.2.2.2.2.2.2.2.2.2.2.2.2.2.1,k.2.2.2.2.2.2.2.2.2.2.2.2.2.2.1,x.2.1,k.2.2.2.2.2.2.2.2.2.2.2.2.2.2.2.1,k.2.2.2.2.2.2.2.2.2.2.2.2.2.2.2.2.1,x.2.1,(rGet zLIIlLIIlLILIlLIIIBllIIBBBIILIIIIIIIl k.2.2.2.2.2.2.2.2.2.2.2.2.2.2.2.1 x.2.1).2.2.1,(rLen (rGet zLIIlLIIlLILIlLIIIBllIIBBBIILIIIIIIIl k.2.2.2.2.2.2.2.2.2.2.2.2.2.2.2.1 x.2.1).2.2.1),()) (x.1,(0:Int),())).bind fun q0=>(Sum.elim (fun y1=>some (.inr (.inl (y1.1,())))) (fun q2=>(Sum.elim (fun y3=>some (.inl (y3.1,(rArith .add .i64 x.2.1 (1:Int)),()))) (fun q4=>(Empty.elim q4)) q2)) q0)) else none) else some (.inr (.inr (.inl (x.1,())))))
noncomputable def impl_boxesOk_l0 (k:Int×Int×Int×Int×Int×Int×Int×Int×Int×Int×Int×(List ((List (Int×Int))×(List (Int×Int))×(List (Int×(List (Int))×List (Int×Int×Int×Bool)))×Int×Int×Bool×Bool×Bool×Int×Int×List (Int×Int×Int×Int×Int×Int×Int)))×(List (Int×Int×Int×Int×Int×Int×Int×Int×Int×Int×Int×Int×Int))×(List (Int×Int×Int×Int×Int×Int×Bool))×(List (Int×Int×Int×Int×Int×Int×Int))×(List ((List (Int×Int))×(List (Int×Int))×(List (Int×(List (Int))×List (Int×Int×Int×Bool)))×Int×Int×Bool×Bool×Bool×Int×Int×List (Int×Int×Int×Int×Int×Int×Int)))×Int×Unit) (x:Int×Int×Unit):Option (Bool×Unit ⊕ (Int×Unit ⊕ Empty)):=iter (impl_boxesOk_b0 k) big x
noncomputable def impl_boxesOk_b6 (k:(List (Int×Int×Int×Int×Int×Int×Int×Int×Int×Int×Int×Int×Int))×Int×Unit) (x:Int×Int×Unit):Option ((Int×Int×Unit) ⊕ (Int×Unit ⊕ Empty)):=
 (bif (rCmp .lss x.2.1 k.2.1) then (bif (rInR k.1 x.2.1) then (bif (rCmp .eql (rGet zIIIIIIIIIIIII k.1 x.2.1).2.2.2.1 (2:Int)) then some (.inl ((rArith .sub .i64 x.1 (1:Int)),(rArith .add .i64 x.2.1 (1:Int)),())) else (bif (rCmp .eql (rGet zIIIIIIIIIIIII k.1 x.2.1).2.2.2.1 (3:Int)) then some (.inl ((rArith .sub .i64 x.1 (1:Int)),(rArith .add .i64 x.2.1 (1:Int)),())) else some (.inl (x.1,(rArith .add .i64 x.2.1 (1:Int)),())))) else none) else some (.inr (.inl (x.1,()))))
noncomputable def impl_boxesOk_l6 (k:(List (Int×Int×Int×Int×Int×Int×Int×Int×Int×Int×Int×Int×Int))×Int×Unit) (x:Int×Int×Unit):Option (Int×Unit ⊕ Empty):=iter (impl_boxesOk_b6 k) big x
noncomputable def impl_boxesOk (a0:Int) (a1:Int) (a2:Int) (a3:Int) (a4:Int) (a5:Int) (a6:Int) (a7:Int) (a8:Int) (a9:Int) (a10:Int) (a11:(List ((List (Int×Int))×(List (Int×Int))×(List (Int×(List (Int))×List (Int×Int×Int×Bool)))×Int×Int×Bool×Bool×Bool×Int×Int×List (Int×Int×Int×Int×Int×Int×Int)))) (a12:(List (Int×Int×Int×Int×Int×Int×Int×Int×Int×Int×Int×Int×Int))) (a13:(List (Int×Int×Int×Int×Int×Int×Bool))) (a14:(List (Int×Int×Int×Int×Int×Int×Int))):Option (Bool×Unit):=
 ((impl_boxesOk_l0 (a0,a1,a2,a3,a4,a5,a6,a7,a8,a9,a10,a11,a12,a13,a14,a11,(rLen a11),()) ((0:Int),(0:Int),())).bind fun q0=>(Sum.elim (fun y1=>some (y1.1,())) (fun q2=>(Sum.elim (fun y3=>((impl_boxesOk_l6 (a12,(rLen a12),()) (y3.1,(0:Int),())).bind fun q4=>(Sum.elim (fun y5=>some ((rCmp .eql y5.1 (0:Int)),())) (fun q6=>(Empty.elim q6)) q4))) (fun q4=>(Empty.elim q4)) q2)) q0))
noncomputable def impl_loadOf_b0 (k:Int×Int×Int×Int×Int×Int×Int×Int×Int×Int×Int×(List ((List (Int×Int))×(List (Int×Int))×(List (Int×(List (Int))×List (Int×Int×Int×Bool)))×Int×Int×Bool×Bool×Bool×Int×Int×List (Int×Int×Int×Int×Int×Int×Int)))×(List (Int×Int×Int×Int×Int×Int×Int×Int×Int×Int×Int×Int×Int))×(List (Int×Int×Int×Int×Int×Int×Bool))×(List (Int×Int×Int×Int×Int×Int×Int))×(List (Int×Int×Int×Int×Int×Int×Int×Int×Int×Int×Int×Int×Int))×Int×Unit) (x:Int×Int×Unit):Option ((Int×Int×Unit) ⊕ (Int×Unit ⊕ Empty)):=
 (bif (rCmp .lss x.2.1 k.2.2.2.2.2.2.2.2.2.2.2.2.2.2.2.2.1) then (bif (rInR k.2.2.2.2.2.2.2.2.2.2.2.2.2.2.2.1 x.2.1) then (bif (rCmp .neq (rGet zIIIIIIIIIIIII k.2.2.2.2.2.2.2.2.2.2.2.2.2.2.2.1 x.2.1).2.2.2.1 (0:Int)) then ((impl_isUnplaced k.1 k.2.1 k.2.2.1 k.2.2.2.1 k.2.2.2.2.1 k.2.2.2.2.2.1 k.2.2.2.2.2.2.1 k.2.2.2.2.2.2.2.1 k.2.2.2.2.2.2.2.2.1 k.2.2.2.2.2.2.2.2.2.1 k.2.2.2.2.2.2.2.2.2.2.1 k.2.2.2.2.2.2.2.2.2.2.2.1 k.2.2.2.2.2.2.2.2.2.2.2.2.1 k.2.2.2.2.2.2.2.2.2.2.2.2.2.1 k.2.2.2.2.2.2.2.2.2.2.2.2.2.2.1 (rGet zIIIIIIIIIIIII k.2.2.2.2.2.2.2.2.2.2.2.2.2.2.2.1 x.2.1).1 (rGet zIIIIIIIIIIIII k.2.2.2.2.2.2.2.2.2.2.2.2.2.2.2.1 x.2.1).2.1 (rGet zIIIIIIIIIIIII k.2.2.2.2.2.2.2.2.2.2.2.2.2.2.2.1 x.2.1).2.2.1 (rGet zIIIIIIIIIIIII k.2.2.2.2.2.2.2.2.2.2.2.2.2.2.2.1 x.2.1).2.2.2.1 (rGet zIIIIIIIIIIIII k.2.2.2.2.2.2.2.2.2.2.2.2.2.2.2.1 x.2.1).2.2.2.2.1 (rGet zIIIIIIIIIIIII k.2.2.2.2.2.2.2.2.2.2.2.2.2.2.2.1 x.2.1).2.2.2.2.2.1 (rGet zIIIIIIIIIIIII k.2.2.2.2.2.2.2.2.2.2.2.2.2.2.2.1 x.2.1).2.2.2.2.2.2.1 (rGet zIIIIIIIIIIIII k.2.2.2.2.2.2.2.2.2.2.2.2.2.2.2.1 x.2.1).2.2.2.2.2.2.2.1 (rGet zIIIIIIIIIIIII k.2.2.2.2.2.2.2.2.2.2.2.2.2.2.2.1 x.2.1).2.2.2.2.2.2.2.2.1 (rGet zIIIIIIIIIIIII k.2.2.2.2.2.2.2.2.2.2.2.2.2.2.2.1 x.2.1).2.2.2.2.2.2.2.2.2.1 (rGet zIIIIIIIIIIIII k.2.2.2.2.2.2.2.2.2.2.2.2.2.2.2.1 x.2.1).2.2.2.2.2.2.2.2.2.2.1 (rGet zIIIIIIIIIIIII k.2.2.2.2.2.2.2.2.2.2.2.2.2.2.2.1 x.2.1).2.2.2.2.2.2.2.2.2.2.2.1 (rGet zIIIIIIIIIIIII k.2.2.2.2.2.2.2.2.2.2.2.2.2.2.2.1 x.2.1).2.2.2.2.2.2.2.2.2.2.2.2).bind fun y0=>(bif y0.1 then some (.inl ((rArith .add .i64 x.1 (rGet zIIIIIIIIIIIII k.2.2.2.2.2.2.2.2.2.2.2.2.2.2.2.1 x.2.1).1),(rArith .add .i64 x.2.1 (1:Int)),())) else some (.inl (x.1,(rArith .add .i64 x.2.1 (1:Int)),())))) else some (.inl (x.1,(rArith .add .i64 x.2.1 (1:Int)),()))) else none) else some (.inr (.inl (x.1,()))))
noncomputable def impl_loadOf_l0 (k:Int×Int×Int×Int×Int×Int×Int×Int×Int×Int×Int×(List ((List (Int×Int))×(List (Int×Int))×(List (Int×(List (Int))×List (Int×Int×Int×Bool)))×Int×Int×Bool×Bool×Bool×Int×Int×List (Int×Int×Int×Int×Int×Int×Int)))×(List (Int×Int×Int×Int×Int×Int×Int×Int×Int×Int×Int×Int×Int))×(List (Int×Int×Int×Int×Int×Int×Bool))×(List (Int×Int×Int×Int×Int×Int×Int))×(List (Int×Int×Int×Int×Int×Int×Int×Int×Int×Int×Int×Int×Int))×Int×Unit) (x:Int×Int×Unit):Option (Int×Unit ⊕ Empty):=iter (impl_loadOf_b0 k) big x
noncomputable def impl_loadOf (a0:Int) (a1:Int) (a2:Int) (a3:Int) (a4:Int) (a5:Int) (a6:Int) (a7:Int) (a8:Int) (a9:Int) (a10:Int) (a11:(List ((List (Int×Int))×(List (Int×Int))×(List (Int×(List (Int))×List (Int×Int×Int×Bool)))×Int×Int×Bool×Bool×Bool×Int×Int×List (Int×Int×Int×Int×Int×Int×Int)))) (a12:(List (Int×Int×Int×Int×Int×Int×Int×Int×Int×Int×Int×Int×Int))) (a13:(List (Int×Int×Int×Int×Int×Int×Bool))) (a14:(List (Int×Int×Int×Int×Int×Int×Int))):Option (Int×Unit):=
 ((impl_loadOf_l0 (a0,a1,a2,a3,a4,a5,a6,a7,a8,a9,a10,a11,a12,a13,a14,a12,(rLen a12),()) ((0:Int),(0:Int),())).bind fun q0=>(Sum.elim (fun y1=>some (y1.1,())) (fun q2=>(Empty.elim q2)) q0))
noncomputable def impl_NetworkOk_b0 (k:Int×Int×Int×Int×Int×Int×Int×Int×Int×Int×Int×(List ((List (Int×Int))×(List (Int×Int))×(List (Int×(List (Int))×List (Int×Int×Int×Bool)))×Int×Int×Bool×Bool×Bool×Int×Int×List (Int×Int×Int×Int×Int×Int×Int)))×(List (Int×Int×Int×Int×Int×Int×Int×Int×Int×Int×Int×Int×Int))×(List (Int×Int×Int×Int×Int×Int×Bool))×(List (Int×Int×Int×Int×Int×Int×Int))×Int×Unit) (x:Int×Unit):Option ((Int×Unit) ⊕ (Bool×Unit ⊕ (Unit ⊕ Empty))):=
 (bif (rCmp .lss x.1 k.2.2.2.2.2.2.2.2.2.2.2.2.2.2.2.1) then ((impl_siteOk k.1 k.2.1 k.2.2.1 k.2.2.2.1 k.2.2.2.2.1 k.2.2.2.2.2.1 k.2.2.2.2.2.2.1 k.2.2.2.2.2.2.2.1 k.2.2.2.2.2.2.2.2.1 k.2.2.2.2.2.2.2.2.2.1 k.2.2.2.2.2.2.2.2.2.2.1 k.2.2.2.2.2.2.2.2.2.2.2.1 k.2.2.2.2.2.2.2.2.2.2.2.2.1 k.2.2.2.2.2.2.2.2.2.2.2.2.2.1 k.2.2.2.2.2.2.2.2.2.2.2.2.2.2.1 x.1).bind fun y0=>(bif (Bool.not y0.1) then some (.inr (.inl (false,()))) else some (.inl ((rArith .add .i64 x.1 (1:Int)),())))) else some (.inr (.inr (.inl (())))))
noncomputable def impl_NetworkOk_l0 (k:Int×Int×Int×Int×Int×Int×Int×Int×Int×Int×Int×(List ((List (Int×Int))×(List (Int×Int))×(List (Int×(List (Int))×List (Int×Int×Int×Bool)))×Int×Int×Bool×Bool×Bool×Int×Int×List (Int×Int×Int×Int×Int×Int×Int)))×(List (Int×Int×Int×Int×Int×Int×Int×Int×Int×Int×Int×Int×Int))×(List (Int×Int×Int×Int×Int×Int×Bool))×(List (Int×Int×Int×Int×Int×Int×Int))×Int×Unit) (x:Int×Unit):Option (Bool×Unit ⊕ (Unit ⊕ Empty)):=iter (impl_NetworkOk_b0 k) big x
noncomputable def impl_NetworkOk_b2 (k:Int×Int×Int×Int×Int×Int×Int×Int×Int×Int×Int×(List ((List (Int×Int))×(List (Int×Int))×(List (Int×(List (Int))×List (Int×Int×Int×Bool)))×Int×Int×Bool×Bool×Bool×Int×Int×List (Int×Int×Int×Int×Int×Int×Int)))×(List (Int×Int×Int×Int×Int×Int×Int×Int×Int×Int×Int×Int×Int))×(List (Int×Int×Int×Int×Int×Int×Bool))×(List (Int×Int×Int×Int×Int×Int×Int))×Int×Unit) (x:Int×Unit):Option ((Int×Unit) ⊕ (Bool×Unit ⊕ (Unit ⊕ Empty))):=
 (bif (rCmp .lss x.1 k.2.2.2.2.2.2.2.2.2.2.2.2.2.2.2.1) then ((impl_parcelOk k.1 k.2.1 k.2.2.1 k.2.2.2.1 k.2.2.2.2.1 k.2.2.2.2.2.1 k.2.2.2.2.2.2.1 k.2.2.2.2.2.2.2.1 k.2.2.2.2.2.2.2.2.1 k.2.2.2.2.2.2.2.2.2.1 k.2.2.2.2.2.2.2.2.2.2.1 k.2.2.2.2.2.2.2.2.2.2.2.1 k.2.2.2.2.2.2.2.2.2.2.2.2.1 k.2.2.2.2.2.2.2.2.2.2.2.2.2.1 k.2.2.2.2.2.2.2.2.2.2.2.2.2.2.1 x.1).bind fun y0=>(bif (Bool.not y0.1) then some (.inr (.inl (false,()))) else some (.inl ((rArith .add .i64 x.1 (1:Int)),())))) else some (.inr (.inr (.inl (())))))
noncomputable def impl_NetworkOk_l2 (k:Int×Int×Int×Int×Int×Int×Int×Int×Int×Int×Int×(List ((List (Int×Int))×(List (Int×Int))×(List (Int×(List (Int))×List (Int×Int×Int×Bool)))×Int×Int×Bool×Bool×Bool×Int×Int×List (Int×Int×Int×Int×Int×Int×Int)))×(List (Int×Int×Int×Int×Int×Int×Int×Int×Int×Int×Int×Int×Int))×(List (Int×Int×Int×Int×Int×Int×Bool))×(List (Int×Int×Int×Int×Int×Int×Int))×Int×Unit) (x:Int×Unit):Option (Bool×Unit ⊕ (Unit ⊕ Empty)):=iter (impl_NetworkOk_b2 k) big x
noncomputable def impl_NetworkOk (a0:Int) (a1:Int) (a2:Int) (a3:Int) (a4:Int) (a5:Int) (a6:Int) (a7:Int) (a8:Int) (a9:Int) (a10:Int) (a11:(List ((List (Int×Int))×(List (Int×Int))×(List (Int×(List (Int))×List (Int×Int×Int×Bool)))×Int×Int×Bool×Bool×Bool×Int×Int×List (Int×Int×Int×Int×Int×Int×Int)))) (a12:(List (Int×Int×Int×Int×Int×Int×Int×Int×Int×Int×Int×Int×Int))) (a13:(List (Int×Int×Int×Int×Int×Int×Bool))) (a14:(List (Int×Int×Int×Int×Int×Int×Int))):Option (Bool×Unit):=
 ((impl_TermsOk a0 a1 a2 a3 a4 a5 a6 a7).bind fun y0=>(bif (Bool.not y0.1) then some (false,()) else ((impl_within a8 (0:Int) (1000:Int)).bind fun y1=>(bif (Bool.not y1.1) then some (false,()) else ((impl_secretOk a9).bind fun y2=>(bif (Bool.not y2.1) then some (false,()) else ((impl_timeOk a10).bind fun y3=>(bif (Bool.not y3.1) then some (false,()) else ((impl_within (rLen a11) (1:Int) (3:Int)).bind fun y4=>(bif (Bool.not y4.1) then some (false,()) else (bif (rCmp .gtr (rLen a12) (12:Int)) then some (false,()) else ((impl_GrantsOk a13).bind fun y5=>(bif (Bool.not y5.1) then some (false,()) else ((impl_JournalOk a14).bind fun y6=>(bif (Bool.not y6.1) then some (false,()) else ((impl_NetworkOk_l0 (a0,a1,a2,a3,a4,a5,a6,a7,a8,a9,a10,a11,a12,a13,a14,(rLen a11),()) ((0:Int),())).bind fun q7=>(Sum.elim (fun y8=>some (y8.1,())) (fun q9=>(Sum.elim (fun y10=>((impl_NetworkOk_l2 (a0,a1,a2,a3,a4,a5,a6,a7,a8,a9,a10,a11,a12,a13,a14,(rLen a12),()) ((0:Int),())).bind fun q11=>(Sum.elim (fun y12=>some (y12.1,())) (fun q13=>(Sum.elim (fun y14=>((impl_boxesOk a0 a1 a2 a3 a4 a5 a6 a7 a8 a9 a10 a11 a12 a13 a14).bind fun y15=>(bif y15.1 then ((impl_loadOf a0 a1 a2 a3 a4 a5 a6 a7 a8 a9 a10 a11 a12 a13 a14).bind fun y16=>some ((rCmp .leq y16.1 a8),())) else some (false,())))) (fun q15=>(Empty.elim q15)) q13)) q11))) (fun q11=>(Empty.elim q11)) q9)) q7)))))))))))))))))
end Go.Fn
