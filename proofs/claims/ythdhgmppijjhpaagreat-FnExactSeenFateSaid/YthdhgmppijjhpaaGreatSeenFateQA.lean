import Derived.Test.YthdhgmppijjhpaaGreatRE
import Derived.Lib.SlicesCompact
import Derived.Sort.AssemblyPlain
/- Plain functions that stand for Go functions, and what they answer. Conditions: none. -/
set_option autoImplicit false
set_option linter.unusedVariables false
set_option linter.unusedSimpArgs false
set_option linter.unusedVariables false
namespace Go.Fn
open Go.R
noncomputable def zIIIIIII:Int×Int×Int×Int×Int×Int×Int:=((0:Int),(0:Int),(0:Int),(0:Int),(0:Int),(0:Int),(0:Int))
noncomputable def laws_toEvent (a0:Int) (a1:Int) (a2:Int) (a3:Int) (a4:Int) (a5:Int) (a6:Int):Option (Int×Int×Int×Int×Int×Int×Int×Unit):=
 some (a0,a1,a2,a3,a4,a5,a6,())
noncomputable def spec_l01In (a0:Int) (a1:Int) (a2:Int):Option (Bool×Unit):=
 (bif (rCmp .geq a0 a1) then some ((rCmp .leq a0 a2),()) else some (false,()))
noncomputable def spec_EventOk (a0:Int) (a1:Int) (a2:Int) (a3:Int) (a4:Int) (a5:Int) (a6:Int):Option (Bool×Unit):=
 ((spec_l01In a0 (0:Int) (5:Int)).bind fun y0=>(bif y0.1 then ((spec_l01In a1 (1:Int) (999:Int)).bind fun y1=>(bif y1.1 then ((spec_l01In a2 (1:Int) (100000:Int)).bind fun y2=>(bif y2.1 then ((spec_l01In a3 (1:Int) (4:Int)).bind fun y3=>(bif y3.1 then ((spec_l01In a4 (1:Int) (999:Int)).bind fun y4=>(bif y4.1 then ((spec_l01In a5 (0:Int) (20000:Int)).bind fun y5=>(bif y5.1 then ((spec_l01In a6 (0:Int) (20000:Int)).bind fun y6=>some (y6.1,())) else some (false,()))) else some (false,()))) else some (false,()))) else some (false,()))) else some (false,()))) else some (false,())))
noncomputable def impl_within (a0:Int) (a1:Int) (a2:Int):Option (Bool×Unit):=
 (bif (rCmp .geq a0 a1) then some ((rCmp .leq a0 a2),()) else some (false,()))
noncomputable def impl_timeOk (a0:Int):Option (Bool×Unit):=
 ((impl_within a0 (0:Int) (20000:Int)).bind fun y0=>some (y0.1,()))
noncomputable def impl_EventOk (a0:Int) (a1:Int) (a2:Int) (a3:Int) (a4:Int) (a5:Int) (a6:Int):Option (Bool×Unit):=
 ((impl_within a0 (0:Int) (5:Int)).bind fun y0=>(bif y0.1 then ((impl_within a1 (1:Int) (999:Int)).bind fun y1=>(bif y1.1 then ((impl_within a2 (1:Int) (100000:Int)).bind fun y2=>(bif y2.1 then ((impl_within a3 (1:Int) (4:Int)).bind fun y3=>(bif y3.1 then ((impl_within a4 (1:Int) (999:Int)).bind fun y4=>(bif y4.1 then ((impl_timeOk a5).bind fun y5=>(bif y5.1 then ((impl_timeOk a6).bind fun y6=>some (y6.1,())) else some (false,()))) else some (false,()))) else some (false,()))) else some (false,()))) else some (false,()))) else some (false,())))
noncomputable def laws_szEventS (a0:(List (Int×Int×Int×Int×Int×Int×Int))) (a1:Int):Option (Int×Unit):=
 (bif (rCmp .lss (rArith .sub .i64 a1 (rLen a0)) (0:Int)) then some ((-1:Int),()) else some ((rArith .sub .i64 a1 (rLen a0)),()))
noncomputable def laws_toEventS_b0 (k:(List (Int×Int×Int×Int×Int×Int×Int))×Unit) (x:(List (Int×Int×Int×Int×Int×Int×Int))×Int×Unit):Option (((List (Int×Int×Int×Int×Int×Int×Int))×Int×Unit) ⊕ ((List (Int×Int×Int×Int×Int×Int×Int))×Unit ⊕ Empty)):=
 (bif (rCmp .lss x.2.1 (rLen k.1)) then (bif (rInR k.1 x.2.1) then ((laws_toEvent (rGet zIIIIIII k.1 x.2.1).1 (rGet zIIIIIII k.1 x.2.1).2.1 (rGet zIIIIIII k.1 x.2.1).2.2.1 (rGet zIIIIIII k.1 x.2.1).2.2.2.1 (rGet zIIIIIII k.1 x.2.1).2.2.2.2.1 (rGet zIIIIIII k.1 x.2.1).2.2.2.2.2.1 (rGet zIIIIIII k.1 x.2.1).2.2.2.2.2.2).bind fun y0=>(bif (rInR x.1 x.2.1) then some (.inl ((rPut x.1 x.2.1 (y0.1,y0.2.1,y0.2.2.1,y0.2.2.2.1,y0.2.2.2.2.1,y0.2.2.2.2.2.1,y0.2.2.2.2.2.2.1)),(rArith .add .i64 x.2.1 (1:Int)),())) else none)) else none) else some (.inr (.inl (x.1,()))))
noncomputable def laws_toEventS_l0 (k:(List (Int×Int×Int×Int×Int×Int×Int))×Unit) (x:(List (Int×Int×Int×Int×Int×Int×Int))×Int×Unit):Option ((List (Int×Int×Int×Int×Int×Int×Int))×Unit ⊕ Empty):=iter (laws_toEventS_b0 k) big x
noncomputable def laws_toEventS (a0:(List (Int×Int×Int×Int×Int×Int×Int))):Option ((List (Int×Int×Int×Int×Int×Int×Int))×Unit):=
 (bif (rRepOk (rLen a0)) then ((laws_toEventS_l0 (a0,()) ((rRep (rLen a0) ((0:Int),(0:Int),(0:Int),(0:Int),(0:Int),(0:Int),(0:Int))),(0:Int),())).bind fun q0=>(Sum.elim (fun y1=>some (y1.1,())) (fun q2=>(Empty.elim q2)) q0)) else none)
noncomputable def spec_JournalOk_b0 (k:(List (Int×Int×Int×Int×Int×Int×Int))×Unit) (x:Int×Unit):Option ((Int×Unit) ⊕ (Bool×Unit ⊕ (Unit ⊕ Empty))):=
 (bif (rCmp .lss x.1 (rLen k.1)) then (bif (rInR k.1 x.1) then ((spec_EventOk (rGet zIIIIIII k.1 x.1).1 (rGet zIIIIIII k.1 x.1).2.1 (rGet zIIIIIII k.1 x.1).2.2.1 (rGet zIIIIIII k.1 x.1).2.2.2.1 (rGet zIIIIIII k.1 x.1).2.2.2.2.1 (rGet zIIIIIII k.1 x.1).2.2.2.2.2.1 (rGet zIIIIIII k.1 x.1).2.2.2.2.2.2).bind fun y0=>(bif (Bool.not y0.1) then some (.inr (.inl (false,()))) else (bif (rCmp .gtr x.1 (0:Int)) then (bif (rInR k.1 (rArith .sub .i64 x.1 (1:Int))) then (bif (rCmp .lss (rGet zIIIIIII k.1 x.1).1 (rGet zIIIIIII k.1 (rArith .sub .i64 x.1 (1:Int))).1) then some (.inr (.inl (false,()))) else (bif (rCmp .gtr x.1 (0:Int)) then (bif (rInR k.1 (rArith .sub .i64 x.1 (1:Int))) then (bif (rCmp .eql (rGet zIIIIIII k.1 x.1).1 (rGet zIIIIIII k.1 (rArith .sub .i64 x.1 (1:Int))).1) then (bif (rInR k.1 (rArith .sub .i64 x.1 (1:Int))) then (bif (rCmp .leq (rGet zIIIIIII k.1 x.1).2.1 (rGet zIIIIIII k.1 (rArith .sub .i64 x.1 (1:Int))).2.1) then some (.inr (.inl (false,()))) else (bif (rInR k.1 (rArith .sub .i64 x.1 (1:Int))) then (bif (rCmp .leq (rGet zIIIIIII k.1 x.1).2.2.1 (rGet zIIIIIII k.1 (rArith .sub .i64 x.1 (1:Int))).2.2.1) then some (.inr (.inl (false,()))) else some (.inl ((rArith .add .i64 x.1 (1:Int)),()))) else none)) else none) else some (.inl ((rArith .add .i64 x.1 (1:Int)),()))) else none) else some (.inl ((rArith .add .i64 x.1 (1:Int)),())))) else none) else (bif (rCmp .gtr x.1 (0:Int)) then (bif (rInR k.1 (rArith .sub .i64 x.1 (1:Int))) then (bif (rCmp .eql (rGet zIIIIIII k.1 x.1).1 (rGet zIIIIIII k.1 (rArith .sub .i64 x.1 (1:Int))).1) then (bif (rInR k.1 (rArith .sub .i64 x.1 (1:Int))) then (bif (rCmp .leq (rGet zIIIIIII k.1 x.1).2.1 (rGet zIIIIIII k.1 (rArith .sub .i64 x.1 (1:Int))).2.1) then some (.inr (.inl (false,()))) else (bif (rInR k.1 (rArith .sub .i64 x.1 (1:Int))) then (bif (rCmp .leq (rGet zIIIIIII k.1 x.1).2.2.1 (rGet zIIIIIII k.1 (rArith .sub .i64 x.1 (1:Int))).2.2.1) then some (.inr (.inl (false,()))) else some (.inl ((rArith .add .i64 x.1 (1:Int)),()))) else none)) else none) else some (.inl ((rArith .add .i64 x.1 (1:Int)),()))) else none) else some (.inl ((rArith .add .i64 x.1 (1:Int)),())))))) else none) else some (.inr (.inr (.inl (())))))
noncomputable def spec_JournalOk_l0 (k:(List (Int×Int×Int×Int×Int×Int×Int))×Unit) (x:Int×Unit):Option (Bool×Unit ⊕ (Unit ⊕ Empty)):=iter (spec_JournalOk_b0 k) big x
noncomputable def spec_JournalOk (a0:(List (Int×Int×Int×Int×Int×Int×Int))):Option (Bool×Unit):=
 (bif (rCmp .gtr (rLen a0) (60:Int)) then some (false,()) else ((spec_JournalOk_l0 (a0,()) ((0:Int),())).bind fun q0=>(Sum.elim (fun y1=>some (y1.1,())) (fun q2=>(Sum.elim (fun y3=>some (true,())) (fun q4=>(Empty.elim q4)) q2)) q0)))
noncomputable def impl_JournalOk_b0 (k:(List (Int×Int×Int×Int×Int×Int×Int))×(List (Int×Int×Int×Int×Int×Int×Int))×Int×Unit) (x:Int×Unit):Option ((Int×Unit) ⊕ (Bool×Unit ⊕ (Unit ⊕ Empty))):=
 (bif (rCmp .lss x.1 k.2.2.1) then (bif (rInR k.2.1 x.1) then ((impl_EventOk (rGet zIIIIIII k.2.1 x.1).1 (rGet zIIIIIII k.2.1 x.1).2.1 (rGet zIIIIIII k.2.1 x.1).2.2.1 (rGet zIIIIIII k.2.1 x.1).2.2.2.1 (rGet zIIIIIII k.2.1 x.1).2.2.2.2.1 (rGet zIIIIIII k.2.1 x.1).2.2.2.2.2.1 (rGet zIIIIIII k.2.1 x.1).2.2.2.2.2.2).bind fun y0=>(bif (Bool.not y0.1) then some (.inr (.inl (false,()))) else (bif (rCmp .eql x.1 (0:Int)) then some (.inl ((rArith .add .i64 x.1 (1:Int)),())) else (bif (rInR k.1 (rArith .sub .i64 x.1 (1:Int))) then (bif (rCmp .lss (rGet zIIIIIII k.2.1 x.1).1 (rGet zIIIIIII k.1 (rArith .sub .i64 x.1 (1:Int))).1) then some (.inr (.inl (false,()))) else (bif (rCmp .eql (rGet zIIIIIII k.2.1 x.1).1 (rGet zIIIIIII k.1 (rArith .sub .i64 x.1 (1:Int))).1) then (bif (rCmp .leq (rGet zIIIIIII k.2.1 x.1).2.1 (rGet zIIIIIII k.1 (rArith .sub .i64 x.1 (1:Int))).2.1) then some (.inr (.inl (false,()))) else (bif (rCmp .leq (rGet zIIIIIII k.2.1 x.1).2.2.1 (rGet zIIIIIII k.1 (rArith .sub .i64 x.1 (1:Int))).2.2.1) then some (.inr (.inl (false,()))) else some (.inl ((rArith .add .i64 x.1 (1:Int)),())))) else some (.inl ((rArith .add .i64 x.1 (1:Int)),())))) else none)))) else none) else some (.inr (.inr (.inl (())))))
noncomputable def impl_JournalOk_l0 (k:(List (Int×Int×Int×Int×Int×Int×Int))×(List (Int×Int×Int×Int×Int×Int×Int))×Int×Unit) (x:Int×Unit):Option (Bool×Unit ⊕ (Unit ⊕ Empty)):=iter (impl_JournalOk_b0 k) big x
noncomputable def impl_JournalOk (a0:(List (Int×Int×Int×Int×Int×Int×Int))):Option (Bool×Unit):=
 (bif (rCmp .gtr (rLen a0) (60:Int)) then some (false,()) else ((impl_JournalOk_l0 (a0,a0,(rLen a0),()) ((0:Int),())).bind fun q0=>(Sum.elim (fun y1=>some (y1.1,())) (fun q2=>(Sum.elim (fun y3=>some (true,())) (fun q4=>(Empty.elim q4)) q2)) q0)))
noncomputable def laws_eqEvent (a0:Int) (a1:Int) (a2:Int) (a3:Int) (a4:Int) (a5:Int) (a6:Int) (a7:Int) (a8:Int) (a9:Int) (a10:Int) (a11:Int) (a12:Int) (a13:Int):Option (Bool×Unit):=
 (bif (rCmp .neq a0 a7) then some (false,()) else (bif (rCmp .neq a1 a8) then some (false,()) else (bif (rCmp .neq a2 a9) then some (false,()) else (bif (rCmp .neq a3 a10) then some (false,()) else (bif (rCmp .neq a4 a11) then some (false,()) else (bif (rCmp .neq a5 a12) then some (false,()) else (bif (rCmp .neq a6 a13) then some (false,()) else some (true,()))))))))
noncomputable def laws_eqEventS_b0 (k:(List (Int×Int×Int×Int×Int×Int×Int))×(List (Int×Int×Int×Int×Int×Int×Int))×Unit) (x:Int×Unit):Option ((Int×Unit) ⊕ (Bool×Unit ⊕ (Unit ⊕ Empty))):=
 (bif (rCmp .lss x.1 (rLen k.1)) then (bif (rInR k.1 x.1) then (bif (rInR k.2.1 x.1) then ((laws_eqEvent (rGet zIIIIIII k.1 x.1).1 (rGet zIIIIIII k.1 x.1).2.1 (rGet zIIIIIII k.1 x.1).2.2.1 (rGet zIIIIIII k.1 x.1).2.2.2.1 (rGet zIIIIIII k.1 x.1).2.2.2.2.1 (rGet zIIIIIII k.1 x.1).2.2.2.2.2.1 (rGet zIIIIIII k.1 x.1).2.2.2.2.2.2 (rGet zIIIIIII k.2.1 x.1).1 (rGet zIIIIIII k.2.1 x.1).2.1 (rGet zIIIIIII k.2.1 x.1).2.2.1 (rGet zIIIIIII k.2.1 x.1).2.2.2.1 (rGet zIIIIIII k.2.1 x.1).2.2.2.2.1 (rGet zIIIIIII k.2.1 x.1).2.2.2.2.2.1 (rGet zIIIIIII k.2.1 x.1).2.2.2.2.2.2).bind fun y0=>(bif (Bool.not y0.1) then some (.inr (.inl (false,()))) else some (.inl ((rArith .add .i64 x.1 (1:Int)),())))) else none) else none) else some (.inr (.inr (.inl (())))))
noncomputable def laws_eqEventS_l0 (k:(List (Int×Int×Int×Int×Int×Int×Int))×(List (Int×Int×Int×Int×Int×Int×Int))×Unit) (x:Int×Unit):Option (Bool×Unit ⊕ (Unit ⊕ Empty)):=iter (laws_eqEventS_b0 k) big x
noncomputable def laws_eqEventS (a0:(List (Int×Int×Int×Int×Int×Int×Int))) (a1:(List (Int×Int×Int×Int×Int×Int×Int))):Option (Bool×Unit):=
 (bif (rCmp .neq (rLen a0) (rLen a1)) then some (false,()) else ((laws_eqEventS_l0 (a0,a1,()) ((0:Int),())).bind fun q0=>(Sum.elim (fun y1=>some (y1.1,())) (fun q2=>(Sum.elim (fun y3=>some (true,())) (fun q4=>(Empty.elim q4)) q2)) q0)))
end Go.Fn
set_option linter.unusedVariables false
namespace Go.Fn
open Go.R
noncomputable def zI:Int:=(0:Int)
noncomputable def laws_eqIntS_b0 (k:(List (Int))×(List (Int))×Unit) (x:Int×Unit):Option ((Int×Unit) ⊕ (Bool×Unit ⊕ (Unit ⊕ Empty))):=
 (bif (rCmp .lss x.1 (rLen k.1)) then (bif (rInR k.1 x.1) then (bif (rInR k.2.1 x.1) then (bif (rCmp .neq (rGet zI k.1 x.1) (rGet zI k.2.1 x.1)) then some (.inr (.inl (false,()))) else some (.inl ((rArith .add .i64 x.1 (1:Int)),()))) else none) else none) else some (.inr (.inr (.inl (())))))
noncomputable def laws_eqIntS_l0 (k:(List (Int))×(List (Int))×Unit) (x:Int×Unit):Option (Bool×Unit ⊕ (Unit ⊕ Empty)):=iter (laws_eqIntS_b0 k) big x
noncomputable def laws_eqIntS (a0:(List (Int))) (a1:(List (Int))):Option (Bool×Unit):=
 (bif (rCmp .neq (rLen a0) (rLen a1)) then some (false,()) else ((laws_eqIntS_l0 (a0,a1,()) ((0:Int),())).bind fun q0=>(Sum.elim (fun y1=>some (y1.1,())) (fun q2=>(Sum.elim (fun y3=>some (true,())) (fun q4=>(Empty.elim q4)) q2)) q0)))
noncomputable def laws_toIntS_b0 (k:(List (Int))×Unit) (x:(List (Int))×Int×Unit):Option (((List (Int))×Int×Unit) ⊕ ((List (Int))×Unit ⊕ Empty)):=
 (bif (rCmp .lss x.2.1 (rLen k.1)) then (bif (rInR k.1 x.2.1) then (bif (rInR x.1 x.2.1) then some (.inl ((rPut x.1 x.2.1 (rGet zI k.1 x.2.1)),(rArith .add .i64 x.2.1 (1:Int)),())) else none) else none) else some (.inr (.inl (x.1,()))))
noncomputable def laws_toIntS_l0 (k:(List (Int))×Unit) (x:(List (Int))×Int×Unit):Option ((List (Int))×Unit ⊕ Empty):=iter (laws_toIntS_b0 k) big x
noncomputable def laws_toIntS (a0:(List (Int))):Option ((List (Int))×Unit):=
 (bif (rRepOk (rLen a0)) then ((laws_toIntS_l0 (a0,()) ((rRep (rLen a0) (0:Int)),(0:Int),())).bind fun q0=>(Sum.elim (fun y1=>some (y1.1,())) (fun q2=>(Empty.elim q2)) q0)) else none)
end Go.Fn
set_option linter.unusedVariables false
namespace Go.Fn
open Go.R
noncomputable def zLIl:List (Int):=([]:List (Int))
noncomputable def laws_szIntS (a0:(List (Int))) (a1:Int):Option (Int×Unit):=
 (bif (rCmp .lss (rArith .sub .i64 a1 (rLen a0)) (0:Int)) then some ((-1:Int),()) else some ((rArith .sub .i64 a1 (rLen a0)),()))
end Go.Fn
set_option linter.unusedVariables false
namespace Go.Fn
open Go.R
noncomputable def zII:Int×Int:=((0:Int),(0:Int))
noncomputable def laws_szSpanS (a0:(List (Int×Int))) (a1:Int):Option (Int×Unit):=
 (bif (rCmp .lss (rArith .sub .i64 a1 (rLen a0)) (0:Int)) then some ((-1:Int),()) else some ((rArith .sub .i64 a1 (rLen a0)),()))
noncomputable def laws_szWeek (a0:(List (Int×Int))) (a1:(List (Int×Int))) (a2:Int):Option (Int×Unit):=
 ((laws_szSpanS a0 a2).bind fun y0=>(bif (rCmp .lss y0.1 (0:Int)) then some ((-1:Int),()) else ((laws_szSpanS a1 y0.1).bind fun y1=>(bif (rCmp .lss y1.1 (0:Int)) then some ((-1:Int),()) else some (y1.1,())))))
noncomputable def laws_toSpan (a0:Int) (a1:Int):Option (Int×Int×Unit):=
 some (a0,a1,())
noncomputable def laws_toSpanS_b0 (k:(List (Int×Int))×Unit) (x:(List (Int×Int))×Int×Unit):Option (((List (Int×Int))×Int×Unit) ⊕ ((List (Int×Int))×Unit ⊕ Empty)):=
 (bif (rCmp .lss x.2.1 (rLen k.1)) then (bif (rInR k.1 x.2.1) then ((laws_toSpan (rGet zII k.1 x.2.1).1 (rGet zII k.1 x.2.1).2).bind fun y0=>(bif (rInR x.1 x.2.1) then some (.inl ((rPut x.1 x.2.1 (y0.1,y0.2.1)),(rArith .add .i64 x.2.1 (1:Int)),())) else none)) else none) else some (.inr (.inl (x.1,()))))
noncomputable def laws_toSpanS_l0 (k:(List (Int×Int))×Unit) (x:(List (Int×Int))×Int×Unit):Option ((List (Int×Int))×Unit ⊕ Empty):=iter (laws_toSpanS_b0 k) big x
noncomputable def laws_toSpanS (a0:(List (Int×Int))):Option ((List (Int×Int))×Unit):=
 (bif (rRepOk (rLen a0)) then ((laws_toSpanS_l0 (a0,()) ((rRep (rLen a0) ((0:Int),(0:Int))),(0:Int),())).bind fun q0=>(Sum.elim (fun y1=>some (y1.1,())) (fun q2=>(Empty.elim q2)) q0)) else none)
noncomputable def laws_toWeek (a0:(List (Int×Int))) (a1:(List (Int×Int))):Option ((List (Int×Int))×(List (Int×Int))×Unit):=
 ((laws_toSpanS a0).bind fun y0=>((laws_toSpanS a1).bind fun y1=>some (y0.1,y1.1,())))
noncomputable def laws_toTerms (a0:Int) (a1:Int) (a2:Int) (a3:Int) (a4:Int) (a5:Int) (a6:Int) (a7:Int):Option (Int×Int×Int×Int×Int×Int×Int×Int×Unit):=
 some (a0,a1,a2,a3,a4,a5,a6,a7,())
noncomputable def spec_SpansOk_b0 (k:(List (Int×Int))×Int×Unit) (x:Int×Unit):Option ((Int×Unit) ⊕ (Bool×Unit ⊕ (Unit ⊕ Empty))):=
 (bif (rCmp .lss x.1 (rLen k.1)) then (bif (rInR k.1 x.1) then (bif (rCmp .lss (rGet zII k.1 x.1).1 (0:Int)) then some (.inr (.inl (false,()))) else (bif (rCmp .geq (rGet zII k.1 x.1).1 (rGet zII k.1 x.1).2) then some (.inr (.inl (false,()))) else (bif (rCmp .gtr (rGet zII k.1 x.1).2 k.2.1) then some (.inr (.inl (false,()))) else (bif (rCmp .gtr x.1 (0:Int)) then (bif (rInR k.1 (rArith .sub .i64 x.1 (1:Int))) then (bif (rCmp .leq (rGet zII k.1 x.1).1 (rGet zII k.1 (rArith .sub .i64 x.1 (1:Int))).2) then some (.inr (.inl (false,()))) else some (.inl ((rArith .add .i64 x.1 (1:Int)),()))) else none) else some (.inl ((rArith .add .i64 x.1 (1:Int)),())))))) else none) else some (.inr (.inr (.inl (())))))
noncomputable def spec_SpansOk_l0 (k:(List (Int×Int))×Int×Unit) (x:Int×Unit):Option (Bool×Unit ⊕ (Unit ⊕ Empty)):=iter (spec_SpansOk_b0 k) big x
noncomputable def spec_SpansOk (a0:(List (Int×Int))) (a1:Int):Option (Bool×Unit):=
 (bif (rCmp .gtr (rLen a0) (20:Int)) then some (false,()) else ((spec_SpansOk_l0 (a0,a1,()) ((0:Int),())).bind fun q0=>(Sum.elim (fun y1=>some (y1.1,())) (fun q2=>(Sum.elim (fun y3=>some (true,())) (fun q4=>(Empty.elim q4)) q2)) q0)))
noncomputable def spec_WeekOk (a0:(List (Int×Int))) (a1:(List (Int×Int))):Option (Bool×Unit):=
 ((spec_SpansOk a0 (168:Int)).bind fun y0=>(bif y0.1 then ((spec_SpansOk a1 (20000:Int)).bind fun y1=>some (y1.1,())) else some (false,())))
noncomputable def spec_TermsOk (a0:Int) (a1:Int) (a2:Int) (a3:Int) (a4:Int) (a5:Int) (a6:Int) (a7:Int):Option (Bool×Unit):=
 ((spec_l01In a0 (1:Int) (2000:Int)).bind fun y0=>(bif y0.1 then ((spec_l01In a2 (1:Int) (2000:Int)).bind fun y1=>(bif y1.1 then ((spec_l01In a5 (1:Int) (2000:Int)).bind fun y2=>(bif y2.1 then ((spec_l01In a1 (0:Int) (2000:Int)).bind fun y3=>(bif y3.1 then ((spec_l01In a3 (0:Int) (10000:Int)).bind fun y4=>(bif y4.1 then ((spec_l01In a4 (0:Int) (1000000:Int)).bind fun y5=>(bif y5.1 then ((spec_l01In a6 (0:Int) (100000:Int)).bind fun y6=>(bif y6.1 then ((spec_l01In a7 (0:Int) (20:Int)).bind fun y7=>some (y7.1,())) else some (false,()))) else some (false,()))) else some (false,()))) else some (false,()))) else some (false,()))) else some (false,()))) else some (false,())))
noncomputable def impl_SpansOk_b0 (k:(List (Int×Int))×Int×(List (Int×Int))×Int×Unit) (x:Int×Unit):Option ((Int×Unit) ⊕ (Bool×Unit ⊕ (Unit ⊕ Empty))):=
 (bif (rCmp .lss x.1 k.2.2.2.1) then (bif (rInR k.2.2.1 x.1) then (bif (rCmp .lss (rGet zII k.2.2.1 x.1).1 (0:Int)) then some (.inr (.inl (false,()))) else (bif (rCmp .geq (rGet zII k.2.2.1 x.1).1 (rGet zII k.2.2.1 x.1).2) then some (.inr (.inl (false,()))) else (bif (rCmp .gtr (rGet zII k.2.2.1 x.1).2 k.2.1) then some (.inr (.inl (false,()))) else (bif (rCmp .gtr x.1 (0:Int)) then (bif (rInR k.1 (rArith .sub .i64 x.1 (1:Int))) then (bif (rCmp .leq (rGet zII k.2.2.1 x.1).1 (rGet zII k.1 (rArith .sub .i64 x.1 (1:Int))).2) then some (.inr (.inl (false,()))) else some (.inl ((rArith .add .i64 x.1 (1:Int)),()))) else none) else some (.inl ((rArith .add .i64 x.1 (1:Int)),())))))) else none) else some (.inr (.inr (.inl (())))))
noncomputable def impl_SpansOk_l0 (k:(List (Int×Int))×Int×(List (Int×Int))×Int×Unit) (x:Int×Unit):Option (Bool×Unit ⊕ (Unit ⊕ Empty)):=iter (impl_SpansOk_b0 k) big x
noncomputable def impl_SpansOk (a0:(List (Int×Int))) (a1:Int):Option (Bool×Unit):=
 (bif (rCmp .gtr (rLen a0) (20:Int)) then some (false,()) else ((impl_SpansOk_l0 (a0,a1,a0,(rLen a0),()) ((0:Int),())).bind fun q0=>(Sum.elim (fun y1=>some (y1.1,())) (fun q2=>(Sum.elim (fun y3=>some (true,())) (fun q4=>(Empty.elim q4)) q2)) q0)))
noncomputable def impl_WeekOk (a0:(List (Int×Int))) (a1:(List (Int×Int))):Option (Bool×Unit):=
 ((impl_SpansOk a0 (168:Int)).bind fun y0=>(bif y0.1 then ((impl_SpansOk a1 (20000:Int)).bind fun y1=>some (y1.1,())) else some (false,())))
noncomputable def impl_TermsOk (a0:Int) (a1:Int) (a2:Int) (a3:Int) (a4:Int) (a5:Int) (a6:Int) (a7:Int):Option (Bool×Unit):=
 ((impl_within a0 (1:Int) (2000:Int)).bind fun y0=>(bif y0.1 then ((impl_within a2 (1:Int) (2000:Int)).bind fun y1=>(bif y1.1 then ((impl_within a5 (1:Int) (2000:Int)).bind fun y2=>(bif y2.1 then ((impl_within a1 (0:Int) (2000:Int)).bind fun y3=>(bif y3.1 then ((impl_within a3 (0:Int) (10000:Int)).bind fun y4=>(bif y4.1 then ((impl_within a4 (0:Int) (1000000:Int)).bind fun y5=>(bif y5.1 then ((impl_within a6 (0:Int) (100000:Int)).bind fun y6=>(bif y6.1 then ((impl_within a7 (0:Int) (20:Int)).bind fun y7=>some (y7.1,())) else some (false,()))) else some (false,()))) else some (false,()))) else some (false,()))) else some (false,()))) else some (false,()))) else some (false,())))
noncomputable def laws_eqSpan (a0:Int) (a1:Int) (a2:Int) (a3:Int):Option (Bool×Unit):=
 (bif (rCmp .neq a0 a2) then some (false,()) else (bif (rCmp .neq a1 a3) then some (false,()) else some (true,())))
noncomputable def laws_eqSpanS_b0 (k:(List (Int×Int))×(List (Int×Int))×Unit) (x:Int×Unit):Option ((Int×Unit) ⊕ (Bool×Unit ⊕ (Unit ⊕ Empty))):=
 (bif (rCmp .lss x.1 (rLen k.1)) then (bif (rInR k.1 x.1) then (bif (rInR k.2.1 x.1) then ((laws_eqSpan (rGet zII k.1 x.1).1 (rGet zII k.1 x.1).2 (rGet zII k.2.1 x.1).1 (rGet zII k.2.1 x.1).2).bind fun y0=>(bif (Bool.not y0.1) then some (.inr (.inl (false,()))) else some (.inl ((rArith .add .i64 x.1 (1:Int)),())))) else none) else none) else some (.inr (.inr (.inl (())))))
noncomputable def laws_eqSpanS_l0 (k:(List (Int×Int))×(List (Int×Int))×Unit) (x:Int×Unit):Option (Bool×Unit ⊕ (Unit ⊕ Empty)):=iter (laws_eqSpanS_b0 k) big x
noncomputable def laws_eqSpanS (a0:(List (Int×Int))) (a1:(List (Int×Int))):Option (Bool×Unit):=
 (bif (rCmp .neq (rLen a0) (rLen a1)) then some (false,()) else ((laws_eqSpanS_l0 (a0,a1,()) ((0:Int),())).bind fun q0=>(Sum.elim (fun y1=>some (y1.1,())) (fun q2=>(Sum.elim (fun y3=>some (true,())) (fun q4=>(Empty.elim q4)) q2)) q0)))
noncomputable def laws_eqWeek (a0:(List (Int×Int))) (a1:(List (Int×Int))) (a2:(List (Int×Int))) (a3:(List (Int×Int))):Option (Bool×Unit):=
 ((laws_eqSpanS a0 a2).bind fun y0=>(bif (Bool.not y0.1) then some (false,()) else ((laws_eqSpanS a1 a3).bind fun y1=>(bif (Bool.not y1.1) then some (false,()) else some (true,())))))
end Go.Fn
set_option linter.unusedVariables false
namespace Go.Fn
open Go.R
noncomputable def laws_eqTerms (a0:Int) (a1:Int) (a2:Int) (a3:Int) (a4:Int) (a5:Int) (a6:Int) (a7:Int) (a8:Int) (a9:Int) (a10:Int) (a11:Int) (a12:Int) (a13:Int) (a14:Int) (a15:Int):Option (Bool×Unit):=
 (bif (rCmp .neq a0 a8) then some (false,()) else (bif (rCmp .neq a1 a9) then some (false,()) else (bif (rCmp .neq a2 a10) then some (false,()) else (bif (rCmp .neq a3 a11) then some (false,()) else (bif (rCmp .neq a4 a12) then some (false,()) else (bif (rCmp .neq a5 a13) then some (false,()) else (bif (rCmp .neq a6 a14) then some (false,()) else (bif (rCmp .neq a7 a15) then some (false,()) else some (true,())))))))))
end Go.Fn
set_option linter.unusedVariables false
namespace Go.Fn
open Go.R
noncomputable def zLIIlLIIlLILIlLIIIBllIIBBBIILIIIIIIIl:(List (Int×Int))×(List (Int×Int))×(List (Int×(List (Int))×List (Int×Int×Int×Bool)))×Int×Int×Bool×Bool×Bool×Int×Int×List (Int×Int×Int×Int×Int×Int×Int):=(([]:List (Int×Int)),([]:List (Int×Int)),([]:List (Int×(List (Int))×List (Int×Int×Int×Bool))),(0:Int),(0:Int),false,false,false,(0:Int),(0:Int),([]:List (Int×Int×Int×Int×Int×Int×Int)))
noncomputable def zIIIIIIIIIIIII:Int×Int×Int×Int×Int×Int×Int×Int×Int×Int×Int×Int×Int:=((0:Int),(0:Int),(0:Int),(0:Int),(0:Int),(0:Int),(0:Int),(0:Int),(0:Int),(0:Int),(0:Int),(0:Int),(0:Int))
noncomputable def zIIIIIIB:Int×Int×Int×Int×Int×Int×Bool:=((0:Int),(0:Int),(0:Int),(0:Int),(0:Int),(0:Int),false)
noncomputable def zILIlLIIIBl:Int×(List (Int))×List (Int×Int×Int×Bool):=((0:Int),([]:List (Int)),([]:List (Int×Int×Int×Bool)))
noncomputable def zIIIB:Int×Int×Int×Bool:=((0:Int),(0:Int),(0:Int),false)
noncomputable def laws_szBoxS (a0:(List (Int×Int×Int×Bool))) (a1:Int):Option (Int×Unit):=
 (bif (rCmp .lss (rArith .sub .i64 a1 (rLen a0)) (0:Int)) then some ((-1:Int),()) else some ((rArith .sub .i64 a1 (rLen a0)),()))
noncomputable def laws_szColumn (a0:Int) (a1:(List (Int))) (a2:(List (Int×Int×Int×Bool))) (a3:Int):Option (Int×Unit):=
 ((laws_szIntS a1 a3).bind fun y0=>(bif (rCmp .lss y0.1 (0:Int)) then some ((-1:Int),()) else ((laws_szBoxS a2 y0.1).bind fun y1=>(bif (rCmp .lss y1.1 (0:Int)) then some ((-1:Int),()) else some (y1.1,())))))
noncomputable def laws_szColumnS_b0 (k:(List (Int×(List (Int))×List (Int×Int×Int×Bool)))×Unit) (x:Int×Int×Unit):Option ((Int×Int×Unit) ⊕ (Int×Unit ⊕ (Int×Unit ⊕ Empty))):=
 (bif (rCmp .lss x.2.1 (rLen k.1)) then (bif (rInR k.1 x.2.1) then ((laws_szColumn (rGet zILIlLIIIBl k.1 x.2.1).1 (rGet zILIlLIIIBl k.1 x.2.1).2.1 (rGet zILIlLIIIBl k.1 x.2.1).2.2 x.1).bind fun y0=>(bif (rCmp .lss y0.1 (0:Int)) then some (.inr (.inl ((-1:Int),()))) else some (.inl (y0.1,(rArith .add .i64 x.2.1 (1:Int)),())))) else none) else some (.inr (.inr (.inl (x.1,())))))
noncomputable def laws_szColumnS_l0 (k:(List (Int×(List (Int))×List (Int×Int×Int×Bool)))×Unit) (x:Int×Int×Unit):Option (Int×Unit ⊕ (Int×Unit ⊕ Empty)):=iter (laws_szColumnS_b0 k) big x
noncomputable def laws_szColumnS (a0:(List (Int×(List (Int))×List (Int×Int×Int×Bool)))) (a1:Int):Option (Int×Unit):=
 (bif (rCmp .lss (rArith .sub .i64 a1 (rLen a0)) (0:Int)) then some ((-1:Int),()) else ((laws_szColumnS_l0 (a0,()) ((rArith .sub .i64 a1 (rLen a0)),(0:Int),())).bind fun q0=>(Sum.elim (fun y1=>some (y1.1,())) (fun q2=>(Sum.elim (fun y3=>some (y3.1,())) (fun q4=>(Empty.elim q4)) q2)) q0)))
noncomputable def laws_szSite (a0:(List (Int×Int))) (a1:(List (Int×Int))) (a2:(List (Int×(List (Int))×List (Int×Int×Int×Bool)))) (a3:Int) (a4:Int) (a5:Bool) (a6:Bool) (a7:Bool) (a8:Int) (a9:Int) (a10:(List (Int×Int×Int×Int×Int×Int×Int))) (a11:Int):Option (Int×Unit):=
 ((laws_szWeek a0 a1 a11).bind fun y0=>(bif (rCmp .lss y0.1 (0:Int)) then some ((-1:Int),()) else ((laws_szColumnS a2 y0.1).bind fun y1=>(bif (rCmp .lss y1.1 (0:Int)) then some ((-1:Int),()) else ((laws_szEventS a10 y1.1).bind fun y2=>(bif (rCmp .lss y2.1 (0:Int)) then some ((-1:Int),()) else some (y2.1,())))))))
noncomputable def laws_szSiteS_b0 (k:(List ((List (Int×Int))×(List (Int×Int))×(List (Int×(List (Int))×List (Int×Int×Int×Bool)))×Int×Int×Bool×Bool×Bool×Int×Int×List (Int×Int×Int×Int×Int×Int×Int)))×Unit) (x:Int×Int×Unit):Option ((Int×Int×Unit) ⊕ (Int×Unit ⊕ (Int×Unit ⊕ Empty))):=
 (bif (rCmp .lss x.2.1 (rLen k.1)) then (bif (rInR k.1 x.2.1) then ((laws_szSite (rGet zLIIlLIIlLILIlLIIIBllIIBBBIILIIIIIIIl k.1 x.2.1).1 (rGet zLIIlLIIlLILIlLIIIBllIIBBBIILIIIIIIIl k.1 x.2.1).2.1 (rGet zLIIlLIIlLILIlLIIIBllIIBBBIILIIIIIIIl k.1 x.2.1).2.2.1 (rGet zLIIlLIIlLILIlLIIIBllIIBBBIILIIIIIIIl k.1 x.2.1).2.2.2.1 (rGet zLIIlLIIlLILIlLIIIBllIIBBBIILIIIIIIIl k.1 x.2.1).2.2.2.2.1 (rGet zLIIlLIIlLILIlLIIIBllIIBBBIILIIIIIIIl k.1 x.2.1).2.2.2.2.2.1 (rGet zLIIlLIIlLILIlLIIIBllIIBBBIILIIIIIIIl k.1 x.2.1).2.2.2.2.2.2.1 (rGet zLIIlLIIlLILIlLIIIBllIIBBBIILIIIIIIIl k.1 x.2.1).2.2.2.2.2.2.2.1 (rGet zLIIlLIIlLILIlLIIIBllIIBBBIILIIIIIIIl k.1 x.2.1).2.2.2.2.2.2.2.2.1 (rGet zLIIlLIIlLILIlLIIIBllIIBBBIILIIIIIIIl k.1 x.2.1).2.2.2.2.2.2.2.2.2.1 (rGet zLIIlLIIlLILIlLIIIBllIIBBBIILIIIIIIIl k.1 x.2.1).2.2.2.2.2.2.2.2.2.2 x.1).bind fun y0=>(bif (rCmp .lss y0.1 (0:Int)) then some (.inr (.inl ((-1:Int),()))) else some (.inl (y0.1,(rArith .add .i64 x.2.1 (1:Int)),())))) else none) else some (.inr (.inr (.inl (x.1,())))))
noncomputable def laws_szSiteS_l0 (k:(List ((List (Int×Int))×(List (Int×Int))×(List (Int×(List (Int))×List (Int×Int×Int×Bool)))×Int×Int×Bool×Bool×Bool×Int×Int×List (Int×Int×Int×Int×Int×Int×Int)))×Unit) (x:Int×Int×Unit):Option (Int×Unit ⊕ (Int×Unit ⊕ Empty)):=iter (laws_szSiteS_b0 k) big x
noncomputable def laws_szSiteS (a0:(List ((List (Int×Int))×(List (Int×Int))×(List (Int×(List (Int))×List (Int×Int×Int×Bool)))×Int×Int×Bool×Bool×Bool×Int×Int×List (Int×Int×Int×Int×Int×Int×Int)))) (a1:Int):Option (Int×Unit):=
 (bif (rCmp .lss (rArith .sub .i64 a1 (rLen a0)) (0:Int)) then some ((-1:Int),()) else ((laws_szSiteS_l0 (a0,()) ((rArith .sub .i64 a1 (rLen a0)),(0:Int),())).bind fun q0=>(Sum.elim (fun y1=>some (y1.1,())) (fun q2=>(Sum.elim (fun y3=>some (y3.1,())) (fun q4=>(Empty.elim q4)) q2)) q0)))
noncomputable def laws_szParcelS (a0:(List (Int×Int×Int×Int×Int×Int×Int×Int×Int×Int×Int×Int×Int))) (a1:Int):Option (Int×Unit):=
 (bif (rCmp .lss (rArith .sub .i64 a1 (rLen a0)) (0:Int)) then some ((-1:Int),()) else some ((rArith .sub .i64 a1 (rLen a0)),()))
noncomputable def laws_szGrantS (a0:(List (Int×Int×Int×Int×Int×Int×Bool))) (a1:Int):Option (Int×Unit):=
 (bif (rCmp .lss (rArith .sub .i64 a1 (rLen a0)) (0:Int)) then some ((-1:Int),()) else some ((rArith .sub .i64 a1 (rLen a0)),()))
noncomputable def laws_szNetwork (a0:Int) (a1:Int) (a2:Int) (a3:Int) (a4:Int) (a5:Int) (a6:Int) (a7:Int) (a8:Int) (a9:Int) (a10:Int) (a11:(List ((List (Int×Int))×(List (Int×Int))×(List (Int×(List (Int))×List (Int×Int×Int×Bool)))×Int×Int×Bool×Bool×Bool×Int×Int×List (Int×Int×Int×Int×Int×Int×Int)))) (a12:(List (Int×Int×Int×Int×Int×Int×Int×Int×Int×Int×Int×Int×Int))) (a13:(List (Int×Int×Int×Int×Int×Int×Bool))) (a14:(List (Int×Int×Int×Int×Int×Int×Int))) (a15:Int):Option (Int×Unit):=
 ((laws_szSiteS a11 a15).bind fun y0=>(bif (rCmp .lss y0.1 (0:Int)) then some ((-1:Int),()) else ((laws_szParcelS a12 y0.1).bind fun y1=>(bif (rCmp .lss y1.1 (0:Int)) then some ((-1:Int),()) else ((laws_szGrantS a13 y1.1).bind fun y2=>(bif (rCmp .lss y2.1 (0:Int)) then some ((-1:Int),()) else ((laws_szEventS a14 y2.1).bind fun y3=>(bif (rCmp .lss y3.1 (0:Int)) then some ((-1:Int),()) else some (y3.1,())))))))))
noncomputable def laws_toBox (a0:Int) (a1:Int) (a2:Int) (a3:Bool):Option (Int×Int×Int×Bool×Unit):=
 some (a0,a1,a2,a3,())
noncomputable def laws_toBoxS_b0 (k:(List (Int×Int×Int×Bool))×Unit) (x:(List (Int×Int×Int×Bool))×Int×Unit):Option (((List (Int×Int×Int×Bool))×Int×Unit) ⊕ ((List (Int×Int×Int×Bool))×Unit ⊕ Empty)):=
 (bif (rCmp .lss x.2.1 (rLen k.1)) then (bif (rInR k.1 x.2.1) then ((laws_toBox (rGet zIIIB k.1 x.2.1).1 (rGet zIIIB k.1 x.2.1).2.1 (rGet zIIIB k.1 x.2.1).2.2.1 (rGet zIIIB k.1 x.2.1).2.2.2).bind fun y0=>(bif (rInR x.1 x.2.1) then some (.inl ((rPut x.1 x.2.1 (y0.1,y0.2.1,y0.2.2.1,y0.2.2.2.1)),(rArith .add .i64 x.2.1 (1:Int)),())) else none)) else none) else some (.inr (.inl (x.1,()))))
noncomputable def laws_toBoxS_l0 (k:(List (Int×Int×Int×Bool))×Unit) (x:(List (Int×Int×Int×Bool))×Int×Unit):Option ((List (Int×Int×Int×Bool))×Unit ⊕ Empty):=iter (laws_toBoxS_b0 k) big x
noncomputable def laws_toBoxS (a0:(List (Int×Int×Int×Bool))):Option ((List (Int×Int×Int×Bool))×Unit):=
 (bif (rRepOk (rLen a0)) then ((laws_toBoxS_l0 (a0,()) ((rRep (rLen a0) ((0:Int),(0:Int),(0:Int),false)),(0:Int),())).bind fun q0=>(Sum.elim (fun y1=>some (y1.1,())) (fun q2=>(Empty.elim q2)) q0)) else none)
noncomputable def laws_toColumn (a0:Int) (a1:(List (Int))) (a2:(List (Int×Int×Int×Bool))):Option (Int×(List (Int))×(List (Int×Int×Int×Bool))×Unit):=
 ((laws_toIntS a1).bind fun y0=>((laws_toBoxS a2).bind fun y1=>some (a0,y0.1,y1.1,())))
noncomputable def laws_toColumnS_b0 (k:(List (Int×(List (Int))×List (Int×Int×Int×Bool)))×Unit) (x:(List (Int×(List (Int))×List (Int×Int×Int×Bool)))×Int×Unit):Option (((List (Int×(List (Int))×List (Int×Int×Int×Bool)))×Int×Unit) ⊕ ((List (Int×(List (Int))×List (Int×Int×Int×Bool)))×Unit ⊕ Empty)):=
 (bif (rCmp .lss x.2.1 (rLen k.1)) then (bif (rInR k.1 x.2.1) then ((laws_toColumn (rGet zILIlLIIIBl k.1 x.2.1).1 (rGet zILIlLIIIBl k.1 x.2.1).2.1 (rGet zILIlLIIIBl k.1 x.2.1).2.2).bind fun y0=>(bif (rInR x.1 x.2.1) then some (.inl ((rPut x.1 x.2.1 (y0.1,y0.2.1,y0.2.2.1)),(rArith .add .i64 x.2.1 (1:Int)),())) else none)) else none) else some (.inr (.inl (x.1,()))))
noncomputable def laws_toColumnS_l0 (k:(List (Int×(List (Int))×List (Int×Int×Int×Bool)))×Unit) (x:(List (Int×(List (Int))×List (Int×Int×Int×Bool)))×Int×Unit):Option ((List (Int×(List (Int))×List (Int×Int×Int×Bool)))×Unit ⊕ Empty):=iter (laws_toColumnS_b0 k) big x
noncomputable def laws_toColumnS (a0:(List (Int×(List (Int))×List (Int×Int×Int×Bool)))):Option ((List (Int×(List (Int))×List (Int×Int×Int×Bool)))×Unit):=
 (bif (rRepOk (rLen a0)) then ((laws_toColumnS_l0 (a0,()) ((rRep (rLen a0) ((0:Int),([]:List (Int)),([]:List (Int×Int×Int×Bool)))),(0:Int),())).bind fun q0=>(Sum.elim (fun y1=>some (y1.1,())) (fun q2=>(Empty.elim q2)) q0)) else none)
noncomputable def laws_toDoor (a0:Int) (a1:Int) (a2:Bool) (a3:Bool) (a4:Bool):Option (Int×Int×Bool×Bool×Bool×Unit):=
 some (a0,a1,a2,a3,a4,())
noncomputable def laws_toSite (a0:(List (Int×Int))) (a1:(List (Int×Int))) (a2:(List (Int×(List (Int))×List (Int×Int×Int×Bool)))) (a3:Int) (a4:Int) (a5:Bool) (a6:Bool) (a7:Bool) (a8:Int) (a9:Int) (a10:(List (Int×Int×Int×Int×Int×Int×Int))):Option ((List (Int×Int))×(List (Int×Int))×(List (Int×(List (Int))×List (Int×Int×Int×Bool)))×Int×Int×Bool×Bool×Bool×Int×Int×(List (Int×Int×Int×Int×Int×Int×Int))×Unit):=
 ((laws_toWeek a0 a1).bind fun y0=>((laws_toColumnS a2).bind fun y1=>((laws_toDoor a3 a4 a5 a6 a7).bind fun y2=>((laws_toEventS a10).bind fun y3=>some (y0.1,y0.2.1,y1.1,y2.1,y2.2.1,y2.2.2.1,y2.2.2.2.1,y2.2.2.2.2.1,a8,a9,y3.1,())))))
noncomputable def laws_toSiteS_b0 (k:(List ((List (Int×Int))×(List (Int×Int))×(List (Int×(List (Int))×List (Int×Int×Int×Bool)))×Int×Int×Bool×Bool×Bool×Int×Int×List (Int×Int×Int×Int×Int×Int×Int)))×Unit) (x:(List ((List (Int×Int))×(List (Int×Int))×(List (Int×(List (Int))×List (Int×Int×Int×Bool)))×Int×Int×Bool×Bool×Bool×Int×Int×List (Int×Int×Int×Int×Int×Int×Int)))×Int×Unit):Option (((List ((List (Int×Int))×(List (Int×Int))×(List (Int×(List (Int))×List (Int×Int×Int×Bool)))×Int×Int×Bool×Bool×Bool×Int×Int×List (Int×Int×Int×Int×Int×Int×Int)))×Int×Unit) ⊕ ((List ((List (Int×Int))×(List (Int×Int))×(List (Int×(List (Int))×List (Int×Int×Int×Bool)))×Int×Int×Bool×Bool×Bool×Int×Int×List (Int×Int×Int×Int×Int×Int×Int)))×Unit ⊕ Empty)):=
 (bif (rCmp .lss x.2.1 (rLen k.1)) then (bif (rInR k.1 x.2.1) then ((laws_toSite (rGet zLIIlLIIlLILIlLIIIBllIIBBBIILIIIIIIIl k.1 x.2.1).1 (rGet zLIIlLIIlLILIlLIIIBllIIBBBIILIIIIIIIl k.1 x.2.1).2.1 (rGet zLIIlLIIlLILIlLIIIBllIIBBBIILIIIIIIIl k.1 x.2.1).2.2.1 (rGet zLIIlLIIlLILIlLIIIBllIIBBBIILIIIIIIIl k.1 x.2.1).2.2.2.1 (rGet zLIIlLIIlLILIlLIIIBllIIBBBIILIIIIIIIl k.1 x.2.1).2.2.2.2.1 (rGet zLIIlLIIlLILIlLIIIBllIIBBBIILIIIIIIIl k.1 x.2.1).2.2.2.2.2.1 (rGet zLIIlLIIlLILIlLIIIBllIIBBBIILIIIIIIIl k.1 x.2.1).2.2.2.2.2.2.1 (rGet zLIIlLIIlLILIlLIIIBllIIBBBIILIIIIIIIl k.1 x.2.1).2.2.2.2.2.2.2.1 (rGet zLIIlLIIlLILIlLIIIBllIIBBBIILIIIIIIIl k.1 x.2.1).2.2.2.2.2.2.2.2.1 (rGet zLIIlLIIlLILIlLIIIBllIIBBBIILIIIIIIIl k.1 x.2.1).2.2.2.2.2.2.2.2.2.1 (rGet zLIIlLIIlLILIlLIIIBllIIBBBIILIIIIIIIl k.1 x.2.1).2.2.2.2.2.2.2.2.2.2).bind fun y0=>(bif (rInR x.1 x.2.1) then (lets (rPut x.1 x.2.1 (y0.1,y0.2.1,y0.2.2.1,y0.2.2.2.1,y0.2.2.2.2.1,y0.2.2.2.2.2.1,y0.2.2.2.2.2.2.1,y0.2.2.2.2.2.2.2.1,y0.2.2.2.2.2.2.2.2.1,y0.2.2.2.2.2.2.2.2.2.1,y0.2.2.2.2.2.2.2.2.2.2.1)) fun v1=>some (.inl (v1,(rArith .add .i64 x.2.1 (1:Int)),()))) else none)) else none) else some (.inr (.inl (x.1,()))))
noncomputable def laws_toSiteS_l0 (k:(List ((List (Int×Int))×(List (Int×Int))×(List (Int×(List (Int))×List (Int×Int×Int×Bool)))×Int×Int×Bool×Bool×Bool×Int×Int×List (Int×Int×Int×Int×Int×Int×Int)))×Unit) (x:(List ((List (Int×Int))×(List (Int×Int))×(List (Int×(List (Int))×List (Int×Int×Int×Bool)))×Int×Int×Bool×Bool×Bool×Int×Int×List (Int×Int×Int×Int×Int×Int×Int)))×Int×Unit):Option ((List ((List (Int×Int))×(List (Int×Int))×(List (Int×(List (Int))×List (Int×Int×Int×Bool)))×Int×Int×Bool×Bool×Bool×Int×Int×List (Int×Int×Int×Int×Int×Int×Int)))×Unit ⊕ Empty):=iter (laws_toSiteS_b0 k) big x
noncomputable def laws_toSiteS (a0:(List ((List (Int×Int))×(List (Int×Int))×(List (Int×(List (Int))×List (Int×Int×Int×Bool)))×Int×Int×Bool×Bool×Bool×Int×Int×List (Int×Int×Int×Int×Int×Int×Int)))):Option ((List ((List (Int×Int))×(List (Int×Int))×(List (Int×(List (Int))×List (Int×Int×Int×Bool)))×Int×Int×Bool×Bool×Bool×Int×Int×List (Int×Int×Int×Int×Int×Int×Int)))×Unit):=
 (bif (rRepOk (rLen a0)) then ((laws_toSiteS_l0 (a0,()) ((rRep (rLen a0) (([]:List (Int×Int)),([]:List (Int×Int)),([]:List (Int×(List (Int))×List (Int×Int×Int×Bool))),(0:Int),(0:Int),false,false,false,(0:Int),(0:Int),([]:List (Int×Int×Int×Int×Int×Int×Int)))),(0:Int),())).bind fun q0=>(Sum.elim (fun y1=>some (y1.1,())) (fun q2=>(Empty.elim q2)) q0)) else none)
noncomputable def laws_toLock (a0:Int) (a1:Int) (a2:Int) (a3:Int) (a4:Int):Option (Int×Int×Int×Int×Int×Unit):=
 some (a0,a1,a2,a3,a4,())
noncomputable def laws_toParcel (a0:Int) (a1:Int) (a2:Int) (a3:Int) (a4:Int) (a5:Int) (a6:Int) (a7:Int) (a8:Int) (a9:Int) (a10:Int) (a11:Int) (a12:Int):Option (Int×Int×Int×Int×Int×Int×Int×Int×Int×Int×Int×Int×Int×Unit):=
 ((laws_toLock a6 a7 a8 a9 a10).bind fun y0=>some (a0,a1,a2,a3,a4,a5,y0.1,y0.2.1,y0.2.2.1,y0.2.2.2.1,y0.2.2.2.2.1,a11,a12,()))
noncomputable def laws_toParcelS_b0 (k:(List (Int×Int×Int×Int×Int×Int×Int×Int×Int×Int×Int×Int×Int))×Unit) (x:(List (Int×Int×Int×Int×Int×Int×Int×Int×Int×Int×Int×Int×Int))×Int×Unit):Option (((List (Int×Int×Int×Int×Int×Int×Int×Int×Int×Int×Int×Int×Int))×Int×Unit) ⊕ ((List (Int×Int×Int×Int×Int×Int×Int×Int×Int×Int×Int×Int×Int))×Unit ⊕ Empty)):=
 (bif (rCmp .lss x.2.1 (rLen k.1)) then (bif (rInR k.1 x.2.1) then ((laws_toParcel (rGet zIIIIIIIIIIIII k.1 x.2.1).1 (rGet zIIIIIIIIIIIII k.1 x.2.1).2.1 (rGet zIIIIIIIIIIIII k.1 x.2.1).2.2.1 (rGet zIIIIIIIIIIIII k.1 x.2.1).2.2.2.1 (rGet zIIIIIIIIIIIII k.1 x.2.1).2.2.2.2.1 (rGet zIIIIIIIIIIIII k.1 x.2.1).2.2.2.2.2.1 (rGet zIIIIIIIIIIIII k.1 x.2.1).2.2.2.2.2.2.1 (rGet zIIIIIIIIIIIII k.1 x.2.1).2.2.2.2.2.2.2.1 (rGet zIIIIIIIIIIIII k.1 x.2.1).2.2.2.2.2.2.2.2.1 (rGet zIIIIIIIIIIIII k.1 x.2.1).2.2.2.2.2.2.2.2.2.1 (rGet zIIIIIIIIIIIII k.1 x.2.1).2.2.2.2.2.2.2.2.2.2.1 (rGet zIIIIIIIIIIIII k.1 x.2.1).2.2.2.2.2.2.2.2.2.2.2.1 (rGet zIIIIIIIIIIIII k.1 x.2.1).2.2.2.2.2.2.2.2.2.2.2.2).bind fun y0=>(bif (rInR x.1 x.2.1) then (lets (rPut x.1 x.2.1 (y0.1,y0.2.1,y0.2.2.1,y0.2.2.2.1,y0.2.2.2.2.1,y0.2.2.2.2.2.1,y0.2.2.2.2.2.2.1,y0.2.2.2.2.2.2.2.1,y0.2.2.2.2.2.2.2.2.1,y0.2.2.2.2.2.2.2.2.2.1,y0.2.2.2.2.2.2.2.2.2.2.1,y0.2.2.2.2.2.2.2.2.2.2.2.1,y0.2.2.2.2.2.2.2.2.2.2.2.2.1)) fun v1=>some (.inl (v1,(rArith .add .i64 x.2.1 (1:Int)),()))) else none)) else none) else some (.inr (.inl (x.1,()))))
noncomputable def laws_toParcelS_l0 (k:(List (Int×Int×Int×Int×Int×Int×Int×Int×Int×Int×Int×Int×Int))×Unit) (x:(List (Int×Int×Int×Int×Int×Int×Int×Int×Int×Int×Int×Int×Int))×Int×Unit):Option ((List (Int×Int×Int×Int×Int×Int×Int×Int×Int×Int×Int×Int×Int))×Unit ⊕ Empty):=iter (laws_toParcelS_b0 k) big x
noncomputable def laws_toParcelS (a0:(List (Int×Int×Int×Int×Int×Int×Int×Int×Int×Int×Int×Int×Int))):Option ((List (Int×Int×Int×Int×Int×Int×Int×Int×Int×Int×Int×Int×Int))×Unit):=
 (bif (rRepOk (rLen a0)) then ((laws_toParcelS_l0 (a0,()) ((rRep (rLen a0) ((0:Int),(0:Int),(0:Int),(0:Int),(0:Int),(0:Int),(0:Int),(0:Int),(0:Int),(0:Int),(0:Int),(0:Int),(0:Int))),(0:Int),())).bind fun q0=>(Sum.elim (fun y1=>some (y1.1,())) (fun q2=>(Empty.elim q2)) q0)) else none)
noncomputable def laws_toGrant (a0:Int) (a1:Int) (a2:Int) (a3:Int) (a4:Int) (a5:Int) (a6:Bool):Option (Int×Int×Int×Int×Int×Int×Bool×Unit):=
 some (a0,a1,a2,a3,a4,a5,a6,())
noncomputable def laws_toGrantS_b0 (k:(List (Int×Int×Int×Int×Int×Int×Bool))×Unit) (x:(List (Int×Int×Int×Int×Int×Int×Bool))×Int×Unit):Option (((List (Int×Int×Int×Int×Int×Int×Bool))×Int×Unit) ⊕ ((List (Int×Int×Int×Int×Int×Int×Bool))×Unit ⊕ Empty)):=
 (bif (rCmp .lss x.2.1 (rLen k.1)) then (bif (rInR k.1 x.2.1) then ((laws_toGrant (rGet zIIIIIIB k.1 x.2.1).1 (rGet zIIIIIIB k.1 x.2.1).2.1 (rGet zIIIIIIB k.1 x.2.1).2.2.1 (rGet zIIIIIIB k.1 x.2.1).2.2.2.1 (rGet zIIIIIIB k.1 x.2.1).2.2.2.2.1 (rGet zIIIIIIB k.1 x.2.1).2.2.2.2.2.1 (rGet zIIIIIIB k.1 x.2.1).2.2.2.2.2.2).bind fun y0=>(bif (rInR x.1 x.2.1) then some (.inl ((rPut x.1 x.2.1 (y0.1,y0.2.1,y0.2.2.1,y0.2.2.2.1,y0.2.2.2.2.1,y0.2.2.2.2.2.1,y0.2.2.2.2.2.2.1)),(rArith .add .i64 x.2.1 (1:Int)),())) else none)) else none) else some (.inr (.inl (x.1,()))))
noncomputable def laws_toGrantS_l0 (k:(List (Int×Int×Int×Int×Int×Int×Bool))×Unit) (x:(List (Int×Int×Int×Int×Int×Int×Bool))×Int×Unit):Option ((List (Int×Int×Int×Int×Int×Int×Bool))×Unit ⊕ Empty):=iter (laws_toGrantS_b0 k) big x
noncomputable def laws_toGrantS (a0:(List (Int×Int×Int×Int×Int×Int×Bool))):Option ((List (Int×Int×Int×Int×Int×Int×Bool))×Unit):=
 (bif (rRepOk (rLen a0)) then ((laws_toGrantS_l0 (a0,()) ((rRep (rLen a0) ((0:Int),(0:Int),(0:Int),(0:Int),(0:Int),(0:Int),false)),(0:Int),())).bind fun q0=>(Sum.elim (fun y1=>some (y1.1,())) (fun q2=>(Empty.elim q2)) q0)) else none)
noncomputable def laws_toNetwork (a0:Int) (a1:Int) (a2:Int) (a3:Int) (a4:Int) (a5:Int) (a6:Int) (a7:Int) (a8:Int) (a9:Int) (a10:Int) (a11:(List ((List (Int×Int))×(List (Int×Int))×(List (Int×(List (Int))×List (Int×Int×Int×Bool)))×Int×Int×Bool×Bool×Bool×Int×Int×List (Int×Int×Int×Int×Int×Int×Int)))) (a12:(List (Int×Int×Int×Int×Int×Int×Int×Int×Int×Int×Int×Int×Int))) (a13:(List (Int×Int×Int×Int×Int×Int×Bool))) (a14:(List (Int×Int×Int×Int×Int×Int×Int))):Option (Int×Int×Int×Int×Int×Int×Int×Int×Int×Int×Int×(List ((List (Int×Int))×(List (Int×Int))×(List (Int×(List (Int))×List (Int×Int×Int×Bool)))×Int×Int×Bool×Bool×Bool×Int×Int×List (Int×Int×Int×Int×Int×Int×Int)))×(List (Int×Int×Int×Int×Int×Int×Int×Int×Int×Int×Int×Int×Int))×(List (Int×Int×Int×Int×Int×Int×Bool))×(List (Int×Int×Int×Int×Int×Int×Int))×Unit):=
 ((laws_toTerms a0 a1 a2 a3 a4 a5 a6 a7).bind fun y0=>((laws_toSiteS a11).bind fun y1=>((laws_toParcelS a12).bind fun y2=>((laws_toGrantS a13).bind fun y3=>((laws_toEventS a14).bind fun y4=>some (y0.1,y0.2.1,y0.2.2.1,y0.2.2.2.1,y0.2.2.2.2.1,y0.2.2.2.2.2.1,y0.2.2.2.2.2.2.1,y0.2.2.2.2.2.2.2.1,a8,a9,a10,y1.1,y2.1,y3.1,y4.1,()))))))
noncomputable def spec_l03Secret (a0:Int):Option (Bool×Unit):=
 ((spec_l01In a0 (1:Int) (2147483646:Int)).bind fun y0=>some (y0.1,()))
noncomputable def spec_SecretOf (a0:Int) (a1:Int) (a2:Int) (a3:Int) (a4:Int) (a5:Int) (a6:Int) (a7:Int) (a8:Int) (a9:Int) (a10:Int) (a11:(List ((List (Int×Int))×(List (Int×Int))×(List (Int×(List (Int))×List (Int×Int×Int×Bool)))×Int×Int×Bool×Bool×Bool×Int×Int×List (Int×Int×Int×Int×Int×Int×Int)))) (a12:(List (Int×Int×Int×Int×Int×Int×Int×Int×Int×Int×Int×Int×Int))) (a13:(List (Int×Int×Int×Int×Int×Int×Bool))) (a14:(List (Int×Int×Int×Int×Int×Int×Int))) (a15:Int):Option (Int×Unit):=
 ((spec_l03Secret a9).bind fun y0=>(bif (Bool.not y0.1) then some ((0:Int),()) else ((spec_l01In a15 (1:Int) (12:Int)).bind fun y1=>(bif (Bool.not y1.1) then some ((0:Int),()) else (bif (rIsZero (2147483646:Int)) then none else some ((rArith .add .i64 (rArith .rem .i64 (rArith .add .i64 a9 (rArith .mul .i64 (7919:Int) a15)) (2147483646:Int)) (1:Int)),()))))))
noncomputable def impl_secretOk (a0:Int):Option (Bool×Unit):=
 ((impl_within a0 (1:Int) (2147483646:Int)).bind fun y0=>some (y0.1,()))
noncomputable def impl_SecretOf (a0:Int) (a1:Int) (a2:Int) (a3:Int) (a4:Int) (a5:Int) (a6:Int) (a7:Int) (a8:Int) (a9:Int) (a10:Int) (a11:(List ((List (Int×Int))×(List (Int×Int))×(List (Int×(List (Int))×List (Int×Int×Int×Bool)))×Int×Int×Bool×Bool×Bool×Int×Int×List (Int×Int×Int×Int×Int×Int×Int)))) (a12:(List (Int×Int×Int×Int×Int×Int×Int×Int×Int×Int×Int×Int×Int))) (a13:(List (Int×Int×Int×Int×Int×Int×Bool))) (a14:(List (Int×Int×Int×Int×Int×Int×Int))) (a15:Int):Option (Int×Unit):=
 ((impl_secretOk a9).bind fun y0=>(bif (Bool.not y0.1) then some ((0:Int),()) else ((impl_within a15 (1:Int) (12:Int)).bind fun y1=>(bif (Bool.not y1.1) then some ((0:Int),()) else (bif (rIsZero (2147483646:Int)) then none else some ((rArith .add .i64 (rArith .rem .i64 (rArith .add .i64 a9 (rArith .mul .i64 (7919:Int) a15)) (2147483646:Int)) (1:Int)),()))))))
noncomputable def laws_eqBox (a0:Int) (a1:Int) (a2:Int) (a3:Bool) (a4:Int) (a5:Int) (a6:Int) (a7:Bool):Option (Bool×Unit):=
 (bif (rCmp .neq a0 a4) then some (false,()) else (bif (rCmp .neq a1 a5) then some (false,()) else (bif (rCmp .neq a2 a6) then some (false,()) else (bif (Bool.not (rBeq a3 a7)) then some (false,()) else some (true,())))))
noncomputable def laws_eqBoxS_b0 (k:(List (Int×Int×Int×Bool))×(List (Int×Int×Int×Bool))×Unit) (x:Int×Unit):Option ((Int×Unit) ⊕ (Bool×Unit ⊕ (Unit ⊕ Empty))):=
 (bif (rCmp .lss x.1 (rLen k.1)) then (bif (rInR k.1 x.1) then (bif (rInR k.2.1 x.1) then ((laws_eqBox (rGet zIIIB k.1 x.1).1 (rGet zIIIB k.1 x.1).2.1 (rGet zIIIB k.1 x.1).2.2.1 (rGet zIIIB k.1 x.1).2.2.2 (rGet zIIIB k.2.1 x.1).1 (rGet zIIIB k.2.1 x.1).2.1 (rGet zIIIB k.2.1 x.1).2.2.1 (rGet zIIIB k.2.1 x.1).2.2.2).bind fun y0=>(bif (Bool.not y0.1) then some (.inr (.inl (false,()))) else some (.inl ((rArith .add .i64 x.1 (1:Int)),())))) else none) else none) else some (.inr (.inr (.inl (())))))
noncomputable def laws_eqBoxS_l0 (k:(List (Int×Int×Int×Bool))×(List (Int×Int×Int×Bool))×Unit) (x:Int×Unit):Option (Bool×Unit ⊕ (Unit ⊕ Empty)):=iter (laws_eqBoxS_b0 k) big x
noncomputable def laws_eqBoxS (a0:(List (Int×Int×Int×Bool))) (a1:(List (Int×Int×Int×Bool))):Option (Bool×Unit):=
 (bif (rCmp .neq (rLen a0) (rLen a1)) then some (false,()) else ((laws_eqBoxS_l0 (a0,a1,()) ((0:Int),())).bind fun q0=>(Sum.elim (fun y1=>some (y1.1,())) (fun q2=>(Sum.elim (fun y3=>some (true,())) (fun q4=>(Empty.elim q4)) q2)) q0)))
noncomputable def laws_eqColumn (a0:Int) (a1:(List (Int))) (a2:(List (Int×Int×Int×Bool))) (a3:Int) (a4:(List (Int))) (a5:(List (Int×Int×Int×Bool))):Option (Bool×Unit):=
 (bif (rCmp .neq a0 a3) then some (false,()) else ((laws_eqIntS a1 a4).bind fun y0=>(bif (Bool.not y0.1) then some (false,()) else ((laws_eqBoxS a2 a5).bind fun y1=>(bif (Bool.not y1.1) then some (false,()) else some (true,()))))))
noncomputable def laws_eqColumnS_b0 (k:(List (Int×(List (Int))×List (Int×Int×Int×Bool)))×(List (Int×(List (Int))×List (Int×Int×Int×Bool)))×Unit) (x:Int×Unit):Option ((Int×Unit) ⊕ (Bool×Unit ⊕ (Unit ⊕ Empty))):=
 (bif (rCmp .lss x.1 (rLen k.1)) then (bif (rInR k.1 x.1) then (bif (rInR k.2.1 x.1) then ((laws_eqColumn (rGet zILIlLIIIBl k.1 x.1).1 (rGet zILIlLIIIBl k.1 x.1).2.1 (rGet zILIlLIIIBl k.1 x.1).2.2 (rGet zILIlLIIIBl k.2.1 x.1).1 (rGet zILIlLIIIBl k.2.1 x.1).2.1 (rGet zILIlLIIIBl k.2.1 x.1).2.2).bind fun y0=>(bif (Bool.not y0.1) then some (.inr (.inl (false,()))) else some (.inl ((rArith .add .i64 x.1 (1:Int)),())))) else none) else none) else some (.inr (.inr (.inl (())))))
noncomputable def laws_eqColumnS_l0 (k:(List (Int×(List (Int))×List (Int×Int×Int×Bool)))×(List (Int×(List (Int))×List (Int×Int×Int×Bool)))×Unit) (x:Int×Unit):Option (Bool×Unit ⊕ (Unit ⊕ Empty)):=iter (laws_eqColumnS_b0 k) big x
noncomputable def laws_eqColumnS (a0:(List (Int×(List (Int))×List (Int×Int×Int×Bool)))) (a1:(List (Int×(List (Int))×List (Int×Int×Int×Bool)))):Option (Bool×Unit):=
 (bif (rCmp .neq (rLen a0) (rLen a1)) then some (false,()) else ((laws_eqColumnS_l0 (a0,a1,()) ((0:Int),())).bind fun q0=>(Sum.elim (fun y1=>some (y1.1,())) (fun q2=>(Sum.elim (fun y3=>some (true,())) (fun q4=>(Empty.elim q4)) q2)) q0)))
noncomputable def laws_eqDoor (a0:Int) (a1:Int) (a2:Bool) (a3:Bool) (a4:Bool) (a5:Int) (a6:Int) (a7:Bool) (a8:Bool) (a9:Bool):Option (Bool×Unit):=
 (bif (rCmp .neq a0 a5) then some (false,()) else (bif (rCmp .neq a1 a6) then some (false,()) else (bif (Bool.not (rBeq a2 a7)) then some (false,()) else (bif (Bool.not (rBeq a3 a8)) then some (false,()) else (bif (Bool.not (rBeq a4 a9)) then some (false,()) else some (true,()))))))
noncomputable def laws_eqSite (a0:(List (Int×Int))) (a1:(List (Int×Int))) (a2:(List (Int×(List (Int))×List (Int×Int×Int×Bool)))) (a3:Int) (a4:Int) (a5:Bool) (a6:Bool) (a7:Bool) (a8:Int) (a9:Int) (a10:(List (Int×Int×Int×Int×Int×Int×Int))) (a11:(List (Int×Int))) (a12:(List (Int×Int))) (a13:(List (Int×(List (Int))×List (Int×Int×Int×Bool)))) (a14:Int) (a15:Int) (a16:Bool) (a17:Bool) (a18:Bool) (a19:Int) (a20:Int) (a21:(List (Int×Int×Int×Int×Int×Int×Int))):Option (Bool×Unit):=
 ((laws_eqWeek a0 a1 a11 a12).bind fun y0=>(bif (Bool.not y0.1) then some (false,()) else ((laws_eqColumnS a2 a13).bind fun y1=>(bif (Bool.not y1.1) then some (false,()) else ((laws_eqDoor a3 a4 a5 a6 a7 a14 a15 a16 a17 a18).bind fun y2=>(bif (Bool.not y2.1) then some (false,()) else (bif (rCmp .neq a8 a19) then some (false,()) else (bif (rCmp .neq a9 a20) then some (false,()) else ((laws_eqEventS a10 a21).bind fun y3=>(bif (Bool.not y3.1) then some (false,()) else some (true,())))))))))))
noncomputable def laws_eqSiteS_b0 (k:(List ((List (Int×Int))×(List (Int×Int))×(List (Int×(List (Int))×List (Int×Int×Int×Bool)))×Int×Int×Bool×Bool×Bool×Int×Int×List (Int×Int×Int×Int×Int×Int×Int)))×(List ((List (Int×Int))×(List (Int×Int))×(List (Int×(List (Int))×List (Int×Int×Int×Bool)))×Int×Int×Bool×Bool×Bool×Int×Int×List (Int×Int×Int×Int×Int×Int×Int)))×Unit) (x:Int×Unit):Option ((Int×Unit) ⊕ (Bool×Unit ⊕ (Unit ⊕ Empty))):=
 (bif (rCmp .lss x.1 (rLen k.1)) then (bif (rInR k.1 x.1) then (bif (rInR k.2.1 x.1) then ((laws_eqSite (rGet zLIIlLIIlLILIlLIIIBllIIBBBIILIIIIIIIl k.1 x.1).1 (rGet zLIIlLIIlLILIlLIIIBllIIBBBIILIIIIIIIl k.1 x.1).2.1 (rGet zLIIlLIIlLILIlLIIIBllIIBBBIILIIIIIIIl k.1 x.1).2.2.1 (rGet zLIIlLIIlLILIlLIIIBllIIBBBIILIIIIIIIl k.1 x.1).2.2.2.1 (rGet zLIIlLIIlLILIlLIIIBllIIBBBIILIIIIIIIl k.1 x.1).2.2.2.2.1 (rGet zLIIlLIIlLILIlLIIIBllIIBBBIILIIIIIIIl k.1 x.1).2.2.2.2.2.1 (rGet zLIIlLIIlLILIlLIIIBllIIBBBIILIIIIIIIl k.1 x.1).2.2.2.2.2.2.1 (rGet zLIIlLIIlLILIlLIIIBllIIBBBIILIIIIIIIl k.1 x.1).2.2.2.2.2.2.2.1 (rGet zLIIlLIIlLILIlLIIIBllIIBBBIILIIIIIIIl k.1 x.1).2.2.2.2.2.2.2.2.1 (rGet zLIIlLIIlLILIlLIIIBllIIBBBIILIIIIIIIl k.1 x.1).2.2.2.2.2.2.2.2.2.1 (rGet zLIIlLIIlLILIlLIIIBllIIBBBIILIIIIIIIl k.1 x.1).2.2.2.2.2.2.2.2.2.2 (rGet zLIIlLIIlLILIlLIIIBllIIBBBIILIIIIIIIl k.2.1 x.1).1 (rGet zLIIlLIIlLILIlLIIIBllIIBBBIILIIIIIIIl k.2.1 x.1).2.1 (rGet zLIIlLIIlLILIlLIIIBllIIBBBIILIIIIIIIl k.2.1 x.1).2.2.1 (rGet zLIIlLIIlLILIlLIIIBllIIBBBIILIIIIIIIl k.2.1 x.1).2.2.2.1 (rGet zLIIlLIIlLILIlLIIIBllIIBBBIILIIIIIIIl k.2.1 x.1).2.2.2.2.1 (rGet zLIIlLIIlLILIlLIIIBllIIBBBIILIIIIIIIl k.2.1 x.1).2.2.2.2.2.1 (rGet zLIIlLIIlLILIlLIIIBllIIBBBIILIIIIIIIl k.2.1 x.1).2.2.2.2.2.2.1 (rGet zLIIlLIIlLILIlLIIIBllIIBBBIILIIIIIIIl k.2.1 x.1).2.2.2.2.2.2.2.1 (rGet zLIIlLIIlLILIlLIIIBllIIBBBIILIIIIIIIl k.2.1 x.1).2.2.2.2.2.2.2.2.1 (rGet zLIIlLIIlLILIlLIIIBllIIBBBIILIIIIIIIl k.2.1 x.1).2.2.2.2.2.2.2.2.2.1 (rGet zLIIlLIIlLILIlLIIIBllIIBBBIILIIIIIIIl k.2.1 x.1).2.2.2.2.2.2.2.2.2.2).bind fun y0=>(bif (Bool.not y0.1) then some (.inr (.inl (false,()))) else some (.inl ((rArith .add .i64 x.1 (1:Int)),())))) else none) else none) else some (.inr (.inr (.inl (())))))
noncomputable def laws_eqSiteS_l0 (k:(List ((List (Int×Int))×(List (Int×Int))×(List (Int×(List (Int))×List (Int×Int×Int×Bool)))×Int×Int×Bool×Bool×Bool×Int×Int×List (Int×Int×Int×Int×Int×Int×Int)))×(List ((List (Int×Int))×(List (Int×Int))×(List (Int×(List (Int))×List (Int×Int×Int×Bool)))×Int×Int×Bool×Bool×Bool×Int×Int×List (Int×Int×Int×Int×Int×Int×Int)))×Unit) (x:Int×Unit):Option (Bool×Unit ⊕ (Unit ⊕ Empty)):=iter (laws_eqSiteS_b0 k) big x
noncomputable def laws_eqSiteS (a0:(List ((List (Int×Int))×(List (Int×Int))×(List (Int×(List (Int))×List (Int×Int×Int×Bool)))×Int×Int×Bool×Bool×Bool×Int×Int×List (Int×Int×Int×Int×Int×Int×Int)))) (a1:(List ((List (Int×Int))×(List (Int×Int))×(List (Int×(List (Int))×List (Int×Int×Int×Bool)))×Int×Int×Bool×Bool×Bool×Int×Int×List (Int×Int×Int×Int×Int×Int×Int)))):Option (Bool×Unit):=
 (bif (rCmp .neq (rLen a0) (rLen a1)) then some (false,()) else ((laws_eqSiteS_l0 (a0,a1,()) ((0:Int),())).bind fun q0=>(Sum.elim (fun y1=>some (y1.1,())) (fun q2=>(Sum.elim (fun y3=>some (true,())) (fun q4=>(Empty.elim q4)) q2)) q0)))
noncomputable def laws_eqLock (a0:Int) (a1:Int) (a2:Int) (a3:Int) (a4:Int) (a5:Int) (a6:Int) (a7:Int) (a8:Int) (a9:Int):Option (Bool×Unit):=
 (bif (rCmp .neq a0 a5) then some (false,()) else (bif (rCmp .neq a1 a6) then some (false,()) else (bif (rCmp .neq a2 a7) then some (false,()) else (bif (rCmp .neq a3 a8) then some (false,()) else (bif (rCmp .neq a4 a9) then some (false,()) else some (true,()))))))
noncomputable def laws_eqParcel (a0:Int) (a1:Int) (a2:Int) (a3:Int) (a4:Int) (a5:Int) (a6:Int) (a7:Int) (a8:Int) (a9:Int) (a10:Int) (a11:Int) (a12:Int) (a13:Int) (a14:Int) (a15:Int) (a16:Int) (a17:Int) (a18:Int) (a19:Int) (a20:Int) (a21:Int) (a22:Int) (a23:Int) (a24:Int) (a25:Int):Option (Bool×Unit):=
 (bif (rCmp .neq a0 a13) then some (false,()) else (bif (rCmp .neq a1 a14) then some (false,()) else (bif (rCmp .neq a2 a15) then some (false,()) else (bif (rCmp .neq a3 a16) then some (false,()) else (bif (rCmp .neq a4 a17) then some (false,()) else (bif (rCmp .neq a5 a18) then some (false,()) else ((laws_eqLock a6 a7 a8 a9 a10 a19 a20 a21 a22 a23).bind fun y0=>(bif (Bool.not y0.1) then some (false,()) else (bif (rCmp .neq a11 a24) then some (false,()) else (bif (rCmp .neq a12 a25) then some (false,()) else some (true,())))))))))))
noncomputable def laws_eqParcelS_b0 (k:(List (Int×Int×Int×Int×Int×Int×Int×Int×Int×Int×Int×Int×Int))×(List (Int×Int×Int×Int×Int×Int×Int×Int×Int×Int×Int×Int×Int))×Unit) (x:Int×Unit):Option ((Int×Unit) ⊕ (Bool×Unit ⊕ (Unit ⊕ Empty))):=
 (bif (rCmp .lss x.1 (rLen k.1)) then (bif (rInR k.1 x.1) then (bif (rInR k.2.1 x.1) then ((laws_eqParcel (rGet zIIIIIIIIIIIII k.1 x.1).1 (rGet zIIIIIIIIIIIII k.1 x.1).2.1 (rGet zIIIIIIIIIIIII k.1 x.1).2.2.1 (rGet zIIIIIIIIIIIII k.1 x.1).2.2.2.1 (rGet zIIIIIIIIIIIII k.1 x.1).2.2.2.2.1 (rGet zIIIIIIIIIIIII k.1 x.1).2.2.2.2.2.1 (rGet zIIIIIIIIIIIII k.1 x.1).2.2.2.2.2.2.1 (rGet zIIIIIIIIIIIII k.1 x.1).2.2.2.2.2.2.2.1 (rGet zIIIIIIIIIIIII k.1 x.1).2.2.2.2.2.2.2.2.1 (rGet zIIIIIIIIIIIII k.1 x.1).2.2.2.2.2.2.2.2.2.1 (rGet zIIIIIIIIIIIII k.1 x.1).2.2.2.2.2.2.2.2.2.2.1 (rGet zIIIIIIIIIIIII k.1 x.1).2.2.2.2.2.2.2.2.2.2.2.1 (rGet zIIIIIIIIIIIII k.1 x.1).2.2.2.2.2.2.2.2.2.2.2.2 (rGet zIIIIIIIIIIIII k.2.1 x.1).1 (rGet zIIIIIIIIIIIII k.2.1 x.1).2.1 (rGet zIIIIIIIIIIIII k.2.1 x.1).2.2.1 (rGet zIIIIIIIIIIIII k.2.1 x.1).2.2.2.1 (rGet zIIIIIIIIIIIII k.2.1 x.1).2.2.2.2.1 (rGet zIIIIIIIIIIIII k.2.1 x.1).2.2.2.2.2.1 (rGet zIIIIIIIIIIIII k.2.1 x.1).2.2.2.2.2.2.1 (rGet zIIIIIIIIIIIII k.2.1 x.1).2.2.2.2.2.2.2.1 (rGet zIIIIIIIIIIIII k.2.1 x.1).2.2.2.2.2.2.2.2.1 (rGet zIIIIIIIIIIIII k.2.1 x.1).2.2.2.2.2.2.2.2.2.1 (rGet zIIIIIIIIIIIII k.2.1 x.1).2.2.2.2.2.2.2.2.2.2.1 (rGet zIIIIIIIIIIIII k.2.1 x.1).2.2.2.2.2.2.2.2.2.2.2.1 (rGet zIIIIIIIIIIIII k.2.1 x.1).2.2.2.2.2.2.2.2.2.2.2.2).bind fun y0=>(bif (Bool.not y0.1) then some (.inr (.inl (false,()))) else some (.inl ((rArith .add .i64 x.1 (1:Int)),())))) else none) else none) else some (.inr (.inr (.inl (())))))
noncomputable def laws_eqParcelS_l0 (k:(List (Int×Int×Int×Int×Int×Int×Int×Int×Int×Int×Int×Int×Int))×(List (Int×Int×Int×Int×Int×Int×Int×Int×Int×Int×Int×Int×Int))×Unit) (x:Int×Unit):Option (Bool×Unit ⊕ (Unit ⊕ Empty)):=iter (laws_eqParcelS_b0 k) big x
noncomputable def laws_eqParcelS (a0:(List (Int×Int×Int×Int×Int×Int×Int×Int×Int×Int×Int×Int×Int))) (a1:(List (Int×Int×Int×Int×Int×Int×Int×Int×Int×Int×Int×Int×Int))):Option (Bool×Unit):=
 (bif (rCmp .neq (rLen a0) (rLen a1)) then some (false,()) else ((laws_eqParcelS_l0 (a0,a1,()) ((0:Int),())).bind fun q0=>(Sum.elim (fun y1=>some (y1.1,())) (fun q2=>(Sum.elim (fun y3=>some (true,())) (fun q4=>(Empty.elim q4)) q2)) q0)))
noncomputable def laws_eqGrant (a0:Int) (a1:Int) (a2:Int) (a3:Int) (a4:Int) (a5:Int) (a6:Bool) (a7:Int) (a8:Int) (a9:Int) (a10:Int) (a11:Int) (a12:Int) (a13:Bool):Option (Bool×Unit):=
 (bif (rCmp .neq a0 a7) then some (false,()) else (bif (rCmp .neq a1 a8) then some (false,()) else (bif (rCmp .neq a2 a9) then some (false,()) else (bif (rCmp .neq a3 a10) then some (false,()) else (bif (rCmp .neq a4 a11) then some (false,()) else (bif (rCmp .neq a5 a12) then some (false,()) else (bif (Bool.not (rBeq a6 a13)) then some (false,()) else some (true,()))))))))
noncomputable def laws_eqGrantS_b0 (k:(List (Int×Int×Int×Int×Int×Int×Bool))×(List (Int×Int×Int×Int×Int×Int×Bool))×Unit) (x:Int×Unit):Option ((Int×Unit) ⊕ (Bool×Unit ⊕ (Unit ⊕ Empty))):=
 (bif (rCmp .lss x.1 (rLen k.1)) then (bif (rInR k.1 x.1) then (bif (rInR k.2.1 x.1) then ((laws_eqGrant (rGet zIIIIIIB k.1 x.1).1 (rGet zIIIIIIB k.1 x.1).2.1 (rGet zIIIIIIB k.1 x.1).2.2.1 (rGet zIIIIIIB k.1 x.1).2.2.2.1 (rGet zIIIIIIB k.1 x.1).2.2.2.2.1 (rGet zIIIIIIB k.1 x.1).2.2.2.2.2.1 (rGet zIIIIIIB k.1 x.1).2.2.2.2.2.2 (rGet zIIIIIIB k.2.1 x.1).1 (rGet zIIIIIIB k.2.1 x.1).2.1 (rGet zIIIIIIB k.2.1 x.1).2.2.1 (rGet zIIIIIIB k.2.1 x.1).2.2.2.1 (rGet zIIIIIIB k.2.1 x.1).2.2.2.2.1 (rGet zIIIIIIB k.2.1 x.1).2.2.2.2.2.1 (rGet zIIIIIIB k.2.1 x.1).2.2.2.2.2.2).bind fun y0=>(bif (Bool.not y0.1) then some (.inr (.inl (false,()))) else some (.inl ((rArith .add .i64 x.1 (1:Int)),())))) else none) else none) else some (.inr (.inr (.inl (())))))
noncomputable def laws_eqGrantS_l0 (k:(List (Int×Int×Int×Int×Int×Int×Bool))×(List (Int×Int×Int×Int×Int×Int×Bool))×Unit) (x:Int×Unit):Option (Bool×Unit ⊕ (Unit ⊕ Empty)):=iter (laws_eqGrantS_b0 k) big x
noncomputable def laws_eqGrantS (a0:(List (Int×Int×Int×Int×Int×Int×Bool))) (a1:(List (Int×Int×Int×Int×Int×Int×Bool))):Option (Bool×Unit):=
 (bif (rCmp .neq (rLen a0) (rLen a1)) then some (false,()) else ((laws_eqGrantS_l0 (a0,a1,()) ((0:Int),())).bind fun q0=>(Sum.elim (fun y1=>some (y1.1,())) (fun q2=>(Sum.elim (fun y3=>some (true,())) (fun q4=>(Empty.elim q4)) q2)) q0)))
noncomputable def laws_eqNetwork (a0:Int) (a1:Int) (a2:Int) (a3:Int) (a4:Int) (a5:Int) (a6:Int) (a7:Int) (a8:Int) (a9:Int) (a10:Int) (a11:(List ((List (Int×Int))×(List (Int×Int))×(List (Int×(List (Int))×List (Int×Int×Int×Bool)))×Int×Int×Bool×Bool×Bool×Int×Int×List (Int×Int×Int×Int×Int×Int×Int)))) (a12:(List (Int×Int×Int×Int×Int×Int×Int×Int×Int×Int×Int×Int×Int))) (a13:(List (Int×Int×Int×Int×Int×Int×Bool))) (a14:(List (Int×Int×Int×Int×Int×Int×Int))) (a15:Int) (a16:Int) (a17:Int) (a18:Int) (a19:Int) (a20:Int) (a21:Int) (a22:Int) (a23:Int) (a24:Int) (a25:Int) (a26:(List ((List (Int×Int))×(List (Int×Int))×(List (Int×(List (Int))×List (Int×Int×Int×Bool)))×Int×Int×Bool×Bool×Bool×Int×Int×List (Int×Int×Int×Int×Int×Int×Int)))) (a27:(List (Int×Int×Int×Int×Int×Int×Int×Int×Int×Int×Int×Int×Int))) (a28:(List (Int×Int×Int×Int×Int×Int×Bool))) (a29:(List (Int×Int×Int×Int×Int×Int×Int))):Option (Bool×Unit):=
 ((laws_eqTerms a0 a1 a2 a3 a4 a5 a6 a7 a15 a16 a17 a18 a19 a20 a21 a22).bind fun y0=>(bif (Bool.not y0.1) then some (false,()) else (bif (rCmp .neq a8 a23) then some (false,()) else (bif (rCmp .neq a9 a24) then some (false,()) else (bif (rCmp .neq a10 a25) then some (false,()) else ((laws_eqSiteS a11 a26).bind fun y1=>(bif (Bool.not y1.1) then some (false,()) else ((laws_eqParcelS a12 a27).bind fun y2=>(bif (Bool.not y2.1) then some (false,()) else ((laws_eqGrantS a13 a28).bind fun y3=>(bif (Bool.not y3.1) then some (false,()) else ((laws_eqEventS a14 a29).bind fun y4=>(bif (Bool.not y4.1) then some (false,()) else some (true,()))))))))))))))
end Go.Fn
set_option linter.unusedVariables false
namespace Go.Fn
open Go.R
noncomputable def cmp_isNaN_int_ (a0:Int):Option (Bool×Unit):=
 some ((rCmp .neq a0 a0),())
noncomputable def cmp_Compare_int_ (a0:Int) (a1:Int):Option (Int×Unit):=
 ((cmp_isNaN_int_ a0).bind fun y0=>((cmp_isNaN_int_ a1).bind fun y1=>(bif y0.1 then (bif y1.1 then some ((0:Int),()) else some ((-1:Int),())) else (bif y1.1 then some ((1:Int),()) else (bif (rCmp .lss a0 a1) then some ((-1:Int),()) else (bif (rCmp .gtr a0 a1) then some ((1:Int),()) else some ((0:Int),())))))))
noncomputable def cmp_Or_int__b0 (k:Int×(List (Int))×Int×Unit) (x:Int×Unit):Option ((Int×Unit) ⊕ (Int×Unit ⊕ (Unit ⊕ Empty))):=
 (bif (rCmp .lss x.1 k.2.2.1) then (bif (rInR k.2.1 x.1) then (bif (rCmp .neq (rGet zI k.2.1 x.1) k.1) then some (.inr (.inl ((rGet zI k.2.1 x.1),()))) else some (.inl ((rArith .add .i64 x.1 (1:Int)),()))) else none) else some (.inr (.inr (.inl (())))))
noncomputable def cmp_Or_int__l0 (k:Int×(List (Int))×Int×Unit) (x:Int×Unit):Option (Int×Unit ⊕ (Unit ⊕ Empty)):=iter (cmp_Or_int__b0 k) big x
noncomputable def cmp_Or_int_ (a0:(List (Int))):Option (Int×Unit):=
 ((cmp_Or_int__l0 ((0:Int),a0,(rLen a0),()) ((0:Int),())).bind fun q0=>(Sum.elim (fun y1=>some (y1.1,())) (fun q2=>(Sum.elim (fun y3=>some ((0:Int),())) (fun q4=>(Empty.elim q4)) q2)) q0))
end Go.Fn
set_option linter.unusedVariables false
namespace Go.Fn
open Go.R
noncomputable def spec_OrderOf_b2 (k:(List (Int×Int×Int×Int×Int×Int×Int))×Int×Unit) (x:(List (Int))×Int×Unit):Option (((List (Int))×Int×Unit) ⊕ ((List (Int))×Unit ⊕ Empty)):=
 (bif (rCmp .gtr x.2.1 (0:Int)) then (bif (rInR x.1 (rArith .sub .i64 x.2.1 (1:Int))) then (bif (rInR k.1 (rGet zI x.1 (rArith .sub .i64 x.2.1 (1:Int)))) then (bif (rInR x.1 x.2.1) then (bif (rInR k.1 (rGet zI x.1 x.2.1)) then (bif (rCmp .gtr (rGet zIIIIIII k.1 (rGet zI x.1 (rArith .sub .i64 x.2.1 (1:Int)))).2.2.1 (rGet zIIIIIII k.1 (rGet zI x.1 x.2.1)).2.2.1) then (bif (rInR x.1 x.2.1) then (bif (rInR x.1 (rArith .sub .i64 x.2.1 (1:Int))) then (bif (rInR x.1 x.2.1) then (bif (rInR (rPut x.1 x.2.1 (rGet zI x.1 (rArith .sub .i64 x.2.1 (1:Int)))) (rArith .sub .i64 x.2.1 (1:Int))) then some (.inl ((rPut (rPut x.1 x.2.1 (rGet zI x.1 (rArith .sub .i64 x.2.1 (1:Int)))) (rArith .sub .i64 x.2.1 (1:Int)) (rGet zI x.1 x.2.1)),(rArith .sub .i64 x.2.1 (1:Int)),())) else none) else none) else none) else none) else some (.inr (.inl (x.1,())))) else none) else none) else none) else none) else some (.inr (.inl (x.1,()))))
noncomputable def spec_OrderOf_l2 (k:(List (Int×Int×Int×Int×Int×Int×Int))×Int×Unit) (x:(List (Int))×Int×Unit):Option ((List (Int))×Unit ⊕ Empty):=iter (spec_OrderOf_b2 k) big x
noncomputable def spec_OrderOf_b0 (k:(List (Int×Int×Int×Int×Int×Int×Int))×Unit) (x:(List (Int))×Int×Unit):Option (((List (Int))×Int×Unit) ⊕ ((List (Int))×Unit ⊕ Empty)):=
 (bif (rCmp .lss x.2.1 (rLen k.1)) then ((spec_JournalOk k.1).bind fun y0=>(bif y0.1 then (bif (rSmall (List.append (α:=Int) x.1 (List.append (α:=Int) ([]:List (Int)) [x.2.1]))) then ((spec_OrderOf_l2 (k.1,x.2.1,()) ((List.append (α:=Int) x.1 (List.append (α:=Int) ([]:List (Int)) [x.2.1])),x.2.1,())).bind fun q1=>(Sum.elim (fun y2=>some (.inl (y2.1,(rArith .add .i64 x.2.1 (1:Int)),()))) (fun q3=>(Empty.elim q3)) q1)) else none) else some (.inr (.inl (x.1,()))))) else some (.inr (.inl (x.1,()))))
noncomputable def spec_OrderOf_l0 (k:(List (Int×Int×Int×Int×Int×Int×Int))×Unit) (x:(List (Int))×Int×Unit):Option ((List (Int))×Unit ⊕ Empty):=iter (spec_OrderOf_b0 k) big x
noncomputable def spec_OrderOf (a0:(List (Int×Int×Int×Int×Int×Int×Int))):Option ((List (Int))×Unit):=
 ((spec_OrderOf_l0 (a0,()) (([]:List (Int)),(0:Int),())).bind fun q0=>(Sum.elim (fun y1=>some (y1.1,())) (fun q2=>(Empty.elim q2)) q0))
noncomputable def impl_OrderOf_1 (a0:Int) (a1:Int) (a2:(List (Int×Int×Int×Int×Int×Int×Int))):Option (Int×Unit):=
 (bif (rInR a2 a0) then (bif (rInR a2 a1) then ((cmp_Compare_int_ (rGet zIIIIIII a2 a0).2.2.1 (rGet zIIIIIII a2 a1).2.2.1).bind fun y0=>(bif (rInR a2 a0) then (bif (rInR a2 a1) then ((cmp_Compare_int_ (rGet zIIIIIII a2 a0).1 (rGet zIIIIIII a2 a1).1).bind fun y1=>((cmp_Or_int_ (List.append (α:=Int) (List.append (α:=Int) ([]:List (Int)) [y0.1]) [y1.1])).bind fun y2=>some (y2.1,()))) else none) else none)) else none) else none)
noncomputable def slices_insertionSortCmpFunc_int___impl_OrderOf_1_b2 (k:Int×Int×(List (Int×Int×Int×Int×Int×Int×Int))×Int×Unit) (x:(List (Int))×Int×Unit):Option (((List (Int))×Int×Unit) ⊕ ((List (Int))×Unit ⊕ Empty)):=
 (bif (rCmp .gtr x.2.1 k.1) then (bif (rInR x.1 x.2.1) then (bif (rInR x.1 (rArith .sub .i64 x.2.1 (1:Int))) then ((impl_OrderOf_1 (rGet zI x.1 x.2.1) (rGet zI x.1 (rArith .sub .i64 x.2.1 (1:Int))) k.2.2.1).bind fun y0=>(bif (rCmp .lss y0.1 (0:Int)) then (bif (rInR x.1 (rArith .sub .i64 x.2.1 (1:Int))) then (bif (rInR x.1 x.2.1) then (bif (rInR x.1 x.2.1) then (bif (rInR (rPut x.1 x.2.1 (rGet zI x.1 (rArith .sub .i64 x.2.1 (1:Int)))) (rArith .sub .i64 x.2.1 (1:Int))) then some (.inl ((rPut (rPut x.1 x.2.1 (rGet zI x.1 (rArith .sub .i64 x.2.1 (1:Int)))) (rArith .sub .i64 x.2.1 (1:Int)) (rGet zI x.1 x.2.1)),(rArith .sub .i64 x.2.1 (1:Int)),())) else none) else none) else none) else none) else some (.inr (.inl (x.1,()))))) else none) else none) else some (.inr (.inl (x.1,()))))
noncomputable def slices_insertionSortCmpFunc_int___impl_OrderOf_1_l2 (k:Int×Int×(List (Int×Int×Int×Int×Int×Int×Int))×Int×Unit) (x:(List (Int))×Int×Unit):Option ((List (Int))×Unit ⊕ Empty):=iter (slices_insertionSortCmpFunc_int___impl_OrderOf_1_b2 k) big x
noncomputable def slices_insertionSortCmpFunc_int___impl_OrderOf_1_b0 (k:Int×Int×(List (Int×Int×Int×Int×Int×Int×Int))×Unit) (x:(List (Int))×Int×Unit):Option (((List (Int))×Int×Unit) ⊕ ((List (Int))×Unit ⊕ Empty)):=
 (bif (rCmp .lss x.2.1 k.2.1) then ((slices_insertionSortCmpFunc_int___impl_OrderOf_1_l2 (k.1,k.2.1,k.2.2.1,x.2.1,()) (x.1,x.2.1,())).bind fun q0=>(Sum.elim (fun y1=>some (.inl (y1.1,(rArith .add .i64 x.2.1 (1:Int)),()))) (fun q2=>(Empty.elim q2)) q0)) else some (.inr (.inl (x.1,()))))
noncomputable def slices_insertionSortCmpFunc_int___impl_OrderOf_1_l0 (k:Int×Int×(List (Int×Int×Int×Int×Int×Int×Int))×Unit) (x:(List (Int))×Int×Unit):Option ((List (Int))×Unit ⊕ Empty):=iter (slices_insertionSortCmpFunc_int___impl_OrderOf_1_b0 k) big x
noncomputable def slices_insertionSortCmpFunc_int___impl_OrderOf_1 (a0:(List (Int))) (a1:Int) (a2:Int) (a3:(List (Int×Int×Int×Int×Int×Int×Int))):Option ((List (Int))×Unit):=
 ((slices_insertionSortCmpFunc_int___impl_OrderOf_1_l0 (a1,a2,a3,()) (a0,(rArith .add .i64 a1 (1:Int)),())).bind fun q0=>(Sum.elim (fun y1=>some (y1.1,())) (fun q2=>(Empty.elim q2)) q0))
noncomputable def slices_swapRangeCmpFunc_int___impl_OrderOf_1_b0 (k:Int×Int×Int×Unit) (x:(List (Int))×Int×Unit):Option (((List (Int))×Int×Unit) ⊕ ((List (Int))×Unit ⊕ Empty)):=
 (bif (rCmp .lss x.2.1 k.2.2.1) then (bif (rInR x.1 (rArith .add .i64 k.2.1 x.2.1)) then (bif (rInR x.1 (rArith .add .i64 k.1 x.2.1)) then (bif (rInR x.1 (rArith .add .i64 k.1 x.2.1)) then (bif (rInR (rPut x.1 (rArith .add .i64 k.1 x.2.1) (rGet zI x.1 (rArith .add .i64 k.2.1 x.2.1))) (rArith .add .i64 k.2.1 x.2.1)) then (lets (rPut (rPut x.1 (rArith .add .i64 k.1 x.2.1) (rGet zI x.1 (rArith .add .i64 k.2.1 x.2.1))) (rArith .add .i64 k.2.1 x.2.1) (rGet zI x.1 (rArith .add .i64 k.1 x.2.1))) fun v0=>some (.inl (v0,(rArith .add .i64 x.2.1 (1:Int)),()))) else none) else none) else none) else none) else some (.inr (.inl (x.1,()))))
noncomputable def slices_swapRangeCmpFunc_int___impl_OrderOf_1_l0 (k:Int×Int×Int×Unit) (x:(List (Int))×Int×Unit):Option ((List (Int))×Unit ⊕ Empty):=iter (slices_swapRangeCmpFunc_int___impl_OrderOf_1_b0 k) big x
noncomputable def slices_swapRangeCmpFunc_int___impl_OrderOf_1 (a0:(List (Int))) (a1:Int) (a2:Int) (a3:Int) (a4:(List (Int×Int×Int×Int×Int×Int×Int))):Option ((List (Int))×Unit):=
 ((slices_swapRangeCmpFunc_int___impl_OrderOf_1_l0 (a1,a2,a3,()) (a0,(0:Int),())).bind fun q0=>(Sum.elim (fun y1=>some (y1.1,())) (fun q2=>(Empty.elim q2)) q0))
noncomputable def slices_rotateCmpFunc_int___impl_OrderOf_1_b0 (k:Int×(List (Int×Int×Int×Int×Int×Int×Int))×Unit) (x:(List (Int))×Int×Int×Unit):Option (((List (Int))×Int×Int×Unit) ⊕ ((List (Int))×Int×Unit ⊕ Empty)):=
 (bif (rCmp .neq x.2.1 x.2.2.1) then (bif (rCmp .gtr x.2.1 x.2.2.1) then ((slices_swapRangeCmpFunc_int___impl_OrderOf_1 x.1 (rArith .sub .i64 k.1 x.2.1) k.1 x.2.2.1 k.2.1).bind fun y0=>some (.inl (y0.1,(rArith .sub .i64 x.2.1 x.2.2.1),x.2.2.1,()))) else ((slices_swapRangeCmpFunc_int___impl_OrderOf_1 x.1 (rArith .sub .i64 k.1 x.2.1) (rArith .sub .i64 (rArith .add .i64 k.1 x.2.2.1) x.2.1) x.2.1 k.2.1).bind fun y0=>some (.inl (y0.1,x.2.1,(rArith .sub .i64 x.2.2.1 x.2.1),())))) else some (.inr (.inl (x.1,x.2.1,()))))
noncomputable def slices_rotateCmpFunc_int___impl_OrderOf_1_l0 (k:Int×(List (Int×Int×Int×Int×Int×Int×Int))×Unit) (x:(List (Int))×Int×Int×Unit):Option ((List (Int))×Int×Unit ⊕ Empty):=iter (slices_rotateCmpFunc_int___impl_OrderOf_1_b0 k) big x
noncomputable def slices_rotateCmpFunc_int___impl_OrderOf_1 (a0:(List (Int))) (a1:Int) (a2:Int) (a3:Int) (a4:(List (Int×Int×Int×Int×Int×Int×Int))):Option ((List (Int))×Unit):=
 ((slices_rotateCmpFunc_int___impl_OrderOf_1_l0 (a2,a4,()) (a0,(rArith .sub .i64 a2 a1),(rArith .sub .i64 a3 a2),())).bind fun q0=>(Sum.elim (fun y1=>((slices_swapRangeCmpFunc_int___impl_OrderOf_1 y1.1 (rArith .sub .i64 a2 y1.2.1) a2 y1.2.1 a4).bind fun y2=>some (y2.1,()))) (fun q2=>(Empty.elim q2)) q0))
noncomputable def slices_symMergeCmpFunc_int___impl_OrderOf_1_b0 (rec:(List (Int))→Int→Int→Int→(List (Int×Int×Int×Int×Int×Int×Int))→Option ((List (Int))×Unit)) (k:Int×(List (Int×Int×Int×Int×Int×Int×Int))×Unit) (x:(List (Int))×Int×Int×Unit):Option (((List (Int))×Int×Int×Unit) ⊕ ((List (Int))×Int×Unit ⊕ Empty)):=
 (bif (rCmp .lss x.2.1 x.2.2.1) then (bif (rIsNeg (1:Int)) then none else (bif (rInR x.1 (rConv .i64 (rShift .shr .u64 (rConv .u64 (rArith .add .i64 x.2.1 x.2.2.1)) (1:Int)))) then (bif (rInR x.1 k.1) then ((impl_OrderOf_1 (rGet zI x.1 (rConv .i64 (rShift .shr .u64 (rConv .u64 (rArith .add .i64 x.2.1 x.2.2.1)) (1:Int)))) (rGet zI x.1 k.1) k.2.1).bind fun y0=>(bif (rCmp .lss y0.1 (0:Int)) then some (.inl (x.1,(rArith .add .i64 (rConv .i64 (rShift .shr .u64 (rConv .u64 (rArith .add .i64 x.2.1 x.2.2.1)) (1:Int))) (1:Int)),x.2.2.1,())) else some (.inl (x.1,x.2.1,(rConv .i64 (rShift .shr .u64 (rConv .u64 (rArith .add .i64 x.2.1 x.2.2.1)) (1:Int))),())))) else none) else none)) else some (.inr (.inl (x.1,x.2.1,()))))
noncomputable def slices_symMergeCmpFunc_int___impl_OrderOf_1_l0 (rec:(List (Int))→Int→Int→Int→(List (Int×Int×Int×Int×Int×Int×Int))→Option ((List (Int))×Unit)) (k:Int×(List (Int×Int×Int×Int×Int×Int×Int))×Unit) (x:(List (Int))×Int×Int×Unit):Option ((List (Int))×Int×Unit ⊕ Empty):=iter (slices_symMergeCmpFunc_int___impl_OrderOf_1_b0 rec k) big x
noncomputable def slices_symMergeCmpFunc_int___impl_OrderOf_1_b2 (rec:(List (Int))→Int→Int→Int→(List (Int×Int×Int×Int×Int×Int×Int))→Option ((List (Int))×Unit)) (k:Int×Unit) (x:(List (Int))×Int×Unit):Option (((List (Int))×Int×Unit) ⊕ ((List (Int))×Unit ⊕ Empty)):=
 (bif (rCmp .lss x.2.1 (rArith .sub .i64 k.1 (1:Int))) then (bif (rInR x.1 (rArith .add .i64 x.2.1 (1:Int))) then (bif (rInR x.1 x.2.1) then (bif (rInR x.1 x.2.1) then (bif (rInR (rPut x.1 x.2.1 (rGet zI x.1 (rArith .add .i64 x.2.1 (1:Int)))) (rArith .add .i64 x.2.1 (1:Int))) then some (.inl ((rPut (rPut x.1 x.2.1 (rGet zI x.1 (rArith .add .i64 x.2.1 (1:Int)))) (rArith .add .i64 x.2.1 (1:Int)) (rGet zI x.1 x.2.1)),(rArith .add .i64 x.2.1 (1:Int)),())) else none) else none) else none) else none) else some (.inr (.inl (x.1,()))))
noncomputable def slices_symMergeCmpFunc_int___impl_OrderOf_1_l2 (rec:(List (Int))→Int→Int→Int→(List (Int×Int×Int×Int×Int×Int×Int))→Option ((List (Int))×Unit)) (k:Int×Unit) (x:(List (Int))×Int×Unit):Option ((List (Int))×Unit ⊕ Empty):=iter (slices_symMergeCmpFunc_int___impl_OrderOf_1_b2 rec k) big x
noncomputable def slices_symMergeCmpFunc_int___impl_OrderOf_1_b4 (rec:(List (Int))→Int→Int→Int→(List (Int×Int×Int×Int×Int×Int×Int))→Option ((List (Int))×Unit)) (k:Int×(List (Int×Int×Int×Int×Int×Int×Int))×Unit) (x:(List (Int))×Int×Int×Unit):Option (((List (Int))×Int×Int×Unit) ⊕ ((List (Int))×Int×Unit ⊕ Empty)):=
 (bif (rCmp .lss x.2.1 x.2.2.1) then (bif (rIsNeg (1:Int)) then none else (bif (rInR x.1 k.1) then (bif (rInR x.1 (rConv .i64 (rShift .shr .u64 (rConv .u64 (rArith .add .i64 x.2.1 x.2.2.1)) (1:Int)))) then ((impl_OrderOf_1 (rGet zI x.1 k.1) (rGet zI x.1 (rConv .i64 (rShift .shr .u64 (rConv .u64 (rArith .add .i64 x.2.1 x.2.2.1)) (1:Int)))) k.2.1).bind fun y0=>(bif (Bool.not (rCmp .lss y0.1 (0:Int))) then some (.inl (x.1,(rArith .add .i64 (rConv .i64 (rShift .shr .u64 (rConv .u64 (rArith .add .i64 x.2.1 x.2.2.1)) (1:Int))) (1:Int)),x.2.2.1,())) else some (.inl (x.1,x.2.1,(rConv .i64 (rShift .shr .u64 (rConv .u64 (rArith .add .i64 x.2.1 x.2.2.1)) (1:Int))),())))) else none) else none)) else some (.inr (.inl (x.1,x.2.1,()))))
noncomputable def slices_symMergeCmpFunc_int___impl_OrderOf_1_l4 (rec:(List (Int))→Int→Int→Int→(List (Int×Int×Int×Int×Int×Int×Int))→Option ((List (Int))×Unit)) (k:Int×(List (Int×Int×Int×Int×Int×Int×Int))×Unit) (x:(List (Int))×Int×Int×Unit):Option ((List (Int))×Int×Unit ⊕ Empty):=iter (slices_symMergeCmpFunc_int___impl_OrderOf_1_b4 rec k) big x
noncomputable def slices_symMergeCmpFunc_int___impl_OrderOf_1_b6 (rec:(List (Int))→Int→Int→Int→(List (Int×Int×Int×Int×Int×Int×Int))→Option ((List (Int))×Unit)) (k:Int×Unit) (x:(List (Int))×Int×Unit):Option (((List (Int))×Int×Unit) ⊕ ((List (Int))×Unit ⊕ Empty)):=
 (bif (rCmp .gtr x.2.1 k.1) then (bif (rInR x.1 (rArith .sub .i64 x.2.1 (1:Int))) then (bif (rInR x.1 x.2.1) then (bif (rInR x.1 x.2.1) then (bif (rInR (rPut x.1 x.2.1 (rGet zI x.1 (rArith .sub .i64 x.2.1 (1:Int)))) (rArith .sub .i64 x.2.1 (1:Int))) then some (.inl ((rPut (rPut x.1 x.2.1 (rGet zI x.1 (rArith .sub .i64 x.2.1 (1:Int)))) (rArith .sub .i64 x.2.1 (1:Int)) (rGet zI x.1 x.2.1)),(rArith .sub .i64 x.2.1 (1:Int)),())) else none) else none) else none) else none) else some (.inr (.inl (x.1,()))))
noncomputable def slices_symMergeCmpFunc_int___impl_OrderOf_1_l6 (rec:(List (Int))→Int→Int→Int→(List (Int×Int×Int×Int×Int×Int×Int))→Option ((List (Int))×Unit)) (k:Int×Unit) (x:(List (Int))×Int×Unit):Option ((List (Int))×Unit ⊕ Empty):=iter (slices_symMergeCmpFunc_int___impl_OrderOf_1_b6 rec k) big x
noncomputable def slices_symMergeCmpFunc_int___impl_OrderOf_1_b8 (rec:(List (Int))→Int→Int→Int→(List (Int×Int×Int×Int×Int×Int×Int))→Option ((List (Int))×Unit)) (k:Int×Int×Int×(List (Int×Int×Int×Int×Int×Int×Int))×Int×Int×Int×Unit) (x:(List (Int))×Int×Int×Unit):Option (((List (Int))×Int×Int×Unit) ⊕ ((List (Int))×Int×Unit ⊕ Empty)):=
 (bif (rCmp .lss x.2.1 x.2.2.1) then (bif (rIsNeg (1:Int)) then none else (bif (rInR x.1 (rArith .sub .i64 k.2.2.2.2.2.2.1 (rConv .i64 (rShift .shr .u64 (rConv .u64 (rArith .add .i64 x.2.1 x.2.2.1)) (1:Int))))) then (bif (rInR x.1 (rConv .i64 (rShift .shr .u64 (rConv .u64 (rArith .add .i64 x.2.1 x.2.2.1)) (1:Int)))) then ((impl_OrderOf_1 (rGet zI x.1 (rArith .sub .i64 k.2.2.2.2.2.2.1 (rConv .i64 (rShift .shr .u64 (rConv .u64 (rArith .add .i64 x.2.1 x.2.2.1)) (1:Int))))) (rGet zI x.1 (rConv .i64 (rShift .shr .u64 (rConv .u64 (rArith .add .i64 x.2.1 x.2.2.1)) (1:Int)))) k.2.2.2.1).bind fun y0=>(bif (Bool.not (rCmp .lss y0.1 (0:Int))) then some (.inl (x.1,(rArith .add .i64 (rConv .i64 (rShift .shr .u64 (rConv .u64 (rArith .add .i64 x.2.1 x.2.2.1)) (1:Int))) (1:Int)),x.2.2.1,())) else some (.inl (x.1,x.2.1,(rConv .i64 (rShift .shr .u64 (rConv .u64 (rArith .add .i64 x.2.1 x.2.2.1)) (1:Int))),())))) else none) else none)) else some (.inr (.inl (x.1,x.2.1,()))))
noncomputable def slices_symMergeCmpFunc_int___impl_OrderOf_1_l8 (rec:(List (Int))→Int→Int→Int→(List (Int×Int×Int×Int×Int×Int×Int))→Option ((List (Int))×Unit)) (k:Int×Int×Int×(List (Int×Int×Int×Int×Int×Int×Int))×Int×Int×Int×Unit) (x:(List (Int))×Int×Int×Unit):Option ((List (Int))×Int×Unit ⊕ Empty):=iter (slices_symMergeCmpFunc_int___impl_OrderOf_1_b8 rec k) big x
noncomputable def slices_symMergeCmpFunc_int___impl_OrderOf_1_r (rec:(List (Int))→Int→Int→Int→(List (Int×Int×Int×Int×Int×Int×Int))→Option ((List (Int))×Unit)) (a0:(List (Int))) (a1:Int) (a2:Int) (a3:Int) (a4:(List (Int×Int×Int×Int×Int×Int×Int))):Option ((List (Int))×Unit):=
 (bif (rCmp .eql (rArith .sub .i64 a2 a1) (1:Int)) then ((slices_symMergeCmpFunc_int___impl_OrderOf_1_l0 rec (a1,a4,()) (a0,a2,a3,())).bind fun q0=>(Sum.elim (fun y1=>((slices_symMergeCmpFunc_int___impl_OrderOf_1_l2 rec (y1.2.1,()) (y1.1,a1,())).bind fun q2=>(Sum.elim (fun y3=>some (y3.1,())) (fun q4=>(Empty.elim q4)) q2))) (fun q2=>(Empty.elim q2)) q0)) else (bif (rCmp .eql (rArith .sub .i64 a3 a2) (1:Int)) then ((slices_symMergeCmpFunc_int___impl_OrderOf_1_l4 rec (a2,a4,()) (a0,a1,a2,())).bind fun q0=>(Sum.elim (fun y1=>((slices_symMergeCmpFunc_int___impl_OrderOf_1_l6 rec (y1.2.1,()) (y1.1,a2,())).bind fun q2=>(Sum.elim (fun y3=>some (y3.1,())) (fun q4=>(Empty.elim q4)) q2))) (fun q2=>(Empty.elim q2)) q0)) else (bif (rIsNeg (1:Int)) then none else (bif (rCmp .gtr a2 (rConv .i64 (rShift .shr .u64 (rConv .u64 (rArith .add .i64 a1 a3)) (1:Int)))) then ((slices_symMergeCmpFunc_int___impl_OrderOf_1_l8 rec (a1,a2,a3,a4,(rConv .i64 (rShift .shr .u64 (rConv .u64 (rArith .add .i64 a1 a3)) (1:Int))),(rArith .add .i64 (rConv .i64 (rShift .shr .u64 (rConv .u64 (rArith .add .i64 a1 a3)) (1:Int))) a2),(rArith .sub .i64 (rArith .add .i64 (rConv .i64 (rShift .shr .u64 (rConv .u64 (rArith .add .i64 a1 a3)) (1:Int))) a2) (1:Int)),()) (a0,(rArith .sub .i64 (rArith .add .i64 (rConv .i64 (rShift .shr .u64 (rConv .u64 (rArith .add .i64 a1 a3)) (1:Int))) a2) a3),(rConv .i64 (rShift .shr .u64 (rConv .u64 (rArith .add .i64 a1 a3)) (1:Int))),())).bind fun q0=>(Sum.elim (fun y1=>(bif (rCmp .lss y1.2.1 a2) then (bif (rCmp .lss a2 (rArith .sub .i64 (rArith .add .i64 (rConv .i64 (rShift .shr .u64 (rConv .u64 (rArith .add .i64 a1 a3)) (1:Int))) a2) y1.2.1)) then ((slices_rotateCmpFunc_int___impl_OrderOf_1 y1.1 y1.2.1 a2 (rArith .sub .i64 (rArith .add .i64 (rConv .i64 (rShift .shr .u64 (rConv .u64 (rArith .add .i64 a1 a3)) (1:Int))) a2) y1.2.1) a4).bind fun y2=>(bif (rCmp .lss a1 y1.2.1) then (bif (rCmp .lss y1.2.1 (rConv .i64 (rShift .shr .u64 (rConv .u64 (rArith .add .i64 a1 a3)) (1:Int)))) then ((rec y2.1 a1 y1.2.1 (rConv .i64 (rShift .shr .u64 (rConv .u64 (rArith .add .i64 a1 a3)) (1:Int))) a4).bind fun y3=>(lets (rCmp .lss (rConv .i64 (rShift .shr .u64 (rConv .u64 (rArith .add .i64 a1 a3)) (1:Int))) (rArith .sub .i64 (rArith .add .i64 (rConv .i64 (rShift .shr .u64 (rConv .u64 (rArith .add .i64 a1 a3)) (1:Int))) a2) y1.2.1)) fun v4=>(bif v4 then (bif (rCmp .lss (rArith .sub .i64 (rArith .add .i64 (rConv .i64 (rShift .shr .u64 (rConv .u64 (rArith .add .i64 a1 a3)) (1:Int))) a2) y1.2.1) a3) then ((rec y3.1 (rConv .i64 (rShift .shr .u64 (rConv .u64 (rArith .add .i64 a1 a3)) (1:Int))) (rArith .sub .i64 (rArith .add .i64 (rConv .i64 (rShift .shr .u64 (rConv .u64 (rArith .add .i64 a1 a3)) (1:Int))) a2) y1.2.1) a3 a4).bind fun y5=>some (y5.1,())) else some (y3.1,())) else some (y3.1,())))) else (lets (rCmp .lss (rConv .i64 (rShift .shr .u64 (rConv .u64 (rArith .add .i64 a1 a3)) (1:Int))) (rArith .sub .i64 (rArith .add .i64 (rConv .i64 (rShift .shr .u64 (rConv .u64 (rArith .add .i64 a1 a3)) (1:Int))) a2) y1.2.1)) fun v3=>(bif v3 then (bif (rCmp .lss (rArith .sub .i64 (rArith .add .i64 (rConv .i64 (rShift .shr .u64 (rConv .u64 (rArith .add .i64 a1 a3)) (1:Int))) a2) y1.2.1) a3) then ((rec y2.1 (rConv .i64 (rShift .shr .u64 (rConv .u64 (rArith .add .i64 a1 a3)) (1:Int))) (rArith .sub .i64 (rArith .add .i64 (rConv .i64 (rShift .shr .u64 (rConv .u64 (rArith .add .i64 a1 a3)) (1:Int))) a2) y1.2.1) a3 a4).bind fun y4=>some (y4.1,())) else some (y2.1,())) else some (y2.1,())))) else (lets (rCmp .lss (rConv .i64 (rShift .shr .u64 (rConv .u64 (rArith .add .i64 a1 a3)) (1:Int))) (rArith .sub .i64 (rArith .add .i64 (rConv .i64 (rShift .shr .u64 (rConv .u64 (rArith .add .i64 a1 a3)) (1:Int))) a2) y1.2.1)) fun v3=>(bif v3 then (bif (rCmp .lss (rArith .sub .i64 (rArith .add .i64 (rConv .i64 (rShift .shr .u64 (rConv .u64 (rArith .add .i64 a1 a3)) (1:Int))) a2) y1.2.1) a3) then ((rec y2.1 (rConv .i64 (rShift .shr .u64 (rConv .u64 (rArith .add .i64 a1 a3)) (1:Int))) (rArith .sub .i64 (rArith .add .i64 (rConv .i64 (rShift .shr .u64 (rConv .u64 (rArith .add .i64 a1 a3)) (1:Int))) a2) y1.2.1) a3 a4).bind fun y4=>some (y4.1,())) else some (y2.1,())) else some (y2.1,()))))) else (bif (rCmp .lss a1 y1.2.1) then (bif (rCmp .lss y1.2.1 (rConv .i64 (rShift .shr .u64 (rConv .u64 (rArith .add .i64 a1 a3)) (1:Int)))) then ((rec y1.1 a1 y1.2.1 (rConv .i64 (rShift .shr .u64 (rConv .u64 (rArith .add .i64 a1 a3)) (1:Int))) a4).bind fun y2=>(lets (rCmp .lss (rConv .i64 (rShift .shr .u64 (rConv .u64 (rArith .add .i64 a1 a3)) (1:Int))) (rArith .sub .i64 (rArith .add .i64 (rConv .i64 (rShift .shr .u64 (rConv .u64 (rArith .add .i64 a1 a3)) (1:Int))) a2) y1.2.1)) fun v3=>(bif v3 then (bif (rCmp .lss (rArith .sub .i64 (rArith .add .i64 (rConv .i64 (rShift .shr .u64 (rConv .u64 (rArith .add .i64 a1 a3)) (1:Int))) a2) y1.2.1) a3) then ((rec y2.1 (rConv .i64 (rShift .shr .u64 (rConv .u64 (rArith .add .i64 a1 a3)) (1:Int))) (rArith .sub .i64 (rArith .add .i64 (rConv .i64 (rShift .shr .u64 (rConv .u64 (rArith .add .i64 a1 a3)) (1:Int))) a2) y1.2.1) a3 a4).bind fun y4=>some (y4.1,())) else some (y2.1,())) else some (y2.1,())))) else (lets (rCmp .lss (rConv .i64 (rShift .shr .u64 (rConv .u64 (rArith .add .i64 a1 a3)) (1:Int))) (rArith .sub .i64 (rArith .add .i64 (rConv .i64 (rShift .shr .u64 (rConv .u64 (rArith .add .i64 a1 a3)) (1:Int))) a2) y1.2.1)) fun v2=>(bif v2 then (bif (rCmp .lss (rArith .sub .i64 (rArith .add .i64 (rConv .i64 (rShift .shr .u64 (rConv .u64 (rArith .add .i64 a1 a3)) (1:Int))) a2) y1.2.1) a3) then ((rec y1.1 (rConv .i64 (rShift .shr .u64 (rConv .u64 (rArith .add .i64 a1 a3)) (1:Int))) (rArith .sub .i64 (rArith .add .i64 (rConv .i64 (rShift .shr .u64 (rConv .u64 (rArith .add .i64 a1 a3)) (1:Int))) a2) y1.2.1) a3 a4).bind fun y3=>some (y3.1,())) else some (y1.1,())) else some (y1.1,())))) else (lets (rCmp .lss (rConv .i64 (rShift .shr .u64 (rConv .u64 (rArith .add .i64 a1 a3)) (1:Int))) (rArith .sub .i64 (rArith .add .i64 (rConv .i64 (rShift .shr .u64 (rConv .u64 (rArith .add .i64 a1 a3)) (1:Int))) a2) y1.2.1)) fun v2=>(bif v2 then (bif (rCmp .lss (rArith .sub .i64 (rArith .add .i64 (rConv .i64 (rShift .shr .u64 (rConv .u64 (rArith .add .i64 a1 a3)) (1:Int))) a2) y1.2.1) a3) then ((rec y1.1 (rConv .i64 (rShift .shr .u64 (rConv .u64 (rArith .add .i64 a1 a3)) (1:Int))) (rArith .sub .i64 (rArith .add .i64 (rConv .i64 (rShift .shr .u64 (rConv .u64 (rArith .add .i64 a1 a3)) (1:Int))) a2) y1.2.1) a3 a4).bind fun y3=>some (y3.1,())) else some (y1.1,())) else some (y1.1,()))))) else (bif (rCmp .lss a1 y1.2.1) then (bif (rCmp .lss y1.2.1 (rConv .i64 (rShift .shr .u64 (rConv .u64 (rArith .add .i64 a1 a3)) (1:Int)))) then ((rec y1.1 a1 y1.2.1 (rConv .i64 (rShift .shr .u64 (rConv .u64 (rArith .add .i64 a1 a3)) (1:Int))) a4).bind fun y2=>(lets (rCmp .lss (rConv .i64 (rShift .shr .u64 (rConv .u64 (rArith .add .i64 a1 a3)) (1:Int))) (rArith .sub .i64 (rArith .add .i64 (rConv .i64 (rShift .shr .u64 (rConv .u64 (rArith .add .i64 a1 a3)) (1:Int))) a2) y1.2.1)) fun v3=>(bif v3 then (bif (rCmp .lss (rArith .sub .i64 (rArith .add .i64 (rConv .i64 (rShift .shr .u64 (rConv .u64 (rArith .add .i64 a1 a3)) (1:Int))) a2) y1.2.1) a3) then ((rec y2.1 (rConv .i64 (rShift .shr .u64 (rConv .u64 (rArith .add .i64 a1 a3)) (1:Int))) (rArith .sub .i64 (rArith .add .i64 (rConv .i64 (rShift .shr .u64 (rConv .u64 (rArith .add .i64 a1 a3)) (1:Int))) a2) y1.2.1) a3 a4).bind fun y4=>some (y4.1,())) else some (y2.1,())) else some (y2.1,())))) else (lets (rCmp .lss (rConv .i64 (rShift .shr .u64 (rConv .u64 (rArith .add .i64 a1 a3)) (1:Int))) (rArith .sub .i64 (rArith .add .i64 (rConv .i64 (rShift .shr .u64 (rConv .u64 (rArith .add .i64 a1 a3)) (1:Int))) a2) y1.2.1)) fun v2=>(bif v2 then (bif (rCmp .lss (rArith .sub .i64 (rArith .add .i64 (rConv .i64 (rShift .shr .u64 (rConv .u64 (rArith .add .i64 a1 a3)) (1:Int))) a2) y1.2.1) a3) then ((rec y1.1 (rConv .i64 (rShift .shr .u64 (rConv .u64 (rArith .add .i64 a1 a3)) (1:Int))) (rArith .sub .i64 (rArith .add .i64 (rConv .i64 (rShift .shr .u64 (rConv .u64 (rArith .add .i64 a1 a3)) (1:Int))) a2) y1.2.1) a3 a4).bind fun y3=>some (y3.1,())) else some (y1.1,())) else some (y1.1,())))) else (lets (rCmp .lss (rConv .i64 (rShift .shr .u64 (rConv .u64 (rArith .add .i64 a1 a3)) (1:Int))) (rArith .sub .i64 (rArith .add .i64 (rConv .i64 (rShift .shr .u64 (rConv .u64 (rArith .add .i64 a1 a3)) (1:Int))) a2) y1.2.1)) fun v2=>(bif v2 then (bif (rCmp .lss (rArith .sub .i64 (rArith .add .i64 (rConv .i64 (rShift .shr .u64 (rConv .u64 (rArith .add .i64 a1 a3)) (1:Int))) a2) y1.2.1) a3) then ((rec y1.1 (rConv .i64 (rShift .shr .u64 (rConv .u64 (rArith .add .i64 a1 a3)) (1:Int))) (rArith .sub .i64 (rArith .add .i64 (rConv .i64 (rShift .shr .u64 (rConv .u64 (rArith .add .i64 a1 a3)) (1:Int))) a2) y1.2.1) a3 a4).bind fun y3=>some (y3.1,())) else some (y1.1,())) else some (y1.1,())))))) (fun q2=>(Empty.elim q2)) q0)) else ((slices_symMergeCmpFunc_int___impl_OrderOf_1_l8 rec (a1,a2,a3,a4,(rConv .i64 (rShift .shr .u64 (rConv .u64 (rArith .add .i64 a1 a3)) (1:Int))),(rArith .add .i64 (rConv .i64 (rShift .shr .u64 (rConv .u64 (rArith .add .i64 a1 a3)) (1:Int))) a2),(rArith .sub .i64 (rArith .add .i64 (rConv .i64 (rShift .shr .u64 (rConv .u64 (rArith .add .i64 a1 a3)) (1:Int))) a2) (1:Int)),()) (a0,a1,a2,())).bind fun q0=>(Sum.elim (fun y1=>(bif (rCmp .lss y1.2.1 a2) then (bif (rCmp .lss a2 (rArith .sub .i64 (rArith .add .i64 (rConv .i64 (rShift .shr .u64 (rConv .u64 (rArith .add .i64 a1 a3)) (1:Int))) a2) y1.2.1)) then ((slices_rotateCmpFunc_int___impl_OrderOf_1 y1.1 y1.2.1 a2 (rArith .sub .i64 (rArith .add .i64 (rConv .i64 (rShift .shr .u64 (rConv .u64 (rArith .add .i64 a1 a3)) (1:Int))) a2) y1.2.1) a4).bind fun y2=>(bif (rCmp .lss a1 y1.2.1) then (bif (rCmp .lss y1.2.1 (rConv .i64 (rShift .shr .u64 (rConv .u64 (rArith .add .i64 a1 a3)) (1:Int)))) then ((rec y2.1 a1 y1.2.1 (rConv .i64 (rShift .shr .u64 (rConv .u64 (rArith .add .i64 a1 a3)) (1:Int))) a4).bind fun y3=>(lets (rCmp .lss (rConv .i64 (rShift .shr .u64 (rConv .u64 (rArith .add .i64 a1 a3)) (1:Int))) (rArith .sub .i64 (rArith .add .i64 (rConv .i64 (rShift .shr .u64 (rConv .u64 (rArith .add .i64 a1 a3)) (1:Int))) a2) y1.2.1)) fun v4=>(bif v4 then (bif (rCmp .lss (rArith .sub .i64 (rArith .add .i64 (rConv .i64 (rShift .shr .u64 (rConv .u64 (rArith .add .i64 a1 a3)) (1:Int))) a2) y1.2.1) a3) then ((rec y3.1 (rConv .i64 (rShift .shr .u64 (rConv .u64 (rArith .add .i64 a1 a3)) (1:Int))) (rArith .sub .i64 (rArith .add .i64 (rConv .i64 (rShift .shr .u64 (rConv .u64 (rArith .add .i64 a1 a3)) (1:Int))) a2) y1.2.1) a3 a4).bind fun y5=>some (y5.1,())) else some (y3.1,())) else some (y3.1,())))) else (lets (rCmp .lss (rConv .i64 (rShift .shr .u64 (rConv .u64 (rArith .add .i64 a1 a3)) (1:Int))) (rArith .sub .i64 (rArith .add .i64 (rConv .i64 (rShift .shr .u64 (rConv .u64 (rArith .add .i64 a1 a3)) (1:Int))) a2) y1.2.1)) fun v3=>(bif v3 then (bif (rCmp .lss (rArith .sub .i64 (rArith .add .i64 (rConv .i64 (rShift .shr .u64 (rConv .u64 (rArith .add .i64 a1 a3)) (1:Int))) a2) y1.2.1) a3) then ((rec y2.1 (rConv .i64 (rShift .shr .u64 (rConv .u64 (rArith .add .i64 a1 a3)) (1:Int))) (rArith .sub .i64 (rArith .add .i64 (rConv .i64 (rShift .shr .u64 (rConv .u64 (rArith .add .i64 a1 a3)) (1:Int))) a2) y1.2.1) a3 a4).bind fun y4=>some (y4.1,())) else some (y2.1,())) else some (y2.1,())))) else (lets (rCmp .lss (rConv .i64 (rShift .shr .u64 (rConv .u64 (rArith .add .i64 a1 a3)) (1:Int))) (rArith .sub .i64 (rArith .add .i64 (rConv .i64 (rShift .shr .u64 (rConv .u64 (rArith .add .i64 a1 a3)) (1:Int))) a2) y1.2.1)) fun v3=>(bif v3 then (bif (rCmp .lss (rArith .sub .i64 (rArith .add .i64 (rConv .i64 (rShift .shr .u64 (rConv .u64 (rArith .add .i64 a1 a3)) (1:Int))) a2) y1.2.1) a3) then ((rec y2.1 (rConv .i64 (rShift .shr .u64 (rConv .u64 (rArith .add .i64 a1 a3)) (1:Int))) (rArith .sub .i64 (rArith .add .i64 (rConv .i64 (rShift .shr .u64 (rConv .u64 (rArith .add .i64 a1 a3)) (1:Int))) a2) y1.2.1) a3 a4).bind fun y4=>some (y4.1,())) else some (y2.1,())) else some (y2.1,()))))) else (bif (rCmp .lss a1 y1.2.1) then (bif (rCmp .lss y1.2.1 (rConv .i64 (rShift .shr .u64 (rConv .u64 (rArith .add .i64 a1 a3)) (1:Int)))) then ((rec y1.1 a1 y1.2.1 (rConv .i64 (rShift .shr .u64 (rConv .u64 (rArith .add .i64 a1 a3)) (1:Int))) a4).bind fun y2=>(lets (rCmp .lss (rConv .i64 (rShift .shr .u64 (rConv .u64 (rArith .add .i64 a1 a3)) (1:Int))) (rArith .sub .i64 (rArith .add .i64 (rConv .i64 (rShift .shr .u64 (rConv .u64 (rArith .add .i64 a1 a3)) (1:Int))) a2) y1.2.1)) fun v3=>(bif v3 then (bif (rCmp .lss (rArith .sub .i64 (rArith .add .i64 (rConv .i64 (rShift .shr .u64 (rConv .u64 (rArith .add .i64 a1 a3)) (1:Int))) a2) y1.2.1) a3) then ((rec y2.1 (rConv .i64 (rShift .shr .u64 (rConv .u64 (rArith .add .i64 a1 a3)) (1:Int))) (rArith .sub .i64 (rArith .add .i64 (rConv .i64 (rShift .shr .u64 (rConv .u64 (rArith .add .i64 a1 a3)) (1:Int))) a2) y1.2.1) a3 a4).bind fun y4=>some (y4.1,())) else some (y2.1,())) else some (y2.1,())))) else (lets (rCmp .lss (rConv .i64 (rShift .shr .u64 (rConv .u64 (rArith .add .i64 a1 a3)) (1:Int))) (rArith .sub .i64 (rArith .add .i64 (rConv .i64 (rShift .shr .u64 (rConv .u64 (rArith .add .i64 a1 a3)) (1:Int))) a2) y1.2.1)) fun v2=>(bif v2 then (bif (rCmp .lss (rArith .sub .i64 (rArith .add .i64 (rConv .i64 (rShift .shr .u64 (rConv .u64 (rArith .add .i64 a1 a3)) (1:Int))) a2) y1.2.1) a3) then ((rec y1.1 (rConv .i64 (rShift .shr .u64 (rConv .u64 (rArith .add .i64 a1 a3)) (1:Int))) (rArith .sub .i64 (rArith .add .i64 (rConv .i64 (rShift .shr .u64 (rConv .u64 (rArith .add .i64 a1 a3)) (1:Int))) a2) y1.2.1) a3 a4).bind fun y3=>some (y3.1,())) else some (y1.1,())) else some (y1.1,())))) else (lets (rCmp .lss (rConv .i64 (rShift .shr .u64 (rConv .u64 (rArith .add .i64 a1 a3)) (1:Int))) (rArith .sub .i64 (rArith .add .i64 (rConv .i64 (rShift .shr .u64 (rConv .u64 (rArith .add .i64 a1 a3)) (1:Int))) a2) y1.2.1)) fun v2=>(bif v2 then (bif (rCmp .lss (rArith .sub .i64 (rArith .add .i64 (rConv .i64 (rShift .shr .u64 (rConv .u64 (rArith .add .i64 a1 a3)) (1:Int))) a2) y1.2.1) a3) then ((rec y1.1 (rConv .i64 (rShift .shr .u64 (rConv .u64 (rArith .add .i64 a1 a3)) (1:Int))) (rArith .sub .i64 (rArith .add .i64 (rConv .i64 (rShift .shr .u64 (rConv .u64 (rArith .add .i64 a1 a3)) (1:Int))) a2) y1.2.1) a3 a4).bind fun y3=>some (y3.1,())) else some (y1.1,())) else some (y1.1,()))))) else (bif (rCmp .lss a1 y1.2.1) then (bif (rCmp .lss y1.2.1 (rConv .i64 (rShift .shr .u64 (rConv .u64 (rArith .add .i64 a1 a3)) (1:Int)))) then ((rec y1.1 a1 y1.2.1 (rConv .i64 (rShift .shr .u64 (rConv .u64 (rArith .add .i64 a1 a3)) (1:Int))) a4).bind fun y2=>(lets (rCmp .lss (rConv .i64 (rShift .shr .u64 (rConv .u64 (rArith .add .i64 a1 a3)) (1:Int))) (rArith .sub .i64 (rArith .add .i64 (rConv .i64 (rShift .shr .u64 (rConv .u64 (rArith .add .i64 a1 a3)) (1:Int))) a2) y1.2.1)) fun v3=>(bif v3 then (bif (rCmp .lss (rArith .sub .i64 (rArith .add .i64 (rConv .i64 (rShift .shr .u64 (rConv .u64 (rArith .add .i64 a1 a3)) (1:Int))) a2) y1.2.1) a3) then ((rec y2.1 (rConv .i64 (rShift .shr .u64 (rConv .u64 (rArith .add .i64 a1 a3)) (1:Int))) (rArith .sub .i64 (rArith .add .i64 (rConv .i64 (rShift .shr .u64 (rConv .u64 (rArith .add .i64 a1 a3)) (1:Int))) a2) y1.2.1) a3 a4).bind fun y4=>some (y4.1,())) else some (y2.1,())) else some (y2.1,())))) else (lets (rCmp .lss (rConv .i64 (rShift .shr .u64 (rConv .u64 (rArith .add .i64 a1 a3)) (1:Int))) (rArith .sub .i64 (rArith .add .i64 (rConv .i64 (rShift .shr .u64 (rConv .u64 (rArith .add .i64 a1 a3)) (1:Int))) a2) y1.2.1)) fun v2=>(bif v2 then (bif (rCmp .lss (rArith .sub .i64 (rArith .add .i64 (rConv .i64 (rShift .shr .u64 (rConv .u64 (rArith .add .i64 a1 a3)) (1:Int))) a2) y1.2.1) a3) then ((rec y1.1 (rConv .i64 (rShift .shr .u64 (rConv .u64 (rArith .add .i64 a1 a3)) (1:Int))) (rArith .sub .i64 (rArith .add .i64 (rConv .i64 (rShift .shr .u64 (rConv .u64 (rArith .add .i64 a1 a3)) (1:Int))) a2) y1.2.1) a3 a4).bind fun y3=>some (y3.1,())) else some (y1.1,())) else some (y1.1,())))) else (lets (rCmp .lss (rConv .i64 (rShift .shr .u64 (rConv .u64 (rArith .add .i64 a1 a3)) (1:Int))) (rArith .sub .i64 (rArith .add .i64 (rConv .i64 (rShift .shr .u64 (rConv .u64 (rArith .add .i64 a1 a3)) (1:Int))) a2) y1.2.1)) fun v2=>(bif v2 then (bif (rCmp .lss (rArith .sub .i64 (rArith .add .i64 (rConv .i64 (rShift .shr .u64 (rConv .u64 (rArith .add .i64 a1 a3)) (1:Int))) a2) y1.2.1) a3) then ((rec y1.1 (rConv .i64 (rShift .shr .u64 (rConv .u64 (rArith .add .i64 a1 a3)) (1:Int))) (rArith .sub .i64 (rArith .add .i64 (rConv .i64 (rShift .shr .u64 (rConv .u64 (rArith .add .i64 a1 a3)) (1:Int))) a2) y1.2.1) a3 a4).bind fun y3=>some (y3.1,())) else some (y1.1,())) else some (y1.1,())))))) (fun q2=>(Empty.elim q2)) q0))))))
noncomputable def slices_symMergeCmpFunc_int___impl_OrderOf_1_f:Nat→(List (Int))→Int→Int→Int→(List (Int×Int×Int×Int×Int×Int×Int))→Option ((List (Int))×Unit) | 0=>fun _ _ _ _ _=>none | n+1=>slices_symMergeCmpFunc_int___impl_OrderOf_1_r (slices_symMergeCmpFunc_int___impl_OrderOf_1_f n)
noncomputable def slices_symMergeCmpFunc_int___impl_OrderOf_1 (a0:(List (Int))) (a1:Int) (a2:Int) (a3:Int) (a4:(List (Int×Int×Int×Int×Int×Int×Int))):Option ((List (Int))×Unit):=slices_symMergeCmpFunc_int___impl_OrderOf_1_f big a0 a1 a2 a3 a4
noncomputable def slices_stableCmpFunc_int___impl_OrderOf_1_b0 (k:Int×(List (Int×Int×Int×Int×Int×Int×Int))×Int×Unit) (x:(List (Int))×Int×Int×Unit):Option (((List (Int))×Int×Int×Unit) ⊕ ((List (Int))×Int×Unit ⊕ Empty)):=
 (bif (rCmp .leq x.2.2.1 k.1) then ((slices_insertionSortCmpFunc_int___impl_OrderOf_1 x.1 x.2.1 x.2.2.1 k.2.1).bind fun y0=>some (.inl (y0.1,x.2.2.1,(rArith .add .i64 x.2.2.1 k.2.2.1),()))) else some (.inr (.inl (x.1,x.2.1,()))))
noncomputable def slices_stableCmpFunc_int___impl_OrderOf_1_l0 (k:Int×(List (Int×Int×Int×Int×Int×Int×Int))×Int×Unit) (x:(List (Int))×Int×Int×Unit):Option ((List (Int))×Int×Unit ⊕ Empty):=iter (slices_stableCmpFunc_int___impl_OrderOf_1_b0 k) big x
noncomputable def slices_stableCmpFunc_int___impl_OrderOf_1_b4 (k:Int×(List (Int×Int×Int×Int×Int×Int×Int))×Int×Unit) (x:(List (Int))×Int×Int×Unit):Option (((List (Int))×Int×Int×Unit) ⊕ ((List (Int))×Int×Unit ⊕ Empty)):=
 (bif (rCmp .leq x.2.2.1 k.1) then ((slices_symMergeCmpFunc_int___impl_OrderOf_1 x.1 x.2.1 (rArith .add .i64 x.2.1 k.2.2.1) x.2.2.1 k.2.1).bind fun y0=>some (.inl (y0.1,x.2.2.1,(rArith .add .i64 x.2.2.1 (rArith .mul .i64 (2:Int) k.2.2.1)),()))) else some (.inr (.inl (x.1,x.2.1,()))))
noncomputable def slices_stableCmpFunc_int___impl_OrderOf_1_l4 (k:Int×(List (Int×Int×Int×Int×Int×Int×Int))×Int×Unit) (x:(List (Int))×Int×Int×Unit):Option ((List (Int))×Int×Unit ⊕ Empty):=iter (slices_stableCmpFunc_int___impl_OrderOf_1_b4 k) big x
noncomputable def slices_stableCmpFunc_int___impl_OrderOf_1_b2 (k:Int×(List (Int×Int×Int×Int×Int×Int×Int))×Unit) (x:(List (Int))×Int×Unit):Option (((List (Int))×Int×Unit) ⊕ ((List (Int))×Unit ⊕ Empty)):=
 (bif (rCmp .lss x.2.1 k.1) then ((slices_stableCmpFunc_int___impl_OrderOf_1_l4 (k.1,k.2.1,x.2.1,()) (x.1,(0:Int),(rArith .mul .i64 (2:Int) x.2.1),())).bind fun q0=>(Sum.elim (fun y1=>(bif (rCmp .lss (rArith .add .i64 y1.2.1 x.2.1) k.1) then ((slices_symMergeCmpFunc_int___impl_OrderOf_1 y1.1 y1.2.1 (rArith .add .i64 y1.2.1 x.2.1) k.1 k.2.1).bind fun y2=>some (.inl (y2.1,(rArith .mul .i64 x.2.1 (2:Int)),()))) else some (.inl (y1.1,(rArith .mul .i64 x.2.1 (2:Int)),())))) (fun q2=>(Empty.elim q2)) q0)) else some (.inr (.inl (x.1,()))))
noncomputable def slices_stableCmpFunc_int___impl_OrderOf_1_l2 (k:Int×(List (Int×Int×Int×Int×Int×Int×Int))×Unit) (x:(List (Int))×Int×Unit):Option ((List (Int))×Unit ⊕ Empty):=iter (slices_stableCmpFunc_int___impl_OrderOf_1_b2 k) big x
noncomputable def slices_stableCmpFunc_int___impl_OrderOf_1 (a0:(List (Int))) (a1:Int) (a2:(List (Int×Int×Int×Int×Int×Int×Int))):Option ((List (Int))×Unit):=
 ((slices_stableCmpFunc_int___impl_OrderOf_1_l0 (a1,a2,(20:Int),()) (a0,(0:Int),(20:Int),())).bind fun q0=>(Sum.elim (fun y1=>((slices_insertionSortCmpFunc_int___impl_OrderOf_1 y1.1 y1.2.1 a1 a2).bind fun y2=>((slices_stableCmpFunc_int___impl_OrderOf_1_l2 (a1,a2,()) (y2.1,(20:Int),())).bind fun q3=>(Sum.elim (fun y4=>some (y4.1,())) (fun q5=>(Empty.elim q5)) q3)))) (fun q2=>(Empty.elim q2)) q0))
noncomputable def slices_SortStableFunc___int_int___impl_OrderOf_1 (a0:(List (Int))) (a1:(List (Int×Int×Int×Int×Int×Int×Int))):Option ((List (Int))×Unit):=
 ((slices_stableCmpFunc_int___impl_OrderOf_1 a0 (rLen a0) a1).bind fun y0=>some (y0.1,()))
noncomputable def impl_OrderOf_b0 (k:Int×Unit) (x:(List (Int×Int×Int×Int×Int×Int×Int))×(List (Int))×Int×Unit):Option (((List (Int×Int×Int×Int×Int×Int×Int))×(List (Int))×Int×Unit) ⊕ ((List (Int×Int×Int×Int×Int×Int×Int))×(List (Int))×Unit ⊕ Empty)):=
 (bif (rCmp .lss x.2.2.1 k.1) then (bif (rSmall (List.append (α:=Int) x.2.1 (List.append (α:=Int) ([]:List (Int)) [x.2.2.1]))) then some (.inl (x.1,(List.append (α:=Int) x.2.1 (List.append (α:=Int) ([]:List (Int)) [x.2.2.1])),(rArith .add .i64 x.2.2.1 (1:Int)),())) else none) else some (.inr (.inl (x.1,x.2.1,()))))
noncomputable def impl_OrderOf_l0 (k:Int×Unit) (x:(List (Int×Int×Int×Int×Int×Int×Int))×(List (Int))×Int×Unit):Option ((List (Int×Int×Int×Int×Int×Int×Int))×(List (Int))×Unit ⊕ Empty):=iter (impl_OrderOf_b0 k) big x
noncomputable def impl_OrderOf (a0:(List (Int×Int×Int×Int×Int×Int×Int))):Option ((List (Int))×Unit):=
 ((impl_JournalOk a0).bind fun y0=>(bif (Bool.not y0.1) then some (([]:List (Int)),()) else ((impl_OrderOf_l0 ((rLen a0),()) (a0,([]:List (Int)),(0:Int),())).bind fun q1=>(Sum.elim (fun y2=>((slices_SortStableFunc___int_int___impl_OrderOf_1 y2.2.1 y2.1).bind fun y3=>some (y3.1,()))) (fun q3=>(Empty.elim q3)) q1))))
noncomputable def spec_l08Next (a0:Int) (a1:Int) (a2:Int) (a3:Int) (a4:Int) (a5:Int) (a6:Int) (a7:Int) (a8:Int) (a9:Int) (a10:Int) (a11:Int) (a12:Int) (a13:Int):Option (Int×Int×Int×Int×Int×Int×Int×Unit):=
 (bif (rCmp .eql a10 (1:Int)) then (bif (rCmp .eql a0 (0:Int)) then some ((1:Int),a12,a13,a3,a4,a5,a6,()) else (bif (rCmp .eql a10 (2:Int)) then (bif (rCmp .eql a0 (1:Int)) then some (a0,a1,a2,(rArith .add .i64 a3 (1:Int)),a4,a5,a6,()) else (bif (rCmp .eql a10 (3:Int)) then (bif (rCmp .eql a0 (1:Int)) then some ((2:Int),a1,a2,a3,a12,a13,a6,()) else (bif (rCmp .eql a10 (4:Int)) then (bif (rCmp .eql a0 (1:Int)) then some ((3:Int),a1,a2,a3,a4,a13,a6,()) else some (a0,a1,a2,a3,a4,a5,(rArith .add .i64 a6 (1:Int)),())) else some (a0,a1,a2,a3,a4,a5,(rArith .add .i64 a6 (1:Int)),()))) else (bif (rCmp .eql a10 (4:Int)) then (bif (rCmp .eql a0 (1:Int)) then some ((3:Int),a1,a2,a3,a4,a13,a6,()) else some (a0,a1,a2,a3,a4,a5,(rArith .add .i64 a6 (1:Int)),())) else some (a0,a1,a2,a3,a4,a5,(rArith .add .i64 a6 (1:Int)),())))) else (bif (rCmp .eql a10 (3:Int)) then (bif (rCmp .eql a0 (1:Int)) then some ((2:Int),a1,a2,a3,a12,a13,a6,()) else (bif (rCmp .eql a10 (4:Int)) then (bif (rCmp .eql a0 (1:Int)) then some ((3:Int),a1,a2,a3,a4,a13,a6,()) else some (a0,a1,a2,a3,a4,a5,(rArith .add .i64 a6 (1:Int)),())) else some (a0,a1,a2,a3,a4,a5,(rArith .add .i64 a6 (1:Int)),()))) else (bif (rCmp .eql a10 (4:Int)) then (bif (rCmp .eql a0 (1:Int)) then some ((3:Int),a1,a2,a3,a4,a13,a6,()) else some (a0,a1,a2,a3,a4,a5,(rArith .add .i64 a6 (1:Int)),())) else some (a0,a1,a2,a3,a4,a5,(rArith .add .i64 a6 (1:Int)),()))))) else (bif (rCmp .eql a10 (2:Int)) then (bif (rCmp .eql a0 (1:Int)) then some (a0,a1,a2,(rArith .add .i64 a3 (1:Int)),a4,a5,a6,()) else (bif (rCmp .eql a10 (3:Int)) then (bif (rCmp .eql a0 (1:Int)) then some ((2:Int),a1,a2,a3,a12,a13,a6,()) else (bif (rCmp .eql a10 (4:Int)) then (bif (rCmp .eql a0 (1:Int)) then some ((3:Int),a1,a2,a3,a4,a13,a6,()) else some (a0,a1,a2,a3,a4,a5,(rArith .add .i64 a6 (1:Int)),())) else some (a0,a1,a2,a3,a4,a5,(rArith .add .i64 a6 (1:Int)),()))) else (bif (rCmp .eql a10 (4:Int)) then (bif (rCmp .eql a0 (1:Int)) then some ((3:Int),a1,a2,a3,a4,a13,a6,()) else some (a0,a1,a2,a3,a4,a5,(rArith .add .i64 a6 (1:Int)),())) else some (a0,a1,a2,a3,a4,a5,(rArith .add .i64 a6 (1:Int)),())))) else (bif (rCmp .eql a10 (3:Int)) then (bif (rCmp .eql a0 (1:Int)) then some ((2:Int),a1,a2,a3,a12,a13,a6,()) else (bif (rCmp .eql a10 (4:Int)) then (bif (rCmp .eql a0 (1:Int)) then some ((3:Int),a1,a2,a3,a4,a13,a6,()) else some (a0,a1,a2,a3,a4,a5,(rArith .add .i64 a6 (1:Int)),())) else some (a0,a1,a2,a3,a4,a5,(rArith .add .i64 a6 (1:Int)),()))) else (bif (rCmp .eql a10 (4:Int)) then (bif (rCmp .eql a0 (1:Int)) then some ((3:Int),a1,a2,a3,a4,a13,a6,()) else some (a0,a1,a2,a3,a4,a5,(rArith .add .i64 a6 (1:Int)),())) else some (a0,a1,a2,a3,a4,a5,(rArith .add .i64 a6 (1:Int)),())))))
noncomputable def spec_FateOf_b0 (k:(List (Int×Int×Int×Int×Int×Int×Int))×Int×Unit) (x:Int×Int×Int×Int×Int×Int×Int×Int×Int×Int×Int×Int×Int×Int×(List (Int))×Int×Unit):Option ((Int×Int×Int×Int×Int×Int×Int×Int×Int×Int×Int×Int×Int×Int×(List (Int))×Int×Unit) ⊕ (Int×Int×Int×Int×Int×Int×Int×Int×Int×Int×Int×Int×Int×Int×Unit ⊕ Empty)):=
 (bif (rCmp .lss x.2.2.2.2.2.2.2.2.2.2.2.2.2.2.2.1 (rLen x.2.2.2.2.2.2.2.2.2.2.2.2.2.2.1)) then (bif (rInR x.2.2.2.2.2.2.2.2.2.2.2.2.2.2.1 x.2.2.2.2.2.2.2.2.2.2.2.2.2.2.2.1) then (bif (rInR k.1 (rGet zI x.2.2.2.2.2.2.2.2.2.2.2.2.2.2.1 x.2.2.2.2.2.2.2.2.2.2.2.2.2.2.2.1)) then (bif (rCmp .eql (rGet zIIIIIII k.1 (rGet zI x.2.2.2.2.2.2.2.2.2.2.2.2.2.2.1 x.2.2.2.2.2.2.2.2.2.2.2.2.2.2.2.1)).2.2.2.2.1 k.2.1) then ((spec_l08Next x.2.2.2.2.2.2.2.1 x.2.2.2.2.2.2.2.2.1 x.2.2.2.2.2.2.2.2.2.1 x.2.2.2.2.2.2.2.2.2.2.1 x.2.2.2.2.2.2.2.2.2.2.2.1 x.2.2.2.2.2.2.2.2.2.2.2.2.1 x.2.2.2.2.2.2.2.2.2.2.2.2.2.1 (rGet zIIIIIII k.1 (rGet zI x.2.2.2.2.2.2.2.2.2.2.2.2.2.2.1 x.2.2.2.2.2.2.2.2.2.2.2.2.2.2.2.1)).1 (rGet zIIIIIII k.1 (rGet zI x.2.2.2.2.2.2.2.2.2.2.2.2.2.2.1 x.2.2.2.2.2.2.2.2.2.2.2.2.2.2.2.1)).2.1 (rGet zIIIIIII k.1 (rGet zI x.2.2.2.2.2.2.2.2.2.2.2.2.2.2.1 x.2.2.2.2.2.2.2.2.2.2.2.2.2.2.2.1)).2.2.1 (rGet zIIIIIII k.1 (rGet zI x.2.2.2.2.2.2.2.2.2.2.2.2.2.2.1 x.2.2.2.2.2.2.2.2.2.2.2.2.2.2.2.1)).2.2.2.1 (rGet zIIIIIII k.1 (rGet zI x.2.2.2.2.2.2.2.2.2.2.2.2.2.2.1 x.2.2.2.2.2.2.2.2.2.2.2.2.2.2.2.1)).2.2.2.2.1 (rGet zIIIIIII k.1 (rGet zI x.2.2.2.2.2.2.2.2.2.2.2.2.2.2.1 x.2.2.2.2.2.2.2.2.2.2.2.2.2.2.2.1)).2.2.2.2.2.1 (rGet zIIIIIII k.1 (rGet zI x.2.2.2.2.2.2.2.2.2.2.2.2.2.2.1 x.2.2.2.2.2.2.2.2.2.2.2.2.2.2.2.1)).2.2.2.2.2.2).bind fun y0=>some (.inl (x.1,x.2.1,x.2.2.1,x.2.2.2.1,x.2.2.2.2.1,x.2.2.2.2.2.1,x.2.2.2.2.2.2.1,y0.1,y0.2.1,y0.2.2.1,y0.2.2.2.1,y0.2.2.2.2.1,y0.2.2.2.2.2.1,y0.2.2.2.2.2.2.1,x.2.2.2.2.2.2.2.2.2.2.2.2.2.2.1,(rArith .add .i64 x.2.2.2.2.2.2.2.2.2.2.2.2.2.2.2.1 (1:Int)),()))) else some (.inl (x.1,x.2.1,x.2.2.1,x.2.2.2.1,x.2.2.2.2.1,x.2.2.2.2.2.1,x.2.2.2.2.2.2.1,x.2.2.2.2.2.2.2.1,x.2.2.2.2.2.2.2.2.1,x.2.2.2.2.2.2.2.2.2.1,x.2.2.2.2.2.2.2.2.2.2.1,x.2.2.2.2.2.2.2.2.2.2.2.1,x.2.2.2.2.2.2.2.2.2.2.2.2.1,x.2.2.2.2.2.2.2.2.2.2.2.2.2.1,x.2.2.2.2.2.2.2.2.2.2.2.2.2.2.1,(rArith .add .i64 x.2.2.2.2.2.2.2.2.2.2.2.2.2.2.2.1 (1:Int)),()))) else none) else none) else some (.inr (.inl (x.1,x.2.1,x.2.2.1,x.2.2.2.1,x.2.2.2.2.1,x.2.2.2.2.2.1,x.2.2.2.2.2.2.1,x.2.2.2.2.2.2.2.1,x.2.2.2.2.2.2.2.2.1,x.2.2.2.2.2.2.2.2.2.1,x.2.2.2.2.2.2.2.2.2.2.1,x.2.2.2.2.2.2.2.2.2.2.2.1,x.2.2.2.2.2.2.2.2.2.2.2.2.1,x.2.2.2.2.2.2.2.2.2.2.2.2.2.1,()))))
noncomputable def spec_FateOf_l0 (k:(List (Int×Int×Int×Int×Int×Int×Int))×Int×Unit) (x:Int×Int×Int×Int×Int×Int×Int×Int×Int×Int×Int×Int×Int×Int×(List (Int))×Int×Unit):Option (Int×Int×Int×Int×Int×Int×Int×Int×Int×Int×Int×Int×Int×Int×Unit ⊕ Empty):=iter (spec_FateOf_b0 k) big x
noncomputable def spec_FateOf (a0:(List (Int×Int×Int×Int×Int×Int×Int))) (a1:Int):Option (Int×Int×Int×Int×Int×Int×Int×Unit):=
 ((spec_OrderOf a0).bind fun y0=>((spec_FateOf_l0 (a0,a1,()) ((0:Int),(0:Int),(0:Int),(0:Int),(0:Int),(0:Int),(0:Int),(0:Int),(0:Int),(0:Int),(0:Int),(0:Int),(0:Int),(0:Int),y0.1,(0:Int),())).bind fun q1=>(Sum.elim (fun y2=>some (y2.2.2.2.2.2.2.2.1,y2.2.2.2.2.2.2.2.2.1,y2.2.2.2.2.2.2.2.2.2.1,y2.2.2.2.2.2.2.2.2.2.2.1,y2.2.2.2.2.2.2.2.2.2.2.2.1,y2.2.2.2.2.2.2.2.2.2.2.2.2.1,y2.2.2.2.2.2.2.2.2.2.2.2.2.2.1,())) (fun q3=>(Empty.elim q3)) q1)))
noncomputable def impl_FateOf_b0 (k:(List (Int×Int×Int×Int×Int×Int×Int))×Int×Int×Unit) (x:Int×Int×Int×Int×Int×Int×Int×Int×Int×Int×Int×Int×Int×Int×(List (Int))×Int×Unit):Option ((Int×Int×Int×Int×Int×Int×Int×Int×Int×Int×Int×Int×Int×Int×(List (Int))×Int×Unit) ⊕ (Int×Int×Int×Int×Int×Int×Int×Int×Int×Int×Int×Int×Int×Int×Unit ⊕ Empty)):=
 (bif (rCmp .lss x.2.2.2.2.2.2.2.2.2.2.2.2.2.2.2.1 k.2.2.1) then (bif (rInR x.2.2.2.2.2.2.2.2.2.2.2.2.2.2.1 x.2.2.2.2.2.2.2.2.2.2.2.2.2.2.2.1) then (bif (rInR k.1 (rGet zI x.2.2.2.2.2.2.2.2.2.2.2.2.2.2.1 x.2.2.2.2.2.2.2.2.2.2.2.2.2.2.2.1)) then (bif (rCmp .neq (rGet zIIIIIII k.1 (rGet zI x.2.2.2.2.2.2.2.2.2.2.2.2.2.2.1 x.2.2.2.2.2.2.2.2.2.2.2.2.2.2.2.1)).2.2.2.2.1 k.2.1) then some (.inl (x.1,x.2.1,x.2.2.1,x.2.2.2.1,x.2.2.2.2.1,x.2.2.2.2.2.1,x.2.2.2.2.2.2.1,x.2.2.2.2.2.2.2.1,x.2.2.2.2.2.2.2.2.1,x.2.2.2.2.2.2.2.2.2.1,x.2.2.2.2.2.2.2.2.2.2.1,x.2.2.2.2.2.2.2.2.2.2.2.1,x.2.2.2.2.2.2.2.2.2.2.2.2.1,x.2.2.2.2.2.2.2.2.2.2.2.2.2.1,x.2.2.2.2.2.2.2.2.2.2.2.2.2.2.1,(rArith .add .i64 x.2.2.2.2.2.2.2.2.2.2.2.2.2.2.2.1 (1:Int)),())) else (bif (rCmp .eql (rGet zIIIIIII k.1 (rGet zI x.2.2.2.2.2.2.2.2.2.2.2.2.2.2.1 x.2.2.2.2.2.2.2.2.2.2.2.2.2.2.2.1)).2.2.2.1 (1:Int)) then (bif (rCmp .neq x.2.2.2.2.2.2.2.1 (0:Int)) then some (.inl (x.1,x.2.1,x.2.2.1,x.2.2.2.1,x.2.2.2.2.1,x.2.2.2.2.2.1,x.2.2.2.2.2.2.1,x.2.2.2.2.2.2.2.1,x.2.2.2.2.2.2.2.2.1,x.2.2.2.2.2.2.2.2.2.1,x.2.2.2.2.2.2.2.2.2.2.1,x.2.2.2.2.2.2.2.2.2.2.2.1,x.2.2.2.2.2.2.2.2.2.2.2.2.1,(rArith .add .i64 x.2.2.2.2.2.2.2.2.2.2.2.2.2.1 (1:Int)),x.2.2.2.2.2.2.2.2.2.2.2.2.2.2.1,(rArith .add .i64 x.2.2.2.2.2.2.2.2.2.2.2.2.2.2.2.1 (1:Int)),())) else (bif (rCmp .eql (rGet zIIIIIII k.1 (rGet zI x.2.2.2.2.2.2.2.2.2.2.2.2.2.2.1 x.2.2.2.2.2.2.2.2.2.2.2.2.2.2.2.1)).2.2.2.1 (1:Int)) then some (.inl (x.1,x.2.1,x.2.2.1,x.2.2.2.1,x.2.2.2.2.1,x.2.2.2.2.2.1,x.2.2.2.2.2.2.1,(1:Int),(rGet zIIIIIII k.1 (rGet zI x.2.2.2.2.2.2.2.2.2.2.2.2.2.2.1 x.2.2.2.2.2.2.2.2.2.2.2.2.2.2.2.1)).2.2.2.2.2.1,(rGet zIIIIIII k.1 (rGet zI x.2.2.2.2.2.2.2.2.2.2.2.2.2.2.1 x.2.2.2.2.2.2.2.2.2.2.2.2.2.2.2.1)).2.2.2.2.2.2,x.2.2.2.2.2.2.2.2.2.2.1,x.2.2.2.2.2.2.2.2.2.2.2.1,x.2.2.2.2.2.2.2.2.2.2.2.2.1,x.2.2.2.2.2.2.2.2.2.2.2.2.2.1,x.2.2.2.2.2.2.2.2.2.2.2.2.2.2.1,(rArith .add .i64 x.2.2.2.2.2.2.2.2.2.2.2.2.2.2.2.1 (1:Int)),())) else (bif (rCmp .eql (rGet zIIIIIII k.1 (rGet zI x.2.2.2.2.2.2.2.2.2.2.2.2.2.2.1 x.2.2.2.2.2.2.2.2.2.2.2.2.2.2.2.1)).2.2.2.1 (2:Int)) then some (.inl (x.1,x.2.1,x.2.2.1,x.2.2.2.1,x.2.2.2.2.1,x.2.2.2.2.2.1,x.2.2.2.2.2.2.1,x.2.2.2.2.2.2.2.1,x.2.2.2.2.2.2.2.2.1,x.2.2.2.2.2.2.2.2.2.1,(rArith .add .i64 x.2.2.2.2.2.2.2.2.2.2.1 (1:Int)),x.2.2.2.2.2.2.2.2.2.2.2.1,x.2.2.2.2.2.2.2.2.2.2.2.2.1,x.2.2.2.2.2.2.2.2.2.2.2.2.2.1,x.2.2.2.2.2.2.2.2.2.2.2.2.2.2.1,(rArith .add .i64 x.2.2.2.2.2.2.2.2.2.2.2.2.2.2.2.1 (1:Int)),())) else (bif (rCmp .eql (rGet zIIIIIII k.1 (rGet zI x.2.2.2.2.2.2.2.2.2.2.2.2.2.2.1 x.2.2.2.2.2.2.2.2.2.2.2.2.2.2.2.1)).2.2.2.1 (3:Int)) then some (.inl (x.1,x.2.1,x.2.2.1,x.2.2.2.1,x.2.2.2.2.1,x.2.2.2.2.2.1,x.2.2.2.2.2.2.1,(2:Int),x.2.2.2.2.2.2.2.2.1,x.2.2.2.2.2.2.2.2.2.1,x.2.2.2.2.2.2.2.2.2.2.1,(rGet zIIIIIII k.1 (rGet zI x.2.2.2.2.2.2.2.2.2.2.2.2.2.2.1 x.2.2.2.2.2.2.2.2.2.2.2.2.2.2.2.1)).2.2.2.2.2.1,(rGet zIIIIIII k.1 (rGet zI x.2.2.2.2.2.2.2.2.2.2.2.2.2.2.1 x.2.2.2.2.2.2.2.2.2.2.2.2.2.2.2.1)).2.2.2.2.2.2,x.2.2.2.2.2.2.2.2.2.2.2.2.2.1,x.2.2.2.2.2.2.2.2.2.2.2.2.2.2.1,(rArith .add .i64 x.2.2.2.2.2.2.2.2.2.2.2.2.2.2.2.1 (1:Int)),())) else (bif (rCmp .eql (rGet zIIIIIII k.1 (rGet zI x.2.2.2.2.2.2.2.2.2.2.2.2.2.2.1 x.2.2.2.2.2.2.2.2.2.2.2.2.2.2.2.1)).2.2.2.1 (4:Int)) then some (.inl (x.1,x.2.1,x.2.2.1,x.2.2.2.1,x.2.2.2.2.1,x.2.2.2.2.2.1,x.2.2.2.2.2.2.1,(3:Int),x.2.2.2.2.2.2.2.2.1,x.2.2.2.2.2.2.2.2.2.1,x.2.2.2.2.2.2.2.2.2.2.1,x.2.2.2.2.2.2.2.2.2.2.2.1,(rGet zIIIIIII k.1 (rGet zI x.2.2.2.2.2.2.2.2.2.2.2.2.2.2.1 x.2.2.2.2.2.2.2.2.2.2.2.2.2.2.2.1)).2.2.2.2.2.2,x.2.2.2.2.2.2.2.2.2.2.2.2.2.1,x.2.2.2.2.2.2.2.2.2.2.2.2.2.2.1,(rArith .add .i64 x.2.2.2.2.2.2.2.2.2.2.2.2.2.2.2.1 (1:Int)),())) else some (.inl (x.1,x.2.1,x.2.2.1,x.2.2.2.1,x.2.2.2.2.1,x.2.2.2.2.2.1,x.2.2.2.2.2.2.1,x.2.2.2.2.2.2.2.1,x.2.2.2.2.2.2.2.2.1,x.2.2.2.2.2.2.2.2.2.1,x.2.2.2.2.2.2.2.2.2.2.1,x.2.2.2.2.2.2.2.2.2.2.2.1,x.2.2.2.2.2.2.2.2.2.2.2.2.1,x.2.2.2.2.2.2.2.2.2.2.2.2.2.1,x.2.2.2.2.2.2.2.2.2.2.2.2.2.2.1,(rArith .add .i64 x.2.2.2.2.2.2.2.2.2.2.2.2.2.2.2.1 (1:Int)),()))))))) else (bif (rCmp .neq x.2.2.2.2.2.2.2.1 (1:Int)) then some (.inl (x.1,x.2.1,x.2.2.1,x.2.2.2.1,x.2.2.2.2.1,x.2.2.2.2.2.1,x.2.2.2.2.2.2.1,x.2.2.2.2.2.2.2.1,x.2.2.2.2.2.2.2.2.1,x.2.2.2.2.2.2.2.2.2.1,x.2.2.2.2.2.2.2.2.2.2.1,x.2.2.2.2.2.2.2.2.2.2.2.1,x.2.2.2.2.2.2.2.2.2.2.2.2.1,(rArith .add .i64 x.2.2.2.2.2.2.2.2.2.2.2.2.2.1 (1:Int)),x.2.2.2.2.2.2.2.2.2.2.2.2.2.2.1,(rArith .add .i64 x.2.2.2.2.2.2.2.2.2.2.2.2.2.2.2.1 (1:Int)),())) else (bif (rCmp .eql (rGet zIIIIIII k.1 (rGet zI x.2.2.2.2.2.2.2.2.2.2.2.2.2.2.1 x.2.2.2.2.2.2.2.2.2.2.2.2.2.2.2.1)).2.2.2.1 (1:Int)) then some (.inl (x.1,x.2.1,x.2.2.1,x.2.2.2.1,x.2.2.2.2.1,x.2.2.2.2.2.1,x.2.2.2.2.2.2.1,(1:Int),(rGet zIIIIIII k.1 (rGet zI x.2.2.2.2.2.2.2.2.2.2.2.2.2.2.1 x.2.2.2.2.2.2.2.2.2.2.2.2.2.2.2.1)).2.2.2.2.2.1,(rGet zIIIIIII k.1 (rGet zI x.2.2.2.2.2.2.2.2.2.2.2.2.2.2.1 x.2.2.2.2.2.2.2.2.2.2.2.2.2.2.2.1)).2.2.2.2.2.2,x.2.2.2.2.2.2.2.2.2.2.1,x.2.2.2.2.2.2.2.2.2.2.2.1,x.2.2.2.2.2.2.2.2.2.2.2.2.1,x.2.2.2.2.2.2.2.2.2.2.2.2.2.1,x.2.2.2.2.2.2.2.2.2.2.2.2.2.2.1,(rArith .add .i64 x.2.2.2.2.2.2.2.2.2.2.2.2.2.2.2.1 (1:Int)),())) else (bif (rCmp .eql (rGet zIIIIIII k.1 (rGet zI x.2.2.2.2.2.2.2.2.2.2.2.2.2.2.1 x.2.2.2.2.2.2.2.2.2.2.2.2.2.2.2.1)).2.2.2.1 (2:Int)) then some (.inl (x.1,x.2.1,x.2.2.1,x.2.2.2.1,x.2.2.2.2.1,x.2.2.2.2.2.1,x.2.2.2.2.2.2.1,x.2.2.2.2.2.2.2.1,x.2.2.2.2.2.2.2.2.1,x.2.2.2.2.2.2.2.2.2.1,(rArith .add .i64 x.2.2.2.2.2.2.2.2.2.2.1 (1:Int)),x.2.2.2.2.2.2.2.2.2.2.2.1,x.2.2.2.2.2.2.2.2.2.2.2.2.1,x.2.2.2.2.2.2.2.2.2.2.2.2.2.1,x.2.2.2.2.2.2.2.2.2.2.2.2.2.2.1,(rArith .add .i64 x.2.2.2.2.2.2.2.2.2.2.2.2.2.2.2.1 (1:Int)),())) else (bif (rCmp .eql (rGet zIIIIIII k.1 (rGet zI x.2.2.2.2.2.2.2.2.2.2.2.2.2.2.1 x.2.2.2.2.2.2.2.2.2.2.2.2.2.2.2.1)).2.2.2.1 (3:Int)) then some (.inl (x.1,x.2.1,x.2.2.1,x.2.2.2.1,x.2.2.2.2.1,x.2.2.2.2.2.1,x.2.2.2.2.2.2.1,(2:Int),x.2.2.2.2.2.2.2.2.1,x.2.2.2.2.2.2.2.2.2.1,x.2.2.2.2.2.2.2.2.2.2.1,(rGet zIIIIIII k.1 (rGet zI x.2.2.2.2.2.2.2.2.2.2.2.2.2.2.1 x.2.2.2.2.2.2.2.2.2.2.2.2.2.2.2.1)).2.2.2.2.2.1,(rGet zIIIIIII k.1 (rGet zI x.2.2.2.2.2.2.2.2.2.2.2.2.2.2.1 x.2.2.2.2.2.2.2.2.2.2.2.2.2.2.2.1)).2.2.2.2.2.2,x.2.2.2.2.2.2.2.2.2.2.2.2.2.1,x.2.2.2.2.2.2.2.2.2.2.2.2.2.2.1,(rArith .add .i64 x.2.2.2.2.2.2.2.2.2.2.2.2.2.2.2.1 (1:Int)),())) else (bif (rCmp .eql (rGet zIIIIIII k.1 (rGet zI x.2.2.2.2.2.2.2.2.2.2.2.2.2.2.1 x.2.2.2.2.2.2.2.2.2.2.2.2.2.2.2.1)).2.2.2.1 (4:Int)) then some (.inl (x.1,x.2.1,x.2.2.1,x.2.2.2.1,x.2.2.2.2.1,x.2.2.2.2.2.1,x.2.2.2.2.2.2.1,(3:Int),x.2.2.2.2.2.2.2.2.1,x.2.2.2.2.2.2.2.2.2.1,x.2.2.2.2.2.2.2.2.2.2.1,x.2.2.2.2.2.2.2.2.2.2.2.1,(rGet zIIIIIII k.1 (rGet zI x.2.2.2.2.2.2.2.2.2.2.2.2.2.2.1 x.2.2.2.2.2.2.2.2.2.2.2.2.2.2.2.1)).2.2.2.2.2.2,x.2.2.2.2.2.2.2.2.2.2.2.2.2.1,x.2.2.2.2.2.2.2.2.2.2.2.2.2.2.1,(rArith .add .i64 x.2.2.2.2.2.2.2.2.2.2.2.2.2.2.2.1 (1:Int)),())) else some (.inl (x.1,x.2.1,x.2.2.1,x.2.2.2.1,x.2.2.2.2.1,x.2.2.2.2.2.1,x.2.2.2.2.2.2.1,x.2.2.2.2.2.2.2.1,x.2.2.2.2.2.2.2.2.1,x.2.2.2.2.2.2.2.2.2.1,x.2.2.2.2.2.2.2.2.2.2.1,x.2.2.2.2.2.2.2.2.2.2.2.1,x.2.2.2.2.2.2.2.2.2.2.2.2.1,x.2.2.2.2.2.2.2.2.2.2.2.2.2.1,x.2.2.2.2.2.2.2.2.2.2.2.2.2.2.1,(rArith .add .i64 x.2.2.2.2.2.2.2.2.2.2.2.2.2.2.2.1 (1:Int)),()))))))))) else none) else none) else some (.inr (.inl (x.1,x.2.1,x.2.2.1,x.2.2.2.1,x.2.2.2.2.1,x.2.2.2.2.2.1,x.2.2.2.2.2.2.1,x.2.2.2.2.2.2.2.1,x.2.2.2.2.2.2.2.2.1,x.2.2.2.2.2.2.2.2.2.1,x.2.2.2.2.2.2.2.2.2.2.1,x.2.2.2.2.2.2.2.2.2.2.2.1,x.2.2.2.2.2.2.2.2.2.2.2.2.1,x.2.2.2.2.2.2.2.2.2.2.2.2.2.1,()))))
noncomputable def impl_FateOf_l0 (k:(List (Int×Int×Int×Int×Int×Int×Int))×Int×Int×Unit) (x:Int×Int×Int×Int×Int×Int×Int×Int×Int×Int×Int×Int×Int×Int×(List (Int))×Int×Unit):Option (Int×Int×Int×Int×Int×Int×Int×Int×Int×Int×Int×Int×Int×Int×Unit ⊕ Empty):=iter (impl_FateOf_b0 k) big x
noncomputable def impl_FateOf (a0:(List (Int×Int×Int×Int×Int×Int×Int))) (a1:Int):Option (Int×Int×Int×Int×Int×Int×Int×Unit):=
 ((impl_OrderOf a0).bind fun y0=>((impl_FateOf_l0 (a0,a1,(rLen y0.1),()) ((0:Int),(0:Int),(0:Int),(0:Int),(0:Int),(0:Int),(0:Int),(0:Int),(0:Int),(0:Int),(0:Int),(0:Int),(0:Int),(0:Int),y0.1,(0:Int),())).bind fun q1=>(Sum.elim (fun y2=>some (y2.2.2.2.2.2.2.2.1,y2.2.2.2.2.2.2.2.2.1,y2.2.2.2.2.2.2.2.2.2.1,y2.2.2.2.2.2.2.2.2.2.2.1,y2.2.2.2.2.2.2.2.2.2.2.2.1,y2.2.2.2.2.2.2.2.2.2.2.2.2.1,y2.2.2.2.2.2.2.2.2.2.2.2.2.2.1,())) (fun q3=>(Empty.elim q3)) q1)))
noncomputable def laws_eqFate (a0:Int) (a1:Int) (a2:Int) (a3:Int) (a4:Int) (a5:Int) (a6:Int) (a7:Int) (a8:Int) (a9:Int) (a10:Int) (a11:Int) (a12:Int) (a13:Int):Option (Bool×Unit):=
 (bif (rCmp .neq a0 a7) then some (false,()) else (bif (rCmp .neq a1 a8) then some (false,()) else (bif (rCmp .neq a2 a9) then some (false,()) else (bif (rCmp .neq a3 a10) then some (false,()) else (bif (rCmp .neq a4 a11) then some (false,()) else (bif (rCmp .neq a5 a12) then some (false,()) else (bif (rCmp .neq a6 a13) then some (false,()) else some (true,()))))))))
end Go.Fn
namespace Go.Fn
open Go.R
abbrev Ev:=Int×Int×Int×Int×Int×Int×Int
noncomputable def inB (a lo hi:Int):Bool:=bif decide (a ≥ lo) then decide (a≤hi) else false
theorem within_eq (a lo hi:Int):impl_within a lo hi=some (inB a lo hi,()):=by
 unfold impl_within inB
 simp only [rCmp]
 cases decide (a ≥ lo) <;> rfl
theorem in_eq (a lo hi:Int):spec_l01In a lo hi=some (inB a lo hi,()):=within_eq a lo hi
theorem timeOk_eq (a:Int):impl_timeOk a=some (inB a 0 20000,()):=by unfold impl_timeOk;rw [within_eq];rfl
noncomputable def evOk (e:Ev):Bool:=bif inB e.1 0 5 then bif inB e.2.1 1 999 then bif inB e.2.2.1 1 100000 then bif inB e.2.2.2.1 1 4 then bif inB e.2.2.2.2.1 1 999 then bif inB e.2.2.2.2.2.1 0 20000 then inB e.2.2.2.2.2.2 0 20000 else false else false else false else false else false else false
theorem bif_some {α:Type} (b:Bool) (x y:α):(bif b then some x else some y)=some (bif b then x else y):=by cases b <;> rfl
theorem bif_pair (b x y:Bool):(bif b then (x,()) else (y,()))=((bif b then x else y),()):=by cases b <;> rfl
theorem specOk_eq (a b c d e f g:Int):spec_EventOk a b c d e f g=some (evOk (a,b,c,d,e,f,g),()):=by
 unfold spec_EventOk evOk
 simp only [in_eq,Option.bind_some,bif_some,bif_pair]
theorem implOk_eq (a b c d e f g:Int):impl_EventOk a b c d e f g=some (evOk (a,b,c,d,e,f,g),()):=by
 unfold impl_EventOk evOk
 simp only [within_eq,timeOk_eq,Option.bind_some,bif_some,bif_pair]
noncomputable def ordOk (p e:Ev):Bool:=!(decide (e.1 < p.1) || (decide (e.1=p.1) && (decide (e.2.1≤p.2.1) || decide (e.2.2.1≤p.2.2.1))))
noncomputable def jokAt (l:List Ev):Nat→Bool
 | 0=>evOk (l.getD 0 zIIIIIII)
 | n+1=>evOk (l.getD (n+1) zIIIIIII) && ordOk (l.getD n zIIIIIII) (l.getD (n+1) zIIIIIII)
noncomputable def jok (l:List Ev):Bool:=bif decide (60 < l.length) then false else allFrom (jokAt l) 0 l.length
theorem len60 (l:List Ev):rCmp .gtr (rLen l) (60:Int)=decide (60 < l.length):=by
 simp only [rCmp,rLen,gt_iff_lt,decide_eq_decide]
 omega
theorem implJ_eq (l:List Ev):impl_JournalOk l=some (jok l,()):=by
 unfold impl_JournalOk jok
 rw [len60]
 cases hl:decide (60 < l.length) with
 | true=>rfl
 | false =>
  have hl:l.length≤60:=by have:=of_decide_eq_false hl;omega
  have hloop:impl_JournalOk_l0 (l,l,(rLen l),()) ((0:Int),())=some (bif allFrom (jokAt l) 0 l.length then (Sum.inr (Sum.inl ()):Bool×Unit ⊕ (Unit ⊕ Empty)) else Sum.inl (false,())):=by
   refine loop_all (fun n=>((n:Int),())) l.length (by omega) (jokAt l) _ _ (fun n hn=>?_) ?_
   ·unfold impl_JournalOk_b0
    simp only [lss_len,inR_nat,get_nat,implOk_eq,hn,decide_true,cond_true,Option.bind_some]
    cases n with
    | zero =>
     simp only [jokAt]
     cases evOk (l.getD 0 zIIIIIII) <;> rfl
    | succ n =>
     have hn':n < l.length:=by omega
     simp only [jokAt,succ64 (n:=n+1) (by omega),pred64 (n:=n) (by omega),inR_lt hn',get_nat,ordOk,rCmp]
     have e0:((((n+1:Nat):Int)) == 0)=false:=by rw [beq_eq_false_iff_ne];omega
     rw [e0]
     simp only [cond_false,cond_true]
     generalize l.getD (n+1) zIIIIIII=e
     generalize l.getD n zIIIIIII=p
     show (bif !(evOk e) then _ else _)=_
     cases evOk e with
     | false=>rfl
     | true =>
      simp only [Bool.not_true,cond_false,Bool.true_and]
      cases decide (e.1 < p.1) with
      | true=>rfl
      | false =>
       simp only [cond_false,Bool.false_or]
       have eb:(e.1 == p.1)=decide (e.1=p.1):=rfl
       rw [eb]
       cases decide (e.1=p.1) with
       | false=>rfl
       | true =>
        simp only [cond_true,Bool.true_and]
        cases decide (e.2.1≤p.2.1) with
        | true=>rfl
        | false=>cases decide (e.2.2.1≤p.2.2.1) <;> rfl
   ·unfold impl_JournalOk_b0
    simp only [lss_len,Nat.lt_irrefl,decide_false,cond_false]
  rw [hloop]
  cases allFrom (jokAt l) 0 l.length <;> rfl
theorem gt0 (n:Nat):rCmp .gtr ((n+1:Nat):Int) 0=true:=by simp only [rCmp,gt_iff_lt,decide_eq_true_eq];omega
theorem specJ_eq (l:List Ev):spec_JournalOk l=some (jok l,()):=by
 unfold spec_JournalOk jok
 rw [len60]
 cases hl:decide (60 < l.length) with
 | true=>rfl
 | false =>
  have hl:l.length≤60:=by have:=of_decide_eq_false hl;omega
  have hloop:spec_JournalOk_l0 (l,()) ((0:Int),())=some (bif allFrom (jokAt l) 0 l.length then (Sum.inr (Sum.inl ()):Bool×Unit ⊕ (Unit ⊕ Empty)) else Sum.inl (false,())):=by
   refine loop_all (fun n=>((n:Int),())) l.length (by omega) (jokAt l) _ _ (fun n hn=>?_) ?_
   ·unfold spec_JournalOk_b0
    simp only [lss_len,inR_nat,get_nat,specOk_eq,hn,decide_true,cond_true,Option.bind_some]
    cases n with
    | zero =>
     simp only [jokAt]
     cases evOk (l.getD 0 zIIIIIII) <;> rfl
    | succ n =>
     have hn':n < l.length:=by omega
     simp only [jokAt,gt0,succ64 (n:=n+1) (by omega),pred64 (n:=n) (by omega),inR_lt hn',get_nat,ordOk,cond_true]
     simp only [rCmp]
     generalize l.getD (n+1) zIIIIIII=e
     generalize l.getD n zIIIIIII=p
     show (bif !(evOk e) then _ else _)=_
     cases evOk e with
     | false=>rfl
     | true =>
      simp only [Bool.not_true,cond_false,Bool.true_and]
      cases decide (e.1 < p.1) with
      | true=>rfl
      | false =>
       simp only [cond_false,Bool.false_or]
       have eb:(e.1 == p.1)=decide (e.1=p.1):=rfl
       rw [eb]
       cases decide (e.1=p.1) with
       | false=>rfl
       | true =>
        simp only [cond_true,Bool.true_and]
        cases decide (e.2.1≤p.2.1) with
        | true=>rfl
        | false=>cases decide (e.2.2.1≤p.2.2.1) <;> rfl
   ·unfold spec_JournalOk_b0
    simp only [lss_len,Nat.lt_irrefl,decide_false,cond_false]
  rw [hloop]
  cases allFrom (jokAt l) 0 l.length <;> rfl
theorem toEv_eq (a b c d e f g:Int):laws_toEvent a b c d e f g=some (a,b,c,d,e,f,g,()):=rfl
theorem toEvS_eq (l:List Ev) (hl:l.length≤1073741824):laws_toEventS l=some (l,()):=by
 unfold laws_toEventS
 rw [repOk_len hl]
 have hloop:laws_toEventS_l0 (l,()) (List.replicate l.length (0,0,0,0,0,0,0),(0:Int),())=some (Sum.inl (l,())):=by
  have:=loop_end (body:=laws_toEventS_b0 (l,())) (fun n=>(l.take n++List.replicate (l.length - n) (0,0,0,0,0,0,0),(n:Int),())) l.length (by omega) (Sum.inl (l,())) (fun n hn=>?_) ?_
  ·unfold laws_toEventS_l0;simpa using this
  ·unfold laws_toEventS_b0
   have hx:n < (l.take n++List.replicate (l.length - n) ((0,0,0,0,0,0,0):Ev)).length:=by rw [fill_len _ _ (Nat.le_of_lt hn)];exact hn
   simp only [lss_len,inR_nat,hn,hx,decide_true,cond_true,get_nat,toEv_eq,Option.bind_some,succ64 (n:=n) (by omega),put_nat]
   rw [←set_fill l (0,0,0,0,0,0,0) hn,getD_lt hn zIIIIIII (0,0,0,0,0,0,0)]
  ·unfold laws_toEventS_b0
   simp only [lss_len,Nat.lt_irrefl,decide_false,cond_false,Nat.sub_self,List.replicate_zero,List.append_nil,List.take_length]
 have hr:rRep (rLen l) ((0:Int),(0:Int),(0:Int),(0:Int),(0:Int),(0:Int),(0:Int))=List.replicate l.length (0,0,0,0,0,0,0):=rep_nat _ _
 rw [hr]
 simp only [cond_true]
 rw [hloop]
 rfl
theorem neq_self (a:Int):rCmp .neq a a=false:=by simp [rCmp]
theorem eqEv_self (a b c d e f g:Int):laws_eqEvent a b c d e f g a b c d e f g=some (true,()):=by
 unfold laws_eqEvent
 simp only [neq_self,cond_false]
theorem eqEvS_self (l:List Ev) (hl:l.length≤1073741824):laws_eqEventS l l=some (true,()):=by
 unfold laws_eqEventS
 rw [neq_self]
 have hloop:laws_eqEventS_l0 (l,l,()) ((0:Int),())=some (Sum.inr (Sum.inl ())):=by
  refine loop_end (fun n=>((n:Int),())) l.length (by omega) _ (fun n hn=>?_) ?_
  ·unfold laws_eqEventS_b0
   simp only [lss_len,inR_nat,hn,decide_true,cond_true,eqEv_self,Option.bind_some,succ64 (n:=n) (by omega)]
   rfl
  ·unfold laws_eqEventS_b0
   simp only [lss_len,Nat.lt_irrefl,decide_false,cond_false]
 simp only [cond_false]
 rw [hloop]
 rfl
theorem szEvS_eq (l:List Ev) (a:Int) (hl:l.length≤9223372036854775807) (ha:0≤a) (ha':a≤1048576):laws_szEventS l a=some (bif decide (a < (l.length:Int)) then -1 else a - (l.length:Int),()):=by
 unfold laws_szEventS
 have h1:rArith .sub .i64 a (rLen l)=a - (l.length:Int):=sub64 (by unfold rLen;omega) (by unfold rLen;omega)
 rw [h1]
 have h2:rCmp .lss (a - (l.length:Int)) 0=decide (a < (l.length:Int)):=by simp only [rCmp,decide_eq_decide];omega
 rw [h2]
 cases decide (a < (l.length:Int)) <;> rfl
end Go.Fn
set_option linter.unusedSimpArgs false
namespace Go.Fn
open Go.R
theorem toIntS_eq (l:List Int) (hl:l.length≤1073741824):laws_toIntS l=some (l,()):=by
 unfold laws_toIntS
 rw [repOk_len hl]
 have hloop:laws_toIntS_l0 (l,()) (List.replicate l.length 0,(0:Int),())=some (Sum.inl (l,())):=by
  have:=loop_end (body:=laws_toIntS_b0 (l,())) (fun n=>(l.take n++List.replicate (l.length - n) 0,(n:Int),())) l.length (by omega) (Sum.inl (l,())) (fun n hn=>?_) ?_
  ·unfold laws_toIntS_l0;simpa using this
  ·unfold laws_toIntS_b0
   have hx:n < (l.take n++List.replicate (l.length - n) (0:Int)).length:=by rw [fill_len _ _ (Nat.le_of_lt hn)];exact hn
   simp only [lss_len,inR_nat,hn,hx,decide_true,cond_true,get_nat,succ64 (n:=n) (by omega),put_nat]
   rw [←set_fill l 0 hn,getD_lt hn zI 0]
  ·unfold laws_toIntS_b0
   simp only [lss_len,Nat.lt_irrefl,decide_false,cond_false,Nat.sub_self,List.replicate_zero,List.append_nil,List.take_length]
 have hr:rRep (rLen l) (0:Int)=List.replicate l.length 0:=rep_nat _ _
 rw [hr]
 simp only [cond_true]
 rw [hloop]
 rfl
theorem eqIntS_self (l:List Int) (hl:l.length≤1073741824):laws_eqIntS l l=some (true,()):=by
 unfold laws_eqIntS
 rw [neq_self]
 have hloop:laws_eqIntS_l0 (l,l,()) ((0:Int),())=some (Sum.inr (Sum.inl ())):=by
  refine loop_end (fun n=>((n:Int),())) l.length (by omega) _ (fun n hn=>?_) ?_
  ·unfold laws_eqIntS_b0
   simp only [lss_len,inR_nat,hn,decide_true,cond_true,neq_self,succ64 (n:=n) (by omega)]
   rfl
  ·unfold laws_eqIntS_b0
   simp only [lss_len,Nat.lt_irrefl,decide_false,cond_false]
 simp only [cond_false]
 rw [hloop]
 rfl
theorem jok_len {l:List Ev} (h:jok l=true):l.length≤60:=by
 unfold jok at h
 cases hd:decide (60 < l.length) with
 | true=>rw [hd] at h;cases h
 | false=>have:=of_decide_eq_false hd;omega
theorem jok_at {l:List Ev} (h:jok l=true) {n:Nat} (hn:n < l.length):jokAt l n=true:=by
 have h60:=jok_len h
 unfold jok at h
 rw [decide_eq_false (by omega)] at h
 exact (allFrom_iff _ _).1 h n (Nat.zero_le _) (by omega)
theorem jok_ev {l:List Ev} (h:jok l=true) {n:Nat} (hn:n < l.length):evOk (l.getD n zIIIIIII)=true:=by
 have:=jok_at h hn
 cases n with
 | zero=>exact this
 | succ n=>simp only [jokAt,Bool.and_eq_true] at this;exact this.1
theorem inB_iff {a lo hi:Int}:inB a lo hi=true↔lo≤a∧a≤hi:=by
 unfold inB
 by_cases h:lo≤a
 ·rw [decide_eq_true (show a ≥ lo from h)];simp [h]
 ·rw [decide_eq_false (show ¬ a ≥ lo from h)];simp [h]
theorem bif_and {a b:Bool}:(bif a then b else false)=true↔a=true∧b=true:=by cases a <;> simp
theorem evOk_iff {e:Ev}:evOk e=true↔(0≤e.1∧e.1≤5)∧(1≤e.2.1∧e.2.1≤999)∧(1≤e.2.2.1∧e.2.2.1≤100000)∧(1≤e.2.2.2.1∧e.2.2.2.1≤4)∧(1≤e.2.2.2.2.1∧e.2.2.2.2.1≤999)∧(0≤e.2.2.2.2.2.1∧e.2.2.2.2.2.1≤20000)∧(0≤e.2.2.2.2.2.2∧e.2.2.2.2.2.2≤20000):=by
 unfold evOk
 simp only [bif_and,inB_iff]
theorem inR_iff {α:Type} {l:List α} {i:Int} (h0:0≤i) (h1:i < (l.length:Int)):rInR l i=true:=by
 unfold rInR;rw [Bool.and_eq_true];exact ⟨decide_eq_true h0,decide_eq_true h1⟩
theorem neg_of {a:Int} (h:0≤a):rCmp .lss a 0=false:=by simp only [rCmp,decide_eq_false_iff_not];omega
theorem small_of {α:Type} {l:List α} (h:l.length≤1073741824):rSmall l=true:=by unfold rSmall limit;exact decide_eq_true (by omega)
end Go.Fn
set_option linter.unusedSimpArgs false
namespace Go.Fn
open Go.R
theorem toSpan_eq (a0 a1:Int):laws_toSpan a0 a1=some (a0,a1,()):=rfl
theorem toSpanS_eq (l:List (Int×Int)) (hl:l.length≤1073741824):laws_toSpanS l=some (l,()):=by
 unfold laws_toSpanS
 rw [repOk_len hl]
 have hloop:laws_toSpanS_l0 (l,()) (List.replicate l.length (0,0),(0:Int),())=some (Sum.inl (l,())):=by
  have:=loop_end (body:=laws_toSpanS_b0 (l,())) (fun n=>(l.take n++List.replicate (l.length - n) (0,0),(n:Int),())) l.length (by omega) (Sum.inl (l,())) (fun n hn=>?_) ?_
  ·unfold laws_toSpanS_l0;simpa using this
  ·unfold laws_toSpanS_b0
   have hx:n < (l.take n++List.replicate (l.length - n) ((0,0):Int×Int)).length:=by rw [fill_len _ _ (Nat.le_of_lt hn)];exact hn
   simp only [lss_len,inR_nat,hn,hx,decide_true,cond_true,get_nat,toSpan_eq,Option.bind_some,succ64 (n:=n) (by omega),put_nat]
   rw [←set_fill l (0,0) hn,getD_lt hn zII (0,0)]
  ·unfold laws_toSpanS_b0
   simp only [lss_len,Nat.lt_irrefl,decide_false,cond_false,Nat.sub_self,List.replicate_zero,List.append_nil,List.take_length]
 have hr:rRep (rLen l) (((0:Int),(0:Int)))=List.replicate l.length (0,0):=rep_nat _ _
 rw [hr]
 simp only [cond_true]
 rw [hloop]
 rfl
theorem eqSpan_self (a0 a1:Int):laws_eqSpan a0 a1 a0 a1=some (true,()):=by
 unfold laws_eqSpan
 simp only [neq_self,cond_false]
theorem eqSpanS_self (l:List (Int×Int)) (hl:l.length≤1073741824):laws_eqSpanS l l=some (true,()):=by
 unfold laws_eqSpanS
 rw [neq_self]
 have hloop:laws_eqSpanS_l0 (l,l,()) ((0:Int),())=some (Sum.inr (Sum.inl ())):=by
  refine loop_end (fun n=>((n:Int),())) l.length (by omega) _ (fun n hn=>?_) ?_
  ·unfold laws_eqSpanS_b0
   simp only [lss_len,inR_nat,hn,decide_true,cond_true,eqSpan_self,Option.bind_some,succ64 (n:=n) (by omega)]
   rfl
  ·unfold laws_eqSpanS_b0
   simp only [lss_len,Nat.lt_irrefl,decide_false,cond_false]
 simp only [cond_false]
 rw [hloop]
 rfl
theorem szSpanS_eq (l:List (Int×Int)) (a:Int) (hl:l.length≤9223372036854775807) (ha:0≤a) (ha':a≤1048576):laws_szSpanS l a=some (bif decide (a < (l.length:Int)) then -1 else a - (l.length:Int),()):=by
 unfold laws_szSpanS
 have h1:rArith .sub .i64 a (rLen l)=a - (l.length:Int):=sub64 (by unfold rLen;omega) (by unfold rLen;omega)
 rw [h1]
 have h2:rCmp .lss (a - (l.length:Int)) 0=decide (a < (l.length:Int)):=by simp only [rCmp,decide_eq_decide];omega
 rw [h2]
 cases decide (a < (l.length:Int)) <;> rfl
abbrev Spn:=Int×Int
noncomputable def spanAt (l:List Spn) (most:Int) (n:Nat):Bool:=
 bif rCmp .lss (l.getD n zII).1 0 then false else bif rCmp .geq (l.getD n zII).1 (l.getD n zII).2 then false else bif rCmp .gtr (l.getD n zII).2 most then false else
  match n with
  | 0=>true
  | m+1=>bif rCmp .leq (l.getD (m+1) zII).1 (l.getD m zII).2 then false else true
noncomputable def spansOk (l:List Spn) (most:Int):Bool:=bif decide (20 < l.length) then false else allFrom (spanAt l most) 0 l.length
theorem len20 {α:Type} (l:List α):rCmp .gtr (rLen l) (20:Int)=decide (20 < l.length):=by
 simp only [rCmp,rLen,gt_iff_lt,decide_eq_decide]
 omega
theorem gt00:rCmp .gtr ((0:Nat):Int) 0=false:=rfl
theorem specSpans_eq (l:List Spn) (most:Int):spec_SpansOk l most=some (spansOk l most,()):=by
 unfold spec_SpansOk spansOk
 rw [len20]
 cases hl:decide (20 < l.length) with
 | true=>rfl
 | false =>
  have hl:l.length≤20:=by have:=of_decide_eq_false hl;omega
  have hloop:spec_SpansOk_l0 (l,most,()) ((0:Int),())=some (bif allFrom (spanAt l most) 0 l.length then (Sum.inr (Sum.inl ()):Bool×Unit ⊕ (Unit ⊕ Empty)) else Sum.inl (false,())):=by
   refine loop_all (fun n=>((n:Int),())) l.length (by omega) (spanAt l most) _ _ (fun n hn=>?_) ?_
   ·unfold spec_SpansOk_b0 spanAt
    simp only [lss_len,inR_nat,get_nat,hn,decide_true,cond_true]
    cases n with
    | zero =>
     simp only [gt00,cond_false]
     cases rCmp .lss (l.getD 0 zII).1 0 <;> cases rCmp .geq (l.getD 0 zII).1 (l.getD 0 zII).2 <;> cases rCmp .gtr (l.getD 0 zII).2 most <;> rfl
    | succ n =>
     have hn':n < l.length:=by omega
     simp only [gt0,succ64 (n:=n+1) (by omega),pred64 (n:=n) (by omega),inR_lt hn',get_nat,cond_true]
     cases rCmp .lss (l.getD (n+1) zII).1 0 <;> cases rCmp .geq (l.getD (n+1) zII).1 (l.getD (n+1) zII).2 <;> cases rCmp .gtr (l.getD (n+1) zII).2 most <;> cases rCmp .leq (l.getD (n+1) zII).1 (l.getD n zII).2 <;> rfl
   ·unfold spec_SpansOk_b0
    simp only [lss_len,Nat.lt_irrefl,decide_false,cond_false]
  rw [hloop]
  cases allFrom (spanAt l most) 0 l.length <;> rfl
theorem implSpans_eq (l:List Spn) (most:Int):impl_SpansOk l most=some (spansOk l most,()):=by
 unfold impl_SpansOk spansOk
 rw [len20]
 cases hl:decide (20 < l.length) with
 | true=>rfl
 | false =>
  have hl:l.length≤20:=by have:=of_decide_eq_false hl;omega
  have hloop:impl_SpansOk_l0 (l,most,l,rLen l,()) ((0:Int),())=some (bif allFrom (spanAt l most) 0 l.length then (Sum.inr (Sum.inl ()):Bool×Unit ⊕ (Unit ⊕ Empty)) else Sum.inl (false,())):=by
   refine loop_all (fun n=>((n:Int),())) l.length (by omega) (spanAt l most) _ _ (fun n hn=>?_) ?_
   ·unfold impl_SpansOk_b0 spanAt
    simp only [lss_len,inR_nat,get_nat,hn,decide_true,cond_true]
    cases n with
    | zero =>
     simp only [gt00,cond_false]
     cases rCmp .lss (l.getD 0 zII).1 0 <;> cases rCmp .geq (l.getD 0 zII).1 (l.getD 0 zII).2 <;> cases rCmp .gtr (l.getD 0 zII).2 most <;> rfl
    | succ n =>
     have hn':n < l.length:=by omega
     simp only [gt0,succ64 (n:=n+1) (by omega),pred64 (n:=n) (by omega),inR_lt hn',get_nat,cond_true]
     cases rCmp .lss (l.getD (n+1) zII).1 0 <;> cases rCmp .geq (l.getD (n+1) zII).1 (l.getD (n+1) zII).2 <;> cases rCmp .gtr (l.getD (n+1) zII).2 most <;> cases rCmp .leq (l.getD (n+1) zII).1 (l.getD n zII).2 <;> rfl
   ·unfold impl_SpansOk_b0
    simp only [lss_len,Nat.lt_irrefl,decide_false,cond_false]
  rw [hloop]
  cases allFrom (spanAt l most) 0 l.length <;> rfl
noncomputable def weekOk (o c:List Spn):Bool:=bif spansOk o 168 then spansOk c 20000 else false
theorem specWeek_eq (o c:List Spn):spec_WeekOk o c=some (weekOk o c,()):=by
 unfold spec_WeekOk weekOk
 simp only [specSpans_eq,Option.bind_some,bif_some,bif_pair]
theorem implWeek_eq (o c:List Spn):impl_WeekOk o c=some (weekOk o c,()):=by
 unfold impl_WeekOk weekOk
 simp only [implSpans_eq,Option.bind_some,bif_some,bif_pair]
noncomputable def termsOk (a0 a1 a2 a3 a4 a5 a6 a7:Int):Bool:=bif inB a0 1 2000 then bif inB a2 1 2000 then bif inB a5 1 2000 then bif inB a1 0 2000 then bif inB a3 0 10000 then bif inB a4 0 1000000 then bif inB a6 0 100000 then inB a7 0 20 else false else false else false else false else false else false else false
theorem specTerms_eq (a0 a1 a2 a3 a4 a5 a6 a7:Int):spec_TermsOk a0 a1 a2 a3 a4 a5 a6 a7=some (termsOk a0 a1 a2 a3 a4 a5 a6 a7,()):=by
 unfold spec_TermsOk termsOk
 simp only [in_eq,Option.bind_some,bif_some,bif_pair]
theorem implTerms_eq (a0 a1 a2 a3 a4 a5 a6 a7:Int):impl_TermsOk a0 a1 a2 a3 a4 a5 a6 a7=some (termsOk a0 a1 a2 a3 a4 a5 a6 a7,()):=by
 unfold impl_TermsOk termsOk
 simp only [within_eq,Option.bind_some,bif_some,bif_pair]
theorem gtr_not (a b:Int):rCmp .gtr a b=Bool.not (rCmp .leq a b):=by
 simp only [rCmp,gt_iff_lt]
 by_cases h:a≤b
 ·rw [decide_eq_true h,decide_eq_false (by omega)];rfl
 ·rw [decide_eq_false h,decide_eq_true (by omega)];rfl
abbrev Sty:=Int×Int×Int×Int
theorem toWeek_eq (o c:List Spn) (ho:o.length≤1073741824) (hc:c.length≤1073741824):laws_toWeek o c=some (o,c,()):=by
 unfold laws_toWeek
 rw [toSpanS_eq o ho]
 simp only [Option.bind_some]
 rw [toSpanS_eq c hc]
 rfl
theorem eqWeek_self (o c:List Spn) (ho:o.length≤1073741824) (hc:c.length≤1073741824):laws_eqWeek o c o c=some (true,()):=by
 unfold laws_eqWeek
 rw [eqSpanS_self o ho]
 simp only [Option.bind_some,Bool.not_true,cond_false]
 rw [eqSpanS_self c hc]
 rfl
theorem toTerms_eq (a0 a1 a2 a3 a4 a5 a6 a7:Int):laws_toTerms a0 a1 a2 a3 a4 a5 a6 a7=some (a0,a1,a2,a3,a4,a5,a6,a7,()):=rfl
theorem rBeq_self (b:Bool):rBeq b b=true:=by unfold rBeq;simp
theorem neg1:rCmp .lss (-1:Int) 0=true:=rfl
theorem szWeek_eq (o c:List Spn) (a:Int) (ho:o.length≤9223372036854775807) (hc:c.length≤9223372036854775807) (ha:0≤a) (ha':a≤1048576) :
  laws_szWeek o c a=some (bif decide (a < (o.length:Int)+(c.length:Int)) then -1 else a - (o.length:Int) - (c.length:Int),()):=by
 unfold laws_szWeek
 rw [szSpanS_eq o a ho ha ha']
 simp only [Option.bind_some]
 cases h1:decide (a < (o.length:Int)) with
 | true =>
  have h1:=of_decide_eq_true h1
  rw [decide_eq_true (show a < (o.length:Int)+(c.length:Int) by omega)]
  simp only [cond_true,neg1]
 | false =>
  have h1:=of_decide_eq_false h1
  simp only [cond_false]
  rw [neg_of (by omega)]
  simp only [cond_false]
  rw [szSpanS_eq c _ hc (by omega) (by omega)]
  simp only [Option.bind_some]
  have h3:decide (a - (o.length:Int) < (c.length:Int))=decide (a < (o.length:Int)+(c.length:Int)):=by rw [decide_eq_decide];omega
  rw [h3]
  cases h2:decide (a < (o.length:Int)+(c.length:Int)) with
  | true=>simp only [cond_true,neg1]
  | false =>
   have h2:=of_decide_eq_false h2
   simp only [cond_false]
   rw [neg_of (by omega)]
   rfl
end Go.Fn
set_option linter.unusedSimpArgs false
namespace Go.Fn
open Go.R
abbrev Stp:=Int×Int×Int×Int×Int
theorem szIntS_eq (l:List Int) (a:Int) (hl:l.length≤9223372036854775807) (ha:0≤a) (ha':a≤1048576):laws_szIntS l a=some (bif decide (a < (l.length:Int)) then -1 else a - (l.length:Int),()):=by
 unfold laws_szIntS
 have h1:rArith .sub .i64 a (rLen l)=a - (l.length:Int):=sub64 (by unfold rLen;omega) (by unfold rLen;omega)
 rw [h1]
 have h2:rCmp .lss (a - (l.length:Int)) 0=decide (a < (l.length:Int)):=by simp only [rCmp,decide_eq_decide];omega
 rw [h2]
 cases decide (a < (l.length:Int)) <;> rfl
end Go.Fn
set_option linter.unusedSimpArgs false
namespace Go.Fn
open Go.R
noncomputable def leg (g:List (List Int)) (i j:Nat):Int:=(g.getD i zLIl).getD j zI
end Go.Fn
set_option linter.unusedSimpArgs false
namespace Go.Fn
open Go.R
abbrev RSt:=Int×List Int×Int×Int×Int×Int
noncomputable def arr (g:List (List Int)) (st:RSt) (i:Int):Int:=rArith .add .i64 st.2.2.1 (rGet zI (rGet zLIl g st.2.2.2.2.2) (rArith .add .i64 i 1))
theorem leq_not (a b:Int):rCmp .leq a b=Bool.not (rCmp .gtr a b):=by rw [gtr_not,Bool.not_not]
end Go.Fn
set_option linter.unusedSimpArgs false
namespace Go.Fn
open Go.R
theorem eqTerms_self (a0 a1 a2 a3 a4 a5 a6 a7:Int):laws_eqTerms a0 a1 a2 a3 a4 a5 a6 a7 a0 a1 a2 a3 a4 a5 a6 a7=some (true,()):=by
 unfold laws_eqTerms
 simp only [neq_self,cond_false]
abbrev Trm:=Int×Int×Int×Int×Int×Int×Int×Int
end Go.Fn
set_option linter.unusedSimpArgs false
namespace Go.Fn
open Go.R
theorem toParcel_eq (a0 a1 a2 a3 a4 a5 a6 a7 a8 a9 a10 a11 a12:Int):laws_toParcel a0 a1 a2 a3 a4 a5 a6 a7 a8 a9 a10 a11 a12=some (a0,a1,a2,a3,a4,a5,a6,a7,a8,a9,a10,a11,a12,()):=rfl
theorem eqLock_self (a0 a1 a2 a3 a4:Int):laws_eqLock a0 a1 a2 a3 a4 a0 a1 a2 a3 a4=some (true,()):=by
 unfold laws_eqLock
 simp only [neq_self,cond_false]
theorem eqParcel_self (a0 a1 a2 a3 a4 a5 a6 a7 a8 a9 a10 a11 a12:Int):laws_eqParcel a0 a1 a2 a3 a4 a5 a6 a7 a8 a9 a10 a11 a12 a0 a1 a2 a3 a4 a5 a6 a7 a8 a9 a10 a11 a12=some (true,()):=by
 unfold laws_eqParcel
 simp only [neq_self,cond_false,eqLock_self,Option.bind_some,Bool.not_true]
theorem toBox_eq (a0:Int) (a1:Int) (a2:Int) (a3:Bool):laws_toBox a0 a1 a2 a3=some (a0,a1,a2,a3,()):=rfl
theorem toBoxS_eq (l:List (Int×Int×Int×Bool)) (hl:l.length≤1073741824):laws_toBoxS l=some (l,()):=by
 unfold laws_toBoxS
 rw [repOk_len hl]
 have hloop:laws_toBoxS_l0 (l,()) (List.replicate l.length (0,0,0,false),(0:Int),())=some (Sum.inl (l,())):=by
  have:=loop_end (body:=laws_toBoxS_b0 (l,())) (fun n=>(l.take n++List.replicate (l.length - n) (0,0,0,false),(n:Int),())) l.length (by omega) (Sum.inl (l,())) (fun n hn=>?_) ?_
  ·unfold laws_toBoxS_l0;simpa using this
  ·unfold laws_toBoxS_b0
   have hx:n < (l.take n++List.replicate (l.length - n) ((0,0,0,false):Int×Int×Int×Bool)).length:=by rw [fill_len _ _ (Nat.le_of_lt hn)];exact hn
   simp only [lss_len,inR_nat,hn,hx,decide_true,cond_true,get_nat,toBox_eq,Option.bind_some,lets_def,succ64 (n:=n) (by omega),put_nat]
   rw [←set_fill l (0,0,0,false) hn,getD_lt hn zIIIB (0,0,0,false)]
  ·unfold laws_toBoxS_b0
   simp only [lss_len,Nat.lt_irrefl,decide_false,cond_false,Nat.sub_self,List.replicate_zero,List.append_nil,List.take_length]
 have hr:rRep (rLen l) (((0:Int),(0:Int),(0:Int),false))=List.replicate l.length (0,0,0,false):=rep_nat _ _
 rw [hr]
 simp only [cond_true]
 rw [hloop]
 rfl
theorem eqBox_self (a0:Int) (a1:Int) (a2:Int) (a3:Bool):laws_eqBox a0 a1 a2 a3 a0 a1 a2 a3=some (true,()):=by
 unfold laws_eqBox
 simp only [neq_self,rBeq_self,Bool.not_true,cond_false]
theorem eqBoxS_self (l:List (Int×Int×Int×Bool)) (hl:l.length≤1073741824):laws_eqBoxS l l=some (true,()):=by
 unfold laws_eqBoxS
 rw [neq_self]
 have hloop:laws_eqBoxS_l0 (l,l,()) ((0:Int),())=some (Sum.inr (Sum.inl ())):=by
  refine loop_end (fun n=>((n:Int),())) l.length (by omega) _ (fun n hn=>?_) ?_
  ·unfold laws_eqBoxS_b0
   simp only [lss_len,inR_nat,hn,decide_true,cond_true,eqBox_self,Option.bind_some,succ64 (n:=n) (by omega)]
   rfl
  ·unfold laws_eqBoxS_b0
   simp only [lss_len,Nat.lt_irrefl,decide_false,cond_false]
 simp only [cond_false]
 rw [hloop]
 rfl
theorem szBoxS_eq (l:List (Int×Int×Int×Bool)) (a:Int) (hl:l.length≤9223372036854775807) (ha:0≤a) (ha':a≤1048576):laws_szBoxS l a=some (bif decide (a < (l.length:Int)) then -1 else a - (l.length:Int),()):=by
 unfold laws_szBoxS
 have h1:rArith .sub .i64 a (rLen l)=a - (l.length:Int):=sub64 (by unfold rLen;omega) (by unfold rLen;omega)
 rw [h1]
 have h2:rCmp .lss (a - (l.length:Int)) 0=decide (a < (l.length:Int)):=by simp only [rCmp,decide_eq_decide];omega
 rw [h2]
 cases decide (a < (l.length:Int)) <;> rfl
theorem toParcelS_eq (l:List (Int×Int×Int×Int×Int×Int×Int×Int×Int×Int×Int×Int×Int)) (hl:l.length≤1073741824):laws_toParcelS l=some (l,()):=by
 unfold laws_toParcelS
 rw [repOk_len hl]
 have hloop:laws_toParcelS_l0 (l,()) (List.replicate l.length (0,0,0,0,0,0,0,0,0,0,0,0,0),(0:Int),())=some (Sum.inl (l,())):=by
  have:=loop_end (body:=laws_toParcelS_b0 (l,())) (fun n=>(l.take n++List.replicate (l.length - n) (0,0,0,0,0,0,0,0,0,0,0,0,0),(n:Int),())) l.length (by omega) (Sum.inl (l,())) (fun n hn=>?_) ?_
  ·unfold laws_toParcelS_l0;simpa using this
  ·unfold laws_toParcelS_b0
   have hx:n < (l.take n++List.replicate (l.length - n) ((0,0,0,0,0,0,0,0,0,0,0,0,0):Int×Int×Int×Int×Int×Int×Int×Int×Int×Int×Int×Int×Int)).length:=by rw [fill_len _ _ (Nat.le_of_lt hn)];exact hn
   simp only [lss_len,inR_nat,hn,hx,decide_true,cond_true,get_nat,toParcel_eq,Option.bind_some,lets_def,succ64 (n:=n) (by omega),put_nat]
   rw [←set_fill l (0,0,0,0,0,0,0,0,0,0,0,0,0) hn,getD_lt hn zIIIIIIIIIIIII (0,0,0,0,0,0,0,0,0,0,0,0,0)]
  ·unfold laws_toParcelS_b0
   simp only [lss_len,Nat.lt_irrefl,decide_false,cond_false,Nat.sub_self,List.replicate_zero,List.append_nil,List.take_length]
 have hr:rRep (rLen l) (((0:Int),(0:Int),(0:Int),(0:Int),(0:Int),(0:Int),(0:Int),(0:Int),(0:Int),(0:Int),(0:Int),(0:Int),(0:Int)))=List.replicate l.length (0,0,0,0,0,0,0,0,0,0,0,0,0):=rep_nat _ _
 rw [hr]
 simp only [cond_true]
 rw [hloop]
 rfl
theorem eqParcelS_self (l:List (Int×Int×Int×Int×Int×Int×Int×Int×Int×Int×Int×Int×Int)) (hl:l.length≤1073741824):laws_eqParcelS l l=some (true,()):=by
 unfold laws_eqParcelS
 rw [neq_self]
 have hloop:laws_eqParcelS_l0 (l,l,()) ((0:Int),())=some (Sum.inr (Sum.inl ())):=by
  refine loop_end (fun n=>((n:Int),())) l.length (by omega) _ (fun n hn=>?_) ?_
  ·unfold laws_eqParcelS_b0
   simp only [lss_len,inR_nat,hn,decide_true,cond_true,eqParcel_self,Option.bind_some,succ64 (n:=n) (by omega)]
   rfl
  ·unfold laws_eqParcelS_b0
   simp only [lss_len,Nat.lt_irrefl,decide_false,cond_false]
 simp only [cond_false]
 rw [hloop]
 rfl
theorem szParcelS_eq (l:List (Int×Int×Int×Int×Int×Int×Int×Int×Int×Int×Int×Int×Int)) (a:Int) (hl:l.length≤9223372036854775807) (ha:0≤a) (ha':a≤1048576):laws_szParcelS l a=some (bif decide (a < (l.length:Int)) then -1 else a - (l.length:Int),()):=by
 unfold laws_szParcelS
 have h1:rArith .sub .i64 a (rLen l)=a - (l.length:Int):=sub64 (by unfold rLen;omega) (by unfold rLen;omega)
 rw [h1]
 have h2:rCmp .lss (a - (l.length:Int)) 0=decide (a < (l.length:Int)):=by simp only [rCmp,decide_eq_decide];omega
 rw [h2]
 cases decide (a < (l.length:Int)) <;> rfl
theorem toGrant_eq (a0:Int) (a1:Int) (a2:Int) (a3:Int) (a4:Int) (a5:Int) (a6:Bool):laws_toGrant a0 a1 a2 a3 a4 a5 a6=some (a0,a1,a2,a3,a4,a5,a6,()):=rfl
theorem toGrantS_eq (l:List (Int×Int×Int×Int×Int×Int×Bool)) (hl:l.length≤1073741824):laws_toGrantS l=some (l,()):=by
 unfold laws_toGrantS
 rw [repOk_len hl]
 have hloop:laws_toGrantS_l0 (l,()) (List.replicate l.length (0,0,0,0,0,0,false),(0:Int),())=some (Sum.inl (l,())):=by
  have:=loop_end (body:=laws_toGrantS_b0 (l,())) (fun n=>(l.take n++List.replicate (l.length - n) (0,0,0,0,0,0,false),(n:Int),())) l.length (by omega) (Sum.inl (l,())) (fun n hn=>?_) ?_
  ·unfold laws_toGrantS_l0;simpa using this
  ·unfold laws_toGrantS_b0
   have hx:n < (l.take n++List.replicate (l.length - n) ((0,0,0,0,0,0,false):Int×Int×Int×Int×Int×Int×Bool)).length:=by rw [fill_len _ _ (Nat.le_of_lt hn)];exact hn
   simp only [lss_len,inR_nat,hn,hx,decide_true,cond_true,get_nat,toGrant_eq,Option.bind_some,lets_def,succ64 (n:=n) (by omega),put_nat]
   rw [←set_fill l (0,0,0,0,0,0,false) hn,getD_lt hn zIIIIIIB (0,0,0,0,0,0,false)]
  ·unfold laws_toGrantS_b0
   simp only [lss_len,Nat.lt_irrefl,decide_false,cond_false,Nat.sub_self,List.replicate_zero,List.append_nil,List.take_length]
 have hr:rRep (rLen l) (((0:Int),(0:Int),(0:Int),(0:Int),(0:Int),(0:Int),false))=List.replicate l.length (0,0,0,0,0,0,false):=rep_nat _ _
 rw [hr]
 simp only [cond_true]
 rw [hloop]
 rfl
theorem eqGrant_self (a0:Int) (a1:Int) (a2:Int) (a3:Int) (a4:Int) (a5:Int) (a6:Bool):laws_eqGrant a0 a1 a2 a3 a4 a5 a6 a0 a1 a2 a3 a4 a5 a6=some (true,()):=by
 unfold laws_eqGrant
 simp only [neq_self,rBeq_self,Bool.not_true,cond_false]
theorem eqGrantS_self (l:List (Int×Int×Int×Int×Int×Int×Bool)) (hl:l.length≤1073741824):laws_eqGrantS l l=some (true,()):=by
 unfold laws_eqGrantS
 rw [neq_self]
 have hloop:laws_eqGrantS_l0 (l,l,()) ((0:Int),())=some (Sum.inr (Sum.inl ())):=by
  refine loop_end (fun n=>((n:Int),())) l.length (by omega) _ (fun n hn=>?_) ?_
  ·unfold laws_eqGrantS_b0
   simp only [lss_len,inR_nat,hn,decide_true,cond_true,eqGrant_self,Option.bind_some,succ64 (n:=n) (by omega)]
   rfl
  ·unfold laws_eqGrantS_b0
   simp only [lss_len,Nat.lt_irrefl,decide_false,cond_false]
 simp only [cond_false]
 rw [hloop]
 rfl
theorem szGrantS_eq (l:List (Int×Int×Int×Int×Int×Int×Bool)) (a:Int) (hl:l.length≤9223372036854775807) (ha:0≤a) (ha':a≤1048576):laws_szGrantS l a=some (bif decide (a < (l.length:Int)) then -1 else a - (l.length:Int),()):=by
 unfold laws_szGrantS
 have h1:rArith .sub .i64 a (rLen l)=a - (l.length:Int):=sub64 (by unfold rLen;omega) (by unfold rLen;omega)
 rw [h1]
 have h2:rCmp .lss (a - (l.length:Int)) 0=decide (a < (l.length:Int)):=by simp only [rCmp,decide_eq_decide];omega
 rw [h2]
 cases decide (a < (l.length:Int)) <;> rfl
theorem copy_gen {α:Type} {body:List α×Int×Unit→Option ((List α×Int×Unit) ⊕ (List α×Unit ⊕ Empty))} (l:List α) (zr z:α) (hl:l.length≤1073741824)
  (h:∀ (n:Nat) (acc:List α),n < l.length→acc.length=l.length→body (acc,(n:Int),())=some (.inl (acc.set n (l.getD n z),((n+1:Nat):Int),())))
  (hend:∀ acc:List α,acc.length=l.length→body (acc,(l.length:Int),())=some (.inr (.inl (acc,())))):iter body big (List.replicate l.length zr,0,())=some (Sum.inl (l,())):=by
 have:=loop_end (body:=body) (fun n=>(l.take n++List.replicate (l.length - n) zr,(n:Int),())) l.length (by omega) (Sum.inl (l,())) (fun n hn=>?_) ?_
 ·simpa using this
 ·show body (l.take n++List.replicate (l.length - n) zr,(n:Int),())=_
  rw [h n _ hn (fill_len _ _ (Nat.le_of_lt hn)),getD_lt hn z zr,set_fill l zr hn]
 ·show body (l.take l.length++List.replicate (l.length - l.length) zr,(l.length:Int),())=_
  rw [hend _ (fill_len _ _ (Nat.le_refl _))]
  simp
theorem size_gen {α:Type} {body:Int×Int×Unit→Option ((Int×Int×Unit) ⊕ (Int×Unit ⊕ (Int×Unit ⊕ Empty)))} (l:List α) (hl:l.length≤1073741824) (small:Nat→Prop)
  (h:∀ (n:Nat) (a:Int),n < l.length→0≤a→a≤1048576→body (a,(n:Int),())=some (.inr (.inl (-1,())))∨∃ b,body (a,(n:Int),())=some (.inl (b,((n+1:Nat):Int),()))∧0≤b∧b≤a∧small n)
  (hend:∀ a,body (a,(l.length:Int),())=some (.inr (.inr (.inl (a,()))))) (a:Int) (ha:0≤a) (ha':a≤1048576) :
  ∃ y,iter body big (a,0,())=some y∧(y=.inl (-1,())∨∃ b,y=.inr (.inl (b,()))∧0≤b∧b≤a∧∀ n,n < l.length→small n):=by
 have key:∀ (k n:Nat) (a:Int),n+k=l.length→0≤a→a≤1048576→∃ y,iter body (k+1) (a,(n:Int),())=some y∧(y=.inl (-1,())∨∃ b,y=.inr (.inl (b,()))∧0≤b∧b≤a∧∀ m,n≤m→m < l.length→small m):=by
  intro k
  induction k with
  | zero =>
   intro n a hn h0 h1
   have:n=l.length:=by omega
   subst this
   exact ⟨_,iter_done (hend a),.inr ⟨a,rfl,h0,Int.le_refl _,fun m h2 h3=>absurd h3 (by omega)⟩⟩
  | succ k ih =>
   intro n a hn h0 h1
   rcases h n a (by omega) h0 h1 with h | ⟨b,h,b0,b1,hs⟩
   ·exact ⟨_,iter_done h,.inl rfl⟩
   ·obtain ⟨y,q1,q2⟩:=ih (n+1) b (by omega) b0 (by omega)
    refine ⟨y,by rw [iter_next h];exact q1,q2.imp id fun ⟨c,c1,c2,c3,c4⟩=>⟨c,c1,c2,by omega,fun m h2 h3=>?_⟩⟩
    rcases Nat.lt_or_ge n m with h4 | h4
    ·exact c4 m (by omega) h3
    ·have:m=n:=by omega
     subst this
     exact hs
 obtain ⟨y,h1,h2⟩:=key l.length 0 a (by omega) ha ha'
 exact ⟨y,iter_mono h1 (lt_big (by omega)),h2.imp id fun ⟨b,b1,b2,b3,b4⟩=>⟨b,b1,b2,b3,fun n hn=>b4 n (Nat.zero_le _) hn⟩⟩
abbrev Bx:=Int×Int×Int×Bool
abbrev Col:=Int×List Int×List Bx
abbrev Site:=List Spn×List Spn×List Col×Int×Int×Bool×Bool×Bool×Int×Int×List Ev
noncomputable def zCol:Col:=zILIlLIIIBl
noncomputable def zSite:Site:=zLIIlLIIlLILIlLIIIBllIIBBBIILIIIIIIIl
noncomputable def colLe (m:Nat) (c:Col):Prop:=c.2.1.length≤m∧c.2.2.length≤m
theorem toColumn_eq (a0:Int) (a1:List Int) (a2:List Bx) (h1:a1.length≤1073741824) (h2:a2.length≤1073741824):laws_toColumn a0 a1 a2=some (a0,a1,a2,()):=by
 unfold laws_toColumn
 rw [toIntS_eq a1 h1]
 simp only [Option.bind_some]
 rw [toBoxS_eq a2 h2]
 rfl
theorem eqColumn_self (a0:Int) (a1:List Int) (a2:List Bx) (h1:a1.length≤1073741824) (h2:a2.length≤1073741824):laws_eqColumn a0 a1 a2 a0 a1 a2=some (true,()):=by
 unfold laws_eqColumn
 simp only [neq_self,cond_false,eqIntS_self a1 h1,Option.bind_some,Bool.not_true,eqBoxS_self a2 h2]
theorem szColumn_eq (a0:Int) (a1:List Int) (a2:List Bx) (a:Int) (h1:a1.length≤9223372036854775807) (h2:a2.length≤9223372036854775807) (ha:0≤a) (ha':a≤1048576) :
  ∃ b,laws_szColumn a0 a1 a2 a=some (b,())∧(b = -1∨(0≤b∧b≤a∧a1.length≤1073741824∧a2.length≤1073741824)):=by
 unfold laws_szColumn
 rw [szIntS_eq a1 a h1 ha ha']
 simp only [Option.bind_some]
 cases hd:decide (a < (a1.length:Int)) with
 | true=>exact ⟨-1,rfl,.inl rfl⟩
 | false =>
  have hd:=of_decide_eq_false hd
  simp only [cond_false]
  rw [neg_of (by omega)]
  simp only [cond_false]
  rw [szBoxS_eq a2 _ h2 (by omega) (by omega)]
  simp only [Option.bind_some]
  cases hd2:decide (a - (a1.length:Int) < (a2.length:Int)) with
  | true=>exact ⟨-1,rfl,.inl rfl⟩
  | false =>
   have hd2:=of_decide_eq_false hd2
   simp only [cond_false]
   rw [neg_of (by omega)]
   exact ⟨_,rfl,.inr ⟨by omega,by omega,by show _≤1073741824;omega,by show _≤1073741824;omega⟩⟩
theorem getD_mem {α:Type} {l:List α} {n:Nat} (h:n < l.length) (z:α):l.getD n z∈l:=by
 rw [List.getD_eq_getElem?_getD,List.getElem?_eq_getElem h]
 exact List.getElem_mem h
theorem toColumnS_eq (l:List Col) (hl:l.length≤1073741824) (hc:∀ n,n < l.length→colLe 1073741824 (l.getD n zCol)):laws_toColumnS l=some (l,()):=by
 unfold laws_toColumnS
 rw [repOk_len hl]
 have hr:rRep (rLen l) (((0:Int),([]:List Int),([]:List Bx)))=List.replicate l.length (0,[],[]):=rep_nat _ _
 rw [hr]
 have:=copy_gen (body:=laws_toColumnS_b0 (l,())) l (0,[],[]) zCol hl (fun n acc hn ha=>by
  obtain ⟨c1,c2⟩:=hc n hn
  unfold laws_toColumnS_b0
  simp only [lss_len,inR_nat,hn,ha,decide_true,cond_true,get_nat,lets_def,succ64 (n:=n) (show n < 1099511627776 by omega),put_nat]
  show ((laws_toColumn (l.getD n zCol).1 (l.getD n zCol).2.1 (l.getD n zCol).2.2).bind _)=_
  rw [toColumn_eq _ _ _ c1 c2]
  rfl) (fun acc _=>by
  unfold laws_toColumnS_b0
  simp only [lss_len,Nat.lt_irrefl,decide_false,cond_false])
 simp only [cond_true]
 unfold laws_toColumnS_l0
 rw [this]
 rfl
theorem eqColumnS_self (l:List Col) (hl:l.length≤1073741824) (hc:∀ n,n < l.length→colLe 1073741824 (l.getD n zCol)):laws_eqColumnS l l=some (true,()):=by
 unfold laws_eqColumnS
 rw [neq_self]
 have hloop:laws_eqColumnS_l0 (l,l,()) ((0:Int),())=some (Sum.inr (Sum.inl ())):=by
  refine loop_end (fun n=>((n:Int),())) l.length (by show _ < _;omega) _ (fun n hn=>?_) ?_
  ·obtain ⟨c1,c2⟩:=hc n hn
   unfold laws_eqColumnS_b0
   simp only [lss_len,inR_nat,hn,decide_true,cond_true,get_nat,lets_def,succ64 (n:=n) (show n < 1099511627776 by omega)]
   show ((laws_eqColumn (l.getD n zCol).1 (l.getD n zCol).2.1 (l.getD n zCol).2.2 (l.getD n zCol).1 (l.getD n zCol).2.1 (l.getD n zCol).2.2).bind _)=_
   rw [eqColumn_self _ _ _ c1 c2]
   rfl
  ·unfold laws_eqColumnS_b0
   simp only [lss_len,Nat.lt_irrefl,decide_false,cond_false]
 simp only [cond_false]
 rw [hloop]
 rfl
theorem szColumnS_eq (l:List Col) (a:Int) (hl:l.length≤9223372036854775807) (hw:∀ c∈l,colLe 9223372036854775807 c) (ha:0≤a) (ha':a≤1048576) :
  ∃ b,laws_szColumnS l a=some (b,())∧(b = -1∨(0≤b∧b≤a∧l.length≤1073741824∧∀ n,n < l.length→colLe 1073741824 (l.getD n zCol))):=by
 unfold laws_szColumnS
 have h1:rArith .sub .i64 a (rLen l)=a - (l.length:Int):=sub64 (by unfold rLen;have:l.length≤9223372036854775807:=hl;omega) (by unfold rLen;omega)
 have h2:rCmp .lss (a - (l.length:Int)) 0=decide (a < (l.length:Int)):=by simp only [rCmp,decide_eq_decide];omega
 rw [h1,h2]
 cases hd:decide (a < (l.length:Int)) with
 | true=>exact ⟨-1,rfl,.inl rfl⟩
 | false =>
  have hd:=of_decide_eq_false hd
  have hl30:l.length≤1073741824:=by omega
  obtain ⟨y,q1,q2⟩:=size_gen (body:=laws_szColumnS_b0 (l,())) l hl30 (fun n=>colLe 1073741824 (l.getD n zCol)) (fun n a hn h0 h1=>by
   obtain ⟨c1,c2⟩:=hw _ (getD_mem hn zCol)
   obtain ⟨b,e1,e2⟩:=szColumn_eq (l.getD n zCol).1 (l.getD n zCol).2.1 (l.getD n zCol).2.2 a c1 c2 h0 h1
   have hb:laws_szColumnS_b0 (l,()) (a,(n:Int),())=(bif rCmp .lss b 0 then some (.inr (.inl (-1,()))) else some (.inl (b,((n+1:Nat):Int),()))):=by
    unfold laws_szColumnS_b0
    simp only [lss_len,inR_nat,hn,decide_true,cond_true,get_nat,lets_def,succ64 (n:=n) (show n < 1099511627776 by omega)]
    show ((laws_szColumn (l.getD n zCol).1 (l.getD n zCol).2.1 (l.getD n zCol).2.2 a).bind _)=_
    rw [e1]
    rfl
   rw [hb]
   rcases e2 with rfl | ⟨b0,b1,b2,b3⟩
   ·exact .inl rfl
   ·rw [neg_of b0];exact .inr ⟨b,rfl,b0,b1,b2,b3⟩) (fun a=>by
   unfold laws_szColumnS_b0
   simp only [lss_len,Nat.lt_irrefl,decide_false,cond_false]) (a - (l.length:Int)) (by omega) (by omega)
  simp only [cond_false]
  unfold laws_szColumnS_l0
  rw [q1]
  rcases q2 with rfl | ⟨b,rfl,b1,b2,b3⟩
  ·exact ⟨-1,rfl,.inl rfl⟩
  ·exact ⟨b,rfl,.inr ⟨b1,by omega,hl30,b3⟩⟩
structure siteLe (m:Nat) (x:Site):Prop where
 o:x.1.length≤m
 c:x.2.1.length≤m
 b:x.2.2.1.length≤m
 bs:∀ n,n < x.2.2.1.length→colLe m (x.2.2.1.getD n zCol)
 j:x.2.2.2.2.2.2.2.2.2.2.length≤m
theorem toDoor_eq (a0 a1:Int) (a2 a3 a4:Bool):laws_toDoor a0 a1 a2 a3 a4=some (a0,a1,a2,a3,a4,()):=rfl
theorem eqDoor_self (a0 a1:Int) (a2 a3 a4:Bool):laws_eqDoor a0 a1 a2 a3 a4 a0 a1 a2 a3 a4=some (true,()):=by
 unfold laws_eqDoor
 simp only [neq_self,rBeq_self,Bool.not_true,cond_false]
theorem toSite_eq (x:Site) (h:siteLe 1073741824 x):laws_toSite x.1 x.2.1 x.2.2.1 x.2.2.2.1 x.2.2.2.2.1 x.2.2.2.2.2.1 x.2.2.2.2.2.2.1 x.2.2.2.2.2.2.2.1 x.2.2.2.2.2.2.2.2.1 x.2.2.2.2.2.2.2.2.2.1 x.2.2.2.2.2.2.2.2.2.2 =
  some (x.1,x.2.1,x.2.2.1,x.2.2.2.1,x.2.2.2.2.1,x.2.2.2.2.2.1,x.2.2.2.2.2.2.1,x.2.2.2.2.2.2.2.1,x.2.2.2.2.2.2.2.2.1,x.2.2.2.2.2.2.2.2.2.1,x.2.2.2.2.2.2.2.2.2.2,()):=by
 unfold laws_toSite
 simp only [toWeek_eq _ _ h.o h.c,toColumnS_eq _ h.b h.bs,toDoor_eq,toEvS_eq _ h.j,Option.bind_some]
theorem eqSite_self (x:Site) (h:siteLe 1073741824 x):laws_eqSite x.1 x.2.1 x.2.2.1 x.2.2.2.1 x.2.2.2.2.1 x.2.2.2.2.2.1 x.2.2.2.2.2.2.1 x.2.2.2.2.2.2.2.1 x.2.2.2.2.2.2.2.2.1 x.2.2.2.2.2.2.2.2.2.1 x.2.2.2.2.2.2.2.2.2.2 x.1 x.2.1 x.2.2.1 x.2.2.2.1 x.2.2.2.2.1 x.2.2.2.2.2.1 x.2.2.2.2.2.2.1 x.2.2.2.2.2.2.2.1 x.2.2.2.2.2.2.2.2.1 x.2.2.2.2.2.2.2.2.2.1 x.2.2.2.2.2.2.2.2.2.2=some (true,()):=by
 unfold laws_eqSite
 simp only [eqWeek_self _ _ h.o h.c,eqColumnS_self _ h.b h.bs,eqDoor_self,eqEvS_self _ h.j,Option.bind_some,neq_self,Bool.not_true,cond_false]
structure siteWf (x:Site):Prop where
 o:x.1.length≤9223372036854775807
 c:x.2.1.length≤9223372036854775807
 b:x.2.2.1.length≤9223372036854775807
 bs:∀ y∈x.2.2.1,colLe 9223372036854775807 y
 j:x.2.2.2.2.2.2.2.2.2.2.length≤9223372036854775807
theorem szSite_eq (x:Site) (a:Int) (h:siteWf x) (ha:0≤a) (ha':a≤1048576) :
  ∃ b,laws_szSite x.1 x.2.1 x.2.2.1 x.2.2.2.1 x.2.2.2.2.1 x.2.2.2.2.2.1 x.2.2.2.2.2.2.1 x.2.2.2.2.2.2.2.1 x.2.2.2.2.2.2.2.2.1 x.2.2.2.2.2.2.2.2.2.1 x.2.2.2.2.2.2.2.2.2.2 a=some (b,())∧(b = -1∨(0≤b∧b≤a∧siteLe 1073741824 x)):=by
 unfold laws_szSite
 rw [szWeek_eq _ _ a h.o h.c ha ha']
 simp only [Option.bind_some]
 cases hd:decide (a < (x.1.length:Int)+(x.2.1.length:Int)) with
 | true=>exact ⟨-1,rfl,.inl rfl⟩
 | false =>
  have hd:=of_decide_eq_false hd
  simp only [cond_false]
  rw [neg_of (by omega)]
  simp only [cond_false]
  obtain ⟨b,e1,e2⟩:=szColumnS_eq x.2.2.1 (a - (x.1.length:Int) - (x.2.1.length:Int)) h.b h.bs (by omega) (by omega)
  rw [e1]
  simp only [Option.bind_some]
  rcases e2 with rfl | ⟨b0,b1,b2,b3⟩
  ·exact ⟨-1,rfl,.inl rfl⟩
  ·rw [neg_of b0]
   simp only [cond_false]
   rw [szEvS_eq _ b h.j b0 (by omega)]
   simp only [Option.bind_some]
   cases hd2:decide (b < (x.2.2.2.2.2.2.2.2.2.2.length:Int)) with
   | true=>exact ⟨-1,rfl,.inl rfl⟩
   | false =>
    have hd2:=of_decide_eq_false hd2
    simp only [cond_false]
    rw [neg_of (by omega)]
    exact ⟨_,rfl,.inr ⟨by omega,by omega,⟨by show _≤1073741824;omega,by show _≤1073741824;omega,b2,b3,by show _≤1073741824;omega⟩⟩⟩
theorem toSiteS_eq (l:List Site) (hl:l.length≤1073741824) (hc:∀ n,n < l.length→siteLe 1073741824 (l.getD n zSite)):laws_toSiteS l=some (l,()):=by
 unfold laws_toSiteS
 rw [repOk_len hl]
 have hr:rRep (rLen l) ((([]:List Spn),([]:List Spn),([]:List Col),(0:Int),(0:Int),false,false,false,(0:Int),(0:Int),([]:List Ev)):Site)=List.replicate l.length ([],[],[],0,0,false,false,false,0,0,[]):=rep_nat _ _
 rw [hr]
 have:=copy_gen (body:=laws_toSiteS_b0 (l,())) l ([],[],[],0,0,false,false,false,0,0,[]) zSite hl (fun n acc hn ha=>by
  have hs:=toSite_eq (l.getD n zSite) (hc n hn)
  unfold laws_toSiteS_b0
  simp only [lss_len,inR_nat,hn,ha,decide_true,cond_true,get_nat,lets_def,succ64 (n:=n) (show n < 1099511627776 by omega),put_nat]
  show ((laws_toSite (l.getD n zSite).1 (l.getD n zSite).2.1 (l.getD n zSite).2.2.1 (l.getD n zSite).2.2.2.1 (l.getD n zSite).2.2.2.2.1 (l.getD n zSite).2.2.2.2.2.1 (l.getD n zSite).2.2.2.2.2.2.1 (l.getD n zSite).2.2.2.2.2.2.2.1 (l.getD n zSite).2.2.2.2.2.2.2.2.1 (l.getD n zSite).2.2.2.2.2.2.2.2.2.1 (l.getD n zSite).2.2.2.2.2.2.2.2.2.2).bind _)=_
  rw [hs]
  rfl) (fun acc _=>by
  unfold laws_toSiteS_b0
  simp only [lss_len,Nat.lt_irrefl,decide_false,cond_false])
 simp only [cond_true]
 unfold laws_toSiteS_l0
 rw [this]
 rfl
theorem eqSiteS_self (l:List Site) (hl:l.length≤1073741824) (hc:∀ n,n < l.length→siteLe 1073741824 (l.getD n zSite)):laws_eqSiteS l l=some (true,()):=by
 unfold laws_eqSiteS
 rw [neq_self]
 have hloop:laws_eqSiteS_l0 (l,l,()) ((0:Int),())=some (Sum.inr (Sum.inl ())):=by
  refine loop_end (fun n=>((n:Int),())) l.length (by show _ < _;omega) _ (fun n hn=>?_) ?_
  ·have hs:=eqSite_self (l.getD n zSite) (hc n hn)
   unfold laws_eqSiteS_b0
   simp only [lss_len,inR_nat,hn,decide_true,cond_true,get_nat,lets_def,succ64 (n:=n) (show n < 1099511627776 by omega)]
   have hs':=congrArg (fun q=>q.bind fun (y0:Bool×Unit)=>(bif (Bool.not y0.1) then some (Sum.inr (Sum.inl (false,()))) else some (Sum.inl (((n+1:Nat):Int),())):Option ((Int×Unit) ⊕ (Bool×Unit ⊕ (Unit ⊕ Empty))))) hs
   exact hs'
  ·unfold laws_eqSiteS_b0
   simp only [lss_len,Nat.lt_irrefl,decide_false,cond_false]
 simp only [cond_false]
 rw [hloop]
 rfl
theorem szSiteS_eq (l:List Site) (a:Int) (hl:l.length≤9223372036854775807) (hw:∀ c∈l,siteWf c) (ha:0≤a) (ha':a≤1048576) :
  ∃ b,laws_szSiteS l a=some (b,())∧(b = -1∨(0≤b∧b≤a∧l.length≤1073741824∧∀ n,n < l.length→siteLe 1073741824 (l.getD n zSite))):=by
 unfold laws_szSiteS
 have h1:rArith .sub .i64 a (rLen l)=a - (l.length:Int):=sub64 (by unfold rLen;have:l.length≤9223372036854775807:=hl;omega) (by unfold rLen;omega)
 have h2:rCmp .lss (a - (l.length:Int)) 0=decide (a < (l.length:Int)):=by simp only [rCmp,decide_eq_decide];omega
 rw [h1,h2]
 cases hd:decide (a < (l.length:Int)) with
 | true=>exact ⟨-1,rfl,.inl rfl⟩
 | false =>
  have hd:=of_decide_eq_false hd
  have hl30:l.length≤1073741824:=by omega
  obtain ⟨y,q1,q2⟩:=size_gen (body:=laws_szSiteS_b0 (l,())) l hl30 (fun n=>siteLe 1073741824 (l.getD n zSite)) (fun n a hn h0 h1=>by
   obtain ⟨b,e1,e2⟩:=szSite_eq (l.getD n zSite) a (hw _ (getD_mem hn zSite)) h0 h1
   have hb:laws_szSiteS_b0 (l,()) (a,(n:Int),())=(bif rCmp .lss b 0 then some (.inr (.inl (-1,()))) else some (.inl (b,((n+1:Nat):Int),()))):=by
    unfold laws_szSiteS_b0
    simp only [lss_len,inR_nat,hn,decide_true,cond_true,get_nat,lets_def,succ64 (n:=n) (show n < 1099511627776 by omega)]
    have hs':=congrArg (fun q=>q.bind fun (y0:Int×Unit)=>(bif (rCmp .lss y0.1 (0:Int)) then some (.inr (.inl ((-1:Int),()))) else some (.inl (y0.1,((n+1:Nat):Int),())):Option ((Int×Int×Unit) ⊕ (Int×Unit ⊕ (Int×Unit ⊕ Empty))))) e1
    exact hs'
   rw [hb]
   rcases e2 with rfl | ⟨b0,b1,b2⟩
   ·exact .inl rfl
   ·rw [neg_of b0];exact .inr ⟨b,rfl,b0,b1,b2⟩) (fun a=>by
   unfold laws_szSiteS_b0
   simp only [lss_len,Nat.lt_irrefl,decide_false,cond_false]) (a - (l.length:Int)) (by omega) (by omega)
  simp only [cond_false]
  unfold laws_szSiteS_l0
  rw [q1]
  rcases q2 with rfl | ⟨b,rfl,b1,b2,b3⟩
  ·exact ⟨-1,rfl,.inl rfl⟩
  ·exact ⟨b,rfl,.inr ⟨b1,by omega,hl30,b3⟩⟩
end Go.Fn
set_option linter.unusedSimpArgs false
namespace Go.Fn
open Go.R
abbrev Prc:=Int×Int×Int×Int×Int×Int×Int×Int×Int×Int×Int×Int×Int
abbrev Grt:=Int×Int×Int×Int×Int×Int×Bool
structure netWf (s:List Site) (p:List Prc) (g:List Grt) (j:List Ev):Prop where
 ls:s.length≤9223372036854775807
 ss:∀ x∈s,siteWf x
 lp:p.length≤9223372036854775807
 lg:g.length≤9223372036854775807
 lj:j.length≤9223372036854775807
structure netLe (s:List Site) (p:List Prc) (g:List Grt) (j:List Ev):Prop where
 ls:s.length≤1048576
 ss:∀ n,n < s.length→siteLe 1073741824 (s.getD n zSite)
 lp:p.length≤1048576
 lg:g.length≤1048576
 lj:j.length≤1048576
theorem szSiteS_len (s:List Site) (a b:Int) (hs:s.length≤9223372036854775807) (ha:0≤a) (ha':a≤1048576) (h:laws_szSiteS s a=some (b,())) (hb:0≤b):s.length≤1048576:=by
 unfold laws_szSiteS at h
 have h1:rArith .sub .i64 a (rLen s)=a - (s.length:Int):=sub64 (by unfold rLen;omega) (by unfold rLen;omega)
 have h2:rCmp .lss (a - (s.length:Int)) 0=decide (a < (s.length:Int)):=by simp only [rCmp,decide_eq_decide];omega
 rw [h1,h2] at h
 cases hd:decide (a < (s.length:Int)) with
 | true =>
  rw [hd] at h
  simp only [cond_true,Option.some.injEq,Prod.mk.injEq] at h
  omega
 | false =>
  have hd:=of_decide_eq_false hd
  omega
section
variable (a0 a1 a2 a3 a4 a5 a6 a7 a8 a9 a10:Int) (s:List Site) (p:List Prc) (g:List Grt) (j:List Ev)
theorem toNetwork_eq (h:netLe s p g j):laws_toNetwork a0 a1 a2 a3 a4 a5 a6 a7 a8 a9 a10 s p g j=some (a0,a1,a2,a3,a4,a5,a6,a7,a8,a9,a10,s,p,g,j,()):=by
 have h1:=h.ls;have h2:=h.lp;have h3:=h.lg;have h4:=h.lj
 unfold laws_toNetwork
 simp only [toTerms_eq,toSiteS_eq s (by omega) h.ss,toParcelS_eq p (by omega),toGrantS_eq g (by omega),toEvS_eq j (by omega),Option.bind_some]
theorem eqNetwork_self (h:netLe s p g j):laws_eqNetwork a0 a1 a2 a3 a4 a5 a6 a7 a8 a9 a10 s p g j a0 a1 a2 a3 a4 a5 a6 a7 a8 a9 a10 s p g j=some (true,()):=by
 have h1:=h.ls;have h2:=h.lp;have h3:=h.lg;have h4:=h.lj
 unfold laws_eqNetwork
 simp only [eqTerms_self,neq_self,eqSiteS_self s (by omega) h.ss,eqParcelS_self p (by omega),eqGrantS_self g (by omega),eqEvS_self j (by omega),Option.bind_some,Bool.not_true,cond_false]
theorem szNetwork_eq (a:Int) (h:netWf s p g j) (ha:0≤a) (ha':a≤1048576) :
  ∃ b,laws_szNetwork a0 a1 a2 a3 a4 a5 a6 a7 a8 a9 a10 s p g j a=some (b,())∧(b = -1∨(0≤b∧b≤a∧netLe s p g j)):=by
 unfold laws_szNetwork
 obtain ⟨b,e1,e2⟩:=szSiteS_eq s a h.ls h.ss ha ha'
 rw [e1]
 simp only [Option.bind_some]
 rcases e2 with rfl | ⟨b0,b1,b2,b3⟩
 ·exact ⟨-1,rfl,.inl rfl⟩
 ·rw [neg_of b0]
  simp only [cond_false]
  rw [szParcelS_eq p b h.lp b0 (by omega)]
  simp only [Option.bind_some]
  cases hd:decide (b < (p.length:Int)) with
  | true=>exact ⟨-1,rfl,.inl rfl⟩
  | false =>
   have hd:=of_decide_eq_false hd
   simp only [cond_false]
   rw [neg_of (by omega)]
   simp only [cond_false]
   rw [szGrantS_eq g _ h.lg (by omega) (by omega)]
   simp only [Option.bind_some]
   cases hd2:decide (b - (p.length:Int) < (g.length:Int)) with
   | true=>exact ⟨-1,rfl,.inl rfl⟩
   | false =>
    have hd2:=of_decide_eq_false hd2
    simp only [cond_false]
    rw [neg_of (by omega)]
    simp only [cond_false]
    rw [szEvS_eq j _ h.lj (by omega) (by omega)]
    simp only [Option.bind_some]
    cases hd3:decide (b - (p.length:Int) - (g.length:Int) < (j.length:Int)) with
    | true=>exact ⟨-1,rfl,.inl rfl⟩
    | false =>
     have hd3:=of_decide_eq_false hd3
     simp only [cond_false]
     rw [neg_of (by omega)]
     refine ⟨_,rfl,.inr ⟨by omega,by omega,⟨?_,b3,by omega,by omega,by omega⟩⟩⟩
     exact szSiteS_len s a b h.ls ha ha' e1 b0
theorem secret_eq (n:Int):∃ y,spec_SecretOf a0 a1 a2 a3 a4 a5 a6 a7 a8 a9 a10 s p g j n=some (y,())∧impl_SecretOf a0 a1 a2 a3 a4 a5 a6 a7 a8 a9 a10 s p g j n=some (y,()):=by
 unfold spec_SecretOf impl_SecretOf spec_l03Secret impl_secretOk
 simp only [in_eq,within_eq,Option.bind_some]
 have hz:rIsZero (2147483646:Int)=false:=rfl
 cases inB a9 1 2147483646 with
 | false=>exact ⟨_,rfl,rfl⟩
 | true =>
  cases inB n 1 12 with
  | false=>exact ⟨_,rfl,rfl⟩
  | true=>simp only [hz];exact ⟨_,rfl,rfl⟩
end
end Go.Fn
namespace Go.R
def Yl {α:Type} (x:Option α) (P:α→Prop):Prop:=∃ a,x=some a∧P a
section
variable {α β:Type} {P:α→Prop} {Q:β→Prop}
theorem Yl.ret {a:α} (h:P a):Yl (some a) P:=⟨a,rfl,h⟩
theorem Yl.bind {x:Option α} {f:α→Option β} (hx:Yl x P) (hf:∀ a,P a→Yl (f a) Q):Yl (x.bind f) Q:=by
 obtain ⟨a,rfl,ha⟩:=hx
 exact hf a ha
theorem Yl.mono {P':α→Prop} {x:Option α} (hx:Yl x P) (h:∀ a,P a→P' a):Yl x P':=by
 obtain ⟨a,e,ha⟩:=hx
 exact ⟨a,e,h a ha⟩
theorem Yl.cond {b:Bool} {x y:Option α} (hx:b=true→Yl x P) (hy:b=false→Yl y P):Yl (bif b then x else y) P:=by
 cases b
 ·exact hy rfl
 ·exact hx rfl
theorem Yl.guard {b:Bool} {x:Option α} (hb:b=true) (hx:Yl x P):Yl (bif b then x else none) P:=by
 subst hb;exact hx
theorem Yl.lets {γ:Type} {v:γ} {k:γ→Option α} (h:Yl (k v) P):Yl (lets v k) P:=h
end
theorem small_of {α:Type} {l:List α} (h:l.length≤1073741824):rSmall l=true:=by
 unfold rSmall limit
 exact decide_eq_true (by omega)
open Go.Fn
end Go.R
set_option linter.unusedSimpArgs false
set_option linter.unusedVariables false
namespace Go.Fn
open Go.R Go.Sort
theorem inA {α:Type} (d:Array α) (i:Nat):rInR d.toList (i:Int)=decide (i < d.size):=by rw [inR_nat,Array.length_toList]
theorem inP {α:Type} (d:Array α) (i j:Nat) (x:α):rInR (rPut d.toList (i:Int) x) (j:Int)=decide (j < d.size):=by rw [put_nat,inR_set,Array.length_toList]
section
variable {α:Type} [Inhabited α] {lt:α→α→Bool}
theorem gA (d:Array α) (i:Nat):rGet default d.toList (i:Int)=d[i]!:=by
 rw [get_nat,List.getD_eq_getElem?_getD,getElem!_def,←Array.getElem?_toList]
 cases d.toList[i]? <;> rfl
theorem swA (d:Array α) (i j:Nat):rPut (rPut d.toList (i:Int) d[j]!) (j:Int) d[i]! = (swp d i j).toList:=by
 rw [put_nat,put_nat];unfold swp;rw [Array.toList_setIfInBounds,Array.toList_setIfInBounds]
theorem aS {n m:Nat} (h:n+m < 1099511627776):rArith .add .i64 (n:Int) (m:Int)=((n+m:Nat):Int):=by rw [add64] <;> omega
theorem sS {n m:Nat} (h:m≤n) (h2:n < 1099511627776):rArith .sub .i64 (n:Int) (m:Int)=((n - m:Nat):Int):=by rw [sub64] <;> omega
theorem mS {n m:Nat} (h:n*m < 1099511627776):rArith .mul .i64 (n:Int) (m:Int)=((n*m:Nat):Int):=by
 rw [mul64]
 ·rw [Int.natCast_mul]
 ·rw [←Int.natCast_mul];omega
 ·rw [←Int.natCast_mul];omega
theorem gtS (n m:Nat):rCmp .gtr (n:Int) (m:Int)=decide (n > m):=by simp [rCmp]
theorem ltS (n m:Nat):rCmp .lss (n:Int) (m:Int)=decide (n < m):=by simp [rCmp]
theorem leS (n m:Nat):rCmp .leq (n:Int) (m:Int)=decide (n≤m):=by simp [rCmp]
theorem eqS (n m:Nat):rCmp .eql (n:Int) (m:Int)=decide (n=m):=by
 simp only [rCmp]
 by_cases h:n=m
 ·subst h;simp
 ·rw [decide_eq_false h];simp;omega
theorem size_insInner (lt:α→α→Bool) (a:Nat):∀ j (d:Array α),(insInner lt a j d).size=d.size
 | 0,_=>rfl
 | j+1,d=>by
  unfold insInner
  split
  ·rw [size_insInner lt a j,size_swp]
  ·rfl
theorem one:(1:Int)=((1:Nat):Int):=rfl
end
end Go.Fn
set_option linter.unusedSimpArgs false
set_option linter.unusedVariables false
namespace Go.Fn
open Go.R Go.Sort
theorem wu64 {n:Int} (h1:0≤n) (h2:n < 18446744073709551616):IntKind.u64.wrap n=n:=IntWalk.u64_in n ⟨h1,by omega⟩
theorem convI {n:Nat} (h:n < 1099511627776):rConv .i64 (n:Int)=(n:Int):=w64 (by omega) (by omega)
section
variable {α:Type} [Inhabited α] {lt:α→α→Bool}
theorem convU {n:Nat} (h:n < 1099511627776):rConv .u64 (n:Int)=(n:Int):=wu64 (by omega) (by omega)
abbrev PdqQ (α:Type):=Option (((List α)×Int×Int×Int×Bool×Bool×Unit) ⊕ ((List α)×Unit ⊕ Empty))
noncomputable def Next (lt:α→α→Bool) (q:PdqQ α) (d:Array α) (a b:Nat):Prop:=
 (∃ R,q=some (.inr (.inl (R.toList,())))∧PermIn a b d R∧SortedIn lt a b R) ∨
 (∃ (E:Array α) (a' b':Nat) (L:Int) (wb wp:Bool),q=some (.inl (E.toList,(a':Int),(b':Int),L,wb,wp,()))∧E.size=d.size∧a'≤b'∧b'≤b∧b' - a' < b - a∧Below lt a' b' E∧∀ R,PermIn a' b' E R→SortedIn lt a' b' R→PermIn a b d R∧SortedIn lt a b R)
theorem Next.mono {q:PdqQ α} {d D:Array α} {a b:Nat} (h:Next lt q D a b) (p:PermIn a b d D):Next lt q d a b:=by
 rcases h with ⟨R,h1,h2,h3⟩ | ⟨E,a',b',L,wb,wp,h1,h2,h3,h4,h5,h6,h7⟩
 ·exact .inl ⟨R,h1,permIn_trans _ _ _ a b p h2,h3⟩
 ·refine .inr ⟨E,a',b',L,wb,wp,h1,by rw [h2,p.1],h3,h4,h5,h6,fun R hR hs=>?_⟩
  obtain ⟨k1,k2⟩:=h7 R hR hs
  exact ⟨permIn_trans _ _ _ a b p k1,k2⟩
end
end Go.Fn
set_option linter.unusedSimpArgs false
set_option linter.unusedVariables false
namespace Go.Fn
open Go.R Go.Sort
noncomputable def ltE (x y:Ev):Bool:=decide (x.1 < y.1) || (decide (x.1=y.1) && decide (x.2.1 < y.2.1))
noncomputable def sgn (a b:Int):Int:=bif decide (a < b) then -1 else bif decide (b < a) then 1 else 0
theorem compare_eq (a b:Int):cmp_Compare_int_ a b=some (sgn a b,()):=by
 unfold cmp_Compare_int_ cmp_isNaN_int_ sgn
 simp only [neq_self,Option.bind_some,cond_false]
 simp only [rCmp,gt_iff_lt]
 cases decide (a < b) <;> cases decide (b < a) <;> rfl
theorem or_eq (a b:Int):cmp_Or_int_ [a,b]=some ((bif decide (a=0) then b else a),()):=by
 unfold cmp_Or_int_ cmp_Or_int__l0
 have hb:∀ n:Nat,n < 2→cmp_Or_int__b0 ((0:Int),[a,b],rLen [a,b],()) ((n:Int),())=some (bif decide (([a,b].getD n 0)=0) then .inl (((n+1:Nat):Int),()) else .inr (.inl ([a,b].getD n 0,()))):=by
  intro n hn
  unfold cmp_Or_int__b0
  simp only [lss_len,inR_nat,get_nat,show n < [a,b].length from hn,decide_true,cond_true,succ64 (n:=n) (by omega),zI]
  by_cases h:[a,b].getD n 0=0
  ·rw [h];rfl
  ·rw [show rCmp .neq ([a,b].getD n 0) (0:Int)=true from by simpa [rCmp] using h,decide_eq_false h];rfl
 by_cases ha:a=0
 ·by_cases hb0:b=0
  ·have e:iter (cmp_Or_int__b0 ((0:Int),[a,b],rLen [a,b],())) 3 ((0:Int),())=some (.inr (.inl ())):=by
    rw [iter_next (y:=(((1:Nat):Int),())) (by simpa [ha] using hb 0 (by omega)),iter_next (y:=(((2:Nat):Int),())) (by simpa [hb0] using hb 1 (by omega))]
    exact iter_done rfl
   rw [iter_mono e (by unfold big;omega),ha,hb0]
   rfl
  ·have e:iter (cmp_Or_int__b0 ((0:Int),[a,b],rLen [a,b],())) 2 ((0:Int),())=some (.inl (b,())):=by
    rw [iter_next (y:=(((1:Nat):Int),())) (by simpa [ha] using hb 0 (by omega))]
    exact iter_done (by simpa [hb0] using hb 1 (by omega))
   rw [iter_mono e (by unfold big;omega),ha]
   rfl
 ·have e:iter (cmp_Or_int__b0 ((0:Int),[a,b],rLen [a,b],())) 1 ((0:Int),())=some (.inl (a,())):=iter_done (by simpa [ha] using hb 0 (by omega))
  rw [iter_mono e (by unfold big;omega)]
  simp [ha]
end Go.Fn
set_option linter.unusedSimpArgs false
set_option linter.unusedVariables false
namespace Go.Fn
open Go.R Go.Sort
theorem ltE_iff {x y:Ev}:ltE x y=true↔x.1 < y.1∨(x.1=y.1∧x.2.1 < y.2.1):=by
 unfold ltE;simp
theorem ltE_tr {x y z:Ev} (h1:ltE x y=true) (h2:ltE y z=true):ltE x z=true:=by rw [ltE_iff] at *;omega
abbrev Srt (l:List Ev):Prop:=l.Pairwise fun x y=>ltE x y=true
theorem srt_adj:∀ (l:List Ev),(∀ n,n+1 < l.length→ltE (l.getD n zIIIIIII) (l.getD (n+1) zIIIIIII)=true)→Srt l
 | [],_=>List.Pairwise.nil
 | [x],_=>List.pairwise_singleton _ _
 | x::y::l,h=>by
  have ih:=srt_adj (y::l) (fun n hn=>h (n+1) (by simpa using hn))
  have hxy:ltE x y=true:=h 0 (by simp)
  refine List.Pairwise.cons (fun z hz=>?_) ih
  rcases List.mem_cons.1 hz with rfl | hz
  ·exact hxy
  ·exact ltE_tr hxy ((List.pairwise_cons.1 ih).1 z hz)
theorem jok_srt {l:List Ev} (h:jok l=true):Srt l:=by
 refine srt_adj l fun n hn=>?_
 have:=jok_at h hn
 simp only [jokAt,Bool.and_eq_true,ordOk,Bool.not_eq_true',Bool.or_eq_false_iff,Bool.and_eq_false_iff,decide_eq_false_iff_not] at this
 rw [ltE_iff]
 omega
end Go.Fn
set_option linter.unusedSimpArgs false
set_option linter.unusedVariables false
namespace Go.Fn
open Go.R Go.Sort
noncomputable def ordE (x y:Ev):Prop:=ltE x y=true∧(x.1=y.1→x.2.2.1 < y.2.2.1)
theorem ordE_tr {x y z:Ev} (h1:ordE x y) (h2:ordE y z):ordE x z:=by
 obtain ⟨a1,a2⟩:=h1
 obtain ⟨b1,b2⟩:=h2
 refine ⟨ltE_tr a1 b1,fun h=>?_⟩
 rw [ltE_iff] at a1 b1
 have:=a2 (by omega)
 have:=b2 (by omega)
 omega
theorem ordOk_iff {x y:Ev}:ordOk x y=true↔ordE x y:=by
 unfold ordE
 simp only [ordOk,Bool.not_eq_true',Bool.or_eq_false_iff,Bool.and_eq_false_iff,decide_eq_false_iff_not,ltE_iff]
 omega
theorem pair_adj {R:Ev→Ev→Prop} (tr:∀ x y z,R x y→R y z→R x z):∀ (l:List Ev),(∀ n,n+1 < l.length→R (l.getD n zIIIIIII) (l.getD (n+1) zIIIIIII))→l.Pairwise R
 | [],_=>List.Pairwise.nil
 | [x],_=>List.pairwise_singleton _ _
 | x::y::l,h=>by
  have ih:=pair_adj tr (y::l) (fun n hn=>h (n+1) (by simpa using hn))
  have hxy:R x y:=h 0 (by simp)
  refine List.Pairwise.cons (fun z hz=>?_) ih
  rcases List.mem_cons.1 hz with rfl | hz
  ·exact hxy
  ·exact tr _ _ _ hxy ((List.pairwise_cons.1 ih).1 z hz)
theorem getD_eq {α:Type} {l:List α} {n:Nat} (h:n < l.length) (z:α):l.getD n z=l[n]:=by
 rw [List.getD_eq_getElem?_getD,List.getElem?_eq_getElem h];rfl
theorem jok_iff {l:List Ev}:jok l=true↔l.length≤60∧(∀ x,x∈l→evOk x=true)∧l.Pairwise ordE:=by
 constructor
 ·intro h
  refine ⟨jok_len h,fun x hx=>?_,pair_adj (R:=ordE) (fun _ _ _ h1 h2=>ordE_tr h1 h2) l fun n hn=>?_⟩
  ·obtain ⟨n,hn,rfl⟩:=List.getElem_of_mem hx
   have:=jok_ev h hn
   rwa [getD_eq hn] at this
  ·have:=jok_at h hn
   simp only [jokAt,Bool.and_eq_true] at this
   exact ordOk_iff.1 this.2
 ·intro ⟨h1,h2,h3⟩
  unfold jok
  rw [decide_eq_false (by omega)]
  refine (allFrom_iff _ _).2 fun m _ hm=>?_
  rw [Nat.zero_add] at hm
  cases m with
  | zero=>exact h2 _ (getD_mem hm _)
  | succ m =>
   simp only [jokAt,Bool.and_eq_true]
   refine ⟨h2 _ (getD_mem hm _),ordOk_iff.2 ?_⟩
   rw [getD_eq hm,getD_eq (show m < l.length by omega)]
   exact List.pairwise_iff_getElem.1 h3 m (m+1) (by omega) hm (by omega)
noncomputable def aStep (node:Int) (s:Int×Int×Nat×Nat) (x:Ev):Int×Int×Nat×Nat:=
 ((bif decide (x.1=node) then x.2.1+1 else s.1),max s.2.1 (x.2.2.1+1),(bif decide (x.1≤node) then s.2.2.2+1 else s.2.2.1),s.2.2.2+1)
noncomputable def aRun (l:List Ev) (node:Int):Int×Int×Nat×Nat:=l.foldl (aStep node) (1,1,0,0)
noncomputable def newE (l:List Ev) (node kind parcel a b:Int):Ev:=(node,(aRun l node).1,(aRun l node).2.1,kind,parcel,a,b)
noncomputable def withE (l:List Ev) (node kind parcel a b:Int):List Ev:=l.take (aRun l node).2.2.1++[newE l node kind parcel a b]++l.drop (aRun l node).2.2.1
noncomputable def addEv (l:List Ev) (node kind parcel a b:Int):List Ev×Bool:=bif jok l then bif jok (withE l node kind parcel a b) then (withE l node kind parcel a b,true) else (l,false) else (l,false)
structure AInv (node:Int) (p:List Ev) (s:Int×Int×Nat×Nat):Prop where
 c:s.2.2.2=p.length
 at_le:s.2.2.1≤p.length
 s1:∀ x,x∈p→x.1=node→x.2.1 < s.1
 s2:s.1=1∨∃ x,x∈p∧x.1=node∧s.1=x.2.1+1
 p1:∀ x,x∈p→x.2.2.1 < s.2.1
 p2:s.2.1=1∨∃ x,x∈p∧s.2.1=x.2.2.1+1
 a1:∀ x,x∈p.take s.2.2.1→x.1≤node
 a2:∀ x,x∈p.drop s.2.2.1→node < x.1
theorem aInv_step {node:Int} {p:List Ev} {s:Int×Int×Nat×Nat} {x:Ev} (h:AInv node p s) (hp:Srt (p++[x])):AInv node (p++[x]) (aStep node s x):=by
 have hlt:∀ y,y∈p→ltE y x=true:=fun y hy=>(List.pairwise_append.1 hp).2.2 y hy x (List.mem_singleton.2 rfl)
 obtain ⟨h1,h2,h3,h4,h5,h6,h7,h8⟩:=h
 unfold aStep
 refine ⟨by simp [h1],?_,fun y hy hn=>?_,?_,fun y hy=>?_,?_,?_,?_⟩
 ·cases decide (x.1≤node) <;> simp <;> omega
 ·simp only []
  rcases List.mem_append.1 hy with hy | hy
  ·by_cases hx:x.1=node
   ·rw [decide_eq_true hx]
    have:=hlt y hy
    rw [ltE_iff] at this
    simp only [cond_true];omega
   ·rw [decide_eq_false hx]
    exact h3 y hy hn
  ·rw [List.mem_singleton] at hy
   subst hy
   rw [decide_eq_true hn]
   simp only [cond_true];omega
 ·simp only []
  by_cases hx:x.1=node
  ·rw [decide_eq_true hx]
   exact .inr ⟨x,by simp,hx,rfl⟩
  ·rw [decide_eq_false hx]
   rcases h4 with h4 | ⟨y,hy,h4⟩
   ·exact .inl h4
   ·exact .inr ⟨y,List.mem_append_left _ hy,h4⟩
 ·simp only []
  rcases List.mem_append.1 hy with hy | hy
  ·have:=h5 y hy;omega
  ·rw [List.mem_singleton] at hy
   subst hy;omega
 ·simp only []
  by_cases hm:s.2.1≤x.2.2.1+1
  ·exact .inr ⟨x,by simp,by omega⟩
  ·rcases h6 with h6 | ⟨y,hy,h6⟩
   ·exact .inl (by omega)
   ·exact .inr ⟨y,List.mem_append_left _ hy,by omega⟩
 ·simp only []
  by_cases hx:x.1≤node
  ·rw [decide_eq_true hx]
   intro y hy
   rw [cond_true,h1,List.take_of_length_le (by simp)] at hy
   rcases List.mem_append.1 hy with hy | hy
   ·have:=hlt y hy;rw [ltE_iff] at this;omega
   ·rw [List.mem_singleton] at hy;subst hy;exact hx
  ·rw [decide_eq_false hx]
   intro y hy
   rw [cond_false,List.take_append_of_le_length h2] at hy
   exact h7 y hy
 ·simp only []
  by_cases hx:x.1≤node
  ·rw [decide_eq_true hx]
   intro y hy
   rw [cond_true,h1,List.drop_of_length_le (by simp)] at hy
   exact absurd hy List.not_mem_nil
  ·rw [decide_eq_false hx]
   intro y hy
   rw [cond_false,List.drop_append_of_le_length h2] at hy
   rcases List.mem_append.1 hy with hy | hy
   ·exact h8 y hy
   ·rw [List.mem_singleton] at hy;subst hy;omega
theorem aInv_run (node:Int):∀ (l p:List Ev) (s:Int×Int×Nat×Nat),Srt (p++l)→AInv node p s→AInv node (p++l) (l.foldl (aStep node) s)
 | [],p,s,_,h=>by simpa using h
 | x::l,p,s,hp,h=>by
  have e:p++x::l=(p++[x])++l:=by simp
  rw [e] at hp ⊢
  exact aInv_run node l (p++[x]) (aStep node s x) hp (aInv_step h (List.pairwise_append.1 hp).1)
theorem aRun_inv (node:Int) {l:List Ev} (h:Srt l):AInv node l (aRun l node):=by
 have:=aInv_run node l [] (1,1,0,0) (by simpa using h) ⟨rfl,Nat.le_refl _,fun x hx=>absurd hx List.not_mem_nil,.inl rfl,fun x hx=>absurd hx List.not_mem_nil,.inl rfl,fun x hx=>absurd (List.mem_of_mem_take hx) List.not_mem_nil,fun x hx=>absurd (List.mem_of_mem_drop hx) List.not_mem_nil⟩
 exact this
theorem withE_mem {l:List Ev} {node kind parcel a b:Int} (z:Ev):z∈withE l node kind parcel a b↔z=newE l node kind parcel a b∨z∈l:=by
 unfold withE
 rw [List.mem_append,List.mem_append,List.mem_singleton]
 constructor
 ·rintro ((h | h) | h)
  ·exact .inr (List.mem_of_mem_take h)
  ·exact .inl h
  ·exact .inr (List.mem_of_mem_drop h)
 ·rintro (h | h)
  ·exact .inl (.inr h)
  ·rw [←List.take_append_drop (aRun l node).2.2.1 l,List.mem_append] at h
   rcases h with h | h
   ·exact .inl (.inl h)
   ·exact .inr h
theorem withE_len {l:List Ev} (h:Srt l) (node kind parcel a b:Int):(withE l node kind parcel a b).length=l.length+1:=by
 have:=(aRun_inv node h).at_le
 unfold withE
 simp only [List.length_append,List.length_take,List.length_drop,List.length_singleton]
 omega
end Go.Fn
set_option linter.unusedSimpArgs false
set_option linter.unusedVariables false
namespace Go.Fn
open Go.R Go.Sort
structure JInv (n:Nat) (base:List Ev) (S:Int→Prop) (l:List Ev):Prop where
 j:jok l=true
 len:l.length≤n
 st:∀ x,x∈l→x.2.2.1≤(n:Int)
 gap:∀ x,x∈l→∀ s:Int,1≤s→s≤x.2.1→∃ y,y∈l∧y.1=x.1∧y.2.1=s
 sub:∀ x,x∈base→x∈l
 new:∀ x,x∈l→x∈base∨S x.1
theorem JInv.mono {n m:Nat} {base:List Ev} {S:Int→Prop} {l:List Ev} (h:JInv n base S l) (hm:n≤m):JInv m base S l:=
 ⟨h.j,by have:=h.len;omega,fun x hx=>by have:=h.st x hx;omega,h.gap,h.sub,h.new⟩
theorem JInv.add {n:Nat} {base:List Ev} {S:Int→Prop} {l:List Ev} (h:JInv n base S l) {node:Int} (hS:S node) (kind parcel a b:Int):JInv (n+1) base S (addEv l node kind parcel a b).1:=by
 unfold addEv
 rw [h.j]
 simp only [cond_true]
 cases hw:jok (withE l node kind parcel a b) with
 | false=>exact h.mono (Nat.le_succ _)
 | true =>
  have hs:=jok_srt h.j
  have hi:=aRun_inv node hs
  simp only [cond_true]
  refine ⟨hw,by rw [withE_len hs];have:=h.len;omega,fun x hx=>?_,fun x hx s h1 h2=>?_,fun x hx=>(withE_mem x).2 (.inr (h.sub x hx)),fun x hx=>?_⟩
  ·rcases (withE_mem x).1 hx with e | e
   ·rw [e]
    show (aRun l node).2.1≤_
    rcases hi.p2 with p | ⟨y,hy,p⟩
    ·rw [p];omega
    ·rw [p];have:=h.st y hy;omega
   ·have:=h.st x e;omega
  ·rcases (withE_mem x).1 hx with e | e
   ·subst e
    have h2:s≤(aRun l node).1:=h2
    by_cases e:s=(aRun l node).1
    ·exact ⟨_,hx,rfl,e.symm⟩
    ·rcases hi.s2 with p | ⟨y,hy,q,p⟩
     ·omega
     ·obtain ⟨z,hz,e1,e2⟩:=h.gap y hy s h1 (by omega)
      exact ⟨z,(withE_mem z).2 (.inr hz),by rw [e1,q];rfl,e2⟩
   ·obtain ⟨z,hz,e1,e2⟩:=h.gap x e s h1 h2
    exact ⟨z,(withE_mem z).2 (.inr hz),e1,e2⟩
  ·rcases (withE_mem x).1 hx with e | e
   ·rw [e];exact .inr hS
   ·exact h.new x e
end Go.Fn
set_option linter.unusedSimpArgs false
set_option linter.unusedVariables false
namespace Go.Fn
open Go.R Go.Sort
theorem gI (d:Array Int) (i:Nat):rGet zI d.toList (i:Int)=d[i]!:=gA d i
noncomputable def ltK (u v:Ev):Bool:=decide (u.2.2.1 < v.2.2.1) || (decide (u.2.2.1=v.2.2.1) && decide (u.1 < v.1))
theorem ltK_iff {u v:Ev}:ltK u v=true↔u.2.2.1 < v.2.2.1∨(u.2.2.1=v.2.2.1∧u.1 < v.1):=by unfold ltK;simp
theorem ltK_no {u v:Ev}:ltK u v=false↔v.2.2.1 < u.2.2.1∨(u.2.2.1=v.2.2.1∧v.1≤u.1):=by
 rw [←Bool.not_eq_true,ltK_iff];omega
noncomputable def ltO (l:List Ev) (x y:Int):Bool:=ltK (l.getD x.toNat zIIIIIII) (l.getD y.toNat zIIIIIII)
theorem ltO_swo (l:List Ev):SWO (ltO l):=⟨fun x=>by unfold ltO;rw [ltK_no];omega,fun x y z h1 h2=>by unfold ltO at *;rw [ltK_iff] at *;omega,fun x y z h1 h2=>by unfold ltO at *;rw [ltK_no] at *;omega⟩
noncomputable def cmpO (l:List Ev) (x y:Int):Int:=bif ltO l x y then -1 else bif ltO l y x then 1 else 0
theorem cmpO_neg (l:List Ev) (x y:Int):rCmp .lss (cmpO l x y) (0:Int)=ltO l x y:=by
 unfold cmpO
 cases ltO l x y <;> cases ltO l y x <;> rfl
theorem sgn_or (a b c d:Int):(bif decide (sgn a b=0) then sgn c d else sgn a b)=(bif decide (a < b) || (decide (a=b) && decide (c < d)) then -1 else bif decide (b < a) || (decide (b=a) && decide (d < c)) then 1 else 0):=by
 unfold sgn
 by_cases h1:a < b
 ·simp [h1]
 ·by_cases h2:b < a
  ·have h3 : ¬ (a=b):=by omega
   have h4 : ¬ (b=a):=by omega
   simp [h1,h2,h3,h4]
  ·have h3:a=b:=by omega
   subst h3
   by_cases h4:c < d
   ·simp [h4]
   ·by_cases h5:d < c
    ·simp [h4,h5]
    ·simp [h4,h5]
theorem cmpO_eq (l:List Ev) (x y:Int) (hx:0≤x∧x < l.length) (hy:0≤y∧y < l.length):impl_OrderOf_1 x y l=some (cmpO l x y,()):=by
 obtain ⟨n,rfl⟩:∃ n:Nat,x=(n:Int):=⟨x.toNat,by omega⟩
 obtain ⟨m,rfl⟩:∃ n:Nat,y=(n:Int):=⟨y.toNat,by omega⟩
 unfold impl_OrderOf_1 cmpO ltO
 simp only [inR_nat,get_nat,show n < l.length by omega,show m < l.length by omega,decide_true,cond_true,compare_eq,Option.bind_some,Int.toNat_natCast]
 generalize l.getD n zIIIIIII=u
 generalize l.getD m zIIIIIII=v
 rw [show (List.append (α:=Int) (List.append (α:=Int) ([]:List Int) [sgn u.2.2.1 v.2.2.1]) [sgn u.1 v.1])=[sgn u.2.2.1 v.2.2.1,sgn u.1 v.1] from rfl,or_eq,sgn_or]
 rfl
abbrev Oks (l:List Ev) (d:Array Int):Prop:=∀ k,k < d.size→0≤d[k]! ∧ d[k]! < l.length
theorem Oks.perm {l:List Ev} {d d':Array Int} {a b:Nat} (h:Oks l d) (hb:b≤d.size) (hp:PermIn a b d d'):Oks l d':=by
 have h0:=permIn_mono d d' a b 0 d.size (Nat.zero_le _) hb (Nat.le_refl _) hp
 have:=permIn_all d d' 0 d.size (fun x=>0≤x∧x < l.length) (Nat.le_refl _) h0 (fun i _ hi=>h i hi)
 exact fun k hk=>this k (Nat.zero_le _) (by rw [←hp.1];exact hk)
theorem cmpA {l:List Ev} {d:Array Int} (h:Oks l d) {i j:Nat} (hi:i < d.size) (hj:j < d.size):impl_OrderOf_1 d[i]! d[j]! l=some (cmpO l d[i]! d[j]!,()):=cmpO_eq l _ _ (h i hi) (h j hj)
theorem halfS {n:Nat} (h:n < 1099511627776):rConv .i64 (rShift .shr .u64 (rConv .u64 (n:Int)) (1:Int))=((n / 2:Nat):Int):=by
 rw [convU h]
 have e:rShift .shr .u64 (n:Int) (1:Int)=((n / 2:Nat):Int):=by
  show (n:Int).fdiv (2 ^ 1)=_
  rw [Int.fdiv_eq_ediv_of_nonneg _ (by decide)];omega
 rw [e,convI (by omega)]
theorem o_ins_in (l:List Ev) (a b i:Nat):∀ (j:Nat) (d:Array Int) (n:Nat),Oks l d→j < d.size→d.size≤255→j < n→iter (slices_insertionSortCmpFunc_int___impl_OrderOf_1_b2 ((a:Int),(b:Int),l,(i:Int),())) n (d.toList,(j:Int),())=some (.inl ((insInner (ltO l) a j d).toList,())):=by
 intro j
 induction j with
 | zero =>
  intro d n ho hj hd hn
  obtain ⟨n,rfl⟩:∃ m,n=m+1:=⟨n - 1,by omega⟩
  refine iter_done ?_
  unfold slices_insertionSortCmpFunc_int___impl_OrderOf_1_b2 insInner
  simp only [gtS,show ¬ (0 > a) by omega,decide_false,cond_false]
 | succ j ih =>
  intro d n ho hj hd hn
  obtain ⟨n,rfl⟩:∃ m,n=m+1:=⟨n - 1,by omega⟩
  have e1:rArith .sub .i64 ((j+1:Nat):Int) (1:Int)=(j:Int):=pred64 (by omega)
  have hc:=cmpA ho hj (show j < d.size by omega)
  unfold insInner
  by_cases h:j+1 > a
  ·cases hl:ltO l d[j+1]! d[j]! with
   | true =>
    simp only [h,decide_true,Bool.true_and,if_true]
    rw [←ih (swp d (j+1) j) n (ho.perm (Nat.le_refl _) (swp_permIn d 0 d.size (j+1) j (by omega) hj (by omega) (by omega) (Nat.le_refl _))) (by rw [size_swp];omega) (by rw [size_swp];omega) (by omega)]
    refine iter_next ?_
    unfold slices_insertionSortCmpFunc_int___impl_OrderOf_1_b2
    simp only [gtS,h,decide_true,cond_true,e1,inA,gI,inP,hj,show j < d.size by omega,hc,Option.bind_some,cmpO_neg,hl,swA]
   | false =>
    simp only [Bool.and_false,Bool.false_eq_true,if_false]
    refine iter_done ?_
    unfold slices_insertionSortCmpFunc_int___impl_OrderOf_1_b2
    simp only [gtS,h,decide_true,cond_true,e1,inA,gI,hj,show j < d.size by omega,hc,Option.bind_some,cmpO_neg,hl,cond_false]
  ·simp only [h,decide_false,Bool.false_and,Bool.false_eq_true,if_false]
   refine iter_done ?_
   unfold slices_insertionSortCmpFunc_int___impl_OrderOf_1_b2
   simp only [gtS,h,decide_false,cond_false]
theorem perm_insInner {lt:Int→Int→Bool} (a b:Nat):∀ j (d:Array Int),j < d.size→PermIn 0 d.size d (insInner lt a j d)
 | 0,d,_=>permIn_refl _ _ _
 | j+1,d,hj=>by
  unfold insInner
  split
  ·have h1:=perm_insInner (lt:=lt) a b j (swp d (j+1) j) (by rw [size_swp];omega)
   rw [size_swp] at h1
   exact permIn_trans _ _ _ 0 d.size (swp_permIn d 0 d.size (j+1) j (by omega) hj (by omega) (by omega) (Nat.le_refl _)) h1
  ·exact permIn_refl _ _ _
theorem o_ins_out (l:List Ev) (a b:Nat) (hb:b≤255):∀ (k i:Nat) (d:Array Int) (n:Nat),Oks l d→b - i≤k→b≤d.size→d.size≤255→i≤256→k < n→iter (slices_insertionSortCmpFunc_int___impl_OrderOf_1_b0 ((a:Int),(b:Int),l,())) n (d.toList,(i:Int),())=some (.inl ((insOuter (ltO l) a b i d).toList,())):=by
 intro k
 induction k with
 | zero =>
  intro i d n ho hk hbd hd hi hn
  obtain ⟨n,rfl⟩:∃ m,n=m+1:=⟨n - 1,by omega⟩
  refine iter_done ?_
  unfold slices_insertionSortCmpFunc_int___impl_OrderOf_1_b0 insOuter
  simp only [ltS,show ¬ (i < b) by omega,decide_false,cond_false,if_false]
 | succ k ih =>
  intro i d n ho hk hbd hd hi hn
  obtain ⟨n,rfl⟩:∃ m,n=m+1:=⟨n - 1,by omega⟩
  unfold insOuter
  by_cases h:i < b
  ·simp only [h,if_true]
   rw [←ih (i+1) (insInner (ltO l) a i d) n (ho.perm (Nat.le_refl _) (perm_insInner a b i d (by omega))) (by omega) (by rw [size_insInner];omega) (by rw [size_insInner];omega) (by omega) (by omega)]
   refine iter_next ?_
   unfold slices_insertionSortCmpFunc_int___impl_OrderOf_1_b0 slices_insertionSortCmpFunc_int___impl_OrderOf_1_l2
   simp only [ltS,h,decide_true,cond_true,o_ins_in l a b i i d big ho (by omega) hd (lt_big (by omega)),Option.bind_some,Sum.elim_inl,succ64 (n:=i) (by omega)]
  ·simp only [h,if_false]
   refine iter_done ?_
   unfold slices_insertionSortCmpFunc_int___impl_OrderOf_1_b0
   simp only [ltS,h,decide_false,cond_false]
theorem o_ins (l:List Ev) (d:Array Int) (a b:Nat) (ho:Oks l d) (hab:a≤b) (hb:b≤d.size) (hd:d.size≤255):∃ d',slices_insertionSortCmpFunc_int___impl_OrderOf_1 d.toList (a:Int) (b:Int) l=some (d'.toList,())∧PermIn a b d d'∧SortedIn (ltO l) a b d':=by
 refine ⟨insertionSort (ltO l) d a b,?_,insertionSort_holds (ltO_swo l) d a b hab hb⟩
 unfold slices_insertionSortCmpFunc_int___impl_OrderOf_1 slices_insertionSortCmpFunc_int___impl_OrderOf_1_l0 insertionSort
 simp only [succ64 (n:=a) (by omega),o_ins_out l a b (by omega) 256 (a+1) d big ho (by omega) hb hd (by omega) (lt_big (by omega)),Option.bind_some,Sum.elim_inl]
theorem swapR (a b n:Nat) (hab:a+n≤b):∀ (r i:Nat) (d:Array Int) (f:Nat),i+r=n→b+n≤d.size→d.size≤255→r < f →
  ∃ d',iter (slices_swapRangeCmpFunc_int___impl_OrderOf_1_b0 ((a:Int),(b:Int),(n:Int),())) f (d.toList,(i:Int),())=some (.inl (d'.toList,()))∧PermIn a (b+n) d d' ∧
   (∀ k,i≤k→k < n→d'[a+k]! = d[b+k]! ∧ d'[b+k]! = d[a+k]!)∧(∀ t,(∀ k,i≤k→k < n→t≠a+k∧t≠b+k)→d'[t]! = d[t]!):=by
 intro r
 induction r with
 | zero =>
  intro i d f hi hb hd hf
  obtain ⟨f,rfl⟩:∃ m,f=m+1:=⟨f - 1,by omega⟩
  refine ⟨d,iter_done ?_,permIn_refl _ _ _,fun k h1 h2=>by omega,fun t _=>rfl⟩
  unfold slices_swapRangeCmpFunc_int___impl_OrderOf_1_b0
  simp only [ltS,show ¬ (i < n) by omega,decide_false,cond_false]
 | succ r ih =>
  intro i d f hi hb hd hf
  obtain ⟨f,rfl⟩:∃ m,f=m+1:=⟨f - 1,by omega⟩
  obtain ⟨d',h1,h2,h3,h4⟩:=ih (i+1) (swp d (a+i) (b+i)) f (by omega) (by rw [size_swp];omega) (by rw [size_swp];omega) (by omega)
  refine ⟨d',?_,permIn_trans _ _ _ a (b+n) (swp_permIn d a (b+n) (a+i) (b+i) (by omega) (by omega) (by omega) (by omega) hb) h2,fun k k1 k2=>?_,fun t ht=>?_⟩
  ·rw [←h1]
   refine iter_next ?_
   unfold slices_swapRangeCmpFunc_int___impl_OrderOf_1_b0
   have e1:rArith .add .i64 (b:Int) (i:Int)=((b+i:Nat):Int):=aS (by omega)
   have e2:rArith .add .i64 (a:Int) (i:Int)=((a+i:Nat):Int):=aS (by omega)
   simp only [ltS,show i < n by omega,decide_true,cond_true,e1,e2,inA,gI,inP,show a+i < d.size by omega,show b+i < d.size by omega,swA,lets_def,succ64 (n:=i) (by omega)]
  ·by_cases e:k=i
   ·subst e
    have x1:=h4 (a+k) (fun j _ _=>by omega)
    have x2:=h4 (b+k) (fun j _ _=>by omega)
    rw [x1,x2,swp_left d _ _ (by omega) (by omega),swp_right d _ _ (by omega)]
    exact ⟨rfl,rfl⟩
   ·obtain ⟨x1,x2⟩:=h3 k (by omega) k2
    rw [x1,x2,swp_other d _ _ _ (by omega) (by omega),swp_other d _ _ _ (by omega) (by omega)]
    exact ⟨rfl,rfl⟩
  ·rw [h4 t (fun k k1 k2=>ht k (by omega) k2)]
   have:=ht i (Nat.le_refl _) (by omega)
   exact swp_other d _ _ _ this.1 this.2
theorem o_swapR (l:List Ev) (d:Array Int) (a b n:Nat) (hab:a+n≤b) (hb:b+n≤d.size) (hd:d.size≤255):∃ d',slices_swapRangeCmpFunc_int___impl_OrderOf_1 d.toList (a:Int) (b:Int) (n:Int) l=some (d'.toList,())∧PermIn a (b+n) d d' ∧
   (∀ k,k < n→d'[a+k]! = d[b+k]! ∧ d'[b+k]! = d[a+k]!)∧(∀ t,(∀ k,k < n→t≠a+k∧t≠b+k)→d'[t]! = d[t]!):=by
 obtain ⟨d',h1,h2,h3,h4⟩:=swapR a b n hab n 0 d big (by omega) hb hd (lt_big (by omega))
 refine ⟨d',?_,h2,fun k hk=>h3 k (Nat.zero_le _) hk,fun t ht=>h4 t fun k _ hk=>ht k hk⟩
 unfold slices_swapRangeCmpFunc_int___impl_OrderOf_1 slices_swapRangeCmpFunc_int___impl_OrderOf_1_l0
 rw [show (0:Int)=((0:Nat):Int) from rfl,h1]
 rfl
structure Rot (m i j:Nat) (cur T:Array Int):Prop where
 perm:PermIn (m - i) (m+j) cur T
 lo:∀ k,k < j→T[m - i+k]! = cur[m+k]!
 hi:∀ k,k < i→T[m - i+j+k]! = cur[m - i+k]!
theorem rot_loop (l:List Ev) (m:Nat):∀ (s i j:Nat) (d:Array Int) (f:Nat),i+j≤s→0 < i→0 < j→i≤m→m+j≤d.size→d.size≤255→s < f →
  ∃ (d1:Array Int) (i1:Nat) (T:Array Int),iter (slices_rotateCmpFunc_int___impl_OrderOf_1_b0 ((m:Int),l,())) f (d.toList,(i:Int),(j:Int),())=some (.inl (d1.toList,((i1:Nat):Int),()))∧d1.size=d.size∧slices_swapRangeCmpFunc_int___impl_OrderOf_1 d1.toList (rArith .sub .i64 (m:Int) ((i1:Nat):Int)) (m:Int) ((i1:Nat):Int) l=some (T.toList,())∧Rot m i j d T:=by
 intro s
 induction s with
 | zero=>intro i j d f hs h0;omega
 | succ s ih =>
  intro i j d f hs hi0 hj0 him hm hd hf
  obtain ⟨f,rfl⟩:∃ m,f=m+1:=⟨f - 1,by omega⟩
  have e1:rArith .sub .i64 (m:Int) (i:Int)=((m - i:Nat):Int):=sS him (by omega)
  have ne:rCmp .neq (i:Int) (j:Int) = !decide (i=j):=by rw [←eqS i j];rfl
  by_cases hij:i=j
  ·subst hij
   obtain ⟨T,h1,h2,h3,h4⟩:=o_swapR l d (m - i) m i (by omega) hm hd
   refine ⟨d,i,T,iter_done ?_,rfl,by rw [e1];exact h1,⟨h2,fun k hk=>(h3 k hk).1,fun k hk=>?_⟩⟩
   ·unfold slices_rotateCmpFunc_int___impl_OrderOf_1_b0
    simp only [ne,decide_true,Bool.not_true,cond_false]
   ·rw [show m - i+i+k=m+k by omega];exact (h3 k hk).2
  ·by_cases hgt:i > j
   ·obtain ⟨d2,h1,h2,h3,h4⟩:=o_swapR l d (m - i) m j (by omega) hm hd
    have hs2:=h2.1
    obtain ⟨d1,i1,T,k1,k2,k3,k4⟩:=ih (i - j) j d2 f (by omega) (by omega) hj0 (by omega) (by omega) (by omega) (by omega)
    refine ⟨d1,i1,T,?_,by omega,k3,⟨?_,fun k hk=>?_,fun k hk=>?_⟩⟩
    ·rw [←k1]
     refine iter_next ?_
     unfold slices_rotateCmpFunc_int___impl_OrderOf_1_b0
     have e2:rArith .sub .i64 (i:Int) (j:Int)=((i - j:Nat):Int):=sS (by omega) (by omega)
     simp only [ne,decide_eq_false hij,Bool.not_false,cond_true,gtS,hgt,decide_true,e1,h1,Option.bind_some,e2]
    ·exact permIn_trans _ _ _ _ _ h2 (permIn_mono d2 T (m - (i - j)) (m+j) (m - i) (m+j) (by omega) (Nat.le_refl _) (by omega) k4.perm)
    ·rw [k4.perm.2.1 (m - i+k) (.inl (by omega)),(h3 k hk).1]
    ·by_cases hk2:k < j
     ·have:=k4.lo k hk2
      rw [show m - (i - j)+k=m - i+j+k by omega] at this
      rw [this,(h3 k hk2).2]
     ·have:=k4.hi (k - j) (by omega)
      rw [show m - (i - j)+j+(k - j)=m - i+j+k by omega,show m - (i - j)+(k - j)=m - i+k by omega] at this
      rw [this]
      exact h4 _ fun q hq=>by omega
   ·obtain ⟨d2,h1,h2,h3,h4⟩:=o_swapR l d (m - i) (m+j - i) i (by omega) (by omega) hd
    have hs2:=h2.1
    rw [show m+j - i+i=m+j by omega] at h2
    obtain ⟨d1,i1,T,k1,k2,k3,k4⟩:=ih i (j - i) d2 f (by omega) hi0 (by omega) him (by omega) (by omega) (by omega)
    refine ⟨d1,i1,T,?_,by omega,k3,⟨?_,fun k hk=>?_,fun k hk=>?_⟩⟩
    ·rw [←k1]
     refine iter_next ?_
     unfold slices_rotateCmpFunc_int___impl_OrderOf_1_b0
     have e2:rArith .sub .i64 (j:Int) (i:Int)=((j - i:Nat):Int):=sS (by omega) (by omega)
     have e3:rArith .add .i64 (m:Int) (j:Int)=((m+j:Nat):Int):=aS (by omega)
     have e4:rArith .sub .i64 ((m+j:Nat):Int) (i:Int)=((m+j - i:Nat):Int):=sS (by omega) (by omega)
     simp only [ne,decide_eq_false hij,Bool.not_false,cond_true,gtS,hgt,decide_false,cond_false,e1,e3,e4,h1,Option.bind_some,e2]
    ·exact permIn_trans _ _ _ _ _ h2 (permIn_mono d2 T (m - i) (m+(j - i)) (m - i) (m+j) (Nat.le_refl _) (by omega) (by omega) k4.perm)
    ·by_cases hk2:k < j - i
     ·rw [k4.lo k hk2]
      exact h4 _ fun q hq=>by omega
     ·have:=k4.hi (k - (j - i)) (by omega)
      rw [show m - i+(j - i)+(k - (j - i))=m - i+k by omega] at this
      rw [this,(h3 (k - (j - i)) (by omega)).1]
      congr 1;omega
    ·rw [k4.perm.2.1 (m - i+j+k) (.inr (by omega))]
     have:=(h3 k hk).2
     rw [show m+j - i+k=m - i+j+k by omega] at this
     exact this
theorem o_rotate (l:List Ev) (d:Array Int) (s m e:Nat) (h1:s < m) (h2:m < e) (he:e≤d.size) (hd:d.size≤255):∃ T,slices_rotateCmpFunc_int___impl_OrderOf_1 d.toList (s:Int) (m:Int) (e:Int) l=some (T.toList,())∧Rot m (m - s) (e - m) d T:=by
 obtain ⟨d1,i1,T,k1,k2,k3,k4⟩:=rot_loop l m 256 (m - s) (e - m) d big (by omega) (by omega) (by omega) (by omega) (by omega) hd (lt_big (by omega))
 refine ⟨T,?_,k4⟩
 unfold slices_rotateCmpFunc_int___impl_OrderOf_1 slices_rotateCmpFunc_int___impl_OrderOf_1_l0
 have e1:rArith .sub .i64 (m:Int) (s:Int)=((m - s:Nat):Int):=sS (by omega) (by omega)
 have e2:rArith .sub .i64 (e:Int) (m:Int)=((e - m:Nat):Int):=sS (by omega) (by omega)
 rw [e1,e2,k1]
 simp only [Option.bind_some,Sum.elim_inl,k3]
theorem bsearch {X Y:Type} {body:X→Option (X ⊕ Y)} (st:Nat→Nat→X) (fin:Nat→Y) (P:Nat→Bool) (lo hi:Nat) (hs:∀ i j,lo≤i→i < j→j≤hi→body (st i j)=some (.inl (bif P ((i+j) / 2) then st ((i+j) / 2+1) j else st i ((i+j) / 2)))) (he:∀ i,body (st i i)=some (.inr (fin i))) :
  ∀ (k i j n:Nat),j - i≤k→k < n→lo≤i→i≤j→j≤hi→(i=lo∨P (i - 1)=true)→(j=hi∨P j=false)→∃ r,iter body n (st i j)=some (fin r)∧lo≤r∧r≤hi∧(r=lo∨P (r - 1)=true)∧(r=hi∨P r=false):=by
 intro k
 induction k with
 | zero =>
  intro i j n hk hn h1 h2 h3 h4 h5
  obtain ⟨n,rfl⟩:∃ m,n=m+1:=⟨n - 1,by omega⟩
  obtain rfl:i=j:=by omega
  exact ⟨i,iter_done (he i),h1,h3,h4,h5⟩
 | succ k ih =>
  intro i j n hk hn h1 h2 h3 h4 h5
  obtain ⟨n,rfl⟩:∃ m,n=m+1:=⟨n - 1,by omega⟩
  by_cases h:i=j
  ·subst h;exact ⟨i,iter_done (he i),h1,h3,h4,h5⟩
  ·have hb:=hs i j h1 (by omega) h3
   cases hp:P ((i+j) / 2) with
   | true =>
    rw [hp] at hb
    rw [iter_next hb]
    exact ih ((i+j) / 2+1) j n (by omega) (by omega) (by omega) (by omega) h3 (.inr (by simpa using hp)) h5
   | false =>
    rw [hp] at hb
    rw [iter_next hb]
    exact ih i ((i+j) / 2) n (by omega) (by omega) h1 (by omega) (by omega) h4 (.inr hp)
theorem le_sorted {lt:Int→Int→Bool} (h:SWO lt) {d:Array Int} {a b u v:Nat} (hs:SortedIn lt a b d) (h1:a≤u) (h2:u≤v) (h3:v < b):lt d[v]! d[u]! = false:=by
 by_cases e:u=v
 ·subst e;exact h.irrefl _
 ·exact hs u v h1 (by omega) h3
end Go.Fn
