import Derived.Test.YthdhgmppijjhpaaGreatSeenFateQB
/- Plain functions that stand for Go functions, and what they answer. Conditions: none. -/
set_option autoImplicit false
set_option linter.unusedVariables false
set_option linter.unusedSimpArgs false
set_option linter.unusedVariables false
namespace Go.Fn
open Go.R
noncomputable def spec_SeenFate (a0:Int) (a1:Int) (a2:Int) (a3:Int) (a4:Int) (a5:Int) (a6:Int) (a7:Int) (a8:Int) (a9:Int) (a10:Int) (a11:(List ((List (Int×Int))×(List (Int×Int))×(List (Int×(List (Int))×List (Int×Int×Int×Bool)))×Int×Int×Bool×Bool×Bool×Int×Int×List (Int×Int×Int×Int×Int×Int×Int)))) (a12:(List (Int×Int×Int×Int×Int×Int×Int×Int×Int×Int×Int×Int×Int))) (a13:(List (Int×Int×Int×Int×Int×Int×Bool))) (a14:(List (Int×Int×Int×Int×Int×Int×Int))) (a15:Int):Option (Int×Int×Int×Int×Int×Int×Int×Unit):=
 ((spec_NetworkOk a0 a1 a2 a3 a4 a5 a6 a7 a8 a9 a10 a11 a12 a13 a14).bind fun y0=>(bif (Bool.not y0.1) then some ((0:Int),(0:Int),(0:Int),(0:Int),(0:Int),(0:Int),(0:Int),()) else ((spec_FateOf a14 a15).bind fun y1=>some (y1.1,y1.2.1,y1.2.2.1,y1.2.2.2.1,y1.2.2.2.2.1,y1.2.2.2.2.2.1,y1.2.2.2.2.2.2.1,()))))
noncomputable def impl_SeenFate (a0:Int) (a1:Int) (a2:Int) (a3:Int) (a4:Int) (a5:Int) (a6:Int) (a7:Int) (a8:Int) (a9:Int) (a10:Int) (a11:(List ((List (Int×Int))×(List (Int×Int))×(List (Int×(List (Int))×List (Int×Int×Int×Bool)))×Int×Int×Bool×Bool×Bool×Int×Int×List (Int×Int×Int×Int×Int×Int×Int)))) (a12:(List (Int×Int×Int×Int×Int×Int×Int×Int×Int×Int×Int×Int×Int))) (a13:(List (Int×Int×Int×Int×Int×Int×Bool))) (a14:(List (Int×Int×Int×Int×Int×Int×Int))) (a15:Int):Option (Int×Int×Int×Int×Int×Int×Int×Unit):=
 ((impl_NetworkOk a0 a1 a2 a3 a4 a5 a6 a7 a8 a9 a10 a11 a12 a13 a14).bind fun y0=>(bif (Bool.not y0.1) then some ((0:Int),(0:Int),(0:Int),(0:Int),(0:Int),(0:Int),(0:Int),()) else ((impl_FateOf a14 a15).bind fun y1=>some (y1.1,y1.2.1,y1.2.2.1,y1.2.2.2.1,y1.2.2.2.2.1,y1.2.2.2.2.2.1,y1.2.2.2.2.2.2.1,()))))
noncomputable def laws_FnExactSeenFate (a0:Int) (a1:Int) (a2:Int) (a3:Int) (a4:Int) (a5:Int) (a6:Int) (a7:Int) (a8:Int) (a9:Int) (a10:Int) (a11:(List ((List (Int×Int))×(List (Int×Int))×(List (Int×(List (Int))×List (Int×Int×Int×Bool)))×Int×Int×Bool×Bool×Bool×Int×Int×List (Int×Int×Int×Int×Int×Int×Int)))) (a12:(List (Int×Int×Int×Int×Int×Int×Int×Int×Int×Int×Int×Int×Int))) (a13:(List (Int×Int×Int×Int×Int×Int×Bool))) (a14:(List (Int×Int×Int×Int×Int×Int×Int))) (a15:Int):Option (Bool×Unit):=
 ((laws_szNetwork a0 a1 a2 a3 a4 a5 a6 a7 a8 a9 a10 a11 a12 a13 a14 (1048576:Int)).bind fun y0=>(bif (rCmp .lss y0.1 (0:Int)) then some (true,()) else ((laws_toNetwork a0 a1 a2 a3 a4 a5 a6 a7 a8 a9 a10 a11 a12 a13 a14).bind fun y1=>((spec_SeenFate y1.1 y1.2.1 y1.2.2.1 y1.2.2.2.1 y1.2.2.2.2.1 y1.2.2.2.2.2.1 y1.2.2.2.2.2.2.1 y1.2.2.2.2.2.2.2.1 y1.2.2.2.2.2.2.2.2.1 y1.2.2.2.2.2.2.2.2.2.1 y1.2.2.2.2.2.2.2.2.2.2.1 y1.2.2.2.2.2.2.2.2.2.2.2.1 y1.2.2.2.2.2.2.2.2.2.2.2.2.1 y1.2.2.2.2.2.2.2.2.2.2.2.2.2.1 y1.2.2.2.2.2.2.2.2.2.2.2.2.2.2.1 a15).bind fun y2=>((laws_toNetwork a0 a1 a2 a3 a4 a5 a6 a7 a8 a9 a10 a11 a12 a13 a14).bind fun y3=>((impl_SeenFate y3.1 y3.2.1 y3.2.2.1 y3.2.2.2.1 y3.2.2.2.2.1 y3.2.2.2.2.2.1 y3.2.2.2.2.2.2.1 y3.2.2.2.2.2.2.2.1 y3.2.2.2.2.2.2.2.2.1 y3.2.2.2.2.2.2.2.2.2.1 y3.2.2.2.2.2.2.2.2.2.2.1 y3.2.2.2.2.2.2.2.2.2.2.2.1 y3.2.2.2.2.2.2.2.2.2.2.2.2.1 y3.2.2.2.2.2.2.2.2.2.2.2.2.2.1 y3.2.2.2.2.2.2.2.2.2.2.2.2.2.2.1 a15).bind fun y4=>((laws_eqFate y4.1 y4.2.1 y4.2.2.1 y4.2.2.2.1 y4.2.2.2.2.1 y4.2.2.2.2.2.1 y4.2.2.2.2.2.2.1 y2.1 y2.2.1 y2.2.2.1 y2.2.2.2.1 y2.2.2.2.2.1 y2.2.2.2.2.2.1 y2.2.2.2.2.2.2.1).bind fun y5=>(bif (Bool.not y5.1) then some (false,()) else ((laws_toNetwork a0 a1 a2 a3 a4 a5 a6 a7 a8 a9 a10 a11 a12 a13 a14).bind fun y6=>((laws_eqNetwork y3.1 y3.2.1 y3.2.2.1 y3.2.2.2.1 y3.2.2.2.2.1 y3.2.2.2.2.2.1 y3.2.2.2.2.2.2.1 y3.2.2.2.2.2.2.2.1 y3.2.2.2.2.2.2.2.2.1 y3.2.2.2.2.2.2.2.2.2.1 y3.2.2.2.2.2.2.2.2.2.2.1 y3.2.2.2.2.2.2.2.2.2.2.2.1 y3.2.2.2.2.2.2.2.2.2.2.2.2.1 y3.2.2.2.2.2.2.2.2.2.2.2.2.2.1 y3.2.2.2.2.2.2.2.2.2.2.2.2.2.2.1 y6.1 y6.2.1 y6.2.2.1 y6.2.2.2.1 y6.2.2.2.2.1 y6.2.2.2.2.2.1 y6.2.2.2.2.2.2.1 y6.2.2.2.2.2.2.2.1 y6.2.2.2.2.2.2.2.2.1 y6.2.2.2.2.2.2.2.2.2.1 y6.2.2.2.2.2.2.2.2.2.2.1 y6.2.2.2.2.2.2.2.2.2.2.2.1 y6.2.2.2.2.2.2.2.2.2.2.2.2.1 y6.2.2.2.2.2.2.2.2.2.2.2.2.2.1 y6.2.2.2.2.2.2.2.2.2.2.2.2.2.2.1).bind fun y7=>(bif (Bool.not y7.1) then some (false,()) else some (true,()))))))))))))
end Go.Fn
set_option linter.unusedVariables false
set_option linter.unusedSimpArgs false
namespace Go.Fn
open Go.R
section
variable (a0 a1 a2 a3 a4 a5 a6 a7 a8 a9 a10:Int) (s:List Site) (p:List Prc) (g:List Grt) (j:List Ev)
theorem seen_sm (n:Int) (hle:netLe s p g j):Sm Any (spec_SeenFate a0 a1 a2 a3 a4 a5 a6 a7 a8 a9 a10 s p g j n) (impl_SeenFate a0 a1 a2 a3 a4 a5 a6 a7 a8 a9 a10 s p g j n):=by
 unfold spec_SeenFate impl_SeenFate
 refine (network_sm a0 a1 a2 a3 a4 a5 a6 a7 a8 a9 a10 s p g j hle).bind fun r _=>.cond (fun _=>.ret trivial) fun _=>?_
 obtain ⟨q,q1,q2⟩:=fate_both j n
 rw [q1,q2]
 exact .ret trivial
theorem seenFate_true (n:Int) (h:netWf s p g j):laws_FnExactSeenFate a0 a1 a2 a3 a4 a5 a6 a7 a8 a9 a10 s p g j n=some (true,()):=by
 unfold laws_FnExactSeenFate
 obtain ⟨b,h1,h2⟩:=szNetwork_eq a0 a1 a2 a3 a4 a5 a6 a7 a8 a9 a10 s p g j 1048576 h (by decide) (by decide)
 rw [h1]
 simp only [Option.bind_some]
 rcases h2 with rfl | ⟨b0,b1,hle⟩
 ·rfl
 ·rw [neg_of b0]
  have t:=toNetwork_eq a0 a1 a2 a3 a4 a5 a6 a7 a8 a9 a10 s p g j hle
  have e:=eqNetwork_self a0 a1 a2 a3 a4 a5 a6 a7 a8 a9 a10 s p g j hle
  obtain ⟨y,y1,y2,_⟩:=seen_sm a0 a1 a2 a3 a4 a5 a6 a7 a8 a9 a10 s p g j n hle
  simp only [cond_false,t,e,y1,y2,Option.bind_some]
  unfold laws_eqFate
  simp only [neq_self,cond_false,Option.bind_some,Bool.not_true,e]
end
end Go.Fn
