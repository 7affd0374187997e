import Derived.Test.YthdhgmppijjhpaaGreatAllJournalsQA
/- Plain functions that stand for Go functions, and what they answer. Conditions: none. -/
set_option autoImplicit false
set_option linter.unusedVariables false
set_option linter.unusedSimpArgs false
set_option linter.unusedVariables false
namespace Go.Fn
open Go.R
noncomputable def IP{α:Type}[Inhabited α](lt:α->α->Bool)(k:Int×Int×Int×Unit)(x:(List α)×Int×Unit):Option (((List α)×Int×Unit)⊕((List α)×Unit⊕Empty)):=(bif (af .gtr x.2.1 k.1)then(bif (ah x.1 x.2.1)then(bif (ah x.1 (aa .sub .i64 x.2.1 (1:Int)))then((some (lt (ae default x.1 x.2.1) (ae default x.1 (aa .sub .i64 x.2.1 (1:Int))),())).bind fun y0=>(bif y0.1 then(bif (ah x.1 (aa .sub .i64 x.2.1 (1:Int)))then(bif (ah x.1 x.2.1)then(bif (ah x.1 x.2.1)then(bif (ah (aC x.1 x.2.1 (ae default x.1 (aa .sub .i64 x.2.1 (1:Int)))) (aa .sub .i64 x.2.1 (1:Int)))then some (.inl ((aC (aC x.1 x.2.1 (ae default x.1 (aa .sub .i64 x.2.1 (1:Int)))) (aa .sub .i64 x.2.1 (1:Int)) (ae default x.1 x.2.1)),(aa .sub .i64 x.2.1 (1:Int)),()))else none)else none)else none)else none)else some (.inr (.inl (x.1,())))))else none)else none)else some (.inr (.inl (x.1,()))))
noncomputable def Kc{α:Type}[Inhabited α](lt:α->α->Bool)(k:Int×Int×Int×Unit)(x:(List α)×Int×Unit):Option ((List α)×Unit⊕Empty):=iter (IP lt k) big x
noncomputable def Jb{α:Type}[Inhabited α](lt:α->α->Bool)(k:Int×Int×Unit)(x:(List α)×Int×Unit):Option (((List α)×Int×Unit)⊕((List α)×Unit⊕Empty)):=(bif (af .lss x.2.1 k.2.1)then((Kc lt (k.1,k.2.1,x.2.1,()) (x.1,x.2.1,())).bind fun q0=>(Sum.elim (fun y1=>some (.inl (y1.1,(aa .add .i64 x.2.1 (1:Int)),()))) (fun q2=>(Empty.elim q2)) q0))else some (.inr (.inl (x.1,()))))
noncomputable def Kb{α:Type}[Inhabited α](lt:α->α->Bool)(k:Int×Int×Unit)(x:(List α)×Int×Unit):Option ((List α)×Unit⊕Empty):=iter (Jb lt k) big x
noncomputable def Kn{α:Type}[Inhabited α](lt:α->α->Bool)(a0:(List α))(a1:Int)(a2:Int):Option ((List α)×Unit):=((Kb lt (a1,a2,()) (a0,(aa .add .i64 a1 (1:Int)),())).bind fun q0=>(Sum.elim (fun y1=>some (y1.1,())) (fun q2=>(Empty.elim q2)) q0))
noncomputable def IU{α:Type}[Inhabited α](lt:α->α->Bool)(k:Int×Int×Unit)(x:(List α)×Int×Unit):Option (((List α)×Int×Unit)⊕((List α)×Unit⊕((List α)×Unit⊕Empty))):=(bif (af .geq (aa .add .i64 (aa .mul .i64 (2:Int) x.2.1) (1:Int)) k.1)then some (.inr (.inl (x.1,())))else(bif (af .lss (aa .add .i64 (aa .add .i64 (aa .mul .i64 (2:Int) x.2.1) (1:Int)) (1:Int)) k.1)then(bif (ah x.1 (aa .add .i64 k.2.1 (aa .add .i64 (aa .mul .i64 (2:Int) x.2.1) (1:Int))))then(bif (ah x.1 (aa .add .i64 (aa .add .i64 k.2.1 (aa .add .i64 (aa .mul .i64 (2:Int) x.2.1) (1:Int))) (1:Int)))then((some (lt (ae default x.1 (aa .add .i64 k.2.1 (aa .add .i64 (aa .mul .i64 (2:Int) x.2.1) (1:Int)))) (ae default x.1 (aa .add .i64 (aa .add .i64 k.2.1 (aa .add .i64 (aa .mul .i64 (2:Int) x.2.1) (1:Int))) (1:Int))),())).bind fun y0=>(bif y0.1 then(bif (ah x.1 (aa .add .i64 k.2.1 x.2.1))then(bif (ah x.1 (aa .add .i64 k.2.1 (aa .add .i64 (aa .add .i64 (aa .mul .i64 (2:Int) x.2.1) (1:Int)) (1:Int))))then((some (lt (ae default x.1 (aa .add .i64 k.2.1 x.2.1)) (ae default x.1 (aa .add .i64 k.2.1 (aa .add .i64 (aa .add .i64 (aa .mul .i64 (2:Int) x.2.1) (1:Int)) (1:Int)))),())).bind fun y1=>(bif (Bool.not y1.1)then some (.inr (.inr (.inl (x.1,()))))else(bif (ah x.1 (aa .add .i64 k.2.1 (aa .add .i64 (aa .add .i64 (aa .mul .i64 (2:Int) x.2.1) (1:Int)) (1:Int))))then(bif (ah x.1 (aa .add .i64 k.2.1 x.2.1))then(bif (ah x.1 (aa .add .i64 k.2.1 x.2.1))then(lets (aC x.1 (aa .add .i64 k.2.1 x.2.1) (ae default x.1 (aa .add .i64 k.2.1 (aa .add .i64 (aa .add .i64 (aa .mul .i64 (2:Int) x.2.1) (1:Int)) (1:Int))))) fun v2=>(bif (ah v2 (aa .add .i64 k.2.1 (aa .add .i64 (aa .add .i64 (aa .mul .i64 (2:Int) x.2.1) (1:Int)) (1:Int))))then(lets (aC v2 (aa .add .i64 k.2.1 (aa .add .i64 (aa .add .i64 (aa .mul .i64 (2:Int) x.2.1) (1:Int)) (1:Int))) (ae default x.1 (aa .add .i64 k.2.1 x.2.1))) fun v3=>some (.inl (v3,(aa .add .i64 (aa .add .i64 (aa .mul .i64 (2:Int) x.2.1) (1:Int)) (1:Int)),())))else none))else none)else none)else none)))else none)else none)else(bif (ah x.1 (aa .add .i64 k.2.1 x.2.1))then(bif (ah x.1 (aa .add .i64 k.2.1 (aa .add .i64 (aa .mul .i64 (2:Int) x.2.1) (1:Int))))then((some (lt (ae default x.1 (aa .add .i64 k.2.1 x.2.1)) (ae default x.1 (aa .add .i64 k.2.1 (aa .add .i64 (aa .mul .i64 (2:Int) x.2.1) (1:Int)))),())).bind fun y1=>(bif (Bool.not y1.1)then some (.inr (.inr (.inl (x.1,()))))else(bif (ah x.1 (aa .add .i64 k.2.1 (aa .add .i64 (aa .mul .i64 (2:Int) x.2.1) (1:Int))))then(bif (ah x.1 (aa .add .i64 k.2.1 x.2.1))then(bif (ah x.1 (aa .add .i64 k.2.1 x.2.1))then(bif (ah (aC x.1 (aa .add .i64 k.2.1 x.2.1) (ae default x.1 (aa .add .i64 k.2.1 (aa .add .i64 (aa .mul .i64 (2:Int) x.2.1) (1:Int))))) (aa .add .i64 k.2.1 (aa .add .i64 (aa .mul .i64 (2:Int) x.2.1) (1:Int))))then(lets (aC (aC x.1 (aa .add .i64 k.2.1 x.2.1) (ae default x.1 (aa .add .i64 k.2.1 (aa .add .i64 (aa .mul .i64 (2:Int) x.2.1) (1:Int))))) (aa .add .i64 k.2.1 (aa .add .i64 (aa .mul .i64 (2:Int) x.2.1) (1:Int))) (ae default x.1 (aa .add .i64 k.2.1 x.2.1))) fun v2=>some (.inl (v2,(aa .add .i64 (aa .mul .i64 (2:Int) x.2.1) (1:Int)),())))else none)else none)else none)else none)))else none)else none)))else none)else none)else(bif (ah x.1 (aa .add .i64 k.2.1 x.2.1))then(bif (ah x.1 (aa .add .i64 k.2.1 (aa .add .i64 (aa .mul .i64 (2:Int) x.2.1) (1:Int))))then((some (lt (ae default x.1 (aa .add .i64 k.2.1 x.2.1)) (ae default x.1 (aa .add .i64 k.2.1 (aa .add .i64 (aa .mul .i64 (2:Int) x.2.1) (1:Int)))),())).bind fun y0=>(bif (Bool.not y0.1)then some (.inr (.inr (.inl (x.1,()))))else(bif (ah x.1 (aa .add .i64 k.2.1 (aa .add .i64 (aa .mul .i64 (2:Int) x.2.1) (1:Int))))then(bif (ah x.1 (aa .add .i64 k.2.1 x.2.1))then(bif (ah x.1 (aa .add .i64 k.2.1 x.2.1))then(bif (ah (aC x.1 (aa .add .i64 k.2.1 x.2.1) (ae default x.1 (aa .add .i64 k.2.1 (aa .add .i64 (aa .mul .i64 (2:Int) x.2.1) (1:Int))))) (aa .add .i64 k.2.1 (aa .add .i64 (aa .mul .i64 (2:Int) x.2.1) (1:Int))))then(lets (aC (aC x.1 (aa .add .i64 k.2.1 x.2.1) (ae default x.1 (aa .add .i64 k.2.1 (aa .add .i64 (aa .mul .i64 (2:Int) x.2.1) (1:Int))))) (aa .add .i64 k.2.1 (aa .add .i64 (aa .mul .i64 (2:Int) x.2.1) (1:Int))) (ae default x.1 (aa .add .i64 k.2.1 x.2.1))) fun v1=>some (.inl (v1,(aa .add .i64 (aa .mul .i64 (2:Int) x.2.1) (1:Int)),())))else none)else none)else none)else none)))else none)else none)))
noncomputable def MQ{α:Type}[Inhabited α](lt:α->α->Bool)(k:Int×Int×Unit)(x:(List α)×Int×Unit):Option ((List α)×Unit⊕((List α)×Unit⊕Empty)):=iter (IU lt k) big x
noncomputable def Mt{α:Type}[Inhabited α](lt:α->α->Bool)(a0:(List α))(a1:Int)(a2:Int)(a3:Int):Option ((List α)×Unit):=((MQ lt (a2,a3,()) (a0,a1,())).bind fun q0=>(Sum.elim (fun y1=>some (y1.1,())) (fun q2=>(Sum.elim (fun y3=>some (y3.1,())) (fun q4=>(Empty.elim q4)) q2)) q0))
noncomputable def Kr{α:Type}[Inhabited α](lt:α->α->Bool)(k:Int×Int×Int×Unit)(x:(List α)×Int×Unit):Option (((List α)×Int×Unit)⊕((List α)×Unit⊕Empty)):=(bif (af .geq x.2.1 (0:Int))then((Mt lt x.1 x.2.1 k.2.2.1 k.1).bind fun y0=>some (.inl (y0.1,(aa .sub .i64 x.2.1 (1:Int)),())))else some (.inr (.inl (x.1,()))))
noncomputable def MO{α:Type}[Inhabited α](lt:α->α->Bool)(k:Int×Int×Int×Unit)(x:(List α)×Int×Unit):Option ((List α)×Unit⊕Empty):=iter (Kr lt k) big x
noncomputable def Ks{α:Type}[Inhabited α](lt:α->α->Bool)(k:Int×Int×Unit)(x:(List α)×Int×Unit):Option (((List α)×Int×Unit)⊕((List α)×Unit⊕Empty)):=(bif (af .geq x.2.1 (0:Int))then(bif (ah x.1 (aa .add .i64 k.1 x.2.1))then(bif (ah x.1 k.1)then(bif (ah x.1 k.1)then(bif (ah (aC x.1 k.1 (ae default x.1 (aa .add .i64 k.1 x.2.1))) (aa .add .i64 k.1 x.2.1))then((Mt lt (aC (aC x.1 k.1 (ae default x.1 (aa .add .i64 k.1 x.2.1))) (aa .add .i64 k.1 x.2.1) (ae default x.1 k.1)) k.2.1 x.2.1 k.1).bind fun y0=>some (.inl (y0.1,(aa .sub .i64 x.2.1 (1:Int)),())))else none)else none)else none)else none)else some (.inr (.inl (x.1,()))))
noncomputable def MP{α:Type}[Inhabited α](lt:α->α->Bool)(k:Int×Int×Unit)(x:(List α)×Int×Unit):Option ((List α)×Unit⊕Empty):=iter (Ks lt k) big x
noncomputable def Oc{α:Type}[Inhabited α](lt:α->α->Bool)(a0:(List α))(a1:Int)(a2:Int):Option ((List α)×Unit):=(bif (ax (2:Int))then none else((MO lt (a1,(0:Int),(aa .sub .i64 a2 a1),()) (a0,(aa .quo .i64 (aa .sub .i64 (aa .sub .i64 a2 a1) (1:Int)) (2:Int)),())).bind fun q0=>(Sum.elim (fun y1=>((MP lt (a1,(0:Int),()) (y1.1,(aa .sub .i64 (aa .sub .i64 a2 a1) (1:Int)),())).bind fun q2=>(Sum.elim (fun y3=>some (y3.1,())) (fun q4=>(Empty.elim q4)) q2))) (fun q2=>(Empty.elim q2)) q0)))
noncomputable def IM{α:Type}[Inhabited α](lt:α->α->Bool)(k:Int×Int×Int×Unit)(x:(List α)×Int×Int×Unit):Option (((List α)×Int×Int×Unit)⊕((List α)×Unit⊕Empty)):=(bif (ax (4:Int))then none else(bif (af .leq x.2.2.1 (aa .add .i64 (aa .add .i64 k.1 (aa .mul .i64 (aa .quo .i64 k.2.1 (4:Int)) (2:Int))) (1:Int)))then((__slices_xorshift__Next x.2.1).bind fun y0=>(bif (af .geq (ak .i64 (aa .and .u64 y0.1 (aa .sub .u64 k.2.2.1 (1:Int)))) k.2.1)then(bif (ah x.1 (aa .add .i64 k.1 (aa .sub .i64 (ak .i64 (aa .and .u64 y0.1 (aa .sub .u64 k.2.2.1 (1:Int)))) k.2.1)))then(bif (ah x.1 x.2.2.1)then(bif (ah x.1 x.2.2.1)then(bif (ah (aC x.1 x.2.2.1 (ae default x.1 (aa .add .i64 k.1 (aa .sub .i64 (ak .i64 (aa .and .u64 y0.1 (aa .sub .u64 k.2.2.1 (1:Int)))) k.2.1)))) (aa .add .i64 k.1 (aa .sub .i64 (ak .i64 (aa .and .u64 y0.1 (aa .sub .u64 k.2.2.1 (1:Int)))) k.2.1)))then(lets (aC (aC x.1 x.2.2.1 (ae default x.1 (aa .add .i64 k.1 (aa .sub .i64 (ak .i64 (aa .and .u64 y0.1 (aa .sub .u64 k.2.2.1 (1:Int)))) k.2.1)))) (aa .add .i64 k.1 (aa .sub .i64 (ak .i64 (aa .and .u64 y0.1 (aa .sub .u64 k.2.2.1 (1:Int)))) k.2.1)) (ae default x.1 x.2.2.1)) fun v1=>some (.inl (v1,y0.2.1,(aa .add .i64 x.2.2.1 (1:Int)),())))else none)else none)else none)else none)else(bif (ah x.1 (aa .add .i64 k.1 (ak .i64 (aa .and .u64 y0.1 (aa .sub .u64 k.2.2.1 (1:Int))))))then(bif (ah x.1 x.2.2.1)then(bif (ah x.1 x.2.2.1)then(bif (ah (aC x.1 x.2.2.1 (ae default x.1 (aa .add .i64 k.1 (ak .i64 (aa .and .u64 y0.1 (aa .sub .u64 k.2.2.1 (1:Int))))))) (aa .add .i64 k.1 (ak .i64 (aa .and .u64 y0.1 (aa .sub .u64 k.2.2.1 (1:Int))))))then(lets (aC (aC x.1 x.2.2.1 (ae default x.1 (aa .add .i64 k.1 (ak .i64 (aa .and .u64 y0.1 (aa .sub .u64 k.2.2.1 (1:Int))))))) (aa .add .i64 k.1 (ak .i64 (aa .and .u64 y0.1 (aa .sub .u64 k.2.2.1 (1:Int))))) (ae default x.1 x.2.2.1)) fun v1=>some (.inl (v1,y0.2.1,(aa .add .i64 x.2.2.1 (1:Int)),())))else none)else none)else none)else none)))else some (.inr (.inl (x.1,())))))
noncomputable def Ka{α:Type}[Inhabited α](lt:α->α->Bool)(k:Int×Int×Int×Unit)(x:(List α)×Int×Int×Unit):Option ((List α)×Unit⊕Empty):=iter (IM lt k) big x
noncomputable def Km{α:Type}[Inhabited α](lt:α->α->Bool)(a0:(List α))(a1:Int)(a2:Int):Option ((List α)×Unit):=(bif (af .geq (aa .sub .i64 a2 a1) (8:Int))then((I4 (aa .sub .i64 a2 a1)).bind fun y0=>(bif (ax (4:Int))then none else((Ka lt (a1,(aa .sub .i64 a2 a1),y0.1,()) (a0,(ak .u64 (aa .sub .i64 a2 a1)),(aa .sub .i64 (aa .add .i64 a1 (aa .mul .i64 (aa .quo .i64 (aa .sub .i64 a2 a1) (4:Int)) (2:Int))) (1:Int)),())).bind fun q1=>(Sum.elim (fun y2=>some (y2.1,())) (fun q3=>(Empty.elim q3)) q1))))else some (a0,()))
noncomputable def M4{α:Type}[Inhabited α](lt:α->α->Bool)(a0:(List α))(a1:Int)(a2:Int)(a3:Int):Option (Int×Int×Int×Unit):=(bif (ah a0 a2)then(bif (ah a0 a1)then((some (lt (ae default a0 a2) (ae default a0 a1),())).bind fun y0=>(bif y0.1 then some (a2,a1,(aa .add .i64 a3 (1:Int)),())else some (a1,a2,a3,())))else none)else none)
noncomputable def Od{α:Type}[Inhabited α](lt:α->α->Bool)(a0:(List α))(a1:Int)(a2:Int)(a3:Int)(a4:Int):Option (Int×Int×Unit):=((M4 lt a0 a1 a2 a4).bind fun y0=>((M4 lt a0 y0.2.1 a3 y0.2.2.1).bind fun y1=>((M4 lt a0 y0.1 y1.1 y1.2.2.1).bind fun y2=>some (y2.2.1,y2.2.2.1,()))))
noncomputable def JC{α:Type}[Inhabited α](lt:α->α->Bool)(a0:(List α))(a1:Int)(a2:Int):Option (Int×Int×Unit):=((Od lt a0 (aa .sub .i64 a1 (1:Int)) a1 (aa .add .i64 a1 (1:Int)) a2).bind fun y0=>some (y0.1,y0.2.1,()))
noncomputable def Kq{α:Type}[Inhabited α](lt:α->α->Bool)(a0:(List α))(a1:Int)(a2:Int):Option (Int×Int×Unit):=(bif (ax (4:Int))then none else(bif (ax (4:Int))then none else(bif (ax (4:Int))then none else(bif (af .geq (aa .sub .i64 a2 a1) (8:Int))then(bif (af .geq (aa .sub .i64 a2 a1) (50:Int))then((JC lt a0 (aa .add .i64 a1 (aa .mul .i64 (aa .quo .i64 (aa .sub .i64 a2 a1) (4:Int)) (1:Int))) (0:Int)).bind fun y0=>((JC lt a0 (aa .add .i64 a1 (aa .mul .i64 (aa .quo .i64 (aa .sub .i64 a2 a1) (4:Int)) (2:Int))) y0.2.1).bind fun y1=>((JC lt a0 (aa .add .i64 a1 (aa .mul .i64 (aa .quo .i64 (aa .sub .i64 a2 a1) (4:Int)) (3:Int))) y1.2.1).bind fun y2=>((Od lt a0 y0.1 y1.1 y2.1 y2.2.1).bind fun y3=>(bif (af .eql y3.2.1 (0:Int))then some (y3.1,(1:Int),())else(bif (af .eql y3.2.1 (12:Int))then some (y3.1,(2:Int),())else some (y3.1,(0:Int),())))))))else((Od lt a0 (aa .add .i64 a1 (aa .mul .i64 (aa .quo .i64 (aa .sub .i64 a2 a1) (4:Int)) (1:Int))) (aa .add .i64 a1 (aa .mul .i64 (aa .quo .i64 (aa .sub .i64 a2 a1) (4:Int)) (2:Int))) (aa .add .i64 a1 (aa .mul .i64 (aa .quo .i64 (aa .sub .i64 a2 a1) (4:Int)) (3:Int))) (0:Int)).bind fun y0=>(bif (af .eql y0.2.1 (0:Int))then some (y0.1,(1:Int),())else(bif (af .eql y0.2.1 (12:Int))then some (y0.1,(2:Int),())else some (y0.1,(0:Int),())))))else(bif (af .eql (0:Int) (0:Int))then some ((aa .add .i64 a1 (aa .mul .i64 (aa .quo .i64 (aa .sub .i64 a2 a1) (4:Int)) (2:Int))),(1:Int),())else(bif (af .eql (0:Int) (12:Int))then some ((aa .add .i64 a1 (aa .mul .i64 (aa .quo .i64 (aa .sub .i64 a2 a1) (4:Int)) (2:Int))),(2:Int),())else some ((aa .add .i64 a1 (aa .mul .i64 (aa .quo .i64 (aa .sub .i64 a2 a1) (4:Int)) (2:Int))),(0:Int),())))))))
noncomputable def Jk{α:Type}[Inhabited α](lt:α->α->Bool)(k:Unit)(x:(List α)×Int×Int×Unit):Option (((List α)×Int×Int×Unit)⊕((List α)×Unit⊕Empty)):=(bif (af .lss x.2.1 x.2.2.1)then(bif (ah x.1 x.2.2.1)then(bif (ah x.1 x.2.1)then(bif (ah x.1 x.2.1)then(bif (ah (aC x.1 x.2.1 (ae default x.1 x.2.2.1)) x.2.2.1)then some (.inl ((aC (aC x.1 x.2.1 (ae default x.1 x.2.2.1)) x.2.2.1 (ae default x.1 x.2.1)),(aa .add .i64 x.2.1 (1:Int)),(aa .sub .i64 x.2.2.1 (1:Int)),()))else none)else none)else none)else none)else some (.inr (.inl (x.1,()))))
noncomputable def Kv{α:Type}[Inhabited α](lt:α->α->Bool)(k:Unit)(x:(List α)×Int×Int×Unit):Option ((List α)×Unit⊕Empty):=iter (Jk lt k) big x
noncomputable def J1{α:Type}[Inhabited α](lt:α->α->Bool)(a0:(List α))(a1:Int)(a2:Int):Option ((List α)×Unit):=((Kv lt (()) (a0,a1,(aa .sub .i64 a2 (1:Int)),())).bind fun q0=>(Sum.elim (fun y1=>some (y1.1,())) (fun q2=>(Empty.elim q2)) q0))
noncomputable def Ii{α:Type}[Inhabited α](lt:α->α->Bool)(k:Int×Int×Int×Unit)(x:(List α)×Int×Unit):Option (((List α)×Int×Unit)⊕((List α)×Int×Unit⊕Empty)):=(bif (af .lss x.2.1 k.2.1)then(bif (ah x.1 x.2.1)then(bif (ah x.1 (aa .sub .i64 x.2.1 (1:Int)))then((some (lt (ae default x.1 x.2.1) (ae default x.1 (aa .sub .i64 x.2.1 (1:Int))),())).bind fun y0=>(bif (Bool.not y0.1)then some (.inl (x.1,(aa .add .i64 x.2.1 (1:Int)),()))else some (.inr (.inl (x.1,x.2.1,())))))else none)else none)else some (.inr (.inl (x.1,x.2.1,()))))
noncomputable def Jy{α:Type}[Inhabited α](lt:α->α->Bool)(k:Int×Int×Int×Unit)(x:(List α)×Int×Unit):Option ((List α)×Int×Unit⊕Empty):=iter (Ii lt k) big x
noncomputable def IJ{α:Type}[Inhabited α](lt:α->α->Bool)(k:Int×Int×Int×Int×Unit)(x:(List α)×Int×Unit):Option (((List α)×Int×Unit)⊕((List α)×Unit⊕Empty)):=(bif (af .geq x.2.1 (1:Int))then(bif (ah x.1 x.2.1)then(bif (ah x.1 (aa .sub .i64 x.2.1 (1:Int)))then((some (lt (ae default x.1 x.2.1) (ae default x.1 (aa .sub .i64 x.2.1 (1:Int))),())).bind fun y0=>(bif (Bool.not y0.1)then some (.inr (.inl (x.1,())))else(bif (ah x.1 (aa .sub .i64 x.2.1 (1:Int)))then(bif (ah x.1 x.2.1)then(bif (ah x.1 x.2.1)then(bif (ah (aC x.1 x.2.1 (ae default x.1 (aa .sub .i64 x.2.1 (1:Int)))) (aa .sub .i64 x.2.1 (1:Int)))then some (.inl ((aC (aC x.1 x.2.1 (ae default x.1 (aa .sub .i64 x.2.1 (1:Int)))) (aa .sub .i64 x.2.1 (1:Int)) (ae default x.1 x.2.1)),(aa .sub .i64 x.2.1 (1:Int)),()))else none)else none)else none)else none)))else none)else none)else some (.inr (.inl (x.1,()))))
noncomputable def Jz{α:Type}[Inhabited α](lt:α->α->Bool)(k:Int×Int×Int×Int×Unit)(x:(List α)×Int×Unit):Option ((List α)×Unit⊕Empty):=iter (IJ lt k) big x
noncomputable def Ij{α:Type}[Inhabited α](lt:α->α->Bool)(k:Int×Int×Int×Int×Unit)(x:(List α)×Int×Unit):Option (((List α)×Int×Unit)⊕((List α)×Unit⊕Empty)):=(bif (af .lss x.2.1 k.2.1)then(bif (ah x.1 x.2.1)then(bif (ah x.1 (aa .sub .i64 x.2.1 (1:Int)))then((some (lt (ae default x.1 x.2.1) (ae default x.1 (aa .sub .i64 x.2.1 (1:Int))),())).bind fun y0=>(bif (Bool.not y0.1)then some (.inr (.inl (x.1,())))else(bif (ah x.1 (aa .sub .i64 x.2.1 (1:Int)))then(bif (ah x.1 x.2.1)then(bif (ah x.1 x.2.1)then(bif (ah (aC x.1 x.2.1 (ae default x.1 (aa .sub .i64 x.2.1 (1:Int)))) (aa .sub .i64 x.2.1 (1:Int)))then some (.inl ((aC (aC x.1 x.2.1 (ae default x.1 (aa .sub .i64 x.2.1 (1:Int)))) (aa .sub .i64 x.2.1 (1:Int)) (ae default x.1 x.2.1)),(aa .add .i64 x.2.1 (1:Int)),()))else none)else none)else none)else none)))else none)else none)else some (.inr (.inl (x.1,()))))
noncomputable def I1{α:Type}[Inhabited α](lt:α->α->Bool)(k:Int×Int×Int×Int×Unit)(x:(List α)×Int×Unit):Option ((List α)×Unit⊕Empty):=iter (Ij lt k) big x
noncomputable def vp{α:Type}[Inhabited α](lt:α->α->Bool)(k:Int×Int×Unit)(x:(List α)×Int×Int×Unit):Option (((List α)×Int×Int×Unit)⊕((List α)×Bool×Unit⊕((List α)×Unit⊕Empty))):=(bif (af .lss x.2.2.1 (5:Int))then((Jy lt (k.1,k.2.1,x.2.2.1,()) (x.1,x.2.1,())).bind fun q0=>(Sum.elim (fun y1=>(bif (af .eql y1.2.1 k.2.1)then some (.inr (.inl (y1.1,true,())))else(bif (af .lss (aa .sub .i64 k.2.1 k.1) (50:Int))then some (.inr (.inl (y1.1,false,())))else(bif (ah y1.1 (aa .sub .i64 y1.2.1 (1:Int)))then(bif (ah y1.1 y1.2.1)then(bif (ah y1.1 y1.2.1)then(bif (ah (aC y1.1 y1.2.1 (ae default y1.1 (aa .sub .i64 y1.2.1 (1:Int)))) (aa .sub .i64 y1.2.1 (1:Int)))then(bif (af .geq (aa .sub .i64 y1.2.1 k.1) (2:Int))then((Jz lt (k.1,k.2.1,y1.2.1,x.2.2.1,()) ((aC (aC y1.1 y1.2.1 (ae default y1.1 (aa .sub .i64 y1.2.1 (1:Int)))) (aa .sub .i64 y1.2.1 (1:Int)) (ae default y1.1 y1.2.1)),(aa .sub .i64 y1.2.1 (1:Int)),())).bind fun q2=>(Sum.elim (fun y3=>(bif (af .geq (aa .sub .i64 k.2.1 y1.2.1) (2:Int))then((I1 lt (k.1,k.2.1,y1.2.1,x.2.2.1,()) (y3.1,(aa .add .i64 y1.2.1 (1:Int)),())).bind fun q4=>(Sum.elim (fun y5=>some (.inl (y5.1,y1.2.1,(aa .add .i64 x.2.2.1 (1:Int)),()))) (fun q6=>(Empty.elim q6)) q4))else some (.inl (y3.1,y1.2.1,(aa .add .i64 x.2.2.1 (1:Int)),())))) (fun q4=>(Empty.elim q4)) q2))else(bif (af .geq (aa .sub .i64 k.2.1 y1.2.1) (2:Int))then((I1 lt (k.1,k.2.1,y1.2.1,x.2.2.1,()) ((aC (aC y1.1 y1.2.1 (ae default y1.1 (aa .sub .i64 y1.2.1 (1:Int)))) (aa .sub .i64 y1.2.1 (1:Int)) (ae default y1.1 y1.2.1)),(aa .add .i64 y1.2.1 (1:Int)),())).bind fun q2=>(Sum.elim (fun y3=>some (.inl (y3.1,y1.2.1,(aa .add .i64 x.2.2.1 (1:Int)),()))) (fun q4=>(Empty.elim q4)) q2))else some (.inl ((aC (aC y1.1 y1.2.1 (ae default y1.1 (aa .sub .i64 y1.2.1 (1:Int)))) (aa .sub .i64 y1.2.1 (1:Int)) (ae default y1.1 y1.2.1)),y1.2.1,(aa .add .i64 x.2.2.1 (1:Int)),()))))else none)else none)else none)else none)))) (fun q2=>(Empty.elim q2)) q0))else some (.inr (.inr (.inl (x.1,())))))
noncomputable def Jx{α:Type}[Inhabited α](lt:α->α->Bool)(k:Int×Int×Unit)(x:(List α)×Int×Int×Unit):Option ((List α)×Bool×Unit⊕((List α)×Unit⊕Empty)):=iter (vp lt k) big x
noncomputable def Ik{α:Type}[Inhabited α](lt:α->α->Bool)(a0:(List α))(a1:Int)(a2:Int):Option (Bool×(List α)×Unit):=((Jx lt (a1,a2,()) (a0,(aa .add .i64 a1 (1:Int)),(0:Int),())).bind fun q0=>(Sum.elim (fun y1=>some (y1.2.1,y1.1,())) (fun q2=>(Sum.elim (fun y3=>some (false,y3.1,())) (fun q4=>(Empty.elim q4)) q2)) q0))
noncomputable def JH{α:Type}[Inhabited α](lt:α->α->Bool)(k:Int×Int×Unit)(x:(List α)×Int×Unit):Option (((List α)×Int×Unit)⊕((List α)×Int×Unit⊕Empty)):=(bif (af .leq x.2.1 k.2.1)then(bif (ah x.1 k.1)then(bif (ah x.1 x.2.1)then((some (lt (ae default x.1 k.1) (ae default x.1 x.2.1),())).bind fun y0=>(bif (Bool.not y0.1)then some (.inl (x.1,(aa .add .i64 x.2.1 (1:Int)),()))else some (.inr (.inl (x.1,x.2.1,())))))else none)else none)else some (.inr (.inl (x.1,x.2.1,()))))
noncomputable def JX{α:Type}[Inhabited α](lt:α->α->Bool)(k:Int×Int×Unit)(x:(List α)×Int×Unit):Option ((List α)×Int×Unit⊕Empty):=iter (JH lt k) big x
noncomputable def JI{α:Type}[Inhabited α](lt:α->α->Bool)(k:Int×Int×Unit)(x:(List α)×Int×Unit):Option (((List α)×Int×Unit)⊕((List α)×Int×Unit⊕Empty)):=(bif (af .leq k.2.1 x.2.1)then(bif (ah x.1 k.1)then(bif (ah x.1 x.2.1)then((some (lt (ae default x.1 k.1) (ae default x.1 x.2.1),())).bind fun y0=>(bif y0.1 then some (.inl (x.1,(aa .sub .i64 x.2.1 (1:Int)),()))else some (.inr (.inl (x.1,x.2.1,())))))else none)else none)else some (.inr (.inl (x.1,x.2.1,()))))
noncomputable def JY{α:Type}[Inhabited α](lt:α->α->Bool)(k:Int×Int×Unit)(x:(List α)×Int×Unit):Option ((List α)×Int×Unit⊕Empty):=iter (JI lt k) big x
noncomputable def I2{α:Type}[Inhabited α](lt:α->α->Bool)(k:Int×Unit)(x:(List α)×Int×Int×Unit):Option (((List α)×Int×Int×Unit)⊕((List α)×Int×Unit⊕Empty)):=((JX lt (k.1,x.2.2.1,()) (x.1,x.2.1,())).bind fun q0=>(Sum.elim (fun y1=>((JY lt (k.1,y1.2.1,()) (y1.1,x.2.2.1,())).bind fun q2=>(Sum.elim (fun y3=>(bif (af .gtr y1.2.1 y3.2.1)then some (.inr (.inl (y3.1,y1.2.1,())))else(bif (ah y3.1 y3.2.1)then(bif (ah y3.1 y1.2.1)then(bif (ah y3.1 y1.2.1)then(bif (ah (aC y3.1 y1.2.1 (ae default y3.1 y3.2.1)) y3.2.1)then some (.inl ((aC (aC y3.1 y1.2.1 (ae default y3.1 y3.2.1)) y3.2.1 (ae default y3.1 y1.2.1)),(aa .add .i64 y1.2.1 (1:Int)),(aa .sub .i64 y3.2.1 (1:Int)),()))else none)else none)else none)else none))) (fun q4=>(Empty.elim q4)) q2))) (fun q2=>(Empty.elim q2)) q0))
noncomputable def JW{α:Type}[Inhabited α](lt:α->α->Bool)(k:Int×Unit)(x:(List α)×Int×Int×Unit):Option ((List α)×Int×Unit⊕Empty):=iter (I2 lt k) big x
noncomputable def n6{α:Type}[Inhabited α](lt:α->α->Bool)(a0:(List α))(a1:Int)(a2:Int)(a3:Int):Option (Int×(List α)×Unit):=(bif (ah a0 a3)then(bif (ah a0 a1)then(bif (ah a0 a1)then(bif (ah (aC a0 a1 (ae default a0 a3)) a3)then((JW lt (a1,()) ((aC (aC a0 a1 (ae default a0 a3)) a3 (ae default a0 a1)),(aa .add .i64 a1 (1:Int)),(aa .sub .i64 a2 (1:Int)),())).bind fun q0=>(Sum.elim (fun y1=>some (y1.2.1,y1.1,())) (fun q2=>(Empty.elim q2)) q0))else none)else none)else none)else none)
noncomputable def KB{α:Type}[Inhabited α](lt:α->α->Bool)(k:Int×Int×Unit)(x:(List α)×Int×Unit):Option (((List α)×Int×Unit)⊕((List α)×Int×Unit⊕Empty)):=(bif (af .leq x.2.1 k.2.1)then(bif (ah x.1 x.2.1)then(bif (ah x.1 k.1)then((some (lt (ae default x.1 x.2.1) (ae default x.1 k.1),())).bind fun y0=>(bif y0.1 then some (.inl (x.1,(aa .add .i64 x.2.1 (1:Int)),()))else some (.inr (.inl (x.1,x.2.1,())))))else none)else none)else some (.inr (.inl (x.1,x.2.1,()))))
noncomputable def LD{α:Type}[Inhabited α](lt:α->α->Bool)(k:Int×Int×Unit)(x:(List α)×Int×Unit):Option ((List α)×Int×Unit⊕Empty):=iter (KB lt k) big x
noncomputable def KC{α:Type}[Inhabited α](lt:α->α->Bool)(k:Int×Int×Unit)(x:(List α)×Int×Unit):Option (((List α)×Int×Unit)⊕((List α)×Int×Unit⊕Empty)):=(bif (af .leq k.2.1 x.2.1)then(bif (ah x.1 x.2.1)then(bif (ah x.1 k.1)then((some (lt (ae default x.1 x.2.1) (ae default x.1 k.1),())).bind fun y0=>(bif (Bool.not y0.1)then some (.inl (x.1,(aa .sub .i64 x.2.1 (1:Int)),()))else some (.inr (.inl (x.1,x.2.1,())))))else none)else none)else some (.inr (.inl (x.1,x.2.1,()))))
noncomputable def LF{α:Type}[Inhabited α](lt:α->α->Bool)(k:Int×Int×Unit)(x:(List α)×Int×Unit):Option ((List α)×Int×Unit⊕Empty):=iter (KC lt k) big x
noncomputable def Of{α:Type}[Inhabited α](lt:α->α->Bool)(k:Int×Int×Unit)(x:(List α)×Int×Unit):Option (((List α)×Int×Unit)⊕((List α)×Int×Unit⊕Empty)):=(bif (af .leq x.2.1 k.2.1)then(bif (ah x.1 x.2.1)then(bif (ah x.1 k.1)then((some (lt (ae default x.1 x.2.1) (ae default x.1 k.1),())).bind fun y0=>(bif y0.1 then some (.inl (x.1,(aa .add .i64 x.2.1 (1:Int)),()))else some (.inr (.inl (x.1,x.2.1,())))))else none)else none)else some (.inr (.inl (x.1,x.2.1,()))))
noncomputable def LH{α:Type}[Inhabited α](lt:α->α->Bool)(k:Int×Int×Unit)(x:(List α)×Int×Unit):Option ((List α)×Int×Unit⊕Empty):=iter (Of lt k) big x
noncomputable def Og{α:Type}[Inhabited α](lt:α->α->Bool)(k:Int×Int×Unit)(x:(List α)×Int×Unit):Option (((List α)×Int×Unit)⊕((List α)×Int×Unit⊕Empty)):=(bif (af .leq k.2.1 x.2.1)then(bif (ah x.1 x.2.1)then(bif (ah x.1 k.1)then((some (lt (ae default x.1 x.2.1) (ae default x.1 k.1),())).bind fun y0=>(bif (Bool.not y0.1)then some (.inl (x.1,(aa .sub .i64 x.2.1 (1:Int)),()))else some (.inr (.inl (x.1,x.2.1,())))))else none)else none)else some (.inr (.inl (x.1,x.2.1,()))))
noncomputable def LI{α:Type}[Inhabited α](lt:α->α->Bool)(k:Int×Int×Unit)(x:(List α)×Int×Unit):Option ((List α)×Int×Unit⊕Empty):=iter (Og lt k) big x
noncomputable def Jj{α:Type}[Inhabited α](lt:α->α->Bool)(k:Int×Unit)(x:(List α)×Int×Int×Unit):Option (((List α)×Int×Int×Unit)⊕((List α)×Int×Unit⊕Empty)):=((LH lt (k.1,x.2.2.1,()) (x.1,x.2.1,())).bind fun q0=>(Sum.elim (fun y1=>((LI lt (k.1,y1.2.1,()) (y1.1,x.2.2.1,())).bind fun q2=>(Sum.elim (fun y3=>(bif (af .gtr y1.2.1 y3.2.1)then some (.inr (.inl (y3.1,y3.2.1,())))else(bif (ah y3.1 y3.2.1)then(bif (ah y3.1 y1.2.1)then(bif (ah y3.1 y1.2.1)then(bif (ah (aC y3.1 y1.2.1 (ae default y3.1 y3.2.1)) y3.2.1)then some (.inl ((aC (aC y3.1 y1.2.1 (ae default y3.1 y3.2.1)) y3.2.1 (ae default y3.1 y1.2.1)),(aa .add .i64 y1.2.1 (1:Int)),(aa .sub .i64 y3.2.1 (1:Int)),()))else none)else none)else none)else none))) (fun q4=>(Empty.elim q4)) q2))) (fun q2=>(Empty.elim q2)) q0))
noncomputable def LG{α:Type}[Inhabited α](lt:α->α->Bool)(k:Int×Unit)(x:(List α)×Int×Int×Unit):Option ((List α)×Int×Unit⊕Empty):=iter (Jj lt k) big x
noncomputable def me{α:Type}[Inhabited α](lt:α->α->Bool)(a0:(List α))(a1:Int)(a2:Int)(a3:Int):Option (Int×Bool×(List α)×Unit):=(bif (ah a0 a3)then(bif (ah a0 a1)then(bif (ah a0 a1)then(bif (ah (aC a0 a1 (ae default a0 a3)) a3)then((LD lt (a1,(aa .sub .i64 a2 (1:Int)),()) ((aC (aC a0 a1 (ae default a0 a3)) a3 (ae default a0 a1)),(aa .add .i64 a1 (1:Int)),())).bind fun q0=>(Sum.elim (fun y1=>((LF lt (a1,y1.2.1,()) (y1.1,(aa .sub .i64 a2 (1:Int)),())).bind fun q2=>(Sum.elim (fun y3=>(bif (af .gtr y1.2.1 y3.2.1)then(bif (ah y3.1 a1)then(bif (ah y3.1 y3.2.1)then(bif (ah y3.1 y3.2.1)then(bif (ah (aC y3.1 y3.2.1 (ae default y3.1 a1)) a1)then some (y3.2.1,true,(aC (aC y3.1 y3.2.1 (ae default y3.1 a1)) a1 (ae default y3.1 y3.2.1)),())else none)else none)else none)else none)else(bif (ah y3.1 y3.2.1)then(bif (ah y3.1 y1.2.1)then(bif (ah y3.1 y1.2.1)then(bif (ah (aC y3.1 y1.2.1 (ae default y3.1 y3.2.1)) y3.2.1)then((LG lt (a1,()) ((aC (aC y3.1 y1.2.1 (ae default y3.1 y3.2.1)) y3.2.1 (ae default y3.1 y1.2.1)),(aa .add .i64 y1.2.1 (1:Int)),(aa .sub .i64 y3.2.1 (1:Int)),())).bind fun q4=>(Sum.elim (fun y5=>(bif (ah y5.1 a1)then(bif (ah y5.1 y5.2.1)then(bif (ah y5.1 y5.2.1)then(bif (ah (aC y5.1 y5.2.1 (ae default y5.1 a1)) a1)then some (y5.2.1,false,(aC (aC y5.1 y5.2.1 (ae default y5.1 a1)) a1 (ae default y5.1 y5.2.1)),())else none)else none)else none)else none)) (fun q6=>(Empty.elim q6)) q4))else none)else none)else none)else none))) (fun q4=>(Empty.elim q4)) q2))) (fun q2=>(Empty.elim q2)) q0))else none)else none)else none)else none)
noncomputable def IL{α:Type}[Inhabited α](lt:α->α->Bool)(rec:(List α)->Int->Int->Int->Option ((List α)×Unit))(k:Unit)(x:(List α)×Int×Int×Int×Bool×Bool×Unit):Option (((List α)×Int×Int×Int×Bool×Bool×Unit)⊕((List α)×Unit⊕Empty)):=(bif (af .leq (aa .sub .i64 x.2.2.1 x.2.1) (12:Int))then((Kn lt x.1 x.2.1 x.2.2.1).bind fun y0=>some (.inr (.inl (y0.1,()))))else(bif (af .eql x.2.2.2.1 (0:Int))then((Oc lt x.1 x.2.1 x.2.2.1).bind fun y0=>some (.inr (.inl (y0.1,()))))else(bif (Bool.not x.2.2.2.2.1)then((Km lt x.1 x.2.1 x.2.2.1).bind fun y0=>((Kq lt y0.1 x.2.1 x.2.2.1).bind fun y1=>(bif (af .eql y1.2.1 (2:Int))then((J1 lt y0.1 x.2.1 x.2.2.1).bind fun y2=>(bif x.2.2.2.2.1 then(bif x.2.2.2.2.2.1 then(bif (af .eql (1:Int) (1:Int))then((Ik lt y2.1 x.2.1 x.2.2.1).bind fun y3=>(bif y3.1 then some (.inr (.inl (y3.2.1,())))else(bif (af .gtr x.2.1 (0:Int))then(bif (ah y3.2.1 (aa .sub .i64 x.2.1 (1:Int)))then(bif (ah y3.2.1 (aa .sub .i64 (aa .sub .i64 x.2.2.1 (1:Int)) (aa .sub .i64 y1.1 x.2.1)))then((some (lt (ae default y3.2.1 (aa .sub .i64 x.2.1 (1:Int))) (ae default y3.2.1 (aa .sub .i64 (aa .sub .i64 x.2.2.1 (1:Int)) (aa .sub .i64 y1.1 x.2.1))),())).bind fun y4=>(bif (Bool.not y4.1)then((n6 lt y3.2.1 x.2.1 x.2.2.1 (aa .sub .i64 (aa .sub .i64 x.2.2.1 (1:Int)) (aa .sub .i64 y1.1 x.2.1))).bind fun y5=>some (.inl (y5.2.1,y5.1,x.2.2.1,(aa .sub .i64 x.2.2.2.1 (1:Int)),x.2.2.2.2.1,x.2.2.2.2.2.1,())))else((me lt y3.2.1 x.2.1 x.2.2.1 (aa .sub .i64 (aa .sub .i64 x.2.2.1 (1:Int)) (aa .sub .i64 y1.1 x.2.1))).bind fun y5=>(bif (ax (8:Int))then none else(bif (af .lss (aa .sub .i64 y5.1 x.2.1) (aa .sub .i64 x.2.2.1 y5.1))then((rec y5.2.2.1 x.2.1 y5.1 (aa .sub .i64 x.2.2.2.1 (1:Int))).bind fun y6=>some (.inl (y6.1,(aa .add .i64 y5.1 (1:Int)),x.2.2.1,(aa .sub .i64 x.2.2.2.1 (1:Int)),(af .geq (aa .sub .i64 y5.1 x.2.1) (aa .quo .i64 (aa .sub .i64 x.2.2.1 x.2.1) (8:Int))),y5.2.1,())))else((rec y5.2.2.1 (aa .add .i64 y5.1 (1:Int)) x.2.2.1 (aa .sub .i64 x.2.2.2.1 (1:Int))).bind fun y6=>some (.inl (y6.1,x.2.1,y5.1,(aa .sub .i64 x.2.2.2.1 (1:Int)),(af .geq (aa .sub .i64 x.2.2.1 y5.1) (aa .quo .i64 (aa .sub .i64 x.2.2.1 x.2.1) (8:Int))),y5.2.1,()))))))))else none)else none)else((me lt y3.2.1 x.2.1 x.2.2.1 (aa .sub .i64 (aa .sub .i64 x.2.2.1 (1:Int)) (aa .sub .i64 y1.1 x.2.1))).bind fun y4=>(bif (ax (8:Int))then none else(bif (af .lss (aa .sub .i64 y4.1 x.2.1) (aa .sub .i64 x.2.2.1 y4.1))then((rec y4.2.2.1 x.2.1 y4.1 (aa .sub .i64 x.2.2.2.1 (1:Int))).bind fun y5=>some (.inl (y5.1,(aa .add .i64 y4.1 (1:Int)),x.2.2.1,(aa .sub .i64 x.2.2.2.1 (1:Int)),(af .geq (aa .sub .i64 y4.1 x.2.1) (aa .quo .i64 (aa .sub .i64 x.2.2.1 x.2.1) (8:Int))),y4.2.1,())))else((rec y4.2.2.1 (aa .add .i64 y4.1 (1:Int)) x.2.2.1 (aa .sub .i64 x.2.2.2.1 (1:Int))).bind fun y5=>some (.inl (y5.1,x.2.1,y4.1,(aa .sub .i64 x.2.2.2.1 (1:Int)),(af .geq (aa .sub .i64 x.2.2.1 y4.1) (aa .quo .i64 (aa .sub .i64 x.2.2.1 x.2.1) (8:Int))),y4.2.1,())))))))))else(bif (af .gtr x.2.1 (0:Int))then(bif (ah y2.1 (aa .sub .i64 x.2.1 (1:Int)))then(bif (ah y2.1 (aa .sub .i64 (aa .sub .i64 x.2.2.1 (1:Int)) (aa .sub .i64 y1.1 x.2.1)))then((some (lt (ae default y2.1 (aa .sub .i64 x.2.1 (1:Int))) (ae default y2.1 (aa .sub .i64 (aa .sub .i64 x.2.2.1 (1:Int)) (aa .sub .i64 y1.1 x.2.1))),())).bind fun y3=>(bif (Bool.not y3.1)then((n6 lt y2.1 x.2.1 x.2.2.1 (aa .sub .i64 (aa .sub .i64 x.2.2.1 (1:Int)) (aa .sub .i64 y1.1 x.2.1))).bind fun y4=>some (.inl (y4.2.1,y4.1,x.2.2.1,(aa .sub .i64 x.2.2.2.1 (1:Int)),x.2.2.2.2.1,x.2.2.2.2.2.1,())))else((me lt y2.1 x.2.1 x.2.2.1 (aa .sub .i64 (aa .sub .i64 x.2.2.1 (1:Int)) (aa .sub .i64 y1.1 x.2.1))).bind fun y4=>(bif (ax (8:Int))then none else(bif (af .lss (aa .sub .i64 y4.1 x.2.1) (aa .sub .i64 x.2.2.1 y4.1))then((rec y4.2.2.1 x.2.1 y4.1 (aa .sub .i64 x.2.2.2.1 (1:Int))).bind fun y5=>some (.inl (y5.1,(aa .add .i64 y4.1 (1:Int)),x.2.2.1,(aa .sub .i64 x.2.2.2.1 (1:Int)),(af .geq (aa .sub .i64 y4.1 x.2.1) (aa .quo .i64 (aa .sub .i64 x.2.2.1 x.2.1) (8:Int))),y4.2.1,())))else((rec y4.2.2.1 (aa .add .i64 y4.1 (1:Int)) x.2.2.1 (aa .sub .i64 x.2.2.2.1 (1:Int))).bind fun y5=>some (.inl (y5.1,x.2.1,y4.1,(aa .sub .i64 x.2.2.2.1 (1:Int)),(af .geq (aa .sub .i64 x.2.2.1 y4.1) (aa .quo .i64 (aa .sub .i64 x.2.2.1 x.2.1) (8:Int))),y4.2.1,()))))))))else none)else none)else((me lt y2.1 x.2.1 x.2.2.1 (aa .sub .i64 (aa .sub .i64 x.2.2.1 (1:Int)) (aa .sub .i64 y1.1 x.2.1))).bind fun y3=>(bif (ax (8:Int))then none else(bif (af .lss (aa .sub .i64 y3.1 x.2.1) (aa .sub .i64 x.2.2.1 y3.1))then((rec y3.2.2.1 x.2.1 y3.1 (aa .sub .i64 x.2.2.2.1 (1:Int))).bind fun y4=>some (.inl (y4.1,(aa .add .i64 y3.1 (1:Int)),x.2.2.1,(aa .sub .i64 x.2.2.2.1 (1:Int)),(af .geq (aa .sub .i64 y3.1 x.2.1) (aa .quo .i64 (aa .sub .i64 x.2.2.1 x.2.1) (8:Int))),y3.2.1,())))else((rec y3.2.2.1 (aa .add .i64 y3.1 (1:Int)) x.2.2.1 (aa .sub .i64 x.2.2.2.1 (1:Int))).bind fun y4=>some (.inl (y4.1,x.2.1,y3.1,(aa .sub .i64 x.2.2.2.1 (1:Int)),(af .geq (aa .sub .i64 x.2.2.1 y3.1) (aa .quo .i64 (aa .sub .i64 x.2.2.1 x.2.1) (8:Int))),y3.2.1,()))))))))else(bif (af .gtr x.2.1 (0:Int))then(bif (ah y2.1 (aa .sub .i64 x.2.1 (1:Int)))then(bif (ah y2.1 (aa .sub .i64 (aa .sub .i64 x.2.2.1 (1:Int)) (aa .sub .i64 y1.1 x.2.1)))then((some (lt (ae default y2.1 (aa .sub .i64 x.2.1 (1:Int))) (ae default y2.1 (aa .sub .i64 (aa .sub .i64 x.2.2.1 (1:Int)) (aa .sub .i64 y1.1 x.2.1))),())).bind fun y3=>(bif (Bool.not y3.1)then((n6 lt y2.1 x.2.1 x.2.2.1 (aa .sub .i64 (aa .sub .i64 x.2.2.1 (1:Int)) (aa .sub .i64 y1.1 x.2.1))).bind fun y4=>some (.inl (y4.2.1,y4.1,x.2.2.1,(aa .sub .i64 x.2.2.2.1 (1:Int)),x.2.2.2.2.1,x.2.2.2.2.2.1,())))else((me lt y2.1 x.2.1 x.2.2.1 (aa .sub .i64 (aa .sub .i64 x.2.2.1 (1:Int)) (aa .sub .i64 y1.1 x.2.1))).bind fun y4=>(bif (ax (8:Int))then none else(bif (af .lss (aa .sub .i64 y4.1 x.2.1) (aa .sub .i64 x.2.2.1 y4.1))then((rec y4.2.2.1 x.2.1 y4.1 (aa .sub .i64 x.2.2.2.1 (1:Int))).bind fun y5=>some (.inl (y5.1,(aa .add .i64 y4.1 (1:Int)),x.2.2.1,(aa .sub .i64 x.2.2.2.1 (1:Int)),(af .geq (aa .sub .i64 y4.1 x.2.1) (aa .quo .i64 (aa .sub .i64 x.2.2.1 x.2.1) (8:Int))),y4.2.1,())))else((rec y4.2.2.1 (aa .add .i64 y4.1 (1:Int)) x.2.2.1 (aa .sub .i64 x.2.2.2.1 (1:Int))).bind fun y5=>some (.inl (y5.1,x.2.1,y4.1,(aa .sub .i64 x.2.2.2.1 (1:Int)),(af .geq (aa .sub .i64 x.2.2.1 y4.1) (aa .quo .i64 (aa .sub .i64 x.2.2.1 x.2.1) (8:Int))),y4.2.1,()))))))))else none)else none)else((me lt y2.1 x.2.1 x.2.2.1 (aa .sub .i64 (aa .sub .i64 x.2.2.1 (1:Int)) (aa .sub .i64 y1.1 x.2.1))).bind fun y3=>(bif (ax (8:Int))then none else(bif (af .lss (aa .sub .i64 y3.1 x.2.1) (aa .sub .i64 x.2.2.1 y3.1))then((rec y3.2.2.1 x.2.1 y3.1 (aa .sub .i64 x.2.2.2.1 (1:Int))).bind fun y4=>some (.inl (y4.1,(aa .add .i64 y3.1 (1:Int)),x.2.2.1,(aa .sub .i64 x.2.2.2.1 (1:Int)),(af .geq (aa .sub .i64 y3.1 x.2.1) (aa .quo .i64 (aa .sub .i64 x.2.2.1 x.2.1) (8:Int))),y3.2.1,())))else((rec y3.2.2.1 (aa .add .i64 y3.1 (1:Int)) x.2.2.1 (aa .sub .i64 x.2.2.2.1 (1:Int))).bind fun y4=>some (.inl (y4.1,x.2.1,y3.1,(aa .sub .i64 x.2.2.2.1 (1:Int)),(af .geq (aa .sub .i64 x.2.2.1 y3.1) (aa .quo .i64 (aa .sub .i64 x.2.2.1 x.2.1) (8:Int))),y3.2.1,()))))))))else(bif (af .gtr x.2.1 (0:Int))then(bif (ah y2.1 (aa .sub .i64 x.2.1 (1:Int)))then(bif (ah y2.1 (aa .sub .i64 (aa .sub .i64 x.2.2.1 (1:Int)) (aa .sub .i64 y1.1 x.2.1)))then((some (lt (ae default y2.1 (aa .sub .i64 x.2.1 (1:Int))) (ae default y2.1 (aa .sub .i64 (aa .sub .i64 x.2.2.1 (1:Int)) (aa .sub .i64 y1.1 x.2.1))),())).bind fun y3=>(bif (Bool.not y3.1)then((n6 lt y2.1 x.2.1 x.2.2.1 (aa .sub .i64 (aa .sub .i64 x.2.2.1 (1:Int)) (aa .sub .i64 y1.1 x.2.1))).bind fun y4=>some (.inl (y4.2.1,y4.1,x.2.2.1,(aa .sub .i64 x.2.2.2.1 (1:Int)),x.2.2.2.2.1,x.2.2.2.2.2.1,())))else((me lt y2.1 x.2.1 x.2.2.1 (aa .sub .i64 (aa .sub .i64 x.2.2.1 (1:Int)) (aa .sub .i64 y1.1 x.2.1))).bind fun y4=>(bif (ax (8:Int))then none else(bif (af .lss (aa .sub .i64 y4.1 x.2.1) (aa .sub .i64 x.2.2.1 y4.1))then((rec y4.2.2.1 x.2.1 y4.1 (aa .sub .i64 x.2.2.2.1 (1:Int))).bind fun y5=>some (.inl (y5.1,(aa .add .i64 y4.1 (1:Int)),x.2.2.1,(aa .sub .i64 x.2.2.2.1 (1:Int)),(af .geq (aa .sub .i64 y4.1 x.2.1) (aa .quo .i64 (aa .sub .i64 x.2.2.1 x.2.1) (8:Int))),y4.2.1,())))else((rec y4.2.2.1 (aa .add .i64 y4.1 (1:Int)) x.2.2.1 (aa .sub .i64 x.2.2.2.1 (1:Int))).bind fun y5=>some (.inl (y5.1,x.2.1,y4.1,(aa .sub .i64 x.2.2.2.1 (1:Int)),(af .geq (aa .sub .i64 x.2.2.1 y4.1) (aa .quo .i64 (aa .sub .i64 x.2.2.1 x.2.1) (8:Int))),y4.2.1,()))))))))else none)else none)else((me lt y2.1 x.2.1 x.2.2.1 (aa .sub .i64 (aa .sub .i64 x.2.2.1 (1:Int)) (aa .sub .i64 y1.1 x.2.1))).bind fun y3=>(bif (ax (8:Int))then none else(bif (af .lss (aa .sub .i64 y3.1 x.2.1) (aa .sub .i64 x.2.2.1 y3.1))then((rec y3.2.2.1 x.2.1 y3.1 (aa .sub .i64 x.2.2.2.1 (1:Int))).bind fun y4=>some (.inl (y4.1,(aa .add .i64 y3.1 (1:Int)),x.2.2.1,(aa .sub .i64 x.2.2.2.1 (1:Int)),(af .geq (aa .sub .i64 y3.1 x.2.1) (aa .quo .i64 (aa .sub .i64 x.2.2.1 x.2.1) (8:Int))),y3.2.1,())))else((rec y3.2.2.1 (aa .add .i64 y3.1 (1:Int)) x.2.2.1 (aa .sub .i64 x.2.2.2.1 (1:Int))).bind fun y4=>some (.inl (y4.1,x.2.1,y3.1,(aa .sub .i64 x.2.2.2.1 (1:Int)),(af .geq (aa .sub .i64 x.2.2.1 y3.1) (aa .quo .i64 (aa .sub .i64 x.2.2.1 x.2.1) (8:Int))),y3.2.1,())))))))))else(bif x.2.2.2.2.1 then(bif x.2.2.2.2.2.1 then(bif (af .eql y1.2.1 (1:Int))then((Ik lt y0.1 x.2.1 x.2.2.1).bind fun y2=>(bif y2.1 then some (.inr (.inl (y2.2.1,())))else(bif (af .gtr x.2.1 (0:Int))then(bif (ah y2.2.1 (aa .sub .i64 x.2.1 (1:Int)))then(bif (ah y2.2.1 y1.1)then((some (lt (ae default y2.2.1 (aa .sub .i64 x.2.1 (1:Int))) (ae default y2.2.1 y1.1),())).bind fun y3=>(bif (Bool.not y3.1)then((n6 lt y2.2.1 x.2.1 x.2.2.1 y1.1).bind fun y4=>some (.inl (y4.2.1,y4.1,x.2.2.1,(aa .sub .i64 x.2.2.2.1 (1:Int)),x.2.2.2.2.1,x.2.2.2.2.2.1,())))else((me lt y2.2.1 x.2.1 x.2.2.1 y1.1).bind fun y4=>(bif (ax (8:Int))then none else(bif (af .lss (aa .sub .i64 y4.1 x.2.1) (aa .sub .i64 x.2.2.1 y4.1))then((rec y4.2.2.1 x.2.1 y4.1 (aa .sub .i64 x.2.2.2.1 (1:Int))).bind fun y5=>some (.inl (y5.1,(aa .add .i64 y4.1 (1:Int)),x.2.2.1,(aa .sub .i64 x.2.2.2.1 (1:Int)),(af .geq (aa .sub .i64 y4.1 x.2.1) (aa .quo .i64 (aa .sub .i64 x.2.2.1 x.2.1) (8:Int))),y4.2.1,())))else((rec y4.2.2.1 (aa .add .i64 y4.1 (1:Int)) x.2.2.1 (aa .sub .i64 x.2.2.2.1 (1:Int))).bind fun y5=>some (.inl (y5.1,x.2.1,y4.1,(aa .sub .i64 x.2.2.2.1 (1:Int)),(af .geq (aa .sub .i64 x.2.2.1 y4.1) (aa .quo .i64 (aa .sub .i64 x.2.2.1 x.2.1) (8:Int))),y4.2.1,()))))))))else none)else none)else((me lt y2.2.1 x.2.1 x.2.2.1 y1.1).bind fun y3=>(bif (ax (8:Int))then none else(bif (af .lss (aa .sub .i64 y3.1 x.2.1) (aa .sub .i64 x.2.2.1 y3.1))then((rec y3.2.2.1 x.2.1 y3.1 (aa .sub .i64 x.2.2.2.1 (1:Int))).bind fun y4=>some (.inl (y4.1,(aa .add .i64 y3.1 (1:Int)),x.2.2.1,(aa .sub .i64 x.2.2.2.1 (1:Int)),(af .geq (aa .sub .i64 y3.1 x.2.1) (aa .quo .i64 (aa .sub .i64 x.2.2.1 x.2.1) (8:Int))),y3.2.1,())))else((rec y3.2.2.1 (aa .add .i64 y3.1 (1:Int)) x.2.2.1 (aa .sub .i64 x.2.2.2.1 (1:Int))).bind fun y4=>some (.inl (y4.1,x.2.1,y3.1,(aa .sub .i64 x.2.2.2.1 (1:Int)),(af .geq (aa .sub .i64 x.2.2.1 y3.1) (aa .quo .i64 (aa .sub .i64 x.2.2.1 x.2.1) (8:Int))),y3.2.1,())))))))))else(bif (af .gtr x.2.1 (0:Int))then(bif (ah y0.1 (aa .sub .i64 x.2.1 (1:Int)))then(bif (ah y0.1 y1.1)then((some (lt (ae default y0.1 (aa .sub .i64 x.2.1 (1:Int))) (ae default y0.1 y1.1),())).bind fun y2=>(bif (Bool.not y2.1)then((n6 lt y0.1 x.2.1 x.2.2.1 y1.1).bind fun y3=>some (.inl (y3.2.1,y3.1,x.2.2.1,(aa .sub .i64 x.2.2.2.1 (1:Int)),x.2.2.2.2.1,x.2.2.2.2.2.1,())))else((me lt y0.1 x.2.1 x.2.2.1 y1.1).bind fun y3=>(bif (ax (8:Int))then none else(bif (af .lss (aa .sub .i64 y3.1 x.2.1) (aa .sub .i64 x.2.2.1 y3.1))then((rec y3.2.2.1 x.2.1 y3.1 (aa .sub .i64 x.2.2.2.1 (1:Int))).bind fun y4=>some (.inl (y4.1,(aa .add .i64 y3.1 (1:Int)),x.2.2.1,(aa .sub .i64 x.2.2.2.1 (1:Int)),(af .geq (aa .sub .i64 y3.1 x.2.1) (aa .quo .i64 (aa .sub .i64 x.2.2.1 x.2.1) (8:Int))),y3.2.1,())))else((rec y3.2.2.1 (aa .add .i64 y3.1 (1:Int)) x.2.2.1 (aa .sub .i64 x.2.2.2.1 (1:Int))).bind fun y4=>some (.inl (y4.1,x.2.1,y3.1,(aa .sub .i64 x.2.2.2.1 (1:Int)),(af .geq (aa .sub .i64 x.2.2.1 y3.1) (aa .quo .i64 (aa .sub .i64 x.2.2.1 x.2.1) (8:Int))),y3.2.1,()))))))))else none)else none)else((me lt y0.1 x.2.1 x.2.2.1 y1.1).bind fun y2=>(bif (ax (8:Int))then none else(bif (af .lss (aa .sub .i64 y2.1 x.2.1) (aa .sub .i64 x.2.2.1 y2.1))then((rec y2.2.2.1 x.2.1 y2.1 (aa .sub .i64 x.2.2.2.1 (1:Int))).bind fun y3=>some (.inl (y3.1,(aa .add .i64 y2.1 (1:Int)),x.2.2.1,(aa .sub .i64 x.2.2.2.1 (1:Int)),(af .geq (aa .sub .i64 y2.1 x.2.1) (aa .quo .i64 (aa .sub .i64 x.2.2.1 x.2.1) (8:Int))),y2.2.1,())))else((rec y2.2.2.1 (aa .add .i64 y2.1 (1:Int)) x.2.2.1 (aa .sub .i64 x.2.2.2.1 (1:Int))).bind fun y3=>some (.inl (y3.1,x.2.1,y2.1,(aa .sub .i64 x.2.2.2.1 (1:Int)),(af .geq (aa .sub .i64 x.2.2.1 y2.1) (aa .quo .i64 (aa .sub .i64 x.2.2.1 x.2.1) (8:Int))),y2.2.1,()))))))))else(bif (af .gtr x.2.1 (0:Int))then(bif (ah y0.1 (aa .sub .i64 x.2.1 (1:Int)))then(bif (ah y0.1 y1.1)then((some (lt (ae default y0.1 (aa .sub .i64 x.2.1 (1:Int))) (ae default y0.1 y1.1),())).bind fun y2=>(bif (Bool.not y2.1)then((n6 lt y0.1 x.2.1 x.2.2.1 y1.1).bind fun y3=>some (.inl (y3.2.1,y3.1,x.2.2.1,(aa .sub .i64 x.2.2.2.1 (1:Int)),x.2.2.2.2.1,x.2.2.2.2.2.1,())))else((me lt y0.1 x.2.1 x.2.2.1 y1.1).bind fun y3=>(bif (ax (8:Int))then none else(bif (af .lss (aa .sub .i64 y3.1 x.2.1) (aa .sub .i64 x.2.2.1 y3.1))then((rec y3.2.2.1 x.2.1 y3.1 (aa .sub .i64 x.2.2.2.1 (1:Int))).bind fun y4=>some (.inl (y4.1,(aa .add .i64 y3.1 (1:Int)),x.2.2.1,(aa .sub .i64 x.2.2.2.1 (1:Int)),(af .geq (aa .sub .i64 y3.1 x.2.1) (aa .quo .i64 (aa .sub .i64 x.2.2.1 x.2.1) (8:Int))),y3.2.1,())))else((rec y3.2.2.1 (aa .add .i64 y3.1 (1:Int)) x.2.2.1 (aa .sub .i64 x.2.2.2.1 (1:Int))).bind fun y4=>some (.inl (y4.1,x.2.1,y3.1,(aa .sub .i64 x.2.2.2.1 (1:Int)),(af .geq (aa .sub .i64 x.2.2.1 y3.1) (aa .quo .i64 (aa .sub .i64 x.2.2.1 x.2.1) (8:Int))),y3.2.1,()))))))))else none)else none)else((me lt y0.1 x.2.1 x.2.2.1 y1.1).bind fun y2=>(bif (ax (8:Int))then none else(bif (af .lss (aa .sub .i64 y2.1 x.2.1) (aa .sub .i64 x.2.2.1 y2.1))then((rec y2.2.2.1 x.2.1 y2.1 (aa .sub .i64 x.2.2.2.1 (1:Int))).bind fun y3=>some (.inl (y3.1,(aa .add .i64 y2.1 (1:Int)),x.2.2.1,(aa .sub .i64 x.2.2.2.1 (1:Int)),(af .geq (aa .sub .i64 y2.1 x.2.1) (aa .quo .i64 (aa .sub .i64 x.2.2.1 x.2.1) (8:Int))),y2.2.1,())))else((rec y2.2.2.1 (aa .add .i64 y2.1 (1:Int)) x.2.2.1 (aa .sub .i64 x.2.2.2.1 (1:Int))).bind fun y3=>some (.inl (y3.1,x.2.1,y2.1,(aa .sub .i64 x.2.2.2.1 (1:Int)),(af .geq (aa .sub .i64 x.2.2.1 y2.1) (aa .quo .i64 (aa .sub .i64 x.2.2.1 x.2.1) (8:Int))),y2.2.1,()))))))))else(bif (af .gtr x.2.1 (0:Int))then(bif (ah y0.1 (aa .sub .i64 x.2.1 (1:Int)))then(bif (ah y0.1 y1.1)then((some (lt (ae default y0.1 (aa .sub .i64 x.2.1 (1:Int))) (ae default y0.1 y1.1),())).bind fun y2=>(bif (Bool.not y2.1)then((n6 lt y0.1 x.2.1 x.2.2.1 y1.1).bind fun y3=>some (.inl (y3.2.1,y3.1,x.2.2.1,(aa .sub .i64 x.2.2.2.1 (1:Int)),x.2.2.2.2.1,x.2.2.2.2.2.1,())))else((me lt y0.1 x.2.1 x.2.2.1 y1.1).bind fun y3=>(bif (ax (8:Int))then none else(bif (af .lss (aa .sub .i64 y3.1 x.2.1) (aa .sub .i64 x.2.2.1 y3.1))then((rec y3.2.2.1 x.2.1 y3.1 (aa .sub .i64 x.2.2.2.1 (1:Int))).bind fun y4=>some (.inl (y4.1,(aa .add .i64 y3.1 (1:Int)),x.2.2.1,(aa .sub .i64 x.2.2.2.1 (1:Int)),(af .geq (aa .sub .i64 y3.1 x.2.1) (aa .quo .i64 (aa .sub .i64 x.2.2.1 x.2.1) (8:Int))),y3.2.1,())))else((rec y3.2.2.1 (aa .add .i64 y3.1 (1:Int)) x.2.2.1 (aa .sub .i64 x.2.2.2.1 (1:Int))).bind fun y4=>some (.inl (y4.1,x.2.1,y3.1,(aa .sub .i64 x.2.2.2.1 (1:Int)),(af .geq (aa .sub .i64 x.2.2.1 y3.1) (aa .quo .i64 (aa .sub .i64 x.2.2.1 x.2.1) (8:Int))),y3.2.1,()))))))))else none)else none)else((me lt y0.1 x.2.1 x.2.2.1 y1.1).bind fun y2=>(bif (ax (8:Int))then none else(bif (af .lss (aa .sub .i64 y2.1 x.2.1) (aa .sub .i64 x.2.2.1 y2.1))then((rec y2.2.2.1 x.2.1 y2.1 (aa .sub .i64 x.2.2.2.1 (1:Int))).bind fun y3=>some (.inl (y3.1,(aa .add .i64 y2.1 (1:Int)),x.2.2.1,(aa .sub .i64 x.2.2.2.1 (1:Int)),(af .geq (aa .sub .i64 y2.1 x.2.1) (aa .quo .i64 (aa .sub .i64 x.2.2.1 x.2.1) (8:Int))),y2.2.1,())))else((rec y2.2.2.1 (aa .add .i64 y2.1 (1:Int)) x.2.2.1 (aa .sub .i64 x.2.2.2.1 (1:Int))).bind fun y3=>some (.inl (y3.1,x.2.1,y2.1,(aa .sub .i64 x.2.2.2.1 (1:Int)),(af .geq (aa .sub .i64 x.2.2.1 y2.1) (aa .quo .i64 (aa .sub .i64 x.2.2.1 x.2.1) (8:Int))),y2.2.1,())))))))))))else((Kq lt x.1 x.2.1 x.2.2.1).bind fun y0=>(bif (af .eql y0.2.1 (2:Int))then((J1 lt x.1 x.2.1 x.2.2.1).bind fun y1=>(bif x.2.2.2.2.1 then(bif x.2.2.2.2.2.1 then(bif (af .eql (1:Int) (1:Int))then((Ik lt y1.1 x.2.1 x.2.2.1).bind fun y2=>(bif y2.1 then some (.inr (.inl (y2.2.1,())))else(bif (af .gtr x.2.1 (0:Int))then(bif (ah y2.2.1 (aa .sub .i64 x.2.1 (1:Int)))then(bif (ah y2.2.1 (aa .sub .i64 (aa .sub .i64 x.2.2.1 (1:Int)) (aa .sub .i64 y0.1 x.2.1)))then((some (lt (ae default y2.2.1 (aa .sub .i64 x.2.1 (1:Int))) (ae default y2.2.1 (aa .sub .i64 (aa .sub .i64 x.2.2.1 (1:Int)) (aa .sub .i64 y0.1 x.2.1))),())).bind fun y3=>(bif (Bool.not y3.1)then((n6 lt y2.2.1 x.2.1 x.2.2.1 (aa .sub .i64 (aa .sub .i64 x.2.2.1 (1:Int)) (aa .sub .i64 y0.1 x.2.1))).bind fun y4=>some (.inl (y4.2.1,y4.1,x.2.2.1,x.2.2.2.1,x.2.2.2.2.1,x.2.2.2.2.2.1,())))else((me lt y2.2.1 x.2.1 x.2.2.1 (aa .sub .i64 (aa .sub .i64 x.2.2.1 (1:Int)) (aa .sub .i64 y0.1 x.2.1))).bind fun y4=>(bif (ax (8:Int))then none else(bif (af .lss (aa .sub .i64 y4.1 x.2.1) (aa .sub .i64 x.2.2.1 y4.1))then((rec y4.2.2.1 x.2.1 y4.1 x.2.2.2.1).bind fun y5=>some (.inl (y5.1,(aa .add .i64 y4.1 (1:Int)),x.2.2.1,x.2.2.2.1,(af .geq (aa .sub .i64 y4.1 x.2.1) (aa .quo .i64 (aa .sub .i64 x.2.2.1 x.2.1) (8:Int))),y4.2.1,())))else((rec y4.2.2.1 (aa .add .i64 y4.1 (1:Int)) x.2.2.1 x.2.2.2.1).bind fun y5=>some (.inl (y5.1,x.2.1,y4.1,x.2.2.2.1,(af .geq (aa .sub .i64 x.2.2.1 y4.1) (aa .quo .i64 (aa .sub .i64 x.2.2.1 x.2.1) (8:Int))),y4.2.1,()))))))))else none)else none)else((me lt y2.2.1 x.2.1 x.2.2.1 (aa .sub .i64 (aa .sub .i64 x.2.2.1 (1:Int)) (aa .sub .i64 y0.1 x.2.1))).bind fun y3=>(bif (ax (8:Int))then none else(bif (af .lss (aa .sub .i64 y3.1 x.2.1) (aa .sub .i64 x.2.2.1 y3.1))then((rec y3.2.2.1 x.2.1 y3.1 x.2.2.2.1).bind fun y4=>some (.inl (y4.1,(aa .add .i64 y3.1 (1:Int)),x.2.2.1,x.2.2.2.1,(af .geq (aa .sub .i64 y3.1 x.2.1) (aa .quo .i64 (aa .sub .i64 x.2.2.1 x.2.1) (8:Int))),y3.2.1,())))else((rec y3.2.2.1 (aa .add .i64 y3.1 (1:Int)) x.2.2.1 x.2.2.2.1).bind fun y4=>some (.inl (y4.1,x.2.1,y3.1,x.2.2.2.1,(af .geq (aa .sub .i64 x.2.2.1 y3.1) (aa .quo .i64 (aa .sub .i64 x.2.2.1 x.2.1) (8:Int))),y3.2.1,())))))))))else(bif (af .gtr x.2.1 (0:Int))then(bif (ah y1.1 (aa .sub .i64 x.2.1 (1:Int)))then(bif (ah y1.1 (aa .sub .i64 (aa .sub .i64 x.2.2.1 (1:Int)) (aa .sub .i64 y0.1 x.2.1)))then((some (lt (ae default y1.1 (aa .sub .i64 x.2.1 (1:Int))) (ae default y1.1 (aa .sub .i64 (aa .sub .i64 x.2.2.1 (1:Int)) (aa .sub .i64 y0.1 x.2.1))),())).bind fun y2=>(bif (Bool.not y2.1)then((n6 lt y1.1 x.2.1 x.2.2.1 (aa .sub .i64 (aa .sub .i64 x.2.2.1 (1:Int)) (aa .sub .i64 y0.1 x.2.1))).bind fun y3=>some (.inl (y3.2.1,y3.1,x.2.2.1,x.2.2.2.1,x.2.2.2.2.1,x.2.2.2.2.2.1,())))else((me lt y1.1 x.2.1 x.2.2.1 (aa .sub .i64 (aa .sub .i64 x.2.2.1 (1:Int)) (aa .sub .i64 y0.1 x.2.1))).bind fun y3=>(bif (ax (8:Int))then none else(bif (af .lss (aa .sub .i64 y3.1 x.2.1) (aa .sub .i64 x.2.2.1 y3.1))then((rec y3.2.2.1 x.2.1 y3.1 x.2.2.2.1).bind fun y4=>some (.inl (y4.1,(aa .add .i64 y3.1 (1:Int)),x.2.2.1,x.2.2.2.1,(af .geq (aa .sub .i64 y3.1 x.2.1) (aa .quo .i64 (aa .sub .i64 x.2.2.1 x.2.1) (8:Int))),y3.2.1,())))else((rec y3.2.2.1 (aa .add .i64 y3.1 (1:Int)) x.2.2.1 x.2.2.2.1).bind fun y4=>some (.inl (y4.1,x.2.1,y3.1,x.2.2.2.1,(af .geq (aa .sub .i64 x.2.2.1 y3.1) (aa .quo .i64 (aa .sub .i64 x.2.2.1 x.2.1) (8:Int))),y3.2.1,()))))))))else none)else none)else((me lt y1.1 x.2.1 x.2.2.1 (aa .sub .i64 (aa .sub .i64 x.2.2.1 (1:Int)) (aa .sub .i64 y0.1 x.2.1))).bind fun y2=>(bif (ax (8:Int))then none else(bif (af .lss (aa .sub .i64 y2.1 x.2.1) (aa .sub .i64 x.2.2.1 y2.1))then((rec y2.2.2.1 x.2.1 y2.1 x.2.2.2.1).bind fun y3=>some (.inl (y3.1,(aa .add .i64 y2.1 (1:Int)),x.2.2.1,x.2.2.2.1,(af .geq (aa .sub .i64 y2.1 x.2.1) (aa .quo .i64 (aa .sub .i64 x.2.2.1 x.2.1) (8:Int))),y2.2.1,())))else((rec y2.2.2.1 (aa .add .i64 y2.1 (1:Int)) x.2.2.1 x.2.2.2.1).bind fun y3=>some (.inl (y3.1,x.2.1,y2.1,x.2.2.2.1,(af .geq (aa .sub .i64 x.2.2.1 y2.1) (aa .quo .i64 (aa .sub .i64 x.2.2.1 x.2.1) (8:Int))),y2.2.1,()))))))))else(bif (af .gtr x.2.1 (0:Int))then(bif (ah y1.1 (aa .sub .i64 x.2.1 (1:Int)))then(bif (ah y1.1 (aa .sub .i64 (aa .sub .i64 x.2.2.1 (1:Int)) (aa .sub .i64 y0.1 x.2.1)))then((some (lt (ae default y1.1 (aa .sub .i64 x.2.1 (1:Int))) (ae default y1.1 (aa .sub .i64 (aa .sub .i64 x.2.2.1 (1:Int)) (aa .sub .i64 y0.1 x.2.1))),())).bind fun y2=>(bif (Bool.not y2.1)then((n6 lt y1.1 x.2.1 x.2.2.1 (aa .sub .i64 (aa .sub .i64 x.2.2.1 (1:Int)) (aa .sub .i64 y0.1 x.2.1))).bind fun y3=>some (.inl (y3.2.1,y3.1,x.2.2.1,x.2.2.2.1,x.2.2.2.2.1,x.2.2.2.2.2.1,())))else((me lt y1.1 x.2.1 x.2.2.1 (aa .sub .i64 (aa .sub .i64 x.2.2.1 (1:Int)) (aa .sub .i64 y0.1 x.2.1))).bind fun y3=>(bif (ax (8:Int))then none else(bif (af .lss (aa .sub .i64 y3.1 x.2.1) (aa .sub .i64 x.2.2.1 y3.1))then((rec y3.2.2.1 x.2.1 y3.1 x.2.2.2.1).bind fun y4=>some (.inl (y4.1,(aa .add .i64 y3.1 (1:Int)),x.2.2.1,x.2.2.2.1,(af .geq (aa .sub .i64 y3.1 x.2.1) (aa .quo .i64 (aa .sub .i64 x.2.2.1 x.2.1) (8:Int))),y3.2.1,())))else((rec y3.2.2.1 (aa .add .i64 y3.1 (1:Int)) x.2.2.1 x.2.2.2.1).bind fun y4=>some (.inl (y4.1,x.2.1,y3.1,x.2.2.2.1,(af .geq (aa .sub .i64 x.2.2.1 y3.1) (aa .quo .i64 (aa .sub .i64 x.2.2.1 x.2.1) (8:Int))),y3.2.1,()))))))))else none)else none)else((me lt y1.1 x.2.1 x.2.2.1 (aa .sub .i64 (aa .sub .i64 x.2.2.1 (1:Int)) (aa .sub .i64 y0.1 x.2.1))).bind fun y2=>(bif (ax (8:Int))then none else(bif (af .lss (aa .sub .i64 y2.1 x.2.1) (aa .sub .i64 x.2.2.1 y2.1))then((rec y2.2.2.1 x.2.1 y2.1 x.2.2.2.1).bind fun y3=>some (.inl (y3.1,(aa .add .i64 y2.1 (1:Int)),x.2.2.1,x.2.2.2.1,(af .geq (aa .sub .i64 y2.1 x.2.1) (aa .quo .i64 (aa .sub .i64 x.2.2.1 x.2.1) (8:Int))),y2.2.1,())))else((rec y2.2.2.1 (aa .add .i64 y2.1 (1:Int)) x.2.2.1 x.2.2.2.1).bind fun y3=>some (.inl (y3.1,x.2.1,y2.1,x.2.2.2.1,(af .geq (aa .sub .i64 x.2.2.1 y2.1) (aa .quo .i64 (aa .sub .i64 x.2.2.1 x.2.1) (8:Int))),y2.2.1,()))))))))else(bif (af .gtr x.2.1 (0:Int))then(bif (ah y1.1 (aa .sub .i64 x.2.1 (1:Int)))then(bif (ah y1.1 (aa .sub .i64 (aa .sub .i64 x.2.2.1 (1:Int)) (aa .sub .i64 y0.1 x.2.1)))then((some (lt (ae default y1.1 (aa .sub .i64 x.2.1 (1:Int))) (ae default y1.1 (aa .sub .i64 (aa .sub .i64 x.2.2.1 (1:Int)) (aa .sub .i64 y0.1 x.2.1))),())).bind fun y2=>(bif (Bool.not y2.1)then((n6 lt y1.1 x.2.1 x.2.2.1 (aa .sub .i64 (aa .sub .i64 x.2.2.1 (1:Int)) (aa .sub .i64 y0.1 x.2.1))).bind fun y3=>some (.inl (y3.2.1,y3.1,x.2.2.1,x.2.2.2.1,x.2.2.2.2.1,x.2.2.2.2.2.1,())))else((me lt y1.1 x.2.1 x.2.2.1 (aa .sub .i64 (aa .sub .i64 x.2.2.1 (1:Int)) (aa .sub .i64 y0.1 x.2.1))).bind fun y3=>(bif (ax (8:Int))then none else(bif (af .lss (aa .sub .i64 y3.1 x.2.1) (aa .sub .i64 x.2.2.1 y3.1))then((rec y3.2.2.1 x.2.1 y3.1 x.2.2.2.1).bind fun y4=>some (.inl (y4.1,(aa .add .i64 y3.1 (1:Int)),x.2.2.1,x.2.2.2.1,(af .geq (aa .sub .i64 y3.1 x.2.1) (aa .quo .i64 (aa .sub .i64 x.2.2.1 x.2.1) (8:Int))),y3.2.1,())))else((rec y3.2.2.1 (aa .add .i64 y3.1 (1:Int)) x.2.2.1 x.2.2.2.1).bind fun y4=>some (.inl (y4.1,x.2.1,y3.1,x.2.2.2.1,(af .geq (aa .sub .i64 x.2.2.1 y3.1) (aa .quo .i64 (aa .sub .i64 x.2.2.1 x.2.1) (8:Int))),y3.2.1,()))))))))else none)else none)else((me lt y1.1 x.2.1 x.2.2.1 (aa .sub .i64 (aa .sub .i64 x.2.2.1 (1:Int)) (aa .sub .i64 y0.1 x.2.1))).bind fun y2=>(bif (ax (8:Int))then none else(bif (af .lss (aa .sub .i64 y2.1 x.2.1) (aa .sub .i64 x.2.2.1 y2.1))then((rec y2.2.2.1 x.2.1 y2.1 x.2.2.2.1).bind fun y3=>some (.inl (y3.1,(aa .add .i64 y2.1 (1:Int)),x.2.2.1,x.2.2.2.1,(af .geq (aa .sub .i64 y2.1 x.2.1) (aa .quo .i64 (aa .sub .i64 x.2.2.1 x.2.1) (8:Int))),y2.2.1,())))else((rec y2.2.2.1 (aa .add .i64 y2.1 (1:Int)) x.2.2.1 x.2.2.2.1).bind fun y3=>some (.inl (y3.1,x.2.1,y2.1,x.2.2.2.1,(af .geq (aa .sub .i64 x.2.2.1 y2.1) (aa .quo .i64 (aa .sub .i64 x.2.2.1 x.2.1) (8:Int))),y2.2.1,())))))))))else(bif x.2.2.2.2.1 then(bif x.2.2.2.2.2.1 then(bif (af .eql y0.2.1 (1:Int))then((Ik lt x.1 x.2.1 x.2.2.1).bind fun y1=>(bif y1.1 then some (.inr (.inl (y1.2.1,())))else(bif (af .gtr x.2.1 (0:Int))then(bif (ah y1.2.1 (aa .sub .i64 x.2.1 (1:Int)))then(bif (ah y1.2.1 y0.1)then((some (lt (ae default y1.2.1 (aa .sub .i64 x.2.1 (1:Int))) (ae default y1.2.1 y0.1),())).bind fun y2=>(bif (Bool.not y2.1)then((n6 lt y1.2.1 x.2.1 x.2.2.1 y0.1).bind fun y3=>some (.inl (y3.2.1,y3.1,x.2.2.1,x.2.2.2.1,x.2.2.2.2.1,x.2.2.2.2.2.1,())))else((me lt y1.2.1 x.2.1 x.2.2.1 y0.1).bind fun y3=>(bif (ax (8:Int))then none else(bif (af .lss (aa .sub .i64 y3.1 x.2.1) (aa .sub .i64 x.2.2.1 y3.1))then((rec y3.2.2.1 x.2.1 y3.1 x.2.2.2.1).bind fun y4=>some (.inl (y4.1,(aa .add .i64 y3.1 (1:Int)),x.2.2.1,x.2.2.2.1,(af .geq (aa .sub .i64 y3.1 x.2.1) (aa .quo .i64 (aa .sub .i64 x.2.2.1 x.2.1) (8:Int))),y3.2.1,())))else((rec y3.2.2.1 (aa .add .i64 y3.1 (1:Int)) x.2.2.1 x.2.2.2.1).bind fun y4=>some (.inl (y4.1,x.2.1,y3.1,x.2.2.2.1,(af .geq (aa .sub .i64 x.2.2.1 y3.1) (aa .quo .i64 (aa .sub .i64 x.2.2.1 x.2.1) (8:Int))),y3.2.1,()))))))))else none)else none)else((me lt y1.2.1 x.2.1 x.2.2.1 y0.1).bind fun y2=>(bif (ax (8:Int))then none else(bif (af .lss (aa .sub .i64 y2.1 x.2.1) (aa .sub .i64 x.2.2.1 y2.1))then((rec y2.2.2.1 x.2.1 y2.1 x.2.2.2.1).bind fun y3=>some (.inl (y3.1,(aa .add .i64 y2.1 (1:Int)),x.2.2.1,x.2.2.2.1,(af .geq (aa .sub .i64 y2.1 x.2.1) (aa .quo .i64 (aa .sub .i64 x.2.2.1 x.2.1) (8:Int))),y2.2.1,())))else((rec y2.2.2.1 (aa .add .i64 y2.1 (1:Int)) x.2.2.1 x.2.2.2.1).bind fun y3=>some (.inl (y3.1,x.2.1,y2.1,x.2.2.2.1,(af .geq (aa .sub .i64 x.2.2.1 y2.1) (aa .quo .i64 (aa .sub .i64 x.2.2.1 x.2.1) (8:Int))),y2.2.1,())))))))))else(bif (af .gtr x.2.1 (0:Int))then(bif (ah x.1 (aa .sub .i64 x.2.1 (1:Int)))then(bif (ah x.1 y0.1)then((some (lt (ae default x.1 (aa .sub .i64 x.2.1 (1:Int))) (ae default x.1 y0.1),())).bind fun y1=>(bif (Bool.not y1.1)then((n6 lt x.1 x.2.1 x.2.2.1 y0.1).bind fun y2=>some (.inl (y2.2.1,y2.1,x.2.2.1,x.2.2.2.1,x.2.2.2.2.1,x.2.2.2.2.2.1,())))else((me lt x.1 x.2.1 x.2.2.1 y0.1).bind fun y2=>(bif (ax (8:Int))then none else(bif (af .lss (aa .sub .i64 y2.1 x.2.1) (aa .sub .i64 x.2.2.1 y2.1))then((rec y2.2.2.1 x.2.1 y2.1 x.2.2.2.1).bind fun y3=>some (.inl (y3.1,(aa .add .i64 y2.1 (1:Int)),x.2.2.1,x.2.2.2.1,(af .geq (aa .sub .i64 y2.1 x.2.1) (aa .quo .i64 (aa .sub .i64 x.2.2.1 x.2.1) (8:Int))),y2.2.1,())))else((rec y2.2.2.1 (aa .add .i64 y2.1 (1:Int)) x.2.2.1 x.2.2.2.1).bind fun y3=>some (.inl (y3.1,x.2.1,y2.1,x.2.2.2.1,(af .geq (aa .sub .i64 x.2.2.1 y2.1) (aa .quo .i64 (aa .sub .i64 x.2.2.1 x.2.1) (8:Int))),y2.2.1,()))))))))else none)else none)else((me lt x.1 x.2.1 x.2.2.1 y0.1).bind fun y1=>(bif (ax (8:Int))then none else(bif (af .lss (aa .sub .i64 y1.1 x.2.1) (aa .sub .i64 x.2.2.1 y1.1))then((rec y1.2.2.1 x.2.1 y1.1 x.2.2.2.1).bind fun y2=>some (.inl (y2.1,(aa .add .i64 y1.1 (1:Int)),x.2.2.1,x.2.2.2.1,(af .geq (aa .sub .i64 y1.1 x.2.1) (aa .quo .i64 (aa .sub .i64 x.2.2.1 x.2.1) (8:Int))),y1.2.1,())))else((rec y1.2.2.1 (aa .add .i64 y1.1 (1:Int)) x.2.2.1 x.2.2.2.1).bind fun y2=>some (.inl (y2.1,x.2.1,y1.1,x.2.2.2.1,(af .geq (aa .sub .i64 x.2.2.1 y1.1) (aa .quo .i64 (aa .sub .i64 x.2.2.1 x.2.1) (8:Int))),y1.2.1,()))))))))else(bif (af .gtr x.2.1 (0:Int))then(bif (ah x.1 (aa .sub .i64 x.2.1 (1:Int)))then(bif (ah x.1 y0.1)then((some (lt (ae default x.1 (aa .sub .i64 x.2.1 (1:Int))) (ae default x.1 y0.1),())).bind fun y1=>(bif (Bool.not y1.1)then((n6 lt x.1 x.2.1 x.2.2.1 y0.1).bind fun y2=>some (.inl (y2.2.1,y2.1,x.2.2.1,x.2.2.2.1,x.2.2.2.2.1,x.2.2.2.2.2.1,())))else((me lt x.1 x.2.1 x.2.2.1 y0.1).bind fun y2=>(bif (ax (8:Int))then none else(bif (af .lss (aa .sub .i64 y2.1 x.2.1) (aa .sub .i64 x.2.2.1 y2.1))then((rec y2.2.2.1 x.2.1 y2.1 x.2.2.2.1).bind fun y3=>some (.inl (y3.1,(aa .add .i64 y2.1 (1:Int)),x.2.2.1,x.2.2.2.1,(af .geq (aa .sub .i64 y2.1 x.2.1) (aa .quo .i64 (aa .sub .i64 x.2.2.1 x.2.1) (8:Int))),y2.2.1,())))else((rec y2.2.2.1 (aa .add .i64 y2.1 (1:Int)) x.2.2.1 x.2.2.2.1).bind fun y3=>some (.inl (y3.1,x.2.1,y2.1,x.2.2.2.1,(af .geq (aa .sub .i64 x.2.2.1 y2.1) (aa .quo .i64 (aa .sub .i64 x.2.2.1 x.2.1) (8:Int))),y2.2.1,()))))))))else none)else none)else((me lt x.1 x.2.1 x.2.2.1 y0.1).bind fun y1=>(bif (ax (8:Int))then none else(bif (af .lss (aa .sub .i64 y1.1 x.2.1) (aa .sub .i64 x.2.2.1 y1.1))then((rec y1.2.2.1 x.2.1 y1.1 x.2.2.2.1).bind fun y2=>some (.inl (y2.1,(aa .add .i64 y1.1 (1:Int)),x.2.2.1,x.2.2.2.1,(af .geq (aa .sub .i64 y1.1 x.2.1) (aa .quo .i64 (aa .sub .i64 x.2.2.1 x.2.1) (8:Int))),y1.2.1,())))else((rec y1.2.2.1 (aa .add .i64 y1.1 (1:Int)) x.2.2.1 x.2.2.2.1).bind fun y2=>some (.inl (y2.1,x.2.1,y1.1,x.2.2.2.1,(af .geq (aa .sub .i64 x.2.2.1 y1.1) (aa .quo .i64 (aa .sub .i64 x.2.2.1 x.2.1) (8:Int))),y1.2.1,()))))))))else(bif (af .gtr x.2.1 (0:Int))then(bif (ah x.1 (aa .sub .i64 x.2.1 (1:Int)))then(bif (ah x.1 y0.1)then((some (lt (ae default x.1 (aa .sub .i64 x.2.1 (1:Int))) (ae default x.1 y0.1),())).bind fun y1=>(bif (Bool.not y1.1)then((n6 lt x.1 x.2.1 x.2.2.1 y0.1).bind fun y2=>some (.inl (y2.2.1,y2.1,x.2.2.1,x.2.2.2.1,x.2.2.2.2.1,x.2.2.2.2.2.1,())))else((me lt x.1 x.2.1 x.2.2.1 y0.1).bind fun y2=>(bif (ax (8:Int))then none else(bif (af .lss (aa .sub .i64 y2.1 x.2.1) (aa .sub .i64 x.2.2.1 y2.1))then((rec y2.2.2.1 x.2.1 y2.1 x.2.2.2.1).bind fun y3=>some (.inl (y3.1,(aa .add .i64 y2.1 (1:Int)),x.2.2.1,x.2.2.2.1,(af .geq (aa .sub .i64 y2.1 x.2.1) (aa .quo .i64 (aa .sub .i64 x.2.2.1 x.2.1) (8:Int))),y2.2.1,())))else((rec y2.2.2.1 (aa .add .i64 y2.1 (1:Int)) x.2.2.1 x.2.2.2.1).bind fun y3=>some (.inl (y3.1,x.2.1,y2.1,x.2.2.2.1,(af .geq (aa .sub .i64 x.2.2.1 y2.1) (aa .quo .i64 (aa .sub .i64 x.2.2.1 x.2.1) (8:Int))),y2.2.1,()))))))))else none)else none)else((me lt x.1 x.2.1 x.2.2.1 y0.1).bind fun y1=>(bif (ax (8:Int))then none else(bif (af .lss (aa .sub .i64 y1.1 x.2.1) (aa .sub .i64 x.2.2.1 y1.1))then((rec y1.2.2.1 x.2.1 y1.1 x.2.2.2.1).bind fun y2=>some (.inl (y2.1,(aa .add .i64 y1.1 (1:Int)),x.2.2.1,x.2.2.2.1,(af .geq (aa .sub .i64 y1.1 x.2.1) (aa .quo .i64 (aa .sub .i64 x.2.2.1 x.2.1) (8:Int))),y1.2.1,())))else((rec y1.2.2.1 (aa .add .i64 y1.1 (1:Int)) x.2.2.1 x.2.2.2.1).bind fun y2=>some (.inl (y2.1,x.2.1,y1.1,x.2.2.2.1,(af .geq (aa .sub .i64 x.2.2.1 y1.1) (aa .quo .i64 (aa .sub .i64 x.2.2.1 x.2.1) (8:Int))),y1.2.1,())))))))))))))
noncomputable def NG{α:Type}[Inhabited α](lt:α->α->Bool)(rec:(List α)->Int->Int->Int->Option ((List α)×Unit))(k:Unit)(x:(List α)×Int×Int×Int×Bool×Bool×Unit):Option ((List α)×Unit⊕Empty):=iter (IL lt rec k) big x
noncomputable def OX{α:Type}[Inhabited α](lt:α->α->Bool)(rec:(List α)->Int->Int->Int->Option ((List α)×Unit))(a0:(List α))(a1:Int)(a2:Int)(a3:Int):Option ((List α)×Unit):=((NG lt rec (()) (a0,a1,a2,a3,true,true,())).bind fun q0=>(Sum.elim (fun y1=>some (y1.1,())) (fun q2=>(Empty.elim q2)) q0))
noncomputable def Lw{α:Type}[Inhabited α](lt:α->α->Bool):Nat->(List α)->Int->Int->Int->Option ((List α)×Unit)|0=>fun _ _ _ _=>none|n+1=>OX lt (Lw lt n)
noncomputable def RQ{α:Type}[Inhabited α](lt:α->α->Bool)(a0:(List α))(a1:Int)(a2:Int)(a3:Int):Option ((List α)×Unit):=Lw lt big a0 a1 a2 a3
end Go.Fn
set_option linter.unusedSimpArgs false
set_option linter.unusedVariables false
namespace Go.Fn
open Go.R Go.Sort
theorem QM{α:Type}(d:Array α)(i:Nat):ah d.toList (i:Int)=decide (i<d.size):=by rw[az,Array.length_toList]
theorem S0{α:Type}(d:Array α)(i j:Nat)(x:α):ah (aC d.toList (i:Int) x) (j:Int)=decide (j<d.size):=by rw[aN,je,Array.length_toList]
section
variable {α:Type} [Inhabited α] {lt:α->α->Bool}
theorem gA(d:Array α)(i:Nat):ae default d.toList (i:Int)=d[i]!:=by rw[aq,List.getD_eq_getElem?_getD,getElem!_def,<-Array.getElem?_toList];cases d.toList[i]? <;> rfl
theorem To(d:Array α)(i j:Nat):aC (aC d.toList (i:Int) d[j]!) (j:Int) d[i]! = (swp d i j).toList:=by rw[aN,aN];unfold swp;rw[Array.toList_setIfInBounds,Array.toList_setIfInBounds]
theorem aS{n m:Nat}(h:n+m<1099511627776):aa .add .i64 (n:Int) (m:Int)=((n+m:Nat):Int):=by rw[bV] <;> omega
theorem sS{n m:Nat}(h:m<=n)(h2:n<1099511627776):aa .sub .i64 (n:Int) (m:Int)=((n-m:Nat):Int):=by rw[bO] <;> omega
theorem mS{n m:Nat}(h:n*m<1099511627776):aa .mul .i64 (n:Int) (m:Int)=((n*m:Nat):Int):=by
 rw[jw]
 ·rw[Int.natCast_mul]
 ·rw[<-Int.natCast_mul];omega
 ·rw[<-Int.natCast_mul];omega
theorem qS(n m:Nat)(h:n<1099511627776):aa .quo .i64 (n:Int) (m:Int)=((n / m:Nat):Int):=by have h2:n / m<=n:=Nat.div_le_self n m;have e:aa .quo .i64 (n:Int) (m:Int)=IntKind.i64.wrap ((n:Int).tdiv (m:Int)):=rfl;rw[e,show((n:Int).tdiv (m:Int))=((n / m:Nat):Int)from rfl];generalize n / m=c at h2⊢;exact A1 (by omega) (by omega)
theorem U9(n m:Nat):af .gtr (n:Int) (m:Int)=decide (n>m):=by simp[af]
theorem Su(n m:Nat):af .lss (n:Int) (m:Int)=decide (n<m):=by simp[af]
theorem Tz(n m:Nat):af .geq (n:Int) (m:Int)=decide (n>=m):=by simp[af]
theorem Vb(n m:Nat):af .leq (n:Int) (m:Int)=decide (n<=m):=by simp[af]
theorem WZ(n m:Nat):af .eql (n:Int) (m:Int)=decide (n=m):=by
 simp only[af];by_cases h:n=m
 ·subst h;simp
 ·rw[decide_eq_false h];simp;omega
theorem Ps(lt:α->α->Bool)(a:Nat):∀j (d:Array α),(insInner lt a j d).size=d.size
 |0,_=>rfl
 |j+1,d=>by
  unfold insInner;split
  ·rw[Ps lt a j,size_swp]
  ·rfl
theorem one:(1:Int)=((1:Nat):Int):=rfl
theorem Xo(a b i:Nat):∀(j:Nat) (d:Array α) (n:Nat),j<d.size->d.size<=255->j<n->iter (IP lt ((a:Int),(b:Int),(i:Int),())) n (d.toList,(j:Int),())=some (.inl ((insInner lt a j d).toList,())):=by
 intro j;induction j with
 |zero=>
  intro d n hj hd hn;obtain⟨n,rfl⟩:∃m,n=m+1:=⟨n-1,by omega⟩
  refine ay ?_;unfold IP insInner;simp only[U9,show ¬(0>a)by omega,decide_false,cond_false]
 |succ j ih=>
  intro d n hj hd hn;obtain⟨n,rfl⟩:∃m,n=m+1:=⟨n-1,by omega⟩
  have e1:aa .sub .i64 ((j+1:Nat):Int) (1:Int)=(j:Int):=iw (by omega);unfold insInner;by_cases h:j+1>a
  ·cases hl:lt d[j+1]! d[j]! with
   |true=>simp only[h,decide_true,Bool.true_and,if_true];rw[<-ih (swp d (j+1) j) n (by rw[size_swp];omega) (by rw[size_swp];omega) (by omega)];refine aH ?_;unfold IP;simp only[U9,h,decide_true,cond_true,e1,QM,gA,S0,hj,show j<d.size by omega,Option.bind_some,hl,To]
   |false=>simp only[Bool.and_false,Bool.false_eq_true,if_false];refine ay ?_;unfold IP;simp only[U9,h,decide_true,cond_true,e1,QM,gA,hj,show j<d.size by omega,Option.bind_some,hl,cond_false]
  ·simp only[h,decide_false,Bool.false_and,Bool.false_eq_true,if_false];refine ay ?_;unfold IP;simp only[U9,h,decide_false,cond_false]
theorem Wv(a b:Nat)(hb:b<=255):∀(k i:Nat) (d:Array α) (n:Nat),b-i<=k->b<=d.size->d.size<=255->i<=256->k<n->iter (Jb lt ((a:Int),(b:Int),())) n (d.toList,(i:Int),())=some (.inl ((insOuter lt a b i d).toList,())):=by
 intro k;induction k with
 |zero=>
  intro i d n hk hbd hd hi hn;obtain⟨n,rfl⟩:∃m,n=m+1:=⟨n-1,by omega⟩
  refine ay ?_;unfold Jb insOuter;simp only[Su,show ¬(i<b)by omega,decide_false,cond_false,if_false]
 |succ k ih=>
  intro i d n hk hbd hd hi hn;obtain⟨n,rfl⟩:∃m,n=m+1:=⟨n-1,by omega⟩
  unfold insOuter;by_cases h:i<b
  ·simp only[h,if_true];rw[<-ih (i+1) (insInner lt a i d) n (by omega) (by rw[Ps];omega) (by rw[Ps];omega) (by omega) (by omega)];refine aH ?_;unfold Jb Kc;simp only[Su,h,decide_true,cond_true,Xo a b i i d big (by omega) hd (aT (by omega)),Option.bind_some,Sum.elim_inl,av (n:=i) (by omega)]
  ·simp only[h,if_false];refine ay ?_;unfold Jb;simp only[Su,h,decide_false,cond_false]
theorem WK(d:Array α)(a b:Nat)(hab:a<=b)(hb:b<=d.size)(hd:d.size<=255):Kn lt d.toList (a:Int) (b:Int)=some ((insertionSort lt d a b).toList,()):=by unfold Kn Kb insertionSort;simp only[av (n:=a) (by omega),Wv (lt:=lt) a b (by omega) 256 (a+1) d big (by omega) hb hd (by omega) (aT (by omega)),Option.bind_some,Sum.elim_inl]
theorem Ta(lt:α->α->Bool)(hi first:Nat):∀(k root:Nat) (d:Array α),hi-root<=k->(siftDown lt hi first root d).size=d.size:=by
 intro k;induction k with
 |zero=>intro root d hk;unfold siftDown;rw[dif_pos (by omega)]
 |succ k ih=>
  intro root d hk;unfold siftDown;repeat' split
  all_goals first|rfl|(rw[ih _ _ (by omega),size_swp])
theorem WJ(hi first:Nat):∀(k root:Nat) (d:Array α) (n:Nat),hi-root<=k->first+hi<=d.size->first+root<=255->d.size<=255->k<n->∃q,iter (IU lt ((hi:Int),(first:Int),())) n (d.toList,(root:Int),())=some q/\(q=.inl ((siftDown lt hi first root d).toList,())\/q=.inr (.inl ((siftDown lt hi first root d).toList,()))):=by
 intro k;induction k with
 |zero=>
  intro root d n hk hf hr hd hn;obtain⟨n,rfl⟩:∃m,n=m+1:=⟨n-1,by omega⟩
  refine⟨_,ay ?_,.inl rfl⟩;unfold IU siftDown;rw[dif_pos (by omega)];have e1:aa .mul .i64 (2:Int) (root:Int)=((2*root:Nat):Int):=mS (n:=2) (by omega);simp only[e1,av (n:=2*root) (by omega),Tz,show 2*root+1>=hi by omega,decide_true,cond_true]
 |succ k ih=>
  intro root d n hk hf hr hd hn;obtain⟨n,rfl⟩:∃m,n=m+1:=⟨n-1,by omega⟩
  have e1:aa .mul .i64 (2:Int) (root:Int)=((2*root:Nat):Int):=mS (n:=2) (by omega);have e2:aa .add .i64 (first:Int) (root:Int)=((first+root:Nat):Int):=aS (by omega);have e3:aa .add .i64 ((2*root:Nat):Int) (1:Int)=((2*root+1:Nat):Int):=av (by omega);have e4:aa .add .i64 ((2*root+1:Nat):Int) (1:Int)=((2*root+2:Nat):Int):=av (by omega);have e5:aa .add .i64 (first:Int) ((2*root+1:Nat):Int)=((first+(2*root+1):Nat):Int):=aS (by omega);have e6:aa .add .i64 (first:Int) ((2*root+2:Nat):Int)=((first+(2*root+2):Nat):Int):=aS (by omega);have e7:aa .add .i64 ((first+(2*root+1):Nat):Int) (1:Int)=((first+(2*root+1)+1:Nat):Int):=av (by omega);by_cases h1:2*root+1>=hi
  ·refine⟨_,ay ?_,.inl rfl⟩;unfold IU siftDown;rw[dif_pos h1];simp only[e1,e3,Tz,h1,decide_true,cond_true]
  ·have i1:first+(2*root+1)<d.size:=by omega
   have i2:first+root<d.size:=by omega
   unfold siftDown;rw[dif_neg h1];by_cases h2:2*root+2<hi
   ·have i3:first+(2*root+2)<d.size:=by omega
    have i4:first+(2*root+1)+1<d.size:=by omega
    cases h3:lt d[first+(2*root+1)]! d[first+(2*root+1)+1]! with
    |true=>
     cases h4:lt d[first+root]! d[first+(2*root+2)]! with
     |false=>refine⟨_,ay ?_,.inr rfl⟩;unfold IU;simp only[e1,e2,e3,e4,e5,e6,e7,Tz,Su,h1,h2,decide_true,decide_false,cond_true,cond_false,QM,gA,i1,i2,i3,i4,Option.bind_some,h3,h4,Bool.not_false,Bool.true_and,if_true]
     |true=>
      obtain⟨q,hq,lR⟩:=ih (2*root+2) (swp d (first+root) (first+(2*root+2))) n (by omega) (by rw[size_swp];omega) (by omega) (by rw[size_swp];omega) (by omega);refine⟨q,?_,?_⟩
      ·rw[<-hq];refine aH ?_;unfold IU;simp only[e1,e2,e3,e4,e5,e6,e7,Tz,Su,h1,h2,decide_true,decide_false,cond_true,cond_false,QM,gA,S0,i1,i2,i3,i4,Option.bind_some,h3,h4,Bool.not_true,To,aV]
      ·simp only[h2,decide_true,Bool.true_and,if_true,Bool.not_true,Bool.false_eq_true,if_false,dite_true];exact lR
    |false=>
     simp only[Bool.and_false,Bool.false_eq_true,if_false];cases h4:lt d[first+root]! d[first+(2*root+1)]! with
     |false=>refine⟨_,ay ?_,.inr rfl⟩;unfold IU;simp only[e1,e2,e3,e4,e5,e6,e7,Tz,Su,h1,h2,decide_true,decide_false,cond_true,cond_false,QM,gA,i1,i2,i3,i4,Option.bind_some,h3,h4,Bool.not_false,if_true]
     |true=>
      obtain⟨q,hq,lR⟩:=ih (2*root+1) (swp d (first+root) (first+(2*root+1))) n (by omega) (by rw[size_swp];omega) (by omega) (by rw[size_swp];omega) (by omega);refine⟨q,?_,?_⟩
      ·rw[<-hq];refine aH ?_;unfold IU;simp only[e1,e2,e3,e4,e5,e6,e7,Tz,Su,h1,h2,decide_true,decide_false,cond_true,cond_false,QM,gA,S0,i1,i2,i3,i4,Option.bind_some,h3,h4,Bool.not_true,To,aV]
      ·simp only[Bool.not_true,Bool.false_eq_true,if_false];exact lR
   ·simp only[show ¬(2*root+1+1<hi)from h2,decide_false,Bool.false_and,Bool.false_eq_true,if_false];cases h4:lt d[first+root]! d[first+(2*root+1)]! with
    |false=>refine⟨_,ay ?_,.inr rfl⟩;unfold IU;simp only[e1,e2,e3,e4,e5,e6,e7,Tz,Su,h1,h2,decide_true,decide_false,cond_true,cond_false,QM,gA,i1,i2,Option.bind_some,h4,Bool.not_false,if_true]
    |true=>
     obtain⟨q,hq,lR⟩:=ih (2*root+1) (swp d (first+root) (first+(2*root+1))) n (by omega) (by rw[size_swp];omega) (by omega) (by rw[size_swp];omega) (by omega);refine⟨q,?_,?_⟩
     ·rw[<-hq];refine aH ?_;unfold IU;simp only[e1,e2,e3,e4,e5,e6,e7,Tz,Su,h1,h2,decide_true,decide_false,cond_true,cond_false,QM,gA,S0,i1,i2,Option.bind_some,h4,Bool.not_true,To,aV]
     ·simp only[Bool.not_true,Bool.false_eq_true,if_false];exact lR
theorem UC(d:Array α)(root hi first:Nat)(hf:first+hi<=d.size)(hr:first+root<=255)(hd:d.size<=255):Mt lt d.toList (root:Int) (hi:Int) (first:Int)=some ((siftDown lt hi first root d).toList,()):=by unfold Mt MQ;obtain⟨q,hq,rfl|rfl⟩:=WJ (lt:=lt) hi first 256 root d big (by omega) hf hr hd (aT (by omega)) <;> rw[hq] <;> rfl
end
end Go.Fn
set_option linter.unusedSimpArgs false
set_option linter.unusedVariables false
namespace Go.Fn
open Go.R Go.Sort
section
variable {α:Type} [Inhabited α] {lt:α->α->Bool}
theorem R7(lt:α->α->Bool)(hi first root:Nat)(d:Array α):(siftDown lt hi first root d).size=d.size:=Ta lt hi first (hi-root) root d (Nat.le_refl _)
theorem ge0(n:Nat):af .geq (n:Int) (0:Int)=true:=by simp[af]
theorem YF:af .geq (-1:Int) (0:Int)=false:=rfl
theorem SC {X Y S:Type} {body:X->Option (X⊕Y)} (st:S->Int->X) (fin:S->Y) (f:Nat->S->S) (Inv:S->Prop) (top:Nat) (adB:top<=1000)
  (hs:∀i s,i<top->Inv s->body (st s (i:Int))=some (.inl (st (f i s) (aa .sub .i64 (i:Int) 1)))/\Inv (f i s)) (he:∀s,body (st s (-1))=some (.inr (fin s))):
  ∀(k:Nat) (s:S) (n:Nat),k<=top->k<n->Inv s->iter body n (st s ((k:Int)-1))=some (fin (k.rec (motive:=fun _=>S->S) (fun s=>s) (fun k r s=>r (f k s)) s)):=by
 intro k;induction k with
 |zero=>
  intro s n _ hn _;obtain⟨n,rfl⟩:∃m,n=m+1:=⟨n-1,by omega⟩
  exact ay (he s)
 |succ k ih=>
  intro s n hk hn hi;obtain⟨n,rfl⟩:∃m,n=m+1:=⟨n-1,by omega⟩
  obtain⟨h1,h2⟩:=hs k s (by omega) hi;rw[show((k+1:Nat):Int)-1=(k:Int)by omega,aH h1];have e:aa .sub .i64 (k:Int) 1=(k:Int)-1:=bO (by omega) (by omega);rw[e];exact ih (f k s) n (by omega) (by omega) h2
theorem Q6(hi first:Nat):∀k (d:Array α),heapBuild lt hi first k d=k.rec (motive:=fun _=>Array α->Array α) (fun s=>s) (fun k r s=>r (siftDown lt hi first k s)) d
 |0,_=>rfl
 |k+1,d=>by rw[heapBuild,Q6 hi first k]
theorem Sb(first:Nat):∀k (d:Array α),heapPop lt first k d=k.rec (motive:=fun _=>Array α->Array α) (fun s=>s) (fun k r s=>r (siftDown lt k first 0 (swp s first (first+k)))) d
 |0,_=>rfl
 |k+1,d=>by rw[heapPop,Sb first k]
theorem QD(hi first:Nat):∀k (d:Array α),(heapBuild lt hi first k d).size=d.size
 |0,_=>rfl
 |k+1,d=>by rw[heapBuild,QD hi first k,R7]
theorem Wf(d:Array α)(a b:Nat)(hab:a<b)(hb:b<=d.size)(hd:d.size<=255):Oc lt d.toList (a:Int) (b:Int)=some ((heapSort lt d a b).toList,()):=by
 unfold Oc MO MP heapSort;have z:ax (2:Int)=false:=rfl;have e1:aa .sub .i64 (b:Int) (a:Int)=((b-a:Nat):Int):=sS (by omega) (by omega);have e2:aa .sub .i64 ((b-a:Nat):Int) 1=((b-a-1:Nat):Int):=sS (m:=1) (by omega) (by omega);have e3:aa .quo .i64 ((b-a-1:Nat):Int) (2:Int)=(((b-a-1) / 2:Nat):Int):=qS _ 2 (by omega);have hq:(b-a-1) / 2<=255:=by omega
 have l0:=SC (body:=Kr lt ((a:Int),(0:Int),((b-a:Nat):Int),())) (fun(s:Array α) (i:Int)=>(s.toList,i,())) (fun s=>.inl (s.toList,())) (fun i s=>siftDown lt (b-a) a i s) (fun s=>s.size=d.size) ((b-a-1) / 2+1) (by omega) (fun i s hi hs=>⟨by
  unfold Kr;simp only[ge0,cond_true,UC (lt:=lt) s i (b-a) a (by omega) (by omega) (by omega),Option.bind_some],by rw[R7];exact hs⟩) (fun s=>by
  unfold Kr;simp only[YF,cond_false]) ((b-a-1) / 2+1) d big (by omega) (aT (by omega)) rfl
 rw[<-Q6,show(((b-a-1) / 2+1:Nat):Int)-1=(((b-a-1) / 2:Nat):Int)by omega]at l0;have l2:=SC (body:=Ks lt ((a:Int),(0:Int),())) (fun(s:Array α) (i:Int)=>(s.toList,i,())) (fun s=>.inl (s.toList,())) (fun i s=>siftDown lt i a 0 (swp s a (a+i))) (fun s=>s.size=d.size) (b-a) (by omega) (fun i s hi hs=>⟨by
  unfold Ks;have e4:aa .add .i64 (a:Int) (i:Int)=((a+i:Nat):Int):=aS (by omega);have e5:=UC (lt:=lt) (swp s a (a+i)) 0 i a (by rw[size_swp];omega) (by omega) (by rw[size_swp];omega);simp only[ge0,cond_true,e4,QM,gA,S0,To,show a+i<s.size by omega,show a<s.size by omega,decide_true];rw[show(0:Int)=((0:Nat):Int)from rfl,e5];rfl,by rw[R7,size_swp];exact hs⟩) (fun s=>by
  unfold Ks;simp only[YF,cond_false]) (b-a) (heapBuild lt (b-a) a ((b-a-1) / 2+1) d) big (Nat.le_refl _) (aT (by omega)) (QD _ _ _ _)
 rw[<-Sb,show((b-a:Nat):Int)-1=((b-a-1:Nat):Int)by omega]at l2;have hbd:heapBuild lt (b-a) a ((b-a-1) / 2) (siftDown lt (b-a) a ((b-a-1) / 2) d)=heapBuild lt (b-a) a ((b-a-1) / 2+1) d:=rfl;simp only[z,cond_false,e1,e2,e3,l0,Option.bind_some,Sum.elim_inl,hbd,l2]
theorem Vg{X Y:Type}{body:X->Option (X⊕Y)}(st:Nat->X)(fin:Nat->Y)(p:α->Bool)(d:Array α)(j:Nat)(hs:∀i,i<=256->body (st i)=some (bif decide (i<=j)&&p d[i]! then .inl (st (i+1))else .inr (fin i)))(hj:j<=255):
  ∀(k i n:Nat),j+1-i<=k->i<=256->k<n->iter body n (st i)=some (fin (scanUp p d j i)):=by
 intro k;induction k with
 |zero=>
  intro i n hk hi hn;obtain⟨n,rfl⟩:∃m,n=m+1:=⟨n-1,by omega⟩
  have h:¬(i<=j):=by omega
  unfold scanUp;simp only[h,decide_false,Bool.false_and,Bool.false_eq_true,if_false];refine ay ?_;rw[hs i hi];simp only[h,decide_false,Bool.false_and,cond_false]
 |succ k ih=>
  intro i n hk hi hn;obtain⟨n,rfl⟩:∃m,n=m+1:=⟨n-1,by omega⟩
  unfold scanUp;have h1:=hs i hi;cases hc:(decide (i<=j)&&p d[i]!)with
  |true=>rw[hc]at h1;have:i<=j:=of_decide_eq_true (Bool.and_eq_true _ _▸hc).1;simp only[if_true];rw[aH h1];exact ih (i+1) n (by omega) (by omega) (by omega)
  |false=>rw[hc]at h1;simp only[Bool.false_eq_true,if_false];exact ay h1
theorem Tn{X Y:Type}{body:X->Option (X⊕Y)}(st:Nat->X)(fin:Nat->Y)(p:α->Bool)(d:Array α)(i:Nat)(hi:0<i)(hs:∀j,j<=255->j<d.size->body (st j)=some (bif decide (i<=j)&&p d[j]! then .inl (st (j-1))else .inr (fin j))):
  ∀(j n:Nat),j<d.size->j<=255->j<n->iter body n (st j)=some (fin (scanDown p d i j)):=by
 intro j;induction j with
 |zero=>
  intro n hj XF hn;obtain⟨n,rfl⟩:∃m,n=m+1:=⟨n-1,by omega⟩
  refine ay ?_;rw[hs 0 (by omega) hj];simp only[show ¬(i<=0)by omega,decide_false,Bool.false_and,cond_false,scanDown]
 |succ j ih=>
  intro n hj XF hn;obtain⟨n,rfl⟩:∃m,n=m+1:=⟨n-1,by omega⟩
  unfold scanDown;have h1:=hs (j+1) XF hj;cases hc:(decide (i<=j+1)&&p d[j+1]!)with
  |true=>rw[hc]at h1;simp only[if_true];rw[aH h1];exact ih n (by omega) (by omega) (by omega)
  |false=>rw[hc]at h1;simp only[Bool.false_eq_true,if_false];exact ay h1
section
variable (d:Array α) (a:Nat) (hd:d.size<=255) (ha:a<d.size)
include hd ha
theorem pq0(j i:Nat)(hj:j<d.size)(hi:i<=256):LD lt ((a:Int),(j:Int),()) (d.toList,(i:Int),())=some (.inl (d.toList,((scanUp (fun x=>lt x d[a]!) d j i:Nat):Int),())):=by
 refine Vg (body:=KB lt ((a:Int),(j:Int),())) (fun i=>(d.toList,(i:Int),())) (fun i=>Sum.inl (d.toList,(i:Int),())) (fun x=>lt x d[a]!) d j (fun i hi=>?_) (by omega) 256 i big (by omega) hi (aT (by omega));unfold KB;by_cases h:i<=j
 ·simp only[Vb,h,decide_true,cond_true,QM,gA,show i<d.size by omega,ha,Option.bind_some,Bool.true_and,av (n:=i) (by omega)];cases lt d[i]! d[a]! <;> rfl
 ·simp only[Vb,h,decide_false,cond_false,Bool.false_and]
theorem pq6(j i:Nat)(hj:j<d.size)(hi:i<=256):LH lt ((a:Int),(j:Int),()) (d.toList,(i:Int),())=some (.inl (d.toList,((scanUp (fun x=>lt x d[a]!) d j i:Nat):Int),())):=pq0 d a hd ha j i hj hi
theorem pq2(i j:Nat)(hi:0<i)(hj:j<d.size):LF lt ((a:Int),(i:Int),()) (d.toList,(j:Int),())=some (.inl (d.toList,((scanDown (fun x=>!lt x d[a]!) d i j:Nat):Int),())):=by
 refine Tn (body:=KC lt ((a:Int),(i:Int),())) (fun i=>(d.toList,(i:Int),())) (fun i=>Sum.inl (d.toList,(i:Int),())) (fun x=>!lt x d[a]!) d i hi (fun j hj XF=>?_) j big hj (by omega) (aT (by omega));unfold KC;by_cases h:i<=j
 ·have e:aa .sub .i64 (j:Int) 1=((j-1:Nat):Int):=sS (m:=1) (by omega) (by omega);simp only[Vb,h,decide_true,cond_true,QM,gA,XF,ha,Option.bind_some,Bool.true_and,e];cases lt d[j]! d[a]! <;> rfl
 ·simp only[Vb,h,decide_false,cond_false,Bool.false_and]
theorem pq8(i j:Nat)(hi:0<i)(hj:j<d.size):LI lt ((a:Int),(i:Int),()) (d.toList,(j:Int),())=some (.inl (d.toList,((scanDown (fun x=>!lt x d[a]!) d i j:Nat):Int),())):=pq2 d a hd ha i j hi hj
theorem pe2(j i:Nat)(hj:j<d.size)(hi:i<=256):JX lt ((a:Int),(j:Int),()) (d.toList,(i:Int),())=some (.inl (d.toList,((scanUp (fun x=>!lt d[a]! x) d j i:Nat):Int),())):=by
 refine Vg (body:=JH lt ((a:Int),(j:Int),())) (fun i=>(d.toList,(i:Int),())) (fun i=>Sum.inl (d.toList,(i:Int),())) (fun x=>!lt d[a]! x) d j (fun i hi=>?_) (by omega) 256 i big (by omega) hi (aT (by omega));unfold JH;by_cases h:i<=j
 ·simp only[Vb,h,decide_true,cond_true,QM,gA,show i<d.size by omega,ha,Option.bind_some,Bool.true_and,av (n:=i) (by omega)];cases lt d[a]! d[i]! <;> rfl
 ·simp only[Vb,h,decide_false,cond_false,Bool.false_and]
theorem pe4(i j:Nat)(hi:0<i)(hj:j<d.size):JY lt ((a:Int),(i:Int),()) (d.toList,(j:Int),())=some (.inl (d.toList,((scanDown (fun x=>lt d[a]! x) d i j:Nat):Int),())):=by
 refine Tn (body:=JI lt ((a:Int),(i:Int),())) (fun i=>(d.toList,(i:Int),())) (fun i=>Sum.inl (d.toList,(i:Int),())) (fun x=>lt d[a]! x) d i hi (fun j hj XF=>?_) j big hj (by omega) (aT (by omega));unfold JI;by_cases h:i<=j
 ·have e:aa .sub .i64 (j:Int) 1=((j-1:Nat):Int):=sS (m:=1) (by omega) (by omega);simp only[Vb,h,decide_true,cond_true,QM,gA,XF,ha,Option.bind_some,Bool.true_and,e];cases lt d[a]! d[j]! <;> rfl
 ·simp only[Vb,h,decide_false,cond_false,Bool.false_and]
end
theorem VA(a:Nat):∀(k i j:Nat) (d:Array α) (n:Nat),j+1-i<=k->d.size<=255->a<d.size->0<i->i<=256->j<d.size->k<n->iter (Jj lt ((a:Int),())) n (d.toList,(i:Int),(j:Int),())=some (.inl ((partLoop lt a i j d).2.toList,(((partLoop lt a i j d).1:Nat):Int),())):=by
 intro k;induction k with
 |zero=>
  intro i j d n hk hd ha hi lu hj hn;obtain⟨n,rfl⟩:∃m,n=m+1:=⟨n-1,by omega⟩
  rw[partLoop_eq];have h1:=scanUp_ge (fun x=>lt x d[a]!) d j i;have h2:=scanDown_le (fun x=>!lt x d[a]!) d (scanUp (fun x=>lt x d[a]!) d j i) j;have h:scanUp (fun x=>lt x d[a]!) d j i>scanDown (fun x=>!lt x d[a]!) d (scanUp (fun x=>lt x d[a]!) d j i) j:=by omega
  rw[if_pos h];refine ay ?_;unfold Jj;simp only[pq6 (lt:=lt) d a hd ha j i hj lu,Option.bind_some,Sum.elim_inl,pq8 (lt:=lt) d a hd ha (scanUp (fun x=>lt x d[a]!) d j i) j (by omega) hj,U9,h,decide_true,cond_true]
 |succ k ih=>
  intro i j d n hk hd ha hi lu hj hn;obtain⟨n,rfl⟩:∃m,n=m+1:=⟨n-1,by omega⟩
  rw[partLoop_eq];have h1:=scanUp_ge (fun x=>lt x d[a]!) d j i;have h2:=scanDown_le (fun x=>!lt x d[a]!) d (scanUp (fun x=>lt x d[a]!) d j i) j;have hr:iter (Jj lt ((a:Int),())) (n+1) (d.toList,(i:Int),(j:Int),())=iter (Jj lt ((a:Int),())) (n+1) (d.toList,(i:Int),(j:Int),()):=rfl;by_cases h:scanUp (fun x=>lt x d[a]!) d j i>scanDown (fun x=>!lt x d[a]!) d (scanUp (fun x=>lt x d[a]!) d j i) j
  ·rw[if_pos h];refine ay ?_;unfold Jj;simp only[pq6 (lt:=lt) d a hd ha j i hj lu,Option.bind_some,Sum.elim_inl,pq8 (lt:=lt) d a hd ha (scanUp (fun x=>lt x d[a]!) d j i) j (by omega) hj,U9,h,decide_true,cond_true]
  ·rw[if_neg h];have e6:=pq6 (lt:=lt) d a hd ha j i hj lu;have e8:=pq8 (lt:=lt) d a hd ha (scanUp (fun x=>lt x d[a]!) d j i) j (by omega) hj;generalize scanDown (fun x=>!lt x d[a]!) d (scanUp (fun x=>lt x d[a]!) d j i) j=j2 at h h2 e8⊢;generalize scanUp (fun x=>lt x d[a]!) d j i=i2 at h h1 e6 e8⊢;rw[<-ih (i2+1) (j2-1) (swp d i2 j2) n (by omega) (by rw[size_swp];omega) (by rw[size_swp];omega) (by omega) (by omega) (by rw[size_swp];omega) (by omega)];refine aH ?_;have e:aa .sub .i64 (j2:Int) 1=((j2-1:Nat):Int):=sS (m:=1) (by omega) (by omega);unfold Jj;simp only[e6,Option.bind_some,Sum.elim_inl,e8,U9,h,decide_false,cond_false,QM,gA,S0,show i2<d.size by omega,show j2<d.size by omega,decide_true,cond_true,To,e,av (n:=i2) (by omega)]
theorem Uy(a:Nat):∀(k i j:Nat) (d:Array α) (n:Nat),j+1-i<=k->d.size<=255->a<d.size->0<i->i<=256->j<d.size->k<n->iter (I2 lt ((a:Int),())) n (d.toList,(i:Int),(j:Int),())=some (.inl ((partEqLoop lt a i j d).2.toList,(((partEqLoop lt a i j d).1:Nat):Int),())):=by
 intro k;induction k with
 |zero=>
  intro i j d n hk hd ha hi lu hj hn;obtain⟨n,rfl⟩:∃m,n=m+1:=⟨n-1,by omega⟩
  rw[partEqLoop_eq];have h1:=scanUp_ge (fun x=>!lt d[a]! x) d j i;have h2:=scanDown_le (fun x=>lt d[a]! x) d (scanUp (fun x=>!lt d[a]! x) d j i) j;have h:scanUp (fun x=>!lt d[a]! x) d j i>scanDown (fun x=>lt d[a]! x) d (scanUp (fun x=>!lt d[a]! x) d j i) j:=by omega
  rw[if_pos h];refine ay ?_;unfold I2;simp only[pe2 (lt:=lt) d a hd ha j i hj lu,Option.bind_some,Sum.elim_inl,pe4 (lt:=lt) d a hd ha (scanUp (fun x=>!lt d[a]! x) d j i) j (by omega) hj,U9,h,decide_true,cond_true]
 |succ k ih=>
  intro i j d n hk hd ha hi lu hj hn;obtain⟨n,rfl⟩:∃m,n=m+1:=⟨n-1,by omega⟩
  rw[partEqLoop_eq];have h1:=scanUp_ge (fun x=>!lt d[a]! x) d j i;have h2:=scanDown_le (fun x=>lt d[a]! x) d (scanUp (fun x=>!lt d[a]! x) d j i) j;by_cases h:scanUp (fun x=>!lt d[a]! x) d j i>scanDown (fun x=>lt d[a]! x) d (scanUp (fun x=>!lt d[a]! x) d j i) j
  ·rw[if_pos h];refine ay ?_;unfold I2;simp only[pe2 (lt:=lt) d a hd ha j i hj lu,Option.bind_some,Sum.elim_inl,pe4 (lt:=lt) d a hd ha (scanUp (fun x=>!lt d[a]! x) d j i) j (by omega) hj,U9,h,decide_true,cond_true]
  ·rw[if_neg h];have e6:=pe2 (lt:=lt) d a hd ha j i hj lu;have e8:=pe4 (lt:=lt) d a hd ha (scanUp (fun x=>!lt d[a]! x) d j i) j (by omega) hj;generalize scanDown (fun x=>lt d[a]! x) d (scanUp (fun x=>!lt d[a]! x) d j i) j=j2 at h h2 e8⊢;generalize scanUp (fun x=>!lt d[a]! x) d j i=i2 at h h1 e6 e8⊢;rw[<-ih (i2+1) (j2-1) (swp d i2 j2) n (by omega) (by rw[size_swp];omega) (by rw[size_swp];omega) (by omega) (by omega) (by rw[size_swp];omega) (by omega)];refine aH ?_;have e:aa .sub .i64 (j2:Int) 1=((j2-1:Nat):Int):=sS (m:=1) (by omega) (by omega);unfold I2;simp only[e6,Option.bind_some,Sum.elim_inl,e8,U9,h,decide_false,cond_false,QM,gA,S0,show i2<d.size by omega,show j2<d.size by omega,decide_true,cond_true,To,e,av (n:=i2) (by omega)]
theorem UY(d:Array α)(a b p:Nat)(hab:a<b)(hb:b<=d.size)(hd:d.size<=255)(hp:p<d.size):n6 lt d.toList (a:Int) (b:Int) (p:Int)=some ((((partitionEqual lt d a b p).1:Nat):Int),(partitionEqual lt d a b p).2.toList,()):=by unfold n6 JW partitionEqual;have e:aa .sub .i64 (b:Int) 1=((b-1:Nat):Int):=sS (m:=1) (by omega) (by omega);simp only[QM,gA,S0,show a<d.size by omega,hp,decide_true,cond_true,To,e,av (n:=a) (by omega),Uy (lt:=lt) a 256 (a+1) (b-1) (swp d a p) big (by omega) (by rw[size_swp];omega) (by rw[size_swp];omega) (by omega) (by omega) (by rw[size_swp];omega) (aT (by omega)),Option.bind_some,Sum.elim_inl]
theorem S8(a:Nat):∀(k i j:Nat) (d:Array α),j+1-i<=k->(partLoop lt a i j d).2.size=d.size/\(partLoop lt a i j d).1<=j:=by
 intro k;induction k with
 |zero=>intro i j d hk;rw[partLoop_eq];have h1:=scanUp_ge (fun x=>lt x d[a]!) d j i;have h2:=scanDown_le (fun x=>!lt x d[a]!) d (scanUp (fun x=>lt x d[a]!) d j i) j;rw[if_pos (by omega)];exact⟨rfl,h2⟩
 |succ k ih=>
  intro i j d hk;rw[partLoop_eq];have h1:=scanUp_ge (fun x=>lt x d[a]!) d j i;have h2:=scanDown_le (fun x=>!lt x d[a]!) d (scanUp (fun x=>lt x d[a]!) d j i) j;split
  ·exact⟨rfl,h2⟩
  ·obtain⟨h3,h4⟩:=ih (scanUp (fun x=>lt x d[a]!) d j i+1) (scanDown (fun x=>!lt x d[a]!) d (scanUp (fun x=>lt x d[a]!) d j i) j-1) (swp d (scanUp (fun x=>lt x d[a]!) d j i) (scanDown (fun x=>!lt x d[a]!) d (scanUp (fun x=>lt x d[a]!) d j i) j)) (by omega);exact⟨by rw[h3,size_swp],by omega⟩
theorem Wg(d:Array α)(a b p:Nat)(hab:a<b)(hb:b<=d.size)(hd:d.size<=255)(hp:p<d.size):me lt d.toList (a:Int) (b:Int) (p:Int)=some ((((partition lt d a b p).1:Nat):Int),(partition lt d a b p).2.1,(partition lt d a b p).2.2.toList,()):=by
 unfold me LG partition;have e:aa .sub .i64 (b:Int) 1=((b-1:Nat):Int):=sS (m:=1) (by omega) (by omega);have hs:(swp d a p).size=d.size:=size_swp _ _ _;have e0:=pq0 (lt:=lt) (swp d a p) a (by omega) (by omega) (b-1) (a+1) (by omega) (by omega);have h1:=scanUp_ge (fun x=>lt x (swp d a p)[a]!) (swp d a p) (b-1) (a+1);have e2:=pq2 (lt:=lt) (swp d a p) a (by omega) (by omega) (scanUp (fun x=>lt x (swp d a p)[a]!) (swp d a p) (b-1) (a+1)) (b-1) (by omega) (by omega);have h2:=scanDown_le (fun x=>!lt x (swp d a p)[a]!) (swp d a p) (scanUp (fun x=>lt x (swp d a p)[a]!) (swp d a p) (b-1) (a+1)) (b-1);simp only[QM,gA,S0,show a<d.size by omega,hp,decide_true,cond_true,To,e,av (n:=a) (by omega),e0,e2,Option.bind_some,Sum.elim_inl];generalize scanDown (fun x=>!lt x (swp d a p)[a]!) (swp d a p) (scanUp (fun x=>lt x (swp d a p)[a]!) (swp d a p) (b-1) (a+1)) (b-1)=j2 at h2 e2⊢;generalize scanUp (fun x=>lt x (swp d a p)[a]!) (swp d a p) (b-1) (a+1)=i2 at h1 e0 e2⊢;by_cases h:i2>j2
 ·simp only[U9,h,decide_true,cond_true,if_true,QM,gA,S0,hs,show a<d.size by omega,show j2<d.size by omega,To]
 ·have e3:aa .sub .i64 (j2:Int) 1=((j2-1:Nat):Int):=sS (m:=1) (by omega) (by omega);have tq:(swp (swp d a p) i2 j2).size=d.size:=by rw[size_swp,hs]
  have e4:=VA (lt:=lt) a 256 (i2+1) (j2-1) (swp (swp d a p) i2 j2) big (by omega) (by omega) (by omega) (by omega) (by omega) (by omega) (aT (by omega));obtain⟨h3,h4⟩:=S8 (lt:=lt) a 256 (i2+1) (j2-1) (swp (swp d a p) i2 j2) (by omega);simp only[U9,h,decide_false,cond_false,if_false,QM,gA,S0,hs,show i2<d.size by omega,show j2<d.size by omega,To,decide_true,cond_true,e3,av (n:=i2) (by omega),e4,Option.bind_some,Sum.elim_inl,h3,tq,show a<d.size by omega,show(partLoop lt a (i2+1) (j2-1) (swp (swp d a p) i2 j2)).1<d.size by omega]
end
end Go.Fn
set_option linter.unusedSimpArgs false
set_option linter.unusedVariables false
namespace Go.Fn
open Go.R Go.Sort
section
variable {α:Type} [Inhabited α] {lt:α->α->Bool}
theorem QE:∀j (d:Array α),(shiftDown lt j d).size=d.size
 |0,_=>rfl
 |j+1,d=>by
  unfold shiftDown;split
  ·rfl
  ·rw[QE j,size_swp]
theorem TK(b:Nat):∀(k j:Nat) (d:Array α),b-j<=k->(shiftUp lt b j d).size=d.size:=by
 intro k;induction k with
 |zero=>intro j d h;unfold shiftUp;rw[if_neg (by omega)]
 |succ k ih=>
  intro j d h;unfold shiftUp;split
  ·split
   ·rfl
   ·rw[ih (j+1) _ (by omega),size_swp]
  ·rfl
theorem S9(d:Array α)(b:Nat):∀(k i:Nat),b-i<=k->i<=scanSorted lt d b i/\(i<=b->scanSorted lt d b i<=b):=by
 intro k;induction k with
 |zero=>
  intro i h;unfold scanSorted;have:¬(i<b):=by omega
  simp only[this,decide_false,Bool.false_and,Bool.false_eq_true,if_false];exact⟨Nat.le_refl _,fun h=>h⟩
 |succ k ih=>
  intro i h;unfold scanSorted;split
  ·rename_i hc;simp only[Bool.and_eq_true,decide_eq_true_eq]at hc;have:=ih (i+1) (by omega);exact⟨by omega,fun _=>this.2 (by omega)⟩
  ·exact⟨Nat.le_refl _,fun h=>h⟩
theorem pi2(d:Array α)(hd:d.size<=255)(a b j:Int)(bn:Nat)(hb:bn<=d.size):∀(k i n:Nat),bn-i<=k->0<i->i<=256->k<n->iter (Ii lt (a,(bn:Int),j,())) n (d.toList,(i:Int),())=some (.inl (d.toList,((scanSorted lt d bn i:Nat):Int),())):=by
 intro k;induction k with
 |zero=>
  intro i n hk h0 hi hn;obtain⟨n,rfl⟩:∃m,n=m+1:=⟨n-1,by omega⟩
  refine ay ?_;have h:¬(i<bn):=by omega
  unfold Ii scanSorted;simp only[Su,h,decide_false,cond_false,Bool.false_and,Bool.false_eq_true,if_false]
 |succ k ih=>
  intro i n hk h0 hi hn;obtain⟨n,rfl⟩:∃m,n=m+1:=⟨n-1,by omega⟩
  unfold scanSorted;by_cases h:i<bn
  ·have e:aa .sub .i64 (i:Int) 1=((i-1:Nat):Int):=sS (m:=1) (by omega) (by omega);cases hl:lt d[i]! d[i-1]! with
   |true=>simp only[Bool.not_true,Bool.and_false,Bool.false_eq_true,if_false];refine ay ?_;unfold Ii;simp only[Su,h,decide_true,cond_true,e,QM,gA,show i<d.size by omega,show i-1<d.size by omega,Option.bind_some,hl,Bool.not_true,cond_false]
   |false=>simp only[h,Bool.not_false,Bool.and_true,decide_true,if_true];rw[<-ih (i+1) n (by omega) (by omega) (by omega) (by omega)];refine aH ?_;unfold Ii;simp only[Su,h,decide_true,cond_true,e,QM,gA,show i<d.size by omega,show i-1<d.size by omega,Option.bind_some,hl,Bool.not_false,av (n:=i) (by omega)]
  ·simp only[h,decide_false,Bool.false_and,Bool.false_eq_true,if_false];refine ay ?_;unfold Ii;simp only[Su,h,decide_false,cond_false]
theorem pi4(k:Int×Int×Int×Int×Unit):∀(j:Nat) (d:Array α) (n:Nat),j<d.size->d.size<=255->j<n->iter (IJ lt k) n (d.toList,(j:Int),())=some (.inl ((shiftDown lt j d).toList,())):=by
 intro j;induction j with
 |zero=>
  intro d n hj hd hn;obtain⟨n,rfl⟩:∃m,n=m+1:=⟨n-1,by omega⟩
  exact ay rfl
 |succ j ih=>
  intro d n hj hd hn;obtain⟨n,rfl⟩:∃m,n=m+1:=⟨n-1,by omega⟩
  have e1:aa .sub .i64 ((j+1:Nat):Int) (1:Int)=(j:Int):=iw (by omega);have g:af .geq ((j+1:Nat):Int) (1:Int)=true:=(Tz (j+1) 1).trans (decide_eq_true (by omega));unfold shiftDown;cases hl:lt d[j+1]! d[j]! with
  |true=>simp only[Bool.not_true,Bool.false_eq_true,if_false];rw[<-ih (swp d (j+1) j) n (by rw[size_swp];omega) (by rw[size_swp];omega) (by omega)];refine aH ?_;unfold IJ;simp only[g,cond_true,e1,QM,gA,S0,hj,show j<d.size by omega,decide_true,Option.bind_some,hl,Bool.not_true,cond_false,To]
  |false=>simp only[Bool.not_false,if_true];refine ay ?_;unfold IJ;simp only[g,cond_true,e1,QM,gA,S0,hj,show j<d.size by omega,decide_true,Option.bind_some,hl,Bool.not_false]
theorem pi6(a b i j:Int)(bn:Nat):∀(k jn:Nat) (d:Array α) (n:Nat),bn-jn<=k->0<jn->jn<=256->bn<=d.size->d.size<=255->k<n->iter (Ij lt (a,(bn:Int),i,j,())) n (d.toList,(jn:Int),())=some (.inl ((shiftUp lt bn jn d).toList,())):=by
 intro k;induction k with
 |zero=>
  intro jn d n hk h0 h1 hb hd hn;obtain⟨n,rfl⟩:∃m,n=m+1:=⟨n-1,by omega⟩
  have h:¬(jn<bn):=by omega
  unfold shiftUp;rw[if_neg h];refine ay ?_;unfold Ij;simp only[Su,h,decide_false,cond_false]
 |succ k ih=>
  intro jn d n hk h0 h1 hb hd hn;obtain⟨n,rfl⟩:∃m,n=m+1:=⟨n-1,by omega⟩
  unfold shiftUp;by_cases h:jn<bn
  ·have e:aa .sub .i64 (jn:Int) 1=((jn-1:Nat):Int):=sS (m:=1) (by omega) (by omega);simp only[h,if_true];cases hl:lt d[jn]! d[jn-1]! with
   |true=>simp only[Bool.not_true,Bool.false_eq_true,if_false];rw[<-ih (jn+1) (swp d jn (jn-1)) n (by omega) (by omega) (by omega) (by rw[size_swp];omega) (by rw[size_swp];omega) (by omega)];refine aH ?_;unfold Ij;simp only[Su,h,decide_true,cond_true,e,QM,gA,S0,show jn<d.size by omega,show jn-1<d.size by omega,Option.bind_some,hl,Bool.not_true,cond_false,To,av (n:=jn) (by omega)]
   |false=>simp only[Bool.not_false,if_true];refine ay ?_;unfold Ij;simp only[Su,h,decide_true,cond_true,e,QM,gA,S0,show jn<d.size by omega,show jn-1<d.size by omega,Option.bind_some,hl,Bool.not_false]
  ·simp only[h,if_false];refine ay ?_;unfold Ij;simp only[Su,h,decide_false,cond_false]
theorem pi0(a b:Nat)(hab:a<b):∀(s:Nat),s<=5->∀(i:Nat) (d:Array α) (n:Nat),a<i->i<=b->b<=d.size->d.size<=255->s<n ->
  ∃q,iter (vp lt ((a:Int),(b:Int),())) n (d.toList,(i:Int),((5-s:Nat):Int),())=some q/\(q=.inl ((partialIns lt a b s i d).1.toList,(partialIns lt a b s i d).2,())\/((partialIns lt a b s i d).2=false/\q=.inr (.inl ((partialIns lt a b s i d).1.toList,())))):=by
 intro s;induction s with
 |zero=>
  intro hs i d n ha hi hb hd hn;obtain⟨n,rfl⟩:∃m,n=m+1:=⟨n-1,by omega⟩
  exact⟨_,ay rfl,.inr ⟨rfl,rfl⟩⟩
 |succ s ih=>
  intro hs i d n ha hi hb hd hn;obtain⟨n,rfl⟩:∃m,n=m+1:=⟨n-1,by omega⟩
  have g5:af .lss ((5-(s+1):Nat):Int) (5:Int)=true:=(Su (5-(s+1)) 5).trans (decide_eq_true (by omega));have e2:Jy lt ((a:Int),(b:Int),((5-(s+1):Nat):Int),()) (d.toList,(i:Int),())=_:=pi2 (lt:=lt) d hd (a:Int) (b:Int) ((5-(s+1):Nat):Int) b hb 256 i big (by omega) (by omega) (by omega) (aT (by omega));have eb:aa .sub .i64 (b:Int) (a:Int)=((b-a:Nat):Int):=sS (by omega) (by omega);have es:aa .add .i64 ((5-(s+1):Nat):Int) 1=((5-s:Nat):Int):=by rw[av (by omega)];congr 1;omega
  obtain⟨h1,h2⟩:=S9 (lt:=lt) d b (b-i) i (Nat.le_refl _);have h2:=h2 hi;unfold partialIns;simp only[];generalize scanSorted lt d b i=i2 at e2 h1 h2⊢;by_cases W1:i2=b
  ·subst W1;rw[if_pos rfl];refine⟨_,ay ?_,.inl rfl⟩;unfold vp;simp only[g5,cond_true,e2,Option.bind_some,Sum.elim_inl,WZ,decide_true]
  ·rw[if_neg W1];by_cases XE:b-a<50
   ·rw[if_pos XE];refine⟨_,ay ?_,.inl rfl⟩;unfold vp;simp only[g5,cond_true,e2,Option.bind_some,Sum.elim_inl,WZ,W1,decide_false,cond_false,eb,show af .lss ((b-a:Nat):Int) (50:Int)=true from(Su (b-a) 50).trans (decide_eq_true XE)]
   ·rw[if_neg XE];have Zm:af .lss ((b-a:Nat):Int) (50:Int)=false:=(Su (b-a) 50).trans (decide_eq_false XE);have em:aa .sub .i64 (i2:Int) 1=((i2-1:Nat):Int):=sS (m:=1) (by omega) (by omega);have ea:aa .sub .i64 (i2:Int) (a:Int)=((i2-a:Nat):Int):=sS (by omega) (by omega);have Zn:aa .sub .i64 (b:Int) (i2:Int)=((b-i2:Nat):Int):=sS (by omega) (by omega);have hsz:(swp d i2 (i2-1)).size=d.size:=size_swp _ _ _;have e4:Jz lt ((a:Int),(b:Int),(i2:Int),((5-(s+1):Nat):Int),()) ((swp d i2 (i2-1)).toList,((i2-1:Nat):Int),())=_:=pi4 (lt:=lt) ((a:Int),(b:Int),(i2:Int),((5-(s+1):Nat):Int),()) (i2-1) (swp d i2 (i2-1)) big (by omega) (by omega) (aT (by omega));have e6:∀d':Array α,d'.size=d.size->I1 lt ((a:Int),(b:Int),(i2:Int),((5-(s+1):Nat):Int),()) (d'.toList,((i2+1:Nat):Int),())=some (.inl ((shiftUp lt b (i2+1) d').toList,())):=fun d' CH=>pi6 (lt:=lt) (a:Int) (b:Int) (i2:Int) ((5-(s+1):Nat):Int) b 256 (i2+1) d' big (by omega) (by omega) (by omega) (by omega) (by omega) (aT (by omega));have Y6:(shiftDown lt (i2-1) (swp d i2 (i2-1))).size=d.size:=by rw[QE,hsz]
    have hf:∀d':Array α,d'.size=d.size->(shiftUp lt b (i2+1) d').size=d.size:=fun d' h=>by rw[TK b b _ _ (by omega),h]
    by_cases hA:i2-a>=2
    ·have YE:af .geq ((i2-a:Nat):Int) (2:Int)=true:=(Tz (i2-a) 2).trans (decide_eq_true hA);by_cases hB:b-i2>=2
     ·have Xl:af .geq ((b-i2:Nat):Int) (2:Int)=true:=(Tz (b-i2) 2).trans (decide_eq_true hB);simp only[hA,hB,if_true];obtain⟨q,hq,lR⟩:=ih (by omega) i2 (shiftUp lt b (i2+1) (shiftDown lt (i2-1) (swp d i2 (i2-1)))) n (by omega) (by omega) (by rw[hf _ Y6];omega) (by rw[hf _ Y6];omega) (by omega);refine⟨q,?_,lR⟩;rw[<-hq];refine aH ?_;unfold vp;simp only[g5,cond_true,e2,Option.bind_some,Sum.elim_inl,WZ,W1,decide_false,cond_false,eb,Zm,em,QM,gA,S0,show i2<d.size by omega,show i2-1<d.size by omega,decide_true,To,ea,YE,e4,Zn,Xl,av (n:=i2) (by omega),e6 _ Y6,es]
     ·have Xl:af .geq ((b-i2:Nat):Int) (2:Int)=false:=(Tz (b-i2) 2).trans (decide_eq_false hB);simp only[hA,hB,if_true,if_false];obtain⟨q,hq,lR⟩:=ih (by omega) i2 (shiftDown lt (i2-1) (swp d i2 (i2-1))) n (by omega) (by omega) (by rw[Y6];omega) (by rw[Y6];omega) (by omega);refine⟨q,?_,lR⟩;rw[<-hq];refine aH ?_;unfold vp;simp only[g5,cond_true,e2,Option.bind_some,Sum.elim_inl,WZ,W1,decide_false,cond_false,eb,Zm,em,QM,gA,S0,show i2<d.size by omega,show i2-1<d.size by omega,decide_true,To,ea,YE,e4,Zn,Xl,es]
    ·have YE:af .geq ((i2-a:Nat):Int) (2:Int)=false:=(Tz (i2-a) 2).trans (decide_eq_false hA);by_cases hB:b-i2>=2
     ·have Xl:af .geq ((b-i2:Nat):Int) (2:Int)=true:=(Tz (b-i2) 2).trans (decide_eq_true hB);simp only[hA,hB,if_true,if_false];obtain⟨q,hq,lR⟩:=ih (by omega) i2 (shiftUp lt b (i2+1) (swp d i2 (i2-1))) n (by omega) (by omega) (by rw[hf _ hsz];omega) (by rw[hf _ hsz];omega) (by omega);refine⟨q,?_,lR⟩;rw[<-hq];refine aH ?_;unfold vp;simp only[g5,cond_true,e2,Option.bind_some,Sum.elim_inl,WZ,W1,decide_false,cond_false,eb,Zm,em,QM,gA,S0,show i2<d.size by omega,show i2-1<d.size by omega,decide_true,To,ea,YE,Zn,Xl,av (n:=i2) (by omega),e6 _ hsz,es]
     ·have Xl:af .geq ((b-i2:Nat):Int) (2:Int)=false:=(Tz (b-i2) 2).trans (decide_eq_false hB);simp only[hA,hB,if_false];obtain⟨q,hq,lR⟩:=ih (by omega) i2 (swp d i2 (i2-1)) n (by omega) (by omega) (by rw[hsz];omega) (by rw[hsz];omega) (by omega);refine⟨q,?_,lR⟩;rw[<-hq];refine aH ?_;unfold vp;simp only[g5,cond_true,e2,Option.bind_some,Sum.elim_inl,WZ,W1,decide_false,cond_false,eb,Zm,em,QM,gA,S0,show i2<d.size by omega,show i2-1<d.size by omega,decide_true,To,ea,YE,Zn,Xl,es]
theorem UB(d:Array α)(a b:Nat)(hab:a<b)(hb:b<=d.size)(hd:d.size<=255):Ik lt d.toList (a:Int) (b:Int)=some ((partialInsertionSort lt d a b).2,(partialInsertionSort lt d a b).1.toList,()):=by
 unfold Ik Jx partialInsertionSort;obtain⟨q,hq,rfl|⟨h2,rfl⟩⟩:=pi0 (lt:=lt) a b hab 5 (Nat.le_refl _) (a+1) d big (by omega) (by omega) hb hd (aT (by omega))
 ·rw[av (n:=a) (by omega)];rw[show(0:Int)=((5-5:Nat):Int)from rfl,hq];rfl
 ·rw[av (n:=a) (by omega)];rw[show(0:Int)=((5-5:Nat):Int)from rfl,hq,h2];rfl
theorem We(a b:Nat):∀(k i j:Nat) (d:Array α) (n:Nat),j-i<=k->a<=i->j<b->b<=d.size->d.size<=255->i<=300->k<n->∃d',iter (Jk lt ()) n (d.toList,(i:Int),(j:Int),())=some (.inl (d'.toList,()))/\PermIn a b d d':=by
 intro k;induction k with
 |zero=>
  intro i j d n hk ha hj hb hd hi hn;obtain⟨n,rfl⟩:∃m,n=m+1:=⟨n-1,by omega⟩
  refine⟨d,ay ?_,permIn_refl d a b⟩;unfold Jk;simp only[Su,show ¬(i<j)by omega,decide_false,cond_false]
 |succ k ih=>
  intro i j d n hk ha hj hb hd hi hn;obtain⟨n,rfl⟩:∃m,n=m+1:=⟨n-1,by omega⟩
  by_cases h:i<j
  ·obtain⟨d',h1,h2⟩:=ih (i+1) (j-1) (swp d i j) n (by omega) (by omega) (by omega) (by rw[size_swp];omega) (by rw[size_swp];omega) (by omega) (by omega);refine⟨d',?_,permIn_trans _ _ _ a b (swp_permIn d a b i j ha (by omega) (by omega) hj hb) h2⟩;rw[<-h1];refine aH ?_;have e:aa .sub .i64 (j:Int) 1=((j-1:Nat):Int):=sS (m:=1) (by omega) (by omega);unfold Jk;simp only[Su,h,decide_true,cond_true,QM,gA,S0,show i<d.size by omega,show j<d.size by omega,To,e,av (n:=i) (by omega)]
  ·refine⟨d,ay ?_,permIn_refl d a b⟩;unfold Jk;simp only[Su,h,decide_false,cond_false]
theorem UH(d:Array α)(a b:Nat)(hab:a<b)(hb:b<=d.size)(hd:d.size<=255):∃d',J1 lt d.toList (a:Int) (b:Int)=some (d'.toList,())/\PermIn a b d d':=by obtain⟨d',h1,h2⟩:=We (lt:=lt) a b 256 a (b-1) d big (by omega) (Nat.le_refl _) (by omega) hb hd (by omega) (aT (by omega));refine⟨d',?_,h2⟩;have e:aa .sub .i64 (b:Int) 1=((b-1:Nat):Int):=sS (m:=1) (by omega) (by omega);unfold J1 Kv;rw[e,h1];rfl
theorem KJ(d:Array α)(a b:Nat)(s:Int)(ha:a<d.size)(hb:b<d.size):∃s',M4 lt d.toList (a:Int) (b:Int) s=some ((a:Int),(b:Int),s',())\/M4 lt d.toList (a:Int) (b:Int) s=some ((b:Int),(a:Int),s',()):=by
 unfold M4;simp only[QM,gA,ha,hb,decide_true,cond_true,Option.bind_some];cases lt d[b]! d[a]!
 ·exact⟨_,.inl rfl⟩
 ·exact⟨_,.inr rfl⟩
theorem QH(d:Array α)(a b c:Nat)(s:Int)(ha:a<d.size)(hb:b<d.size)(hc:c<d.size):∃(m:Nat) (s':Int),Od lt d.toList (a:Int) (b:Int) (c:Int) s=some ((m:Int),s',())/\(m=a\/m=b\/m=c):=by
 unfold Od;obtain⟨s1,h1|h1⟩:=KJ (lt:=lt) d a b s ha hb
 ·obtain⟨s2,h2|h2⟩:=KJ (lt:=lt) d b c s1 hb hc
  ·obtain⟨s3,h3|h3⟩:=KJ (lt:=lt) d a b s2 ha hb
   ·exact⟨b,s3,by simp only[h1,h2,h3,Option.bind_some],.inr (.inl rfl)⟩
   ·exact⟨a,s3,by simp only[h1,h2,h3,Option.bind_some],.inl rfl⟩
  ·obtain⟨s3,h3|h3⟩:=KJ (lt:=lt) d a c s2 ha hc
   ·exact⟨c,s3,by simp only[h1,h2,h3,Option.bind_some],.inr (.inr rfl)⟩
   ·exact⟨a,s3,by simp only[h1,h2,h3,Option.bind_some],.inl rfl⟩
 ·obtain⟨s2,h2|h2⟩:=KJ (lt:=lt) d a c s1 ha hc
  ·obtain⟨s3,h3|h3⟩:=KJ (lt:=lt) d b a s2 hb ha
   ·exact⟨a,s3,by simp only[h1,h2,h3,Option.bind_some],.inl rfl⟩
   ·exact⟨b,s3,by simp only[h1,h2,h3,Option.bind_some],.inr (.inl rfl)⟩
  ·obtain⟨s3,h3|h3⟩:=KJ (lt:=lt) d b c s2 hb hc
   ·exact⟨c,s3,by simp only[h1,h2,h3,Option.bind_some],.inr (.inr rfl)⟩
   ·exact⟨b,s3,by simp only[h1,h2,h3,Option.bind_some],.inr (.inl rfl)⟩
theorem SR(d:Array α)(a:Nat)(s:Int)(ha:0<a)(ha2:a+1<d.size)(hd:d.size<=255):∃(m:Nat) (s':Int),JC lt d.toList (a:Int) s=some ((m:Int),s',())/\(m=a-1\/m=a\/m=a+1):=by have e:aa .sub .i64 (a:Int) 1=((a-1:Nat):Int):=sS (m:=1) (by omega) (by omega);obtain⟨m,s',h1,h2⟩:=QH (lt:=lt) d (a-1) a (a+1) s (by omega) (by omega) (by omega);refine⟨m,s',?_,h2⟩;unfold JC;rw[e,av (n:=a) (by omega),h1];rfl
theorem Tk(p c:Int):∃h:Int,(bif (af .eql c (0:Int))then some (p,(1:Int),())else(bif (af .eql c (12:Int))then some (p,(2:Int),())else some (p,(0:Int),())))=some (p,h,()):=by
 cases af .eql c (0:Int)
 ·cases af .eql c (12:Int) <;> exact⟨_,rfl⟩
 ·exact⟨_,rfl⟩
theorem Sk(d:Array α)(a b:Nat)(hab:a+12<b)(hb:b<=d.size)(hd:d.size<=255):∃(p:Nat) (h:Int),Kq lt d.toList (a:Int) (b:Int)=some ((p:Int),h,())/\a<=p/\p<b:=by
 have z:ax (4:Int)=false:=rfl;have e1:aa .sub .i64 (b:Int) (a:Int)=((b-a:Nat):Int):=sS (by omega) (by omega);have g8:af .geq ((b-a:Nat):Int) (8:Int)=true:=(Tz (b-a) 8).trans (decide_eq_true (by omega));have eq:aa .quo .i64 ((b-a:Nat):Int) (4:Int)=(((b-a) / 4:Nat):Int):=qS _ 4 (by omega);have m1:aa .mul .i64 (((b-a) / 4:Nat):Int) (1:Int)=(((b-a) / 4*1:Nat):Int):=mS (m:=1) (by omega);have m2:aa .mul .i64 (((b-a) / 4:Nat):Int) (2:Int)=(((b-a) / 4*2:Nat):Int):=mS (m:=2) (by omega);have m3:aa .mul .i64 (((b-a) / 4:Nat):Int) (3:Int)=(((b-a) / 4*3:Nat):Int):=mS (m:=3) (by omega);have a1:aa .add .i64 (a:Int) (((b-a) / 4*1:Nat):Int)=((a+(b-a) / 4*1:Nat):Int):=aS (by omega);have a2:aa .add .i64 (a:Int) (((b-a) / 4*2:Nat):Int)=((a+(b-a) / 4*2:Nat):Int):=aS (by omega);have a3:aa .add .i64 (a:Int) (((b-a) / 4*3:Nat):Int)=((a+(b-a) / 4*3:Nat):Int):=aS (by omega);unfold Kq;simp only[z,cond_false,e1,g8,cond_true,eq,m1,m2,m3,a1,a2,a3];clear e1 g8 eq m1 m2 m3 a1 a2 a3 z;generalize hc:af .geq ((b-a:Nat):Int) (50:Int)=c;clear hc;cases c with
 |true=>obtain⟨x1,s1,h1,k1⟩:=SR (lt:=lt) d (a+(b-a) / 4*1) (0:Int) (by omega) (by omega) hd;obtain⟨x2,s2,h2,k2⟩:=SR (lt:=lt) d (a+(b-a) / 4*2) s1 (by omega) (by omega) hd;obtain⟨x3,s3,h3,k3⟩:=SR (lt:=lt) d (a+(b-a) / 4*3) s2 (by omega) (by omega) hd;obtain⟨x4,s4,h4,k4⟩:=QH (lt:=lt) d x1 x2 x3 s3 (by omega) (by omega) (by omega);obtain⟨h,hh⟩:=Tk (x4:Int) s4;refine⟨x4,h,?_,by omega,by omega⟩;simp only[cond_true,h1,h2,h3,h4,Option.bind_some];exact hh
 |false=>obtain⟨x4,s4,h4,k4⟩:=QH (lt:=lt) d (a+(b-a) / 4*1) (a+(b-a) / 4*2) (a+(b-a) / 4*3) 0 (by omega) (by omega) (by omega);obtain⟨h,hh⟩:=Tk (x4:Int) s4;refine⟨x4,h,?_,by omega,by omega⟩;simp only[cond_false,h4,Option.bind_some];exact hh
end
end Go.Fn
set_option linter.unusedSimpArgs false
set_option linter.unusedVariables false
namespace Go.Fn
open Go.R Go.Sort
theorem Xv:(List.range 256).all (fun n=>decide (n<8)||(match I4 (n:Int)with|some (m,())=>decide (1<=m/\m<=2*(n:Int))|none=>false))=true:=by decide +kernel
theorem Za{n:Nat}(h8:8<=n)(h:n<=255):∃m:Nat,I4 (n:Int)=some ((m:Int),())/\1<=m/\m<=2*n:=by
 have h1:=List.all_eq_true.1 Xv n (List.mem_range.2 (by omega));rw[decide_eq_false (by omega:¬n<8),Bool.false_or]at h1;cases hq:I4 (n:Int)with
 |none=>rw[hq]at h1;cases h1
 |some p=>obtain⟨m,u⟩:=p;cases u;rw[hq]at h1;have h2:1<=m/\m<=2*(n:Int):=of_decide_eq_true h1;exact⟨m.toNat,by rw[Int.toNat_of_nonneg (by omega)],by omega,by omega⟩
theorem WE(x:Int):∃v,__slices_xorshift__Next x=some (v,v,()):=⟨_,rfl⟩
theorem Xx{n:Int}(h1:0<=n)(h2:n<18446744073709551616):IntKind.u64.wrap n=n:=IntWalk.u64_in n ⟨h1,by omega⟩
theorem ZH(x:Int){c:Nat}(hc:c<9223372036854775808):∃r:Nat,aa .and .u64 x (c:Int)=(r:Int)/\r<=c:=by
 have h1:(BitVec.ofInt 64 (c:Int)).toNat=c:=by rw[BitVec.toNat_ofInt];have:((c:Int) % ((2 ^ 64:Nat):Int))=c:=Int.emod_eq_of_lt (by omega) (by omega);rw[this];rfl
 have h2:(BitVec.ofInt 64 x &&& BitVec.ofInt 64 (c:Int)).toNat<=c:=by rw[BitVec.toNat_and,h1];exact Nat.and_le_right
 have e:aa .and .u64 x (c:Int)=IntKind.u64.wrap (((BitVec.ofInt 64 x &&& BitVec.ofInt 64 (c:Int)).toNat:Nat):Int):=rfl;rw[e,Xx (by omega) (by omega)];exact⟨_,rfl,h2⟩
theorem Ze{n:Nat}(h:1<=n)(h2:n<1099511627776):aa .sub .u64 (n:Int) 1=((n-1:Nat):Int):=by have e:aa .sub .u64 (n:Int) 1=IntKind.u64.wrap ((n:Int)-1):=rfl;rw[e,Xx (by omega) (by omega)];omega
theorem WX{n:Nat}(h:n<1099511627776):ak .i64 (n:Int)=(n:Int):=A1 (by omega) (by omega)
section
variable {α:Type} [Inhabited α] {lt:α->α->Bool}
theorem VZ(a len m last:Nat)(b:Nat)(hlen:b=a+len)(h8:8<=len)(CL:1<=m)(CM:m<=2*len)(Va:last=a+len / 4*2+1):
  ∀(k idx:Nat) (r:Int) (d:Array α) (n:Nat),last+1-idx<=k->a<=idx->b<=d.size->d.size<=255->idx<=300->k<n->∃d',iter (IM lt ((a:Int),(len:Int),(m:Int),())) n (d.toList,r,(idx:Int),())=some (.inl (d'.toList,()))/\PermIn a b d d':=by
 have z:ax (4:Int)=false:=rfl;intro k;induction k with
 |zero=>
  intro idx r d n hk ha hb hd hi hn;obtain⟨n,rfl⟩:∃m,n=m+1:=⟨n-1,by omega⟩
  refine⟨d,ay ?_,permIn_refl d a b⟩;have e1:aa .quo .i64 (len:Int) (4:Int)=((len / 4:Nat):Int):=qS _ 4 (by omega);have e2:aa .mul .i64 ((len / 4:Nat):Int) (2:Int)=((len / 4*2:Nat):Int):=mS (m:=2) (by omega);have e3:aa .add .i64 (a:Int) ((len / 4*2:Nat):Int)=((a+len / 4*2:Nat):Int):=aS (by omega);unfold IM;simp only[z,cond_false,e1,e2,e3,av (n:=a+len / 4*2) (by omega),Vb,<-Va];rw[decide_eq_false (by omega:¬idx<=last)];rfl
 |succ k ih=>
  intro idx r d n hk ha hb hd hi hn;obtain⟨n,rfl⟩:∃m,n=m+1:=⟨n-1,by omega⟩
  have e1:aa .quo .i64 (len:Int) (4:Int)=((len / 4:Nat):Int):=qS _ 4 (by omega);have e2:aa .mul .i64 ((len / 4:Nat):Int) (2:Int)=((len / 4*2:Nat):Int):=mS (m:=2) (by omega);have e3:aa .add .i64 (a:Int) ((len / 4*2:Nat):Int)=((a+len / 4*2:Nat):Int):=aS (by omega);by_cases h:idx<=last
  ·obtain⟨v,hv⟩:=WE r;obtain⟨w,hw,Dl⟩:=ZH v (c:=m-1) (by omega);have hib:idx<b:=by omega
   by_cases hg:w>=len
   ·have e4:aa .sub .i64 (w:Int) (len:Int)=((w-len:Nat):Int):=sS (by omega) (by omega);have e5:aa .add .i64 (a:Int) ((w-len:Nat):Int)=((a+(w-len):Nat):Int):=aS (by omega);obtain⟨d',h1,h2⟩:=ih (idx+1) v (swp d idx (a+(w-len))) n (by omega) (by omega) (by rw[size_swp];omega) (by rw[size_swp];omega) (by omega) (by omega);refine⟨d',?_,permIn_trans _ _ _ a b (swp_permIn d a b idx (a+(w-len)) ha hib (by omega) (by omega) hb) h2⟩;rw[<-h1];refine aH ?_;unfold IM;simp only[z,cond_false,e1,e2,e3,av (n:=a+len / 4*2) (by omega),Vb,<-Va,h,decide_true,cond_true,hv,Option.bind_some,Ze CL (by omega),hw,WX (n:=w) (by omega),Tz,hg,e4,e5,QM,gA,S0,show a+(w-len)<d.size by omega,show idx<d.size by omega,To,aV,av (n:=idx) (by omega)]
   ·have e5:aa .add .i64 (a:Int) (w:Int)=((a+w:Nat):Int):=aS (by omega);obtain⟨d',h1,h2⟩:=ih (idx+1) v (swp d idx (a+w)) n (by omega) (by omega) (by rw[size_swp];omega) (by rw[size_swp];omega) (by omega) (by omega);refine⟨d',?_,permIn_trans _ _ _ a b (swp_permIn d a b idx (a+w) ha hib (by omega) (by omega) hb) h2⟩;rw[<-h1];refine aH ?_;unfold IM;simp only[z,cond_false,e1,e2,e3,av (n:=a+len / 4*2) (by omega),Vb,<-Va,h,decide_true,cond_true,hv,Option.bind_some,Ze CL (by omega),hw,WX (n:=w) (by omega),Tz,hg,decide_false,e5,QM,gA,S0,show a+w<d.size by omega,show idx<d.size by omega,To,aV,av (n:=idx) (by omega)]
  ·refine⟨d,ay ?_,permIn_refl d a b⟩;unfold IM;simp only[z,cond_false,e1,e2,e3,av (n:=a+len / 4*2) (by omega),Vb,<-Va];rw[decide_eq_false h];rfl
theorem WY{n:Nat}(h:n<1099511627776):ak .u64 (n:Int)=(n:Int):=Xx (by omega) (by omega)
theorem U0(d:Array α)(a b:Nat)(hab:a+12<b)(hb:b<=d.size)(hd:d.size<=255):∃d',Km lt d.toList (a:Int) (b:Int)=some (d'.toList,())/\PermIn a b d d':=by have z:ax (4:Int)=false:=rfl;obtain⟨m,hm,CL,CM⟩:=Za (n:=b-a) (by omega) (by omega);obtain⟨d',h1,h2⟩:=VZ (lt:=lt) a (b-a) m (a+(b-a) / 4*2+1) b (by omega) (by omega) CL CM rfl 256 (a+(b-a) / 4*2-1) ((b-a:Nat):Int) d big (by omega) (by omega) hb hd (by omega) (aT (by omega));refine⟨d',?_,h2⟩;have e1:aa .sub .i64 (b:Int) (a:Int)=((b-a:Nat):Int):=sS (by omega) (by omega);have g8:af .geq ((b-a:Nat):Int) (8:Int)=true:=(Tz (b-a) 8).trans (decide_eq_true (by omega));have eq:aa .quo .i64 ((b-a:Nat):Int) (4:Int)=(((b-a) / 4:Nat):Int):=qS _ 4 (by omega);have m2:aa .mul .i64 (((b-a) / 4:Nat):Int) (2:Int)=(((b-a) / 4*2:Nat):Int):=mS (m:=2) (by omega);have a2:aa .add .i64 (a:Int) (((b-a) / 4*2:Nat):Int)=((a+(b-a) / 4*2:Nat):Int):=aS (by omega);have s2:aa .sub .i64 ((a+(b-a) / 4*2:Nat):Int) 1=((a+(b-a) / 4*2-1:Nat):Int):=sS (m:=1) (by omega) (by omega);unfold Km Ka;simp only[e1,g8,cond_true,hm,Option.bind_some,z,cond_false,eq,m2,a2,s2,WY (n:=b-a) (by omega),h1,Sum.elim_inl]
abbrev VW(α:Type):=Option (((List α)×Int×Int×Int×Bool×Bool×Unit)⊕((List α)×Unit⊕Empty))
noncomputable def Te(lt:α->α->Bool)(rec:(List α)->Int->Int->Int->Option ((List α)×Unit))(M:Nat):Prop:=∀(d:Array α) (a b:Nat) (L:Int),b-a<M->a<=b->b<=d.size->d.size<=255->Below lt a b d->∃d',rec d.toList (a:Int) (b:Int) L=some (d'.toList,())/\PermIn a b d d'/\SortedIn lt a b d'
noncomputable def Next(lt:α->α->Bool)(q:VW α)(d:Array α)(a b:Nat):Prop:=
 (∃R,q=some (.inr (.inl (R.toList,())))/\PermIn a b d R/\SortedIn lt a b R) \/
 (∃(E:Array α) (a' b':Nat) (L:Int) (wb wp:Bool),q=some (.inl (E.toList,(a':Int),(b':Int),L,wb,wp,()))/\E.size=d.size/\a'<=b'/\b'<=b/\b'-a'<b-a/\Below lt a' b' E/\∀R,PermIn a' b' E R->SortedIn lt a' b' R->PermIn a b d R/\SortedIn lt a b R)
theorem Next.mono{q:VW α}{d D:Array α}{a b:Nat}(h:Next lt q D a b)(p:PermIn a b d D):Next lt q d a b:=by
 rcases h with ⟨R,h1,h2,h3⟩|⟨E,a',b',L,wb,wp,h1,h2,h3,h4,h5,h6,h7⟩
 ·exact .inl ⟨R,h1,permIn_trans _ _ _ a b p h2,h3⟩
 ·refine .inr ⟨E,a',b',L,wb,wp,h1,by rw[h2,p.1],h3,h4,h5,h6,fun R hR hs=>?_⟩;obtain⟨k1,k2⟩:=h7 R hR hs;exact⟨permIn_trans _ _ _ a b p k1,k2⟩
noncomputable def Oe(lt:α->α->Bool)(rec:(List α)->Int->Int->Int->Option ((List α)×Unit))(a b L:Int)(D:List α)(P:Int):VW α:=((me lt D a b P).bind fun y1=>(bif (ax (8:Int))then none else(bif (af .lss (aa .sub .i64 y1.1 a) (aa .sub .i64 b y1.1))then((rec y1.2.2.1 a y1.1 L).bind fun y2=>some (.inl (y2.1,(aa .add .i64 y1.1 (1:Int)),b,L,(af .geq (aa .sub .i64 y1.1 a) (aa .quo .i64 (aa .sub .i64 b a) (8:Int))),y1.2.1,())))else((rec y1.2.2.1 (aa .add .i64 y1.1 (1:Int)) b L).bind fun y2=>some (.inl (y2.1,a,y1.1,L,(af .geq (aa .sub .i64 b y1.1) (aa .quo .i64 (aa .sub .i64 b a) (8:Int))),y1.2.1,()))))))
noncomputable def Po(lt:α->α->Bool)(rec:(List α)->Int->Int->Int->Option ((List α)×Unit))(a b L:Int)(wb wp:Bool)(D:List α)(P:Int):VW α:=(bif (af .gtr a (0:Int))then(bif (ah D (aa .sub .i64 a (1:Int)))then(bif (ah D P)then((some (lt (ae default D (aa .sub .i64 a (1:Int))) (ae default D P),())).bind fun y1=>(bif (Bool.not y1.1)then((n6 lt D a b P).bind fun y2=>some (.inl (y2.2.1,y2.1,b,L,wb,wp,())))else Oe lt rec a b L D P))else none)else none)else Oe lt rec a b L D P)
theorem WH(h:SWO lt){rec:(List α)->Int->Int->Int->Option ((List α)×Unit)}{M:Nat}(fY:Te lt rec M)(D:Array α)(a b p:Nat)(L:Int)(hab:a<b)(hb:b<=D.size)(hd:D.size<=255)(hB:Below lt a b D)(hp1:a<=p)(hp2:p<b)(hM:b-a<=M):
  Next lt (Oe lt rec (a:Int) (b:Int) L D.toList (p:Int)) D a b:=by
 have z:ax (8:Int)=false:=rfl;have Sq:=Wg (lt:=lt) D a b p hab hb hd (by omega);have W3:=round_part h (partition_holds lt) hp1 hp2 hb hB (mid:=(partition lt D a b p).1) (ap:=(partition lt D a b p).2.1) (d4:=(partition lt D a b p).2.2) rfl;generalize (partition lt D a b p).1=mid at Sq W3;generalize (partition lt D a b p).2.1=ap at Sq W3;generalize (partition lt D a b p).2.2=d4 at Sq W3;obtain⟨g1,g2,Zu,hBa,hBr,hleft,hright⟩:=W3;unfold Oe;have e1:aa .sub .i64 (mid:Int) (a:Int)=((mid-a:Nat):Int):=sS (by omega) (by omega);have e2:aa .sub .i64 (b:Int) (mid:Int)=((b-mid:Nat):Int):=sS (by omega) (by omega);have e3:aa .add .i64 (mid:Int) 1=((mid+1:Nat):Int):=av (by omega);simp only[Sq,Option.bind_some,z,cond_false,e1,e2,e3,Su];by_cases hlt:mid-a<b-mid
 ·obtain⟨L1,hL,l1,l2⟩:=fY d4 a mid L (by omega) g1 (by omega) (by omega) hBa;obtain⟨hBL,gO⟩:=hleft L1 l1 l2;simp only[hlt,decide_true,cond_true,hL,Option.bind_some];exact .inr ⟨L1,mid+1,b,_,_,_,rfl,by rw[l1.1,Zu],by omega,Nat.le_refl _,by omega,hBL,gO⟩
 ·obtain⟨L1,hL,l1,l2⟩:=fY d4 (mid+1) b L (by omega) (by omega) (by omega) (by omega) hBr;obtain⟨hBL,gO⟩:=hright L1 l1 l2;simp only[hlt,decide_false,cond_false,hL,Option.bind_some];exact .inr ⟨L1,a,mid,_,_,_,rfl,by rw[l1.1,Zu],by omega,by omega,by omega,hBL,gO⟩
theorem QS(h:SWO lt){rec:(List α)->Int->Int->Int->Option ((List α)×Unit)}{M:Nat}(fY:Te lt rec M)(D:Array α)(a b p:Nat)(L:Int)(wb wp:Bool)(hab:a<b)(hb:b<=D.size)(hd:D.size<=255)(hB:Below lt a b D)(hp1:a<=p)(hp2:p<b)(hM:b-a<=M):
  Next lt (Po lt rec (a:Int) (b:Int) L wb wp D.toList (p:Int)) D a b:=by
 have pI:=WH h fY D a b p L hab hb hd hB hp1 hp2 hM;unfold Po;by_cases h0:a>0
 ·have g0:af .gtr (a:Int) (0:Int)=true:=(U9 a 0).trans (decide_eq_true h0);have e1:aa .sub .i64 (a:Int) 1=((a-1:Nat):Int):=sS (m:=1) (by omega) (by omega);simp only[g0,cond_true,e1,QM,gA,show a-1<D.size by omega,show p<D.size by omega,decide_true,Option.bind_some];cases hl:lt D[a-1]! D[p]! with
  |true=>exact pI
  |false=>have Sq:=UY (lt:=lt) D a b p hab hb hd (by omega);have W3:=round_eq h (partitionEqual_holds lt) h0 hp1 hp2 hb hB hl (mid:=(partitionEqual lt D a b p).1) (d4:=(partitionEqual lt D a b p).2) rfl;generalize (partitionEqual lt D a b p).1=mid at Sq W3;generalize (partitionEqual lt D a b p).2=d4 at Sq W3;obtain⟨CL,CM,Zu,hB4,gO⟩:=W3;simp only[Bool.not_false,cond_true,Sq,Option.bind_some];exact .inr ⟨d4,mid,b,_,_,_,rfl,Zu,CM,Nat.le_refl _,by omega,hB4,gO⟩
 ·have g0:af .gtr (a:Int) (0:Int)=false:=(U9 a 0).trans (decide_eq_false h0);simp only[g0,cond_false];exact pI
noncomputable def U8(lt:α->α->Bool)(rec:(List α)->Int->Int->Int->Option ((List α)×Unit))(a b L:Int)(wb wp:Bool)(D:List α)(P:Int):VW α:=((Ik lt D a b).bind fun y3=>(bif y3.1 then some (.inr (.inl (y3.2.1,())))else Po lt rec a b L wb wp y3.2.1 P))
theorem V9(h:SWO lt){rec:(List α)->Int->Int->Int->Option ((List α)×Unit)}{M:Nat}(fY:Te lt rec M)(D:Array α)(a b p:Nat)(L:Int)(wb wp:Bool)(hab:a<b)(hb:b<=D.size)(hd:D.size<=255)(hB:Below lt a b D)(hp1:a<=p)(hp2:p<b)(hM:b-a<=M):
  Next lt (U8 lt rec (a:Int) (b:Int) L wb wp D.toList (p:Int)) D a b:=by
 have Sq:=UB (lt:=lt) D a b hab hb hd;obtain⟨k1,k2⟩:=partialInsertionSort_holds h D a b hab hb hB;unfold U8;generalize (partialInsertionSort lt D a b).1=D3 at Sq k1 k2;generalize (partialInsertionSort lt D a b).2=fl at Sq k1 k2;simp only[Sq,Option.bind_some];cases fl with
 |true=>exact .inl ⟨D3,rfl,k1,k2 rfl⟩
 |false=>exact(QS h fY D3 a b p L wb wp hab (by rw[k1.1];exact hb) (by rw[k1.1];exact hd) (hB.perm hb k1) hp1 hp2 hM).mono k1
theorem Uz(h:SWO lt){rec:(List α)->Int->Int->Int->Option ((List α)×Unit)}{M:Nat}(fY:Te lt rec M)(d:Array α)(a b:Nat)(L:Int)(wb wp:Bool)(hab:a<=b)(hb:b<=d.size)(hd:d.size<=255)(hB:Below lt a b d)(hM:b-a<=M):
  Next lt (IL lt rec () (d.toList,(a:Int),(b:Int),L,wb,wp,())) d a b:=by
 have e1:aa .sub .i64 (b:Int) (a:Int)=((b-a:Nat):Int):=sS (by omega) (by omega);have eb:aa .sub .i64 (b:Int) 1=((b-1:Nat):Int)\/b=0:=by
  by_cases h0:b=0
  ·exact .inr h0
  ·exact .inl (sS (m:=1) (by omega) (by omega))
 by_cases Zp:b-a<=12
 ·have g:af .leq ((b-a:Nat):Int) (12:Int)=true:=(Vb (b-a) 12).trans (decide_eq_true Zp);unfold IL;simp only[e1,g,cond_true,WK (lt:=lt) d a b hab hb hd,Option.bind_some];have:=insertionSort_holds h d a b hab hb;exact .inl ⟨_,rfl,this.1,this.2⟩
 ·have g:af .leq ((b-a:Nat):Int) (12:Int)=false:=(Vb (b-a) 12).trans (decide_eq_false Zp);cases hL:af .eql L (0:Int)with
  |true=>unfold IL;simp only[e1,g,cond_false,hL,cond_true,Wf (lt:=lt) d a b (by omega) hb hd,Option.bind_some];have:=heapSort_holds h d a b hab hb;exact .inl ⟨_,rfl,this.1,this.2⟩
  |false=>
   have eb:=eb.resolve_right (by omega);have ZI:∀p:Nat,a<=p->p<b->aa .sub .i64 ((b-1:Nat):Int) (aa .sub .i64 (p:Int) (a:Int))=(((b-1)-(p-a):Nat):Int):=by intro p h1 h2;rw[sS (n:=p) (m:=a) h1 (by omega),sS (by omega) (by omega)]
   cases wb with
   |false=>
    obtain⟨d1,hbr,p1⟩:=U0 (lt:=lt) d a b (by omega) hb hd;have b1:b<=d1.size:=by rw[p1.1];exact hb
    have s1:d1.size<=255:=by rw[p1.1];exact hd
    have B1:=hB.perm hb p1;obtain⟨p,hh,hch,hp1,hp2⟩:=Sk (lt:=lt) d1 a b (by omega) b1 s1;cases rM:af .eql hh (2:Int)with
    |true=>obtain⟨d2,BD,p2⟩:=UH (lt:=lt) d1 a b (by omega) b1 s1;have:=(QS h fY d2 a b ((b-1)-(p-a)) (aa .sub .i64 L 1) false wp (by omega) (by rw[p2.1];exact b1) (by rw[p2.1];exact s1) (B1.perm b1 p2) (by omega) (by omega) hM).mono (permIn_trans _ _ _ a b p1 p2);unfold IL;simp only[e1,g,cond_false,hL,Bool.not_false,cond_true,hbr,Option.bind_some,hch,rM,BD,eb,ZI p hp1 hp2];simp only[Po,Oe,e1,Option.bind_some]at this;exact this
    |false=>have:=(QS h fY d1 a b p (aa .sub .i64 L 1) false wp (by omega) b1 s1 B1 hp1 hp2 hM).mono p1;unfold IL;simp only[e1,g,cond_false,hL,Bool.not_false,cond_true,hbr,Option.bind_some,hch,rM];simp only[Po,Oe,e1,Option.bind_some]at this;exact this
   |true=>
    obtain⟨p,hh,hch,hp1,hp2⟩:=Sk (lt:=lt) d a b (by omega) hb hd;cases rM:af .eql hh (2:Int)with
    |true=>
     obtain⟨d2,BD,p2⟩:=UH (lt:=lt) d a b (by omega) hb hd;have yP:b<=d2.size:=by rw[p2.1];exact hb
     have tq:d2.size<=255:=by rw[p2.1];exact hd
     cases wp with
     |true=>have:=(V9 h fY d2 a b ((b-1)-(p-a)) L true true (by omega) yP tq (hB.perm hb p2) (by omega) (by omega) hM).mono p2;unfold IL;simp only[e1,g,cond_false,hL,Bool.not_true,cond_true,Option.bind_some,hch,rM,BD,eb,ZI p hp1 hp2,show af .eql (1:Int) (1:Int)=true from rfl];simp only[U8,Po,Oe,e1,Option.bind_some]at this;exact this
     |false=>have:=(QS h fY d2 a b ((b-1)-(p-a)) L true false (by omega) yP tq (hB.perm hb p2) (by omega) (by omega) hM).mono p2;unfold IL;simp only[e1,g,cond_false,hL,Bool.not_true,cond_true,Option.bind_some,hch,rM,BD,eb,ZI p hp1 hp2];simp only[Po,Oe,e1,Option.bind_some]at this;exact this
    |false=>
     cases wp with
     |true=>
      cases BC:af .eql hh (1:Int)with
      |true=>have:=V9 h fY d a b p L true true (by omega) hb hd hB hp1 hp2 hM;unfold IL;simp only[e1,g,cond_false,hL,Bool.not_true,cond_true,Option.bind_some,hch,rM,BC];simp only[U8,Po,Oe,e1,Option.bind_some]at this;exact this
      |false=>have:=QS h fY d a b p L true true (by omega) hb hd hB hp1 hp2 hM;unfold IL;simp only[e1,g,cond_false,hL,Bool.not_true,cond_true,Option.bind_some,hch,rM,BC];simp only[Po,Oe,e1,Option.bind_some]at this;exact this
     |false=>have:=QS h fY d a b p L true false (by omega) hb hd hB hp1 hp2 hM;unfold IL;simp only[e1,g,cond_false,hL,Bool.not_true,cond_true,Option.bind_some,hch,rM];simp only[Po,Oe,e1,Option.bind_some]at this;exact this
theorem Wd(h:SWO lt){rec:(List α)->Int->Int->Int->Option ((List α)×Unit)}{M:Nat}(fY:Te lt rec M):∀(k:Nat) (d:Array α) (a b:Nat) (L:Int) (wb wp:Bool) (n:Nat),b-a<=k->b-a<=M->k<n->a<=b->b<=d.size->d.size<=255->Below lt a b d ->
  ∃d',iter (IL lt rec ()) n (d.toList,(a:Int),(b:Int),L,wb,wp,())=some (.inl (d'.toList,()))/\PermIn a b d d'/\SortedIn lt a b d':=by
 intro k;induction k with
 |zero=>
  intro d a b L wb wp n hk hM hn hab hb hd hB;obtain⟨n,rfl⟩:∃m,n=m+1:=⟨n-1,by omega⟩
  rcases Uz h fY d a b L wb wp hab hb hd hB hM with ⟨R,h1,h2,h3⟩|⟨E,a',b',L',wb',wp',h1,h2,h3,h4,h5,h6,h7⟩
  ·exact⟨R,ay h1,h2,h3⟩
  ·omega
 |succ k ih=>
  intro d a b L wb wp n hk hM hn hab hb hd hB;obtain⟨n,rfl⟩:∃m,n=m+1:=⟨n-1,by omega⟩
  rcases Uz h fY d a b L wb wp hab hb hd hB hM with ⟨R,h1,h2,h3⟩|⟨E,a',b',L',wb',wp',h1,h2,h3,h4,h5,h6,h7⟩
  ·exact⟨R,ay h1,h2,h3⟩
  ·obtain⟨d',k1,k2,k3⟩:=ih E a' b' L' wb' wp' n (by omega) (by omega) (by omega) h3 (by omega) (by omega) h6;exact⟨d',by rw[aH h1];exact k1,h7 d' k2 k3⟩
theorem Zc(h:SWO lt):∀F,Te lt (Lw lt F) F:=by
 intro F;induction F with
 |zero=>intro d a b L hF;omega
 |succ F ih=>intro d a b L hF hab hb hd hB;obtain⟨d',h1,h2,h3⟩:=Wd h ih 256 d a b L true true big (by omega) (by omega) (aT (by omega)) hab hb hd hB;refine⟨d',?_,h2,h3⟩;unfold Lw OX NG;rw[h1];rfl
theorem WI(h:SWO lt)(l:List α)(L:Int)(hl:l.length<=255):∃r:List α,RQ lt l (0:Int) (l.length:Int) L=some (r,())/\r.Perm l/\∀i j,i<j->j<r.length->lt (r.getD j default) (r.getD i default)=false:=by
 obtain⟨d',h1,h2,h3⟩:=Zc h big l.toArray 0 l.length L (aT (by omega)) (by omega) (by simp) (by simpa using hl) (.inl rfl);have hsz:d'.size=l.length:=by rw[h2.1];simp
 refine⟨d'.toList,h1,?_,fun i j hij hj=>?_⟩
 ·have:=h2.2.2;rw[show d'.extract 0 l.length=d' by rw[<-hsz];exact Array.extract_size,show l.toArray.extract 0 l.length=l.toArray by rw[show l.length=l.toArray.size by simp];exact Array.extract_size]at this;exact this
 ·have:=h3 i j (by omega) hij (by rw[Array.length_toList]at hj;omega);rw[<-gA,<-gA,aq,aq]at this;exact this
end
end Go.Fn
set_option linter.unusedSimpArgs false
set_option linter.unusedVariables false
namespace Go.Fn
open Go.R Go.Sort
noncomputable def JV(x y:Ev):Bool:=decide (x.1<y.1)||(decide (x.1=y.1)&&decide (x.2.1<y.2.1))
noncomputable def Wr(x y:Ev):Int:=bif JV x y then -1 else bif JV y x then 1 else 0
theorem u0(x y:Ev):af .lss (Wr x y) (0:Int)=JV x y:=by unfold Wr;cases JV x y <;> cases JV y x <;> rfl
noncomputable def Xw(a b:Int):Int:=bif decide (a<b)then -1 else bif decide (b<a)then 1 else 0
theorem compare_eq(a b:Int):JZ a b=some (Xw a b,()):=by unfold JZ LC Xw;simp only[IR,Option.bind_some,cond_false];simp only[af,gt_iff_lt];cases decide (a<b) <;> cases decide (b<a) <;> rfl
theorem or_eq(a b:Int):OU [a,b]=some ((bif decide (a=0)then b else a),()):=by
 unfold OU Ob;have hb:∀n:Nat,n<2->J0 ((0:Int),[a,b],ai [a,b],()) ((n:Int),())=some (bif decide (([a,b].getD n 0)=0)then .inl (((n+1:Nat):Int),())else .inr (.inl ([a,b].getD n 0,()))):=by
  intro n hn;unfold J0;simp only[aj,az,aq,show n < [a,b].length from hn,decide_true,cond_true,av (n:=n) (by omega),zI];by_cases h:[a,b].getD n 0=0
  ·rw[h];rfl
  ·rw[show af .neq ([a,b].getD n 0) (0:Int)=true from by simpa[af] using h,decide_eq_false h];rfl
 by_cases ha:a=0
 ·by_cases hb0:b=0
  ·have e:iter (J0 ((0:Int),[a,b],ai [a,b],())) 3 ((0:Int),())=some (.inr (.inl ())):=by
    rw[aH (y:=(((1:Nat):Int),())) (by simpa[ha] using hb 0 (by omega)),aH (y:=(((2:Nat):Int),())) (by simpa[hb0] using hb 1 (by omega))];exact ay rfl
   rw[bF e (by unfold big;omega),ha,hb0];rfl
  ·have e:iter (J0 ((0:Int),[a,b],ai [a,b],())) 2 ((0:Int),())=some (.inl (b,())):=by
    rw[aH (y:=(((1:Nat):Int),())) (by simpa[ha] using hb 0 (by omega))];exact ay (by simpa[hb0] using hb 1 (by omega))
   rw[bF e (by unfold big;omega),ha];rfl
 ·have e:iter (J0 ((0:Int),[a,b],ai [a,b],())) 1 ((0:Int),())=some (.inl (a,())):=ay (by simpa[ha] using hb 0 (by omega));rw[bF e (by unfold big;omega)];simp[ha]
theorem H9(x y:Ev):ey x.1 x.2.1 x.2.2.1 x.2.2.2.1 x.2.2.2.2.1 x.2.2.2.2.2.1 x.2.2.2.2.2.2 y.1 y.2.1 y.2.2.1 y.2.2.2.1 y.2.2.2.2.1 y.2.2.2.2.2.1 y.2.2.2.2.2.2=some (Wr x y,()):=by
 unfold ey;simp only[compare_eq,Option.bind_some];rw[show(List.append (α:=Int) (List.append (α:=Int) ([]:List Int) [Xw x.1 y.1]) [Xw x.2.1 y.2.1])=[Xw x.1 y.1,Xw x.2.1 y.2.1]from rfl,or_eq];simp only[Option.bind_some];congr 2;unfold Wr JV Xw;by_cases h1:x.1<y.1
 ·simp[h1]
 ·by_cases h2:y.1<x.1
  ·have h3:¬(x.1=y.1):=by omega
   simp[h1,h2,h3]
  ·have h3:x.1=y.1:=by omega
   by_cases h4:x.2.1<y.2.1
   ·simp[h3,h4]
   ·by_cases h5:y.2.1<x.2.1
    ·simp[h3,h4,h5]
    ·simp[h3,h4,h5]
theorem cc:xn=IP (JV):=by
 funext;unfold xn IP;try simp only[H9,u0,Option.bind_some]
 try rfl
theorem cn:n5=Kc (JV):=by
 funext;unfold n5 Kc;try simp only[H9,u0,Option.bind_some,cc]
 try rfl
theorem cv:xl=Jb (JV):=by
 funext;unfold xl Jb;try simp only[H9,u0,Option.bind_some,cc,cn]
 try rfl
theorem cx:n4=Kb (JV):=by
 funext;unfold n4 Kb;try simp only[H9,u0,Option.bind_some,cc,cn,cv]
 try rfl
theorem ei:qB=Kn (JV):=by
 funext;unfold qB Kn;try simp only[H9,u0,Option.bind_some,cc,cn,cv,cx]
 try rfl
theorem gg:HY=IU (JV):=by
 funext;unfold HY IU;try simp only[H9,u0,Option.bind_some,cc,cn,cv,cx,ei]
 try rfl
theorem gm:sL=MQ (JV):=by
 funext;unfold sL MQ;try simp only[H9,u0,Option.bind_some,cc,cn,cv,cx,ei,gg]
 try rfl
theorem kv:m0=Mt (JV):=by
 funext;unfold m0 Mt;try simp only[H9,u0,Option.bind_some,cc,cn,cv,cx,ei,gg,gm]
 try rfl
theorem gI:Ex=Kr (JV):=by
 funext;unfold Ex Kr;try simp only[H9,u0,Option.bind_some,cc,cn,cv,cx,ei,gg,gm,kv]
 try rfl
theorem g4:r6=MO (JV):=by
 funext;unfold r6 MO;try simp only[H9,u0,Option.bind_some,cc,cn,cv,cx,ei,gg,gm,kv,gI]
 try rfl
theorem g7:FI=Ks (JV):=by
 funext;unfold FI Ks;try simp only[H9,u0,Option.bind_some,cc,cn,cv,cx,ei,gg,gm,kv,gI,g4]
 try rfl
theorem hD:r7=MP (JV):=by
 funext;unfold r7 MP;try simp only[H9,u0,Option.bind_some,cc,cn,cv,cx,ei,gg,gm,kv,gI,g4,g7]
 try rfl
theorem mu:ve=Oc (JV):=by
 funext;unfold ve Oc;try simp only[H9,u0,Option.bind_some,cc,cn,cv,cx,ei,gg,gm,kv,gI,g4,g7,hD]
 try rfl
theorem eg:xh=IM (JV):=by
 funext;unfold xh IM;try simp only[H9,u0,Option.bind_some,cc,cn,cv,cx,ei,gg,gm,kv,gI,g4,g7,hD,mu]
 try rfl
theorem er:n3=Ka (JV):=by
 funext;unfold n3 Ka;try simp only[H9,u0,Option.bind_some,cc,cn,cv,cx,ei,gg,gm,kv,gI,g4,g7,hD,mu,eg]
 try rfl
theorem gy:qx=Km (JV):=by
 funext;unfold qx Km;try simp only[H9,u0,Option.bind_some,cc,cn,cv,cx,ei,gg,gm,kv,gI,g4,g7,hD,mu,eg,er]
 try rfl
theorem DM:kW=M4 (JV):=by
 funext;unfold kW M4;try simp only[H9,u0,Option.bind_some,cc,cn,cv,cx,ei,gg,gm,kv,gI,g4,g7,hD,mu,eg,er,gy]
 try rfl
theorem H8:kB=Od (JV):=by
 funext;unfold kB Od;try simp only[H9,u0,Option.bind_some,cc,cn,cv,cx,ei,gg,gm,kv,gI,g4,g7,hD,mu,eg,er,gy,DM]
 try rfl
theorem g3:ia=JC (JV):=by
 funext;unfold ia JC;try simp only[H9,u0,Option.bind_some,cc,cn,cv,cx,ei,gg,gm,kv,gI,g4,g7,hD,mu,eg,er,gy,DM,H8]
 try rfl
theorem j0:mm=Kq (JV):=by
 funext;unfold mm Kq;try simp only[H9,u0,Option.bind_some,cc,cn,cv,cx,ei,gg,gm,kv,gI,g4,g7,hD,mu,eg,er,gy,DM,H8,g3]
 try rfl
theorem gw:ye=Jk (JV):=by
 funext;unfold ye Jk;try simp only[H9,u0,Option.bind_some,cc,cn,cv,cx,ei,gg,gm,kv,gI,g4,g7,hD,mu,eg,er,gy,DM,H8,g3,j0]
 try rfl
theorem g6:p4=Kv (JV):=by
 funext;unfold p4 Kv;try simp only[H9,u0,Option.bind_some,cc,cn,cv,cx,ei,gg,gm,kv,gI,g4,g7,hD,mu,eg,er,gy,DM,H8,g3,j0,gw]
 try rfl
theorem ko:k6=J1 (JV):=by
 funext;unfold k6 J1;try simp only[H9,u0,Option.bind_some,cc,cn,cv,cx,ei,gg,gm,kv,gI,g4,g7,hD,mu,eg,er,gy,DM,H8,g3,j0,gw,g6]
 try rfl
theorem cy:tv=Ii (JV):=by
 funext;unfold tv Ii;try simp only[H9,u0,Option.bind_some,cc,cn,cv,cx,ei,gg,gm,kv,gI,g4,g7,hD,mu,eg,er,gy,DM,H8,g3,j0,gw,g6,ko]
 try rfl
theorem c6:lm=Jy (JV):=by
 funext;unfold lm Jy;try simp only[H9,u0,Option.bind_some,cc,cn,cv,cx,ei,gg,gm,kv,gI,g4,g7,hD,mu,eg,er,gy,DM,H8,g3,j0,gw,g6,ko,cy]
 try rfl
theorem ec:tB=IJ (JV):=by
 funext;unfold tB IJ;try simp only[H9,u0,Option.bind_some,cc,cn,cv,cx,ei,gg,gm,kv,gI,g4,g7,hD,mu,eg,er,gy,DM,H8,g3,j0,gw,g6,ko,cy,c6]
 try rfl
theorem ej:l5=Jz (JV):=by
 funext;unfold l5 Jz;try simp only[H9,u0,Option.bind_some,cc,cn,cv,cx,ei,gg,gm,kv,gI,g4,g7,hD,mu,eg,er,gy,DM,H8,g3,j0,gw,g6,ko,cy,c6,ec]
 try rfl
theorem ev:tW=Ij (JV):=by
 funext;unfold tW Ij;try simp only[H9,u0,Option.bind_some,cc,cn,cv,cx,ei,gg,gm,kv,gI,g4,g7,hD,mu,eg,er,gy,DM,H8,g3,j0,gw,g6,ko,cy,c6,ec,ej]
 try rfl
theorem fq:ii=I1 (JV):=by
 funext;unfold ii I1;try simp only[H9,u0,Option.bind_some,cc,cn,cv,cx,ei,gg,gm,kv,gI,g4,g7,hD,mu,eg,er,gy,DM,H8,g3,j0,gw,g6,ko,cy,c6,ec,ej,ev]
 try rfl
theorem ga:tt=vp (JV):=by
 funext;unfold tt vp;try simp only[H9,u0,Option.bind_some,cc,cn,cv,cx,ei,gg,gm,kv,gI,g4,g7,hD,mu,eg,er,gy,DM,H8,g3,j0,gw,g6,ko,cy,c6,ec,ej,ev,fq]
 try rfl
theorem gb:lf=Jx (JV):=by
 funext;unfold lf Jx;try simp only[H9,u0,Option.bind_some,cc,cn,cv,cx,ei,gg,gm,kv,gI,g4,g7,hD,mu,eg,er,gy,DM,H8,g3,j0,gw,g6,ko,cy,c6,ec,ej,ev,fq,ga]
 try rfl
theorem hG:gn=Ik (JV):=by
 funext;unfold gn Ik;try simp only[H9,u0,Option.bind_some,cc,cn,cv,cx,ei,gg,gm,kv,gI,g4,g7,hD,mu,eg,er,gy,DM,H8,g3,j0,gw,g6,ko,cy,c6,ec,ej,ev,fq,ga,gb]
 try rfl
theorem kx:vw=JH (JV):=by
 funext;unfold vw JH;try simp only[H9,u0,Option.bind_some,cc,cn,cv,cx,ei,gg,gm,kv,gI,g4,g7,hD,mu,eg,er,gy,DM,H8,g3,j0,gw,g6,ko,cy,c6,ec,ej,ev,fq,ga,gb,hG]
 try rfl
theorem k5:nw=JX (JV):=by
 funext;unfold nw JX;try simp only[H9,u0,Option.bind_some,cc,cn,cv,cx,ei,gg,gm,kv,gI,g4,g7,hD,mu,eg,er,gy,DM,H8,g3,j0,gw,g6,ko,cy,c6,ec,ej,ev,fq,ga,gb,hG,kx]
 try rfl
theorem mo:xb=JI (JV):=by
 funext;unfold xb JI;try simp only[H9,u0,Option.bind_some,cc,cn,cv,cx,ei,gg,gm,kv,gI,g4,g7,hD,mu,eg,er,gy,DM,H8,g3,j0,gw,g6,ko,cy,c6,ec,ej,ev,fq,ga,gb,hG,kx,k5]
 try rfl
theorem m7:n2=JY (JV):=by
 funext;unfold n2 JY;try simp only[H9,u0,Option.bind_some,cc,cn,cv,cx,ei,gg,gm,kv,gI,g4,g7,hD,mu,eg,er,gy,DM,H8,g3,j0,gw,g6,ko,cy,c6,ec,ej,ev,fq,ga,gb,hG,kx,k5,mo]
 try rfl
theorem n7:vv=I2 (JV):=by
 funext;unfold vv I2;try simp only[H9,u0,Option.bind_some,cc,cn,cv,cx,ei,gg,gm,kv,gI,g4,g7,hD,mu,eg,er,gy,DM,H8,g3,j0,gw,g6,ko,cy,c6,ec,ej,ev,fq,ga,gb,hG,kx,k5,mo,m7]
 try rfl
theorem r5:nn=JW (JV):=by
 funext;unfold nn JW;try simp only[H9,u0,Option.bind_some,cc,cn,cv,cx,ei,gg,gm,kv,gI,g4,g7,hD,mu,eg,er,gy,DM,H8,g3,j0,gw,g6,ko,cy,c6,ec,ej,ev,fq,ga,gb,hG,kx,k5,mo,m7,n7]
 try rfl
theorem HZ:bu=n6 (JV):=by
 funext;unfold bu n6;try simp only[H9,u0,Option.bind_some,cc,cn,cv,cx,ei,gg,gm,kv,gI,g4,g7,hD,mu,eg,er,gy,DM,H8,g3,j0,gw,g6,ko,cy,c6,ec,ej,ev,fq,ga,gb,hG,kx,k5,mo,m7,n7,r5]
 try rfl
theorem Iw:z2=KB (JV):=by
 funext;unfold z2 KB;try simp only[H9,u0,Option.bind_some,cc,cn,cv,cx,ei,gg,gm,kv,gI,g4,g7,hD,mu,eg,er,gy,DM,H8,g3,j0,gw,g6,ko,cy,c6,ec,ej,ev,fq,ga,gb,hG,kx,k5,mo,m7,n7,r5,HZ]
 try rfl
theorem IG:qW=LD (JV):=by
 funext;unfold qW LD;try simp only[H9,u0,Option.bind_some,cc,cn,cv,cx,ei,gg,gm,kv,gI,g4,g7,hD,mu,eg,er,gy,DM,H8,g3,j0,gw,g6,ko,cy,c6,ec,ej,ev,fq,ga,gb,hG,kx,k5,mo,m7,n7,r5,HZ,Iw]
 try rfl
theorem IK:At=KC (JV):=by
 funext;unfold At KC;try simp only[H9,u0,Option.bind_some,cc,cn,cv,cx,ei,gg,gm,kv,gI,g4,g7,hD,mu,eg,er,gy,DM,H8,g3,j0,gw,g6,ko,cy,c6,ec,ej,ev,fq,ga,gb,hG,kx,k5,mo,m7,n7,r5,HZ,Iw,IG]
 try rfl
theorem IQ:rm=LF (JV):=by
 funext;unfold rm LF;try simp only[H9,u0,Option.bind_some,cc,cn,cv,cx,ei,gg,gm,kv,gI,g4,g7,hD,mu,eg,er,gy,DM,H8,g3,j0,gw,g6,ko,cy,c6,ec,ej,ev,fq,ga,gb,hG,kx,k5,mo,m7,n7,r5,HZ,Iw,IG,IK]
 try rfl
theorem I5:BE=Of (JV):=by
 funext;unfold BE Of;try simp only[H9,u0,Option.bind_some,cc,cn,cv,cx,ei,gg,gm,kv,gI,g4,g7,hD,mu,eg,er,gy,DM,H8,g3,j0,gw,g6,ko,cy,c6,ec,ej,ev,fq,ga,gb,hG,kx,k5,mo,m7,n7,r5,HZ,Iw,IG,IK,IQ]
 try rfl
theorem Jl:r3=LH (JV):=by
 funext;unfold r3 LH;try simp only[H9,u0,Option.bind_some,cc,cn,cv,cx,ei,gg,gm,kv,gI,g4,g7,hD,mu,eg,er,gy,DM,H8,g3,j0,gw,g6,ko,cy,c6,ec,ej,ev,fq,ga,gb,hG,kx,k5,mo,m7,n7,r5,HZ,Iw,IG,IK,IQ,I5]
 try rfl
theorem JE:Cp=Og (JV):=by
 funext;unfold Cp Og;try simp only[H9,u0,Option.bind_some,cc,cn,cv,cx,ei,gg,gm,kv,gI,g4,g7,hD,mu,eg,er,gy,DM,H8,g3,j0,gw,g6,ko,cy,c6,ec,ej,ev,fq,ga,gb,hG,kx,k5,mo,m7,n7,r5,HZ,Iw,IG,IK,IQ,I5,Jl]
 try rfl
theorem JL:r4=LI (JV):=by
 funext;unfold r4 LI;try simp only[H9,u0,Option.bind_some,cc,cn,cv,cx,ei,gg,gm,kv,gI,g4,g7,hD,mu,eg,er,gy,DM,H8,g3,j0,gw,g6,ko,cy,c6,ec,ej,ev,fq,ga,gb,hG,kx,k5,mo,m7,n7,r5,HZ,Iw,IG,IK,IQ,I5,Jl,JE]
 try rfl
theorem J2:Bd=Jj (JV):=by
 funext;unfold Bd Jj;try simp only[H9,u0,Option.bind_some,cc,cn,cv,cx,ei,gg,gm,kv,gI,g4,g7,hD,mu,eg,er,gy,DM,H8,g3,j0,gw,g6,ko,cy,c6,ec,ej,ev,fq,ga,gb,hG,kx,k5,mo,m7,n7,r5,HZ,Iw,IG,IK,IQ,I5,Jl,JE,JL]
 try rfl
theorem KD:rp=LG (JV):=by
 funext;unfold rp LG;try simp only[H9,u0,Option.bind_some,cc,cn,cv,cx,ei,gg,gm,kv,gI,g4,g7,hD,mu,eg,er,gy,DM,H8,g3,j0,gw,g6,ko,cy,c6,ec,ej,ev,fq,ga,gb,hG,kx,k5,mo,m7,n7,r5,HZ,Iw,IG,IK,IQ,I5,Jl,JE,JL,J2]
 try rfl
theorem OY:bf=me (JV):=by
 funext;unfold bf me;try simp only[H9,u0,Option.bind_some,cc,cn,cv,cx,ei,gg,gm,kv,gI,g4,g7,hD,mu,eg,er,gy,DM,H8,g3,j0,gw,g6,ko,cy,c6,ec,ej,ev,fq,ga,gb,hG,kx,k5,mo,m7,n7,r5,HZ,Iw,IG,IK,IQ,I5,Jl,JE,JL,J2,KD]
 try rfl
theorem PS:H7=IL (JV):=by
 funext;unfold H7 IL;try simp only[H9,u0,Option.bind_some,cc,cn,cv,cx,ei,gg,gm,kv,gI,g4,g7,hD,mu,eg,er,gy,DM,H8,g3,j0,gw,g6,ko,cy,c6,ec,ej,ev,fq,ga,gb,hG,kx,k5,mo,m7,n7,r5,HZ,Iw,IG,IK,IQ,I5,Jl,JE,JL,J2,KD,OY]
 try rfl
theorem Rv:tb=NG (JV):=by
 funext;unfold tb NG;try simp only[H9,u0,Option.bind_some,cc,cn,cv,cx,ei,gg,gm,kv,gI,g4,g7,hD,mu,eg,er,gy,DM,H8,g3,j0,gw,g6,ko,cy,c6,ec,ej,ev,fq,ga,gb,hG,kx,k5,mo,m7,n7,r5,HZ,Iw,IG,IK,IQ,I5,Jl,JE,JL,J2,KD,OY,PS]
 try rfl
theorem Sd:vb=OX (JV):=by
 funext;unfold vb OX;try simp only[H9,u0,Option.bind_some,cc,cn,cv,cx,ei,gg,gm,kv,gI,g4,g7,hD,mu,eg,er,gy,DM,H8,g3,j0,gw,g6,ko,cy,c6,ec,ej,ev,fq,ga,gb,hG,kx,k5,mo,m7,n7,r5,HZ,Iw,IG,IK,IQ,I5,Jl,JE,JL,J2,KD,OY,PS,Rv]
 try rfl
theorem Sc:∀n,kk n=Lw (JV) n
 |0=>rfl
 |n+1=>by unfold kk Lw;rw[Sc n,Sd]
theorem Vw:vm=RQ (JV):=by
 funext;unfold vm RQ;try simp only[H9,u0,Option.bind_some,cc,cn,cv,cx,ei,gg,gm,kv,gI,g4,g7,hD,mu,eg,er,gy,DM,H8,g3,j0,gw,g6,ko,cy,c6,ec,ej,ev,fq,ga,gb,hG,kx,k5,mo,m7,n7,r5,HZ,Iw,IG,IK,IQ,I5,Jl,JE,JL,J2,KD,OY,PS,Rv,Sd,Sc]
 try rfl
end Go.Fn
set_option linter.unusedSimpArgs false
set_option linter.unusedVariables false
namespace Go.Fn
open Go.R Go.Sort
theorem Kj{x y:Ev}:JV x y=true↔x.1<y.1\/(x.1=y.1/\x.2.1<y.2.1):=by unfold JV;simp
theorem SI{x y:Ev}:JV x y=false↔y.1<x.1\/(x.1=y.1/\y.2.1<=x.2.1):=by rw[<-Bool.not_eq_true,Kj];omega
theorem TH(x:Ev):JV x x=false:=by rw[SI];omega
theorem R4{x y z:Ev}(h1:JV x y=true)(h2:JV y z=true):JV x z=true:=by rw[Kj]at *;omega
theorem Xr{x y:Ev}(h1:JV x y=true):JV y x=false:=by rw[Kj]at h1;rw[SI];omega
theorem WC:SWO JV:=⟨TH,fun _ _ _ h1 h2=>R4 h1 h2,fun x y z h1 h2=>by rw[SI]at *;omega⟩
abbrev TZ(l:List Ev):Prop:=l.Pairwise fun x y=>JV x y=true
theorem Vi:∀(l:List Ev),(∀n,n+1<l.length->JV (l.getD n bg) (l.getD (n+1) bg)=true)->TZ l
 | [],_=>List.Pairwise.nil
 | [x],_=>List.pairwise_singleton _ _
 |x::y::l,h=>by
  have ih:=Vi (y::l) (fun n hn=>h (n+1) (by simpa using hn));have hxy:JV x y=true:=h 0 (by simp);refine List.Pairwise.cons (fun z hz=>?_) ih;rcases List.mem_cons.1 hz with rfl|hz
  ·exact hxy
  ·exact R4 hxy ((List.pairwise_cons.1 ih).1 z hz)
theorem TG{l:List Ev}(h:Sr l=true):TZ l:=by refine Vi l fun n hn=>?_;have:=Xp h hn;simp only[PK,Bool.and_eq_true,Ve,Bool.not_eq_true',Bool.or_eq_false_iff,Bool.and_eq_false_iff,decide_eq_false_iff_not]at this;rw[Kj];omega
theorem Vj:∀ {l m:List Ev},TZ l->TZ m->(∀x,x∈l↔x∈m)->l=m
 | [],[],_,_,_=>rfl
 | [],y::m,_,_,h=>absurd ((h y).2 (List.mem_cons_self ..)) (List.not_mem_nil)
 |x::l,[],_,_,h=>absurd ((h x).1 (List.mem_cons_self ..)) (List.not_mem_nil)
 |x::l,y::m,hl,hm,h=>by
  have hl':=List.pairwise_cons.1 hl;have hm':=List.pairwise_cons.1 hm;have hxy:x=y:=by
   rcases List.mem_cons.1 ((h x).1 (List.mem_cons_self ..))with e|h1
   ·exact e
   ·rcases List.mem_cons.1 ((h y).2 (List.mem_cons_self ..))with e|h2
    ·exact e.symm
    ·have a1:=hm'.1 x h1;have a2:=hl'.1 y h2;rw[Xr a1]at a2;cases a2
  subst hxy;congr 1;refine Vj hl'.2 hm'.2 fun z=>⟨fun hz=>?_,fun hz=>?_⟩
  ·rcases List.mem_cons.1 ((h z).1 (List.mem_cons_of_mem _ hz))with e|h1
   ·subst e;have:=hl'.1 z hz;rw[TH]at this;cases this
   ·exact h1
  ·rcases List.mem_cons.1 ((h z).2 (List.mem_cons_of_mem _ hz))with e|h1
   ·subst e;have:=hm'.1 z hz;rw[TH]at this;cases this
   ·exact h1
noncomputable def Vq(o:Option (List Ev))(x:Ev):Option (List Ev):=o.map (x:: ·)
noncomputable def merge:List Ev->List Ev->Option (List Ev)
 | [],b=>some b
 |x::a,[]=>some (x::a)
 |x::a,y::b=>bif JV x y then Vq (merge a (y::b)) x else bif JV y x then Vq (merge (x::a) b) y else bif decide (x=y)then Vq (merge a b) x else none
termination_by a b=>a.length+b.length
theorem Vy:∀(n:Nat) (a b:List Ev),a.length+b.length=n->TZ a->TZ b ->
  match merge a b with
  |some m=>TZ m/\(∀z,z∈m↔z∈a\/z∈b)/\m.length<=a.length+b.length/\(∀x,x∈a->∀y,y∈b->x.1=y.1->x.2.1=y.2.1->x=y)
  |none=>∃x,x∈a/\∃y,y∈b/\x.1=y.1/\x.2.1=y.2.1/\x≠y:=by
 intro n;induction n using Nat.strongRecOn with
 |ind n ih0=>
 intro a b hn;rcases a with _|⟨x,a⟩
 ·rw[merge];intro _ hb;exact⟨hb,fun z=>by simp,by simp,fun x hx=>absurd hx List.not_mem_nil⟩
 rcases b with _|⟨y,b⟩
 ·rw[merge];intro ha _;exact⟨ha,fun z=>by simp,by simp,fun x _ y hy=>absurd hy List.not_mem_nil⟩
 ·have ih1:=ih0 _ (by simp only[List.length_cons]at hn⊢;omega) a (y::b) rfl;have ih2:=ih0 _ (by simp only[List.length_cons]at hn⊢;omega) (x::a) b rfl;have ih3:=ih0 _ (by simp only[List.length_cons]at hn⊢;omega) a b rfl;rw[merge];intro ha hb;have Ql:=List.pairwise_cons.1 ha;have hb':=List.pairwise_cons.1 hb;cases h1:JV x y with
  |true=>
   have ih:=ih1 Ql.2 hb;simp only[cond_true];cases hm:merge a (y::b)with
   |none=>rw[hm]at ih;obtain⟨u,hu,v,hv,h⟩:=ih;exact⟨u,List.mem_cons_of_mem _ hu,v,hv,h⟩
   |some m=>
    rw[hm]at ih;obtain⟨i1,i2,i3,i4⟩:=ih;refine⟨List.Pairwise.cons (fun z hz=>?_) i1,fun z=>?_,?_,fun u hu v hv=>?_⟩
    ·rcases(i2 z).1 hz with h|h
     ·exact Ql.1 z h
     ·rcases List.mem_cons.1 h with rfl|h
      ·exact h1
      ·exact R4 h1 (hb'.1 z h)
    ·simp only[List.mem_cons,i2 z,or_assoc]
    ·simp only[List.length_cons]at i3⊢;omega
    ·rcases List.mem_cons.1 hu with rfl|hu
     ·intro k1 k2;have:JV u v=true:=by
       rcases List.mem_cons.1 hv with rfl|hv
       ·exact h1
       ·exact R4 h1 (hb'.1 v hv)
      rw[Kj]at this;omega
     ·exact i4 u hu v hv
  |false=>
   cases h2:JV y x with
   |true=>
    have ih:=ih2 ha hb'.2;simp only[cond_true,cond_false];cases hm:merge (x::a) b with
    |none=>rw[hm]at ih;obtain⟨u,hu,v,hv,h⟩:=ih;exact⟨u,hu,v,List.mem_cons_of_mem _ hv,h⟩
    |some m=>
     rw[hm]at ih;obtain⟨i1,i2,i3,i4⟩:=ih;refine⟨List.Pairwise.cons (fun z hz=>?_) i1,fun z=>?_,?_,fun u hu v hv=>?_⟩
     ·rcases(i2 z).1 hz with h|h
      ·rcases List.mem_cons.1 h with rfl|h
       ·exact h2
       ·exact R4 h2 (Ql.1 z h)
      ·exact hb'.1 z h
     ·rw[List.mem_cons,i2 z,List.mem_cons,List.mem_cons];constructor
      ·rintro(h|h|h)
       ·exact .inr (.inl h)
       ·exact .inl h
       ·exact .inr (.inr h)
      ·rintro(h|h|h)
       ·exact .inr (.inl h)
       ·exact .inl h
       ·exact .inr (.inr h)
     ·simp only[List.length_cons]at i3⊢;omega
     ·rcases List.mem_cons.1 hv with rfl|hv
      ·intro k1 k2;have:JV v u=true:=by
        rcases List.mem_cons.1 hu with rfl|hu
        ·exact h2
        ·exact R4 h2 (Ql.1 u hu)
       rw[Kj]at this;omega
      ·exact i4 u hu v hv
   |false=>
    have hk:x.1=y.1/\x.2.1=y.2.1:=by rw[SI]at h1 h2;omega
    by_cases he:x=y
    ·subst he;have ih:=ih3 Ql.2 hb'.2;simp only[cond_true,cond_false,decide_true];cases hm:merge a b with
     |none=>rw[hm]at ih;obtain⟨u,hu,v,hv,h⟩:=ih;exact⟨u,List.mem_cons_of_mem _ hu,v,List.mem_cons_of_mem _ hv,h⟩
     |some m=>
      rw[hm]at ih;obtain⟨i1,i2,i3,i4⟩:=ih;refine⟨List.Pairwise.cons (fun z hz=>?_) i1,fun z=>?_,?_,fun u hu v hv k1 k2=>?_⟩
      ·rcases(i2 z).1 hz with h|h
       ·exact Ql.1 z h
       ·exact hb'.1 z h
      ·rw[List.mem_cons,i2 z,List.mem_cons,List.mem_cons];constructor
       ·rintro(h|h|h)
        ·exact .inl (.inl h)
        ·exact .inl (.inr h)
        ·exact .inr (.inr h)
       ·rintro((h|h)|(h|h))
        ·exact .inl h
        ·exact .inr (.inl h)
        ·exact .inl h
        ·exact .inr (.inr h)
      ·simp only[List.length_cons]at i3⊢;omega
      ·rcases List.mem_cons.1 hu with z7|z7 <;> rcases List.mem_cons.1 hv with wV|wV
       ·rw[z7,wV]
       ·have:=hb'.1 v wV;rw[Kj,<-z7]at this;omega
       ·have:=Ql.1 u z7;rw[Kj,<-wV]at this;omega
       ·exact i4 u z7 v wV k1 k2
    ·simp only[cond_false,decide_eq_false he];exact⟨x,List.mem_cons_self ..,y,List.mem_cons_self ..,hk.1,hk.2,he⟩
theorem iP{a b:List Ev}(ha:TZ a)(hb:TZ b):
  match merge a b with
  |some m=>TZ m/\(∀z,z∈m↔z∈a\/z∈b)/\m.length<=a.length+b.length/\(∀x,x∈a->∀y,y∈b->x.1=y.1->x.2.1=y.2.1->x=y)
  |none=>∃x,x∈a/\∃y,y∈b/\x.1=y.1/\x.2.1=y.2.1/\x≠y:=Vy _ a b rfl ha hb
noncomputable def PX(a b:List Ev):List Ev×Bool:=bif Sr a then bif Sr b then(match merge a b with|none=>([],false)|some m=>bif Sr m then(m,true)else([],false))else([],false)else([],false)
theorem UT(a b:List Ev):(PX a b).1.length<=60:=by
 unfold PX;cases Sr a with
 |false=>exact Nat.zero_le _
 |true=>
  cases Sr b with
  |false=>exact Nat.zero_le _
  |true=>
   simp only[cond_true];cases merge a b with
   |none=>exact Nat.zero_le _
   |some m=>
    simp only[];cases h:Sr m with
    |false=>exact Nat.zero_le _
    |true=>exact O5 h
theorem QK(x y:Ev):KI x.1 x.2.1 x.2.2.1 x.2.2.2.1 x.2.2.2.2.1 x.2.2.2.2.2.1 x.2.2.2.2.2.2 y.1 y.2.1 y.2.2.1 y.2.2.2.1 y.2.2.2.2.1 y.2.2.2.2.2.1 y.2.2.2.2.2.2=some (JV x y,()):=by
 unfold KI JV;simp only[af];by_cases h:x.1=y.1
 ·rw[h];cases decide (y.1<y.1) <;> simp
 ·rw[decide_eq_false h,show(x.1==y.1)=false from by simpa using h];cases decide (x.1<y.1) <;> rfl
theorem Xk(x y:Ev):(Bool.and (af .eql x.1 y.1) (Bool.and (af .eql x.2.1 y.2.1) (Bool.and (af .eql x.2.2.1 y.2.2.1) (Bool.and (af .eql x.2.2.2.1 y.2.2.2.1) (Bool.and (af .eql x.2.2.2.2.1 y.2.2.2.2.1) (Bool.and (af .eql x.2.2.2.2.2.1 y.2.2.2.2.2.1) (Bool.and (af .eql x.2.2.2.2.2.2 y.2.2.2.2.2.2) true)))))))=decide (x=y):=by obtain⟨x1,x2,x3,x4,x5,x6,x7⟩:=x;obtain⟨y1,y2,y3,y4,y5,y6,y7⟩:=y;rw[Bool.eq_iff_iff];simp[af,Prod.mk.injEq]
theorem Vn(l:List Ev)(x:Ev):List.append (α:=Ev) l (List.append (α:=Ev) ([]:List Ev) [x])=l++[x]:=rfl
theorem UZ(a b:List Ev)(ha:a.length<=60)(hb:b.length<=60):∀(s i k:Nat) (out:List Ev) (n:Nat),(a.length-i)+(b.length-k)=s->i<=a.length->k<=b.length->out.length<=i+k->s<n ->
  iter (Iq (a,b,())) n (out,(i:Int),(k:Int),())=some (match merge (a.drop i) (b.drop k)with|none=>.inl ([],false,())|some m=>.inr (.inl (out++m,()))):=by
 intro s;induction s using Nat.strongRecOn with
 |ind s ih=>
  intro i k out n hs hi hk ho hn;obtain⟨n,rfl⟩:∃m,n=m+1:=⟨n-1,by omega⟩
  have lS:∀x:Ev,aE (out++[x])=true:=fun x=>QF (by simp;omega);have ll:af .lss (i:Int) (ai a)=decide (i<a.length):=aj i a;have lk:af .lss (k:Int) (ai b)=decide (k<b.length):=aj k b;have el:af .eql (i:Int) (ai a)=decide (i=a.length):=WZ i a.length;have ek:af .eql (k:Int) (ai b)=decide (k=b.length):=WZ k b.length;by_cases h1:i<a.length
  ·have hx:=dA h1 bg;by_cases h2:k<b.length
   ·have hy:=dA h2 bg;rw[hx,hy,merge];generalize Zr:a.getD i bg=x at hx⊢;generalize DX:b.getD k bg=y at hy⊢;cases c1:JV x y with
    |true=>
     rw[aH (y:=(out++[x],((i+1:Nat):Int),(k:Int),())) (by unfold Iq;simp only[ll,lk,el,ek,h1,h2,show ¬(k=b.length)by omega,show ¬(i=a.length)by omega,decide_true,decide_false,cond_true,cond_false,az,aq,Zr,DX,QK,c1,Option.bind_some,Vn,lS,av (n:=i) (by omega)])];rw[ih (s-1) (by omega) (i+1) k (out++[x]) n (by omega) (by omega) hk (by simp;omega) (by omega),<-hy];cases merge (List.drop (i+1) a) (List.drop k b)with
     |none=>rfl
     |some m=>simp[Vq]
    |false=>
     cases c2:JV y x with
     |true=>
      rw[aH (y:=(out++[y],(i:Int),((k+1:Nat):Int),())) (by unfold Iq;simp only[ll,lk,el,ek,h1,h2,show ¬(k=b.length)by omega,show ¬(i=a.length)by omega,decide_true,decide_false,cond_true,cond_false,az,aq,Zr,DX,QK,c1,c2,Option.bind_some,Vn,lS,av (n:=k) (by omega)])];rw[ih (s-1) (by omega) i (k+1) (out++[y]) n (by omega) hi (by omega) (by simp;omega) (by omega),<-hx];cases merge (List.drop i a) (List.drop (k+1) b)with
      |none=>rfl
      |some m=>simp[Vq]
     |false=>
      by_cases c3:x=y
      ·subst c3;rw[aH (y:=(out++[x],((i+1:Nat):Int),((k+1:Nat):Int),())) (by unfold Iq;simp only[ll,lk,el,ek,h1,h2,show ¬(k=b.length)by omega,show ¬(i=a.length)by omega,decide_true,decide_false,cond_true,cond_false,az,aq,Zr,DX,QK,c1,c2,Option.bind_some,Vn,lS,Xk,decide_true,Bool.not_true,aV,av (n:=i) (by omega),av (n:=k) (by omega)])];rw[ih (s-2) (by omega) (i+1) (k+1) (out++[x]) n (by omega) (by omega) (by omega) (by simp;omega) (by omega)];simp only[decide_true,cond_true,cond_false];cases merge (List.drop (i+1) a) (List.drop (k+1) b)with
       |none=>rfl
       |some m=>simp[Vq]
      ·rw[ay (b:=.inl ([],false,())) (by
        unfold Iq;simp only[ll,lk,el,ek,h1,h2,show ¬(k=b.length)by omega,show ¬(i=a.length)by omega,decide_true,decide_false,cond_true,cond_false,az,aq,Zr,DX,QK,c1,c2,Option.bind_some,Xk,c3,Bool.not_false,aV])]
       simp only[c3,decide_false,cond_false]
   ·have Bu:k=b.length:=by omega
    have hdb:b.drop k=[]:=by rw[Bu,List.drop_length]
    rw[aH (y:=(out++[a.getD i bg],((i+1:Nat):Int),(k:Int),())) (by unfold Iq;simp only[ll,lk,el,ek,h1,decide_eq_true Bu,decide_true,cond_true,az,aq,Vn,lS,av (n:=i) (by omega)])];rw[ih (s-1) (by omega) (i+1) k _ n (by omega) (by omega) hk (by simp;omega) (by omega),hx,hdb,merge];cases hd:List.drop (i+1) a with
    |nil=>simp[merge]
    |cons u v=>simp[merge]
  ·have hia:i=a.length:=by omega
   have hda:a.drop i=[]:=by rw[hia,List.drop_length]
   by_cases h2:k<b.length
   ·have hy:=dA h2 bg;rw[aH (y:=(out++[b.getD k bg],(i:Int),((k+1:Nat):Int),())) (by unfold Iq;simp only[ll,lk,el,ek,h1,h2,decide_eq_true hia,show ¬(k=b.length)by omega,decide_true,decide_false,cond_true,cond_false,az,aq,Vn,lS,av (n:=k) (by omega)])];rw[ih (s-1) (by omega) i (k+1) _ n (by omega) hi (by omega) (by simp;omega) (by omega),hda,merge,merge,hy];simp
   ·have Bu:k=b.length:=by omega
    have hdb:b.drop k=[]:=by rw[Bu,List.drop_length]
    rw[ay (b:=.inr (.inl (out,()))) (by unfold Iq;simp only[ll,lk,el,ek,h1,h2,decide_false,cond_false])];rw[hda,hdb,merge];simp
theorem TN(a b:List Ev):Kk a b=some ((PX a b).1,(PX a b).2,()):=by
 unfold Kk PX;simp only[SQ,Option.bind_some];cases ha:Sr a with
 |false=>rfl
 |true=>
  cases hb:Sr b with
  |false=>rfl
  |true=>
   have hl:=UZ a b (O5 ha) (O5 hb) (a.length+b.length) 0 0 [] big (by omega) (by omega) (by omega) (by simp) (aT (by have:=O5 ha;have:=O5 hb;omega));simp only[Bool.not_true,cond_false,cond_true];unfold Ku;rw[show(0:Int)=((0:Nat):Int)from rfl,hl,List.drop_zero,List.drop_zero];cases merge a b with
   |none=>rfl
   |some m=>simp only[Option.bind_some,Sum.elim_inr,Sum.elim_inl,List.nil_append,SQ];cases Sr m <;> rfl
end Go.Fn
set_option linter.unusedSimpArgs false
set_option linter.unusedVariables false
namespace Go.Fn
open Go.R Go.Sort
theorem iE{R:Type}(x:Option R):both x x=x:=by unfold both;simp
theorem Tg(l:List Ev)(hl:l.length<=1073741824):Ih l=some (l,()):=by
 unfold Ih;have h1:aE (List.append (α:=Ev) ([]:List Ev) l)=true:=QF hl;rw[h1];cases l with
 |nil=>exact iE _
 |cons x l=>rw[show af .gtr (ai (x::l)) (0:Int)=true from Zo l.length];rfl
noncomputable def K2(x e:Ev):Bool:=decide (x.1=e.1)&&decide (x.2.1=e.2.1)
theorem KN{x e:Ev}:K2 x e=true↔x.1=e.1/\x.2.1=e.2.1:=by unfold K2;simp
theorem Ww(x e:Ev):JQ x.1 x.2.1 x.2.2.1 x.2.2.2.1 x.2.2.2.2.1 x.2.2.2.2.2.1 x.2.2.2.2.2.2 e.1 e.2.1 e.2.2.1 e.2.2.2.1 e.2.2.2.2.1 e.2.2.2.2.2.1 e.2.2.2.2.2.2=some (K2 x e,()):=by
 unfold JQ K2;simp only[af];by_cases h:x.1=e.1
 ·rw[h];simp[Bool.beq_eq_decide_eq]
 ·rw[decide_eq_false h,show(x.1==e.1)=false from by simpa using h];rfl
theorem index_eq(a:List Ev)(e:Ev)(hl:a.length<=1073741824):∃r:Int,oa a e.1 e.2.1 e.2.2.1 e.2.2.2.1 e.2.2.2.2.1 e.2.2.2.2.2.1 e.2.2.2.2.2.2=some (r,()) /\
  ((r = -1/\∀x,x∈a->K2 x e=false)\/∃n:Nat,n<a.length/\r=(n:Int)/\K2 (a.getD n bg) e=true):=by
 obtain⟨y,hy,hc⟩:=fP (body:=nl (a,e.1,e.2.1,e.2.2.1,e.2.2.2.1,e.2.2.2.2.1,e.2.2.2.2.2.1,e.2.2.2.2.2.2,ai a,())) (fun n=>((n:Int),())) a.length (by omega) (fun n=>!K2 (a.getD n bg) e) (Sum.inr (Sum.inl ())) (fun n=>Sum.inl ((n:Int),())) (fun n hn=>by
   unfold nl;simp only[aj,hn,decide_true,cond_true,az,aq,Ww,Option.bind_some,av (n:=n) (by omega)];cases K2 (a.getD n bg) e <;> rfl) (by
   unfold nl;simp only[aj,Nat.lt_irrefl,decide_false,cond_false])
 unfold oa vn;rw[show(0:Int)=((0:Nat):Int)from rfl,hy];rcases hc with ⟨hall,rfl⟩|⟨_,n,hn,rfl,hk⟩
 ·refine⟨-1,rfl,.inl ⟨rfl,fun x hx=>?_⟩⟩;obtain⟨m,hm,rfl⟩:=List.getElem_of_mem hx;have:=(aQ _ _).1 hall m (Nat.zero_le _) (by omega);simp only[Bool.not_eq_true']at this;rw[List.getD_eq_getElem?_getD,List.getElem?_eq_getElem hm]at this;exact this
 ·exact⟨(n:Int),rfl,.inr ⟨n,hn,rfl,by simpa using hk⟩⟩
theorem Vk{l:List Ev}(h:TZ l):∀x,x∈l->∀y,y∈l->K2 x y=true->x=y:=by
 induction l with
 |nil=>intro x hx;exact absurd hx List.not_mem_nil
 |cons u l ih=>
  have h':=List.pairwise_cons.1 h;intro x hx y hy hk;rw[KN]at hk;rcases List.mem_cons.1 hx with e1|pK <;> rcases List.mem_cons.1 hy with e2|hy1
  ·rw[e1,e2]
  ·have:=h'.1 y hy1;rw[Kj,<-e1]at this;omega
  ·have:=h'.1 x pK;rw[Kj,<-e2]at this;omega
  ·exact ih h'.2 x pK y hy1 (KN.2 hk)
abbrev W7:=List Ev×Bool×Unit⊕(List Ev×Unit⊕Empty)
open Classical in
noncomputable def Qi(a:List Ev)(out:List Ev)(e:Ev):List Ev⊕W7:=if a.any (fun x=>K2 x e)=true then(if e∈a then .inl out else .inr (.inl ([],false,())))else .inl (out++[e])
theorem Xs(a:List Ev):∀(l out:List Ev),(∃e,e∈l/\a.any (fun x=>K2 x e)=true/\e∉a/\gf (Qi a) (fun out=>(.inr (.inl (out,())):W7)) l out=.inl ([],false,()))\/((∀e,e∈l->a.any (fun x=>K2 x e)=true->e∈a)/\gf (Qi a) (fun out=>(.inr (.inl (out,())):W7)) l out=.inr (.inl (out++l.filter (fun e=>!a.any (fun x=>K2 x e)),())))
 | [],out=>.inr ⟨fun e he=>absurd he List.not_mem_nil,by simp[gf]⟩
 |y::l,out=>by
  by_cases h1:a.any (fun x=>K2 x y)=true
  ·by_cases h2:y∈a
   ·have hs:Qi a out y=.inl out:=by unfold Qi;rw[if_pos h1,if_pos h2]
    rcases Xs a l out with ⟨e,he,k1,k2,k3⟩|⟨k1,k2⟩
    ·exact .inl ⟨e,List.mem_cons_of_mem _ he,k1,k2,by simp only[gf,hs,k3]⟩
    ·refine .inr ⟨fun e he hk=>?_,by simp only[gf,hs,k2,List.filter_cons,h1,Bool.not_true];rfl⟩;rcases List.mem_cons.1 he with rfl|he
     ·exact h2
     ·exact k1 e he hk
   ·exact .inl ⟨y,List.mem_cons_self ..,h1,h2,by unfold gf Qi;rw[if_pos h1,if_neg h2]⟩
  ·have hs:Qi a out y=.inl (out++[y]):=by unfold Qi;rw[if_neg h1]
   rw[Bool.not_eq_true]at h1;rcases Xs a l (out++[y])with ⟨e,he,k1,k2,k3⟩|⟨k1,k2⟩
   ·exact .inl ⟨e,List.mem_cons_of_mem _ he,k1,k2,by simp only[gf,hs,k3]⟩
   ·refine .inr ⟨fun e he hk=>?_,by simp only[gf,hs,k2,List.filter_cons,h1,Bool.not_false,if_true,List.append_assoc,List.singleton_append]⟩;rcases List.mem_cons.1 he with rfl|he
    ·rw[h1]at hk;cases hk
    ·exact k1 e he hk
theorem US(a b:List Ev)(ha:a.length<=60)(hb:b.length<=60)(hs:TZ a):Kt (a,b,ai b,()) (a,(0:Int),())=some (gf (Qi a) (fun out=>.inr (.inl (out,()))) b a):=by
 refine gQ (body:=JN (a,b,ai b,())) b bg (by omega) (fun out n=>(out,(n:Int),())) (Qi a) (fun out=>.inr (.inl (out,()))) (fun n out=>out.length<=a.length+n) (fun n out hn ho=>⟨?_,fun o he=>?_⟩) (fun out ho=>?_) a (by omega)
 ·unfold JN;simp only[aj,hn,decide_true,cond_true,az,aq];generalize b.getD n bg=e;obtain⟨r,hr,⟨rfl,hno⟩|⟨m,hm,rfl,hk⟩⟩:=index_eq a e (by omega)
  ·have zE:¬(a.any (fun x=>K2 x e)=true):=by
    rw[List.any_eq_true];rintro⟨x,hx,hk⟩;rw[hno x hx]at hk;cases hk
   have lS:aE (out++[e])=true:=QF (by simp;omega);unfold Qi;rw[if_neg zE];simp only[hr,Option.bind_some,Xt,cond_true,Vn,lS,av (n:=n) (by omega)]
  ·have zE:a.any (fun x=>K2 x e)=true:=List.any_eq_true.2 ⟨_,LJ hm bg,hk⟩;unfold Qi;rw[if_pos zE];have hneg:af .lss (m:Int) (0:Int)=false:=JJ (by omega);simp only[hr,Option.bind_some,hneg,cond_false,az,hm,decide_true,cond_true,aq,Xk,aV,av (n:=n) (by omega)];by_cases he:a.getD m bg=e
   ·rw[if_pos (he▸LJ hm bg),decide_eq_true he];rfl
   ·have hne:e∉a:=fun h=>he (Vk hs _ (LJ hm bg) e h hk);rw[if_neg hne,decide_eq_false he];rfl
 ·unfold Qi at he;split at he
  ·split at he
   ·injection he with he;rw[<-he];omega
   ·cases he
  ·injection he with he
   rw[<-he];simp;omega
 ·unfold JN;simp only[aj,Nat.lt_irrefl,decide_false,cond_false]
theorem Wy:(List.range 256).all (fun n=>(Lf (n:Int)).isSome)=true:=by decide +kernel
theorem Xq{n:Nat}(h:n<=255):∃L,Lf (n:Int)=some (L,()):=by have h1:=List.all_eq_true.1 Wy n (List.mem_range.2 (by omega));obtain⟨⟨L,u⟩,hL⟩:=Option.isSome_iff_exists.1 h1;exact⟨L,hL⟩
theorem Wh(l:List Ev)(hl:l.length<=255):∃r:List Ev,qe l=some (r,())/\r.Perm l/\∀i j,i<j->j<r.length->JV (r.getD j default) (r.getD i default)=false:=by obtain⟨L,hL⟩:=Xq hl;obtain⟨r,h1,h2,h3⟩:=WI WC l L hl;refine⟨r,?_,h2,h3⟩;unfold qe;rw[Vw,show ak .u64 (ai l)=(l.length:Int)from WY (by omega),hL,show ai l=(l.length:Int)from rfl];simp only[Option.bind_some,h1]
theorem TD(a b:List Ev):Kd a b=some ((PX a b).1,(PX a b).2,()):=by
 unfold Kd PX;simp only[SG,Option.bind_some];cases ha:Sr a with
 |false=>rfl
 |true=>
  cases hb:Sr b with
  |false=>rfl
  |true=>
   have la:=O5 ha;have lb:=O5 hb;have sa:=TG ha;have sb:=TG hb;simp only[Bool.not_true,cond_false,cond_true,Tg a (by omega),Option.bind_some,US a b la lb sa];have hm:=iP sa sb;rcases Xs a b a with ⟨e,he,k1,k2,k3⟩|⟨k1,k2⟩
   ·rw[k3];cases Zt:merge a b with
    |none=>rfl
    |some m=>rw[Zt]at hm;obtain⟨x,hx,hk⟩:=List.any_eq_true.1 k1;rw[KN]at hk;exact absurd (hm.2.2.2 x hx e he hk.1 hk.2▸hx) k2
   ·rw[k2];have hfl:(b.filter (fun e=>!a.any (fun x=>K2 x e))).length<=b.length:=List.length_filter_le _ _;obtain⟨r,hr,hp,hsr⟩:=Wh (a++b.filter (fun e=>!a.any (fun x=>K2 x e))) (by rw[List.length_append];omega);simp only[Option.bind_some,Sum.elim_inr,Sum.elim_inl,hr];have hkeys:(a++b.filter (fun e=>!a.any (fun x=>K2 x e))).Pairwise (fun x y=>K2 x y=false):=by
     rw[List.pairwise_append];refine⟨sa.imp fun {x y} h=>?_,(sb.filter _).imp fun {x y} h=>?_,fun x hx y hy=>?_⟩
     ·rw[<-Bool.not_eq_true,KN];rw[Kj]at h;omega
     ·rw[<-Bool.not_eq_true,KN];rw[Kj]at h;omega
     ·have h1:=(List.mem_filter.1 hy).2;rw[Bool.not_eq_true',<-Bool.not_eq_true,List.any_eq_true]at h1;rw[<-Bool.not_eq_true];exact fun hk=>h1 ⟨x,hx,hk⟩
    have hkr:r.Pairwise (fun x y=>K2 x y=false):=(hp.pairwise_iff (fun {x y} h=>by rw[<-Bool.not_eq_true,KN]at *;omega)).2 hkeys;have srr:TZ r:=by unfold TZ;rw[List.pairwise_iff_getElem]at hkr⊢;intro i j hi hj hij;have h1:=hkr i j hi hj hij;have h2:=hsr i j hij hj;rw[List.getD_eq_getElem?_getD,List.getD_eq_getElem?_getD,List.getElem?_eq_getElem hj,List.getElem?_eq_getElem hi]at h2;simp only[Option.getD_some]at h2;rw[<-Bool.not_eq_true,KN]at h1;rw[SI]at h2;rw[Kj];omega
    cases Zt:merge a b with
    |none=>rw[Zt]at hm;obtain⟨x,hx,y,hy,e1,e2,hne⟩:=hm;have:y∈a:=k1 y hy (List.any_eq_true.2 ⟨x,hx,KN.2 ⟨e1,e2⟩⟩);exact absurd (Vk sa x hx y this (KN.2 ⟨e1,e2⟩)) hne
    |some m=>
     rw[Zt]at hm;have:r=m:=Vj srr hm.1 fun z=>by
      rw[hp.mem_iff,List.mem_append,List.mem_filter,hm.2.1 z];constructor
      ·rintro(h|h)
       ·exact .inl h
       ·exact .inr h.1
      ·rintro(h|h)
       ·exact .inl h
       ·by_cases hz:a.any (fun x=>K2 x z)=true
        ·exact .inl (k1 z h hz)
        ·exact .inr ⟨h,by simpa using hz⟩
     rw[this];simp only[SG,Option.bind_some];cases Sr m <;> rfl
end Go.Fn

