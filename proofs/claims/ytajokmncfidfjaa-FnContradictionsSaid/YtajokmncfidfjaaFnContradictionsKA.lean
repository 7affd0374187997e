/- What each function that the law FnContradictions reaches promises: it computes what its plain function says. Conditions: none. -/
import Derived.Test.YtajokmncfidfjaaRows
import Derived.Test.YtajokmncfidfjaaFnContradictionsQC
import Derived.KernelRfl
set_option linter.unusedVariables false
set_option linter.unusedSimpArgs false
namespace Go.Proofs.Ytajokmncfidfjaa.fnContradictions
open Go.R Go.Fn
set_option maxRecDepth 100000
abbrev t0:aK:=.cons (.int .i64) .nil
abbrev t1:aK:=.cons .bool .nil
abbrev t2:aK:=.cons (.int .u8) .nil
abbrev t3:aK:=.cons (.int .i64) (.cons (.int .i64) (.cons .bool (.cons (.int .u8) .nil)))
abbrev t4:aK:=.cons .str .nil
abbrev t5:aK:=.cons (.int .u64) .nil
abbrev t6:aK:=.cons .str (.cons (.int .u64) .nil)
abbrev t7:aK:=.cons (.int .i32) .nil
abbrev t8:aK:=.cons (.sl 5 t2) .nil
abbrev t9:aK:=.cons (.int .i64) (.cons (.int .i64) (.cons (.int .i64) (.cons (.int .i64) (.cons (.int .i64) (.cons (.int .i64) (.cons (.int .i64) .nil))))))
abbrev t10:aK:=.cons (.sl 32 t9) .nil
abbrev t11:aK:=.cons (.sl 3 t0) .nil
abbrev t12:aK:=.cons (.sl 5 t2) (.cons (.int .i64) (.cons (.int .i64) .nil))
abbrev t13:aK:=.cons (.int .u32) .nil
abbrev v0:K:=.val (.sl 5 t2)
abbrev v1:K:=.val .bool
abbrev v2:K:=.val (.int .i64)
abbrev v3:K:=.val (.sl 32 t9)
abbrev v4:K:=.val (.sl 3 t0)
abbrev v5:K:=.val (.int .u32)
abbrev v6:K:=.val (.int .u64)
abbrev v7:K:=.arr 32 t9 false
abbrev o0:Sh:=.one v0
abbrev o1:Sh:=.one v1
abbrev o2:Sh:=.one v2
abbrev o3:Sh:=.one v3
abbrev o4:Sh:=.one v7
abbrev o5:Sh:=.one v4
abbrev o6:Sh:=.one v5
abbrev o7:Sh:=.one v6
abbrev a0:Sh:=.blk [v0,v2,v2]
abbrev a1:Sh:=.agg [v2,v2,v2,v2,v2,v2,v2]
abbrev a2:Sh:=.blk [v2,v2,v2,v2,v2,v2,v2]
noncomputable def table:List (Nat×TI):=[(2,⟨t0,false,8,[],none⟩),
 (3,⟨t0,false,8,[],none⟩),
 (4,⟨t1,false,1,[],none⟩),
 (5,⟨t2,false,1,[],none⟩),
 (6,⟨t2,false,1,[],none⟩),
 (7,⟨t3,true,24,[(0,1,false),(1,1,false),(2,1,false),(3,1,false)],none⟩),
 (8,⟨t3,true,24,[(0,1,false),(1,1,false),(2,1,false),(3,1,false)],none⟩),
 (9,⟨t4,false,16,[],none⟩),
 (10,⟨t4,false,16,[],none⟩),
 (11,⟨t4,false,16,[],none⟩),
 (12,⟨t5,false,8,[],none⟩),
 (13,⟨t6,true,24,[(0,1,false),(1,1,false)],none⟩),
 (14,⟨t6,true,24,[(0,1,false),(1,1,false)],none⟩),
 (21,⟨t7,false,4,[],none⟩),
 (22,⟨t8,false,24,[],some 5⟩),
 (24,⟨t10,false,24,[],some 32⟩),
 (31,⟨t9,true,56,[(0,1,false),(1,1,false),(2,1,false),(3,1,false),(4,1,false),(5,1,false),(6,1,false)],none⟩),
 (32,⟨t9,true,56,[(0,1,false),(1,1,false),(2,1,false),(3,1,false),(4,1,false),(5,1,false),(6,1,false)],none⟩),
 (36,⟨t9,true,56,[(0,1,false),(1,1,false),(2,1,false),(3,1,false),(4,1,false),(5,1,false),(6,1,false)],none⟩),
 (37,⟨t9,true,56,[(0,1,false),(1,1,false),(2,1,false),(3,1,false),(4,1,false),(5,1,false),(6,1,false)],none⟩),
 (41,⟨t11,false,24,[],some 3⟩),
 (61,⟨t12,true,40,[(0,1,false),(1,1,false),(2,1,false)],none⟩),
 (62,⟨t12,true,40,[(0,1,false),(1,1,false),(2,1,false)],none⟩),
 (68,⟨t5,false,8,[],none⟩),
 (75,⟨t0,false,8,[],none⟩),
 (83,⟨t13,false,4,[],none⟩),
 (85,⟨t5,false,8,[],none⟩),
 (93,⟨t5,false,8,[],none⟩),
 (114,⟨t2,false,1,[],none⟩),
 (115,⟨t2,false,1,[],none⟩),
 (118,⟨t7,false,4,[],none⟩),
 (119,⟨t7,false,4,[],none⟩)]
theorem Q6:CY Try.prog table=true:=by kernel_rfl
noncomputable def eqs:List Nat:=[32,37]
theorem RW:(eqs.all fun t=>vW Try.prog (uY table) t)=true:=by kernel_rfl
noncomputable def maps:List (Nat×IntKind):=[]
theorem Ru:(maps.all fun p=>CZ Try.prog p.1 p.2)=true:=by kernel_rfl
noncomputable def env(nt:Nat)(tr dp:List Nat):Env:={ ti:=uY table,deep:=fun d=>dp.any (Nat.beq d),trunc:=fun d=>tr.any (Nat.beq d),ro:=fun _=>false,E9:=fun t=>eqs.any (Nat.beq t),mp:=xC maps,nt:=nt }
theorem ve(nt:Nat)(tr dp:List Nat):cq Try.prog (env nt tr dp):=D7 (by kernel_rfl) Q6 RW Ru _ rfl (fun _=>rfl) rfl
noncomputable def u1{A0 B C:Type}(f:A0->C)(x:A0×B):C:=f x.1
noncomputable def u2{A0 A1 B C:Type}(f:A0->A1->C)(x:A0×A1×B):C:=f x.1 x.2.1
noncomputable def u3{A0 A1 A2 B C:Type}(f:A0->A1->A2->C)(x:A0×A1×A2×B):C:=f x.1 x.2.1 x.2.2.1
noncomputable def u4{A0 A1 A2 A3 B C:Type}(f:A0->A1->A2->A3->C)(x:A0×A1×A2×A3×B):C:=f x.1 x.2.1 x.2.2.1 x.2.2.2.1
noncomputable def u5{A0 A1 A2 A3 A4 B C:Type}(f:A0->A1->A2->A3->A4->C)(x:A0×A1×A2×A3×A4×B):C:=f x.1 x.2.1 x.2.2.1 x.2.2.2.1 x.2.2.2.2.1
noncomputable def u6{A0 A1 A2 A3 A4 A5 B C:Type}(f:A0->A1->A2->A3->A4->A5->C)(x:A0×A1×A2×A3×A4×A5×B):C:=f x.1 x.2.1 x.2.2.1 x.2.2.2.1 x.2.2.2.2.1 x.2.2.2.2.2.1
noncomputable def u7{A0 A1 A2 A3 A4 A5 A6 B C:Type}(f:A0->A1->A2->A3->A4->A5->A6->C)(x:A0×A1×A2×A3×A4×A5×A6×B):C:=f x.1 x.2.1 x.2.2.1 x.2.2.2.1 x.2.2.2.2.1 x.2.2.2.2.2.1 x.2.2.2.2.2.2.1
noncomputable def u8{A0 A1 A2 A3 A4 A5 A6 A7 B C:Type}(f:A0->A1->A2->A3->A4->A5->A6->A7->C)(x:A0×A1×A2×A3×A4×A5×A6×A7×B):C:=f x.1 x.2.1 x.2.2.1 x.2.2.2.1 x.2.2.2.2.1 x.2.2.2.2.2.1 x.2.2.2.2.2.2.1 x.2.2.2.2.2.2.2.1
noncomputable def TH{A0 A1 A2 A3 A4 A5 A6 A7 A8 A9 TJ TK TL TM B C:Type}(f:A0->A1->A2->A3->A4->A5->A6->A7->A8->A9->TJ->TK->TL->TM->C)(x:A0×A1×A2×A3×A4×A5×A6×A7×A8×A9×TJ×TK×TL×TM×B):C:=f x.1 x.2.1 x.2.2.1 x.2.2.2.1 x.2.2.2.2.1 x.2.2.2.2.2.1 x.2.2.2.2.2.2.1 x.2.2.2.2.2.2.2.1 x.2.2.2.2.2.2.2.2.1 x.2.2.2.2.2.2.2.2.2.1 x.2.2.2.2.2.2.2.2.2.2.1 x.2.2.2.2.2.2.2.2.2.2.2.1 x.2.2.2.2.2.2.2.2.2.2.2.2.1 x.2.2.2.2.2.2.2.2.2.2.2.2.2.1
noncomputable def T0:List (bV×ij):=[]
theorem h0:tT Try.prog T0:=trivial
noncomputable def T1:List (bV×ij):=((5,[]),⟨true,[o0],[o1],u1 OT⟩)::T0
theorem h1:tT Try.prog T1:=fk (ve 6 [] []) h0 [] trivial Try.func5 (by kernel_rfl) fun x=>by kernel_rfl
noncomputable def NI:eB:=⟨[(0,o0)],[(3,o2),(4,o2)],[(.exit 0,[(3,o2)])],My⟩
theorem Ov:nj Try.prog (env 32 [] []) (lp 0 (body Try.f23) 0) NI:=lk (ve _ _ _) h1 (n:=0) [] trivial (by kernel_rfl) fun k x=>by kernel_rfl
noncomputable def T2:List (bV×ij):=((23,[]),⟨false,[o0],[a0],u1 Nq⟩)::T1
theorem h2:tT Try.prog T2:=fk (ve 32 [] []) h1 [(0,NI)] ⟨Ov,trivial⟩ Try.func23 (by kernel_rfl) fun x=>by kernel_rfl
noncomputable def T3:List (bV×ij):=((44,[]),⟨false,[a0],[o2],u3 KR⟩)::T2
theorem h3:tT Try.prog T3:=fk (ve 58 [] []) h2 [] trivial Try.func44 (by kernel_rfl) fun x=>by kernel_rfl
noncomputable def T4:List (bV×ij):=((25,[]),⟨false,[a0,o2],[o2],u4 cF⟩)::T3
theorem h4:tT Try.prog T4:=fk (ve 37 [] []) h3 [] trivial Try.func25 (by kernel_rfl) fun x=>by kernel_rfl
noncomputable def T5:List (bV×ij):=((51,[]),⟨true,[o2,o2,o2],[o1],u3 LG⟩)::T4
theorem h5:tT Try.prog T5:=fk (ve 15 [] []) h4 [] trivial Try.func51 (by kernel_rfl) fun x=>by kernel_rfl
noncomputable def T6:List (bV×ij):=((36,[]),⟨true,[a1],[o1],u7 MY⟩)::T5
theorem h6:tT Try.prog T6:=fk (ve 36 [] []) h5 [] trivial Try.func36 (by kernel_rfl) fun x=>by kernel_rfl
noncomputable def M2:eB:=⟨[(0,o3)],[(3,o2)],[(.ret,[(2,o1)]),(.exit 0,[])],Mx⟩
theorem N8:nj Try.prog (env 73 [] []) (lp 0 (body Try.f11) 0) M2:=lk (ve _ _ _) h6 (n:=0) [] trivial (by kernel_rfl) fun k x=>by kernel_rfl
noncomputable def T7:List (bV×ij):=((11,[]),⟨true,[o3],[o1],u1 Ky⟩)::T6
theorem h7:tT Try.prog T7:=fk (ve 73 [] []) h6 [(0,M2)] ⟨N8,trivial⟩ Try.func11 (by kernel_rfl) fun x=>by kernel_rfl
noncomputable def Ni:eB:=⟨[(0,o3),(1,o2)],[(14,o4),(15,a2),(16,o2),(17,o2)],[(.exit 0,[(14,o4),(15,a2),(16,o2)])],MH⟩
theorem Oa:nj Try.prog (env 88 [] []) (lp 0 (body Try.f22) 0) Ni:=lk (ve _ _ _) h7 (n:=0) [] trivial (by kernel_rfl) fun k x=>by kernel_rfl
noncomputable def T8:List (bV×ij):=((22,[]),⟨true,[o3,o2,o2,o2,o2,o2],[o4,o1],u6 J3⟩)::T7
theorem h8:tT Try.prog T8:=fk (ve 88 [] []) h7 [(0,Ni)] ⟨Oa,trivial⟩ Try.func22 (by kernel_rfl) fun x=>by kernel_rfl
noncomputable def T9:List (bV×ij):=((42,[]),⟨false,[a0,o3,o2],[o4],u5 KW⟩)::T8
theorem h9:tT Try.prog T9:=fk (ve 32 [] []) h8 [] trivial Try.func42 (by kernel_rfl) fun x=>by kernel_rfl
noncomputable def TN:List (bV×ij):=((43,[]),⟨false,[a0,o5],[o2],u4 Js⟩)::T9
theorem h10:tT Try.prog TN:=fk (ve 12 [] []) h9 [] trivial Try.func43 (by kernel_rfl) fun x=>by kernel_rfl
noncomputable def Nx:eB:=⟨[],[(0,a0),(4,o4),(5,o2)],[(.exit 0,[(0,a0),(4,o4)])],NM⟩
theorem Oi:nj Try.prog (env 48 [] []) (lp 0 (body Try.f24) 0) Nx:=lk (ve _ _ _) h10 (n:=0) [] trivial (by kernel_rfl) fun k x=>by kernel_rfl
noncomputable def Ny:eB:=⟨[(6,o3)],[(0,a0),(4,o3),(7,o2)],[(.exit 2,[(0,a0),(4,o3)])],NN⟩
theorem Oj:nj Try.prog (env 48 [] []) (lp 0 (body Try.f24) 1) Ny:=lk (ve _ _ _) h10 (n:=2) [] trivial (by kernel_rfl) fun k x=>by kernel_rfl
noncomputable def Nz:eB:=⟨[(4,o3)],[(0,a0),(6,o3),(8,o2)],[(.exit 4,[(0,a0),(6,o3)])],NO⟩
theorem Ol:nj Try.prog (env 48 [] []) (lp 0 (body Try.f24) 2) Nz:=lk (ve _ _ _) h10 (n:=4) [] trivial (by kernel_rfl) fun k x=>by kernel_rfl
noncomputable def TO:List (bV×ij):=((24,[]),⟨false,[a0],[o3,o3],u3 MZ⟩)::TN
theorem h11:tT Try.prog TO:=fk (ve 48 [] []) h10 [(0,Nx),(2,Ny),(4,Nz)] ⟨Oi,Oj,Ol,trivial⟩ Try.func24 (by kernel_rfl) fun x=>by kernel_rfl
noncomputable def TP:List (bV×ij):=((34,[]),⟨true,[a1,a1],[o1],TH L2⟩)::TO
theorem h12:tT Try.prog TP:=fk (ve 24 [] []) h11 [] trivial Try.func34 (by kernel_rfl) fun x=>by kernel_rfl
noncomputable def Mn:eB:=⟨[(0,o3),(1,o3)],[(6,o4),(7,o2),(8,o2)],[(.ret,[(4,o4),(5,o1)]),(.exit 0,[(6,o4)])],LU⟩
theorem ND:nj Try.prog (env 109 [] []) (lp 0 (body Try.f8) 0) Mn:=lk (ve _ _ _) h12 (n:=0) [] trivial (by kernel_rfl) fun k x=>by kernel_rfl
noncomputable def TQ:List (bV×ij):=((8,[]),⟨true,[o3,o3],[o4,o1],u2 Jq⟩)::TP
theorem U4:tT Try.prog TQ:=fk (ve 109 [] []) h12 [(0,Mn)] ⟨ND,trivial⟩ Try.func8 (by kernel_rfl) fun x=>by kernel_rfl
noncomputable def Si:List (bV×ij):=((55,[]),⟨false,[a0,o2],[o1],u4 Jr⟩)::TQ
theorem Sq:tT Try.prog Si:=fk (ve 9 [] []) U4 [] trivial Try.func55 (by kernel_rfl) fun x=>by kernel_rfl
noncomputable def Kf:Xl:=[]
theorem LV:Po Try.prog Kf:=trivial
theorem LR:O4 Try.prog 42 (QR (env 32 [] []) Si [] [] Kf Try.f42):=ik (ve 32 [] []) Sq [] [] LV trivial Try.func42 (by kernel_rfl)
noncomputable def Ks:eB:=⟨[],[(0,a0),(4,o4),(5,o2)],[(.exit 0,[(0,a0),(4,o4)])],K9⟩
theorem ME:nj Try.prog (env 48 [] []) (lp 0 (body Try.f24) 0) Ks:=lk (ve _ _ _) Sq (n:=0) [] trivial (by kernel_rfl) fun k x=>by kernel_rfl
noncomputable def Kt:eB:=⟨[],[(0,a0),(4,o4),(6,o4),(7,o2)],[(.exit 2,[(0,a0),(4,o4),(6,o4)])],JW⟩
theorem MF:nj Try.prog (env 48 [] []) (lp 0 (body Try.f24) 1) Kt:=lk (ve _ _ _) Sq (n:=2) [] trivial (by kernel_rfl) fun k x=>by kernel_rfl
noncomputable def Ku:eB:=⟨[],[(0,a0),(4,o4),(6,o4),(8,o2)],[(.exit 4,[(0,a0),(4,o4),(6,o4)])],I3⟩
theorem MG:nj Try.prog (env 48 [] []) (lp 0 (body Try.f24) 2) Ku:=lk (ve _ _ _) Sq (n:=4) [] trivial (by kernel_rfl) fun k x=>by kernel_rfl
noncomputable def Lc:Xl:=[(42,QR (env 32 [] []) Si [] [] Kf Try.f42)]
theorem MS:Po Try.prog Lc:=⟨LR,trivial⟩
theorem MR:O4 Try.prog 24 (QR (env 48 [] []) Si [(0,Ks),(2,Kt),(4,Ku)] [2,4] Lc Try.f24):=ik (ve 48 [] []) Sq [(0,Ks),(2,Kt),(4,Ku)] [2,4] MS ⟨ME,MF,MG,trivial⟩ Try.func24 (by kernel_rfl)
noncomputable def OP:Xl:=[(24,QR (env 48 [] []) Si [(0,Ks),(2,Kt),(4,Ku)] [2,4] Lc Try.f24)]
theorem OI:Po Try.prog OP:=⟨MR,trivial⟩
noncomputable def TR:List (bV×ij):=((45,[]),⟨false,[a0],[o4],u3 M0⟩)::Si
theorem UJ:tT Try.prog TR:=U3 (ve 48 [] []) Sq [] OI trivial Try.func45 (by kernel_rfl) fun x=>by kernel_rfl
noncomputable def NJ:eB:=⟨[],[(0,a0),(3,o4)],[(.ret,[(0,a0),(2,o4)]),(.exit 1,[(0,a0),(3,o4)])],Mz⟩
theorem Ow:nj Try.prog (env 69 [] []) (lp 0 (body Try.f26) 0) NJ:=lk (ve _ _ _) UJ (n:=1) [] trivial (by kernel_rfl) fun k x=>by kernel_rfl
noncomputable def TS:List (bV×ij):=((26,[]),⟨false,[a0],[o4],u3 Nr⟩)::TR
theorem U5:tT Try.prog TS:=fk (ve 69 [] []) UJ [(1,NJ)] ⟨Ow,trivial⟩ Try.func26 (by kernel_rfl) fun x=>by kernel_rfl
noncomputable def TT:List (bV×ij):=((6,[]),⟨false,[o0],[o3,o3],u1 Ld⟩)::TS
theorem U6:tT Try.prog TT:=fk (ve 38 [] []) U5 [] trivial Try.func6 (by kernel_rfl) fun x=>by kernel_rfl
noncomputable def TU:List (bV×ij):=((49,[]),⟨true,[o2,o2,o2],[o1],u3 Lj⟩)::TT
theorem U7:tT Try.prog TU:=fk (ve 15 [] []) U6 [] trivial Try.func49 (by kernel_rfl) fun x=>by kernel_rfl
noncomputable def TW:List (bV×ij):=((50,[]),⟨true,[o2],[o1],u1 MO⟩)::TU
theorem U8:tT Try.prog TW:=fk (ve 5 [] []) U7 [] trivial Try.func50 (by kernel_rfl) fun x=>by kernel_rfl
noncomputable def TX:List (bV×ij):=((35,[]),⟨true,[a1],[o1],u7 MW⟩)::TW
theorem UK:tT Try.prog TX:=fk (ve 36 [] []) U8 [] trivial Try.func35 (by kernel_rfl) fun x=>by kernel_rfl
noncomputable def M1:eB:=⟨[(0,o3),(9,o3),(10,o2)],[(11,o2)],[(.ret,[(2,o1)]),(.exit 0,[])],Mv⟩
theorem N7:nj Try.prog (env 53 [] []) (lp 0 (body Try.f10) 0) M1:=lk (ve _ _ _) UK (n:=0) [] trivial (by kernel_rfl) fun k x=>by kernel_rfl
noncomputable def TY:List (bV×ij):=((10,[]),⟨true,[o3],[o1],u1 Lg⟩)::TX
theorem U9:tT Try.prog TY:=fk (ve 53 [] []) UK [(0,M1)] ⟨N7,trivial⟩ Try.func10 (by kernel_rfl) fun x=>by kernel_rfl
noncomputable def TZ:List (bV×ij):=((27,[]),⟨true,[o3],[o4],u1 J4⟩)::TY
theorem Va:tT Try.prog TZ:=fk (ve 8 [] []) U9 [] trivial Try.func27 (by kernel_rfl) fun x=>by kernel_rfl
noncomputable def Ua:List (bV×ij):=((29,[]),⟨true,[a1,.ro t9],[o1],TH Li⟩)::TZ
theorem UL:tT Try.prog Ua:=fk (ve 16 [] []) Va [] trivial Try.func29 (by kernel_rfl) fun x=>by kernel_rfl
noncomputable def JN:eB:=⟨[(0,o3),(1,.fn 29 [t9]),(7,o2)],[(8,o2)],[(.ret,[(4,o2)]),(.exit 0,[])],Jg⟩
theorem Kx:nj Try.prog (env 19 [] []) (lp 0 (body Try.f28) 0) JN:=lk (ve _ _ _) UL (n:=0) [] trivial (by kernel_rfl) fun k x=>by kernel_rfl
noncomputable def Ub:List (bV×ij):=((28,[29]),⟨true,[o3,.fn 29 [t9]],[o2],u8 IP⟩)::Ua
theorem Vb:tT Try.prog Ub:=fk (ve 19 [] []) UL [(0,JN)] ⟨Kx,trivial⟩ Try.func28 (by kernel_rfl) fun x=>by kernel_rfl
noncomputable def Uc:List (bV×ij):=((64,[]),⟨true,[o6],[o2],u1 OH⟩)::Ub
theorem Vc:tT Try.prog Uc:=fk (ve 19 [] []) Vb [] trivial Try.func64 (by kernel_rfl) fun x=>by kernel_rfl
noncomputable def Ud:List (bV×ij):=((65,[]),⟨true,[o7],[o2],u1 NK⟩)::Uc
theorem Vd:tT Try.prog Ud:=fk (ve 25 [] []) Vc [] trivial Try.func65 (by kernel_rfl) fun x=>by kernel_rfl
noncomputable def Ue:List (bV×ij):=((47,[]),⟨true,[o7],[o2],u1 Mc⟩)::Ud
theorem Ve:tT Try.prog Ue:=fk (ve 8 [] []) Vd [] trivial Try.func47 (by kernel_rfl) fun x=>by kernel_rfl
noncomputable def Uf:List (bV×ij):=((48,[]),⟨true,[o2],[o1],u1 Mo⟩)::Ue
theorem Vf:tT Try.prog Uf:=fk (ve 6 [] []) Ve [] trivial Try.func48 (by kernel_rfl) fun x=>by kernel_rfl
noncomputable def Ug:List (bV×ij):=((33,[]),⟨true,[o2,o2],[o2],u2 Lu⟩)::Uf
theorem UM:tT Try.prog Ug:=fk (ve 20 [] []) Vf [] trivial Try.func33 (by kernel_rfl) fun x=>by kernel_rfl
noncomputable def NH:eB:=⟨[(3,o2),(6,o5),(7,o2)],[(8,o2)],[(.ret,[(2,o2)]),(.exit 0,[])],M4⟩
theorem Ou:nj Try.prog (env 18 [] []) (lp 0 (body Try.f32) 0) NH:=lk (ve _ _ _) UM (n:=0) [] trivial (by kernel_rfl) fun k x=>by kernel_rfl
noncomputable def Uh:List (bV×ij):=((32,[]),⟨true,[o5],[o2],u1 Nj⟩)::Ug
theorem RY:tT Try.prog Uh:=fk (ve 18 [] []) UM [(0,NH)] ⟨Ou,trivial⟩ Try.func32 (by kernel_rfl) fun x=>by kernel_rfl
noncomputable def Ui:List (bV×ij):=((31,[]),⟨true,[a1,a1],[o2],TH gI⟩)::Uh
theorem Ts:tT Try.prog Ui:=fk (ve 17 [] []) RY [] trivial Try.func31 (by kernel_rfl) fun x=>by kernel_rfl
noncomputable def JU:eB:=⟨[(1,o2),(2,o2),(3,.fn 31 []),(8,o2)],[(0,o4),(9,o2)],[(.exit 2,[(0,o4)])],IK⟩
theorem KG:nj Try.prog (env 53 [] []) (lp 0 (lp 0 (body Try.f56) 0) 0) JU:=lk (ve _ _ _) Ts (n:=2) [] trivial (by kernel_rfl) fun k x=>by kernel_rfl
noncomputable def JT:eB:=⟨[(1,o2),(2,o2),(3,.fn 31 [])],[(0,o4),(8,o2)],[(.exit 0,[(0,o4)])],IJ⟩
theorem KF:nj Try.prog (env 53 [] []) (lp 0 (body Try.f56) 0) JT:=lk (ve _ _ _) Ts (n:=0) [(2,JU)] ⟨KG,trivial⟩ (by kernel_rfl) fun k x=>by kernel_rfl
noncomputable def Uj:List (bV×ij):=((56,[31]),⟨true,[o4,o2,o2,.fn 31 []],[],u3 IW⟩)::Ui
theorem UN:tT Try.prog Uj:=fk (ve 53 [] []) Ts [(0,JT)] ⟨KF,trivial⟩ Try.func56 (by kernel_rfl) fun x=>by kernel_rfl
noncomputable def J7:eB:=⟨[(2,o2),(3,o2),(4,.fn 31 [])],[(0,o4),(10,o2)],[(.exit 0,[(0,o4)]),(.ret,[(0,o4)])],I6⟩
theorem KU:nj Try.prog (env 82 [] []) (lp 0 (body Try.f76) 0) J7:=lk (ve _ _ _) UN (n:=0) [] trivial (by kernel_rfl) fun k x=>by kernel_rfl
noncomputable def Uk:List (bV×ij):=((76,[31]),⟨true,[o4,o2,o2,o2,.fn 31 []],[],u4 IB⟩)::Uj
theorem Tt:tT Try.prog Uk:=fk (ve 82 [] []) UN [(0,J7)] ⟨KU,trivial⟩ Try.func76 (by kernel_rfl) fun x=>by kernel_rfl
noncomputable def J5:eB:=⟨[(3,.fn 31 []),(8,o2),(9,o2),(10,o2)],[(0,o4),(11,o2)],[(.exit 0,[(0,o4)])],I4⟩
theorem KS:nj Try.prog (env 60 [] []) (lp 0 (body Try.f57) 0) J5:=lk (ve _ _ _) Tt (n:=0) [] trivial (by kernel_rfl) fun k x=>by kernel_rfl
noncomputable def J6:eB:=⟨[(3,.fn 31 []),(8,o2),(9,o2)],[(0,o4),(12,o2)],[(.exit 2,[(0,o4)])],I5⟩
theorem KT:nj Try.prog (env 60 [] []) (lp 0 (body Try.f57) 1) J6:=lk (ve _ _ _) Tt (n:=2) [] trivial (by kernel_rfl) fun k x=>by kernel_rfl
noncomputable def Ul:List (bV×ij):=((57,[31]),⟨true,[o4,o2,o2,.fn 31 []],[],u3 Je⟩)::Uk
theorem Vg:tT Try.prog Ul:=fk (ve 60 [] []) Tt [(0,J5),(2,J6)] ⟨KS,KT,trivial⟩ Try.func57 (by kernel_rfl) fun x=>by kernel_rfl
noncomputable def Um:List (bV×ij):=((77,[]),⟨true,[o2],[o7],u1 Kv⟩)::Ul
theorem Vh:tT Try.prog Um:=fk (ve 7 [] []) Vg [] trivial Try.func77 (by kernel_rfl) fun x=>by kernel_rfl
noncomputable def Un:List (bV×ij):=((78,[]),⟨false,[.blk [v6]],[o7],u1 __slices_xorshift__Next⟩)::Um
theorem UO:tT Try.prog Un:=fk (ve 33 [] []) Vh [] trivial Try.func78 (by kernel_rfl) fun x=>by kernel_rfl
noncomputable def JS:eB:=⟨[(1,o2),(8,o2),(10,o7)],[(0,o4),(9,.blk [v6]),(11,o2)],[(.exit 0,[(0,o4)])],II⟩
theorem KE:nj Try.prog (env 67 [] []) (lp 0 (body Try.f58) 0) JS:=lk (ve _ _ _) UO (n:=0) [] trivial (by kernel_rfl) fun k x=>by kernel_rfl
noncomputable def Uo:List (bV×ij):=((58,[31]),⟨true,[o4,o2,o2,.fn 31 []],[],u3 IU⟩)::Un
theorem Vi:tT Try.prog Uo:=fk (ve 67 [] []) UO [(0,JS)] ⟨KE,trivial⟩ Try.func58 (by kernel_rfl) fun x=>by kernel_rfl
noncomputable def Uq:List (bV×ij):=((86,[31]),⟨false,[o3,o2,o2,.blk [v2],.fn 31 []],[o2,o2],u4 vw⟩)::Uo
theorem Vj:tT Try.prog Uq:=fk (ve 32 [] []) Vi [] trivial Try.func86 (by kernel_rfl) fun x=>by kernel_rfl
noncomputable def Ur:List (bV×ij):=((80,[31]),⟨false,[o3,o2,o2,o2,.blk [v2],.fn 31 []],[o2],u5 vp⟩)::Uq
theorem Vk:tT Try.prog Ur:=fk (ve 41 [] []) Vj [] trivial Try.func80 (by kernel_rfl) fun x=>by kernel_rfl
noncomputable def Us:List (bV×ij):=((79,[31]),⟨false,[o3,o2,.blk [v2],.fn 31 []],[o2],u3 r6⟩)::Ur
theorem Vl:tT Try.prog Us:=fk (ve 18 [] []) Vk [] trivial Try.func79 (by kernel_rfl) fun x=>by kernel_rfl
noncomputable def Ut:List (bV×ij):=((59,[31]),⟨true,[o3,o2,o2,.fn 31 []],[o2,o2],u3 zS⟩)::Us
theorem UP:tT Try.prog Ut:=fk (ve 63 [] []) Vl [] trivial Try.func59 (by kernel_rfl) fun x=>by kernel_rfl
noncomputable def JV:eB:=⟨[],[(0,o4),(8,o2),(9,o2)],[(.exit 0,[(0,o4)])],IQ⟩
theorem KI:nj Try.prog (env 34 [] []) (lp 0 (body Try.f60) 0) JV:=lk (ve _ _ _) UP (n:=0) [] trivial (by kernel_rfl) fun k x=>by kernel_rfl
noncomputable def T42:List (bV×ij):=((60,[31]),⟨true,[o4,o2,o2,.fn 31 []],[],u3 za⟩)::Ut
theorem SN:tT Try.prog T42:=fk (ve 34 [] []) UP [(0,JV)] ⟨KI,trivial⟩ Try.func60 (by kernel_rfl) fun x=>by kernel_rfl
noncomputable def JH:eB:=⟨[(1,o2),(2,o2),(3,.fn 31 []),(10,o2)],[(0,o4),(9,o2)],[(.exit 2,[(0,o4),(9,o2)])],zc⟩
theorem Kn:nj Try.prog (env 141 [] []) (lp 0 (lp 0 (body Try.f61) 0) 0) JH:=lk (ve _ _ _) SN (n:=2) [] trivial (by kernel_rfl) fun k x=>by kernel_rfl
noncomputable def JI:eB:=⟨[(1,o2),(2,o2),(3,.fn 31 []),(9,o2),(10,o2)],[(0,o4),(11,o2)],[(.exit 4,[(0,o4)])],ze⟩
theorem Ko:nj Try.prog (env 141 [] []) (lp 0 (lp 0 (body Try.f61) 0) 1) JI:=lk (ve _ _ _) SN (n:=4) [] trivial (by kernel_rfl) fun k x=>by kernel_rfl
noncomputable def JJ:eB:=⟨[(1,o2),(2,o2),(3,.fn 31 []),(9,o2),(10,o2)],[(0,o4),(12,o2)],[(.exit 6,[(0,o4)])],r7⟩
theorem Kp:nj Try.prog (env 141 [] []) (lp 0 (lp 0 (body Try.f61) 0) 2) JJ:=lk (ve _ _ _) SN (n:=6) [] trivial (by kernel_rfl) fun k x=>by kernel_rfl
noncomputable def JG:eB:=⟨[(1,o2),(2,o2),(3,.fn 31 [])],[(0,o4),(9,o2),(10,o2)],[(.ret,[(0,o4),(8,o1)]),(.exit 0,[(0,o4)])],zb⟩
theorem Km:nj Try.prog (env 141 [] []) (lp 0 (body Try.f61) 0) JG:=lk (ve _ _ _) SN (n:=0) [(2,JH),(4,JI),(6,JJ)] ⟨Kn,Ko,Kp,trivial⟩ (by kernel_rfl) fun k x=>by kernel_rfl
noncomputable def Uu:List (bV×ij):=((61,[31]),⟨true,[o4,o2,o2,.fn 31 []],[o1],u3 k5⟩)::T42
theorem Td:tT Try.prog Uu:=fk (ve 141 [] []) SN [(0,JG)] ⟨Km,trivial⟩ Try.func61 (by kernel_rfl) fun x=>by kernel_rfl
noncomputable def JP:eB:=⟨[(1,o2),(4,.fn 31 []),(12,o2)],[(0,o4),(11,o2)],[(.exit 2,[(0,o4),(11,o2)])],IF⟩
theorem KA:nj Try.prog (env 90 [] []) (lp 0 (lp 0 (body Try.f62) 0) 0) JP:=lk (ve _ _ _) Td (n:=2) [] trivial (by kernel_rfl) fun k x=>by kernel_rfl
noncomputable def JQ:eB:=⟨[(1,o2),(4,.fn 31 []),(11,o2)],[(0,o4),(12,o2)],[(.exit 4,[(0,o4),(12,o2)])],IG⟩
theorem KB:nj Try.prog (env 90 [] []) (lp 0 (lp 0 (body Try.f62) 0) 1) JQ:=lk (ve _ _ _) Td (n:=4) [] trivial (by kernel_rfl) fun k x=>by kernel_rfl
noncomputable def JO:eB:=⟨[(1,o2),(4,.fn 31 [])],[(0,o4),(11,o2),(12,o2)],[(.exit 0,[(0,o4),(11,o2)])],IE⟩
theorem Kz:nj Try.prog (env 90 [] []) (lp 0 (body Try.f62) 0) JO:=lk (ve _ _ _) Td (n:=0) [(2,JP),(4,JQ)] ⟨KA,KB,trivial⟩ (by kernel_rfl) fun k x=>by kernel_rfl
noncomputable def Uv:List (bV×ij):=((62,[31]),⟨true,[o4,o2,o2,o2,.fn 31 []],[o2],u4 br⟩)::Uu
theorem Sr:tT Try.prog Uv:=fk (ve 90 [] []) Td [(0,JO)] ⟨Kz,trivial⟩ Try.func62 (by kernel_rfl) fun x=>by kernel_rfl
noncomputable def JY:eB:=⟨[(1,o2),(4,.fn 31 []),(13,o2)],[(0,o4),(12,o2)],[(.exit 0,[(0,o4),(12,o2)])],IX⟩
theorem KM:nj Try.prog (env 178 [] []) (lp 0 (body Try.f63) 0) JY:=lk (ve _ _ _) Sr (n:=0) [] trivial (by kernel_rfl) fun k x=>by kernel_rfl
noncomputable def JZ:eB:=⟨[(1,o2),(4,.fn 31 []),(12,o2)],[(0,o4),(13,o2)],[(.exit 2,[(0,o4),(13,o2)])],IY⟩
theorem KN:nj Try.prog (env 178 [] []) (lp 0 (body Try.f63) 1) JZ:=lk (ve _ _ _) Sr (n:=2) [] trivial (by kernel_rfl) fun k x=>by kernel_rfl
noncomputable def J1:eB:=⟨[(1,o2),(4,.fn 31 []),(13,o2)],[(0,o4),(12,o2)],[(.exit 6,[(0,o4),(12,o2)])],I0⟩
theorem KP:nj Try.prog (env 178 [] []) (lp 4 (lp 0 (body Try.f63) 2) 0) J1:=lk (ve _ _ _) Sr (n:=6) [] trivial (by kernel_rfl) fun k x=>by kernel_rfl
noncomputable def J2:eB:=⟨[(1,o2),(4,.fn 31 []),(12,o2)],[(0,o4),(13,o2)],[(.exit 8,[(0,o4),(13,o2)])],I1⟩
theorem KQ:nj Try.prog (env 178 [] []) (lp 4 (lp 0 (body Try.f63) 2) 1) J2:=lk (ve _ _ _) Sr (n:=8) [] trivial (by kernel_rfl) fun k x=>by kernel_rfl
noncomputable def J0:eB:=⟨[(1,o2),(4,.fn 31 [])],[(0,o4),(12,o2),(13,o2)],[(.exit 4,[(0,o4),(13,o2)])],IZ⟩
theorem KO:nj Try.prog (env 178 [] []) (lp 0 (body Try.f63) 2) J0:=lk (ve _ _ _) Sr (n:=4) [(6,J1),(8,J2)] ⟨KP,KQ,trivial⟩ (by kernel_rfl) fun k x=>by kernel_rfl
noncomputable def S7:List (bV×ij):=((63,[31]),⟨true,[o4,o2,o2,o2,.fn 31 []],[o2,o1],u4 bg⟩)::Uv
theorem Tu:tT Try.prog S7:=fk (ve 178 [] []) Sr [(0,JY),(2,JZ),(4,J0)] ⟨KM,KN,KO,trivial⟩ Try.func63 (by kernel_rfl) fun x=>by kernel_rfl
noncomputable def rp(rec:(List (Int×Int×Int×Int×Int×Int×Int))->Int->Int->Int->Option ((List (Int×Int×Int×Int×Int×Int×Int))×Unit)):ij:=⟨true,[o4,o2,o2,o2,.fn 31 []],[],u4 rec⟩
noncomputable def J8(rec:(List (Int×Int×Int×Int×Int×Int×Int))->Int->Int->Int->Option ((List (Int×Int×Int×Int×Int×Int×Int))×Unit)):eB:=⟨[(4,.fn 31 [])],[(0,o4),(1,o2),(2,o2),(3,o2),(10,o1),(11,o1)],[(.ret,[(0,o4)])],I7 rec⟩
theorem KX(rec:(List (Int×Int×Int×Int×Int×Int×Int))->Int->Int->Int->Option ((List (Int×Int×Int×Int×Int×Int×Int))×Unit))(hr:eA Try.prog 46 (rp rec)):nj Try.prog (env 148 [] []) (lp 0 (body Try.f46) 0) (J8 rec):=lk (ve _ _ _) (T:=((46,[31]),rp rec)::S7) ⟨hr,Tu⟩ (n:=0) [] trivial (by kernel_rfl) fun k x=>by kernel_rfl
theorem K1(rec:(List (Int×Int×Int×Int×Int×Int×Int))->Int->Int->Int->Option ((List (Int×Int×Int×Int×Int×Int×Int))×Unit))(hr:eA Try.prog 46 (rp rec)):eA Try.prog 46 (rp (Jd rec)):=(fk (ks:=[]) (ve 148 [] []) (T:=((46,[31]),rp rec)::S7) ⟨hr,Tu⟩ [(0,J8 rec)] ⟨(KX rec hr),trivial⟩ Try.func46 (by kernel_rfl) fun x=>by kernel_rfl).1
noncomputable def Uw:List (bV×ij):=((46,[31]),rp Jf)::S7
theorem h46:tT Try.prog Uw:=⟨DB (F:=fun n=>rp (tW n)) (CA (fn:=Try.f46) (c:=body Try.f46) Try.func46 (by kernel_rfl) (by kernel_rfl) (fun _=>rfl)) (fun n h=>K1 (tW n) h) big,Tu⟩
noncomputable def Ux:List (bV×ij):=((30,[31]),⟨true,[o4,.fn 31 []],[],u1 IR⟩)::Uw
theorem h47:tT Try.prog Ux:=fk (ve 14 [] []) h46 [] trivial Try.func30 (by kernel_rfl) fun x=>by kernel_rfl
noncomputable def Mm:eB:=⟨[(0,o3),(20,o3),(21,o2)],[(6,o4),(22,o2)],[(.ret,[(4,o4),(5,o1)]),(.exit 0,[(6,o4)])],LQ⟩
theorem NC:nj Try.prog (env 50 [] []) (lp 0 (body Try.f7) 0) Mm:=lk (ve _ _ _) h47 (n:=0) [] trivial (by kernel_rfl) fun k x=>by kernel_rfl
noncomputable def Uy:List (bV×ij):=((7,[]),⟨true,[o3,o3],[o4,o1],u2 LD⟩)::Ux
theorem h48:tT Try.prog Uy:=fk (ve 50 [] []) h47 [(0,Mm)] ⟨NC,trivial⟩ Try.func7 (by kernel_rfl) fun x=>by kernel_rfl
noncomputable def MT:eB:=⟨[(0,o3),(1,o3)],[(5,o2)],[(.ret,[(4,o1)]),(.exit 0,[])],Mi⟩
theorem NS:nj Try.prog (env 26 [] []) (lp 0 (body Try.f9) 0) MT:=lk (ve _ _ _) h48 (n:=0) [] trivial (by kernel_rfl) fun k x=>by kernel_rfl
noncomputable def Uz:List (bV×ij):=((9,[]),⟨true,[o3,o3],[o1],u2 Me⟩)::Uy
theorem UQ:tT Try.prog Uz:=fk (ve 26 [] []) h48 [(0,MT)] ⟨NS,trivial⟩ Try.func9 (by kernel_rfl) fun x=>by kernel_rfl
noncomputable def NQ:eB:=⟨[(0,o3),(3,.ro t9)],[(5,o2)],[(.ret,[(4,o1)]),(.exit 0,[])],Nt⟩
theorem OG:nj Try.prog (env 18 [] []) (lp 0 (body Try.f12) 0) NQ:=lk (ve _ _ _) UQ (n:=0) [] trivial (by kernel_rfl) fun k x=>by kernel_rfl
noncomputable def UA:List (bV×ij):=((12,[]),⟨true,[o3,a1],[o1],u8 laws_holds⟩)::Uz
theorem Q9:tT Try.prog UA:=fk (ve 18 [] []) UQ [(0,NQ)] ⟨OG,trivial⟩ Try.func12 (by kernel_rfl) fun x=>by kernel_rfl
noncomputable def L8:eB:=⟨[(3,o3),(4,o3),(8,o1),(9,o2)],[(5,o4),(7,o4),(10,o2)],[(.ret,[(2,o1)]),(.exit 2,[(5,o4),(7,o4)])],Ln⟩
theorem Nc:nj Try.prog (env 165 [] []) (lp 0 (lp 0 (body Try.f3) 0) 0) L8:=lk (ve _ _ _) Q9 (n:=2) [] trivial (by kernel_rfl) fun k x=>by kernel_rfl
noncomputable def L7:eB:=⟨[(3,o3),(4,o3),(8,o1)],[(5,o4),(7,o4),(9,o2)],[(.ret,[(2,o1)]),(.exit 0,[(5,o4),(7,o4)])],Lm⟩
theorem Nb:nj Try.prog (env 165 [] []) (lp 0 (body Try.f3) 0) L7:=lk (ve _ _ _) Q9 (n:=0) [(2,L8)] ⟨Nc,trivial⟩ (by kernel_rfl) fun k x=>by kernel_rfl
noncomputable def L9:eB:=⟨[(3,o3),(4,o3)],[(7,o4),(11,o2)],[(.ret,[(2,o1)]),(.exit 4,[(7,o4)])],Lo⟩
theorem Nd:nj Try.prog (env 165 [] []) (lp 0 (body Try.f3) 1) L9:=lk (ve _ _ _) Q9 (n:=4) [] trivial (by kernel_rfl) fun k x=>by kernel_rfl
noncomputable def Ma:eB:=⟨[(3,o3),(4,o3)],[(7,o4),(12,o2)],[(.ret,[(2,o1)]),(.exit 6,[])],Lp⟩
theorem Nf:nj Try.prog (env 165 [] []) (lp 0 (body Try.f3) 2) Ma:=lk (ve _ _ _) Q9 (n:=6) [] trivial (by kernel_rfl) fun k x=>by kernel_rfl
noncomputable def KH:ij:=⟨true,[o0],[o1],u1 LS⟩
noncomputable def U2:List (bV×ij):=((3,[]),KH)::UA
theorem Vm:tT Try.prog U2:=fk (ve 165 [] []) Q9 [(0,L7),(4,L9),(6,Ma)] ⟨Nb,Nd,Nf,trivial⟩ Try.func3 (by kernel_rfl) fun x=>by kernel_rfl
theorem Nu:eA Try.prog 3 KH:=Vm.1
end Go.Proofs.Ytajokmncfidfjaa.fnContradictions

