/- What each function that the law FnFates reaches promises: it computes what its plain function says. Conditions: none. -/
import Derived.Test.YtajokmncfidfjaaRows
import Derived.Test.YtajokmncfidfjaaFnFatesQC
import Derived.Test.YtajokmncfidfjaaFnFatesS20
import Derived.KernelRfl
set_option linter.unusedVariables false
set_option linter.unusedSimpArgs false
namespace Go.Proofs.Ytajokmncfidfjaa.fnFates
open Go.R Go.Fn
set_option maxRecDepth 100000
abbrev t0:aK:=.cons (.int .i64) .nil
abbrev t1:aK:=.cons .bool .nil
abbrev t2:aK:=.cons (.int .u8) .nil
abbrev t3:aK:=.cons (.int .i64) (.cons (.int .i64) (.cons .bool (.cons (.int .u8) .nil)))
abbrev t4:aK:=.cons .str .nil
abbrev t5:aK:=.cons (.int .u64) .nil
abbrev t6:aK:=.cons .str (.cons (.int .u64) .nil)
abbrev t7:aK:=.cons (.int .i32) .nil
abbrev t8:aK:=.cons (.sl 5 t2) .nil
abbrev t9:aK:=.cons (.int .i64) (.cons (.int .i64) (.cons (.int .i64) (.cons (.int .i64) (.cons (.int .i64) (.cons (.int .i64) (.cons (.int .i64) .nil))))))
abbrev t10:aK:=.cons (.sl 32 t9) .nil
abbrev t11:aK:=.cons (.sl 3 t0) .nil
abbrev t12:aK:=.cons (.sl 5 t2) (.cons (.int .i64) (.cons (.int .i64) .nil))
abbrev t13:aK:=.cons (.int .u32) .nil
abbrev v0:K:=.val (.sl 5 t2)
abbrev v1:K:=.val .bool
abbrev v2:K:=.val (.int .i64)
abbrev v3:K:=.val (.sl 32 t9)
abbrev v4:K:=.val (.sl 3 t0)
abbrev v5:K:=.val (.int .u32)
abbrev v6:K:=.val (.int .u64)
abbrev v7:K:=.arr 32 t9 false
abbrev v8:K:=.arr 3 t0 false
abbrev o0:Sh:=.one v0
abbrev o1:Sh:=.one v1
abbrev o2:Sh:=.one v2
abbrev o3:Sh:=.one v3
abbrev o4:Sh:=.one v7
abbrev o5:Sh:=.one v4
abbrev o6:Sh:=.one v8
abbrev o7:Sh:=.one v5
abbrev o8:Sh:=.one v6
abbrev a0:Sh:=.blk [v0,v2,v2]
abbrev a1:Sh:=.agg [v2,v2,v2,v2,v2,v2,v2]
abbrev a2:Sh:=.blk [v2,v2,v2,v2,v2,v2,v2]
noncomputable def table:List (Nat×TI):=[(2,⟨t0,false,8,[],none⟩),
 (3,⟨t0,false,8,[],none⟩),
 (4,⟨t1,false,1,[],none⟩),
 (5,⟨t2,false,1,[],none⟩),
 (6,⟨t2,false,1,[],none⟩),
 (7,⟨t3,true,24,[(0,1,false),(1,1,false),(2,1,false),(3,1,false)],none⟩),
 (8,⟨t3,true,24,[(0,1,false),(1,1,false),(2,1,false),(3,1,false)],none⟩),
 (9,⟨t4,false,16,[],none⟩),
 (10,⟨t4,false,16,[],none⟩),
 (11,⟨t4,false,16,[],none⟩),
 (12,⟨t5,false,8,[],none⟩),
 (13,⟨t6,true,24,[(0,1,false),(1,1,false)],none⟩),
 (14,⟨t6,true,24,[(0,1,false),(1,1,false)],none⟩),
 (21,⟨t7,false,4,[],none⟩),
 (22,⟨t8,false,24,[],some 5⟩),
 (24,⟨t10,false,24,[],some 32⟩),
 (31,⟨t9,true,56,[(0,1,false),(1,1,false),(2,1,false),(3,1,false),(4,1,false),(5,1,false),(6,1,false)],none⟩),
 (32,⟨t9,true,56,[(0,1,false),(1,1,false),(2,1,false),(3,1,false),(4,1,false),(5,1,false),(6,1,false)],none⟩),
 (36,⟨t9,true,56,[(0,1,false),(1,1,false),(2,1,false),(3,1,false),(4,1,false),(5,1,false),(6,1,false)],none⟩),
 (37,⟨t9,true,56,[(0,1,false),(1,1,false),(2,1,false),(3,1,false),(4,1,false),(5,1,false),(6,1,false)],none⟩),
 (41,⟨t11,false,24,[],some 3⟩),
 (61,⟨t12,true,40,[(0,1,false),(1,1,false),(2,1,false)],none⟩),
 (62,⟨t12,true,40,[(0,1,false),(1,1,false),(2,1,false)],none⟩),
 (68,⟨t5,false,8,[],none⟩),
 (75,⟨t0,false,8,[],none⟩),
 (83,⟨t13,false,4,[],none⟩),
 (85,⟨t5,false,8,[],none⟩),
 (93,⟨t5,false,8,[],none⟩),
 (114,⟨t2,false,1,[],none⟩),
 (115,⟨t2,false,1,[],none⟩),
 (118,⟨t7,false,4,[],none⟩),
 (119,⟨t7,false,4,[],none⟩)]
theorem TO:CY Try.prog table=true:=by kernel_rfl
noncomputable def eqs:List Nat:=[32,37]
theorem U0:(eqs.all fun t=>vW Try.prog (uY table) t)=true:=by kernel_rfl
noncomputable def maps:List (Nat×IntKind):=[]
theorem Uv:(maps.all fun p=>CZ Try.prog p.1 p.2)=true:=by kernel_rfl
noncomputable def env(nt:Nat)(tr dp:List Nat):Env:={ ti:=uY table,deep:=fun d=>dp.any (Nat.beq d),trunc:=fun d=>tr.any (Nat.beq d),ro:=fun _=>false,E9:=fun t=>eqs.any (Nat.beq t),mp:=xC maps,nt:=nt }
theorem vn(nt:Nat)(tr dp:List Nat):cq Try.prog (env nt tr dp):=D7 (by kernel_rfl) TO U0 Uv _ rfl (fun _=>rfl) rfl
noncomputable def u1{A0 B C:Type}(f:A0->C)(x:A0×B):C:=f x.1
noncomputable def u2{A0 A1 B C:Type}(f:A0->A1->C)(x:A0×A1×B):C:=f x.1 x.2.1
noncomputable def u3{A0 A1 A2 B C:Type}(f:A0->A1->A2->C)(x:A0×A1×A2×B):C:=f x.1 x.2.1 x.2.2.1
noncomputable def u4{A0 A1 A2 A3 B C:Type}(f:A0->A1->A2->A3->C)(x:A0×A1×A2×A3×B):C:=f x.1 x.2.1 x.2.2.1 x.2.2.2.1
noncomputable def u5{A0 A1 A2 A3 A4 B C:Type}(f:A0->A1->A2->A3->A4->C)(x:A0×A1×A2×A3×A4×B):C:=f x.1 x.2.1 x.2.2.1 x.2.2.2.1 x.2.2.2.2.1
noncomputable def u6{A0 A1 A2 A3 A4 A5 B C:Type}(f:A0->A1->A2->A3->A4->A5->C)(x:A0×A1×A2×A3×A4×A5×B):C:=f x.1 x.2.1 x.2.2.1 x.2.2.2.1 x.2.2.2.2.1 x.2.2.2.2.2.1
noncomputable def u7{A0 A1 A2 A3 A4 A5 A6 B C:Type}(f:A0->A1->A2->A3->A4->A5->A6->C)(x:A0×A1×A2×A3×A4×A5×A6×B):C:=f x.1 x.2.1 x.2.2.1 x.2.2.2.1 x.2.2.2.2.1 x.2.2.2.2.2.1 x.2.2.2.2.2.2.1
noncomputable def Yi{A0 A1 A2 A3 A4 A5 A6 A7 A8 A9 WT WU WV WW B C:Type}(f:A0->A1->A2->A3->A4->A5->A6->A7->A8->A9->WT->WU->WV->WW->C)(x:A0×A1×A2×A3×A4×A5×A6×A7×A8×A9×WT×WU×WV×WW×B):C:=f x.1 x.2.1 x.2.2.1 x.2.2.2.1 x.2.2.2.2.1 x.2.2.2.2.2.1 x.2.2.2.2.2.2.1 x.2.2.2.2.2.2.2.1 x.2.2.2.2.2.2.2.2.1 x.2.2.2.2.2.2.2.2.2.1 x.2.2.2.2.2.2.2.2.2.2.1 x.2.2.2.2.2.2.2.2.2.2.2.1 x.2.2.2.2.2.2.2.2.2.2.2.2.1 x.2.2.2.2.2.2.2.2.2.2.2.2.2.1
noncomputable def T0:List (bV×ij):=[]
theorem h0:tT Try.prog T0:=trivial
noncomputable def T1:List (bV×ij):=((5,[]),⟨true,[o0],[o1],u1 QG⟩)::T0
theorem h1:tT Try.prog T1:=fk (vn 6 [] []) h0 [] trivial Try.func5 (by kernel_rfl) fun x=>by kernel_rfl
noncomputable def Pg:eB:=⟨[(0,o0)],[(3,o2),(4,o2)],[(.exit 0,[(3,o2)])],NH⟩
theorem Qf:nj Try.prog (env 32 [] []) (lp 0 (body Try.f23) 0) Pg:=lk (vn _ _ _) h1 (n:=0) [] trivial (by kernel_rfl) fun k x=>by kernel_rfl
noncomputable def T2:List (bV×ij):=((23,[]),⟨false,[o0],[a0],u1 OV⟩)::T1
theorem h2:tT Try.prog T2:=fk (vn 32 [] []) h1 [(0,Pg)] ⟨Qf,trivial⟩ Try.func23 (by kernel_rfl) fun x=>by kernel_rfl
noncomputable def T3:List (bV×ij):=((51,[]),⟨true,[o2,o2,o2],[o1],u3 Mw⟩)::T2
theorem h3:tT Try.prog T3:=fk (vn 15 [] []) h2 [] trivial Try.func51 (by kernel_rfl) fun x=>by kernel_rfl
noncomputable def T4:List (bV×ij):=((36,[]),⟨true,[a1],[o1],u7 Oj⟩)::T3
theorem h4:tT Try.prog T4:=fk (vn 36 [] []) h3 [] trivial Try.func36 (by kernel_rfl) fun x=>by kernel_rfl
noncomputable def Ou:eB:=⟨[(0,o3)],[(3,o2)],[(.ret,[(2,o1)]),(.exit 0,[])],NF⟩
theorem PK:nj Try.prog (env 73 [] []) (lp 0 (body Try.f11) 0) Ou:=lk (vn _ _ _) h4 (n:=0) [] trivial (by kernel_rfl) fun k x=>by kernel_rfl
noncomputable def T5:List (bV×ij):=((11,[]),⟨true,[o3],[o1],u1 JZ⟩)::T4
theorem h5:tT Try.prog T5:=fk (vn 73 [] []) h4 [(0,Ou)] ⟨PK,trivial⟩ Try.func11 (by kernel_rfl) fun x=>by kernel_rfl
noncomputable def T6:List (bV×ij):=((34,[]),⟨true,[a1,a1],[o1],Yi MV⟩)::T5
theorem h6:tT Try.prog T6:=fk (vn 24 [] []) h5 [] trivial Try.func34 (by kernel_rfl) fun x=>by kernel_rfl
noncomputable def Ni:eB:=⟨[(0,o3),(1,o3)],[(6,o4),(7,o2),(8,o2)],[(.ret,[(4,o4),(5,o1)]),(.exit 0,[(6,o4)])],MG⟩
theorem O5:nj Try.prog (env 109 [] []) (lp 0 (body Try.f8) 0) Ni:=lk (vn _ _ _) h6 (n:=0) [] trivial (by kernel_rfl) fun k x=>by kernel_rfl
noncomputable def T7:List (bV×ij):=((8,[]),⟨true,[o3,o3],[o4,o1],u2 Jb⟩)::T6
theorem h7:tT Try.prog T7:=fk (vn 109 [] []) h6 [(0,Ni)] ⟨O5,trivial⟩ Try.func8 (by kernel_rfl) fun x=>by kernel_rfl
noncomputable def T8:List (bV×ij):=((44,[]),⟨false,[a0],[o2],u3 K2⟩)::T7
theorem h8:tT Try.prog T8:=fk (vn 58 [] []) h7 [] trivial Try.func44 (by kernel_rfl) fun x=>by kernel_rfl
noncomputable def T9:List (bV×ij):=((25,[]),⟨false,[a0,o2],[o2],u4 fq⟩)::T8
theorem h9:tT Try.prog T9:=fk (vn 37 [] []) h8 [] trivial Try.func25 (by kernel_rfl) fun x=>by kernel_rfl
noncomputable def WY:List (bV×ij):=((55,[]),⟨false,[a0,o2],[o1],u4 I5⟩)::T9
theorem h10:tT Try.prog WY:=fk (vn 9 [] []) h9 [] trivial Try.func55 (by kernel_rfl) fun x=>by kernel_rfl
noncomputable def ON:eB:=⟨[(0,o3),(1,o2)],[(14,o4),(15,a2),(16,o2),(17,o2)],[(.exit 0,[(14,o4),(15,a2),(16,o2)])],NY⟩
theorem PU:nj Try.prog (env 88 [] []) (lp 0 (body Try.f22) 0) ON:=lk (vn _ _ _) h10 (n:=0) [] trivial (by kernel_rfl) fun k x=>by kernel_rfl
noncomputable def WZ:List (bV×ij):=((22,[]),⟨true,[o3,o2,o2,o2,o2,o2],[o4,o1],u6 Js⟩)::WY
theorem h11:tT Try.prog WZ:=fk (vn 88 [] []) h10 [(0,ON)] ⟨PU,trivial⟩ Try.func22 (by kernel_rfl) fun x=>by kernel_rfl
noncomputable def W0:List (bV×ij):=((42,[]),⟨false,[a0,o3,o2],[o4],u5 L0⟩)::WZ
theorem h12:tT Try.prog W0:=fk (vn 32 [] []) h11 [] trivial Try.func42 (by kernel_rfl) fun x=>by kernel_rfl
noncomputable def Vn:List (bV×ij):=((43,[]),⟨false,[a0,o5],[o2],u4 Jl⟩)::W0
theorem Vp:tT Try.prog Vn:=fk (vn 12 [] []) h12 [] trivial Try.func43 (by kernel_rfl) fun x=>by kernel_rfl
noncomputable def J7:Xl:=[]
theorem MH:Rm Try.prog J7:=trivial
theorem MF:QX Try.prog 42 (Ts (env 32 [] []) Vn [] [] J7 Try.f42):=ik (vn 32 [] []) Vp [] [] MH trivial Try.func42 (by kernel_rfl)
noncomputable def Kx:eB:=⟨[],[(0,a0),(4,o4),(5,o2)],[(.exit 0,[(0,a0),(4,o4)])],Lq⟩
theorem NS:nj Try.prog (env 48 [] []) (lp 0 (body Try.f24) 0) Kx:=lk (vn _ _ _) Vp (n:=0) [] trivial (by kernel_rfl) fun k x=>by kernel_rfl
noncomputable def Ky:eB:=⟨[],[(0,a0),(4,o4),(6,o4),(7,o2)],[(.exit 2,[(0,a0),(4,o4),(6,o4)])],Jx⟩
theorem NT:nj Try.prog (env 48 [] []) (lp 0 (body Try.f24) 1) Ky:=lk (vn _ _ _) Vp (n:=2) [] trivial (by kernel_rfl) fun k x=>by kernel_rfl
noncomputable def Kz:eB:=⟨[],[(0,a0),(4,o4),(6,o4),(8,o2)],[(.exit 4,[(0,a0),(4,o4),(6,o4)])],IR⟩
theorem NU:nj Try.prog (env 48 [] []) (lp 0 (body Try.f24) 2) Kz:=lk (vn _ _ _) Vp (n:=4) [] trivial (by kernel_rfl) fun k x=>by kernel_rfl
noncomputable def Ly:Xl:=[(42,Ts (env 32 [] []) Vn [] [] J7 Try.f42)]
theorem Od:Rm Try.prog Ly:=⟨MF,trivial⟩
theorem Oa:QX Try.prog 24 (Ts (env 48 [] []) Vn [(0,Kx),(2,Ky),(4,Kz)] [2,4] Ly Try.f24):=ik (vn 48 [] []) Vp [(0,Kx),(2,Ky),(4,Kz)] [2,4] Od ⟨NS,NT,NU,trivial⟩ Try.func24 (by kernel_rfl)
noncomputable def QD:Xl:=[(24,Ts (env 48 [] []) Vn [(0,Kx),(2,Ky),(4,Kz)] [2,4] Ly Try.f24)]
theorem Qw:Rm Try.prog QD:=⟨Oa,trivial⟩
noncomputable def W1:List (bV×ij):=((45,[]),⟨false,[a0],[o4],u3 Ol⟩)::Vn
theorem XU:tT Try.prog W1:=Yp (vn 48 [] []) Vp [] Qw trivial Try.func45 (by kernel_rfl) fun x=>by kernel_rfl
noncomputable def Ph:eB:=⟨[],[(0,a0),(3,o4)],[(.ret,[(0,a0),(2,o4)]),(.exit 1,[(0,a0),(3,o4)])],NI⟩
theorem Qg:nj Try.prog (env 69 [] []) (lp 0 (body Try.f26) 0) Ph:=lk (vn _ _ _) XU (n:=1) [] trivial (by kernel_rfl) fun k x=>by kernel_rfl
noncomputable def W2:List (bV×ij):=((26,[]),⟨false,[a0],[o4],u3 OW⟩)::W1
theorem Yq:tT Try.prog W2:=fk (vn 69 [] []) XU [(1,Ph)] ⟨Qg,trivial⟩ Try.func26 (by kernel_rfl) fun x=>by kernel_rfl
noncomputable def W3:List (bV×ij):=((13,[]),⟨true,[o0],[o4,o2],u1 M8⟩)::W2
theorem Yr:tT Try.prog W3:=fk (vn 14 [] []) Yq [] trivial Try.func13 (by kernel_rfl) fun x=>by kernel_rfl
noncomputable def W4:List (bV×ij):=((49,[]),⟨true,[o2,o2,o2],[o1],u3 LW⟩)::W3
theorem Ys:tT Try.prog W4:=fk (vn 15 [] []) Yr [] trivial Try.func49 (by kernel_rfl) fun x=>by kernel_rfl
noncomputable def W5:List (bV×ij):=((50,[]),⟨true,[o2],[o1],u1 N6⟩)::W4
theorem Yt:tT Try.prog W5:=fk (vn 5 [] []) Ys [] trivial Try.func50 (by kernel_rfl) fun x=>by kernel_rfl
noncomputable def W6:List (bV×ij):=((35,[]),⟨true,[a1],[o1],u7 Oh⟩)::W5
theorem XV:tT Try.prog W6:=fk (vn 36 [] []) Yt [] trivial Try.func35 (by kernel_rfl) fun x=>by kernel_rfl
noncomputable def Oo:eB:=⟨[(0,o3),(9,o3),(10,o2)],[(11,o2)],[(.ret,[(2,o1)]),(.exit 0,[])],Nu⟩
theorem PG:nj Try.prog (env 53 [] []) (lp 0 (body Try.f10) 0) Oo:=lk (vn _ _ _) XV (n:=0) [] trivial (by kernel_rfl) fun k x=>by kernel_rfl
noncomputable def W7:List (bV×ij):=((10,[]),⟨true,[o3],[o1],u1 MQ⟩)::W6
theorem Yu:tT Try.prog W7:=fk (vn 53 [] []) XV [(0,Oo)] ⟨PG,trivial⟩ Try.func10 (by kernel_rfl) fun x=>by kernel_rfl
noncomputable def W8:List (bV×ij):=((48,[]),⟨true,[o2],[o1],u1 LD⟩)::W7
theorem Yv:tT Try.prog W8:=fk (vn 6 [] []) Yu [] trivial Try.func48 (by kernel_rfl) fun x=>by kernel_rfl
noncomputable def W9:List (bV×ij):=((33,[]),⟨true,[o2,o2],[o2],u2 Mh⟩)::W8
theorem XW:tT Try.prog W9:=fk (vn 20 [] []) Yv [] trivial Try.func33 (by kernel_rfl) fun x=>by kernel_rfl
noncomputable def Pd:eB:=⟨[(3,o2),(6,o5),(7,o2)],[(8,o2)],[(.ret,[(2,o2)]),(.exit 0,[])],Oy⟩
theorem Qc:nj Try.prog (env 18 [] []) (lp 0 (body Try.f32) 0) Pd:=lk (vn _ _ _) XW (n:=0) [] trivial (by kernel_rfl) fun k x=>by kernel_rfl
noncomputable def Xa:List (bV×ij):=((32,[]),⟨true,[o5],[o2],u1 OO⟩)::W9
theorem Yw:tT Try.prog Xa:=fk (vn 18 [] []) XW [(0,Pd)] ⟨Qc,trivial⟩ Try.func32 (by kernel_rfl) fun x=>by kernel_rfl
noncomputable def Xb:List (bV×ij):=((53,[]),⟨true,[o2,o2,.ro t10],[o2],u3 Lg⟩)::Xa
theorem Ww:tT Try.prog Xb:=fk (vn 30 [] []) Yw [] trivial Try.func53 (by kernel_rfl) fun x=>by kernel_rfl
noncomputable def J2:eB:=⟨[(1,o2),(2,o2),(3,.fn 53 [t10]),(8,o2)],[(0,o6),(9,o2)],[(.exit 2,[(0,o6)])],Ju⟩
theorem Lx:nj Try.prog (env 53 [] []) (lp 0 (lp 0 (body Try.f81) 0) 0) J2:=lk (vn _ _ _) Ww (n:=2) [] trivial (by kernel_rfl) fun k x=>by kernel_rfl
noncomputable def J1:eB:=⟨[(1,o2),(2,o2),(3,.fn 53 [t10])],[(0,o6),(8,o2)],[(.exit 0,[(0,o6)])],Jt⟩
theorem Lw:nj Try.prog (env 53 [] []) (lp 0 (body Try.f81) 0) J1:=lk (vn _ _ _) Ww (n:=0) [(2,J2)] ⟨Lx,trivial⟩ (by kernel_rfl) fun k x=>by kernel_rfl
noncomputable def Xc:List (bV×ij):=((81,[53]),⟨true,[o6,o2,o2,.fn 53 [t10]],[],u4 IW⟩)::Xb
theorem XX:tT Try.prog Xc:=fk (vn 53 [] []) Ww [(0,J1)] ⟨Lw,trivial⟩ Try.func81 (by kernel_rfl) fun x=>by kernel_rfl
noncomputable def Kl:eB:=⟨[(1,o2),(2,o2),(3,o2)],[(0,o6),(10,o2)],[(.exit 0,[(0,o6)])],Jz⟩
theorem LG:nj Try.prog (env 38 [] []) (lp 0 (body Try.f89) 0) Kl:=lk (vn _ _ _) XX (n:=0) [] trivial (by kernel_rfl) fun k x=>by kernel_rfl
noncomputable def Xd:List (bV×ij):=((89,[53]),⟨true,[o6,o2,o2,o2,.fn 53 [t10]],[],u5 IF⟩)::Xc
theorem XY:tT Try.prog Xd:=fk (vn 38 [] []) XX [(0,Kl)] ⟨LG,trivial⟩ Try.func89 (by kernel_rfl) fun x=>by kernel_rfl
noncomputable def KK:eB:=⟨[(2,o2),(4,.fn 53 [t10])],[(0,o6),(10,o2),(11,o2)],[(.exit 0,[(0,o6),(10,o2)])],JK⟩
theorem L3:nj Try.prog (env 58 [] []) (lp 0 (body Try.f87) 0) KK:=lk (vn _ _ _) XY (n:=0) [] trivial (by kernel_rfl) fun k x=>by kernel_rfl
noncomputable def UK:List (bV×ij):=((87,[53]),⟨true,[o6,o2,o2,o2,.fn 53 [t10]],[],u5 II⟩)::Xd
theorem U2:tT Try.prog UK:=fk (vn 58 [] []) XY [(0,KK)] ⟨L3,trivial⟩ Try.func87 (by kernel_rfl) fun x=>by kernel_rfl
noncomputable def b9(rec:(List (Int))->Int->Int->Int->(List (Int×Int×Int×Int×Int×Int×Int))->Option ((List (Int))×Unit)):ij:=⟨true,[o6,o2,o2,o2,.fn 53 [t10]],[],u5 rec⟩
noncomputable def Ks(rec:(List (Int))->Int->Int->Int->(List (Int×Int×Int×Int×Int×Int×Int))->Option ((List (Int))×Unit)):eB:=⟨[(1,o2),(4,.fn 53 [t10])],[(0,o6),(10,o2),(11,o2)],[(.exit 0,[(0,o6),(10,o2)])],JA rec⟩
theorem LH(rec:(List (Int))->Int->Int->Int->(List (Int×Int×Int×Int×Int×Int×Int))->Option ((List (Int))×Unit))(hr:eA Try.prog 82 (b9 rec)):nj Try.prog (env 220 [] []) (lp 0 (body Try.f82) 0) (Ks rec):=lk (vn _ _ _) (T:=((82,[53]),b9 rec)::UK) ⟨hr,U2⟩ (n:=0) [] trivial (by kernel_rfl) fun k x=>by kernel_rfl
noncomputable def Kt(rec:(List (Int))->Int->Int->Int->(List (Int×Int×Int×Int×Int×Int×Int))->Option ((List (Int))×Unit)):eB:=⟨[(10,o2)],[(0,o6),(13,o2)],[(.exit 2,[(0,o6)])],JB rec⟩
theorem LI(rec:(List (Int))->Int->Int->Int->(List (Int×Int×Int×Int×Int×Int×Int))->Option ((List (Int))×Unit))(hr:eA Try.prog 82 (b9 rec)):nj Try.prog (env 220 [] []) (lp 0 (body Try.f82) 1) (Kt rec):=lk (vn _ _ _) (T:=((82,[53]),b9 rec)::UK) ⟨hr,U2⟩ (n:=2) [] trivial (by kernel_rfl) fun k x=>by kernel_rfl
noncomputable def Ku(rec:(List (Int))->Int->Int->Int->(List (Int×Int×Int×Int×Int×Int×Int))->Option ((List (Int))×Unit)):eB:=⟨[(2,o2),(4,.fn 53 [t10])],[(0,o6),(14,o2),(15,o2)],[(.exit 4,[(0,o6),(14,o2)])],JC rec⟩
theorem LK(rec:(List (Int))->Int->Int->Int->(List (Int×Int×Int×Int×Int×Int×Int))->Option ((List (Int))×Unit))(hr:eA Try.prog 82 (b9 rec)):nj Try.prog (env 220 [] []) (lp 0 (body Try.f82) 2) (Ku rec):=lk (vn _ _ _) (T:=((82,[53]),b9 rec)::UK) ⟨hr,U2⟩ (n:=4) [] trivial (by kernel_rfl) fun k x=>by kernel_rfl
noncomputable def Kv(rec:(List (Int))->Int->Int->Int->(List (Int×Int×Int×Int×Int×Int×Int))->Option ((List (Int))×Unit)):eB:=⟨[(14,o2)],[(0,o6),(17,o2)],[(.exit 6,[(0,o6)])],JD rec⟩
theorem LL(rec:(List (Int))->Int->Int->Int->(List (Int×Int×Int×Int×Int×Int×Int))->Option ((List (Int))×Unit))(hr:eA Try.prog 82 (b9 rec)):nj Try.prog (env 220 [] []) (lp 0 (body Try.f82) 3) (Kv rec):=lk (vn _ _ _) (T:=((82,[53]),b9 rec)::UK) ⟨hr,U2⟩ (n:=6) [] trivial (by kernel_rfl) fun k x=>by kernel_rfl
noncomputable def Kw(rec:(List (Int))->Int->Int->Int->(List (Int×Int×Int×Int×Int×Int×Int))->Option ((List (Int))×Unit)):eB:=⟨[(1,o2),(2,o2),(3,o2),(4,.fn 53 [t10]),(18,o2),(19,o2),(22,o2)],[(0,o6),(20,o2),(21,o2)],[(.exit 8,[(0,o6),(20,o2)])],IY rec⟩
theorem LM(rec:(List (Int))->Int->Int->Int->(List (Int×Int×Int×Int×Int×Int×Int))->Option ((List (Int))×Unit))(hr:eA Try.prog 82 (b9 rec)):nj Try.prog (env 220 [] []) (lp 0 (body Try.f82) 4) (Kw rec):=lk (vn _ _ _) (T:=((82,[53]),b9 rec)::UK) ⟨hr,U2⟩ (n:=8) [] trivial (by kernel_rfl) fun k x=>by kernel_rfl
theorem LY(rec:(List (Int))->Int->Int->Int->(List (Int×Int×Int×Int×Int×Int×Int))->Option ((List (Int))×Unit))(hr:eA Try.prog 82 (b9 rec)):eA Try.prog 82 (b9 (zb rec)):=(fk (ks:=[]) (vn 220 [] []) (T:=((82,[53]),b9 rec)::UK) ⟨hr,U2⟩ [(0,Ks rec),(2,Kt rec),(4,Ku rec),(6,Kv rec),(8,Kw rec)] ⟨(LH rec hr),(LI rec hr),(LK rec hr),(LL rec hr),(LM rec hr),trivial⟩ Try.func82 (by kernel_rfl) fun x=>by kernel_rfl).1
noncomputable def Xe:List (bV×ij):=((82,[53]),b9 I3)::UK
theorem Wc:tT Try.prog Xe:=⟨DB (F:=fun n=>b9 (IZ n)) (CA (fn:=Try.f82) (c:=body Try.f82) Try.func82 (by kernel_rfl) (by kernel_rfl) (fun _=>rfl)) (fun n h=>LY (IZ n) h) big,U2⟩
noncomputable def KL:eB:=⟨[(1,o2),(2,.fn 53 [t10]),(6,o2)],[(0,o6),(7,o2),(8,o2)],[(.exit 0,[(0,o6),(7,o2)])],JL⟩
theorem L4:nj Try.prog (env 63 [] []) (lp 0 (body Try.f66) 0) KL:=lk (vn _ _ _) Wc (n:=0) [] trivial (by kernel_rfl) fun k x=>by kernel_rfl
noncomputable def KN:eB:=⟨[(1,o2),(2,.fn 53 [t10]),(6,o2)],[(0,o6),(7,o2),(8,o2)],[(.exit 4,[(0,o6),(7,o2)])],Jk⟩
theorem L6:nj Try.prog (env 63 [] []) (lp 2 (lp 0 (body Try.f66) 1) 0) KN:=lk (vn _ _ _) Wc (n:=4) [] trivial (by kernel_rfl) fun k x=>by kernel_rfl
noncomputable def KM:eB:=⟨[(1,o2),(2,.fn 53 [t10])],[(0,o6),(6,o2)],[(.exit 2,[(0,o6)])],JM⟩
theorem L5:nj Try.prog (env 63 [] []) (lp 0 (body Try.f66) 1) KM:=lk (vn _ _ _) Wc (n:=2) [(4,KN)] ⟨L6,trivial⟩ (by kernel_rfl) fun k x=>by kernel_rfl
noncomputable def Xf:List (bV×ij):=((66,[53]),⟨true,[o6,o2,.fn 53 [t10]],[],u3 I6⟩)::Xe
theorem Yx:tT Try.prog Xf:=fk (vn 63 [] []) Wc [(0,KL),(2,KM)] ⟨L4,L5,trivial⟩ Try.func66 (by kernel_rfl) fun x=>by kernel_rfl
noncomputable def Xg:List (bV×ij):=((52,[53]),⟨true,[o6,.fn 53 [t10]],[],u2 I7⟩)::Xf
theorem UO:tT Try.prog Xg:=fk (vn 9 [] []) Yx [] trivial Try.func52 (by kernel_rfl) fun x=>by kernel_rfl
noncomputable def O0:eB:=⟨[(9,o2)],[(1,.blk [v3]),(3,o6),(10,o2)],[(.exit 0,[(1,.blk [v3]),(3,o6)])],N9⟩
theorem P5:nj Try.prog (env 22 [] []) (lp 0 (body Try.f37) 0) O0:=lk (vn _ _ _) UO (n:=0) [] trivial (by kernel_rfl) fun k x=>by kernel_rfl
noncomputable def Xh:List (bV×ij):=((37,[]),⟨true,[o3],[o6],u1 Nv⟩)::Xg
theorem XZ:tT Try.prog Xh:=fk (vn 22 [] []) UO [(0,O0)] ⟨P5,trivial⟩ Try.func37 (by kernel_rfl) fun x=>by kernel_rfl
noncomputable def Pe:eB:=⟨[(0,o3),(1,o2),(13,o2)],[(4,a2),(5,a2),(12,o6),(14,o2)],[(.exit 0,[(4,a2),(5,a2)])],OI⟩
theorem Qd:nj Try.prog (env 71 [] []) (lp 0 (body Try.f14) 0) Pe:=lk (vn _ _ _) XZ (n:=0) [] trivial (by kernel_rfl) fun k x=>by kernel_rfl
noncomputable def Xi:List (bV×ij):=((14,[]),⟨true,[o3,o2],[a1],u2 LV⟩)::Xh
theorem Wx:tT Try.prog Xi:=fk (vn 71 [] []) XZ [(0,Pe)] ⟨Qd,trivial⟩ Try.func14 (by kernel_rfl) fun x=>by kernel_rfl
noncomputable def O3:eB:=⟨[(0,o3),(4,o2)],[(3,o6),(5,o2)],[(.exit 2,[(3,o6)])],Oc⟩
theorem P8:nj Try.prog (env 65 [] []) (lp 0 (lp 0 (body Try.f38) 0) 0) O3:=lk (vn _ _ _) Wx (n:=2) [] trivial (by kernel_rfl) fun k x=>by kernel_rfl
noncomputable def O2:eB:=⟨[(0,o3)],[(3,o6),(4,o2)],[(.exit 0,[(3,o6)])],Na⟩
theorem P7:nj Try.prog (env 65 [] []) (lp 0 (body Try.f38) 0) O2:=lk (vn _ _ _) Wx (n:=0) [(2,O3)] ⟨P8,trivial⟩ (by kernel_rfl) fun k x=>by kernel_rfl
noncomputable def Xj:List (bV×ij):=((38,[]),⟨true,[o3],[o6],u1 NG⟩)::Xi
theorem Yy:tT Try.prog Xj:=fk (vn 65 [] []) Wx [(0,O2)] ⟨P7,trivial⟩ Try.func38 (by kernel_rfl) fun x=>by kernel_rfl
noncomputable def Xk:List (bV×ij):=((39,[]),⟨true,[a1,a1],[a1],Yi NJ⟩)::Xj
theorem X0:tT Try.prog Xk:=fk (vn 68 [] []) Yy [] trivial Try.func39 (by kernel_rfl) fun x=>by kernel_rfl
noncomputable def Pf:eB:=⟨[(0,o3),(1,o2)],[(4,a2),(5,a2),(6,o6),(7,o2)],[(.exit 0,[(4,a2),(5,a2)])],ND⟩
theorem Qe:nj Try.prog (env 33 [] []) (lp 0 (body Try.f15) 0) Pf:=lk (vn _ _ _) X0 (n:=0) [] trivial (by kernel_rfl) fun k x=>by kernel_rfl
noncomputable def Xm:List (bV×ij):=((15,[]),⟨true,[o3,o2],[a1],u2 LC⟩)::Xk
theorem Yz:tT Try.prog Xm:=fk (vn 33 [] []) X0 [(0,Pf)] ⟨Qe,trivial⟩ Try.func15 (by kernel_rfl) fun x=>by kernel_rfl
noncomputable def Xn:List (bV×ij):=((64,[]),⟨true,[o7],[o2],u1 Qu⟩)::Xm
theorem YA:tT Try.prog Xn:=fk (vn 19 [] []) Yz [] trivial Try.func64 (by kernel_rfl) fun x=>by kernel_rfl
noncomputable def Xo:List (bV×ij):=((65,[]),⟨true,[o8],[o2],u1 Pj⟩)::Xn
theorem YB:tT Try.prog Xo:=fk (vn 25 [] []) YA [] trivial Try.func65 (by kernel_rfl) fun x=>by kernel_rfl
noncomputable def Xp:List (bV×ij):=((47,[]),⟨true,[o8],[o2],u1 M3⟩)::Xo
theorem YC:tT Try.prog Xp:=fk (vn 8 [] []) YB [] trivial Try.func47 (by kernel_rfl) fun x=>by kernel_rfl
noncomputable def Xq:List (bV×ij):=((73,[]),⟨true,[o2,o2],[o1],u2 zc⟩)::Xp
theorem Wy:tT Try.prog Xq:=fk (vn 17 [] []) YC [] trivial Try.func73 (by kernel_rfl) fun x=>by kernel_rfl
noncomputable def Lt:eB:=⟨[(1,o2),(2,o2),(6,o2)],[(0,o6),(7,o2)],[(.exit 2,[(0,o6)])],JP⟩
theorem MZ:nj Try.prog (env 49 [] []) (lp 0 (lp 0 (body Try.f67) 0) 0) Lt:=lk (vn _ _ _) Wy (n:=2) [] trivial (by kernel_rfl) fun k x=>by kernel_rfl
noncomputable def Ls:eB:=⟨[(1,o2),(2,o2)],[(0,o6),(6,o2)],[(.exit 0,[(0,o6)])],JO⟩
theorem MY:nj Try.prog (env 49 [] []) (lp 0 (body Try.f67) 0) Ls:=lk (vn _ _ _) Wy (n:=0) [(2,Lt)] ⟨MZ,trivial⟩ (by kernel_rfl) fun k x=>by kernel_rfl
noncomputable def Xr:List (bV×ij):=((67,[]),⟨true,[o6,o2,o2],[],u3 J5⟩)::Xq
theorem X1:tT Try.prog Xr:=fk (vn 49 [] []) Wy [(0,Ls)] ⟨MY,trivial⟩ Try.func67 (by kernel_rfl) fun x=>by kernel_rfl
noncomputable def L9:eB:=⟨[(2,o2),(3,o2)],[(0,o6),(8,o2)],[(.exit 0,[(0,o6)]),(.ret,[(0,o6)])],Kk⟩
theorem Nz:nj Try.prog (env 76 [] []) (lp 0 (body Try.f83) 0) L9:=lk (vn _ _ _) X1 (n:=0) [] trivial (by kernel_rfl) fun k x=>by kernel_rfl
noncomputable def Xs:List (bV×ij):=((83,[]),⟨true,[o6,o2,o2,o2],[],u4 J6⟩)::Xr
theorem Wz:tT Try.prog Xs:=fk (vn 76 [] []) X1 [(0,L9)] ⟨Nz,trivial⟩ Try.func83 (by kernel_rfl) fun x=>by kernel_rfl
noncomputable def L7:eB:=⟨[(6,o2),(7,o2),(8,o2)],[(0,o6),(9,o2)],[(.exit 0,[(0,o6)])],Ki⟩
theorem Nx:nj Try.prog (env 56 [] []) (lp 0 (body Try.f68) 0) L7:=lk (vn _ _ _) Wz (n:=0) [] trivial (by kernel_rfl) fun k x=>by kernel_rfl
noncomputable def L8:eB:=⟨[(6,o2),(7,o2)],[(0,o6),(10,o2)],[(.exit 2,[(0,o6)])],Kj⟩
theorem Ny:nj Try.prog (env 56 [] []) (lp 0 (body Try.f68) 1) L8:=lk (vn _ _ _) Wz (n:=2) [] trivial (by kernel_rfl) fun k x=>by kernel_rfl
noncomputable def T42:List (bV×ij):=((68,[]),⟨true,[o6,o2,o2],[],u3 KQ⟩)::Xs
theorem YD:tT Try.prog T42:=fk (vn 56 [] []) Wz [(0,L7),(2,L8)] ⟨Nx,Ny,trivial⟩ Try.func68 (by kernel_rfl) fun x=>by kernel_rfl
noncomputable def Xt:List (bV×ij):=((77,[]),⟨true,[o2],[o8],u1 KC⟩)::T42
theorem YE:tT Try.prog Xt:=fk (vn 7 [] []) YD [] trivial Try.func77 (by kernel_rfl) fun x=>by kernel_rfl
noncomputable def Xu:List (bV×ij):=((78,[]),⟨false,[.blk [v6]],[o8],u1 __slices_xorshift__Next⟩)::Xt
theorem X2:tT Try.prog Xu:=fk (vn 33 [] []) YE [] trivial Try.func78 (by kernel_rfl) fun x=>by kernel_rfl
noncomputable def Lr:eB:=⟨[(1,o2),(6,o2),(8,o8)],[(0,o6),(7,.blk [v6]),(9,o2)],[(.exit 0,[(0,o6)])],JN⟩
theorem MX:nj Try.prog (env 65 [] []) (lp 0 (body Try.f69) 0) Lr:=lk (vn _ _ _) X2 (n:=0) [] trivial (by kernel_rfl) fun k x=>by kernel_rfl
noncomputable def Xv:List (bV×ij):=((69,[]),⟨true,[o6,o2,o2],[],u3 J4⟩)::Xu
theorem YF:tT Try.prog Xv:=fk (vn 65 [] []) X2 [(0,Lr)] ⟨MX,trivial⟩ Try.func69 (by kernel_rfl) fun x=>by kernel_rfl
noncomputable def Xw:List (bV×ij):=((88,[]),⟨false,[o5,o2,o2,.blk [v2]],[o2,o2],u4 JS⟩)::Xv
theorem h46:tT Try.prog Xw:=fk (vn 28 [] []) YF [] trivial Try.func88 (by kernel_rfl) fun x=>by kernel_rfl
noncomputable def Xx:List (bV×ij):=((85,[]),⟨false,[o5,o2,o2,o2,.blk [v2]],[o2],u5 JR⟩)::Xw
theorem h47:tT Try.prog Xx:=fk (vn 36 [] []) h46 [] trivial Try.func85 (by kernel_rfl) fun x=>by kernel_rfl
noncomputable def Xy:List (bV×ij):=((84,[]),⟨false,[o5,o2,.blk [v2]],[o2],u3 Ji⟩)::Xx
theorem h48:tT Try.prog Xy:=fk (vn 15 [] []) h47 [] trivial Try.func84 (by kernel_rfl) fun x=>by kernel_rfl
noncomputable def Xz:List (bV×ij):=((70,[]),⟨true,[o5,o2,o2],[o2,o2],u3 JJ⟩)::Xy
theorem X3:tT Try.prog Xz:=fk (vn 57 [] []) h48 [] trivial Try.func70 (by kernel_rfl) fun x=>by kernel_rfl
noncomputable def LB:eB:=⟨[],[(0,o6),(6,o2),(7,o2)],[(.exit 0,[(0,o6)])],JX⟩
theorem M2:nj Try.prog (env 32 [] []) (lp 0 (body Try.f71) 0) LB:=lk (vn _ _ _) X3 (n:=0) [] trivial (by kernel_rfl) fun k x=>by kernel_rfl
noncomputable def XA:List (bV×ij):=((71,[]),⟨true,[o6,o2,o2],[],u3 JE⟩)::Xz
theorem TU:tT Try.prog XA:=fk (vn 32 [] []) X3 [(0,LB)] ⟨M2,trivial⟩ Try.func71 (by kernel_rfl) fun x=>by kernel_rfl
noncomputable def KS:eB:=⟨[(1,o2),(2,o2),(8,o2)],[(0,o6),(7,o2)],[(.exit 2,[(0,o6),(7,o2)])],Jq⟩
theorem Mm:nj Try.prog (env 133 [] []) (lp 0 (lp 0 (body Try.f72) 0) 0) KS:=lk (vn _ _ _) TU (n:=2) [] trivial (by kernel_rfl) fun k x=>by kernel_rfl
noncomputable def KT:eB:=⟨[(1,o2),(2,o2),(7,o2),(8,o2)],[(0,o6),(9,o2)],[(.exit 4,[(0,o6)])],Jr⟩
theorem Mn:nj Try.prog (env 133 [] []) (lp 0 (lp 0 (body Try.f72) 0) 1) KT:=lk (vn _ _ _) TU (n:=4) [] trivial (by kernel_rfl) fun k x=>by kernel_rfl
noncomputable def KU:eB:=⟨[(1,o2),(2,o2),(7,o2),(8,o2)],[(0,o6),(10,o2)],[(.exit 6,[(0,o6)])],I4⟩
theorem Mo:nj Try.prog (env 133 [] []) (lp 0 (lp 0 (body Try.f72) 0) 2) KU:=lk (vn _ _ _) TU (n:=6) [] trivial (by kernel_rfl) fun k x=>by kernel_rfl
noncomputable def KR:eB:=⟨[(1,o2),(2,o2)],[(0,o6),(7,o2),(8,o2)],[(.ret,[(0,o6),(6,o1)]),(.exit 0,[(0,o6)])],Jp⟩
theorem Ml:nj Try.prog (env 133 [] []) (lp 0 (body Try.f72) 0) KR:=lk (vn _ _ _) TU (n:=0) [(2,KS),(4,KT),(6,KU)] ⟨Mm,Mn,Mo,trivial⟩ (by kernel_rfl) fun k x=>by kernel_rfl
noncomputable def XB:List (bV×ij):=((72,[]),⟨true,[o6,o2,o2],[o1],u3 IL⟩)::XA
theorem Wd:tT Try.prog XB:=fk (vn 133 [] []) TU [(0,KR)] ⟨Ml,trivial⟩ Try.func72 (by kernel_rfl) fun x=>by kernel_rfl
noncomputable def Lm:eB:=⟨[(1,o2),(10,o2)],[(0,o6),(9,o2)],[(.exit 2,[(0,o6),(9,o2)])],JG⟩
theorem MS:nj Try.prog (env 84 [] []) (lp 0 (lp 0 (body Try.f74) 0) 0) Lm:=lk (vn _ _ _) Wd (n:=2) [] trivial (by kernel_rfl) fun k x=>by kernel_rfl
noncomputable def Ln:eB:=⟨[(1,o2),(9,o2)],[(0,o6),(10,o2)],[(.exit 4,[(0,o6),(10,o2)])],JH⟩
theorem MT:nj Try.prog (env 84 [] []) (lp 0 (lp 0 (body Try.f74) 0) 1) Ln:=lk (vn _ _ _) Wd (n:=4) [] trivial (by kernel_rfl) fun k x=>by kernel_rfl
noncomputable def Ll:eB:=⟨[(1,o2)],[(0,o6),(9,o2),(10,o2)],[(.exit 0,[(0,o6),(9,o2)])],JF⟩
theorem MR:nj Try.prog (env 84 [] []) (lp 0 (body Try.f74) 0) Ll:=lk (vn _ _ _) Wd (n:=0) [(2,Lm),(4,Ln)] ⟨MS,MT,trivial⟩ (by kernel_rfl) fun k x=>by kernel_rfl
noncomputable def XC:List (bV×ij):=((74,[]),⟨true,[o6,o2,o2,o2],[o2],u4 kW⟩)::XB
theorem Vq:tT Try.prog XC:=fk (vn 84 [] []) Wd [(0,Ll)] ⟨MR,trivial⟩ Try.func74 (by kernel_rfl) fun x=>by kernel_rfl
noncomputable def LO:eB:=⟨[(1,o2),(11,o2)],[(0,o6),(10,o2)],[(.exit 0,[(0,o6),(10,o2)])],J8⟩
theorem Nc:nj Try.prog (env 168 [] []) (lp 0 (body Try.f75) 0) LO:=lk (vn _ _ _) Vq (n:=0) [] trivial (by kernel_rfl) fun k x=>by kernel_rfl
noncomputable def LP:eB:=⟨[(1,o2),(10,o2)],[(0,o6),(11,o2)],[(.exit 2,[(0,o6),(11,o2)])],J9⟩
theorem Nd:nj Try.prog (env 168 [] []) (lp 0 (body Try.f75) 1) LP:=lk (vn _ _ _) Vq (n:=2) [] trivial (by kernel_rfl) fun k x=>by kernel_rfl
noncomputable def LR:eB:=⟨[(1,o2),(11,o2)],[(0,o6),(10,o2)],[(.exit 6,[(0,o6),(10,o2)])],Kb⟩
theorem Ng:nj Try.prog (env 168 [] []) (lp 4 (lp 0 (body Try.f75) 2) 0) LR:=lk (vn _ _ _) Vq (n:=6) [] trivial (by kernel_rfl) fun k x=>by kernel_rfl
noncomputable def LS:eB:=⟨[(1,o2),(10,o2)],[(0,o6),(11,o2)],[(.exit 8,[(0,o6),(11,o2)])],Kc⟩
theorem Nh:nj Try.prog (env 168 [] []) (lp 4 (lp 0 (body Try.f75) 2) 1) LS:=lk (vn _ _ _) Vq (n:=8) [] trivial (by kernel_rfl) fun k x=>by kernel_rfl
noncomputable def LQ:eB:=⟨[(1,o2)],[(0,o6),(10,o2),(11,o2)],[(.exit 4,[(0,o6),(11,o2)])],Ka⟩
theorem Nf:nj Try.prog (env 168 [] []) (lp 0 (body Try.f75) 2) LQ:=lk (vn _ _ _) Vq (n:=4) [(6,LR),(8,LS)] ⟨Ng,Nh,trivial⟩ (by kernel_rfl) fun k x=>by kernel_rfl
noncomputable def V6:List (bV×ij):=((75,[]),⟨true,[o6,o2,o2,o2],[o2,o1],u4 bf⟩)::XC
theorem WA:tT Try.prog V6:=fk (vn 168 [] []) Vq [(0,LO),(2,LP),(4,LQ)] ⟨Nc,Nd,Nf,trivial⟩ Try.func75 (by kernel_rfl) fun x=>by kernel_rfl
noncomputable def Jj(rec:(List (Int))->Int->Int->Int->Option ((List (Int))×Unit)):ij:=⟨true,[o6,o2,o2,o2],[],u4 rec⟩
noncomputable def Mg(rec:(List (Int))->Int->Int->Int->Option ((List (Int))×Unit)):eB:=⟨[],[(0,o6),(1,o2),(2,o2),(3,o2),(8,o1),(9,o1)],[(.ret,[(0,o6)])],KA rec⟩
theorem NM(rec:(List (Int))->Int->Int->Int->Option ((List (Int))×Unit))(hr:eA Try.prog 54 (Jj rec)):nj Try.prog (env 134 [] []) (lp 0 (body Try.f54) 0) (Mg rec):=lk (vn _ _ _) (T:=((54,[]),Jj rec)::V6) ⟨hr,WA⟩ (n:=0) [] trivial (by kernel_rfl) fun k x=>by kernel_rfl
theorem NW(rec:(List (Int))->Int->Int->Int->Option ((List (Int))×Unit))(hr:eA Try.prog 54 (Jj rec)):eA Try.prog 54 (Jj (KI rec)):=(fk (ks:=[]) (vn 134 [] []) (T:=((54,[]),Jj rec)::V6) ⟨hr,WA⟩ [(0,Mg rec)] ⟨(NM rec hr),trivial⟩ Try.func54 (by kernel_rfl) fun x=>by kernel_rfl).1
noncomputable def XD:List (bV×ij):=((54,[]),Jj K0)::V6
theorem YG:tT Try.prog XD:=⟨DB (F:=fun n=>Jj (Jw n)) (CA (fn:=Try.f54) (c:=body Try.f54) Try.func54 (by kernel_rfl) (by kernel_rfl) (fun _=>rfl)) (fun n h=>NW (Jw n) h) big,WA⟩
noncomputable def XE:List (bV×ij):=((40,[]),⟨true,[o6],[],u1 LA⟩)::XD
theorem YH:tT Try.prog XE:=fk (vn 11 [] []) YG [] trivial Try.func40 (by kernel_rfl) fun x=>by kernel_rfl
noncomputable def XF:List (bV×ij):=((41,[]),xP 3)::XE
theorem X4:tT Try.prog XF:=⟨C1 Go.Proofs.Try.lays20 3,YH⟩
noncomputable def Oq:eB:=⟨[(9,o3),(10,o2)],[(3,o6),(11,o2)],[(.exit 0,[(3,o6)])],Nw⟩
theorem PI:nj Try.prog (env 25 [] []) (lp 0 (body Try.f19) 0) Oq:=lk (vn _ _ _) X4 (n:=0) [] trivial (by kernel_rfl) fun k x=>by kernel_rfl
noncomputable def XG:List (bV×ij):=((19,[]),⟨true,[o3],[o6],u1 KY⟩)::XF
theorem X5:tT Try.prog XG:=fk (vn 25 [] []) X4 [(0,Oq)] ⟨PI,trivial⟩ Try.func19 (by kernel_rfl) fun x=>by kernel_rfl
noncomputable def Om:eB:=⟨[(0,o3),(8,o2)],[(3,o2),(7,o6),(9,o2)],[(.exit 0,[(3,o2)])],Ns⟩
theorem PF:nj Try.prog (env 21 [] []) (lp 0 (body Try.f16) 0) Om:=lk (vn _ _ _) X5 (n:=0) [] trivial (by kernel_rfl) fun k x=>by kernel_rfl
noncomputable def XH:List (bV×ij):=((16,[]),⟨true,[o3],[o2],u1 Nr⟩)::XG
theorem WB:tT Try.prog XH:=fk (vn 21 [] []) X5 [(0,Om)] ⟨PF,trivial⟩ Try.func16 (by kernel_rfl) fun x=>by kernel_rfl
noncomputable def Ow:eB:=⟨[(0,o3),(4,o2)],[(3,o6),(5,o2)],[(.exit 2,[(3,o6)])],MM⟩
theorem PM:nj Try.prog (env 33 [] []) (lp 0 (lp 0 (body Try.f20) 0) 0) Ow:=lk (vn _ _ _) WB (n:=2) [] trivial (by kernel_rfl) fun k x=>by kernel_rfl
noncomputable def Ov:eB:=⟨[(0,o3)],[(3,o6),(4,o2)],[(.exit 0,[(3,o6)])],ML⟩
theorem PL:nj Try.prog (env 33 [] []) (lp 0 (body Try.f20) 0) Ov:=lk (vn _ _ _) WB (n:=0) [(2,Ow)] ⟨PM,trivial⟩ (by kernel_rfl) fun k x=>by kernel_rfl
noncomputable def XI:List (bV×ij):=((20,[]),⟨true,[o3],[o6],u1 Mr⟩)::XH
theorem X6:tT Try.prog XI:=fk (vn 33 [] []) WB [(0,Ov)] ⟨PL,trivial⟩ Try.func20 (by kernel_rfl) fun x=>by kernel_rfl
noncomputable def Ot:eB:=⟨[(0,o3)],[(3,o2),(4,o6),(5,o2)],[(.exit 0,[(3,o2)])],NC⟩
theorem PJ:nj Try.prog (env 24 [] []) (lp 0 (body Try.f17) 0) Ot:=lk (vn _ _ _) X6 (n:=0) [] trivial (by kernel_rfl) fun k x=>by kernel_rfl
noncomputable def XJ:List (bV×ij):=((17,[]),⟨true,[o3],[o2],u1 NB⟩)::XI
theorem S9:tT Try.prog XJ:=fk (vn 24 [] []) X6 [(0,Ot)] ⟨PJ,trivial⟩ Try.func17 (by kernel_rfl) fun x=>by kernel_rfl
noncomputable def OM:eB:=⟨[(0,o5),(1,o5)],[(5,o2)],[(.ret,[(4,o1)]),(.exit 0,[])],NR⟩
theorem PT:nj Try.prog (env 26 [] []) (lp 0 (body Try.f18) 0) OM:=lk (vn _ _ _) S9 (n:=0) [] trivial (by kernel_rfl) fun k x=>by kernel_rfl
noncomputable def XK:List (bV×ij):=((18,[]),⟨true,[o5,o5],[o1],u2 N3⟩)::XJ
theorem X7:tT Try.prog XK:=fk (vn 26 [] []) S9 [(0,OM)] ⟨PT,trivial⟩ Try.func18 (by kernel_rfl) fun x=>by kernel_rfl
noncomputable def PY:eB:=⟨[(0,o5),(1,o2)],[(5,o2)],[(.ret,[(4,o1)]),(.exit 0,[])],Pr⟩
theorem QR:nj Try.prog (env 18 [] []) (lp 0 (body Try.f21) 0) PY:=lk (vn _ _ _) X7 (n:=0) [] trivial (by kernel_rfl) fun k x=>by kernel_rfl
noncomputable def XL:List (bV×ij):=((21,[]),⟨true,[o5,o2],[o1],u2 Pp⟩)::XK
theorem X8:tT Try.prog XL:=fk (vn 18 [] []) X7 [(0,PY)] ⟨QR,trivial⟩ Try.func21 (by kernel_rfl) fun x=>by kernel_rfl
noncomputable def O1:eB:=⟨[(4,o2)],[(3,o4),(5,a2),(6,o2),(7,o2)],[(.exit 0,[(3,o4),(5,a2),(6,o2)])],M7⟩
theorem P6:nj Try.prog (env 144 [] []) (lp 0 (body Try.f4) 0) O1:=lk (vn _ _ _) X8 (n:=0) [] trivial (by kernel_rfl) fun k x=>by kernel_rfl
noncomputable def MN:ij:=⟨true,[o0],[o1],u1 O8⟩
noncomputable def Yn:List (bV×ij):=((4,[]),MN)::XL
theorem h63:tT Try.prog Yn:=fk (vn 144 [] []) X8 [(0,O1)] ⟨P6,trivial⟩ Try.func4 (by kernel_rfl) fun x=>by kernel_rfl
theorem Qv:eA Try.prog 4 MN:=h63.1
end Go.Proofs.Ytajokmncfidfjaa.fnFates

