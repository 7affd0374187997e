/- What each function that the law FnEvents reaches promises: it computes what its plain function says. Conditions: none. -/
import Derived.Test.YtajokmncfidfjaaDoorRows
import Derived.Test.YtajokmncfidfjaaDoorFnEventsQB
import Derived.Test.YtajokmncfidfjaaDoorFnEventsS171
import Derived.KernelRfl
set_option linter.unusedVariables false
set_option linter.unusedSimpArgs false
namespace Go.Proofs.YtajokmncfidfjaaDoor.fnEvents
open Go.R Go.Fn
set_option maxRecDepth 100000
abbrev t0:aK:=.cons (.int .i64) .nil
abbrev t1:aK:=.cons .bool .nil
abbrev t2:aK:=.cons (.int .u8) .nil
abbrev t3:aK:=.cons (.int .i64) (.cons (.int .i64) (.cons .bool (.cons (.int .u8) .nil)))
abbrev t4:aK:=.cons .str .nil
abbrev t5:aK:=.cons (.int .u64) .nil
abbrev t6:aK:=.cons .str (.cons (.int .u64) .nil)
abbrev t7:aK:=.cons (.int .i32) .nil
abbrev t8:aK:=.cons (.sl 5 t2) .nil
abbrev t9:aK:=.cons (.int .i64) (.cons (.int .i64) (.cons (.int .i64) (.cons (.int .i64) (.cons (.int .i64) (.cons (.int .i64) (.cons (.int .i64) .nil))))))
abbrev t10:aK:=.cons (.sl 34 t9) .nil
abbrev t11:aK:=.cons (.sl 3 t0) .nil
abbrev t12:aK:=.cons (.sl 9 t4) .nil
abbrev t13:aK:=.cons (.sl 5 t2) (.cons (.int .i64) (.cons (.int .i64) .nil))
abbrev t14:aK:=.cons (.int .u32) .nil
abbrev v0:K:=.val (.sl 5 t2)
abbrev v1:K:=.val .bool
abbrev v2:K:=.val (.int .i64)
abbrev v3:K:=.val (.sl 34 t9)
abbrev v4:K:=.val (.sl 3 t0)
abbrev v5:K:=.val .str
abbrev v6:K:=.val (.int .u8)
abbrev v7:K:=.arr 34 t9 false
abbrev v8:K:=.arr 3 t0 false
abbrev o0:Sh:=.one v0
abbrev o1:Sh:=.one v1
abbrev o2:Sh:=.one v2
abbrev o3:Sh:=.one v3
abbrev o4:Sh:=.one v7
abbrev o5:Sh:=.one v4
abbrev o6:Sh:=.one v8
abbrev o7:Sh:=.one v5
abbrev o8:Sh:=.one v6
abbrev a0:Sh:=.blk [v0,v2,v2]
abbrev a1:Sh:=.agg [v2,v2,v2,v2,v2,v2,v2]
abbrev a2:Sh:=.blk [v2,v2,v2,v2,v2,v2,v2]
noncomputable def table:List (Nat×TI):=[(2,⟨t0,false,8,[],none⟩),
 (3,⟨t0,false,8,[],none⟩),
 (4,⟨t1,false,1,[],none⟩),
 (5,⟨t2,false,1,[],none⟩),
 (6,⟨t2,false,1,[],none⟩),
 (7,⟨t3,true,24,[(0,1,false),(1,1,false),(2,1,false),(3,1,false)],none⟩),
 (8,⟨t3,true,24,[(0,1,false),(1,1,false),(2,1,false),(3,1,false)],none⟩),
 (9,⟨t4,false,16,[],none⟩),
 (10,⟨t4,false,16,[],none⟩),
 (11,⟨t4,false,16,[],none⟩),
 (12,⟨t5,false,8,[],none⟩),
 (13,⟨t6,true,24,[(0,1,false),(1,1,false)],none⟩),
 (14,⟨t6,true,24,[(0,1,false),(1,1,false)],none⟩),
 (21,⟨t7,false,4,[],none⟩),
 (22,⟨t8,false,24,[],some 5⟩),
 (24,⟨t10,false,24,[],some 34⟩),
 (30,⟨t11,false,24,[],some 3⟩),
 (33,⟨t9,true,56,[(0,1,false),(1,1,false),(2,1,false),(3,1,false),(4,1,false),(5,1,false),(6,1,false)],none⟩),
 (34,⟨t9,true,56,[(0,1,false),(1,1,false),(2,1,false),(3,1,false),(4,1,false),(5,1,false),(6,1,false)],none⟩),
 (49,⟨t12,false,24,[],some 9⟩),
 (51,⟨t13,true,40,[(0,1,false),(1,1,false),(2,1,false)],none⟩),
 (52,⟨t13,true,40,[(0,1,false),(1,1,false),(2,1,false)],none⟩),
 (64,⟨t5,false,8,[],none⟩),
 (71,⟨t5,false,8,[],none⟩),
 (79,⟨t14,false,4,[],none⟩),
 (92,⟨t2,false,1,[],none⟩),
 (93,⟨t2,false,1,[],none⟩),
 (96,⟨t7,false,4,[],none⟩),
 (97,⟨t7,false,4,[],none⟩)]
theorem Pg:CY Tryd.prog table=true:=by kernel_rfl
noncomputable def eqs:List Nat:=[34]
theorem Qf:(eqs.all fun t=>vW Tryd.prog (uY table) t)=true:=by kernel_rfl
noncomputable def maps:List (Nat×IntKind):=[]
theorem PJ:(maps.all fun p=>CZ Tryd.prog p.1 p.2)=true:=by kernel_rfl
noncomputable def env(nt:Nat)(tr dp:List Nat):Env:={ ti:=uY table,deep:=fun d=>dp.any (Nat.beq d),trunc:=fun d=>tr.any (Nat.beq d),ro:=fun _=>false,E9:=fun t=>eqs.any (Nat.beq t),mp:=xC maps,nt:=nt }
theorem fe(nt:Nat)(tr dp:List Nat):cq Tryd.prog (env nt tr dp):=D7 (by kernel_rfl) Pg Qf PJ _ rfl (fun _=>rfl) rfl
noncomputable def u1{A0 B C:Type}(f:A0->C)(x:A0×B):C:=f x.1
noncomputable def u2{A0 A1 B C:Type}(f:A0->A1->C)(x:A0×A1×B):C:=f x.1 x.2.1
noncomputable def u3{A0 A1 A2 B C:Type}(f:A0->A1->A2->C)(x:A0×A1×A2×B):C:=f x.1 x.2.1 x.2.2.1
noncomputable def u4{A0 A1 A2 A3 B C:Type}(f:A0->A1->A2->A3->C)(x:A0×A1×A2×A3×B):C:=f x.1 x.2.1 x.2.2.1 x.2.2.2.1
noncomputable def u5{A0 A1 A2 A3 A4 B C:Type}(f:A0->A1->A2->A3->A4->C)(x:A0×A1×A2×A3×A4×B):C:=f x.1 x.2.1 x.2.2.1 x.2.2.2.1 x.2.2.2.2.1
noncomputable def u6{A0 A1 A2 A3 A4 A5 B C:Type}(f:A0->A1->A2->A3->A4->A5->C)(x:A0×A1×A2×A3×A4×A5×B):C:=f x.1 x.2.1 x.2.2.1 x.2.2.2.1 x.2.2.2.2.1 x.2.2.2.2.2.1
noncomputable def u7{A0 A1 A2 A3 A4 A5 A6 B C:Type}(f:A0->A1->A2->A3->A4->A5->A6->C)(x:A0×A1×A2×A3×A4×A5×A6×B):C:=f x.1 x.2.1 x.2.2.1 x.2.2.2.1 x.2.2.2.2.1 x.2.2.2.2.2.1 x.2.2.2.2.2.2.1
noncomputable def u8{A0 A1 A2 A3 A4 A5 A6 A7 B C:Type}(f:A0->A1->A2->A3->A4->A5->A6->A7->C)(x:A0×A1×A2×A3×A4×A5×A6×A7×B):C:=f x.1 x.2.1 x.2.2.1 x.2.2.2.1 x.2.2.2.2.1 x.2.2.2.2.2.1 x.2.2.2.2.2.2.1 x.2.2.2.2.2.2.2.1
noncomputable def UB{A0 A1 A2 A3 A4 A5 A6 A7 A8 A9 Sr Ss Su Sv B C:Type}(f:A0->A1->A2->A3->A4->A5->A6->A7->A8->A9->Sr->Ss->Su->Sv->C)(x:A0×A1×A2×A3×A4×A5×A6×A7×A8×A9×Sr×Ss×Su×Sv×B):C:=f x.1 x.2.1 x.2.2.1 x.2.2.2.1 x.2.2.2.2.1 x.2.2.2.2.2.1 x.2.2.2.2.2.2.1 x.2.2.2.2.2.2.2.1 x.2.2.2.2.2.2.2.2.1 x.2.2.2.2.2.2.2.2.2.1 x.2.2.2.2.2.2.2.2.2.2.1 x.2.2.2.2.2.2.2.2.2.2.2.1 x.2.2.2.2.2.2.2.2.2.2.2.2.1 x.2.2.2.2.2.2.2.2.2.2.2.2.2.1
noncomputable def T0:List (bV×ij):=[]
theorem h0:tT Tryd.prog T0:=trivial
noncomputable def T1:List (bV×ij):=((4,[]),⟨true,[o0],[o1],u1 Mr⟩)::T0
theorem h1:tT Tryd.prog T1:=fk (fe 6 [] []) h0 [] trivial Tryd.func4 (by kernel_rfl) fun x=>by kernel_rfl
noncomputable def Ln:eB:=⟨[(0,o0)],[(3,o2),(4,o2)],[(.exit 0,[(3,o2)])],Ko⟩
theorem L5:nj Tryd.prog (env 32 [] []) (lp 0 (body Tryd.f16) 0) Ln:=lk (fe _ _ _) h1 (n:=0) [] trivial (by kernel_rfl) fun k x=>by kernel_rfl
noncomputable def T2:List (bV×ij):=((16,[]),⟨false,[o0],[a0],u1 K8⟩)::T1
theorem h2:tT Tryd.prog T2:=fk (fe 32 [] []) h1 [(0,Ln)] ⟨L5,trivial⟩ Tryd.func16 (by kernel_rfl) fun x=>by kernel_rfl
noncomputable def T3:List (bV×ij):=((41,[]),⟨true,[o2,o2,o2],[o1],u3 JM⟩)::T2
theorem h3:tT Tryd.prog T3:=fk (fe 15 [] []) h2 [] trivial Tryd.func41 (by kernel_rfl) fun x=>by kernel_rfl
noncomputable def T4:List (bV×ij):=((29,[]),⟨true,[a1],[o1],u7 Kl⟩)::T3
theorem h4:tT Tryd.prog T4:=fk (fe 36 [] []) h3 [] trivial Tryd.func29 (by kernel_rfl) fun x=>by kernel_rfl
noncomputable def KX:eB:=⟨[(0,o3)],[(3,o2)],[(.ret,[(2,o1)]),(.exit 0,[])],Kn⟩
theorem LM:nj Tryd.prog (env 73 [] []) (lp 0 (body Tryd.f22) 0) KX:=lk (fe _ _ _) h4 (n:=0) [] trivial (by kernel_rfl) fun k x=>by kernel_rfl
noncomputable def T5:List (bV×ij):=((22,[]),⟨true,[o3],[o1],u1 I6⟩)::T4
theorem h5:tT Tryd.prog T5:=fk (fe 73 [] []) h4 [(0,KX)] ⟨LM,trivial⟩ Tryd.func22 (by kernel_rfl) fun x=>by kernel_rfl
noncomputable def T6:List (bV×ij):=((50,[]),⟨true,[a1,a1],[o1],UB J2⟩)::T5
theorem h6:tT Tryd.prog T6:=fk (fe 24 [] []) h5 [] trivial Tryd.func50 (by kernel_rfl) fun x=>by kernel_rfl
noncomputable def Kd:eB:=⟨[(0,o3),(1,o3)],[(6,o4),(7,o2),(8,o2)],[(.ret,[(4,o4),(5,o1)]),(.exit 0,[(6,o4)])],JU⟩
theorem Lj:nj Tryd.prog (env 109 [] []) (lp 0 (body Tryd.f44) 0) Kd:=lk (fe _ _ _) h6 (n:=0) [] trivial (by kernel_rfl) fun k x=>by kernel_rfl
noncomputable def T7:List (bV×ij):=((44,[]),⟨true,[o3,o3],[o4,o1],u2 qB⟩)::T6
theorem h7:tT Tryd.prog T7:=fk (fe 109 [] []) h6 [(0,Kd)] ⟨Lj,trivial⟩ Tryd.func44 (by kernel_rfl) fun x=>by kernel_rfl
noncomputable def T8:List (bV×ij):=((33,[]),⟨false,[a0],[o2],u3 Jc⟩)::T7
theorem h8:tT Tryd.prog T8:=fk (fe 58 [] []) h7 [] trivial Tryd.func33 (by kernel_rfl) fun x=>by kernel_rfl
noncomputable def T9:List (bV×ij):=((18,[]),⟨false,[a0,o2],[o2],u4 bg⟩)::T8
theorem h9:tT Tryd.prog T9:=fk (fe 37 [] []) h8 [] trivial Tryd.func18 (by kernel_rfl) fun x=>by kernel_rfl
noncomputable def Sx:List (bV×ij):=((45,[]),⟨false,[a0,o2],[o1],u4 kW⟩)::T9
theorem h10:tT Tryd.prog Sx:=fk (fe 9 [] []) h9 [] trivial Tryd.func45 (by kernel_rfl) fun x=>by kernel_rfl
noncomputable def K5:eB:=⟨[(0,o3),(1,o2)],[(14,o4),(15,a2),(16,o2),(17,o2)],[(.exit 0,[(14,o4),(15,a2),(16,o2)])],KB⟩
theorem LS:nj Tryd.prog (env 88 [] []) (lp 0 (body Tryd.f7) 0) K5:=lk (fe _ _ _) h10 (n:=0) [] trivial (by kernel_rfl) fun k x=>by kernel_rfl
noncomputable def Sy:List (bV×ij):=((7,[]),⟨true,[o3,o2,o2,o2,o2,o2],[o4,o1],u6 vw⟩)::Sx
theorem h11:tT Tryd.prog Sy:=fk (fe 88 [] []) h10 [(0,K5)] ⟨LS,trivial⟩ Tryd.func7 (by kernel_rfl) fun x=>by kernel_rfl
noncomputable def Sz:List (bV×ij):=((32,[]),⟨false,[a0,o3,o2],[o4],u5 Jz⟩)::Sy
theorem h12:tT Tryd.prog Sz:=fk (fe 32 [] []) h11 [] trivial Tryd.func32 (by kernel_rfl) fun x=>by kernel_rfl
noncomputable def QD:List (bV×ij):=((19,[]),⟨false,[a0,o5],[o2],u4 lm⟩)::Sz
theorem QI:tT Tryd.prog QD:=fk (fe 12 [] []) h12 [] trivial Tryd.func19 (by kernel_rfl) fun x=>by kernel_rfl
noncomputable def IP:Xl:=[]
theorem JV:MW Tryd.prog IP:=trivial
theorem JT:Mz Tryd.prog 32 (OV (env 32 [] []) QD [] [] IP Tryd.f32):=ik (fe 32 [] []) QI [] [] JV trivial Tryd.func32 (by kernel_rfl)
noncomputable def I2:eB:=⟨[],[(0,a0),(4,o4),(5,o2)],[(.exit 0,[(0,a0),(4,o4)])],Ji⟩
theorem Kw:nj Tryd.prog (env 48 [] []) (lp 0 (body Tryd.f43) 0) I2:=lk (fe _ _ _) QI (n:=0) [] trivial (by kernel_rfl) fun k x=>by kernel_rfl
noncomputable def I3:eB:=⟨[],[(0,a0),(4,o4),(6,o4),(7,o2)],[(.exit 2,[(0,a0),(4,o4),(6,o4)])],B1⟩
theorem Kx:nj Tryd.prog (env 48 [] []) (lp 0 (body Tryd.f43) 1) I3:=lk (fe _ _ _) QI (n:=2) [] trivial (by kernel_rfl) fun k x=>by kernel_rfl
noncomputable def I4:eB:=⟨[],[(0,a0),(4,o4),(6,o4),(8,o2)],[(.exit 4,[(0,a0),(4,o4),(6,o4)])],ga⟩
theorem Ky:nj Tryd.prog (env 48 [] []) (lp 0 (body Tryd.f43) 2) I4:=lk (fe _ _ _) QI (n:=4) [] trivial (by kernel_rfl) fun k x=>by kernel_rfl
noncomputable def Jl:Xl:=[(32,OV (env 32 [] []) QD [] [] IP Tryd.f32)]
theorem KQ:MW Tryd.prog Jl:=⟨JT,trivial⟩
theorem KO:Mz Tryd.prog 43 (OV (env 48 [] []) QD [(0,I2),(2,I3),(4,I4)] [2,4] Jl Tryd.f43):=ik (fe 48 [] []) QI [(0,I2),(2,I3),(4,I4)] [2,4] KQ ⟨Kw,Kx,Ky,trivial⟩ Tryd.func43 (by kernel_rfl)
noncomputable def Mm:Xl:=[(43,OV (env 48 [] []) QD [(0,I2),(2,I3),(4,I4)] [2,4] Jl Tryd.f43)]
theorem Mf:MW Tryd.prog Mm:=⟨KO,trivial⟩
noncomputable def SA:List (bV×ij):=((31,[]),⟨false,[a0],[o4],u3 KT⟩)::QD
theorem Td:tT Tryd.prog SA:=TF (fe 48 [] []) QI [] Mf trivial Tryd.func31 (by kernel_rfl) fun x=>by kernel_rfl
noncomputable def Lo:eB:=⟨[],[(0,a0),(3,o4)],[(.ret,[(0,a0),(2,o4)]),(.exit 1,[(0,a0),(3,o4)])],Kp⟩
theorem L6:nj Tryd.prog (env 69 [] []) (lp 0 (body Tryd.f17) 0) Lo:=lk (fe _ _ _) Td (n:=1) [] trivial (by kernel_rfl) fun k x=>by kernel_rfl
noncomputable def SC:List (bV×ij):=((17,[]),⟨false,[a0],[o4],u3 K9⟩)::SA
theorem TG:tT Tryd.prog SC:=fk (fe 69 [] []) Td [(1,Lo)] ⟨L6,trivial⟩ Tryd.func17 (by kernel_rfl) fun x=>by kernel_rfl
noncomputable def SD:List (bV×ij):=((5,[]),⟨true,[o0],[o4,o2,o2,o2,o2,o2],u1 JX⟩)::SC
theorem TH:tT Tryd.prog SD:=fk (fe 36 [] []) TG [] trivial Tryd.func5 (by kernel_rfl) fun x=>by kernel_rfl
noncomputable def SE:List (bV×ij):=((20,[]),⟨true,[o3],[o4],u1 tW⟩)::SD
theorem TJ:tT Tryd.prog SE:=fk (fe 8 [] []) TH [] trivial Tryd.func20 (by kernel_rfl) fun x=>by kernel_rfl
noncomputable def SF:List (bV×ij):=((38,[]),⟨true,[o2,o2,o2],[o1],u3 Jv⟩)::SE
theorem TK:tT Tryd.prog SF:=fk (fe 15 [] []) TJ [] trivial Tryd.func38 (by kernel_rfl) fun x=>by kernel_rfl
noncomputable def SG:List (bV×ij):=((39,[]),⟨true,[o2],[o1],u1 KJ⟩)::SF
theorem TL:tT Tryd.prog SG:=fk (fe 5 [] []) TK [] trivial Tryd.func39 (by kernel_rfl) fun x=>by kernel_rfl
noncomputable def SH:List (bV×ij):=((27,[]),⟨true,[a1],[o1],u7 Kh⟩)::SG
theorem Tf:tT Tryd.prog SH:=fk (fe 36 [] []) TL [] trivial Tryd.func27 (by kernel_rfl) fun x=>by kernel_rfl
noncomputable def KU:eB:=⟨[(0,o3),(9,o3),(10,o2)],[(11,o2)],[(.ret,[(2,o1)]),(.exit 0,[])],Kj⟩
theorem LK:nj Tryd.prog (env 53 [] []) (lp 0 (body Tryd.f12) 0) KU:=lk (fe _ _ _) Tf (n:=0) [] trivial (by kernel_rfl) fun k x=>by kernel_rfl
noncomputable def SI:List (bV×ij):=((12,[]),⟨true,[o3],[o1],u1 Jn⟩)::SH
theorem TM:tT Tryd.prog SI:=fk (fe 53 [] []) Tf [(0,KU)] ⟨LK,trivial⟩ Tryd.func12 (by kernel_rfl) fun x=>by kernel_rfl
noncomputable def OW:Go.Shelf.Ren:=⟨fun|22=>21|29=>34|30=>35|n=>n,fun|9=>34|24=>24|3=>3|4=>4|0=>0|n=>n,fun n=>n⟩
theorem Qp:NZ Tryd.prog OW (UD Tryd.prog 34) (TE Tryd.prog 34):={ mixed:=by kernel_rfl, f22:=⟨"slices.Insert[[]loop.example/g03318/impl.Event,loop.example/g03318/impl.Event]", by kernel_rfl, Go.Proofs.Tryd.func21.trans (congrArg some (by kernel_rfl))⟩, f29:=⟨_, Go.Proofs.Tryd.func34, by kernel_rfl, by kernel_rfl, by kernel_rfl, by kernel_rfl⟩, t3:=Go.Proofs.Tryd.underlying3, a3:=Go.Proofs.Tryd.isAgg3, z3:=Go.Proofs.Tryd.sizeOf3, v3:=Go.Proofs.Tryd.zeroValue3, t4:=Go.Proofs.Tryd.underlying4, a4:=Go.Proofs.Tryd.isAgg4, z4:=Go.Proofs.Tryd.sizeOf4, v4:=Go.Proofs.Tryd.zeroValue4, t24:=Go.Proofs.Tryd.underlying24, a24:=Go.Proofs.Tryd.isAgg24, z24:=Go.Proofs.Tryd.sizeOf24, v24:=Go.Proofs.Tryd.zeroValue24, z9:=Go.Proofs.Tryd.sizeOf34, i9:=by kernel_rfl }
noncomputable def SJ:List (bV×ij):=((21,[]),MV 34 t9)::SI
theorem Tg:tT Tryd.prog SJ:=⟨Od (ρ:=OW) Qp (by kernel_rfl) (by kernel_rfl) rfl rfl,TM⟩
noncomputable def K2:eB:=⟨[(0,o3),(1,o2),(32,o3),(33,o2)],[(14,o4),(15,a2),(16,o2),(34,o2)],[(.exit 0,[(14,o4),(15,a2),(16,o2)])],Ks⟩
theorem LP:nj Tryd.prog (env 75 [] []) (lp 0 (body Tryd.f6) 0) K2:=lk (fe _ _ _) Tg (n:=0) [] trivial (by kernel_rfl) fun k x=>by kernel_rfl
noncomputable def SK:List (bV×ij):=((6,[]),⟨true,[o3,o2,o2,o2,o2,o2],[o4,o1],u6 KD⟩)::SJ
theorem Th:tT Tryd.prog SK:=fk (fe 75 [] []) Tg [(0,K2)] ⟨LP,trivial⟩ Tryd.func6 (by kernel_rfl) fun x=>by kernel_rfl
noncomputable def KR:eB:=⟨[(0,o3),(1,o3)],[(5,o2)],[(.ret,[(4,o1)]),(.exit 0,[])],Kb⟩
theorem Lu:nj Tryd.prog (env 26 [] []) (lp 0 (body Tryd.f8) 0) KR:=lk (fe _ _ _) Th (n:=0) [] trivial (by kernel_rfl) fun k x=>by kernel_rfl
noncomputable def SL:List (bV×ij):=((8,[]),⟨true,[o3,o3],[o1],u2 JO⟩)::SK
theorem TN:tT Tryd.prog SL:=fk (fe 26 [] []) Th [(0,KR)] ⟨Lu,trivial⟩ Tryd.func8 (by kernel_rfl) fun x=>by kernel_rfl
noncomputable def SM:List (bV×ij):=((37,[]),⟨true,[o2],[o1],u1 Kg⟩)::SL
theorem TO:tT Tryd.prog SM:=fk (fe 6 [] []) TN [] trivial Tryd.func37 (by kernel_rfl) fun x=>by kernel_rfl
noncomputable def SN:List (bV×ij):=((26,[]),⟨true,[o2,o2],[o2],u2 JG⟩)::SM
theorem Ti:tT Tryd.prog SN:=fk (fe 20 [] []) TO [] trivial Tryd.func26 (by kernel_rfl) fun x=>by kernel_rfl
noncomputable def Lm:eB:=⟨[(3,o2),(6,o5),(7,o2)],[(8,o2)],[(.ret,[(2,o2)]),(.exit 0,[])],KY⟩
theorem L4:nj Tryd.prog (env 18 [] []) (lp 0 (body Tryd.f25) 0) Lm:=lk (fe _ _ _) Ti (n:=0) [] trivial (by kernel_rfl) fun k x=>by kernel_rfl
noncomputable def SO:List (bV×ij):=((25,[]),⟨true,[o5],[o2],u1 K6⟩)::SN
theorem TP:tT Tryd.prog SO:=fk (fe 18 [] []) Ti [(0,Lm)] ⟨L4,trivial⟩ Tryd.func25 (by kernel_rfl) fun x=>by kernel_rfl
noncomputable def SP:List (bV×ij):=((24,[]),⟨true,[o2,o2,.ro t10],[o2],u3 Jd⟩)::SO
theorem R0:tT Tryd.prog SP:=fk (fe 30 [] []) TP [] trivial Tryd.func24 (by kernel_rfl) fun x=>by kernel_rfl
noncomputable def IL:eB:=⟨[(1,o2),(2,o2),(3,.fn 24 [t10]),(8,o2)],[(0,o6),(9,o2)],[(.exit 2,[(0,o6)])],vn⟩
theorem Jk:nj Tryd.prog (env 53 [] []) (lp 0 (lp 0 (body Tryd.f47) 0) 0) IL:=lk (fe _ _ _) R0 (n:=2) [] trivial (by kernel_rfl) fun k x=>by kernel_rfl
noncomputable def IK:eB:=⟨[(1,o2),(2,o2),(3,.fn 24 [t10])],[(0,o6),(8,o2)],[(.exit 0,[(0,o6)])],vm⟩
theorem Jj:nj Tryd.prog (env 53 [] []) (lp 0 (body Tryd.f47) 0) IK:=lk (fe _ _ _) R0 (n:=0) [(2,IL)] ⟨Jk,trivial⟩ (by kernel_rfl) fun k x=>by kernel_rfl
noncomputable def SQ:List (bV×ij):=((47,[24]),⟨true,[o6,o2,o2,.fn 24 [t10]],[],u4 gb⟩)::SP
theorem Tj:tT Tryd.prog SQ:=fk (fe 53 [] []) R0 [(0,IK)] ⟨Jj,trivial⟩ Tryd.func47 (by kernel_rfl) fun x=>by kernel_rfl
noncomputable def IU:eB:=⟨[(1,o2),(2,o2),(3,o2)],[(0,o6),(10,o2)],[(.exit 0,[(0,o6)])],D3⟩
theorem Jo:nj Tryd.prog (env 38 [] []) (lp 0 (body Tryd.f54) 0) IU:=lk (fe _ _ _) Tj (n:=0) [] trivial (by kernel_rfl) fun k x=>by kernel_rfl
noncomputable def SR:List (bV×ij):=((54,[24]),⟨true,[o6,o2,o2,o2,.fn 24 [t10]],[],u5 b9⟩)::SQ
theorem PZ:tT Tryd.prog SR:=fk (fe 38 [] []) Tj [(0,IU)] ⟨Jo,trivial⟩ Tryd.func54 (by kernel_rfl) fun x=>by kernel_rfl
noncomputable def I8:eB:=⟨[(2,o2),(4,.fn 24 [t10])],[(0,o6),(10,o2),(11,o2)],[(.exit 0,[(0,o6),(10,o2)])],IE⟩
theorem JA:nj Tryd.prog (env 58 [] []) (lp 0 (body Tryd.f52) 0) I8:=lk (fe _ _ _) PZ (n:=0) [] trivial (by kernel_rfl) fun k x=>by kernel_rfl
noncomputable def PU:List (bV×ij):=((52,[24]),⟨true,[o6,o2,o2,o2,.fn 24 [t10]],[],u5 e8⟩)::SR
theorem Qi:tT Tryd.prog PU:=fk (fe 58 [] []) PZ [(0,I8)] ⟨JA,trivial⟩ Tryd.func52 (by kernel_rfl) fun x=>by kernel_rfl
noncomputable def bf(rec:(List (Int))->Int->Int->Int->(List (Int×Int×Int×Int×Int×Int×Int))->Option ((List (Int))×Unit)):ij:=⟨true,[o6,o2,o2,o2,.fn 24 [t10]],[],u5 rec⟩
noncomputable def IX(rec:(List (Int))->Int->Int->Int->(List (Int×Int×Int×Int×Int×Int×Int))->Option ((List (Int))×Unit)):eB:=⟨[(1,o2),(4,.fn 24 [t10])],[(0,o6),(10,o2),(11,o2)],[(.exit 0,[(0,o6),(10,o2)])],IA rec⟩
theorem Jq(rec:(List (Int))->Int->Int->Int->(List (Int×Int×Int×Int×Int×Int×Int))->Option ((List (Int))×Unit))(hr:eA Tryd.prog 48 (bf rec)):nj Tryd.prog (env 220 [] []) (lp 0 (body Tryd.f48) 0) (IX rec):=lk (fe _ _ _) (T:=((48,[24]),bf rec)::PU) ⟨hr,Qi⟩ (n:=0) [] trivial (by kernel_rfl) fun k x=>by kernel_rfl
noncomputable def IY(rec:(List (Int))->Int->Int->Int->(List (Int×Int×Int×Int×Int×Int×Int))->Option ((List (Int))×Unit)):eB:=⟨[(10,o2)],[(0,o6),(13,o2)],[(.exit 2,[(0,o6)])],IB rec⟩
theorem Jr(rec:(List (Int))->Int->Int->Int->(List (Int×Int×Int×Int×Int×Int×Int))->Option ((List (Int))×Unit))(hr:eA Tryd.prog 48 (bf rec)):nj Tryd.prog (env 220 [] []) (lp 0 (body Tryd.f48) 1) (IY rec):=lk (fe _ _ _) (T:=((48,[24]),bf rec)::PU) ⟨hr,Qi⟩ (n:=2) [] trivial (by kernel_rfl) fun k x=>by kernel_rfl
noncomputable def IZ(rec:(List (Int))->Int->Int->Int->(List (Int×Int×Int×Int×Int×Int×Int))->Option ((List (Int))×Unit)):eB:=⟨[(2,o2),(4,.fn 24 [t10])],[(0,o6),(14,o2),(15,o2)],[(.exit 4,[(0,o6),(14,o2)])],IC rec⟩
theorem Js(rec:(List (Int))->Int->Int->Int->(List (Int×Int×Int×Int×Int×Int×Int))->Option ((List (Int))×Unit))(hr:eA Tryd.prog 48 (bf rec)):nj Tryd.prog (env 220 [] []) (lp 0 (body Tryd.f48) 2) (IZ rec):=lk (fe _ _ _) (T:=((48,[24]),bf rec)::PU) ⟨hr,Qi⟩ (n:=4) [] trivial (by kernel_rfl) fun k x=>by kernel_rfl
noncomputable def I0(rec:(List (Int))->Int->Int->Int->(List (Int×Int×Int×Int×Int×Int×Int))->Option ((List (Int))×Unit)):eB:=⟨[(14,o2)],[(0,o6),(17,o2)],[(.exit 6,[(0,o6)])],ID rec⟩
theorem Jt(rec:(List (Int))->Int->Int->Int->(List (Int×Int×Int×Int×Int×Int×Int))->Option ((List (Int))×Unit))(hr:eA Tryd.prog 48 (bf rec)):nj Tryd.prog (env 220 [] []) (lp 0 (body Tryd.f48) 3) (I0 rec):=lk (fe _ _ _) (T:=((48,[24]),bf rec)::PU) ⟨hr,Qi⟩ (n:=6) [] trivial (by kernel_rfl) fun k x=>by kernel_rfl
noncomputable def I1(rec:(List (Int))->Int->Int->Int->(List (Int×Int×Int×Int×Int×Int×Int))->Option ((List (Int))×Unit)):eB:=⟨[(1,o2),(2,o2),(3,o2),(4,.fn 24 [t10]),(18,o2),(19,o2),(22,o2)],[(0,o6),(20,o2),(21,o2)],[(.exit 8,[(0,o6),(20,o2)])],gm rec⟩
theorem Ju(rec:(List (Int))->Int->Int->Int->(List (Int×Int×Int×Int×Int×Int×Int))->Option ((List (Int))×Unit))(hr:eA Tryd.prog 48 (bf rec)):nj Tryd.prog (env 220 [] []) (lp 0 (body Tryd.f48) 4) (I1 rec):=lk (fe _ _ _) (T:=((48,[24]),bf rec)::PU) ⟨hr,Qi⟩ (n:=8) [] trivial (by kernel_rfl) fun k x=>by kernel_rfl
theorem Jy(rec:(List (Int))->Int->Int->Int->(List (Int×Int×Int×Int×Int×Int×Int))->Option ((List (Int))×Unit))(hr:eA Tryd.prog 48 (bf rec)):eA Tryd.prog 48 (bf (bu rec)):=(fk (ks:=[]) (fe 220 [] []) (T:=((48,[24]),bf rec)::PU) ⟨hr,Qi⟩ [(0,IX rec),(2,IY rec),(4,IZ rec),(6,I0 rec),(8,I1 rec)] ⟨(Jq rec hr),(Jr rec hr),(Js rec hr),(Jt rec hr),(Ju rec hr),trivial⟩ Tryd.func48 (by kernel_rfl) fun x=>by kernel_rfl).1
noncomputable def SS:List (bV×ij):=((48,[24]),bf jr)::PU
theorem RD:tT Tryd.prog SS:=⟨DB (F:=fun n=>bf (iL n)) (CA (fn:=Tryd.f48) (c:=body Tryd.f48) Tryd.func48 (by kernel_rfl) (by kernel_rfl) (fun _=>rfl)) (fun n h=>Jy (iL n) h) big,Qi⟩
noncomputable def I9:eB:=⟨[(1,o2),(2,.fn 24 [t10]),(6,o2)],[(0,o6),(7,o2),(8,o2)],[(.exit 0,[(0,o6),(7,o2)])],IF⟩
theorem JB:nj Tryd.prog (env 63 [] []) (lp 0 (body Tryd.f36) 0) I9:=lk (fe _ _ _) RD (n:=0) [] trivial (by kernel_rfl) fun k x=>by kernel_rfl
noncomputable def Jb:eB:=⟨[(1,o2),(2,.fn 24 [t10]),(6,o2)],[(0,o6),(7,o2),(8,o2)],[(.exit 4,[(0,o6),(7,o2)])],ve⟩
theorem JD:nj Tryd.prog (env 63 [] []) (lp 2 (lp 0 (body Tryd.f36) 1) 0) Jb:=lk (fe _ _ _) RD (n:=4) [] trivial (by kernel_rfl) fun k x=>by kernel_rfl
noncomputable def Ja:eB:=⟨[(1,o2),(2,.fn 24 [t10])],[(0,o6),(6,o2)],[(.exit 2,[(0,o6)])],IG⟩
theorem JC:nj Tryd.prog (env 63 [] []) (lp 0 (body Tryd.f36) 1) Ja:=lk (fe _ _ _) RD (n:=2) [(4,Jb)] ⟨JD,trivial⟩ (by kernel_rfl) fun k x=>by kernel_rfl
noncomputable def SU:List (bV×ij):=((36,[24]),⟨true,[o6,o2,.fn 24 [t10]],[],u3 lj⟩)::SS
theorem TQ:tT Tryd.prog SU:=fk (fe 63 [] []) RD [(0,I9),(2,Ja)] ⟨JB,JC,trivial⟩ Tryd.func36 (by kernel_rfl) fun x=>by kernel_rfl
noncomputable def SV:List (bV×ij):=((23,[24]),⟨true,[o6,.fn 24 [t10]],[],u2 me⟩)::SU
theorem Tk:tT Tryd.prog SV:=fk (fe 9 [] []) TQ [] trivial Tryd.func23 (by kernel_rfl) fun x=>by kernel_rfl
noncomputable def Le:eB:=⟨[(9,o2)],[(1,.blk [v3]),(3,o6),(10,o2)],[(.exit 0,[(1,.blk [v3]),(3,o6)])],KN⟩
theorem L1:nj Tryd.prog (env 22 [] []) (lp 0 (body Tryd.f9) 0) Le:=lk (fe _ _ _) Tk (n:=0) [] trivial (by kernel_rfl) fun k x=>by kernel_rfl
noncomputable def SW:List (bV×ij):=((9,[]),⟨true,[o3],[o6],u1 J4⟩)::SV
theorem R1:tT Tryd.prog SW:=fk (fe 22 [] []) Tk [(0,Le)] ⟨L1,trivial⟩ Tryd.func9 (by kernel_rfl) fun x=>by kernel_rfl
noncomputable def Lh:eB:=⟨[(0,o3),(4,o2)],[(3,o6),(5,o2)],[(.exit 2,[(3,o6)])],KP⟩
theorem L3:nj Tryd.prog (env 65 [] []) (lp 0 (lp 0 (body Tryd.f10) 0) 0) Lh:=lk (fe _ _ _) R1 (n:=2) [] trivial (by kernel_rfl) fun k x=>by kernel_rfl
noncomputable def Lg:eB:=⟨[(0,o3)],[(3,o6),(4,o2)],[(.exit 0,[(3,o6)])],Ka⟩
theorem L2:nj Tryd.prog (env 65 [] []) (lp 0 (body Tryd.f10) 0) Lg:=lk (fe _ _ _) R1 (n:=0) [(2,Lh)] ⟨L3,trivial⟩ (by kernel_rfl) fun k x=>by kernel_rfl
noncomputable def SX:List (bV×ij):=((10,[]),⟨true,[o3],[o6],u1 JL⟩)::SW
theorem Tl:tT Tryd.prog SX:=fk (fe 65 [] []) R1 [(0,Lg)] ⟨L2,trivial⟩ Tryd.func10 (by kernel_rfl) fun x=>by kernel_rfl
noncomputable def K4:eB:=⟨[(0,o5),(1,o5)],[(5,o2)],[(.ret,[(4,o1)]),(.exit 0,[])],Kv⟩
theorem LR:nj Tryd.prog (env 26 [] []) (lp 0 (body Tryd.f11) 0) K4:=lk (fe _ _ _) Tl (n:=0) [] trivial (by kernel_rfl) fun k x=>by kernel_rfl
noncomputable def SY:List (bV×ij):=((11,[]),⟨true,[o5,o5],[o1],u2 KF⟩)::SX
theorem Tm:tT Tryd.prog SY:=fk (fe 26 [] []) Tl [(0,K4)] ⟨LR,trivial⟩ Tryd.func11 (by kernel_rfl) fun x=>by kernel_rfl
noncomputable def Lq:eB:=⟨[(0,o3),(3,.ro t9)],[(5,o2)],[(.ret,[(4,o1)]),(.exit 0,[])],Lc⟩
theorem Me:nj Tryd.prog (env 18 [] []) (lp 0 (body Tryd.f13) 0) Lq:=lk (fe _ _ _) Tm (n:=0) [] trivial (by kernel_rfl) fun k x=>by kernel_rfl
noncomputable def SZ:List (bV×ij):=((13,[]),⟨true,[o3,a1],[o1],u8 laws_holds⟩)::SY
theorem TR:tT Tryd.prog SZ:=fk (fe 18 [] []) Tm [(0,Lq)] ⟨Me,trivial⟩ Tryd.func13 (by kernel_rfl) fun x=>by kernel_rfl
theorem OL:Tryd.prog.globalNamed "internal/strconv.uint64pow10" = some 0:=by kernel_rfl
theorem gT:(Tryd.prog.globals[0]?).map (·.type) = some 78:=by kernel_rfl
theorem uT:Tryd.prog.underlying 78=some (.array 20 71):=by kernel_rfl
theorem uE:Tryd.prog.underlying 71=some (.int .u64):=by kernel_rfl
theorem cE:Tryd.prog.cellsOf 71=1:=by kernel_rfl
theorem cT:Tryd.prog.cellsOf 78=20:=by kernel_rfl
noncomputable def S0:List (bV×ij):=((40,[]),CS)::SZ
theorem TS:tT Tryd.prog S0:=⟨Fm Go.Proofs.Tryd.lays171 OL (by unfold Co wK;exact .head _),TR⟩
noncomputable def S2:List (bV×ij):=((28,[]),⟨true,[o2],[o7],u1 IQ⟩)::S0
theorem TT:tT Tryd.prog S2:=fk (fe 5 [] []) TS [] trivial Tryd.func28 (by kernel_rfl) fun x=>by kernel_rfl
noncomputable def S3:List (bV×ij):=((14,[]),⟨true,[a1],[o7],u7 JI⟩)::S2
theorem TU:tT Tryd.prog S3:=fk (fe 50 [] []) TT [] trivial Tryd.func14 (by kernel_rfl) fun x=>by kernel_rfl
noncomputable def T42:List (bV×ij):=((42,[]),⟨true,[o2],[o8],u1 J1⟩)::S3
theorem Tn:tT Tryd.prog T42:=fk (fe 12 [] []) TU [] trivial Tryd.func42 (by kernel_rfl) fun x=>by kernel_rfl
noncomputable def KW:eB:=⟨[(3,o1)],[(0,o2),(4,o7)],[(.exit 0,[(4,o7)])],JY⟩
theorem LL:nj Tryd.prog (env 30 [] []) (lp 0 (body Tryd.f30) 0) KW:=lk (fe _ _ _) Tn (n:=0) [] trivial (by kernel_rfl) fun k x=>by kernel_rfl
noncomputable def S4:List (bV×ij):=((30,[]),⟨true,[o2],[o7],u1 IR⟩)::T42
theorem TW:tT Tryd.prog S4:=fk (fe 30 [] []) Tn [(0,KW)] ⟨LL,trivial⟩ Tryd.func30 (by kernel_rfl) fun x=>by kernel_rfl
noncomputable def S5:List (bV×ij):=((15,[]),⟨true,[a1],[o7],u7 JJ⟩)::S4
theorem To:tT Tryd.prog S5:=fk (fe 48 [] []) TW [] trivial Tryd.func15 (by kernel_rfl) fun x=>by kernel_rfl
noncomputable def K3:eB:=⟨[(4,o2),(6,o2)],[(3,o4),(11,o4),(13,o6),(14,o6),(15,a2),(16,o2)],[(.ret,[(2,o1)]),(.exit 0,[(3,o4),(11,o4),(15,a2)])],Kt⟩
theorem LQ:nj Tryd.prog (env 154 [] []) (lp 0 (body Tryd.f3) 0) K3:=lk (fe _ _ _) To (n:=0) [] trivial (by kernel_rfl) fun k x=>by kernel_rfl
noncomputable def JN:ij:=⟨true,[o0],[o1],u1 Lb⟩
noncomputable def TB:List (bV×ij):=((3,[]),JN)::S5
theorem TX:tT Tryd.prog TB:=fk (fe 154 [] []) To [(0,K3)] ⟨LQ,trivial⟩ Tryd.func3 (by kernel_rfl) fun x=>by kernel_rfl
theorem L8:eA Tryd.prog 3 JN:=TX.1
end Go.Proofs.YtajokmncfidfjaaDoor.fnEvents

