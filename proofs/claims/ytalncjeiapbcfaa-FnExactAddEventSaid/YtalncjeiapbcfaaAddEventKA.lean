/- What each function that the law FnExactAddEvent reaches promises: it computes what its plain function says. Conditions: none. -/
import Derived.Test.YtalncjeiapbcfaaRows
import Derived.Test.YtalncjeiapbcfaaAddEventQA
import Derived.KernelRfl
set_option linter.unusedVariables false
set_option linter.unusedSimpArgs false
namespace Go.Proofs.Ytalncjeiapbcfaa.fnExactAddEvent
open Go.R Go.Fn
set_option maxRecDepth 100000
abbrev t0:aK:=.cons (.int .i64) .nil
abbrev t1:aK:=.cons .bool .nil
abbrev t2:aK:=.cons (.int .u8) .nil
abbrev t3:aK:=.cons (.int .i64) (.cons (.int .i64) (.cons .bool (.cons (.int .u8) .nil)))
abbrev t4:aK:=.cons .str .nil
abbrev t5:aK:=.cons (.int .u64) .nil
abbrev t6:aK:=.cons .str (.cons (.int .u64) .nil)
abbrev t7:aK:=.cons (.int .i32) .nil
abbrev t8:aK:=.cons (.int .i64) (.cons (.int .i64) (.cons (.int .i64) (.cons (.int .i64) (.cons (.int .i64) (.cons (.int .i64) (.cons (.int .i64) .nil))))))
abbrev t9:aK:=.cons (.sl 41 t8) .nil
abbrev t10:aK:=.cons (.sl 38 t8) .nil
abbrev t11:aK:=.cons (.sl 5 t2) .nil
abbrev t12:aK:=.cons (.sl 5 t2) (.cons (.int .i64) (.cons (.int .i64) .nil))
abbrev t13:aK:=.cons (.sl 3 t0) .nil
abbrev t14:aK:=.cons (.int .u32) .nil
abbrev v0:K:=.val (.sl 41 t8)
abbrev v1:K:=.val (.int .i64)
abbrev v2:K:=.val .bool
abbrev v3:K:=.val (.sl 38 t8)
abbrev v4:K:=.arr 38 t8 false
abbrev o0:Sh:=.one v0
abbrev o1:Sh:=.one v1
abbrev o2:Sh:=.one v4
abbrev o3:Sh:=.one v2
abbrev o4:Sh:=.one v3
abbrev a0:Sh:=.agg [v1,v1,v1,v1,v1,v1,v1]
abbrev a1:Sh:=.blk [v1,v1,v1,v1,v1,v1,v1]
noncomputable def table:List (Nat×TI):=[(2,⟨t0,false,8,[],none⟩),
 (3,⟨t0,false,8,[],none⟩),
 (4,⟨t1,false,1,[],none⟩),
 (5,⟨t2,false,1,[],none⟩),
 (6,⟨t2,false,1,[],none⟩),
 (7,⟨t3,true,24,[(0,1,false),(1,1,false),(2,1,false),(3,1,false)],none⟩),
 (8,⟨t3,true,24,[(0,1,false),(1,1,false),(2,1,false),(3,1,false)],none⟩),
 (9,⟨t4,false,16,[],none⟩),
 (10,⟨t4,false,16,[],none⟩),
 (11,⟨t4,false,16,[],none⟩),
 (12,⟨t5,false,8,[],none⟩),
 (13,⟨t6,true,24,[(0,1,false),(1,1,false)],none⟩),
 (14,⟨t6,true,24,[(0,1,false),(1,1,false)],none⟩),
 (21,⟨t7,false,4,[],none⟩),
 (22,⟨t9,false,24,[],some 41⟩),
 (24,⟨t10,false,24,[],some 38⟩),
 (31,⟨t11,false,24,[],some 5⟩),
 (37,⟨t8,true,56,[(0,1,false),(1,1,false),(2,1,false),(3,1,false),(4,1,false),(5,1,false),(6,1,false)],none⟩),
 (38,⟨t8,true,56,[(0,1,false),(1,1,false),(2,1,false),(3,1,false),(4,1,false),(5,1,false),(6,1,false)],none⟩),
 (41,⟨t8,true,56,[(0,1,false),(1,1,false),(2,1,false),(3,1,false),(4,1,false),(5,1,false),(6,1,false)],none⟩),
 (57,⟨t12,true,40,[(0,1,false),(1,1,false),(2,1,false)],none⟩),
 (58,⟨t12,true,40,[(0,1,false),(1,1,false),(2,1,false)],none⟩),
 (61,⟨t13,false,24,[],some 3⟩),
 (65,⟨t5,false,8,[],none⟩),
 (70,⟨t0,false,8,[],none⟩),
 (78,⟨t14,false,4,[],none⟩),
 (80,⟨t5,false,8,[],none⟩),
 (82,⟨t5,false,8,[],none⟩),
 (98,⟨t2,false,1,[],none⟩),
 (99,⟨t2,false,1,[],none⟩),
 (102,⟨t7,false,4,[],none⟩),
 (103,⟨t7,false,4,[],none⟩)]
theorem J7:CY Try.prog table=true:=by kernel_rfl
noncomputable def eqs:List Nat:=[38]
theorem Ku:(eqs.all fun t=>vW Try.prog (uY table) t)=true:=by kernel_rfl
noncomputable def maps:List (Nat×IntKind):=[]
theorem Kj:(maps.all fun p=>CZ Try.prog p.1 p.2)=true:=by kernel_rfl
noncomputable def env(nt:Nat)(tr dp:List Nat):Env:={ ti:=uY table,deep:=fun d=>dp.any (Nat.beq d),trunc:=fun d=>tr.any (Nat.beq d),ro:=fun _=>false,E9:=fun t=>eqs.any (Nat.beq t),mp:=xC maps,nt:=nt }
theorem br(nt:Nat)(tr dp:List Nat):cq Try.prog (env nt tr dp):=D7 (by kernel_rfl) J7 Ku Kj _ rfl (fun _=>rfl) rfl
noncomputable def u1{A0 B C:Type}(f:A0->C)(x:A0×B):C:=f x.1
noncomputable def u2{A0 A1 B C:Type}(f:A0->A1->C)(x:A0×A1×B):C:=f x.1 x.2.1
noncomputable def u3{A0 A1 A2 B C:Type}(f:A0->A1->A2->C)(x:A0×A1×A2×B):C:=f x.1 x.2.1 x.2.2.1
noncomputable def u6{A0 A1 A2 A3 A4 A5 B C:Type}(f:A0->A1->A2->A3->A4->A5->C)(x:A0×A1×A2×A3×A4×A5×B):C:=f x.1 x.2.1 x.2.2.1 x.2.2.2.1 x.2.2.2.2.1 x.2.2.2.2.2.1
noncomputable def u7{A0 A1 A2 A3 A4 A5 A6 B C:Type}(f:A0->A1->A2->A3->A4->A5->A6->C)(x:A0×A1×A2×A3×A4×A5×A6×B):C:=f x.1 x.2.1 x.2.2.1 x.2.2.2.1 x.2.2.2.2.1 x.2.2.2.2.2.1 x.2.2.2.2.2.2.1
noncomputable def Mj{A0 A1 A2 A3 A4 A5 A6 A7 A8 A9 Lu Lv Lw Lx B C:Type}(f:A0->A1->A2->A3->A4->A5->A6->A7->A8->A9->Lu->Lv->Lw->Lx->C)(x:A0×A1×A2×A3×A4×A5×A6×A7×A8×A9×Lu×Lv×Lw×Lx×B):C:=f x.1 x.2.1 x.2.2.1 x.2.2.2.1 x.2.2.2.2.1 x.2.2.2.2.2.1 x.2.2.2.2.2.2.1 x.2.2.2.2.2.2.2.1 x.2.2.2.2.2.2.2.2.1 x.2.2.2.2.2.2.2.2.2.1 x.2.2.2.2.2.2.2.2.2.2.1 x.2.2.2.2.2.2.2.2.2.2.2.1 x.2.2.2.2.2.2.2.2.2.2.2.2.1 x.2.2.2.2.2.2.2.2.2.2.2.2.2.1
noncomputable def T0:List (bV×ij):=[]
theorem h0:tT Try.prog T0:=trivial
noncomputable def T1:List (bV×ij):=((5,[]),⟨true,[o0,o1],[o1],u2 k6⟩)::T0
theorem h1:tT Try.prog T1:=fk (br 12 [] []) h0 [] trivial Try.func5 (by kernel_rfl) fun x=>by kernel_rfl
noncomputable def T2:List (bV×ij):=((20,[]),⟨true,[a0],[a0],u7 zb⟩)::T1
theorem h2:tT Try.prog T2:=fk (br 26 [] []) h1 [] trivial Try.func20 (by kernel_rfl) fun x=>by kernel_rfl
noncomputable def tW:eB:=⟨[(0,o0)],[(3,o2),(4,o1)],[(.exit 0,[(3,o2)])],gm⟩
theorem IM:nj Try.prog (env 23 [] []) (lp 0 (body Try.f7) 0) tW:=lk (br _ _ _) h2 (n:=0) [] trivial (by kernel_rfl) fun k x=>by kernel_rfl
noncomputable def T3:List (bV×ij):=((7,[]),⟨true,[o0],[o2],u1 lc⟩)::T2
theorem h3:tT Try.prog T3:=fk (br 23 [] []) h2 [(0,tW)] ⟨IM,trivial⟩ Try.func7 (by kernel_rfl) fun x=>by kernel_rfl
noncomputable def T4:List (bV×ij):=((48,[]),⟨true,[o1,o1,o1],[o3],u3 ea⟩)::T3
theorem h4:tT Try.prog T4:=fk (br 15 [] []) h3 [] trivial Try.func48 (by kernel_rfl) fun x=>by kernel_rfl
noncomputable def T5:List (bV×ij):=((36,[]),⟨true,[a0],[o3],u7 qW⟩)::T4
theorem h5:tT Try.prog T5:=fk (br 36 [] []) h4 [] trivial Try.func36 (by kernel_rfl) fun x=>by kernel_rfl
noncomputable def r6:eB:=⟨[(0,o4)],[(3,o1)],[(.ret,[(2,o3)]),(.exit 0,[])],i6⟩
theorem IF:nj Try.prog (env 73 [] []) (lp 0 (body Try.f18) 0) r6:=lk (br _ _ _) h5 (n:=0) [] trivial (by kernel_rfl) fun k x=>by kernel_rfl
noncomputable def T6:List (bV×ij):=((18,[]),⟨true,[o4],[o3],u1 fu⟩)::T5
theorem h6:tT Try.prog T6:=fk (br 73 [] []) h5 [(0,r6)] ⟨IF,trivial⟩ Try.func18 (by kernel_rfl) fun x=>by kernel_rfl
noncomputable def ve:eB:=⟨[(0,o4),(1,o1)],[(14,o2),(15,a1),(16,o1),(17,o1)],[(.exit 0,[(14,o2),(15,a1),(16,o1)])],k5⟩
theorem IP:nj Try.prog (env 88 [] []) (lp 0 (body Try.f6) 0) ve:=lk (br _ _ _) h6 (n:=0) [] trivial (by kernel_rfl) fun k x=>by kernel_rfl
noncomputable def T7:List (bV×ij):=((6,[]),⟨true,[o4,o1,o1,o1,o1,o1],[o2,o3],u6 lj⟩)::T6
theorem h7:tT Try.prog T7:=fk (br 88 [] []) h6 [(0,ve)] ⟨IP,trivial⟩ Try.func6 (by kernel_rfl) fun x=>by kernel_rfl
noncomputable def T8:List (bV×ij):=((21,[]),⟨true,[o4],[o2],u1 bf⟩)::T7
theorem h8:tT Try.prog T8:=fk (br 8 [] []) h7 [] trivial Try.func21 (by kernel_rfl) fun x=>by kernel_rfl
noncomputable def T9:List (bV×ij):=((46,[]),⟨true,[o1,o1,o1],[o3],u3 b7⟩)::T8
theorem h9:tT Try.prog T9:=fk (br 15 [] []) h8 [] trivial Try.func46 (by kernel_rfl) fun x=>by kernel_rfl
noncomputable def LA:List (bV×ij):=((47,[]),⟨true,[o1],[o3],u1 lm⟩)::T9
theorem h10:tT Try.prog LA:=fk (br 5 [] []) h9 [] trivial Try.func47 (by kernel_rfl) fun x=>by kernel_rfl
noncomputable def LB:List (bV×ij):=((35,[]),⟨true,[a0],[o3],u7 qB⟩)::LA
theorem h11:tT Try.prog LB:=fk (br 36 [] []) h10 [] trivial Try.func35 (by kernel_rfl) fun x=>by kernel_rfl
noncomputable def rp:eB:=⟨[(0,o4),(9,o4),(10,o1)],[(11,o1)],[(.ret,[(2,o3)]),(.exit 0,[])],ia⟩
theorem IE:nj Try.prog (env 53 [] []) (lp 0 (body Try.f17) 0) rp:=lk (br _ _ _) h11 (n:=0) [] trivial (by kernel_rfl) fun k x=>by kernel_rfl
noncomputable def LC:List (bV×ij):=((17,[]),⟨true,[o4],[o3],u1 fe⟩)::LB
theorem h12:tT Try.prog LC:=fk (br 53 [] []) h11 [(0,rp)] ⟨IE,trivial⟩ Try.func17 (by kernel_rfl) fun x=>by kernel_rfl
noncomputable def J0:Go.Shelf.Ren:=⟨fun|22=>22|29=>37|30=>38|n=>n,fun|9=>38|24=>24|3=>3|4=>4|0=>0|n=>n,fun n=>n⟩
theorem Kw:JC Try.prog J0 (Mk Try.prog 38) (LZ Try.prog 38):={ mixed:=by kernel_rfl, f22:=⟨"slices.Insert[[]loop.example/g03318/impl.Event,loop.example/g03318/impl.Event]", by kernel_rfl, Go.Proofs.Try.func22.trans (congrArg some (by kernel_rfl))⟩, f29:=⟨_, Go.Proofs.Try.func37, by kernel_rfl, by kernel_rfl, by kernel_rfl, by kernel_rfl⟩, t3:=Go.Proofs.Try.underlying3, a3:=Go.Proofs.Try.isAgg3, z3:=Go.Proofs.Try.sizeOf3, v3:=Go.Proofs.Try.zeroValue3, t4:=Go.Proofs.Try.underlying4, a4:=Go.Proofs.Try.isAgg4, z4:=Go.Proofs.Try.sizeOf4, v4:=Go.Proofs.Try.zeroValue4, t24:=Go.Proofs.Try.underlying24, a24:=Go.Proofs.Try.isAgg24, z24:=Go.Proofs.Try.sizeOf24, v24:=Go.Proofs.Try.zeroValue24, z9:=Go.Proofs.Try.sizeOf38, i9:=by kernel_rfl }
noncomputable def LD:List (bV×ij):=((22,[]),Jj 38 t8)::LC
theorem LO:tT Try.prog LD:=⟨JM (ρ:=J0) Kw (by kernel_rfl) (by kernel_rfl) rfl rfl,h12⟩
noncomputable def sL:eB:=⟨[(0,o4),(1,o1),(32,o4),(33,o1)],[(14,o2),(15,a1),(16,o1),(34,o1)],[(.exit 0,[(14,o2),(15,a1),(16,o1)])],jn⟩
theorem IK:nj Try.prog (env 75 [] []) (lp 0 (body Try.f8) 0) sL:=lk (br _ _ _) LO (n:=0) [] trivial (by kernel_rfl) fun k x=>by kernel_rfl
noncomputable def LF:List (bV×ij):=((8,[]),⟨true,[o4,o1,o1,o1,o1,o1],[o2,o3],u6 gI⟩)::LD
theorem L0:tT Try.prog LF:=fk (br 75 [] []) LO [(0,sL)] ⟨IK,trivial⟩ Try.func8 (by kernel_rfl) fun x=>by kernel_rfl
noncomputable def LG:List (bV×ij):=((23,[]),⟨true,[a0,a0],[o3],Mj qS⟩)::LF
theorem LP:tT Try.prog LG:=fk (br 40 [] []) L0 [] trivial Try.func23 (by kernel_rfl) fun x=>by kernel_rfl
noncomputable def sS:eB:=⟨[(0,o4),(1,o4)],[(5,o1)],[(.ret,[(4,o3)]),(.exit 0,[])],kW⟩
theorem IL:nj Try.prog (env 27 [] []) (lp 0 (body Try.f9) 0) sS:=lk (br _ _ _) LP (n:=0) [] trivial (by kernel_rfl) fun k x=>by kernel_rfl
noncomputable def LH:List (bV×ij):=((9,[]),⟨true,[o4,o4],[o3],u2 b8⟩)::LG
theorem LQ:tT Try.prog LH:=fk (br 27 [] []) LP [(0,sS)] ⟨IL,trivial⟩ Try.func9 (by kernel_rfl) fun x=>by kernel_rfl
noncomputable def mS:eB:=⟨[],[(0,o2),(1,o1),(5,o1)],[(.exit 0,[(0,o2),(1,o1)])],c6⟩
theorem IA:nj Try.prog (env 62 [] []) (lp 0 (body Try.f10) 0) mS:=lk (br _ _ _) LQ (n:=0) [] trivial (by kernel_rfl) fun k x=>by kernel_rfl
noncomputable def LI:List (bV×ij):=((10,[]),⟨true,[o2,o1],[o1],u2 e8⟩)::LH
theorem LR:tT Try.prog LI:=fk (br 62 [] []) LQ [(0,mS)] ⟨IA,trivial⟩ Try.func10 (by kernel_rfl) fun x=>by kernel_rfl
noncomputable def me:eB:=⟨[(0,o4)],[(1,o1),(5,o1)],[(.ret,[(4,o1)]),(.exit 0,[(1,o1)])],cF⟩
theorem D3:nj Try.prog (env 76 [] []) (lp 0 (body Try.f11) 0) me:=lk (br _ _ _) LR (n:=0) [] trivial (by kernel_rfl) fun k x=>by kernel_rfl
noncomputable def LJ:List (bV×ij):=((11,[]),⟨true,[o4,o1],[o1],u2 ek⟩)::LI
theorem L1:tT Try.prog LJ:=fk (br 76 [] []) LR [(0,me)] ⟨D3,trivial⟩ Try.func11 (by kernel_rfl) fun x=>by kernel_rfl
noncomputable def bn:ij:=⟨true,[o0,o1,o1,o1,o1,o1],[o3],u6 fq⟩
noncomputable def LX:List (bV×ij):=((3,[]),bn)::LJ
theorem L2:tT Try.prog LX:=fk (br 121 [] []) L1 [] trivial Try.func3 (by kernel_rfl) fun x=>by kernel_rfl
theorem xb:eA Try.prog 3 bn:=L2.1
end Go.Proofs.Ytalncjeiapbcfaa.fnExactAddEvent

