/- What each function that the law FnExactFormatEvent reaches promises: it computes what its plain function says. Conditions: none. -/
import Derived.Test.YtalncjeiapbcfaaDoorRows
import Derived.Test.YtalncjeiapbcfaaDoorFormatEventQA
import Derived.Test.YtalncjeiapbcfaaDoorFormatEventS171
import Derived.KernelRfl
set_option linter.unusedVariables false
set_option linter.unusedSimpArgs false
namespace Go.Proofs.YtalncjeiapbcfaaDoor.fnExactFormatEvent
open Go.R Go.Fn
set_option maxRecDepth 100000
abbrev t0:aK:=.cons (.int .i64) .nil
abbrev t1:aK:=.cons .bool .nil
abbrev t2:aK:=.cons (.int .u8) .nil
abbrev t3:aK:=.cons (.int .i64) (.cons (.int .i64) (.cons .bool (.cons (.int .u8) .nil)))
abbrev t4:aK:=.cons .str .nil
abbrev t5:aK:=.cons (.int .u64) .nil
abbrev t6:aK:=.cons .str (.cons (.int .u64) .nil)
abbrev t7:aK:=.cons (.int .i32) .nil
abbrev t8:aK:=.cons (.int .i64) (.cons (.int .i64) (.cons (.int .i64) (.cons (.int .i64) (.cons (.int .i64) (.cons (.int .i64) (.cons (.int .i64) .nil))))))
abbrev t9:aK:=.cons (.sl 9 t4) .nil
abbrev t10:aK:=.cons (.sl 5 t2) .nil
abbrev t11:aK:=.cons (.int .u32) .nil
abbrev v0:K:=.val (.int .i64)
abbrev v1:K:=.val .bool
abbrev v2:K:=.val (.int .u8)
abbrev v3:K:=.val .str
abbrev o0:Sh:=.one v0
abbrev o1:Sh:=.one v1
abbrev o2:Sh:=.one v2
abbrev o3:Sh:=.one v3
abbrev a0:Sh:=.agg [v0,v0,v0,v0,v0,v0,v0]
noncomputable def table:List (Nat×TI):=[(2,⟨t0,false,8,[],none⟩),
 (3,⟨t0,false,8,[],none⟩),
 (4,⟨t1,false,1,[],none⟩),
 (5,⟨t2,false,1,[],none⟩),
 (6,⟨t2,false,1,[],none⟩),
 (7,⟨t3,true,24,[(0,1,false),(1,1,false),(2,1,false),(3,1,false)],none⟩),
 (8,⟨t3,true,24,[(0,1,false),(1,1,false),(2,1,false),(3,1,false)],none⟩),
 (9,⟨t4,false,16,[],none⟩),
 (10,⟨t4,false,16,[],none⟩),
 (11,⟨t4,false,16,[],none⟩),
 (12,⟨t5,false,8,[],none⟩),
 (13,⟨t6,true,24,[(0,1,false),(1,1,false)],none⟩),
 (14,⟨t6,true,24,[(0,1,false),(1,1,false)],none⟩),
 (21,⟨t7,false,4,[],none⟩),
 (22,⟨t8,true,56,[(0,1,false),(1,1,false),(2,1,false),(3,1,false),(4,1,false),(5,1,false),(6,1,false)],none⟩),
 (23,⟨t8,true,56,[(0,1,false),(1,1,false),(2,1,false),(3,1,false),(4,1,false),(5,1,false),(6,1,false)],none⟩),
 (25,⟨t8,true,56,[(0,1,false),(1,1,false),(2,1,false),(3,1,false),(4,1,false),(5,1,false),(6,1,false)],none⟩),
 (30,⟨t9,false,24,[],some 9⟩),
 (33,⟨t10,false,24,[],some 5⟩),
 (37,⟨t5,false,8,[],none⟩),
 (45,⟨t11,false,4,[],none⟩),
 (47,⟨t5,false,8,[],none⟩),
 (59,⟨t2,false,1,[],none⟩),
 (60,⟨t2,false,1,[],none⟩),
 (63,⟨t7,false,4,[],none⟩),
 (64,⟨t7,false,4,[],none⟩)]
theorem me:CY Tryd.prog table=true:=by kernel_rfl
noncomputable def eqs:List Nat:=[]
theorem p4:(eqs.all fun t=>vW Tryd.prog (uY table) t)=true:=by kernel_rfl
noncomputable def maps:List (Nat×IntKind):=[]
theorem n2:(maps.all fun p=>CZ Tryd.prog p.1 p.2)=true:=by kernel_rfl
noncomputable def env(nt:Nat)(tr dp:List Nat):Env:={ ti:=uY table,deep:=fun d=>dp.any (Nat.beq d),trunc:=fun d=>tr.any (Nat.beq d),ro:=fun _=>false,E9:=fun t=>eqs.any (Nat.beq t),mp:=xC maps,nt:=nt }
theorem cy(nt:Nat)(tr dp:List Nat):cq Tryd.prog (env nt tr dp):=D7 (by kernel_rfl) me p4 n2 _ rfl (fun _=>rfl) rfl
noncomputable def u1{A0 B C:Type}(f:A0->C)(x:A0×B):C:=f x.1
noncomputable def u3{A0 A1 A2 B C:Type}(f:A0->A1->A2->C)(x:A0×A1×A2×B):C:=f x.1 x.2.1 x.2.2.1
noncomputable def u7{A0 A1 A2 A3 A4 A5 A6 B C:Type}(f:A0->A1->A2->A3->A4->A5->A6->C)(x:A0×A1×A2×A3×A4×A5×A6×B):C:=f x.1 x.2.1 x.2.2.1 x.2.2.2.1 x.2.2.2.2.1 x.2.2.2.2.2.1 x.2.2.2.2.2.2.1
noncomputable def T0:List (bV×ij):=[]
theorem h0:tT Tryd.prog T0:=trivial
noncomputable def T1:List (bV×ij):=((5,[]),⟨true,[a0],[a0],u7 ej⟩)::T0
theorem h1:tT Tryd.prog T1:=fk (cy 26 [] []) h0 [] trivial Tryd.func5 (by kernel_rfl) fun x=>by kernel_rfl
noncomputable def T2:List (bV×ij):=((11,[]),⟨true,[o0,o0,o0],[o1],u3 b9⟩)::T1
theorem h2:tT Tryd.prog T2:=fk (cy 15 [] []) h1 [] trivial Tryd.func11 (by kernel_rfl) fun x=>by kernel_rfl
noncomputable def T3:List (bV×ij):=((7,[]),⟨true,[a0],[o1],u7 c6⟩)::T2
theorem h3:tT Tryd.prog T3:=fk (cy 36 [] []) h2 [] trivial Tryd.func7 (by kernel_rfl) fun x=>by kernel_rfl
noncomputable def T4:List (bV×ij):=((12,[]),⟨true,[o0],[o2],u1 cn⟩)::T3
theorem h4:tT Tryd.prog T4:=fk (cy 12 [] []) h3 [] trivial Tryd.func12 (by kernel_rfl) fun x=>by kernel_rfl
noncomputable def eb:eB:=⟨[(3,o1)],[(0,o0),(4,o3)],[(.exit 0,[(4,o3)])],cx⟩
theorem ev:nj Tryd.prog (env 30 [] []) (lp 0 (body Tryd.f8) 0) eb:=lk (cy _ _ _) h4 (n:=0) [] trivial (by kernel_rfl) fun k x=>by kernel_rfl
noncomputable def T5:List (bV×ij):=((8,[]),⟨true,[o0],[o3],u1 bn⟩)::T4
theorem h5:tT Tryd.prog T5:=fk (cy 30 [] []) h4 [(0,eb)] ⟨ev,trivial⟩ Tryd.func8 (by kernel_rfl) fun x=>by kernel_rfl
noncomputable def T6:List (bV×ij):=((4,[]),⟨true,[a0],[o3],u7 bt⟩)::T5
theorem h6:tT Tryd.prog T6:=fk (cy 48 [] []) h5 [] trivial Tryd.func4 (by kernel_rfl) fun x=>by kernel_rfl
noncomputable def T7:List (bV×ij):=((13,[]),⟨true,[o0,o0,o0],[o1],u3 bu⟩)::T6
theorem h7:tT Tryd.prog T7:=fk (cy 15 [] []) h6 [] trivial Tryd.func13 (by kernel_rfl) fun x=>by kernel_rfl
noncomputable def T8:List (bV×ij):=((14,[]),⟨true,[o0],[o1],u1 c4⟩)::T7
theorem h8:tT Tryd.prog T8:=fk (cy 5 [] []) h7 [] trivial Tryd.func14 (by kernel_rfl) fun x=>by kernel_rfl
noncomputable def T9:List (bV×ij):=((9,[]),⟨true,[a0],[o1],u7 c5⟩)::T8
theorem h9:tT Tryd.prog T9:=fk (cy 36 [] []) h8 [] trivial Tryd.func9 (by kernel_rfl) fun x=>by kernel_rfl
theorem k6:Tryd.prog.globalNamed "internal/strconv.uint64pow10" = some 0:=by kernel_rfl
theorem gT:(Tryd.prog.globals[0]?).map (·.type) = some 44:=by kernel_rfl
theorem uT:Tryd.prog.underlying 44=some (.array 20 37):=by kernel_rfl
theorem uE:Tryd.prog.underlying 37=some (.int .u64):=by kernel_rfl
theorem cE:Tryd.prog.cellsOf 37=1:=by kernel_rfl
theorem cT:Tryd.prog.cellsOf 44=20:=by kernel_rfl
noncomputable def xh:List (bV×ij):=((15,[]),CS)::T9
theorem h10:tT Tryd.prog xh:=⟨Fm Go.Proofs.Tryd.lays171 k6 (by unfold Co wK;exact .head _),h9⟩
noncomputable def xl:List (bV×ij):=((10,[]),⟨true,[o0],[o3],u1 bg⟩)::xh
theorem h11:tT Tryd.prog xl:=fk (cy 5 [] []) h10 [] trivial Tryd.func10 (by kernel_rfl) fun x=>by kernel_rfl
noncomputable def xn:List (bV×ij):=((6,[]),⟨true,[a0],[o3],u7 br⟩)::xl
theorem h12:tT Tryd.prog xn:=fk (cy 50 [] []) h11 [] trivial Tryd.func6 (by kernel_rfl) fun x=>by kernel_rfl
noncomputable def bf:ij:=⟨true,[a0],[o1],u7 b8⟩
noncomputable def yx:List (bV×ij):=((3,[]),bf)::xn
theorem zT:tT Tryd.prog yx:=fk (cy 14 [] []) h12 [] trivial Tryd.func3 (by kernel_rfl) fun x=>by kernel_rfl
theorem ec:eA Tryd.prog 3 bf:=zT.1
end Go.Proofs.YtalncjeiapbcfaaDoor.fnExactFormatEvent

