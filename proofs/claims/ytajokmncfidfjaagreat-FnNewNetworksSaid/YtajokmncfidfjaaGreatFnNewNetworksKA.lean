/- What each function that the law FnNewNetworks reaches promises: it computes what its plain function says. Conditions: none. -/
import Derived.Test.YtajokmncfidfjaaGreatRows
import Derived.Test.YtajokmncfidfjaaGreatFnNewNetworksQD
import Derived.Test.YtajokmncfidfjaaGreatFnNewNetworksS20
import Derived.KernelRfl
set_option linter.unusedVariables false
set_option linter.unusedSimpArgs false
namespace Go.Proofs.YtajokmncfidfjaaGreat.fnNewNetworks
open Go.R Go.Fn
set_option maxRecDepth 100000
abbrev t0:aK:=.cons (.int .i64) .nil
abbrev t1:aK:=.cons .bool .nil
abbrev t2:aK:=.cons (.int .u8) .nil
abbrev t3:aK:=.cons (.int .i64) (.cons (.int .i64) (.cons .bool (.cons (.int .u8) .nil)))
abbrev t4:aK:=.cons .str .nil
abbrev t5:aK:=.cons (.int .u64) .nil
abbrev t6:aK:=.cons .str (.cons (.int .u64) .nil)
abbrev t7:aK:=.cons (.int .i32) .nil
abbrev t8:aK:=.cons (.sl 5 t2) .nil
abbrev t9:aK:=.cons (.int .i64) (.cons (.int .i64) (.cons (.int .i64) (.cons (.int .i64) (.cons (.int .i64) (.cons (.int .i64) (.cons (.int .i64) (.cons (.int .i64) .nil)))))))
abbrev t10:aK:=.cons (.int .i64) (.cons (.int .i64) .nil)
abbrev t11:aK:=.cons (.sl 125 t10) (.cons (.sl 125 t10) .nil)
abbrev t12:aK:=.cons (.sl 42 t11) .nil
abbrev t13:aK:=.cons (.int .i64) (.cons (.int .i64) (.cons (.int .i64) (.cons .bool .nil)))
abbrev t14:aK:=.cons (.int .i64) (.cons (.sl 3 t0) (.cons (.sl 127 t13) .nil))
abbrev t15:aK:=.cons (.sl 83 t14) .nil
abbrev t16:aK:=.cons (.sl 43 t15) .nil
abbrev t17:aK:=.cons (.int .i64) (.cons (.int .i64) (.cons (.int .i64) (.cons (.int .i64) (.cons (.int .i64) (.cons (.int .i64) (.cons (.int .i64) .nil))))))
abbrev t18:aK:=.cons (.sl 125 t10) (.cons (.sl 125 t10) (.cons (.sl 83 t14) (.cons (.int .i64) (.cons (.int .i64) (.cons .bool (.cons .bool (.cons .bool (.cons (.int .i64) (.cons (.int .i64) (.cons (.sl 136 t17) .nil))))))))))
abbrev t19:aK:=.cons (.sl 47 t18) .nil
abbrev t20:aK:=.cons (.int .i64) (.cons (.int .i64) (.cons (.int .i64) (.cons (.int .i64) (.cons (.int .i64) (.cons (.int .i64) (.cons (.int .i64) (.cons (.int .i64) (.cons (.int .i64) (.cons (.int .i64) (.cons (.int .i64) (.cons (.int .i64) (.cons (.int .i64) .nil))))))))))))
abbrev t21:aK:=.cons (.sl 66 t20) .nil
abbrev t22:aK:=.cons (.int .i64) (.cons (.int .i64) (.cons (.int .i64) (.cons (.int .i64) (.cons (.int .i64) (.cons (.int .i64) (.cons .bool .nil))))))
abbrev t23:aK:=.cons (.sl 134 t22) .nil
abbrev t24:aK:=.cons (.sl 136 t17) .nil
abbrev t25:aK:=.cons (.int .i64) (.cons (.int .i64) (.cons (.int .i64) (.cons (.int .i64) (.cons (.int .i64) (.cons (.int .i64) (.cons (.int .i64) (.cons (.int .i64) (.cons (.int .i64) (.cons (.int .i64) (.cons (.int .i64) (.cons (.sl 47 t18) (.cons (.sl 66 t20) (.cons (.sl 134 t22) (.cons (.sl 136 t17) .nil))))))))))))))
abbrev t26:aK:=.cons (.sl 125 t10) .nil
abbrev t27:aK:=.cons (.int .i64) (.cons (.int .i64) (.cons .bool (.cons .bool (.cons .bool .nil))))
abbrev t28:aK:=.cons (.sl 3 t0) .nil
abbrev t29:aK:=.cons (.sl 53 t28) .nil
abbrev t30:aK:=.cons (.int .i64) (.cons (.int .i64) (.cons (.int .i64) (.cons (.int .i64) (.cons (.int .i64) .nil))))
abbrev t31:aK:=.cons (.sl 68 t30) .nil
abbrev t32:aK:=.cons (.int .i64) (.cons (.int .i64) (.cons (.sl 53 t28) (.cons (.sl 68 t30) .nil)))
abbrev t33:aK:=.cons (.sl 127 t13) .nil
abbrev t34:aK:=.cons (.sl 3 t0) (.cons (.int .i64) (.cons (.int .i64) (.cons (.int .i64) .nil)))
abbrev t35:aK:=.cons (.sl 5 t2) (.cons (.int .i64) (.cons (.int .i64) .nil))
abbrev t36:aK:=.cons (.int .u32) .nil
abbrev t37:aK:=.cons (.int .i64) (.cons (.int .i64) (.cons (.int .i64) (.cons (.int .i64) (.cons .str (.cons (.int .i64) (.cons (.int .i64) (.cons (.int .i64) (.cons (.int .i64) (.cons (.int .i64) (.cons (.int .i64) (.cons .bool .nil)))))))))))
abbrev t38:aK:=.cons (.sl 217 t37) .nil
abbrev t39:aK:=.cons (.int .i64) (.cons (.int .i64) (.cons (.int .i64) .nil))
abbrev t40:aK:=.cons (.sl 203 t39) .nil
abbrev t41:aK:=.cons (.int .i64) (.cons (.int .i64) (.cons (.int .i64) (.cons (.int .i64) .nil)))
abbrev t42:aK:=.cons .bool (.cons .bool (.cons .bool (.cons .bool .nil)))
abbrev t43:aK:=.cons (.sl 4 t1) .nil
abbrev t44:aK:=.cons (.sl 284 t43) .nil
abbrev v0:K:=.val (.sl 5 t2)
abbrev v1:K:=.val .bool
abbrev v2:K:=.val (.int .i64)
abbrev v3:K:=.val (.sl 3 t0)
abbrev v4:K:=.val (.sl 127 t13)
abbrev v5:K:=.val (.sl 203 t39)
abbrev v6:K:=.val (.sl 125 t10)
abbrev v7:K:=.val (.sl 83 t14)
abbrev v8:K:=.val (.sl 134 t22)
abbrev v9:K:=.val (.sl 136 t17)
abbrev v10:K:=.val (.sl 47 t18)
abbrev v11:K:=.val (.sl 66 t20)
abbrev v12:K:=.val (.sl 43 t15)
abbrev v13:K:=.val (.sl 42 t11)
abbrev v14:K:=.val (.int .u32)
abbrev v15:K:=.val (.int .u64)
abbrev v16:K:=.arr 125 t10 false
abbrev v17:K:=.arr 3 t0 false
abbrev v18:K:=.arr 127 t13 false
abbrev v19:K:=.arr 203 t39 false
abbrev v20:K:=.arr 83 t14 false
abbrev v21:K:=.arr 42 t11 false
abbrev v22:K:=.arr 43 t15 false
abbrev v23:K:=.arr 83 t14 true
abbrev v24:K:=.arr 47 t18 true
abbrev v25:K:=.arr 66 t20 false
abbrev v26:K:=.arr 134 t22 false
abbrev v27:K:=.arr 136 t17 false
abbrev o0:Sh:=.one v0
abbrev o1:Sh:=.one v1
abbrev o2:Sh:=.one v2
abbrev o3:Sh:=.one v3
abbrev o4:Sh:=.one v16
abbrev o5:Sh:=.one v19
abbrev o6:Sh:=.one v5
abbrev o7:Sh:=.one v20
abbrev o8:Sh:=.one v21
abbrev o9:Sh:=.one v22
abbrev o10:Sh:=.one v6
abbrev o11:Sh:=.one v17
abbrev o12:Sh:=.one v4
abbrev o13:Sh:=.one v18
abbrev o14:Sh:=.one v7
abbrev o15:Sh:=.one v23
abbrev o16:Sh:=.one v8
abbrev o17:Sh:=.one v9
abbrev o18:Sh:=.one v10
abbrev o19:Sh:=.one v11
abbrev o20:Sh:=.one v12
abbrev o21:Sh:=.one v13
abbrev o22:Sh:=.one v27
abbrev o23:Sh:=.one v14
abbrev o24:Sh:=.one v15
abbrev a0:Sh:=.blk [v0,v2,v2]
abbrev a1:Sh:=.agg [v2,v2,v2,v2,v2,v2,v2,v2]
abbrev a2:Sh:=.agg [v16,v16]
abbrev a3:Sh:=.blk [v16,v16]
abbrev a4:Sh:=.blk [v2,v2,v2,v1]
abbrev a5:Sh:=.agg [v2,v3,v4]
abbrev a6:Sh:=.blk [v2,v17,v18]
abbrev a7:Sh:=.agg [v2,v17,v18]
abbrev a8:Sh:=.agg [v2,v2,v2]
abbrev a9:Sh:=.blk [v2,v2,v2,v2,v2,v2,v2,v2]
abbrev a10:Sh:=.agg [v2,v2,v2,v2,v2,v2,v1]
abbrev a11:Sh:=.agg [v2,v2,v2,v2,v2,v2,v2]
abbrev a12:Sh:=.agg [v2,v2,v1,v1,v1]
abbrev a13:Sh:=.agg [v2,v2,v2,v2,v2,v2,v2,v2,v2,v2,v2,v10,v11,v8,v9]
abbrev a14:Sh:=.agg [v2,v2,v2,v2,v2,v2,v2,v2,v2,v2,v2,v2,v2]
abbrev a15:Sh:=.agg [v2,v2,v2,v2,v2]
abbrev a16:Sh:=.blk [v2,v2,v2,v2,v2,v2,v2,v2,v2,v2,v2,v24,v25,v26,v27]
abbrev a17:Sh:=.agg [v2,v2,v2,v2,v2,v2,v2,v2,v2,v2,v2,v24,v25,v26,v27]
abbrev a18:Sh:=.agg [v6,v6,v7,v2,v2,v1,v1,v1,v2,v2,v9]
abbrev a19:Sh:=.blk [v2,v2,v2,v2,v2,v2,v2]
noncomputable def table:List (Nat×TI):=[(2,⟨t0,false,8,[],none⟩),
 (3,⟨t0,false,8,[],none⟩),
 (4,⟨t1,false,1,[],none⟩),
 (5,⟨t2,false,1,[],none⟩),
 (6,⟨t2,false,1,[],none⟩),
 (7,⟨t3,true,24,[(0,1,false),(1,1,false),(2,1,false),(3,1,false)],none⟩),
 (8,⟨t3,true,24,[(0,1,false),(1,1,false),(2,1,false),(3,1,false)],none⟩),
 (9,⟨t4,false,16,[],none⟩),
 (10,⟨t4,false,16,[],none⟩),
 (11,⟨t4,false,16,[],none⟩),
 (12,⟨t5,false,8,[],none⟩),
 (13,⟨t6,true,24,[(0,1,false),(1,1,false)],none⟩),
 (14,⟨t6,true,24,[(0,1,false),(1,1,false)],none⟩),
 (21,⟨t7,false,4,[],none⟩),
 (22,⟨t8,false,24,[],some 5⟩),
 (24,⟨t9,true,64,[(0,1,false),(1,1,false),(2,1,false),(3,1,false),(4,1,false),(5,1,false),(6,1,false),(7,1,false)],none⟩),
 (25,⟨t9,true,64,[(0,1,false),(1,1,false),(2,1,false),(3,1,false),(4,1,false),(5,1,false),(6,1,false),(7,1,false)],none⟩),
 (26,⟨t12,false,24,[],some 42⟩),
 (27,⟨t16,false,24,[],some 43⟩),
 (30,⟨t19,false,24,[],some 47⟩),
 (31,⟨t21,false,24,[],some 66⟩),
 (32,⟨t23,false,24,[],some 134⟩),
 (33,⟨t24,false,24,[],some 136⟩),
 (34,⟨t25,true,184,[(0,8,true),(8,1,false),(9,1,false),(10,1,false),(11,1,false),(12,1,false),(13,1,false),(14,1,false)],none⟩),
 (35,⟨t25,true,184,[(0,8,true),(8,1,false),(9,1,false),(10,1,false),(11,1,false),(12,1,false),(13,1,false),(14,1,false)],none⟩),
 (40,⟨t26,false,24,[],some 125⟩),
 (41,⟨t11,true,48,[(0,1,false),(1,1,false)],none⟩),
 (42,⟨t11,true,48,[(0,1,false),(1,1,false)],none⟩),
 (43,⟨t15,false,24,[],some 83⟩),
 (44,⟨t27,true,24,[(0,1,false),(1,1,false),(2,1,false),(3,1,false),(4,1,false)],none⟩),
 (45,⟨t27,true,24,[(0,1,false),(1,1,false),(2,1,false),(3,1,false),(4,1,false)],none⟩),
 (46,⟨t18,true,136,[(0,2,true),(2,1,false),(3,5,true),(8,1,false),(9,1,false),(10,1,false)],none⟩),
 (47,⟨t18,true,136,[(0,2,true),(2,1,false),(3,5,true),(8,1,false),(9,1,false),(10,1,false)],none⟩),
 (50,⟨t29,false,24,[],some 53⟩),
 (53,⟨t28,false,24,[],some 3⟩),
 (56,⟨t31,false,24,[],some 68⟩),
 (57,⟨t32,true,64,[(0,1,false),(1,1,false),(2,1,false),(3,1,false)],none⟩),
 (58,⟨t32,true,64,[(0,1,false),(1,1,false),(2,1,false),(3,1,false)],none⟩),
 (63,⟨t30,true,40,[(0,1,false),(1,1,false),(2,1,false),(3,1,false),(4,1,false)],none⟩),
 (64,⟨t30,true,40,[(0,1,false),(1,1,false),(2,1,false),(3,1,false),(4,1,false)],none⟩),
 (65,⟨t20,true,104,[(0,1,false),(1,1,false),(2,1,false),(3,1,false),(4,1,false),(5,1,false),(6,5,true),(11,1,false),(12,1,false)],none⟩),
 (66,⟨t20,true,104,[(0,1,false),(1,1,false),(2,1,false),(3,1,false),(4,1,false),(5,1,false),(6,5,true),(11,1,false),(12,1,false)],none⟩),
 (67,⟨t30,true,40,[(0,1,false),(1,1,false),(2,1,false),(3,1,false),(4,1,false)],none⟩),
 (68,⟨t30,true,40,[(0,1,false),(1,1,false),(2,1,false),(3,1,false),(4,1,false)],none⟩),
 (81,⟨t33,false,24,[],some 127⟩),
 (82,⟨t14,true,56,[(0,1,false),(1,1,false),(2,1,false)],none⟩),
 (83,⟨t14,true,56,[(0,1,false),(1,1,false),(2,1,false)],none⟩),
 (105,⟨t17,true,56,[(0,1,false),(1,1,false),(2,1,false),(3,1,false),(4,1,false),(5,1,false),(6,1,false)],none⟩),
 (106,⟨t17,true,56,[(0,1,false),(1,1,false),(2,1,false),(3,1,false),(4,1,false),(5,1,false),(6,1,false)],none⟩),
 (115,⟨t34,true,48,[(0,1,false),(1,1,false),(2,1,false),(3,1,false)],none⟩),
 (116,⟨t34,true,48,[(0,1,false),(1,1,false),(2,1,false),(3,1,false)],none⟩),
 (121,⟨t35,true,40,[(0,1,false),(1,1,false),(2,1,false)],none⟩),
 (122,⟨t35,true,40,[(0,1,false),(1,1,false),(2,1,false)],none⟩),
 (124,⟨t10,true,16,[(0,1,false),(1,1,false)],none⟩),
 (125,⟨t10,true,16,[(0,1,false),(1,1,false)],none⟩),
 (126,⟨t13,true,32,[(0,1,false),(1,1,false),(2,1,false),(3,1,false)],none⟩),
 (127,⟨t13,true,32,[(0,1,false),(1,1,false),(2,1,false),(3,1,false)],none⟩),
 (133,⟨t22,true,56,[(0,1,false),(1,1,false),(2,1,false),(3,1,false),(4,1,false),(5,1,false),(6,1,false)],none⟩),
 (134,⟨t22,true,56,[(0,1,false),(1,1,false),(2,1,false),(3,1,false),(4,1,false),(5,1,false),(6,1,false)],none⟩),
 (135,⟨t17,true,56,[(0,1,false),(1,1,false),(2,1,false),(3,1,false),(4,1,false),(5,1,false),(6,1,false)],none⟩),
 (136,⟨t17,true,56,[(0,1,false),(1,1,false),(2,1,false),(3,1,false),(4,1,false),(5,1,false),(6,1,false)],none⟩),
 (156,⟨t5,false,8,[],none⟩),
 (174,⟨t34,true,48,[(0,1,false),(1,1,false),(2,1,false),(3,1,false)],none⟩),
 (175,⟨t34,true,48,[(0,1,false),(1,1,false),(2,1,false),(3,1,false)],none⟩),
 (186,⟨t0,false,8,[],none⟩),
 (194,⟨t36,false,4,[],none⟩),
 (196,⟨t5,false,8,[],none⟩),
 (198,⟨t38,false,24,[],some 217⟩),
 (202,⟨t39,true,24,[(0,1,false),(1,1,false),(2,1,false)],none⟩),
 (203,⟨t39,true,24,[(0,1,false),(1,1,false),(2,1,false)],none⟩),
 (208,⟨t5,false,8,[],none⟩),
 (216,⟨t37,true,104,[(0,1,false),(1,1,false),(2,1,false),(3,1,false),(4,1,false),(5,7,true)],none⟩),
 (217,⟨t37,true,104,[(0,1,false),(1,1,false),(2,1,false),(3,1,false),(4,1,false),(5,7,true)],none⟩),
 (222,⟨t40,false,24,[],some 203⟩),
 (259,⟨t41,true,32,[(0,1,false),(1,1,false),(2,1,false),(3,1,false)],none⟩),
 (260,⟨t41,true,32,[(0,1,false),(1,1,false),(2,1,false),(3,1,false)],none⟩),
 (271,⟨t42,true,4,[(0,1,false),(1,1,false),(2,1,false),(3,1,false)],none⟩),
 (272,⟨t42,true,4,[(0,1,false),(1,1,false),(2,1,false),(3,1,false)],none⟩),
 (280,⟨t44,false,24,[],some 284⟩),
 (284,⟨t43,false,24,[],some 4⟩),
 (295,⟨t2,false,1,[],none⟩),
 (296,⟨t2,false,1,[],none⟩),
 (299,⟨t7,false,4,[],none⟩),
 (300,⟨t7,false,4,[],none⟩)]
theorem abU:CY Tryz.prog table=true:=by kernel_rfl
noncomputable def eqs:List Nat:=[25,66,134,136,45,64,106,68,127,125]
theorem adr:(eqs.all fun t=>vW Tryz.prog (uY table) t)=true:=by kernel_rfl
noncomputable def maps:List (Nat×IntKind):=[(162,.i64)]
theorem acB:(maps.all fun p=>CZ Tryz.prog p.1 p.2)=true:=by kernel_rfl
noncomputable def env(nt:Nat)(tr dp:List Nat):Env:={ ti:=uY table,deep:=fun d=>dp.any (Nat.beq d),trunc:=fun d=>tr.any (Nat.beq d),ro:=fun _=>false,E9:=fun t=>eqs.any (Nat.beq t),mp:=xC maps,nt:=nt }
theorem bu(nt:Nat)(tr dp:List Nat):cq Tryz.prog (env nt tr dp):=D7 (by kernel_rfl) abU adr acB _ rfl (fun _=>rfl) rfl
noncomputable def u1{A0 B C:Type}(f:A0->C)(x:A0×B):C:=f x.1
noncomputable def u2{A0 A1 B C:Type}(f:A0->A1->C)(x:A0×A1×B):C:=f x.1 x.2.1
noncomputable def u3{A0 A1 A2 B C:Type}(f:A0->A1->A2->C)(x:A0×A1×A2×B):C:=f x.1 x.2.1 x.2.2.1
noncomputable def u4{A0 A1 A2 A3 B C:Type}(f:A0->A1->A2->A3->C)(x:A0×A1×A2×A3×B):C:=f x.1 x.2.1 x.2.2.1 x.2.2.2.1
noncomputable def u5{A0 A1 A2 A3 A4 B C:Type}(f:A0->A1->A2->A3->A4->C)(x:A0×A1×A2×A3×A4×B):C:=f x.1 x.2.1 x.2.2.1 x.2.2.2.1 x.2.2.2.2.1
noncomputable def u6{A0 A1 A2 A3 A4 A5 B C:Type}(f:A0->A1->A2->A3->A4->A5->C)(x:A0×A1×A2×A3×A4×A5×B):C:=f x.1 x.2.1 x.2.2.1 x.2.2.2.1 x.2.2.2.2.1 x.2.2.2.2.2.1
noncomputable def u7{A0 A1 A2 A3 A4 A5 A6 B C:Type}(f:A0->A1->A2->A3->A4->A5->A6->C)(x:A0×A1×A2×A3×A4×A5×A6×B):C:=f x.1 x.2.1 x.2.2.1 x.2.2.2.1 x.2.2.2.2.1 x.2.2.2.2.2.1 x.2.2.2.2.2.2.1
noncomputable def u8{A0 A1 A2 A3 A4 A5 A6 A7 B C:Type}(f:A0->A1->A2->A3->A4->A5->A6->A7->C)(x:A0×A1×A2×A3×A4×A5×A6×A7×B):C:=f x.1 x.2.1 x.2.2.1 x.2.2.2.1 x.2.2.2.2.1 x.2.2.2.2.2.1 x.2.2.2.2.2.2.1 x.2.2.2.2.2.2.2.1
noncomputable def u10{A0 A1 A2 A3 A4 A5 A6 A7 A8 A9 B C:Type}(f:A0->A1->A2->A3->A4->A5->A6->A7->A8->A9->C)(x:A0×A1×A2×A3×A4×A5×A6×A7×A8×A9×B):C:=f x.1 x.2.1 x.2.2.1 x.2.2.2.1 x.2.2.2.2.1 x.2.2.2.2.2.1 x.2.2.2.2.2.2.1 x.2.2.2.2.2.2.2.1 x.2.2.2.2.2.2.2.2.1 x.2.2.2.2.2.2.2.2.2.1
noncomputable def u12{A0 A1 A2 A3 A4 A5 A6 A7 A8 A9 Yw Yx B C:Type}(f:A0->A1->A2->A3->A4->A5->A6->A7->A8->A9->Yw->Yx->C)(x:A0×A1×A2×A3×A4×A5×A6×A7×A8×A9×Yw×Yx×B):C:=f x.1 x.2.1 x.2.2.1 x.2.2.2.1 x.2.2.2.2.1 x.2.2.2.2.2.1 x.2.2.2.2.2.2.1 x.2.2.2.2.2.2.2.1 x.2.2.2.2.2.2.2.2.1 x.2.2.2.2.2.2.2.2.2.1 x.2.2.2.2.2.2.2.2.2.2.1 x.2.2.2.2.2.2.2.2.2.2.2.1
noncomputable def u14{A0 A1 A2 A3 A4 A5 A6 A7 A8 A9 Yw Yx YY YZ B C:Type}(f:A0->A1->A2->A3->A4->A5->A6->A7->A8->A9->Yw->Yx->YY->YZ->C)(x:A0×A1×A2×A3×A4×A5×A6×A7×A8×A9×Yw×Yx×YY×YZ×B):C:=f x.1 x.2.1 x.2.2.1 x.2.2.2.1 x.2.2.2.2.1 x.2.2.2.2.2.1 x.2.2.2.2.2.2.1 x.2.2.2.2.2.2.2.1 x.2.2.2.2.2.2.2.2.1 x.2.2.2.2.2.2.2.2.2.1 x.2.2.2.2.2.2.2.2.2.2.1 x.2.2.2.2.2.2.2.2.2.2.2.1 x.2.2.2.2.2.2.2.2.2.2.2.2.1 x.2.2.2.2.2.2.2.2.2.2.2.2.2.1
noncomputable def u15{A0 A1 A2 A3 A4 A5 A6 A7 A8 A9 Yw Yx YY YZ ZA B C:Type}(f:A0->A1->A2->A3->A4->A5->A6->A7->A8->A9->Yw->Yx->YY->YZ->ZA->C)(x:A0×A1×A2×A3×A4×A5×A6×A7×A8×A9×Yw×Yx×YY×YZ×ZA×B):C:=f x.1 x.2.1 x.2.2.1 x.2.2.2.1 x.2.2.2.2.1 x.2.2.2.2.2.1 x.2.2.2.2.2.2.1 x.2.2.2.2.2.2.2.1 x.2.2.2.2.2.2.2.2.1 x.2.2.2.2.2.2.2.2.2.1 x.2.2.2.2.2.2.2.2.2.2.1 x.2.2.2.2.2.2.2.2.2.2.2.1 x.2.2.2.2.2.2.2.2.2.2.2.2.1 x.2.2.2.2.2.2.2.2.2.2.2.2.2.1 x.2.2.2.2.2.2.2.2.2.2.2.2.2.2.1
noncomputable def u16{A0 A1 A2 A3 A4 A5 A6 A7 A8 A9 Yw Yx YY YZ ZA A15 B C:Type}(f:A0->A1->A2->A3->A4->A5->A6->A7->A8->A9->Yw->Yx->YY->YZ->ZA->A15->C)(x:A0×A1×A2×A3×A4×A5×A6×A7×A8×A9×Yw×Yx×YY×YZ×ZA×A15×B):C:=f x.1 x.2.1 x.2.2.1 x.2.2.2.1 x.2.2.2.2.1 x.2.2.2.2.2.1 x.2.2.2.2.2.2.1 x.2.2.2.2.2.2.2.1 x.2.2.2.2.2.2.2.2.1 x.2.2.2.2.2.2.2.2.2.1 x.2.2.2.2.2.2.2.2.2.2.1 x.2.2.2.2.2.2.2.2.2.2.2.1 x.2.2.2.2.2.2.2.2.2.2.2.2.1 x.2.2.2.2.2.2.2.2.2.2.2.2.2.1 x.2.2.2.2.2.2.2.2.2.2.2.2.2.2.1 x.2.2.2.2.2.2.2.2.2.2.2.2.2.2.2.1
noncomputable def u22{A0 A1 A2 A3 A4 A5 A6 A7 A8 A9 Yw Yx YY YZ ZA A15 A16 A17 A18 A19 A20 A21 B C:Type}(f:A0->A1->A2->A3->A4->A5->A6->A7->A8->A9->Yw->Yx->YY->YZ->ZA->A15->A16->A17->A18->A19->A20->A21->C)(x:A0×A1×A2×A3×A4×A5×A6×A7×A8×A9×Yw×Yx×YY×YZ×ZA×A15×A16×A17×A18×A19×A20×A21×B):C:=f x.1 x.2.1 x.2.2.1 x.2.2.2.1 x.2.2.2.2.1 x.2.2.2.2.2.1 x.2.2.2.2.2.2.1 x.2.2.2.2.2.2.2.1 x.2.2.2.2.2.2.2.2.1 x.2.2.2.2.2.2.2.2.2.1 x.2.2.2.2.2.2.2.2.2.2.1 x.2.2.2.2.2.2.2.2.2.2.2.1 x.2.2.2.2.2.2.2.2.2.2.2.2.1 x.2.2.2.2.2.2.2.2.2.2.2.2.2.1 x.2.2.2.2.2.2.2.2.2.2.2.2.2.2.1 x.2.2.2.2.2.2.2.2.2.2.2.2.2.2.2.1 x.2.2.2.2.2.2.2.2.2.2.2.2.2.2.2.2.1 x.2.2.2.2.2.2.2.2.2.2.2.2.2.2.2.2.2.1 x.2.2.2.2.2.2.2.2.2.2.2.2.2.2.2.2.2.2.1 x.2.2.2.2.2.2.2.2.2.2.2.2.2.2.2.2.2.2.2.1 x.2.2.2.2.2.2.2.2.2.2.2.2.2.2.2.2.2.2.2.2.1 x.2.2.2.2.2.2.2.2.2.2.2.2.2.2.2.2.2.2.2.2.2.1
noncomputable def u28{A0 A1 A2 A3 A4 A5 A6 A7 A8 A9 Yw Yx YY YZ ZA A15 A16 A17 A18 A19 A20 A21 A22 A23 A24 A25 A26 A27 B C:Type}(f:A0->A1->A2->A3->A4->A5->A6->A7->A8->A9->Yw->Yx->YY->YZ->ZA->A15->A16->A17->A18->A19->A20->A21->A22->A23->A24->A25->A26->A27->C)(x:A0×A1×A2×A3×A4×A5×A6×A7×A8×A9×Yw×Yx×YY×YZ×ZA×A15×A16×A17×A18×A19×A20×A21×A22×A23×A24×A25×A26×A27×B):C:=f x.1 x.2.1 x.2.2.1 x.2.2.2.1 x.2.2.2.2.1 x.2.2.2.2.2.1 x.2.2.2.2.2.2.1 x.2.2.2.2.2.2.2.1 x.2.2.2.2.2.2.2.2.1 x.2.2.2.2.2.2.2.2.2.1 x.2.2.2.2.2.2.2.2.2.2.1 x.2.2.2.2.2.2.2.2.2.2.2.1 x.2.2.2.2.2.2.2.2.2.2.2.2.1 x.2.2.2.2.2.2.2.2.2.2.2.2.2.1 x.2.2.2.2.2.2.2.2.2.2.2.2.2.2.1 x.2.2.2.2.2.2.2.2.2.2.2.2.2.2.2.1 x.2.2.2.2.2.2.2.2.2.2.2.2.2.2.2.2.1 x.2.2.2.2.2.2.2.2.2.2.2.2.2.2.2.2.2.1 x.2.2.2.2.2.2.2.2.2.2.2.2.2.2.2.2.2.2.1 x.2.2.2.2.2.2.2.2.2.2.2.2.2.2.2.2.2.2.2.1 x.2.2.2.2.2.2.2.2.2.2.2.2.2.2.2.2.2.2.2.2.1 x.2.2.2.2.2.2.2.2.2.2.2.2.2.2.2.2.2.2.2.2.2.1 x.2.2.2.2.2.2.2.2.2.2.2.2.2.2.2.2.2.2.2.2.2.2.1 x.2.2.2.2.2.2.2.2.2.2.2.2.2.2.2.2.2.2.2.2.2.2.2.1 x.2.2.2.2.2.2.2.2.2.2.2.2.2.2.2.2.2.2.2.2.2.2.2.2.1 x.2.2.2.2.2.2.2.2.2.2.2.2.2.2.2.2.2.2.2.2.2.2.2.2.2.1 x.2.2.2.2.2.2.2.2.2.2.2.2.2.2.2.2.2.2.2.2.2.2.2.2.2.2.1 x.2.2.2.2.2.2.2.2.2.2.2.2.2.2.2.2.2.2.2.2.2.2.2.2.2.2.2.1
noncomputable def u30{A0 A1 A2 A3 A4 A5 A6 A7 A8 A9 Yw Yx YY YZ ZA A15 A16 A17 A18 A19 A20 A21 A22 A23 A24 A25 A26 A27 A28 A29 B C:Type}(f:A0->A1->A2->A3->A4->A5->A6->A7->A8->A9->Yw->Yx->YY->YZ->ZA->A15->A16->A17->A18->A19->A20->A21->A22->A23->A24->A25->A26->A27->A28->A29->C)(x:A0×A1×A2×A3×A4×A5×A6×A7×A8×A9×Yw×Yx×YY×YZ×ZA×A15×A16×A17×A18×A19×A20×A21×A22×A23×A24×A25×A26×A27×A28×A29×B):C:=f x.1 x.2.1 x.2.2.1 x.2.2.2.1 x.2.2.2.2.1 x.2.2.2.2.2.1 x.2.2.2.2.2.2.1 x.2.2.2.2.2.2.2.1 x.2.2.2.2.2.2.2.2.1 x.2.2.2.2.2.2.2.2.2.1 x.2.2.2.2.2.2.2.2.2.2.1 x.2.2.2.2.2.2.2.2.2.2.2.1 x.2.2.2.2.2.2.2.2.2.2.2.2.1 x.2.2.2.2.2.2.2.2.2.2.2.2.2.1 x.2.2.2.2.2.2.2.2.2.2.2.2.2.2.1 x.2.2.2.2.2.2.2.2.2.2.2.2.2.2.2.1 x.2.2.2.2.2.2.2.2.2.2.2.2.2.2.2.2.1 x.2.2.2.2.2.2.2.2.2.2.2.2.2.2.2.2.2.1 x.2.2.2.2.2.2.2.2.2.2.2.2.2.2.2.2.2.2.1 x.2.2.2.2.2.2.2.2.2.2.2.2.2.2.2.2.2.2.2.1 x.2.2.2.2.2.2.2.2.2.2.2.2.2.2.2.2.2.2.2.2.1 x.2.2.2.2.2.2.2.2.2.2.2.2.2.2.2.2.2.2.2.2.2.1 x.2.2.2.2.2.2.2.2.2.2.2.2.2.2.2.2.2.2.2.2.2.2.1 x.2.2.2.2.2.2.2.2.2.2.2.2.2.2.2.2.2.2.2.2.2.2.2.1 x.2.2.2.2.2.2.2.2.2.2.2.2.2.2.2.2.2.2.2.2.2.2.2.2.1 x.2.2.2.2.2.2.2.2.2.2.2.2.2.2.2.2.2.2.2.2.2.2.2.2.2.1 x.2.2.2.2.2.2.2.2.2.2.2.2.2.2.2.2.2.2.2.2.2.2.2.2.2.2.1 x.2.2.2.2.2.2.2.2.2.2.2.2.2.2.2.2.2.2.2.2.2.2.2.2.2.2.2.1 x.2.2.2.2.2.2.2.2.2.2.2.2.2.2.2.2.2.2.2.2.2.2.2.2.2.2.2.2.1 x.2.2.2.2.2.2.2.2.2.2.2.2.2.2.2.2.2.2.2.2.2.2.2.2.2.2.2.2.2.1
noncomputable def u35{A0 A1 A2 A3 A4 A5 A6 A7 A8 A9 Yw Yx YY YZ ZA A15 A16 A17 A18 A19 A20 A21 A22 A23 A24 A25 A26 A27 A28 A29 A30 A31 A32 A33 A34 B C:Type}(f:A0->A1->A2->A3->A4->A5->A6->A7->A8->A9->Yw->Yx->YY->YZ->ZA->A15->A16->A17->A18->A19->A20->A21->A22->A23->A24->A25->A26->A27->A28->A29->A30->A31->A32->A33->A34->C)(x:A0×A1×A2×A3×A4×A5×A6×A7×A8×A9×Yw×Yx×YY×YZ×ZA×A15×A16×A17×A18×A19×A20×A21×A22×A23×A24×A25×A26×A27×A28×A29×A30×A31×A32×A33×A34×B):C:=f x.1 x.2.1 x.2.2.1 x.2.2.2.1 x.2.2.2.2.1 x.2.2.2.2.2.1 x.2.2.2.2.2.2.1 x.2.2.2.2.2.2.2.1 x.2.2.2.2.2.2.2.2.1 x.2.2.2.2.2.2.2.2.2.1 x.2.2.2.2.2.2.2.2.2.2.1 x.2.2.2.2.2.2.2.2.2.2.2.1 x.2.2.2.2.2.2.2.2.2.2.2.2.1 x.2.2.2.2.2.2.2.2.2.2.2.2.2.1 x.2.2.2.2.2.2.2.2.2.2.2.2.2.2.1 x.2.2.2.2.2.2.2.2.2.2.2.2.2.2.2.1 x.2.2.2.2.2.2.2.2.2.2.2.2.2.2.2.2.1 x.2.2.2.2.2.2.2.2.2.2.2.2.2.2.2.2.2.1 x.2.2.2.2.2.2.2.2.2.2.2.2.2.2.2.2.2.2.1 x.2.2.2.2.2.2.2.2.2.2.2.2.2.2.2.2.2.2.2.1 x.2.2.2.2.2.2.2.2.2.2.2.2.2.2.2.2.2.2.2.2.1 x.2.2.2.2.2.2.2.2.2.2.2.2.2.2.2.2.2.2.2.2.2.1 x.2.2.2.2.2.2.2.2.2.2.2.2.2.2.2.2.2.2.2.2.2.2.1 x.2.2.2.2.2.2.2.2.2.2.2.2.2.2.2.2.2.2.2.2.2.2.2.1 x.2.2.2.2.2.2.2.2.2.2.2.2.2.2.2.2.2.2.2.2.2.2.2.2.1 x.2.2.2.2.2.2.2.2.2.2.2.2.2.2.2.2.2.2.2.2.2.2.2.2.2.1 x.2.2.2.2.2.2.2.2.2.2.2.2.2.2.2.2.2.2.2.2.2.2.2.2.2.2.1 x.2.2.2.2.2.2.2.2.2.2.2.2.2.2.2.2.2.2.2.2.2.2.2.2.2.2.2.1 x.2.2.2.2.2.2.2.2.2.2.2.2.2.2.2.2.2.2.2.2.2.2.2.2.2.2.2.2.1 x.2.2.2.2.2.2.2.2.2.2.2.2.2.2.2.2.2.2.2.2.2.2.2.2.2.2.2.2.2.1 x.2.2.2.2.2.2.2.2.2.2.2.2.2.2.2.2.2.2.2.2.2.2.2.2.2.2.2.2.2.2.1 x.2.2.2.2.2.2.2.2.2.2.2.2.2.2.2.2.2.2.2.2.2.2.2.2.2.2.2.2.2.2.2.1 x.2.2.2.2.2.2.2.2.2.2.2.2.2.2.2.2.2.2.2.2.2.2.2.2.2.2.2.2.2.2.2.2.1 x.2.2.2.2.2.2.2.2.2.2.2.2.2.2.2.2.2.2.2.2.2.2.2.2.2.2.2.2.2.2.2.2.2.1 x.2.2.2.2.2.2.2.2.2.2.2.2.2.2.2.2.2.2.2.2.2.2.2.2.2.2.2.2.2.2.2.2.2.2.1
noncomputable def T0:List (bV×ij):=[]
theorem h0:tT Tryz.prog T0:=trivial
noncomputable def T1:List (bV×ij):=((5,[]),⟨true,[o0],[o1],u1 YD⟩)::T0
theorem h1:tT Tryz.prog T1:=fk (bu 6 [] []) h0 [] trivial Tryz.func5 (by kernel_rfl) fun x=>by kernel_rfl
noncomputable def VQ:eB:=⟨[(0,o0)],[(3,o2),(4,o2)],[(.exit 0,[(3,o2)])],R4⟩
theorem XX:nj Tryz.prog (env 32 [] []) (lp 0 (body Tryz.f26) 0) VQ:=lk (bu _ _ _) h1 (n:=0) [] trivial (by kernel_rfl) fun k x=>by kernel_rfl
noncomputable def T2:List (bV×ij):=((26,[]),⟨false,[o0],[a0],u1 U0⟩)::T1
theorem h2:tT Tryz.prog T2:=fk (bu 32 [] []) h1 [(0,VQ)] ⟨XX,trivial⟩ Tryz.func26 (by kernel_rfl) fun x=>by kernel_rfl
noncomputable def T3:List (bV×ij):=((75,[]),⟨false,[a0],[o2],u3 OU⟩)::T2
theorem h3:tT Tryz.prog T3:=fk (bu 58 [] []) h2 [] trivial Tryz.func75 (by kernel_rfl) fun x=>by kernel_rfl
noncomputable def T4:List (bV×ij):=((29,[]),⟨false,[a0,o2],[o2],u4 Jc⟩)::T3
theorem h4:tT Tryz.prog T4:=fk (bu 37 [] []) h3 [] trivial Tryz.func29 (by kernel_rfl) fun x=>by kernel_rfl
noncomputable def T5:List (bV×ij):=((28,[]),⟨false,[a0,o3],[o2],u4 Kh⟩)::T4
theorem h5:tT Tryz.prog T5:=fk (bu 12 [] []) h4 [] trivial Tryz.func28 (by kernel_rfl) fun x=>by kernel_rfl
noncomputable def T6:List (bV×ij):=((74,[]),⟨false,[a0],[a1],u3 SK⟩)::T5
theorem h6:tT Tryz.prog T6:=fk (bu 26 [] []) h5 [] trivial Tryz.func74 (by kernel_rfl) fun x=>by kernel_rfl
noncomputable def T7:List (bV×ij):=((27,[]),⟨false,[a0],[a1],u3 U3⟩)::T6
theorem h7:tT Tryz.prog T7:=fk (bu 39 [] []) h6 [] trivial Tryz.func27 (by kernel_rfl) fun x=>by kernel_rfl
noncomputable def UC:eB:=⟨[(1,o2),(2,o2)],[(0,a0),(7,o4),(8,o2),(9,o2)],[(.ret,[(0,a0),(6,o4)]),(.exit 0,[(0,a0),(7,o4)])],QM⟩
theorem Xg:nj Tryz.prog (env 46 [] []) (lp 0 (body Tryz.f124) 0) UC:=lk (bu _ _ _) h7 (n:=0) [] trivial (by kernel_rfl) fun k x=>by kernel_rfl
noncomputable def T8:List (bV×ij):=((124,[]),⟨false,[a0,o2,o2],[o4],u5 P3⟩)::T7
theorem h8:tT Tryz.prog T8:=fk (bu 46 [] []) h7 [(0,UC)] ⟨Xg,trivial⟩ Tryz.func124 (by kernel_rfl) fun x=>by kernel_rfl
noncomputable def T9:List (bV×ij):=((76,[]),⟨false,[a0],[a2],u3 Tt⟩)::T8
theorem h9:tT Tryz.prog T9:=fk (bu 28 [] []) h8 [] trivial Tryz.func76 (by kernel_rfl) fun x=>by kernel_rfl
noncomputable def Tc:eB:=⟨[],[(0,a0),(2,a3),(3,a3)],[(.exit 1,[(0,a0),(2,a3),(3,a3)])],PS⟩
theorem Wl:nj Tryz.prog (env 78 [] []) (lp 0 (body Tryz.f30) 0) Tc:=lk (bu _ _ _) h9 (n:=1) [] trivial (by kernel_rfl) fun k x=>by kernel_rfl
noncomputable def T10:List (bV×ij):=((30,[]),⟨false,[a0],[a2],u3 Q8⟩)::T9
theorem h10:tT Tryz.prog T10:=fk (bu 78 [] []) h9 [(1,Tc)] ⟨Wl,trivial⟩ Tryz.func30 (by kernel_rfl) fun x=>by kernel_rfl
noncomputable def T11:List (bV×ij):=((84,[]),⟨true,[o2,o2,o2],[o1],u3 I1⟩)::T10
theorem h11:tT Tryz.prog T11:=fk (bu 15 [] []) h10 [] trivial Tryz.func84 (by kernel_rfl) fun x=>by kernel_rfl
noncomputable def UE:eB:=⟨[(1,.ro t14),(3,o2),(4,o2)],[(5,a4),(6,o2)],[(.ret,[(2,o1)]),(.exit 2,[(5,a4)])],QN⟩
theorem Xi:nj Tryz.prog (env 70 [] []) (lp 0 (lp 0 (body Tryz.f125) 0) 0) UE:=lk (bu _ _ _) h11 (n:=2) [] trivial (by kernel_rfl) fun k x=>by kernel_rfl
noncomputable def UD:eB:=⟨[(1,.ro t14)],[(3,o2),(4,o2)],[(.ret,[(2,o1)]),(.exit 0,[(3,o2)])],Sy⟩
theorem Xh:nj Tryz.prog (env 70 [] []) (lp 0 (body Tryz.f125) 0) UD:=lk (bu _ _ _) h11 (n:=0) [(2,UE)] ⟨Xi,trivial⟩ (by kernel_rfl) fun k x=>by kernel_rfl
noncomputable def T12:List (bV×ij):=((125,[]),⟨true,[a5],[o1],u3 SI⟩)::T11
theorem h12:tT Tryz.prog T12:=fk (bu 70 [] []) h11 [(0,UD)] ⟨Xh,trivial⟩ Tryz.func125 (by kernel_rfl) fun x=>by kernel_rfl
noncomputable def UA:eB:=⟨[(1,.ro t14),(3,o2)],[(4,o1),(5,o2)],[(.exit 2,[(4,o1)])],Ss⟩
theorem Xe:nj Tryz.prog (env 74 [] []) (lp 0 (lp 0 (body Tryz.f77) 0) 0) UA:=lk (bu _ _ _) h12 (n:=2) [] trivial (by kernel_rfl) fun k x=>by kernel_rfl
noncomputable def Uz:eB:=⟨[(1,.ro t14)],[(3,o2)],[(.ret,[(2,o1)]),(.exit 0,[])],Sr⟩
theorem Xd:nj Tryz.prog (env 74 [] []) (lp 0 (body Tryz.f77) 0) Uz:=lk (bu _ _ _) h12 (n:=0) [(2,UA)] ⟨Xe,trivial⟩ (by kernel_rfl) fun k x=>by kernel_rfl
noncomputable def T13:List (bV×ij):=((77,[]),⟨true,[a5],[o1],u3 NT⟩)::T12
theorem h13:tT Tryz.prog T13:=fk (bu 74 [] []) h12 [(0,Uz)] ⟨Xd,trivial⟩ Tryz.func77 (by kernel_rfl) fun x=>by kernel_rfl
noncomputable def TP:eB:=⟨[(0,o2),(1,o3)],[(4,a6),(6,a6),(7,o2),(8,o2)],[(.ret,[(4,a6),(5,o1)]),(.exit 0,[(4,a6),(6,a6)])],Qd⟩
theorem WZ:nj Tryz.prog (env 54 [] []) (lp 0 (body Tryz.f31) 0) TP:=lk (bu _ _ _) h13 (n:=0) [] trivial (by kernel_rfl) fun k x=>by kernel_rfl
noncomputable def T14:List (bV×ij):=((31,[]),⟨true,[o2,o3],[a7,o1],u2 MR⟩)::T13
theorem h14:tT Tryz.prog T14:=fk (bu 54 [] []) h13 [(0,TP)] ⟨WZ,trivial⟩ Tryz.func31 (by kernel_rfl) fun x=>by kernel_rfl
noncomputable def T15:List (bV×ij):=((32,[]),⟨false,[a0,o2],[o1],u4 OV⟩)::T14
theorem h15:tT Tryz.prog T15:=fk (bu 9 [] []) h14 [] trivial Tryz.func32 (by kernel_rfl) fun x=>by kernel_rfl
noncomputable def T16:List (bV×ij):=((82,[]),⟨true,[a5],[a7],u3 PU⟩)::T15
theorem h16:tT Tryz.prog T16:=fk (bu 14 [] []) h15 [] trivial Tryz.func82 (by kernel_rfl) fun x=>by kernel_rfl
noncomputable def VR:eB:=⟨[(1,o2),(2,.ro t14)],[(5,o2)],[(.ret,[(4,o2)]),(.exit 0,[])],R5⟩
theorem XY:nj Tryz.prog (env 26 [] []) (lp 0 (body Tryz.f162) 0) VR:=lk (bu _ _ _) h16 (n:=0) [] trivial (by kernel_rfl) fun k x=>by kernel_rfl
noncomputable def T17:List (bV×ij):=((162,[]),⟨true,[a5,o2],[o2],u4 OW⟩)::T16
theorem h17:tT Tryz.prog T17:=fk (bu 26 [] []) h16 [(0,VR)] ⟨XY,trivial⟩ Tryz.func162 (by kernel_rfl) fun x=>by kernel_rfl
noncomputable def T18:List (bV×ij):=((159,[]),⟨true,[a5,o2],[a7,o1],u4 R3⟩)::T17
theorem h18:tT Tryz.prog T18:=fk (bu 35 [] []) h17 [] trivial Tryz.func159 (by kernel_rfl) fun x=>by kernel_rfl
noncomputable def VP:eB:=⟨[(1,o2),(2,o1),(3,.ro t14)],[(6,a6),(8,a6),(9,o2)],[(.ret,[(6,a6),(7,o1)]),(.exit 0,[(6,a6),(8,a6)])],R1⟩
theorem XW:nj Tryz.prog (env 53 [] []) (lp 0 (body Tryz.f151) 0) VP:=lk (bu _ _ _) h18 (n:=0) [] trivial (by kernel_rfl) fun k x=>by kernel_rfl
noncomputable def T19:List (bV×ij):=((151,[]),⟨true,[a5,o2,o1],[a7,o1],u5 SQ⟩)::T18
theorem h19:tT Tryz.prog T19:=fk (bu 53 [] []) h18 [(0,VP)] ⟨XW,trivial⟩ Tryz.func151 (by kernel_rfl) fun x=>by kernel_rfl
noncomputable def T20:List (bV×ij):=((219,[]),⟨true,[.agg [v2,v2,v2,v1]],[o1],u4 R6⟩)::T19
theorem h20:tT Tryz.prog T20:=fk (bu 11 [] []) h19 [] trivial Tryz.func219 (by kernel_rfl) fun x=>by kernel_rfl
noncomputable def VS:eB:=⟨[(0,o3),(1,o2)],[(5,o2)],[(.ret,[(4,o1)]),(.exit 0,[])],Um⟩
theorem XZ:nj Tryz.prog (env 18 [] []) (lp 0 (body Tryz.f157) 0) VS:=lk (bu _ _ _) h20 (n:=0) [] trivial (by kernel_rfl) fun k x=>by kernel_rfl
noncomputable def T21:List (bV×ij):=((157,[]),⟨true,[o3,o2],[o1],u2 U2⟩)::T20
theorem h21:tT Tryz.prog T21:=fk (bu 18 [] []) h20 [(0,VS)] ⟨XZ,trivial⟩ Tryz.func157 (by kernel_rfl) fun x=>by kernel_rfl
noncomputable def VO:eB:=⟨[(1,.ro t14)],[(3,o5),(4,o2)],[(.exit 0,[(3,o5)])],RT⟩
theorem XV:nj Tryz.prog (env 70 [] []) (lp 0 (body Tryz.f198) 0) VO:=lk (bu _ _ _) h21 (n:=0) [] trivial (by kernel_rfl) fun k x=>by kernel_rfl
noncomputable def T22:List (bV×ij):=((198,[]),⟨true,[a5],[o5],u3 UU⟩)::T21
theorem h22:tT Tryz.prog T22:=fk (bu 70 [] []) h21 [(0,VO)] ⟨XV,trivial⟩ Tryz.func198 (by kernel_rfl) fun x=>by kernel_rfl
noncomputable def UF:eB:=⟨[(0,o6),(1,o2)],[(5,o2),(6,o2)],[(.exit 0,[(5,o2)])],QR⟩
theorem Xj:nj Tryz.prog (env 39 [] []) (lp 0 (body Tryz.f199) 0) UF:=lk (bu _ _ _) h22 (n:=0) [] trivial (by kernel_rfl) fun k x=>by kernel_rfl
noncomputable def T23:List (bV×ij):=((199,[]),⟨true,[o6,o2],[o2],u2 SJ⟩)::T22
theorem h23:tT Tryz.prog T23:=fk (bu 39 [] []) h22 [(0,UF)] ⟨Xj,trivial⟩ Tryz.func199 (by kernel_rfl) fun x=>by kernel_rfl
noncomputable def T24:List (bV×ij):=((185,[]),⟨true,[a5,o2],[a8,o1],u4 VD⟩)::T23
theorem h24:tT Tryz.prog T24:=fk (bu 24 [] []) h23 [] trivial Tryz.func185 (by kernel_rfl) fun x=>by kernel_rfl
noncomputable def Vh:eB:=⟨[(2,o2),(3,o2),(4,.ro t14),(5,.ro t39)],[(8,a6),(9,a6),(10,o2)],[(.exit 0,[(8,a6),(9,a6)])],Rb⟩
theorem XD:nj Tryz.prog (env 86 [] []) (lp 0 (body Tryz.f186) 0) Vh:=lk (bu _ _ _) h24 (n:=0) [] trivial (by kernel_rfl) fun k x=>by kernel_rfl
noncomputable def T25:List (bV×ij):=((186,[]),⟨true,[a5,a8,o2,o2],[a7],u8 Tv⟩)::T24
theorem h25:tT Tryz.prog T25:=fk (bu 86 [] []) h24 [(0,Vh)] ⟨XD,trivial⟩ Tryz.func186 (by kernel_rfl) fun x=>by kernel_rfl
noncomputable def T26:List (bV×ij):=((160,[]),⟨true,[a5,o2,o2],[a7,o2,o1],u5 Ui⟩)::T25
theorem h26:tT Tryz.prog T26:=fk (bu 39 [] []) h25 [] trivial Tryz.func160 (by kernel_rfl) fun x=>by kernel_rfl
noncomputable def TQ:eB:=⟨[(1,o2),(5,o2)],[(0,a0),(4,a6),(7,a6),(9,o2)],[(.exit 0,[(0,a0),(4,a6),(7,a6)])],OX⟩
theorem W0:nj Tryz.prog (env 75 [] []) (lp 0 (body Tryz.f126) 0) TQ:=lk (bu _ _ _) h26 (n:=0) [] trivial (by kernel_rfl) fun k x=>by kernel_rfl
noncomputable def T27:List (bV×ij):=((126,[]),⟨false,[a0,o2],[a7],u4 Qv⟩)::T26
theorem h27:tT Tryz.prog T27:=fk (bu 75 [] []) h26 [(0,TQ)] ⟨W0,trivial⟩ Tryz.func126 (by kernel_rfl) fun x=>by kernel_rfl
noncomputable def Vg:eB:=⟨[],[(0,a0),(3,o7),(4,o2)],[(.exit 0,[(0,a0),(3,o7)])],Ra⟩
theorem XC:nj Tryz.prog (env 25 [] []) (lp 0 (body Tryz.f78) 0) Vg:=lk (bu _ _ _) h27 (n:=0) [] trivial (by kernel_rfl) fun k x=>by kernel_rfl
noncomputable def T28:List (bV×ij):=((78,[]),⟨false,[a0],[o7],u3 Tu⟩)::T27
theorem h28:tT Tryz.prog T28:=fk (bu 25 [] []) h27 [(0,Vg)] ⟨XC,trivial⟩ Tryz.func78 (by kernel_rfl) fun x=>by kernel_rfl
noncomputable def T29:List (bV×ij):=((79,[]),⟨false,[a0],[a7],u3 Qf⟩)::T28
theorem h29:tT Tryz.prog T29:=fk (bu 56 [] []) h28 [] trivial Tryz.func79 (by kernel_rfl) fun x=>by kernel_rfl
noncomputable def Td:eB:=⟨[],[(0,a0),(3,o7)],[(.exit 1,[(0,a0),(3,o7)])],PT⟩
theorem Wm:nj Tryz.prog (env 40 [] []) (lp 0 (body Tryz.f33) 0) Td:=lk (bu _ _ _) h29 (n:=1) [] trivial (by kernel_rfl) fun k x=>by kernel_rfl
noncomputable def T30:List (bV×ij):=((33,[]),⟨false,[a0],[o7],u3 Q9⟩)::T29
theorem h30:tT Tryz.prog T30:=fk (bu 40 [] []) h29 [(1,Td)] ⟨Wm,trivial⟩ Tryz.func33 (by kernel_rfl) fun x=>by kernel_rfl
noncomputable def Rm:eB:=⟨[(9,o2),(10,o2)],[(2,a9),(7,a0),(8,a9),(11,o8),(12,o9),(13,o2)],[(.exit 0,[(2,a9),(7,a0),(8,a9),(11,o8),(12,o9)])],Of⟩
theorem U6:nj Tryz.prog (env 67 [] []) (lp 0 (body Tryz.f6) 0) Rm:=lk (bu _ _ _) h30 (n:=0) [] trivial (by kernel_rfl) fun k x=>by kernel_rfl
noncomputable def T31:List (bV×ij):=((6,[]),⟨false,[o0],[a1,o2,o2,o8,o9],u1 Pe⟩)::T30
theorem h31:tT Tryz.prog T31:=fk (bu 67 [] []) h30 [(0,Rm)] ⟨U6,trivial⟩ Tryz.func6 (by kernel_rfl) fun x=>by kernel_rfl
noncomputable def T32:List (bV×ij):=((80,[]),⟨true,[o10],[o4],u1 KU⟩)::T31
theorem h32:tT Tryz.prog T32:=fk (bu 8 [] []) h31 [] trivial Tryz.func80 (by kernel_rfl) fun x=>by kernel_rfl
noncomputable def T33:List (bV×ij):=((34,[]),⟨true,[.agg [v6,v6]],[a2],u2 SD⟩)::T32
theorem h33:tT Tryz.prog T33:=fk (bu 10 [] []) h32 [] trivial Tryz.func34 (by kernel_rfl) fun x=>by kernel_rfl
noncomputable def T34:List (bV×ij):=((113,[]),⟨true,[o3],[o11],u1 N4⟩)::T33
theorem h34:tT Tryz.prog T34:=fk (bu 8 [] []) h33 [] trivial Tryz.func113 (by kernel_rfl) fun x=>by kernel_rfl
noncomputable def T35:List (bV×ij):=((127,[]),⟨true,[o12],[o13],u1 L0⟩)::T34
theorem h35:tT Tryz.prog T35:=fk (bu 8 [] []) h34 [] trivial Tryz.func127 (by kernel_rfl) fun x=>by kernel_rfl
noncomputable def T36:List (bV×ij):=((81,[]),⟨true,[a5],[a7],u3 Q4⟩)::T35
theorem h36:tT Tryz.prog T36:=fk (bu 12 [] []) h35 [] trivial Tryz.func81 (by kernel_rfl) fun x=>by kernel_rfl
noncomputable def Uw:eB:=⟨[(6,o14),(7,o2)],[(3,o15),(8,o2)],[(.exit 0,[(3,o15)])],QC⟩
theorem Xa:nj Tryz.prog (env 19 [] [15]) (lp 0 (body Tryz.f35) 0) Uw:=lk (bu _ _ _) h36 (n:=0) [] trivial (by kernel_rfl) fun k x=>by kernel_rfl
noncomputable def T37:List (bV×ij):=((35,[]),⟨true,[o14],[o15],u1 SC⟩)::T36
theorem h37:tT Tryz.prog T37:=fk (bu 19 [] [15]) h36 [(0,Uw)] ⟨Xa,trivial⟩ Tryz.func35 (by kernel_rfl) fun x=>by kernel_rfl
noncomputable def T38:List (bV×ij):=((45,[]),⟨true,[o2,o2,o2],[o1],u3 IY⟩)::T37
theorem h38:tT Tryz.prog T38:=fk (bu 15 [] []) h37 [] trivial Tryz.func45 (by kernel_rfl) fun x=>by kernel_rfl
noncomputable def T39:List (bV×ij):=((44,[]),⟨true,[a1],[o1],u8 RI⟩)::T38
theorem h39:tT Tryz.prog T39:=fk (bu 41 [] []) h38 [] trivial Tryz.func44 (by kernel_rfl) fun x=>by kernel_rfl
noncomputable def T40:List (bV×ij):=((46,[]),⟨true,[o2],[o1],u1 NR⟩)::T39
theorem h40:tT Tryz.prog T40:=fk (bu 5 [] []) h39 [] trivial Tryz.func46 (by kernel_rfl) fun x=>by kernel_rfl
noncomputable def T41:List (bV×ij):=((47,[]),⟨true,[o2],[o1],u1 M6⟩)::T40
theorem h41:tT Tryz.prog T41:=fk (bu 5 [] []) h40 [] trivial Tryz.func47 (by kernel_rfl) fun x=>by kernel_rfl
noncomputable def T42:List (bV×ij):=((100,[]),⟨true,[o2],[o1],u1 Nj⟩)::T41
theorem h42:tT Tryz.prog T42:=fk (bu 5 [] []) h41 [] trivial Tryz.func100 (by kernel_rfl) fun x=>by kernel_rfl
noncomputable def T43:List (bV×ij):=((96,[]),⟨true,[a10],[o1],u7 QA⟩)::T42
theorem h43:tT Tryz.prog T43:=fk (bu 45 [] []) h42 [] trivial Tryz.func96 (by kernel_rfl) fun x=>by kernel_rfl
noncomputable def T44:List (bV×ij):=((95,[]),⟨true,[a10],[o1],u7 SV⟩)::T43
theorem h44:tT Tryz.prog T44:=fk (bu 6 [] []) h43 [] trivial Tryz.func95 (by kernel_rfl) fun x=>by kernel_rfl
noncomputable def La:eB:=⟨[(0,o16),(1,.fn 95 []),(7,o2)],[(8,o2)],[(.ret,[(4,o2)]),(.exit 0,[])],Kn⟩
theorem Ni:nj Tryz.prog (env 19 [] []) (lp 0 (body Tryz.f137) 0) La:=lk (bu _ _ _) h44 (n:=0) [] trivial (by kernel_rfl) fun k x=>by kernel_rfl
noncomputable def T45:List (bV×ij):=((137,[95]),⟨true,[o16,.fn 95 []],[o2],u1 KA⟩)::T44
theorem h45:tT Tryz.prog T45:=fk (bu 19 [] []) h44 [(0,La)] ⟨Ni,trivial⟩ Tryz.func137 (by kernel_rfl) fun x=>by kernel_rfl
noncomputable def T46:List (bV×ij):=((94,[95]),⟨true,[o16,.fn 95 []],[o1],u1 Km⟩)::T45
theorem h46:tT Tryz.prog T46:=fk (bu 9 [] []) h45 [] trivial Tryz.func94 (by kernel_rfl) fun x=>by kernel_rfl
noncomputable def T47:List (bV×ij):=((48,[]),⟨true,[o16],[o1],u1 Sz⟩)::T46
theorem h47:tT Tryz.prog T47:=fk (bu 11 [] []) h46 [] trivial Tryz.func48 (by kernel_rfl) fun x=>by kernel_rfl
noncomputable def T48:List (bV×ij):=((97,[]),⟨true,[a11],[o1],u7 Tm⟩)::T47
theorem h48:tT Tryz.prog T48:=fk (bu 36 [] []) h47 [] trivial Tryz.func97 (by kernel_rfl) fun x=>by kernel_rfl
noncomputable def TD:eB:=⟨[(0,o17),(9,o17),(10,o2)],[(11,o2)],[(.ret,[(2,o1)]),(.exit 0,[])],RD⟩
theorem WN:nj Tryz.prog (env 53 [] []) (lp 0 (body Tryz.f49) 0) TD:=lk (bu _ _ _) h48 (n:=0) [] trivial (by kernel_rfl) fun k x=>by kernel_rfl
noncomputable def T49:List (bV×ij):=((49,[]),⟨true,[o17],[o1],u1 Mj⟩)::T48
theorem h49:tT Tryz.prog T49:=fk (bu 53 [] []) h48 [(0,TD)] ⟨WN,trivial⟩ Tryz.func49 (by kernel_rfl) fun x=>by kernel_rfl
noncomputable def U9:eB:=⟨[(0,o10),(1,o2),(10,o10),(11,o2)],[(12,o2)],[(.ret,[(4,o1)]),(.exit 0,[])],SX⟩
theorem Xv:nj Tryz.prog (env 49 [] []) (lp 0 (body Tryz.f118) 0) U9:=lk (bu _ _ _) h49 (n:=0) [] trivial (by kernel_rfl) fun k x=>by kernel_rfl
noncomputable def T50:List (bV×ij):=((118,[]),⟨true,[o10,o2],[o1],u2 RH⟩)::T49
theorem h50:tT Tryz.prog T50:=fk (bu 49 [] []) h49 [(0,U9)] ⟨Xv,trivial⟩ Tryz.func118 (by kernel_rfl) fun x=>by kernel_rfl
noncomputable def T51:List (bV×ij):=((68,[]),⟨true,[.agg [v6,v6]],[o1],u2 Qo⟩)::T50
theorem h51:tT Tryz.prog T51:=fk (bu 11 [] []) h50 [] trivial Tryz.func68 (by kernel_rfl) fun x=>by kernel_rfl
noncomputable def Ur:eB:=⟨[(1,.ro t14),(23,o3),(24,o2)],[(25,o2)],[(.ret,[(2,o1)]),(.exit 0,[])],Sd⟩
theorem W5:nj Tryz.prog (env 118 [] []) (lp 0 (body Tryz.f138) 0) Ur:=lk (bu _ _ _) h51 (n:=0) [] trivial (by kernel_rfl) fun k x=>by kernel_rfl
noncomputable def Us:eB:=⟨[(1,.ro t14),(54,o12),(55,o2)],[(5,o2),(6,.one (.mp .i64)),(7,.one (.mp .i64)),(56,o2)],[(.ret,[(2,o1)]),(.exit 2,[(5,o2),(6,.one (.mp .i64))])],Se⟩
theorem W6:nj Tryz.prog (env 118 [] []) (lp 0 (body Tryz.f138) 1) Us:=lk (bu _ _ _) h51 (n:=2) [] trivial (by kernel_rfl) fun k x=>by kernel_rfl
noncomputable def Ut:eB:=⟨[(1,.ro t14),(5,o2),(103,o3),(104,o2)],[(6,.one (.mp .i64)),(105,o2)],[(.ret,[(2,o1)]),(.exit 4,[])],Sf⟩
theorem W7:nj Tryz.prog (env 118 [] []) (lp 0 (body Tryz.f138) 2) Ut:=lk (bu _ _ _) h51 (n:=4) [] trivial (by kernel_rfl) fun k x=>by kernel_rfl
noncomputable def T52:List (bV×ij):=((138,[]),⟨true,[a5],[o1],u3 QY⟩)::T51
theorem h52:tT Tryz.prog T52:=fk (bu 118 [] []) h51 [(0,Ur),(2,Us),(4,Ut)] ⟨W5,W6,W7,trivial⟩ Tryz.func138 (by kernel_rfl) fun x=>by kernel_rfl
noncomputable def VG:eB:=⟨[(13,o14),(14,o2),(15,o2),(23,o12),(24,o2)],[(3,.one (.mp .i64)),(25,o2)],[(.ret,[(2,o1)]),(.exit 2,[(3,.one (.mp .i64))])],TX⟩
theorem XN:nj Tryz.prog (env 43 [] []) (lp 0 (lp 0 (body Tryz.f98) 0) 0) VG:=lk (bu _ _ _) h52 (n:=2) [] trivial (by kernel_rfl) fun k x=>by kernel_rfl
noncomputable def VF:eB:=⟨[(13,o14),(14,o2)],[(3,.one (.mp .i64)),(15,o2)],[(.ret,[(2,o1)]),(.exit 0,[])],TW⟩
theorem XM:nj Tryz.prog (env 43 [] []) (lp 0 (body Tryz.f98) 0) VF:=lk (bu _ _ _) h52 (n:=0) [(2,VG)] ⟨XN,trivial⟩ (by kernel_rfl) fun k x=>by kernel_rfl
noncomputable def T53:List (bV×ij):=((98,[]),⟨true,[o14],[o1],u1 Rp⟩)::T52
theorem h53:tT Tryz.prog T53:=fk (bu 43 [] []) h52 [(0,VF)] ⟨XM,trivial⟩ Tryz.func98 (by kernel_rfl) fun x=>by kernel_rfl
noncomputable def T54:List (bV×ij):=((139,[]),⟨true,[a12],[o1],u5 Yc⟩)::T53
theorem h54:tT Tryz.prog T54:=fk (bu 9 [] []) h53 [] trivial Tryz.func139 (by kernel_rfl) fun x=>by kernel_rfl
noncomputable def T55:List (bV×ij):=((99,[]),⟨true,[a12],[o1],u5 Ql⟩)::T54
theorem h55:tT Tryz.prog T55:=fk (bu 90 [] []) h54 [] trivial Tryz.func99 (by kernel_rfl) fun x=>by kernel_rfl
noncomputable def T56:List (bV×ij):=((50,[]),⟨true,[a13,o2],[o1],u16 UQ⟩)::T55
theorem h56:tT Tryz.prog T56:=fk (bu 89 [] []) h55 [] trivial Tryz.func50 (by kernel_rfl) fun x=>by kernel_rfl
noncomputable def T57:List (bV×ij):=((101,[]),⟨true,[a13,a14],[o1],u28 OK⟩)::T56
theorem h57:tT Tryz.prog T57:=fk (bu 29 [] []) h56 [] trivial Tryz.func101 (by kernel_rfl) fun x=>by kernel_rfl
noncomputable def T58:List (bV×ij):=((102,[]),⟨true,[a15],[o1],u5 UK⟩)::T57
theorem h58:tT Tryz.prog T58:=fk (bu 26 [] []) h57 [] trivial Tryz.func102 (by kernel_rfl) fun x=>by kernel_rfl
noncomputable def T59:List (bV×ij):=((103,[]),⟨true,[a13,o2],[o2],u16 QZ⟩)::T58
theorem h59:tT Tryz.prog T59:=fk (bu 21 [] []) h58 [] trivial Tryz.func103 (by kernel_rfl) fun x=>by kernel_rfl
noncomputable def T60:List (bV×ij):=((51,[]),⟨true,[a13,o2],[o1],u16 SE⟩)::T59
theorem h60:tT Tryz.prog T60:=fk (bu 140 [] []) h59 [] trivial Tryz.func51 (by kernel_rfl) fun x=>by kernel_rfl
noncomputable def Vc:eB:=⟨[(1,.ro t25),(4,o2),(14,o18),(15,o2),(16,o2),(22,o14),(23,o2),(24,o2),(29,o12),(30,o2)],[(3,o2),(31,o2)],[(.ret,[(2,o1)]),(.exit 4,[(3,o2)])],S4⟩
theorem Xy:nj Tryz.prog (env 107 [] []) (lp 2 (lp 0 (lp 0 (body Tryz.f52) 0) 0) 0) Vc:=lk (bu _ _ _) h60 (n:=4) [] trivial (by kernel_rfl) fun k x=>by kernel_rfl
noncomputable def Vb:eB:=⟨[(1,.ro t25),(4,o2),(14,o18),(15,o2),(16,o2),(22,o14),(23,o2)],[(3,o2),(24,o2)],[(.ret,[(2,o1)]),(.exit 2,[(3,o2)])],S3⟩
theorem Xx:nj Tryz.prog (env 107 [] []) (lp 0 (lp 0 (body Tryz.f52) 0) 0) Vb:=lk (bu _ _ _) h60 (n:=2) [(4,Vc)] ⟨Xy,trivial⟩ (by kernel_rfl) fun k x=>by kernel_rfl
noncomputable def Va:eB:=⟨[(1,.ro t25),(14,o18),(15,o2)],[(3,o2),(16,o2)],[(.ret,[(2,o1)]),(.exit 0,[(3,o2)])],VV⟩
theorem Xw:nj Tryz.prog (env 107 [] []) (lp 0 (body Tryz.f52) 0) Va:=lk (bu _ _ _) h60 (n:=0) [(2,Vb)] ⟨Xx,trivial⟩ (by kernel_rfl) fun k x=>by kernel_rfl
noncomputable def Vd:eB:=⟨[(88,o19),(89,o2)],[(3,o2),(90,o2)],[(.exit 6,[(3,o2)])],VW⟩
theorem Xz:nj Tryz.prog (env 107 [] []) (lp 0 (body Tryz.f52) 1) Vd:=lk (bu _ _ _) h60 (n:=6) [] trivial (by kernel_rfl) fun k x=>by kernel_rfl
noncomputable def T61:List (bV×ij):=((52,[]),⟨true,[a13],[o1],u15 Tn⟩)::T60
theorem h61:tT Tryz.prog T61:=fk (bu 107 [] []) h60 [(0,Va),(6,Vd)] ⟨Xw,Xz,trivial⟩ Tryz.func52 (by kernel_rfl) fun x=>by kernel_rfl
noncomputable def VJ:eB:=⟨[(1,.ro t25),(7,o19),(8,o2)],[(3,o2),(9,o2)],[(.exit 0,[(3,o2)])],Wf⟩
theorem XQ:nj Tryz.prog (env 27 [] []) (lp 0 (body Tryz.f53) 0) VJ:=lk (bu _ _ _) h61 (n:=0) [] trivial (by kernel_rfl) fun k x=>by kernel_rfl
noncomputable def T62:List (bV×ij):=((53,[]),⟨true,[a13],[o2],u15 UO⟩)::T61
theorem h62:tT Tryz.prog T62:=fk (bu 27 [] []) h61 [(0,VJ)] ⟨XQ,trivial⟩ Tryz.func53 (by kernel_rfl) fun x=>by kernel_rfl
noncomputable def TE:eB:=⟨[(1,.ro t25),(54,o2)],[(55,o2)],[(.ret,[(2,o1)]),(.exit 0,[])],UL⟩
theorem WO:nj Tryz.prog (env 83 [] []) (lp 0 (body Tryz.f11) 0) TE:=lk (bu _ _ _) h62 (n:=0) [] trivial (by kernel_rfl) fun k x=>by kernel_rfl
noncomputable def TF:eB:=⟨[(1,.ro t25),(65,o2)],[(66,o2)],[(.ret,[(2,o1)]),(.exit 2,[])],UM⟩
theorem WQ:nj Tryz.prog (env 83 [] []) (lp 0 (body Tryz.f11) 1) TF:=lk (bu _ _ _) h62 (n:=2) [] trivial (by kernel_rfl) fun k x=>by kernel_rfl
noncomputable def T63:List (bV×ij):=((11,[]),⟨true,[a13],[o1],u15 K1⟩)::T62
theorem h63:tT Tryz.prog T63:=fk (bu 83 [] []) h62 [(0,TE),(2,TF)] ⟨WO,WQ,trivial⟩ Tryz.func11 (by kernel_rfl) fun x=>by kernel_rfl
noncomputable def S8:eB:=⟨[(4,o20),(25,o21),(26,o2)],[(10,a16),(12,a16),(27,o2)],[(.exit 0,[(10,a16),(12,a16)])],PK⟩
theorem Wg:nj Tryz.prog (env 51 [] [42]) (lp 0 (body Tryz.f7) 0) S8:=lk (bu _ _ _) h63 (n:=0) [] trivial (by kernel_rfl) fun k x=>by kernel_rfl
noncomputable def T64:List (bV×ij):=((7,[]),⟨true,[a1,o2,o2,o21,o20],[a17,o1],u12 Q3⟩)::T63
theorem Hp:tT Tryz.prog T64:=fk (bu 51 [] [42]) h63 [(0,S8)] ⟨Wg,trivial⟩ Tryz.func7 (by kernel_rfl) fun x=>by kernel_rfl
noncomputable def T65:List (bV×ij):=((36,[]),⟨true,[.agg [v6,v6]],[a2],u2 Tz⟩)::T64
theorem h65:tT Tryz.prog T65:=fk (bu 12 [] []) Hp [] trivial Tryz.func36 (by kernel_rfl) fun x=>by kernel_rfl
noncomputable def SM:eB:=⟨[(0,o14)],[(3,o15),(4,o2)],[(.exit 0,[(3,o15)])],Pg⟩
theorem V4:nj Tryz.prog (env 23 [] [6,20]) (lp 0 (body Tryz.f37) 0) SM:=lk (bu _ _ _) h65 (n:=0) [] trivial (by kernel_rfl) fun k x=>by kernel_rfl
noncomputable def T66:List (bV×ij):=((37,[]),⟨true,[o14],[o15],u1 QO⟩)::T65
theorem h66:tT Tryz.prog T66:=fk (bu 23 [] [6,20]) h65 [(0,SM)] ⟨V4,trivial⟩ Tryz.func37 (by kernel_rfl) fun x=>by kernel_rfl
noncomputable def T67:List (bV×ij):=((83,[]),⟨true,[a1],[o1],u8 Ts⟩)::T66
theorem h67:tT Tryz.prog T67:=fk (bu 41 [] []) h66 [] trivial Tryz.func83 (by kernel_rfl) fun x=>by kernel_rfl
noncomputable def T68:List (bV×ij):=((85,[]),⟨true,[o2],[o1],u1 Oz⟩)::T67
theorem h68:tT Tryz.prog T68:=fk (bu 5 [] []) h67 [] trivial Tryz.func85 (by kernel_rfl) fun x=>by kernel_rfl
noncomputable def T69:List (bV×ij):=((132,[]),⟨true,[o2],[o1],u1 NZ⟩)::T68
theorem h69:tT Tryz.prog T69:=fk (bu 5 [] []) h68 [] trivial Tryz.func132 (by kernel_rfl) fun x=>by kernel_rfl
noncomputable def T70:List (bV×ij):=((161,[]),⟨true,[o2],[o1],u1 Tw⟩)::T69
theorem h70:tT Tryz.prog T70:=fk (bu 5 [] []) h69 [] trivial Tryz.func161 (by kernel_rfl) fun x=>by kernel_rfl
noncomputable def T71:List (bV×ij):=((128,[]),⟨true,[a10],[o1],u7 RU⟩)::T70
theorem h71:tT Tryz.prog T71:=fk (bu 45 [] []) h70 [] trivial Tryz.func128 (by kernel_rfl) fun x=>by kernel_rfl
noncomputable def UB:eB:=⟨[(0,o16)],[(3,o2)],[(.ret,[(2,o1)]),(.exit 0,[])],Sv⟩
theorem Xf:nj Tryz.prog (env 19 [] []) (lp 0 (body Tryz.f86) 0) UB:=lk (bu _ _ _) h71 (n:=0) [] trivial (by kernel_rfl) fun k x=>by kernel_rfl
noncomputable def T72:List (bV×ij):=((86,[]),⟨true,[o16],[o1],u1 SH⟩)::T71
theorem h72:tT Tryz.prog T72:=fk (bu 19 [] []) h71 [(0,UB)] ⟨Xf,trivial⟩ Tryz.func86 (by kernel_rfl) fun x=>by kernel_rfl
noncomputable def T73:List (bV×ij):=((129,[]),⟨true,[a11],[o1],u7 Tq⟩)::T72
theorem h73:tT Tryz.prog T73:=fk (bu 36 [] []) h72 [] trivial Tryz.func129 (by kernel_rfl) fun x=>by kernel_rfl
noncomputable def TM:eB:=⟨[(0,o17)],[(3,o2)],[(.ret,[(2,o1)]),(.exit 0,[])],RW⟩
theorem WW:nj Tryz.prog (env 73 [] []) (lp 0 (body Tryz.f87) 0) TM:=lk (bu _ _ _) h73 (n:=0) [] trivial (by kernel_rfl) fun k x=>by kernel_rfl
noncomputable def T74:List (bV×ij):=((87,[]),⟨true,[o17],[o1],u1 Ox⟩)::T73
theorem h74:tT Tryz.prog T74:=fk (bu 73 [] []) h73 [(0,TM)] ⟨WW,trivial⟩ Tryz.func87 (by kernel_rfl) fun x=>by kernel_rfl
noncomputable def Vf:eB:=⟨[(0,o10),(1,o2)],[(5,o2)],[(.ret,[(4,o1)]),(.exit 0,[])],S6⟩
theorem XB:nj Tryz.prog (env 51 [] []) (lp 0 (body Tryz.f155) 0) Vf:=lk (bu _ _ _) h74 (n:=0) [] trivial (by kernel_rfl) fun k x=>by kernel_rfl
noncomputable def T75:List (bV×ij):=((155,[]),⟨true,[o10,o2],[o1],u2 R2⟩)::T74
theorem h75:tT Tryz.prog T75:=fk (bu 51 [] []) h74 [(0,Vf)] ⟨XB,trivial⟩ Tryz.func155 (by kernel_rfl) fun x=>by kernel_rfl
noncomputable def T76:List (bV×ij):=((116,[]),⟨true,[.agg [v6,v6]],[o1],u2 SR⟩)::T75
theorem h76:tT Tryz.prog T76:=fk (bu 11 [] []) h75 [] trivial Tryz.func116 (by kernel_rfl) fun x=>by kernel_rfl
noncomputable def VN:eB:=⟨[(0,o14),(3,o2),(4,o2)],[(5,o2)],[(.ret,[(2,o1)]),(.exit 4,[])],Ug⟩
theorem XU:nj Tryz.prog (env 52 [] []) (lp 2 (lp 0 (lp 0 (body Tryz.f130) 0) 0) 0) VN:=lk (bu _ _ _) h76 (n:=4) [] trivial (by kernel_rfl) fun k x=>by kernel_rfl
noncomputable def VM:eB:=⟨[(0,o14),(3,o2)],[(4,o2)],[(.ret,[(2,o1)]),(.exit 2,[])],Uf⟩
theorem XT:nj Tryz.prog (env 52 [] []) (lp 0 (lp 0 (body Tryz.f130) 0) 0) VM:=lk (bu _ _ _) h76 (n:=2) [(4,VN)] ⟨XU,trivial⟩ (by kernel_rfl) fun k x=>by kernel_rfl
noncomputable def VL:eB:=⟨[(0,o14)],[(3,o2)],[(.ret,[(2,o1)]),(.exit 0,[])],Ue⟩
theorem XS:nj Tryz.prog (env 52 [] []) (lp 0 (body Tryz.f130) 0) VL:=lk (bu _ _ _) h76 (n:=0) [(2,VM)] ⟨XT,trivial⟩ (by kernel_rfl) fun k x=>by kernel_rfl
noncomputable def T77:List (bV×ij):=((130,[]),⟨true,[o14],[o1],u1 SP⟩)::T76
theorem h77:tT Tryz.prog T77:=fk (bu 52 [] []) h76 [(0,VL)] ⟨XS,trivial⟩ Tryz.func130 (by kernel_rfl) fun x=>by kernel_rfl
noncomputable def T78:List (bV×ij):=((163,[]),⟨true,[a12],[o1],u5 WB⟩)::T77
theorem h78:tT Tryz.prog T78:=fk (bu 9 [] []) h77 [] trivial Tryz.func163 (by kernel_rfl) fun x=>by kernel_rfl
noncomputable def T79:List (bV×ij):=((131,[]),⟨true,[a12],[o1],u5 Rq⟩)::T78
theorem h79:tT Tryz.prog T79:=fk (bu 88 [] []) h78 [] trivial Tryz.func131 (by kernel_rfl) fun x=>by kernel_rfl
noncomputable def T80:List (bV×ij):=((88,[]),⟨true,[a13,o2],[o1],u16 R7⟩)::T79
theorem h80:tT Tryz.prog T80:=fk (bu 95 [] []) h79 [] trivial Tryz.func88 (by kernel_rfl) fun x=>by kernel_rfl
noncomputable def T81:List (bV×ij):=((133,[]),⟨true,[a13,o2],[o1],u16 PF⟩)::T80
theorem h81:tT Tryz.prog T81:=fk (bu 35 [] []) h80 [] trivial Tryz.func133 (by kernel_rfl) fun x=>by kernel_rfl
noncomputable def T82:List (bV×ij):=((134,[]),⟨true,[a15],[o1],u5 UW⟩)::T81
theorem h82:tT Tryz.prog T82:=fk (bu 26 [] []) h81 [] trivial Tryz.func134 (by kernel_rfl) fun x=>by kernel_rfl
noncomputable def T83:List (bV×ij):=((135,[]),⟨true,[a13,o2],[o2],u16 Q2⟩)::T82
theorem h83:tT Tryz.prog T83:=fk (bu 21 [] []) h82 [] trivial Tryz.func135 (by kernel_rfl) fun x=>by kernel_rfl
noncomputable def T84:List (bV×ij):=((89,[]),⟨true,[a13,o2],[o1],u16 QS⟩)::T83
theorem h84:tT Tryz.prog T84:=fk (bu 142 [] []) h83 [] trivial Tryz.func89 (by kernel_rfl) fun x=>by kernel_rfl
noncomputable def Tg:eB:=⟨[(1,.ro t25),(4,o2),(5,o2),(6,o12)],[(3,o2),(7,o2)],[(.ret,[(2,o1)]),(.exit 4,[(3,o2)])],Rl⟩
theorem Wp:nj Tryz.prog (env 126 [] []) (lp 2 (lp 0 (lp 0 (body Tryz.f90) 0) 0) 0) Tg:=lk (bu _ _ _) h84 (n:=4) [] trivial (by kernel_rfl) fun k x=>by kernel_rfl
noncomputable def Tf:eB:=⟨[(1,.ro t25),(4,o2)],[(3,o2),(5,o2)],[(.ret,[(2,o1)]),(.exit 2,[(3,o2)])],Rk⟩
theorem Wo:nj Tryz.prog (env 126 [] []) (lp 0 (lp 0 (body Tryz.f90) 0) 0) Tf:=lk (bu _ _ _) h84 (n:=2) [(4,Tg)] ⟨Wp,trivial⟩ (by kernel_rfl) fun k x=>by kernel_rfl
noncomputable def Te:eB:=⟨[(1,.ro t25)],[(3,o2),(4,o2)],[(.ret,[(2,o1)]),(.exit 0,[(3,o2)])],Un⟩
theorem Wn:nj Tryz.prog (env 126 [] []) (lp 0 (body Tryz.f90) 0) Te:=lk (bu _ _ _) h84 (n:=0) [(2,Tf)] ⟨Wo,trivial⟩ (by kernel_rfl) fun k x=>by kernel_rfl
noncomputable def Th:eB:=⟨[(1,.ro t25)],[(3,o2),(10,o2)],[(.exit 6,[(3,o2)])],Uo⟩
theorem Wq:nj Tryz.prog (env 126 [] []) (lp 0 (body Tryz.f90) 1) Th:=lk (bu _ _ _) h84 (n:=6) [] trivial (by kernel_rfl) fun k x=>by kernel_rfl
noncomputable def T85:List (bV×ij):=((90,[]),⟨true,[a13],[o1],u15 Rc⟩)::T84
theorem h85:tT Tryz.prog T85:=fk (bu 126 [] []) h84 [(0,Te),(6,Th)] ⟨Wn,Wq,trivial⟩ Tryz.func90 (by kernel_rfl) fun x=>by kernel_rfl
noncomputable def Vi:eB:=⟨[(1,.ro t25)],[(3,o2),(4,o2)],[(.exit 0,[(3,o2)])],V2⟩
theorem XE:nj Tryz.prog (env 33 [] []) (lp 0 (body Tryz.f91) 0) Vi:=lk (bu _ _ _) h85 (n:=0) [] trivial (by kernel_rfl) fun k x=>by kernel_rfl
noncomputable def T86:List (bV×ij):=((91,[]),⟨true,[a13],[o2],u15 Tx⟩)::T85
theorem h86:tT Tryz.prog T86:=fk (bu 33 [] []) h85 [(0,Vi)] ⟨XE,trivial⟩ Tryz.func91 (by kernel_rfl) fun x=>by kernel_rfl
noncomputable def TN:eB:=⟨[(1,.ro t25)],[(3,o2)],[(.ret,[(2,o1)]),(.exit 0,[])],UX⟩
theorem WX:nj Tryz.prog (env 83 [] []) (lp 0 (body Tryz.f38) 0) TN:=lk (bu _ _ _) h86 (n:=0) [] trivial (by kernel_rfl) fun k x=>by kernel_rfl
noncomputable def TO:eB:=⟨[(1,.ro t25)],[(4,o2)],[(.ret,[(2,o1)]),(.exit 2,[])],UY⟩
theorem WY:nj Tryz.prog (env 83 [] []) (lp 0 (body Tryz.f38) 1) TO:=lk (bu _ _ _) h86 (n:=2) [] trivial (by kernel_rfl) fun k x=>by kernel_rfl
noncomputable def T87:List (bV×ij):=((38,[]),⟨true,[a13],[o1],u15 PE⟩)::T86
theorem h87:tT Tryz.prog T87:=fk (bu 83 [] []) h86 [(0,TN),(2,TO)] ⟨WX,WY,trivial⟩ Tryz.func38 (by kernel_rfl) fun x=>by kernel_rfl
noncomputable def Tb:eB:=⟨[(3,o21),(4,o20)],[(10,a16),(12,a16),(13,o2)],[(.exit 0,[(10,a16),(12,a16)])],PR⟩
theorem Wj:nj Tryz.prog (env 56 [] [48]) (lp 0 (body Tryz.f8) 0) Tb:=lk (bu _ _ _) h87 (n:=0) [] trivial (by kernel_rfl) fun k x=>by kernel_rfl
noncomputable def T88:List (bV×ij):=((8,[]),⟨true,[a1,o2,o2,o21,o20],[a17,o1],u12 Q7⟩)::T87
theorem h88:tT Tryz.prog T88:=fk (bu 56 [] [48]) h87 [(0,Tb)] ⟨Wj,trivial⟩ Tryz.func8 (by kernel_rfl) fun x=>by kernel_rfl
noncomputable def TL:eB:=⟨[(0,o10),(1,o10)],[(5,o2)],[(.ret,[(4,o1)]),(.exit 0,[])],Qc⟩
theorem WV:nj Tryz.prog (env 26 [] []) (lp 0 (body Tryz.f136) 0) TL:=lk (bu _ _ _) h88 (n:=0) [] trivial (by kernel_rfl) fun k x=>by kernel_rfl
noncomputable def T89:List (bV×ij):=((136,[]),⟨true,[o10,o10],[o1],u2 Qp⟩)::T88
theorem h89:tT Tryz.prog T89:=fk (bu 26 [] []) h88 [(0,TL)] ⟨WV,trivial⟩ Tryz.func136 (by kernel_rfl) fun x=>by kernel_rfl
noncomputable def Uy:eB:=⟨[(0,o3),(1,o3)],[(5,o2)],[(.ret,[(4,o1)]),(.exit 0,[])],Sk⟩
theorem Xc:nj Tryz.prog (env 26 [] []) (lp 0 (body Tryz.f19) 0) Uy:=lk (bu _ _ _) h89 (n:=0) [] trivial (by kernel_rfl) fun k x=>by kernel_rfl
noncomputable def T90:List (bV×ij):=((19,[]),⟨true,[o3,o3],[o1],u2 SF⟩)::T89
theorem h90:tT Tryz.prog T90:=fk (bu 26 [] []) h89 [(0,Uy)] ⟨Xc,trivial⟩ Tryz.func19 (by kernel_rfl) fun x=>by kernel_rfl
noncomputable def TJ:eB:=⟨[(0,o12),(1,o12)],[(5,o2)],[(.ret,[(4,o1)]),(.exit 0,[])],P8⟩
theorem WT:nj Tryz.prog (env 26 [] []) (lp 0 (body Tryz.f93) 0) TJ:=lk (bu _ _ _) h90 (n:=0) [] trivial (by kernel_rfl) fun k x=>by kernel_rfl
noncomputable def T91:List (bV×ij):=((93,[]),⟨true,[o12,o12],[o1],u2 RM⟩)::T90
theorem h91:tT Tryz.prog T91:=fk (bu 26 [] []) h90 [(0,TJ)] ⟨WT,trivial⟩ Tryz.func93 (by kernel_rfl) fun x=>by kernel_rfl
noncomputable def T92:List (bV×ij):=((43,[]),⟨true,[a5,a5],[o1],u6 Q5⟩)::T91
theorem h92:tT Tryz.prog T92:=fk (bu 24 [] []) h91 [] trivial Tryz.func43 (by kernel_rfl) fun x=>by kernel_rfl
noncomputable def Ux:eB:=⟨[(0,o14),(1,o14)],[(5,o2)],[(.ret,[(4,o1)]),(.exit 0,[])],QE⟩
theorem Xb:nj Tryz.prog (env 27 [] []) (lp 0 (body Tryz.f10) 0) Ux:=lk (bu _ _ _) h92 (n:=0) [] trivial (by kernel_rfl) fun k x=>by kernel_rfl
noncomputable def T93:List (bV×ij):=((10,[]),⟨true,[o14,o14],[o1],u2 Q0⟩)::T92
theorem h93:tT Tryz.prog T93:=fk (bu 27 [] []) h92 [(0,Ux)] ⟨Xb,trivial⟩ Tryz.func10 (by kernel_rfl) fun x=>by kernel_rfl
noncomputable def S9:eB:=⟨[(0,o17),(1,o17)],[(5,o2)],[(.ret,[(4,o1)]),(.exit 0,[])],Rf⟩
theorem Wh:nj Tryz.prog (env 26 [] []) (lp 0 (body Tryz.f42) 0) S9:=lk (bu _ _ _) h93 (n:=0) [] trivial (by kernel_rfl) fun k x=>by kernel_rfl
noncomputable def T94:List (bV×ij):=((42,[]),⟨true,[o17,o17],[o1],u2 PV⟩)::T93
theorem h94:tT Tryz.prog T94:=fk (bu 26 [] []) h93 [(0,S9)] ⟨Wh,trivial⟩ Tryz.func42 (by kernel_rfl) fun x=>by kernel_rfl
noncomputable def T95:List (bV×ij):=((92,[]),⟨true,[a18,a18],[o1],u22 SG⟩)::T94
theorem h95:tT Tryz.prog T95:=fk (bu 56 [] []) h94 [] trivial Tryz.func92 (by kernel_rfl) fun x=>by kernel_rfl
noncomputable def TK:eB:=⟨[(0,o18),(1,o18)],[(5,o2)],[(.ret,[(4,o1)]),(.exit 0,[])],Qa⟩
theorem WU:nj Tryz.prog (env 27 [] []) (lp 0 (body Tryz.f39) 0) TK:=lk (bu _ _ _) h95 (n:=0) [] trivial (by kernel_rfl) fun k x=>by kernel_rfl
noncomputable def T96:List (bV×ij):=((39,[]),⟨true,[o18,o18],[o1],u2 RN⟩)::T95
theorem h96:tT Tryz.prog T96:=fk (bu 27 [] []) h95 [(0,TK)] ⟨WU,trivial⟩ Tryz.func39 (by kernel_rfl) fun x=>by kernel_rfl
noncomputable def SL:eB:=⟨[(0,o19),(1,o19)],[(5,o2)],[(.ret,[(4,o1)]),(.exit 0,[])],Pd⟩
theorem V3:nj Tryz.prog (env 26 [] []) (lp 0 (body Tryz.f40) 0) SL:=lk (bu _ _ _) h96 (n:=0) [] trivial (by kernel_rfl) fun k x=>by kernel_rfl
noncomputable def T97:List (bV×ij):=((40,[]),⟨true,[o19,o19],[o1],u2 QG⟩)::T96
theorem h97:tT Tryz.prog T97:=fk (bu 26 [] []) h96 [(0,SL)] ⟨V3,trivial⟩ Tryz.func40 (by kernel_rfl) fun x=>by kernel_rfl
noncomputable def Ta:eB:=⟨[(0,o16),(1,o16)],[(5,o2)],[(.ret,[(4,o1)]),(.exit 0,[])],PN⟩
theorem Wi:nj Tryz.prog (env 26 [] []) (lp 0 (body Tryz.f41) 0) Ta:=lk (bu _ _ _) h97 (n:=0) [] trivial (by kernel_rfl) fun k x=>by kernel_rfl
noncomputable def T98:List (bV×ij):=((41,[]),⟨true,[o16,o16],[o1],u2 Q6⟩)::T97
theorem h98:tT Tryz.prog T98:=fk (bu 26 [] []) h97 [(0,Ta)] ⟨Wi,trivial⟩ Tryz.func41 (by kernel_rfl) fun x=>by kernel_rfl
noncomputable def T99:List (bV×ij):=((9,[]),⟨true,[a13,a13],[o1],u30 QF⟩)::T98
theorem h99:tT Tryz.prog T99:=fk (bu 59 [] []) h98 [] trivial Tryz.func9 (by kernel_rfl) fun x=>by kernel_rfl
noncomputable def ad2:List (bV×ij):=((140,[]),⟨true,[o17],[o22],u1 KN⟩)::T99
theorem af9:tT Tryz.prog ad2:=fk (bu 8 [] []) h99 [] trivial Tryz.func140 (by kernel_rfl) fun x=>by kernel_rfl
noncomputable def ad3:List (bV×ij):=((165,[]),⟨true,[a11,.ro t17],[o1],u14 OQ⟩)::ad2
theorem afc:tT Tryz.prog ad3:=fk (bu 16 [] []) af9 [] trivial Tryz.func165 (by kernel_rfl) fun x=>by kernel_rfl
noncomputable def KX:eB:=⟨[(0,o17),(1,.fn 165 [t17]),(7,o2)],[(8,o2)],[(.ret,[(4,o2)]),(.exit 0,[])],J8⟩
theorem MI:nj Tryz.prog (env 19 [] []) (lp 0 (body Tryz.f164) 0) KX:=lk (bu _ _ _) afc (n:=0) [] trivial (by kernel_rfl) fun k x=>by kernel_rfl
noncomputable def ad4:List (bV×ij):=((164,[165]),⟨true,[o17,.fn 165 [t17]],[o2],u8 JG⟩)::ad3
theorem aga:tT Tryz.prog ad4:=fk (bu 19 [] []) afc [(0,KX)] ⟨MI,trivial⟩ Tryz.func164 (by kernel_rfl) fun x=>by kernel_rfl
noncomputable def ad5:List (bV×ij):=((177,[]),⟨true,[o23],[o2],u1 Yp⟩)::ad4
theorem agb:tT Tryz.prog ad5:=fk (bu 19 [] []) aga [] trivial Tryz.func177 (by kernel_rfl) fun x=>by kernel_rfl
noncomputable def ad6:List (bV×ij):=((178,[]),⟨true,[o24],[o2],u1 VY⟩)::ad5
theorem agc:tT Tryz.prog ad6:=fk (bu 25 [] []) agb [] trivial Tryz.func178 (by kernel_rfl) fun x=>by kernel_rfl
noncomputable def ad7:List (bV×ij):=((143,[]),⟨true,[o24],[o2],u1 P0⟩)::ad6
theorem agd:tT Tryz.prog ad7:=fk (bu 8 [] []) agc [] trivial Tryz.func143 (by kernel_rfl) fun x=>by kernel_rfl
noncomputable def ad8:List (bV×ij):=((180,[]),⟨true,[o2],[o1],u1 Oq⟩)::ad7
theorem age:tT Tryz.prog ad8:=fk (bu 6 [] []) agd [] trivial Tryz.func180 (by kernel_rfl) fun x=>by kernel_rfl
noncomputable def ad9:List (bV×ij):=((148,[]),⟨true,[o2,o2],[o2],u2 NJ⟩)::ad8
theorem afd:tT Tryz.prog ad9:=fk (bu 20 [] []) age [] trivial Tryz.func148 (by kernel_rfl) fun x=>by kernel_rfl
noncomputable def VE:eB:=⟨[(3,o2),(6,o3),(7,o2)],[(8,o2)],[(.ret,[(2,o2)]),(.exit 0,[])],TS⟩
theorem XL:nj Tryz.prog (env 18 [] []) (lp 0 (body Tryz.f147) 0) VE:=lk (bu _ _ _) afd (n:=0) [] trivial (by kernel_rfl) fun k x=>by kernel_rfl
noncomputable def aea:List (bV×ij):=((147,[]),⟨true,[o3],[o2],u1 SN⟩)::ad9
theorem agf:tT Tryz.prog aea:=fk (bu 18 [] []) afd [(0,VE)] ⟨XL,trivial⟩ Tryz.func147 (by kernel_rfl) fun x=>by kernel_rfl
noncomputable def aeb:List (bV×ij):=((167,[]),⟨true,[a11,a11],[o2],u14 vw⟩)::aea
theorem adt:tT Tryz.prog aeb:=fk (bu 17 [] []) agf [] trivial Tryz.func167 (by kernel_rfl) fun x=>by kernel_rfl
noncomputable def K4:eB:=⟨[(1,o2),(2,o2),(3,.fn 167 []),(8,o2)],[(0,o22),(9,o2)],[(.exit 2,[(0,o22)])],JD⟩
theorem M3:nj Tryz.prog (env 53 [] []) (lp 0 (lp 0 (body Tryz.f200) 0) 0) K4:=lk (bu _ _ _) adt (n:=2) [] trivial (by kernel_rfl) fun k x=>by kernel_rfl
noncomputable def K3:eB:=⟨[(1,o2),(2,o2),(3,.fn 167 [])],[(0,o22),(8,o2)],[(.exit 0,[(0,o22)])],JC⟩
theorem M2:nj Tryz.prog (env 53 [] []) (lp 0 (body Tryz.f200) 0) K3:=lk (bu _ _ _) adt (n:=0) [(2,K4)] ⟨M3,trivial⟩ (by kernel_rfl) fun k x=>by kernel_rfl
noncomputable def aec:List (bV×ij):=((200,[167]),⟨true,[o22,o2,o2,.fn 167 []],[],u3 JN⟩)::aeb
theorem afe:tT Tryz.prog aec:=fk (bu 53 [] []) adt [(0,K3)] ⟨M2,trivial⟩ Tryz.func200 (by kernel_rfl) fun x=>by kernel_rfl
noncomputable def Lp:eB:=⟨[(2,o2),(3,o2),(4,.fn 167 [])],[(0,o22),(10,o2)],[(.exit 0,[(0,o22)]),(.ret,[(0,o22)])],JX⟩
theorem NA:nj Tryz.prog (env 82 [] []) (lp 0 (body Tryz.f220) 0) Lp:=lk (bu _ _ _) afe (n:=0) [] trivial (by kernel_rfl) fun k x=>by kernel_rfl
noncomputable def aed:List (bV×ij):=((220,[167]),⟨true,[o22,o2,o2,o2,.fn 167 []],[],u4 Jt⟩)::aec
theorem adu:tT Tryz.prog aed:=fk (bu 82 [] []) afe [(0,Lp)] ⟨NA,trivial⟩ Tryz.func220 (by kernel_rfl) fun x=>by kernel_rfl
noncomputable def Ln:eB:=⟨[(3,.fn 167 []),(8,o2),(9,o2),(10,o2)],[(0,o22),(11,o2)],[(.exit 0,[(0,o22)])],JV⟩
theorem Ny:nj Tryz.prog (env 60 [] []) (lp 0 (body Tryz.f201) 0) Ln:=lk (bu _ _ _) adu (n:=0) [] trivial (by kernel_rfl) fun k x=>by kernel_rfl
noncomputable def Lo:eB:=⟨[(3,.fn 167 []),(8,o2),(9,o2)],[(0,o22),(12,o2)],[(.exit 2,[(0,o22)])],JW⟩
theorem Nz:nj Tryz.prog (env 60 [] []) (lp 0 (body Tryz.f201) 1) Lo:=lk (bu _ _ _) adu (n:=2) [] trivial (by kernel_rfl) fun k x=>by kernel_rfl
noncomputable def aee:List (bV×ij):=((201,[167]),⟨true,[o22,o2,o2,.fn 167 []],[],u3 J6⟩)::aed
theorem agh:tT Tryz.prog aee:=fk (bu 60 [] []) adu [(0,Ln),(2,Lo)] ⟨Ny,Nz,trivial⟩ Tryz.func201 (by kernel_rfl) fun x=>by kernel_rfl
noncomputable def aef:List (bV×ij):=((189,[]),⟨true,[o2],[o24],u1 L2⟩)::aee
theorem agi:tT Tryz.prog aef:=fk (bu 7 [] []) agh [] trivial Tryz.func189 (by kernel_rfl) fun x=>by kernel_rfl
noncomputable def aeg:List (bV×ij):=((190,[]),⟨false,[.blk [v15]],[o24],u1 __slices_xorshift__Next⟩)::aef
theorem aff:tT Tryz.prog aeg:=fk (bu 33 [] []) agi [] trivial Tryz.func190 (by kernel_rfl) fun x=>by kernel_rfl
noncomputable def K2:eB:=⟨[(1,o2),(8,o2),(10,o24)],[(0,o22),(9,.blk [v15]),(11,o2)],[(.exit 0,[(0,o22)])],JB⟩
theorem M1:nj Tryz.prog (env 67 [] []) (lp 0 (body Tryz.f202) 0) K2:=lk (bu _ _ _) aff (n:=0) [] trivial (by kernel_rfl) fun k x=>by kernel_rfl
noncomputable def aeh:List (bV×ij):=((202,[167]),⟨true,[o22,o2,o2,.fn 167 []],[],u3 JM⟩)::aeg
theorem agj:tT Tryz.prog aeh:=fk (bu 67 [] []) aff [(0,K2)] ⟨M1,trivial⟩ Tryz.func202 (by kernel_rfl) fun x=>by kernel_rfl
noncomputable def aei:List (bV×ij):=((239,[167]),⟨false,[o17,o2,o2,.blk [v2],.fn 167 []],[o2,o2],u4 Je⟩)::aeh
theorem agk:tT Tryz.prog aei:=fk (bu 32 [] []) agj [] trivial Tryz.func239 (by kernel_rfl) fun x=>by kernel_rfl
noncomputable def aej:List (bV×ij):=((222,[167]),⟨false,[o17,o2,o2,o2,.blk [v2],.fn 167 []],[o2],u5 Jd⟩)::aei
theorem agl:tT Tryz.prog aej:=fk (bu 41 [] []) agk [] trivial Tryz.func222 (by kernel_rfl) fun x=>by kernel_rfl
noncomputable def aek:List (bV×ij):=((221,[167]),⟨false,[o17,o2,.blk [v2],.fn 167 []],[o2],u3 IZ⟩)::aej
theorem agm:tT Tryz.prog aek:=fk (bu 18 [] []) agl [] trivial Tryz.func221 (by kernel_rfl) fun x=>by kernel_rfl
noncomputable def ael:List (bV×ij):=((203,[167]),⟨true,[o17,o2,o2,.fn 167 []],[o2,o2],u3 Jn⟩)::aek
theorem afg:tT Tryz.prog ael:=fk (bu 63 [] []) agm [] trivial Tryz.func203 (by kernel_rfl) fun x=>by kernel_rfl
noncomputable def K5:eB:=⟨[],[(0,o22),(8,o2),(9,o2)],[(.exit 0,[(0,o22)])],JH⟩
theorem M7:nj Tryz.prog (env 34 [] []) (lp 0 (body Tryz.f204) 0) K5:=lk (bu _ _ _) afg (n:=0) [] trivial (by kernel_rfl) fun k x=>by kernel_rfl
noncomputable def aem:List (bV×ij):=((204,[167]),⟨true,[o22,o2,o2,.fn 167 []],[],u3 Jj⟩)::ael
theorem abA:tT Tryz.prog aem:=fk (bu 34 [] []) afg [(0,K5)] ⟨M7,trivial⟩ Tryz.func204 (by kernel_rfl) fun x=>by kernel_rfl
noncomputable def KK:eB:=⟨[(1,o2),(2,o2),(3,.fn 167 []),(10,o2)],[(0,o22),(9,o2)],[(.exit 2,[(0,o22),(9,o2)])],Jl⟩
theorem Mm:nj Tryz.prog (env 141 [] []) (lp 0 (lp 0 (body Tryz.f205) 0) 0) KK:=lk (bu _ _ _) abA (n:=2) [] trivial (by kernel_rfl) fun k x=>by kernel_rfl
noncomputable def KL:eB:=⟨[(1,o2),(2,o2),(3,.fn 167 []),(9,o2),(10,o2)],[(0,o22),(11,o2)],[(.exit 4,[(0,o22)])],Jm⟩
theorem Mn:nj Tryz.prog (env 141 [] []) (lp 0 (lp 0 (body Tryz.f205) 0) 1) KL:=lk (bu _ _ _) abA (n:=4) [] trivial (by kernel_rfl) fun k x=>by kernel_rfl
noncomputable def KM:eB:=⟨[(1,o2),(2,o2),(3,.fn 167 []),(9,o2),(10,o2)],[(0,o22),(12,o2)],[(.exit 6,[(0,o22)])],I0⟩
theorem Mo:nj Tryz.prog (env 141 [] []) (lp 0 (lp 0 (body Tryz.f205) 0) 2) KM:=lk (bu _ _ _) abA (n:=6) [] trivial (by kernel_rfl) fun k x=>by kernel_rfl
noncomputable def KJ:eB:=⟨[(1,o2),(2,o2),(3,.fn 167 [])],[(0,o22),(9,o2),(10,o2)],[(.ret,[(0,o22),(8,o1)]),(.exit 0,[(0,o22)])],Jk⟩
theorem Ml:nj Tryz.prog (env 141 [] []) (lp 0 (body Tryz.f205) 0) KJ:=lk (bu _ _ _) abA (n:=0) [(2,KK),(4,KL),(6,KM)] ⟨Mm,Mn,Mo,trivial⟩ (by kernel_rfl) fun k x=>by kernel_rfl
noncomputable def aen:List (bV×ij):=((205,[167]),⟨true,[o22,o2,o2,.fn 167 []],[o1],u3 zS⟩)::aem
theorem acj:tT Tryz.prog aen:=fk (bu 141 [] []) abA [(0,KJ)] ⟨Ml,trivial⟩ Tryz.func205 (by kernel_rfl) fun x=>by kernel_rfl
noncomputable def KZ:eB:=⟨[(1,o2),(4,.fn 167 []),(12,o2)],[(0,o22),(11,o2)],[(.exit 2,[(0,o22),(11,o2)])],Jz⟩
theorem MT:nj Tryz.prog (env 90 [] []) (lp 0 (lp 0 (body Tryz.f206) 0) 0) KZ:=lk (bu _ _ _) acj (n:=2) [] trivial (by kernel_rfl) fun k x=>by kernel_rfl
noncomputable def K0:eB:=⟨[(1,o2),(4,.fn 167 []),(11,o2)],[(0,o22),(12,o2)],[(.exit 4,[(0,o22),(12,o2)])],JA⟩
theorem MU:nj Tryz.prog (env 90 [] []) (lp 0 (lp 0 (body Tryz.f206) 0) 1) K0:=lk (bu _ _ _) acj (n:=4) [] trivial (by kernel_rfl) fun k x=>by kernel_rfl
noncomputable def KY:eB:=⟨[(1,o2),(4,.fn 167 [])],[(0,o22),(11,o2),(12,o2)],[(.exit 0,[(0,o22),(11,o2)])],Jy⟩
theorem MS:nj Tryz.prog (env 90 [] []) (lp 0 (body Tryz.f206) 0) KY:=lk (bu _ _ _) acj (n:=0) [(2,KZ),(4,K0)] ⟨MT,MU,trivial⟩ (by kernel_rfl) fun k x=>by kernel_rfl
noncomputable def aeo:List (bV×ij):=((206,[167]),⟨true,[o22,o2,o2,o2,.fn 167 []],[o2],u4 br⟩)::aen
theorem aaP:tT Tryz.prog aeo:=fk (bu 90 [] []) acj [(0,KY)] ⟨MS,trivial⟩ Tryz.func206 (by kernel_rfl) fun x=>by kernel_rfl
noncomputable def Ld:eB:=⟨[(1,o2),(4,.fn 167 []),(13,o2)],[(0,o22),(12,o2)],[(.exit 0,[(0,o22),(12,o2)])],JO⟩
theorem Nl:nj Tryz.prog (env 178 [] []) (lp 0 (body Tryz.f207) 0) Ld:=lk (bu _ _ _) aaP (n:=0) [] trivial (by kernel_rfl) fun k x=>by kernel_rfl
noncomputable def Le:eB:=⟨[(1,o2),(4,.fn 167 []),(12,o2)],[(0,o22),(13,o2)],[(.exit 2,[(0,o22),(13,o2)])],JP⟩
theorem Nn:nj Tryz.prog (env 178 [] []) (lp 0 (body Tryz.f207) 1) Le:=lk (bu _ _ _) aaP (n:=2) [] trivial (by kernel_rfl) fun k x=>by kernel_rfl
noncomputable def Lh:eB:=⟨[(1,o2),(4,.fn 167 []),(13,o2)],[(0,o22),(12,o2)],[(.exit 6,[(0,o22),(12,o2)])],JR⟩
theorem Nq:nj Tryz.prog (env 178 [] []) (lp 4 (lp 0 (body Tryz.f207) 2) 0) Lh:=lk (bu _ _ _) aaP (n:=6) [] trivial (by kernel_rfl) fun k x=>by kernel_rfl
noncomputable def Li:eB:=⟨[(1,o2),(4,.fn 167 []),(12,o2)],[(0,o22),(13,o2)],[(.exit 8,[(0,o22),(13,o2)])],JS⟩
theorem Nr:nj Tryz.prog (env 178 [] []) (lp 4 (lp 0 (body Tryz.f207) 2) 1) Li:=lk (bu _ _ _) aaP (n:=8) [] trivial (by kernel_rfl) fun k x=>by kernel_rfl
noncomputable def Lg:eB:=⟨[(1,o2),(4,.fn 167 [])],[(0,o22),(12,o2),(13,o2)],[(.exit 4,[(0,o22),(13,o2)])],JQ⟩
theorem Np:nj Tryz.prog (env 178 [] []) (lp 0 (body Tryz.f207) 2) Lg:=lk (bu _ _ _) aaP (n:=4) [(6,Lh),(8,Li)] ⟨Nq,Nr,trivial⟩ (by kernel_rfl) fun k x=>by kernel_rfl
noncomputable def ab2:List (bV×ij):=((207,[167]),⟨true,[o22,o2,o2,o2,.fn 167 []],[o2,o1],u4 bf⟩)::aeo
theorem adv:tT Tryz.prog ab2:=fk (bu 178 [] []) aaP [(0,Ld),(2,Le),(4,Lg)] ⟨Nl,Nn,Np,trivial⟩ Tryz.func207 (by kernel_rfl) fun x=>by kernel_rfl
noncomputable def IX(rec:(List (Int×Int×Int×Int×Int×Int×Int))->Int->Int->Int->Option ((List (Int×Int×Int×Int×Int×Int×Int))×Unit)):ij:=⟨true,[o22,o2,o2,o2,.fn 167 []],[],u4 rec⟩
noncomputable def Lr(rec:(List (Int×Int×Int×Int×Int×Int×Int))->Int->Int->Int->Option ((List (Int×Int×Int×Int×Int×Int×Int))×Unit)):eB:=⟨[(4,.fn 167 [])],[(0,o22),(1,o2),(2,o2),(3,o2),(10,o1),(11,o1)],[(.ret,[(0,o22)])],JY rec⟩
theorem NC(rec:(List (Int×Int×Int×Int×Int×Int×Int))->Int->Int->Int->Option ((List (Int×Int×Int×Int×Int×Int×Int))×Unit))(hr:eA Tryz.prog 187 (IX rec)):nj Tryz.prog (env 148 [] []) (lp 0 (body Tryz.f187) 0) (Lr rec):=lk (bu _ _ _) (T:=((187,[167]),IX rec)::ab2) ⟨hr,adv⟩ (n:=0) [] trivial (by kernel_rfl) fun k x=>by kernel_rfl
theorem NI(rec:(List (Int×Int×Int×Int×Int×Int×Int))->Int->Int->Int->Option ((List (Int×Int×Int×Int×Int×Int×Int))×Unit))(hr:eA Tryz.prog 187 (IX rec)):eA Tryz.prog 187 (IX (J5 rec)):=(fk (ks:=[]) (bu 148 [] []) (T:=((187,[167]),IX rec)::ab2) ⟨hr,adv⟩ [(0,Lr rec)] ⟨(NC rec hr),trivial⟩ Tryz.func187 (by kernel_rfl) fun x=>by kernel_rfl).1
noncomputable def aep:List (bV×ij):=((187,[167]),IX J7)::ab2
theorem agn:tT Tryz.prog aep:=⟨DB (F:=fun n=>IX (I5 n)) (CA (fn:=Tryz.f187) (c:=body Tryz.f187) Tryz.func187 (by kernel_rfl) (by kernel_rfl) (fun _=>rfl)) (fun n h=>NI (I5 n) h) big,adv⟩
noncomputable def aeq:List (bV×ij):=((166,[167]),⟨true,[o22,.fn 167 []],[],u1 JI⟩)::aep
theorem afh:tT Tryz.prog aeq:=fk (bu 14 [] []) agn [] trivial Tryz.func166 (by kernel_rfl) fun x=>by kernel_rfl
noncomputable def Ry:eB:=⟨[(0,o17),(20,o17),(21,o2)],[(6,o22),(22,o2)],[(.ret,[(4,o22),(5,o1)]),(.exit 0,[(6,o22)])],P5⟩
theorem Vq:nj Tryz.prog (env 50 [] []) (lp 0 (body Tryz.f141) 0) Ry:=lk (bu _ _ _) afh (n:=0) [] trivial (by kernel_rfl) fun k x=>by kernel_rfl
noncomputable def aer:List (bV×ij):=((141,[]),⟨true,[o17,o17],[o22,o1],u2 PI⟩)::aeq
theorem afi:tT Tryz.prog aer:=fk (bu 50 [] []) afh [(0,Ry)] ⟨Vq,trivial⟩ Tryz.func141 (by kernel_rfl) fun x=>by kernel_rfl
noncomputable def VK:eB:=⟨[(13,o18),(14,o2)],[(4,o22),(15,o2)],[(.ret,[(2,o22),(3,o1)]),(.exit 0,[(4,o22)])],RK⟩
theorem XR:nj Tryz.prog (env 31 [] []) (lp 0 (body Tryz.f104) 0) VK:=lk (bu _ _ _) afi (n:=0) [] trivial (by kernel_rfl) fun k x=>by kernel_rfl
noncomputable def aes:List (bV×ij):=((104,[]),⟨true,[a13],[o22,o1],u15 UP⟩)::aer
theorem ago:tT Tryz.prog aes:=fk (bu 31 [] []) afi [(0,VK)] ⟨XR,trivial⟩ Tryz.func104 (by kernel_rfl) fun x=>by kernel_rfl
noncomputable def aet:List (bV×ij):=((54,[]),⟨true,[a13],[o22,o1],u15 Sa⟩)::aes
theorem h128:tT Tryz.prog aet:=fk (bu 11 [] []) ago [] trivial Tryz.func54 (by kernel_rfl) fun x=>by kernel_rfl
noncomputable def aeu:List (bV×ij):=((174,[]),⟨true,[o2,o2],[o1],u2 I2⟩)::aet
theorem adw:tT Tryz.prog aeu:=fk (bu 17 [] []) h128 [] trivial Tryz.func174 (by kernel_rfl) fun x=>by kernel_rfl
noncomputable def N9:eB:=⟨[(1,o2),(2,o2),(6,o2)],[(0,o11),(7,o2)],[(.exit 2,[(0,o11)])],LG⟩
theorem QJ:nj Tryz.prog (env 49 [] []) (lp 0 (lp 0 (body Tryz.f168) 0) 0) N9:=lk (bu _ _ _) adw (n:=2) [] trivial (by kernel_rfl) fun k x=>by kernel_rfl
noncomputable def N8:eB:=⟨[(1,o2),(2,o2)],[(0,o11),(6,o2)],[(.exit 0,[(0,o11)])],LF⟩
theorem QI:nj Tryz.prog (env 49 [] []) (lp 0 (body Tryz.f168) 0) N8:=lk (bu _ _ _) adw (n:=0) [(2,N9)] ⟨QJ,trivial⟩ (by kernel_rfl) fun k x=>by kernel_rfl
noncomputable def aev:List (bV×ij):=((168,[]),⟨true,[o11,o2,o2],[],u3 L7⟩)::aeu
theorem afj:tT Tryz.prog aev:=fk (bu 49 [] []) adw [(0,N8)] ⟨QI,trivial⟩ Tryz.func168 (by kernel_rfl) fun x=>by kernel_rfl
noncomputable def O9:eB:=⟨[(2,o2),(3,o2)],[(0,o11),(8,o2)],[(.exit 0,[(0,o11)]),(.ret,[(0,o11)])],Ms⟩
theorem RQ:nj Tryz.prog (env 76 [] []) (lp 0 (body Tryz.f188) 0) O9:=lk (bu _ _ _) afj (n:=0) [] trivial (by kernel_rfl) fun k x=>by kernel_rfl
noncomputable def aew:List (bV×ij):=((188,[]),⟨true,[o11,o2,o2,o2],[],u4 L8⟩)::aev
theorem adx:tT Tryz.prog aew:=fk (bu 76 [] []) afj [(0,O9)] ⟨RQ,trivial⟩ Tryz.func188 (by kernel_rfl) fun x=>by kernel_rfl
noncomputable def O7:eB:=⟨[(6,o2),(7,o2),(8,o2)],[(0,o11),(9,o2)],[(.exit 0,[(0,o11)])],Mq⟩
theorem RO:nj Tryz.prog (env 56 [] []) (lp 0 (body Tryz.f169) 0) O7:=lk (bu _ _ _) adx (n:=0) [] trivial (by kernel_rfl) fun k x=>by kernel_rfl
noncomputable def O8:eB:=⟨[(6,o2),(7,o2)],[(0,o11),(10,o2)],[(.exit 2,[(0,o11)])],Mr⟩
theorem RP:nj Tryz.prog (env 56 [] []) (lp 0 (body Tryz.f169) 1) O8:=lk (bu _ _ _) adx (n:=2) [] trivial (by kernel_rfl) fun k x=>by kernel_rfl
noncomputable def aex:List (bV×ij):=((169,[]),⟨true,[o11,o2,o2],[],u3 Nc⟩)::aew
theorem afk:tT Tryz.prog aex:=fk (bu 56 [] []) adx [(0,O7),(2,O8)] ⟨RO,RP,trivial⟩ Tryz.func169 (by kernel_rfl) fun x=>by kernel_rfl
noncomputable def N7:eB:=⟨[(1,o2),(6,o2),(8,o24)],[(0,o11),(7,.blk [v15]),(9,o2)],[(.exit 0,[(0,o11)])],LD⟩
theorem QH:nj Tryz.prog (env 65 [] []) (lp 0 (body Tryz.f170) 0) N7:=lk (bu _ _ _) afk (n:=0) [] trivial (by kernel_rfl) fun k x=>by kernel_rfl
noncomputable def aey:List (bV×ij):=((170,[]),⟨true,[o11,o2,o2],[],u3 L6⟩)::aex
theorem agp:tT Tryz.prog aey:=fk (bu 65 [] []) afk [(0,N7)] ⟨QH,trivial⟩ Tryz.func170 (by kernel_rfl) fun x=>by kernel_rfl
noncomputable def aez:List (bV×ij):=((208,[]),⟨false,[o3,o2,o2,.blk [v2]],[o2,o2],u4 LM⟩)::aey
theorem agq:tT Tryz.prog aez:=fk (bu 28 [] []) agp [] trivial Tryz.func208 (by kernel_rfl) fun x=>by kernel_rfl
noncomputable def aeA:List (bV×ij):=((192,[]),⟨false,[o3,o2,o2,o2,.blk [v2]],[o2],u5 LL⟩)::aez
theorem agr:tT Tryz.prog aeA:=fk (bu 36 [] []) agq [] trivial Tryz.func192 (by kernel_rfl) fun x=>by kernel_rfl
noncomputable def aeB:List (bV×ij):=((191,[]),⟨false,[o3,o2,.blk [v2]],[o2],u3 KF⟩)::aeA
theorem ags:tT Tryz.prog aeB:=fk (bu 15 [] []) agr [] trivial Tryz.func191 (by kernel_rfl) fun x=>by kernel_rfl
noncomputable def aeC:List (bV×ij):=((171,[]),⟨true,[o3,o2,o2],[o2,o2],u3 LA⟩)::aeB
theorem afl:tT Tryz.prog aeC:=fk (bu 57 [] []) ags [] trivial Tryz.func171 (by kernel_rfl) fun x=>by kernel_rfl
noncomputable def Og:eB:=⟨[],[(0,o11),(6,o2),(7,o2)],[(.exit 0,[(0,o11)])],LU⟩
theorem QW:nj Tryz.prog (env 32 [] []) (lp 0 (body Tryz.f172) 0) Og:=lk (bu _ _ _) afl (n:=0) [] trivial (by kernel_rfl) fun k x=>by kernel_rfl
noncomputable def aeD:List (bV×ij):=((172,[]),⟨true,[o11,o2,o2],[],u3 Lq⟩)::aeC
theorem abB:tT Tryz.prog aeD:=fk (bu 32 [] []) afl [(0,Og)] ⟨QW,trivial⟩ Tryz.func172 (by kernel_rfl) fun x=>by kernel_rfl
noncomputable def Nf:eB:=⟨[(1,o2),(2,o2),(8,o2)],[(0,o11),(7,o2)],[(.exit 2,[(0,o11),(7,o2)])],KS⟩
theorem Pt:nj Tryz.prog (env 133 [] []) (lp 0 (lp 0 (body Tryz.f173) 0) 0) Nf:=lk (bu _ _ _) abB (n:=2) [] trivial (by kernel_rfl) fun k x=>by kernel_rfl
noncomputable def Ng:eB:=⟨[(1,o2),(2,o2),(7,o2),(8,o2)],[(0,o11),(9,o2)],[(.exit 4,[(0,o11)])],KT⟩
theorem Pu:nj Tryz.prog (env 133 [] []) (lp 0 (lp 0 (body Tryz.f173) 0) 1) Ng:=lk (bu _ _ _) abB (n:=4) [] trivial (by kernel_rfl) fun k x=>by kernel_rfl
noncomputable def Nh:eB:=⟨[(1,o2),(2,o2),(7,o2),(8,o2)],[(0,o11),(10,o2)],[(.exit 6,[(0,o11)])],Kl⟩
theorem Pv:nj Tryz.prog (env 133 [] []) (lp 0 (lp 0 (body Tryz.f173) 0) 2) Nh:=lk (bu _ _ _) abB (n:=6) [] trivial (by kernel_rfl) fun k x=>by kernel_rfl
noncomputable def Nd:eB:=⟨[(1,o2),(2,o2)],[(0,o11),(7,o2),(8,o2)],[(.ret,[(0,o11),(6,o1)]),(.exit 0,[(0,o11)])],KR⟩
theorem Ps:nj Tryz.prog (env 133 [] []) (lp 0 (body Tryz.f173) 0) Nd:=lk (bu _ _ _) abB (n:=0) [(2,Nf),(4,Ng),(6,Nh)] ⟨Pt,Pu,Pv,trivial⟩ (by kernel_rfl) fun k x=>by kernel_rfl
noncomputable def aeE:List (bV×ij):=((173,[]),⟨true,[o11,o2,o2],[o1],u3 JK⟩)::aeD
theorem ack:tT Tryz.prog aeE:=fk (bu 133 [] []) abB [(0,Nd)] ⟨Ps,trivial⟩ Tryz.func173 (by kernel_rfl) fun x=>by kernel_rfl
noncomputable def N1:eB:=⟨[(1,o2),(10,o2)],[(0,o11),(9,o2)],[(.exit 2,[(0,o11),(9,o2)])],Lv⟩
theorem Qr:nj Tryz.prog (env 84 [] []) (lp 0 (lp 0 (body Tryz.f175) 0) 0) N1:=lk (bu _ _ _) ack (n:=2) [] trivial (by kernel_rfl) fun k x=>by kernel_rfl
noncomputable def N2:eB:=⟨[(1,o2),(9,o2)],[(0,o11),(10,o2)],[(.exit 4,[(0,o11),(10,o2)])],Lw⟩
theorem Qs:nj Tryz.prog (env 84 [] []) (lp 0 (lp 0 (body Tryz.f175) 0) 1) N2:=lk (bu _ _ _) ack (n:=4) [] trivial (by kernel_rfl) fun k x=>by kernel_rfl
noncomputable def N0:eB:=⟨[(1,o2)],[(0,o11),(9,o2),(10,o2)],[(.exit 0,[(0,o11),(9,o2)])],Lu⟩
theorem Qq:nj Tryz.prog (env 84 [] []) (lp 0 (body Tryz.f175) 0) N0:=lk (bu _ _ _) ack (n:=0) [(2,N1),(4,N2)] ⟨Qr,Qs,trivial⟩ (by kernel_rfl) fun k x=>by kernel_rfl
noncomputable def aeF:List (bV×ij):=((175,[]),⟨true,[o11,o2,o2,o2],[o2],u4 vp⟩)::aeE
theorem aaQ:tT Tryz.prog aeF:=fk (bu 84 [] []) ack [(0,N0)] ⟨Qq,trivial⟩ Tryz.func175 (by kernel_rfl) fun x=>by kernel_rfl
noncomputable def OL:eB:=⟨[(1,o2),(11,o2)],[(0,o11),(10,o2)],[(.exit 0,[(0,o11),(10,o2)])],Mb⟩
theorem Rs:nj Tryz.prog (env 168 [] []) (lp 0 (body Tryz.f176) 0) OL:=lk (bu _ _ _) aaQ (n:=0) [] trivial (by kernel_rfl) fun k x=>by kernel_rfl
noncomputable def OM:eB:=⟨[(1,o2),(10,o2)],[(0,o11),(11,o2)],[(.exit 2,[(0,o11),(11,o2)])],Mc⟩
theorem Rt:nj Tryz.prog (env 168 [] []) (lp 0 (body Tryz.f176) 1) OM:=lk (bu _ _ _) aaQ (n:=2) [] trivial (by kernel_rfl) fun k x=>by kernel_rfl
noncomputable def OO:eB:=⟨[(1,o2),(11,o2)],[(0,o11),(10,o2)],[(.exit 6,[(0,o11),(10,o2)])],Mf⟩
theorem Rv:nj Tryz.prog (env 168 [] []) (lp 4 (lp 0 (body Tryz.f176) 2) 0) OO:=lk (bu _ _ _) aaQ (n:=6) [] trivial (by kernel_rfl) fun k x=>by kernel_rfl
noncomputable def OP:eB:=⟨[(1,o2),(10,o2)],[(0,o11),(11,o2)],[(.exit 8,[(0,o11),(11,o2)])],Mg⟩
theorem Rw:nj Tryz.prog (env 168 [] []) (lp 4 (lp 0 (body Tryz.f176) 2) 1) OP:=lk (bu _ _ _) aaQ (n:=8) [] trivial (by kernel_rfl) fun k x=>by kernel_rfl
noncomputable def ON:eB:=⟨[(1,o2)],[(0,o11),(10,o2),(11,o2)],[(.exit 4,[(0,o11),(11,o2)])],Me⟩
theorem Ru:nj Tryz.prog (env 168 [] []) (lp 0 (body Tryz.f176) 2) ON:=lk (bu _ _ _) aaQ (n:=4) [(6,OO),(8,OP)] ⟨Rv,Rw,trivial⟩ (by kernel_rfl) fun k x=>by kernel_rfl
noncomputable def ab3:List (bV×ij):=((176,[]),⟨true,[o11,o2,o2,o2],[o2,o1],u4 b7⟩)::aeF
theorem adz:tT Tryz.prog ab3:=fk (bu 168 [] []) aaQ [(0,OL),(2,OM),(4,ON)] ⟨Rs,Rt,Ru,trivial⟩ Tryz.func176 (by kernel_rfl) fun x=>by kernel_rfl
noncomputable def KG(rec:(List (Int))->Int->Int->Int->Option ((List (Int))×Unit)):ij:=⟨true,[o11,o2,o2,o2],[],u4 rec⟩
noncomputable def Ph(rec:(List (Int))->Int->Int->Int->Option ((List (Int))×Unit)):eB:=⟨[],[(0,o11),(1,o2),(2,o2),(3,o2),(8,o1),(9,o1)],[(.ret,[(0,o11)])],MF rec⟩
theorem R9(rec:(List (Int))->Int->Int->Int->Option ((List (Int))×Unit))(hr:eA Tryz.prog 142 (KG rec)):nj Tryz.prog (env 134 [] []) (lp 0 (body Tryz.f142) 0) (Ph rec):=lk (bu _ _ _) (T:=((142,[]),KG rec)::ab3) ⟨hr,adz⟩ (n:=0) [] trivial (by kernel_rfl) fun k x=>by kernel_rfl
theorem Sn(rec:(List (Int))->Int->Int->Int->Option ((List (Int))×Unit))(hr:eA Tryz.prog 142 (KG rec)):eA Tryz.prog 142 (KG (MV rec)):=(fk (ks:=[]) (bu 134 [] []) (T:=((142,[]),KG rec)::ab3) ⟨hr,adz⟩ [(0,Ph rec)] ⟨(R9 rec hr),trivial⟩ Tryz.func142 (by kernel_rfl) fun x=>by kernel_rfl).1
noncomputable def aeG:List (bV×ij):=((142,[]),KG Nt)::ab3
theorem agt:tT Tryz.prog aeG:=⟨DB (F:=fun n=>KG (K9 n)) (CA (fn:=Tryz.f142) (c:=body Tryz.f142) Tryz.func142 (by kernel_rfl) (by kernel_rfl) (fun _=>rfl)) (fun n h=>Sn (K9 n) h) big,adz⟩
noncomputable def aeH:List (bV×ij):=((105,[]),⟨true,[o11],[],u1 Oe⟩)::aeG
theorem agu:tT Tryz.prog aeH:=fk (bu 11 [] []) agt [] trivial Tryz.func105 (by kernel_rfl) fun x=>by kernel_rfl
noncomputable def aeI:List (bV×ij):=((106,[]),xP 3)::aeH
theorem afm:tT Tryz.prog aeI:=⟨C1 Go.Proofs.Tryz.lays20 3,agu⟩
noncomputable def TH:eB:=⟨[(9,o17),(10,o2)],[(3,o11),(11,o2)],[(.exit 0,[(3,o11)])],RG⟩
theorem WS:nj Tryz.prog (env 25 [] []) (lp 0 (body Tryz.f55) 0) TH:=lk (bu _ _ _) afm (n:=0) [] trivial (by kernel_rfl) fun k x=>by kernel_rfl
noncomputable def aeJ:List (bV×ij):=((55,[]),⟨true,[o17],[o11],u1 Pr⟩)::aeI
theorem agv:tT Tryz.prog aeJ:=fk (bu 25 [] []) afm [(0,TH)] ⟨WS,trivial⟩ Tryz.func55 (by kernel_rfl) fun x=>by kernel_rfl
noncomputable def aeK:List (bV×ij):=((146,[]),⟨true,[o2,o2,.ro t24],[o2],u3 Qm⟩)::aeJ
theorem adA:tT Tryz.prog aeK:=fk (bu 30 [] []) agv [] trivial Tryz.func146 (by kernel_rfl) fun x=>by kernel_rfl
noncomputable def L4:eB:=⟨[(1,o2),(2,o2),(3,.fn 146 [t24]),(8,o2)],[(0,o11),(9,o2)],[(.exit 2,[(0,o11)])],Ma⟩
theorem Oc:nj Tryz.prog (env 53 [] []) (lp 0 (lp 0 (body Tryz.f193) 0) 0) L4:=lk (bu _ _ _) adA (n:=2) [] trivial (by kernel_rfl) fun k x=>by kernel_rfl
noncomputable def L3:eB:=⟨[(1,o2),(2,o2),(3,.fn 146 [t24])],[(0,o11),(8,o2)],[(.exit 0,[(0,o11)])],L9⟩
theorem Oa:nj Tryz.prog (env 53 [] []) (lp 0 (body Tryz.f193) 0) L3:=lk (bu _ _ _) adA (n:=0) [(2,L4)] ⟨Oc,trivial⟩ (by kernel_rfl) fun k x=>by kernel_rfl
noncomputable def aeL:List (bV×ij):=((193,[146]),⟨true,[o11,o2,o2,.fn 146 [t24]],[],u4 K8⟩)::aeK
theorem afn:tT Tryz.prog aeL:=fk (bu 53 [] []) adA [(0,L3)] ⟨Oa,trivial⟩ Tryz.func193 (by kernel_rfl) fun x=>by kernel_rfl
noncomputable def Mt:eB:=⟨[(1,o2),(2,o2),(3,o2)],[(0,o11),(10,o2)],[(.exit 0,[(0,o11)])],MG⟩
theorem OD:nj Tryz.prog (env 38 [] []) (lp 0 (body Tryz.f223) 0) Mt:=lk (bu _ _ _) afn (n:=0) [] trivial (by kernel_rfl) fun k x=>by kernel_rfl
noncomputable def aeM:List (bV×ij):=((223,[146]),⟨true,[o11,o2,o2,o2,.fn 146 [t24]],[],u5 KO⟩)::aeL
theorem afo:tT Tryz.prog aeM:=fk (bu 38 [] []) afn [(0,Mt)] ⟨OD,trivial⟩ Tryz.func223 (by kernel_rfl) fun x=>by kernel_rfl
noncomputable def MW:eB:=⟨[(2,o2),(4,.fn 146 [t24])],[(0,o11),(10,o2),(11,o2)],[(.exit 0,[(0,o11),(10,o2)])],M8⟩
theorem OY:nj Tryz.prog (env 58 [] []) (lp 0 (body Tryz.f209) 0) MW:=lk (bu _ _ _) afo (n:=0) [] trivial (by kernel_rfl) fun k x=>by kernel_rfl
noncomputable def ZC:List (bV×ij):=((209,[146]),⟨true,[o11,o2,o2,o2,.fn 146 [t24]],[],u5 LX⟩)::aeM
theorem Z8:tT Tryz.prog ZC:=fk (bu 58 [] []) afo [(0,MW)] ⟨OY,trivial⟩ Tryz.func209 (by kernel_rfl) fun x=>by kernel_rfl
noncomputable def k6(rec:(List (Int))->Int->Int->Int->(List (Int×Int×Int×Int×Int×Int×Int))->Option ((List (Int))×Unit)):ij:=⟨true,[o11,o2,o2,o2,.fn 146 [t24]],[],u5 rec⟩
noncomputable def MA(rec:(List (Int))->Int->Int->Int->(List (Int×Int×Int×Int×Int×Int×Int))->Option ((List (Int))×Unit)):eB:=⟨[(1,o2),(4,.fn 146 [t24])],[(0,o11),(10,o2),(11,o2)],[(.exit 0,[(0,o11),(10,o2)])],MN rec⟩
theorem OE(rec:(List (Int))->Int->Int->Int->(List (Int×Int×Int×Int×Int×Int×Int))->Option ((List (Int))×Unit))(hr:eA Tryz.prog 194 (k6 rec)):nj Tryz.prog (env 220 [] []) (lp 0 (body Tryz.f194) 0) (MA rec):=lk (bu _ _ _) (T:=((194,[146]),k6 rec)::ZC) ⟨hr,Z8⟩ (n:=0) [] trivial (by kernel_rfl) fun k x=>by kernel_rfl
noncomputable def MB(rec:(List (Int))->Int->Int->Int->(List (Int×Int×Int×Int×Int×Int×Int))->Option ((List (Int))×Unit)):eB:=⟨[(10,o2)],[(0,o11),(13,o2)],[(.exit 2,[(0,o11)])],MO rec⟩
theorem OG(rec:(List (Int))->Int->Int->Int->(List (Int×Int×Int×Int×Int×Int×Int))->Option ((List (Int))×Unit))(hr:eA Tryz.prog 194 (k6 rec)):nj Tryz.prog (env 220 [] []) (lp 0 (body Tryz.f194) 1) (MB rec):=lk (bu _ _ _) (T:=((194,[146]),k6 rec)::ZC) ⟨hr,Z8⟩ (n:=2) [] trivial (by kernel_rfl) fun k x=>by kernel_rfl
noncomputable def MC(rec:(List (Int))->Int->Int->Int->(List (Int×Int×Int×Int×Int×Int×Int))->Option ((List (Int))×Unit)):eB:=⟨[(2,o2),(4,.fn 146 [t24])],[(0,o11),(14,o2),(15,o2)],[(.exit 4,[(0,o11),(14,o2)])],MP rec⟩
theorem OH(rec:(List (Int))->Int->Int->Int->(List (Int×Int×Int×Int×Int×Int×Int))->Option ((List (Int))×Unit))(hr:eA Tryz.prog 194 (k6 rec)):nj Tryz.prog (env 220 [] []) (lp 0 (body Tryz.f194) 2) (MC rec):=lk (bu _ _ _) (T:=((194,[146]),k6 rec)::ZC) ⟨hr,Z8⟩ (n:=4) [] trivial (by kernel_rfl) fun k x=>by kernel_rfl
noncomputable def MD(rec:(List (Int))->Int->Int->Int->(List (Int×Int×Int×Int×Int×Int×Int))->Option ((List (Int))×Unit)):eB:=⟨[(14,o2)],[(0,o11),(17,o2)],[(.exit 6,[(0,o11)])],MQ rec⟩
theorem OI(rec:(List (Int))->Int->Int->Int->(List (Int×Int×Int×Int×Int×Int×Int))->Option ((List (Int))×Unit))(hr:eA Tryz.prog 194 (k6 rec)):nj Tryz.prog (env 220 [] []) (lp 0 (body Tryz.f194) 3) (MD rec):=lk (bu _ _ _) (T:=((194,[146]),k6 rec)::ZC) ⟨hr,Z8⟩ (n:=6) [] trivial (by kernel_rfl) fun k x=>by kernel_rfl
noncomputable def ME(rec:(List (Int))->Int->Int->Int->(List (Int×Int×Int×Int×Int×Int×Int))->Option ((List (Int))×Unit)):eB:=⟨[(1,o2),(2,o2),(3,o2),(4,.fn 146 [t24]),(18,o2),(19,o2),(22,o2)],[(0,o11),(20,o2),(21,o2)],[(.exit 8,[(0,o11),(20,o2)])],Lm rec⟩
theorem OJ(rec:(List (Int))->Int->Int->Int->(List (Int×Int×Int×Int×Int×Int×Int))->Option ((List (Int))×Unit))(hr:eA Tryz.prog 194 (k6 rec)):nj Tryz.prog (env 220 [] []) (lp 0 (body Tryz.f194) 4) (ME rec):=lk (bu _ _ _) (T:=((194,[146]),k6 rec)::ZC) ⟨hr,Z8⟩ (n:=8) [] trivial (by kernel_rfl) fun k x=>by kernel_rfl
theorem OS(rec:(List (Int))->Int->Int->Int->(List (Int×Int×Int×Int×Int×Int×Int))->Option ((List (Int))×Unit))(hr:eA Tryz.prog 194 (k6 rec)):eA Tryz.prog 194 (k6 (M0 rec)):=(fk (ks:=[]) (bu 220 [] []) (T:=((194,[146]),k6 rec)::ZC) ⟨hr,Z8⟩ [(0,MA rec),(2,MB rec),(4,MC rec),(6,MD rec),(8,ME rec)] ⟨(OE rec hr),(OG rec hr),(OH rec hr),(OI rec hr),(OJ rec hr),trivial⟩ Tryz.func194 (by kernel_rfl) fun x=>by kernel_rfl).1
noncomputable def aeN:List (bV×ij):=((194,[146]),k6 LH)::ZC
theorem acm:tT Tryz.prog aeN:=⟨DB (F:=fun n=>k6 (KH n)) (CA (fn:=Tryz.f194) (c:=body Tryz.f194) Tryz.func194 (by kernel_rfl) (by kernel_rfl) (fun _=>rfl)) (fun n h=>OS (KH n) h) big,Z8⟩
noncomputable def MX:eB:=⟨[(1,o2),(2,.fn 146 [t24]),(6,o2)],[(0,o11),(7,o2),(8,o2)],[(.exit 0,[(0,o11),(7,o2)])],M9⟩
theorem OZ:nj Tryz.prog (env 63 [] []) (lp 0 (body Tryz.f179) 0) MX:=lk (bu _ _ _) acm (n:=0) [] trivial (by kernel_rfl) fun k x=>by kernel_rfl
noncomputable def MZ:eB:=⟨[(1,o2),(2,.fn 146 [t24]),(6,o2)],[(0,o11),(7,o2),(8,o2)],[(.exit 4,[(0,o11),(7,o2)])],Nb⟩
theorem O1:nj Tryz.prog (env 63 [] []) (lp 2 (lp 0 (body Tryz.f179) 1) 0) MZ:=lk (bu _ _ _) acm (n:=4) [] trivial (by kernel_rfl) fun k x=>by kernel_rfl
noncomputable def MY:eB:=⟨[(1,o2),(2,.fn 146 [t24])],[(0,o11),(6,o2)],[(.exit 2,[(0,o11)])],Na⟩
theorem O0:nj Tryz.prog (env 63 [] []) (lp 0 (body Tryz.f179) 1) MY:=lk (bu _ _ _) acm (n:=2) [(4,MZ)] ⟨O1,trivial⟩ (by kernel_rfl) fun k x=>by kernel_rfl
noncomputable def aeO:List (bV×ij):=((179,[146]),⟨true,[o11,o2,.fn 146 [t24]],[],u3 NB⟩)::aeN
theorem agw:tT Tryz.prog aeO:=fk (bu 63 [] []) acm [(0,MX),(2,MY)] ⟨OZ,O0,trivial⟩ Tryz.func179 (by kernel_rfl) fun x=>by kernel_rfl
noncomputable def aeP:List (bV×ij):=((145,[146]),⟨true,[o11,.fn 146 [t24]],[],u2 Mu⟩)::aeO
theorem afp:tT Tryz.prog aeP:=fk (bu 9 [] []) agw [] trivial Tryz.func145 (by kernel_rfl) fun x=>by kernel_rfl
noncomputable def U8:eB:=⟨[(9,o2)],[(1,.blk [v9]),(3,o11),(10,o2)],[(.exit 0,[(1,.blk [v9]),(3,o11)])],VU⟩
theorem Xu:nj Tryz.prog (env 22 [] []) (lp 0 (body Tryz.f108) 0) U8:=lk (bu _ _ _) afp (n:=0) [] trivial (by kernel_rfl) fun k x=>by kernel_rfl
noncomputable def aeQ:List (bV×ij):=((108,[]),⟨true,[o17],[o11],u1 Xr⟩)::aeP
theorem afq:tT Tryz.prog aeQ:=fk (bu 22 [] []) afp [(0,U8)] ⟨Xu,trivial⟩ Tryz.func108 (by kernel_rfl) fun x=>by kernel_rfl
noncomputable def VH:eB:=⟨[(0,o17),(1,o2),(13,o2)],[(4,a19),(5,a19),(12,o11),(14,o2)],[(.exit 0,[(4,a19),(5,a19)])],Wb⟩
theorem XO:nj Tryz.prog (env 71 [] []) (lp 0 (body Tryz.f57) 0) VH:=lk (bu _ _ _) afq (n:=0) [] trivial (by kernel_rfl) fun k x=>by kernel_rfl
noncomputable def aeR:List (bV×ij):=((57,[]),⟨true,[o17,o2],[a11],u2 Yb⟩)::aeQ
theorem afr:tT Tryz.prog aeR:=fk (bu 71 [] []) afq [(0,VH)] ⟨XO,trivial⟩ Tryz.func57 (by kernel_rfl) fun x=>by kernel_rfl
noncomputable def Ve:eB:=⟨[(1,o2),(7,o10),(8,o2)],[(9,o2)],[(.ret,[(4,o1)]),(.exit 0,[])],VX⟩
theorem XA:nj Tryz.prog (env 24 [] []) (lp 0 (body Tryz.f119) 0) Ve:=lk (bu _ _ _) afr (n:=0) [] trivial (by kernel_rfl) fun k x=>by kernel_rfl
noncomputable def aeS:List (bV×ij):=((119,[]),⟨true,[o10,o2],[o1],u2 Vy⟩)::aeR
theorem agx:tT Tryz.prog aeS:=fk (bu 24 [] []) afr [(0,Ve)] ⟨XA,trivial⟩ Tryz.func119 (by kernel_rfl) fun x=>by kernel_rfl
noncomputable def aeT:List (bV×ij):=((69,[]),⟨true,[.agg [v6,v6],o2],[o1],u3 Yd⟩)::aeS
theorem afs:tT Tryz.prog aeT:=fk (bu 17 [] []) agx [] trivial Tryz.func69 (by kernel_rfl) fun x=>by kernel_rfl
noncomputable def TG:eB:=⟨[(2,o2),(3,.ro t11)],[(7,o2),(8,o2)],[(.exit 0,[(7,o2)])],UN⟩
theorem WR:nj Tryz.prog (env 34 [] []) (lp 0 (body Tryz.f22) 0) TG:=lk (bu _ _ _) afs (n:=0) [] trivial (by kernel_rfl) fun k x=>by kernel_rfl
noncomputable def aeU:List (bV×ij):=((22,[]),⟨true,[.agg [v6,v6],o2,o2],[o2],u4 We⟩)::aeT
theorem agy:tT Tryz.prog aeU:=fk (bu 34 [] []) afs [(0,TG)] ⟨WR,trivial⟩ Tryz.func22 (by kernel_rfl) fun x=>by kernel_rfl
noncomputable def aeV:List (bV×ij):=((144,[]),⟨true,[a1,o2,o2],[o2],u10 Xs⟩)::aeU
theorem agz:tT Tryz.prog aeV:=fk (bu 30 [] []) agy [] trivial Tryz.func144 (by kernel_rfl) fun x=>by kernel_rfl
noncomputable def aeW:List (bV×ij):=((107,[]),⟨true,[.agg [v6,v6],a1,o2,o2,o2,o2],[o2],u14 YB⟩)::aeV
theorem agA:tT Tryz.prog aeW:=fk (bu 60 [] []) agz [] trivial Tryz.func107 (by kernel_rfl) fun x=>by kernel_rfl
noncomputable def aeX:List (bV×ij):=((56,[]),⟨true,[a13,a14,a11],[o1],u35 Y6⟩)::aeW
theorem adB:tT Tryz.prog aeX:=fk (bu 82 [] []) agA [] trivial Tryz.func56 (by kernel_rfl) fun x=>by kernel_rfl
noncomputable def Uu:eB:=⟨[(1,.ro t25),(18,o2)],[(3,o22),(17,o11),(19,o2)],[(.ret,[(2,o1)]),(.exit 0,[(3,o22)])],Sg⟩
theorem W8:nj Tryz.prog (env 46 [] []) (lp 0 (body Tryz.f12) 0) Uu:=lk (bu _ _ _) adB (n:=0) [] trivial (by kernel_rfl) fun k x=>by kernel_rfl
noncomputable def Uv:eB:=⟨[(1,.ro t25),(30,o19),(31,o2)],[(3,o22),(32,o2)],[(.ret,[(2,o1)]),(.exit 2,[])],Si⟩
theorem W9:nj Tryz.prog (env 46 [] []) (lp 0 (body Tryz.f12) 1) Uv:=lk (bu _ _ _) adB (n:=2) [] trivial (by kernel_rfl) fun k x=>by kernel_rfl
noncomputable def aeY:List (bV×ij):=((12,[]),⟨true,[a13],[o1],u15 SA⟩)::aeX
theorem aft:tT Tryz.prog aeY:=fk (bu 46 [] []) adB [(0,Uu),(2,Uv)] ⟨W8,W9,trivial⟩ Tryz.func12 (by kernel_rfl) fun x=>by kernel_rfl
noncomputable def VI:eB:=⟨[(10,o19),(11,o2)],[(3,o2),(12,o2)],[(.exit 0,[(3,o2)])],TY⟩
theorem XP:nj Tryz.prog (env 22 [] []) (lp 0 (body Tryz.f13) 0) VI:=lk (bu _ _ _) aft (n:=0) [] trivial (by kernel_rfl) fun k x=>by kernel_rfl
noncomputable def aeZ:List (bV×ij):=((13,[]),⟨true,[a13],[o2],u15 UJ⟩)::aeY
theorem afu:tT Tryz.prog aeZ:=fk (bu 22 [] []) aft [(0,VI)] ⟨XP,trivial⟩ Tryz.func13 (by kernel_rfl) fun x=>by kernel_rfl
noncomputable def Rz:eB:=⟨[],[(6,o8),(7,o9),(10,a16),(12,o2)],[(.ret,[(2,o1)]),(.exit 0,[(6,o8),(10,a16)])],OC⟩
theorem Vr:nj Tryz.prog (env 100 [] []) (lp 0 (body Tryz.f3) 0) Rz:=lk (bu _ _ _) afu (n:=0) [] trivial (by kernel_rfl) fun k x=>by kernel_rfl
noncomputable def NU:ij:=⟨true,[o0],[o1],u1 Re⟩
noncomputable def afX:List (bV×ij):=((3,[]),NU)::aeZ
theorem agB:tT Tryz.prog afX:=fk (bu 100 [] []) afu [(0,Rz)] ⟨Vr,trivial⟩ Tryz.func3 (by kernel_rfl) fun x=>by kernel_rfl
theorem V5:eA Tryz.prog 3 NU:=agB.1
end Go.Proofs.YtajokmncfidfjaaGreat.fnNewNetworks

