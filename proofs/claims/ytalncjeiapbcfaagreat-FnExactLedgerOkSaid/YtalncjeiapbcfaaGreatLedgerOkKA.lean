/- What each function that the law FnExactLedgerOk reaches promises: it computes what its plain function says. Conditions: none. -/
import Derived.Test.YtalncjeiapbcfaaGreatRows
import Derived.Test.YtalncjeiapbcfaaGreatLedgerOkQD
import Derived.Test.YtalncjeiapbcfaaGreatLedgerOkS20
import Derived.KernelRfl
set_option linter.unusedVariables false
set_option linter.unusedSimpArgs false
namespace Go.Proofs.YtalncjeiapbcfaaGreat.fnExactLedgerOk
open Go.R Go.Fn
set_option maxRecDepth 100000
abbrev t0:aJ:=.cons (.int .i64) .nil
abbrev t1:aJ:=.cons .bool .nil
abbrev t2:aJ:=.cons (.int .u8) .nil
abbrev t3:aJ:=.cons (.int .i64) (.cons (.int .i64) (.cons .bool (.cons (.int .u8) .nil)))
abbrev t4:aJ:=.cons .str .nil
abbrev t5:aJ:=.cons (.int .u64) .nil
abbrev t6:aJ:=.cons .str (.cons (.int .u64) .nil)
abbrev t7:aJ:=.cons (.int .i32) .nil
abbrev t8:aJ:=.cons (.int .i64) (.cons (.int .i64) (.cons (.int .i64) (.cons (.int .i64) (.cons (.int .i64) (.cons (.int .i64) (.cons (.int .i64) (.cons (.int .i64) .nil)))))))
abbrev t9:aJ:=.cons (.int .i64) (.cons (.int .i64) .nil)
abbrev t10:aJ:=.cons (.int .i64) (.cons (.int .i64) (.cons (.int .i64) (.cons .bool .nil)))
abbrev t11:aJ:=.cons (.int .i64) (.cons (.sl 3 t0) (.cons (.sl 200 t10) .nil))
abbrev t12:aJ:=.cons (.int .i64) (.cons (.int .i64) (.cons (.int .i64) (.cons (.int .i64) (.cons (.int .i64) (.cons (.int .i64) (.cons (.int .i64) .nil))))))
abbrev t13:aJ:=.cons (.sl 183 t9) (.cons (.sl 183 t9) (.cons (.sl 141 t11) (.cons (.int .i64) (.cons (.int .i64) (.cons .bool (.cons .bool (.cons .bool (.cons (.int .i64) (.cons (.int .i64) (.cons (.sl 100 t12) .nil))))))))))
abbrev t14:aJ:=.cons (.sl 79 t13) .nil
abbrev t15:aJ:=.cons (.int .i64) (.cons (.int .i64) (.cons (.int .i64) (.cons (.int .i64) (.cons (.int .i64) (.cons (.int .i64) (.cons (.int .i64) (.cons (.int .i64) (.cons (.int .i64) (.cons (.int .i64) (.cons (.int .i64) (.cons (.int .i64) (.cons (.int .i64) .nil))))))))))))
abbrev t16:aJ:=.cons (.sl 94 t15) .nil
abbrev t17:aJ:=.cons (.int .i64) (.cons (.int .i64) (.cons (.int .i64) (.cons (.int .i64) (.cons (.int .i64) (.cons (.int .i64) (.cons .bool .nil))))))
abbrev t18:aJ:=.cons (.sl 98 t17) .nil
abbrev t19:aJ:=.cons (.sl 100 t12) .nil
abbrev t20:aJ:=.cons (.int .i64) (.cons (.int .i64) (.cons (.int .i64) (.cons (.int .i64) (.cons (.int .i64) (.cons (.int .i64) (.cons (.int .i64) (.cons (.int .i64) (.cons (.int .i64) (.cons (.int .i64) (.cons (.int .i64) (.cons (.sl 79 t13) (.cons (.sl 94 t15) (.cons (.sl 98 t17) (.cons (.sl 100 t12) .nil))))))))))))))
abbrev t21:aJ:=.cons (.int .i64) (.cons (.sl 3 t0) (.cons (.sl 151 t10) .nil))
abbrev t22:aJ:=.cons (.sl 181 t9) (.cons (.sl 181 t9) (.cons (.sl 149 t21) (.cons (.int .i64) (.cons (.int .i64) (.cons .bool (.cons .bool (.cons .bool (.cons (.int .i64) (.cons (.int .i64) (.cons (.sl 49 t12) .nil))))))))))
abbrev t23:aJ:=.cons (.sl 88 t22) .nil
abbrev t24:aJ:=.cons (.sl 64 t15) .nil
abbrev t25:aJ:=.cons (.sl 96 t17) .nil
abbrev t26:aJ:=.cons (.sl 49 t12) .nil
abbrev t27:aJ:=.cons (.int .i64) (.cons (.int .i64) (.cons (.int .i64) (.cons (.int .i64) (.cons (.int .i64) (.cons (.int .i64) (.cons (.int .i64) (.cons (.int .i64) (.cons (.int .i64) (.cons (.int .i64) (.cons (.int .i64) (.cons (.sl 88 t22) (.cons (.sl 64 t15) (.cons (.sl 96 t17) (.cons (.sl 49 t12) .nil))))))))))))))
abbrev t28:aJ:=.cons (.sl 3 t0) .nil
abbrev t29:aJ:=.cons (.int .i64) (.cons (.int .i64) (.cons (.int .i64) (.cons (.int .i64) (.cons (.int .i64) .nil))))
abbrev t30:aJ:=.cons (.sl 183 t9) .nil
abbrev t31:aJ:=.cons (.sl 183 t9) (.cons (.sl 183 t9) .nil)
abbrev t32:aJ:=.cons (.sl 141 t11) .nil
abbrev t33:aJ:=.cons (.int .i64) (.cons (.int .i64) (.cons .bool (.cons .bool (.cons .bool .nil))))
abbrev t34:aJ:=.cons (.sl 181 t9) .nil
abbrev t35:aJ:=.cons (.sl 181 t9) (.cons (.sl 181 t9) .nil)
abbrev t36:aJ:=.cons (.sl 149 t21) .nil
abbrev t37:aJ:=.cons (.sl 200 t10) .nil
abbrev t38:aJ:=.cons (.sl 151 t10) .nil
abbrev t39:aJ:=.cons (.int .u32) .nil
abbrev v0:K:=.val (.sl 183 t9)
abbrev v1:K:=.val (.int .i64)
abbrev v2:K:=.val (.sl 3 t0)
abbrev v3:K:=.val (.sl 200 t10)
abbrev v4:K:=.val (.sl 141 t11)
abbrev v5:K:=.val (.sl 100 t12)
abbrev v6:K:=.val .bool
abbrev v7:K:=.val (.sl 79 t13)
abbrev v8:K:=.val (.sl 94 t15)
abbrev v9:K:=.val (.sl 98 t17)
abbrev v10:K:=.val (.sl 96 t17)
abbrev v11:K:=.val (.sl 49 t12)
abbrev v12:K:=.val (.sl 181 t9)
abbrev v13:K:=.val (.sl 151 t10)
abbrev v14:K:=.val (.sl 149 t21)
abbrev v15:K:=.val (.sl 88 t22)
abbrev v16:K:=.val (.sl 64 t15)
abbrev v17:K:=.val (.int .u32)
abbrev v18:K:=.val (.int .u64)
abbrev v19:K:=.arr 181 t9 false
abbrev v20:K:=.arr 3 t0 false
abbrev v21:K:=.arr 151 t10 false
abbrev v22:K:=.arr 149 t21 true
abbrev v23:K:=.arr 49 t12 false
abbrev v24:K:=.arr 88 t22 true
abbrev v25:K:=.arr 64 t15 false
abbrev v26:K:=.arr 96 t17 false
abbrev o0:Sh:=.one v0
abbrev o1:Sh:=.one v1
abbrev o2:Sh:=.one v2
abbrev o3:Sh:=.one v3
abbrev o4:Sh:=.one v4
abbrev o5:Sh:=.one v5
abbrev o6:Sh:=.one v7
abbrev o7:Sh:=.one v8
abbrev o8:Sh:=.one v9
abbrev o9:Sh:=.one v19
abbrev o10:Sh:=.one v20
abbrev o11:Sh:=.one v21
abbrev o12:Sh:=.one v22
abbrev o13:Sh:=.one v23
abbrev o14:Sh:=.one v24
abbrev o15:Sh:=.one v25
abbrev o16:Sh:=.one v26
abbrev o17:Sh:=.one v6
abbrev o18:Sh:=.one v10
abbrev o19:Sh:=.one v11
abbrev o20:Sh:=.one v12
abbrev o21:Sh:=.one v14
abbrev o22:Sh:=.one v13
abbrev o23:Sh:=.one v15
abbrev o24:Sh:=.one v16
abbrev o25:Sh:=.one v17
abbrev o26:Sh:=.one v18
abbrev a0:Sh:=.agg [v1,v2,v3]
abbrev a1:Sh:=.agg [v0,v0,v4,v1,v1,v6,v6,v6,v1,v1,v5]
abbrev a2:Sh:=.agg [v1,v1,v1,v1,v1,v1,v1,v1,v1,v1,v1,v7,v8,v9,v5]
abbrev a3:Sh:=.agg [v1,v1,v1,v1,v1,v1,v1,v1]
abbrev a4:Sh:=.agg [v1,v1,v1,v6]
abbrev a5:Sh:=.agg [v1,v1,v6,v6,v6]
abbrev a6:Sh:=.agg [v1,v1,v1,v1,v1,v1,v1]
abbrev a7:Sh:=.agg [v1,v1,v1,v1,v1]
abbrev a8:Sh:=.agg [v1,v1,v1,v1,v1,v1,v1,v1,v1,v1,v1,v1,v1]
abbrev a9:Sh:=.agg [v1,v1,v1,v1,v1,v1,v6]
abbrev a10:Sh:=.agg [v12,v12]
abbrev a11:Sh:=.blk [v1,v1,v1,v6]
abbrev a12:Sh:=.agg [v1,v2,v13]
abbrev a13:Sh:=.agg [v1,v1,v1,v1,v1,v1,v1,v1,v1,v1,v1,v15,v16,v10,v11]
abbrev a14:Sh:=.blk [v1,v1,v1,v1,v1,v1,v1]
abbrev a15:Sh:=.agg [v12,v12,v14,v1,v1,v6,v6,v6,v1,v1,v11]
noncomputable def table:List (Nat×TI):=[(2,⟨t0,false,8,[],none⟩),
 (3,⟨t0,false,8,[],none⟩),
 (4,⟨t1,false,1,[],none⟩),
 (5,⟨t2,false,1,[],none⟩),
 (6,⟨t2,false,1,[],none⟩),
 (7,⟨t3,true,24,[(0,1,false),(1,1,false),(2,1,false),(3,1,false)],none⟩),
 (8,⟨t3,true,24,[(0,1,false),(1,1,false),(2,1,false),(3,1,false)],none⟩),
 (9,⟨t4,false,16,[],none⟩),
 (10,⟨t4,false,16,[],none⟩),
 (11,⟨t4,false,16,[],none⟩),
 (12,⟨t5,false,8,[],none⟩),
 (13,⟨t6,true,24,[(0,1,false),(1,1,false)],none⟩),
 (14,⟨t6,true,24,[(0,1,false),(1,1,false)],none⟩),
 (21,⟨t7,false,4,[],none⟩),
 (22,⟨t8,true,64,[(0,1,false),(1,1,false),(2,1,false),(3,1,false),(4,1,false),(5,1,false),(6,1,false),(7,1,false)],none⟩),
 (23,⟨t8,true,64,[(0,1,false),(1,1,false),(2,1,false),(3,1,false),(4,1,false),(5,1,false),(6,1,false),(7,1,false)],none⟩),
 (24,⟨t14,false,24,[],some 79⟩),
 (25,⟨t16,false,24,[],some 94⟩),
 (26,⟨t18,false,24,[],some 98⟩),
 (27,⟨t19,false,24,[],some 100⟩),
 (28,⟨t20,true,184,[(0,8,true),(8,1,false),(9,1,false),(10,1,false),(11,1,false),(12,1,false),(13,1,false),(14,1,false)],none⟩),
 (29,⟨t20,true,184,[(0,8,true),(8,1,false),(9,1,false),(10,1,false),(11,1,false),(12,1,false),(13,1,false),(14,1,false)],none⟩),
 (32,⟨t8,true,64,[(0,1,false),(1,1,false),(2,1,false),(3,1,false),(4,1,false),(5,1,false),(6,1,false),(7,1,false)],none⟩),
 (33,⟨t23,false,24,[],some 88⟩),
 (34,⟨t24,false,24,[],some 64⟩),
 (35,⟨t25,false,24,[],some 96⟩),
 (36,⟨t26,false,24,[],some 49⟩),
 (37,⟨t27,true,184,[(0,8,true),(8,1,false),(9,1,false),(10,1,false),(11,1,false),(12,1,false),(13,1,false),(14,1,false)],none⟩),
 (38,⟨t27,true,184,[(0,8,true),(8,1,false),(9,1,false),(10,1,false),(11,1,false),(12,1,false),(13,1,false),(14,1,false)],none⟩),
 (48,⟨t12,true,56,[(0,1,false),(1,1,false),(2,1,false),(3,1,false),(4,1,false),(5,1,false),(6,1,false)],none⟩),
 (49,⟨t12,true,56,[(0,1,false),(1,1,false),(2,1,false),(3,1,false),(4,1,false),(5,1,false),(6,1,false)],none⟩),
 (51,⟨t12,true,56,[(0,1,false),(1,1,false),(2,1,false),(3,1,false),(4,1,false),(5,1,false),(6,1,false)],none⟩),
 (52,⟨t12,true,56,[(0,1,false),(1,1,false),(2,1,false),(3,1,false),(4,1,false),(5,1,false),(6,1,false)],none⟩),
 (59,⟨t28,false,24,[],some 3⟩),
 (61,⟨t29,true,40,[(0,1,false),(1,1,false),(2,1,false),(3,1,false),(4,1,false)],none⟩),
 (62,⟨t29,true,40,[(0,1,false),(1,1,false),(2,1,false),(3,1,false),(4,1,false)],none⟩),
 (63,⟨t15,true,104,[(0,1,false),(1,1,false),(2,1,false),(3,1,false),(4,1,false),(5,1,false),(6,5,true),(11,1,false),(12,1,false)],none⟩),
 (64,⟨t15,true,104,[(0,1,false),(1,1,false),(2,1,false),(3,1,false),(4,1,false),(5,1,false),(6,5,true),(11,1,false),(12,1,false)],none⟩),
 (72,⟨t30,false,24,[],some 183⟩),
 (73,⟨t31,true,48,[(0,1,false),(1,1,false)],none⟩),
 (74,⟨t31,true,48,[(0,1,false),(1,1,false)],none⟩),
 (75,⟨t32,false,24,[],some 141⟩),
 (76,⟨t33,true,24,[(0,1,false),(1,1,false),(2,1,false),(3,1,false),(4,1,false)],none⟩),
 (77,⟨t33,true,24,[(0,1,false),(1,1,false),(2,1,false),(3,1,false),(4,1,false)],none⟩),
 (78,⟨t13,true,136,[(0,2,true),(2,1,false),(3,5,true),(8,1,false),(9,1,false),(10,1,false)],none⟩),
 (79,⟨t13,true,136,[(0,2,true),(2,1,false),(3,5,true),(8,1,false),(9,1,false),(10,1,false)],none⟩),
 (82,⟨t34,false,24,[],some 181⟩),
 (83,⟨t35,true,48,[(0,1,false),(1,1,false)],none⟩),
 (84,⟨t35,true,48,[(0,1,false),(1,1,false)],none⟩),
 (85,⟨t36,false,24,[],some 149⟩),
 (86,⟨t33,true,24,[(0,1,false),(1,1,false),(2,1,false),(3,1,false),(4,1,false)],none⟩),
 (87,⟨t22,true,136,[(0,2,true),(2,1,false),(3,5,true),(8,1,false),(9,1,false),(10,1,false)],none⟩),
 (88,⟨t22,true,136,[(0,2,true),(2,1,false),(3,5,true),(8,1,false),(9,1,false),(10,1,false)],none⟩),
 (92,⟨t29,true,40,[(0,1,false),(1,1,false),(2,1,false),(3,1,false),(4,1,false)],none⟩),
 (93,⟨t15,true,104,[(0,1,false),(1,1,false),(2,1,false),(3,1,false),(4,1,false),(5,1,false),(6,5,true),(11,1,false),(12,1,false)],none⟩),
 (94,⟨t15,true,104,[(0,1,false),(1,1,false),(2,1,false),(3,1,false),(4,1,false),(5,1,false),(6,5,true),(11,1,false),(12,1,false)],none⟩),
 (95,⟨t17,true,56,[(0,1,false),(1,1,false),(2,1,false),(3,1,false),(4,1,false),(5,1,false),(6,1,false)],none⟩),
 (96,⟨t17,true,56,[(0,1,false),(1,1,false),(2,1,false),(3,1,false),(4,1,false),(5,1,false),(6,1,false)],none⟩),
 (98,⟨t17,true,56,[(0,1,false),(1,1,false),(2,1,false),(3,1,false),(4,1,false),(5,1,false),(6,1,false)],none⟩),
 (100,⟨t12,true,56,[(0,1,false),(1,1,false),(2,1,false),(3,1,false),(4,1,false),(5,1,false),(6,1,false)],none⟩),
 (128,⟨t5,false,8,[],none⟩),
 (139,⟨t37,false,24,[],some 200⟩),
 (140,⟨t11,true,56,[(0,1,false),(1,1,false),(2,1,false)],none⟩),
 (141,⟨t11,true,56,[(0,1,false),(1,1,false),(2,1,false)],none⟩),
 (147,⟨t38,false,24,[],some 151⟩),
 (148,⟨t21,true,56,[(0,1,false),(1,1,false),(2,1,false)],none⟩),
 (149,⟨t21,true,56,[(0,1,false),(1,1,false),(2,1,false)],none⟩),
 (150,⟨t10,true,32,[(0,1,false),(1,1,false),(2,1,false),(3,1,false)],none⟩),
 (151,⟨t10,true,32,[(0,1,false),(1,1,false),(2,1,false),(3,1,false)],none⟩),
 (161,⟨t0,false,8,[],none⟩),
 (170,⟨t39,false,4,[],none⟩),
 (172,⟨t5,false,8,[],none⟩),
 (180,⟨t9,true,16,[(0,1,false),(1,1,false)],none⟩),
 (181,⟨t9,true,16,[(0,1,false),(1,1,false)],none⟩),
 (183,⟨t9,true,16,[(0,1,false),(1,1,false)],none⟩),
 (188,⟨t5,false,8,[],none⟩),
 (200,⟨t10,true,32,[(0,1,false),(1,1,false),(2,1,false),(3,1,false)],none⟩),
 (220,⟨t2,false,1,[],none⟩),
 (221,⟨t2,false,1,[],none⟩),
 (224,⟨t7,false,4,[],none⟩),
 (225,⟨t7,false,4,[],none⟩)]
theorem abt:Cs Tryz.prog table=true:=by kernel_rfl
noncomputable def E8:List Nat:=[52,86,62,49]
theorem acO:(E8.all fun t=>vB Tryz.prog (uE table) t)=true:=by kernel_rfl
noncomputable def maps:List (Nat×IntKind):=[(186,.i64)]
theorem abX:(maps.all fun p=>Ct Tryz.prog p.1 p.2)=true:=by kernel_rfl
noncomputable def env(nt:Nat)(tr dp:List Nat):Env:={ ti:=uE table,deep:=fun d=>dp.any (Nat.beq d),trunc:=fun d=>tr.any (Nat.beq d),ro:=fun _=>false,EJ:=fun t=>E8.any (Nat.beq t),mp:=w4 maps,nt:=nt }
theorem bt(nt:Nat)(tr dp:List Nat):cm Tryz.prog (env nt tr dp):=DD (by kernel_rfl) abt acO abX _ rfl (fun _=>rfl) rfl
noncomputable def u1{A0 B C:Type}(f:A0->C)(x:A0×B):C:=f x.1
noncomputable def u2{A0 A1 B C:Type}(f:A0->A1->C)(x:A0×A1×B):C:=f x.1 x.2.1
noncomputable def u3{A0 A1 A2 B C:Type}(f:A0->A1->A2->C)(x:A0×A1×A2×B):C:=f x.1 x.2.1 x.2.2.1
noncomputable def u4{A0 A1 A2 A3 B C:Type}(f:A0->A1->A2->A3->C)(x:A0×A1×A2×A3×B):C:=f x.1 x.2.1 x.2.2.1 x.2.2.2.1
noncomputable def u5{A0 A1 A2 A3 A4 B C:Type}(f:A0->A1->A2->A3->A4->C)(x:A0×A1×A2×A3×A4×B):C:=f x.1 x.2.1 x.2.2.1 x.2.2.2.1 x.2.2.2.2.1
noncomputable def u6{A0 A1 A2 A3 A4 A5 B C:Type}(f:A0->A1->A2->A3->A4->A5->C)(x:A0×A1×A2×A3×A4×A5×B):C:=f x.1 x.2.1 x.2.2.1 x.2.2.2.1 x.2.2.2.2.1 x.2.2.2.2.2.1
noncomputable def u7{A0 A1 A2 A3 A4 A5 A6 B C:Type}(f:A0->A1->A2->A3->A4->A5->A6->C)(x:A0×A1×A2×A3×A4×A5×A6×B):C:=f x.1 x.2.1 x.2.2.1 x.2.2.2.1 x.2.2.2.2.1 x.2.2.2.2.2.1 x.2.2.2.2.2.2.1
noncomputable def u8{A0 A1 A2 A3 A4 A5 A6 A7 B C:Type}(f:A0->A1->A2->A3->A4->A5->A6->A7->C)(x:A0×A1×A2×A3×A4×A5×A6×A7×B):C:=f x.1 x.2.1 x.2.2.1 x.2.2.2.1 x.2.2.2.2.1 x.2.2.2.2.2.1 x.2.2.2.2.2.2.1 x.2.2.2.2.2.2.2.1
noncomputable def u10{A0 A1 A2 A3 A4 A5 A6 A7 A8 A9 B C:Type}(f:A0->A1->A2->A3->A4->A5->A6->A7->A8->A9->C)(x:A0×A1×A2×A3×A4×A5×A6×A7×A8×A9×B):C:=f x.1 x.2.1 x.2.2.1 x.2.2.2.1 x.2.2.2.2.1 x.2.2.2.2.2.1 x.2.2.2.2.2.2.1 x.2.2.2.2.2.2.2.1 x.2.2.2.2.2.2.2.2.1 x.2.2.2.2.2.2.2.2.2.1
noncomputable def u11{A0 A1 A2 A3 A4 A5 A6 A7 A8 A9 U4 B C:Type}(f:A0->A1->A2->A3->A4->A5->A6->A7->A8->A9->U4->C)(x:A0×A1×A2×A3×A4×A5×A6×A7×A8×A9×U4×B):C:=f x.1 x.2.1 x.2.2.1 x.2.2.2.1 x.2.2.2.2.1 x.2.2.2.2.2.1 x.2.2.2.2.2.2.1 x.2.2.2.2.2.2.2.1 x.2.2.2.2.2.2.2.2.1 x.2.2.2.2.2.2.2.2.2.1 x.2.2.2.2.2.2.2.2.2.2.1
noncomputable def u12{A0 A1 A2 A3 A4 A5 A6 A7 A8 A9 U4 VN B C:Type}(f:A0->A1->A2->A3->A4->A5->A6->A7->A8->A9->U4->VN->C)(x:A0×A1×A2×A3×A4×A5×A6×A7×A8×A9×U4×VN×B):C:=f x.1 x.2.1 x.2.2.1 x.2.2.2.1 x.2.2.2.2.1 x.2.2.2.2.2.1 x.2.2.2.2.2.2.1 x.2.2.2.2.2.2.2.1 x.2.2.2.2.2.2.2.2.1 x.2.2.2.2.2.2.2.2.2.1 x.2.2.2.2.2.2.2.2.2.2.1 x.2.2.2.2.2.2.2.2.2.2.2.1
noncomputable def u13{A0 A1 A2 A3 A4 A5 A6 A7 A8 A9 U4 VN We B C:Type}(f:A0->A1->A2->A3->A4->A5->A6->A7->A8->A9->U4->VN->We->C)(x:A0×A1×A2×A3×A4×A5×A6×A7×A8×A9×U4×VN×We×B):C:=f x.1 x.2.1 x.2.2.1 x.2.2.2.1 x.2.2.2.2.1 x.2.2.2.2.2.1 x.2.2.2.2.2.2.1 x.2.2.2.2.2.2.2.1 x.2.2.2.2.2.2.2.2.1 x.2.2.2.2.2.2.2.2.2.1 x.2.2.2.2.2.2.2.2.2.2.1 x.2.2.2.2.2.2.2.2.2.2.2.1 x.2.2.2.2.2.2.2.2.2.2.2.2.1
noncomputable def u14{A0 A1 A2 A3 A4 A5 A6 A7 A8 A9 U4 VN We WZ B C:Type}(f:A0->A1->A2->A3->A4->A5->A6->A7->A8->A9->U4->VN->We->WZ->C)(x:A0×A1×A2×A3×A4×A5×A6×A7×A8×A9×U4×VN×We×WZ×B):C:=f x.1 x.2.1 x.2.2.1 x.2.2.2.1 x.2.2.2.2.1 x.2.2.2.2.2.1 x.2.2.2.2.2.2.1 x.2.2.2.2.2.2.2.1 x.2.2.2.2.2.2.2.2.1 x.2.2.2.2.2.2.2.2.2.1 x.2.2.2.2.2.2.2.2.2.2.1 x.2.2.2.2.2.2.2.2.2.2.2.1 x.2.2.2.2.2.2.2.2.2.2.2.2.1 x.2.2.2.2.2.2.2.2.2.2.2.2.2.1
noncomputable def Z3{A0 A1 A2 A3 A4 A5 A6 A7 A8 A9 U4 VN We WZ Xl B C:Type}(f:A0->A1->A2->A3->A4->A5->A6->A7->A8->A9->U4->VN->We->WZ->Xl->C)(x:A0×A1×A2×A3×A4×A5×A6×A7×A8×A9×U4×VN×We×WZ×Xl×B):C:=f x.1 x.2.1 x.2.2.1 x.2.2.2.1 x.2.2.2.2.1 x.2.2.2.2.2.1 x.2.2.2.2.2.2.1 x.2.2.2.2.2.2.2.1 x.2.2.2.2.2.2.2.2.1 x.2.2.2.2.2.2.2.2.2.1 x.2.2.2.2.2.2.2.2.2.2.1 x.2.2.2.2.2.2.2.2.2.2.2.1 x.2.2.2.2.2.2.2.2.2.2.2.2.1 x.2.2.2.2.2.2.2.2.2.2.2.2.2.1 x.2.2.2.2.2.2.2.2.2.2.2.2.2.2.1
noncomputable def u16{A0 A1 A2 A3 A4 A5 A6 A7 A8 A9 U4 VN We WZ Xl XN B C:Type}(f:A0->A1->A2->A3->A4->A5->A6->A7->A8->A9->U4->VN->We->WZ->Xl->XN->C)(x:A0×A1×A2×A3×A4×A5×A6×A7×A8×A9×U4×VN×We×WZ×Xl×XN×B):C:=f x.1 x.2.1 x.2.2.1 x.2.2.2.1 x.2.2.2.2.1 x.2.2.2.2.2.1 x.2.2.2.2.2.2.1 x.2.2.2.2.2.2.2.1 x.2.2.2.2.2.2.2.2.1 x.2.2.2.2.2.2.2.2.2.1 x.2.2.2.2.2.2.2.2.2.2.1 x.2.2.2.2.2.2.2.2.2.2.2.1 x.2.2.2.2.2.2.2.2.2.2.2.2.1 x.2.2.2.2.2.2.2.2.2.2.2.2.2.1 x.2.2.2.2.2.2.2.2.2.2.2.2.2.2.1 x.2.2.2.2.2.2.2.2.2.2.2.2.2.2.2.1
noncomputable def u22{A0 A1 A2 A3 A4 A5 A6 A7 A8 A9 U4 VN We WZ Xl XN Yy Yz YA YB YC YD B C:Type}(f:A0->A1->A2->A3->A4->A5->A6->A7->A8->A9->U4->VN->We->WZ->Xl->XN->Yy->Yz->YA->YB->YC->YD->C)(x:A0×A1×A2×A3×A4×A5×A6×A7×A8×A9×U4×VN×We×WZ×Xl×XN×Yy×Yz×YA×YB×YC×YD×B):C:=f x.1 x.2.1 x.2.2.1 x.2.2.2.1 x.2.2.2.2.1 x.2.2.2.2.2.1 x.2.2.2.2.2.2.1 x.2.2.2.2.2.2.2.1 x.2.2.2.2.2.2.2.2.1 x.2.2.2.2.2.2.2.2.2.1 x.2.2.2.2.2.2.2.2.2.2.1 x.2.2.2.2.2.2.2.2.2.2.2.1 x.2.2.2.2.2.2.2.2.2.2.2.2.1 x.2.2.2.2.2.2.2.2.2.2.2.2.2.1 x.2.2.2.2.2.2.2.2.2.2.2.2.2.2.1 x.2.2.2.2.2.2.2.2.2.2.2.2.2.2.2.1 x.2.2.2.2.2.2.2.2.2.2.2.2.2.2.2.2.1 x.2.2.2.2.2.2.2.2.2.2.2.2.2.2.2.2.2.1 x.2.2.2.2.2.2.2.2.2.2.2.2.2.2.2.2.2.2.1 x.2.2.2.2.2.2.2.2.2.2.2.2.2.2.2.2.2.2.2.1 x.2.2.2.2.2.2.2.2.2.2.2.2.2.2.2.2.2.2.2.2.1 x.2.2.2.2.2.2.2.2.2.2.2.2.2.2.2.2.2.2.2.2.2.1
noncomputable def u23{A0 A1 A2 A3 A4 A5 A6 A7 A8 A9 U4 VN We WZ Xl XN Yy Yz YA YB YC YD ZN B C:Type}(f:A0->A1->A2->A3->A4->A5->A6->A7->A8->A9->U4->VN->We->WZ->Xl->XN->Yy->Yz->YA->YB->YC->YD->ZN->C)(x:A0×A1×A2×A3×A4×A5×A6×A7×A8×A9×U4×VN×We×WZ×Xl×XN×Yy×Yz×YA×YB×YC×YD×ZN×B):C:=f x.1 x.2.1 x.2.2.1 x.2.2.2.1 x.2.2.2.2.1 x.2.2.2.2.2.1 x.2.2.2.2.2.2.1 x.2.2.2.2.2.2.2.1 x.2.2.2.2.2.2.2.2.1 x.2.2.2.2.2.2.2.2.2.1 x.2.2.2.2.2.2.2.2.2.2.1 x.2.2.2.2.2.2.2.2.2.2.2.1 x.2.2.2.2.2.2.2.2.2.2.2.2.1 x.2.2.2.2.2.2.2.2.2.2.2.2.2.1 x.2.2.2.2.2.2.2.2.2.2.2.2.2.2.1 x.2.2.2.2.2.2.2.2.2.2.2.2.2.2.2.1 x.2.2.2.2.2.2.2.2.2.2.2.2.2.2.2.2.1 x.2.2.2.2.2.2.2.2.2.2.2.2.2.2.2.2.2.1 x.2.2.2.2.2.2.2.2.2.2.2.2.2.2.2.2.2.2.1 x.2.2.2.2.2.2.2.2.2.2.2.2.2.2.2.2.2.2.2.1 x.2.2.2.2.2.2.2.2.2.2.2.2.2.2.2.2.2.2.2.2.1 x.2.2.2.2.2.2.2.2.2.2.2.2.2.2.2.2.2.2.2.2.2.1 x.2.2.2.2.2.2.2.2.2.2.2.2.2.2.2.2.2.2.2.2.2.2.1
noncomputable def u26{A0 A1 A2 A3 A4 A5 A6 A7 A8 A9 U4 VN We WZ Xl XN Yy Yz YA YB YC YD ZN A23 A24 A25 B C:Type}(f:A0->A1->A2->A3->A4->A5->A6->A7->A8->A9->U4->VN->We->WZ->Xl->XN->Yy->Yz->YA->YB->YC->YD->ZN->A23->A24->A25->C)(x:A0×A1×A2×A3×A4×A5×A6×A7×A8×A9×U4×VN×We×WZ×Xl×XN×Yy×Yz×YA×YB×YC×YD×ZN×A23×A24×A25×B):C:=f x.1 x.2.1 x.2.2.1 x.2.2.2.1 x.2.2.2.2.1 x.2.2.2.2.2.1 x.2.2.2.2.2.2.1 x.2.2.2.2.2.2.2.1 x.2.2.2.2.2.2.2.2.1 x.2.2.2.2.2.2.2.2.2.1 x.2.2.2.2.2.2.2.2.2.2.1 x.2.2.2.2.2.2.2.2.2.2.2.1 x.2.2.2.2.2.2.2.2.2.2.2.2.1 x.2.2.2.2.2.2.2.2.2.2.2.2.2.1 x.2.2.2.2.2.2.2.2.2.2.2.2.2.2.1 x.2.2.2.2.2.2.2.2.2.2.2.2.2.2.2.1 x.2.2.2.2.2.2.2.2.2.2.2.2.2.2.2.2.1 x.2.2.2.2.2.2.2.2.2.2.2.2.2.2.2.2.2.1 x.2.2.2.2.2.2.2.2.2.2.2.2.2.2.2.2.2.2.1 x.2.2.2.2.2.2.2.2.2.2.2.2.2.2.2.2.2.2.2.1 x.2.2.2.2.2.2.2.2.2.2.2.2.2.2.2.2.2.2.2.2.1 x.2.2.2.2.2.2.2.2.2.2.2.2.2.2.2.2.2.2.2.2.2.1 x.2.2.2.2.2.2.2.2.2.2.2.2.2.2.2.2.2.2.2.2.2.2.1 x.2.2.2.2.2.2.2.2.2.2.2.2.2.2.2.2.2.2.2.2.2.2.2.1 x.2.2.2.2.2.2.2.2.2.2.2.2.2.2.2.2.2.2.2.2.2.2.2.2.1 x.2.2.2.2.2.2.2.2.2.2.2.2.2.2.2.2.2.2.2.2.2.2.2.2.2.1
noncomputable def u28{A0 A1 A2 A3 A4 A5 A6 A7 A8 A9 U4 VN We WZ Xl XN Yy Yz YA YB YC YD ZN A23 A24 A25 A26 A27 B C:Type}(f:A0->A1->A2->A3->A4->A5->A6->A7->A8->A9->U4->VN->We->WZ->Xl->XN->Yy->Yz->YA->YB->YC->YD->ZN->A23->A24->A25->A26->A27->C)(x:A0×A1×A2×A3×A4×A5×A6×A7×A8×A9×U4×VN×We×WZ×Xl×XN×Yy×Yz×YA×YB×YC×YD×ZN×A23×A24×A25×A26×A27×B):C:=f x.1 x.2.1 x.2.2.1 x.2.2.2.1 x.2.2.2.2.1 x.2.2.2.2.2.1 x.2.2.2.2.2.2.1 x.2.2.2.2.2.2.2.1 x.2.2.2.2.2.2.2.2.1 x.2.2.2.2.2.2.2.2.2.1 x.2.2.2.2.2.2.2.2.2.2.1 x.2.2.2.2.2.2.2.2.2.2.2.1 x.2.2.2.2.2.2.2.2.2.2.2.2.1 x.2.2.2.2.2.2.2.2.2.2.2.2.2.1 x.2.2.2.2.2.2.2.2.2.2.2.2.2.2.1 x.2.2.2.2.2.2.2.2.2.2.2.2.2.2.2.1 x.2.2.2.2.2.2.2.2.2.2.2.2.2.2.2.2.1 x.2.2.2.2.2.2.2.2.2.2.2.2.2.2.2.2.2.1 x.2.2.2.2.2.2.2.2.2.2.2.2.2.2.2.2.2.2.1 x.2.2.2.2.2.2.2.2.2.2.2.2.2.2.2.2.2.2.2.1 x.2.2.2.2.2.2.2.2.2.2.2.2.2.2.2.2.2.2.2.2.1 x.2.2.2.2.2.2.2.2.2.2.2.2.2.2.2.2.2.2.2.2.2.1 x.2.2.2.2.2.2.2.2.2.2.2.2.2.2.2.2.2.2.2.2.2.2.1 x.2.2.2.2.2.2.2.2.2.2.2.2.2.2.2.2.2.2.2.2.2.2.2.1 x.2.2.2.2.2.2.2.2.2.2.2.2.2.2.2.2.2.2.2.2.2.2.2.2.1 x.2.2.2.2.2.2.2.2.2.2.2.2.2.2.2.2.2.2.2.2.2.2.2.2.2.1 x.2.2.2.2.2.2.2.2.2.2.2.2.2.2.2.2.2.2.2.2.2.2.2.2.2.2.1 x.2.2.2.2.2.2.2.2.2.2.2.2.2.2.2.2.2.2.2.2.2.2.2.2.2.2.2.1
noncomputable def u30{A0 A1 A2 A3 A4 A5 A6 A7 A8 A9 U4 VN We WZ Xl XN Yy Yz YA YB YC YD ZN A23 A24 A25 A26 A27 A28 A29 B C:Type}(f:A0->A1->A2->A3->A4->A5->A6->A7->A8->A9->U4->VN->We->WZ->Xl->XN->Yy->Yz->YA->YB->YC->YD->ZN->A23->A24->A25->A26->A27->A28->A29->C)(x:A0×A1×A2×A3×A4×A5×A6×A7×A8×A9×U4×VN×We×WZ×Xl×XN×Yy×Yz×YA×YB×YC×YD×ZN×A23×A24×A25×A26×A27×A28×A29×B):C:=f x.1 x.2.1 x.2.2.1 x.2.2.2.1 x.2.2.2.2.1 x.2.2.2.2.2.1 x.2.2.2.2.2.2.1 x.2.2.2.2.2.2.2.1 x.2.2.2.2.2.2.2.2.1 x.2.2.2.2.2.2.2.2.2.1 x.2.2.2.2.2.2.2.2.2.2.1 x.2.2.2.2.2.2.2.2.2.2.2.1 x.2.2.2.2.2.2.2.2.2.2.2.2.1 x.2.2.2.2.2.2.2.2.2.2.2.2.2.1 x.2.2.2.2.2.2.2.2.2.2.2.2.2.2.1 x.2.2.2.2.2.2.2.2.2.2.2.2.2.2.2.1 x.2.2.2.2.2.2.2.2.2.2.2.2.2.2.2.2.1 x.2.2.2.2.2.2.2.2.2.2.2.2.2.2.2.2.2.1 x.2.2.2.2.2.2.2.2.2.2.2.2.2.2.2.2.2.2.1 x.2.2.2.2.2.2.2.2.2.2.2.2.2.2.2.2.2.2.2.1 x.2.2.2.2.2.2.2.2.2.2.2.2.2.2.2.2.2.2.2.2.1 x.2.2.2.2.2.2.2.2.2.2.2.2.2.2.2.2.2.2.2.2.2.1 x.2.2.2.2.2.2.2.2.2.2.2.2.2.2.2.2.2.2.2.2.2.2.1 x.2.2.2.2.2.2.2.2.2.2.2.2.2.2.2.2.2.2.2.2.2.2.2.1 x.2.2.2.2.2.2.2.2.2.2.2.2.2.2.2.2.2.2.2.2.2.2.2.2.1 x.2.2.2.2.2.2.2.2.2.2.2.2.2.2.2.2.2.2.2.2.2.2.2.2.2.1 x.2.2.2.2.2.2.2.2.2.2.2.2.2.2.2.2.2.2.2.2.2.2.2.2.2.2.1 x.2.2.2.2.2.2.2.2.2.2.2.2.2.2.2.2.2.2.2.2.2.2.2.2.2.2.2.1 x.2.2.2.2.2.2.2.2.2.2.2.2.2.2.2.2.2.2.2.2.2.2.2.2.2.2.2.2.1 x.2.2.2.2.2.2.2.2.2.2.2.2.2.2.2.2.2.2.2.2.2.2.2.2.2.2.2.2.2.1
noncomputable def u35{A0 A1 A2 A3 A4 A5 A6 A7 A8 A9 U4 VN We WZ Xl XN Yy Yz YA YB YC YD ZN A23 A24 A25 A26 A27 A28 A29 A30 A31 A32 A33 A34 B C:Type}(f:A0->A1->A2->A3->A4->A5->A6->A7->A8->A9->U4->VN->We->WZ->Xl->XN->Yy->Yz->YA->YB->YC->YD->ZN->A23->A24->A25->A26->A27->A28->A29->A30->A31->A32->A33->A34->C)(x:A0×A1×A2×A3×A4×A5×A6×A7×A8×A9×U4×VN×We×WZ×Xl×XN×Yy×Yz×YA×YB×YC×YD×ZN×A23×A24×A25×A26×A27×A28×A29×A30×A31×A32×A33×A34×B):C:=f x.1 x.2.1 x.2.2.1 x.2.2.2.1 x.2.2.2.2.1 x.2.2.2.2.2.1 x.2.2.2.2.2.2.1 x.2.2.2.2.2.2.2.1 x.2.2.2.2.2.2.2.2.1 x.2.2.2.2.2.2.2.2.2.1 x.2.2.2.2.2.2.2.2.2.2.1 x.2.2.2.2.2.2.2.2.2.2.2.1 x.2.2.2.2.2.2.2.2.2.2.2.2.1 x.2.2.2.2.2.2.2.2.2.2.2.2.2.1 x.2.2.2.2.2.2.2.2.2.2.2.2.2.2.1 x.2.2.2.2.2.2.2.2.2.2.2.2.2.2.2.1 x.2.2.2.2.2.2.2.2.2.2.2.2.2.2.2.2.1 x.2.2.2.2.2.2.2.2.2.2.2.2.2.2.2.2.2.1 x.2.2.2.2.2.2.2.2.2.2.2.2.2.2.2.2.2.2.1 x.2.2.2.2.2.2.2.2.2.2.2.2.2.2.2.2.2.2.2.1 x.2.2.2.2.2.2.2.2.2.2.2.2.2.2.2.2.2.2.2.2.1 x.2.2.2.2.2.2.2.2.2.2.2.2.2.2.2.2.2.2.2.2.2.1 x.2.2.2.2.2.2.2.2.2.2.2.2.2.2.2.2.2.2.2.2.2.2.1 x.2.2.2.2.2.2.2.2.2.2.2.2.2.2.2.2.2.2.2.2.2.2.2.1 x.2.2.2.2.2.2.2.2.2.2.2.2.2.2.2.2.2.2.2.2.2.2.2.2.1 x.2.2.2.2.2.2.2.2.2.2.2.2.2.2.2.2.2.2.2.2.2.2.2.2.2.1 x.2.2.2.2.2.2.2.2.2.2.2.2.2.2.2.2.2.2.2.2.2.2.2.2.2.2.1 x.2.2.2.2.2.2.2.2.2.2.2.2.2.2.2.2.2.2.2.2.2.2.2.2.2.2.2.1 x.2.2.2.2.2.2.2.2.2.2.2.2.2.2.2.2.2.2.2.2.2.2.2.2.2.2.2.2.1 x.2.2.2.2.2.2.2.2.2.2.2.2.2.2.2.2.2.2.2.2.2.2.2.2.2.2.2.2.2.1 x.2.2.2.2.2.2.2.2.2.2.2.2.2.2.2.2.2.2.2.2.2.2.2.2.2.2.2.2.2.2.1 x.2.2.2.2.2.2.2.2.2.2.2.2.2.2.2.2.2.2.2.2.2.2.2.2.2.2.2.2.2.2.2.1 x.2.2.2.2.2.2.2.2.2.2.2.2.2.2.2.2.2.2.2.2.2.2.2.2.2.2.2.2.2.2.2.2.1 x.2.2.2.2.2.2.2.2.2.2.2.2.2.2.2.2.2.2.2.2.2.2.2.2.2.2.2.2.2.2.2.2.2.1 x.2.2.2.2.2.2.2.2.2.2.2.2.2.2.2.2.2.2.2.2.2.2.2.2.2.2.2.2.2.2.2.2.2.2.1
noncomputable def T0:List (bR×gY):=[]
theorem h0:tw Tryz.prog T0:=trivial
noncomputable def T1:List (bR×gY):=((97,[]),⟨true,[o0,o1],[o1],u2 Qc⟩)::T0
theorem h1:tw Tryz.prog T1:=fk (bt 12 [] []) h0 [] trivial Tryz.func97 (by kernel_rfl) fun x=>by kernel_rfl
noncomputable def T2:List (bR×gY):=((53,[]),⟨true,[.agg [v0,v0],o1],[o1],u3 TD⟩)::T1
theorem h2:tw Tryz.prog T2:=fk (bt 18 [] []) h1 [] trivial Tryz.func53 (by kernel_rfl) fun x=>by kernel_rfl
noncomputable def T3:List (bR×gY):=((140,[]),⟨true,[o2,o1],[o1],u2 TB⟩)::T2
theorem h3:tw Tryz.prog T3:=fk (bt 12 [] []) h2 [] trivial Tryz.func140 (by kernel_rfl) fun x=>by kernel_rfl
noncomputable def T4:List (bR×gY):=((141,[]),⟨true,[o3,o1],[o1],u2 TA⟩)::T3
theorem h4:tw Tryz.prog T4:=fk (bt 12 [] []) h3 [] trivial Tryz.func141 (by kernel_rfl) fun x=>by kernel_rfl
noncomputable def T5:List (bR×gY):=((98,[]),⟨true,[a0,o1],[o1],u4 O7⟩)::T4
theorem h5:tw Tryz.prog T5:=fk (bt 18 [] []) h4 [] trivial Tryz.func98 (by kernel_rfl) fun x=>by kernel_rfl
noncomputable def Sn:ep:=⟨[(0,o4)],[(1,o1),(5,o1)],[(.ret,[(4,o1)]),(.exit 0,[(1,o1)])],P9⟩
theorem VF:mT Tryz.prog (env 27 [] []) (lp 0 (body Tryz.f54) 0) Sn:=lk (bt _ _ _) h5 (n:=0) [] trivial (by kernel_rfl) fun k x=>by kernel_rfl
noncomputable def T6:List (bR×gY):=((54,[]),⟨true,[o4,o1],[o1],u2 P8⟩)::T5
theorem h6:tw Tryz.prog T6:=fk (bt 27 [] []) h5 [(0,Sn)] ⟨VF,trivial⟩ Tryz.func54 (by kernel_rfl) fun x=>by kernel_rfl
noncomputable def T7:List (bR×gY):=((12,[]),⟨true,[o5,o1],[o1],u2 O8⟩)::T6
theorem h7:tw Tryz.prog T7:=fk (bt 12 [] []) h6 [] trivial Tryz.func12 (by kernel_rfl) fun x=>by kernel_rfl
noncomputable def T8:List (bR×gY):=((30,[]),⟨true,[a1,o1],[o1],u12 TC⟩)::T7
theorem h8:tw Tryz.prog T8:=fk (bt 24 [] []) h7 [] trivial Tryz.func30 (by kernel_rfl) fun x=>by kernel_rfl
noncomputable def Ud:ep:=⟨[(0,o6)],[(1,o1),(5,o1)],[(.ret,[(4,o1)]),(.exit 0,[(1,o1)])],RI⟩
theorem Wu:mT Tryz.prog (env 27 [] []) (lp 0 (body Tryz.f9) 0) Ud:=lk (bt _ _ _) h8 (n:=0) [] trivial (by kernel_rfl) fun k x=>by kernel_rfl
noncomputable def T9:List (bR×gY):=((9,[]),⟨true,[o6,o1],[o1],u2 OH⟩)::T8
theorem h9:tw Tryz.prog T9:=fk (bt 27 [] []) h8 [(0,Ud)] ⟨Wu,trivial⟩ Tryz.func9 (by kernel_rfl) fun x=>by kernel_rfl
noncomputable def T10:List (bR×gY):=((10,[]),⟨true,[o7,o1],[o1],u2 Qb⟩)::T9
theorem F8:tw Tryz.prog T10:=fk (bt 12 [] []) h9 [] trivial Tryz.func10 (by kernel_rfl) fun x=>by kernel_rfl
noncomputable def T11:List (bR×gY):=((11,[]),⟨true,[o8,o1],[o1],u2 Rb⟩)::T10
theorem h11:tw Tryz.prog T11:=fk (bt 12 [] []) F8 [] trivial Tryz.func11 (by kernel_rfl) fun x=>by kernel_rfl
noncomputable def T12:List (bR×gY):=((4,[]),⟨true,[a2,o1],[o1],u16 Qa⟩)::T11
theorem h12:tw Tryz.prog T12:=fk (bt 30 [] []) h11 [] trivial Tryz.func4 (by kernel_rfl) fun x=>by kernel_rfl
noncomputable def T13:List (bR×gY):=((16,[]),⟨true,[a3],[a3],u8 Uy⟩)::T12
theorem h13:tw Tryz.prog T13:=fk (bt 29 [] []) h12 [] trivial Tryz.func16 (by kernel_rfl) fun x=>by kernel_rfl
noncomputable def T14:List (bR×gY):=((147,[]),⟨true,[.agg [v1,v1]],[.agg [v1,v1]],u2 Vd⟩)::T13
theorem h14:tw Tryz.prog T14:=fk (bt 11 [] []) h13 [] trivial Tryz.func147 (by kernel_rfl) fun x=>by kernel_rfl
noncomputable def Uf:ep:=⟨[(0,o0)],[(3,o9),(4,o1)],[(.exit 0,[(3,o9)])],Pk⟩
theorem Ww:mT Tryz.prog (env 23 [] []) (lp 0 (body Tryz.f109) 0) Uf:=lk (bt _ _ _) h14 (n:=0) [] trivial (by kernel_rfl) fun k x=>by kernel_rfl
noncomputable def T15:List (bR×gY):=((109,[]),⟨true,[o0],[o9],u1 Ql⟩)::T14
theorem h15:tw Tryz.prog T15:=fk (bt 23 [] []) h14 [(0,Uf)] ⟨Ww,trivial⟩ Tryz.func109 (by kernel_rfl) fun x=>by kernel_rfl
noncomputable def T16:List (bR×gY):=((68,[]),⟨true,[.agg [v0,v0]],[.agg [v19,v19]],u2 TG⟩)::T15
theorem h16:tw Tryz.prog T16:=fk (bt 13 [] []) h15 [] trivial Tryz.func68 (by kernel_rfl) fun x=>by kernel_rfl
noncomputable def UO:ep:=⟨[(0,o2)],[(3,o10),(4,o1)],[(.exit 0,[(3,o10)])],Qi⟩
theorem WR:mT Tryz.prog (env 22 [] []) (lp 0 (body Tryz.f148) 0) UO:=lk (bt _ _ _) h16 (n:=0) [] trivial (by kernel_rfl) fun k x=>by kernel_rfl
noncomputable def T17:List (bR×gY):=((148,[]),⟨true,[o2],[o10],u1 TF⟩)::T16
theorem h17:tw Tryz.prog T17:=fk (bt 22 [] []) h16 [(0,UO)] ⟨WR,trivial⟩ Tryz.func148 (by kernel_rfl) fun x=>by kernel_rfl
noncomputable def T18:List (bR×gY):=((166,[]),⟨true,[a4],[a4],u4 VQ⟩)::T17
theorem h18:tw Tryz.prog T18:=fk (bt 17 [] []) h17 [] trivial Tryz.func166 (by kernel_rfl) fun x=>by kernel_rfl
noncomputable def UN:ep:=⟨[(0,o3)],[(3,o11),(4,o1)],[(.exit 0,[(3,o11)])],Qe⟩
theorem WQ:mT Tryz.prog (env 23 [] []) (lp 0 (body Tryz.f149) 0) UN:=lk (bt _ _ _) h18 (n:=0) [] trivial (by kernel_rfl) fun k x=>by kernel_rfl
noncomputable def T19:List (bR×gY):=((149,[]),⟨true,[o3],[o11],u1 TE⟩)::T18
theorem h19:tw Tryz.prog T19:=fk (bt 23 [] []) h18 [(0,UN)] ⟨WQ,trivial⟩ Tryz.func149 (by kernel_rfl) fun x=>by kernel_rfl
noncomputable def T20:List (bR×gY):=((110,[]),⟨true,[a0],[.agg [v1,v20,v21]],u3 O9⟩)::T19
theorem h20:tw Tryz.prog T20:=fk (bt 16 [] []) h19 [] trivial Tryz.func110 (by kernel_rfl) fun x=>by kernel_rfl
noncomputable def Sp:ep:=⟨[(0,o4)],[(3,o12),(4,o1)],[(.exit 0,[(3,o12)])],Qg⟩
theorem VG:mT Tryz.prog (env 23 [] [7]) (lp 0 (body Tryz.f69) 0) Sp:=lk (bt _ _ _) h20 (n:=0) [] trivial (by kernel_rfl) fun k x=>by kernel_rfl
noncomputable def T21:List (bR×gY):=((69,[]),⟨true,[o4],[o12],u1 Qf⟩)::T20
theorem h21:tw Tryz.prog T21:=fk (bt 23 [] [7]) h20 [(0,Sp)] ⟨VG,trivial⟩ Tryz.func69 (by kernel_rfl) fun x=>by kernel_rfl
noncomputable def T22:List (bR×gY):=((70,[]),⟨true,[a5],[a5],u5 Vc⟩)::T21
theorem h22:tw Tryz.prog T22:=fk (bt 20 [] []) h21 [] trivial Tryz.func70 (by kernel_rfl) fun x=>by kernel_rfl
noncomputable def T23:List (bR×gY):=((40,[]),⟨true,[a6],[a6],u7 Uw⟩)::T22
theorem h23:tw Tryz.prog T23:=fk (bt 26 [] []) h22 [] trivial Tryz.func40 (by kernel_rfl) fun x=>by kernel_rfl
noncomputable def S7:ep:=⟨[(0,o5)],[(3,o13),(4,o1)],[(.exit 0,[(3,o13)])],OJ⟩
theorem VY:mT Tryz.prog (env 23 [] []) (lp 0 (body Tryz.f20) 0) S7:=lk (bt _ _ _) h23 (n:=0) [] trivial (by kernel_rfl) fun k x=>by kernel_rfl
noncomputable def T24:List (bR×gY):=((20,[]),⟨true,[o5],[o13],u1 Pa⟩)::T23
theorem h24:tw Tryz.prog T24:=fk (bt 23 [] []) h23 [(0,S7)] ⟨VY,trivial⟩ Tryz.func20 (by kernel_rfl) fun x=>by kernel_rfl
noncomputable def T25:List (bR×gY):=((37,[]),⟨true,[a1],[.agg [v19,v19,v22,v1,v1,v6,v6,v6,v1,v1,v23]],u11 Rm⟩)::T24
theorem h25:tw Tryz.prog T25:=fk (bt 27 [] []) h24 [] trivial Tryz.func37 (by kernel_rfl) fun x=>by kernel_rfl
noncomputable def Ue:ep:=⟨[(0,o6)],[(3,o14),(4,o1)],[(.exit 0,[(3,o14)])],RJ⟩
theorem Wv:mT Tryz.prog (env 23 [] [7]) (lp 0 (body Tryz.f17) 0) Ue:=lk (bt _ _ _) h25 (n:=0) [] trivial (by kernel_rfl) fun k x=>by kernel_rfl
noncomputable def T26:List (bR×gY):=((17,[]),⟨true,[o6],[o14],u1 R3⟩)::T25
theorem h26:tw Tryz.prog T26:=fk (bt 23 [] [7]) h25 [(0,Ue)] ⟨Wv,trivial⟩ Tryz.func17 (by kernel_rfl) fun x=>by kernel_rfl
noncomputable def T27:List (bR×gY):=((71,[]),⟨true,[a7],[a7],u5 W8⟩)::T26
theorem h27:tw Tryz.prog T27:=fk (bt 20 [] []) h26 [] trivial Tryz.func71 (by kernel_rfl) fun x=>by kernel_rfl
noncomputable def T28:List (bR×gY):=((38,[]),⟨true,[a8],[a8],u13 TR⟩)::T27
theorem h28:tw Tryz.prog T28:=fk (bt 33 [] []) h27 [] trivial Tryz.func38 (by kernel_rfl) fun x=>by kernel_rfl
noncomputable def Sq:ep:=⟨[(0,o7)],[(3,o15),(4,o1)],[(.exit 0,[(3,o15)])],Oa⟩
theorem VH:mT Tryz.prog (env 23 [] []) (lp 0 (body Tryz.f18) 0) Sq:=lk (bt _ _ _) h28 (n:=0) [] trivial (by kernel_rfl) fun k x=>by kernel_rfl
noncomputable def T29:List (bR×gY):=((18,[]),⟨true,[o7],[o15],u1 Qk⟩)::T28
theorem h29:tw Tryz.prog T29:=fk (bt 23 [] []) h28 [(0,Sq)] ⟨VH,trivial⟩ Tryz.func18 (by kernel_rfl) fun x=>by kernel_rfl
noncomputable def T30:List (bR×gY):=((39,[]),⟨true,[a9],[a9],u7 Ux⟩)::T29
theorem h30:tw Tryz.prog T30:=fk (bt 26 [] []) h29 [] trivial Tryz.func39 (by kernel_rfl) fun x=>by kernel_rfl
noncomputable def S8:ep:=⟨[(0,o8)],[(3,o16),(4,o1)],[(.exit 0,[(3,o16)])],OL⟩
theorem VZ:mT Tryz.prog (env 23 [] []) (lp 0 (body Tryz.f19) 0) S8:=lk (bt _ _ _) h30 (n:=0) [] trivial (by kernel_rfl) fun k x=>by kernel_rfl
noncomputable def T31:List (bR×gY):=((19,[]),⟨true,[o8],[o16],u1 Rc⟩)::T30
theorem h31:tw Tryz.prog T31:=fk (bt 23 [] []) h30 [(0,S8)] ⟨VZ,trivial⟩ Tryz.func19 (by kernel_rfl) fun x=>by kernel_rfl
noncomputable def T32:List (bR×gY):=((6,[]),⟨true,[a2],[.agg [v1,v1,v1,v1,v1,v1,v1,v1,v1,v1,v1,v24,v25,v26,v23]],Z3 Qj⟩)::T31
theorem h32:tw Tryz.prog T32:=fk (bt 34 [] []) h31 [] trivial Tryz.func6 (by kernel_rfl) fun x=>by kernel_rfl
noncomputable def T33:List (bR×gY):=((56,[]),⟨true,[o1,o1,o1],[o17],u3 qe⟩)::T32
theorem h33:tw Tryz.prog T33:=fk (bt 15 [] []) h32 [] trivial Tryz.func56 (by kernel_rfl) fun x=>by kernel_rfl
noncomputable def T34:List (bR×gY):=((55,[]),⟨true,[a3],[o17],u8 QB⟩)::T33
theorem h34:tw Tryz.prog T34:=fk (bt 41 [] []) h33 [] trivial Tryz.func55 (by kernel_rfl) fun x=>by kernel_rfl
noncomputable def T35:List (bR×gY):=((57,[]),⟨true,[o1],[o17],u1 M6⟩)::T34
theorem h35:tw Tryz.prog T35:=fk (bt 5 [] []) h34 [] trivial Tryz.func57 (by kernel_rfl) fun x=>by kernel_rfl
noncomputable def T36:List (bR×gY):=((103,[]),⟨true,[o1],[o17],u1 MH⟩)::T35
theorem h36:tw Tryz.prog T36:=fk (bt 5 [] []) h35 [] trivial Tryz.func103 (by kernel_rfl) fun x=>by kernel_rfl
noncomputable def T37:List (bR×gY):=((142,[]),⟨true,[o1],[o17],u1 R7⟩)::T36
theorem h37:tw Tryz.prog T37:=fk (bt 5 [] []) h36 [] trivial Tryz.func142 (by kernel_rfl) fun x=>by kernel_rfl
noncomputable def T38:List (bR×gY):=((99,[]),⟨true,[a9],[o17],u7 Qq⟩)::T37
theorem h38:tw Tryz.prog T38:=fk (bt 45 [] []) h37 [] trivial Tryz.func99 (by kernel_rfl) fun x=>by kernel_rfl
noncomputable def Tb:ep:=⟨[(0,o18)],[(3,o1)],[(.ret,[(2,o17)]),(.exit 0,[])],Q1⟩
theorem V2:mT Tryz.prog (env 19 [] []) (lp 0 (body Tryz.f58) 0) Tb:=lk (bt _ _ _) h38 (n:=0) [] trivial (by kernel_rfl) fun k x=>by kernel_rfl
noncomputable def T39:List (bR×gY):=((58,[]),⟨true,[o18],[o17],u1 Rd⟩)::T38
theorem h39:tw Tryz.prog T39:=fk (bt 19 [] []) h38 [(0,Tb)] ⟨V2,trivial⟩ Tryz.func58 (by kernel_rfl) fun x=>by kernel_rfl
noncomputable def T40:List (bR×gY):=((100,[]),⟨true,[a6],[o17],u7 R5⟩)::T39
theorem h40:tw Tryz.prog T40:=fk (bt 36 [] []) h39 [] trivial Tryz.func100 (by kernel_rfl) fun x=>by kernel_rfl
noncomputable def Sr:ep:=⟨[(0,o19)],[(3,o1)],[(.ret,[(2,o17)]),(.exit 0,[])],Qs⟩
theorem VI:mT Tryz.prog (env 73 [] []) (lp 0 (body Tryz.f59) 0) Sr:=lk (bt _ _ _) h40 (n:=0) [] trivial (by kernel_rfl) fun k x=>by kernel_rfl
noncomputable def T41:List (bR×gY):=((59,[]),⟨true,[o19],[o17],u1 Ld⟩)::T40
theorem h41:tw Tryz.prog T41:=fk (bt 73 [] []) h40 [(0,Sr)] ⟨VI,trivial⟩ Tryz.func59 (by kernel_rfl) fun x=>by kernel_rfl
noncomputable def Ui:ep:=⟨[(0,o20),(1,o1)],[(5,o1)],[(.ret,[(4,o17)]),(.exit 0,[])],RM⟩
theorem Wz:mT Tryz.prog (env 51 [] []) (lp 0 (body Tryz.f107) 0) Ui:=lk (bt _ _ _) h41 (n:=0) [] trivial (by kernel_rfl) fun k x=>by kernel_rfl
noncomputable def T42:List (bR×gY):=((107,[]),⟨true,[o20,o1],[o17],u2 QA⟩)::T41
theorem h42:tw Tryz.prog T42:=fk (bt 51 [] []) h41 [(0,Ui)] ⟨Wz,trivial⟩ Tryz.func107 (by kernel_rfl) fun x=>by kernel_rfl
noncomputable def T43:List (bR×gY):=((65,[]),⟨true,[a10],[o17],u2 Ov⟩)::T42
theorem h43:tw Tryz.prog T43:=fk (bt 11 [] []) h42 [] trivial Tryz.func65 (by kernel_rfl) fun x=>by kernel_rfl
noncomputable def Tf:ep:=⟨[(1,.ro t21),(3,o1),(4,o1)],[(5,a11),(6,o1)],[(.ret,[(2,o17)]),(.exit 2,[(5,a11)])],OT⟩
theorem V6:mT Tryz.prog (env 70 [] []) (lp 0 (lp 0 (body Tryz.f165) 0) 0) Tf:=lk (bt _ _ _) h43 (n:=2) [] trivial (by kernel_rfl) fun k x=>by kernel_rfl
noncomputable def Te:ep:=⟨[(1,.ro t21)],[(3,o1),(4,o1)],[(.ret,[(2,o17)]),(.exit 0,[(3,o1)])],Q5⟩
theorem V5:mT Tryz.prog (env 70 [] []) (lp 0 (body Tryz.f165) 0) Te:=lk (bt _ _ _) h43 (n:=0) [(2,Tf)] ⟨V6,trivial⟩ (by kernel_rfl) fun k x=>by kernel_rfl
noncomputable def T44:List (bR×gY):=((165,[]),⟨true,[a12],[o17],u3 Rf⟩)::T43
theorem h44:tw Tryz.prog T44:=fk (bt 70 [] []) h43 [(0,Te)] ⟨V5,trivial⟩ Tryz.func165 (by kernel_rfl) fun x=>by kernel_rfl
noncomputable def Ta:ep:=⟨[(1,.ro t21),(3,o1)],[(4,o17),(5,o1)],[(.exit 2,[(4,o17)])],QZ⟩
theorem V1:mT Tryz.prog (env 74 [] []) (lp 0 (lp 0 (body Tryz.f143) 0) 0) Ta:=lk (bt _ _ _) h44 (n:=2) [] trivial (by kernel_rfl) fun k x=>by kernel_rfl
noncomputable def S9:ep:=⟨[(1,.ro t21)],[(3,o1)],[(.ret,[(2,o17)]),(.exit 0,[])],QY⟩
theorem V0:mT Tryz.prog (env 74 [] []) (lp 0 (body Tryz.f143) 0) S9:=lk (bt _ _ _) h44 (n:=0) [(2,Ta)] ⟨V1,trivial⟩ (by kernel_rfl) fun k x=>by kernel_rfl
noncomputable def T45:List (bR×gY):=((143,[]),⟨true,[a12],[o17],u3 Pd⟩)::T44
theorem h45:tw Tryz.prog T45:=fk (bt 74 [] []) h44 [(0,S9)] ⟨V0,trivial⟩ Tryz.func143 (by kernel_rfl) fun x=>by kernel_rfl
noncomputable def UT:ep:=⟨[(1,o1),(2,.ro t21)],[(5,o1)],[(.ret,[(4,o1)]),(.exit 0,[])],SS⟩
theorem WW:mT Tryz.prog (env 26 [] []) (lp 0 (body Tryz.f144) 0) UT:=lk (bt _ _ _) h45 (n:=0) [] trivial (by kernel_rfl) fun k x=>by kernel_rfl
noncomputable def T46:List (bR×gY):=((144,[]),⟨true,[a12,o1],[o1],u4 Rr⟩)::T45
theorem h46:tw Tryz.prog T46:=fk (bt 26 [] []) h45 [(0,UT)] ⟨WW,trivial⟩ Tryz.func144 (by kernel_rfl) fun x=>by kernel_rfl
noncomputable def UR:ep:=⟨[(0,o21),(3,o1),(4,o1)],[(5,o1)],[(.ret,[(2,o17)]),(.exit 4,[])],SP⟩
theorem WU:mT Tryz.prog (env 52 [] []) (lp 2 (lp 0 (lp 0 (body Tryz.f101) 0) 0) 0) UR:=lk (bt _ _ _) h46 (n:=4) [] trivial (by kernel_rfl) fun k x=>by kernel_rfl
noncomputable def UQ:ep:=⟨[(0,o21),(3,o1)],[(4,o1)],[(.ret,[(2,o17)]),(.exit 2,[])],SO⟩
theorem WT:mT Tryz.prog (env 52 [] []) (lp 0 (lp 0 (body Tryz.f101) 0) 0) UQ:=lk (bt _ _ _) h46 (n:=2) [(4,UR)] ⟨WU,trivial⟩ (by kernel_rfl) fun k x=>by kernel_rfl
noncomputable def UP:ep:=⟨[(0,o21)],[(3,o1)],[(.ret,[(2,o17)]),(.exit 0,[])],SN⟩
theorem WS:mT Tryz.prog (env 52 [] []) (lp 0 (body Tryz.f101) 0) UP:=lk (bt _ _ _) h46 (n:=0) [(2,UQ)] ⟨WT,trivial⟩ (by kernel_rfl) fun k x=>by kernel_rfl
noncomputable def T47:List (bR×gY):=((101,[]),⟨true,[o21],[o17],u1 Rq⟩)::T46
theorem h47:tw Tryz.prog T47:=fk (bt 52 [] []) h46 [(0,UP)] ⟨WS,trivial⟩ Tryz.func101 (by kernel_rfl) fun x=>by kernel_rfl
noncomputable def T48:List (bR×gY):=((145,[]),⟨true,[a5],[o17],u5 Vn⟩)::T47
theorem h48:tw Tryz.prog T48:=fk (bt 9 [] []) h47 [] trivial Tryz.func145 (by kernel_rfl) fun x=>by kernel_rfl
noncomputable def T49:List (bR×gY):=((102,[]),⟨true,[a5],[o17],u5 PA⟩)::T48
theorem h49:tw Tryz.prog T49:=fk (bt 88 [] []) h48 [] trivial Tryz.func102 (by kernel_rfl) fun x=>by kernel_rfl
noncomputable def T50:List (bR×gY):=((60,[]),⟨true,[a13,o1],[o17],u16 QF⟩)::T49
theorem h50:tw Tryz.prog T50:=fk (bt 95 [] []) h49 [] trivial Tryz.func60 (by kernel_rfl) fun x=>by kernel_rfl
noncomputable def T51:List (bR×gY):=((33,[]),⟨true,[a13,o1],[o17],u16 MZ⟩)::T50
theorem h51:tw Tryz.prog T51:=fk (bt 35 [] []) h50 [] trivial Tryz.func33 (by kernel_rfl) fun x=>by kernel_rfl
noncomputable def T52:List (bR×gY):=((104,[]),⟨true,[a7],[o17],u5 TL⟩)::T51
theorem h52:tw Tryz.prog T52:=fk (bt 26 [] []) h51 [] trivial Tryz.func104 (by kernel_rfl) fun x=>by kernel_rfl
noncomputable def T53:List (bR×gY):=((105,[]),⟨true,[a13,o1],[o1],u16 Pe⟩)::T52
theorem h53:tw Tryz.prog T53:=fk (bt 21 [] []) h52 [] trivial Tryz.func105 (by kernel_rfl) fun x=>by kernel_rfl
noncomputable def T54:List (bR×gY):=((61,[]),⟨true,[a13,o1],[o17],u16 OV⟩)::T53
theorem h54:tw Tryz.prog T54:=fk (bt 142 [] []) h53 [] trivial Tryz.func61 (by kernel_rfl) fun x=>by kernel_rfl
noncomputable def RR:ep:=⟨[(1,.ro t27),(4,o1),(5,o1),(6,o22)],[(3,o1),(7,o1)],[(.ret,[(2,o17)]),(.exit 4,[(3,o1)])],Pw⟩
theorem Vg:mT Tryz.prog (env 126 [] []) (lp 2 (lp 0 (lp 0 (body Tryz.f62) 0) 0) 0) RR:=lk (bt _ _ _) h54 (n:=4) [] trivial (by kernel_rfl) fun k x=>by kernel_rfl
noncomputable def RQ:ep:=⟨[(1,.ro t27),(4,o1)],[(3,o1),(5,o1)],[(.ret,[(2,o17)]),(.exit 2,[(3,o1)])],Pv⟩
theorem Vf:mT Tryz.prog (env 126 [] []) (lp 0 (lp 0 (body Tryz.f62) 0) 0) RQ:=lk (bt _ _ _) h54 (n:=2) [(4,RR)] ⟨Vg,trivial⟩ (by kernel_rfl) fun k x=>by kernel_rfl
noncomputable def RP:ep:=⟨[(1,.ro t27)],[(3,o1),(4,o1)],[(.ret,[(2,o17)]),(.exit 0,[(3,o1)])],SU⟩
theorem Ve:mT Tryz.prog (env 126 [] []) (lp 0 (body Tryz.f62) 0) RP:=lk (bt _ _ _) h54 (n:=0) [(2,RQ)] ⟨Vf,trivial⟩ (by kernel_rfl) fun k x=>by kernel_rfl
noncomputable def RS:ep:=⟨[(1,.ro t27)],[(3,o1),(10,o1)],[(.exit 6,[(3,o1)])],SV⟩
theorem Vh:mT Tryz.prog (env 126 [] []) (lp 0 (body Tryz.f62) 1) RS:=lk (bt _ _ _) h54 (n:=6) [] trivial (by kernel_rfl) fun k x=>by kernel_rfl
noncomputable def T55:List (bR×gY):=((62,[]),⟨true,[a13],[o17],Z3 Po⟩)::T54
theorem h55:tw Tryz.prog T55:=fk (bt 126 [] []) h54 [(0,RP),(6,RS)] ⟨Ve,Vh,trivial⟩ Tryz.func62 (by kernel_rfl) fun x=>by kernel_rfl
noncomputable def Uj:ep:=⟨[(1,.ro t27)],[(3,o1),(4,o1)],[(.exit 0,[(3,o1)])],U0⟩
theorem WA:mT Tryz.prog (env 33 [] []) (lp 0 (body Tryz.f63) 0) Uj:=lk (bt _ _ _) h55 (n:=0) [] trivial (by kernel_rfl) fun k x=>by kernel_rfl
noncomputable def T56:List (bR×gY):=((63,[]),⟨true,[a13],[o1],Z3 R8⟩)::T55
theorem h56:tw Tryz.prog T56:=fk (bt 33 [] []) h55 [(0,Uj)] ⟨WA,trivial⟩ Tryz.func63 (by kernel_rfl) fun x=>by kernel_rfl
noncomputable def Ss:ep:=⟨[(1,.ro t27)],[(3,o1)],[(.ret,[(2,o17)]),(.exit 0,[])],TM⟩
theorem VJ:mT Tryz.prog (env 83 [] []) (lp 0 (body Tryz.f31) 0) Ss:=lk (bt _ _ _) h56 (n:=0) [] trivial (by kernel_rfl) fun k x=>by kernel_rfl
noncomputable def St:ep:=⟨[(1,.ro t27)],[(4,o1)],[(.ret,[(2,o17)]),(.exit 2,[])],TN⟩
theorem VK:mT Tryz.prog (env 83 [] []) (lp 0 (body Tryz.f31) 1) St:=lk (bt _ _ _) h56 (n:=2) [] trivial (by kernel_rfl) fun k x=>by kernel_rfl
noncomputable def T57:List (bR×gY):=((31,[]),⟨true,[a13],[o17],Z3 Qt⟩)::T56
theorem h57:tw Tryz.prog T57:=fk (bt 83 [] []) h56 [(0,Ss),(2,St)] ⟨VJ,VK,trivial⟩ Tryz.func31 (by kernel_rfl) fun x=>by kernel_rfl
noncomputable def T58:List (bR×gY):=((106,[]),⟨true,[a6,a6],[o17],u14 Ox⟩)::T57
theorem h58:tw Tryz.prog T58:=fk (bt 24 [] []) h57 [] trivial Tryz.func106 (by kernel_rfl) fun x=>by kernel_rfl
noncomputable def PI:ep:=⟨[(0,o19),(1,o19)],[(6,o13),(7,o1),(8,o1)],[(.ret,[(4,o13),(5,o17)]),(.exit 0,[(6,o13)])],N4⟩
theorem Un:mT Tryz.prog (env 109 [] []) (lp 0 (body Tryz.f64) 0) PI:=lk (bt _ _ _) h58 (n:=0) [] trivial (by kernel_rfl) fun k x=>by kernel_rfl
noncomputable def T59:List (bR×gY):=((64,[]),⟨true,[o19,o19],[o13,o17],u2 NU⟩)::T58
theorem h59:tw Tryz.prog T59:=fk (bt 109 [] []) h58 [(0,PI)] ⟨Un,trivial⟩ Tryz.func64 (by kernel_rfl) fun x=>by kernel_rfl
noncomputable def Rh:ep:=⟨[(1,.ro t27)],[(4,o13),(5,o1)],[(.ret,[(2,o13),(3,o17)]),(.exit 0,[(4,o13)])],RV⟩
theorem U3:mT Tryz.prog (env 34 [] []) (lp 0 (body Tryz.f32) 0) Rh:=lk (bt _ _ _) h59 (n:=0) [] trivial (by kernel_rfl) fun k x=>by kernel_rfl
noncomputable def T60:List (bR×gY):=((32,[]),⟨true,[a13],[o13,o17],Z3 OU⟩)::T59
theorem h60:tw Tryz.prog T60:=fk (bt 34 [] []) h59 [(0,Rh)] ⟨U3,trivial⟩ Tryz.func32 (by kernel_rfl) fun x=>by kernel_rfl
noncomputable def T61:List (bR×gY):=((13,[]),⟨true,[a13],[o13,o17],Z3 OP⟩)::T60
theorem h61:tw Tryz.prog T61:=fk (bt 16 [] []) h60 [] trivial Tryz.func13 (by kernel_rfl) fun x=>by kernel_rfl
noncomputable def Uh:ep:=⟨[(0,o19),(4,o1)],[(3,o10),(5,o1)],[(.exit 2,[(3,o10)])],RK⟩
theorem Wy:mT Tryz.prog (env 65 [] []) (lp 0 (lp 0 (body Tryz.f35) 0) 0) Uh:=lk (bt _ _ _) h61 (n:=2) [] trivial (by kernel_rfl) fun k x=>by kernel_rfl
noncomputable def Ug:ep:=⟨[(0,o19)],[(3,o10),(4,o1)],[(.exit 0,[(3,o10)])],Pn⟩
theorem Wx:mT Tryz.prog (env 65 [] []) (lp 0 (body Tryz.f35) 0) Ug:=lk (bt _ _ _) h61 (n:=0) [(2,Uh)] ⟨Wy,trivial⟩ (by kernel_rfl) fun k x=>by kernel_rfl
noncomputable def T62:List (bR×gY):=((35,[]),⟨true,[o19],[o10],u1 Qx⟩)::T61
theorem h62:tw Tryz.prog T62:=fk (bt 65 [] []) h61 [(0,Ug)] ⟨Wx,trivial⟩ Tryz.func35 (by kernel_rfl) fun x=>by kernel_rfl
noncomputable def T63:List (bR×gY):=((36,[]),⟨true,[a6,a6],[a6],u14 UE⟩)::T62
theorem h63:tw Tryz.prog T63:=fk (bt 68 [] []) h62 [] trivial Tryz.func36 (by kernel_rfl) fun x=>by kernel_rfl
noncomputable def US:ep:=⟨[(0,o19),(1,o1)],[(4,a14),(5,a14),(6,o10),(7,o1)],[(.exit 0,[(4,a14),(5,a14)])],SQ⟩
theorem WV:mT Tryz.prog (env 33 [] []) (lp 0 (body Tryz.f15) 0) US:=lk (bt _ _ _) h63 (n:=0) [] trivial (by kernel_rfl) fun k x=>by kernel_rfl
noncomputable def T64:List (bR×gY):=((15,[]),⟨true,[o19,o1],[a6],u2 TK⟩)::T63
theorem GO:tw Tryz.prog T64:=fk (bt 33 [] []) h63 [(0,US)] ⟨WV,trivial⟩ Tryz.func15 (by kernel_rfl) fun x=>by kernel_rfl
noncomputable def Sv:ep:=⟨[(0,o20),(1,o1)],[(5,o1)],[(.ret,[(4,o17)]),(.exit 0,[])],QD⟩
theorem VM:mT Tryz.prog (env 28 [] []) (lp 0 (body Tryz.f146) 0) Sv:=lk (bt _ _ _) GO (n:=0) [] trivial (by kernel_rfl) fun k x=>by kernel_rfl
noncomputable def T65:List (bR×gY):=((146,[]),⟨true,[o20,o1],[o17],u2 Ow⟩)::T64
theorem h65:tw Tryz.prog T65:=fk (bt 28 [] []) GO [(0,Sv)] ⟨VM,trivial⟩ Tryz.func146 (by kernel_rfl) fun x=>by kernel_rfl
noncomputable def T66:List (bR×gY):=((108,[]),⟨true,[a10,o1],[o17],u3 R6⟩)::T65
theorem h66:tw Tryz.prog T66:=fk (bt 17 [] []) h65 [] trivial Tryz.func108 (by kernel_rfl) fun x=>by kernel_rfl
noncomputable def Su:ep:=⟨[(2,o1),(3,.ro t35)],[(7,o1),(8,o1)],[(.exit 0,[(7,o1)])],Oc⟩
theorem VL:mT Tryz.prog (env 34 [] []) (lp 0 (body Tryz.f67) 0) Su:=lk (bt _ _ _) h66 (n:=0) [] trivial (by kernel_rfl) fun k x=>by kernel_rfl
noncomputable def T67:List (bR×gY):=((67,[]),⟨true,[a10,o1,o1],[o1],u4 Qw⟩)::T66
theorem h67:tw Tryz.prog T67:=fk (bt 34 [] []) h66 [(0,Su)] ⟨VL,trivial⟩ Tryz.func67 (by kernel_rfl) fun x=>by kernel_rfl
noncomputable def T68:List (bR×gY):=((66,[]),⟨true,[a3,o1,o1,o1],[o1],u11 TO⟩)::T67
theorem h68:tw Tryz.prog T68:=fk (bt 39 [] []) h67 [] trivial Tryz.func66 (by kernel_rfl) fun x=>by kernel_rfl
noncomputable def T69:List (bR×gY):=((34,[]),⟨true,[a10,a3,o1,o1,o1,o1],[o1],u14 UD⟩)::T68
theorem h69:tw Tryz.prog T69:=fk (bt 52 [] []) h68 [] trivial Tryz.func34 (by kernel_rfl) fun x=>by kernel_rfl
noncomputable def T70:List (bR×gY):=((14,[]),⟨true,[a13,o1,a6],[o17],u23 R9⟩)::T69
theorem h70:tw Tryz.prog T70:=fk (bt 88 [] []) h69 [] trivial Tryz.func14 (by kernel_rfl) fun x=>by kernel_rfl
noncomputable def Tc:ep:=⟨[(1,.ro t27)],[(3,o13),(5,o1)],[(.ret,[(2,o17)]),(.exit 0,[(3,o13)])],Q2⟩
theorem V3:mT Tryz.prog (env 44 [] []) (lp 0 (body Tryz.f5) 0) Tc:=lk (bt _ _ _) h70 (n:=0) [] trivial (by kernel_rfl) fun k x=>by kernel_rfl
noncomputable def Td:ep:=⟨[(1,.ro t27)],[(3,o13),(6,o1)],[(.ret,[(2,o17)]),(.exit 2,[])],Up⟩
theorem V4:mT Tryz.prog (env 44 [] []) (lp 0 (body Tryz.f5) 1) Td:=lk (bt _ _ _) h70 (n:=2) [] trivial (by kernel_rfl) fun k x=>by kernel_rfl
noncomputable def T71:List (bR×gY):=((5,[]),⟨true,[a13],[o17],Z3 Re⟩)::T70
theorem h71:tw Tryz.prog T71:=fk (bt 44 [] []) h70 [(0,Tc),(2,Td)] ⟨V3,V4,trivial⟩ Tryz.func5 (by kernel_rfl) fun x=>by kernel_rfl
noncomputable def T72:List (bR×gY):=((73,[]),⟨true,[o1,o1,o1],[o17],u3 qx⟩)::T71
theorem h72:tw Tryz.prog T72:=fk (bt 15 [] []) h71 [] trivial Tryz.func73 (by kernel_rfl) fun x=>by kernel_rfl
noncomputable def T73:List (bR×gY):=((72,[]),⟨true,[a3],[o17],u8 PV⟩)::T72
theorem h73:tw Tryz.prog T73:=fk (bt 41 [] []) h72 [] trivial Tryz.func72 (by kernel_rfl) fun x=>by kernel_rfl
noncomputable def T74:List (bR×gY):=((74,[]),⟨true,[o1],[o17],u1 Nr⟩)::T73
theorem h74:tw Tryz.prog T74:=fk (bt 5 [] []) h73 [] trivial Tryz.func74 (by kernel_rfl) fun x=>by kernel_rfl
noncomputable def T75:List (bR×gY):=((75,[]),⟨true,[o1],[o17],u1 LV⟩)::T74
theorem h75:tw Tryz.prog T75:=fk (bt 5 [] []) h74 [] trivial Tryz.func75 (by kernel_rfl) fun x=>by kernel_rfl
noncomputable def T76:List (bR×gY):=((116,[]),⟨true,[o1],[o17],u1 L5⟩)::T75
theorem h76:tw Tryz.prog T76:=fk (bt 5 [] []) h75 [] trivial Tryz.func116 (by kernel_rfl) fun x=>by kernel_rfl
noncomputable def T77:List (bR×gY):=((113,[]),⟨true,[a9],[o17],u7 OC⟩)::T76
theorem h77:tw Tryz.prog T77:=fk (bt 45 [] []) h76 [] trivial Tryz.func113 (by kernel_rfl) fun x=>by kernel_rfl
noncomputable def T78:List (bR×gY):=((112,[]),⟨true,[a9],[o17],u7 Rs⟩)::T77
theorem h78:tw Tryz.prog T78:=fk (bt 6 [] []) h77 [] trivial Tryz.func112 (by kernel_rfl) fun x=>by kernel_rfl
noncomputable def J8:ep:=⟨[(0,o18),(1,.fn 112 []),(7,o1)],[(8,o1)],[(.ret,[(4,o1)]),(.exit 0,[])],Ji⟩
theorem L4:mT Tryz.prog (env 19 [] []) (lp 0 (body Tryz.f150) 0) J8:=lk (bt _ _ _) h78 (n:=0) [] trivial (by kernel_rfl) fun k x=>by kernel_rfl
noncomputable def T79:List (bR×gY):=((150,[112]),⟨true,[o18,.fn 112 []],[o1],u1 Jy⟩)::T78
theorem h79:tw Tryz.prog T79:=fk (bt 19 [] []) h78 [(0,J8)] ⟨L4,trivial⟩ Tryz.func150 (by kernel_rfl) fun x=>by kernel_rfl
noncomputable def T80:List (bR×gY):=((111,[112]),⟨true,[o18,.fn 112 []],[o17],u1 Jh⟩)::T79
theorem h80:tw Tryz.prog T80:=fk (bt 9 [] []) h79 [] trivial Tryz.func111 (by kernel_rfl) fun x=>by kernel_rfl
noncomputable def T81:List (bR×gY):=((76,[]),⟨true,[o18],[o17],u1 Q6⟩)::T80
theorem h81:tw Tryz.prog T81:=fk (bt 11 [] []) h80 [] trivial Tryz.func76 (by kernel_rfl) fun x=>by kernel_rfl
noncomputable def T82:List (bR×gY):=((83,[]),⟨true,[a6],[o17],u7 RW⟩)::T81
theorem h82:tw Tryz.prog T82:=fk (bt 36 [] []) h81 [] trivial Tryz.func83 (by kernel_rfl) fun x=>by kernel_rfl
noncomputable def Se:ep:=⟨[(0,o19),(9,o19),(10,o1)],[(11,o1)],[(.ret,[(2,o17)]),(.exit 0,[])],PM⟩
theorem Vy:mT Tryz.prog (env 53 [] []) (lp 0 (body Tryz.f43) 0) Se:=lk (bt _ _ _) h82 (n:=0) [] trivial (by kernel_rfl) fun k x=>by kernel_rfl
noncomputable def T83:List (bR×gY):=((43,[]),⟨true,[o19],[o17],u1 Lb⟩)::T82
theorem h83:tw Tryz.prog T83:=fk (bt 53 [] []) h82 [(0,Se)] ⟨Vy,trivial⟩ Tryz.func43 (by kernel_rfl) fun x=>by kernel_rfl
noncomputable def TV:ep:=⟨[(0,o20),(1,o1),(10,o20),(11,o1)],[(12,o1)],[(.ret,[(4,o17)]),(.exit 0,[])],Rv⟩
theorem Wm:mT Tryz.prog (env 49 [] []) (lp 0 (body Tryz.f134) 0) TV:=lk (bt _ _ _) h83 (n:=0) [] trivial (by kernel_rfl) fun k x=>by kernel_rfl
noncomputable def T84:List (bR×gY):=((134,[]),⟨true,[o20,o1],[o17],u2 PU⟩)::T83
theorem h84:tw Tryz.prog T84:=fk (bt 49 [] []) h83 [(0,TV)] ⟨Wm,trivial⟩ Tryz.func134 (by kernel_rfl) fun x=>by kernel_rfl
noncomputable def T85:List (bR×gY):=((86,[]),⟨true,[a10],[o17],u2 Ol⟩)::T84
theorem h85:tw Tryz.prog T85:=fk (bt 11 [] []) h84 [] trivial Tryz.func86 (by kernel_rfl) fun x=>by kernel_rfl
noncomputable def S0:ep:=⟨[(1,.ro t21),(23,o2),(24,o1)],[(25,o1)],[(.ret,[(2,o17)]),(.exit 0,[])],QL⟩
theorem VR:mT Tryz.prog (env 118 [] []) (lp 0 (body Tryz.f151) 0) S0:=lk (bt _ _ _) h85 (n:=0) [] trivial (by kernel_rfl) fun k x=>by kernel_rfl
noncomputable def S1:ep:=⟨[(1,.ro t21),(54,o22),(55,o1)],[(5,o1),(6,.one (.mp .i64)),(7,.one (.mp .i64)),(56,o1)],[(.ret,[(2,o17)]),(.exit 2,[(5,o1),(6,.one (.mp .i64))])],QM⟩
theorem VS:mT Tryz.prog (env 118 [] []) (lp 0 (body Tryz.f151) 1) S1:=lk (bt _ _ _) h85 (n:=2) [] trivial (by kernel_rfl) fun k x=>by kernel_rfl
noncomputable def S2:ep:=⟨[(1,.ro t21),(5,o1),(103,o2),(104,o1)],[(6,.one (.mp .i64)),(105,o1)],[(.ret,[(2,o17)]),(.exit 4,[])],QN⟩
theorem VT:mT Tryz.prog (env 118 [] []) (lp 0 (body Tryz.f151) 2) S2:=lk (bt _ _ _) h85 (n:=4) [] trivial (by kernel_rfl) fun k x=>by kernel_rfl
noncomputable def T86:List (bR×gY):=((151,[]),⟨true,[a12],[o17],u3 O3⟩)::T85
theorem h86:tw Tryz.prog T86:=fk (bt 118 [] []) h85 [(0,S0),(2,S1),(4,S2)] ⟨VR,VS,VT,trivial⟩ Tryz.func151 (by kernel_rfl) fun x=>by kernel_rfl
noncomputable def UH:ep:=⟨[(13,o21),(14,o1),(15,o1),(23,o22),(24,o1)],[(3,.one (.mp .i64)),(25,o1)],[(.ret,[(2,o17)]),(.exit 2,[(3,.one (.mp .i64))])],SA⟩
theorem WJ:mT Tryz.prog (env 43 [] []) (lp 0 (lp 0 (body Tryz.f114) 0) 0) UH:=lk (bt _ _ _) h86 (n:=2) [] trivial (by kernel_rfl) fun k x=>by kernel_rfl
noncomputable def UG:ep:=⟨[(13,o21),(14,o1)],[(3,.one (.mp .i64)),(15,o1)],[(.ret,[(2,o17)]),(.exit 0,[])],Sz⟩
theorem WI:mT Tryz.prog (env 43 [] []) (lp 0 (body Tryz.f114) 0) UG:=lk (bt _ _ _) h86 (n:=0) [(2,UH)] ⟨WJ,trivial⟩ (by kernel_rfl) fun k x=>by kernel_rfl
noncomputable def T87:List (bR×gY):=((114,[]),⟨true,[o21],[o17],u1 Pz⟩)::T86
theorem h87:tw Tryz.prog T87:=fk (bt 43 [] []) h86 [(0,UG)] ⟨WI,trivial⟩ Tryz.func114 (by kernel_rfl) fun x=>by kernel_rfl
noncomputable def T88:List (bR×gY):=((152,[]),⟨true,[a5],[o17],u5 W6⟩)::T87
theorem h88:tw Tryz.prog T88:=fk (bt 9 [] []) h87 [] trivial Tryz.func152 (by kernel_rfl) fun x=>by kernel_rfl
noncomputable def T89:List (bR×gY):=((115,[]),⟨true,[a5],[o17],u5 Oi⟩)::T88
theorem h89:tw Tryz.prog T89:=fk (bt 90 [] []) h88 [] trivial Tryz.func115 (by kernel_rfl) fun x=>by kernel_rfl
noncomputable def T90:List (bR×gY):=((77,[]),⟨true,[a13,o1],[o17],u16 Tr⟩)::T89
theorem h90:tw Tryz.prog T90:=fk (bt 89 [] []) h89 [] trivial Tryz.func77 (by kernel_rfl) fun x=>by kernel_rfl
noncomputable def T91:List (bR×gY):=((46,[]),⟨true,[a13,a8],[o17],u28 Nh⟩)::T90
theorem h91:tw Tryz.prog T91:=fk (bt 29 [] []) h90 [] trivial Tryz.func46 (by kernel_rfl) fun x=>by kernel_rfl
noncomputable def T92:List (bR×gY):=((117,[]),⟨true,[a7],[o17],u5 Tl⟩)::T91
theorem h92:tw Tryz.prog T92:=fk (bt 26 [] []) h91 [] trivial Tryz.func117 (by kernel_rfl) fun x=>by kernel_rfl
noncomputable def T93:List (bR×gY):=((118,[]),⟨true,[a13,o1],[o1],u16 O4⟩)::T92
theorem h93:tw Tryz.prog T93:=fk (bt 21 [] []) h92 [] trivial Tryz.func118 (by kernel_rfl) fun x=>by kernel_rfl
noncomputable def T94:List (bR×gY):=((78,[]),⟨true,[a13,o1],[o17],u16 Q8⟩)::T93
theorem h94:tw Tryz.prog T94:=fk (bt 140 [] []) h93 [] trivial Tryz.func78 (by kernel_rfl) fun x=>by kernel_rfl
noncomputable def TY:ep:=⟨[(1,.ro t27),(4,o1),(14,o23),(15,o1),(16,o1),(22,o21),(23,o1),(24,o1),(29,o22),(30,o1)],[(3,o1),(31,o1)],[(.ret,[(2,o17)]),(.exit 4,[(3,o1)])],RB⟩
theorem Wp:mT Tryz.prog (env 107 [] []) (lp 2 (lp 0 (lp 0 (body Tryz.f79) 0) 0) 0) TY:=lk (bt _ _ _) h94 (n:=4) [] trivial (by kernel_rfl) fun k x=>by kernel_rfl
noncomputable def TX:ep:=⟨[(1,.ro t27),(4,o1),(14,o23),(15,o1),(16,o1),(22,o21),(23,o1)],[(3,o1),(24,o1)],[(.ret,[(2,o17)]),(.exit 2,[(3,o1)])],RA⟩
theorem Wo:mT Tryz.prog (env 107 [] []) (lp 0 (lp 0 (body Tryz.f79) 0) 0) TX:=lk (bt _ _ _) h94 (n:=2) [(4,TY)] ⟨Wp,trivial⟩ (by kernel_rfl) fun k x=>by kernel_rfl
noncomputable def TW:ep:=⟨[(1,.ro t27),(14,o23),(15,o1)],[(3,o1),(16,o1)],[(.ret,[(2,o17)]),(.exit 0,[(3,o1)])],UW⟩
theorem Wn:mT Tryz.prog (env 107 [] []) (lp 0 (body Tryz.f79) 0) TW:=lk (bt _ _ _) h94 (n:=0) [(2,TX)] ⟨Wo,trivial⟩ (by kernel_rfl) fun k x=>by kernel_rfl
noncomputable def TZ:ep:=⟨[(88,o24),(89,o1)],[(3,o1),(90,o1)],[(.exit 6,[(3,o1)])],UX⟩
theorem Wq:mT Tryz.prog (env 107 [] []) (lp 0 (body Tryz.f79) 1) TZ:=lk (bt _ _ _) h94 (n:=6) [] trivial (by kernel_rfl) fun k x=>by kernel_rfl
noncomputable def T95:List (bR×gY):=((79,[]),⟨true,[a13],[o17],Z3 RX⟩)::T94
theorem h95:tw Tryz.prog T95:=fk (bt 107 [] []) h94 [(0,TW),(6,TZ)] ⟨Wn,Wq,trivial⟩ Tryz.func79 (by kernel_rfl) fun x=>by kernel_rfl
noncomputable def UJ:ep:=⟨[(1,.ro t27),(7,o24),(8,o1)],[(3,o1),(9,o1)],[(.exit 0,[(3,o1)])],Va⟩
theorem WL:mT Tryz.prog (env 27 [] []) (lp 0 (body Tryz.f80) 0) UJ:=lk (bt _ _ _) h95 (n:=0) [] trivial (by kernel_rfl) fun k x=>by kernel_rfl
noncomputable def T96:List (bR×gY):=((80,[]),⟨true,[a13],[o1],Z3 Tp⟩)::T95
theorem h96:tw Tryz.prog T96:=fk (bt 27 [] []) h95 [(0,UJ)] ⟨WL,trivial⟩ Tryz.func80 (by kernel_rfl) fun x=>by kernel_rfl
noncomputable def Sf:ep:=⟨[(1,.ro t27),(54,o1)],[(55,o1)],[(.ret,[(2,o17)]),(.exit 0,[])],Tm⟩
theorem Vz:mT Tryz.prog (env 83 [] []) (lp 0 (body Tryz.f41) 0) Sf:=lk (bt _ _ _) h96 (n:=0) [] trivial (by kernel_rfl) fun k x=>by kernel_rfl
noncomputable def Sg:ep:=⟨[(1,.ro t27),(65,o1)],[(66,o1)],[(.ret,[(2,o17)]),(.exit 2,[])],Tn⟩
theorem VA:mT Tryz.prog (env 83 [] []) (lp 0 (body Tryz.f41) 1) Sg:=lk (bt _ _ _) h96 (n:=2) [] trivial (by kernel_rfl) fun k x=>by kernel_rfl
noncomputable def T97:List (bR×gY):=((41,[]),⟨true,[a13],[o17],Z3 PN⟩)::T96
theorem h97:tw Tryz.prog T97:=fk (bt 83 [] []) h96 [(0,Sf),(2,Sg)] ⟨Vz,VA,trivial⟩ Tryz.func41 (by kernel_rfl) fun x=>by kernel_rfl
noncomputable def T98:List (bR×gY):=((81,[]),⟨true,[o19],[o13],u1 JP⟩)::T97
theorem h98:tw Tryz.prog T98:=fk (bt 8 [] []) h97 [] trivial Tryz.func81 (by kernel_rfl) fun x=>by kernel_rfl
noncomputable def T99:List (bR×gY):=((120,[]),⟨true,[a6,.ro t12],[o17],u14 Nn⟩)::T98
theorem h99:tw Tryz.prog T99:=fk (bt 16 [] []) h98 [] trivial Tryz.func120 (by kernel_rfl) fun x=>by kernel_rfl
noncomputable def JX:ep:=⟨[(0,o19),(1,.fn 120 [t12]),(7,o1)],[(8,o1)],[(.ret,[(4,o1)]),(.exit 0,[])],I0⟩
theorem LC:mT Tryz.prog (env 19 [] []) (lp 0 (body Tryz.f119) 0) JX:=lk (bt _ _ _) h99 (n:=0) [] trivial (by kernel_rfl) fun k x=>by kernel_rfl
noncomputable def adu:List (bR×gY):=((119,[120]),⟨true,[o19,.fn 120 [t12]],[o1],u8 Io⟩)::T99
theorem af0:tw Tryz.prog adu:=fk (bt 19 [] []) h99 [(0,JX)] ⟨LC,trivial⟩ Tryz.func119 (by kernel_rfl) fun x=>by kernel_rfl
noncomputable def adv:List (bR×gY):=((132,[]),⟨true,[o25],[o1],u1 Xg⟩)::adu
theorem af1:tw Tryz.prog adv:=fk (bt 19 [] []) af0 [] trivial Tryz.func132 (by kernel_rfl) fun x=>by kernel_rfl
noncomputable def adw:List (bR×gY):=((133,[]),⟨true,[o26],[o1],u1 UY⟩)::adv
theorem af2:tw Tryz.prog adw:=fk (bt 25 [] []) af1 [] trivial Tryz.func133 (by kernel_rfl) fun x=>by kernel_rfl
noncomputable def adx:List (bR×gY):=((85,[]),⟨true,[o26],[o1],u1 N2⟩)::adw
theorem af3:tw Tryz.prog adx:=fk (bt 8 [] []) af2 [] trivial Tryz.func85 (by kernel_rfl) fun x=>by kernel_rfl
noncomputable def adz:List (bR×gY):=((137,[]),⟨true,[o1],[o17],u1 M0⟩)::adx
theorem af4:tw Tryz.prog adz:=fk (bt 6 [] []) af3 [] trivial Tryz.func137 (by kernel_rfl) fun x=>by kernel_rfl
noncomputable def adA:List (bR×gY):=((92,[]),⟨true,[o1,o1],[o1],u2 Mt⟩)::adz
theorem aeY:tw Tryz.prog adA:=fk (bt 20 [] []) af4 [] trivial Tryz.func92 (by kernel_rfl) fun x=>by kernel_rfl
noncomputable def UF:ep:=⟨[(3,o1),(6,o2),(7,o1)],[(8,o1)],[(.ret,[(2,o1)]),(.exit 0,[])],Sw⟩
theorem WH:mT Tryz.prog (env 18 [] []) (lp 0 (body Tryz.f91) 0) UF:=lk (bt _ _ _) aeY (n:=0) [] trivial (by kernel_rfl) fun k x=>by kernel_rfl
noncomputable def adB:List (bR×gY):=((91,[]),⟨true,[o2],[o1],u1 Rk⟩)::adA
theorem af5:tw Tryz.prog adB:=fk (bt 18 [] []) aeY [(0,UF)] ⟨WH,trivial⟩ Tryz.func91 (by kernel_rfl) fun x=>by kernel_rfl
noncomputable def adC:List (bR×gY):=((122,[]),⟨true,[a6,a6],[o1],u14 hG⟩)::adB
theorem acR:tw Tryz.prog adC:=fk (bt 17 [] []) af5 [] trivial Tryz.func122 (by kernel_rfl) fun x=>by kernel_rfl
noncomputable def J4:ep:=⟨[(1,o1),(2,o1),(3,.fn 122 []),(8,o1)],[(0,o13),(9,o1)],[(.exit 2,[(0,o13)])],Ik⟩
theorem LS:mT Tryz.prog (env 53 [] []) (lp 0 (lp 0 (body Tryz.f167) 0) 0) J4:=lk (bt _ _ _) acR (n:=2) [] trivial (by kernel_rfl) fun k x=>by kernel_rfl
noncomputable def J3:ep:=⟨[(1,o1),(2,o1),(3,.fn 122 [])],[(0,o13),(8,o1)],[(.exit 0,[(0,o13)])],Ij⟩
theorem LR:mT Tryz.prog (env 53 [] []) (lp 0 (body Tryz.f167) 0) J3:=lk (bt _ _ _) acR (n:=0) [(2,J4)] ⟨LS,trivial⟩ (by kernel_rfl) fun k x=>by kernel_rfl
noncomputable def adD:List (bR×gY):=((167,[122]),⟨true,[o13,o1,o1,.fn 122 []],[],u3 Iv⟩)::adC
theorem aeZ:tw Tryz.prog adD:=fk (bt 53 [] []) acR [(0,J3)] ⟨LR,trivial⟩ Tryz.func167 (by kernel_rfl) fun x=>by kernel_rfl
noncomputable def Kp:ep:=⟨[(2,o1),(3,o1),(4,.fn 122 [])],[(0,o13),(10,o1)],[(.exit 0,[(0,o13)]),(.ret,[(0,o13)])],II⟩
theorem Ml:mT Tryz.prog (env 82 [] []) (lp 0 (body Tryz.f178) 0) Kp:=lk (bt _ _ _) aeZ (n:=0) [] trivial (by kernel_rfl) fun k x=>by kernel_rfl
noncomputable def adE:List (bR×gY):=((178,[122]),⟨true,[o13,o1,o1,o1,.fn 122 []],[],u4 FI⟩)::adD
theorem acS:tw Tryz.prog adE:=fk (bt 82 [] []) aeZ [(0,Kp)] ⟨Ml,trivial⟩ Tryz.func178 (by kernel_rfl) fun x=>by kernel_rfl
noncomputable def Kn:ep:=⟨[(3,.fn 122 []),(8,o1),(9,o1),(10,o1)],[(0,o13),(11,o1)],[(.exit 0,[(0,o13)])],IF⟩
theorem Mj:mT Tryz.prog (env 60 [] []) (lp 0 (body Tryz.f168) 0) Kn:=lk (bt _ _ _) acS (n:=0) [] trivial (by kernel_rfl) fun k x=>by kernel_rfl
noncomputable def Ko:ep:=⟨[(3,.fn 122 []),(8,o1),(9,o1)],[(0,o13),(12,o1)],[(.exit 2,[(0,o13)])],IG⟩
theorem Mk:mT Tryz.prog (env 60 [] []) (lp 0 (body Tryz.f168) 1) Ko:=lk (bt _ _ _) acS (n:=2) [] trivial (by kernel_rfl) fun k x=>by kernel_rfl
noncomputable def adF:List (bR×gY):=((168,[122]),⟨true,[o13,o1,o1,.fn 122 []],[],u3 IW⟩)::adE
theorem af6:tw Tryz.prog adF:=fk (bt 60 [] []) acS [(0,Kn),(2,Ko)] ⟨Mj,Mk,trivial⟩ Tryz.func168 (by kernel_rfl) fun x=>by kernel_rfl
noncomputable def adG:List (bR×gY):=((155,[]),⟨true,[o1],[o26],u1 KV⟩)::adF
theorem af7:tw Tryz.prog adG:=fk (bt 7 [] []) af6 [] trivial Tryz.func155 (by kernel_rfl) fun x=>by kernel_rfl
noncomputable def adH:List (bR×gY):=((156,[]),⟨false,[.blk [v18]],[o26],u1 __slices_xorshift__Next⟩)::adG
theorem ae0:tw Tryz.prog adH:=fk (bt 33 [] []) af7 [] trivial Tryz.func156 (by kernel_rfl) fun x=>by kernel_rfl
noncomputable def J2:ep:=⟨[(1,o1),(8,o1),(10,o26)],[(0,o13),(9,.blk [v18]),(11,o1)],[(.exit 0,[(0,o13)])],Ii⟩
theorem LQ:mT Tryz.prog (env 67 [] []) (lp 0 (body Tryz.f169) 0) J2:=lk (bt _ _ _) ae0 (n:=0) [] trivial (by kernel_rfl) fun k x=>by kernel_rfl
noncomputable def adI:List (bR×gY):=((169,[122]),⟨true,[o13,o1,o1,.fn 122 []],[],u3 Iu⟩)::adH
theorem af8:tw Tryz.prog adI:=fk (bt 67 [] []) ae0 [(0,J2)] ⟨LQ,trivial⟩ Tryz.func169 (by kernel_rfl) fun x=>by kernel_rfl
noncomputable def adJ:List (bR×gY):=((182,[122]),⟨false,[o19,o1,o1,.blk [v1],.fn 122 []],[o1,o1],u4 vp⟩)::adI
theorem af9:tw Tryz.prog adJ:=fk (bt 32 [] []) af8 [] trivial Tryz.func182 (by kernel_rfl) fun x=>by kernel_rfl
noncomputable def adK:List (bR×gY):=((180,[122]),⟨false,[o19,o1,o1,o1,.blk [v1],.fn 122 []],[o1],u5 vn⟩)::adJ
theorem aga:tw Tryz.prog adK:=fk (bt 41 [] []) af9 [] trivial Tryz.func180 (by kernel_rfl) fun x=>by kernel_rfl
noncomputable def adL:List (bR×gY):=((179,[122]),⟨false,[o19,o1,.blk [v1],.fn 122 []],[o1],u3 qB⟩)::adK
theorem agb:tw Tryz.prog adL:=fk (bt 18 [] []) aga [] trivial Tryz.func179 (by kernel_rfl) fun x=>by kernel_rfl
noncomputable def adM:List (bR×gY):=((170,[122]),⟨true,[o19,o1,o1,.fn 122 []],[o1,o1],u3 yx⟩)::adL
theorem ae1:tw Tryz.prog adM:=fk (bt 63 [] []) agb [] trivial Tryz.func170 (by kernel_rfl) fun x=>by kernel_rfl
noncomputable def J5:ep:=⟨[],[(0,o13),(8,o1),(9,o1)],[(.exit 0,[(0,o13)])],Ip⟩
theorem LW:mT Tryz.prog (env 34 [] []) (lp 0 (body Tryz.f171) 0) J5:=lk (bt _ _ _) ae1 (n:=0) [] trivial (by kernel_rfl) fun k x=>by kernel_rfl
noncomputable def adN:List (bR×gY):=((171,[122]),⟨true,[o13,o1,o1,.fn 122 []],[],u3 xh⟩)::adM
theorem aa7:tw Tryz.prog adN:=fk (bt 34 [] []) ae1 [(0,J5)] ⟨LW,trivial⟩ Tryz.func171 (by kernel_rfl) fun x=>by kernel_rfl
noncomputable def JM:ep:=⟨[(1,o1),(2,o1),(3,.fn 122 []),(10,o1)],[(0,o13),(9,o1)],[(.exit 2,[(0,o13),(9,o1)])],xx⟩
theorem Lf:mT Tryz.prog (env 141 [] []) (lp 0 (lp 0 (body Tryz.f172) 0) 0) JM:=lk (bt _ _ _) aa7 (n:=2) [] trivial (by kernel_rfl) fun k x=>by kernel_rfl
noncomputable def JN:ep:=⟨[(1,o1),(2,o1),(3,.fn 122 []),(9,o1),(10,o1)],[(0,o13),(11,o1)],[(.exit 4,[(0,o13)])],ye⟩
theorem Lg:mT Tryz.prog (env 141 [] []) (lp 0 (lp 0 (body Tryz.f172) 0) 1) JN:=lk (bt _ _ _) aa7 (n:=4) [] trivial (by kernel_rfl) fun k x=>by kernel_rfl
noncomputable def JO:ep:=⟨[(1,o1),(2,o1),(3,.fn 122 []),(9,o1),(10,o1)],[(0,o13),(12,o1)],[(.exit 6,[(0,o13)])],qW⟩
theorem Lh:mT Tryz.prog (env 141 [] []) (lp 0 (lp 0 (body Tryz.f172) 0) 2) JO:=lk (bt _ _ _) aa7 (n:=6) [] trivial (by kernel_rfl) fun k x=>by kernel_rfl
noncomputable def JL:ep:=⟨[(1,o1),(2,o1),(3,.fn 122 [])],[(0,o13),(9,o1),(10,o1)],[(.ret,[(0,o13),(8,o17)]),(.exit 0,[(0,o13)])],xl⟩
theorem Le:mT Tryz.prog (env 141 [] []) (lp 0 (body Tryz.f172) 0) JL:=lk (bt _ _ _) aa7 (n:=0) [(2,JM),(4,JN),(6,JO)] ⟨Lf,Lg,Lh,trivial⟩ (by kernel_rfl) fun k x=>by kernel_rfl
noncomputable def adO:List (bR×gY):=((172,[122]),⟨true,[o13,o1,o1,.fn 122 []],[o17],u3 kx⟩)::adN
theorem abI:tw Tryz.prog adO:=fk (bt 141 [] []) aa7 [(0,JL)] ⟨Le,trivial⟩ Tryz.func172 (by kernel_rfl) fun x=>by kernel_rfl
noncomputable def JZ:ep:=⟨[(1,o1),(4,.fn 122 []),(12,o1)],[(0,o13),(11,o1)],[(.exit 2,[(0,o13),(11,o1)])],Ie⟩
theorem LJ:mT Tryz.prog (env 90 [] []) (lp 0 (lp 0 (body Tryz.f173) 0) 0) JZ:=lk (bt _ _ _) abI (n:=2) [] trivial (by kernel_rfl) fun k x=>by kernel_rfl
noncomputable def J0:ep:=⟨[(1,o1),(4,.fn 122 []),(11,o1)],[(0,o13),(12,o1)],[(.exit 4,[(0,o13),(12,o1)])],Ig⟩
theorem LK:mT Tryz.prog (env 90 [] []) (lp 0 (lp 0 (body Tryz.f173) 0) 1) J0:=lk (bt _ _ _) abI (n:=4) [] trivial (by kernel_rfl) fun k x=>by kernel_rfl
noncomputable def JY:ep:=⟨[(1,o1),(4,.fn 122 [])],[(0,o13),(11,o1),(12,o1)],[(.exit 0,[(0,o13),(11,o1)])],Ic⟩
theorem LI:mT Tryz.prog (env 90 [] []) (lp 0 (body Tryz.f173) 0) JY:=lk (bt _ _ _) abI (n:=0) [(2,JZ),(4,J0)] ⟨LJ,LK,trivial⟩ (by kernel_rfl) fun k x=>by kernel_rfl
noncomputable def adP:List (bR×gY):=((173,[122]),⟨true,[o13,o1,o1,o1,.fn 122 []],[o1],u4 bu⟩)::adO
theorem aag:tw Tryz.prog adP:=fk (bt 90 [] []) abI [(0,JY)] ⟨LI,trivial⟩ Tryz.func173 (by kernel_rfl) fun x=>by kernel_rfl
noncomputable def Kc:ep:=⟨[(1,o1),(4,.fn 122 []),(13,o1)],[(0,o13),(12,o1)],[(.exit 0,[(0,o13),(12,o1)])],Iy⟩
theorem L8:mT Tryz.prog (env 178 [] []) (lp 0 (body Tryz.f174) 0) Kc:=lk (bt _ _ _) aag (n:=0) [] trivial (by kernel_rfl) fun k x=>by kernel_rfl
noncomputable def Kd:ep:=⟨[(1,o1),(4,.fn 122 []),(12,o1)],[(0,o13),(13,o1)],[(.exit 2,[(0,o13),(13,o1)])],Iz⟩
theorem L9:mT Tryz.prog (env 178 [] []) (lp 0 (body Tryz.f174) 1) Kd:=lk (bt _ _ _) aag (n:=2) [] trivial (by kernel_rfl) fun k x=>by kernel_rfl
noncomputable def Kf:ep:=⟨[(1,o1),(4,.fn 122 []),(13,o1)],[(0,o13),(12,o1)],[(.exit 6,[(0,o13),(12,o1)])],IB⟩
theorem Mb:mT Tryz.prog (env 178 [] []) (lp 4 (lp 0 (body Tryz.f174) 2) 0) Kf:=lk (bt _ _ _) aag (n:=6) [] trivial (by kernel_rfl) fun k x=>by kernel_rfl
noncomputable def Kg:ep:=⟨[(1,o1),(4,.fn 122 []),(12,o1)],[(0,o13),(13,o1)],[(.exit 8,[(0,o13),(13,o1)])],IC⟩
theorem Mc:mT Tryz.prog (env 178 [] []) (lp 4 (lp 0 (body Tryz.f174) 2) 1) Kg:=lk (bt _ _ _) aag (n:=8) [] trivial (by kernel_rfl) fun k x=>by kernel_rfl
noncomputable def Ke:ep:=⟨[(1,o1),(4,.fn 122 [])],[(0,o13),(12,o1),(13,o1)],[(.exit 4,[(0,o13),(13,o1)])],IA⟩
theorem Ma:mT Tryz.prog (env 178 [] []) (lp 0 (body Tryz.f174) 2) Ke:=lk (bt _ _ _) aag (n:=4) [(6,Kf),(8,Kg)] ⟨Mb,Mc,trivial⟩ (by kernel_rfl) fun k x=>by kernel_rfl
noncomputable def abw:List (bR×gY):=((174,[122]),⟨true,[o13,o1,o1,o1,.fn 122 []],[o1,o17],u4 bg⟩)::adP
theorem acT:tw Tryz.prog abw:=fk (bt 178 [] []) aag [(0,Kc),(2,Kd),(4,Ke)] ⟨L8,L9,Ma,trivial⟩ Tryz.func174 (by kernel_rfl) fun x=>by kernel_rfl
noncomputable def p4(rec:(List (Int×Int×Int×Int×Int×Int×Int))->Int->Int->Int->Option ((List (Int×Int×Int×Int×Int×Int×Int))×Unit)):gY:=⟨true,[o13,o1,o1,o1,.fn 122 []],[],u4 rec⟩
noncomputable def Kr(rec:(List (Int×Int×Int×Int×Int×Int×Int))->Int->Int->Int->Option ((List (Int×Int×Int×Int×Int×Int×Int))×Unit)):ep:=⟨[(4,.fn 122 [])],[(0,o13),(1,o1),(2,o1),(3,o1),(10,o17),(11,o17)],[(.ret,[(0,o13)])],IJ rec⟩
theorem Mm(rec:(List (Int×Int×Int×Int×Int×Int×Int))->Int->Int->Int->Option ((List (Int×Int×Int×Int×Int×Int×Int))×Unit))(hr:eK Tryz.prog 153 (p4 rec)):mT Tryz.prog (env 148 [] []) (lp 0 (body Tryz.f153) 0) (Kr rec):=lk (bt _ _ _) (T:=((153,[122]),p4 rec)::abw) ⟨hr,acT⟩ (n:=0) [] trivial (by kernel_rfl) fun k x=>by kernel_rfl
theorem Ms(rec:(List (Int×Int×Int×Int×Int×Int×Int))->Int->Int->Int->Option ((List (Int×Int×Int×Int×Int×Int×Int))×Unit))(hr:eK Tryz.prog 153 (p4 rec)):eK Tryz.prog 153 (p4 (IV rec)):=(fk (ks:=[]) (bt 148 [] []) (T:=((153,[122]),p4 rec)::abw) ⟨hr,acT⟩ [(0,Kr rec)] ⟨(Mm rec hr),trivial⟩ Tryz.func153 (by kernel_rfl) fun x=>by kernel_rfl).1
noncomputable def adQ:List (bR×gY):=((153,[122]),p4 IX)::abw
theorem agc:tw Tryz.prog adQ:=⟨C9 (F:=fun n=>p4 (tt n)) (B5 (fn:=Tryz.f153) (c:=body Tryz.f153) Tryz.func153 (by kernel_rfl) (by kernel_rfl) (fun _=>rfl)) (fun n h=>Ms (tt n) h) big,acT⟩
noncomputable def adR:List (bR×gY):=((121,[122]),⟨true,[o13,.fn 122 []],[],u1 Iq⟩)::adQ
theorem ae2:tw Tryz.prog adR:=fk (bt 14 [] []) agc [] trivial Tryz.func121 (by kernel_rfl) fun x=>by kernel_rfl
noncomputable def PG:ep:=⟨[(0,o19),(20,o19),(21,o1)],[(6,o13),(22,o1)],[(.ret,[(4,o13),(5,o17)]),(.exit 0,[(6,o13)])],N3⟩
theorem Um:mT Tryz.prog (env 50 [] []) (lp 0 (body Tryz.f82) 0) PG:=lk (bt _ _ _) ae2 (n:=0) [] trivial (by kernel_rfl) fun k x=>by kernel_rfl
noncomputable def adS:List (bR×gY):=((82,[]),⟨true,[o19,o19],[o13,o17],u2 NS⟩)::adR
theorem ae3:tw Tryz.prog adS:=fk (bt 50 [] []) ae2 [(0,PG)] ⟨Um,trivial⟩ Tryz.func82 (by kernel_rfl) fun x=>by kernel_rfl
noncomputable def UK:ep:=⟨[(13,o23),(14,o1)],[(4,o13),(15,o1)],[(.ret,[(2,o13),(3,o17)]),(.exit 0,[(4,o13)])],Vb⟩
theorem WM:mT Tryz.prog (env 31 [] []) (lp 0 (body Tryz.f42) 0) UK:=lk (bt _ _ _) ae3 (n:=0) [] trivial (by kernel_rfl) fun k x=>by kernel_rfl
noncomputable def adT:List (bR×gY):=((42,[]),⟨true,[a13],[o13,o17],Z3 Tq⟩)::adS
theorem agd:tw Tryz.prog adT:=fk (bt 31 [] []) ae3 [(0,UK)] ⟨WM,trivial⟩ Tryz.func42 (by kernel_rfl) fun x=>by kernel_rfl
noncomputable def adU:List (bR×gY):=((21,[]),⟨true,[a13],[o13,o17],Z3 OA⟩)::adT
theorem age:tw Tryz.prog adU:=fk (bt 11 [] []) agd [] trivial Tryz.func21 (by kernel_rfl) fun x=>by kernel_rfl
noncomputable def adV:List (bR×gY):=((129,[]),⟨true,[o1,o1],[o17],u2 rp⟩)::adU
theorem acU:tw Tryz.prog adV:=fk (bt 17 [] []) age [] trivial Tryz.func129 (by kernel_rfl) fun x=>by kernel_rfl
noncomputable def MR:ep:=⟨[(1,o1),(2,o1),(6,o1)],[(0,o10),(7,o1)],[(.exit 2,[(0,o10)])],KH⟩
theorem OO:mT Tryz.prog (env 49 [] []) (lp 0 (lp 0 (body Tryz.f123) 0) 0) MR:=lk (bt _ _ _) acU (n:=2) [] trivial (by kernel_rfl) fun k x=>by kernel_rfl
noncomputable def MQ:ep:=⟨[(1,o1),(2,o1)],[(0,o10),(6,o1)],[(.exit 0,[(0,o10)])],KG⟩
theorem ON:mT Tryz.prog (env 49 [] []) (lp 0 (body Tryz.f123) 0) MQ:=lk (bt _ _ _) acU (n:=0) [(2,MR)] ⟨OO,trivial⟩ (by kernel_rfl) fun k x=>by kernel_rfl
noncomputable def adW:List (bR×gY):=((123,[]),⟨true,[o10,o1,o1],[],u3 K0⟩)::adV
theorem h128:tw Tryz.prog adW:=fk (bt 49 [] []) acU [(0,MQ)] ⟨ON,trivial⟩ Tryz.func123 (by kernel_rfl) fun x=>by kernel_rfl
noncomputable def Nz:ep:=⟨[(2,o1),(3,o1)],[(0,o10),(8,o1)],[(.exit 0,[(0,o10)]),(.ret,[(0,o10)])],Lm⟩
theorem Qo:mT Tryz.prog (env 76 [] []) (lp 0 (body Tryz.f154) 0) Nz:=lk (bt _ _ _) h128 (n:=0) [] trivial (by kernel_rfl) fun k x=>by kernel_rfl
noncomputable def adX:List (bR×gY):=((154,[]),⟨true,[o10,o1,o1,o1],[],u4 K1⟩)::adW
theorem acV:tw Tryz.prog adX:=fk (bt 76 [] []) h128 [(0,Nz)] ⟨Qo,trivial⟩ Tryz.func154 (by kernel_rfl) fun x=>by kernel_rfl
noncomputable def Nx:ep:=⟨[(6,o1),(7,o1),(8,o1)],[(0,o10),(9,o1)],[(.exit 0,[(0,o10)])],Lk⟩
theorem Qm:mT Tryz.prog (env 56 [] []) (lp 0 (body Tryz.f124) 0) Nx:=lk (bt _ _ _) acV (n:=0) [] trivial (by kernel_rfl) fun k x=>by kernel_rfl
noncomputable def Ny:ep:=⟨[(6,o1),(7,o1)],[(0,o10),(10,o1)],[(.exit 2,[(0,o10)])],Ll⟩
theorem Qn:mT Tryz.prog (env 56 [] []) (lp 0 (body Tryz.f124) 1) Ny:=lk (bt _ _ _) acV (n:=2) [] trivial (by kernel_rfl) fun k x=>by kernel_rfl
noncomputable def adY:List (bR×gY):=((124,[]),⟨true,[o10,o1,o1],[],u3 LX⟩)::adX
theorem ae4:tw Tryz.prog adY:=fk (bt 56 [] []) acV [(0,Nx),(2,Ny)] ⟨Qm,Qn,trivial⟩ Tryz.func124 (by kernel_rfl) fun x=>by kernel_rfl
noncomputable def MP:ep:=⟨[(1,o1),(6,o1),(8,o26)],[(0,o10),(7,.blk [v18]),(9,o1)],[(.exit 0,[(0,o10)])],KF⟩
theorem OM:mT Tryz.prog (env 65 [] []) (lp 0 (body Tryz.f125) 0) MP:=lk (bt _ _ _) ae4 (n:=0) [] trivial (by kernel_rfl) fun k x=>by kernel_rfl
noncomputable def adZ:List (bR×gY):=((125,[]),⟨true,[o10,o1,o1],[],u3 KZ⟩)::adY
theorem agf:tw Tryz.prog adZ:=fk (bt 65 [] []) ae4 [(0,MP)] ⟨OM,trivial⟩ Tryz.func125 (by kernel_rfl) fun x=>by kernel_rfl
noncomputable def ad0:List (bR×gY):=((175,[]),⟨false,[o2,o1,o1,.blk [v1]],[o1,o1],u4 KM⟩)::adZ
theorem agh:tw Tryz.prog ad0:=fk (bt 28 [] []) agf [] trivial Tryz.func175 (by kernel_rfl) fun x=>by kernel_rfl
noncomputable def ad1:List (bR×gY):=((158,[]),⟨false,[o2,o1,o1,o1,.blk [v1]],[o1],u5 KL⟩)::ad0
theorem agi:tw Tryz.prog ad1:=fk (bt 36 [] []) agh [] trivial Tryz.func158 (by kernel_rfl) fun x=>by kernel_rfl
noncomputable def ad2:List (bR×gY):=((157,[]),⟨false,[o2,o1,.blk [v1]],[o1],u3 JI⟩)::ad1
theorem agj:tw Tryz.prog ad2:=fk (bt 15 [] []) agi [] trivial Tryz.func157 (by kernel_rfl) fun x=>by kernel_rfl
noncomputable def ad3:List (bR×gY):=((126,[]),⟨true,[o2,o1,o1],[o1,o1],u3 Kz⟩)::ad2
theorem ae5:tw Tryz.prog ad3:=fk (bt 57 [] []) agj [] trivial Tryz.func126 (by kernel_rfl) fun x=>by kernel_rfl
noncomputable def MV:ep:=⟨[],[(0,o10),(6,o1),(7,o1)],[(.exit 0,[(0,o10)])],KS⟩
theorem OY:mT Tryz.prog (env 32 [] []) (lp 0 (body Tryz.f127) 0) MV:=lk (bt _ _ _) ae5 (n:=0) [] trivial (by kernel_rfl) fun k x=>by kernel_rfl
noncomputable def ad4:List (bR×gY):=((127,[]),⟨true,[o10,o1,o1],[],u3 Kq⟩)::ad3
theorem aa8:tw Tryz.prog ad4:=fk (bt 32 [] []) ae5 [(0,MV)] ⟨OY,trivial⟩ Tryz.func127 (by kernel_rfl) fun x=>by kernel_rfl
noncomputable def LZ:ep:=⟨[(1,o1),(2,o1),(8,o1)],[(0,o10),(7,o1)],[(.exit 2,[(0,o10),(7,o1)])],JT⟩
theorem NL:mT Tryz.prog (env 133 [] []) (lp 0 (lp 0 (body Tryz.f128) 0) 0) LZ:=lk (bt _ _ _) aa8 (n:=2) [] trivial (by kernel_rfl) fun k x=>by kernel_rfl
noncomputable def L0:ep:=⟨[(1,o1),(2,o1),(7,o1),(8,o1)],[(0,o10),(9,o1)],[(.exit 4,[(0,o10)])],JU⟩
theorem NM:mT Tryz.prog (env 133 [] []) (lp 0 (lp 0 (body Tryz.f128) 0) 1) L0:=lk (bt _ _ _) aa8 (n:=4) [] trivial (by kernel_rfl) fun k x=>by kernel_rfl
noncomputable def L2:ep:=⟨[(1,o1),(2,o1),(7,o1),(8,o1)],[(0,o10),(10,o1)],[(.exit 6,[(0,o10)])],Jg⟩
theorem NN:mT Tryz.prog (env 133 [] []) (lp 0 (lp 0 (body Tryz.f128) 0) 2) L2:=lk (bt _ _ _) aa8 (n:=6) [] trivial (by kernel_rfl) fun k x=>by kernel_rfl
noncomputable def LY:ep:=⟨[(1,o1),(2,o1)],[(0,o10),(7,o1),(8,o1)],[(.ret,[(0,o10),(6,o17)]),(.exit 0,[(0,o10)])],JS⟩
theorem NK:mT Tryz.prog (env 133 [] []) (lp 0 (body Tryz.f128) 0) LY:=lk (bt _ _ _) aa8 (n:=0) [(2,LZ),(4,L0),(6,L2)] ⟨NL,NM,NN,trivial⟩ (by kernel_rfl) fun k x=>by kernel_rfl
noncomputable def ad5:List (bR×gY):=((128,[]),⟨true,[o10,o1,o1],[o17],u3 Is⟩)::ad4
theorem abJ:tw Tryz.prog ad5:=fk (bt 133 [] []) aa8 [(0,LY)] ⟨NK,trivial⟩ Tryz.func128 (by kernel_rfl) fun x=>by kernel_rfl
noncomputable def MJ:ep:=⟨[(1,o1),(10,o1)],[(0,o10),(9,o1)],[(.exit 2,[(0,o10),(9,o1)])],Kv⟩
theorem Oo:mT Tryz.prog (env 84 [] []) (lp 0 (lp 0 (body Tryz.f130) 0) 0) MJ:=lk (bt _ _ _) abJ (n:=2) [] trivial (by kernel_rfl) fun k x=>by kernel_rfl
noncomputable def MK:ep:=⟨[(1,o1),(9,o1)],[(0,o10),(10,o1)],[(.exit 4,[(0,o10),(10,o1)])],Kw⟩
theorem Oq:mT Tryz.prog (env 84 [] []) (lp 0 (lp 0 (body Tryz.f130) 0) 1) MK:=lk (bt _ _ _) abJ (n:=4) [] trivial (by kernel_rfl) fun k x=>by kernel_rfl
noncomputable def MI:ep:=⟨[(1,o1)],[(0,o10),(9,o1),(10,o1)],[(.exit 0,[(0,o10),(9,o1)])],Ku⟩
theorem On:mT Tryz.prog (env 84 [] []) (lp 0 (body Tryz.f130) 0) MI:=lk (bt _ _ _) abJ (n:=0) [(2,MJ),(4,MK)] ⟨Oo,Oq,trivial⟩ (by kernel_rfl) fun k x=>by kernel_rfl
noncomputable def ad6:List (bR×gY):=((130,[]),⟨true,[o10,o1,o1,o1],[o1],u4 hD⟩)::ad5
theorem aah:tw Tryz.prog ad6:=fk (bt 84 [] []) abJ [(0,MI)] ⟨On,trivial⟩ Tryz.func130 (by kernel_rfl) fun x=>by kernel_rfl
noncomputable def Ni:ep:=⟨[(1,o1),(11,o1)],[(0,o10),(10,o1)],[(.exit 0,[(0,o10),(10,o1)])],K4⟩
theorem PB:mT Tryz.prog (env 168 [] []) (lp 0 (body Tryz.f131) 0) Ni:=lk (bt _ _ _) aah (n:=0) [] trivial (by kernel_rfl) fun k x=>by kernel_rfl
noncomputable def Nj:ep:=⟨[(1,o1),(10,o1)],[(0,o10),(11,o1)],[(.exit 2,[(0,o10),(11,o1)])],K5⟩
theorem PC:mT Tryz.prog (env 168 [] []) (lp 0 (body Tryz.f131) 1) Nj:=lk (bt _ _ _) aah (n:=2) [] trivial (by kernel_rfl) fun k x=>by kernel_rfl
noncomputable def Nl:ep:=⟨[(1,o1),(11,o1)],[(0,o10),(10,o1)],[(.exit 6,[(0,o10),(10,o1)])],K7⟩
theorem PE:mT Tryz.prog (env 168 [] []) (lp 4 (lp 0 (body Tryz.f131) 2) 0) Nl:=lk (bt _ _ _) aah (n:=6) [] trivial (by kernel_rfl) fun k x=>by kernel_rfl
noncomputable def Nm:ep:=⟨[(1,o1),(10,o1)],[(0,o10),(11,o1)],[(.exit 8,[(0,o10),(11,o1)])],K8⟩
theorem PF:mT Tryz.prog (env 168 [] []) (lp 4 (lp 0 (body Tryz.f131) 2) 1) Nm:=lk (bt _ _ _) aah (n:=8) [] trivial (by kernel_rfl) fun k x=>by kernel_rfl
noncomputable def Nk:ep:=⟨[(1,o1)],[(0,o10),(10,o1),(11,o1)],[(.exit 4,[(0,o10),(11,o1)])],K6⟩
theorem PD:mT Tryz.prog (env 168 [] []) (lp 0 (body Tryz.f131) 2) Nk:=lk (bt _ _ _) aah (n:=4) [(6,Nl),(8,Nm)] ⟨PE,PF,trivial⟩ (by kernel_rfl) fun k x=>by kernel_rfl
noncomputable def abx:List (bR×gY):=((131,[]),⟨true,[o10,o1,o1,o1],[o1,o17],u4 b8⟩)::ad6
theorem acW:tw Tryz.prog abx:=fk (bt 168 [] []) aah [(0,Ni),(2,Nj),(4,Nk)] ⟨PB,PC,PD,trivial⟩ Tryz.func131 (by kernel_rfl) fun x=>by kernel_rfl
noncomputable def JJ(rec:(List (Int))->Int->Int->Int->Option ((List (Int))×Unit)):gY:=⟨true,[o10,o1,o1,o1],[],u4 rec⟩
noncomputable def NA(rec:(List (Int))->Int->Int->Int->Option ((List (Int))×Unit)):ep:=⟨[],[(0,o10),(1,o1),(2,o1),(3,o1),(8,o17),(9,o17)],[(.ret,[(0,o10)])],Lz rec⟩
theorem QI(rec:(List (Int))->Int->Int->Int->Option ((List (Int))×Unit))(hr:eK Tryz.prog 84 (JJ rec)):mT Tryz.prog (env 134 [] []) (lp 0 (body Tryz.f84) 0) (NA rec):=lk (bt _ _ _) (T:=((84,[]),JJ rec)::abx) ⟨hr,acW⟩ (n:=0) [] trivial (by kernel_rfl) fun k x=>by kernel_rfl
theorem QV(rec:(List (Int))->Int->Int->Int->Option ((List (Int))×Unit))(hr:eK Tryz.prog 84 (JJ rec)):eK Tryz.prog 84 (JJ (LL rec)):=(fk (ks:=[]) (bt 134 [] []) (T:=((84,[]),JJ rec)::abx) ⟨hr,acW⟩ [(0,NA rec)] ⟨(QI rec hr),trivial⟩ Tryz.func84 (by kernel_rfl) fun x=>by kernel_rfl).1
noncomputable def ad7:List (bR×gY):=((84,[]),JJ Me)::abx
theorem agk:tw Tryz.prog ad7:=⟨C9 (F:=fun n=>JJ (J7 n)) (B5 (fn:=Tryz.f84) (c:=body Tryz.f84) Tryz.func84 (by kernel_rfl) (by kernel_rfl) (fun _=>rfl)) (fun n h=>QV (J7 n) h) big,acW⟩
noncomputable def ad8:List (bR×gY):=((44,[]),⟨true,[o10],[],u1 MU⟩)::ad7
theorem agl:tw Tryz.prog ad8:=fk (bt 11 [] []) agk [] trivial Tryz.func44 (by kernel_rfl) fun x=>by kernel_rfl
noncomputable def ad9:List (bR×gY):=((45,[]),xo 3)::ad8
theorem ae6:tw Tryz.prog ad9:=⟨Cv Go.Proofs.Tryz.lays20 3,agl⟩
noncomputable def Sj:ep:=⟨[(9,o19),(10,o1)],[(3,o10),(11,o1)],[(.exit 0,[(3,o10)])],PT⟩
theorem VC:mT Tryz.prog (env 25 [] []) (lp 0 (body Tryz.f22) 0) Sj:=lk (bt _ _ _) ae6 (n:=0) [] trivial (by kernel_rfl) fun k x=>by kernel_rfl
noncomputable def aea:List (bR×gY):=((22,[]),⟨true,[o19],[o10],u1 Oj⟩)::ad9
theorem agm:tw Tryz.prog aea:=fk (bt 25 [] []) ae6 [(0,Sj)] ⟨VC,trivial⟩ Tryz.func22 (by kernel_rfl) fun x=>by kernel_rfl
noncomputable def aeb:List (bR×gY):=((90,[]),⟨true,[o1,o1,.ro t26],[o1],u3 MD⟩)::aea
theorem acX:tw Tryz.prog aeb:=fk (bt 30 [] []) agm [] trivial Tryz.func90 (by kernel_rfl) fun x=>by kernel_rfl
noncomputable def KX:ep:=⟨[(1,o1),(2,o1),(3,.fn 90 [t26]),(8,o1)],[(0,o10),(9,o1)],[(.exit 2,[(0,o10)])],JW⟩
theorem MT:mT Tryz.prog (env 53 [] []) (lp 0 (lp 0 (body Tryz.f160) 0) 0) KX:=lk (bt _ _ _) acX (n:=2) [] trivial (by kernel_rfl) fun k x=>by kernel_rfl
noncomputable def KW:ep:=⟨[(1,o1),(2,o1),(3,.fn 90 [t26])],[(0,o10),(8,o1)],[(.exit 0,[(0,o10)])],JV⟩
theorem MS:mT Tryz.prog (env 53 [] []) (lp 0 (body Tryz.f160) 0) KW:=lk (bt _ _ _) acX (n:=0) [(2,KX)] ⟨MT,trivial⟩ (by kernel_rfl) fun k x=>by kernel_rfl
noncomputable def aec:List (bR×gY):=((160,[90]),⟨true,[o10,o1,o1,.fn 90 [t26]],[],u4 IK⟩)::aeb
theorem ae7:tw Tryz.prog aec:=fk (bt 53 [] []) acX [(0,KW)] ⟨MS,trivial⟩ Tryz.func160 (by kernel_rfl) fun x=>by kernel_rfl
noncomputable def Ln:ep:=⟨[(1,o1),(2,o1),(3,o1)],[(0,o10),(10,o1)],[(.exit 0,[(0,o10)])],Kb⟩
theorem M9:mT Tryz.prog (env 38 [] []) (lp 0 (body Tryz.f181) 0) Ln:=lk (bt _ _ _) ae7 (n:=0) [] trivial (by kernel_rfl) fun k x=>by kernel_rfl
noncomputable def aed:List (bR×gY):=((181,[90]),⟨true,[o10,o1,o1,o1,.fn 90 [t26]],[],u5 Ex⟩)::aec
theorem ae8:tw Tryz.prog aed:=fk (bt 38 [] []) ae7 [(0,Ln)] ⟨M9,trivial⟩ Tryz.func181 (by kernel_rfl) fun x=>by kernel_rfl
noncomputable def LM:ep:=⟨[(2,o1),(4,.fn 90 [t26])],[(0,o10),(10,o1),(11,o1)],[(.exit 0,[(0,o10),(10,o1)])],KA⟩
theorem Ns:mT Tryz.prog (env 58 [] []) (lp 0 (body Tryz.f176) 0) LM:=lk (bt _ _ _) ae8 (n:=0) [] trivial (by kernel_rfl) fun k x=>by kernel_rfl
noncomputable def YF:List (bR×gY):=((176,[90]),⟨true,[o10,o1,o1,o1,.fn 90 [t26]],[],u5 Ih⟩)::aed
theorem Zp:tw Tryz.prog YF:=fk (bt 58 [] []) ae8 [(0,LM)] ⟨Ns,trivial⟩ Tryz.func176 (by kernel_rfl) fun x=>by kernel_rfl
noncomputable def ej(rec:(List (Int))->Int->Int->Int->(List (Int×Int×Int×Int×Int×Int×Int))->Option ((List (Int))×Unit)):gY:=⟨true,[o10,o1,o1,o1,.fn 90 [t26]],[],u5 rec⟩
noncomputable def Lu(rec:(List (Int))->Int->Int->Int->(List (Int×Int×Int×Int×Int×Int×Int))->Option ((List (Int))×Unit)):ep:=⟨[(1,o1),(4,.fn 90 [t26])],[(0,o10),(10,o1),(11,o1)],[(.exit 0,[(0,o10),(10,o1)])],Kj rec⟩
theorem Nb(rec:(List (Int))->Int->Int->Int->(List (Int×Int×Int×Int×Int×Int×Int))->Option ((List (Int))×Unit))(hr:eK Tryz.prog 161 (ej rec)):mT Tryz.prog (env 220 [] []) (lp 0 (body Tryz.f161) 0) (Lu rec):=lk (bt _ _ _) (T:=((161,[90]),ej rec)::YF) ⟨hr,Zp⟩ (n:=0) [] trivial (by kernel_rfl) fun k x=>by kernel_rfl
noncomputable def Lv(rec:(List (Int))->Int->Int->Int->(List (Int×Int×Int×Int×Int×Int×Int))->Option ((List (Int))×Unit)):ep:=⟨[(10,o1)],[(0,o10),(13,o1)],[(.exit 2,[(0,o10)])],Kk rec⟩
theorem Nc(rec:(List (Int))->Int->Int->Int->(List (Int×Int×Int×Int×Int×Int×Int))->Option ((List (Int))×Unit))(hr:eK Tryz.prog 161 (ej rec)):mT Tryz.prog (env 220 [] []) (lp 0 (body Tryz.f161) 1) (Lv rec):=lk (bt _ _ _) (T:=((161,[90]),ej rec)::YF) ⟨hr,Zp⟩ (n:=2) [] trivial (by kernel_rfl) fun k x=>by kernel_rfl
noncomputable def Lw(rec:(List (Int))->Int->Int->Int->(List (Int×Int×Int×Int×Int×Int×Int))->Option ((List (Int))×Unit)):ep:=⟨[(2,o1),(4,.fn 90 [t26])],[(0,o10),(14,o1),(15,o1)],[(.exit 4,[(0,o10),(14,o1)])],Kl rec⟩
theorem Nd(rec:(List (Int))->Int->Int->Int->(List (Int×Int×Int×Int×Int×Int×Int))->Option ((List (Int))×Unit))(hr:eK Tryz.prog 161 (ej rec)):mT Tryz.prog (env 220 [] []) (lp 0 (body Tryz.f161) 2) (Lw rec):=lk (bt _ _ _) (T:=((161,[90]),ej rec)::YF) ⟨hr,Zp⟩ (n:=4) [] trivial (by kernel_rfl) fun k x=>by kernel_rfl
noncomputable def Lx(rec:(List (Int))->Int->Int->Int->(List (Int×Int×Int×Int×Int×Int×Int))->Option ((List (Int))×Unit)):ep:=⟨[(14,o1)],[(0,o10),(17,o1)],[(.exit 6,[(0,o10)])],Km rec⟩
theorem Nf(rec:(List (Int))->Int->Int->Int->(List (Int×Int×Int×Int×Int×Int×Int))->Option ((List (Int))×Unit))(hr:eK Tryz.prog 161 (ej rec)):mT Tryz.prog (env 220 [] []) (lp 0 (body Tryz.f161) 3) (Lx rec):=lk (bt _ _ _) (T:=((161,[90]),ej rec)::YF) ⟨hr,Zp⟩ (n:=6) [] trivial (by kernel_rfl) fun k x=>by kernel_rfl
noncomputable def Ly(rec:(List (Int))->Int->Int->Int->(List (Int×Int×Int×Int×Int×Int×Int))->Option ((List (Int))×Unit)):ep:=⟨[(1,o1),(2,o1),(3,o1),(4,.fn 90 [t26]),(18,o1),(19,o1),(22,o1)],[(0,o10),(20,o1),(21,o1)],[(.exit 8,[(0,o10),(20,o1)])],IY rec⟩
theorem Ng(rec:(List (Int))->Int->Int->Int->(List (Int×Int×Int×Int×Int×Int×Int))->Option ((List (Int))×Unit))(hr:eK Tryz.prog 161 (ej rec)):mT Tryz.prog (env 220 [] []) (lp 0 (body Tryz.f161) 4) (Ly rec):=lk (bt _ _ _) (T:=((161,[90]),ej rec)::YF) ⟨hr,Zp⟩ (n:=8) [] trivial (by kernel_rfl) fun k x=>by kernel_rfl
theorem Nq(rec:(List (Int))->Int->Int->Int->(List (Int×Int×Int×Int×Int×Int×Int))->Option ((List (Int))×Unit))(hr:eK Tryz.prog 161 (ej rec)):eK Tryz.prog 161 (ej (rm rec)):=(fk (ks:=[]) (bt 220 [] []) (T:=((161,[90]),ej rec)::YF) ⟨hr,Zp⟩ [(0,Lu rec),(2,Lv rec),(4,Lw rec),(6,Lx rec),(8,Ly rec)] ⟨(Nb rec hr),(Nc rec hr),(Nd rec hr),(Nf rec hr),(Ng rec hr),trivial⟩ Tryz.func161 (by kernel_rfl) fun x=>by kernel_rfl).1
noncomputable def aee:List (bR×gY):=((161,[90]),ej Jc)::YF
theorem abK:tw Tryz.prog aee:=⟨C9 (F:=fun n=>ej (IZ n)) (B5 (fn:=Tryz.f161) (c:=body Tryz.f161) Tryz.func161 (by kernel_rfl) (by kernel_rfl) (fun _=>rfl)) (fun n h=>Nq (IZ n) h) big,Zp⟩
noncomputable def LN:ep:=⟨[(1,o1),(2,.fn 90 [t26]),(6,o1)],[(0,o10),(7,o1),(8,o1)],[(.exit 0,[(0,o10),(7,o1)])],KB⟩
theorem Nt:mT Tryz.prog (env 63 [] []) (lp 0 (body Tryz.f136) 0) LN:=lk (bt _ _ _) abK (n:=0) [] trivial (by kernel_rfl) fun k x=>by kernel_rfl
noncomputable def LP:ep:=⟨[(1,o1),(2,.fn 90 [t26]),(6,o1)],[(0,o10),(7,o1),(8,o1)],[(.exit 4,[(0,o10),(7,o1)])],JQ⟩
theorem Nv:mT Tryz.prog (env 63 [] []) (lp 2 (lp 0 (body Tryz.f136) 1) 0) LP:=lk (bt _ _ _) abK (n:=4) [] trivial (by kernel_rfl) fun k x=>by kernel_rfl
noncomputable def LO:ep:=⟨[(1,o1),(2,.fn 90 [t26])],[(0,o10),(6,o1)],[(.exit 2,[(0,o10)])],KC⟩
theorem Nu:mT Tryz.prog (env 63 [] []) (lp 0 (body Tryz.f136) 1) LO:=lk (bt _ _ _) abK (n:=2) [(4,LP)] ⟨Nv,trivial⟩ (by kernel_rfl) fun k x=>by kernel_rfl
noncomputable def aef:List (bR×gY):=((136,[90]),⟨true,[o10,o1,.fn 90 [t26]],[],u3 Jj⟩)::aee
theorem agn:tw Tryz.prog aef:=fk (bt 63 [] []) abK [(0,LN),(2,LO)] ⟨Nt,Nu,trivial⟩ Tryz.func136 (by kernel_rfl) fun x=>by kernel_rfl
noncomputable def aeg:List (bR×gY):=((89,[90]),⟨true,[o10,.fn 90 [t26]],[],u2 Jp⟩)::aef
theorem ae9:tw Tryz.prog aeg:=fk (bt 9 [] []) agn [] trivial Tryz.func89 (by kernel_rfl) fun x=>by kernel_rfl
noncomputable def TU:ep:=⟨[(9,o1)],[(1,.blk [v11]),(3,o10),(10,o1)],[(.exit 0,[(1,.blk [v11]),(3,o10)])],Rt⟩
theorem Wl:mT Tryz.prog (env 22 [] []) (lp 0 (body Tryz.f48) 0) TU:=lk (bt _ _ _) ae9 (n:=0) [] trivial (by kernel_rfl) fun k x=>by kernel_rfl
noncomputable def aeh:List (bR×gY):=((48,[]),⟨true,[o19],[o10],u1 PS⟩)::aeg
theorem afa:tw Tryz.prog aeh:=fk (bt 22 [] []) ae9 [(0,TU)] ⟨Wl,trivial⟩ Tryz.func48 (by kernel_rfl) fun x=>by kernel_rfl
noncomputable def UI:ep:=⟨[(0,o19),(1,o1),(13,o1)],[(4,a14),(5,a14),(12,o10),(14,o1)],[(.exit 0,[(4,a14),(5,a14)])],SC⟩
theorem WK:mT Tryz.prog (env 71 [] []) (lp 0 (body Tryz.f24) 0) UI:=lk (bt _ _ _) afa (n:=0) [] trivial (by kernel_rfl) fun k x=>by kernel_rfl
noncomputable def aei:List (bR×gY):=((24,[]),⟨true,[o19,o1],[a6],u2 Tk⟩)::aeh
theorem afb:tw Tryz.prog aei:=fk (bt 71 [] []) afa [(0,UI)] ⟨WK,trivial⟩ Tryz.func24 (by kernel_rfl) fun x=>by kernel_rfl
noncomputable def Ua:ep:=⟨[(1,o1),(7,o20),(8,o1)],[(9,o1)],[(.ret,[(4,o17)]),(.exit 0,[])],RD⟩
theorem Wr:mT Tryz.prog (env 24 [] []) (lp 0 (body Tryz.f159) 0) Ua:=lk (bt _ _ _) afb (n:=0) [] trivial (by kernel_rfl) fun k x=>by kernel_rfl
noncomputable def aej:List (bR×gY):=((159,[]),⟨true,[o20,o1],[o17],u2 PW⟩)::aei
theorem ago:tw Tryz.prog aej:=fk (bt 24 [] []) afb [(0,Ua)] ⟨Wr,trivial⟩ Tryz.func159 (by kernel_rfl) fun x=>by kernel_rfl
noncomputable def aek:List (bR×gY):=((135,[]),⟨true,[a10,o1],[o17],u3 To⟩)::aej
theorem afc:tw Tryz.prog aek:=fk (bt 17 [] []) ago [] trivial Tryz.func135 (by kernel_rfl) fun x=>by kernel_rfl
noncomputable def Si:ep:=⟨[(2,o1),(3,.ro t35)],[(7,o1),(8,o1)],[(.exit 0,[(7,o1)])],N6⟩
theorem VB:mT Tryz.prog (env 34 [] []) (lp 0 (body Tryz.f88) 0) Si:=lk (bt _ _ _) afc (n:=0) [] trivial (by kernel_rfl) fun k x=>by kernel_rfl
noncomputable def ael:List (bR×gY):=((88,[]),⟨true,[a10,o1,o1],[o1],u4 PR⟩)::aek
theorem agp:tw Tryz.prog ael:=fk (bt 34 [] []) afc [(0,Si)] ⟨VB,trivial⟩ Tryz.func88 (by kernel_rfl) fun x=>by kernel_rfl
noncomputable def aem:List (bR×gY):=((87,[]),⟨true,[a3,o1,o1],[o1],u10 RY⟩)::ael
theorem agq:tw Tryz.prog aem:=fk (bt 30 [] []) agp [] trivial Tryz.func87 (by kernel_rfl) fun x=>by kernel_rfl
noncomputable def aen:List (bR×gY):=((47,[]),⟨true,[a10,a3,o1,o1,o1,o1],[o1],u14 Ut⟩)::aem
theorem agr:tw Tryz.prog aen:=fk (bt 60 [] []) agq [] trivial Tryz.func47 (by kernel_rfl) fun x=>by kernel_rfl
noncomputable def aeo:List (bR×gY):=((23,[]),⟨true,[a13,a8,a6],[o17],u35 Vt⟩)::aen
theorem acY:tw Tryz.prog aeo:=fk (bt 82 [] []) agr [] trivial Tryz.func23 (by kernel_rfl) fun x=>by kernel_rfl
noncomputable def S3:ep:=⟨[(1,.ro t27),(18,o1)],[(3,o13),(17,o10),(19,o1)],[(.ret,[(2,o17)]),(.exit 0,[(3,o13)])],QO⟩
theorem VU:mT Tryz.prog (env 46 [] []) (lp 0 (body Tryz.f7) 0) S3:=lk (bt _ _ _) acY (n:=0) [] trivial (by kernel_rfl) fun k x=>by kernel_rfl
noncomputable def S4:ep:=⟨[(1,.ro t27),(30,o24),(31,o1)],[(3,o13),(32,o1)],[(.ret,[(2,o17)]),(.exit 2,[])],Ul⟩
theorem VV:mT Tryz.prog (env 46 [] []) (lp 0 (body Tryz.f7) 1) S4:=lk (bt _ _ _) acY (n:=2) [] trivial (by kernel_rfl) fun k x=>by kernel_rfl
noncomputable def aep:List (bR×gY):=((7,[]),⟨true,[a13],[o17],Z3 Q7⟩)::aeo
theorem ags:tw Tryz.prog aep:=fk (bt 46 [] []) acY [(0,S3),(2,S4)] ⟨VU,VV,trivial⟩ Tryz.func7 (by kernel_rfl) fun x=>by kernel_rfl
noncomputable def aeq:List (bR×gY):=((25,[]),⟨true,[a3,a3],[o17],u16 R2⟩)::aep
theorem agt:tw Tryz.prog aeq:=fk (bt 45 [] []) ags [] trivial Tryz.func25 (by kernel_rfl) fun x=>by kernel_rfl
noncomputable def aer:List (bR×gY):=((162,[]),⟨true,[.agg [v1,v1],.agg [v1,v1]],[o17],u4 Tx⟩)::aeq
theorem afd:tw Tryz.prog aer:=fk (bt 15 [] []) agt [] trivial Tryz.func162 (by kernel_rfl) fun x=>by kernel_rfl
noncomputable def Uc:ep:=⟨[(0,o20),(1,o20)],[(5,o1)],[(.ret,[(4,o17)]),(.exit 0,[])],RH⟩
theorem Wt:mT Tryz.prog (env 27 [] []) (lp 0 (body Tryz.f138) 0) Uc:=lk (bt _ _ _) afd (n:=0) [] trivial (by kernel_rfl) fun k x=>by kernel_rfl
noncomputable def aes:List (bR×gY):=((138,[]),⟨true,[o20,o20],[o17],u2 P7⟩)::aer
theorem agu:tw Tryz.prog aes:=fk (bt 27 [] []) afd [(0,Uc)] ⟨Wt,trivial⟩ Tryz.func138 (by kernel_rfl) fun x=>by kernel_rfl
noncomputable def aet:List (bR×gY):=((93,[]),⟨true,[a10,a10],[o17],u4 Tz⟩)::aes
theorem afe:tw Tryz.prog aet:=fk (bt 17 [] []) agu [] trivial Tryz.func93 (by kernel_rfl) fun x=>by kernel_rfl
noncomputable def UM:ep:=⟨[(0,o2),(1,o2)],[(5,o1)],[(.ret,[(4,o17)]),(.exit 0,[])],SI⟩
theorem WO:mT Tryz.prog (env 26 [] []) (lp 0 (body Tryz.f163) 0) UM:=lk (bt _ _ _) afe (n:=0) [] trivial (by kernel_rfl) fun k x=>by kernel_rfl
noncomputable def aeu:List (bR×gY):=((163,[]),⟨true,[o2,o2],[o17],u2 Tu⟩)::aet
theorem agv:tw Tryz.prog aeu:=fk (bt 26 [] []) afe [(0,UM)] ⟨WO,trivial⟩ Tryz.func163 (by kernel_rfl) fun x=>by kernel_rfl
noncomputable def aev:List (bR×gY):=((177,[]),⟨true,[a4,a4],[o17],u8 Uv⟩)::aeu
theorem aff:tw Tryz.prog aev:=fk (bt 25 [] []) agv [] trivial Tryz.func177 (by kernel_rfl) fun x=>by kernel_rfl
noncomputable def UL:ep:=⟨[(0,o22),(1,o22)],[(5,o1)],[(.ret,[(4,o17)]),(.exit 0,[])],SG⟩
theorem WN:mT Tryz.prog (env 27 [] []) (lp 0 (body Tryz.f164) 0) UL:=lk (bt _ _ _) aff (n:=0) [] trivial (by kernel_rfl) fun k x=>by kernel_rfl
noncomputable def aew:List (bR×gY):=((164,[]),⟨true,[o22,o22],[o17],u2 Ts⟩)::aev
theorem agw:tw Tryz.prog aew:=fk (bt 27 [] []) aff [(0,UL)] ⟨WN,trivial⟩ Tryz.func164 (by kernel_rfl) fun x=>by kernel_rfl
noncomputable def aex:List (bR×gY):=((139,[]),⟨true,[a12,a12],[o17],u6 O5⟩)::aew
theorem afg:tw Tryz.prog aex:=fk (bt 22 [] []) agw [] trivial Tryz.func139 (by kernel_rfl) fun x=>by kernel_rfl
noncomputable def Sk:ep:=⟨[(0,o21),(1,o21)],[(5,o1)],[(.ret,[(4,o17)]),(.exit 0,[])],P0⟩
theorem VD:mT Tryz.prog (env 27 [] []) (lp 0 (body Tryz.f94) 0) Sk:=lk (bt _ _ _) afg (n:=0) [] trivial (by kernel_rfl) fun k x=>by kernel_rfl
noncomputable def aey:List (bR×gY):=((94,[]),⟨true,[o21,o21],[o17],u2 PY⟩)::aex
theorem agx:tw Tryz.prog aey:=fk (bt 27 [] []) afg [(0,Sk)] ⟨VD,trivial⟩ Tryz.func94 (by kernel_rfl) fun x=>by kernel_rfl
noncomputable def aez:List (bR×gY):=((95,[]),⟨true,[a5,a5],[o17],u10 Tt⟩)::aey
theorem agy:tw Tryz.prog aez:=fk (bt 30 [] []) agx [] trivial Tryz.func95 (by kernel_rfl) fun x=>by kernel_rfl
noncomputable def aeA:List (bR×gY):=((52,[]),⟨true,[a6,a6],[o17],u14 RZ⟩)::aez
theorem afh:tw Tryz.prog aeA:=fk (bt 40 [] []) agy [] trivial Tryz.func52 (by kernel_rfl) fun x=>by kernel_rfl
noncomputable def S5:ep:=⟨[(0,o19),(1,o19)],[(5,o1)],[(.ret,[(4,o17)]),(.exit 0,[])],QS⟩
theorem VW:mT Tryz.prog (env 27 [] []) (lp 0 (body Tryz.f29) 0) S5:=lk (bt _ _ _) afh (n:=0) [] trivial (by kernel_rfl) fun k x=>by kernel_rfl
noncomputable def aeB:List (bR×gY):=((29,[]),⟨true,[o19,o19],[o17],u2 O6⟩)::aeA
theorem agz:tw Tryz.prog aeB:=fk (bt 27 [] []) afh [(0,S5)] ⟨VW,trivial⟩ Tryz.func29 (by kernel_rfl) fun x=>by kernel_rfl
noncomputable def aeC:List (bR×gY):=((49,[]),⟨true,[a15,a15],[o17],u22 Tw⟩)::aeB
theorem afi:tw Tryz.prog aeC:=fk (bt 39 [] []) agz [] trivial Tryz.func49 (by kernel_rfl) fun x=>by kernel_rfl
noncomputable def Ub:ep:=⟨[(0,o23),(1,o23)],[(5,o1)],[(.ret,[(4,o17)]),(.exit 0,[])],RF⟩
theorem Ws:mT Tryz.prog (env 27 [] []) (lp 0 (body Tryz.f26) 0) Ub:=lk (bt _ _ _) afi (n:=0) [] trivial (by kernel_rfl) fun k x=>by kernel_rfl
noncomputable def aeD:List (bR×gY):=((26,[]),⟨true,[o23,o23],[o17],u2 R1⟩)::aeC
theorem agA:tw Tryz.prog aeD:=fk (bt 27 [] []) afi [(0,Ub)] ⟨Ws,trivial⟩ Tryz.func26 (by kernel_rfl) fun x=>by kernel_rfl
noncomputable def aeE:List (bR×gY):=((96,[]),⟨true,[a7,a7],[o17],u10 Tv⟩)::aeD
theorem agB:tw Tryz.prog aeE:=fk (bt 30 [] []) agA [] trivial Tryz.func96 (by kernel_rfl) fun x=>by kernel_rfl
noncomputable def aeF:List (bR×gY):=((50,[]),⟨true,[a8,a8],[o17],u26 Ra⟩)::aeE
theorem afj:tw Tryz.prog aeF:=fk (bt 51 [] []) agB [] trivial Tryz.func50 (by kernel_rfl) fun x=>by kernel_rfl
noncomputable def Sl:ep:=⟨[(0,o24),(1,o24)],[(5,o1)],[(.ret,[(4,o17)]),(.exit 0,[])],P6⟩
theorem VE:mT Tryz.prog (env 27 [] []) (lp 0 (body Tryz.f27) 0) Sl:=lk (bt _ _ _) afj (n:=0) [] trivial (by kernel_rfl) fun k x=>by kernel_rfl
noncomputable def aeG:List (bR×gY):=((27,[]),⟨true,[o24,o24],[o17],u2 P4⟩)::aeF
theorem agC:tw Tryz.prog aeG:=fk (bt 27 [] []) afj [(0,Sl)] ⟨VE,trivial⟩ Tryz.func27 (by kernel_rfl) fun x=>by kernel_rfl
noncomputable def aeH:List (bR×gY):=((51,[]),⟨true,[a9,a9],[o17],u14 R0⟩)::aeG
theorem afk:tw Tryz.prog aeH:=fk (bt 40 [] []) agC [] trivial Tryz.func51 (by kernel_rfl) fun x=>by kernel_rfl
noncomputable def S6:ep:=⟨[(0,o18),(1,o18)],[(5,o1)],[(.ret,[(4,o17)]),(.exit 0,[])],QU⟩
theorem VX:mT Tryz.prog (env 27 [] []) (lp 0 (body Tryz.f28) 0) S6:=lk (bt _ _ _) afk (n:=0) [] trivial (by kernel_rfl) fun k x=>by kernel_rfl
noncomputable def aeI:List (bR×gY):=((28,[]),⟨true,[o18,o18],[o17],u2 Q9⟩)::aeH
theorem agD:tw Tryz.prog aeI:=fk (bt 27 [] []) afk [(0,S6)] ⟨VX,trivial⟩ Tryz.func28 (by kernel_rfl) fun x=>by kernel_rfl
noncomputable def aeJ:List (bR×gY):=((8,[]),⟨true,[a13,a13],[o17],u30 P3⟩)::aeI
theorem agE:tw Tryz.prog aeJ:=fk (bt 50 [] []) agD [] trivial Tryz.func8 (by kernel_rfl) fun x=>by kernel_rfl
noncomputable def L6:gY:=⟨true,[a2],[o17],Z3 Om⟩
noncomputable def afS:List (bR×gY):=((3,[]),L6)::aeJ
theorem agF:tw Tryz.prog afS:=fk (bt 27 [] []) agE [] trivial Tryz.func3 (by kernel_rfl) fun x=>by kernel_rfl
theorem Uo:eK Tryz.prog 3 L6:=agF.1
end Go.Proofs.YtalncjeiapbcfaaGreat.fnExactLedgerOk

