/- What each function that the law FnExactAllJournals reaches promises: it computes what its plain function says. Conditions: none. -/
import Derived.Test.YthdhgmppijjhpaaGreatRows
import Derived.Test.YthdhgmppijjhpaaGreatAllJournalsQC
import Derived.KernelRfl
set_option linter.unusedVariables false
set_option linter.unusedSimpArgs false
namespace Go.Proofs.YthdhgmppijjhpaaGreat.fnExactAllJournals
open Go.R Go.Fn
set_option maxRecDepth 100000
abbrev t0:aJ:=.cons (.int .i64) .nil
abbrev t1:aJ:=.cons .bool .nil
abbrev t2:aJ:=.cons (.int .u8) .nil
abbrev t3:aJ:=.cons (.int .i64) (.cons (.int .i64) (.cons .bool (.cons (.int .u8) .nil)))
abbrev t4:aJ:=.cons .str .nil
abbrev t5:aJ:=.cons (.int .u64) .nil
abbrev t6:aJ:=.cons .str (.cons (.int .u64) .nil)
abbrev t7:aJ:=.cons (.int .i32) .nil
abbrev t8:aJ:=.cons (.int .i64) (.cons (.int .i64) (.cons (.int .i64) (.cons (.int .i64) (.cons (.int .i64) (.cons (.int .i64) (.cons (.int .i64) (.cons (.int .i64) .nil)))))))
abbrev t9:aJ:=.cons (.int .i64) (.cons (.int .i64) .nil)
abbrev t10:aJ:=.cons (.int .i64) (.cons (.int .i64) (.cons (.int .i64) (.cons .bool .nil)))
abbrev t11:aJ:=.cons (.int .i64) (.cons (.sl 3 t0) (.cons (.sl 265 t10) .nil))
abbrev t12:aJ:=.cons (.int .i64) (.cons (.int .i64) (.cons (.int .i64) (.cons (.int .i64) (.cons (.int .i64) (.cons (.int .i64) (.cons (.int .i64) .nil))))))
abbrev t13:aJ:=.cons (.sl 244 t9) (.cons (.sl 244 t9) (.cons (.sl 202 t11) (.cons (.int .i64) (.cons (.int .i64) (.cons .bool (.cons .bool (.cons .bool (.cons (.int .i64) (.cons (.int .i64) (.cons (.sl 191 t12) .nil))))))))))
abbrev t14:aJ:=.cons (.sl 172 t13) .nil
abbrev t15:aJ:=.cons (.int .i64) (.cons (.int .i64) (.cons (.int .i64) (.cons (.int .i64) (.cons (.int .i64) (.cons (.int .i64) (.cons (.int .i64) (.cons (.int .i64) (.cons (.int .i64) (.cons (.int .i64) (.cons (.int .i64) (.cons (.int .i64) (.cons (.int .i64) .nil))))))))))))
abbrev t16:aJ:=.cons (.sl 187 t15) .nil
abbrev t17:aJ:=.cons (.int .i64) (.cons (.int .i64) (.cons (.int .i64) (.cons (.int .i64) (.cons (.int .i64) (.cons (.int .i64) (.cons .bool .nil))))))
abbrev t18:aJ:=.cons (.sl 189 t17) .nil
abbrev t19:aJ:=.cons (.sl 191 t12) .nil
abbrev t20:aJ:=.cons (.int .i64) (.cons (.int .i64) (.cons (.int .i64) (.cons (.int .i64) (.cons (.int .i64) (.cons (.int .i64) (.cons (.int .i64) (.cons (.int .i64) (.cons (.int .i64) (.cons (.int .i64) (.cons (.int .i64) (.cons (.sl 172 t13) (.cons (.sl 187 t15) (.cons (.sl 189 t17) (.cons (.sl 191 t12) .nil))))))))))))))
abbrev t21:aJ:=.cons (.int .i64) (.cons (.sl 3 t0) (.cons (.sl 182 t10) .nil))
abbrev t22:aJ:=.cons (.sl 208 t9) (.cons (.sl 208 t9) (.cons (.sl 161 t21) (.cons (.int .i64) (.cons (.int .i64) (.cons .bool (.cons .bool (.cons .bool (.cons (.int .i64) (.cons (.int .i64) (.cons (.sl 150 t12) .nil))))))))))
abbrev t23:aJ:=.cons (.sl 98 t22) .nil
abbrev t24:aJ:=.cons (.sl 120 t15) .nil
abbrev t25:aJ:=.cons (.sl 175 t17) .nil
abbrev t26:aJ:=.cons (.sl 150 t12) .nil
abbrev t27:aJ:=.cons (.int .i64) (.cons (.int .i64) (.cons (.int .i64) (.cons (.int .i64) (.cons (.int .i64) (.cons (.int .i64) (.cons (.int .i64) (.cons (.int .i64) (.cons (.int .i64) (.cons (.int .i64) (.cons (.int .i64) (.cons (.sl 98 t22) (.cons (.sl 120 t15) (.cons (.sl 175 t17) (.cons (.sl 150 t12) .nil))))))))))))))
abbrev t28:aJ:=.cons (.sl 244 t9) (.cons (.sl 244 t9) .nil)
abbrev t29:aJ:=.cons (.sl 125 t28) .nil
abbrev t30:aJ:=.cons (.sl 202 t11) .nil
abbrev t31:aJ:=.cons (.sl 127 t30) .nil
abbrev t32:aJ:=.cons (.sl 208 t9) (.cons (.sl 208 t9) .nil)
abbrev t33:aJ:=.cons (.sl 93 t32) .nil
abbrev t34:aJ:=.cons (.sl 161 t21) .nil
abbrev t35:aJ:=.cons (.sl 94 t34) .nil
abbrev t36:aJ:=.cons (.sl 3 t0) .nil
abbrev t37:aJ:=.cons (.sl 70 t36) .nil
abbrev t38:aJ:=.cons (.int .i64) (.cons (.int .i64) (.cons (.int .i64) (.cons (.int .i64) (.cons (.int .i64) .nil))))
abbrev t39:aJ:=.cons (.sl 139 t38) .nil
abbrev t40:aJ:=.cons (.int .i64) (.cons (.int .i64) (.cons (.sl 70 t36) (.cons (.sl 139 t38) .nil)))
abbrev t41:aJ:=.cons (.sl 5 t2) .nil
abbrev t42:aJ:=.cons (.sl 208 t9) .nil
abbrev t43:aJ:=.cons (.int .i64) (.cons (.int .i64) (.cons .bool (.cons .bool (.cons .bool .nil))))
abbrev t44:aJ:=.cons (.sl 244 t9) .nil
abbrev t45:aJ:=.cons (.sl 182 t10) .nil
abbrev t46:aJ:=.cons (.sl 265 t10) .nil
abbrev t47:aJ:=.cons (.sl 3 t0) (.cons (.int .i64) (.cons (.int .i64) (.cons (.int .i64) .nil)))
abbrev t48:aJ:=.cons (.sl 5 t2) (.cons (.int .i64) (.cons (.int .i64) .nil))
abbrev t49:aJ:=.cons (.int .u32) .nil
abbrev t50:aJ:=.cons (.int .i64) (.cons (.int .i64) (.cons (.int .i64) .nil))
abbrev t51:aJ:=.cons (.sl 296 t50) .nil
abbrev v0:K:=.val (.sl 244 t9)
abbrev v1:K:=.val (.int .i64)
abbrev v2:K:=.val (.sl 3 t0)
abbrev v3:K:=.val (.sl 265 t10)
abbrev v4:K:=.val (.sl 202 t11)
abbrev v5:K:=.val (.sl 191 t12)
abbrev v6:K:=.val .bool
abbrev v7:K:=.val (.sl 172 t13)
abbrev v8:K:=.val (.sl 187 t15)
abbrev v9:K:=.val (.sl 189 t17)
abbrev v10:K:=.val (.sl 175 t17)
abbrev v11:K:=.val (.sl 150 t12)
abbrev v12:K:=.val (.sl 208 t9)
abbrev v13:K:=.val (.sl 182 t10)
abbrev v14:K:=.val (.sl 161 t21)
abbrev v15:K:=.val (.sl 98 t22)
abbrev v16:K:=.val (.sl 120 t15)
abbrev v17:K:=.val (.int .u32)
abbrev v18:K:=.val (.int .u64)
abbrev v19:K:=.arr 208 t9 false
abbrev v20:K:=.arr 3 t0 false
abbrev v21:K:=.arr 182 t10 false
abbrev v22:K:=.arr 161 t21 true
abbrev v23:K:=.arr 150 t12 false
abbrev v24:K:=.arr 98 t22 true
abbrev v25:K:=.arr 120 t15 false
abbrev v26:K:=.arr 175 t17 false
abbrev o0:Sh:=.one v0
abbrev o1:Sh:=.one v1
abbrev o2:Sh:=.one v2
abbrev o3:Sh:=.one v3
abbrev o4:Sh:=.one v4
abbrev o5:Sh:=.one v5
abbrev o6:Sh:=.one v7
abbrev o7:Sh:=.one v8
abbrev o8:Sh:=.one v9
abbrev o9:Sh:=.one v19
abbrev o10:Sh:=.one v20
abbrev o11:Sh:=.one v21
abbrev o12:Sh:=.one v22
abbrev o13:Sh:=.one v23
abbrev o14:Sh:=.one v24
abbrev o15:Sh:=.one v25
abbrev o16:Sh:=.one v26
abbrev o17:Sh:=.one v6
abbrev o18:Sh:=.one v10
abbrev o19:Sh:=.one v11
abbrev o20:Sh:=.one v12
abbrev o21:Sh:=.one v14
abbrev o22:Sh:=.one v13
abbrev o23:Sh:=.one v15
abbrev o24:Sh:=.one v16
abbrev o25:Sh:=.one v17
abbrev o26:Sh:=.one v18
abbrev a0:Sh:=.agg [v1,v2,v3]
abbrev a1:Sh:=.agg [v0,v0,v4,v1,v1,v6,v6,v6,v1,v1,v5]
abbrev a2:Sh:=.agg [v1,v1,v1,v1,v1,v1,v1,v1,v1,v1,v1,v7,v8,v9,v5]
abbrev a3:Sh:=.agg [v1,v1,v1,v1,v1,v1,v1,v1]
abbrev a4:Sh:=.agg [v1,v1,v1,v6]
abbrev a5:Sh:=.agg [v1,v1,v6,v6,v6]
abbrev a6:Sh:=.agg [v1,v1,v1,v1,v1,v1,v1]
abbrev a7:Sh:=.agg [v1,v1,v1,v1,v1]
abbrev a8:Sh:=.agg [v1,v1,v1,v1,v1,v1,v1,v1,v1,v1,v1,v1,v1]
abbrev a9:Sh:=.agg [v1,v1,v1,v1,v1,v1,v6]
abbrev a10:Sh:=.agg [v1,v1,v1,v1,v1,v1,v1,v1,v1,v1,v1,v24,v25,v26,v23]
abbrev a11:Sh:=.agg [v12,v12]
abbrev a12:Sh:=.blk [v1,v1,v1,v6]
abbrev a13:Sh:=.agg [v1,v2,v13]
abbrev a14:Sh:=.agg [v1,v1,v1,v1,v1,v1,v1,v1,v1,v1,v1,v15,v16,v10,v11]
abbrev a15:Sh:=.agg [v12,v12,v14,v1,v1,v6,v6,v6,v1,v1,v11]
noncomputable def table:List (Nat×TI):=[(2,⟨t0,false,8,[],none⟩),
 (3,⟨t0,false,8,[],none⟩),
 (4,⟨t1,false,1,[],none⟩),
 (5,⟨t2,false,1,[],none⟩),
 (6,⟨t2,false,1,[],none⟩),
 (7,⟨t3,true,24,[(0,1,false),(1,1,false),(2,1,false),(3,1,false)],none⟩),
 (8,⟨t3,true,24,[(0,1,false),(1,1,false),(2,1,false),(3,1,false)],none⟩),
 (9,⟨t4,false,16,[],none⟩),
 (10,⟨t4,false,16,[],none⟩),
 (11,⟨t4,false,16,[],none⟩),
 (12,⟨t5,false,8,[],none⟩),
 (13,⟨t6,true,24,[(0,1,false),(1,1,false)],none⟩),
 (14,⟨t6,true,24,[(0,1,false),(1,1,false)],none⟩),
 (21,⟨t7,false,4,[],none⟩),
 (22,⟨t8,true,64,[(0,1,false),(1,1,false),(2,1,false),(3,1,false),(4,1,false),(5,1,false),(6,1,false),(7,1,false)],none⟩),
 (23,⟨t8,true,64,[(0,1,false),(1,1,false),(2,1,false),(3,1,false),(4,1,false),(5,1,false),(6,1,false),(7,1,false)],none⟩),
 (24,⟨t14,false,24,[],some 172⟩),
 (25,⟨t16,false,24,[],some 187⟩),
 (26,⟨t18,false,24,[],some 189⟩),
 (27,⟨t19,false,24,[],some 191⟩),
 (28,⟨t20,true,184,[(0,8,true),(8,1,false),(9,1,false),(10,1,false),(11,1,false),(12,1,false),(13,1,false),(14,1,false)],none⟩),
 (29,⟨t20,true,184,[(0,8,true),(8,1,false),(9,1,false),(10,1,false),(11,1,false),(12,1,false),(13,1,false),(14,1,false)],none⟩),
 (32,⟨t8,true,64,[(0,1,false),(1,1,false),(2,1,false),(3,1,false),(4,1,false),(5,1,false),(6,1,false),(7,1,false)],none⟩),
 (33,⟨t23,false,24,[],some 98⟩),
 (34,⟨t24,false,24,[],some 120⟩),
 (35,⟨t25,false,24,[],some 175⟩),
 (36,⟨t26,false,24,[],some 150⟩),
 (37,⟨t27,true,184,[(0,8,true),(8,1,false),(9,1,false),(10,1,false),(11,1,false),(12,1,false),(13,1,false),(14,1,false)],none⟩),
 (38,⟨t27,true,184,[(0,8,true),(8,1,false),(9,1,false),(10,1,false),(11,1,false),(12,1,false),(13,1,false),(14,1,false)],none⟩),
 (43,⟨t12,true,56,[(0,1,false),(1,1,false),(2,1,false),(3,1,false),(4,1,false),(5,1,false),(6,1,false)],none⟩),
 (44,⟨t12,true,56,[(0,1,false),(1,1,false),(2,1,false),(3,1,false),(4,1,false),(5,1,false),(6,1,false)],none⟩),
 (48,⟨t29,false,24,[],some 125⟩),
 (49,⟨t31,false,24,[],some 127⟩),
 (55,⟨t33,false,24,[],some 93⟩),
 (57,⟨t35,false,24,[],some 94⟩),
 (65,⟨t37,false,24,[],some 70⟩),
 (67,⟨t39,false,24,[],some 139⟩),
 (68,⟨t40,true,64,[(0,1,false),(1,1,false),(2,1,false),(3,1,false)],none⟩),
 (69,⟨t40,true,64,[(0,1,false),(1,1,false),(2,1,false),(3,1,false)],none⟩),
 (70,⟨t36,false,24,[],some 3⟩),
 (86,⟨t41,false,24,[],some 5⟩),
 (91,⟨t42,false,24,[],some 208⟩),
 (92,⟨t32,true,48,[(0,1,false),(1,1,false)],none⟩),
 (93,⟨t32,true,48,[(0,1,false),(1,1,false)],none⟩),
 (94,⟨t34,false,24,[],some 161⟩),
 (95,⟨t43,true,24,[(0,1,false),(1,1,false),(2,1,false),(3,1,false),(4,1,false)],none⟩),
 (96,⟨t43,true,24,[(0,1,false),(1,1,false),(2,1,false),(3,1,false),(4,1,false)],none⟩),
 (97,⟨t22,true,136,[(0,2,true),(2,1,false),(3,5,true),(8,1,false),(9,1,false),(10,1,false)],none⟩),
 (98,⟨t22,true,136,[(0,2,true),(2,1,false),(3,5,true),(8,1,false),(9,1,false),(10,1,false)],none⟩),
 (117,⟨t38,true,40,[(0,1,false),(1,1,false),(2,1,false),(3,1,false),(4,1,false)],none⟩),
 (118,⟨t38,true,40,[(0,1,false),(1,1,false),(2,1,false),(3,1,false),(4,1,false)],none⟩),
 (119,⟨t15,true,104,[(0,1,false),(1,1,false),(2,1,false),(3,1,false),(4,1,false),(5,1,false),(6,5,true),(11,1,false),(12,1,false)],none⟩),
 (120,⟨t15,true,104,[(0,1,false),(1,1,false),(2,1,false),(3,1,false),(4,1,false),(5,1,false),(6,5,true),(11,1,false),(12,1,false)],none⟩),
 (123,⟨t44,false,24,[],some 244⟩),
 (124,⟨t28,true,48,[(0,1,false),(1,1,false)],none⟩),
 (125,⟨t28,true,48,[(0,1,false),(1,1,false)],none⟩),
 (127,⟨t30,false,24,[],some 202⟩),
 (138,⟨t38,true,40,[(0,1,false),(1,1,false),(2,1,false),(3,1,false),(4,1,false)],none⟩),
 (139,⟨t38,true,40,[(0,1,false),(1,1,false),(2,1,false),(3,1,false),(4,1,false)],none⟩),
 (149,⟨t12,true,56,[(0,1,false),(1,1,false),(2,1,false),(3,1,false),(4,1,false),(5,1,false),(6,1,false)],none⟩),
 (150,⟨t12,true,56,[(0,1,false),(1,1,false),(2,1,false),(3,1,false),(4,1,false),(5,1,false),(6,1,false)],none⟩),
 (159,⟨t45,false,24,[],some 182⟩),
 (160,⟨t21,true,56,[(0,1,false),(1,1,false),(2,1,false)],none⟩),
 (161,⟨t21,true,56,[(0,1,false),(1,1,false),(2,1,false)],none⟩),
 (170,⟨t43,true,24,[(0,1,false),(1,1,false),(2,1,false),(3,1,false),(4,1,false)],none⟩),
 (171,⟨t13,true,136,[(0,2,true),(2,1,false),(3,5,true),(8,1,false),(9,1,false),(10,1,false)],none⟩),
 (172,⟨t13,true,136,[(0,2,true),(2,1,false),(3,5,true),(8,1,false),(9,1,false),(10,1,false)],none⟩),
 (174,⟨t17,true,56,[(0,1,false),(1,1,false),(2,1,false),(3,1,false),(4,1,false),(5,1,false),(6,1,false)],none⟩),
 (175,⟨t17,true,56,[(0,1,false),(1,1,false),(2,1,false),(3,1,false),(4,1,false),(5,1,false),(6,1,false)],none⟩),
 (181,⟨t10,true,32,[(0,1,false),(1,1,false),(2,1,false),(3,1,false)],none⟩),
 (182,⟨t10,true,32,[(0,1,false),(1,1,false),(2,1,false),(3,1,false)],none⟩),
 (185,⟨t38,true,40,[(0,1,false),(1,1,false),(2,1,false),(3,1,false),(4,1,false)],none⟩),
 (186,⟨t15,true,104,[(0,1,false),(1,1,false),(2,1,false),(3,1,false),(4,1,false),(5,1,false),(6,5,true),(11,1,false),(12,1,false)],none⟩),
 (187,⟨t15,true,104,[(0,1,false),(1,1,false),(2,1,false),(3,1,false),(4,1,false),(5,1,false),(6,5,true),(11,1,false),(12,1,false)],none⟩),
 (189,⟨t17,true,56,[(0,1,false),(1,1,false),(2,1,false),(3,1,false),(4,1,false),(5,1,false),(6,1,false)],none⟩),
 (191,⟨t12,true,56,[(0,1,false),(1,1,false),(2,1,false),(3,1,false),(4,1,false),(5,1,false),(6,1,false)],none⟩),
 (200,⟨t46,false,24,[],some 265⟩),
 (201,⟨t11,true,56,[(0,1,false),(1,1,false),(2,1,false)],none⟩),
 (202,⟨t11,true,56,[(0,1,false),(1,1,false),(2,1,false)],none⟩),
 (207,⟨t9,true,16,[(0,1,false),(1,1,false)],none⟩),
 (208,⟨t9,true,16,[(0,1,false),(1,1,false)],none⟩),
 (218,⟨t47,true,48,[(0,1,false),(1,1,false),(2,1,false),(3,1,false)],none⟩),
 (219,⟨t47,true,48,[(0,1,false),(1,1,false),(2,1,false),(3,1,false)],none⟩),
 (224,⟨t48,true,40,[(0,1,false),(1,1,false),(2,1,false)],none⟩),
 (225,⟨t48,true,40,[(0,1,false),(1,1,false),(2,1,false)],none⟩),
 (244,⟨t9,true,16,[(0,1,false),(1,1,false)],none⟩),
 (256,⟨t5,false,8,[],none⟩),
 (265,⟨t10,true,32,[(0,1,false),(1,1,false),(2,1,false),(3,1,false)],none⟩),
 (268,⟨t47,true,48,[(0,1,false),(1,1,false),(2,1,false),(3,1,false)],none⟩),
 (269,⟨t47,true,48,[(0,1,false),(1,1,false),(2,1,false),(3,1,false)],none⟩),
 (277,⟨t0,false,8,[],none⟩),
 (285,⟨t49,false,4,[],none⟩),
 (287,⟨t5,false,8,[],none⟩),
 (295,⟨t50,true,24,[(0,1,false),(1,1,false),(2,1,false)],none⟩),
 (296,⟨t50,true,24,[(0,1,false),(1,1,false),(2,1,false)],none⟩),
 (300,⟨t5,false,8,[],none⟩),
 (308,⟨t51,false,24,[],some 296⟩),
 (323,⟨t2,false,1,[],none⟩),
 (324,⟨t2,false,1,[],none⟩),
 (327,⟨t7,false,4,[],none⟩),
 (328,⟨t7,false,4,[],none⟩)]
theorem Wi:Cs Tryz.prog table=true:=by kernel_rfl
noncomputable def E8:List Nat:=[32,96,118,120,175,150,44,182,208]
theorem Xj:(E8.all fun t=>vB Tryz.prog (uE table) t)=true:=by kernel_rfl
noncomputable def maps:List (Nat×IntKind):=[(236,.i64)]
theorem WD:(maps.all fun p=>Ct Tryz.prog p.1 p.2)=true:=by kernel_rfl
noncomputable def env(nt:Nat)(tr dp:List Nat):Env:={ ti:=uE table,deep:=fun d=>dp.any (Nat.beq d),trunc:=fun d=>tr.any (Nat.beq d),ro:=fun _=>false,EJ:=fun t=>E8.any (Nat.beq t),mp:=w4 maps,nt:=nt }
theorem b9(nt:Nat)(tr dp:List Nat):cm Tryz.prog (env nt tr dp):=DD (by kernel_rfl) Wi Xj WD _ rfl (fun _=>rfl) rfl
noncomputable def u1{A0 B C:Type}(f:A0->C)(x:A0×B):C:=f x.1
noncomputable def u2{A0 A1 B C:Type}(f:A0->A1->C)(x:A0×A1×B):C:=f x.1 x.2.1
noncomputable def u3{A0 A1 A2 B C:Type}(f:A0->A1->A2->C)(x:A0×A1×A2×B):C:=f x.1 x.2.1 x.2.2.1
noncomputable def u4{A0 A1 A2 A3 B C:Type}(f:A0->A1->A2->A3->C)(x:A0×A1×A2×A3×B):C:=f x.1 x.2.1 x.2.2.1 x.2.2.2.1
noncomputable def u5{A0 A1 A2 A3 A4 B C:Type}(f:A0->A1->A2->A3->A4->C)(x:A0×A1×A2×A3×A4×B):C:=f x.1 x.2.1 x.2.2.1 x.2.2.2.1 x.2.2.2.2.1
noncomputable def u6{A0 A1 A2 A3 A4 A5 B C:Type}(f:A0->A1->A2->A3->A4->A5->C)(x:A0×A1×A2×A3×A4×A5×B):C:=f x.1 x.2.1 x.2.2.1 x.2.2.2.1 x.2.2.2.2.1 x.2.2.2.2.2.1
noncomputable def u7{A0 A1 A2 A3 A4 A5 A6 B C:Type}(f:A0->A1->A2->A3->A4->A5->A6->C)(x:A0×A1×A2×A3×A4×A5×A6×B):C:=f x.1 x.2.1 x.2.2.1 x.2.2.2.1 x.2.2.2.2.1 x.2.2.2.2.2.1 x.2.2.2.2.2.2.1
noncomputable def u8{A0 A1 A2 A3 A4 A5 A6 A7 B C:Type}(f:A0->A1->A2->A3->A4->A5->A6->A7->C)(x:A0×A1×A2×A3×A4×A5×A6×A7×B):C:=f x.1 x.2.1 x.2.2.1 x.2.2.2.1 x.2.2.2.2.1 x.2.2.2.2.2.1 x.2.2.2.2.2.2.1 x.2.2.2.2.2.2.2.1
noncomputable def u10{A0 A1 A2 A3 A4 A5 A6 A7 A8 A9 B C:Type}(f:A0->A1->A2->A3->A4->A5->A6->A7->A8->A9->C)(x:A0×A1×A2×A3×A4×A5×A6×A7×A8×A9×B):C:=f x.1 x.2.1 x.2.2.1 x.2.2.2.1 x.2.2.2.2.1 x.2.2.2.2.2.1 x.2.2.2.2.2.2.1 x.2.2.2.2.2.2.2.1 x.2.2.2.2.2.2.2.2.1 x.2.2.2.2.2.2.2.2.2.1
noncomputable def u11{A0 A1 A2 A3 A4 A5 A6 A7 A8 A9 Rs B C:Type}(f:A0->A1->A2->A3->A4->A5->A6->A7->A8->A9->Rs->C)(x:A0×A1×A2×A3×A4×A5×A6×A7×A8×A9×Rs×B):C:=f x.1 x.2.1 x.2.2.1 x.2.2.2.1 x.2.2.2.2.1 x.2.2.2.2.2.1 x.2.2.2.2.2.2.1 x.2.2.2.2.2.2.2.1 x.2.2.2.2.2.2.2.2.1 x.2.2.2.2.2.2.2.2.2.1 x.2.2.2.2.2.2.2.2.2.2.1
noncomputable def u12{A0 A1 A2 A3 A4 A5 A6 A7 A8 A9 Rs R9 B C:Type}(f:A0->A1->A2->A3->A4->A5->A6->A7->A8->A9->Rs->R9->C)(x:A0×A1×A2×A3×A4×A5×A6×A7×A8×A9×Rs×R9×B):C:=f x.1 x.2.1 x.2.2.1 x.2.2.2.1 x.2.2.2.2.1 x.2.2.2.2.2.1 x.2.2.2.2.2.2.1 x.2.2.2.2.2.2.2.1 x.2.2.2.2.2.2.2.2.1 x.2.2.2.2.2.2.2.2.2.1 x.2.2.2.2.2.2.2.2.2.2.1 x.2.2.2.2.2.2.2.2.2.2.2.1
noncomputable def u13{A0 A1 A2 A3 A4 A5 A6 A7 A8 A9 Rs R9 Sx B C:Type}(f:A0->A1->A2->A3->A4->A5->A6->A7->A8->A9->Rs->R9->Sx->C)(x:A0×A1×A2×A3×A4×A5×A6×A7×A8×A9×Rs×R9×Sx×B):C:=f x.1 x.2.1 x.2.2.1 x.2.2.2.1 x.2.2.2.2.1 x.2.2.2.2.2.1 x.2.2.2.2.2.2.1 x.2.2.2.2.2.2.2.1 x.2.2.2.2.2.2.2.2.1 x.2.2.2.2.2.2.2.2.2.1 x.2.2.2.2.2.2.2.2.2.2.1 x.2.2.2.2.2.2.2.2.2.2.2.1 x.2.2.2.2.2.2.2.2.2.2.2.2.1
noncomputable def Zf{A0 A1 A2 A3 A4 A5 A6 A7 A8 A9 Rs R9 Sx Td B C:Type}(f:A0->A1->A2->A3->A4->A5->A6->A7->A8->A9->Rs->R9->Sx->Td->C)(x:A0×A1×A2×A3×A4×A5×A6×A7×A8×A9×Rs×R9×Sx×Td×B):C:=f x.1 x.2.1 x.2.2.1 x.2.2.2.1 x.2.2.2.2.1 x.2.2.2.2.2.1 x.2.2.2.2.2.2.1 x.2.2.2.2.2.2.2.1 x.2.2.2.2.2.2.2.2.1 x.2.2.2.2.2.2.2.2.2.1 x.2.2.2.2.2.2.2.2.2.2.1 x.2.2.2.2.2.2.2.2.2.2.2.1 x.2.2.2.2.2.2.2.2.2.2.2.2.1 x.2.2.2.2.2.2.2.2.2.2.2.2.2.1
noncomputable def VO{A0 A1 A2 A3 A4 A5 A6 A7 A8 A9 Rs R9 Sx Td Ua B C:Type}(f:A0->A1->A2->A3->A4->A5->A6->A7->A8->A9->Rs->R9->Sx->Td->Ua->C)(x:A0×A1×A2×A3×A4×A5×A6×A7×A8×A9×Rs×R9×Sx×Td×Ua×B):C:=f x.1 x.2.1 x.2.2.1 x.2.2.2.1 x.2.2.2.2.1 x.2.2.2.2.2.1 x.2.2.2.2.2.2.1 x.2.2.2.2.2.2.2.1 x.2.2.2.2.2.2.2.2.1 x.2.2.2.2.2.2.2.2.2.1 x.2.2.2.2.2.2.2.2.2.2.1 x.2.2.2.2.2.2.2.2.2.2.2.1 x.2.2.2.2.2.2.2.2.2.2.2.2.1 x.2.2.2.2.2.2.2.2.2.2.2.2.2.1 x.2.2.2.2.2.2.2.2.2.2.2.2.2.2.1
noncomputable def u16{A0 A1 A2 A3 A4 A5 A6 A7 A8 A9 Rs R9 Sx Td Ua U6 B C:Type}(f:A0->A1->A2->A3->A4->A5->A6->A7->A8->A9->Rs->R9->Sx->Td->Ua->U6->C)(x:A0×A1×A2×A3×A4×A5×A6×A7×A8×A9×Rs×R9×Sx×Td×Ua×U6×B):C:=f x.1 x.2.1 x.2.2.1 x.2.2.2.1 x.2.2.2.2.1 x.2.2.2.2.2.1 x.2.2.2.2.2.2.1 x.2.2.2.2.2.2.2.1 x.2.2.2.2.2.2.2.2.1 x.2.2.2.2.2.2.2.2.2.1 x.2.2.2.2.2.2.2.2.2.2.1 x.2.2.2.2.2.2.2.2.2.2.2.1 x.2.2.2.2.2.2.2.2.2.2.2.2.1 x.2.2.2.2.2.2.2.2.2.2.2.2.2.1 x.2.2.2.2.2.2.2.2.2.2.2.2.2.2.1 x.2.2.2.2.2.2.2.2.2.2.2.2.2.2.2.1
noncomputable def u22{A0 A1 A2 A3 A4 A5 A6 A7 A8 A9 Rs R9 Sx Td Ua U6 VP VQ VR VS VT VU B C:Type}(f:A0->A1->A2->A3->A4->A5->A6->A7->A8->A9->Rs->R9->Sx->Td->Ua->U6->VP->VQ->VR->VS->VT->VU->C)(x:A0×A1×A2×A3×A4×A5×A6×A7×A8×A9×Rs×R9×Sx×Td×Ua×U6×VP×VQ×VR×VS×VT×VU×B):C:=f x.1 x.2.1 x.2.2.1 x.2.2.2.1 x.2.2.2.2.1 x.2.2.2.2.2.1 x.2.2.2.2.2.2.1 x.2.2.2.2.2.2.2.1 x.2.2.2.2.2.2.2.2.1 x.2.2.2.2.2.2.2.2.2.1 x.2.2.2.2.2.2.2.2.2.2.1 x.2.2.2.2.2.2.2.2.2.2.2.1 x.2.2.2.2.2.2.2.2.2.2.2.2.1 x.2.2.2.2.2.2.2.2.2.2.2.2.2.1 x.2.2.2.2.2.2.2.2.2.2.2.2.2.2.1 x.2.2.2.2.2.2.2.2.2.2.2.2.2.2.2.1 x.2.2.2.2.2.2.2.2.2.2.2.2.2.2.2.2.1 x.2.2.2.2.2.2.2.2.2.2.2.2.2.2.2.2.2.1 x.2.2.2.2.2.2.2.2.2.2.2.2.2.2.2.2.2.2.1 x.2.2.2.2.2.2.2.2.2.2.2.2.2.2.2.2.2.2.2.1 x.2.2.2.2.2.2.2.2.2.2.2.2.2.2.2.2.2.2.2.2.1 x.2.2.2.2.2.2.2.2.2.2.2.2.2.2.2.2.2.2.2.2.2.1
noncomputable def u26{A0 A1 A2 A3 A4 A5 A6 A7 A8 A9 Rs R9 Sx Td Ua U6 VP VQ VR VS VT VU WQ WR WS WT B C:Type}(f:A0->A1->A2->A3->A4->A5->A6->A7->A8->A9->Rs->R9->Sx->Td->Ua->U6->VP->VQ->VR->VS->VT->VU->WQ->WR->WS->WT->C)(x:A0×A1×A2×A3×A4×A5×A6×A7×A8×A9×Rs×R9×Sx×Td×Ua×U6×VP×VQ×VR×VS×VT×VU×WQ×WR×WS×WT×B):C:=f x.1 x.2.1 x.2.2.1 x.2.2.2.1 x.2.2.2.2.1 x.2.2.2.2.2.1 x.2.2.2.2.2.2.1 x.2.2.2.2.2.2.2.1 x.2.2.2.2.2.2.2.2.1 x.2.2.2.2.2.2.2.2.2.1 x.2.2.2.2.2.2.2.2.2.2.1 x.2.2.2.2.2.2.2.2.2.2.2.1 x.2.2.2.2.2.2.2.2.2.2.2.2.1 x.2.2.2.2.2.2.2.2.2.2.2.2.2.1 x.2.2.2.2.2.2.2.2.2.2.2.2.2.2.1 x.2.2.2.2.2.2.2.2.2.2.2.2.2.2.2.1 x.2.2.2.2.2.2.2.2.2.2.2.2.2.2.2.2.1 x.2.2.2.2.2.2.2.2.2.2.2.2.2.2.2.2.2.1 x.2.2.2.2.2.2.2.2.2.2.2.2.2.2.2.2.2.2.1 x.2.2.2.2.2.2.2.2.2.2.2.2.2.2.2.2.2.2.2.1 x.2.2.2.2.2.2.2.2.2.2.2.2.2.2.2.2.2.2.2.2.1 x.2.2.2.2.2.2.2.2.2.2.2.2.2.2.2.2.2.2.2.2.2.1 x.2.2.2.2.2.2.2.2.2.2.2.2.2.2.2.2.2.2.2.2.2.2.1 x.2.2.2.2.2.2.2.2.2.2.2.2.2.2.2.2.2.2.2.2.2.2.2.1 x.2.2.2.2.2.2.2.2.2.2.2.2.2.2.2.2.2.2.2.2.2.2.2.2.1 x.2.2.2.2.2.2.2.2.2.2.2.2.2.2.2.2.2.2.2.2.2.2.2.2.2.1
noncomputable def u28{A0 A1 A2 A3 A4 A5 A6 A7 A8 A9 Rs R9 Sx Td Ua U6 VP VQ VR VS VT VU WQ WR WS WT XH XI B C:Type}(f:A0->A1->A2->A3->A4->A5->A6->A7->A8->A9->Rs->R9->Sx->Td->Ua->U6->VP->VQ->VR->VS->VT->VU->WQ->WR->WS->WT->XH->XI->C)(x:A0×A1×A2×A3×A4×A5×A6×A7×A8×A9×Rs×R9×Sx×Td×Ua×U6×VP×VQ×VR×VS×VT×VU×WQ×WR×WS×WT×XH×XI×B):C:=f x.1 x.2.1 x.2.2.1 x.2.2.2.1 x.2.2.2.2.1 x.2.2.2.2.2.1 x.2.2.2.2.2.2.1 x.2.2.2.2.2.2.2.1 x.2.2.2.2.2.2.2.2.1 x.2.2.2.2.2.2.2.2.2.1 x.2.2.2.2.2.2.2.2.2.2.1 x.2.2.2.2.2.2.2.2.2.2.2.1 x.2.2.2.2.2.2.2.2.2.2.2.2.1 x.2.2.2.2.2.2.2.2.2.2.2.2.2.1 x.2.2.2.2.2.2.2.2.2.2.2.2.2.2.1 x.2.2.2.2.2.2.2.2.2.2.2.2.2.2.2.1 x.2.2.2.2.2.2.2.2.2.2.2.2.2.2.2.2.1 x.2.2.2.2.2.2.2.2.2.2.2.2.2.2.2.2.2.1 x.2.2.2.2.2.2.2.2.2.2.2.2.2.2.2.2.2.2.1 x.2.2.2.2.2.2.2.2.2.2.2.2.2.2.2.2.2.2.2.1 x.2.2.2.2.2.2.2.2.2.2.2.2.2.2.2.2.2.2.2.2.1 x.2.2.2.2.2.2.2.2.2.2.2.2.2.2.2.2.2.2.2.2.2.1 x.2.2.2.2.2.2.2.2.2.2.2.2.2.2.2.2.2.2.2.2.2.2.1 x.2.2.2.2.2.2.2.2.2.2.2.2.2.2.2.2.2.2.2.2.2.2.2.1 x.2.2.2.2.2.2.2.2.2.2.2.2.2.2.2.2.2.2.2.2.2.2.2.2.1 x.2.2.2.2.2.2.2.2.2.2.2.2.2.2.2.2.2.2.2.2.2.2.2.2.2.1 x.2.2.2.2.2.2.2.2.2.2.2.2.2.2.2.2.2.2.2.2.2.2.2.2.2.2.1 x.2.2.2.2.2.2.2.2.2.2.2.2.2.2.2.2.2.2.2.2.2.2.2.2.2.2.2.1
noncomputable def u30{A0 A1 A2 A3 A4 A5 A6 A7 A8 A9 Rs R9 Sx Td Ua U6 VP VQ VR VS VT VU WQ WR WS WT XH XI A28 A29 B C:Type}(f:A0->A1->A2->A3->A4->A5->A6->A7->A8->A9->Rs->R9->Sx->Td->Ua->U6->VP->VQ->VR->VS->VT->VU->WQ->WR->WS->WT->XH->XI->A28->A29->C)(x:A0×A1×A2×A3×A4×A5×A6×A7×A8×A9×Rs×R9×Sx×Td×Ua×U6×VP×VQ×VR×VS×VT×VU×WQ×WR×WS×WT×XH×XI×A28×A29×B):C:=f x.1 x.2.1 x.2.2.1 x.2.2.2.1 x.2.2.2.2.1 x.2.2.2.2.2.1 x.2.2.2.2.2.2.1 x.2.2.2.2.2.2.2.1 x.2.2.2.2.2.2.2.2.1 x.2.2.2.2.2.2.2.2.2.1 x.2.2.2.2.2.2.2.2.2.2.1 x.2.2.2.2.2.2.2.2.2.2.2.1 x.2.2.2.2.2.2.2.2.2.2.2.2.1 x.2.2.2.2.2.2.2.2.2.2.2.2.2.1 x.2.2.2.2.2.2.2.2.2.2.2.2.2.2.1 x.2.2.2.2.2.2.2.2.2.2.2.2.2.2.2.1 x.2.2.2.2.2.2.2.2.2.2.2.2.2.2.2.2.1 x.2.2.2.2.2.2.2.2.2.2.2.2.2.2.2.2.2.1 x.2.2.2.2.2.2.2.2.2.2.2.2.2.2.2.2.2.2.1 x.2.2.2.2.2.2.2.2.2.2.2.2.2.2.2.2.2.2.2.1 x.2.2.2.2.2.2.2.2.2.2.2.2.2.2.2.2.2.2.2.2.1 x.2.2.2.2.2.2.2.2.2.2.2.2.2.2.2.2.2.2.2.2.2.1 x.2.2.2.2.2.2.2.2.2.2.2.2.2.2.2.2.2.2.2.2.2.2.1 x.2.2.2.2.2.2.2.2.2.2.2.2.2.2.2.2.2.2.2.2.2.2.2.1 x.2.2.2.2.2.2.2.2.2.2.2.2.2.2.2.2.2.2.2.2.2.2.2.2.1 x.2.2.2.2.2.2.2.2.2.2.2.2.2.2.2.2.2.2.2.2.2.2.2.2.2.1 x.2.2.2.2.2.2.2.2.2.2.2.2.2.2.2.2.2.2.2.2.2.2.2.2.2.2.1 x.2.2.2.2.2.2.2.2.2.2.2.2.2.2.2.2.2.2.2.2.2.2.2.2.2.2.2.1 x.2.2.2.2.2.2.2.2.2.2.2.2.2.2.2.2.2.2.2.2.2.2.2.2.2.2.2.2.1 x.2.2.2.2.2.2.2.2.2.2.2.2.2.2.2.2.2.2.2.2.2.2.2.2.2.2.2.2.2.1
noncomputable def T0:List (bR×gY):=[]
theorem h0:tw Tryz.prog T0:=trivial
noncomputable def T1:List (bR×gY):=((174,[]),⟨true,[o0,o1],[o1],u2 L7⟩)::T0
theorem h1:tw Tryz.prog T1:=fk (b9 12 [] []) h0 [] trivial Tryz.func174 (by kernel_rfl) fun x=>by kernel_rfl
noncomputable def T2:List (bR×gY):=((91,[]),⟨true,[.agg [v0,v0],o1],[o1],u3 Pf⟩)::T1
theorem h2:tw Tryz.prog T2:=fk (b9 18 [] []) h1 [] trivial Tryz.func91 (by kernel_rfl) fun x=>by kernel_rfl
noncomputable def T3:List (bR×gY):=((109,[]),⟨true,[o2,o1],[o1],u2 Pe⟩)::T2
theorem h3:tw Tryz.prog T3:=fk (b9 12 [] []) h2 [] trivial Tryz.func109 (by kernel_rfl) fun x=>by kernel_rfl
noncomputable def T4:List (bR×gY):=((230,[]),⟨true,[o3,o1],[o1],u2 Pd⟩)::T3
theorem h4:tw Tryz.prog T4:=fk (b9 12 [] []) h3 [] trivial Tryz.func230 (by kernel_rfl) fun x=>by kernel_rfl
noncomputable def T5:List (bR×gY):=((175,[]),⟨true,[a0,o1],[o1],u4 JU⟩)::T4
theorem h5:tw Tryz.prog T5:=fk (b9 18 [] []) h4 [] trivial Tryz.func175 (by kernel_rfl) fun x=>by kernel_rfl
noncomputable def N4:ep:=⟨[(0,o4)],[(1,o1),(5,o1)],[(.ret,[(4,o1)]),(.exit 0,[(1,o1)])],Kw⟩
theorem Q0:mT Tryz.prog (env 27 [] []) (lp 0 (body Tryz.f92) 0) N4:=lk (b9 _ _ _) h5 (n:=0) [] trivial (by kernel_rfl) fun k x=>by kernel_rfl
noncomputable def T6:List (bR×gY):=((92,[]),⟨true,[o4,o1],[o1],u2 J5⟩)::T5
theorem h6:tw Tryz.prog T6:=fk (b9 27 [] []) h5 [(0,N4)] ⟨Q0,trivial⟩ Tryz.func92 (by kernel_rfl) fun x=>by kernel_rfl
noncomputable def T7:List (bR×gY):=((61,[]),⟨true,[o5,o1],[o1],u2 Lc⟩)::T6
theorem h7:tw Tryz.prog T7:=fk (b9 12 [] []) h6 [] trivial Tryz.func61 (by kernel_rfl) fun x=>by kernel_rfl
noncomputable def T8:List (bR×gY):=((143,[]),⟨true,[a1,o1],[o1],u12 Ly⟩)::T7
theorem h8:tw Tryz.prog T8:=fk (b9 24 [] []) h7 [] trivial Tryz.func143 (by kernel_rfl) fun x=>by kernel_rfl
noncomputable def PB:ep:=⟨[(0,o6)],[(1,o1),(5,o1)],[(.ret,[(4,o1)]),(.exit 0,[(1,o1)])],Lj⟩
theorem RE:mT Tryz.prog (env 27 [] []) (lp 0 (body Tryz.f58) 0) PB:=lk (b9 _ _ _) h8 (n:=0) [] trivial (by kernel_rfl) fun k x=>by kernel_rfl
noncomputable def T9:List (bR×gY):=((58,[]),⟨true,[o6,o1],[o1],u2 JS⟩)::T8
theorem h9:tw Tryz.prog T9:=fk (b9 27 [] []) h8 [(0,PB)] ⟨RE,trivial⟩ Tryz.func58 (by kernel_rfl) fun x=>by kernel_rfl
noncomputable def T10:List (bR×gY):=((59,[]),⟨true,[o7,o1],[o1],u2 L6⟩)::T9
theorem F8:tw Tryz.prog T10:=fk (b9 12 [] []) h9 [] trivial Tryz.func59 (by kernel_rfl) fun x=>by kernel_rfl
noncomputable def T11:List (bR×gY):=((60,[]),⟨true,[o8,o1],[o1],u2 MX⟩)::T10
theorem h11:tw Tryz.prog T11:=fk (b9 12 [] []) F8 [] trivial Tryz.func60 (by kernel_rfl) fun x=>by kernel_rfl
noncomputable def T12:List (bR×gY):=((11,[]),⟨true,[a2,o1],[o1],u16 J6⟩)::T11
theorem Zp:tw Tryz.prog T12:=fk (b9 30 [] []) h11 [] trivial Tryz.func11 (by kernel_rfl) fun x=>by kernel_rfl
noncomputable def T13:List (bR×gY):=((24,[]),⟨true,[a3],[a3],u8 PW⟩)::T12
theorem h13:tw Tryz.prog T13:=fk (b9 29 [] []) Zp [] trivial Tryz.func24 (by kernel_rfl) fun x=>by kernel_rfl
noncomputable def T14:List (bR×gY):=((231,[]),⟨true,[.agg [v1,v1]],[.agg [v1,v1]],u2 Qu⟩)::T13
theorem h14:tw Tryz.prog T14:=fk (b9 11 [] []) h13 [] trivial Tryz.func231 (by kernel_rfl) fun x=>by kernel_rfl
noncomputable def PD:ep:=⟨[(0,o0)],[(3,o9),(4,o1)],[(.exit 0,[(3,o9)])],Lm⟩
theorem RG:mT Tryz.prog (env 23 [] []) (lp 0 (body Tryz.f177) 0) PD:=lk (b9 _ _ _) h14 (n:=0) [] trivial (by kernel_rfl) fun k x=>by kernel_rfl
noncomputable def T15:List (bR×gY):=((177,[]),⟨true,[o0],[o9],u1 Mg⟩)::T14
theorem h15:tw Tryz.prog T15:=fk (b9 23 [] []) h14 [(0,PD)] ⟨RG,trivial⟩ Tryz.func177 (by kernel_rfl) fun x=>by kernel_rfl
noncomputable def T16:List (bR×gY):=((95,[]),⟨true,[.agg [v0,v0]],[.agg [v19,v19]],u2 Pj⟩)::T15
theorem h16:tw Tryz.prog T16:=fk (b9 13 [] []) h15 [] trivial Tryz.func95 (by kernel_rfl) fun x=>by kernel_rfl
noncomputable def P9:ep:=⟨[(0,o2)],[(3,o10),(4,o1)],[(.exit 0,[(3,o10)])],Md⟩
theorem RZ:mT Tryz.prog (env 22 [] []) (lp 0 (body Tryz.f115) 0) P9:=lk (b9 _ _ _) h16 (n:=0) [] trivial (by kernel_rfl) fun k x=>by kernel_rfl
noncomputable def T17:List (bR×gY):=((115,[]),⟨true,[o2],[o10],u1 Ph⟩)::T16
theorem h17:tw Tryz.prog T17:=fk (b9 22 [] []) h16 [(0,P9)] ⟨RZ,trivial⟩ Tryz.func115 (by kernel_rfl) fun x=>by kernel_rfl
noncomputable def T18:List (bR×gY):=((261,[]),⟨true,[a4],[a4],u4 Ra⟩)::T17
theorem h18:tw Tryz.prog T18:=fk (b9 17 [] []) h17 [] trivial Tryz.func261 (by kernel_rfl) fun x=>by kernel_rfl
noncomputable def P8:ep:=⟨[(0,o3)],[(3,o11),(4,o1)],[(.exit 0,[(3,o11)])],L9⟩
theorem RY:mT Tryz.prog (env 23 [] []) (lp 0 (body Tryz.f232) 0) P8:=lk (b9 _ _ _) h18 (n:=0) [] trivial (by kernel_rfl) fun k x=>by kernel_rfl
noncomputable def T19:List (bR×gY):=((232,[]),⟨true,[o3],[o11],u1 Pg⟩)::T18
theorem h19:tw Tryz.prog T19:=fk (b9 23 [] []) h18 [(0,P8)] ⟨RY,trivial⟩ Tryz.func232 (by kernel_rfl) fun x=>by kernel_rfl
noncomputable def T20:List (bR×gY):=((178,[]),⟨true,[a0],[.agg [v1,v20,v21]],u3 Ld⟩)::T19
theorem h20:tw Tryz.prog T20:=fk (b9 16 [] []) h19 [] trivial Tryz.func178 (by kernel_rfl) fun x=>by kernel_rfl
noncomputable def N5:ep:=⟨[(0,o4)],[(3,o12),(4,o1)],[(.exit 0,[(3,o12)])],Mb⟩
theorem Q1:mT Tryz.prog (env 23 [] [7]) (lp 0 (body Tryz.f96) 0) N5:=lk (b9 _ _ _) h20 (n:=0) [] trivial (by kernel_rfl) fun k x=>by kernel_rfl
noncomputable def T21:List (bR×gY):=((96,[]),⟨true,[o4],[o12],u1 Ma⟩)::T20
theorem h21:tw Tryz.prog T21:=fk (b9 23 [] [7]) h20 [(0,N5)] ⟨Q1,trivial⟩ Tryz.func96 (by kernel_rfl) fun x=>by kernel_rfl
noncomputable def T22:List (bR×gY):=((218,[]),⟨true,[a5],[a5],u5 Qt⟩)::T21
theorem h22:tw Tryz.prog T22:=fk (b9 20 [] []) h21 [] trivial Tryz.func218 (by kernel_rfl) fun x=>by kernel_rfl
noncomputable def T23:List (bR×gY):=((156,[]),⟨true,[a6],[a6],u7 PU⟩)::T22
theorem h23:tw Tryz.prog T23:=fk (b9 26 [] []) h22 [] trivial Tryz.func156 (by kernel_rfl) fun x=>by kernel_rfl
noncomputable def ON:ep:=⟨[(0,o5)],[(3,o13),(4,o1)],[(.exit 0,[(3,o13)])],KU⟩
theorem Ri:mT Tryz.prog (env 23 [] []) (lp 0 (body Tryz.f74) 0) ON:=lk (b9 _ _ _) h23 (n:=0) [] trivial (by kernel_rfl) fun k x=>by kernel_rfl
noncomputable def T24:List (bR×gY):=((74,[]),⟨true,[o5],[o13],u1 Le⟩)::T23
theorem h24:tw Tryz.prog T24:=fk (b9 23 [] []) h23 [(0,ON)] ⟨Ri,trivial⟩ Tryz.func74 (by kernel_rfl) fun x=>by kernel_rfl
noncomputable def T25:List (bR×gY):=((153,[]),⟨true,[a1],[.agg [v19,v19,v22,v1,v1,v6,v6,v6,v1,v1,v23]],u11 M7⟩)::T24
theorem h25:tw Tryz.prog T25:=fk (b9 27 [] []) h24 [] trivial Tryz.func153 (by kernel_rfl) fun x=>by kernel_rfl
noncomputable def PC:ep:=⟨[(0,o6)],[(3,o14),(4,o1)],[(.exit 0,[(3,o14)])],Nt⟩
theorem RF:mT Tryz.prog (env 23 [] [7]) (lp 0 (body Tryz.f71) 0) PC:=lk (b9 _ _ _) h25 (n:=0) [] trivial (by kernel_rfl) fun k x=>by kernel_rfl
noncomputable def T26:List (bR×gY):=((71,[]),⟨true,[o6],[o14],u1 NO⟩)::T25
theorem h26:tw Tryz.prog T26:=fk (b9 23 [] [7]) h25 [(0,PC)] ⟨RF,trivial⟩ Tryz.func71 (by kernel_rfl) fun x=>by kernel_rfl
noncomputable def T27:List (bR×gY):=((219,[]),⟨true,[a7],[a7],u5 Sf⟩)::T26
theorem h27:tw Tryz.prog T27:=fk (b9 20 [] []) h26 [] trivial Tryz.func219 (by kernel_rfl) fun x=>by kernel_rfl
noncomputable def T28:List (bR×gY):=((154,[]),⟨true,[a8],[a8],u13 Pp⟩)::T27
theorem h28:tw Tryz.prog T28:=fk (b9 33 [] []) h27 [] trivial Tryz.func154 (by kernel_rfl) fun x=>by kernel_rfl
noncomputable def N6:ep:=⟨[(0,o7)],[(3,o15),(4,o1)],[(.exit 0,[(3,o15)])],Kz⟩
theorem Q2:mT Tryz.prog (env 23 [] []) (lp 0 (body Tryz.f72) 0) N6:=lk (b9 _ _ _) h28 (n:=0) [] trivial (by kernel_rfl) fun k x=>by kernel_rfl
noncomputable def T29:List (bR×gY):=((72,[]),⟨true,[o7],[o15],u1 Mf⟩)::T28
theorem h29:tw Tryz.prog T29:=fk (b9 23 [] []) h28 [(0,N6)] ⟨Q2,trivial⟩ Tryz.func72 (by kernel_rfl) fun x=>by kernel_rfl
noncomputable def T30:List (bR×gY):=((155,[]),⟨true,[a9],[a9],u7 PV⟩)::T29
theorem h30:tw Tryz.prog T30:=fk (b9 26 [] []) h29 [] trivial Tryz.func155 (by kernel_rfl) fun x=>by kernel_rfl
noncomputable def OO:ep:=⟨[(0,o8)],[(3,o16),(4,o1)],[(.exit 0,[(3,o16)])],KW⟩
theorem Rj:mT Tryz.prog (env 23 [] []) (lp 0 (body Tryz.f73) 0) OO:=lk (b9 _ _ _) h30 (n:=0) [] trivial (by kernel_rfl) fun k x=>by kernel_rfl
noncomputable def T31:List (bR×gY):=((73,[]),⟨true,[o8],[o16],u1 MY⟩)::T30
theorem h31:tw Tryz.prog T31:=fk (b9 23 [] []) h30 [(0,OO)] ⟨Rj,trivial⟩ Tryz.func73 (by kernel_rfl) fun x=>by kernel_rfl
noncomputable def T32:List (bR×gY):=((13,[]),⟨true,[a2],[a10],VO Me⟩)::T31
theorem h32:tw Tryz.prog T32:=fk (b9 34 [] []) h31 [] trivial Tryz.func13 (by kernel_rfl) fun x=>by kernel_rfl
noncomputable def T33:List (bR×gY):=((63,[]),⟨true,[o1,o1,o1],[o17],u3 jj⟩)::T32
theorem h33:tw Tryz.prog T33:=fk (b9 15 [] []) h32 [] trivial Tryz.func63 (by kernel_rfl) fun x=>by kernel_rfl
noncomputable def T34:List (bR×gY):=((62,[]),⟨true,[a3],[o17],u8 NQ⟩)::T33
theorem h34:tw Tryz.prog T34:=fk (b9 41 [] []) h33 [] trivial Tryz.func62 (by kernel_rfl) fun x=>by kernel_rfl
noncomputable def T35:List (bR×gY):=((64,[]),⟨true,[o1],[o17],u1 JM⟩)::T34
theorem h35:tw Tryz.prog T35:=fk (b9 5 [] []) h34 [] trivial Tryz.func64 (by kernel_rfl) fun x=>by kernel_rfl
noncomputable def T36:List (bR×gY):=((149,[]),⟨true,[o1],[o17],u1 JF⟩)::T35
theorem h36:tw Tryz.prog T36:=fk (b9 5 [] []) h35 [] trivial Tryz.func149 (by kernel_rfl) fun x=>by kernel_rfl
noncomputable def T37:List (bR×gY):=((214,[]),⟨true,[o1],[o17],u1 NR⟩)::T36
theorem h37:tw Tryz.prog T37:=fk (b9 5 [] []) h36 [] trivial Tryz.func214 (by kernel_rfl) fun x=>by kernel_rfl
noncomputable def T38:List (bR×gY):=((144,[]),⟨true,[a9],[o17],u7 Mi⟩)::T37
theorem h38:tw Tryz.prog T38:=fk (b9 45 [] []) h37 [] trivial Tryz.func144 (by kernel_rfl) fun x=>by kernel_rfl
noncomputable def OR:ep:=⟨[(0,o18)],[(3,o1)],[(.ret,[(2,o17)]),(.exit 0,[])],MK⟩
theorem Rm:mT Tryz.prog (env 19 [] []) (lp 0 (body Tryz.f65) 0) OR:=lk (b9 _ _ _) h38 (n:=0) [] trivial (by kernel_rfl) fun k x=>by kernel_rfl
noncomputable def T39:List (bR×gY):=((65,[]),⟨true,[o18],[o17],u1 MZ⟩)::T38
theorem h39:tw Tryz.prog T39:=fk (b9 19 [] []) h38 [(0,OR)] ⟨Rm,trivial⟩ Tryz.func65 (by kernel_rfl) fun x=>by kernel_rfl
noncomputable def T40:List (bR×gY):=((145,[]),⟨true,[a6],[o17],u7 NP⟩)::T39
theorem h40:tw Tryz.prog T40:=fk (b9 36 [] []) h39 [] trivial Tryz.func145 (by kernel_rfl) fun x=>by kernel_rfl
noncomputable def N7:ep:=⟨[(0,o19)],[(3,o1)],[(.ret,[(2,o17)]),(.exit 0,[])],Mk⟩
theorem Q3:mT Tryz.prog (env 73 [] []) (lp 0 (body Tryz.f66) 0) N7:=lk (b9 _ _ _) h40 (n:=0) [] trivial (by kernel_rfl) fun k x=>by kernel_rfl
noncomputable def T41:List (bR×gY):=((66,[]),⟨true,[o19],[o17],u1 Js⟩)::T40
theorem h41:tw Tryz.prog T41:=fk (b9 73 [] []) h40 [(0,N7)] ⟨Q3,trivial⟩ Tryz.func66 (by kernel_rfl) fun x=>by kernel_rfl
noncomputable def PE:ep:=⟨[(0,o20),(1,o1)],[(5,o1)],[(.ret,[(4,o17)]),(.exit 0,[])],Nw⟩
theorem RH:mT Tryz.prog (env 51 [] []) (lp 0 (body Tryz.f215) 0) PE:=lk (b9 _ _ _) h41 (n:=0) [] trivial (by kernel_rfl) fun k x=>by kernel_rfl
noncomputable def T42:List (bR×gY):=((215,[]),⟨true,[o20,o1],[o17],u2 Mo⟩)::T41
theorem h42:tw Tryz.prog T42:=fk (b9 51 [] []) h41 [(0,PE)] ⟨RH,trivial⟩ Tryz.func215 (by kernel_rfl) fun x=>by kernel_rfl
noncomputable def T43:List (bR×gY):=((146,[]),⟨true,[a11],[o17],u2 Nb⟩)::T42
theorem Z6:tw Tryz.prog T43:=fk (b9 11 [] []) h42 [] trivial Tryz.func146 (by kernel_rfl) fun x=>by kernel_rfl
noncomputable def OT:ep:=⟨[(1,.ro t21),(3,o1),(4,o1)],[(5,a12),(6,o1)],[(.ret,[(2,o17)]),(.exit 2,[(5,a12)])],KZ⟩
theorem Ro:mT Tryz.prog (env 70 [] []) (lp 0 (lp 0 (body Tryz.f252) 0) 0) OT:=lk (b9 _ _ _) Z6 (n:=2) [] trivial (by kernel_rfl) fun k x=>by kernel_rfl
noncomputable def OS:ep:=⟨[(1,.ro t21)],[(3,o1),(4,o1)],[(.ret,[(2,o17)]),(.exit 0,[(3,o1)])],MN⟩
theorem Rn:mT Tryz.prog (env 70 [] []) (lp 0 (body Tryz.f252) 0) OS:=lk (b9 _ _ _) Z6 (n:=0) [(2,OT)] ⟨Ro,trivial⟩ (by kernel_rfl) fun k x=>by kernel_rfl
noncomputable def T44:List (bR×gY):=((252,[]),⟨true,[a13],[o17],u3 M0⟩)::T43
theorem Z7:tw Tryz.prog T44:=fk (b9 70 [] []) Z6 [(0,OS)] ⟨Rn,trivial⟩ Tryz.func252 (by kernel_rfl) fun x=>by kernel_rfl
noncomputable def OQ:ep:=⟨[(1,.ro t21),(3,o1)],[(4,o17),(5,o1)],[(.exit 2,[(4,o17)])],MI⟩
theorem Rl:mT Tryz.prog (env 74 [] []) (lp 0 (lp 0 (body Tryz.f205) 0) 0) OQ:=lk (b9 _ _ _) Z7 (n:=2) [] trivial (by kernel_rfl) fun k x=>by kernel_rfl
noncomputable def OP:ep:=⟨[(1,.ro t21)],[(3,o1)],[(.ret,[(2,o17)]),(.exit 0,[])],MH⟩
theorem Rk:mT Tryz.prog (env 74 [] []) (lp 0 (body Tryz.f205) 0) OP:=lk (b9 _ _ _) Z7 (n:=0) [(2,OQ)] ⟨Rl,trivial⟩ (by kernel_rfl) fun k x=>by kernel_rfl
noncomputable def T45:List (bR×gY):=((205,[]),⟨true,[a13],[o17],u3 Lg⟩)::T44
theorem h45:tw Tryz.prog T45:=fk (b9 74 [] []) Z7 [(0,OP)] ⟨Rk,trivial⟩ Tryz.func205 (by kernel_rfl) fun x=>by kernel_rfl
noncomputable def Qd:ep:=⟨[(1,o1),(2,.ro t21)],[(5,o1)],[(.ret,[(4,o1)]),(.exit 0,[])],OB⟩
theorem R3:mT Tryz.prog (env 26 [] []) (lp 0 (body Tryz.f216) 0) Qd:=lk (b9 _ _ _) h45 (n:=0) [] trivial (by kernel_rfl) fun k x=>by kernel_rfl
noncomputable def T46:List (bR×gY):=((216,[]),⟨true,[a13,o1],[o1],u4 Nc⟩)::T45
theorem h46:tw Tryz.prog T46:=fk (b9 26 [] []) h45 [(0,Qd)] ⟨R3,trivial⟩ Tryz.func216 (by kernel_rfl) fun x=>by kernel_rfl
noncomputable def Qc:ep:=⟨[(0,o21),(3,o1),(4,o1)],[(5,o1)],[(.ret,[(2,o17)]),(.exit 4,[])],OA⟩
theorem R2:mT Tryz.prog (env 52 [] []) (lp 2 (lp 0 (lp 0 (body Tryz.f147) 0) 0) 0) Qc:=lk (b9 _ _ _) h46 (n:=4) [] trivial (by kernel_rfl) fun k x=>by kernel_rfl
noncomputable def Qb:ep:=⟨[(0,o21),(3,o1)],[(4,o1)],[(.ret,[(2,o17)]),(.exit 2,[])],Oz⟩
theorem R1:mT Tryz.prog (env 52 [] []) (lp 0 (lp 0 (body Tryz.f147) 0) 0) Qb:=lk (b9 _ _ _) h46 (n:=2) [(4,Qc)] ⟨R2,trivial⟩ (by kernel_rfl) fun k x=>by kernel_rfl
noncomputable def Qa:ep:=⟨[(0,o21)],[(3,o1)],[(.ret,[(2,o17)]),(.exit 0,[])],Oy⟩
theorem R0:mT Tryz.prog (env 52 [] []) (lp 0 (body Tryz.f147) 0) Qa:=lk (b9 _ _ _) h46 (n:=0) [(2,Qb)] ⟨R1,trivial⟩ (by kernel_rfl) fun k x=>by kernel_rfl
noncomputable def T47:List (bR×gY):=((147,[]),⟨true,[o21],[o17],u1 Na⟩)::T46
theorem h47:tw Tryz.prog T47:=fk (b9 52 [] []) h46 [(0,Qa)] ⟨R0,trivial⟩ Tryz.func147 (by kernel_rfl) fun x=>by kernel_rfl
noncomputable def T48:List (bR×gY):=((217,[]),⟨true,[a5],[o17],u5 QG⟩)::T47
theorem h48:tw Tryz.prog T48:=fk (b9 9 [] []) h47 [] trivial Tryz.func217 (by kernel_rfl) fun x=>by kernel_rfl
noncomputable def T49:List (bR×gY):=((148,[]),⟨true,[a5],[o17],u5 Lz⟩)::T48
theorem h49:tw Tryz.prog T49:=fk (b9 88 [] []) h48 [] trivial Tryz.func148 (by kernel_rfl) fun x=>by kernel_rfl
noncomputable def T50:List (bR×gY):=((67,[]),⟨true,[a14,o1],[o17],u16 Mq⟩)::T49
theorem XE:tw Tryz.prog T50:=fk (b9 95 [] []) h49 [] trivial Tryz.func67 (by kernel_rfl) fun x=>by kernel_rfl
noncomputable def T51:List (bR×gY):=((150,[]),⟨true,[a14,o1],[o17],u16 J8⟩)::T50
theorem h51:tw Tryz.prog T51:=fk (b9 35 [] []) XE [] trivial Tryz.func150 (by kernel_rfl) fun x=>by kernel_rfl
noncomputable def T52:List (bR×gY):=((151,[]),⟨true,[a7],[o17],u5 Pk⟩)::T51
theorem h52:tw Tryz.prog T52:=fk (b9 26 [] []) h51 [] trivial Tryz.func151 (by kernel_rfl) fun x=>by kernel_rfl
noncomputable def T53:List (bR×gY):=((152,[]),⟨true,[a14,o1],[o1],u16 Lh⟩)::T52
theorem h53:tw Tryz.prog T53:=fk (b9 21 [] []) h52 [] trivial Tryz.func152 (by kernel_rfl) fun x=>by kernel_rfl
noncomputable def T54:List (bR×gY):=((68,[]),⟨true,[a14,o1],[o17],u16 K1⟩)::T53
theorem Y3:tw Tryz.prog T54:=fk (b9 142 [] []) h53 [] trivial Tryz.func68 (by kernel_rfl) fun x=>by kernel_rfl
noncomputable def ND:ep:=⟨[(1,.ro t27),(4,o1),(5,o1),(6,o22)],[(3,o1),(7,o1)],[(.ret,[(2,o17)]),(.exit 4,[(3,o1)])],Lv⟩
theorem QA:mT Tryz.prog (env 126 [] []) (lp 2 (lp 0 (lp 0 (body Tryz.f69) 0) 0) 0) ND:=lk (b9 _ _ _) Y3 (n:=4) [] trivial (by kernel_rfl) fun k x=>by kernel_rfl
noncomputable def NC:ep:=⟨[(1,.ro t27),(4,o1)],[(3,o1),(5,o1)],[(.ret,[(2,o17)]),(.exit 2,[(3,o1)])],Lu⟩
theorem Qz:mT Tryz.prog (env 126 [] []) (lp 0 (lp 0 (body Tryz.f69) 0) 0) NC:=lk (b9 _ _ _) Y3 (n:=2) [(4,ND)] ⟨QA,trivial⟩ (by kernel_rfl) fun k x=>by kernel_rfl
noncomputable def NB:ep:=⟨[(1,.ro t27)],[(3,o1),(4,o1)],[(.ret,[(2,o17)]),(.exit 0,[(3,o1)])],OC⟩
theorem Qy:mT Tryz.prog (env 126 [] []) (lp 0 (body Tryz.f69) 0) NB:=lk (b9 _ _ _) Y3 (n:=0) [(2,NC)] ⟨Qz,trivial⟩ (by kernel_rfl) fun k x=>by kernel_rfl
noncomputable def NE:ep:=⟨[(1,.ro t27)],[(3,o1),(10,o1)],[(.exit 6,[(3,o1)])],OD⟩
theorem QB:mT Tryz.prog (env 126 [] []) (lp 0 (body Tryz.f69) 1) NE:=lk (b9 _ _ _) Y3 (n:=6) [] trivial (by kernel_rfl) fun k x=>by kernel_rfl
noncomputable def T55:List (bR×gY):=((69,[]),⟨true,[a14],[o17],VO Ln⟩)::T54
theorem h55:tw Tryz.prog T55:=fk (b9 126 [] []) Y3 [(0,NB),(6,NE)] ⟨Qy,QB,trivial⟩ Tryz.func69 (by kernel_rfl) fun x=>by kernel_rfl
noncomputable def PF:ep:=⟨[(1,.ro t27)],[(3,o1),(4,o1)],[(.exit 0,[(3,o1)])],Qj⟩
theorem RI:mT Tryz.prog (env 33 [] []) (lp 0 (body Tryz.f70) 0) PF:=lk (b9 _ _ _) h55 (n:=0) [] trivial (by kernel_rfl) fun k x=>by kernel_rfl
noncomputable def T56:List (bR×gY):=((70,[]),⟨true,[a14],[o1],VO NS⟩)::T55
theorem Z8:tw Tryz.prog T56:=fk (b9 33 [] []) h55 [(0,PF)] ⟨RI,trivial⟩ Tryz.func70 (by kernel_rfl) fun x=>by kernel_rfl
noncomputable def N8:ep:=⟨[(1,.ro t27)],[(3,o1)],[(.ret,[(2,o17)]),(.exit 0,[])],Pm⟩
theorem Q4:mT Tryz.prog (env 83 [] []) (lp 0 (body Tryz.f12) 0) N8:=lk (b9 _ _ _) Z8 (n:=0) [] trivial (by kernel_rfl) fun k x=>by kernel_rfl
noncomputable def N9:ep:=⟨[(1,.ro t27)],[(4,o1)],[(.ret,[(2,o17)]),(.exit 2,[])],Pn⟩
theorem Q5:mT Tryz.prog (env 83 [] []) (lp 0 (body Tryz.f12) 1) N9:=lk (b9 _ _ _) Z8 (n:=2) [] trivial (by kernel_rfl) fun k x=>by kernel_rfl
noncomputable def T57:List (bR×gY):=((12,[]),⟨true,[a14],[o17],VO Ml⟩)::T56
theorem h57:tw Tryz.prog T57:=fk (b9 83 [] []) Z8 [(0,N8),(2,N9)] ⟨Q4,Q5,trivial⟩ Tryz.func12 (by kernel_rfl) fun x=>by kernel_rfl
noncomputable def T58:List (bR×gY):=((242,[]),⟨true,[a6,a6],[o17],Zf KI⟩)::T57
theorem h58:tw Tryz.prog T58:=fk (b9 24 [] []) h57 [] trivial Tryz.func242 (by kernel_rfl) fun x=>by kernel_rfl
noncomputable def LB:ep:=⟨[(0,o19),(1,o19)],[(6,o13),(7,o1),(8,o1)],[(.ret,[(4,o13),(5,o17)]),(.exit 0,[(6,o13)])],Ku⟩
theorem PM:mT Tryz.prog (env 109 [] []) (lp 0 (body Tryz.f193) 0) LB:=lk (b9 _ _ _) h58 (n:=0) [] trivial (by kernel_rfl) fun k x=>by kernel_rfl
noncomputable def T59:List (bR×gY):=((193,[]),⟨true,[o19,o19],[o13,o17],u2 Kk⟩)::T58
theorem h59:tw Tryz.prog T59:=fk (b9 109 [] []) h58 [(0,LB)] ⟨PM,trivial⟩ Tryz.func193 (by kernel_rfl) fun x=>by kernel_rfl
noncomputable def M3:ep:=⟨[(1,.ro t27)],[(4,o13),(5,o1)],[(.ret,[(2,o13),(3,o17)]),(.exit 0,[(4,o13)])],NF⟩
theorem Qo:mT Tryz.prog (env 34 [] []) (lp 0 (body Tryz.f123) 0) M3:=lk (b9 _ _ _) h59 (n:=0) [] trivial (by kernel_rfl) fun k x=>by kernel_rfl
noncomputable def T60:List (bR×gY):=((123,[]),⟨true,[a14],[o13,o17],VO K0⟩)::T59
theorem h60:tw Tryz.prog T60:=fk (b9 34 [] []) h59 [(0,M3)] ⟨Qo,trivial⟩ Tryz.func123 (by kernel_rfl) fun x=>by kernel_rfl
noncomputable def T61:List (bR×gY):=((46,[]),⟨true,[a14],[o13,o17],VO KX⟩)::T60
theorem h61:tw Tryz.prog T61:=fk (b9 16 [] []) h60 [] trivial Tryz.func46 (by kernel_rfl) fun x=>by kernel_rfl
noncomputable def T62:List (bR×gY):=((76,[]),⟨true,[o1,o1,o1],[o17],u3 ik⟩)::T61
theorem h62:tw Tryz.prog T62:=fk (b9 15 [] []) h61 [] trivial Tryz.func76 (by kernel_rfl) fun x=>by kernel_rfl
noncomputable def T63:List (bR×gY):=((75,[]),⟨true,[a3],[o17],u8 NI⟩)::T62
theorem h63:tw Tryz.prog T63:=fk (b9 41 [] []) h62 [] trivial Tryz.func75 (by kernel_rfl) fun x=>by kernel_rfl
noncomputable def T64:List (bR×gY):=((77,[]),⟨true,[o1],[o17],u1 JT⟩)::T63
theorem GO:tw Tryz.prog T64:=fk (b9 5 [] []) h63 [] trivial Tryz.func77 (by kernel_rfl) fun x=>by kernel_rfl
noncomputable def T65:List (bR×gY):=((78,[]),⟨true,[o1],[o17],u1 JR⟩)::T64
theorem h65:tw Tryz.prog T65:=fk (b9 5 [] []) GO [] trivial Tryz.func78 (by kernel_rfl) fun x=>by kernel_rfl
noncomputable def T66:List (bR×gY):=((164,[]),⟨true,[o1],[o17],u1 Ji⟩)::T65
theorem h66:tw Tryz.prog T66:=fk (b9 5 [] []) h65 [] trivial Tryz.func164 (by kernel_rfl) fun x=>by kernel_rfl
noncomputable def T67:List (bR×gY):=((159,[]),⟨true,[a9],[o17],u7 KM⟩)::T66
theorem h67:tw Tryz.prog T67:=fk (b9 45 [] []) h66 [] trivial Tryz.func159 (by kernel_rfl) fun x=>by kernel_rfl
noncomputable def T68:List (bR×gY):=((158,[]),⟨true,[a9],[o17],u7 Nf⟩)::T67
theorem h68:tw Tryz.prog T68:=fk (b9 6 [] []) h67 [] trivial Tryz.func158 (by kernel_rfl) fun x=>by kernel_rfl
noncomputable def Iv:ep:=⟨[(0,o18),(1,.fn 158 []),(7,o1)],[(8,o1)],[(.ret,[(4,o1)]),(.exit 0,[])],z1⟩
theorem Jh:mT Tryz.prog (env 19 [] []) (lp 0 (body Tryz.f220) 0) Iv:=lk (b9 _ _ _) h68 (n:=0) [] trivial (by kernel_rfl) fun k x=>by kernel_rfl
noncomputable def T69:List (bR×gY):=((220,[158]),⟨true,[o18,.fn 158 []],[o1],u1 H6⟩)::T68
theorem h69:tw Tryz.prog T69:=fk (b9 19 [] []) h68 [(0,Iv)] ⟨Jh,trivial⟩ Tryz.func220 (by kernel_rfl) fun x=>by kernel_rfl
noncomputable def T70:List (bR×gY):=((157,[158]),⟨true,[o18,.fn 158 []],[o17],u1 zT⟩)::T69
theorem h70:tw Tryz.prog T70:=fk (b9 9 [] []) h69 [] trivial Tryz.func157 (by kernel_rfl) fun x=>by kernel_rfl
noncomputable def T71:List (bR×gY):=((79,[]),⟨true,[o18],[o17],u1 MR⟩)::T70
theorem h71:tw Tryz.prog T71:=fk (b9 11 [] []) h70 [] trivial Tryz.func79 (by kernel_rfl) fun x=>by kernel_rfl
noncomputable def T72:List (bR×gY):=((160,[]),⟨true,[a6],[o17],u7 NH⟩)::T71
theorem h72:tw Tryz.prog T72:=fk (b9 36 [] []) h71 [] trivial Tryz.func160 (by kernel_rfl) fun x=>by kernel_rfl
noncomputable def NX:ep:=⟨[(0,o19),(9,o19),(10,o1)],[(11,o1)],[(.ret,[(2,o17)]),(.exit 0,[])],LM⟩
theorem QT:mT Tryz.prog (env 53 [] []) (lp 0 (body Tryz.f80) 0) NX:=lk (b9 _ _ _) h72 (n:=0) [] trivial (by kernel_rfl) fun k x=>by kernel_rfl
noncomputable def T73:List (bR×gY):=((80,[]),⟨true,[o19],[o17],u1 Jm⟩)::T72
theorem h73:tw Tryz.prog T73:=fk (b9 53 [] []) h72 [(0,NX)] ⟨QT,trivial⟩ Tryz.func80 (by kernel_rfl) fun x=>by kernel_rfl
noncomputable def Pu:ep:=⟨[(0,o20),(1,o1),(10,o20),(11,o1)],[(12,o1)],[(.ret,[(4,o17)]),(.exit 0,[])],Nh⟩
theorem Rx:mT Tryz.prog (env 49 [] []) (lp 0 (body Tryz.f221) 0) Pu:=lk (b9 _ _ _) h73 (n:=0) [] trivial (by kernel_rfl) fun k x=>by kernel_rfl
noncomputable def T74:List (bR×gY):=((221,[]),⟨true,[o20,o1],[o17],u2 LQ⟩)::T73
theorem h74:tw Tryz.prog T74:=fk (b9 49 [] []) h73 [(0,Pu)] ⟨Rx,trivial⟩ Tryz.func221 (by kernel_rfl) fun x=>by kernel_rfl
noncomputable def T75:List (bR×gY):=((161,[]),⟨true,[a11],[o17],u2 M5⟩)::T74
theorem Zq:tw Tryz.prog T75:=fk (b9 11 [] []) h74 [] trivial Tryz.func161 (by kernel_rfl) fun x=>by kernel_rfl
noncomputable def OG:ep:=⟨[(1,.ro t21),(23,o2),(24,o1)],[(25,o1)],[(.ret,[(2,o17)]),(.exit 0,[])],Mw⟩
theorem Rb:mT Tryz.prog (env 118 [] []) (lp 0 (body Tryz.f222) 0) OG:=lk (b9 _ _ _) Zq (n:=0) [] trivial (by kernel_rfl) fun k x=>by kernel_rfl
noncomputable def OH:ep:=⟨[(1,.ro t21),(54,o22),(55,o1)],[(5,o1),(6,.one (.mp .i64)),(7,.one (.mp .i64)),(56,o1)],[(.ret,[(2,o17)]),(.exit 2,[(5,o1),(6,.one (.mp .i64))])],Mx⟩
theorem Rc:mT Tryz.prog (env 118 [] []) (lp 0 (body Tryz.f222) 1) OH:=lk (b9 _ _ _) Zq (n:=2) [] trivial (by kernel_rfl) fun k x=>by kernel_rfl
noncomputable def OI:ep:=⟨[(1,.ro t21),(5,o1),(103,o2),(104,o1)],[(6,.one (.mp .i64)),(105,o1)],[(.ret,[(2,o17)]),(.exit 4,[])],My⟩
theorem Rd:mT Tryz.prog (env 118 [] []) (lp 0 (body Tryz.f222) 2) OI:=lk (b9 _ _ _) Zq (n:=4) [] trivial (by kernel_rfl) fun k x=>by kernel_rfl
noncomputable def T76:List (bR×gY):=((222,[]),⟨true,[a13],[o17],u3 K9⟩)::T75
theorem Z9:tw Tryz.prog T76:=fk (b9 118 [] []) Zq [(0,OG),(2,OH),(4,OI)] ⟨Rb,Rc,Rd,trivial⟩ Tryz.func222 (by kernel_rfl) fun x=>by kernel_rfl
noncomputable def P3:ep:=⟨[(13,o21),(14,o1),(15,o1),(23,o22),(24,o1)],[(3,.one (.mp .i64)),(25,o1)],[(.ret,[(2,o17)]),(.exit 2,[(3,.one (.mp .i64))])],Oj⟩
theorem RT:mT Tryz.prog (env 43 [] []) (lp 0 (lp 0 (body Tryz.f162) 0) 0) P3:=lk (b9 _ _ _) Z9 (n:=2) [] trivial (by kernel_rfl) fun k x=>by kernel_rfl
noncomputable def P0:ep:=⟨[(13,o21),(14,o1)],[(3,.one (.mp .i64)),(15,o1)],[(.ret,[(2,o17)]),(.exit 0,[])],Oi⟩
theorem RS:mT Tryz.prog (env 43 [] []) (lp 0 (body Tryz.f162) 0) P0:=lk (b9 _ _ _) Z9 (n:=0) [(2,P3)] ⟨RT,trivial⟩ (by kernel_rfl) fun k x=>by kernel_rfl
noncomputable def T77:List (bR×gY):=((162,[]),⟨true,[o21],[o17],u1 Lx⟩)::T76
theorem h77:tw Tryz.prog T77:=fk (b9 43 [] []) Z9 [(0,P0)] ⟨RS,trivial⟩ Tryz.func162 (by kernel_rfl) fun x=>by kernel_rfl
noncomputable def T78:List (bR×gY):=((223,[]),⟨true,[a5],[o17],u5 Se⟩)::T77
theorem h78:tw Tryz.prog T78:=fk (b9 9 [] []) h77 [] trivial Tryz.func223 (by kernel_rfl) fun x=>by kernel_rfl
noncomputable def T79:List (bR×gY):=((163,[]),⟨true,[a5],[o17],u5 KE⟩)::T78
theorem h79:tw Tryz.prog T79:=fk (b9 90 [] []) h78 [] trivial Tryz.func163 (by kernel_rfl) fun x=>by kernel_rfl
noncomputable def T80:List (bR×gY):=((81,[]),⟨true,[a14,o1],[o17],u16 O4⟩)::T79
theorem h80:tw Tryz.prog T80:=fk (b9 89 [] []) h79 [] trivial Tryz.func81 (by kernel_rfl) fun x=>by kernel_rfl
noncomputable def T81:List (bR×gY):=((165,[]),⟨true,[a14,a8],[o17],u28 Ko⟩)::T80
theorem h81:tw Tryz.prog T81:=fk (b9 29 [] []) h80 [] trivial Tryz.func165 (by kernel_rfl) fun x=>by kernel_rfl
noncomputable def T82:List (bR×gY):=((166,[]),⟨true,[a7],[o17],u5 OZ⟩)::T81
theorem h82:tw Tryz.prog T82:=fk (b9 26 [] []) h81 [] trivial Tryz.func166 (by kernel_rfl) fun x=>by kernel_rfl
noncomputable def T83:List (bR×gY):=((167,[]),⟨true,[a14,o1],[o1],u16 La⟩)::T82
theorem h83:tw Tryz.prog T83:=fk (b9 21 [] []) h82 [] trivial Tryz.func167 (by kernel_rfl) fun x=>by kernel_rfl
noncomputable def T84:List (bR×gY):=((82,[]),⟨true,[a14,o1],[o17],u16 MS⟩)::T83
theorem Y4:tw Tryz.prog T84:=fk (b9 140 [] []) h83 [] trivial Tryz.func82 (by kernel_rfl) fun x=>by kernel_rfl
noncomputable def Px:ep:=⟨[(1,.ro t27),(4,o1),(14,o23),(15,o1),(16,o1),(22,o21),(23,o1),(24,o1),(29,o22),(30,o1)],[(3,o1),(31,o1)],[(.ret,[(2,o17)]),(.exit 4,[(3,o1)])],Nn⟩
theorem RA:mT Tryz.prog (env 107 [] []) (lp 2 (lp 0 (lp 0 (body Tryz.f83) 0) 0) 0) Px:=lk (b9 _ _ _) Y4 (n:=4) [] trivial (by kernel_rfl) fun k x=>by kernel_rfl
noncomputable def Pw:ep:=⟨[(1,.ro t27),(4,o1),(14,o23),(15,o1),(16,o1),(22,o21),(23,o1)],[(3,o1),(24,o1)],[(.ret,[(2,o17)]),(.exit 2,[(3,o1)])],Nm⟩
theorem Rz:mT Tryz.prog (env 107 [] []) (lp 0 (lp 0 (body Tryz.f83) 0) 0) Pw:=lk (b9 _ _ _) Y4 (n:=2) [(4,Px)] ⟨RA,trivial⟩ (by kernel_rfl) fun k x=>by kernel_rfl
noncomputable def Pv:ep:=⟨[(1,.ro t27),(14,o23),(15,o1)],[(3,o1),(16,o1)],[(.ret,[(2,o17)]),(.exit 0,[(3,o1)])],Qf⟩
theorem Ry:mT Tryz.prog (env 107 [] []) (lp 0 (body Tryz.f83) 0) Pv:=lk (b9 _ _ _) Y4 (n:=0) [(2,Pw)] ⟨Rz,trivial⟩ (by kernel_rfl) fun k x=>by kernel_rfl
noncomputable def Py:ep:=⟨[(88,o24),(89,o1)],[(3,o1),(90,o1)],[(.exit 6,[(3,o1)])],Qg⟩
theorem RB:mT Tryz.prog (env 107 [] []) (lp 0 (body Tryz.f83) 1) Py:=lk (b9 _ _ _) Y4 (n:=6) [] trivial (by kernel_rfl) fun k x=>by kernel_rfl
noncomputable def T85:List (bR×gY):=((83,[]),⟨true,[a14],[o17],VO NJ⟩)::T84
theorem h85:tw Tryz.prog T85:=fk (b9 107 [] []) Y4 [(0,Pv),(6,Py)] ⟨Ry,RB,trivial⟩ Tryz.func83 (by kernel_rfl) fun x=>by kernel_rfl
noncomputable def P4:ep:=⟨[(1,.ro t27),(7,o24),(8,o1)],[(3,o1),(9,o1)],[(.exit 0,[(3,o1)])],Qr⟩
theorem RU:mT Tryz.prog (env 27 [] []) (lp 0 (body Tryz.f84) 0) P4:=lk (b9 _ _ _) h85 (n:=0) [] trivial (by kernel_rfl) fun k x=>by kernel_rfl
noncomputable def T86:List (bR×gY):=((84,[]),⟨true,[a14],[o1],VO O2⟩)::T85
theorem h86:tw Tryz.prog T86:=fk (b9 27 [] []) h85 [(0,P4)] ⟨RU,trivial⟩ Tryz.func84 (by kernel_rfl) fun x=>by kernel_rfl
noncomputable def NY:ep:=⟨[(1,.ro t27),(54,o1)],[(55,o1)],[(.ret,[(2,o17)]),(.exit 0,[])],O0⟩
theorem QU:mT Tryz.prog (env 83 [] []) (lp 0 (body Tryz.f14) 0) NY:=lk (b9 _ _ _) h86 (n:=0) [] trivial (by kernel_rfl) fun k x=>by kernel_rfl
noncomputable def NZ:ep:=⟨[(1,.ro t27),(65,o1)],[(66,o1)],[(.ret,[(2,o17)]),(.exit 2,[])],O1⟩
theorem QV:mT Tryz.prog (env 83 [] []) (lp 0 (body Tryz.f14) 1) NZ:=lk (b9 _ _ _) h86 (n:=2) [] trivial (by kernel_rfl) fun k x=>by kernel_rfl
noncomputable def T87:List (bR×gY):=((14,[]),⟨true,[a14],[o17],VO LN⟩)::T86
theorem h87:tw Tryz.prog T87:=fk (b9 83 [] []) h86 [(0,NY),(2,NZ)] ⟨QU,QV,trivial⟩ Tryz.func14 (by kernel_rfl) fun x=>by kernel_rfl
noncomputable def T88:List (bR×gY):=((194,[]),⟨true,[o19],[o13],u1 Ih⟩)::T87
theorem h88:tw Tryz.prog T88:=fk (b9 8 [] []) h87 [] trivial Tryz.func194 (by kernel_rfl) fun x=>by kernel_rfl
noncomputable def T89:List (bR×gY):=((244,[]),⟨true,[a6,.ro t12],[o17],Zf JQ⟩)::T88
theorem h89:tw Tryz.prog T89:=fk (b9 16 [] []) h88 [] trivial Tryz.func244 (by kernel_rfl) fun x=>by kernel_rfl
noncomputable def Il:ep:=⟨[(0,o19),(1,.fn 244 [t12]),(7,o1)],[(8,o1)],[(.ret,[(4,o1)]),(.exit 0,[])],vn⟩
theorem I6:mT Tryz.prog (env 19 [] []) (lp 0 (body Tryz.f243) 0) Il:=lk (b9 _ _ _) h89 (n:=0) [] trivial (by kernel_rfl) fun k x=>by kernel_rfl
noncomputable def T90:List (bR×gY):=((243,[244]),⟨true,[o19,.fn 244 [t12]],[o1],u8 oa⟩)::T89
theorem h90:tw Tryz.prog T90:=fk (b9 19 [] []) h89 [(0,Il)] ⟨I6,trivial⟩ Tryz.func243 (by kernel_rfl) fun x=>by kernel_rfl
noncomputable def T91:List (bR×gY):=((279,[]),⟨true,[o25],[o1],u1 Ss⟩)::T90
theorem h91:tw Tryz.prog T91:=fk (b9 19 [] []) h90 [] trivial Tryz.func279 (by kernel_rfl) fun x=>by kernel_rfl
noncomputable def T92:List (bR×gY):=((280,[]),⟨true,[o26],[o1],u1 Qh⟩)::T91
theorem h92:tw Tryz.prog T92:=fk (b9 25 [] []) h91 [] trivial Tryz.func280 (by kernel_rfl) fun x=>by kernel_rfl
noncomputable def T93:List (bR×gY):=((256,[]),⟨true,[o26],[o1],u1 Lf⟩)::T92
theorem h93:tw Tryz.prog T93:=fk (b9 8 [] []) h92 [] trivial Tryz.func256 (by kernel_rfl) fun x=>by kernel_rfl
noncomputable def T94:List (bR×gY):=((260,[]),⟨true,[o1],[o17],u1 LC⟩)::T93
theorem h94:tw Tryz.prog T94:=fk (b9 6 [] []) h93 [] trivial Tryz.func260 (by kernel_rfl) fun x=>by kernel_rfl
noncomputable def T95:List (bR×gY):=((229,[]),⟨true,[o1,o1],[o1],u2 JZ⟩)::T94
theorem h95:tw Tryz.prog T95:=fk (b9 20 [] []) h94 [] trivial Tryz.func229 (by kernel_rfl) fun x=>by kernel_rfl
noncomputable def PZ:ep:=⟨[(3,o1),(6,o2),(7,o1)],[(8,o1)],[(.ret,[(2,o1)]),(.exit 0,[])],Ob⟩
theorem RR:mT Tryz.prog (env 18 [] []) (lp 0 (body Tryz.f228) 0) PZ:=lk (b9 _ _ _) h95 (n:=0) [] trivial (by kernel_rfl) fun k x=>by kernel_rfl
noncomputable def T96:List (bR×gY):=((228,[]),⟨true,[o2],[o1],u1 OU⟩)::T95
theorem h96:tw Tryz.prog T96:=fk (b9 18 [] []) h95 [(0,PZ)] ⟨RR,trivial⟩ Tryz.func228 (by kernel_rfl) fun x=>by kernel_rfl
noncomputable def T97:List (bR×gY):=((246,[]),⟨true,[a6,a6],[o1],Zf ey⟩)::T96
theorem h97:tw Tryz.prog T97:=fk (b9 17 [] []) h96 [] trivial Tryz.func246 (by kernel_rfl) fun x=>by kernel_rfl
noncomputable def It:ep:=⟨[(1,o1),(2,o1),(3,.fn 246 []),(8,o1)],[(0,o13),(9,o1)],[(.exit 2,[(0,o13)])],n5⟩
theorem Je:mT Tryz.prog (env 53 [] []) (lp 0 (lp 0 (body Tryz.f283) 0) 0) It:=lk (b9 _ _ _) h97 (n:=2) [] trivial (by kernel_rfl) fun k x=>by kernel_rfl
noncomputable def Is:ep:=⟨[(1,o1),(2,o1),(3,.fn 246 [])],[(0,o13),(8,o1)],[(.exit 0,[(0,o13)])],n4⟩
theorem Jd:mT Tryz.prog (env 53 [] []) (lp 0 (body Tryz.f283) 0) Is:=lk (b9 _ _ _) h97 (n:=0) [(2,It)] ⟨Je,trivial⟩ (by kernel_rfl) fun k x=>by kernel_rfl
noncomputable def T98:List (bR×gY):=((283,[246]),⟨true,[o13,o1,o1,.fn 246 []],[],u3 qB⟩)::T97
theorem h98:tw Tryz.prog T98:=fk (b9 53 [] []) h97 [(0,Is)] ⟨Jd,trivial⟩ Tryz.func283 (by kernel_rfl) fun x=>by kernel_rfl
noncomputable def IE:ep:=⟨[(2,o1),(3,o1),(4,.fn 246 [])],[(0,o13),(10,o1)],[(.exit 0,[(0,o13)]),(.ret,[(0,o13)])],sL⟩
theorem Jv:mT Tryz.prog (env 82 [] []) (lp 0 (body Tryz.f300) 0) IE:=lk (b9 _ _ _) h98 (n:=0) [] trivial (by kernel_rfl) fun k x=>by kernel_rfl
noncomputable def T99:List (bR×gY):=((300,[246]),⟨true,[o13,o1,o1,o1,.fn 246 []],[],u4 m0⟩)::T98
theorem h99:tw Tryz.prog T99:=fk (b9 82 [] []) h98 [(0,IE)] ⟨Jv,trivial⟩ Tryz.func300 (by kernel_rfl) fun x=>by kernel_rfl
noncomputable def IC:ep:=⟨[(3,.fn 246 []),(8,o1),(9,o1),(10,o1)],[(0,o13),(11,o1)],[(.exit 0,[(0,o13)])],r6⟩
theorem Jt:mT Tryz.prog (env 60 [] []) (lp 0 (body Tryz.f284) 0) IC:=lk (b9 _ _ _) h99 (n:=0) [] trivial (by kernel_rfl) fun k x=>by kernel_rfl
noncomputable def ID:ep:=⟨[(3,.fn 246 []),(8,o1),(9,o1)],[(0,o13),(12,o1)],[(.exit 2,[(0,o13)])],r7⟩
theorem Ju:mT Tryz.prog (env 60 [] []) (lp 0 (body Tryz.f284) 1) ID:=lk (b9 _ _ _) h99 (n:=2) [] trivial (by kernel_rfl) fun k x=>by kernel_rfl
noncomputable def XJ:List (bR×gY):=((284,[246]),⟨true,[o13,o1,o1,.fn 246 []],[],u3 ve⟩)::T99
theorem ZK:tw Tryz.prog XJ:=fk (b9 60 [] []) h99 [(0,IC),(2,ID)] ⟨Jt,Ju,trivial⟩ Tryz.func284 (by kernel_rfl) fun x=>by kernel_rfl
noncomputable def XK:List (bR×gY):=((295,[]),⟨true,[o1],[o26],u1 I4⟩)::XJ
theorem ZL:tw Tryz.prog XK:=fk (b9 7 [] []) ZK [] trivial Tryz.func295 (by kernel_rfl) fun x=>by kernel_rfl
noncomputable def XL:List (bR×gY):=((296,[]),⟨false,[.blk [v18]],[o26],u1 __slices_xorshift__Next⟩)::XK
theorem YI:tw Tryz.prog XL:=fk (b9 33 [] []) ZL [] trivial Tryz.func296 (by kernel_rfl) fun x=>by kernel_rfl
noncomputable def Ir:ep:=⟨[(1,o1),(8,o1),(10,o26)],[(0,o13),(9,.blk [v18]),(11,o1)],[(.exit 0,[(0,o13)])],n3⟩
theorem Jc:mT Tryz.prog (env 67 [] []) (lp 0 (body Tryz.f285) 0) Ir:=lk (b9 _ _ _) YI (n:=0) [] trivial (by kernel_rfl) fun k x=>by kernel_rfl
noncomputable def XM:List (bR×gY):=((285,[246]),⟨true,[o13,o1,o1,.fn 246 []],[],u3 qx⟩)::XL
theorem ZM:tw Tryz.prog XM:=fk (b9 67 [] []) YI [(0,Ir)] ⟨Jc,trivial⟩ Tryz.func285 (by kernel_rfl) fun x=>by kernel_rfl
noncomputable def XN:List (bR×gY):=((307,[246]),⟨false,[o19,o1,o1,.blk [v1],.fn 246 []],[o1,o1],u4 kW⟩)::XM
theorem ZN:tw Tryz.prog XN:=fk (b9 32 [] []) ZM [] trivial Tryz.func307 (by kernel_rfl) fun x=>by kernel_rfl
noncomputable def XO:List (bR×gY):=((302,[246]),⟨false,[o19,o1,o1,o1,.blk [v1],.fn 246 []],[o1],u5 kB⟩)::XN
theorem ZO:tw Tryz.prog XO:=fk (b9 41 [] []) ZN [] trivial Tryz.func302 (by kernel_rfl) fun x=>by kernel_rfl
noncomputable def XP:List (bR×gY):=((301,[246]),⟨false,[o19,o1,.blk [v1],.fn 246 []],[o1],u3 ia⟩)::XO
theorem ZP:tw Tryz.prog XP:=fk (b9 18 [] []) ZO [] trivial Tryz.func301 (by kernel_rfl) fun x=>by kernel_rfl
noncomputable def XQ:List (bR×gY):=((286,[246]),⟨true,[o19,o1,o1,.fn 246 []],[o1,o1],u3 mm⟩)::XP
theorem YJ:tw Tryz.prog XQ:=fk (b9 63 [] []) ZP [] trivial Tryz.func286 (by kernel_rfl) fun x=>by kernel_rfl
noncomputable def Iu:ep:=⟨[],[(0,o13),(8,o1),(9,o1)],[(.exit 0,[(0,o13)])],p4⟩
theorem Jg:mT Tryz.prog (env 34 [] []) (lp 0 (body Tryz.f287) 0) Iu:=lk (b9 _ _ _) YJ (n:=0) [] trivial (by kernel_rfl) fun k x=>by kernel_rfl
noncomputable def XR:List (bR×gY):=((287,[246]),⟨true,[o13,o1,o1,.fn 246 []],[],u3 k6⟩)::XQ
theorem V7:tw Tryz.prog XR:=fk (b9 34 [] []) YJ [(0,Iu)] ⟨Jg,trivial⟩ Tryz.func287 (by kernel_rfl) fun x=>by kernel_rfl
noncomputable def Ic:ep:=⟨[(1,o1),(2,o1),(3,.fn 246 []),(10,o1)],[(0,o13),(9,o1)],[(.exit 2,[(0,o13),(9,o1)])],lm⟩
theorem IW:mT Tryz.prog (env 141 [] []) (lp 0 (lp 0 (body Tryz.f288) 0) 0) Ic:=lk (b9 _ _ _) V7 (n:=2) [] trivial (by kernel_rfl) fun k x=>by kernel_rfl
noncomputable def Ie:ep:=⟨[(1,o1),(2,o1),(3,.fn 246 []),(9,o1),(10,o1)],[(0,o13),(11,o1)],[(.exit 4,[(0,o13)])],l5⟩
theorem IX:mT Tryz.prog (env 141 [] []) (lp 0 (lp 0 (body Tryz.f288) 0) 1) Ie:=lk (b9 _ _ _) V7 (n:=4) [] trivial (by kernel_rfl) fun k x=>by kernel_rfl
noncomputable def Ig:ep:=⟨[(1,o1),(2,o1),(3,.fn 246 []),(9,o1),(10,o1)],[(0,o13),(12,o1)],[(.exit 6,[(0,o13)])],ii⟩
theorem IY:mT Tryz.prog (env 141 [] []) (lp 0 (lp 0 (body Tryz.f288) 0) 2) Ig:=lk (b9 _ _ _) V7 (n:=6) [] trivial (by kernel_rfl) fun k x=>by kernel_rfl
noncomputable def Ib:ep:=⟨[(1,o1),(2,o1),(3,.fn 246 [])],[(0,o13),(9,o1),(10,o1)],[(.ret,[(0,o13),(8,o17)]),(.exit 0,[(0,o13)])],lf⟩
theorem IV:mT Tryz.prog (env 141 [] []) (lp 0 (body Tryz.f288) 0) Ib:=lk (b9 _ _ _) V7 (n:=0) [(2,Ic),(4,Ie),(6,Ig)] ⟨IW,IX,IY,trivial⟩ (by kernel_rfl) fun k x=>by kernel_rfl
noncomputable def XS:List (bR×gY):=((288,[246]),⟨true,[o13,o1,o1,.fn 246 []],[o17],u3 gn⟩)::XR
theorem Wu:tw Tryz.prog XS:=fk (b9 141 [] []) V7 [(0,Ib)] ⟨IV,trivial⟩ Tryz.func288 (by kernel_rfl) fun x=>by kernel_rfl
noncomputable def Io:ep:=⟨[(1,o1),(4,.fn 246 []),(12,o1)],[(0,o13),(11,o1)],[(.exit 2,[(0,o13),(11,o1)])],nw⟩
theorem I9:mT Tryz.prog (env 90 [] []) (lp 0 (lp 0 (body Tryz.f289) 0) 0) Io:=lk (b9 _ _ _) Wu (n:=2) [] trivial (by kernel_rfl) fun k x=>by kernel_rfl
noncomputable def Ip:ep:=⟨[(1,o1),(4,.fn 246 []),(11,o1)],[(0,o13),(12,o1)],[(.exit 4,[(0,o13),(12,o1)])],n2⟩
theorem Ja:mT Tryz.prog (env 90 [] []) (lp 0 (lp 0 (body Tryz.f289) 0) 1) Ip:=lk (b9 _ _ _) Wu (n:=4) [] trivial (by kernel_rfl) fun k x=>by kernel_rfl
noncomputable def Im:ep:=⟨[(1,o1),(4,.fn 246 [])],[(0,o13),(11,o1),(12,o1)],[(.exit 0,[(0,o13),(11,o1)])],nn⟩
theorem I8:mT Tryz.prog (env 90 [] []) (lp 0 (body Tryz.f289) 0) Im:=lk (b9 _ _ _) Wu (n:=0) [(2,Io),(4,Ip)] ⟨I9,Ja,trivial⟩ (by kernel_rfl) fun k x=>by kernel_rfl
noncomputable def XT:List (bR×gY):=((289,[246]),⟨true,[o13,o1,o1,o1,.fn 246 []],[o1],u4 bu⟩)::XS
theorem Vu:tw Tryz.prog XT:=fk (b9 90 [] []) Wu [(0,Im)] ⟨I8,trivial⟩ Tryz.func289 (by kernel_rfl) fun x=>by kernel_rfl
noncomputable def Ix:ep:=⟨[(1,o1),(4,.fn 246 []),(13,o1)],[(0,o13),(12,o1)],[(.exit 0,[(0,o13),(12,o1)])],qW⟩
theorem Jn:mT Tryz.prog (env 178 [] []) (lp 0 (body Tryz.f290) 0) Ix:=lk (b9 _ _ _) Vu (n:=0) [] trivial (by kernel_rfl) fun k x=>by kernel_rfl
noncomputable def Iy:ep:=⟨[(1,o1),(4,.fn 246 []),(12,o1)],[(0,o13),(13,o1)],[(.exit 2,[(0,o13),(13,o1)])],rm⟩
theorem Jo:mT Tryz.prog (env 178 [] []) (lp 0 (body Tryz.f290) 1) Iy:=lk (b9 _ _ _) Vu (n:=2) [] trivial (by kernel_rfl) fun k x=>by kernel_rfl
noncomputable def IA:ep:=⟨[(1,o1),(4,.fn 246 []),(13,o1)],[(0,o13),(12,o1)],[(.exit 6,[(0,o13),(12,o1)])],r3⟩
theorem Jq:mT Tryz.prog (env 178 [] []) (lp 4 (lp 0 (body Tryz.f290) 2) 0) IA:=lk (b9 _ _ _) Vu (n:=6) [] trivial (by kernel_rfl) fun k x=>by kernel_rfl
noncomputable def IB:ep:=⟨[(1,o1),(4,.fn 246 []),(12,o1)],[(0,o13),(13,o1)],[(.exit 8,[(0,o13),(13,o1)])],r4⟩
theorem Jr:mT Tryz.prog (env 178 [] []) (lp 4 (lp 0 (body Tryz.f290) 2) 1) IB:=lk (b9 _ _ _) Vu (n:=8) [] trivial (by kernel_rfl) fun k x=>by kernel_rfl
noncomputable def Iz:ep:=⟨[(1,o1),(4,.fn 246 [])],[(0,o13),(12,o1),(13,o1)],[(.exit 4,[(0,o13),(13,o1)])],rp⟩
theorem Jp:mT Tryz.prog (env 178 [] []) (lp 0 (body Tryz.f290) 2) Iz:=lk (b9 _ _ _) Vu (n:=4) [(6,IA),(8,IB)] ⟨Jq,Jr,trivial⟩ (by kernel_rfl) fun k x=>by kernel_rfl
noncomputable def Wn:List (bR×gY):=((290,[246]),⟨true,[o13,o1,o1,o1,.fn 246 []],[o1,o17],u4 bf⟩)::XT
theorem Xm:tw Tryz.prog Wn:=fk (b9 178 [] []) Vu [(0,Ix),(2,Iy),(4,Iz)] ⟨Jn,Jo,Jp,trivial⟩ Tryz.func290 (by kernel_rfl) fun x=>by kernel_rfl
noncomputable def hU(rec:(List (Int×Int×Int×Int×Int×Int×Int))->Int->Int->Int->Option ((List (Int×Int×Int×Int×Int×Int×Int))×Unit)):gY:=⟨true,[o13,o1,o1,o1,.fn 246 []],[],u4 rec⟩
noncomputable def IF(rec:(List (Int×Int×Int×Int×Int×Int×Int))->Int->Int->Int->Option ((List (Int×Int×Int×Int×Int×Int×Int))×Unit)):ep:=⟨[(4,.fn 246 [])],[(0,o13),(1,o1),(2,o1),(3,o1),(10,o17),(11,o17)],[(.ret,[(0,o13)])],tb rec⟩
theorem Jw(rec:(List (Int×Int×Int×Int×Int×Int×Int))->Int->Int->Int->Option ((List (Int×Int×Int×Int×Int×Int×Int))×Unit))(hr:eK Tryz.prog 263 (hU rec)):mT Tryz.prog (env 148 [] []) (lp 0 (body Tryz.f263) 0) (IF rec):=lk (b9 _ _ _) (T:=((263,[246]),hU rec)::Wn) ⟨hr,Xm⟩ (n:=0) [] trivial (by kernel_rfl) fun k x=>by kernel_rfl
theorem JB(rec:(List (Int×Int×Int×Int×Int×Int×Int))->Int->Int->Int->Option ((List (Int×Int×Int×Int×Int×Int×Int))×Unit))(hr:eK Tryz.prog 263 (hU rec)):eK Tryz.prog 263 (hU (vb rec)):=(fk (ks:=[]) (b9 148 [] []) (T:=((263,[246]),hU rec)::Wn) ⟨hr,Xm⟩ [(0,IF rec)] ⟨(Jw rec hr),trivial⟩ Tryz.func263 (by kernel_rfl) fun x=>by kernel_rfl).1
noncomputable def XU:List (bR×gY):=((263,[246]),hU vm)::Wn
theorem ZQ:tw Tryz.prog XU:=⟨C9 (F:=fun n=>hU (kk n)) (B5 (fn:=Tryz.f263) (c:=body Tryz.f263) Tryz.func263 (by kernel_rfl) (by kernel_rfl) (fun _=>rfl)) (fun n h=>JB (kk n) h) big,Xm⟩
noncomputable def XV:List (bR×gY):=((245,[246]),⟨true,[o13,.fn 246 []],[],u1 qe⟩)::XU
theorem YK:tw Tryz.prog XV:=fk (b9 14 [] []) ZQ [] trivial Tryz.func245 (by kernel_rfl) fun x=>by kernel_rfl
noncomputable def LA:ep:=⟨[(0,o19),(20,o19),(21,o1)],[(6,o13),(22,o1)],[(.ret,[(4,o13),(5,o17)]),(.exit 0,[(6,o13)])],Kt⟩
theorem PL:mT Tryz.prog (env 50 [] []) (lp 0 (body Tryz.f195) 0) LA:=lk (b9 _ _ _) YK (n:=0) [] trivial (by kernel_rfl) fun k x=>by kernel_rfl
noncomputable def XW:List (bR×gY):=((195,[]),⟨true,[o19,o19],[o13,o17],u2 Kd⟩)::XV
theorem YL:tw Tryz.prog XW:=fk (b9 50 [] []) YK [(0,LA)] ⟨PL,trivial⟩ Tryz.func195 (by kernel_rfl) fun x=>by kernel_rfl
noncomputable def P5:ep:=⟨[(13,o23),(14,o1)],[(4,o13),(15,o1)],[(.ret,[(2,o13),(3,o17)]),(.exit 0,[(4,o13)])],Qs⟩
theorem RV:mT Tryz.prog (env 31 [] []) (lp 0 (body Tryz.f124) 0) P5:=lk (b9 _ _ _) YL (n:=0) [] trivial (by kernel_rfl) fun k x=>by kernel_rfl
noncomputable def XX:List (bR×gY):=((124,[]),⟨true,[a14],[o13,o17],VO O3⟩)::XW
theorem ZR:tw Tryz.prog XX:=fk (b9 31 [] []) YL [(0,P5)] ⟨RV,trivial⟩ Tryz.func124 (by kernel_rfl) fun x=>by kernel_rfl
noncomputable def XY:List (bR×gY):=((47,[]),⟨true,[a14],[o13,o17],VO J3⟩)::XX
theorem ZS:tw Tryz.prog XY:=fk (b9 11 [] []) ZR [] trivial Tryz.func47 (by kernel_rfl) fun x=>by kernel_rfl
noncomputable def XZ:List (bR×gY):=((125,[]),⟨true,[a6,a6],[o17],Zf NK⟩)::XY
theorem YM:tw Tryz.prog XZ:=fk (b9 40 [] []) ZS [] trivial Tryz.func125 (by kernel_rfl) fun x=>by kernel_rfl
noncomputable def OJ:ep:=⟨[(0,o19),(1,o19)],[(5,o1)],[(.ret,[(4,o17)]),(.exit 0,[])],MA⟩
theorem Re:mT Tryz.prog (env 27 [] []) (lp 0 (body Tryz.f48) 0) OJ:=lk (b9 _ _ _) YM (n:=0) [] trivial (by kernel_rfl) fun k x=>by kernel_rfl
noncomputable def X0:List (bR×gY):=((48,[]),⟨true,[o19,o19],[o17],u2 JK⟩)::XZ
theorem ZT:tw Tryz.prog X0:=fk (b9 27 [] []) YM [(0,OJ)] ⟨Re,trivial⟩ Tryz.func48 (by kernel_rfl) fun x=>by kernel_rfl
noncomputable def X1:List (bR×gY):=((85,[]),⟨true,[a3,a3],[o17],u16 NN⟩)::X0
theorem ZU:tw Tryz.prog X1:=fk (b9 45 [] []) ZT [] trivial Tryz.func85 (by kernel_rfl) fun x=>by kernel_rfl
noncomputable def X2:List (bR×gY):=((234,[]),⟨true,[.agg [v1,v1],.agg [v1,v1]],[o17],u4 Pb⟩)::X1
theorem YN:tw Tryz.prog X2:=fk (b9 15 [] []) ZU [] trivial Tryz.func234 (by kernel_rfl) fun x=>by kernel_rfl
noncomputable def PA:ep:=⟨[(0,o20),(1,o20)],[(5,o1)],[(.ret,[(4,o17)]),(.exit 0,[])],Ns⟩
theorem RD:mT Tryz.prog (env 27 [] []) (lp 0 (body Tryz.f181) 0) PA:=lk (b9 _ _ _) YN (n:=0) [] trivial (by kernel_rfl) fun k x=>by kernel_rfl
noncomputable def X3:List (bR×gY):=((181,[]),⟨true,[o20,o20],[o17],u2 LZ⟩)::X2
theorem ZV:tw Tryz.prog X3:=fk (b9 27 [] []) YN [(0,PA)] ⟨RD,trivial⟩ Tryz.func181 (by kernel_rfl) fun x=>by kernel_rfl
noncomputable def X4:List (bR×gY):=((99,[]),⟨true,[a11,a11],[o17],u4 Pc⟩)::X3
theorem YO:tw Tryz.prog X4:=fk (b9 17 [] []) ZV [] trivial Tryz.func99 (by kernel_rfl) fun x=>by kernel_rfl
noncomputable def P7:ep:=⟨[(0,o2),(1,o2)],[(5,o1)],[(.ret,[(4,o17)]),(.exit 0,[])],Ot⟩
theorem RX:mT Tryz.prog (env 26 [] []) (lp 0 (body Tryz.f39) 0) P7:=lk (b9 _ _ _) YO (n:=0) [] trivial (by kernel_rfl) fun k x=>by kernel_rfl
noncomputable def X5:List (bR×gY):=((39,[]),⟨true,[o2,o2],[o17],u2 O8⟩)::X4
theorem ZW:tw Tryz.prog X5:=fk (b9 26 [] []) YO [(0,P7)] ⟨RX,trivial⟩ Tryz.func39 (by kernel_rfl) fun x=>by kernel_rfl
noncomputable def X6:List (bR×gY):=((262,[]),⟨true,[a4,a4],[o17],u8 PT⟩)::X5
theorem YP:tw Tryz.prog X6:=fk (b9 25 [] []) ZW [] trivial Tryz.func262 (by kernel_rfl) fun x=>by kernel_rfl
noncomputable def P6:ep:=⟨[(0,o22),(1,o22)],[(5,o1)],[(.ret,[(4,o17)]),(.exit 0,[])],Oo⟩
theorem RW:mT Tryz.prog (env 27 [] []) (lp 0 (body Tryz.f235) 0) P6:=lk (b9 _ _ _) YP (n:=0) [] trivial (by kernel_rfl) fun k x=>by kernel_rfl
noncomputable def X7:List (bR×gY):=((235,[]),⟨true,[o22,o22],[o17],u2 O6⟩)::X6
theorem ZX:tw Tryz.prog X7:=fk (b9 27 [] []) YP [(0,P6)] ⟨RW,trivial⟩ Tryz.func235 (by kernel_rfl) fun x=>by kernel_rfl
noncomputable def X8:List (bR×gY):=((182,[]),⟨true,[a13,a13],[o17],u6 Lb⟩)::X7
theorem YQ:tw Tryz.prog X8:=fk (b9 22 [] []) ZX [] trivial Tryz.func182 (by kernel_rfl) fun x=>by kernel_rfl
noncomputable def N0:ep:=⟨[(0,o21),(1,o21)],[(5,o1)],[(.ret,[(4,o17)]),(.exit 0,[])],LU⟩
theorem QW:mT Tryz.prog (env 27 [] []) (lp 0 (body Tryz.f100) 0) N0:=lk (b9 _ _ _) YQ (n:=0) [] trivial (by kernel_rfl) fun k x=>by kernel_rfl
noncomputable def X9:List (bR×gY):=((100,[]),⟨true,[o21,o21],[o17],u2 LR⟩)::X8
theorem ZY:tw Tryz.prog X9:=fk (b9 27 [] []) YQ [(0,N0)] ⟨QW,trivial⟩ Tryz.func100 (by kernel_rfl) fun x=>by kernel_rfl
noncomputable def Ya:List (bR×gY):=((224,[]),⟨true,[a5,a5],[o17],u10 O7⟩)::X9
theorem h128:tw Tryz.prog Ya:=fk (b9 30 [] []) ZY [] trivial Tryz.func224 (by kernel_rfl) fun x=>by kernel_rfl
noncomputable def Yb:List (bR×gY):=((168,[]),⟨true,[a15,a15],[o17],u22 Pa⟩)::Ya
theorem YR:tw Tryz.prog Yb:=fk (b9 39 [] []) h128 [] trivial Tryz.func168 (by kernel_rfl) fun x=>by kernel_rfl
noncomputable def Pz:ep:=⟨[(0,o23),(1,o23)],[(5,o1)],[(.ret,[(4,o17)]),(.exit 0,[])],Nq⟩
theorem RC:mT Tryz.prog (env 27 [] []) (lp 0 (body Tryz.f86) 0) Pz:=lk (b9 _ _ _) YR (n:=0) [] trivial (by kernel_rfl) fun k x=>by kernel_rfl
noncomputable def Yc:List (bR×gY):=((86,[]),⟨true,[o23,o23],[o17],u2 NM⟩)::Yb
theorem ZZ:tw Tryz.prog Yc:=fk (b9 27 [] []) YR [(0,Pz)] ⟨RC,trivial⟩ Tryz.func86 (by kernel_rfl) fun x=>by kernel_rfl
noncomputable def Yd:List (bR×gY):=((225,[]),⟨true,[a7,a7],[o17],u10 O9⟩)::Yc
theorem Z0:tw Tryz.prog Yd:=fk (b9 30 [] []) ZZ [] trivial Tryz.func225 (by kernel_rfl) fun x=>by kernel_rfl
noncomputable def Ye:List (bR×gY):=((169,[]),⟨true,[a8,a8],[o17],u26 MU⟩)::Yd
theorem YS:tw Tryz.prog Ye:=fk (b9 51 [] []) Z0 [] trivial Tryz.func169 (by kernel_rfl) fun x=>by kernel_rfl
noncomputable def N1:ep:=⟨[(0,o24),(1,o24)],[(5,o1)],[(.ret,[(4,o17)]),(.exit 0,[])],LY⟩
theorem QX:mT Tryz.prog (env 27 [] []) (lp 0 (body Tryz.f87) 0) N1:=lk (b9 _ _ _) YS (n:=0) [] trivial (by kernel_rfl) fun k x=>by kernel_rfl
noncomputable def Yf:List (bR×gY):=((87,[]),⟨true,[o24,o24],[o17],u2 LW⟩)::Ye
theorem Z1:tw Tryz.prog Yf:=fk (b9 27 [] []) YS [(0,N1)] ⟨QX,trivial⟩ Tryz.func87 (by kernel_rfl) fun x=>by kernel_rfl
noncomputable def Yg:List (bR×gY):=((170,[]),⟨true,[a9,a9],[o17],Zf NL⟩)::Yf
theorem YT:tw Tryz.prog Yg:=fk (b9 40 [] []) Z1 [] trivial Tryz.func170 (by kernel_rfl) fun x=>by kernel_rfl
noncomputable def OK:ep:=⟨[(0,o18),(1,o18)],[(5,o1)],[(.ret,[(4,o17)]),(.exit 0,[])],MC⟩
theorem Rf:mT Tryz.prog (env 27 [] []) (lp 0 (body Tryz.f88) 0) OK:=lk (b9 _ _ _) YT (n:=0) [] trivial (by kernel_rfl) fun k x=>by kernel_rfl
noncomputable def Yh:List (bR×gY):=((88,[]),⟨true,[o18,o18],[o17],u2 MT⟩)::Yg
theorem Z2:tw Tryz.prog Yh:=fk (b9 27 [] []) YT [(0,OK)] ⟨Rf,trivial⟩ Tryz.func88 (by kernel_rfl) fun x=>by kernel_rfl
noncomputable def Yi:List (bR×gY):=((15,[]),⟨true,[a14,a14],[o17],u30 LV⟩)::Yh
theorem YU:tw Tryz.prog Yi:=fk (b9 50 [] []) Z2 [] trivial Tryz.func15 (by kernel_rfl) fun x=>by kernel_rfl
noncomputable def N3:ep:=⟨[],[(0,o9),(1,o1),(5,o1)],[(.exit 0,[(0,o9),(1,o1)])],L5⟩
theorem QZ:mT Tryz.prog (env 27 [] []) (lp 0 (body Tryz.f101) 0) N3:=lk (b9 _ _ _) YU (n:=0) [] trivial (by kernel_rfl) fun k x=>by kernel_rfl
noncomputable def Yj:List (bR×gY):=((101,[]),⟨true,[o9,o1],[o1],u2 KF⟩)::Yi
theorem YV:tw Tryz.prog Yj:=fk (b9 27 [] []) YU [(0,N3)] ⟨QZ,trivial⟩ Tryz.func101 (by kernel_rfl) fun x=>by kernel_rfl
noncomputable def OM:ep:=⟨[],[(0,o10),(1,o1),(5,o1)],[(.exit 0,[(0,o10),(1,o1)])],KQ⟩
theorem Rh:mT Tryz.prog (env 19 [] []) (lp 0 (body Tryz.f43) 0) OM:=lk (b9 _ _ _) YV (n:=0) [] trivial (by kernel_rfl) fun k x=>by kernel_rfl
noncomputable def Yk:List (bR×gY):=((43,[]),⟨true,[o10,o1],[o1],u2 MW⟩)::Yj
theorem YW:tw Tryz.prog Yk:=fk (b9 19 [] []) YV [(0,OM)] ⟨Rh,trivial⟩ Tryz.func43 (by kernel_rfl) fun x=>by kernel_rfl
noncomputable def OL:ep:=⟨[],[(0,o11),(1,o1),(5,o1)],[(.exit 0,[(0,o11),(1,o1)])],ME⟩
theorem Rg:mT Tryz.prog (env 43 [] []) (lp 0 (body Tryz.f183) 0) OL:=lk (b9 _ _ _) YW (n:=0) [] trivial (by kernel_rfl) fun k x=>by kernel_rfl
noncomputable def Ym:List (bR×gY):=((183,[]),⟨true,[o11,o1],[o1],u2 MV⟩)::Yk
theorem YX:tw Tryz.prog Ym:=fk (b9 43 [] []) YW [(0,OL)] ⟨Rg,trivial⟩ Tryz.func183 (by kernel_rfl) fun x=>by kernel_rfl
noncomputable def M1:ep:=⟨[],[(0,o12),(1,o1),(5,o1)],[(.exit 0,[(0,o12),(1,o1)])],K5⟩
theorem Qm:mT Tryz.prog (env 34 [] []) (lp 0 (body Tryz.f102) 0) M1:=lk (b9 _ _ _) YX (n:=0) [] trivial (by kernel_rfl) fun k x=>by kernel_rfl
noncomputable def Yn:List (bR×gY):=((102,[]),⟨true,[o12,o1],[o1],u2 KO⟩)::Ym
theorem YY:tw Tryz.prog Yn:=fk (b9 34 [] []) YX [(0,M1)] ⟨Qm,trivial⟩ Tryz.func102 (by kernel_rfl) fun x=>by kernel_rfl
noncomputable def Nz:ep:=⟨[],[(0,o13),(1,o1),(5,o1)],[(.exit 0,[(0,o13),(1,o1)])],Ki⟩
theorem Qw:mT Tryz.prog (env 62 [] []) (lp 0 (body Tryz.f49) 0) Nz:=lk (b9 _ _ _) YY (n:=0) [] trivial (by kernel_rfl) fun k x=>by kernel_rfl
noncomputable def Yo:List (bR×gY):=((49,[]),⟨true,[o13,o1],[o1],u2 JO⟩)::Yn
theorem YZ:tw Tryz.prog Yo:=fk (b9 62 [] []) YY [(0,Nz)] ⟨Qw,trivial⟩ Tryz.func49 (by kernel_rfl) fun x=>by kernel_rfl
noncomputable def N2:ep:=⟨[],[(0,o14),(1,o1),(5,o1)],[(.exit 0,[(0,o14),(1,o1)])],L3⟩
theorem QY:mT Tryz.prog (env 103 [] []) (lp 0 (body Tryz.f103) 0) N2:=lk (b9 _ _ _) YZ (n:=0) [] trivial (by kernel_rfl) fun k x=>by kernel_rfl
noncomputable def Yp:List (bR×gY):=((103,[]),⟨true,[o14,o1],[o1],u2 L0⟩)::Yo
theorem Y0:tw Tryz.prog Yp:=fk (b9 103 [] []) YZ [(0,N2)] ⟨QY,trivial⟩ Tryz.func103 (by kernel_rfl) fun x=>by kernel_rfl
noncomputable def M2:ep:=⟨[],[(0,o15),(1,o1),(5,o1)],[(.exit 0,[(0,o15),(1,o1)])],K7⟩
theorem Qn:mT Tryz.prog (env 109 [] []) (lp 0 (body Tryz.f104) 0) M2:=lk (b9 _ _ _) Y0 (n:=0) [] trivial (by kernel_rfl) fun k x=>by kernel_rfl
noncomputable def Yq:List (bR×gY):=((104,[]),⟨true,[o15,o1],[o1],u2 KS⟩)::Yp
theorem Y1:tw Tryz.prog Yq:=fk (b9 109 [] []) Y0 [(0,M2)] ⟨Qn,trivial⟩ Tryz.func104 (by kernel_rfl) fun x=>by kernel_rfl
noncomputable def NA:ep:=⟨[],[(0,o16),(1,o1),(5,o1)],[(.exit 0,[(0,o16),(1,o1)])],Lp⟩
theorem Qx:mT Tryz.prog (env 64 [] []) (lp 0 (body Tryz.f105) 0) NA:=lk (b9 _ _ _) Y1 (n:=0) [] trivial (by kernel_rfl) fun k x=>by kernel_rfl
noncomputable def Yr:List (bR×gY):=((105,[]),⟨true,[o16,o1],[o1],u2 Li⟩)::Yq
theorem Z3:tw Tryz.prog Yr:=fk (b9 64 [] []) Y1 [(0,NA)] ⟨Qx,trivial⟩ Tryz.func105 (by kernel_rfl) fun x=>by kernel_rfl
noncomputable def Ys:List (bR×gY):=((32,[]),⟨true,[a10,o1],[o1],u16 KR⟩)::Yr
theorem Y2:tw Tryz.prog Ys:=fk (b9 22 [] []) Z3 [] trivial Tryz.func32 (by kernel_rfl) fun x=>by kernel_rfl
noncomputable def Ny:ep:=⟨[(0,o19)],[(1,o1),(5,o1)],[(.ret,[(4,o1)]),(.exit 0,[(1,o1)])],Kg⟩
theorem Qv:mT Tryz.prog (env 76 [] []) (lp 0 (body Tryz.f50) 0) Ny:=lk (b9 _ _ _) Y2 (n:=0) [] trivial (by kernel_rfl) fun k x=>by kernel_rfl
noncomputable def Yt:List (bR×gY):=((50,[]),⟨true,[o19,o1],[o1],u2 Kp⟩)::Ys
theorem Z4:tw Tryz.prog Yt:=fk (b9 76 [] []) Y2 [(0,Ny)] ⟨Qv,trivial⟩ Tryz.func50 (by kernel_rfl) fun x=>by kernel_rfl
noncomputable def I0:gY:=⟨true,[a2],[o17],VO J4⟩
noncomputable def Zz:List (bR×gY):=((8,[]),I0)::Yt
theorem Z5:tw Tryz.prog Zz:=fk (b9 96 [] []) Z4 [] trivial Tryz.func8 (by kernel_rfl) fun x=>by kernel_rfl
theorem Ou:eK Tryz.prog 8 I0:=Z5.1
end Go.Proofs.YthdhgmppijjhpaaGreat.fnExactAllJournals

