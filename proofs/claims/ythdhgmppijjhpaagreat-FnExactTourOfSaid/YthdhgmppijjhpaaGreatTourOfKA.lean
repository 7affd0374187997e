/- What each function that the law FnExactTourOf reaches promises: it computes what its plain function says. Conditions: none. -/
import Derived.Test.YthdhgmppijjhpaaGreatRows
import Derived.Test.YthdhgmppijjhpaaGreatTourOfQC
import Derived.KernelRfl
set_option linter.unusedVariables false
set_option linter.unusedSimpArgs false
namespace Go.Proofs.YthdhgmppijjhpaaGreat.fnExactTourOf
open Go.R Go.Fn
set_option maxRecDepth 100000
abbrev t0:aJ:=.cons (.int .i64) .nil
abbrev t1:aJ:=.cons .bool .nil
abbrev t2:aJ:=.cons (.int .u8) .nil
abbrev t3:aJ:=.cons (.int .i64) (.cons (.int .i64) (.cons .bool (.cons (.int .u8) .nil)))
abbrev t4:aJ:=.cons .str .nil
abbrev t5:aJ:=.cons (.int .u64) .nil
abbrev t6:aJ:=.cons .str (.cons (.int .u64) .nil)
abbrev t7:aJ:=.cons (.int .i32) .nil
abbrev t8:aJ:=.cons (.int .i64) (.cons (.int .i64) (.cons (.int .i64) (.cons (.int .i64) (.cons (.int .i64) (.cons (.int .i64) (.cons (.int .i64) (.cons (.int .i64) .nil)))))))
abbrev t9:aJ:=.cons (.int .i64) (.cons (.int .i64) .nil)
abbrev t10:aJ:=.cons (.int .i64) (.cons (.int .i64) (.cons (.int .i64) (.cons .bool .nil)))
abbrev t11:aJ:=.cons (.int .i64) (.cons (.sl 3 t0) (.cons (.sl 265 t10) .nil))
abbrev t12:aJ:=.cons (.int .i64) (.cons (.int .i64) (.cons (.int .i64) (.cons (.int .i64) (.cons (.int .i64) (.cons (.int .i64) (.cons (.int .i64) .nil))))))
abbrev t13:aJ:=.cons (.sl 244 t9) (.cons (.sl 244 t9) (.cons (.sl 202 t11) (.cons (.int .i64) (.cons (.int .i64) (.cons .bool (.cons .bool (.cons .bool (.cons (.int .i64) (.cons (.int .i64) (.cons (.sl 191 t12) .nil))))))))))
abbrev t14:aJ:=.cons (.sl 172 t13) .nil
abbrev t15:aJ:=.cons (.int .i64) (.cons (.int .i64) (.cons (.int .i64) (.cons (.int .i64) (.cons (.int .i64) (.cons (.int .i64) (.cons (.int .i64) (.cons (.int .i64) (.cons (.int .i64) (.cons (.int .i64) (.cons (.int .i64) (.cons (.int .i64) (.cons (.int .i64) .nil))))))))))))
abbrev t16:aJ:=.cons (.sl 187 t15) .nil
abbrev t17:aJ:=.cons (.int .i64) (.cons (.int .i64) (.cons (.int .i64) (.cons (.int .i64) (.cons (.int .i64) (.cons (.int .i64) (.cons .bool .nil))))))
abbrev t18:aJ:=.cons (.sl 189 t17) .nil
abbrev t19:aJ:=.cons (.sl 191 t12) .nil
abbrev t20:aJ:=.cons (.int .i64) (.cons (.int .i64) (.cons (.int .i64) (.cons (.int .i64) (.cons (.int .i64) (.cons (.int .i64) (.cons (.int .i64) (.cons (.int .i64) (.cons (.int .i64) (.cons (.int .i64) (.cons (.int .i64) (.cons (.sl 172 t13) (.cons (.sl 187 t15) (.cons (.sl 189 t17) (.cons (.sl 191 t12) .nil))))))))))))))
abbrev t21:aJ:=.cons (.int .i64) (.cons (.sl 3 t0) (.cons (.sl 182 t10) .nil))
abbrev t22:aJ:=.cons (.sl 208 t9) (.cons (.sl 208 t9) (.cons (.sl 161 t21) (.cons (.int .i64) (.cons (.int .i64) (.cons .bool (.cons .bool (.cons .bool (.cons (.int .i64) (.cons (.int .i64) (.cons (.sl 150 t12) .nil))))))))))
abbrev t23:aJ:=.cons (.sl 98 t22) .nil
abbrev t24:aJ:=.cons (.sl 120 t15) .nil
abbrev t25:aJ:=.cons (.sl 175 t17) .nil
abbrev t26:aJ:=.cons (.sl 150 t12) .nil
abbrev t27:aJ:=.cons (.int .i64) (.cons (.int .i64) (.cons (.int .i64) (.cons (.int .i64) (.cons (.int .i64) (.cons (.int .i64) (.cons (.int .i64) (.cons (.int .i64) (.cons (.int .i64) (.cons (.int .i64) (.cons (.int .i64) (.cons (.sl 98 t22) (.cons (.sl 120 t15) (.cons (.sl 175 t17) (.cons (.sl 150 t12) .nil))))))))))))))
abbrev t28:aJ:=.cons (.sl 244 t9) (.cons (.sl 244 t9) .nil)
abbrev t29:aJ:=.cons (.sl 125 t28) .nil
abbrev t30:aJ:=.cons (.sl 202 t11) .nil
abbrev t31:aJ:=.cons (.sl 127 t30) .nil
abbrev t32:aJ:=.cons (.sl 208 t9) (.cons (.sl 208 t9) .nil)
abbrev t33:aJ:=.cons (.sl 93 t32) .nil
abbrev t34:aJ:=.cons (.sl 161 t21) .nil
abbrev t35:aJ:=.cons (.sl 94 t34) .nil
abbrev t36:aJ:=.cons (.sl 3 t0) .nil
abbrev t37:aJ:=.cons (.sl 70 t36) .nil
abbrev t38:aJ:=.cons (.int .i64) (.cons (.int .i64) (.cons (.int .i64) (.cons (.int .i64) (.cons (.int .i64) .nil))))
abbrev t39:aJ:=.cons (.sl 139 t38) .nil
abbrev t40:aJ:=.cons (.int .i64) (.cons (.int .i64) (.cons (.sl 70 t36) (.cons (.sl 139 t38) .nil)))
abbrev t41:aJ:=.cons (.sl 5 t2) .nil
abbrev t42:aJ:=.cons (.sl 208 t9) .nil
abbrev t43:aJ:=.cons (.int .i64) (.cons (.int .i64) (.cons .bool (.cons .bool (.cons .bool .nil))))
abbrev t44:aJ:=.cons (.sl 244 t9) .nil
abbrev t45:aJ:=.cons (.sl 182 t10) .nil
abbrev t46:aJ:=.cons (.sl 265 t10) .nil
abbrev t47:aJ:=.cons (.sl 3 t0) (.cons (.int .i64) (.cons (.int .i64) (.cons (.int .i64) .nil)))
abbrev t48:aJ:=.cons (.sl 5 t2) (.cons (.int .i64) (.cons (.int .i64) .nil))
abbrev t49:aJ:=.cons (.int .u32) .nil
abbrev t50:aJ:=.cons (.int .i64) (.cons (.int .i64) (.cons (.int .i64) .nil))
abbrev t51:aJ:=.cons (.sl 296 t50) .nil
abbrev v0:K:=.val (.sl 244 t9)
abbrev v1:K:=.val (.int .i64)
abbrev v2:K:=.val (.sl 3 t0)
abbrev v3:K:=.val (.sl 265 t10)
abbrev v4:K:=.val (.sl 202 t11)
abbrev v5:K:=.val (.sl 191 t12)
abbrev v6:K:=.val .bool
abbrev v7:K:=.val (.sl 172 t13)
abbrev v8:K:=.val (.sl 187 t15)
abbrev v9:K:=.val (.sl 189 t17)
abbrev v10:K:=.val (.sl 70 t36)
abbrev v11:K:=.val (.sl 175 t17)
abbrev v12:K:=.val (.sl 150 t12)
abbrev v13:K:=.val (.sl 208 t9)
abbrev v14:K:=.val (.sl 182 t10)
abbrev v15:K:=.val (.sl 161 t21)
abbrev v16:K:=.val (.sl 98 t22)
abbrev v17:K:=.val (.sl 120 t15)
abbrev v18:K:=.val (.sl 139 t38)
abbrev v19:K:=.arr 208 t9 false
abbrev v20:K:=.arr 3 t0 false
abbrev v21:K:=.arr 182 t10 false
abbrev v22:K:=.arr 161 t21 true
abbrev v23:K:=.arr 150 t12 false
abbrev v24:K:=.arr 98 t22 true
abbrev v25:K:=.arr 120 t15 false
abbrev v26:K:=.arr 175 t17 false
abbrev v27:K:=.arr 70 t36 true
abbrev v28:K:=.arr 139 t38 false
abbrev v29:K:=.arr 70 t36 false
abbrev o0:Sh:=.one v0
abbrev o1:Sh:=.one v1
abbrev o2:Sh:=.one v2
abbrev o3:Sh:=.one v3
abbrev o4:Sh:=.one v4
abbrev o5:Sh:=.one v5
abbrev o6:Sh:=.one v7
abbrev o7:Sh:=.one v8
abbrev o8:Sh:=.one v9
abbrev o9:Sh:=.one v10
abbrev o10:Sh:=.one v19
abbrev o11:Sh:=.one v20
abbrev o12:Sh:=.one v21
abbrev o13:Sh:=.one v22
abbrev o14:Sh:=.one v23
abbrev o15:Sh:=.one v24
abbrev o16:Sh:=.one v25
abbrev o17:Sh:=.one v26
abbrev o18:Sh:=.one v27
abbrev o19:Sh:=.one v6
abbrev o20:Sh:=.one v11
abbrev o21:Sh:=.one v12
abbrev o22:Sh:=.one v13
abbrev o23:Sh:=.one v15
abbrev o24:Sh:=.one v14
abbrev o25:Sh:=.one v29
abbrev o26:Sh:=.one v16
abbrev o27:Sh:=.one v17
abbrev o28:Sh:=.one v18
abbrev a0:Sh:=.agg [v1,v2,v3]
abbrev a1:Sh:=.agg [v0,v0,v4,v1,v1,v6,v6,v6,v1,v1,v5]
abbrev a2:Sh:=.agg [v1,v1,v1,v1,v1,v1,v1,v1,v1,v1,v1,v7,v8,v9,v5]
abbrev a3:Sh:=.agg [v1,v1,v1,v1,v1,v1,v1,v1]
abbrev a4:Sh:=.agg [v1,v1,v1,v6]
abbrev a5:Sh:=.agg [v1,v1,v6,v6,v6]
abbrev a6:Sh:=.agg [v1,v1,v1,v1,v1,v1,v1]
abbrev a7:Sh:=.agg [v1,v1,v1,v1,v1]
abbrev a8:Sh:=.agg [v1,v1,v1,v1,v1,v1,v1,v1,v1,v1,v1,v1,v1]
abbrev a9:Sh:=.agg [v1,v1,v1,v1,v1,v1,v6]
abbrev a10:Sh:=.agg [v1,v1,v1,v1,v1,v1,v1,v1,v1,v1,v1,v24,v25,v26,v23]
abbrev a11:Sh:=.agg [v13,v13]
abbrev a12:Sh:=.blk [v1,v1,v1,v6]
abbrev a13:Sh:=.agg [v1,v2,v14]
abbrev a14:Sh:=.agg [v1,v1,v1,v1,v1,v1,v1,v1,v1,v1,v1,v16,v17,v11,v12]
abbrev a15:Sh:=.agg [v1,v1,v10,v18]
abbrev a16:Sh:=.blk [v1,v1,v27,v28]
abbrev a17:Sh:=.blk [v1,v1,v1,v1,v1]
abbrev a18:Sh:=.agg [v1,v1,v27,v28]
abbrev a19:Sh:=.blk [v20,v1,v1,v1]
abbrev a20:Sh:=.agg [v20,v1,v1,v1]
abbrev a21:Sh:=.blk [v13,v13,v15,v1,v1,v6,v6,v6,v1,v1,v12]
abbrev a22:Sh:=.agg [v13,v13,v15,v1,v1,v6,v6,v6,v1,v1,v12]
noncomputable def table:List (Nat×TI):=[(2,⟨t0,false,8,[],none⟩),
 (3,⟨t0,false,8,[],none⟩),
 (4,⟨t1,false,1,[],none⟩),
 (5,⟨t2,false,1,[],none⟩),
 (6,⟨t2,false,1,[],none⟩),
 (7,⟨t3,true,24,[(0,1,false),(1,1,false),(2,1,false),(3,1,false)],none⟩),
 (8,⟨t3,true,24,[(0,1,false),(1,1,false),(2,1,false),(3,1,false)],none⟩),
 (9,⟨t4,false,16,[],none⟩),
 (10,⟨t4,false,16,[],none⟩),
 (11,⟨t4,false,16,[],none⟩),
 (12,⟨t5,false,8,[],none⟩),
 (13,⟨t6,true,24,[(0,1,false),(1,1,false)],none⟩),
 (14,⟨t6,true,24,[(0,1,false),(1,1,false)],none⟩),
 (21,⟨t7,false,4,[],none⟩),
 (22,⟨t8,true,64,[(0,1,false),(1,1,false),(2,1,false),(3,1,false),(4,1,false),(5,1,false),(6,1,false),(7,1,false)],none⟩),
 (23,⟨t8,true,64,[(0,1,false),(1,1,false),(2,1,false),(3,1,false),(4,1,false),(5,1,false),(6,1,false),(7,1,false)],none⟩),
 (24,⟨t14,false,24,[],some 172⟩),
 (25,⟨t16,false,24,[],some 187⟩),
 (26,⟨t18,false,24,[],some 189⟩),
 (27,⟨t19,false,24,[],some 191⟩),
 (28,⟨t20,true,184,[(0,8,true),(8,1,false),(9,1,false),(10,1,false),(11,1,false),(12,1,false),(13,1,false),(14,1,false)],none⟩),
 (29,⟨t20,true,184,[(0,8,true),(8,1,false),(9,1,false),(10,1,false),(11,1,false),(12,1,false),(13,1,false),(14,1,false)],none⟩),
 (32,⟨t8,true,64,[(0,1,false),(1,1,false),(2,1,false),(3,1,false),(4,1,false),(5,1,false),(6,1,false),(7,1,false)],none⟩),
 (33,⟨t23,false,24,[],some 98⟩),
 (34,⟨t24,false,24,[],some 120⟩),
 (35,⟨t25,false,24,[],some 175⟩),
 (36,⟨t26,false,24,[],some 150⟩),
 (37,⟨t27,true,184,[(0,8,true),(8,1,false),(9,1,false),(10,1,false),(11,1,false),(12,1,false),(13,1,false),(14,1,false)],none⟩),
 (38,⟨t27,true,184,[(0,8,true),(8,1,false),(9,1,false),(10,1,false),(11,1,false),(12,1,false),(13,1,false),(14,1,false)],none⟩),
 (43,⟨t12,true,56,[(0,1,false),(1,1,false),(2,1,false),(3,1,false),(4,1,false),(5,1,false),(6,1,false)],none⟩),
 (44,⟨t12,true,56,[(0,1,false),(1,1,false),(2,1,false),(3,1,false),(4,1,false),(5,1,false),(6,1,false)],none⟩),
 (48,⟨t29,false,24,[],some 125⟩),
 (49,⟨t31,false,24,[],some 127⟩),
 (55,⟨t33,false,24,[],some 93⟩),
 (57,⟨t35,false,24,[],some 94⟩),
 (65,⟨t37,false,24,[],some 70⟩),
 (67,⟨t39,false,24,[],some 139⟩),
 (68,⟨t40,true,64,[(0,1,false),(1,1,false),(2,1,false),(3,1,false)],none⟩),
 (69,⟨t40,true,64,[(0,1,false),(1,1,false),(2,1,false),(3,1,false)],none⟩),
 (70,⟨t36,false,24,[],some 3⟩),
 (86,⟨t41,false,24,[],some 5⟩),
 (91,⟨t42,false,24,[],some 208⟩),
 (92,⟨t32,true,48,[(0,1,false),(1,1,false)],none⟩),
 (93,⟨t32,true,48,[(0,1,false),(1,1,false)],none⟩),
 (94,⟨t34,false,24,[],some 161⟩),
 (95,⟨t43,true,24,[(0,1,false),(1,1,false),(2,1,false),(3,1,false),(4,1,false)],none⟩),
 (96,⟨t43,true,24,[(0,1,false),(1,1,false),(2,1,false),(3,1,false),(4,1,false)],none⟩),
 (97,⟨t22,true,136,[(0,2,true),(2,1,false),(3,5,true),(8,1,false),(9,1,false),(10,1,false)],none⟩),
 (98,⟨t22,true,136,[(0,2,true),(2,1,false),(3,5,true),(8,1,false),(9,1,false),(10,1,false)],none⟩),
 (117,⟨t38,true,40,[(0,1,false),(1,1,false),(2,1,false),(3,1,false),(4,1,false)],none⟩),
 (118,⟨t38,true,40,[(0,1,false),(1,1,false),(2,1,false),(3,1,false),(4,1,false)],none⟩),
 (119,⟨t15,true,104,[(0,1,false),(1,1,false),(2,1,false),(3,1,false),(4,1,false),(5,1,false),(6,5,true),(11,1,false),(12,1,false)],none⟩),
 (120,⟨t15,true,104,[(0,1,false),(1,1,false),(2,1,false),(3,1,false),(4,1,false),(5,1,false),(6,5,true),(11,1,false),(12,1,false)],none⟩),
 (123,⟨t44,false,24,[],some 244⟩),
 (124,⟨t28,true,48,[(0,1,false),(1,1,false)],none⟩),
 (125,⟨t28,true,48,[(0,1,false),(1,1,false)],none⟩),
 (127,⟨t30,false,24,[],some 202⟩),
 (138,⟨t38,true,40,[(0,1,false),(1,1,false),(2,1,false),(3,1,false),(4,1,false)],none⟩),
 (139,⟨t38,true,40,[(0,1,false),(1,1,false),(2,1,false),(3,1,false),(4,1,false)],none⟩),
 (149,⟨t12,true,56,[(0,1,false),(1,1,false),(2,1,false),(3,1,false),(4,1,false),(5,1,false),(6,1,false)],none⟩),
 (150,⟨t12,true,56,[(0,1,false),(1,1,false),(2,1,false),(3,1,false),(4,1,false),(5,1,false),(6,1,false)],none⟩),
 (159,⟨t45,false,24,[],some 182⟩),
 (160,⟨t21,true,56,[(0,1,false),(1,1,false),(2,1,false)],none⟩),
 (161,⟨t21,true,56,[(0,1,false),(1,1,false),(2,1,false)],none⟩),
 (170,⟨t43,true,24,[(0,1,false),(1,1,false),(2,1,false),(3,1,false),(4,1,false)],none⟩),
 (171,⟨t13,true,136,[(0,2,true),(2,1,false),(3,5,true),(8,1,false),(9,1,false),(10,1,false)],none⟩),
 (172,⟨t13,true,136,[(0,2,true),(2,1,false),(3,5,true),(8,1,false),(9,1,false),(10,1,false)],none⟩),
 (174,⟨t17,true,56,[(0,1,false),(1,1,false),(2,1,false),(3,1,false),(4,1,false),(5,1,false),(6,1,false)],none⟩),
 (175,⟨t17,true,56,[(0,1,false),(1,1,false),(2,1,false),(3,1,false),(4,1,false),(5,1,false),(6,1,false)],none⟩),
 (181,⟨t10,true,32,[(0,1,false),(1,1,false),(2,1,false),(3,1,false)],none⟩),
 (182,⟨t10,true,32,[(0,1,false),(1,1,false),(2,1,false),(3,1,false)],none⟩),
 (185,⟨t38,true,40,[(0,1,false),(1,1,false),(2,1,false),(3,1,false),(4,1,false)],none⟩),
 (186,⟨t15,true,104,[(0,1,false),(1,1,false),(2,1,false),(3,1,false),(4,1,false),(5,1,false),(6,5,true),(11,1,false),(12,1,false)],none⟩),
 (187,⟨t15,true,104,[(0,1,false),(1,1,false),(2,1,false),(3,1,false),(4,1,false),(5,1,false),(6,5,true),(11,1,false),(12,1,false)],none⟩),
 (189,⟨t17,true,56,[(0,1,false),(1,1,false),(2,1,false),(3,1,false),(4,1,false),(5,1,false),(6,1,false)],none⟩),
 (191,⟨t12,true,56,[(0,1,false),(1,1,false),(2,1,false),(3,1,false),(4,1,false),(5,1,false),(6,1,false)],none⟩),
 (200,⟨t46,false,24,[],some 265⟩),
 (201,⟨t11,true,56,[(0,1,false),(1,1,false),(2,1,false)],none⟩),
 (202,⟨t11,true,56,[(0,1,false),(1,1,false),(2,1,false)],none⟩),
 (207,⟨t9,true,16,[(0,1,false),(1,1,false)],none⟩),
 (208,⟨t9,true,16,[(0,1,false),(1,1,false)],none⟩),
 (218,⟨t47,true,48,[(0,1,false),(1,1,false),(2,1,false),(3,1,false)],none⟩),
 (219,⟨t47,true,48,[(0,1,false),(1,1,false),(2,1,false),(3,1,false)],none⟩),
 (224,⟨t48,true,40,[(0,1,false),(1,1,false),(2,1,false)],none⟩),
 (225,⟨t48,true,40,[(0,1,false),(1,1,false),(2,1,false)],none⟩),
 (244,⟨t9,true,16,[(0,1,false),(1,1,false)],none⟩),
 (256,⟨t5,false,8,[],none⟩),
 (265,⟨t10,true,32,[(0,1,false),(1,1,false),(2,1,false),(3,1,false)],none⟩),
 (268,⟨t47,true,48,[(0,1,false),(1,1,false),(2,1,false),(3,1,false)],none⟩),
 (269,⟨t47,true,48,[(0,1,false),(1,1,false),(2,1,false),(3,1,false)],none⟩),
 (277,⟨t0,false,8,[],none⟩),
 (285,⟨t49,false,4,[],none⟩),
 (287,⟨t5,false,8,[],none⟩),
 (295,⟨t50,true,24,[(0,1,false),(1,1,false),(2,1,false)],none⟩),
 (296,⟨t50,true,24,[(0,1,false),(1,1,false),(2,1,false)],none⟩),
 (300,⟨t5,false,8,[],none⟩),
 (308,⟨t51,false,24,[],some 296⟩),
 (323,⟨t2,false,1,[],none⟩),
 (324,⟨t2,false,1,[],none⟩),
 (327,⟨t7,false,4,[],none⟩),
 (328,⟨t7,false,4,[],none⟩)]
theorem WJ:Cs Tryz.prog table=true:=by kernel_rfl
noncomputable def E8:List Nat:=[32,96,118,120,175,150,44,182,208]
theorem XX:(E8.all fun t=>vB Tryz.prog (uE table) t)=true:=by kernel_rfl
noncomputable def maps:List (Nat×IntKind):=[(236,.i64)]
theorem W8:(maps.all fun p=>Ct Tryz.prog p.1 p.2)=true:=by kernel_rfl
noncomputable def env(nt:Nat)(tr dp:List Nat):Env:={ ti:=uE table,deep:=fun d=>dp.any (Nat.beq d),trunc:=fun d=>tr.any (Nat.beq d),ro:=fun _=>false,EJ:=fun t=>E8.any (Nat.beq t),mp:=w4 maps,nt:=nt }
theorem bg(nt:Nat)(tr dp:List Nat):cm Tryz.prog (env nt tr dp):=DD (by kernel_rfl) WJ XX W8 _ rfl (fun _=>rfl) rfl
noncomputable def u1{A0 B C:Type}(f:A0->C)(x:A0×B):C:=f x.1
noncomputable def u2{A0 A1 B C:Type}(f:A0->A1->C)(x:A0×A1×B):C:=f x.1 x.2.1
noncomputable def u3{A0 A1 A2 B C:Type}(f:A0->A1->A2->C)(x:A0×A1×A2×B):C:=f x.1 x.2.1 x.2.2.1
noncomputable def u4{A0 A1 A2 A3 B C:Type}(f:A0->A1->A2->A3->C)(x:A0×A1×A2×A3×B):C:=f x.1 x.2.1 x.2.2.1 x.2.2.2.1
noncomputable def u5{A0 A1 A2 A3 A4 B C:Type}(f:A0->A1->A2->A3->A4->C)(x:A0×A1×A2×A3×A4×B):C:=f x.1 x.2.1 x.2.2.1 x.2.2.2.1 x.2.2.2.2.1
noncomputable def u6{A0 A1 A2 A3 A4 A5 B C:Type}(f:A0->A1->A2->A3->A4->A5->C)(x:A0×A1×A2×A3×A4×A5×B):C:=f x.1 x.2.1 x.2.2.1 x.2.2.2.1 x.2.2.2.2.1 x.2.2.2.2.2.1
noncomputable def u7{A0 A1 A2 A3 A4 A5 A6 B C:Type}(f:A0->A1->A2->A3->A4->A5->A6->C)(x:A0×A1×A2×A3×A4×A5×A6×B):C:=f x.1 x.2.1 x.2.2.1 x.2.2.2.1 x.2.2.2.2.1 x.2.2.2.2.2.1 x.2.2.2.2.2.2.1
noncomputable def u8{A0 A1 A2 A3 A4 A5 A6 A7 B C:Type}(f:A0->A1->A2->A3->A4->A5->A6->A7->C)(x:A0×A1×A2×A3×A4×A5×A6×A7×B):C:=f x.1 x.2.1 x.2.2.1 x.2.2.2.1 x.2.2.2.2.1 x.2.2.2.2.2.1 x.2.2.2.2.2.2.1 x.2.2.2.2.2.2.2.1
noncomputable def u9{A0 A1 A2 A3 A4 A5 A6 A7 A8 B C:Type}(f:A0->A1->A2->A3->A4->A5->A6->A7->A8->C)(x:A0×A1×A2×A3×A4×A5×A6×A7×A8×B):C:=f x.1 x.2.1 x.2.2.1 x.2.2.2.1 x.2.2.2.2.1 x.2.2.2.2.2.1 x.2.2.2.2.2.2.1 x.2.2.2.2.2.2.2.1 x.2.2.2.2.2.2.2.2.1
noncomputable def u10{A0 A1 A2 A3 A4 A5 A6 A7 A8 A9 B C:Type}(f:A0->A1->A2->A3->A4->A5->A6->A7->A8->A9->C)(x:A0×A1×A2×A3×A4×A5×A6×A7×A8×A9×B):C:=f x.1 x.2.1 x.2.2.1 x.2.2.2.1 x.2.2.2.2.1 x.2.2.2.2.2.1 x.2.2.2.2.2.2.1 x.2.2.2.2.2.2.2.1 x.2.2.2.2.2.2.2.2.1 x.2.2.2.2.2.2.2.2.2.1
noncomputable def u11{A0 A1 A2 A3 A4 A5 A6 A7 A8 A9 Qm B C:Type}(f:A0->A1->A2->A3->A4->A5->A6->A7->A8->A9->Qm->C)(x:A0×A1×A2×A3×A4×A5×A6×A7×A8×A9×Qm×B):C:=f x.1 x.2.1 x.2.2.1 x.2.2.2.1 x.2.2.2.2.1 x.2.2.2.2.2.1 x.2.2.2.2.2.2.1 x.2.2.2.2.2.2.2.1 x.2.2.2.2.2.2.2.2.1 x.2.2.2.2.2.2.2.2.2.1 x.2.2.2.2.2.2.2.2.2.2.1
noncomputable def u12{A0 A1 A2 A3 A4 A5 A6 A7 A8 A9 Qm Q3 B C:Type}(f:A0->A1->A2->A3->A4->A5->A6->A7->A8->A9->Qm->Q3->C)(x:A0×A1×A2×A3×A4×A5×A6×A7×A8×A9×Qm×Q3×B):C:=f x.1 x.2.1 x.2.2.1 x.2.2.2.1 x.2.2.2.2.1 x.2.2.2.2.2.1 x.2.2.2.2.2.2.1 x.2.2.2.2.2.2.2.1 x.2.2.2.2.2.2.2.2.1 x.2.2.2.2.2.2.2.2.2.1 x.2.2.2.2.2.2.2.2.2.2.1 x.2.2.2.2.2.2.2.2.2.2.2.1
noncomputable def u13{A0 A1 A2 A3 A4 A5 A6 A7 A8 A9 Qm Q3 R3 B C:Type}(f:A0->A1->A2->A3->A4->A5->A6->A7->A8->A9->Qm->Q3->R3->C)(x:A0×A1×A2×A3×A4×A5×A6×A7×A8×A9×Qm×Q3×R3×B):C:=f x.1 x.2.1 x.2.2.1 x.2.2.2.1 x.2.2.2.2.1 x.2.2.2.2.2.1 x.2.2.2.2.2.2.1 x.2.2.2.2.2.2.2.1 x.2.2.2.2.2.2.2.2.1 x.2.2.2.2.2.2.2.2.2.1 x.2.2.2.2.2.2.2.2.2.2.1 x.2.2.2.2.2.2.2.2.2.2.2.1 x.2.2.2.2.2.2.2.2.2.2.2.2.1
noncomputable def u14{A0 A1 A2 A3 A4 A5 A6 A7 A8 A9 Qm Q3 R3 Sl B C:Type}(f:A0->A1->A2->A3->A4->A5->A6->A7->A8->A9->Qm->Q3->R3->Sl->C)(x:A0×A1×A2×A3×A4×A5×A6×A7×A8×A9×Qm×Q3×R3×Sl×B):C:=f x.1 x.2.1 x.2.2.1 x.2.2.2.1 x.2.2.2.2.1 x.2.2.2.2.2.1 x.2.2.2.2.2.2.1 x.2.2.2.2.2.2.2.1 x.2.2.2.2.2.2.2.2.1 x.2.2.2.2.2.2.2.2.2.1 x.2.2.2.2.2.2.2.2.2.2.1 x.2.2.2.2.2.2.2.2.2.2.2.1 x.2.2.2.2.2.2.2.2.2.2.2.2.1 x.2.2.2.2.2.2.2.2.2.2.2.2.2.1
noncomputable def Yc{A0 A1 A2 A3 A4 A5 A6 A7 A8 A9 Qm Q3 R3 Sl S8 B C:Type}(f:A0->A1->A2->A3->A4->A5->A6->A7->A8->A9->Qm->Q3->R3->Sl->S8->C)(x:A0×A1×A2×A3×A4×A5×A6×A7×A8×A9×Qm×Q3×R3×Sl×S8×B):C:=f x.1 x.2.1 x.2.2.1 x.2.2.2.1 x.2.2.2.2.1 x.2.2.2.2.2.1 x.2.2.2.2.2.2.1 x.2.2.2.2.2.2.2.1 x.2.2.2.2.2.2.2.2.1 x.2.2.2.2.2.2.2.2.2.1 x.2.2.2.2.2.2.2.2.2.2.1 x.2.2.2.2.2.2.2.2.2.2.2.1 x.2.2.2.2.2.2.2.2.2.2.2.2.1 x.2.2.2.2.2.2.2.2.2.2.2.2.2.1 x.2.2.2.2.2.2.2.2.2.2.2.2.2.2.1
noncomputable def u16{A0 A1 A2 A3 A4 A5 A6 A7 A8 A9 Qm Q3 R3 Sl S8 TX B C:Type}(f:A0->A1->A2->A3->A4->A5->A6->A7->A8->A9->Qm->Q3->R3->Sl->S8->TX->C)(x:A0×A1×A2×A3×A4×A5×A6×A7×A8×A9×Qm×Q3×R3×Sl×S8×TX×B):C:=f x.1 x.2.1 x.2.2.1 x.2.2.2.1 x.2.2.2.2.1 x.2.2.2.2.2.1 x.2.2.2.2.2.2.1 x.2.2.2.2.2.2.2.1 x.2.2.2.2.2.2.2.2.1 x.2.2.2.2.2.2.2.2.2.1 x.2.2.2.2.2.2.2.2.2.2.1 x.2.2.2.2.2.2.2.2.2.2.2.1 x.2.2.2.2.2.2.2.2.2.2.2.2.1 x.2.2.2.2.2.2.2.2.2.2.2.2.2.1 x.2.2.2.2.2.2.2.2.2.2.2.2.2.2.1 x.2.2.2.2.2.2.2.2.2.2.2.2.2.2.2.1
noncomputable def Z8{A0 A1 A2 A3 A4 A5 A6 A7 A8 A9 Qm Q3 R3 Sl S8 TX Vk B C:Type}(f:A0->A1->A2->A3->A4->A5->A6->A7->A8->A9->Qm->Q3->R3->Sl->S8->TX->Vk->C)(x:A0×A1×A2×A3×A4×A5×A6×A7×A8×A9×Qm×Q3×R3×Sl×S8×TX×Vk×B):C:=f x.1 x.2.1 x.2.2.1 x.2.2.2.1 x.2.2.2.2.1 x.2.2.2.2.2.1 x.2.2.2.2.2.2.1 x.2.2.2.2.2.2.2.1 x.2.2.2.2.2.2.2.2.1 x.2.2.2.2.2.2.2.2.2.1 x.2.2.2.2.2.2.2.2.2.2.1 x.2.2.2.2.2.2.2.2.2.2.2.1 x.2.2.2.2.2.2.2.2.2.2.2.2.1 x.2.2.2.2.2.2.2.2.2.2.2.2.2.1 x.2.2.2.2.2.2.2.2.2.2.2.2.2.2.1 x.2.2.2.2.2.2.2.2.2.2.2.2.2.2.2.1 x.2.2.2.2.2.2.2.2.2.2.2.2.2.2.2.2.1
noncomputable def u22{A0 A1 A2 A3 A4 A5 A6 A7 A8 A9 Qm Q3 R3 Sl S8 TX Vk V7 V8 V9 Wa Wb B C:Type}(f:A0->A1->A2->A3->A4->A5->A6->A7->A8->A9->Qm->Q3->R3->Sl->S8->TX->Vk->V7->V8->V9->Wa->Wb->C)(x:A0×A1×A2×A3×A4×A5×A6×A7×A8×A9×Qm×Q3×R3×Sl×S8×TX×Vk×V7×V8×V9×Wa×Wb×B):C:=f x.1 x.2.1 x.2.2.1 x.2.2.2.1 x.2.2.2.2.1 x.2.2.2.2.2.1 x.2.2.2.2.2.2.1 x.2.2.2.2.2.2.2.1 x.2.2.2.2.2.2.2.2.1 x.2.2.2.2.2.2.2.2.2.1 x.2.2.2.2.2.2.2.2.2.2.1 x.2.2.2.2.2.2.2.2.2.2.2.1 x.2.2.2.2.2.2.2.2.2.2.2.2.1 x.2.2.2.2.2.2.2.2.2.2.2.2.2.1 x.2.2.2.2.2.2.2.2.2.2.2.2.2.2.1 x.2.2.2.2.2.2.2.2.2.2.2.2.2.2.2.1 x.2.2.2.2.2.2.2.2.2.2.2.2.2.2.2.2.1 x.2.2.2.2.2.2.2.2.2.2.2.2.2.2.2.2.2.1 x.2.2.2.2.2.2.2.2.2.2.2.2.2.2.2.2.2.2.1 x.2.2.2.2.2.2.2.2.2.2.2.2.2.2.2.2.2.2.2.1 x.2.2.2.2.2.2.2.2.2.2.2.2.2.2.2.2.2.2.2.2.1 x.2.2.2.2.2.2.2.2.2.2.2.2.2.2.2.2.2.2.2.2.2.1
noncomputable def u26{A0 A1 A2 A3 A4 A5 A6 A7 A8 A9 Qm Q3 R3 Sl S8 TX Vk V7 V8 V9 Wa Wb Xp Xq Xr Xs B C:Type}(f:A0->A1->A2->A3->A4->A5->A6->A7->A8->A9->Qm->Q3->R3->Sl->S8->TX->Vk->V7->V8->V9->Wa->Wb->Xp->Xq->Xr->Xs->C)(x:A0×A1×A2×A3×A4×A5×A6×A7×A8×A9×Qm×Q3×R3×Sl×S8×TX×Vk×V7×V8×V9×Wa×Wb×Xp×Xq×Xr×Xs×B):C:=f x.1 x.2.1 x.2.2.1 x.2.2.2.1 x.2.2.2.2.1 x.2.2.2.2.2.1 x.2.2.2.2.2.2.1 x.2.2.2.2.2.2.2.1 x.2.2.2.2.2.2.2.2.1 x.2.2.2.2.2.2.2.2.2.1 x.2.2.2.2.2.2.2.2.2.2.1 x.2.2.2.2.2.2.2.2.2.2.2.1 x.2.2.2.2.2.2.2.2.2.2.2.2.1 x.2.2.2.2.2.2.2.2.2.2.2.2.2.1 x.2.2.2.2.2.2.2.2.2.2.2.2.2.2.1 x.2.2.2.2.2.2.2.2.2.2.2.2.2.2.2.1 x.2.2.2.2.2.2.2.2.2.2.2.2.2.2.2.2.1 x.2.2.2.2.2.2.2.2.2.2.2.2.2.2.2.2.2.1 x.2.2.2.2.2.2.2.2.2.2.2.2.2.2.2.2.2.2.1 x.2.2.2.2.2.2.2.2.2.2.2.2.2.2.2.2.2.2.2.1 x.2.2.2.2.2.2.2.2.2.2.2.2.2.2.2.2.2.2.2.2.1 x.2.2.2.2.2.2.2.2.2.2.2.2.2.2.2.2.2.2.2.2.2.1 x.2.2.2.2.2.2.2.2.2.2.2.2.2.2.2.2.2.2.2.2.2.2.1 x.2.2.2.2.2.2.2.2.2.2.2.2.2.2.2.2.2.2.2.2.2.2.2.1 x.2.2.2.2.2.2.2.2.2.2.2.2.2.2.2.2.2.2.2.2.2.2.2.2.1 x.2.2.2.2.2.2.2.2.2.2.2.2.2.2.2.2.2.2.2.2.2.2.2.2.2.1
noncomputable def u28{A0 A1 A2 A3 A4 A5 A6 A7 A8 A9 Qm Q3 R3 Sl S8 TX Vk V7 V8 V9 Wa Wb Xp Xq Xr Xs Yo Yp B C:Type}(f:A0->A1->A2->A3->A4->A5->A6->A7->A8->A9->Qm->Q3->R3->Sl->S8->TX->Vk->V7->V8->V9->Wa->Wb->Xp->Xq->Xr->Xs->Yo->Yp->C)(x:A0×A1×A2×A3×A4×A5×A6×A7×A8×A9×Qm×Q3×R3×Sl×S8×TX×Vk×V7×V8×V9×Wa×Wb×Xp×Xq×Xr×Xs×Yo×Yp×B):C:=f x.1 x.2.1 x.2.2.1 x.2.2.2.1 x.2.2.2.2.1 x.2.2.2.2.2.1 x.2.2.2.2.2.2.1 x.2.2.2.2.2.2.2.1 x.2.2.2.2.2.2.2.2.1 x.2.2.2.2.2.2.2.2.2.1 x.2.2.2.2.2.2.2.2.2.2.1 x.2.2.2.2.2.2.2.2.2.2.2.1 x.2.2.2.2.2.2.2.2.2.2.2.2.1 x.2.2.2.2.2.2.2.2.2.2.2.2.2.1 x.2.2.2.2.2.2.2.2.2.2.2.2.2.2.1 x.2.2.2.2.2.2.2.2.2.2.2.2.2.2.2.1 x.2.2.2.2.2.2.2.2.2.2.2.2.2.2.2.2.1 x.2.2.2.2.2.2.2.2.2.2.2.2.2.2.2.2.2.1 x.2.2.2.2.2.2.2.2.2.2.2.2.2.2.2.2.2.2.1 x.2.2.2.2.2.2.2.2.2.2.2.2.2.2.2.2.2.2.2.1 x.2.2.2.2.2.2.2.2.2.2.2.2.2.2.2.2.2.2.2.2.1 x.2.2.2.2.2.2.2.2.2.2.2.2.2.2.2.2.2.2.2.2.2.1 x.2.2.2.2.2.2.2.2.2.2.2.2.2.2.2.2.2.2.2.2.2.2.1 x.2.2.2.2.2.2.2.2.2.2.2.2.2.2.2.2.2.2.2.2.2.2.2.1 x.2.2.2.2.2.2.2.2.2.2.2.2.2.2.2.2.2.2.2.2.2.2.2.2.1 x.2.2.2.2.2.2.2.2.2.2.2.2.2.2.2.2.2.2.2.2.2.2.2.2.2.1 x.2.2.2.2.2.2.2.2.2.2.2.2.2.2.2.2.2.2.2.2.2.2.2.2.2.2.1 x.2.2.2.2.2.2.2.2.2.2.2.2.2.2.2.2.2.2.2.2.2.2.2.2.2.2.2.1
noncomputable def u30{A0 A1 A2 A3 A4 A5 A6 A7 A8 A9 Qm Q3 R3 Sl S8 TX Vk V7 V8 V9 Wa Wb Xp Xq Xr Xs Yo Yp A28 A29 B C:Type}(f:A0->A1->A2->A3->A4->A5->A6->A7->A8->A9->Qm->Q3->R3->Sl->S8->TX->Vk->V7->V8->V9->Wa->Wb->Xp->Xq->Xr->Xs->Yo->Yp->A28->A29->C)(x:A0×A1×A2×A3×A4×A5×A6×A7×A8×A9×Qm×Q3×R3×Sl×S8×TX×Vk×V7×V8×V9×Wa×Wb×Xp×Xq×Xr×Xs×Yo×Yp×A28×A29×B):C:=f x.1 x.2.1 x.2.2.1 x.2.2.2.1 x.2.2.2.2.1 x.2.2.2.2.2.1 x.2.2.2.2.2.2.1 x.2.2.2.2.2.2.2.1 x.2.2.2.2.2.2.2.2.1 x.2.2.2.2.2.2.2.2.2.1 x.2.2.2.2.2.2.2.2.2.2.1 x.2.2.2.2.2.2.2.2.2.2.2.1 x.2.2.2.2.2.2.2.2.2.2.2.2.1 x.2.2.2.2.2.2.2.2.2.2.2.2.2.1 x.2.2.2.2.2.2.2.2.2.2.2.2.2.2.1 x.2.2.2.2.2.2.2.2.2.2.2.2.2.2.2.1 x.2.2.2.2.2.2.2.2.2.2.2.2.2.2.2.2.1 x.2.2.2.2.2.2.2.2.2.2.2.2.2.2.2.2.2.1 x.2.2.2.2.2.2.2.2.2.2.2.2.2.2.2.2.2.2.1 x.2.2.2.2.2.2.2.2.2.2.2.2.2.2.2.2.2.2.2.1 x.2.2.2.2.2.2.2.2.2.2.2.2.2.2.2.2.2.2.2.2.1 x.2.2.2.2.2.2.2.2.2.2.2.2.2.2.2.2.2.2.2.2.2.1 x.2.2.2.2.2.2.2.2.2.2.2.2.2.2.2.2.2.2.2.2.2.2.1 x.2.2.2.2.2.2.2.2.2.2.2.2.2.2.2.2.2.2.2.2.2.2.2.1 x.2.2.2.2.2.2.2.2.2.2.2.2.2.2.2.2.2.2.2.2.2.2.2.2.1 x.2.2.2.2.2.2.2.2.2.2.2.2.2.2.2.2.2.2.2.2.2.2.2.2.2.1 x.2.2.2.2.2.2.2.2.2.2.2.2.2.2.2.2.2.2.2.2.2.2.2.2.2.2.1 x.2.2.2.2.2.2.2.2.2.2.2.2.2.2.2.2.2.2.2.2.2.2.2.2.2.2.2.1 x.2.2.2.2.2.2.2.2.2.2.2.2.2.2.2.2.2.2.2.2.2.2.2.2.2.2.2.2.1 x.2.2.2.2.2.2.2.2.2.2.2.2.2.2.2.2.2.2.2.2.2.2.2.2.2.2.2.2.2.1
noncomputable def T0:List (bR×gY):=[]
theorem h0:tw Tryz.prog T0:=trivial
noncomputable def T1:List (bR×gY):=((174,[]),⟨true,[o0,o1],[o1],u2 JU⟩)::T0
theorem h1:tw Tryz.prog T1:=fk (bg 12 [] []) h0 [] trivial Tryz.func174 (by kernel_rfl) fun x=>by kernel_rfl
noncomputable def T2:List (bR×gY):=((91,[]),⟨true,[.agg [v0,v0],o1],[o1],u3 N9⟩)::T1
theorem h2:tw Tryz.prog T2:=fk (bg 18 [] []) h1 [] trivial Tryz.func91 (by kernel_rfl) fun x=>by kernel_rfl
noncomputable def T3:List (bR×gY):=((109,[]),⟨true,[o2,o1],[o1],u2 Lj⟩)::T2
theorem h3:tw Tryz.prog T3:=fk (bg 12 [] []) h2 [] trivial Tryz.func109 (by kernel_rfl) fun x=>by kernel_rfl
noncomputable def T4:List (bR×gY):=((230,[]),⟨true,[o3,o1],[o1],u2 N8⟩)::T3
theorem h4:tw Tryz.prog T4:=fk (bg 12 [] []) h3 [] trivial Tryz.func230 (by kernel_rfl) fun x=>by kernel_rfl
noncomputable def T5:List (bR×gY):=((175,[]),⟨true,[a0,o1],[o1],u4 n7⟩)::T4
theorem h5:tw Tryz.prog T5:=fk (bg 18 [] []) h4 [] trivial Tryz.func175 (by kernel_rfl) fun x=>by kernel_rfl
noncomputable def MP:ep:=⟨[(0,o4)],[(1,o1),(5,o1)],[(.ret,[(4,o1)]),(.exit 0,[(1,o1)])],xx⟩
theorem Qd:mT Tryz.prog (env 27 [] []) (lp 0 (body Tryz.f92) 0) MP:=lk (bg _ _ _) h5 (n:=0) [] trivial (by kernel_rfl) fun k x=>by kernel_rfl
noncomputable def T6:List (bR×gY):=((92,[]),⟨true,[o4,o1],[o1],u2 qS⟩)::T5
theorem h6:tw Tryz.prog T6:=fk (bg 27 [] []) h5 [(0,MP)] ⟨Qd,trivial⟩ Tryz.func92 (by kernel_rfl) fun x=>by kernel_rfl
noncomputable def T7:List (bR×gY):=((61,[]),⟨true,[o5,o1],[o1],u2 IG⟩)::T6
theorem h7:tw Tryz.prog T7:=fk (bg 12 [] []) h6 [] trivial Tryz.func61 (by kernel_rfl) fun x=>by kernel_rfl
noncomputable def T8:List (bR×gY):=((143,[]),⟨true,[a1,o1],[o1],u12 Jk⟩)::T7
theorem h8:tw Tryz.prog T8:=fk (bg 24 [] []) h7 [] trivial Tryz.func143 (by kernel_rfl) fun x=>by kernel_rfl
noncomputable def OE:ep:=⟨[(0,o6)],[(1,o1),(5,o1)],[(.ret,[(4,o1)]),(.exit 0,[(1,o1)])],IU⟩
theorem Rn:mT Tryz.prog (env 27 [] []) (lp 0 (body Tryz.f58) 0) OE:=lk (bg _ _ _) h8 (n:=0) [] trivial (by kernel_rfl) fun k x=>by kernel_rfl
noncomputable def T9:List (bR×gY):=((58,[]),⟨true,[o6,o1],[o1],u2 nw⟩)::T8
theorem h9:tw Tryz.prog T9:=fk (bg 27 [] []) h8 [(0,OE)] ⟨Rn,trivial⟩ Tryz.func58 (by kernel_rfl) fun x=>by kernel_rfl
noncomputable def T10:List (bR×gY):=((59,[]),⟨true,[o7,o1],[o1],u2 JT⟩)::T9
theorem F8:tw Tryz.prog T10:=fk (bg 12 [] []) h9 [] trivial Tryz.func59 (by kernel_rfl) fun x=>by kernel_rfl
noncomputable def T11:List (bR×gY):=((60,[]),⟨true,[o8,o1],[o1],u2 K3⟩)::T10
theorem h11:tw Tryz.prog T11:=fk (bg 12 [] []) F8 [] trivial Tryz.func60 (by kernel_rfl) fun x=>by kernel_rfl
noncomputable def T12:List (bR×gY):=((11,[]),⟨true,[a2,o1],[o1],u16 qW⟩)::T11
theorem h12:tw Tryz.prog T12:=fk (bg 30 [] []) h11 [] trivial Tryz.func11 (by kernel_rfl) fun x=>by kernel_rfl
noncomputable def OD:ep:=⟨[(0,o9)],[(1,o1),(5,o1)],[(.ret,[(4,o1)]),(.exit 0,[(1,o1)])],LR⟩
theorem Rm:mT Tryz.prog (env 27 [] []) (lp 0 (body Tryz.f34) 0) OD:=lk (bg _ _ _) h12 (n:=0) [] trivial (by kernel_rfl) fun k x=>by kernel_rfl
noncomputable def T13:List (bR×gY):=((34,[]),⟨true,[o9,o1],[o1],u2 Mr⟩)::T12
theorem h13:tw Tryz.prog T13:=fk (bg 27 [] []) h12 [(0,OD)] ⟨Rm,trivial⟩ Tryz.func34 (by kernel_rfl) fun x=>by kernel_rfl
noncomputable def T14:List (bR×gY):=((24,[]),⟨true,[a3],[a3],u8 O3⟩)::T13
theorem h14:tw Tryz.prog T14:=fk (bg 29 [] []) h13 [] trivial Tryz.func24 (by kernel_rfl) fun x=>by kernel_rfl
noncomputable def T15:List (bR×gY):=((231,[]),⟨true,[.agg [v1,v1]],[.agg [v1,v1]],u2 PD⟩)::T14
theorem h15:tw Tryz.prog T15:=fk (bg 11 [] []) h14 [] trivial Tryz.func231 (by kernel_rfl) fun x=>by kernel_rfl
noncomputable def OI:ep:=⟨[(0,o0)],[(3,o10),(4,o1)],[(.exit 0,[(3,o10)])],IZ⟩
theorem Rq:mT Tryz.prog (env 23 [] []) (lp 0 (body Tryz.f177) 0) OI:=lk (bg _ _ _) h15 (n:=0) [] trivial (by kernel_rfl) fun k x=>by kernel_rfl
noncomputable def T16:List (bR×gY):=((177,[]),⟨true,[o0],[o10],u1 J3⟩)::T15
theorem h16:tw Tryz.prog T16:=fk (bg 23 [] []) h15 [(0,OI)] ⟨Rq,trivial⟩ Tryz.func177 (by kernel_rfl) fun x=>by kernel_rfl
noncomputable def T17:List (bR×gY):=((95,[]),⟨true,[.agg [v0,v0]],[.agg [v19,v19]],u2 Ob⟩)::T16
theorem h17:tw Tryz.prog T17:=fk (bg 13 [] []) h16 [] trivial Tryz.func95 (by kernel_rfl) fun x=>by kernel_rfl
noncomputable def Pe:ep:=⟨[(0,o2)],[(3,o11),(4,o1)],[(.exit 0,[(3,o11)])],J0⟩
theorem RR:mT Tryz.prog (env 22 [] []) (lp 0 (body Tryz.f115) 0) Pe:=lk (bg _ _ _) h17 (n:=0) [] trivial (by kernel_rfl) fun k x=>by kernel_rfl
noncomputable def T18:List (bR×gY):=((115,[]),⟨true,[o2],[o11],u1 Lk⟩)::T17
theorem h18:tw Tryz.prog T18:=fk (bg 22 [] []) h17 [(0,Pe)] ⟨RR,trivial⟩ Tryz.func115 (by kernel_rfl) fun x=>by kernel_rfl
noncomputable def T19:List (bR×gY):=((261,[]),⟨true,[a4],[a4],u4 Qt⟩)::T18
theorem h19:tw Tryz.prog T19:=fk (bg 17 [] []) h18 [] trivial Tryz.func261 (by kernel_rfl) fun x=>by kernel_rfl
noncomputable def Pd:ep:=⟨[(0,o3)],[(3,o12),(4,o1)],[(.exit 0,[(3,o12)])],JW⟩
theorem RQ:mT Tryz.prog (env 23 [] []) (lp 0 (body Tryz.f232) 0) Pd:=lk (bg _ _ _) h19 (n:=0) [] trivial (by kernel_rfl) fun k x=>by kernel_rfl
noncomputable def T20:List (bR×gY):=((232,[]),⟨true,[o3],[o12],u1 Oa⟩)::T19
theorem h20:tw Tryz.prog T20:=fk (bg 23 [] []) h19 [(0,Pd)] ⟨RQ,trivial⟩ Tryz.func232 (by kernel_rfl) fun x=>by kernel_rfl
noncomputable def T21:List (bR×gY):=((178,[]),⟨true,[a0],[.agg [v1,v20,v21]],u3 II⟩)::T20
theorem h21:tw Tryz.prog T21:=fk (bg 16 [] []) h20 [] trivial Tryz.func178 (by kernel_rfl) fun x=>by kernel_rfl
noncomputable def MQ:ep:=⟨[(0,o4)],[(3,o13),(4,o1)],[(.exit 0,[(3,o13)])],JY⟩
theorem Qe:mT Tryz.prog (env 23 [] [7]) (lp 0 (body Tryz.f96) 0) MQ:=lk (bg _ _ _) h21 (n:=0) [] trivial (by kernel_rfl) fun k x=>by kernel_rfl
noncomputable def T22:List (bR×gY):=((96,[]),⟨true,[o4],[o13],u1 JX⟩)::T21
theorem h22:tw Tryz.prog T22:=fk (bg 23 [] [7]) h21 [(0,MQ)] ⟨Qe,trivial⟩ Tryz.func96 (by kernel_rfl) fun x=>by kernel_rfl
noncomputable def T23:List (bR×gY):=((218,[]),⟨true,[a5],[a5],u5 PC⟩)::T22
theorem h23:tw Tryz.prog T23:=fk (bg 20 [] []) h22 [] trivial Tryz.func218 (by kernel_rfl) fun x=>by kernel_rfl
noncomputable def T24:List (bR×gY):=((156,[]),⟨true,[a6],[a6],u7 O1⟩)::T23
theorem h24:tw Tryz.prog T24:=fk (bg 26 [] []) h23 [] trivial Tryz.func156 (by kernel_rfl) fun x=>by kernel_rfl
noncomputable def NG:ep:=⟨[(0,o5)],[(3,o14),(4,o1)],[(.exit 0,[(3,o14)])],Ii⟩
theorem QH:mT Tryz.prog (env 23 [] []) (lp 0 (body Tryz.f74) 0) NG:=lk (bg _ _ _) h24 (n:=0) [] trivial (by kernel_rfl) fun k x=>by kernel_rfl
noncomputable def T25:List (bR×gY):=((74,[]),⟨true,[o5],[o14],u1 IJ⟩)::T24
theorem h25:tw Tryz.prog T25:=fk (bg 23 [] []) h24 [(0,NG)] ⟨QH,trivial⟩ Tryz.func74 (by kernel_rfl) fun x=>by kernel_rfl
noncomputable def T26:List (bR×gY):=((153,[]),⟨true,[a1],[.agg [v19,v19,v22,v1,v1,v6,v6,v6,v1,v1,v23]],u11 Ll⟩)::T25
theorem h26:tw Tryz.prog T26:=fk (bg 27 [] []) h25 [] trivial Tryz.func153 (by kernel_rfl) fun x=>by kernel_rfl
noncomputable def OH:ep:=⟨[(0,o6)],[(3,o15),(4,o1)],[(.exit 0,[(3,o15)])],LS⟩
theorem Rp:mT Tryz.prog (env 23 [] [7]) (lp 0 (body Tryz.f71) 0) OH:=lk (bg _ _ _) h26 (n:=0) [] trivial (by kernel_rfl) fun k x=>by kernel_rfl
noncomputable def T27:List (bR×gY):=((71,[]),⟨true,[o6],[o15],u1 Mt⟩)::T26
theorem h27:tw Tryz.prog T27:=fk (bg 23 [] [7]) h26 [(0,OH)] ⟨Rp,trivial⟩ Tryz.func71 (by kernel_rfl) fun x=>by kernel_rfl
noncomputable def T28:List (bR×gY):=((219,[]),⟨true,[a7],[a7],u5 R7⟩)::T27
theorem h28:tw Tryz.prog T28:=fk (bg 20 [] []) h27 [] trivial Tryz.func219 (by kernel_rfl) fun x=>by kernel_rfl
noncomputable def T29:List (bR×gY):=((154,[]),⟨true,[a8],[a8],u13 Oj⟩)::T28
theorem h29:tw Tryz.prog T29:=fk (bg 33 [] []) h28 [] trivial Tryz.func154 (by kernel_rfl) fun x=>by kernel_rfl
noncomputable def MR:ep:=⟨[(0,o7)],[(3,o16),(4,o1)],[(.exit 0,[(3,o16)])],yx⟩
theorem Qf:mT Tryz.prog (env 23 [] []) (lp 0 (body Tryz.f72) 0) MR:=lk (bg _ _ _) h29 (n:=0) [] trivial (by kernel_rfl) fun k x=>by kernel_rfl
noncomputable def T30:List (bR×gY):=((72,[]),⟨true,[o7],[o16],u1 J2⟩)::T29
theorem h30:tw Tryz.prog T30:=fk (bg 23 [] []) h29 [(0,MR)] ⟨Qf,trivial⟩ Tryz.func72 (by kernel_rfl) fun x=>by kernel_rfl
noncomputable def T31:List (bR×gY):=((155,[]),⟨true,[a9],[a9],u7 O2⟩)::T30
theorem h31:tw Tryz.prog T31:=fk (bg 26 [] []) h30 [] trivial Tryz.func155 (by kernel_rfl) fun x=>by kernel_rfl
noncomputable def NH:ep:=⟨[(0,o8)],[(3,o17),(4,o1)],[(.exit 0,[(3,o17)])],Ik⟩
theorem QI:mT Tryz.prog (env 23 [] []) (lp 0 (body Tryz.f73) 0) NH:=lk (bg _ _ _) h31 (n:=0) [] trivial (by kernel_rfl) fun k x=>by kernel_rfl
noncomputable def T32:List (bR×gY):=((73,[]),⟨true,[o8],[o17],u1 K4⟩)::T31
theorem h32:tw Tryz.prog T32:=fk (bg 23 [] []) h31 [(0,NH)] ⟨QI,trivial⟩ Tryz.func73 (by kernel_rfl) fun x=>by kernel_rfl
noncomputable def T33:List (bR×gY):=((13,[]),⟨true,[a2],[a10],Yc J1⟩)::T32
theorem h33:tw Tryz.prog T33:=fk (bg 34 [] []) h32 [] trivial Tryz.func13 (by kernel_rfl) fun x=>by kernel_rfl
noncomputable def OG:ep:=⟨[(0,o9)],[(3,o18),(4,o1)],[(.exit 0,[(3,o18)])],IW⟩
theorem Ro:mT Tryz.prog (env 23 [] [7]) (lp 0 (body Tryz.f36) 0) OG:=lk (bg _ _ _) h33 (n:=0) [] trivial (by kernel_rfl) fun k x=>by kernel_rfl
noncomputable def T34:List (bR×gY):=((36,[]),⟨true,[o9],[o18],u1 Ms⟩)::T33
theorem h34:tw Tryz.prog T34:=fk (bg 23 [] [7]) h33 [(0,OG)] ⟨Ro,trivial⟩ Tryz.func36 (by kernel_rfl) fun x=>by kernel_rfl
noncomputable def T35:List (bR×gY):=((63,[]),⟨true,[o1,o1,o1],[o19],u3 bt⟩)::T34
theorem h35:tw Tryz.prog T35:=fk (bg 15 [] []) h34 [] trivial Tryz.func63 (by kernel_rfl) fun x=>by kernel_rfl
noncomputable def T36:List (bR×gY):=((62,[]),⟨true,[a3],[o19],u8 Ke⟩)::T35
theorem h36:tw Tryz.prog T36:=fk (bg 41 [] []) h35 [] trivial Tryz.func62 (by kernel_rfl) fun x=>by kernel_rfl
noncomputable def T37:List (bR×gY):=((64,[]),⟨true,[o1],[o19],u1 m7⟩)::T36
theorem h37:tw Tryz.prog T37:=fk (bg 5 [] []) h36 [] trivial Tryz.func64 (by kernel_rfl) fun x=>by kernel_rfl
noncomputable def T38:List (bR×gY):=((149,[]),⟨true,[o1],[o19],u1 kB⟩)::T37
theorem h38:tw Tryz.prog T38:=fk (bg 5 [] []) h37 [] trivial Tryz.func149 (by kernel_rfl) fun x=>by kernel_rfl
noncomputable def T39:List (bR×gY):=((214,[]),⟨true,[o1],[o19],u1 My⟩)::T38
theorem h39:tw Tryz.prog T39:=fk (bg 5 [] []) h38 [] trivial Tryz.func214 (by kernel_rfl) fun x=>by kernel_rfl
noncomputable def T40:List (bR×gY):=((144,[]),⟨true,[a9],[o19],u7 J6⟩)::T39
theorem h40:tw Tryz.prog T40:=fk (bg 45 [] []) h39 [] trivial Tryz.func144 (by kernel_rfl) fun x=>by kernel_rfl
noncomputable def NK:ep:=⟨[(0,o20)],[(3,o1)],[(.ret,[(2,o19)]),(.exit 0,[])],KK⟩
theorem QL:mT Tryz.prog (env 19 [] []) (lp 0 (body Tryz.f65) 0) NK:=lk (bg _ _ _) h40 (n:=0) [] trivial (by kernel_rfl) fun k x=>by kernel_rfl
noncomputable def T41:List (bR×gY):=((65,[]),⟨true,[o20],[o19],u1 K5⟩)::T40
theorem h41:tw Tryz.prog T41:=fk (bg 19 [] []) h40 [(0,NK)] ⟨QL,trivial⟩ Tryz.func65 (by kernel_rfl) fun x=>by kernel_rfl
noncomputable def T42:List (bR×gY):=((145,[]),⟨true,[a6],[o19],u7 Mw⟩)::T41
theorem h42:tw Tryz.prog T42:=fk (bg 36 [] []) h41 [] trivial Tryz.func145 (by kernel_rfl) fun x=>by kernel_rfl
noncomputable def MT:ep:=⟨[(0,o21)],[(3,o1)],[(.ret,[(2,o19)]),(.exit 0,[])],J8⟩
theorem Qh:mT Tryz.prog (env 73 [] []) (lp 0 (body Tryz.f66) 0) MT:=lk (bg _ _ _) h42 (n:=0) [] trivial (by kernel_rfl) fun k x=>by kernel_rfl
noncomputable def T43:List (bR×gY):=((66,[]),⟨true,[o21],[o19],u1 r3⟩)::T42
theorem h43:tw Tryz.prog T43:=fk (bg 73 [] []) h42 [(0,MT)] ⟨Qh,trivial⟩ Tryz.func66 (by kernel_rfl) fun x=>by kernel_rfl
noncomputable def ON:ep:=⟨[(0,o22),(1,o1)],[(5,o1)],[(.ret,[(4,o19)]),(.exit 0,[])],L5⟩
theorem Rv:mT Tryz.prog (env 51 [] []) (lp 0 (body Tryz.f215) 0) ON:=lk (bg _ _ _) h43 (n:=0) [] trivial (by kernel_rfl) fun k x=>by kernel_rfl
noncomputable def T44:List (bR×gY):=((215,[]),⟨true,[o22,o1],[o19],u2 Kd⟩)::T43
theorem h44:tw Tryz.prog T44:=fk (bg 51 [] []) h43 [(0,ON)] ⟨Rv,trivial⟩ Tryz.func215 (by kernel_rfl) fun x=>by kernel_rfl
noncomputable def T45:List (bR×gY):=((146,[]),⟨true,[a11],[o19],u2 BE⟩)::T44
theorem h45:tw Tryz.prog T45:=fk (bg 11 [] []) h44 [] trivial Tryz.func146 (by kernel_rfl) fun x=>by kernel_rfl
noncomputable def NR:ep:=⟨[(1,.ro t21),(3,o1),(4,o1)],[(5,a12),(6,o1)],[(.ret,[(2,o19)]),(.exit 2,[(5,a12)])],Iq⟩
theorem QU:mT Tryz.prog (env 70 [] []) (lp 0 (lp 0 (body Tryz.f252) 0) 0) NR:=lk (bg _ _ _) h45 (n:=2) [] trivial (by kernel_rfl) fun k x=>by kernel_rfl
noncomputable def NQ:ep:=⟨[(1,.ro t21)],[(3,o1),(4,o1)],[(.ret,[(2,o19)]),(.exit 0,[(3,o1)])],KT⟩
theorem QT:mT Tryz.prog (env 70 [] []) (lp 0 (body Tryz.f252) 0) NQ:=lk (bg _ _ _) h45 (n:=0) [(2,NR)] ⟨QU,trivial⟩ (by kernel_rfl) fun k x=>by kernel_rfl
noncomputable def T46:List (bR×gY):=((252,[]),⟨true,[a13],[o19],u3 K8⟩)::T45
theorem h46:tw Tryz.prog T46:=fk (bg 70 [] []) h45 [(0,NQ)] ⟨QT,trivial⟩ Tryz.func252 (by kernel_rfl) fun x=>by kernel_rfl
noncomputable def NJ:ep:=⟨[(1,.ro t21),(3,o1)],[(4,o19),(5,o1)],[(.exit 2,[(4,o19)])],KI⟩
theorem QK:mT Tryz.prog (env 74 [] []) (lp 0 (lp 0 (body Tryz.f205) 0) 0) NJ:=lk (bg _ _ _) h46 (n:=2) [] trivial (by kernel_rfl) fun k x=>by kernel_rfl
noncomputable def NI:ep:=⟨[(1,.ro t21)],[(3,o1)],[(.ret,[(2,o19)]),(.exit 0,[])],KH⟩
theorem QJ:mT Tryz.prog (env 74 [] []) (lp 0 (body Tryz.f205) 0) NI:=lk (bg _ _ _) h46 (n:=0) [(2,NJ)] ⟨QK,trivial⟩ (by kernel_rfl) fun k x=>by kernel_rfl
noncomputable def T47:List (bR×gY):=((205,[]),⟨true,[a13],[o19],u3 IK⟩)::T46
theorem h47:tw Tryz.prog T47:=fk (bg 74 [] []) h46 [(0,NI)] ⟨QJ,trivial⟩ Tryz.func205 (by kernel_rfl) fun x=>by kernel_rfl
noncomputable def Pk:ep:=⟨[(1,o1),(2,.ro t21)],[(5,o1)],[(.ret,[(4,o1)]),(.exit 0,[])],Ni⟩
theorem RW:mT Tryz.prog (env 26 [] []) (lp 0 (body Tryz.f216) 0) Pk:=lk (bg _ _ _) h47 (n:=0) [] trivial (by kernel_rfl) fun k x=>by kernel_rfl
noncomputable def T48:List (bR×gY):=((216,[]),⟨true,[a13,o1],[o1],u4 Lq⟩)::T47
theorem h48:tw Tryz.prog T48:=fk (bg 26 [] []) h47 [(0,Pk)] ⟨RW,trivial⟩ Tryz.func216 (by kernel_rfl) fun x=>by kernel_rfl
noncomputable def Ph:ep:=⟨[(0,o23),(3,o1),(4,o1)],[(5,o1)],[(.ret,[(2,o19)]),(.exit 4,[])],Ng⟩
theorem RU:mT Tryz.prog (env 52 [] []) (lp 2 (lp 0 (lp 0 (body Tryz.f147) 0) 0) 0) Ph:=lk (bg _ _ _) h48 (n:=4) [] trivial (by kernel_rfl) fun k x=>by kernel_rfl
noncomputable def Pg:ep:=⟨[(0,o23),(3,o1)],[(4,o1)],[(.ret,[(2,o19)]),(.exit 2,[])],Nf⟩
theorem RT:mT Tryz.prog (env 52 [] []) (lp 0 (lp 0 (body Tryz.f147) 0) 0) Pg:=lk (bg _ _ _) h48 (n:=2) [(4,Ph)] ⟨RU,trivial⟩ (by kernel_rfl) fun k x=>by kernel_rfl
noncomputable def Pf:ep:=⟨[(0,o23)],[(3,o1)],[(.ret,[(2,o19)]),(.exit 0,[])],Nd⟩
theorem RS:mT Tryz.prog (env 52 [] []) (lp 0 (body Tryz.f147) 0) Pf:=lk (bg _ _ _) h48 (n:=0) [(2,Pg)] ⟨RT,trivial⟩ (by kernel_rfl) fun k x=>by kernel_rfl
noncomputable def T49:List (bR×gY):=((147,[]),⟨true,[o23],[o19],u1 Lp⟩)::T48
theorem h49:tw Tryz.prog T49:=fk (bg 52 [] []) h48 [(0,Pf)] ⟨RS,trivial⟩ Tryz.func147 (by kernel_rfl) fun x=>by kernel_rfl
noncomputable def T50:List (bR×gY):=((217,[]),⟨true,[a5],[o19],u5 PS⟩)::T49
theorem h50:tw Tryz.prog T50:=fk (bg 9 [] []) h49 [] trivial Tryz.func217 (by kernel_rfl) fun x=>by kernel_rfl
noncomputable def T51:List (bR×gY):=((148,[]),⟨true,[a5],[o19],u5 Jm⟩)::T50
theorem h51:tw Tryz.prog T51:=fk (bg 88 [] []) h50 [] trivial Tryz.func148 (by kernel_rfl) fun x=>by kernel_rfl
noncomputable def T52:List (bR×gY):=((67,[]),⟨true,[a14,o1],[o19],u16 Kk⟩)::T51
theorem h52:tw Tryz.prog T52:=fk (bg 95 [] []) h51 [] trivial Tryz.func67 (by kernel_rfl) fun x=>by kernel_rfl
noncomputable def T53:List (bR×gY):=((150,[]),⟨true,[a14,o1],[o19],u16 r6⟩)::T52
theorem h53:tw Tryz.prog T53:=fk (bg 35 [] []) h52 [] trivial Tryz.func150 (by kernel_rfl) fun x=>by kernel_rfl
noncomputable def T54:List (bR×gY):=((151,[]),⟨true,[a7],[o19],u5 Od⟩)::T53
theorem h54:tw Tryz.prog T54:=fk (bg 26 [] []) h53 [] trivial Tryz.func151 (by kernel_rfl) fun x=>by kernel_rfl
noncomputable def T55:List (bR×gY):=((152,[]),⟨true,[a14,o1],[o1],u16 IL⟩)::T54
theorem h55:tw Tryz.prog T55:=fk (bg 21 [] []) h54 [] trivial Tryz.func152 (by kernel_rfl) fun x=>by kernel_rfl
noncomputable def T56:List (bR×gY):=((68,[]),⟨true,[a14,o1],[o19],u16 Iu⟩)::T55
theorem ZX:tw Tryz.prog T56:=fk (bg 142 [] []) h55 [] trivial Tryz.func68 (by kernel_rfl) fun x=>by kernel_rfl
noncomputable def Mb:ep:=⟨[(1,.ro t27),(4,o1),(5,o1),(6,o24)],[(3,o1),(7,o1)],[(.ret,[(2,o19)]),(.exit 4,[(3,o1)])],Jf⟩
theorem PJ:mT Tryz.prog (env 126 [] []) (lp 2 (lp 0 (lp 0 (body Tryz.f69) 0) 0) 0) Mb:=lk (bg _ _ _) ZX (n:=4) [] trivial (by kernel_rfl) fun k x=>by kernel_rfl
noncomputable def Ma:ep:=⟨[(1,.ro t27),(4,o1)],[(3,o1),(5,o1)],[(.ret,[(2,o19)]),(.exit 2,[(3,o1)])],Je⟩
theorem PI:mT Tryz.prog (env 126 [] []) (lp 0 (lp 0 (body Tryz.f69) 0) 0) Ma:=lk (bg _ _ _) ZX (n:=2) [(4,Mb)] ⟨PJ,trivial⟩ (by kernel_rfl) fun k x=>by kernel_rfl
noncomputable def L9:ep:=⟨[(1,.ro t27)],[(3,o1),(4,o1)],[(.ret,[(2,o19)]),(.exit 0,[(3,o1)])],Nm⟩
theorem PG:mT Tryz.prog (env 126 [] []) (lp 0 (body Tryz.f69) 0) L9:=lk (bg _ _ _) ZX (n:=0) [(2,Ma)] ⟨PI,trivial⟩ (by kernel_rfl) fun k x=>by kernel_rfl
noncomputable def Mc:ep:=⟨[(1,.ro t27)],[(3,o1),(10,o1)],[(.exit 6,[(3,o1)])],Nn⟩
theorem PK:mT Tryz.prog (env 126 [] []) (lp 0 (body Tryz.f69) 1) Mc:=lk (bg _ _ _) ZX (n:=6) [] trivial (by kernel_rfl) fun k x=>by kernel_rfl
noncomputable def T57:List (bR×gY):=((69,[]),⟨true,[a14],[o19],Yc I3⟩)::T56
theorem h57:tw Tryz.prog T57:=fk (bg 126 [] []) ZX [(0,L9),(6,Mc)] ⟨PG,PK,trivial⟩ Tryz.func69 (by kernel_rfl) fun x=>by kernel_rfl
noncomputable def OP:ep:=⟨[(1,.ro t27)],[(3,o1),(4,o1)],[(.exit 0,[(3,o1)])],Ps⟩
theorem Rx:mT Tryz.prog (env 33 [] []) (lp 0 (body Tryz.f70) 0) OP:=lk (bg _ _ _) h57 (n:=0) [] trivial (by kernel_rfl) fun k x=>by kernel_rfl
noncomputable def T58:List (bR×gY):=((70,[]),⟨true,[a14],[o1],Yc Mz⟩)::T57
theorem h58:tw Tryz.prog T58:=fk (bg 33 [] []) h57 [(0,OP)] ⟨Rx,trivial⟩ Tryz.func70 (by kernel_rfl) fun x=>by kernel_rfl
noncomputable def MU:ep:=⟨[(1,.ro t27)],[(3,o1)],[(.ret,[(2,o19)]),(.exit 0,[])],Oe⟩
theorem Qi:mT Tryz.prog (env 83 [] []) (lp 0 (body Tryz.f12) 0) MU:=lk (bg _ _ _) h58 (n:=0) [] trivial (by kernel_rfl) fun k x=>by kernel_rfl
noncomputable def MV:ep:=⟨[(1,.ro t27)],[(4,o1)],[(.ret,[(2,o19)]),(.exit 2,[])],Of⟩
theorem Qj:mT Tryz.prog (env 83 [] []) (lp 0 (body Tryz.f12) 1) MV:=lk (bg _ _ _) h58 (n:=2) [] trivial (by kernel_rfl) fun k x=>by kernel_rfl
noncomputable def T59:List (bR×gY):=((12,[]),⟨true,[a14],[o19],Yc J9⟩)::T58
theorem h59:tw Tryz.prog T59:=fk (bg 83 [] []) h58 [(0,MU),(2,MV)] ⟨Qi,Qj,trivial⟩ Tryz.func12 (by kernel_rfl) fun x=>by kernel_rfl
noncomputable def Md:ep:=⟨[(1,o1),(2,.ro t27)],[(5,o1),(6,o1)],[(.exit 0,[(5,o1)])],Jg⟩
theorem PL:mT Tryz.prog (env 40 [] []) (lp 0 (body Tryz.f110) 0) Md:=lk (bg _ _ _) h59 (n:=0) [] trivial (by kernel_rfl) fun k x=>by kernel_rfl
noncomputable def T60:List (bR×gY):=((110,[]),⟨true,[a14,o1],[o1],u16 I4⟩)::T59
theorem h60:tw Tryz.prog T60:=fk (bg 40 [] []) h59 [(0,Md)] ⟨PL,trivial⟩ Tryz.func110 (by kernel_rfl) fun x=>by kernel_rfl
noncomputable def MW:ep:=⟨[(0,o22),(1,o1)],[(5,o1)],[(.ret,[(4,o19)]),(.exit 0,[])],Ki⟩
theorem Qk:mT Tryz.prog (env 28 [] []) (lp 0 (body Tryz.f238) 0) MW:=lk (bg _ _ _) h60 (n:=0) [] trivial (by kernel_rfl) fun k x=>by kernel_rfl
noncomputable def T61:List (bR×gY):=((238,[]),⟨true,[o22,o1],[o19],u2 B1⟩)::T60
theorem h61:tw Tryz.prog T61:=fk (bg 28 [] []) h60 [(0,MW)] ⟨Qk,trivial⟩ Tryz.func238 (by kernel_rfl) fun x=>by kernel_rfl
noncomputable def T62:List (bR×gY):=((187,[]),⟨true,[a11,o1],[o19],u3 Kg⟩)::T61
theorem h62:tw Tryz.prog T62:=fk (bg 17 [] []) h61 [] trivial Tryz.func187 (by kernel_rfl) fun x=>by kernel_rfl
noncomputable def MS:ep:=⟨[(3,.ro t32)],[(2,o1),(8,o1)],[(.exit 0,[(2,o1),(8,o1)])],n4⟩
theorem Qg:mT Tryz.prog (env 34 [] []) (lp 0 (body Tryz.f112) 0) MS:=lk (bg _ _ _) h62 (n:=0) [] trivial (by kernel_rfl) fun k x=>by kernel_rfl
noncomputable def T63:List (bR×gY):=((112,[]),⟨true,[a11,o1,o1],[o1,o19],u4 gy⟩)::T62
theorem h63:tw Tryz.prog T63:=fk (bg 34 [] []) h62 [(0,MS)] ⟨Qg,trivial⟩ Tryz.func112 (by kernel_rfl) fun x=>by kernel_rfl
noncomputable def T64:List (bR×gY):=((237,[]),⟨true,[a11,a3,o1,o1],[o1,o19],u12 I0⟩)::T63
theorem GO:tw Tryz.prog T64:=fk (bg 37 [] []) h63 [] trivial Tryz.func237 (by kernel_rfl) fun x=>by kernel_rfl
noncomputable def T65:List (bR×gY):=((186,[]),⟨true,[a11,a3,o1,o1,o1],[o19],u13 Kc⟩)::T64
theorem h65:tw Tryz.prog T65:=fk (bg 28 [] []) GO [] trivial Tryz.func186 (by kernel_rfl) fun x=>by kernel_rfl
noncomputable def Me:ep:=⟨[(1,o1),(2,.ro t27)],[(5,o1),(6,o1)],[(.exit 0,[(5,o1)])],Jh⟩
theorem PM:mT Tryz.prog (env 51 [] []) (lp 0 (body Tryz.f111) 0) Me:=lk (bg _ _ _) h65 (n:=0) [] trivial (by kernel_rfl) fun k x=>by kernel_rfl
noncomputable def T66:List (bR×gY):=((111,[]),⟨true,[a14,o1],[o1],u16 I5⟩)::T65
theorem h66:tw Tryz.prog T66:=fk (bg 51 [] []) h65 [(0,Me)] ⟨PM,trivial⟩ Tryz.func111 (by kernel_rfl) fun x=>by kernel_rfl
noncomputable def T67:List (bR×gY):=((113,[]),⟨true,[a11,o1],[o19],u3 Oc⟩)::T66
theorem h67:tw Tryz.prog T67:=fk (bg 16 [] []) h66 [] trivial Tryz.func113 (by kernel_rfl) fun x=>by kernel_rfl
noncomputable def OL:ep:=⟨[(1,.ro t40),(3,o1)],[(4,o1)],[(.ret,[(2,o19)]),(.exit 2,[])],L2⟩
theorem Rt:mT Tryz.prog (env 109 [] []) (lp 0 (lp 0 (body Tryz.f114) 0) 0) OL:=lk (bg _ _ _) h67 (n:=2) [] trivial (by kernel_rfl) fun k x=>by kernel_rfl
noncomputable def OK:ep:=⟨[(1,.ro t40)],[(3,o1)],[(.ret,[(2,o19)]),(.exit 0,[])],L1⟩
theorem Rs:mT Tryz.prog (env 109 [] []) (lp 0 (body Tryz.f114) 0) OK:=lk (bg _ _ _) h67 (n:=0) [(2,OL)] ⟨Rt,trivial⟩ (by kernel_rfl) fun k x=>by kernel_rfl
noncomputable def OM:ep:=⟨[(1,.ro t40)],[(5,o1)],[(.ret,[(2,o19)]),(.exit 4,[])],L3⟩
theorem Ru:mT Tryz.prog (env 109 [] []) (lp 0 (body Tryz.f114) 1) OM:=lk (bg _ _ _) h67 (n:=4) [] trivial (by kernel_rfl) fun k x=>by kernel_rfl
noncomputable def T68:List (bR×gY):=((114,[]),⟨true,[a15],[o19],u4 Ip⟩)::T67
theorem Yk:tw Tryz.prog T68:=fk (bg 109 [] []) h67 [(0,OK),(4,OM)] ⟨Rs,Ru,trivial⟩ Tryz.func114 (by kernel_rfl) fun x=>by kernel_rfl
noncomputable def NL:ep:=⟨[(1,o9),(2,o1),(3,.ro t27)],[(6,a16),(9,o1)],[(.ret,[(6,a16),(7,o11),(8,o19)]),(.exit 0,[(6,a16)])],KN⟩
theorem QM:mT Tryz.prog (env 169 [] [160]) (lp 0 (body Tryz.f35) 0) NL:=lk (bg _ _ _) Yk (n:=0) [] trivial (by kernel_rfl) fun k x=>by kernel_rfl
noncomputable def NN:ep:=⟨[(1,o9),(2,o1),(3,.ro t27),(13,o1)],[(6,a16),(10,a16),(11,o11),(12,o11),(14,a17)],[(.exit 4,[(6,a16),(10,a16),(11,o11),(12,o11),(14,a17)])],r5⟩
theorem QO:mT Tryz.prog (env 169 [] [160]) (lp 2 (lp 0 (body Tryz.f35) 1) 0) NN:=lk (bg _ _ _) Yk (n:=4) [] trivial (by kernel_rfl) fun k x=>by kernel_rfl
noncomputable def NM:ep:=⟨[(1,o9),(2,o1),(3,.ro t27)],[(6,a16),(10,a16),(11,o11),(12,o11),(13,o1)],[(.ret,[(6,a16),(7,o11),(8,o19)]),(.exit 2,[(6,a16),(10,a16),(11,o11),(12,o11)])],KO⟩
theorem QN:mT Tryz.prog (env 169 [] [160]) (lp 0 (body Tryz.f35) 1) NM:=lk (bg _ _ _) Yk (n:=2) [(4,NN)] ⟨QO,trivial⟩ (by kernel_rfl) fun k x=>by kernel_rfl
noncomputable def NP:ep:=⟨[(1,o9),(17,o1)],[(6,a16),(10,a16),(11,o11),(12,o11),(18,o11),(19,o1)],[(.exit 8,[(6,a16),(10,a16),(11,o11),(12,o11),(18,o11)])],KQ⟩
theorem QS:mT Tryz.prog (env 169 [] [160]) (lp 6 (lp 0 (body Tryz.f35) 2) 0) NP:=lk (bg _ _ _) Yk (n:=8) [] trivial (by kernel_rfl) fun k x=>by kernel_rfl
noncomputable def NO:ep:=⟨[(1,o9)],[(6,a16),(10,a16),(11,o11),(12,o11),(17,o1)],[(.exit 6,[(6,a16),(10,a16),(11,o11)])],KP⟩
theorem QR:mT Tryz.prog (env 169 [] [160]) (lp 0 (body Tryz.f35) 2) NO:=lk (bg _ _ _) Yk (n:=6) [(8,NP)] ⟨QS,trivial⟩ (by kernel_rfl) fun k x=>by kernel_rfl
noncomputable def T69:List (bR×gY):=((35,[]),⟨true,[a14,o9,o1],[a18,o11,o19],Z8 K7⟩)::T68
theorem h69:tw Tryz.prog T69:=fk (bg 169 [] [160]) Yk [(0,NL),(2,NM),(6,NO)] ⟨QM,QN,QR,trivial⟩ Tryz.func35 (by kernel_rfl) fun x=>by kernel_rfl
noncomputable def Pm:ep:=⟨[(0,o2),(1,o1)],[(5,o1)],[(.ret,[(4,o19)]),(.exit 0,[])],Nk⟩
theorem RX:mT Tryz.prog (env 18 [] []) (lp 0 (body Tryz.f264) 0) Pm:=lk (bg _ _ _) h69 (n:=0) [] trivial (by kernel_rfl) fun k x=>by kernel_rfl
noncomputable def T70:List (bR×gY):=((264,[]),⟨true,[o2,o1],[o19],u2 Lr⟩)::T69
theorem h70:tw Tryz.prog T70:=fk (bg 18 [] []) h69 [(0,Pm)] ⟨RX,trivial⟩ Tryz.func264 (by kernel_rfl) fun x=>by kernel_rfl
noncomputable def ia(rec:(List (List (Int)))->(List (Int))->Int->Option ((List (List (Int)))×Unit)):gY:=⟨false,[o25,o2,o1],[o25],u3 rec⟩
noncomputable def MX(rec:(List (List (Int)))->(List (Int))->Int->Option ((List (List (Int)))×Unit)):ep:=⟨[(1,o2),(2,o1)],[(0,o25),(7,o1)],[(.exit 0,[(0,o25)])],n5 rec⟩
theorem Ql(rec:(List (List (Int)))->(List (Int))->Int->Option ((List (List (Int)))×Unit))(hr:eK Tryz.prog 247 (ia rec)):mT Tryz.prog (env 31 [] []) (lp 0 (body Tryz.f247) 0) (MX rec):=lk (bg _ _ _) (T:=((247,[]),ia rec)::T70) ⟨hr,h70⟩ (n:=0) [] trivial (by kernel_rfl) fun k x=>by kernel_rfl
theorem QZ(rec:(List (List (Int)))->(List (Int))->Int->Option ((List (List (Int)))×Unit))(hr:eK Tryz.prog 247 (ia rec)):eK Tryz.prog 247 (ia (mm rec)):=(fk (ks:=[]) (bg 31 [] []) (T:=((247,[]),ia rec)::T70) ⟨hr,h70⟩ [(0,MX rec)] ⟨(Ql rec hr),trivial⟩ Tryz.func247 (by kernel_rfl) fun x=>by kernel_rfl).1
noncomputable def T71:List (bR×gY):=((247,[]),ia Nl)::T70
theorem h71:tw Tryz.prog T71:=⟨C9 (F:=fun n=>ia (hD n)) (B5 (fn:=Tryz.f247) (c:=body Tryz.f247) Tryz.func247 (by kernel_rfl) (by kernel_rfl) (fun _=>rfl)) (fun n h=>QZ (hD n) h) big,h70⟩
noncomputable def OJ:ep:=⟨[(1,o2),(2,.ro t40)],[(5,o1)],[(.ret,[(4,o19)]),(.exit 0,[])],LX⟩
theorem Rr:mT Tryz.prog (env 35 [] []) (lp 0 (body Tryz.f291) 0) OJ:=lk (bg _ _ _) h71 (n:=0) [] trivial (by kernel_rfl) fun k x=>by kernel_rfl
noncomputable def T72:List (bR×gY):=((291,[]),⟨true,[a15,o2],[o19],u5 Mx⟩)::T71
theorem h72:tw Tryz.prog T72:=fk (bg 35 [] []) h71 [(0,OJ)] ⟨Rr,trivial⟩ Tryz.func291 (by kernel_rfl) fun x=>by kernel_rfl
noncomputable def NS:ep:=⟨[(1,o2),(2,.ro t40)],[(4,a19),(6,a19),(7,o1),(8,o1)],[(.exit 0,[(4,a19),(6,a19),(7,o1)])],KU⟩
theorem QV:mT Tryz.prog (env 134 [] []) (lp 0 (body Tryz.f265) 0) NS:=lk (bg _ _ _) h72 (n:=0) [] trivial (by kernel_rfl) fun k x=>by kernel_rfl
noncomputable def NT:ep:=⟨[(1,o2),(2,.ro t40)],[(4,a19),(6,a19),(7,o1),(9,o1),(10,o1)],[(.ret,[(4,a19),(5,o19)]),(.exit 2,[(4,a19),(6,a19),(9,o1)])],KV⟩
theorem QW:mT Tryz.prog (env 134 [] []) (lp 0 (body Tryz.f265) 1) NT:=lk (bg _ _ _) h72 (n:=2) [] trivial (by kernel_rfl) fun k x=>by kernel_rfl
noncomputable def T73:List (bR×gY):=((265,[]),⟨true,[a15,o2],[a20,o19],u5 K9⟩)::T72
theorem h73:tw Tryz.prog T73:=fk (bg 134 [] []) h72 [(0,NS),(2,NT)] ⟨QV,QW,trivial⟩ Tryz.func265 (by kernel_rfl) fun x=>by kernel_rfl
noncomputable def T74:List (bR×gY):=((248,[]),⟨true,[a15,o2],[o11,o1,o19],u5 R1⟩)::T73
theorem h74:tw Tryz.prog T74:=fk (bg 21 [] []) h73 [] trivial Tryz.func248 (by kernel_rfl) fun x=>by kernel_rfl
noncomputable def OO:ep:=⟨[(1,o1),(2,.ro t40)],[(7,o2),(8,o1),(9,o19),(10,o25),(11,o1)],[(.exit 0,[(7,o2),(8,o1),(9,o19)])],I2⟩
theorem Rw:mT Tryz.prog (env 86 [] []) (lp 0 (body Tryz.f196) 0) OO:=lk (bg _ _ _) h74 (n:=0) [] trivial (by kernel_rfl) fun k x=>by kernel_rfl
noncomputable def T75:List (bR×gY):=((196,[]),⟨false,[a15,o1],[o2,o1,o19],u5 Ir⟩)::T74
theorem h75:tw Tryz.prog T75:=fk (bg 86 [] []) h74 [(0,OO)] ⟨Rw,trivial⟩ Tryz.func196 (by kernel_rfl) fun x=>by kernel_rfl
noncomputable def T76:List (bR×gY):=((126,[]),⟨false,[a15],[o2,o1,o19],u4 K6⟩)::T75
theorem h76:tw Tryz.prog T76:=fk (bg 17 [] []) h75 [] trivial Tryz.func126 (by kernel_rfl) fun x=>by kernel_rfl
noncomputable def Pj:ep:=⟨[(11,o2)],[(9,o11),(14,o11),(15,o1)],[(.exit 0,[(14,o11)])],Nh⟩
theorem RV:mT Tryz.prog (env 50 [] []) (lp 0 (body Tryz.f51) 0) Pj:=lk (bg _ _ _) h76 (n:=0) [] trivial (by kernel_rfl) fun k x=>by kernel_rfl
noncomputable def T77:List (bR×gY):=((51,[]),⟨true,[a14,o9,o1],[o11,o19],Z8 Og⟩)::T76
theorem h77:tw Tryz.prog T77:=fk (bg 50 [] []) h76 [(0,Pj)] ⟨RV,trivial⟩ Tryz.func51 (by kernel_rfl) fun x=>by kernel_rfl
noncomputable def T78:List (bR×gY):=((76,[]),⟨true,[o1,o1,o1],[o19],u3 bu⟩)::T77
theorem h78:tw Tryz.prog T78:=fk (bg 15 [] []) h77 [] trivial Tryz.func76 (by kernel_rfl) fun x=>by kernel_rfl
noncomputable def T79:List (bR×gY):=((75,[]),⟨true,[a3],[o19],u8 JA⟩)::T78
theorem h79:tw Tryz.prog T79:=fk (bg 41 [] []) h78 [] trivial Tryz.func75 (by kernel_rfl) fun x=>by kernel_rfl
noncomputable def T80:List (bR×gY):=((77,[]),⟨true,[o1],[o19],u1 kk⟩)::T79
theorem h80:tw Tryz.prog T80:=fk (bg 5 [] []) h79 [] trivial Tryz.func77 (by kernel_rfl) fun x=>by kernel_rfl
noncomputable def T81:List (bR×gY):=((78,[]),⟨true,[o1],[o19],u1 gn⟩)::T80
theorem h81:tw Tryz.prog T81:=fk (bg 5 [] []) h80 [] trivial Tryz.func78 (by kernel_rfl) fun x=>by kernel_rfl
noncomputable def T82:List (bR×gY):=((164,[]),⟨true,[o1],[o19],u1 hU⟩)::T81
theorem h82:tw Tryz.prog T82:=fk (bg 5 [] []) h81 [] trivial Tryz.func164 (by kernel_rfl) fun x=>by kernel_rfl
noncomputable def T83:List (bR×gY):=((159,[]),⟨true,[a9],[o19],u7 Ex⟩)::T82
theorem h83:tw Tryz.prog T83:=fk (bg 45 [] []) h82 [] trivial Tryz.func159 (by kernel_rfl) fun x=>by kernel_rfl
noncomputable def T84:List (bR×gY):=((158,[]),⟨true,[a9],[o19],u7 Lt⟩)::T83
theorem h84:tw Tryz.prog T84:=fk (bg 6 [] []) h83 [] trivial Tryz.func158 (by kernel_rfl) fun x=>by kernel_rfl
noncomputable def ey:ep:=⟨[(0,o20),(1,.fn 158 []),(7,o1)],[(8,o1)],[(.ret,[(4,o1)]),(.exit 0,[])],c6⟩
theorem hM:mT Tryz.prog (env 19 [] []) (lp 0 (body Tryz.f220) 0) ey:=lk (bg _ _ _) h84 (n:=0) [] trivial (by kernel_rfl) fun k x=>by kernel_rfl
noncomputable def T85:List (bR×gY):=((220,[158]),⟨true,[o20,.fn 158 []],[o1],u1 eg⟩)::T84
theorem h85:tw Tryz.prog T85:=fk (bg 19 [] []) h84 [(0,ey)] ⟨hM,trivial⟩ Tryz.func220 (by kernel_rfl) fun x=>by kernel_rfl
noncomputable def T86:List (bR×gY):=((157,[158]),⟨true,[o20,.fn 158 []],[o19],u1 cy⟩)::T85
theorem h86:tw Tryz.prog T86:=fk (bg 9 [] []) h85 [] trivial Tryz.func157 (by kernel_rfl) fun x=>by kernel_rfl
noncomputable def T87:List (bR×gY):=((79,[]),⟨true,[o20],[o19],u1 KW⟩)::T86
theorem h87:tw Tryz.prog T87:=fk (bg 11 [] []) h86 [] trivial Tryz.func79 (by kernel_rfl) fun x=>by kernel_rfl
noncomputable def T88:List (bR×gY):=((160,[]),⟨true,[a6],[o19],u7 Mh⟩)::T87
theorem h88:tw Tryz.prog T88:=fk (bg 36 [] []) h87 [] trivial Tryz.func160 (by kernel_rfl) fun x=>by kernel_rfl
noncomputable def MF:ep:=⟨[(0,o21),(9,o21),(10,o1)],[(11,o1)],[(.ret,[(2,o19)]),(.exit 0,[])],Ju⟩
theorem P3:mT Tryz.prog (env 53 [] []) (lp 0 (body Tryz.f80) 0) MF:=lk (bg _ _ _) h88 (n:=0) [] trivial (by kernel_rfl) fun k x=>by kernel_rfl
noncomputable def T89:List (bR×gY):=((80,[]),⟨true,[o21],[o19],u1 qe⟩)::T88
theorem h89:tw Tryz.prog T89:=fk (bg 53 [] []) h88 [(0,MF)] ⟨P3,trivial⟩ Tryz.func80 (by kernel_rfl) fun x=>by kernel_rfl
noncomputable def Ou:ep:=⟨[(0,o22),(1,o1),(10,o22),(11,o1)],[(12,o1)],[(.ret,[(4,o19)]),(.exit 0,[])],LB⟩
theorem Rd:mT Tryz.prog (env 49 [] []) (lp 0 (body Tryz.f221) 0) Ou:=lk (bg _ _ _) h89 (n:=0) [] trivial (by kernel_rfl) fun k x=>by kernel_rfl
noncomputable def T90:List (bR×gY):=((221,[]),⟨true,[o22,o1],[o19],u2 Jz⟩)::T89
theorem h90:tw Tryz.prog T90:=fk (bg 49 [] []) h89 [(0,Ou)] ⟨Rd,trivial⟩ Tryz.func221 (by kernel_rfl) fun x=>by kernel_rfl
noncomputable def T91:List (bR×gY):=((161,[]),⟨true,[a11],[o19],u2 sS⟩)::T90
theorem h91:tw Tryz.prog T91:=fk (bg 11 [] []) h90 [] trivial Tryz.func161 (by kernel_rfl) fun x=>by kernel_rfl
noncomputable def Nt:ep:=⟨[(1,.ro t21),(23,o2),(24,o1)],[(25,o1)],[(.ret,[(2,o19)]),(.exit 0,[])],Kq⟩
theorem Qu:mT Tryz.prog (env 118 [] []) (lp 0 (body Tryz.f222) 0) Nt:=lk (bg _ _ _) h91 (n:=0) [] trivial (by kernel_rfl) fun k x=>by kernel_rfl
noncomputable def Nu:ep:=⟨[(1,.ro t21),(54,o24),(55,o1)],[(5,o1),(6,.one (.mp .i64)),(7,.one (.mp .i64)),(56,o1)],[(.ret,[(2,o19)]),(.exit 2,[(5,o1),(6,.one (.mp .i64))])],Kr⟩
theorem Qv:mT Tryz.prog (env 118 [] []) (lp 0 (body Tryz.f222) 1) Nu:=lk (bg _ _ _) h91 (n:=2) [] trivial (by kernel_rfl) fun k x=>by kernel_rfl
noncomputable def Nv:ep:=⟨[(1,.ro t21),(5,o1),(103,o2),(104,o1)],[(6,.one (.mp .i64)),(105,o1)],[(.ret,[(2,o19)]),(.exit 4,[])],Ks⟩
theorem Qw:mT Tryz.prog (env 118 [] []) (lp 0 (body Tryz.f222) 2) Nv:=lk (bg _ _ _) h91 (n:=4) [] trivial (by kernel_rfl) fun k x=>by kernel_rfl
noncomputable def T92:List (bR×gY):=((222,[]),⟨true,[a13],[o19],u3 IB⟩)::T91
theorem h92:tw Tryz.prog T92:=fk (bg 118 [] []) h91 [(0,Nt),(2,Nu),(4,Nv)] ⟨Qu,Qv,Qw,trivial⟩ Tryz.func222 (by kernel_rfl) fun x=>by kernel_rfl
noncomputable def O8:ep:=⟨[(13,o23),(14,o1),(15,o1),(23,o24),(24,o1)],[(3,.one (.mp .i64)),(25,o1)],[(.ret,[(2,o19)]),(.exit 2,[(3,.one (.mp .i64))])],M0⟩
theorem RL:mT Tryz.prog (env 43 [] []) (lp 0 (lp 0 (body Tryz.f162) 0) 0) O8:=lk (bg _ _ _) h92 (n:=2) [] trivial (by kernel_rfl) fun k x=>by kernel_rfl
noncomputable def O7:ep:=⟨[(13,o23),(14,o1)],[(3,.one (.mp .i64)),(15,o1)],[(.ret,[(2,o19)]),(.exit 0,[])],MZ⟩
theorem RK:mT Tryz.prog (env 43 [] []) (lp 0 (body Tryz.f162) 0) O7:=lk (bg _ _ _) h92 (n:=0) [(2,O8)] ⟨RL,trivial⟩ (by kernel_rfl) fun k x=>by kernel_rfl
noncomputable def T93:List (bR×gY):=((162,[]),⟨true,[o23],[o19],u1 Jj⟩)::T92
theorem h93:tw Tryz.prog T93:=fk (bg 43 [] []) h92 [(0,O7)] ⟨RK,trivial⟩ Tryz.func162 (by kernel_rfl) fun x=>by kernel_rfl
noncomputable def T94:List (bR×gY):=((223,[]),⟨true,[a5],[o19],u5 R6⟩)::T93
theorem h94:tw Tryz.prog T94:=fk (bg 9 [] []) h93 [] trivial Tryz.func223 (by kernel_rfl) fun x=>by kernel_rfl
noncomputable def T95:List (bR×gY):=((163,[]),⟨true,[a5],[o19],u5 zT⟩)::T94
theorem h95:tw Tryz.prog T95:=fk (bg 90 [] []) h94 [] trivial Tryz.func163 (by kernel_rfl) fun x=>by kernel_rfl
noncomputable def T96:List (bR×gY):=((81,[]),⟨true,[a14,o1],[o19],u16 N1⟩)::T95
theorem h96:tw Tryz.prog T96:=fk (bg 89 [] []) h95 [] trivial Tryz.func81 (by kernel_rfl) fun x=>by kernel_rfl
noncomputable def T97:List (bR×gY):=((165,[]),⟨true,[a14,a8],[o19],u28 tB⟩)::T96
theorem h97:tw Tryz.prog T97:=fk (bg 29 [] []) h96 [] trivial Tryz.func165 (by kernel_rfl) fun x=>by kernel_rfl
noncomputable def T98:List (bR×gY):=((166,[]),⟨true,[a7],[o19],u5 NX⟩)::T97
theorem h98:tw Tryz.prog T98:=fk (bg 26 [] []) h97 [] trivial Tryz.func166 (by kernel_rfl) fun x=>by kernel_rfl
noncomputable def T99:List (bR×gY):=((167,[]),⟨true,[a14,o1],[o1],u16 IC⟩)::T98
theorem h99:tw Tryz.prog T99:=fk (bg 21 [] []) h98 [] trivial Tryz.func167 (by kernel_rfl) fun x=>by kernel_rfl
noncomputable def Yr:List (bR×gY):=((82,[]),⟨true,[a14,o1],[o19],u16 KZ⟩)::T99
theorem Wp:tw Tryz.prog Yr:=fk (bg 140 [] []) h99 [] trivial Tryz.func82 (by kernel_rfl) fun x=>by kernel_rfl
noncomputable def Ox:ep:=⟨[(1,.ro t27),(4,o1),(14,o26),(15,o1),(16,o1),(22,o23),(23,o1),(24,o1),(29,o24),(30,o1)],[(3,o1),(31,o1)],[(.ret,[(2,o19)]),(.exit 4,[(3,o1)])],LI⟩
theorem Rg:mT Tryz.prog (env 107 [] []) (lp 2 (lp 0 (lp 0 (body Tryz.f83) 0) 0) 0) Ox:=lk (bg _ _ _) Wp (n:=4) [] trivial (by kernel_rfl) fun k x=>by kernel_rfl
noncomputable def Ow:ep:=⟨[(1,.ro t27),(4,o1),(14,o26),(15,o1),(16,o1),(22,o23),(23,o1)],[(3,o1),(24,o1)],[(.ret,[(2,o19)]),(.exit 2,[(3,o1)])],LH⟩
theorem Rf:mT Tryz.prog (env 107 [] []) (lp 0 (lp 0 (body Tryz.f83) 0) 0) Ow:=lk (bg _ _ _) Wp (n:=2) [(4,Ox)] ⟨Rg,trivial⟩ (by kernel_rfl) fun k x=>by kernel_rfl
noncomputable def Ov:ep:=⟨[(1,.ro t27),(14,o26),(15,o1)],[(3,o1),(16,o1)],[(.ret,[(2,o19)]),(.exit 0,[(3,o1)])],Pp⟩
theorem Re:mT Tryz.prog (env 107 [] []) (lp 0 (body Tryz.f83) 0) Ov:=lk (bg _ _ _) Wp (n:=0) [(2,Ow)] ⟨Rf,trivial⟩ (by kernel_rfl) fun k x=>by kernel_rfl
noncomputable def Oy:ep:=⟨[(88,o27),(89,o1)],[(3,o1),(90,o1)],[(.exit 6,[(3,o1)])],Pq⟩
theorem Rh:mT Tryz.prog (env 107 [] []) (lp 0 (body Tryz.f83) 1) Oy:=lk (bg _ _ _) Wp (n:=6) [] trivial (by kernel_rfl) fun k x=>by kernel_rfl
noncomputable def Ys:List (bR×gY):=((83,[]),⟨true,[a14],[o19],Yc Mj⟩)::Yr
theorem Zw:tw Tryz.prog Ys:=fk (bg 107 [] []) Wp [(0,Ov),(6,Oy)] ⟨Re,Rh,trivial⟩ Tryz.func83 (by kernel_rfl) fun x=>by kernel_rfl
noncomputable def Pa:ep:=⟨[(1,.ro t27),(7,o27),(8,o1)],[(3,o1),(9,o1)],[(.exit 0,[(3,o1)])],PB⟩
theorem RN:mT Tryz.prog (env 27 [] []) (lp 0 (body Tryz.f84) 0) Pa:=lk (bg _ _ _) Zw (n:=0) [] trivial (by kernel_rfl) fun k x=>by kernel_rfl
noncomputable def Yt:List (bR×gY):=((84,[]),⟨true,[a14],[o1],Yc N0⟩)::Ys
theorem XZ:tw Tryz.prog Yt:=fk (bg 27 [] []) Zw [(0,Pa)] ⟨RN,trivial⟩ Tryz.func84 (by kernel_rfl) fun x=>by kernel_rfl
noncomputable def MG:ep:=⟨[(1,.ro t27),(54,o1)],[(55,o1)],[(.ret,[(2,o19)]),(.exit 0,[])],NY⟩
theorem P4:mT Tryz.prog (env 83 [] []) (lp 0 (body Tryz.f14) 0) MG:=lk (bg _ _ _) XZ (n:=0) [] trivial (by kernel_rfl) fun k x=>by kernel_rfl
noncomputable def MH:ep:=⟨[(1,.ro t27),(65,o1)],[(66,o1)],[(.ret,[(2,o19)]),(.exit 2,[])],NZ⟩
theorem P5:mT Tryz.prog (env 83 [] []) (lp 0 (body Tryz.f14) 1) MH:=lk (bg _ _ _) XZ (n:=2) [] trivial (by kernel_rfl) fun k x=>by kernel_rfl
noncomputable def Yu:List (bR×gY):=((14,[]),⟨true,[a14],[o19],Yc mS⟩)::Yt
theorem Zx:tw Tryz.prog Yu:=fk (bg 83 [] []) XZ [(0,MG),(2,MH)] ⟨P4,P5,trivial⟩ Tryz.func14 (by kernel_rfl) fun x=>by kernel_rfl
noncomputable def Oz:ep:=⟨[(1,o1),(7,o22),(8,o1)],[(9,o1)],[(.ret,[(4,o19)]),(.exit 0,[])],LK⟩
theorem Ri:mT Tryz.prog (env 24 [] []) (lp 0 (body Tryz.f240) 0) Oz:=lk (bg _ _ _) Zx (n:=0) [] trivial (by kernel_rfl) fun k x=>by kernel_rfl
noncomputable def Yv:List (bR×gY):=((240,[]),⟨true,[o22,o1],[o19],u2 JC⟩)::Yu
theorem aaD:tw Tryz.prog Yv:=fk (bg 24 [] []) Zx [(0,Oz)] ⟨Ri,trivial⟩ Tryz.func240 (by kernel_rfl) fun x=>by kernel_rfl
noncomputable def Yw:List (bR×gY):=((189,[]),⟨true,[a11,o1],[o19],u3 Li⟩)::Yv
theorem Zy:tw Tryz.prog Yw:=fk (bg 17 [] []) aaD [] trivial Tryz.func189 (by kernel_rfl) fun x=>by kernel_rfl
noncomputable def ME:ep:=⟨[(3,.ro t32)],[(2,o1),(8,o1)],[(.ret,[(6,o1),(7,o19)]),(.exit 0,[])],Jr⟩
theorem P0:mT Tryz.prog (env 38 [] []) (lp 0 (body Tryz.f239) 0) ME:=lk (bg _ _ _) Zy (n:=0) [] trivial (by kernel_rfl) fun k x=>by kernel_rfl
noncomputable def Yx:List (bR×gY):=((239,[]),⟨true,[a11,o1,o1],[o1,o19],u4 p4⟩)::Yw
theorem aaE:tw Tryz.prog Yx:=fk (bg 38 [] []) Zy [(0,ME)] ⟨P0,trivial⟩ Tryz.func239 (by kernel_rfl) fun x=>by kernel_rfl
noncomputable def Yy:List (bR×gY):=((188,[]),⟨true,[a11,a3,o1,o1],[o1,o19],u12 IM⟩)::Yx
theorem aaF:tw Tryz.prog Yy:=fk (bg 42 [] []) aaE [] trivial Tryz.func188 (by kernel_rfl) fun x=>by kernel_rfl
noncomputable def Yz:List (bR×gY):=((116,[]),⟨true,[a11,a3,o1,o1,o1],[o19],u13 FI⟩)::Yy
theorem aaG:tw Tryz.prog Yz:=fk (bg 31 [] []) aaF [] trivial Tryz.func116 (by kernel_rfl) fun x=>by kernel_rfl
noncomputable def YA:List (bR×gY):=((117,[]),⟨true,[a11,o1],[o19],u3 Lg⟩)::Yz
theorem aaH:tw Tryz.prog YA:=fk (bg 16 [] []) aaG [] trivial Tryz.func117 (by kernel_rfl) fun x=>by kernel_rfl
noncomputable def YB:List (bR×gY):=((191,[]),⟨true,[o1],[o19],u1 M1⟩)::YA
theorem Zz:tw Tryz.prog YB:=fk (bg 6 [] []) aaH [] trivial Tryz.func191 (by kernel_rfl) fun x=>by kernel_rfl
noncomputable def gI:ep:=⟨[(0,o2),(1,.fn 191 []),(7,o1)],[(8,o1)],[(.ret,[(4,o1)]),(.exit 0,[])],e6⟩
theorem nl:mT Tryz.prog (env 19 [] []) (lp 0 (body Tryz.f241) 0) gI:=lk (bg _ _ _) Zz (n:=0) [] trivial (by kernel_rfl) fun k x=>by kernel_rfl
noncomputable def YC:List (bR×gY):=((241,[191]),⟨true,[o2,.fn 191 []],[o1],u1 ga⟩)::YB
theorem aaI:tw Tryz.prog YC:=fk (bg 19 [] []) Zz [(0,gI)] ⟨nl,trivial⟩ Tryz.func241 (by kernel_rfl) fun x=>by kernel_rfl
noncomputable def YD:List (bR×gY):=((190,[191]),⟨true,[o2,.fn 191 []],[o19],u1 ei⟩)::YC
theorem X0:tw Tryz.prog YD:=fk (bg 9 [] []) aaI [] trivial Tryz.func190 (by kernel_rfl) fun x=>by kernel_rfl
noncomputable def Oq:ep:=⟨[(1,.ro t40),(34,o9),(35,o1)],[(36,o1)],[(.ret,[(2,o19)]),(.exit 0,[])],Ly⟩
theorem Rb:mT Tryz.prog (env 94 [] []) (lp 0 (body Tryz.f118) 0) Oq:=lk (bg _ _ _) X0 (n:=0) [] trivial (by kernel_rfl) fun k x=>by kernel_rfl
noncomputable def Ot:ep:=⟨[(52,o28),(53,o1)],[(54,o1)],[(.ret,[(2,o19)]),(.exit 2,[])],Lz⟩
theorem Rc:mT Tryz.prog (env 94 [] []) (lp 0 (body Tryz.f118) 1) Ot:=lk (bg _ _ _) X0 (n:=2) [] trivial (by kernel_rfl) fun k x=>by kernel_rfl
noncomputable def YE:List (bR×gY):=((118,[]),⟨true,[a15],[o19],u4 H7⟩)::YD
theorem Ur:tw Tryz.prog YE:=fk (bg 94 [] []) X0 [(0,Oq),(2,Ot)] ⟨Rb,Rc,trivial⟩ Tryz.func118 (by kernel_rfl) fun x=>by kernel_rfl
noncomputable def Nw:ep:=⟨[(1,o9),(2,o1),(3,.ro t27),(40,o9),(41,o1)],[(6,a16),(42,o1)],[(.ret,[(6,a16),(7,o11),(8,o19)]),(.exit 0,[(6,a16)])],Kv⟩
theorem Qx:mT Tryz.prog (env 196 [] [186]) (lp 0 (body Tryz.f37) 0) Nw:=lk (bg _ _ _) Ur (n:=0) [] trivial (by kernel_rfl) fun k x=>by kernel_rfl
noncomputable def Ny:ep:=⟨[(1,o9),(2,o1),(3,.ro t27),(14,o1),(60,o26),(61,o1),(62,o1),(68,o27),(69,o1)],[(6,a16),(11,a16),(12,o11),(13,o11),(15,a21),(16,o1),(17,o1),(70,o1)],[(.exit 4,[(6,a16),(11,a16),(12,o11),(13,o11),(15,a21),(16,o1),(17,o1)])],Kx⟩
theorem Qz:mT Tryz.prog (env 196 [] [186]) (lp 2 (lp 0 (body Tryz.f37) 1) 0) Ny:=lk (bg _ _ _) Ur (n:=4) [] trivial (by kernel_rfl) fun k x=>by kernel_rfl
noncomputable def Nz:ep:=⟨[(1,o9),(2,o1),(3,.ro t27),(14,o1),(16,o1),(17,o1),(60,o26),(61,o1),(62,o1)],[(6,a16),(11,a16),(12,o11),(13,o11),(15,a21),(20,o1)],[(.exit 7,[(6,a16),(11,a16),(12,o11),(13,o11),(15,a21),(20,o1)])],H6⟩
theorem QA:mT Tryz.prog (env 196 [] [186]) (lp 2 (lp 0 (body Tryz.f37) 1) 1) Nz:=lk (bg _ _ _) Ur (n:=7) [] trivial (by kernel_rfl) fun k x=>by kernel_rfl
noncomputable def NA:ep:=⟨[(1,o9),(2,o1),(3,.ro t27),(14,o1),(16,o1),(17,o1),(20,o1),(60,o26),(61,o1),(62,o1)],[(6,a16),(11,a16),(12,o11),(13,o11),(15,a21),(21,o1)],[(.exit 9,[(6,a16),(11,a16),(12,o11),(13,o11),(21,o1)])],qx⟩
theorem QB:mT Tryz.prog (env 196 [] [186]) (lp 2 (lp 0 (body Tryz.f37) 1) 2) NA:=lk (bg _ _ _) Ur (n:=9) [] trivial (by kernel_rfl) fun k x=>by kernel_rfl
noncomputable def Nx:ep:=⟨[(1,o9),(2,o1),(3,.ro t27),(60,o26),(61,o1)],[(6,a16),(11,a16),(12,o11),(13,o11),(62,o1)],[(.ret,[(6,a16),(7,o11),(8,o19)]),(.exit 2,[(6,a16),(11,a16),(12,o11),(13,o11)])],Kw⟩
theorem Qy:mT Tryz.prog (env 196 [] [186]) (lp 0 (body Tryz.f37) 1) Nx:=lk (bg _ _ _) Ur (n:=2) [(4,Ny),(7,Nz),(9,NA)] ⟨Qz,QA,QB,trivial⟩ (by kernel_rfl) fun k x=>by kernel_rfl
noncomputable def MJ:ep:=⟨[(1,o9),(13,o2),(23,o1),(160,o2),(161,o1),(162,o1),(166,o2),(167,o1)],[(6,a16),(11,a16),(12,o11),(24,o11),(168,o1)],[(.exit 13,[(6,a16),(11,a16),(12,o11),(24,o11)])],Jy⟩
theorem P7:mT Tryz.prog (env 196 [] [186]) (lp 11 (lp 0 (body Tryz.f37) 2) 0) MJ:=lk (bg _ _ _) Ur (n:=13) [] trivial (by kernel_rfl) fun k x=>by kernel_rfl
noncomputable def MI:ep:=⟨[(1,o9),(13,o2),(160,o2),(161,o1)],[(6,a16),(11,a16),(12,o11),(162,o1)],[(.exit 11,[(6,a16),(11,a16),(12,o11)])],Jx⟩
theorem P6:mT Tryz.prog (env 196 [] [186]) (lp 0 (body Tryz.f37) 2) MI:=lk (bg _ _ _) Ur (n:=11) [(13,MJ)] ⟨P7,trivial⟩ (by kernel_rfl) fun k x=>by kernel_rfl
noncomputable def YF:List (bR×gY):=((37,[]),⟨true,[a14,o9,o1],[a18,o11,o19],Z8 KY⟩)::YE
theorem ZA:tw Tryz.prog YF:=fk (bg 196 [] [186]) Ur [(0,Nw),(2,Nx),(11,MI)] ⟨Qx,Qy,P6,trivial⟩ Tryz.func37 (by kernel_rfl) fun x=>by kernel_rfl
noncomputable def xb:ep:=⟨[(0,o2),(1,o1),(7,o1)],[(8,o1)],[(.ret,[(4,o1)]),(.exit 0,[])],m0⟩
theorem LU:mT Tryz.prog (env 19 [] []) (lp 0 (body Tryz.f266) 0) xb:=lk (bg _ _ _) ZA (n:=0) [] trivial (by kernel_rfl) fun k x=>by kernel_rfl
noncomputable def YG:List (bR×gY):=((266,[]),⟨true,[o2,o1],[o1],u2 rp⟩)::YF
theorem aaJ:tw Tryz.prog YG:=fk (bg 19 [] []) ZA [(0,xb)] ⟨LU,trivial⟩ Tryz.func266 (by kernel_rfl) fun x=>by kernel_rfl
noncomputable def YH:List (bR×gY):=((249,[]),⟨true,[o2,o1],[o19],u2 gw⟩)::YG
theorem ZB:tw Tryz.prog YH:=fk (bg 9 [] []) aaJ [] trivial Tryz.func249 (by kernel_rfl) fun x=>by kernel_rfl
noncomputable def Oo:ep:=⟨[(1,o2),(2,.ro t40),(10,o2),(11,o1)],[(12,o1)],[(.ret,[(4,o19)]),(.exit 0,[])],Lv⟩
theorem Ra:mT Tryz.prog (env 32 [] []) (lp 0 (body Tryz.f250) 0) Oo:=lk (bg _ _ _) ZB (n:=0) [] trivial (by kernel_rfl) fun k x=>by kernel_rfl
noncomputable def YI:List (bR×gY):=((250,[]),⟨true,[a15,o2],[o19],u5 Mi⟩)::YH
theorem X1:tw Tryz.prog YI:=fk (bg 32 [] []) ZB [(0,Oo)] ⟨Ra,trivial⟩ Tryz.func250 (by kernel_rfl) fun x=>by kernel_rfl
noncomputable def Qn:ep:=⟨[(1,o2),(2,.ro t40),(21,o2),(22,o1)],[(4,a19),(6,o1),(23,o1)],[(.exit 0,[(4,a19),(6,o1)])],OX⟩
theorem SC:mT Tryz.prog (env 127 [] []) (lp 0 (body Tryz.f199) 0) Qn:=lk (bg _ _ _) X1 (n:=0) [] trivial (by kernel_rfl) fun k x=>by kernel_rfl
noncomputable def Qo:ep:=⟨[(1,o2),(2,.ro t40),(40,o2),(41,o1)],[(4,a19),(6,o1),(9,a19),(10,o1),(42,o1)],[(.ret,[(4,a19),(5,o19)]),(.exit 2,[(4,a19),(9,a19),(10,o1)])],OY⟩
theorem SD:mT Tryz.prog (env 127 [] []) (lp 0 (body Tryz.f199) 1) Qo:=lk (bg _ _ _) X1 (n:=2) [] trivial (by kernel_rfl) fun k x=>by kernel_rfl
noncomputable def YJ:List (bR×gY):=((199,[]),⟨true,[a15,o2],[a20,o19],u5 PW⟩)::YI
theorem aaK:tw Tryz.prog YJ:=fk (bg 127 [] []) X1 [(0,Qn),(2,Qo)] ⟨SC,SD,trivial⟩ Tryz.func199 (by kernel_rfl) fun x=>by kernel_rfl
noncomputable def YK:List (bR×gY):=((260,[]),⟨true,[o1],[o19],u1 Jp⟩)::YJ
theorem aaL:tw Tryz.prog YK:=fk (bg 6 [] []) aaK [] trivial Tryz.func260 (by kernel_rfl) fun x=>by kernel_rfl
noncomputable def YL:List (bR×gY):=((229,[]),⟨true,[o1,o1],[o1],u2 DM⟩)::YK
theorem ZC:tw Tryz.prog YL:=fk (bg 20 [] []) aaL [] trivial Tryz.func229 (by kernel_rfl) fun x=>by kernel_rfl
noncomputable def r7:ep:=⟨[(0,o2),(1,o2),(9,o2),(10,o1)],[(11,o1)],[(.ret,[(4,o1)]),(.exit 0,[])],g7⟩
theorem KE:mT Tryz.prog (env 36 [] []) (lp 0 (body Tryz.f200) 0) r7:=lk (bg _ _ _) ZC (n:=0) [] trivial (by kernel_rfl) fun k x=>by kernel_rfl
noncomputable def YM:List (bR×gY):=((200,[]),⟨true,[o2,o2],[o1],u2 jn⟩)::YL
theorem aaM:tw Tryz.prog YM:=fk (bg 36 [] []) ZC [(0,r7)] ⟨KE,trivial⟩ Tryz.func200 (by kernel_rfl) fun x=>by kernel_rfl
noncomputable def YN:List (bR×gY):=((201,[]),⟨true,[o2],[o11],u1 g8⟩)::YM
theorem aaN:tw Tryz.prog YN:=fk (bg 8 [] []) aaM [] trivial Tryz.func201 (by kernel_rfl) fun x=>by kernel_rfl
noncomputable def WQ:List (bR×gY):=((198,[]),⟨false,[o2,.ro t40,.blk [v6],.blk [v20],.blk [v1]],[],u8 IP⟩)::YN
theorem X2:tw Tryz.prog WQ:=fk (bg 55 [] []) aaN [] trivial Tryz.func198 (by kernel_rfl) fun x=>by kernel_rfl
noncomputable def ea(rec:Int->(List (Int))->Int->Int->(List (List (Int)))->(List (Int×Int×Int×Int×Int))->Bool->(List (Int))->Int->Option (Bool×(List (Int))×Int×Unit)):gY:=⟨false,[o1,o2,.py 198 [.ro t40,.mu [v6],.mu [v20],.mu [v1]]],[],u9 rec⟩
noncomputable def nn(rec:Int->(List (Int))->Int->Int->(List (List (Int)))->(List (Int×Int×Int×Int×Int))->Bool->(List (Int))->Int->Option (Bool×(List (Int))×Int×Unit)):ep:=⟨[(0,o1),(1,o2)],[(2,.py 198 [.ro t40,.mu [v6],.mu [v20],.mu [v1]]),(6,o1)],[(.exit 0,[(2,.py 198 [.ro t40,.mu [v6],.mu [v20],.mu [v1]])])],jj rec⟩
theorem Jn(rec:Int->(List (Int))->Int->Int->(List (List (Int)))->(List (Int×Int×Int×Int×Int))->Bool->(List (Int))->Int->Option (Bool×(List (Int))×Int×Unit))(hr:eK Tryz.prog 197 (ea rec)):mT Tryz.prog (env 27 [] []) (lp 0 (body Tryz.f197) 0) (nn rec):=lk (bg _ _ _) (T:=((197,[198]),ea rec)::WQ) ⟨hr,X2⟩ (n:=0) [] trivial (by kernel_rfl) fun k x=>by kernel_rfl
theorem J4(rec:Int->(List (Int))->Int->Int->(List (List (Int)))->(List (Int×Int×Int×Int×Int))->Bool->(List (Int))->Int->Option (Bool×(List (Int))×Int×Unit))(hr:eK Tryz.prog 197 (ea rec)):eK Tryz.prog 197 (ea (gA rec)):=(fk (ks:=[]) (bg 27 [] []) (T:=((197,[198]),ea rec)::WQ) ⟨hr,X2⟩ [(0,nn rec)] ⟨(Jn rec hr),trivial⟩ Tryz.func197 (by kernel_rfl) fun x=>by kernel_rfl).1
noncomputable def YO:List (bR×gY):=((197,[198]),ea g4)::WQ
theorem aaO:tw Tryz.prog YO:=⟨C9 (F:=fun n=>ea (er n)) (B5 (fn:=Tryz.f197) (c:=body Tryz.f197) Tryz.func197 (by kernel_rfl) (by kernel_rfl) (fun _=>rfl)) (fun n h=>J4 (er n) h) big,X2⟩
noncomputable def YP:List (bR×gY):=((127,[]),⟨true,[a15],[o11,o1,o19],u4 KX⟩)::YO
theorem ZD:tw Tryz.prog YP:=fk (bg 19 [] []) aaO [] trivial Tryz.func127 (by kernel_rfl) fun x=>by kernel_rfl
noncomputable def O9:ep:=⟨[(34,o1)],[(9,o11),(14,o11),(33,o11),(35,o1)],[(.exit 0,[(14,o11)])],M2⟩
theorem RM:mT Tryz.prog (env 48 [] []) (lp 0 (body Tryz.f52) 0) O9:=lk (bg _ _ _) ZD (n:=0) [] trivial (by kernel_rfl) fun k x=>by kernel_rfl
noncomputable def YQ:List (bR×gY):=((52,[]),⟨true,[a14,o9,o1],[o11,o19],Z8 Lh⟩)::YP
theorem ZE:tw Tryz.prog YQ:=fk (bg 48 [] []) ZD [(0,O9)] ⟨RM,trivial⟩ Tryz.func52 (by kernel_rfl) fun x=>by kernel_rfl
noncomputable def Pc:ep:=⟨[(0,o2),(1,o2)],[(5,o1)],[(.ret,[(4,o19)]),(.exit 0,[])],M7⟩
theorem RP:mT Tryz.prog (env 26 [] []) (lp 0 (body Tryz.f39) 0) Pc:=lk (bg _ _ _) ZE (n:=0) [] trivial (by kernel_rfl) fun k x=>by kernel_rfl
noncomputable def YR:List (bR×gY):=((39,[]),⟨true,[o2,o2],[o19],u2 s3⟩)::YQ
theorem aaP:tw Tryz.prog YR:=fk (bg 26 [] []) ZE [(0,Pc)] ⟨RP,trivial⟩ Tryz.func39 (by kernel_rfl) fun x=>by kernel_rfl
noncomputable def YS:List (bR×gY):=((85,[]),⟨true,[a3,a3],[o19],u16 Mq⟩)::YR
theorem h128:tw Tryz.prog YS:=fk (bg 45 [] []) aaP [] trivial Tryz.func85 (by kernel_rfl) fun x=>by kernel_rfl
noncomputable def YT:List (bR×gY):=((234,[]),⟨true,[.agg [v1,v1],.agg [v1,v1]],[o19],u4 N6⟩)::YS
theorem ZF:tw Tryz.prog YT:=fk (bg 15 [] []) h128 [] trivial Tryz.func234 (by kernel_rfl) fun x=>by kernel_rfl
noncomputable def OC:ep:=⟨[(0,o22),(1,o22)],[(5,o1)],[(.ret,[(4,o19)]),(.exit 0,[])],LQ⟩
theorem Rl:mT Tryz.prog (env 27 [] []) (lp 0 (body Tryz.f181) 0) OC:=lk (bg _ _ _) ZF (n:=0) [] trivial (by kernel_rfl) fun k x=>by kernel_rfl
noncomputable def YU:List (bR×gY):=((181,[]),⟨true,[o22,o22],[o19],u2 JK⟩)::YT
theorem aaQ:tw Tryz.prog YU:=fk (bg 27 [] []) ZF [(0,OC)] ⟨Rl,trivial⟩ Tryz.func181 (by kernel_rfl) fun x=>by kernel_rfl
noncomputable def YV:List (bR×gY):=((99,[]),⟨true,[a11,a11],[o19],u4 N7⟩)::YU
theorem aaR:tw Tryz.prog YV:=fk (bg 17 [] []) aaQ [] trivial Tryz.func99 (by kernel_rfl) fun x=>by kernel_rfl
noncomputable def YW:List (bR×gY):=((262,[]),⟨true,[a4,a4],[o19],u8 O0⟩)::YV
theorem ZG:tw Tryz.prog YW:=fk (bg 25 [] []) aaR [] trivial Tryz.func262 (by kernel_rfl) fun x=>by kernel_rfl
noncomputable def Pb:ep:=⟨[(0,o24),(1,o24)],[(5,o1)],[(.ret,[(4,o19)]),(.exit 0,[])],M5⟩
theorem RO:mT Tryz.prog (env 27 [] []) (lp 0 (body Tryz.f235) 0) Pb:=lk (bg _ _ _) ZG (n:=0) [] trivial (by kernel_rfl) fun k x=>by kernel_rfl
noncomputable def YX:List (bR×gY):=((235,[]),⟨true,[o24,o24],[o19],u2 N2⟩)::YW
theorem aaS:tw Tryz.prog YX:=fk (bg 27 [] []) ZG [(0,Pb)] ⟨RO,trivial⟩ Tryz.func235 (by kernel_rfl) fun x=>by kernel_rfl
noncomputable def YY:List (bR×gY):=((182,[]),⟨true,[a13,a13],[o19],u6 ID⟩)::YX
theorem ZH:tw Tryz.prog YY:=fk (bg 22 [] []) aaS [] trivial Tryz.func182 (by kernel_rfl) fun x=>by kernel_rfl
noncomputable def MK:ep:=⟨[(0,o23),(1,o23)],[(5,o1)],[(.ret,[(4,o19)]),(.exit 0,[])],JF⟩
theorem P8:mT Tryz.prog (env 27 [] []) (lp 0 (body Tryz.f100) 0) MK:=lk (bg _ _ _) ZH (n:=0) [] trivial (by kernel_rfl) fun k x=>by kernel_rfl
noncomputable def YZ:List (bR×gY):=((100,[]),⟨true,[o23,o23],[o19],u2 JD⟩)::YY
theorem aaT:tw Tryz.prog YZ:=fk (bg 27 [] []) ZH [(0,MK)] ⟨P8,trivial⟩ Tryz.func100 (by kernel_rfl) fun x=>by kernel_rfl
noncomputable def Y0:List (bR×gY):=((224,[]),⟨true,[a5,a5],[o19],u10 N3⟩)::YZ
theorem aaU:tw Tryz.prog Y0:=fk (bg 30 [] []) aaT [] trivial Tryz.func224 (by kernel_rfl) fun x=>by kernel_rfl
noncomputable def Y1:List (bR×gY):=((125,[]),⟨true,[a6,a6],[o19],u14 Mm⟩)::Y0
theorem ZI:tw Tryz.prog Y1:=fk (bg 40 [] []) aaU [] trivial Tryz.func125 (by kernel_rfl) fun x=>by kernel_rfl
noncomputable def NB:ep:=⟨[(0,o21),(1,o21)],[(5,o1)],[(.ret,[(4,o19)]),(.exit 0,[])],Kz⟩
theorem QC:mT Tryz.prog (env 27 [] []) (lp 0 (body Tryz.f48) 0) NB:=lk (bg _ _ _) ZI (n:=0) [] trivial (by kernel_rfl) fun k x=>by kernel_rfl
noncomputable def Y2:List (bR×gY):=((48,[]),⟨true,[o21,o21],[o19],u2 IE⟩)::Y1
theorem aaV:tw Tryz.prog Y2:=fk (bg 27 [] []) ZI [(0,NB)] ⟨QC,trivial⟩ Tryz.func48 (by kernel_rfl) fun x=>by kernel_rfl
noncomputable def Y3:List (bR×gY):=((168,[]),⟨true,[a22,a22],[o19],u22 N5⟩)::Y2
theorem ZJ:tw Tryz.prog Y3:=fk (bg 39 [] []) aaV [] trivial Tryz.func168 (by kernel_rfl) fun x=>by kernel_rfl
noncomputable def OB:ep:=⟨[(0,o26),(1,o26)],[(5,o1)],[(.ret,[(4,o19)]),(.exit 0,[])],LO⟩
theorem Rk:mT Tryz.prog (env 27 [] []) (lp 0 (body Tryz.f86) 0) OB:=lk (bg _ _ _) ZJ (n:=0) [] trivial (by kernel_rfl) fun k x=>by kernel_rfl
noncomputable def Y4:List (bR×gY):=((86,[]),⟨true,[o26,o26],[o19],u2 Mp⟩)::Y3
theorem aaW:tw Tryz.prog Y4:=fk (bg 27 [] []) ZJ [(0,OB)] ⟨Rk,trivial⟩ Tryz.func86 (by kernel_rfl) fun x=>by kernel_rfl
noncomputable def Y5:List (bR×gY):=((225,[]),⟨true,[a7,a7],[o19],u10 N4⟩)::Y4
theorem aaX:tw Tryz.prog Y5:=fk (bg 30 [] []) aaW [] trivial Tryz.func225 (by kernel_rfl) fun x=>by kernel_rfl
noncomputable def Y6:List (bR×gY):=((169,[]),⟨true,[a8,a8],[o19],u26 K1⟩)::Y5
theorem ZK:tw Tryz.prog Y6:=fk (bg 51 [] []) aaX [] trivial Tryz.func169 (by kernel_rfl) fun x=>by kernel_rfl
noncomputable def ML:ep:=⟨[(0,o27),(1,o27)],[(5,o1)],[(.ret,[(4,o19)]),(.exit 0,[])],JJ⟩
theorem P9:mT Tryz.prog (env 27 [] []) (lp 0 (body Tryz.f87) 0) ML:=lk (bg _ _ _) ZK (n:=0) [] trivial (by kernel_rfl) fun k x=>by kernel_rfl
noncomputable def Y7:List (bR×gY):=((87,[]),⟨true,[o27,o27],[o19],u2 JH⟩)::Y6
theorem aaY:tw Tryz.prog Y7:=fk (bg 27 [] []) ZK [(0,ML)] ⟨P9,trivial⟩ Tryz.func87 (by kernel_rfl) fun x=>by kernel_rfl
noncomputable def Y8:List (bR×gY):=((170,[]),⟨true,[a9,a9],[o19],u14 Mn⟩)::Y7
theorem ZL:tw Tryz.prog Y8:=fk (bg 40 [] []) aaY [] trivial Tryz.func170 (by kernel_rfl) fun x=>by kernel_rfl
noncomputable def NC:ep:=⟨[(0,o20),(1,o20)],[(5,o1)],[(.ret,[(4,o19)]),(.exit 0,[])],KB⟩
theorem QD:mT Tryz.prog (env 27 [] []) (lp 0 (body Tryz.f88) 0) NC:=lk (bg _ _ _) ZL (n:=0) [] trivial (by kernel_rfl) fun k x=>by kernel_rfl
noncomputable def Y9:List (bR×gY):=((88,[]),⟨true,[o20,o20],[o19],u2 K0⟩)::Y8
theorem aaZ:tw Tryz.prog Y9:=fk (bg 27 [] []) ZL [(0,NC)] ⟨QD,trivial⟩ Tryz.func88 (by kernel_rfl) fun x=>by kernel_rfl
noncomputable def Za:List (bR×gY):=((15,[]),⟨true,[a14,a14],[o19],u30 JG⟩)::Y9
theorem ZM:tw Tryz.prog Za:=fk (bg 50 [] []) aaZ [] trivial Tryz.func15 (by kernel_rfl) fun x=>by kernel_rfl
noncomputable def OA:ep:=⟨[(0,o9),(1,o9)],[(5,o1)],[(.ret,[(4,o19)]),(.exit 0,[])],LM⟩
theorem Rj:mT Tryz.prog (env 27 [] []) (lp 0 (body Tryz.f40) 0) OA:=lk (bg _ _ _) ZM (n:=0) [] trivial (by kernel_rfl) fun k x=>by kernel_rfl
noncomputable def Zb:List (bR×gY):=((40,[]),⟨true,[o9,o9],[o19],u2 Mo⟩)::Za
theorem ZN:tw Tryz.prog Zb:=fk (bg 27 [] []) ZM [(0,OA)] ⟨Rj,trivial⟩ Tryz.func40 (by kernel_rfl) fun x=>by kernel_rfl
noncomputable def MO:ep:=⟨[],[(0,o10),(1,o1),(5,o1)],[(.exit 0,[(0,o10),(1,o1)])],JS⟩
theorem Qc:mT Tryz.prog (env 27 [] []) (lp 0 (body Tryz.f101) 0) MO:=lk (bg _ _ _) ZN (n:=0) [] trivial (by kernel_rfl) fun k x=>by kernel_rfl
noncomputable def Zc:List (bR×gY):=((101,[]),⟨true,[o10,o1],[o1],u2 z2⟩)::Zb
theorem ZO:tw Tryz.prog Zc:=fk (bg 27 [] []) ZN [(0,MO)] ⟨Qc,trivial⟩ Tryz.func101 (by kernel_rfl) fun x=>by kernel_rfl
noncomputable def NF:ep:=⟨[],[(0,o11),(1,o1),(5,o1)],[(.exit 0,[(0,o11),(1,o1)])],Ic⟩
theorem QG:mT Tryz.prog (env 19 [] []) (lp 0 (body Tryz.f43) 0) NF:=lk (bg _ _ _) ZO (n:=0) [] trivial (by kernel_rfl) fun k x=>by kernel_rfl
noncomputable def Zd:List (bR×gY):=((43,[]),⟨true,[o11,o1],[o1],u2 vm⟩)::Zc
theorem ZP:tw Tryz.prog Zd:=fk (bg 19 [] []) ZO [(0,NF)] ⟨QG,trivial⟩ Tryz.func43 (by kernel_rfl) fun x=>by kernel_rfl
noncomputable def NE:ep:=⟨[],[(0,o12),(1,o1),(5,o1)],[(.exit 0,[(0,o12),(1,o1)])],KD⟩
theorem QF:mT Tryz.prog (env 43 [] []) (lp 0 (body Tryz.f183) 0) NE:=lk (bg _ _ _) ZP (n:=0) [] trivial (by kernel_rfl) fun k x=>by kernel_rfl
noncomputable def Ze:List (bR×gY):=((183,[]),⟨true,[o12,o1],[o1],u2 K2⟩)::Zd
theorem ZQ:tw Tryz.prog Ze:=fk (bg 43 [] []) ZP [(0,NE)] ⟨QF,trivial⟩ Tryz.func183 (by kernel_rfl) fun x=>by kernel_rfl
noncomputable def La:ep:=⟨[],[(0,o13),(1,o1),(5,o1)],[(.exit 0,[(0,o13),(1,o1)])],Iy⟩
theorem Pu:mT Tryz.prog (env 34 [] []) (lp 0 (body Tryz.f102) 0) La:=lk (bg _ _ _) ZQ (n:=0) [] trivial (by kernel_rfl) fun k x=>by kernel_rfl
noncomputable def Zf:List (bR×gY):=((102,[]),⟨true,[o13,o1],[o1],u2 Ia⟩)::Ze
theorem ZR:tw Tryz.prog Zf:=fk (bg 34 [] []) ZQ [(0,La)] ⟨Pu,trivial⟩ Tryz.func102 (by kernel_rfl) fun x=>by kernel_rfl
noncomputable def L7:ep:=⟨[],[(0,o14),(1,o1),(5,o1)],[(.exit 0,[(0,o14),(1,o1)])],tb⟩
theorem PE:mT Tryz.prog (env 62 [] []) (lp 0 (body Tryz.f49) 0) L7:=lk (bg _ _ _) ZR (n:=0) [] trivial (by kernel_rfl) fun k x=>by kernel_rfl
noncomputable def Zg:List (bR×gY):=((49,[]),⟨true,[o14,o1],[o1],u2 tW⟩)::Zf
theorem ZS:tw Tryz.prog Zg:=fk (bg 62 [] []) ZR [(0,L7)] ⟨PE,trivial⟩ Tryz.func49 (by kernel_rfl) fun x=>by kernel_rfl
noncomputable def MN:ep:=⟨[],[(0,o15),(1,o1),(5,o1)],[(.exit 0,[(0,o15),(1,o1)])],JQ⟩
theorem Qb:mT Tryz.prog (env 103 [] []) (lp 0 (body Tryz.f103) 0) MN:=lk (bg _ _ _) ZS (n:=0) [] trivial (by kernel_rfl) fun k x=>by kernel_rfl
noncomputable def Zh:List (bR×gY):=((103,[]),⟨true,[o15,o1],[o1],u2 JO⟩)::Zg
theorem ZT:tw Tryz.prog Zh:=fk (bg 103 [] []) ZS [(0,MN)] ⟨Qb,trivial⟩ Tryz.func103 (by kernel_rfl) fun x=>by kernel_rfl
noncomputable def Lb:ep:=⟨[],[(0,o16),(1,o1),(5,o1)],[(.exit 0,[(0,o16),(1,o1)])],IA⟩
theorem Pv:mT Tryz.prog (env 109 [] []) (lp 0 (body Tryz.f104) 0) Lb:=lk (bg _ _ _) ZT (n:=0) [] trivial (by kernel_rfl) fun k x=>by kernel_rfl
noncomputable def Zi:List (bR×gY):=((104,[]),⟨true,[o16,o1],[o1],u2 Ig⟩)::Zh
theorem ZU:tw Tryz.prog Zi:=fk (bg 109 [] []) ZT [(0,Lb)] ⟨Pv,trivial⟩ Tryz.func104 (by kernel_rfl) fun x=>by kernel_rfl
noncomputable def L8:ep:=⟨[],[(0,o17),(1,o1),(5,o1)],[(.exit 0,[(0,o17),(1,o1)])],I9⟩
theorem PF:mT Tryz.prog (env 64 [] []) (lp 0 (body Tryz.f105) 0) L8:=lk (bg _ _ _) ZU (n:=0) [] trivial (by kernel_rfl) fun k x=>by kernel_rfl
noncomputable def Zj:List (bR×gY):=((105,[]),⟨true,[o17,o1],[o1],u2 IQ⟩)::Zi
theorem aa0:tw Tryz.prog Zj:=fk (bg 64 [] []) ZU [(0,L8)] ⟨PF,trivial⟩ Tryz.func105 (by kernel_rfl) fun x=>by kernel_rfl
noncomputable def Zk:List (bR×gY):=((32,[]),⟨true,[a10,o1],[o1],u16 Ie⟩)::Zj
theorem ZV:tw Tryz.prog Zk:=fk (bg 22 [] []) aa0 [] trivial Tryz.func32 (by kernel_rfl) fun x=>by kernel_rfl
noncomputable def MM:ep:=⟨[],[(0,o18),(1,o1),(5,o1)],[(.exit 0,[(0,o18),(1,o1)])],JN⟩
theorem Qa:mT Tryz.prog (env 19 [] []) (lp 0 (body Tryz.f41) 0) MM:=lk (bg _ _ _) ZV (n:=0) [] trivial (by kernel_rfl) fun k x=>by kernel_rfl
noncomputable def Zl:List (bR×gY):=((41,[]),⟨true,[o18,o1],[o1],u2 JL⟩)::Zk
theorem ZW:tw Tryz.prog Zl:=fk (bg 19 [] []) ZV [(0,MM)] ⟨Qa,trivial⟩ Tryz.func41 (by kernel_rfl) fun x=>by kernel_rfl
noncomputable def ND:ep:=⟨[(0,o2)],[(1,o1),(5,o1)],[(.ret,[(4,o1)]),(.exit 0,[(1,o1)])],H9⟩
theorem QE:mT Tryz.prog (env 21 [] []) (lp 0 (body Tryz.f45) 0) ND:=lk (bg _ _ _) ZW (n:=0) [] trivial (by kernel_rfl) fun k x=>by kernel_rfl
noncomputable def Zm:List (bR×gY):=((45,[]),⟨true,[o2,o1],[o1],u2 IF⟩)::Zl
theorem aa1:tw Tryz.prog Zm:=fk (bg 21 [] []) ZW [(0,ND)] ⟨QE,trivial⟩ Tryz.func45 (by kernel_rfl) fun x=>by kernel_rfl
noncomputable def ko:gY:=⟨true,[a2,o9,o1],[o19],Z8 I7⟩
noncomputable def aau:List (bR×gY):=((9,[]),ko)::Zm
theorem aa2:tw Tryz.prog aau:=fk (bg 124 [] []) aa1 [] trivial Tryz.func9 (by kernel_rfl) fun x=>by kernel_rfl
theorem Pw:eK Tryz.prog 9 ko:=aa2.1
end Go.Proofs.YthdhgmppijjhpaaGreat.fnExactTourOf

