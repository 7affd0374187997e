/- What each function that the law FnExactRoundFor reaches promises: it computes what its plain function says. Conditions: none. -/
import Derived.Test.YthdhgmppijjhpaaGreatRows
import Derived.Test.YthdhgmppijjhpaaGreatRoundForQB
import Derived.KernelRfl
set_option linter.unusedVariables false
set_option linter.unusedSimpArgs false
namespace Go.Proofs.YthdhgmppijjhpaaGreat.fnExactRoundFor
open Go.R Go.Fn
set_option maxRecDepth 100000
abbrev t0:aJ:=.cons (.int .i64) .nil
abbrev t1:aJ:=.cons .bool .nil
abbrev t2:aJ:=.cons (.int .u8) .nil
abbrev t3:aJ:=.cons (.int .i64) (.cons (.int .i64) (.cons .bool (.cons (.int .u8) .nil)))
abbrev t4:aJ:=.cons .str .nil
abbrev t5:aJ:=.cons (.int .u64) .nil
abbrev t6:aJ:=.cons .str (.cons (.int .u64) .nil)
abbrev t7:aJ:=.cons (.int .i32) .nil
abbrev t8:aJ:=.cons (.int .i64) (.cons (.int .i64) (.cons (.int .i64) (.cons (.int .i64) (.cons (.int .i64) (.cons (.int .i64) (.cons (.int .i64) (.cons (.int .i64) .nil)))))))
abbrev t9:aJ:=.cons (.int .i64) (.cons (.int .i64) .nil)
abbrev t10:aJ:=.cons (.int .i64) (.cons (.int .i64) (.cons (.int .i64) (.cons .bool .nil)))
abbrev t11:aJ:=.cons (.int .i64) (.cons (.sl 3 t0) (.cons (.sl 265 t10) .nil))
abbrev t12:aJ:=.cons (.int .i64) (.cons (.int .i64) (.cons (.int .i64) (.cons (.int .i64) (.cons (.int .i64) (.cons (.int .i64) (.cons (.int .i64) .nil))))))
abbrev t13:aJ:=.cons (.sl 244 t9) (.cons (.sl 244 t9) (.cons (.sl 202 t11) (.cons (.int .i64) (.cons (.int .i64) (.cons .bool (.cons .bool (.cons .bool (.cons (.int .i64) (.cons (.int .i64) (.cons (.sl 191 t12) .nil))))))))))
abbrev t14:aJ:=.cons (.sl 172 t13) .nil
abbrev t15:aJ:=.cons (.int .i64) (.cons (.int .i64) (.cons (.int .i64) (.cons (.int .i64) (.cons (.int .i64) (.cons (.int .i64) (.cons (.int .i64) (.cons (.int .i64) (.cons (.int .i64) (.cons (.int .i64) (.cons (.int .i64) (.cons (.int .i64) (.cons (.int .i64) .nil))))))))))))
abbrev t16:aJ:=.cons (.sl 187 t15) .nil
abbrev t17:aJ:=.cons (.int .i64) (.cons (.int .i64) (.cons (.int .i64) (.cons (.int .i64) (.cons (.int .i64) (.cons (.int .i64) (.cons .bool .nil))))))
abbrev t18:aJ:=.cons (.sl 189 t17) .nil
abbrev t19:aJ:=.cons (.sl 191 t12) .nil
abbrev t20:aJ:=.cons (.int .i64) (.cons (.int .i64) (.cons (.int .i64) (.cons (.int .i64) (.cons (.int .i64) (.cons (.int .i64) (.cons (.int .i64) (.cons (.int .i64) (.cons (.int .i64) (.cons (.int .i64) (.cons (.int .i64) (.cons (.sl 172 t13) (.cons (.sl 187 t15) (.cons (.sl 189 t17) (.cons (.sl 191 t12) .nil))))))))))))))
abbrev t21:aJ:=.cons (.int .i64) (.cons (.sl 3 t0) (.cons (.sl 182 t10) .nil))
abbrev t22:aJ:=.cons (.sl 208 t9) (.cons (.sl 208 t9) (.cons (.sl 161 t21) (.cons (.int .i64) (.cons (.int .i64) (.cons .bool (.cons .bool (.cons .bool (.cons (.int .i64) (.cons (.int .i64) (.cons (.sl 150 t12) .nil))))))))))
abbrev t23:aJ:=.cons (.sl 98 t22) .nil
abbrev t24:aJ:=.cons (.sl 120 t15) .nil
abbrev t25:aJ:=.cons (.sl 175 t17) .nil
abbrev t26:aJ:=.cons (.sl 150 t12) .nil
abbrev t27:aJ:=.cons (.int .i64) (.cons (.int .i64) (.cons (.int .i64) (.cons (.int .i64) (.cons (.int .i64) (.cons (.int .i64) (.cons (.int .i64) (.cons (.int .i64) (.cons (.int .i64) (.cons (.int .i64) (.cons (.int .i64) (.cons (.sl 98 t22) (.cons (.sl 120 t15) (.cons (.sl 175 t17) (.cons (.sl 150 t12) .nil))))))))))))))
abbrev t28:aJ:=.cons (.sl 244 t9) (.cons (.sl 244 t9) .nil)
abbrev t29:aJ:=.cons (.sl 125 t28) .nil
abbrev t30:aJ:=.cons (.sl 202 t11) .nil
abbrev t31:aJ:=.cons (.sl 127 t30) .nil
abbrev t32:aJ:=.cons (.sl 208 t9) (.cons (.sl 208 t9) .nil)
abbrev t33:aJ:=.cons (.sl 93 t32) .nil
abbrev t34:aJ:=.cons (.sl 161 t21) .nil
abbrev t35:aJ:=.cons (.sl 94 t34) .nil
abbrev t36:aJ:=.cons (.sl 3 t0) .nil
abbrev t37:aJ:=.cons (.sl 70 t36) .nil
abbrev t38:aJ:=.cons (.int .i64) (.cons (.int .i64) (.cons (.int .i64) (.cons (.int .i64) (.cons (.int .i64) .nil))))
abbrev t39:aJ:=.cons (.sl 139 t38) .nil
abbrev t40:aJ:=.cons (.int .i64) (.cons (.int .i64) (.cons (.sl 70 t36) (.cons (.sl 139 t38) .nil)))
abbrev t41:aJ:=.cons (.sl 5 t2) .nil
abbrev t42:aJ:=.cons (.sl 208 t9) .nil
abbrev t43:aJ:=.cons (.int .i64) (.cons (.int .i64) (.cons .bool (.cons .bool (.cons .bool .nil))))
abbrev t44:aJ:=.cons (.sl 244 t9) .nil
abbrev t45:aJ:=.cons (.sl 182 t10) .nil
abbrev t46:aJ:=.cons (.sl 265 t10) .nil
abbrev t47:aJ:=.cons (.sl 3 t0) (.cons (.int .i64) (.cons (.int .i64) (.cons (.int .i64) .nil)))
abbrev t48:aJ:=.cons (.sl 5 t2) (.cons (.int .i64) (.cons (.int .i64) .nil))
abbrev t49:aJ:=.cons (.int .u32) .nil
abbrev t50:aJ:=.cons (.int .i64) (.cons (.int .i64) (.cons (.int .i64) .nil))
abbrev t51:aJ:=.cons (.sl 296 t50) .nil
abbrev v0:K:=.val (.sl 244 t9)
abbrev v1:K:=.val (.int .i64)
abbrev v2:K:=.val (.sl 3 t0)
abbrev v3:K:=.val (.sl 265 t10)
abbrev v4:K:=.val (.sl 202 t11)
abbrev v5:K:=.val (.sl 191 t12)
abbrev v6:K:=.val .bool
abbrev v7:K:=.val (.sl 172 t13)
abbrev v8:K:=.val (.sl 187 t15)
abbrev v9:K:=.val (.sl 189 t17)
abbrev v10:K:=.val (.sl 70 t36)
abbrev v11:K:=.val (.sl 175 t17)
abbrev v12:K:=.val (.sl 150 t12)
abbrev v13:K:=.val (.sl 208 t9)
abbrev v14:K:=.val (.sl 182 t10)
abbrev v15:K:=.val (.sl 161 t21)
abbrev v16:K:=.val (.sl 98 t22)
abbrev v17:K:=.val (.sl 120 t15)
abbrev v18:K:=.val (.sl 139 t38)
abbrev v19:K:=.arr 208 t9 false
abbrev v20:K:=.arr 3 t0 false
abbrev v21:K:=.arr 182 t10 false
abbrev v22:K:=.arr 161 t21 true
abbrev v23:K:=.arr 150 t12 false
abbrev v24:K:=.arr 98 t22 true
abbrev v25:K:=.arr 120 t15 false
abbrev v26:K:=.arr 175 t17 false
abbrev v27:K:=.arr 70 t36 true
abbrev v28:K:=.arr 139 t38 false
abbrev o0:Sh:=.one v0
abbrev o1:Sh:=.one v1
abbrev o2:Sh:=.one v2
abbrev o3:Sh:=.one v3
abbrev o4:Sh:=.one v4
abbrev o5:Sh:=.one v5
abbrev o6:Sh:=.one v7
abbrev o7:Sh:=.one v8
abbrev o8:Sh:=.one v9
abbrev o9:Sh:=.one v10
abbrev o10:Sh:=.one v19
abbrev o11:Sh:=.one v20
abbrev o12:Sh:=.one v21
abbrev o13:Sh:=.one v22
abbrev o14:Sh:=.one v23
abbrev o15:Sh:=.one v24
abbrev o16:Sh:=.one v25
abbrev o17:Sh:=.one v26
abbrev o18:Sh:=.one v27
abbrev o19:Sh:=.one v6
abbrev o20:Sh:=.one v11
abbrev o21:Sh:=.one v12
abbrev o22:Sh:=.one v13
abbrev o23:Sh:=.one v15
abbrev o24:Sh:=.one v14
abbrev o25:Sh:=.one v16
abbrev o26:Sh:=.one v17
abbrev o27:Sh:=.one v18
abbrev o28:Sh:=.one v28
abbrev a0:Sh:=.agg [v1,v2,v3]
abbrev a1:Sh:=.agg [v0,v0,v4,v1,v1,v6,v6,v6,v1,v1,v5]
abbrev a2:Sh:=.agg [v1,v1,v1,v1,v1,v1,v1,v1,v1,v1,v1,v7,v8,v9,v5]
abbrev a3:Sh:=.agg [v1,v1,v1,v1,v1,v1,v1,v1]
abbrev a4:Sh:=.agg [v1,v1,v1,v6]
abbrev a5:Sh:=.agg [v1,v1,v6,v6,v6]
abbrev a6:Sh:=.agg [v1,v1,v1,v1,v1,v1,v1]
abbrev a7:Sh:=.agg [v1,v1,v1,v1,v1]
abbrev a8:Sh:=.agg [v1,v1,v1,v1,v1,v1,v1,v1,v1,v1,v1,v1,v1]
abbrev a9:Sh:=.agg [v1,v1,v1,v1,v1,v1,v6]
abbrev a10:Sh:=.agg [v1,v1,v1,v1,v1,v1,v1,v1,v1,v1,v1,v24,v25,v26,v23]
abbrev a11:Sh:=.agg [v13,v13]
abbrev a12:Sh:=.blk [v1,v1,v1,v6]
abbrev a13:Sh:=.agg [v1,v2,v14]
abbrev a14:Sh:=.agg [v1,v1,v1,v1,v1,v1,v1,v1,v1,v1,v1,v16,v17,v11,v12]
abbrev a15:Sh:=.agg [v1,v1,v10,v18]
abbrev a16:Sh:=.blk [v1,v1,v27,v28]
abbrev a17:Sh:=.blk [v1,v1,v1,v1,v1]
abbrev a18:Sh:=.agg [v1,v1,v27,v28]
abbrev a19:Sh:=.blk [v13,v13,v15,v1,v1,v6,v6,v6,v1,v1,v12]
abbrev a20:Sh:=.agg [v13,v13,v15,v1,v1,v6,v6,v6,v1,v1,v12]
noncomputable def table:List (Nat×TI):=[(2,⟨t0,false,8,[],none⟩),
 (3,⟨t0,false,8,[],none⟩),
 (4,⟨t1,false,1,[],none⟩),
 (5,⟨t2,false,1,[],none⟩),
 (6,⟨t2,false,1,[],none⟩),
 (7,⟨t3,true,24,[(0,1,false),(1,1,false),(2,1,false),(3,1,false)],none⟩),
 (8,⟨t3,true,24,[(0,1,false),(1,1,false),(2,1,false),(3,1,false)],none⟩),
 (9,⟨t4,false,16,[],none⟩),
 (10,⟨t4,false,16,[],none⟩),
 (11,⟨t4,false,16,[],none⟩),
 (12,⟨t5,false,8,[],none⟩),
 (13,⟨t6,true,24,[(0,1,false),(1,1,false)],none⟩),
 (14,⟨t6,true,24,[(0,1,false),(1,1,false)],none⟩),
 (21,⟨t7,false,4,[],none⟩),
 (22,⟨t8,true,64,[(0,1,false),(1,1,false),(2,1,false),(3,1,false),(4,1,false),(5,1,false),(6,1,false),(7,1,false)],none⟩),
 (23,⟨t8,true,64,[(0,1,false),(1,1,false),(2,1,false),(3,1,false),(4,1,false),(5,1,false),(6,1,false),(7,1,false)],none⟩),
 (24,⟨t14,false,24,[],some 172⟩),
 (25,⟨t16,false,24,[],some 187⟩),
 (26,⟨t18,false,24,[],some 189⟩),
 (27,⟨t19,false,24,[],some 191⟩),
 (28,⟨t20,true,184,[(0,8,true),(8,1,false),(9,1,false),(10,1,false),(11,1,false),(12,1,false),(13,1,false),(14,1,false)],none⟩),
 (29,⟨t20,true,184,[(0,8,true),(8,1,false),(9,1,false),(10,1,false),(11,1,false),(12,1,false),(13,1,false),(14,1,false)],none⟩),
 (32,⟨t8,true,64,[(0,1,false),(1,1,false),(2,1,false),(3,1,false),(4,1,false),(5,1,false),(6,1,false),(7,1,false)],none⟩),
 (33,⟨t23,false,24,[],some 98⟩),
 (34,⟨t24,false,24,[],some 120⟩),
 (35,⟨t25,false,24,[],some 175⟩),
 (36,⟨t26,false,24,[],some 150⟩),
 (37,⟨t27,true,184,[(0,8,true),(8,1,false),(9,1,false),(10,1,false),(11,1,false),(12,1,false),(13,1,false),(14,1,false)],none⟩),
 (38,⟨t27,true,184,[(0,8,true),(8,1,false),(9,1,false),(10,1,false),(11,1,false),(12,1,false),(13,1,false),(14,1,false)],none⟩),
 (43,⟨t12,true,56,[(0,1,false),(1,1,false),(2,1,false),(3,1,false),(4,1,false),(5,1,false),(6,1,false)],none⟩),
 (44,⟨t12,true,56,[(0,1,false),(1,1,false),(2,1,false),(3,1,false),(4,1,false),(5,1,false),(6,1,false)],none⟩),
 (48,⟨t29,false,24,[],some 125⟩),
 (49,⟨t31,false,24,[],some 127⟩),
 (55,⟨t33,false,24,[],some 93⟩),
 (57,⟨t35,false,24,[],some 94⟩),
 (65,⟨t37,false,24,[],some 70⟩),
 (67,⟨t39,false,24,[],some 139⟩),
 (68,⟨t40,true,64,[(0,1,false),(1,1,false),(2,1,false),(3,1,false)],none⟩),
 (69,⟨t40,true,64,[(0,1,false),(1,1,false),(2,1,false),(3,1,false)],none⟩),
 (70,⟨t36,false,24,[],some 3⟩),
 (86,⟨t41,false,24,[],some 5⟩),
 (91,⟨t42,false,24,[],some 208⟩),
 (92,⟨t32,true,48,[(0,1,false),(1,1,false)],none⟩),
 (93,⟨t32,true,48,[(0,1,false),(1,1,false)],none⟩),
 (94,⟨t34,false,24,[],some 161⟩),
 (95,⟨t43,true,24,[(0,1,false),(1,1,false),(2,1,false),(3,1,false),(4,1,false)],none⟩),
 (96,⟨t43,true,24,[(0,1,false),(1,1,false),(2,1,false),(3,1,false),(4,1,false)],none⟩),
 (97,⟨t22,true,136,[(0,2,true),(2,1,false),(3,5,true),(8,1,false),(9,1,false),(10,1,false)],none⟩),
 (98,⟨t22,true,136,[(0,2,true),(2,1,false),(3,5,true),(8,1,false),(9,1,false),(10,1,false)],none⟩),
 (117,⟨t38,true,40,[(0,1,false),(1,1,false),(2,1,false),(3,1,false),(4,1,false)],none⟩),
 (118,⟨t38,true,40,[(0,1,false),(1,1,false),(2,1,false),(3,1,false),(4,1,false)],none⟩),
 (119,⟨t15,true,104,[(0,1,false),(1,1,false),(2,1,false),(3,1,false),(4,1,false),(5,1,false),(6,5,true),(11,1,false),(12,1,false)],none⟩),
 (120,⟨t15,true,104,[(0,1,false),(1,1,false),(2,1,false),(3,1,false),(4,1,false),(5,1,false),(6,5,true),(11,1,false),(12,1,false)],none⟩),
 (123,⟨t44,false,24,[],some 244⟩),
 (124,⟨t28,true,48,[(0,1,false),(1,1,false)],none⟩),
 (125,⟨t28,true,48,[(0,1,false),(1,1,false)],none⟩),
 (127,⟨t30,false,24,[],some 202⟩),
 (138,⟨t38,true,40,[(0,1,false),(1,1,false),(2,1,false),(3,1,false),(4,1,false)],none⟩),
 (139,⟨t38,true,40,[(0,1,false),(1,1,false),(2,1,false),(3,1,false),(4,1,false)],none⟩),
 (149,⟨t12,true,56,[(0,1,false),(1,1,false),(2,1,false),(3,1,false),(4,1,false),(5,1,false),(6,1,false)],none⟩),
 (150,⟨t12,true,56,[(0,1,false),(1,1,false),(2,1,false),(3,1,false),(4,1,false),(5,1,false),(6,1,false)],none⟩),
 (159,⟨t45,false,24,[],some 182⟩),
 (160,⟨t21,true,56,[(0,1,false),(1,1,false),(2,1,false)],none⟩),
 (161,⟨t21,true,56,[(0,1,false),(1,1,false),(2,1,false)],none⟩),
 (170,⟨t43,true,24,[(0,1,false),(1,1,false),(2,1,false),(3,1,false),(4,1,false)],none⟩),
 (171,⟨t13,true,136,[(0,2,true),(2,1,false),(3,5,true),(8,1,false),(9,1,false),(10,1,false)],none⟩),
 (172,⟨t13,true,136,[(0,2,true),(2,1,false),(3,5,true),(8,1,false),(9,1,false),(10,1,false)],none⟩),
 (174,⟨t17,true,56,[(0,1,false),(1,1,false),(2,1,false),(3,1,false),(4,1,false),(5,1,false),(6,1,false)],none⟩),
 (175,⟨t17,true,56,[(0,1,false),(1,1,false),(2,1,false),(3,1,false),(4,1,false),(5,1,false),(6,1,false)],none⟩),
 (181,⟨t10,true,32,[(0,1,false),(1,1,false),(2,1,false),(3,1,false)],none⟩),
 (182,⟨t10,true,32,[(0,1,false),(1,1,false),(2,1,false),(3,1,false)],none⟩),
 (185,⟨t38,true,40,[(0,1,false),(1,1,false),(2,1,false),(3,1,false),(4,1,false)],none⟩),
 (186,⟨t15,true,104,[(0,1,false),(1,1,false),(2,1,false),(3,1,false),(4,1,false),(5,1,false),(6,5,true),(11,1,false),(12,1,false)],none⟩),
 (187,⟨t15,true,104,[(0,1,false),(1,1,false),(2,1,false),(3,1,false),(4,1,false),(5,1,false),(6,5,true),(11,1,false),(12,1,false)],none⟩),
 (189,⟨t17,true,56,[(0,1,false),(1,1,false),(2,1,false),(3,1,false),(4,1,false),(5,1,false),(6,1,false)],none⟩),
 (191,⟨t12,true,56,[(0,1,false),(1,1,false),(2,1,false),(3,1,false),(4,1,false),(5,1,false),(6,1,false)],none⟩),
 (200,⟨t46,false,24,[],some 265⟩),
 (201,⟨t11,true,56,[(0,1,false),(1,1,false),(2,1,false)],none⟩),
 (202,⟨t11,true,56,[(0,1,false),(1,1,false),(2,1,false)],none⟩),
 (207,⟨t9,true,16,[(0,1,false),(1,1,false)],none⟩),
 (208,⟨t9,true,16,[(0,1,false),(1,1,false)],none⟩),
 (218,⟨t47,true,48,[(0,1,false),(1,1,false),(2,1,false),(3,1,false)],none⟩),
 (219,⟨t47,true,48,[(0,1,false),(1,1,false),(2,1,false),(3,1,false)],none⟩),
 (224,⟨t48,true,40,[(0,1,false),(1,1,false),(2,1,false)],none⟩),
 (225,⟨t48,true,40,[(0,1,false),(1,1,false),(2,1,false)],none⟩),
 (244,⟨t9,true,16,[(0,1,false),(1,1,false)],none⟩),
 (256,⟨t5,false,8,[],none⟩),
 (265,⟨t10,true,32,[(0,1,false),(1,1,false),(2,1,false),(3,1,false)],none⟩),
 (268,⟨t47,true,48,[(0,1,false),(1,1,false),(2,1,false),(3,1,false)],none⟩),
 (269,⟨t47,true,48,[(0,1,false),(1,1,false),(2,1,false),(3,1,false)],none⟩),
 (277,⟨t0,false,8,[],none⟩),
 (285,⟨t49,false,4,[],none⟩),
 (287,⟨t5,false,8,[],none⟩),
 (295,⟨t50,true,24,[(0,1,false),(1,1,false),(2,1,false)],none⟩),
 (296,⟨t50,true,24,[(0,1,false),(1,1,false),(2,1,false)],none⟩),
 (300,⟨t5,false,8,[],none⟩),
 (308,⟨t51,false,24,[],some 296⟩),
 (323,⟨t2,false,1,[],none⟩),
 (324,⟨t2,false,1,[],none⟩),
 (327,⟨t7,false,4,[],none⟩),
 (328,⟨t7,false,4,[],none⟩)]
theorem UC:Cs Tryz.prog table=true:=by kernel_rfl
noncomputable def E8:List Nat:=[32,96,118,120,175,150,44,182,208]
theorem VC:(E8.all fun t=>vB Tryz.prog (uE table) t)=true:=by kernel_rfl
noncomputable def maps:List (Nat×IntKind):=[(236,.i64)]
theorem U0:(maps.all fun p=>Ct Tryz.prog p.1 p.2)=true:=by kernel_rfl
noncomputable def env(nt:Nat)(tr dp:List Nat):Env:={ ti:=uE table,deep:=fun d=>dp.any (Nat.beq d),trunc:=fun d=>tr.any (Nat.beq d),ro:=fun _=>false,EJ:=fun t=>E8.any (Nat.beq t),mp:=w4 maps,nt:=nt }
theorem bn(nt:Nat)(tr dp:List Nat):cm Tryz.prog (env nt tr dp):=DD (by kernel_rfl) UC VC U0 _ rfl (fun _=>rfl) rfl
noncomputable def u1{A0 B C:Type}(f:A0->C)(x:A0×B):C:=f x.1
noncomputable def u2{A0 A1 B C:Type}(f:A0->A1->C)(x:A0×A1×B):C:=f x.1 x.2.1
noncomputable def u3{A0 A1 A2 B C:Type}(f:A0->A1->A2->C)(x:A0×A1×A2×B):C:=f x.1 x.2.1 x.2.2.1
noncomputable def u4{A0 A1 A2 A3 B C:Type}(f:A0->A1->A2->A3->C)(x:A0×A1×A2×A3×B):C:=f x.1 x.2.1 x.2.2.1 x.2.2.2.1
noncomputable def u5{A0 A1 A2 A3 A4 B C:Type}(f:A0->A1->A2->A3->A4->C)(x:A0×A1×A2×A3×A4×B):C:=f x.1 x.2.1 x.2.2.1 x.2.2.2.1 x.2.2.2.2.1
noncomputable def u6{A0 A1 A2 A3 A4 A5 B C:Type}(f:A0->A1->A2->A3->A4->A5->C)(x:A0×A1×A2×A3×A4×A5×B):C:=f x.1 x.2.1 x.2.2.1 x.2.2.2.1 x.2.2.2.2.1 x.2.2.2.2.2.1
noncomputable def u7{A0 A1 A2 A3 A4 A5 A6 B C:Type}(f:A0->A1->A2->A3->A4->A5->A6->C)(x:A0×A1×A2×A3×A4×A5×A6×B):C:=f x.1 x.2.1 x.2.2.1 x.2.2.2.1 x.2.2.2.2.1 x.2.2.2.2.2.1 x.2.2.2.2.2.2.1
noncomputable def u8{A0 A1 A2 A3 A4 A5 A6 A7 B C:Type}(f:A0->A1->A2->A3->A4->A5->A6->A7->C)(x:A0×A1×A2×A3×A4×A5×A6×A7×B):C:=f x.1 x.2.1 x.2.2.1 x.2.2.2.1 x.2.2.2.2.1 x.2.2.2.2.2.1 x.2.2.2.2.2.2.1 x.2.2.2.2.2.2.2.1
noncomputable def Ys{A0 A1 A2 A3 A4 A5 A6 A7 A8 A9 B C:Type}(f:A0->A1->A2->A3->A4->A5->A6->A7->A8->A9->C)(x:A0×A1×A2×A3×A4×A5×A6×A7×A8×A9×B):C:=f x.1 x.2.1 x.2.2.1 x.2.2.2.1 x.2.2.2.2.1 x.2.2.2.2.2.1 x.2.2.2.2.2.2.1 x.2.2.2.2.2.2.2.1 x.2.2.2.2.2.2.2.2.1 x.2.2.2.2.2.2.2.2.2.1
noncomputable def u11{A0 A1 A2 A3 A4 A5 A6 A7 A8 A9 Pg B C:Type}(f:A0->A1->A2->A3->A4->A5->A6->A7->A8->A9->Pg->C)(x:A0×A1×A2×A3×A4×A5×A6×A7×A8×A9×Pg×B):C:=f x.1 x.2.1 x.2.2.1 x.2.2.2.1 x.2.2.2.2.1 x.2.2.2.2.2.1 x.2.2.2.2.2.2.1 x.2.2.2.2.2.2.2.1 x.2.2.2.2.2.2.2.2.1 x.2.2.2.2.2.2.2.2.2.1 x.2.2.2.2.2.2.2.2.2.2.1
noncomputable def Yt{A0 A1 A2 A3 A4 A5 A6 A7 A8 A9 Pg PR B C:Type}(f:A0->A1->A2->A3->A4->A5->A6->A7->A8->A9->Pg->PR->C)(x:A0×A1×A2×A3×A4×A5×A6×A7×A8×A9×Pg×PR×B):C:=f x.1 x.2.1 x.2.2.1 x.2.2.2.1 x.2.2.2.2.1 x.2.2.2.2.2.1 x.2.2.2.2.2.2.1 x.2.2.2.2.2.2.2.1 x.2.2.2.2.2.2.2.2.1 x.2.2.2.2.2.2.2.2.2.1 x.2.2.2.2.2.2.2.2.2.2.1 x.2.2.2.2.2.2.2.2.2.2.2.1
noncomputable def Yu{A0 A1 A2 A3 A4 A5 A6 A7 A8 A9 Pg PR QJ B C:Type}(f:A0->A1->A2->A3->A4->A5->A6->A7->A8->A9->Pg->PR->QJ->C)(x:A0×A1×A2×A3×A4×A5×A6×A7×A8×A9×Pg×PR×QJ×B):C:=f x.1 x.2.1 x.2.2.1 x.2.2.2.1 x.2.2.2.2.1 x.2.2.2.2.2.1 x.2.2.2.2.2.2.1 x.2.2.2.2.2.2.2.1 x.2.2.2.2.2.2.2.2.1 x.2.2.2.2.2.2.2.2.2.1 x.2.2.2.2.2.2.2.2.2.2.1 x.2.2.2.2.2.2.2.2.2.2.2.1 x.2.2.2.2.2.2.2.2.2.2.2.2.1
noncomputable def u14{A0 A1 A2 A3 A4 A5 A6 A7 A8 A9 Pg PR QJ Q3 B C:Type}(f:A0->A1->A2->A3->A4->A5->A6->A7->A8->A9->Pg->PR->QJ->Q3->C)(x:A0×A1×A2×A3×A4×A5×A6×A7×A8×A9×Pg×PR×QJ×Q3×B):C:=f x.1 x.2.1 x.2.2.1 x.2.2.2.1 x.2.2.2.2.1 x.2.2.2.2.2.1 x.2.2.2.2.2.2.1 x.2.2.2.2.2.2.2.1 x.2.2.2.2.2.2.2.2.1 x.2.2.2.2.2.2.2.2.2.1 x.2.2.2.2.2.2.2.2.2.2.1 x.2.2.2.2.2.2.2.2.2.2.2.1 x.2.2.2.2.2.2.2.2.2.2.2.2.1 x.2.2.2.2.2.2.2.2.2.2.2.2.2.1
noncomputable def VM{A0 A1 A2 A3 A4 A5 A6 A7 A8 A9 Pg PR QJ Q3 RI B C:Type}(f:A0->A1->A2->A3->A4->A5->A6->A7->A8->A9->Pg->PR->QJ->Q3->RI->C)(x:A0×A1×A2×A3×A4×A5×A6×A7×A8×A9×Pg×PR×QJ×Q3×RI×B):C:=f x.1 x.2.1 x.2.2.1 x.2.2.2.1 x.2.2.2.2.1 x.2.2.2.2.2.1 x.2.2.2.2.2.2.1 x.2.2.2.2.2.2.2.1 x.2.2.2.2.2.2.2.2.1 x.2.2.2.2.2.2.2.2.2.1 x.2.2.2.2.2.2.2.2.2.2.1 x.2.2.2.2.2.2.2.2.2.2.2.1 x.2.2.2.2.2.2.2.2.2.2.2.2.1 x.2.2.2.2.2.2.2.2.2.2.2.2.2.1 x.2.2.2.2.2.2.2.2.2.2.2.2.2.2.1
noncomputable def u16{A0 A1 A2 A3 A4 A5 A6 A7 A8 A9 Pg PR QJ Q3 RI Ss B C:Type}(f:A0->A1->A2->A3->A4->A5->A6->A7->A8->A9->Pg->PR->QJ->Q3->RI->Ss->C)(x:A0×A1×A2×A3×A4×A5×A6×A7×A8×A9×Pg×PR×QJ×Q3×RI×Ss×B):C:=f x.1 x.2.1 x.2.2.1 x.2.2.2.1 x.2.2.2.2.1 x.2.2.2.2.2.1 x.2.2.2.2.2.2.1 x.2.2.2.2.2.2.2.1 x.2.2.2.2.2.2.2.2.1 x.2.2.2.2.2.2.2.2.2.1 x.2.2.2.2.2.2.2.2.2.2.1 x.2.2.2.2.2.2.2.2.2.2.2.1 x.2.2.2.2.2.2.2.2.2.2.2.2.1 x.2.2.2.2.2.2.2.2.2.2.2.2.2.1 x.2.2.2.2.2.2.2.2.2.2.2.2.2.2.1 x.2.2.2.2.2.2.2.2.2.2.2.2.2.2.2.1
noncomputable def Yv{A0 A1 A2 A3 A4 A5 A6 A7 A8 A9 Pg PR QJ Q3 RI Ss Tm B C:Type}(f:A0->A1->A2->A3->A4->A5->A6->A7->A8->A9->Pg->PR->QJ->Q3->RI->Ss->Tm->C)(x:A0×A1×A2×A3×A4×A5×A6×A7×A8×A9×Pg×PR×QJ×Q3×RI×Ss×Tm×B):C:=f x.1 x.2.1 x.2.2.1 x.2.2.2.1 x.2.2.2.2.1 x.2.2.2.2.2.1 x.2.2.2.2.2.2.1 x.2.2.2.2.2.2.2.1 x.2.2.2.2.2.2.2.2.1 x.2.2.2.2.2.2.2.2.2.1 x.2.2.2.2.2.2.2.2.2.2.1 x.2.2.2.2.2.2.2.2.2.2.2.1 x.2.2.2.2.2.2.2.2.2.2.2.2.1 x.2.2.2.2.2.2.2.2.2.2.2.2.2.1 x.2.2.2.2.2.2.2.2.2.2.2.2.2.2.1 x.2.2.2.2.2.2.2.2.2.2.2.2.2.2.2.1 x.2.2.2.2.2.2.2.2.2.2.2.2.2.2.2.2.1
noncomputable def u22{A0 A1 A2 A3 A4 A5 A6 A7 A8 A9 Pg PR QJ Q3 RI Ss Tm Ua Ub Uc Ud Ue B C:Type}(f:A0->A1->A2->A3->A4->A5->A6->A7->A8->A9->Pg->PR->QJ->Q3->RI->Ss->Tm->Ua->Ub->Uc->Ud->Ue->C)(x:A0×A1×A2×A3×A4×A5×A6×A7×A8×A9×Pg×PR×QJ×Q3×RI×Ss×Tm×Ua×Ub×Uc×Ud×Ue×B):C:=f x.1 x.2.1 x.2.2.1 x.2.2.2.1 x.2.2.2.2.1 x.2.2.2.2.2.1 x.2.2.2.2.2.2.1 x.2.2.2.2.2.2.2.1 x.2.2.2.2.2.2.2.2.1 x.2.2.2.2.2.2.2.2.2.1 x.2.2.2.2.2.2.2.2.2.2.1 x.2.2.2.2.2.2.2.2.2.2.2.1 x.2.2.2.2.2.2.2.2.2.2.2.2.1 x.2.2.2.2.2.2.2.2.2.2.2.2.2.1 x.2.2.2.2.2.2.2.2.2.2.2.2.2.2.1 x.2.2.2.2.2.2.2.2.2.2.2.2.2.2.2.1 x.2.2.2.2.2.2.2.2.2.2.2.2.2.2.2.2.1 x.2.2.2.2.2.2.2.2.2.2.2.2.2.2.2.2.2.1 x.2.2.2.2.2.2.2.2.2.2.2.2.2.2.2.2.2.2.1 x.2.2.2.2.2.2.2.2.2.2.2.2.2.2.2.2.2.2.2.1 x.2.2.2.2.2.2.2.2.2.2.2.2.2.2.2.2.2.2.2.2.1 x.2.2.2.2.2.2.2.2.2.2.2.2.2.2.2.2.2.2.2.2.2.1
noncomputable def u26{A0 A1 A2 A3 A4 A5 A6 A7 A8 A9 Pg PR QJ Q3 RI Ss Tm Ua Ub Uc Ud Ue Vb Vc Vd Ve B C:Type}(f:A0->A1->A2->A3->A4->A5->A6->A7->A8->A9->Pg->PR->QJ->Q3->RI->Ss->Tm->Ua->Ub->Uc->Ud->Ue->Vb->Vc->Vd->Ve->C)(x:A0×A1×A2×A3×A4×A5×A6×A7×A8×A9×Pg×PR×QJ×Q3×RI×Ss×Tm×Ua×Ub×Uc×Ud×Ue×Vb×Vc×Vd×Ve×B):C:=f x.1 x.2.1 x.2.2.1 x.2.2.2.1 x.2.2.2.2.1 x.2.2.2.2.2.1 x.2.2.2.2.2.2.1 x.2.2.2.2.2.2.2.1 x.2.2.2.2.2.2.2.2.1 x.2.2.2.2.2.2.2.2.2.1 x.2.2.2.2.2.2.2.2.2.2.1 x.2.2.2.2.2.2.2.2.2.2.2.1 x.2.2.2.2.2.2.2.2.2.2.2.2.1 x.2.2.2.2.2.2.2.2.2.2.2.2.2.1 x.2.2.2.2.2.2.2.2.2.2.2.2.2.2.1 x.2.2.2.2.2.2.2.2.2.2.2.2.2.2.2.1 x.2.2.2.2.2.2.2.2.2.2.2.2.2.2.2.2.1 x.2.2.2.2.2.2.2.2.2.2.2.2.2.2.2.2.2.1 x.2.2.2.2.2.2.2.2.2.2.2.2.2.2.2.2.2.2.1 x.2.2.2.2.2.2.2.2.2.2.2.2.2.2.2.2.2.2.2.1 x.2.2.2.2.2.2.2.2.2.2.2.2.2.2.2.2.2.2.2.2.1 x.2.2.2.2.2.2.2.2.2.2.2.2.2.2.2.2.2.2.2.2.2.1 x.2.2.2.2.2.2.2.2.2.2.2.2.2.2.2.2.2.2.2.2.2.2.1 x.2.2.2.2.2.2.2.2.2.2.2.2.2.2.2.2.2.2.2.2.2.2.2.1 x.2.2.2.2.2.2.2.2.2.2.2.2.2.2.2.2.2.2.2.2.2.2.2.2.1 x.2.2.2.2.2.2.2.2.2.2.2.2.2.2.2.2.2.2.2.2.2.2.2.2.2.1
noncomputable def u28{A0 A1 A2 A3 A4 A5 A6 A7 A8 A9 Pg PR QJ Q3 RI Ss Tm Ua Ub Uc Ud Ue Vb Vc Vd Ve VY VZ B C:Type}(f:A0->A1->A2->A3->A4->A5->A6->A7->A8->A9->Pg->PR->QJ->Q3->RI->Ss->Tm->Ua->Ub->Uc->Ud->Ue->Vb->Vc->Vd->Ve->VY->VZ->C)(x:A0×A1×A2×A3×A4×A5×A6×A7×A8×A9×Pg×PR×QJ×Q3×RI×Ss×Tm×Ua×Ub×Uc×Ud×Ue×Vb×Vc×Vd×Ve×VY×VZ×B):C:=f x.1 x.2.1 x.2.2.1 x.2.2.2.1 x.2.2.2.2.1 x.2.2.2.2.2.1 x.2.2.2.2.2.2.1 x.2.2.2.2.2.2.2.1 x.2.2.2.2.2.2.2.2.1 x.2.2.2.2.2.2.2.2.2.1 x.2.2.2.2.2.2.2.2.2.2.1 x.2.2.2.2.2.2.2.2.2.2.2.1 x.2.2.2.2.2.2.2.2.2.2.2.2.1 x.2.2.2.2.2.2.2.2.2.2.2.2.2.1 x.2.2.2.2.2.2.2.2.2.2.2.2.2.2.1 x.2.2.2.2.2.2.2.2.2.2.2.2.2.2.2.1 x.2.2.2.2.2.2.2.2.2.2.2.2.2.2.2.2.1 x.2.2.2.2.2.2.2.2.2.2.2.2.2.2.2.2.2.1 x.2.2.2.2.2.2.2.2.2.2.2.2.2.2.2.2.2.2.1 x.2.2.2.2.2.2.2.2.2.2.2.2.2.2.2.2.2.2.2.1 x.2.2.2.2.2.2.2.2.2.2.2.2.2.2.2.2.2.2.2.2.1 x.2.2.2.2.2.2.2.2.2.2.2.2.2.2.2.2.2.2.2.2.2.1 x.2.2.2.2.2.2.2.2.2.2.2.2.2.2.2.2.2.2.2.2.2.2.1 x.2.2.2.2.2.2.2.2.2.2.2.2.2.2.2.2.2.2.2.2.2.2.2.1 x.2.2.2.2.2.2.2.2.2.2.2.2.2.2.2.2.2.2.2.2.2.2.2.2.1 x.2.2.2.2.2.2.2.2.2.2.2.2.2.2.2.2.2.2.2.2.2.2.2.2.2.1 x.2.2.2.2.2.2.2.2.2.2.2.2.2.2.2.2.2.2.2.2.2.2.2.2.2.2.1 x.2.2.2.2.2.2.2.2.2.2.2.2.2.2.2.2.2.2.2.2.2.2.2.2.2.2.2.1
noncomputable def u30{A0 A1 A2 A3 A4 A5 A6 A7 A8 A9 Pg PR QJ Q3 RI Ss Tm Ua Ub Uc Ud Ue Vb Vc Vd Ve VY VZ Yw Yx B C:Type}(f:A0->A1->A2->A3->A4->A5->A6->A7->A8->A9->Pg->PR->QJ->Q3->RI->Ss->Tm->Ua->Ub->Uc->Ud->Ue->Vb->Vc->Vd->Ve->VY->VZ->Yw->Yx->C)(x:A0×A1×A2×A3×A4×A5×A6×A7×A8×A9×Pg×PR×QJ×Q3×RI×Ss×Tm×Ua×Ub×Uc×Ud×Ue×Vb×Vc×Vd×Ve×VY×VZ×Yw×Yx×B):C:=f x.1 x.2.1 x.2.2.1 x.2.2.2.1 x.2.2.2.2.1 x.2.2.2.2.2.1 x.2.2.2.2.2.2.1 x.2.2.2.2.2.2.2.1 x.2.2.2.2.2.2.2.2.1 x.2.2.2.2.2.2.2.2.2.1 x.2.2.2.2.2.2.2.2.2.2.1 x.2.2.2.2.2.2.2.2.2.2.2.1 x.2.2.2.2.2.2.2.2.2.2.2.2.1 x.2.2.2.2.2.2.2.2.2.2.2.2.2.1 x.2.2.2.2.2.2.2.2.2.2.2.2.2.2.1 x.2.2.2.2.2.2.2.2.2.2.2.2.2.2.2.1 x.2.2.2.2.2.2.2.2.2.2.2.2.2.2.2.2.1 x.2.2.2.2.2.2.2.2.2.2.2.2.2.2.2.2.2.1 x.2.2.2.2.2.2.2.2.2.2.2.2.2.2.2.2.2.2.1 x.2.2.2.2.2.2.2.2.2.2.2.2.2.2.2.2.2.2.2.1 x.2.2.2.2.2.2.2.2.2.2.2.2.2.2.2.2.2.2.2.2.1 x.2.2.2.2.2.2.2.2.2.2.2.2.2.2.2.2.2.2.2.2.2.1 x.2.2.2.2.2.2.2.2.2.2.2.2.2.2.2.2.2.2.2.2.2.2.1 x.2.2.2.2.2.2.2.2.2.2.2.2.2.2.2.2.2.2.2.2.2.2.2.1 x.2.2.2.2.2.2.2.2.2.2.2.2.2.2.2.2.2.2.2.2.2.2.2.2.1 x.2.2.2.2.2.2.2.2.2.2.2.2.2.2.2.2.2.2.2.2.2.2.2.2.2.1 x.2.2.2.2.2.2.2.2.2.2.2.2.2.2.2.2.2.2.2.2.2.2.2.2.2.2.1 x.2.2.2.2.2.2.2.2.2.2.2.2.2.2.2.2.2.2.2.2.2.2.2.2.2.2.2.1 x.2.2.2.2.2.2.2.2.2.2.2.2.2.2.2.2.2.2.2.2.2.2.2.2.2.2.2.2.1 x.2.2.2.2.2.2.2.2.2.2.2.2.2.2.2.2.2.2.2.2.2.2.2.2.2.2.2.2.2.1
noncomputable def T0:List (bR×gY):=[]
theorem h0:tw Tryz.prog T0:=trivial
noncomputable def T1:List (bR×gY):=((174,[]),⟨true,[o0,o1],[o1],u2 Jq⟩)::T0
theorem h1:tw Tryz.prog T1:=fk (bn 12 [] []) h0 [] trivial Tryz.func174 (by kernel_rfl) fun x=>by kernel_rfl
noncomputable def T2:List (bR×gY):=((91,[]),⟨true,[.agg [v0,v0],o1],[o1],u3 Nk⟩)::T1
theorem h2:tw Tryz.prog T2:=fk (bn 18 [] []) h1 [] trivial Tryz.func91 (by kernel_rfl) fun x=>by kernel_rfl
noncomputable def T3:List (bR×gY):=((109,[]),⟨true,[o2,o1],[o1],u2 KG⟩)::T2
theorem h3:tw Tryz.prog T3:=fk (bn 12 [] []) h2 [] trivial Tryz.func109 (by kernel_rfl) fun x=>by kernel_rfl
noncomputable def T4:List (bR×gY):=((230,[]),⟨true,[o3,o1],[o1],u2 Nj⟩)::T3
theorem h4:tw Tryz.prog T4:=fk (bn 12 [] []) h3 [] trivial Tryz.func230 (by kernel_rfl) fun x=>by kernel_rfl
noncomputable def T5:List (bR×gY):=((175,[]),⟨true,[a0,o1],[o1],u4 jn⟩)::T4
theorem h5:tw Tryz.prog T5:=fk (bn 18 [] []) h4 [] trivial Tryz.func175 (by kernel_rfl) fun x=>by kernel_rfl
noncomputable def Ma:ep:=⟨[(0,o4)],[(1,o1),(5,o1)],[(.ret,[(4,o1)]),(.exit 0,[(1,o1)])],qe⟩
theorem O7:mT Tryz.prog (env 27 [] []) (lp 0 (body Tryz.f92) 0) Ma:=lk (bn _ _ _) h5 (n:=0) [] trivial (by kernel_rfl) fun k x=>by kernel_rfl
noncomputable def T6:List (bR×gY):=((92,[]),⟨true,[o4,o1],[o1],u2 kB⟩)::T5
theorem h6:tw Tryz.prog T6:=fk (bn 27 [] []) h5 [(0,Ma)] ⟨O7,trivial⟩ Tryz.func92 (by kernel_rfl) fun x=>by kernel_rfl
noncomputable def T7:List (bR×gY):=((61,[]),⟨true,[o5,o1],[o1],u2 H6⟩)::T6
theorem h7:tw Tryz.prog T7:=fk (bn 12 [] []) h6 [] trivial Tryz.func61 (by kernel_rfl) fun x=>by kernel_rfl
noncomputable def T8:List (bR×gY):=((143,[]),⟨true,[a1,o1],[o1],Yt IE⟩)::T7
theorem h8:tw Tryz.prog T8:=fk (bn 24 [] []) h7 [] trivial Tryz.func143 (by kernel_rfl) fun x=>by kernel_rfl
noncomputable def NJ:ep:=⟨[(0,o6)],[(1,o1),(5,o1)],[(.ret,[(4,o1)]),(.exit 0,[(1,o1)])],Ig⟩
theorem Qc:mT Tryz.prog (env 27 [] []) (lp 0 (body Tryz.f58) 0) NJ:=lk (bn _ _ _) h8 (n:=0) [] trivial (by kernel_rfl) fun k x=>by kernel_rfl
noncomputable def T9:List (bR×gY):=((58,[]),⟨true,[o6,o1],[o1],u2 i4⟩)::T8
theorem h9:tw Tryz.prog T9:=fk (bn 27 [] []) h8 [(0,NJ)] ⟨Qc,trivial⟩ Tryz.func58 (by kernel_rfl) fun x=>by kernel_rfl
noncomputable def Yy:List (bR×gY):=((59,[]),⟨true,[o7,o1],[o1],u2 Jp⟩)::T9
theorem F8:tw Tryz.prog Yy:=fk (bn 12 [] []) h9 [] trivial Tryz.func59 (by kernel_rfl) fun x=>by kernel_rfl
noncomputable def Yz:List (bR×gY):=((60,[]),⟨true,[o8,o1],[o1],u2 Kv⟩)::Yy
theorem h11:tw Tryz.prog Yz:=fk (bn 12 [] []) F8 [] trivial Tryz.func60 (by kernel_rfl) fun x=>by kernel_rfl
noncomputable def YA:List (bR×gY):=((11,[]),⟨true,[a2,o1],[o1],u16 kW⟩)::Yz
theorem h12:tw Tryz.prog YA:=fk (bn 30 [] []) h11 [] trivial Tryz.func11 (by kernel_rfl) fun x=>by kernel_rfl
noncomputable def NI:ep:=⟨[(0,o9)],[(1,o1),(5,o1)],[(.ret,[(4,o1)]),(.exit 0,[(1,o1)])],Lf⟩
theorem Qb:mT Tryz.prog (env 27 [] []) (lp 0 (body Tryz.f34) 0) NI:=lk (bn _ _ _) h12 (n:=0) [] trivial (by kernel_rfl) fun k x=>by kernel_rfl
noncomputable def YB:List (bR×gY):=((34,[]),⟨true,[o9,o1],[o1],u2 LJ⟩)::YA
theorem h13:tw Tryz.prog YB:=fk (bn 27 [] []) h12 [(0,NI)] ⟨Qb,trivial⟩ Tryz.func34 (by kernel_rfl) fun x=>by kernel_rfl
noncomputable def YC:List (bR×gY):=((24,[]),⟨true,[a3],[a3],u8 N3⟩)::YB
theorem h14:tw Tryz.prog YC:=fk (bn 29 [] []) h13 [] trivial Tryz.func24 (by kernel_rfl) fun x=>by kernel_rfl
noncomputable def YD:List (bR×gY):=((231,[]),⟨true,[.agg [v1,v1]],[.agg [v1,v1]],u2 Oz⟩)::YC
theorem h15:tw Tryz.prog YD:=fk (bn 11 [] []) h14 [] trivial Tryz.func231 (by kernel_rfl) fun x=>by kernel_rfl
noncomputable def NM:ep:=⟨[(0,o0)],[(3,o10),(4,o1)],[(.exit 0,[(3,o10)])],Il⟩
theorem Qf:mT Tryz.prog (env 23 [] []) (lp 0 (body Tryz.f177) 0) NM:=lk (bn _ _ _) h15 (n:=0) [] trivial (by kernel_rfl) fun k x=>by kernel_rfl
noncomputable def YE:List (bR×gY):=((177,[]),⟨true,[o0],[o10],u1 Jz⟩)::YD
theorem h16:tw Tryz.prog YE:=fk (bn 23 [] []) h15 [(0,NM)] ⟨Qf,trivial⟩ Tryz.func177 (by kernel_rfl) fun x=>by kernel_rfl
noncomputable def YF:List (bR×gY):=((95,[]),⟨true,[.agg [v0,v0]],[.agg [v19,v19]],u2 Nm⟩)::YE
theorem h17:tw Tryz.prog YF:=fk (bn 13 [] []) h16 [] trivial Tryz.func95 (by kernel_rfl) fun x=>by kernel_rfl
noncomputable def Od:ep:=⟨[(0,o2)],[(3,o11),(4,o1)],[(.exit 0,[(3,o11)])],Jw⟩
theorem QB:mT Tryz.prog (env 22 [] []) (lp 0 (body Tryz.f115) 0) Od:=lk (bn _ _ _) h17 (n:=0) [] trivial (by kernel_rfl) fun k x=>by kernel_rfl
noncomputable def YG:List (bR×gY):=((115,[]),⟨true,[o2],[o11],u1 KH⟩)::YF
theorem h18:tw Tryz.prog YG:=fk (bn 22 [] []) h17 [(0,Od)] ⟨QB,trivial⟩ Tryz.func115 (by kernel_rfl) fun x=>by kernel_rfl
noncomputable def YH:List (bR×gY):=((261,[]),⟨true,[a4],[a4],u4 Pk⟩)::YG
theorem h19:tw Tryz.prog YH:=fk (bn 17 [] []) h18 [] trivial Tryz.func261 (by kernel_rfl) fun x=>by kernel_rfl
noncomputable def Oc:ep:=⟨[(0,o3)],[(3,o12),(4,o1)],[(.exit 0,[(3,o12)])],Js⟩
theorem QA:mT Tryz.prog (env 23 [] []) (lp 0 (body Tryz.f232) 0) Oc:=lk (bn _ _ _) h19 (n:=0) [] trivial (by kernel_rfl) fun k x=>by kernel_rfl
noncomputable def YI:List (bR×gY):=((232,[]),⟨true,[o3],[o12],u1 Nl⟩)::YH
theorem h20:tw Tryz.prog YI:=fk (bn 23 [] []) h19 [(0,Oc)] ⟨QA,trivial⟩ Tryz.func232 (by kernel_rfl) fun x=>by kernel_rfl
noncomputable def YJ:List (bR×gY):=((178,[]),⟨true,[a0],[.agg [v1,v20,v21]],u3 H7⟩)::YI
theorem h21:tw Tryz.prog YJ:=fk (bn 16 [] []) h20 [] trivial Tryz.func178 (by kernel_rfl) fun x=>by kernel_rfl
noncomputable def Mb:ep:=⟨[(0,o4)],[(3,o13),(4,o1)],[(.exit 0,[(3,o13)])],Ju⟩
theorem O8:mT Tryz.prog (env 23 [] [7]) (lp 0 (body Tryz.f96) 0) Mb:=lk (bn _ _ _) h21 (n:=0) [] trivial (by kernel_rfl) fun k x=>by kernel_rfl
noncomputable def YK:List (bR×gY):=((96,[]),⟨true,[o4],[o13],u1 Jt⟩)::YJ
theorem h22:tw Tryz.prog YK:=fk (bn 23 [] [7]) h21 [(0,Mb)] ⟨O8,trivial⟩ Tryz.func96 (by kernel_rfl) fun x=>by kernel_rfl
noncomputable def YL:List (bR×gY):=((218,[]),⟨true,[a5],[a5],u5 Oy⟩)::YK
theorem h23:tw Tryz.prog YL:=fk (bn 20 [] []) h22 [] trivial Tryz.func218 (by kernel_rfl) fun x=>by kernel_rfl
noncomputable def YM:List (bR×gY):=((156,[]),⟨true,[a6],[a6],u7 N1⟩)::YL
theorem h24:tw Tryz.prog YM:=fk (bn 26 [] []) h23 [] trivial Tryz.func156 (by kernel_rfl) fun x=>by kernel_rfl
noncomputable def MR:ep:=⟨[(0,o5)],[(3,o14),(4,o1)],[(.exit 0,[(3,o14)])],xb⟩
theorem Pz:mT Tryz.prog (env 23 [] []) (lp 0 (body Tryz.f74) 0) MR:=lk (bn _ _ _) h24 (n:=0) [] trivial (by kernel_rfl) fun k x=>by kernel_rfl
noncomputable def YN:List (bR×gY):=((74,[]),⟨true,[o5],[o14],u1 H8⟩)::YM
theorem h25:tw Tryz.prog YN:=fk (bn 23 [] []) h24 [(0,MR)] ⟨Pz,trivial⟩ Tryz.func74 (by kernel_rfl) fun x=>by kernel_rfl
noncomputable def YO:List (bR×gY):=((153,[]),⟨true,[a1],[.agg [v19,v19,v22,v1,v1,v6,v6,v6,v1,v1,v23]],u11 KI⟩)::YN
theorem h26:tw Tryz.prog YO:=fk (bn 27 [] []) h25 [] trivial Tryz.func153 (by kernel_rfl) fun x=>by kernel_rfl
noncomputable def NL:ep:=⟨[(0,o6)],[(3,o15),(4,o1)],[(.exit 0,[(3,o15)])],Lg⟩
theorem Qe:mT Tryz.prog (env 23 [] [7]) (lp 0 (body Tryz.f71) 0) NL:=lk (bn _ _ _) h26 (n:=0) [] trivial (by kernel_rfl) fun k x=>by kernel_rfl
noncomputable def YP:List (bR×gY):=((71,[]),⟨true,[o6],[o15],u1 LL⟩)::YO
theorem h27:tw Tryz.prog YP:=fk (bn 23 [] [7]) h26 [(0,NL)] ⟨Qe,trivial⟩ Tryz.func71 (by kernel_rfl) fun x=>by kernel_rfl
noncomputable def YQ:List (bR×gY):=((219,[]),⟨true,[a7],[a7],u5 QO⟩)::YP
theorem h28:tw Tryz.prog YQ:=fk (bn 20 [] []) h27 [] trivial Tryz.func219 (by kernel_rfl) fun x=>by kernel_rfl
noncomputable def YR:List (bR×gY):=((154,[]),⟨true,[a8],[a8],Yu Nu⟩)::YQ
theorem h29:tw Tryz.prog YR:=fk (bn 33 [] []) h28 [] trivial Tryz.func154 (by kernel_rfl) fun x=>by kernel_rfl
noncomputable def Mc:ep:=⟨[(0,o7)],[(3,o16),(4,o1)],[(.exit 0,[(3,o16)])],qB⟩
theorem O9:mT Tryz.prog (env 23 [] []) (lp 0 (body Tryz.f72) 0) Mc:=lk (bn _ _ _) h29 (n:=0) [] trivial (by kernel_rfl) fun k x=>by kernel_rfl
noncomputable def YS:List (bR×gY):=((72,[]),⟨true,[o7],[o16],u1 Jy⟩)::YR
theorem h30:tw Tryz.prog YS:=fk (bn 23 [] []) h29 [(0,Mc)] ⟨O9,trivial⟩ Tryz.func72 (by kernel_rfl) fun x=>by kernel_rfl
noncomputable def YT:List (bR×gY):=((155,[]),⟨true,[a9],[a9],u7 N2⟩)::YS
theorem h31:tw Tryz.prog YT:=fk (bn 26 [] []) h30 [] trivial Tryz.func155 (by kernel_rfl) fun x=>by kernel_rfl
noncomputable def MS:ep:=⟨[(0,o8)],[(3,o17),(4,o1)],[(.exit 0,[(3,o17)])],xl⟩
theorem PA:mT Tryz.prog (env 23 [] []) (lp 0 (body Tryz.f73) 0) MS:=lk (bn _ _ _) h31 (n:=0) [] trivial (by kernel_rfl) fun k x=>by kernel_rfl
noncomputable def YU:List (bR×gY):=((73,[]),⟨true,[o8],[o17],u1 Kw⟩)::YT
theorem h32:tw Tryz.prog YU:=fk (bn 23 [] []) h31 [(0,MS)] ⟨PA,trivial⟩ Tryz.func73 (by kernel_rfl) fun x=>by kernel_rfl
noncomputable def YV:List (bR×gY):=((13,[]),⟨true,[a2],[a10],VM Jx⟩)::YU
theorem h33:tw Tryz.prog YV:=fk (bn 34 [] []) h32 [] trivial Tryz.func13 (by kernel_rfl) fun x=>by kernel_rfl
noncomputable def NK:ep:=⟨[(0,o9)],[(3,o18),(4,o1)],[(.exit 0,[(3,o18)])],Ii⟩
theorem Qd:mT Tryz.prog (env 23 [] [7]) (lp 0 (body Tryz.f36) 0) NK:=lk (bn _ _ _) h33 (n:=0) [] trivial (by kernel_rfl) fun k x=>by kernel_rfl
noncomputable def YW:List (bR×gY):=((36,[]),⟨true,[o9],[o18],u1 LK⟩)::YV
theorem h34:tw Tryz.prog YW:=fk (bn 23 [] [7]) h33 [(0,NK)] ⟨Qd,trivial⟩ Tryz.func36 (by kernel_rfl) fun x=>by kernel_rfl
noncomputable def YX:List (bR×gY):=((63,[]),⟨true,[o1,o1,o1],[o19],u3 bt⟩)::YW
theorem h35:tw Tryz.prog YX:=fk (bn 15 [] []) h34 [] trivial Tryz.func63 (by kernel_rfl) fun x=>by kernel_rfl
noncomputable def YY:List (bR×gY):=((62,[]),⟨true,[a3],[o19],u8 JJ⟩)::YX
theorem h36:tw Tryz.prog YY:=fk (bn 41 [] []) h35 [] trivial Tryz.func62 (by kernel_rfl) fun x=>by kernel_rfl
noncomputable def YZ:List (bR×gY):=((64,[]),⟨true,[o1],[o19],u1 ii⟩)::YY
theorem h37:tw Tryz.prog YZ:=fk (bn 5 [] []) h36 [] trivial Tryz.func64 (by kernel_rfl) fun x=>by kernel_rfl
noncomputable def Y0:List (bR×gY):=((149,[]),⟨true,[o1],[o19],u1 hM⟩)::YZ
theorem h38:tw Tryz.prog Y0:=fk (bn 5 [] []) h37 [] trivial Tryz.func149 (by kernel_rfl) fun x=>by kernel_rfl
noncomputable def Y1:List (bR×gY):=((214,[]),⟨true,[o1],[o19],u1 LP⟩)::Y0
theorem h39:tw Tryz.prog Y1:=fk (bn 5 [] []) h38 [] trivial Tryz.func214 (by kernel_rfl) fun x=>by kernel_rfl
noncomputable def Y2:List (bR×gY):=((144,[]),⟨true,[a9],[o19],u7 JB⟩)::Y1
theorem h40:tw Tryz.prog Y2:=fk (bn 45 [] []) h39 [] trivial Tryz.func144 (by kernel_rfl) fun x=>by kernel_rfl
noncomputable def MV:ep:=⟨[(0,o20)],[(3,o1)],[(.ret,[(2,o19)]),(.exit 0,[])],Ke⟩
theorem PD:mT Tryz.prog (env 19 [] []) (lp 0 (body Tryz.f65) 0) MV:=lk (bn _ _ _) h40 (n:=0) [] trivial (by kernel_rfl) fun k x=>by kernel_rfl
noncomputable def Y3:List (bR×gY):=((65,[]),⟨true,[o20],[o19],u1 Kx⟩)::Y2
theorem h41:tw Tryz.prog Y3:=fk (bn 19 [] []) h40 [(0,MV)] ⟨PD,trivial⟩ Tryz.func65 (by kernel_rfl) fun x=>by kernel_rfl
noncomputable def Y4:List (bR×gY):=((145,[]),⟨true,[a6],[o19],u7 LN⟩)::Y3
theorem h42:tw Tryz.prog Y4:=fk (bn 36 [] []) h41 [] trivial Tryz.func145 (by kernel_rfl) fun x=>by kernel_rfl
noncomputable def Me:ep:=⟨[(0,o21)],[(3,o1)],[(.ret,[(2,o19)]),(.exit 0,[])],JD⟩
theorem Pb:mT Tryz.prog (env 73 [] []) (lp 0 (body Tryz.f66) 0) Me:=lk (bn _ _ _) h42 (n:=0) [] trivial (by kernel_rfl) fun k x=>by kernel_rfl
noncomputable def Y5:List (bR×gY):=((66,[]),⟨true,[o21],[o19],u1 lm⟩)::Y4
theorem h43:tw Tryz.prog Y5:=fk (bn 73 [] []) h42 [(0,Me)] ⟨Pb,trivial⟩ Tryz.func66 (by kernel_rfl) fun x=>by kernel_rfl
noncomputable def NQ:ep:=⟨[(0,o22),(1,o1)],[(5,o1)],[(.ret,[(4,o19)]),(.exit 0,[])],Lp⟩
theorem Qj:mT Tryz.prog (env 51 [] []) (lp 0 (body Tryz.f215) 0) NQ:=lk (bn _ _ _) h43 (n:=0) [] trivial (by kernel_rfl) fun k x=>by kernel_rfl
noncomputable def Y6:List (bR×gY):=((215,[]),⟨true,[o22,o1],[o19],u2 JI⟩)::Y5
theorem h44:tw Tryz.prog Y6:=fk (bn 51 [] []) h43 [(0,NQ)] ⟨Qj,trivial⟩ Tryz.func215 (by kernel_rfl) fun x=>by kernel_rfl
noncomputable def Y7:List (bR×gY):=((146,[]),⟨true,[a11],[o19],u2 sS⟩)::Y6
theorem Yd:tw Tryz.prog Y7:=fk (bn 11 [] []) h44 [] trivial Tryz.func146 (by kernel_rfl) fun x=>by kernel_rfl
noncomputable def M2:ep:=⟨[(1,.ro t21),(3,o1),(4,o1)],[(5,a12),(6,o1)],[(.ret,[(2,o19)]),(.exit 2,[(5,a12)])],yt⟩
theorem PL:mT Tryz.prog (env 70 [] []) (lp 0 (lp 0 (body Tryz.f252) 0) 0) M2:=lk (bn _ _ _) Yd (n:=2) [] trivial (by kernel_rfl) fun k x=>by kernel_rfl
noncomputable def M1:ep:=⟨[(1,.ro t21)],[(3,o1),(4,o1)],[(.ret,[(2,o19)]),(.exit 0,[(3,o1)])],Kn⟩
theorem PK:mT Tryz.prog (env 70 [] []) (lp 0 (body Tryz.f252) 0) M1:=lk (bn _ _ _) Yd (n:=0) [(2,M2)] ⟨PL,trivial⟩ (by kernel_rfl) fun k x=>by kernel_rfl
noncomputable def Y8:List (bR×gY):=((252,[]),⟨true,[a13],[o19],u3 Kz⟩)::Y7
theorem h46:tw Tryz.prog Y8:=fk (bn 70 [] []) Yd [(0,M1)] ⟨PK,trivial⟩ Tryz.func252 (by kernel_rfl) fun x=>by kernel_rfl
noncomputable def MU:ep:=⟨[(1,.ro t21),(3,o1)],[(4,o19),(5,o1)],[(.exit 2,[(4,o19)])],Kc⟩
theorem PC:mT Tryz.prog (env 74 [] []) (lp 0 (lp 0 (body Tryz.f205) 0) 0) MU:=lk (bn _ _ _) h46 (n:=2) [] trivial (by kernel_rfl) fun k x=>by kernel_rfl
noncomputable def MT:ep:=⟨[(1,.ro t21)],[(3,o1)],[(.ret,[(2,o19)]),(.exit 0,[])],Kb⟩
theorem PB:mT Tryz.prog (env 74 [] []) (lp 0 (body Tryz.f205) 0) MT:=lk (bn _ _ _) h46 (n:=0) [(2,MU)] ⟨PC,trivial⟩ (by kernel_rfl) fun k x=>by kernel_rfl
noncomputable def Y9:List (bR×gY):=((205,[]),⟨true,[a13],[o19],u3 H9⟩)::Y8
theorem h47:tw Tryz.prog Y9:=fk (bn 74 [] []) h46 [(0,MT)] ⟨PB,trivial⟩ Tryz.func205 (by kernel_rfl) fun x=>by kernel_rfl
noncomputable def Oh:ep:=⟨[(1,o1),(2,.ro t21)],[(5,o1)],[(.ret,[(4,o1)]),(.exit 0,[])],Mz⟩
theorem QF:mT Tryz.prog (env 26 [] []) (lp 0 (body Tryz.f216) 0) Oh:=lk (bn _ _ _) h47 (n:=0) [] trivial (by kernel_rfl) fun k x=>by kernel_rfl
noncomputable def Za:List (bR×gY):=((216,[]),⟨true,[a13,o1],[o1],u4 KP⟩)::Y9
theorem h48:tw Tryz.prog Za:=fk (bn 26 [] []) h47 [(0,Oh)] ⟨QF,trivial⟩ Tryz.func216 (by kernel_rfl) fun x=>by kernel_rfl
noncomputable def Og:ep:=⟨[(0,o23),(3,o1),(4,o1)],[(5,o1)],[(.ret,[(2,o19)]),(.exit 4,[])],My⟩
theorem QE:mT Tryz.prog (env 52 [] []) (lp 2 (lp 0 (lp 0 (body Tryz.f147) 0) 0) 0) Og:=lk (bn _ _ _) h48 (n:=4) [] trivial (by kernel_rfl) fun k x=>by kernel_rfl
noncomputable def Of:ep:=⟨[(0,o23),(3,o1)],[(4,o1)],[(.ret,[(2,o19)]),(.exit 2,[])],Mx⟩
theorem QD:mT Tryz.prog (env 52 [] []) (lp 0 (lp 0 (body Tryz.f147) 0) 0) Of:=lk (bn _ _ _) h48 (n:=2) [(4,Og)] ⟨QE,trivial⟩ (by kernel_rfl) fun k x=>by kernel_rfl
noncomputable def Oe:ep:=⟨[(0,o23)],[(3,o1)],[(.ret,[(2,o19)]),(.exit 0,[])],Mw⟩
theorem QC:mT Tryz.prog (env 52 [] []) (lp 0 (body Tryz.f147) 0) Oe:=lk (bn _ _ _) h48 (n:=0) [(2,Of)] ⟨QD,trivial⟩ (by kernel_rfl) fun k x=>by kernel_rfl
noncomputable def Zb:List (bR×gY):=((147,[]),⟨true,[o23],[o19],u1 KO⟩)::Za
theorem h49:tw Tryz.prog Zb:=fk (bn 52 [] []) h48 [(0,Oe)] ⟨QC,trivial⟩ Tryz.func147 (by kernel_rfl) fun x=>by kernel_rfl
noncomputable def Zc:List (bR×gY):=((217,[]),⟨true,[a5],[o19],u5 ON⟩)::Zb
theorem h50:tw Tryz.prog Zc:=fk (bn 9 [] []) h49 [] trivial Tryz.func217 (by kernel_rfl) fun x=>by kernel_rfl
noncomputable def Zd:List (bR×gY):=((148,[]),⟨true,[a5],[o19],u5 IG⟩)::Zc
theorem h51:tw Tryz.prog Zd:=fk (bn 88 [] []) h50 [] trivial Tryz.func148 (by kernel_rfl) fun x=>by kernel_rfl
noncomputable def Ze:List (bR×gY):=((67,[]),⟨true,[a14,o1],[o19],u16 JO⟩)::Zd
theorem h52:tw Tryz.prog Ze:=fk (bn 95 [] []) h51 [] trivial Tryz.func67 (by kernel_rfl) fun x=>by kernel_rfl
noncomputable def Zf:List (bR×gY):=((150,[]),⟨true,[a14,o1],[o19],u16 mm⟩)::Ze
theorem h53:tw Tryz.prog Zf:=fk (bn 35 [] []) h52 [] trivial Tryz.func150 (by kernel_rfl) fun x=>by kernel_rfl
noncomputable def Zg:List (bR×gY):=((151,[]),⟨true,[a7],[o19],u5 Nq⟩)::Zf
theorem h54:tw Tryz.prog Zg:=fk (bn 26 [] []) h53 [] trivial Tryz.func151 (by kernel_rfl) fun x=>by kernel_rfl
noncomputable def Zh:List (bR×gY):=((152,[]),⟨true,[a14,o1],[o1],u16 Ia⟩)::Zg
theorem h55:tw Tryz.prog Zh:=fk (bn 21 [] []) h54 [] trivial Tryz.func152 (by kernel_rfl) fun x=>by kernel_rfl
noncomputable def Zi:List (bR×gY):=((68,[]),⟨true,[a14,o1],[o19],u16 yx⟩)::Zh
theorem Xj:tw Tryz.prog Zi:=fk (bn 142 [] []) h55 [] trivial Tryz.func68 (by kernel_rfl) fun x=>by kernel_rfl
noncomputable def Lv:ep:=⟨[(1,.ro t27),(4,o1),(5,o1),(6,o24)],[(3,o1),(7,o1)],[(.ret,[(2,o19)]),(.exit 4,[(3,o1)])],Iz⟩
theorem OE:mT Tryz.prog (env 126 [] []) (lp 2 (lp 0 (lp 0 (body Tryz.f69) 0) 0) 0) Lv:=lk (bn _ _ _) Xj (n:=4) [] trivial (by kernel_rfl) fun k x=>by kernel_rfl
noncomputable def Lu:ep:=⟨[(1,.ro t27),(4,o1)],[(3,o1),(5,o1)],[(.ret,[(2,o19)]),(.exit 2,[(3,o1)])],Iy⟩
theorem OD:mT Tryz.prog (env 126 [] []) (lp 0 (lp 0 (body Tryz.f69) 0) 0) Lu:=lk (bn _ _ _) Xj (n:=2) [(4,Lv)] ⟨OE,trivial⟩ (by kernel_rfl) fun k x=>by kernel_rfl
noncomputable def Lt:ep:=⟨[(1,.ro t27)],[(3,o1),(4,o1)],[(.ret,[(2,o19)]),(.exit 0,[(3,o1)])],MA⟩
theorem OC:mT Tryz.prog (env 126 [] []) (lp 0 (body Tryz.f69) 0) Lt:=lk (bn _ _ _) Xj (n:=0) [(2,Lu)] ⟨OD,trivial⟩ (by kernel_rfl) fun k x=>by kernel_rfl
noncomputable def Lw:ep:=⟨[(1,.ro t27)],[(3,o1),(10,o1)],[(.exit 6,[(3,o1)])],MB⟩
theorem OG:mT Tryz.prog (env 126 [] []) (lp 0 (body Tryz.f69) 1) Lw:=lk (bn _ _ _) Xj (n:=6) [] trivial (by kernel_rfl) fun k x=>by kernel_rfl
noncomputable def Zj:List (bR×gY):=((69,[]),⟨true,[a14],[o19],VM Io⟩)::Zi
theorem h57:tw Tryz.prog Zj:=fk (bn 126 [] []) Xj [(0,Lt),(6,Lw)] ⟨OC,OG,trivial⟩ Tryz.func69 (by kernel_rfl) fun x=>by kernel_rfl
noncomputable def NR:ep:=⟨[(1,.ro t27)],[(3,o1),(4,o1)],[(.exit 0,[(3,o1)])],On⟩
theorem Qk:mT Tryz.prog (env 33 [] []) (lp 0 (body Tryz.f70) 0) NR:=lk (bn _ _ _) h57 (n:=0) [] trivial (by kernel_rfl) fun k x=>by kernel_rfl
noncomputable def Zk:List (bR×gY):=((70,[]),⟨true,[a14],[o1],VM LQ⟩)::Zj
theorem Ye:tw Tryz.prog Zk:=fk (bn 33 [] []) h57 [(0,NR)] ⟨Qk,trivial⟩ Tryz.func70 (by kernel_rfl) fun x=>by kernel_rfl
noncomputable def Mf:ep:=⟨[(1,.ro t27)],[(3,o1)],[(.ret,[(2,o19)]),(.exit 0,[])],Nr⟩
theorem Pc:mT Tryz.prog (env 83 [] []) (lp 0 (body Tryz.f12) 0) Mf:=lk (bn _ _ _) Ye (n:=0) [] trivial (by kernel_rfl) fun k x=>by kernel_rfl
noncomputable def Mg:ep:=⟨[(1,.ro t27)],[(4,o1)],[(.ret,[(2,o19)]),(.exit 2,[])],Ns⟩
theorem Pd:mT Tryz.prog (env 83 [] []) (lp 0 (body Tryz.f12) 1) Mg:=lk (bn _ _ _) Ye (n:=2) [] trivial (by kernel_rfl) fun k x=>by kernel_rfl
noncomputable def Zl:List (bR×gY):=((12,[]),⟨true,[a14],[o19],VM JE⟩)::Zk
theorem h59:tw Tryz.prog Zl:=fk (bn 83 [] []) Ye [(0,Mf),(2,Mg)] ⟨Pc,Pd,trivial⟩ Tryz.func12 (by kernel_rfl) fun x=>by kernel_rfl
noncomputable def Lx:ep:=⟨[(1,o1),(2,.ro t27)],[(5,o1),(6,o1)],[(.exit 0,[(5,o1)])],IA⟩
theorem OH:mT Tryz.prog (env 40 [] []) (lp 0 (body Tryz.f110) 0) Lx:=lk (bn _ _ _) h59 (n:=0) [] trivial (by kernel_rfl) fun k x=>by kernel_rfl
noncomputable def Zm:List (bR×gY):=((110,[]),⟨true,[a14,o1],[o1],u16 Ip⟩)::Zl
theorem Yf:tw Tryz.prog Zm:=fk (bn 40 [] []) h59 [(0,Lx)] ⟨OH,trivial⟩ Tryz.func110 (by kernel_rfl) fun x=>by kernel_rfl
noncomputable def Mh:ep:=⟨[(0,o22),(1,o1)],[(5,o1)],[(.ret,[(4,o19)]),(.exit 0,[])],JM⟩
theorem Pe:mT Tryz.prog (env 28 [] []) (lp 0 (body Tryz.f238) 0) Mh:=lk (bn _ _ _) Yf (n:=0) [] trivial (by kernel_rfl) fun k x=>by kernel_rfl
noncomputable def Zn:List (bR×gY):=((238,[]),⟨true,[o22,o1],[o19],u2 s3⟩)::Zm
theorem h61:tw Tryz.prog Zn:=fk (bn 28 [] []) Yf [(0,Mh)] ⟨Pe,trivial⟩ Tryz.func238 (by kernel_rfl) fun x=>by kernel_rfl
noncomputable def Zo:List (bR×gY):=((187,[]),⟨true,[a11,o1],[o19],u3 JK⟩)::Zn
theorem h62:tw Tryz.prog Zo:=fk (bn 17 [] []) h61 [] trivial Tryz.func187 (by kernel_rfl) fun x=>by kernel_rfl
noncomputable def Md:ep:=⟨[(3,.ro t32)],[(2,o1),(8,o1)],[(.exit 0,[(2,o1),(8,o1)])],jj⟩
theorem Pa:mT Tryz.prog (env 34 [] []) (lp 0 (body Tryz.f112) 0) Md:=lk (bn _ _ _) h62 (n:=0) [] trivial (by kernel_rfl) fun k x=>by kernel_rfl
noncomputable def Zp:List (bR×gY):=((112,[]),⟨true,[a11,o1,o1],[o1,o19],u4 gm⟩)::Zo
theorem h63:tw Tryz.prog Zp:=fk (bn 34 [] []) h62 [(0,Md)] ⟨Pa,trivial⟩ Tryz.func112 (by kernel_rfl) fun x=>by kernel_rfl
noncomputable def Zq:List (bR×gY):=((237,[]),⟨true,[a11,a3,o1,o1],[o1,o19],Yt Im⟩)::Zp
theorem GO:tw Tryz.prog Zq:=fk (bn 37 [] []) h63 [] trivial Tryz.func237 (by kernel_rfl) fun x=>by kernel_rfl
noncomputable def Zr:List (bR×gY):=((186,[]),⟨true,[a11,a3,o1,o1,o1],[o19],Yu JH⟩)::Zq
theorem h65:tw Tryz.prog Zr:=fk (bn 28 [] []) GO [] trivial Tryz.func186 (by kernel_rfl) fun x=>by kernel_rfl
noncomputable def Ly:ep:=⟨[(1,o1),(2,.ro t27)],[(5,o1),(6,o1)],[(.exit 0,[(5,o1)])],IB⟩
theorem OI:mT Tryz.prog (env 51 [] []) (lp 0 (body Tryz.f111) 0) Ly:=lk (bn _ _ _) h65 (n:=0) [] trivial (by kernel_rfl) fun k x=>by kernel_rfl
noncomputable def Zs:List (bR×gY):=((111,[]),⟨true,[a14,o1],[o1],u16 Iq⟩)::Zr
theorem h66:tw Tryz.prog Zs:=fk (bn 51 [] []) h65 [(0,Ly)] ⟨OI,trivial⟩ Tryz.func111 (by kernel_rfl) fun x=>by kernel_rfl
noncomputable def Zt:List (bR×gY):=((113,[]),⟨true,[a11,o1],[o19],u3 Np⟩)::Zs
theorem XC:tw Tryz.prog Zt:=fk (bn 16 [] []) h66 [] trivial Tryz.func113 (by kernel_rfl) fun x=>by kernel_rfl
noncomputable def NO:ep:=⟨[(1,.ro t40),(3,o1)],[(4,o1)],[(.ret,[(2,o19)]),(.exit 2,[])],Lm⟩
theorem Qh:mT Tryz.prog (env 109 [] []) (lp 0 (lp 0 (body Tryz.f114) 0) 0) NO:=lk (bn _ _ _) XC (n:=2) [] trivial (by kernel_rfl) fun k x=>by kernel_rfl
noncomputable def NN:ep:=⟨[(1,.ro t40)],[(3,o1)],[(.ret,[(2,o19)]),(.exit 0,[])],Ll⟩
theorem Qg:mT Tryz.prog (env 109 [] []) (lp 0 (body Tryz.f114) 0) NN:=lk (bn _ _ _) XC (n:=0) [(2,NO)] ⟨Qh,trivial⟩ (by kernel_rfl) fun k x=>by kernel_rfl
noncomputable def NP:ep:=⟨[(1,.ro t40)],[(5,o1)],[(.ret,[(2,o19)]),(.exit 4,[])],Ln⟩
theorem Qi:mT Tryz.prog (env 109 [] []) (lp 0 (body Tryz.f114) 1) NP:=lk (bn _ _ _) XC (n:=4) [] trivial (by kernel_rfl) fun k x=>by kernel_rfl
noncomputable def Zu:List (bR×gY):=((114,[]),⟨true,[a15],[o19],u4 LO⟩)::Zt
theorem VW:tw Tryz.prog Zu:=fk (bn 109 [] []) XC [(0,NN),(4,NP)] ⟨Qg,Qi,trivial⟩ Tryz.func114 (by kernel_rfl) fun x=>by kernel_rfl
noncomputable def MW:ep:=⟨[(1,o9),(2,o1),(3,.ro t27)],[(6,a16),(9,o1)],[(.ret,[(6,a16),(7,o11),(8,o19)]),(.exit 0,[(6,a16)])],Kh⟩
theorem PE:mT Tryz.prog (env 169 [] [160]) (lp 0 (body Tryz.f35) 0) MW:=lk (bn _ _ _) VW (n:=0) [] trivial (by kernel_rfl) fun k x=>by kernel_rfl
noncomputable def MY:ep:=⟨[(1,o9),(2,o1),(3,.ro t27),(13,o1)],[(6,a16),(10,a16),(11,o11),(12,o11),(14,a17)],[(.exit 4,[(6,a16),(10,a16),(11,o11),(12,o11),(14,a17)])],me⟩
theorem PG:mT Tryz.prog (env 169 [] [160]) (lp 2 (lp 0 (body Tryz.f35) 1) 0) MY:=lk (bn _ _ _) VW (n:=4) [] trivial (by kernel_rfl) fun k x=>by kernel_rfl
noncomputable def MX:ep:=⟨[(1,o9),(2,o1),(3,.ro t27)],[(6,a16),(10,a16),(11,o11),(12,o11),(13,o1)],[(.ret,[(6,a16),(7,o11),(8,o19)]),(.exit 2,[(6,a16),(10,a16),(11,o11),(12,o11)])],Ki⟩
theorem PF:mT Tryz.prog (env 169 [] [160]) (lp 0 (body Tryz.f35) 1) MX:=lk (bn _ _ _) VW (n:=2) [(4,MY)] ⟨PG,trivial⟩ (by kernel_rfl) fun k x=>by kernel_rfl
noncomputable def M0:ep:=⟨[(1,o9),(17,o1)],[(6,a16),(10,a16),(11,o11),(12,o11),(18,o11),(19,o1)],[(.exit 8,[(6,a16),(10,a16),(11,o11),(12,o11),(18,o11)])],Kk⟩
theorem PJ:mT Tryz.prog (env 169 [] [160]) (lp 6 (lp 0 (body Tryz.f35) 2) 0) M0:=lk (bn _ _ _) VW (n:=8) [] trivial (by kernel_rfl) fun k x=>by kernel_rfl
noncomputable def MZ:ep:=⟨[(1,o9)],[(6,a16),(10,a16),(11,o11),(12,o11),(17,o1)],[(.exit 6,[(6,a16),(10,a16),(11,o11)])],Kj⟩
theorem PI:mT Tryz.prog (env 169 [] [160]) (lp 0 (body Tryz.f35) 2) MZ:=lk (bn _ _ _) VW (n:=6) [(8,M0)] ⟨PJ,trivial⟩ (by kernel_rfl) fun k x=>by kernel_rfl
noncomputable def Zv:List (bR×gY):=((35,[]),⟨true,[a14,o9,o1],[a18,o11,o19],Yv Ky⟩)::Zu
theorem h69:tw Tryz.prog Zv:=fk (bn 169 [] [160]) VW [(0,MW),(2,MX),(6,MZ)] ⟨PE,PF,PI,trivial⟩ Tryz.func35 (by kernel_rfl) fun x=>by kernel_rfl
noncomputable def Zw:List (bR×gY):=((76,[]),⟨true,[o1,o1,o1],[o19],u3 bu⟩)::Zv
theorem h70:tw Tryz.prog Zw:=fk (bn 15 [] []) h69 [] trivial Tryz.func76 (by kernel_rfl) fun x=>by kernel_rfl
noncomputable def Zx:List (bR×gY):=((75,[]),⟨true,[a3],[o19],u8 IV⟩)::Zw
theorem h71:tw Tryz.prog Zx:=fk (bn 41 [] []) h70 [] trivial Tryz.func75 (by kernel_rfl) fun x=>by kernel_rfl
noncomputable def Zy:List (bR×gY):=((77,[]),⟨true,[o1],[o19],u1 hD⟩)::Zx
theorem h72:tw Tryz.prog Zy:=fk (bn 5 [] []) h71 [] trivial Tryz.func77 (by kernel_rfl) fun x=>by kernel_rfl
noncomputable def Zz:List (bR×gY):=((78,[]),⟨true,[o1],[o19],u1 gg⟩)::Zy
theorem h73:tw Tryz.prog Zz:=fk (bn 5 [] []) h72 [] trivial Tryz.func78 (by kernel_rfl) fun x=>by kernel_rfl
noncomputable def ZA:List (bR×gY):=((164,[]),⟨true,[o1],[o19],u1 g4⟩)::Zz
theorem h74:tw Tryz.prog ZA:=fk (bn 5 [] []) h73 [] trivial Tryz.func164 (by kernel_rfl) fun x=>by kernel_rfl
noncomputable def ZB:List (bR×gY):=((159,[]),⟨true,[a9],[o19],u7 tb⟩)::ZA
theorem h75:tw Tryz.prog ZB:=fk (bn 45 [] []) h74 [] trivial Tryz.func159 (by kernel_rfl) fun x=>by kernel_rfl
noncomputable def ZC:List (bR×gY):=((158,[]),⟨true,[a9],[o19],u7 KS⟩)::ZB
theorem h76:tw Tryz.prog ZC:=fk (bn 6 [] []) h75 [] trivial Tryz.func158 (by kernel_rfl) fun x=>by kernel_rfl
noncomputable def ey:ep:=⟨[(0,o20),(1,.fn 158 []),(7,o1)],[(8,o1)],[(.ret,[(4,o1)]),(.exit 0,[])],ec⟩
theorem g3:mT Tryz.prog (env 19 [] []) (lp 0 (body Tryz.f220) 0) ey:=lk (bn _ _ _) h76 (n:=0) [] trivial (by kernel_rfl) fun k x=>by kernel_rfl
noncomputable def ZD:List (bR×gY):=((220,[158]),⟨true,[o20,.fn 158 []],[o1],u1 ei⟩)::ZC
theorem h77:tw Tryz.prog ZD:=fk (bn 19 [] []) h76 [(0,ey)] ⟨g3,trivial⟩ Tryz.func220 (by kernel_rfl) fun x=>by kernel_rfl
noncomputable def ZE:List (bR×gY):=((157,[158]),⟨true,[o20,.fn 158 []],[o19],u1 ea⟩)::ZD
theorem h78:tw Tryz.prog ZE:=fk (bn 9 [] []) h77 [] trivial Tryz.func157 (by kernel_rfl) fun x=>by kernel_rfl
noncomputable def ZF:List (bR×gY):=((79,[]),⟨true,[o20],[o19],u1 Kq⟩)::ZE
theorem h79:tw Tryz.prog ZF:=fk (bn 11 [] []) h78 [] trivial Tryz.func79 (by kernel_rfl) fun x=>by kernel_rfl
noncomputable def ZG:List (bR×gY):=((160,[]),⟨true,[a6],[o19],u7 LA⟩)::ZF
theorem h80:tw Tryz.prog ZG:=fk (bn 36 [] []) h79 [] trivial Tryz.func160 (by kernel_rfl) fun x=>by kernel_rfl
noncomputable def LX:ep:=⟨[(0,o21),(9,o21),(10,o1)],[(11,o1)],[(.ret,[(2,o19)]),(.exit 0,[])],IL⟩
theorem OU:mT Tryz.prog (env 53 [] []) (lp 0 (body Tryz.f80) 0) LX:=lk (bn _ _ _) h80 (n:=0) [] trivial (by kernel_rfl) fun k x=>by kernel_rfl
noncomputable def ZH:List (bR×gY):=((80,[]),⟨true,[o21],[o19],u1 ko⟩)::ZG
theorem h81:tw Tryz.prog ZH:=fk (bn 53 [] []) h80 [(0,LX)] ⟨OU,trivial⟩ Tryz.func80 (by kernel_rfl) fun x=>by kernel_rfl
noncomputable def Ny:ep:=⟨[(0,o22),(1,o1),(10,o22),(11,o1)],[(12,o1)],[(.ret,[(4,o19)]),(.exit 0,[])],KY⟩
theorem PZ:mT Tryz.prog (env 49 [] []) (lp 0 (body Tryz.f221) 0) Ny:=lk (bn _ _ _) h81 (n:=0) [] trivial (by kernel_rfl) fun k x=>by kernel_rfl
noncomputable def ZI:List (bR×gY):=((221,[]),⟨true,[o22,o1],[o19],u2 IU⟩)::ZH
theorem h82:tw Tryz.prog ZI:=fk (bn 49 [] []) h81 [(0,Ny)] ⟨PZ,trivial⟩ Tryz.func221 (by kernel_rfl) fun x=>by kernel_rfl
noncomputable def ZJ:List (bR×gY):=((161,[]),⟨true,[a11],[o19],u2 mu⟩)::ZI
theorem XD:tw Tryz.prog ZJ:=fk (bn 11 [] []) h82 [] trivial Tryz.func161 (by kernel_rfl) fun x=>by kernel_rfl
noncomputable def ME:ep:=⟨[(1,.ro t21),(23,o2),(24,o1)],[(25,o1)],[(.ret,[(2,o19)]),(.exit 0,[])],JV⟩
theorem Pm:mT Tryz.prog (env 118 [] []) (lp 0 (body Tryz.f222) 0) ME:=lk (bn _ _ _) XD (n:=0) [] trivial (by kernel_rfl) fun k x=>by kernel_rfl
noncomputable def MF:ep:=⟨[(1,.ro t21),(54,o24),(55,o1)],[(5,o1),(6,.one (.mp .i64)),(7,.one (.mp .i64)),(56,o1)],[(.ret,[(2,o19)]),(.exit 2,[(5,o1),(6,.one (.mp .i64))])],JW⟩
theorem Pn:mT Tryz.prog (env 118 [] []) (lp 0 (body Tryz.f222) 1) MF:=lk (bn _ _ _) XD (n:=2) [] trivial (by kernel_rfl) fun k x=>by kernel_rfl
noncomputable def MG:ep:=⟨[(1,.ro t21),(5,o1),(103,o2),(104,o1)],[(6,.one (.mp .i64)),(105,o1)],[(.ret,[(2,o19)]),(.exit 4,[])],JX⟩
theorem Po:mT Tryz.prog (env 118 [] []) (lp 0 (body Tryz.f222) 2) MG:=lk (bn _ _ _) XD (n:=4) [] trivial (by kernel_rfl) fun k x=>by kernel_rfl
noncomputable def ZK:List (bR×gY):=((222,[]),⟨true,[a13],[o19],u3 D3⟩)::ZJ
theorem Yg:tw Tryz.prog ZK:=fk (bn 118 [] []) XD [(0,ME),(2,MF),(4,MG)] ⟨Pm,Pn,Po,trivial⟩ Tryz.func222 (by kernel_rfl) fun x=>by kernel_rfl
noncomputable def N8:ep:=⟨[(13,o23),(14,o1),(15,o1),(23,o24),(24,o1)],[(3,.one (.mp .i64)),(25,o1)],[(.ret,[(2,o19)]),(.exit 2,[(3,.one (.mp .i64))])],Ml⟩
theorem Qw:mT Tryz.prog (env 43 [] []) (lp 0 (lp 0 (body Tryz.f162) 0) 0) N8:=lk (bn _ _ _) Yg (n:=2) [] trivial (by kernel_rfl) fun k x=>by kernel_rfl
noncomputable def N7:ep:=⟨[(13,o23),(14,o1)],[(3,.one (.mp .i64)),(15,o1)],[(.ret,[(2,o19)]),(.exit 0,[])],Mk⟩
theorem Qv:mT Tryz.prog (env 43 [] []) (lp 0 (body Tryz.f162) 0) N7:=lk (bn _ _ _) Yg (n:=0) [(2,N8)] ⟨Qw,trivial⟩ (by kernel_rfl) fun k x=>by kernel_rfl
noncomputable def ZL:List (bR×gY):=((162,[]),⟨true,[o23],[o19],u1 ID⟩)::ZK
theorem h85:tw Tryz.prog ZL:=fk (bn 43 [] []) Yg [(0,N7)] ⟨Qv,trivial⟩ Tryz.func162 (by kernel_rfl) fun x=>by kernel_rfl
noncomputable def ZM:List (bR×gY):=((223,[]),⟨true,[a5],[o19],u5 QN⟩)::ZL
theorem h86:tw Tryz.prog ZM:=fk (bn 9 [] []) h85 [] trivial Tryz.func223 (by kernel_rfl) fun x=>by kernel_rfl
noncomputable def ZN:List (bR×gY):=((163,[]),⟨true,[a5],[o19],u5 qW⟩)::ZM
theorem h87:tw Tryz.prog ZN:=fk (bn 90 [] []) h86 [] trivial Tryz.func163 (by kernel_rfl) fun x=>by kernel_rfl
noncomputable def ZO:List (bR×gY):=((81,[]),⟨true,[a14,o1],[o19],u16 Na⟩)::ZN
theorem h88:tw Tryz.prog ZO:=fk (bn 89 [] []) h87 [] trivial Tryz.func81 (by kernel_rfl) fun x=>by kernel_rfl
noncomputable def ZP:List (bR×gY):=((165,[]),⟨true,[a14,a8],[o19],u28 n3⟩)::ZO
theorem h89:tw Tryz.prog ZP:=fk (bn 29 [] []) h88 [] trivial Tryz.func165 (by kernel_rfl) fun x=>by kernel_rfl
noncomputable def ZQ:List (bR×gY):=((166,[]),⟨true,[a7],[o19],u5 M6⟩)::ZP
theorem h90:tw Tryz.prog ZQ:=fk (bn 26 [] []) h89 [] trivial Tryz.func166 (by kernel_rfl) fun x=>by kernel_rfl
noncomputable def ZR:List (bR×gY):=((167,[]),⟨true,[a14,o1],[o1],u16 FI⟩)::ZQ
theorem h91:tw Tryz.prog ZR:=fk (bn 21 [] []) h90 [] trivial Tryz.func167 (by kernel_rfl) fun x=>by kernel_rfl
noncomputable def ZS:List (bR×gY):=((82,[]),⟨true,[a14,o1],[o19],u16 Kr⟩)::ZR
theorem Xk:tw Tryz.prog ZS:=fk (bn 140 [] []) h91 [] trivial Tryz.func82 (by kernel_rfl) fun x=>by kernel_rfl
noncomputable def NB:ep:=⟨[(1,.ro t27),(4,o1),(14,o25),(15,o1),(16,o1),(22,o23),(23,o1),(24,o1),(29,o24),(30,o1)],[(3,o1),(31,o1)],[(.ret,[(2,o19)]),(.exit 4,[(3,o1)])],K4⟩
theorem P4:mT Tryz.prog (env 107 [] []) (lp 2 (lp 0 (lp 0 (body Tryz.f83) 0) 0) 0) NB:=lk (bn _ _ _) Xk (n:=4) [] trivial (by kernel_rfl) fun k x=>by kernel_rfl
noncomputable def NA:ep:=⟨[(1,.ro t27),(4,o1),(14,o25),(15,o1),(16,o1),(22,o23),(23,o1)],[(3,o1),(24,o1)],[(.ret,[(2,o19)]),(.exit 2,[(3,o1)])],K3⟩
theorem P3:mT Tryz.prog (env 107 [] []) (lp 0 (lp 0 (body Tryz.f83) 0) 0) NA:=lk (bn _ _ _) Xk (n:=2) [(4,NB)] ⟨P4,trivial⟩ (by kernel_rfl) fun k x=>by kernel_rfl
noncomputable def Nz:ep:=⟨[(1,.ro t27),(14,o25),(15,o1)],[(3,o1),(16,o1)],[(.ret,[(2,o19)]),(.exit 0,[(3,o1)])],Ol⟩
theorem P0:mT Tryz.prog (env 107 [] []) (lp 0 (body Tryz.f83) 0) Nz:=lk (bn _ _ _) Xk (n:=0) [(2,NA)] ⟨P3,trivial⟩ (by kernel_rfl) fun k x=>by kernel_rfl
noncomputable def NC:ep:=⟨[(88,o26),(89,o1)],[(3,o1),(90,o1)],[(.exit 6,[(3,o1)])],Om⟩
theorem P5:mT Tryz.prog (env 107 [] []) (lp 0 (body Tryz.f83) 1) NC:=lk (bn _ _ _) Xk (n:=6) [] trivial (by kernel_rfl) fun k x=>by kernel_rfl
noncomputable def ZT:List (bR×gY):=((83,[]),⟨true,[a14],[o19],VM LC⟩)::ZS
theorem h93:tw Tryz.prog ZT:=fk (bn 107 [] []) Xk [(0,Nz),(6,NC)] ⟨P0,P5,trivial⟩ Tryz.func83 (by kernel_rfl) fun x=>by kernel_rfl
noncomputable def N9:ep:=⟨[(1,.ro t27),(7,o26),(8,o1)],[(3,o1),(9,o1)],[(.exit 0,[(3,o1)])],Ox⟩
theorem Qx:mT Tryz.prog (env 27 [] []) (lp 0 (body Tryz.f84) 0) N9:=lk (bn _ _ _) h93 (n:=0) [] trivial (by kernel_rfl) fun k x=>by kernel_rfl
noncomputable def ZU:List (bR×gY):=((84,[]),⟨true,[a14],[o1],VM M9⟩)::ZT
theorem Yh:tw Tryz.prog ZU:=fk (bn 27 [] []) h93 [(0,N9)] ⟨Qx,trivial⟩ Tryz.func84 (by kernel_rfl) fun x=>by kernel_rfl
noncomputable def LY:ep:=⟨[(1,.ro t27),(54,o1)],[(55,o1)],[(.ret,[(2,o19)]),(.exit 0,[])],M7⟩
theorem OV:mT Tryz.prog (env 83 [] []) (lp 0 (body Tryz.f14) 0) LY:=lk (bn _ _ _) Yh (n:=0) [] trivial (by kernel_rfl) fun k x=>by kernel_rfl
noncomputable def LZ:ep:=⟨[(1,.ro t27),(65,o1)],[(66,o1)],[(.ret,[(2,o19)]),(.exit 2,[])],M8⟩
theorem OW:mT Tryz.prog (env 83 [] []) (lp 0 (body Tryz.f14) 1) LZ:=lk (bn _ _ _) Yh (n:=2) [] trivial (by kernel_rfl) fun k x=>by kernel_rfl
noncomputable def ZV:List (bR×gY):=((14,[]),⟨true,[a14],[o19],VM ia⟩)::ZU
theorem h95:tw Tryz.prog ZV:=fk (bn 83 [] []) Yh [(0,LY),(2,LZ)] ⟨OV,OW,trivial⟩ Tryz.func14 (by kernel_rfl) fun x=>by kernel_rfl
noncomputable def ND:ep:=⟨[(1,o1),(7,o22),(8,o1)],[(9,o1)],[(.ret,[(4,o19)]),(.exit 0,[])],K6⟩
theorem P6:mT Tryz.prog (env 24 [] []) (lp 0 (body Tryz.f240) 0) ND:=lk (bn _ _ _) h95 (n:=0) [] trivial (by kernel_rfl) fun k x=>by kernel_rfl
noncomputable def ZW:List (bR×gY):=((240,[]),⟨true,[o22,o1],[o19],u2 IW⟩)::ZV
theorem h96:tw Tryz.prog ZW:=fk (bn 24 [] []) h95 [(0,ND)] ⟨P6,trivial⟩ Tryz.func240 (by kernel_rfl) fun x=>by kernel_rfl
noncomputable def ZX:List (bR×gY):=((189,[]),⟨true,[a11,o1],[o19],u3 KF⟩)::ZW
theorem h97:tw Tryz.prog ZX:=fk (bn 17 [] []) h96 [] trivial Tryz.func189 (by kernel_rfl) fun x=>by kernel_rfl
noncomputable def LW:ep:=⟨[(3,.ro t32)],[(2,o1),(8,o1)],[(.ret,[(6,o1),(7,o19)]),(.exit 0,[])],II⟩
theorem OT:mT Tryz.prog (env 38 [] []) (lp 0 (body Tryz.f239) 0) LW:=lk (bn _ _ _) h97 (n:=0) [] trivial (by kernel_rfl) fun k x=>by kernel_rfl
noncomputable def ZY:List (bR×gY):=((239,[]),⟨true,[a11,o1,o1],[o1,o19],u4 kk⟩)::ZX
theorem h98:tw Tryz.prog ZY:=fk (bn 38 [] []) h97 [(0,LW)] ⟨OT,trivial⟩ Tryz.func239 (by kernel_rfl) fun x=>by kernel_rfl
noncomputable def ZZ:List (bR×gY):=((188,[]),⟨true,[a11,a3,o1,o1],[o1,o19],Yt Ib⟩)::ZY
theorem h99:tw Tryz.prog ZZ:=fk (bn 42 [] []) h98 [] trivial Tryz.func188 (by kernel_rfl) fun x=>by kernel_rfl
noncomputable def V1:List (bR×gY):=((116,[]),⟨true,[a11,a3,o1,o1,o1],[o19],Yu tt⟩)::ZZ
theorem XR:tw Tryz.prog V1:=fk (bn 31 [] []) h99 [] trivial Tryz.func116 (by kernel_rfl) fun x=>by kernel_rfl
noncomputable def V2:List (bR×gY):=((117,[]),⟨true,[a11,o1],[o19],u3 KE⟩)::V1
theorem XS:tw Tryz.prog V2:=fk (bn 16 [] []) XR [] trivial Tryz.func117 (by kernel_rfl) fun x=>by kernel_rfl
noncomputable def V3:List (bR×gY):=((191,[]),⟨true,[o1],[o19],u1 Mm⟩)::V2
theorem WW:tw Tryz.prog V3:=fk (bn 6 [] []) XS [] trivial Tryz.func191 (by kernel_rfl) fun x=>by kernel_rfl
noncomputable def gn:ep:=⟨[(0,o2),(1,.fn 191 []),(7,o1)],[(8,o1)],[(.ret,[(4,o1)]),(.exit 0,[])],e5⟩
theorem iL:mT Tryz.prog (env 19 [] []) (lp 0 (body Tryz.f241) 0) gn:=lk (bn _ _ _) WW (n:=0) [] trivial (by kernel_rfl) fun k x=>by kernel_rfl
noncomputable def V4:List (bR×gY):=((241,[191]),⟨true,[o2,.fn 191 []],[o1],u1 ga⟩)::V3
theorem XT:tw Tryz.prog V4:=fk (bn 19 [] []) WW [(0,gn)] ⟨iL,trivial⟩ Tryz.func241 (by kernel_rfl) fun x=>by kernel_rfl
noncomputable def V5:List (bR×gY):=((190,[191]),⟨true,[o2,.fn 191 []],[o19],u1 ej⟩)::V4
theorem VE:tw Tryz.prog V5:=fk (bn 9 [] []) XT [] trivial Tryz.func190 (by kernel_rfl) fun x=>by kernel_rfl
noncomputable def Nw:ep:=⟨[(1,.ro t40),(34,o9),(35,o1)],[(36,o1)],[(.ret,[(2,o19)]),(.exit 0,[])],KV⟩
theorem PX:mT Tryz.prog (env 94 [] []) (lp 0 (body Tryz.f118) 0) Nw:=lk (bn _ _ _) VE (n:=0) [] trivial (by kernel_rfl) fun k x=>by kernel_rfl
noncomputable def Nx:ep:=⟨[(52,o27),(53,o1)],[(54,o1)],[(.ret,[(2,o19)]),(.exit 2,[])],KW⟩
theorem PY:mT Tryz.prog (env 94 [] []) (lp 0 (body Tryz.f118) 1) Nx:=lk (bn _ _ _) VE (n:=2) [] trivial (by kernel_rfl) fun k x=>by kernel_rfl
noncomputable def V6:List (bR×gY):=((118,[]),⟨true,[a15],[o19],u4 LB⟩)::V5
theorem SH:tw Tryz.prog V6:=fk (bn 94 [] []) VE [(0,Nw),(2,Nx)] ⟨PX,PY,trivial⟩ Tryz.func118 (by kernel_rfl) fun x=>by kernel_rfl
noncomputable def MH:ep:=⟨[(1,o9),(2,o1),(3,.ro t27),(40,o9),(41,o1)],[(6,a16),(42,o1)],[(.ret,[(6,a16),(7,o11),(8,o19)]),(.exit 0,[(6,a16)])],J0⟩
theorem Pp:mT Tryz.prog (env 196 [] [186]) (lp 0 (body Tryz.f37) 0) MH:=lk (bn _ _ _) SH (n:=0) [] trivial (by kernel_rfl) fun k x=>by kernel_rfl
noncomputable def MJ:ep:=⟨[(1,o9),(2,o1),(3,.ro t27),(14,o1),(60,o25),(61,o1),(62,o1),(68,o26),(69,o1)],[(6,a16),(11,a16),(12,o11),(13,o11),(15,a19),(16,o1),(17,o1),(70,o1)],[(.exit 4,[(6,a16),(11,a16),(12,o11),(13,o11),(15,a19),(16,o1),(17,o1)])],J2⟩
theorem Pr:mT Tryz.prog (env 196 [] [186]) (lp 2 (lp 0 (body Tryz.f37) 1) 0) MJ:=lk (bn _ _ _) SH (n:=4) [] trivial (by kernel_rfl) fun k x=>by kernel_rfl
noncomputable def MK:ep:=⟨[(1,o9),(2,o1),(3,.ro t27),(14,o1),(16,o1),(17,o1),(60,o25),(61,o1),(62,o1)],[(6,a16),(11,a16),(12,o11),(13,o11),(15,a19),(20,o1)],[(.exit 7,[(6,a16),(11,a16),(12,o11),(13,o11),(15,a19),(20,o1)])],tW⟩
theorem Ps:mT Tryz.prog (env 196 [] [186]) (lp 2 (lp 0 (body Tryz.f37) 1) 1) MK:=lk (bn _ _ _) SH (n:=7) [] trivial (by kernel_rfl) fun k x=>by kernel_rfl
noncomputable def ML:ep:=⟨[(1,o9),(2,o1),(3,.ro t27),(14,o1),(16,o1),(17,o1),(20,o1),(60,o25),(61,o1),(62,o1)],[(6,a16),(11,a16),(12,o11),(13,o11),(15,a19),(21,o1)],[(.exit 9,[(6,a16),(11,a16),(12,o11),(13,o11),(21,o1)])],kx⟩
theorem Pt:mT Tryz.prog (env 196 [] [186]) (lp 2 (lp 0 (body Tryz.f37) 1) 2) ML:=lk (bn _ _ _) SH (n:=9) [] trivial (by kernel_rfl) fun k x=>by kernel_rfl
noncomputable def MI:ep:=⟨[(1,o9),(2,o1),(3,.ro t27),(60,o25),(61,o1)],[(6,a16),(11,a16),(12,o11),(13,o11),(62,o1)],[(.ret,[(6,a16),(7,o11),(8,o19)]),(.exit 2,[(6,a16),(11,a16),(12,o11),(13,o11)])],J1⟩
theorem Pq:mT Tryz.prog (env 196 [] [186]) (lp 0 (body Tryz.f37) 1) MI:=lk (bn _ _ _) SH (n:=2) [(4,MJ),(7,MK),(9,ML)] ⟨Pr,Ps,Pt,trivial⟩ (by kernel_rfl) fun k x=>by kernel_rfl
noncomputable def L1:ep:=⟨[(1,o9),(13,o2),(23,o1),(160,o2),(161,o1),(162,o1),(166,o2),(167,o1)],[(6,a16),(11,a16),(12,o11),(24,o11),(168,o1)],[(.exit 13,[(6,a16),(11,a16),(12,o11),(24,o11)])],IR⟩
theorem OY:mT Tryz.prog (env 196 [] [186]) (lp 11 (lp 0 (body Tryz.f37) 2) 0) L1:=lk (bn _ _ _) SH (n:=13) [] trivial (by kernel_rfl) fun k x=>by kernel_rfl
noncomputable def L0:ep:=⟨[(1,o9),(13,o2),(160,o2),(161,o1)],[(6,a16),(11,a16),(12,o11),(162,o1)],[(.exit 11,[(6,a16),(11,a16),(12,o11)])],IQ⟩
theorem OX:mT Tryz.prog (env 196 [] [186]) (lp 0 (body Tryz.f37) 2) L0:=lk (bn _ _ _) SH (n:=11) [(13,L1)] ⟨OY,trivial⟩ (by kernel_rfl) fun k x=>by kernel_rfl
noncomputable def V7:List (bR×gY):=((37,[]),⟨true,[a14,o9,o1],[a18,o11,o19],Yv Ex⟩)::V6
theorem WX:tw Tryz.prog V7:=fk (bn 196 [] [186]) SH [(0,MH),(2,MI),(11,L0)] ⟨Pp,Pq,OX,trivial⟩ Tryz.func37 (by kernel_rfl) fun x=>by kernel_rfl
noncomputable def Ob:ep:=⟨[(0,o2),(1,o2)],[(5,o1)],[(.ret,[(4,o19)]),(.exit 0,[])],Mr⟩
theorem Qz:mT Tryz.prog (env 26 [] []) (lp 0 (body Tryz.f39) 0) Ob:=lk (bn _ _ _) WX (n:=0) [] trivial (by kernel_rfl) fun k x=>by kernel_rfl
noncomputable def V8:List (bR×gY):=((39,[]),⟨true,[o2,o2],[o19],u2 rp⟩)::V7
theorem WY:tw Tryz.prog V8:=fk (bn 26 [] []) WX [(0,Ob)] ⟨Qz,trivial⟩ Tryz.func39 (by kernel_rfl) fun x=>by kernel_rfl
noncomputable def NE:ep:=⟨[(0,o9),(1,o9)],[(5,o1)],[(.ret,[(4,o19)]),(.exit 0,[])],K8⟩
theorem P7:mT Tryz.prog (env 27 [] []) (lp 0 (body Tryz.f40) 0) NE:=lk (bn _ _ _) WY (n:=0) [] trivial (by kernel_rfl) fun k x=>by kernel_rfl
noncomputable def V9:List (bR×gY):=((40,[]),⟨true,[o9,o9],[o19],u2 I0⟩)::V8
theorem XU:tw Tryz.prog V9:=fk (bn 27 [] []) WY [(0,NE)] ⟨P7,trivial⟩ Tryz.func40 (by kernel_rfl) fun x=>by kernel_rfl
noncomputable def Wa:List (bR×gY):=((192,[]),⟨true,[a7,a7],[o19],Ys Nh⟩)::V9
theorem WZ:tw Tryz.prog Wa:=fk (bn 30 [] []) XU [] trivial Tryz.func192 (by kernel_rfl) fun x=>by kernel_rfl
noncomputable def NH:ep:=⟨[(0,o27),(1,o27)],[(5,o1)],[(.ret,[(4,o19)]),(.exit 0,[])],Le⟩
theorem Qa:mT Tryz.prog (env 27 [] []) (lp 0 (body Tryz.f119) 0) NH:=lk (bn _ _ _) WZ (n:=0) [] trivial (by kernel_rfl) fun k x=>by kernel_rfl
noncomputable def Wb:List (bR×gY):=((119,[]),⟨true,[o27,o27],[o19],u2 LH⟩)::Wa
theorem XV:tw Tryz.prog Wb:=fk (bn 27 [] []) WZ [(0,NH)] ⟨Qa,trivial⟩ Tryz.func119 (by kernel_rfl) fun x=>by kernel_rfl
noncomputable def Wc:List (bR×gY):=((38,[]),⟨true,[a15,a15],[o19],u8 I5⟩)::Wb
theorem XW:tw Tryz.prog Wc:=fk (bn 27 [] []) XV [] trivial Tryz.func38 (by kernel_rfl) fun x=>by kernel_rfl
noncomputable def Wd:List (bR×gY):=((85,[]),⟨true,[a3,a3],[o19],u16 LI⟩)::Wc
theorem XX:tw Tryz.prog Wd:=fk (bn 45 [] []) XW [] trivial Tryz.func85 (by kernel_rfl) fun x=>by kernel_rfl
noncomputable def We:List (bR×gY):=((234,[]),⟨true,[.agg [v1,v1],.agg [v1,v1]],[o19],u4 Ng⟩)::Wd
theorem W0:tw Tryz.prog We:=fk (bn 15 [] []) XX [] trivial Tryz.func234 (by kernel_rfl) fun x=>by kernel_rfl
noncomputable def NG:ep:=⟨[(0,o22),(1,o22)],[(5,o1)],[(.ret,[(4,o19)]),(.exit 0,[])],Lc⟩
theorem P9:mT Tryz.prog (env 27 [] []) (lp 0 (body Tryz.f181) 0) NG:=lk (bn _ _ _) W0 (n:=0) [] trivial (by kernel_rfl) fun k x=>by kernel_rfl
noncomputable def Wf:List (bR×gY):=((181,[]),⟨true,[o22,o22],[o19],u2 I6⟩)::We
theorem XY:tw Tryz.prog Wf:=fk (bn 27 [] []) W0 [(0,NG)] ⟨P9,trivial⟩ Tryz.func181 (by kernel_rfl) fun x=>by kernel_rfl
noncomputable def Wg:List (bR×gY):=((99,[]),⟨true,[a11,a11],[o19],u4 Ni⟩)::Wf
theorem XZ:tw Tryz.prog Wg:=fk (bn 17 [] []) XY [] trivial Tryz.func99 (by kernel_rfl) fun x=>by kernel_rfl
noncomputable def Wh:List (bR×gY):=((262,[]),⟨true,[a4,a4],[o19],u8 N0⟩)::Wg
theorem W1:tw Tryz.prog Wh:=fk (bn 25 [] []) XZ [] trivial Tryz.func262 (by kernel_rfl) fun x=>by kernel_rfl
noncomputable def Oa:ep:=⟨[(0,o24),(1,o24)],[(5,o1)],[(.ret,[(4,o19)]),(.exit 0,[])],Mp⟩
theorem Qy:mT Tryz.prog (env 27 [] []) (lp 0 (body Tryz.f235) 0) Oa:=lk (bn _ _ _) W1 (n:=0) [] trivial (by kernel_rfl) fun k x=>by kernel_rfl
noncomputable def Wi:List (bR×gY):=((235,[]),⟨true,[o24,o24],[o19],u2 Nb⟩)::Wh
theorem X0:tw Tryz.prog Wi:=fk (bn 27 [] []) W1 [(0,Oa)] ⟨Qy,trivial⟩ Tryz.func235 (by kernel_rfl) fun x=>by kernel_rfl
noncomputable def Wj:List (bR×gY):=((182,[]),⟨true,[a13,a13],[o19],u6 HY⟩)::Wi
theorem W2:tw Tryz.prog Wj:=fk (bn 22 [] []) X0 [] trivial Tryz.func182 (by kernel_rfl) fun x=>by kernel_rfl
noncomputable def L2:ep:=⟨[(0,o23),(1,o23)],[(5,o1)],[(.ret,[(4,o19)]),(.exit 0,[])],IZ⟩
theorem OZ:mT Tryz.prog (env 27 [] []) (lp 0 (body Tryz.f100) 0) L2:=lk (bn _ _ _) W2 (n:=0) [] trivial (by kernel_rfl) fun k x=>by kernel_rfl
noncomputable def Wl:List (bR×gY):=((100,[]),⟨true,[o23,o23],[o19],u2 IX⟩)::Wj
theorem X1:tw Tryz.prog Wl:=fk (bn 27 [] []) W2 [(0,L2)] ⟨OZ,trivial⟩ Tryz.func100 (by kernel_rfl) fun x=>by kernel_rfl
noncomputable def Wm:List (bR×gY):=((224,[]),⟨true,[a5,a5],[o19],Ys Nc⟩)::Wl
theorem X2:tw Tryz.prog Wm:=fk (bn 30 [] []) X1 [] trivial Tryz.func224 (by kernel_rfl) fun x=>by kernel_rfl
noncomputable def Wn:List (bR×gY):=((125,[]),⟨true,[a6,a6],[o19],u14 LD⟩)::Wm
theorem W3:tw Tryz.prog Wn:=fk (bn 40 [] []) X2 [] trivial Tryz.func125 (by kernel_rfl) fun x=>by kernel_rfl
noncomputable def MM:ep:=⟨[(0,o21),(1,o21)],[(5,o1)],[(.ret,[(4,o19)]),(.exit 0,[])],J4⟩
theorem Pu:mT Tryz.prog (env 27 [] []) (lp 0 (body Tryz.f48) 0) MM:=lk (bn _ _ _) W3 (n:=0) [] trivial (by kernel_rfl) fun k x=>by kernel_rfl
noncomputable def Wo:List (bR×gY):=((48,[]),⟨true,[o21,o21],[o19],u2 HZ⟩)::Wn
theorem X3:tw Tryz.prog Wo:=fk (bn 27 [] []) W3 [(0,MM)] ⟨Pu,trivial⟩ Tryz.func48 (by kernel_rfl) fun x=>by kernel_rfl
noncomputable def Wp:List (bR×gY):=((168,[]),⟨true,[a20,a20],[o19],u22 Nf⟩)::Wo
theorem W4:tw Tryz.prog Wp:=fk (bn 39 [] []) X3 [] trivial Tryz.func168 (by kernel_rfl) fun x=>by kernel_rfl
noncomputable def NF:ep:=⟨[(0,o25),(1,o25)],[(5,o1)],[(.ret,[(4,o19)]),(.exit 0,[])],La⟩
theorem P8:mT Tryz.prog (env 27 [] []) (lp 0 (body Tryz.f86) 0) NF:=lk (bn _ _ _) W4 (n:=0) [] trivial (by kernel_rfl) fun k x=>by kernel_rfl
noncomputable def Wq:List (bR×gY):=((86,[]),⟨true,[o25,o25],[o19],u2 LG⟩)::Wp
theorem X4:tw Tryz.prog Wq:=fk (bn 27 [] []) W4 [(0,NF)] ⟨P8,trivial⟩ Tryz.func86 (by kernel_rfl) fun x=>by kernel_rfl
noncomputable def Wr:List (bR×gY):=((225,[]),⟨true,[a7,a7],[o19],Ys Nd⟩)::Wq
theorem X5:tw Tryz.prog Wr:=fk (bn 30 [] []) X4 [] trivial Tryz.func225 (by kernel_rfl) fun x=>by kernel_rfl
noncomputable def Ws:List (bR×gY):=((169,[]),⟨true,[a8,a8],[o19],u26 Kt⟩)::Wr
theorem W5:tw Tryz.prog Ws:=fk (bn 51 [] []) X5 [] trivial Tryz.func169 (by kernel_rfl) fun x=>by kernel_rfl
noncomputable def L3:ep:=⟨[(0,o26),(1,o26)],[(5,o1)],[(.ret,[(4,o19)]),(.exit 0,[])],I4⟩
theorem O0:mT Tryz.prog (env 27 [] []) (lp 0 (body Tryz.f87) 0) L3:=lk (bn _ _ _) W5 (n:=0) [] trivial (by kernel_rfl) fun k x=>by kernel_rfl
noncomputable def Wt:List (bR×gY):=((87,[]),⟨true,[o26,o26],[o19],u2 I2⟩)::Ws
theorem X6:tw Tryz.prog Wt:=fk (bn 27 [] []) W5 [(0,L3)] ⟨O0,trivial⟩ Tryz.func87 (by kernel_rfl) fun x=>by kernel_rfl
noncomputable def Wu:List (bR×gY):=((170,[]),⟨true,[a9,a9],[o19],u14 LF⟩)::Wt
theorem h128:tw Tryz.prog Wu:=fk (bn 40 [] []) X6 [] trivial Tryz.func170 (by kernel_rfl) fun x=>by kernel_rfl
noncomputable def MN:ep:=⟨[(0,o20),(1,o20)],[(5,o1)],[(.ret,[(4,o19)]),(.exit 0,[])],J6⟩
theorem Pv:mT Tryz.prog (env 27 [] []) (lp 0 (body Tryz.f88) 0) MN:=lk (bn _ _ _) h128 (n:=0) [] trivial (by kernel_rfl) fun k x=>by kernel_rfl
noncomputable def Wv:List (bR×gY):=((88,[]),⟨true,[o20,o20],[o19],u2 Ks⟩)::Wu
theorem X7:tw Tryz.prog Wv:=fk (bn 27 [] []) h128 [(0,MN)] ⟨Pv,trivial⟩ Tryz.func88 (by kernel_rfl) fun x=>by kernel_rfl
noncomputable def Ww:List (bR×gY):=((15,[]),⟨true,[a14,a14],[o19],u30 I1⟩)::Wv
theorem W6:tw Tryz.prog Ww:=fk (bn 50 [] []) X7 [] trivial Tryz.func15 (by kernel_rfl) fun x=>by kernel_rfl
noncomputable def L8:ep:=⟨[],[(0,o10),(1,o1),(5,o1)],[(.exit 0,[(0,o10),(1,o1)])],Jl⟩
theorem O5:mT Tryz.prog (env 27 [] []) (lp 0 (body Tryz.f101) 0) L8:=lk (bn _ _ _) W6 (n:=0) [] trivial (by kernel_rfl) fun k x=>by kernel_rfl
noncomputable def Wx:List (bR×gY):=((101,[]),⟨true,[o10,o1],[o1],u2 r6⟩)::Ww
theorem W7:tw Tryz.prog Wx:=fk (bn 27 [] []) W6 [(0,L8)] ⟨O5,trivial⟩ Tryz.func101 (by kernel_rfl) fun x=>by kernel_rfl
noncomputable def MQ:ep:=⟨[],[(0,o11),(1,o1),(5,o1)],[(.exit 0,[(0,o11),(1,o1)])],vn⟩
theorem Py:mT Tryz.prog (env 19 [] []) (lp 0 (body Tryz.f43) 0) MQ:=lk (bn _ _ _) W7 (n:=0) [] trivial (by kernel_rfl) fun k x=>by kernel_rfl
noncomputable def Wy:List (bR×gY):=((43,[]),⟨true,[o11,o1],[o1],u2 n6⟩)::Wx
theorem W8:tw Tryz.prog Wy:=fk (bn 19 [] []) W7 [(0,MQ)] ⟨Py,trivial⟩ Tryz.func43 (by kernel_rfl) fun x=>by kernel_rfl
noncomputable def MP:ep:=⟨[],[(0,o12),(1,o1),(5,o1)],[(.exit 0,[(0,o12),(1,o1)])],J8⟩
theorem Px:mT Tryz.prog (env 43 [] []) (lp 0 (body Tryz.f183) 0) MP:=lk (bn _ _ _) W8 (n:=0) [] trivial (by kernel_rfl) fun k x=>by kernel_rfl
noncomputable def Wz:List (bR×gY):=((183,[]),⟨true,[o12,o1],[o1],u2 Ku⟩)::Wy
theorem W9:tw Tryz.prog Wz:=fk (bn 43 [] []) W8 [(0,MP)] ⟨Px,trivial⟩ Tryz.func183 (by kernel_rfl) fun x=>by kernel_rfl
noncomputable def KA:ep:=⟨[],[(0,o13),(1,o1),(5,o1)],[(.exit 0,[(0,o13),(1,o1)])],BE⟩
theorem Oo:mT Tryz.prog (env 34 [] []) (lp 0 (body Tryz.f102) 0) KA:=lk (bn _ _ _) W9 (n:=0) [] trivial (by kernel_rfl) fun k x=>by kernel_rfl
noncomputable def WA:List (bR×gY):=((102,[]),⟨true,[o13,o1],[o1],u2 ve⟩)::Wz
theorem Xa:tw Tryz.prog WA:=fk (bn 34 [] []) W9 [(0,KA)] ⟨Oo,trivial⟩ Tryz.func102 (by kernel_rfl) fun x=>by kernel_rfl
noncomputable def Lr:ep:=⟨[],[(0,o14),(1,o1),(5,o1)],[(.exit 0,[(0,o14),(1,o1)])],nh⟩
theorem OA:mT Tryz.prog (env 62 [] []) (lp 0 (body Tryz.f49) 0) Lr:=lk (bn _ _ _) Xa (n:=0) [] trivial (by kernel_rfl) fun k x=>by kernel_rfl
noncomputable def WB:List (bR×gY):=((49,[]),⟨true,[o14,o1],[o1],u2 n4⟩)::WA
theorem Xb:tw Tryz.prog WB:=fk (bn 62 [] []) Xa [(0,Lr)] ⟨OA,trivial⟩ Tryz.func49 (by kernel_rfl) fun x=>by kernel_rfl
noncomputable def L7:ep:=⟨[],[(0,o15),(1,o1),(5,o1)],[(.exit 0,[(0,o15),(1,o1)])],Jj⟩
theorem O4:mT Tryz.prog (env 103 [] []) (lp 0 (body Tryz.f103) 0) L7:=lk (bn _ _ _) Xb (n:=0) [] trivial (by kernel_rfl) fun k x=>by kernel_rfl
noncomputable def WC:List (bR×gY):=((103,[]),⟨true,[o15,o1],[o1],u2 Jh⟩)::WB
theorem Xc:tw Tryz.prog WC:=fk (bn 103 [] []) Xb [(0,L7)] ⟨O4,trivial⟩ Tryz.func103 (by kernel_rfl) fun x=>by kernel_rfl
noncomputable def KB:ep:=⟨[],[(0,o16),(1,o1),(5,o1)],[(.exit 0,[(0,o16),(1,o1)])],Cp⟩
theorem Oq:mT Tryz.prog (env 109 [] []) (lp 0 (body Tryz.f104) 0) KB:=lk (bn _ _ _) Xc (n:=0) [] trivial (by kernel_rfl) fun k x=>by kernel_rfl
noncomputable def WD:List (bR×gY):=((104,[]),⟨true,[o16,o1],[o1],u2 vv⟩)::WC
theorem Xd:tw Tryz.prog WD:=fk (bn 109 [] []) Xc [(0,KB)] ⟨Oq,trivial⟩ Tryz.func104 (by kernel_rfl) fun x=>by kernel_rfl
noncomputable def Ls:ep:=⟨[],[(0,o17),(1,o1),(5,o1)],[(.exit 0,[(0,o17),(1,o1)])],It⟩
theorem OB:mT Tryz.prog (env 64 [] []) (lp 0 (body Tryz.f105) 0) Ls:=lk (bn _ _ _) Xd (n:=0) [] trivial (by kernel_rfl) fun k x=>by kernel_rfl
noncomputable def WE:List (bR×gY):=((105,[]),⟨true,[o17,o1],[o1],u2 Ic⟩)::WD
theorem X8:tw Tryz.prog WE:=fk (bn 64 [] []) Xd [(0,Ls)] ⟨OB,trivial⟩ Tryz.func105 (by kernel_rfl) fun x=>by kernel_rfl
noncomputable def WG:List (bR×gY):=((32,[]),⟨true,[a10,o1],[o1],u16 vp⟩)::WE
theorem Xe:tw Tryz.prog WG:=fk (bn 22 [] []) X8 [] trivial Tryz.func32 (by kernel_rfl) fun x=>by kernel_rfl
noncomputable def L6:ep:=⟨[],[(0,o18),(1,o1),(5,o1)],[(.exit 0,[(0,o18),(1,o1)])],Jf⟩
theorem O3:mT Tryz.prog (env 19 [] []) (lp 0 (body Tryz.f41) 0) L6:=lk (bn _ _ _) Xe (n:=0) [] trivial (by kernel_rfl) fun k x=>by kernel_rfl
noncomputable def WH:List (bR×gY):=((41,[]),⟨true,[o18,o1],[o1],u2 r5⟩)::WG
theorem Xf:tw Tryz.prog WH:=fk (bn 19 [] []) Xe [(0,L6)] ⟨O3,trivial⟩ Tryz.func41 (by kernel_rfl) fun x=>by kernel_rfl
noncomputable def L9:ep:=⟨[],[(0,o28),(1,o1),(5,o1)],[(.exit 0,[(0,o28),(1,o1)])],Jo⟩
theorem O6:mT Tryz.prog (env 48 [] []) (lp 0 (body Tryz.f120) 0) L9:=lk (bn _ _ _) Xf (n:=0) [] trivial (by kernel_rfl) fun k x=>by kernel_rfl
noncomputable def WI:List (bR×gY):=((120,[]),⟨true,[o28,o1],[o1],u2 Jm⟩)::WH
theorem X9:tw Tryz.prog WI:=fk (bn 48 [] []) Xf [(0,L9)] ⟨O6,trivial⟩ Tryz.func120 (by kernel_rfl) fun x=>by kernel_rfl
noncomputable def WJ:List (bR×gY):=((42,[]),⟨true,[a18,o1],[o1],u5 Jg⟩)::WI
theorem Xg:tw Tryz.prog WJ:=fk (bn 14 [] []) X9 [] trivial Tryz.func42 (by kernel_rfl) fun x=>by kernel_rfl
noncomputable def MO:ep:=⟨[(0,o2)],[(1,o1),(5,o1)],[(.ret,[(4,o1)]),(.exit 0,[(1,o1)])],vb⟩
theorem Pw:mT Tryz.prog (env 21 [] []) (lp 0 (body Tryz.f45) 0) MO:=lk (bn _ _ _) Xg (n:=0) [] trivial (by kernel_rfl) fun k x=>by kernel_rfl
noncomputable def WK:List (bR×gY):=((45,[]),⟨true,[o2,o1],[o1],u2 n5⟩)::WJ
theorem Xh:tw Tryz.prog WK:=fk (bn 21 [] []) Xg [(0,MO)] ⟨Pw,trivial⟩ Tryz.func45 (by kernel_rfl) fun x=>by kernel_rfl
noncomputable def L4:ep:=⟨[(0,o9)],[(1,o1),(5,o1)],[(.ret,[(4,o1)]),(.exit 0,[(1,o1)])],I9⟩
theorem O1:mT Tryz.prog (env 21 [] []) (lp 0 (body Tryz.f121) 0) L4:=lk (bn _ _ _) Xh (n:=0) [] trivial (by kernel_rfl) fun k x=>by kernel_rfl
noncomputable def WL:List (bR×gY):=((121,[]),⟨true,[o9,o1],[o1],u2 I7⟩)::WK
theorem Xi:tw Tryz.prog WL:=fk (bn 21 [] []) Xh [(0,L4)] ⟨O1,trivial⟩ Tryz.func121 (by kernel_rfl) fun x=>by kernel_rfl
noncomputable def L5:ep:=⟨[(0,o27)],[(1,o1),(5,o1)],[(.ret,[(4,o1)]),(.exit 0,[(1,o1)])],Jd⟩
theorem O2:mT Tryz.prog (env 58 [] []) (lp 0 (body Tryz.f122) 0) L5:=lk (bn _ _ _) Xi (n:=0) [] trivial (by kernel_rfl) fun k x=>by kernel_rfl
noncomputable def WM:List (bR×gY):=((122,[]),⟨true,[o27,o1],[o1],u2 Jb⟩)::WL
theorem Ya:tw Tryz.prog WM:=fk (bn 58 [] []) Xi [(0,L5)] ⟨O2,trivial⟩ Tryz.func122 (by kernel_rfl) fun x=>by kernel_rfl
noncomputable def WN:List (bR×gY):=((44,[]),⟨true,[a15,o1],[o1],u5 Ja⟩)::WM
theorem Yb:tw Tryz.prog WN:=fk (bn 18 [] []) Ya [] trivial Tryz.func44 (by kernel_rfl) fun x=>by kernel_rfl
noncomputable def g5:gY:=⟨true,[a2,o9,o1],[o19],Yv rm⟩
noncomputable def XI:List (bR×gY):=((7,[]),g5)::WN
theorem Yc:tw Tryz.prog XI:=fk (bn 161 [] []) Yb [] trivial Tryz.func7 (by kernel_rfl) fun x=>by kernel_rfl
theorem NU:eK Tryz.prog 7 g5:=Yc.1
end Go.Proofs.YthdhgmppijjhpaaGreat.fnExactRoundFor

