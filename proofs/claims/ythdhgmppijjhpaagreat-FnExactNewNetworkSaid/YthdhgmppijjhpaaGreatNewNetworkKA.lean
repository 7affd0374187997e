/- What each function that the law FnExactNewNetwork reaches promises: it computes what its plain function says. Conditions: none. -/
import Derived.Test.YthdhgmppijjhpaaGreatRows
import Derived.Test.YthdhgmppijjhpaaGreatNewNetworkQC
import Derived.KernelRfl
set_option linter.unusedVariables false
set_option linter.unusedSimpArgs false
namespace Go.Proofs.YthdhgmppijjhpaaGreat.fnExactNewNetwork
open Go.R Go.Fn
set_option maxRecDepth 100000
abbrev t0:Tys:=.cons (.int .i64) .nil
abbrev t1:Tys:=.cons .bool .nil
abbrev t2:Tys:=.cons (.int .u8) .nil
abbrev t3:Tys:=.cons (.int .i64) (.cons (.int .i64) (.cons .bool (.cons (.int .u8) .nil)))
abbrev t4:Tys:=.cons .str .nil
abbrev t5:Tys:=.cons (.int .u64) .nil
abbrev t6:Tys:=.cons .str (.cons (.int .u64) .nil)
abbrev t7:Tys:=.cons (.int .i32) .nil
abbrev t8:Tys:=.cons (.int .i64) (.cons (.int .i64) (.cons (.int .i64) (.cons (.int .i64) (.cons (.int .i64) (.cons (.int .i64) (.cons (.int .i64) (.cons (.int .i64) .nil)))))))
abbrev t9:Tys:=.cons (.int .i64) (.cons (.int .i64) .nil)
abbrev t10:Tys:=.cons (.int .i64) (.cons (.int .i64) (.cons (.int .i64) (.cons .bool .nil)))
abbrev t11:Tys:=.cons (.int .i64) (.cons (.sl 3 t0) (.cons (.sl 265 t10) .nil))
abbrev t12:Tys:=.cons (.int .i64) (.cons (.int .i64) (.cons (.int .i64) (.cons (.int .i64) (.cons (.int .i64) (.cons (.int .i64) (.cons (.int .i64) .nil))))))
abbrev t13:Tys:=.cons (.sl 244 t9) (.cons (.sl 244 t9) (.cons (.sl 202 t11) (.cons (.int .i64) (.cons (.int .i64) (.cons .bool (.cons .bool (.cons .bool (.cons (.int .i64) (.cons (.int .i64) (.cons (.sl 191 t12) .nil))))))))))
abbrev t14:Tys:=.cons (.sl 172 t13) .nil
abbrev t15:Tys:=.cons (.int .i64) (.cons (.int .i64) (.cons (.int .i64) (.cons (.int .i64) (.cons (.int .i64) (.cons (.int .i64) (.cons (.int .i64) (.cons (.int .i64) (.cons (.int .i64) (.cons (.int .i64) (.cons (.int .i64) (.cons (.int .i64) (.cons (.int .i64) .nil))))))))))))
abbrev t16:Tys:=.cons (.sl 187 t15) .nil
abbrev t17:Tys:=.cons (.int .i64) (.cons (.int .i64) (.cons (.int .i64) (.cons (.int .i64) (.cons (.int .i64) (.cons (.int .i64) (.cons .bool .nil))))))
abbrev t18:Tys:=.cons (.sl 189 t17) .nil
abbrev t19:Tys:=.cons (.sl 191 t12) .nil
abbrev t20:Tys:=.cons (.int .i64) (.cons (.int .i64) (.cons (.int .i64) (.cons (.int .i64) (.cons (.int .i64) (.cons (.int .i64) (.cons (.int .i64) (.cons (.int .i64) (.cons (.int .i64) (.cons (.int .i64) (.cons (.int .i64) (.cons (.sl 172 t13) (.cons (.sl 187 t15) (.cons (.sl 189 t17) (.cons (.sl 191 t12) .nil))))))))))))))
abbrev t21:Tys:=.cons (.int .i64) (.cons (.sl 3 t0) (.cons (.sl 182 t10) .nil))
abbrev t22:Tys:=.cons (.sl 208 t9) (.cons (.sl 208 t9) (.cons (.sl 161 t21) (.cons (.int .i64) (.cons (.int .i64) (.cons .bool (.cons .bool (.cons .bool (.cons (.int .i64) (.cons (.int .i64) (.cons (.sl 150 t12) .nil))))))))))
abbrev t23:Tys:=.cons (.sl 98 t22) .nil
abbrev t24:Tys:=.cons (.sl 120 t15) .nil
abbrev t25:Tys:=.cons (.sl 175 t17) .nil
abbrev t26:Tys:=.cons (.sl 150 t12) .nil
abbrev t27:Tys:=.cons (.int .i64) (.cons (.int .i64) (.cons (.int .i64) (.cons (.int .i64) (.cons (.int .i64) (.cons (.int .i64) (.cons (.int .i64) (.cons (.int .i64) (.cons (.int .i64) (.cons (.int .i64) (.cons (.int .i64) (.cons (.sl 98 t22) (.cons (.sl 120 t15) (.cons (.sl 175 t17) (.cons (.sl 150 t12) .nil))))))))))))))
abbrev t28:Tys:=.cons (.sl 244 t9) (.cons (.sl 244 t9) .nil)
abbrev t29:Tys:=.cons (.sl 125 t28) .nil
abbrev t30:Tys:=.cons (.sl 202 t11) .nil
abbrev t31:Tys:=.cons (.sl 127 t30) .nil
abbrev t32:Tys:=.cons (.sl 208 t9) (.cons (.sl 208 t9) .nil)
abbrev t33:Tys:=.cons (.sl 93 t32) .nil
abbrev t34:Tys:=.cons (.sl 161 t21) .nil
abbrev t35:Tys:=.cons (.sl 94 t34) .nil
abbrev t36:Tys:=.cons (.sl 3 t0) .nil
abbrev t37:Tys:=.cons (.sl 70 t36) .nil
abbrev t38:Tys:=.cons (.int .i64) (.cons (.int .i64) (.cons (.int .i64) (.cons (.int .i64) (.cons (.int .i64) .nil))))
abbrev t39:Tys:=.cons (.sl 139 t38) .nil
abbrev t40:Tys:=.cons (.int .i64) (.cons (.int .i64) (.cons (.sl 70 t36) (.cons (.sl 139 t38) .nil)))
abbrev t41:Tys:=.cons (.sl 5 t2) .nil
abbrev t42:Tys:=.cons (.sl 208 t9) .nil
abbrev t43:Tys:=.cons (.int .i64) (.cons (.int .i64) (.cons .bool (.cons .bool (.cons .bool .nil))))
abbrev t44:Tys:=.cons (.sl 244 t9) .nil
abbrev t45:Tys:=.cons (.sl 182 t10) .nil
abbrev t46:Tys:=.cons (.sl 265 t10) .nil
abbrev t47:Tys:=.cons (.sl 3 t0) (.cons (.int .i64) (.cons (.int .i64) (.cons (.int .i64) .nil)))
abbrev t48:Tys:=.cons (.sl 5 t2) (.cons (.int .i64) (.cons (.int .i64) .nil))
abbrev t49:Tys:=.cons (.int .u32) .nil
abbrev t50:Tys:=.cons (.int .i64) (.cons (.int .i64) (.cons (.int .i64) .nil))
abbrev t51:Tys:=.cons (.sl 296 t50) .nil
abbrev v0:K:=.val (.sl 244 t9)
abbrev v1:K:=.val (.int .i64)
abbrev v2:K:=.val (.sl 125 t28)
abbrev v3:K:=.val (.sl 3 t0)
abbrev v4:K:=.val (.sl 265 t10)
abbrev v5:K:=.val (.sl 202 t11)
abbrev v6:K:=.val (.sl 127 t30)
abbrev v7:K:=.val .bool
abbrev v8:K:=.val (.sl 208 t9)
abbrev v9:K:=.val (.sl 182 t10)
abbrev v10:K:=.val (.sl 161 t21)
abbrev v11:K:=.val (.sl 175 t17)
abbrev v12:K:=.val (.sl 150 t12)
abbrev v13:K:=.val (.sl 98 t22)
abbrev v14:K:=.val (.sl 120 t15)
abbrev v15:K:=.val (.sl 93 t32)
abbrev v16:K:=.val (.sl 94 t34)
abbrev v17:K:=.arr 208 t9 false
abbrev v18:K:=.arr 93 t32 true
abbrev v19:K:=.arr 3 t0 false
abbrev v20:K:=.arr 182 t10 false
abbrev v21:K:=.arr 161 t21 true
abbrev v22:K:=.arr 94 t34 true
abbrev v23:K:=.arr 98 t22 true
abbrev v24:K:=.arr 120 t15 false
abbrev v25:K:=.arr 175 t17 false
abbrev v26:K:=.arr 150 t12 false
abbrev o0:Sh:=.one v0
abbrev o1:Sh:=.one v1
abbrev o2:Sh:=.one v2
abbrev o3:Sh:=.one v3
abbrev o4:Sh:=.one v4
abbrev o5:Sh:=.one v5
abbrev o6:Sh:=.one v6
abbrev o7:Sh:=.one v17
abbrev o8:Sh:=.one v18
abbrev o9:Sh:=.one v19
abbrev o10:Sh:=.one v20
abbrev o11:Sh:=.one v21
abbrev o12:Sh:=.one v22
abbrev o13:Sh:=.one v10
abbrev o14:Sh:=.one v7
abbrev o15:Sh:=.one v11
abbrev o16:Sh:=.one v12
abbrev o17:Sh:=.one v8
abbrev o18:Sh:=.one v9
abbrev o19:Sh:=.one v15
abbrev o20:Sh:=.one v16
abbrev o21:Sh:=.one v13
abbrev o22:Sh:=.one v14
abbrev o23:Sh:=.one v26
abbrev o24:Sh:=.one v23
abbrev o25:Sh:=.one v24
abbrev o26:Sh:=.one v25
abbrev a0:Sh:=.agg [v1,v3,v4]
abbrev a1:Sh:=.agg [v1,v1,v1,v1,v1,v1,v1,v1]
abbrev a2:Sh:=.agg [v17,v17]
abbrev a3:Sh:=.agg [v1,v1,v1,v7]
abbrev a4:Sh:=.agg [v1,v19,v20]
abbrev a5:Sh:=.agg [v1,v3,v9]
abbrev a6:Sh:=.agg [v1,v1,v1,v1,v1,v1,v7]
abbrev a7:Sh:=.agg [v1,v1,v1,v1,v1,v1,v1]
abbrev a8:Sh:=.blk [v1,v1,v1,v7]
abbrev a9:Sh:=.agg [v1,v1,v7,v7,v7]
abbrev a10:Sh:=.agg [v1,v1,v1,v1,v1,v1,v1,v1,v1,v1,v1,v13,v14,v11,v12]
abbrev a11:Sh:=.agg [v1,v1,v1,v1,v1]
abbrev a12:Sh:=.blk [v1,v1,v1,v1,v1,v1,v1,v1,v1,v1,v1,v23,v24,v25,v26]
abbrev a13:Sh:=.agg [v1,v1,v1,v1,v1,v1,v1,v1,v1,v1,v1,v23,v24,v25,v26]
abbrev a14:Sh:=.agg [v1,v1,v1,v1,v1,v1,v1,v1,v1,v1,v1,v1,v1]
abbrev a15:Sh:=.agg [v8,v8,v10,v1,v1,v7,v7,v7,v1,v1,v12]
noncomputable def table:List (Nat×TI):=[(2,⟨t0,false,8,[],none⟩),
 (3,⟨t0,false,8,[],none⟩),
 (4,⟨t1,false,1,[],none⟩),
 (5,⟨t2,false,1,[],none⟩),
 (6,⟨t2,false,1,[],none⟩),
 (7,⟨t3,true,24,[(0,1,false),(1,1,false),(2,1,false),(3,1,false)],none⟩),
 (8,⟨t3,true,24,[(0,1,false),(1,1,false),(2,1,false),(3,1,false)],none⟩),
 (9,⟨t4,false,16,[],none⟩),
 (10,⟨t4,false,16,[],none⟩),
 (11,⟨t4,false,16,[],none⟩),
 (12,⟨t5,false,8,[],none⟩),
 (13,⟨t6,true,24,[(0,1,false),(1,1,false)],none⟩),
 (14,⟨t6,true,24,[(0,1,false),(1,1,false)],none⟩),
 (21,⟨t7,false,4,[],none⟩),
 (22,⟨t8,true,64,[(0,1,false),(1,1,false),(2,1,false),(3,1,false),(4,1,false),(5,1,false),(6,1,false),(7,1,false)],none⟩),
 (23,⟨t8,true,64,[(0,1,false),(1,1,false),(2,1,false),(3,1,false),(4,1,false),(5,1,false),(6,1,false),(7,1,false)],none⟩),
 (24,⟨t14,false,24,[],some 172⟩),
 (25,⟨t16,false,24,[],some 187⟩),
 (26,⟨t18,false,24,[],some 189⟩),
 (27,⟨t19,false,24,[],some 191⟩),
 (28,⟨t20,true,184,[(0,8,true),(8,1,false),(9,1,false),(10,1,false),(11,1,false),(12,1,false),(13,1,false),(14,1,false)],none⟩),
 (29,⟨t20,true,184,[(0,8,true),(8,1,false),(9,1,false),(10,1,false),(11,1,false),(12,1,false),(13,1,false),(14,1,false)],none⟩),
 (32,⟨t8,true,64,[(0,1,false),(1,1,false),(2,1,false),(3,1,false),(4,1,false),(5,1,false),(6,1,false),(7,1,false)],none⟩),
 (33,⟨t23,false,24,[],some 98⟩),
 (34,⟨t24,false,24,[],some 120⟩),
 (35,⟨t25,false,24,[],some 175⟩),
 (36,⟨t26,false,24,[],some 150⟩),
 (37,⟨t27,true,184,[(0,8,true),(8,1,false),(9,1,false),(10,1,false),(11,1,false),(12,1,false),(13,1,false),(14,1,false)],none⟩),
 (38,⟨t27,true,184,[(0,8,true),(8,1,false),(9,1,false),(10,1,false),(11,1,false),(12,1,false),(13,1,false),(14,1,false)],none⟩),
 (43,⟨t12,true,56,[(0,1,false),(1,1,false),(2,1,false),(3,1,false),(4,1,false),(5,1,false),(6,1,false)],none⟩),
 (44,⟨t12,true,56,[(0,1,false),(1,1,false),(2,1,false),(3,1,false),(4,1,false),(5,1,false),(6,1,false)],none⟩),
 (48,⟨t29,false,24,[],some 125⟩),
 (49,⟨t31,false,24,[],some 127⟩),
 (55,⟨t33,false,24,[],some 93⟩),
 (57,⟨t35,false,24,[],some 94⟩),
 (65,⟨t37,false,24,[],some 70⟩),
 (67,⟨t39,false,24,[],some 139⟩),
 (68,⟨t40,true,64,[(0,1,false),(1,1,false),(2,1,false),(3,1,false)],none⟩),
 (69,⟨t40,true,64,[(0,1,false),(1,1,false),(2,1,false),(3,1,false)],none⟩),
 (70,⟨t36,false,24,[],some 3⟩),
 (86,⟨t41,false,24,[],some 5⟩),
 (91,⟨t42,false,24,[],some 208⟩),
 (92,⟨t32,true,48,[(0,1,false),(1,1,false)],none⟩),
 (93,⟨t32,true,48,[(0,1,false),(1,1,false)],none⟩),
 (94,⟨t34,false,24,[],some 161⟩),
 (95,⟨t43,true,24,[(0,1,false),(1,1,false),(2,1,false),(3,1,false),(4,1,false)],none⟩),
 (96,⟨t43,true,24,[(0,1,false),(1,1,false),(2,1,false),(3,1,false),(4,1,false)],none⟩),
 (97,⟨t22,true,136,[(0,2,true),(2,1,false),(3,5,true),(8,1,false),(9,1,false),(10,1,false)],none⟩),
 (98,⟨t22,true,136,[(0,2,true),(2,1,false),(3,5,true),(8,1,false),(9,1,false),(10,1,false)],none⟩),
 (117,⟨t38,true,40,[(0,1,false),(1,1,false),(2,1,false),(3,1,false),(4,1,false)],none⟩),
 (118,⟨t38,true,40,[(0,1,false),(1,1,false),(2,1,false),(3,1,false),(4,1,false)],none⟩),
 (119,⟨t15,true,104,[(0,1,false),(1,1,false),(2,1,false),(3,1,false),(4,1,false),(5,1,false),(6,5,true),(11,1,false),(12,1,false)],none⟩),
 (120,⟨t15,true,104,[(0,1,false),(1,1,false),(2,1,false),(3,1,false),(4,1,false),(5,1,false),(6,5,true),(11,1,false),(12,1,false)],none⟩),
 (123,⟨t44,false,24,[],some 244⟩),
 (124,⟨t28,true,48,[(0,1,false),(1,1,false)],none⟩),
 (125,⟨t28,true,48,[(0,1,false),(1,1,false)],none⟩),
 (127,⟨t30,false,24,[],some 202⟩),
 (138,⟨t38,true,40,[(0,1,false),(1,1,false),(2,1,false),(3,1,false),(4,1,false)],none⟩),
 (139,⟨t38,true,40,[(0,1,false),(1,1,false),(2,1,false),(3,1,false),(4,1,false)],none⟩),
 (149,⟨t12,true,56,[(0,1,false),(1,1,false),(2,1,false),(3,1,false),(4,1,false),(5,1,false),(6,1,false)],none⟩),
 (150,⟨t12,true,56,[(0,1,false),(1,1,false),(2,1,false),(3,1,false),(4,1,false),(5,1,false),(6,1,false)],none⟩),
 (159,⟨t45,false,24,[],some 182⟩),
 (160,⟨t21,true,56,[(0,1,false),(1,1,false),(2,1,false)],none⟩),
 (161,⟨t21,true,56,[(0,1,false),(1,1,false),(2,1,false)],none⟩),
 (170,⟨t43,true,24,[(0,1,false),(1,1,false),(2,1,false),(3,1,false),(4,1,false)],none⟩),
 (171,⟨t13,true,136,[(0,2,true),(2,1,false),(3,5,true),(8,1,false),(9,1,false),(10,1,false)],none⟩),
 (172,⟨t13,true,136,[(0,2,true),(2,1,false),(3,5,true),(8,1,false),(9,1,false),(10,1,false)],none⟩),
 (174,⟨t17,true,56,[(0,1,false),(1,1,false),(2,1,false),(3,1,false),(4,1,false),(5,1,false),(6,1,false)],none⟩),
 (175,⟨t17,true,56,[(0,1,false),(1,1,false),(2,1,false),(3,1,false),(4,1,false),(5,1,false),(6,1,false)],none⟩),
 (181,⟨t10,true,32,[(0,1,false),(1,1,false),(2,1,false),(3,1,false)],none⟩),
 (182,⟨t10,true,32,[(0,1,false),(1,1,false),(2,1,false),(3,1,false)],none⟩),
 (185,⟨t38,true,40,[(0,1,false),(1,1,false),(2,1,false),(3,1,false),(4,1,false)],none⟩),
 (186,⟨t15,true,104,[(0,1,false),(1,1,false),(2,1,false),(3,1,false),(4,1,false),(5,1,false),(6,5,true),(11,1,false),(12,1,false)],none⟩),
 (187,⟨t15,true,104,[(0,1,false),(1,1,false),(2,1,false),(3,1,false),(4,1,false),(5,1,false),(6,5,true),(11,1,false),(12,1,false)],none⟩),
 (189,⟨t17,true,56,[(0,1,false),(1,1,false),(2,1,false),(3,1,false),(4,1,false),(5,1,false),(6,1,false)],none⟩),
 (191,⟨t12,true,56,[(0,1,false),(1,1,false),(2,1,false),(3,1,false),(4,1,false),(5,1,false),(6,1,false)],none⟩),
 (200,⟨t46,false,24,[],some 265⟩),
 (201,⟨t11,true,56,[(0,1,false),(1,1,false),(2,1,false)],none⟩),
 (202,⟨t11,true,56,[(0,1,false),(1,1,false),(2,1,false)],none⟩),
 (207,⟨t9,true,16,[(0,1,false),(1,1,false)],none⟩),
 (208,⟨t9,true,16,[(0,1,false),(1,1,false)],none⟩),
 (218,⟨t47,true,48,[(0,1,false),(1,1,false),(2,1,false),(3,1,false)],none⟩),
 (219,⟨t47,true,48,[(0,1,false),(1,1,false),(2,1,false),(3,1,false)],none⟩),
 (224,⟨t48,true,40,[(0,1,false),(1,1,false),(2,1,false)],none⟩),
 (225,⟨t48,true,40,[(0,1,false),(1,1,false),(2,1,false)],none⟩),
 (244,⟨t9,true,16,[(0,1,false),(1,1,false)],none⟩),
 (256,⟨t5,false,8,[],none⟩),
 (265,⟨t10,true,32,[(0,1,false),(1,1,false),(2,1,false),(3,1,false)],none⟩),
 (268,⟨t47,true,48,[(0,1,false),(1,1,false),(2,1,false),(3,1,false)],none⟩),
 (269,⟨t47,true,48,[(0,1,false),(1,1,false),(2,1,false),(3,1,false)],none⟩),
 (277,⟨t0,false,8,[],none⟩),
 (285,⟨t49,false,4,[],none⟩),
 (287,⟨t5,false,8,[],none⟩),
 (295,⟨t50,true,24,[(0,1,false),(1,1,false),(2,1,false)],none⟩),
 (296,⟨t50,true,24,[(0,1,false),(1,1,false),(2,1,false)],none⟩),
 (300,⟨t5,false,8,[],none⟩),
 (308,⟨t51,false,24,[],some 296⟩),
 (323,⟨t2,false,1,[],none⟩),
 (324,⟨t2,false,1,[],none⟩),
 (327,⟨t7,false,4,[],none⟩),
 (328,⟨t7,false,4,[],none⟩)]
theorem table_ok:chkAll Tryz.prog table=true:=by kernel_rfl
noncomputable def eqs:List Nat:=[32,96,118,120,175,150,44,182,208]
theorem eqs_ok:(eqs.all fun t=>chkEqT Tryz.prog (lookT table) t)=true:=by kernel_rfl
noncomputable def maps:List (Nat×IntKind):=[(236,.i64)]
theorem maps_ok:(maps.all fun p=>chkM Tryz.prog p.1 p.2)=true:=by kernel_rfl
noncomputable def env (nt:Nat) (tr dp:List Nat):Env:={ ti:=lookT table,deep:=fun d=>dp.any (Nat.beq d),trunc:=fun d=>tr.any (Nat.beq d),ro:=fun _=>false,eqT:=fun t=>eqs.any (Nat.beq t),mp:=lookM maps,nt:=nt }
theorem env_ok (nt:Nat) (tr dp:List Nat):EnvOk Tryz.prog (env nt tr dp):=envOk_of (by kernel_rfl) table_ok eqs_ok maps_ok _ rfl (fun _=>rfl) rfl
noncomputable def F_laws_szSpanS:FnR:=⟨true,[o0,o1],[o1],fun x=>laws_szSpanS x.1 x.2.1⟩
theorem ok_laws_szSpanS:CallOk Tryz.prog 174 F_laws_szSpanS:=
 func_ok (E:=env 12 [] []) (Ψ:=(lookF [])) (Λ:=(lookL [])) (fn:=Tryz.f174) (c:=body Tryz.f174) (env_ok _ _ _) (lookF_ok (l:=[]) trivial) Tryz.func174 (by kernel_rfl) (by kernel_rfl) (by kernel_rfl) (by decide) (loops_eq (l':=[]) (by kernel_rfl) (loops_nil (P:=Tryz.prog) (E:=env 12 [] []) (Λ:=(lookL [])) rfl)) (fun x=>by kernel_rfl)
noncomputable def F_laws_szWeek:FnR:=⟨true,[.agg [v0,v0],o1],[o1],fun x=>laws_szWeek x.1 x.2.1 x.2.2.1⟩
theorem ok_laws_szWeek:CallOk Tryz.prog 91 F_laws_szWeek:=
 func_ok (E:=env 18 [] []) (Ψ:=(lookF [((174,[]),F_laws_szSpanS)])) (Λ:=(lookL [])) (fn:=Tryz.f91) (c:=body Tryz.f91) (env_ok _ _ _) (lookF_ok ⟨ok_laws_szSpanS,trivial⟩) Tryz.func91 (by kernel_rfl) (by kernel_rfl) (by kernel_rfl) (by decide) (loops_eq (l':=[]) (by kernel_rfl) (loops_nil (P:=Tryz.prog) (E:=env 18 [] []) (Λ:=(lookL [])) rfl)) (fun x=>by kernel_rfl)
noncomputable def L_laws_szWeekS_0:LoopR:=⟨[(0,o2)],[(1,o1),(5,o1)],[(.ret,[(4,o1)]),(.exit 0,[(1,o1)])],fun k x=>laws_szWeekS_l0 k x⟩
theorem lo_laws_szWeekS_0:LoopOk Tryz.prog (env 27 [] []) (lp 0 (body Tryz.f21) 0) L_laws_szWeekS_0:=
 loop_ok' (Ψ:=(lookF [((91,[]),F_laws_szWeek)])) (Λ:=(lookL [])) (env_ok _ _ _) (lookF_ok ⟨ok_laws_szWeek,trivial⟩) (n:=0) (keep:=[(0,o2)]) (tmpl:=[(1,o1),(5,o1)]) (exits:=[(.ret,[(4,o1)]),(.exit 0,[(1,o1)])]) (loops_eq (l':=[]) (by kernel_rfl) (loops_nil (P:=Tryz.prog) (E:=env 27 [] []) (Λ:=(lookL [])) rfl)) (fun k x=>laws_szWeekS_b0 k x) (fun k x=>by kernel_rfl)
noncomputable def F_laws_szWeekS:FnR:=⟨true,[o2,o1],[o1],fun x=>laws_szWeekS x.1 x.2.1⟩
theorem ok_laws_szWeekS:CallOk Tryz.prog 21 F_laws_szWeekS:=
 func_ok (E:=env 27 [] []) (Ψ:=(lookF [((91,[]),F_laws_szWeek)])) (Λ:=(lookL [(0,L_laws_szWeekS_0)])) (fn:=Tryz.f21) (c:=body Tryz.f21) (env_ok _ _ _) (lookF_ok ⟨ok_laws_szWeek,trivial⟩) Tryz.func21 (by kernel_rfl) (by kernel_rfl) (by kernel_rfl) (by decide) (loops_eq (l':=[(0,lp 0 (body Tryz.f21) 0)]) (by kernel_rfl) (loops_cons (by kernel_rfl) lo_laws_szWeekS_0 (loops_nil (P:=Tryz.prog) (E:=env 27 [] []) (Λ:=(lookL [(0,L_laws_szWeekS_0)])) rfl))) (fun x=>by kernel_rfl)
noncomputable def F_laws_szIntS:FnR:=⟨true,[o3,o1],[o1],fun x=>laws_szIntS x.1 x.2.1⟩
theorem ok_laws_szIntS:CallOk Tryz.prog 109 F_laws_szIntS:=
 func_ok (E:=env 12 [] []) (Ψ:=(lookF [])) (Λ:=(lookL [])) (fn:=Tryz.f109) (c:=body Tryz.f109) (env_ok _ _ _) (lookF_ok (l:=[]) trivial) Tryz.func109 (by kernel_rfl) (by kernel_rfl) (by kernel_rfl) (by decide) (loops_eq (l':=[]) (by kernel_rfl) (loops_nil (P:=Tryz.prog) (E:=env 12 [] []) (Λ:=(lookL [])) rfl)) (fun x=>by kernel_rfl)
noncomputable def F_laws_szBoxS:FnR:=⟨true,[o4,o1],[o1],fun x=>laws_szBoxS x.1 x.2.1⟩
theorem ok_laws_szBoxS:CallOk Tryz.prog 230 F_laws_szBoxS:=
 func_ok (E:=env 12 [] []) (Ψ:=(lookF [])) (Λ:=(lookL [])) (fn:=Tryz.f230) (c:=body Tryz.f230) (env_ok _ _ _) (lookF_ok (l:=[]) trivial) Tryz.func230 (by kernel_rfl) (by kernel_rfl) (by kernel_rfl) (by decide) (loops_eq (l':=[]) (by kernel_rfl) (loops_nil (P:=Tryz.prog) (E:=env 12 [] []) (Λ:=(lookL [])) rfl)) (fun x=>by kernel_rfl)
noncomputable def F_laws_szColumn:FnR:=⟨true,[a0,o1],[o1],fun x=>laws_szColumn x.1 x.2.1 x.2.2.1 x.2.2.2.1⟩
theorem ok_laws_szColumn:CallOk Tryz.prog 175 F_laws_szColumn:=
 func_ok (E:=env 18 [] []) (Ψ:=(lookF [((109,[]),F_laws_szIntS),((230,[]),F_laws_szBoxS)])) (Λ:=(lookL [])) (fn:=Tryz.f175) (c:=body Tryz.f175) (env_ok _ _ _) (lookF_ok ⟨ok_laws_szIntS,ok_laws_szBoxS,trivial⟩) Tryz.func175 (by kernel_rfl) (by kernel_rfl) (by kernel_rfl) (by decide) (loops_eq (l':=[]) (by kernel_rfl) (loops_nil (P:=Tryz.prog) (E:=env 18 [] []) (Λ:=(lookL [])) rfl)) (fun x=>by kernel_rfl)
noncomputable def L_laws_szColumnS_0:LoopR:=⟨[(0,o5)],[(1,o1),(5,o1)],[(.ret,[(4,o1)]),(.exit 0,[(1,o1)])],fun k x=>laws_szColumnS_l0 k x⟩
theorem lo_laws_szColumnS_0:LoopOk Tryz.prog (env 27 [] []) (lp 0 (body Tryz.f92) 0) L_laws_szColumnS_0:=
 loop_ok' (Ψ:=(lookF [((175,[]),F_laws_szColumn)])) (Λ:=(lookL [])) (env_ok _ _ _) (lookF_ok ⟨ok_laws_szColumn,trivial⟩) (n:=0) (keep:=[(0,o5)]) (tmpl:=[(1,o1),(5,o1)]) (exits:=[(.ret,[(4,o1)]),(.exit 0,[(1,o1)])]) (loops_eq (l':=[]) (by kernel_rfl) (loops_nil (P:=Tryz.prog) (E:=env 27 [] []) (Λ:=(lookL [])) rfl)) (fun k x=>laws_szColumnS_b0 k x) (fun k x=>by kernel_rfl)
noncomputable def F_laws_szColumnS:FnR:=⟨true,[o5,o1],[o1],fun x=>laws_szColumnS x.1 x.2.1⟩
theorem ok_laws_szColumnS:CallOk Tryz.prog 92 F_laws_szColumnS:=
 func_ok (E:=env 27 [] []) (Ψ:=(lookF [((175,[]),F_laws_szColumn)])) (Λ:=(lookL [(0,L_laws_szColumnS_0)])) (fn:=Tryz.f92) (c:=body Tryz.f92) (env_ok _ _ _) (lookF_ok ⟨ok_laws_szColumn,trivial⟩) Tryz.func92 (by kernel_rfl) (by kernel_rfl) (by kernel_rfl) (by decide) (loops_eq (l':=[(0,lp 0 (body Tryz.f92) 0)]) (by kernel_rfl) (loops_cons (by kernel_rfl) lo_laws_szColumnS_0 (loops_nil (P:=Tryz.prog) (E:=env 27 [] []) (Λ:=(lookL [(0,L_laws_szColumnS_0)])) rfl))) (fun x=>by kernel_rfl)
noncomputable def L_laws_szColumnSS_0:LoopR:=⟨[(0,o6)],[(1,o1),(5,o1)],[(.ret,[(4,o1)]),(.exit 0,[(1,o1)])],fun k x=>laws_szColumnSS_l0 k x⟩
theorem lo_laws_szColumnSS_0:LoopOk Tryz.prog (env 27 [] []) (lp 0 (body Tryz.f22) 0) L_laws_szColumnSS_0:=
 loop_ok' (Ψ:=(lookF [((92,[]),F_laws_szColumnS)])) (Λ:=(lookL [])) (env_ok _ _ _) (lookF_ok ⟨ok_laws_szColumnS,trivial⟩) (n:=0) (keep:=[(0,o6)]) (tmpl:=[(1,o1),(5,o1)]) (exits:=[(.ret,[(4,o1)]),(.exit 0,[(1,o1)])]) (loops_eq (l':=[]) (by kernel_rfl) (loops_nil (P:=Tryz.prog) (E:=env 27 [] []) (Λ:=(lookL [])) rfl)) (fun k x=>laws_szColumnSS_b0 k x) (fun k x=>by kernel_rfl)
noncomputable def F_laws_szColumnSS:FnR:=⟨true,[o6,o1],[o1],fun x=>laws_szColumnSS x.1 x.2.1⟩
theorem ok_laws_szColumnSS:CallOk Tryz.prog 22 F_laws_szColumnSS:=
 func_ok (E:=env 27 [] []) (Ψ:=(lookF [((92,[]),F_laws_szColumnS)])) (Λ:=(lookL [(0,L_laws_szColumnSS_0)])) (fn:=Tryz.f22) (c:=body Tryz.f22) (env_ok _ _ _) (lookF_ok ⟨ok_laws_szColumnS,trivial⟩) Tryz.func22 (by kernel_rfl) (by kernel_rfl) (by kernel_rfl) (by decide) (loops_eq (l':=[(0,lp 0 (body Tryz.f22) 0)]) (by kernel_rfl) (loops_cons (by kernel_rfl) lo_laws_szColumnSS_0 (loops_nil (P:=Tryz.prog) (E:=env 27 [] []) (Λ:=(lookL [(0,L_laws_szColumnSS_0)])) rfl))) (fun x=>by kernel_rfl)
noncomputable def F_laws_toTerms:FnR:=⟨true,[a1],[a1],fun x=>laws_toTerms x.1 x.2.1 x.2.2.1 x.2.2.2.1 x.2.2.2.2.1 x.2.2.2.2.2.1 x.2.2.2.2.2.2.1 x.2.2.2.2.2.2.2.1⟩
theorem ok_laws_toTerms:CallOk Tryz.prog 24 F_laws_toTerms:=
 func_ok (E:=env 29 [] []) (Ψ:=(lookF [])) (Λ:=(lookL [])) (fn:=Tryz.f24) (c:=body Tryz.f24) (env_ok _ _ _) (lookF_ok (l:=[]) trivial) Tryz.func24 (by kernel_rfl) (by kernel_rfl) (by kernel_rfl) (by decide) (loops_eq (l':=[]) (by kernel_rfl) (loops_nil (P:=Tryz.prog) (E:=env 29 [] []) (Λ:=(lookL [])) rfl)) (fun x=>by kernel_rfl)
noncomputable def F_laws_toSpan:FnR:=⟨true,[.agg [v1,v1]],[.agg [v1,v1]],fun x=>laws_toSpan x.1 x.2.1⟩
theorem ok_laws_toSpan:CallOk Tryz.prog 231 F_laws_toSpan:=
 func_ok (E:=env 11 [] []) (Ψ:=(lookF [])) (Λ:=(lookL [])) (fn:=Tryz.f231) (c:=body Tryz.f231) (env_ok _ _ _) (lookF_ok (l:=[]) trivial) Tryz.func231 (by kernel_rfl) (by kernel_rfl) (by kernel_rfl) (by decide) (loops_eq (l':=[]) (by kernel_rfl) (loops_nil (P:=Tryz.prog) (E:=env 11 [] []) (Λ:=(lookL [])) rfl)) (fun x=>by kernel_rfl)
noncomputable def L_laws_toSpanS_0:LoopR:=⟨[(0,o0)],[(3,o7),(4,o1)],[(.exit 0,[(3,o7)])],fun k x=>laws_toSpanS_l0 k x⟩
theorem lo_laws_toSpanS_0:LoopOk Tryz.prog (env 23 [] []) (lp 0 (body Tryz.f177) 0) L_laws_toSpanS_0:=
 loop_ok' (Ψ:=(lookF [((231,[]),F_laws_toSpan)])) (Λ:=(lookL [])) (env_ok _ _ _) (lookF_ok ⟨ok_laws_toSpan,trivial⟩) (n:=0) (keep:=[(0,o0)]) (tmpl:=[(3,o7),(4,o1)]) (exits:=[(.exit 0,[(3,o7)])]) (loops_eq (l':=[]) (by kernel_rfl) (loops_nil (P:=Tryz.prog) (E:=env 23 [] []) (Λ:=(lookL [])) rfl)) (fun k x=>laws_toSpanS_b0 k x) (fun k x=>by kernel_rfl)
noncomputable def F_laws_toSpanS:FnR:=⟨true,[o0],[o7],fun x=>laws_toSpanS x.1⟩
theorem ok_laws_toSpanS:CallOk Tryz.prog 177 F_laws_toSpanS:=
 func_ok (E:=env 23 [] []) (Ψ:=(lookF [((231,[]),F_laws_toSpan)])) (Λ:=(lookL [(0,L_laws_toSpanS_0)])) (fn:=Tryz.f177) (c:=body Tryz.f177) (env_ok _ _ _) (lookF_ok ⟨ok_laws_toSpan,trivial⟩) Tryz.func177 (by kernel_rfl) (by kernel_rfl) (by kernel_rfl) (by decide) (loops_eq (l':=[(0,lp 0 (body Tryz.f177) 0)]) (by kernel_rfl) (loops_cons (by kernel_rfl) lo_laws_toSpanS_0 (loops_nil (P:=Tryz.prog) (E:=env 23 [] []) (Λ:=(lookL [(0,L_laws_toSpanS_0)])) rfl))) (fun x=>by kernel_rfl)
noncomputable def F_laws_toWeek:FnR:=⟨true,[.agg [v0,v0]],[a2],fun x=>laws_toWeek x.1 x.2.1⟩
theorem ok_laws_toWeek:CallOk Tryz.prog 95 F_laws_toWeek:=
 func_ok (E:=env 13 [] []) (Ψ:=(lookF [((177,[]),F_laws_toSpanS)])) (Λ:=(lookL [])) (fn:=Tryz.f95) (c:=body Tryz.f95) (env_ok _ _ _) (lookF_ok ⟨ok_laws_toSpanS,trivial⟩) Tryz.func95 (by kernel_rfl) (by kernel_rfl) (by kernel_rfl) (by decide) (loops_eq (l':=[]) (by kernel_rfl) (loops_nil (P:=Tryz.prog) (E:=env 13 [] []) (Λ:=(lookL [])) rfl)) (fun x=>by kernel_rfl)
noncomputable def L_laws_toWeekS_0:LoopR:=⟨[(0,o2)],[(3,o8),(4,o1)],[(.exit 0,[(3,o8)])],fun k x=>laws_toWeekS_l0 k x⟩
theorem lo_laws_toWeekS_0:LoopOk Tryz.prog (env 23 [] [7]) (lp 0 (body Tryz.f25) 0) L_laws_toWeekS_0:=
 loop_ok' (Ψ:=(lookF [((95,[]),F_laws_toWeek)])) (Λ:=(lookL [])) (env_ok _ _ _) (lookF_ok ⟨ok_laws_toWeek,trivial⟩) (n:=0) (keep:=[(0,o2)]) (tmpl:=[(3,o8),(4,o1)]) (exits:=[(.exit 0,[(3,o8)])]) (loops_eq (l':=[]) (by kernel_rfl) (loops_nil (P:=Tryz.prog) (E:=env 23 [] [7]) (Λ:=(lookL [])) rfl)) (fun k x=>laws_toWeekS_b0 k x) (fun k x=>by kernel_rfl)
noncomputable def F_laws_toWeekS:FnR:=⟨true,[o2],[o8],fun x=>laws_toWeekS x.1⟩
theorem ok_laws_toWeekS:CallOk Tryz.prog 25 F_laws_toWeekS:=
 func_ok (E:=env 23 [] [7]) (Ψ:=(lookF [((95,[]),F_laws_toWeek)])) (Λ:=(lookL [(0,L_laws_toWeekS_0)])) (fn:=Tryz.f25) (c:=body Tryz.f25) (env_ok _ _ _) (lookF_ok ⟨ok_laws_toWeek,trivial⟩) Tryz.func25 (by kernel_rfl) (by kernel_rfl) (by kernel_rfl) (by decide) (loops_eq (l':=[(0,lp 0 (body Tryz.f25) 0)]) (by kernel_rfl) (loops_cons (by kernel_rfl) lo_laws_toWeekS_0 (loops_nil (P:=Tryz.prog) (E:=env 23 [] [7]) (Λ:=(lookL [(0,L_laws_toWeekS_0)])) rfl))) (fun x=>by kernel_rfl)
noncomputable def L_laws_toIntS_0:LoopR:=⟨[(0,o3)],[(3,o9),(4,o1)],[(.exit 0,[(3,o9)])],fun k x=>laws_toIntS_l0 k x⟩
theorem lo_laws_toIntS_0:LoopOk Tryz.prog (env 22 [] []) (lp 0 (body Tryz.f115) 0) L_laws_toIntS_0:=
 loop_ok' (Ψ:=(lookF [])) (Λ:=(lookL [])) (env_ok _ _ _) (lookF_ok (l:=[]) trivial) (n:=0) (keep:=[(0,o3)]) (tmpl:=[(3,o9),(4,o1)]) (exits:=[(.exit 0,[(3,o9)])]) (loops_eq (l':=[]) (by kernel_rfl) (loops_nil (P:=Tryz.prog) (E:=env 22 [] []) (Λ:=(lookL [])) rfl)) (fun k x=>laws_toIntS_b0 k x) (fun k x=>by kernel_rfl)
noncomputable def F_laws_toIntS:FnR:=⟨true,[o3],[o9],fun x=>laws_toIntS x.1⟩
theorem ok_laws_toIntS:CallOk Tryz.prog 115 F_laws_toIntS:=
 func_ok (E:=env 22 [] []) (Ψ:=(lookF [])) (Λ:=(lookL [(0,L_laws_toIntS_0)])) (fn:=Tryz.f115) (c:=body Tryz.f115) (env_ok _ _ _) (lookF_ok (l:=[]) trivial) Tryz.func115 (by kernel_rfl) (by kernel_rfl) (by kernel_rfl) (by decide) (loops_eq (l':=[(0,lp 0 (body Tryz.f115) 0)]) (by kernel_rfl) (loops_cons (by kernel_rfl) lo_laws_toIntS_0 (loops_nil (P:=Tryz.prog) (E:=env 22 [] []) (Λ:=(lookL [(0,L_laws_toIntS_0)])) rfl))) (fun x=>by kernel_rfl)
noncomputable def F_laws_toBox:FnR:=⟨true,[a3],[a3],fun x=>laws_toBox x.1 x.2.1 x.2.2.1 x.2.2.2.1⟩
theorem ok_laws_toBox:CallOk Tryz.prog 261 F_laws_toBox:=
 func_ok (E:=env 17 [] []) (Ψ:=(lookF [])) (Λ:=(lookL [])) (fn:=Tryz.f261) (c:=body Tryz.f261) (env_ok _ _ _) (lookF_ok (l:=[]) trivial) Tryz.func261 (by kernel_rfl) (by kernel_rfl) (by kernel_rfl) (by decide) (loops_eq (l':=[]) (by kernel_rfl) (loops_nil (P:=Tryz.prog) (E:=env 17 [] []) (Λ:=(lookL [])) rfl)) (fun x=>by kernel_rfl)
noncomputable def L_laws_toBoxS_0:LoopR:=⟨[(0,o4)],[(3,o10),(4,o1)],[(.exit 0,[(3,o10)])],fun k x=>laws_toBoxS_l0 k x⟩
theorem lo_laws_toBoxS_0:LoopOk Tryz.prog (env 23 [] []) (lp 0 (body Tryz.f232) 0) L_laws_toBoxS_0:=
 loop_ok' (Ψ:=(lookF [((261,[]),F_laws_toBox)])) (Λ:=(lookL [])) (env_ok _ _ _) (lookF_ok ⟨ok_laws_toBox,trivial⟩) (n:=0) (keep:=[(0,o4)]) (tmpl:=[(3,o10),(4,o1)]) (exits:=[(.exit 0,[(3,o10)])]) (loops_eq (l':=[]) (by kernel_rfl) (loops_nil (P:=Tryz.prog) (E:=env 23 [] []) (Λ:=(lookL [])) rfl)) (fun k x=>laws_toBoxS_b0 k x) (fun k x=>by kernel_rfl)
noncomputable def F_laws_toBoxS:FnR:=⟨true,[o4],[o10],fun x=>laws_toBoxS x.1⟩
theorem ok_laws_toBoxS:CallOk Tryz.prog 232 F_laws_toBoxS:=
 func_ok (E:=env 23 [] []) (Ψ:=(lookF [((261,[]),F_laws_toBox)])) (Λ:=(lookL [(0,L_laws_toBoxS_0)])) (fn:=Tryz.f232) (c:=body Tryz.f232) (env_ok _ _ _) (lookF_ok ⟨ok_laws_toBox,trivial⟩) Tryz.func232 (by kernel_rfl) (by kernel_rfl) (by kernel_rfl) (by decide) (loops_eq (l':=[(0,lp 0 (body Tryz.f232) 0)]) (by kernel_rfl) (loops_cons (by kernel_rfl) lo_laws_toBoxS_0 (loops_nil (P:=Tryz.prog) (E:=env 23 [] []) (Λ:=(lookL [(0,L_laws_toBoxS_0)])) rfl))) (fun x=>by kernel_rfl)
noncomputable def F_laws_toColumn:FnR:=⟨true,[a0],[a4],fun x=>laws_toColumn x.1 x.2.1 x.2.2.1⟩
theorem ok_laws_toColumn:CallOk Tryz.prog 178 F_laws_toColumn:=
 func_ok (E:=env 16 [] []) (Ψ:=(lookF [((115,[]),F_laws_toIntS),((232,[]),F_laws_toBoxS)])) (Λ:=(lookL [])) (fn:=Tryz.f178) (c:=body Tryz.f178) (env_ok _ _ _) (lookF_ok ⟨ok_laws_toIntS,ok_laws_toBoxS,trivial⟩) Tryz.func178 (by kernel_rfl) (by kernel_rfl) (by kernel_rfl) (by decide) (loops_eq (l':=[]) (by kernel_rfl) (loops_nil (P:=Tryz.prog) (E:=env 16 [] []) (Λ:=(lookL [])) rfl)) (fun x=>by kernel_rfl)
noncomputable def L_laws_toColumnS_0:LoopR:=⟨[(0,o5)],[(3,o11),(4,o1)],[(.exit 0,[(3,o11)])],fun k x=>laws_toColumnS_l0 k x⟩
theorem lo_laws_toColumnS_0:LoopOk Tryz.prog (env 23 [] [7]) (lp 0 (body Tryz.f96) 0) L_laws_toColumnS_0:=
 loop_ok' (Ψ:=(lookF [((178,[]),F_laws_toColumn)])) (Λ:=(lookL [])) (env_ok _ _ _) (lookF_ok ⟨ok_laws_toColumn,trivial⟩) (n:=0) (keep:=[(0,o5)]) (tmpl:=[(3,o11),(4,o1)]) (exits:=[(.exit 0,[(3,o11)])]) (loops_eq (l':=[]) (by kernel_rfl) (loops_nil (P:=Tryz.prog) (E:=env 23 [] [7]) (Λ:=(lookL [])) rfl)) (fun k x=>laws_toColumnS_b0 k x) (fun k x=>by kernel_rfl)
noncomputable def F_laws_toColumnS:FnR:=⟨true,[o5],[o11],fun x=>laws_toColumnS x.1⟩
theorem ok_laws_toColumnS:CallOk Tryz.prog 96 F_laws_toColumnS:=
 func_ok (E:=env 23 [] [7]) (Ψ:=(lookF [((178,[]),F_laws_toColumn)])) (Λ:=(lookL [(0,L_laws_toColumnS_0)])) (fn:=Tryz.f96) (c:=body Tryz.f96) (env_ok _ _ _) (lookF_ok ⟨ok_laws_toColumn,trivial⟩) Tryz.func96 (by kernel_rfl) (by kernel_rfl) (by kernel_rfl) (by decide) (loops_eq (l':=[(0,lp 0 (body Tryz.f96) 0)]) (by kernel_rfl) (loops_cons (by kernel_rfl) lo_laws_toColumnS_0 (loops_nil (P:=Tryz.prog) (E:=env 23 [] [7]) (Λ:=(lookL [(0,L_laws_toColumnS_0)])) rfl))) (fun x=>by kernel_rfl)
noncomputable def L_laws_toColumnSS_0:LoopR:=⟨[(0,o6)],[(3,o12),(4,o1)],[(.exit 0,[(3,o12)])],fun k x=>laws_toColumnSS_l0 k x⟩
theorem lo_laws_toColumnSS_0:LoopOk Tryz.prog (env 23 [] [7]) (lp 0 (body Tryz.f26) 0) L_laws_toColumnSS_0:=
 loop_ok' (Ψ:=(lookF [((96,[]),F_laws_toColumnS)])) (Λ:=(lookL [])) (env_ok _ _ _) (lookF_ok ⟨ok_laws_toColumnS,trivial⟩) (n:=0) (keep:=[(0,o6)]) (tmpl:=[(3,o12),(4,o1)]) (exits:=[(.exit 0,[(3,o12)])]) (loops_eq (l':=[]) (by kernel_rfl) (loops_nil (P:=Tryz.prog) (E:=env 23 [] [7]) (Λ:=(lookL [])) rfl)) (fun k x=>laws_toColumnSS_b0 k x) (fun k x=>by kernel_rfl)
noncomputable def F_laws_toColumnSS:FnR:=⟨true,[o6],[o12],fun x=>laws_toColumnSS x.1⟩
theorem ok_laws_toColumnSS:CallOk Tryz.prog 26 F_laws_toColumnSS:=
 func_ok (E:=env 23 [] [7]) (Ψ:=(lookF [((96,[]),F_laws_toColumnS)])) (Λ:=(lookL [(0,L_laws_toColumnSS_0)])) (fn:=Tryz.f26) (c:=body Tryz.f26) (env_ok _ _ _) (lookF_ok ⟨ok_laws_toColumnS,trivial⟩) Tryz.func26 (by kernel_rfl) (by kernel_rfl) (by kernel_rfl) (by decide) (loops_eq (l':=[(0,lp 0 (body Tryz.f26) 0)]) (by kernel_rfl) (loops_cons (by kernel_rfl) lo_laws_toColumnSS_0 (loops_nil (P:=Tryz.prog) (E:=env 23 [] [7]) (Λ:=(lookL [(0,L_laws_toColumnSS_0)])) rfl))) (fun x=>by kernel_rfl)
noncomputable def F_spec_l09Week:FnR:=⟨true,[.agg [v8,v8]],[a2],fun x=>spec_l09Week x.1 x.2.1⟩
theorem ok_spec_l09Week:CallOk Tryz.prog 93 F_spec_l09Week:=
 func_ok (E:=env 12 [] []) (Ψ:=(lookF [])) (Λ:=(lookL [])) (fn:=Tryz.f93) (c:=body Tryz.f93) (env_ok _ _ _) (lookF_ok (l:=[]) trivial) Tryz.func93 (by kernel_rfl) (by kernel_rfl) (by kernel_rfl) (by decide) (loops_eq (l':=[]) (by kernel_rfl) (loops_nil (P:=Tryz.prog) (E:=env 12 [] []) (Λ:=(lookL [])) rfl)) (fun x=>by kernel_rfl)
noncomputable def F_spec_l02Copy:FnR:=⟨true,[a5],[a4],fun x=>spec_l02Copy x.1 x.2.1 x.2.2.1⟩
theorem ok_spec_l02Copy:CallOk Tryz.prog 176 F_spec_l02Copy:=
 func_ok (E:=env 14 [] []) (Ψ:=(lookF [])) (Λ:=(lookL [])) (fn:=Tryz.f176) (c:=body Tryz.f176) (env_ok _ _ _) (lookF_ok (l:=[]) trivial) Tryz.func176 (by kernel_rfl) (by kernel_rfl) (by kernel_rfl) (by decide) (loops_eq (l':=[]) (by kernel_rfl) (loops_nil (P:=Tryz.prog) (E:=env 14 [] []) (Λ:=(lookL [])) rfl)) (fun x=>by kernel_rfl)
noncomputable def L_spec_l02CopyBank_0:LoopR:=⟨[(0,o13)],[(3,o11),(4,o1)],[(.exit 0,[(3,o11)])],fun k x=>spec_l02CopyBank_l0 k x⟩
theorem lo_spec_l02CopyBank_0:LoopOk Tryz.prog (env 23 [] [6,20]) (lp 0 (body Tryz.f94) 0) L_spec_l02CopyBank_0:=
 loop_ok' (Ψ:=(lookF [((176,[]),F_spec_l02Copy)])) (Λ:=(lookL [])) (env_ok _ _ _) (lookF_ok ⟨ok_spec_l02Copy,trivial⟩) (n:=0) (keep:=[(0,o13)]) (tmpl:=[(3,o11),(4,o1)]) (exits:=[(.exit 0,[(3,o11)])]) (loops_eq (l':=[]) (by kernel_rfl) (loops_nil (P:=Tryz.prog) (E:=env 23 [] [6,20]) (Λ:=(lookL [])) rfl)) (fun k x=>spec_l02CopyBank_b0 k x) (fun k x=>by kernel_rfl)
noncomputable def F_spec_l02CopyBank:FnR:=⟨true,[o13],[o11],fun x=>spec_l02CopyBank x.1⟩
theorem ok_spec_l02CopyBank:CallOk Tryz.prog 94 F_spec_l02CopyBank:=
 func_ok (E:=env 23 [] [6,20]) (Ψ:=(lookF [((176,[]),F_spec_l02Copy)])) (Λ:=(lookL [(0,L_spec_l02CopyBank_0)])) (fn:=Tryz.f94) (c:=body Tryz.f94) (env_ok _ _ _) (lookF_ok ⟨ok_spec_l02Copy,trivial⟩) Tryz.func94 (by kernel_rfl) (by kernel_rfl) (by kernel_rfl) (by decide) (loops_eq (l':=[(0,lp 0 (body Tryz.f94) 0)]) (by kernel_rfl) (loops_cons (by kernel_rfl) lo_spec_l02CopyBank_0 (loops_nil (P:=Tryz.prog) (E:=env 23 [] [6,20]) (Λ:=(lookL [(0,L_spec_l02CopyBank_0)])) rfl))) (fun x=>by kernel_rfl)
noncomputable def F_spec_l01In:FnR:=⟨true,[o1,o1,o1],[o14],fun x=>spec_l01In x.1 x.2.1 x.2.2.1⟩
theorem ok_spec_l01In:CallOk Tryz.prog 63 F_spec_l01In:=
 func_ok (E:=env 15 [] []) (Ψ:=(lookF [])) (Λ:=(lookL [])) (fn:=Tryz.f63) (c:=body Tryz.f63) (env_ok _ _ _) (lookF_ok (l:=[]) trivial) Tryz.func63 (by kernel_rfl) (by kernel_rfl) (by kernel_rfl) (by decide) (loops_eq (l':=[]) (by kernel_rfl) (loops_nil (P:=Tryz.prog) (E:=env 15 [] []) (Λ:=(lookL [])) rfl)) (fun x=>by kernel_rfl)
noncomputable def F_spec_TermsOk:FnR:=⟨true,[a1],[o14],fun x=>spec_TermsOk x.1 x.2.1 x.2.2.1 x.2.2.2.1 x.2.2.2.2.1 x.2.2.2.2.2.1 x.2.2.2.2.2.2.1 x.2.2.2.2.2.2.2.1⟩
theorem ok_spec_TermsOk:CallOk Tryz.prog 62 F_spec_TermsOk:=
 func_ok (E:=env 41 [] []) (Ψ:=(lookF [((63,[]),F_spec_l01In)])) (Λ:=(lookL [])) (fn:=Tryz.f62) (c:=body Tryz.f62) (env_ok _ _ _) (lookF_ok ⟨ok_spec_l01In,trivial⟩) Tryz.func62 (by kernel_rfl) (by kernel_rfl) (by kernel_rfl) (by decide) (loops_eq (l':=[]) (by kernel_rfl) (loops_nil (P:=Tryz.prog) (E:=env 41 [] []) (Λ:=(lookL [])) rfl)) (fun x=>by kernel_rfl)
noncomputable def F_spec_l03Secret:FnR:=⟨true,[o1],[o14],fun x=>spec_l03Secret x.1⟩
theorem ok_spec_l03Secret:CallOk Tryz.prog 64 F_spec_l03Secret:=
 func_ok (E:=env 5 [] []) (Ψ:=(lookF [((63,[]),F_spec_l01In)])) (Λ:=(lookL [])) (fn:=Tryz.f64) (c:=body Tryz.f64) (env_ok _ _ _) (lookF_ok ⟨ok_spec_l01In,trivial⟩) Tryz.func64 (by kernel_rfl) (by kernel_rfl) (by kernel_rfl) (by decide) (loops_eq (l':=[]) (by kernel_rfl) (loops_nil (P:=Tryz.prog) (E:=env 5 [] []) (Λ:=(lookL [])) rfl)) (fun x=>by kernel_rfl)
noncomputable def F_spec_l05Person:FnR:=⟨true,[o1],[o14],fun x=>spec_l05Person x.1⟩
theorem ok_spec_l05Person:CallOk Tryz.prog 149 F_spec_l05Person:=
 func_ok (E:=env 5 [] []) (Ψ:=(lookF [((63,[]),F_spec_l01In)])) (Λ:=(lookL [])) (fn:=Tryz.f149) (c:=body Tryz.f149) (env_ok _ _ _) (lookF_ok ⟨ok_spec_l01In,trivial⟩) Tryz.func149 (by kernel_rfl) (by kernel_rfl) (by kernel_rfl) (by decide) (loops_eq (l':=[]) (by kernel_rfl) (loops_nil (P:=Tryz.prog) (E:=env 5 [] []) (Λ:=(lookL [])) rfl)) (fun x=>by kernel_rfl)
noncomputable def F_spec_l05Time:FnR:=⟨true,[o1],[o14],fun x=>spec_l05Time x.1⟩
theorem ok_spec_l05Time:CallOk Tryz.prog 214 F_spec_l05Time:=
 func_ok (E:=env 5 [] []) (Ψ:=(lookF [((63,[]),F_spec_l01In)])) (Λ:=(lookL [])) (fn:=Tryz.f214) (c:=body Tryz.f214) (env_ok _ _ _) (lookF_ok ⟨ok_spec_l01In,trivial⟩) Tryz.func214 (by kernel_rfl) (by kernel_rfl) (by kernel_rfl) (by decide) (loops_eq (l':=[]) (by kernel_rfl) (loops_nil (P:=Tryz.prog) (E:=env 5 [] []) (Λ:=(lookL [])) rfl)) (fun x=>by kernel_rfl)
noncomputable def F_spec_GrantOk:FnR:=⟨true,[a6],[o14],fun x=>spec_GrantOk x.1 x.2.1 x.2.2.1 x.2.2.2.1 x.2.2.2.2.1 x.2.2.2.2.2.1 x.2.2.2.2.2.2.1⟩
theorem ok_spec_GrantOk:CallOk Tryz.prog 144 F_spec_GrantOk:=
 func_ok (E:=env 45 [] []) (Ψ:=(lookF [((149,[]),F_spec_l05Person),((63,[]),F_spec_l01In),((214,[]),F_spec_l05Time)])) (Λ:=(lookL [])) (fn:=Tryz.f144) (c:=body Tryz.f144) (env_ok _ _ _) (lookF_ok ⟨ok_spec_l05Person,ok_spec_l01In,ok_spec_l05Time,trivial⟩) Tryz.func144 (by kernel_rfl) (by kernel_rfl) (by kernel_rfl) (by decide) (loops_eq (l':=[]) (by kernel_rfl) (loops_nil (P:=Tryz.prog) (E:=env 45 [] []) (Λ:=(lookL [])) rfl)) (fun x=>by kernel_rfl)
noncomputable def L_spec_GrantsOk_0:LoopR:=⟨[(0,o15)],[(3,o1)],[(.ret,[(2,o14)]),(.exit 0,[])],fun k x=>spec_GrantsOk_l0 k x⟩
theorem lo_spec_GrantsOk_0:LoopOk Tryz.prog (env 19 [] []) (lp 0 (body Tryz.f65) 0) L_spec_GrantsOk_0:=
 loop_ok' (Ψ:=(lookF [((144,[]),F_spec_GrantOk)])) (Λ:=(lookL [])) (env_ok _ _ _) (lookF_ok ⟨ok_spec_GrantOk,trivial⟩) (n:=0) (keep:=[(0,o15)]) (tmpl:=[(3,o1)]) (exits:=[(.ret,[(2,o14)]),(.exit 0,[])]) (loops_eq (l':=[]) (by kernel_rfl) (loops_nil (P:=Tryz.prog) (E:=env 19 [] []) (Λ:=(lookL [])) rfl)) (fun k x=>spec_GrantsOk_b0 k x) (fun k x=>by kernel_rfl)
noncomputable def F_spec_GrantsOk:FnR:=⟨true,[o15],[o14],fun x=>spec_GrantsOk x.1⟩
theorem ok_spec_GrantsOk:CallOk Tryz.prog 65 F_spec_GrantsOk:=
 func_ok (E:=env 19 [] []) (Ψ:=(lookF [((144,[]),F_spec_GrantOk)])) (Λ:=(lookL [(0,L_spec_GrantsOk_0)])) (fn:=Tryz.f65) (c:=body Tryz.f65) (env_ok _ _ _) (lookF_ok ⟨ok_spec_GrantOk,trivial⟩) Tryz.func65 (by kernel_rfl) (by kernel_rfl) (by kernel_rfl) (by decide) (loops_eq (l':=[(0,lp 0 (body Tryz.f65) 0)]) (by kernel_rfl) (loops_cons (by kernel_rfl) lo_spec_GrantsOk_0 (loops_nil (P:=Tryz.prog) (E:=env 19 [] []) (Λ:=(lookL [(0,L_spec_GrantsOk_0)])) rfl))) (fun x=>by kernel_rfl)
noncomputable def F_spec_EventOk:FnR:=⟨true,[a7],[o14],fun x=>spec_EventOk x.1 x.2.1 x.2.2.1 x.2.2.2.1 x.2.2.2.2.1 x.2.2.2.2.2.1 x.2.2.2.2.2.2.1⟩
theorem ok_spec_EventOk:CallOk Tryz.prog 145 F_spec_EventOk:=
 func_ok (E:=env 36 [] []) (Ψ:=(lookF [((63,[]),F_spec_l01In)])) (Λ:=(lookL [])) (fn:=Tryz.f145) (c:=body Tryz.f145) (env_ok _ _ _) (lookF_ok ⟨ok_spec_l01In,trivial⟩) Tryz.func145 (by kernel_rfl) (by kernel_rfl) (by kernel_rfl) (by decide) (loops_eq (l':=[]) (by kernel_rfl) (loops_nil (P:=Tryz.prog) (E:=env 36 [] []) (Λ:=(lookL [])) rfl)) (fun x=>by kernel_rfl)
noncomputable def L_spec_JournalOk_0:LoopR:=⟨[(0,o16)],[(3,o1)],[(.ret,[(2,o14)]),(.exit 0,[])],fun k x=>spec_JournalOk_l0 k x⟩
theorem lo_spec_JournalOk_0:LoopOk Tryz.prog (env 73 [] []) (lp 0 (body Tryz.f66) 0) L_spec_JournalOk_0:=
 loop_ok' (Ψ:=(lookF [((145,[]),F_spec_EventOk)])) (Λ:=(lookL [])) (env_ok _ _ _) (lookF_ok ⟨ok_spec_EventOk,trivial⟩) (n:=0) (keep:=[(0,o16)]) (tmpl:=[(3,o1)]) (exits:=[(.ret,[(2,o14)]),(.exit 0,[])]) (loops_eq (l':=[]) (by kernel_rfl) (loops_nil (P:=Tryz.prog) (E:=env 73 [] []) (Λ:=(lookL [])) rfl)) (fun k x=>spec_JournalOk_b0 k x) (fun k x=>by kernel_rfl)
noncomputable def F_spec_JournalOk:FnR:=⟨true,[o16],[o14],fun x=>spec_JournalOk x.1⟩
theorem ok_spec_JournalOk:CallOk Tryz.prog 66 F_spec_JournalOk:=
 func_ok (E:=env 73 [] []) (Ψ:=(lookF [((145,[]),F_spec_EventOk)])) (Λ:=(lookL [(0,L_spec_JournalOk_0)])) (fn:=Tryz.f66) (c:=body Tryz.f66) (env_ok _ _ _) (lookF_ok ⟨ok_spec_EventOk,trivial⟩) Tryz.func66 (by kernel_rfl) (by kernel_rfl) (by kernel_rfl) (by decide) (loops_eq (l':=[(0,lp 0 (body Tryz.f66) 0)]) (by kernel_rfl) (loops_cons (by kernel_rfl) lo_spec_JournalOk_0 (loops_nil (P:=Tryz.prog) (E:=env 73 [] []) (Λ:=(lookL [(0,L_spec_JournalOk_0)])) rfl))) (fun x=>by kernel_rfl)
noncomputable def L_spec_SpansOk_0:LoopR:=⟨[(0,o17),(1,o1)],[(5,o1)],[(.ret,[(4,o14)]),(.exit 0,[])],fun k x=>spec_SpansOk_l0 k x⟩
theorem lo_spec_SpansOk_0:LoopOk Tryz.prog (env 51 [] []) (lp 0 (body Tryz.f215) 0) L_spec_SpansOk_0:=
 loop_ok' (Ψ:=(lookF [])) (Λ:=(lookL [])) (env_ok _ _ _) (lookF_ok (l:=[]) trivial) (n:=0) (keep:=[(0,o17),(1,o1)]) (tmpl:=[(5,o1)]) (exits:=[(.ret,[(4,o14)]),(.exit 0,[])]) (loops_eq (l':=[]) (by kernel_rfl) (loops_nil (P:=Tryz.prog) (E:=env 51 [] []) (Λ:=(lookL [])) rfl)) (fun k x=>spec_SpansOk_b0 k x) (fun k x=>by kernel_rfl)
noncomputable def F_spec_SpansOk:FnR:=⟨true,[o17,o1],[o14],fun x=>spec_SpansOk x.1 x.2.1⟩
theorem ok_spec_SpansOk:CallOk Tryz.prog 215 F_spec_SpansOk:=
 func_ok (E:=env 51 [] []) (Ψ:=(lookF [])) (Λ:=(lookL [(0,L_spec_SpansOk_0)])) (fn:=Tryz.f215) (c:=body Tryz.f215) (env_ok _ _ _) (lookF_ok (l:=[]) trivial) Tryz.func215 (by kernel_rfl) (by kernel_rfl) (by kernel_rfl) (by decide) (loops_eq (l':=[(0,lp 0 (body Tryz.f215) 0)]) (by kernel_rfl) (loops_cons (by kernel_rfl) lo_spec_SpansOk_0 (loops_nil (P:=Tryz.prog) (E:=env 51 [] []) (Λ:=(lookL [(0,L_spec_SpansOk_0)])) rfl))) (fun x=>by kernel_rfl)
noncomputable def F_spec_WeekOk:FnR:=⟨true,[.agg [v8,v8]],[o14],fun x=>spec_WeekOk x.1 x.2.1⟩
theorem ok_spec_WeekOk:CallOk Tryz.prog 146 F_spec_WeekOk:=
 func_ok (E:=env 11 [] []) (Ψ:=(lookF [((215,[]),F_spec_SpansOk)])) (Λ:=(lookL [])) (fn:=Tryz.f146) (c:=body Tryz.f146) (env_ok _ _ _) (lookF_ok ⟨ok_spec_SpansOk,trivial⟩) Tryz.func146 (by kernel_rfl) (by kernel_rfl) (by kernel_rfl) (by decide) (loops_eq (l':=[]) (by kernel_rfl) (loops_nil (P:=Tryz.prog) (E:=env 11 [] []) (Λ:=(lookL [])) rfl)) (fun x=>by kernel_rfl)
noncomputable def L_spec_l02Boxes_2:LoopR:=⟨[(1,.ro t21),(3,o1),(4,o1)],[(5,a8),(6,o1)],[(.ret,[(2,o14)]),(.exit 2,[(5,a8)])],fun k x=>spec_l02Boxes_l2 k x⟩
theorem lo_spec_l02Boxes_2:LoopOk Tryz.prog (env 70 [] []) (lp 0 (lp 0 (body Tryz.f252) 0) 0) L_spec_l02Boxes_2:=
 loop_ok' (Ψ:=(lookF [((63,[]),F_spec_l01In)])) (Λ:=(lookL [])) (env_ok _ _ _) (lookF_ok ⟨ok_spec_l01In,trivial⟩) (n:=2) (keep:=[(1,.ro t21),(3,o1),(4,o1)]) (tmpl:=[(5,a8),(6,o1)]) (exits:=[(.ret,[(2,o14)]),(.exit 2,[(5,a8)])]) (loops_eq (l':=[]) (by kernel_rfl) (loops_nil (P:=Tryz.prog) (E:=env 70 [] []) (Λ:=(lookL [])) rfl)) (fun k x=>spec_l02Boxes_b2 k x) (fun k x=>by kernel_rfl)
noncomputable def L_spec_l02Boxes_0:LoopR:=⟨[(1,.ro t21)],[(3,o1),(4,o1)],[(.ret,[(2,o14)]),(.exit 0,[(3,o1)])],fun k x=>spec_l02Boxes_l0 k x⟩
theorem lo_spec_l02Boxes_0:LoopOk Tryz.prog (env 70 [] []) (lp 0 (body Tryz.f252) 0) L_spec_l02Boxes_0:=
 loop_ok' (Ψ:=(lookF [((63,[]),F_spec_l01In)])) (Λ:=(lookL [(2,L_spec_l02Boxes_2)])) (env_ok _ _ _) (lookF_ok ⟨ok_spec_l01In,trivial⟩) (n:=0) (keep:=[(1,.ro t21)]) (tmpl:=[(3,o1),(4,o1)]) (exits:=[(.ret,[(2,o14)]),(.exit 0,[(3,o1)])]) (loops_eq (l':=[(2,lp 0 (lp 0 (body Tryz.f252) 0) 0)]) (by kernel_rfl) (loops_cons (by kernel_rfl) lo_spec_l02Boxes_2 (loops_nil (P:=Tryz.prog) (E:=env 70 [] []) (Λ:=(lookL [(2,L_spec_l02Boxes_2)])) rfl))) (fun k x=>spec_l02Boxes_b0 k x) (fun k x=>by kernel_rfl)
noncomputable def F_spec_l02Boxes:FnR:=⟨true,[a5],[o14],fun x=>spec_l02Boxes x.1 x.2.1 x.2.2.1⟩
theorem ok_spec_l02Boxes:CallOk Tryz.prog 252 F_spec_l02Boxes:=
 func_ok (E:=env 70 [] []) (Ψ:=(lookF [((63,[]),F_spec_l01In)])) (Λ:=(lookL [(0,L_spec_l02Boxes_0)])) (fn:=Tryz.f252) (c:=body Tryz.f252) (env_ok _ _ _) (lookF_ok ⟨ok_spec_l01In,trivial⟩) Tryz.func252 (by kernel_rfl) (by kernel_rfl) (by kernel_rfl) (by decide) (loops_eq (l':=[(0,lp 0 (body Tryz.f252) 0)]) (by kernel_rfl) (loops_cons (by kernel_rfl) lo_spec_l02Boxes_0 (loops_nil (P:=Tryz.prog) (E:=env 70 [] []) (Λ:=(lookL [(0,L_spec_l02Boxes_0)])) rfl))) (fun x=>by kernel_rfl)
noncomputable def L_spec_ColumnOk_2:LoopR:=⟨[(1,.ro t21),(3,o1)],[(4,o14),(5,o1)],[(.exit 2,[(4,o14)])],fun k x=>spec_ColumnOk_l2 k x⟩
theorem lo_spec_ColumnOk_2:LoopOk Tryz.prog (env 74 [] []) (lp 0 (lp 0 (body Tryz.f205) 0) 0) L_spec_ColumnOk_2:=
 loop_ok' (Ψ:=(lookF [((63,[]),F_spec_l01In),((252,[]),F_spec_l02Boxes)])) (Λ:=(lookL [])) (env_ok _ _ _) (lookF_ok ⟨ok_spec_l01In,ok_spec_l02Boxes,trivial⟩) (n:=2) (keep:=[(1,.ro t21),(3,o1)]) (tmpl:=[(4,o14),(5,o1)]) (exits:=[(.exit 2,[(4,o14)])]) (loops_eq (l':=[]) (by kernel_rfl) (loops_nil (P:=Tryz.prog) (E:=env 74 [] []) (Λ:=(lookL [])) rfl)) (fun k x=>spec_ColumnOk_b2 k x) (fun k x=>by kernel_rfl)
noncomputable def L_spec_ColumnOk_0:LoopR:=⟨[(1,.ro t21)],[(3,o1)],[(.ret,[(2,o14)]),(.exit 0,[])],fun k x=>spec_ColumnOk_l0 k x⟩
theorem lo_spec_ColumnOk_0:LoopOk Tryz.prog (env 74 [] []) (lp 0 (body Tryz.f205) 0) L_spec_ColumnOk_0:=
 loop_ok' (Ψ:=(lookF [((63,[]),F_spec_l01In),((252,[]),F_spec_l02Boxes)])) (Λ:=(lookL [(2,L_spec_ColumnOk_2)])) (env_ok _ _ _) (lookF_ok ⟨ok_spec_l01In,ok_spec_l02Boxes,trivial⟩) (n:=0) (keep:=[(1,.ro t21)]) (tmpl:=[(3,o1)]) (exits:=[(.ret,[(2,o14)]),(.exit 0,[])]) (loops_eq (l':=[(2,lp 0 (lp 0 (body Tryz.f205) 0) 0)]) (by kernel_rfl) (loops_cons (by kernel_rfl) lo_spec_ColumnOk_2 (loops_nil (P:=Tryz.prog) (E:=env 74 [] []) (Λ:=(lookL [(2,L_spec_ColumnOk_2)])) rfl))) (fun k x=>spec_ColumnOk_b0 k x) (fun k x=>by kernel_rfl)
noncomputable def F_spec_ColumnOk:FnR:=⟨true,[a5],[o14],fun x=>spec_ColumnOk x.1 x.2.1 x.2.2.1⟩
theorem ok_spec_ColumnOk:CallOk Tryz.prog 205 F_spec_ColumnOk:=
 func_ok (E:=env 74 [] []) (Ψ:=(lookF [((63,[]),F_spec_l01In),((252,[]),F_spec_l02Boxes)])) (Λ:=(lookL [(0,L_spec_ColumnOk_0)])) (fn:=Tryz.f205) (c:=body Tryz.f205) (env_ok _ _ _) (lookF_ok ⟨ok_spec_l01In,ok_spec_l02Boxes,trivial⟩) Tryz.func205 (by kernel_rfl) (by kernel_rfl) (by kernel_rfl) (by decide) (loops_eq (l':=[(0,lp 0 (body Tryz.f205) 0)]) (by kernel_rfl) (loops_cons (by kernel_rfl) lo_spec_ColumnOk_0 (loops_nil (P:=Tryz.prog) (E:=env 74 [] []) (Λ:=(lookL [(0,L_spec_ColumnOk_0)])) rfl))) (fun x=>by kernel_rfl)
noncomputable def L_spec_l02Box_0:LoopR:=⟨[(1,o1),(2,.ro t21)],[(5,o1)],[(.ret,[(4,o1)]),(.exit 0,[])],fun k x=>spec_l02Box_l0 k x⟩
theorem lo_spec_l02Box_0:LoopOk Tryz.prog (env 26 [] []) (lp 0 (body Tryz.f216) 0) L_spec_l02Box_0:=
 loop_ok' (Ψ:=(lookF [])) (Λ:=(lookL [])) (env_ok _ _ _) (lookF_ok (l:=[]) trivial) (n:=0) (keep:=[(1,o1),(2,.ro t21)]) (tmpl:=[(5,o1)]) (exits:=[(.ret,[(4,o1)]),(.exit 0,[])]) (loops_eq (l':=[]) (by kernel_rfl) (loops_nil (P:=Tryz.prog) (E:=env 26 [] []) (Λ:=(lookL [])) rfl)) (fun k x=>spec_l02Box_b0 k x) (fun k x=>by kernel_rfl)
noncomputable def F_spec_l02Box:FnR:=⟨true,[a5,o1],[o1],fun x=>spec_l02Box x.1 x.2.1 x.2.2.1 x.2.2.2.1⟩
theorem ok_spec_l02Box:CallOk Tryz.prog 216 F_spec_l02Box:=
 func_ok (E:=env 26 [] []) (Ψ:=(lookF [])) (Λ:=(lookL [(0,L_spec_l02Box_0)])) (fn:=Tryz.f216) (c:=body Tryz.f216) (env_ok _ _ _) (lookF_ok (l:=[]) trivial) Tryz.func216 (by kernel_rfl) (by kernel_rfl) (by kernel_rfl) (by decide) (loops_eq (l':=[(0,lp 0 (body Tryz.f216) 0)]) (by kernel_rfl) (loops_cons (by kernel_rfl) lo_spec_l02Box_0 (loops_nil (P:=Tryz.prog) (E:=env 26 [] []) (Λ:=(lookL [(0,L_spec_l02Box_0)])) rfl))) (fun x=>by kernel_rfl)
noncomputable def L_spec_BankOk_4:LoopR:=⟨[(0,o13),(3,o1),(4,o1)],[(5,o1)],[(.ret,[(2,o14)]),(.exit 4,[])],fun k x=>spec_BankOk_l4 k x⟩
theorem lo_spec_BankOk_4:LoopOk Tryz.prog (env 52 [] []) (lp 2 (lp 0 (lp 0 (body Tryz.f147) 0) 0) 0) L_spec_BankOk_4:=
 loop_ok' (Ψ:=(lookF [((63,[]),F_spec_l01In),((205,[]),F_spec_ColumnOk),((216,[]),F_spec_l02Box)])) (Λ:=(lookL [])) (env_ok _ _ _) (lookF_ok ⟨ok_spec_l01In,ok_spec_ColumnOk,ok_spec_l02Box,trivial⟩) (n:=4) (keep:=[(0,o13),(3,o1),(4,o1)]) (tmpl:=[(5,o1)]) (exits:=[(.ret,[(2,o14)]),(.exit 4,[])]) (loops_eq (l':=[]) (by kernel_rfl) (loops_nil (P:=Tryz.prog) (E:=env 52 [] []) (Λ:=(lookL [])) rfl)) (fun k x=>spec_BankOk_b4 k x) (fun k x=>by kernel_rfl)
noncomputable def L_spec_BankOk_2:LoopR:=⟨[(0,o13),(3,o1)],[(4,o1)],[(.ret,[(2,o14)]),(.exit 2,[])],fun k x=>spec_BankOk_l2 k x⟩
theorem lo_spec_BankOk_2:LoopOk Tryz.prog (env 52 [] []) (lp 0 (lp 0 (body Tryz.f147) 0) 0) L_spec_BankOk_2:=
 loop_ok' (Ψ:=(lookF [((63,[]),F_spec_l01In),((205,[]),F_spec_ColumnOk),((216,[]),F_spec_l02Box)])) (Λ:=(lookL [(4,L_spec_BankOk_4)])) (env_ok _ _ _) (lookF_ok ⟨ok_spec_l01In,ok_spec_ColumnOk,ok_spec_l02Box,trivial⟩) (n:=2) (keep:=[(0,o13),(3,o1)]) (tmpl:=[(4,o1)]) (exits:=[(.ret,[(2,o14)]),(.exit 2,[])]) (loops_eq (l':=[(4,lp 2 (lp 0 (lp 0 (body Tryz.f147) 0) 0) 0)]) (by kernel_rfl) (loops_cons (by kernel_rfl) lo_spec_BankOk_4 (loops_nil (P:=Tryz.prog) (E:=env 52 [] []) (Λ:=(lookL [(4,L_spec_BankOk_4)])) rfl))) (fun k x=>spec_BankOk_b2 k x) (fun k x=>by kernel_rfl)
noncomputable def L_spec_BankOk_0:LoopR:=⟨[(0,o13)],[(3,o1)],[(.ret,[(2,o14)]),(.exit 0,[])],fun k x=>spec_BankOk_l0 k x⟩
theorem lo_spec_BankOk_0:LoopOk Tryz.prog (env 52 [] []) (lp 0 (body Tryz.f147) 0) L_spec_BankOk_0:=
 loop_ok' (Ψ:=(lookF [((63,[]),F_spec_l01In),((205,[]),F_spec_ColumnOk),((216,[]),F_spec_l02Box)])) (Λ:=(lookL [(2,L_spec_BankOk_2)])) (env_ok _ _ _) (lookF_ok ⟨ok_spec_l01In,ok_spec_ColumnOk,ok_spec_l02Box,trivial⟩) (n:=0) (keep:=[(0,o13)]) (tmpl:=[(3,o1)]) (exits:=[(.ret,[(2,o14)]),(.exit 0,[])]) (loops_eq (l':=[(2,lp 0 (lp 0 (body Tryz.f147) 0) 0)]) (by kernel_rfl) (loops_cons (by kernel_rfl) lo_spec_BankOk_2 (loops_nil (P:=Tryz.prog) (E:=env 52 [] []) (Λ:=(lookL [(2,L_spec_BankOk_2)])) rfl))) (fun k x=>spec_BankOk_b0 k x) (fun k x=>by kernel_rfl)
noncomputable def F_spec_BankOk:FnR:=⟨true,[o13],[o14],fun x=>spec_BankOk x.1⟩
theorem ok_spec_BankOk:CallOk Tryz.prog 147 F_spec_BankOk:=
 func_ok (E:=env 52 [] []) (Ψ:=(lookF [((63,[]),F_spec_l01In),((205,[]),F_spec_ColumnOk),((216,[]),F_spec_l02Box)])) (Λ:=(lookL [(0,L_spec_BankOk_0)])) (fn:=Tryz.f147) (c:=body Tryz.f147) (env_ok _ _ _) (lookF_ok ⟨ok_spec_l01In,ok_spec_ColumnOk,ok_spec_l02Box,trivial⟩) Tryz.func147 (by kernel_rfl) (by kernel_rfl) (by kernel_rfl) (by decide) (loops_eq (l':=[(0,lp 0 (body Tryz.f147) 0)]) (by kernel_rfl) (loops_cons (by kernel_rfl) lo_spec_BankOk_0 (loops_nil (P:=Tryz.prog) (E:=env 52 [] []) (Λ:=(lookL [(0,L_spec_BankOk_0)])) rfl))) (fun x=>by kernel_rfl)
noncomputable def F_spec_l04Before:FnR:=⟨true,[a9],[o14],fun x=>spec_l04Before x.1 x.2.1 x.2.2.1 x.2.2.2.1 x.2.2.2.2.1⟩
theorem ok_spec_l04Before:CallOk Tryz.prog 217 F_spec_l04Before:=
 func_ok (E:=env 9 [] []) (Ψ:=(lookF [])) (Λ:=(lookL [])) (fn:=Tryz.f217) (c:=body Tryz.f217) (env_ok _ _ _) (lookF_ok (l:=[]) trivial) Tryz.func217 (by kernel_rfl) (by kernel_rfl) (by kernel_rfl) (by decide) (loops_eq (l':=[]) (by kernel_rfl) (loops_nil (P:=Tryz.prog) (E:=env 9 [] []) (Λ:=(lookL [])) rfl)) (fun x=>by kernel_rfl)
noncomputable def F_spec_DoorOk:FnR:=⟨true,[a9],[o14],fun x=>spec_DoorOk x.1 x.2.1 x.2.2.1 x.2.2.2.1 x.2.2.2.2.1⟩
theorem ok_spec_DoorOk:CallOk Tryz.prog 148 F_spec_DoorOk:=
 func_ok (E:=env 88 [] []) (Ψ:=(lookF [((63,[]),F_spec_l01In),((217,[]),F_spec_l04Before)])) (Λ:=(lookL [])) (fn:=Tryz.f148) (c:=body Tryz.f148) (env_ok _ _ _) (lookF_ok ⟨ok_spec_l01In,ok_spec_l04Before,trivial⟩) Tryz.func148 (by kernel_rfl) (by kernel_rfl) (by kernel_rfl) (by decide) (loops_eq (l':=[]) (by kernel_rfl) (loops_nil (P:=Tryz.prog) (E:=env 88 [] []) (Λ:=(lookL [])) rfl)) (fun x=>by kernel_rfl)
noncomputable def F_spec_l09SiteOk:FnR:=⟨true,[a10,o1],[o14],fun x=>spec_l09SiteOk x.1 x.2.1 x.2.2.1 x.2.2.2.1 x.2.2.2.2.1 x.2.2.2.2.2.1 x.2.2.2.2.2.2.1 x.2.2.2.2.2.2.2.1 x.2.2.2.2.2.2.2.2.1 x.2.2.2.2.2.2.2.2.2.1 x.2.2.2.2.2.2.2.2.2.2.1 x.2.2.2.2.2.2.2.2.2.2.2.1 x.2.2.2.2.2.2.2.2.2.2.2.2.1 x.2.2.2.2.2.2.2.2.2.2.2.2.2.1 x.2.2.2.2.2.2.2.2.2.2.2.2.2.2.1 x.2.2.2.2.2.2.2.2.2.2.2.2.2.2.2.1⟩
theorem ok_spec_l09SiteOk:CallOk Tryz.prog 67 F_spec_l09SiteOk:=
 func_ok (E:=env 95 [] []) (Ψ:=(lookF [((146,[]),F_spec_WeekOk),((147,[]),F_spec_BankOk),((148,[]),F_spec_DoorOk),((66,[]),F_spec_JournalOk),((63,[]),F_spec_l01In)])) (Λ:=(lookL [])) (fn:=Tryz.f67) (c:=body Tryz.f67) (env_ok _ _ _) (lookF_ok ⟨ok_spec_WeekOk,ok_spec_BankOk,ok_spec_DoorOk,ok_spec_JournalOk,ok_spec_l01In,trivial⟩) Tryz.func67 (by kernel_rfl) (by kernel_rfl) (by kernel_rfl) (by decide) (loops_eq (l':=[]) (by kernel_rfl) (loops_nil (P:=Tryz.prog) (E:=env 95 [] []) (Λ:=(lookL [])) rfl)) (fun x=>by kernel_rfl)
noncomputable def F_spec_l09Unplaced:FnR:=⟨true,[a10,o1],[o14],fun x=>spec_l09Unplaced x.1 x.2.1 x.2.2.1 x.2.2.2.1 x.2.2.2.2.1 x.2.2.2.2.2.1 x.2.2.2.2.2.2.1 x.2.2.2.2.2.2.2.1 x.2.2.2.2.2.2.2.2.1 x.2.2.2.2.2.2.2.2.2.1 x.2.2.2.2.2.2.2.2.2.2.1 x.2.2.2.2.2.2.2.2.2.2.2.1 x.2.2.2.2.2.2.2.2.2.2.2.2.1 x.2.2.2.2.2.2.2.2.2.2.2.2.2.1 x.2.2.2.2.2.2.2.2.2.2.2.2.2.2.1 x.2.2.2.2.2.2.2.2.2.2.2.2.2.2.2.1⟩
theorem ok_spec_l09Unplaced:CallOk Tryz.prog 150 F_spec_l09Unplaced:=
 func_ok (E:=env 35 [] []) (Ψ:=(lookF [])) (Λ:=(lookL [])) (fn:=Tryz.f150) (c:=body Tryz.f150) (env_ok _ _ _) (lookF_ok (l:=[]) trivial) Tryz.func150 (by kernel_rfl) (by kernel_rfl) (by kernel_rfl) (by decide) (loops_eq (l':=[]) (by kernel_rfl) (loops_nil (P:=Tryz.prog) (E:=env 35 [] []) (Λ:=(lookL [])) rfl)) (fun x=>by kernel_rfl)
noncomputable def F_spec_LockOk:FnR:=⟨true,[a11],[o14],fun x=>spec_LockOk x.1 x.2.1 x.2.2.1 x.2.2.2.1 x.2.2.2.2.1⟩
theorem ok_spec_LockOk:CallOk Tryz.prog 151 F_spec_LockOk:=
 func_ok (E:=env 26 [] []) (Ψ:=(lookF [((64,[]),F_spec_l03Secret),((63,[]),F_spec_l01In)])) (Λ:=(lookL [])) (fn:=Tryz.f151) (c:=body Tryz.f151) (env_ok _ _ _) (lookF_ok ⟨ok_spec_l03Secret,ok_spec_l01In,trivial⟩) Tryz.func151 (by kernel_rfl) (by kernel_rfl) (by kernel_rfl) (by decide) (loops_eq (l':=[]) (by kernel_rfl) (loops_nil (P:=Tryz.prog) (E:=env 26 [] []) (Λ:=(lookL [])) rfl)) (fun x=>by kernel_rfl)
noncomputable def F_spec_SecretOf:FnR:=⟨true,[a10,o1],[o1],fun x=>spec_SecretOf x.1 x.2.1 x.2.2.1 x.2.2.2.1 x.2.2.2.2.1 x.2.2.2.2.2.1 x.2.2.2.2.2.2.1 x.2.2.2.2.2.2.2.1 x.2.2.2.2.2.2.2.2.1 x.2.2.2.2.2.2.2.2.2.1 x.2.2.2.2.2.2.2.2.2.2.1 x.2.2.2.2.2.2.2.2.2.2.2.1 x.2.2.2.2.2.2.2.2.2.2.2.2.1 x.2.2.2.2.2.2.2.2.2.2.2.2.2.1 x.2.2.2.2.2.2.2.2.2.2.2.2.2.2.1 x.2.2.2.2.2.2.2.2.2.2.2.2.2.2.2.1⟩
theorem ok_spec_SecretOf:CallOk Tryz.prog 152 F_spec_SecretOf:=
 func_ok (E:=env 21 [] []) (Ψ:=(lookF [((64,[]),F_spec_l03Secret),((63,[]),F_spec_l01In)])) (Λ:=(lookL [])) (fn:=Tryz.f152) (c:=body Tryz.f152) (env_ok _ _ _) (lookF_ok ⟨ok_spec_l03Secret,ok_spec_l01In,trivial⟩) Tryz.func152 (by kernel_rfl) (by kernel_rfl) (by kernel_rfl) (by decide) (loops_eq (l':=[]) (by kernel_rfl) (loops_nil (P:=Tryz.prog) (E:=env 21 [] []) (Λ:=(lookL [])) rfl)) (fun x=>by kernel_rfl)
noncomputable def F_spec_l09ParcelOk:FnR:=⟨true,[a10,o1],[o14],fun x=>spec_l09ParcelOk x.1 x.2.1 x.2.2.1 x.2.2.2.1 x.2.2.2.2.1 x.2.2.2.2.2.1 x.2.2.2.2.2.2.1 x.2.2.2.2.2.2.2.1 x.2.2.2.2.2.2.2.2.1 x.2.2.2.2.2.2.2.2.2.1 x.2.2.2.2.2.2.2.2.2.2.1 x.2.2.2.2.2.2.2.2.2.2.2.1 x.2.2.2.2.2.2.2.2.2.2.2.2.1 x.2.2.2.2.2.2.2.2.2.2.2.2.2.1 x.2.2.2.2.2.2.2.2.2.2.2.2.2.2.1 x.2.2.2.2.2.2.2.2.2.2.2.2.2.2.2.1⟩
theorem ok_spec_l09ParcelOk:CallOk Tryz.prog 68 F_spec_l09ParcelOk:=
 func_ok (E:=env 142 [] []) (Ψ:=(lookF [((63,[]),F_spec_l01In),((149,[]),F_spec_l05Person),((150,[]),F_spec_l09Unplaced),((151,[]),F_spec_LockOk),((152,[]),F_spec_SecretOf)])) (Λ:=(lookL [])) (fn:=Tryz.f68) (c:=body Tryz.f68) (env_ok _ _ _) (lookF_ok ⟨ok_spec_l01In,ok_spec_l05Person,ok_spec_l09Unplaced,ok_spec_LockOk,ok_spec_SecretOf,trivial⟩) Tryz.func68 (by kernel_rfl) (by kernel_rfl) (by kernel_rfl) (by decide) (loops_eq (l':=[]) (by kernel_rfl) (loops_nil (P:=Tryz.prog) (E:=env 142 [] []) (Λ:=(lookL [])) rfl)) (fun x=>by kernel_rfl)
noncomputable def L_spec_l09BoxesOk_4:LoopR:=⟨[(1,.ro t27),(4,o1),(5,o1),(6,o18)],[(3,o1),(7,o1)],[(.ret,[(2,o14)]),(.exit 4,[(3,o1)])],fun k x=>spec_l09BoxesOk_l4 k x⟩
theorem lo_spec_l09BoxesOk_4:LoopOk Tryz.prog (env 126 [] []) (lp 2 (lp 0 (lp 0 (body Tryz.f69) 0) 0) 0) L_spec_l09BoxesOk_4:=
 loop_ok' (Ψ:=(lookF [])) (Λ:=(lookL [])) (env_ok _ _ _) (lookF_ok (l:=[]) trivial) (n:=4) (keep:=[(1,.ro t27),(4,o1),(5,o1),(6,o18)]) (tmpl:=[(3,o1),(7,o1)]) (exits:=[(.ret,[(2,o14)]),(.exit 4,[(3,o1)])]) (loops_eq (l':=[]) (by kernel_rfl) (loops_nil (P:=Tryz.prog) (E:=env 126 [] []) (Λ:=(lookL [])) rfl)) (fun k x=>spec_l09BoxesOk_b4 k x) (fun k x=>by kernel_rfl)
noncomputable def L_spec_l09BoxesOk_2:LoopR:=⟨[(1,.ro t27),(4,o1)],[(3,o1),(5,o1)],[(.ret,[(2,o14)]),(.exit 2,[(3,o1)])],fun k x=>spec_l09BoxesOk_l2 k x⟩
theorem lo_spec_l09BoxesOk_2:LoopOk Tryz.prog (env 126 [] []) (lp 0 (lp 0 (body Tryz.f69) 0) 0) L_spec_l09BoxesOk_2:=
 loop_ok' (Ψ:=(lookF [])) (Λ:=(lookL [(4,L_spec_l09BoxesOk_4)])) (env_ok _ _ _) (lookF_ok (l:=[]) trivial) (n:=2) (keep:=[(1,.ro t27),(4,o1)]) (tmpl:=[(3,o1),(5,o1)]) (exits:=[(.ret,[(2,o14)]),(.exit 2,[(3,o1)])]) (loops_eq (l':=[(4,lp 2 (lp 0 (lp 0 (body Tryz.f69) 0) 0) 0)]) (by kernel_rfl) (loops_cons (by kernel_rfl) lo_spec_l09BoxesOk_4 (loops_nil (P:=Tryz.prog) (E:=env 126 [] []) (Λ:=(lookL [(4,L_spec_l09BoxesOk_4)])) rfl))) (fun k x=>spec_l09BoxesOk_b2 k x) (fun k x=>by kernel_rfl)
noncomputable def L_spec_l09BoxesOk_0:LoopR:=⟨[(1,.ro t27)],[(3,o1),(4,o1)],[(.ret,[(2,o14)]),(.exit 0,[(3,o1)])],fun k x=>spec_l09BoxesOk_l0 k x⟩
theorem lo_spec_l09BoxesOk_0:LoopOk Tryz.prog (env 126 [] []) (lp 0 (body Tryz.f69) 0) L_spec_l09BoxesOk_0:=
 loop_ok' (Ψ:=(lookF [])) (Λ:=(lookL [(2,L_spec_l09BoxesOk_2)])) (env_ok _ _ _) (lookF_ok (l:=[]) trivial) (n:=0) (keep:=[(1,.ro t27)]) (tmpl:=[(3,o1),(4,o1)]) (exits:=[(.ret,[(2,o14)]),(.exit 0,[(3,o1)])]) (loops_eq (l':=[(2,lp 0 (lp 0 (body Tryz.f69) 0) 0)]) (by kernel_rfl) (loops_cons (by kernel_rfl) lo_spec_l09BoxesOk_2 (loops_nil (P:=Tryz.prog) (E:=env 126 [] []) (Λ:=(lookL [(2,L_spec_l09BoxesOk_2)])) rfl))) (fun k x=>spec_l09BoxesOk_b0 k x) (fun k x=>by kernel_rfl)
noncomputable def L_spec_l09BoxesOk_6:LoopR:=⟨[(1,.ro t27)],[(3,o1),(10,o1)],[(.exit 6,[(3,o1)])],fun k x=>spec_l09BoxesOk_l6 k x⟩
theorem lo_spec_l09BoxesOk_6:LoopOk Tryz.prog (env 126 [] []) (lp 0 (body Tryz.f69) 1) L_spec_l09BoxesOk_6:=
 loop_ok' (Ψ:=(lookF [])) (Λ:=(lookL [])) (env_ok _ _ _) (lookF_ok (l:=[]) trivial) (n:=6) (keep:=[(1,.ro t27)]) (tmpl:=[(3,o1),(10,o1)]) (exits:=[(.exit 6,[(3,o1)])]) (loops_eq (l':=[]) (by kernel_rfl) (loops_nil (P:=Tryz.prog) (E:=env 126 [] []) (Λ:=(lookL [])) rfl)) (fun k x=>spec_l09BoxesOk_b6 k x) (fun k x=>by kernel_rfl)
noncomputable def F_spec_l09BoxesOk:FnR:=⟨true,[a10],[o14],fun x=>spec_l09BoxesOk x.1 x.2.1 x.2.2.1 x.2.2.2.1 x.2.2.2.2.1 x.2.2.2.2.2.1 x.2.2.2.2.2.2.1 x.2.2.2.2.2.2.2.1 x.2.2.2.2.2.2.2.2.1 x.2.2.2.2.2.2.2.2.2.1 x.2.2.2.2.2.2.2.2.2.2.1 x.2.2.2.2.2.2.2.2.2.2.2.1 x.2.2.2.2.2.2.2.2.2.2.2.2.1 x.2.2.2.2.2.2.2.2.2.2.2.2.2.1 x.2.2.2.2.2.2.2.2.2.2.2.2.2.2.1⟩
theorem ok_spec_l09BoxesOk:CallOk Tryz.prog 69 F_spec_l09BoxesOk:=
 func_ok (E:=env 126 [] []) (Ψ:=(lookF [])) (Λ:=(lookL [(0,L_spec_l09BoxesOk_0),(6,L_spec_l09BoxesOk_6)])) (fn:=Tryz.f69) (c:=body Tryz.f69) (env_ok _ _ _) (lookF_ok (l:=[]) trivial) Tryz.func69 (by kernel_rfl) (by kernel_rfl) (by kernel_rfl) (by decide) (loops_eq (l':=[(0,lp 0 (body Tryz.f69) 0),(6,lp 0 (body Tryz.f69) 1)]) (by kernel_rfl) (loops_cons (by kernel_rfl) lo_spec_l09BoxesOk_0 (loops_cons (by kernel_rfl) lo_spec_l09BoxesOk_6 (loops_nil (P:=Tryz.prog) (E:=env 126 [] []) (Λ:=(lookL [(0,L_spec_l09BoxesOk_0),(6,L_spec_l09BoxesOk_6)])) rfl)))) (fun x=>by kernel_rfl)
noncomputable def L_spec_l09Load_0:LoopR:=⟨[(1,.ro t27)],[(3,o1),(4,o1)],[(.exit 0,[(3,o1)])],fun k x=>spec_l09Load_l0 k x⟩
theorem lo_spec_l09Load_0:LoopOk Tryz.prog (env 33 [] []) (lp 0 (body Tryz.f70) 0) L_spec_l09Load_0:=
 loop_ok' (Ψ:=(lookF [((150,[]),F_spec_l09Unplaced)])) (Λ:=(lookL [])) (env_ok _ _ _) (lookF_ok ⟨ok_spec_l09Unplaced,trivial⟩) (n:=0) (keep:=[(1,.ro t27)]) (tmpl:=[(3,o1),(4,o1)]) (exits:=[(.exit 0,[(3,o1)])]) (loops_eq (l':=[]) (by kernel_rfl) (loops_nil (P:=Tryz.prog) (E:=env 33 [] []) (Λ:=(lookL [])) rfl)) (fun k x=>spec_l09Load_b0 k x) (fun k x=>by kernel_rfl)
noncomputable def F_spec_l09Load:FnR:=⟨true,[a10],[o1],fun x=>spec_l09Load x.1 x.2.1 x.2.2.1 x.2.2.2.1 x.2.2.2.2.1 x.2.2.2.2.2.1 x.2.2.2.2.2.2.1 x.2.2.2.2.2.2.2.1 x.2.2.2.2.2.2.2.2.1 x.2.2.2.2.2.2.2.2.2.1 x.2.2.2.2.2.2.2.2.2.2.1 x.2.2.2.2.2.2.2.2.2.2.2.1 x.2.2.2.2.2.2.2.2.2.2.2.2.1 x.2.2.2.2.2.2.2.2.2.2.2.2.2.1 x.2.2.2.2.2.2.2.2.2.2.2.2.2.2.1⟩
theorem ok_spec_l09Load:CallOk Tryz.prog 70 F_spec_l09Load:=
 func_ok (E:=env 33 [] []) (Ψ:=(lookF [((150,[]),F_spec_l09Unplaced)])) (Λ:=(lookL [(0,L_spec_l09Load_0)])) (fn:=Tryz.f70) (c:=body Tryz.f70) (env_ok _ _ _) (lookF_ok ⟨ok_spec_l09Unplaced,trivial⟩) Tryz.func70 (by kernel_rfl) (by kernel_rfl) (by kernel_rfl) (by decide) (loops_eq (l':=[(0,lp 0 (body Tryz.f70) 0)]) (by kernel_rfl) (loops_cons (by kernel_rfl) lo_spec_l09Load_0 (loops_nil (P:=Tryz.prog) (E:=env 33 [] []) (Λ:=(lookL [(0,L_spec_l09Load_0)])) rfl))) (fun x=>by kernel_rfl)
noncomputable def L_spec_NetworkOk_0:LoopR:=⟨[(1,.ro t27)],[(3,o1)],[(.ret,[(2,o14)]),(.exit 0,[])],fun k x=>spec_NetworkOk_l0 k x⟩
theorem lo_spec_NetworkOk_0:LoopOk Tryz.prog (env 83 [] []) (lp 0 (body Tryz.f12) 0) L_spec_NetworkOk_0:=
 loop_ok' (Ψ:=(lookF [((62,[]),F_spec_TermsOk),((63,[]),F_spec_l01In),((64,[]),F_spec_l03Secret),((65,[]),F_spec_GrantsOk),((66,[]),F_spec_JournalOk),((67,[]),F_spec_l09SiteOk),((68,[]),F_spec_l09ParcelOk),((69,[]),F_spec_l09BoxesOk),((70,[]),F_spec_l09Load)])) (Λ:=(lookL [])) (env_ok _ _ _) (lookF_ok ⟨ok_spec_TermsOk,ok_spec_l01In,ok_spec_l03Secret,ok_spec_GrantsOk,ok_spec_JournalOk,ok_spec_l09SiteOk,ok_spec_l09ParcelOk,ok_spec_l09BoxesOk,ok_spec_l09Load,trivial⟩) (n:=0) (keep:=[(1,.ro t27)]) (tmpl:=[(3,o1)]) (exits:=[(.ret,[(2,o14)]),(.exit 0,[])]) (loops_eq (l':=[]) (by kernel_rfl) (loops_nil (P:=Tryz.prog) (E:=env 83 [] []) (Λ:=(lookL [])) rfl)) (fun k x=>spec_NetworkOk_b0 k x) (fun k x=>by kernel_rfl)
noncomputable def L_spec_NetworkOk_2:LoopR:=⟨[(1,.ro t27)],[(4,o1)],[(.ret,[(2,o14)]),(.exit 2,[])],fun k x=>spec_NetworkOk_l2 k x⟩
theorem lo_spec_NetworkOk_2:LoopOk Tryz.prog (env 83 [] []) (lp 0 (body Tryz.f12) 1) L_spec_NetworkOk_2:=
 loop_ok' (Ψ:=(lookF [((62,[]),F_spec_TermsOk),((63,[]),F_spec_l01In),((64,[]),F_spec_l03Secret),((65,[]),F_spec_GrantsOk),((66,[]),F_spec_JournalOk),((67,[]),F_spec_l09SiteOk),((68,[]),F_spec_l09ParcelOk),((69,[]),F_spec_l09BoxesOk),((70,[]),F_spec_l09Load)])) (Λ:=(lookL [])) (env_ok _ _ _) (lookF_ok ⟨ok_spec_TermsOk,ok_spec_l01In,ok_spec_l03Secret,ok_spec_GrantsOk,ok_spec_JournalOk,ok_spec_l09SiteOk,ok_spec_l09ParcelOk,ok_spec_l09BoxesOk,ok_spec_l09Load,trivial⟩) (n:=2) (keep:=[(1,.ro t27)]) (tmpl:=[(4,o1)]) (exits:=[(.ret,[(2,o14)]),(.exit 2,[])]) (loops_eq (l':=[]) (by kernel_rfl) (loops_nil (P:=Tryz.prog) (E:=env 83 [] []) (Λ:=(lookL [])) rfl)) (fun k x=>spec_NetworkOk_b2 k x) (fun k x=>by kernel_rfl)
noncomputable def F_spec_NetworkOk:FnR:=⟨true,[a10],[o14],fun x=>spec_NetworkOk x.1 x.2.1 x.2.2.1 x.2.2.2.1 x.2.2.2.2.1 x.2.2.2.2.2.1 x.2.2.2.2.2.2.1 x.2.2.2.2.2.2.2.1 x.2.2.2.2.2.2.2.2.1 x.2.2.2.2.2.2.2.2.2.1 x.2.2.2.2.2.2.2.2.2.2.1 x.2.2.2.2.2.2.2.2.2.2.2.1 x.2.2.2.2.2.2.2.2.2.2.2.2.1 x.2.2.2.2.2.2.2.2.2.2.2.2.2.1 x.2.2.2.2.2.2.2.2.2.2.2.2.2.2.1⟩
theorem ok_spec_NetworkOk:CallOk Tryz.prog 12 F_spec_NetworkOk:=
 func_ok (E:=env 83 [] []) (Ψ:=(lookF [((62,[]),F_spec_TermsOk),((63,[]),F_spec_l01In),((64,[]),F_spec_l03Secret),((65,[]),F_spec_GrantsOk),((66,[]),F_spec_JournalOk),((67,[]),F_spec_l09SiteOk),((68,[]),F_spec_l09ParcelOk),((69,[]),F_spec_l09BoxesOk),((70,[]),F_spec_l09Load)])) (Λ:=(lookL [(0,L_spec_NetworkOk_0),(2,L_spec_NetworkOk_2)])) (fn:=Tryz.f12) (c:=body Tryz.f12) (env_ok _ _ _) (lookF_ok ⟨ok_spec_TermsOk,ok_spec_l01In,ok_spec_l03Secret,ok_spec_GrantsOk,ok_spec_JournalOk,ok_spec_l09SiteOk,ok_spec_l09ParcelOk,ok_spec_l09BoxesOk,ok_spec_l09Load,trivial⟩) Tryz.func12 (by kernel_rfl) (by kernel_rfl) (by kernel_rfl) (by decide) (loops_eq (l':=[(0,lp 0 (body Tryz.f12) 0),(2,lp 0 (body Tryz.f12) 1)]) (by kernel_rfl) (loops_cons (by kernel_rfl) lo_spec_NetworkOk_0 (loops_cons (by kernel_rfl) lo_spec_NetworkOk_2 (loops_nil (P:=Tryz.prog) (E:=env 83 [] []) (Λ:=(lookL [(0,L_spec_NetworkOk_0),(2,L_spec_NetworkOk_2)])) rfl)))) (fun x=>by kernel_rfl)
noncomputable def L_spec_NewNetwork_0:LoopR:=⟨[(3,o19),(4,o20)],[(10,a12),(12,a12),(13,o1)],[(.exit 0,[(10,a12),(12,a12)])],fun k x=>spec_NewNetwork_l0 k x⟩
theorem lo_spec_NewNetwork_0:LoopOk Tryz.prog (env 56 [] [48]) (lp 0 (body Tryz.f23) 0) L_spec_NewNetwork_0:=
 loop_ok' (Ψ:=(lookF [((93,[]),F_spec_l09Week),((94,[]),F_spec_l02CopyBank),((12,[]),F_spec_NetworkOk)])) (Λ:=(lookL [])) (env_ok _ _ _) (lookF_ok ⟨ok_spec_l09Week,ok_spec_l02CopyBank,ok_spec_NetworkOk,trivial⟩) (n:=0) (keep:=[(3,o19),(4,o20)]) (tmpl:=[(10,a12),(12,a12),(13,o1)]) (exits:=[(.exit 0,[(10,a12),(12,a12)])]) (loops_eq (l':=[]) (by kernel_rfl) (loops_nil (P:=Tryz.prog) (E:=env 56 [] [48]) (Λ:=(lookL [])) rfl)) (fun k x=>spec_NewNetwork_b0 k x) (fun k x=>by kernel_rfl)
noncomputable def F_spec_NewNetwork:FnR:=⟨true,[a1,o1,o1,o19,o20],[a13,o14],fun x=>spec_NewNetwork x.1 x.2.1 x.2.2.1 x.2.2.2.1 x.2.2.2.2.1 x.2.2.2.2.2.1 x.2.2.2.2.2.2.1 x.2.2.2.2.2.2.2.1 x.2.2.2.2.2.2.2.2.1 x.2.2.2.2.2.2.2.2.2.1 x.2.2.2.2.2.2.2.2.2.2.1 x.2.2.2.2.2.2.2.2.2.2.2.1⟩
theorem ok_spec_NewNetwork:CallOk Tryz.prog 23 F_spec_NewNetwork:=
 func_ok (E:=env 56 [] [48]) (Ψ:=(lookF [((93,[]),F_spec_l09Week),((94,[]),F_spec_l02CopyBank),((12,[]),F_spec_NetworkOk)])) (Λ:=(lookL [(0,L_spec_NewNetwork_0)])) (fn:=Tryz.f23) (c:=body Tryz.f23) (env_ok _ _ _) (lookF_ok ⟨ok_spec_l09Week,ok_spec_l02CopyBank,ok_spec_NetworkOk,trivial⟩) Tryz.func23 (by kernel_rfl) (by kernel_rfl) (by kernel_rfl) (by decide) (loops_eq (l':=[(0,lp 0 (body Tryz.f23) 0)]) (by kernel_rfl) (loops_cons (by kernel_rfl) lo_spec_NewNetwork_0 (loops_nil (P:=Tryz.prog) (E:=env 56 [] [48]) (Λ:=(lookL [(0,L_spec_NewNetwork_0)])) rfl))) (fun x=>by kernel_rfl)
noncomputable def F_slices_Clone___impl_Span_impl_Span_:FnR:=⟨true,[o17],[o7],fun x=>slices_Clone___impl_Span_impl_Span_ x.1⟩
theorem ok_slices_Clone___impl_Span_impl_Span_:CallOk Tryz.prog 179 F_slices_Clone___impl_Span_impl_Span_:=
 func_ok (E:=env 8 [] []) (Ψ:=(lookF [])) (Λ:=(lookL [])) (fn:=Tryz.f179) (c:=body Tryz.f179) (env_ok _ _ _) (lookF_ok (l:=[]) trivial) Tryz.func179 (by kernel_rfl) (by kernel_rfl) (by kernel_rfl) (by decide) (loops_eq (l':=[]) (by kernel_rfl) (loops_nil (P:=Tryz.prog) (E:=env 8 [] []) (Λ:=(lookL [])) rfl)) (fun x=>by kernel_rfl)
noncomputable def F_impl_copyWeek:FnR:=⟨true,[.agg [v8,v8]],[a2],fun x=>impl_copyWeek x.1 x.2.1⟩
theorem ok_impl_copyWeek:CallOk Tryz.prog 97 F_impl_copyWeek:=
 func_ok (E:=env 10 [] []) (Ψ:=(lookF [((179,[]),F_slices_Clone___impl_Span_impl_Span_)])) (Λ:=(lookL [])) (fn:=Tryz.f97) (c:=body Tryz.f97) (env_ok _ _ _) (lookF_ok ⟨ok_slices_Clone___impl_Span_impl_Span_,trivial⟩) Tryz.func97 (by kernel_rfl) (by kernel_rfl) (by kernel_rfl) (by decide) (loops_eq (l':=[]) (by kernel_rfl) (loops_nil (P:=Tryz.prog) (E:=env 10 [] []) (Λ:=(lookL [])) rfl)) (fun x=>by kernel_rfl)
noncomputable def F_slices_Clone___int_int_:FnR:=⟨true,[o3],[o9],fun x=>slices_Clone___int_int_ x.1⟩
theorem ok_slices_Clone___int_int_:CallOk Tryz.prog 201 F_slices_Clone___int_int_:=
 func_ok (E:=env 8 [] []) (Ψ:=(lookF [])) (Λ:=(lookL [])) (fn:=Tryz.f201) (c:=body Tryz.f201) (env_ok _ _ _) (lookF_ok (l:=[]) trivial) Tryz.func201 (by kernel_rfl) (by kernel_rfl) (by kernel_rfl) (by decide) (loops_eq (l':=[]) (by kernel_rfl) (loops_nil (P:=Tryz.prog) (E:=env 8 [] []) (Λ:=(lookL [])) rfl)) (fun x=>by kernel_rfl)
noncomputable def F_slices_Clone___impl_Box_impl_Box_:FnR:=⟨true,[o18],[o10],fun x=>slices_Clone___impl_Box_impl_Box_ x.1⟩
theorem ok_slices_Clone___impl_Box_impl_Box_:CallOk Tryz.prog 233 F_slices_Clone___impl_Box_impl_Box_:=
 func_ok (E:=env 8 [] []) (Ψ:=(lookF [])) (Λ:=(lookL [])) (fn:=Tryz.f233) (c:=body Tryz.f233) (env_ok _ _ _) (lookF_ok (l:=[]) trivial) Tryz.func233 (by kernel_rfl) (by kernel_rfl) (by kernel_rfl) (by decide) (loops_eq (l':=[]) (by kernel_rfl) (loops_nil (P:=Tryz.prog) (E:=env 8 [] []) (Λ:=(lookL [])) rfl)) (fun x=>by kernel_rfl)
noncomputable def F_impl_copyColumn:FnR:=⟨true,[a5],[a4],fun x=>impl_copyColumn x.1 x.2.1 x.2.2.1⟩
theorem ok_impl_copyColumn:CallOk Tryz.prog 180 F_impl_copyColumn:=
 func_ok (E:=env 12 [] []) (Ψ:=(lookF [((201,[]),F_slices_Clone___int_int_),((233,[]),F_slices_Clone___impl_Box_impl_Box_)])) (Λ:=(lookL [])) (fn:=Tryz.f180) (c:=body Tryz.f180) (env_ok _ _ _) (lookF_ok ⟨ok_slices_Clone___int_int_,ok_slices_Clone___impl_Box_impl_Box_,trivial⟩) Tryz.func180 (by kernel_rfl) (by kernel_rfl) (by kernel_rfl) (by decide) (loops_eq (l':=[]) (by kernel_rfl) (loops_nil (P:=Tryz.prog) (E:=env 12 [] []) (Λ:=(lookL [])) rfl)) (fun x=>by kernel_rfl)
noncomputable def L_impl_copyBank_0:LoopR:=⟨[(6,o13),(7,o1)],[(3,o11),(8,o1)],[(.exit 0,[(3,o11)])],fun k x=>impl_copyBank_l0 k x⟩
theorem lo_impl_copyBank_0:LoopOk Tryz.prog (env 19 [] [15]) (lp 0 (body Tryz.f98) 0) L_impl_copyBank_0:=
 loop_ok' (Ψ:=(lookF [((180,[]),F_impl_copyColumn)])) (Λ:=(lookL [])) (env_ok _ _ _) (lookF_ok ⟨ok_impl_copyColumn,trivial⟩) (n:=0) (keep:=[(6,o13),(7,o1)]) (tmpl:=[(3,o11),(8,o1)]) (exits:=[(.exit 0,[(3,o11)])]) (loops_eq (l':=[]) (by kernel_rfl) (loops_nil (P:=Tryz.prog) (E:=env 19 [] [15]) (Λ:=(lookL [])) rfl)) (fun k x=>impl_copyBank_b0 k x) (fun k x=>by kernel_rfl)
noncomputable def F_impl_copyBank:FnR:=⟨true,[o13],[o11],fun x=>impl_copyBank x.1⟩
theorem ok_impl_copyBank:CallOk Tryz.prog 98 F_impl_copyBank:=
 func_ok (E:=env 19 [] [15]) (Ψ:=(lookF [((180,[]),F_impl_copyColumn)])) (Λ:=(lookL [(0,L_impl_copyBank_0)])) (fn:=Tryz.f98) (c:=body Tryz.f98) (env_ok _ _ _) (lookF_ok ⟨ok_impl_copyColumn,trivial⟩) Tryz.func98 (by kernel_rfl) (by kernel_rfl) (by kernel_rfl) (by decide) (loops_eq (l':=[(0,lp 0 (body Tryz.f98) 0)]) (by kernel_rfl) (loops_cons (by kernel_rfl) lo_impl_copyBank_0 (loops_nil (P:=Tryz.prog) (E:=env 19 [] [15]) (Λ:=(lookL [(0,L_impl_copyBank_0)])) rfl))) (fun x=>by kernel_rfl)
noncomputable def F_impl_within:FnR:=⟨true,[o1,o1,o1],[o14],fun x=>impl_within x.1 x.2.1 x.2.2.1⟩
theorem ok_impl_within:CallOk Tryz.prog 76 F_impl_within:=
 func_ok (E:=env 15 [] []) (Ψ:=(lookF [])) (Λ:=(lookL [])) (fn:=Tryz.f76) (c:=body Tryz.f76) (env_ok _ _ _) (lookF_ok (l:=[]) trivial) Tryz.func76 (by kernel_rfl) (by kernel_rfl) (by kernel_rfl) (by decide) (loops_eq (l':=[]) (by kernel_rfl) (loops_nil (P:=Tryz.prog) (E:=env 15 [] []) (Λ:=(lookL [])) rfl)) (fun x=>by kernel_rfl)
noncomputable def F_impl_TermsOk:FnR:=⟨true,[a1],[o14],fun x=>impl_TermsOk x.1 x.2.1 x.2.2.1 x.2.2.2.1 x.2.2.2.2.1 x.2.2.2.2.2.1 x.2.2.2.2.2.2.1 x.2.2.2.2.2.2.2.1⟩
theorem ok_impl_TermsOk:CallOk Tryz.prog 75 F_impl_TermsOk:=
 func_ok (E:=env 41 [] []) (Ψ:=(lookF [((76,[]),F_impl_within)])) (Λ:=(lookL [])) (fn:=Tryz.f75) (c:=body Tryz.f75) (env_ok _ _ _) (lookF_ok ⟨ok_impl_within,trivial⟩) Tryz.func75 (by kernel_rfl) (by kernel_rfl) (by kernel_rfl) (by decide) (loops_eq (l':=[]) (by kernel_rfl) (loops_nil (P:=Tryz.prog) (E:=env 41 [] []) (Λ:=(lookL [])) rfl)) (fun x=>by kernel_rfl)
noncomputable def F_impl_secretOk:FnR:=⟨true,[o1],[o14],fun x=>impl_secretOk x.1⟩
theorem ok_impl_secretOk:CallOk Tryz.prog 77 F_impl_secretOk:=
 func_ok (E:=env 5 [] []) (Ψ:=(lookF [((76,[]),F_impl_within)])) (Λ:=(lookL [])) (fn:=Tryz.f77) (c:=body Tryz.f77) (env_ok _ _ _) (lookF_ok ⟨ok_impl_within,trivial⟩) Tryz.func77 (by kernel_rfl) (by kernel_rfl) (by kernel_rfl) (by decide) (loops_eq (l':=[]) (by kernel_rfl) (loops_nil (P:=Tryz.prog) (E:=env 5 [] []) (Λ:=(lookL [])) rfl)) (fun x=>by kernel_rfl)
noncomputable def F_impl_timeOk:FnR:=⟨true,[o1],[o14],fun x=>impl_timeOk x.1⟩
theorem ok_impl_timeOk:CallOk Tryz.prog 78 F_impl_timeOk:=
 func_ok (E:=env 5 [] []) (Ψ:=(lookF [((76,[]),F_impl_within)])) (Λ:=(lookL [])) (fn:=Tryz.f78) (c:=body Tryz.f78) (env_ok _ _ _) (lookF_ok ⟨ok_impl_within,trivial⟩) Tryz.func78 (by kernel_rfl) (by kernel_rfl) (by kernel_rfl) (by decide) (loops_eq (l':=[]) (by kernel_rfl) (loops_nil (P:=Tryz.prog) (E:=env 5 [] []) (Λ:=(lookL [])) rfl)) (fun x=>by kernel_rfl)
noncomputable def F_impl_personOk:FnR:=⟨true,[o1],[o14],fun x=>impl_personOk x.1⟩
theorem ok_impl_personOk:CallOk Tryz.prog 164 F_impl_personOk:=
 func_ok (E:=env 5 [] []) (Ψ:=(lookF [((76,[]),F_impl_within)])) (Λ:=(lookL [])) (fn:=Tryz.f164) (c:=body Tryz.f164) (env_ok _ _ _) (lookF_ok ⟨ok_impl_within,trivial⟩) Tryz.func164 (by kernel_rfl) (by kernel_rfl) (by kernel_rfl) (by decide) (loops_eq (l':=[]) (by kernel_rfl) (loops_nil (P:=Tryz.prog) (E:=env 5 [] []) (Λ:=(lookL [])) rfl)) (fun x=>by kernel_rfl)
noncomputable def F_impl_GrantOk:FnR:=⟨true,[a6],[o14],fun x=>impl_GrantOk x.1 x.2.1 x.2.2.1 x.2.2.2.1 x.2.2.2.2.1 x.2.2.2.2.2.1 x.2.2.2.2.2.2.1⟩
theorem ok_impl_GrantOk:CallOk Tryz.prog 159 F_impl_GrantOk:=
 func_ok (E:=env 45 [] []) (Ψ:=(lookF [((164,[]),F_impl_personOk),((76,[]),F_impl_within),((78,[]),F_impl_timeOk)])) (Λ:=(lookL [])) (fn:=Tryz.f159) (c:=body Tryz.f159) (env_ok _ _ _) (lookF_ok ⟨ok_impl_personOk,ok_impl_within,ok_impl_timeOk,trivial⟩) Tryz.func159 (by kernel_rfl) (by kernel_rfl) (by kernel_rfl) (by decide) (loops_eq (l':=[]) (by kernel_rfl) (loops_nil (P:=Tryz.prog) (E:=env 45 [] []) (Λ:=(lookL [])) rfl)) (fun x=>by kernel_rfl)
noncomputable def F_impl_GrantsOk_1:FnR:=⟨true,[a6],[o14],fun x=>impl_GrantsOk_1 x.1 x.2.1 x.2.2.1 x.2.2.2.1 x.2.2.2.2.1 x.2.2.2.2.2.1 x.2.2.2.2.2.2.1⟩
theorem ok_impl_GrantsOk_1:CallOk Tryz.prog 158 F_impl_GrantsOk_1:=
 func_ok (E:=env 6 [] []) (Ψ:=(lookF [((159,[]),F_impl_GrantOk)])) (Λ:=(lookL [])) (fn:=Tryz.f158) (c:=body Tryz.f158) (env_ok _ _ _) (lookF_ok ⟨ok_impl_GrantOk,trivial⟩) Tryz.func158 (by kernel_rfl) (by kernel_rfl) (by kernel_rfl) (by decide) (loops_eq (l':=[]) (by kernel_rfl) (loops_nil (P:=Tryz.prog) (E:=env 6 [] []) (Λ:=(lookL [])) rfl)) (fun x=>by kernel_rfl)
noncomputable def L_slices_IndexFunc___impl_Grant_impl_Grant___impl_GrantsOk_1_0:LoopR:=⟨[(0,o15),(1,.fn 158 []),(7,o1)],[(8,o1)],[(.ret,[(4,o1)]),(.exit 0,[])],fun k x=>slices_IndexFunc___impl_Grant_impl_Grant___impl_GrantsOk_1_l0 k x⟩
theorem lo_slices_IndexFunc___impl_Grant_impl_Grant___impl_GrantsOk_1_0:LoopOk Tryz.prog (env 19 [] []) (lp 0 (body Tryz.f220) 0) L_slices_IndexFunc___impl_Grant_impl_Grant___impl_GrantsOk_1_0:=
 loop_ok' (Ψ:=(lookF [((158,[]),F_impl_GrantsOk_1)])) (Λ:=(lookL [])) (env_ok _ _ _) (lookF_ok ⟨ok_impl_GrantsOk_1,trivial⟩) (n:=0) (keep:=[(0,o15),(1,.fn 158 []),(7,o1)]) (tmpl:=[(8,o1)]) (exits:=[(.ret,[(4,o1)]),(.exit 0,[])]) (loops_eq (l':=[]) (by kernel_rfl) (loops_nil (P:=Tryz.prog) (E:=env 19 [] []) (Λ:=(lookL [])) rfl)) (fun k x=>slices_IndexFunc___impl_Grant_impl_Grant___impl_GrantsOk_1_b0 k x) (fun k x=>by kernel_rfl)
noncomputable def F_slices_IndexFunc___impl_Grant_impl_Grant___impl_GrantsOk_1:FnR:=⟨true,[o15,.fn 158 []],[o1],fun x=>slices_IndexFunc___impl_Grant_impl_Grant___impl_GrantsOk_1 x.1⟩
theorem ok_slices_IndexFunc___impl_Grant_impl_Grant___impl_GrantsOk_1:CallOk Tryz.prog 220 F_slices_IndexFunc___impl_Grant_impl_Grant___impl_GrantsOk_1:=
 func_ok (E:=env 19 [] []) (Ψ:=(lookF [((158,[]),F_impl_GrantsOk_1)])) (Λ:=(lookL [(0,L_slices_IndexFunc___impl_Grant_impl_Grant___impl_GrantsOk_1_0)])) (fn:=Tryz.f220) (c:=body Tryz.f220) (env_ok _ _ _) (lookF_ok ⟨ok_impl_GrantsOk_1,trivial⟩) Tryz.func220 (by kernel_rfl) (by kernel_rfl) (by kernel_rfl) (by decide) (loops_eq (l':=[(0,lp 0 (body Tryz.f220) 0)]) (by kernel_rfl) (loops_cons (by kernel_rfl) lo_slices_IndexFunc___impl_Grant_impl_Grant___impl_GrantsOk_1_0 (loops_nil (P:=Tryz.prog) (E:=env 19 [] []) (Λ:=(lookL [(0,L_slices_IndexFunc___impl_Grant_impl_Grant___impl_GrantsOk_1_0)])) rfl))) (fun x=>by kernel_rfl)
noncomputable def F_slices_ContainsFunc___impl_Grant_impl_Grant___impl_GrantsOk_1:FnR:=⟨true,[o15,.fn 158 []],[o14],fun x=>slices_ContainsFunc___impl_Grant_impl_Grant___impl_GrantsOk_1 x.1⟩
theorem ok_slices_ContainsFunc___impl_Grant_impl_Grant___impl_GrantsOk_1:CallOk Tryz.prog 157 F_slices_ContainsFunc___impl_Grant_impl_Grant___impl_GrantsOk_1:=
 func_ok (E:=env 9 [] []) (Ψ:=(lookF [((220,[158]),F_slices_IndexFunc___impl_Grant_impl_Grant___impl_GrantsOk_1)])) (Λ:=(lookL [])) (fn:=Tryz.f157) (c:=body Tryz.f157) (env_ok _ _ _) (lookF_ok ⟨ok_slices_IndexFunc___impl_Grant_impl_Grant___impl_GrantsOk_1,trivial⟩) Tryz.func157 (by kernel_rfl) (by kernel_rfl) (by kernel_rfl) (by decide) (loops_eq (l':=[]) (by kernel_rfl) (loops_nil (P:=Tryz.prog) (E:=env 9 [] []) (Λ:=(lookL [])) rfl)) (fun x=>by kernel_rfl)
noncomputable def F_impl_GrantsOk:FnR:=⟨true,[o15],[o14],fun x=>impl_GrantsOk x.1⟩
theorem ok_impl_GrantsOk:CallOk Tryz.prog 79 F_impl_GrantsOk:=
 func_ok (E:=env 11 [] []) (Ψ:=(lookF [((157,[158]),F_slices_ContainsFunc___impl_Grant_impl_Grant___impl_GrantsOk_1)])) (Λ:=(lookL [])) (fn:=Tryz.f79) (c:=body Tryz.f79) (env_ok _ _ _) (lookF_ok ⟨ok_slices_ContainsFunc___impl_Grant_impl_Grant___impl_GrantsOk_1,trivial⟩) Tryz.func79 (by kernel_rfl) (by kernel_rfl) (by kernel_rfl) (by decide) (loops_eq (l':=[]) (by kernel_rfl) (loops_nil (P:=Tryz.prog) (E:=env 11 [] []) (Λ:=(lookL [])) rfl)) (fun x=>by kernel_rfl)
noncomputable def F_impl_EventOk:FnR:=⟨true,[a7],[o14],fun x=>impl_EventOk x.1 x.2.1 x.2.2.1 x.2.2.2.1 x.2.2.2.2.1 x.2.2.2.2.2.1 x.2.2.2.2.2.2.1⟩
theorem ok_impl_EventOk:CallOk Tryz.prog 160 F_impl_EventOk:=
 func_ok (E:=env 36 [] []) (Ψ:=(lookF [((76,[]),F_impl_within),((78,[]),F_impl_timeOk)])) (Λ:=(lookL [])) (fn:=Tryz.f160) (c:=body Tryz.f160) (env_ok _ _ _) (lookF_ok ⟨ok_impl_within,ok_impl_timeOk,trivial⟩) Tryz.func160 (by kernel_rfl) (by kernel_rfl) (by kernel_rfl) (by decide) (loops_eq (l':=[]) (by kernel_rfl) (loops_nil (P:=Tryz.prog) (E:=env 36 [] []) (Λ:=(lookL [])) rfl)) (fun x=>by kernel_rfl)
noncomputable def L_impl_JournalOk_0:LoopR:=⟨[(0,o16),(9,o16),(10,o1)],[(11,o1)],[(.ret,[(2,o14)]),(.exit 0,[])],fun k x=>impl_JournalOk_l0 k x⟩
theorem lo_impl_JournalOk_0:LoopOk Tryz.prog (env 53 [] []) (lp 0 (body Tryz.f80) 0) L_impl_JournalOk_0:=
 loop_ok' (Ψ:=(lookF [((160,[]),F_impl_EventOk)])) (Λ:=(lookL [])) (env_ok _ _ _) (lookF_ok ⟨ok_impl_EventOk,trivial⟩) (n:=0) (keep:=[(0,o16),(9,o16),(10,o1)]) (tmpl:=[(11,o1)]) (exits:=[(.ret,[(2,o14)]),(.exit 0,[])]) (loops_eq (l':=[]) (by kernel_rfl) (loops_nil (P:=Tryz.prog) (E:=env 53 [] []) (Λ:=(lookL [])) rfl)) (fun k x=>impl_JournalOk_b0 k x) (fun k x=>by kernel_rfl)
noncomputable def F_impl_JournalOk:FnR:=⟨true,[o16],[o14],fun x=>impl_JournalOk x.1⟩
theorem ok_impl_JournalOk:CallOk Tryz.prog 80 F_impl_JournalOk:=
 func_ok (E:=env 53 [] []) (Ψ:=(lookF [((160,[]),F_impl_EventOk)])) (Λ:=(lookL [(0,L_impl_JournalOk_0)])) (fn:=Tryz.f80) (c:=body Tryz.f80) (env_ok _ _ _) (lookF_ok ⟨ok_impl_EventOk,trivial⟩) Tryz.func80 (by kernel_rfl) (by kernel_rfl) (by kernel_rfl) (by decide) (loops_eq (l':=[(0,lp 0 (body Tryz.f80) 0)]) (by kernel_rfl) (loops_cons (by kernel_rfl) lo_impl_JournalOk_0 (loops_nil (P:=Tryz.prog) (E:=env 53 [] []) (Λ:=(lookL [(0,L_impl_JournalOk_0)])) rfl))) (fun x=>by kernel_rfl)
noncomputable def L_impl_SpansOk_0:LoopR:=⟨[(0,o17),(1,o1),(10,o17),(11,o1)],[(12,o1)],[(.ret,[(4,o14)]),(.exit 0,[])],fun k x=>impl_SpansOk_l0 k x⟩
theorem lo_impl_SpansOk_0:LoopOk Tryz.prog (env 49 [] []) (lp 0 (body Tryz.f221) 0) L_impl_SpansOk_0:=
 loop_ok' (Ψ:=(lookF [])) (Λ:=(lookL [])) (env_ok _ _ _) (lookF_ok (l:=[]) trivial) (n:=0) (keep:=[(0,o17),(1,o1),(10,o17),(11,o1)]) (tmpl:=[(12,o1)]) (exits:=[(.ret,[(4,o14)]),(.exit 0,[])]) (loops_eq (l':=[]) (by kernel_rfl) (loops_nil (P:=Tryz.prog) (E:=env 49 [] []) (Λ:=(lookL [])) rfl)) (fun k x=>impl_SpansOk_b0 k x) (fun k x=>by kernel_rfl)
noncomputable def F_impl_SpansOk:FnR:=⟨true,[o17,o1],[o14],fun x=>impl_SpansOk x.1 x.2.1⟩
theorem ok_impl_SpansOk:CallOk Tryz.prog 221 F_impl_SpansOk:=
 func_ok (E:=env 49 [] []) (Ψ:=(lookF [])) (Λ:=(lookL [(0,L_impl_SpansOk_0)])) (fn:=Tryz.f221) (c:=body Tryz.f221) (env_ok _ _ _) (lookF_ok (l:=[]) trivial) Tryz.func221 (by kernel_rfl) (by kernel_rfl) (by kernel_rfl) (by decide) (loops_eq (l':=[(0,lp 0 (body Tryz.f221) 0)]) (by kernel_rfl) (loops_cons (by kernel_rfl) lo_impl_SpansOk_0 (loops_nil (P:=Tryz.prog) (E:=env 49 [] []) (Λ:=(lookL [(0,L_impl_SpansOk_0)])) rfl))) (fun x=>by kernel_rfl)
noncomputable def F_impl_WeekOk:FnR:=⟨true,[.agg [v8,v8]],[o14],fun x=>impl_WeekOk x.1 x.2.1⟩
theorem ok_impl_WeekOk:CallOk Tryz.prog 161 F_impl_WeekOk:=
 func_ok (E:=env 11 [] []) (Ψ:=(lookF [((221,[]),F_impl_SpansOk)])) (Λ:=(lookL [])) (fn:=Tryz.f161) (c:=body Tryz.f161) (env_ok _ _ _) (lookF_ok ⟨ok_impl_SpansOk,trivial⟩) Tryz.func161 (by kernel_rfl) (by kernel_rfl) (by kernel_rfl) (by decide) (loops_eq (l':=[]) (by kernel_rfl) (loops_nil (P:=Tryz.prog) (E:=env 11 [] []) (Λ:=(lookL [])) rfl)) (fun x=>by kernel_rfl)
noncomputable def L_impl_ColumnOk_0:LoopR:=⟨[(1,.ro t21),(23,o3),(24,o1)],[(25,o1)],[(.ret,[(2,o14)]),(.exit 0,[])],fun k x=>impl_ColumnOk_l0 k x⟩
theorem lo_impl_ColumnOk_0:LoopOk Tryz.prog (env 118 [] []) (lp 0 (body Tryz.f222) 0) L_impl_ColumnOk_0:=
 loop_ok' (Ψ:=(lookF [((76,[]),F_impl_within)])) (Λ:=(lookL [])) (env_ok _ _ _) (lookF_ok ⟨ok_impl_within,trivial⟩) (n:=0) (keep:=[(1,.ro t21),(23,o3),(24,o1)]) (tmpl:=[(25,o1)]) (exits:=[(.ret,[(2,o14)]),(.exit 0,[])]) (loops_eq (l':=[]) (by kernel_rfl) (loops_nil (P:=Tryz.prog) (E:=env 118 [] []) (Λ:=(lookL [])) rfl)) (fun k x=>impl_ColumnOk_b0 k x) (fun k x=>by kernel_rfl)
noncomputable def L_impl_ColumnOk_2:LoopR:=⟨[(1,.ro t21),(54,o18),(55,o1)],[(5,o1),(6,.one (.mp .i64)),(7,.one (.mp .i64)),(56,o1)],[(.ret,[(2,o14)]),(.exit 2,[(5,o1),(6,.one (.mp .i64))])],fun k x=>impl_ColumnOk_l2 k x⟩
theorem lo_impl_ColumnOk_2:LoopOk Tryz.prog (env 118 [] []) (lp 0 (body Tryz.f222) 1) L_impl_ColumnOk_2:=
 loop_ok' (Ψ:=(lookF [((76,[]),F_impl_within)])) (Λ:=(lookL [])) (env_ok _ _ _) (lookF_ok ⟨ok_impl_within,trivial⟩) (n:=2) (keep:=[(1,.ro t21),(54,o18),(55,o1)]) (tmpl:=[(5,o1),(6,.one (.mp .i64)),(7,.one (.mp .i64)),(56,o1)]) (exits:=[(.ret,[(2,o14)]),(.exit 2,[(5,o1),(6,.one (.mp .i64))])]) (loops_eq (l':=[]) (by kernel_rfl) (loops_nil (P:=Tryz.prog) (E:=env 118 [] []) (Λ:=(lookL [])) rfl)) (fun k x=>impl_ColumnOk_b2 k x) (fun k x=>by kernel_rfl)
noncomputable def L_impl_ColumnOk_4:LoopR:=⟨[(1,.ro t21),(5,o1),(103,o3),(104,o1)],[(6,.one (.mp .i64)),(105,o1)],[(.ret,[(2,o14)]),(.exit 4,[])],fun k x=>impl_ColumnOk_l4 k x⟩
theorem lo_impl_ColumnOk_4:LoopOk Tryz.prog (env 118 [] []) (lp 0 (body Tryz.f222) 2) L_impl_ColumnOk_4:=
 loop_ok' (Ψ:=(lookF [((76,[]),F_impl_within)])) (Λ:=(lookL [])) (env_ok _ _ _) (lookF_ok ⟨ok_impl_within,trivial⟩) (n:=4) (keep:=[(1,.ro t21),(5,o1),(103,o3),(104,o1)]) (tmpl:=[(6,.one (.mp .i64)),(105,o1)]) (exits:=[(.ret,[(2,o14)]),(.exit 4,[])]) (loops_eq (l':=[]) (by kernel_rfl) (loops_nil (P:=Tryz.prog) (E:=env 118 [] []) (Λ:=(lookL [])) rfl)) (fun k x=>impl_ColumnOk_b4 k x) (fun k x=>by kernel_rfl)
noncomputable def F_impl_ColumnOk:FnR:=⟨true,[a5],[o14],fun x=>impl_ColumnOk x.1 x.2.1 x.2.2.1⟩
theorem ok_impl_ColumnOk:CallOk Tryz.prog 222 F_impl_ColumnOk:=
 func_ok (E:=env 118 [] []) (Ψ:=(lookF [((76,[]),F_impl_within)])) (Λ:=(lookL [(0,L_impl_ColumnOk_0),(2,L_impl_ColumnOk_2),(4,L_impl_ColumnOk_4)])) (fn:=Tryz.f222) (c:=body Tryz.f222) (env_ok _ _ _) (lookF_ok ⟨ok_impl_within,trivial⟩) Tryz.func222 (by kernel_rfl) (by kernel_rfl) (by kernel_rfl) (by decide) (loops_eq (l':=[(0,lp 0 (body Tryz.f222) 0),(2,lp 0 (body Tryz.f222) 1),(4,lp 0 (body Tryz.f222) 2)]) (by kernel_rfl) (loops_cons (by kernel_rfl) lo_impl_ColumnOk_0 (loops_cons (by kernel_rfl) lo_impl_ColumnOk_2 (loops_cons (by kernel_rfl) lo_impl_ColumnOk_4 (loops_nil (P:=Tryz.prog) (E:=env 118 [] []) (Λ:=(lookL [(0,L_impl_ColumnOk_0),(2,L_impl_ColumnOk_2),(4,L_impl_ColumnOk_4)])) rfl))))) (fun x=>by kernel_rfl)
noncomputable def L_impl_BankOk_2:LoopR:=⟨[(13,o13),(14,o1),(15,o1),(23,o18),(24,o1)],[(3,.one (.mp .i64)),(25,o1)],[(.ret,[(2,o14)]),(.exit 2,[(3,.one (.mp .i64))])],fun k x=>impl_BankOk_l2 k x⟩
theorem lo_impl_BankOk_2:LoopOk Tryz.prog (env 43 [] []) (lp 0 (lp 0 (body Tryz.f162) 0) 0) L_impl_BankOk_2:=
 loop_ok' (Ψ:=(lookF [((76,[]),F_impl_within),((222,[]),F_impl_ColumnOk)])) (Λ:=(lookL [])) (env_ok _ _ _) (lookF_ok ⟨ok_impl_within,ok_impl_ColumnOk,trivial⟩) (n:=2) (keep:=[(13,o13),(14,o1),(15,o1),(23,o18),(24,o1)]) (tmpl:=[(3,.one (.mp .i64)),(25,o1)]) (exits:=[(.ret,[(2,o14)]),(.exit 2,[(3,.one (.mp .i64))])]) (loops_eq (l':=[]) (by kernel_rfl) (loops_nil (P:=Tryz.prog) (E:=env 43 [] []) (Λ:=(lookL [])) rfl)) (fun k x=>impl_BankOk_b2 k x) (fun k x=>by kernel_rfl)
noncomputable def L_impl_BankOk_0:LoopR:=⟨[(13,o13),(14,o1)],[(3,.one (.mp .i64)),(15,o1)],[(.ret,[(2,o14)]),(.exit 0,[])],fun k x=>impl_BankOk_l0 k x⟩
theorem lo_impl_BankOk_0:LoopOk Tryz.prog (env 43 [] []) (lp 0 (body Tryz.f162) 0) L_impl_BankOk_0:=
 loop_ok' (Ψ:=(lookF [((76,[]),F_impl_within),((222,[]),F_impl_ColumnOk)])) (Λ:=(lookL [(2,L_impl_BankOk_2)])) (env_ok _ _ _) (lookF_ok ⟨ok_impl_within,ok_impl_ColumnOk,trivial⟩) (n:=0) (keep:=[(13,o13),(14,o1)]) (tmpl:=[(3,.one (.mp .i64)),(15,o1)]) (exits:=[(.ret,[(2,o14)]),(.exit 0,[])]) (loops_eq (l':=[(2,lp 0 (lp 0 (body Tryz.f162) 0) 0)]) (by kernel_rfl) (loops_cons (by kernel_rfl) lo_impl_BankOk_2 (loops_nil (P:=Tryz.prog) (E:=env 43 [] []) (Λ:=(lookL [(2,L_impl_BankOk_2)])) rfl))) (fun k x=>impl_BankOk_b0 k x) (fun k x=>by kernel_rfl)
noncomputable def F_impl_BankOk:FnR:=⟨true,[o13],[o14],fun x=>impl_BankOk x.1⟩
theorem ok_impl_BankOk:CallOk Tryz.prog 162 F_impl_BankOk:=
 func_ok (E:=env 43 [] []) (Ψ:=(lookF [((76,[]),F_impl_within),((222,[]),F_impl_ColumnOk)])) (Λ:=(lookL [(0,L_impl_BankOk_0)])) (fn:=Tryz.f162) (c:=body Tryz.f162) (env_ok _ _ _) (lookF_ok ⟨ok_impl_within,ok_impl_ColumnOk,trivial⟩) Tryz.func162 (by kernel_rfl) (by kernel_rfl) (by kernel_rfl) (by decide) (loops_eq (l':=[(0,lp 0 (body Tryz.f162) 0)]) (by kernel_rfl) (loops_cons (by kernel_rfl) lo_impl_BankOk_0 (loops_nil (P:=Tryz.prog) (E:=env 43 [] []) (Λ:=(lookL [(0,L_impl_BankOk_0)])) rfl))) (fun x=>by kernel_rfl)
noncomputable def F_impl_isDone:FnR:=⟨true,[a9],[o14],fun x=>impl_isDone x.1 x.2.1 x.2.2.1 x.2.2.2.1 x.2.2.2.2.1⟩
theorem ok_impl_isDone:CallOk Tryz.prog 223 F_impl_isDone:=
 func_ok (E:=env 9 [] []) (Ψ:=(lookF [])) (Λ:=(lookL [])) (fn:=Tryz.f223) (c:=body Tryz.f223) (env_ok _ _ _) (lookF_ok (l:=[]) trivial) Tryz.func223 (by kernel_rfl) (by kernel_rfl) (by kernel_rfl) (by decide) (loops_eq (l':=[]) (by kernel_rfl) (loops_nil (P:=Tryz.prog) (E:=env 9 [] []) (Λ:=(lookL [])) rfl)) (fun x=>by kernel_rfl)
noncomputable def F_impl_DoorOk:FnR:=⟨true,[a9],[o14],fun x=>impl_DoorOk x.1 x.2.1 x.2.2.1 x.2.2.2.1 x.2.2.2.2.1⟩
theorem ok_impl_DoorOk:CallOk Tryz.prog 163 F_impl_DoorOk:=
 func_ok (E:=env 90 [] []) (Ψ:=(lookF [((76,[]),F_impl_within),((223,[]),F_impl_isDone)])) (Λ:=(lookL [])) (fn:=Tryz.f163) (c:=body Tryz.f163) (env_ok _ _ _) (lookF_ok ⟨ok_impl_within,ok_impl_isDone,trivial⟩) Tryz.func163 (by kernel_rfl) (by kernel_rfl) (by kernel_rfl) (by decide) (loops_eq (l':=[]) (by kernel_rfl) (loops_nil (P:=Tryz.prog) (E:=env 90 [] []) (Λ:=(lookL [])) rfl)) (fun x=>by kernel_rfl)
noncomputable def F_impl_siteOk:FnR:=⟨true,[a10,o1],[o14],fun x=>impl_siteOk x.1 x.2.1 x.2.2.1 x.2.2.2.1 x.2.2.2.2.1 x.2.2.2.2.2.1 x.2.2.2.2.2.2.1 x.2.2.2.2.2.2.2.1 x.2.2.2.2.2.2.2.2.1 x.2.2.2.2.2.2.2.2.2.1 x.2.2.2.2.2.2.2.2.2.2.1 x.2.2.2.2.2.2.2.2.2.2.2.1 x.2.2.2.2.2.2.2.2.2.2.2.2.1 x.2.2.2.2.2.2.2.2.2.2.2.2.2.1 x.2.2.2.2.2.2.2.2.2.2.2.2.2.2.1 x.2.2.2.2.2.2.2.2.2.2.2.2.2.2.2.1⟩
theorem ok_impl_siteOk:CallOk Tryz.prog 81 F_impl_siteOk:=
 func_ok (E:=env 89 [] []) (Ψ:=(lookF [((161,[]),F_impl_WeekOk),((162,[]),F_impl_BankOk),((163,[]),F_impl_DoorOk),((80,[]),F_impl_JournalOk),((76,[]),F_impl_within),((164,[]),F_impl_personOk)])) (Λ:=(lookL [])) (fn:=Tryz.f81) (c:=body Tryz.f81) (env_ok _ _ _) (lookF_ok ⟨ok_impl_WeekOk,ok_impl_BankOk,ok_impl_DoorOk,ok_impl_JournalOk,ok_impl_within,ok_impl_personOk,trivial⟩) Tryz.func81 (by kernel_rfl) (by kernel_rfl) (by kernel_rfl) (by decide) (loops_eq (l':=[]) (by kernel_rfl) (loops_nil (P:=Tryz.prog) (E:=env 89 [] []) (Λ:=(lookL [])) rfl)) (fun x=>by kernel_rfl)
noncomputable def F_impl_isUnplaced:FnR:=⟨true,[a10,a14],[o14],fun x=>impl_isUnplaced x.1 x.2.1 x.2.2.1 x.2.2.2.1 x.2.2.2.2.1 x.2.2.2.2.2.1 x.2.2.2.2.2.2.1 x.2.2.2.2.2.2.2.1 x.2.2.2.2.2.2.2.2.1 x.2.2.2.2.2.2.2.2.2.1 x.2.2.2.2.2.2.2.2.2.2.1 x.2.2.2.2.2.2.2.2.2.2.2.1 x.2.2.2.2.2.2.2.2.2.2.2.2.1 x.2.2.2.2.2.2.2.2.2.2.2.2.2.1 x.2.2.2.2.2.2.2.2.2.2.2.2.2.2.1 x.2.2.2.2.2.2.2.2.2.2.2.2.2.2.2.1 x.2.2.2.2.2.2.2.2.2.2.2.2.2.2.2.2.1 x.2.2.2.2.2.2.2.2.2.2.2.2.2.2.2.2.2.1 x.2.2.2.2.2.2.2.2.2.2.2.2.2.2.2.2.2.2.1 x.2.2.2.2.2.2.2.2.2.2.2.2.2.2.2.2.2.2.2.1 x.2.2.2.2.2.2.2.2.2.2.2.2.2.2.2.2.2.2.2.2.1 x.2.2.2.2.2.2.2.2.2.2.2.2.2.2.2.2.2.2.2.2.2.1 x.2.2.2.2.2.2.2.2.2.2.2.2.2.2.2.2.2.2.2.2.2.2.1 x.2.2.2.2.2.2.2.2.2.2.2.2.2.2.2.2.2.2.2.2.2.2.2.1 x.2.2.2.2.2.2.2.2.2.2.2.2.2.2.2.2.2.2.2.2.2.2.2.2.1 x.2.2.2.2.2.2.2.2.2.2.2.2.2.2.2.2.2.2.2.2.2.2.2.2.2.1 x.2.2.2.2.2.2.2.2.2.2.2.2.2.2.2.2.2.2.2.2.2.2.2.2.2.2.1 x.2.2.2.2.2.2.2.2.2.2.2.2.2.2.2.2.2.2.2.2.2.2.2.2.2.2.2.1⟩
theorem ok_impl_isUnplaced:CallOk Tryz.prog 165 F_impl_isUnplaced:=
 func_ok (E:=env 29 [] []) (Ψ:=(lookF [])) (Λ:=(lookL [])) (fn:=Tryz.f165) (c:=body Tryz.f165) (env_ok _ _ _) (lookF_ok (l:=[]) trivial) Tryz.func165 (by kernel_rfl) (by kernel_rfl) (by kernel_rfl) (by decide) (loops_eq (l':=[]) (by kernel_rfl) (loops_nil (P:=Tryz.prog) (E:=env 29 [] []) (Λ:=(lookL [])) rfl)) (fun x=>by kernel_rfl)
noncomputable def F_impl_LockOk:FnR:=⟨true,[a11],[o14],fun x=>impl_LockOk x.1 x.2.1 x.2.2.1 x.2.2.2.1 x.2.2.2.2.1⟩
theorem ok_impl_LockOk:CallOk Tryz.prog 166 F_impl_LockOk:=
 func_ok (E:=env 26 [] []) (Ψ:=(lookF [((77,[]),F_impl_secretOk),((76,[]),F_impl_within)])) (Λ:=(lookL [])) (fn:=Tryz.f166) (c:=body Tryz.f166) (env_ok _ _ _) (lookF_ok ⟨ok_impl_secretOk,ok_impl_within,trivial⟩) Tryz.func166 (by kernel_rfl) (by kernel_rfl) (by kernel_rfl) (by decide) (loops_eq (l':=[]) (by kernel_rfl) (loops_nil (P:=Tryz.prog) (E:=env 26 [] []) (Λ:=(lookL [])) rfl)) (fun x=>by kernel_rfl)
noncomputable def F_impl_SecretOf:FnR:=⟨true,[a10,o1],[o1],fun x=>impl_SecretOf x.1 x.2.1 x.2.2.1 x.2.2.2.1 x.2.2.2.2.1 x.2.2.2.2.2.1 x.2.2.2.2.2.2.1 x.2.2.2.2.2.2.2.1 x.2.2.2.2.2.2.2.2.1 x.2.2.2.2.2.2.2.2.2.1 x.2.2.2.2.2.2.2.2.2.2.1 x.2.2.2.2.2.2.2.2.2.2.2.1 x.2.2.2.2.2.2.2.2.2.2.2.2.1 x.2.2.2.2.2.2.2.2.2.2.2.2.2.1 x.2.2.2.2.2.2.2.2.2.2.2.2.2.2.1 x.2.2.2.2.2.2.2.2.2.2.2.2.2.2.2.1⟩
theorem ok_impl_SecretOf:CallOk Tryz.prog 167 F_impl_SecretOf:=
 func_ok (E:=env 21 [] []) (Ψ:=(lookF [((77,[]),F_impl_secretOk),((76,[]),F_impl_within)])) (Λ:=(lookL [])) (fn:=Tryz.f167) (c:=body Tryz.f167) (env_ok _ _ _) (lookF_ok ⟨ok_impl_secretOk,ok_impl_within,trivial⟩) Tryz.func167 (by kernel_rfl) (by kernel_rfl) (by kernel_rfl) (by decide) (loops_eq (l':=[]) (by kernel_rfl) (loops_nil (P:=Tryz.prog) (E:=env 21 [] []) (Λ:=(lookL [])) rfl)) (fun x=>by kernel_rfl)
noncomputable def F_impl_parcelOk:FnR:=⟨true,[a10,o1],[o14],fun x=>impl_parcelOk x.1 x.2.1 x.2.2.1 x.2.2.2.1 x.2.2.2.2.1 x.2.2.2.2.2.1 x.2.2.2.2.2.2.1 x.2.2.2.2.2.2.2.1 x.2.2.2.2.2.2.2.2.1 x.2.2.2.2.2.2.2.2.2.1 x.2.2.2.2.2.2.2.2.2.2.1 x.2.2.2.2.2.2.2.2.2.2.2.1 x.2.2.2.2.2.2.2.2.2.2.2.2.1 x.2.2.2.2.2.2.2.2.2.2.2.2.2.1 x.2.2.2.2.2.2.2.2.2.2.2.2.2.2.1 x.2.2.2.2.2.2.2.2.2.2.2.2.2.2.2.1⟩
theorem ok_impl_parcelOk:CallOk Tryz.prog 82 F_impl_parcelOk:=
 func_ok (E:=env 140 [] []) (Ψ:=(lookF [((76,[]),F_impl_within),((164,[]),F_impl_personOk),((165,[]),F_impl_isUnplaced),((166,[]),F_impl_LockOk),((167,[]),F_impl_SecretOf)])) (Λ:=(lookL [])) (fn:=Tryz.f82) (c:=body Tryz.f82) (env_ok _ _ _) (lookF_ok ⟨ok_impl_within,ok_impl_personOk,ok_impl_isUnplaced,ok_impl_LockOk,ok_impl_SecretOf,trivial⟩) Tryz.func82 (by kernel_rfl) (by kernel_rfl) (by kernel_rfl) (by decide) (loops_eq (l':=[]) (by kernel_rfl) (loops_nil (P:=Tryz.prog) (E:=env 140 [] []) (Λ:=(lookL [])) rfl)) (fun x=>by kernel_rfl)
noncomputable def L_impl_boxesOk_4:LoopR:=⟨[(1,.ro t27),(4,o1),(14,o21),(15,o1),(16,o1),(22,o13),(23,o1),(24,o1),(29,o18),(30,o1)],[(3,o1),(31,o1)],[(.ret,[(2,o14)]),(.exit 4,[(3,o1)])],fun k x=>impl_boxesOk_l4 k x⟩
theorem lo_impl_boxesOk_4:LoopOk Tryz.prog (env 107 [] []) (lp 2 (lp 0 (lp 0 (body Tryz.f83) 0) 0) 0) L_impl_boxesOk_4:=
 loop_ok' (Ψ:=(lookF [((76,[]),F_impl_within)])) (Λ:=(lookL [])) (env_ok _ _ _) (lookF_ok ⟨ok_impl_within,trivial⟩) (n:=4) (keep:=[(1,.ro t27),(4,o1),(14,o21),(15,o1),(16,o1),(22,o13),(23,o1),(24,o1),(29,o18),(30,o1)]) (tmpl:=[(3,o1),(31,o1)]) (exits:=[(.ret,[(2,o14)]),(.exit 4,[(3,o1)])]) (loops_eq (l':=[]) (by kernel_rfl) (loops_nil (P:=Tryz.prog) (E:=env 107 [] []) (Λ:=(lookL [])) rfl)) (fun k x=>impl_boxesOk_b4 k x) (fun k x=>by kernel_rfl)
noncomputable def L_impl_boxesOk_2:LoopR:=⟨[(1,.ro t27),(4,o1),(14,o21),(15,o1),(16,o1),(22,o13),(23,o1)],[(3,o1),(24,o1)],[(.ret,[(2,o14)]),(.exit 2,[(3,o1)])],fun k x=>impl_boxesOk_l2 k x⟩
theorem lo_impl_boxesOk_2:LoopOk Tryz.prog (env 107 [] []) (lp 0 (lp 0 (body Tryz.f83) 0) 0) L_impl_boxesOk_2:=
 loop_ok' (Ψ:=(lookF [((76,[]),F_impl_within)])) (Λ:=(lookL [(4,L_impl_boxesOk_4)])) (env_ok _ _ _) (lookF_ok ⟨ok_impl_within,trivial⟩) (n:=2) (keep:=[(1,.ro t27),(4,o1),(14,o21),(15,o1),(16,o1),(22,o13),(23,o1)]) (tmpl:=[(3,o1),(24,o1)]) (exits:=[(.ret,[(2,o14)]),(.exit 2,[(3,o1)])]) (loops_eq (l':=[(4,lp 2 (lp 0 (lp 0 (body Tryz.f83) 0) 0) 0)]) (by kernel_rfl) (loops_cons (by kernel_rfl) lo_impl_boxesOk_4 (loops_nil (P:=Tryz.prog) (E:=env 107 [] []) (Λ:=(lookL [(4,L_impl_boxesOk_4)])) rfl))) (fun k x=>impl_boxesOk_b2 k x) (fun k x=>by kernel_rfl)
noncomputable def L_impl_boxesOk_0:LoopR:=⟨[(1,.ro t27),(14,o21),(15,o1)],[(3,o1),(16,o1)],[(.ret,[(2,o14)]),(.exit 0,[(3,o1)])],fun k x=>impl_boxesOk_l0 k x⟩
theorem lo_impl_boxesOk_0:LoopOk Tryz.prog (env 107 [] []) (lp 0 (body Tryz.f83) 0) L_impl_boxesOk_0:=
 loop_ok' (Ψ:=(lookF [((76,[]),F_impl_within)])) (Λ:=(lookL [(2,L_impl_boxesOk_2)])) (env_ok _ _ _) (lookF_ok ⟨ok_impl_within,trivial⟩) (n:=0) (keep:=[(1,.ro t27),(14,o21),(15,o1)]) (tmpl:=[(3,o1),(16,o1)]) (exits:=[(.ret,[(2,o14)]),(.exit 0,[(3,o1)])]) (loops_eq (l':=[(2,lp 0 (lp 0 (body Tryz.f83) 0) 0)]) (by kernel_rfl) (loops_cons (by kernel_rfl) lo_impl_boxesOk_2 (loops_nil (P:=Tryz.prog) (E:=env 107 [] []) (Λ:=(lookL [(2,L_impl_boxesOk_2)])) rfl))) (fun k x=>impl_boxesOk_b0 k x) (fun k x=>by kernel_rfl)
noncomputable def L_impl_boxesOk_6:LoopR:=⟨[(88,o22),(89,o1)],[(3,o1),(90,o1)],[(.exit 6,[(3,o1)])],fun k x=>impl_boxesOk_l6 k x⟩
theorem lo_impl_boxesOk_6:LoopOk Tryz.prog (env 107 [] []) (lp 0 (body Tryz.f83) 1) L_impl_boxesOk_6:=
 loop_ok' (Ψ:=(lookF [((76,[]),F_impl_within)])) (Λ:=(lookL [])) (env_ok _ _ _) (lookF_ok ⟨ok_impl_within,trivial⟩) (n:=6) (keep:=[(88,o22),(89,o1)]) (tmpl:=[(3,o1),(90,o1)]) (exits:=[(.exit 6,[(3,o1)])]) (loops_eq (l':=[]) (by kernel_rfl) (loops_nil (P:=Tryz.prog) (E:=env 107 [] []) (Λ:=(lookL [])) rfl)) (fun k x=>impl_boxesOk_b6 k x) (fun k x=>by kernel_rfl)
noncomputable def F_impl_boxesOk:FnR:=⟨true,[a10],[o14],fun x=>impl_boxesOk x.1 x.2.1 x.2.2.1 x.2.2.2.1 x.2.2.2.2.1 x.2.2.2.2.2.1 x.2.2.2.2.2.2.1 x.2.2.2.2.2.2.2.1 x.2.2.2.2.2.2.2.2.1 x.2.2.2.2.2.2.2.2.2.1 x.2.2.2.2.2.2.2.2.2.2.1 x.2.2.2.2.2.2.2.2.2.2.2.1 x.2.2.2.2.2.2.2.2.2.2.2.2.1 x.2.2.2.2.2.2.2.2.2.2.2.2.2.1 x.2.2.2.2.2.2.2.2.2.2.2.2.2.2.1⟩
theorem ok_impl_boxesOk:CallOk Tryz.prog 83 F_impl_boxesOk:=
 func_ok (E:=env 107 [] []) (Ψ:=(lookF [((76,[]),F_impl_within)])) (Λ:=(lookL [(0,L_impl_boxesOk_0),(6,L_impl_boxesOk_6)])) (fn:=Tryz.f83) (c:=body Tryz.f83) (env_ok _ _ _) (lookF_ok ⟨ok_impl_within,trivial⟩) Tryz.func83 (by kernel_rfl) (by kernel_rfl) (by kernel_rfl) (by decide) (loops_eq (l':=[(0,lp 0 (body Tryz.f83) 0),(6,lp 0 (body Tryz.f83) 1)]) (by kernel_rfl) (loops_cons (by kernel_rfl) lo_impl_boxesOk_0 (loops_cons (by kernel_rfl) lo_impl_boxesOk_6 (loops_nil (P:=Tryz.prog) (E:=env 107 [] []) (Λ:=(lookL [(0,L_impl_boxesOk_0),(6,L_impl_boxesOk_6)])) rfl)))) (fun x=>by kernel_rfl)
noncomputable def L_impl_loadOf_0:LoopR:=⟨[(1,.ro t27),(7,o22),(8,o1)],[(3,o1),(9,o1)],[(.exit 0,[(3,o1)])],fun k x=>impl_loadOf_l0 k x⟩
theorem lo_impl_loadOf_0:LoopOk Tryz.prog (env 27 [] []) (lp 0 (body Tryz.f84) 0) L_impl_loadOf_0:=
 loop_ok' (Ψ:=(lookF [((165,[]),F_impl_isUnplaced)])) (Λ:=(lookL [])) (env_ok _ _ _) (lookF_ok ⟨ok_impl_isUnplaced,trivial⟩) (n:=0) (keep:=[(1,.ro t27),(7,o22),(8,o1)]) (tmpl:=[(3,o1),(9,o1)]) (exits:=[(.exit 0,[(3,o1)])]) (loops_eq (l':=[]) (by kernel_rfl) (loops_nil (P:=Tryz.prog) (E:=env 27 [] []) (Λ:=(lookL [])) rfl)) (fun k x=>impl_loadOf_b0 k x) (fun k x=>by kernel_rfl)
noncomputable def F_impl_loadOf:FnR:=⟨true,[a10],[o1],fun x=>impl_loadOf x.1 x.2.1 x.2.2.1 x.2.2.2.1 x.2.2.2.2.1 x.2.2.2.2.2.1 x.2.2.2.2.2.2.1 x.2.2.2.2.2.2.2.1 x.2.2.2.2.2.2.2.2.1 x.2.2.2.2.2.2.2.2.2.1 x.2.2.2.2.2.2.2.2.2.2.1 x.2.2.2.2.2.2.2.2.2.2.2.1 x.2.2.2.2.2.2.2.2.2.2.2.2.1 x.2.2.2.2.2.2.2.2.2.2.2.2.2.1 x.2.2.2.2.2.2.2.2.2.2.2.2.2.2.1⟩
theorem ok_impl_loadOf:CallOk Tryz.prog 84 F_impl_loadOf:=
 func_ok (E:=env 27 [] []) (Ψ:=(lookF [((165,[]),F_impl_isUnplaced)])) (Λ:=(lookL [(0,L_impl_loadOf_0)])) (fn:=Tryz.f84) (c:=body Tryz.f84) (env_ok _ _ _) (lookF_ok ⟨ok_impl_isUnplaced,trivial⟩) Tryz.func84 (by kernel_rfl) (by kernel_rfl) (by kernel_rfl) (by decide) (loops_eq (l':=[(0,lp 0 (body Tryz.f84) 0)]) (by kernel_rfl) (loops_cons (by kernel_rfl) lo_impl_loadOf_0 (loops_nil (P:=Tryz.prog) (E:=env 27 [] []) (Λ:=(lookL [(0,L_impl_loadOf_0)])) rfl))) (fun x=>by kernel_rfl)
noncomputable def L_impl_NetworkOk_0:LoopR:=⟨[(1,.ro t27),(54,o1)],[(55,o1)],[(.ret,[(2,o14)]),(.exit 0,[])],fun k x=>impl_NetworkOk_l0 k x⟩
theorem lo_impl_NetworkOk_0:LoopOk Tryz.prog (env 83 [] []) (lp 0 (body Tryz.f14) 0) L_impl_NetworkOk_0:=
 loop_ok' (Ψ:=(lookF [((75,[]),F_impl_TermsOk),((76,[]),F_impl_within),((77,[]),F_impl_secretOk),((78,[]),F_impl_timeOk),((79,[]),F_impl_GrantsOk),((80,[]),F_impl_JournalOk),((81,[]),F_impl_siteOk),((82,[]),F_impl_parcelOk),((83,[]),F_impl_boxesOk),((84,[]),F_impl_loadOf)])) (Λ:=(lookL [])) (env_ok _ _ _) (lookF_ok ⟨ok_impl_TermsOk,ok_impl_within,ok_impl_secretOk,ok_impl_timeOk,ok_impl_GrantsOk,ok_impl_JournalOk,ok_impl_siteOk,ok_impl_parcelOk,ok_impl_boxesOk,ok_impl_loadOf,trivial⟩) (n:=0) (keep:=[(1,.ro t27),(54,o1)]) (tmpl:=[(55,o1)]) (exits:=[(.ret,[(2,o14)]),(.exit 0,[])]) (loops_eq (l':=[]) (by kernel_rfl) (loops_nil (P:=Tryz.prog) (E:=env 83 [] []) (Λ:=(lookL [])) rfl)) (fun k x=>impl_NetworkOk_b0 k x) (fun k x=>by kernel_rfl)
noncomputable def L_impl_NetworkOk_2:LoopR:=⟨[(1,.ro t27),(65,o1)],[(66,o1)],[(.ret,[(2,o14)]),(.exit 2,[])],fun k x=>impl_NetworkOk_l2 k x⟩
theorem lo_impl_NetworkOk_2:LoopOk Tryz.prog (env 83 [] []) (lp 0 (body Tryz.f14) 1) L_impl_NetworkOk_2:=
 loop_ok' (Ψ:=(lookF [((75,[]),F_impl_TermsOk),((76,[]),F_impl_within),((77,[]),F_impl_secretOk),((78,[]),F_impl_timeOk),((79,[]),F_impl_GrantsOk),((80,[]),F_impl_JournalOk),((81,[]),F_impl_siteOk),((82,[]),F_impl_parcelOk),((83,[]),F_impl_boxesOk),((84,[]),F_impl_loadOf)])) (Λ:=(lookL [])) (env_ok _ _ _) (lookF_ok ⟨ok_impl_TermsOk,ok_impl_within,ok_impl_secretOk,ok_impl_timeOk,ok_impl_GrantsOk,ok_impl_JournalOk,ok_impl_siteOk,ok_impl_parcelOk,ok_impl_boxesOk,ok_impl_loadOf,trivial⟩) (n:=2) (keep:=[(1,.ro t27),(65,o1)]) (tmpl:=[(66,o1)]) (exits:=[(.ret,[(2,o14)]),(.exit 2,[])]) (loops_eq (l':=[]) (by kernel_rfl) (loops_nil (P:=Tryz.prog) (E:=env 83 [] []) (Λ:=(lookL [])) rfl)) (fun k x=>impl_NetworkOk_b2 k x) (fun k x=>by kernel_rfl)
noncomputable def F_impl_NetworkOk:FnR:=⟨true,[a10],[o14],fun x=>impl_NetworkOk x.1 x.2.1 x.2.2.1 x.2.2.2.1 x.2.2.2.2.1 x.2.2.2.2.2.1 x.2.2.2.2.2.2.1 x.2.2.2.2.2.2.2.1 x.2.2.2.2.2.2.2.2.1 x.2.2.2.2.2.2.2.2.2.1 x.2.2.2.2.2.2.2.2.2.2.1 x.2.2.2.2.2.2.2.2.2.2.2.1 x.2.2.2.2.2.2.2.2.2.2.2.2.1 x.2.2.2.2.2.2.2.2.2.2.2.2.2.1 x.2.2.2.2.2.2.2.2.2.2.2.2.2.2.1⟩
theorem ok_impl_NetworkOk:CallOk Tryz.prog 14 F_impl_NetworkOk:=
 func_ok (E:=env 83 [] []) (Ψ:=(lookF [((75,[]),F_impl_TermsOk),((76,[]),F_impl_within),((77,[]),F_impl_secretOk),((78,[]),F_impl_timeOk),((79,[]),F_impl_GrantsOk),((80,[]),F_impl_JournalOk),((81,[]),F_impl_siteOk),((82,[]),F_impl_parcelOk),((83,[]),F_impl_boxesOk),((84,[]),F_impl_loadOf)])) (Λ:=(lookL [(0,L_impl_NetworkOk_0),(2,L_impl_NetworkOk_2)])) (fn:=Tryz.f14) (c:=body Tryz.f14) (env_ok _ _ _) (lookF_ok ⟨ok_impl_TermsOk,ok_impl_within,ok_impl_secretOk,ok_impl_timeOk,ok_impl_GrantsOk,ok_impl_JournalOk,ok_impl_siteOk,ok_impl_parcelOk,ok_impl_boxesOk,ok_impl_loadOf,trivial⟩) Tryz.func14 (by kernel_rfl) (by kernel_rfl) (by kernel_rfl) (by decide) (loops_eq (l':=[(0,lp 0 (body Tryz.f14) 0),(2,lp 0 (body Tryz.f14) 1)]) (by kernel_rfl) (loops_cons (by kernel_rfl) lo_impl_NetworkOk_0 (loops_cons (by kernel_rfl) lo_impl_NetworkOk_2 (loops_nil (P:=Tryz.prog) (E:=env 83 [] []) (Λ:=(lookL [(0,L_impl_NetworkOk_0),(2,L_impl_NetworkOk_2)])) rfl)))) (fun x=>by kernel_rfl)
noncomputable def L_impl_NewNetwork_0:LoopR:=⟨[(4,o20),(25,o19),(26,o1)],[(10,a12),(12,a12),(27,o1)],[(.exit 0,[(10,a12),(12,a12)])],fun k x=>impl_NewNetwork_l0 k x⟩
theorem lo_impl_NewNetwork_0:LoopOk Tryz.prog (env 51 [] [42]) (lp 0 (body Tryz.f27) 0) L_impl_NewNetwork_0:=
 loop_ok' (Ψ:=(lookF [((97,[]),F_impl_copyWeek),((98,[]),F_impl_copyBank),((14,[]),F_impl_NetworkOk)])) (Λ:=(lookL [])) (env_ok _ _ _) (lookF_ok ⟨ok_impl_copyWeek,ok_impl_copyBank,ok_impl_NetworkOk,trivial⟩) (n:=0) (keep:=[(4,o20),(25,o19),(26,o1)]) (tmpl:=[(10,a12),(12,a12),(27,o1)]) (exits:=[(.exit 0,[(10,a12),(12,a12)])]) (loops_eq (l':=[]) (by kernel_rfl) (loops_nil (P:=Tryz.prog) (E:=env 51 [] [42]) (Λ:=(lookL [])) rfl)) (fun k x=>impl_NewNetwork_b0 k x) (fun k x=>by kernel_rfl)
noncomputable def F_impl_NewNetwork:FnR:=⟨true,[a1,o1,o1,o19,o20],[a13,o14],fun x=>impl_NewNetwork x.1 x.2.1 x.2.2.1 x.2.2.2.1 x.2.2.2.2.1 x.2.2.2.2.2.1 x.2.2.2.2.2.2.1 x.2.2.2.2.2.2.2.1 x.2.2.2.2.2.2.2.2.1 x.2.2.2.2.2.2.2.2.2.1 x.2.2.2.2.2.2.2.2.2.2.1 x.2.2.2.2.2.2.2.2.2.2.2.1⟩
theorem ok_impl_NewNetwork:CallOk Tryz.prog 27 F_impl_NewNetwork:=
 func_ok (E:=env 51 [] [42]) (Ψ:=(lookF [((97,[]),F_impl_copyWeek),((98,[]),F_impl_copyBank),((14,[]),F_impl_NetworkOk)])) (Λ:=(lookL [(0,L_impl_NewNetwork_0)])) (fn:=Tryz.f27) (c:=body Tryz.f27) (env_ok _ _ _) (lookF_ok ⟨ok_impl_copyWeek,ok_impl_copyBank,ok_impl_NetworkOk,trivial⟩) Tryz.func27 (by kernel_rfl) (by kernel_rfl) (by kernel_rfl) (by decide) (loops_eq (l':=[(0,lp 0 (body Tryz.f27) 0)]) (by kernel_rfl) (loops_cons (by kernel_rfl) lo_impl_NewNetwork_0 (loops_nil (P:=Tryz.prog) (E:=env 51 [] [42]) (Λ:=(lookL [(0,L_impl_NewNetwork_0)])) rfl))) (fun x=>by kernel_rfl)
noncomputable def F_laws_eqTerms:FnR:=⟨true,[a1,a1],[o14],fun x=>laws_eqTerms x.1 x.2.1 x.2.2.1 x.2.2.2.1 x.2.2.2.2.1 x.2.2.2.2.2.1 x.2.2.2.2.2.2.1 x.2.2.2.2.2.2.2.1 x.2.2.2.2.2.2.2.2.1 x.2.2.2.2.2.2.2.2.2.1 x.2.2.2.2.2.2.2.2.2.2.1 x.2.2.2.2.2.2.2.2.2.2.2.1 x.2.2.2.2.2.2.2.2.2.2.2.2.1 x.2.2.2.2.2.2.2.2.2.2.2.2.2.1 x.2.2.2.2.2.2.2.2.2.2.2.2.2.2.1 x.2.2.2.2.2.2.2.2.2.2.2.2.2.2.2.1⟩
theorem ok_laws_eqTerms:CallOk Tryz.prog 85 F_laws_eqTerms:=
 func_ok (E:=env 45 [] []) (Ψ:=(lookF [])) (Λ:=(lookL [])) (fn:=Tryz.f85) (c:=body Tryz.f85) (env_ok _ _ _) (lookF_ok (l:=[]) trivial) Tryz.func85 (by kernel_rfl) (by kernel_rfl) (by kernel_rfl) (by decide) (loops_eq (l':=[]) (by kernel_rfl) (loops_nil (P:=Tryz.prog) (E:=env 45 [] []) (Λ:=(lookL [])) rfl)) (fun x=>by kernel_rfl)
noncomputable def F_laws_eqSpan:FnR:=⟨true,[.agg [v1,v1],.agg [v1,v1]],[o14],fun x=>laws_eqSpan x.1 x.2.1 x.2.2.1 x.2.2.2.1⟩
theorem ok_laws_eqSpan:CallOk Tryz.prog 234 F_laws_eqSpan:=
 func_ok (E:=env 15 [] []) (Ψ:=(lookF [])) (Λ:=(lookL [])) (fn:=Tryz.f234) (c:=body Tryz.f234) (env_ok _ _ _) (lookF_ok (l:=[]) trivial) Tryz.func234 (by kernel_rfl) (by kernel_rfl) (by kernel_rfl) (by decide) (loops_eq (l':=[]) (by kernel_rfl) (loops_nil (P:=Tryz.prog) (E:=env 15 [] []) (Λ:=(lookL [])) rfl)) (fun x=>by kernel_rfl)
noncomputable def L_laws_eqSpanS_0:LoopR:=⟨[(0,o17),(1,o17)],[(5,o1)],[(.ret,[(4,o14)]),(.exit 0,[])],fun k x=>laws_eqSpanS_l0 k x⟩
theorem lo_laws_eqSpanS_0:LoopOk Tryz.prog (env 27 [] []) (lp 0 (body Tryz.f181) 0) L_laws_eqSpanS_0:=
 loop_ok' (Ψ:=(lookF [((234,[]),F_laws_eqSpan)])) (Λ:=(lookL [])) (env_ok _ _ _) (lookF_ok ⟨ok_laws_eqSpan,trivial⟩) (n:=0) (keep:=[(0,o17),(1,o17)]) (tmpl:=[(5,o1)]) (exits:=[(.ret,[(4,o14)]),(.exit 0,[])]) (loops_eq (l':=[]) (by kernel_rfl) (loops_nil (P:=Tryz.prog) (E:=env 27 [] []) (Λ:=(lookL [])) rfl)) (fun k x=>laws_eqSpanS_b0 k x) (fun k x=>by kernel_rfl)
noncomputable def F_laws_eqSpanS:FnR:=⟨true,[o17,o17],[o14],fun x=>laws_eqSpanS x.1 x.2.1⟩
theorem ok_laws_eqSpanS:CallOk Tryz.prog 181 F_laws_eqSpanS:=
 func_ok (E:=env 27 [] []) (Ψ:=(lookF [((234,[]),F_laws_eqSpan)])) (Λ:=(lookL [(0,L_laws_eqSpanS_0)])) (fn:=Tryz.f181) (c:=body Tryz.f181) (env_ok _ _ _) (lookF_ok ⟨ok_laws_eqSpan,trivial⟩) Tryz.func181 (by kernel_rfl) (by kernel_rfl) (by kernel_rfl) (by decide) (loops_eq (l':=[(0,lp 0 (body Tryz.f181) 0)]) (by kernel_rfl) (loops_cons (by kernel_rfl) lo_laws_eqSpanS_0 (loops_nil (P:=Tryz.prog) (E:=env 27 [] []) (Λ:=(lookL [(0,L_laws_eqSpanS_0)])) rfl))) (fun x=>by kernel_rfl)
noncomputable def F_laws_eqWeek:FnR:=⟨true,[.agg [v8,v8],.agg [v8,v8]],[o14],fun x=>laws_eqWeek x.1 x.2.1 x.2.2.1 x.2.2.2.1⟩
theorem ok_laws_eqWeek:CallOk Tryz.prog 99 F_laws_eqWeek:=
 func_ok (E:=env 17 [] []) (Ψ:=(lookF [((181,[]),F_laws_eqSpanS)])) (Λ:=(lookL [])) (fn:=Tryz.f99) (c:=body Tryz.f99) (env_ok _ _ _) (lookF_ok ⟨ok_laws_eqSpanS,trivial⟩) Tryz.func99 (by kernel_rfl) (by kernel_rfl) (by kernel_rfl) (by decide) (loops_eq (l':=[]) (by kernel_rfl) (loops_nil (P:=Tryz.prog) (E:=env 17 [] []) (Λ:=(lookL [])) rfl)) (fun x=>by kernel_rfl)
noncomputable def L_laws_eqIntS_0:LoopR:=⟨[(0,o3),(1,o3)],[(5,o1)],[(.ret,[(4,o14)]),(.exit 0,[])],fun k x=>laws_eqIntS_l0 k x⟩
theorem lo_laws_eqIntS_0:LoopOk Tryz.prog (env 26 [] []) (lp 0 (body Tryz.f39) 0) L_laws_eqIntS_0:=
 loop_ok' (Ψ:=(lookF [])) (Λ:=(lookL [])) (env_ok _ _ _) (lookF_ok (l:=[]) trivial) (n:=0) (keep:=[(0,o3),(1,o3)]) (tmpl:=[(5,o1)]) (exits:=[(.ret,[(4,o14)]),(.exit 0,[])]) (loops_eq (l':=[]) (by kernel_rfl) (loops_nil (P:=Tryz.prog) (E:=env 26 [] []) (Λ:=(lookL [])) rfl)) (fun k x=>laws_eqIntS_b0 k x) (fun k x=>by kernel_rfl)
noncomputable def F_laws_eqIntS:FnR:=⟨true,[o3,o3],[o14],fun x=>laws_eqIntS x.1 x.2.1⟩
theorem ok_laws_eqIntS:CallOk Tryz.prog 39 F_laws_eqIntS:=
 func_ok (E:=env 26 [] []) (Ψ:=(lookF [])) (Λ:=(lookL [(0,L_laws_eqIntS_0)])) (fn:=Tryz.f39) (c:=body Tryz.f39) (env_ok _ _ _) (lookF_ok (l:=[]) trivial) Tryz.func39 (by kernel_rfl) (by kernel_rfl) (by kernel_rfl) (by decide) (loops_eq (l':=[(0,lp 0 (body Tryz.f39) 0)]) (by kernel_rfl) (loops_cons (by kernel_rfl) lo_laws_eqIntS_0 (loops_nil (P:=Tryz.prog) (E:=env 26 [] []) (Λ:=(lookL [(0,L_laws_eqIntS_0)])) rfl))) (fun x=>by kernel_rfl)
noncomputable def F_laws_eqBox:FnR:=⟨true,[a3,a3],[o14],fun x=>laws_eqBox x.1 x.2.1 x.2.2.1 x.2.2.2.1 x.2.2.2.2.1 x.2.2.2.2.2.1 x.2.2.2.2.2.2.1 x.2.2.2.2.2.2.2.1⟩
theorem ok_laws_eqBox:CallOk Tryz.prog 262 F_laws_eqBox:=
 func_ok (E:=env 25 [] []) (Ψ:=(lookF [])) (Λ:=(lookL [])) (fn:=Tryz.f262) (c:=body Tryz.f262) (env_ok _ _ _) (lookF_ok (l:=[]) trivial) Tryz.func262 (by kernel_rfl) (by kernel_rfl) (by kernel_rfl) (by decide) (loops_eq (l':=[]) (by kernel_rfl) (loops_nil (P:=Tryz.prog) (E:=env 25 [] []) (Λ:=(lookL [])) rfl)) (fun x=>by kernel_rfl)
noncomputable def L_laws_eqBoxS_0:LoopR:=⟨[(0,o18),(1,o18)],[(5,o1)],[(.ret,[(4,o14)]),(.exit 0,[])],fun k x=>laws_eqBoxS_l0 k x⟩
theorem lo_laws_eqBoxS_0:LoopOk Tryz.prog (env 27 [] []) (lp 0 (body Tryz.f235) 0) L_laws_eqBoxS_0:=
 loop_ok' (Ψ:=(lookF [((262,[]),F_laws_eqBox)])) (Λ:=(lookL [])) (env_ok _ _ _) (lookF_ok ⟨ok_laws_eqBox,trivial⟩) (n:=0) (keep:=[(0,o18),(1,o18)]) (tmpl:=[(5,o1)]) (exits:=[(.ret,[(4,o14)]),(.exit 0,[])]) (loops_eq (l':=[]) (by kernel_rfl) (loops_nil (P:=Tryz.prog) (E:=env 27 [] []) (Λ:=(lookL [])) rfl)) (fun k x=>laws_eqBoxS_b0 k x) (fun k x=>by kernel_rfl)
noncomputable def F_laws_eqBoxS:FnR:=⟨true,[o18,o18],[o14],fun x=>laws_eqBoxS x.1 x.2.1⟩
theorem ok_laws_eqBoxS:CallOk Tryz.prog 235 F_laws_eqBoxS:=
 func_ok (E:=env 27 [] []) (Ψ:=(lookF [((262,[]),F_laws_eqBox)])) (Λ:=(lookL [(0,L_laws_eqBoxS_0)])) (fn:=Tryz.f235) (c:=body Tryz.f235) (env_ok _ _ _) (lookF_ok ⟨ok_laws_eqBox,trivial⟩) Tryz.func235 (by kernel_rfl) (by kernel_rfl) (by kernel_rfl) (by decide) (loops_eq (l':=[(0,lp 0 (body Tryz.f235) 0)]) (by kernel_rfl) (loops_cons (by kernel_rfl) lo_laws_eqBoxS_0 (loops_nil (P:=Tryz.prog) (E:=env 27 [] []) (Λ:=(lookL [(0,L_laws_eqBoxS_0)])) rfl))) (fun x=>by kernel_rfl)
noncomputable def F_laws_eqColumn:FnR:=⟨true,[a5,a5],[o14],fun x=>laws_eqColumn x.1 x.2.1 x.2.2.1 x.2.2.2.1 x.2.2.2.2.1 x.2.2.2.2.2.1⟩
theorem ok_laws_eqColumn:CallOk Tryz.prog 182 F_laws_eqColumn:=
 func_ok (E:=env 22 [] []) (Ψ:=(lookF [((39,[]),F_laws_eqIntS),((235,[]),F_laws_eqBoxS)])) (Λ:=(lookL [])) (fn:=Tryz.f182) (c:=body Tryz.f182) (env_ok _ _ _) (lookF_ok ⟨ok_laws_eqIntS,ok_laws_eqBoxS,trivial⟩) Tryz.func182 (by kernel_rfl) (by kernel_rfl) (by kernel_rfl) (by decide) (loops_eq (l':=[]) (by kernel_rfl) (loops_nil (P:=Tryz.prog) (E:=env 22 [] []) (Λ:=(lookL [])) rfl)) (fun x=>by kernel_rfl)
noncomputable def L_laws_eqColumnS_0:LoopR:=⟨[(0,o13),(1,o13)],[(5,o1)],[(.ret,[(4,o14)]),(.exit 0,[])],fun k x=>laws_eqColumnS_l0 k x⟩
theorem lo_laws_eqColumnS_0:LoopOk Tryz.prog (env 27 [] []) (lp 0 (body Tryz.f100) 0) L_laws_eqColumnS_0:=
 loop_ok' (Ψ:=(lookF [((182,[]),F_laws_eqColumn)])) (Λ:=(lookL [])) (env_ok _ _ _) (lookF_ok ⟨ok_laws_eqColumn,trivial⟩) (n:=0) (keep:=[(0,o13),(1,o13)]) (tmpl:=[(5,o1)]) (exits:=[(.ret,[(4,o14)]),(.exit 0,[])]) (loops_eq (l':=[]) (by kernel_rfl) (loops_nil (P:=Tryz.prog) (E:=env 27 [] []) (Λ:=(lookL [])) rfl)) (fun k x=>laws_eqColumnS_b0 k x) (fun k x=>by kernel_rfl)
noncomputable def F_laws_eqColumnS:FnR:=⟨true,[o13,o13],[o14],fun x=>laws_eqColumnS x.1 x.2.1⟩
theorem ok_laws_eqColumnS:CallOk Tryz.prog 100 F_laws_eqColumnS:=
 func_ok (E:=env 27 [] []) (Ψ:=(lookF [((182,[]),F_laws_eqColumn)])) (Λ:=(lookL [(0,L_laws_eqColumnS_0)])) (fn:=Tryz.f100) (c:=body Tryz.f100) (env_ok _ _ _) (lookF_ok ⟨ok_laws_eqColumn,trivial⟩) Tryz.func100 (by kernel_rfl) (by kernel_rfl) (by kernel_rfl) (by decide) (loops_eq (l':=[(0,lp 0 (body Tryz.f100) 0)]) (by kernel_rfl) (loops_cons (by kernel_rfl) lo_laws_eqColumnS_0 (loops_nil (P:=Tryz.prog) (E:=env 27 [] []) (Λ:=(lookL [(0,L_laws_eqColumnS_0)])) rfl))) (fun x=>by kernel_rfl)
noncomputable def F_laws_eqDoor:FnR:=⟨true,[a9,a9],[o14],fun x=>laws_eqDoor x.1 x.2.1 x.2.2.1 x.2.2.2.1 x.2.2.2.2.1 x.2.2.2.2.2.1 x.2.2.2.2.2.2.1 x.2.2.2.2.2.2.2.1 x.2.2.2.2.2.2.2.2.1 x.2.2.2.2.2.2.2.2.2.1⟩
theorem ok_laws_eqDoor:CallOk Tryz.prog 224 F_laws_eqDoor:=
 func_ok (E:=env 30 [] []) (Ψ:=(lookF [])) (Λ:=(lookL [])) (fn:=Tryz.f224) (c:=body Tryz.f224) (env_ok _ _ _) (lookF_ok (l:=[]) trivial) Tryz.func224 (by kernel_rfl) (by kernel_rfl) (by kernel_rfl) (by decide) (loops_eq (l':=[]) (by kernel_rfl) (loops_nil (P:=Tryz.prog) (E:=env 30 [] []) (Λ:=(lookL [])) rfl)) (fun x=>by kernel_rfl)
noncomputable def F_laws_eqEvent:FnR:=⟨true,[a7,a7],[o14],fun x=>laws_eqEvent x.1 x.2.1 x.2.2.1 x.2.2.2.1 x.2.2.2.2.1 x.2.2.2.2.2.1 x.2.2.2.2.2.2.1 x.2.2.2.2.2.2.2.1 x.2.2.2.2.2.2.2.2.1 x.2.2.2.2.2.2.2.2.2.1 x.2.2.2.2.2.2.2.2.2.2.1 x.2.2.2.2.2.2.2.2.2.2.2.1 x.2.2.2.2.2.2.2.2.2.2.2.2.1 x.2.2.2.2.2.2.2.2.2.2.2.2.2.1⟩
theorem ok_laws_eqEvent:CallOk Tryz.prog 125 F_laws_eqEvent:=
 func_ok (E:=env 40 [] []) (Ψ:=(lookF [])) (Λ:=(lookL [])) (fn:=Tryz.f125) (c:=body Tryz.f125) (env_ok _ _ _) (lookF_ok (l:=[]) trivial) Tryz.func125 (by kernel_rfl) (by kernel_rfl) (by kernel_rfl) (by decide) (loops_eq (l':=[]) (by kernel_rfl) (loops_nil (P:=Tryz.prog) (E:=env 40 [] []) (Λ:=(lookL [])) rfl)) (fun x=>by kernel_rfl)
noncomputable def L_laws_eqEventS_0:LoopR:=⟨[(0,o16),(1,o16)],[(5,o1)],[(.ret,[(4,o14)]),(.exit 0,[])],fun k x=>laws_eqEventS_l0 k x⟩
theorem lo_laws_eqEventS_0:LoopOk Tryz.prog (env 27 [] []) (lp 0 (body Tryz.f48) 0) L_laws_eqEventS_0:=
 loop_ok' (Ψ:=(lookF [((125,[]),F_laws_eqEvent)])) (Λ:=(lookL [])) (env_ok _ _ _) (lookF_ok ⟨ok_laws_eqEvent,trivial⟩) (n:=0) (keep:=[(0,o16),(1,o16)]) (tmpl:=[(5,o1)]) (exits:=[(.ret,[(4,o14)]),(.exit 0,[])]) (loops_eq (l':=[]) (by kernel_rfl) (loops_nil (P:=Tryz.prog) (E:=env 27 [] []) (Λ:=(lookL [])) rfl)) (fun k x=>laws_eqEventS_b0 k x) (fun k x=>by kernel_rfl)
noncomputable def F_laws_eqEventS:FnR:=⟨true,[o16,o16],[o14],fun x=>laws_eqEventS x.1 x.2.1⟩
theorem ok_laws_eqEventS:CallOk Tryz.prog 48 F_laws_eqEventS:=
 func_ok (E:=env 27 [] []) (Ψ:=(lookF [((125,[]),F_laws_eqEvent)])) (Λ:=(lookL [(0,L_laws_eqEventS_0)])) (fn:=Tryz.f48) (c:=body Tryz.f48) (env_ok _ _ _) (lookF_ok ⟨ok_laws_eqEvent,trivial⟩) Tryz.func48 (by kernel_rfl) (by kernel_rfl) (by kernel_rfl) (by decide) (loops_eq (l':=[(0,lp 0 (body Tryz.f48) 0)]) (by kernel_rfl) (loops_cons (by kernel_rfl) lo_laws_eqEventS_0 (loops_nil (P:=Tryz.prog) (E:=env 27 [] []) (Λ:=(lookL [(0,L_laws_eqEventS_0)])) rfl))) (fun x=>by kernel_rfl)
noncomputable def F_laws_eqSite:FnR:=⟨true,[a15,a15],[o14],fun x=>laws_eqSite x.1 x.2.1 x.2.2.1 x.2.2.2.1 x.2.2.2.2.1 x.2.2.2.2.2.1 x.2.2.2.2.2.2.1 x.2.2.2.2.2.2.2.1 x.2.2.2.2.2.2.2.2.1 x.2.2.2.2.2.2.2.2.2.1 x.2.2.2.2.2.2.2.2.2.2.1 x.2.2.2.2.2.2.2.2.2.2.2.1 x.2.2.2.2.2.2.2.2.2.2.2.2.1 x.2.2.2.2.2.2.2.2.2.2.2.2.2.1 x.2.2.2.2.2.2.2.2.2.2.2.2.2.2.1 x.2.2.2.2.2.2.2.2.2.2.2.2.2.2.2.1 x.2.2.2.2.2.2.2.2.2.2.2.2.2.2.2.2.1 x.2.2.2.2.2.2.2.2.2.2.2.2.2.2.2.2.2.1 x.2.2.2.2.2.2.2.2.2.2.2.2.2.2.2.2.2.2.1 x.2.2.2.2.2.2.2.2.2.2.2.2.2.2.2.2.2.2.2.1 x.2.2.2.2.2.2.2.2.2.2.2.2.2.2.2.2.2.2.2.2.1 x.2.2.2.2.2.2.2.2.2.2.2.2.2.2.2.2.2.2.2.2.2.1⟩
theorem ok_laws_eqSite:CallOk Tryz.prog 168 F_laws_eqSite:=
 func_ok (E:=env 39 [] []) (Ψ:=(lookF [((99,[]),F_laws_eqWeek),((100,[]),F_laws_eqColumnS),((224,[]),F_laws_eqDoor),((48,[]),F_laws_eqEventS)])) (Λ:=(lookL [])) (fn:=Tryz.f168) (c:=body Tryz.f168) (env_ok _ _ _) (lookF_ok ⟨ok_laws_eqWeek,ok_laws_eqColumnS,ok_laws_eqDoor,ok_laws_eqEventS,trivial⟩) Tryz.func168 (by kernel_rfl) (by kernel_rfl) (by kernel_rfl) (by decide) (loops_eq (l':=[]) (by kernel_rfl) (loops_nil (P:=Tryz.prog) (E:=env 39 [] []) (Λ:=(lookL [])) rfl)) (fun x=>by kernel_rfl)
noncomputable def L_laws_eqSiteS_0:LoopR:=⟨[(0,o21),(1,o21)],[(5,o1)],[(.ret,[(4,o14)]),(.exit 0,[])],fun k x=>laws_eqSiteS_l0 k x⟩
theorem lo_laws_eqSiteS_0:LoopOk Tryz.prog (env 27 [] []) (lp 0 (body Tryz.f86) 0) L_laws_eqSiteS_0:=
 loop_ok' (Ψ:=(lookF [((168,[]),F_laws_eqSite)])) (Λ:=(lookL [])) (env_ok _ _ _) (lookF_ok ⟨ok_laws_eqSite,trivial⟩) (n:=0) (keep:=[(0,o21),(1,o21)]) (tmpl:=[(5,o1)]) (exits:=[(.ret,[(4,o14)]),(.exit 0,[])]) (loops_eq (l':=[]) (by kernel_rfl) (loops_nil (P:=Tryz.prog) (E:=env 27 [] []) (Λ:=(lookL [])) rfl)) (fun k x=>laws_eqSiteS_b0 k x) (fun k x=>by kernel_rfl)
noncomputable def F_laws_eqSiteS:FnR:=⟨true,[o21,o21],[o14],fun x=>laws_eqSiteS x.1 x.2.1⟩
theorem ok_laws_eqSiteS:CallOk Tryz.prog 86 F_laws_eqSiteS:=
 func_ok (E:=env 27 [] []) (Ψ:=(lookF [((168,[]),F_laws_eqSite)])) (Λ:=(lookL [(0,L_laws_eqSiteS_0)])) (fn:=Tryz.f86) (c:=body Tryz.f86) (env_ok _ _ _) (lookF_ok ⟨ok_laws_eqSite,trivial⟩) Tryz.func86 (by kernel_rfl) (by kernel_rfl) (by kernel_rfl) (by decide) (loops_eq (l':=[(0,lp 0 (body Tryz.f86) 0)]) (by kernel_rfl) (loops_cons (by kernel_rfl) lo_laws_eqSiteS_0 (loops_nil (P:=Tryz.prog) (E:=env 27 [] []) (Λ:=(lookL [(0,L_laws_eqSiteS_0)])) rfl))) (fun x=>by kernel_rfl)
noncomputable def F_laws_eqLock:FnR:=⟨true,[a11,a11],[o14],fun x=>laws_eqLock x.1 x.2.1 x.2.2.1 x.2.2.2.1 x.2.2.2.2.1 x.2.2.2.2.2.1 x.2.2.2.2.2.2.1 x.2.2.2.2.2.2.2.1 x.2.2.2.2.2.2.2.2.1 x.2.2.2.2.2.2.2.2.2.1⟩
theorem ok_laws_eqLock:CallOk Tryz.prog 225 F_laws_eqLock:=
 func_ok (E:=env 30 [] []) (Ψ:=(lookF [])) (Λ:=(lookL [])) (fn:=Tryz.f225) (c:=body Tryz.f225) (env_ok _ _ _) (lookF_ok (l:=[]) trivial) Tryz.func225 (by kernel_rfl) (by kernel_rfl) (by kernel_rfl) (by decide) (loops_eq (l':=[]) (by kernel_rfl) (loops_nil (P:=Tryz.prog) (E:=env 30 [] []) (Λ:=(lookL [])) rfl)) (fun x=>by kernel_rfl)
noncomputable def F_laws_eqParcel:FnR:=⟨true,[a14,a14],[o14],fun x=>laws_eqParcel x.1 x.2.1 x.2.2.1 x.2.2.2.1 x.2.2.2.2.1 x.2.2.2.2.2.1 x.2.2.2.2.2.2.1 x.2.2.2.2.2.2.2.1 x.2.2.2.2.2.2.2.2.1 x.2.2.2.2.2.2.2.2.2.1 x.2.2.2.2.2.2.2.2.2.2.1 x.2.2.2.2.2.2.2.2.2.2.2.1 x.2.2.2.2.2.2.2.2.2.2.2.2.1 x.2.2.2.2.2.2.2.2.2.2.2.2.2.1 x.2.2.2.2.2.2.2.2.2.2.2.2.2.2.1 x.2.2.2.2.2.2.2.2.2.2.2.2.2.2.2.1 x.2.2.2.2.2.2.2.2.2.2.2.2.2.2.2.2.1 x.2.2.2.2.2.2.2.2.2.2.2.2.2.2.2.2.2.1 x.2.2.2.2.2.2.2.2.2.2.2.2.2.2.2.2.2.2.1 x.2.2.2.2.2.2.2.2.2.2.2.2.2.2.2.2.2.2.2.1 x.2.2.2.2.2.2.2.2.2.2.2.2.2.2.2.2.2.2.2.2.1 x.2.2.2.2.2.2.2.2.2.2.2.2.2.2.2.2.2.2.2.2.2.1 x.2.2.2.2.2.2.2.2.2.2.2.2.2.2.2.2.2.2.2.2.2.2.1 x.2.2.2.2.2.2.2.2.2.2.2.2.2.2.2.2.2.2.2.2.2.2.2.1 x.2.2.2.2.2.2.2.2.2.2.2.2.2.2.2.2.2.2.2.2.2.2.2.2.1 x.2.2.2.2.2.2.2.2.2.2.2.2.2.2.2.2.2.2.2.2.2.2.2.2.2.1⟩
theorem ok_laws_eqParcel:CallOk Tryz.prog 169 F_laws_eqParcel:=
 func_ok (E:=env 51 [] []) (Ψ:=(lookF [((225,[]),F_laws_eqLock)])) (Λ:=(lookL [])) (fn:=Tryz.f169) (c:=body Tryz.f169) (env_ok _ _ _) (lookF_ok ⟨ok_laws_eqLock,trivial⟩) Tryz.func169 (by kernel_rfl) (by kernel_rfl) (by kernel_rfl) (by decide) (loops_eq (l':=[]) (by kernel_rfl) (loops_nil (P:=Tryz.prog) (E:=env 51 [] []) (Λ:=(lookL [])) rfl)) (fun x=>by kernel_rfl)
noncomputable def L_laws_eqParcelS_0:LoopR:=⟨[(0,o22),(1,o22)],[(5,o1)],[(.ret,[(4,o14)]),(.exit 0,[])],fun k x=>laws_eqParcelS_l0 k x⟩
theorem lo_laws_eqParcelS_0:LoopOk Tryz.prog (env 27 [] []) (lp 0 (body Tryz.f87) 0) L_laws_eqParcelS_0:=
 loop_ok' (Ψ:=(lookF [((169,[]),F_laws_eqParcel)])) (Λ:=(lookL [])) (env_ok _ _ _) (lookF_ok ⟨ok_laws_eqParcel,trivial⟩) (n:=0) (keep:=[(0,o22),(1,o22)]) (tmpl:=[(5,o1)]) (exits:=[(.ret,[(4,o14)]),(.exit 0,[])]) (loops_eq (l':=[]) (by kernel_rfl) (loops_nil (P:=Tryz.prog) (E:=env 27 [] []) (Λ:=(lookL [])) rfl)) (fun k x=>laws_eqParcelS_b0 k x) (fun k x=>by kernel_rfl)
noncomputable def F_laws_eqParcelS:FnR:=⟨true,[o22,o22],[o14],fun x=>laws_eqParcelS x.1 x.2.1⟩
theorem ok_laws_eqParcelS:CallOk Tryz.prog 87 F_laws_eqParcelS:=
 func_ok (E:=env 27 [] []) (Ψ:=(lookF [((169,[]),F_laws_eqParcel)])) (Λ:=(lookL [(0,L_laws_eqParcelS_0)])) (fn:=Tryz.f87) (c:=body Tryz.f87) (env_ok _ _ _) (lookF_ok ⟨ok_laws_eqParcel,trivial⟩) Tryz.func87 (by kernel_rfl) (by kernel_rfl) (by kernel_rfl) (by decide) (loops_eq (l':=[(0,lp 0 (body Tryz.f87) 0)]) (by kernel_rfl) (loops_cons (by kernel_rfl) lo_laws_eqParcelS_0 (loops_nil (P:=Tryz.prog) (E:=env 27 [] []) (Λ:=(lookL [(0,L_laws_eqParcelS_0)])) rfl))) (fun x=>by kernel_rfl)
noncomputable def F_laws_eqGrant:FnR:=⟨true,[a6,a6],[o14],fun x=>laws_eqGrant x.1 x.2.1 x.2.2.1 x.2.2.2.1 x.2.2.2.2.1 x.2.2.2.2.2.1 x.2.2.2.2.2.2.1 x.2.2.2.2.2.2.2.1 x.2.2.2.2.2.2.2.2.1 x.2.2.2.2.2.2.2.2.2.1 x.2.2.2.2.2.2.2.2.2.2.1 x.2.2.2.2.2.2.2.2.2.2.2.1 x.2.2.2.2.2.2.2.2.2.2.2.2.1 x.2.2.2.2.2.2.2.2.2.2.2.2.2.1⟩
theorem ok_laws_eqGrant:CallOk Tryz.prog 170 F_laws_eqGrant:=
 func_ok (E:=env 40 [] []) (Ψ:=(lookF [])) (Λ:=(lookL [])) (fn:=Tryz.f170) (c:=body Tryz.f170) (env_ok _ _ _) (lookF_ok (l:=[]) trivial) Tryz.func170 (by kernel_rfl) (by kernel_rfl) (by kernel_rfl) (by decide) (loops_eq (l':=[]) (by kernel_rfl) (loops_nil (P:=Tryz.prog) (E:=env 40 [] []) (Λ:=(lookL [])) rfl)) (fun x=>by kernel_rfl)
noncomputable def L_laws_eqGrantS_0:LoopR:=⟨[(0,o15),(1,o15)],[(5,o1)],[(.ret,[(4,o14)]),(.exit 0,[])],fun k x=>laws_eqGrantS_l0 k x⟩
theorem lo_laws_eqGrantS_0:LoopOk Tryz.prog (env 27 [] []) (lp 0 (body Tryz.f88) 0) L_laws_eqGrantS_0:=
 loop_ok' (Ψ:=(lookF [((170,[]),F_laws_eqGrant)])) (Λ:=(lookL [])) (env_ok _ _ _) (lookF_ok ⟨ok_laws_eqGrant,trivial⟩) (n:=0) (keep:=[(0,o15),(1,o15)]) (tmpl:=[(5,o1)]) (exits:=[(.ret,[(4,o14)]),(.exit 0,[])]) (loops_eq (l':=[]) (by kernel_rfl) (loops_nil (P:=Tryz.prog) (E:=env 27 [] []) (Λ:=(lookL [])) rfl)) (fun k x=>laws_eqGrantS_b0 k x) (fun k x=>by kernel_rfl)
noncomputable def F_laws_eqGrantS:FnR:=⟨true,[o15,o15],[o14],fun x=>laws_eqGrantS x.1 x.2.1⟩
theorem ok_laws_eqGrantS:CallOk Tryz.prog 88 F_laws_eqGrantS:=
 func_ok (E:=env 27 [] []) (Ψ:=(lookF [((170,[]),F_laws_eqGrant)])) (Λ:=(lookL [(0,L_laws_eqGrantS_0)])) (fn:=Tryz.f88) (c:=body Tryz.f88) (env_ok _ _ _) (lookF_ok ⟨ok_laws_eqGrant,trivial⟩) Tryz.func88 (by kernel_rfl) (by kernel_rfl) (by kernel_rfl) (by decide) (loops_eq (l':=[(0,lp 0 (body Tryz.f88) 0)]) (by kernel_rfl) (loops_cons (by kernel_rfl) lo_laws_eqGrantS_0 (loops_nil (P:=Tryz.prog) (E:=env 27 [] []) (Λ:=(lookL [(0,L_laws_eqGrantS_0)])) rfl))) (fun x=>by kernel_rfl)
noncomputable def F_laws_eqNetwork:FnR:=⟨true,[a10,a10],[o14],fun x=>laws_eqNetwork x.1 x.2.1 x.2.2.1 x.2.2.2.1 x.2.2.2.2.1 x.2.2.2.2.2.1 x.2.2.2.2.2.2.1 x.2.2.2.2.2.2.2.1 x.2.2.2.2.2.2.2.2.1 x.2.2.2.2.2.2.2.2.2.1 x.2.2.2.2.2.2.2.2.2.2.1 x.2.2.2.2.2.2.2.2.2.2.2.1 x.2.2.2.2.2.2.2.2.2.2.2.2.1 x.2.2.2.2.2.2.2.2.2.2.2.2.2.1 x.2.2.2.2.2.2.2.2.2.2.2.2.2.2.1 x.2.2.2.2.2.2.2.2.2.2.2.2.2.2.2.1 x.2.2.2.2.2.2.2.2.2.2.2.2.2.2.2.2.1 x.2.2.2.2.2.2.2.2.2.2.2.2.2.2.2.2.2.1 x.2.2.2.2.2.2.2.2.2.2.2.2.2.2.2.2.2.2.1 x.2.2.2.2.2.2.2.2.2.2.2.2.2.2.2.2.2.2.2.1 x.2.2.2.2.2.2.2.2.2.2.2.2.2.2.2.2.2.2.2.2.1 x.2.2.2.2.2.2.2.2.2.2.2.2.2.2.2.2.2.2.2.2.2.1 x.2.2.2.2.2.2.2.2.2.2.2.2.2.2.2.2.2.2.2.2.2.2.1 x.2.2.2.2.2.2.2.2.2.2.2.2.2.2.2.2.2.2.2.2.2.2.2.1 x.2.2.2.2.2.2.2.2.2.2.2.2.2.2.2.2.2.2.2.2.2.2.2.2.1 x.2.2.2.2.2.2.2.2.2.2.2.2.2.2.2.2.2.2.2.2.2.2.2.2.2.1 x.2.2.2.2.2.2.2.2.2.2.2.2.2.2.2.2.2.2.2.2.2.2.2.2.2.2.1 x.2.2.2.2.2.2.2.2.2.2.2.2.2.2.2.2.2.2.2.2.2.2.2.2.2.2.2.1 x.2.2.2.2.2.2.2.2.2.2.2.2.2.2.2.2.2.2.2.2.2.2.2.2.2.2.2.2.1 x.2.2.2.2.2.2.2.2.2.2.2.2.2.2.2.2.2.2.2.2.2.2.2.2.2.2.2.2.2.1⟩
theorem ok_laws_eqNetwork:CallOk Tryz.prog 15 F_laws_eqNetwork:=
 func_ok (E:=env 50 [] []) (Ψ:=(lookF [((85,[]),F_laws_eqTerms),((86,[]),F_laws_eqSiteS),((87,[]),F_laws_eqParcelS),((88,[]),F_laws_eqGrantS),((48,[]),F_laws_eqEventS)])) (Λ:=(lookL [])) (fn:=Tryz.f15) (c:=body Tryz.f15) (env_ok _ _ _) (lookF_ok ⟨ok_laws_eqTerms,ok_laws_eqSiteS,ok_laws_eqParcelS,ok_laws_eqGrantS,ok_laws_eqEventS,trivial⟩) Tryz.func15 (by kernel_rfl) (by kernel_rfl) (by kernel_rfl) (by decide) (loops_eq (l':=[]) (by kernel_rfl) (loops_nil (P:=Tryz.prog) (E:=env 50 [] []) (Λ:=(lookL [])) rfl)) (fun x=>by kernel_rfl)
noncomputable def L_laws_eqWeekS_0:LoopR:=⟨[(0,o19),(1,o19)],[(5,o1)],[(.ret,[(4,o14)]),(.exit 0,[])],fun k x=>laws_eqWeekS_l0 k x⟩
theorem lo_laws_eqWeekS_0:LoopOk Tryz.prog (env 27 [] []) (lp 0 (body Tryz.f28) 0) L_laws_eqWeekS_0:=
 loop_ok' (Ψ:=(lookF [((99,[]),F_laws_eqWeek)])) (Λ:=(lookL [])) (env_ok _ _ _) (lookF_ok ⟨ok_laws_eqWeek,trivial⟩) (n:=0) (keep:=[(0,o19),(1,o19)]) (tmpl:=[(5,o1)]) (exits:=[(.ret,[(4,o14)]),(.exit 0,[])]) (loops_eq (l':=[]) (by kernel_rfl) (loops_nil (P:=Tryz.prog) (E:=env 27 [] []) (Λ:=(lookL [])) rfl)) (fun k x=>laws_eqWeekS_b0 k x) (fun k x=>by kernel_rfl)
noncomputable def F_laws_eqWeekS:FnR:=⟨true,[o19,o19],[o14],fun x=>laws_eqWeekS x.1 x.2.1⟩
theorem ok_laws_eqWeekS:CallOk Tryz.prog 28 F_laws_eqWeekS:=
 func_ok (E:=env 27 [] []) (Ψ:=(lookF [((99,[]),F_laws_eqWeek)])) (Λ:=(lookL [(0,L_laws_eqWeekS_0)])) (fn:=Tryz.f28) (c:=body Tryz.f28) (env_ok _ _ _) (lookF_ok ⟨ok_laws_eqWeek,trivial⟩) Tryz.func28 (by kernel_rfl) (by kernel_rfl) (by kernel_rfl) (by decide) (loops_eq (l':=[(0,lp 0 (body Tryz.f28) 0)]) (by kernel_rfl) (loops_cons (by kernel_rfl) lo_laws_eqWeekS_0 (loops_nil (P:=Tryz.prog) (E:=env 27 [] []) (Λ:=(lookL [(0,L_laws_eqWeekS_0)])) rfl))) (fun x=>by kernel_rfl)
noncomputable def L_laws_eqColumnSS_0:LoopR:=⟨[(0,o20),(1,o20)],[(5,o1)],[(.ret,[(4,o14)]),(.exit 0,[])],fun k x=>laws_eqColumnSS_l0 k x⟩
theorem lo_laws_eqColumnSS_0:LoopOk Tryz.prog (env 27 [] []) (lp 0 (body Tryz.f29) 0) L_laws_eqColumnSS_0:=
 loop_ok' (Ψ:=(lookF [((100,[]),F_laws_eqColumnS)])) (Λ:=(lookL [])) (env_ok _ _ _) (lookF_ok ⟨ok_laws_eqColumnS,trivial⟩) (n:=0) (keep:=[(0,o20),(1,o20)]) (tmpl:=[(5,o1)]) (exits:=[(.ret,[(4,o14)]),(.exit 0,[])]) (loops_eq (l':=[]) (by kernel_rfl) (loops_nil (P:=Tryz.prog) (E:=env 27 [] []) (Λ:=(lookL [])) rfl)) (fun k x=>laws_eqColumnSS_b0 k x) (fun k x=>by kernel_rfl)
noncomputable def F_laws_eqColumnSS:FnR:=⟨true,[o20,o20],[o14],fun x=>laws_eqColumnSS x.1 x.2.1⟩
theorem ok_laws_eqColumnSS:CallOk Tryz.prog 29 F_laws_eqColumnSS:=
 func_ok (E:=env 27 [] []) (Ψ:=(lookF [((100,[]),F_laws_eqColumnS)])) (Λ:=(lookL [(0,L_laws_eqColumnSS_0)])) (fn:=Tryz.f29) (c:=body Tryz.f29) (env_ok _ _ _) (lookF_ok ⟨ok_laws_eqColumnS,trivial⟩) Tryz.func29 (by kernel_rfl) (by kernel_rfl) (by kernel_rfl) (by decide) (loops_eq (l':=[(0,lp 0 (body Tryz.f29) 0)]) (by kernel_rfl) (loops_cons (by kernel_rfl) lo_laws_eqColumnSS_0 (loops_nil (P:=Tryz.prog) (E:=env 27 [] []) (Λ:=(lookL [(0,L_laws_eqColumnSS_0)])) rfl))) (fun x=>by kernel_rfl)
noncomputable def L_laws_markSpanS_0:LoopR:=⟨[],[(0,o7),(1,o1),(5,o1)],[(.exit 0,[(0,o7),(1,o1)])],fun k x=>laws_markSpanS_l0 k x⟩
theorem lo_laws_markSpanS_0:LoopOk Tryz.prog (env 27 [] []) (lp 0 (body Tryz.f101) 0) L_laws_markSpanS_0:=
 loop_ok' (Ψ:=(lookF [])) (Λ:=(lookL [])) (env_ok _ _ _) (lookF_ok (l:=[]) trivial) (n:=0) (keep:=[]) (tmpl:=[(0,o7),(1,o1),(5,o1)]) (exits:=[(.exit 0,[(0,o7),(1,o1)])]) (loops_eq (l':=[]) (by kernel_rfl) (loops_nil (P:=Tryz.prog) (E:=env 27 [] []) (Λ:=(lookL [])) rfl)) (fun k x=>laws_markSpanS_b0 k x) (fun k x=>by kernel_rfl)
noncomputable def F_laws_markSpanS:FnR:=⟨true,[o7,o1],[o1],fun x=>laws_markSpanS x.1 x.2.1⟩
theorem ok_laws_markSpanS:CallOk Tryz.prog 101 F_laws_markSpanS:=
 func_ok (E:=env 27 [] []) (Ψ:=(lookF [])) (Λ:=(lookL [(0,L_laws_markSpanS_0)])) (fn:=Tryz.f101) (c:=body Tryz.f101) (env_ok _ _ _) (lookF_ok (l:=[]) trivial) Tryz.func101 (by kernel_rfl) (by kernel_rfl) (by kernel_rfl) (by decide) (loops_eq (l':=[(0,lp 0 (body Tryz.f101) 0)]) (by kernel_rfl) (loops_cons (by kernel_rfl) lo_laws_markSpanS_0 (loops_nil (P:=Tryz.prog) (E:=env 27 [] []) (Λ:=(lookL [(0,L_laws_markSpanS_0)])) rfl))) (fun x=>by kernel_rfl)
noncomputable def L_laws_markWeekS_0:LoopR:=⟨[],[(0,o8),(1,o1),(5,o1)],[(.exit 0,[(0,o8),(1,o1)])],fun k x=>laws_markWeekS_l0 k x⟩
theorem lo_laws_markWeekS_0:LoopOk Tryz.prog (env 27 [] []) (lp 0 (body Tryz.f30) 0) L_laws_markWeekS_0:=
 loop_ok' (Ψ:=(lookF [((101,[]),F_laws_markSpanS)])) (Λ:=(lookL [])) (env_ok _ _ _) (lookF_ok ⟨ok_laws_markSpanS,trivial⟩) (n:=0) (keep:=[]) (tmpl:=[(0,o8),(1,o1),(5,o1)]) (exits:=[(.exit 0,[(0,o8),(1,o1)])]) (loops_eq (l':=[]) (by kernel_rfl) (loops_nil (P:=Tryz.prog) (E:=env 27 [] []) (Λ:=(lookL [])) rfl)) (fun k x=>laws_markWeekS_b0 k x) (fun k x=>by kernel_rfl)
noncomputable def F_laws_markWeekS:FnR:=⟨true,[o8,o1],[o1],fun x=>laws_markWeekS x.1 x.2.1⟩
theorem ok_laws_markWeekS:CallOk Tryz.prog 30 F_laws_markWeekS:=
 func_ok (E:=env 27 [] []) (Ψ:=(lookF [((101,[]),F_laws_markSpanS)])) (Λ:=(lookL [(0,L_laws_markWeekS_0)])) (fn:=Tryz.f30) (c:=body Tryz.f30) (env_ok _ _ _) (lookF_ok ⟨ok_laws_markSpanS,trivial⟩) Tryz.func30 (by kernel_rfl) (by kernel_rfl) (by kernel_rfl) (by decide) (loops_eq (l':=[(0,lp 0 (body Tryz.f30) 0)]) (by kernel_rfl) (loops_cons (by kernel_rfl) lo_laws_markWeekS_0 (loops_nil (P:=Tryz.prog) (E:=env 27 [] []) (Λ:=(lookL [(0,L_laws_markWeekS_0)])) rfl))) (fun x=>by kernel_rfl)
noncomputable def L_laws_markIntS_0:LoopR:=⟨[],[(0,o9),(1,o1),(5,o1)],[(.exit 0,[(0,o9),(1,o1)])],fun k x=>laws_markIntS_l0 k x⟩
theorem lo_laws_markIntS_0:LoopOk Tryz.prog (env 19 [] []) (lp 0 (body Tryz.f43) 0) L_laws_markIntS_0:=
 loop_ok' (Ψ:=(lookF [])) (Λ:=(lookL [])) (env_ok _ _ _) (lookF_ok (l:=[]) trivial) (n:=0) (keep:=[]) (tmpl:=[(0,o9),(1,o1),(5,o1)]) (exits:=[(.exit 0,[(0,o9),(1,o1)])]) (loops_eq (l':=[]) (by kernel_rfl) (loops_nil (P:=Tryz.prog) (E:=env 19 [] []) (Λ:=(lookL [])) rfl)) (fun k x=>laws_markIntS_b0 k x) (fun k x=>by kernel_rfl)
noncomputable def F_laws_markIntS:FnR:=⟨true,[o9,o1],[o1],fun x=>laws_markIntS x.1 x.2.1⟩
theorem ok_laws_markIntS:CallOk Tryz.prog 43 F_laws_markIntS:=
 func_ok (E:=env 19 [] []) (Ψ:=(lookF [])) (Λ:=(lookL [(0,L_laws_markIntS_0)])) (fn:=Tryz.f43) (c:=body Tryz.f43) (env_ok _ _ _) (lookF_ok (l:=[]) trivial) Tryz.func43 (by kernel_rfl) (by kernel_rfl) (by kernel_rfl) (by decide) (loops_eq (l':=[(0,lp 0 (body Tryz.f43) 0)]) (by kernel_rfl) (loops_cons (by kernel_rfl) lo_laws_markIntS_0 (loops_nil (P:=Tryz.prog) (E:=env 19 [] []) (Λ:=(lookL [(0,L_laws_markIntS_0)])) rfl))) (fun x=>by kernel_rfl)
noncomputable def L_laws_markBoxS_0:LoopR:=⟨[],[(0,o10),(1,o1),(5,o1)],[(.exit 0,[(0,o10),(1,o1)])],fun k x=>laws_markBoxS_l0 k x⟩
theorem lo_laws_markBoxS_0:LoopOk Tryz.prog (env 43 [] []) (lp 0 (body Tryz.f183) 0) L_laws_markBoxS_0:=
 loop_ok' (Ψ:=(lookF [])) (Λ:=(lookL [])) (env_ok _ _ _) (lookF_ok (l:=[]) trivial) (n:=0) (keep:=[]) (tmpl:=[(0,o10),(1,o1),(5,o1)]) (exits:=[(.exit 0,[(0,o10),(1,o1)])]) (loops_eq (l':=[]) (by kernel_rfl) (loops_nil (P:=Tryz.prog) (E:=env 43 [] []) (Λ:=(lookL [])) rfl)) (fun k x=>laws_markBoxS_b0 k x) (fun k x=>by kernel_rfl)
noncomputable def F_laws_markBoxS:FnR:=⟨true,[o10,o1],[o1],fun x=>laws_markBoxS x.1 x.2.1⟩
theorem ok_laws_markBoxS:CallOk Tryz.prog 183 F_laws_markBoxS:=
 func_ok (E:=env 43 [] []) (Ψ:=(lookF [])) (Λ:=(lookL [(0,L_laws_markBoxS_0)])) (fn:=Tryz.f183) (c:=body Tryz.f183) (env_ok _ _ _) (lookF_ok (l:=[]) trivial) Tryz.func183 (by kernel_rfl) (by kernel_rfl) (by kernel_rfl) (by decide) (loops_eq (l':=[(0,lp 0 (body Tryz.f183) 0)]) (by kernel_rfl) (loops_cons (by kernel_rfl) lo_laws_markBoxS_0 (loops_nil (P:=Tryz.prog) (E:=env 43 [] []) (Λ:=(lookL [(0,L_laws_markBoxS_0)])) rfl))) (fun x=>by kernel_rfl)
noncomputable def L_laws_markColumnS_0:LoopR:=⟨[],[(0,o11),(1,o1),(5,o1)],[(.exit 0,[(0,o11),(1,o1)])],fun k x=>laws_markColumnS_l0 k x⟩
theorem lo_laws_markColumnS_0:LoopOk Tryz.prog (env 34 [] []) (lp 0 (body Tryz.f102) 0) L_laws_markColumnS_0:=
 loop_ok' (Ψ:=(lookF [((43,[]),F_laws_markIntS),((183,[]),F_laws_markBoxS)])) (Λ:=(lookL [])) (env_ok _ _ _) (lookF_ok ⟨ok_laws_markIntS,ok_laws_markBoxS,trivial⟩) (n:=0) (keep:=[]) (tmpl:=[(0,o11),(1,o1),(5,o1)]) (exits:=[(.exit 0,[(0,o11),(1,o1)])]) (loops_eq (l':=[]) (by kernel_rfl) (loops_nil (P:=Tryz.prog) (E:=env 34 [] []) (Λ:=(lookL [])) rfl)) (fun k x=>laws_markColumnS_b0 k x) (fun k x=>by kernel_rfl)
noncomputable def F_laws_markColumnS:FnR:=⟨true,[o11,o1],[o1],fun x=>laws_markColumnS x.1 x.2.1⟩
theorem ok_laws_markColumnS:CallOk Tryz.prog 102 F_laws_markColumnS:=
 func_ok (E:=env 34 [] []) (Ψ:=(lookF [((43,[]),F_laws_markIntS),((183,[]),F_laws_markBoxS)])) (Λ:=(lookL [(0,L_laws_markColumnS_0)])) (fn:=Tryz.f102) (c:=body Tryz.f102) (env_ok _ _ _) (lookF_ok ⟨ok_laws_markIntS,ok_laws_markBoxS,trivial⟩) Tryz.func102 (by kernel_rfl) (by kernel_rfl) (by kernel_rfl) (by decide) (loops_eq (l':=[(0,lp 0 (body Tryz.f102) 0)]) (by kernel_rfl) (loops_cons (by kernel_rfl) lo_laws_markColumnS_0 (loops_nil (P:=Tryz.prog) (E:=env 34 [] []) (Λ:=(lookL [(0,L_laws_markColumnS_0)])) rfl))) (fun x=>by kernel_rfl)
noncomputable def L_laws_markColumnSS_0:LoopR:=⟨[],[(0,o12),(1,o1),(5,o1)],[(.exit 0,[(0,o12),(1,o1)])],fun k x=>laws_markColumnSS_l0 k x⟩
theorem lo_laws_markColumnSS_0:LoopOk Tryz.prog (env 19 [] []) (lp 0 (body Tryz.f31) 0) L_laws_markColumnSS_0:=
 loop_ok' (Ψ:=(lookF [((102,[]),F_laws_markColumnS)])) (Λ:=(lookL [])) (env_ok _ _ _) (lookF_ok ⟨ok_laws_markColumnS,trivial⟩) (n:=0) (keep:=[]) (tmpl:=[(0,o12),(1,o1),(5,o1)]) (exits:=[(.exit 0,[(0,o12),(1,o1)])]) (loops_eq (l':=[]) (by kernel_rfl) (loops_nil (P:=Tryz.prog) (E:=env 19 [] []) (Λ:=(lookL [])) rfl)) (fun k x=>laws_markColumnSS_b0 k x) (fun k x=>by kernel_rfl)
noncomputable def F_laws_markColumnSS:FnR:=⟨true,[o12,o1],[o1],fun x=>laws_markColumnSS x.1 x.2.1⟩
theorem ok_laws_markColumnSS:CallOk Tryz.prog 31 F_laws_markColumnSS:=
 func_ok (E:=env 19 [] []) (Ψ:=(lookF [((102,[]),F_laws_markColumnS)])) (Λ:=(lookL [(0,L_laws_markColumnSS_0)])) (fn:=Tryz.f31) (c:=body Tryz.f31) (env_ok _ _ _) (lookF_ok ⟨ok_laws_markColumnS,trivial⟩) Tryz.func31 (by kernel_rfl) (by kernel_rfl) (by kernel_rfl) (by decide) (loops_eq (l':=[(0,lp 0 (body Tryz.f31) 0)]) (by kernel_rfl) (loops_cons (by kernel_rfl) lo_laws_markColumnSS_0 (loops_nil (P:=Tryz.prog) (E:=env 19 [] []) (Λ:=(lookL [(0,L_laws_markColumnSS_0)])) rfl))) (fun x=>by kernel_rfl)
noncomputable def L_laws_markEventS_0:LoopR:=⟨[],[(0,o23),(1,o1),(5,o1)],[(.exit 0,[(0,o23),(1,o1)])],fun k x=>laws_markEventS_l0 k x⟩
theorem lo_laws_markEventS_0:LoopOk Tryz.prog (env 62 [] []) (lp 0 (body Tryz.f49) 0) L_laws_markEventS_0:=
 loop_ok' (Ψ:=(lookF [])) (Λ:=(lookL [])) (env_ok _ _ _) (lookF_ok (l:=[]) trivial) (n:=0) (keep:=[]) (tmpl:=[(0,o23),(1,o1),(5,o1)]) (exits:=[(.exit 0,[(0,o23),(1,o1)])]) (loops_eq (l':=[]) (by kernel_rfl) (loops_nil (P:=Tryz.prog) (E:=env 62 [] []) (Λ:=(lookL [])) rfl)) (fun k x=>laws_markEventS_b0 k x) (fun k x=>by kernel_rfl)
noncomputable def F_laws_markEventS:FnR:=⟨true,[o23,o1],[o1],fun x=>laws_markEventS x.1 x.2.1⟩
theorem ok_laws_markEventS:CallOk Tryz.prog 49 F_laws_markEventS:=
 func_ok (E:=env 62 [] []) (Ψ:=(lookF [])) (Λ:=(lookL [(0,L_laws_markEventS_0)])) (fn:=Tryz.f49) (c:=body Tryz.f49) (env_ok _ _ _) (lookF_ok (l:=[]) trivial) Tryz.func49 (by kernel_rfl) (by kernel_rfl) (by kernel_rfl) (by decide) (loops_eq (l':=[(0,lp 0 (body Tryz.f49) 0)]) (by kernel_rfl) (loops_cons (by kernel_rfl) lo_laws_markEventS_0 (loops_nil (P:=Tryz.prog) (E:=env 62 [] []) (Λ:=(lookL [(0,L_laws_markEventS_0)])) rfl))) (fun x=>by kernel_rfl)
noncomputable def L_laws_markSiteS_0:LoopR:=⟨[],[(0,o24),(1,o1),(5,o1)],[(.exit 0,[(0,o24),(1,o1)])],fun k x=>laws_markSiteS_l0 k x⟩
theorem lo_laws_markSiteS_0:LoopOk Tryz.prog (env 103 [] []) (lp 0 (body Tryz.f103) 0) L_laws_markSiteS_0:=
 loop_ok' (Ψ:=(lookF [((101,[]),F_laws_markSpanS),((102,[]),F_laws_markColumnS),((49,[]),F_laws_markEventS)])) (Λ:=(lookL [])) (env_ok _ _ _) (lookF_ok ⟨ok_laws_markSpanS,ok_laws_markColumnS,ok_laws_markEventS,trivial⟩) (n:=0) (keep:=[]) (tmpl:=[(0,o24),(1,o1),(5,o1)]) (exits:=[(.exit 0,[(0,o24),(1,o1)])]) (loops_eq (l':=[]) (by kernel_rfl) (loops_nil (P:=Tryz.prog) (E:=env 103 [] []) (Λ:=(lookL [])) rfl)) (fun k x=>laws_markSiteS_b0 k x) (fun k x=>by kernel_rfl)
noncomputable def F_laws_markSiteS:FnR:=⟨true,[o24,o1],[o1],fun x=>laws_markSiteS x.1 x.2.1⟩
theorem ok_laws_markSiteS:CallOk Tryz.prog 103 F_laws_markSiteS:=
 func_ok (E:=env 103 [] []) (Ψ:=(lookF [((101,[]),F_laws_markSpanS),((102,[]),F_laws_markColumnS),((49,[]),F_laws_markEventS)])) (Λ:=(lookL [(0,L_laws_markSiteS_0)])) (fn:=Tryz.f103) (c:=body Tryz.f103) (env_ok _ _ _) (lookF_ok ⟨ok_laws_markSpanS,ok_laws_markColumnS,ok_laws_markEventS,trivial⟩) Tryz.func103 (by kernel_rfl) (by kernel_rfl) (by kernel_rfl) (by decide) (loops_eq (l':=[(0,lp 0 (body Tryz.f103) 0)]) (by kernel_rfl) (loops_cons (by kernel_rfl) lo_laws_markSiteS_0 (loops_nil (P:=Tryz.prog) (E:=env 103 [] []) (Λ:=(lookL [(0,L_laws_markSiteS_0)])) rfl))) (fun x=>by kernel_rfl)
noncomputable def L_laws_markParcelS_0:LoopR:=⟨[],[(0,o25),(1,o1),(5,o1)],[(.exit 0,[(0,o25),(1,o1)])],fun k x=>laws_markParcelS_l0 k x⟩
theorem lo_laws_markParcelS_0:LoopOk Tryz.prog (env 109 [] []) (lp 0 (body Tryz.f104) 0) L_laws_markParcelS_0:=
 loop_ok' (Ψ:=(lookF [])) (Λ:=(lookL [])) (env_ok _ _ _) (lookF_ok (l:=[]) trivial) (n:=0) (keep:=[]) (tmpl:=[(0,o25),(1,o1),(5,o1)]) (exits:=[(.exit 0,[(0,o25),(1,o1)])]) (loops_eq (l':=[]) (by kernel_rfl) (loops_nil (P:=Tryz.prog) (E:=env 109 [] []) (Λ:=(lookL [])) rfl)) (fun k x=>laws_markParcelS_b0 k x) (fun k x=>by kernel_rfl)
noncomputable def F_laws_markParcelS:FnR:=⟨true,[o25,o1],[o1],fun x=>laws_markParcelS x.1 x.2.1⟩
theorem ok_laws_markParcelS:CallOk Tryz.prog 104 F_laws_markParcelS:=
 func_ok (E:=env 109 [] []) (Ψ:=(lookF [])) (Λ:=(lookL [(0,L_laws_markParcelS_0)])) (fn:=Tryz.f104) (c:=body Tryz.f104) (env_ok _ _ _) (lookF_ok (l:=[]) trivial) Tryz.func104 (by kernel_rfl) (by kernel_rfl) (by kernel_rfl) (by decide) (loops_eq (l':=[(0,lp 0 (body Tryz.f104) 0)]) (by kernel_rfl) (loops_cons (by kernel_rfl) lo_laws_markParcelS_0 (loops_nil (P:=Tryz.prog) (E:=env 109 [] []) (Λ:=(lookL [(0,L_laws_markParcelS_0)])) rfl))) (fun x=>by kernel_rfl)
noncomputable def L_laws_markGrantS_0:LoopR:=⟨[],[(0,o26),(1,o1),(5,o1)],[(.exit 0,[(0,o26),(1,o1)])],fun k x=>laws_markGrantS_l0 k x⟩
theorem lo_laws_markGrantS_0:LoopOk Tryz.prog (env 64 [] []) (lp 0 (body Tryz.f105) 0) L_laws_markGrantS_0:=
 loop_ok' (Ψ:=(lookF [])) (Λ:=(lookL [])) (env_ok _ _ _) (lookF_ok (l:=[]) trivial) (n:=0) (keep:=[]) (tmpl:=[(0,o26),(1,o1),(5,o1)]) (exits:=[(.exit 0,[(0,o26),(1,o1)])]) (loops_eq (l':=[]) (by kernel_rfl) (loops_nil (P:=Tryz.prog) (E:=env 64 [] []) (Λ:=(lookL [])) rfl)) (fun k x=>laws_markGrantS_b0 k x) (fun k x=>by kernel_rfl)
noncomputable def F_laws_markGrantS:FnR:=⟨true,[o26,o1],[o1],fun x=>laws_markGrantS x.1 x.2.1⟩
theorem ok_laws_markGrantS:CallOk Tryz.prog 105 F_laws_markGrantS:=
 func_ok (E:=env 64 [] []) (Ψ:=(lookF [])) (Λ:=(lookL [(0,L_laws_markGrantS_0)])) (fn:=Tryz.f105) (c:=body Tryz.f105) (env_ok _ _ _) (lookF_ok (l:=[]) trivial) Tryz.func105 (by kernel_rfl) (by kernel_rfl) (by kernel_rfl) (by decide) (loops_eq (l':=[(0,lp 0 (body Tryz.f105) 0)]) (by kernel_rfl) (loops_cons (by kernel_rfl) lo_laws_markGrantS_0 (loops_nil (P:=Tryz.prog) (E:=env 64 [] []) (Λ:=(lookL [(0,L_laws_markGrantS_0)])) rfl))) (fun x=>by kernel_rfl)
noncomputable def F_laws_markNetwork:FnR:=⟨true,[a13,o1],[o1],fun x=>laws_markNetwork x.1 x.2.1 x.2.2.1 x.2.2.2.1 x.2.2.2.2.1 x.2.2.2.2.2.1 x.2.2.2.2.2.2.1 x.2.2.2.2.2.2.2.1 x.2.2.2.2.2.2.2.2.1 x.2.2.2.2.2.2.2.2.2.1 x.2.2.2.2.2.2.2.2.2.2.1 x.2.2.2.2.2.2.2.2.2.2.2.1 x.2.2.2.2.2.2.2.2.2.2.2.2.1 x.2.2.2.2.2.2.2.2.2.2.2.2.2.1 x.2.2.2.2.2.2.2.2.2.2.2.2.2.2.1 x.2.2.2.2.2.2.2.2.2.2.2.2.2.2.2.1⟩
theorem ok_laws_markNetwork:CallOk Tryz.prog 32 F_laws_markNetwork:=
 func_ok (E:=env 22 [] []) (Ψ:=(lookF [((103,[]),F_laws_markSiteS),((104,[]),F_laws_markParcelS),((105,[]),F_laws_markGrantS),((49,[]),F_laws_markEventS)])) (Λ:=(lookL [])) (fn:=Tryz.f32) (c:=body Tryz.f32) (env_ok _ _ _) (lookF_ok ⟨ok_laws_markSiteS,ok_laws_markParcelS,ok_laws_markGrantS,ok_laws_markEventS,trivial⟩) Tryz.func32 (by kernel_rfl) (by kernel_rfl) (by kernel_rfl) (by decide) (loops_eq (l':=[]) (by kernel_rfl) (loops_nil (P:=Tryz.prog) (E:=env 22 [] []) (Λ:=(lookL [])) rfl)) (fun x=>by kernel_rfl)
noncomputable def L_laws_heldSpanS_0:LoopR:=⟨[(0,o17)],[(1,o1),(5,o1)],[(.ret,[(4,o1)]),(.exit 0,[(1,o1)])],fun k x=>laws_heldSpanS_l0 k x⟩
theorem lo_laws_heldSpanS_0:LoopOk Tryz.prog (env 31 [] []) (lp 0 (body Tryz.f184) 0) L_laws_heldSpanS_0:=
 loop_ok' (Ψ:=(lookF [])) (Λ:=(lookL [])) (env_ok _ _ _) (lookF_ok (l:=[]) trivial) (n:=0) (keep:=[(0,o17)]) (tmpl:=[(1,o1),(5,o1)]) (exits:=[(.ret,[(4,o1)]),(.exit 0,[(1,o1)])]) (loops_eq (l':=[]) (by kernel_rfl) (loops_nil (P:=Tryz.prog) (E:=env 31 [] []) (Λ:=(lookL [])) rfl)) (fun k x=>laws_heldSpanS_b0 k x) (fun k x=>by kernel_rfl)
noncomputable def F_laws_heldSpanS:FnR:=⟨true,[o17,o1],[o1],fun x=>laws_heldSpanS x.1 x.2.1⟩
theorem ok_laws_heldSpanS:CallOk Tryz.prog 184 F_laws_heldSpanS:=
 func_ok (E:=env 31 [] []) (Ψ:=(lookF [])) (Λ:=(lookL [(0,L_laws_heldSpanS_0)])) (fn:=Tryz.f184) (c:=body Tryz.f184) (env_ok _ _ _) (lookF_ok (l:=[]) trivial) Tryz.func184 (by kernel_rfl) (by kernel_rfl) (by kernel_rfl) (by decide) (loops_eq (l':=[(0,lp 0 (body Tryz.f184) 0)]) (by kernel_rfl) (loops_cons (by kernel_rfl) lo_laws_heldSpanS_0 (loops_nil (P:=Tryz.prog) (E:=env 31 [] []) (Λ:=(lookL [(0,L_laws_heldSpanS_0)])) rfl))) (fun x=>by kernel_rfl)
noncomputable def L_laws_heldIntS_0:LoopR:=⟨[(0,o3)],[(1,o1),(5,o1)],[(.ret,[(4,o1)]),(.exit 0,[(1,o1)])],fun k x=>laws_heldIntS_l0 k x⟩
theorem lo_laws_heldIntS_0:LoopOk Tryz.prog (env 21 [] []) (lp 0 (body Tryz.f45) 0) L_laws_heldIntS_0:=
 loop_ok' (Ψ:=(lookF [])) (Λ:=(lookL [])) (env_ok _ _ _) (lookF_ok (l:=[]) trivial) (n:=0) (keep:=[(0,o3)]) (tmpl:=[(1,o1),(5,o1)]) (exits:=[(.ret,[(4,o1)]),(.exit 0,[(1,o1)])]) (loops_eq (l':=[]) (by kernel_rfl) (loops_nil (P:=Tryz.prog) (E:=env 21 [] []) (Λ:=(lookL [])) rfl)) (fun k x=>laws_heldIntS_b0 k x) (fun k x=>by kernel_rfl)
noncomputable def F_laws_heldIntS:FnR:=⟨true,[o3,o1],[o1],fun x=>laws_heldIntS x.1 x.2.1⟩
theorem ok_laws_heldIntS:CallOk Tryz.prog 45 F_laws_heldIntS:=
 func_ok (E:=env 21 [] []) (Ψ:=(lookF [])) (Λ:=(lookL [(0,L_laws_heldIntS_0)])) (fn:=Tryz.f45) (c:=body Tryz.f45) (env_ok _ _ _) (lookF_ok (l:=[]) trivial) Tryz.func45 (by kernel_rfl) (by kernel_rfl) (by kernel_rfl) (by decide) (loops_eq (l':=[(0,lp 0 (body Tryz.f45) 0)]) (by kernel_rfl) (loops_cons (by kernel_rfl) lo_laws_heldIntS_0 (loops_nil (P:=Tryz.prog) (E:=env 21 [] []) (Λ:=(lookL [(0,L_laws_heldIntS_0)])) rfl))) (fun x=>by kernel_rfl)
noncomputable def L_laws_heldBoxS_0:LoopR:=⟨[(0,o18)],[(1,o1),(5,o1)],[(.ret,[(4,o1)]),(.exit 0,[(1,o1)])],fun k x=>laws_heldBoxS_l0 k x⟩
theorem lo_laws_heldBoxS_0:LoopOk Tryz.prog (env 51 [] []) (lp 0 (body Tryz.f236) 0) L_laws_heldBoxS_0:=
 loop_ok' (Ψ:=(lookF [])) (Λ:=(lookL [])) (env_ok _ _ _) (lookF_ok (l:=[]) trivial) (n:=0) (keep:=[(0,o18)]) (tmpl:=[(1,o1),(5,o1)]) (exits:=[(.ret,[(4,o1)]),(.exit 0,[(1,o1)])]) (loops_eq (l':=[]) (by kernel_rfl) (loops_nil (P:=Tryz.prog) (E:=env 51 [] []) (Λ:=(lookL [])) rfl)) (fun k x=>laws_heldBoxS_b0 k x) (fun k x=>by kernel_rfl)
noncomputable def F_laws_heldBoxS:FnR:=⟨true,[o18,o1],[o1],fun x=>laws_heldBoxS x.1 x.2.1⟩
theorem ok_laws_heldBoxS:CallOk Tryz.prog 236 F_laws_heldBoxS:=
 func_ok (E:=env 51 [] []) (Ψ:=(lookF [])) (Λ:=(lookL [(0,L_laws_heldBoxS_0)])) (fn:=Tryz.f236) (c:=body Tryz.f236) (env_ok _ _ _) (lookF_ok (l:=[]) trivial) Tryz.func236 (by kernel_rfl) (by kernel_rfl) (by kernel_rfl) (by decide) (loops_eq (l':=[(0,lp 0 (body Tryz.f236) 0)]) (by kernel_rfl) (loops_cons (by kernel_rfl) lo_laws_heldBoxS_0 (loops_nil (P:=Tryz.prog) (E:=env 51 [] []) (Λ:=(lookL [(0,L_laws_heldBoxS_0)])) rfl))) (fun x=>by kernel_rfl)
noncomputable def L_laws_heldColumnS_0:LoopR:=⟨[(0,o13)],[(1,o1),(5,o1)],[(.ret,[(4,o1)]),(.exit 0,[(1,o1)])],fun k x=>laws_heldColumnS_l0 k x⟩
theorem lo_laws_heldColumnS_0:LoopOk Tryz.prog (env 40 [] []) (lp 0 (body Tryz.f185) 0) L_laws_heldColumnS_0:=
 loop_ok' (Ψ:=(lookF [((45,[]),F_laws_heldIntS),((236,[]),F_laws_heldBoxS)])) (Λ:=(lookL [])) (env_ok _ _ _) (lookF_ok ⟨ok_laws_heldIntS,ok_laws_heldBoxS,trivial⟩) (n:=0) (keep:=[(0,o13)]) (tmpl:=[(1,o1),(5,o1)]) (exits:=[(.ret,[(4,o1)]),(.exit 0,[(1,o1)])]) (loops_eq (l':=[]) (by kernel_rfl) (loops_nil (P:=Tryz.prog) (E:=env 40 [] []) (Λ:=(lookL [])) rfl)) (fun k x=>laws_heldColumnS_b0 k x) (fun k x=>by kernel_rfl)
noncomputable def F_laws_heldColumnS:FnR:=⟨true,[o13,o1],[o1],fun x=>laws_heldColumnS x.1 x.2.1⟩
theorem ok_laws_heldColumnS:CallOk Tryz.prog 185 F_laws_heldColumnS:=
 func_ok (E:=env 40 [] []) (Ψ:=(lookF [((45,[]),F_laws_heldIntS),((236,[]),F_laws_heldBoxS)])) (Λ:=(lookL [(0,L_laws_heldColumnS_0)])) (fn:=Tryz.f185) (c:=body Tryz.f185) (env_ok _ _ _) (lookF_ok ⟨ok_laws_heldIntS,ok_laws_heldBoxS,trivial⟩) Tryz.func185 (by kernel_rfl) (by kernel_rfl) (by kernel_rfl) (by decide) (loops_eq (l':=[(0,lp 0 (body Tryz.f185) 0)]) (by kernel_rfl) (loops_cons (by kernel_rfl) lo_laws_heldColumnS_0 (loops_nil (P:=Tryz.prog) (E:=env 40 [] []) (Λ:=(lookL [(0,L_laws_heldColumnS_0)])) rfl))) (fun x=>by kernel_rfl)
noncomputable def L_laws_heldEventS_0:LoopR:=⟨[(0,o16)],[(1,o1),(5,o1)],[(.ret,[(4,o1)]),(.exit 0,[(1,o1)])],fun k x=>laws_heldEventS_l0 k x⟩
theorem lo_laws_heldEventS_0:LoopOk Tryz.prog (env 76 [] []) (lp 0 (body Tryz.f50) 0) L_laws_heldEventS_0:=
 loop_ok' (Ψ:=(lookF [])) (Λ:=(lookL [])) (env_ok _ _ _) (lookF_ok (l:=[]) trivial) (n:=0) (keep:=[(0,o16)]) (tmpl:=[(1,o1),(5,o1)]) (exits:=[(.ret,[(4,o1)]),(.exit 0,[(1,o1)])]) (loops_eq (l':=[]) (by kernel_rfl) (loops_nil (P:=Tryz.prog) (E:=env 76 [] []) (Λ:=(lookL [])) rfl)) (fun k x=>laws_heldEventS_b0 k x) (fun k x=>by kernel_rfl)
noncomputable def F_laws_heldEventS:FnR:=⟨true,[o16,o1],[o1],fun x=>laws_heldEventS x.1 x.2.1⟩
theorem ok_laws_heldEventS:CallOk Tryz.prog 50 F_laws_heldEventS:=
 func_ok (E:=env 76 [] []) (Ψ:=(lookF [])) (Λ:=(lookL [(0,L_laws_heldEventS_0)])) (fn:=Tryz.f50) (c:=body Tryz.f50) (env_ok _ _ _) (lookF_ok (l:=[]) trivial) Tryz.func50 (by kernel_rfl) (by kernel_rfl) (by kernel_rfl) (by decide) (loops_eq (l':=[(0,lp 0 (body Tryz.f50) 0)]) (by kernel_rfl) (loops_cons (by kernel_rfl) lo_laws_heldEventS_0 (loops_nil (P:=Tryz.prog) (E:=env 76 [] []) (Λ:=(lookL [(0,L_laws_heldEventS_0)])) rfl))) (fun x=>by kernel_rfl)
noncomputable def L_laws_heldSiteS_0:LoopR:=⟨[(0,o21)],[(1,o1),(5,o1)],[(.ret,[(4,o1)]),(.exit 0,[(1,o1)])],fun k x=>laws_heldSiteS_l0 k x⟩
theorem lo_laws_heldSiteS_0:LoopOk Tryz.prog (env 125 [] []) (lp 0 (body Tryz.f106) 0) L_laws_heldSiteS_0:=
 loop_ok' (Ψ:=(lookF [((184,[]),F_laws_heldSpanS),((185,[]),F_laws_heldColumnS),((50,[]),F_laws_heldEventS)])) (Λ:=(lookL [])) (env_ok _ _ _) (lookF_ok ⟨ok_laws_heldSpanS,ok_laws_heldColumnS,ok_laws_heldEventS,trivial⟩) (n:=0) (keep:=[(0,o21)]) (tmpl:=[(1,o1),(5,o1)]) (exits:=[(.ret,[(4,o1)]),(.exit 0,[(1,o1)])]) (loops_eq (l':=[]) (by kernel_rfl) (loops_nil (P:=Tryz.prog) (E:=env 125 [] []) (Λ:=(lookL [])) rfl)) (fun k x=>laws_heldSiteS_b0 k x) (fun k x=>by kernel_rfl)
noncomputable def F_laws_heldSiteS:FnR:=⟨true,[o21,o1],[o1],fun x=>laws_heldSiteS x.1 x.2.1⟩
theorem ok_laws_heldSiteS:CallOk Tryz.prog 106 F_laws_heldSiteS:=
 func_ok (E:=env 125 [] []) (Ψ:=(lookF [((184,[]),F_laws_heldSpanS),((185,[]),F_laws_heldColumnS),((50,[]),F_laws_heldEventS)])) (Λ:=(lookL [(0,L_laws_heldSiteS_0)])) (fn:=Tryz.f106) (c:=body Tryz.f106) (env_ok _ _ _) (lookF_ok ⟨ok_laws_heldSpanS,ok_laws_heldColumnS,ok_laws_heldEventS,trivial⟩) Tryz.func106 (by kernel_rfl) (by kernel_rfl) (by kernel_rfl) (by decide) (loops_eq (l':=[(0,lp 0 (body Tryz.f106) 0)]) (by kernel_rfl) (loops_cons (by kernel_rfl) lo_laws_heldSiteS_0 (loops_nil (P:=Tryz.prog) (E:=env 125 [] []) (Λ:=(lookL [(0,L_laws_heldSiteS_0)])) rfl))) (fun x=>by kernel_rfl)
noncomputable def L_laws_heldParcelS_0:LoopR:=⟨[(0,o22)],[(1,o1),(5,o1)],[(.ret,[(4,o1)]),(.exit 0,[(1,o1)])],fun k x=>laws_heldParcelS_l0 k x⟩
theorem lo_laws_heldParcelS_0:LoopOk Tryz.prog (env 135 [] []) (lp 0 (body Tryz.f107) 0) L_laws_heldParcelS_0:=
 loop_ok' (Ψ:=(lookF [])) (Λ:=(lookL [])) (env_ok _ _ _) (lookF_ok (l:=[]) trivial) (n:=0) (keep:=[(0,o22)]) (tmpl:=[(1,o1),(5,o1)]) (exits:=[(.ret,[(4,o1)]),(.exit 0,[(1,o1)])]) (loops_eq (l':=[]) (by kernel_rfl) (loops_nil (P:=Tryz.prog) (E:=env 135 [] []) (Λ:=(lookL [])) rfl)) (fun k x=>laws_heldParcelS_b0 k x) (fun k x=>by kernel_rfl)
noncomputable def F_laws_heldParcelS:FnR:=⟨true,[o22,o1],[o1],fun x=>laws_heldParcelS x.1 x.2.1⟩
theorem ok_laws_heldParcelS:CallOk Tryz.prog 107 F_laws_heldParcelS:=
 func_ok (E:=env 135 [] []) (Ψ:=(lookF [])) (Λ:=(lookL [(0,L_laws_heldParcelS_0)])) (fn:=Tryz.f107) (c:=body Tryz.f107) (env_ok _ _ _) (lookF_ok (l:=[]) trivial) Tryz.func107 (by kernel_rfl) (by kernel_rfl) (by kernel_rfl) (by decide) (loops_eq (l':=[(0,lp 0 (body Tryz.f107) 0)]) (by kernel_rfl) (loops_cons (by kernel_rfl) lo_laws_heldParcelS_0 (loops_nil (P:=Tryz.prog) (E:=env 135 [] []) (Λ:=(lookL [(0,L_laws_heldParcelS_0)])) rfl))) (fun x=>by kernel_rfl)
noncomputable def L_laws_heldGrantS_0:LoopR:=⟨[(0,o15)],[(1,o1),(5,o1)],[(.ret,[(4,o1)]),(.exit 0,[(1,o1)])],fun k x=>laws_heldGrantS_l0 k x⟩
theorem lo_laws_heldGrantS_0:LoopOk Tryz.prog (env 78 [] []) (lp 0 (body Tryz.f108) 0) L_laws_heldGrantS_0:=
 loop_ok' (Ψ:=(lookF [])) (Λ:=(lookL [])) (env_ok _ _ _) (lookF_ok (l:=[]) trivial) (n:=0) (keep:=[(0,o15)]) (tmpl:=[(1,o1),(5,o1)]) (exits:=[(.ret,[(4,o1)]),(.exit 0,[(1,o1)])]) (loops_eq (l':=[]) (by kernel_rfl) (loops_nil (P:=Tryz.prog) (E:=env 78 [] []) (Λ:=(lookL [])) rfl)) (fun k x=>laws_heldGrantS_b0 k x) (fun k x=>by kernel_rfl)
noncomputable def F_laws_heldGrantS:FnR:=⟨true,[o15,o1],[o1],fun x=>laws_heldGrantS x.1 x.2.1⟩
theorem ok_laws_heldGrantS:CallOk Tryz.prog 108 F_laws_heldGrantS:=
 func_ok (E:=env 78 [] []) (Ψ:=(lookF [])) (Λ:=(lookL [(0,L_laws_heldGrantS_0)])) (fn:=Tryz.f108) (c:=body Tryz.f108) (env_ok _ _ _) (lookF_ok (l:=[]) trivial) Tryz.func108 (by kernel_rfl) (by kernel_rfl) (by kernel_rfl) (by decide) (loops_eq (l':=[(0,lp 0 (body Tryz.f108) 0)]) (by kernel_rfl) (loops_cons (by kernel_rfl) lo_laws_heldGrantS_0 (loops_nil (P:=Tryz.prog) (E:=env 78 [] []) (Λ:=(lookL [(0,L_laws_heldGrantS_0)])) rfl))) (fun x=>by kernel_rfl)
noncomputable def F_laws_heldNetwork:FnR:=⟨true,[a10,o1],[o1],fun x=>laws_heldNetwork x.1 x.2.1 x.2.2.1 x.2.2.2.1 x.2.2.2.2.1 x.2.2.2.2.2.1 x.2.2.2.2.2.2.1 x.2.2.2.2.2.2.2.1 x.2.2.2.2.2.2.2.2.1 x.2.2.2.2.2.2.2.2.2.1 x.2.2.2.2.2.2.2.2.2.2.1 x.2.2.2.2.2.2.2.2.2.2.2.1 x.2.2.2.2.2.2.2.2.2.2.2.2.1 x.2.2.2.2.2.2.2.2.2.2.2.2.2.1 x.2.2.2.2.2.2.2.2.2.2.2.2.2.2.1 x.2.2.2.2.2.2.2.2.2.2.2.2.2.2.2.1⟩
theorem ok_laws_heldNetwork:CallOk Tryz.prog 33 F_laws_heldNetwork:=
 func_ok (E:=env 30 [] []) (Ψ:=(lookF [((106,[]),F_laws_heldSiteS),((107,[]),F_laws_heldParcelS),((108,[]),F_laws_heldGrantS),((50,[]),F_laws_heldEventS)])) (Λ:=(lookL [])) (fn:=Tryz.f33) (c:=body Tryz.f33) (env_ok _ _ _) (lookF_ok ⟨ok_laws_heldSiteS,ok_laws_heldParcelS,ok_laws_heldGrantS,ok_laws_heldEventS,trivial⟩) Tryz.func33 (by kernel_rfl) (by kernel_rfl) (by kernel_rfl) (by decide) (loops_eq (l':=[]) (by kernel_rfl) (loops_nil (P:=Tryz.prog) (E:=env 30 [] []) (Λ:=(lookL [])) rfl)) (fun x=>by kernel_rfl)
noncomputable def F_laws_FnExactNewNetwork:FnR:=⟨true,[a1,o1,o1,o2,o6],[o14],fun x=>laws_FnExactNewNetwork x.1 x.2.1 x.2.2.1 x.2.2.2.1 x.2.2.2.2.1 x.2.2.2.2.2.1 x.2.2.2.2.2.2.1 x.2.2.2.2.2.2.2.1 x.2.2.2.2.2.2.2.2.1 x.2.2.2.2.2.2.2.2.2.1 x.2.2.2.2.2.2.2.2.2.2.1 x.2.2.2.2.2.2.2.2.2.2.2.1⟩
theorem ok_laws_FnExactNewNetwork:CallOk Tryz.prog 6 F_laws_FnExactNewNetwork:=
 func_ok (E:=env 137 [] []) (Ψ:=(lookF [((21,[]),F_laws_szWeekS),((22,[]),F_laws_szColumnSS),((24,[]),F_laws_toTerms),((25,[]),F_laws_toWeekS),((26,[]),F_laws_toColumnSS),((23,[]),F_spec_NewNetwork),((27,[]),F_impl_NewNetwork),((15,[]),F_laws_eqNetwork),((28,[]),F_laws_eqWeekS),((29,[]),F_laws_eqColumnSS),((30,[]),F_laws_markWeekS),((31,[]),F_laws_markColumnSS),((32,[]),F_laws_markNetwork),((33,[]),F_laws_heldNetwork)])) (Λ:=(lookL [])) (fn:=Tryz.f6) (c:=body Tryz.f6) (env_ok _ _ _) (lookF_ok ⟨ok_laws_szWeekS,ok_laws_szColumnSS,ok_laws_toTerms,ok_laws_toWeekS,ok_laws_toColumnSS,ok_spec_NewNetwork,ok_impl_NewNetwork,ok_laws_eqNetwork,ok_laws_eqWeekS,ok_laws_eqColumnSS,ok_laws_markWeekS,ok_laws_markColumnSS,ok_laws_markNetwork,ok_laws_heldNetwork,trivial⟩) Tryz.func6 (by kernel_rfl) (by kernel_rfl) (by kernel_rfl) (by decide) (loops_eq (l':=[]) (by kernel_rfl) (loops_nil (P:=Tryz.prog) (E:=env 137 [] []) (Λ:=(lookL [])) rfl)) (fun x=>by kernel_rfl)

end Go.Proofs.YthdhgmppijjhpaaGreat.fnExactNewNetwork
