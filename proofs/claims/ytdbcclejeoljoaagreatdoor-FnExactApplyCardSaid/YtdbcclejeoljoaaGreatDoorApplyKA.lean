/- What each function that the law FnExactApply reaches promises: it computes what its plain function says. Conditions: none. -/
import Derived.Test.YtdbcclejeoljoaaGreatDoorRows
import Derived.Test.YtdbcclejeoljoaaGreatDoorApplyQD
import Derived.Test.YtdbcclejeoljoaaGreatDoorApplyS6
import Derived.Test.YtdbcclejeoljoaaGreatDoorApplyS171
import Derived.KernelRfl
set_option linter.all false
set_option maxRecDepth 100000
noncomputable section
namespace Go.Proofs.YtdbcclejeoljoaaGreatDoor.fnExactApply
open Go.R Go.Fn
abbrev t0:ar:=.cons (.int .i64) .nil
abbrev t1:ar:=.cons .bool .nil
abbrev t2:ar:=.cons (.int .u8) .nil
abbrev t3:ar:=.cons (.int .i64) (.cons (.int .i64) (.cons .bool (.cons (.int .u8) .nil)))
abbrev t4:ar:=.cons .str .nil
abbrev t5:ar:=.cons (.int .u64) .nil
abbrev t6:ar:=.cons .str (.cons (.int .u64) .nil)
abbrev t7:ar:=.cons (.int .i32) .nil
abbrev t8:ar:=.cons (.int .i64) (.cons (.int .i64) (.cons (.int .i64) (.cons (.int .i64) (.cons (.int .i64) (.cons (.int .i64) (.cons (.int .i64) (.cons (.int .i64) .nil)))))))
abbrev t9:ar:=.cons (.int .i64) (.cons (.int .i64) .nil)
abbrev t10:ar:=.cons (.int .i64) (.cons (.int .i64) (.cons (.int .i64) (.cons .bool .nil)))
abbrev t11:ar:=.cons (.int .i64) (.cons (.sl 3 t0) (.cons (.sl 304 t10) .nil))
abbrev t12:ar:=.cons (.int .i64) (.cons (.int .i64) (.cons (.int .i64) (.cons (.int .i64) (.cons (.int .i64) (.cons (.int .i64) (.cons (.int .i64) .nil))))))
abbrev t13:ar:=.cons (.sl 280 t9) (.cons (.sl 280 t9) (.cons (.sl 236 t11) (.cons (.int .i64) (.cons (.int .i64) (.cons .bool (.cons .bool (.cons .bool (.cons (.int .i64) (.cons (.int .i64) (.cons (.sl 135 t12) .nil))))))))))
abbrev t14:ar:=.cons (.sl 99 t13) .nil
abbrev t15:ar:=.cons (.int .i64) (.cons (.int .i64) (.cons (.int .i64) (.cons (.int .i64) (.cons (.int .i64) (.cons (.int .i64) (.cons (.int .i64) (.cons (.int .i64) (.cons (.int .i64) (.cons (.int .i64) (.cons (.int .i64) (.cons (.int .i64) (.cons (.int .i64) .nil))))))))))))
abbrev t16:ar:=.cons (.sl 131 t15) .nil
abbrev t17:ar:=.cons (.int .i64) (.cons (.int .i64) (.cons (.int .i64) (.cons (.int .i64) (.cons (.int .i64) (.cons (.int .i64) (.cons .bool .nil))))))
abbrev t18:ar:=.cons (.sl 31 t17) .nil
abbrev t19:ar:=.cons (.sl 135 t12) .nil
abbrev t20:ar:=.cons (.int .i64) (.cons (.int .i64) (.cons (.int .i64) (.cons (.int .i64) (.cons (.int .i64) (.cons (.int .i64) (.cons (.int .i64) (.cons (.int .i64) (.cons (.int .i64) (.cons (.int .i64) (.cons (.int .i64) (.cons (.sl 99 t13) (.cons (.sl 131 t15) (.cons (.sl 31 t17) (.cons (.sl 135 t12) .nil))))))))))))))
abbrev t21:ar:=.cons (.int .i64) (.cons (.int .i64) (.cons (.int .i64) (.cons (.int .i64) (.cons .str (.cons (.int .i64) (.cons (.int .i64) (.cons (.int .i64) (.cons (.int .i64) (.cons (.int .i64) (.cons (.int .i64) (.cons .bool .nil)))))))))))
abbrev t22:ar:=.cons (.int .i64) (.cons (.sl 3 t0) (.cons (.sl 165 t10) .nil))
abbrev t23:ar:=.cons (.sl 198 t9) (.cons (.sl 198 t9) (.cons (.sl 167 t22) (.cons (.int .i64) (.cons (.int .i64) (.cons .bool (.cons .bool (.cons .bool (.cons (.int .i64) (.cons (.int .i64) (.cons (.sl 133 t12) .nil))))))))))
abbrev t24:ar:=.cons (.sl 112 t23) .nil
abbrev t25:ar:=.cons (.sl 118 t15) .nil
abbrev t26:ar:=.cons (.sl 46 t17) .nil
abbrev t27:ar:=.cons (.sl 133 t12) .nil
abbrev t28:ar:=.cons (.int .i64) (.cons (.int .i64) (.cons (.int .i64) (.cons (.int .i64) (.cons (.int .i64) (.cons (.int .i64) (.cons (.int .i64) (.cons (.int .i64) (.cons (.int .i64) (.cons (.int .i64) (.cons (.int .i64) (.cons (.sl 112 t23) (.cons (.sl 118 t15) (.cons (.sl 46 t17) (.cons (.sl 133 t12) .nil))))))))))))))
abbrev t29:ar:=.cons (.sl 33 t21) .nil
abbrev t30:ar:=.cons (.sl 3 t0) .nil
abbrev t31:ar:=.cons (.sl 48 t21) .nil
abbrev t32:ar:=.cons (.sl 280 t9) .nil
abbrev t33:ar:=.cons (.sl 280 t9) (.cons (.sl 280 t9) .nil)
abbrev t34:ar:=.cons (.sl 236 t11) .nil
abbrev t35:ar:=.cons (.int .i64) (.cons (.int .i64) (.cons .bool (.cons .bool (.cons .bool .nil))))
abbrev t36:ar:=.cons (.sl 198 t9) .nil
abbrev t37:ar:=.cons (.sl 198 t9) (.cons (.sl 198 t9) .nil)
abbrev t38:ar:=.cons (.sl 167 t22) .nil
abbrev t39:ar:=.cons (.int .i64) (.cons (.int .i64) (.cons (.int .i64) (.cons (.int .i64) (.cons (.int .i64) .nil))))
abbrev t40:ar:=.cons (.int .i64) (.cons (.int .i64) (.cons (.int .i64) .nil))
abbrev t41:ar:=.cons (.int .i64) (.cons (.int .i64) (.cons (.int .i64) (.cons (.int .i64) .nil)))
abbrev t42:ar:=.cons (.sl 165 t10) .nil
abbrev t43:ar:=.cons (.sl 5 t2) .nil
abbrev t44:ar:=.cons .bool (.cons .bool (.cons .bool (.cons .bool .nil)))
abbrev t45:ar:=.cons (.sl 304 t10) .nil
abbrev t46:ar:=.cons (.map .i64) .nil
abbrev t47:ar:=.cons (.sl 146 t40) .nil
abbrev t48:ar:=.cons (.sl 4 t1) .nil
abbrev t49:ar:=.cons (.sl 276 t48) .nil
abbrev t50:ar:=.cons (.sl 252 t46) .nil
abbrev t51:ar:=.cons (.sl 287 t39) .nil
abbrev t52:ar:=.cons (.int .u32) .nil
abbrev t53:ar:=.cons (.sl 163 t42) .nil
abbrev F0:SL:=.val (.int .i64)
abbrev asu:SL:=.val .str
abbrev ai5:SL:=.val .bool
abbrev v0:K:=.val (.sl 280 t9)
abbrev v1:K:=.val (.int .i64)
abbrev v2:K:=.val (.sl 3 t0)
abbrev v3:K:=.val (.sl 304 t10)
abbrev v4:K:=.val (.sl 236 t11)
abbrev v5:K:=.val (.sl 135 t12)
abbrev v6:K:=.val .bool
abbrev v7:K:=.val (.sl 99 t13)
abbrev v8:K:=.val (.sl 131 t15)
abbrev v9:K:=.val (.sl 31 t17)
abbrev v10:K:=.val .str
abbrev v11:K:=.val (.sl 46 t17)
abbrev v12:K:=.val (.sl 133 t12)
abbrev v13:K:=.val (.sl 198 t9)
abbrev v14:K:=.val (.sl 165 t10)
abbrev v15:K:=.val (.sl 167 t22)
abbrev v16:K:=.val (.sl 112 t23)
abbrev v17:K:=.val (.sl 118 t15)
abbrev v18:K:=.val (.sl 146 t40)
abbrev v19:K:=.val (.sl 276 t48)
abbrev v20:K:=.val (.int .u8)
abbrev v21:K:=.val (.sl 163 t42)
abbrev v22:K:=.arr 198 t9 false
abbrev v23:K:=.arr 3 t0 false
abbrev v24:K:=.arr 165 t10 false
abbrev v25:K:=.arr 167 t22 true
abbrev v26:K:=.arr 133 t12 false
abbrev v27:K:=.arr 112 t23 true
abbrev v28:K:=.arr 118 t15 false
abbrev v29:K:=.arr 46 t17 false
abbrev v30:K:=.arr 146 t40 false
abbrev v31:K:=.arr 276 t48 true
abbrev v32:K:=.arr 4 t1 false
abbrev v33:K:=.arr 252 t46 false
abbrev v34:K:=.arr 287 t39 false
abbrev o0:Sh:=.one v0
abbrev o1:Sh:=.one v1
abbrev o2:Sh:=.one v2
abbrev o3:Sh:=.one v3
abbrev o4:Sh:=.one v4
abbrev o5:Sh:=.one v5
abbrev o6:Sh:=.one v7
abbrev o7:Sh:=.one v8
abbrev o8:Sh:=.one v9
abbrev o9:Sh:=.one v22
abbrev o10:Sh:=.one v23
abbrev o11:Sh:=.one v24
abbrev o12:Sh:=.one v25
abbrev o13:Sh:=.one v26
abbrev o14:Sh:=.one v27
abbrev o15:Sh:=.one v28
abbrev o16:Sh:=.one v29
abbrev o17:Sh:=.one v6
abbrev o18:Sh:=.one v11
abbrev o19:Sh:=.one v12
abbrev o20:Sh:=.one v13
abbrev o21:Sh:=.one v15
abbrev o22:Sh:=.one v14
abbrev o23:Sh:=.one v30
abbrev o24:Sh:=.one v18
abbrev o25:Sh:=.one v31
abbrev o26:Sh:=.one v32
abbrev o27:Sh:=.one v19
abbrev o28:Sh:=.one v20
abbrev o29:Sh:=.one v10
abbrev o30:Sh:=.one v17
abbrev o31:Sh:=.one v16
abbrev o32:Sh:=.one v33
abbrev o33:Sh:=.one v34
abbrev o34:Sh:=.one v21
abbrev a0:Sh:=.agg [v1,v2,v3]
abbrev a1:Sh:=.agg [v0,v0,v4,v1,v1,v6,v6,v6,v1,v1,v5]
abbrev a2:Sh:=.agg [v1,v1,v1,v1,v1,v1,v1,v1,v1,v1,v1,v7,v8,v9,v5]
abbrev a3:Sh:=.agg [v1,v1,v1,v1,v10,v1,v1,v1,v1,v1,v1,v6]
abbrev a4:Sh:=.agg [v1,v1,v1,v1,v1,v1,v1,v1]
abbrev a5:Sh:=.agg [v22,v22]
abbrev a6:Sh:=.agg [v1,v1,v1,v6]
abbrev a7:Sh:=.agg [v1,v23,v24]
abbrev a8:Sh:=.agg [v1,v1,v6,v6,v6]
abbrev a9:Sh:=.agg [v1,v1,v1,v1,v1,v1,v1]
abbrev a10:Sh:=.agg [v1,v1,v1,v1,v1]
abbrev a11:Sh:=.agg [v1,v1,v1,v1,v1,v1,v1,v1,v1,v1,v1,v1,v1]
abbrev a12:Sh:=.agg [v1,v1,v1,v1,v1,v1,v6]
abbrev a13:Sh:=.agg [v1,v1,v1,v1,v1,v1,v1,v1,v1,v1,v1,v27,v28,v29,v26]
abbrev a14:Sh:=.agg [v13,v13]
abbrev a15:Sh:=.blk [v1,v1,v1,v6]
abbrev a16:Sh:=.agg [v1,v2,v14]
abbrev a17:Sh:=.agg [v1,v1,v1,v1,v1,v1,v1,v1,v1,v1,v1,v16,v17,v11,v12]
abbrev a18:Sh:=.blk [v1,v1,v1,v1,v1,v1,v1,v1,v1,v1,v1,v27,v28,v29,v26]
abbrev a19:Sh:=.agg [v1,v1,v1]
abbrev a20:Sh:=.blk [v1,v23,v24]
abbrev a21:Sh:=.blk [v1,v1,v1,v1,v1,v1,v1]
abbrev a22:Sh:=.agg [v1,v1,v1,v1]
abbrev a23:Sh:=.agg [v6,v6,v6,v6]
abbrev a24:Sh:=.blk [v1,v1,v1,v1,v1,v1,v1,v1,v1,v1,v1,v27,v17,v11,v12]
abbrev a25:Sh:=.blk [v1,v1,v1]
abbrev a26:Sh:=.agg [v13,v13,v15,v1,v1,v6,v6,v6,v1,v1,v12]
def table:List (Nat×TI):=[(2,⟨t0,false,8,[],none⟩),
 (3,⟨t0,false,8,[],none⟩),
 (4,⟨t1,false,1,[],none⟩),
 (5,⟨t2,false,1,[],none⟩),
 (6,⟨t2,false,1,[],none⟩),
 (7,⟨t3,true,24,[(0,1,false),(1,1,false),(2,1,false),(3,1,false)],none⟩),
 (8,⟨t3,true,24,[(0,1,false),(1,1,false),(2,1,false),(3,1,false)],none⟩),
 (9,⟨t4,false,16,[],none⟩),
 (10,⟨t4,false,16,[],none⟩),
 (11,⟨t4,false,16,[],none⟩),
 (12,⟨t5,false,8,[],none⟩),
 (13,⟨t6,true,24,[(0,1,false),(1,1,false)],none⟩),
 (14,⟨t6,true,24,[(0,1,false),(1,1,false)],none⟩),
 (21,⟨t7,false,4,[],none⟩),
 (22,⟨t8,true,64,[(0,1,false),(1,1,false),(2,1,false),(3,1,false),(4,1,false),(5,1,false),(6,1,false),(7,1,false)],none⟩),
 (23,⟨t8,true,64,[(0,1,false),(1,1,false),(2,1,false),(3,1,false),(4,1,false),(5,1,false),(6,1,false),(7,1,false)],none⟩),
 (24,⟨t14,false,24,[],some 99⟩),
 (25,⟨t16,false,24,[],some 131⟩),
 (26,⟨t18,false,24,[],some 31⟩),
 (27,⟨t19,false,24,[],some 135⟩),
 (28,⟨t20,true,184,[(0,8,true),(8,1,false),(9,1,false),(10,1,false),(11,1,false),(12,1,false),(13,1,false),(14,1,false)],none⟩),
 (29,⟨t20,true,184,[(0,8,true),(8,1,false),(9,1,false),(10,1,false),(11,1,false),(12,1,false),(13,1,false),(14,1,false)],none⟩),
 (30,⟨t17,true,56,[(0,1,false),(1,1,false),(2,1,false),(3,1,false),(4,1,false),(5,1,false),(6,1,false)],none⟩),
 (31,⟨t17,true,56,[(0,1,false),(1,1,false),(2,1,false),(3,1,false),(4,1,false),(5,1,false),(6,1,false)],none⟩),
 (32,⟨t21,true,104,[(0,1,false),(1,1,false),(2,1,false),(3,1,false),(4,1,false),(5,7,true)],none⟩),
 (33,⟨t21,true,104,[(0,1,false),(1,1,false),(2,1,false),(3,1,false),(4,1,false),(5,7,true)],none⟩),
 (36,⟨t8,true,64,[(0,1,false),(1,1,false),(2,1,false),(3,1,false),(4,1,false),(5,1,false),(6,1,false),(7,1,false)],none⟩),
 (37,⟨t24,false,24,[],some 112⟩),
 (38,⟨t25,false,24,[],some 118⟩),
 (39,⟨t26,false,24,[],some 46⟩),
 (40,⟨t27,false,24,[],some 133⟩),
 (41,⟨t28,true,184,[(0,8,true),(8,1,false),(9,1,false),(10,1,false),(11,1,false),(12,1,false),(13,1,false),(14,1,false)],none⟩),
 (42,⟨t28,true,184,[(0,8,true),(8,1,false),(9,1,false),(10,1,false),(11,1,false),(12,1,false),(13,1,false),(14,1,false)],none⟩),
 (46,⟨t17,true,56,[(0,1,false),(1,1,false),(2,1,false),(3,1,false),(4,1,false),(5,1,false),(6,1,false)],none⟩),
 (47,⟨t21,true,104,[(0,1,false),(1,1,false),(2,1,false),(3,1,false),(4,1,false),(5,7,true)],none⟩),
 (48,⟨t21,true,104,[(0,1,false),(1,1,false),(2,1,false),(3,1,false),(4,1,false),(5,7,true)],none⟩),
 (53,⟨t29,false,24,[],some 33⟩),
 (55,⟨t30,false,24,[],some 3⟩),
 (58,⟨t31,false,24,[],some 48⟩),
 (92,⟨t32,false,24,[],some 280⟩),
 (93,⟨t33,true,48,[(0,1,false),(1,1,false)],none⟩),
 (94,⟨t33,true,48,[(0,1,false),(1,1,false)],none⟩),
 (95,⟨t34,false,24,[],some 236⟩),
 (96,⟨t35,true,24,[(0,1,false),(1,1,false),(2,1,false),(3,1,false),(4,1,false)],none⟩),
 (97,⟨t35,true,24,[(0,1,false),(1,1,false),(2,1,false),(3,1,false),(4,1,false)],none⟩),
 (98,⟨t13,true,136,[(0,2,true),(2,1,false),(3,5,true),(8,1,false),(9,1,false),(10,1,false)],none⟩),
 (99,⟨t13,true,136,[(0,2,true),(2,1,false),(3,5,true),(8,1,false),(9,1,false),(10,1,false)],none⟩),
 (106,⟨t36,false,24,[],some 198⟩),
 (107,⟨t37,true,48,[(0,1,false),(1,1,false)],none⟩),
 (108,⟨t37,true,48,[(0,1,false),(1,1,false)],none⟩),
 (109,⟨t38,false,24,[],some 167⟩),
 (110,⟨t35,true,24,[(0,1,false),(1,1,false),(2,1,false),(3,1,false),(4,1,false)],none⟩),
 (111,⟨t23,true,136,[(0,2,true),(2,1,false),(3,5,true),(8,1,false),(9,1,false),(10,1,false)],none⟩),
 (112,⟨t23,true,136,[(0,2,true),(2,1,false),(3,5,true),(8,1,false),(9,1,false),(10,1,false)],none⟩),
 (115,⟨t39,true,40,[(0,1,false),(1,1,false),(2,1,false),(3,1,false),(4,1,false)],none⟩),
 (116,⟨t39,true,40,[(0,1,false),(1,1,false),(2,1,false),(3,1,false),(4,1,false)],none⟩),
 (117,⟨t15,true,104,[(0,1,false),(1,1,false),(2,1,false),(3,1,false),(4,1,false),(5,1,false),(6,5,true),(11,1,false),(12,1,false)],none⟩),
 (118,⟨t15,true,104,[(0,1,false),(1,1,false),(2,1,false),(3,1,false),(4,1,false),(5,1,false),(6,5,true),(11,1,false),(12,1,false)],none⟩),
 (129,⟨t39,true,40,[(0,1,false),(1,1,false),(2,1,false),(3,1,false),(4,1,false)],none⟩),
 (130,⟨t15,true,104,[(0,1,false),(1,1,false),(2,1,false),(3,1,false),(4,1,false),(5,1,false),(6,5,true),(11,1,false),(12,1,false)],none⟩),
 (131,⟨t15,true,104,[(0,1,false),(1,1,false),(2,1,false),(3,1,false),(4,1,false),(5,1,false),(6,5,true),(11,1,false),(12,1,false)],none⟩),
 (132,⟨t12,true,56,[(0,1,false),(1,1,false),(2,1,false),(3,1,false),(4,1,false),(5,1,false),(6,1,false)],none⟩),
 (133,⟨t12,true,56,[(0,1,false),(1,1,false),(2,1,false),(3,1,false),(4,1,false),(5,1,false),(6,1,false)],none⟩),
 (135,⟨t12,true,56,[(0,1,false),(1,1,false),(2,1,false),(3,1,false),(4,1,false),(5,1,false),(6,1,false)],none⟩),
 (145,⟨t40,true,24,[(0,1,false),(1,1,false),(2,1,false)],none⟩),
 (146,⟨t40,true,24,[(0,1,false),(1,1,false),(2,1,false)],none⟩),
 (153,⟨t41,true,32,[(0,1,false),(1,1,false),(2,1,false),(3,1,false)],none⟩),
 (154,⟨t41,true,32,[(0,1,false),(1,1,false),(2,1,false),(3,1,false)],none⟩),
 (163,⟨t42,false,24,[],some 165⟩),
 (164,⟨t10,true,32,[(0,1,false),(1,1,false),(2,1,false),(3,1,false)],none⟩),
 (165,⟨t10,true,32,[(0,1,false),(1,1,false),(2,1,false),(3,1,false)],none⟩),
 (166,⟨t22,true,56,[(0,1,false),(1,1,false),(2,1,false)],none⟩),
 (167,⟨t22,true,56,[(0,1,false),(1,1,false),(2,1,false)],none⟩),
 (176,⟨t43,false,24,[],some 5⟩),
 (197,⟨t9,true,16,[(0,1,false),(1,1,false)],none⟩),
 (198,⟨t9,true,16,[(0,1,false),(1,1,false)],none⟩),
 (214,⟨t44,true,4,[(0,1,false),(1,1,false),(2,1,false),(3,1,false)],none⟩),
 (215,⟨t44,true,4,[(0,1,false),(1,1,false),(2,1,false),(3,1,false)],none⟩),
 (234,⟨t45,false,24,[],some 304⟩),
 (235,⟨t11,true,56,[(0,1,false),(1,1,false),(2,1,false)],none⟩),
 (236,⟨t11,true,56,[(0,1,false),(1,1,false),(2,1,false)],none⟩),
 (252,⟨t46,false,8,[],none⟩),
 (257,⟨t47,false,24,[],some 146⟩),
 (267,⟨t5,false,8,[],none⟩),
 (272,⟨t49,false,24,[],some 276⟩),
 (276,⟨t48,false,24,[],some 4⟩),
 (280,⟨t9,true,16,[(0,1,false),(1,1,false)],none⟩),
 (282,⟨t50,false,24,[],some 252⟩),
 (284,⟨t51,false,24,[],some 287⟩),
 (286,⟨t39,true,40,[(0,3,true),(3,1,false),(4,1,false)],none⟩),
 (287,⟨t39,true,40,[(0,3,true),(3,1,false),(4,1,false)],none⟩),
 (290,⟨t0,false,8,[],none⟩),
 (297,⟨t52,false,4,[],none⟩),
 (299,⟨t5,false,8,[],none⟩),
 (304,⟨t10,true,32,[(0,1,false),(1,1,false),(2,1,false),(3,1,false)],none⟩),
 (307,⟨t53,false,24,[],some 163⟩),
 (309,⟨t5,false,8,[],none⟩),
 (336,⟨t2,false,1,[],none⟩),
 (337,⟨t2,false,1,[],none⟩),
 (340,⟨t7,false,4,[],none⟩),
 (341,⟨t7,false,4,[],none⟩)]
def aib:D2 Tryz.prog table=true:=by kernel_rfl
def eqs:List Nat:=[110,116,133]
def aj3:(eqs.all λt=>yc Tryz.prog (wM table) t)=true:=by kernel_rfl
def maps:List (Nat×IntKind):=[(252,.i64)]
def aiY:(maps.all λp=>D4 Tryz.prog p.1 p.2)=true:=by kernel_rfl
def env(nt:Nat)(tr dp:List Nat):Env:={ ti:=wM table,deep:=λd=>dp.any (Nat.beq d),trunc:=λd=>tr.any (Nat.beq d),ro:=λ_=>false,Fx:=λt=>eqs.any (Nat.beq t),mp:=zA maps,nt:=nt }
def bg(nt:Nat)(tr dp:List Nat):bD Tryz.prog (env nt tr dp):=E3 (by kernel_rfl) aib aj3 aiY _ rfl (λ_=>rfl) rfl
def u1{A0 B C:Type}(f:A0->C)(x:A0×B):C:=f x.1
def u2{A0 A1 B C:Type}(f:A0->A1->C)(x:A0×A1×B):C:=f x.1 x.2.1
def u3{A0 A1 A2 B C:Type}(f:A0->A1->A2->C)(x:A0×A1×A2×B):C:=f x.1 x.2.1 x.2.2.1
def u4{A0 A1 A2 A3 B C:Type}(f:A0->A1->A2->A3->C)(x:A0×A1×A2×A3×B):C:=f x.1 x.2.1 x.2.2.1 x.2.2.2.1
def u5{A0 A1 A2 A3 A4 B C:Type}(f:A0->A1->A2->A3->A4->C)(x:A0×A1×A2×A3×A4×B):C:=f x.1 x.2.1 x.2.2.1 x.2.2.2.1 x.2.2.2.2.1
def u6{A0 A1 A2 A3 A4 A5 B C:Type}(f:A0->A1->A2->A3->A4->A5->C)(x:A0×A1×A2×A3×A4×A5×B):C:=f x.1 x.2.1 x.2.2.1 x.2.2.2.1 x.2.2.2.2.1 x.2.2.2.2.2.1
def u7{A0 A1 A2 A3 A4 A5 A6 B C:Type}(f:A0->A1->A2->A3->A4->A5->A6->C)(x:A0×A1×A2×A3×A4×A5×A6×B):C:=f x.1 x.2.1 x.2.2.1 x.2.2.2.1 x.2.2.2.2.1 x.2.2.2.2.2.1 x.2.2.2.2.2.2.1
def u8{A0 A1 A2 A3 A4 A5 A6 A7 B C:Type}(f:A0->A1->A2->A3->A4->A5->A6->A7->C)(x:A0×A1×A2×A3×A4×A5×A6×A7×B):C:=f x.1 x.2.1 x.2.2.1 x.2.2.2.1 x.2.2.2.2.1 x.2.2.2.2.2.1 x.2.2.2.2.2.2.1 x.2.2.2.2.2.2.2.1
def u9{A0 A1 A2 A3 A4 A5 A6 A7 A8 B C:Type}(f:A0->A1->A2->A3->A4->A5->A6->A7->A8->C)(x:A0×A1×A2×A3×A4×A5×A6×A7×A8×B):C:=f x.1 x.2.1 x.2.2.1 x.2.2.2.1 x.2.2.2.2.1 x.2.2.2.2.2.1 x.2.2.2.2.2.2.1 x.2.2.2.2.2.2.2.1 x.2.2.2.2.2.2.2.2.1
def u10{A0 A1 A2 A3 A4 A5 A6 A7 A8 A9 B C:Type}(f:A0->A1->A2->A3->A4->A5->A6->A7->A8->A9->C)(x:A0×A1×A2×A3×A4×A5×A6×A7×A8×A9×B):C:=f x.1 x.2.1 x.2.2.1 x.2.2.2.1 x.2.2.2.2.1 x.2.2.2.2.2.1 x.2.2.2.2.2.2.1 x.2.2.2.2.2.2.2.1 x.2.2.2.2.2.2.2.2.1 x.2.2.2.2.2.2.2.2.2.1
def u11{A0 A1 A2 A3 A4 A5 A6 A7 A8 A9 Wh B C:Type}(f:A0->A1->A2->A3->A4->A5->A6->A7->A8->A9->Wh->C)(x:A0×A1×A2×A3×A4×A5×A6×A7×A8×A9×Wh×B):C:=f x.1 x.2.1 x.2.2.1 x.2.2.2.1 x.2.2.2.2.1 x.2.2.2.2.2.1 x.2.2.2.2.2.2.1 x.2.2.2.2.2.2.2.1 x.2.2.2.2.2.2.2.2.1 x.2.2.2.2.2.2.2.2.2.1 x.2.2.2.2.2.2.2.2.2.2.1
def u12{A0 A1 A2 A3 A4 A5 A6 A7 A8 A9 Wh W1 B C:Type}(f:A0->A1->A2->A3->A4->A5->A6->A7->A8->A9->Wh->W1->C)(x:A0×A1×A2×A3×A4×A5×A6×A7×A8×A9×Wh×W1×B):C:=f x.1 x.2.1 x.2.2.1 x.2.2.2.1 x.2.2.2.2.1 x.2.2.2.2.2.1 x.2.2.2.2.2.2.1 x.2.2.2.2.2.2.2.1 x.2.2.2.2.2.2.2.2.1 x.2.2.2.2.2.2.2.2.2.1 x.2.2.2.2.2.2.2.2.2.2.1 x.2.2.2.2.2.2.2.2.2.2.2.1
def u13{A0 A1 A2 A3 A4 A5 A6 A7 A8 A9 Wh W1 Yj B C:Type}(f:A0->A1->A2->A3->A4->A5->A6->A7->A8->A9->Wh->W1->Yj->C)(x:A0×A1×A2×A3×A4×A5×A6×A7×A8×A9×Wh×W1×Yj×B):C:=f x.1 x.2.1 x.2.2.1 x.2.2.2.1 x.2.2.2.2.1 x.2.2.2.2.2.1 x.2.2.2.2.2.2.1 x.2.2.2.2.2.2.2.1 x.2.2.2.2.2.2.2.2.1 x.2.2.2.2.2.2.2.2.2.1 x.2.2.2.2.2.2.2.2.2.2.1 x.2.2.2.2.2.2.2.2.2.2.2.1 x.2.2.2.2.2.2.2.2.2.2.2.2.1
def u14{A0 A1 A2 A3 A4 A5 A6 A7 A8 A9 Wh W1 Yj Y4 B C:Type}(f:A0->A1->A2->A3->A4->A5->A6->A7->A8->A9->Wh->W1->Yj->Y4->C)(x:A0×A1×A2×A3×A4×A5×A6×A7×A8×A9×Wh×W1×Yj×Y4×B):C:=f x.1 x.2.1 x.2.2.1 x.2.2.2.1 x.2.2.2.2.1 x.2.2.2.2.2.1 x.2.2.2.2.2.2.1 x.2.2.2.2.2.2.2.1 x.2.2.2.2.2.2.2.2.1 x.2.2.2.2.2.2.2.2.2.1 x.2.2.2.2.2.2.2.2.2.2.1 x.2.2.2.2.2.2.2.2.2.2.2.1 x.2.2.2.2.2.2.2.2.2.2.2.2.1 x.2.2.2.2.2.2.2.2.2.2.2.2.2.1
def u15{A0 A1 A2 A3 A4 A5 A6 A7 A8 A9 Wh W1 Yj Y4 A14 B C:Type}(f:A0->A1->A2->A3->A4->A5->A6->A7->A8->A9->Wh->W1->Yj->Y4->A14->C)(x:A0×A1×A2×A3×A4×A5×A6×A7×A8×A9×Wh×W1×Yj×Y4×A14×B):C:=f x.1 x.2.1 x.2.2.1 x.2.2.2.1 x.2.2.2.2.1 x.2.2.2.2.2.1 x.2.2.2.2.2.2.1 x.2.2.2.2.2.2.2.1 x.2.2.2.2.2.2.2.2.1 x.2.2.2.2.2.2.2.2.2.1 x.2.2.2.2.2.2.2.2.2.2.1 x.2.2.2.2.2.2.2.2.2.2.2.1 x.2.2.2.2.2.2.2.2.2.2.2.2.1 x.2.2.2.2.2.2.2.2.2.2.2.2.2.1 x.2.2.2.2.2.2.2.2.2.2.2.2.2.2.1
def u16{A0 A1 A2 A3 A4 A5 A6 A7 A8 A9 Wh W1 Yj Y4 A14 A15 B C:Type}(f:A0->A1->A2->A3->A4->A5->A6->A7->A8->A9->Wh->W1->Yj->Y4->A14->A15->C)(x:A0×A1×A2×A3×A4×A5×A6×A7×A8×A9×Wh×W1×Yj×Y4×A14×A15×B):C:=f x.1 x.2.1 x.2.2.1 x.2.2.2.1 x.2.2.2.2.1 x.2.2.2.2.2.1 x.2.2.2.2.2.2.1 x.2.2.2.2.2.2.2.1 x.2.2.2.2.2.2.2.2.1 x.2.2.2.2.2.2.2.2.2.1 x.2.2.2.2.2.2.2.2.2.2.1 x.2.2.2.2.2.2.2.2.2.2.2.1 x.2.2.2.2.2.2.2.2.2.2.2.2.1 x.2.2.2.2.2.2.2.2.2.2.2.2.2.1 x.2.2.2.2.2.2.2.2.2.2.2.2.2.2.1 x.2.2.2.2.2.2.2.2.2.2.2.2.2.2.2.1
def u18{A0 A1 A2 A3 A4 A5 A6 A7 A8 A9 Wh W1 Yj Y4 A14 A15 A16 A17 B C:Type}(f:A0->A1->A2->A3->A4->A5->A6->A7->A8->A9->Wh->W1->Yj->Y4->A14->A15->A16->A17->C)(x:A0×A1×A2×A3×A4×A5×A6×A7×A8×A9×Wh×W1×Yj×Y4×A14×A15×A16×A17×B):C:=f x.1 x.2.1 x.2.2.1 x.2.2.2.1 x.2.2.2.2.1 x.2.2.2.2.2.1 x.2.2.2.2.2.2.1 x.2.2.2.2.2.2.2.1 x.2.2.2.2.2.2.2.2.1 x.2.2.2.2.2.2.2.2.2.1 x.2.2.2.2.2.2.2.2.2.2.1 x.2.2.2.2.2.2.2.2.2.2.2.1 x.2.2.2.2.2.2.2.2.2.2.2.2.1 x.2.2.2.2.2.2.2.2.2.2.2.2.2.1 x.2.2.2.2.2.2.2.2.2.2.2.2.2.2.1 x.2.2.2.2.2.2.2.2.2.2.2.2.2.2.2.1 x.2.2.2.2.2.2.2.2.2.2.2.2.2.2.2.2.1 x.2.2.2.2.2.2.2.2.2.2.2.2.2.2.2.2.2.1
def u20{A0 A1 A2 A3 A4 A5 A6 A7 A8 A9 Wh W1 Yj Y4 A14 A15 A16 A17 A18 A19 B C:Type}(f:A0->A1->A2->A3->A4->A5->A6->A7->A8->A9->Wh->W1->Yj->Y4->A14->A15->A16->A17->A18->A19->C)(x:A0×A1×A2×A3×A4×A5×A6×A7×A8×A9×Wh×W1×Yj×Y4×A14×A15×A16×A17×A18×A19×B):C:=f x.1 x.2.1 x.2.2.1 x.2.2.2.1 x.2.2.2.2.1 x.2.2.2.2.2.1 x.2.2.2.2.2.2.1 x.2.2.2.2.2.2.2.1 x.2.2.2.2.2.2.2.2.1 x.2.2.2.2.2.2.2.2.2.1 x.2.2.2.2.2.2.2.2.2.2.1 x.2.2.2.2.2.2.2.2.2.2.2.1 x.2.2.2.2.2.2.2.2.2.2.2.2.1 x.2.2.2.2.2.2.2.2.2.2.2.2.2.1 x.2.2.2.2.2.2.2.2.2.2.2.2.2.2.1 x.2.2.2.2.2.2.2.2.2.2.2.2.2.2.2.1 x.2.2.2.2.2.2.2.2.2.2.2.2.2.2.2.2.1 x.2.2.2.2.2.2.2.2.2.2.2.2.2.2.2.2.2.1 x.2.2.2.2.2.2.2.2.2.2.2.2.2.2.2.2.2.2.1 x.2.2.2.2.2.2.2.2.2.2.2.2.2.2.2.2.2.2.2.1
def u22{A0 A1 A2 A3 A4 A5 A6 A7 A8 A9 Wh W1 Yj Y4 A14 A15 A16 A17 A18 A19 A20 A21 B C:Type}(f:A0->A1->A2->A3->A4->A5->A6->A7->A8->A9->Wh->W1->Yj->Y4->A14->A15->A16->A17->A18->A19->A20->A21->C)(x:A0×A1×A2×A3×A4×A5×A6×A7×A8×A9×Wh×W1×Yj×Y4×A14×A15×A16×A17×A18×A19×A20×A21×B):C:=f x.1 x.2.1 x.2.2.1 x.2.2.2.1 x.2.2.2.2.1 x.2.2.2.2.2.1 x.2.2.2.2.2.2.1 x.2.2.2.2.2.2.2.1 x.2.2.2.2.2.2.2.2.1 x.2.2.2.2.2.2.2.2.2.1 x.2.2.2.2.2.2.2.2.2.2.1 x.2.2.2.2.2.2.2.2.2.2.2.1 x.2.2.2.2.2.2.2.2.2.2.2.2.1 x.2.2.2.2.2.2.2.2.2.2.2.2.2.1 x.2.2.2.2.2.2.2.2.2.2.2.2.2.2.1 x.2.2.2.2.2.2.2.2.2.2.2.2.2.2.2.1 x.2.2.2.2.2.2.2.2.2.2.2.2.2.2.2.2.1 x.2.2.2.2.2.2.2.2.2.2.2.2.2.2.2.2.2.1 x.2.2.2.2.2.2.2.2.2.2.2.2.2.2.2.2.2.2.1 x.2.2.2.2.2.2.2.2.2.2.2.2.2.2.2.2.2.2.2.1 x.2.2.2.2.2.2.2.2.2.2.2.2.2.2.2.2.2.2.2.2.1 x.2.2.2.2.2.2.2.2.2.2.2.2.2.2.2.2.2.2.2.2.2.1
def u26{A0 A1 A2 A3 A4 A5 A6 A7 A8 A9 Wh W1 Yj Y4 A14 A15 A16 A17 A18 A19 A20 A21 A22 A23 A24 A25 B C:Type}(f:A0->A1->A2->A3->A4->A5->A6->A7->A8->A9->Wh->W1->Yj->Y4->A14->A15->A16->A17->A18->A19->A20->A21->A22->A23->A24->A25->C)(x:A0×A1×A2×A3×A4×A5×A6×A7×A8×A9×Wh×W1×Yj×Y4×A14×A15×A16×A17×A18×A19×A20×A21×A22×A23×A24×A25×B):C:=f x.1 x.2.1 x.2.2.1 x.2.2.2.1 x.2.2.2.2.1 x.2.2.2.2.2.1 x.2.2.2.2.2.2.1 x.2.2.2.2.2.2.2.1 x.2.2.2.2.2.2.2.2.1 x.2.2.2.2.2.2.2.2.2.1 x.2.2.2.2.2.2.2.2.2.2.1 x.2.2.2.2.2.2.2.2.2.2.2.1 x.2.2.2.2.2.2.2.2.2.2.2.2.1 x.2.2.2.2.2.2.2.2.2.2.2.2.2.1 x.2.2.2.2.2.2.2.2.2.2.2.2.2.2.1 x.2.2.2.2.2.2.2.2.2.2.2.2.2.2.2.1 x.2.2.2.2.2.2.2.2.2.2.2.2.2.2.2.2.1 x.2.2.2.2.2.2.2.2.2.2.2.2.2.2.2.2.2.1 x.2.2.2.2.2.2.2.2.2.2.2.2.2.2.2.2.2.2.1 x.2.2.2.2.2.2.2.2.2.2.2.2.2.2.2.2.2.2.2.1 x.2.2.2.2.2.2.2.2.2.2.2.2.2.2.2.2.2.2.2.2.1 x.2.2.2.2.2.2.2.2.2.2.2.2.2.2.2.2.2.2.2.2.2.1 x.2.2.2.2.2.2.2.2.2.2.2.2.2.2.2.2.2.2.2.2.2.2.1 x.2.2.2.2.2.2.2.2.2.2.2.2.2.2.2.2.2.2.2.2.2.2.2.1 x.2.2.2.2.2.2.2.2.2.2.2.2.2.2.2.2.2.2.2.2.2.2.2.2.1 x.2.2.2.2.2.2.2.2.2.2.2.2.2.2.2.2.2.2.2.2.2.2.2.2.2.1
def u27{A0 A1 A2 A3 A4 A5 A6 A7 A8 A9 Wh W1 Yj Y4 A14 A15 A16 A17 A18 A19 A20 A21 A22 A23 A24 A25 A26 B C:Type}(f:A0->A1->A2->A3->A4->A5->A6->A7->A8->A9->Wh->W1->Yj->Y4->A14->A15->A16->A17->A18->A19->A20->A21->A22->A23->A24->A25->A26->C)(x:A0×A1×A2×A3×A4×A5×A6×A7×A8×A9×Wh×W1×Yj×Y4×A14×A15×A16×A17×A18×A19×A20×A21×A22×A23×A24×A25×A26×B):C:=f x.1 x.2.1 x.2.2.1 x.2.2.2.1 x.2.2.2.2.1 x.2.2.2.2.2.1 x.2.2.2.2.2.2.1 x.2.2.2.2.2.2.2.1 x.2.2.2.2.2.2.2.2.1 x.2.2.2.2.2.2.2.2.2.1 x.2.2.2.2.2.2.2.2.2.2.1 x.2.2.2.2.2.2.2.2.2.2.2.1 x.2.2.2.2.2.2.2.2.2.2.2.2.1 x.2.2.2.2.2.2.2.2.2.2.2.2.2.1 x.2.2.2.2.2.2.2.2.2.2.2.2.2.2.1 x.2.2.2.2.2.2.2.2.2.2.2.2.2.2.2.1 x.2.2.2.2.2.2.2.2.2.2.2.2.2.2.2.2.1 x.2.2.2.2.2.2.2.2.2.2.2.2.2.2.2.2.2.1 x.2.2.2.2.2.2.2.2.2.2.2.2.2.2.2.2.2.2.1 x.2.2.2.2.2.2.2.2.2.2.2.2.2.2.2.2.2.2.2.1 x.2.2.2.2.2.2.2.2.2.2.2.2.2.2.2.2.2.2.2.2.1 x.2.2.2.2.2.2.2.2.2.2.2.2.2.2.2.2.2.2.2.2.2.1 x.2.2.2.2.2.2.2.2.2.2.2.2.2.2.2.2.2.2.2.2.2.2.1 x.2.2.2.2.2.2.2.2.2.2.2.2.2.2.2.2.2.2.2.2.2.2.2.1 x.2.2.2.2.2.2.2.2.2.2.2.2.2.2.2.2.2.2.2.2.2.2.2.2.1 x.2.2.2.2.2.2.2.2.2.2.2.2.2.2.2.2.2.2.2.2.2.2.2.2.2.1 x.2.2.2.2.2.2.2.2.2.2.2.2.2.2.2.2.2.2.2.2.2.2.2.2.2.2.1
def u28{A0 A1 A2 A3 A4 A5 A6 A7 A8 A9 Wh W1 Yj Y4 A14 A15 A16 A17 A18 A19 A20 A21 A22 A23 A24 A25 A26 A27 B C:Type}(f:A0->A1->A2->A3->A4->A5->A6->A7->A8->A9->Wh->W1->Yj->Y4->A14->A15->A16->A17->A18->A19->A20->A21->A22->A23->A24->A25->A26->A27->C)(x:A0×A1×A2×A3×A4×A5×A6×A7×A8×A9×Wh×W1×Yj×Y4×A14×A15×A16×A17×A18×A19×A20×A21×A22×A23×A24×A25×A26×A27×B):C:=f x.1 x.2.1 x.2.2.1 x.2.2.2.1 x.2.2.2.2.1 x.2.2.2.2.2.1 x.2.2.2.2.2.2.1 x.2.2.2.2.2.2.2.1 x.2.2.2.2.2.2.2.2.1 x.2.2.2.2.2.2.2.2.2.1 x.2.2.2.2.2.2.2.2.2.2.1 x.2.2.2.2.2.2.2.2.2.2.2.1 x.2.2.2.2.2.2.2.2.2.2.2.2.1 x.2.2.2.2.2.2.2.2.2.2.2.2.2.1 x.2.2.2.2.2.2.2.2.2.2.2.2.2.2.1 x.2.2.2.2.2.2.2.2.2.2.2.2.2.2.2.1 x.2.2.2.2.2.2.2.2.2.2.2.2.2.2.2.2.1 x.2.2.2.2.2.2.2.2.2.2.2.2.2.2.2.2.2.1 x.2.2.2.2.2.2.2.2.2.2.2.2.2.2.2.2.2.2.1 x.2.2.2.2.2.2.2.2.2.2.2.2.2.2.2.2.2.2.2.1 x.2.2.2.2.2.2.2.2.2.2.2.2.2.2.2.2.2.2.2.2.1 x.2.2.2.2.2.2.2.2.2.2.2.2.2.2.2.2.2.2.2.2.2.1 x.2.2.2.2.2.2.2.2.2.2.2.2.2.2.2.2.2.2.2.2.2.2.1 x.2.2.2.2.2.2.2.2.2.2.2.2.2.2.2.2.2.2.2.2.2.2.2.1 x.2.2.2.2.2.2.2.2.2.2.2.2.2.2.2.2.2.2.2.2.2.2.2.2.1 x.2.2.2.2.2.2.2.2.2.2.2.2.2.2.2.2.2.2.2.2.2.2.2.2.2.1 x.2.2.2.2.2.2.2.2.2.2.2.2.2.2.2.2.2.2.2.2.2.2.2.2.2.2.1 x.2.2.2.2.2.2.2.2.2.2.2.2.2.2.2.2.2.2.2.2.2.2.2.2.2.2.2.1
def u30{A0 A1 A2 A3 A4 A5 A6 A7 A8 A9 Wh W1 Yj Y4 A14 A15 A16 A17 A18 A19 A20 A21 A22 A23 A24 A25 A26 A27 A28 A29 B C:Type}(f:A0->A1->A2->A3->A4->A5->A6->A7->A8->A9->Wh->W1->Yj->Y4->A14->A15->A16->A17->A18->A19->A20->A21->A22->A23->A24->A25->A26->A27->A28->A29->C)(x:A0×A1×A2×A3×A4×A5×A6×A7×A8×A9×Wh×W1×Yj×Y4×A14×A15×A16×A17×A18×A19×A20×A21×A22×A23×A24×A25×A26×A27×A28×A29×B):C:=f x.1 x.2.1 x.2.2.1 x.2.2.2.1 x.2.2.2.2.1 x.2.2.2.2.2.1 x.2.2.2.2.2.2.1 x.2.2.2.2.2.2.2.1 x.2.2.2.2.2.2.2.2.1 x.2.2.2.2.2.2.2.2.2.1 x.2.2.2.2.2.2.2.2.2.2.1 x.2.2.2.2.2.2.2.2.2.2.2.1 x.2.2.2.2.2.2.2.2.2.2.2.2.1 x.2.2.2.2.2.2.2.2.2.2.2.2.2.1 x.2.2.2.2.2.2.2.2.2.2.2.2.2.2.1 x.2.2.2.2.2.2.2.2.2.2.2.2.2.2.2.1 x.2.2.2.2.2.2.2.2.2.2.2.2.2.2.2.2.1 x.2.2.2.2.2.2.2.2.2.2.2.2.2.2.2.2.2.1 x.2.2.2.2.2.2.2.2.2.2.2.2.2.2.2.2.2.2.1 x.2.2.2.2.2.2.2.2.2.2.2.2.2.2.2.2.2.2.2.1 x.2.2.2.2.2.2.2.2.2.2.2.2.2.2.2.2.2.2.2.2.1 x.2.2.2.2.2.2.2.2.2.2.2.2.2.2.2.2.2.2.2.2.2.1 x.2.2.2.2.2.2.2.2.2.2.2.2.2.2.2.2.2.2.2.2.2.2.1 x.2.2.2.2.2.2.2.2.2.2.2.2.2.2.2.2.2.2.2.2.2.2.2.1 x.2.2.2.2.2.2.2.2.2.2.2.2.2.2.2.2.2.2.2.2.2.2.2.2.1 x.2.2.2.2.2.2.2.2.2.2.2.2.2.2.2.2.2.2.2.2.2.2.2.2.2.1 x.2.2.2.2.2.2.2.2.2.2.2.2.2.2.2.2.2.2.2.2.2.2.2.2.2.2.1 x.2.2.2.2.2.2.2.2.2.2.2.2.2.2.2.2.2.2.2.2.2.2.2.2.2.2.2.1 x.2.2.2.2.2.2.2.2.2.2.2.2.2.2.2.2.2.2.2.2.2.2.2.2.2.2.2.2.1 x.2.2.2.2.2.2.2.2.2.2.2.2.2.2.2.2.2.2.2.2.2.2.2.2.2.2.2.2.2.1
def T0:List (bA×hJ):=[]
def h0:vf Tryz.prog T0:=trivial
def T1:List (bA×hJ):=((213,[]),⟨true,[o0,o1],[o1],u2 O7⟩)::T0
def h1:vf Tryz.prog T1:=fk (bg 12 [] []) h0 [] trivial Tryz.func213 (by kernel_rfl) λx=>by kernel_rfl
def T2:List (bA×hJ):=((137,[]),⟨true,[.agg [v0,v0],o1],[o1],u3 U6⟩)::T1
def h2:vf Tryz.prog T2:=fk (bg 18 [] []) h1 [] trivial Tryz.func137 (by kernel_rfl) λx=>by kernel_rfl
def T3:List (bA×hJ):=((267,[]),⟨true,[o2,o1],[o1],u2 U5⟩)::T2
def h3:vf Tryz.prog T3:=fk (bg 12 [] []) h2 [] trivial Tryz.func267 (by kernel_rfl) λx=>by kernel_rfl
def T4:List (bA×hJ):=((268,[]),⟨true,[o3,o1],[o1],u2 U4⟩)::T3
def h4:vf Tryz.prog T4:=fk (bg 12 [] []) h3 [] trivial Tryz.func268 (by kernel_rfl) λx=>by kernel_rfl
def T5:List (bA×hJ):=((214,[]),⟨true,[a0,o1],[o1],u4 KW⟩)::T4
def h5:vf Tryz.prog T5:=fk (bg 18 [] []) h4 [] trivial Tryz.func214 (by kernel_rfl) λx=>by kernel_rfl
def S6:dR:=⟨[(0,o4)],[(1,o1),(5,o1)],[(.ret,[(4,o1)]),(.exit 0,[(1,o1)])],LU,none⟩
def X7:nB Tryz.prog (env 27 [] []) (lp 0 (body Tryz.f138) 0) S6:=lk (bg _ _ _) h5 (n:=0) [] trivial (by kernel_rfl) λk x=>by kernel_rfl
def T6:List (bA×hJ):=((138,[]),⟨true,[o4,o1],[o1],u2 La⟩)::T5
def h6:vf Tryz.prog T6:=fk (bg 27 [] []) h5 [(0,S6)] ⟨X7,trivial⟩ Tryz.func138 (by kernel_rfl) λx=>by kernel_rfl
def T7:List (bA×hJ):=((26,[]),⟨true,[o5,o1],[o1],u2 Nv⟩)::T6
def h7:vf Tryz.prog T7:=fk (bg 12 [] []) h6 [] trivial Tryz.func26 (by kernel_rfl) λx=>by kernel_rfl
def T8:List (bA×hJ):=((61,[]),⟨true,[a1,o1],[o1],u12 N6⟩)::T7
def h8:vf Tryz.prog T8:=fk (bg 24 [] []) h7 [] trivial Tryz.func61 (by kernel_rfl) λx=>by kernel_rfl
def VA:dR:=⟨[(0,o6)],[(1,o1),(5,o1)],[(.ret,[(4,o1)]),(.exit 0,[(1,o1)])],ND,none⟩
def Zl:nB Tryz.prog (env 27 [] []) (lp 0 (body Tryz.f23) 0) VA:=lk (bg _ _ _) h8 (n:=0) [] trivial (by kernel_rfl) λk x=>by kernel_rfl
def T9:List (bA×hJ):=((23,[]),⟨true,[o6,o1],[o1],u2 KO⟩)::T8
def h9:vf Tryz.prog T9:=fk (bg 27 [] []) h8 [(0,VA)] ⟨Zl,trivial⟩ Tryz.func23 (by kernel_rfl) λx=>by kernel_rfl
def T10:List (bA×hJ):=((24,[]),⟨true,[o7,o1],[o1],u2 O6⟩)::T9
def h10:vf Tryz.prog T10:=fk (bg 12 [] []) h9 [] trivial Tryz.func24 (by kernel_rfl) λx=>by kernel_rfl
def T11:List (bA×hJ):=((25,[]),⟨true,[o8,o1],[o1],u2 QL⟩)::T10
def h11:vf Tryz.prog T11:=fk (bg 12 [] []) h10 [] trivial Tryz.func25 (by kernel_rfl) λx=>by kernel_rfl
def T12:List (bA×hJ):=((5,[]),⟨true,[a2,o1],[o1],u16 Lb⟩)::T11
def h12:vf Tryz.prog T12:=fk (bg 30 [] []) h11 [] trivial Tryz.func5 (by kernel_rfl) λx=>by kernel_rfl
def T13:List (bA×hJ):=((6,[]),⟨true,[a3,o1],[o1],u13 O5⟩)::T12
def h13:vf Tryz.prog T13:=fk (bg 13 [] []) h12 [] trivial Tryz.func6 (by kernel_rfl) λx=>by kernel_rfl
def T14:List (bA×hJ):=((34,[]),⟨true,[a4],[a4],u8 V8⟩)::T13
def h14:vf Tryz.prog T14:=fk (bg 29 [] []) h13 [] trivial Tryz.func34 (by kernel_rfl) λx=>by kernel_rfl
def T15:List (bA×hJ):=((283,[]),⟨true,[.agg [v1,v1]],[.agg [v1,v1]],u2 Xq⟩)::T14
def h15:vf Tryz.prog T15:=fk (bg 11 [] []) h14 [] trivial Tryz.func283 (by kernel_rfl) λx=>by kernel_rfl
def VC:dR:=⟨[(0,o0)],[(3,o9),(4,o1)],[(.exit 0,[(3,o9)])],NG,none⟩
def Zn:nB Tryz.prog (env 23 [] []) (lp 0 (body Tryz.f237) 0) VC:=lk (bg _ _ _) h15 (n:=0) [] trivial (by kernel_rfl) λk x=>by kernel_rfl
def T16:List (bA×hJ):=((237,[]),⟨true,[o0],[o9],u1 Ph⟩)::T15
def h16:vf Tryz.prog T16:=fk (bg 23 [] []) h15 [(0,VC)] ⟨Zn,trivial⟩ Tryz.func237 (by kernel_rfl) λx=>by kernel_rfl
def T17:List (bA×hJ):=((166,[]),⟨true,[.agg [v0,v0]],[a5],u2 U9⟩)::T16
def h17:vf Tryz.prog T17:=fk (bg 13 [] []) h16 [] trivial Tryz.func166 (by kernel_rfl) λx=>by kernel_rfl
def Wv:dR:=⟨[(0,o2)],[(3,o10),(4,o1)],[(.exit 0,[(3,o10)])],Pe,none⟩
def Z6:nB Tryz.prog (env 22 [] []) (lp 0 (body Tryz.f284) 0) Wv:=lk (bg _ _ _) h17 (n:=0) [] trivial (by kernel_rfl) λk x=>by kernel_rfl
def T18:List (bA×hJ):=((284,[]),⟨true,[o2],[o10],u1 U8⟩)::T17
def h18:vf Tryz.prog T18:=fk (bg 22 [] []) h17 [(0,Wv)] ⟨Z6,trivial⟩ Tryz.func284 (by kernel_rfl) λx=>by kernel_rfl
def T19:List (bA×hJ):=((307,[]),⟨true,[a6],[a6],u4 Yy⟩)::T18
def h19:vf Tryz.prog T19:=fk (bg 17 [] []) h18 [] trivial Tryz.func307 (by kernel_rfl) λx=>by kernel_rfl
def Wu:dR:=⟨[(0,o3)],[(3,o11),(4,o1)],[(.exit 0,[(3,o11)])],O9,none⟩
def Z5:nB Tryz.prog (env 23 [] []) (lp 0 (body Tryz.f285) 0) Wu:=lk (bg _ _ _) h19 (n:=0) [] trivial (by kernel_rfl) λk x=>by kernel_rfl
def T20:List (bA×hJ):=((285,[]),⟨true,[o3],[o11],u1 U7⟩)::T19
def h20:vf Tryz.prog T20:=fk (bg 23 [] []) h19 [(0,Wu)] ⟨Z5,trivial⟩ Tryz.func285 (by kernel_rfl) λx=>by kernel_rfl
def T21:List (bA×hJ):=((238,[]),⟨true,[a0],[a7],u3 Nw⟩)::T20
def h21:vf Tryz.prog T21:=fk (bg 16 [] []) h20 [] trivial Tryz.func238 (by kernel_rfl) λx=>by kernel_rfl
def S7:dR:=⟨[(0,o4)],[(3,o12),(4,o1)],[(.exit 0,[(3,o12)])],Pc,none⟩
def X8:nB Tryz.prog (env 23 [] [7]) (lp 0 (body Tryz.f167) 0) S7:=lk (bg _ _ _) h21 (n:=0) [] trivial (by kernel_rfl) λk x=>by kernel_rfl
def T22:List (bA×hJ):=((167,[]),⟨true,[o4],[o12],u1 Pb⟩)::T21
def h22:vf Tryz.prog T22:=fk (bg 23 [] [7]) h21 [(0,S7)] ⟨X8,trivial⟩ Tryz.func167 (by kernel_rfl) λx=>by kernel_rfl
def T23:List (bA×hJ):=((168,[]),⟨true,[a8],[a8],u5 Xp⟩)::T22
def h23:vf Tryz.prog T23:=fk (bg 20 [] []) h22 [] trivial Tryz.func168 (by kernel_rfl) λx=>by kernel_rfl
def T24:List (bA×hJ):=((90,[]),⟨true,[a9],[a9],u7 V7⟩)::T23
def h24:vf Tryz.prog T24:=fk (bg 26 [] []) h23 [] trivial Tryz.func90 (by kernel_rfl) λx=>by kernel_rfl
def Ut:dR:=⟨[(0,o5)],[(3,o13),(4,o1)],[(.exit 0,[(3,o13)])],MH,none⟩
def YM:nB Tryz.prog (env 23 [] []) (lp 0 (body Tryz.f38) 0) Ut:=lk (bg _ _ _) h24 (n:=0) [] trivial (by kernel_rfl) λk x=>by kernel_rfl
def T25:List (bA×hJ):=((38,[]),⟨true,[o5],[o13],u1 Nx⟩)::T24
def h25:vf Tryz.prog T25:=fk (bg 23 [] []) h24 [(0,Ut)] ⟨YM,trivial⟩ Tryz.func38 (by kernel_rfl) λx=>by kernel_rfl
def T26:List (bA×hJ):=((88,[]),⟨true,[a1],[.agg [v22,v22,v25,v1,v1,v6,v6,v6,v1,v1,v26]],u11 Rj⟩)::T25
def h26:vf Tryz.prog T26:=fk (bg 27 [] []) h25 [] trivial Tryz.func88 (by kernel_rfl) λx=>by kernel_rfl
def VB:dR:=⟨[(0,o6)],[(3,o14),(4,o1)],[(.exit 0,[(3,o14)])],RK,none⟩
def Zm:nB Tryz.prog (env 23 [] [7]) (lp 0 (body Tryz.f35) 0) VB:=lk (bg _ _ _) h26 (n:=0) [] trivial (by kernel_rfl) λk x=>by kernel_rfl
def T27:List (bA×hJ):=((35,[]),⟨true,[o6],[o14],u1 Su⟩)::T26
def h27:vf Tryz.prog T27:=fk (bg 23 [] [7]) h26 [(0,VB)] ⟨Zm,trivial⟩ Tryz.func35 (by kernel_rfl) λx=>by kernel_rfl
def T28:List (bA×hJ):=((169,[]),⟨true,[a10],[a10],u5 aav⟩)::T27
def h28:vf Tryz.prog T28:=fk (bg 20 [] []) h27 [] trivial Tryz.func169 (by kernel_rfl) λx=>by kernel_rfl
def T29:List (bA×hJ):=((89,[]),⟨true,[a11],[a11],u13 Vo⟩)::T28
def h29:vf Tryz.prog T29:=fk (bg 33 [] []) h28 [] trivial Tryz.func89 (by kernel_rfl) λx=>by kernel_rfl
def S8:dR:=⟨[(0,o7)],[(3,o15),(4,o1)],[(.exit 0,[(3,o15)])],LX,none⟩
def X9:nB Tryz.prog (env 23 [] []) (lp 0 (body Tryz.f36) 0) S8:=lk (bg _ _ _) h29 (n:=0) [] trivial (by kernel_rfl) λk x=>by kernel_rfl
def T30:List (bA×hJ):=((36,[]),⟨true,[o7],[o15],u1 Pg⟩)::T29
def h30:vf Tryz.prog T30:=fk (bg 23 [] []) h29 [(0,S8)] ⟨X9,trivial⟩ Tryz.func36 (by kernel_rfl) λx=>by kernel_rfl
def T31:List (bA×hJ):=((39,[]),⟨true,[a12],[a12],u7 Ss⟩)::T30
def h31:vf Tryz.prog T31:=fk (bg 26 [] []) h30 [] trivial Tryz.func39 (by kernel_rfl) λx=>by kernel_rfl
def Uu:dR:=⟨[(0,o8)],[(3,o16),(4,o1)],[(.exit 0,[(3,o16)])],MJ,none⟩
def YN:nB Tryz.prog (env 23 [] []) (lp 0 (body Tryz.f37) 0) Uu:=lk (bg _ _ _) h31 (n:=0) [] trivial (by kernel_rfl) λk x=>by kernel_rfl
def T32:List (bA×hJ):=((37,[]),⟨true,[o8],[o16],u1 QM⟩)::T31
def h32:vf Tryz.prog T32:=fk (bg 23 [] []) h31 [(0,Uu)] ⟨YN,trivial⟩ Tryz.func37 (by kernel_rfl) λx=>by kernel_rfl
def T33:List (bA×hJ):=((8,[]),⟨true,[a2],[a13],u15 Pf⟩)::T32
def h33:vf Tryz.prog T33:=fk (bg 34 [] []) h32 [] trivial Tryz.func8 (by kernel_rfl) λx=>by kernel_rfl
def T34:List (bA×hJ):=((9,[]),⟨true,[a3],[a3],u12 TH⟩)::T33
def h34:vf Tryz.prog T34:=fk (bg 24 [] []) h33 [] trivial Tryz.func9 (by kernel_rfl) λx=>by kernel_rfl
def T35:List (bA×hJ):=((28,[]),⟨true,[o1,o1,o1],[o17],u3 dr⟩)::T34
def h35:vf Tryz.prog T35:=fk (bg 15 [] []) h34 [] trivial Tryz.func28 (by kernel_rfl) λx=>by kernel_rfl
def T36:List (bA×hJ):=((62,[]),⟨true,[a4],[o17],u8 MT⟩)::T35
def h36:vf Tryz.prog T36:=fk (bg 41 [] []) h35 [] trivial Tryz.func62 (by kernel_rfl) λx=>by kernel_rfl
def T37:List (bA×hJ):=((63,[]),⟨true,[o1],[o17],u1 Js⟩)::T36
def h37:vf Tryz.prog T37:=fk (bg 5 [] []) h36 [] trivial Tryz.func63 (by kernel_rfl) λx=>by kernel_rfl
def T38:List (bA×hJ):=((72,[]),⟨true,[o1],[o17],u1 Jf⟩)::T37
def h38:vf Tryz.prog T38:=fk (bg 5 [] []) h37 [] trivial Tryz.func72 (by kernel_rfl) λx=>by kernel_rfl
def T39:List (bA×hJ):=((156,[]),⟨true,[o1],[o17],u1 M1⟩)::T38
def h39:vf Tryz.prog T39:=fk (bg 5 [] []) h38 [] trivial Tryz.func156 (by kernel_rfl) λx=>by kernel_rfl
def T40:List (bA×hJ):=((78,[]),⟨true,[a12],[o17],u7 Lv⟩)::T39
def h40:vf Tryz.prog T40:=fk (bg 45 [] []) h39 [] trivial Tryz.func78 (by kernel_rfl) λx=>by kernel_rfl
def UA:dR:=⟨[(0,o18)],[(3,o1)],[(.ret,[(2,o17)]),(.exit 0,[])],Qk,none⟩
def YT:nB Tryz.prog (env 19 [] []) (lp 0 (body Tryz.f64) 0) UA:=lk (bg _ _ _) h40 (n:=0) [] trivial (by kernel_rfl) λk x=>by kernel_rfl
def T41:List (bA×hJ):=((64,[]),⟨true,[o18],[o17],u1 Nz⟩)::T40
def h41:vf Tryz.prog T41:=fk (bg 19 [] []) h40 [(0,UA)] ⟨YT,trivial⟩ Tryz.func64 (by kernel_rfl) λx=>by kernel_rfl
def T42:List (bA×hJ):=((139,[]),⟨true,[a9],[o17],u7 Sy⟩)::T41
def h42:vf Tryz.prog T42:=fk (bg 36 [] []) h41 [] trivial Tryz.func139 (by kernel_rfl) λx=>by kernel_rfl
def Tb:dR:=⟨[(0,o19)],[(3,o1)],[(.ret,[(2,o17)]),(.exit 0,[])],Pt,none⟩
def Yc:nB Tryz.prog (env 73 [] []) (lp 0 (body Tryz.f65) 0) Tb:=lk (bg _ _ _) h42 (n:=0) [] trivial (by kernel_rfl) λk x=>by kernel_rfl
def T43:List (bA×hJ):=((65,[]),⟨true,[o19],[o17],u1 JD⟩)::T42
def h43:vf Tryz.prog T43:=fk (bg 73 [] []) h42 [(0,Tb)] ⟨Yc,trivial⟩ Tryz.func65 (by kernel_rfl) λx=>by kernel_rfl
def VG:dR:=⟨[(0,o20),(1,o1)],[(5,o1)],[(.ret,[(4,o17)]),(.exit 0,[])],RP,none⟩
def Zr:nB Tryz.prog (env 51 [] []) (lp 0 (body Tryz.f215) 0) VG:=lk (bg _ _ _) h43 (n:=0) [] trivial (by kernel_rfl) λk x=>by kernel_rfl
def T44:List (bA×hJ):=((215,[]),⟨true,[o20,o1],[o17],u2 PA⟩)::T43
def h44:vf Tryz.prog T44:=fk (bg 51 [] []) h43 [(0,VG)] ⟨Zr,trivial⟩ Tryz.func215 (by kernel_rfl) λx=>by kernel_rfl
def T45:List (bA×hJ):=((140,[]),⟨true,[a14],[o17],u2 KR⟩)::T44
def h45:vf Tryz.prog T45:=fk (bg 11 [] []) h44 [] trivial Tryz.func140 (by kernel_rfl) λx=>by kernel_rfl
def UC:dR:=⟨[(1,.ro t22),(3,o1),(4,o1)],[(5,a15),(6,o1)],[(.ret,[(2,o17)]),(.exit 2,[(5,a15)])],MV,none⟩
def YV:nB Tryz.prog (env 70 [] []) (lp 0 (lp 0 (body Tryz.f269) 0) 0) UC:=lk (bg _ _ _) h45 (n:=2) [] trivial (by kernel_rfl) λk x=>by kernel_rfl
def UB:dR:=⟨[(1,.ro t22)],[(3,o1),(4,o1)],[(.ret,[(2,o17)]),(.exit 0,[(3,o1)])],Qo,none⟩
def YU:nB Tryz.prog (env 70 [] []) (lp 0 (body Tryz.f269) 0) UB:=lk (bg _ _ _) h45 (n:=0) [(2,UC)] ⟨YV,trivial⟩ (by kernel_rfl) λk x=>by kernel_rfl
def T46:List (bA×hJ):=((269,[]),⟨true,[a16],[o17],u3 QW⟩)::T45
def h46:vf Tryz.prog T46:=fk (bg 70 [] []) h45 [(0,UB)] ⟨YU,trivial⟩ Tryz.func269 (by kernel_rfl) λx=>by kernel_rfl
def Uz:dR:=⟨[(1,.ro t22),(3,o1)],[(4,o17),(5,o1)],[(.exit 2,[(4,o17)])],Qi,none⟩
def YS:nB Tryz.prog (env 74 [] []) (lp 0 (lp 0 (body Tryz.f216) 0) 0) Uz:=lk (bg _ _ _) h46 (n:=2) [] trivial (by kernel_rfl) λk x=>by kernel_rfl
def Uy:dR:=⟨[(1,.ro t22)],[(3,o1)],[(.ret,[(2,o17)]),(.exit 0,[])],Qh,none⟩
def YR:nB Tryz.prog (env 74 [] []) (lp 0 (body Tryz.f216) 0) Uy:=lk (bg _ _ _) h46 (n:=0) [(2,Uz)] ⟨YS,trivial⟩ (by kernel_rfl) λk x=>by kernel_rfl
def T47:List (bA×hJ):=((216,[]),⟨true,[a16],[o17],u3 KY⟩)::T46
def h47:vf Tryz.prog T47:=fk (bg 74 [] []) h46 [(0,Uy)] ⟨YR,trivial⟩ Tryz.func216 (by kernel_rfl) λx=>by kernel_rfl
def WC:dR:=⟨[(1,o1),(2,.ro t22)],[(5,o1)],[(.ret,[(4,o1)]),(.exit 0,[])],PD,none⟩
def aad:nB Tryz.prog (env 26 [] []) (lp 0 (body Tryz.f217) 0) WC:=lk (bg _ _ _) h47 (n:=0) [] trivial (by kernel_rfl) λk x=>by kernel_rfl
def T48:List (bA×hJ):=((217,[]),⟨true,[a16,o1],[o1],u4 KS⟩)::T47
def h48:vf Tryz.prog T48:=fk (bg 26 [] []) h47 [(0,WC)] ⟨aad,trivial⟩ Tryz.func217 (by kernel_rfl) λx=>by kernel_rfl
def Wy:dR:=⟨[(0,o21),(3,o1),(4,o1)],[(5,o1)],[(.ret,[(2,o17)]),(.exit 4,[])],TR,none⟩
def Z9:nB Tryz.prog (env 52 [] []) (lp 2 (lp 0 (lp 0 (body Tryz.f141) 0) 0) 0) Wy:=lk (bg _ _ _) h48 (n:=4) [] trivial (by kernel_rfl) λk x=>by kernel_rfl
def Wx:dR:=⟨[(0,o21),(3,o1)],[(4,o1)],[(.ret,[(2,o17)]),(.exit 2,[])],TQ,none⟩
def Z8:nB Tryz.prog (env 52 [] []) (lp 0 (lp 0 (body Tryz.f141) 0) 0) Wx:=lk (bg _ _ _) h48 (n:=2) [(4,Wy)] ⟨Z9,trivial⟩ (by kernel_rfl) λk x=>by kernel_rfl
def Ww:dR:=⟨[(0,o21)],[(3,o1)],[(.ret,[(2,o17)]),(.exit 0,[])],TP,none⟩
def Z7:nB Tryz.prog (env 52 [] []) (lp 0 (body Tryz.f141) 0) Ww:=lk (bg _ _ _) h48 (n:=0) [(2,Wx)] ⟨Z8,trivial⟩ (by kernel_rfl) λk x=>by kernel_rfl
def T49:List (bA×hJ):=((141,[]),⟨true,[o21],[o17],u1 Mf⟩)::T48
def h49:vf Tryz.prog T49:=fk (bg 52 [] []) h48 [(0,Ww)] ⟨Z7,trivial⟩ Tryz.func141 (by kernel_rfl) λx=>by kernel_rfl
def T50:List (bA×hJ):=((163,[]),⟨true,[a8],[o17],u5 PG⟩)::T49
def h50:vf Tryz.prog T50:=fk (bg 9 [] []) h49 [] trivial Tryz.func163 (by kernel_rfl) λx=>by kernel_rfl
def T51:List (bA×hJ):=((142,[]),⟨true,[a8],[o17],u5 Jr⟩)::T50
def h51:vf Tryz.prog T51:=fk (bg 88 [] []) h50 [] trivial Tryz.func142 (by kernel_rfl) λx=>by kernel_rfl
def T52:List (bA×hJ):=((66,[]),⟨true,[a17,o1],[o17],u16 PL⟩)::T51
def h52:vf Tryz.prog T52:=fk (bg 95 [] []) h51 [] trivial Tryz.func66 (by kernel_rfl) λx=>by kernel_rfl
def T53:List (bA×hJ):=((143,[]),⟨true,[a17,o1],[o17],u16 Ld⟩)::T52
def h53:vf Tryz.prog T53:=fk (bg 35 [] []) h52 [] trivial Tryz.func143 (by kernel_rfl) λx=>by kernel_rfl
def T54:List (bA×hJ):=((144,[]),⟨true,[a10],[o17],u5 KQ⟩)::T53
def h54:vf Tryz.prog T54:=fk (bg 26 [] []) h53 [] trivial Tryz.func144 (by kernel_rfl) λx=>by kernel_rfl
def T55:List (bA×hJ):=((145,[]),⟨true,[a17,o1],[o1],u16 J0⟩)::T54
def h55:vf Tryz.prog T55:=fk (bg 21 [] []) h54 [] trivial Tryz.func145 (by kernel_rfl) λx=>by kernel_rfl
def T56:List (bA×hJ):=((67,[]),⟨true,[a17,o1],[o17],u16 M3⟩)::T55
def h56:vf Tryz.prog T56:=fk (bg 142 [] []) h55 [] trivial Tryz.func67 (by kernel_rfl) λx=>by kernel_rfl
def R0:dR:=⟨[(1,.ro t28),(4,o1),(5,o1),(6,o22)],[(3,o1),(7,o1)],[(.ret,[(2,o17)]),(.exit 4,[(3,o1)])],N2,none⟩
def Xx:nB Tryz.prog (env 126 [] []) (lp 2 (lp 0 (lp 0 (body Tryz.f68) 0) 0) 0) R0:=lk (bg _ _ _) h56 (n:=4) [] trivial (by kernel_rfl) λk x=>by kernel_rfl
def RZ:dR:=⟨[(1,.ro t28),(4,o1)],[(3,o1),(5,o1)],[(.ret,[(2,o17)]),(.exit 2,[(3,o1)])],N1,none⟩
def Xw:nB Tryz.prog (env 126 [] []) (lp 0 (lp 0 (body Tryz.f68) 0) 0) RZ:=lk (bg _ _ _) h56 (n:=2) [(4,R0)] ⟨Xx,trivial⟩ (by kernel_rfl) λk x=>by kernel_rfl
def RY:dR:=⟨[(1,.ro t28)],[(3,o1),(4,o1)],[(.ret,[(2,o17)]),(.exit 0,[(3,o1)])],TY,none⟩
def Xv:nB Tryz.prog (env 126 [] []) (lp 0 (body Tryz.f68) 0) RY:=lk (bg _ _ _) h56 (n:=0) [(2,RZ)] ⟨Xw,trivial⟩ (by kernel_rfl) λk x=>by kernel_rfl
def R1:dR:=⟨[(1,.ro t28)],[(3,o1),(10,o1)],[(.exit 6,[(3,o1)])],TZ,none⟩
def Xy:nB Tryz.prog (env 126 [] []) (lp 0 (body Tryz.f68) 1) R1:=lk (bg _ _ _) h56 (n:=6) [] trivial (by kernel_rfl) λk x=>by kernel_rfl
def T57:List (bA×hJ):=((68,[]),⟨true,[a17],[o17],u15 NL⟩)::T56
def h57:vf Tryz.prog T57:=fk (bg 126 [] []) h56 [(0,RY),(6,R1)] ⟨Xv,Xy,trivial⟩ Tryz.func68 (by kernel_rfl) λx=>by kernel_rfl
def VJ:dR:=⟨[(1,.ro t28)],[(3,o1),(4,o1)],[(.exit 0,[(3,o1)])],WQ,none⟩
def Zu:nB Tryz.prog (env 33 [] []) (lp 0 (body Tryz.f69) 0) VJ:=lk (bg _ _ _) h57 (n:=0) [] trivial (by kernel_rfl) λk x=>by kernel_rfl
def T58:List (bA×hJ):=((69,[]),⟨true,[a17],[o1],u15 PK⟩)::T57
def h58:vf Tryz.prog T58:=fk (bg 33 [] []) h57 [(0,VJ)] ⟨Zu,trivial⟩ Tryz.func69 (by kernel_rfl) λx=>by kernel_rfl
def Tc:dR:=⟨[(1,.ro t28)],[(3,o1)],[(.ret,[(2,o17)]),(.exit 0,[])],Ve,none⟩
def Yd:nB Tryz.prog (env 83 [] []) (lp 0 (body Tryz.f27) 0) Tc:=lk (bg _ _ _) h58 (n:=0) [] trivial (by kernel_rfl) λk x=>by kernel_rfl
def Td:dR:=⟨[(1,.ro t28)],[(4,o1)],[(.ret,[(2,o17)]),(.exit 2,[])],Vf,none⟩
def Ye:nB Tryz.prog (env 83 [] []) (lp 0 (body Tryz.f27) 1) Td:=lk (bg _ _ _) h58 (n:=2) [] trivial (by kernel_rfl) λk x=>by kernel_rfl
def T59:List (bA×hJ):=((27,[]),⟨true,[a17],[o17],u15 Pv⟩)::T58
def h59:vf Tryz.prog T59:=fk (bg 83 [] []) h58 [(0,Tc),(2,Td)] ⟨Yd,Ye,trivial⟩ Tryz.func27 (by kernel_rfl) λx=>by kernel_rfl
def T60:List (bA×hJ):=((70,[]),⟨true,[a14],[a5],u2 SM⟩)::T59
def h60:vf Tryz.prog T60:=fk (bg 12 [] []) h59 [] trivial Tryz.func70 (by kernel_rfl) λx=>by kernel_rfl
def T61:List (bA×hJ):=((146,[]),⟨true,[a16],[a7],u3 PE⟩)::T60
def h61:vf Tryz.prog T61:=fk (bg 14 [] []) h60 [] trivial Tryz.func146 (by kernel_rfl) λx=>by kernel_rfl
def Q9:dR:=⟨[(0,o21)],[(3,o12),(4,o1)],[(.exit 0,[(3,o12)])],K3,none⟩
def WX:nB Tryz.prog (env 23 [] [6,20]) (lp 0 (body Tryz.f71) 0) Q9:=lk (bg _ _ _) h61 (n:=0) [] trivial (by kernel_rfl) λk x=>by kernel_rfl
def T62:List (bA×hJ):=((71,[]),⟨true,[o21],[o12],u1 Ks⟩)::T61
def h62:vf Tryz.prog T62:=fk (bg 23 [] [6,20]) h61 [(0,Q9)] ⟨WX,trivial⟩ Tryz.func71 (by kernel_rfl) λx=>by kernel_rfl
def VI:dR:=⟨[(1,.ro t28)],[(2,a18),(3,a18),(4,o1)],[(.exit 0,[(2,a18),(3,a18)])],RR,none⟩
def Zt:nB Tryz.prog (env 62 [] [58]) (lp 0 (body Tryz.f29) 0) VI:=lk (bg _ _ _) h62 (n:=0) [] trivial (by kernel_rfl) λk x=>by kernel_rfl
def T63:List (bA×hJ):=((29,[]),⟨true,[a17],[a13],u15 SJ⟩)::T62
def h63:vf Tryz.prog T63:=fk (bg 62 [] [58]) h62 [(0,VI)] ⟨Zt,trivial⟩ Tryz.func29 (by kernel_rfl) λx=>by kernel_rfl
def T64:List (bA×hJ):=((30,[]),⟨false,[a13,a3],[a13,o1],u27 Jw⟩)::T63
def IU:vf Tryz.prog T64:=fk (bg 47 [] []) h63 [] trivial Tryz.func30 (by kernel_rfl) λx=>by kernel_rfl
def T65:List (bA×hJ):=((73,[]),⟨false,[a13,a3],[a13,o1],u27 Ua⟩)::T64
def h65:vf Tryz.prog T65:=fk (bg 37 [] []) IU [] trivial Tryz.func73 (by kernel_rfl) λx=>by kernel_rfl
def Tf:dR:=⟨[(0,o20),(1,o1)],[(5,o1)],[(.ret,[(4,o17)]),(.exit 0,[])],PC,none⟩
def Yg:nB Tryz.prog (env 28 [] []) (lp 0 (body Tryz.f270) 0) Tf:=lk (bg _ _ _) h65 (n:=0) [] trivial (by kernel_rfl) λk x=>by kernel_rfl
def T66:List (bA×hJ):=((270,[]),⟨true,[o20,o1],[o17],u2 Mh⟩)::T65
def h66:vf Tryz.prog T66:=fk (bg 28 [] []) h65 [(0,Tf)] ⟨Yg,trivial⟩ Tryz.func270 (by kernel_rfl) λx=>by kernel_rfl
def T67:List (bA×hJ):=((218,[]),⟨true,[a14,o1],[o17],u3 MU⟩)::T66
def h67:vf Tryz.prog T67:=fk (bg 17 [] []) h66 [] trivial Tryz.func218 (by kernel_rfl) λx=>by kernel_rfl
def T68:List (bA×hJ):=((147,[]),⟨true,[a14,o1],[o17],u3 N8⟩)::T67
def h68:vf Tryz.prog T68:=fk (bg 16 [] []) h67 [] trivial Tryz.func147 (by kernel_rfl) λx=>by kernel_rfl
def T69:List (bA×hJ):=((318,[]),⟨true,[a6],[o17],u4 PF⟩)::T68
def h69:vf Tryz.prog T69:=fk (bg 11 [] []) h68 [] trivial Tryz.func318 (by kernel_rfl) λx=>by kernel_rfl
def WD:dR:=⟨[(0,o2),(1,o1)],[(5,o1)],[(.ret,[(4,o17)]),(.exit 0,[])],TX,none⟩
def aae:nB Tryz.prog (env 18 [] []) (lp 0 (body Tryz.f319) 0) WD:=lk (bg _ _ _) h69 (n:=0) [] trivial (by kernel_rfl) λk x=>by kernel_rfl
def T70:List (bA×hJ):=((319,[]),⟨true,[o2,o1],[o17],u2 Vh⟩)::T69
def h70:vf Tryz.prog T70:=fk (bg 18 [] []) h69 [(0,WD)] ⟨aae,trivial⟩ Tryz.func319 (by kernel_rfl) λx=>by kernel_rfl
def WB:dR:=⟨[(1,.ro t22)],[(3,o23),(4,o1)],[(.exit 0,[(3,o23)])],Pr,none⟩
def aac:nB Tryz.prog (env 70 [] []) (lp 0 (body Tryz.f305) 0) WB:=lk (bg _ _ _) h70 (n:=0) [] trivial (by kernel_rfl) λk x=>by kernel_rfl
def T71:List (bA×hJ):=((305,[]),⟨true,[a16],[o23],u3 Vd⟩)::T70
def h71:vf Tryz.prog T71:=fk (bg 70 [] []) h70 [(0,WB)] ⟨aac,trivial⟩ Tryz.func305 (by kernel_rfl) λx=>by kernel_rfl
def Ux:dR:=⟨[(0,o21),(4,o1)],[(3,o23),(5,o23),(6,o1)],[(.exit 2,[(3,o23)])],MQ,none⟩
def YQ:nB Tryz.prog (env 45 [] []) (lp 0 (lp 0 (body Tryz.f271) 0) 0) Ux:=lk (bg _ _ _) h71 (n:=2) [] trivial (by kernel_rfl) λk x=>by kernel_rfl
def Uw:dR:=⟨[(0,o21)],[(3,o23),(4,o1)],[(.exit 0,[(3,o23)])],MP,none⟩
def YP:nB Tryz.prog (env 45 [] []) (lp 0 (body Tryz.f271) 0) Uw:=lk (bg _ _ _) h71 (n:=0) [(2,Ux)] ⟨YQ,trivial⟩ (by kernel_rfl) λk x=>by kernel_rfl
def T72:List (bA×hJ):=((271,[]),⟨true,[o21],[o23],u1 QR⟩)::T71
def h72:vf Tryz.prog T72:=fk (bg 45 [] []) h71 [(0,Uw)] ⟨YP,trivial⟩ Tryz.func271 (by kernel_rfl) λx=>by kernel_rfl
def UD:dR:=⟨[(0,o24),(1,o1)],[(5,o1),(6,o1)],[(.exit 0,[(5,o1)])],Qp,none⟩
def YW:nB Tryz.prog (env 39 [] []) (lp 0 (body Tryz.f272) 0) UD:=lk (bg _ _ _) h72 (n:=0) [] trivial (by kernel_rfl) λk x=>by kernel_rfl
def T73:List (bA×hJ):=((272,[]),⟨true,[o24,o1],[o1],u2 QX⟩)::T72
def h73:vf Tryz.prog T73:=fk (bg 39 [] []) h72 [(0,UD)] ⟨YW,trivial⟩ Tryz.func272 (by kernel_rfl) λx=>by kernel_rfl
def T74:List (bA×hJ):=((219,[]),⟨true,[o21,o1],[a19,o17],u2 Sx⟩)::T73
def h74:vf Tryz.prog T74:=fk (bg 24 [] []) h73 [] trivial Tryz.func219 (by kernel_rfl) λx=>by kernel_rfl
def W8:dR:=⟨[(0,o21),(1,o1)],[(6,o1)],[(.ret,[(4,o1),(5,o1)]),(.exit 0,[])],QT,none⟩
def aaK:nB Tryz.prog (env 36 [] []) (lp 0 (body Tryz.f220) 0) W8:=lk (bg _ _ _) h74 (n:=0) [] trivial (by kernel_rfl) λk x=>by kernel_rfl
def T75:List (bA×hJ):=((220,[]),⟨true,[o21,o1],[o1,o1],u2 NW⟩)::T74
def h75:vf Tryz.prog T75:=fk (bg 36 [] []) h74 [(0,W8)] ⟨aaK,trivial⟩ Tryz.func220 (by kernel_rfl) λx=>by kernel_rfl
def VH:dR:=⟨[(2,o1),(3,o1),(4,.ro t22),(5,.ro t40)],[(8,a20),(9,a20),(10,o1)],[(.exit 0,[(8,a20),(9,a20)])],RQ,none⟩
def Zs:nB Tryz.prog (env 86 [] []) (lp 0 (body Tryz.f221) 0) VH:=lk (bg _ _ _) h75 (n:=0) [] trivial (by kernel_rfl) λk x=>by kernel_rfl
def T76:List (bA×hJ):=((221,[]),⟨true,[a16,a19,o1,o1],[a7],u8 SH⟩)::T75
def h76:vf Tryz.prog T76:=fk (bg 86 [] []) h75 [(0,VH)] ⟨Zs,trivial⟩ Tryz.func221 (by kernel_rfl) λx=>by kernel_rfl
def T77:List (bA×hJ):=((148,[]),⟨true,[o21,o1,o1],[o12,a19,o17],u3 Pm⟩)::T76
def h77:vf Tryz.prog T77:=fk (bg 61 [] []) h76 [] trivial Tryz.func148 (by kernel_rfl) λx=>by kernel_rfl
def T78:List (bA×hJ):=((222,[]),⟨true,[a8,o1],[a8,o17],u6 Pn⟩)::T77
def h78:vf Tryz.prog T78:=fk (bg 34 [] []) h77 [] trivial Tryz.func222 (by kernel_rfl) λx=>by kernel_rfl
def T79:List (bA×hJ):=((149,[]),⟨false,[a13,o1,o1,o1],[a13],u18 tW⟩)::T78
def h79:vf Tryz.prog T79:=fk (bg 52 [] []) h78 [] trivial Tryz.func149 (by kernel_rfl) λx=>by kernel_rfl
def T80:List (bA×hJ):=((74,[]),⟨false,[a13,a3],[a13,o1],u27 KZ⟩)::T79
def h80:vf Tryz.prog T80:=fk (bg 67 [] []) h79 [] trivial Tryz.func74 (by kernel_rfl) λx=>by kernel_rfl
def T81:List (bA×hJ):=((273,[]),⟨true,[o18,o1,o1,o1,o1],[o17],u5 SI⟩)::T80
def h81:vf Tryz.prog T81:=fk (bg 29 [] []) h80 [] trivial Tryz.func273 (by kernel_rfl) λx=>by kernel_rfl
def T82:List (bA×hJ):=((276,[]),⟨true,[a12,o1,o1],[o17],u9 Pk⟩)::T81
def h82:vf Tryz.prog T82:=fk (bg 37 [] []) h81 [] trivial Tryz.func276 (by kernel_rfl) λx=>by kernel_rfl
def UG:dR:=⟨[(0,o18),(2,o1),(3,o1),(4,o1),(12,o1)],[(11,o25),(13,o26),(14,o1)],[(.exit 2,[(11,o25),(13,o26)])],Qs,none⟩
def YZ:nB Tryz.prog (env 71 [] [17,68]) (lp 0 (lp 0 (body Tryz.f274) 0) 0) UG:=lk (bg _ _ _) h82 (n:=2) [] trivial (by kernel_rfl) λk x=>by kernel_rfl
def UF:dR:=⟨[(0,o18),(2,o1),(3,o1),(4,o1)],[(11,o25),(12,o1)],[(.exit 0,[(11,o25)])],MZ,none⟩
def YY:nB Tryz.prog (env 71 [] [17,68]) (lp 0 (body Tryz.f274) 0) UF:=lk (bg _ _ _) h82 (n:=0) [(2,UG)] ⟨YZ,trivial⟩ (by kernel_rfl) λk x=>by kernel_rfl
def T83:List (bA×hJ):=((274,[]),⟨true,[o18,o1,o1,o1,o1],[o25],u5 Q0⟩)::T82
def h83:vf Tryz.prog T83:=fk (bg 71 [] [17,68]) h82 [(0,UF)] ⟨YY,trivial⟩ Tryz.func274 (by kernel_rfl) λx=>by kernel_rfl
def UH:dR:=⟨[(0,o27),(1,o1)],[(5,o1)],[(.ret,[(4,o1)]),(.exit 0,[])],M0,none⟩
def Y0:nB Tryz.prog (env 20 [] []) (lp 0 (body Tryz.f275) 0) UH:=lk (bg _ _ _) h83 (n:=0) [] trivial (by kernel_rfl) λk x=>by kernel_rfl
def T84:List (bA×hJ):=((275,[]),⟨true,[o27,o1],[o1],u2 Q1⟩)::T83
def h84:vf Tryz.prog T84:=fk (bg 20 [] []) h83 [(0,UH)] ⟨Y0,trivial⟩ Tryz.func275 (by kernel_rfl) λx=>by kernel_rfl
def VE:dR:=⟨[(0,o18),(3,o1),(4,o1),(16,o1)],[(12,o25),(14,o10),(15,o1),(17,o1)],[(.exit 2,[(12,o25),(14,o10),(15,o1)])],NI,none⟩
def Zp:nB Tryz.prog (env 88 [] []) (lp 0 (lp 0 (body Tryz.f223) 0) 0) VE:=lk (bg _ _ _) h84 (n:=2) [] trivial (by kernel_rfl) λk x=>by kernel_rfl
def VD:dR:=⟨[(0,o18),(3,o1),(4,o1)],[(12,o25),(14,o10),(15,o1),(16,o1)],[(.exit 0,[(14,o10)])],NH,none⟩
def Zo:nB Tryz.prog (env 88 [] []) (lp 0 (body Tryz.f223) 0) VD:=lk (bg _ _ _) h84 (n:=0) [(2,VE)] ⟨Zp,trivial⟩ (by kernel_rfl) λk x=>by kernel_rfl
def T85:List (bA×hJ):=((223,[]),⟨true,[o18,o1,o1,o1,o1],[o10,o17],u5 We⟩)::T84
def h85:vf Tryz.prog T85:=fk (bg 88 [] []) h84 [(0,VD)] ⟨Zo,trivial⟩ Tryz.func223 (by kernel_rfl) λx=>by kernel_rfl
def T86:List (bA×hJ):=((150,[]),⟨true,[o18,o1,o1,o1,o1],[o17],u5 Pu⟩)::T85
def h86:vf Tryz.prog T86:=fk (bg 23 [] []) h85 [] trivial Tryz.func150 (by kernel_rfl) λx=>by kernel_rfl
def Tg:dR:=⟨[(6,o1),(7,o1)],[(5,.blk [v13,v13,v15,v1,v1,v6,v6,v6,v1,v1,v12]),(8,o1)],[(.ret,[(4,o17)]),(.exit 0,[])],PJ,none⟩
def Yh:nB Tryz.prog (env 60 [] []) (lp 0 (body Tryz.f151) 0) Tg:=lk (bg _ _ _) h86 (n:=0) [] trivial (by kernel_rfl) λk x=>by kernel_rfl
def T87:List (bA×hJ):=((151,[]),⟨true,[a17,o1],[o17],u16 Mj⟩)::T86
def h87:vf Tryz.prog T87:=fk (bg 60 [] []) h86 [(0,Tg)] ⟨Yh,trivial⟩ Tryz.func151 (by kernel_rfl) λx=>by kernel_rfl
def T88:List (bA×hJ):=((320,[]),⟨true,[o1],[o28],u1 Mg⟩)::T87
def h88:vf Tryz.prog T88:=fk (bg 12 [] []) h87 [] trivial Tryz.func320 (by kernel_rfl) λx=>by kernel_rfl
def Ta:dR:=⟨[(3,o17)],[(0,o1),(4,o29)],[(.exit 0,[(4,o29)])],LZ,none⟩
def Yb:nB Tryz.prog (env 30 [] []) (lp 0 (body Tryz.f306) 0) Ta:=lk (bg _ _ _) h88 (n:=0) [] trivial (by kernel_rfl) λk x=>by kernel_rfl
def T89:List (bA×hJ):=((306,[]),⟨true,[o1],[o29],u1 Ky⟩)::T88
def h89:vf Tryz.prog T89:=fk (bg 30 [] []) h88 [(0,Ta)] ⟨Yb,trivial⟩ Tryz.func306 (by kernel_rfl) λx=>by kernel_rfl
def Wz:dR:=⟨[],[(5,o1),(6,o1)],[(.exit 0,[(5,o1)])],Pp,none⟩
def aaa:nB Tryz.prog (env 37 [] []) (lp 0 (body Tryz.f277) 0) Wz:=lk (bg _ _ _) h89 (n:=0) [] trivial (by kernel_rfl) λk x=>by kernel_rfl
def WA:dR:=⟨[],[(7,o29)],[(.exit 2,[(7,o29)])],TT,none⟩
def aab:nB Tryz.prog (env 37 [] []) (lp 0 (body Tryz.f277) 1) WA:=lk (bg _ _ _) h89 (n:=2) [] trivial (by kernel_rfl) λk x=>by kernel_rfl
def T90:List (bA×hJ):=((277,[]),⟨true,[o1,o1],[o29],u2 Ro⟩)::T89
def h90:vf Tryz.prog T90:=fk (bg 37 [] []) h89 [(0,Wz),(2,WA)] ⟨aaa,aab,trivial⟩ Tryz.func277 (by kernel_rfl) λx=>by kernel_rfl
def VF:dR:=⟨[(1,o29),(2,.ro t39)],[(5,o1)],[(.ret,[(4,o1)]),(.exit 0,[])],RN,none⟩
def Zq:nB Tryz.prog (env 30 [] []) (lp 0 (body Tryz.f224) 0) VF:=lk (bg _ _ _) h90 (n:=0) [] trivial (by kernel_rfl) λk x=>by kernel_rfl
def T91:List (bA×hJ):=((224,[]),⟨true,[a10,o29],[o1],u6 SA⟩)::T90
def h91:vf Tryz.prog T91:=fk (bg 30 [] []) h90 [(0,VF)] ⟨Zq,trivial⟩ Tryz.func224 (by kernel_rfl) λx=>by kernel_rfl
def UE:dR:=⟨[(0,o1)],[(3,o1),(4,o1)],[(.exit 0,[(3,o1)])],Qq,none⟩
def YX:nB Tryz.prog (env 13 [] []) (lp 0 (body Tryz.f278) 0) UE:=lk (bg _ _ _) h91 (n:=0) [] trivial (by kernel_rfl) λk x=>by kernel_rfl
def T92:List (bA×hJ):=((278,[]),⟨true,[o1],[o1],u1 QZ⟩)::T91
def h92:vf Tryz.prog T92:=fk (bg 13 [] []) h91 [(0,UE)] ⟨YX,trivial⟩ Tryz.func278 (by kernel_rfl) λx=>by kernel_rfl
def T93:List (bA×hJ):=((225,[]),⟨true,[a10,o1,o1],[a10,o1],u7 QY⟩)::T92
def h93:vf Tryz.prog T93:=fk (bg 36 [] []) h92 [] trivial Tryz.func225 (by kernel_rfl) λx=>by kernel_rfl
def T94:List (bA×hJ):=((152,[]),⟨true,[a10,o29,o1],[a10,o1],u7 ZE⟩)::T93
def h94:vf Tryz.prog T94:=fk (bg 42 [] []) h93 [] trivial Tryz.func152 (by kernel_rfl) λx=>by kernel_rfl
def T95:List (bA×hJ):=((75,[]),⟨false,[a13,a3],[a13,o1],u27 Kk⟩)::T94
def h95:vf Tryz.prog T95:=fk (bg 88 [] []) h94 [] trivial Tryz.func75 (by kernel_rfl) λx=>by kernel_rfl
def S9:dR:=⟨[(3,.ro t37)],[(2,o1),(8,o1)],[(.exit 0,[(2,o1),(8,o1)])],LY,none⟩
def Ya:nB Tryz.prog (env 34 [] []) (lp 0 (body Tryz.f279) 0) S9:=lk (bg _ _ _) h95 (n:=0) [] trivial (by kernel_rfl) λk x=>by kernel_rfl
def T96:List (bA×hJ):=((279,[]),⟨true,[a14,o1,o1],[o1,o17],u4 J8⟩)::T95
def h96:vf Tryz.prog T96:=fk (bg 34 [] []) h95 [(0,S9)] ⟨Ya,trivial⟩ Tryz.func279 (by kernel_rfl) λx=>by kernel_rfl
def T97:List (bA×hJ):=((226,[]),⟨true,[a14,a4,o1,o1],[o1,o17],u12 KJ⟩)::T96
def h97:vf Tryz.prog T97:=fk (bg 37 [] []) h96 [] trivial Tryz.func226 (by kernel_rfl) λx=>by kernel_rfl
def T98:List (bA×hJ):=((153,[]),⟨true,[a14,a4,o1,o1,o1],[o17],u13 Pz⟩)::T97
def h98:vf Tryz.prog T98:=fk (bg 28 [] []) h97 [] trivial Tryz.func153 (by kernel_rfl) λx=>by kernel_rfl
def T99:List (bA×hJ):=((76,[]),⟨false,[a13,a3],[a13,o1],u27 Kp⟩)::T98
def h99:vf Tryz.prog T99:=fk (bg 63 [] []) h98 [] trivial Tryz.func76 (by kernel_rfl) λx=>by kernel_rfl
def akJ:List (bA×hJ):=((227,[]),⟨true,[a14,a4,o1,o1],[o17],u12 Wf⟩)::T99
def apX:vf Tryz.prog akJ:=fk (bg 21 [] []) h99 [] trivial Tryz.func227 (by kernel_rfl) λx=>by kernel_rfl
def akK:List (bA×hJ):=((154,[]),⟨true,[a14,a4,o1,o1,o1],[o17],u13 Po⟩)::akJ
def apY:vf Tryz.prog akK:=fk (bg 43 [] []) apX [] trivial Tryz.func154 (by kernel_rfl) λx=>by kernel_rfl
def akL:List (bA×hJ):=((233,[]),⟨true,[a9,a9],[o17],u14 Mi⟩)::akK
def aob:vf Tryz.prog akL:=fk (bg 24 [] []) apY [] trivial Tryz.func233 (by kernel_rfl) λx=>by kernel_rfl
def Og:dR:=⟨[(0,o19),(1,o19)],[(6,o13),(7,o1),(8,o1)],[(.ret,[(4,o13),(5,o17)]),(.exit 0,[(6,o13)])],LP,none⟩
def VP:nB Tryz.prog (env 109 [] []) (lp 0 (body Tryz.f161) 0) Og:=lk (bg _ _ _) aob (n:=0) [] trivial (by kernel_rfl) λk x=>by kernel_rfl
def akM:List (bA×hJ):=((161,[]),⟨true,[o19,o19],[o13,o17],u2 Kz⟩)::akL
def aoc:vf Tryz.prog akM:=fk (bg 109 [] []) aob [(0,Og)] ⟨VP,trivial⟩ Tryz.func161 (by kernel_rfl) λx=>by kernel_rfl
def Ra:dR:=⟨[(1,.ro t28)],[(4,o13),(5,o1)],[(.ret,[(2,o13),(3,o17)]),(.exit 0,[(4,o13)])],K4,none⟩
def WY:nB Tryz.prog (env 34 [] []) (lp 0 (body Tryz.f228) 0) Ra:=lk (bg _ _ _) aoc (n:=0) [] trivial (by kernel_rfl) λk x=>by kernel_rfl
def akN:List (bA×hJ):=((228,[]),⟨true,[a17],[o13,o17],u15 M2⟩)::akM
def aod:vf Tryz.prog akN:=fk (bg 34 [] []) aoc [(0,Ra)] ⟨WY,trivial⟩ Tryz.func228 (by kernel_rfl) λx=>by kernel_rfl
def Uv:dR:=⟨[(0,o19),(1,o1)],[(14,o13),(15,a21),(16,o1),(17,o1)],[(.exit 0,[(14,o13),(15,a21),(16,o1)])],Qf,none⟩
def YO:nB Tryz.prog (env 88 [] []) (lp 0 (body Tryz.f229) 0) Uv:=lk (bg _ _ _) aod (n:=0) [] trivial (by kernel_rfl) λk x=>by kernel_rfl
def akO:List (bA×hJ):=((229,[]),⟨true,[o19,o1,o1,o1,o1,o1],[o13,o17],u6 QO⟩)::akN
def apZ:vf Tryz.prog akO:=fk (bg 88 [] []) aod [(0,Uv)] ⟨YO,trivial⟩ Tryz.func229 (by kernel_rfl) λx=>by kernel_rfl
def akP:List (bA×hJ):=((155,[]),⟨false,[a13,o1,o1,o1,o1,o1],[a13,o17],u20 JE⟩)::akO
def ap0:vf Tryz.prog akP:=fk (bg 54 [] []) apZ [] trivial Tryz.func155 (by kernel_rfl) λx=>by kernel_rfl
def akQ:List (bA×hJ):=((77,[]),⟨false,[a13,a3],[a13,o1],u27 JR⟩)::akP
def ap1:vf Tryz.prog akQ:=fk (bg 77 [] []) ap0 [] trivial Tryz.func77 (by kernel_rfl) λx=>by kernel_rfl
def akR:List (bA×hJ):=((31,[]),⟨false,[a13,a3],[a13,o1],u27 qW⟩)::akQ
def ap2:vf Tryz.prog akR:=fk (bg 66 [] []) ap1 [] trivial Tryz.func31 (by kernel_rfl) λx=>by kernel_rfl
def akS:List (bA×hJ):=((32,[]),⟨false,[a13,a3],[a13,o1],u27 Jl⟩)::akR
def ap3:vf Tryz.prog akS:=fk (bg 103 [] []) ap2 [] trivial Tryz.func32 (by kernel_rfl) λx=>by kernel_rfl
def akT:List (bA×hJ):=((157,[]),⟨true,[a8],[a8,o17],u5 Sw⟩)::akS
def ap4:vf Tryz.prog akT:=fk (bg 41 [] []) ap3 [] trivial Tryz.func157 (by kernel_rfl) λx=>by kernel_rfl
def akU:List (bA×hJ):=((158,[]),⟨true,[a8],[o1],u5 SF⟩)::akT
def ap5:vf Tryz.prog akU:=fk (bg 18 [] []) ap4 [] trivial Tryz.func158 (by kernel_rfl) λx=>by kernel_rfl
def akV:List (bA×hJ):=((234,[]),⟨true,[a16,o1],[a7,o17],u4 SE⟩)::akU
def ap6:vf Tryz.prog akV:=fk (bg 35 [] []) ap5 [] trivial Tryz.func234 (by kernel_rfl) λx=>by kernel_rfl
def akW:List (bA×hJ):=((164,[]),⟨true,[o21,o1],[o12,o17],u2 QS⟩)::akV
def aoe:vf Tryz.prog akW:=fk (bg 37 [] []) ap6 [] trivial Tryz.func164 (by kernel_rfl) λx=>by kernel_rfl
def Te:dR:=⟨[(2,o1),(3,.ro t37)],[(7,o1),(8,o1)],[(.exit 0,[(7,o1)])],L1,none⟩
def Yf:nB Tryz.prog (env 34 [] []) (lp 0 (body Tryz.f236) 0) Te:=lk (bg _ _ _) aoe (n:=0) [] trivial (by kernel_rfl) λk x=>by kernel_rfl
def akX:List (bA×hJ):=((236,[]),⟨true,[a14,o1,o1],[o1],u4 Py⟩)::akW
def ap7:vf Tryz.prog akX:=fk (bg 34 [] []) aoe [(0,Te)] ⟨Yf,trivial⟩ Tryz.func236 (by kernel_rfl) λx=>by kernel_rfl
def akY:List (bA×hJ):=((235,[]),⟨true,[a4,o1,o1,o1],[o1],u11 Vi⟩)::akX
def ap8:vf Tryz.prog akY:=fk (bg 39 [] []) ap7 [] trivial Tryz.func235 (by kernel_rfl) λx=>by kernel_rfl
def akZ:List (bA×hJ):=((165,[]),⟨true,[a14,a4,o1,o1,o1,o1],[o1],u14 TU⟩)::akY
def ap9:vf Tryz.prog akZ:=fk (bg 52 [] []) ap8 [] trivial Tryz.func165 (by kernel_rfl) λx=>by kernel_rfl
def ak0:List (bA×hJ):=((84,[]),⟨false,[a13,o1,o1,o1],[a13,o1],u18 Jg⟩)::akZ
def aqa:vf Tryz.prog ak0:=fk (bg 165 [] []) ap9 [] trivial Tryz.func84 (by kernel_rfl) λx=>by kernel_rfl
def ak1:List (bA×hJ):=((79,[]),⟨false,[a13,a3],[a13,o1],u27 Wg⟩)::ak0
def aqb:vf Tryz.prog ak1:=fk (bg 50 [] []) aqa [] trivial Tryz.func79 (by kernel_rfl) λx=>by kernel_rfl
def ak2:List (bA×hJ):=((160,[]),⟨true,[o1,o1],[a22],u2 Q2⟩)::ak1
def aqc:vf Tryz.prog ak2:=fk (bg 25 [] []) aqb [] trivial Tryz.func160 (by kernel_rfl) λx=>by kernel_rfl
def ak3:List (bA×hJ):=((280,[]),⟨true,[a22],[o17],u4 QV⟩)::ak2
def aqd:vf Tryz.prog ak3:=fk (bg 21 [] []) aqc [] trivial Tryz.func280 (by kernel_rfl) λx=>by kernel_rfl
def ak4:List (bA×hJ):=((281,[]),⟨true,[o17,o1],[o17],u2 Lw⟩)::ak3
def aqe:vf Tryz.prog ak4:=fk (bg 14 [] []) aqd [] trivial Tryz.func281 (by kernel_rfl) λx=>by kernel_rfl
def ak5:List (bA×hJ):=((230,[]),⟨true,[a8,a22],[a23,o17],u9 SD⟩)::ak4
def aqf:vf Tryz.prog ak5:=fk (bg 38 [] []) aqe [] trivial Tryz.func230 (by kernel_rfl) λx=>by kernel_rfl
def ak6:List (bA×hJ):=((162,[]),⟨true,[a8],[o17],u5 MX⟩)::ak5
def aqg:vf Tryz.prog ak6:=fk (bg 15 [] []) aqf [] trivial Tryz.func162 (by kernel_rfl) λx=>by kernel_rfl
def ak7:List (bA×hJ):=((282,[]),⟨true,[o1],[o1],u1 N9⟩)::ak6
def aqh:vf Tryz.prog ak7:=fk (bg 5 [] []) aqg [] trivial Tryz.func282 (by kernel_rfl) λx=>by kernel_rfl
def ak8:List (bA×hJ):=((231,[]),⟨true,[a22],[o1],u4 MS⟩)::ak7
def aqi:vf Tryz.prog ak8:=fk (bg 18 [] []) aqh [] trivial Tryz.func231 (by kernel_rfl) λx=>by kernel_rfl
def ak9:List (bA×hJ):=((232,[]),⟨true,[o1,a23],[o1],u5 SG⟩)::ak8
def aqj:vf Tryz.prog ak9:=fk (bg 34 [] []) aqi [] trivial Tryz.func232 (by kernel_rfl) λx=>by kernel_rfl
def ala:List (bA×hJ):=((159,[]),⟨true,[a8,a22],[a8,o1,o17],u9 SC⟩)::ak9
def aqk:vf Tryz.prog ala:=fk (bg 43 [] []) aqj [] trivial Tryz.func159 (by kernel_rfl) λx=>by kernel_rfl
def alb:List (bA×hJ):=((80,[]),⟨false,[a13,a3],[a13,o1],u27 NN⟩)::ala
def h128:vf Tryz.prog alb:=fk (bg 77 [] []) aqk [] trivial Tryz.func80 (by kernel_rfl) λx=>by kernel_rfl
def alc:List (bA×hJ):=((81,[]),⟨false,[a13,a3],[a13,o1],u27 SK⟩)::alb
def aof:vf Tryz.prog alc:=fk (bg 36 [] []) h128 [] trivial Tryz.func81 (by kernel_rfl) λx=>by kernel_rfl
def WE:dR:=IpR.lp ⟨⟨[(0,.agg [F0,F0,F0,F0,F0,F0,F0,F0,F0,F0,F0,.ref 12 [],.ref 13 [],.ref 14 [],.ref 15 []]),(2,.one (.ptr 4097 0)),(3,.one (.ptr 6145 0)),(4,.one (.ptr 8193 0)),(6,.one (.ptr 12289 0)),(7,.one (F0))],[(12,.arr 112 t23 true),(13,.arr 118 t15 false),(14,.arr 46 t17 false),(15,.arr 133 t12 false),(4097,.blk [F0,F0,F0,F0,F0,F0,F0,F0,F0,F0,F0,.ref 12 [],.ref 13 [],.ref 14 [],.ref 15 []]),(6145,.blk [F0,F0,F0,F0,asu,F0,F0,F0,F0,F0,F0,ai5]),(8193,.blk [F0,F0,F0,F0,F0,F0,F0,F0,F0,F0,F0,.nil 112 t23,.nil 118 t15,.nil 46 t17,.nil 133 t12]),(12289,.blk [.ref 12 [0],.ref 12 [1],.ref 12 [2],F0,F0,ai5,ai5,ai5,F0,F0,.ref 12 [10]])]⟩,[(.ret,⟨[(0,.agg [F0,F0,F0,F0,F0,F0,F0,F0,F0,F0,F0,.ref 12 [],.ref 13 [],.ref 14 [],.ref 15 []]),(4,.one (.ptr 8193 0)),(5,.one (F0))],[(12,.arr 112 t23 true),(13,.arr 118 t15 false),(14,.arr 46 t17 false),(15,.arr 133 t12 false),(8193,.blk [F0,F0,F0,F0,F0,F0,F0,F0,F0,F0,F0,.ref 12 [],.ref 13 [],.ref 14 [],.ref 15 []])]⟩),(.exit 0,⟨[(0,.agg [F0,F0,F0,F0,F0,F0,F0,F0,F0,F0,F0,.ref 12 [],.ref 13 [],.ref 14 [],.ref 15 []]),(2,.one (.ptr 4097 0)),(4,.one (.ptr 8193 0))],[(12,.arr 112 t23 true),(13,.arr 118 t15 false),(14,.arr 46 t17 false),(15,.arr 133 t12 false),(4097,.blk [F0,F0,F0,F0,F0,F0,F0,F0,F0,F0,F0,.ref 12 [],.ref 13 [],.ref 14 [],.ref 15 []]),(8193,.blk [F0,F0,F0,F0,F0,F0,F0,F0,F0,F0,F0,.nil 112 t23,.nil 118 t15,.nil 46 t17,.nil 133 t12])]⟩)],PI⟩
def aaf:nB Tryz.prog (env 102 [] []) (lp 0 (body Tryz.f82) 0) WE:=ilk (bg _ _ _) aof (n:=0) [] trivial (by kernel_rfl) λx=>by kernel_rfl
def ald:List (bA×hJ):=((82,[]),⟨false,[a13,a3],[a13,o1],u27 Oa⟩)::alc
def aql:vf Tryz.prog ald:=fk (bg 102 [] []) aof [(0,WE)] ⟨aaf,trivial⟩ Tryz.func82 (by kernel_rfl) λx=>by kernel_rfl
def ale:List (bA×hJ):=((83,[]),⟨true,[a8],[a8,o1,o17],u5 Sz⟩)::ald
def aqm:vf Tryz.prog ale:=fk (bg 17 [] []) aql [] trivial Tryz.func83 (by kernel_rfl) λx=>by kernel_rfl
def alf:List (bA×hJ):=((85,[]),⟨true,[a8],[a8,o17],u5 Vg⟩)::ale
def aqn:vf Tryz.prog alf:=fk (bg 26 [] []) aqm [] trivial Tryz.func85 (by kernel_rfl) λx=>by kernel_rfl
def alg:List (bA×hJ):=((86,[]),⟨true,[a8,o1],[a8,o17],u6 XV⟩)::alf
def aqo:vf Tryz.prog alg:=fk (bg 44 [] []) aqn [] trivial Tryz.func86 (by kernel_rfl) λx=>by kernel_rfl
def alh:List (bA×hJ):=((87,[]),⟨true,[a8],[a8],u5 QU⟩)::alg
def aqp:vf Tryz.prog alh:=fk (bg 7 [] []) aqo [] trivial Tryz.func87 (by kernel_rfl) λx=>by kernel_rfl
def ali:List (bA×hJ):=((33,[]),⟨false,[a13,a3],[a13,o1],u27 E2⟩)::alh
def aqq:vf Tryz.prog ali:=fk (bg 127 [] []) aqp [] trivial Tryz.func33 (by kernel_rfl) λx=>by kernel_rfl
def alj:List (bA×hJ):=((7,[]),⟨true,[a17,a3],[a13,o1],u27 Ke⟩)::ali
def aqr:vf Tryz.prog alj:=fk (bg 87 [] []) aqq [] trivial Tryz.func7 (by kernel_rfl) λx=>by kernel_rfl
def alk:List (bA×hJ):=((170,[]),⟨true,[o20],[o9],u1 It⟩)::alj
def aqs:vf Tryz.prog alk:=fk (bg 8 [] []) aqr [] trivial Tryz.func170 (by kernel_rfl) λx=>by kernel_rfl
def alm:List (bA×hJ):=((91,[]),⟨true,[a14],[a5],u2 QB⟩)::alk
def aqt:vf Tryz.prog alm:=fk (bg 10 [] []) aqs [] trivial Tryz.func91 (by kernel_rfl) λx=>by kernel_rfl
def aln:List (bA×hJ):=((239,[]),⟨true,[o2],[o10],u1 Kc⟩)::alm
def aqu:vf Tryz.prog aln:=fk (bg 8 [] []) aqt [] trivial Tryz.func239 (by kernel_rfl) λx=>by kernel_rfl
def alo:List (bA×hJ):=((240,[]),⟨true,[o22],[o11],u1 Jo⟩)::aln
def aqv:vf Tryz.prog alo:=fk (bg 8 [] []) aqu [] trivial Tryz.func240 (by kernel_rfl) λx=>by kernel_rfl
def alp:List (bA×hJ):=((171,[]),⟨true,[a16],[a7],u3 KH⟩)::alo
def aog:vf Tryz.prog alp:=fk (bg 12 [] []) aqv [] trivial Tryz.func171 (by kernel_rfl) λx=>by kernel_rfl
def Ul:dR:=⟨[(6,o21),(7,o1)],[(3,o12),(8,o1)],[(.exit 0,[(3,o12)])],Mu,none⟩
def YF:nB Tryz.prog (env 19 [] [15]) (lp 0 (body Tryz.f92) 0) Ul:=lk (bg _ _ _) aog (n:=0) [] trivial (by kernel_rfl) λk x=>by kernel_rfl
def alq:List (bA×hJ):=((92,[]),⟨true,[o21],[o12],u1 LH⟩)::alp
def aqw:vf Tryz.prog alq:=fk (bg 19 [] [15]) aog [(0,Ul)] ⟨YF,trivial⟩ Tryz.func92 (by kernel_rfl) λx=>by kernel_rfl
def alr:List (bA×hJ):=((93,[]),⟨true,[o19],[o13],u1 kS⟩)::alq
def aqx:vf Tryz.prog alr:=fk (bg 8 [] []) aqw [] trivial Tryz.func93 (by kernel_rfl) λx=>by kernel_rfl
def als:List (bA×hJ):=((94,[]),⟨true,[o30],[o15],u1 Ja⟩)::alr
def aqy:vf Tryz.prog als:=fk (bg 8 [] []) aqx [] trivial Tryz.func94 (by kernel_rfl) λx=>by kernel_rfl
def alu:List (bA×hJ):=((95,[]),⟨true,[o18],[o16],u1 vn⟩)::als
def aoh:vf Tryz.prog alu:=fk (bg 8 [] []) aqy [] trivial Tryz.func95 (by kernel_rfl) λx=>by kernel_rfl
def Q4:dR:=⟨[(1,.ro t28),(9,o31),(10,o1)],[(2,a18),(3,a24),(11,o1)],[(.exit 0,[(2,a18),(3,a24)])],Nb,none⟩
def WS:nB Tryz.prog (env 47 [] [30]) (lp 0 (body Tryz.f40) 0) Q4:=lk (bg _ _ _) aoh (n:=0) [] trivial (by kernel_rfl) λk x=>by kernel_rfl
def alv:List (bA×hJ):=((40,[]),⟨true,[a17],[a13],u15 Mv⟩)::alu
def aqz:vf Tryz.prog alv:=fk (bg 47 [] [30]) aoh [(0,Q4)] ⟨WS,trivial⟩ Tryz.func40 (by kernel_rfl) λx=>by kernel_rfl
def alw:List (bA×hJ):=((42,[]),⟨true,[o1,o1,o1],[o17],u3 eb⟩)::alv
def aqA:vf Tryz.prog alw:=fk (bg 15 [] []) aqz [] trivial Tryz.func42 (by kernel_rfl) λx=>by kernel_rfl
def alx:List (bA×hJ):=((96,[]),⟨true,[a4],[o17],u8 Mp⟩)::alw
def aqB:vf Tryz.prog alx:=fk (bg 41 [] []) aqA [] trivial Tryz.func96 (by kernel_rfl) λx=>by kernel_rfl
def aly:List (bA×hJ):=((97,[]),⟨true,[o1],[o17],u1 Jt⟩)::alx
def aqC:vf Tryz.prog aly:=fk (bg 5 [] []) aqB [] trivial Tryz.func97 (by kernel_rfl) λx=>by kernel_rfl
def alz:List (bA×hJ):=((98,[]),⟨true,[o1],[o17],u1 Je⟩)::aly
def aqD:vf Tryz.prog alz:=fk (bg 5 [] []) aqC [] trivial Tryz.func98 (by kernel_rfl) λx=>by kernel_rfl
def alA:List (bA×hJ):=((122,[]),⟨true,[o1],[o17],u1 Is⟩)::alz
def aqE:vf Tryz.prog alA:=fk (bg 5 [] []) aqD [] trivial Tryz.func122 (by kernel_rfl) λx=>by kernel_rfl
def alB:List (bA×hJ):=((123,[]),⟨true,[a12],[o17],u7 JY⟩)::alA
def aqF:vf Tryz.prog alB:=fk (bg 45 [] []) aqE [] trivial Tryz.func123 (by kernel_rfl) λx=>by kernel_rfl
def alC:List (bA×hJ):=((173,[]),⟨true,[a12],[o17],u7 Rs⟩)::alB
def aoi:vf Tryz.prog alC:=fk (bg 6 [] []) aqF [] trivial Tryz.func173 (by kernel_rfl) λx=>by kernel_rfl
def Jc:dR:=⟨[(0,o18),(1,.fn 173 []),(7,o1)],[(8,o1)],[(.ret,[(4,o1)]),(.exit 0,[])],zg,none⟩
def JK:nB Tryz.prog (env 19 [] []) (lp 0 (body Tryz.f241) 0) Jc:=lk (bg _ _ _) aoi (n:=0) [] trivial (by kernel_rfl) λk x=>by kernel_rfl
def alD:List (bA×hJ):=((241,[173]),⟨true,[o18,.fn 173 []],[o1],u1 D3⟩)::alC
def aqG:vf Tryz.prog alD:=fk (bg 19 [] []) aoi [(0,Jc)] ⟨JK,trivial⟩ Tryz.func241 (by kernel_rfl) λx=>by kernel_rfl
def alE:List (bA×hJ):=((172,[173]),⟨true,[o18,.fn 173 []],[o17],u1 xo⟩)::alD
def aqH:vf Tryz.prog alE:=fk (bg 9 [] []) aqG [] trivial Tryz.func172 (by kernel_rfl) λx=>by kernel_rfl
def alF:List (bA×hJ):=((99,[]),⟨true,[o18],[o17],u1 JZ⟩)::alE
def aqI:vf Tryz.prog alF:=fk (bg 11 [] []) aqH [] trivial Tryz.func99 (by kernel_rfl) λx=>by kernel_rfl
def alG:List (bA×hJ):=((174,[]),⟨true,[a9],[o17],u7 R8⟩)::alF
def aoj:vf Tryz.prog alG:=fk (bg 36 [] []) aqI [] trivial Tryz.func174 (by kernel_rfl) λx=>by kernel_rfl
def SU:dR:=⟨[(0,o19),(9,o19),(10,o1)],[(11,o1)],[(.ret,[(2,o17)]),(.exit 0,[])],Oy,none⟩
def XX:nB Tryz.prog (env 53 [] []) (lp 0 (body Tryz.f100) 0) SU:=lk (bg _ _ _) aoj (n:=0) [] trivial (by kernel_rfl) λk x=>by kernel_rfl
def alH:List (bA×hJ):=((100,[]),⟨true,[o19],[o17],u1 JB⟩)::alG
def aok:vf Tryz.prog alH:=fk (bg 53 [] []) aoj [(0,SU)] ⟨XX,trivial⟩ Tryz.func100 (by kernel_rfl) λx=>by kernel_rfl
def Vr:dR:=⟨[(0,o20),(1,o1),(10,o20),(11,o1)],[(12,o1)],[(.ret,[(4,o17)]),(.exit 0,[])],Rw,none⟩
def Zd:nB Tryz.prog (env 49 [] []) (lp 0 (body Tryz.f242) 0) Vr:=lk (bg _ _ _) aok (n:=0) [] trivial (by kernel_rfl) λk x=>by kernel_rfl
def alI:List (bA×hJ):=((242,[]),⟨true,[o20,o1],[o17],u2 OG⟩)::alH
def aqJ:vf Tryz.prog alI:=fk (bg 49 [] []) aok [(0,Vr)] ⟨Zd,trivial⟩ Tryz.func242 (by kernel_rfl) λx=>by kernel_rfl
def alJ:List (bA×hJ):=((175,[]),⟨true,[a14],[o17],u2 Kn⟩)::alI
def aiJ:vf Tryz.prog alJ:=fk (bg 11 [] []) aqJ [] trivial Tryz.func175 (by kernel_rfl) λx=>by kernel_rfl
def Ug:dR:=⟨[(1,.ro t22),(23,o2),(24,o1)],[(25,o1)],[(.ret,[(2,o17)]),(.exit 0,[])],PZ,none⟩
def YA:nB Tryz.prog (env 118 [] []) (lp 0 (body Tryz.f243) 0) Ug:=lk (bg _ _ _) aiJ (n:=0) [] trivial (by kernel_rfl) λk x=>by kernel_rfl
def Uh:dR:=⟨[(1,.ro t22),(54,o22),(55,o1)],[(5,o1),(6,.one (.mp .i64)),(7,.one (.mp .i64)),(56,o1)],[(.ret,[(2,o17)]),(.exit 2,[(5,o1),(6,.one (.mp .i64))])],P0,none⟩
def YB:nB Tryz.prog (env 118 [] []) (lp 0 (body Tryz.f243) 1) Uh:=lk (bg _ _ _) aiJ (n:=2) [] trivial (by kernel_rfl) λk x=>by kernel_rfl
def Ui:dR:=⟨[(1,.ro t22),(5,o1),(103,o2),(104,o1)],[(6,.one (.mp .i64)),(105,o1)],[(.ret,[(2,o17)]),(.exit 4,[])],P3,none⟩
def YC:nB Tryz.prog (env 118 [] []) (lp 0 (body Tryz.f243) 2) Ui:=lk (bg _ _ _) aiJ (n:=4) [] trivial (by kernel_rfl) λk x=>by kernel_rfl
def alK:List (bA×hJ):=((243,[]),⟨true,[a16],[o17],u3 LD⟩)::alJ
def aj7:vf Tryz.prog alK:=fk (bg 118 [] []) aiJ [(0,Ug),(2,Uh),(4,Ui)] ⟨YA,YB,YC,trivial⟩ Tryz.func243 (by kernel_rfl) λx=>by kernel_rfl
def Wl:dR:=⟨[(13,o21),(14,o1),(15,o1),(23,o22),(24,o1)],[(3,.one (.mp .i64)),(25,o1)],[(.ret,[(2,o17)]),(.exit 2,[(3,.one (.mp .i64))])],Tq,none⟩
def ZW:nB Tryz.prog (env 43 [] []) (lp 0 (lp 0 (body Tryz.f176) 0) 0) Wl:=lk (bg _ _ _) aj7 (n:=2) [] trivial (by kernel_rfl) λk x=>by kernel_rfl
def Wj:dR:=⟨[(13,o21),(14,o1)],[(3,.one (.mp .i64)),(15,o1)],[(.ret,[(2,o17)]),(.exit 0,[])],Tp,none⟩
def ZV:nB Tryz.prog (env 43 [] []) (lp 0 (body Tryz.f176) 0) Wj:=lk (bg _ _ _) aj7 (n:=0) [(2,Wl)] ⟨ZW,trivial⟩ (by kernel_rfl) λk x=>by kernel_rfl
def alL:List (bA×hJ):=((176,[]),⟨true,[o21],[o17],u1 KL⟩)::alK
def aqK:vf Tryz.prog alL:=fk (bg 43 [] []) aj7 [(0,Wj)] ⟨ZV,trivial⟩ Tryz.func176 (by kernel_rfl) λx=>by kernel_rfl
def alM:List (bA×hJ):=((193,[]),⟨true,[a8],[o17],u5 UQ⟩)::alL
def aqL:vf Tryz.prog alM:=fk (bg 9 [] []) aqK [] trivial Tryz.func193 (by kernel_rfl) λx=>by kernel_rfl
def alN:List (bA×hJ):=((177,[]),⟨true,[a8],[o17],u5 Gn⟩)::alM
def aqM:vf Tryz.prog alN:=fk (bg 90 [] []) aqL [] trivial Tryz.func177 (by kernel_rfl) λx=>by kernel_rfl
def alO:List (bA×hJ):=((101,[]),⟨true,[a17,o1],[o17],u16 US⟩)::alN
def aqN:vf Tryz.prog alO:=fk (bg 89 [] []) aqM [] trivial Tryz.func101 (by kernel_rfl) λx=>by kernel_rfl
def alP:List (bA×hJ):=((178,[]),⟨true,[a17,a11],[o17],u28 Lx⟩)::alO
def aqO:vf Tryz.prog alP:=fk (bg 29 [] []) aqN [] trivial Tryz.func178 (by kernel_rfl) λx=>by kernel_rfl
def alQ:List (bA×hJ):=((179,[]),⟨true,[a10],[o17],u5 Kl⟩)::alP
def aqP:vf Tryz.prog alQ:=fk (bg 26 [] []) aqO [] trivial Tryz.func179 (by kernel_rfl) λx=>by kernel_rfl
def alR:List (bA×hJ):=((180,[]),⟨true,[a17,o1],[o1],u16 Km⟩)::alQ
def aqQ:vf Tryz.prog alR:=fk (bg 21 [] []) aqP [] trivial Tryz.func180 (by kernel_rfl) λx=>by kernel_rfl
def alS:List (bA×hJ):=((102,[]),⟨true,[a17,o1],[o17],u16 QE⟩)::alR
def ahI:vf Tryz.prog alS:=fk (bg 140 [] []) aqQ [] trivial Tryz.func102 (by kernel_rfl) λx=>by kernel_rfl
def Vv:dR:=⟨[(1,.ro t28),(4,o1),(14,o31),(15,o1),(16,o1),(22,o21),(23,o1),(24,o1),(29,o22),(30,o1)],[(3,o1),(31,o1)],[(.ret,[(2,o17)]),(.exit 4,[(3,o1)])],RC,none⟩
def Zg:nB Tryz.prog (env 107 [] []) (lp 2 (lp 0 (lp 0 (body Tryz.f103) 0) 0) 0) Vv:=lk (bg _ _ _) ahI (n:=4) [] trivial (by kernel_rfl) λk x=>by kernel_rfl
def Vu:dR:=⟨[(1,.ro t28),(4,o1),(14,o31),(15,o1),(16,o1),(22,o21),(23,o1)],[(3,o1),(24,o1)],[(.ret,[(2,o17)]),(.exit 2,[(3,o1)])],RB,none⟩
def Zf:nB Tryz.prog (env 107 [] []) (lp 0 (lp 0 (body Tryz.f103) 0) 0) Vu:=lk (bg _ _ _) ahI (n:=2) [(4,Vv)] ⟨Zg,trivial⟩ (by kernel_rfl) λk x=>by kernel_rfl
def Vt:dR:=⟨[(1,.ro t28),(14,o31),(15,o1)],[(3,o1),(16,o1)],[(.ret,[(2,o17)]),(.exit 0,[(3,o1)])],WK,none⟩
def Ze:nB Tryz.prog (env 107 [] []) (lp 0 (body Tryz.f103) 0) Vt:=lk (bg _ _ _) ahI (n:=0) [(2,Vu)] ⟨Zf,trivial⟩ (by kernel_rfl) λk x=>by kernel_rfl
def Vw:dR:=⟨[(88,o30),(89,o1)],[(3,o1),(90,o1)],[(.exit 6,[(3,o1)])],WL,none⟩
def Zh:nB Tryz.prog (env 107 [] []) (lp 0 (body Tryz.f103) 1) Vw:=lk (bg _ _ _) ahI (n:=6) [] trivial (by kernel_rfl) λk x=>by kernel_rfl
def alT:List (bA×hJ):=((103,[]),⟨true,[a17],[o17],u15 Sg⟩)::alS
def aol:vf Tryz.prog alT:=fk (bg 107 [] []) ahI [(0,Vt),(6,Vw)] ⟨Ze,Zh,trivial⟩ Tryz.func103 (by kernel_rfl) λx=>by kernel_rfl
def Wp:dR:=⟨[(1,.ro t28),(7,o30),(8,o1)],[(3,o1),(9,o1)],[(.exit 0,[(3,o1)])],Xk,none⟩
def Z0:nB Tryz.prog (env 27 [] []) (lp 0 (body Tryz.f104) 0) Wp:=lk (bg _ _ _) aol (n:=0) [] trivial (by kernel_rfl) λk x=>by kernel_rfl
def alU:List (bA×hJ):=((104,[]),⟨true,[a17],[o1],u15 Rh⟩)::alT
def aj8:vf Tryz.prog alU:=fk (bg 27 [] []) aol [(0,Wp)] ⟨Z0,trivial⟩ Tryz.func104 (by kernel_rfl) λx=>by kernel_rfl
def SV:dR:=⟨[(1,.ro t28),(54,o1)],[(55,o1)],[(.ret,[(2,o17)]),(.exit 0,[])],UN,none⟩
def XY:nB Tryz.prog (env 83 [] []) (lp 0 (body Tryz.f41) 0) SV:=lk (bg _ _ _) aj8 (n:=0) [] trivial (by kernel_rfl) λk x=>by kernel_rfl
def SX:dR:=⟨[(1,.ro t28),(65,o1)],[(66,o1)],[(.ret,[(2,o17)]),(.exit 2,[])],UO,none⟩
def XZ:nB Tryz.prog (env 83 [] []) (lp 0 (body Tryz.f41) 1) SX:=lk (bg _ _ _) aj8 (n:=2) [] trivial (by kernel_rfl) λk x=>by kernel_rfl
def alV:List (bA×hJ):=((41,[]),⟨true,[a17],[o17],u15 OA⟩)::alU
def aqR:vf Tryz.prog alV:=fk (bg 83 [] []) aj8 [(0,SV),(2,SX)] ⟨XY,XZ,trivial⟩ Tryz.func41 (by kernel_rfl) λx=>by kernel_rfl
def alW:List (bA×hJ):=((244,[]),⟨true,[o18,o1,o1,o1,o1],[o17],u5 V3⟩)::alV
def aqS:vf Tryz.prog alW:=fk (bg 29 [] []) aqR [] trivial Tryz.func244 (by kernel_rfl) λx=>by kernel_rfl
def alX:List (bA×hJ):=((286,[]),⟨true,[a12,o1,o1],[o17],u9 Oq⟩)::alW
def ahJ:vf Tryz.prog alX:=fk (bg 37 [] []) aqS [] trivial Tryz.func286 (by kernel_rfl) λx=>by kernel_rfl
def W5:dR:=⟨[(0,o18),(3,o1),(4,o1),(5,o1),(18,o1),(46,o18),(47,o1)],[(14,o32),(16,o10),(17,o1),(48,o1)],[(.exit 4,[(14,o32),(16,o10),(17,o1)])],QA,none⟩
def aaH:nB Tryz.prog (env 126 [] []) (lp 2 (lp 0 (lp 0 (body Tryz.f245) 0) 0) 0) W5:=lk (bg _ _ _) ahJ (n:=4) [] trivial (by kernel_rfl) λk x=>by kernel_rfl
def W4:dR:=⟨[(0,o18),(3,o1),(4,o1),(5,o1)],[(14,o32),(16,o10),(17,o1),(18,o1)],[(.exit 2,[(16,o10)])],Qz,none⟩
def aaG:nB Tryz.prog (env 126 [] []) (lp 0 (lp 0 (body Tryz.f245) 0) 0) W4:=lk (bg _ _ _) ahJ (n:=2) [(4,W5)] ⟨aaH,trivial⟩ (by kernel_rfl) λk x=>by kernel_rfl
def W6:dR:=⟨[(0,o18),(1,o1),(3,o1),(4,o1),(5,o1),(15,o1),(91,o18),(92,o1)],[(14,o32),(21,.one (.mp .i64)),(93,o1)],[(.exit 6,[(14,o32),(21,.one (.mp .i64))])],Vn,none⟩
def aaI:nB Tryz.prog (env 126 [] []) (lp 0 (lp 0 (body Tryz.f245) 0) 1) W6:=lk (bg _ _ _) ahJ (n:=6) [] trivial (by kernel_rfl) λk x=>by kernel_rfl
def W3:dR:=⟨[(0,o18),(1,o1),(3,o1),(4,o1),(5,o1)],[(14,o32),(15,o1)],[(.ret,[(12,o10),(13,o17)]),(.exit 0,[])],LF,none⟩
def aaF:nB Tryz.prog (env 126 [] []) (lp 0 (body Tryz.f245) 0) W3:=lk (bg _ _ _) ahJ (n:=0) [(2,W4),(6,W6)] ⟨aaG,aaI,trivial⟩ (by kernel_rfl) λk x=>by kernel_rfl
def alY:List (bA×hJ):=((245,[]),⟨true,[o18,o1,o1,o1,o1,o1],[o10,o17],u6 V5⟩)::alX
def aqT:vf Tryz.prog alY:=fk (bg 126 [] []) ahJ [(0,W3)] ⟨aaF,trivial⟩ Tryz.func245 (by kernel_rfl) λx=>by kernel_rfl
def alZ:List (bA×hJ):=((181,[]),⟨true,[o18,o1,o1,o1,o1],[o10,o17],u5 V1⟩)::alY
def aqU:vf Tryz.prog alZ:=fk (bg 27 [] []) aqT [] trivial Tryz.func181 (by kernel_rfl) λx=>by kernel_rfl
def al0:List (bA×hJ):=((105,[]),⟨true,[o18,o1,o1,o1,o1],[o17],u5 Oz⟩)::alZ
def aom:vf Tryz.prog al0:=fk (bg 23 [] []) aqU [] trivial Tryz.func105 (by kernel_rfl) λx=>by kernel_rfl
def Vx:dR:=⟨[(1,o1),(7,o20),(8,o1)],[(9,o1)],[(.ret,[(4,o17)]),(.exit 0,[])],RF,none⟩
def Zi:nB Tryz.prog (env 24 [] []) (lp 0 (body Tryz.f248) 0) Vx:=lk (bg _ _ _) aom (n:=0) [] trivial (by kernel_rfl) λk x=>by kernel_rfl
def al1:List (bA×hJ):=((248,[]),⟨true,[o20,o1],[o17],u2 OJ⟩)::al0
def aqV:vf Tryz.prog al1:=fk (bg 24 [] []) aom [(0,Vx)] ⟨Zi,trivial⟩ Tryz.func248 (by kernel_rfl) λx=>by kernel_rfl
def al2:List (bA×hJ):=((185,[]),⟨true,[a14,o1],[o17],u3 N5⟩)::al1
def aon:vf Tryz.prog al2:=fk (bg 17 [] []) aqV [] trivial Tryz.func185 (by kernel_rfl) λx=>by kernel_rfl
def SS:dR:=⟨[(3,.ro t37)],[(2,o1),(8,o1)],[(.ret,[(6,o1),(7,o17)]),(.exit 0,[])],Oo,none⟩
def XW:nB Tryz.prog (env 38 [] []) (lp 0 (body Tryz.f246) 0) SS:=lk (bg _ _ _) aon (n:=0) [] trivial (by kernel_rfl) λk x=>by kernel_rfl
def al3:List (bA×hJ):=((246,[]),⟨true,[a14,o1,o1],[o1,o17],u4 K7⟩)::al2
def aqW:vf Tryz.prog al3:=fk (bg 38 [] []) aon [(0,SS)] ⟨XW,trivial⟩ Tryz.func246 (by kernel_rfl) λx=>by kernel_rfl
def al4:List (bA×hJ):=((182,[]),⟨true,[a14,a4,o1,o1],[o1,o17],u12 KG⟩)::al3
def aqX:vf Tryz.prog al4:=fk (bg 42 [] []) aqW [] trivial Tryz.func182 (by kernel_rfl) λx=>by kernel_rfl
def al5:List (bA×hJ):=((109,[]),⟨true,[a14,a4,o1,o1,o1],[o17],u13 OE⟩)::al4
def aqY:vf Tryz.prog al5:=fk (bg 31 [] []) aqX [] trivial Tryz.func109 (by kernel_rfl) λx=>by kernel_rfl
def al6:List (bA×hJ):=((106,[]),⟨true,[a14,a4,o1,o1,o1],[o17],u13 Ov⟩)::al5
def aqZ:vf Tryz.prog al6:=fk (bg 54 [] []) aqY [] trivial Tryz.func106 (by kernel_rfl) λx=>by kernel_rfl
def al7:List (bA×hJ):=((108,[]),⟨true,[a14,o1],[o17],u3 UM⟩)::al6
def aoo:vf Tryz.prog al7:=fk (bg 16 [] []) aqZ [] trivial Tryz.func108 (by kernel_rfl) λx=>by kernel_rfl
def LQ:dR:=⟨[(0,o2),(1,o1),(7,o1)],[(8,o1)],[(.ret,[(4,o1)]),(.exit 0,[])],Kx,none⟩
def RL:nB Tryz.prog (env 19 [] []) (lp 0 (body Tryz.f322) 0) LQ:=lk (bg _ _ _) aoo (n:=0) [] trivial (by kernel_rfl) λk x=>by kernel_rfl
def al8:List (bA×hJ):=((322,[]),⟨true,[o2,o1],[o1],u2 Lc⟩)::al7
def aq0:vf Tryz.prog al8:=fk (bg 19 [] []) aoo [(0,LQ)] ⟨RL,trivial⟩ Tryz.func322 (by kernel_rfl) λx=>by kernel_rfl
def al9:List (bA×hJ):=((309,[]),⟨true,[o2,o1],[o17],u2 JO⟩)::al8
def aop:vf Tryz.prog al9:=fk (bg 9 [] []) aq0 [] trivial Tryz.func309 (by kernel_rfl) λx=>by kernel_rfl
def Wr:dR:=⟨[(1,.ro t22),(9,o22),(10,o1)],[(3,o33),(4,o17),(11,o1)],[(.exit 0,[(3,o33)])],Tz,none⟩
def Z2:nB Tryz.prog (env 69 [] []) (lp 0 (body Tryz.f290) 0) Wr:=lk (bg _ _ _) aop (n:=0) [] trivial (by kernel_rfl) λk x=>by kernel_rfl
def ama:List (bA×hJ):=((290,[]),⟨true,[a16],[o33],u3 Ri⟩)::al9
def aj9:vf Tryz.prog ama:=fk (bg 69 [] []) aop [(0,Wr)] ⟨Z2,trivial⟩ Tryz.func290 (by kernel_rfl) λx=>by kernel_rfl
def Uk:dR:=⟨[(4,o1),(9,o21),(10,o1),(11,o1),(18,o1)],[(3,o23),(17,o33),(19,o1)],[(.exit 2,[(3,o23)])],Ms,none⟩
def YE:nB Tryz.prog (env 34 [] []) (lp 0 (lp 0 (body Tryz.f289) 0) 0) Uk:=lk (bg _ _ _) aj9 (n:=2) [] trivial (by kernel_rfl) λk x=>by kernel_rfl
def Uj:dR:=⟨[(9,o21),(10,o1)],[(3,o23),(11,o1)],[(.exit 0,[(3,o23)])],P4,none⟩
def YD:nB Tryz.prog (env 34 [] []) (lp 0 (body Tryz.f289) 0) Uj:=lk (bg _ _ _) aj9 (n:=0) [(2,Uk)] ⟨YE,trivial⟩ (by kernel_rfl) λk x=>by kernel_rfl
def amb:List (bA×hJ):=((289,[]),⟨true,[o21],[o23],u1 Qx⟩)::ama
def aq1:vf Tryz.prog amb:=fk (bg 34 [] []) aj9 [(0,Uj)] ⟨YD,trivial⟩ Tryz.func289 (by kernel_rfl) λx=>by kernel_rfl
def amc:List (bA×hJ):=((250,[]),⟨true,[o21],[o23],u1 Vm⟩)::amb
def aoq:vf Tryz.prog amc:=fk (bg 8 [] []) aq1 [] trivial Tryz.func250 (by kernel_rfl) λx=>by kernel_rfl
def W7:dR:=⟨[(1,o1),(14,o24),(15,o1)],[(4,a25),(6,a25),(7,o17),(16,o1)],[(.exit 0,[(4,a25),(6,a25),(7,o17)])],QD,none⟩
def aaJ:nB Tryz.prog (env 39 [] []) (lp 0 (body Tryz.f249) 0) W7:=lk (bg _ _ _) aoq (n:=0) [] trivial (by kernel_rfl) λk x=>by kernel_rfl
def amd:List (bA×hJ):=((249,[]),⟨true,[o24,o1],[a19,o17],u2 Tv⟩)::amc
def aq2:vf Tryz.prog amd:=fk (bg 39 [] []) aoq [(0,W7)] ⟨aaJ,trivial⟩ Tryz.func249 (by kernel_rfl) λx=>by kernel_rfl
def ame:List (bA×hJ):=((186,[]),⟨true,[o21,o1],[a19,o17],u2 R7⟩)::amd
def aq3:vf Tryz.prog ame:=fk (bg 12 [] []) aq2 [] trivial Tryz.func186 (by kernel_rfl) λx=>by kernel_rfl
def amf:List (bA×hJ):=((254,[]),⟨true,[a6,.ro t0],[o17],u5 V4⟩)::ame
def aor:vf Tryz.prog amf:=fk (bg 8 [] []) aq3 [] trivial Tryz.func254 (by kernel_rfl) λx=>by kernel_rfl
def Jn:dR:=⟨[(0,o22),(1,.fn 254 [t0]),(7,o1)],[(8,o1)],[(.ret,[(4,o1)]),(.exit 0,[])],F1,none⟩
def J5:nB Tryz.prog (env 19 [] []) (lp 0 (body Tryz.f127) 0) Jn:=lk (bg _ _ _) aor (n:=0) [] trivial (by kernel_rfl) λk x=>by kernel_rfl
def amg:List (bA×hJ):=((127,[254]),⟨true,[o22,.fn 254 [t0]],[o1],u2 I5⟩)::amf
def aq4:vf Tryz.prog amg:=fk (bg 19 [] []) aor [(0,Jn)] ⟨J5,trivial⟩ Tryz.func127 (by kernel_rfl) λx=>by kernel_rfl
def amh:List (bA×hJ):=((189,[]),⟨true,[a16,o1],[o1],u4 P5⟩)::amg
def aq5:vf Tryz.prog amh:=fk (bg 9 [] []) aq4 [] trivial Tryz.func189 (by kernel_rfl) λx=>by kernel_rfl
def ami:List (bA×hJ):=((252,[]),⟨true,[a16,.ro t0],[o17],u4 RD⟩)::amh
def aos:vf Tryz.prog ami:=fk (bg 8 [] []) aq5 [] trivial Tryz.func252 (by kernel_rfl) λx=>by kernel_rfl
def I8:dR:=⟨[(0,o21),(1,.fn 252 [t0]),(7,o1)],[(8,o1)],[(.ret,[(4,o1)]),(.exit 0,[])],vp,none⟩
def JI:nB Tryz.prog (env 19 [] []) (lp 0 (body Tryz.f251) 0) I8:=lk (bg _ _ _) aos (n:=0) [] trivial (by kernel_rfl) λk x=>by kernel_rfl
def amj:List (bA×hJ):=((251,[252]),⟨true,[o21,.fn 252 [t0]],[o1],u2 zS⟩)::ami
def aq6:vf Tryz.prog amj:=fk (bg 19 [] []) aos [(0,I8)] ⟨JI,trivial⟩ Tryz.func251 (by kernel_rfl) λx=>by kernel_rfl
def amk:List (bA×hJ):=((187,[]),⟨true,[o21,o1],[o1],u2 LG⟩)::amj
def aka:vf Tryz.prog amk:=fk (bg 8 [] []) aq6 [] trivial Tryz.func187 (by kernel_rfl) λx=>by kernel_rfl
def J2:dR:=⟨[(0,o34),(9,o34),(10,o1)],[(3,o1),(11,o1)],[(.exit 0,[(3,o1)])],Ju,none⟩
def L4:nB Tryz.prog (env 36 [] []) (lp 0 (body Tryz.f291) 0) J2:=lk (bg _ _ _) aka (n:=0) [] trivial (by kernel_rfl) λk x=>by kernel_rfl
def J3:dR:=⟨[(25,o34),(26,o1)],[(6,o11),(27,o1)],[(.exit 2,[(6,o11)])],Jv,none⟩
def L5:nB Tryz.prog (env 36 [] []) (lp 0 (body Tryz.f291) 1) J3:=lk (bg _ _ _) aka (n:=2) [] trivial (by kernel_rfl) λk x=>by kernel_rfl
def adS:Go.Shelf.Ren:=⟨fun|4=>310|n=>n,fun|25=>165|22=>163|3=>3|4=>4|0=>0|9=>9|20=>20|n=>n,λn=>n⟩
def ahF:Go.Proofs.Lays8.n4 Tryz.prog adS:={ mixed:=by kernel_rfl, f4:=⟨"slices.Grow[[]loop.example/g03318/impl.Box,loop.example/g03318/impl.Box]", by kernel_rfl, Go.Proofs.Tryz.func310.trans (congrArg some (by kernel_rfl))⟩, t0:=Go.Proofs.Tryz.underlying0, a0:=Go.Proofs.Tryz.isAgg0, z0:=Go.Proofs.Tryz.sizeOf0, v0:=Go.Proofs.Tryz.zeroValue0, t3:=Go.Proofs.Tryz.underlying3, a3:=Go.Proofs.Tryz.isAgg3, z3:=Go.Proofs.Tryz.sizeOf3, v3:=Go.Proofs.Tryz.zeroValue3, t4:=Go.Proofs.Tryz.underlying4, a4:=Go.Proofs.Tryz.isAgg4, z4:=Go.Proofs.Tryz.sizeOf4, v4:=Go.Proofs.Tryz.zeroValue4, t9:=Go.Proofs.Tryz.underlying9, a9:=Go.Proofs.Tryz.isAgg9, z9:=Go.Proofs.Tryz.sizeOf9, v9:=Go.Proofs.Tryz.zeroValue9, t20:=Go.Proofs.Tryz.underlying20, a20:=Go.Proofs.Tryz.isAgg20, z20:=Go.Proofs.Tryz.sizeOf20, v20:=Go.Proofs.Tryz.zeroValue20, t22:=Go.Proofs.Tryz.underlying163, a22:=Go.Proofs.Tryz.isAgg163, z22:=Go.Proofs.Tryz.sizeOf163, v22:=Go.Proofs.Tryz.zeroValue163 }
def Ly:aap Tryz.prog 310 (λR=>aaN 165 t10 (av R)):=ahG (ρ:=adS) ahF rfl rfl (by kernel_rfl)
def M9:Xl:=[(310,λR=>aaN 165 t10 (av R))]
def M4:abQ Tryz.prog M9:=⟨Ly,trivial⟩
def aml:List (bA×hJ):=((291,[]),⟨true,[o34],[o11],u1 Jm⟩)::amk
def aot:vf Tryz.prog aml:=fkI (bg 36 [] []) aka [(0,J2),(2,J3)] M4 ⟨L4,L5,trivial⟩ Tryz.func291 (by kernel_rfl) λx=>by kernel_rfl
def Wo:dR:=⟨[(1,o1),(2,o22),(3,.ro t22),(14,o1)],[(6,a20),(7,a20),(13,o33),(15,o1)],[(.exit 0,[(6,a20),(7,a20)])],Tu,none⟩
def ZZ:nB Tryz.prog (env 40 [] []) (lp 0 (body Tryz.f253) 0) Wo:=lk (bg _ _ _) aot (n:=0) [] trivial (by kernel_rfl) λk x=>by kernel_rfl
def amm:List (bA×hJ):=((253,[]),⟨true,[a16,o1,o22],[a7],u5 L9⟩)::aml
def aq7:vf Tryz.prog amm:=fk (bg 40 [] []) aot [(0,Wo)] ⟨ZZ,trivial⟩ Tryz.func253 (by kernel_rfl) λx=>by kernel_rfl
def amn:List (bA×hJ):=((188,[]),⟨true,[a16,a19,o1,o1],[a7],u8 UR⟩)::amm
def aq8:vf Tryz.prog amn:=fk (bg 37 [] []) aq7 [] trivial Tryz.func188 (by kernel_rfl) λx=>by kernel_rfl
def amo:List (bA×hJ):=((110,[]),⟨true,[o21,o1,o1],[o12,a19,o17],u3 Ou⟩)::amn
def aq9:vf Tryz.prog amo:=fk (bg 60 [] []) aq8 [] trivial Tryz.func110 (by kernel_rfl) λx=>by kernel_rfl
def amq:List (bA×hJ):=((111,[]),⟨true,[a8,o1],[a8,o17],u6 L8⟩)::amo
def ara:vf Tryz.prog amq:=fk (bg 37 [] []) aq9 [] trivial Tryz.func111 (by kernel_rfl) λx=>by kernel_rfl
def amr:List (bA×hJ):=((112,[]),⟨true,[o21,o1],[o17],u2 LI⟩)::amq
def arb:vf Tryz.prog amr:=fk (bg 27 [] []) ara [] trivial Tryz.func112 (by kernel_rfl) λx=>by kernel_rfl
def ams:List (bA×hJ):=((255,[]),⟨true,[o1],[o17],u1 OH⟩)::amr
def arc:vf Tryz.prog ams:=fk (bg 5 [] []) arb [] trivial Tryz.func255 (by kernel_rfl) λx=>by kernel_rfl
def ahC:Tryz.prog.globalNamed "internal/strconv.uint64pow10" = some 0:=by kernel_rfl
def gT:(Tryz.prog.globals[0]?).map (·.type)=some 326:=by kernel_rfl
def uT:Tryz.prog.underlying 326=some (.array 20 299):=by kernel_rfl
def uE:Tryz.prog.underlying 299=some (.int .u64):=by kernel_rfl
def cE:Tryz.prog.cellsOf 299=1:=by kernel_rfl
def cT:Tryz.prog.cellsOf 326=20:=by kernel_rfl
def amt:List (bA×hJ):=((311,[]),ag0)::ams
def ard:vf Tryz.prog amt:=⟨aiS Go.Proofs.Tryz.lays171 ahC (by unfold Fp adf;exact .head _),arc⟩
def amu:List (bA×hJ):=((292,[]),⟨true,[o1],[o29],u1 Ku⟩)::amt
def akb:vf Tryz.prog amu:=fk (bg 5 [] []) ard [] trivial Tryz.func292 (by kernel_rfl) λx=>by kernel_rfl
def Wm:dR:=⟨[],[(5,o1),(6,o1)],[(.exit 0,[(5,o1)])],Ow,none⟩
def ZX:nB Tryz.prog (env 37 [] []) (lp 0 (body Tryz.f256) 0) Wm:=lk (bg _ _ _) akb (n:=0) [] trivial (by kernel_rfl) λk x=>by kernel_rfl
def Wn:dR:=⟨[],[(7,o29)],[(.exit 2,[(7,o29)])],Tt,none⟩
def ZY:nB Tryz.prog (env 37 [] []) (lp 0 (body Tryz.f256) 1) Wn:=lk (bg _ _ _) akb (n:=2) [] trivial (by kernel_rfl) λk x=>by kernel_rfl
def amv:List (bA×hJ):=((256,[]),⟨true,[o1,o1],[o29],u2 UL⟩)::amu
def aou:vf Tryz.prog amv:=fk (bg 37 [] []) akb [(0,Wm),(2,Wn)] ⟨ZX,ZY,trivial⟩ Tryz.func256 (by kernel_rfl) λx=>by kernel_rfl
def Vq:dR:=⟨[(1,o29),(2,.ro t39)],[(5,o1)],[(.ret,[(4,o1)]),(.exit 0,[])],Ru,none⟩
def Zc:nB Tryz.prog (env 29 [] []) (lp 0 (body Tryz.f192) 0) Vq:=lk (bg _ _ _) aou (n:=0) [] trivial (by kernel_rfl) λk x=>by kernel_rfl
def amw:List (bA×hJ):=((192,[]),⟨true,[a10,o29],[o1],u6 Sa⟩)::amv
def arf:vf Tryz.prog amw:=fk (bg 29 [] []) aou [(0,Vq)] ⟨Zc,trivial⟩ Tryz.func192 (by kernel_rfl) λx=>by kernel_rfl
def amx:List (bA×hJ):=((191,[]),⟨true,[.ro t39,.ro t4],[o1],u6 Yx⟩)::amw
def arh:vf Tryz.prog amx:=fk (bg 11 [] []) arf [] trivial Tryz.func191 (by kernel_rfl) λx=>by kernel_rfl
def amy:List (bA×hJ):=((190,[191]),⟨true,[a10,o1,.fn 191 [t39,t4]],[a10,o1],u12 Lo⟩)::amx
def ari:vf Tryz.prog amy:=fk (bg 53 [] []) arh [] trivial Tryz.func190 (by kernel_rfl) λx=>by kernel_rfl
def amz:List (bA×hJ):=((113,[]),⟨true,[a10,o29,o1],[a10,o1],u7 Y9⟩)::amy
def arj:vf Tryz.prog amz:=fk (bg 14 [] []) ari [] trivial Tryz.func113 (by kernel_rfl) λx=>by kernel_rfl
def amA:List (bA×hJ):=((202,[]),⟨true,[a9,.ro t12],[o17],u14 KM⟩)::amz
def aov:vf Tryz.prog amA:=fk (bg 16 [] []) arj [] trivial Tryz.func202 (by kernel_rfl) λx=>by kernel_rfl
def I6:dR:=⟨[(0,o19),(1,.fn 202 [t12]),(7,o1)],[(8,o1)],[(.ret,[(4,o1)]),(.exit 0,[])],tf,none⟩
def JC:nB Tryz.prog (env 19 [] []) (lp 0 (body Tryz.f201) 0) I6:=lk (bg _ _ _) aov (n:=0) [] trivial (by kernel_rfl) λk x=>by kernel_rfl
def amB:List (bA×hJ):=((201,[202]),⟨true,[o19,.fn 202 [t12]],[o1],u8 nh⟩)::amA
def ark:vf Tryz.prog amB:=fk (bg 19 [] []) aov [(0,I6)] ⟨JC,trivial⟩ Tryz.func201 (by kernel_rfl) λx=>by kernel_rfl
def amC:List (bA×hJ):=((264,[]),⟨true,[o1],[o17],u1 Oj⟩)::amB
def arl:vf Tryz.prog amC:=fk (bg 6 [] []) ark [] trivial Tryz.func264 (by kernel_rfl) λx=>by kernel_rfl
def amD:List (bA×hJ):=((206,[]),⟨true,[o1,o1],[o1],u2 K5⟩)::amC
def aow:vf Tryz.prog amD:=fk (bg 20 [] []) arl [] trivial Tryz.func206 (by kernel_rfl) λx=>by kernel_rfl
def Wi:dR:=⟨[(3,o1),(6,o2),(7,o1)],[(8,o1)],[(.ret,[(2,o1)]),(.exit 0,[])],Tl,none⟩
def ZU:nB Tryz.prog (env 18 [] []) (lp 0 (body Tryz.f205) 0) Wi:=lk (bg _ _ _) aow (n:=0) [] trivial (by kernel_rfl) λk x=>by kernel_rfl
def amE:List (bA×hJ):=((205,[]),⟨true,[o2],[o1],u1 UI⟩)::amD
def arm:vf Tryz.prog amE:=fk (bg 18 [] []) aow [(0,Wi)] ⟨ZU,trivial⟩ Tryz.func205 (by kernel_rfl) λx=>by kernel_rfl
def amF:List (bA×hJ):=((204,[]),⟨true,[a9,a9],[o1],u14 Jq⟩)::amE
def aox:vf Tryz.prog amF:=fk (bg 17 [] []) arm [] trivial Tryz.func204 (by kernel_rfl) λx=>by kernel_rfl
def amG:List (bA×hJ):=((203,[204]),ag1 133 204 ve)::amF
def aoy:vf Tryz.prog amG:=⟨ai6 (g:=204) (fn:=u14 Jq) Go.Proofs.Tryz.lays6 Go.Proofs.Tryz.isAgg133 Go.Proofs.Tryz.sizeOf133 133 N3 (rD aox (204,[]) ⟨true,[.agg (List.replicate 7 KI),.agg (List.replicate 7 KI)],[.one KI],u14 Jq⟩ (by kernel_rfl)) VL,aox⟩
def Of:dR:=⟨[(0,o19),(20,o19),(21,o1)],[(6,o13),(22,o1)],[(.ret,[(4,o13),(5,o17)]),(.exit 0,[(6,o13)])],LN,none⟩
def VO:nB Tryz.prog (env 50 [] []) (lp 0 (body Tryz.f126) 0) Of:=lk (bg _ _ _) aoy (n:=0) [] trivial (by kernel_rfl) λk x=>by kernel_rfl
def amH:List (bA×hJ):=((126,[]),⟨true,[o19,o19],[o13,o17],u2 Kv⟩)::amG
def aoz:vf Tryz.prog amH:=fk (bg 50 [] []) aoy [(0,Of)] ⟨VO,trivial⟩ Tryz.func126 (by kernel_rfl) λx=>by kernel_rfl
def Wq:dR:=⟨[(13,o31),(14,o1)],[(4,o13),(15,o1)],[(.ret,[(2,o13),(3,o17)]),(.exit 0,[(4,o13)])],OK,none⟩
def Z1:nB Tryz.prog (env 31 [] []) (lp 0 (body Tryz.f183) 0) Wq:=lk (bg _ _ _) aoz (n:=0) [] trivial (by kernel_rfl) λk x=>by kernel_rfl
def amI:List (bA×hJ):=((183,[]),⟨true,[a17],[o13,o17],u15 Ko⟩)::amH
def arn:vf Tryz.prog amI:=fk (bg 31 [] []) aoz [(0,Wq)] ⟨Z1,trivial⟩ Tryz.func183 (by kernel_rfl) λx=>by kernel_rfl
def afG:Go.Shelf.Ren:=⟨fun|22=>247|29=>287|30=>288|n=>n,fun|9=>133|24=>40|3=>3|4=>4|0=>0|n=>n,λn=>n⟩
def aiQ:afX Tryz.prog afG (zOf Tryz.prog 133) (bOf Tryz.prog 133):={ mixed:=by kernel_rfl, f22:=⟨"slices.Insert[[]loop.example/g03318/impl.Event,loop.example/g03318/impl.Event]", by kernel_rfl, Go.Proofs.Tryz.func247.trans (congrArg some (by kernel_rfl))⟩, f29:=⟨_, Go.Proofs.Tryz.func287, by kernel_rfl, by kernel_rfl, by kernel_rfl, by kernel_rfl⟩, t3:=Go.Proofs.Tryz.underlying3, a3:=Go.Proofs.Tryz.isAgg3, z3:=Go.Proofs.Tryz.sizeOf3, v3:=Go.Proofs.Tryz.zeroValue3, t4:=Go.Proofs.Tryz.underlying4, a4:=Go.Proofs.Tryz.isAgg4, z4:=Go.Proofs.Tryz.sizeOf4, v4:=Go.Proofs.Tryz.zeroValue4, t24:=Go.Proofs.Tryz.underlying40, a24:=Go.Proofs.Tryz.isAgg40, z24:=Go.Proofs.Tryz.sizeOf40, v24:=Go.Proofs.Tryz.zeroValue40, z9:=Go.Proofs.Tryz.sizeOf133, i9:=by kernel_rfl }
def amJ:List (bA×hJ):=((247,[]),adA 133 t12)::amI
def aoA:vf Tryz.prog amJ:=⟨agp (ρ:=afG) aiQ (by kernel_rfl) (by kernel_rfl) rfl rfl,arn⟩
def Uf:dR:=⟨[(0,o19),(1,o1),(32,o19),(33,o1)],[(14,o13),(15,a21),(16,o1),(34,o1)],[(.exit 0,[(14,o13),(15,a21),(16,o1)])],PW,none⟩
def Yz:nB Tryz.prog (env 75 [] []) (lp 0 (body Tryz.f184) 0) Uf:=lk (bg _ _ _) aoA (n:=0) [] trivial (by kernel_rfl) λk x=>by kernel_rfl
def air:List (bA×hJ):=((184,[]),⟨true,[o19,o1,o1,o1,o1,o1],[o13,o17],u6 KU⟩)::amJ
def aoB:vf Tryz.prog air:=fk (bg 75 [] []) aoA [(0,Uf)] ⟨Yz,trivial⟩ Tryz.func184 (by kernel_rfl) λx=>by kernel_rfl
def JM:Xl:=[]
def Oe:abQ Tryz.prog JM:=trivial
def Od:aap Tryz.prog 107 (ahP (env 56 [] []) air [] [] JM Tryz.f107):=ik (bg 56 [] []) aoB [] [] Oe trivial Tryz.func107 (by kernel_rfl)
def W9:Xl:=[(107,ahP (env 56 [] []) air [] [] JM Tryz.f107)]
def W0:abQ Tryz.prog W9:=⟨Od,trivial⟩
def amK:List (bA×hJ):=((43,[]),⟨false,[a18,a3],[o1],u27 ee⟩)::air
def aro:vf Tryz.prog amK:=fkI (bg 296 [] []) aoB [] W0 trivial Tryz.func43 (by kernel_rfl) λx=>by kernel_rfl
def amL:List (bA×hJ):=((114,[]),⟨true,[a8],[o1],u5 Se⟩)::amK
def arp:vf Tryz.prog amL:=fk (bg 18 [] []) aro [] trivial Tryz.func114 (by kernel_rfl) λx=>by kernel_rfl
def amM:List (bA×hJ):=((115,[]),⟨true,[a8],[a8,o17],u5 R6⟩)::amL
def arq:vf Tryz.prog amM:=fk (bg 43 [] []) arp [] trivial Tryz.func115 (by kernel_rfl) λx=>by kernel_rfl
def amN:List (bA×hJ):=((116,[]),⟨true,[a8],[a8,o17],u5 UP⟩)::amM
def ars:vf Tryz.prog amN:=fk (bg 26 [] []) arq [] trivial Tryz.func116 (by kernel_rfl) λx=>by kernel_rfl
def amO:List (bA×hJ):=((117,[]),⟨true,[a8],[a8],u5 Qv⟩)::amN
def art:vf Tryz.prog amO:=fk (bg 7 [] []) ars [] trivial Tryz.func117 (by kernel_rfl) λx=>by kernel_rfl
def amP:List (bA×hJ):=((194,[]),⟨true,[a8],[o17],u5 P6⟩)::amO
def aru:vf Tryz.prog amP:=fk (bg 15 [] []) art [] trivial Tryz.func194 (by kernel_rfl) λx=>by kernel_rfl
def amQ:List (bA×hJ):=((118,[]),⟨true,[a8,o1],[a8,o17],u6 XO⟩)::amP
def arw:vf Tryz.prog amQ:=fk (bg 44 [] []) aru [] trivial Tryz.func118 (by kernel_rfl) λx=>by kernel_rfl
def amR:List (bA×hJ):=((257,[]),⟨true,[a22],[o17],u4 Qw⟩)::amQ
def arx:vf Tryz.prog amR:=fk (bg 21 [] []) arw [] trivial Tryz.func257 (by kernel_rfl) λx=>by kernel_rfl
def amS:List (bA×hJ):=((258,[]),⟨true,[o1,o17],[o17],u2 Kw⟩)::amR
def ary:vf Tryz.prog amS:=fk (bg 14 [] []) arx [] trivial Tryz.func258 (by kernel_rfl) λx=>by kernel_rfl
def amT:List (bA×hJ):=((195,[]),⟨true,[a8,a22],[a23,o17],u9 Sc⟩)::amS
def aoC:vf Tryz.prog amT:=fk (bg 43 [] []) ary [] trivial Tryz.func195 (by kernel_rfl) λx=>by kernel_rfl
def Q3:dR:=⟨[(15,o1)],[(3,o1),(14,o10),(16,o1)],[(.exit 0,[(3,o1)])],Na,none⟩
def WR:nB Tryz.prog (env 26 [] []) (lp 0 (body Tryz.f196) 0) Q3:=lk (bg _ _ _) aoC (n:=0) [] trivial (by kernel_rfl) λk x=>by kernel_rfl
def amU:List (bA×hJ):=((196,[]),⟨true,[a22],[o1],u4 Mo⟩)::amT
def arz:vf Tryz.prog amU:=fk (bg 26 [] []) aoC [(0,Q3)] ⟨WR,trivial⟩ Tryz.func196 (by kernel_rfl) λx=>by kernel_rfl
def amV:List (bA×hJ):=((197,[]),⟨true,[o1,a23],[o1],u5 Sf⟩)::amU
def arA:vf Tryz.prog amV:=fk (bg 34 [] []) arz [] trivial Tryz.func197 (by kernel_rfl) λx=>by kernel_rfl
def amW:List (bA×hJ):=((119,[]),⟨true,[a8,a22],[a8,o1,o17],u9 KN⟩)::amV
def arB:vf Tryz.prog amW:=fk (bg 43 [] []) arA [] trivial Tryz.func119 (by kernel_rfl) λx=>by kernel_rfl
def amX:List (bA×hJ):=((120,[]),⟨true,[a8],[a8,o1,o17],u5 R9⟩)::amW
def arC:vf Tryz.prog amX:=fk (bg 17 [] []) arB [] trivial Tryz.func120 (by kernel_rfl) λx=>by kernel_rfl
def amY:List (bA×hJ):=((198,[]),⟨true,[o1],[a10,o17],u1 Sb⟩)::amX
def arD:vf Tryz.prog amY:=fk (bg 12 [] []) arC [] trivial Tryz.func198 (by kernel_rfl) λx=>by kernel_rfl
def amZ:List (bA×hJ):=((259,[]),⟨true,[a16,o1],[a7,o17],u4 Sd⟩)::amY
def arE:vf Tryz.prog amZ:=fk (bg 39 [] []) arD [] trivial Tryz.func259 (by kernel_rfl) λx=>by kernel_rfl
def am0:List (bA×hJ):=((199,[]),⟨true,[o21,o1],[o12,o17],u2 Ns⟩)::amZ
def aoD:vf Tryz.prog am0:=fk (bg 38 [] []) arE [] trivial Tryz.func199 (by kernel_rfl) λx=>by kernel_rfl
def SY:dR:=⟨[(2,o1),(3,.ro t37)],[(7,o1),(8,o1)],[(.exit 0,[(7,o1)])],LS,none⟩
def X0:nB Tryz.prog (env 34 [] []) (lp 0 (body Tryz.f261) 0) SY:=lk (bg _ _ _) aoD (n:=0) [] trivial (by kernel_rfl) λk x=>by kernel_rfl
def am1:List (bA×hJ):=((261,[]),⟨true,[a14,o1,o1],[o1],u4 OD⟩)::am0
def arF:vf Tryz.prog am1:=fk (bg 34 [] []) aoD [(0,SY)] ⟨X0,trivial⟩ Tryz.func261 (by kernel_rfl) λx=>by kernel_rfl
def am2:List (bA×hJ):=((260,[]),⟨true,[a4,o1,o1],[o1],u10 Si⟩)::am1
def arG:vf Tryz.prog am2:=fk (bg 30 [] []) arF [] trivial Tryz.func260 (by kernel_rfl) λx=>by kernel_rfl
def ais:List (bA×hJ):=((200,[]),⟨true,[a14,a4,o1,o1,o1,o1],[o1],u14 V2⟩)::am2
def aoE:vf Tryz.prog ais:=fk (bg 60 [] []) arG [] trivial Tryz.func200 (by kernel_rfl) λx=>by kernel_rfl
def KC:Xl:=[]
def Uc:abQ Tryz.prog KC:=trivial
def TA:aap Tryz.prog 107 (ahP (env 56 [] []) ais [] [] KC Tryz.f107):=ik (bg 56 [] []) aoE [] [] Uc trivial Tryz.func107 (by kernel_rfl)
def abP:Xl:=[(107,ahP (env 56 [] []) ais [] [] KC Tryz.f107)]
def abN:abQ Tryz.prog abP:=⟨TA,trivial⟩
def am3:List (bA×hJ):=((121,[]),⟨false,[a18,o1,o1,o1],[o17],u18 Jk⟩)::ais
def arH:vf Tryz.prog am3:=fkI (bg 177 [] []) aoE [] abN trivial Tryz.func121 (by kernel_rfl) λx=>by kernel_rfl
def am4:List (bA×hJ):=((44,[]),⟨false,[a18,a3],[o1],u27 qB⟩)::am3
def arI:vf Tryz.prog am4:=fk (bg 161 [] []) arH [] trivial Tryz.func44 (by kernel_rfl) λx=>by kernel_rfl
def am5:List (bA×hJ):=((124,[]),⟨true,[o18,a12],[o16,o17],u8 LC⟩)::am4
def arJ:vf Tryz.prog am5:=fk (bg 31 [] []) arI [] trivial Tryz.func124 (by kernel_rfl) λx=>by kernel_rfl
def am6:List (bA×hJ):=((125,[]),⟨true,[o18,o1],[o16,o17],u2 Rg⟩)::am5
def arK:vf Tryz.prog am6:=fk (bg 33 [] []) arJ [] trivial Tryz.func125 (by kernel_rfl) λx=>by kernel_rfl
def am7:List (bA×hJ):=((128,[]),⟨true,[a6,.ro t21],[o17],u16 Nc⟩)::am6
def aoF:vf Tryz.prog am7:=fk (bg 19 [] []) arK [] trivial Tryz.func128 (by kernel_rfl) λx=>by kernel_rfl
def Jb:dR:=⟨[(0,o22),(1,.fn 128 [t21]),(7,o1)],[(8,o1)],[(.ret,[(4,o1)]),(.exit 0,[])],xp,none⟩
def JJ:nB Tryz.prog (env 19 [] []) (lp 0 (body Tryz.f127) 0) Jb:=lk (bg _ _ _) aoF (n:=0) [] trivial (by kernel_rfl) λk x=>by kernel_rfl
def am8:List (bA×hJ):=((127,[128]),⟨true,[o22,.fn 128 [t21]],[o1],u13 qS⟩)::am7
def arL:vf Tryz.prog am8:=fk (bg 19 [] []) aoF [(0,Jb)] ⟨JJ,trivial⟩ Tryz.func127 (by kernel_rfl) λx=>by kernel_rfl
def am9:List (bA×hJ):=((45,[]),⟨false,[a18,a3],[o1],u27 gA⟩)::am8
def arM:vf Tryz.prog am9:=fk (bg 266 [] []) arL [] trivial Tryz.func45 (by kernel_rfl) λx=>by kernel_rfl
def ana:List (bA×hJ):=((10,[]),⟨true,[a17,a3],[a13,o1],u27 JW⟩)::am9
def arN:vf Tryz.prog ana:=fk (bg 52 [] []) arM [] trivial Tryz.func10 (by kernel_rfl) λx=>by kernel_rfl
def anb:List (bA×hJ):=((46,[]),⟨true,[a4,a4],[o17],u16 Sr⟩)::ana
def arO:vf Tryz.prog anb:=fk (bg 45 [] []) arN [] trivial Tryz.func46 (by kernel_rfl) λx=>by kernel_rfl
def anc:List (bA×hJ):=((303,[]),⟨true,[.agg [v1,v1],.agg [v1,v1]],[o17],u4 U2⟩)::anb
def aoG:vf Tryz.prog anc:=fk (bg 15 [] []) arO [] trivial Tryz.func303 (by kernel_rfl) λx=>by kernel_rfl
def Vz:dR:=⟨[(0,o20),(1,o20)],[(5,o1)],[(.ret,[(4,o17)]),(.exit 0,[])],RJ,none⟩
def Zk:nB Tryz.prog (env 27 [] []) (lp 0 (body Tryz.f265) 0) Vz:=lk (bg _ _ _) aoG (n:=0) [] trivial (by kernel_rfl) λk x=>by kernel_rfl
def ane:List (bA×hJ):=((265,[]),⟨true,[o20,o20],[o17],u2 OU⟩)::anc
def arP:vf Tryz.prog ane:=fk (bg 27 [] []) aoG [(0,Vz)] ⟨Zk,trivial⟩ Tryz.func265 (by kernel_rfl) λx=>by kernel_rfl
def anf:List (bA×hJ):=((207,[]),⟨true,[a14,a14],[o17],u4 U3⟩)::ane
def aoH:vf Tryz.prog anf:=fk (bg 17 [] []) arP [] trivial Tryz.func207 (by kernel_rfl) λx=>by kernel_rfl
def Wt:dR:=⟨[(0,o2),(1,o2)],[(5,o1)],[(.ret,[(4,o17)]),(.exit 0,[])],TG,none⟩
def Z4:nB Tryz.prog (env 26 [] []) (lp 0 (body Tryz.f18) 0) Wt:=lk (bg _ _ _) aoH (n:=0) [] trivial (by kernel_rfl) λk x=>by kernel_rfl
def ang:List (bA×hJ):=((18,[]),⟨true,[o2,o2],[o17],u2 UZ⟩)::anf
def arQ:vf Tryz.prog ang:=fk (bg 26 [] []) aoH [(0,Wt)] ⟨Z4,trivial⟩ Tryz.func18 (by kernel_rfl) λx=>by kernel_rfl
def anh:List (bA×hJ):=((317,[]),⟨true,[a6,a6],[o17],u8 V6⟩)::ang
def aoI:vf Tryz.prog anh:=fk (bg 25 [] []) arQ [] trivial Tryz.func317 (by kernel_rfl) λx=>by kernel_rfl
def Ws:dR:=⟨[(0,o22),(1,o22)],[(5,o1)],[(.ret,[(4,o17)]),(.exit 0,[])],TE,none⟩
def Z3:nB Tryz.prog (env 27 [] []) (lp 0 (body Tryz.f304) 0) Ws:=lk (bg _ _ _) aoI (n:=0) [] trivial (by kernel_rfl) λk x=>by kernel_rfl
def ani:List (bA×hJ):=((304,[]),⟨true,[o22,o22],[o17],u2 UX⟩)::anh
def arR:vf Tryz.prog ani:=fk (bg 27 [] []) aoI [(0,Ws)] ⟨Z3,trivial⟩ Tryz.func304 (by kernel_rfl) λx=>by kernel_rfl
def anj:List (bA×hJ):=((266,[]),⟨true,[a16,a16],[o17],u6 Nt⟩)::ani
def aoJ:vf Tryz.prog anj:=fk (bg 22 [] []) arR [] trivial Tryz.func266 (by kernel_rfl) λx=>by kernel_rfl
def SZ:dR:=⟨[(0,o21),(1,o21)],[(5,o1)],[(.ret,[(4,o17)]),(.exit 0,[])],OQ,none⟩
def X1:nB Tryz.prog (env 27 [] []) (lp 0 (body Tryz.f208) 0) SZ:=lk (bg _ _ _) aoJ (n:=0) [] trivial (by kernel_rfl) λk x=>by kernel_rfl
def ank:List (bA×hJ):=((208,[]),⟨true,[o21,o21],[o17],u2 OO⟩)::anj
def arS:vf Tryz.prog ank:=fk (bg 27 [] []) aoJ [(0,SZ)] ⟨X1,trivial⟩ Tryz.func208 (by kernel_rfl) λx=>by kernel_rfl
def anl:List (bA×hJ):=((209,[]),⟨true,[a8,a8],[o17],u10 UY⟩)::ank
def arT:vf Tryz.prog anl:=fk (bg 30 [] []) arS [] trivial Tryz.func209 (by kernel_rfl) λx=>by kernel_rfl
def anm:List (bA×hJ):=((132,[]),⟨true,[a9,a9],[o17],u14 Sn⟩)::anl
def aoK:vf Tryz.prog anm:=fk (bg 40 [] []) arT [] trivial Tryz.func132 (by kernel_rfl) λx=>by kernel_rfl
def Um:dR:=⟨[(0,o19),(1,o19)],[(5,o1)],[(.ret,[(4,o17)]),(.exit 0,[])],P8,none⟩
def YG:nB Tryz.prog (env 27 [] []) (lp 0 (body Tryz.f50) 0) Um:=lk (bg _ _ _) aoK (n:=0) [] trivial (by kernel_rfl) λk x=>by kernel_rfl
def ann:List (bA×hJ):=((50,[]),⟨true,[o19,o19],[o17],u2 Nu⟩)::anm
def arU:vf Tryz.prog ann:=fk (bg 27 [] []) aoK [(0,Um)] ⟨YG,trivial⟩ Tryz.func50 (by kernel_rfl) λx=>by kernel_rfl
def ano:List (bA×hJ):=((129,[]),⟨true,[a26,a26],[o17],u22 U1⟩)::ann
def aoL:vf Tryz.prog ano:=fk (bg 39 [] []) arU [] trivial Tryz.func129 (by kernel_rfl) λx=>by kernel_rfl
def Vy:dR:=⟨[(0,o31),(1,o31)],[(5,o1)],[(.ret,[(4,o17)]),(.exit 0,[])],RH,none⟩
def Zj:nB Tryz.prog (env 27 [] []) (lp 0 (body Tryz.f47) 0) Vy:=lk (bg _ _ _) aoL (n:=0) [] trivial (by kernel_rfl) λk x=>by kernel_rfl
def anp:List (bA×hJ):=((47,[]),⟨true,[o31,o31],[o17],u2 Sq⟩)::ano
def arV:vf Tryz.prog anp:=fk (bg 27 [] []) aoL [(0,Vy)] ⟨Zj,trivial⟩ Tryz.func47 (by kernel_rfl) λx=>by kernel_rfl
def anq:List (bA×hJ):=((210,[]),⟨true,[a10,a10],[o17],u10 U0⟩)::anp
def arW:vf Tryz.prog anq:=fk (bg 30 [] []) arV [] trivial Tryz.func210 (by kernel_rfl) λx=>by kernel_rfl
def anr:List (bA×hJ):=((130,[]),⟨true,[a11,a11],[o17],u26 QG⟩)::anq
def aoM:vf Tryz.prog anr:=fk (bg 51 [] []) arW [] trivial Tryz.func130 (by kernel_rfl) λx=>by kernel_rfl
def S0:dR:=⟨[(0,o30),(1,o30)],[(5,o1)],[(.ret,[(4,o17)]),(.exit 0,[])],OT,none⟩
def X2:nB Tryz.prog (env 27 [] []) (lp 0 (body Tryz.f48) 0) S0:=lk (bg _ _ _) aoM (n:=0) [] trivial (by kernel_rfl) λk x=>by kernel_rfl
def ant:List (bA×hJ):=((48,[]),⟨true,[o30,o30],[o17],u2 OR⟩)::anr
def arX:vf Tryz.prog ant:=fk (bg 27 [] []) aoM [(0,S0)] ⟨X2,trivial⟩ Tryz.func48 (by kernel_rfl) λx=>by kernel_rfl
def anu:List (bA×hJ):=((131,[]),⟨true,[a12,a12],[o17],u14 Sp⟩)::ant
def aoN:vf Tryz.prog anu:=fk (bg 40 [] []) arX [] trivial Tryz.func131 (by kernel_rfl) λx=>by kernel_rfl
def Un:dR:=⟨[(0,o18),(1,o18)],[(5,o1)],[(.ret,[(4,o17)]),(.exit 0,[])],Qa,none⟩
def YH:nB Tryz.prog (env 27 [] []) (lp 0 (body Tryz.f49) 0) Un:=lk (bg _ _ _) aoN (n:=0) [] trivial (by kernel_rfl) λk x=>by kernel_rfl
def anv:List (bA×hJ):=((49,[]),⟨true,[o18,o18],[o17],u2 QF⟩)::anu
def arY:vf Tryz.prog anv:=fk (bg 27 [] []) aoN [(0,Un)] ⟨YH,trivial⟩ Tryz.func49 (by kernel_rfl) λx=>by kernel_rfl
def anw:List (bA×hJ):=((11,[]),⟨true,[a17,a17],[o17],u30 K8⟩)::anv
def aoO:vf Tryz.prog anw:=fk (bg 50 [] []) arY [] trivial Tryz.func11 (by kernel_rfl) λx=>by kernel_rfl
def S5:dR:=⟨[],[(0,o9),(1,o1),(5,o1)],[(.exit 0,[(0,o9),(1,o1)])],O4,none⟩
def X6:nB Tryz.prog (env 27 [] []) (lp 0 (body Tryz.f133) 0) S5:=lk (bg _ _ _) aoO (n:=0) [] trivial (by kernel_rfl) λk x=>by kernel_rfl
def anx:List (bA×hJ):=((133,[]),⟨true,[o9,o1],[o1],u2 Mb⟩)::anw
def aoP:vf Tryz.prog anx:=fk (bg 27 [] []) aoO [(0,S5)] ⟨X6,trivial⟩ Tryz.func133 (by kernel_rfl) λx=>by kernel_rfl
def Us:dR:=⟨[],[(0,o10),(1,o1),(5,o1)],[(.exit 0,[(0,o10),(1,o1)])],ME,none⟩
def YL:nB Tryz.prog (env 19 [] []) (lp 0 (body Tryz.f21) 0) Us:=lk (bg _ _ _) aoP (n:=0) [] trivial (by kernel_rfl) λk x=>by kernel_rfl
def anz:List (bA×hJ):=((21,[]),⟨true,[o10,o1],[o1],u2 QK⟩)::anx
def aoQ:vf Tryz.prog anz:=fk (bg 19 [] []) aoP [(0,Us)] ⟨YL,trivial⟩ Tryz.func21 (by kernel_rfl) λx=>by kernel_rfl
def Ur:dR:=⟨[],[(0,o11),(1,o1),(5,o1)],[(.exit 0,[(0,o11),(1,o1)])],Qe,none⟩
def YK:nB Tryz.prog (env 43 [] []) (lp 0 (body Tryz.f211) 0) Ur:=lk (bg _ _ _) aoQ (n:=0) [] trivial (by kernel_rfl) λk x=>by kernel_rfl
def anA:List (bA×hJ):=((211,[]),⟨true,[o11,o1],[o1],u2 QJ⟩)::anz
def aoR:vf Tryz.prog anA:=fk (bg 43 [] []) aoQ [(0,Ur)] ⟨YK,trivial⟩ Tryz.func211 (by kernel_rfl) λx=>by kernel_rfl
def Q7:dR:=⟨[],[(0,o12),(1,o1),(5,o1)],[(.exit 0,[(0,o12),(1,o1)])],Nk,none⟩
def WV:nB Tryz.prog (env 34 [] []) (lp 0 (body Tryz.f134) 0) Q7:=lk (bg _ _ _) aoR (n:=0) [] trivial (by kernel_rfl) λk x=>by kernel_rfl
def anB:List (bA×hJ):=((134,[]),⟨true,[o12,o1],[o1],u2 MC⟩)::anA
def aoS:vf Tryz.prog anB:=fk (bg 34 [] []) aoR [(0,Q7)] ⟨WV,trivial⟩ Tryz.func134 (by kernel_rfl) λx=>by kernel_rfl
def RW:dR:=⟨[],[(0,o13),(1,o1),(5,o1)],[(.exit 0,[(0,o13),(1,o1)])],Lt,none⟩
def Xt:nB Tryz.prog (env 62 [] []) (lp 0 (body Tryz.f54) 0) RW:=lk (bg _ _ _) aoS (n:=0) [] trivial (by kernel_rfl) λk x=>by kernel_rfl
def anC:List (bA×hJ):=((54,[]),⟨true,[o13,o1],[o1],u2 LB⟩)::anB
def aoT:vf Tryz.prog anC:=fk (bg 62 [] []) aoS [(0,RW)] ⟨Xt,trivial⟩ Tryz.func54 (by kernel_rfl) λx=>by kernel_rfl
def S4:dR:=⟨[],[(0,o14),(1,o1),(5,o1)],[(.exit 0,[(0,o14),(1,o1)])],O2,none⟩
def X5:nB Tryz.prog (env 103 [] []) (lp 0 (body Tryz.f51) 0) S4:=lk (bg _ _ _) aoT (n:=0) [] trivial (by kernel_rfl) λk x=>by kernel_rfl
def anD:List (bA×hJ):=((51,[]),⟨true,[o14,o1],[o1],u2 O0⟩)::anC
def aoU:vf Tryz.prog anD:=fk (bg 103 [] []) aoT [(0,S4)] ⟨X5,trivial⟩ Tryz.func51 (by kernel_rfl) λx=>by kernel_rfl
def Q8:dR:=⟨[],[(0,o15),(1,o1),(5,o1)],[(.exit 0,[(0,o15),(1,o1)])],Nn,none⟩
def WW:nB Tryz.prog (env 109 [] []) (lp 0 (body Tryz.f52) 0) Q8:=lk (bg _ _ _) aoU (n:=0) [] trivial (by kernel_rfl) λk x=>by kernel_rfl
def anE:List (bA×hJ):=((52,[]),⟨true,[o15,o1],[o1],u2 MF⟩)::anD
def aoV:vf Tryz.prog anE:=fk (bg 109 [] []) aoU [(0,Q8)] ⟨WW,trivial⟩ Tryz.func52 (by kernel_rfl) λx=>by kernel_rfl
def RX:dR:=⟨[],[(0,o16),(1,o1),(5,o1)],[(.exit 0,[(0,o16),(1,o1)])],NU,none⟩
def Xu:nB Tryz.prog (env 64 [] []) (lp 0 (body Tryz.f53) 0) RX:=lk (bg _ _ _) aoV (n:=0) [] trivial (by kernel_rfl) λk x=>by kernel_rfl
def anF:List (bA×hJ):=((53,[]),⟨true,[o16,o1],[o1],u2 NC⟩)::anE
def arZ:vf Tryz.prog anF:=fk (bg 64 [] []) aoV [(0,RX)] ⟨Xu,trivial⟩ Tryz.func53 (by kernel_rfl) λx=>by kernel_rfl
def anG:List (bA×hJ):=((12,[]),⟨true,[a13,o1],[o1],u16 K9⟩)::anF
def aoW:vf Tryz.prog anG:=fk (bg 22 [] []) arZ [] trivial Tryz.func12 (by kernel_rfl) λx=>by kernel_rfl
def S3:dR:=⟨[(0,o20)],[(1,o1),(5,o1)],[(.ret,[(4,o1)]),(.exit 0,[(1,o1)])],OZ,none⟩
def X4:nB Tryz.prog (env 31 [] []) (lp 0 (body Tryz.f135) 0) S3:=lk (bg _ _ _) aoW (n:=0) [] trivial (by kernel_rfl) λk x=>by kernel_rfl
def anH:List (bA×hJ):=((135,[]),⟨true,[o20,o1],[o1],u2 Ma⟩)::anG
def aoX:vf Tryz.prog anH:=fk (bg 31 [] []) aoW [(0,S3)] ⟨X4,trivial⟩ Tryz.func135 (by kernel_rfl) λx=>by kernel_rfl
def Uq:dR:=⟨[(0,o2)],[(1,o1),(5,o1)],[(.ret,[(4,o1)]),(.exit 0,[(1,o1)])],Mz,none⟩
def YJ:nB Tryz.prog (env 21 [] []) (lp 0 (body Tryz.f22) 0) Uq:=lk (bg _ _ _) aoX (n:=0) [] trivial (by kernel_rfl) λk x=>by kernel_rfl
def anI:List (bA×hJ):=((22,[]),⟨true,[o2,o1],[o1],u2 QI⟩)::anH
def aoY:vf Tryz.prog anI:=fk (bg 21 [] []) aoX [(0,Uq)] ⟨YJ,trivial⟩ Tryz.func22 (by kernel_rfl) λx=>by kernel_rfl
def Uo:dR:=⟨[(0,o22)],[(1,o1),(5,o1)],[(.ret,[(4,o1)]),(.exit 0,[(1,o1)])],Qc,none⟩
def YI:nB Tryz.prog (env 51 [] []) (lp 0 (body Tryz.f212) 0) Uo:=lk (bg _ _ _) aoY (n:=0) [] trivial (by kernel_rfl) λk x=>by kernel_rfl
def anJ:List (bA×hJ):=((212,[]),⟨true,[o22,o1],[o1],u2 QH⟩)::anI
def aoZ:vf Tryz.prog anJ:=fk (bg 51 [] []) aoY [(0,Uo)] ⟨YI,trivial⟩ Tryz.func212 (by kernel_rfl) λx=>by kernel_rfl
def Q5:dR:=⟨[(0,o21)],[(1,o1),(5,o1)],[(.ret,[(4,o1)]),(.exit 0,[(1,o1)])],Ng,none⟩
def WT:nB Tryz.prog (env 40 [] []) (lp 0 (body Tryz.f136) 0) Q5:=lk (bg _ _ _) aoZ (n:=0) [] trivial (by kernel_rfl) λk x=>by kernel_rfl
def anK:List (bA×hJ):=((136,[]),⟨true,[o21,o1],[o1],u2 Mx⟩)::anJ
def ao0:vf Tryz.prog anK:=fk (bg 40 [] []) aoZ [(0,Q5)] ⟨WT,trivial⟩ Tryz.func136 (by kernel_rfl) λx=>by kernel_rfl
def RU:dR:=⟨[(0,o19)],[(1,o1),(5,o1)],[(.ret,[(4,o1)]),(.exit 0,[(1,o1)])],Lr,none⟩
def Xr:nB Tryz.prog (env 76 [] []) (lp 0 (body Tryz.f58) 0) RU:=lk (bg _ _ _) ao0 (n:=0) [] trivial (by kernel_rfl) λk x=>by kernel_rfl
def anL:List (bA×hJ):=((58,[]),⟨true,[o19,o1],[o1],u2 LA⟩)::anK
def ao1:vf Tryz.prog anL:=fk (bg 76 [] []) ao0 [(0,RU)] ⟨Xr,trivial⟩ Tryz.func58 (by kernel_rfl) λx=>by kernel_rfl
def S2:dR:=⟨[(0,o31)],[(1,o1),(5,o1)],[(.ret,[(4,o1)]),(.exit 0,[(1,o1)])],OX,none⟩
def X3:nB Tryz.prog (env 125 [] []) (lp 0 (body Tryz.f55) 0) S2:=lk (bg _ _ _) ao1 (n:=0) [] trivial (by kernel_rfl) λk x=>by kernel_rfl
def anM:List (bA×hJ):=((55,[]),⟨true,[o31,o1],[o1],u2 OV⟩)::anL
def ao2:vf Tryz.prog anM:=fk (bg 125 [] []) ao1 [(0,S2)] ⟨X3,trivial⟩ Tryz.func55 (by kernel_rfl) λx=>by kernel_rfl
def Q6:dR:=⟨[(0,o30)],[(1,o1),(5,o1)],[(.ret,[(4,o1)]),(.exit 0,[(1,o1)])],Ni,none⟩
def WU:nB Tryz.prog (env 135 [] []) (lp 0 (body Tryz.f56) 0) Q6:=lk (bg _ _ _) ao2 (n:=0) [] trivial (by kernel_rfl) λk x=>by kernel_rfl
def anN:List (bA×hJ):=((56,[]),⟨true,[o30,o1],[o1],u2 MB⟩)::anM
def ao3:vf Tryz.prog anN:=fk (bg 135 [] []) ao2 [(0,Q6)] ⟨WU,trivial⟩ Tryz.func56 (by kernel_rfl) λx=>by kernel_rfl
def RV:dR:=⟨[(0,o18)],[(1,o1),(5,o1)],[(.ret,[(4,o1)]),(.exit 0,[(1,o1)])],NS,none⟩
def Xs:nB Tryz.prog (env 78 [] []) (lp 0 (body Tryz.f57) 0) RV:=lk (bg _ _ _) ao3 (n:=0) [] trivial (by kernel_rfl) λk x=>by kernel_rfl
def anO:List (bA×hJ):=((57,[]),⟨true,[o18,o1],[o1],u2 NB⟩)::anN
def ar0:vf Tryz.prog anO:=fk (bg 78 [] []) ao3 [(0,RV)] ⟨Xs,trivial⟩ Tryz.func57 (by kernel_rfl) λx=>by kernel_rfl
def anP:List (bA×hJ):=((13,[]),⟨true,[a17,o1],[o1],u16 MA⟩)::anO
def ar1:vf Tryz.prog anP:=fk (bg 30 [] []) ar0 [] trivial Tryz.func13 (by kernel_rfl) λx=>by kernel_rfl
def Kf:hJ:=⟨true,[a2,a3],[o17],u27 ON⟩
def apC:List (bA×hJ):=((3,[]),Kf)::anP
def ar2:vf Tryz.prog apC:=fk (bg 109 [] []) ar1 [] trivial Tryz.func3 (by kernel_rfl) λx=>by kernel_rfl
def XB:ec Tryz.prog 3 Kf:=ar2.1
end Go.Proofs.YtdbcclejeoljoaaGreatDoor.fnExactApply

