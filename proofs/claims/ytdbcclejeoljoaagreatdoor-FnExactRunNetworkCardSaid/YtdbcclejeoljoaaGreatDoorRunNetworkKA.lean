/- What each function that the law FnExactRunNetwork reaches promises: it computes what its plain function says. Conditions: none. -/
import Derived.Test.YtdbcclejeoljoaaGreatDoorRows
import Derived.Test.YtdbcclejeoljoaaGreatDoorRunNetworkQD
import Derived.Test.YtdbcclejeoljoaaGreatDoorRunNetworkS6
import Derived.Test.YtdbcclejeoljoaaGreatDoorRunNetworkS171
import Derived.KernelRfl
set_option linter.all false
set_option maxRecDepth 100000
noncomputable section
namespace Go.Proofs.YtdbcclejeoljoaaGreatDoor.fnExactRunNetwork
open Go.R Go.Fn
abbrev t0:ar:=.cons (.int .i64) .nil
abbrev t1:ar:=.cons .bool .nil
abbrev t2:ar:=.cons (.int .u8) .nil
abbrev t3:ar:=.cons (.int .i64) (.cons (.int .i64) (.cons .bool (.cons (.int .u8) .nil)))
abbrev t4:ar:=.cons .str .nil
abbrev t5:ar:=.cons (.int .u64) .nil
abbrev t6:ar:=.cons .str (.cons (.int .u64) .nil)
abbrev t7:ar:=.cons (.int .i32) .nil
abbrev t8:ar:=.cons (.int .i64) (.cons (.int .i64) (.cons (.int .i64) (.cons (.int .i64) (.cons (.int .i64) (.cons (.int .i64) (.cons (.int .i64) (.cons (.int .i64) .nil)))))))
abbrev t9:ar:=.cons (.int .i64) (.cons (.int .i64) .nil)
abbrev t10:ar:=.cons (.int .i64) (.cons (.int .i64) (.cons (.int .i64) (.cons .bool .nil)))
abbrev t11:ar:=.cons (.int .i64) (.cons (.sl 3 t0) (.cons (.sl 304 t10) .nil))
abbrev t12:ar:=.cons (.int .i64) (.cons (.int .i64) (.cons (.int .i64) (.cons (.int .i64) (.cons (.int .i64) (.cons (.int .i64) (.cons (.int .i64) .nil))))))
abbrev t13:ar:=.cons (.sl 280 t9) (.cons (.sl 280 t9) (.cons (.sl 236 t11) (.cons (.int .i64) (.cons (.int .i64) (.cons .bool (.cons .bool (.cons .bool (.cons (.int .i64) (.cons (.int .i64) (.cons (.sl 135 t12) .nil))))))))))
abbrev t14:ar:=.cons (.sl 99 t13) .nil
abbrev t15:ar:=.cons (.int .i64) (.cons (.int .i64) (.cons (.int .i64) (.cons (.int .i64) (.cons (.int .i64) (.cons (.int .i64) (.cons (.int .i64) (.cons (.int .i64) (.cons (.int .i64) (.cons (.int .i64) (.cons (.int .i64) (.cons (.int .i64) (.cons (.int .i64) .nil))))))))))))
abbrev t16:ar:=.cons (.sl 131 t15) .nil
abbrev t17:ar:=.cons (.int .i64) (.cons (.int .i64) (.cons (.int .i64) (.cons (.int .i64) (.cons (.int .i64) (.cons (.int .i64) (.cons .bool .nil))))))
abbrev t18:ar:=.cons (.sl 31 t17) .nil
abbrev t19:ar:=.cons (.sl 135 t12) .nil
abbrev t20:ar:=.cons (.int .i64) (.cons (.int .i64) (.cons (.int .i64) (.cons (.int .i64) (.cons (.int .i64) (.cons (.int .i64) (.cons (.int .i64) (.cons (.int .i64) (.cons (.int .i64) (.cons (.int .i64) (.cons (.int .i64) (.cons (.sl 99 t13) (.cons (.sl 131 t15) (.cons (.sl 31 t17) (.cons (.sl 135 t12) .nil))))))))))))))
abbrev t21:ar:=.cons (.int .i64) (.cons (.int .i64) (.cons (.int .i64) (.cons (.int .i64) (.cons .str (.cons (.int .i64) (.cons (.int .i64) (.cons (.int .i64) (.cons (.int .i64) (.cons (.int .i64) (.cons (.int .i64) (.cons .bool .nil)))))))))))
abbrev t22:ar:=.cons (.int .i64) (.cons (.sl 3 t0) (.cons (.sl 165 t10) .nil))
abbrev t23:ar:=.cons (.sl 198 t9) (.cons (.sl 198 t9) (.cons (.sl 167 t22) (.cons (.int .i64) (.cons (.int .i64) (.cons .bool (.cons .bool (.cons .bool (.cons (.int .i64) (.cons (.int .i64) (.cons (.sl 133 t12) .nil))))))))))
abbrev t24:ar:=.cons (.sl 112 t23) .nil
abbrev t25:ar:=.cons (.sl 118 t15) .nil
abbrev t26:ar:=.cons (.sl 46 t17) .nil
abbrev t27:ar:=.cons (.sl 133 t12) .nil
abbrev t28:ar:=.cons (.int .i64) (.cons (.int .i64) (.cons (.int .i64) (.cons (.int .i64) (.cons (.int .i64) (.cons (.int .i64) (.cons (.int .i64) (.cons (.int .i64) (.cons (.int .i64) (.cons (.int .i64) (.cons (.int .i64) (.cons (.sl 112 t23) (.cons (.sl 118 t15) (.cons (.sl 46 t17) (.cons (.sl 133 t12) .nil))))))))))))))
abbrev t29:ar:=.cons (.sl 33 t21) .nil
abbrev t30:ar:=.cons (.sl 3 t0) .nil
abbrev t31:ar:=.cons (.sl 48 t21) .nil
abbrev t32:ar:=.cons (.sl 280 t9) .nil
abbrev t33:ar:=.cons (.sl 280 t9) (.cons (.sl 280 t9) .nil)
abbrev t34:ar:=.cons (.sl 236 t11) .nil
abbrev t35:ar:=.cons (.int .i64) (.cons (.int .i64) (.cons .bool (.cons .bool (.cons .bool .nil))))
abbrev t36:ar:=.cons (.sl 198 t9) .nil
abbrev t37:ar:=.cons (.sl 198 t9) (.cons (.sl 198 t9) .nil)
abbrev t38:ar:=.cons (.sl 167 t22) .nil
abbrev t39:ar:=.cons (.int .i64) (.cons (.int .i64) (.cons (.int .i64) (.cons (.int .i64) (.cons (.int .i64) .nil))))
abbrev t40:ar:=.cons (.int .i64) (.cons (.int .i64) (.cons (.int .i64) .nil))
abbrev t41:ar:=.cons (.int .i64) (.cons (.int .i64) (.cons (.int .i64) (.cons (.int .i64) .nil)))
abbrev t42:ar:=.cons (.sl 165 t10) .nil
abbrev t43:ar:=.cons (.sl 5 t2) .nil
abbrev t44:ar:=.cons .bool (.cons .bool (.cons .bool (.cons .bool .nil)))
abbrev t45:ar:=.cons (.sl 304 t10) .nil
abbrev t46:ar:=.cons (.map .i64) .nil
abbrev t47:ar:=.cons (.sl 146 t40) .nil
abbrev t48:ar:=.cons (.sl 4 t1) .nil
abbrev t49:ar:=.cons (.sl 276 t48) .nil
abbrev t50:ar:=.cons (.sl 252 t46) .nil
abbrev t51:ar:=.cons (.sl 287 t39) .nil
abbrev t52:ar:=.cons (.int .u32) .nil
abbrev t53:ar:=.cons (.sl 163 t42) .nil
abbrev z7:SL:=.val (.int .i64)
abbrev atn:SL:=.val .str
abbrev ajD:SL:=.val .bool
abbrev v0:K:=.val (.sl 280 t9)
abbrev v1:K:=.val (.int .i64)
abbrev v2:K:=.val (.sl 3 t0)
abbrev v3:K:=.val (.sl 304 t10)
abbrev v4:K:=.val (.sl 236 t11)
abbrev v5:K:=.val (.sl 135 t12)
abbrev v6:K:=.val .bool
abbrev v7:K:=.val (.sl 99 t13)
abbrev v8:K:=.val (.sl 131 t15)
abbrev v9:K:=.val (.sl 31 t17)
abbrev v10:K:=.val .str
abbrev v11:K:=.val (.sl 33 t21)
abbrev v12:K:=.val (.sl 198 t9)
abbrev v13:K:=.val (.sl 165 t10)
abbrev v14:K:=.val (.sl 167 t22)
abbrev v15:K:=.val (.sl 112 t23)
abbrev v16:K:=.val (.sl 118 t15)
abbrev v17:K:=.val (.sl 46 t17)
abbrev v18:K:=.val (.sl 133 t12)
abbrev v19:K:=.val (.sl 146 t40)
abbrev v20:K:=.val (.sl 276 t48)
abbrev v21:K:=.val (.int .u8)
abbrev v22:K:=.val (.sl 48 t21)
abbrev v23:K:=.val (.sl 163 t42)
abbrev v24:K:=.arr 198 t9 false
abbrev v25:K:=.arr 3 t0 false
abbrev v26:K:=.arr 165 t10 false
abbrev v27:K:=.arr 167 t22 true
abbrev v28:K:=.arr 133 t12 false
abbrev v29:K:=.arr 112 t23 true
abbrev v30:K:=.arr 118 t15 false
abbrev v31:K:=.arr 46 t17 false
abbrev v32:K:=.arr 48 t21 false
abbrev v33:K:=.arr 146 t40 false
abbrev v34:K:=.arr 276 t48 true
abbrev v35:K:=.arr 4 t1 false
abbrev v36:K:=.arr 252 t46 false
abbrev v37:K:=.arr 287 t39 false
abbrev o0:Sh:=.one v0
abbrev o1:Sh:=.one v1
abbrev o2:Sh:=.one v2
abbrev o3:Sh:=.one v3
abbrev o4:Sh:=.one v4
abbrev o5:Sh:=.one v5
abbrev o6:Sh:=.one v7
abbrev o7:Sh:=.one v8
abbrev o8:Sh:=.one v9
abbrev o9:Sh:=.one v11
abbrev o10:Sh:=.one v24
abbrev o11:Sh:=.one v25
abbrev o12:Sh:=.one v26
abbrev o13:Sh:=.one v27
abbrev o14:Sh:=.one v28
abbrev o15:Sh:=.one v29
abbrev o16:Sh:=.one v30
abbrev o17:Sh:=.one v31
abbrev o18:Sh:=.one v32
abbrev o19:Sh:=.one v14
abbrev o20:Sh:=.one v6
abbrev o21:Sh:=.one v17
abbrev o22:Sh:=.one v18
abbrev o23:Sh:=.one v12
abbrev o24:Sh:=.one v13
abbrev o25:Sh:=.one v33
abbrev o26:Sh:=.one v19
abbrev o27:Sh:=.one v34
abbrev o28:Sh:=.one v35
abbrev o29:Sh:=.one v20
abbrev o30:Sh:=.one v21
abbrev o31:Sh:=.one v10
abbrev o32:Sh:=.one v22
abbrev o33:Sh:=.one v16
abbrev o34:Sh:=.one v15
abbrev o35:Sh:=.one v36
abbrev o36:Sh:=.one v37
abbrev o37:Sh:=.one v23
abbrev a0:Sh:=.agg [v1,v2,v3]
abbrev a1:Sh:=.agg [v0,v0,v4,v1,v1,v6,v6,v6,v1,v1,v5]
abbrev a2:Sh:=.agg [v1,v1,v1,v1,v1,v1,v1,v1,v1,v1,v1,v7,v8,v9,v5]
abbrev a3:Sh:=.agg [v1,v1,v1,v1,v10,v1,v1,v1,v1,v1,v1,v6]
abbrev a4:Sh:=.agg [v1,v1,v1,v1,v1,v1,v1,v1]
abbrev a5:Sh:=.agg [v24,v24]
abbrev a6:Sh:=.agg [v1,v1,v1,v6]
abbrev a7:Sh:=.agg [v1,v25,v26]
abbrev a8:Sh:=.agg [v1,v1,v6,v6,v6]
abbrev a9:Sh:=.agg [v1,v1,v1,v1,v1,v1,v1]
abbrev a10:Sh:=.agg [v1,v1,v1,v1,v1]
abbrev a11:Sh:=.agg [v1,v1,v1,v1,v1,v1,v1,v1,v1,v1,v1,v1,v1]
abbrev a12:Sh:=.agg [v1,v1,v1,v1,v1,v1,v6]
abbrev a13:Sh:=.agg [v1,v1,v1,v1,v1,v1,v1,v1,v1,v1,v1,v29,v30,v31,v28]
abbrev a14:Sh:=.agg [v12,v12]
abbrev a15:Sh:=.agg [v1,v2,v13]
abbrev a16:Sh:=.blk [v1,v1,v1,v1,v1,v1,v1,v1,v1,v1,v1,v29,v30,v31,v28]
abbrev a17:Sh:=.agg [v1,v1,v1,v1,v1,v1,v1,v1,v1,v1,v1,v15,v16,v17,v18]
abbrev a18:Sh:=.blk [v1,v1,v1,v6]
abbrev a19:Sh:=.agg [v1,v1,v1]
abbrev a20:Sh:=.blk [v1,v25,v26]
abbrev a21:Sh:=.blk [v1,v1,v1,v1,v1,v1,v1]
abbrev a22:Sh:=.agg [v1,v1,v1,v1]
abbrev a23:Sh:=.agg [v6,v6,v6,v6]
abbrev a24:Sh:=.blk [v1,v1,v1,v1,v1,v1,v1,v1,v1,v1,v1,v29,v16,v17,v18]
abbrev a25:Sh:=.blk [v1,v1,v1]
abbrev a26:Sh:=.agg [v12,v12,v14,v1,v1,v6,v6,v6,v1,v1,v18]
def table:List (Nat×TI):=[(2,⟨t0,false,8,[],none⟩),
 (3,⟨t0,false,8,[],none⟩),
 (4,⟨t1,false,1,[],none⟩),
 (5,⟨t2,false,1,[],none⟩),
 (6,⟨t2,false,1,[],none⟩),
 (7,⟨t3,true,24,[(0,1,false),(1,1,false),(2,1,false),(3,1,false)],none⟩),
 (8,⟨t3,true,24,[(0,1,false),(1,1,false),(2,1,false),(3,1,false)],none⟩),
 (9,⟨t4,false,16,[],none⟩),
 (10,⟨t4,false,16,[],none⟩),
 (11,⟨t4,false,16,[],none⟩),
 (12,⟨t5,false,8,[],none⟩),
 (13,⟨t6,true,24,[(0,1,false),(1,1,false)],none⟩),
 (14,⟨t6,true,24,[(0,1,false),(1,1,false)],none⟩),
 (21,⟨t7,false,4,[],none⟩),
 (22,⟨t8,true,64,[(0,1,false),(1,1,false),(2,1,false),(3,1,false),(4,1,false),(5,1,false),(6,1,false),(7,1,false)],none⟩),
 (23,⟨t8,true,64,[(0,1,false),(1,1,false),(2,1,false),(3,1,false),(4,1,false),(5,1,false),(6,1,false),(7,1,false)],none⟩),
 (24,⟨t14,false,24,[],some 99⟩),
 (25,⟨t16,false,24,[],some 131⟩),
 (26,⟨t18,false,24,[],some 31⟩),
 (27,⟨t19,false,24,[],some 135⟩),
 (28,⟨t20,true,184,[(0,8,true),(8,1,false),(9,1,false),(10,1,false),(11,1,false),(12,1,false),(13,1,false),(14,1,false)],none⟩),
 (29,⟨t20,true,184,[(0,8,true),(8,1,false),(9,1,false),(10,1,false),(11,1,false),(12,1,false),(13,1,false),(14,1,false)],none⟩),
 (30,⟨t17,true,56,[(0,1,false),(1,1,false),(2,1,false),(3,1,false),(4,1,false),(5,1,false),(6,1,false)],none⟩),
 (31,⟨t17,true,56,[(0,1,false),(1,1,false),(2,1,false),(3,1,false),(4,1,false),(5,1,false),(6,1,false)],none⟩),
 (32,⟨t21,true,104,[(0,1,false),(1,1,false),(2,1,false),(3,1,false),(4,1,false),(5,7,true)],none⟩),
 (33,⟨t21,true,104,[(0,1,false),(1,1,false),(2,1,false),(3,1,false),(4,1,false),(5,7,true)],none⟩),
 (36,⟨t8,true,64,[(0,1,false),(1,1,false),(2,1,false),(3,1,false),(4,1,false),(5,1,false),(6,1,false),(7,1,false)],none⟩),
 (37,⟨t24,false,24,[],some 112⟩),
 (38,⟨t25,false,24,[],some 118⟩),
 (39,⟨t26,false,24,[],some 46⟩),
 (40,⟨t27,false,24,[],some 133⟩),
 (41,⟨t28,true,184,[(0,8,true),(8,1,false),(9,1,false),(10,1,false),(11,1,false),(12,1,false),(13,1,false),(14,1,false)],none⟩),
 (42,⟨t28,true,184,[(0,8,true),(8,1,false),(9,1,false),(10,1,false),(11,1,false),(12,1,false),(13,1,false),(14,1,false)],none⟩),
 (46,⟨t17,true,56,[(0,1,false),(1,1,false),(2,1,false),(3,1,false),(4,1,false),(5,1,false),(6,1,false)],none⟩),
 (47,⟨t21,true,104,[(0,1,false),(1,1,false),(2,1,false),(3,1,false),(4,1,false),(5,7,true)],none⟩),
 (48,⟨t21,true,104,[(0,1,false),(1,1,false),(2,1,false),(3,1,false),(4,1,false),(5,7,true)],none⟩),
 (53,⟨t29,false,24,[],some 33⟩),
 (55,⟨t30,false,24,[],some 3⟩),
 (58,⟨t31,false,24,[],some 48⟩),
 (92,⟨t32,false,24,[],some 280⟩),
 (93,⟨t33,true,48,[(0,1,false),(1,1,false)],none⟩),
 (94,⟨t33,true,48,[(0,1,false),(1,1,false)],none⟩),
 (95,⟨t34,false,24,[],some 236⟩),
 (96,⟨t35,true,24,[(0,1,false),(1,1,false),(2,1,false),(3,1,false),(4,1,false)],none⟩),
 (97,⟨t35,true,24,[(0,1,false),(1,1,false),(2,1,false),(3,1,false),(4,1,false)],none⟩),
 (98,⟨t13,true,136,[(0,2,true),(2,1,false),(3,5,true),(8,1,false),(9,1,false),(10,1,false)],none⟩),
 (99,⟨t13,true,136,[(0,2,true),(2,1,false),(3,5,true),(8,1,false),(9,1,false),(10,1,false)],none⟩),
 (106,⟨t36,false,24,[],some 198⟩),
 (107,⟨t37,true,48,[(0,1,false),(1,1,false)],none⟩),
 (108,⟨t37,true,48,[(0,1,false),(1,1,false)],none⟩),
 (109,⟨t38,false,24,[],some 167⟩),
 (110,⟨t35,true,24,[(0,1,false),(1,1,false),(2,1,false),(3,1,false),(4,1,false)],none⟩),
 (111,⟨t23,true,136,[(0,2,true),(2,1,false),(3,5,true),(8,1,false),(9,1,false),(10,1,false)],none⟩),
 (112,⟨t23,true,136,[(0,2,true),(2,1,false),(3,5,true),(8,1,false),(9,1,false),(10,1,false)],none⟩),
 (115,⟨t39,true,40,[(0,1,false),(1,1,false),(2,1,false),(3,1,false),(4,1,false)],none⟩),
 (116,⟨t39,true,40,[(0,1,false),(1,1,false),(2,1,false),(3,1,false),(4,1,false)],none⟩),
 (117,⟨t15,true,104,[(0,1,false),(1,1,false),(2,1,false),(3,1,false),(4,1,false),(5,1,false),(6,5,true),(11,1,false),(12,1,false)],none⟩),
 (118,⟨t15,true,104,[(0,1,false),(1,1,false),(2,1,false),(3,1,false),(4,1,false),(5,1,false),(6,5,true),(11,1,false),(12,1,false)],none⟩),
 (129,⟨t39,true,40,[(0,1,false),(1,1,false),(2,1,false),(3,1,false),(4,1,false)],none⟩),
 (130,⟨t15,true,104,[(0,1,false),(1,1,false),(2,1,false),(3,1,false),(4,1,false),(5,1,false),(6,5,true),(11,1,false),(12,1,false)],none⟩),
 (131,⟨t15,true,104,[(0,1,false),(1,1,false),(2,1,false),(3,1,false),(4,1,false),(5,1,false),(6,5,true),(11,1,false),(12,1,false)],none⟩),
 (132,⟨t12,true,56,[(0,1,false),(1,1,false),(2,1,false),(3,1,false),(4,1,false),(5,1,false),(6,1,false)],none⟩),
 (133,⟨t12,true,56,[(0,1,false),(1,1,false),(2,1,false),(3,1,false),(4,1,false),(5,1,false),(6,1,false)],none⟩),
 (135,⟨t12,true,56,[(0,1,false),(1,1,false),(2,1,false),(3,1,false),(4,1,false),(5,1,false),(6,1,false)],none⟩),
 (145,⟨t40,true,24,[(0,1,false),(1,1,false),(2,1,false)],none⟩),
 (146,⟨t40,true,24,[(0,1,false),(1,1,false),(2,1,false)],none⟩),
 (153,⟨t41,true,32,[(0,1,false),(1,1,false),(2,1,false),(3,1,false)],none⟩),
 (154,⟨t41,true,32,[(0,1,false),(1,1,false),(2,1,false),(3,1,false)],none⟩),
 (163,⟨t42,false,24,[],some 165⟩),
 (164,⟨t10,true,32,[(0,1,false),(1,1,false),(2,1,false),(3,1,false)],none⟩),
 (165,⟨t10,true,32,[(0,1,false),(1,1,false),(2,1,false),(3,1,false)],none⟩),
 (166,⟨t22,true,56,[(0,1,false),(1,1,false),(2,1,false)],none⟩),
 (167,⟨t22,true,56,[(0,1,false),(1,1,false),(2,1,false)],none⟩),
 (176,⟨t43,false,24,[],some 5⟩),
 (197,⟨t9,true,16,[(0,1,false),(1,1,false)],none⟩),
 (198,⟨t9,true,16,[(0,1,false),(1,1,false)],none⟩),
 (214,⟨t44,true,4,[(0,1,false),(1,1,false),(2,1,false),(3,1,false)],none⟩),
 (215,⟨t44,true,4,[(0,1,false),(1,1,false),(2,1,false),(3,1,false)],none⟩),
 (234,⟨t45,false,24,[],some 304⟩),
 (235,⟨t11,true,56,[(0,1,false),(1,1,false),(2,1,false)],none⟩),
 (236,⟨t11,true,56,[(0,1,false),(1,1,false),(2,1,false)],none⟩),
 (252,⟨t46,false,8,[],none⟩),
 (257,⟨t47,false,24,[],some 146⟩),
 (267,⟨t5,false,8,[],none⟩),
 (272,⟨t49,false,24,[],some 276⟩),
 (276,⟨t48,false,24,[],some 4⟩),
 (280,⟨t9,true,16,[(0,1,false),(1,1,false)],none⟩),
 (282,⟨t50,false,24,[],some 252⟩),
 (284,⟨t51,false,24,[],some 287⟩),
 (286,⟨t39,true,40,[(0,3,true),(3,1,false),(4,1,false)],none⟩),
 (287,⟨t39,true,40,[(0,3,true),(3,1,false),(4,1,false)],none⟩),
 (290,⟨t0,false,8,[],none⟩),
 (297,⟨t52,false,4,[],none⟩),
 (299,⟨t5,false,8,[],none⟩),
 (304,⟨t10,true,32,[(0,1,false),(1,1,false),(2,1,false),(3,1,false)],none⟩),
 (307,⟨t53,false,24,[],some 163⟩),
 (309,⟨t5,false,8,[],none⟩),
 (336,⟨t2,false,1,[],none⟩),
 (337,⟨t2,false,1,[],none⟩),
 (340,⟨t7,false,4,[],none⟩),
 (341,⟨t7,false,4,[],none⟩)]
def aiE:D2 Tryz.prog table=true:=by kernel_rfl
def eqs:List Nat:=[110,116,133]
def akB:(eqs.all λt=>yc Tryz.prog (wM table) t)=true:=by kernel_rfl
def maps:List (Nat×IntKind):=[(252,.i64)]
def ajv:(maps.all λp=>D4 Tryz.prog p.1 p.2)=true:=by kernel_rfl
def env(nt:Nat)(tr dp:List Nat):Env:={ ti:=wM table,deep:=λd=>dp.any (Nat.beq d),trunc:=λd=>tr.any (Nat.beq d),ro:=λ_=>false,Fx:=λt=>eqs.any (Nat.beq t),mp:=zA maps,nt:=nt }
def bg(nt:Nat)(tr dp:List Nat):bD Tryz.prog (env nt tr dp):=E3 (by kernel_rfl) aiE akB ajv _ rfl (λ_=>rfl) rfl
def u1{A0 B C:Type}(f:A0->C)(x:A0×B):C:=f x.1
def u2{A0 A1 B C:Type}(f:A0->A1->C)(x:A0×A1×B):C:=f x.1 x.2.1
def u3{A0 A1 A2 B C:Type}(f:A0->A1->A2->C)(x:A0×A1×A2×B):C:=f x.1 x.2.1 x.2.2.1
def u4{A0 A1 A2 A3 B C:Type}(f:A0->A1->A2->A3->C)(x:A0×A1×A2×A3×B):C:=f x.1 x.2.1 x.2.2.1 x.2.2.2.1
def u5{A0 A1 A2 A3 A4 B C:Type}(f:A0->A1->A2->A3->A4->C)(x:A0×A1×A2×A3×A4×B):C:=f x.1 x.2.1 x.2.2.1 x.2.2.2.1 x.2.2.2.2.1
def u6{A0 A1 A2 A3 A4 A5 B C:Type}(f:A0->A1->A2->A3->A4->A5->C)(x:A0×A1×A2×A3×A4×A5×B):C:=f x.1 x.2.1 x.2.2.1 x.2.2.2.1 x.2.2.2.2.1 x.2.2.2.2.2.1
def u7{A0 A1 A2 A3 A4 A5 A6 B C:Type}(f:A0->A1->A2->A3->A4->A5->A6->C)(x:A0×A1×A2×A3×A4×A5×A6×B):C:=f x.1 x.2.1 x.2.2.1 x.2.2.2.1 x.2.2.2.2.1 x.2.2.2.2.2.1 x.2.2.2.2.2.2.1
def u8{A0 A1 A2 A3 A4 A5 A6 A7 B C:Type}(f:A0->A1->A2->A3->A4->A5->A6->A7->C)(x:A0×A1×A2×A3×A4×A5×A6×A7×B):C:=f x.1 x.2.1 x.2.2.1 x.2.2.2.1 x.2.2.2.2.1 x.2.2.2.2.2.1 x.2.2.2.2.2.2.1 x.2.2.2.2.2.2.2.1
def u9{A0 A1 A2 A3 A4 A5 A6 A7 A8 B C:Type}(f:A0->A1->A2->A3->A4->A5->A6->A7->A8->C)(x:A0×A1×A2×A3×A4×A5×A6×A7×A8×B):C:=f x.1 x.2.1 x.2.2.1 x.2.2.2.1 x.2.2.2.2.1 x.2.2.2.2.2.1 x.2.2.2.2.2.2.1 x.2.2.2.2.2.2.2.1 x.2.2.2.2.2.2.2.2.1
def u10{A0 A1 A2 A3 A4 A5 A6 A7 A8 A9 B C:Type}(f:A0->A1->A2->A3->A4->A5->A6->A7->A8->A9->C)(x:A0×A1×A2×A3×A4×A5×A6×A7×A8×A9×B):C:=f x.1 x.2.1 x.2.2.1 x.2.2.2.1 x.2.2.2.2.1 x.2.2.2.2.2.1 x.2.2.2.2.2.2.1 x.2.2.2.2.2.2.2.1 x.2.2.2.2.2.2.2.2.1 x.2.2.2.2.2.2.2.2.2.1
def u11{A0 A1 A2 A3 A4 A5 A6 A7 A8 A9 VD B C:Type}(f:A0->A1->A2->A3->A4->A5->A6->A7->A8->A9->VD->C)(x:A0×A1×A2×A3×A4×A5×A6×A7×A8×A9×VD×B):C:=f x.1 x.2.1 x.2.2.1 x.2.2.2.1 x.2.2.2.2.1 x.2.2.2.2.2.1 x.2.2.2.2.2.2.1 x.2.2.2.2.2.2.2.1 x.2.2.2.2.2.2.2.2.1 x.2.2.2.2.2.2.2.2.2.1 x.2.2.2.2.2.2.2.2.2.2.1
def u12{A0 A1 A2 A3 A4 A5 A6 A7 A8 A9 VD Wv B C:Type}(f:A0->A1->A2->A3->A4->A5->A6->A7->A8->A9->VD->Wv->C)(x:A0×A1×A2×A3×A4×A5×A6×A7×A8×A9×VD×Wv×B):C:=f x.1 x.2.1 x.2.2.1 x.2.2.2.1 x.2.2.2.2.1 x.2.2.2.2.2.1 x.2.2.2.2.2.2.1 x.2.2.2.2.2.2.2.1 x.2.2.2.2.2.2.2.2.1 x.2.2.2.2.2.2.2.2.2.1 x.2.2.2.2.2.2.2.2.2.2.1 x.2.2.2.2.2.2.2.2.2.2.2.1
def u13{A0 A1 A2 A3 A4 A5 A6 A7 A8 A9 VD Wv Xe B C:Type}(f:A0->A1->A2->A3->A4->A5->A6->A7->A8->A9->VD->Wv->Xe->C)(x:A0×A1×A2×A3×A4×A5×A6×A7×A8×A9×VD×Wv×Xe×B):C:=f x.1 x.2.1 x.2.2.1 x.2.2.2.1 x.2.2.2.2.1 x.2.2.2.2.2.1 x.2.2.2.2.2.2.1 x.2.2.2.2.2.2.2.1 x.2.2.2.2.2.2.2.2.1 x.2.2.2.2.2.2.2.2.2.1 x.2.2.2.2.2.2.2.2.2.2.1 x.2.2.2.2.2.2.2.2.2.2.2.1 x.2.2.2.2.2.2.2.2.2.2.2.2.1
def u14{A0 A1 A2 A3 A4 A5 A6 A7 A8 A9 VD Wv Xe Yy B C:Type}(f:A0->A1->A2->A3->A4->A5->A6->A7->A8->A9->VD->Wv->Xe->Yy->C)(x:A0×A1×A2×A3×A4×A5×A6×A7×A8×A9×VD×Wv×Xe×Yy×B):C:=f x.1 x.2.1 x.2.2.1 x.2.2.2.1 x.2.2.2.2.1 x.2.2.2.2.2.1 x.2.2.2.2.2.2.1 x.2.2.2.2.2.2.2.1 x.2.2.2.2.2.2.2.2.1 x.2.2.2.2.2.2.2.2.2.1 x.2.2.2.2.2.2.2.2.2.2.1 x.2.2.2.2.2.2.2.2.2.2.2.1 x.2.2.2.2.2.2.2.2.2.2.2.2.1 x.2.2.2.2.2.2.2.2.2.2.2.2.2.1
def u15{A0 A1 A2 A3 A4 A5 A6 A7 A8 A9 VD Wv Xe Yy Zk B C:Type}(f:A0->A1->A2->A3->A4->A5->A6->A7->A8->A9->VD->Wv->Xe->Yy->Zk->C)(x:A0×A1×A2×A3×A4×A5×A6×A7×A8×A9×VD×Wv×Xe×Yy×Zk×B):C:=f x.1 x.2.1 x.2.2.1 x.2.2.2.1 x.2.2.2.2.1 x.2.2.2.2.2.1 x.2.2.2.2.2.2.1 x.2.2.2.2.2.2.2.1 x.2.2.2.2.2.2.2.2.1 x.2.2.2.2.2.2.2.2.2.1 x.2.2.2.2.2.2.2.2.2.2.1 x.2.2.2.2.2.2.2.2.2.2.2.1 x.2.2.2.2.2.2.2.2.2.2.2.2.1 x.2.2.2.2.2.2.2.2.2.2.2.2.2.1 x.2.2.2.2.2.2.2.2.2.2.2.2.2.2.1
def u16{A0 A1 A2 A3 A4 A5 A6 A7 A8 A9 VD Wv Xe Yy Zk A15 B C:Type}(f:A0->A1->A2->A3->A4->A5->A6->A7->A8->A9->VD->Wv->Xe->Yy->Zk->A15->C)(x:A0×A1×A2×A3×A4×A5×A6×A7×A8×A9×VD×Wv×Xe×Yy×Zk×A15×B):C:=f x.1 x.2.1 x.2.2.1 x.2.2.2.1 x.2.2.2.2.1 x.2.2.2.2.2.1 x.2.2.2.2.2.2.1 x.2.2.2.2.2.2.2.1 x.2.2.2.2.2.2.2.2.1 x.2.2.2.2.2.2.2.2.2.1 x.2.2.2.2.2.2.2.2.2.2.1 x.2.2.2.2.2.2.2.2.2.2.2.1 x.2.2.2.2.2.2.2.2.2.2.2.2.1 x.2.2.2.2.2.2.2.2.2.2.2.2.2.1 x.2.2.2.2.2.2.2.2.2.2.2.2.2.2.1 x.2.2.2.2.2.2.2.2.2.2.2.2.2.2.2.1
def u18{A0 A1 A2 A3 A4 A5 A6 A7 A8 A9 VD Wv Xe Yy Zk A15 A16 A17 B C:Type}(f:A0->A1->A2->A3->A4->A5->A6->A7->A8->A9->VD->Wv->Xe->Yy->Zk->A15->A16->A17->C)(x:A0×A1×A2×A3×A4×A5×A6×A7×A8×A9×VD×Wv×Xe×Yy×Zk×A15×A16×A17×B):C:=f x.1 x.2.1 x.2.2.1 x.2.2.2.1 x.2.2.2.2.1 x.2.2.2.2.2.1 x.2.2.2.2.2.2.1 x.2.2.2.2.2.2.2.1 x.2.2.2.2.2.2.2.2.1 x.2.2.2.2.2.2.2.2.2.1 x.2.2.2.2.2.2.2.2.2.2.1 x.2.2.2.2.2.2.2.2.2.2.2.1 x.2.2.2.2.2.2.2.2.2.2.2.2.1 x.2.2.2.2.2.2.2.2.2.2.2.2.2.1 x.2.2.2.2.2.2.2.2.2.2.2.2.2.2.1 x.2.2.2.2.2.2.2.2.2.2.2.2.2.2.2.1 x.2.2.2.2.2.2.2.2.2.2.2.2.2.2.2.2.1 x.2.2.2.2.2.2.2.2.2.2.2.2.2.2.2.2.2.1
def u20{A0 A1 A2 A3 A4 A5 A6 A7 A8 A9 VD Wv Xe Yy Zk A15 A16 A17 A18 A19 B C:Type}(f:A0->A1->A2->A3->A4->A5->A6->A7->A8->A9->VD->Wv->Xe->Yy->Zk->A15->A16->A17->A18->A19->C)(x:A0×A1×A2×A3×A4×A5×A6×A7×A8×A9×VD×Wv×Xe×Yy×Zk×A15×A16×A17×A18×A19×B):C:=f x.1 x.2.1 x.2.2.1 x.2.2.2.1 x.2.2.2.2.1 x.2.2.2.2.2.1 x.2.2.2.2.2.2.1 x.2.2.2.2.2.2.2.1 x.2.2.2.2.2.2.2.2.1 x.2.2.2.2.2.2.2.2.2.1 x.2.2.2.2.2.2.2.2.2.2.1 x.2.2.2.2.2.2.2.2.2.2.2.1 x.2.2.2.2.2.2.2.2.2.2.2.2.1 x.2.2.2.2.2.2.2.2.2.2.2.2.2.1 x.2.2.2.2.2.2.2.2.2.2.2.2.2.2.1 x.2.2.2.2.2.2.2.2.2.2.2.2.2.2.2.1 x.2.2.2.2.2.2.2.2.2.2.2.2.2.2.2.2.1 x.2.2.2.2.2.2.2.2.2.2.2.2.2.2.2.2.2.1 x.2.2.2.2.2.2.2.2.2.2.2.2.2.2.2.2.2.2.1 x.2.2.2.2.2.2.2.2.2.2.2.2.2.2.2.2.2.2.2.1
def u22{A0 A1 A2 A3 A4 A5 A6 A7 A8 A9 VD Wv Xe Yy Zk A15 A16 A17 A18 A19 A20 A21 B C:Type}(f:A0->A1->A2->A3->A4->A5->A6->A7->A8->A9->VD->Wv->Xe->Yy->Zk->A15->A16->A17->A18->A19->A20->A21->C)(x:A0×A1×A2×A3×A4×A5×A6×A7×A8×A9×VD×Wv×Xe×Yy×Zk×A15×A16×A17×A18×A19×A20×A21×B):C:=f x.1 x.2.1 x.2.2.1 x.2.2.2.1 x.2.2.2.2.1 x.2.2.2.2.2.1 x.2.2.2.2.2.2.1 x.2.2.2.2.2.2.2.1 x.2.2.2.2.2.2.2.2.1 x.2.2.2.2.2.2.2.2.2.1 x.2.2.2.2.2.2.2.2.2.2.1 x.2.2.2.2.2.2.2.2.2.2.2.1 x.2.2.2.2.2.2.2.2.2.2.2.2.1 x.2.2.2.2.2.2.2.2.2.2.2.2.2.1 x.2.2.2.2.2.2.2.2.2.2.2.2.2.2.1 x.2.2.2.2.2.2.2.2.2.2.2.2.2.2.2.1 x.2.2.2.2.2.2.2.2.2.2.2.2.2.2.2.2.1 x.2.2.2.2.2.2.2.2.2.2.2.2.2.2.2.2.2.1 x.2.2.2.2.2.2.2.2.2.2.2.2.2.2.2.2.2.2.1 x.2.2.2.2.2.2.2.2.2.2.2.2.2.2.2.2.2.2.2.1 x.2.2.2.2.2.2.2.2.2.2.2.2.2.2.2.2.2.2.2.2.1 x.2.2.2.2.2.2.2.2.2.2.2.2.2.2.2.2.2.2.2.2.2.1
def u24{A0 A1 A2 A3 A4 A5 A6 A7 A8 A9 VD Wv Xe Yy Zk A15 A16 A17 A18 A19 A20 A21 A22 A23 B C:Type}(f:A0->A1->A2->A3->A4->A5->A6->A7->A8->A9->VD->Wv->Xe->Yy->Zk->A15->A16->A17->A18->A19->A20->A21->A22->A23->C)(x:A0×A1×A2×A3×A4×A5×A6×A7×A8×A9×VD×Wv×Xe×Yy×Zk×A15×A16×A17×A18×A19×A20×A21×A22×A23×B):C:=f x.1 x.2.1 x.2.2.1 x.2.2.2.1 x.2.2.2.2.1 x.2.2.2.2.2.1 x.2.2.2.2.2.2.1 x.2.2.2.2.2.2.2.1 x.2.2.2.2.2.2.2.2.1 x.2.2.2.2.2.2.2.2.2.1 x.2.2.2.2.2.2.2.2.2.2.1 x.2.2.2.2.2.2.2.2.2.2.2.1 x.2.2.2.2.2.2.2.2.2.2.2.2.1 x.2.2.2.2.2.2.2.2.2.2.2.2.2.1 x.2.2.2.2.2.2.2.2.2.2.2.2.2.2.1 x.2.2.2.2.2.2.2.2.2.2.2.2.2.2.2.1 x.2.2.2.2.2.2.2.2.2.2.2.2.2.2.2.2.1 x.2.2.2.2.2.2.2.2.2.2.2.2.2.2.2.2.2.1 x.2.2.2.2.2.2.2.2.2.2.2.2.2.2.2.2.2.2.1 x.2.2.2.2.2.2.2.2.2.2.2.2.2.2.2.2.2.2.2.1 x.2.2.2.2.2.2.2.2.2.2.2.2.2.2.2.2.2.2.2.2.1 x.2.2.2.2.2.2.2.2.2.2.2.2.2.2.2.2.2.2.2.2.2.1 x.2.2.2.2.2.2.2.2.2.2.2.2.2.2.2.2.2.2.2.2.2.2.1 x.2.2.2.2.2.2.2.2.2.2.2.2.2.2.2.2.2.2.2.2.2.2.2.1
def u26{A0 A1 A2 A3 A4 A5 A6 A7 A8 A9 VD Wv Xe Yy Zk A15 A16 A17 A18 A19 A20 A21 A22 A23 A24 A25 B C:Type}(f:A0->A1->A2->A3->A4->A5->A6->A7->A8->A9->VD->Wv->Xe->Yy->Zk->A15->A16->A17->A18->A19->A20->A21->A22->A23->A24->A25->C)(x:A0×A1×A2×A3×A4×A5×A6×A7×A8×A9×VD×Wv×Xe×Yy×Zk×A15×A16×A17×A18×A19×A20×A21×A22×A23×A24×A25×B):C:=f x.1 x.2.1 x.2.2.1 x.2.2.2.1 x.2.2.2.2.1 x.2.2.2.2.2.1 x.2.2.2.2.2.2.1 x.2.2.2.2.2.2.2.1 x.2.2.2.2.2.2.2.2.1 x.2.2.2.2.2.2.2.2.2.1 x.2.2.2.2.2.2.2.2.2.2.1 x.2.2.2.2.2.2.2.2.2.2.2.1 x.2.2.2.2.2.2.2.2.2.2.2.2.1 x.2.2.2.2.2.2.2.2.2.2.2.2.2.1 x.2.2.2.2.2.2.2.2.2.2.2.2.2.2.1 x.2.2.2.2.2.2.2.2.2.2.2.2.2.2.2.1 x.2.2.2.2.2.2.2.2.2.2.2.2.2.2.2.2.1 x.2.2.2.2.2.2.2.2.2.2.2.2.2.2.2.2.2.1 x.2.2.2.2.2.2.2.2.2.2.2.2.2.2.2.2.2.2.1 x.2.2.2.2.2.2.2.2.2.2.2.2.2.2.2.2.2.2.2.1 x.2.2.2.2.2.2.2.2.2.2.2.2.2.2.2.2.2.2.2.2.1 x.2.2.2.2.2.2.2.2.2.2.2.2.2.2.2.2.2.2.2.2.2.1 x.2.2.2.2.2.2.2.2.2.2.2.2.2.2.2.2.2.2.2.2.2.2.1 x.2.2.2.2.2.2.2.2.2.2.2.2.2.2.2.2.2.2.2.2.2.2.2.1 x.2.2.2.2.2.2.2.2.2.2.2.2.2.2.2.2.2.2.2.2.2.2.2.2.1 x.2.2.2.2.2.2.2.2.2.2.2.2.2.2.2.2.2.2.2.2.2.2.2.2.2.1
def u27{A0 A1 A2 A3 A4 A5 A6 A7 A8 A9 VD Wv Xe Yy Zk A15 A16 A17 A18 A19 A20 A21 A22 A23 A24 A25 A26 B C:Type}(f:A0->A1->A2->A3->A4->A5->A6->A7->A8->A9->VD->Wv->Xe->Yy->Zk->A15->A16->A17->A18->A19->A20->A21->A22->A23->A24->A25->A26->C)(x:A0×A1×A2×A3×A4×A5×A6×A7×A8×A9×VD×Wv×Xe×Yy×Zk×A15×A16×A17×A18×A19×A20×A21×A22×A23×A24×A25×A26×B):C:=f x.1 x.2.1 x.2.2.1 x.2.2.2.1 x.2.2.2.2.1 x.2.2.2.2.2.1 x.2.2.2.2.2.2.1 x.2.2.2.2.2.2.2.1 x.2.2.2.2.2.2.2.2.1 x.2.2.2.2.2.2.2.2.2.1 x.2.2.2.2.2.2.2.2.2.2.1 x.2.2.2.2.2.2.2.2.2.2.2.1 x.2.2.2.2.2.2.2.2.2.2.2.2.1 x.2.2.2.2.2.2.2.2.2.2.2.2.2.1 x.2.2.2.2.2.2.2.2.2.2.2.2.2.2.1 x.2.2.2.2.2.2.2.2.2.2.2.2.2.2.2.1 x.2.2.2.2.2.2.2.2.2.2.2.2.2.2.2.2.1 x.2.2.2.2.2.2.2.2.2.2.2.2.2.2.2.2.2.1 x.2.2.2.2.2.2.2.2.2.2.2.2.2.2.2.2.2.2.1 x.2.2.2.2.2.2.2.2.2.2.2.2.2.2.2.2.2.2.2.1 x.2.2.2.2.2.2.2.2.2.2.2.2.2.2.2.2.2.2.2.2.1 x.2.2.2.2.2.2.2.2.2.2.2.2.2.2.2.2.2.2.2.2.2.1 x.2.2.2.2.2.2.2.2.2.2.2.2.2.2.2.2.2.2.2.2.2.2.1 x.2.2.2.2.2.2.2.2.2.2.2.2.2.2.2.2.2.2.2.2.2.2.2.1 x.2.2.2.2.2.2.2.2.2.2.2.2.2.2.2.2.2.2.2.2.2.2.2.2.1 x.2.2.2.2.2.2.2.2.2.2.2.2.2.2.2.2.2.2.2.2.2.2.2.2.2.1 x.2.2.2.2.2.2.2.2.2.2.2.2.2.2.2.2.2.2.2.2.2.2.2.2.2.2.1
def u28{A0 A1 A2 A3 A4 A5 A6 A7 A8 A9 VD Wv Xe Yy Zk A15 A16 A17 A18 A19 A20 A21 A22 A23 A24 A25 A26 A27 B C:Type}(f:A0->A1->A2->A3->A4->A5->A6->A7->A8->A9->VD->Wv->Xe->Yy->Zk->A15->A16->A17->A18->A19->A20->A21->A22->A23->A24->A25->A26->A27->C)(x:A0×A1×A2×A3×A4×A5×A6×A7×A8×A9×VD×Wv×Xe×Yy×Zk×A15×A16×A17×A18×A19×A20×A21×A22×A23×A24×A25×A26×A27×B):C:=f x.1 x.2.1 x.2.2.1 x.2.2.2.1 x.2.2.2.2.1 x.2.2.2.2.2.1 x.2.2.2.2.2.2.1 x.2.2.2.2.2.2.2.1 x.2.2.2.2.2.2.2.2.1 x.2.2.2.2.2.2.2.2.2.1 x.2.2.2.2.2.2.2.2.2.2.1 x.2.2.2.2.2.2.2.2.2.2.2.1 x.2.2.2.2.2.2.2.2.2.2.2.2.1 x.2.2.2.2.2.2.2.2.2.2.2.2.2.1 x.2.2.2.2.2.2.2.2.2.2.2.2.2.2.1 x.2.2.2.2.2.2.2.2.2.2.2.2.2.2.2.1 x.2.2.2.2.2.2.2.2.2.2.2.2.2.2.2.2.1 x.2.2.2.2.2.2.2.2.2.2.2.2.2.2.2.2.2.1 x.2.2.2.2.2.2.2.2.2.2.2.2.2.2.2.2.2.2.1 x.2.2.2.2.2.2.2.2.2.2.2.2.2.2.2.2.2.2.2.1 x.2.2.2.2.2.2.2.2.2.2.2.2.2.2.2.2.2.2.2.2.1 x.2.2.2.2.2.2.2.2.2.2.2.2.2.2.2.2.2.2.2.2.2.1 x.2.2.2.2.2.2.2.2.2.2.2.2.2.2.2.2.2.2.2.2.2.2.1 x.2.2.2.2.2.2.2.2.2.2.2.2.2.2.2.2.2.2.2.2.2.2.2.1 x.2.2.2.2.2.2.2.2.2.2.2.2.2.2.2.2.2.2.2.2.2.2.2.2.1 x.2.2.2.2.2.2.2.2.2.2.2.2.2.2.2.2.2.2.2.2.2.2.2.2.2.1 x.2.2.2.2.2.2.2.2.2.2.2.2.2.2.2.2.2.2.2.2.2.2.2.2.2.2.1 x.2.2.2.2.2.2.2.2.2.2.2.2.2.2.2.2.2.2.2.2.2.2.2.2.2.2.2.1
def u30{A0 A1 A2 A3 A4 A5 A6 A7 A8 A9 VD Wv Xe Yy Zk A15 A16 A17 A18 A19 A20 A21 A22 A23 A24 A25 A26 A27 A28 A29 B C:Type}(f:A0->A1->A2->A3->A4->A5->A6->A7->A8->A9->VD->Wv->Xe->Yy->Zk->A15->A16->A17->A18->A19->A20->A21->A22->A23->A24->A25->A26->A27->A28->A29->C)(x:A0×A1×A2×A3×A4×A5×A6×A7×A8×A9×VD×Wv×Xe×Yy×Zk×A15×A16×A17×A18×A19×A20×A21×A22×A23×A24×A25×A26×A27×A28×A29×B):C:=f x.1 x.2.1 x.2.2.1 x.2.2.2.1 x.2.2.2.2.1 x.2.2.2.2.2.1 x.2.2.2.2.2.2.1 x.2.2.2.2.2.2.2.1 x.2.2.2.2.2.2.2.2.1 x.2.2.2.2.2.2.2.2.2.1 x.2.2.2.2.2.2.2.2.2.2.1 x.2.2.2.2.2.2.2.2.2.2.2.1 x.2.2.2.2.2.2.2.2.2.2.2.2.1 x.2.2.2.2.2.2.2.2.2.2.2.2.2.1 x.2.2.2.2.2.2.2.2.2.2.2.2.2.2.1 x.2.2.2.2.2.2.2.2.2.2.2.2.2.2.2.1 x.2.2.2.2.2.2.2.2.2.2.2.2.2.2.2.2.1 x.2.2.2.2.2.2.2.2.2.2.2.2.2.2.2.2.2.1 x.2.2.2.2.2.2.2.2.2.2.2.2.2.2.2.2.2.2.1 x.2.2.2.2.2.2.2.2.2.2.2.2.2.2.2.2.2.2.2.1 x.2.2.2.2.2.2.2.2.2.2.2.2.2.2.2.2.2.2.2.2.1 x.2.2.2.2.2.2.2.2.2.2.2.2.2.2.2.2.2.2.2.2.2.1 x.2.2.2.2.2.2.2.2.2.2.2.2.2.2.2.2.2.2.2.2.2.2.1 x.2.2.2.2.2.2.2.2.2.2.2.2.2.2.2.2.2.2.2.2.2.2.2.1 x.2.2.2.2.2.2.2.2.2.2.2.2.2.2.2.2.2.2.2.2.2.2.2.2.1 x.2.2.2.2.2.2.2.2.2.2.2.2.2.2.2.2.2.2.2.2.2.2.2.2.2.1 x.2.2.2.2.2.2.2.2.2.2.2.2.2.2.2.2.2.2.2.2.2.2.2.2.2.2.1 x.2.2.2.2.2.2.2.2.2.2.2.2.2.2.2.2.2.2.2.2.2.2.2.2.2.2.2.1 x.2.2.2.2.2.2.2.2.2.2.2.2.2.2.2.2.2.2.2.2.2.2.2.2.2.2.2.2.1 x.2.2.2.2.2.2.2.2.2.2.2.2.2.2.2.2.2.2.2.2.2.2.2.2.2.2.2.2.2.1
def T0:List (bA×hJ):=[]
def h0:vf Tryz.prog T0:=trivial
def T1:List (bA×hJ):=((213,[]),⟨true,[o0,o1],[o1],u2 Pj⟩)::T0
def h1:vf Tryz.prog T1:=fk (bg 12 [] []) h0 [] trivial Tryz.func213 (by kernel_rfl) λx=>by kernel_rfl
def T2:List (bA×hJ):=((137,[]),⟨true,[.agg [v0,v0],o1],[o1],u3 Vk⟩)::T1
def h2:vf Tryz.prog T2:=fk (bg 18 [] []) h1 [] trivial Tryz.func137 (by kernel_rfl) λx=>by kernel_rfl
def T3:List (bA×hJ):=((267,[]),⟨true,[o2,o1],[o1],u2 Vj⟩)::T2
def h3:vf Tryz.prog T3:=fk (bg 12 [] []) h2 [] trivial Tryz.func267 (by kernel_rfl) λx=>by kernel_rfl
def T4:List (bA×hJ):=((268,[]),⟨true,[o3,o1],[o1],u2 Vi⟩)::T3
def h4:vf Tryz.prog T4:=fk (bg 12 [] []) h3 [] trivial Tryz.func268 (by kernel_rfl) λx=>by kernel_rfl
def T5:List (bA×hJ):=((214,[]),⟨true,[a0,o1],[o1],u4 KS⟩)::T4
def h5:vf Tryz.prog T5:=fk (bg 18 [] []) h4 [] trivial Tryz.func214 (by kernel_rfl) λx=>by kernel_rfl
def Tk:dR:=⟨[(0,o4)],[(1,o1),(5,o1)],[(.ret,[(4,o1)]),(.exit 0,[(1,o1)])],LX,none⟩
def Ym:nB Tryz.prog (env 27 [] []) (lp 0 (body Tryz.f138) 0) Tk:=lk (bg _ _ _) h5 (n:=0) [] trivial (by kernel_rfl) λk x=>by kernel_rfl
def T6:List (bA×hJ):=((138,[]),⟨true,[o4,o1],[o1],u2 K9⟩)::T5
def h6:vf Tryz.prog T6:=fk (bg 27 [] []) h5 [(0,Tk)] ⟨Ym,trivial⟩ Tryz.func138 (by kernel_rfl) λx=>by kernel_rfl
def T7:List (bA×hJ):=((26,[]),⟨true,[o5,o1],[o1],u2 Nz⟩)::T6
def h7:vf Tryz.prog T7:=fk (bg 12 [] []) h6 [] trivial Tryz.func26 (by kernel_rfl) λx=>by kernel_rfl
def T8:List (bA×hJ):=((61,[]),⟨true,[a1,o1],[o1],u12 Oj⟩)::T7
def h8:vf Tryz.prog T8:=fk (bg 24 [] []) h7 [] trivial Tryz.func61 (by kernel_rfl) λx=>by kernel_rfl
def VN:dR:=⟨[(0,o6)],[(1,o1),(5,o1)],[(.ret,[(4,o1)]),(.exit 0,[(1,o1)])],NK,none⟩
def ZC:nB Tryz.prog (env 27 [] []) (lp 0 (body Tryz.f23) 0) VN:=lk (bg _ _ _) h8 (n:=0) [] trivial (by kernel_rfl) λk x=>by kernel_rfl
def T9:List (bA×hJ):=((23,[]),⟨true,[o6,o1],[o1],u2 KM⟩)::T8
def h9:vf Tryz.prog T9:=fk (bg 27 [] []) h8 [(0,VN)] ⟨ZC,trivial⟩ Tryz.func23 (by kernel_rfl) λx=>by kernel_rfl
def T10:List (bA×hJ):=((24,[]),⟨true,[o7,o1],[o1],u2 Ph⟩)::T9
def h10:vf Tryz.prog T10:=fk (bg 12 [] []) h9 [] trivial Tryz.func24 (by kernel_rfl) λx=>by kernel_rfl
def T11:List (bA×hJ):=((25,[]),⟨true,[o8,o1],[o1],u2 QW⟩)::T10
def h11:vf Tryz.prog T11:=fk (bg 12 [] []) h10 [] trivial Tryz.func25 (by kernel_rfl) λx=>by kernel_rfl
def T12:List (bA×hJ):=((5,[]),⟨true,[a2,o1],[o1],u16 La⟩)::T11
def h12:vf Tryz.prog T12:=fk (bg 30 [] []) h11 [] trivial Tryz.func5 (by kernel_rfl) λx=>by kernel_rfl
def T13:List (bA×hJ):=((6,[]),⟨true,[a3,o1],[o1],u13 TW⟩)::T12
def h13:vf Tryz.prog T13:=fk (bg 13 [] []) h12 [] trivial Tryz.func6 (by kernel_rfl) λx=>by kernel_rfl
def Sb:dR:=⟨[(0,o9)],[(1,o1),(5,o1)],[(.ret,[(4,o1)]),(.exit 0,[(1,o1)])],TX,none⟩
def XH:nB Tryz.prog (env 27 [] []) (lp 0 (body Tryz.f14) 0) Sb:=lk (bg _ _ _) h13 (n:=0) [] trivial (by kernel_rfl) λk x=>by kernel_rfl
def T14:List (bA×hJ):=((14,[]),⟨true,[o9,o1],[o1],u2 NJ⟩)::T13
def h14:vf Tryz.prog T14:=fk (bg 27 [] []) h13 [(0,Sb)] ⟨XH,trivial⟩ Tryz.func14 (by kernel_rfl) λx=>by kernel_rfl
def T15:List (bA×hJ):=((34,[]),⟨true,[a4],[a4],u8 Wl⟩)::T14
def h15:vf Tryz.prog T15:=fk (bg 29 [] []) h14 [] trivial Tryz.func34 (by kernel_rfl) λx=>by kernel_rfl
def T16:List (bA×hJ):=((283,[]),⟨true,[.agg [v1,v1]],[.agg [v1,v1]],u2 XA⟩)::T15
def h16:vf Tryz.prog T16:=fk (bg 11 [] []) h15 [] trivial Tryz.func283 (by kernel_rfl) λx=>by kernel_rfl
def VP:dR:=⟨[(0,o0)],[(3,o10),(4,o1)],[(.exit 0,[(3,o10)])],NO,none⟩
def ZE:nB Tryz.prog (env 23 [] []) (lp 0 (body Tryz.f237) 0) VP:=lk (bg _ _ _) h16 (n:=0) [] trivial (by kernel_rfl) λk x=>by kernel_rfl
def T17:List (bA×hJ):=((237,[]),⟨true,[o0],[o10],u1 Pu⟩)::T16
def h17:vf Tryz.prog T17:=fk (bg 23 [] []) h16 [(0,VP)] ⟨ZE,trivial⟩ Tryz.func237 (by kernel_rfl) λx=>by kernel_rfl
def T18:List (bA×hJ):=((166,[]),⟨true,[.agg [v0,v0]],[a5],u2 Vn⟩)::T17
def h18:vf Tryz.prog T18:=fk (bg 13 [] []) h17 [] trivial Tryz.func166 (by kernel_rfl) λx=>by kernel_rfl
def WJ:dR:=⟨[(0,o2)],[(3,o11),(4,o1)],[(.exit 0,[(3,o11)])],Pr,none⟩
def aal:nB Tryz.prog (env 22 [] []) (lp 0 (body Tryz.f284) 0) WJ:=lk (bg _ _ _) h18 (n:=0) [] trivial (by kernel_rfl) λk x=>by kernel_rfl
def T19:List (bA×hJ):=((284,[]),⟨true,[o2],[o11],u1 Vm⟩)::T18
def h19:vf Tryz.prog T19:=fk (bg 22 [] []) h18 [(0,WJ)] ⟨aal,trivial⟩ Tryz.func284 (by kernel_rfl) λx=>by kernel_rfl
def T20:List (bA×hJ):=((307,[]),⟨true,[a6],[a6],u4 YN⟩)::T19
def h20:vf Tryz.prog T20:=fk (bg 17 [] []) h19 [] trivial Tryz.func307 (by kernel_rfl) λx=>by kernel_rfl
def WI:dR:=⟨[(0,o3)],[(3,o12),(4,o1)],[(.exit 0,[(3,o12)])],Pm,none⟩
def aak:nB Tryz.prog (env 23 [] []) (lp 0 (body Tryz.f285) 0) WI:=lk (bg _ _ _) h20 (n:=0) [] trivial (by kernel_rfl) λk x=>by kernel_rfl
def T21:List (bA×hJ):=((285,[]),⟨true,[o3],[o12],u1 Vl⟩)::T20
def h21:vf Tryz.prog T21:=fk (bg 23 [] []) h20 [(0,WI)] ⟨aak,trivial⟩ Tryz.func285 (by kernel_rfl) λx=>by kernel_rfl
def T22:List (bA×hJ):=((238,[]),⟨true,[a0],[a7],u3 NA⟩)::T21
def h22:vf Tryz.prog T22:=fk (bg 16 [] []) h21 [] trivial Tryz.func238 (by kernel_rfl) λx=>by kernel_rfl
def Tl:dR:=⟨[(0,o4)],[(3,o13),(4,o1)],[(.exit 0,[(3,o13)])],Po,none⟩
def Yn:nB Tryz.prog (env 23 [] [7]) (lp 0 (body Tryz.f167) 0) Tl:=lk (bg _ _ _) h22 (n:=0) [] trivial (by kernel_rfl) λk x=>by kernel_rfl
def T23:List (bA×hJ):=((167,[]),⟨true,[o4],[o13],u1 Pn⟩)::T22
def h23:vf Tryz.prog T23:=fk (bg 23 [] [7]) h22 [(0,Tl)] ⟨Yn,trivial⟩ Tryz.func167 (by kernel_rfl) λx=>by kernel_rfl
def T24:List (bA×hJ):=((168,[]),⟨true,[a8],[a8],u5 Xz⟩)::T23
def h24:vf Tryz.prog T24:=fk (bg 20 [] []) h23 [] trivial Tryz.func168 (by kernel_rfl) λx=>by kernel_rfl
def T25:List (bA×hJ):=((90,[]),⟨true,[a9],[a9],u7 Wj⟩)::T24
def h25:vf Tryz.prog T25:=fk (bg 26 [] []) h24 [] trivial Tryz.func90 (by kernel_rfl) λx=>by kernel_rfl
def UI:dR:=⟨[(0,o5)],[(3,o14),(4,o1)],[(.exit 0,[(3,o14)])],MK,none⟩
def Y2:nB Tryz.prog (env 23 [] []) (lp 0 (body Tryz.f38) 0) UI:=lk (bg _ _ _) h25 (n:=0) [] trivial (by kernel_rfl) λk x=>by kernel_rfl
def T26:List (bA×hJ):=((38,[]),⟨true,[o5],[o14],u1 NB⟩)::T25
def h26:vf Tryz.prog T26:=fk (bg 23 [] []) h25 [(0,UI)] ⟨Y2,trivial⟩ Tryz.func38 (by kernel_rfl) λx=>by kernel_rfl
def T27:List (bA×hJ):=((88,[]),⟨true,[a1],[.agg [v24,v24,v27,v1,v1,v6,v6,v6,v1,v1,v28]],u11 Rx⟩)::T26
def h27:vf Tryz.prog T27:=fk (bg 27 [] []) h26 [] trivial Tryz.func88 (by kernel_rfl) λx=>by kernel_rfl
def VO:dR:=⟨[(0,o6)],[(3,o15),(4,o1)],[(.exit 0,[(3,o15)])],RW,none⟩
def ZD:nB Tryz.prog (env 23 [] [7]) (lp 0 (body Tryz.f35) 0) VO:=lk (bg _ _ _) h27 (n:=0) [] trivial (by kernel_rfl) λk x=>by kernel_rfl
def T28:List (bA×hJ):=((35,[]),⟨true,[o6],[o15],u1 SJ⟩)::T27
def h28:vf Tryz.prog T28:=fk (bg 23 [] [7]) h27 [(0,VO)] ⟨ZD,trivial⟩ Tryz.func35 (by kernel_rfl) λx=>by kernel_rfl
def T29:List (bA×hJ):=((169,[]),⟨true,[a10],[a10],u5 aaO⟩)::T28
def h29:vf Tryz.prog T29:=fk (bg 20 [] []) h28 [] trivial Tryz.func169 (by kernel_rfl) λx=>by kernel_rfl
def T30:List (bA×hJ):=((89,[]),⟨true,[a11],[a11],u13 VB⟩)::T29
def h30:vf Tryz.prog T30:=fk (bg 33 [] []) h29 [] trivial Tryz.func89 (by kernel_rfl) λx=>by kernel_rfl
def Tm:dR:=⟨[(0,o7)],[(3,o16),(4,o1)],[(.exit 0,[(3,o16)])],L0,none⟩
def Yo:nB Tryz.prog (env 23 [] []) (lp 0 (body Tryz.f36) 0) Tm:=lk (bg _ _ _) h30 (n:=0) [] trivial (by kernel_rfl) λk x=>by kernel_rfl
def T31:List (bA×hJ):=((36,[]),⟨true,[o7],[o16],u1 Pt⟩)::T30
def h31:vf Tryz.prog T31:=fk (bg 23 [] []) h30 [(0,Tm)] ⟨Yo,trivial⟩ Tryz.func36 (by kernel_rfl) λx=>by kernel_rfl
def T32:List (bA×hJ):=((39,[]),⟨true,[a12],[a12],u7 Pp⟩)::T31
def h32:vf Tryz.prog T32:=fk (bg 26 [] []) h31 [] trivial Tryz.func39 (by kernel_rfl) λx=>by kernel_rfl
def UJ:dR:=⟨[(0,o8)],[(3,o17),(4,o1)],[(.exit 0,[(3,o17)])],MM,none⟩
def Y3:nB Tryz.prog (env 23 [] []) (lp 0 (body Tryz.f37) 0) UJ:=lk (bg _ _ _) h32 (n:=0) [] trivial (by kernel_rfl) λk x=>by kernel_rfl
def T33:List (bA×hJ):=((37,[]),⟨true,[o8],[o17],u1 QX⟩)::T32
def h33:vf Tryz.prog T33:=fk (bg 23 [] []) h32 [(0,UJ)] ⟨Y3,trivial⟩ Tryz.func37 (by kernel_rfl) λx=>by kernel_rfl
def T34:List (bA×hJ):=((8,[]),⟨true,[a2],[a13],u15 Ps⟩)::T33
def h34:vf Tryz.prog T34:=fk (bg 34 [] []) h33 [] trivial Tryz.func8 (by kernel_rfl) λx=>by kernel_rfl
def T35:List (bA×hJ):=((9,[]),⟨true,[a3],[a3],u12 TY⟩)::T34
def h35:vf Tryz.prog T35:=fk (bg 24 [] []) h34 [] trivial Tryz.func9 (by kernel_rfl) λx=>by kernel_rfl
def Sc:dR:=⟨[(0,o9)],[(3,o18),(4,o1)],[(.exit 0,[(3,o18)])],Lt,none⟩
def XI:nB Tryz.prog (env 23 [] []) (lp 0 (body Tryz.f16) 0) Sc:=lk (bg _ _ _) h35 (n:=0) [] trivial (by kernel_rfl) λk x=>by kernel_rfl
def T36:List (bA×hJ):=((16,[]),⟨true,[o9],[o18],u1 NL⟩)::T35
def h36:vf Tryz.prog T36:=fk (bg 23 [] []) h35 [(0,Sc)] ⟨XI,trivial⟩ Tryz.func16 (by kernel_rfl) λx=>by kernel_rfl
def T37:List (bA×hJ):=((70,[]),⟨true,[a14],[a5],u2 S3⟩)::T36
def h37:vf Tryz.prog T37:=fk (bg 12 [] []) h36 [] trivial Tryz.func70 (by kernel_rfl) λx=>by kernel_rfl
def T38:List (bA×hJ):=((146,[]),⟨true,[a15],[a7],u3 PS⟩)::T37
def h38:vf Tryz.prog T38:=fk (bg 14 [] []) h37 [] trivial Tryz.func146 (by kernel_rfl) λx=>by kernel_rfl
def Ri:dR:=⟨[(0,o19)],[(3,o13),(4,o1)],[(.exit 0,[(3,o13)])],K1,none⟩
def Xa:nB Tryz.prog (env 23 [] [6,20]) (lp 0 (body Tryz.f71) 0) Ri:=lk (bg _ _ _) h38 (n:=0) [] trivial (by kernel_rfl) λk x=>by kernel_rfl
def T39:List (bA×hJ):=((71,[]),⟨true,[o19],[o13],u1 Km⟩)::T38
def h39:vf Tryz.prog T39:=fk (bg 23 [] [6,20]) h38 [(0,Ri)] ⟨Xa,trivial⟩ Tryz.func71 (by kernel_rfl) λx=>by kernel_rfl
def VV:dR:=⟨[(1,.ro t28)],[(2,a16),(3,a16),(4,o1)],[(.exit 0,[(2,a16),(3,a16)])],R3,none⟩
def ZK:nB Tryz.prog (env 62 [] [58]) (lp 0 (body Tryz.f29) 0) VV:=lk (bg _ _ _) h39 (n:=0) [] trivial (by kernel_rfl) λk x=>by kernel_rfl
def T40:List (bA×hJ):=((29,[]),⟨true,[a17],[a13],u15 PV⟩)::T39
def h40:vf Tryz.prog T40:=fk (bg 62 [] [58]) h39 [(0,VV)] ⟨ZK,trivial⟩ Tryz.func29 (by kernel_rfl) λx=>by kernel_rfl
def T41:List (bA×hJ):=((28,[]),⟨true,[o1,o1,o1],[o20],u3 bS⟩)::T40
def h41:vf Tryz.prog T41:=fk (bg 15 [] []) h40 [] trivial Tryz.func28 (by kernel_rfl) λx=>by kernel_rfl
def T42:List (bA×hJ):=((62,[]),⟨true,[a4],[o20],u8 MV⟩)::T41
def h42:vf Tryz.prog T42:=fk (bg 41 [] []) h41 [] trivial Tryz.func62 (by kernel_rfl) λx=>by kernel_rfl
def T43:List (bA×hJ):=((63,[]),⟨true,[o1],[o20],u1 Jn⟩)::T42
def h43:vf Tryz.prog T43:=fk (bg 5 [] []) h42 [] trivial Tryz.func63 (by kernel_rfl) λx=>by kernel_rfl
def T44:List (bA×hJ):=((72,[]),⟨true,[o1],[o20],u1 Ja⟩)::T43
def h44:vf Tryz.prog T44:=fk (bg 5 [] []) h43 [] trivial Tryz.func72 (by kernel_rfl) λx=>by kernel_rfl
def T45:List (bA×hJ):=((156,[]),⟨true,[o1],[o20],u1 M3⟩)::T44
def h45:vf Tryz.prog T45:=fk (bg 5 [] []) h44 [] trivial Tryz.func156 (by kernel_rfl) λx=>by kernel_rfl
def T46:List (bA×hJ):=((78,[]),⟨true,[a12],[o20],u7 Lv⟩)::T45
def h46:vf Tryz.prog T46:=fk (bg 45 [] []) h45 [] trivial Tryz.func78 (by kernel_rfl) λx=>by kernel_rfl
def UP:dR:=⟨[(0,o21)],[(3,o1)],[(.ret,[(2,o20)]),(.exit 0,[])],Qv,none⟩
def Y9:nB Tryz.prog (env 19 [] []) (lp 0 (body Tryz.f64) 0) UP:=lk (bg _ _ _) h46 (n:=0) [] trivial (by kernel_rfl) λk x=>by kernel_rfl
def T47:List (bA×hJ):=((64,[]),⟨true,[o21],[o20],u1 ND⟩)::T46
def h47:vf Tryz.prog T47:=fk (bg 19 [] []) h46 [(0,UP)] ⟨Y9,trivial⟩ Tryz.func64 (by kernel_rfl) λx=>by kernel_rfl
def T48:List (bA×hJ):=((139,[]),⟨true,[a9],[o20],u7 SP⟩)::T47
def h48:vf Tryz.prog T48:=fk (bg 36 [] []) h47 [] trivial Tryz.func139 (by kernel_rfl) λx=>by kernel_rfl
def Tp:dR:=⟨[(0,o22)],[(3,o1)],[(.ret,[(2,o20)]),(.exit 0,[])],PF,none⟩
def Yr:nB Tryz.prog (env 73 [] []) (lp 0 (body Tryz.f65) 0) Tp:=lk (bg _ _ _) h48 (n:=0) [] trivial (by kernel_rfl) λk x=>by kernel_rfl
def T49:List (bA×hJ):=((65,[]),⟨true,[o22],[o20],u1 Jz⟩)::T48
def h49:vf Tryz.prog T49:=fk (bg 73 [] []) h48 [(0,Tp)] ⟨Yr,trivial⟩ Tryz.func65 (by kernel_rfl) λx=>by kernel_rfl
def VT:dR:=⟨[(0,o23),(1,o1)],[(5,o1)],[(.ret,[(4,o20)]),(.exit 0,[])],R1,none⟩
def ZI:nB Tryz.prog (env 51 [] []) (lp 0 (body Tryz.f215) 0) VT:=lk (bg _ _ _) h49 (n:=0) [] trivial (by kernel_rfl) λk x=>by kernel_rfl
def T50:List (bA×hJ):=((215,[]),⟨true,[o23,o1],[o20],u2 PM⟩)::T49
def h50:vf Tryz.prog T50:=fk (bg 51 [] []) h49 [(0,VT)] ⟨ZI,trivial⟩ Tryz.func215 (by kernel_rfl) λx=>by kernel_rfl
def T51:List (bA×hJ):=((140,[]),⟨true,[a14],[o20],u2 KP⟩)::T50
def h51:vf Tryz.prog T51:=fk (bg 11 [] []) h50 [] trivial Tryz.func140 (by kernel_rfl) λx=>by kernel_rfl
def UR:dR:=⟨[(1,.ro t22),(3,o1),(4,o1)],[(5,a18),(6,o1)],[(.ret,[(2,o20)]),(.exit 2,[(5,a18)])],MX,none⟩
def Zb:nB Tryz.prog (env 70 [] []) (lp 0 (lp 0 (body Tryz.f269) 0) 0) UR:=lk (bg _ _ _) h51 (n:=2) [] trivial (by kernel_rfl) λk x=>by kernel_rfl
def UQ:dR:=⟨[(1,.ro t22)],[(3,o1),(4,o1)],[(.ret,[(2,o20)]),(.exit 0,[(3,o1)])],Qy,none⟩
def Za:nB Tryz.prog (env 70 [] []) (lp 0 (body Tryz.f269) 0) UQ:=lk (bg _ _ _) h51 (n:=0) [(2,UR)] ⟨Zb,trivial⟩ (by kernel_rfl) λk x=>by kernel_rfl
def T52:List (bA×hJ):=((269,[]),⟨true,[a15],[o20],u3 Q4⟩)::T51
def h52:vf Tryz.prog T52:=fk (bg 70 [] []) h51 [(0,UQ)] ⟨Za,trivial⟩ Tryz.func269 (by kernel_rfl) λx=>by kernel_rfl
def UO:dR:=⟨[(1,.ro t22),(3,o1)],[(4,o20),(5,o1)],[(.exit 2,[(4,o20)])],Qt,none⟩
def Y8:nB Tryz.prog (env 74 [] []) (lp 0 (lp 0 (body Tryz.f216) 0) 0) UO:=lk (bg _ _ _) h52 (n:=2) [] trivial (by kernel_rfl) λk x=>by kernel_rfl
def UN:dR:=⟨[(1,.ro t22)],[(3,o1)],[(.ret,[(2,o20)]),(.exit 0,[])],Qs,none⟩
def Y7:nB Tryz.prog (env 74 [] []) (lp 0 (body Tryz.f216) 0) UN:=lk (bg _ _ _) h52 (n:=0) [(2,UO)] ⟨Y8,trivial⟩ (by kernel_rfl) λk x=>by kernel_rfl
def T53:List (bA×hJ):=((216,[]),⟨true,[a15],[o20],u3 KU⟩)::T52
def h53:vf Tryz.prog T53:=fk (bg 74 [] []) h52 [(0,UN)] ⟨Y7,trivial⟩ Tryz.func216 (by kernel_rfl) λx=>by kernel_rfl
def WR:dR:=⟨[(1,o1),(2,.ro t22)],[(5,o1)],[(.ret,[(4,o1)]),(.exit 0,[])],PR,none⟩
def aas:nB Tryz.prog (env 26 [] []) (lp 0 (body Tryz.f217) 0) WR:=lk (bg _ _ _) h53 (n:=0) [] trivial (by kernel_rfl) λk x=>by kernel_rfl
def T54:List (bA×hJ):=((217,[]),⟨true,[a15,o1],[o1],u4 KQ⟩)::T53
def h54:vf Tryz.prog T54:=fk (bg 26 [] []) h53 [(0,WR)] ⟨aas,trivial⟩ Tryz.func217 (by kernel_rfl) λx=>by kernel_rfl
def WM:dR:=⟨[(0,o19),(3,o1),(4,o1)],[(5,o1)],[(.ret,[(2,o20)]),(.exit 4,[])],Uf,none⟩
def aao:nB Tryz.prog (env 52 [] []) (lp 2 (lp 0 (lp 0 (body Tryz.f141) 0) 0) 0) WM:=lk (bg _ _ _) h54 (n:=4) [] trivial (by kernel_rfl) λk x=>by kernel_rfl
def WL:dR:=⟨[(0,o19),(3,o1)],[(4,o1)],[(.ret,[(2,o20)]),(.exit 2,[])],Ue,none⟩
def aan:nB Tryz.prog (env 52 [] []) (lp 0 (lp 0 (body Tryz.f141) 0) 0) WL:=lk (bg _ _ _) h54 (n:=2) [(4,WM)] ⟨aao,trivial⟩ (by kernel_rfl) λk x=>by kernel_rfl
def WK:dR:=⟨[(0,o19)],[(3,o1)],[(.ret,[(2,o20)]),(.exit 0,[])],Ud,none⟩
def aam:nB Tryz.prog (env 52 [] []) (lp 0 (body Tryz.f141) 0) WK:=lk (bg _ _ _) h54 (n:=0) [(2,WL)] ⟨aan,trivial⟩ (by kernel_rfl) λk x=>by kernel_rfl
def T55:List (bA×hJ):=((141,[]),⟨true,[o19],[o20],u1 Mj⟩)::T54
def h55:vf Tryz.prog T55:=fk (bg 52 [] []) h54 [(0,WK)] ⟨aam,trivial⟩ Tryz.func141 (by kernel_rfl) λx=>by kernel_rfl
def T56:List (bA×hJ):=((163,[]),⟨true,[a8],[o20],u5 PU⟩)::T55
def h56:vf Tryz.prog T56:=fk (bg 9 [] []) h55 [] trivial Tryz.func163 (by kernel_rfl) λx=>by kernel_rfl
def T57:List (bA×hJ):=((142,[]),⟨true,[a8],[o20],u5 Jm⟩)::T56
def h57:vf Tryz.prog T57:=fk (bg 88 [] []) h56 [] trivial Tryz.func142 (by kernel_rfl) λx=>by kernel_rfl
def T58:List (bA×hJ):=((66,[]),⟨true,[a17,o1],[o20],u16 PZ⟩)::T57
def h58:vf Tryz.prog T58:=fk (bg 95 [] []) h57 [] trivial Tryz.func66 (by kernel_rfl) λx=>by kernel_rfl
def T59:List (bA×hJ):=((143,[]),⟨true,[a17,o1],[o20],u16 Lc⟩)::T58
def h59:vf Tryz.prog T59:=fk (bg 35 [] []) h58 [] trivial Tryz.func143 (by kernel_rfl) λx=>by kernel_rfl
def T60:List (bA×hJ):=((144,[]),⟨true,[a10],[o20],u5 KO⟩)::T59
def h60:vf Tryz.prog T60:=fk (bg 26 [] []) h59 [] trivial Tryz.func144 (by kernel_rfl) λx=>by kernel_rfl
def T61:List (bA×hJ):=((145,[]),⟨true,[a17,o1],[o1],u16 JU⟩)::T60
def h61:vf Tryz.prog T61:=fk (bg 21 [] []) h60 [] trivial Tryz.func145 (by kernel_rfl) λx=>by kernel_rfl
def T62:List (bA×hJ):=((67,[]),⟨true,[a17,o1],[o20],u16 M5⟩)::T61
def h62:vf Tryz.prog T62:=fk (bg 142 [] []) h61 [] trivial Tryz.func67 (by kernel_rfl) λx=>by kernel_rfl
def Sg:dR:=⟨[(1,.ro t28),(4,o1),(5,o1),(6,o24)],[(3,o1),(7,o1)],[(.ret,[(2,o20)]),(.exit 4,[(3,o1)])],Oe,none⟩
def XM:nB Tryz.prog (env 126 [] []) (lp 2 (lp 0 (lp 0 (body Tryz.f68) 0) 0) 0) Sg:=lk (bg _ _ _) h62 (n:=4) [] trivial (by kernel_rfl) λk x=>by kernel_rfl
def Sf:dR:=⟨[(1,.ro t28),(4,o1)],[(3,o1),(5,o1)],[(.ret,[(2,o20)]),(.exit 2,[(3,o1)])],Od,none⟩
def XL:nB Tryz.prog (env 126 [] []) (lp 0 (lp 0 (body Tryz.f68) 0) 0) Sf:=lk (bg _ _ _) h62 (n:=2) [(4,Sg)] ⟨XM,trivial⟩ (by kernel_rfl) λk x=>by kernel_rfl
def Se:dR:=⟨[(1,.ro t28)],[(3,o1),(4,o1)],[(.ret,[(2,o20)]),(.exit 0,[(3,o1)])],Ul,none⟩
def XK:nB Tryz.prog (env 126 [] []) (lp 0 (body Tryz.f68) 0) Se:=lk (bg _ _ _) h62 (n:=0) [(2,Sf)] ⟨XL,trivial⟩ (by kernel_rfl) λk x=>by kernel_rfl
def Si:dR:=⟨[(1,.ro t28)],[(3,o1),(10,o1)],[(.exit 6,[(3,o1)])],Um,none⟩
def XN:nB Tryz.prog (env 126 [] []) (lp 0 (body Tryz.f68) 1) Si:=lk (bg _ _ _) h62 (n:=6) [] trivial (by kernel_rfl) λk x=>by kernel_rfl
def T63:List (bA×hJ):=((68,[]),⟨true,[a17],[o20],u15 NU⟩)::T62
def h63:vf Tryz.prog T63:=fk (bg 126 [] []) h62 [(0,Se),(6,Si)] ⟨XK,XN,trivial⟩ Tryz.func68 (by kernel_rfl) λx=>by kernel_rfl
def VW:dR:=⟨[(1,.ro t28)],[(3,o1),(4,o1)],[(.exit 0,[(3,o1)])],W3,none⟩
def ZL:nB Tryz.prog (env 33 [] []) (lp 0 (body Tryz.f69) 0) VW:=lk (bg _ _ _) h63 (n:=0) [] trivial (by kernel_rfl) λk x=>by kernel_rfl
def T64:List (bA×hJ):=((69,[]),⟨true,[a17],[o1],u15 PY⟩)::T63
def IU:vf Tryz.prog T64:=fk (bg 33 [] []) h63 [(0,VW)] ⟨ZL,trivial⟩ Tryz.func69 (by kernel_rfl) λx=>by kernel_rfl
def Tq:dR:=⟨[(1,.ro t28)],[(3,o1)],[(.ret,[(2,o20)]),(.exit 0,[])],Vt,none⟩
def Ys:nB Tryz.prog (env 83 [] []) (lp 0 (body Tryz.f27) 0) Tq:=lk (bg _ _ _) IU (n:=0) [] trivial (by kernel_rfl) λk x=>by kernel_rfl
def Ts:dR:=⟨[(1,.ro t28)],[(4,o1)],[(.ret,[(2,o20)]),(.exit 2,[])],Vu,none⟩
def Yt:nB Tryz.prog (env 83 [] []) (lp 0 (body Tryz.f27) 1) Ts:=lk (bg _ _ _) IU (n:=2) [] trivial (by kernel_rfl) λk x=>by kernel_rfl
def T65:List (bA×hJ):=((27,[]),⟨true,[a17],[o20],u15 Mk⟩)::T64
def h65:vf Tryz.prog T65:=fk (bg 83 [] []) IU [(0,Tq),(2,Ts)] ⟨Ys,Yt,trivial⟩ Tryz.func27 (by kernel_rfl) λx=>by kernel_rfl
def T66:List (bA×hJ):=((30,[]),⟨false,[a13,a3],[a13,o1],u27 Jr⟩)::T65
def h66:vf Tryz.prog T66:=fk (bg 47 [] []) h65 [] trivial Tryz.func30 (by kernel_rfl) λx=>by kernel_rfl
def T67:List (bA×hJ):=((73,[]),⟨false,[a13,a3],[a13,o1],u27 Un⟩)::T66
def h67:vf Tryz.prog T67:=fk (bg 37 [] []) h66 [] trivial Tryz.func73 (by kernel_rfl) λx=>by kernel_rfl
def Tu:dR:=⟨[(0,o23),(1,o1)],[(5,o1)],[(.ret,[(4,o20)]),(.exit 0,[])],PO,none⟩
def Yv:nB Tryz.prog (env 28 [] []) (lp 0 (body Tryz.f270) 0) Tu:=lk (bg _ _ _) h67 (n:=0) [] trivial (by kernel_rfl) λk x=>by kernel_rfl
def T68:List (bA×hJ):=((270,[]),⟨true,[o23,o1],[o20],u2 Mm⟩)::T67
def h68:vf Tryz.prog T68:=fk (bg 28 [] []) h67 [(0,Tu)] ⟨Yv,trivial⟩ Tryz.func270 (by kernel_rfl) λx=>by kernel_rfl
def T69:List (bA×hJ):=((218,[]),⟨true,[a14,o1],[o20],u3 MW⟩)::T68
def h69:vf Tryz.prog T69:=fk (bg 17 [] []) h68 [] trivial Tryz.func218 (by kernel_rfl) λx=>by kernel_rfl
def T70:List (bA×hJ):=((147,[]),⟨true,[a14,o1],[o20],u3 Oo⟩)::T69
def h70:vf Tryz.prog T70:=fk (bg 16 [] []) h69 [] trivial Tryz.func147 (by kernel_rfl) λx=>by kernel_rfl
def T71:List (bA×hJ):=((318,[]),⟨true,[a6],[o20],u4 PT⟩)::T70
def h71:vf Tryz.prog T71:=fk (bg 11 [] []) h70 [] trivial Tryz.func318 (by kernel_rfl) λx=>by kernel_rfl
def WS:dR:=⟨[(0,o2),(1,o1)],[(5,o1)],[(.ret,[(4,o20)]),(.exit 0,[])],Uk,none⟩
def aat:nB Tryz.prog (env 18 [] []) (lp 0 (body Tryz.f319) 0) WS:=lk (bg _ _ _) h71 (n:=0) [] trivial (by kernel_rfl) λk x=>by kernel_rfl
def T72:List (bA×hJ):=((319,[]),⟨true,[o2,o1],[o20],u2 Vw⟩)::T71
def h72:vf Tryz.prog T72:=fk (bg 18 [] []) h71 [(0,WS)] ⟨aat,trivial⟩ Tryz.func319 (by kernel_rfl) λx=>by kernel_rfl
def WQ:dR:=⟨[(1,.ro t22)],[(3,o25),(4,o1)],[(.exit 0,[(3,o25)])],PD,none⟩
def aar:nB Tryz.prog (env 70 [] []) (lp 0 (body Tryz.f305) 0) WQ:=lk (bg _ _ _) h72 (n:=0) [] trivial (by kernel_rfl) λk x=>by kernel_rfl
def T73:List (bA×hJ):=((305,[]),⟨true,[a15],[o25],u3 Vr⟩)::T72
def h73:vf Tryz.prog T73:=fk (bg 70 [] []) h72 [(0,WQ)] ⟨aar,trivial⟩ Tryz.func305 (by kernel_rfl) λx=>by kernel_rfl
def UM:dR:=⟨[(0,o19),(4,o1)],[(3,o25),(5,o25),(6,o1)],[(.exit 2,[(3,o25)])],MS,none⟩
def Y6:nB Tryz.prog (env 45 [] []) (lp 0 (lp 0 (body Tryz.f271) 0) 0) UM:=lk (bg _ _ _) h73 (n:=2) [] trivial (by kernel_rfl) λk x=>by kernel_rfl
def UL:dR:=⟨[(0,o19)],[(3,o25),(4,o1)],[(.exit 0,[(3,o25)])],MR,none⟩
def Y5:nB Tryz.prog (env 45 [] []) (lp 0 (body Tryz.f271) 0) UL:=lk (bg _ _ _) h73 (n:=0) [(2,UM)] ⟨Y6,trivial⟩ (by kernel_rfl) λk x=>by kernel_rfl
def T74:List (bA×hJ):=((271,[]),⟨true,[o19],[o25],u1 QZ⟩)::T73
def h74:vf Tryz.prog T74:=fk (bg 45 [] []) h73 [(0,UL)] ⟨Y5,trivial⟩ Tryz.func271 (by kernel_rfl) λx=>by kernel_rfl
def US:dR:=⟨[(0,o26),(1,o1)],[(5,o1),(6,o1)],[(.exit 0,[(5,o1)])],Qz,none⟩
def Zc:nB Tryz.prog (env 39 [] []) (lp 0 (body Tryz.f272) 0) US:=lk (bg _ _ _) h74 (n:=0) [] trivial (by kernel_rfl) λk x=>by kernel_rfl
def T75:List (bA×hJ):=((272,[]),⟨true,[o26,o1],[o1],u2 Q5⟩)::T74
def h75:vf Tryz.prog T75:=fk (bg 39 [] []) h74 [(0,US)] ⟨Zc,trivial⟩ Tryz.func272 (by kernel_rfl) λx=>by kernel_rfl
def T76:List (bA×hJ):=((219,[]),⟨true,[o19,o1],[a19,o20],u2 SN⟩)::T75
def h76:vf Tryz.prog T76:=fk (bg 24 [] []) h75 [] trivial Tryz.func219 (by kernel_rfl) λx=>by kernel_rfl
def Xm:dR:=⟨[(0,o19),(1,o1)],[(6,o1)],[(.ret,[(4,o1),(5,o1)]),(.exit 0,[])],Q1,none⟩
def aa5:nB Tryz.prog (env 36 [] []) (lp 0 (body Tryz.f220) 0) Xm:=lk (bg _ _ _) h76 (n:=0) [] trivial (by kernel_rfl) λk x=>by kernel_rfl
def T77:List (bA×hJ):=((220,[]),⟨true,[o19,o1],[o1,o1],u2 N6⟩)::T76
def h77:vf Tryz.prog T77:=fk (bg 36 [] []) h76 [(0,Xm)] ⟨aa5,trivial⟩ Tryz.func220 (by kernel_rfl) λx=>by kernel_rfl
def VU:dR:=⟨[(2,o1),(3,o1),(4,.ro t22),(5,.ro t40)],[(8,a20),(9,a20),(10,o1)],[(.exit 0,[(8,a20),(9,a20)])],R2,none⟩
def ZJ:nB Tryz.prog (env 86 [] []) (lp 0 (body Tryz.f221) 0) VU:=lk (bg _ _ _) h77 (n:=0) [] trivial (by kernel_rfl) λk x=>by kernel_rfl
def T78:List (bA×hJ):=((221,[]),⟨true,[a15,a19,o1,o1],[a7],u8 SZ⟩)::T77
def h78:vf Tryz.prog T78:=fk (bg 86 [] []) h77 [(0,VU)] ⟨ZJ,trivial⟩ Tryz.func221 (by kernel_rfl) λx=>by kernel_rfl
def T79:List (bA×hJ):=((148,[]),⟨true,[o19,o1,o1],[o13,a19,o20],u3 Py⟩)::T78
def h79:vf Tryz.prog T79:=fk (bg 61 [] []) h78 [] trivial Tryz.func148 (by kernel_rfl) λx=>by kernel_rfl
def T80:List (bA×hJ):=((222,[]),⟨true,[a8,o1],[a8,o20],u6 Pz⟩)::T79
def h80:vf Tryz.prog T80:=fk (bg 34 [] []) h79 [] trivial Tryz.func222 (by kernel_rfl) λx=>by kernel_rfl
def T81:List (bA×hJ):=((149,[]),⟨false,[a13,o1,o1,o1],[a13],u18 rm⟩)::T80
def h81:vf Tryz.prog T81:=fk (bg 52 [] []) h80 [] trivial Tryz.func149 (by kernel_rfl) λx=>by kernel_rfl
def T82:List (bA×hJ):=((74,[]),⟨false,[a13,a3],[a13,o1],u27 KW⟩)::T81
def h82:vf Tryz.prog T82:=fk (bg 67 [] []) h81 [] trivial Tryz.func74 (by kernel_rfl) λx=>by kernel_rfl
def T83:List (bA×hJ):=((273,[]),⟨true,[o21,o1,o1,o1,o1],[o20],u5 S0⟩)::T82
def h83:vf Tryz.prog T83:=fk (bg 29 [] []) h82 [] trivial Tryz.func273 (by kernel_rfl) λx=>by kernel_rfl
def T84:List (bA×hJ):=((276,[]),⟨true,[a12,o1,o1],[o20],u9 Px⟩)::T83
def h84:vf Tryz.prog T84:=fk (bg 37 [] []) h83 [] trivial Tryz.func276 (by kernel_rfl) λx=>by kernel_rfl
def UW:dR:=⟨[(0,o21),(2,o1),(3,o1),(4,o1),(12,o1)],[(11,o27),(13,o28),(14,o1)],[(.exit 2,[(11,o27),(13,o28)])],QC,none⟩
def Zf:nB Tryz.prog (env 71 [] [17,68]) (lp 0 (lp 0 (body Tryz.f274) 0) 0) UW:=lk (bg _ _ _) h84 (n:=2) [] trivial (by kernel_rfl) λk x=>by kernel_rfl
def UU:dR:=⟨[(0,o21),(2,o1),(3,o1),(4,o1)],[(11,o27),(12,o1)],[(.exit 0,[(11,o27)])],M1,none⟩
def Ze:nB Tryz.prog (env 71 [] [17,68]) (lp 0 (body Tryz.f274) 0) UU:=lk (bg _ _ _) h84 (n:=0) [(2,UW)] ⟨Zf,trivial⟩ (by kernel_rfl) λk x=>by kernel_rfl
def T85:List (bA×hJ):=((274,[]),⟨true,[o21,o1,o1,o1,o1],[o27],u5 Q8⟩)::T84
def h85:vf Tryz.prog T85:=fk (bg 71 [] [17,68]) h84 [(0,UU)] ⟨Ze,trivial⟩ Tryz.func274 (by kernel_rfl) λx=>by kernel_rfl
def UX:dR:=⟨[(0,o29),(1,o1)],[(5,o1)],[(.ret,[(4,o1)]),(.exit 0,[])],M2,none⟩
def Zg:nB Tryz.prog (env 20 [] []) (lp 0 (body Tryz.f275) 0) UX:=lk (bg _ _ _) h85 (n:=0) [] trivial (by kernel_rfl) λk x=>by kernel_rfl
def T86:List (bA×hJ):=((275,[]),⟨true,[o29,o1],[o1],u2 Q9⟩)::T85
def h86:vf Tryz.prog T86:=fk (bg 20 [] []) h85 [(0,UX)] ⟨Zg,trivial⟩ Tryz.func275 (by kernel_rfl) λx=>by kernel_rfl
def VR:dR:=⟨[(0,o21),(3,o1),(4,o1),(16,o1)],[(12,o27),(14,o11),(15,o1),(17,o1)],[(.exit 2,[(12,o27),(14,o11),(15,o1)])],NQ,none⟩
def ZG:nB Tryz.prog (env 88 [] []) (lp 0 (lp 0 (body Tryz.f223) 0) 0) VR:=lk (bg _ _ _) h86 (n:=2) [] trivial (by kernel_rfl) λk x=>by kernel_rfl
def VQ:dR:=⟨[(0,o21),(3,o1),(4,o1)],[(12,o27),(14,o11),(15,o1),(16,o1)],[(.exit 0,[(14,o11)])],NP,none⟩
def ZF:nB Tryz.prog (env 88 [] []) (lp 0 (body Tryz.f223) 0) VQ:=lk (bg _ _ _) h86 (n:=0) [(2,VR)] ⟨ZG,trivial⟩ (by kernel_rfl) λk x=>by kernel_rfl
def T87:List (bA×hJ):=((223,[]),⟨true,[o21,o1,o1,o1,o1],[o11,o20],u5 Ws⟩)::T86
def h87:vf Tryz.prog T87:=fk (bg 88 [] []) h86 [(0,VQ)] ⟨ZF,trivial⟩ Tryz.func223 (by kernel_rfl) λx=>by kernel_rfl
def T88:List (bA×hJ):=((150,[]),⟨true,[o21,o1,o1,o1,o1],[o20],u5 PG⟩)::T87
def h88:vf Tryz.prog T88:=fk (bg 23 [] []) h87 [] trivial Tryz.func150 (by kernel_rfl) λx=>by kernel_rfl
def Tv:dR:=⟨[(6,o1),(7,o1)],[(5,.blk [v12,v12,v14,v1,v1,v6,v6,v6,v1,v1,v18]),(8,o1)],[(.ret,[(4,o20)]),(.exit 0,[])],PX,none⟩
def Yw:nB Tryz.prog (env 60 [] []) (lp 0 (body Tryz.f151) 0) Tv:=lk (bg _ _ _) h88 (n:=0) [] trivial (by kernel_rfl) λk x=>by kernel_rfl
def T89:List (bA×hJ):=((151,[]),⟨true,[a17,o1],[o20],u16 Mo⟩)::T88
def h89:vf Tryz.prog T89:=fk (bg 60 [] []) h88 [(0,Tv)] ⟨Yw,trivial⟩ Tryz.func151 (by kernel_rfl) λx=>by kernel_rfl
def T90:List (bA×hJ):=((320,[]),⟨true,[o1],[o30],u1 Ml⟩)::T89
def h90:vf Tryz.prog T90:=fk (bg 12 [] []) h89 [] trivial Tryz.func320 (by kernel_rfl) λx=>by kernel_rfl
def To:dR:=⟨[(3,o20)],[(0,o1),(4,o31)],[(.exit 0,[(4,o31)])],L2,none⟩
def Yq:nB Tryz.prog (env 30 [] []) (lp 0 (body Tryz.f306) 0) To:=lk (bg _ _ _) h90 (n:=0) [] trivial (by kernel_rfl) λk x=>by kernel_rfl
def T91:List (bA×hJ):=((306,[]),⟨true,[o1],[o31],u1 Ku⟩)::T90
def h91:vf Tryz.prog T91:=fk (bg 30 [] []) h90 [(0,To)] ⟨Yq,trivial⟩ Tryz.func306 (by kernel_rfl) λx=>by kernel_rfl
def WN:dR:=⟨[],[(5,o1),(6,o1)],[(.exit 0,[(5,o1)])],PB,none⟩
def aap:nB Tryz.prog (env 37 [] []) (lp 0 (body Tryz.f277) 0) WN:=lk (bg _ _ _) h91 (n:=0) [] trivial (by kernel_rfl) λk x=>by kernel_rfl
def WO:dR:=⟨[],[(7,o31)],[(.exit 2,[(7,o31)])],Uh,none⟩
def aaq:nB Tryz.prog (env 37 [] []) (lp 0 (body Tryz.f277) 1) WO:=lk (bg _ _ _) h91 (n:=2) [] trivial (by kernel_rfl) λk x=>by kernel_rfl
def T92:List (bA×hJ):=((277,[]),⟨true,[o1,o1],[o31],u2 RA⟩)::T91
def h92:vf Tryz.prog T92:=fk (bg 37 [] []) h91 [(0,WN),(2,WO)] ⟨aap,aaq,trivial⟩ Tryz.func277 (by kernel_rfl) λx=>by kernel_rfl
def VS:dR:=⟨[(1,o31),(2,.ro t39)],[(5,o1)],[(.ret,[(4,o1)]),(.exit 0,[])],RZ,none⟩
def ZH:nB Tryz.prog (env 30 [] []) (lp 0 (body Tryz.f224) 0) VS:=lk (bg _ _ _) h92 (n:=0) [] trivial (by kernel_rfl) λk x=>by kernel_rfl
def T93:List (bA×hJ):=((224,[]),⟨true,[a10,o31],[o1],u6 SR⟩)::T92
def h93:vf Tryz.prog T93:=fk (bg 30 [] []) h92 [(0,VS)] ⟨ZH,trivial⟩ Tryz.func224 (by kernel_rfl) λx=>by kernel_rfl
def UT:dR:=⟨[(0,o1)],[(3,o1),(4,o1)],[(.exit 0,[(3,o1)])],QA,none⟩
def Zd:nB Tryz.prog (env 13 [] []) (lp 0 (body Tryz.f278) 0) UT:=lk (bg _ _ _) h93 (n:=0) [] trivial (by kernel_rfl) λk x=>by kernel_rfl
def T94:List (bA×hJ):=((278,[]),⟨true,[o1],[o1],u1 Q7⟩)::T93
def h94:vf Tryz.prog T94:=fk (bg 13 [] []) h93 [(0,UT)] ⟨Zd,trivial⟩ Tryz.func278 (by kernel_rfl) λx=>by kernel_rfl
def T95:List (bA×hJ):=((225,[]),⟨true,[a10,o1,o1],[a10,o1],u7 Q6⟩)::T94
def h95:vf Tryz.prog T95:=fk (bg 36 [] []) h94 [] trivial Tryz.func225 (by kernel_rfl) λx=>by kernel_rfl
def T96:List (bA×hJ):=((152,[]),⟨true,[a10,o31,o1],[a10,o1],u7 ZW⟩)::T95
def h96:vf Tryz.prog T96:=fk (bg 42 [] []) h95 [] trivial Tryz.func152 (by kernel_rfl) λx=>by kernel_rfl
def T97:List (bA×hJ):=((75,[]),⟨false,[a13,a3],[a13,o1],u27 Kd⟩)::T96
def h97:vf Tryz.prog T97:=fk (bg 88 [] []) h96 [] trivial Tryz.func75 (by kernel_rfl) λx=>by kernel_rfl
def Tn:dR:=⟨[(3,.ro t37)],[(2,o1),(8,o1)],[(.exit 0,[(2,o1),(8,o1)])],L1,none⟩
def Yp:nB Tryz.prog (env 34 [] []) (lp 0 (body Tryz.f279) 0) Tn:=lk (bg _ _ _) h97 (n:=0) [] trivial (by kernel_rfl) λk x=>by kernel_rfl
def T98:List (bA×hJ):=((279,[]),⟨true,[a14,o1,o1],[o1,o20],u4 J2⟩)::T97
def h98:vf Tryz.prog T98:=fk (bg 34 [] []) h97 [(0,Tn)] ⟨Yp,trivial⟩ Tryz.func279 (by kernel_rfl) λx=>by kernel_rfl
def T99:List (bA×hJ):=((226,[]),⟨true,[a14,a4,o1,o1],[o1,o20],u12 KG⟩)::T98
def h99:vf Tryz.prog T99:=fk (bg 37 [] []) h98 [] trivial Tryz.func226 (by kernel_rfl) λx=>by kernel_rfl
def alo:List (bA×hJ):=((153,[]),⟨true,[a14,a4,o1,o1,o1],[o20],u13 PL⟩)::T99
def aqO:vf Tryz.prog alo:=fk (bg 28 [] []) h99 [] trivial Tryz.func153 (by kernel_rfl) λx=>by kernel_rfl
def alp:List (bA×hJ):=((76,[]),⟨false,[a13,a3],[a13,o1],u27 Ki⟩)::alo
def aqP:vf Tryz.prog alp:=fk (bg 63 [] []) aqO [] trivial Tryz.func76 (by kernel_rfl) λx=>by kernel_rfl
def alq:List (bA×hJ):=((227,[]),⟨true,[a14,a4,o1,o1],[o20],u12 Wt⟩)::alp
def aqQ:vf Tryz.prog alq:=fk (bg 21 [] []) aqP [] trivial Tryz.func227 (by kernel_rfl) λx=>by kernel_rfl
def alr:List (bA×hJ):=((154,[]),⟨true,[a14,a4,o1,o1,o1],[o20],u13 PA⟩)::alq
def aqR:vf Tryz.prog alr:=fk (bg 43 [] []) aqQ [] trivial Tryz.func154 (by kernel_rfl) λx=>by kernel_rfl
def als:List (bA×hJ):=((233,[]),⟨true,[a9,a9],[o20],u14 Mn⟩)::alr
def aoV:vf Tryz.prog als:=fk (bg 24 [] []) aqR [] trivial Tryz.func233 (by kernel_rfl) λx=>by kernel_rfl
def Oy:dR:=⟨[(0,o22),(1,o22)],[(6,o14),(7,o1),(8,o1)],[(.ret,[(4,o14),(5,o20)]),(.exit 0,[(6,o14)])],LR,none⟩
def V4:nB Tryz.prog (env 109 [] []) (lp 0 (body Tryz.f161) 0) Oy:=lk (bg _ _ _) aoV (n:=0) [] trivial (by kernel_rfl) λk x=>by kernel_rfl
def alu:List (bA×hJ):=((161,[]),⟨true,[o22,o22],[o14,o20],u2 Kv⟩)::als
def aoW:vf Tryz.prog alu:=fk (bg 109 [] []) aoV [(0,Oy)] ⟨V4,trivial⟩ Tryz.func161 (by kernel_rfl) λx=>by kernel_rfl
def Rj:dR:=⟨[(1,.ro t28)],[(4,o14),(5,o1)],[(.ret,[(2,o14),(3,o20)]),(.exit 0,[(4,o14)])],K2,none⟩
def Xb:nB Tryz.prog (env 34 [] []) (lp 0 (body Tryz.f228) 0) Rj:=lk (bg _ _ _) aoW (n:=0) [] trivial (by kernel_rfl) λk x=>by kernel_rfl
def alv:List (bA×hJ):=((228,[]),⟨true,[a17],[o14,o20],u15 M4⟩)::alu
def aoX:vf Tryz.prog alv:=fk (bg 34 [] []) aoW [(0,Rj)] ⟨Xb,trivial⟩ Tryz.func228 (by kernel_rfl) λx=>by kernel_rfl
def UK:dR:=⟨[(0,o22),(1,o1)],[(14,o14),(15,a21),(16,o1),(17,o1)],[(.exit 0,[(14,o14),(15,a21),(16,o1)])],Qq,none⟩
def Y4:nB Tryz.prog (env 88 [] []) (lp 0 (body Tryz.f229) 0) UK:=lk (bg _ _ _) aoX (n:=0) [] trivial (by kernel_rfl) λk x=>by kernel_rfl
def alw:List (bA×hJ):=((229,[]),⟨true,[o22,o1,o1,o1,o1,o1],[o14,o20],u6 QY⟩)::alv
def aqS:vf Tryz.prog alw:=fk (bg 88 [] []) aoX [(0,UK)] ⟨Y4,trivial⟩ Tryz.func229 (by kernel_rfl) λx=>by kernel_rfl
def alx:List (bA×hJ):=((155,[]),⟨false,[a13,o1,o1,o1,o1,o1],[a13,o20],u20 JA⟩)::alw
def aqT:vf Tryz.prog alx:=fk (bg 54 [] []) aqS [] trivial Tryz.func155 (by kernel_rfl) λx=>by kernel_rfl
def aly:List (bA×hJ):=((77,[]),⟨false,[a13,a3],[a13,o1],u27 JN⟩)::alx
def aqU:vf Tryz.prog aly:=fk (bg 77 [] []) aqT [] trivial Tryz.func77 (by kernel_rfl) λx=>by kernel_rfl
def alz:List (bA×hJ):=((31,[]),⟨false,[a13,a3],[a13,o1],u27 qb⟩)::aly
def aqV:vf Tryz.prog alz:=fk (bg 66 [] []) aqU [] trivial Tryz.func31 (by kernel_rfl) λx=>by kernel_rfl
def alA:List (bA×hJ):=((32,[]),⟨false,[a13,a3],[a13,o1],u27 Jg⟩)::alz
def aqW:vf Tryz.prog alA:=fk (bg 103 [] []) aqV [] trivial Tryz.func32 (by kernel_rfl) λx=>by kernel_rfl
def alB:List (bA×hJ):=((157,[]),⟨true,[a8],[a8,o20],u5 SM⟩)::alA
def aqX:vf Tryz.prog alB:=fk (bg 41 [] []) aqW [] trivial Tryz.func157 (by kernel_rfl) λx=>by kernel_rfl
def alC:List (bA×hJ):=((158,[]),⟨true,[a8],[o1],u5 SX⟩)::alB
def aqY:vf Tryz.prog alC:=fk (bg 18 [] []) aqX [] trivial Tryz.func158 (by kernel_rfl) λx=>by kernel_rfl
def alD:List (bA×hJ):=((234,[]),⟨true,[a15,o1],[a7,o20],u4 SV⟩)::alC
def aqZ:vf Tryz.prog alD:=fk (bg 35 [] []) aqY [] trivial Tryz.func234 (by kernel_rfl) λx=>by kernel_rfl
def alE:List (bA×hJ):=((164,[]),⟨true,[o19,o1],[o13,o20],u2 Q0⟩)::alD
def aoY:vf Tryz.prog alE:=fk (bg 37 [] []) aqZ [] trivial Tryz.func164 (by kernel_rfl) λx=>by kernel_rfl
def Tt:dR:=⟨[(2,o1),(3,.ro t37)],[(7,o1),(8,o1)],[(.exit 0,[(7,o1)])],L4,none⟩
def Yu:nB Tryz.prog (env 34 [] []) (lp 0 (body Tryz.f236) 0) Tt:=lk (bg _ _ _) aoY (n:=0) [] trivial (by kernel_rfl) λk x=>by kernel_rfl
def alF:List (bA×hJ):=((236,[]),⟨true,[a14,o1,o1],[o1],u4 PK⟩)::alE
def aq0:vf Tryz.prog alF:=fk (bg 34 [] []) aoY [(0,Tt)] ⟨Yu,trivial⟩ Tryz.func236 (by kernel_rfl) λx=>by kernel_rfl
def alG:List (bA×hJ):=((235,[]),⟨true,[a4,o1,o1,o1],[o1],u11 Vx⟩)::alF
def aq1:vf Tryz.prog alG:=fk (bg 39 [] []) aq0 [] trivial Tryz.func235 (by kernel_rfl) λx=>by kernel_rfl
def alH:List (bA×hJ):=((165,[]),⟨true,[a14,a4,o1,o1,o1,o1],[o1],u14 Ui⟩)::alG
def aq2:vf Tryz.prog alH:=fk (bg 52 [] []) aq1 [] trivial Tryz.func165 (by kernel_rfl) λx=>by kernel_rfl
def alI:List (bA×hJ):=((84,[]),⟨false,[a13,o1,o1,o1],[a13,o1],u18 Jb⟩)::alH
def aq3:vf Tryz.prog alI:=fk (bg 165 [] []) aq2 [] trivial Tryz.func84 (by kernel_rfl) λx=>by kernel_rfl
def alJ:List (bA×hJ):=((79,[]),⟨false,[a13,a3],[a13,o1],u27 Wu⟩)::alI
def aq4:vf Tryz.prog alJ:=fk (bg 50 [] []) aq3 [] trivial Tryz.func79 (by kernel_rfl) λx=>by kernel_rfl
def alK:List (bA×hJ):=((160,[]),⟨true,[o1,o1],[a22],u2 Ra⟩)::alJ
def aq5:vf Tryz.prog alK:=fk (bg 25 [] []) aq4 [] trivial Tryz.func160 (by kernel_rfl) λx=>by kernel_rfl
def alL:List (bA×hJ):=((280,[]),⟨true,[a22],[o20],u4 Q3⟩)::alK
def aq6:vf Tryz.prog alL:=fk (bg 21 [] []) aq5 [] trivial Tryz.func280 (by kernel_rfl) λx=>by kernel_rfl
def alM:List (bA×hJ):=((281,[]),⟨true,[o20,o1],[o20],u2 Lw⟩)::alL
def aq7:vf Tryz.prog alM:=fk (bg 14 [] []) aq6 [] trivial Tryz.func281 (by kernel_rfl) λx=>by kernel_rfl
def alN:List (bA×hJ):=((230,[]),⟨true,[a8,a22],[a23,o20],u9 SU⟩)::alM
def aq8:vf Tryz.prog alN:=fk (bg 38 [] []) aq7 [] trivial Tryz.func230 (by kernel_rfl) λx=>by kernel_rfl
def alO:List (bA×hJ):=((162,[]),⟨true,[a8],[o20],u5 MZ⟩)::alN
def aq9:vf Tryz.prog alO:=fk (bg 15 [] []) aq8 [] trivial Tryz.func162 (by kernel_rfl) λx=>by kernel_rfl
def alP:List (bA×hJ):=((282,[]),⟨true,[o1],[o1],u1 Oq⟩)::alO
def ara:vf Tryz.prog alP:=fk (bg 5 [] []) aq9 [] trivial Tryz.func282 (by kernel_rfl) λx=>by kernel_rfl
def alQ:List (bA×hJ):=((231,[]),⟨true,[a22],[o1],u4 MU⟩)::alP
def arb:vf Tryz.prog alQ:=fk (bg 18 [] []) ara [] trivial Tryz.func231 (by kernel_rfl) λx=>by kernel_rfl
def alR:List (bA×hJ):=((232,[]),⟨true,[o1,a23],[o1],u5 SY⟩)::alQ
def h128:vf Tryz.prog alR:=fk (bg 34 [] []) arb [] trivial Tryz.func232 (by kernel_rfl) λx=>by kernel_rfl
def alS:List (bA×hJ):=((159,[]),⟨true,[a8,a22],[a8,o1,o20],u9 SS⟩)::alR
def arc:vf Tryz.prog alS:=fk (bg 43 [] []) h128 [] trivial Tryz.func159 (by kernel_rfl) λx=>by kernel_rfl
def alT:List (bA×hJ):=((80,[]),⟨false,[a13,a3],[a13,o1],u27 NW⟩)::alS
def ard:vf Tryz.prog alT:=fk (bg 77 [] []) arc [] trivial Tryz.func80 (by kernel_rfl) λx=>by kernel_rfl
def alU:List (bA×hJ):=((81,[]),⟨false,[a13,a3],[a13,o1],u27 S2⟩)::alT
def aoZ:vf Tryz.prog alU:=fk (bg 36 [] []) ard [] trivial Tryz.func81 (by kernel_rfl) λx=>by kernel_rfl
def WT:dR:=IpR.lp ⟨⟨[(0,.agg [z7,z7,z7,z7,z7,z7,z7,z7,z7,z7,z7,.ref 12 [],.ref 13 [],.ref 14 [],.ref 15 []]),(2,.one (.ptr 4097 0)),(3,.one (.ptr 6145 0)),(4,.one (.ptr 8193 0)),(6,.one (.ptr 12289 0)),(7,.one (z7))],[(12,.arr 112 t23 true),(13,.arr 118 t15 false),(14,.arr 46 t17 false),(15,.arr 133 t12 false),(4097,.blk [z7,z7,z7,z7,z7,z7,z7,z7,z7,z7,z7,.ref 12 [],.ref 13 [],.ref 14 [],.ref 15 []]),(6145,.blk [z7,z7,z7,z7,atn,z7,z7,z7,z7,z7,z7,ajD]),(8193,.blk [z7,z7,z7,z7,z7,z7,z7,z7,z7,z7,z7,.nil 112 t23,.nil 118 t15,.nil 46 t17,.nil 133 t12]),(12289,.blk [.ref 12 [0],.ref 12 [1],.ref 12 [2],z7,z7,ajD,ajD,ajD,z7,z7,.ref 12 [10]])]⟩,[(.ret,⟨[(0,.agg [z7,z7,z7,z7,z7,z7,z7,z7,z7,z7,z7,.ref 12 [],.ref 13 [],.ref 14 [],.ref 15 []]),(4,.one (.ptr 8193 0)),(5,.one (z7))],[(12,.arr 112 t23 true),(13,.arr 118 t15 false),(14,.arr 46 t17 false),(15,.arr 133 t12 false),(8193,.blk [z7,z7,z7,z7,z7,z7,z7,z7,z7,z7,z7,.ref 12 [],.ref 13 [],.ref 14 [],.ref 15 []])]⟩),(.exit 0,⟨[(0,.agg [z7,z7,z7,z7,z7,z7,z7,z7,z7,z7,z7,.ref 12 [],.ref 13 [],.ref 14 [],.ref 15 []]),(2,.one (.ptr 4097 0)),(4,.one (.ptr 8193 0))],[(12,.arr 112 t23 true),(13,.arr 118 t15 false),(14,.arr 46 t17 false),(15,.arr 133 t12 false),(4097,.blk [z7,z7,z7,z7,z7,z7,z7,z7,z7,z7,z7,.ref 12 [],.ref 13 [],.ref 14 [],.ref 15 []]),(8193,.blk [z7,z7,z7,z7,z7,z7,z7,z7,z7,z7,z7,.nil 112 t23,.nil 118 t15,.nil 46 t17,.nil 133 t12])]⟩)],PW⟩
def aau:nB Tryz.prog (env 102 [] []) (lp 0 (body Tryz.f82) 0) WT:=ilk (bg _ _ _) aoZ (n:=0) [] trivial (by kernel_rfl) λx=>by kernel_rfl
def alV:List (bA×hJ):=((82,[]),⟨false,[a13,a3],[a13,o1],u27 Ot⟩)::alU
def arf:vf Tryz.prog alV:=fk (bg 102 [] []) aoZ [(0,WT)] ⟨aau,trivial⟩ Tryz.func82 (by kernel_rfl) λx=>by kernel_rfl
def alW:List (bA×hJ):=((83,[]),⟨true,[a8],[a8,o1,o20],u5 SQ⟩)::alV
def arh:vf Tryz.prog alW:=fk (bg 17 [] []) arf [] trivial Tryz.func83 (by kernel_rfl) λx=>by kernel_rfl
def alX:List (bA×hJ):=((85,[]),⟨true,[a8],[a8,o20],u5 Vv⟩)::alW
def ari:vf Tryz.prog alX:=fk (bg 26 [] []) arh [] trivial Tryz.func85 (by kernel_rfl) λx=>by kernel_rfl
def alY:List (bA×hJ):=((86,[]),⟨true,[a8,o1],[a8,o20],u6 X9⟩)::alX
def arj:vf Tryz.prog alY:=fk (bg 44 [] []) ari [] trivial Tryz.func86 (by kernel_rfl) λx=>by kernel_rfl
def alZ:List (bA×hJ):=((87,[]),⟨true,[a8],[a8],u5 Q2⟩)::alY
def ark:vf Tryz.prog alZ:=fk (bg 7 [] []) arj [] trivial Tryz.func87 (by kernel_rfl) λx=>by kernel_rfl
def al0:List (bA×hJ):=((33,[]),⟨false,[a13,a3],[a13,o1],u27 zg⟩)::alZ
def arl:vf Tryz.prog al0:=fk (bg 127 [] []) ark [] trivial Tryz.func33 (by kernel_rfl) λx=>by kernel_rfl
def al1:List (bA×hJ):=((7,[]),⟨true,[a17,a3],[a13,o1],u27 Ka⟩)::al0
def ao0:vf Tryz.prog al1:=fk (bg 87 [] []) arl [] trivial Tryz.func7 (by kernel_rfl) λx=>by kernel_rfl
def Sd:dR:=⟨[(1,o32)],[(4,a16),(6,o11),(7,a16),(8,o1)],[(.exit 0,[(4,a16),(6,o11),(7,a16)])],N7,none⟩
def XJ:nB Tryz.prog (env 46 [] []) (lp 0 (body Tryz.f15) 0) Sd:=lk (bg _ _ _) ao0 (n:=0) [] trivial (by kernel_rfl) λk x=>by kernel_rfl
def al2:List (bA×hJ):=((15,[]),⟨true,[a17,o32],[a13,o11],u16 NS⟩)::al1
def arm:vf Tryz.prog al2:=fk (bg 46 [] []) ao0 [(0,Sd)] ⟨XJ,trivial⟩ Tryz.func15 (by kernel_rfl) λx=>by kernel_rfl
def al3:List (bA×hJ):=((170,[]),⟨true,[o23],[o10],u1 F1⟩)::al2
def arn:vf Tryz.prog al3:=fk (bg 8 [] []) arm [] trivial Tryz.func170 (by kernel_rfl) λx=>by kernel_rfl
def al4:List (bA×hJ):=((91,[]),⟨true,[a14],[a5],u2 QL⟩)::al3
def aro:vf Tryz.prog al4:=fk (bg 10 [] []) arn [] trivial Tryz.func91 (by kernel_rfl) λx=>by kernel_rfl
def al5:List (bA×hJ):=((239,[]),⟨true,[o2],[o11],u1 J6⟩)::al4
def arp:vf Tryz.prog al5:=fk (bg 8 [] []) aro [] trivial Tryz.func239 (by kernel_rfl) λx=>by kernel_rfl
def al6:List (bA×hJ):=((240,[]),⟨true,[o24],[o12],u1 Jj⟩)::al5
def arq:vf Tryz.prog al6:=fk (bg 8 [] []) arp [] trivial Tryz.func240 (by kernel_rfl) λx=>by kernel_rfl
def al7:List (bA×hJ):=((171,[]),⟨true,[a15],[a7],u3 KF⟩)::al6
def ao1:vf Tryz.prog al7:=fk (bg 12 [] []) arq [] trivial Tryz.func171 (by kernel_rfl) λx=>by kernel_rfl
def UA:dR:=⟨[(6,o19),(7,o1)],[(3,o13),(8,o1)],[(.exit 0,[(3,o13)])],My,none⟩
def YU:nB Tryz.prog (env 19 [] [15]) (lp 0 (body Tryz.f92) 0) UA:=lk (bg _ _ _) ao1 (n:=0) [] trivial (by kernel_rfl) λk x=>by kernel_rfl
def al8:List (bA×hJ):=((92,[]),⟨true,[o19],[o13],u1 LI⟩)::al7
def ars:vf Tryz.prog al8:=fk (bg 19 [] [15]) ao1 [(0,UA)] ⟨YU,trivial⟩ Tryz.func92 (by kernel_rfl) λx=>by kernel_rfl
def al9:List (bA×hJ):=((93,[]),⟨true,[o22],[o14],u1 js⟩)::al8
def art:vf Tryz.prog al9:=fk (bg 8 [] []) ars [] trivial Tryz.func93 (by kernel_rfl) λx=>by kernel_rfl
def ama:List (bA×hJ):=((94,[]),⟨true,[o33],[o16],u1 I5⟩)::al9
def aru:vf Tryz.prog ama:=fk (bg 8 [] []) art [] trivial Tryz.func94 (by kernel_rfl) λx=>by kernel_rfl
def amb:List (bA×hJ):=((95,[]),⟨true,[o21],[o17],u1 sS⟩)::ama
def ao2:vf Tryz.prog amb:=fk (bg 8 [] []) aru [] trivial Tryz.func95 (by kernel_rfl) λx=>by kernel_rfl
def Rc:dR:=⟨[(1,.ro t28),(9,o34),(10,o1)],[(2,a16),(3,a24),(11,o1)],[(.exit 0,[(2,a16),(3,a24)])],Nd,none⟩
def W5:nB Tryz.prog (env 47 [] [30]) (lp 0 (body Tryz.f40) 0) Rc:=lk (bg _ _ _) ao2 (n:=0) [] trivial (by kernel_rfl) λk x=>by kernel_rfl
def amc:List (bA×hJ):=((40,[]),⟨true,[a17],[a13],u15 K6⟩)::amb
def arw:vf Tryz.prog amc:=fk (bg 47 [] [30]) ao2 [(0,Rc)] ⟨W5,trivial⟩ Tryz.func40 (by kernel_rfl) λx=>by kernel_rfl
def amd:List (bA×hJ):=((42,[]),⟨true,[o1,o1,o1],[o20],u3 ct⟩)::amc
def arx:vf Tryz.prog amd:=fk (bg 15 [] []) arw [] trivial Tryz.func42 (by kernel_rfl) λx=>by kernel_rfl
def ame:List (bA×hJ):=((96,[]),⟨true,[a4],[o20],u8 Mt⟩)::amd
def ary:vf Tryz.prog ame:=fk (bg 41 [] []) arx [] trivial Tryz.func96 (by kernel_rfl) λx=>by kernel_rfl
def amf:List (bA×hJ):=((97,[]),⟨true,[o1],[o20],u1 Jo⟩)::ame
def arz:vf Tryz.prog amf:=fk (bg 5 [] []) ary [] trivial Tryz.func97 (by kernel_rfl) λx=>by kernel_rfl
def amg:List (bA×hJ):=((98,[]),⟨true,[o1],[o20],u1 I9⟩)::amf
def arA:vf Tryz.prog amg:=fk (bg 5 [] []) arz [] trivial Tryz.func98 (by kernel_rfl) λx=>by kernel_rfl
def amh:List (bA×hJ):=((122,[]),⟨true,[o1],[o20],u1 Fv⟩)::amg
def arB:vf Tryz.prog amh:=fk (bg 5 [] []) arA [] trivial Tryz.func122 (by kernel_rfl) λx=>by kernel_rfl
def ami:List (bA×hJ):=((123,[]),⟨true,[a12],[o20],u7 JS⟩)::amh
def arC:vf Tryz.prog ami:=fk (bg 45 [] []) arB [] trivial Tryz.func123 (by kernel_rfl) λx=>by kernel_rfl
def amj:List (bA×hJ):=((173,[]),⟨true,[a12],[o20],u7 RD⟩)::ami
def ao3:vf Tryz.prog amj:=fk (bg 6 [] []) arC [] trivial Tryz.func173 (by kernel_rfl) λx=>by kernel_rfl
def I7:dR:=⟨[(0,o21),(1,.fn 173 []),(7,o1)],[(8,o1)],[(.ret,[(4,o1)]),(.exit 0,[])],vp,none⟩
def JF:nB Tryz.prog (env 19 [] []) (lp 0 (body Tryz.f241) 0) I7:=lk (bg _ _ _) ao3 (n:=0) [] trivial (by kernel_rfl) λk x=>by kernel_rfl
def amk:List (bA×hJ):=((241,[173]),⟨true,[o21,.fn 173 []],[o1],u1 xp⟩)::amj
def arD:vf Tryz.prog amk:=fk (bg 19 [] []) ao3 [(0,I7)] ⟨JF,trivial⟩ Tryz.func241 (by kernel_rfl) λx=>by kernel_rfl
def aml:List (bA×hJ):=((172,[173]),⟨true,[o21,.fn 173 []],[o20],u1 ve⟩)::amk
def arE:vf Tryz.prog aml:=fk (bg 9 [] []) arD [] trivial Tryz.func172 (by kernel_rfl) λx=>by kernel_rfl
def amm:List (bA×hJ):=((99,[]),⟨true,[o21],[o20],u1 JT⟩)::aml
def arF:vf Tryz.prog amm:=fk (bg 11 [] []) arE [] trivial Tryz.func99 (by kernel_rfl) λx=>by kernel_rfl
def amn:List (bA×hJ):=((174,[]),⟨true,[a9],[o20],u7 Su⟩)::amm
def ao4:vf Tryz.prog amn:=fk (bg 36 [] []) arF [] trivial Tryz.func174 (by kernel_rfl) λx=>by kernel_rfl
def Ta:dR:=⟨[(0,o22),(9,o22),(10,o1)],[(11,o1)],[(.ret,[(2,o20)]),(.exit 0,[])],OL,none⟩
def Yb:nB Tryz.prog (env 53 [] []) (lp 0 (body Tryz.f100) 0) Ta:=lk (bg _ _ _) ao4 (n:=0) [] trivial (by kernel_rfl) λk x=>by kernel_rfl
def amo:List (bA×hJ):=((100,[]),⟨true,[o22],[o20],u1 Jx⟩)::amn
def ao5:vf Tryz.prog amo:=fk (bg 53 [] []) ao4 [(0,Ta)] ⟨Yb,trivial⟩ Tryz.func100 (by kernel_rfl) λx=>by kernel_rfl
def VF:dR:=⟨[(0,o23),(1,o1),(10,o23),(11,o1)],[(12,o1)],[(.ret,[(4,o20)]),(.exit 0,[])],RH,none⟩
def Zu:nB Tryz.prog (env 49 [] []) (lp 0 (body Tryz.f242) 0) VF:=lk (bg _ _ _) ao5 (n:=0) [] trivial (by kernel_rfl) λk x=>by kernel_rfl
def amq:List (bA×hJ):=((242,[]),⟨true,[o23,o1],[o20],u2 OR⟩)::amo
def arG:vf Tryz.prog amq:=fk (bg 49 [] []) ao5 [(0,VF)] ⟨Zu,trivial⟩ Tryz.func242 (by kernel_rfl) λx=>by kernel_rfl
def amr:List (bA×hJ):=((175,[]),⟨true,[a14],[o20],u2 Kg⟩)::amq
def ajg:vf Tryz.prog amr:=fk (bg 11 [] []) arG [] trivial Tryz.func175 (by kernel_rfl) λx=>by kernel_rfl
def Uv:dR:=⟨[(1,.ro t22),(23,o2),(24,o1)],[(25,o1)],[(.ret,[(2,o20)]),(.exit 0,[])],Qa,none⟩
def YP:nB Tryz.prog (env 118 [] []) (lp 0 (body Tryz.f243) 0) Uv:=lk (bg _ _ _) ajg (n:=0) [] trivial (by kernel_rfl) λk x=>by kernel_rfl
def Uw:dR:=⟨[(1,.ro t22),(54,o24),(55,o1)],[(5,o1),(6,.one (.mp .i64)),(7,.one (.mp .i64)),(56,o1)],[(.ret,[(2,o20)]),(.exit 2,[(5,o1),(6,.one (.mp .i64))])],Qb,none⟩
def YQ:nB Tryz.prog (env 118 [] []) (lp 0 (body Tryz.f243) 1) Uw:=lk (bg _ _ _) ajg (n:=2) [] trivial (by kernel_rfl) λk x=>by kernel_rfl
def Ux:dR:=⟨[(1,.ro t22),(5,o1),(103,o2),(104,o1)],[(6,.one (.mp .i64)),(105,o1)],[(.ret,[(2,o20)]),(.exit 4,[])],Qc,none⟩
def YR:nB Tryz.prog (env 118 [] []) (lp 0 (body Tryz.f243) 2) Ux:=lk (bg _ _ _) ajg (n:=4) [] trivial (by kernel_rfl) λk x=>by kernel_rfl
def ams:List (bA×hJ):=((243,[]),⟨true,[a15],[o20],u3 LF⟩)::amr
def akG:vf Tryz.prog ams:=fk (bg 118 [] []) ajg [(0,Uv),(2,Uw),(4,Ux)] ⟨YP,YQ,YR,trivial⟩ Tryz.func243 (by kernel_rfl) λx=>by kernel_rfl
def Wy:dR:=⟨[(13,o19),(14,o1),(15,o1),(23,o24),(24,o1)],[(3,.one (.mp .i64)),(25,o1)],[(.ret,[(2,o20)]),(.exit 2,[(3,.one (.mp .i64))])],TE,none⟩
def aab:nB Tryz.prog (env 43 [] []) (lp 0 (lp 0 (body Tryz.f176) 0) 0) Wy:=lk (bg _ _ _) akG (n:=2) [] trivial (by kernel_rfl) λk x=>by kernel_rfl
def Wx:dR:=⟨[(13,o19),(14,o1)],[(3,.one (.mp .i64)),(15,o1)],[(.ret,[(2,o20)]),(.exit 0,[])],TD,none⟩
def aaa:nB Tryz.prog (env 43 [] []) (lp 0 (body Tryz.f176) 0) Wx:=lk (bg _ _ _) akG (n:=0) [(2,Wy)] ⟨aab,trivial⟩ (by kernel_rfl) λk x=>by kernel_rfl
def amt:List (bA×hJ):=((176,[]),⟨true,[o19],[o20],u1 KJ⟩)::ams
def arH:vf Tryz.prog amt:=fk (bg 43 [] []) akG [(0,Wx)] ⟨aaa,trivial⟩ Tryz.func176 (by kernel_rfl) λx=>by kernel_rfl
def amu:List (bA×hJ):=((193,[]),⟨true,[a8],[o20],u5 U6⟩)::amt
def arI:vf Tryz.prog amu:=fk (bg 9 [] []) arH [] trivial Tryz.func193 (by kernel_rfl) λx=>by kernel_rfl
def amv:List (bA×hJ):=((177,[]),⟨true,[a8],[o20],u5 E2⟩)::amu
def arJ:vf Tryz.prog amv:=fk (bg 90 [] []) arI [] trivial Tryz.func177 (by kernel_rfl) λx=>by kernel_rfl
def amw:List (bA×hJ):=((101,[]),⟨true,[a17,o1],[o20],u16 U8⟩)::amv
def arK:vf Tryz.prog amw:=fk (bg 89 [] []) arJ [] trivial Tryz.func101 (by kernel_rfl) λx=>by kernel_rfl
def amx:List (bA×hJ):=((178,[]),⟨true,[a17,a11],[o20],u28 Ly⟩)::amw
def arL:vf Tryz.prog amx:=fk (bg 29 [] []) arK [] trivial Tryz.func178 (by kernel_rfl) λx=>by kernel_rfl
def amy:List (bA×hJ):=((179,[]),⟨true,[a10],[o20],u5 Ke⟩)::amx
def arM:vf Tryz.prog amy:=fk (bg 26 [] []) arL [] trivial Tryz.func179 (by kernel_rfl) λx=>by kernel_rfl
def amz:List (bA×hJ):=((180,[]),⟨true,[a17,o1],[o1],u16 Kf⟩)::amy
def arN:vf Tryz.prog amz:=fk (bg 21 [] []) arM [] trivial Tryz.func180 (by kernel_rfl) λx=>by kernel_rfl
def amA:List (bA×hJ):=((102,[]),⟨true,[a17,o1],[o20],u16 QO⟩)::amz
def ah7:vf Tryz.prog amA:=fk (bg 140 [] []) arN [] trivial Tryz.func102 (by kernel_rfl) λx=>by kernel_rfl
def VI:dR:=⟨[(1,.ro t28),(4,o1),(14,o34),(15,o1),(16,o1),(22,o19),(23,o1),(24,o1),(29,o24),(30,o1)],[(3,o1),(31,o1)],[(.ret,[(2,o20)]),(.exit 4,[(3,o1)])],RN,none⟩
def Zx:nB Tryz.prog (env 107 [] []) (lp 2 (lp 0 (lp 0 (body Tryz.f103) 0) 0) 0) VI:=lk (bg _ _ _) ah7 (n:=4) [] trivial (by kernel_rfl) λk x=>by kernel_rfl
def VH:dR:=⟨[(1,.ro t28),(4,o1),(14,o34),(15,o1),(16,o1),(22,o19),(23,o1)],[(3,o1),(24,o1)],[(.ret,[(2,o20)]),(.exit 2,[(3,o1)])],RM,none⟩
def Zw:nB Tryz.prog (env 107 [] []) (lp 0 (lp 0 (body Tryz.f103) 0) 0) VH:=lk (bg _ _ _) ah7 (n:=2) [(4,VI)] ⟨Zx,trivial⟩ (by kernel_rfl) λk x=>by kernel_rfl
def VG:dR:=⟨[(1,.ro t28),(14,o34),(15,o1)],[(3,o1),(16,o1)],[(.ret,[(2,o20)]),(.exit 0,[(3,o1)])],WY,none⟩
def Zv:nB Tryz.prog (env 107 [] []) (lp 0 (body Tryz.f103) 0) VG:=lk (bg _ _ _) ah7 (n:=0) [(2,VH)] ⟨Zw,trivial⟩ (by kernel_rfl) λk x=>by kernel_rfl
def VJ:dR:=⟨[(88,o33),(89,o1)],[(3,o1),(90,o1)],[(.exit 6,[(3,o1)])],WZ,none⟩
def Zy:nB Tryz.prog (env 107 [] []) (lp 0 (body Tryz.f103) 1) VJ:=lk (bg _ _ _) ah7 (n:=6) [] trivial (by kernel_rfl) λk x=>by kernel_rfl
def amB:List (bA×hJ):=((103,[]),⟨true,[a17],[o20],u15 SD⟩)::amA
def ao6:vf Tryz.prog amB:=fk (bg 107 [] []) ah7 [(0,VG),(6,VJ)] ⟨Zv,Zy,trivial⟩ Tryz.func103 (by kernel_rfl) λx=>by kernel_rfl
def WC:dR:=⟨[(1,.ro t28),(7,o33),(8,o1)],[(3,o1),(9,o1)],[(.exit 0,[(3,o1)])],Xv,none⟩
def aaf:nB Tryz.prog (env 27 [] []) (lp 0 (body Tryz.f104) 0) WC:=lk (bg _ _ _) ao6 (n:=0) [] trivial (by kernel_rfl) λk x=>by kernel_rfl
def amC:List (bA×hJ):=((104,[]),⟨true,[a17],[o1],u15 Rt⟩)::amB
def akH:vf Tryz.prog amC:=fk (bg 27 [] []) ao6 [(0,WC)] ⟨aaf,trivial⟩ Tryz.func104 (by kernel_rfl) λx=>by kernel_rfl
def Tb:dR:=⟨[(1,.ro t28),(54,o1)],[(55,o1)],[(.ret,[(2,o20)]),(.exit 0,[])],U3,none⟩
def Yc:nB Tryz.prog (env 83 [] []) (lp 0 (body Tryz.f41) 0) Tb:=lk (bg _ _ _) akH (n:=0) [] trivial (by kernel_rfl) λk x=>by kernel_rfl
def Tc:dR:=⟨[(1,.ro t28),(65,o1)],[(66,o1)],[(.ret,[(2,o20)]),(.exit 2,[])],U4,none⟩
def Yd:nB Tryz.prog (env 83 [] []) (lp 0 (body Tryz.f41) 1) Tc:=lk (bg _ _ _) akH (n:=2) [] trivial (by kernel_rfl) λk x=>by kernel_rfl
def amD:List (bA×hJ):=((41,[]),⟨true,[a17],[o20],u15 Mc⟩)::amC
def arO:vf Tryz.prog amD:=fk (bg 83 [] []) akH [(0,Tb),(2,Tc)] ⟨Yc,Yd,trivial⟩ Tryz.func41 (by kernel_rfl) λx=>by kernel_rfl
def amE:List (bA×hJ):=((244,[]),⟨true,[o21,o1,o1,o1,o1],[o20],u5 Wf⟩)::amD
def arP:vf Tryz.prog amE:=fk (bg 29 [] []) arO [] trivial Tryz.func244 (by kernel_rfl) λx=>by kernel_rfl
def amF:List (bA×hJ):=((286,[]),⟨true,[a12,o1,o1],[o20],u9 OE⟩)::amE
def ah8:vf Tryz.prog amF:=fk (bg 37 [] []) arP [] trivial Tryz.func286 (by kernel_rfl) λx=>by kernel_rfl
def Xi:dR:=⟨[(0,o21),(3,o1),(4,o1),(5,o1),(18,o1),(46,o21),(47,o1)],[(14,o35),(16,o11),(17,o1),(48,o1)],[(.exit 4,[(14,o35),(16,o11),(17,o1)])],QK,none⟩
def aa2:nB Tryz.prog (env 126 [] []) (lp 2 (lp 0 (lp 0 (body Tryz.f245) 0) 0) 0) Xi:=lk (bg _ _ _) ah8 (n:=4) [] trivial (by kernel_rfl) λk x=>by kernel_rfl
def Xh:dR:=⟨[(0,o21),(3,o1),(4,o1),(5,o1)],[(14,o35),(16,o11),(17,o1),(18,o1)],[(.exit 2,[(16,o11)])],QJ,none⟩
def aa1:nB Tryz.prog (env 126 [] []) (lp 0 (lp 0 (body Tryz.f245) 0) 0) Xh:=lk (bg _ _ _) ah8 (n:=2) [(4,Xi)] ⟨aa2,trivial⟩ (by kernel_rfl) λk x=>by kernel_rfl
def Xj:dR:=⟨[(0,o21),(1,o1),(3,o1),(4,o1),(5,o1),(15,o1),(91,o21),(92,o1)],[(14,o35),(21,.one (.mp .i64)),(93,o1)],[(.exit 6,[(14,o35),(21,.one (.mp .i64))])],VA,none⟩
def aa3:nB Tryz.prog (env 126 [] []) (lp 0 (lp 0 (body Tryz.f245) 0) 1) Xj:=lk (bg _ _ _) ah8 (n:=6) [] trivial (by kernel_rfl) λk x=>by kernel_rfl
def Xg:dR:=⟨[(0,o21),(1,o1),(3,o1),(4,o1),(5,o1)],[(14,o35),(15,o1)],[(.ret,[(12,o11),(13,o20)]),(.exit 0,[])],LG,none⟩
def aa0:nB Tryz.prog (env 126 [] []) (lp 0 (body Tryz.f245) 0) Xg:=lk (bg _ _ _) ah8 (n:=0) [(2,Xh),(6,Xj)] ⟨aa1,aa3,trivial⟩ (by kernel_rfl) λk x=>by kernel_rfl
def amG:List (bA×hJ):=((245,[]),⟨true,[o21,o1,o1,o1,o1,o1],[o11,o20],u6 Wh⟩)::amF
def arQ:vf Tryz.prog amG:=fk (bg 126 [] []) ah8 [(0,Xg)] ⟨aa0,trivial⟩ Tryz.func245 (by kernel_rfl) λx=>by kernel_rfl
def amH:List (bA×hJ):=((181,[]),⟨true,[o21,o1,o1,o1,o1],[o11,o20],u5 Wd⟩)::amG
def arR:vf Tryz.prog amH:=fk (bg 27 [] []) arQ [] trivial Tryz.func181 (by kernel_rfl) λx=>by kernel_rfl
def amI:List (bA×hJ):=((105,[]),⟨true,[o21,o1,o1,o1,o1],[o20],u5 OM⟩)::amH
def ao7:vf Tryz.prog amI:=fk (bg 23 [] []) arR [] trivial Tryz.func105 (by kernel_rfl) λx=>by kernel_rfl
def VK:dR:=⟨[(1,o1),(7,o23),(8,o1)],[(9,o1)],[(.ret,[(4,o20)]),(.exit 0,[])],RQ,none⟩
def Zz:nB Tryz.prog (env 24 [] []) (lp 0 (body Tryz.f248) 0) VK:=lk (bg _ _ _) ao7 (n:=0) [] trivial (by kernel_rfl) λk x=>by kernel_rfl
def amJ:List (bA×hJ):=((248,[]),⟨true,[o23,o1],[o20],u2 OU⟩)::amI
def arS:vf Tryz.prog amJ:=fk (bg 24 [] []) ao7 [(0,VK)] ⟨Zz,trivial⟩ Tryz.func248 (by kernel_rfl) λx=>by kernel_rfl
def amK:List (bA×hJ):=((185,[]),⟨true,[a14,o1],[o20],u3 Oh⟩)::amJ
def ao8:vf Tryz.prog amK:=fk (bg 17 [] []) arS [] trivial Tryz.func185 (by kernel_rfl) λx=>by kernel_rfl
def S9:dR:=⟨[(3,.ro t37)],[(2,o1),(8,o1)],[(.ret,[(6,o1),(7,o20)]),(.exit 0,[])],OD,none⟩
def Ya:nB Tryz.prog (env 38 [] []) (lp 0 (body Tryz.f246) 0) S9:=lk (bg _ _ _) ao8 (n:=0) [] trivial (by kernel_rfl) λk x=>by kernel_rfl
def amL:List (bA×hJ):=((246,[]),⟨true,[a14,o1,o1],[o1,o20],u4 K5⟩)::amK
def arT:vf Tryz.prog amL:=fk (bg 38 [] []) ao8 [(0,S9)] ⟨Ya,trivial⟩ Tryz.func246 (by kernel_rfl) λx=>by kernel_rfl
def amM:List (bA×hJ):=((182,[]),⟨true,[a14,a4,o1,o1],[o1,o20],u12 KE⟩)::amL
def arU:vf Tryz.prog amM:=fk (bg 42 [] []) arT [] trivial Tryz.func182 (by kernel_rfl) λx=>by kernel_rfl
def amN:List (bA×hJ):=((109,[]),⟨true,[a14,a4,o1,o1,o1],[o20],u13 OQ⟩)::amM
def arV:vf Tryz.prog amN:=fk (bg 31 [] []) arU [] trivial Tryz.func109 (by kernel_rfl) λx=>by kernel_rfl
def amO:List (bA×hJ):=((106,[]),⟨true,[a14,a4,o1,o1,o1],[o20],u13 OI⟩)::amN
def arW:vf Tryz.prog amO:=fk (bg 54 [] []) arV [] trivial Tryz.func106 (by kernel_rfl) λx=>by kernel_rfl
def amP:List (bA×hJ):=((108,[]),⟨true,[a14,o1],[o20],u3 U2⟩)::amO
def ao9:vf Tryz.prog amP:=fk (bg 16 [] []) arW [] trivial Tryz.func108 (by kernel_rfl) λx=>by kernel_rfl
def LS:dR:=⟨[(0,o2),(1,o1),(7,o1)],[(8,o1)],[(.ret,[(4,o1)]),(.exit 0,[])],Kt,none⟩
def RX:nB Tryz.prog (env 19 [] []) (lp 0 (body Tryz.f322) 0) LS:=lk (bg _ _ _) ao9 (n:=0) [] trivial (by kernel_rfl) λk x=>by kernel_rfl
def amQ:List (bA×hJ):=((322,[]),⟨true,[o2,o1],[o1],u2 Lb⟩)::amP
def arX:vf Tryz.prog amQ:=fk (bg 19 [] []) ao9 [(0,LS)] ⟨RX,trivial⟩ Tryz.func322 (by kernel_rfl) λx=>by kernel_rfl
def amR:List (bA×hJ):=((309,[]),⟨true,[o2,o1],[o20],u2 JK⟩)::amQ
def apa:vf Tryz.prog amR:=fk (bg 9 [] []) arX [] trivial Tryz.func309 (by kernel_rfl) λx=>by kernel_rfl
def WE:dR:=⟨[(1,.ro t22),(9,o24),(10,o1)],[(3,o36),(4,o20),(11,o1)],[(.exit 0,[(3,o36)])],TM,none⟩
def aah:nB Tryz.prog (env 69 [] []) (lp 0 (body Tryz.f290) 0) WE:=lk (bg _ _ _) apa (n:=0) [] trivial (by kernel_rfl) λk x=>by kernel_rfl
def amS:List (bA×hJ):=((290,[]),⟨true,[a15],[o36],u3 Ru⟩)::amR
def akI:vf Tryz.prog amS:=fk (bg 69 [] []) apa [(0,WE)] ⟨aah,trivial⟩ Tryz.func290 (by kernel_rfl) λx=>by kernel_rfl
def Uz:dR:=⟨[(4,o1),(9,o19),(10,o1),(11,o1),(18,o1)],[(3,o25),(17,o36),(19,o1)],[(.exit 2,[(3,o25)])],Mw,none⟩
def YT:nB Tryz.prog (env 34 [] []) (lp 0 (lp 0 (body Tryz.f289) 0) 0) Uz:=lk (bg _ _ _) akI (n:=2) [] trivial (by kernel_rfl) λk x=>by kernel_rfl
def Uy:dR:=⟨[(9,o19),(10,o1)],[(3,o25),(11,o1)],[(.exit 0,[(3,o25)])],Qd,none⟩
def YS:nB Tryz.prog (env 34 [] []) (lp 0 (body Tryz.f289) 0) Uy:=lk (bg _ _ _) akI (n:=0) [(2,Uz)] ⟨YT,trivial⟩ (by kernel_rfl) λk x=>by kernel_rfl
def amT:List (bA×hJ):=((289,[]),⟨true,[o19],[o25],u1 QH⟩)::amS
def arY:vf Tryz.prog amT:=fk (bg 34 [] []) akI [(0,Uy)] ⟨YS,trivial⟩ Tryz.func289 (by kernel_rfl) λx=>by kernel_rfl
def amU:List (bA×hJ):=((250,[]),⟨true,[o19],[o25],u1 Vz⟩)::amT
def apb:vf Tryz.prog amU:=fk (bg 8 [] []) arY [] trivial Tryz.func250 (by kernel_rfl) λx=>by kernel_rfl
def Xk:dR:=⟨[(1,o1),(14,o26),(15,o1)],[(4,a25),(6,a25),(7,o20),(16,o1)],[(.exit 0,[(4,a25),(6,a25),(7,o20)])],QN,none⟩
def aa4:nB Tryz.prog (env 39 [] []) (lp 0 (body Tryz.f249) 0) Xk:=lk (bg _ _ _) apb (n:=0) [] trivial (by kernel_rfl) λk x=>by kernel_rfl
def amV:List (bA×hJ):=((249,[]),⟨true,[o26,o1],[a19,o20],u2 TJ⟩)::amU
def arZ:vf Tryz.prog amV:=fk (bg 39 [] []) apb [(0,Xk)] ⟨aa4,trivial⟩ Tryz.func249 (by kernel_rfl) λx=>by kernel_rfl
def amW:List (bA×hJ):=((186,[]),⟨true,[o19,o1],[a19,o20],u2 Ss⟩)::amV
def ar0:vf Tryz.prog amW:=fk (bg 12 [] []) arZ [] trivial Tryz.func186 (by kernel_rfl) λx=>by kernel_rfl
def amX:List (bA×hJ):=((254,[]),⟨true,[a6,.ro t0],[o20],u5 Wg⟩)::amW
def apc:vf Tryz.prog amX:=fk (bg 8 [] []) ar0 [] trivial Tryz.func254 (by kernel_rfl) λx=>by kernel_rfl
def Ji:dR:=⟨[(0,o24),(1,.fn 254 [t0]),(7,o1)],[(8,o1)],[(.ret,[(4,o1)]),(.exit 0,[])],D3,none⟩
def JZ:nB Tryz.prog (env 19 [] []) (lp 0 (body Tryz.f127) 0) Ji:=lk (bg _ _ _) apc (n:=0) [] trivial (by kernel_rfl) λk x=>by kernel_rfl
def amY:List (bA×hJ):=((127,[254]),⟨true,[o24,.fn 254 [t0]],[o1],u2 Gi⟩)::amX
def ar1:vf Tryz.prog amY:=fk (bg 19 [] []) apc [(0,Ji)] ⟨JZ,trivial⟩ Tryz.func127 (by kernel_rfl) λx=>by kernel_rfl
def amZ:List (bA×hJ):=((189,[]),⟨true,[a15,o1],[o1],u4 Qe⟩)::amY
def ar2:vf Tryz.prog amZ:=fk (bg 9 [] []) ar1 [] trivial Tryz.func189 (by kernel_rfl) λx=>by kernel_rfl
def am0:List (bA×hJ):=((252,[]),⟨true,[a15,.ro t0],[o20],u4 RO⟩)::amZ
def apd:vf Tryz.prog am0:=fk (bg 8 [] []) ar2 [] trivial Tryz.func252 (by kernel_rfl) λx=>by kernel_rfl
def It:dR:=⟨[(0,o19),(1,.fn 252 [t0]),(7,o1)],[(8,o1)],[(.ret,[(4,o1)]),(.exit 0,[])],tf,none⟩
def JD:nB Tryz.prog (env 19 [] []) (lp 0 (body Tryz.f251) 0) It:=lk (bg _ _ _) apd (n:=0) [] trivial (by kernel_rfl) λk x=>by kernel_rfl
def am1:List (bA×hJ):=((251,[252]),⟨true,[o19,.fn 252 [t0]],[o1],u2 vw⟩)::am0
def ar3:vf Tryz.prog am1:=fk (bg 19 [] []) apd [(0,It)] ⟨JD,trivial⟩ Tryz.func251 (by kernel_rfl) λx=>by kernel_rfl
def am2:List (bA×hJ):=((187,[]),⟨true,[o19,o1],[o1],u2 LH⟩)::am1
def akJ:vf Tryz.prog am2:=fk (bg 8 [] []) ar3 [] trivial Tryz.func187 (by kernel_rfl) λx=>by kernel_rfl
def JW:dR:=⟨[(0,o37),(9,o37),(10,o1)],[(3,o1),(11,o1)],[(.exit 0,[(3,o1)])],Jp,none⟩
def L7:nB Tryz.prog (env 36 [] []) (lp 0 (body Tryz.f291) 0) JW:=lk (bg _ _ _) akJ (n:=0) [] trivial (by kernel_rfl) λk x=>by kernel_rfl
def JX:dR:=⟨[(25,o37),(26,o1)],[(6,o12),(27,o1)],[(.exit 2,[(6,o12)])],Jq,none⟩
def L8:nB Tryz.prog (env 36 [] []) (lp 0 (body Tryz.f291) 1) JX:=lk (bg _ _ _) akJ (n:=2) [] trivial (by kernel_rfl) λk x=>by kernel_rfl
def aek:Go.Shelf.Ren:=⟨fun|4=>310|n=>n,fun|25=>165|22=>163|3=>3|4=>4|0=>0|9=>9|20=>20|n=>n,λn=>n⟩
def ah4:Go.Proofs.Lays8.n4 Tryz.prog aek:={ mixed:=by kernel_rfl, f4:=⟨"slices.Grow[[]loop.example/g03318/impl.Box,loop.example/g03318/impl.Box]", by kernel_rfl, Go.Proofs.Tryz.func310.trans (congrArg some (by kernel_rfl))⟩, t0:=Go.Proofs.Tryz.underlying0, a0:=Go.Proofs.Tryz.isAgg0, z0:=Go.Proofs.Tryz.sizeOf0, v0:=Go.Proofs.Tryz.zeroValue0, t3:=Go.Proofs.Tryz.underlying3, a3:=Go.Proofs.Tryz.isAgg3, z3:=Go.Proofs.Tryz.sizeOf3, v3:=Go.Proofs.Tryz.zeroValue3, t4:=Go.Proofs.Tryz.underlying4, a4:=Go.Proofs.Tryz.isAgg4, z4:=Go.Proofs.Tryz.sizeOf4, v4:=Go.Proofs.Tryz.zeroValue4, t9:=Go.Proofs.Tryz.underlying9, a9:=Go.Proofs.Tryz.isAgg9, z9:=Go.Proofs.Tryz.sizeOf9, v9:=Go.Proofs.Tryz.zeroValue9, t20:=Go.Proofs.Tryz.underlying20, a20:=Go.Proofs.Tryz.isAgg20, z20:=Go.Proofs.Tryz.sizeOf20, v20:=Go.Proofs.Tryz.zeroValue20, t22:=Go.Proofs.Tryz.underlying163, a22:=Go.Proofs.Tryz.isAgg163, z22:=Go.Proofs.Tryz.sizeOf163, v22:=Go.Proofs.Tryz.zeroValue163 }
def LA:aaE Tryz.prog 310 (λR=>aa9 165 t10 (av R)):=ah5 (ρ:=aek) ah4 rfl rfl (by kernel_rfl)
def Nb:Xl:=[(310,λR=>aa9 165 t10 (av R))]
def M6:ace Tryz.prog Nb:=⟨LA,trivial⟩
def am3:List (bA×hJ):=((291,[]),⟨true,[o37],[o12],u1 Jh⟩)::am2
def ape:vf Tryz.prog am3:=fkI (bg 36 [] []) akJ [(0,JW),(2,JX)] M6 ⟨L7,L8,trivial⟩ Tryz.func291 (by kernel_rfl) λx=>by kernel_rfl
def WB:dR:=⟨[(1,o1),(2,o24),(3,.ro t22),(14,o1)],[(6,a20),(7,a20),(13,o36),(15,o1)],[(.exit 0,[(6,a20),(7,a20)])],TH,none⟩
def aae:nB Tryz.prog (env 40 [] []) (lp 0 (body Tryz.f253) 0) WB:=lk (bg _ _ _) ape (n:=0) [] trivial (by kernel_rfl) λk x=>by kernel_rfl
def am4:List (bA×hJ):=((253,[]),⟨true,[a15,o1,o24],[a7],u5 Me⟩)::am3
def ar4:vf Tryz.prog am4:=fk (bg 40 [] []) ape [(0,WB)] ⟨aae,trivial⟩ Tryz.func253 (by kernel_rfl) λx=>by kernel_rfl
def am5:List (bA×hJ):=((188,[]),⟨true,[a15,a19,o1,o1],[a7],u8 U7⟩)::am4
def ar5:vf Tryz.prog am5:=fk (bg 37 [] []) ar4 [] trivial Tryz.func188 (by kernel_rfl) λx=>by kernel_rfl
def am6:List (bA×hJ):=((110,[]),⟨true,[o19,o1,o1],[o13,a19,o20],u3 OH⟩)::am5
def ar6:vf Tryz.prog am6:=fk (bg 60 [] []) ar5 [] trivial Tryz.func110 (by kernel_rfl) λx=>by kernel_rfl
def am7:List (bA×hJ):=((111,[]),⟨true,[a8,o1],[a8,o20],u6 Mb⟩)::am6
def ar7:vf Tryz.prog am7:=fk (bg 37 [] []) ar6 [] trivial Tryz.func111 (by kernel_rfl) λx=>by kernel_rfl
def am8:List (bA×hJ):=((112,[]),⟨true,[o19,o1],[o20],u2 LK⟩)::am7
def ar8:vf Tryz.prog am8:=fk (bg 27 [] []) ar7 [] trivial Tryz.func112 (by kernel_rfl) λx=>by kernel_rfl
def am9:List (bA×hJ):=((255,[]),⟨true,[o1],[o20],u1 OS⟩)::am8
def ar9:vf Tryz.prog am9:=fk (bg 5 [] []) ar8 [] trivial Tryz.func255 (by kernel_rfl) λx=>by kernel_rfl
def ah1:Tryz.prog.globalNamed "internal/strconv.uint64pow10" = some 0:=by kernel_rfl
def gT:(Tryz.prog.globals[0]?).map (·.type)=some 326:=by kernel_rfl
def uT:Tryz.prog.underlying 326=some (.array 20 299):=by kernel_rfl
def uE:Tryz.prog.underlying 299=some (.int .u64):=by kernel_rfl
def cE:Tryz.prog.cellsOf 299=1:=by kernel_rfl
def cT:Tryz.prog.cellsOf 326=20:=by kernel_rfl
def ana:List (bA×hJ):=((311,[]),aho)::am9
def asa:vf Tryz.prog ana:=⟨ajp Go.Proofs.Tryz.lays171 ah1 (by unfold Fp adH;exact .head _),ar9⟩
def anb:List (bA×hJ):=((292,[]),⟨true,[o1],[o31],u1 Ko⟩)::ana
def akK:vf Tryz.prog anb:=fk (bg 5 [] []) asa [] trivial Tryz.func292 (by kernel_rfl) λx=>by kernel_rfl
def Wz:dR:=⟨[],[(5,o1),(6,o1)],[(.exit 0,[(5,o1)])],OJ,none⟩
def aac:nB Tryz.prog (env 37 [] []) (lp 0 (body Tryz.f256) 0) Wz:=lk (bg _ _ _) akK (n:=0) [] trivial (by kernel_rfl) λk x=>by kernel_rfl
def WA:dR:=⟨[],[(7,o31)],[(.exit 2,[(7,o31)])],TG,none⟩
def aad:nB Tryz.prog (env 37 [] []) (lp 0 (body Tryz.f256) 1) WA:=lk (bg _ _ _) akK (n:=2) [] trivial (by kernel_rfl) λk x=>by kernel_rfl
def anc:List (bA×hJ):=((256,[]),⟨true,[o1,o1],[o31],u2 U1⟩)::anb
def apf:vf Tryz.prog anc:=fk (bg 37 [] []) akK [(0,Wz),(2,WA)] ⟨aac,aad,trivial⟩ Tryz.func256 (by kernel_rfl) λx=>by kernel_rfl
def VE:dR:=⟨[(1,o31),(2,.ro t39)],[(5,o1)],[(.ret,[(4,o1)]),(.exit 0,[])],RF,none⟩
def Zt:nB Tryz.prog (env 29 [] []) (lp 0 (body Tryz.f192) 0) VE:=lk (bg _ _ _) apf (n:=0) [] trivial (by kernel_rfl) λk x=>by kernel_rfl
def ane:List (bA×hJ):=((192,[]),⟨true,[a10,o31],[o1],u6 Sw⟩)::anc
def asb:vf Tryz.prog ane:=fk (bg 29 [] []) apf [(0,VE)] ⟨Zt,trivial⟩ Tryz.func192 (by kernel_rfl) λx=>by kernel_rfl
def anf:List (bA×hJ):=((191,[]),⟨true,[.ro t39,.ro t4],[o1],u6 YM⟩)::ane
def asc:vf Tryz.prog anf:=fk (bg 11 [] []) asb [] trivial Tryz.func191 (by kernel_rfl) λx=>by kernel_rfl
def ang:List (bA×hJ):=((190,[191]),⟨true,[a10,o1,.fn 191 [t39,t4]],[a10,o1],u12 Ll⟩)::anf
def asd:vf Tryz.prog ang:=fk (bg 53 [] []) asc [] trivial Tryz.func190 (by kernel_rfl) λx=>by kernel_rfl
def anh:List (bA×hJ):=((113,[]),⟨true,[a10,o31,o1],[a10,o1],u7 Zq⟩)::ang
def ase:vf Tryz.prog anh:=fk (bg 14 [] []) asd [] trivial Tryz.func113 (by kernel_rfl) λx=>by kernel_rfl
def ani:List (bA×hJ):=((202,[]),⟨true,[a9,.ro t12],[o20],u14 KK⟩)::anh
def apg:vf Tryz.prog ani:=fk (bg 16 [] []) ase [] trivial Tryz.func202 (by kernel_rfl) λx=>by kernel_rfl
def Gn:dR:=⟨[(0,o22),(1,.fn 202 [t12]),(7,o1)],[(8,o1)],[(.ret,[(4,o1)]),(.exit 0,[])],qW,none⟩
def Jy:nB Tryz.prog (env 19 [] []) (lp 0 (body Tryz.f201) 0) Gn:=lk (bg _ _ _) apg (n:=0) [] trivial (by kernel_rfl) λk x=>by kernel_rfl
def anj:List (bA×hJ):=((201,[202]),⟨true,[o22,.fn 202 [t12]],[o1],u8 mS⟩)::ani
def asf:vf Tryz.prog anj:=fk (bg 19 [] []) apg [(0,Gn)] ⟨Jy,trivial⟩ Tryz.func201 (by kernel_rfl) λx=>by kernel_rfl
def ank:List (bA×hJ):=((264,[]),⟨true,[o1],[o20],u1 OA⟩)::anj
def asg:vf Tryz.prog ank:=fk (bg 6 [] []) asf [] trivial Tryz.func264 (by kernel_rfl) λx=>by kernel_rfl
def anl:List (bA×hJ):=((206,[]),⟨true,[o1,o1],[o1],u2 K3⟩)::ank
def aph:vf Tryz.prog anl:=fk (bg 20 [] []) asg [] trivial Tryz.func206 (by kernel_rfl) λx=>by kernel_rfl
def Ww:dR:=⟨[(3,o1),(6,o2),(7,o1)],[(8,o1)],[(.ret,[(2,o1)]),(.exit 0,[])],Tz,none⟩
def Z9:nB Tryz.prog (env 18 [] []) (lp 0 (body Tryz.f205) 0) Ww:=lk (bg _ _ _) aph (n:=0) [] trivial (by kernel_rfl) λk x=>by kernel_rfl
def anm:List (bA×hJ):=((205,[]),⟨true,[o2],[o1],u1 UY⟩)::anl
def ash:vf Tryz.prog anm:=fk (bg 18 [] []) aph [(0,Ww)] ⟨Z9,trivial⟩ Tryz.func205 (by kernel_rfl) λx=>by kernel_rfl
def ann:List (bA×hJ):=((204,[]),⟨true,[a9,a9],[o1],u14 Jl⟩)::anm
def api:vf Tryz.prog ann:=fk (bg 17 [] []) ash [] trivial Tryz.func204 (by kernel_rfl) λx=>by kernel_rfl
def ano:List (bA×hJ):=((203,[204]),ahp 133 204 rp)::ann
def apj:vf Tryz.prog ano:=⟨ajE (g:=204) (fn:=u14 Jl) Go.Proofs.Tryz.lays6 Go.Proofs.Tryz.isAgg133 Go.Proofs.Tryz.sizeOf133 133 Of (rD api (204,[]) ⟨true,[.agg (List.replicate 7 KI),.agg (List.replicate 7 KI)],[.one KI],u14 Jl⟩ (by kernel_rfl)) VY,api⟩
def Ox:dR:=⟨[(0,o22),(20,o22),(21,o1)],[(6,o14),(22,o1)],[(.ret,[(4,o14),(5,o20)]),(.exit 0,[(6,o14)])],LP,none⟩
def V3:nB Tryz.prog (env 50 [] []) (lp 0 (body Tryz.f126) 0) Ox:=lk (bg _ _ _) apj (n:=0) [] trivial (by kernel_rfl) λk x=>by kernel_rfl
def anp:List (bA×hJ):=((126,[]),⟨true,[o22,o22],[o14,o20],u2 Kp⟩)::ano
def apk:vf Tryz.prog anp:=fk (bg 50 [] []) apj [(0,Ox)] ⟨V3,trivial⟩ Tryz.func126 (by kernel_rfl) λx=>by kernel_rfl
def WD:dR:=⟨[(13,o34),(14,o1)],[(4,o14),(15,o1)],[(.ret,[(2,o14),(3,o20)]),(.exit 0,[(4,o14)])],OV,none⟩
def aag:nB Tryz.prog (env 31 [] []) (lp 0 (body Tryz.f183) 0) WD:=lk (bg _ _ _) apk (n:=0) [] trivial (by kernel_rfl) λk x=>by kernel_rfl
def anq:List (bA×hJ):=((183,[]),⟨true,[a17],[o14,o20],u15 Kh⟩)::anp
def asi:vf Tryz.prog anq:=fk (bg 31 [] []) apk [(0,WD)] ⟨aag,trivial⟩ Tryz.func183 (by kernel_rfl) λx=>by kernel_rfl
def af5:Go.Shelf.Ren:=⟨fun|22=>247|29=>287|30=>288|n=>n,fun|9=>133|24=>40|3=>3|4=>4|0=>0|n=>n,λn=>n⟩
def ajn:agn Tryz.prog af5 (zOf Tryz.prog 133) (bOf Tryz.prog 133):={ mixed:=by kernel_rfl, f22:=⟨"slices.Insert[[]loop.example/g03318/impl.Event,loop.example/g03318/impl.Event]", by kernel_rfl, Go.Proofs.Tryz.func247.trans (congrArg some (by kernel_rfl))⟩, f29:=⟨_, Go.Proofs.Tryz.func287, by kernel_rfl, by kernel_rfl, by kernel_rfl, by kernel_rfl⟩, t3:=Go.Proofs.Tryz.underlying3, a3:=Go.Proofs.Tryz.isAgg3, z3:=Go.Proofs.Tryz.sizeOf3, v3:=Go.Proofs.Tryz.zeroValue3, t4:=Go.Proofs.Tryz.underlying4, a4:=Go.Proofs.Tryz.isAgg4, z4:=Go.Proofs.Tryz.sizeOf4, v4:=Go.Proofs.Tryz.zeroValue4, t24:=Go.Proofs.Tryz.underlying40, a24:=Go.Proofs.Tryz.isAgg40, z24:=Go.Proofs.Tryz.sizeOf40, v24:=Go.Proofs.Tryz.zeroValue40, z9:=Go.Proofs.Tryz.sizeOf133, i9:=by kernel_rfl }
def anr:List (bA×hJ):=((247,[]),ad1 133 t12)::anq
def apl:vf Tryz.prog anr:=⟨agO (ρ:=af5) ajn (by kernel_rfl) (by kernel_rfl) rfl rfl,asi⟩
def Uu:dR:=⟨[(0,o22),(1,o1),(32,o22),(33,o1)],[(14,o14),(15,a21),(16,o1),(34,o1)],[(.exit 0,[(14,o14),(15,a21),(16,o1)])],P7,none⟩
def YO:nB Tryz.prog (env 75 [] []) (lp 0 (body Tryz.f184) 0) Uu:=lk (bg _ _ _) apl (n:=0) [] trivial (by kernel_rfl) λk x=>by kernel_rfl
def aiY:List (bA×hJ):=((184,[]),⟨true,[o22,o1,o1,o1,o1,o1],[o14,o20],u6 KR⟩)::anr
def apm:vf Tryz.prog aiY:=fk (bg 75 [] []) apl [(0,Uu)] ⟨YO,trivial⟩ Tryz.func184 (by kernel_rfl) λx=>by kernel_rfl
def JH:Xl:=[]
def Ow:ace Tryz.prog JH:=trivial
def Ov:aaE Tryz.prog 107 (aie (env 56 [] []) aiY [] [] JH Tryz.f107):=ik (bg 56 [] []) apm [] [] Ow trivial Tryz.func107 (by kernel_rfl)
def Xn:Xl:=[(107,aie (env 56 [] []) aiY [] [] JH Tryz.f107)]
def Xd:ace Tryz.prog Xn:=⟨Ov,trivial⟩
def ant:List (bA×hJ):=((43,[]),⟨false,[a16,a3],[o1],u27 dr⟩)::aiY
def asj:vf Tryz.prog ant:=fkI (bg 296 [] []) apm [] Xd trivial Tryz.func43 (by kernel_rfl) λx=>by kernel_rfl
def anu:List (bA×hJ):=((114,[]),⟨true,[a8],[o1],u5 SA⟩)::ant
def asl:vf Tryz.prog anu:=fk (bg 18 [] []) asj [] trivial Tryz.func114 (by kernel_rfl) λx=>by kernel_rfl
def anv:List (bA×hJ):=((115,[]),⟨true,[a8],[a8,o20],u5 Sr⟩)::anu
def asn:vf Tryz.prog anv:=fk (bg 43 [] []) asl [] trivial Tryz.func115 (by kernel_rfl) λx=>by kernel_rfl
def anw:List (bA×hJ):=((116,[]),⟨true,[a8],[a8,o20],u5 U5⟩)::anv
def aso:vf Tryz.prog anw:=fk (bg 26 [] []) asn [] trivial Tryz.func116 (by kernel_rfl) λx=>by kernel_rfl
def anx:List (bA×hJ):=((117,[]),⟨true,[a8],[a8],u5 QF⟩)::anw
def asp:vf Tryz.prog anx:=fk (bg 7 [] []) aso [] trivial Tryz.func117 (by kernel_rfl) λx=>by kernel_rfl
def anz:List (bA×hJ):=((194,[]),⟨true,[a8],[o20],u5 Qf⟩)::anx
def asq:vf Tryz.prog anz:=fk (bg 15 [] []) asp [] trivial Tryz.func194 (by kernel_rfl) λx=>by kernel_rfl
def anA:List (bA×hJ):=((118,[]),⟨true,[a8,o1],[a8,o20],u6 X2⟩)::anz
def asr:vf Tryz.prog anA:=fk (bg 44 [] []) asq [] trivial Tryz.func118 (by kernel_rfl) λx=>by kernel_rfl
def anB:List (bA×hJ):=((257,[]),⟨true,[a22],[o20],u4 QG⟩)::anA
def ass:vf Tryz.prog anB:=fk (bg 21 [] []) asr [] trivial Tryz.func257 (by kernel_rfl) λx=>by kernel_rfl
def anC:List (bA×hJ):=((258,[]),⟨true,[o1,o20],[o20],u2 Kr⟩)::anB
def ast:vf Tryz.prog anC:=fk (bg 14 [] []) ass [] trivial Tryz.func258 (by kernel_rfl) λx=>by kernel_rfl
def anD:List (bA×hJ):=((195,[]),⟨true,[a8,a22],[a23,o20],u9 Sy⟩)::anC
def apn:vf Tryz.prog anD:=fk (bg 43 [] []) ast [] trivial Tryz.func195 (by kernel_rfl) λx=>by kernel_rfl
def Rb:dR:=⟨[(15,o1)],[(3,o1),(14,o11),(16,o1)],[(.exit 0,[(3,o1)])],Nc,none⟩
def W4:nB Tryz.prog (env 26 [] []) (lp 0 (body Tryz.f196) 0) Rb:=lk (bg _ _ _) apn (n:=0) [] trivial (by kernel_rfl) λk x=>by kernel_rfl
def anE:List (bA×hJ):=((196,[]),⟨true,[a22],[o1],u4 Ms⟩)::anD
def asu:vf Tryz.prog anE:=fk (bg 26 [] []) apn [(0,Rb)] ⟨W4,trivial⟩ Tryz.func196 (by kernel_rfl) λx=>by kernel_rfl
def anF:List (bA×hJ):=((197,[]),⟨true,[o1,a23],[o1],u5 SC⟩)::anE
def asv:vf Tryz.prog anF:=fk (bg 34 [] []) asu [] trivial Tryz.func197 (by kernel_rfl) λx=>by kernel_rfl
def anG:List (bA×hJ):=((119,[]),⟨true,[a8,a22],[a8,o1,o20],u9 KL⟩)::anF
def asw:vf Tryz.prog anG:=fk (bg 43 [] []) asv [] trivial Tryz.func119 (by kernel_rfl) λx=>by kernel_rfl
def anH:List (bA×hJ):=((120,[]),⟨true,[a8],[a8,o1,o20],u5 Sv⟩)::anG
def asx:vf Tryz.prog anH:=fk (bg 17 [] []) asw [] trivial Tryz.func120 (by kernel_rfl) λx=>by kernel_rfl
def anI:List (bA×hJ):=((198,[]),⟨true,[o1],[a10,o20],u1 Sx⟩)::anH
def asy:vf Tryz.prog anI:=fk (bg 12 [] []) asx [] trivial Tryz.func198 (by kernel_rfl) λx=>by kernel_rfl
def anJ:List (bA×hJ):=((259,[]),⟨true,[a15,o1],[a7,o20],u4 Sz⟩)::anI
def asz:vf Tryz.prog anJ:=fk (bg 39 [] []) asy [] trivial Tryz.func259 (by kernel_rfl) λx=>by kernel_rfl
def anK:List (bA×hJ):=((199,[]),⟨true,[o19,o1],[o13,o20],u2 Nv⟩)::anJ
def apo:vf Tryz.prog anK:=fk (bg 38 [] []) asz [] trivial Tryz.func199 (by kernel_rfl) λx=>by kernel_rfl
def Td:dR:=⟨[(2,o1),(3,.ro t37)],[(7,o1),(8,o1)],[(.exit 0,[(7,o1)])],LV,none⟩
def Ye:nB Tryz.prog (env 34 [] []) (lp 0 (body Tryz.f261) 0) Td:=lk (bg _ _ _) apo (n:=0) [] trivial (by kernel_rfl) λk x=>by kernel_rfl
def anL:List (bA×hJ):=((261,[]),⟨true,[a14,o1,o1],[o1],u4 OP⟩)::anK
def asA:vf Tryz.prog anL:=fk (bg 34 [] []) apo [(0,Td)] ⟨Ye,trivial⟩ Tryz.func261 (by kernel_rfl) λx=>by kernel_rfl
def anM:List (bA×hJ):=((260,[]),⟨true,[a4,o1,o1],[o1],u10 SE⟩)::anL
def asB:vf Tryz.prog anM:=fk (bg 30 [] []) asA [] trivial Tryz.func260 (by kernel_rfl) λx=>by kernel_rfl
def aiZ:List (bA×hJ):=((200,[]),⟨true,[a14,a4,o1,o1,o1,o1],[o1],u14 We⟩)::anM
def apq:vf Tryz.prog aiZ:=fk (bg 60 [] []) asB [] trivial Tryz.func200 (by kernel_rfl) λx=>by kernel_rfl
def KA:Xl:=[]
def Uq:ace Tryz.prog KA:=trivial
def TN:aaE Tryz.prog 107 (aie (env 56 [] []) aiZ [] [] KA Tryz.f107):=ik (bg 56 [] []) apq [] [] Uq trivial Tryz.func107 (by kernel_rfl)
def acd:Xl:=[(107,aie (env 56 [] []) aiZ [] [] KA Tryz.f107)]
def ab8:ace Tryz.prog acd:=⟨TN,trivial⟩
def anN:List (bA×hJ):=((121,[]),⟨false,[a16,o1,o1,o1],[o20],u18 Jf⟩)::aiZ
def asC:vf Tryz.prog anN:=fkI (bg 177 [] []) apq [] ab8 trivial Tryz.func121 (by kernel_rfl) λx=>by kernel_rfl
def anO:List (bA×hJ):=((44,[]),⟨false,[a16,a3],[o1],u27 py⟩)::anN
def asD:vf Tryz.prog anO:=fk (bg 161 [] []) asC [] trivial Tryz.func44 (by kernel_rfl) λx=>by kernel_rfl
def anP:List (bA×hJ):=((124,[]),⟨true,[o21,a12],[o17,o20],u8 LD⟩)::anO
def asE:vf Tryz.prog anP:=fk (bg 31 [] []) asD [] trivial Tryz.func124 (by kernel_rfl) λx=>by kernel_rfl
def anQ:List (bA×hJ):=((125,[]),⟨true,[o21,o1],[o17,o20],u2 Rs⟩)::anP
def asF:vf Tryz.prog anQ:=fk (bg 33 [] []) asE [] trivial Tryz.func125 (by kernel_rfl) λx=>by kernel_rfl
def anR:List (bA×hJ):=((128,[]),⟨true,[a6,.ro t21],[o20],u16 Nf⟩)::anQ
def apr:vf Tryz.prog anR:=fk (bg 19 [] []) asF [] trivial Tryz.func128 (by kernel_rfl) λx=>by kernel_rfl
def I6:dR:=⟨[(0,o24),(1,.fn 128 [t21]),(7,o1)],[(8,o1)],[(.ret,[(4,o1)]),(.exit 0,[])],vn,none⟩
def JE:nB Tryz.prog (env 19 [] []) (lp 0 (body Tryz.f127) 0) I6:=lk (bg _ _ _) apr (n:=0) [] trivial (by kernel_rfl) λk x=>by kernel_rfl
def anS:List (bA×hJ):=((127,[128]),⟨true,[o24,.fn 128 [t21]],[o1],u13 p5⟩)::anR
def asG:vf Tryz.prog anS:=fk (bg 19 [] []) apr [(0,I6)] ⟨JE,trivial⟩ Tryz.func127 (by kernel_rfl) λx=>by kernel_rfl
def anT:List (bA×hJ):=((45,[]),⟨false,[a16,a3],[o1],u27 ee⟩)::anS
def asH:vf Tryz.prog anT:=fk (bg 266 [] []) asG [] trivial Tryz.func45 (by kernel_rfl) λx=>by kernel_rfl
def anU:List (bA×hJ):=((10,[]),⟨true,[a17,a3],[a13,o1],u27 J9⟩)::anT
def aps:vf Tryz.prog anU:=fk (bg 52 [] []) asH [] trivial Tryz.func10 (by kernel_rfl) λx=>by kernel_rfl
def R5:dR:=⟨[(23,o32),(24,o1)],[(4,a16),(6,a16),(7,o11),(25,o1)],[(.exit 0,[(4,a16),(6,a16),(7,o11)])],NY,none⟩
def XB:nB Tryz.prog (env 43 [] []) (lp 0 (body Tryz.f17) 0) R5:=lk (bg _ _ _) aps (n:=0) [] trivial (by kernel_rfl) λk x=>by kernel_rfl
def anV:List (bA×hJ):=((17,[]),⟨true,[a17,o32],[a13,o11],u16 Lx⟩)::anU
def asI:vf Tryz.prog anV:=fk (bg 43 [] []) aps [(0,R5)] ⟨XB,trivial⟩ Tryz.func17 (by kernel_rfl) λx=>by kernel_rfl
def anW:List (bA×hJ):=((46,[]),⟨true,[a4,a4],[o20],u16 SI⟩)::anV
def asJ:vf Tryz.prog anW:=fk (bg 45 [] []) asI [] trivial Tryz.func46 (by kernel_rfl) λx=>by kernel_rfl
def anX:List (bA×hJ):=((303,[]),⟨true,[.agg [v1,v1],.agg [v1,v1]],[o20],u4 Vg⟩)::anW
def apt:vf Tryz.prog anX:=fk (bg 15 [] []) asJ [] trivial Tryz.func303 (by kernel_rfl) λx=>by kernel_rfl
def VM:dR:=⟨[(0,o23),(1,o23)],[(5,o1)],[(.ret,[(4,o20)]),(.exit 0,[])],RV,none⟩
def ZB:nB Tryz.prog (env 27 [] []) (lp 0 (body Tryz.f265) 0) VM:=lk (bg _ _ _) apt (n:=0) [] trivial (by kernel_rfl) λk x=>by kernel_rfl
def anY:List (bA×hJ):=((265,[]),⟨true,[o23,o23],[o20],u2 O5⟩)::anX
def asK:vf Tryz.prog anY:=fk (bg 27 [] []) apt [(0,VM)] ⟨ZB,trivial⟩ Tryz.func265 (by kernel_rfl) λx=>by kernel_rfl
def anZ:List (bA×hJ):=((207,[]),⟨true,[a14,a14],[o20],u4 Vh⟩)::anY
def apu:vf Tryz.prog anZ:=fk (bg 17 [] []) asK [] trivial Tryz.func207 (by kernel_rfl) λx=>by kernel_rfl
def WH:dR:=⟨[(0,o2),(1,o2)],[(5,o1)],[(.ret,[(4,o20)]),(.exit 0,[])],TU,none⟩
def aaj:nB Tryz.prog (env 26 [] []) (lp 0 (body Tryz.f18) 0) WH:=lk (bg _ _ _) apu (n:=0) [] trivial (by kernel_rfl) λk x=>by kernel_rfl
def an0:List (bA×hJ):=((18,[]),⟨true,[o2,o2],[o20],u2 Oi⟩)::anZ
def asL:vf Tryz.prog an0:=fk (bg 26 [] []) apu [(0,WH)] ⟨aaj,trivial⟩ Tryz.func18 (by kernel_rfl) λx=>by kernel_rfl
def an1:List (bA×hJ):=((317,[]),⟨true,[a6,a6],[o20],u8 Wi⟩)::an0
def apv:vf Tryz.prog an1:=fk (bg 25 [] []) asL [] trivial Tryz.func317 (by kernel_rfl) λx=>by kernel_rfl
def WG:dR:=⟨[(0,o24),(1,o24)],[(5,o1)],[(.ret,[(4,o20)]),(.exit 0,[])],TR,none⟩
def aai:nB Tryz.prog (env 27 [] []) (lp 0 (body Tryz.f304) 0) WG:=lk (bg _ _ _) apv (n:=0) [] trivial (by kernel_rfl) λk x=>by kernel_rfl
def an2:List (bA×hJ):=((304,[]),⟨true,[o24,o24],[o20],u2 Vc⟩)::an1
def asM:vf Tryz.prog an2:=fk (bg 27 [] []) apv [(0,WG)] ⟨aai,trivial⟩ Tryz.func304 (by kernel_rfl) λx=>by kernel_rfl
def an3:List (bA×hJ):=((266,[]),⟨true,[a15,a15],[o20],u6 Nw⟩)::an2
def apw:vf Tryz.prog an3:=fk (bg 22 [] []) asM [] trivial Tryz.func266 (by kernel_rfl) λx=>by kernel_rfl
def Te:dR:=⟨[(0,o19),(1,o19)],[(5,o1)],[(.ret,[(4,o20)]),(.exit 0,[])],O0,none⟩
def Yf:nB Tryz.prog (env 27 [] []) (lp 0 (body Tryz.f208) 0) Te:=lk (bg _ _ _) apw (n:=0) [] trivial (by kernel_rfl) λk x=>by kernel_rfl
def an4:List (bA×hJ):=((208,[]),⟨true,[o19,o19],[o20],u2 OY⟩)::an3
def asN:vf Tryz.prog an4:=fk (bg 27 [] []) apw [(0,Te)] ⟨Yf,trivial⟩ Tryz.func208 (by kernel_rfl) λx=>by kernel_rfl
def an5:List (bA×hJ):=((209,[]),⟨true,[a8,a8],[o20],u10 Vd⟩)::an4
def asO:vf Tryz.prog an5:=fk (bg 30 [] []) asN [] trivial Tryz.func209 (by kernel_rfl) λx=>by kernel_rfl
def an6:List (bA×hJ):=((132,[]),⟨true,[a9,a9],[o20],u14 SG⟩)::an5
def apx:vf Tryz.prog an6:=fk (bg 40 [] []) asO [] trivial Tryz.func132 (by kernel_rfl) λx=>by kernel_rfl
def UB:dR:=⟨[(0,o22),(1,o22)],[(5,o1)],[(.ret,[(4,o20)]),(.exit 0,[])],Qh,none⟩
def YV:nB Tryz.prog (env 27 [] []) (lp 0 (body Tryz.f50) 0) UB:=lk (bg _ _ _) apx (n:=0) [] trivial (by kernel_rfl) λk x=>by kernel_rfl
def an7:List (bA×hJ):=((50,[]),⟨true,[o22,o22],[o20],u2 Nx⟩)::an6
def asP:vf Tryz.prog an7:=fk (bg 27 [] []) apx [(0,UB)] ⟨YV,trivial⟩ Tryz.func50 (by kernel_rfl) λx=>by kernel_rfl
def an8:List (bA×hJ):=((129,[]),⟨true,[a26,a26],[o20],u22 Vf⟩)::an7
def apy:vf Tryz.prog an8:=fk (bg 39 [] []) asP [] trivial Tryz.func129 (by kernel_rfl) λx=>by kernel_rfl
def VL:dR:=⟨[(0,o34),(1,o34)],[(5,o1)],[(.ret,[(4,o20)]),(.exit 0,[])],RT,none⟩
def ZA:nB Tryz.prog (env 27 [] []) (lp 0 (body Tryz.f47) 0) VL:=lk (bg _ _ _) apy (n:=0) [] trivial (by kernel_rfl) λk x=>by kernel_rfl
def an9:List (bA×hJ):=((47,[]),⟨true,[o34,o34],[o20],u2 SH⟩)::an8
def asQ:vf Tryz.prog an9:=fk (bg 27 [] []) apy [(0,VL)] ⟨ZA,trivial⟩ Tryz.func47 (by kernel_rfl) λx=>by kernel_rfl
def aoa:List (bA×hJ):=((210,[]),⟨true,[a10,a10],[o20],u10 Ve⟩)::an9
def asR:vf Tryz.prog aoa:=fk (bg 30 [] []) asQ [] trivial Tryz.func210 (by kernel_rfl) λx=>by kernel_rfl
def aob:List (bA×hJ):=((130,[]),⟨true,[a11,a11],[o20],u26 QS⟩)::aoa
def apz:vf Tryz.prog aob:=fk (bg 51 [] []) asR [] trivial Tryz.func130 (by kernel_rfl) λx=>by kernel_rfl
def Tf:dR:=⟨[(0,o33),(1,o33)],[(5,o1)],[(.ret,[(4,o20)]),(.exit 0,[])],O4,none⟩
def Yg:nB Tryz.prog (env 27 [] []) (lp 0 (body Tryz.f48) 0) Tf:=lk (bg _ _ _) apz (n:=0) [] trivial (by kernel_rfl) λk x=>by kernel_rfl
def aoc:List (bA×hJ):=((48,[]),⟨true,[o33,o33],[o20],u2 O2⟩)::aob
def asS:vf Tryz.prog aoc:=fk (bg 27 [] []) apz [(0,Tf)] ⟨Yg,trivial⟩ Tryz.func48 (by kernel_rfl) λx=>by kernel_rfl
def aod:List (bA×hJ):=((131,[]),⟨true,[a12,a12],[o20],u14 O1⟩)::aoc
def apA:vf Tryz.prog aod:=fk (bg 40 [] []) asS [] trivial Tryz.func131 (by kernel_rfl) λx=>by kernel_rfl
def UC:dR:=⟨[(0,o21),(1,o21)],[(5,o1)],[(.ret,[(4,o20)]),(.exit 0,[])],Qj,none⟩
def YW:nB Tryz.prog (env 27 [] []) (lp 0 (body Tryz.f49) 0) UC:=lk (bg _ _ _) apA (n:=0) [] trivial (by kernel_rfl) λk x=>by kernel_rfl
def aoe:List (bA×hJ):=((49,[]),⟨true,[o21,o21],[o20],u2 QR⟩)::aod
def asT:vf Tryz.prog aoe:=fk (bg 27 [] []) apA [(0,UC)] ⟨YW,trivial⟩ Tryz.func49 (by kernel_rfl) λx=>by kernel_rfl
def aof:List (bA×hJ):=((11,[]),⟨true,[a17,a17],[o20],u30 K7⟩)::aoe
def asU:vf Tryz.prog aof:=fk (bg 50 [] []) asT [] trivial Tryz.func11 (by kernel_rfl) λx=>by kernel_rfl
def aog:List (bA×hJ):=((59,[]),⟨true,[a3,a3],[o20],u24 TS⟩)::aof
def apC:vf Tryz.prog aog:=fk (bg 36 [] []) asU [] trivial Tryz.func59 (by kernel_rfl) λx=>by kernel_rfl
def R6:dR:=⟨[(0,o32),(1,o32)],[(5,o1)],[(.ret,[(4,o20)]),(.exit 0,[])],N0,none⟩
def XC:nB Tryz.prog (env 27 [] []) (lp 0 (body Tryz.f19) 0) R6:=lk (bg _ _ _) apC (n:=0) [] trivial (by kernel_rfl) λk x=>by kernel_rfl
def aoh:List (bA×hJ):=((19,[]),⟨true,[o32,o32],[o20],u2 NG⟩)::aog
def apD:vf Tryz.prog aoh:=fk (bg 27 [] []) apC [(0,R6)] ⟨XC,trivial⟩ Tryz.func19 (by kernel_rfl) λx=>by kernel_rfl
def Tj:dR:=⟨[],[(0,o10),(1,o1),(5,o1)],[(.exit 0,[(0,o10),(1,o1)])],Pg,none⟩
def Yk:nB Tryz.prog (env 27 [] []) (lp 0 (body Tryz.f133) 0) Tj:=lk (bg _ _ _) apD (n:=0) [] trivial (by kernel_rfl) λk x=>by kernel_rfl
def aoi:List (bA×hJ):=((133,[]),⟨true,[o10,o1],[o1],u2 Mg⟩)::aoh
def apE:vf Tryz.prog aoi:=fk (bg 27 [] []) apD [(0,Tj)] ⟨Yk,trivial⟩ Tryz.func133 (by kernel_rfl) λx=>by kernel_rfl
def UG:dR:=⟨[],[(0,o11),(1,o1),(5,o1)],[(.exit 0,[(0,o11),(1,o1)])],MH,none⟩
def Y0:nB Tryz.prog (env 19 [] []) (lp 0 (body Tryz.f21) 0) UG:=lk (bg _ _ _) apE (n:=0) [] trivial (by kernel_rfl) λk x=>by kernel_rfl
def aoj:List (bA×hJ):=((21,[]),⟨true,[o11,o1],[o1],u2 Ny⟩)::aoi
def apF:vf Tryz.prog aoj:=fk (bg 19 [] []) apE [(0,UG)] ⟨Y0,trivial⟩ Tryz.func21 (by kernel_rfl) λx=>by kernel_rfl
def UF:dR:=⟨[],[(0,o12),(1,o1),(5,o1)],[(.exit 0,[(0,o12),(1,o1)])],Qo,none⟩
def YZ:nB Tryz.prog (env 43 [] []) (lp 0 (body Tryz.f211) 0) UF:=lk (bg _ _ _) apF (n:=0) [] trivial (by kernel_rfl) λk x=>by kernel_rfl
def aok:List (bA×hJ):=((211,[]),⟨true,[o12,o1],[o1],u2 QU⟩)::aoj
def apG:vf Tryz.prog aok:=fk (bg 43 [] []) apF [(0,UF)] ⟨YZ,trivial⟩ Tryz.func211 (by kernel_rfl) λx=>by kernel_rfl
def Rg:dR:=⟨[],[(0,o13),(1,o1),(5,o1)],[(.exit 0,[(0,o13),(1,o1)])],Nn,none⟩
def W8:nB Tryz.prog (env 34 [] []) (lp 0 (body Tryz.f134) 0) Rg:=lk (bg _ _ _) apG (n:=0) [] trivial (by kernel_rfl) λk x=>by kernel_rfl
def aol:List (bA×hJ):=((134,[]),⟨true,[o13,o1],[o1],u2 MF⟩)::aok
def apH:vf Tryz.prog aol:=fk (bg 34 [] []) apG [(0,Rg)] ⟨W8,trivial⟩ Tryz.func134 (by kernel_rfl) λx=>by kernel_rfl
def R9:dR:=⟨[],[(0,o14),(1,o1),(5,o1)],[(.exit 0,[(0,o14),(1,o1)])],Lr,none⟩
def XF:nB Tryz.prog (env 62 [] []) (lp 0 (body Tryz.f54) 0) R9:=lk (bg _ _ _) apH (n:=0) [] trivial (by kernel_rfl) λk x=>by kernel_rfl
def aom:List (bA×hJ):=((54,[]),⟨true,[o14,o1],[o1],u2 LC⟩)::aol
def apI:vf Tryz.prog aom:=fk (bg 62 [] []) apH [(0,R9)] ⟨XF,trivial⟩ Tryz.func54 (by kernel_rfl) λx=>by kernel_rfl
def Ti:dR:=⟨[],[(0,o15),(1,o1),(5,o1)],[(.exit 0,[(0,o15),(1,o1)])],Pe,none⟩
def Yj:nB Tryz.prog (env 103 [] []) (lp 0 (body Tryz.f51) 0) Ti:=lk (bg _ _ _) apI (n:=0) [] trivial (by kernel_rfl) λk x=>by kernel_rfl
def aon:List (bA×hJ):=((51,[]),⟨true,[o15,o1],[o1],u2 Pc⟩)::aom
def apJ:vf Tryz.prog aon:=fk (bg 103 [] []) apI [(0,Ti)] ⟨Yj,trivial⟩ Tryz.func51 (by kernel_rfl) λx=>by kernel_rfl
def Rh:dR:=⟨[],[(0,o16),(1,o1),(5,o1)],[(.exit 0,[(0,o16),(1,o1)])],Nq,none⟩
def W9:nB Tryz.prog (env 109 [] []) (lp 0 (body Tryz.f52) 0) Rh:=lk (bg _ _ _) apJ (n:=0) [] trivial (by kernel_rfl) λk x=>by kernel_rfl
def aoo:List (bA×hJ):=((52,[]),⟨true,[o16,o1],[o1],u2 MI⟩)::aon
def apK:vf Tryz.prog aoo:=fk (bg 109 [] []) apJ [(0,Rh)] ⟨W9,trivial⟩ Tryz.func52 (by kernel_rfl) λx=>by kernel_rfl
def Sa:dR:=⟨[],[(0,o17),(1,o1),(5,o1)],[(.exit 0,[(0,o17),(1,o1)])],N4,none⟩
def XG:nB Tryz.prog (env 64 [] []) (lp 0 (body Tryz.f53) 0) Sa:=lk (bg _ _ _) apK (n:=0) [] trivial (by kernel_rfl) λk x=>by kernel_rfl
def aop:List (bA×hJ):=((53,[]),⟨true,[o17,o1],[o1],u2 NI⟩)::aoo
def asV:vf Tryz.prog aop:=fk (bg 64 [] []) apK [(0,Sa)] ⟨XG,trivial⟩ Tryz.func53 (by kernel_rfl) λx=>by kernel_rfl
def aoq:List (bA×hJ):=((12,[]),⟨true,[a13,o1],[o1],u16 K8⟩)::aop
def apL:vf Tryz.prog aoq:=fk (bg 22 [] []) asV [] trivial Tryz.func12 (by kernel_rfl) λx=>by kernel_rfl
def UH:dR:=⟨[],[(0,o1),(3,o31)],[(.exit 0,[(3,o31)])],V2,none⟩
def Y1:nB Tryz.prog (env 20 [] []) (lp 0 (body Tryz.f60) 0) UH:=lk (bg _ _ _) apL (n:=0) [] trivial (by kernel_rfl) λk x=>by kernel_rfl
def aor:List (bA×hJ):=((60,[]),⟨true,[o1],[o31],u1 QV⟩)::aoq
def apM:vf Tryz.prog aor:=fk (bg 20 [] []) apL [(0,UH)] ⟨Y1,trivial⟩ Tryz.func60 (by kernel_rfl) λx=>by kernel_rfl
def P0:dR:=⟨[],[(0,o18),(1,o1),(5,o1)],[(.exit 0,[(0,o18),(1,o1)])],Rw,none⟩
def Wm:nB Tryz.prog (env 107 [] []) (lp 0 (body Tryz.f20) 0) P0:=lk (bg _ _ _) apM (n:=0) [] trivial (by kernel_rfl) λk x=>by kernel_rfl
def aos:List (bA×hJ):=((20,[]),⟨true,[o18,o1],[o1],u2 LW⟩)::aor
def apN:vf Tryz.prog aos:=fk (bg 107 [] []) apM [(0,P0)] ⟨Wm,trivial⟩ Tryz.func20 (by kernel_rfl) λx=>by kernel_rfl
def Th:dR:=⟨[(0,o23)],[(1,o1),(5,o1)],[(.ret,[(4,o1)]),(.exit 0,[(1,o1)])],Pb,none⟩
def Yi:nB Tryz.prog (env 31 [] []) (lp 0 (body Tryz.f135) 0) Th:=lk (bg _ _ _) apN (n:=0) [] trivial (by kernel_rfl) λk x=>by kernel_rfl
def aot:List (bA×hJ):=((135,[]),⟨true,[o23,o1],[o1],u2 Mf⟩)::aos
def apO:vf Tryz.prog aot:=fk (bg 31 [] []) apN [(0,Th)] ⟨Yi,trivial⟩ Tryz.func135 (by kernel_rfl) λx=>by kernel_rfl
def UE:dR:=⟨[(0,o2)],[(1,o1),(5,o1)],[(.ret,[(4,o1)]),(.exit 0,[(1,o1)])],MC,none⟩
def YY:nB Tryz.prog (env 21 [] []) (lp 0 (body Tryz.f22) 0) UE:=lk (bg _ _ _) apO (n:=0) [] trivial (by kernel_rfl) λk x=>by kernel_rfl
def aou:List (bA×hJ):=((22,[]),⟨true,[o2,o1],[o1],u2 LL⟩)::aot
def apP:vf Tryz.prog aou:=fk (bg 21 [] []) apO [(0,UE)] ⟨YY,trivial⟩ Tryz.func22 (by kernel_rfl) λx=>by kernel_rfl
def UD:dR:=⟨[(0,o24)],[(1,o1),(5,o1)],[(.ret,[(4,o1)]),(.exit 0,[(1,o1)])],Ql,none⟩
def YX:nB Tryz.prog (env 51 [] []) (lp 0 (body Tryz.f212) 0) UD:=lk (bg _ _ _) apP (n:=0) [] trivial (by kernel_rfl) λk x=>by kernel_rfl
def aov:List (bA×hJ):=((212,[]),⟨true,[o24,o1],[o1],u2 QT⟩)::aou
def apQ:vf Tryz.prog aov:=fk (bg 51 [] []) apP [(0,UD)] ⟨YX,trivial⟩ Tryz.func212 (by kernel_rfl) λx=>by kernel_rfl
def Re:dR:=⟨[(0,o19)],[(1,o1),(5,o1)],[(.ret,[(4,o1)]),(.exit 0,[(1,o1)])],Ni,none⟩
def W6:nB Tryz.prog (env 40 [] []) (lp 0 (body Tryz.f136) 0) Re:=lk (bg _ _ _) apQ (n:=0) [] trivial (by kernel_rfl) λk x=>by kernel_rfl
def aow:List (bA×hJ):=((136,[]),⟨true,[o19,o1],[o1],u2 MA⟩)::aov
def apR:vf Tryz.prog aow:=fk (bg 40 [] []) apQ [(0,Re)] ⟨W6,trivial⟩ Tryz.func136 (by kernel_rfl) λx=>by kernel_rfl
def R7:dR:=⟨[(0,o22)],[(1,o1),(5,o1)],[(.ret,[(4,o1)]),(.exit 0,[(1,o1)])],Lp,none⟩
def XD:nB Tryz.prog (env 76 [] []) (lp 0 (body Tryz.f58) 0) R7:=lk (bg _ _ _) apR (n:=0) [] trivial (by kernel_rfl) λk x=>by kernel_rfl
def aox:List (bA×hJ):=((58,[]),⟨true,[o22,o1],[o1],u2 LB⟩)::aow
def apS:vf Tryz.prog aox:=fk (bg 76 [] []) apR [(0,R7)] ⟨XD,trivial⟩ Tryz.func58 (by kernel_rfl) λx=>by kernel_rfl
def Tg:dR:=⟨[(0,o34)],[(1,o1),(5,o1)],[(.ret,[(4,o1)]),(.exit 0,[(1,o1)])],O8,none⟩
def Yh:nB Tryz.prog (env 125 [] []) (lp 0 (body Tryz.f55) 0) Tg:=lk (bg _ _ _) apS (n:=0) [] trivial (by kernel_rfl) λk x=>by kernel_rfl
def aoy:List (bA×hJ):=((55,[]),⟨true,[o34,o1],[o1],u2 O6⟩)::aox
def apT:vf Tryz.prog aoy:=fk (bg 125 [] []) apS [(0,Tg)] ⟨Yh,trivial⟩ Tryz.func55 (by kernel_rfl) λx=>by kernel_rfl
def Rf:dR:=⟨[(0,o33)],[(1,o1),(5,o1)],[(.ret,[(4,o1)]),(.exit 0,[(1,o1)])],Nk,none⟩
def W7:nB Tryz.prog (env 135 [] []) (lp 0 (body Tryz.f56) 0) Rf:=lk (bg _ _ _) apT (n:=0) [] trivial (by kernel_rfl) λk x=>by kernel_rfl
def aoz:List (bA×hJ):=((56,[]),⟨true,[o33,o1],[o1],u2 ME⟩)::aoy
def apU:vf Tryz.prog aoz:=fk (bg 135 [] []) apT [(0,Rf)] ⟨W7,trivial⟩ Tryz.func56 (by kernel_rfl) λx=>by kernel_rfl
def R8:dR:=⟨[(0,o21)],[(1,o1),(5,o1)],[(.ret,[(4,o1)]),(.exit 0,[(1,o1)])],N2,none⟩
def XE:nB Tryz.prog (env 78 [] []) (lp 0 (body Tryz.f57) 0) R8:=lk (bg _ _ _) apU (n:=0) [] trivial (by kernel_rfl) λk x=>by kernel_rfl
def aoA:List (bA×hJ):=((57,[]),⟨true,[o21,o1],[o1],u2 NH⟩)::aoz
def asW:vf Tryz.prog aoA:=fk (bg 78 [] []) apU [(0,R8)] ⟨XE,trivial⟩ Tryz.func57 (by kernel_rfl) λx=>by kernel_rfl
def aoB:List (bA×hJ):=((13,[]),⟨true,[a17,o1],[o1],u16 MD⟩)::aoA
def asX:vf Tryz.prog aoB:=fk (bg 30 [] []) asW [] trivial Tryz.func13 (by kernel_rfl) λx=>by kernel_rfl
def Jw:hJ:=⟨true,[a2,o9],[o20],u16 Ln⟩
def aqs:List (bA×hJ):=((4,[]),Jw)::aoB
def asY:vf Tryz.prog aqs:=fk (bg 135 [] []) asX [] trivial Tryz.func4 (by kernel_rfl) λx=>by kernel_rfl
def Ut:ec Tryz.prog 4 Jw:=asY.1
end Go.Proofs.YtdbcclejeoljoaaGreatDoor.fnExactRunNetwork

