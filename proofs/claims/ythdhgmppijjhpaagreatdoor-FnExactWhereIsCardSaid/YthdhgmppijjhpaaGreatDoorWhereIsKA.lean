/- What each function that the law FnExactWhereIs reaches promises: it computes what its plain function says. Conditions: none. -/
import Derived.Test.YthdhgmppijjhpaaGreatDoorRows
import Derived.Test.YthdhgmppijjhpaaGreatDoorWhereIsQB
import Derived.Test.YthdhgmppijjhpaaGreatDoorWhereIsS171
import Derived.KernelRfl
set_option linter.unusedVariables false
set_option linter.unusedSimpArgs false
namespace Go.Proofs.YthdhgmppijjhpaaGreatDoor.fnExactWhereIs
open Go.R Go.Fn
set_option maxRecDepth 100000
abbrev t0:aK:=.cons (.int .i64) .nil
abbrev t1:aK:=.cons .bool .nil
abbrev t2:aK:=.cons (.int .u8) .nil
abbrev t3:aK:=.cons (.int .i64) (.cons (.int .i64) (.cons .bool (.cons (.int .u8) .nil)))
abbrev t4:aK:=.cons .str .nil
abbrev t5:aK:=.cons (.int .u64) .nil
abbrev t6:aK:=.cons .str (.cons (.int .u64) .nil)
abbrev t7:aK:=.cons (.int .i32) .nil
abbrev t8:aK:=.cons (.int .i64) (.cons (.int .i64) (.cons (.int .i64) (.cons (.int .i64) (.cons (.int .i64) (.cons (.int .i64) (.cons (.int .i64) (.cons (.int .i64) .nil)))))))
abbrev t9:aK:=.cons (.int .i64) (.cons (.int .i64) .nil)
abbrev t10:aK:=.cons (.int .i64) (.cons (.int .i64) (.cons (.int .i64) (.cons .bool .nil)))
abbrev t11:aK:=.cons (.int .i64) (.cons (.sl 3 t0) (.cons (.sl 168 t10) .nil))
abbrev t12:aK:=.cons (.int .i64) (.cons (.int .i64) (.cons (.int .i64) (.cons (.int .i64) (.cons (.int .i64) (.cons (.int .i64) (.cons (.int .i64) .nil))))))
abbrev t13:aK:=.cons (.sl 155 t9) (.cons (.sl 155 t9) (.cons (.sl 142 t11) (.cons (.int .i64) (.cons (.int .i64) (.cons .bool (.cons .bool (.cons .bool (.cons (.int .i64) (.cons (.int .i64) (.cons (.sl 109 t12) .nil))))))))))
abbrev t14:aK:=.cons (.sl 80 t13) .nil
abbrev t15:aK:=.cons (.int .i64) (.cons (.int .i64) (.cons (.int .i64) (.cons (.int .i64) (.cons (.int .i64) (.cons (.int .i64) (.cons (.int .i64) (.cons (.int .i64) (.cons (.int .i64) (.cons (.int .i64) (.cons (.int .i64) (.cons (.int .i64) (.cons (.int .i64) .nil))))))))))))
abbrev t16:aK:=.cons (.sl 101 t15) .nil
abbrev t17:aK:=.cons (.int .i64) (.cons (.int .i64) (.cons (.int .i64) (.cons (.int .i64) (.cons (.int .i64) (.cons (.int .i64) (.cons .bool .nil))))))
abbrev t18:aK:=.cons (.sl 105 t17) .nil
abbrev t19:aK:=.cons (.sl 109 t12) .nil
abbrev t20:aK:=.cons (.int .i64) (.cons (.int .i64) (.cons (.int .i64) (.cons (.int .i64) (.cons (.int .i64) (.cons (.int .i64) (.cons (.int .i64) (.cons (.int .i64) (.cons (.int .i64) (.cons (.int .i64) (.cons (.int .i64) (.cons (.sl 80 t13) (.cons (.sl 101 t15) (.cons (.sl 105 t17) (.cons (.sl 109 t12) .nil))))))))))))))
abbrev t21:aK:=.cons (.int .i64) (.cons (.sl 3 t0) (.cons (.sl 96 t10) .nil))
abbrev t22:aK:=.cons (.sl 153 t9) (.cons (.sl 153 t9) (.cons (.sl 94 t21) (.cons (.int .i64) (.cons (.int .i64) (.cons .bool (.cons .bool (.cons .bool (.cons (.int .i64) (.cons (.int .i64) (.cons (.sl 107 t12) .nil))))))))))
abbrev t23:aK:=.cons (.sl 62 t22) .nil
abbrev t24:aK:=.cons (.sl 51 t15) .nil
abbrev t25:aK:=.cons (.sl 103 t17) .nil
abbrev t26:aK:=.cons (.sl 107 t12) .nil
abbrev t27:aK:=.cons (.int .i64) (.cons (.int .i64) (.cons (.int .i64) (.cons (.int .i64) (.cons (.int .i64) (.cons (.int .i64) (.cons (.int .i64) (.cons (.int .i64) (.cons (.int .i64) (.cons (.int .i64) (.cons (.int .i64) (.cons (.sl 62 t22) (.cons (.sl 51 t15) (.cons (.sl 103 t17) (.cons (.sl 107 t12) .nil))))))))))))))
abbrev t28:aK:=.cons (.int .i64) (.cons (.int .i64) (.cons (.int .i64) (.cons (.int .i64) (.cons (.int .i64) .nil))))
abbrev t29:aK:=.cons (.sl 153 t9) .nil
abbrev t30:aK:=.cons (.sl 153 t9) (.cons (.sl 153 t9) .nil)
abbrev t31:aK:=.cons (.sl 94 t21) .nil
abbrev t32:aK:=.cons (.int .i64) (.cons (.int .i64) (.cons .bool (.cons .bool (.cons .bool .nil))))
abbrev t33:aK:=.cons (.sl 155 t9) .nil
abbrev t34:aK:=.cons (.sl 155 t9) (.cons (.sl 155 t9) .nil)
abbrev t35:aK:=.cons (.sl 142 t11) .nil
abbrev t36:aK:=.cons (.sl 5 t2) .nil
abbrev t37:aK:=.cons (.sl 3 t0) .nil
abbrev t38:aK:=.cons (.sl 96 t10) .nil
abbrev t39:aK:=.cons (.sl 168 t10) .nil
abbrev t40:aK:=.cons (.int .u32) .nil
abbrev v0:K:=.val (.sl 155 t9)
abbrev v1:K:=.val (.int .i64)
abbrev v2:K:=.val (.sl 3 t0)
abbrev v3:K:=.val (.sl 168 t10)
abbrev v4:K:=.val (.sl 142 t11)
abbrev v5:K:=.val (.sl 109 t12)
abbrev v6:K:=.val .bool
abbrev v7:K:=.val (.sl 80 t13)
abbrev v8:K:=.val (.sl 101 t15)
abbrev v9:K:=.val (.sl 105 t17)
abbrev v10:K:=.val (.sl 103 t17)
abbrev v11:K:=.val (.sl 107 t12)
abbrev v12:K:=.val (.sl 153 t9)
abbrev v13:K:=.val (.sl 96 t10)
abbrev v14:K:=.val (.sl 94 t21)
abbrev v15:K:=.val (.sl 62 t22)
abbrev v16:K:=.val (.sl 51 t15)
abbrev v17:K:=.val (.int .u8)
abbrev v18:K:=.val .str
abbrev v19:K:=.arr 153 t9 false
abbrev v20:K:=.arr 3 t0 false
abbrev v21:K:=.arr 96 t10 false
abbrev v22:K:=.arr 94 t21 true
abbrev v23:K:=.arr 107 t12 false
abbrev v24:K:=.arr 62 t22 true
abbrev v25:K:=.arr 51 t15 false
abbrev v26:K:=.arr 103 t17 false
abbrev o0:Sh:=.one v0
abbrev o1:Sh:=.one v1
abbrev o2:Sh:=.one v2
abbrev o3:Sh:=.one v3
abbrev o4:Sh:=.one v4
abbrev o5:Sh:=.one v5
abbrev o6:Sh:=.one v7
abbrev o7:Sh:=.one v8
abbrev o8:Sh:=.one v9
abbrev o9:Sh:=.one v19
abbrev o10:Sh:=.one v20
abbrev o11:Sh:=.one v21
abbrev o12:Sh:=.one v22
abbrev o13:Sh:=.one v23
abbrev o14:Sh:=.one v24
abbrev o15:Sh:=.one v25
abbrev o16:Sh:=.one v26
abbrev o17:Sh:=.one v6
abbrev o18:Sh:=.one v10
abbrev o19:Sh:=.one v11
abbrev o20:Sh:=.one v12
abbrev o21:Sh:=.one v14
abbrev o22:Sh:=.one v13
abbrev o23:Sh:=.one v17
abbrev o24:Sh:=.one v18
abbrev o25:Sh:=.one v15
abbrev o26:Sh:=.one v16
abbrev a0:Sh:=.agg [v1,v2,v3]
abbrev a1:Sh:=.agg [v0,v0,v4,v1,v1,v6,v6,v6,v1,v1,v5]
abbrev a2:Sh:=.agg [v1,v1,v1,v1,v1,v1,v1,v1,v1,v1,v1,v7,v8,v9,v5]
abbrev a3:Sh:=.agg [v1,v1,v1,v1,v1,v1,v1,v1]
abbrev a4:Sh:=.agg [v1,v1,v1,v6]
abbrev a5:Sh:=.agg [v1,v1,v6,v6,v6]
abbrev a6:Sh:=.agg [v1,v1,v1,v1,v1,v1,v1]
abbrev a7:Sh:=.agg [v1,v1,v1,v1,v1]
abbrev a8:Sh:=.agg [v1,v1,v1,v1,v1,v1,v1,v1,v1,v1,v1,v1,v1]
abbrev a9:Sh:=.agg [v1,v1,v1,v1,v1,v1,v6]
abbrev a10:Sh:=.agg [v12,v12]
abbrev a11:Sh:=.blk [v1,v1,v1,v6]
abbrev a12:Sh:=.agg [v1,v2,v13]
abbrev a13:Sh:=.agg [v1,v1,v1,v1,v1,v1,v1,v1,v1,v1,v1,v15,v16,v10,v11]
abbrev a14:Sh:=.agg [v12,v12,v14,v1,v1,v6,v6,v6,v1,v1,v11]
noncomputable def table:List (Nat×TI):=[(2,⟨t0,false,8,[],none⟩),
 (3,⟨t0,false,8,[],none⟩),
 (4,⟨t1,false,1,[],none⟩),
 (5,⟨t2,false,1,[],none⟩),
 (6,⟨t2,false,1,[],none⟩),
 (7,⟨t3,true,24,[(0,1,false),(1,1,false),(2,1,false),(3,1,false)],none⟩),
 (8,⟨t3,true,24,[(0,1,false),(1,1,false),(2,1,false),(3,1,false)],none⟩),
 (9,⟨t4,false,16,[],none⟩),
 (10,⟨t4,false,16,[],none⟩),
 (11,⟨t4,false,16,[],none⟩),
 (12,⟨t5,false,8,[],none⟩),
 (13,⟨t6,true,24,[(0,1,false),(1,1,false)],none⟩),
 (14,⟨t6,true,24,[(0,1,false),(1,1,false)],none⟩),
 (21,⟨t7,false,4,[],none⟩),
 (22,⟨t8,true,64,[(0,1,false),(1,1,false),(2,1,false),(3,1,false),(4,1,false),(5,1,false),(6,1,false),(7,1,false)],none⟩),
 (23,⟨t8,true,64,[(0,1,false),(1,1,false),(2,1,false),(3,1,false),(4,1,false),(5,1,false),(6,1,false),(7,1,false)],none⟩),
 (24,⟨t14,false,24,[],some 80⟩),
 (25,⟨t16,false,24,[],some 101⟩),
 (26,⟨t18,false,24,[],some 105⟩),
 (27,⟨t19,false,24,[],some 109⟩),
 (28,⟨t20,true,184,[(0,8,true),(8,1,false),(9,1,false),(10,1,false),(11,1,false),(12,1,false),(13,1,false),(14,1,false)],none⟩),
 (29,⟨t20,true,184,[(0,8,true),(8,1,false),(9,1,false),(10,1,false),(11,1,false),(12,1,false),(13,1,false),(14,1,false)],none⟩),
 (32,⟨t8,true,64,[(0,1,false),(1,1,false),(2,1,false),(3,1,false),(4,1,false),(5,1,false),(6,1,false),(7,1,false)],none⟩),
 (33,⟨t23,false,24,[],some 62⟩),
 (34,⟨t24,false,24,[],some 51⟩),
 (35,⟨t25,false,24,[],some 103⟩),
 (36,⟨t26,false,24,[],some 107⟩),
 (37,⟨t27,true,184,[(0,8,true),(8,1,false),(9,1,false),(10,1,false),(11,1,false),(12,1,false),(13,1,false),(14,1,false)],none⟩),
 (38,⟨t27,true,184,[(0,8,true),(8,1,false),(9,1,false),(10,1,false),(11,1,false),(12,1,false),(13,1,false),(14,1,false)],none⟩),
 (48,⟨t28,true,40,[(0,1,false),(1,1,false),(2,1,false),(3,1,false),(4,1,false)],none⟩),
 (49,⟨t28,true,40,[(0,1,false),(1,1,false),(2,1,false),(3,1,false),(4,1,false)],none⟩),
 (50,⟨t15,true,104,[(0,1,false),(1,1,false),(2,1,false),(3,1,false),(4,1,false),(5,1,false),(6,5,true),(11,1,false),(12,1,false)],none⟩),
 (51,⟨t15,true,104,[(0,1,false),(1,1,false),(2,1,false),(3,1,false),(4,1,false),(5,1,false),(6,5,true),(11,1,false),(12,1,false)],none⟩),
 (55,⟨t29,false,24,[],some 153⟩),
 (56,⟨t30,true,48,[(0,1,false),(1,1,false)],none⟩),
 (57,⟨t30,true,48,[(0,1,false),(1,1,false)],none⟩),
 (58,⟨t31,false,24,[],some 94⟩),
 (59,⟨t32,true,24,[(0,1,false),(1,1,false),(2,1,false),(3,1,false),(4,1,false)],none⟩),
 (60,⟨t32,true,24,[(0,1,false),(1,1,false),(2,1,false),(3,1,false),(4,1,false)],none⟩),
 (61,⟨t22,true,136,[(0,2,true),(2,1,false),(3,5,true),(8,1,false),(9,1,false),(10,1,false)],none⟩),
 (62,⟨t22,true,136,[(0,2,true),(2,1,false),(3,5,true),(8,1,false),(9,1,false),(10,1,false)],none⟩),
 (74,⟨t33,false,24,[],some 155⟩),
 (75,⟨t34,true,48,[(0,1,false),(1,1,false)],none⟩),
 (76,⟨t34,true,48,[(0,1,false),(1,1,false)],none⟩),
 (77,⟨t35,false,24,[],some 142⟩),
 (78,⟨t32,true,24,[(0,1,false),(1,1,false),(2,1,false),(3,1,false),(4,1,false)],none⟩),
 (79,⟨t13,true,136,[(0,2,true),(2,1,false),(3,5,true),(8,1,false),(9,1,false),(10,1,false)],none⟩),
 (80,⟨t13,true,136,[(0,2,true),(2,1,false),(3,5,true),(8,1,false),(9,1,false),(10,1,false)],none⟩),
 (88,⟨t36,false,24,[],some 5⟩),
 (91,⟨t37,false,24,[],some 3⟩),
 (92,⟨t38,false,24,[],some 96⟩),
 (93,⟨t21,true,56,[(0,1,false),(1,1,false),(2,1,false)],none⟩),
 (94,⟨t21,true,56,[(0,1,false),(1,1,false),(2,1,false)],none⟩),
 (95,⟨t10,true,32,[(0,1,false),(1,1,false),(2,1,false),(3,1,false)],none⟩),
 (96,⟨t10,true,32,[(0,1,false),(1,1,false),(2,1,false),(3,1,false)],none⟩),
 (99,⟨t28,true,40,[(0,1,false),(1,1,false),(2,1,false),(3,1,false),(4,1,false)],none⟩),
 (100,⟨t15,true,104,[(0,1,false),(1,1,false),(2,1,false),(3,1,false),(4,1,false),(5,1,false),(6,5,true),(11,1,false),(12,1,false)],none⟩),
 (101,⟨t15,true,104,[(0,1,false),(1,1,false),(2,1,false),(3,1,false),(4,1,false),(5,1,false),(6,5,true),(11,1,false),(12,1,false)],none⟩),
 (102,⟨t17,true,56,[(0,1,false),(1,1,false),(2,1,false),(3,1,false),(4,1,false),(5,1,false),(6,1,false)],none⟩),
 (103,⟨t17,true,56,[(0,1,false),(1,1,false),(2,1,false),(3,1,false),(4,1,false),(5,1,false),(6,1,false)],none⟩),
 (105,⟨t17,true,56,[(0,1,false),(1,1,false),(2,1,false),(3,1,false),(4,1,false),(5,1,false),(6,1,false)],none⟩),
 (106,⟨t12,true,56,[(0,1,false),(1,1,false),(2,1,false),(3,1,false),(4,1,false),(5,1,false),(6,1,false)],none⟩),
 (107,⟨t12,true,56,[(0,1,false),(1,1,false),(2,1,false),(3,1,false),(4,1,false),(5,1,false),(6,1,false)],none⟩),
 (109,⟨t12,true,56,[(0,1,false),(1,1,false),(2,1,false),(3,1,false),(4,1,false),(5,1,false),(6,1,false)],none⟩),
 (140,⟨t39,false,24,[],some 168⟩),
 (141,⟨t11,true,56,[(0,1,false),(1,1,false),(2,1,false)],none⟩),
 (142,⟨t11,true,56,[(0,1,false),(1,1,false),(2,1,false)],none⟩),
 (152,⟨t9,true,16,[(0,1,false),(1,1,false)],none⟩),
 (153,⟨t9,true,16,[(0,1,false),(1,1,false)],none⟩),
 (155,⟨t9,true,16,[(0,1,false),(1,1,false)],none⟩),
 (159,⟨t5,false,8,[],none⟩),
 (168,⟨t10,true,32,[(0,1,false),(1,1,false),(2,1,false),(3,1,false)],none⟩),
 (172,⟨t40,false,4,[],none⟩),
 (174,⟨t5,false,8,[],none⟩),
 (187,⟨t2,false,1,[],none⟩),
 (188,⟨t2,false,1,[],none⟩),
 (191,⟨t7,false,4,[],none⟩),
 (192,⟨t7,false,4,[],none⟩)]
theorem PW:CY Tryz.prog table=true:=by kernel_rfl
noncomputable def eqs:List Nat:=[60,49]
theorem QI:(eqs.all fun t=>vW Tryz.prog (uY table) t)=true:=by kernel_rfl
noncomputable def maps:List (Nat×IntKind):=[(131,.i64)]
theorem Qf:(maps.all fun p=>CZ Tryz.prog p.1 p.2)=true:=by kernel_rfl
noncomputable def env(nt:Nat)(tr dp:List Nat):Env:={ ti:=uY table,deep:=fun d=>dp.any (Nat.beq d),trunc:=fun d=>tr.any (Nat.beq d),ro:=fun _=>false,E9:=fun t=>eqs.any (Nat.beq t),mp:=xC maps,nt:=nt }
theorem bf(nt:Nat)(tr dp:List Nat):cq Tryz.prog (env nt tr dp):=D7 (by kernel_rfl) PW QI Qf _ rfl (fun _=>rfl) rfl
noncomputable def u1{A0 B C:Type}(f:A0->C)(x:A0×B):C:=f x.1
noncomputable def u2{A0 A1 B C:Type}(f:A0->A1->C)(x:A0×A1×B):C:=f x.1 x.2.1
noncomputable def u3{A0 A1 A2 B C:Type}(f:A0->A1->A2->C)(x:A0×A1×A2×B):C:=f x.1 x.2.1 x.2.2.1
noncomputable def u4{A0 A1 A2 A3 B C:Type}(f:A0->A1->A2->A3->C)(x:A0×A1×A2×A3×B):C:=f x.1 x.2.1 x.2.2.1 x.2.2.2.1
noncomputable def u5{A0 A1 A2 A3 A4 B C:Type}(f:A0->A1->A2->A3->A4->C)(x:A0×A1×A2×A3×A4×B):C:=f x.1 x.2.1 x.2.2.1 x.2.2.2.1 x.2.2.2.2.1
noncomputable def u6{A0 A1 A2 A3 A4 A5 B C:Type}(f:A0->A1->A2->A3->A4->A5->C)(x:A0×A1×A2×A3×A4×A5×B):C:=f x.1 x.2.1 x.2.2.1 x.2.2.2.1 x.2.2.2.2.1 x.2.2.2.2.2.1
noncomputable def u7{A0 A1 A2 A3 A4 A5 A6 B C:Type}(f:A0->A1->A2->A3->A4->A5->A6->C)(x:A0×A1×A2×A3×A4×A5×A6×B):C:=f x.1 x.2.1 x.2.2.1 x.2.2.2.1 x.2.2.2.2.1 x.2.2.2.2.2.1 x.2.2.2.2.2.2.1
noncomputable def u8{A0 A1 A2 A3 A4 A5 A6 A7 B C:Type}(f:A0->A1->A2->A3->A4->A5->A6->A7->C)(x:A0×A1×A2×A3×A4×A5×A6×A7×B):C:=f x.1 x.2.1 x.2.2.1 x.2.2.2.1 x.2.2.2.2.1 x.2.2.2.2.2.1 x.2.2.2.2.2.2.1 x.2.2.2.2.2.2.2.1
noncomputable def UH{A0 A1 A2 A3 A4 A5 A6 A7 A8 A9 B C:Type}(f:A0->A1->A2->A3->A4->A5->A6->A7->A8->A9->C)(x:A0×A1×A2×A3×A4×A5×A6×A7×A8×A9×B):C:=f x.1 x.2.1 x.2.2.1 x.2.2.2.1 x.2.2.2.2.1 x.2.2.2.2.2.1 x.2.2.2.2.2.2.1 x.2.2.2.2.2.2.2.1 x.2.2.2.2.2.2.2.2.1 x.2.2.2.2.2.2.2.2.2.1
noncomputable def VF{A0 A1 A2 A3 A4 A5 A6 A7 A8 A9 MB B C:Type}(f:A0->A1->A2->A3->A4->A5->A6->A7->A8->A9->MB->C)(x:A0×A1×A2×A3×A4×A5×A6×A7×A8×A9×MB×B):C:=f x.1 x.2.1 x.2.2.1 x.2.2.2.1 x.2.2.2.2.1 x.2.2.2.2.2.1 x.2.2.2.2.2.2.1 x.2.2.2.2.2.2.2.1 x.2.2.2.2.2.2.2.2.1 x.2.2.2.2.2.2.2.2.2.1 x.2.2.2.2.2.2.2.2.2.2.1
noncomputable def VG{A0 A1 A2 A3 A4 A5 A6 A7 A8 A9 MB M7 B C:Type}(f:A0->A1->A2->A3->A4->A5->A6->A7->A8->A9->MB->M7->C)(x:A0×A1×A2×A3×A4×A5×A6×A7×A8×A9×MB×M7×B):C:=f x.1 x.2.1 x.2.2.1 x.2.2.2.1 x.2.2.2.2.1 x.2.2.2.2.2.1 x.2.2.2.2.2.2.1 x.2.2.2.2.2.2.2.1 x.2.2.2.2.2.2.2.2.1 x.2.2.2.2.2.2.2.2.2.1 x.2.2.2.2.2.2.2.2.2.2.1 x.2.2.2.2.2.2.2.2.2.2.2.1
noncomputable def VH{A0 A1 A2 A3 A4 A5 A6 A7 A8 A9 MB M7 Nl B C:Type}(f:A0->A1->A2->A3->A4->A5->A6->A7->A8->A9->MB->M7->Nl->C)(x:A0×A1×A2×A3×A4×A5×A6×A7×A8×A9×MB×M7×Nl×B):C:=f x.1 x.2.1 x.2.2.1 x.2.2.2.1 x.2.2.2.2.1 x.2.2.2.2.2.1 x.2.2.2.2.2.2.1 x.2.2.2.2.2.2.2.1 x.2.2.2.2.2.2.2.2.1 x.2.2.2.2.2.2.2.2.2.1 x.2.2.2.2.2.2.2.2.2.2.1 x.2.2.2.2.2.2.2.2.2.2.2.1 x.2.2.2.2.2.2.2.2.2.2.2.2.1
noncomputable def UI{A0 A1 A2 A3 A4 A5 A6 A7 A8 A9 MB M7 Nl NI B C:Type}(f:A0->A1->A2->A3->A4->A5->A6->A7->A8->A9->MB->M7->Nl->NI->C)(x:A0×A1×A2×A3×A4×A5×A6×A7×A8×A9×MB×M7×Nl×NI×B):C:=f x.1 x.2.1 x.2.2.1 x.2.2.2.1 x.2.2.2.2.1 x.2.2.2.2.2.1 x.2.2.2.2.2.2.1 x.2.2.2.2.2.2.2.1 x.2.2.2.2.2.2.2.2.1 x.2.2.2.2.2.2.2.2.2.1 x.2.2.2.2.2.2.2.2.2.2.1 x.2.2.2.2.2.2.2.2.2.2.2.1 x.2.2.2.2.2.2.2.2.2.2.2.2.1 x.2.2.2.2.2.2.2.2.2.2.2.2.2.1
noncomputable def QS{A0 A1 A2 A3 A4 A5 A6 A7 A8 A9 MB M7 Nl NI Oc B C:Type}(f:A0->A1->A2->A3->A4->A5->A6->A7->A8->A9->MB->M7->Nl->NI->Oc->C)(x:A0×A1×A2×A3×A4×A5×A6×A7×A8×A9×MB×M7×Nl×NI×Oc×B):C:=f x.1 x.2.1 x.2.2.1 x.2.2.2.1 x.2.2.2.2.1 x.2.2.2.2.2.1 x.2.2.2.2.2.2.1 x.2.2.2.2.2.2.2.1 x.2.2.2.2.2.2.2.2.1 x.2.2.2.2.2.2.2.2.2.1 x.2.2.2.2.2.2.2.2.2.2.1 x.2.2.2.2.2.2.2.2.2.2.2.1 x.2.2.2.2.2.2.2.2.2.2.2.2.1 x.2.2.2.2.2.2.2.2.2.2.2.2.2.1 x.2.2.2.2.2.2.2.2.2.2.2.2.2.2.1
noncomputable def u16{A0 A1 A2 A3 A4 A5 A6 A7 A8 A9 MB M7 Nl NI Oc O0 B C:Type}(f:A0->A1->A2->A3->A4->A5->A6->A7->A8->A9->MB->M7->Nl->NI->Oc->O0->C)(x:A0×A1×A2×A3×A4×A5×A6×A7×A8×A9×MB×M7×Nl×NI×Oc×O0×B):C:=f x.1 x.2.1 x.2.2.1 x.2.2.2.1 x.2.2.2.2.1 x.2.2.2.2.2.1 x.2.2.2.2.2.2.1 x.2.2.2.2.2.2.2.1 x.2.2.2.2.2.2.2.2.1 x.2.2.2.2.2.2.2.2.2.1 x.2.2.2.2.2.2.2.2.2.2.1 x.2.2.2.2.2.2.2.2.2.2.2.1 x.2.2.2.2.2.2.2.2.2.2.2.2.1 x.2.2.2.2.2.2.2.2.2.2.2.2.2.1 x.2.2.2.2.2.2.2.2.2.2.2.2.2.2.1 x.2.2.2.2.2.2.2.2.2.2.2.2.2.2.2.1
noncomputable def VI{A0 A1 A2 A3 A4 A5 A6 A7 A8 A9 MB M7 Nl NI Oc O0 Py Pz PA PB PC PD B C:Type}(f:A0->A1->A2->A3->A4->A5->A6->A7->A8->A9->MB->M7->Nl->NI->Oc->O0->Py->Pz->PA->PB->PC->PD->C)(x:A0×A1×A2×A3×A4×A5×A6×A7×A8×A9×MB×M7×Nl×NI×Oc×O0×Py×Pz×PA×PB×PC×PD×B):C:=f x.1 x.2.1 x.2.2.1 x.2.2.2.1 x.2.2.2.2.1 x.2.2.2.2.2.1 x.2.2.2.2.2.2.1 x.2.2.2.2.2.2.2.1 x.2.2.2.2.2.2.2.2.1 x.2.2.2.2.2.2.2.2.2.1 x.2.2.2.2.2.2.2.2.2.2.1 x.2.2.2.2.2.2.2.2.2.2.2.1 x.2.2.2.2.2.2.2.2.2.2.2.2.1 x.2.2.2.2.2.2.2.2.2.2.2.2.2.1 x.2.2.2.2.2.2.2.2.2.2.2.2.2.2.1 x.2.2.2.2.2.2.2.2.2.2.2.2.2.2.2.1 x.2.2.2.2.2.2.2.2.2.2.2.2.2.2.2.2.1 x.2.2.2.2.2.2.2.2.2.2.2.2.2.2.2.2.2.1 x.2.2.2.2.2.2.2.2.2.2.2.2.2.2.2.2.2.2.1 x.2.2.2.2.2.2.2.2.2.2.2.2.2.2.2.2.2.2.2.1 x.2.2.2.2.2.2.2.2.2.2.2.2.2.2.2.2.2.2.2.2.1 x.2.2.2.2.2.2.2.2.2.2.2.2.2.2.2.2.2.2.2.2.2.1
noncomputable def VJ{A0 A1 A2 A3 A4 A5 A6 A7 A8 A9 MB M7 Nl NI Oc O0 Py Pz PA PB PC PD Ql Qm Qn Qo B C:Type}(f:A0->A1->A2->A3->A4->A5->A6->A7->A8->A9->MB->M7->Nl->NI->Oc->O0->Py->Pz->PA->PB->PC->PD->Ql->Qm->Qn->Qo->C)(x:A0×A1×A2×A3×A4×A5×A6×A7×A8×A9×MB×M7×Nl×NI×Oc×O0×Py×Pz×PA×PB×PC×PD×Ql×Qm×Qn×Qo×B):C:=f x.1 x.2.1 x.2.2.1 x.2.2.2.1 x.2.2.2.2.1 x.2.2.2.2.2.1 x.2.2.2.2.2.2.1 x.2.2.2.2.2.2.2.1 x.2.2.2.2.2.2.2.2.1 x.2.2.2.2.2.2.2.2.2.1 x.2.2.2.2.2.2.2.2.2.2.1 x.2.2.2.2.2.2.2.2.2.2.2.1 x.2.2.2.2.2.2.2.2.2.2.2.2.1 x.2.2.2.2.2.2.2.2.2.2.2.2.2.1 x.2.2.2.2.2.2.2.2.2.2.2.2.2.2.1 x.2.2.2.2.2.2.2.2.2.2.2.2.2.2.2.1 x.2.2.2.2.2.2.2.2.2.2.2.2.2.2.2.2.1 x.2.2.2.2.2.2.2.2.2.2.2.2.2.2.2.2.2.1 x.2.2.2.2.2.2.2.2.2.2.2.2.2.2.2.2.2.2.1 x.2.2.2.2.2.2.2.2.2.2.2.2.2.2.2.2.2.2.2.1 x.2.2.2.2.2.2.2.2.2.2.2.2.2.2.2.2.2.2.2.2.1 x.2.2.2.2.2.2.2.2.2.2.2.2.2.2.2.2.2.2.2.2.2.1 x.2.2.2.2.2.2.2.2.2.2.2.2.2.2.2.2.2.2.2.2.2.2.1 x.2.2.2.2.2.2.2.2.2.2.2.2.2.2.2.2.2.2.2.2.2.2.2.1 x.2.2.2.2.2.2.2.2.2.2.2.2.2.2.2.2.2.2.2.2.2.2.2.2.1 x.2.2.2.2.2.2.2.2.2.2.2.2.2.2.2.2.2.2.2.2.2.2.2.2.2.1
noncomputable def VK{A0 A1 A2 A3 A4 A5 A6 A7 A8 A9 MB M7 Nl NI Oc O0 Py Pz PA PB PC PD Ql Qm Qn Qo Q1 Q2 B C:Type}(f:A0->A1->A2->A3->A4->A5->A6->A7->A8->A9->MB->M7->Nl->NI->Oc->O0->Py->Pz->PA->PB->PC->PD->Ql->Qm->Qn->Qo->Q1->Q2->C)(x:A0×A1×A2×A3×A4×A5×A6×A7×A8×A9×MB×M7×Nl×NI×Oc×O0×Py×Pz×PA×PB×PC×PD×Ql×Qm×Qn×Qo×Q1×Q2×B):C:=f x.1 x.2.1 x.2.2.1 x.2.2.2.1 x.2.2.2.2.1 x.2.2.2.2.2.1 x.2.2.2.2.2.2.1 x.2.2.2.2.2.2.2.1 x.2.2.2.2.2.2.2.2.1 x.2.2.2.2.2.2.2.2.2.1 x.2.2.2.2.2.2.2.2.2.2.1 x.2.2.2.2.2.2.2.2.2.2.2.1 x.2.2.2.2.2.2.2.2.2.2.2.2.1 x.2.2.2.2.2.2.2.2.2.2.2.2.2.1 x.2.2.2.2.2.2.2.2.2.2.2.2.2.2.1 x.2.2.2.2.2.2.2.2.2.2.2.2.2.2.2.1 x.2.2.2.2.2.2.2.2.2.2.2.2.2.2.2.2.1 x.2.2.2.2.2.2.2.2.2.2.2.2.2.2.2.2.2.1 x.2.2.2.2.2.2.2.2.2.2.2.2.2.2.2.2.2.2.1 x.2.2.2.2.2.2.2.2.2.2.2.2.2.2.2.2.2.2.2.1 x.2.2.2.2.2.2.2.2.2.2.2.2.2.2.2.2.2.2.2.2.1 x.2.2.2.2.2.2.2.2.2.2.2.2.2.2.2.2.2.2.2.2.2.1 x.2.2.2.2.2.2.2.2.2.2.2.2.2.2.2.2.2.2.2.2.2.2.1 x.2.2.2.2.2.2.2.2.2.2.2.2.2.2.2.2.2.2.2.2.2.2.2.1 x.2.2.2.2.2.2.2.2.2.2.2.2.2.2.2.2.2.2.2.2.2.2.2.2.1 x.2.2.2.2.2.2.2.2.2.2.2.2.2.2.2.2.2.2.2.2.2.2.2.2.2.1 x.2.2.2.2.2.2.2.2.2.2.2.2.2.2.2.2.2.2.2.2.2.2.2.2.2.2.1 x.2.2.2.2.2.2.2.2.2.2.2.2.2.2.2.2.2.2.2.2.2.2.2.2.2.2.2.1
noncomputable def VL{A0 A1 A2 A3 A4 A5 A6 A7 A8 A9 MB M7 Nl NI Oc O0 Py Pz PA PB PC PD Ql Qm Qn Qo Q1 Q2 Ss St B C:Type}(f:A0->A1->A2->A3->A4->A5->A6->A7->A8->A9->MB->M7->Nl->NI->Oc->O0->Py->Pz->PA->PB->PC->PD->Ql->Qm->Qn->Qo->Q1->Q2->Ss->St->C)(x:A0×A1×A2×A3×A4×A5×A6×A7×A8×A9×MB×M7×Nl×NI×Oc×O0×Py×Pz×PA×PB×PC×PD×Ql×Qm×Qn×Qo×Q1×Q2×Ss×St×B):C:=f x.1 x.2.1 x.2.2.1 x.2.2.2.1 x.2.2.2.2.1 x.2.2.2.2.2.1 x.2.2.2.2.2.2.1 x.2.2.2.2.2.2.2.1 x.2.2.2.2.2.2.2.2.1 x.2.2.2.2.2.2.2.2.2.1 x.2.2.2.2.2.2.2.2.2.2.1 x.2.2.2.2.2.2.2.2.2.2.2.1 x.2.2.2.2.2.2.2.2.2.2.2.2.1 x.2.2.2.2.2.2.2.2.2.2.2.2.2.1 x.2.2.2.2.2.2.2.2.2.2.2.2.2.2.1 x.2.2.2.2.2.2.2.2.2.2.2.2.2.2.2.1 x.2.2.2.2.2.2.2.2.2.2.2.2.2.2.2.2.1 x.2.2.2.2.2.2.2.2.2.2.2.2.2.2.2.2.2.1 x.2.2.2.2.2.2.2.2.2.2.2.2.2.2.2.2.2.2.1 x.2.2.2.2.2.2.2.2.2.2.2.2.2.2.2.2.2.2.2.1 x.2.2.2.2.2.2.2.2.2.2.2.2.2.2.2.2.2.2.2.2.1 x.2.2.2.2.2.2.2.2.2.2.2.2.2.2.2.2.2.2.2.2.2.1 x.2.2.2.2.2.2.2.2.2.2.2.2.2.2.2.2.2.2.2.2.2.2.1 x.2.2.2.2.2.2.2.2.2.2.2.2.2.2.2.2.2.2.2.2.2.2.2.1 x.2.2.2.2.2.2.2.2.2.2.2.2.2.2.2.2.2.2.2.2.2.2.2.2.1 x.2.2.2.2.2.2.2.2.2.2.2.2.2.2.2.2.2.2.2.2.2.2.2.2.2.1 x.2.2.2.2.2.2.2.2.2.2.2.2.2.2.2.2.2.2.2.2.2.2.2.2.2.2.1 x.2.2.2.2.2.2.2.2.2.2.2.2.2.2.2.2.2.2.2.2.2.2.2.2.2.2.2.1 x.2.2.2.2.2.2.2.2.2.2.2.2.2.2.2.2.2.2.2.2.2.2.2.2.2.2.2.2.1 x.2.2.2.2.2.2.2.2.2.2.2.2.2.2.2.2.2.2.2.2.2.2.2.2.2.2.2.2.2.1
noncomputable def T0:List (bV×ij):=[]
theorem h0:tT Tryz.prog T0:=trivial
noncomputable def T1:List (bV×ij):=((99,[]),⟨true,[o0,o1],[o1],u2 ze⟩)::T0
theorem h1:tT Tryz.prog T1:=fk (bf 12 [] []) h0 [] trivial Tryz.func99 (by kernel_rfl) fun x=>by kernel_rfl
noncomputable def T2:List (bV×ij):=((64,[]),⟨true,[.agg [v0,v0],o1],[o1],u3 KW⟩)::T1
theorem h2:tT Tryz.prog T2:=fk (bf 18 [] []) h1 [] trivial Tryz.func64 (by kernel_rfl) fun x=>by kernel_rfl
noncomputable def T3:List (bV×ij):=((113,[]),⟨true,[o2,o1],[o1],u2 KU⟩)::T2
theorem h3:tT Tryz.prog T3:=fk (bf 12 [] []) h2 [] trivial Tryz.func113 (by kernel_rfl) fun x=>by kernel_rfl
noncomputable def T4:List (bV×ij):=((114,[]),⟨true,[o3,o1],[o1],u2 KT⟩)::T3
theorem h4:tT Tryz.prog T4:=fk (bf 12 [] []) h3 [] trivial Tryz.func114 (by kernel_rfl) fun x=>by kernel_rfl
noncomputable def T5:List (bV×ij):=((100,[]),⟨true,[a0,o1],[o1],u4 oa⟩)::T4
theorem h5:tT Tryz.prog T5:=fk (bf 18 [] []) h4 [] trivial Tryz.func100 (by kernel_rfl) fun x=>by kernel_rfl
noncomputable def J2:eB:=⟨[(0,o4)],[(1,o1),(5,o1)],[(.ret,[(4,o1)]),(.exit 0,[(1,o1)])],za⟩
theorem Mb:nj Tryz.prog (env 27 [] []) (lp 0 (body Tryz.f65) 0) J2:=lk (bf _ _ _) h5 (n:=0) [] trivial (by kernel_rfl) fun k x=>by kernel_rfl
noncomputable def T6:List (bV×ij):=((65,[]),⟨true,[o4,o1],[o1],u2 yx⟩)::T5
theorem h6:tT Tryz.prog T6:=fk (bf 27 [] []) h5 [(0,J2)] ⟨Mb,trivial⟩ Tryz.func65 (by kernel_rfl) fun x=>by kernel_rfl
noncomputable def T7:List (bV×ij):=((12,[]),⟨true,[o5,o1],[o1],u2 qe⟩)::T6
theorem h7:tT Tryz.prog T7:=fk (bf 12 [] []) h6 [] trivial Tryz.func12 (by kernel_rfl) fun x=>by kernel_rfl
noncomputable def T8:List (bV×ij):=((31,[]),⟨true,[a1,o1],[o1],VG KV⟩)::T7
theorem h8:tT Tryz.prog T8:=fk (bf 24 [] []) h7 [] trivial Tryz.func31 (by kernel_rfl) fun x=>by kernel_rfl
noncomputable def Lb:eB:=⟨[(0,o6)],[(1,o1),(5,o1)],[(.ret,[(4,o1)]),(.exit 0,[(1,o1)])],Jy⟩
theorem MM:nj Tryz.prog (env 27 [] []) (lp 0 (body Tryz.f9) 0) Lb:=lk (bf _ _ _) h8 (n:=0) [] trivial (by kernel_rfl) fun k x=>by kernel_rfl
noncomputable def T9:List (bV×ij):=((9,[]),⟨true,[o6,o1],[o1],u2 me⟩)::T8
theorem h9:tT Tryz.prog T9:=fk (bf 27 [] []) h8 [(0,Lb)] ⟨MM,trivial⟩ Tryz.func9 (by kernel_rfl) fun x=>by kernel_rfl
noncomputable def Sv:List (bV×ij):=((10,[]),⟨true,[o7,o1],[o1],u2 zc⟩)::T9
theorem h10:tT Tryz.prog Sv:=fk (bf 12 [] []) h9 [] trivial Tryz.func10 (by kernel_rfl) fun x=>by kernel_rfl
noncomputable def Sw:List (bV×ij):=((11,[]),⟨true,[o8,o1],[o1],u2 I7⟩)::Sv
theorem h11:tT Tryz.prog Sw:=fk (bf 12 [] []) h10 [] trivial Tryz.func11 (by kernel_rfl) fun x=>by kernel_rfl
noncomputable def Sx:List (bV×ij):=((4,[]),⟨true,[a2,o1],[o1],u16 zb⟩)::Sw
theorem h12:tT Tryz.prog Sx:=fk (bf 30 [] []) h11 [] trivial Tryz.func4 (by kernel_rfl) fun x=>by kernel_rfl
noncomputable def Sy:List (bV×ij):=((17,[]),⟨true,[a3],[a3],u8 Ls⟩)::Sx
theorem UK:tT Tryz.prog Sy:=fk (bf 29 [] []) h12 [] trivial Tryz.func17 (by kernel_rfl) fun x=>by kernel_rfl
noncomputable def Sz:List (bV×ij):=((115,[]),⟨true,[.agg [v1,v1]],[.agg [v1,v1]],u2 LU⟩)::Sy
theorem Uh:tT Tryz.prog Sz:=fk (bf 11 [] []) UK [] trivial Tryz.func115 (by kernel_rfl) fun x=>by kernel_rfl
noncomputable def Ld:eB:=⟨[(0,o0)],[(3,o9),(4,o1)],[(.exit 0,[(3,o9)])],r5⟩
theorem MO:nj Tryz.prog (env 23 [] []) (lp 0 (body Tryz.f105) 0) Ld:=lk (bf _ _ _) Uh (n:=0) [] trivial (by kernel_rfl) fun k x=>by kernel_rfl
noncomputable def SA:List (bV×ij):=((105,[]),⟨true,[o0],[o9],u1 BE⟩)::Sz
theorem UL:tT Tryz.prog SA:=fk (bf 23 [] []) Uh [(0,Ld)] ⟨MO,trivial⟩ Tryz.func105 (by kernel_rfl) fun x=>by kernel_rfl
noncomputable def SC:List (bV×ij):=((75,[]),⟨true,[.agg [v0,v0]],[.agg [v19,v19]],u2 KZ⟩)::SA
theorem Ui:tT Tryz.prog SC:=fk (bf 13 [] []) UL [] trivial Tryz.func75 (by kernel_rfl) fun x=>by kernel_rfl
noncomputable def LD:eB:=⟨[(0,o2)],[(3,o10),(4,o1)],[(.exit 0,[(3,o10)])],z1⟩
theorem M0:nj Tryz.prog (env 22 [] []) (lp 0 (body Tryz.f116) 0) LD:=lk (bf _ _ _) Ui (n:=0) [] trivial (by kernel_rfl) fun k x=>by kernel_rfl
noncomputable def SD:List (bV×ij):=((116,[]),⟨true,[o2],[o10],u1 KY⟩)::SC
theorem UM:tT Tryz.prog SD:=fk (bf 22 [] []) Ui [(0,LD)] ⟨M0,trivial⟩ Tryz.func116 (by kernel_rfl) fun x=>by kernel_rfl
noncomputable def SE:List (bV×ij):=((125,[]),⟨true,[a4],[a4],u4 Mm⟩)::SD
theorem Uj:tT Tryz.prog SE:=fk (bf 17 [] []) UM [] trivial Tryz.func125 (by kernel_rfl) fun x=>by kernel_rfl
noncomputable def LC:eB:=⟨[(0,o3)],[(3,o11),(4,o1)],[(.exit 0,[(3,o11)])],zg⟩
theorem MZ:nj Tryz.prog (env 23 [] []) (lp 0 (body Tryz.f117) 0) LC:=lk (bf _ _ _) Uj (n:=0) [] trivial (by kernel_rfl) fun k x=>by kernel_rfl
noncomputable def SF:List (bV×ij):=((117,[]),⟨true,[o3],[o11],u1 KX⟩)::SE
theorem UN:tT Tryz.prog SF:=fk (bf 23 [] []) Uj [(0,LC)] ⟨MZ,trivial⟩ Tryz.func117 (by kernel_rfl) fun x=>by kernel_rfl
noncomputable def SG:List (bV×ij):=((106,[]),⟨true,[a0],[.agg [v1,v20,v21]],u3 qk⟩)::SF
theorem Uk:tT Tryz.prog SG:=fk (bf 16 [] []) UN [] trivial Tryz.func106 (by kernel_rfl) fun x=>by kernel_rfl
noncomputable def J3:eB:=⟨[(0,o4)],[(3,o12),(4,o1)],[(.exit 0,[(3,o12)])],zT⟩
theorem Mc:nj Tryz.prog (env 23 [] [7]) (lp 0 (body Tryz.f76) 0) J3:=lk (bf _ _ _) Uk (n:=0) [] trivial (by kernel_rfl) fun k x=>by kernel_rfl
noncomputable def SH:List (bV×ij):=((76,[]),⟨true,[o4],[o12],u1 zS⟩)::SG
theorem UO:tT Tryz.prog SH:=fk (bf 23 [] [7]) Uk [(0,J3)] ⟨Mc,trivial⟩ Tryz.func76 (by kernel_rfl) fun x=>by kernel_rfl
noncomputable def SI:List (bV×ij):=((77,[]),⟨true,[a5],[a5],u5 LS⟩)::SH
theorem UP:tT Tryz.prog SI:=fk (bf 20 [] []) UO [] trivial Tryz.func77 (by kernel_rfl) fun x=>by kernel_rfl
noncomputable def SJ:List (bV×ij):=((46,[]),⟨true,[a6],[a6],u7 Lq⟩)::SI
theorem Ul:tT Tryz.prog SJ:=fk (bf 26 [] []) UP [] trivial Tryz.func46 (by kernel_rfl) fun x=>by kernel_rfl
noncomputable def Ky:eB:=⟨[(0,o5)],[(3,o13),(4,o1)],[(.exit 0,[(3,o13)])],mo⟩
theorem Ms:nj Tryz.prog (env 23 [] []) (lp 0 (body Tryz.f21) 0) Ky:=lk (bf _ _ _) Ul (n:=0) [] trivial (by kernel_rfl) fun k x=>by kernel_rfl
noncomputable def SK:List (bV×ij):=((21,[]),⟨true,[o5],[o13],u1 qx⟩)::SJ
theorem UQ:tT Tryz.prog SK:=fk (bf 23 [] []) Ul [(0,Ky)] ⟨Ms,trivial⟩ Tryz.func21 (by kernel_rfl) fun x=>by kernel_rfl
noncomputable def SL:List (bV×ij):=((43,[]),⟨true,[a1],[.agg [v19,v19,v22,v1,v1,v6,v6,v6,v1,v1,v23]],VF Jf⟩)::SK
theorem Um:tT Tryz.prog SL:=fk (bf 27 [] []) UQ [] trivial Tryz.func43 (by kernel_rfl) fun x=>by kernel_rfl
noncomputable def Lc:eB:=⟨[(0,o6)],[(3,o14),(4,o1)],[(.exit 0,[(3,o14)])],Jz⟩
theorem MN:nj Tryz.prog (env 23 [] [7]) (lp 0 (body Tryz.f18) 0) Lc:=lk (bf _ _ _) Um (n:=0) [] trivial (by kernel_rfl) fun k x=>by kernel_rfl
noncomputable def SM:List (bV×ij):=((18,[]),⟨true,[o6],[o14],u1 JP⟩)::SL
theorem UR:tT Tryz.prog SM:=fk (bf 23 [] [7]) Um [(0,Lc)] ⟨MN,trivial⟩ Tryz.func18 (by kernel_rfl) fun x=>by kernel_rfl
noncomputable def SN:List (bV×ij):=((78,[]),⟨true,[a7],[a7],u5 Nd⟩)::SM
theorem US:tT Tryz.prog SN:=fk (bf 20 [] []) UR [] trivial Tryz.func78 (by kernel_rfl) fun x=>by kernel_rfl
noncomputable def SO:List (bV×ij):=((44,[]),⟨true,[a8],[a8],VH K3⟩)::SN
theorem Un:tT Tryz.prog SO:=fk (bf 33 [] []) US [] trivial Tryz.func44 (by kernel_rfl) fun x=>by kernel_rfl
noncomputable def J4:eB:=⟨[(0,o7)],[(3,o15),(4,o1)],[(.exit 0,[(3,o15)])],kW⟩
theorem Md:nj Tryz.prog (env 23 [] []) (lp 0 (body Tryz.f19) 0) J4:=lk (bf _ _ _) Un (n:=0) [] trivial (by kernel_rfl) fun k x=>by kernel_rfl
noncomputable def SP:List (bV×ij):=((19,[]),⟨true,[o7],[o15],u1 Bd⟩)::SO
theorem UT:tT Tryz.prog SP:=fk (bf 23 [] []) Un [(0,J4)] ⟨Md,trivial⟩ Tryz.func19 (by kernel_rfl) fun x=>by kernel_rfl
noncomputable def SQ:List (bV×ij):=((45,[]),⟨true,[a9],[a9],u7 Lr⟩)::SP
theorem Uo:tT Tryz.prog SQ:=fk (bf 26 [] []) UT [] trivial Tryz.func45 (by kernel_rfl) fun x=>by kernel_rfl
noncomputable def Kz:eB:=⟨[(0,o8)],[(3,o16),(4,o1)],[(.exit 0,[(3,o16)])],mS⟩
theorem Mt:nj Tryz.prog (env 23 [] []) (lp 0 (body Tryz.f20) 0) Kz:=lk (bf _ _ _) Uo (n:=0) [] trivial (by kernel_rfl) fun k x=>by kernel_rfl
noncomputable def SR:List (bV×ij):=((20,[]),⟨true,[o8],[o16],u1 I8⟩)::SQ
theorem UU:tT Tryz.prog SR:=fk (bf 23 [] []) Uo [(0,Kz)] ⟨Mt,trivial⟩ Tryz.func20 (by kernel_rfl) fun x=>by kernel_rfl
noncomputable def SS:List (bV×ij):=((6,[]),⟨true,[a2],[.agg [v1,v1,v1,v1,v1,v1,v1,v1,v1,v1,v1,v24,v25,v26,v23]],QS At⟩)::SR
theorem UW:tT Tryz.prog SS:=fk (bf 34 [] []) UU [] trivial Tryz.func6 (by kernel_rfl) fun x=>by kernel_rfl
noncomputable def SU:List (bV×ij):=((14,[]),⟨true,[o1,o1,o1],[o17],u3 bt⟩)::SS
theorem UX:tT Tryz.prog SU:=fk (bf 15 [] []) UW [] trivial Tryz.func14 (by kernel_rfl) fun x=>by kernel_rfl
noncomputable def SV:List (bV×ij):=((32,[]),⟨true,[a3],[o17],u8 JR⟩)::SU
theorem UY:tT Tryz.prog SV:=fk (bf 41 [] []) UX [] trivial Tryz.func32 (by kernel_rfl) fun x=>by kernel_rfl
noncomputable def SW:List (bV×ij):=((33,[]),⟨true,[o1],[o17],u1 hM⟩)::SV
theorem UZ:tT Tryz.prog SW:=fk (bf 5 [] []) UY [] trivial Tryz.func33 (by kernel_rfl) fun x=>by kernel_rfl
noncomputable def SX:List (bV×ij):=((70,[]),⟨true,[o1],[o17],u1 gA⟩)::SW
theorem U0:tT Tryz.prog SX:=fk (bf 5 [] []) UZ [] trivial Tryz.func70 (by kernel_rfl) fun x=>by kernel_rfl
noncomputable def SY:List (bV×ij):=((101,[]),⟨true,[o1],[o17],u1 JT⟩)::SX
theorem U1:tT Tryz.prog SY:=fk (bf 5 [] []) U0 [] trivial Tryz.func101 (by kernel_rfl) fun x=>by kernel_rfl
noncomputable def SZ:List (bV×ij):=((66,[]),⟨true,[a9],[o17],u7 Cp⟩)::SY
theorem Up:tT Tryz.prog SZ:=fk (bf 45 [] []) U1 [] trivial Tryz.func66 (by kernel_rfl) fun x=>by kernel_rfl
noncomputable def KC:eB:=⟨[(0,o18)],[(3,o1)],[(.ret,[(2,o17)]),(.exit 0,[])],IY⟩
theorem Mw:nj Tryz.prog (env 19 [] []) (lp 0 (body Tryz.f34) 0) KC:=lk (bf _ _ _) Up (n:=0) [] trivial (by kernel_rfl) fun k x=>by kernel_rfl
noncomputable def S0:List (bV×ij):=((34,[]),⟨true,[o18],[o17],u1 Ja⟩)::SZ
theorem U2:tT Tryz.prog S0:=fk (bf 19 [] []) Up [(0,KC)] ⟨Mw,trivial⟩ Tryz.func34 (by kernel_rfl) fun x=>by kernel_rfl
noncomputable def S1:List (bV×ij):=((67,[]),⟨true,[a6],[o17],u7 JQ⟩)::S0
theorem Uq:tT Tryz.prog S1:=fk (bf 36 [] []) U2 [] trivial Tryz.func67 (by kernel_rfl) fun x=>by kernel_rfl
noncomputable def J6:eB:=⟨[(0,o19)],[(3,o1)],[(.ret,[(2,o17)]),(.exit 0,[])],D3⟩
theorem Mf:nj Tryz.prog (env 73 [] []) (lp 0 (body Tryz.f35) 0) J6:=lk (bf _ _ _) Uq (n:=0) [] trivial (by kernel_rfl) fun k x=>by kernel_rfl
noncomputable def S2:List (bV×ij):=((35,[]),⟨true,[o19],[o17],u1 jj⟩)::S1
theorem Ur:tT Tryz.prog S2:=fk (bf 73 [] []) Uq [(0,J6)] ⟨Mf,trivial⟩ Tryz.func35 (by kernel_rfl) fun x=>by kernel_rfl
noncomputable def Le:eB:=⟨[(0,o20),(1,o1)],[(5,o1)],[(.ret,[(4,o17)]),(.exit 0,[])],JB⟩
theorem MP:nj Tryz.prog (env 51 [] []) (lp 0 (body Tryz.f102) 0) Le:=lk (bf _ _ _) Ur (n:=0) [] trivial (by kernel_rfl) fun k x=>by kernel_rfl
noncomputable def S3:List (bV×ij):=((102,[]),⟨true,[o20,o1],[o17],u2 IB⟩)::S2
theorem U3:tT Tryz.prog S3:=fk (bf 51 [] []) Ur [(0,Le)] ⟨MP,trivial⟩ Tryz.func102 (by kernel_rfl) fun x=>by kernel_rfl
noncomputable def S4:List (bV×ij):=((68,[]),⟨true,[a10],[o17],u2 Jh⟩)::S3
theorem Sd:tT Tryz.prog S4:=fk (bf 11 [] []) U3 [] trivial Tryz.func68 (by kernel_rfl) fun x=>by kernel_rfl
noncomputable def KE:eB:=⟨[(1,.ro t21),(3,o1),(4,o1)],[(5,a11),(6,o1)],[(.ret,[(2,o17)]),(.exit 2,[(5,a11)])],nl⟩
theorem My:nj Tryz.prog (env 70 [] []) (lp 0 (lp 0 (body Tryz.f104) 0) 0) KE:=lk (bf _ _ _) Sd (n:=2) [] trivial (by kernel_rfl) fun k x=>by kernel_rfl
noncomputable def KD:eB:=⟨[(1,.ro t21)],[(3,o1),(4,o1)],[(.ret,[(2,o17)]),(.exit 0,[(3,o1)])],I1⟩
theorem Mx:nj Tryz.prog (env 70 [] []) (lp 0 (body Tryz.f104) 0) KD:=lk (bf _ _ _) Sd (n:=0) [(2,KE)] ⟨My,trivial⟩ (by kernel_rfl) fun k x=>by kernel_rfl
noncomputable def S5:List (bV×ij):=((104,[]),⟨true,[a12],[o17],u3 Jb⟩)::S4
theorem Se:tT Tryz.prog S5:=fk (bf 70 [] []) Sd [(0,KD)] ⟨Mx,trivial⟩ Tryz.func104 (by kernel_rfl) fun x=>by kernel_rfl
noncomputable def KB:eB:=⟨[(1,.ro t21),(3,o1)],[(4,o17),(5,o1)],[(.exit 2,[(4,o17)])],IW⟩
theorem Mv:nj Tryz.prog (env 74 [] []) (lp 0 (lp 0 (body Tryz.f74) 0) 0) KB:=lk (bf _ _ _) Se (n:=2) [] trivial (by kernel_rfl) fun k x=>by kernel_rfl
noncomputable def KA:eB:=⟨[(1,.ro t21)],[(3,o1)],[(.ret,[(2,o17)]),(.exit 0,[])],IV⟩
theorem Mu:nj Tryz.prog (env 74 [] []) (lp 0 (body Tryz.f74) 0) KA:=lk (bf _ _ _) Se (n:=0) [(2,KB)] ⟨Mv,trivial⟩ (by kernel_rfl) fun k x=>by kernel_rfl
noncomputable def S6:List (bV×ij):=((74,[]),⟨true,[a12],[o17],u3 qS⟩)::S5
theorem Us:tT Tryz.prog S6:=fk (bf 74 [] []) Se [(0,KA)] ⟨Mu,trivial⟩ Tryz.func74 (by kernel_rfl) fun x=>by kernel_rfl
noncomputable def LI:eB:=⟨[(1,o1),(2,.ro t21)],[(5,o1)],[(.ret,[(4,o1)]),(.exit 0,[])],IC⟩
theorem M4:nj Tryz.prog (env 26 [] []) (lp 0 (body Tryz.f42) 0) LI:=lk (bf _ _ _) Us (n:=0) [] trivial (by kernel_rfl) fun k x=>by kernel_rfl
noncomputable def S7:List (bV×ij):=((42,[]),⟨true,[a12,o1],[o1],u4 j0⟩)::S6
theorem h46:tT Tryz.prog S7:=fk (bf 26 [] []) Us [(0,LI)] ⟨M4,trivial⟩ Tryz.func42 (by kernel_rfl) fun x=>by kernel_rfl
noncomputable def LH:eB:=⟨[(0,o21),(3,o1),(4,o1)],[(5,o1)],[(.ret,[(2,o17)]),(.exit 4,[])],Ko⟩
theorem M3:nj Tryz.prog (env 52 [] []) (lp 2 (lp 0 (lp 0 (body Tryz.f41) 0) 0) 0) LH:=lk (bf _ _ _) h46 (n:=4) [] trivial (by kernel_rfl) fun k x=>by kernel_rfl
noncomputable def LG:eB:=⟨[(0,o21),(3,o1)],[(4,o1)],[(.ret,[(2,o17)]),(.exit 2,[])],Kn⟩
theorem M2:nj Tryz.prog (env 52 [] []) (lp 0 (lp 0 (body Tryz.f41) 0) 0) LG:=lk (bf _ _ _) h46 (n:=2) [(4,LH)] ⟨M3,trivial⟩ (by kernel_rfl) fun k x=>by kernel_rfl
noncomputable def LF:eB:=⟨[(0,o21)],[(3,o1)],[(.ret,[(2,o17)]),(.exit 0,[])],Km⟩
theorem M1:nj Tryz.prog (env 52 [] []) (lp 0 (body Tryz.f41) 0) LF:=lk (bf _ _ _) h46 (n:=0) [(2,LG)] ⟨M2,trivial⟩ (by kernel_rfl) fun k x=>by kernel_rfl
noncomputable def S8:List (bV×ij):=((41,[]),⟨true,[o21],[o17],u1 tv⟩)::S7
theorem U4:tT Tryz.prog S8:=fk (bf 52 [] []) h46 [(0,LF)] ⟨M1,trivial⟩ Tryz.func41 (by kernel_rfl) fun x=>by kernel_rfl
noncomputable def S9:List (bV×ij):=((103,[]),⟨true,[a5],[o17],u5 L1⟩)::S8
theorem h48:tT Tryz.prog S9:=fk (bf 9 [] []) U4 [] trivial Tryz.func103 (by kernel_rfl) fun x=>by kernel_rfl
noncomputable def Ta:List (bV×ij):=((69,[]),⟨true,[a5],[o17],u5 tB⟩)::S9
theorem U5:tT Tryz.prog Ta:=fk (bf 88 [] []) h48 [] trivial Tryz.func69 (by kernel_rfl) fun x=>by kernel_rfl
noncomputable def Tb:List (bV×ij):=((36,[]),⟨true,[a13,o1],[o17],u16 ID⟩)::Ta
theorem U6:tT Tryz.prog Tb:=fk (bf 95 [] []) U5 [] trivial Tryz.func36 (by kernel_rfl) fun x=>by kernel_rfl
noncomputable def Tc:List (bV×ij):=((71,[]),⟨true,[a13,o1],[o17],u16 jn⟩)::Tb
theorem U7:tT Tryz.prog Tc:=fk (bf 35 [] []) U6 [] trivial Tryz.func71 (by kernel_rfl) fun x=>by kernel_rfl
noncomputable def Td:List (bV×ij):=((72,[]),⟨true,[a7],[o17],u5 K0⟩)::Tc
theorem U8:tT Tryz.prog Td:=fk (bf 26 [] []) U7 [] trivial Tryz.func72 (by kernel_rfl) fun x=>by kernel_rfl
noncomputable def Te:List (bV×ij):=((73,[]),⟨true,[a13,o1],[o1],u16 qW⟩)::Td
theorem U9:tT Tryz.prog Te:=fk (bf 21 [] []) U8 [] trivial Tryz.func73 (by kernel_rfl) fun x=>by kernel_rfl
noncomputable def Tf:List (bV×ij):=((37,[]),⟨true,[a13,o1],[o17],u16 nn⟩)::Te
theorem RB:tT Tryz.prog Tf:=fk (bf 142 [] []) U9 [] trivial Tryz.func37 (by kernel_rfl) fun x=>by kernel_rfl
noncomputable def JF:eB:=⟨[(1,.ro t27),(4,o1),(5,o1),(6,o22)],[(3,o1),(7,o1)],[(.ret,[(2,o17)]),(.exit 4,[(3,o1)])],tt⟩
theorem LX:nj Tryz.prog (env 126 [] []) (lp 2 (lp 0 (lp 0 (body Tryz.f38) 0) 0) 0) JF:=lk (bf _ _ _) RB (n:=4) [] trivial (by kernel_rfl) fun k x=>by kernel_rfl
noncomputable def JE:eB:=⟨[(1,.ro t27),(4,o1)],[(3,o1),(5,o1)],[(.ret,[(2,o17)]),(.exit 2,[(3,o1)])],s4⟩
theorem LW:nj Tryz.prog (env 126 [] []) (lp 0 (lp 0 (body Tryz.f38) 0) 0) JE:=lk (bf _ _ _) RB (n:=2) [(4,JF)] ⟨LX,trivial⟩ (by kernel_rfl) fun k x=>by kernel_rfl
noncomputable def JD:eB:=⟨[(1,.ro t27)],[(3,o1),(4,o1)],[(.ret,[(2,o17)]),(.exit 0,[(3,o1)])],Kp⟩
theorem LV:nj Tryz.prog (env 126 [] []) (lp 0 (body Tryz.f38) 0) JD:=lk (bf _ _ _) RB (n:=0) [(2,JE)] ⟨LW,trivial⟩ (by kernel_rfl) fun k x=>by kernel_rfl
noncomputable def JG:eB:=⟨[(1,.ro t27)],[(3,o1),(10,o1)],[(.exit 6,[(3,o1)])],Kq⟩
theorem LY:nj Tryz.prog (env 126 [] []) (lp 0 (body Tryz.f38) 1) JG:=lk (bf _ _ _) RB (n:=6) [] trivial (by kernel_rfl) fun k x=>by kernel_rfl
noncomputable def Tg:List (bV×ij):=((38,[]),⟨true,[a13],[o17],QS r6⟩)::Tf
theorem Ut:tT Tryz.prog Tg:=fk (bf 126 [] []) RB [(0,JD),(6,JG)] ⟨LV,LY,trivial⟩ Tryz.func38 (by kernel_rfl) fun x=>by kernel_rfl
noncomputable def Lf:eB:=⟨[(1,.ro t27)],[(3,o1),(4,o1)],[(.exit 0,[(3,o1)])],LO⟩
theorem MQ:nj Tryz.prog (env 33 [] []) (lp 0 (body Tryz.f39) 0) Lf:=lk (bf _ _ _) Ut (n:=0) [] trivial (by kernel_rfl) fun k x=>by kernel_rfl
noncomputable def Th:List (bV×ij):=((39,[]),⟨true,[a13],[o1],QS JU⟩)::Tg
theorem Sf:tT Tryz.prog Th:=fk (bf 33 [] []) Ut [(0,Lf)] ⟨MQ,trivial⟩ Tryz.func39 (by kernel_rfl) fun x=>by kernel_rfl
noncomputable def J7:eB:=⟨[(1,.ro t27)],[(3,o1)],[(.ret,[(2,o17)]),(.exit 0,[])],K1⟩
theorem Mg:nj Tryz.prog (env 83 [] []) (lp 0 (body Tryz.f13) 0) J7:=lk (bf _ _ _) Sf (n:=0) [] trivial (by kernel_rfl) fun k x=>by kernel_rfl
noncomputable def J8:eB:=⟨[(1,.ro t27)],[(4,o1)],[(.ret,[(2,o17)]),(.exit 2,[])],K2⟩
theorem Mh:nj Tryz.prog (env 83 [] []) (lp 0 (body Tryz.f13) 1) J8:=lk (bf _ _ _) Sf (n:=2) [] trivial (by kernel_rfl) fun k x=>by kernel_rfl
noncomputable def Ti:List (bV×ij):=((13,[]),⟨true,[a13],[o17],QS Ex⟩)::Th
theorem Va:tT Tryz.prog Ti:=fk (bf 83 [] []) Sf [(0,J7),(2,J8)] ⟨Mg,Mh,trivial⟩ Tryz.func13 (by kernel_rfl) fun x=>by kernel_rfl
noncomputable def Tj:List (bV×ij):=((40,[]),⟨true,[o1],[o23],u1 lf⟩)::Ti
theorem Uu:tT Tryz.prog Tj:=fk (bf 12 [] []) Va [] trivial Tryz.func40 (by kernel_rfl) fun x=>by kernel_rfl
noncomputable def J5:eB:=⟨[(3,o17)],[(0,o1),(4,o24)],[(.exit 0,[(4,o24)])],k3⟩
theorem Me:nj Tryz.prog (env 30 [] []) (lp 0 (body Tryz.f15) 0) J5:=lk (bf _ _ _) Uu (n:=0) [] trivial (by kernel_rfl) fun k x=>by kernel_rfl
noncomputable def Tk:List (bV×ij):=((15,[]),⟨true,[o1],[o24],u1 ev⟩)::Tj
theorem Uv:tT Tryz.prog Tk:=fk (bf 30 [] []) Uu [(0,J5)] ⟨Me,trivial⟩ Tryz.func15 (by kernel_rfl) fun x=>by kernel_rfl
noncomputable def LP:eB:=⟨[(0,o21),(1,o1)],[(6,o1)],[(.ret,[(4,o1),(5,o1)]),(.exit 0,[])],I9⟩
theorem Ni:nj Tryz.prog (env 36 [] []) (lp 0 (body Tryz.f16) 0) LP:=lk (bf _ _ _) Uv (n:=0) [] trivial (by kernel_rfl) fun k x=>by kernel_rfl
noncomputable def Tl:List (bV×ij):=((16,[]),⟨true,[o21,o1],[o1,o1],u2 Lw⟩)::Tk
theorem Uw:tT Tryz.prog Tl:=fk (bf 36 [] []) Uv [(0,LP)] ⟨Ni,trivial⟩ Tryz.func16 (by kernel_rfl) fun x=>by kernel_rfl
noncomputable def Tm:List (bV×ij):=((5,[]),⟨true,[a13,o1],[o24],u16 JS⟩)::Tl
theorem Vb:tT Tryz.prog Tm:=fk (bf 69 [] []) Uw [] trivial Tryz.func5 (by kernel_rfl) fun x=>by kernel_rfl
noncomputable def Tn:List (bV×ij):=((23,[]),⟨true,[o1,o1,o1],[o17],u3 br⟩)::Tm
theorem Vc:tT Tryz.prog Tn:=fk (bf 15 [] []) Vb [] trivial Tryz.func23 (by kernel_rfl) fun x=>by kernel_rfl
noncomputable def To:List (bV×ij):=((47,[]),⟨true,[a3],[o17],u8 JI⟩)::Tn
theorem h63:tT Tryz.prog To:=fk (bf 41 [] []) Vc [] trivial Tryz.func47 (by kernel_rfl) fun x=>by kernel_rfl
noncomputable def Tp:List (bV×ij):=((48,[]),⟨true,[o1],[o17],u1 ik⟩)::To
theorem Hp:tT Tryz.prog Tp:=fk (bf 5 [] []) h63 [] trivial Tryz.func48 (by kernel_rfl) fun x=>by kernel_rfl
noncomputable def Tq:List (bV×ij):=((49,[]),⟨true,[o1],[o17],u1 ia⟩)::Tp
theorem Vd:tT Tryz.prog Tq:=fk (bf 5 [] []) Hp [] trivial Tryz.func49 (by kernel_rfl) fun x=>by kernel_rfl
noncomputable def Tr:List (bV×ij):=((85,[]),⟨true,[o1],[o17],u1 gb⟩)::Tq
theorem Ve:tT Tryz.prog Tr:=fk (bf 5 [] []) Vd [] trivial Tryz.func85 (by kernel_rfl) fun x=>by kernel_rfl
noncomputable def Ts:List (bV×ij):=((81,[]),⟨true,[a9],[o17],u7 l5⟩)::Tr
theorem Vf:tT Tryz.prog Ts:=fk (bf 45 [] []) Ve [] trivial Tryz.func81 (by kernel_rfl) fun x=>by kernel_rfl
noncomputable def Tt:List (bV×ij):=((80,[]),⟨true,[a9],[o17],u7 Jk⟩)::Ts
theorem Ux:tT Tryz.prog Tt:=fk (bf 6 [] []) Vf [] trivial Tryz.func80 (by kernel_rfl) fun x=>by kernel_rfl
noncomputable def ei:eB:=⟨[(0,o18),(1,.fn 80 []),(7,o1)],[(8,o1)],[(.ret,[(4,o1)]),(.exit 0,[])],cv⟩
theorem ga:nj Tryz.prog (env 19 [] []) (lp 0 (body Tryz.f107) 0) ei:=lk (bf _ _ _) Ux (n:=0) [] trivial (by kernel_rfl) fun k x=>by kernel_rfl
noncomputable def Tu:List (bV×ij):=((107,[80]),⟨true,[o18,.fn 80 []],[o1],u1 cy⟩)::Tt
theorem Vg:tT Tryz.prog Tu:=fk (bf 19 [] []) Ux [(0,ei)] ⟨ga,trivial⟩ Tryz.func107 (by kernel_rfl) fun x=>by kernel_rfl
noncomputable def Tv:List (bV×ij):=((79,[80]),⟨true,[o18,.fn 80 []],[o17],u1 cn⟩)::Tu
theorem Vh:tT Tryz.prog Tv:=fk (bf 9 [] []) Vg [] trivial Tryz.func79 (by kernel_rfl) fun x=>by kernel_rfl
noncomputable def Tw:List (bV×ij):=((50,[]),⟨true,[o18],[o17],u1 I2⟩)::Tv
theorem Vi:tT Tryz.prog Tw:=fk (bf 11 [] []) Vh [] trivial Tryz.func50 (by kernel_rfl) fun x=>by kernel_rfl
noncomputable def Tx:List (bV×ij):=((82,[]),⟨true,[a6],[o17],u7 JH⟩)::Tw
theorem Uy:tT Tryz.prog Tx:=fk (bf 36 [] []) Vi [] trivial Tryz.func82 (by kernel_rfl) fun x=>by kernel_rfl
noncomputable def JX:eB:=⟨[(0,o19),(9,o19),(10,o1)],[(11,o1)],[(.ret,[(2,o17)]),(.exit 0,[])],vm⟩
theorem L6:nj Tryz.prog (env 53 [] []) (lp 0 (body Tryz.f51) 0) JX:=lk (bf _ _ _) Uy (n:=0) [] trivial (by kernel_rfl) fun k x=>by kernel_rfl
noncomputable def Ty:List (bV×ij):=((51,[]),⟨true,[o19],[o17],u1 iL⟩)::Tx
theorem Uz:tT Tryz.prog Ty:=fk (bf 53 [] []) Uy [(0,JX)] ⟨L6,trivial⟩ Tryz.func51 (by kernel_rfl) fun x=>by kernel_rfl
noncomputable def K4:eB:=⟨[(0,o20),(1,o1),(10,o20),(11,o1)],[(12,o1)],[(.ret,[(4,o17)]),(.exit 0,[])],Jm⟩
theorem MF:nj Tryz.prog (env 49 [] []) (lp 0 (body Tryz.f108) 0) K4:=lk (bf _ _ _) Uz (n:=0) [] trivial (by kernel_rfl) fun k x=>by kernel_rfl
noncomputable def Tz:List (bV×ij):=((108,[]),⟨true,[o20,o1],[o17],u2 vw⟩)::Ty
theorem Vj:tT Tryz.prog Tz:=fk (bf 49 [] []) Uz [(0,K4)] ⟨MF,trivial⟩ Tryz.func108 (by kernel_rfl) fun x=>by kernel_rfl
noncomputable def TA:List (bV×ij):=((83,[]),⟨true,[a10],[o17],u2 Jd⟩)::Tz
theorem RS:tT Tryz.prog TA:=fk (bf 11 [] []) Vj [] trivial Tryz.func83 (by kernel_rfl) fun x=>by kernel_rfl
noncomputable def Kt:eB:=⟨[(1,.ro t21),(23,o2),(24,o1)],[(25,o1)],[(.ret,[(2,o17)]),(.exit 0,[])],IG⟩
theorem Mn:nj Tryz.prog (env 118 [] []) (lp 0 (body Tryz.f92) 0) Kt:=lk (bf _ _ _) RS (n:=0) [] trivial (by kernel_rfl) fun k x=>by kernel_rfl
noncomputable def Ku:eB:=⟨[(1,.ro t21),(54,o22),(55,o1)],[(5,o1),(6,.one (.mp .i64)),(7,.one (.mp .i64)),(56,o1)],[(.ret,[(2,o17)]),(.exit 2,[(5,o1),(6,.one (.mp .i64))])],II⟩
theorem Mo:nj Tryz.prog (env 118 [] []) (lp 0 (body Tryz.f92) 1) Ku:=lk (bf _ _ _) RS (n:=2) [] trivial (by kernel_rfl) fun k x=>by kernel_rfl
noncomputable def Kv:eB:=⟨[(1,.ro t21),(5,o1),(103,o2),(104,o1)],[(6,.one (.mp .i64)),(105,o1)],[(.ret,[(2,o17)]),(.exit 4,[])],IJ⟩
theorem Mp:nj Tryz.prog (env 118 [] []) (lp 0 (body Tryz.f92) 2) Kv:=lk (bf _ _ _) RS (n:=4) [] trivial (by kernel_rfl) fun k x=>by kernel_rfl
noncomputable def TB:List (bV×ij):=((92,[]),⟨true,[a12],[o17],u3 n4⟩)::TA
theorem Sg:tT Tryz.prog TB:=fk (bf 118 [] []) RS [(0,Kt),(2,Ku),(4,Kv)] ⟨Mn,Mo,Mp,trivial⟩ Tryz.func92 (by kernel_rfl) fun x=>by kernel_rfl
noncomputable def Ly:eB:=⟨[(13,o21),(14,o1),(15,o1),(23,o22),(24,o1)],[(3,.one (.mp .i64)),(25,o1)],[(.ret,[(2,o17)]),(.exit 2,[(3,.one (.mp .i64))])],Kb⟩
theorem MV:nj Tryz.prog (env 43 [] []) (lp 0 (lp 0 (body Tryz.f58) 0) 0) Ly:=lk (bf _ _ _) Sg (n:=2) [] trivial (by kernel_rfl) fun k x=>by kernel_rfl
noncomputable def Lx:eB:=⟨[(13,o21),(14,o1)],[(3,.one (.mp .i64)),(15,o1)],[(.ret,[(2,o17)]),(.exit 0,[])],Ka⟩
theorem MU:nj Tryz.prog (env 43 [] []) (lp 0 (body Tryz.f58) 0) Lx:=lk (bf _ _ _) Sg (n:=0) [(2,Ly)] ⟨MV,trivial⟩ (by kernel_rfl) fun k x=>by kernel_rfl
noncomputable def TC:List (bV×ij):=((58,[]),⟨true,[o21],[o17],u1 k4⟩)::TB
theorem Vk:tT Tryz.prog TC:=fk (bf 43 [] []) Sg [(0,Lx)] ⟨MU,trivial⟩ Tryz.func58 (by kernel_rfl) fun x=>by kernel_rfl
noncomputable def TD:List (bV×ij):=((109,[]),⟨true,[a5],[o17],u5 Nc⟩)::TC
theorem Vl:tT Tryz.prog TD:=fk (bf 9 [] []) Vk [] trivial Tryz.func109 (by kernel_rfl) fun x=>by kernel_rfl
noncomputable def TE:List (bV×ij):=((84,[]),⟨true,[a5],[o17],u5 k5⟩)::TD
theorem Vm:tT Tryz.prog TE:=fk (bf 90 [] []) Vl [] trivial Tryz.func84 (by kernel_rfl) fun x=>by kernel_rfl
noncomputable def TF:List (bV×ij):=((52,[]),⟨true,[a13,o1],[o17],u16 KL⟩)::TE
theorem Vn:tT Tryz.prog TF:=fk (bf 89 [] []) Vm [] trivial Tryz.func52 (by kernel_rfl) fun x=>by kernel_rfl
noncomputable def TG:List (bV×ij):=((86,[]),⟨true,[a13,a8],[o17],VK kn⟩)::TF
theorem Vo:tT Tryz.prog TG:=fk (bf 29 [] []) Vn [] trivial Tryz.func86 (by kernel_rfl) fun x=>by kernel_rfl
noncomputable def TH:List (bV×ij):=((87,[]),⟨true,[a7],[o17],u5 KH⟩)::TG
theorem Vp:tT Tryz.prog TH:=fk (bf 26 [] []) Vo [] trivial Tryz.func87 (by kernel_rfl) fun x=>by kernel_rfl
noncomputable def TJ:List (bV×ij):=((88,[]),⟨true,[a13,o1],[o1],u16 n5⟩)::TH
theorem Vq:tT Tryz.prog TJ:=fk (bf 21 [] []) Vp [] trivial Tryz.func88 (by kernel_rfl) fun x=>by kernel_rfl
noncomputable def TK:List (bV×ij):=((53,[]),⟨true,[a13,o1],[o17],u16 I4⟩)::TJ
theorem RC:tT Tryz.prog TK:=fk (bf 140 [] []) Vq [] trivial Tryz.func53 (by kernel_rfl) fun x=>by kernel_rfl
noncomputable def K7:eB:=⟨[(1,.ro t27),(4,o1),(14,o25),(15,o1),(16,o1),(22,o21),(23,o1),(24,o1),(29,o22),(30,o1)],[(3,o1),(31,o1)],[(.ret,[(2,o17)]),(.exit 4,[(3,o1)])],Js⟩
theorem MI:nj Tryz.prog (env 107 [] []) (lp 2 (lp 0 (lp 0 (body Tryz.f54) 0) 0) 0) K7:=lk (bf _ _ _) RC (n:=4) [] trivial (by kernel_rfl) fun k x=>by kernel_rfl
noncomputable def K6:eB:=⟨[(1,.ro t27),(4,o1),(14,o25),(15,o1),(16,o1),(22,o21),(23,o1)],[(3,o1),(24,o1)],[(.ret,[(2,o17)]),(.exit 2,[(3,o1)])],Jr⟩
theorem MH:nj Tryz.prog (env 107 [] []) (lp 0 (lp 0 (body Tryz.f54) 0) 0) K6:=lk (bf _ _ _) RC (n:=2) [(4,K7)] ⟨MI,trivial⟩ (by kernel_rfl) fun k x=>by kernel_rfl
noncomputable def K5:eB:=⟨[(1,.ro t27),(14,o25),(15,o1)],[(3,o1),(16,o1)],[(.ret,[(2,o17)]),(.exit 0,[(3,o1)])],LM⟩
theorem MG:nj Tryz.prog (env 107 [] []) (lp 0 (body Tryz.f54) 0) K5:=lk (bf _ _ _) RC (n:=0) [(2,K6)] ⟨MH,trivial⟩ (by kernel_rfl) fun k x=>by kernel_rfl
noncomputable def K8:eB:=⟨[(88,o26),(89,o1)],[(3,o1),(90,o1)],[(.exit 6,[(3,o1)])],LN⟩
theorem MJ:nj Tryz.prog (env 107 [] []) (lp 0 (body Tryz.f54) 1) K8:=lk (bf _ _ _) RC (n:=6) [] trivial (by kernel_rfl) fun k x=>by kernel_rfl
noncomputable def TL:List (bV×ij):=((54,[]),⟨true,[a13],[o17],QS JK⟩)::TK
theorem UA:tT Tryz.prog TL:=fk (bf 107 [] []) RC [(0,K5),(6,K8)] ⟨MG,MJ,trivial⟩ Tryz.func54 (by kernel_rfl) fun x=>by kernel_rfl
noncomputable def Lz:eB:=⟨[(1,.ro t27),(7,o26),(8,o1)],[(3,o1),(9,o1)],[(.exit 0,[(3,o1)])],LR⟩
theorem MW:nj Tryz.prog (env 27 [] []) (lp 0 (body Tryz.f55) 0) Lz:=lk (bf _ _ _) UA (n:=0) [] trivial (by kernel_rfl) fun k x=>by kernel_rfl
noncomputable def TM:List (bV×ij):=((55,[]),⟨true,[a13],[o1],QS KK⟩)::TL
theorem Si:tT Tryz.prog TM:=fk (bf 27 [] []) UA [(0,Lz)] ⟨MW,trivial⟩ Tryz.func55 (by kernel_rfl) fun x=>by kernel_rfl
noncomputable def JY:eB:=⟨[(1,.ro t27),(54,o1)],[(55,o1)],[(.ret,[(2,o17)]),(.exit 0,[])],KI⟩
theorem L7:nj Tryz.prog (env 83 [] []) (lp 0 (body Tryz.f22) 0) JY:=lk (bf _ _ _) Si (n:=0) [] trivial (by kernel_rfl) fun k x=>by kernel_rfl
noncomputable def JZ:eB:=⟨[(1,.ro t27),(65,o1)],[(66,o1)],[(.ret,[(2,o17)]),(.exit 2,[])],KJ⟩
theorem L8:nj Tryz.prog (env 83 [] []) (lp 0 (body Tryz.f22) 1) JZ:=lk (bf _ _ _) Si (n:=2) [] trivial (by kernel_rfl) fun k x=>by kernel_rfl
noncomputable def TN:List (bV×ij):=((22,[]),⟨true,[a13],[o17],QS vn⟩)::TM
theorem Vr:tT Tryz.prog TN:=fk (bf 83 [] []) Si [(0,JY),(2,JZ)] ⟨L7,L8,trivial⟩ Tryz.func22 (by kernel_rfl) fun x=>by kernel_rfl
theorem PN:Tryz.prog.globalNamed "internal/strconv.uint64pow10" = some 0:=by kernel_rfl
theorem gT:(Tryz.prog.globals[0]?).map (·.type) = some 171:=by kernel_rfl
theorem uT:Tryz.prog.underlying 171=some (.array 20 159):=by kernel_rfl
theorem uE:Tryz.prog.underlying 159=some (.int .u64):=by kernel_rfl
theorem cE:Tryz.prog.cellsOf 159=1:=by kernel_rfl
theorem cT:Tryz.prog.cellsOf 171=20:=by kernel_rfl
noncomputable def TO:List (bV×ij):=((56,[]),CS)::TN
theorem Vs:tT Tryz.prog TO:=⟨Fm Go.Proofs.Tryz.lays171 PN (by unfold Co wK;exact .head _),Vr⟩
noncomputable def TP:List (bV×ij):=((24,[]),⟨true,[o1],[o24],u1 er⟩)::TO
theorem Vt:tT Tryz.prog TP:=fk (bf 5 [] []) Vs [] trivial Tryz.func24 (by kernel_rfl) fun x=>by kernel_rfl
noncomputable def TQ:List (bV×ij):=((94,[]),⟨true,[a4,.ro t0],[o17],u5 Lo⟩)::TP
theorem UB:tT Tryz.prog TQ:=fk (bf 8 [] []) Vt [] trivial Tryz.func94 (by kernel_rfl) fun x=>by kernel_rfl
noncomputable def ek:eB:=⟨[(0,o22),(1,.fn 94 [t0]),(7,o1)],[(8,o1)],[(.ret,[(4,o1)]),(.exit 0,[])],ea⟩
theorem gy:nj Tryz.prog (env 19 [] []) (lp 0 (body Tryz.f93) 0) ek:=lk (bf _ _ _) UB (n:=0) [] trivial (by kernel_rfl) fun k x=>by kernel_rfl
noncomputable def TR:List (bV×ij):=((93,[94]),⟨true,[o22,.fn 94 [t0]],[o1],u2 ec⟩)::TQ
theorem Vu:tT Tryz.prog TR:=fk (bf 19 [] []) UB [(0,ek)] ⟨gy,trivial⟩ Tryz.func93 (by kernel_rfl) fun x=>by kernel_rfl
noncomputable def TS:List (bV×ij):=((59,[]),⟨true,[a12,o1],[o1],u4 Kc⟩)::TR
theorem Vv:tT Tryz.prog TS:=fk (bf 9 [] []) Vu [] trivial Tryz.func59 (by kernel_rfl) fun x=>by kernel_rfl
noncomputable def TT:List (bV×ij):=((91,[]),⟨true,[a12,.ro t0],[o17],u4 Jt⟩)::TS
theorem UC:tT Tryz.prog TT:=fk (bf 8 [] []) Vv [] trivial Tryz.func91 (by kernel_rfl) fun x=>by kernel_rfl
noncomputable def eg:eB:=⟨[(0,o21),(1,.fn 91 [t0]),(7,o1)],[(8,o1)],[(.ret,[(4,o1)]),(.exit 0,[])],cc⟩
theorem e7:nj Tryz.prog (env 19 [] []) (lp 0 (body Tryz.f90) 0) eg:=lk (bf _ _ _) UC (n:=0) [] trivial (by kernel_rfl) fun k x=>by kernel_rfl
noncomputable def TU:List (bV×ij):=((90,[91]),⟨true,[o21,.fn 91 [t0]],[o1],u2 cx⟩)::TT
theorem Vw:tT Tryz.prog TU:=fk (bf 19 [] []) UC [(0,eg)] ⟨e7,trivial⟩ Tryz.func90 (by kernel_rfl) fun x=>by kernel_rfl
noncomputable def TV:List (bV×ij):=((57,[]),⟨true,[o21,o1],[o1],u2 I3⟩)::TU
theorem Vx:tT Tryz.prog TV:=fk (bf 8 [] []) Vw [] trivial Tryz.func57 (by kernel_rfl) fun x=>by kernel_rfl
noncomputable def TW:List (bV×ij):=((25,[]),⟨true,[o21,o1],[o1,o1],u2 Ln⟩)::TV
theorem Vy:tT Tryz.prog TW:=fk (bf 36 [] []) Vx [] trivial Tryz.func25 (by kernel_rfl) fun x=>by kernel_rfl
noncomputable def TX:List (bV×ij):=((7,[]),⟨true,[a13,o1],[o24],u16 JJ⟩)::TW
theorem Vz:tT Tryz.prog TX:=fk (bf 69 [] []) Vy [] trivial Tryz.func7 (by kernel_rfl) fun x=>by kernel_rfl
noncomputable def TY:List (bV×ij):=((26,[]),⟨true,[a3,a3],[o17],u16 JO⟩)::TX
theorem VA:tT Tryz.prog TY:=fk (bf 45 [] []) Vz [] trivial Tryz.func26 (by kernel_rfl) fun x=>by kernel_rfl
noncomputable def TZ:List (bV×ij):=((122,[]),⟨true,[.agg [v1,v1],.agg [v1,v1]],[o17],u4 KR⟩)::TY
theorem UD:tT Tryz.prog TZ:=fk (bf 15 [] []) VA [] trivial Tryz.func122 (by kernel_rfl) fun x=>by kernel_rfl
noncomputable def La:eB:=⟨[(0,o20),(1,o20)],[(5,o1)],[(.ret,[(4,o17)]),(.exit 0,[])],Jx⟩
theorem ML:nj Tryz.prog (env 27 [] []) (lp 0 (body Tryz.f111) 0) La:=lk (bf _ _ _) UD (n:=0) [] trivial (by kernel_rfl) fun k x=>by kernel_rfl
noncomputable def Q4:List (bV×ij):=((111,[]),⟨true,[o20,o20],[o17],u2 yt⟩)::TZ
theorem R1:tT Tryz.prog Q4:=fk (bf 27 [] []) UD [(0,La)] ⟨ML,trivial⟩ Tryz.func111 (by kernel_rfl) fun x=>by kernel_rfl
noncomputable def Q5:List (bV×ij):=((95,[]),⟨true,[a10,a10],[o17],u4 KS⟩)::Q4
theorem Ru:tT Tryz.prog Q5:=fk (bf 17 [] []) R1 [] trivial Tryz.func95 (by kernel_rfl) fun x=>by kernel_rfl
noncomputable def LB:eB:=⟨[(0,o2),(1,o2)],[(5,o1)],[(.ret,[(4,o17)]),(.exit 0,[])],Kh⟩
theorem MY:nj Tryz.prog (env 26 [] []) (lp 0 (body Tryz.f123) 0) LB:=lk (bf _ _ _) Ru (n:=0) [] trivial (by kernel_rfl) fun k x=>by kernel_rfl
noncomputable def Q6:List (bV×ij):=((123,[]),⟨true,[o2,o2],[o17],u2 KO⟩)::Q5
theorem R2:tT Tryz.prog Q6:=fk (bf 26 [] []) Ru [(0,LB)] ⟨MY,trivial⟩ Tryz.func123 (by kernel_rfl) fun x=>by kernel_rfl
noncomputable def Q7:List (bV×ij):=((131,[]),⟨true,[a4,a4],[o17],u8 Lp⟩)::Q6
theorem Rv:tT Tryz.prog Q7:=fk (bf 25 [] []) R2 [] trivial Tryz.func131 (by kernel_rfl) fun x=>by kernel_rfl
noncomputable def LA:eB:=⟨[(0,o22),(1,o22)],[(5,o1)],[(.ret,[(4,o17)]),(.exit 0,[])],Kf⟩
theorem MX:nj Tryz.prog (env 27 [] []) (lp 0 (body Tryz.f124) 0) LA:=lk (bf _ _ _) Rv (n:=0) [] trivial (by kernel_rfl) fun k x=>by kernel_rfl
noncomputable def Q8:List (bV×ij):=((124,[]),⟨true,[o22,o22],[o17],u2 KM⟩)::Q7
theorem R3:tT Tryz.prog Q8:=fk (bf 27 [] []) Rv [(0,LA)] ⟨MX,trivial⟩ Tryz.func124 (by kernel_rfl) fun x=>by kernel_rfl
noncomputable def Q9:List (bV×ij):=((112,[]),⟨true,[a12,a12],[o17],u6 n6⟩)::Q8
theorem Rw:tT Tryz.prog Q9:=fk (bf 22 [] []) R3 [] trivial Tryz.func112 (by kernel_rfl) fun x=>by kernel_rfl
noncomputable def J0:eB:=⟨[(0,o21),(1,o21)],[(5,o1)],[(.ret,[(4,o17)]),(.exit 0,[])],xh⟩
theorem L9:nj Tryz.prog (env 27 [] []) (lp 0 (body Tryz.f96) 0) J0:=lk (bf _ _ _) Rw (n:=0) [] trivial (by kernel_rfl) fun k x=>by kernel_rfl
noncomputable def Ra:List (bV×ij):=((96,[]),⟨true,[o21,o21],[o17],u2 wk⟩)::Q9
theorem R4:tT Tryz.prog Ra:=fk (bf 27 [] []) Rw [(0,J0)] ⟨L9,trivial⟩ Tryz.func96 (by kernel_rfl) fun x=>by kernel_rfl
noncomputable def Rb:List (bV×ij):=((97,[]),⟨true,[a5,a5],[o17],UH KN⟩)::Ra
theorem R5:tT Tryz.prog Rb:=fk (bf 30 [] []) R4 [] trivial Tryz.func97 (by kernel_rfl) fun x=>by kernel_rfl
noncomputable def Rc:List (bV×ij):=((63,[]),⟨true,[a6,a6],[o17],UI JL⟩)::Rb
theorem Rx:tT Tryz.prog Rc:=fk (bf 40 [] []) R5 [] trivial Tryz.func63 (by kernel_rfl) fun x=>by kernel_rfl
noncomputable def Kw:eB:=⟨[(0,o19),(1,o19)],[(5,o1)],[(.ret,[(4,o17)]),(.exit 0,[])],IL⟩
theorem Mq:nj Tryz.prog (env 27 [] []) (lp 0 (body Tryz.f30) 0) Kw:=lk (bf _ _ _) Rx (n:=0) [] trivial (by kernel_rfl) fun k x=>by kernel_rfl
noncomputable def Rd:List (bV×ij):=((30,[]),⟨true,[o19,o19],[o17],u2 n7⟩)::Rc
theorem R6:tT Tryz.prog Rd:=fk (bf 27 [] []) Rx [(0,Kw)] ⟨Mq,trivial⟩ Tryz.func30 (by kernel_rfl) fun x=>by kernel_rfl
noncomputable def Re:List (bV×ij):=((60,[]),⟨true,[a14,a14],[o17],VI KQ⟩)::Rd
theorem Ry:tT Tryz.prog Re:=fk (bf 39 [] []) R6 [] trivial Tryz.func60 (by kernel_rfl) fun x=>by kernel_rfl
noncomputable def K9:eB:=⟨[(0,o25),(1,o25)],[(5,o1)],[(.ret,[(4,o17)]),(.exit 0,[])],Jv⟩
theorem MK:nj Tryz.prog (env 27 [] []) (lp 0 (body Tryz.f27) 0) K9:=lk (bf _ _ _) Ry (n:=0) [] trivial (by kernel_rfl) fun k x=>by kernel_rfl
noncomputable def Rf:List (bV×ij):=((27,[]),⟨true,[o25,o25],[o17],u2 JN⟩)::Re
theorem R7:tT Tryz.prog Rf:=fk (bf 27 [] []) Ry [(0,K9)] ⟨MK,trivial⟩ Tryz.func27 (by kernel_rfl) fun x=>by kernel_rfl
noncomputable def Rg:List (bV×ij):=((98,[]),⟨true,[a7,a7],[o17],UH KP⟩)::Rf
theorem R8:tT Tryz.prog Rg:=fk (bf 30 [] []) R7 [] trivial Tryz.func98 (by kernel_rfl) fun x=>by kernel_rfl
noncomputable def Rh:List (bV×ij):=((61,[]),⟨true,[a8,a8],[o17],VJ I6⟩)::Rg
theorem Rz:tT Tryz.prog Rh:=fk (bf 51 [] []) R8 [] trivial Tryz.func61 (by kernel_rfl) fun x=>by kernel_rfl
noncomputable def J1:eB:=⟨[(0,o26),(1,o26)],[(5,o1)],[(.ret,[(4,o17)]),(.exit 0,[])],ye⟩
theorem Ma:nj Tryz.prog (env 27 [] []) (lp 0 (body Tryz.f28) 0) J1:=lk (bf _ _ _) Rz (n:=0) [] trivial (by kernel_rfl) fun k x=>by kernel_rfl
noncomputable def Ri:List (bV×ij):=((28,[]),⟨true,[o26,o26],[o17],u2 xn⟩)::Rh
theorem R9:tT Tryz.prog Ri:=fk (bf 27 [] []) Rz [(0,J1)] ⟨Ma,trivial⟩ Tryz.func28 (by kernel_rfl) fun x=>by kernel_rfl
noncomputable def Rj:List (bV×ij):=((62,[]),⟨true,[a9,a9],[o17],UI JM⟩)::Ri
theorem RA:tT Tryz.prog Rj:=fk (bf 40 [] []) R9 [] trivial Tryz.func62 (by kernel_rfl) fun x=>by kernel_rfl
noncomputable def Kx:eB:=⟨[(0,o18),(1,o18)],[(5,o1)],[(.ret,[(4,o17)]),(.exit 0,[])],IP⟩
theorem Mr:nj Tryz.prog (env 27 [] []) (lp 0 (body Tryz.f29) 0) Kx:=lk (bf _ _ _) RA (n:=0) [] trivial (by kernel_rfl) fun k x=>by kernel_rfl
noncomputable def Rk:List (bV×ij):=((29,[]),⟨true,[o18,o18],[o17],u2 I5⟩)::Rj
theorem Sa:tT Tryz.prog Rk:=fk (bf 27 [] []) RA [(0,Kx)] ⟨Mr,trivial⟩ Tryz.func29 (by kernel_rfl) fun x=>by kernel_rfl
noncomputable def Rl:List (bV×ij):=((8,[]),⟨true,[a13,a13],[o17],VL xl⟩)::Rk
theorem Sb:tT Tryz.prog Rl:=fk (bf 50 [] []) Sa [] trivial Tryz.func8 (by kernel_rfl) fun x=>by kernel_rfl
noncomputable def gm:ij:=⟨true,[a2,o1],[o17],u16 n2⟩
noncomputable def RU:List (bV×ij):=((3,[]),gm)::Rl
theorem Sc:tT Tryz.prog RU:=fk (bf 31 [] []) Sb [] trivial Tryz.func3 (by kernel_rfl) fun x=>by kernel_rfl
theorem Lu:eA Tryz.prog 3 gm:=Sc.1
end Go.Proofs.YthdhgmppijjhpaaGreatDoor.fnExactWhereIs

