import Derived.Test.YthdhgmppijjhpaaClashesInQA
/- Plain functions that stand for Go functions, and what they answer. Conditions: none. -/
set_option autoImplicit false
set_option linter.unusedVariables false
set_option linter.unusedSimpArgs false
set_option linter.unusedVariables false
namespace Go.Fn
open Go.R
noncomputable def g_insertionSort_b2 {α : Type} [Inhabited α] (lt : α → α → Bool) (k : Int × Int × Int × Unit) (x : (List α) × Int × Unit) : Option (((List α) × Int × Unit) ⊕ ((List α) × Unit ⊕ Empty)) :=
 (bif (rCmp .gtr x.2.1 k.1) then (bif (rInR x.1 x.2.1) then (bif (rInR x.1 (rArith .sub .i64 x.2.1 (1 : Int))) then ((some (lt (rGet default x.1 x.2.1) (rGet default x.1 (rArith .sub .i64 x.2.1 (1 : Int))), ())).bind fun y0 => (bif y0.1 then (bif (rInR x.1 (rArith .sub .i64 x.2.1 (1 : Int))) then (bif (rInR x.1 x.2.1) then (bif (rInR x.1 x.2.1) then (bif (rInR (rPut x.1 x.2.1 (rGet default x.1 (rArith .sub .i64 x.2.1 (1 : Int)))) (rArith .sub .i64 x.2.1 (1 : Int))) then some (.inl ((rPut (rPut x.1 x.2.1 (rGet default x.1 (rArith .sub .i64 x.2.1 (1 : Int)))) (rArith .sub .i64 x.2.1 (1 : Int)) (rGet default x.1 x.2.1)), (rArith .sub .i64 x.2.1 (1 : Int)), ())) else none) else none) else none) else none) else some (.inr (.inl (x.1, ()))))) else none) else none) else some (.inr (.inl (x.1, ()))))
noncomputable def g_insertionSort_l2 {α : Type} [Inhabited α] (lt : α → α → Bool) (k : Int × Int × Int × Unit) (x : (List α) × Int × Unit) : Option ((List α) × Unit ⊕ Empty) := iter (g_insertionSort_b2 lt k) big x
noncomputable def g_insertionSort_b0 {α : Type} [Inhabited α] (lt : α → α → Bool) (k : Int × Int × Unit) (x : (List α) × Int × Unit) : Option (((List α) × Int × Unit) ⊕ ((List α) × Unit ⊕ Empty)) :=
 (bif (rCmp .lss x.2.1 k.2.1) then ((g_insertionSort_l2 lt (k.1, k.2.1, x.2.1, ()) (x.1, x.2.1, ())).bind fun q0 => (Sum.elim (fun y1 => some (.inl (y1.1, (rArith .add .i64 x.2.1 (1 : Int)), ()))) (fun q2 => (Empty.elim q2)) q0)) else some (.inr (.inl (x.1, ()))))
noncomputable def g_insertionSort_l0 {α : Type} [Inhabited α] (lt : α → α → Bool) (k : Int × Int × Unit) (x : (List α) × Int × Unit) : Option ((List α) × Unit ⊕ Empty) := iter (g_insertionSort_b0 lt k) big x
noncomputable def g_insertionSort {α : Type} [Inhabited α] (lt : α → α → Bool) (a0 : (List α)) (a1 : Int) (a2 : Int) : Option ((List α) × Unit) :=
 ((g_insertionSort_l0 lt (a1, a2, ()) (a0, (rArith .add .i64 a1 (1 : Int)), ())).bind fun q0 => (Sum.elim (fun y1 => some (y1.1, ())) (fun q2 => (Empty.elim q2)) q0))
noncomputable def g_siftDown_b0 {α : Type} [Inhabited α] (lt : α → α → Bool) (k : Int × Int × Unit) (x : (List α) × Int × Unit) : Option (((List α) × Int × Unit) ⊕ ((List α) × Unit ⊕ ((List α) × Unit ⊕ Empty))) :=
 (bif (rCmp .geq (rArith .add .i64 (rArith .mul .i64 (2 : Int) x.2.1) (1 : Int)) k.1) then some (.inr (.inl (x.1, ()))) else (bif (rCmp .lss (rArith .add .i64 (rArith .add .i64 (rArith .mul .i64 (2 : Int) x.2.1) (1 : Int)) (1 : Int)) k.1) then (bif (rInR x.1 (rArith .add .i64 k.2.1 (rArith .add .i64 (rArith .mul .i64 (2 : Int) x.2.1) (1 : Int)))) then (bif (rInR x.1 (rArith .add .i64 (rArith .add .i64 k.2.1 (rArith .add .i64 (rArith .mul .i64 (2 : Int) x.2.1) (1 : Int))) (1 : Int))) then ((some (lt (rGet default x.1 (rArith .add .i64 k.2.1 (rArith .add .i64 (rArith .mul .i64 (2 : Int) x.2.1) (1 : Int)))) (rGet default x.1 (rArith .add .i64 (rArith .add .i64 k.2.1 (rArith .add .i64 (rArith .mul .i64 (2 : Int) x.2.1) (1 : Int))) (1 : Int))), ())).bind fun y0 => (bif y0.1 then (bif (rInR x.1 (rArith .add .i64 k.2.1 x.2.1)) then (bif (rInR x.1 (rArith .add .i64 k.2.1 (rArith .add .i64 (rArith .add .i64 (rArith .mul .i64 (2 : Int) x.2.1) (1 : Int)) (1 : Int)))) then ((some (lt (rGet default x.1 (rArith .add .i64 k.2.1 x.2.1)) (rGet default x.1 (rArith .add .i64 k.2.1 (rArith .add .i64 (rArith .add .i64 (rArith .mul .i64 (2 : Int) x.2.1) (1 : Int)) (1 : Int)))), ())).bind fun y1 => (bif (Bool.not y1.1) then some (.inr (.inr (.inl (x.1, ())))) else (bif (rInR x.1 (rArith .add .i64 k.2.1 (rArith .add .i64 (rArith .add .i64 (rArith .mul .i64 (2 : Int) x.2.1) (1 : Int)) (1 : Int)))) then (bif (rInR x.1 (rArith .add .i64 k.2.1 x.2.1)) then (bif (rInR x.1 (rArith .add .i64 k.2.1 x.2.1)) then (lets (rPut x.1 (rArith .add .i64 k.2.1 x.2.1) (rGet default x.1 (rArith .add .i64 k.2.1 (rArith .add .i64 (rArith .add .i64 (rArith .mul .i64 (2 : Int) x.2.1) (1 : Int)) (1 : Int))))) fun v2 => (bif (rInR v2 (rArith .add .i64 k.2.1 (rArith .add .i64 (rArith .add .i64 (rArith .mul .i64 (2 : Int) x.2.1) (1 : Int)) (1 : Int)))) then (lets (rPut v2 (rArith .add .i64 k.2.1 (rArith .add .i64 (rArith .add .i64 (rArith .mul .i64 (2 : Int) x.2.1) (1 : Int)) (1 : Int))) (rGet default x.1 (rArith .add .i64 k.2.1 x.2.1))) fun v3 => some (.inl (v3, (rArith .add .i64 (rArith .add .i64 (rArith .mul .i64 (2 : Int) x.2.1) (1 : Int)) (1 : Int)), ()))) else none)) else none) else none) else none))) else none) else none) else (bif (rInR x.1 (rArith .add .i64 k.2.1 x.2.1)) then (bif (rInR x.1 (rArith .add .i64 k.2.1 (rArith .add .i64 (rArith .mul .i64 (2 : Int) x.2.1) (1 : Int)))) then ((some (lt (rGet default x.1 (rArith .add .i64 k.2.1 x.2.1)) (rGet default x.1 (rArith .add .i64 k.2.1 (rArith .add .i64 (rArith .mul .i64 (2 : Int) x.2.1) (1 : Int)))), ())).bind fun y1 => (bif (Bool.not y1.1) then some (.inr (.inr (.inl (x.1, ())))) else (bif (rInR x.1 (rArith .add .i64 k.2.1 (rArith .add .i64 (rArith .mul .i64 (2 : Int) x.2.1) (1 : Int)))) then (bif (rInR x.1 (rArith .add .i64 k.2.1 x.2.1)) then (bif (rInR x.1 (rArith .add .i64 k.2.1 x.2.1)) then (bif (rInR (rPut x.1 (rArith .add .i64 k.2.1 x.2.1) (rGet default x.1 (rArith .add .i64 k.2.1 (rArith .add .i64 (rArith .mul .i64 (2 : Int) x.2.1) (1 : Int))))) (rArith .add .i64 k.2.1 (rArith .add .i64 (rArith .mul .i64 (2 : Int) x.2.1) (1 : Int)))) then (lets (rPut (rPut x.1 (rArith .add .i64 k.2.1 x.2.1) (rGet default x.1 (rArith .add .i64 k.2.1 (rArith .add .i64 (rArith .mul .i64 (2 : Int) x.2.1) (1 : Int))))) (rArith .add .i64 k.2.1 (rArith .add .i64 (rArith .mul .i64 (2 : Int) x.2.1) (1 : Int))) (rGet default x.1 (rArith .add .i64 k.2.1 x.2.1))) fun v2 => some (.inl (v2, (rArith .add .i64 (rArith .mul .i64 (2 : Int) x.2.1) (1 : Int)), ()))) else none) else none) else none) else none))) else none) else none))) else none) else none) else (bif (rInR x.1 (rArith .add .i64 k.2.1 x.2.1)) then (bif (rInR x.1 (rArith .add .i64 k.2.1 (rArith .add .i64 (rArith .mul .i64 (2 : Int) x.2.1) (1 : Int)))) then ((some (lt (rGet default x.1 (rArith .add .i64 k.2.1 x.2.1)) (rGet default x.1 (rArith .add .i64 k.2.1 (rArith .add .i64 (rArith .mul .i64 (2 : Int) x.2.1) (1 : Int)))), ())).bind fun y0 => (bif (Bool.not y0.1) then some (.inr (.inr (.inl (x.1, ())))) else (bif (rInR x.1 (rArith .add .i64 k.2.1 (rArith .add .i64 (rArith .mul .i64 (2 : Int) x.2.1) (1 : Int)))) then (bif (rInR x.1 (rArith .add .i64 k.2.1 x.2.1)) then (bif (rInR x.1 (rArith .add .i64 k.2.1 x.2.1)) then (bif (rInR (rPut x.1 (rArith .add .i64 k.2.1 x.2.1) (rGet default x.1 (rArith .add .i64 k.2.1 (rArith .add .i64 (rArith .mul .i64 (2 : Int) x.2.1) (1 : Int))))) (rArith .add .i64 k.2.1 (rArith .add .i64 (rArith .mul .i64 (2 : Int) x.2.1) (1 : Int)))) then (lets (rPut (rPut x.1 (rArith .add .i64 k.2.1 x.2.1) (rGet default x.1 (rArith .add .i64 k.2.1 (rArith .add .i64 (rArith .mul .i64 (2 : Int) x.2.1) (1 : Int))))) (rArith .add .i64 k.2.1 (rArith .add .i64 (rArith .mul .i64 (2 : Int) x.2.1) (1 : Int))) (rGet default x.1 (rArith .add .i64 k.2.1 x.2.1))) fun v1 => some (.inl (v1, (rArith .add .i64 (rArith .mul .i64 (2 : Int) x.2.1) (1 : Int)), ()))) else none) else none) else none) else none))) else none) else none)))
noncomputable def g_siftDown_l0 {α : Type} [Inhabited α] (lt : α → α → Bool) (k : Int × Int × Unit) (x : (List α) × Int × Unit) : Option ((List α) × Unit ⊕ ((List α) × Unit ⊕ Empty)) := iter (g_siftDown_b0 lt k) big x
noncomputable def g_siftDown {α : Type} [Inhabited α] (lt : α → α → Bool) (a0 : (List α)) (a1 : Int) (a2 : Int) (a3 : Int) : Option ((List α) × Unit) :=
 ((g_siftDown_l0 lt (a2, a3, ()) (a0, a1, ())).bind fun q0 => (Sum.elim (fun y1 => some (y1.1, ())) (fun q2 => (Sum.elim (fun y3 => some (y3.1, ())) (fun q4 => (Empty.elim q4)) q2)) q0))
noncomputable def g_heapSort_b0 {α : Type} [Inhabited α] (lt : α → α → Bool) (k : Int × Int × Int × Unit) (x : (List α) × Int × Unit) : Option (((List α) × Int × Unit) ⊕ ((List α) × Unit ⊕ Empty)) :=
 (bif (rCmp .geq x.2.1 (0 : Int)) then ((g_siftDown lt x.1 x.2.1 k.2.2.1 k.1).bind fun y0 => some (.inl (y0.1, (rArith .sub .i64 x.2.1 (1 : Int)), ()))) else some (.inr (.inl (x.1, ()))))
noncomputable def g_heapSort_l0 {α : Type} [Inhabited α] (lt : α → α → Bool) (k : Int × Int × Int × Unit) (x : (List α) × Int × Unit) : Option ((List α) × Unit ⊕ Empty) := iter (g_heapSort_b0 lt k) big x
noncomputable def g_heapSort_b2 {α : Type} [Inhabited α] (lt : α → α → Bool) (k : Int × Int × Unit) (x : (List α) × Int × Unit) : Option (((List α) × Int × Unit) ⊕ ((List α) × Unit ⊕ Empty)) :=
 (bif (rCmp .geq x.2.1 (0 : Int)) then (bif (rInR x.1 (rArith .add .i64 k.1 x.2.1)) then (bif (rInR x.1 k.1) then (bif (rInR x.1 k.1) then (bif (rInR (rPut x.1 k.1 (rGet default x.1 (rArith .add .i64 k.1 x.2.1))) (rArith .add .i64 k.1 x.2.1)) then ((g_siftDown lt (rPut (rPut x.1 k.1 (rGet default x.1 (rArith .add .i64 k.1 x.2.1))) (rArith .add .i64 k.1 x.2.1) (rGet default x.1 k.1)) k.2.1 x.2.1 k.1).bind fun y0 => some (.inl (y0.1, (rArith .sub .i64 x.2.1 (1 : Int)), ()))) else none) else none) else none) else none) else some (.inr (.inl (x.1, ()))))
noncomputable def g_heapSort_l2 {α : Type} [Inhabited α] (lt : α → α → Bool) (k : Int × Int × Unit) (x : (List α) × Int × Unit) : Option ((List α) × Unit ⊕ Empty) := iter (g_heapSort_b2 lt k) big x
noncomputable def g_heapSort {α : Type} [Inhabited α] (lt : α → α → Bool) (a0 : (List α)) (a1 : Int) (a2 : Int) : Option ((List α) × Unit) :=
 (bif (rIsZero (2 : Int)) then none else ((g_heapSort_l0 lt (a1, (0 : Int), (rArith .sub .i64 a2 a1), ()) (a0, (rArith .quo .i64 (rArith .sub .i64 (rArith .sub .i64 a2 a1) (1 : Int)) (2 : Int)), ())).bind fun q0 => (Sum.elim (fun y1 => ((g_heapSort_l2 lt (a1, (0 : Int), ()) (y1.1, (rArith .sub .i64 (rArith .sub .i64 a2 a1) (1 : Int)), ())).bind fun q2 => (Sum.elim (fun y3 => some (y3.1, ())) (fun q4 => (Empty.elim q4)) q2))) (fun q2 => (Empty.elim q2)) q0)))
noncomputable def g_breakPatterns_b0 {α : Type} [Inhabited α] (lt : α → α → Bool) (k : Int × Int × Int × Unit) (x : (List α) × Int × Int × Unit) : Option (((List α) × Int × Int × Unit) ⊕ ((List α) × Unit ⊕ Empty)) :=
 (bif (rIsZero (4 : Int)) then none else (bif (rCmp .leq x.2.2.1 (rArith .add .i64 (rArith .add .i64 k.1 (rArith .mul .i64 (rArith .quo .i64 k.2.1 (4 : Int)) (2 : Int))) (1 : Int))) then ((__slices_xorshift__Next x.2.1).bind fun y0 => (bif (rCmp .geq (rConv .i64 (rArith .and .u64 y0.1 (rArith .sub .u64 k.2.2.1 (1 : Int)))) k.2.1) then (bif (rInR x.1 (rArith .add .i64 k.1 (rArith .sub .i64 (rConv .i64 (rArith .and .u64 y0.1 (rArith .sub .u64 k.2.2.1 (1 : Int)))) k.2.1))) then (bif (rInR x.1 x.2.2.1) then (bif (rInR x.1 x.2.2.1) then (bif (rInR (rPut x.1 x.2.2.1 (rGet default x.1 (rArith .add .i64 k.1 (rArith .sub .i64 (rConv .i64 (rArith .and .u64 y0.1 (rArith .sub .u64 k.2.2.1 (1 : Int)))) k.2.1)))) (rArith .add .i64 k.1 (rArith .sub .i64 (rConv .i64 (rArith .and .u64 y0.1 (rArith .sub .u64 k.2.2.1 (1 : Int)))) k.2.1))) then (lets (rPut (rPut x.1 x.2.2.1 (rGet default x.1 (rArith .add .i64 k.1 (rArith .sub .i64 (rConv .i64 (rArith .and .u64 y0.1 (rArith .sub .u64 k.2.2.1 (1 : Int)))) k.2.1)))) (rArith .add .i64 k.1 (rArith .sub .i64 (rConv .i64 (rArith .and .u64 y0.1 (rArith .sub .u64 k.2.2.1 (1 : Int)))) k.2.1)) (rGet default x.1 x.2.2.1)) fun v1 => some (.inl (v1, y0.2.1, (rArith .add .i64 x.2.2.1 (1 : Int)), ()))) else none) else none) else none) else none) else (bif (rInR x.1 (rArith .add .i64 k.1 (rConv .i64 (rArith .and .u64 y0.1 (rArith .sub .u64 k.2.2.1 (1 : Int)))))) then (bif (rInR x.1 x.2.2.1) then (bif (rInR x.1 x.2.2.1) then (bif (rInR (rPut x.1 x.2.2.1 (rGet default x.1 (rArith .add .i64 k.1 (rConv .i64 (rArith .and .u64 y0.1 (rArith .sub .u64 k.2.2.1 (1 : Int))))))) (rArith .add .i64 k.1 (rConv .i64 (rArith .and .u64 y0.1 (rArith .sub .u64 k.2.2.1 (1 : Int)))))) then (lets (rPut (rPut x.1 x.2.2.1 (rGet default x.1 (rArith .add .i64 k.1 (rConv .i64 (rArith .and .u64 y0.1 (rArith .sub .u64 k.2.2.1 (1 : Int))))))) (rArith .add .i64 k.1 (rConv .i64 (rArith .and .u64 y0.1 (rArith .sub .u64 k.2.2.1 (1 : Int))))) (rGet default x.1 x.2.2.1)) fun v1 => some (.inl (v1, y0.2.1, (rArith .add .i64 x.2.2.1 (1 : Int)), ()))) else none) else none) else none) else none))) else some (.inr (.inl (x.1, ())))))
noncomputable def g_breakPatterns_l0 {α : Type} [Inhabited α] (lt : α → α → Bool) (k : Int × Int × Int × Unit) (x : (List α) × Int × Int × Unit) : Option ((List α) × Unit ⊕ Empty) := iter (g_breakPatterns_b0 lt k) big x
noncomputable def g_breakPatterns {α : Type} [Inhabited α] (lt : α → α → Bool) (a0 : (List α)) (a1 : Int) (a2 : Int) : Option ((List α) × Unit) :=
 (bif (rCmp .geq (rArith .sub .i64 a2 a1) (8 : Int)) then ((slices_nextPowerOfTwo (rArith .sub .i64 a2 a1)).bind fun y0 => (bif (rIsZero (4 : Int)) then none else ((g_breakPatterns_l0 lt (a1, (rArith .sub .i64 a2 a1), y0.1, ()) (a0, (rConv .u64 (rArith .sub .i64 a2 a1)), (rArith .sub .i64 (rArith .add .i64 a1 (rArith .mul .i64 (rArith .quo .i64 (rArith .sub .i64 a2 a1) (4 : Int)) (2 : Int))) (1 : Int)), ())).bind fun q1 => (Sum.elim (fun y2 => some (y2.1, ())) (fun q3 => (Empty.elim q3)) q1)))) else some (a0, ()))
noncomputable def g_order2 {α : Type} [Inhabited α] (lt : α → α → Bool) (a0 : (List α)) (a1 : Int) (a2 : Int) (a3 : Int) : Option (Int × Int × Int × Unit) :=
 (bif (rInR a0 a2) then (bif (rInR a0 a1) then ((some (lt (rGet default a0 a2) (rGet default a0 a1), ())).bind fun y0 => (bif y0.1 then some (a2, a1, (rArith .add .i64 a3 (1 : Int)), ()) else some (a1, a2, a3, ()))) else none) else none)
noncomputable def g_median {α : Type} [Inhabited α] (lt : α → α → Bool) (a0 : (List α)) (a1 : Int) (a2 : Int) (a3 : Int) (a4 : Int) : Option (Int × Int × Unit) :=
 ((g_order2 lt a0 a1 a2 a4).bind fun y0 => ((g_order2 lt a0 y0.2.1 a3 y0.2.2.1).bind fun y1 => ((g_order2 lt a0 y0.1 y1.1 y1.2.2.1).bind fun y2 => some (y2.2.1, y2.2.2.1, ()))))
noncomputable def g_medianAdjacent {α : Type} [Inhabited α] (lt : α → α → Bool) (a0 : (List α)) (a1 : Int) (a2 : Int) : Option (Int × Int × Unit) :=
 ((g_median lt a0 (rArith .sub .i64 a1 (1 : Int)) a1 (rArith .add .i64 a1 (1 : Int)) a2).bind fun y0 => some (y0.1, y0.2.1, ()))
noncomputable def g_choosePivot {α : Type} [Inhabited α] (lt : α → α → Bool) (a0 : (List α)) (a1 : Int) (a2 : Int) : Option (Int × Int × Unit) :=
 (bif (rIsZero (4 : Int)) then none else (bif (rIsZero (4 : Int)) then none else (bif (rIsZero (4 : Int)) then none else (bif (rCmp .geq (rArith .sub .i64 a2 a1) (8 : Int)) then (bif (rCmp .geq (rArith .sub .i64 a2 a1) (50 : Int)) then ((g_medianAdjacent lt a0 (rArith .add .i64 a1 (rArith .mul .i64 (rArith .quo .i64 (rArith .sub .i64 a2 a1) (4 : Int)) (1 : Int))) (0 : Int)).bind fun y0 => ((g_medianAdjacent lt a0 (rArith .add .i64 a1 (rArith .mul .i64 (rArith .quo .i64 (rArith .sub .i64 a2 a1) (4 : Int)) (2 : Int))) y0.2.1).bind fun y1 => ((g_medianAdjacent lt a0 (rArith .add .i64 a1 (rArith .mul .i64 (rArith .quo .i64 (rArith .sub .i64 a2 a1) (4 : Int)) (3 : Int))) y1.2.1).bind fun y2 => ((g_median lt a0 y0.1 y1.1 y2.1 y2.2.1).bind fun y3 => (bif (rCmp .eql y3.2.1 (0 : Int)) then some (y3.1, (1 : Int), ()) else (bif (rCmp .eql y3.2.1 (12 : Int)) then some (y3.1, (2 : Int), ()) else some (y3.1, (0 : Int), ()))))))) else ((g_median lt a0 (rArith .add .i64 a1 (rArith .mul .i64 (rArith .quo .i64 (rArith .sub .i64 a2 a1) (4 : Int)) (1 : Int))) (rArith .add .i64 a1 (rArith .mul .i64 (rArith .quo .i64 (rArith .sub .i64 a2 a1) (4 : Int)) (2 : Int))) (rArith .add .i64 a1 (rArith .mul .i64 (rArith .quo .i64 (rArith .sub .i64 a2 a1) (4 : Int)) (3 : Int))) (0 : Int)).bind fun y0 => (bif (rCmp .eql y0.2.1 (0 : Int)) then some (y0.1, (1 : Int), ()) else (bif (rCmp .eql y0.2.1 (12 : Int)) then some (y0.1, (2 : Int), ()) else some (y0.1, (0 : Int), ()))))) else (bif (rCmp .eql (0 : Int) (0 : Int)) then some ((rArith .add .i64 a1 (rArith .mul .i64 (rArith .quo .i64 (rArith .sub .i64 a2 a1) (4 : Int)) (2 : Int))), (1 : Int), ()) else (bif (rCmp .eql (0 : Int) (12 : Int)) then some ((rArith .add .i64 a1 (rArith .mul .i64 (rArith .quo .i64 (rArith .sub .i64 a2 a1) (4 : Int)) (2 : Int))), (2 : Int), ()) else some ((rArith .add .i64 a1 (rArith .mul .i64 (rArith .quo .i64 (rArith .sub .i64 a2 a1) (4 : Int)) (2 : Int))), (0 : Int), ())))))))
noncomputable def g_reverseRange_b0 {α : Type} [Inhabited α] (lt : α → α → Bool) (k : Unit) (x : (List α) × Int × Int × Unit) : Option (((List α) × Int × Int × Unit) ⊕ ((List α) × Unit ⊕ Empty)) :=
 (bif (rCmp .lss x.2.1 x.2.2.1) then (bif (rInR x.1 x.2.2.1) then (bif (rInR x.1 x.2.1) then (bif (rInR x.1 x.2.1) then (bif (rInR (rPut x.1 x.2.1 (rGet default x.1 x.2.2.1)) x.2.2.1) then some (.inl ((rPut (rPut x.1 x.2.1 (rGet default x.1 x.2.2.1)) x.2.2.1 (rGet default x.1 x.2.1)), (rArith .add .i64 x.2.1 (1 : Int)), (rArith .sub .i64 x.2.2.1 (1 : Int)), ())) else none) else none) else none) else none) else some (.inr (.inl (x.1, ()))))
noncomputable def g_reverseRange_l0 {α : Type} [Inhabited α] (lt : α → α → Bool) (k : Unit) (x : (List α) × Int × Int × Unit) : Option ((List α) × Unit ⊕ Empty) := iter (g_reverseRange_b0 lt k) big x
noncomputable def g_reverseRange {α : Type} [Inhabited α] (lt : α → α → Bool) (a0 : (List α)) (a1 : Int) (a2 : Int) : Option ((List α) × Unit) :=
 ((g_reverseRange_l0 lt (()) (a0, a1, (rArith .sub .i64 a2 (1 : Int)), ())).bind fun q0 => (Sum.elim (fun y1 => some (y1.1, ())) (fun q2 => (Empty.elim q2)) q0))
noncomputable def g_partialInsertionSort_b2 {α : Type} [Inhabited α] (lt : α → α → Bool) (k : Int × Int × Int × Unit) (x : (List α) × Int × Unit) : Option (((List α) × Int × Unit) ⊕ ((List α) × Int × Unit ⊕ Empty)) :=
 (bif (rCmp .lss x.2.1 k.2.1) then (bif (rInR x.1 x.2.1) then (bif (rInR x.1 (rArith .sub .i64 x.2.1 (1 : Int))) then ((some (lt (rGet default x.1 x.2.1) (rGet default x.1 (rArith .sub .i64 x.2.1 (1 : Int))), ())).bind fun y0 => (bif (Bool.not y0.1) then some (.inl (x.1, (rArith .add .i64 x.2.1 (1 : Int)), ())) else some (.inr (.inl (x.1, x.2.1, ()))))) else none) else none) else some (.inr (.inl (x.1, x.2.1, ()))))
noncomputable def g_partialInsertionSort_l2 {α : Type} [Inhabited α] (lt : α → α → Bool) (k : Int × Int × Int × Unit) (x : (List α) × Int × Unit) : Option ((List α) × Int × Unit ⊕ Empty) := iter (g_partialInsertionSort_b2 lt k) big x
noncomputable def g_partialInsertionSort_b4 {α : Type} [Inhabited α] (lt : α → α → Bool) (k : Int × Int × Int × Int × Unit) (x : (List α) × Int × Unit) : Option (((List α) × Int × Unit) ⊕ ((List α) × Unit ⊕ Empty)) :=
 (bif (rCmp .geq x.2.1 (1 : Int)) then (bif (rInR x.1 x.2.1) then (bif (rInR x.1 (rArith .sub .i64 x.2.1 (1 : Int))) then ((some (lt (rGet default x.1 x.2.1) (rGet default x.1 (rArith .sub .i64 x.2.1 (1 : Int))), ())).bind fun y0 => (bif (Bool.not y0.1) then some (.inr (.inl (x.1, ()))) else (bif (rInR x.1 (rArith .sub .i64 x.2.1 (1 : Int))) then (bif (rInR x.1 x.2.1) then (bif (rInR x.1 x.2.1) then (bif (rInR (rPut x.1 x.2.1 (rGet default x.1 (rArith .sub .i64 x.2.1 (1 : Int)))) (rArith .sub .i64 x.2.1 (1 : Int))) then some (.inl ((rPut (rPut x.1 x.2.1 (rGet default x.1 (rArith .sub .i64 x.2.1 (1 : Int)))) (rArith .sub .i64 x.2.1 (1 : Int)) (rGet default x.1 x.2.1)), (rArith .sub .i64 x.2.1 (1 : Int)), ())) else none) else none) else none) else none))) else none) else none) else some (.inr (.inl (x.1, ()))))
noncomputable def g_partialInsertionSort_l4 {α : Type} [Inhabited α] (lt : α → α → Bool) (k : Int × Int × Int × Int × Unit) (x : (List α) × Int × Unit) : Option ((List α) × Unit ⊕ Empty) := iter (g_partialInsertionSort_b4 lt k) big x
noncomputable def g_partialInsertionSort_b6 {α : Type} [Inhabited α] (lt : α → α → Bool) (k : Int × Int × Int × Int × Unit) (x : (List α) × Int × Unit) : Option (((List α) × Int × Unit) ⊕ ((List α) × Unit ⊕ Empty)) :=
 (bif (rCmp .lss x.2.1 k.2.1) then (bif (rInR x.1 x.2.1) then (bif (rInR x.1 (rArith .sub .i64 x.2.1 (1 : Int))) then ((some (lt (rGet default x.1 x.2.1) (rGet default x.1 (rArith .sub .i64 x.2.1 (1 : Int))), ())).bind fun y0 => (bif (Bool.not y0.1) then some (.inr (.inl (x.1, ()))) else (bif (rInR x.1 (rArith .sub .i64 x.2.1 (1 : Int))) then (bif (rInR x.1 x.2.1) then (bif (rInR x.1 x.2.1) then (bif (rInR (rPut x.1 x.2.1 (rGet default x.1 (rArith .sub .i64 x.2.1 (1 : Int)))) (rArith .sub .i64 x.2.1 (1 : Int))) then some (.inl ((rPut (rPut x.1 x.2.1 (rGet default x.1 (rArith .sub .i64 x.2.1 (1 : Int)))) (rArith .sub .i64 x.2.1 (1 : Int)) (rGet default x.1 x.2.1)), (rArith .add .i64 x.2.1 (1 : Int)), ())) else none) else none) else none) else none))) else none) else none) else some (.inr (.inl (x.1, ()))))
noncomputable def g_partialInsertionSort_l6 {α : Type} [Inhabited α] (lt : α → α → Bool) (k : Int × Int × Int × Int × Unit) (x : (List α) × Int × Unit) : Option ((List α) × Unit ⊕ Empty) := iter (g_partialInsertionSort_b6 lt k) big x
noncomputable def g_partialInsertionSort_b0 {α : Type} [Inhabited α] (lt : α → α → Bool) (k : Int × Int × Unit) (x : (List α) × Int × Int × Unit) : Option (((List α) × Int × Int × Unit) ⊕ ((List α) × Bool × Unit ⊕ ((List α) × Unit ⊕ Empty))) :=
 (bif (rCmp .lss x.2.2.1 (5 : Int)) then ((g_partialInsertionSort_l2 lt (k.1, k.2.1, x.2.2.1, ()) (x.1, x.2.1, ())).bind fun q0 => (Sum.elim (fun y1 => (bif (rCmp .eql y1.2.1 k.2.1) then some (.inr (.inl (y1.1, true, ()))) else (bif (rCmp .lss (rArith .sub .i64 k.2.1 k.1) (50 : Int)) then some (.inr (.inl (y1.1, false, ()))) else (bif (rInR y1.1 (rArith .sub .i64 y1.2.1 (1 : Int))) then (bif (rInR y1.1 y1.2.1) then (bif (rInR y1.1 y1.2.1) then (bif (rInR (rPut y1.1 y1.2.1 (rGet default y1.1 (rArith .sub .i64 y1.2.1 (1 : Int)))) (rArith .sub .i64 y1.2.1 (1 : Int))) then (bif (rCmp .geq (rArith .sub .i64 y1.2.1 k.1) (2 : Int)) then ((g_partialInsertionSort_l4 lt (k.1, k.2.1, y1.2.1, x.2.2.1, ()) ((rPut (rPut y1.1 y1.2.1 (rGet default y1.1 (rArith .sub .i64 y1.2.1 (1 : Int)))) (rArith .sub .i64 y1.2.1 (1 : Int)) (rGet default y1.1 y1.2.1)), (rArith .sub .i64 y1.2.1 (1 : Int)), ())).bind fun q2 => (Sum.elim (fun y3 => (bif (rCmp .geq (rArith .sub .i64 k.2.1 y1.2.1) (2 : Int)) then ((g_partialInsertionSort_l6 lt (k.1, k.2.1, y1.2.1, x.2.2.1, ()) (y3.1, (rArith .add .i64 y1.2.1 (1 : Int)), ())).bind fun q4 => (Sum.elim (fun y5 => some (.inl (y5.1, y1.2.1, (rArith .add .i64 x.2.2.1 (1 : Int)), ()))) (fun q6 => (Empty.elim q6)) q4)) else some (.inl (y3.1, y1.2.1, (rArith .add .i64 x.2.2.1 (1 : Int)), ())))) (fun q4 => (Empty.elim q4)) q2)) else (bif (rCmp .geq (rArith .sub .i64 k.2.1 y1.2.1) (2 : Int)) then ((g_partialInsertionSort_l6 lt (k.1, k.2.1, y1.2.1, x.2.2.1, ()) ((rPut (rPut y1.1 y1.2.1 (rGet default y1.1 (rArith .sub .i64 y1.2.1 (1 : Int)))) (rArith .sub .i64 y1.2.1 (1 : Int)) (rGet default y1.1 y1.2.1)), (rArith .add .i64 y1.2.1 (1 : Int)), ())).bind fun q2 => (Sum.elim (fun y3 => some (.inl (y3.1, y1.2.1, (rArith .add .i64 x.2.2.1 (1 : Int)), ()))) (fun q4 => (Empty.elim q4)) q2)) else some (.inl ((rPut (rPut y1.1 y1.2.1 (rGet default y1.1 (rArith .sub .i64 y1.2.1 (1 : Int)))) (rArith .sub .i64 y1.2.1 (1 : Int)) (rGet default y1.1 y1.2.1)), y1.2.1, (rArith .add .i64 x.2.2.1 (1 : Int)), ())))) else none) else none) else none) else none)))) (fun q2 => (Empty.elim q2)) q0)) else some (.inr (.inr (.inl (x.1, ())))))
noncomputable def g_partialInsertionSort_l0 {α : Type} [Inhabited α] (lt : α → α → Bool) (k : Int × Int × Unit) (x : (List α) × Int × Int × Unit) : Option ((List α) × Bool × Unit ⊕ ((List α) × Unit ⊕ Empty)) := iter (g_partialInsertionSort_b0 lt k) big x
noncomputable def g_partialInsertionSort {α : Type} [Inhabited α] (lt : α → α → Bool) (a0 : (List α)) (a1 : Int) (a2 : Int) : Option (Bool × (List α) × Unit) :=
 ((g_partialInsertionSort_l0 lt (a1, a2, ()) (a0, (rArith .add .i64 a1 (1 : Int)), (0 : Int), ())).bind fun q0 => (Sum.elim (fun y1 => some (y1.2.1, y1.1, ())) (fun q2 => (Sum.elim (fun y3 => some (false, y3.1, ())) (fun q4 => (Empty.elim q4)) q2)) q0))
noncomputable def g_partitionEqual_b2 {α : Type} [Inhabited α] (lt : α → α → Bool) (k : Int × Int × Unit) (x : (List α) × Int × Unit) : Option (((List α) × Int × Unit) ⊕ ((List α) × Int × Unit ⊕ Empty)) :=
 (bif (rCmp .leq x.2.1 k.2.1) then (bif (rInR x.1 k.1) then (bif (rInR x.1 x.2.1) then ((some (lt (rGet default x.1 k.1) (rGet default x.1 x.2.1), ())).bind fun y0 => (bif (Bool.not y0.1) then some (.inl (x.1, (rArith .add .i64 x.2.1 (1 : Int)), ())) else some (.inr (.inl (x.1, x.2.1, ()))))) else none) else none) else some (.inr (.inl (x.1, x.2.1, ()))))
noncomputable def g_partitionEqual_l2 {α : Type} [Inhabited α] (lt : α → α → Bool) (k : Int × Int × Unit) (x : (List α) × Int × Unit) : Option ((List α) × Int × Unit ⊕ Empty) := iter (g_partitionEqual_b2 lt k) big x
noncomputable def g_partitionEqual_b4 {α : Type} [Inhabited α] (lt : α → α → Bool) (k : Int × Int × Unit) (x : (List α) × Int × Unit) : Option (((List α) × Int × Unit) ⊕ ((List α) × Int × Unit ⊕ Empty)) :=
 (bif (rCmp .leq k.2.1 x.2.1) then (bif (rInR x.1 k.1) then (bif (rInR x.1 x.2.1) then ((some (lt (rGet default x.1 k.1) (rGet default x.1 x.2.1), ())).bind fun y0 => (bif y0.1 then some (.inl (x.1, (rArith .sub .i64 x.2.1 (1 : Int)), ())) else some (.inr (.inl (x.1, x.2.1, ()))))) else none) else none) else some (.inr (.inl (x.1, x.2.1, ()))))
noncomputable def g_partitionEqual_l4 {α : Type} [Inhabited α] (lt : α → α → Bool) (k : Int × Int × Unit) (x : (List α) × Int × Unit) : Option ((List α) × Int × Unit ⊕ Empty) := iter (g_partitionEqual_b4 lt k) big x
noncomputable def g_partitionEqual_b0 {α : Type} [Inhabited α] (lt : α → α → Bool) (k : Int × Unit) (x : (List α) × Int × Int × Unit) : Option (((List α) × Int × Int × Unit) ⊕ ((List α) × Int × Unit ⊕ Empty)) :=
 ((g_partitionEqual_l2 lt (k.1, x.2.2.1, ()) (x.1, x.2.1, ())).bind fun q0 => (Sum.elim (fun y1 => ((g_partitionEqual_l4 lt (k.1, y1.2.1, ()) (y1.1, x.2.2.1, ())).bind fun q2 => (Sum.elim (fun y3 => (bif (rCmp .gtr y1.2.1 y3.2.1) then some (.inr (.inl (y3.1, y1.2.1, ()))) else (bif (rInR y3.1 y3.2.1) then (bif (rInR y3.1 y1.2.1) then (bif (rInR y3.1 y1.2.1) then (bif (rInR (rPut y3.1 y1.2.1 (rGet default y3.1 y3.2.1)) y3.2.1) then some (.inl ((rPut (rPut y3.1 y1.2.1 (rGet default y3.1 y3.2.1)) y3.2.1 (rGet default y3.1 y1.2.1)), (rArith .add .i64 y1.2.1 (1 : Int)), (rArith .sub .i64 y3.2.1 (1 : Int)), ())) else none) else none) else none) else none))) (fun q4 => (Empty.elim q4)) q2))) (fun q2 => (Empty.elim q2)) q0))
noncomputable def g_partitionEqual_l0 {α : Type} [Inhabited α] (lt : α → α → Bool) (k : Int × Unit) (x : (List α) × Int × Int × Unit) : Option ((List α) × Int × Unit ⊕ Empty) := iter (g_partitionEqual_b0 lt k) big x
noncomputable def g_partitionEqual {α : Type} [Inhabited α] (lt : α → α → Bool) (a0 : (List α)) (a1 : Int) (a2 : Int) (a3 : Int) : Option (Int × (List α) × Unit) :=
 (bif (rInR a0 a3) then (bif (rInR a0 a1) then (bif (rInR a0 a1) then (bif (rInR (rPut a0 a1 (rGet default a0 a3)) a3) then ((g_partitionEqual_l0 lt (a1, ()) ((rPut (rPut a0 a1 (rGet default a0 a3)) a3 (rGet default a0 a1)), (rArith .add .i64 a1 (1 : Int)), (rArith .sub .i64 a2 (1 : Int)), ())).bind fun q0 => (Sum.elim (fun y1 => some (y1.2.1, y1.1, ())) (fun q2 => (Empty.elim q2)) q0)) else none) else none) else none) else none)
noncomputable def g_partition_b0 {α : Type} [Inhabited α] (lt : α → α → Bool) (k : Int × Int × Unit) (x : (List α) × Int × Unit) : Option (((List α) × Int × Unit) ⊕ ((List α) × Int × Unit ⊕ Empty)) :=
 (bif (rCmp .leq x.2.1 k.2.1) then (bif (rInR x.1 x.2.1) then (bif (rInR x.1 k.1) then ((some (lt (rGet default x.1 x.2.1) (rGet default x.1 k.1), ())).bind fun y0 => (bif y0.1 then some (.inl (x.1, (rArith .add .i64 x.2.1 (1 : Int)), ())) else some (.inr (.inl (x.1, x.2.1, ()))))) else none) else none) else some (.inr (.inl (x.1, x.2.1, ()))))
noncomputable def g_partition_l0 {α : Type} [Inhabited α] (lt : α → α → Bool) (k : Int × Int × Unit) (x : (List α) × Int × Unit) : Option ((List α) × Int × Unit ⊕ Empty) := iter (g_partition_b0 lt k) big x
noncomputable def g_partition_b2 {α : Type} [Inhabited α] (lt : α → α → Bool) (k : Int × Int × Unit) (x : (List α) × Int × Unit) : Option (((List α) × Int × Unit) ⊕ ((List α) × Int × Unit ⊕ Empty)) :=
 (bif (rCmp .leq k.2.1 x.2.1) then (bif (rInR x.1 x.2.1) then (bif (rInR x.1 k.1) then ((some (lt (rGet default x.1 x.2.1) (rGet default x.1 k.1), ())).bind fun y0 => (bif (Bool.not y0.1) then some (.inl (x.1, (rArith .sub .i64 x.2.1 (1 : Int)), ())) else some (.inr (.inl (x.1, x.2.1, ()))))) else none) else none) else some (.inr (.inl (x.1, x.2.1, ()))))
noncomputable def g_partition_l2 {α : Type} [Inhabited α] (lt : α → α → Bool) (k : Int × Int × Unit) (x : (List α) × Int × Unit) : Option ((List α) × Int × Unit ⊕ Empty) := iter (g_partition_b2 lt k) big x
noncomputable def g_partition_b6 {α : Type} [Inhabited α] (lt : α → α → Bool) (k : Int × Int × Unit) (x : (List α) × Int × Unit) : Option (((List α) × Int × Unit) ⊕ ((List α) × Int × Unit ⊕ Empty)) :=
 (bif (rCmp .leq x.2.1 k.2.1) then (bif (rInR x.1 x.2.1) then (bif (rInR x.1 k.1) then ((some (lt (rGet default x.1 x.2.1) (rGet default x.1 k.1), ())).bind fun y0 => (bif y0.1 then some (.inl (x.1, (rArith .add .i64 x.2.1 (1 : Int)), ())) else some (.inr (.inl (x.1, x.2.1, ()))))) else none) else none) else some (.inr (.inl (x.1, x.2.1, ()))))
noncomputable def g_partition_l6 {α : Type} [Inhabited α] (lt : α → α → Bool) (k : Int × Int × Unit) (x : (List α) × Int × Unit) : Option ((List α) × Int × Unit ⊕ Empty) := iter (g_partition_b6 lt k) big x
noncomputable def g_partition_b8 {α : Type} [Inhabited α] (lt : α → α → Bool) (k : Int × Int × Unit) (x : (List α) × Int × Unit) : Option (((List α) × Int × Unit) ⊕ ((List α) × Int × Unit ⊕ Empty)) :=
 (bif (rCmp .leq k.2.1 x.2.1) then (bif (rInR x.1 x.2.1) then (bif (rInR x.1 k.1) then ((some (lt (rGet default x.1 x.2.1) (rGet default x.1 k.1), ())).bind fun y0 => (bif (Bool.not y0.1) then some (.inl (x.1, (rArith .sub .i64 x.2.1 (1 : Int)), ())) else some (.inr (.inl (x.1, x.2.1, ()))))) else none) else none) else some (.inr (.inl (x.1, x.2.1, ()))))
noncomputable def g_partition_l8 {α : Type} [Inhabited α] (lt : α → α → Bool) (k : Int × Int × Unit) (x : (List α) × Int × Unit) : Option ((List α) × Int × Unit ⊕ Empty) := iter (g_partition_b8 lt k) big x
noncomputable def g_partition_b4 {α : Type} [Inhabited α] (lt : α → α → Bool) (k : Int × Unit) (x : (List α) × Int × Int × Unit) : Option (((List α) × Int × Int × Unit) ⊕ ((List α) × Int × Unit ⊕ Empty)) :=
 ((g_partition_l6 lt (k.1, x.2.2.1, ()) (x.1, x.2.1, ())).bind fun q0 => (Sum.elim (fun y1 => ((g_partition_l8 lt (k.1, y1.2.1, ()) (y1.1, x.2.2.1, ())).bind fun q2 => (Sum.elim (fun y3 => (bif (rCmp .gtr y1.2.1 y3.2.1) then some (.inr (.inl (y3.1, y3.2.1, ()))) else (bif (rInR y3.1 y3.2.1) then (bif (rInR y3.1 y1.2.1) then (bif (rInR y3.1 y1.2.1) then (bif (rInR (rPut y3.1 y1.2.1 (rGet default y3.1 y3.2.1)) y3.2.1) then some (.inl ((rPut (rPut y3.1 y1.2.1 (rGet default y3.1 y3.2.1)) y3.2.1 (rGet default y3.1 y1.2.1)), (rArith .add .i64 y1.2.1 (1 : Int)), (rArith .sub .i64 y3.2.1 (1 : Int)), ())) else none) else none) else none) else none))) (fun q4 => (Empty.elim q4)) q2))) (fun q2 => (Empty.elim q2)) q0))
noncomputable def g_partition_l4 {α : Type} [Inhabited α] (lt : α → α → Bool) (k : Int × Unit) (x : (List α) × Int × Int × Unit) : Option ((List α) × Int × Unit ⊕ Empty) := iter (g_partition_b4 lt k) big x
noncomputable def g_partition {α : Type} [Inhabited α] (lt : α → α → Bool) (a0 : (List α)) (a1 : Int) (a2 : Int) (a3 : Int) : Option (Int × Bool × (List α) × Unit) :=
 (bif (rInR a0 a3) then (bif (rInR a0 a1) then (bif (rInR a0 a1) then (bif (rInR (rPut a0 a1 (rGet default a0 a3)) a3) then ((g_partition_l0 lt (a1, (rArith .sub .i64 a2 (1 : Int)), ()) ((rPut (rPut a0 a1 (rGet default a0 a3)) a3 (rGet default a0 a1)), (rArith .add .i64 a1 (1 : Int)), ())).bind fun q0 => (Sum.elim (fun y1 => ((g_partition_l2 lt (a1, y1.2.1, ()) (y1.1, (rArith .sub .i64 a2 (1 : Int)), ())).bind fun q2 => (Sum.elim (fun y3 => (bif (rCmp .gtr y1.2.1 y3.2.1) then (bif (rInR y3.1 a1) then (bif (rInR y3.1 y3.2.1) then (bif (rInR y3.1 y3.2.1) then (bif (rInR (rPut y3.1 y3.2.1 (rGet default y3.1 a1)) a1) then some (y3.2.1, true, (rPut (rPut y3.1 y3.2.1 (rGet default y3.1 a1)) a1 (rGet default y3.1 y3.2.1)), ()) else none) else none) else none) else none) else (bif (rInR y3.1 y3.2.1) then (bif (rInR y3.1 y1.2.1) then (bif (rInR y3.1 y1.2.1) then (bif (rInR (rPut y3.1 y1.2.1 (rGet default y3.1 y3.2.1)) y3.2.1) then ((g_partition_l4 lt (a1, ()) ((rPut (rPut y3.1 y1.2.1 (rGet default y3.1 y3.2.1)) y3.2.1 (rGet default y3.1 y1.2.1)), (rArith .add .i64 y1.2.1 (1 : Int)), (rArith .sub .i64 y3.2.1 (1 : Int)), ())).bind fun q4 => (Sum.elim (fun y5 => (bif (rInR y5.1 a1) then (bif (rInR y5.1 y5.2.1) then (bif (rInR y5.1 y5.2.1) then (bif (rInR (rPut y5.1 y5.2.1 (rGet default y5.1 a1)) a1) then some (y5.2.1, false, (rPut (rPut y5.1 y5.2.1 (rGet default y5.1 a1)) a1 (rGet default y5.1 y5.2.1)), ()) else none) else none) else none) else none)) (fun q6 => (Empty.elim q6)) q4)) else none) else none) else none) else none))) (fun q4 => (Empty.elim q4)) q2))) (fun q2 => (Empty.elim q2)) q0)) else none) else none) else none) else none)
noncomputable def g_pdqsort_b0 {α : Type} [Inhabited α] (lt : α → α → Bool) (rec : (List α) → Int → Int → Int → Option ((List α) × Unit)) (k : Unit) (x : (List α) × Int × Int × Int × Bool × Bool × Unit) : Option (((List α) × Int × Int × Int × Bool × Bool × Unit) ⊕ ((List α) × Unit ⊕ Empty)) :=
 (bif (rCmp .leq (rArith .sub .i64 x.2.2.1 x.2.1) (12 : Int)) then ((g_insertionSort lt x.1 x.2.1 x.2.2.1).bind fun y0 => some (.inr (.inl (y0.1, ())))) else (bif (rCmp .eql x.2.2.2.1 (0 : Int)) then ((g_heapSort lt x.1 x.2.1 x.2.2.1).bind fun y0 => some (.inr (.inl (y0.1, ())))) else (bif (Bool.not x.2.2.2.2.1) then ((g_breakPatterns lt x.1 x.2.1 x.2.2.1).bind fun y0 => ((g_choosePivot lt y0.1 x.2.1 x.2.2.1).bind fun y1 => (bif (rCmp .eql y1.2.1 (2 : Int)) then ((g_reverseRange lt y0.1 x.2.1 x.2.2.1).bind fun y2 => (bif x.2.2.2.2.1 then (bif x.2.2.2.2.2.1 then (bif (rCmp .eql (1 : Int) (1 : Int)) then ((g_partialInsertionSort lt y2.1 x.2.1 x.2.2.1).bind fun y3 => (bif y3.1 then some (.inr (.inl (y3.2.1, ()))) else (bif (rCmp .gtr x.2.1 (0 : Int)) then (bif (rInR y3.2.1 (rArith .sub .i64 x.2.1 (1 : Int))) then (bif (rInR y3.2.1 (rArith .sub .i64 (rArith .sub .i64 x.2.2.1 (1 : Int)) (rArith .sub .i64 y1.1 x.2.1))) then ((some (lt (rGet default y3.2.1 (rArith .sub .i64 x.2.1 (1 : Int))) (rGet default y3.2.1 (rArith .sub .i64 (rArith .sub .i64 x.2.2.1 (1 : Int)) (rArith .sub .i64 y1.1 x.2.1))), ())).bind fun y4 => (bif (Bool.not y4.1) then ((g_partitionEqual lt y3.2.1 x.2.1 x.2.2.1 (rArith .sub .i64 (rArith .sub .i64 x.2.2.1 (1 : Int)) (rArith .sub .i64 y1.1 x.2.1))).bind fun y5 => some (.inl (y5.2.1, y5.1, x.2.2.1, (rArith .sub .i64 x.2.2.2.1 (1 : Int)), x.2.2.2.2.1, x.2.2.2.2.2.1, ()))) else ((g_partition lt y3.2.1 x.2.1 x.2.2.1 (rArith .sub .i64 (rArith .sub .i64 x.2.2.1 (1 : Int)) (rArith .sub .i64 y1.1 x.2.1))).bind fun y5 => (bif (rIsZero (8 : Int)) then none else (bif (rCmp .lss (rArith .sub .i64 y5.1 x.2.1) (rArith .sub .i64 x.2.2.1 y5.1)) then ((rec y5.2.2.1 x.2.1 y5.1 (rArith .sub .i64 x.2.2.2.1 (1 : Int))).bind fun y6 => some (.inl (y6.1, (rArith .add .i64 y5.1 (1 : Int)), x.2.2.1, (rArith .sub .i64 x.2.2.2.1 (1 : Int)), (rCmp .geq (rArith .sub .i64 y5.1 x.2.1) (rArith .quo .i64 (rArith .sub .i64 x.2.2.1 x.2.1) (8 : Int))), y5.2.1, ()))) else ((rec y5.2.2.1 (rArith .add .i64 y5.1 (1 : Int)) x.2.2.1 (rArith .sub .i64 x.2.2.2.1 (1 : Int))).bind fun y6 => some (.inl (y6.1, x.2.1, y5.1, (rArith .sub .i64 x.2.2.2.1 (1 : Int)), (rCmp .geq (rArith .sub .i64 x.2.2.1 y5.1) (rArith .quo .i64 (rArith .sub .i64 x.2.2.1 x.2.1) (8 : Int))), y5.2.1, ())))))))) else none) else none) else ((g_partition lt y3.2.1 x.2.1 x.2.2.1 (rArith .sub .i64 (rArith .sub .i64 x.2.2.1 (1 : Int)) (rArith .sub .i64 y1.1 x.2.1))).bind fun y4 => (bif (rIsZero (8 : Int)) then none else (bif (rCmp .lss (rArith .sub .i64 y4.1 x.2.1) (rArith .sub .i64 x.2.2.1 y4.1)) then ((rec y4.2.2.1 x.2.1 y4.1 (rArith .sub .i64 x.2.2.2.1 (1 : Int))).bind fun y5 => some (.inl (y5.1, (rArith .add .i64 y4.1 (1 : Int)), x.2.2.1, (rArith .sub .i64 x.2.2.2.1 (1 : Int)), (rCmp .geq (rArith .sub .i64 y4.1 x.2.1) (rArith .quo .i64 (rArith .sub .i64 x.2.2.1 x.2.1) (8 : Int))), y4.2.1, ()))) else ((rec y4.2.2.1 (rArith .add .i64 y4.1 (1 : Int)) x.2.2.1 (rArith .sub .i64 x.2.2.2.1 (1 : Int))).bind fun y5 => some (.inl (y5.1, x.2.1, y4.1, (rArith .sub .i64 x.2.2.2.1 (1 : Int)), (rCmp .geq (rArith .sub .i64 x.2.2.1 y4.1) (rArith .quo .i64 (rArith .sub .i64 x.2.2.1 x.2.1) (8 : Int))), y4.2.1, ()))))))))) else (bif (rCmp .gtr x.2.1 (0 : Int)) then (bif (rInR y2.1 (rArith .sub .i64 x.2.1 (1 : Int))) then (bif (rInR y2.1 (rArith .sub .i64 (rArith .sub .i64 x.2.2.1 (1 : Int)) (rArith .sub .i64 y1.1 x.2.1))) then ((some (lt (rGet default y2.1 (rArith .sub .i64 x.2.1 (1 : Int))) (rGet default y2.1 (rArith .sub .i64 (rArith .sub .i64 x.2.2.1 (1 : Int)) (rArith .sub .i64 y1.1 x.2.1))), ())).bind fun y3 => (bif (Bool.not y3.1) then ((g_partitionEqual lt y2.1 x.2.1 x.2.2.1 (rArith .sub .i64 (rArith .sub .i64 x.2.2.1 (1 : Int)) (rArith .sub .i64 y1.1 x.2.1))).bind fun y4 => some (.inl (y4.2.1, y4.1, x.2.2.1, (rArith .sub .i64 x.2.2.2.1 (1 : Int)), x.2.2.2.2.1, x.2.2.2.2.2.1, ()))) else ((g_partition lt y2.1 x.2.1 x.2.2.1 (rArith .sub .i64 (rArith .sub .i64 x.2.2.1 (1 : Int)) (rArith .sub .i64 y1.1 x.2.1))).bind fun y4 => (bif (rIsZero (8 : Int)) then none else (bif (rCmp .lss (rArith .sub .i64 y4.1 x.2.1) (rArith .sub .i64 x.2.2.1 y4.1)) then ((rec y4.2.2.1 x.2.1 y4.1 (rArith .sub .i64 x.2.2.2.1 (1 : Int))).bind fun y5 => some (.inl (y5.1, (rArith .add .i64 y4.1 (1 : Int)), x.2.2.1, (rArith .sub .i64 x.2.2.2.1 (1 : Int)), (rCmp .geq (rArith .sub .i64 y4.1 x.2.1) (rArith .quo .i64 (rArith .sub .i64 x.2.2.1 x.2.1) (8 : Int))), y4.2.1, ()))) else ((rec y4.2.2.1 (rArith .add .i64 y4.1 (1 : Int)) x.2.2.1 (rArith .sub .i64 x.2.2.2.1 (1 : Int))).bind fun y5 => some (.inl (y5.1, x.2.1, y4.1, (rArith .sub .i64 x.2.2.2.1 (1 : Int)), (rCmp .geq (rArith .sub .i64 x.2.2.1 y4.1) (rArith .quo .i64 (rArith .sub .i64 x.2.2.1 x.2.1) (8 : Int))), y4.2.1, ())))))))) else none) else none) else ((g_partition lt y2.1 x.2.1 x.2.2.1 (rArith .sub .i64 (rArith .sub .i64 x.2.2.1 (1 : Int)) (rArith .sub .i64 y1.1 x.2.1))).bind fun y3 => (bif (rIsZero (8 : Int)) then none else (bif (rCmp .lss (rArith .sub .i64 y3.1 x.2.1) (rArith .sub .i64 x.2.2.1 y3.1)) then ((rec y3.2.2.1 x.2.1 y3.1 (rArith .sub .i64 x.2.2.2.1 (1 : Int))).bind fun y4 => some (.inl (y4.1, (rArith .add .i64 y3.1 (1 : Int)), x.2.2.1, (rArith .sub .i64 x.2.2.2.1 (1 : Int)), (rCmp .geq (rArith .sub .i64 y3.1 x.2.1) (rArith .quo .i64 (rArith .sub .i64 x.2.2.1 x.2.1) (8 : Int))), y3.2.1, ()))) else ((rec y3.2.2.1 (rArith .add .i64 y3.1 (1 : Int)) x.2.2.1 (rArith .sub .i64 x.2.2.2.1 (1 : Int))).bind fun y4 => some (.inl (y4.1, x.2.1, y3.1, (rArith .sub .i64 x.2.2.2.1 (1 : Int)), (rCmp .geq (rArith .sub .i64 x.2.2.1 y3.1) (rArith .quo .i64 (rArith .sub .i64 x.2.2.1 x.2.1) (8 : Int))), y3.2.1, ())))))))) else (bif (rCmp .gtr x.2.1 (0 : Int)) then (bif (rInR y2.1 (rArith .sub .i64 x.2.1 (1 : Int))) then (bif (rInR y2.1 (rArith .sub .i64 (rArith .sub .i64 x.2.2.1 (1 : Int)) (rArith .sub .i64 y1.1 x.2.1))) then ((some (lt (rGet default y2.1 (rArith .sub .i64 x.2.1 (1 : Int))) (rGet default y2.1 (rArith .sub .i64 (rArith .sub .i64 x.2.2.1 (1 : Int)) (rArith .sub .i64 y1.1 x.2.1))), ())).bind fun y3 => (bif (Bool.not y3.1) then ((g_partitionEqual lt y2.1 x.2.1 x.2.2.1 (rArith .sub .i64 (rArith .sub .i64 x.2.2.1 (1 : Int)) (rArith .sub .i64 y1.1 x.2.1))).bind fun y4 => some (.inl (y4.2.1, y4.1, x.2.2.1, (rArith .sub .i64 x.2.2.2.1 (1 : Int)), x.2.2.2.2.1, x.2.2.2.2.2.1, ()))) else ((g_partition lt y2.1 x.2.1 x.2.2.1 (rArith .sub .i64 (rArith .sub .i64 x.2.2.1 (1 : Int)) (rArith .sub .i64 y1.1 x.2.1))).bind fun y4 => (bif (rIsZero (8 : Int)) then none else (bif (rCmp .lss (rArith .sub .i64 y4.1 x.2.1) (rArith .sub .i64 x.2.2.1 y4.1)) then ((rec y4.2.2.1 x.2.1 y4.1 (rArith .sub .i64 x.2.2.2.1 (1 : Int))).bind fun y5 => some (.inl (y5.1, (rArith .add .i64 y4.1 (1 : Int)), x.2.2.1, (rArith .sub .i64 x.2.2.2.1 (1 : Int)), (rCmp .geq (rArith .sub .i64 y4.1 x.2.1) (rArith .quo .i64 (rArith .sub .i64 x.2.2.1 x.2.1) (8 : Int))), y4.2.1, ()))) else ((rec y4.2.2.1 (rArith .add .i64 y4.1 (1 : Int)) x.2.2.1 (rArith .sub .i64 x.2.2.2.1 (1 : Int))).bind fun y5 => some (.inl (y5.1, x.2.1, y4.1, (rArith .sub .i64 x.2.2.2.1 (1 : Int)), (rCmp .geq (rArith .sub .i64 x.2.2.1 y4.1) (rArith .quo .i64 (rArith .sub .i64 x.2.2.1 x.2.1) (8 : Int))), y4.2.1, ())))))))) else none) else none) else ((g_partition lt y2.1 x.2.1 x.2.2.1 (rArith .sub .i64 (rArith .sub .i64 x.2.2.1 (1 : Int)) (rArith .sub .i64 y1.1 x.2.1))).bind fun y3 => (bif (rIsZero (8 : Int)) then none else (bif (rCmp .lss (rArith .sub .i64 y3.1 x.2.1) (rArith .sub .i64 x.2.2.1 y3.1)) then ((rec y3.2.2.1 x.2.1 y3.1 (rArith .sub .i64 x.2.2.2.1 (1 : Int))).bind fun y4 => some (.inl (y4.1, (rArith .add .i64 y3.1 (1 : Int)), x.2.2.1, (rArith .sub .i64 x.2.2.2.1 (1 : Int)), (rCmp .geq (rArith .sub .i64 y3.1 x.2.1) (rArith .quo .i64 (rArith .sub .i64 x.2.2.1 x.2.1) (8 : Int))), y3.2.1, ()))) else ((rec y3.2.2.1 (rArith .add .i64 y3.1 (1 : Int)) x.2.2.1 (rArith .sub .i64 x.2.2.2.1 (1 : Int))).bind fun y4 => some (.inl (y4.1, x.2.1, y3.1, (rArith .sub .i64 x.2.2.2.1 (1 : Int)), (rCmp .geq (rArith .sub .i64 x.2.2.1 y3.1) (rArith .quo .i64 (rArith .sub .i64 x.2.2.1 x.2.1) (8 : Int))), y3.2.1, ())))))))) else (bif (rCmp .gtr x.2.1 (0 : Int)) then (bif (rInR y2.1 (rArith .sub .i64 x.2.1 (1 : Int))) then (bif (rInR y2.1 (rArith .sub .i64 (rArith .sub .i64 x.2.2.1 (1 : Int)) (rArith .sub .i64 y1.1 x.2.1))) then ((some (lt (rGet default y2.1 (rArith .sub .i64 x.2.1 (1 : Int))) (rGet default y2.1 (rArith .sub .i64 (rArith .sub .i64 x.2.2.1 (1 : Int)) (rArith .sub .i64 y1.1 x.2.1))), ())).bind fun y3 => (bif (Bool.not y3.1) then ((g_partitionEqual lt y2.1 x.2.1 x.2.2.1 (rArith .sub .i64 (rArith .sub .i64 x.2.2.1 (1 : Int)) (rArith .sub .i64 y1.1 x.2.1))).bind fun y4 => some (.inl (y4.2.1, y4.1, x.2.2.1, (rArith .sub .i64 x.2.2.2.1 (1 : Int)), x.2.2.2.2.1, x.2.2.2.2.2.1, ()))) else ((g_partition lt y2.1 x.2.1 x.2.2.1 (rArith .sub .i64 (rArith .sub .i64 x.2.2.1 (1 : Int)) (rArith .sub .i64 y1.1 x.2.1))).bind fun y4 => (bif (rIsZero (8 : Int)) then none else (bif (rCmp .lss (rArith .sub .i64 y4.1 x.2.1) (rArith .sub .i64 x.2.2.1 y4.1)) then ((rec y4.2.2.1 x.2.1 y4.1 (rArith .sub .i64 x.2.2.2.1 (1 : Int))).bind fun y5 => some (.inl (y5.1, (rArith .add .i64 y4.1 (1 : Int)), x.2.2.1, (rArith .sub .i64 x.2.2.2.1 (1 : Int)), (rCmp .geq (rArith .sub .i64 y4.1 x.2.1) (rArith .quo .i64 (rArith .sub .i64 x.2.2.1 x.2.1) (8 : Int))), y4.2.1, ()))) else ((rec y4.2.2.1 (rArith .add .i64 y4.1 (1 : Int)) x.2.2.1 (rArith .sub .i64 x.2.2.2.1 (1 : Int))).bind fun y5 => some (.inl (y5.1, x.2.1, y4.1, (rArith .sub .i64 x.2.2.2.1 (1 : Int)), (rCmp .geq (rArith .sub .i64 x.2.2.1 y4.1) (rArith .quo .i64 (rArith .sub .i64 x.2.2.1 x.2.1) (8 : Int))), y4.2.1, ())))))))) else none) else none) else ((g_partition lt y2.1 x.2.1 x.2.2.1 (rArith .sub .i64 (rArith .sub .i64 x.2.2.1 (1 : Int)) (rArith .sub .i64 y1.1 x.2.1))).bind fun y3 => (bif (rIsZero (8 : Int)) then none else (bif (rCmp .lss (rArith .sub .i64 y3.1 x.2.1) (rArith .sub .i64 x.2.2.1 y3.1)) then ((rec y3.2.2.1 x.2.1 y3.1 (rArith .sub .i64 x.2.2.2.1 (1 : Int))).bind fun y4 => some (.inl (y4.1, (rArith .add .i64 y3.1 (1 : Int)), x.2.2.1, (rArith .sub .i64 x.2.2.2.1 (1 : Int)), (rCmp .geq (rArith .sub .i64 y3.1 x.2.1) (rArith .quo .i64 (rArith .sub .i64 x.2.2.1 x.2.1) (8 : Int))), y3.2.1, ()))) else ((rec y3.2.2.1 (rArith .add .i64 y3.1 (1 : Int)) x.2.2.1 (rArith .sub .i64 x.2.2.2.1 (1 : Int))).bind fun y4 => some (.inl (y4.1, x.2.1, y3.1, (rArith .sub .i64 x.2.2.2.1 (1 : Int)), (rCmp .geq (rArith .sub .i64 x.2.2.1 y3.1) (rArith .quo .i64 (rArith .sub .i64 x.2.2.1 x.2.1) (8 : Int))), y3.2.1, ()))))))))) else (bif x.2.2.2.2.1 then (bif x.2.2.2.2.2.1 then (bif (rCmp .eql y1.2.1 (1 : Int)) then ((g_partialInsertionSort lt y0.1 x.2.1 x.2.2.1).bind fun y2 => (bif y2.1 then some (.inr (.inl (y2.2.1, ()))) else (bif (rCmp .gtr x.2.1 (0 : Int)) then (bif (rInR y2.2.1 (rArith .sub .i64 x.2.1 (1 : Int))) then (bif (rInR y2.2.1 y1.1) then ((some (lt (rGet default y2.2.1 (rArith .sub .i64 x.2.1 (1 : Int))) (rGet default y2.2.1 y1.1), ())).bind fun y3 => (bif (Bool.not y3.1) then ((g_partitionEqual lt y2.2.1 x.2.1 x.2.2.1 y1.1).bind fun y4 => some (.inl (y4.2.1, y4.1, x.2.2.1, (rArith .sub .i64 x.2.2.2.1 (1 : Int)), x.2.2.2.2.1, x.2.2.2.2.2.1, ()))) else ((g_partition lt y2.2.1 x.2.1 x.2.2.1 y1.1).bind fun y4 => (bif (rIsZero (8 : Int)) then none else (bif (rCmp .lss (rArith .sub .i64 y4.1 x.2.1) (rArith .sub .i64 x.2.2.1 y4.1)) then ((rec y4.2.2.1 x.2.1 y4.1 (rArith .sub .i64 x.2.2.2.1 (1 : Int))).bind fun y5 => some (.inl (y5.1, (rArith .add .i64 y4.1 (1 : Int)), x.2.2.1, (rArith .sub .i64 x.2.2.2.1 (1 : Int)), (rCmp .geq (rArith .sub .i64 y4.1 x.2.1) (rArith .quo .i64 (rArith .sub .i64 x.2.2.1 x.2.1) (8 : Int))), y4.2.1, ()))) else ((rec y4.2.2.1 (rArith .add .i64 y4.1 (1 : Int)) x.2.2.1 (rArith .sub .i64 x.2.2.2.1 (1 : Int))).bind fun y5 => some (.inl (y5.1, x.2.1, y4.1, (rArith .sub .i64 x.2.2.2.1 (1 : Int)), (rCmp .geq (rArith .sub .i64 x.2.2.1 y4.1) (rArith .quo .i64 (rArith .sub .i64 x.2.2.1 x.2.1) (8 : Int))), y4.2.1, ())))))))) else none) else none) else ((g_partition lt y2.2.1 x.2.1 x.2.2.1 y1.1).bind fun y3 => (bif (rIsZero (8 : Int)) then none else (bif (rCmp .lss (rArith .sub .i64 y3.1 x.2.1) (rArith .sub .i64 x.2.2.1 y3.1)) then ((rec y3.2.2.1 x.2.1 y3.1 (rArith .sub .i64 x.2.2.2.1 (1 : Int))).bind fun y4 => some (.inl (y4.1, (rArith .add .i64 y3.1 (1 : Int)), x.2.2.1, (rArith .sub .i64 x.2.2.2.1 (1 : Int)), (rCmp .geq (rArith .sub .i64 y3.1 x.2.1) (rArith .quo .i64 (rArith .sub .i64 x.2.2.1 x.2.1) (8 : Int))), y3.2.1, ()))) else ((rec y3.2.2.1 (rArith .add .i64 y3.1 (1 : Int)) x.2.2.1 (rArith .sub .i64 x.2.2.2.1 (1 : Int))).bind fun y4 => some (.inl (y4.1, x.2.1, y3.1, (rArith .sub .i64 x.2.2.2.1 (1 : Int)), (rCmp .geq (rArith .sub .i64 x.2.2.1 y3.1) (rArith .quo .i64 (rArith .sub .i64 x.2.2.1 x.2.1) (8 : Int))), y3.2.1, ()))))))))) else (bif (rCmp .gtr x.2.1 (0 : Int)) then (bif (rInR y0.1 (rArith .sub .i64 x.2.1 (1 : Int))) then (bif (rInR y0.1 y1.1) then ((some (lt (rGet default y0.1 (rArith .sub .i64 x.2.1 (1 : Int))) (rGet default y0.1 y1.1), ())).bind fun y2 => (bif (Bool.not y2.1) then ((g_partitionEqual lt y0.1 x.2.1 x.2.2.1 y1.1).bind fun y3 => some (.inl (y3.2.1, y3.1, x.2.2.1, (rArith .sub .i64 x.2.2.2.1 (1 : Int)), x.2.2.2.2.1, x.2.2.2.2.2.1, ()))) else ((g_partition lt y0.1 x.2.1 x.2.2.1 y1.1).bind fun y3 => (bif (rIsZero (8 : Int)) then none else (bif (rCmp .lss (rArith .sub .i64 y3.1 x.2.1) (rArith .sub .i64 x.2.2.1 y3.1)) then ((rec y3.2.2.1 x.2.1 y3.1 (rArith .sub .i64 x.2.2.2.1 (1 : Int))).bind fun y4 => some (.inl (y4.1, (rArith .add .i64 y3.1 (1 : Int)), x.2.2.1, (rArith .sub .i64 x.2.2.2.1 (1 : Int)), (rCmp .geq (rArith .sub .i64 y3.1 x.2.1) (rArith .quo .i64 (rArith .sub .i64 x.2.2.1 x.2.1) (8 : Int))), y3.2.1, ()))) else ((rec y3.2.2.1 (rArith .add .i64 y3.1 (1 : Int)) x.2.2.1 (rArith .sub .i64 x.2.2.2.1 (1 : Int))).bind fun y4 => some (.inl (y4.1, x.2.1, y3.1, (rArith .sub .i64 x.2.2.2.1 (1 : Int)), (rCmp .geq (rArith .sub .i64 x.2.2.1 y3.1) (rArith .quo .i64 (rArith .sub .i64 x.2.2.1 x.2.1) (8 : Int))), y3.2.1, ())))))))) else none) else none) else ((g_partition lt y0.1 x.2.1 x.2.2.1 y1.1).bind fun y2 => (bif (rIsZero (8 : Int)) then none else (bif (rCmp .lss (rArith .sub .i64 y2.1 x.2.1) (rArith .sub .i64 x.2.2.1 y2.1)) then ((rec y2.2.2.1 x.2.1 y2.1 (rArith .sub .i64 x.2.2.2.1 (1 : Int))).bind fun y3 => some (.inl (y3.1, (rArith .add .i64 y2.1 (1 : Int)), x.2.2.1, (rArith .sub .i64 x.2.2.2.1 (1 : Int)), (rCmp .geq (rArith .sub .i64 y2.1 x.2.1) (rArith .quo .i64 (rArith .sub .i64 x.2.2.1 x.2.1) (8 : Int))), y2.2.1, ()))) else ((rec y2.2.2.1 (rArith .add .i64 y2.1 (1 : Int)) x.2.2.1 (rArith .sub .i64 x.2.2.2.1 (1 : Int))).bind fun y3 => some (.inl (y3.1, x.2.1, y2.1, (rArith .sub .i64 x.2.2.2.1 (1 : Int)), (rCmp .geq (rArith .sub .i64 x.2.2.1 y2.1) (rArith .quo .i64 (rArith .sub .i64 x.2.2.1 x.2.1) (8 : Int))), y2.2.1, ())))))))) else (bif (rCmp .gtr x.2.1 (0 : Int)) then (bif (rInR y0.1 (rArith .sub .i64 x.2.1 (1 : Int))) then (bif (rInR y0.1 y1.1) then ((some (lt (rGet default y0.1 (rArith .sub .i64 x.2.1 (1 : Int))) (rGet default y0.1 y1.1), ())).bind fun y2 => (bif (Bool.not y2.1) then ((g_partitionEqual lt y0.1 x.2.1 x.2.2.1 y1.1).bind fun y3 => some (.inl (y3.2.1, y3.1, x.2.2.1, (rArith .sub .i64 x.2.2.2.1 (1 : Int)), x.2.2.2.2.1, x.2.2.2.2.2.1, ()))) else ((g_partition lt y0.1 x.2.1 x.2.2.1 y1.1).bind fun y3 => (bif (rIsZero (8 : Int)) then none else (bif (rCmp .lss (rArith .sub .i64 y3.1 x.2.1) (rArith .sub .i64 x.2.2.1 y3.1)) then ((rec y3.2.2.1 x.2.1 y3.1 (rArith .sub .i64 x.2.2.2.1 (1 : Int))).bind fun y4 => some (.inl (y4.1, (rArith .add .i64 y3.1 (1 : Int)), x.2.2.1, (rArith .sub .i64 x.2.2.2.1 (1 : Int)), (rCmp .geq (rArith .sub .i64 y3.1 x.2.1) (rArith .quo .i64 (rArith .sub .i64 x.2.2.1 x.2.1) (8 : Int))), y3.2.1, ()))) else ((rec y3.2.2.1 (rArith .add .i64 y3.1 (1 : Int)) x.2.2.1 (rArith .sub .i64 x.2.2.2.1 (1 : Int))).bind fun y4 => some (.inl (y4.1, x.2.1, y3.1, (rArith .sub .i64 x.2.2.2.1 (1 : Int)), (rCmp .geq (rArith .sub .i64 x.2.2.1 y3.1) (rArith .quo .i64 (rArith .sub .i64 x.2.2.1 x.2.1) (8 : Int))), y3.2.1, ())))))))) else none) else none) else ((g_partition lt y0.1 x.2.1 x.2.2.1 y1.1).bind fun y2 => (bif (rIsZero (8 : Int)) then none else (bif (rCmp .lss (rArith .sub .i64 y2.1 x.2.1) (rArith .sub .i64 x.2.2.1 y2.1)) then ((rec y2.2.2.1 x.2.1 y2.1 (rArith .sub .i64 x.2.2.2.1 (1 : Int))).bind fun y3 => some (.inl (y3.1, (rArith .add .i64 y2.1 (1 : Int)), x.2.2.1, (rArith .sub .i64 x.2.2.2.1 (1 : Int)), (rCmp .geq (rArith .sub .i64 y2.1 x.2.1) (rArith .quo .i64 (rArith .sub .i64 x.2.2.1 x.2.1) (8 : Int))), y2.2.1, ()))) else ((rec y2.2.2.1 (rArith .add .i64 y2.1 (1 : Int)) x.2.2.1 (rArith .sub .i64 x.2.2.2.1 (1 : Int))).bind fun y3 => some (.inl (y3.1, x.2.1, y2.1, (rArith .sub .i64 x.2.2.2.1 (1 : Int)), (rCmp .geq (rArith .sub .i64 x.2.2.1 y2.1) (rArith .quo .i64 (rArith .sub .i64 x.2.2.1 x.2.1) (8 : Int))), y2.2.1, ())))))))) else (bif (rCmp .gtr x.2.1 (0 : Int)) then (bif (rInR y0.1 (rArith .sub .i64 x.2.1 (1 : Int))) then (bif (rInR y0.1 y1.1) then ((some (lt (rGet default y0.1 (rArith .sub .i64 x.2.1 (1 : Int))) (rGet default y0.1 y1.1), ())).bind fun y2 => (bif (Bool.not y2.1) then ((g_partitionEqual lt y0.1 x.2.1 x.2.2.1 y1.1).bind fun y3 => some (.inl (y3.2.1, y3.1, x.2.2.1, (rArith .sub .i64 x.2.2.2.1 (1 : Int)), x.2.2.2.2.1, x.2.2.2.2.2.1, ()))) else ((g_partition lt y0.1 x.2.1 x.2.2.1 y1.1).bind fun y3 => (bif (rIsZero (8 : Int)) then none else (bif (rCmp .lss (rArith .sub .i64 y3.1 x.2.1) (rArith .sub .i64 x.2.2.1 y3.1)) then ((rec y3.2.2.1 x.2.1 y3.1 (rArith .sub .i64 x.2.2.2.1 (1 : Int))).bind fun y4 => some (.inl (y4.1, (rArith .add .i64 y3.1 (1 : Int)), x.2.2.1, (rArith .sub .i64 x.2.2.2.1 (1 : Int)), (rCmp .geq (rArith .sub .i64 y3.1 x.2.1) (rArith .quo .i64 (rArith .sub .i64 x.2.2.1 x.2.1) (8 : Int))), y3.2.1, ()))) else ((rec y3.2.2.1 (rArith .add .i64 y3.1 (1 : Int)) x.2.2.1 (rArith .sub .i64 x.2.2.2.1 (1 : Int))).bind fun y4 => some (.inl (y4.1, x.2.1, y3.1, (rArith .sub .i64 x.2.2.2.1 (1 : Int)), (rCmp .geq (rArith .sub .i64 x.2.2.1 y3.1) (rArith .quo .i64 (rArith .sub .i64 x.2.2.1 x.2.1) (8 : Int))), y3.2.1, ())))))))) else none) else none) else ((g_partition lt y0.1 x.2.1 x.2.2.1 y1.1).bind fun y2 => (bif (rIsZero (8 : Int)) then none else (bif (rCmp .lss (rArith .sub .i64 y2.1 x.2.1) (rArith .sub .i64 x.2.2.1 y2.1)) then ((rec y2.2.2.1 x.2.1 y2.1 (rArith .sub .i64 x.2.2.2.1 (1 : Int))).bind fun y3 => some (.inl (y3.1, (rArith .add .i64 y2.1 (1 : Int)), x.2.2.1, (rArith .sub .i64 x.2.2.2.1 (1 : Int)), (rCmp .geq (rArith .sub .i64 y2.1 x.2.1) (rArith .quo .i64 (rArith .sub .i64 x.2.2.1 x.2.1) (8 : Int))), y2.2.1, ()))) else ((rec y2.2.2.1 (rArith .add .i64 y2.1 (1 : Int)) x.2.2.1 (rArith .sub .i64 x.2.2.2.1 (1 : Int))).bind fun y3 => some (.inl (y3.1, x.2.1, y2.1, (rArith .sub .i64 x.2.2.2.1 (1 : Int)), (rCmp .geq (rArith .sub .i64 x.2.2.1 y2.1) (rArith .quo .i64 (rArith .sub .i64 x.2.2.1 x.2.1) (8 : Int))), y2.2.1, ()))))))))))) else ((g_choosePivot lt x.1 x.2.1 x.2.2.1).bind fun y0 => (bif (rCmp .eql y0.2.1 (2 : Int)) then ((g_reverseRange lt x.1 x.2.1 x.2.2.1).bind fun y1 => (bif x.2.2.2.2.1 then (bif x.2.2.2.2.2.1 then (bif (rCmp .eql (1 : Int) (1 : Int)) then ((g_partialInsertionSort lt y1.1 x.2.1 x.2.2.1).bind fun y2 => (bif y2.1 then some (.inr (.inl (y2.2.1, ()))) else (bif (rCmp .gtr x.2.1 (0 : Int)) then (bif (rInR y2.2.1 (rArith .sub .i64 x.2.1 (1 : Int))) then (bif (rInR y2.2.1 (rArith .sub .i64 (rArith .sub .i64 x.2.2.1 (1 : Int)) (rArith .sub .i64 y0.1 x.2.1))) then ((some (lt (rGet default y2.2.1 (rArith .sub .i64 x.2.1 (1 : Int))) (rGet default y2.2.1 (rArith .sub .i64 (rArith .sub .i64 x.2.2.1 (1 : Int)) (rArith .sub .i64 y0.1 x.2.1))), ())).bind fun y3 => (bif (Bool.not y3.1) then ((g_partitionEqual lt y2.2.1 x.2.1 x.2.2.1 (rArith .sub .i64 (rArith .sub .i64 x.2.2.1 (1 : Int)) (rArith .sub .i64 y0.1 x.2.1))).bind fun y4 => some (.inl (y4.2.1, y4.1, x.2.2.1, x.2.2.2.1, x.2.2.2.2.1, x.2.2.2.2.2.1, ()))) else ((g_partition lt y2.2.1 x.2.1 x.2.2.1 (rArith .sub .i64 (rArith .sub .i64 x.2.2.1 (1 : Int)) (rArith .sub .i64 y0.1 x.2.1))).bind fun y4 => (bif (rIsZero (8 : Int)) then none else (bif (rCmp .lss (rArith .sub .i64 y4.1 x.2.1) (rArith .sub .i64 x.2.2.1 y4.1)) then ((rec y4.2.2.1 x.2.1 y4.1 x.2.2.2.1).bind fun y5 => some (.inl (y5.1, (rArith .add .i64 y4.1 (1 : Int)), x.2.2.1, x.2.2.2.1, (rCmp .geq (rArith .sub .i64 y4.1 x.2.1) (rArith .quo .i64 (rArith .sub .i64 x.2.2.1 x.2.1) (8 : Int))), y4.2.1, ()))) else ((rec y4.2.2.1 (rArith .add .i64 y4.1 (1 : Int)) x.2.2.1 x.2.2.2.1).bind fun y5 => some (.inl (y5.1, x.2.1, y4.1, x.2.2.2.1, (rCmp .geq (rArith .sub .i64 x.2.2.1 y4.1) (rArith .quo .i64 (rArith .sub .i64 x.2.2.1 x.2.1) (8 : Int))), y4.2.1, ())))))))) else none) else none) else ((g_partition lt y2.2.1 x.2.1 x.2.2.1 (rArith .sub .i64 (rArith .sub .i64 x.2.2.1 (1 : Int)) (rArith .sub .i64 y0.1 x.2.1))).bind fun y3 => (bif (rIsZero (8 : Int)) then none else (bif (rCmp .lss (rArith .sub .i64 y3.1 x.2.1) (rArith .sub .i64 x.2.2.1 y3.1)) then ((rec y3.2.2.1 x.2.1 y3.1 x.2.2.2.1).bind fun y4 => some (.inl (y4.1, (rArith .add .i64 y3.1 (1 : Int)), x.2.2.1, x.2.2.2.1, (rCmp .geq (rArith .sub .i64 y3.1 x.2.1) (rArith .quo .i64 (rArith .sub .i64 x.2.2.1 x.2.1) (8 : Int))), y3.2.1, ()))) else ((rec y3.2.2.1 (rArith .add .i64 y3.1 (1 : Int)) x.2.2.1 x.2.2.2.1).bind fun y4 => some (.inl (y4.1, x.2.1, y3.1, x.2.2.2.1, (rCmp .geq (rArith .sub .i64 x.2.2.1 y3.1) (rArith .quo .i64 (rArith .sub .i64 x.2.2.1 x.2.1) (8 : Int))), y3.2.1, ()))))))))) else (bif (rCmp .gtr x.2.1 (0 : Int)) then (bif (rInR y1.1 (rArith .sub .i64 x.2.1 (1 : Int))) then (bif (rInR y1.1 (rArith .sub .i64 (rArith .sub .i64 x.2.2.1 (1 : Int)) (rArith .sub .i64 y0.1 x.2.1))) then ((some (lt (rGet default y1.1 (rArith .sub .i64 x.2.1 (1 : Int))) (rGet default y1.1 (rArith .sub .i64 (rArith .sub .i64 x.2.2.1 (1 : Int)) (rArith .sub .i64 y0.1 x.2.1))), ())).bind fun y2 => (bif (Bool.not y2.1) then ((g_partitionEqual lt y1.1 x.2.1 x.2.2.1 (rArith .sub .i64 (rArith .sub .i64 x.2.2.1 (1 : Int)) (rArith .sub .i64 y0.1 x.2.1))).bind fun y3 => some (.inl (y3.2.1, y3.1, x.2.2.1, x.2.2.2.1, x.2.2.2.2.1, x.2.2.2.2.2.1, ()))) else ((g_partition lt y1.1 x.2.1 x.2.2.1 (rArith .sub .i64 (rArith .sub .i64 x.2.2.1 (1 : Int)) (rArith .sub .i64 y0.1 x.2.1))).bind fun y3 => (bif (rIsZero (8 : Int)) then none else (bif (rCmp .lss (rArith .sub .i64 y3.1 x.2.1) (rArith .sub .i64 x.2.2.1 y3.1)) then ((rec y3.2.2.1 x.2.1 y3.1 x.2.2.2.1).bind fun y4 => some (.inl (y4.1, (rArith .add .i64 y3.1 (1 : Int)), x.2.2.1, x.2.2.2.1, (rCmp .geq (rArith .sub .i64 y3.1 x.2.1) (rArith .quo .i64 (rArith .sub .i64 x.2.2.1 x.2.1) (8 : Int))), y3.2.1, ()))) else ((rec y3.2.2.1 (rArith .add .i64 y3.1 (1 : Int)) x.2.2.1 x.2.2.2.1).bind fun y4 => some (.inl (y4.1, x.2.1, y3.1, x.2.2.2.1, (rCmp .geq (rArith .sub .i64 x.2.2.1 y3.1) (rArith .quo .i64 (rArith .sub .i64 x.2.2.1 x.2.1) (8 : Int))), y3.2.1, ())))))))) else none) else none) else ((g_partition lt y1.1 x.2.1 x.2.2.1 (rArith .sub .i64 (rArith .sub .i64 x.2.2.1 (1 : Int)) (rArith .sub .i64 y0.1 x.2.1))).bind fun y2 => (bif (rIsZero (8 : Int)) then none else (bif (rCmp .lss (rArith .sub .i64 y2.1 x.2.1) (rArith .sub .i64 x.2.2.1 y2.1)) then ((rec y2.2.2.1 x.2.1 y2.1 x.2.2.2.1).bind fun y3 => some (.inl (y3.1, (rArith .add .i64 y2.1 (1 : Int)), x.2.2.1, x.2.2.2.1, (rCmp .geq (rArith .sub .i64 y2.1 x.2.1) (rArith .quo .i64 (rArith .sub .i64 x.2.2.1 x.2.1) (8 : Int))), y2.2.1, ()))) else ((rec y2.2.2.1 (rArith .add .i64 y2.1 (1 : Int)) x.2.2.1 x.2.2.2.1).bind fun y3 => some (.inl (y3.1, x.2.1, y2.1, x.2.2.2.1, (rCmp .geq (rArith .sub .i64 x.2.2.1 y2.1) (rArith .quo .i64 (rArith .sub .i64 x.2.2.1 x.2.1) (8 : Int))), y2.2.1, ())))))))) else (bif (rCmp .gtr x.2.1 (0 : Int)) then (bif (rInR y1.1 (rArith .sub .i64 x.2.1 (1 : Int))) then (bif (rInR y1.1 (rArith .sub .i64 (rArith .sub .i64 x.2.2.1 (1 : Int)) (rArith .sub .i64 y0.1 x.2.1))) then ((some (lt (rGet default y1.1 (rArith .sub .i64 x.2.1 (1 : Int))) (rGet default y1.1 (rArith .sub .i64 (rArith .sub .i64 x.2.2.1 (1 : Int)) (rArith .sub .i64 y0.1 x.2.1))), ())).bind fun y2 => (bif (Bool.not y2.1) then ((g_partitionEqual lt y1.1 x.2.1 x.2.2.1 (rArith .sub .i64 (rArith .sub .i64 x.2.2.1 (1 : Int)) (rArith .sub .i64 y0.1 x.2.1))).bind fun y3 => some (.inl (y3.2.1, y3.1, x.2.2.1, x.2.2.2.1, x.2.2.2.2.1, x.2.2.2.2.2.1, ()))) else ((g_partition lt y1.1 x.2.1 x.2.2.1 (rArith .sub .i64 (rArith .sub .i64 x.2.2.1 (1 : Int)) (rArith .sub .i64 y0.1 x.2.1))).bind fun y3 => (bif (rIsZero (8 : Int)) then none else (bif (rCmp .lss (rArith .sub .i64 y3.1 x.2.1) (rArith .sub .i64 x.2.2.1 y3.1)) then ((rec y3.2.2.1 x.2.1 y3.1 x.2.2.2.1).bind fun y4 => some (.inl (y4.1, (rArith .add .i64 y3.1 (1 : Int)), x.2.2.1, x.2.2.2.1, (rCmp .geq (rArith .sub .i64 y3.1 x.2.1) (rArith .quo .i64 (rArith .sub .i64 x.2.2.1 x.2.1) (8 : Int))), y3.2.1, ()))) else ((rec y3.2.2.1 (rArith .add .i64 y3.1 (1 : Int)) x.2.2.1 x.2.2.2.1).bind fun y4 => some (.inl (y4.1, x.2.1, y3.1, x.2.2.2.1, (rCmp .geq (rArith .sub .i64 x.2.2.1 y3.1) (rArith .quo .i64 (rArith .sub .i64 x.2.2.1 x.2.1) (8 : Int))), y3.2.1, ())))))))) else none) else none) else ((g_partition lt y1.1 x.2.1 x.2.2.1 (rArith .sub .i64 (rArith .sub .i64 x.2.2.1 (1 : Int)) (rArith .sub .i64 y0.1 x.2.1))).bind fun y2 => (bif (rIsZero (8 : Int)) then none else (bif (rCmp .lss (rArith .sub .i64 y2.1 x.2.1) (rArith .sub .i64 x.2.2.1 y2.1)) then ((rec y2.2.2.1 x.2.1 y2.1 x.2.2.2.1).bind fun y3 => some (.inl (y3.1, (rArith .add .i64 y2.1 (1 : Int)), x.2.2.1, x.2.2.2.1, (rCmp .geq (rArith .sub .i64 y2.1 x.2.1) (rArith .quo .i64 (rArith .sub .i64 x.2.2.1 x.2.1) (8 : Int))), y2.2.1, ()))) else ((rec y2.2.2.1 (rArith .add .i64 y2.1 (1 : Int)) x.2.2.1 x.2.2.2.1).bind fun y3 => some (.inl (y3.1, x.2.1, y2.1, x.2.2.2.1, (rCmp .geq (rArith .sub .i64 x.2.2.1 y2.1) (rArith .quo .i64 (rArith .sub .i64 x.2.2.1 x.2.1) (8 : Int))), y2.2.1, ())))))))) else (bif (rCmp .gtr x.2.1 (0 : Int)) then (bif (rInR y1.1 (rArith .sub .i64 x.2.1 (1 : Int))) then (bif (rInR y1.1 (rArith .sub .i64 (rArith .sub .i64 x.2.2.1 (1 : Int)) (rArith .sub .i64 y0.1 x.2.1))) then ((some (lt (rGet default y1.1 (rArith .sub .i64 x.2.1 (1 : Int))) (rGet default y1.1 (rArith .sub .i64 (rArith .sub .i64 x.2.2.1 (1 : Int)) (rArith .sub .i64 y0.1 x.2.1))), ())).bind fun y2 => (bif (Bool.not y2.1) then ((g_partitionEqual lt y1.1 x.2.1 x.2.2.1 (rArith .sub .i64 (rArith .sub .i64 x.2.2.1 (1 : Int)) (rArith .sub .i64 y0.1 x.2.1))).bind fun y3 => some (.inl (y3.2.1, y3.1, x.2.2.1, x.2.2.2.1, x.2.2.2.2.1, x.2.2.2.2.2.1, ()))) else ((g_partition lt y1.1 x.2.1 x.2.2.1 (rArith .sub .i64 (rArith .sub .i64 x.2.2.1 (1 : Int)) (rArith .sub .i64 y0.1 x.2.1))).bind fun y3 => (bif (rIsZero (8 : Int)) then none else (bif (rCmp .lss (rArith .sub .i64 y3.1 x.2.1) (rArith .sub .i64 x.2.2.1 y3.1)) then ((rec y3.2.2.1 x.2.1 y3.1 x.2.2.2.1).bind fun y4 => some (.inl (y4.1, (rArith .add .i64 y3.1 (1 : Int)), x.2.2.1, x.2.2.2.1, (rCmp .geq (rArith .sub .i64 y3.1 x.2.1) (rArith .quo .i64 (rArith .sub .i64 x.2.2.1 x.2.1) (8 : Int))), y3.2.1, ()))) else ((rec y3.2.2.1 (rArith .add .i64 y3.1 (1 : Int)) x.2.2.1 x.2.2.2.1).bind fun y4 => some (.inl (y4.1, x.2.1, y3.1, x.2.2.2.1, (rCmp .geq (rArith .sub .i64 x.2.2.1 y3.1) (rArith .quo .i64 (rArith .sub .i64 x.2.2.1 x.2.1) (8 : Int))), y3.2.1, ())))))))) else none) else none) else ((g_partition lt y1.1 x.2.1 x.2.2.1 (rArith .sub .i64 (rArith .sub .i64 x.2.2.1 (1 : Int)) (rArith .sub .i64 y0.1 x.2.1))).bind fun y2 => (bif (rIsZero (8 : Int)) then none else (bif (rCmp .lss (rArith .sub .i64 y2.1 x.2.1) (rArith .sub .i64 x.2.2.1 y2.1)) then ((rec y2.2.2.1 x.2.1 y2.1 x.2.2.2.1).bind fun y3 => some (.inl (y3.1, (rArith .add .i64 y2.1 (1 : Int)), x.2.2.1, x.2.2.2.1, (rCmp .geq (rArith .sub .i64 y2.1 x.2.1) (rArith .quo .i64 (rArith .sub .i64 x.2.2.1 x.2.1) (8 : Int))), y2.2.1, ()))) else ((rec y2.2.2.1 (rArith .add .i64 y2.1 (1 : Int)) x.2.2.1 x.2.2.2.1).bind fun y3 => some (.inl (y3.1, x.2.1, y2.1, x.2.2.2.1, (rCmp .geq (rArith .sub .i64 x.2.2.1 y2.1) (rArith .quo .i64 (rArith .sub .i64 x.2.2.1 x.2.1) (8 : Int))), y2.2.1, ()))))))))) else (bif x.2.2.2.2.1 then (bif x.2.2.2.2.2.1 then (bif (rCmp .eql y0.2.1 (1 : Int)) then ((g_partialInsertionSort lt x.1 x.2.1 x.2.2.1).bind fun y1 => (bif y1.1 then some (.inr (.inl (y1.2.1, ()))) else (bif (rCmp .gtr x.2.1 (0 : Int)) then (bif (rInR y1.2.1 (rArith .sub .i64 x.2.1 (1 : Int))) then (bif (rInR y1.2.1 y0.1) then ((some (lt (rGet default y1.2.1 (rArith .sub .i64 x.2.1 (1 : Int))) (rGet default y1.2.1 y0.1), ())).bind fun y2 => (bif (Bool.not y2.1) then ((g_partitionEqual lt y1.2.1 x.2.1 x.2.2.1 y0.1).bind fun y3 => some (.inl (y3.2.1, y3.1, x.2.2.1, x.2.2.2.1, x.2.2.2.2.1, x.2.2.2.2.2.1, ()))) else ((g_partition lt y1.2.1 x.2.1 x.2.2.1 y0.1).bind fun y3 => (bif (rIsZero (8 : Int)) then none else (bif (rCmp .lss (rArith .sub .i64 y3.1 x.2.1) (rArith .sub .i64 x.2.2.1 y3.1)) then ((rec y3.2.2.1 x.2.1 y3.1 x.2.2.2.1).bind fun y4 => some (.inl (y4.1, (rArith .add .i64 y3.1 (1 : Int)), x.2.2.1, x.2.2.2.1, (rCmp .geq (rArith .sub .i64 y3.1 x.2.1) (rArith .quo .i64 (rArith .sub .i64 x.2.2.1 x.2.1) (8 : Int))), y3.2.1, ()))) else ((rec y3.2.2.1 (rArith .add .i64 y3.1 (1 : Int)) x.2.2.1 x.2.2.2.1).bind fun y4 => some (.inl (y4.1, x.2.1, y3.1, x.2.2.2.1, (rCmp .geq (rArith .sub .i64 x.2.2.1 y3.1) (rArith .quo .i64 (rArith .sub .i64 x.2.2.1 x.2.1) (8 : Int))), y3.2.1, ())))))))) else none) else none) else ((g_partition lt y1.2.1 x.2.1 x.2.2.1 y0.1).bind fun y2 => (bif (rIsZero (8 : Int)) then none else (bif (rCmp .lss (rArith .sub .i64 y2.1 x.2.1) (rArith .sub .i64 x.2.2.1 y2.1)) then ((rec y2.2.2.1 x.2.1 y2.1 x.2.2.2.1).bind fun y3 => some (.inl (y3.1, (rArith .add .i64 y2.1 (1 : Int)), x.2.2.1, x.2.2.2.1, (rCmp .geq (rArith .sub .i64 y2.1 x.2.1) (rArith .quo .i64 (rArith .sub .i64 x.2.2.1 x.2.1) (8 : Int))), y2.2.1, ()))) else ((rec y2.2.2.1 (rArith .add .i64 y2.1 (1 : Int)) x.2.2.1 x.2.2.2.1).bind fun y3 => some (.inl (y3.1, x.2.1, y2.1, x.2.2.2.1, (rCmp .geq (rArith .sub .i64 x.2.2.1 y2.1) (rArith .quo .i64 (rArith .sub .i64 x.2.2.1 x.2.1) (8 : Int))), y2.2.1, ()))))))))) else (bif (rCmp .gtr x.2.1 (0 : Int)) then (bif (rInR x.1 (rArith .sub .i64 x.2.1 (1 : Int))) then (bif (rInR x.1 y0.1) then ((some (lt (rGet default x.1 (rArith .sub .i64 x.2.1 (1 : Int))) (rGet default x.1 y0.1), ())).bind fun y1 => (bif (Bool.not y1.1) then ((g_partitionEqual lt x.1 x.2.1 x.2.2.1 y0.1).bind fun y2 => some (.inl (y2.2.1, y2.1, x.2.2.1, x.2.2.2.1, x.2.2.2.2.1, x.2.2.2.2.2.1, ()))) else ((g_partition lt x.1 x.2.1 x.2.2.1 y0.1).bind fun y2 => (bif (rIsZero (8 : Int)) then none else (bif (rCmp .lss (rArith .sub .i64 y2.1 x.2.1) (rArith .sub .i64 x.2.2.1 y2.1)) then ((rec y2.2.2.1 x.2.1 y2.1 x.2.2.2.1).bind fun y3 => some (.inl (y3.1, (rArith .add .i64 y2.1 (1 : Int)), x.2.2.1, x.2.2.2.1, (rCmp .geq (rArith .sub .i64 y2.1 x.2.1) (rArith .quo .i64 (rArith .sub .i64 x.2.2.1 x.2.1) (8 : Int))), y2.2.1, ()))) else ((rec y2.2.2.1 (rArith .add .i64 y2.1 (1 : Int)) x.2.2.1 x.2.2.2.1).bind fun y3 => some (.inl (y3.1, x.2.1, y2.1, x.2.2.2.1, (rCmp .geq (rArith .sub .i64 x.2.2.1 y2.1) (rArith .quo .i64 (rArith .sub .i64 x.2.2.1 x.2.1) (8 : Int))), y2.2.1, ())))))))) else none) else none) else ((g_partition lt x.1 x.2.1 x.2.2.1 y0.1).bind fun y1 => (bif (rIsZero (8 : Int)) then none else (bif (rCmp .lss (rArith .sub .i64 y1.1 x.2.1) (rArith .sub .i64 x.2.2.1 y1.1)) then ((rec y1.2.2.1 x.2.1 y1.1 x.2.2.2.1).bind fun y2 => some (.inl (y2.1, (rArith .add .i64 y1.1 (1 : Int)), x.2.2.1, x.2.2.2.1, (rCmp .geq (rArith .sub .i64 y1.1 x.2.1) (rArith .quo .i64 (rArith .sub .i64 x.2.2.1 x.2.1) (8 : Int))), y1.2.1, ()))) else ((rec y1.2.2.1 (rArith .add .i64 y1.1 (1 : Int)) x.2.2.1 x.2.2.2.1).bind fun y2 => some (.inl (y2.1, x.2.1, y1.1, x.2.2.2.1, (rCmp .geq (rArith .sub .i64 x.2.2.1 y1.1) (rArith .quo .i64 (rArith .sub .i64 x.2.2.1 x.2.1) (8 : Int))), y1.2.1, ())))))))) else (bif (rCmp .gtr x.2.1 (0 : Int)) then (bif (rInR x.1 (rArith .sub .i64 x.2.1 (1 : Int))) then (bif (rInR x.1 y0.1) then ((some (lt (rGet default x.1 (rArith .sub .i64 x.2.1 (1 : Int))) (rGet default x.1 y0.1), ())).bind fun y1 => (bif (Bool.not y1.1) then ((g_partitionEqual lt x.1 x.2.1 x.2.2.1 y0.1).bind fun y2 => some (.inl (y2.2.1, y2.1, x.2.2.1, x.2.2.2.1, x.2.2.2.2.1, x.2.2.2.2.2.1, ()))) else ((g_partition lt x.1 x.2.1 x.2.2.1 y0.1).bind fun y2 => (bif (rIsZero (8 : Int)) then none else (bif (rCmp .lss (rArith .sub .i64 y2.1 x.2.1) (rArith .sub .i64 x.2.2.1 y2.1)) then ((rec y2.2.2.1 x.2.1 y2.1 x.2.2.2.1).bind fun y3 => some (.inl (y3.1, (rArith .add .i64 y2.1 (1 : Int)), x.2.2.1, x.2.2.2.1, (rCmp .geq (rArith .sub .i64 y2.1 x.2.1) (rArith .quo .i64 (rArith .sub .i64 x.2.2.1 x.2.1) (8 : Int))), y2.2.1, ()))) else ((rec y2.2.2.1 (rArith .add .i64 y2.1 (1 : Int)) x.2.2.1 x.2.2.2.1).bind fun y3 => some (.inl (y3.1, x.2.1, y2.1, x.2.2.2.1, (rCmp .geq (rArith .sub .i64 x.2.2.1 y2.1) (rArith .quo .i64 (rArith .sub .i64 x.2.2.1 x.2.1) (8 : Int))), y2.2.1, ())))))))) else none) else none) else ((g_partition lt x.1 x.2.1 x.2.2.1 y0.1).bind fun y1 => (bif (rIsZero (8 : Int)) then none else (bif (rCmp .lss (rArith .sub .i64 y1.1 x.2.1) (rArith .sub .i64 x.2.2.1 y1.1)) then ((rec y1.2.2.1 x.2.1 y1.1 x.2.2.2.1).bind fun y2 => some (.inl (y2.1, (rArith .add .i64 y1.1 (1 : Int)), x.2.2.1, x.2.2.2.1, (rCmp .geq (rArith .sub .i64 y1.1 x.2.1) (rArith .quo .i64 (rArith .sub .i64 x.2.2.1 x.2.1) (8 : Int))), y1.2.1, ()))) else ((rec y1.2.2.1 (rArith .add .i64 y1.1 (1 : Int)) x.2.2.1 x.2.2.2.1).bind fun y2 => some (.inl (y2.1, x.2.1, y1.1, x.2.2.2.1, (rCmp .geq (rArith .sub .i64 x.2.2.1 y1.1) (rArith .quo .i64 (rArith .sub .i64 x.2.2.1 x.2.1) (8 : Int))), y1.2.1, ())))))))) else (bif (rCmp .gtr x.2.1 (0 : Int)) then (bif (rInR x.1 (rArith .sub .i64 x.2.1 (1 : Int))) then (bif (rInR x.1 y0.1) then ((some (lt (rGet default x.1 (rArith .sub .i64 x.2.1 (1 : Int))) (rGet default x.1 y0.1), ())).bind fun y1 => (bif (Bool.not y1.1) then ((g_partitionEqual lt x.1 x.2.1 x.2.2.1 y0.1).bind fun y2 => some (.inl (y2.2.1, y2.1, x.2.2.1, x.2.2.2.1, x.2.2.2.2.1, x.2.2.2.2.2.1, ()))) else ((g_partition lt x.1 x.2.1 x.2.2.1 y0.1).bind fun y2 => (bif (rIsZero (8 : Int)) then none else (bif (rCmp .lss (rArith .sub .i64 y2.1 x.2.1) (rArith .sub .i64 x.2.2.1 y2.1)) then ((rec y2.2.2.1 x.2.1 y2.1 x.2.2.2.1).bind fun y3 => some (.inl (y3.1, (rArith .add .i64 y2.1 (1 : Int)), x.2.2.1, x.2.2.2.1, (rCmp .geq (rArith .sub .i64 y2.1 x.2.1) (rArith .quo .i64 (rArith .sub .i64 x.2.2.1 x.2.1) (8 : Int))), y2.2.1, ()))) else ((rec y2.2.2.1 (rArith .add .i64 y2.1 (1 : Int)) x.2.2.1 x.2.2.2.1).bind fun y3 => some (.inl (y3.1, x.2.1, y2.1, x.2.2.2.1, (rCmp .geq (rArith .sub .i64 x.2.2.1 y2.1) (rArith .quo .i64 (rArith .sub .i64 x.2.2.1 x.2.1) (8 : Int))), y2.2.1, ())))))))) else none) else none) else ((g_partition lt x.1 x.2.1 x.2.2.1 y0.1).bind fun y1 => (bif (rIsZero (8 : Int)) then none else (bif (rCmp .lss (rArith .sub .i64 y1.1 x.2.1) (rArith .sub .i64 x.2.2.1 y1.1)) then ((rec y1.2.2.1 x.2.1 y1.1 x.2.2.2.1).bind fun y2 => some (.inl (y2.1, (rArith .add .i64 y1.1 (1 : Int)), x.2.2.1, x.2.2.2.1, (rCmp .geq (rArith .sub .i64 y1.1 x.2.1) (rArith .quo .i64 (rArith .sub .i64 x.2.2.1 x.2.1) (8 : Int))), y1.2.1, ()))) else ((rec y1.2.2.1 (rArith .add .i64 y1.1 (1 : Int)) x.2.2.1 x.2.2.2.1).bind fun y2 => some (.inl (y2.1, x.2.1, y1.1, x.2.2.2.1, (rCmp .geq (rArith .sub .i64 x.2.2.1 y1.1) (rArith .quo .i64 (rArith .sub .i64 x.2.2.1 x.2.1) (8 : Int))), y1.2.1, ())))))))))))))
noncomputable def g_pdqsort_l0 {α : Type} [Inhabited α] (lt : α → α → Bool) (rec : (List α) → Int → Int → Int → Option ((List α) × Unit)) (k : Unit) (x : (List α) × Int × Int × Int × Bool × Bool × Unit) : Option ((List α) × Unit ⊕ Empty) := iter (g_pdqsort_b0 lt rec k) big x
noncomputable def g_pdqsort_r {α : Type} [Inhabited α] (lt : α → α → Bool) (rec : (List α) → Int → Int → Int → Option ((List α) × Unit)) (a0 : (List α)) (a1 : Int) (a2 : Int) (a3 : Int) : Option ((List α) × Unit) :=
 ((g_pdqsort_l0 lt rec (()) (a0, a1, a2, a3, true, true, ())).bind fun q0 => (Sum.elim (fun y1 => some (y1.1, ())) (fun q2 => (Empty.elim q2)) q0))
noncomputable def g_pdqsort_f {α : Type} [Inhabited α] (lt : α → α → Bool) : Nat → (List α) → Int → Int → Int → Option ((List α) × Unit) | 0 => fun _ _ _ _ => none | n + 1 => g_pdqsort_r lt (g_pdqsort_f lt n)
noncomputable def g_pdqsort {α : Type} [Inhabited α] (lt : α → α → Bool) (a0 : (List α)) (a1 : Int) (a2 : Int) (a3 : Int) : Option ((List α) × Unit) := g_pdqsort_f lt big a0 a1 a2 a3
end Go.Fn
set_option linter.unusedSimpArgs false
set_option linter.unusedVariables false
namespace Go.Fn
open Go.R Go.Sort
theorem inA {α : Type} (d : Array α) (i : Nat) : rInR d.toList (i : Int) = decide (i < d.size) := by rw [inR_nat, Array.length_toList]
theorem inP {α : Type} (d : Array α) (i j : Nat) (x : α) : rInR (rPut d.toList (i : Int) x) (j : Int) = decide (j < d.size) := by rw [put_nat, inR_set, Array.length_toList]
section
variable {α : Type} [Inhabited α] {lt : α → α → Bool}
theorem gA (d : Array α) (i : Nat) : rGet default d.toList (i : Int) = d[i]! := by
 rw [get_nat, List.getD_eq_getElem?_getD, getElem!_def, ← Array.getElem?_toList]
 cases d.toList[i]? <;> rfl
theorem swA (d : Array α) (i j : Nat) : rPut (rPut d.toList (i : Int) d[j]!) (j : Int) d[i]! = (swp d i j).toList := by
 rw [put_nat, put_nat]; unfold swp; rw [Array.toList_setIfInBounds, Array.toList_setIfInBounds]
theorem aS {n m : Nat} (h : n + m < 1099511627776) : rArith .add .i64 (n : Int) (m : Int) = ((n + m : Nat) : Int) := by rw [add64] <;> omega
theorem sS {n m : Nat} (h : m ≤ n) (h2 : n < 1099511627776) : rArith .sub .i64 (n : Int) (m : Int) = ((n - m : Nat) : Int) := by rw [sub64] <;> omega
theorem mS {n m : Nat} (h : n * m < 1099511627776) : rArith .mul .i64 (n : Int) (m : Int) = ((n * m : Nat) : Int) := by
 rw [mul64]
 ·rw [Int.natCast_mul]
 ·rw [← Int.natCast_mul]; omega
 ·rw [← Int.natCast_mul]; omega
theorem qS (n m : Nat) (h : n < 1099511627776) : rArith .quo .i64 (n : Int) (m : Int) = ((n / m : Nat) : Int) := by
 have h2 : n / m ≤ n := Nat.div_le_self n m
 have e : rArith .quo .i64 (n : Int) (m : Int) = IntKind.i64.wrap ((n : Int).tdiv (m : Int)) := rfl
 rw [e, show ((n : Int).tdiv (m : Int)) = ((n / m : Nat) : Int) from rfl]
 generalize n / m = c at h2 ⊢
 exact w64 (by omega) (by omega)
theorem gtS (n m : Nat) : rCmp .gtr (n : Int) (m : Int) = decide (n > m) := by simp [rCmp]
theorem ltS (n m : Nat) : rCmp .lss (n : Int) (m : Int) = decide (n < m) := by simp [rCmp]
theorem geS (n m : Nat) : rCmp .geq (n : Int) (m : Int) = decide (n ≥ m) := by simp [rCmp]
theorem leS (n m : Nat) : rCmp .leq (n : Int) (m : Int) = decide (n ≤ m) := by simp [rCmp]
theorem eqS (n m : Nat) : rCmp .eql (n : Int) (m : Int) = decide (n = m) := by
 simp only [rCmp]
 by_cases h : n = m
 ·subst h; simp
 ·rw [decide_eq_false h]; simp; omega
theorem size_insInner (lt : α → α → Bool) (a : Nat) : ∀ j (d : Array α), (insInner lt a j d).size = d.size
 | 0, _ => rfl
 | j + 1, d => by
  unfold insInner
  split
  ·rw [size_insInner lt a j, size_swp]
  ·rfl
theorem one : (1 : Int) = ((1 : Nat) : Int) := rfl
theorem ins_in (a b i : Nat) : ∀ (j : Nat) (d : Array α) (n : Nat), j < d.size → d.size ≤ 255 → j < n → iter (g_insertionSort_b2 lt ((a : Int), (b : Int), (i : Int), ())) n (d.toList, (j : Int), ()) = some (.inl ((insInner lt a j d).toList, ())) := by
 intro j
 induction j with
 | zero =>
  intro d n hj hd hn
  obtain ⟨n, rfl⟩ : ∃ m, n = m + 1 := ⟨n - 1, by omega⟩
  refine iter_done ?_
  unfold g_insertionSort_b2 insInner
  simp only [gtS, show ¬ (0 > a) by omega, decide_false, cond_false]
 | succ j ih =>
  intro d n hj hd hn
  obtain ⟨n, rfl⟩ : ∃ m, n = m + 1 := ⟨n - 1, by omega⟩
  have e1 : rArith .sub .i64 ((j + 1 : Nat) : Int) (1 : Int) = (j : Int) := pred64 (by omega)
  unfold insInner
  by_cases h : j + 1 > a
  ·cases hl : lt d[j + 1]! d[j]! with
   | true =>
    simp only [h, decide_true, Bool.true_and, if_true]
    rw [← ih (swp d (j + 1) j) n (by rw [size_swp]; omega) (by rw [size_swp]; omega) (by omega)]
    refine iter_next ?_
    unfold g_insertionSort_b2
    simp only [gtS, h, decide_true, cond_true, e1, inA, gA, inP, hj, show j < d.size by omega, Option.bind_some, hl, swA]
   | false =>
    simp only [Bool.and_false, Bool.false_eq_true, if_false]
    refine iter_done ?_
    unfold g_insertionSort_b2
    simp only [gtS, h, decide_true, cond_true, e1, inA, gA, hj, show j < d.size by omega, Option.bind_some, hl, cond_false]
  ·simp only [h, decide_false, Bool.false_and, Bool.false_eq_true, if_false]
   refine iter_done ?_
   unfold g_insertionSort_b2
   simp only [gtS, h, decide_false, cond_false]
theorem ins_out (a b : Nat) (hb : b ≤ 255) : ∀ (k i : Nat) (d : Array α) (n : Nat), b - i ≤ k → b ≤ d.size → d.size ≤ 255 → i ≤ 256 → k < n → iter (g_insertionSort_b0 lt ((a : Int), (b : Int), ())) n (d.toList, (i : Int), ()) = some (.inl ((insOuter lt a b i d).toList, ())) := by
 intro k
 induction k with
 | zero =>
  intro i d n hk hbd hd hi hn
  obtain ⟨n, rfl⟩ : ∃ m, n = m + 1 := ⟨n - 1, by omega⟩
  refine iter_done ?_
  unfold g_insertionSort_b0 insOuter
  simp only [ltS, show ¬ (i < b) by omega, decide_false, cond_false, if_false]
 | succ k ih =>
  intro i d n hk hbd hd hi hn
  obtain ⟨n, rfl⟩ : ∃ m, n = m + 1 := ⟨n - 1, by omega⟩
  unfold insOuter
  by_cases h : i < b
  ·simp only [h, if_true]
   rw [← ih (i + 1) (insInner lt a i d) n (by omega) (by rw [size_insInner]; omega) (by rw [size_insInner]; omega) (by omega) (by omega)]
   refine iter_next ?_
   unfold g_insertionSort_b0 g_insertionSort_l2
   simp only [ltS, h, decide_true, cond_true, ins_in a b i i d big (by omega) hd (lt_big (by omega)), Option.bind_some, Sum.elim_inl, succ64 (n := i) (by omega)]
  ·simp only [h, if_false]
   refine iter_done ?_
   unfold g_insertionSort_b0
   simp only [ltS, h, decide_false, cond_false]
theorem sim_ins (d : Array α) (a b : Nat) (hab : a ≤ b) (hb : b ≤ d.size) (hd : d.size ≤ 255) : g_insertionSort lt d.toList (a : Int) (b : Int) = some ((insertionSort lt d a b).toList, ()) := by
 unfold g_insertionSort g_insertionSort_l0 insertionSort
 simp only [succ64 (n := a) (by omega), ins_out (lt := lt) a b (by omega) 256 (a + 1) d big (by omega) hb hd (by omega) (lt_big (by omega)), Option.bind_some, Sum.elim_inl]
theorem size_siftDown (lt : α → α → Bool) (hi first : Nat) : ∀ (k root : Nat) (d : Array α), hi - root ≤ k → (siftDown lt hi first root d).size = d.size := by
 intro k
 induction k with
 | zero =>
  intro root d hk
  unfold siftDown
  rw [dif_pos (by omega)]
 | succ k ih =>
  intro root d hk
  unfold siftDown
  repeat' split
  all_goals first | rfl | (rw [ih _ _ (by omega), size_swp])
theorem sift_in (hi first : Nat) : ∀ (k root : Nat) (d : Array α) (n : Nat), hi - root ≤ k → first + hi ≤ d.size → first + root ≤ 255 → d.size ≤ 255 → k < n → ∃ q, iter (g_siftDown_b0 lt ((hi : Int), (first : Int), ())) n (d.toList, (root : Int), ()) = some q ∧ (q = .inl ((siftDown lt hi first root d).toList, ()) ∨ q = .inr (.inl ((siftDown lt hi first root d).toList, ()))) := by
 intro k
 induction k with
 | zero =>
  intro root d n hk hf hr hd hn
  obtain ⟨n, rfl⟩ : ∃ m, n = m + 1 := ⟨n - 1, by omega⟩
  refine ⟨_, iter_done ?_, .inl rfl⟩
  unfold g_siftDown_b0 siftDown
  rw [dif_pos (by omega)]
  have e1 : rArith .mul .i64 (2 : Int) (root : Int) = ((2 * root : Nat) : Int) := mS (n := 2) (by omega)
  simp only [e1, succ64 (n := 2 * root) (by omega), geS, show 2 * root + 1 ≥ hi by omega, decide_true, cond_true]
 | succ k ih =>
  intro root d n hk hf hr hd hn
  obtain ⟨n, rfl⟩ : ∃ m, n = m + 1 := ⟨n - 1, by omega⟩
  have e1 : rArith .mul .i64 (2 : Int) (root : Int) = ((2 * root : Nat) : Int) := mS (n := 2) (by omega)
  have e2 : rArith .add .i64 (first : Int) (root : Int) = ((first + root : Nat) : Int) := aS (by omega)
  have e3 : rArith .add .i64 ((2 * root : Nat) : Int) (1 : Int) = ((2 * root + 1 : Nat) : Int) := succ64 (by omega)
  have e4 : rArith .add .i64 ((2 * root + 1 : Nat) : Int) (1 : Int) = ((2 * root + 2 : Nat) : Int) := succ64 (by omega)
  have e5 : rArith .add .i64 (first : Int) ((2 * root + 1 : Nat) : Int) = ((first + (2 * root + 1) : Nat) : Int) := aS (by omega)
  have e6 : rArith .add .i64 (first : Int) ((2 * root + 2 : Nat) : Int) = ((first + (2 * root + 2) : Nat) : Int) := aS (by omega)
  have e7 : rArith .add .i64 ((first + (2 * root + 1) : Nat) : Int) (1 : Int) = ((first + (2 * root + 1) + 1 : Nat) : Int) := succ64 (by omega)
  by_cases h1 : 2 * root + 1 ≥ hi
  ·refine ⟨_, iter_done ?_, .inl rfl⟩
   unfold g_siftDown_b0 siftDown
   rw [dif_pos h1]
   simp only [e1, e3, geS, h1, decide_true, cond_true]
  ·have i1 : first + (2 * root + 1) < d.size := by omega
   have i2 : first + root < d.size := by omega
   unfold siftDown
   rw [dif_neg h1]
   by_cases h2 : 2 * root + 2 < hi
   ·have i3 : first + (2 * root + 2) < d.size := by omega
    have i4 : first + (2 * root + 1) + 1 < d.size := by omega
    cases h3 : lt d[first + (2 * root + 1)]! d[first + (2 * root + 1) + 1]! with
    | true =>
     cases h4 : lt d[first + root]! d[first + (2 * root + 2)]! with
     | false =>
      refine ⟨_, iter_done ?_, .inr rfl⟩
      unfold g_siftDown_b0
      simp only [e1, e2, e3, e4, e5, e6, e7, geS, ltS, h1, h2, decide_true, decide_false, cond_true, cond_false, inA, gA, i1, i2, i3, i4, Option.bind_some, h3, h4, Bool.not_false, Bool.true_and, if_true]
     | true =>
      obtain ⟨q, hq, hq'⟩ := ih (2 * root + 2) (swp d (first + root) (first + (2 * root + 2))) n (by omega) (by rw [size_swp]; omega) (by omega) (by rw [size_swp]; omega) (by omega)
      refine ⟨q, ?_, ?_⟩
      ·rw [← hq]
       refine iter_next ?_
       unfold g_siftDown_b0
       simp only [e1, e2, e3, e4, e5, e6, e7, geS, ltS, h1, h2, decide_true, decide_false, cond_true, cond_false, inA, gA, inP, i1, i2, i3, i4, Option.bind_some, h3, h4, Bool.not_true, swA, lets_def]
      ·simp only [h2, decide_true, Bool.true_and, if_true, Bool.not_true, Bool.false_eq_true, if_false, dite_true]
       exact hq'
    | false =>
     simp only [Bool.and_false, Bool.false_eq_true, if_false]
     cases h4 : lt d[first + root]! d[first + (2 * root + 1)]! with
     | false =>
      refine ⟨_, iter_done ?_, .inr rfl⟩
      unfold g_siftDown_b0
      simp only [e1, e2, e3, e4, e5, e6, e7, geS, ltS, h1, h2, decide_true, decide_false, cond_true, cond_false, inA, gA, i1, i2, i3, i4, Option.bind_some, h3, h4, Bool.not_false, if_true]
     | true =>
      obtain ⟨q, hq, hq'⟩ := ih (2 * root + 1) (swp d (first + root) (first + (2 * root + 1))) n (by omega) (by rw [size_swp]; omega) (by omega) (by rw [size_swp]; omega) (by omega)
      refine ⟨q, ?_, ?_⟩
      ·rw [← hq]
       refine iter_next ?_
       unfold g_siftDown_b0
       simp only [e1, e2, e3, e4, e5, e6, e7, geS, ltS, h1, h2, decide_true, decide_false, cond_true, cond_false, inA, gA, inP, i1, i2, i3, i4, Option.bind_some, h3, h4, Bool.not_true, swA, lets_def]
      ·simp only [Bool.not_true, Bool.false_eq_true, if_false]
       exact hq'
   ·simp only [show ¬ (2 * root + 1 + 1 < hi) from h2, decide_false, Bool.false_and, Bool.false_eq_true, if_false]
    cases h4 : lt d[first + root]! d[first + (2 * root + 1)]! with
    | false =>
     refine ⟨_, iter_done ?_, .inr rfl⟩
     unfold g_siftDown_b0
     simp only [e1, e2, e3, e4, e5, e6, e7, geS, ltS, h1, h2, decide_true, decide_false, cond_true, cond_false, inA, gA, i1, i2, Option.bind_some, h4, Bool.not_false, if_true]
    | true =>
     obtain ⟨q, hq, hq'⟩ := ih (2 * root + 1) (swp d (first + root) (first + (2 * root + 1))) n (by omega) (by rw [size_swp]; omega) (by omega) (by rw [size_swp]; omega) (by omega)
     refine ⟨q, ?_, ?_⟩
     ·rw [← hq]
      refine iter_next ?_
      unfold g_siftDown_b0
      simp only [e1, e2, e3, e4, e5, e6, e7, geS, ltS, h1, h2, decide_true, decide_false, cond_true, cond_false, inA, gA, inP, i1, i2, Option.bind_some, h4, Bool.not_true, swA, lets_def]
     ·simp only [Bool.not_true, Bool.false_eq_true, if_false]
      exact hq'
theorem sim_sift (d : Array α) (root hi first : Nat) (hf : first + hi ≤ d.size) (hr : first + root ≤ 255) (hd : d.size ≤ 255) : g_siftDown lt d.toList (root : Int) (hi : Int) (first : Int) = some ((siftDown lt hi first root d).toList, ()) := by
 unfold g_siftDown g_siftDown_l0
 obtain ⟨q, hq, rfl | rfl⟩ := sift_in (lt := lt) hi first 256 root d big (by omega) hf hr hd (lt_big (by omega)) <;> rw [hq] <;> rfl
end
end Go.Fn
set_option linter.unusedSimpArgs false
set_option linter.unusedVariables false
namespace Go.Fn
open Go.R Go.Sort
section
variable {α : Type} [Inhabited α] {lt : α → α → Bool}
theorem sift_size (lt : α → α → Bool) (hi first root : Nat) (d : Array α) : (siftDown lt hi first root d).size = d.size := size_siftDown lt hi first (hi - root) root d (Nat.le_refl _)
theorem ge0 (n : Nat) : rCmp .geq (n : Int) (0 : Int) = true := by simp [rCmp]
theorem ge0n : rCmp .geq (-1 : Int) (0 : Int) = false := rfl
theorem count_down {X Y S : Type} {body : X → Option (X ⊕ Y)} (st : S → Int → X) (fin : S → Y) (f : Nat → S → S) (Inv : S → Prop) (top : Nat) (htop : top ≤ 1000)
  (hs : ∀ i s, i < top → Inv s → body (st s (i : Int)) = some (.inl (st (f i s) (rArith .sub .i64 (i : Int) 1))) ∧ Inv (f i s)) (he : ∀ s, body (st s (-1)) = some (.inr (fin s))) :
  ∀ (k : Nat) (s : S) (n : Nat), k ≤ top → k < n → Inv s → iter body n (st s ((k : Int) - 1)) = some (fin (k.rec (motive := fun _ => S → S) (fun s => s) (fun k r s => r (f k s)) s)) := by
 intro k
 induction k with
 | zero =>
  intro s n _ hn _
  obtain ⟨n, rfl⟩ : ∃ m, n = m + 1 := ⟨n - 1, by omega⟩
  exact iter_done (he s)
 | succ k ih =>
  intro s n hk hn hi
  obtain ⟨n, rfl⟩ : ∃ m, n = m + 1 := ⟨n - 1, by omega⟩
  obtain ⟨h1, h2⟩ := hs k s (by omega) hi
  rw [show ((k + 1 : Nat) : Int) - 1 = (k : Int) by omega, iter_next h1]
  have e : rArith .sub .i64 (k : Int) 1 = (k : Int) - 1 := sub64 (by omega) (by omega)
  rw [e]
  exact ih (f k s) n (by omega) (by omega) h2
theorem heapBuild_rec (hi first : Nat) : ∀ k (d : Array α), heapBuild lt hi first k d = k.rec (motive := fun _ => Array α → Array α) (fun s => s) (fun k r s => r (siftDown lt hi first k s)) d
 | 0, _ => rfl
 | k + 1, d => by rw [heapBuild, heapBuild_rec hi first k]
theorem heapPop_rec (first : Nat) : ∀ k (d : Array α), heapPop lt first k d = k.rec (motive := fun _ => Array α → Array α) (fun s => s) (fun k r s => r (siftDown lt k first 0 (swp s first (first + k)))) d
 | 0, _ => rfl
 | k + 1, d => by rw [heapPop, heapPop_rec first k]
theorem size_heapBuild (hi first : Nat) : ∀ k (d : Array α), (heapBuild lt hi first k d).size = d.size
 | 0, _ => rfl
 | k + 1, d => by rw [heapBuild, size_heapBuild hi first k, sift_size]
theorem sim_heap (d : Array α) (a b : Nat) (hab : a < b) (hb : b ≤ d.size) (hd : d.size ≤ 255) : g_heapSort lt d.toList (a : Int) (b : Int) = some ((heapSort lt d a b).toList, ()) := by
 unfold g_heapSort g_heapSort_l0 g_heapSort_l2 heapSort
 have z : rIsZero (2 : Int) = false := rfl
 have e1 : rArith .sub .i64 (b : Int) (a : Int) = ((b - a : Nat) : Int) := sS (by omega) (by omega)
 have e2 : rArith .sub .i64 ((b - a : Nat) : Int) 1 = ((b - a - 1 : Nat) : Int) := sS (m := 1) (by omega) (by omega)
 have e3 : rArith .quo .i64 ((b - a - 1 : Nat) : Int) (2 : Int) = (((b - a - 1) / 2 : Nat) : Int) := qS _ 2 (by omega)
 have hq : (b - a - 1) / 2 ≤ 255 := by omega
 have l0 := count_down (body := g_heapSort_b0 lt ((a : Int), (0 : Int), ((b - a : Nat) : Int), ())) (fun (s : Array α) (i : Int) => (s.toList, i, ())) (fun s => .inl (s.toList, ())) (fun i s => siftDown lt (b - a) a i s) (fun s => s.size = d.size) ((b - a - 1) / 2 + 1) (by omega) (fun i s hi hs => ⟨by
  unfold g_heapSort_b0
  simp only [ge0, cond_true, sim_sift (lt := lt) s i (b - a) a (by omega) (by omega) (by omega), Option.bind_some], by rw [sift_size]; exact hs⟩) (fun s => by
  unfold g_heapSort_b0
  simp only [ge0n, cond_false]) ((b - a - 1) / 2 + 1) d big (by omega) (lt_big (by omega)) rfl
 rw [← heapBuild_rec, show (((b - a - 1) / 2 + 1 : Nat) : Int) - 1 = (((b - a - 1) / 2 : Nat) : Int) by omega] at l0
 have l2 := count_down (body := g_heapSort_b2 lt ((a : Int), (0 : Int), ())) (fun (s : Array α) (i : Int) => (s.toList, i, ())) (fun s => .inl (s.toList, ())) (fun i s => siftDown lt i a 0 (swp s a (a + i))) (fun s => s.size = d.size) (b - a) (by omega) (fun i s hi hs => ⟨by
  unfold g_heapSort_b2
  have e4 : rArith .add .i64 (a : Int) (i : Int) = ((a + i : Nat) : Int) := aS (by omega)
  have e5 := sim_sift (lt := lt) (swp s a (a + i)) 0 i a (by rw [size_swp]; omega) (by omega) (by rw [size_swp]; omega)
  simp only [ge0, cond_true, e4, inA, gA, inP, swA, show a + i < s.size by omega, show a < s.size by omega, decide_true]
  rw [show (0 : Int) = ((0 : Nat) : Int) from rfl, e5]
  rfl, by rw [sift_size, size_swp]; exact hs⟩) (fun s => by
  unfold g_heapSort_b2
  simp only [ge0n, cond_false]) (b - a) (heapBuild lt (b - a) a ((b - a - 1) / 2 + 1) d) big (Nat.le_refl _) (lt_big (by omega)) (size_heapBuild _ _ _ _)
 rw [← heapPop_rec, show ((b - a : Nat) : Int) - 1 = ((b - a - 1 : Nat) : Int) by omega] at l2
 have hbd : heapBuild lt (b - a) a ((b - a - 1) / 2) (siftDown lt (b - a) a ((b - a - 1) / 2) d) = heapBuild lt (b - a) a ((b - a - 1) / 2 + 1) d := rfl
 simp only [z, cond_false, e1, e2, e3, l0, Option.bind_some, Sum.elim_inl, hbd, l2]
theorem scan_up {X Y : Type} {body : X → Option (X ⊕ Y)} (st : Nat → X) (fin : Nat → Y) (p : α → Bool) (d : Array α) (j : Nat) (hs : ∀ i, i ≤ 256 → body (st i) = some (bif decide (i ≤ j) && p d[i]! then .inl (st (i + 1)) else .inr (fin i))) (hj : j ≤ 255) :
  ∀ (k i n : Nat), j + 1 - i ≤ k → i ≤ 256 → k < n → iter body n (st i) = some (fin (scanUp p d j i)) := by
 intro k
 induction k with
 | zero =>
  intro i n hk hi hn
  obtain ⟨n, rfl⟩ : ∃ m, n = m + 1 := ⟨n - 1, by omega⟩
  have h : ¬ (i ≤ j) := by omega
  unfold scanUp
  simp only [h, decide_false, Bool.false_and, Bool.false_eq_true, if_false]
  refine iter_done ?_
  rw [hs i hi]
  simp only [h, decide_false, Bool.false_and, cond_false]
 | succ k ih =>
  intro i n hk hi hn
  obtain ⟨n, rfl⟩ : ∃ m, n = m + 1 := ⟨n - 1, by omega⟩
  unfold scanUp
  have h1 := hs i hi
  cases hc : (decide (i ≤ j) && p d[i]!) with
  | true =>
   rw [hc] at h1
   have : i ≤ j := of_decide_eq_true (Bool.and_eq_true _ _ ▸ hc).1
   simp only [if_true]
   rw [iter_next h1]
   exact ih (i + 1) n (by omega) (by omega) (by omega)
  | false =>
   rw [hc] at h1
   simp only [Bool.false_eq_true, if_false]
   exact iter_done h1
theorem scan_down {X Y : Type} {body : X → Option (X ⊕ Y)} (st : Nat → X) (fin : Nat → Y) (p : α → Bool) (d : Array α) (i : Nat) (hi : 0 < i) (hs : ∀ j, j ≤ 255 → j < d.size → body (st j) = some (bif decide (i ≤ j) && p d[j]! then .inl (st (j - 1)) else .inr (fin j))) :
  ∀ (j n : Nat), j < d.size → j ≤ 255 → j < n → iter body n (st j) = some (fin (scanDown p d i j)) := by
 intro j
 induction j with
 | zero =>
  intro n hj hj2 hn
  obtain ⟨n, rfl⟩ : ∃ m, n = m + 1 := ⟨n - 1, by omega⟩
  refine iter_done ?_
  rw [hs 0 (by omega) hj]
  simp only [show ¬ (i ≤ 0) by omega, decide_false, Bool.false_and, cond_false, scanDown]
 | succ j ih =>
  intro n hj hj2 hn
  obtain ⟨n, rfl⟩ : ∃ m, n = m + 1 := ⟨n - 1, by omega⟩
  unfold scanDown
  have h1 := hs (j + 1) hj2 hj
  cases hc : (decide (i ≤ j + 1) && p d[j + 1]!) with
  | true =>
   rw [hc] at h1
   simp only [if_true]
   rw [iter_next h1]
   exact ih n (by omega) (by omega) (by omega)
  | false =>
   rw [hc] at h1
   simp only [Bool.false_eq_true, if_false]
   exact iter_done h1
section
variable (d : Array α) (a : Nat) (hd : d.size ≤ 255) (ha : a < d.size)
include hd ha
theorem pq0 (j i : Nat) (hj : j < d.size) (hi : i ≤ 256) : g_partition_l0 lt ((a : Int), (j : Int), ()) (d.toList, (i : Int), ()) = some (.inl (d.toList, ((scanUp (fun x => lt x d[a]!) d j i : Nat) : Int), ())) := by
 refine scan_up (body := g_partition_b0 lt ((a : Int), (j : Int), ())) (fun i => (d.toList, (i : Int), ())) (fun i => Sum.inl (d.toList, (i : Int), ())) (fun x => lt x d[a]!) d j (fun i hi => ?_) (by omega) 256 i big (by omega) hi (lt_big (by omega))
 unfold g_partition_b0
 by_cases h : i ≤ j
 ·simp only [leS, h, decide_true, cond_true, inA, gA, show i < d.size by omega, ha, Option.bind_some, Bool.true_and, succ64 (n := i) (by omega)]
  cases lt d[i]! d[a]! <;> rfl
 ·simp only [leS, h, decide_false, cond_false, Bool.false_and]
theorem pq6 (j i : Nat) (hj : j < d.size) (hi : i ≤ 256) : g_partition_l6 lt ((a : Int), (j : Int), ()) (d.toList, (i : Int), ()) = some (.inl (d.toList, ((scanUp (fun x => lt x d[a]!) d j i : Nat) : Int), ())) := pq0 d a hd ha j i hj hi
theorem pq2 (i j : Nat) (hi : 0 < i) (hj : j < d.size) : g_partition_l2 lt ((a : Int), (i : Int), ()) (d.toList, (j : Int), ()) = some (.inl (d.toList, ((scanDown (fun x => !lt x d[a]!) d i j : Nat) : Int), ())) := by
 refine scan_down (body := g_partition_b2 lt ((a : Int), (i : Int), ())) (fun i => (d.toList, (i : Int), ())) (fun i => Sum.inl (d.toList, (i : Int), ())) (fun x => !lt x d[a]!) d i hi (fun j hj hj2 => ?_) j big hj (by omega) (lt_big (by omega))
 unfold g_partition_b2
 by_cases h : i ≤ j
 ·have e : rArith .sub .i64 (j : Int) 1 = ((j - 1 : Nat) : Int) := sS (m := 1) (by omega) (by omega)
  simp only [leS, h, decide_true, cond_true, inA, gA, hj2, ha, Option.bind_some, Bool.true_and, e]
  cases lt d[j]! d[a]! <;> rfl
 ·simp only [leS, h, decide_false, cond_false, Bool.false_and]
theorem pq8 (i j : Nat) (hi : 0 < i) (hj : j < d.size) : g_partition_l8 lt ((a : Int), (i : Int), ()) (d.toList, (j : Int), ()) = some (.inl (d.toList, ((scanDown (fun x => !lt x d[a]!) d i j : Nat) : Int), ())) := pq2 d a hd ha i j hi hj
theorem pe2 (j i : Nat) (hj : j < d.size) (hi : i ≤ 256) : g_partitionEqual_l2 lt ((a : Int), (j : Int), ()) (d.toList, (i : Int), ()) = some (.inl (d.toList, ((scanUp (fun x => !lt d[a]! x) d j i : Nat) : Int), ())) := by
 refine scan_up (body := g_partitionEqual_b2 lt ((a : Int), (j : Int), ())) (fun i => (d.toList, (i : Int), ())) (fun i => Sum.inl (d.toList, (i : Int), ())) (fun x => !lt d[a]! x) d j (fun i hi => ?_) (by omega) 256 i big (by omega) hi (lt_big (by omega))
 unfold g_partitionEqual_b2
 by_cases h : i ≤ j
 ·simp only [leS, h, decide_true, cond_true, inA, gA, show i < d.size by omega, ha, Option.bind_some, Bool.true_and, succ64 (n := i) (by omega)]
  cases lt d[a]! d[i]! <;> rfl
 ·simp only [leS, h, decide_false, cond_false, Bool.false_and]
theorem pe4 (i j : Nat) (hi : 0 < i) (hj : j < d.size) : g_partitionEqual_l4 lt ((a : Int), (i : Int), ()) (d.toList, (j : Int), ()) = some (.inl (d.toList, ((scanDown (fun x => lt d[a]! x) d i j : Nat) : Int), ())) := by
 refine scan_down (body := g_partitionEqual_b4 lt ((a : Int), (i : Int), ())) (fun i => (d.toList, (i : Int), ())) (fun i => Sum.inl (d.toList, (i : Int), ())) (fun x => lt d[a]! x) d i hi (fun j hj hj2 => ?_) j big hj (by omega) (lt_big (by omega))
 unfold g_partitionEqual_b4
 by_cases h : i ≤ j
 ·have e : rArith .sub .i64 (j : Int) 1 = ((j - 1 : Nat) : Int) := sS (m := 1) (by omega) (by omega)
  simp only [leS, h, decide_true, cond_true, inA, gA, hj2, ha, Option.bind_some, Bool.true_and, e]
  cases lt d[a]! d[j]! <;> rfl
 ·simp only [leS, h, decide_false, cond_false, Bool.false_and]
end
theorem part_loop (a : Nat) : ∀ (k i j : Nat) (d : Array α) (n : Nat), j + 1 - i ≤ k → d.size ≤ 255 → a < d.size → 0 < i → i ≤ 256 → j < d.size → k < n → iter (g_partition_b4 lt ((a : Int), ())) n (d.toList, (i : Int), (j : Int), ()) = some (.inl ((partLoop lt a i j d).2.toList, (((partLoop lt a i j d).1 : Nat) : Int), ())) := by
 intro k
 induction k with
 | zero =>
  intro i j d n hk hd ha hi hi2 hj hn
  obtain ⟨n, rfl⟩ : ∃ m, n = m + 1 := ⟨n - 1, by omega⟩
  rw [partLoop_eq]
  have h1 := scanUp_ge (fun x => lt x d[a]!) d j i
  have h2 := scanDown_le (fun x => !lt x d[a]!) d (scanUp (fun x => lt x d[a]!) d j i) j
  have h : scanUp (fun x => lt x d[a]!) d j i > scanDown (fun x => !lt x d[a]!) d (scanUp (fun x => lt x d[a]!) d j i) j := by omega
  rw [if_pos h]
  refine iter_done ?_
  unfold g_partition_b4
  simp only [pq6 (lt := lt) d a hd ha j i hj hi2, Option.bind_some, Sum.elim_inl, pq8 (lt := lt) d a hd ha (scanUp (fun x => lt x d[a]!) d j i) j (by omega) hj, gtS, h, decide_true, cond_true]
 | succ k ih =>
  intro i j d n hk hd ha hi hi2 hj hn
  obtain ⟨n, rfl⟩ : ∃ m, n = m + 1 := ⟨n - 1, by omega⟩
  rw [partLoop_eq]
  have h1 := scanUp_ge (fun x => lt x d[a]!) d j i
  have h2 := scanDown_le (fun x => !lt x d[a]!) d (scanUp (fun x => lt x d[a]!) d j i) j
  have hr : iter (g_partition_b4 lt ((a : Int), ())) (n + 1) (d.toList, (i : Int), (j : Int), ()) = iter (g_partition_b4 lt ((a : Int), ())) (n + 1) (d.toList, (i : Int), (j : Int), ()) := rfl
  by_cases h : scanUp (fun x => lt x d[a]!) d j i > scanDown (fun x => !lt x d[a]!) d (scanUp (fun x => lt x d[a]!) d j i) j
  ·rw [if_pos h]
   refine iter_done ?_
   unfold g_partition_b4
   simp only [pq6 (lt := lt) d a hd ha j i hj hi2, Option.bind_some, Sum.elim_inl, pq8 (lt := lt) d a hd ha (scanUp (fun x => lt x d[a]!) d j i) j (by omega) hj, gtS, h, decide_true, cond_true]
  ·rw [if_neg h]
   have e6 := pq6 (lt := lt) d a hd ha j i hj hi2
   have e8 := pq8 (lt := lt) d a hd ha (scanUp (fun x => lt x d[a]!) d j i) j (by omega) hj
   generalize scanDown (fun x => !lt x d[a]!) d (scanUp (fun x => lt x d[a]!) d j i) j = j2 at h h2 e8 ⊢
   generalize scanUp (fun x => lt x d[a]!) d j i = i2 at h h1 e6 e8 ⊢
   rw [← ih (i2 + 1) (j2 - 1) (swp d i2 j2) n (by omega) (by rw [size_swp]; omega) (by rw [size_swp]; omega) (by omega) (by omega) (by rw [size_swp]; omega) (by omega)]
   refine iter_next ?_
   have e : rArith .sub .i64 (j2 : Int) 1 = ((j2 - 1 : Nat) : Int) := sS (m := 1) (by omega) (by omega)
   unfold g_partition_b4
   simp only [e6, Option.bind_some, Sum.elim_inl, e8, gtS, h, decide_false, cond_false, inA, gA, inP, show i2 < d.size by omega, show j2 < d.size by omega, decide_true, cond_true, swA, e, succ64 (n := i2) (by omega)]
theorem parteq_loop (a : Nat) : ∀ (k i j : Nat) (d : Array α) (n : Nat), j + 1 - i ≤ k → d.size ≤ 255 → a < d.size → 0 < i → i ≤ 256 → j < d.size → k < n → iter (g_partitionEqual_b0 lt ((a : Int), ())) n (d.toList, (i : Int), (j : Int), ()) = some (.inl ((partEqLoop lt a i j d).2.toList, (((partEqLoop lt a i j d).1 : Nat) : Int), ())) := by
 intro k
 induction k with
 | zero =>
  intro i j d n hk hd ha hi hi2 hj hn
  obtain ⟨n, rfl⟩ : ∃ m, n = m + 1 := ⟨n - 1, by omega⟩
  rw [partEqLoop_eq]
  have h1 := scanUp_ge (fun x => !lt d[a]! x) d j i
  have h2 := scanDown_le (fun x => lt d[a]! x) d (scanUp (fun x => !lt d[a]! x) d j i) j
  have h : scanUp (fun x => !lt d[a]! x) d j i > scanDown (fun x => lt d[a]! x) d (scanUp (fun x => !lt d[a]! x) d j i) j := by omega
  rw [if_pos h]
  refine iter_done ?_
  unfold g_partitionEqual_b0
  simp only [pe2 (lt := lt) d a hd ha j i hj hi2, Option.bind_some, Sum.elim_inl, pe4 (lt := lt) d a hd ha (scanUp (fun x => !lt d[a]! x) d j i) j (by omega) hj, gtS, h, decide_true, cond_true]
 | succ k ih =>
  intro i j d n hk hd ha hi hi2 hj hn
  obtain ⟨n, rfl⟩ : ∃ m, n = m + 1 := ⟨n - 1, by omega⟩
  rw [partEqLoop_eq]
  have h1 := scanUp_ge (fun x => !lt d[a]! x) d j i
  have h2 := scanDown_le (fun x => lt d[a]! x) d (scanUp (fun x => !lt d[a]! x) d j i) j
  by_cases h : scanUp (fun x => !lt d[a]! x) d j i > scanDown (fun x => lt d[a]! x) d (scanUp (fun x => !lt d[a]! x) d j i) j
  ·rw [if_pos h]
   refine iter_done ?_
   unfold g_partitionEqual_b0
   simp only [pe2 (lt := lt) d a hd ha j i hj hi2, Option.bind_some, Sum.elim_inl, pe4 (lt := lt) d a hd ha (scanUp (fun x => !lt d[a]! x) d j i) j (by omega) hj, gtS, h, decide_true, cond_true]
  ·rw [if_neg h]
   have e6 := pe2 (lt := lt) d a hd ha j i hj hi2
   have e8 := pe4 (lt := lt) d a hd ha (scanUp (fun x => !lt d[a]! x) d j i) j (by omega) hj
   generalize scanDown (fun x => lt d[a]! x) d (scanUp (fun x => !lt d[a]! x) d j i) j = j2 at h h2 e8 ⊢
   generalize scanUp (fun x => !lt d[a]! x) d j i = i2 at h h1 e6 e8 ⊢
   rw [← ih (i2 + 1) (j2 - 1) (swp d i2 j2) n (by omega) (by rw [size_swp]; omega) (by rw [size_swp]; omega) (by omega) (by omega) (by rw [size_swp]; omega) (by omega)]
   refine iter_next ?_
   have e : rArith .sub .i64 (j2 : Int) 1 = ((j2 - 1 : Nat) : Int) := sS (m := 1) (by omega) (by omega)
   unfold g_partitionEqual_b0
   simp only [e6, Option.bind_some, Sum.elim_inl, e8, gtS, h, decide_false, cond_false, inA, gA, inP, show i2 < d.size by omega, show j2 < d.size by omega, decide_true, cond_true, swA, e, succ64 (n := i2) (by omega)]
theorem sim_parteq (d : Array α) (a b p : Nat) (hab : a < b) (hb : b ≤ d.size) (hd : d.size ≤ 255) (hp : p < d.size) : g_partitionEqual lt d.toList (a : Int) (b : Int) (p : Int) = some ((((partitionEqual lt d a b p).1 : Nat) : Int), (partitionEqual lt d a b p).2.toList, ()) := by
 unfold g_partitionEqual g_partitionEqual_l0 partitionEqual
 have e : rArith .sub .i64 (b : Int) 1 = ((b - 1 : Nat) : Int) := sS (m := 1) (by omega) (by omega)
 simp only [inA, gA, inP, show a < d.size by omega, hp, decide_true, cond_true, swA, e, succ64 (n := a) (by omega), parteq_loop (lt := lt) a 256 (a + 1) (b - 1) (swp d a p) big (by omega) (by rw [size_swp]; omega) (by rw [size_swp]; omega) (by omega) (by omega) (by rw [size_swp]; omega) (lt_big (by omega)), Option.bind_some, Sum.elim_inl]
theorem partLoop_size (a : Nat) : ∀ (k i j : Nat) (d : Array α), j + 1 - i ≤ k → (partLoop lt a i j d).2.size = d.size ∧ (partLoop lt a i j d).1 ≤ j := by
 intro k
 induction k with
 | zero =>
  intro i j d hk
  rw [partLoop_eq]
  have h1 := scanUp_ge (fun x => lt x d[a]!) d j i
  have h2 := scanDown_le (fun x => !lt x d[a]!) d (scanUp (fun x => lt x d[a]!) d j i) j
  rw [if_pos (by omega)]
  exact ⟨rfl, h2⟩
 | succ k ih =>
  intro i j d hk
  rw [partLoop_eq]
  have h1 := scanUp_ge (fun x => lt x d[a]!) d j i
  have h2 := scanDown_le (fun x => !lt x d[a]!) d (scanUp (fun x => lt x d[a]!) d j i) j
  split
  ·exact ⟨rfl, h2⟩
  ·obtain ⟨h3, h4⟩ := ih (scanUp (fun x => lt x d[a]!) d j i + 1) (scanDown (fun x => !lt x d[a]!) d (scanUp (fun x => lt x d[a]!) d j i) j - 1) (swp d (scanUp (fun x => lt x d[a]!) d j i) (scanDown (fun x => !lt x d[a]!) d (scanUp (fun x => lt x d[a]!) d j i) j)) (by omega)
   exact ⟨by rw [h3, size_swp], by omega⟩
theorem sim_part (d : Array α) (a b p : Nat) (hab : a < b) (hb : b ≤ d.size) (hd : d.size ≤ 255) (hp : p < d.size) : g_partition lt d.toList (a : Int) (b : Int) (p : Int) = some ((((partition lt d a b p).1 : Nat) : Int), (partition lt d a b p).2.1, (partition lt d a b p).2.2.toList, ()) := by
 unfold g_partition g_partition_l4 partition
 have e : rArith .sub .i64 (b : Int) 1 = ((b - 1 : Nat) : Int) := sS (m := 1) (by omega) (by omega)
 have hs : (swp d a p).size = d.size := size_swp _ _ _
 have e0 := pq0 (lt := lt) (swp d a p) a (by omega) (by omega) (b - 1) (a + 1) (by omega) (by omega)
 have h1 := scanUp_ge (fun x => lt x (swp d a p)[a]!) (swp d a p) (b - 1) (a + 1)
 have e2 := pq2 (lt := lt) (swp d a p) a (by omega) (by omega) (scanUp (fun x => lt x (swp d a p)[a]!) (swp d a p) (b - 1) (a + 1)) (b - 1) (by omega) (by omega)
 have h2 := scanDown_le (fun x => !lt x (swp d a p)[a]!) (swp d a p) (scanUp (fun x => lt x (swp d a p)[a]!) (swp d a p) (b - 1) (a + 1)) (b - 1)
 simp only [inA, gA, inP, show a < d.size by omega, hp, decide_true, cond_true, swA, e, succ64 (n := a) (by omega), e0, e2, Option.bind_some, Sum.elim_inl]
 generalize scanDown (fun x => !lt x (swp d a p)[a]!) (swp d a p) (scanUp (fun x => lt x (swp d a p)[a]!) (swp d a p) (b - 1) (a + 1)) (b - 1) = j2 at h2 e2 ⊢
 generalize scanUp (fun x => lt x (swp d a p)[a]!) (swp d a p) (b - 1) (a + 1) = i2 at h1 e0 e2 ⊢
 by_cases h : i2 > j2
 ·simp only [gtS, h, decide_true, cond_true, if_true, inA, gA, inP, hs, show a < d.size by omega, show j2 < d.size by omega, swA]
 ·have e3 : rArith .sub .i64 (j2 : Int) 1 = ((j2 - 1 : Nat) : Int) := sS (m := 1) (by omega) (by omega)
  have hs2 : (swp (swp d a p) i2 j2).size = d.size := by rw [size_swp, hs]
  have e4 := part_loop (lt := lt) a 256 (i2 + 1) (j2 - 1) (swp (swp d a p) i2 j2) big (by omega) (by omega) (by omega) (by omega) (by omega) (by omega) (lt_big (by omega))
  obtain ⟨h3, h4⟩ := partLoop_size (lt := lt) a 256 (i2 + 1) (j2 - 1) (swp (swp d a p) i2 j2) (by omega)
  simp only [gtS, h, decide_false, cond_false, if_false, inA, gA, inP, hs, show i2 < d.size by omega, show j2 < d.size by omega, swA, decide_true, cond_true, e3, succ64 (n := i2) (by omega), e4, Option.bind_some, Sum.elim_inl, h3, hs2, show a < d.size by omega, show (partLoop lt a (i2 + 1) (j2 - 1) (swp (swp d a p) i2 j2)).1 < d.size by omega]
end
end Go.Fn
set_option linter.unusedSimpArgs false
set_option linter.unusedVariables false
namespace Go.Fn
open Go.R Go.Sort
section
variable {α : Type} [Inhabited α] {lt : α → α → Bool}
theorem size_shiftDown : ∀ j (d : Array α), (shiftDown lt j d).size = d.size
 | 0, _ => rfl
 | j + 1, d => by
  unfold shiftDown
  split
  ·rfl
  ·rw [size_shiftDown j, size_swp]
theorem size_shiftUp (b : Nat) : ∀ (k j : Nat) (d : Array α), b - j ≤ k → (shiftUp lt b j d).size = d.size := by
 intro k
 induction k with
 | zero => intro j d h; unfold shiftUp; rw [if_neg (by omega)]
 | succ k ih =>
  intro j d h
  unfold shiftUp
  split
  ·split
   ·rfl
   ·rw [ih (j + 1) _ (by omega), size_swp]
  ·rfl
theorem scanSorted_ge (d : Array α) (b : Nat) : ∀ (k i : Nat), b - i ≤ k → i ≤ scanSorted lt d b i ∧ (i ≤ b → scanSorted lt d b i ≤ b) := by
 intro k
 induction k with
 | zero =>
  intro i h; unfold scanSorted
  have : ¬ (i < b) := by omega
  simp only [this, decide_false, Bool.false_and, Bool.false_eq_true, if_false]
  exact ⟨Nat.le_refl _, fun h => h⟩
 | succ k ih =>
  intro i h
  unfold scanSorted
  split
  ·rename_i hc
   simp only [Bool.and_eq_true, decide_eq_true_eq] at hc
   have := ih (i + 1) (by omega)
   exact ⟨by omega, fun _ => this.2 (by omega)⟩
  ·exact ⟨Nat.le_refl _, fun h => h⟩
theorem pi2 (d : Array α) (hd : d.size ≤ 255) (a b j : Int) (bn : Nat) (hb : bn ≤ d.size) : ∀ (k i n : Nat), bn - i ≤ k → 0 < i → i ≤ 256 → k < n → iter (g_partialInsertionSort_b2 lt (a, (bn : Int), j, ())) n (d.toList, (i : Int), ()) = some (.inl (d.toList, ((scanSorted lt d bn i : Nat) : Int), ())) := by
 intro k
 induction k with
 | zero =>
  intro i n hk h0 hi hn
  obtain ⟨n, rfl⟩ : ∃ m, n = m + 1 := ⟨n - 1, by omega⟩
  refine iter_done ?_
  have h : ¬ (i < bn) := by omega
  unfold g_partialInsertionSort_b2 scanSorted
  simp only [ltS, h, decide_false, cond_false, Bool.false_and, Bool.false_eq_true, if_false]
 | succ k ih =>
  intro i n hk h0 hi hn
  obtain ⟨n, rfl⟩ : ∃ m, n = m + 1 := ⟨n - 1, by omega⟩
  unfold scanSorted
  by_cases h : i < bn
  ·have e : rArith .sub .i64 (i : Int) 1 = ((i - 1 : Nat) : Int) := sS (m := 1) (by omega) (by omega)
   cases hl : lt d[i]! d[i - 1]! with
   | true =>
    simp only [Bool.not_true, Bool.and_false, Bool.false_eq_true, if_false]
    refine iter_done ?_
    unfold g_partialInsertionSort_b2
    simp only [ltS, h, decide_true, cond_true, e, inA, gA, show i < d.size by omega, show i - 1 < d.size by omega, Option.bind_some, hl, Bool.not_true, cond_false]
   | false =>
    simp only [h, Bool.not_false, Bool.and_true, decide_true, if_true]
    rw [← ih (i + 1) n (by omega) (by omega) (by omega) (by omega)]
    refine iter_next ?_
    unfold g_partialInsertionSort_b2
    simp only [ltS, h, decide_true, cond_true, e, inA, gA, show i < d.size by omega, show i - 1 < d.size by omega, Option.bind_some, hl, Bool.not_false, succ64 (n := i) (by omega)]
  ·simp only [h, decide_false, Bool.false_and, Bool.false_eq_true, if_false]
   refine iter_done ?_
   unfold g_partialInsertionSort_b2
   simp only [ltS, h, decide_false, cond_false]
theorem pi4 (k : Int × Int × Int × Int × Unit) : ∀ (j : Nat) (d : Array α) (n : Nat), j < d.size → d.size ≤ 255 → j < n → iter (g_partialInsertionSort_b4 lt k) n (d.toList, (j : Int), ()) = some (.inl ((shiftDown lt j d).toList, ())) := by
 intro j
 induction j with
 | zero =>
  intro d n hj hd hn
  obtain ⟨n, rfl⟩ : ∃ m, n = m + 1 := ⟨n - 1, by omega⟩
  exact iter_done rfl
 | succ j ih =>
  intro d n hj hd hn
  obtain ⟨n, rfl⟩ : ∃ m, n = m + 1 := ⟨n - 1, by omega⟩
  have e1 : rArith .sub .i64 ((j + 1 : Nat) : Int) (1 : Int) = (j : Int) := pred64 (by omega)
  have g : rCmp .geq ((j + 1 : Nat) : Int) (1 : Int) = true := (geS (j + 1) 1).trans (decide_eq_true (by omega))
  unfold shiftDown
  cases hl : lt d[j + 1]! d[j]! with
  | true =>
   simp only [Bool.not_true, Bool.false_eq_true, if_false]
   rw [← ih (swp d (j + 1) j) n (by rw [size_swp]; omega) (by rw [size_swp]; omega) (by omega)]
   refine iter_next ?_
   unfold g_partialInsertionSort_b4
   simp only [g, cond_true, e1, inA, gA, inP, hj, show j < d.size by omega, decide_true, Option.bind_some, hl, Bool.not_true, cond_false, swA]
  | false =>
   simp only [Bool.not_false, if_true]
   refine iter_done ?_
   unfold g_partialInsertionSort_b4
   simp only [g, cond_true, e1, inA, gA, inP, hj, show j < d.size by omega, decide_true, Option.bind_some, hl, Bool.not_false]
theorem pi6 (a b i j : Int) (bn : Nat) : ∀ (k jn : Nat) (d : Array α) (n : Nat), bn - jn ≤ k → 0 < jn → jn ≤ 256 → bn ≤ d.size → d.size ≤ 255 → k < n → iter (g_partialInsertionSort_b6 lt (a, (bn : Int), i, j, ())) n (d.toList, (jn : Int), ()) = some (.inl ((shiftUp lt bn jn d).toList, ())) := by
 intro k
 induction k with
 | zero =>
  intro jn d n hk h0 h1 hb hd hn
  obtain ⟨n, rfl⟩ : ∃ m, n = m + 1 := ⟨n - 1, by omega⟩
  have h : ¬ (jn < bn) := by omega
  unfold shiftUp
  rw [if_neg h]
  refine iter_done ?_
  unfold g_partialInsertionSort_b6
  simp only [ltS, h, decide_false, cond_false]
 | succ k ih =>
  intro jn d n hk h0 h1 hb hd hn
  obtain ⟨n, rfl⟩ : ∃ m, n = m + 1 := ⟨n - 1, by omega⟩
  unfold shiftUp
  by_cases h : jn < bn
  ·have e : rArith .sub .i64 (jn : Int) 1 = ((jn - 1 : Nat) : Int) := sS (m := 1) (by omega) (by omega)
   simp only [h, if_true]
   cases hl : lt d[jn]! d[jn - 1]! with
   | true =>
    simp only [Bool.not_true, Bool.false_eq_true, if_false]
    rw [← ih (jn + 1) (swp d jn (jn - 1)) n (by omega) (by omega) (by omega) (by rw [size_swp]; omega) (by rw [size_swp]; omega) (by omega)]
    refine iter_next ?_
    unfold g_partialInsertionSort_b6
    simp only [ltS, h, decide_true, cond_true, e, inA, gA, inP, show jn < d.size by omega, show jn - 1 < d.size by omega, Option.bind_some, hl, Bool.not_true, cond_false, swA, succ64 (n := jn) (by omega)]
   | false =>
    simp only [Bool.not_false, if_true]
    refine iter_done ?_
    unfold g_partialInsertionSort_b6
    simp only [ltS, h, decide_true, cond_true, e, inA, gA, inP, show jn < d.size by omega, show jn - 1 < d.size by omega, Option.bind_some, hl, Bool.not_false]
  ·simp only [h, if_false]
   refine iter_done ?_
   unfold g_partialInsertionSort_b6
   simp only [ltS, h, decide_false, cond_false]
theorem pi0 (a b : Nat) (hab : a < b) : ∀ (s : Nat), s ≤ 5 → ∀ (i : Nat) (d : Array α) (n : Nat), a < i → i ≤ b → b ≤ d.size → d.size ≤ 255 → s < n →
  ∃ q, iter (g_partialInsertionSort_b0 lt ((a : Int), (b : Int), ())) n (d.toList, (i : Int), ((5 - s : Nat) : Int), ()) = some q ∧ (q = .inl ((partialIns lt a b s i d).1.toList, (partialIns lt a b s i d).2, ()) ∨ ((partialIns lt a b s i d).2 = false ∧ q = .inr (.inl ((partialIns lt a b s i d).1.toList, ())))) := by
 intro s
 induction s with
 | zero =>
  intro hs i d n ha hi hb hd hn
  obtain ⟨n, rfl⟩ : ∃ m, n = m + 1 := ⟨n - 1, by omega⟩
  exact ⟨_, iter_done rfl, .inr ⟨rfl, rfl⟩⟩
 | succ s ih =>
  intro hs i d n ha hi hb hd hn
  obtain ⟨n, rfl⟩ : ∃ m, n = m + 1 := ⟨n - 1, by omega⟩
  have g5 : rCmp .lss ((5 - (s + 1) : Nat) : Int) (5 : Int) = true := (ltS (5 - (s + 1)) 5).trans (decide_eq_true (by omega))
  have e2 : g_partialInsertionSort_l2 lt ((a : Int), (b : Int), ((5 - (s + 1) : Nat) : Int), ()) (d.toList, (i : Int), ()) = _ := pi2 (lt := lt) d hd (a : Int) (b : Int) ((5 - (s + 1) : Nat) : Int) b hb 256 i big (by omega) (by omega) (by omega) (lt_big (by omega))
  have eb : rArith .sub .i64 (b : Int) (a : Int) = ((b - a : Nat) : Int) := sS (by omega) (by omega)
  have es : rArith .add .i64 ((5 - (s + 1) : Nat) : Int) 1 = ((5 - s : Nat) : Int) := by rw [succ64 (by omega)]; congr 1; omega
  obtain ⟨h1, h2⟩ := scanSorted_ge (lt := lt) d b (b - i) i (Nat.le_refl _)
  have h2 := h2 hi
  unfold partialIns
  simp only []
  generalize scanSorted lt d b i = i2 at e2 h1 h2 ⊢
  by_cases hbi : i2 = b
  ·subst hbi
   rw [if_pos rfl]
   refine ⟨_, iter_done ?_, .inl rfl⟩
   unfold g_partialInsertionSort_b0
   simp only [g5, cond_true, e2, Option.bind_some, Sum.elim_inl, eqS, decide_true]
  ·rw [if_neg hbi]
   by_cases h50 : b - a < 50
   ·rw [if_pos h50]
    refine ⟨_, iter_done ?_, .inl rfl⟩
    unfold g_partialInsertionSort_b0
    simp only [g5, cond_true, e2, Option.bind_some, Sum.elim_inl, eqS, hbi, decide_false, cond_false, eb, show rCmp .lss ((b - a : Nat) : Int) (50 : Int) = true from (ltS (b - a) 50).trans (decide_eq_true h50)]
   ·rw [if_neg h50]
    have e50 : rCmp .lss ((b - a : Nat) : Int) (50 : Int) = false := (ltS (b - a) 50).trans (decide_eq_false h50)
    have em : rArith .sub .i64 (i2 : Int) 1 = ((i2 - 1 : Nat) : Int) := sS (m := 1) (by omega) (by omega)
    have ea : rArith .sub .i64 (i2 : Int) (a : Int) = ((i2 - a : Nat) : Int) := sS (by omega) (by omega)
    have ebi : rArith .sub .i64 (b : Int) (i2 : Int) = ((b - i2 : Nat) : Int) := sS (by omega) (by omega)
    have hsz : (swp d i2 (i2 - 1)).size = d.size := size_swp _ _ _
    have e4 : g_partialInsertionSort_l4 lt ((a : Int), (b : Int), (i2 : Int), ((5 - (s + 1) : Nat) : Int), ()) ((swp d i2 (i2 - 1)).toList, ((i2 - 1 : Nat) : Int), ()) = _ := pi4 (lt := lt) ((a : Int), (b : Int), (i2 : Int), ((5 - (s + 1) : Nat) : Int), ()) (i2 - 1) (swp d i2 (i2 - 1)) big (by omega) (by omega) (lt_big (by omega))
    have e6 : ∀ d' : Array α, d'.size = d.size → g_partialInsertionSort_l6 lt ((a : Int), (b : Int), (i2 : Int), ((5 - (s + 1) : Nat) : Int), ()) (d'.toList, ((i2 + 1 : Nat) : Int), ()) = some (.inl ((shiftUp lt b (i2 + 1) d').toList, ())) := fun d' hd' => pi6 (lt := lt) (a : Int) (b : Int) (i2 : Int) ((5 - (s + 1) : Nat) : Int) b 256 (i2 + 1) d' big (by omega) (by omega) (by omega) (by omega) (by omega) (lt_big (by omega))
    have hd4 : (shiftDown lt (i2 - 1) (swp d i2 (i2 - 1))).size = d.size := by rw [size_shiftDown, hsz]
    have hf : ∀ d' : Array α, d'.size = d.size → (shiftUp lt b (i2 + 1) d').size = d.size := fun d' h => by rw [size_shiftUp b b _ _ (by omega), h]
    by_cases hA : i2 - a ≥ 2
    ·have gA2 : rCmp .geq ((i2 - a : Nat) : Int) (2 : Int) = true := (geS (i2 - a) 2).trans (decide_eq_true hA)
     by_cases hB : b - i2 ≥ 2
     ·have gB2 : rCmp .geq ((b - i2 : Nat) : Int) (2 : Int) = true := (geS (b - i2) 2).trans (decide_eq_true hB)
      simp only [hA, hB, if_true]
      obtain ⟨q, hq, hq'⟩ := ih (by omega) i2 (shiftUp lt b (i2 + 1) (shiftDown lt (i2 - 1) (swp d i2 (i2 - 1)))) n (by omega) (by omega) (by rw [hf _ hd4]; omega) (by rw [hf _ hd4]; omega) (by omega)
      refine ⟨q, ?_, hq'⟩
      rw [← hq]
      refine iter_next ?_
      unfold g_partialInsertionSort_b0
      simp only [g5, cond_true, e2, Option.bind_some, Sum.elim_inl, eqS, hbi, decide_false, cond_false, eb, e50, em, inA, gA, inP, show i2 < d.size by omega, show i2 - 1 < d.size by omega, decide_true, swA, ea, gA2, e4, ebi, gB2, succ64 (n := i2) (by omega), e6 _ hd4, es]
     ·have gB2 : rCmp .geq ((b - i2 : Nat) : Int) (2 : Int) = false := (geS (b - i2) 2).trans (decide_eq_false hB)
      simp only [hA, hB, if_true, if_false]
      obtain ⟨q, hq, hq'⟩ := ih (by omega) i2 (shiftDown lt (i2 - 1) (swp d i2 (i2 - 1))) n (by omega) (by omega) (by rw [hd4]; omega) (by rw [hd4]; omega) (by omega)
      refine ⟨q, ?_, hq'⟩
      rw [← hq]
      refine iter_next ?_
      unfold g_partialInsertionSort_b0
      simp only [g5, cond_true, e2, Option.bind_some, Sum.elim_inl, eqS, hbi, decide_false, cond_false, eb, e50, em, inA, gA, inP, show i2 < d.size by omega, show i2 - 1 < d.size by omega, decide_true, swA, ea, gA2, e4, ebi, gB2, es]
    ·have gA2 : rCmp .geq ((i2 - a : Nat) : Int) (2 : Int) = false := (geS (i2 - a) 2).trans (decide_eq_false hA)
     by_cases hB : b - i2 ≥ 2
     ·have gB2 : rCmp .geq ((b - i2 : Nat) : Int) (2 : Int) = true := (geS (b - i2) 2).trans (decide_eq_true hB)
      simp only [hA, hB, if_true, if_false]
      obtain ⟨q, hq, hq'⟩ := ih (by omega) i2 (shiftUp lt b (i2 + 1) (swp d i2 (i2 - 1))) n (by omega) (by omega) (by rw [hf _ hsz]; omega) (by rw [hf _ hsz]; omega) (by omega)
      refine ⟨q, ?_, hq'⟩
      rw [← hq]
      refine iter_next ?_
      unfold g_partialInsertionSort_b0
      simp only [g5, cond_true, e2, Option.bind_some, Sum.elim_inl, eqS, hbi, decide_false, cond_false, eb, e50, em, inA, gA, inP, show i2 < d.size by omega, show i2 - 1 < d.size by omega, decide_true, swA, ea, gA2, ebi, gB2, succ64 (n := i2) (by omega), e6 _ hsz, es]
     ·have gB2 : rCmp .geq ((b - i2 : Nat) : Int) (2 : Int) = false := (geS (b - i2) 2).trans (decide_eq_false hB)
      simp only [hA, hB, if_false]
      obtain ⟨q, hq, hq'⟩ := ih (by omega) i2 (swp d i2 (i2 - 1)) n (by omega) (by omega) (by rw [hsz]; omega) (by rw [hsz]; omega) (by omega)
      refine ⟨q, ?_, hq'⟩
      rw [← hq]
      refine iter_next ?_
      unfold g_partialInsertionSort_b0
      simp only [g5, cond_true, e2, Option.bind_some, Sum.elim_inl, eqS, hbi, decide_false, cond_false, eb, e50, em, inA, gA, inP, show i2 < d.size by omega, show i2 - 1 < d.size by omega, decide_true, swA, ea, gA2, ebi, gB2, es]
theorem sim_partial (d : Array α) (a b : Nat) (hab : a < b) (hb : b ≤ d.size) (hd : d.size ≤ 255) : g_partialInsertionSort lt d.toList (a : Int) (b : Int) = some ((partialInsertionSort lt d a b).2, (partialInsertionSort lt d a b).1.toList, ()) := by
 unfold g_partialInsertionSort g_partialInsertionSort_l0 partialInsertionSort
 obtain ⟨q, hq, rfl | ⟨h2, rfl⟩⟩ := pi0 (lt := lt) a b hab 5 (Nat.le_refl _) (a + 1) d big (by omega) (by omega) hb hd (lt_big (by omega))
 ·rw [succ64 (n := a) (by omega)]
  rw [show (0 : Int) = ((5 - 5 : Nat) : Int) from rfl, hq]
  rfl
 ·rw [succ64 (n := a) (by omega)]
  rw [show (0 : Int) = ((5 - 5 : Nat) : Int) from rfl, hq, h2]
  rfl
theorem rev_loop (a b : Nat) : ∀ (k i j : Nat) (d : Array α) (n : Nat), j - i ≤ k → a ≤ i → j < b → b ≤ d.size → d.size ≤ 255 → i ≤ 300 → k < n → ∃ d', iter (g_reverseRange_b0 lt ()) n (d.toList, (i : Int), (j : Int), ()) = some (.inl (d'.toList, ())) ∧ PermIn a b d d' := by
 intro k
 induction k with
 | zero =>
  intro i j d n hk ha hj hb hd hi hn
  obtain ⟨n, rfl⟩ : ∃ m, n = m + 1 := ⟨n - 1, by omega⟩
  refine ⟨d, iter_done ?_, permIn_refl d a b⟩
  unfold g_reverseRange_b0
  simp only [ltS, show ¬ (i < j) by omega, decide_false, cond_false]
 | succ k ih =>
  intro i j d n hk ha hj hb hd hi hn
  obtain ⟨n, rfl⟩ : ∃ m, n = m + 1 := ⟨n - 1, by omega⟩
  by_cases h : i < j
  ·obtain ⟨d', h1, h2⟩ := ih (i + 1) (j - 1) (swp d i j) n (by omega) (by omega) (by omega) (by rw [size_swp]; omega) (by rw [size_swp]; omega) (by omega) (by omega)
   refine ⟨d', ?_, permIn_trans _ _ _ a b (swp_permIn d a b i j ha (by omega) (by omega) hj hb) h2⟩
   rw [← h1]
   refine iter_next ?_
   have e : rArith .sub .i64 (j : Int) 1 = ((j - 1 : Nat) : Int) := sS (m := 1) (by omega) (by omega)
   unfold g_reverseRange_b0
   simp only [ltS, h, decide_true, cond_true, inA, gA, inP, show i < d.size by omega, show j < d.size by omega, swA, e, succ64 (n := i) (by omega)]
  ·refine ⟨d, iter_done ?_, permIn_refl d a b⟩
   unfold g_reverseRange_b0
   simp only [ltS, h, decide_false, cond_false]
theorem spec_rev (d : Array α) (a b : Nat) (hab : a < b) (hb : b ≤ d.size) (hd : d.size ≤ 255) : ∃ d', g_reverseRange lt d.toList (a : Int) (b : Int) = some (d'.toList, ()) ∧ PermIn a b d d' := by
 obtain ⟨d', h1, h2⟩ := rev_loop (lt := lt) a b 256 a (b - 1) d big (by omega) (Nat.le_refl _) (by omega) hb hd (by omega) (lt_big (by omega))
 refine ⟨d', ?_, h2⟩
 have e : rArith .sub .i64 (b : Int) 1 = ((b - 1 : Nat) : Int) := sS (m := 1) (by omega) (by omega)
 unfold g_reverseRange g_reverseRange_l0
 rw [e, h1]
 rfl
theorem spec_order2 (d : Array α) (a b : Nat) (s : Int) (ha : a < d.size) (hb : b < d.size) : ∃ s', g_order2 lt d.toList (a : Int) (b : Int) s = some ((a : Int), (b : Int), s', ()) ∨ g_order2 lt d.toList (a : Int) (b : Int) s = some ((b : Int), (a : Int), s', ()) := by
 unfold g_order2
 simp only [inA, gA, ha, hb, decide_true, cond_true, Option.bind_some]
 cases lt d[b]! d[a]!
 ·exact ⟨_, .inl rfl⟩
 ·exact ⟨_, .inr rfl⟩
theorem spec_median (d : Array α) (a b c : Nat) (s : Int) (ha : a < d.size) (hb : b < d.size) (hc : c < d.size) : ∃ (m : Nat) (s' : Int), g_median lt d.toList (a : Int) (b : Int) (c : Int) s = some ((m : Int), s', ()) ∧ (m = a ∨ m = b ∨ m = c) := by
 unfold g_median
 obtain ⟨s1, h1 | h1⟩ := spec_order2 (lt := lt) d a b s ha hb
 ·obtain ⟨s2, h2 | h2⟩ := spec_order2 (lt := lt) d b c s1 hb hc
  ·obtain ⟨s3, h3 | h3⟩ := spec_order2 (lt := lt) d a b s2 ha hb
   ·exact ⟨b, s3, by simp only [h1, h2, h3, Option.bind_some], .inr (.inl rfl)⟩
   ·exact ⟨a, s3, by simp only [h1, h2, h3, Option.bind_some], .inl rfl⟩
  ·obtain ⟨s3, h3 | h3⟩ := spec_order2 (lt := lt) d a c s2 ha hc
   ·exact ⟨c, s3, by simp only [h1, h2, h3, Option.bind_some], .inr (.inr rfl)⟩
   ·exact ⟨a, s3, by simp only [h1, h2, h3, Option.bind_some], .inl rfl⟩
 ·obtain ⟨s2, h2 | h2⟩ := spec_order2 (lt := lt) d a c s1 ha hc
  ·obtain ⟨s3, h3 | h3⟩ := spec_order2 (lt := lt) d b a s2 hb ha
   ·exact ⟨a, s3, by simp only [h1, h2, h3, Option.bind_some], .inl rfl⟩
   ·exact ⟨b, s3, by simp only [h1, h2, h3, Option.bind_some], .inr (.inl rfl)⟩
  ·obtain ⟨s3, h3 | h3⟩ := spec_order2 (lt := lt) d b c s2 hb hc
   ·exact ⟨c, s3, by simp only [h1, h2, h3, Option.bind_some], .inr (.inr rfl)⟩
   ·exact ⟨b, s3, by simp only [h1, h2, h3, Option.bind_some], .inr (.inl rfl)⟩
theorem spec_adj (d : Array α) (a : Nat) (s : Int) (ha : 0 < a) (ha2 : a + 1 < d.size) (hd : d.size ≤ 255) : ∃ (m : Nat) (s' : Int), g_medianAdjacent lt d.toList (a : Int) s = some ((m : Int), s', ()) ∧ (m = a - 1 ∨ m = a ∨ m = a + 1) := by
 have e : rArith .sub .i64 (a : Int) 1 = ((a - 1 : Nat) : Int) := sS (m := 1) (by omega) (by omega)
 obtain ⟨m, s', h1, h2⟩ := spec_median (lt := lt) d (a - 1) a (a + 1) s (by omega) (by omega) (by omega)
 refine ⟨m, s', ?_, h2⟩
 unfold g_medianAdjacent
 rw [e, succ64 (n := a) (by omega), h1]
 rfl
theorem hint_some (p c : Int) : ∃ h : Int, (bif (rCmp .eql c (0 : Int)) then some (p, (1 : Int), ()) else (bif (rCmp .eql c (12 : Int)) then some (p, (2 : Int), ()) else some (p, (0 : Int), ()))) = some (p, h, ()) := by
 cases rCmp .eql c (0 : Int)
 ·cases rCmp .eql c (12 : Int) <;> exact ⟨_, rfl⟩
 ·exact ⟨_, rfl⟩
theorem spec_choose (d : Array α) (a b : Nat) (hab : a + 12 < b) (hb : b ≤ d.size) (hd : d.size ≤ 255) : ∃ (p : Nat) (h : Int), g_choosePivot lt d.toList (a : Int) (b : Int) = some ((p : Int), h, ()) ∧ a ≤ p ∧ p < b := by
 have z : rIsZero (4 : Int) = false := rfl
 have e1 : rArith .sub .i64 (b : Int) (a : Int) = ((b - a : Nat) : Int) := sS (by omega) (by omega)
 have g8 : rCmp .geq ((b - a : Nat) : Int) (8 : Int) = true := (geS (b - a) 8).trans (decide_eq_true (by omega))
 have eq : rArith .quo .i64 ((b - a : Nat) : Int) (4 : Int) = (((b - a) / 4 : Nat) : Int) := qS _ 4 (by omega)
 have m1 : rArith .mul .i64 (((b - a) / 4 : Nat) : Int) (1 : Int) = (((b - a) / 4 * 1 : Nat) : Int) := mS (m := 1) (by omega)
 have m2 : rArith .mul .i64 (((b - a) / 4 : Nat) : Int) (2 : Int) = (((b - a) / 4 * 2 : Nat) : Int) := mS (m := 2) (by omega)
 have m3 : rArith .mul .i64 (((b - a) / 4 : Nat) : Int) (3 : Int) = (((b - a) / 4 * 3 : Nat) : Int) := mS (m := 3) (by omega)
 have a1 : rArith .add .i64 (a : Int) (((b - a) / 4 * 1 : Nat) : Int) = ((a + (b - a) / 4 * 1 : Nat) : Int) := aS (by omega)
 have a2 : rArith .add .i64 (a : Int) (((b - a) / 4 * 2 : Nat) : Int) = ((a + (b - a) / 4 * 2 : Nat) : Int) := aS (by omega)
 have a3 : rArith .add .i64 (a : Int) (((b - a) / 4 * 3 : Nat) : Int) = ((a + (b - a) / 4 * 3 : Nat) : Int) := aS (by omega)
 unfold g_choosePivot
 simp only [z, cond_false, e1, g8, cond_true, eq, m1, m2, m3, a1, a2, a3]
 clear e1 g8 eq m1 m2 m3 a1 a2 a3 z
 generalize hc : rCmp .geq ((b - a : Nat) : Int) (50 : Int) = c
 clear hc
 cases c with
 | true =>
  obtain ⟨x1, s1, h1, k1⟩ := spec_adj (lt := lt) d (a + (b - a) / 4 * 1) (0 : Int) (by omega) (by omega) hd
  obtain ⟨x2, s2, h2, k2⟩ := spec_adj (lt := lt) d (a + (b - a) / 4 * 2) s1 (by omega) (by omega) hd
  obtain ⟨x3, s3, h3, k3⟩ := spec_adj (lt := lt) d (a + (b - a) / 4 * 3) s2 (by omega) (by omega) hd
  obtain ⟨x4, s4, h4, k4⟩ := spec_median (lt := lt) d x1 x2 x3 s3 (by omega) (by omega) (by omega)
  obtain ⟨h, hh⟩ := hint_some (x4 : Int) s4
  refine ⟨x4, h, ?_, by omega, by omega⟩
  simp only [cond_true, h1, h2, h3, h4, Option.bind_some]
  exact hh
 | false =>
  obtain ⟨x4, s4, h4, k4⟩ := spec_median (lt := lt) d (a + (b - a) / 4 * 1) (a + (b - a) / 4 * 2) (a + (b - a) / 4 * 3) 0 (by omega) (by omega) (by omega)
  obtain ⟨h, hh⟩ := hint_some (x4 : Int) s4
  refine ⟨x4, h, ?_, by omega, by omega⟩
  simp only [cond_false, h4, Option.bind_some]
  exact hh
end
end Go.Fn
set_option linter.unusedSimpArgs false
set_option linter.unusedVariables false
namespace Go.Fn
open Go.R Go.Sort
theorem np_all : (List.range 256).all (fun n => decide (n < 8) || (match slices_nextPowerOfTwo (n : Int) with | some (m, ()) => decide (1 ≤ m ∧ m ≤ 2 * (n : Int)) | none => false)) = true := by decide +kernel
theorem np_ok {n : Nat} (h8 : 8 ≤ n) (h : n ≤ 255) : ∃ m : Nat, slices_nextPowerOfTwo (n : Int) = some ((m : Int), ()) ∧ 1 ≤ m ∧ m ≤ 2 * n := by
 have h1 := List.all_eq_true.1 np_all n (List.mem_range.2 (by omega))
 rw [decide_eq_false (by omega : ¬ n < 8), Bool.false_or] at h1
 cases hq : slices_nextPowerOfTwo (n : Int) with
 | none => rw [hq] at h1; cases h1
 | some p =>
  obtain ⟨m, u⟩ := p
  cases u
  rw [hq] at h1
  have h2 : 1 ≤ m ∧ m ≤ 2 * (n : Int) := of_decide_eq_true h1
  exact ⟨m.toNat, by rw [Int.toNat_of_nonneg (by omega)], by omega, by omega⟩
theorem next_ok (x : Int) : ∃ v, __slices_xorshift__Next x = some (v, v, ()) := ⟨_, rfl⟩
theorem wu64 {n : Int} (h1 : 0 ≤ n) (h2 : n < 18446744073709551616) : IntKind.u64.wrap n = n := IntWalk.u64_in n ⟨h1, by omega⟩
theorem andU (x : Int) {c : Nat} (hc : c < 9223372036854775808) : ∃ r : Nat, rArith .and .u64 x (c : Int) = (r : Int) ∧ r ≤ c := by
 have h1 : (BitVec.ofInt 64 (c : Int)).toNat = c := by
  rw [BitVec.toNat_ofInt]
  have : ((c : Int) % ((2 ^ 64 : Nat) : Int)) = c := Int.emod_eq_of_lt (by omega) (by omega)
  rw [this]; rfl
 have h2 : (BitVec.ofInt 64 x &&& BitVec.ofInt 64 (c : Int)).toNat ≤ c := by
  rw [BitVec.toNat_and, h1]
  exact Nat.and_le_right
 have e : rArith .and .u64 x (c : Int) = IntKind.u64.wrap (((BitVec.ofInt 64 x &&& BitVec.ofInt 64 (c : Int)).toNat : Nat) : Int) := rfl
 rw [e, wu64 (by omega) (by omega)]
 exact ⟨_, rfl, h2⟩
theorem subU {n : Nat} (h : 1 ≤ n) (h2 : n < 1099511627776) : rArith .sub .u64 (n : Int) 1 = ((n - 1 : Nat) : Int) := by
 have e : rArith .sub .u64 (n : Int) 1 = IntKind.u64.wrap ((n : Int) - 1) := rfl
 rw [e, wu64 (by omega) (by omega)]; omega
theorem convI {n : Nat} (h : n < 1099511627776) : rConv .i64 (n : Int) = (n : Int) := w64 (by omega) (by omega)
section
variable {α : Type} [Inhabited α] {lt : α → α → Bool}
theorem brk_loop (a len m last : Nat) (b : Nat) (hlen : b = a + len) (h8 : 8 ≤ len) (hm1 : 1 ≤ m) (hm2 : m ≤ 2 * len) (hlast : last = a + len / 4 * 2 + 1) :
  ∀ (k idx : Nat) (r : Int) (d : Array α) (n : Nat), last + 1 - idx ≤ k → a ≤ idx → b ≤ d.size → d.size ≤ 255 → idx ≤ 300 → k < n → ∃ d', iter (g_breakPatterns_b0 lt ((a : Int), (len : Int), (m : Int), ())) n (d.toList, r, (idx : Int), ()) = some (.inl (d'.toList, ())) ∧ PermIn a b d d' := by
 have z : rIsZero (4 : Int) = false := rfl
 intro k
 induction k with
 | zero =>
  intro idx r d n hk ha hb hd hi hn
  obtain ⟨n, rfl⟩ : ∃ m, n = m + 1 := ⟨n - 1, by omega⟩
  refine ⟨d, iter_done ?_, permIn_refl d a b⟩
  have e1 : rArith .quo .i64 (len : Int) (4 : Int) = ((len / 4 : Nat) : Int) := qS _ 4 (by omega)
  have e2 : rArith .mul .i64 ((len / 4 : Nat) : Int) (2 : Int) = ((len / 4 * 2 : Nat) : Int) := mS (m := 2) (by omega)
  have e3 : rArith .add .i64 (a : Int) ((len / 4 * 2 : Nat) : Int) = ((a + len / 4 * 2 : Nat) : Int) := aS (by omega)
  unfold g_breakPatterns_b0
  simp only [z, cond_false, e1, e2, e3, succ64 (n := a + len / 4 * 2) (by omega), leS, ← hlast]
  rw [decide_eq_false (by omega : ¬ idx ≤ last)]
  rfl
 | succ k ih =>
  intro idx r d n hk ha hb hd hi hn
  obtain ⟨n, rfl⟩ : ∃ m, n = m + 1 := ⟨n - 1, by omega⟩
  have e1 : rArith .quo .i64 (len : Int) (4 : Int) = ((len / 4 : Nat) : Int) := qS _ 4 (by omega)
  have e2 : rArith .mul .i64 ((len / 4 : Nat) : Int) (2 : Int) = ((len / 4 * 2 : Nat) : Int) := mS (m := 2) (by omega)
  have e3 : rArith .add .i64 (a : Int) ((len / 4 * 2 : Nat) : Int) = ((a + len / 4 * 2 : Nat) : Int) := aS (by omega)
  by_cases h : idx ≤ last
  ·obtain ⟨v, hv⟩ := next_ok r
   obtain ⟨w, hw, hw2⟩ := andU v (c := m - 1) (by omega)
   have hib : idx < b := by omega
   by_cases hg : w ≥ len
   ·have e4 : rArith .sub .i64 (w : Int) (len : Int) = ((w - len : Nat) : Int) := sS (by omega) (by omega)
    have e5 : rArith .add .i64 (a : Int) ((w - len : Nat) : Int) = ((a + (w - len) : Nat) : Int) := aS (by omega)
    obtain ⟨d', h1, h2⟩ := ih (idx + 1) v (swp d idx (a + (w - len))) n (by omega) (by omega) (by rw [size_swp]; omega) (by rw [size_swp]; omega) (by omega) (by omega)
    refine ⟨d', ?_, permIn_trans _ _ _ a b (swp_permIn d a b idx (a + (w - len)) ha hib (by omega) (by omega) hb) h2⟩
    rw [← h1]
    refine iter_next ?_
    unfold g_breakPatterns_b0
    simp only [z, cond_false, e1, e2, e3, succ64 (n := a + len / 4 * 2) (by omega), leS, ← hlast, h, decide_true, cond_true, hv, Option.bind_some, subU hm1 (by omega), hw, convI (n := w) (by omega), geS, hg, e4, e5, inA, gA, inP, show a + (w - len) < d.size by omega, show idx < d.size by omega, swA, lets_def, succ64 (n := idx) (by omega)]
   ·have e5 : rArith .add .i64 (a : Int) (w : Int) = ((a + w : Nat) : Int) := aS (by omega)
    obtain ⟨d', h1, h2⟩ := ih (idx + 1) v (swp d idx (a + w)) n (by omega) (by omega) (by rw [size_swp]; omega) (by rw [size_swp]; omega) (by omega) (by omega)
    refine ⟨d', ?_, permIn_trans _ _ _ a b (swp_permIn d a b idx (a + w) ha hib (by omega) (by omega) hb) h2⟩
    rw [← h1]
    refine iter_next ?_
    unfold g_breakPatterns_b0
    simp only [z, cond_false, e1, e2, e3, succ64 (n := a + len / 4 * 2) (by omega), leS, ← hlast, h, decide_true, cond_true, hv, Option.bind_some, subU hm1 (by omega), hw, convI (n := w) (by omega), geS, hg, decide_false, e5, inA, gA, inP, show a + w < d.size by omega, show idx < d.size by omega, swA, lets_def, succ64 (n := idx) (by omega)]
  ·refine ⟨d, iter_done ?_, permIn_refl d a b⟩
   unfold g_breakPatterns_b0
   simp only [z, cond_false, e1, e2, e3, succ64 (n := a + len / 4 * 2) (by omega), leS, ← hlast]
   rw [decide_eq_false h]
   rfl
theorem convU {n : Nat} (h : n < 1099511627776) : rConv .u64 (n : Int) = (n : Int) := wu64 (by omega) (by omega)
theorem spec_break (d : Array α) (a b : Nat) (hab : a + 12 < b) (hb : b ≤ d.size) (hd : d.size ≤ 255) : ∃ d', g_breakPatterns lt d.toList (a : Int) (b : Int) = some (d'.toList, ()) ∧ PermIn a b d d' := by
 have z : rIsZero (4 : Int) = false := rfl
 obtain ⟨m, hm, hm1, hm2⟩ := np_ok (n := b - a) (by omega) (by omega)
 obtain ⟨d', h1, h2⟩ := brk_loop (lt := lt) a (b - a) m (a + (b - a) / 4 * 2 + 1) b (by omega) (by omega) hm1 hm2 rfl 256 (a + (b - a) / 4 * 2 - 1) ((b - a : Nat) : Int) d big (by omega) (by omega) hb hd (by omega) (lt_big (by omega))
 refine ⟨d', ?_, h2⟩
 have e1 : rArith .sub .i64 (b : Int) (a : Int) = ((b - a : Nat) : Int) := sS (by omega) (by omega)
 have g8 : rCmp .geq ((b - a : Nat) : Int) (8 : Int) = true := (geS (b - a) 8).trans (decide_eq_true (by omega))
 have eq : rArith .quo .i64 ((b - a : Nat) : Int) (4 : Int) = (((b - a) / 4 : Nat) : Int) := qS _ 4 (by omega)
 have m2 : rArith .mul .i64 (((b - a) / 4 : Nat) : Int) (2 : Int) = (((b - a) / 4 * 2 : Nat) : Int) := mS (m := 2) (by omega)
 have a2 : rArith .add .i64 (a : Int) (((b - a) / 4 * 2 : Nat) : Int) = ((a + (b - a) / 4 * 2 : Nat) : Int) := aS (by omega)
 have s2 : rArith .sub .i64 ((a + (b - a) / 4 * 2 : Nat) : Int) 1 = ((a + (b - a) / 4 * 2 - 1 : Nat) : Int) := sS (m := 1) (by omega) (by omega)
 unfold g_breakPatterns g_breakPatterns_l0
 simp only [e1, g8, cond_true, hm, Option.bind_some, z, cond_false, eq, m2, a2, s2, convU (n := b - a) (by omega), h1, Sum.elim_inl]
abbrev PdqQ (α : Type) := Option (((List α) × Int × Int × Int × Bool × Bool × Unit) ⊕ ((List α) × Unit ⊕ Empty))
noncomputable def RecOk (lt : α → α → Bool) (rec : (List α) → Int → Int → Int → Option ((List α) × Unit)) (M : Nat) : Prop :=
 ∀ (d : Array α) (a b : Nat) (L : Int), b - a < M → a ≤ b → b ≤ d.size → d.size ≤ 255 → Below lt a b d → ∃ d', rec d.toList (a : Int) (b : Int) L = some (d'.toList, ()) ∧ PermIn a b d d' ∧ SortedIn lt a b d'
noncomputable def Next (lt : α → α → Bool) (q : PdqQ α) (d : Array α) (a b : Nat) : Prop :=
 (∃ R, q = some (.inr (.inl (R.toList, ()))) ∧ PermIn a b d R ∧ SortedIn lt a b R) ∨
 (∃ (E : Array α) (a' b' : Nat) (L : Int) (wb wp : Bool), q = some (.inl (E.toList, (a' : Int), (b' : Int), L, wb, wp, ())) ∧ E.size = d.size ∧ a' ≤ b' ∧ b' ≤ b ∧ b' - a' < b - a ∧ Below lt a' b' E ∧ ∀ R, PermIn a' b' E R → SortedIn lt a' b' R → PermIn a b d R ∧ SortedIn lt a b R)
theorem Next.mono {q : PdqQ α} {d D : Array α} {a b : Nat} (h : Next lt q D a b) (p : PermIn a b d D) : Next lt q d a b := by
 rcases h with ⟨R, h1, h2, h3⟩ | ⟨E, a', b', L, wb, wp, h1, h2, h3, h4, h5, h6, h7⟩
 ·exact .inl ⟨R, h1, permIn_trans _ _ _ a b p h2, h3⟩
 ·refine .inr ⟨E, a', b', L, wb, wp, h1, by rw [h2, p.1], h3, h4, h5, h6, fun R hR hs => ?_⟩
  obtain ⟨k1, k2⟩ := h7 R hR hs
  exact ⟨permIn_trans _ _ _ a b p k1, k2⟩
noncomputable def g_part (lt : α → α → Bool) (rec : (List α) → Int → Int → Int → Option ((List α) × Unit)) (a b L : Int) (D : List α) (P : Int) : PdqQ α :=
 ((g_partition lt D a b P).bind fun y1 => (bif (rIsZero (8 : Int)) then none else (bif (rCmp .lss (rArith .sub .i64 y1.1 a) (rArith .sub .i64 b y1.1)) then ((rec y1.2.2.1 a y1.1 L).bind fun y2 => some (.inl (y2.1, (rArith .add .i64 y1.1 (1 : Int)), b, L, (rCmp .geq (rArith .sub .i64 y1.1 a) (rArith .quo .i64 (rArith .sub .i64 b a) (8 : Int))), y1.2.1, ()))) else ((rec y1.2.2.1 (rArith .add .i64 y1.1 (1 : Int)) b L).bind fun y2 => some (.inl (y2.1, a, y1.1, L, (rCmp .geq (rArith .sub .i64 b y1.1) (rArith .quo .i64 (rArith .sub .i64 b a) (8 : Int))), y1.2.1, ()))))))
noncomputable def g_tail (lt : α → α → Bool) (rec : (List α) → Int → Int → Int → Option ((List α) × Unit)) (a b L : Int) (wb wp : Bool) (D : List α) (P : Int) : PdqQ α :=
 (bif (rCmp .gtr a (0 : Int)) then (bif (rInR D (rArith .sub .i64 a (1 : Int))) then (bif (rInR D P) then ((some (lt (rGet default D (rArith .sub .i64 a (1 : Int))) (rGet default D P), ())).bind fun y1 => (bif (Bool.not y1.1) then ((g_partitionEqual lt D a b P).bind fun y2 => some (.inl (y2.2.1, y2.1, b, L, wb, wp, ()))) else g_part lt rec a b L D P)) else none) else none) else g_part lt rec a b L D P)
theorem part_ok (h : SWO lt) {rec : (List α) → Int → Int → Int → Option ((List α) × Unit)} {M : Nat} (hrec : RecOk lt rec M) (D : Array α) (a b p : Nat) (L : Int) (hab : a < b) (hb : b ≤ D.size) (hd : D.size ≤ 255) (hB : Below lt a b D) (hp1 : a ≤ p) (hp2 : p < b) (hM : b - a ≤ M) :
  Next lt (g_part lt rec (a : Int) (b : Int) L D.toList (p : Int)) D a b := by
 have z : rIsZero (8 : Int) = false := rfl
 have hsim := sim_part (lt := lt) D a b p hab hb hd (by omega)
 have hrp := round_part h (partition_holds lt) hp1 hp2 hb hB (mid := (partition lt D a b p).1) (ap := (partition lt D a b p).2.1) (d4 := (partition lt D a b p).2.2) rfl
 generalize (partition lt D a b p).1 = mid at hsim hrp
 generalize (partition lt D a b p).2.1 = ap at hsim hrp
 generalize (partition lt D a b p).2.2 = d4 at hsim hrp
 obtain ⟨g1, g2, hs4, hBa, hBr, hleft, hright⟩ := hrp
 unfold g_part
 have e1 : rArith .sub .i64 (mid : Int) (a : Int) = ((mid - a : Nat) : Int) := sS (by omega) (by omega)
 have e2 : rArith .sub .i64 (b : Int) (mid : Int) = ((b - mid : Nat) : Int) := sS (by omega) (by omega)
 have e3 : rArith .add .i64 (mid : Int) 1 = ((mid + 1 : Nat) : Int) := succ64 (by omega)
 simp only [hsim, Option.bind_some, z, cond_false, e1, e2, e3, ltS]
 by_cases hlt : mid - a < b - mid
 ·obtain ⟨L1, hL, l1, l2⟩ := hrec d4 a mid L (by omega) g1 (by omega) (by omega) hBa
  obtain ⟨hBL, hfin⟩ := hleft L1 l1 l2
  simp only [hlt, decide_true, cond_true, hL, Option.bind_some]
  exact .inr ⟨L1, mid + 1, b, _, _, _, rfl, by rw [l1.1, hs4], by omega, Nat.le_refl _, by omega, hBL, hfin⟩
 ·obtain ⟨L1, hL, l1, l2⟩ := hrec d4 (mid + 1) b L (by omega) (by omega) (by omega) (by omega) hBr
  obtain ⟨hBL, hfin⟩ := hright L1 l1 l2
  simp only [hlt, decide_false, cond_false, hL, Option.bind_some]
  exact .inr ⟨L1, a, mid, _, _, _, rfl, by rw [l1.1, hs4], by omega, by omega, by omega, hBL, hfin⟩
theorem tail_ok (h : SWO lt) {rec : (List α) → Int → Int → Int → Option ((List α) × Unit)} {M : Nat} (hrec : RecOk lt rec M) (D : Array α) (a b p : Nat) (L : Int) (wb wp : Bool) (hab : a < b) (hb : b ≤ D.size) (hd : D.size ≤ 255) (hB : Below lt a b D) (hp1 : a ≤ p) (hp2 : p < b) (hM : b - a ≤ M) :
  Next lt (g_tail lt rec (a : Int) (b : Int) L wb wp D.toList (p : Int)) D a b := by
 have hpart := part_ok h hrec D a b p L hab hb hd hB hp1 hp2 hM
 unfold g_tail
 by_cases h0 : a > 0
 ·have g0 : rCmp .gtr (a : Int) (0 : Int) = true := (gtS a 0).trans (decide_eq_true h0)
  have e1 : rArith .sub .i64 (a : Int) 1 = ((a - 1 : Nat) : Int) := sS (m := 1) (by omega) (by omega)
  simp only [g0, cond_true, e1, inA, gA, show a - 1 < D.size by omega, show p < D.size by omega, decide_true, Option.bind_some]
  cases hl : lt D[a - 1]! D[p]! with
  | true => exact hpart
  | false =>
   have hsim := sim_parteq (lt := lt) D a b p hab hb hd (by omega)
   have hrp := round_eq h (partitionEqual_holds lt) h0 hp1 hp2 hb hB hl (mid := (partitionEqual lt D a b p).1) (d4 := (partitionEqual lt D a b p).2) rfl
   generalize (partitionEqual lt D a b p).1 = mid at hsim hrp
   generalize (partitionEqual lt D a b p).2 = d4 at hsim hrp
   obtain ⟨hm1, hm2, hs4, hB4, hfin⟩ := hrp
   simp only [Bool.not_false, cond_true, hsim, Option.bind_some]
   exact .inr ⟨d4, mid, b, _, _, _, rfl, hs4, hm2, Nat.le_refl _, by omega, hB4, hfin⟩
 ·have g0 : rCmp .gtr (a : Int) (0 : Int) = false := (gtS a 0).trans (decide_eq_false h0)
  simp only [g0, cond_false]
  exact hpart
noncomputable def g_mid (lt : α → α → Bool) (rec : (List α) → Int → Int → Int → Option ((List α) × Unit)) (a b L : Int) (wb wp : Bool) (D : List α) (P : Int) : PdqQ α :=
 ((g_partialInsertionSort lt D a b).bind fun y3 => (bif y3.1 then some (.inr (.inl (y3.2.1, ()))) else g_tail lt rec a b L wb wp y3.2.1 P))
theorem mid_ok (h : SWO lt) {rec : (List α) → Int → Int → Int → Option ((List α) × Unit)} {M : Nat} (hrec : RecOk lt rec M) (D : Array α) (a b p : Nat) (L : Int) (wb wp : Bool) (hab : a < b) (hb : b ≤ D.size) (hd : D.size ≤ 255) (hB : Below lt a b D) (hp1 : a ≤ p) (hp2 : p < b) (hM : b - a ≤ M) :
  Next lt (g_mid lt rec (a : Int) (b : Int) L wb wp D.toList (p : Int)) D a b := by
 have hsim := sim_partial (lt := lt) D a b hab hb hd
 obtain ⟨k1, k2⟩ := partialInsertionSort_holds h D a b hab hb hB
 unfold g_mid
 generalize (partialInsertionSort lt D a b).1 = D3 at hsim k1 k2
 generalize (partialInsertionSort lt D a b).2 = fl at hsim k1 k2
 simp only [hsim, Option.bind_some]
 cases fl with
 | true => exact .inl ⟨D3, rfl, k1, k2 rfl⟩
 | false => exact (tail_ok h hrec D3 a b p L wb wp hab (by rw [k1.1]; exact hb) (by rw [k1.1]; exact hd) (hB.perm hb k1) hp1 hp2 hM).mono k1
theorem round_ok (h : SWO lt) {rec : (List α) → Int → Int → Int → Option ((List α) × Unit)} {M : Nat} (hrec : RecOk lt rec M) (d : Array α) (a b : Nat) (L : Int) (wb wp : Bool) (hab : a ≤ b) (hb : b ≤ d.size) (hd : d.size ≤ 255) (hB : Below lt a b d) (hM : b - a ≤ M) :
  Next lt (g_pdqsort_b0 lt rec () (d.toList, (a : Int), (b : Int), L, wb, wp, ())) d a b := by
 have e1 : rArith .sub .i64 (b : Int) (a : Int) = ((b - a : Nat) : Int) := sS (by omega) (by omega)
 have eb : rArith .sub .i64 (b : Int) 1 = ((b - 1 : Nat) : Int) ∨ b = 0 := by
  by_cases h0 : b = 0
  ·exact .inr h0
  ·exact .inl (sS (m := 1) (by omega) (by omega))
 by_cases h12 : b - a ≤ 12
 ·have g : rCmp .leq ((b - a : Nat) : Int) (12 : Int) = true := (leS (b - a) 12).trans (decide_eq_true h12)
  unfold g_pdqsort_b0
  simp only [e1, g, cond_true, sim_ins (lt := lt) d a b hab hb hd, Option.bind_some]
  have := insertionSort_holds h d a b hab hb
  exact .inl ⟨_, rfl, this.1, this.2⟩
 ·have g : rCmp .leq ((b - a : Nat) : Int) (12 : Int) = false := (leS (b - a) 12).trans (decide_eq_false h12)
  cases hL : rCmp .eql L (0 : Int) with
  | true =>
   unfold g_pdqsort_b0
   simp only [e1, g, cond_false, hL, cond_true, sim_heap (lt := lt) d a b (by omega) hb hd, Option.bind_some]
   have := heapSort_holds h d a b hab hb
   exact .inl ⟨_, rfl, this.1, this.2⟩
  | false =>
   have eb := eb.resolve_right (by omega)
   have ePv : ∀ p : Nat, a ≤ p → p < b → rArith .sub .i64 ((b - 1 : Nat) : Int) (rArith .sub .i64 (p : Int) (a : Int)) = (((b - 1) - (p - a) : Nat) : Int) := by
    intro p h1 h2
    rw [sS (n := p) (m := a) h1 (by omega), sS (by omega) (by omega)]
   cases wb with
   | false =>
    obtain ⟨d1, hbr, p1⟩ := spec_break (lt := lt) d a b (by omega) hb hd
    have b1 : b ≤ d1.size := by rw [p1.1]; exact hb
    have s1 : d1.size ≤ 255 := by rw [p1.1]; exact hd
    have B1 := hB.perm hb p1
    obtain ⟨p, hh, hch, hp1, hp2⟩ := spec_choose (lt := lt) d1 a b (by omega) b1 s1
    cases hr2 : rCmp .eql hh (2 : Int) with
    | true =>
     obtain ⟨d2, hrv, p2⟩ := spec_rev (lt := lt) d1 a b (by omega) b1 s1
     have := (tail_ok h hrec d2 a b ((b - 1) - (p - a)) (rArith .sub .i64 L 1) false wp (by omega) (by rw [p2.1]; exact b1) (by rw [p2.1]; exact s1) (B1.perm b1 p2) (by omega) (by omega) hM).mono (permIn_trans _ _ _ a b p1 p2)
     unfold g_pdqsort_b0
     simp only [e1, g, cond_false, hL, Bool.not_false, cond_true, hbr, Option.bind_some, hch, hr2, hrv, eb, ePv p hp1 hp2]
     simp only [g_tail, g_part, e1, Option.bind_some] at this
     exact this
    | false =>
     have := (tail_ok h hrec d1 a b p (rArith .sub .i64 L 1) false wp (by omega) b1 s1 B1 hp1 hp2 hM).mono p1
     unfold g_pdqsort_b0
     simp only [e1, g, cond_false, hL, Bool.not_false, cond_true, hbr, Option.bind_some, hch, hr2]
     simp only [g_tail, g_part, e1, Option.bind_some] at this
     exact this
   | true =>
    obtain ⟨p, hh, hch, hp1, hp2⟩ := spec_choose (lt := lt) d a b (by omega) hb hd
    cases hr2 : rCmp .eql hh (2 : Int) with
    | true =>
     obtain ⟨d2, hrv, p2⟩ := spec_rev (lt := lt) d a b (by omega) hb hd
     have hb2 : b ≤ d2.size := by rw [p2.1]; exact hb
     have hs2 : d2.size ≤ 255 := by rw [p2.1]; exact hd
     cases wp with
     | true =>
      have := (mid_ok h hrec d2 a b ((b - 1) - (p - a)) L true true (by omega) hb2 hs2 (hB.perm hb p2) (by omega) (by omega) hM).mono p2
      unfold g_pdqsort_b0
      simp only [e1, g, cond_false, hL, Bool.not_true, cond_true, Option.bind_some, hch, hr2, hrv, eb, ePv p hp1 hp2, show rCmp .eql (1 : Int) (1 : Int) = true from rfl]
      simp only [g_mid, g_tail, g_part, e1, Option.bind_some] at this
      exact this
     | false =>
      have := (tail_ok h hrec d2 a b ((b - 1) - (p - a)) L true false (by omega) hb2 hs2 (hB.perm hb p2) (by omega) (by omega) hM).mono p2
      unfold g_pdqsort_b0
      simp only [e1, g, cond_false, hL, Bool.not_true, cond_true, Option.bind_some, hch, hr2, hrv, eb, ePv p hp1 hp2]
      simp only [g_tail, g_part, e1, Option.bind_some] at this
      exact this
    | false =>
     cases wp with
     | true =>
      cases hr1 : rCmp .eql hh (1 : Int) with
      | true =>
       have := mid_ok h hrec d a b p L true true (by omega) hb hd hB hp1 hp2 hM
       unfold g_pdqsort_b0
       simp only [e1, g, cond_false, hL, Bool.not_true, cond_true, Option.bind_some, hch, hr2, hr1]
       simp only [g_mid, g_tail, g_part, e1, Option.bind_some] at this
       exact this
      | false =>
       have := tail_ok h hrec d a b p L true true (by omega) hb hd hB hp1 hp2 hM
       unfold g_pdqsort_b0
       simp only [e1, g, cond_false, hL, Bool.not_true, cond_true, Option.bind_some, hch, hr2, hr1]
       simp only [g_tail, g_part, e1, Option.bind_some] at this
       exact this
     | false =>
      have := tail_ok h hrec d a b p L true false (by omega) hb hd hB hp1 hp2 hM
      unfold g_pdqsort_b0
      simp only [e1, g, cond_false, hL, Bool.not_true, cond_true, Option.bind_some, hch, hr2]
      simp only [g_tail, g_part, e1, Option.bind_some] at this
      exact this
theorem pdq_loop (h : SWO lt) {rec : (List α) → Int → Int → Int → Option ((List α) × Unit)} {M : Nat} (hrec : RecOk lt rec M) : ∀ (k : Nat) (d : Array α) (a b : Nat) (L : Int) (wb wp : Bool) (n : Nat), b - a ≤ k → b - a ≤ M → k < n → a ≤ b → b ≤ d.size → d.size ≤ 255 → Below lt a b d →
  ∃ d', iter (g_pdqsort_b0 lt rec ()) n (d.toList, (a : Int), (b : Int), L, wb, wp, ()) = some (.inl (d'.toList, ())) ∧ PermIn a b d d' ∧ SortedIn lt a b d' := by
 intro k
 induction k with
 | zero =>
  intro d a b L wb wp n hk hM hn hab hb hd hB
  obtain ⟨n, rfl⟩ : ∃ m, n = m + 1 := ⟨n - 1, by omega⟩
  rcases round_ok h hrec d a b L wb wp hab hb hd hB hM with ⟨R, h1, h2, h3⟩ | ⟨E, a', b', L', wb', wp', h1, h2, h3, h4, h5, h6, h7⟩
  ·exact ⟨R, iter_done h1, h2, h3⟩
  ·omega
 | succ k ih =>
  intro d a b L wb wp n hk hM hn hab hb hd hB
  obtain ⟨n, rfl⟩ : ∃ m, n = m + 1 := ⟨n - 1, by omega⟩
  rcases round_ok h hrec d a b L wb wp hab hb hd hB hM with ⟨R, h1, h2, h3⟩ | ⟨E, a', b', L', wb', wp', h1, h2, h3, h4, h5, h6, h7⟩
  ·exact ⟨R, iter_done h1, h2, h3⟩
  ·obtain ⟨d', k1, k2, k3⟩ := ih E a' b' L' wb' wp' n (by omega) (by omega) (by omega) h3 (by omega) (by omega) h6
   exact ⟨d', by rw [iter_next h1]; exact k1, h7 d' k2 k3⟩
theorem pdq_f (h : SWO lt) : ∀ F, RecOk lt (g_pdqsort_f lt F) F := by
 intro F
 induction F with
 | zero => intro d a b L hF; omega
 | succ F ih =>
  intro d a b L hF hab hb hd hB
  obtain ⟨d', h1, h2, h3⟩ := pdq_loop h ih 256 d a b L true true big (by omega) (by omega) (lt_big (by omega)) hab hb hd hB
  refine ⟨d', ?_, h2, h3⟩
  unfold g_pdqsort_f g_pdqsort_r g_pdqsort_l0
  rw [h1]
  rfl
theorem pdq_all (h : SWO lt) (l : List α) (L : Int) (hl : l.length ≤ 255) : ∃ r : List α, g_pdqsort lt l (0 : Int) (l.length : Int) L = some (r, ()) ∧ r.Perm l ∧ ∀ i j, i < j → j < r.length → lt (r.getD j default) (r.getD i default) = false := by
 obtain ⟨d', h1, h2, h3⟩ := pdq_f h big l.toArray 0 l.length L (lt_big (by omega)) (by omega) (by simp) (by simpa using hl) (.inl rfl)
 have hsz : d'.size = l.length := by rw [h2.1]; simp
 refine ⟨d'.toList, h1, ?_, fun i j hij hj => ?_⟩
 ·have := h2.2.2
  rw [show d'.extract 0 l.length = d' by rw [← hsz]; exact Array.extract_size, show l.toArray.extract 0 l.length = l.toArray by rw [show l.length = l.toArray.size by simp]; exact Array.extract_size] at this
  exact this
 ·have := h3 i j (by omega) hij (by rw [Array.length_toList] at hj; omega)
  rw [← gA, ← gA, get_nat, get_nat] at this
  exact this
end
end Go.Fn
set_option linter.unusedSimpArgs false
set_option linter.unusedVariables false
namespace Go.Fn
open Go.R Go.Sort
noncomputable def ltE (x y : Ev) : Bool := decide (x.1 < y.1) || (decide (x.1 = y.1) && decide (x.2.1 < y.2.1))
noncomputable def sgn (a b : Int) : Int := bif decide (a < b) then -1 else bif decide (b < a) then 1 else 0
theorem compare_eq (a b : Int) : cmp_Compare_int_ a b = some (sgn a b, ()) := by
 unfold cmp_Compare_int_ cmp_isNaN_int_ sgn
 simp only [neq_self, Option.bind_some, cond_false]
 simp only [rCmp, gt_iff_lt]
 cases decide (a < b) <;> cases decide (b < a) <;> rfl
theorem or_eq (a b : Int) : cmp_Or_int_ [a, b] = some ((bif decide (a = 0) then b else a), ()) := by
 unfold cmp_Or_int_ cmp_Or_int__l0
 have hb : ∀ n : Nat, n < 2 → cmp_Or_int__b0 ((0 : Int), [a, b], rLen [a, b], ()) ((n : Int), ()) = some (bif decide (([a, b].getD n 0) = 0) then .inl (((n + 1 : Nat) : Int), ()) else .inr (.inl ([a, b].getD n 0, ()))) := by
  intro n hn
  unfold cmp_Or_int__b0
  simp only [lss_len, inR_nat, get_nat, show n < [a, b].length from hn, decide_true, cond_true, succ64 (n := n) (by omega), zI]
  by_cases h : [a, b].getD n 0 = 0
  ·rw [h]; rfl
  ·rw [show rCmp .neq ([a, b].getD n 0) (0 : Int) = true from by simpa [rCmp] using h, decide_eq_false h]; rfl
 by_cases ha : a = 0
 ·by_cases hb0 : b = 0
  ·have e : iter (cmp_Or_int__b0 ((0 : Int), [a, b], rLen [a, b], ())) 3 ((0 : Int), ()) = some (.inr (.inl ())) := by
    rw [iter_next (y := (((1 : Nat) : Int), ())) (by simpa [ha] using hb 0 (by omega)), iter_next (y := (((2 : Nat) : Int), ())) (by simpa [hb0] using hb 1 (by omega))]
    exact iter_done rfl
   rw [iter_mono e (by unfold big; omega), ha, hb0]
   rfl
  ·have e : iter (cmp_Or_int__b0 ((0 : Int), [a, b], rLen [a, b], ())) 2 ((0 : Int), ()) = some (.inl (b, ())) := by
    rw [iter_next (y := (((1 : Nat) : Int), ())) (by simpa [ha] using hb 0 (by omega))]
    exact iter_done (by simpa [hb0] using hb 1 (by omega))
   rw [iter_mono e (by unfold big; omega), ha]
   rfl
 ·have e : iter (cmp_Or_int__b0 ((0 : Int), [a, b], rLen [a, b], ())) 1 ((0 : Int), ()) = some (.inl (a, ())) := iter_done (by simpa [ha] using hb 0 (by omega))
  rw [iter_mono e (by unfold big; omega)]
  simp [ha]
end Go.Fn
set_option linter.unusedSimpArgs false
set_option linter.unusedVariables false
namespace Go.Fn
open Go.R Go.Sort
theorem ltE_iff {x y : Ev} : ltE x y = true ↔ x.1 < y.1 ∨ (x.1 = y.1 ∧ x.2.1 < y.2.1) := by
 unfold ltE; simp
theorem ltE_tr {x y z : Ev} (h1 : ltE x y = true) (h2 : ltE y z = true) : ltE x z = true := by rw [ltE_iff] at *; omega
abbrev Srt (l : List Ev) : Prop := l.Pairwise fun x y => ltE x y = true
theorem srt_adj : ∀ (l : List Ev), (∀ n, n + 1 < l.length → ltE (l.getD n zIIIIIII) (l.getD (n + 1) zIIIIIII) = true) → Srt l
 | [], _ => List.Pairwise.nil
 | [x], _ => List.pairwise_singleton _ _
 | x :: y :: l, h => by
  have ih := srt_adj (y :: l) (fun n hn => h (n + 1) (by simpa using hn))
  have hxy : ltE x y = true := h 0 (by simp)
  refine List.Pairwise.cons (fun z hz => ?_) ih
  rcases List.mem_cons.1 hz with rfl | hz
  ·exact hxy
  ·exact ltE_tr hxy ((List.pairwise_cons.1 ih).1 z hz)
theorem jok_srt {l : List Ev} (h : jok l = true) : Srt l := by
 refine srt_adj l fun n hn => ?_
 have := jok_at h hn
 simp only [jokAt, Bool.and_eq_true, ordOk, Bool.not_eq_true', Bool.or_eq_false_iff, Bool.and_eq_false_iff, decide_eq_false_iff_not] at this
 rw [ltE_iff]
 omega
end Go.Fn
set_option linter.unusedSimpArgs false
set_option linter.unusedVariables false
namespace Go.Fn
open Go.R Go.Sort
theorem len_all : (List.range 256).all (fun n => (math_bits_Len (n : Int)).isSome) = true := by decide +kernel
theorem len_ok {n : Nat} (h : n ≤ 255) : ∃ L, math_bits_Len (n : Int) = some (L, ()) := by
 have h1 := List.all_eq_true.1 len_all n (List.mem_range.2 (by omega))
 obtain ⟨⟨L, u⟩, hL⟩ := Option.isSome_iff_exists.1 h1
 exact ⟨L, hL⟩
end Go.Fn
set_option linter.unusedSimpArgs false
set_option linter.unusedVariables false
namespace Go.Fn
open Go.R Go.Sort
noncomputable def ordE (x y : Ev) : Prop := ltE x y = true ∧ (x.1 = y.1 → x.2.2.1 < y.2.2.1)
theorem ordE_tr {x y z : Ev} (h1 : ordE x y) (h2 : ordE y z) : ordE x z := by
 obtain ⟨a1, a2⟩ := h1
 obtain ⟨b1, b2⟩ := h2
 refine ⟨ltE_tr a1 b1, fun h => ?_⟩
 rw [ltE_iff] at a1 b1
 have := a2 (by omega)
 have := b2 (by omega)
 omega
theorem ordOk_iff {x y : Ev} : ordOk x y = true ↔ ordE x y := by
 unfold ordE
 simp only [ordOk, Bool.not_eq_true', Bool.or_eq_false_iff, Bool.and_eq_false_iff, decide_eq_false_iff_not, ltE_iff]
 omega
theorem pair_adj {R : Ev → Ev → Prop} (tr : ∀ x y z, R x y → R y z → R x z) : ∀ (l : List Ev), (∀ n, n + 1 < l.length → R (l.getD n zIIIIIII) (l.getD (n + 1) zIIIIIII)) → l.Pairwise R
 | [], _ => List.Pairwise.nil
 | [x], _ => List.pairwise_singleton _ _
 | x :: y :: l, h => by
  have ih := pair_adj tr (y :: l) (fun n hn => h (n + 1) (by simpa using hn))
  have hxy : R x y := h 0 (by simp)
  refine List.Pairwise.cons (fun z hz => ?_) ih
  rcases List.mem_cons.1 hz with rfl | hz
  ·exact hxy
  ·exact tr _ _ _ hxy ((List.pairwise_cons.1 ih).1 z hz)
theorem getD_eq {α : Type} {l : List α} {n : Nat} (h : n < l.length) (z : α) : l.getD n z = l[n] := by
 rw [List.getD_eq_getElem?_getD, List.getElem?_eq_getElem h]; rfl
theorem jok_iff {l : List Ev} : jok l = true ↔ l.length ≤ 60 ∧ (∀ x, x ∈ l → evOk x = true) ∧ l.Pairwise ordE := by
 constructor
 ·intro h
  refine ⟨jok_len h, fun x hx => ?_, pair_adj (R := ordE) (fun _ _ _ h1 h2 => ordE_tr h1 h2) l fun n hn => ?_⟩
  ·obtain ⟨n, hn, rfl⟩ := List.getElem_of_mem hx
   have := jok_ev h hn
   rwa [getD_eq hn] at this
  ·have := jok_at h hn
   simp only [jokAt, Bool.and_eq_true] at this
   exact ordOk_iff.1 this.2
 ·intro ⟨h1, h2, h3⟩
  unfold jok
  rw [decide_eq_false (by omega)]
  refine (allFrom_iff _ _).2 fun m _ hm => ?_
  rw [Nat.zero_add] at hm
  cases m with
  | zero => exact h2 _ (getD_mem hm _)
  | succ m =>
   simp only [jokAt, Bool.and_eq_true]
   refine ⟨h2 _ (getD_mem hm _), ordOk_iff.2 ?_⟩
   rw [getD_eq hm, getD_eq (show m < l.length by omega)]
   exact List.pairwise_iff_getElem.1 h3 m (m + 1) (by omega) hm (by omega)
theorem jok_all {l : List Ev} (h : jok l = true) : ∀ x, x ∈ l → evOk x = true := (jok_iff.1 h).2.1
noncomputable def aStep (node : Int) (s : Int × Int × Nat × Nat) (x : Ev) : Int × Int × Nat × Nat :=
 ((bif decide (x.1 = node) then x.2.1 + 1 else s.1), max s.2.1 (x.2.2.1 + 1), (bif decide (x.1 ≤ node) then s.2.2.2 + 1 else s.2.2.1), s.2.2.2 + 1)
noncomputable def aRun (l : List Ev) (node : Int) : Int × Int × Nat × Nat := l.foldl (aStep node) (1, 1, 0, 0)
noncomputable def newE (l : List Ev) (node kind parcel a b : Int) : Ev := (node, (aRun l node).1, (aRun l node).2.1, kind, parcel, a, b)
noncomputable def withE (l : List Ev) (node kind parcel a b : Int) : List Ev := l.take (aRun l node).2.2.1 ++ [newE l node kind parcel a b] ++ l.drop (aRun l node).2.2.1
noncomputable def addEv (l : List Ev) (node kind parcel a b : Int) : List Ev × Bool := bif jok l then bif jok (withE l node kind parcel a b) then (withE l node kind parcel a b, true) else (l, false) else (l, false)
structure AInv (node : Int) (p : List Ev) (s : Int × Int × Nat × Nat) : Prop where
 c : s.2.2.2 = p.length
 at_le : s.2.2.1 ≤ p.length
 s1 : ∀ x, x ∈ p → x.1 = node → x.2.1 < s.1
 s2 : s.1 = 1 ∨ ∃ x, x ∈ p ∧ x.1 = node ∧ s.1 = x.2.1 + 1
 p1 : ∀ x, x ∈ p → x.2.2.1 < s.2.1
 p2 : s.2.1 = 1 ∨ ∃ x, x ∈ p ∧ s.2.1 = x.2.2.1 + 1
 a1 : ∀ x, x ∈ p.take s.2.2.1 → x.1 ≤ node
 a2 : ∀ x, x ∈ p.drop s.2.2.1 → node < x.1
theorem aInv_step {node : Int} {p : List Ev} {s : Int × Int × Nat × Nat} {x : Ev} (h : AInv node p s) (hp : Srt (p ++ [x])) : AInv node (p ++ [x]) (aStep node s x) := by
 have hlt : ∀ y, y ∈ p → ltE y x = true := fun y hy => (List.pairwise_append.1 hp).2.2 y hy x (List.mem_singleton.2 rfl)
 obtain ⟨h1, h2, h3, h4, h5, h6, h7, h8⟩ := h
 unfold aStep
 refine ⟨by simp [h1], ?_, fun y hy hn => ?_, ?_, fun y hy => ?_, ?_, ?_, ?_⟩
 ·cases decide (x.1 ≤ node) <;> simp <;> omega
 ·simp only []
  rcases List.mem_append.1 hy with hy | hy
  ·by_cases hx : x.1 = node
   ·rw [decide_eq_true hx]
    have := hlt y hy
    rw [ltE_iff] at this
    simp only [cond_true]; omega
   ·rw [decide_eq_false hx]
    exact h3 y hy hn
  ·rw [List.mem_singleton] at hy
   subst hy
   rw [decide_eq_true hn]
   simp only [cond_true]; omega
 ·simp only []
  by_cases hx : x.1 = node
  ·rw [decide_eq_true hx]
   exact .inr ⟨x, by simp, hx, rfl⟩
  ·rw [decide_eq_false hx]
   rcases h4 with h4 | ⟨y, hy, h4⟩
   ·exact .inl h4
   ·exact .inr ⟨y, List.mem_append_left _ hy, h4⟩
 ·simp only []
  rcases List.mem_append.1 hy with hy | hy
  ·have := h5 y hy; omega
  ·rw [List.mem_singleton] at hy
   subst hy; omega
 ·simp only []
  by_cases hm : s.2.1 ≤ x.2.2.1 + 1
  ·exact .inr ⟨x, by simp, by omega⟩
  ·rcases h6 with h6 | ⟨y, hy, h6⟩
   ·exact .inl (by omega)
   ·exact .inr ⟨y, List.mem_append_left _ hy, by omega⟩
 ·simp only []
  by_cases hx : x.1 ≤ node
  ·rw [decide_eq_true hx]
   intro y hy
   rw [cond_true, h1, List.take_of_length_le (by simp)] at hy
   rcases List.mem_append.1 hy with hy | hy
   ·have := hlt y hy; rw [ltE_iff] at this; omega
   ·rw [List.mem_singleton] at hy; subst hy; exact hx
  ·rw [decide_eq_false hx]
   intro y hy
   rw [cond_false, List.take_append_of_le_length h2] at hy
   exact h7 y hy
 ·simp only []
  by_cases hx : x.1 ≤ node
  ·rw [decide_eq_true hx]
   intro y hy
   rw [cond_true, h1, List.drop_of_length_le (by simp)] at hy
   exact absurd hy List.not_mem_nil
  ·rw [decide_eq_false hx]
   intro y hy
   rw [cond_false, List.drop_append_of_le_length h2] at hy
   rcases List.mem_append.1 hy with hy | hy
   ·exact h8 y hy
   ·rw [List.mem_singleton] at hy; subst hy; omega
theorem aInv_run (node : Int) : ∀ (l p : List Ev) (s : Int × Int × Nat × Nat), Srt (p ++ l) → AInv node p s → AInv node (p ++ l) (l.foldl (aStep node) s)
 | [], p, s, _, h => by simpa using h
 | x :: l, p, s, hp, h => by
  have e : p ++ x :: l = (p ++ [x]) ++ l := by simp
  rw [e] at hp ⊢
  exact aInv_run node l (p ++ [x]) (aStep node s x) hp (aInv_step h (List.pairwise_append.1 hp).1)
theorem aRun_inv (node : Int) {l : List Ev} (h : Srt l) : AInv node l (aRun l node) := by
 have := aInv_run node l [] (1, 1, 0, 0) (by simpa using h) ⟨rfl, Nat.le_refl _, fun x hx => absurd hx List.not_mem_nil, .inl rfl, fun x hx => absurd hx List.not_mem_nil, .inl rfl, fun x hx => absurd (List.mem_of_mem_take hx) List.not_mem_nil, fun x hx => absurd (List.mem_of_mem_drop hx) List.not_mem_nil⟩
 exact this
theorem withE_mem {l : List Ev} {node kind parcel a b : Int} (z : Ev) : z ∈ withE l node kind parcel a b ↔ z = newE l node kind parcel a b ∨ z ∈ l := by
 unfold withE
 rw [List.mem_append, List.mem_append, List.mem_singleton]
 constructor
 ·rintro ((h | h) | h)
  ·exact .inr (List.mem_of_mem_take h)
  ·exact .inl h
  ·exact .inr (List.mem_of_mem_drop h)
 ·rintro (h | h)
  ·exact .inl (.inr h)
  ·rw [← List.take_append_drop (aRun l node).2.2.1 l, List.mem_append] at h
   rcases h with h | h
   ·exact .inl (.inl h)
   ·exact .inr h
theorem withE_len {l : List Ev} (h : Srt l) (node kind parcel a b : Int) : (withE l node kind parcel a b).length = l.length + 1 := by
 have := (aRun_inv node h).at_le
 unfold withE
 simp only [List.length_append, List.length_take, List.length_drop, List.length_singleton]
 omega
end Go.Fn
set_option linter.unusedSimpArgs false
set_option linter.unusedVariables false
namespace Go.Fn
open Go.R Go.Sort
structure JInv (n : Nat) (base : List Ev) (S : Int → Prop) (l : List Ev) : Prop where
 j : jok l = true
 len : l.length ≤ n
 st : ∀ x, x ∈ l → x.2.2.1 ≤ (n : Int)
 gap : ∀ x, x ∈ l → ∀ s : Int, 1 ≤ s → s ≤ x.2.1 → ∃ y, y ∈ l ∧ y.1 = x.1 ∧ y.2.1 = s
 sub : ∀ x, x ∈ base → x ∈ l
 new : ∀ x, x ∈ l → x ∈ base ∨ S x.1
theorem JInv.mono {n m : Nat} {base : List Ev} {S : Int → Prop} {l : List Ev} (h : JInv n base S l) (hm : n ≤ m) : JInv m base S l :=
 ⟨h.j, by have := h.len; omega, fun x hx => by have := h.st x hx; omega, h.gap, h.sub, h.new⟩
theorem JInv.add {n : Nat} {base : List Ev} {S : Int → Prop} {l : List Ev} (h : JInv n base S l) {node : Int} (hS : S node) (kind parcel a b : Int) : JInv (n + 1) base S (addEv l node kind parcel a b).1 := by
 unfold addEv
 rw [h.j]
 simp only [cond_true]
 cases hw : jok (withE l node kind parcel a b) with
 | false => exact h.mono (Nat.le_succ _)
 | true =>
  have hs := jok_srt h.j
  have hi := aRun_inv node hs
  simp only [cond_true]
  refine ⟨hw, by rw [withE_len hs]; have := h.len; omega, fun x hx => ?_, fun x hx s h1 h2 => ?_, fun x hx => (withE_mem x).2 (.inr (h.sub x hx)), fun x hx => ?_⟩
  ·rcases (withE_mem x).1 hx with e | e
   ·rw [e]
    show (aRun l node).2.1 ≤ _
    rcases hi.p2 with p | ⟨y, hy, p⟩
    ·rw [p]; omega
    ·rw [p]; have := h.st y hy; omega
   ·have := h.st x e; omega
  ·rcases (withE_mem x).1 hx with e | e
   ·subst e
    have h2 : s ≤ (aRun l node).1 := h2
    by_cases e : s = (aRun l node).1
    ·exact ⟨_, hx, rfl, e.symm⟩
    ·rcases hi.s2 with p | ⟨y, hy, q, p⟩
     ·omega
     ·obtain ⟨z, hz, e1, e2⟩ := h.gap y hy s h1 (by omega)
      exact ⟨z, (withE_mem z).2 (.inr hz), by rw [e1, q]; rfl, e2⟩
   ·obtain ⟨z, hz, e1, e2⟩ := h.gap x e s h1 h2
    exact ⟨z, (withE_mem z).2 (.inr hz), e1, e2⟩
  ·rcases (withE_mem x).1 hx with e | e
   ·rw [e]; exact .inr hS
   ·exact h.new x e
end Go.Fn
set_option linter.unusedSimpArgs false
set_option linter.unusedVariables false
namespace Go.Fn
open Go.R Go.Sort
theorem gI (d : Array Int) (i : Nat) : rGet zI d.toList (i : Int) = d[i]! := gA d i
noncomputable def ltK (u v : Ev) : Bool := decide (u.2.2.1 < v.2.2.1) || (decide (u.2.2.1 = v.2.2.1) && decide (u.1 < v.1))
theorem ltK_iff {u v : Ev} : ltK u v = true ↔ u.2.2.1 < v.2.2.1 ∨ (u.2.2.1 = v.2.2.1 ∧ u.1 < v.1) := by unfold ltK; simp
theorem ltK_no {u v : Ev} : ltK u v = false ↔ v.2.2.1 < u.2.2.1 ∨ (u.2.2.1 = v.2.2.1 ∧ v.1 ≤ u.1) := by
 rw [← Bool.not_eq_true, ltK_iff]; omega
noncomputable def ltO (l : List Ev) (x y : Int) : Bool := ltK (l.getD x.toNat zIIIIIII) (l.getD y.toNat zIIIIIII)
theorem ltO_swo (l : List Ev) : SWO (ltO l) := ⟨fun x => by unfold ltO; rw [ltK_no]; omega, fun x y z h1 h2 => by unfold ltO at *; rw [ltK_iff] at *; omega, fun x y z h1 h2 => by unfold ltO at *; rw [ltK_no] at *; omega⟩
noncomputable def cmpO (l : List Ev) (x y : Int) : Int := bif ltO l x y then -1 else bif ltO l y x then 1 else 0
theorem cmpO_neg (l : List Ev) (x y : Int) : rCmp .lss (cmpO l x y) (0 : Int) = ltO l x y := by
 unfold cmpO
 cases ltO l x y <;> cases ltO l y x <;> rfl
theorem sgn_or (a b c d : Int) : (bif decide (sgn a b = 0) then sgn c d else sgn a b) = (bif decide (a < b) || (decide (a = b) && decide (c < d)) then -1 else bif decide (b < a) || (decide (b = a) && decide (d < c)) then 1 else 0) := by
 unfold sgn
 by_cases h1 : a < b
 ·simp [h1]
 ·by_cases h2 : b < a
  ·have h3 : ¬ (a = b) := by omega
   have h4 : ¬ (b = a) := by omega
   simp [h1, h2, h3, h4]
  ·have h3 : a = b := by omega
   subst h3
   by_cases h4 : c < d
   ·simp [h4]
   ·by_cases h5 : d < c
    ·simp [h4, h5]
    ·simp [h4, h5]
theorem cmpO_eq (l : List Ev) (x y : Int) (hx : 0 ≤ x ∧ x < l.length) (hy : 0 ≤ y ∧ y < l.length) : impl_OrderOf_1 x y l = some (cmpO l x y, ()) := by
 obtain ⟨n, rfl⟩ : ∃ n : Nat, x = (n : Int) := ⟨x.toNat, by omega⟩
 obtain ⟨m, rfl⟩ : ∃ n : Nat, y = (n : Int) := ⟨y.toNat, by omega⟩
 unfold impl_OrderOf_1 cmpO ltO
 simp only [inR_nat, get_nat, show n < l.length by omega, show m < l.length by omega, decide_true, cond_true, compare_eq, Option.bind_some, Int.toNat_natCast]
 generalize l.getD n zIIIIIII = u
 generalize l.getD m zIIIIIII = v
 rw [show (List.append (α := Int) (List.append (α := Int) ([] : List Int) [sgn u.2.2.1 v.2.2.1]) [sgn u.1 v.1]) = [sgn u.2.2.1 v.2.2.1, sgn u.1 v.1] from rfl, or_eq, sgn_or]
 rfl
abbrev Oks (l : List Ev) (d : Array Int) : Prop := ∀ k, k < d.size → 0 ≤ d[k]! ∧ d[k]! < l.length
theorem Oks.perm {l : List Ev} {d d' : Array Int} {a b : Nat} (h : Oks l d) (hb : b ≤ d.size) (hp : PermIn a b d d') : Oks l d' := by
 have h0 := permIn_mono d d' a b 0 d.size (Nat.zero_le _) hb (Nat.le_refl _) hp
 have := permIn_all d d' 0 d.size (fun x => 0 ≤ x ∧ x < l.length) (Nat.le_refl _) h0 (fun i _ hi => h i hi)
 exact fun k hk => this k (Nat.zero_le _) (by rw [← hp.1]; exact hk)
theorem cmpA {l : List Ev} {d : Array Int} (h : Oks l d) {i j : Nat} (hi : i < d.size) (hj : j < d.size) : impl_OrderOf_1 d[i]! d[j]! l = some (cmpO l d[i]! d[j]!, ()) := cmpO_eq l _ _ (h i hi) (h j hj)
theorem halfS {n : Nat} (h : n < 1099511627776) : rConv .i64 (rShift .shr .u64 (rConv .u64 (n : Int)) (1 : Int)) = ((n / 2 : Nat) : Int) := by
 rw [convU h]
 have e : rShift .shr .u64 (n : Int) (1 : Int) = ((n / 2 : Nat) : Int) := by
  show (n : Int).fdiv (2 ^ 1) = _
  rw [Int.fdiv_eq_ediv_of_nonneg _ (by decide)]; omega
 rw [e, convI (by omega)]
theorem o_ins_in (l : List Ev) (a b i : Nat) : ∀ (j : Nat) (d : Array Int) (n : Nat), Oks l d → j < d.size → d.size ≤ 255 → j < n → iter (slices_insertionSortCmpFunc_int___impl_OrderOf_1_b2 ((a : Int), (b : Int), l, (i : Int), ())) n (d.toList, (j : Int), ()) = some (.inl ((insInner (ltO l) a j d).toList, ())) := by
 intro j
 induction j with
 | zero =>
  intro d n ho hj hd hn
  obtain ⟨n, rfl⟩ : ∃ m, n = m + 1 := ⟨n - 1, by omega⟩
  refine iter_done ?_
  unfold slices_insertionSortCmpFunc_int___impl_OrderOf_1_b2 insInner
  simp only [gtS, show ¬ (0 > a) by omega, decide_false, cond_false]
 | succ j ih =>
  intro d n ho hj hd hn
  obtain ⟨n, rfl⟩ : ∃ m, n = m + 1 := ⟨n - 1, by omega⟩
  have e1 : rArith .sub .i64 ((j + 1 : Nat) : Int) (1 : Int) = (j : Int) := pred64 (by omega)
  have hc := cmpA ho hj (show j < d.size by omega)
  unfold insInner
  by_cases h : j + 1 > a
  ·cases hl : ltO l d[j + 1]! d[j]! with
   | true =>
    simp only [h, decide_true, Bool.true_and, if_true]
    rw [← ih (swp d (j + 1) j) n (ho.perm (Nat.le_refl _) (swp_permIn d 0 d.size (j + 1) j (by omega) hj (by omega) (by omega) (Nat.le_refl _))) (by rw [size_swp]; omega) (by rw [size_swp]; omega) (by omega)]
    refine iter_next ?_
    unfold slices_insertionSortCmpFunc_int___impl_OrderOf_1_b2
    simp only [gtS, h, decide_true, cond_true, e1, inA, gI, inP, hj, show j < d.size by omega, hc, Option.bind_some, cmpO_neg, hl, swA]
   | false =>
    simp only [Bool.and_false, Bool.false_eq_true, if_false]
    refine iter_done ?_
    unfold slices_insertionSortCmpFunc_int___impl_OrderOf_1_b2
    simp only [gtS, h, decide_true, cond_true, e1, inA, gI, hj, show j < d.size by omega, hc, Option.bind_some, cmpO_neg, hl, cond_false]
  ·simp only [h, decide_false, Bool.false_and, Bool.false_eq_true, if_false]
   refine iter_done ?_
   unfold slices_insertionSortCmpFunc_int___impl_OrderOf_1_b2
   simp only [gtS, h, decide_false, cond_false]
theorem perm_insInner {lt : Int → Int → Bool} (a b : Nat) : ∀ j (d : Array Int), j < d.size → PermIn 0 d.size d (insInner lt a j d)
 | 0, d, _ => permIn_refl _ _ _
 | j + 1, d, hj => by
  unfold insInner
  split
  ·have h1 := perm_insInner (lt := lt) a b j (swp d (j + 1) j) (by rw [size_swp]; omega)
   rw [size_swp] at h1
   exact permIn_trans _ _ _ 0 d.size (swp_permIn d 0 d.size (j + 1) j (by omega) hj (by omega) (by omega) (Nat.le_refl _)) h1
  ·exact permIn_refl _ _ _
theorem o_ins_out (l : List Ev) (a b : Nat) (hb : b ≤ 255) : ∀ (k i : Nat) (d : Array Int) (n : Nat), Oks l d → b - i ≤ k → b ≤ d.size → d.size ≤ 255 → i ≤ 256 → k < n → iter (slices_insertionSortCmpFunc_int___impl_OrderOf_1_b0 ((a : Int), (b : Int), l, ())) n (d.toList, (i : Int), ()) = some (.inl ((insOuter (ltO l) a b i d).toList, ())) := by
 intro k
 induction k with
 | zero =>
  intro i d n ho hk hbd hd hi hn
  obtain ⟨n, rfl⟩ : ∃ m, n = m + 1 := ⟨n - 1, by omega⟩
  refine iter_done ?_
  unfold slices_insertionSortCmpFunc_int___impl_OrderOf_1_b0 insOuter
  simp only [ltS, show ¬ (i < b) by omega, decide_false, cond_false, if_false]
 | succ k ih =>
  intro i d n ho hk hbd hd hi hn
  obtain ⟨n, rfl⟩ : ∃ m, n = m + 1 := ⟨n - 1, by omega⟩
  unfold insOuter
  by_cases h : i < b
  ·simp only [h, if_true]
   rw [← ih (i + 1) (insInner (ltO l) a i d) n (ho.perm (Nat.le_refl _) (perm_insInner a b i d (by omega))) (by omega) (by rw [size_insInner]; omega) (by rw [size_insInner]; omega) (by omega) (by omega)]
   refine iter_next ?_
   unfold slices_insertionSortCmpFunc_int___impl_OrderOf_1_b0 slices_insertionSortCmpFunc_int___impl_OrderOf_1_l2
   simp only [ltS, h, decide_true, cond_true, o_ins_in l a b i i d big ho (by omega) hd (lt_big (by omega)), Option.bind_some, Sum.elim_inl, succ64 (n := i) (by omega)]
  ·simp only [h, if_false]
   refine iter_done ?_
   unfold slices_insertionSortCmpFunc_int___impl_OrderOf_1_b0
   simp only [ltS, h, decide_false, cond_false]
theorem o_ins (l : List Ev) (d : Array Int) (a b : Nat) (ho : Oks l d) (hab : a ≤ b) (hb : b ≤ d.size) (hd : d.size ≤ 255) : ∃ d', slices_insertionSortCmpFunc_int___impl_OrderOf_1 d.toList (a : Int) (b : Int) l = some (d'.toList, ()) ∧ PermIn a b d d' ∧ SortedIn (ltO l) a b d' := by
 refine ⟨insertionSort (ltO l) d a b, ?_, insertionSort_holds (ltO_swo l) d a b hab hb⟩
 unfold slices_insertionSortCmpFunc_int___impl_OrderOf_1 slices_insertionSortCmpFunc_int___impl_OrderOf_1_l0 insertionSort
 simp only [succ64 (n := a) (by omega), o_ins_out l a b (by omega) 256 (a + 1) d big ho (by omega) hb hd (by omega) (lt_big (by omega)), Option.bind_some, Sum.elim_inl]
theorem swapR (a b n : Nat) (hab : a + n ≤ b) : ∀ (r i : Nat) (d : Array Int) (f : Nat), i + r = n → b + n ≤ d.size → d.size ≤ 255 → r < f →
  ∃ d', iter (slices_swapRangeCmpFunc_int___impl_OrderOf_1_b0 ((a : Int), (b : Int), (n : Int), ())) f (d.toList, (i : Int), ()) = some (.inl (d'.toList, ())) ∧ PermIn a (b + n) d d' ∧
   (∀ k, i ≤ k → k < n → d'[a + k]! = d[b + k]! ∧ d'[b + k]! = d[a + k]!) ∧ (∀ t, (∀ k, i ≤ k → k < n → t ≠ a + k ∧ t ≠ b + k) → d'[t]! = d[t]!) := by
 intro r
 induction r with
 | zero =>
  intro i d f hi hb hd hf
  obtain ⟨f, rfl⟩ : ∃ m, f = m + 1 := ⟨f - 1, by omega⟩
  refine ⟨d, iter_done ?_, permIn_refl _ _ _, fun k h1 h2 => by omega, fun t _ => rfl⟩
  unfold slices_swapRangeCmpFunc_int___impl_OrderOf_1_b0
  simp only [ltS, show ¬ (i < n) by omega, decide_false, cond_false]
 | succ r ih =>
  intro i d f hi hb hd hf
  obtain ⟨f, rfl⟩ : ∃ m, f = m + 1 := ⟨f - 1, by omega⟩
  obtain ⟨d', h1, h2, h3, h4⟩ := ih (i + 1) (swp d (a + i) (b + i)) f (by omega) (by rw [size_swp]; omega) (by rw [size_swp]; omega) (by omega)
  refine ⟨d', ?_, permIn_trans _ _ _ a (b + n) (swp_permIn d a (b + n) (a + i) (b + i) (by omega) (by omega) (by omega) (by omega) hb) h2, fun k k1 k2 => ?_, fun t ht => ?_⟩
  ·rw [← h1]
   refine iter_next ?_
   unfold slices_swapRangeCmpFunc_int___impl_OrderOf_1_b0
   have e1 : rArith .add .i64 (b : Int) (i : Int) = ((b + i : Nat) : Int) := aS (by omega)
   have e2 : rArith .add .i64 (a : Int) (i : Int) = ((a + i : Nat) : Int) := aS (by omega)
   simp only [ltS, show i < n by omega, decide_true, cond_true, e1, e2, inA, gI, inP, show a + i < d.size by omega, show b + i < d.size by omega, swA, lets_def, succ64 (n := i) (by omega)]
  ·by_cases e : k = i
   ·subst e
    have x1 := h4 (a + k) (fun j _ _ => by omega)
    have x2 := h4 (b + k) (fun j _ _ => by omega)
    rw [x1, x2, swp_left d _ _ (by omega) (by omega), swp_right d _ _ (by omega)]
    exact ⟨rfl, rfl⟩
   ·obtain ⟨x1, x2⟩ := h3 k (by omega) k2
    rw [x1, x2, swp_other d _ _ _ (by omega) (by omega), swp_other d _ _ _ (by omega) (by omega)]
    exact ⟨rfl, rfl⟩
  ·rw [h4 t (fun k k1 k2 => ht k (by omega) k2)]
   have := ht i (Nat.le_refl _) (by omega)
   exact swp_other d _ _ _ this.1 this.2
theorem o_swapR (l : List Ev) (d : Array Int) (a b n : Nat) (hab : a + n ≤ b) (hb : b + n ≤ d.size) (hd : d.size ≤ 255) : ∃ d', slices_swapRangeCmpFunc_int___impl_OrderOf_1 d.toList (a : Int) (b : Int) (n : Int) l = some (d'.toList, ()) ∧ PermIn a (b + n) d d' ∧
   (∀ k, k < n → d'[a + k]! = d[b + k]! ∧ d'[b + k]! = d[a + k]!) ∧ (∀ t, (∀ k, k < n → t ≠ a + k ∧ t ≠ b + k) → d'[t]! = d[t]!) := by
 obtain ⟨d', h1, h2, h3, h4⟩ := swapR a b n hab n 0 d big (by omega) hb hd (lt_big (by omega))
 refine ⟨d', ?_, h2, fun k hk => h3 k (Nat.zero_le _) hk, fun t ht => h4 t fun k _ hk => ht k hk⟩
 unfold slices_swapRangeCmpFunc_int___impl_OrderOf_1 slices_swapRangeCmpFunc_int___impl_OrderOf_1_l0
 rw [show (0 : Int) = ((0 : Nat) : Int) from rfl, h1]
 rfl
structure Rot (m i j : Nat) (cur T : Array Int) : Prop where
 perm : PermIn (m - i) (m + j) cur T
 lo : ∀ k, k < j → T[m - i + k]! = cur[m + k]!
 hi : ∀ k, k < i → T[m - i + j + k]! = cur[m - i + k]!
theorem rot_loop (l : List Ev) (m : Nat) : ∀ (s i j : Nat) (d : Array Int) (f : Nat), i + j ≤ s → 0 < i → 0 < j → i ≤ m → m + j ≤ d.size → d.size ≤ 255 → s < f →
  ∃ (d1 : Array Int) (i1 : Nat) (T : Array Int), iter (slices_rotateCmpFunc_int___impl_OrderOf_1_b0 ((m : Int), l, ())) f (d.toList, (i : Int), (j : Int), ()) = some (.inl (d1.toList, ((i1 : Nat) : Int), ())) ∧ d1.size = d.size ∧ slices_swapRangeCmpFunc_int___impl_OrderOf_1 d1.toList (rArith .sub .i64 (m : Int) ((i1 : Nat) : Int)) (m : Int) ((i1 : Nat) : Int) l = some (T.toList, ()) ∧ Rot m i j d T := by
 intro s
 induction s with
 | zero => intro i j d f hs h0; omega
 | succ s ih =>
  intro i j d f hs hi0 hj0 him hm hd hf
  obtain ⟨f, rfl⟩ : ∃ m, f = m + 1 := ⟨f - 1, by omega⟩
  have e1 : rArith .sub .i64 (m : Int) (i : Int) = ((m - i : Nat) : Int) := sS him (by omega)
  have ne : rCmp .neq (i : Int) (j : Int) = !decide (i = j) := by rw [← eqS i j]; rfl
  by_cases hij : i = j
  ·subst hij
   obtain ⟨T, h1, h2, h3, h4⟩ := o_swapR l d (m - i) m i (by omega) hm hd
   refine ⟨d, i, T, iter_done ?_, rfl, by rw [e1]; exact h1, ⟨h2, fun k hk => (h3 k hk).1, fun k hk => ?_⟩⟩
   ·unfold slices_rotateCmpFunc_int___impl_OrderOf_1_b0
    simp only [ne, decide_true, Bool.not_true, cond_false]
   ·rw [show m - i + i + k = m + k by omega]; exact (h3 k hk).2
  ·by_cases hgt : i > j
   ·obtain ⟨d2, h1, h2, h3, h4⟩ := o_swapR l d (m - i) m j (by omega) hm hd
    have hs2 := h2.1
    obtain ⟨d1, i1, T, k1, k2, k3, k4⟩ := ih (i - j) j d2 f (by omega) (by omega) hj0 (by omega) (by omega) (by omega) (by omega)
    refine ⟨d1, i1, T, ?_, by omega, k3, ⟨?_, fun k hk => ?_, fun k hk => ?_⟩⟩
    ·rw [← k1]
     refine iter_next ?_
     unfold slices_rotateCmpFunc_int___impl_OrderOf_1_b0
     have e2 : rArith .sub .i64 (i : Int) (j : Int) = ((i - j : Nat) : Int) := sS (by omega) (by omega)
     simp only [ne, decide_eq_false hij, Bool.not_false, cond_true, gtS, hgt, decide_true, e1, h1, Option.bind_some, e2]
    ·exact permIn_trans _ _ _ _ _ h2 (permIn_mono d2 T (m - (i - j)) (m + j) (m - i) (m + j) (by omega) (Nat.le_refl _) (by omega) k4.perm)
    ·rw [k4.perm.2.1 (m - i + k) (.inl (by omega)), (h3 k hk).1]
    ·by_cases hk2 : k < j
     ·have := k4.lo k hk2
      rw [show m - (i - j) + k = m - i + j + k by omega] at this
      rw [this, (h3 k hk2).2]
     ·have := k4.hi (k - j) (by omega)
      rw [show m - (i - j) + j + (k - j) = m - i + j + k by omega, show m - (i - j) + (k - j) = m - i + k by omega] at this
      rw [this]
      exact h4 _ fun q hq => by omega
   ·obtain ⟨d2, h1, h2, h3, h4⟩ := o_swapR l d (m - i) (m + j - i) i (by omega) (by omega) hd
    have hs2 := h2.1
    rw [show m + j - i + i = m + j by omega] at h2
    obtain ⟨d1, i1, T, k1, k2, k3, k4⟩ := ih i (j - i) d2 f (by omega) hi0 (by omega) him (by omega) (by omega) (by omega)
    refine ⟨d1, i1, T, ?_, by omega, k3, ⟨?_, fun k hk => ?_, fun k hk => ?_⟩⟩
    ·rw [← k1]
     refine iter_next ?_
     unfold slices_rotateCmpFunc_int___impl_OrderOf_1_b0
     have e2 : rArith .sub .i64 (j : Int) (i : Int) = ((j - i : Nat) : Int) := sS (by omega) (by omega)
     have e3 : rArith .add .i64 (m : Int) (j : Int) = ((m + j : Nat) : Int) := aS (by omega)
     have e4 : rArith .sub .i64 ((m + j : Nat) : Int) (i : Int) = ((m + j - i : Nat) : Int) := sS (by omega) (by omega)
     simp only [ne, decide_eq_false hij, Bool.not_false, cond_true, gtS, hgt, decide_false, cond_false, e1, e3, e4, h1, Option.bind_some, e2]
    ·exact permIn_trans _ _ _ _ _ h2 (permIn_mono d2 T (m - i) (m + (j - i)) (m - i) (m + j) (Nat.le_refl _) (by omega) (by omega) k4.perm)
    ·by_cases hk2 : k < j - i
     ·rw [k4.lo k hk2]
      exact h4 _ fun q hq => by omega
     ·have := k4.hi (k - (j - i)) (by omega)
      rw [show m - i + (j - i) + (k - (j - i)) = m - i + k by omega] at this
      rw [this, (h3 (k - (j - i)) (by omega)).1]
      congr 1; omega
    ·rw [k4.perm.2.1 (m - i + j + k) (.inr (by omega))]
     have := (h3 k hk).2
     rw [show m + j - i + k = m - i + j + k by omega] at this
     exact this
theorem o_rotate (l : List Ev) (d : Array Int) (s m e : Nat) (h1 : s < m) (h2 : m < e) (he : e ≤ d.size) (hd : d.size ≤ 255) : ∃ T, slices_rotateCmpFunc_int___impl_OrderOf_1 d.toList (s : Int) (m : Int) (e : Int) l = some (T.toList, ()) ∧ Rot m (m - s) (e - m) d T := by
 obtain ⟨d1, i1, T, k1, k2, k3, k4⟩ := rot_loop l m 256 (m - s) (e - m) d big (by omega) (by omega) (by omega) (by omega) (by omega) hd (lt_big (by omega))
 refine ⟨T, ?_, k4⟩
 unfold slices_rotateCmpFunc_int___impl_OrderOf_1 slices_rotateCmpFunc_int___impl_OrderOf_1_l0
 have e1 : rArith .sub .i64 (m : Int) (s : Int) = ((m - s : Nat) : Int) := sS (by omega) (by omega)
 have e2 : rArith .sub .i64 (e : Int) (m : Int) = ((e - m : Nat) : Int) := sS (by omega) (by omega)
 rw [e1, e2, k1]
 simp only [Option.bind_some, Sum.elim_inl, k3]
theorem bsearch {X Y : Type} {body : X → Option (X ⊕ Y)} (st : Nat → Nat → X) (fin : Nat → Y) (P : Nat → Bool) (lo hi : Nat) (hs : ∀ i j, lo ≤ i → i < j → j ≤ hi → body (st i j) = some (.inl (bif P ((i + j) / 2) then st ((i + j) / 2 + 1) j else st i ((i + j) / 2)))) (he : ∀ i, body (st i i) = some (.inr (fin i))) :
  ∀ (k i j n : Nat), j - i ≤ k → k < n → lo ≤ i → i ≤ j → j ≤ hi → (i = lo ∨ P (i - 1) = true) → (j = hi ∨ P j = false) → ∃ r, iter body n (st i j) = some (fin r) ∧ lo ≤ r ∧ r ≤ hi ∧ (r = lo ∨ P (r - 1) = true) ∧ (r = hi ∨ P r = false) := by
 intro k
 induction k with
 | zero =>
  intro i j n hk hn h1 h2 h3 h4 h5
  obtain ⟨n, rfl⟩ : ∃ m, n = m + 1 := ⟨n - 1, by omega⟩
  obtain rfl : i = j := by omega
  exact ⟨i, iter_done (he i), h1, h3, h4, h5⟩
 | succ k ih =>
  intro i j n hk hn h1 h2 h3 h4 h5
  obtain ⟨n, rfl⟩ : ∃ m, n = m + 1 := ⟨n - 1, by omega⟩
  by_cases h : i = j
  ·subst h; exact ⟨i, iter_done (he i), h1, h3, h4, h5⟩
  ·have hb := hs i j h1 (by omega) h3
   cases hp : P ((i + j) / 2) with
   | true =>
    rw [hp] at hb
    rw [iter_next hb]
    exact ih ((i + j) / 2 + 1) j n (by omega) (by omega) (by omega) (by omega) h3 (.inr (by simpa using hp)) h5
   | false =>
    rw [hp] at hb
    rw [iter_next hb]
    exact ih i ((i + j) / 2) n (by omega) (by omega) h1 (by omega) (by omega) h4 (.inr hp)
theorem le_sorted {lt : Int → Int → Bool} (h : SWO lt) {d : Array Int} {a b u v : Nat} (hs : SortedIn lt a b d) (h1 : a ≤ u) (h2 : u ≤ v) (h3 : v < b) : lt d[v]! d[u]! = false := by
 by_cases e : u = v
 ·subst e; exact h.irrefl _
 ·exact hs u v h1 (by omega) h3
end Go.Fn
set_option linter.unusedSimpArgs false
set_option linter.unusedVariables false
namespace Go.Fn
open Go.R Go.Sort
theorem bub_up (rec : List Int → Int → Int → Int → List Ev → Option (List Int × Unit)) (i : Nat) (hi : 0 < i) : ∀ (r k : Nat) (d : Array Int) (f : Nat), i - 1 - k = r → i ≤ d.size → d.size ≤ 255 → k < i → r < f →
  ∃ d', iter (slices_symMergeCmpFunc_int___impl_OrderOf_1_b2 rec ((i : Int), ())) f (d.toList, (k : Int), ()) = some (.inl (d'.toList, ())) ∧ PermIn k i d d' ∧ (∀ t, k ≤ t → t < i - 1 → d'[t]! = d[t + 1]!) ∧ d'[i - 1]! = d[k]! := by
 have e1 : rArith .sub .i64 (i : Int) 1 = ((i - 1 : Nat) : Int) ∨ 255 < i := by
  by_cases h : 255 < i
  ·exact .inr h
  ·exact .inl (sS (m := 1) (by omega) (by omega))
 intro r
 induction r with
 | zero =>
  intro k d f hk hs hd hki hf
  have e1 := e1.resolve_right (by omega)
  obtain ⟨f, rfl⟩ : ∃ m, f = m + 1 := ⟨f - 1, by omega⟩
  refine ⟨d, iter_done ?_, permIn_refl _ _ _, fun t h1 h2 => by omega, by rw [show i - 1 = k by omega]⟩
  unfold slices_symMergeCmpFunc_int___impl_OrderOf_1_b2
  simp only [e1, ltS, show ¬ (k < i - 1) by omega, decide_false, cond_false]
 | succ r ih =>
  intro k d f hk hs hd hki hf
  have e1 := e1.resolve_right (by omega)
  obtain ⟨f, rfl⟩ : ∃ m, f = m + 1 := ⟨f - 1, by omega⟩
  obtain ⟨d', h1, h2, h3, h4⟩ := ih (k + 1) (swp d k (k + 1)) f (by omega) (by rw [size_swp]; omega) (by rw [size_swp]; omega) (by omega) (by omega)
  refine ⟨d', ?_, permIn_trans _ _ _ k i (swp_permIn d k i k (k + 1) (by omega) (by omega) (by omega) (by omega) hs) (permIn_mono _ _ (k + 1) i k i (by omega) (Nat.le_refl _) (by rw [size_swp]; omega) h2), fun t t1 t2 => ?_, ?_⟩
  ·rw [← h1]
   refine iter_next ?_
   unfold slices_symMergeCmpFunc_int___impl_OrderOf_1_b2
   simp only [e1, ltS, show k < i - 1 by omega, decide_true, cond_true, succ64 (n := k) (by omega), inA, gI, inP, show k + 1 < d.size by omega, show k < d.size by omega, swA]
  ·by_cases e : t = k
   ·subst e
    rw [h2.2.1 t (.inl (by omega)), swp_left d _ _ (by omega) (by omega)]
   ·rw [h3 t (by omega) t2, swp_other d _ _ _ (by omega) (by omega)]
  ·rw [h4, swp_right d _ _ (by omega)]
theorem bub_down (rec : List Int → Int → Int → Int → List Ev → Option (List Int × Unit)) (i : Nat) : ∀ (r k : Nat) (d : Array Int) (f : Nat), k - i = r → i ≤ k → k < d.size → d.size ≤ 255 → r < f →
  ∃ d', iter (slices_symMergeCmpFunc_int___impl_OrderOf_1_b6 rec ((i : Int), ())) f (d.toList, (k : Int), ()) = some (.inl (d'.toList, ())) ∧ PermIn i (k + 1) d d' ∧ (∀ t, i ≤ t → t < k → d'[t + 1]! = d[t]!) ∧ d'[i]! = d[k]! := by
 intro r
 induction r with
 | zero =>
  intro k d f hk hik hs hd hf
  obtain ⟨f, rfl⟩ : ∃ m, f = m + 1 := ⟨f - 1, by omega⟩
  refine ⟨d, iter_done ?_, permIn_refl _ _ _, fun t h1 h2 => by omega, by rw [show i = k by omega]⟩
  unfold slices_symMergeCmpFunc_int___impl_OrderOf_1_b6
  simp only [gtS, show ¬ (k > i) by omega, decide_false, cond_false]
 | succ r ih =>
  intro k d f hk hik hs hd hf
  obtain ⟨f, rfl⟩ : ∃ m, f = m + 1 := ⟨f - 1, by omega⟩
  have e1 : rArith .sub .i64 (k : Int) 1 = ((k - 1 : Nat) : Int) := sS (m := 1) (by omega) (by omega)
  obtain ⟨d', h1, h2, h3, h4⟩ := ih (k - 1) (swp d k (k - 1)) f (by omega) (by omega) (by rw [size_swp]; omega) (by rw [size_swp]; omega) (by omega)
  rw [show k - 1 + 1 = k by omega] at h2
  refine ⟨d', ?_, permIn_trans _ _ _ i (k + 1) (swp_permIn d i (k + 1) k (k - 1) (by omega) (by omega) (by omega) (by omega) (by omega)) (permIn_mono _ _ i k i (k + 1) (Nat.le_refl _) (by omega) (by rw [size_swp]; omega) h2), fun t t1 t2 => ?_, ?_⟩
  ·rw [← h1]
   refine iter_next ?_
   unfold slices_symMergeCmpFunc_int___impl_OrderOf_1_b6
   simp only [gtS, show k > i by omega, decide_true, cond_true, e1, inA, gI, inP, show k < d.size by omega, show k - 1 < d.size by omega, swA]
  ·by_cases e : t + 1 = k
   ·rw [e, h2.2.1 k (.inr (by omega)), swp_left d _ _ (by omega) (by omega), show k - 1 = t by omega]
   ·rw [h3 t t1 (by omega), swp_other d _ _ _ (by omega) (by omega)]
  ·rw [h4, swp_right d _ _ (by omega)]
noncomputable def MergeOk (l : List Ev) (rec : List Int → Int → Int → Int → List Ev → Option (List Int × Unit)) (M : Nat) : Prop :=
 ∀ (d : Array Int) (a m b : Nat), b - a < M → a < m → m < b → b ≤ d.size → d.size ≤ 255 → Oks l d → SortedIn (ltO l) a m d → SortedIn (ltO l) m b d → ∃ d', rec d.toList (a : Int) (m : Int) (b : Int) l = some (d'.toList, ()) ∧ PermIn a b d d' ∧ SortedIn (ltO l) a b d'
theorem merge_left (l : List Ev) (rec : List Int → Int → Int → Int → List Ev → Option (List Int × Unit)) (d : Array Int) (a b : Nat) (h1 : a + 1 < b) (hb : b ≤ d.size) (hd : d.size ≤ 255) (ho : Oks l d) (hs : SortedIn (ltO l) (a + 1) b d) :
  ∃ d', slices_symMergeCmpFunc_int___impl_OrderOf_1_r rec d.toList (a : Int) ((a + 1 : Nat) : Int) (b : Int) l = some (d'.toList, ()) ∧ PermIn a b d d' ∧ SortedIn (ltO l) a b d' := by
 have hw := ltO_swo l
 have e0 : rArith .sub .i64 ((a + 1 : Nat) : Int) (a : Int) = ((1 : Nat) : Int) := by rw [sS (by omega) (by omega)]; congr 1; omega
 obtain ⟨i, hi, i1, i2, i3, i4⟩ := bsearch (body := slices_symMergeCmpFunc_int___impl_OrderOf_1_b0 rec ((a : Int), l, ())) (fun i j => (d.toList, (i : Int), (j : Int), ())) (fun i => (.inl (d.toList, (i : Int), ()) : List Int × Int × Unit ⊕ Empty)) (fun c => ltO l d[c]! d[a]!) (a + 1) b (fun i j h1 h2 h3 => by
  unfold slices_symMergeCmpFunc_int___impl_OrderOf_1_b0
  have e1 : rArith .add .i64 (i : Int) (j : Int) = ((i + j : Nat) : Int) := aS (by omega)
  have z : rIsNeg (1 : Int) = false := rfl
  have hc := cmpA ho (i := (i + j) / 2) (j := a) (by omega) (by omega)
  simp only [ltS, h2, decide_true, cond_true, z, cond_false, e1, halfS (n := i + j) (by omega), inA, gI, show (i + j) / 2 < d.size by omega, show a < d.size by omega, hc, Option.bind_some, cmpO_neg, succ64 (n := (i + j) / 2) (by omega)]
  cases ltO l d[(i + j) / 2]! d[a]! <;> rfl) (fun i => by
  unfold slices_symMergeCmpFunc_int___impl_OrderOf_1_b0
  simp only [ltS, Nat.lt_irrefl, decide_false, cond_false]) 256 (a + 1) b big (by omega) (lt_big (by omega)) (Nat.le_refl _) (by omega) (Nat.le_refl _) (.inl rfl) (.inl rfl)
 obtain ⟨d', h3, h4, h5, h6⟩ := bub_up rec i (by omega) (i - 1 - a) a d big rfl (by omega) hd (by omega) (lt_big (by omega))
 refine ⟨d', ?_, permIn_mono _ _ a i a b (Nat.le_refl _) i2 hb h4, ?_⟩
 ·unfold slices_symMergeCmpFunc_int___impl_OrderOf_1_r slices_symMergeCmpFunc_int___impl_OrderOf_1_l0 slices_symMergeCmpFunc_int___impl_OrderOf_1_l2
  simp only [e0, show rCmp .eql ((1 : Nat) : Int) (1 : Int) = true from rfl, cond_true, hi, Option.bind_some, Sum.elim_inl, h3]
 ·have hi0 : ∀ u, i ≤ u → d'[u]! = d[u]! := fun u hu => h4.2.1 u (.inr hu)
  intro u v h7 h8 h9
  have atI : ∀ u, u < i - 1 → a ≤ u → ltO l d[a]! d[u + 1]! = false := fun u hu hau => by
   have hP : ltO l d[i - 1]! d[a]! = true := i3.resolve_left (by omega)
   exact hw.ntrans _ _ _ (hw.asymm hP) (le_sorted hw hs (by omega) (by omega) (by omega))
  by_cases u1 : u < i - 1
  ·rw [h5 u h7 u1]
   by_cases v1 : v < i - 1
   ·rw [h5 v (by omega) v1]; exact le_sorted hw hs (by omega) (by omega) (by omega)
   ·by_cases v2 : v = i - 1
    ·rw [v2, h6]; exact atI u u1 h7
    ·rw [hi0 v (by omega)]; exact le_sorted hw hs (by omega) (by omega) h9
  ·by_cases u2 : u = i - 1
   ·rw [u2, h6, hi0 v (by omega)]
    have hN : ltO l d[i]! d[a]! = false := i4.resolve_left (by omega)
    exact hw.ntrans _ _ _ (le_sorted hw hs (by omega) (by omega) h9) hN
   ·rw [hi0 u (by omega), hi0 v (by omega)]; exact le_sorted hw hs (by omega) (by omega) h9
theorem merge_right (l : List Ev) (rec : List Int → Int → Int → Int → List Ev → Option (List Int × Unit)) (d : Array Int) (a m : Nat) (h1 : a < m) (hne : m - a ≠ 1) (hb : m + 1 ≤ d.size) (hd : d.size ≤ 255) (ho : Oks l d) (hs : SortedIn (ltO l) a m d) :
  ∃ d', slices_symMergeCmpFunc_int___impl_OrderOf_1_r rec d.toList (a : Int) (m : Int) ((m + 1 : Nat) : Int) l = some (d'.toList, ()) ∧ PermIn a (m + 1) d d' ∧ SortedIn (ltO l) a (m + 1) d' := by
 have hw := ltO_swo l
 have e0 : rArith .sub .i64 (m : Int) (a : Int) = ((m - a : Nat) : Int) := sS (by omega) (by omega)
 have e1 : rArith .sub .i64 ((m + 1 : Nat) : Int) (m : Int) = ((1 : Nat) : Int) := by rw [sS (by omega) (by omega)]; congr 1; omega
 have ne1 : rCmp .eql ((m - a : Nat) : Int) (1 : Int) = false := (eqS (m - a) 1).trans (decide_eq_false hne)
 obtain ⟨i, hi, i1, i2, i3, i4⟩ := bsearch (body := slices_symMergeCmpFunc_int___impl_OrderOf_1_b4 rec ((m : Int), l, ())) (fun i j => (d.toList, (i : Int), (j : Int), ())) (fun i => (.inl (d.toList, (i : Int), ()) : List Int × Int × Unit ⊕ Empty)) (fun c => !ltO l d[m]! d[c]!) a m (fun i j h1 h2 h3 => by
  unfold slices_symMergeCmpFunc_int___impl_OrderOf_1_b4
  have e1 : rArith .add .i64 (i : Int) (j : Int) = ((i + j : Nat) : Int) := aS (by omega)
  have z : rIsNeg (1 : Int) = false := rfl
  have hc := cmpA ho (i := m) (j := (i + j) / 2) (by omega) (by omega)
  simp only [ltS, h2, decide_true, cond_true, z, cond_false, e1, halfS (n := i + j) (by omega), inA, gI, show (i + j) / 2 < d.size by omega, show m < d.size by omega, hc, Option.bind_some, cmpO_neg, succ64 (n := (i + j) / 2) (by omega)]
  cases ltO l d[m]! d[(i + j) / 2]! <;> rfl) (fun i => by
  unfold slices_symMergeCmpFunc_int___impl_OrderOf_1_b4
  simp only [ltS, Nat.lt_irrefl, decide_false, cond_false]) 256 a m big (by omega) (lt_big (by omega)) (Nat.le_refl _) (by omega) (Nat.le_refl _) (.inl rfl) (.inl rfl)
 obtain ⟨d', h3, h4, h5, h6⟩ := bub_down rec i (m - i) m d big rfl (by omega) (by omega) hd (lt_big (by omega))
 refine ⟨d', ?_, permIn_mono _ _ i (m + 1) a (m + 1) i1 (Nat.le_refl _) hb h4, ?_⟩
 ·unfold slices_symMergeCmpFunc_int___impl_OrderOf_1_r slices_symMergeCmpFunc_int___impl_OrderOf_1_l4 slices_symMergeCmpFunc_int___impl_OrderOf_1_l6
  simp only [e0, ne1, cond_false, e1, show rCmp .eql ((1 : Nat) : Int) (1 : Int) = true from rfl, cond_true, hi, Option.bind_some, Sum.elim_inl, h3]
 ·have hi0 : ∀ u, u < i → d'[u]! = d[u]! := fun u hu => h4.2.1 u (.inl hu)
  have hup : ∀ u, i < u → u < m + 1 → d'[u]! = d[u - 1]! := fun u hu hu2 => by
   have := h5 (u - 1) (by omega) (by omega)
   rwa [show u - 1 + 1 = u by omega] at this
  intro u v h7 h8 h9
  by_cases u1 : u < i
  ·rw [hi0 u u1]
   by_cases v1 : v < i
   ·rw [hi0 v v1]; exact le_sorted hw hs h7 (by omega) (by omega)
   ·by_cases v2 : v = i
    ·rw [v2, h6]
     have hP := i3.resolve_left (by omega)
     rw [Bool.not_eq_true'] at hP
     exact hw.ntrans _ _ _ hP (le_sorted hw hs h7 (by omega) (by omega))
    ·rw [hup v (by omega) h9]; exact le_sorted hw hs h7 (by omega) (by omega)
  ·by_cases u2 : u = i
   ·rw [u2, h6, hup v (by omega) h9]
    have hN := i4.resolve_left (by omega)
    rw [Bool.not_eq_false'] at hN
    exact hw.ntrans _ _ _ (le_sorted hw hs (by omega) (by omega) (by omega)) (hw.asymm hN)
   ·rw [hup u (by omega) (by omega), hup v (by omega) h9]; exact le_sorted hw hs (by omega) (by omega) (by omega)
noncomputable def g_right (rec : List Int → Int → Int → Int → List Ev → Option (List Int × Unit)) (l : List Ev) (mid e b : Int) (d : List Int) : Option (List Int × Unit) :=
 (lets (rCmp .lss mid e) fun v3 => (bif v3 then (bif (rCmp .lss e b) then ((rec d mid e b l).bind fun y4 => some (y4.1, ())) else some (d, ())) else some (d, ())))
noncomputable def g_rest (rec : List Int → Int → Int → Int → List Ev → Option (List Int × Unit)) (l : List Ev) (a s mid e b : Int) (d : List Int) : Option (List Int × Unit) :=
 (bif (rCmp .lss a s) then (bif (rCmp .lss s mid) then ((rec d a s mid l).bind fun y2 => g_right rec l mid e b y2.1) else g_right rec l mid e b d) else g_right rec l mid e b d)
theorem rest_ok {l : List Ev} {rec : List Int → Int → Int → Int → List Ev → Option (List Int × Unit)} {M : Nat} (hrec : MergeOk l rec M) (d : Array Int) (a s mid e b : Nat) (h1 : a ≤ s) (h2 : s ≤ mid) (h3 : mid ≤ e) (h4 : e ≤ b) (hab : a < mid) (hmb : mid < b) (hM : b - a ≤ M) (hb : b ≤ d.size) (hd : d.size ≤ 255) (ho : Oks l d)
  (s1 : SortedIn (ltO l) a s d) (s2 : SortedIn (ltO l) s mid d) (s3 : SortedIn (ltO l) mid e d) (s4 : SortedIn (ltO l) e b d) (hx : ∀ u v, a ≤ u → u < mid → mid ≤ v → v < b → ltO l d[v]! d[u]! = false) :
  ∃ d', g_rest rec l (a : Int) (s : Int) (mid : Int) (e : Int) (b : Int) d.toList = some (d'.toList, ()) ∧ PermIn a b d d' ∧ SortedIn (ltO l) a b d' := by
 have hw := ltO_swo l
 obtain ⟨d2, k1, k2, k3⟩ : ∃ d2 : Array Int, g_rest rec l (a : Int) (s : Int) (mid : Int) (e : Int) (b : Int) d.toList = g_right rec l (mid : Int) (e : Int) (b : Int) d2.toList ∧ PermIn a mid d d2 ∧ SortedIn (ltO l) a mid d2 := by
  unfold g_rest
  rw [ltS, ltS]
  by_cases q1 : a < s
  ·by_cases q2 : s < mid
   ·obtain ⟨d2, k1, k2, k3⟩ := hrec d a s mid (by omega) q1 q2 (by omega) hd ho s1 s2
    exact ⟨d2, by simp only [q1, q2, decide_true, cond_true, k1, Option.bind_some], k2, k3⟩
   ·have : s = mid := by omega
    exact ⟨d, by simp only [q1, q2, decide_true, decide_false, cond_true, cond_false], permIn_refl _ _ _, this ▸ s1⟩
  ·have : s = a := by omega
   exact ⟨d, by simp only [q1, decide_false, cond_false], permIn_refl _ _ _, this ▸ s2⟩
 have z2 : d2.size = d.size := k2.1
 have ho2 := ho.perm (by omega) k2
 obtain ⟨d3, m1, m2, m3⟩ : ∃ d3 : Array Int, g_right rec l (mid : Int) (e : Int) (b : Int) d2.toList = some (d3.toList, ()) ∧ PermIn mid b d2 d3 ∧ SortedIn (ltO l) mid b d3 := by
  have s3' : SortedIn (ltO l) mid e d2 := s3.congr fun i hi _ => k2.2.1 i (.inr hi)
  have s4' : SortedIn (ltO l) e b d2 := s4.congr fun i hi _ => k2.2.1 i (.inr (by omega))
  unfold g_right
  rw [ltS, ltS]
  by_cases q1 : mid < e
  ·by_cases q2 : e < b
   ·obtain ⟨d3, m1, m2, m3⟩ := hrec d2 mid e b (by omega) q1 q2 (by omega) (by omega) ho2 s3' s4'
    exact ⟨d3, by simp only [lets_def, q1, q2, decide_true, cond_true, m1, Option.bind_some], m2, m3⟩
   ·have : e = b := by omega
    exact ⟨d2, by simp only [lets_def, q1, q2, decide_true, decide_false, cond_true, cond_false], permIn_refl _ _ _, this ▸ s3'⟩
  ·have : e = mid := by omega
   exact ⟨d2, by simp only [lets_def, q1, decide_false, cond_false], permIn_refl _ _ _, this ▸ s4'⟩
 refine ⟨d3, by rw [k1, m1], permIn_trans _ _ _ a b (permIn_mono _ _ a mid a b (Nat.le_refl _) (by omega) hb k2) (permIn_mono _ _ mid b a b (by omega) (Nat.le_refl _) (by omega) m2), fun u v h7 h8 h9 => ?_⟩
 have left : ∀ u, u < mid → d3[u]! = d2[u]! := fun u hu => m2.2.1 u (.inl hu)
 by_cases v1 : v < mid
 ·rw [left u (by omega), left v v1]; exact k3 u v h7 h8 v1
 ·by_cases u1 : u < mid
  ·rw [left u u1]
   have c1 : ∀ w, mid ≤ w → w < b → ltO l d2[w]! d2[u]! = false := fun w hw1 hw2 => by
    rw [k2.2.1 w (.inr hw1)]
    exact permIn_all d d2 a mid (fun x => ltO l d[w]! x = false) (by omega) k2 (fun t ht1 ht2 => hx t w ht1 ht2 hw1 hw2) u h7 u1
   exact permIn_all d2 d3 mid b (fun x => ltO l x d2[u]! = false) (by omega) m2 (fun t ht1 ht2 => c1 t ht1 ht2) v (by omega) h9
  ·exact m3 u v (by omega) h8 h9
theorem found_ok {l : List Ev} {rec : List Int → Int → Int → Int → List Ev → Option (List Int × Unit)} {M : Nat} (hrec : MergeOk l rec M) (d : Array Int) (a m b mid s e lo hi : Nat) (ham : a + 2 ≤ m) (hmb : m + 2 ≤ b) (hM : b - a ≤ M) (hb : b ≤ d.size) (hd : d.size ≤ 255) (ho : Oks l d)
  (s1 : SortedIn (ltO l) a m d) (s2 : SortedIn (ltO l) m b d) (hmid : mid = (a + b) / 2) (hlo : lo = if m > mid then mid + m - b else a) (hhi : hi = if m > mid then mid else m) (r1 : lo ≤ s) (r2 : s ≤ hi) (he : e = mid + m - s)
  (r3 : s = lo ∨ ltO l d[mid + m - 1 - (s - 1)]! d[s - 1]! = false) (r4 : s = hi ∨ ltO l d[mid + m - 1 - s]! d[s]! = true) :
  ∃ d', (bif (rCmp .lss (s : Int) (m : Int)) then (bif (rCmp .lss (m : Int) (e : Int)) then ((slices_rotateCmpFunc_int___impl_OrderOf_1 d.toList (s : Int) (m : Int) (e : Int) l).bind fun y2 => g_rest rec l (a : Int) (s : Int) (mid : Int) (e : Int) (b : Int) y2.1) else g_rest rec l (a : Int) (s : Int) (mid : Int) (e : Int) (b : Int) d.toList) else g_rest rec l (a : Int) (s : Int) (mid : Int) (e : Int) (b : Int) d.toList) = some (d'.toList, ()) ∧ PermIn a b d d' ∧ SortedIn (ltO l) a b d' := by
 have hw := ltO_swo l
 have b1 : a ≤ s ∧ s ≤ m ∧ m ≤ e ∧ e ≤ b ∧ s ≤ mid ∧ mid ≤ e := by
  split at hlo <;> rename_i q <;> simp only [q, if_true, if_false] at hhi <;> omega
 obtain ⟨c1, c2, c3, c4, c5, c6⟩ := b1
 obtain ⟨T, t0, t1, t2, t3⟩ : ∃ T : Array Int, (bif (rCmp .lss (s : Int) (m : Int)) then (bif (rCmp .lss (m : Int) (e : Int)) then ((slices_rotateCmpFunc_int___impl_OrderOf_1 d.toList (s : Int) (m : Int) (e : Int) l).bind fun y2 => g_rest rec l (a : Int) (s : Int) (mid : Int) (e : Int) (b : Int) y2.1) else g_rest rec l (a : Int) (s : Int) (mid : Int) (e : Int) (b : Int) d.toList) else g_rest rec l (a : Int) (s : Int) (mid : Int) (e : Int) (b : Int) d.toList) = g_rest rec l (a : Int) (s : Int) (mid : Int) (e : Int) (b : Int) T.toList ∧ PermIn s e d T ∧ (∀ u, s ≤ u → u < mid → T[u]! = d[m + (u - s)]!) ∧ (∀ v, mid ≤ v → v < e → T[v]! = d[s + (v - mid)]!) := by
  rw [ltS, ltS]
  by_cases q1 : s < m
  ·by_cases q2 : m < e
   ·obtain ⟨T, k1, k2, k3, k4⟩ := o_rotate l d s m e q1 q2 (by omega) hd
    rw [show m - (m - s) = s by omega] at k2 k3 k4
    rw [show m + (e - m) = e by omega] at k2
    refine ⟨T, by simp only [q1, q2, decide_true, cond_true, k1, Option.bind_some], k2, fun u h1 h2 => ?_, fun v h1 h2 => ?_⟩
    ·have := k3 (u - s) (by omega)
     rwa [show s + (u - s) = u by omega] at this
    ·have := k4 (v - mid) (by omega)
     rwa [show s + (e - m) + (v - mid) = v by omega] at this
   ·have : e = m := by omega
    refine ⟨d, by simp only [q1, q2, decide_true, decide_false, cond_true, cond_false], permIn_refl _ _ _, fun u h1 h2 => by omega, fun v h1 h2 => ?_⟩
    congr 1; omega
  ·have : s = m := by omega
   refine ⟨d, by simp only [q1, decide_false, cond_false], permIn_refl _ _ _, fun u h1 h2 => ?_, fun v h1 h2 => by omega⟩
   congr 1; omega
 have lo' : ∀ u, u < s → T[u]! = d[u]! := fun u hu => t1.2.1 u (.inl hu)
 have hi' : ∀ v, e ≤ v → T[v]! = d[v]! := fun v hv => t1.2.1 v (.inr hv)
 have zT : T.size = d.size := t1.1
 obtain ⟨d', k1, k2, k3⟩ := rest_ok hrec T a s mid e b c1 c5 c6 c4 (by omega) (by omega) hM (by omega) (by omega) (ho.perm (by omega) t1)
  (fun u v h1 h2 h3 => by rw [lo' u (by omega), lo' v h3]; exact s1 u v h1 h2 (by omega))
  (fun u v h1 h2 h3 => by rw [t2 u h1 (by omega), t2 v (by omega) h3]; exact le_sorted hw s2 (by omega) (by omega) (by omega))
  (fun u v h1 h2 h3 => by rw [t3 u h1 (by omega), t3 v (by omega) h3]; exact le_sorted hw s1 (by omega) (by omega) (by omega))
  (fun u v h1 h2 h3 => by rw [hi' u h1, hi' v (by omega)]; exact s2 u v (by omega) h2 h3)
  (fun u v h1 h2 h3 h4 => by
   by_cases u1 : u < s
   ·rw [lo' u u1]
    by_cases v1 : v < e
    ·rw [t3 v h3 v1]; exact le_sorted hw s1 h1 (by omega) (by omega)
    ·rw [hi' v (by omega)]
     have hP : ltO l d[e]! d[s - 1]! = false := by
      have := r3.resolve_left (by split at hlo <;> omega)
      rwa [show mid + m - 1 - (s - 1) = e by omega] at this
     exact hw.ntrans _ _ _ (hw.ntrans _ _ _ (le_sorted hw s2 (by omega) (by omega) h4) hP) (le_sorted hw s1 h1 (by omega) (by omega))
   ·rw [t2 u (by omega) h2]
    by_cases v1 : v < e
    ·rw [t3 v h3 v1]
     have hP : ltO l d[e - 1]! d[s]! = true := by
      have := r4.resolve_left (by split at hhi <;> omega)
      rwa [show mid + m - 1 - s = e - 1 by omega] at this
     exact hw.ntrans _ _ _ (hw.ntrans _ _ _ (le_sorted hw s1 (by omega) (by omega) (by omega)) (hw.asymm hP)) (le_sorted hw s2 (by omega) (by omega) (by omega))
    ·rw [hi' v (by omega)]
     exact le_sorted hw s2 (by omega) (by omega) h4)
 exact ⟨d', by rw [t0]; exact k1, permIn_trans _ _ _ a b (permIn_mono _ _ s e a b c1 c4 hb t1) k2, k3⟩
theorem merge_any (l : List Ev) {rec : List Int → Int → Int → Int → List Ev → Option (List Int × Unit)} {M : Nat} (hrec : MergeOk l rec M) (d : Array Int) (a m b : Nat) (hM : b - a ≤ M) (ham : a < m) (hmb : m < b) (hb : b ≤ d.size) (hd : d.size ≤ 255) (ho : Oks l d) (s1 : SortedIn (ltO l) a m d) (s2 : SortedIn (ltO l) m b d) :
  ∃ d', slices_symMergeCmpFunc_int___impl_OrderOf_1_r rec d.toList (a : Int) (m : Int) (b : Int) l = some (d'.toList, ()) ∧ PermIn a b d d' ∧ SortedIn (ltO l) a b d' := by
 by_cases q1 : m = a + 1
 ·subst q1; exact merge_left l rec d a b hmb hb hd ho s2
 ·by_cases q2 : b = m + 1
  ·subst q2; exact merge_right l rec d a m ham (by omega) hb hd ho s1
  ·have e0 : rArith .sub .i64 (m : Int) (a : Int) = ((m - a : Nat) : Int) := sS (by omega) (by omega)
   have e1 : rArith .sub .i64 (b : Int) (m : Int) = ((b - m : Nat) : Int) := sS (by omega) (by omega)
   have n1 : rCmp .eql ((m - a : Nat) : Int) (1 : Int) = false := (eqS (m - a) 1).trans (decide_eq_false (by omega))
   have n2 : rCmp .eql ((b - m : Nat) : Int) (1 : Int) = false := (eqS (b - m) 1).trans (decide_eq_false (by omega))
   have z : rIsNeg (1 : Int) = false := rfl
   have e2 : rArith .add .i64 (a : Int) (b : Int) = ((a + b : Nat) : Int) := aS (by omega)
   have e3 := halfS (n := a + b) (by omega)
   obtain ⟨mid, hmid⟩ : ∃ mid, mid = (a + b) / 2 := ⟨_, rfl⟩
   rw [← hmid] at e3
   have e4 : rArith .add .i64 (mid : Int) (m : Int) = ((mid + m : Nat) : Int) := aS (by omega)
   have e5 : rArith .sub .i64 ((mid + m : Nat) : Int) 1 = ((mid + m - 1 : Nat) : Int) := sS (m := 1) (by omega) (by omega)
   obtain ⟨lo, hlo⟩ : ∃ lo, lo = if m > mid then mid + m - b else a := ⟨_, rfl⟩
   obtain ⟨hi, hhi⟩ : ∃ hi, hi = if m > mid then mid else m := ⟨_, rfl⟩
   have hlh : a ≤ lo ∧ lo ≤ hi ∧ hi ≤ m ∧ hi ≤ mid ∧ (∀ c, lo ≤ c → c < hi → mid + m - 1 - c < b ∧ c ≤ mid + m - 1) := by
    split at hlo <;> rename_i q <;> simp only [q, if_true, if_false] at hhi
    ·exact ⟨by omega, by omega, by omega, by omega, fun c _ _ => by omega⟩
    ·exact ⟨by omega, by omega, by omega, by omega, fun c _ _ => by omega⟩
   obtain ⟨l1, l2, l3, l4, l5⟩ := hlh
   obtain ⟨s, hs, i1, i2, i3, i4⟩ := bsearch (body := slices_symMergeCmpFunc_int___impl_OrderOf_1_b8 rec ((a : Int), (m : Int), (b : Int), l, (mid : Int), ((mid + m : Nat) : Int), ((mid + m - 1 : Nat) : Int), ())) (fun i j => (d.toList, (i : Int), (j : Int), ())) (fun i => (.inl (d.toList, (i : Int), ()) : List Int × Int × Unit ⊕ Empty)) (fun c => !ltO l d[mid + m - 1 - c]! d[c]!) lo hi (fun i j h1 h2 h3 => by
    have hc1 := l5 ((i + j) / 2) (by omega) (by omega)
    unfold slices_symMergeCmpFunc_int___impl_OrderOf_1_b8
    have x1 : rArith .add .i64 (i : Int) (j : Int) = ((i + j : Nat) : Int) := aS (by omega)
    have x2 : rArith .sub .i64 ((mid + m - 1 : Nat) : Int) (((i + j) / 2 : Nat) : Int) = ((mid + m - 1 - (i + j) / 2 : Nat) : Int) := sS (by omega) (by omega)
    have hc := cmpA ho (i := mid + m - 1 - (i + j) / 2) (j := (i + j) / 2) (by omega) (by omega)
    simp only [ltS, h2, decide_true, cond_true, z, cond_false, x1, halfS (n := i + j) (by omega), x2, inA, gI, show (i + j) / 2 < d.size by omega, show mid + m - 1 - (i + j) / 2 < d.size by omega, hc, Option.bind_some, cmpO_neg, succ64 (n := (i + j) / 2) (by omega)]
    cases ltO l d[mid + m - 1 - (i + j) / 2]! d[(i + j) / 2]! <;> rfl) (fun i => by
    unfold slices_symMergeCmpFunc_int___impl_OrderOf_1_b8
    simp only [ltS, Nat.lt_irrefl, decide_false, cond_false]) 256 lo hi big (by omega) (lt_big (by omega)) (Nat.le_refl _) l2 (Nat.le_refl _) (.inl rfl) (.inl rfl)
   have e6 : rArith .sub .i64 ((mid + m : Nat) : Int) (s : Int) = ((mid + m - s : Nat) : Int) := sS (by omega) (by omega)
   obtain ⟨d', k1, k2, k3⟩ := found_ok hrec d a m b mid s (mid + m - s) lo hi (by omega) (by omega) hM hb hd ho s1 s2 hmid hlo hhi i1 i2 rfl (i3.imp id fun h => by simpa using h) (i4.imp id fun h => by simpa using h)
   refine ⟨d', ?_, k2, k3⟩
   rw [← k1]
   unfold slices_symMergeCmpFunc_int___impl_OrderOf_1_r
   by_cases q : m > mid
   ·simp only [q, if_true] at hlo hhi
    have x1 : rArith .sub .i64 ((mid + m : Nat) : Int) (b : Int) = ((mid + m - b : Nat) : Int) := sS (by omega) (by omega)
    rw [hlo, hhi] at hs
    have hs' : slices_symMergeCmpFunc_int___impl_OrderOf_1_l8 rec ((a : Int), (m : Int), (b : Int), l, (mid : Int), ((mid + m : Nat) : Int), ((mid + m - 1 : Nat) : Int), ()) (d.toList, ((mid + m - b : Nat) : Int), (mid : Int), ()) = _ := hs
    simp only [e0, n1, cond_false, e1, n2, z, e2, e3, gtS, q, decide_true, cond_true, e4, e5, x1, hs', Option.bind_some, Sum.elim_inl, e6]
    rfl
   ·simp only [q, if_false] at hlo hhi
    rw [hlo, hhi] at hs
    have hs' : slices_symMergeCmpFunc_int___impl_OrderOf_1_l8 rec ((a : Int), (m : Int), (b : Int), l, (mid : Int), ((mid + m : Nat) : Int), ((mid + m - 1 : Nat) : Int), ()) (d.toList, (a : Int), (m : Int), ()) = _ := hs
    simp only [e0, n1, cond_false, e1, n2, z, e2, e3, gtS, q, decide_false, e4, e5, hs', Option.bind_some, Sum.elim_inl, e6]
    rfl
theorem merge_f (l : List Ev) : ∀ F, MergeOk l (slices_symMergeCmpFunc_int___impl_OrderOf_1_f F) F := by
 intro F
 induction F with
 | zero => intro d a m b h; omega
 | succ F ih => intro d a m b h ham hmb hb hd ho s1 s2; exact merge_any l ih d a m b (by omega) ham hmb hb hd ho s1 s2
theorem o_merge (l : List Ev) (d : Array Int) (a m b : Nat) (ham : a < m) (hmb : m < b) (hb : b ≤ d.size) (hd : d.size ≤ 255) (ho : Oks l d) (s1 : SortedIn (ltO l) a m d) (s2 : SortedIn (ltO l) m b d) : ∃ d', slices_symMergeCmpFunc_int___impl_OrderOf_1 d.toList (a : Int) (m : Int) (b : Int) l = some (d'.toList, ()) ∧ PermIn a b d d' ∧ SortedIn (ltO l) a b d' :=
 merge_f l big d a m b (lt_big (by omega)) ham hmb hb hd ho s1 s2
end Go.Fn
set_option linter.unusedSimpArgs false
set_option linter.unusedVariables false
namespace Go.Fn
open Go.R Go.Sort
noncomputable def Blk (l : List Ev) (w a : Nat) (d : Array Int) : Prop := ∀ i j, i < j → j < a → i / w = j / w → ltO l d[j]! d[i]! = false
theorem stable0 (l : List Ev) (n : Nat) (hn : n ≤ 60) : ∀ (s a : Nat) (d : Array Int) (f : Nat), n - a ≤ s → a % 20 = 0 → a ≤ n → d.size = n → Oks l d → Blk l 20 a d → s < f →
  ∃ (d' : Array Int) (a' : Nat), iter (slices_stableCmpFunc_int___impl_OrderOf_1_b0 ((n : Int), l, (20 : Int), ())) f (d.toList, (a : Int), ((a + 20 : Nat) : Int), ()) = some (.inl (d'.toList, (a' : Int), ())) ∧ PermIn 0 n d d' ∧ a' % 20 = 0 ∧ a' ≤ n ∧ n < a' + 20 ∧ Blk l 20 a' d' := by
 intro s
 induction s with
 | zero =>
  intro a d f hs ha han hd ho hb hf
  obtain ⟨f, rfl⟩ : ∃ m, f = m + 1 := ⟨f - 1, by omega⟩
  refine ⟨d, a, iter_done ?_, permIn_refl _ _ _, ha, han, by omega, hb⟩
  unfold slices_stableCmpFunc_int___impl_OrderOf_1_b0
  simp only [leS, show ¬ (a + 20 ≤ n) by omega, decide_false, cond_false]
 | succ s ih =>
  intro a d f hs ha han hd ho hb hf
  obtain ⟨f, rfl⟩ : ∃ m, f = m + 1 := ⟨f - 1, by omega⟩
  by_cases h : a + 20 ≤ n
  ·obtain ⟨d1, k1, k2, k3⟩ := o_ins l d a (a + 20) ho (by omega) (by omega) (by omega)
   obtain ⟨d', a', m1, m2, m3, m4, m5, m6⟩ := ih (a + 20) d1 f (by omega) (by omega) h (by rw [k2.1]; exact hd) (ho.perm (by omega) k2) (fun i j h1 h2 h3 => by
    by_cases q : j < a
    ·rw [k2.2.1 i (.inl (by omega)), k2.2.1 j (.inl q)]; exact hb i j h1 q h3
    ·exact k3 i j (by omega) h1 h2) (by omega)
   refine ⟨d', a', ?_, permIn_trans _ _ _ 0 n (permIn_mono _ _ a (a + 20) 0 n (Nat.zero_le _) h (by omega) k2) m2, m3, m4, m5, m6⟩
   rw [← m1]
   refine iter_next ?_
   unfold slices_stableCmpFunc_int___impl_OrderOf_1_b0
   have e1 : rArith .add .i64 ((a + 20 : Nat) : Int) (20 : Int) = ((a + 20 + 20 : Nat) : Int) := aS (m := 20) (by omega)
   simp only [leS, h, decide_true, cond_true, k1, Option.bind_some, e1]
  ·refine ⟨d, a, iter_done ?_, permIn_refl _ _ _, ha, han, by omega, hb⟩
   unfold slices_stableCmpFunc_int___impl_OrderOf_1_b0
   simp only [leS, h, decide_false, cond_false]
theorem stable4 (l : List Ev) (n : Nat) (hn : n ≤ 60) : ∀ (s a : Nat) (d : Array Int) (f : Nat), n - a ≤ s → a % 40 = 0 → a ≤ n → d.size = n → Oks l d → Blk l 40 a d → (∀ i j, a ≤ i → i < j → j < n → i / 20 = j / 20 → ltO l d[j]! d[i]! = false) → s < f →
  ∃ (d' : Array Int) (a' : Nat), iter (slices_stableCmpFunc_int___impl_OrderOf_1_b4 ((n : Int), l, (20 : Int), ())) f (d.toList, (a : Int), ((a + 40 : Nat) : Int), ()) = some (.inl (d'.toList, (a' : Int), ())) ∧ PermIn 0 n d d' ∧ a' % 40 = 0 ∧ a' ≤ n ∧ n < a' + 40 ∧ Blk l 40 a' d' ∧ (∀ i j, a' ≤ i → i < j → j < n → i / 20 = j / 20 → ltO l d'[j]! d'[i]! = false) := by
 intro s
 induction s with
 | zero =>
  intro a d f hs ha han hd ho hb hr hf
  obtain ⟨f, rfl⟩ : ∃ m, f = m + 1 := ⟨f - 1, by omega⟩
  refine ⟨d, a, iter_done ?_, permIn_refl _ _ _, ha, han, by omega, hb, hr⟩
  unfold slices_stableCmpFunc_int___impl_OrderOf_1_b4
  simp only [leS, show ¬ (a + 40 ≤ n) by omega, decide_false, cond_false]
 | succ s ih =>
  intro a d f hs ha han hd ho hb hr hf
  obtain ⟨f, rfl⟩ : ∃ m, f = m + 1 := ⟨f - 1, by omega⟩
  by_cases h : a + 40 ≤ n
  ·obtain ⟨d1, k1, k2, k3⟩ := o_merge l d a (a + 20) (a + 40) (by omega) (by omega) (by omega) (by omega) ho (fun i j h1 h2 h3 => hr i j h1 h2 (by omega) (by omega)) (fun i j h1 h2 h3 => hr i j (by omega) h2 (by omega) (by omega))
   obtain ⟨d', a', m1, m2, m3, m4, m5, m6, m7⟩ := ih (a + 40) d1 f (by omega) (by omega) h (by rw [k2.1]; exact hd) (ho.perm (by omega) k2) (fun i j h1 h2 h3 => by
    by_cases q : j < a
    ·rw [k2.2.1 i (.inl (by omega)), k2.2.1 j (.inl q)]; exact hb i j h1 q h3
    ·exact k3 i j (by omega) h1 h2) (fun i j h0 h1 h2 h3 => by
    rw [k2.2.1 i (.inr (by omega)), k2.2.1 j (.inr (by omega))]; exact hr i j (by omega) h1 h2 h3) (by omega)
   refine ⟨d', a', ?_, permIn_trans _ _ _ 0 n (permIn_mono _ _ a (a + 40) 0 n (Nat.zero_le _) h (by omega) k2) m2, m3, m4, m5, m6, m7⟩
   rw [← m1]
   refine iter_next ?_
   unfold slices_stableCmpFunc_int___impl_OrderOf_1_b4
   have e0 : rArith .add .i64 (a : Int) (20 : Int) = ((a + 20 : Nat) : Int) := aS (m := 20) (by omega)
   have e1 : rArith .add .i64 ((a + 40 : Nat) : Int) (rArith .mul .i64 (2 : Int) (20 : Int)) = ((a + 40 + 40 : Nat) : Int) := by
    rw [show rArith .mul .i64 (2 : Int) (20 : Int) = ((40 : Nat) : Int) from mS (n := 2) (m := 20) (by omega)]
    exact aS (by omega)
   simp only [leS, h, decide_true, cond_true, e0, k1, Option.bind_some, e1]
  ·refine ⟨d, a, iter_done ?_, permIn_refl _ _ _, ha, han, by omega, hb, hr⟩
   unfold slices_stableCmpFunc_int___impl_OrderOf_1_b4
   simp only [leS, h, decide_false, cond_false]
theorem o_stable (l : List Ev) (d : Array Int) (n : Nat) (hn : n ≤ 60) (hd : d.size = n) (ho : Oks l d) : ∃ d', slices_stableCmpFunc_int___impl_OrderOf_1 d.toList (n : Int) l = some (d'.toList, ()) ∧ PermIn 0 n d d' ∧ SortedIn (ltO l) 0 n d' := by
 obtain ⟨d1, a1, k1, k2, k3, k4, k5, k6⟩ := stable0 l n hn 60 0 d big (by omega) rfl (Nat.zero_le _) hd ho (fun i j _ h => by omega) (lt_big (by omega))
 have z1 : d1.size = n := by rw [k2.1]; exact hd
 have ho1 := ho.perm (by omega) k2
 obtain ⟨d2, m1, m2, m3⟩ := o_ins l d1 a1 n ho1 k4 (by omega) (by omega)
 have z2 : d2.size = n := by rw [m2.1]; exact z1
 have ho2 := ho1.perm (by omega) m2
 have p2 := permIn_trans _ _ _ 0 n k2 (permIn_mono _ _ a1 n 0 n (Nat.zero_le _) (Nat.le_refl _) (by omega) m2)
 have b2 : ∀ i j, 0 ≤ i → i < j → j < n → i / 20 = j / 20 → ltO l d2[j]! d2[i]! = false := fun i j _ h1 h2 h3 => by
  by_cases q : j < a1
  ·rw [m2.2.1 i (.inl (by omega)), m2.2.1 j (.inl q)]; exact k6 i j h1 q h3
  ·exact m3 i j (by omega) h1 h2
 have st : slices_stableCmpFunc_int___impl_OrderOf_1_l0 ((n : Int), l, (20 : Int), ()) (d.toList, (0 : Int), (20 : Int), ()) = _ := k1
 unfold slices_stableCmpFunc_int___impl_OrderOf_1
 simp only [st, Option.bind_some, Sum.elim_inl, m1]
 unfold slices_stableCmpFunc_int___impl_OrderOf_1_l2
 by_cases q20 : 20 < n
 ·obtain ⟨d3, a3, r1, r2, r3, r4, r5, r6, r7⟩ := stable4 l n hn 60 0 d2 big (by omega) rfl (Nat.zero_le _) z2 ho2 (fun i j _ h => by omega) b2 (lt_big (by omega))
  have z3 : d3.size = n := by rw [r2.1]; exact z2
  have ho3 := ho2.perm (by omega) r2
  have st4 : slices_stableCmpFunc_int___impl_OrderOf_1_l4 ((n : Int), l, (20 : Int), ()) (d2.toList, (0 : Int), rArith .mul .i64 (2 : Int) (20 : Int), ()) = _ := r1
  have e40 : rArith .mul .i64 (20 : Int) (2 : Int) = ((40 : Nat) : Int) := mS (n := 20) (m := 2) (by omega)
  have ea : rArith .add .i64 (a3 : Int) (20 : Int) = ((a3 + 20 : Nat) : Int) := aS (m := 20) (by omega)
  have g20 : rCmp .lss (20 : Int) (n : Int) = true := (ltS 20 n).trans (decide_eq_true q20)
  obtain ⟨d4, s1, s2, s3⟩ : ∃ d4 : Array Int, slices_stableCmpFunc_int___impl_OrderOf_1_b2 ((n : Int), l, ()) (d2.toList, (20 : Int), ()) = some (.inl (d4.toList, ((40 : Nat) : Int), ())) ∧ PermIn 0 n d2 d4 ∧ Blk l 40 n d4 := by
   by_cases q : a3 + 20 < n
   ·obtain ⟨d4, t1, t2, t3⟩ := o_merge l d3 a3 (a3 + 20) n (by omega) q (by omega) (by omega) ho3 (fun i j h1 h2 h3 => r7 i j h1 h2 (by omega) (by omega)) (fun i j h1 h2 h3 => r7 i j (by omega) h2 (by omega) (by omega))
    refine ⟨d4, ?_, permIn_trans _ _ _ 0 n r2 (permIn_mono _ _ a3 n 0 n (Nat.zero_le _) (Nat.le_refl _) (by omega) t2), fun i j h1 h2 h3 => ?_⟩
    ·unfold slices_stableCmpFunc_int___impl_OrderOf_1_b2
     simp only [g20, cond_true, st4, Option.bind_some, Sum.elim_inl, ea, ltS, q, decide_true, t1, e40]
    ·by_cases q' : j < a3
     ·rw [t2.2.1 i (.inl (by omega)), t2.2.1 j (.inl q')]; exact r6 i j h1 q' h3
     ·exact t3 i j (by omega) h1 h2
   ·refine ⟨d3, ?_, r2, fun i j h1 h2 h3 => ?_⟩
    ·unfold slices_stableCmpFunc_int___impl_OrderOf_1_b2
     simp only [g20, cond_true, st4, Option.bind_some, Sum.elim_inl, ea, ltS, q, decide_false, cond_false, e40]
    ·by_cases q' : j < a3
     ·exact r6 i j h1 q' h3
     ·exact r7 i j (by omega) h1 h2 (by omega)
  have z4 : d4.size = n := by rw [s2.1]; exact z2
  have ho4 := ho2.perm (by omega) s2
  by_cases q40 : 40 < n
  ·have st5 : slices_stableCmpFunc_int___impl_OrderOf_1_l4 ((n : Int), l, ((40 : Nat) : Int), ()) (d4.toList, (0 : Int), rArith .mul .i64 (2 : Int) ((40 : Nat) : Int), ()) = some (.inl (d4.toList, (0 : Int), ())) := by
    refine iter_mono (n := 1) (iter_done ?_) (Nat.le_of_lt (lt_big (by omega)))
    have e80 : rArith .mul .i64 (2 : Int) ((40 : Nat) : Int) = ((80 : Nat) : Int) := mS (n := 2) (m := 40) (by omega)
    unfold slices_stableCmpFunc_int___impl_OrderOf_1_b4
    simp only [e80, leS, show ¬ (80 ≤ n) by omega, decide_false, cond_false]
   obtain ⟨d5, t1, t2, t3⟩ := o_merge l d4 0 40 n (by omega) q40 (by omega) (by omega) ho4 (fun i j h1 h2 h3 => s3 i j h2 (by omega) (by omega)) (fun i j h1 h2 h3 => s3 i j h2 (by omega) (by omega))
   refine ⟨d5, ?_, permIn_trans _ _ _ 0 n p2 (permIn_trans _ _ _ 0 n s2 t2), t3⟩
   have it : iter (slices_stableCmpFunc_int___impl_OrderOf_1_b2 ((n : Int), l, ())) 3 (d2.toList, (20 : Int), ()) = some (.inl (d5.toList, ())) := by
    have e0 : rArith .add .i64 (0 : Int) ((40 : Nat) : Int) = ((40 : Nat) : Int) := by rw [show (0 : Int) = ((0 : Nat) : Int) from rfl, aS (by omega)]
    have e80 : rArith .mul .i64 ((40 : Nat) : Int) (2 : Int) = ((80 : Nat) : Int) := mS (n := 40) (m := 2) (by omega)
    have t1' : slices_symMergeCmpFunc_int___impl_OrderOf_1 d4.toList (0 : Int) ((40 : Nat) : Int) (n : Int) l = _ := t1
    rw [iter_next s1, iter_next (y := (d5.toList, ((80 : Nat) : Int), ())) (by
     unfold slices_stableCmpFunc_int___impl_OrderOf_1_b2
     simp only [ltS, q40, decide_true, cond_true, st5, Option.bind_some, Sum.elim_inl, e0, t1', e80])]
    refine iter_done ?_
    unfold slices_stableCmpFunc_int___impl_OrderOf_1_b2
    simp only [ltS, show ¬ (80 < n) by omega, decide_false, cond_false]
   rw [iter_mono it (Nat.le_of_lt (lt_big (by omega)))]
   rfl
  ·refine ⟨d4, ?_, permIn_trans _ _ _ 0 n p2 s2, fun i j h1 h2 h3 => s3 i j h2 h3 (by omega)⟩
   have it : iter (slices_stableCmpFunc_int___impl_OrderOf_1_b2 ((n : Int), l, ())) 2 (d2.toList, (20 : Int), ()) = some (.inl (d4.toList, ())) := by
    rw [iter_next s1]
    refine iter_done ?_
    unfold slices_stableCmpFunc_int___impl_OrderOf_1_b2
    simp only [ltS, q40, decide_false, cond_false]
   rw [iter_mono it (Nat.le_of_lt (lt_big (by omega)))]
   rfl
 ·refine ⟨d2, ?_, p2, fun i j h1 h2 h3 => b2 i j (Nat.zero_le _) h2 h3 (by omega)⟩
  have it : iter (slices_stableCmpFunc_int___impl_OrderOf_1_b2 ((n : Int), l, ())) 1 (d2.toList, (20 : Int), ()) = some (.inl (d2.toList, ())) := by
   refine iter_done ?_
   have g20 : rCmp .lss (20 : Int) (n : Int) = false := (ltS 20 n).trans (decide_eq_false q20)
   unfold slices_stableCmpFunc_int___impl_OrderOf_1_b2
   simp only [g20, cond_false]
  rw [iter_mono it (Nat.le_of_lt (lt_big (by omega)))]
  rfl
theorem sorted_ext {α : Type} {lt : α → α → Prop} (irr : ∀ x, ¬ lt x x) (asy : ∀ x y, lt x y → ¬ lt y x) : ∀ {l m : List α}, l.Pairwise lt → m.Pairwise lt → (∀ x, x ∈ l ↔ x ∈ m) → l = m
 | [], [], _, _, _ => rfl
 | [], y :: m, _, _, h => absurd ((h y).2 (List.mem_cons_self ..)) (List.not_mem_nil)
 | x :: l, [], _, _, h => absurd ((h x).1 (List.mem_cons_self ..)) (List.not_mem_nil)
 | x :: l, y :: m, hl, hm, h => by
  have hl' := List.pairwise_cons.1 hl
  have hm' := List.pairwise_cons.1 hm
  have hxy : x = y := by
   rcases List.mem_cons.1 ((h x).1 (List.mem_cons_self ..)) with e | h1
   ·exact e
   ·rcases List.mem_cons.1 ((h y).2 (List.mem_cons_self ..)) with e | h2
    ·exact e.symm
    ·exact absurd (hl'.1 y h2) (asy _ _ (hm'.1 x h1))
  subst hxy
  congr 1
  refine sorted_ext irr asy hl'.2 hm'.2 fun z => ⟨fun hz => ?_, fun hz => ?_⟩
  ·rcases List.mem_cons.1 ((h z).1 (List.mem_cons_of_mem _ hz)) with e | h1
   ·subst e; exact absurd (hl'.1 z hz) (irr z)
   ·exact h1
  ·rcases List.mem_cons.1 ((h z).2 (List.mem_cons_of_mem _ hz)) with e | h1
   ·subst e; exact absurd (hm'.1 z hz) (irr z)
   ·exact h1
noncomputable def rangeI (n : Nat) : List Int := (List.range n).map fun i : Nat => (i : Int)
theorem rangeI_len (n : Nat) : (rangeI n).length = n := by simp [rangeI]
theorem extract_all {α : Type} {d : Array α} {n : Nat} (h : d.size = n) : d.extract 0 n = d := by subst h; exact Array.extract_size
theorem rangeI_succ (n : Nat) : rangeI (n + 1) = rangeI n ++ [(n : Int)] := by unfold rangeI; rw [List.range_succ, List.map_append]; rfl
theorem rangeI_mem {n : Nat} {x : Int} : x ∈ rangeI n ↔ 0 ≤ x ∧ x < n := by
 unfold rangeI
 rw [List.mem_map]
 constructor
 ·rintro ⟨k, hk, rfl⟩; have := List.mem_range.1 hk; omega
 ·intro h; exact ⟨x.toNat, List.mem_range.2 (by omega), by omega⟩
theorem ltO_tri {l : List Ev} (h : jok l = true) {i j : Nat} (hij : i < j) (hj : j < l.length) (hs : (l.getD i zIIIIIII).2.2.1 = (l.getD j zIIIIIII).2.2.1) : ltO l (i : Int) (j : Int) = true := by
 have hp := (jok_iff.1 h).2.2
 rw [List.pairwise_iff_getElem] at hp
 have := hp i j (by omega) hj hij
 rw [← getD_eq (show i < l.length by omega) zIIIIIII, ← getD_eq hj zIIIIIII] at this
 obtain ⟨h1, h2⟩ := this
 unfold ltO
 rw [Int.toNat_natCast, Int.toNat_natCast, ltK_iff]
 rw [ltE_iff] at h1
 by_cases e : (l.getD i zIIIIIII).1 = (l.getD j zIIIIIII).1
 ·have := h2 e; omega
 ·omega
theorem ltO_total {l : List Ev} (h : jok l = true) {x y : Int} (hx : 0 ≤ x ∧ x < l.length) (hy : 0 ≤ y ∧ y < l.length) (hne : x ≠ y) (hn : ltO l y x = false) : ltO l x y = true := by
 obtain ⟨i, rfl⟩ : ∃ n : Nat, x = (n : Int) := ⟨x.toNat, by omega⟩
 obtain ⟨j, rfl⟩ : ∃ n : Nat, y = (n : Int) := ⟨y.toNat, by omega⟩
 by_cases hs : (l.getD i zIIIIIII).2.2.1 = (l.getD j zIIIIIII).2.2.1
 ·by_cases hij : i < j
  ·exact ltO_tri h hij (by omega) hs
  ·rw [ltO_tri h (i := j) (j := i) (by omega) (by omega) hs.symm] at hn; cases hn
 ·unfold ltO at hn ⊢
  rw [Int.toNat_natCast, Int.toNat_natCast] at hn ⊢
  rw [ltK_no] at hn
  rw [ltK_iff]
  omega
noncomputable def OrdIs (l : List Ev) (r : List Int) : Prop := (∀ x, x ∈ r ↔ 0 ≤ x ∧ x < l.length) ∧ r.Pairwise (fun x y => ltO l x y = true)
theorem ordIs_ext {l : List Ev} {r s : List Int} (h1 : OrdIs l r) (h2 : OrdIs l s) : r = s :=
 sorted_ext (lt := fun x y => ltO l x y = true) (fun x h => by rw [(ltO_swo l).irrefl] at h; cases h) (fun x y h h' => by rw [(ltO_swo l).asymm h] at h'; cases h') h1.2 h2.2 fun x => by rw [h1.1, h2.1]
theorem implSort_ok (l : List Ev) (h : jok l = true) : ∃ r, slices_SortStableFunc___int_int___impl_OrderOf_1 (rangeI l.length) l = some (r, ()) ∧ OrdIs l r := by
  have hl := jok_len h
  have hsz : (rangeI l.length).toArray.size = l.length := by simp [rangeI]
  have ho : Oks l (rangeI l.length).toArray := fun k hk => by
    have : (rangeI l.length).toArray[k]! ∈ rangeI l.length := by
      rw [getElem!_pos _ k hk, List.getElem_toArray]; exact List.getElem_mem _
    exact rangeI_mem.1 this
  obtain ⟨d', h1, h2, h3⟩ := o_stable l (rangeI l.length).toArray l.length hl hsz ho
  have hz : d'.size = l.length := by rw [h2.1, hsz]
  have hp : d'.toList.Perm (rangeI l.length) := by
    have := h2.2.2
    rw [extract_all hz, extract_all hsz] at this
    exact this
  refine ⟨d'.toList, ?_, fun x => by rw [hp.mem_iff, rangeI_mem], ?_⟩
  · unfold slices_SortStableFunc___int_int___impl_OrderOf_1
    have e : rLen (rangeI l.length) = (l.length : Int) := by unfold rLen; rw [rangeI_len]
    rw [e, show slices_stableCmpFunc_int___impl_OrderOf_1 (rangeI l.length) (l.length : Int) l = _ from h1]
    rfl
  · have hnd : (rangeI l.length).Pairwise (· ≠ ·) := by
      unfold rangeI
      rw [List.pairwise_map]
      exact List.pairwise_lt_range.imp fun {a b} h => by omega
    have hnd' : d'.toList.Pairwise (· ≠ ·) := (hp.pairwise_iff (fun {a b} h => Ne.symm h)).2 hnd
    rw [List.pairwise_iff_getElem] at hnd' ⊢
    intro i j hi hj hij
    have hi' : i < d'.size := by simpa using hi
    have hj' : j < d'.size := by simpa using hj
    have k1 := h3 i j (Nat.zero_le _) hij (by omega)
    rw [getElem!_pos d' i hi', getElem!_pos d' j hj'] at k1
    have ok := ho.perm (by omega) h2
    have oi := ok i hi'
    have oj := ok j hj'
    rw [getElem!_pos d' i hi'] at oi
    rw [getElem!_pos d' j hj'] at oj
    exact ltO_total h oi oj (hnd' i j hi hj hij) k1
end Go.Fn
