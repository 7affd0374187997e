import Derived.Test.YtgiakgamcepemaaFnDeltasQA
/- Plain functions that stand for Go functions, and what they answer. Conditions: none. -/
set_option autoImplicit false
set_option linter.unusedVariables false
set_option linter.unusedSimpArgs false
set_option linter.unusedVariables false
namespace Go.Fn
open Go.R
noncomputable section
def g_insertionSort_b2 {α : Type} [Inhabited α] (lt : α → α → Bool) (k : Int × Int × Int × Unit) (x : (List α) × Int × Unit) : Option (((List α) × Int × Unit) ⊕ ((List α) × Unit ⊕ Empty)) :=
  (bif (rCmp .gtr x.2.1 k.1) then (bif (rInR x.1 x.2.1) then (bif (rInR x.1 (rArith .sub .i64 x.2.1 (1 : Int))) then ((some (lt (rGet default x.1 x.2.1) (rGet default x.1 (rArith .sub .i64 x.2.1 (1 : Int))), ())).bind fun y0 => (bif y0.1 then (bif (rInR x.1 (rArith .sub .i64 x.2.1 (1 : Int))) then (bif (rInR x.1 x.2.1) then (bif (rInR x.1 x.2.1) then (bif (rInR (rPut x.1 x.2.1 (rGet default x.1 (rArith .sub .i64 x.2.1 (1 : Int)))) (rArith .sub .i64 x.2.1 (1 : Int))) then some (.inl ((rPut (rPut x.1 x.2.1 (rGet default x.1 (rArith .sub .i64 x.2.1 (1 : Int)))) (rArith .sub .i64 x.2.1 (1 : Int)) (rGet default x.1 x.2.1)), (rArith .sub .i64 x.2.1 (1 : Int)), ())) else none) else none) else none) else none) else some (.inr (.inl (x.1, ()))))) else none) else none) else some (.inr (.inl (x.1, ()))))
def g_insertionSort_l2 {α : Type} [Inhabited α] (lt : α → α → Bool) (k : Int × Int × Int × Unit) (x : (List α) × Int × Unit) : Option ((List α) × Unit ⊕ Empty) := iter (g_insertionSort_b2 lt k) big x
def g_insertionSort_b0 {α : Type} [Inhabited α] (lt : α → α → Bool) (k : Int × Int × Unit) (x : (List α) × Int × Unit) : Option (((List α) × Int × Unit) ⊕ ((List α) × Unit ⊕ Empty)) :=
  (bif (rCmp .lss x.2.1 k.2.1) then ((g_insertionSort_l2 lt (k.1, k.2.1, x.2.1, ()) (x.1, x.2.1, ())).bind fun q0 => (Sum.elim (fun y1 => some (.inl (y1.1, (rArith .add .i64 x.2.1 (1 : Int)), ()))) (fun q2 => (Empty.elim q2)) q0)) else some (.inr (.inl (x.1, ()))))
def g_insertionSort_l0 {α : Type} [Inhabited α] (lt : α → α → Bool) (k : Int × Int × Unit) (x : (List α) × Int × Unit) : Option ((List α) × Unit ⊕ Empty) := iter (g_insertionSort_b0 lt k) big x
def g_insertionSort {α : Type} [Inhabited α] (lt : α → α → Bool) (a0 : (List α)) (a1 : Int) (a2 : Int) : Option ((List α) × Unit) :=
  ((g_insertionSort_l0 lt (a1, a2, ()) (a0, (rArith .add .i64 a1 (1 : Int)), ())).bind fun q0 => (Sum.elim (fun y1 => some (y1.1, ())) (fun q2 => (Empty.elim q2)) q0))
def g_siftDown_b0 {α : Type} [Inhabited α] (lt : α → α → Bool) (k : Int × Int × Unit) (x : (List α) × Int × Unit) : Option (((List α) × Int × Unit) ⊕ ((List α) × Unit ⊕ ((List α) × Unit ⊕ Empty))) :=
  (bif (rCmp .geq (rArith .add .i64 (rArith .mul .i64 (2 : Int) x.2.1) (1 : Int)) k.1) then some (.inr (.inl (x.1, ()))) else (bif (rCmp .lss (rArith .add .i64 (rArith .add .i64 (rArith .mul .i64 (2 : Int) x.2.1) (1 : Int)) (1 : Int)) k.1) then (bif (rInR x.1 (rArith .add .i64 k.2.1 (rArith .add .i64 (rArith .mul .i64 (2 : Int) x.2.1) (1 : Int)))) then (bif (rInR x.1 (rArith .add .i64 (rArith .add .i64 k.2.1 (rArith .add .i64 (rArith .mul .i64 (2 : Int) x.2.1) (1 : Int))) (1 : Int))) then ((some (lt (rGet default x.1 (rArith .add .i64 k.2.1 (rArith .add .i64 (rArith .mul .i64 (2 : Int) x.2.1) (1 : Int)))) (rGet default x.1 (rArith .add .i64 (rArith .add .i64 k.2.1 (rArith .add .i64 (rArith .mul .i64 (2 : Int) x.2.1) (1 : Int))) (1 : Int))), ())).bind fun y0 => (bif y0.1 then (bif (rInR x.1 (rArith .add .i64 k.2.1 x.2.1)) then (bif (rInR x.1 (rArith .add .i64 k.2.1 (rArith .add .i64 (rArith .add .i64 (rArith .mul .i64 (2 : Int) x.2.1) (1 : Int)) (1 : Int)))) then ((some (lt (rGet default x.1 (rArith .add .i64 k.2.1 x.2.1)) (rGet default x.1 (rArith .add .i64 k.2.1 (rArith .add .i64 (rArith .add .i64 (rArith .mul .i64 (2 : Int) x.2.1) (1 : Int)) (1 : Int)))), ())).bind fun y1 => (bif (Bool.not y1.1) then some (.inr (.inr (.inl (x.1, ())))) else (bif (rInR x.1 (rArith .add .i64 k.2.1 (rArith .add .i64 (rArith .add .i64 (rArith .mul .i64 (2 : Int) x.2.1) (1 : Int)) (1 : Int)))) then (bif (rInR x.1 (rArith .add .i64 k.2.1 x.2.1)) then (bif (rInR x.1 (rArith .add .i64 k.2.1 x.2.1)) then (lets (rPut x.1 (rArith .add .i64 k.2.1 x.2.1) (rGet default x.1 (rArith .add .i64 k.2.1 (rArith .add .i64 (rArith .add .i64 (rArith .mul .i64 (2 : Int) x.2.1) (1 : Int)) (1 : Int))))) fun v2 => (bif (rInR v2 (rArith .add .i64 k.2.1 (rArith .add .i64 (rArith .add .i64 (rArith .mul .i64 (2 : Int) x.2.1) (1 : Int)) (1 : Int)))) then (lets (rPut v2 (rArith .add .i64 k.2.1 (rArith .add .i64 (rArith .add .i64 (rArith .mul .i64 (2 : Int) x.2.1) (1 : Int)) (1 : Int))) (rGet default x.1 (rArith .add .i64 k.2.1 x.2.1))) fun v3 => some (.inl (v3, (rArith .add .i64 (rArith .add .i64 (rArith .mul .i64 (2 : Int) x.2.1) (1 : Int)) (1 : Int)), ()))) else none)) else none) else none) else none))) else none) else none) else (bif (rInR x.1 (rArith .add .i64 k.2.1 x.2.1)) then (bif (rInR x.1 (rArith .add .i64 k.2.1 (rArith .add .i64 (rArith .mul .i64 (2 : Int) x.2.1) (1 : Int)))) then ((some (lt (rGet default x.1 (rArith .add .i64 k.2.1 x.2.1)) (rGet default x.1 (rArith .add .i64 k.2.1 (rArith .add .i64 (rArith .mul .i64 (2 : Int) x.2.1) (1 : Int)))), ())).bind fun y1 => (bif (Bool.not y1.1) then some (.inr (.inr (.inl (x.1, ())))) else (bif (rInR x.1 (rArith .add .i64 k.2.1 (rArith .add .i64 (rArith .mul .i64 (2 : Int) x.2.1) (1 : Int)))) then (bif (rInR x.1 (rArith .add .i64 k.2.1 x.2.1)) then (bif (rInR x.1 (rArith .add .i64 k.2.1 x.2.1)) then (bif (rInR (rPut x.1 (rArith .add .i64 k.2.1 x.2.1) (rGet default x.1 (rArith .add .i64 k.2.1 (rArith .add .i64 (rArith .mul .i64 (2 : Int) x.2.1) (1 : Int))))) (rArith .add .i64 k.2.1 (rArith .add .i64 (rArith .mul .i64 (2 : Int) x.2.1) (1 : Int)))) then (lets (rPut (rPut x.1 (rArith .add .i64 k.2.1 x.2.1) (rGet default x.1 (rArith .add .i64 k.2.1 (rArith .add .i64 (rArith .mul .i64 (2 : Int) x.2.1) (1 : Int))))) (rArith .add .i64 k.2.1 (rArith .add .i64 (rArith .mul .i64 (2 : Int) x.2.1) (1 : Int))) (rGet default x.1 (rArith .add .i64 k.2.1 x.2.1))) fun v2 => some (.inl (v2, (rArith .add .i64 (rArith .mul .i64 (2 : Int) x.2.1) (1 : Int)), ()))) else none) else none) else none) else none))) else none) else none))) else none) else none) else (bif (rInR x.1 (rArith .add .i64 k.2.1 x.2.1)) then (bif (rInR x.1 (rArith .add .i64 k.2.1 (rArith .add .i64 (rArith .mul .i64 (2 : Int) x.2.1) (1 : Int)))) then ((some (lt (rGet default x.1 (rArith .add .i64 k.2.1 x.2.1)) (rGet default x.1 (rArith .add .i64 k.2.1 (rArith .add .i64 (rArith .mul .i64 (2 : Int) x.2.1) (1 : Int)))), ())).bind fun y0 => (bif (Bool.not y0.1) then some (.inr (.inr (.inl (x.1, ())))) else (bif (rInR x.1 (rArith .add .i64 k.2.1 (rArith .add .i64 (rArith .mul .i64 (2 : Int) x.2.1) (1 : Int)))) then (bif (rInR x.1 (rArith .add .i64 k.2.1 x.2.1)) then (bif (rInR x.1 (rArith .add .i64 k.2.1 x.2.1)) then (bif (rInR (rPut x.1 (rArith .add .i64 k.2.1 x.2.1) (rGet default x.1 (rArith .add .i64 k.2.1 (rArith .add .i64 (rArith .mul .i64 (2 : Int) x.2.1) (1 : Int))))) (rArith .add .i64 k.2.1 (rArith .add .i64 (rArith .mul .i64 (2 : Int) x.2.1) (1 : Int)))) then (lets (rPut (rPut x.1 (rArith .add .i64 k.2.1 x.2.1) (rGet default x.1 (rArith .add .i64 k.2.1 (rArith .add .i64 (rArith .mul .i64 (2 : Int) x.2.1) (1 : Int))))) (rArith .add .i64 k.2.1 (rArith .add .i64 (rArith .mul .i64 (2 : Int) x.2.1) (1 : Int))) (rGet default x.1 (rArith .add .i64 k.2.1 x.2.1))) fun v1 => some (.inl (v1, (rArith .add .i64 (rArith .mul .i64 (2 : Int) x.2.1) (1 : Int)), ()))) else none) else none) else none) else none))) else none) else none)))
def g_siftDown_l0 {α : Type} [Inhabited α] (lt : α → α → Bool) (k : Int × Int × Unit) (x : (List α) × Int × Unit) : Option ((List α) × Unit ⊕ ((List α) × Unit ⊕ Empty)) := iter (g_siftDown_b0 lt k) big x
def g_siftDown {α : Type} [Inhabited α] (lt : α → α → Bool) (a0 : (List α)) (a1 : Int) (a2 : Int) (a3 : Int) : Option ((List α) × Unit) :=
  ((g_siftDown_l0 lt (a2, a3, ()) (a0, a1, ())).bind fun q0 => (Sum.elim (fun y1 => some (y1.1, ())) (fun q2 => (Sum.elim (fun y3 => some (y3.1, ())) (fun q4 => (Empty.elim q4)) q2)) q0))
def g_heapSort_b0 {α : Type} [Inhabited α] (lt : α → α → Bool) (k : Int × Int × Int × Unit) (x : (List α) × Int × Unit) : Option (((List α) × Int × Unit) ⊕ ((List α) × Unit ⊕ Empty)) :=
  (bif (rCmp .geq x.2.1 (0 : Int)) then ((g_siftDown lt x.1 x.2.1 k.2.2.1 k.1).bind fun y0 => some (.inl (y0.1, (rArith .sub .i64 x.2.1 (1 : Int)), ()))) else some (.inr (.inl (x.1, ()))))
def g_heapSort_l0 {α : Type} [Inhabited α] (lt : α → α → Bool) (k : Int × Int × Int × Unit) (x : (List α) × Int × Unit) : Option ((List α) × Unit ⊕ Empty) := iter (g_heapSort_b0 lt k) big x
def g_heapSort_b2 {α : Type} [Inhabited α] (lt : α → α → Bool) (k : Int × Int × Unit) (x : (List α) × Int × Unit) : Option (((List α) × Int × Unit) ⊕ ((List α) × Unit ⊕ Empty)) :=
  (bif (rCmp .geq x.2.1 (0 : Int)) then (bif (rInR x.1 (rArith .add .i64 k.1 x.2.1)) then (bif (rInR x.1 k.1) then (bif (rInR x.1 k.1) then (bif (rInR (rPut x.1 k.1 (rGet default x.1 (rArith .add .i64 k.1 x.2.1))) (rArith .add .i64 k.1 x.2.1)) then ((g_siftDown lt (rPut (rPut x.1 k.1 (rGet default x.1 (rArith .add .i64 k.1 x.2.1))) (rArith .add .i64 k.1 x.2.1) (rGet default x.1 k.1)) k.2.1 x.2.1 k.1).bind fun y0 => some (.inl (y0.1, (rArith .sub .i64 x.2.1 (1 : Int)), ()))) else none) else none) else none) else none) else some (.inr (.inl (x.1, ()))))
def g_heapSort_l2 {α : Type} [Inhabited α] (lt : α → α → Bool) (k : Int × Int × Unit) (x : (List α) × Int × Unit) : Option ((List α) × Unit ⊕ Empty) := iter (g_heapSort_b2 lt k) big x
def g_heapSort {α : Type} [Inhabited α] (lt : α → α → Bool) (a0 : (List α)) (a1 : Int) (a2 : Int) : Option ((List α) × Unit) :=
  (bif (rIsZero (2 : Int)) then none else ((g_heapSort_l0 lt (a1, (0 : Int), (rArith .sub .i64 a2 a1), ()) (a0, (rArith .quo .i64 (rArith .sub .i64 (rArith .sub .i64 a2 a1) (1 : Int)) (2 : Int)), ())).bind fun q0 => (Sum.elim (fun y1 => ((g_heapSort_l2 lt (a1, (0 : Int), ()) (y1.1, (rArith .sub .i64 (rArith .sub .i64 a2 a1) (1 : Int)), ())).bind fun q2 => (Sum.elim (fun y3 => some (y3.1, ())) (fun q4 => (Empty.elim q4)) q2))) (fun q2 => (Empty.elim q2)) q0)))
def g_breakPatterns_b0 {α : Type} [Inhabited α] (lt : α → α → Bool) (k : Int × Int × Int × Unit) (x : (List α) × Int × Int × Unit) : Option (((List α) × Int × Int × Unit) ⊕ ((List α) × Unit ⊕ Empty)) :=
  (bif (rIsZero (4 : Int)) then none else (bif (rCmp .leq x.2.2.1 (rArith .add .i64 (rArith .add .i64 k.1 (rArith .mul .i64 (rArith .quo .i64 k.2.1 (4 : Int)) (2 : Int))) (1 : Int))) then ((__slices_xorshift__Next x.2.1).bind fun y0 => (bif (rCmp .geq (rConv .i64 (rArith .and .u64 y0.1 (rArith .sub .u64 k.2.2.1 (1 : Int)))) k.2.1) then (bif (rInR x.1 (rArith .add .i64 k.1 (rArith .sub .i64 (rConv .i64 (rArith .and .u64 y0.1 (rArith .sub .u64 k.2.2.1 (1 : Int)))) k.2.1))) then (bif (rInR x.1 x.2.2.1) then (bif (rInR x.1 x.2.2.1) then (bif (rInR (rPut x.1 x.2.2.1 (rGet default x.1 (rArith .add .i64 k.1 (rArith .sub .i64 (rConv .i64 (rArith .and .u64 y0.1 (rArith .sub .u64 k.2.2.1 (1 : Int)))) k.2.1)))) (rArith .add .i64 k.1 (rArith .sub .i64 (rConv .i64 (rArith .and .u64 y0.1 (rArith .sub .u64 k.2.2.1 (1 : Int)))) k.2.1))) then (lets (rPut (rPut x.1 x.2.2.1 (rGet default x.1 (rArith .add .i64 k.1 (rArith .sub .i64 (rConv .i64 (rArith .and .u64 y0.1 (rArith .sub .u64 k.2.2.1 (1 : Int)))) k.2.1)))) (rArith .add .i64 k.1 (rArith .sub .i64 (rConv .i64 (rArith .and .u64 y0.1 (rArith .sub .u64 k.2.2.1 (1 : Int)))) k.2.1)) (rGet default x.1 x.2.2.1)) fun v1 => some (.inl (v1, y0.2.1, (rArith .add .i64 x.2.2.1 (1 : Int)), ()))) else none) else none) else none) else none) else (bif (rInR x.1 (rArith .add .i64 k.1 (rConv .i64 (rArith .and .u64 y0.1 (rArith .sub .u64 k.2.2.1 (1 : Int)))))) then (bif (rInR x.1 x.2.2.1) then (bif (rInR x.1 x.2.2.1) then (bif (rInR (rPut x.1 x.2.2.1 (rGet default x.1 (rArith .add .i64 k.1 (rConv .i64 (rArith .and .u64 y0.1 (rArith .sub .u64 k.2.2.1 (1 : Int))))))) (rArith .add .i64 k.1 (rConv .i64 (rArith .and .u64 y0.1 (rArith .sub .u64 k.2.2.1 (1 : Int)))))) then (lets (rPut (rPut x.1 x.2.2.1 (rGet default x.1 (rArith .add .i64 k.1 (rConv .i64 (rArith .and .u64 y0.1 (rArith .sub .u64 k.2.2.1 (1 : Int))))))) (rArith .add .i64 k.1 (rConv .i64 (rArith .and .u64 y0.1 (rArith .sub .u64 k.2.2.1 (1 : Int))))) (rGet default x.1 x.2.2.1)) fun v1 => some (.inl (v1, y0.2.1, (rArith .add .i64 x.2.2.1 (1 : Int)), ()))) else none) else none) else none) else none))) else some (.inr (.inl (x.1, ())))))
def g_breakPatterns_l0 {α : Type} [Inhabited α] (lt : α → α → Bool) (k : Int × Int × Int × Unit) (x : (List α) × Int × Int × Unit) : Option ((List α) × Unit ⊕ Empty) := iter (g_breakPatterns_b0 lt k) big x
def g_breakPatterns {α : Type} [Inhabited α] (lt : α → α → Bool) (a0 : (List α)) (a1 : Int) (a2 : Int) : Option ((List α) × Unit) :=
  (bif (rCmp .geq (rArith .sub .i64 a2 a1) (8 : Int)) then ((slices_nextPowerOfTwo (rArith .sub .i64 a2 a1)).bind fun y0 => (bif (rIsZero (4 : Int)) then none else ((g_breakPatterns_l0 lt (a1, (rArith .sub .i64 a2 a1), y0.1, ()) (a0, (rConv .u64 (rArith .sub .i64 a2 a1)), (rArith .sub .i64 (rArith .add .i64 a1 (rArith .mul .i64 (rArith .quo .i64 (rArith .sub .i64 a2 a1) (4 : Int)) (2 : Int))) (1 : Int)), ())).bind fun q1 => (Sum.elim (fun y2 => some (y2.1, ())) (fun q3 => (Empty.elim q3)) q1)))) else some (a0, ()))
def g_order2 {α : Type} [Inhabited α] (lt : α → α → Bool) (a0 : (List α)) (a1 : Int) (a2 : Int) (a3 : Int) : Option (Int × Int × Int × Unit) :=
  (bif (rInR a0 a2) then (bif (rInR a0 a1) then ((some (lt (rGet default a0 a2) (rGet default a0 a1), ())).bind fun y0 => (bif y0.1 then some (a2, a1, (rArith .add .i64 a3 (1 : Int)), ()) else some (a1, a2, a3, ()))) else none) else none)
def g_median {α : Type} [Inhabited α] (lt : α → α → Bool) (a0 : (List α)) (a1 : Int) (a2 : Int) (a3 : Int) (a4 : Int) : Option (Int × Int × Unit) :=
  ((g_order2 lt a0 a1 a2 a4).bind fun y0 => ((g_order2 lt a0 y0.2.1 a3 y0.2.2.1).bind fun y1 => ((g_order2 lt a0 y0.1 y1.1 y1.2.2.1).bind fun y2 => some (y2.2.1, y2.2.2.1, ()))))
def g_medianAdjacent {α : Type} [Inhabited α] (lt : α → α → Bool) (a0 : (List α)) (a1 : Int) (a2 : Int) : Option (Int × Int × Unit) :=
  ((g_median lt a0 (rArith .sub .i64 a1 (1 : Int)) a1 (rArith .add .i64 a1 (1 : Int)) a2).bind fun y0 => some (y0.1, y0.2.1, ()))
def g_choosePivot {α : Type} [Inhabited α] (lt : α → α → Bool) (a0 : (List α)) (a1 : Int) (a2 : Int) : Option (Int × Int × Unit) :=
  (bif (rIsZero (4 : Int)) then none else (bif (rIsZero (4 : Int)) then none else (bif (rIsZero (4 : Int)) then none else (bif (rCmp .geq (rArith .sub .i64 a2 a1) (8 : Int)) then (bif (rCmp .geq (rArith .sub .i64 a2 a1) (50 : Int)) then ((g_medianAdjacent lt a0 (rArith .add .i64 a1 (rArith .mul .i64 (rArith .quo .i64 (rArith .sub .i64 a2 a1) (4 : Int)) (1 : Int))) (0 : Int)).bind fun y0 => ((g_medianAdjacent lt a0 (rArith .add .i64 a1 (rArith .mul .i64 (rArith .quo .i64 (rArith .sub .i64 a2 a1) (4 : Int)) (2 : Int))) y0.2.1).bind fun y1 => ((g_medianAdjacent lt a0 (rArith .add .i64 a1 (rArith .mul .i64 (rArith .quo .i64 (rArith .sub .i64 a2 a1) (4 : Int)) (3 : Int))) y1.2.1).bind fun y2 => ((g_median lt a0 y0.1 y1.1 y2.1 y2.2.1).bind fun y3 => (bif (rCmp .eql y3.2.1 (0 : Int)) then some (y3.1, (1 : Int), ()) else (bif (rCmp .eql y3.2.1 (12 : Int)) then some (y3.1, (2 : Int), ()) else some (y3.1, (0 : Int), ()))))))) else ((g_median lt a0 (rArith .add .i64 a1 (rArith .mul .i64 (rArith .quo .i64 (rArith .sub .i64 a2 a1) (4 : Int)) (1 : Int))) (rArith .add .i64 a1 (rArith .mul .i64 (rArith .quo .i64 (rArith .sub .i64 a2 a1) (4 : Int)) (2 : Int))) (rArith .add .i64 a1 (rArith .mul .i64 (rArith .quo .i64 (rArith .sub .i64 a2 a1) (4 : Int)) (3 : Int))) (0 : Int)).bind fun y0 => (bif (rCmp .eql y0.2.1 (0 : Int)) then some (y0.1, (1 : Int), ()) else (bif (rCmp .eql y0.2.1 (12 : Int)) then some (y0.1, (2 : Int), ()) else some (y0.1, (0 : Int), ()))))) else (bif (rCmp .eql (0 : Int) (0 : Int)) then some ((rArith .add .i64 a1 (rArith .mul .i64 (rArith .quo .i64 (rArith .sub .i64 a2 a1) (4 : Int)) (2 : Int))), (1 : Int), ()) else (bif (rCmp .eql (0 : Int) (12 : Int)) then some ((rArith .add .i64 a1 (rArith .mul .i64 (rArith .quo .i64 (rArith .sub .i64 a2 a1) (4 : Int)) (2 : Int))), (2 : Int), ()) else some ((rArith .add .i64 a1 (rArith .mul .i64 (rArith .quo .i64 (rArith .sub .i64 a2 a1) (4 : Int)) (2 : Int))), (0 : Int), ())))))))
def g_reverseRange_b0 {α : Type} [Inhabited α] (lt : α → α → Bool) (k : Unit) (x : (List α) × Int × Int × Unit) : Option (((List α) × Int × Int × Unit) ⊕ ((List α) × Unit ⊕ Empty)) :=
  (bif (rCmp .lss x.2.1 x.2.2.1) then (bif (rInR x.1 x.2.2.1) then (bif (rInR x.1 x.2.1) then (bif (rInR x.1 x.2.1) then (bif (rInR (rPut x.1 x.2.1 (rGet default x.1 x.2.2.1)) x.2.2.1) then some (.inl ((rPut (rPut x.1 x.2.1 (rGet default x.1 x.2.2.1)) x.2.2.1 (rGet default x.1 x.2.1)), (rArith .add .i64 x.2.1 (1 : Int)), (rArith .sub .i64 x.2.2.1 (1 : Int)), ())) else none) else none) else none) else none) else some (.inr (.inl (x.1, ()))))
def g_reverseRange_l0 {α : Type} [Inhabited α] (lt : α → α → Bool) (k : Unit) (x : (List α) × Int × Int × Unit) : Option ((List α) × Unit ⊕ Empty) := iter (g_reverseRange_b0 lt k) big x
def g_reverseRange {α : Type} [Inhabited α] (lt : α → α → Bool) (a0 : (List α)) (a1 : Int) (a2 : Int) : Option ((List α) × Unit) :=
  ((g_reverseRange_l0 lt (()) (a0, a1, (rArith .sub .i64 a2 (1 : Int)), ())).bind fun q0 => (Sum.elim (fun y1 => some (y1.1, ())) (fun q2 => (Empty.elim q2)) q0))
def g_partialInsertionSort_b2 {α : Type} [Inhabited α] (lt : α → α → Bool) (k : Int × Int × Int × Unit) (x : (List α) × Int × Unit) : Option (((List α) × Int × Unit) ⊕ ((List α) × Int × Unit ⊕ Empty)) :=
  (bif (rCmp .lss x.2.1 k.2.1) then (bif (rInR x.1 x.2.1) then (bif (rInR x.1 (rArith .sub .i64 x.2.1 (1 : Int))) then ((some (lt (rGet default x.1 x.2.1) (rGet default x.1 (rArith .sub .i64 x.2.1 (1 : Int))), ())).bind fun y0 => (bif (Bool.not y0.1) then some (.inl (x.1, (rArith .add .i64 x.2.1 (1 : Int)), ())) else some (.inr (.inl (x.1, x.2.1, ()))))) else none) else none) else some (.inr (.inl (x.1, x.2.1, ()))))
def g_partialInsertionSort_l2 {α : Type} [Inhabited α] (lt : α → α → Bool) (k : Int × Int × Int × Unit) (x : (List α) × Int × Unit) : Option ((List α) × Int × Unit ⊕ Empty) := iter (g_partialInsertionSort_b2 lt k) big x
def g_partialInsertionSort_b4 {α : Type} [Inhabited α] (lt : α → α → Bool) (k : Int × Int × Int × Int × Unit) (x : (List α) × Int × Unit) : Option (((List α) × Int × Unit) ⊕ ((List α) × Unit ⊕ Empty)) :=
  (bif (rCmp .geq x.2.1 (1 : Int)) then (bif (rInR x.1 x.2.1) then (bif (rInR x.1 (rArith .sub .i64 x.2.1 (1 : Int))) then ((some (lt (rGet default x.1 x.2.1) (rGet default x.1 (rArith .sub .i64 x.2.1 (1 : Int))), ())).bind fun y0 => (bif (Bool.not y0.1) then some (.inr (.inl (x.1, ()))) else (bif (rInR x.1 (rArith .sub .i64 x.2.1 (1 : Int))) then (bif (rInR x.1 x.2.1) then (bif (rInR x.1 x.2.1) then (bif (rInR (rPut x.1 x.2.1 (rGet default x.1 (rArith .sub .i64 x.2.1 (1 : Int)))) (rArith .sub .i64 x.2.1 (1 : Int))) then some (.inl ((rPut (rPut x.1 x.2.1 (rGet default x.1 (rArith .sub .i64 x.2.1 (1 : Int)))) (rArith .sub .i64 x.2.1 (1 : Int)) (rGet default x.1 x.2.1)), (rArith .sub .i64 x.2.1 (1 : Int)), ())) else none) else none) else none) else none))) else none) else none) else some (.inr (.inl (x.1, ()))))
def g_partialInsertionSort_l4 {α : Type} [Inhabited α] (lt : α → α → Bool) (k : Int × Int × Int × Int × Unit) (x : (List α) × Int × Unit) : Option ((List α) × Unit ⊕ Empty) := iter (g_partialInsertionSort_b4 lt k) big x
def g_partialInsertionSort_b6 {α : Type} [Inhabited α] (lt : α → α → Bool) (k : Int × Int × Int × Int × Unit) (x : (List α) × Int × Unit) : Option (((List α) × Int × Unit) ⊕ ((List α) × Unit ⊕ Empty)) :=
  (bif (rCmp .lss x.2.1 k.2.1) then (bif (rInR x.1 x.2.1) then (bif (rInR x.1 (rArith .sub .i64 x.2.1 (1 : Int))) then ((some (lt (rGet default x.1 x.2.1) (rGet default x.1 (rArith .sub .i64 x.2.1 (1 : Int))), ())).bind fun y0 => (bif (Bool.not y0.1) then some (.inr (.inl (x.1, ()))) else (bif (rInR x.1 (rArith .sub .i64 x.2.1 (1 : Int))) then (bif (rInR x.1 x.2.1) then (bif (rInR x.1 x.2.1) then (bif (rInR (rPut x.1 x.2.1 (rGet default x.1 (rArith .sub .i64 x.2.1 (1 : Int)))) (rArith .sub .i64 x.2.1 (1 : Int))) then some (.inl ((rPut (rPut x.1 x.2.1 (rGet default x.1 (rArith .sub .i64 x.2.1 (1 : Int)))) (rArith .sub .i64 x.2.1 (1 : Int)) (rGet default x.1 x.2.1)), (rArith .add .i64 x.2.1 (1 : Int)), ())) else none) else none) else none) else none))) else none) else none) else some (.inr (.inl (x.1, ()))))
def g_partialInsertionSort_l6 {α : Type} [Inhabited α] (lt : α → α → Bool) (k : Int × Int × Int × Int × Unit) (x : (List α) × Int × Unit) : Option ((List α) × Unit ⊕ Empty) := iter (g_partialInsertionSort_b6 lt k) big x
def g_partialInsertionSort_b0 {α : Type} [Inhabited α] (lt : α → α → Bool) (k : Int × Int × Unit) (x : (List α) × Int × Int × Unit) : Option (((List α) × Int × Int × Unit) ⊕ ((List α) × Bool × Unit ⊕ ((List α) × Unit ⊕ Empty))) :=
  (bif (rCmp .lss x.2.2.1 (5 : Int)) then ((g_partialInsertionSort_l2 lt (k.1, k.2.1, x.2.2.1, ()) (x.1, x.2.1, ())).bind fun q0 => (Sum.elim (fun y1 => (bif (rCmp .eql y1.2.1 k.2.1) then some (.inr (.inl (y1.1, true, ()))) else (bif (rCmp .lss (rArith .sub .i64 k.2.1 k.1) (50 : Int)) then some (.inr (.inl (y1.1, false, ()))) else (bif (rInR y1.1 (rArith .sub .i64 y1.2.1 (1 : Int))) then (bif (rInR y1.1 y1.2.1) then (bif (rInR y1.1 y1.2.1) then (bif (rInR (rPut y1.1 y1.2.1 (rGet default y1.1 (rArith .sub .i64 y1.2.1 (1 : Int)))) (rArith .sub .i64 y1.2.1 (1 : Int))) then (bif (rCmp .geq (rArith .sub .i64 y1.2.1 k.1) (2 : Int)) then ((g_partialInsertionSort_l4 lt (k.1, k.2.1, y1.2.1, x.2.2.1, ()) ((rPut (rPut y1.1 y1.2.1 (rGet default y1.1 (rArith .sub .i64 y1.2.1 (1 : Int)))) (rArith .sub .i64 y1.2.1 (1 : Int)) (rGet default y1.1 y1.2.1)), (rArith .sub .i64 y1.2.1 (1 : Int)), ())).bind fun q2 => (Sum.elim (fun y3 => (bif (rCmp .geq (rArith .sub .i64 k.2.1 y1.2.1) (2 : Int)) then ((g_partialInsertionSort_l6 lt (k.1, k.2.1, y1.2.1, x.2.2.1, ()) (y3.1, (rArith .add .i64 y1.2.1 (1 : Int)), ())).bind fun q4 => (Sum.elim (fun y5 => some (.inl (y5.1, y1.2.1, (rArith .add .i64 x.2.2.1 (1 : Int)), ()))) (fun q6 => (Empty.elim q6)) q4)) else some (.inl (y3.1, y1.2.1, (rArith .add .i64 x.2.2.1 (1 : Int)), ())))) (fun q4 => (Empty.elim q4)) q2)) else (bif (rCmp .geq (rArith .sub .i64 k.2.1 y1.2.1) (2 : Int)) then ((g_partialInsertionSort_l6 lt (k.1, k.2.1, y1.2.1, x.2.2.1, ()) ((rPut (rPut y1.1 y1.2.1 (rGet default y1.1 (rArith .sub .i64 y1.2.1 (1 : Int)))) (rArith .sub .i64 y1.2.1 (1 : Int)) (rGet default y1.1 y1.2.1)), (rArith .add .i64 y1.2.1 (1 : Int)), ())).bind fun q2 => (Sum.elim (fun y3 => some (.inl (y3.1, y1.2.1, (rArith .add .i64 x.2.2.1 (1 : Int)), ()))) (fun q4 => (Empty.elim q4)) q2)) else some (.inl ((rPut (rPut y1.1 y1.2.1 (rGet default y1.1 (rArith .sub .i64 y1.2.1 (1 : Int)))) (rArith .sub .i64 y1.2.1 (1 : Int)) (rGet default y1.1 y1.2.1)), y1.2.1, (rArith .add .i64 x.2.2.1 (1 : Int)), ())))) else none) else none) else none) else none)))) (fun q2 => (Empty.elim q2)) q0)) else some (.inr (.inr (.inl (x.1, ())))))
def g_partialInsertionSort_l0 {α : Type} [Inhabited α] (lt : α → α → Bool) (k : Int × Int × Unit) (x : (List α) × Int × Int × Unit) : Option ((List α) × Bool × Unit ⊕ ((List α) × Unit ⊕ Empty)) := iter (g_partialInsertionSort_b0 lt k) big x
def g_partialInsertionSort {α : Type} [Inhabited α] (lt : α → α → Bool) (a0 : (List α)) (a1 : Int) (a2 : Int) : Option (Bool × (List α) × Unit) :=
  ((g_partialInsertionSort_l0 lt (a1, a2, ()) (a0, (rArith .add .i64 a1 (1 : Int)), (0 : Int), ())).bind fun q0 => (Sum.elim (fun y1 => some (y1.2.1, y1.1, ())) (fun q2 => (Sum.elim (fun y3 => some (false, y3.1, ())) (fun q4 => (Empty.elim q4)) q2)) q0))
def g_partitionEqual_b2 {α : Type} [Inhabited α] (lt : α → α → Bool) (k : Int × Int × Unit) (x : (List α) × Int × Unit) : Option (((List α) × Int × Unit) ⊕ ((List α) × Int × Unit ⊕ Empty)) :=
  (bif (rCmp .leq x.2.1 k.2.1) then (bif (rInR x.1 k.1) then (bif (rInR x.1 x.2.1) then ((some (lt (rGet default x.1 k.1) (rGet default x.1 x.2.1), ())).bind fun y0 => (bif (Bool.not y0.1) then some (.inl (x.1, (rArith .add .i64 x.2.1 (1 : Int)), ())) else some (.inr (.inl (x.1, x.2.1, ()))))) else none) else none) else some (.inr (.inl (x.1, x.2.1, ()))))
def g_partitionEqual_l2 {α : Type} [Inhabited α] (lt : α → α → Bool) (k : Int × Int × Unit) (x : (List α) × Int × Unit) : Option ((List α) × Int × Unit ⊕ Empty) := iter (g_partitionEqual_b2 lt k) big x
def g_partitionEqual_b4 {α : Type} [Inhabited α] (lt : α → α → Bool) (k : Int × Int × Unit) (x : (List α) × Int × Unit) : Option (((List α) × Int × Unit) ⊕ ((List α) × Int × Unit ⊕ Empty)) :=
  (bif (rCmp .leq k.2.1 x.2.1) then (bif (rInR x.1 k.1) then (bif (rInR x.1 x.2.1) then ((some (lt (rGet default x.1 k.1) (rGet default x.1 x.2.1), ())).bind fun y0 => (bif y0.1 then some (.inl (x.1, (rArith .sub .i64 x.2.1 (1 : Int)), ())) else some (.inr (.inl (x.1, x.2.1, ()))))) else none) else none) else some (.inr (.inl (x.1, x.2.1, ()))))
def g_partitionEqual_l4 {α : Type} [Inhabited α] (lt : α → α → Bool) (k : Int × Int × Unit) (x : (List α) × Int × Unit) : Option ((List α) × Int × Unit ⊕ Empty) := iter (g_partitionEqual_b4 lt k) big x
def g_partitionEqual_b0 {α : Type} [Inhabited α] (lt : α → α → Bool) (k : Int × Unit) (x : (List α) × Int × Int × Unit) : Option (((List α) × Int × Int × Unit) ⊕ ((List α) × Int × Unit ⊕ Empty)) :=
  ((g_partitionEqual_l2 lt (k.1, x.2.2.1, ()) (x.1, x.2.1, ())).bind fun q0 => (Sum.elim (fun y1 => ((g_partitionEqual_l4 lt (k.1, y1.2.1, ()) (y1.1, x.2.2.1, ())).bind fun q2 => (Sum.elim (fun y3 => (bif (rCmp .gtr y1.2.1 y3.2.1) then some (.inr (.inl (y3.1, y1.2.1, ()))) else (bif (rInR y3.1 y3.2.1) then (bif (rInR y3.1 y1.2.1) then (bif (rInR y3.1 y1.2.1) then (bif (rInR (rPut y3.1 y1.2.1 (rGet default y3.1 y3.2.1)) y3.2.1) then some (.inl ((rPut (rPut y3.1 y1.2.1 (rGet default y3.1 y3.2.1)) y3.2.1 (rGet default y3.1 y1.2.1)), (rArith .add .i64 y1.2.1 (1 : Int)), (rArith .sub .i64 y3.2.1 (1 : Int)), ())) else none) else none) else none) else none))) (fun q4 => (Empty.elim q4)) q2))) (fun q2 => (Empty.elim q2)) q0))
def g_partitionEqual_l0 {α : Type} [Inhabited α] (lt : α → α → Bool) (k : Int × Unit) (x : (List α) × Int × Int × Unit) : Option ((List α) × Int × Unit ⊕ Empty) := iter (g_partitionEqual_b0 lt k) big x
def g_partitionEqual {α : Type} [Inhabited α] (lt : α → α → Bool) (a0 : (List α)) (a1 : Int) (a2 : Int) (a3 : Int) : Option (Int × (List α) × Unit) :=
  (bif (rInR a0 a3) then (bif (rInR a0 a1) then (bif (rInR a0 a1) then (bif (rInR (rPut a0 a1 (rGet default a0 a3)) a3) then ((g_partitionEqual_l0 lt (a1, ()) ((rPut (rPut a0 a1 (rGet default a0 a3)) a3 (rGet default a0 a1)), (rArith .add .i64 a1 (1 : Int)), (rArith .sub .i64 a2 (1 : Int)), ())).bind fun q0 => (Sum.elim (fun y1 => some (y1.2.1, y1.1, ())) (fun q2 => (Empty.elim q2)) q0)) else none) else none) else none) else none)
def g_partition_b0 {α : Type} [Inhabited α] (lt : α → α → Bool) (k : Int × Int × Unit) (x : (List α) × Int × Unit) : Option (((List α) × Int × Unit) ⊕ ((List α) × Int × Unit ⊕ Empty)) :=
  (bif (rCmp .leq x.2.1 k.2.1) then (bif (rInR x.1 x.2.1) then (bif (rInR x.1 k.1) then ((some (lt (rGet default x.1 x.2.1) (rGet default x.1 k.1), ())).bind fun y0 => (bif y0.1 then some (.inl (x.1, (rArith .add .i64 x.2.1 (1 : Int)), ())) else some (.inr (.inl (x.1, x.2.1, ()))))) else none) else none) else some (.inr (.inl (x.1, x.2.1, ()))))
def g_partition_l0 {α : Type} [Inhabited α] (lt : α → α → Bool) (k : Int × Int × Unit) (x : (List α) × Int × Unit) : Option ((List α) × Int × Unit ⊕ Empty) := iter (g_partition_b0 lt k) big x
def g_partition_b2 {α : Type} [Inhabited α] (lt : α → α → Bool) (k : Int × Int × Unit) (x : (List α) × Int × Unit) : Option (((List α) × Int × Unit) ⊕ ((List α) × Int × Unit ⊕ Empty)) :=
  (bif (rCmp .leq k.2.1 x.2.1) then (bif (rInR x.1 x.2.1) then (bif (rInR x.1 k.1) then ((some (lt (rGet default x.1 x.2.1) (rGet default x.1 k.1), ())).bind fun y0 => (bif (Bool.not y0.1) then some (.inl (x.1, (rArith .sub .i64 x.2.1 (1 : Int)), ())) else some (.inr (.inl (x.1, x.2.1, ()))))) else none) else none) else some (.inr (.inl (x.1, x.2.1, ()))))
def g_partition_l2 {α : Type} [Inhabited α] (lt : α → α → Bool) (k : Int × Int × Unit) (x : (List α) × Int × Unit) : Option ((List α) × Int × Unit ⊕ Empty) := iter (g_partition_b2 lt k) big x
def g_partition_b6 {α : Type} [Inhabited α] (lt : α → α → Bool) (k : Int × Int × Unit) (x : (List α) × Int × Unit) : Option (((List α) × Int × Unit) ⊕ ((List α) × Int × Unit ⊕ Empty)) :=
  (bif (rCmp .leq x.2.1 k.2.1) then (bif (rInR x.1 x.2.1) then (bif (rInR x.1 k.1) then ((some (lt (rGet default x.1 x.2.1) (rGet default x.1 k.1), ())).bind fun y0 => (bif y0.1 then some (.inl (x.1, (rArith .add .i64 x.2.1 (1 : Int)), ())) else some (.inr (.inl (x.1, x.2.1, ()))))) else none) else none) else some (.inr (.inl (x.1, x.2.1, ()))))
def g_partition_l6 {α : Type} [Inhabited α] (lt : α → α → Bool) (k : Int × Int × Unit) (x : (List α) × Int × Unit) : Option ((List α) × Int × Unit ⊕ Empty) := iter (g_partition_b6 lt k) big x
def g_partition_b8 {α : Type} [Inhabited α] (lt : α → α → Bool) (k : Int × Int × Unit) (x : (List α) × Int × Unit) : Option (((List α) × Int × Unit) ⊕ ((List α) × Int × Unit ⊕ Empty)) :=
  (bif (rCmp .leq k.2.1 x.2.1) then (bif (rInR x.1 x.2.1) then (bif (rInR x.1 k.1) then ((some (lt (rGet default x.1 x.2.1) (rGet default x.1 k.1), ())).bind fun y0 => (bif (Bool.not y0.1) then some (.inl (x.1, (rArith .sub .i64 x.2.1 (1 : Int)), ())) else some (.inr (.inl (x.1, x.2.1, ()))))) else none) else none) else some (.inr (.inl (x.1, x.2.1, ()))))
def g_partition_l8 {α : Type} [Inhabited α] (lt : α → α → Bool) (k : Int × Int × Unit) (x : (List α) × Int × Unit) : Option ((List α) × Int × Unit ⊕ Empty) := iter (g_partition_b8 lt k) big x
def g_partition_b4 {α : Type} [Inhabited α] (lt : α → α → Bool) (k : Int × Unit) (x : (List α) × Int × Int × Unit) : Option (((List α) × Int × Int × Unit) ⊕ ((List α) × Int × Unit ⊕ Empty)) :=
  ((g_partition_l6 lt (k.1, x.2.2.1, ()) (x.1, x.2.1, ())).bind fun q0 => (Sum.elim (fun y1 => ((g_partition_l8 lt (k.1, y1.2.1, ()) (y1.1, x.2.2.1, ())).bind fun q2 => (Sum.elim (fun y3 => (bif (rCmp .gtr y1.2.1 y3.2.1) then some (.inr (.inl (y3.1, y3.2.1, ()))) else (bif (rInR y3.1 y3.2.1) then (bif (rInR y3.1 y1.2.1) then (bif (rInR y3.1 y1.2.1) then (bif (rInR (rPut y3.1 y1.2.1 (rGet default y3.1 y3.2.1)) y3.2.1) then some (.inl ((rPut (rPut y3.1 y1.2.1 (rGet default y3.1 y3.2.1)) y3.2.1 (rGet default y3.1 y1.2.1)), (rArith .add .i64 y1.2.1 (1 : Int)), (rArith .sub .i64 y3.2.1 (1 : Int)), ())) else none) else none) else none) else none))) (fun q4 => (Empty.elim q4)) q2))) (fun q2 => (Empty.elim q2)) q0))
def g_partition_l4 {α : Type} [Inhabited α] (lt : α → α → Bool) (k : Int × Unit) (x : (List α) × Int × Int × Unit) : Option ((List α) × Int × Unit ⊕ Empty) := iter (g_partition_b4 lt k) big x
def g_partition {α : Type} [Inhabited α] (lt : α → α → Bool) (a0 : (List α)) (a1 : Int) (a2 : Int) (a3 : Int) : Option (Int × Bool × (List α) × Unit) :=
  (bif (rInR a0 a3) then (bif (rInR a0 a1) then (bif (rInR a0 a1) then (bif (rInR (rPut a0 a1 (rGet default a0 a3)) a3) then ((g_partition_l0 lt (a1, (rArith .sub .i64 a2 (1 : Int)), ()) ((rPut (rPut a0 a1 (rGet default a0 a3)) a3 (rGet default a0 a1)), (rArith .add .i64 a1 (1 : Int)), ())).bind fun q0 => (Sum.elim (fun y1 => ((g_partition_l2 lt (a1, y1.2.1, ()) (y1.1, (rArith .sub .i64 a2 (1 : Int)), ())).bind fun q2 => (Sum.elim (fun y3 => (bif (rCmp .gtr y1.2.1 y3.2.1) then (bif (rInR y3.1 a1) then (bif (rInR y3.1 y3.2.1) then (bif (rInR y3.1 y3.2.1) then (bif (rInR (rPut y3.1 y3.2.1 (rGet default y3.1 a1)) a1) then some (y3.2.1, true, (rPut (rPut y3.1 y3.2.1 (rGet default y3.1 a1)) a1 (rGet default y3.1 y3.2.1)), ()) else none) else none) else none) else none) else (bif (rInR y3.1 y3.2.1) then (bif (rInR y3.1 y1.2.1) then (bif (rInR y3.1 y1.2.1) then (bif (rInR (rPut y3.1 y1.2.1 (rGet default y3.1 y3.2.1)) y3.2.1) then ((g_partition_l4 lt (a1, ()) ((rPut (rPut y3.1 y1.2.1 (rGet default y3.1 y3.2.1)) y3.2.1 (rGet default y3.1 y1.2.1)), (rArith .add .i64 y1.2.1 (1 : Int)), (rArith .sub .i64 y3.2.1 (1 : Int)), ())).bind fun q4 => (Sum.elim (fun y5 => (bif (rInR y5.1 a1) then (bif (rInR y5.1 y5.2.1) then (bif (rInR y5.1 y5.2.1) then (bif (rInR (rPut y5.1 y5.2.1 (rGet default y5.1 a1)) a1) then some (y5.2.1, false, (rPut (rPut y5.1 y5.2.1 (rGet default y5.1 a1)) a1 (rGet default y5.1 y5.2.1)), ()) else none) else none) else none) else none)) (fun q6 => (Empty.elim q6)) q4)) else none) else none) else none) else none))) (fun q4 => (Empty.elim q4)) q2))) (fun q2 => (Empty.elim q2)) q0)) else none) else none) else none) else none)
def g_pdqsort_b0 {α : Type} [Inhabited α] (lt : α → α → Bool) (rec : (List α) → Int → Int → Int → Option ((List α) × Unit)) (k : Unit) (x : (List α) × Int × Int × Int × Bool × Bool × Unit) : Option (((List α) × Int × Int × Int × Bool × Bool × Unit) ⊕ ((List α) × Unit ⊕ Empty)) :=
  (bif (rCmp .leq (rArith .sub .i64 x.2.2.1 x.2.1) (12 : Int)) then ((g_insertionSort lt x.1 x.2.1 x.2.2.1).bind fun y0 => some (.inr (.inl (y0.1, ())))) else (bif (rCmp .eql x.2.2.2.1 (0 : Int)) then ((g_heapSort lt x.1 x.2.1 x.2.2.1).bind fun y0 => some (.inr (.inl (y0.1, ())))) else (bif (Bool.not x.2.2.2.2.1) then ((g_breakPatterns lt x.1 x.2.1 x.2.2.1).bind fun y0 => ((g_choosePivot lt y0.1 x.2.1 x.2.2.1).bind fun y1 => (bif (rCmp .eql y1.2.1 (2 : Int)) then ((g_reverseRange lt y0.1 x.2.1 x.2.2.1).bind fun y2 => (bif x.2.2.2.2.1 then (bif x.2.2.2.2.2.1 then (bif (rCmp .eql (1 : Int) (1 : Int)) then ((g_partialInsertionSort lt y2.1 x.2.1 x.2.2.1).bind fun y3 => (bif y3.1 then some (.inr (.inl (y3.2.1, ()))) else (bif (rCmp .gtr x.2.1 (0 : Int)) then (bif (rInR y3.2.1 (rArith .sub .i64 x.2.1 (1 : Int))) then (bif (rInR y3.2.1 (rArith .sub .i64 (rArith .sub .i64 x.2.2.1 (1 : Int)) (rArith .sub .i64 y1.1 x.2.1))) then ((some (lt (rGet default y3.2.1 (rArith .sub .i64 x.2.1 (1 : Int))) (rGet default y3.2.1 (rArith .sub .i64 (rArith .sub .i64 x.2.2.1 (1 : Int)) (rArith .sub .i64 y1.1 x.2.1))), ())).bind fun y4 => (bif (Bool.not y4.1) then ((g_partitionEqual lt y3.2.1 x.2.1 x.2.2.1 (rArith .sub .i64 (rArith .sub .i64 x.2.2.1 (1 : Int)) (rArith .sub .i64 y1.1 x.2.1))).bind fun y5 => some (.inl (y5.2.1, y5.1, x.2.2.1, (rArith .sub .i64 x.2.2.2.1 (1 : Int)), x.2.2.2.2.1, x.2.2.2.2.2.1, ()))) else ((g_partition lt y3.2.1 x.2.1 x.2.2.1 (rArith .sub .i64 (rArith .sub .i64 x.2.2.1 (1 : Int)) (rArith .sub .i64 y1.1 x.2.1))).bind fun y5 => (bif (rIsZero (8 : Int)) then none else (bif (rCmp .lss (rArith .sub .i64 y5.1 x.2.1) (rArith .sub .i64 x.2.2.1 y5.1)) then ((rec y5.2.2.1 x.2.1 y5.1 (rArith .sub .i64 x.2.2.2.1 (1 : Int))).bind fun y6 => some (.inl (y6.1, (rArith .add .i64 y5.1 (1 : Int)), x.2.2.1, (rArith .sub .i64 x.2.2.2.1 (1 : Int)), (rCmp .geq (rArith .sub .i64 y5.1 x.2.1) (rArith .quo .i64 (rArith .sub .i64 x.2.2.1 x.2.1) (8 : Int))), y5.2.1, ()))) else ((rec y5.2.2.1 (rArith .add .i64 y5.1 (1 : Int)) x.2.2.1 (rArith .sub .i64 x.2.2.2.1 (1 : Int))).bind fun y6 => some (.inl (y6.1, x.2.1, y5.1, (rArith .sub .i64 x.2.2.2.1 (1 : Int)), (rCmp .geq (rArith .sub .i64 x.2.2.1 y5.1) (rArith .quo .i64 (rArith .sub .i64 x.2.2.1 x.2.1) (8 : Int))), y5.2.1, ())))))))) else none) else none) else ((g_partition lt y3.2.1 x.2.1 x.2.2.1 (rArith .sub .i64 (rArith .sub .i64 x.2.2.1 (1 : Int)) (rArith .sub .i64 y1.1 x.2.1))).bind fun y4 => (bif (rIsZero (8 : Int)) then none else (bif (rCmp .lss (rArith .sub .i64 y4.1 x.2.1) (rArith .sub .i64 x.2.2.1 y4.1)) then ((rec y4.2.2.1 x.2.1 y4.1 (rArith .sub .i64 x.2.2.2.1 (1 : Int))).bind fun y5 => some (.inl (y5.1, (rArith .add .i64 y4.1 (1 : Int)), x.2.2.1, (rArith .sub .i64 x.2.2.2.1 (1 : Int)), (rCmp .geq (rArith .sub .i64 y4.1 x.2.1) (rArith .quo .i64 (rArith .sub .i64 x.2.2.1 x.2.1) (8 : Int))), y4.2.1, ()))) else ((rec y4.2.2.1 (rArith .add .i64 y4.1 (1 : Int)) x.2.2.1 (rArith .sub .i64 x.2.2.2.1 (1 : Int))).bind fun y5 => some (.inl (y5.1, x.2.1, y4.1, (rArith .sub .i64 x.2.2.2.1 (1 : Int)), (rCmp .geq (rArith .sub .i64 x.2.2.1 y4.1) (rArith .quo .i64 (rArith .sub .i64 x.2.2.1 x.2.1) (8 : Int))), y4.2.1, ()))))))))) else (bif (rCmp .gtr x.2.1 (0 : Int)) then (bif (rInR y2.1 (rArith .sub .i64 x.2.1 (1 : Int))) then (bif (rInR y2.1 (rArith .sub .i64 (rArith .sub .i64 x.2.2.1 (1 : Int)) (rArith .sub .i64 y1.1 x.2.1))) then ((some (lt (rGet default y2.1 (rArith .sub .i64 x.2.1 (1 : Int))) (rGet default y2.1 (rArith .sub .i64 (rArith .sub .i64 x.2.2.1 (1 : Int)) (rArith .sub .i64 y1.1 x.2.1))), ())).bind fun y3 => (bif (Bool.not y3.1) then ((g_partitionEqual lt y2.1 x.2.1 x.2.2.1 (rArith .sub .i64 (rArith .sub .i64 x.2.2.1 (1 : Int)) (rArith .sub .i64 y1.1 x.2.1))).bind fun y4 => some (.inl (y4.2.1, y4.1, x.2.2.1, (rArith .sub .i64 x.2.2.2.1 (1 : Int)), x.2.2.2.2.1, x.2.2.2.2.2.1, ()))) else ((g_partition lt y2.1 x.2.1 x.2.2.1 (rArith .sub .i64 (rArith .sub .i64 x.2.2.1 (1 : Int)) (rArith .sub .i64 y1.1 x.2.1))).bind fun y4 => (bif (rIsZero (8 : Int)) then none else (bif (rCmp .lss (rArith .sub .i64 y4.1 x.2.1) (rArith .sub .i64 x.2.2.1 y4.1)) then ((rec y4.2.2.1 x.2.1 y4.1 (rArith .sub .i64 x.2.2.2.1 (1 : Int))).bind fun y5 => some (.inl (y5.1, (rArith .add .i64 y4.1 (1 : Int)), x.2.2.1, (rArith .sub .i64 x.2.2.2.1 (1 : Int)), (rCmp .geq (rArith .sub .i64 y4.1 x.2.1) (rArith .quo .i64 (rArith .sub .i64 x.2.2.1 x.2.1) (8 : Int))), y4.2.1, ()))) else ((rec y4.2.2.1 (rArith .add .i64 y4.1 (1 : Int)) x.2.2.1 (rArith .sub .i64 x.2.2.2.1 (1 : Int))).bind fun y5 => some (.inl (y5.1, x.2.1, y4.1, (rArith .sub .i64 x.2.2.2.1 (1 : Int)), (rCmp .geq (rArith .sub .i64 x.2.2.1 y4.1) (rArith .quo .i64 (rArith .sub .i64 x.2.2.1 x.2.1) (8 : Int))), y4.2.1, ())))))))) else none) else none) else ((g_partition lt y2.1 x.2.1 x.2.2.1 (rArith .sub .i64 (rArith .sub .i64 x.2.2.1 (1 : Int)) (rArith .sub .i64 y1.1 x.2.1))).bind fun y3 => (bif (rIsZero (8 : Int)) then none else (bif (rCmp .lss (rArith .sub .i64 y3.1 x.2.1) (rArith .sub .i64 x.2.2.1 y3.1)) then ((rec y3.2.2.1 x.2.1 y3.1 (rArith .sub .i64 x.2.2.2.1 (1 : Int))).bind fun y4 => some (.inl (y4.1, (rArith .add .i64 y3.1 (1 : Int)), x.2.2.1, (rArith .sub .i64 x.2.2.2.1 (1 : Int)), (rCmp .geq (rArith .sub .i64 y3.1 x.2.1) (rArith .quo .i64 (rArith .sub .i64 x.2.2.1 x.2.1) (8 : Int))), y3.2.1, ()))) else ((rec y3.2.2.1 (rArith .add .i64 y3.1 (1 : Int)) x.2.2.1 (rArith .sub .i64 x.2.2.2.1 (1 : Int))).bind fun y4 => some (.inl (y4.1, x.2.1, y3.1, (rArith .sub .i64 x.2.2.2.1 (1 : Int)), (rCmp .geq (rArith .sub .i64 x.2.2.1 y3.1) (rArith .quo .i64 (rArith .sub .i64 x.2.2.1 x.2.1) (8 : Int))), y3.2.1, ())))))))) else (bif (rCmp .gtr x.2.1 (0 : Int)) then (bif (rInR y2.1 (rArith .sub .i64 x.2.1 (1 : Int))) then (bif (rInR y2.1 (rArith .sub .i64 (rArith .sub .i64 x.2.2.1 (1 : Int)) (rArith .sub .i64 y1.1 x.2.1))) then ((some (lt (rGet default y2.1 (rArith .sub .i64 x.2.1 (1 : Int))) (rGet default y2.1 (rArith .sub .i64 (rArith .sub .i64 x.2.2.1 (1 : Int)) (rArith .sub .i64 y1.1 x.2.1))), ())).bind fun y3 => (bif (Bool.not y3.1) then ((g_partitionEqual lt y2.1 x.2.1 x.2.2.1 (rArith .sub .i64 (rArith .sub .i64 x.2.2.1 (1 : Int)) (rArith .sub .i64 y1.1 x.2.1))).bind fun y4 => some (.inl (y4.2.1, y4.1, x.2.2.1, (rArith .sub .i64 x.2.2.2.1 (1 : Int)), x.2.2.2.2.1, x.2.2.2.2.2.1, ()))) else ((g_partition lt y2.1 x.2.1 x.2.2.1 (rArith .sub .i64 (rArith .sub .i64 x.2.2.1 (1 : Int)) (rArith .sub .i64 y1.1 x.2.1))).bind fun y4 => (bif (rIsZero (8 : Int)) then none else (bif (rCmp .lss (rArith .sub .i64 y4.1 x.2.1) (rArith .sub .i64 x.2.2.1 y4.1)) then ((rec y4.2.2.1 x.2.1 y4.1 (rArith .sub .i64 x.2.2.2.1 (1 : Int))).bind fun y5 => some (.inl (y5.1, (rArith .add .i64 y4.1 (1 : Int)), x.2.2.1, (rArith .sub .i64 x.2.2.2.1 (1 : Int)), (rCmp .geq (rArith .sub .i64 y4.1 x.2.1) (rArith .quo .i64 (rArith .sub .i64 x.2.2.1 x.2.1) (8 : Int))), y4.2.1, ()))) else ((rec y4.2.2.1 (rArith .add .i64 y4.1 (1 : Int)) x.2.2.1 (rArith .sub .i64 x.2.2.2.1 (1 : Int))).bind fun y5 => some (.inl (y5.1, x.2.1, y4.1, (rArith .sub .i64 x.2.2.2.1 (1 : Int)), (rCmp .geq (rArith .sub .i64 x.2.2.1 y4.1) (rArith .quo .i64 (rArith .sub .i64 x.2.2.1 x.2.1) (8 : Int))), y4.2.1, ())))))))) else none) else none) else ((g_partition lt y2.1 x.2.1 x.2.2.1 (rArith .sub .i64 (rArith .sub .i64 x.2.2.1 (1 : Int)) (rArith .sub .i64 y1.1 x.2.1))).bind fun y3 => (bif (rIsZero (8 : Int)) then none else (bif (rCmp .lss (rArith .sub .i64 y3.1 x.2.1) (rArith .sub .i64 x.2.2.1 y3.1)) then ((rec y3.2.2.1 x.2.1 y3.1 (rArith .sub .i64 x.2.2.2.1 (1 : Int))).bind fun y4 => some (.inl (y4.1, (rArith .add .i64 y3.1 (1 : Int)), x.2.2.1, (rArith .sub .i64 x.2.2.2.1 (1 : Int)), (rCmp .geq (rArith .sub .i64 y3.1 x.2.1) (rArith .quo .i64 (rArith .sub .i64 x.2.2.1 x.2.1) (8 : Int))), y3.2.1, ()))) else ((rec y3.2.2.1 (rArith .add .i64 y3.1 (1 : Int)) x.2.2.1 (rArith .sub .i64 x.2.2.2.1 (1 : Int))).bind fun y4 => some (.inl (y4.1, x.2.1, y3.1, (rArith .sub .i64 x.2.2.2.1 (1 : Int)), (rCmp .geq (rArith .sub .i64 x.2.2.1 y3.1) (rArith .quo .i64 (rArith .sub .i64 x.2.2.1 x.2.1) (8 : Int))), y3.2.1, ())))))))) else (bif (rCmp .gtr x.2.1 (0 : Int)) then (bif (rInR y2.1 (rArith .sub .i64 x.2.1 (1 : Int))) then (bif (rInR y2.1 (rArith .sub .i64 (rArith .sub .i64 x.2.2.1 (1 : Int)) (rArith .sub .i64 y1.1 x.2.1))) then ((some (lt (rGet default y2.1 (rArith .sub .i64 x.2.1 (1 : Int))) (rGet default y2.1 (rArith .sub .i64 (rArith .sub .i64 x.2.2.1 (1 : Int)) (rArith .sub .i64 y1.1 x.2.1))), ())).bind fun y3 => (bif (Bool.not y3.1) then ((g_partitionEqual lt y2.1 x.2.1 x.2.2.1 (rArith .sub .i64 (rArith .sub .i64 x.2.2.1 (1 : Int)) (rArith .sub .i64 y1.1 x.2.1))).bind fun y4 => some (.inl (y4.2.1, y4.1, x.2.2.1, (rArith .sub .i64 x.2.2.2.1 (1 : Int)), x.2.2.2.2.1, x.2.2.2.2.2.1, ()))) else ((g_partition lt y2.1 x.2.1 x.2.2.1 (rArith .sub .i64 (rArith .sub .i64 x.2.2.1 (1 : Int)) (rArith .sub .i64 y1.1 x.2.1))).bind fun y4 => (bif (rIsZero (8 : Int)) then none else (bif (rCmp .lss (rArith .sub .i64 y4.1 x.2.1) (rArith .sub .i64 x.2.2.1 y4.1)) then ((rec y4.2.2.1 x.2.1 y4.1 (rArith .sub .i64 x.2.2.2.1 (1 : Int))).bind fun y5 => some (.inl (y5.1, (rArith .add .i64 y4.1 (1 : Int)), x.2.2.1, (rArith .sub .i64 x.2.2.2.1 (1 : Int)), (rCmp .geq (rArith .sub .i64 y4.1 x.2.1) (rArith .quo .i64 (rArith .sub .i64 x.2.2.1 x.2.1) (8 : Int))), y4.2.1, ()))) else ((rec y4.2.2.1 (rArith .add .i64 y4.1 (1 : Int)) x.2.2.1 (rArith .sub .i64 x.2.2.2.1 (1 : Int))).bind fun y5 => some (.inl (y5.1, x.2.1, y4.1, (rArith .sub .i64 x.2.2.2.1 (1 : Int)), (rCmp .geq (rArith .sub .i64 x.2.2.1 y4.1) (rArith .quo .i64 (rArith .sub .i64 x.2.2.1 x.2.1) (8 : Int))), y4.2.1, ())))))))) else none) else none) else ((g_partition lt y2.1 x.2.1 x.2.2.1 (rArith .sub .i64 (rArith .sub .i64 x.2.2.1 (1 : Int)) (rArith .sub .i64 y1.1 x.2.1))).bind fun y3 => (bif (rIsZero (8 : Int)) then none else (bif (rCmp .lss (rArith .sub .i64 y3.1 x.2.1) (rArith .sub .i64 x.2.2.1 y3.1)) then ((rec y3.2.2.1 x.2.1 y3.1 (rArith .sub .i64 x.2.2.2.1 (1 : Int))).bind fun y4 => some (.inl (y4.1, (rArith .add .i64 y3.1 (1 : Int)), x.2.2.1, (rArith .sub .i64 x.2.2.2.1 (1 : Int)), (rCmp .geq (rArith .sub .i64 y3.1 x.2.1) (rArith .quo .i64 (rArith .sub .i64 x.2.2.1 x.2.1) (8 : Int))), y3.2.1, ()))) else ((rec y3.2.2.1 (rArith .add .i64 y3.1 (1 : Int)) x.2.2.1 (rArith .sub .i64 x.2.2.2.1 (1 : Int))).bind fun y4 => some (.inl (y4.1, x.2.1, y3.1, (rArith .sub .i64 x.2.2.2.1 (1 : Int)), (rCmp .geq (rArith .sub .i64 x.2.2.1 y3.1) (rArith .quo .i64 (rArith .sub .i64 x.2.2.1 x.2.1) (8 : Int))), y3.2.1, ()))))))))) else (bif x.2.2.2.2.1 then (bif x.2.2.2.2.2.1 then (bif (rCmp .eql y1.2.1 (1 : Int)) then ((g_partialInsertionSort lt y0.1 x.2.1 x.2.2.1).bind fun y2 => (bif y2.1 then some (.inr (.inl (y2.2.1, ()))) else (bif (rCmp .gtr x.2.1 (0 : Int)) then (bif (rInR y2.2.1 (rArith .sub .i64 x.2.1 (1 : Int))) then (bif (rInR y2.2.1 y1.1) then ((some (lt (rGet default y2.2.1 (rArith .sub .i64 x.2.1 (1 : Int))) (rGet default y2.2.1 y1.1), ())).bind fun y3 => (bif (Bool.not y3.1) then ((g_partitionEqual lt y2.2.1 x.2.1 x.2.2.1 y1.1).bind fun y4 => some (.inl (y4.2.1, y4.1, x.2.2.1, (rArith .sub .i64 x.2.2.2.1 (1 : Int)), x.2.2.2.2.1, x.2.2.2.2.2.1, ()))) else ((g_partition lt y2.2.1 x.2.1 x.2.2.1 y1.1).bind fun y4 => (bif (rIsZero (8 : Int)) then none else (bif (rCmp .lss (rArith .sub .i64 y4.1 x.2.1) (rArith .sub .i64 x.2.2.1 y4.1)) then ((rec y4.2.2.1 x.2.1 y4.1 (rArith .sub .i64 x.2.2.2.1 (1 : Int))).bind fun y5 => some (.inl (y5.1, (rArith .add .i64 y4.1 (1 : Int)), x.2.2.1, (rArith .sub .i64 x.2.2.2.1 (1 : Int)), (rCmp .geq (rArith .sub .i64 y4.1 x.2.1) (rArith .quo .i64 (rArith .sub .i64 x.2.2.1 x.2.1) (8 : Int))), y4.2.1, ()))) else ((rec y4.2.2.1 (rArith .add .i64 y4.1 (1 : Int)) x.2.2.1 (rArith .sub .i64 x.2.2.2.1 (1 : Int))).bind fun y5 => some (.inl (y5.1, x.2.1, y4.1, (rArith .sub .i64 x.2.2.2.1 (1 : Int)), (rCmp .geq (rArith .sub .i64 x.2.2.1 y4.1) (rArith .quo .i64 (rArith .sub .i64 x.2.2.1 x.2.1) (8 : Int))), y4.2.1, ())))))))) else none) else none) else ((g_partition lt y2.2.1 x.2.1 x.2.2.1 y1.1).bind fun y3 => (bif (rIsZero (8 : Int)) then none else (bif (rCmp .lss (rArith .sub .i64 y3.1 x.2.1) (rArith .sub .i64 x.2.2.1 y3.1)) then ((rec y3.2.2.1 x.2.1 y3.1 (rArith .sub .i64 x.2.2.2.1 (1 : Int))).bind fun y4 => some (.inl (y4.1, (rArith .add .i64 y3.1 (1 : Int)), x.2.2.1, (rArith .sub .i64 x.2.2.2.1 (1 : Int)), (rCmp .geq (rArith .sub .i64 y3.1 x.2.1) (rArith .quo .i64 (rArith .sub .i64 x.2.2.1 x.2.1) (8 : Int))), y3.2.1, ()))) else ((rec y3.2.2.1 (rArith .add .i64 y3.1 (1 : Int)) x.2.2.1 (rArith .sub .i64 x.2.2.2.1 (1 : Int))).bind fun y4 => some (.inl (y4.1, x.2.1, y3.1, (rArith .sub .i64 x.2.2.2.1 (1 : Int)), (rCmp .geq (rArith .sub .i64 x.2.2.1 y3.1) (rArith .quo .i64 (rArith .sub .i64 x.2.2.1 x.2.1) (8 : Int))), y3.2.1, ()))))))))) else (bif (rCmp .gtr x.2.1 (0 : Int)) then (bif (rInR y0.1 (rArith .sub .i64 x.2.1 (1 : Int))) then (bif (rInR y0.1 y1.1) then ((some (lt (rGet default y0.1 (rArith .sub .i64 x.2.1 (1 : Int))) (rGet default y0.1 y1.1), ())).bind fun y2 => (bif (Bool.not y2.1) then ((g_partitionEqual lt y0.1 x.2.1 x.2.2.1 y1.1).bind fun y3 => some (.inl (y3.2.1, y3.1, x.2.2.1, (rArith .sub .i64 x.2.2.2.1 (1 : Int)), x.2.2.2.2.1, x.2.2.2.2.2.1, ()))) else ((g_partition lt y0.1 x.2.1 x.2.2.1 y1.1).bind fun y3 => (bif (rIsZero (8 : Int)) then none else (bif (rCmp .lss (rArith .sub .i64 y3.1 x.2.1) (rArith .sub .i64 x.2.2.1 y3.1)) then ((rec y3.2.2.1 x.2.1 y3.1 (rArith .sub .i64 x.2.2.2.1 (1 : Int))).bind fun y4 => some (.inl (y4.1, (rArith .add .i64 y3.1 (1 : Int)), x.2.2.1, (rArith .sub .i64 x.2.2.2.1 (1 : Int)), (rCmp .geq (rArith .sub .i64 y3.1 x.2.1) (rArith .quo .i64 (rArith .sub .i64 x.2.2.1 x.2.1) (8 : Int))), y3.2.1, ()))) else ((rec y3.2.2.1 (rArith .add .i64 y3.1 (1 : Int)) x.2.2.1 (rArith .sub .i64 x.2.2.2.1 (1 : Int))).bind fun y4 => some (.inl (y4.1, x.2.1, y3.1, (rArith .sub .i64 x.2.2.2.1 (1 : Int)), (rCmp .geq (rArith .sub .i64 x.2.2.1 y3.1) (rArith .quo .i64 (rArith .sub .i64 x.2.2.1 x.2.1) (8 : Int))), y3.2.1, ())))))))) else none) else none) else ((g_partition lt y0.1 x.2.1 x.2.2.1 y1.1).bind fun y2 => (bif (rIsZero (8 : Int)) then none else (bif (rCmp .lss (rArith .sub .i64 y2.1 x.2.1) (rArith .sub .i64 x.2.2.1 y2.1)) then ((rec y2.2.2.1 x.2.1 y2.1 (rArith .sub .i64 x.2.2.2.1 (1 : Int))).bind fun y3 => some (.inl (y3.1, (rArith .add .i64 y2.1 (1 : Int)), x.2.2.1, (rArith .sub .i64 x.2.2.2.1 (1 : Int)), (rCmp .geq (rArith .sub .i64 y2.1 x.2.1) (rArith .quo .i64 (rArith .sub .i64 x.2.2.1 x.2.1) (8 : Int))), y2.2.1, ()))) else ((rec y2.2.2.1 (rArith .add .i64 y2.1 (1 : Int)) x.2.2.1 (rArith .sub .i64 x.2.2.2.1 (1 : Int))).bind fun y3 => some (.inl (y3.1, x.2.1, y2.1, (rArith .sub .i64 x.2.2.2.1 (1 : Int)), (rCmp .geq (rArith .sub .i64 x.2.2.1 y2.1) (rArith .quo .i64 (rArith .sub .i64 x.2.2.1 x.2.1) (8 : Int))), y2.2.1, ())))))))) else (bif (rCmp .gtr x.2.1 (0 : Int)) then (bif (rInR y0.1 (rArith .sub .i64 x.2.1 (1 : Int))) then (bif (rInR y0.1 y1.1) then ((some (lt (rGet default y0.1 (rArith .sub .i64 x.2.1 (1 : Int))) (rGet default y0.1 y1.1), ())).bind fun y2 => (bif (Bool.not y2.1) then ((g_partitionEqual lt y0.1 x.2.1 x.2.2.1 y1.1).bind fun y3 => some (.inl (y3.2.1, y3.1, x.2.2.1, (rArith .sub .i64 x.2.2.2.1 (1 : Int)), x.2.2.2.2.1, x.2.2.2.2.2.1, ()))) else ((g_partition lt y0.1 x.2.1 x.2.2.1 y1.1).bind fun y3 => (bif (rIsZero (8 : Int)) then none else (bif (rCmp .lss (rArith .sub .i64 y3.1 x.2.1) (rArith .sub .i64 x.2.2.1 y3.1)) then ((rec y3.2.2.1 x.2.1 y3.1 (rArith .sub .i64 x.2.2.2.1 (1 : Int))).bind fun y4 => some (.inl (y4.1, (rArith .add .i64 y3.1 (1 : Int)), x.2.2.1, (rArith .sub .i64 x.2.2.2.1 (1 : Int)), (rCmp .geq (rArith .sub .i64 y3.1 x.2.1) (rArith .quo .i64 (rArith .sub .i64 x.2.2.1 x.2.1) (8 : Int))), y3.2.1, ()))) else ((rec y3.2.2.1 (rArith .add .i64 y3.1 (1 : Int)) x.2.2.1 (rArith .sub .i64 x.2.2.2.1 (1 : Int))).bind fun y4 => some (.inl (y4.1, x.2.1, y3.1, (rArith .sub .i64 x.2.2.2.1 (1 : Int)), (rCmp .geq (rArith .sub .i64 x.2.2.1 y3.1) (rArith .quo .i64 (rArith .sub .i64 x.2.2.1 x.2.1) (8 : Int))), y3.2.1, ())))))))) else none) else none) else ((g_partition lt y0.1 x.2.1 x.2.2.1 y1.1).bind fun y2 => (bif (rIsZero (8 : Int)) then none else (bif (rCmp .lss (rArith .sub .i64 y2.1 x.2.1) (rArith .sub .i64 x.2.2.1 y2.1)) then ((rec y2.2.2.1 x.2.1 y2.1 (rArith .sub .i64 x.2.2.2.1 (1 : Int))).bind fun y3 => some (.inl (y3.1, (rArith .add .i64 y2.1 (1 : Int)), x.2.2.1, (rArith .sub .i64 x.2.2.2.1 (1 : Int)), (rCmp .geq (rArith .sub .i64 y2.1 x.2.1) (rArith .quo .i64 (rArith .sub .i64 x.2.2.1 x.2.1) (8 : Int))), y2.2.1, ()))) else ((rec y2.2.2.1 (rArith .add .i64 y2.1 (1 : Int)) x.2.2.1 (rArith .sub .i64 x.2.2.2.1 (1 : Int))).bind fun y3 => some (.inl (y3.1, x.2.1, y2.1, (rArith .sub .i64 x.2.2.2.1 (1 : Int)), (rCmp .geq (rArith .sub .i64 x.2.2.1 y2.1) (rArith .quo .i64 (rArith .sub .i64 x.2.2.1 x.2.1) (8 : Int))), y2.2.1, ())))))))) else (bif (rCmp .gtr x.2.1 (0 : Int)) then (bif (rInR y0.1 (rArith .sub .i64 x.2.1 (1 : Int))) then (bif (rInR y0.1 y1.1) then ((some (lt (rGet default y0.1 (rArith .sub .i64 x.2.1 (1 : Int))) (rGet default y0.1 y1.1), ())).bind fun y2 => (bif (Bool.not y2.1) then ((g_partitionEqual lt y0.1 x.2.1 x.2.2.1 y1.1).bind fun y3 => some (.inl (y3.2.1, y3.1, x.2.2.1, (rArith .sub .i64 x.2.2.2.1 (1 : Int)), x.2.2.2.2.1, x.2.2.2.2.2.1, ()))) else ((g_partition lt y0.1 x.2.1 x.2.2.1 y1.1).bind fun y3 => (bif (rIsZero (8 : Int)) then none else (bif (rCmp .lss (rArith .sub .i64 y3.1 x.2.1) (rArith .sub .i64 x.2.2.1 y3.1)) then ((rec y3.2.2.1 x.2.1 y3.1 (rArith .sub .i64 x.2.2.2.1 (1 : Int))).bind fun y4 => some (.inl (y4.1, (rArith .add .i64 y3.1 (1 : Int)), x.2.2.1, (rArith .sub .i64 x.2.2.2.1 (1 : Int)), (rCmp .geq (rArith .sub .i64 y3.1 x.2.1) (rArith .quo .i64 (rArith .sub .i64 x.2.2.1 x.2.1) (8 : Int))), y3.2.1, ()))) else ((rec y3.2.2.1 (rArith .add .i64 y3.1 (1 : Int)) x.2.2.1 (rArith .sub .i64 x.2.2.2.1 (1 : Int))).bind fun y4 => some (.inl (y4.1, x.2.1, y3.1, (rArith .sub .i64 x.2.2.2.1 (1 : Int)), (rCmp .geq (rArith .sub .i64 x.2.2.1 y3.1) (rArith .quo .i64 (rArith .sub .i64 x.2.2.1 x.2.1) (8 : Int))), y3.2.1, ())))))))) else none) else none) else ((g_partition lt y0.1 x.2.1 x.2.2.1 y1.1).bind fun y2 => (bif (rIsZero (8 : Int)) then none else (bif (rCmp .lss (rArith .sub .i64 y2.1 x.2.1) (rArith .sub .i64 x.2.2.1 y2.1)) then ((rec y2.2.2.1 x.2.1 y2.1 (rArith .sub .i64 x.2.2.2.1 (1 : Int))).bind fun y3 => some (.inl (y3.1, (rArith .add .i64 y2.1 (1 : Int)), x.2.2.1, (rArith .sub .i64 x.2.2.2.1 (1 : Int)), (rCmp .geq (rArith .sub .i64 y2.1 x.2.1) (rArith .quo .i64 (rArith .sub .i64 x.2.2.1 x.2.1) (8 : Int))), y2.2.1, ()))) else ((rec y2.2.2.1 (rArith .add .i64 y2.1 (1 : Int)) x.2.2.1 (rArith .sub .i64 x.2.2.2.1 (1 : Int))).bind fun y3 => some (.inl (y3.1, x.2.1, y2.1, (rArith .sub .i64 x.2.2.2.1 (1 : Int)), (rCmp .geq (rArith .sub .i64 x.2.2.1 y2.1) (rArith .quo .i64 (rArith .sub .i64 x.2.2.1 x.2.1) (8 : Int))), y2.2.1, ()))))))))))) else ((g_choosePivot lt x.1 x.2.1 x.2.2.1).bind fun y0 => (bif (rCmp .eql y0.2.1 (2 : Int)) then ((g_reverseRange lt x.1 x.2.1 x.2.2.1).bind fun y1 => (bif x.2.2.2.2.1 then (bif x.2.2.2.2.2.1 then (bif (rCmp .eql (1 : Int) (1 : Int)) then ((g_partialInsertionSort lt y1.1 x.2.1 x.2.2.1).bind fun y2 => (bif y2.1 then some (.inr (.inl (y2.2.1, ()))) else (bif (rCmp .gtr x.2.1 (0 : Int)) then (bif (rInR y2.2.1 (rArith .sub .i64 x.2.1 (1 : Int))) then (bif (rInR y2.2.1 (rArith .sub .i64 (rArith .sub .i64 x.2.2.1 (1 : Int)) (rArith .sub .i64 y0.1 x.2.1))) then ((some (lt (rGet default y2.2.1 (rArith .sub .i64 x.2.1 (1 : Int))) (rGet default y2.2.1 (rArith .sub .i64 (rArith .sub .i64 x.2.2.1 (1 : Int)) (rArith .sub .i64 y0.1 x.2.1))), ())).bind fun y3 => (bif (Bool.not y3.1) then ((g_partitionEqual lt y2.2.1 x.2.1 x.2.2.1 (rArith .sub .i64 (rArith .sub .i64 x.2.2.1 (1 : Int)) (rArith .sub .i64 y0.1 x.2.1))).bind fun y4 => some (.inl (y4.2.1, y4.1, x.2.2.1, x.2.2.2.1, x.2.2.2.2.1, x.2.2.2.2.2.1, ()))) else ((g_partition lt y2.2.1 x.2.1 x.2.2.1 (rArith .sub .i64 (rArith .sub .i64 x.2.2.1 (1 : Int)) (rArith .sub .i64 y0.1 x.2.1))).bind fun y4 => (bif (rIsZero (8 : Int)) then none else (bif (rCmp .lss (rArith .sub .i64 y4.1 x.2.1) (rArith .sub .i64 x.2.2.1 y4.1)) then ((rec y4.2.2.1 x.2.1 y4.1 x.2.2.2.1).bind fun y5 => some (.inl (y5.1, (rArith .add .i64 y4.1 (1 : Int)), x.2.2.1, x.2.2.2.1, (rCmp .geq (rArith .sub .i64 y4.1 x.2.1) (rArith .quo .i64 (rArith .sub .i64 x.2.2.1 x.2.1) (8 : Int))), y4.2.1, ()))) else ((rec y4.2.2.1 (rArith .add .i64 y4.1 (1 : Int)) x.2.2.1 x.2.2.2.1).bind fun y5 => some (.inl (y5.1, x.2.1, y4.1, x.2.2.2.1, (rCmp .geq (rArith .sub .i64 x.2.2.1 y4.1) (rArith .quo .i64 (rArith .sub .i64 x.2.2.1 x.2.1) (8 : Int))), y4.2.1, ())))))))) else none) else none) else ((g_partition lt y2.2.1 x.2.1 x.2.2.1 (rArith .sub .i64 (rArith .sub .i64 x.2.2.1 (1 : Int)) (rArith .sub .i64 y0.1 x.2.1))).bind fun y3 => (bif (rIsZero (8 : Int)) then none else (bif (rCmp .lss (rArith .sub .i64 y3.1 x.2.1) (rArith .sub .i64 x.2.2.1 y3.1)) then ((rec y3.2.2.1 x.2.1 y3.1 x.2.2.2.1).bind fun y4 => some (.inl (y4.1, (rArith .add .i64 y3.1 (1 : Int)), x.2.2.1, x.2.2.2.1, (rCmp .geq (rArith .sub .i64 y3.1 x.2.1) (rArith .quo .i64 (rArith .sub .i64 x.2.2.1 x.2.1) (8 : Int))), y3.2.1, ()))) else ((rec y3.2.2.1 (rArith .add .i64 y3.1 (1 : Int)) x.2.2.1 x.2.2.2.1).bind fun y4 => some (.inl (y4.1, x.2.1, y3.1, x.2.2.2.1, (rCmp .geq (rArith .sub .i64 x.2.2.1 y3.1) (rArith .quo .i64 (rArith .sub .i64 x.2.2.1 x.2.1) (8 : Int))), y3.2.1, ()))))))))) else (bif (rCmp .gtr x.2.1 (0 : Int)) then (bif (rInR y1.1 (rArith .sub .i64 x.2.1 (1 : Int))) then (bif (rInR y1.1 (rArith .sub .i64 (rArith .sub .i64 x.2.2.1 (1 : Int)) (rArith .sub .i64 y0.1 x.2.1))) then ((some (lt (rGet default y1.1 (rArith .sub .i64 x.2.1 (1 : Int))) (rGet default y1.1 (rArith .sub .i64 (rArith .sub .i64 x.2.2.1 (1 : Int)) (rArith .sub .i64 y0.1 x.2.1))), ())).bind fun y2 => (bif (Bool.not y2.1) then ((g_partitionEqual lt y1.1 x.2.1 x.2.2.1 (rArith .sub .i64 (rArith .sub .i64 x.2.2.1 (1 : Int)) (rArith .sub .i64 y0.1 x.2.1))).bind fun y3 => some (.inl (y3.2.1, y3.1, x.2.2.1, x.2.2.2.1, x.2.2.2.2.1, x.2.2.2.2.2.1, ()))) else ((g_partition lt y1.1 x.2.1 x.2.2.1 (rArith .sub .i64 (rArith .sub .i64 x.2.2.1 (1 : Int)) (rArith .sub .i64 y0.1 x.2.1))).bind fun y3 => (bif (rIsZero (8 : Int)) then none else (bif (rCmp .lss (rArith .sub .i64 y3.1 x.2.1) (rArith .sub .i64 x.2.2.1 y3.1)) then ((rec y3.2.2.1 x.2.1 y3.1 x.2.2.2.1).bind fun y4 => some (.inl (y4.1, (rArith .add .i64 y3.1 (1 : Int)), x.2.2.1, x.2.2.2.1, (rCmp .geq (rArith .sub .i64 y3.1 x.2.1) (rArith .quo .i64 (rArith .sub .i64 x.2.2.1 x.2.1) (8 : Int))), y3.2.1, ()))) else ((rec y3.2.2.1 (rArith .add .i64 y3.1 (1 : Int)) x.2.2.1 x.2.2.2.1).bind fun y4 => some (.inl (y4.1, x.2.1, y3.1, x.2.2.2.1, (rCmp .geq (rArith .sub .i64 x.2.2.1 y3.1) (rArith .quo .i64 (rArith .sub .i64 x.2.2.1 x.2.1) (8 : Int))), y3.2.1, ())))))))) else none) else none) else ((g_partition lt y1.1 x.2.1 x.2.2.1 (rArith .sub .i64 (rArith .sub .i64 x.2.2.1 (1 : Int)) (rArith .sub .i64 y0.1 x.2.1))).bind fun y2 => (bif (rIsZero (8 : Int)) then none else (bif (rCmp .lss (rArith .sub .i64 y2.1 x.2.1) (rArith .sub .i64 x.2.2.1 y2.1)) then ((rec y2.2.2.1 x.2.1 y2.1 x.2.2.2.1).bind fun y3 => some (.inl (y3.1, (rArith .add .i64 y2.1 (1 : Int)), x.2.2.1, x.2.2.2.1, (rCmp .geq (rArith .sub .i64 y2.1 x.2.1) (rArith .quo .i64 (rArith .sub .i64 x.2.2.1 x.2.1) (8 : Int))), y2.2.1, ()))) else ((rec y2.2.2.1 (rArith .add .i64 y2.1 (1 : Int)) x.2.2.1 x.2.2.2.1).bind fun y3 => some (.inl (y3.1, x.2.1, y2.1, x.2.2.2.1, (rCmp .geq (rArith .sub .i64 x.2.2.1 y2.1) (rArith .quo .i64 (rArith .sub .i64 x.2.2.1 x.2.1) (8 : Int))), y2.2.1, ())))))))) else (bif (rCmp .gtr x.2.1 (0 : Int)) then (bif (rInR y1.1 (rArith .sub .i64 x.2.1 (1 : Int))) then (bif (rInR y1.1 (rArith .sub .i64 (rArith .sub .i64 x.2.2.1 (1 : Int)) (rArith .sub .i64 y0.1 x.2.1))) then ((some (lt (rGet default y1.1 (rArith .sub .i64 x.2.1 (1 : Int))) (rGet default y1.1 (rArith .sub .i64 (rArith .sub .i64 x.2.2.1 (1 : Int)) (rArith .sub .i64 y0.1 x.2.1))), ())).bind fun y2 => (bif (Bool.not y2.1) then ((g_partitionEqual lt y1.1 x.2.1 x.2.2.1 (rArith .sub .i64 (rArith .sub .i64 x.2.2.1 (1 : Int)) (rArith .sub .i64 y0.1 x.2.1))).bind fun y3 => some (.inl (y3.2.1, y3.1, x.2.2.1, x.2.2.2.1, x.2.2.2.2.1, x.2.2.2.2.2.1, ()))) else ((g_partition lt y1.1 x.2.1 x.2.2.1 (rArith .sub .i64 (rArith .sub .i64 x.2.2.1 (1 : Int)) (rArith .sub .i64 y0.1 x.2.1))).bind fun y3 => (bif (rIsZero (8 : Int)) then none else (bif (rCmp .lss (rArith .sub .i64 y3.1 x.2.1) (rArith .sub .i64 x.2.2.1 y3.1)) then ((rec y3.2.2.1 x.2.1 y3.1 x.2.2.2.1).bind fun y4 => some (.inl (y4.1, (rArith .add .i64 y3.1 (1 : Int)), x.2.2.1, x.2.2.2.1, (rCmp .geq (rArith .sub .i64 y3.1 x.2.1) (rArith .quo .i64 (rArith .sub .i64 x.2.2.1 x.2.1) (8 : Int))), y3.2.1, ()))) else ((rec y3.2.2.1 (rArith .add .i64 y3.1 (1 : Int)) x.2.2.1 x.2.2.2.1).bind fun y4 => some (.inl (y4.1, x.2.1, y3.1, x.2.2.2.1, (rCmp .geq (rArith .sub .i64 x.2.2.1 y3.1) (rArith .quo .i64 (rArith .sub .i64 x.2.2.1 x.2.1) (8 : Int))), y3.2.1, ())))))))) else none) else none) else ((g_partition lt y1.1 x.2.1 x.2.2.1 (rArith .sub .i64 (rArith .sub .i64 x.2.2.1 (1 : Int)) (rArith .sub .i64 y0.1 x.2.1))).bind fun y2 => (bif (rIsZero (8 : Int)) then none else (bif (rCmp .lss (rArith .sub .i64 y2.1 x.2.1) (rArith .sub .i64 x.2.2.1 y2.1)) then ((rec y2.2.2.1 x.2.1 y2.1 x.2.2.2.1).bind fun y3 => some (.inl (y3.1, (rArith .add .i64 y2.1 (1 : Int)), x.2.2.1, x.2.2.2.1, (rCmp .geq (rArith .sub .i64 y2.1 x.2.1) (rArith .quo .i64 (rArith .sub .i64 x.2.2.1 x.2.1) (8 : Int))), y2.2.1, ()))) else ((rec y2.2.2.1 (rArith .add .i64 y2.1 (1 : Int)) x.2.2.1 x.2.2.2.1).bind fun y3 => some (.inl (y3.1, x.2.1, y2.1, x.2.2.2.1, (rCmp .geq (rArith .sub .i64 x.2.2.1 y2.1) (rArith .quo .i64 (rArith .sub .i64 x.2.2.1 x.2.1) (8 : Int))), y2.2.1, ())))))))) else (bif (rCmp .gtr x.2.1 (0 : Int)) then (bif (rInR y1.1 (rArith .sub .i64 x.2.1 (1 : Int))) then (bif (rInR y1.1 (rArith .sub .i64 (rArith .sub .i64 x.2.2.1 (1 : Int)) (rArith .sub .i64 y0.1 x.2.1))) then ((some (lt (rGet default y1.1 (rArith .sub .i64 x.2.1 (1 : Int))) (rGet default y1.1 (rArith .sub .i64 (rArith .sub .i64 x.2.2.1 (1 : Int)) (rArith .sub .i64 y0.1 x.2.1))), ())).bind fun y2 => (bif (Bool.not y2.1) then ((g_partitionEqual lt y1.1 x.2.1 x.2.2.1 (rArith .sub .i64 (rArith .sub .i64 x.2.2.1 (1 : Int)) (rArith .sub .i64 y0.1 x.2.1))).bind fun y3 => some (.inl (y3.2.1, y3.1, x.2.2.1, x.2.2.2.1, x.2.2.2.2.1, x.2.2.2.2.2.1, ()))) else ((g_partition lt y1.1 x.2.1 x.2.2.1 (rArith .sub .i64 (rArith .sub .i64 x.2.2.1 (1 : Int)) (rArith .sub .i64 y0.1 x.2.1))).bind fun y3 => (bif (rIsZero (8 : Int)) then none else (bif (rCmp .lss (rArith .sub .i64 y3.1 x.2.1) (rArith .sub .i64 x.2.2.1 y3.1)) then ((rec y3.2.2.1 x.2.1 y3.1 x.2.2.2.1).bind fun y4 => some (.inl (y4.1, (rArith .add .i64 y3.1 (1 : Int)), x.2.2.1, x.2.2.2.1, (rCmp .geq (rArith .sub .i64 y3.1 x.2.1) (rArith .quo .i64 (rArith .sub .i64 x.2.2.1 x.2.1) (8 : Int))), y3.2.1, ()))) else ((rec y3.2.2.1 (rArith .add .i64 y3.1 (1 : Int)) x.2.2.1 x.2.2.2.1).bind fun y4 => some (.inl (y4.1, x.2.1, y3.1, x.2.2.2.1, (rCmp .geq (rArith .sub .i64 x.2.2.1 y3.1) (rArith .quo .i64 (rArith .sub .i64 x.2.2.1 x.2.1) (8 : Int))), y3.2.1, ())))))))) else none) else none) else ((g_partition lt y1.1 x.2.1 x.2.2.1 (rArith .sub .i64 (rArith .sub .i64 x.2.2.1 (1 : Int)) (rArith .sub .i64 y0.1 x.2.1))).bind fun y2 => (bif (rIsZero (8 : Int)) then none else (bif (rCmp .lss (rArith .sub .i64 y2.1 x.2.1) (rArith .sub .i64 x.2.2.1 y2.1)) then ((rec y2.2.2.1 x.2.1 y2.1 x.2.2.2.1).bind fun y3 => some (.inl (y3.1, (rArith .add .i64 y2.1 (1 : Int)), x.2.2.1, x.2.2.2.1, (rCmp .geq (rArith .sub .i64 y2.1 x.2.1) (rArith .quo .i64 (rArith .sub .i64 x.2.2.1 x.2.1) (8 : Int))), y2.2.1, ()))) else ((rec y2.2.2.1 (rArith .add .i64 y2.1 (1 : Int)) x.2.2.1 x.2.2.2.1).bind fun y3 => some (.inl (y3.1, x.2.1, y2.1, x.2.2.2.1, (rCmp .geq (rArith .sub .i64 x.2.2.1 y2.1) (rArith .quo .i64 (rArith .sub .i64 x.2.2.1 x.2.1) (8 : Int))), y2.2.1, ()))))))))) else (bif x.2.2.2.2.1 then (bif x.2.2.2.2.2.1 then (bif (rCmp .eql y0.2.1 (1 : Int)) then ((g_partialInsertionSort lt x.1 x.2.1 x.2.2.1).bind fun y1 => (bif y1.1 then some (.inr (.inl (y1.2.1, ()))) else (bif (rCmp .gtr x.2.1 (0 : Int)) then (bif (rInR y1.2.1 (rArith .sub .i64 x.2.1 (1 : Int))) then (bif (rInR y1.2.1 y0.1) then ((some (lt (rGet default y1.2.1 (rArith .sub .i64 x.2.1 (1 : Int))) (rGet default y1.2.1 y0.1), ())).bind fun y2 => (bif (Bool.not y2.1) then ((g_partitionEqual lt y1.2.1 x.2.1 x.2.2.1 y0.1).bind fun y3 => some (.inl (y3.2.1, y3.1, x.2.2.1, x.2.2.2.1, x.2.2.2.2.1, x.2.2.2.2.2.1, ()))) else ((g_partition lt y1.2.1 x.2.1 x.2.2.1 y0.1).bind fun y3 => (bif (rIsZero (8 : Int)) then none else (bif (rCmp .lss (rArith .sub .i64 y3.1 x.2.1) (rArith .sub .i64 x.2.2.1 y3.1)) then ((rec y3.2.2.1 x.2.1 y3.1 x.2.2.2.1).bind fun y4 => some (.inl (y4.1, (rArith .add .i64 y3.1 (1 : Int)), x.2.2.1, x.2.2.2.1, (rCmp .geq (rArith .sub .i64 y3.1 x.2.1) (rArith .quo .i64 (rArith .sub .i64 x.2.2.1 x.2.1) (8 : Int))), y3.2.1, ()))) else ((rec y3.2.2.1 (rArith .add .i64 y3.1 (1 : Int)) x.2.2.1 x.2.2.2.1).bind fun y4 => some (.inl (y4.1, x.2.1, y3.1, x.2.2.2.1, (rCmp .geq (rArith .sub .i64 x.2.2.1 y3.1) (rArith .quo .i64 (rArith .sub .i64 x.2.2.1 x.2.1) (8 : Int))), y3.2.1, ())))))))) else none) else none) else ((g_partition lt y1.2.1 x.2.1 x.2.2.1 y0.1).bind fun y2 => (bif (rIsZero (8 : Int)) then none else (bif (rCmp .lss (rArith .sub .i64 y2.1 x.2.1) (rArith .sub .i64 x.2.2.1 y2.1)) then ((rec y2.2.2.1 x.2.1 y2.1 x.2.2.2.1).bind fun y3 => some (.inl (y3.1, (rArith .add .i64 y2.1 (1 : Int)), x.2.2.1, x.2.2.2.1, (rCmp .geq (rArith .sub .i64 y2.1 x.2.1) (rArith .quo .i64 (rArith .sub .i64 x.2.2.1 x.2.1) (8 : Int))), y2.2.1, ()))) else ((rec y2.2.2.1 (rArith .add .i64 y2.1 (1 : Int)) x.2.2.1 x.2.2.2.1).bind fun y3 => some (.inl (y3.1, x.2.1, y2.1, x.2.2.2.1, (rCmp .geq (rArith .sub .i64 x.2.2.1 y2.1) (rArith .quo .i64 (rArith .sub .i64 x.2.2.1 x.2.1) (8 : Int))), y2.2.1, ()))))))))) else (bif (rCmp .gtr x.2.1 (0 : Int)) then (bif (rInR x.1 (rArith .sub .i64 x.2.1 (1 : Int))) then (bif (rInR x.1 y0.1) then ((some (lt (rGet default x.1 (rArith .sub .i64 x.2.1 (1 : Int))) (rGet default x.1 y0.1), ())).bind fun y1 => (bif (Bool.not y1.1) then ((g_partitionEqual lt x.1 x.2.1 x.2.2.1 y0.1).bind fun y2 => some (.inl (y2.2.1, y2.1, x.2.2.1, x.2.2.2.1, x.2.2.2.2.1, x.2.2.2.2.2.1, ()))) else ((g_partition lt x.1 x.2.1 x.2.2.1 y0.1).bind fun y2 => (bif (rIsZero (8 : Int)) then none else (bif (rCmp .lss (rArith .sub .i64 y2.1 x.2.1) (rArith .sub .i64 x.2.2.1 y2.1)) then ((rec y2.2.2.1 x.2.1 y2.1 x.2.2.2.1).bind fun y3 => some (.inl (y3.1, (rArith .add .i64 y2.1 (1 : Int)), x.2.2.1, x.2.2.2.1, (rCmp .geq (rArith .sub .i64 y2.1 x.2.1) (rArith .quo .i64 (rArith .sub .i64 x.2.2.1 x.2.1) (8 : Int))), y2.2.1, ()))) else ((rec y2.2.2.1 (rArith .add .i64 y2.1 (1 : Int)) x.2.2.1 x.2.2.2.1).bind fun y3 => some (.inl (y3.1, x.2.1, y2.1, x.2.2.2.1, (rCmp .geq (rArith .sub .i64 x.2.2.1 y2.1) (rArith .quo .i64 (rArith .sub .i64 x.2.2.1 x.2.1) (8 : Int))), y2.2.1, ())))))))) else none) else none) else ((g_partition lt x.1 x.2.1 x.2.2.1 y0.1).bind fun y1 => (bif (rIsZero (8 : Int)) then none else (bif (rCmp .lss (rArith .sub .i64 y1.1 x.2.1) (rArith .sub .i64 x.2.2.1 y1.1)) then ((rec y1.2.2.1 x.2.1 y1.1 x.2.2.2.1).bind fun y2 => some (.inl (y2.1, (rArith .add .i64 y1.1 (1 : Int)), x.2.2.1, x.2.2.2.1, (rCmp .geq (rArith .sub .i64 y1.1 x.2.1) (rArith .quo .i64 (rArith .sub .i64 x.2.2.1 x.2.1) (8 : Int))), y1.2.1, ()))) else ((rec y1.2.2.1 (rArith .add .i64 y1.1 (1 : Int)) x.2.2.1 x.2.2.2.1).bind fun y2 => some (.inl (y2.1, x.2.1, y1.1, x.2.2.2.1, (rCmp .geq (rArith .sub .i64 x.2.2.1 y1.1) (rArith .quo .i64 (rArith .sub .i64 x.2.2.1 x.2.1) (8 : Int))), y1.2.1, ())))))))) else (bif (rCmp .gtr x.2.1 (0 : Int)) then (bif (rInR x.1 (rArith .sub .i64 x.2.1 (1 : Int))) then (bif (rInR x.1 y0.1) then ((some (lt (rGet default x.1 (rArith .sub .i64 x.2.1 (1 : Int))) (rGet default x.1 y0.1), ())).bind fun y1 => (bif (Bool.not y1.1) then ((g_partitionEqual lt x.1 x.2.1 x.2.2.1 y0.1).bind fun y2 => some (.inl (y2.2.1, y2.1, x.2.2.1, x.2.2.2.1, x.2.2.2.2.1, x.2.2.2.2.2.1, ()))) else ((g_partition lt x.1 x.2.1 x.2.2.1 y0.1).bind fun y2 => (bif (rIsZero (8 : Int)) then none else (bif (rCmp .lss (rArith .sub .i64 y2.1 x.2.1) (rArith .sub .i64 x.2.2.1 y2.1)) then ((rec y2.2.2.1 x.2.1 y2.1 x.2.2.2.1).bind fun y3 => some (.inl (y3.1, (rArith .add .i64 y2.1 (1 : Int)), x.2.2.1, x.2.2.2.1, (rCmp .geq (rArith .sub .i64 y2.1 x.2.1) (rArith .quo .i64 (rArith .sub .i64 x.2.2.1 x.2.1) (8 : Int))), y2.2.1, ()))) else ((rec y2.2.2.1 (rArith .add .i64 y2.1 (1 : Int)) x.2.2.1 x.2.2.2.1).bind fun y3 => some (.inl (y3.1, x.2.1, y2.1, x.2.2.2.1, (rCmp .geq (rArith .sub .i64 x.2.2.1 y2.1) (rArith .quo .i64 (rArith .sub .i64 x.2.2.1 x.2.1) (8 : Int))), y2.2.1, ())))))))) else none) else none) else ((g_partition lt x.1 x.2.1 x.2.2.1 y0.1).bind fun y1 => (bif (rIsZero (8 : Int)) then none else (bif (rCmp .lss (rArith .sub .i64 y1.1 x.2.1) (rArith .sub .i64 x.2.2.1 y1.1)) then ((rec y1.2.2.1 x.2.1 y1.1 x.2.2.2.1).bind fun y2 => some (.inl (y2.1, (rArith .add .i64 y1.1 (1 : Int)), x.2.2.1, x.2.2.2.1, (rCmp .geq (rArith .sub .i64 y1.1 x.2.1) (rArith .quo .i64 (rArith .sub .i64 x.2.2.1 x.2.1) (8 : Int))), y1.2.1, ()))) else ((rec y1.2.2.1 (rArith .add .i64 y1.1 (1 : Int)) x.2.2.1 x.2.2.2.1).bind fun y2 => some (.inl (y2.1, x.2.1, y1.1, x.2.2.2.1, (rCmp .geq (rArith .sub .i64 x.2.2.1 y1.1) (rArith .quo .i64 (rArith .sub .i64 x.2.2.1 x.2.1) (8 : Int))), y1.2.1, ())))))))) else (bif (rCmp .gtr x.2.1 (0 : Int)) then (bif (rInR x.1 (rArith .sub .i64 x.2.1 (1 : Int))) then (bif (rInR x.1 y0.1) then ((some (lt (rGet default x.1 (rArith .sub .i64 x.2.1 (1 : Int))) (rGet default x.1 y0.1), ())).bind fun y1 => (bif (Bool.not y1.1) then ((g_partitionEqual lt x.1 x.2.1 x.2.2.1 y0.1).bind fun y2 => some (.inl (y2.2.1, y2.1, x.2.2.1, x.2.2.2.1, x.2.2.2.2.1, x.2.2.2.2.2.1, ()))) else ((g_partition lt x.1 x.2.1 x.2.2.1 y0.1).bind fun y2 => (bif (rIsZero (8 : Int)) then none else (bif (rCmp .lss (rArith .sub .i64 y2.1 x.2.1) (rArith .sub .i64 x.2.2.1 y2.1)) then ((rec y2.2.2.1 x.2.1 y2.1 x.2.2.2.1).bind fun y3 => some (.inl (y3.1, (rArith .add .i64 y2.1 (1 : Int)), x.2.2.1, x.2.2.2.1, (rCmp .geq (rArith .sub .i64 y2.1 x.2.1) (rArith .quo .i64 (rArith .sub .i64 x.2.2.1 x.2.1) (8 : Int))), y2.2.1, ()))) else ((rec y2.2.2.1 (rArith .add .i64 y2.1 (1 : Int)) x.2.2.1 x.2.2.2.1).bind fun y3 => some (.inl (y3.1, x.2.1, y2.1, x.2.2.2.1, (rCmp .geq (rArith .sub .i64 x.2.2.1 y2.1) (rArith .quo .i64 (rArith .sub .i64 x.2.2.1 x.2.1) (8 : Int))), y2.2.1, ())))))))) else none) else none) else ((g_partition lt x.1 x.2.1 x.2.2.1 y0.1).bind fun y1 => (bif (rIsZero (8 : Int)) then none else (bif (rCmp .lss (rArith .sub .i64 y1.1 x.2.1) (rArith .sub .i64 x.2.2.1 y1.1)) then ((rec y1.2.2.1 x.2.1 y1.1 x.2.2.2.1).bind fun y2 => some (.inl (y2.1, (rArith .add .i64 y1.1 (1 : Int)), x.2.2.1, x.2.2.2.1, (rCmp .geq (rArith .sub .i64 y1.1 x.2.1) (rArith .quo .i64 (rArith .sub .i64 x.2.2.1 x.2.1) (8 : Int))), y1.2.1, ()))) else ((rec y1.2.2.1 (rArith .add .i64 y1.1 (1 : Int)) x.2.2.1 x.2.2.2.1).bind fun y2 => some (.inl (y2.1, x.2.1, y1.1, x.2.2.2.1, (rCmp .geq (rArith .sub .i64 x.2.2.1 y1.1) (rArith .quo .i64 (rArith .sub .i64 x.2.2.1 x.2.1) (8 : Int))), y1.2.1, ())))))))))))))
def g_pdqsort_l0 {α : Type} [Inhabited α] (lt : α → α → Bool) (rec : (List α) → Int → Int → Int → Option ((List α) × Unit)) (k : Unit) (x : (List α) × Int × Int × Int × Bool × Bool × Unit) : Option ((List α) × Unit ⊕ Empty) := iter (g_pdqsort_b0 lt rec k) big x
def g_pdqsort_r {α : Type} [Inhabited α] (lt : α → α → Bool) (rec : (List α) → Int → Int → Int → Option ((List α) × Unit)) (a0 : (List α)) (a1 : Int) (a2 : Int) (a3 : Int) : Option ((List α) × Unit) :=
  ((g_pdqsort_l0 lt rec (()) (a0, a1, a2, a3, true, true, ())).bind fun q0 => (Sum.elim (fun y1 => some (y1.1, ())) (fun q2 => (Empty.elim q2)) q0))
def g_pdqsort_f {α : Type} [Inhabited α] (lt : α → α → Bool) : Nat → (List α) → Int → Int → Int → Option ((List α) × Unit) | 0 => fun _ _ _ _ => none | n + 1 => g_pdqsort_r lt (g_pdqsort_f lt n)
def g_pdqsort {α : Type} [Inhabited α] (lt : α → α → Bool) (a0 : (List α)) (a1 : Int) (a2 : Int) (a3 : Int) : Option ((List α) × Unit) := g_pdqsort_f lt big a0 a1 a2 a3
end
end Go.Fn
set_option linter.unusedSimpArgs false
set_option linter.unusedVariables false
namespace Go.Fn
open Go.R Go.Sort
theorem inA {α : Type} (d : Array α) (i : Nat) : rInR d.toList (i : Int) = decide (i < d.size) := by rw [inR_nat, Array.length_toList]
theorem inP {α : Type} (d : Array α) (i j : Nat) (x : α) : rInR (rPut d.toList (i : Int) x) (j : Int) = decide (j < d.size) := by rw [put_nat, inR_set, Array.length_toList]
section
variable {α : Type} [Inhabited α] {lt : α → α → Bool}
theorem gA (d : Array α) (i : Nat) : rGet default d.toList (i : Int) = d[i]! := by
  rw [get_nat, List.getD_eq_getElem?_getD, getElem!_def, ← Array.getElem?_toList]
  cases d.toList[i]? <;> rfl
theorem swA (d : Array α) (i j : Nat) : rPut (rPut d.toList (i : Int) d[j]!) (j : Int) d[i]! = (swp d i j).toList := by
  rw [put_nat, put_nat]; unfold swp; rw [Array.toList_setIfInBounds, Array.toList_setIfInBounds]
theorem aS {n m : Nat} (h : n + m < 1099511627776) : rArith .add .i64 (n : Int) (m : Int) = ((n + m : Nat) : Int) := by rw [add64] <;> omega
theorem sS {n m : Nat} (h : m ≤ n) (h2 : n < 1099511627776) : rArith .sub .i64 (n : Int) (m : Int) = ((n - m : Nat) : Int) := by rw [sub64] <;> omega
theorem mS {n m : Nat} (h : n * m < 1099511627776) : rArith .mul .i64 (n : Int) (m : Int) = ((n * m : Nat) : Int) := by
  rw [mul64]
  · rw [Int.natCast_mul]
  · rw [← Int.natCast_mul]; omega
  · rw [← Int.natCast_mul]; omega
theorem qS (n m : Nat) (h : n < 1099511627776) : rArith .quo .i64 (n : Int) (m : Int) = ((n / m : Nat) : Int) := by
  have h2 : n / m ≤ n := Nat.div_le_self n m
  have e : rArith .quo .i64 (n : Int) (m : Int) = IntKind.i64.wrap ((n : Int).tdiv (m : Int)) := rfl
  rw [e, show ((n : Int).tdiv (m : Int)) = ((n / m : Nat) : Int) from rfl]
  generalize n / m = c at h2 ⊢
  exact w64 (by omega) (by omega)
theorem gtS (n m : Nat) : rCmp .gtr (n : Int) (m : Int) = decide (n > m) := by simp [rCmp]
theorem ltS (n m : Nat) : rCmp .lss (n : Int) (m : Int) = decide (n < m) := by simp [rCmp]
theorem geS (n m : Nat) : rCmp .geq (n : Int) (m : Int) = decide (n ≥ m) := by simp [rCmp]
theorem leS (n m : Nat) : rCmp .leq (n : Int) (m : Int) = decide (n ≤ m) := by simp [rCmp]
theorem eqS (n m : Nat) : rCmp .eql (n : Int) (m : Int) = decide (n = m) := by
  simp only [rCmp]
  by_cases h : n = m
  · subst h; simp
  · rw [decide_eq_false h]; simp; omega
theorem size_insInner (lt : α → α → Bool) (a : Nat) : ∀ j (d : Array α), (insInner lt a j d).size = d.size
  | 0, _ => rfl
  | j + 1, d => by
    unfold insInner
    split
    · rw [size_insInner lt a j, size_swp]
    · rfl
theorem one : (1 : Int) = ((1 : Nat) : Int) := rfl
theorem ins_in (a b i : Nat) : ∀ (j : Nat) (d : Array α) (n : Nat), j < d.size → d.size ≤ 255 → j < n → iter (g_insertionSort_b2 lt ((a : Int), (b : Int), (i : Int), ())) n (d.toList, (j : Int), ()) = some (.inl ((insInner lt a j d).toList, ())) := by
  intro j
  induction j with
  | zero =>
    intro d n hj hd hn
    obtain ⟨n, rfl⟩ : ∃ m, n = m + 1 := ⟨n - 1, by omega⟩
    refine iter_done ?_
    unfold g_insertionSort_b2 insInner
    simp only [gtS, show ¬ (0 > a) by omega, decide_false, cond_false]
  | succ j ih =>
    intro d n hj hd hn
    obtain ⟨n, rfl⟩ : ∃ m, n = m + 1 := ⟨n - 1, by omega⟩
    have e1 : rArith .sub .i64 ((j + 1 : Nat) : Int) (1 : Int) = (j : Int) := pred64 (by omega)
    unfold insInner
    by_cases h : j + 1 > a
    · cases hl : lt d[j + 1]! d[j]! with
      | true =>
        simp only [h, decide_true, Bool.true_and, if_true]
        rw [← ih (swp d (j + 1) j) n (by rw [size_swp]; omega) (by rw [size_swp]; omega) (by omega)]
        refine iter_next ?_
        unfold g_insertionSort_b2
        simp only [gtS, h, decide_true, cond_true, e1, inA, gA, inP, hj, show j < d.size by omega, Option.bind_some, hl, swA]
      | false =>
        simp only [Bool.and_false, Bool.false_eq_true, if_false]
        refine iter_done ?_
        unfold g_insertionSort_b2
        simp only [gtS, h, decide_true, cond_true, e1, inA, gA, hj, show j < d.size by omega, Option.bind_some, hl, cond_false]
    · simp only [h, decide_false, Bool.false_and, Bool.false_eq_true, if_false]
      refine iter_done ?_
      unfold g_insertionSort_b2
      simp only [gtS, h, decide_false, cond_false]
theorem ins_out (a b : Nat) (hb : b ≤ 255) : ∀ (k i : Nat) (d : Array α) (n : Nat), b - i ≤ k → b ≤ d.size → d.size ≤ 255 → i ≤ 256 → k < n → iter (g_insertionSort_b0 lt ((a : Int), (b : Int), ())) n (d.toList, (i : Int), ()) = some (.inl ((insOuter lt a b i d).toList, ())) := by
  intro k
  induction k with
  | zero =>
    intro i d n hk hbd hd hi hn
    obtain ⟨n, rfl⟩ : ∃ m, n = m + 1 := ⟨n - 1, by omega⟩
    refine iter_done ?_
    unfold g_insertionSort_b0 insOuter
    simp only [ltS, show ¬ (i < b) by omega, decide_false, cond_false, if_false]
  | succ k ih =>
    intro i d n hk hbd hd hi hn
    obtain ⟨n, rfl⟩ : ∃ m, n = m + 1 := ⟨n - 1, by omega⟩
    unfold insOuter
    by_cases h : i < b
    · simp only [h, if_true]
      rw [← ih (i + 1) (insInner lt a i d) n (by omega) (by rw [size_insInner]; omega) (by rw [size_insInner]; omega) (by omega) (by omega)]
      refine iter_next ?_
      unfold g_insertionSort_b0 g_insertionSort_l2
      simp only [ltS, h, decide_true, cond_true, ins_in a b i i d big (by omega) hd (lt_big (by omega)), Option.bind_some, Sum.elim_inl, succ64 (n := i) (by omega)]
    · simp only [h, if_false]
      refine iter_done ?_
      unfold g_insertionSort_b0
      simp only [ltS, h, decide_false, cond_false]
theorem sim_ins (d : Array α) (a b : Nat) (hab : a ≤ b) (hb : b ≤ d.size) (hd : d.size ≤ 255) : g_insertionSort lt d.toList (a : Int) (b : Int) = some ((insertionSort lt d a b).toList, ()) := by
  unfold g_insertionSort g_insertionSort_l0 insertionSort
  simp only [succ64 (n := a) (by omega), ins_out (lt := lt) a b (by omega) 256 (a + 1) d big (by omega) hb hd (by omega) (lt_big (by omega)), Option.bind_some, Sum.elim_inl]
theorem size_siftDown (lt : α → α → Bool) (hi first : Nat) : ∀ (k root : Nat) (d : Array α), hi - root ≤ k → (siftDown lt hi first root d).size = d.size := by
  intro k
  induction k with
  | zero =>
    intro root d hk
    unfold siftDown
    rw [dif_pos (by omega)]
  | succ k ih =>
    intro root d hk
    unfold siftDown
    repeat' split
    all_goals first | rfl | (rw [ih _ _ (by omega), size_swp])
theorem sift_in (hi first : Nat) : ∀ (k root : Nat) (d : Array α) (n : Nat), hi - root ≤ k → first + hi ≤ d.size → first + root ≤ 255 → d.size ≤ 255 → k < n → ∃ q, iter (g_siftDown_b0 lt ((hi : Int), (first : Int), ())) n (d.toList, (root : Int), ()) = some q ∧ (q = .inl ((siftDown lt hi first root d).toList, ()) ∨ q = .inr (.inl ((siftDown lt hi first root d).toList, ()))) := by
  intro k
  induction k with
  | zero =>
    intro root d n hk hf hr hd hn
    obtain ⟨n, rfl⟩ : ∃ m, n = m + 1 := ⟨n - 1, by omega⟩
    refine ⟨_, iter_done ?_, .inl rfl⟩
    unfold g_siftDown_b0 siftDown
    rw [dif_pos (by omega)]
    have e1 : rArith .mul .i64 (2 : Int) (root : Int) = ((2 * root : Nat) : Int) := mS (n := 2) (by omega)
    simp only [e1, succ64 (n := 2 * root) (by omega), geS, show 2 * root + 1 ≥ hi by omega, decide_true, cond_true]
  | succ k ih =>
    intro root d n hk hf hr hd hn
    obtain ⟨n, rfl⟩ : ∃ m, n = m + 1 := ⟨n - 1, by omega⟩
    have e1 : rArith .mul .i64 (2 : Int) (root : Int) = ((2 * root : Nat) : Int) := mS (n := 2) (by omega)
    have e2 : rArith .add .i64 (first : Int) (root : Int) = ((first + root : Nat) : Int) := aS (by omega)
    have e3 : rArith .add .i64 ((2 * root : Nat) : Int) (1 : Int) = ((2 * root + 1 : Nat) : Int) := succ64 (by omega)
    have e4 : rArith .add .i64 ((2 * root + 1 : Nat) : Int) (1 : Int) = ((2 * root + 2 : Nat) : Int) := succ64 (by omega)
    have e5 : rArith .add .i64 (first : Int) ((2 * root + 1 : Nat) : Int) = ((first + (2 * root + 1) : Nat) : Int) := aS (by omega)
    have e6 : rArith .add .i64 (first : Int) ((2 * root + 2 : Nat) : Int) = ((first + (2 * root + 2) : Nat) : Int) := aS (by omega)
    have e7 : rArith .add .i64 ((first + (2 * root + 1) : Nat) : Int) (1 : Int) = ((first + (2 * root + 1) + 1 : Nat) : Int) := succ64 (by omega)
    by_cases h1 : 2 * root + 1 ≥ hi
    · refine ⟨_, iter_done ?_, .inl rfl⟩
      unfold g_siftDown_b0 siftDown
      rw [dif_pos h1]
      simp only [e1, e3, geS, h1, decide_true, cond_true]
    · have i1 : first + (2 * root + 1) < d.size := by omega
      have i2 : first + root < d.size := by omega
      unfold siftDown
      rw [dif_neg h1]
      by_cases h2 : 2 * root + 2 < hi
      · have i3 : first + (2 * root + 2) < d.size := by omega
        have i4 : first + (2 * root + 1) + 1 < d.size := by omega
        cases h3 : lt d[first + (2 * root + 1)]! d[first + (2 * root + 1) + 1]! with
        | true =>
          cases h4 : lt d[first + root]! d[first + (2 * root + 2)]! with
          | false =>
            refine ⟨_, iter_done ?_, .inr rfl⟩
            unfold g_siftDown_b0
            simp only [e1, e2, e3, e4, e5, e6, e7, geS, ltS, h1, h2, decide_true, decide_false, cond_true, cond_false, inA, gA, i1, i2, i3, i4, Option.bind_some, h3, h4, Bool.not_false, Bool.true_and, if_true]
          | true =>
            obtain ⟨q, hq, hq'⟩ := ih (2 * root + 2) (swp d (first + root) (first + (2 * root + 2))) n (by omega) (by rw [size_swp]; omega) (by omega) (by rw [size_swp]; omega) (by omega)
            refine ⟨q, ?_, ?_⟩
            · rw [← hq]
              refine iter_next ?_
              unfold g_siftDown_b0
              simp only [e1, e2, e3, e4, e5, e6, e7, geS, ltS, h1, h2, decide_true, decide_false, cond_true, cond_false, inA, gA, inP, i1, i2, i3, i4, Option.bind_some, h3, h4, Bool.not_true, swA, lets_def]
            · simp only [h2, decide_true, Bool.true_and, if_true, Bool.not_true, Bool.false_eq_true, if_false, dite_true]
              exact hq'
        | false =>
          simp only [Bool.and_false, Bool.false_eq_true, if_false]
          cases h4 : lt d[first + root]! d[first + (2 * root + 1)]! with
          | false =>
            refine ⟨_, iter_done ?_, .inr rfl⟩
            unfold g_siftDown_b0
            simp only [e1, e2, e3, e4, e5, e6, e7, geS, ltS, h1, h2, decide_true, decide_false, cond_true, cond_false, inA, gA, i1, i2, i3, i4, Option.bind_some, h3, h4, Bool.not_false, if_true]
          | true =>
            obtain ⟨q, hq, hq'⟩ := ih (2 * root + 1) (swp d (first + root) (first + (2 * root + 1))) n (by omega) (by rw [size_swp]; omega) (by omega) (by rw [size_swp]; omega) (by omega)
            refine ⟨q, ?_, ?_⟩
            · rw [← hq]
              refine iter_next ?_
              unfold g_siftDown_b0
              simp only [e1, e2, e3, e4, e5, e6, e7, geS, ltS, h1, h2, decide_true, decide_false, cond_true, cond_false, inA, gA, inP, i1, i2, i3, i4, Option.bind_some, h3, h4, Bool.not_true, swA, lets_def]
            · simp only [Bool.not_true, Bool.false_eq_true, if_false]
              exact hq'
      · simp only [show ¬ (2 * root + 1 + 1 < hi) from h2, decide_false, Bool.false_and, Bool.false_eq_true, if_false]
        cases h4 : lt d[first + root]! d[first + (2 * root + 1)]! with
        | false =>
          refine ⟨_, iter_done ?_, .inr rfl⟩
          unfold g_siftDown_b0
          simp only [e1, e2, e3, e4, e5, e6, e7, geS, ltS, h1, h2, decide_true, decide_false, cond_true, cond_false, inA, gA, i1, i2, Option.bind_some, h4, Bool.not_false, if_true]
        | true =>
          obtain ⟨q, hq, hq'⟩ := ih (2 * root + 1) (swp d (first + root) (first + (2 * root + 1))) n (by omega) (by rw [size_swp]; omega) (by omega) (by rw [size_swp]; omega) (by omega)
          refine ⟨q, ?_, ?_⟩
          · rw [← hq]
            refine iter_next ?_
            unfold g_siftDown_b0
            simp only [e1, e2, e3, e4, e5, e6, e7, geS, ltS, h1, h2, decide_true, decide_false, cond_true, cond_false, inA, gA, inP, i1, i2, Option.bind_some, h4, Bool.not_true, swA, lets_def]
          · simp only [Bool.not_true, Bool.false_eq_true, if_false]
            exact hq'
theorem sim_sift (d : Array α) (root hi first : Nat) (hf : first + hi ≤ d.size) (hr : first + root ≤ 255) (hd : d.size ≤ 255) : g_siftDown lt d.toList (root : Int) (hi : Int) (first : Int) = some ((siftDown lt hi first root d).toList, ()) := by
  unfold g_siftDown g_siftDown_l0
  obtain ⟨q, hq, rfl | rfl⟩ := sift_in (lt := lt) hi first 256 root d big (by omega) hf hr hd (lt_big (by omega)) <;> rw [hq] <;> rfl
end
end Go.Fn
set_option linter.unusedSimpArgs false
set_option linter.unusedVariables false
namespace Go.Fn
open Go.R Go.Sort
section
variable {α : Type} [Inhabited α] {lt : α → α → Bool}
theorem sift_size (lt : α → α → Bool) (hi first root : Nat) (d : Array α) : (siftDown lt hi first root d).size = d.size := size_siftDown lt hi first (hi - root) root d (Nat.le_refl _)
theorem ge0 (n : Nat) : rCmp .geq (n : Int) (0 : Int) = true := by simp [rCmp]
theorem ge0n : rCmp .geq (-1 : Int) (0 : Int) = false := rfl
/-- k rounds that count down to -1. -/
theorem count_down {X Y S : Type} {body : X → Option (X ⊕ Y)} (st : S → Int → X) (fin : S → Y) (f : Nat → S → S) (Inv : S → Prop) (top : Nat) (htop : top ≤ 1000)
    (hs : ∀ i s, i < top → Inv s → body (st s (i : Int)) = some (.inl (st (f i s) (rArith .sub .i64 (i : Int) 1))) ∧ Inv (f i s)) (he : ∀ s, body (st s (-1)) = some (.inr (fin s))) :
    ∀ (k : Nat) (s : S) (n : Nat), k ≤ top → k < n → Inv s → iter body n (st s ((k : Int) - 1)) = some (fin (k.rec (motive := fun _ => S → S) (fun s => s) (fun k r s => r (f k s)) s)) := by
  intro k
  induction k with
  | zero =>
    intro s n _ hn _
    obtain ⟨n, rfl⟩ : ∃ m, n = m + 1 := ⟨n - 1, by omega⟩
    exact iter_done (he s)
  | succ k ih =>
    intro s n hk hn hi
    obtain ⟨n, rfl⟩ : ∃ m, n = m + 1 := ⟨n - 1, by omega⟩
    obtain ⟨h1, h2⟩ := hs k s (by omega) hi
    rw [show ((k + 1 : Nat) : Int) - 1 = (k : Int) by omega, iter_next h1]
    have e : rArith .sub .i64 (k : Int) 1 = (k : Int) - 1 := sub64 (by omega) (by omega)
    rw [e]
    exact ih (f k s) n (by omega) (by omega) h2
theorem heapBuild_rec (hi first : Nat) : ∀ k (d : Array α), heapBuild lt hi first k d = k.rec (motive := fun _ => Array α → Array α) (fun s => s) (fun k r s => r (siftDown lt hi first k s)) d
  | 0, _ => rfl
  | k + 1, d => by rw [heapBuild, heapBuild_rec hi first k]
theorem heapPop_rec (first : Nat) : ∀ k (d : Array α), heapPop lt first k d = k.rec (motive := fun _ => Array α → Array α) (fun s => s) (fun k r s => r (siftDown lt k first 0 (swp s first (first + k)))) d
  | 0, _ => rfl
  | k + 1, d => by rw [heapPop, heapPop_rec first k]
theorem size_heapBuild (hi first : Nat) : ∀ k (d : Array α), (heapBuild lt hi first k d).size = d.size
  | 0, _ => rfl
  | k + 1, d => by rw [heapBuild, size_heapBuild hi first k, sift_size]
theorem sim_heap (d : Array α) (a b : Nat) (hab : a < b) (hb : b ≤ d.size) (hd : d.size ≤ 255) : g_heapSort lt d.toList (a : Int) (b : Int) = some ((heapSort lt d a b).toList, ()) := by
  unfold g_heapSort g_heapSort_l0 g_heapSort_l2 heapSort
  have z : rIsZero (2 : Int) = false := rfl
  have e1 : rArith .sub .i64 (b : Int) (a : Int) = ((b - a : Nat) : Int) := sS (by omega) (by omega)
  have e2 : rArith .sub .i64 ((b - a : Nat) : Int) 1 = ((b - a - 1 : Nat) : Int) := sS (m := 1) (by omega) (by omega)
  have e3 : rArith .quo .i64 ((b - a - 1 : Nat) : Int) (2 : Int) = (((b - a - 1) / 2 : Nat) : Int) := qS _ 2 (by omega)
  have hq : (b - a - 1) / 2 ≤ 255 := by omega
  have l0 := count_down (body := g_heapSort_b0 lt ((a : Int), (0 : Int), ((b - a : Nat) : Int), ())) (fun (s : Array α) (i : Int) => (s.toList, i, ())) (fun s => .inl (s.toList, ())) (fun i s => siftDown lt (b - a) a i s) (fun s => s.size = d.size) ((b - a - 1) / 2 + 1) (by omega) (fun i s hi hs => ⟨by
    unfold g_heapSort_b0
    simp only [ge0, cond_true, sim_sift (lt := lt) s i (b - a) a (by omega) (by omega) (by omega), Option.bind_some], by rw [sift_size]; exact hs⟩) (fun s => by
    unfold g_heapSort_b0
    simp only [ge0n, cond_false]) ((b - a - 1) / 2 + 1) d big (by omega) (lt_big (by omega)) rfl
  rw [← heapBuild_rec, show (((b - a - 1) / 2 + 1 : Nat) : Int) - 1 = (((b - a - 1) / 2 : Nat) : Int) by omega] at l0
  have l2 := count_down (body := g_heapSort_b2 lt ((a : Int), (0 : Int), ())) (fun (s : Array α) (i : Int) => (s.toList, i, ())) (fun s => .inl (s.toList, ())) (fun i s => siftDown lt i a 0 (swp s a (a + i))) (fun s => s.size = d.size) (b - a) (by omega) (fun i s hi hs => ⟨by
    unfold g_heapSort_b2
    have e4 : rArith .add .i64 (a : Int) (i : Int) = ((a + i : Nat) : Int) := aS (by omega)
    have e5 := sim_sift (lt := lt) (swp s a (a + i)) 0 i a (by rw [size_swp]; omega) (by omega) (by rw [size_swp]; omega)
    simp only [ge0, cond_true, e4, inA, gA, inP, swA, show a + i < s.size by omega, show a < s.size by omega, decide_true]
    rw [show (0 : Int) = ((0 : Nat) : Int) from rfl, e5]
    rfl, by rw [sift_size, size_swp]; exact hs⟩) (fun s => by
    unfold g_heapSort_b2
    simp only [ge0n, cond_false]) (b - a) (heapBuild lt (b - a) a ((b - a - 1) / 2 + 1) d) big (Nat.le_refl _) (lt_big (by omega)) (size_heapBuild _ _ _ _)
  rw [← heapPop_rec, show ((b - a : Nat) : Int) - 1 = ((b - a - 1 : Nat) : Int) by omega] at l2
  have hbd : heapBuild lt (b - a) a ((b - a - 1) / 2) (siftDown lt (b - a) a ((b - a - 1) / 2) d) = heapBuild lt (b - a) a ((b - a - 1) / 2 + 1) d := rfl
  simp only [z, cond_false, e1, e2, e3, l0, Option.bind_some, Sum.elim_inl, hbd, l2]
theorem scan_up {X Y : Type} {body : X → Option (X ⊕ Y)} (st : Nat → X) (fin : Nat → Y) (p : α → Bool) (d : Array α) (j : Nat) (hs : ∀ i, i ≤ 256 → body (st i) = some (bif decide (i ≤ j) && p d[i]! then .inl (st (i + 1)) else .inr (fin i))) (hj : j ≤ 255) :
    ∀ (k i n : Nat), j + 1 - i ≤ k → i ≤ 256 → k < n → iter body n (st i) = some (fin (scanUp p d j i)) := by
  intro k
  induction k with
  | zero =>
    intro i n hk hi hn
    obtain ⟨n, rfl⟩ : ∃ m, n = m + 1 := ⟨n - 1, by omega⟩
    have h : ¬ (i ≤ j) := by omega
    unfold scanUp
    simp only [h, decide_false, Bool.false_and, Bool.false_eq_true, if_false]
    refine iter_done ?_
    rw [hs i hi]
    simp only [h, decide_false, Bool.false_and, cond_false]
  | succ k ih =>
    intro i n hk hi hn
    obtain ⟨n, rfl⟩ : ∃ m, n = m + 1 := ⟨n - 1, by omega⟩
    unfold scanUp
    have h1 := hs i hi
    cases hc : (decide (i ≤ j) && p d[i]!) with
    | true =>
      rw [hc] at h1
      have : i ≤ j := of_decide_eq_true (Bool.and_eq_true _ _ ▸ hc).1
      simp only [if_true]
      rw [iter_next h1]
      exact ih (i + 1) n (by omega) (by omega) (by omega)
    | false =>
      rw [hc] at h1
      simp only [Bool.false_eq_true, if_false]
      exact iter_done h1
theorem scan_down {X Y : Type} {body : X → Option (X ⊕ Y)} (st : Nat → X) (fin : Nat → Y) (p : α → Bool) (d : Array α) (i : Nat) (hi : 0 < i) (hs : ∀ j, j ≤ 255 → j < d.size → body (st j) = some (bif decide (i ≤ j) && p d[j]! then .inl (st (j - 1)) else .inr (fin j))) :
    ∀ (j n : Nat), j < d.size → j ≤ 255 → j < n → iter body n (st j) = some (fin (scanDown p d i j)) := by
  intro j
  induction j with
  | zero =>
    intro n hj hj2 hn
    obtain ⟨n, rfl⟩ : ∃ m, n = m + 1 := ⟨n - 1, by omega⟩
    refine iter_done ?_
    rw [hs 0 (by omega) hj]
    simp only [show ¬ (i ≤ 0) by omega, decide_false, Bool.false_and, cond_false, scanDown]
  | succ j ih =>
    intro n hj hj2 hn
    obtain ⟨n, rfl⟩ : ∃ m, n = m + 1 := ⟨n - 1, by omega⟩
    unfold scanDown
    have h1 := hs (j + 1) hj2 hj
    cases hc : (decide (i ≤ j + 1) && p d[j + 1]!) with
    | true =>
      rw [hc] at h1
      simp only [if_true]
      rw [iter_next h1]
      exact ih n (by omega) (by omega) (by omega)
    | false =>
      rw [hc] at h1
      simp only [Bool.false_eq_true, if_false]
      exact iter_done h1
section
variable (d : Array α) (a : Nat) (hd : d.size ≤ 255) (ha : a < d.size)
include hd ha
theorem pq0 (j i : Nat) (hj : j < d.size) (hi : i ≤ 256) : g_partition_l0 lt ((a : Int), (j : Int), ()) (d.toList, (i : Int), ()) = some (.inl (d.toList, ((scanUp (fun x => lt x d[a]!) d j i : Nat) : Int), ())) := by
  refine scan_up (body := g_partition_b0 lt ((a : Int), (j : Int), ())) (fun i => (d.toList, (i : Int), ())) (fun i => Sum.inl (d.toList, (i : Int), ())) (fun x => lt x d[a]!) d j (fun i hi => ?_) (by omega) 256 i big (by omega) hi (lt_big (by omega))
  unfold g_partition_b0
  by_cases h : i ≤ j
  · simp only [leS, h, decide_true, cond_true, inA, gA, show i < d.size by omega, ha, Option.bind_some, Bool.true_and, succ64 (n := i) (by omega)]
    cases lt d[i]! d[a]! <;> rfl
  · simp only [leS, h, decide_false, cond_false, Bool.false_and]
theorem pq6 (j i : Nat) (hj : j < d.size) (hi : i ≤ 256) : g_partition_l6 lt ((a : Int), (j : Int), ()) (d.toList, (i : Int), ()) = some (.inl (d.toList, ((scanUp (fun x => lt x d[a]!) d j i : Nat) : Int), ())) := pq0 d a hd ha j i hj hi
theorem pq2 (i j : Nat) (hi : 0 < i) (hj : j < d.size) : g_partition_l2 lt ((a : Int), (i : Int), ()) (d.toList, (j : Int), ()) = some (.inl (d.toList, ((scanDown (fun x => !lt x d[a]!) d i j : Nat) : Int), ())) := by
  refine scan_down (body := g_partition_b2 lt ((a : Int), (i : Int), ())) (fun i => (d.toList, (i : Int), ())) (fun i => Sum.inl (d.toList, (i : Int), ())) (fun x => !lt x d[a]!) d i hi (fun j hj hj2 => ?_) j big hj (by omega) (lt_big (by omega))
  unfold g_partition_b2
  by_cases h : i ≤ j
  · have e : rArith .sub .i64 (j : Int) 1 = ((j - 1 : Nat) : Int) := sS (m := 1) (by omega) (by omega)
    simp only [leS, h, decide_true, cond_true, inA, gA, hj2, ha, Option.bind_some, Bool.true_and, e]
    cases lt d[j]! d[a]! <;> rfl
  · simp only [leS, h, decide_false, cond_false, Bool.false_and]
theorem pq8 (i j : Nat) (hi : 0 < i) (hj : j < d.size) : g_partition_l8 lt ((a : Int), (i : Int), ()) (d.toList, (j : Int), ()) = some (.inl (d.toList, ((scanDown (fun x => !lt x d[a]!) d i j : Nat) : Int), ())) := pq2 d a hd ha i j hi hj
theorem pe2 (j i : Nat) (hj : j < d.size) (hi : i ≤ 256) : g_partitionEqual_l2 lt ((a : Int), (j : Int), ()) (d.toList, (i : Int), ()) = some (.inl (d.toList, ((scanUp (fun x => !lt d[a]! x) d j i : Nat) : Int), ())) := by
  refine scan_up (body := g_partitionEqual_b2 lt ((a : Int), (j : Int), ())) (fun i => (d.toList, (i : Int), ())) (fun i => Sum.inl (d.toList, (i : Int), ())) (fun x => !lt d[a]! x) d j (fun i hi => ?_) (by omega) 256 i big (by omega) hi (lt_big (by omega))
  unfold g_partitionEqual_b2
  by_cases h : i ≤ j
  · simp only [leS, h, decide_true, cond_true, inA, gA, show i < d.size by omega, ha, Option.bind_some, Bool.true_and, succ64 (n := i) (by omega)]
    cases lt d[a]! d[i]! <;> rfl
  · simp only [leS, h, decide_false, cond_false, Bool.false_and]
theorem pe4 (i j : Nat) (hi : 0 < i) (hj : j < d.size) : g_partitionEqual_l4 lt ((a : Int), (i : Int), ()) (d.toList, (j : Int), ()) = some (.inl (d.toList, ((scanDown (fun x => lt d[a]! x) d i j : Nat) : Int), ())) := by
  refine scan_down (body := g_partitionEqual_b4 lt ((a : Int), (i : Int), ())) (fun i => (d.toList, (i : Int), ())) (fun i => Sum.inl (d.toList, (i : Int), ())) (fun x => lt d[a]! x) d i hi (fun j hj hj2 => ?_) j big hj (by omega) (lt_big (by omega))
  unfold g_partitionEqual_b4
  by_cases h : i ≤ j
  · have e : rArith .sub .i64 (j : Int) 1 = ((j - 1 : Nat) : Int) := sS (m := 1) (by omega) (by omega)
    simp only [leS, h, decide_true, cond_true, inA, gA, hj2, ha, Option.bind_some, Bool.true_and, e]
    cases lt d[a]! d[j]! <;> rfl
  · simp only [leS, h, decide_false, cond_false, Bool.false_and]
end
theorem part_loop (a : Nat) : ∀ (k i j : Nat) (d : Array α) (n : Nat), j + 1 - i ≤ k → d.size ≤ 255 → a < d.size → 0 < i → i ≤ 256 → j < d.size → k < n → iter (g_partition_b4 lt ((a : Int), ())) n (d.toList, (i : Int), (j : Int), ()) = some (.inl ((partLoop lt a i j d).2.toList, (((partLoop lt a i j d).1 : Nat) : Int), ())) := by
  intro k
  induction k with
  | zero =>
    intro i j d n hk hd ha hi hi2 hj hn
    obtain ⟨n, rfl⟩ : ∃ m, n = m + 1 := ⟨n - 1, by omega⟩
    rw [partLoop_eq]
    have h1 := scanUp_ge (fun x => lt x d[a]!) d j i
    have h2 := scanDown_le (fun x => !lt x d[a]!) d (scanUp (fun x => lt x d[a]!) d j i) j
    have h : scanUp (fun x => lt x d[a]!) d j i > scanDown (fun x => !lt x d[a]!) d (scanUp (fun x => lt x d[a]!) d j i) j := by omega
    rw [if_pos h]
    refine iter_done ?_
    unfold g_partition_b4
    simp only [pq6 (lt := lt) d a hd ha j i hj hi2, Option.bind_some, Sum.elim_inl, pq8 (lt := lt) d a hd ha (scanUp (fun x => lt x d[a]!) d j i) j (by omega) hj, gtS, h, decide_true, cond_true]
  | succ k ih =>
    intro i j d n hk hd ha hi hi2 hj hn
    obtain ⟨n, rfl⟩ : ∃ m, n = m + 1 := ⟨n - 1, by omega⟩
    rw [partLoop_eq]
    have h1 := scanUp_ge (fun x => lt x d[a]!) d j i
    have h2 := scanDown_le (fun x => !lt x d[a]!) d (scanUp (fun x => lt x d[a]!) d j i) j
    have hr : iter (g_partition_b4 lt ((a : Int), ())) (n + 1) (d.toList, (i : Int), (j : Int), ()) = iter (g_partition_b4 lt ((a : Int), ())) (n + 1) (d.toList, (i : Int), (j : Int), ()) := rfl
    by_cases h : scanUp (fun x => lt x d[a]!) d j i > scanDown (fun x => !lt x d[a]!) d (scanUp (fun x => lt x d[a]!) d j i) j
    · rw [if_pos h]
      refine iter_done ?_
      unfold g_partition_b4
      simp only [pq6 (lt := lt) d a hd ha j i hj hi2, Option.bind_some, Sum.elim_inl, pq8 (lt := lt) d a hd ha (scanUp (fun x => lt x d[a]!) d j i) j (by omega) hj, gtS, h, decide_true, cond_true]
    · rw [if_neg h]
      have e6 := pq6 (lt := lt) d a hd ha j i hj hi2
      have e8 := pq8 (lt := lt) d a hd ha (scanUp (fun x => lt x d[a]!) d j i) j (by omega) hj
      generalize scanDown (fun x => !lt x d[a]!) d (scanUp (fun x => lt x d[a]!) d j i) j = j2 at h h2 e8 ⊢
      generalize scanUp (fun x => lt x d[a]!) d j i = i2 at h h1 e6 e8 ⊢
      rw [← ih (i2 + 1) (j2 - 1) (swp d i2 j2) n (by omega) (by rw [size_swp]; omega) (by rw [size_swp]; omega) (by omega) (by omega) (by rw [size_swp]; omega) (by omega)]
      refine iter_next ?_
      have e : rArith .sub .i64 (j2 : Int) 1 = ((j2 - 1 : Nat) : Int) := sS (m := 1) (by omega) (by omega)
      unfold g_partition_b4
      simp only [e6, Option.bind_some, Sum.elim_inl, e8, gtS, h, decide_false, cond_false, inA, gA, inP, show i2 < d.size by omega, show j2 < d.size by omega, decide_true, cond_true, swA, e, succ64 (n := i2) (by omega)]
theorem parteq_loop (a : Nat) : ∀ (k i j : Nat) (d : Array α) (n : Nat), j + 1 - i ≤ k → d.size ≤ 255 → a < d.size → 0 < i → i ≤ 256 → j < d.size → k < n → iter (g_partitionEqual_b0 lt ((a : Int), ())) n (d.toList, (i : Int), (j : Int), ()) = some (.inl ((partEqLoop lt a i j d).2.toList, (((partEqLoop lt a i j d).1 : Nat) : Int), ())) := by
  intro k
  induction k with
  | zero =>
    intro i j d n hk hd ha hi hi2 hj hn
    obtain ⟨n, rfl⟩ : ∃ m, n = m + 1 := ⟨n - 1, by omega⟩
    rw [partEqLoop_eq]
    have h1 := scanUp_ge (fun x => !lt d[a]! x) d j i
    have h2 := scanDown_le (fun x => lt d[a]! x) d (scanUp (fun x => !lt d[a]! x) d j i) j
    have h : scanUp (fun x => !lt d[a]! x) d j i > scanDown (fun x => lt d[a]! x) d (scanUp (fun x => !lt d[a]! x) d j i) j := by omega
    rw [if_pos h]
    refine iter_done ?_
    unfold g_partitionEqual_b0
    simp only [pe2 (lt := lt) d a hd ha j i hj hi2, Option.bind_some, Sum.elim_inl, pe4 (lt := lt) d a hd ha (scanUp (fun x => !lt d[a]! x) d j i) j (by omega) hj, gtS, h, decide_true, cond_true]
  | succ k ih =>
    intro i j d n hk hd ha hi hi2 hj hn
    obtain ⟨n, rfl⟩ : ∃ m, n = m + 1 := ⟨n - 1, by omega⟩
    rw [partEqLoop_eq]
    have h1 := scanUp_ge (fun x => !lt d[a]! x) d j i
    have h2 := scanDown_le (fun x => lt d[a]! x) d (scanUp (fun x => !lt d[a]! x) d j i) j
    by_cases h : scanUp (fun x => !lt d[a]! x) d j i > scanDown (fun x => lt d[a]! x) d (scanUp (fun x => !lt d[a]! x) d j i) j
    · rw [if_pos h]
      refine iter_done ?_
      unfold g_partitionEqual_b0
      simp only [pe2 (lt := lt) d a hd ha j i hj hi2, Option.bind_some, Sum.elim_inl, pe4 (lt := lt) d a hd ha (scanUp (fun x => !lt d[a]! x) d j i) j (by omega) hj, gtS, h, decide_true, cond_true]
    · rw [if_neg h]
      have e6 := pe2 (lt := lt) d a hd ha j i hj hi2
      have e8 := pe4 (lt := lt) d a hd ha (scanUp (fun x => !lt d[a]! x) d j i) j (by omega) hj
      generalize scanDown (fun x => lt d[a]! x) d (scanUp (fun x => !lt d[a]! x) d j i) j = j2 at h h2 e8 ⊢
      generalize scanUp (fun x => !lt d[a]! x) d j i = i2 at h h1 e6 e8 ⊢
      rw [← ih (i2 + 1) (j2 - 1) (swp d i2 j2) n (by omega) (by rw [size_swp]; omega) (by rw [size_swp]; omega) (by omega) (by omega) (by rw [size_swp]; omega) (by omega)]
      refine iter_next ?_
      have e : rArith .sub .i64 (j2 : Int) 1 = ((j2 - 1 : Nat) : Int) := sS (m := 1) (by omega) (by omega)
      unfold g_partitionEqual_b0
      simp only [e6, Option.bind_some, Sum.elim_inl, e8, gtS, h, decide_false, cond_false, inA, gA, inP, show i2 < d.size by omega, show j2 < d.size by omega, decide_true, cond_true, swA, e, succ64 (n := i2) (by omega)]
theorem sim_parteq (d : Array α) (a b p : Nat) (hab : a < b) (hb : b ≤ d.size) (hd : d.size ≤ 255) (hp : p < d.size) : g_partitionEqual lt d.toList (a : Int) (b : Int) (p : Int) = some ((((partitionEqual lt d a b p).1 : Nat) : Int), (partitionEqual lt d a b p).2.toList, ()) := by
  unfold g_partitionEqual g_partitionEqual_l0 partitionEqual
  have e : rArith .sub .i64 (b : Int) 1 = ((b - 1 : Nat) : Int) := sS (m := 1) (by omega) (by omega)
  simp only [inA, gA, inP, show a < d.size by omega, hp, decide_true, cond_true, swA, e, succ64 (n := a) (by omega), parteq_loop (lt := lt) a 256 (a + 1) (b - 1) (swp d a p) big (by omega) (by rw [size_swp]; omega) (by rw [size_swp]; omega) (by omega) (by omega) (by rw [size_swp]; omega) (lt_big (by omega)), Option.bind_some, Sum.elim_inl]
theorem partLoop_size (a : Nat) : ∀ (k i j : Nat) (d : Array α), j + 1 - i ≤ k → (partLoop lt a i j d).2.size = d.size ∧ (partLoop lt a i j d).1 ≤ j := by
  intro k
  induction k with
  | zero =>
    intro i j d hk
    rw [partLoop_eq]
    have h1 := scanUp_ge (fun x => lt x d[a]!) d j i
    have h2 := scanDown_le (fun x => !lt x d[a]!) d (scanUp (fun x => lt x d[a]!) d j i) j
    rw [if_pos (by omega)]
    exact ⟨rfl, h2⟩
  | succ k ih =>
    intro i j d hk
    rw [partLoop_eq]
    have h1 := scanUp_ge (fun x => lt x d[a]!) d j i
    have h2 := scanDown_le (fun x => !lt x d[a]!) d (scanUp (fun x => lt x d[a]!) d j i) j
    split
    · exact ⟨rfl, h2⟩
    · obtain ⟨h3, h4⟩ := ih (scanUp (fun x => lt x d[a]!) d j i + 1) (scanDown (fun x => !lt x d[a]!) d (scanUp (fun x => lt x d[a]!) d j i) j - 1) (swp d (scanUp (fun x => lt x d[a]!) d j i) (scanDown (fun x => !lt x d[a]!) d (scanUp (fun x => lt x d[a]!) d j i) j)) (by omega)
      exact ⟨by rw [h3, size_swp], by omega⟩
theorem sim_part (d : Array α) (a b p : Nat) (hab : a < b) (hb : b ≤ d.size) (hd : d.size ≤ 255) (hp : p < d.size) : g_partition lt d.toList (a : Int) (b : Int) (p : Int) = some ((((partition lt d a b p).1 : Nat) : Int), (partition lt d a b p).2.1, (partition lt d a b p).2.2.toList, ()) := by
  unfold g_partition g_partition_l4 partition
  have e : rArith .sub .i64 (b : Int) 1 = ((b - 1 : Nat) : Int) := sS (m := 1) (by omega) (by omega)
  have hs : (swp d a p).size = d.size := size_swp _ _ _
  have e0 := pq0 (lt := lt) (swp d a p) a (by omega) (by omega) (b - 1) (a + 1) (by omega) (by omega)
  have h1 := scanUp_ge (fun x => lt x (swp d a p)[a]!) (swp d a p) (b - 1) (a + 1)
  have e2 := pq2 (lt := lt) (swp d a p) a (by omega) (by omega) (scanUp (fun x => lt x (swp d a p)[a]!) (swp d a p) (b - 1) (a + 1)) (b - 1) (by omega) (by omega)
  have h2 := scanDown_le (fun x => !lt x (swp d a p)[a]!) (swp d a p) (scanUp (fun x => lt x (swp d a p)[a]!) (swp d a p) (b - 1) (a + 1)) (b - 1)
  simp only [inA, gA, inP, show a < d.size by omega, hp, decide_true, cond_true, swA, e, succ64 (n := a) (by omega), e0, e2, Option.bind_some, Sum.elim_inl]
  generalize scanDown (fun x => !lt x (swp d a p)[a]!) (swp d a p) (scanUp (fun x => lt x (swp d a p)[a]!) (swp d a p) (b - 1) (a + 1)) (b - 1) = j2 at h2 e2 ⊢
  generalize scanUp (fun x => lt x (swp d a p)[a]!) (swp d a p) (b - 1) (a + 1) = i2 at h1 e0 e2 ⊢
  by_cases h : i2 > j2
  · simp only [gtS, h, decide_true, cond_true, if_true, inA, gA, inP, hs, show a < d.size by omega, show j2 < d.size by omega, swA]
  · have e3 : rArith .sub .i64 (j2 : Int) 1 = ((j2 - 1 : Nat) : Int) := sS (m := 1) (by omega) (by omega)
    have hs2 : (swp (swp d a p) i2 j2).size = d.size := by rw [size_swp, hs]
    have e4 := part_loop (lt := lt) a 256 (i2 + 1) (j2 - 1) (swp (swp d a p) i2 j2) big (by omega) (by omega) (by omega) (by omega) (by omega) (by omega) (lt_big (by omega))
    obtain ⟨h3, h4⟩ := partLoop_size (lt := lt) a 256 (i2 + 1) (j2 - 1) (swp (swp d a p) i2 j2) (by omega)
    simp only [gtS, h, decide_false, cond_false, if_false, inA, gA, inP, hs, show i2 < d.size by omega, show j2 < d.size by omega, swA, decide_true, cond_true, e3, succ64 (n := i2) (by omega), e4, Option.bind_some, Sum.elim_inl, h3, hs2, show a < d.size by omega, show (partLoop lt a (i2 + 1) (j2 - 1) (swp (swp d a p) i2 j2)).1 < d.size by omega]
end
end Go.Fn
set_option linter.unusedSimpArgs false
set_option linter.unusedVariables false
namespace Go.Fn
open Go.R Go.Sort
section
variable {α : Type} [Inhabited α] {lt : α → α → Bool}
theorem size_shiftDown : ∀ j (d : Array α), (shiftDown lt j d).size = d.size
  | 0, _ => rfl
  | j + 1, d => by
    unfold shiftDown
    split
    · rfl
    · rw [size_shiftDown j, size_swp]
theorem size_shiftUp (b : Nat) : ∀ (k j : Nat) (d : Array α), b - j ≤ k → (shiftUp lt b j d).size = d.size := by
  intro k
  induction k with
  | zero => intro j d h; unfold shiftUp; rw [if_neg (by omega)]
  | succ k ih =>
    intro j d h
    unfold shiftUp
    split
    · split
      · rfl
      · rw [ih (j + 1) _ (by omega), size_swp]
    · rfl
theorem scanSorted_ge (d : Array α) (b : Nat) : ∀ (k i : Nat), b - i ≤ k → i ≤ scanSorted lt d b i ∧ (i ≤ b → scanSorted lt d b i ≤ b) := by
  intro k
  induction k with
  | zero =>
    intro i h; unfold scanSorted
    have : ¬ (i < b) := by omega
    simp only [this, decide_false, Bool.false_and, Bool.false_eq_true, if_false]
    exact ⟨Nat.le_refl _, fun h => h⟩
  | succ k ih =>
    intro i h
    unfold scanSorted
    split
    · rename_i hc
      simp only [Bool.and_eq_true, decide_eq_true_eq] at hc
      have := ih (i + 1) (by omega)
      exact ⟨by omega, fun _ => this.2 (by omega)⟩
    · exact ⟨Nat.le_refl _, fun h => h⟩
theorem pi2 (d : Array α) (hd : d.size ≤ 255) (a b j : Int) (bn : Nat) (hb : bn ≤ d.size) : ∀ (k i n : Nat), bn - i ≤ k → 0 < i → i ≤ 256 → k < n → iter (g_partialInsertionSort_b2 lt (a, (bn : Int), j, ())) n (d.toList, (i : Int), ()) = some (.inl (d.toList, ((scanSorted lt d bn i : Nat) : Int), ())) := by
  intro k
  induction k with
  | zero =>
    intro i n hk h0 hi hn
    obtain ⟨n, rfl⟩ : ∃ m, n = m + 1 := ⟨n - 1, by omega⟩
    refine iter_done ?_
    have h : ¬ (i < bn) := by omega
    unfold g_partialInsertionSort_b2 scanSorted
    simp only [ltS, h, decide_false, cond_false, Bool.false_and, Bool.false_eq_true, if_false]
  | succ k ih =>
    intro i n hk h0 hi hn
    obtain ⟨n, rfl⟩ : ∃ m, n = m + 1 := ⟨n - 1, by omega⟩
    unfold scanSorted
    by_cases h : i < bn
    · have e : rArith .sub .i64 (i : Int) 1 = ((i - 1 : Nat) : Int) := sS (m := 1) (by omega) (by omega)
      cases hl : lt d[i]! d[i - 1]! with
      | true =>
        simp only [Bool.not_true, Bool.and_false, Bool.false_eq_true, if_false]
        refine iter_done ?_
        unfold g_partialInsertionSort_b2
        simp only [ltS, h, decide_true, cond_true, e, inA, gA, show i < d.size by omega, show i - 1 < d.size by omega, Option.bind_some, hl, Bool.not_true, cond_false]
      | false =>
        simp only [h, Bool.not_false, Bool.and_true, decide_true, if_true]
        rw [← ih (i + 1) n (by omega) (by omega) (by omega) (by omega)]
        refine iter_next ?_
        unfold g_partialInsertionSort_b2
        simp only [ltS, h, decide_true, cond_true, e, inA, gA, show i < d.size by omega, show i - 1 < d.size by omega, Option.bind_some, hl, Bool.not_false, succ64 (n := i) (by omega)]
    · simp only [h, decide_false, Bool.false_and, Bool.false_eq_true, if_false]
      refine iter_done ?_
      unfold g_partialInsertionSort_b2
      simp only [ltS, h, decide_false, cond_false]
theorem pi4 (k : Int × Int × Int × Int × Unit) : ∀ (j : Nat) (d : Array α) (n : Nat), j < d.size → d.size ≤ 255 → j < n → iter (g_partialInsertionSort_b4 lt k) n (d.toList, (j : Int), ()) = some (.inl ((shiftDown lt j d).toList, ())) := by
  intro j
  induction j with
  | zero =>
    intro d n hj hd hn
    obtain ⟨n, rfl⟩ : ∃ m, n = m + 1 := ⟨n - 1, by omega⟩
    exact iter_done rfl
  | succ j ih =>
    intro d n hj hd hn
    obtain ⟨n, rfl⟩ : ∃ m, n = m + 1 := ⟨n - 1, by omega⟩
    have e1 : rArith .sub .i64 ((j + 1 : Nat) : Int) (1 : Int) = (j : Int) := pred64 (by omega)
    have g : rCmp .geq ((j + 1 : Nat) : Int) (1 : Int) = true := (geS (j + 1) 1).trans (decide_eq_true (by omega))
    unfold shiftDown
    cases hl : lt d[j + 1]! d[j]! with
    | true =>
      simp only [Bool.not_true, Bool.false_eq_true, if_false]
      rw [← ih (swp d (j + 1) j) n (by rw [size_swp]; omega) (by rw [size_swp]; omega) (by omega)]
      refine iter_next ?_
      unfold g_partialInsertionSort_b4
      simp only [g, cond_true, e1, inA, gA, inP, hj, show j < d.size by omega, decide_true, Option.bind_some, hl, Bool.not_true, cond_false, swA]
    | false =>
      simp only [Bool.not_false, if_true]
      refine iter_done ?_
      unfold g_partialInsertionSort_b4
      simp only [g, cond_true, e1, inA, gA, inP, hj, show j < d.size by omega, decide_true, Option.bind_some, hl, Bool.not_false]
theorem pi6 (a b i j : Int) (bn : Nat) : ∀ (k jn : Nat) (d : Array α) (n : Nat), bn - jn ≤ k → 0 < jn → jn ≤ 256 → bn ≤ d.size → d.size ≤ 255 → k < n → iter (g_partialInsertionSort_b6 lt (a, (bn : Int), i, j, ())) n (d.toList, (jn : Int), ()) = some (.inl ((shiftUp lt bn jn d).toList, ())) := by
  intro k
  induction k with
  | zero =>
    intro jn d n hk h0 h1 hb hd hn
    obtain ⟨n, rfl⟩ : ∃ m, n = m + 1 := ⟨n - 1, by omega⟩
    have h : ¬ (jn < bn) := by omega
    unfold shiftUp
    rw [if_neg h]
    refine iter_done ?_
    unfold g_partialInsertionSort_b6
    simp only [ltS, h, decide_false, cond_false]
  | succ k ih =>
    intro jn d n hk h0 h1 hb hd hn
    obtain ⟨n, rfl⟩ : ∃ m, n = m + 1 := ⟨n - 1, by omega⟩
    unfold shiftUp
    by_cases h : jn < bn
    · have e : rArith .sub .i64 (jn : Int) 1 = ((jn - 1 : Nat) : Int) := sS (m := 1) (by omega) (by omega)
      simp only [h, if_true]
      cases hl : lt d[jn]! d[jn - 1]! with
      | true =>
        simp only [Bool.not_true, Bool.false_eq_true, if_false]
        rw [← ih (jn + 1) (swp d jn (jn - 1)) n (by omega) (by omega) (by omega) (by rw [size_swp]; omega) (by rw [size_swp]; omega) (by omega)]
        refine iter_next ?_
        unfold g_partialInsertionSort_b6
        simp only [ltS, h, decide_true, cond_true, e, inA, gA, inP, show jn < d.size by omega, show jn - 1 < d.size by omega, Option.bind_some, hl, Bool.not_true, cond_false, swA, succ64 (n := jn) (by omega)]
      | false =>
        simp only [Bool.not_false, if_true]
        refine iter_done ?_
        unfold g_partialInsertionSort_b6
        simp only [ltS, h, decide_true, cond_true, e, inA, gA, inP, show jn < d.size by omega, show jn - 1 < d.size by omega, Option.bind_some, hl, Bool.not_false]
    · simp only [h, if_false]
      refine iter_done ?_
      unfold g_partialInsertionSort_b6
      simp only [ltS, h, decide_false, cond_false]
theorem pi0 (a b : Nat) (hab : a < b) : ∀ (s : Nat), s ≤ 5 → ∀ (i : Nat) (d : Array α) (n : Nat), a < i → i ≤ b → b ≤ d.size → d.size ≤ 255 → s < n →
    ∃ q, iter (g_partialInsertionSort_b0 lt ((a : Int), (b : Int), ())) n (d.toList, (i : Int), ((5 - s : Nat) : Int), ()) = some q ∧ (q = .inl ((partialIns lt a b s i d).1.toList, (partialIns lt a b s i d).2, ()) ∨ ((partialIns lt a b s i d).2 = false ∧ q = .inr (.inl ((partialIns lt a b s i d).1.toList, ())))) := by
  intro s
  induction s with
  | zero =>
    intro hs i d n ha hi hb hd hn
    obtain ⟨n, rfl⟩ : ∃ m, n = m + 1 := ⟨n - 1, by omega⟩
    exact ⟨_, iter_done rfl, .inr ⟨rfl, rfl⟩⟩
  | succ s ih =>
    intro hs i d n ha hi hb hd hn
    obtain ⟨n, rfl⟩ : ∃ m, n = m + 1 := ⟨n - 1, by omega⟩
    have g5 : rCmp .lss ((5 - (s + 1) : Nat) : Int) (5 : Int) = true := (ltS (5 - (s + 1)) 5).trans (decide_eq_true (by omega))
    have e2 : g_partialInsertionSort_l2 lt ((a : Int), (b : Int), ((5 - (s + 1) : Nat) : Int), ()) (d.toList, (i : Int), ()) = _ := pi2 (lt := lt) d hd (a : Int) (b : Int) ((5 - (s + 1) : Nat) : Int) b hb 256 i big (by omega) (by omega) (by omega) (lt_big (by omega))
    have eb : rArith .sub .i64 (b : Int) (a : Int) = ((b - a : Nat) : Int) := sS (by omega) (by omega)
    have es : rArith .add .i64 ((5 - (s + 1) : Nat) : Int) 1 = ((5 - s : Nat) : Int) := by rw [succ64 (by omega)]; congr 1; omega
    obtain ⟨h1, h2⟩ := scanSorted_ge (lt := lt) d b (b - i) i (Nat.le_refl _)
    have h2 := h2 hi
    unfold partialIns
    simp only []
    generalize scanSorted lt d b i = i2 at e2 h1 h2 ⊢
    by_cases hbi : i2 = b
    · subst hbi
      rw [if_pos rfl]
      refine ⟨_, iter_done ?_, .inl rfl⟩
      unfold g_partialInsertionSort_b0
      simp only [g5, cond_true, e2, Option.bind_some, Sum.elim_inl, eqS, decide_true]
    · rw [if_neg hbi]
      by_cases h50 : b - a < 50
      · rw [if_pos h50]
        refine ⟨_, iter_done ?_, .inl rfl⟩
        unfold g_partialInsertionSort_b0
        simp only [g5, cond_true, e2, Option.bind_some, Sum.elim_inl, eqS, hbi, decide_false, cond_false, eb, show rCmp .lss ((b - a : Nat) : Int) (50 : Int) = true from (ltS (b - a) 50).trans (decide_eq_true h50)]
      · rw [if_neg h50]
        have e50 : rCmp .lss ((b - a : Nat) : Int) (50 : Int) = false := (ltS (b - a) 50).trans (decide_eq_false h50)
        have em : rArith .sub .i64 (i2 : Int) 1 = ((i2 - 1 : Nat) : Int) := sS (m := 1) (by omega) (by omega)
        have ea : rArith .sub .i64 (i2 : Int) (a : Int) = ((i2 - a : Nat) : Int) := sS (by omega) (by omega)
        have ebi : rArith .sub .i64 (b : Int) (i2 : Int) = ((b - i2 : Nat) : Int) := sS (by omega) (by omega)
        have hsz : (swp d i2 (i2 - 1)).size = d.size := size_swp _ _ _
        have e4 : g_partialInsertionSort_l4 lt ((a : Int), (b : Int), (i2 : Int), ((5 - (s + 1) : Nat) : Int), ()) ((swp d i2 (i2 - 1)).toList, ((i2 - 1 : Nat) : Int), ()) = _ := pi4 (lt := lt) ((a : Int), (b : Int), (i2 : Int), ((5 - (s + 1) : Nat) : Int), ()) (i2 - 1) (swp d i2 (i2 - 1)) big (by omega) (by omega) (lt_big (by omega))
        have e6 : ∀ d' : Array α, d'.size = d.size → g_partialInsertionSort_l6 lt ((a : Int), (b : Int), (i2 : Int), ((5 - (s + 1) : Nat) : Int), ()) (d'.toList, ((i2 + 1 : Nat) : Int), ()) = some (.inl ((shiftUp lt b (i2 + 1) d').toList, ())) := fun d' hd' => pi6 (lt := lt) (a : Int) (b : Int) (i2 : Int) ((5 - (s + 1) : Nat) : Int) b 256 (i2 + 1) d' big (by omega) (by omega) (by omega) (by omega) (by omega) (lt_big (by omega))
        have hd4 : (shiftDown lt (i2 - 1) (swp d i2 (i2 - 1))).size = d.size := by rw [size_shiftDown, hsz]
        have hf : ∀ d' : Array α, d'.size = d.size → (shiftUp lt b (i2 + 1) d').size = d.size := fun d' h => by rw [size_shiftUp b b _ _ (by omega), h]
        by_cases hA : i2 - a ≥ 2
        · have gA2 : rCmp .geq ((i2 - a : Nat) : Int) (2 : Int) = true := (geS (i2 - a) 2).trans (decide_eq_true hA)
          by_cases hB : b - i2 ≥ 2
          · have gB2 : rCmp .geq ((b - i2 : Nat) : Int) (2 : Int) = true := (geS (b - i2) 2).trans (decide_eq_true hB)
            simp only [hA, hB, if_true]
            obtain ⟨q, hq, hq'⟩ := ih (by omega) i2 (shiftUp lt b (i2 + 1) (shiftDown lt (i2 - 1) (swp d i2 (i2 - 1)))) n (by omega) (by omega) (by rw [hf _ hd4]; omega) (by rw [hf _ hd4]; omega) (by omega)
            refine ⟨q, ?_, hq'⟩
            rw [← hq]
            refine iter_next ?_
            unfold g_partialInsertionSort_b0
            simp only [g5, cond_true, e2, Option.bind_some, Sum.elim_inl, eqS, hbi, decide_false, cond_false, eb, e50, em, inA, gA, inP, show i2 < d.size by omega, show i2 - 1 < d.size by omega, decide_true, swA, ea, gA2, e4, ebi, gB2, succ64 (n := i2) (by omega), e6 _ hd4, es]
          · have gB2 : rCmp .geq ((b - i2 : Nat) : Int) (2 : Int) = false := (geS (b - i2) 2).trans (decide_eq_false hB)
            simp only [hA, hB, if_true, if_false]
            obtain ⟨q, hq, hq'⟩ := ih (by omega) i2 (shiftDown lt (i2 - 1) (swp d i2 (i2 - 1))) n (by omega) (by omega) (by rw [hd4]; omega) (by rw [hd4]; omega) (by omega)
            refine ⟨q, ?_, hq'⟩
            rw [← hq]
            refine iter_next ?_
            unfold g_partialInsertionSort_b0
            simp only [g5, cond_true, e2, Option.bind_some, Sum.elim_inl, eqS, hbi, decide_false, cond_false, eb, e50, em, inA, gA, inP, show i2 < d.size by omega, show i2 - 1 < d.size by omega, decide_true, swA, ea, gA2, e4, ebi, gB2, es]
        · have gA2 : rCmp .geq ((i2 - a : Nat) : Int) (2 : Int) = false := (geS (i2 - a) 2).trans (decide_eq_false hA)
          by_cases hB : b - i2 ≥ 2
          · have gB2 : rCmp .geq ((b - i2 : Nat) : Int) (2 : Int) = true := (geS (b - i2) 2).trans (decide_eq_true hB)
            simp only [hA, hB, if_true, if_false]
            obtain ⟨q, hq, hq'⟩ := ih (by omega) i2 (shiftUp lt b (i2 + 1) (swp d i2 (i2 - 1))) n (by omega) (by omega) (by rw [hf _ hsz]; omega) (by rw [hf _ hsz]; omega) (by omega)
            refine ⟨q, ?_, hq'⟩
            rw [← hq]
            refine iter_next ?_
            unfold g_partialInsertionSort_b0
            simp only [g5, cond_true, e2, Option.bind_some, Sum.elim_inl, eqS, hbi, decide_false, cond_false, eb, e50, em, inA, gA, inP, show i2 < d.size by omega, show i2 - 1 < d.size by omega, decide_true, swA, ea, gA2, ebi, gB2, succ64 (n := i2) (by omega), e6 _ hsz, es]
          · have gB2 : rCmp .geq ((b - i2 : Nat) : Int) (2 : Int) = false := (geS (b - i2) 2).trans (decide_eq_false hB)
            simp only [hA, hB, if_false]
            obtain ⟨q, hq, hq'⟩ := ih (by omega) i2 (swp d i2 (i2 - 1)) n (by omega) (by omega) (by rw [hsz]; omega) (by rw [hsz]; omega) (by omega)
            refine ⟨q, ?_, hq'⟩
            rw [← hq]
            refine iter_next ?_
            unfold g_partialInsertionSort_b0
            simp only [g5, cond_true, e2, Option.bind_some, Sum.elim_inl, eqS, hbi, decide_false, cond_false, eb, e50, em, inA, gA, inP, show i2 < d.size by omega, show i2 - 1 < d.size by omega, decide_true, swA, ea, gA2, ebi, gB2, es]
theorem sim_partial (d : Array α) (a b : Nat) (hab : a < b) (hb : b ≤ d.size) (hd : d.size ≤ 255) : g_partialInsertionSort lt d.toList (a : Int) (b : Int) = some ((partialInsertionSort lt d a b).2, (partialInsertionSort lt d a b).1.toList, ()) := by
  unfold g_partialInsertionSort g_partialInsertionSort_l0 partialInsertionSort
  obtain ⟨q, hq, rfl | ⟨h2, rfl⟩⟩ := pi0 (lt := lt) a b hab 5 (Nat.le_refl _) (a + 1) d big (by omega) (by omega) hb hd (lt_big (by omega))
  · rw [succ64 (n := a) (by omega)]
    rw [show (0 : Int) = ((5 - 5 : Nat) : Int) from rfl, hq]
    rfl
  · rw [succ64 (n := a) (by omega)]
    rw [show (0 : Int) = ((5 - 5 : Nat) : Int) from rfl, hq, h2]
    rfl
theorem rev_loop (a b : Nat) : ∀ (k i j : Nat) (d : Array α) (n : Nat), j - i ≤ k → a ≤ i → j < b → b ≤ d.size → d.size ≤ 255 → i ≤ 300 → k < n → ∃ d', iter (g_reverseRange_b0 lt ()) n (d.toList, (i : Int), (j : Int), ()) = some (.inl (d'.toList, ())) ∧ PermIn a b d d' := by
  intro k
  induction k with
  | zero =>
    intro i j d n hk ha hj hb hd hi hn
    obtain ⟨n, rfl⟩ : ∃ m, n = m + 1 := ⟨n - 1, by omega⟩
    refine ⟨d, iter_done ?_, permIn_refl d a b⟩
    unfold g_reverseRange_b0
    simp only [ltS, show ¬ (i < j) by omega, decide_false, cond_false]
  | succ k ih =>
    intro i j d n hk ha hj hb hd hi hn
    obtain ⟨n, rfl⟩ : ∃ m, n = m + 1 := ⟨n - 1, by omega⟩
    by_cases h : i < j
    · obtain ⟨d', h1, h2⟩ := ih (i + 1) (j - 1) (swp d i j) n (by omega) (by omega) (by omega) (by rw [size_swp]; omega) (by rw [size_swp]; omega) (by omega) (by omega)
      refine ⟨d', ?_, permIn_trans _ _ _ a b (swp_permIn d a b i j ha (by omega) (by omega) hj hb) h2⟩
      rw [← h1]
      refine iter_next ?_
      have e : rArith .sub .i64 (j : Int) 1 = ((j - 1 : Nat) : Int) := sS (m := 1) (by omega) (by omega)
      unfold g_reverseRange_b0
      simp only [ltS, h, decide_true, cond_true, inA, gA, inP, show i < d.size by omega, show j < d.size by omega, swA, e, succ64 (n := i) (by omega)]
    · refine ⟨d, iter_done ?_, permIn_refl d a b⟩
      unfold g_reverseRange_b0
      simp only [ltS, h, decide_false, cond_false]
theorem spec_rev (d : Array α) (a b : Nat) (hab : a < b) (hb : b ≤ d.size) (hd : d.size ≤ 255) : ∃ d', g_reverseRange lt d.toList (a : Int) (b : Int) = some (d'.toList, ()) ∧ PermIn a b d d' := by
  obtain ⟨d', h1, h2⟩ := rev_loop (lt := lt) a b 256 a (b - 1) d big (by omega) (Nat.le_refl _) (by omega) hb hd (by omega) (lt_big (by omega))
  refine ⟨d', ?_, h2⟩
  have e : rArith .sub .i64 (b : Int) 1 = ((b - 1 : Nat) : Int) := sS (m := 1) (by omega) (by omega)
  unfold g_reverseRange g_reverseRange_l0
  rw [e, h1]
  rfl
theorem spec_order2 (d : Array α) (a b : Nat) (s : Int) (ha : a < d.size) (hb : b < d.size) : ∃ s', g_order2 lt d.toList (a : Int) (b : Int) s = some ((a : Int), (b : Int), s', ()) ∨ g_order2 lt d.toList (a : Int) (b : Int) s = some ((b : Int), (a : Int), s', ()) := by
  unfold g_order2
  simp only [inA, gA, ha, hb, decide_true, cond_true, Option.bind_some]
  cases lt d[b]! d[a]!
  · exact ⟨_, .inl rfl⟩
  · exact ⟨_, .inr rfl⟩
theorem spec_median (d : Array α) (a b c : Nat) (s : Int) (ha : a < d.size) (hb : b < d.size) (hc : c < d.size) : ∃ (m : Nat) (s' : Int), g_median lt d.toList (a : Int) (b : Int) (c : Int) s = some ((m : Int), s', ()) ∧ (m = a ∨ m = b ∨ m = c) := by
  unfold g_median
  obtain ⟨s1, h1 | h1⟩ := spec_order2 (lt := lt) d a b s ha hb
  · obtain ⟨s2, h2 | h2⟩ := spec_order2 (lt := lt) d b c s1 hb hc
    · obtain ⟨s3, h3 | h3⟩ := spec_order2 (lt := lt) d a b s2 ha hb
      · exact ⟨b, s3, by simp only [h1, h2, h3, Option.bind_some], .inr (.inl rfl)⟩
      · exact ⟨a, s3, by simp only [h1, h2, h3, Option.bind_some], .inl rfl⟩
    · obtain ⟨s3, h3 | h3⟩ := spec_order2 (lt := lt) d a c s2 ha hc
      · exact ⟨c, s3, by simp only [h1, h2, h3, Option.bind_some], .inr (.inr rfl)⟩
      · exact ⟨a, s3, by simp only [h1, h2, h3, Option.bind_some], .inl rfl⟩
  · obtain ⟨s2, h2 | h2⟩ := spec_order2 (lt := lt) d a c s1 ha hc
    · obtain ⟨s3, h3 | h3⟩ := spec_order2 (lt := lt) d b a s2 hb ha
      · exact ⟨a, s3, by simp only [h1, h2, h3, Option.bind_some], .inl rfl⟩
      · exact ⟨b, s3, by simp only [h1, h2, h3, Option.bind_some], .inr (.inl rfl)⟩
    · obtain ⟨s3, h3 | h3⟩ := spec_order2 (lt := lt) d b c s2 hb hc
      · exact ⟨c, s3, by simp only [h1, h2, h3, Option.bind_some], .inr (.inr rfl)⟩
      · exact ⟨b, s3, by simp only [h1, h2, h3, Option.bind_some], .inr (.inl rfl)⟩
theorem spec_adj (d : Array α) (a : Nat) (s : Int) (ha : 0 < a) (ha2 : a + 1 < d.size) (hd : d.size ≤ 255) : ∃ (m : Nat) (s' : Int), g_medianAdjacent lt d.toList (a : Int) s = some ((m : Int), s', ()) ∧ (m = a - 1 ∨ m = a ∨ m = a + 1) := by
  have e : rArith .sub .i64 (a : Int) 1 = ((a - 1 : Nat) : Int) := sS (m := 1) (by omega) (by omega)
  obtain ⟨m, s', h1, h2⟩ := spec_median (lt := lt) d (a - 1) a (a + 1) s (by omega) (by omega) (by omega)
  refine ⟨m, s', ?_, h2⟩
  unfold g_medianAdjacent
  rw [e, succ64 (n := a) (by omega), h1]
  rfl
theorem hint_some (p c : Int) : ∃ h : Int, (bif (rCmp .eql c (0 : Int)) then some (p, (1 : Int), ()) else (bif (rCmp .eql c (12 : Int)) then some (p, (2 : Int), ()) else some (p, (0 : Int), ()))) = some (p, h, ()) := by
  cases rCmp .eql c (0 : Int)
  · cases rCmp .eql c (12 : Int) <;> exact ⟨_, rfl⟩
  · exact ⟨_, rfl⟩
theorem spec_choose (d : Array α) (a b : Nat) (hab : a + 12 < b) (hb : b ≤ d.size) (hd : d.size ≤ 255) : ∃ (p : Nat) (h : Int), g_choosePivot lt d.toList (a : Int) (b : Int) = some ((p : Int), h, ()) ∧ a ≤ p ∧ p < b := by
  have z : rIsZero (4 : Int) = false := rfl
  have e1 : rArith .sub .i64 (b : Int) (a : Int) = ((b - a : Nat) : Int) := sS (by omega) (by omega)
  have g8 : rCmp .geq ((b - a : Nat) : Int) (8 : Int) = true := (geS (b - a) 8).trans (decide_eq_true (by omega))
  have eq : rArith .quo .i64 ((b - a : Nat) : Int) (4 : Int) = (((b - a) / 4 : Nat) : Int) := qS _ 4 (by omega)
  have m1 : rArith .mul .i64 (((b - a) / 4 : Nat) : Int) (1 : Int) = (((b - a) / 4 * 1 : Nat) : Int) := mS (m := 1) (by omega)
  have m2 : rArith .mul .i64 (((b - a) / 4 : Nat) : Int) (2 : Int) = (((b - a) / 4 * 2 : Nat) : Int) := mS (m := 2) (by omega)
  have m3 : rArith .mul .i64 (((b - a) / 4 : Nat) : Int) (3 : Int) = (((b - a) / 4 * 3 : Nat) : Int) := mS (m := 3) (by omega)
  have a1 : rArith .add .i64 (a : Int) (((b - a) / 4 * 1 : Nat) : Int) = ((a + (b - a) / 4 * 1 : Nat) : Int) := aS (by omega)
  have a2 : rArith .add .i64 (a : Int) (((b - a) / 4 * 2 : Nat) : Int) = ((a + (b - a) / 4 * 2 : Nat) : Int) := aS (by omega)
  have a3 : rArith .add .i64 (a : Int) (((b - a) / 4 * 3 : Nat) : Int) = ((a + (b - a) / 4 * 3 : Nat) : Int) := aS (by omega)
  unfold g_choosePivot
  simp only [z, cond_false, e1, g8, cond_true, eq, m1, m2, m3, a1, a2, a3]
  clear e1 g8 eq m1 m2 m3 a1 a2 a3 z
  generalize hc : rCmp .geq ((b - a : Nat) : Int) (50 : Int) = c
  clear hc
  cases c with
  | true =>
    obtain ⟨x1, s1, h1, k1⟩ := spec_adj (lt := lt) d (a + (b - a) / 4 * 1) (0 : Int) (by omega) (by omega) hd
    obtain ⟨x2, s2, h2, k2⟩ := spec_adj (lt := lt) d (a + (b - a) / 4 * 2) s1 (by omega) (by omega) hd
    obtain ⟨x3, s3, h3, k3⟩ := spec_adj (lt := lt) d (a + (b - a) / 4 * 3) s2 (by omega) (by omega) hd
    obtain ⟨x4, s4, h4, k4⟩ := spec_median (lt := lt) d x1 x2 x3 s3 (by omega) (by omega) (by omega)
    obtain ⟨h, hh⟩ := hint_some (x4 : Int) s4
    refine ⟨x4, h, ?_, by omega, by omega⟩
    simp only [cond_true, h1, h2, h3, h4, Option.bind_some]
    exact hh
  | false =>
    obtain ⟨x4, s4, h4, k4⟩ := spec_median (lt := lt) d (a + (b - a) / 4 * 1) (a + (b - a) / 4 * 2) (a + (b - a) / 4 * 3) 0 (by omega) (by omega) (by omega)
    obtain ⟨h, hh⟩ := hint_some (x4 : Int) s4
    refine ⟨x4, h, ?_, by omega, by omega⟩
    simp only [cond_false, h4, Option.bind_some]
    exact hh
end
end Go.Fn
set_option linter.unusedSimpArgs false
set_option linter.unusedVariables false
namespace Go.Fn
open Go.R Go.Sort
theorem np_all : (List.range 256).all (fun n => decide (n < 8) || (match slices_nextPowerOfTwo (n : Int) with | some (m, ()) => decide (1 ≤ m ∧ m ≤ 2 * (n : Int)) | none => false)) = true := by decide +kernel
theorem np_ok {n : Nat} (h8 : 8 ≤ n) (h : n ≤ 255) : ∃ m : Nat, slices_nextPowerOfTwo (n : Int) = some ((m : Int), ()) ∧ 1 ≤ m ∧ m ≤ 2 * n := by
  have h1 := List.all_eq_true.1 np_all n (List.mem_range.2 (by omega))
  rw [decide_eq_false (by omega : ¬ n < 8), Bool.false_or] at h1
  cases hq : slices_nextPowerOfTwo (n : Int) with
  | none => rw [hq] at h1; cases h1
  | some p =>
    obtain ⟨m, u⟩ := p
    cases u
    rw [hq] at h1
    have h2 : 1 ≤ m ∧ m ≤ 2 * (n : Int) := of_decide_eq_true h1
    exact ⟨m.toNat, by rw [Int.toNat_of_nonneg (by omega)], by omega, by omega⟩
theorem next_ok (x : Int) : ∃ v, __slices_xorshift__Next x = some (v, v, ()) := ⟨_, rfl⟩
theorem wu64 {n : Int} (h1 : 0 ≤ n) (h2 : n < 18446744073709551616) : IntKind.u64.wrap n = n := IntWalk.u64_in n ⟨h1, by omega⟩
theorem andU (x : Int) {c : Nat} (hc : c < 9223372036854775808) : ∃ r : Nat, rArith .and .u64 x (c : Int) = (r : Int) ∧ r ≤ c := by
  have h1 : (BitVec.ofInt 64 (c : Int)).toNat = c := by
    rw [BitVec.toNat_ofInt]
    have : ((c : Int) % ((2 ^ 64 : Nat) : Int)) = c := Int.emod_eq_of_lt (by omega) (by omega)
    rw [this]; rfl
  have h2 : (BitVec.ofInt 64 x &&& BitVec.ofInt 64 (c : Int)).toNat ≤ c := by
    rw [BitVec.toNat_and, h1]
    exact Nat.and_le_right
  have e : rArith .and .u64 x (c : Int) = IntKind.u64.wrap (((BitVec.ofInt 64 x &&& BitVec.ofInt 64 (c : Int)).toNat : Nat) : Int) := rfl
  rw [e, wu64 (by omega) (by omega)]
  exact ⟨_, rfl, h2⟩
theorem subU {n : Nat} (h : 1 ≤ n) (h2 : n < 1099511627776) : rArith .sub .u64 (n : Int) 1 = ((n - 1 : Nat) : Int) := by
  have e : rArith .sub .u64 (n : Int) 1 = IntKind.u64.wrap ((n : Int) - 1) := rfl
  rw [e, wu64 (by omega) (by omega)]; omega
theorem convI {n : Nat} (h : n < 1099511627776) : rConv .i64 (n : Int) = (n : Int) := w64 (by omega) (by omega)
section
variable {α : Type} [Inhabited α] {lt : α → α → Bool}
theorem brk_loop (a len m last : Nat) (b : Nat) (hlen : b = a + len) (h8 : 8 ≤ len) (hm1 : 1 ≤ m) (hm2 : m ≤ 2 * len) (hlast : last = a + len / 4 * 2 + 1) :
    ∀ (k idx : Nat) (r : Int) (d : Array α) (n : Nat), last + 1 - idx ≤ k → a ≤ idx → b ≤ d.size → d.size ≤ 255 → idx ≤ 300 → k < n → ∃ d', iter (g_breakPatterns_b0 lt ((a : Int), (len : Int), (m : Int), ())) n (d.toList, r, (idx : Int), ()) = some (.inl (d'.toList, ())) ∧ PermIn a b d d' := by
  have z : rIsZero (4 : Int) = false := rfl
  intro k
  induction k with
  | zero =>
    intro idx r d n hk ha hb hd hi hn
    obtain ⟨n, rfl⟩ : ∃ m, n = m + 1 := ⟨n - 1, by omega⟩
    refine ⟨d, iter_done ?_, permIn_refl d a b⟩
    have e1 : rArith .quo .i64 (len : Int) (4 : Int) = ((len / 4 : Nat) : Int) := qS _ 4 (by omega)
    have e2 : rArith .mul .i64 ((len / 4 : Nat) : Int) (2 : Int) = ((len / 4 * 2 : Nat) : Int) := mS (m := 2) (by omega)
    have e3 : rArith .add .i64 (a : Int) ((len / 4 * 2 : Nat) : Int) = ((a + len / 4 * 2 : Nat) : Int) := aS (by omega)
    unfold g_breakPatterns_b0
    simp only [z, cond_false, e1, e2, e3, succ64 (n := a + len / 4 * 2) (by omega), leS, ← hlast]
    rw [decide_eq_false (by omega : ¬ idx ≤ last)]
    rfl
  | succ k ih =>
    intro idx r d n hk ha hb hd hi hn
    obtain ⟨n, rfl⟩ : ∃ m, n = m + 1 := ⟨n - 1, by omega⟩
    have e1 : rArith .quo .i64 (len : Int) (4 : Int) = ((len / 4 : Nat) : Int) := qS _ 4 (by omega)
    have e2 : rArith .mul .i64 ((len / 4 : Nat) : Int) (2 : Int) = ((len / 4 * 2 : Nat) : Int) := mS (m := 2) (by omega)
    have e3 : rArith .add .i64 (a : Int) ((len / 4 * 2 : Nat) : Int) = ((a + len / 4 * 2 : Nat) : Int) := aS (by omega)
    by_cases h : idx ≤ last
    · obtain ⟨v, hv⟩ := next_ok r
      obtain ⟨w, hw, hw2⟩ := andU v (c := m - 1) (by omega)
      have hib : idx < b := by omega
      by_cases hg : w ≥ len
      · have e4 : rArith .sub .i64 (w : Int) (len : Int) = ((w - len : Nat) : Int) := sS (by omega) (by omega)
        have e5 : rArith .add .i64 (a : Int) ((w - len : Nat) : Int) = ((a + (w - len) : Nat) : Int) := aS (by omega)
        obtain ⟨d', h1, h2⟩ := ih (idx + 1) v (swp d idx (a + (w - len))) n (by omega) (by omega) (by rw [size_swp]; omega) (by rw [size_swp]; omega) (by omega) (by omega)
        refine ⟨d', ?_, permIn_trans _ _ _ a b (swp_permIn d a b idx (a + (w - len)) ha hib (by omega) (by omega) hb) h2⟩
        rw [← h1]
        refine iter_next ?_
        unfold g_breakPatterns_b0
        simp only [z, cond_false, e1, e2, e3, succ64 (n := a + len / 4 * 2) (by omega), leS, ← hlast, h, decide_true, cond_true, hv, Option.bind_some, subU hm1 (by omega), hw, convI (n := w) (by omega), geS, hg, e4, e5, inA, gA, inP, show a + (w - len) < d.size by omega, show idx < d.size by omega, swA, lets_def, succ64 (n := idx) (by omega)]
      · have e5 : rArith .add .i64 (a : Int) (w : Int) = ((a + w : Nat) : Int) := aS (by omega)
        obtain ⟨d', h1, h2⟩ := ih (idx + 1) v (swp d idx (a + w)) n (by omega) (by omega) (by rw [size_swp]; omega) (by rw [size_swp]; omega) (by omega) (by omega)
        refine ⟨d', ?_, permIn_trans _ _ _ a b (swp_permIn d a b idx (a + w) ha hib (by omega) (by omega) hb) h2⟩
        rw [← h1]
        refine iter_next ?_
        unfold g_breakPatterns_b0
        simp only [z, cond_false, e1, e2, e3, succ64 (n := a + len / 4 * 2) (by omega), leS, ← hlast, h, decide_true, cond_true, hv, Option.bind_some, subU hm1 (by omega), hw, convI (n := w) (by omega), geS, hg, decide_false, e5, inA, gA, inP, show a + w < d.size by omega, show idx < d.size by omega, swA, lets_def, succ64 (n := idx) (by omega)]
    · refine ⟨d, iter_done ?_, permIn_refl d a b⟩
      unfold g_breakPatterns_b0
      simp only [z, cond_false, e1, e2, e3, succ64 (n := a + len / 4 * 2) (by omega), leS, ← hlast]
      rw [decide_eq_false h]
      rfl
theorem convU {n : Nat} (h : n < 1099511627776) : rConv .u64 (n : Int) = (n : Int) := wu64 (by omega) (by omega)
theorem spec_break (d : Array α) (a b : Nat) (hab : a + 12 < b) (hb : b ≤ d.size) (hd : d.size ≤ 255) : ∃ d', g_breakPatterns lt d.toList (a : Int) (b : Int) = some (d'.toList, ()) ∧ PermIn a b d d' := by
  have z : rIsZero (4 : Int) = false := rfl
  obtain ⟨m, hm, hm1, hm2⟩ := np_ok (n := b - a) (by omega) (by omega)
  obtain ⟨d', h1, h2⟩ := brk_loop (lt := lt) a (b - a) m (a + (b - a) / 4 * 2 + 1) b (by omega) (by omega) hm1 hm2 rfl 256 (a + (b - a) / 4 * 2 - 1) ((b - a : Nat) : Int) d big (by omega) (by omega) hb hd (by omega) (lt_big (by omega))
  refine ⟨d', ?_, h2⟩
  have e1 : rArith .sub .i64 (b : Int) (a : Int) = ((b - a : Nat) : Int) := sS (by omega) (by omega)
  have g8 : rCmp .geq ((b - a : Nat) : Int) (8 : Int) = true := (geS (b - a) 8).trans (decide_eq_true (by omega))
  have eq : rArith .quo .i64 ((b - a : Nat) : Int) (4 : Int) = (((b - a) / 4 : Nat) : Int) := qS _ 4 (by omega)
  have m2 : rArith .mul .i64 (((b - a) / 4 : Nat) : Int) (2 : Int) = (((b - a) / 4 * 2 : Nat) : Int) := mS (m := 2) (by omega)
  have a2 : rArith .add .i64 (a : Int) (((b - a) / 4 * 2 : Nat) : Int) = ((a + (b - a) / 4 * 2 : Nat) : Int) := aS (by omega)
  have s2 : rArith .sub .i64 ((a + (b - a) / 4 * 2 : Nat) : Int) 1 = ((a + (b - a) / 4 * 2 - 1 : Nat) : Int) := sS (m := 1) (by omega) (by omega)
  unfold g_breakPatterns g_breakPatterns_l0
  simp only [e1, g8, cond_true, hm, Option.bind_some, z, cond_false, eq, m2, a2, s2, convU (n := b - a) (by omega), h1, Sum.elim_inl]
abbrev PdqQ (α : Type) := Option (((List α) × Int × Int × Int × Bool × Bool × Unit) ⊕ ((List α) × Unit ⊕ Empty))
def RecOk (lt : α → α → Bool) (rec : (List α) → Int → Int → Int → Option ((List α) × Unit)) (M : Nat) : Prop :=
  ∀ (d : Array α) (a b : Nat) (L : Int), b - a < M → a ≤ b → b ≤ d.size → d.size ≤ 255 → Below lt a b d → ∃ d', rec d.toList (a : Int) (b : Int) L = some (d'.toList, ()) ∧ PermIn a b d d' ∧ SortedIn lt a b d'
def Next (lt : α → α → Bool) (q : PdqQ α) (d : Array α) (a b : Nat) : Prop :=
  (∃ R, q = some (.inr (.inl (R.toList, ()))) ∧ PermIn a b d R ∧ SortedIn lt a b R) ∨
  (∃ (E : Array α) (a' b' : Nat) (L : Int) (wb wp : Bool), q = some (.inl (E.toList, (a' : Int), (b' : Int), L, wb, wp, ())) ∧ E.size = d.size ∧ a' ≤ b' ∧ b' ≤ b ∧ b' - a' < b - a ∧ Below lt a' b' E ∧ ∀ R, PermIn a' b' E R → SortedIn lt a' b' R → PermIn a b d R ∧ SortedIn lt a b R)
theorem Next.mono {q : PdqQ α} {d D : Array α} {a b : Nat} (h : Next lt q D a b) (p : PermIn a b d D) : Next lt q d a b := by
  rcases h with ⟨R, h1, h2, h3⟩ | ⟨E, a', b', L, wb, wp, h1, h2, h3, h4, h5, h6, h7⟩
  · exact .inl ⟨R, h1, permIn_trans _ _ _ a b p h2, h3⟩
  · refine .inr ⟨E, a', b', L, wb, wp, h1, by rw [h2, p.1], h3, h4, h5, h6, fun R hR hs => ?_⟩
    obtain ⟨k1, k2⟩ := h7 R hR hs
    exact ⟨permIn_trans _ _ _ a b p k1, k2⟩
def g_part (lt : α → α → Bool) (rec : (List α) → Int → Int → Int → Option ((List α) × Unit)) (a b L : Int) (D : List α) (P : Int) : PdqQ α :=
  ((g_partition lt D a b P).bind fun y1 => (bif (rIsZero (8 : Int)) then none else (bif (rCmp .lss (rArith .sub .i64 y1.1 a) (rArith .sub .i64 b y1.1)) then ((rec y1.2.2.1 a y1.1 L).bind fun y2 => some (.inl (y2.1, (rArith .add .i64 y1.1 (1 : Int)), b, L, (rCmp .geq (rArith .sub .i64 y1.1 a) (rArith .quo .i64 (rArith .sub .i64 b a) (8 : Int))), y1.2.1, ()))) else ((rec y1.2.2.1 (rArith .add .i64 y1.1 (1 : Int)) b L).bind fun y2 => some (.inl (y2.1, a, y1.1, L, (rCmp .geq (rArith .sub .i64 b y1.1) (rArith .quo .i64 (rArith .sub .i64 b a) (8 : Int))), y1.2.1, ()))))))
def g_tail (lt : α → α → Bool) (rec : (List α) → Int → Int → Int → Option ((List α) × Unit)) (a b L : Int) (wb wp : Bool) (D : List α) (P : Int) : PdqQ α :=
  (bif (rCmp .gtr a (0 : Int)) then (bif (rInR D (rArith .sub .i64 a (1 : Int))) then (bif (rInR D P) then ((some (lt (rGet default D (rArith .sub .i64 a (1 : Int))) (rGet default D P), ())).bind fun y1 => (bif (Bool.not y1.1) then ((g_partitionEqual lt D a b P).bind fun y2 => some (.inl (y2.2.1, y2.1, b, L, wb, wp, ()))) else g_part lt rec a b L D P)) else none) else none) else g_part lt rec a b L D P)
theorem part_ok (h : SWO lt) {rec : (List α) → Int → Int → Int → Option ((List α) × Unit)} {M : Nat} (hrec : RecOk lt rec M) (D : Array α) (a b p : Nat) (L : Int) (hab : a < b) (hb : b ≤ D.size) (hd : D.size ≤ 255) (hB : Below lt a b D) (hp1 : a ≤ p) (hp2 : p < b) (hM : b - a ≤ M) :
    Next lt (g_part lt rec (a : Int) (b : Int) L D.toList (p : Int)) D a b := by
  have z : rIsZero (8 : Int) = false := rfl
  have hsim := sim_part (lt := lt) D a b p hab hb hd (by omega)
  have hrp := round_part h (partition_holds lt) hp1 hp2 hb hB (mid := (partition lt D a b p).1) (ap := (partition lt D a b p).2.1) (d4 := (partition lt D a b p).2.2) rfl
  generalize (partition lt D a b p).1 = mid at hsim hrp
  generalize (partition lt D a b p).2.1 = ap at hsim hrp
  generalize (partition lt D a b p).2.2 = d4 at hsim hrp
  obtain ⟨g1, g2, hs4, hBa, hBr, hleft, hright⟩ := hrp
  unfold g_part
  have e1 : rArith .sub .i64 (mid : Int) (a : Int) = ((mid - a : Nat) : Int) := sS (by omega) (by omega)
  have e2 : rArith .sub .i64 (b : Int) (mid : Int) = ((b - mid : Nat) : Int) := sS (by omega) (by omega)
  have e3 : rArith .add .i64 (mid : Int) 1 = ((mid + 1 : Nat) : Int) := succ64 (by omega)
  simp only [hsim, Option.bind_some, z, cond_false, e1, e2, e3, ltS]
  by_cases hlt : mid - a < b - mid
  · obtain ⟨L1, hL, l1, l2⟩ := hrec d4 a mid L (by omega) g1 (by omega) (by omega) hBa
    obtain ⟨hBL, hfin⟩ := hleft L1 l1 l2
    simp only [hlt, decide_true, cond_true, hL, Option.bind_some]
    exact .inr ⟨L1, mid + 1, b, _, _, _, rfl, by rw [l1.1, hs4], by omega, Nat.le_refl _, by omega, hBL, hfin⟩
  · obtain ⟨L1, hL, l1, l2⟩ := hrec d4 (mid + 1) b L (by omega) (by omega) (by omega) (by omega) hBr
    obtain ⟨hBL, hfin⟩ := hright L1 l1 l2
    simp only [hlt, decide_false, cond_false, hL, Option.bind_some]
    exact .inr ⟨L1, a, mid, _, _, _, rfl, by rw [l1.1, hs4], by omega, by omega, by omega, hBL, hfin⟩
theorem tail_ok (h : SWO lt) {rec : (List α) → Int → Int → Int → Option ((List α) × Unit)} {M : Nat} (hrec : RecOk lt rec M) (D : Array α) (a b p : Nat) (L : Int) (wb wp : Bool) (hab : a < b) (hb : b ≤ D.size) (hd : D.size ≤ 255) (hB : Below lt a b D) (hp1 : a ≤ p) (hp2 : p < b) (hM : b - a ≤ M) :
    Next lt (g_tail lt rec (a : Int) (b : Int) L wb wp D.toList (p : Int)) D a b := by
  have hpart := part_ok h hrec D a b p L hab hb hd hB hp1 hp2 hM
  unfold g_tail
  by_cases h0 : a > 0
  · have g0 : rCmp .gtr (a : Int) (0 : Int) = true := (gtS a 0).trans (decide_eq_true h0)
    have e1 : rArith .sub .i64 (a : Int) 1 = ((a - 1 : Nat) : Int) := sS (m := 1) (by omega) (by omega)
    simp only [g0, cond_true, e1, inA, gA, show a - 1 < D.size by omega, show p < D.size by omega, decide_true, Option.bind_some]
    cases hl : lt D[a - 1]! D[p]! with
    | true => exact hpart
    | false =>
      have hsim := sim_parteq (lt := lt) D a b p hab hb hd (by omega)
      have hrp := round_eq h (partitionEqual_holds lt) h0 hp1 hp2 hb hB hl (mid := (partitionEqual lt D a b p).1) (d4 := (partitionEqual lt D a b p).2) rfl
      generalize (partitionEqual lt D a b p).1 = mid at hsim hrp
      generalize (partitionEqual lt D a b p).2 = d4 at hsim hrp
      obtain ⟨hm1, hm2, hs4, hB4, hfin⟩ := hrp
      simp only [Bool.not_false, cond_true, hsim, Option.bind_some]
      exact .inr ⟨d4, mid, b, _, _, _, rfl, hs4, hm2, Nat.le_refl _, by omega, hB4, hfin⟩
  · have g0 : rCmp .gtr (a : Int) (0 : Int) = false := (gtS a 0).trans (decide_eq_false h0)
    simp only [g0, cond_false]
    exact hpart
def g_mid (lt : α → α → Bool) (rec : (List α) → Int → Int → Int → Option ((List α) × Unit)) (a b L : Int) (wb wp : Bool) (D : List α) (P : Int) : PdqQ α :=
  ((g_partialInsertionSort lt D a b).bind fun y3 => (bif y3.1 then some (.inr (.inl (y3.2.1, ()))) else g_tail lt rec a b L wb wp y3.2.1 P))
theorem mid_ok (h : SWO lt) {rec : (List α) → Int → Int → Int → Option ((List α) × Unit)} {M : Nat} (hrec : RecOk lt rec M) (D : Array α) (a b p : Nat) (L : Int) (wb wp : Bool) (hab : a < b) (hb : b ≤ D.size) (hd : D.size ≤ 255) (hB : Below lt a b D) (hp1 : a ≤ p) (hp2 : p < b) (hM : b - a ≤ M) :
    Next lt (g_mid lt rec (a : Int) (b : Int) L wb wp D.toList (p : Int)) D a b := by
  have hsim := sim_partial (lt := lt) D a b hab hb hd
  obtain ⟨k1, k2⟩ := partialInsertionSort_holds h D a b hab hb hB
  unfold g_mid
  generalize (partialInsertionSort lt D a b).1 = D3 at hsim k1 k2
  generalize (partialInsertionSort lt D a b).2 = fl at hsim k1 k2
  simp only [hsim, Option.bind_some]
  cases fl with
  | true => exact .inl ⟨D3, rfl, k1, k2 rfl⟩
  | false => exact (tail_ok h hrec D3 a b p L wb wp hab (by rw [k1.1]; exact hb) (by rw [k1.1]; exact hd) (hB.perm hb k1) hp1 hp2 hM).mono k1
theorem round_ok (h : SWO lt) {rec : (List α) → Int → Int → Int → Option ((List α) × Unit)} {M : Nat} (hrec : RecOk lt rec M) (d : Array α) (a b : Nat) (L : Int) (wb wp : Bool) (hab : a ≤ b) (hb : b ≤ d.size) (hd : d.size ≤ 255) (hB : Below lt a b d) (hM : b - a ≤ M) :
    Next lt (g_pdqsort_b0 lt rec () (d.toList, (a : Int), (b : Int), L, wb, wp, ())) d a b := by
  have e1 : rArith .sub .i64 (b : Int) (a : Int) = ((b - a : Nat) : Int) := sS (by omega) (by omega)
  have eb : rArith .sub .i64 (b : Int) 1 = ((b - 1 : Nat) : Int) ∨ b = 0 := by
    by_cases h0 : b = 0
    · exact .inr h0
    · exact .inl (sS (m := 1) (by omega) (by omega))
  by_cases h12 : b - a ≤ 12
  · have g : rCmp .leq ((b - a : Nat) : Int) (12 : Int) = true := (leS (b - a) 12).trans (decide_eq_true h12)
    unfold g_pdqsort_b0
    simp only [e1, g, cond_true, sim_ins (lt := lt) d a b hab hb hd, Option.bind_some]
    have := insertionSort_holds h d a b hab hb
    exact .inl ⟨_, rfl, this.1, this.2⟩
  · have g : rCmp .leq ((b - a : Nat) : Int) (12 : Int) = false := (leS (b - a) 12).trans (decide_eq_false h12)
    cases hL : rCmp .eql L (0 : Int) with
    | true =>
      unfold g_pdqsort_b0
      simp only [e1, g, cond_false, hL, cond_true, sim_heap (lt := lt) d a b (by omega) hb hd, Option.bind_some]
      have := heapSort_holds h d a b hab hb
      exact .inl ⟨_, rfl, this.1, this.2⟩
    | false =>
      have eb := eb.resolve_right (by omega)
      have ePv : ∀ p : Nat, a ≤ p → p < b → rArith .sub .i64 ((b - 1 : Nat) : Int) (rArith .sub .i64 (p : Int) (a : Int)) = (((b - 1) - (p - a) : Nat) : Int) := by
        intro p h1 h2
        rw [sS (n := p) (m := a) h1 (by omega), sS (by omega) (by omega)]
      cases wb with
      | false =>
        obtain ⟨d1, hbr, p1⟩ := spec_break (lt := lt) d a b (by omega) hb hd
        have b1 : b ≤ d1.size := by rw [p1.1]; exact hb
        have s1 : d1.size ≤ 255 := by rw [p1.1]; exact hd
        have B1 := hB.perm hb p1
        obtain ⟨p, hh, hch, hp1, hp2⟩ := spec_choose (lt := lt) d1 a b (by omega) b1 s1
        cases hr2 : rCmp .eql hh (2 : Int) with
        | true =>
          obtain ⟨d2, hrv, p2⟩ := spec_rev (lt := lt) d1 a b (by omega) b1 s1
          have := (tail_ok h hrec d2 a b ((b - 1) - (p - a)) (rArith .sub .i64 L 1) false wp (by omega) (by rw [p2.1]; exact b1) (by rw [p2.1]; exact s1) (B1.perm b1 p2) (by omega) (by omega) hM).mono (permIn_trans _ _ _ a b p1 p2)
          unfold g_pdqsort_b0
          simp only [e1, g, cond_false, hL, Bool.not_false, cond_true, hbr, Option.bind_some, hch, hr2, hrv, eb, ePv p hp1 hp2]
          simp only [g_tail, g_part, e1, Option.bind_some] at this
          exact this
        | false =>
          have := (tail_ok h hrec d1 a b p (rArith .sub .i64 L 1) false wp (by omega) b1 s1 B1 hp1 hp2 hM).mono p1
          unfold g_pdqsort_b0
          simp only [e1, g, cond_false, hL, Bool.not_false, cond_true, hbr, Option.bind_some, hch, hr2]
          simp only [g_tail, g_part, e1, Option.bind_some] at this
          exact this
      | true =>
        obtain ⟨p, hh, hch, hp1, hp2⟩ := spec_choose (lt := lt) d a b (by omega) hb hd
        cases hr2 : rCmp .eql hh (2 : Int) with
        | true =>
          obtain ⟨d2, hrv, p2⟩ := spec_rev (lt := lt) d a b (by omega) hb hd
          have hb2 : b ≤ d2.size := by rw [p2.1]; exact hb
          have hs2 : d2.size ≤ 255 := by rw [p2.1]; exact hd
          cases wp with
          | true =>
            have := (mid_ok h hrec d2 a b ((b - 1) - (p - a)) L true true (by omega) hb2 hs2 (hB.perm hb p2) (by omega) (by omega) hM).mono p2
            unfold g_pdqsort_b0
            simp only [e1, g, cond_false, hL, Bool.not_true, cond_true, Option.bind_some, hch, hr2, hrv, eb, ePv p hp1 hp2, show rCmp .eql (1 : Int) (1 : Int) = true from rfl]
            simp only [g_mid, g_tail, g_part, e1, Option.bind_some] at this
            exact this
          | false =>
            have := (tail_ok h hrec d2 a b ((b - 1) - (p - a)) L true false (by omega) hb2 hs2 (hB.perm hb p2) (by omega) (by omega) hM).mono p2
            unfold g_pdqsort_b0
            simp only [e1, g, cond_false, hL, Bool.not_true, cond_true, Option.bind_some, hch, hr2, hrv, eb, ePv p hp1 hp2]
            simp only [g_tail, g_part, e1, Option.bind_some] at this
            exact this
        | false =>
          cases wp with
          | true =>
            cases hr1 : rCmp .eql hh (1 : Int) with
            | true =>
              have := mid_ok h hrec d a b p L true true (by omega) hb hd hB hp1 hp2 hM
              unfold g_pdqsort_b0
              simp only [e1, g, cond_false, hL, Bool.not_true, cond_true, Option.bind_some, hch, hr2, hr1]
              simp only [g_mid, g_tail, g_part, e1, Option.bind_some] at this
              exact this
            | false =>
              have := tail_ok h hrec d a b p L true true (by omega) hb hd hB hp1 hp2 hM
              unfold g_pdqsort_b0
              simp only [e1, g, cond_false, hL, Bool.not_true, cond_true, Option.bind_some, hch, hr2, hr1]
              simp only [g_tail, g_part, e1, Option.bind_some] at this
              exact this
          | false =>
            have := tail_ok h hrec d a b p L true false (by omega) hb hd hB hp1 hp2 hM
            unfold g_pdqsort_b0
            simp only [e1, g, cond_false, hL, Bool.not_true, cond_true, Option.bind_some, hch, hr2]
            simp only [g_tail, g_part, e1, Option.bind_some] at this
            exact this
theorem pdq_loop (h : SWO lt) {rec : (List α) → Int → Int → Int → Option ((List α) × Unit)} {M : Nat} (hrec : RecOk lt rec M) : ∀ (k : Nat) (d : Array α) (a b : Nat) (L : Int) (wb wp : Bool) (n : Nat), b - a ≤ k → b - a ≤ M → k < n → a ≤ b → b ≤ d.size → d.size ≤ 255 → Below lt a b d →
    ∃ d', iter (g_pdqsort_b0 lt rec ()) n (d.toList, (a : Int), (b : Int), L, wb, wp, ()) = some (.inl (d'.toList, ())) ∧ PermIn a b d d' ∧ SortedIn lt a b d' := by
  intro k
  induction k with
  | zero =>
    intro d a b L wb wp n hk hM hn hab hb hd hB
    obtain ⟨n, rfl⟩ : ∃ m, n = m + 1 := ⟨n - 1, by omega⟩
    rcases round_ok h hrec d a b L wb wp hab hb hd hB hM with ⟨R, h1, h2, h3⟩ | ⟨E, a', b', L', wb', wp', h1, h2, h3, h4, h5, h6, h7⟩
    · exact ⟨R, iter_done h1, h2, h3⟩
    · omega
  | succ k ih =>
    intro d a b L wb wp n hk hM hn hab hb hd hB
    obtain ⟨n, rfl⟩ : ∃ m, n = m + 1 := ⟨n - 1, by omega⟩
    rcases round_ok h hrec d a b L wb wp hab hb hd hB hM with ⟨R, h1, h2, h3⟩ | ⟨E, a', b', L', wb', wp', h1, h2, h3, h4, h5, h6, h7⟩
    · exact ⟨R, iter_done h1, h2, h3⟩
    · obtain ⟨d', k1, k2, k3⟩ := ih E a' b' L' wb' wp' n (by omega) (by omega) (by omega) h3 (by omega) (by omega) h6
      exact ⟨d', by rw [iter_next h1]; exact k1, h7 d' k2 k3⟩
theorem pdq_f (h : SWO lt) : ∀ F, RecOk lt (g_pdqsort_f lt F) F := by
  intro F
  induction F with
  | zero => intro d a b L hF; omega
  | succ F ih =>
    intro d a b L hF hab hb hd hB
    obtain ⟨d', h1, h2, h3⟩ := pdq_loop h ih 256 d a b L true true big (by omega) (by omega) (lt_big (by omega)) hab hb hd hB
    refine ⟨d', ?_, h2, h3⟩
    unfold g_pdqsort_f g_pdqsort_r g_pdqsort_l0
    rw [h1]
    rfl
/-- Sorted, and the same elements. -/
theorem pdq_all (h : SWO lt) (l : List α) (L : Int) (hl : l.length ≤ 255) : ∃ r : List α, g_pdqsort lt l (0 : Int) (l.length : Int) L = some (r, ()) ∧ r.Perm l ∧ ∀ i j, i < j → j < r.length → lt (r.getD j default) (r.getD i default) = false := by
  obtain ⟨d', h1, h2, h3⟩ := pdq_f h big l.toArray 0 l.length L (lt_big (by omega)) (by omega) (by simp) (by simpa using hl) (.inl rfl)
  have hsz : d'.size = l.length := by rw [h2.1]; simp
  refine ⟨d'.toList, h1, ?_, fun i j hij hj => ?_⟩
  · have := h2.2.2
    rw [show d'.extract 0 l.length = d' by rw [← hsz]; exact Array.extract_size, show l.toArray.extract 0 l.length = l.toArray by rw [show l.length = l.toArray.size by simp]; exact Array.extract_size] at this
    exact this
  · have := h3 i j (by omega) hij (by rw [Array.length_toList] at hj; omega)
    rw [← gA, ← gA, get_nat, get_nat] at this
    exact this
end
end Go.Fn
set_option linter.unusedSimpArgs false
set_option linter.unusedVariables false
namespace Go.Fn
open Go.R Go.Sort
def ltE (x y : Ev) : Bool := decide (x.1 < y.1) || (decide (x.1 = y.1) && decide (x.2.1 < y.2.1))
def cmpE (x y : Ev) : Int := bif ltE x y then -1 else bif ltE y x then 1 else 0
theorem cmp_neg (x y : Ev) : rCmp .lss (cmpE x y) (0 : Int) = ltE x y := by
  unfold cmpE
  cases ltE x y <;> cases ltE y x <;> rfl
def sgn (a b : Int) : Int := bif decide (a < b) then -1 else bif decide (b < a) then 1 else 0
theorem compare_eq (a b : Int) : cmp_Compare_int_ a b = some (sgn a b, ()) := by
  unfold cmp_Compare_int_ cmp_isNaN_int_ sgn
  simp only [neq_self, Option.bind_some, cond_false]
  simp only [rCmp, gt_iff_lt]
  cases decide (a < b) <;> cases decide (b < a) <;> rfl
theorem or_eq (a b : Int) : cmp_Or_int_ [a, b] = some ((bif decide (a = 0) then b else a), ()) := by
  unfold cmp_Or_int_ cmp_Or_int__l0
  have hb : ∀ n : Nat, n < 2 → cmp_Or_int__b0 ((0 : Int), [a, b], rLen [a, b], ()) ((n : Int), ()) = some (bif decide (([a, b].getD n 0) = 0) then .inl (((n + 1 : Nat) : Int), ()) else .inr (.inl ([a, b].getD n 0, ()))) := by
    intro n hn
    unfold cmp_Or_int__b0
    simp only [lss_len, inR_nat, get_nat, show n < [a, b].length from hn, decide_true, cond_true, succ64 (n := n) (by omega), zI]
    by_cases h : [a, b].getD n 0 = 0
    · rw [h]; rfl
    · rw [show rCmp .neq ([a, b].getD n 0) (0 : Int) = true from by simpa [rCmp] using h, decide_eq_false h]; rfl
  by_cases ha : a = 0
  · by_cases hb0 : b = 0
    · have e : iter (cmp_Or_int__b0 ((0 : Int), [a, b], rLen [a, b], ())) 3 ((0 : Int), ()) = some (.inr (.inl ())) := by
        rw [iter_next (y := (((1 : Nat) : Int), ())) (by simpa [ha] using hb 0 (by omega)), iter_next (y := (((2 : Nat) : Int), ())) (by simpa [hb0] using hb 1 (by omega))]
        exact iter_done rfl
      rw [iter_mono e (by unfold big; omega), ha, hb0]
      rfl
    · have e : iter (cmp_Or_int__b0 ((0 : Int), [a, b], rLen [a, b], ())) 2 ((0 : Int), ()) = some (.inl (b, ())) := by
        rw [iter_next (y := (((1 : Nat) : Int), ())) (by simpa [ha] using hb 0 (by omega))]
        exact iter_done (by simpa [hb0] using hb 1 (by omega))
      rw [iter_mono e (by unfold big; omega), ha]
      rfl
  · have e : iter (cmp_Or_int__b0 ((0 : Int), [a, b], rLen [a, b], ())) 1 ((0 : Int), ()) = some (.inl (a, ())) := iter_done (by simpa [ha] using hb 0 (by omega))
    rw [iter_mono e (by unfold big; omega)]
    simp [ha]
theorem cmp_eq (x y : Ev) : impl_MergeJournals_2 x.1 x.2.1 x.2.2.1 x.2.2.2.1 x.2.2.2.2.1 x.2.2.2.2.2.1 x.2.2.2.2.2.2 y.1 y.2.1 y.2.2.1 y.2.2.2.1 y.2.2.2.2.1 y.2.2.2.2.2.1 y.2.2.2.2.2.2 = some (cmpE x y, ()) := by
  unfold impl_MergeJournals_2
  simp only [compare_eq, Option.bind_some]
  rw [show (List.append (α := Int) (List.append (α := Int) ([] : List Int) [sgn x.1 y.1]) [sgn x.2.1 y.2.1]) = [sgn x.1 y.1, sgn x.2.1 y.2.1] from rfl, or_eq]
  simp only [Option.bind_some]
  congr 2
  unfold cmpE ltE sgn
  by_cases h1 : x.1 < y.1
  · simp [h1]
  · by_cases h2 : y.1 < x.1
    · have h3 : ¬ (x.1 = y.1) := by omega
      simp [h1, h2, h3]
    · have h3 : x.1 = y.1 := by omega
      by_cases h4 : x.2.1 < y.2.1
      · simp [h3, h4]
      · by_cases h5 : y.2.1 < x.2.1
        · simp [h3, h4, h5]
        · simp [h3, h4, h5]
theorem i_insertionSort_b2 : slices_insertionSortCmpFunc_impl_Event___impl_MergeJournals_2_b2 = g_insertionSort_b2 (ltE) := by
  funext 
  unfold slices_insertionSortCmpFunc_impl_Event___impl_MergeJournals_2_b2 g_insertionSort_b2
  try simp only [cmp_eq, cmp_neg, Option.bind_some]
  try rfl
theorem i_insertionSort_l2 : slices_insertionSortCmpFunc_impl_Event___impl_MergeJournals_2_l2 = g_insertionSort_l2 (ltE) := by
  funext 
  unfold slices_insertionSortCmpFunc_impl_Event___impl_MergeJournals_2_l2 g_insertionSort_l2
  try simp only [cmp_eq, cmp_neg, Option.bind_some, i_insertionSort_b2]
  try rfl
theorem i_insertionSort_b0 : slices_insertionSortCmpFunc_impl_Event___impl_MergeJournals_2_b0 = g_insertionSort_b0 (ltE) := by
  funext 
  unfold slices_insertionSortCmpFunc_impl_Event___impl_MergeJournals_2_b0 g_insertionSort_b0
  try simp only [cmp_eq, cmp_neg, Option.bind_some, i_insertionSort_b2, i_insertionSort_l2]
  try rfl
theorem i_insertionSort_l0 : slices_insertionSortCmpFunc_impl_Event___impl_MergeJournals_2_l0 = g_insertionSort_l0 (ltE) := by
  funext 
  unfold slices_insertionSortCmpFunc_impl_Event___impl_MergeJournals_2_l0 g_insertionSort_l0
  try simp only [cmp_eq, cmp_neg, Option.bind_some, i_insertionSort_b2, i_insertionSort_l2, i_insertionSort_b0]
  try rfl
theorem i_insertionSort : slices_insertionSortCmpFunc_impl_Event___impl_MergeJournals_2 = g_insertionSort (ltE) := by
  funext 
  unfold slices_insertionSortCmpFunc_impl_Event___impl_MergeJournals_2 g_insertionSort
  try simp only [cmp_eq, cmp_neg, Option.bind_some, i_insertionSort_b2, i_insertionSort_l2, i_insertionSort_b0, i_insertionSort_l0]
  try rfl
theorem i_siftDown_b0 : slices_siftDownCmpFunc_impl_Event___impl_MergeJournals_2_b0 = g_siftDown_b0 (ltE) := by
  funext 
  unfold slices_siftDownCmpFunc_impl_Event___impl_MergeJournals_2_b0 g_siftDown_b0
  try simp only [cmp_eq, cmp_neg, Option.bind_some, i_insertionSort_b2, i_insertionSort_l2, i_insertionSort_b0, i_insertionSort_l0, i_insertionSort]
  try rfl
theorem i_siftDown_l0 : slices_siftDownCmpFunc_impl_Event___impl_MergeJournals_2_l0 = g_siftDown_l0 (ltE) := by
  funext 
  unfold slices_siftDownCmpFunc_impl_Event___impl_MergeJournals_2_l0 g_siftDown_l0
  try simp only [cmp_eq, cmp_neg, Option.bind_some, i_insertionSort_b2, i_insertionSort_l2, i_insertionSort_b0, i_insertionSort_l0, i_insertionSort, i_siftDown_b0]
  try rfl
theorem i_siftDown : slices_siftDownCmpFunc_impl_Event___impl_MergeJournals_2 = g_siftDown (ltE) := by
  funext 
  unfold slices_siftDownCmpFunc_impl_Event___impl_MergeJournals_2 g_siftDown
  try simp only [cmp_eq, cmp_neg, Option.bind_some, i_insertionSort_b2, i_insertionSort_l2, i_insertionSort_b0, i_insertionSort_l0, i_insertionSort, i_siftDown_b0, i_siftDown_l0]
  try rfl
theorem i_heapSort_b0 : slices_heapSortCmpFunc_impl_Event___impl_MergeJournals_2_b0 = g_heapSort_b0 (ltE) := by
  funext 
  unfold slices_heapSortCmpFunc_impl_Event___impl_MergeJournals_2_b0 g_heapSort_b0
  try simp only [cmp_eq, cmp_neg, Option.bind_some, i_insertionSort_b2, i_insertionSort_l2, i_insertionSort_b0, i_insertionSort_l0, i_insertionSort, i_siftDown_b0, i_siftDown_l0, i_siftDown]
  try rfl
theorem i_heapSort_l0 : slices_heapSortCmpFunc_impl_Event___impl_MergeJournals_2_l0 = g_heapSort_l0 (ltE) := by
  funext 
  unfold slices_heapSortCmpFunc_impl_Event___impl_MergeJournals_2_l0 g_heapSort_l0
  try simp only [cmp_eq, cmp_neg, Option.bind_some, i_insertionSort_b2, i_insertionSort_l2, i_insertionSort_b0, i_insertionSort_l0, i_insertionSort, i_siftDown_b0, i_siftDown_l0, i_siftDown, i_heapSort_b0]
  try rfl
theorem i_heapSort_b2 : slices_heapSortCmpFunc_impl_Event___impl_MergeJournals_2_b2 = g_heapSort_b2 (ltE) := by
  funext 
  unfold slices_heapSortCmpFunc_impl_Event___impl_MergeJournals_2_b2 g_heapSort_b2
  try simp only [cmp_eq, cmp_neg, Option.bind_some, i_insertionSort_b2, i_insertionSort_l2, i_insertionSort_b0, i_insertionSort_l0, i_insertionSort, i_siftDown_b0, i_siftDown_l0, i_siftDown, i_heapSort_b0, i_heapSort_l0]
  try rfl
theorem i_heapSort_l2 : slices_heapSortCmpFunc_impl_Event___impl_MergeJournals_2_l2 = g_heapSort_l2 (ltE) := by
  funext 
  unfold slices_heapSortCmpFunc_impl_Event___impl_MergeJournals_2_l2 g_heapSort_l2
  try simp only [cmp_eq, cmp_neg, Option.bind_some, i_insertionSort_b2, i_insertionSort_l2, i_insertionSort_b0, i_insertionSort_l0, i_insertionSort, i_siftDown_b0, i_siftDown_l0, i_siftDown, i_heapSort_b0, i_heapSort_l0, i_heapSort_b2]
  try rfl
theorem i_heapSort : slices_heapSortCmpFunc_impl_Event___impl_MergeJournals_2 = g_heapSort (ltE) := by
  funext 
  unfold slices_heapSortCmpFunc_impl_Event___impl_MergeJournals_2 g_heapSort
  try simp only [cmp_eq, cmp_neg, Option.bind_some, i_insertionSort_b2, i_insertionSort_l2, i_insertionSort_b0, i_insertionSort_l0, i_insertionSort, i_siftDown_b0, i_siftDown_l0, i_siftDown, i_heapSort_b0, i_heapSort_l0, i_heapSort_b2, i_heapSort_l2]
  try rfl
theorem i_breakPatterns_b0 : slices_breakPatternsCmpFunc_impl_Event___impl_MergeJournals_2_b0 = g_breakPatterns_b0 (ltE) := by
  funext 
  unfold slices_breakPatternsCmpFunc_impl_Event___impl_MergeJournals_2_b0 g_breakPatterns_b0
  try simp only [cmp_eq, cmp_neg, Option.bind_some, i_insertionSort_b2, i_insertionSort_l2, i_insertionSort_b0, i_insertionSort_l0, i_insertionSort, i_siftDown_b0, i_siftDown_l0, i_siftDown, i_heapSort_b0, i_heapSort_l0, i_heapSort_b2, i_heapSort_l2, i_heapSort]
  try rfl
theorem i_breakPatterns_l0 : slices_breakPatternsCmpFunc_impl_Event___impl_MergeJournals_2_l0 = g_breakPatterns_l0 (ltE) := by
  funext 
  unfold slices_breakPatternsCmpFunc_impl_Event___impl_MergeJournals_2_l0 g_breakPatterns_l0
  try simp only [cmp_eq, cmp_neg, Option.bind_some, i_insertionSort_b2, i_insertionSort_l2, i_insertionSort_b0, i_insertionSort_l0, i_insertionSort, i_siftDown_b0, i_siftDown_l0, i_siftDown, i_heapSort_b0, i_heapSort_l0, i_heapSort_b2, i_heapSort_l2, i_heapSort, i_breakPatterns_b0]
  try rfl
theorem i_breakPatterns : slices_breakPatternsCmpFunc_impl_Event___impl_MergeJournals_2 = g_breakPatterns (ltE) := by
  funext 
  unfold slices_breakPatternsCmpFunc_impl_Event___impl_MergeJournals_2 g_breakPatterns
  try simp only [cmp_eq, cmp_neg, Option.bind_some, i_insertionSort_b2, i_insertionSort_l2, i_insertionSort_b0, i_insertionSort_l0, i_insertionSort, i_siftDown_b0, i_siftDown_l0, i_siftDown, i_heapSort_b0, i_heapSort_l0, i_heapSort_b2, i_heapSort_l2, i_heapSort, i_breakPatterns_b0, i_breakPatterns_l0]
  try rfl
theorem i_order2 : slices_order2CmpFunc_impl_Event___impl_MergeJournals_2 = g_order2 (ltE) := by
  funext 
  unfold slices_order2CmpFunc_impl_Event___impl_MergeJournals_2 g_order2
  try simp only [cmp_eq, cmp_neg, Option.bind_some, i_insertionSort_b2, i_insertionSort_l2, i_insertionSort_b0, i_insertionSort_l0, i_insertionSort, i_siftDown_b0, i_siftDown_l0, i_siftDown, i_heapSort_b0, i_heapSort_l0, i_heapSort_b2, i_heapSort_l2, i_heapSort, i_breakPatterns_b0, i_breakPatterns_l0, i_breakPatterns]
  try rfl
theorem i_median : slices_medianCmpFunc_impl_Event___impl_MergeJournals_2 = g_median (ltE) := by
  funext 
  unfold slices_medianCmpFunc_impl_Event___impl_MergeJournals_2 g_median
  try simp only [cmp_eq, cmp_neg, Option.bind_some, i_insertionSort_b2, i_insertionSort_l2, i_insertionSort_b0, i_insertionSort_l0, i_insertionSort, i_siftDown_b0, i_siftDown_l0, i_siftDown, i_heapSort_b0, i_heapSort_l0, i_heapSort_b2, i_heapSort_l2, i_heapSort, i_breakPatterns_b0, i_breakPatterns_l0, i_breakPatterns, i_order2]
  try rfl
theorem i_medianAdjacent : slices_medianAdjacentCmpFunc_impl_Event___impl_MergeJournals_2 = g_medianAdjacent (ltE) := by
  funext 
  unfold slices_medianAdjacentCmpFunc_impl_Event___impl_MergeJournals_2 g_medianAdjacent
  try simp only [cmp_eq, cmp_neg, Option.bind_some, i_insertionSort_b2, i_insertionSort_l2, i_insertionSort_b0, i_insertionSort_l0, i_insertionSort, i_siftDown_b0, i_siftDown_l0, i_siftDown, i_heapSort_b0, i_heapSort_l0, i_heapSort_b2, i_heapSort_l2, i_heapSort, i_breakPatterns_b0, i_breakPatterns_l0, i_breakPatterns, i_order2, i_median]
  try rfl
theorem i_choosePivot : slices_choosePivotCmpFunc_impl_Event___impl_MergeJournals_2 = g_choosePivot (ltE) := by
  funext 
  unfold slices_choosePivotCmpFunc_impl_Event___impl_MergeJournals_2 g_choosePivot
  try simp only [cmp_eq, cmp_neg, Option.bind_some, i_insertionSort_b2, i_insertionSort_l2, i_insertionSort_b0, i_insertionSort_l0, i_insertionSort, i_siftDown_b0, i_siftDown_l0, i_siftDown, i_heapSort_b0, i_heapSort_l0, i_heapSort_b2, i_heapSort_l2, i_heapSort, i_breakPatterns_b0, i_breakPatterns_l0, i_breakPatterns, i_order2, i_median, i_medianAdjacent]
  try rfl
theorem i_reverseRange_b0 : slices_reverseRangeCmpFunc_impl_Event___impl_MergeJournals_2_b0 = g_reverseRange_b0 (ltE) := by
  funext 
  unfold slices_reverseRangeCmpFunc_impl_Event___impl_MergeJournals_2_b0 g_reverseRange_b0
  try simp only [cmp_eq, cmp_neg, Option.bind_some, i_insertionSort_b2, i_insertionSort_l2, i_insertionSort_b0, i_insertionSort_l0, i_insertionSort, i_siftDown_b0, i_siftDown_l0, i_siftDown, i_heapSort_b0, i_heapSort_l0, i_heapSort_b2, i_heapSort_l2, i_heapSort, i_breakPatterns_b0, i_breakPatterns_l0, i_breakPatterns, i_order2, i_median, i_medianAdjacent, i_choosePivot]
  try rfl
theorem i_reverseRange_l0 : slices_reverseRangeCmpFunc_impl_Event___impl_MergeJournals_2_l0 = g_reverseRange_l0 (ltE) := by
  funext 
  unfold slices_reverseRangeCmpFunc_impl_Event___impl_MergeJournals_2_l0 g_reverseRange_l0
  try simp only [cmp_eq, cmp_neg, Option.bind_some, i_insertionSort_b2, i_insertionSort_l2, i_insertionSort_b0, i_insertionSort_l0, i_insertionSort, i_siftDown_b0, i_siftDown_l0, i_siftDown, i_heapSort_b0, i_heapSort_l0, i_heapSort_b2, i_heapSort_l2, i_heapSort, i_breakPatterns_b0, i_breakPatterns_l0, i_breakPatterns, i_order2, i_median, i_medianAdjacent, i_choosePivot, i_reverseRange_b0]
  try rfl
theorem i_reverseRange : slices_reverseRangeCmpFunc_impl_Event___impl_MergeJournals_2 = g_reverseRange (ltE) := by
  funext 
  unfold slices_reverseRangeCmpFunc_impl_Event___impl_MergeJournals_2 g_reverseRange
  try simp only [cmp_eq, cmp_neg, Option.bind_some, i_insertionSort_b2, i_insertionSort_l2, i_insertionSort_b0, i_insertionSort_l0, i_insertionSort, i_siftDown_b0, i_siftDown_l0, i_siftDown, i_heapSort_b0, i_heapSort_l0, i_heapSort_b2, i_heapSort_l2, i_heapSort, i_breakPatterns_b0, i_breakPatterns_l0, i_breakPatterns, i_order2, i_median, i_medianAdjacent, i_choosePivot, i_reverseRange_b0, i_reverseRange_l0]
  try rfl
theorem i_partialInsertionSort_b2 : slices_partialInsertionSortCmpFunc_impl_Event___impl_MergeJournals_2_b2 = g_partialInsertionSort_b2 (ltE) := by
  funext 
  unfold slices_partialInsertionSortCmpFunc_impl_Event___impl_MergeJournals_2_b2 g_partialInsertionSort_b2
  try simp only [cmp_eq, cmp_neg, Option.bind_some, i_insertionSort_b2, i_insertionSort_l2, i_insertionSort_b0, i_insertionSort_l0, i_insertionSort, i_siftDown_b0, i_siftDown_l0, i_siftDown, i_heapSort_b0, i_heapSort_l0, i_heapSort_b2, i_heapSort_l2, i_heapSort, i_breakPatterns_b0, i_breakPatterns_l0, i_breakPatterns, i_order2, i_median, i_medianAdjacent, i_choosePivot, i_reverseRange_b0, i_reverseRange_l0, i_reverseRange]
  try rfl
theorem i_partialInsertionSort_l2 : slices_partialInsertionSortCmpFunc_impl_Event___impl_MergeJournals_2_l2 = g_partialInsertionSort_l2 (ltE) := by
  funext 
  unfold slices_partialInsertionSortCmpFunc_impl_Event___impl_MergeJournals_2_l2 g_partialInsertionSort_l2
  try simp only [cmp_eq, cmp_neg, Option.bind_some, i_insertionSort_b2, i_insertionSort_l2, i_insertionSort_b0, i_insertionSort_l0, i_insertionSort, i_siftDown_b0, i_siftDown_l0, i_siftDown, i_heapSort_b0, i_heapSort_l0, i_heapSort_b2, i_heapSort_l2, i_heapSort, i_breakPatterns_b0, i_breakPatterns_l0, i_breakPatterns, i_order2, i_median, i_medianAdjacent, i_choosePivot, i_reverseRange_b0, i_reverseRange_l0, i_reverseRange, i_partialInsertionSort_b2]
  try rfl
theorem i_partialInsertionSort_b4 : slices_partialInsertionSortCmpFunc_impl_Event___impl_MergeJournals_2_b4 = g_partialInsertionSort_b4 (ltE) := by
  funext 
  unfold slices_partialInsertionSortCmpFunc_impl_Event___impl_MergeJournals_2_b4 g_partialInsertionSort_b4
  try simp only [cmp_eq, cmp_neg, Option.bind_some, i_insertionSort_b2, i_insertionSort_l2, i_insertionSort_b0, i_insertionSort_l0, i_insertionSort, i_siftDown_b0, i_siftDown_l0, i_siftDown, i_heapSort_b0, i_heapSort_l0, i_heapSort_b2, i_heapSort_l2, i_heapSort, i_breakPatterns_b0, i_breakPatterns_l0, i_breakPatterns, i_order2, i_median, i_medianAdjacent, i_choosePivot, i_reverseRange_b0, i_reverseRange_l0, i_reverseRange, i_partialInsertionSort_b2, i_partialInsertionSort_l2]
  try rfl
theorem i_partialInsertionSort_l4 : slices_partialInsertionSortCmpFunc_impl_Event___impl_MergeJournals_2_l4 = g_partialInsertionSort_l4 (ltE) := by
  funext 
  unfold slices_partialInsertionSortCmpFunc_impl_Event___impl_MergeJournals_2_l4 g_partialInsertionSort_l4
  try simp only [cmp_eq, cmp_neg, Option.bind_some, i_insertionSort_b2, i_insertionSort_l2, i_insertionSort_b0, i_insertionSort_l0, i_insertionSort, i_siftDown_b0, i_siftDown_l0, i_siftDown, i_heapSort_b0, i_heapSort_l0, i_heapSort_b2, i_heapSort_l2, i_heapSort, i_breakPatterns_b0, i_breakPatterns_l0, i_breakPatterns, i_order2, i_median, i_medianAdjacent, i_choosePivot, i_reverseRange_b0, i_reverseRange_l0, i_reverseRange, i_partialInsertionSort_b2, i_partialInsertionSort_l2, i_partialInsertionSort_b4]
  try rfl
theorem i_partialInsertionSort_b6 : slices_partialInsertionSortCmpFunc_impl_Event___impl_MergeJournals_2_b6 = g_partialInsertionSort_b6 (ltE) := by
  funext 
  unfold slices_partialInsertionSortCmpFunc_impl_Event___impl_MergeJournals_2_b6 g_partialInsertionSort_b6
  try simp only [cmp_eq, cmp_neg, Option.bind_some, i_insertionSort_b2, i_insertionSort_l2, i_insertionSort_b0, i_insertionSort_l0, i_insertionSort, i_siftDown_b0, i_siftDown_l0, i_siftDown, i_heapSort_b0, i_heapSort_l0, i_heapSort_b2, i_heapSort_l2, i_heapSort, i_breakPatterns_b0, i_breakPatterns_l0, i_breakPatterns, i_order2, i_median, i_medianAdjacent, i_choosePivot, i_reverseRange_b0, i_reverseRange_l0, i_reverseRange, i_partialInsertionSort_b2, i_partialInsertionSort_l2, i_partialInsertionSort_b4, i_partialInsertionSort_l4]
  try rfl
theorem i_partialInsertionSort_l6 : slices_partialInsertionSortCmpFunc_impl_Event___impl_MergeJournals_2_l6 = g_partialInsertionSort_l6 (ltE) := by
  funext 
  unfold slices_partialInsertionSortCmpFunc_impl_Event___impl_MergeJournals_2_l6 g_partialInsertionSort_l6
  try simp only [cmp_eq, cmp_neg, Option.bind_some, i_insertionSort_b2, i_insertionSort_l2, i_insertionSort_b0, i_insertionSort_l0, i_insertionSort, i_siftDown_b0, i_siftDown_l0, i_siftDown, i_heapSort_b0, i_heapSort_l0, i_heapSort_b2, i_heapSort_l2, i_heapSort, i_breakPatterns_b0, i_breakPatterns_l0, i_breakPatterns, i_order2, i_median, i_medianAdjacent, i_choosePivot, i_reverseRange_b0, i_reverseRange_l0, i_reverseRange, i_partialInsertionSort_b2, i_partialInsertionSort_l2, i_partialInsertionSort_b4, i_partialInsertionSort_l4, i_partialInsertionSort_b6]
  try rfl
theorem i_partialInsertionSort_b0 : slices_partialInsertionSortCmpFunc_impl_Event___impl_MergeJournals_2_b0 = g_partialInsertionSort_b0 (ltE) := by
  funext 
  unfold slices_partialInsertionSortCmpFunc_impl_Event___impl_MergeJournals_2_b0 g_partialInsertionSort_b0
  try simp only [cmp_eq, cmp_neg, Option.bind_some, i_insertionSort_b2, i_insertionSort_l2, i_insertionSort_b0, i_insertionSort_l0, i_insertionSort, i_siftDown_b0, i_siftDown_l0, i_siftDown, i_heapSort_b0, i_heapSort_l0, i_heapSort_b2, i_heapSort_l2, i_heapSort, i_breakPatterns_b0, i_breakPatterns_l0, i_breakPatterns, i_order2, i_median, i_medianAdjacent, i_choosePivot, i_reverseRange_b0, i_reverseRange_l0, i_reverseRange, i_partialInsertionSort_b2, i_partialInsertionSort_l2, i_partialInsertionSort_b4, i_partialInsertionSort_l4, i_partialInsertionSort_b6, i_partialInsertionSort_l6]
  try rfl
theorem i_partialInsertionSort_l0 : slices_partialInsertionSortCmpFunc_impl_Event___impl_MergeJournals_2_l0 = g_partialInsertionSort_l0 (ltE) := by
  funext 
  unfold slices_partialInsertionSortCmpFunc_impl_Event___impl_MergeJournals_2_l0 g_partialInsertionSort_l0
  try simp only [cmp_eq, cmp_neg, Option.bind_some, i_insertionSort_b2, i_insertionSort_l2, i_insertionSort_b0, i_insertionSort_l0, i_insertionSort, i_siftDown_b0, i_siftDown_l0, i_siftDown, i_heapSort_b0, i_heapSort_l0, i_heapSort_b2, i_heapSort_l2, i_heapSort, i_breakPatterns_b0, i_breakPatterns_l0, i_breakPatterns, i_order2, i_median, i_medianAdjacent, i_choosePivot, i_reverseRange_b0, i_reverseRange_l0, i_reverseRange, i_partialInsertionSort_b2, i_partialInsertionSort_l2, i_partialInsertionSort_b4, i_partialInsertionSort_l4, i_partialInsertionSort_b6, i_partialInsertionSort_l6, i_partialInsertionSort_b0]
  try rfl
theorem i_partialInsertionSort : slices_partialInsertionSortCmpFunc_impl_Event___impl_MergeJournals_2 = g_partialInsertionSort (ltE) := by
  funext 
  unfold slices_partialInsertionSortCmpFunc_impl_Event___impl_MergeJournals_2 g_partialInsertionSort
  try simp only [cmp_eq, cmp_neg, Option.bind_some, i_insertionSort_b2, i_insertionSort_l2, i_insertionSort_b0, i_insertionSort_l0, i_insertionSort, i_siftDown_b0, i_siftDown_l0, i_siftDown, i_heapSort_b0, i_heapSort_l0, i_heapSort_b2, i_heapSort_l2, i_heapSort, i_breakPatterns_b0, i_breakPatterns_l0, i_breakPatterns, i_order2, i_median, i_medianAdjacent, i_choosePivot, i_reverseRange_b0, i_reverseRange_l0, i_reverseRange, i_partialInsertionSort_b2, i_partialInsertionSort_l2, i_partialInsertionSort_b4, i_partialInsertionSort_l4, i_partialInsertionSort_b6, i_partialInsertionSort_l6, i_partialInsertionSort_b0, i_partialInsertionSort_l0]
  try rfl
theorem i_partitionEqual_b2 : slices_partitionEqualCmpFunc_impl_Event___impl_MergeJournals_2_b2 = g_partitionEqual_b2 (ltE) := by
  funext 
  unfold slices_partitionEqualCmpFunc_impl_Event___impl_MergeJournals_2_b2 g_partitionEqual_b2
  try simp only [cmp_eq, cmp_neg, Option.bind_some, i_insertionSort_b2, i_insertionSort_l2, i_insertionSort_b0, i_insertionSort_l0, i_insertionSort, i_siftDown_b0, i_siftDown_l0, i_siftDown, i_heapSort_b0, i_heapSort_l0, i_heapSort_b2, i_heapSort_l2, i_heapSort, i_breakPatterns_b0, i_breakPatterns_l0, i_breakPatterns, i_order2, i_median, i_medianAdjacent, i_choosePivot, i_reverseRange_b0, i_reverseRange_l0, i_reverseRange, i_partialInsertionSort_b2, i_partialInsertionSort_l2, i_partialInsertionSort_b4, i_partialInsertionSort_l4, i_partialInsertionSort_b6, i_partialInsertionSort_l6, i_partialInsertionSort_b0, i_partialInsertionSort_l0, i_partialInsertionSort]
  try rfl
theorem i_partitionEqual_l2 : slices_partitionEqualCmpFunc_impl_Event___impl_MergeJournals_2_l2 = g_partitionEqual_l2 (ltE) := by
  funext 
  unfold slices_partitionEqualCmpFunc_impl_Event___impl_MergeJournals_2_l2 g_partitionEqual_l2
  try simp only [cmp_eq, cmp_neg, Option.bind_some, i_insertionSort_b2, i_insertionSort_l2, i_insertionSort_b0, i_insertionSort_l0, i_insertionSort, i_siftDown_b0, i_siftDown_l0, i_siftDown, i_heapSort_b0, i_heapSort_l0, i_heapSort_b2, i_heapSort_l2, i_heapSort, i_breakPatterns_b0, i_breakPatterns_l0, i_breakPatterns, i_order2, i_median, i_medianAdjacent, i_choosePivot, i_reverseRange_b0, i_reverseRange_l0, i_reverseRange, i_partialInsertionSort_b2, i_partialInsertionSort_l2, i_partialInsertionSort_b4, i_partialInsertionSort_l4, i_partialInsertionSort_b6, i_partialInsertionSort_l6, i_partialInsertionSort_b0, i_partialInsertionSort_l0, i_partialInsertionSort, i_partitionEqual_b2]
  try rfl
theorem i_partitionEqual_b4 : slices_partitionEqualCmpFunc_impl_Event___impl_MergeJournals_2_b4 = g_partitionEqual_b4 (ltE) := by
  funext 
  unfold slices_partitionEqualCmpFunc_impl_Event___impl_MergeJournals_2_b4 g_partitionEqual_b4
  try simp only [cmp_eq, cmp_neg, Option.bind_some, i_insertionSort_b2, i_insertionSort_l2, i_insertionSort_b0, i_insertionSort_l0, i_insertionSort, i_siftDown_b0, i_siftDown_l0, i_siftDown, i_heapSort_b0, i_heapSort_l0, i_heapSort_b2, i_heapSort_l2, i_heapSort, i_breakPatterns_b0, i_breakPatterns_l0, i_breakPatterns, i_order2, i_median, i_medianAdjacent, i_choosePivot, i_reverseRange_b0, i_reverseRange_l0, i_reverseRange, i_partialInsertionSort_b2, i_partialInsertionSort_l2, i_partialInsertionSort_b4, i_partialInsertionSort_l4, i_partialInsertionSort_b6, i_partialInsertionSort_l6, i_partialInsertionSort_b0, i_partialInsertionSort_l0, i_partialInsertionSort, i_partitionEqual_b2, i_partitionEqual_l2]
  try rfl
theorem i_partitionEqual_l4 : slices_partitionEqualCmpFunc_impl_Event___impl_MergeJournals_2_l4 = g_partitionEqual_l4 (ltE) := by
  funext 
  unfold slices_partitionEqualCmpFunc_impl_Event___impl_MergeJournals_2_l4 g_partitionEqual_l4
  try simp only [cmp_eq, cmp_neg, Option.bind_some, i_insertionSort_b2, i_insertionSort_l2, i_insertionSort_b0, i_insertionSort_l0, i_insertionSort, i_siftDown_b0, i_siftDown_l0, i_siftDown, i_heapSort_b0, i_heapSort_l0, i_heapSort_b2, i_heapSort_l2, i_heapSort, i_breakPatterns_b0, i_breakPatterns_l0, i_breakPatterns, i_order2, i_median, i_medianAdjacent, i_choosePivot, i_reverseRange_b0, i_reverseRange_l0, i_reverseRange, i_partialInsertionSort_b2, i_partialInsertionSort_l2, i_partialInsertionSort_b4, i_partialInsertionSort_l4, i_partialInsertionSort_b6, i_partialInsertionSort_l6, i_partialInsertionSort_b0, i_partialInsertionSort_l0, i_partialInsertionSort, i_partitionEqual_b2, i_partitionEqual_l2, i_partitionEqual_b4]
  try rfl
theorem i_partitionEqual_b0 : slices_partitionEqualCmpFunc_impl_Event___impl_MergeJournals_2_b0 = g_partitionEqual_b0 (ltE) := by
  funext 
  unfold slices_partitionEqualCmpFunc_impl_Event___impl_MergeJournals_2_b0 g_partitionEqual_b0
  try simp only [cmp_eq, cmp_neg, Option.bind_some, i_insertionSort_b2, i_insertionSort_l2, i_insertionSort_b0, i_insertionSort_l0, i_insertionSort, i_siftDown_b0, i_siftDown_l0, i_siftDown, i_heapSort_b0, i_heapSort_l0, i_heapSort_b2, i_heapSort_l2, i_heapSort, i_breakPatterns_b0, i_breakPatterns_l0, i_breakPatterns, i_order2, i_median, i_medianAdjacent, i_choosePivot, i_reverseRange_b0, i_reverseRange_l0, i_reverseRange, i_partialInsertionSort_b2, i_partialInsertionSort_l2, i_partialInsertionSort_b4, i_partialInsertionSort_l4, i_partialInsertionSort_b6, i_partialInsertionSort_l6, i_partialInsertionSort_b0, i_partialInsertionSort_l0, i_partialInsertionSort, i_partitionEqual_b2, i_partitionEqual_l2, i_partitionEqual_b4, i_partitionEqual_l4]
  try rfl
theorem i_partitionEqual_l0 : slices_partitionEqualCmpFunc_impl_Event___impl_MergeJournals_2_l0 = g_partitionEqual_l0 (ltE) := by
  funext 
  unfold slices_partitionEqualCmpFunc_impl_Event___impl_MergeJournals_2_l0 g_partitionEqual_l0
  try simp only [cmp_eq, cmp_neg, Option.bind_some, i_insertionSort_b2, i_insertionSort_l2, i_insertionSort_b0, i_insertionSort_l0, i_insertionSort, i_siftDown_b0, i_siftDown_l0, i_siftDown, i_heapSort_b0, i_heapSort_l0, i_heapSort_b2, i_heapSort_l2, i_heapSort, i_breakPatterns_b0, i_breakPatterns_l0, i_breakPatterns, i_order2, i_median, i_medianAdjacent, i_choosePivot, i_reverseRange_b0, i_reverseRange_l0, i_reverseRange, i_partialInsertionSort_b2, i_partialInsertionSort_l2, i_partialInsertionSort_b4, i_partialInsertionSort_l4, i_partialInsertionSort_b6, i_partialInsertionSort_l6, i_partialInsertionSort_b0, i_partialInsertionSort_l0, i_partialInsertionSort, i_partitionEqual_b2, i_partitionEqual_l2, i_partitionEqual_b4, i_partitionEqual_l4, i_partitionEqual_b0]
  try rfl
theorem i_partitionEqual : slices_partitionEqualCmpFunc_impl_Event___impl_MergeJournals_2 = g_partitionEqual (ltE) := by
  funext 
  unfold slices_partitionEqualCmpFunc_impl_Event___impl_MergeJournals_2 g_partitionEqual
  try simp only [cmp_eq, cmp_neg, Option.bind_some, i_insertionSort_b2, i_insertionSort_l2, i_insertionSort_b0, i_insertionSort_l0, i_insertionSort, i_siftDown_b0, i_siftDown_l0, i_siftDown, i_heapSort_b0, i_heapSort_l0, i_heapSort_b2, i_heapSort_l2, i_heapSort, i_breakPatterns_b0, i_breakPatterns_l0, i_breakPatterns, i_order2, i_median, i_medianAdjacent, i_choosePivot, i_reverseRange_b0, i_reverseRange_l0, i_reverseRange, i_partialInsertionSort_b2, i_partialInsertionSort_l2, i_partialInsertionSort_b4, i_partialInsertionSort_l4, i_partialInsertionSort_b6, i_partialInsertionSort_l6, i_partialInsertionSort_b0, i_partialInsertionSort_l0, i_partialInsertionSort, i_partitionEqual_b2, i_partitionEqual_l2, i_partitionEqual_b4, i_partitionEqual_l4, i_partitionEqual_b0, i_partitionEqual_l0]
  try rfl
theorem i_partition_b0 : slices_partitionCmpFunc_impl_Event___impl_MergeJournals_2_b0 = g_partition_b0 (ltE) := by
  funext 
  unfold slices_partitionCmpFunc_impl_Event___impl_MergeJournals_2_b0 g_partition_b0
  try simp only [cmp_eq, cmp_neg, Option.bind_some, i_insertionSort_b2, i_insertionSort_l2, i_insertionSort_b0, i_insertionSort_l0, i_insertionSort, i_siftDown_b0, i_siftDown_l0, i_siftDown, i_heapSort_b0, i_heapSort_l0, i_heapSort_b2, i_heapSort_l2, i_heapSort, i_breakPatterns_b0, i_breakPatterns_l0, i_breakPatterns, i_order2, i_median, i_medianAdjacent, i_choosePivot, i_reverseRange_b0, i_reverseRange_l0, i_reverseRange, i_partialInsertionSort_b2, i_partialInsertionSort_l2, i_partialInsertionSort_b4, i_partialInsertionSort_l4, i_partialInsertionSort_b6, i_partialInsertionSort_l6, i_partialInsertionSort_b0, i_partialInsertionSort_l0, i_partialInsertionSort, i_partitionEqual_b2, i_partitionEqual_l2, i_partitionEqual_b4, i_partitionEqual_l4, i_partitionEqual_b0, i_partitionEqual_l0, i_partitionEqual]
  try rfl
theorem i_partition_l0 : slices_partitionCmpFunc_impl_Event___impl_MergeJournals_2_l0 = g_partition_l0 (ltE) := by
  funext 
  unfold slices_partitionCmpFunc_impl_Event___impl_MergeJournals_2_l0 g_partition_l0
  try simp only [cmp_eq, cmp_neg, Option.bind_some, i_insertionSort_b2, i_insertionSort_l2, i_insertionSort_b0, i_insertionSort_l0, i_insertionSort, i_siftDown_b0, i_siftDown_l0, i_siftDown, i_heapSort_b0, i_heapSort_l0, i_heapSort_b2, i_heapSort_l2, i_heapSort, i_breakPatterns_b0, i_breakPatterns_l0, i_breakPatterns, i_order2, i_median, i_medianAdjacent, i_choosePivot, i_reverseRange_b0, i_reverseRange_l0, i_reverseRange, i_partialInsertionSort_b2, i_partialInsertionSort_l2, i_partialInsertionSort_b4, i_partialInsertionSort_l4, i_partialInsertionSort_b6, i_partialInsertionSort_l6, i_partialInsertionSort_b0, i_partialInsertionSort_l0, i_partialInsertionSort, i_partitionEqual_b2, i_partitionEqual_l2, i_partitionEqual_b4, i_partitionEqual_l4, i_partitionEqual_b0, i_partitionEqual_l0, i_partitionEqual, i_partition_b0]
  try rfl
theorem i_partition_b2 : slices_partitionCmpFunc_impl_Event___impl_MergeJournals_2_b2 = g_partition_b2 (ltE) := by
  funext 
  unfold slices_partitionCmpFunc_impl_Event___impl_MergeJournals_2_b2 g_partition_b2
  try simp only [cmp_eq, cmp_neg, Option.bind_some, i_insertionSort_b2, i_insertionSort_l2, i_insertionSort_b0, i_insertionSort_l0, i_insertionSort, i_siftDown_b0, i_siftDown_l0, i_siftDown, i_heapSort_b0, i_heapSort_l0, i_heapSort_b2, i_heapSort_l2, i_heapSort, i_breakPatterns_b0, i_breakPatterns_l0, i_breakPatterns, i_order2, i_median, i_medianAdjacent, i_choosePivot, i_reverseRange_b0, i_reverseRange_l0, i_reverseRange, i_partialInsertionSort_b2, i_partialInsertionSort_l2, i_partialInsertionSort_b4, i_partialInsertionSort_l4, i_partialInsertionSort_b6, i_partialInsertionSort_l6, i_partialInsertionSort_b0, i_partialInsertionSort_l0, i_partialInsertionSort, i_partitionEqual_b2, i_partitionEqual_l2, i_partitionEqual_b4, i_partitionEqual_l4, i_partitionEqual_b0, i_partitionEqual_l0, i_partitionEqual, i_partition_b0, i_partition_l0]
  try rfl
theorem i_partition_l2 : slices_partitionCmpFunc_impl_Event___impl_MergeJournals_2_l2 = g_partition_l2 (ltE) := by
  funext 
  unfold slices_partitionCmpFunc_impl_Event___impl_MergeJournals_2_l2 g_partition_l2
  try simp only [cmp_eq, cmp_neg, Option.bind_some, i_insertionSort_b2, i_insertionSort_l2, i_insertionSort_b0, i_insertionSort_l0, i_insertionSort, i_siftDown_b0, i_siftDown_l0, i_siftDown, i_heapSort_b0, i_heapSort_l0, i_heapSort_b2, i_heapSort_l2, i_heapSort, i_breakPatterns_b0, i_breakPatterns_l0, i_breakPatterns, i_order2, i_median, i_medianAdjacent, i_choosePivot, i_reverseRange_b0, i_reverseRange_l0, i_reverseRange, i_partialInsertionSort_b2, i_partialInsertionSort_l2, i_partialInsertionSort_b4, i_partialInsertionSort_l4, i_partialInsertionSort_b6, i_partialInsertionSort_l6, i_partialInsertionSort_b0, i_partialInsertionSort_l0, i_partialInsertionSort, i_partitionEqual_b2, i_partitionEqual_l2, i_partitionEqual_b4, i_partitionEqual_l4, i_partitionEqual_b0, i_partitionEqual_l0, i_partitionEqual, i_partition_b0, i_partition_l0, i_partition_b2]
  try rfl
theorem i_partition_b6 : slices_partitionCmpFunc_impl_Event___impl_MergeJournals_2_b6 = g_partition_b6 (ltE) := by
  funext 
  unfold slices_partitionCmpFunc_impl_Event___impl_MergeJournals_2_b6 g_partition_b6
  try simp only [cmp_eq, cmp_neg, Option.bind_some, i_insertionSort_b2, i_insertionSort_l2, i_insertionSort_b0, i_insertionSort_l0, i_insertionSort, i_siftDown_b0, i_siftDown_l0, i_siftDown, i_heapSort_b0, i_heapSort_l0, i_heapSort_b2, i_heapSort_l2, i_heapSort, i_breakPatterns_b0, i_breakPatterns_l0, i_breakPatterns, i_order2, i_median, i_medianAdjacent, i_choosePivot, i_reverseRange_b0, i_reverseRange_l0, i_reverseRange, i_partialInsertionSort_b2, i_partialInsertionSort_l2, i_partialInsertionSort_b4, i_partialInsertionSort_l4, i_partialInsertionSort_b6, i_partialInsertionSort_l6, i_partialInsertionSort_b0, i_partialInsertionSort_l0, i_partialInsertionSort, i_partitionEqual_b2, i_partitionEqual_l2, i_partitionEqual_b4, i_partitionEqual_l4, i_partitionEqual_b0, i_partitionEqual_l0, i_partitionEqual, i_partition_b0, i_partition_l0, i_partition_b2, i_partition_l2]
  try rfl
theorem i_partition_l6 : slices_partitionCmpFunc_impl_Event___impl_MergeJournals_2_l6 = g_partition_l6 (ltE) := by
  funext 
  unfold slices_partitionCmpFunc_impl_Event___impl_MergeJournals_2_l6 g_partition_l6
  try simp only [cmp_eq, cmp_neg, Option.bind_some, i_insertionSort_b2, i_insertionSort_l2, i_insertionSort_b0, i_insertionSort_l0, i_insertionSort, i_siftDown_b0, i_siftDown_l0, i_siftDown, i_heapSort_b0, i_heapSort_l0, i_heapSort_b2, i_heapSort_l2, i_heapSort, i_breakPatterns_b0, i_breakPatterns_l0, i_breakPatterns, i_order2, i_median, i_medianAdjacent, i_choosePivot, i_reverseRange_b0, i_reverseRange_l0, i_reverseRange, i_partialInsertionSort_b2, i_partialInsertionSort_l2, i_partialInsertionSort_b4, i_partialInsertionSort_l4, i_partialInsertionSort_b6, i_partialInsertionSort_l6, i_partialInsertionSort_b0, i_partialInsertionSort_l0, i_partialInsertionSort, i_partitionEqual_b2, i_partitionEqual_l2, i_partitionEqual_b4, i_partitionEqual_l4, i_partitionEqual_b0, i_partitionEqual_l0, i_partitionEqual, i_partition_b0, i_partition_l0, i_partition_b2, i_partition_l2, i_partition_b6]
  try rfl
theorem i_partition_b8 : slices_partitionCmpFunc_impl_Event___impl_MergeJournals_2_b8 = g_partition_b8 (ltE) := by
  funext 
  unfold slices_partitionCmpFunc_impl_Event___impl_MergeJournals_2_b8 g_partition_b8
  try simp only [cmp_eq, cmp_neg, Option.bind_some, i_insertionSort_b2, i_insertionSort_l2, i_insertionSort_b0, i_insertionSort_l0, i_insertionSort, i_siftDown_b0, i_siftDown_l0, i_siftDown, i_heapSort_b0, i_heapSort_l0, i_heapSort_b2, i_heapSort_l2, i_heapSort, i_breakPatterns_b0, i_breakPatterns_l0, i_breakPatterns, i_order2, i_median, i_medianAdjacent, i_choosePivot, i_reverseRange_b0, i_reverseRange_l0, i_reverseRange, i_partialInsertionSort_b2, i_partialInsertionSort_l2, i_partialInsertionSort_b4, i_partialInsertionSort_l4, i_partialInsertionSort_b6, i_partialInsertionSort_l6, i_partialInsertionSort_b0, i_partialInsertionSort_l0, i_partialInsertionSort, i_partitionEqual_b2, i_partitionEqual_l2, i_partitionEqual_b4, i_partitionEqual_l4, i_partitionEqual_b0, i_partitionEqual_l0, i_partitionEqual, i_partition_b0, i_partition_l0, i_partition_b2, i_partition_l2, i_partition_b6, i_partition_l6]
  try rfl
theorem i_partition_l8 : slices_partitionCmpFunc_impl_Event___impl_MergeJournals_2_l8 = g_partition_l8 (ltE) := by
  funext 
  unfold slices_partitionCmpFunc_impl_Event___impl_MergeJournals_2_l8 g_partition_l8
  try simp only [cmp_eq, cmp_neg, Option.bind_some, i_insertionSort_b2, i_insertionSort_l2, i_insertionSort_b0, i_insertionSort_l0, i_insertionSort, i_siftDown_b0, i_siftDown_l0, i_siftDown, i_heapSort_b0, i_heapSort_l0, i_heapSort_b2, i_heapSort_l2, i_heapSort, i_breakPatterns_b0, i_breakPatterns_l0, i_breakPatterns, i_order2, i_median, i_medianAdjacent, i_choosePivot, i_reverseRange_b0, i_reverseRange_l0, i_reverseRange, i_partialInsertionSort_b2, i_partialInsertionSort_l2, i_partialInsertionSort_b4, i_partialInsertionSort_l4, i_partialInsertionSort_b6, i_partialInsertionSort_l6, i_partialInsertionSort_b0, i_partialInsertionSort_l0, i_partialInsertionSort, i_partitionEqual_b2, i_partitionEqual_l2, i_partitionEqual_b4, i_partitionEqual_l4, i_partitionEqual_b0, i_partitionEqual_l0, i_partitionEqual, i_partition_b0, i_partition_l0, i_partition_b2, i_partition_l2, i_partition_b6, i_partition_l6, i_partition_b8]
  try rfl
theorem i_partition_b4 : slices_partitionCmpFunc_impl_Event___impl_MergeJournals_2_b4 = g_partition_b4 (ltE) := by
  funext 
  unfold slices_partitionCmpFunc_impl_Event___impl_MergeJournals_2_b4 g_partition_b4
  try simp only [cmp_eq, cmp_neg, Option.bind_some, i_insertionSort_b2, i_insertionSort_l2, i_insertionSort_b0, i_insertionSort_l0, i_insertionSort, i_siftDown_b0, i_siftDown_l0, i_siftDown, i_heapSort_b0, i_heapSort_l0, i_heapSort_b2, i_heapSort_l2, i_heapSort, i_breakPatterns_b0, i_breakPatterns_l0, i_breakPatterns, i_order2, i_median, i_medianAdjacent, i_choosePivot, i_reverseRange_b0, i_reverseRange_l0, i_reverseRange, i_partialInsertionSort_b2, i_partialInsertionSort_l2, i_partialInsertionSort_b4, i_partialInsertionSort_l4, i_partialInsertionSort_b6, i_partialInsertionSort_l6, i_partialInsertionSort_b0, i_partialInsertionSort_l0, i_partialInsertionSort, i_partitionEqual_b2, i_partitionEqual_l2, i_partitionEqual_b4, i_partitionEqual_l4, i_partitionEqual_b0, i_partitionEqual_l0, i_partitionEqual, i_partition_b0, i_partition_l0, i_partition_b2, i_partition_l2, i_partition_b6, i_partition_l6, i_partition_b8, i_partition_l8]
  try rfl
theorem i_partition_l4 : slices_partitionCmpFunc_impl_Event___impl_MergeJournals_2_l4 = g_partition_l4 (ltE) := by
  funext 
  unfold slices_partitionCmpFunc_impl_Event___impl_MergeJournals_2_l4 g_partition_l4
  try simp only [cmp_eq, cmp_neg, Option.bind_some, i_insertionSort_b2, i_insertionSort_l2, i_insertionSort_b0, i_insertionSort_l0, i_insertionSort, i_siftDown_b0, i_siftDown_l0, i_siftDown, i_heapSort_b0, i_heapSort_l0, i_heapSort_b2, i_heapSort_l2, i_heapSort, i_breakPatterns_b0, i_breakPatterns_l0, i_breakPatterns, i_order2, i_median, i_medianAdjacent, i_choosePivot, i_reverseRange_b0, i_reverseRange_l0, i_reverseRange, i_partialInsertionSort_b2, i_partialInsertionSort_l2, i_partialInsertionSort_b4, i_partialInsertionSort_l4, i_partialInsertionSort_b6, i_partialInsertionSort_l6, i_partialInsertionSort_b0, i_partialInsertionSort_l0, i_partialInsertionSort, i_partitionEqual_b2, i_partitionEqual_l2, i_partitionEqual_b4, i_partitionEqual_l4, i_partitionEqual_b0, i_partitionEqual_l0, i_partitionEqual, i_partition_b0, i_partition_l0, i_partition_b2, i_partition_l2, i_partition_b6, i_partition_l6, i_partition_b8, i_partition_l8, i_partition_b4]
  try rfl
theorem i_partition : slices_partitionCmpFunc_impl_Event___impl_MergeJournals_2 = g_partition (ltE) := by
  funext 
  unfold slices_partitionCmpFunc_impl_Event___impl_MergeJournals_2 g_partition
  try simp only [cmp_eq, cmp_neg, Option.bind_some, i_insertionSort_b2, i_insertionSort_l2, i_insertionSort_b0, i_insertionSort_l0, i_insertionSort, i_siftDown_b0, i_siftDown_l0, i_siftDown, i_heapSort_b0, i_heapSort_l0, i_heapSort_b2, i_heapSort_l2, i_heapSort, i_breakPatterns_b0, i_breakPatterns_l0, i_breakPatterns, i_order2, i_median, i_medianAdjacent, i_choosePivot, i_reverseRange_b0, i_reverseRange_l0, i_reverseRange, i_partialInsertionSort_b2, i_partialInsertionSort_l2, i_partialInsertionSort_b4, i_partialInsertionSort_l4, i_partialInsertionSort_b6, i_partialInsertionSort_l6, i_partialInsertionSort_b0, i_partialInsertionSort_l0, i_partialInsertionSort, i_partitionEqual_b2, i_partitionEqual_l2, i_partitionEqual_b4, i_partitionEqual_l4, i_partitionEqual_b0, i_partitionEqual_l0, i_partitionEqual, i_partition_b0, i_partition_l0, i_partition_b2, i_partition_l2, i_partition_b6, i_partition_l6, i_partition_b8, i_partition_l8, i_partition_b4, i_partition_l4]
  try rfl
theorem i_pdqsort_b0 : slices_pdqsortCmpFunc_impl_Event___impl_MergeJournals_2_b0 = g_pdqsort_b0 (ltE) := by
  funext 
  unfold slices_pdqsortCmpFunc_impl_Event___impl_MergeJournals_2_b0 g_pdqsort_b0
  try simp only [cmp_eq, cmp_neg, Option.bind_some, i_insertionSort_b2, i_insertionSort_l2, i_insertionSort_b0, i_insertionSort_l0, i_insertionSort, i_siftDown_b0, i_siftDown_l0, i_siftDown, i_heapSort_b0, i_heapSort_l0, i_heapSort_b2, i_heapSort_l2, i_heapSort, i_breakPatterns_b0, i_breakPatterns_l0, i_breakPatterns, i_order2, i_median, i_medianAdjacent, i_choosePivot, i_reverseRange_b0, i_reverseRange_l0, i_reverseRange, i_partialInsertionSort_b2, i_partialInsertionSort_l2, i_partialInsertionSort_b4, i_partialInsertionSort_l4, i_partialInsertionSort_b6, i_partialInsertionSort_l6, i_partialInsertionSort_b0, i_partialInsertionSort_l0, i_partialInsertionSort, i_partitionEqual_b2, i_partitionEqual_l2, i_partitionEqual_b4, i_partitionEqual_l4, i_partitionEqual_b0, i_partitionEqual_l0, i_partitionEqual, i_partition_b0, i_partition_l0, i_partition_b2, i_partition_l2, i_partition_b6, i_partition_l6, i_partition_b8, i_partition_l8, i_partition_b4, i_partition_l4, i_partition]
  try rfl
theorem i_pdqsort_l0 : slices_pdqsortCmpFunc_impl_Event___impl_MergeJournals_2_l0 = g_pdqsort_l0 (ltE) := by
  funext 
  unfold slices_pdqsortCmpFunc_impl_Event___impl_MergeJournals_2_l0 g_pdqsort_l0
  try simp only [cmp_eq, cmp_neg, Option.bind_some, i_insertionSort_b2, i_insertionSort_l2, i_insertionSort_b0, i_insertionSort_l0, i_insertionSort, i_siftDown_b0, i_siftDown_l0, i_siftDown, i_heapSort_b0, i_heapSort_l0, i_heapSort_b2, i_heapSort_l2, i_heapSort, i_breakPatterns_b0, i_breakPatterns_l0, i_breakPatterns, i_order2, i_median, i_medianAdjacent, i_choosePivot, i_reverseRange_b0, i_reverseRange_l0, i_reverseRange, i_partialInsertionSort_b2, i_partialInsertionSort_l2, i_partialInsertionSort_b4, i_partialInsertionSort_l4, i_partialInsertionSort_b6, i_partialInsertionSort_l6, i_partialInsertionSort_b0, i_partialInsertionSort_l0, i_partialInsertionSort, i_partitionEqual_b2, i_partitionEqual_l2, i_partitionEqual_b4, i_partitionEqual_l4, i_partitionEqual_b0, i_partitionEqual_l0, i_partitionEqual, i_partition_b0, i_partition_l0, i_partition_b2, i_partition_l2, i_partition_b6, i_partition_l6, i_partition_b8, i_partition_l8, i_partition_b4, i_partition_l4, i_partition, i_pdqsort_b0]
  try rfl
theorem i_pdqsort_r : slices_pdqsortCmpFunc_impl_Event___impl_MergeJournals_2_r = g_pdqsort_r (ltE) := by
  funext 
  unfold slices_pdqsortCmpFunc_impl_Event___impl_MergeJournals_2_r g_pdqsort_r
  try simp only [cmp_eq, cmp_neg, Option.bind_some, i_insertionSort_b2, i_insertionSort_l2, i_insertionSort_b0, i_insertionSort_l0, i_insertionSort, i_siftDown_b0, i_siftDown_l0, i_siftDown, i_heapSort_b0, i_heapSort_l0, i_heapSort_b2, i_heapSort_l2, i_heapSort, i_breakPatterns_b0, i_breakPatterns_l0, i_breakPatterns, i_order2, i_median, i_medianAdjacent, i_choosePivot, i_reverseRange_b0, i_reverseRange_l0, i_reverseRange, i_partialInsertionSort_b2, i_partialInsertionSort_l2, i_partialInsertionSort_b4, i_partialInsertionSort_l4, i_partialInsertionSort_b6, i_partialInsertionSort_l6, i_partialInsertionSort_b0, i_partialInsertionSort_l0, i_partialInsertionSort, i_partitionEqual_b2, i_partitionEqual_l2, i_partitionEqual_b4, i_partitionEqual_l4, i_partitionEqual_b0, i_partitionEqual_l0, i_partitionEqual, i_partition_b0, i_partition_l0, i_partition_b2, i_partition_l2, i_partition_b6, i_partition_l6, i_partition_b8, i_partition_l8, i_partition_b4, i_partition_l4, i_partition, i_pdqsort_b0, i_pdqsort_l0]
  try rfl
theorem i_pdqsort_f : ∀ n, slices_pdqsortCmpFunc_impl_Event___impl_MergeJournals_2_f n = g_pdqsort_f (ltE) n
  | 0 => rfl
  | n + 1 => by
    unfold slices_pdqsortCmpFunc_impl_Event___impl_MergeJournals_2_f g_pdqsort_f
    rw [i_pdqsort_f n, i_pdqsort_r]
theorem i_pdqsort : slices_pdqsortCmpFunc_impl_Event___impl_MergeJournals_2 = g_pdqsort (ltE) := by
  funext 
  unfold slices_pdqsortCmpFunc_impl_Event___impl_MergeJournals_2 g_pdqsort
  try simp only [cmp_eq, cmp_neg, Option.bind_some, i_insertionSort_b2, i_insertionSort_l2, i_insertionSort_b0, i_insertionSort_l0, i_insertionSort, i_siftDown_b0, i_siftDown_l0, i_siftDown, i_heapSort_b0, i_heapSort_l0, i_heapSort_b2, i_heapSort_l2, i_heapSort, i_breakPatterns_b0, i_breakPatterns_l0, i_breakPatterns, i_order2, i_median, i_medianAdjacent, i_choosePivot, i_reverseRange_b0, i_reverseRange_l0, i_reverseRange, i_partialInsertionSort_b2, i_partialInsertionSort_l2, i_partialInsertionSort_b4, i_partialInsertionSort_l4, i_partialInsertionSort_b6, i_partialInsertionSort_l6, i_partialInsertionSort_b0, i_partialInsertionSort_l0, i_partialInsertionSort, i_partitionEqual_b2, i_partitionEqual_l2, i_partitionEqual_b4, i_partitionEqual_l4, i_partitionEqual_b0, i_partitionEqual_l0, i_partitionEqual, i_partition_b0, i_partition_l0, i_partition_b2, i_partition_l2, i_partition_b6, i_partition_l6, i_partition_b8, i_partition_l8, i_partition_b4, i_partition_l4, i_partition, i_pdqsort_b0, i_pdqsort_l0, i_pdqsort_r, i_pdqsort_f]
  try rfl
end Go.Fn
set_option linter.unusedSimpArgs false
set_option linter.unusedVariables false
namespace Go.Fn
open Go.R Go.Sort
theorem ltE_iff {x y : Ev} : ltE x y = true ↔ x.1 < y.1 ∨ (x.1 = y.1 ∧ x.2.1 < y.2.1) := by
  unfold ltE; simp
theorem ltE_no {x y : Ev} : ltE x y = false ↔ y.1 < x.1 ∨ (x.1 = y.1 ∧ y.2.1 ≤ x.2.1) := by
  rw [← Bool.not_eq_true, ltE_iff]; omega
theorem ltE_irr (x : Ev) : ltE x x = false := by rw [ltE_no]; omega
theorem ltE_tr {x y z : Ev} (h1 : ltE x y = true) (h2 : ltE y z = true) : ltE x z = true := by rw [ltE_iff] at *; omega
theorem ltE_as {x y : Ev} (h1 : ltE x y = true) : ltE y x = false := by rw [ltE_iff] at h1; rw [ltE_no]; omega
theorem ltE_swo : SWO ltE := ⟨ltE_irr, fun _ _ _ h1 h2 => ltE_tr h1 h2, fun x y z h1 h2 => by rw [ltE_no] at *; omega⟩
abbrev Srt (l : List Ev) : Prop := l.Pairwise fun x y => ltE x y = true
theorem srt_adj : ∀ (l : List Ev), (∀ n, n + 1 < l.length → ltE (l.getD n zIIIIIII) (l.getD (n + 1) zIIIIIII) = true) → Srt l
  | [], _ => List.Pairwise.nil
  | [x], _ => List.pairwise_singleton _ _
  | x :: y :: l, h => by
    have ih := srt_adj (y :: l) (fun n hn => h (n + 1) (by simpa using hn))
    have hxy : ltE x y = true := h 0 (by simp)
    refine List.Pairwise.cons (fun z hz => ?_) ih
    rcases List.mem_cons.1 hz with rfl | hz
    · exact hxy
    · exact ltE_tr hxy ((List.pairwise_cons.1 ih).1 z hz)
theorem jok_srt {l : List Ev} (h : jok l = true) : Srt l := by
  refine srt_adj l fun n hn => ?_
  have := jok_at h hn
  simp only [jokAt, Bool.and_eq_true, ordOk, Bool.not_eq_true', Bool.or_eq_false_iff, Bool.and_eq_false_iff, decide_eq_false_iff_not] at this
  rw [ltE_iff]
  omega
theorem srt_ext : ∀ {l m : List Ev}, Srt l → Srt m → (∀ x, x ∈ l ↔ x ∈ m) → l = m
  | [], [], _, _, _ => rfl
  | [], y :: m, _, _, h => absurd ((h y).2 (List.mem_cons_self ..)) (List.not_mem_nil)
  | x :: l, [], _, _, h => absurd ((h x).1 (List.mem_cons_self ..)) (List.not_mem_nil)
  | x :: l, y :: m, hl, hm, h => by
    have hl' := List.pairwise_cons.1 hl
    have hm' := List.pairwise_cons.1 hm
    have hxy : x = y := by
      rcases List.mem_cons.1 ((h x).1 (List.mem_cons_self ..)) with e | h1
      · exact e
      · rcases List.mem_cons.1 ((h y).2 (List.mem_cons_self ..)) with e | h2
        · exact e.symm
        · have a1 := hm'.1 x h1
          have a2 := hl'.1 y h2
          rw [ltE_as a1] at a2
          cases a2
    subst hxy
    congr 1
    refine srt_ext hl'.2 hm'.2 fun z => ⟨fun hz => ?_, fun hz => ?_⟩
    · rcases List.mem_cons.1 ((h z).1 (List.mem_cons_of_mem _ hz)) with e | h1
      · subst e; have := hl'.1 z hz; rw [ltE_irr] at this; cases this
      · exact h1
    · rcases List.mem_cons.1 ((h z).2 (List.mem_cons_of_mem _ hz)) with e | h1
      · subst e; have := hm'.1 z hz; rw [ltE_irr] at this; cases this
      · exact h1
def conf (o : Option (List Ev)) (x : Ev) : Option (List Ev) := o.map (x :: ·)
def merge : List Ev → List Ev → Option (List Ev)
  | [], b => some b
  | x :: a, [] => some (x :: a)
  | x :: a, y :: b => bif ltE x y then conf (merge a (y :: b)) x else bif ltE y x then conf (merge (x :: a) b) y else bif decide (x = y) then conf (merge a b) x else none
termination_by a b => a.length + b.length
theorem merge_ok0 : ∀ (n : Nat) (a b : List Ev), a.length + b.length = n → Srt a → Srt b →
    match merge a b with
    | some m => Srt m ∧ (∀ z, z ∈ m ↔ z ∈ a ∨ z ∈ b) ∧ m.length ≤ a.length + b.length ∧ (∀ x, x ∈ a → ∀ y, y ∈ b → x.1 = y.1 → x.2.1 = y.2.1 → x = y)
    | none => ∃ x, x ∈ a ∧ ∃ y, y ∈ b ∧ x.1 = y.1 ∧ x.2.1 = y.2.1 ∧ x ≠ y := by
  intro n
  induction n using Nat.strongRecOn with
  | ind n ih0 =>
  intro a b hn
  rcases a with _ | ⟨x, a⟩
  · rw [merge]; intro _ hb; exact ⟨hb, fun z => by simp, by simp, fun x hx => absurd hx List.not_mem_nil⟩
  rcases b with _ | ⟨y, b⟩
  · rw [merge]; intro ha _; exact ⟨ha, fun z => by simp, by simp, fun x _ y hy => absurd hy List.not_mem_nil⟩
  · have ih1 := ih0 _ (by simp only [List.length_cons] at hn ⊢; omega) a (y :: b) rfl
    have ih2 := ih0 _ (by simp only [List.length_cons] at hn ⊢; omega) (x :: a) b rfl
    have ih3 := ih0 _ (by simp only [List.length_cons] at hn ⊢; omega) a b rfl
    rw [merge]
    intro ha hb
    have ha' := List.pairwise_cons.1 ha
    have hb' := List.pairwise_cons.1 hb
    cases h1 : ltE x y with
    | true =>
      have ih := ih1 ha'.2 hb
      simp only [cond_true]
      cases hm : merge a (y :: b) with
      | none =>
        rw [hm] at ih
        obtain ⟨u, hu, v, hv, h⟩ := ih
        exact ⟨u, List.mem_cons_of_mem _ hu, v, hv, h⟩
      | some m =>
        rw [hm] at ih
        obtain ⟨i1, i2, i3, i4⟩ := ih
        refine ⟨List.Pairwise.cons (fun z hz => ?_) i1, fun z => ?_, ?_, fun u hu v hv => ?_⟩
        · rcases (i2 z).1 hz with h | h
          · exact ha'.1 z h
          · rcases List.mem_cons.1 h with rfl | h
            · exact h1
            · exact ltE_tr h1 (hb'.1 z h)
        · simp only [List.mem_cons, i2 z, or_assoc]
        · simp only [List.length_cons] at i3 ⊢; omega
        · rcases List.mem_cons.1 hu with rfl | hu
          · intro k1 k2
            have : ltE u v = true := by
              rcases List.mem_cons.1 hv with rfl | hv
              · exact h1
              · exact ltE_tr h1 (hb'.1 v hv)
            rw [ltE_iff] at this
            omega
          · exact i4 u hu v hv
    | false =>
      cases h2 : ltE y x with
      | true =>
        have ih := ih2 ha hb'.2
        simp only [cond_true, cond_false]
        cases hm : merge (x :: a) b with
        | none =>
          rw [hm] at ih
          obtain ⟨u, hu, v, hv, h⟩ := ih
          exact ⟨u, hu, v, List.mem_cons_of_mem _ hv, h⟩
        | some m =>
          rw [hm] at ih
          obtain ⟨i1, i2, i3, i4⟩ := ih
          refine ⟨List.Pairwise.cons (fun z hz => ?_) i1, fun z => ?_, ?_, fun u hu v hv => ?_⟩
          · rcases (i2 z).1 hz with h | h
            · rcases List.mem_cons.1 h with rfl | h
              · exact h2
              · exact ltE_tr h2 (ha'.1 z h)
            · exact hb'.1 z h
          · rw [List.mem_cons, i2 z, List.mem_cons, List.mem_cons]
            constructor
            · rintro (h | h | h)
              · exact .inr (.inl h)
              · exact .inl h
              · exact .inr (.inr h)
            · rintro (h | h | h)
              · exact .inr (.inl h)
              · exact .inl h
              · exact .inr (.inr h)
          · simp only [List.length_cons] at i3 ⊢; omega
          · rcases List.mem_cons.1 hv with rfl | hv
            · intro k1 k2
              have : ltE v u = true := by
                rcases List.mem_cons.1 hu with rfl | hu
                · exact h2
                · exact ltE_tr h2 (ha'.1 u hu)
              rw [ltE_iff] at this
              omega
            · exact i4 u hu v hv
      | false =>
        have hk : x.1 = y.1 ∧ x.2.1 = y.2.1 := by rw [ltE_no] at h1 h2; omega
        by_cases he : x = y
        · subst he
          have ih := ih3 ha'.2 hb'.2
          simp only [cond_true, cond_false, decide_true]
          cases hm : merge a b with
          | none =>
            rw [hm] at ih
            obtain ⟨u, hu, v, hv, h⟩ := ih
            exact ⟨u, List.mem_cons_of_mem _ hu, v, List.mem_cons_of_mem _ hv, h⟩
          | some m =>
            rw [hm] at ih
            obtain ⟨i1, i2, i3, i4⟩ := ih
            refine ⟨List.Pairwise.cons (fun z hz => ?_) i1, fun z => ?_, ?_, fun u hu v hv k1 k2 => ?_⟩
            · rcases (i2 z).1 hz with h | h
              · exact ha'.1 z h
              · exact hb'.1 z h
            · rw [List.mem_cons, i2 z, List.mem_cons, List.mem_cons]
              constructor
              · rintro (h | h | h)
                · exact .inl (.inl h)
                · exact .inl (.inr h)
                · exact .inr (.inr h)
              · rintro ((h | h) | (h | h))
                · exact .inl h
                · exact .inr (.inl h)
                · exact .inl h
                · exact .inr (.inr h)
            · simp only [List.length_cons] at i3 ⊢; omega
            · rcases List.mem_cons.1 hu with hu1 | hu1 <;> rcases List.mem_cons.1 hv with hv1 | hv1
              · rw [hu1, hv1]
              · have := hb'.1 v hv1; rw [ltE_iff, ← hu1] at this; omega
              · have := ha'.1 u hu1; rw [ltE_iff, ← hv1] at this; omega
              · exact i4 u hu1 v hv1 k1 k2
        · simp only [cond_false, decide_eq_false he]
          exact ⟨x, List.mem_cons_self .., y, List.mem_cons_self .., hk.1, hk.2, he⟩
theorem merge_ok {a b : List Ev} (ha : Srt a) (hb : Srt b) :
    match merge a b with
    | some m => Srt m ∧ (∀ z, z ∈ m ↔ z ∈ a ∨ z ∈ b) ∧ m.length ≤ a.length + b.length ∧ (∀ x, x ∈ a → ∀ y, y ∈ b → x.1 = y.1 → x.2.1 = y.2.1 → x = y)
    | none => ∃ x, x ∈ a ∧ ∃ y, y ∈ b ∧ x.1 = y.1 ∧ x.2.1 = y.2.1 ∧ x ≠ y := merge_ok0 _ a b rfl ha hb
/-- Two journals made one. -/
def merged (a b : List Ev) : List Ev × Bool := bif jok a then bif jok b then (match merge a b with | none => ([], false) | some m => bif jok m then (m, true) else ([], false)) else ([], false) else ([], false)
theorem before_eq (x y : Ev) : spec_l08Before x.1 x.2.1 x.2.2.1 x.2.2.2.1 x.2.2.2.2.1 x.2.2.2.2.2.1 x.2.2.2.2.2.2 y.1 y.2.1 y.2.2.1 y.2.2.2.1 y.2.2.2.2.1 y.2.2.2.2.2.1 y.2.2.2.2.2.2 = some (ltE x y, ()) := by
  unfold spec_l08Before ltE
  simp only [rCmp]
  by_cases h : x.1 = y.1
  · rw [h]; cases decide (y.1 < y.1) <;> simp
  · rw [decide_eq_false h, show (x.1 == y.1) = false from by simpa using h]; cases decide (x.1 < y.1) <;> rfl
theorem evEq (x y : Ev) : (Bool.and (rCmp .eql x.1 y.1) (Bool.and (rCmp .eql x.2.1 y.2.1) (Bool.and (rCmp .eql x.2.2.1 y.2.2.1) (Bool.and (rCmp .eql x.2.2.2.1 y.2.2.2.1) (Bool.and (rCmp .eql x.2.2.2.2.1 y.2.2.2.2.1) (Bool.and (rCmp .eql x.2.2.2.2.2.1 y.2.2.2.2.2.1) (Bool.and (rCmp .eql x.2.2.2.2.2.2 y.2.2.2.2.2.2) true))))))) = decide (x = y) := by
  obtain ⟨x1, x2, x3, x4, x5, x6, x7⟩ := x
  obtain ⟨y1, y2, y3, y4, y5, y6, y7⟩ := y
  rw [Bool.eq_iff_iff]
  simp [rCmp, Prod.mk.injEq]
theorem app1 (l : List Ev) (x : Ev) : List.append (α := Ev) l (List.append (α := Ev) ([] : List Ev) [x]) = l ++ [x] := rfl
theorem specM_loop (a b : List Ev) (ha : a.length ≤ 60) (hb : b.length ≤ 60) : ∀ (s i k : Nat) (out : List Ev) (n : Nat), (a.length - i) + (b.length - k) = s → i ≤ a.length → k ≤ b.length → out.length ≤ i + k → s < n →
    iter (spec_MergeJournals_b0 (a, b, ())) n (out, (i : Int), (k : Int), ()) = some (match merge (a.drop i) (b.drop k) with | none => .inl ([], false, ()) | some m => .inr (.inl (out ++ m, ()))) := by
  intro s
  induction s using Nat.strongRecOn with
  | ind s ih =>
    intro i k out n hs hi hk ho hn
    obtain ⟨n, rfl⟩ : ∃ m, n = m + 1 := ⟨n - 1, by omega⟩
    have hsm : ∀ x : Ev, rSmall (out ++ [x]) = true := fun x => small_of (by simp; omega)
    have ll : rCmp .lss (i : Int) (rLen a) = decide (i < a.length) := lss_len i a
    have lk : rCmp .lss (k : Int) (rLen b) = decide (k < b.length) := lss_len k b
    have el : rCmp .eql (i : Int) (rLen a) = decide (i = a.length) := eqS i a.length
    have ek : rCmp .eql (k : Int) (rLen b) = decide (k = b.length) := eqS k b.length
    by_cases h1 : i < a.length
    · have hx := drop_getD h1 zIIIIIII
      by_cases h2 : k < b.length
      · have hy := drop_getD h2 zIIIIIII
        rw [hx, hy, merge]
        generalize hgx : a.getD i zIIIIIII = x at hx ⊢
        generalize hgy : b.getD k zIIIIIII = y at hy ⊢
        cases c1 : ltE x y with
        | true =>
          rw [iter_next (y := (out ++ [x], ((i + 1 : Nat) : Int), (k : Int), ())) (by
            unfold spec_MergeJournals_b0
            simp only [ll, lk, el, ek, h1, h2, show ¬ (k = b.length) by omega, show ¬ (i = a.length) by omega, decide_true, decide_false, cond_true, cond_false, inR_nat, get_nat, hgx, hgy, before_eq, c1, Option.bind_some, app1, hsm, succ64 (n := i) (by omega)])]
          rw [ih (s - 1) (by omega) (i + 1) k (out ++ [x]) n (by omega) (by omega) hk (by simp; omega) (by omega), ← hy]
          cases merge (List.drop (i + 1) a) (List.drop k b) with
          | none => rfl
          | some m => simp [conf]
        | false =>
          cases c2 : ltE y x with
          | true =>
            rw [iter_next (y := (out ++ [y], (i : Int), ((k + 1 : Nat) : Int), ())) (by
              unfold spec_MergeJournals_b0
              simp only [ll, lk, el, ek, h1, h2, show ¬ (k = b.length) by omega, show ¬ (i = a.length) by omega, decide_true, decide_false, cond_true, cond_false, inR_nat, get_nat, hgx, hgy, before_eq, c1, c2, Option.bind_some, app1, hsm, succ64 (n := k) (by omega)])]
            rw [ih (s - 1) (by omega) i (k + 1) (out ++ [y]) n (by omega) hi (by omega) (by simp; omega) (by omega), ← hx]
            cases merge (List.drop i a) (List.drop (k + 1) b) with
            | none => rfl
            | some m => simp [conf]
          | false =>
            by_cases c3 : x = y
            · subst c3
              rw [iter_next (y := (out ++ [x], ((i + 1 : Nat) : Int), ((k + 1 : Nat) : Int), ())) (by
                unfold spec_MergeJournals_b0
                simp only [ll, lk, el, ek, h1, h2, show ¬ (k = b.length) by omega, show ¬ (i = a.length) by omega, decide_true, decide_false, cond_true, cond_false, inR_nat, get_nat, hgx, hgy, before_eq, c1, c2, Option.bind_some, app1, hsm, evEq, decide_true, Bool.not_true, lets_def, succ64 (n := i) (by omega), succ64 (n := k) (by omega)])]
              rw [ih (s - 2) (by omega) (i + 1) (k + 1) (out ++ [x]) n (by omega) (by omega) (by omega) (by simp; omega) (by omega)]
              simp only [decide_true, cond_true, cond_false]
              cases merge (List.drop (i + 1) a) (List.drop (k + 1) b) with
              | none => rfl
              | some m => simp [conf]
            · rw [iter_done (b := .inl ([], false, ())) (by
                unfold spec_MergeJournals_b0
                simp only [ll, lk, el, ek, h1, h2, show ¬ (k = b.length) by omega, show ¬ (i = a.length) by omega, decide_true, decide_false, cond_true, cond_false, inR_nat, get_nat, hgx, hgy, before_eq, c1, c2, Option.bind_some, evEq, c3, Bool.not_false, lets_def])]
              simp only [c3, decide_false, cond_false]
      · have hkb : k = b.length := by omega
        have hdb : b.drop k = [] := by rw [hkb, List.drop_length]
        rw [iter_next (y := (out ++ [a.getD i zIIIIIII], ((i + 1 : Nat) : Int), (k : Int), ())) (by
          unfold spec_MergeJournals_b0
          simp only [ll, lk, el, ek, h1, decide_eq_true hkb, decide_true, cond_true, inR_nat, get_nat, app1, hsm, succ64 (n := i) (by omega)])]
        rw [ih (s - 1) (by omega) (i + 1) k _ n (by omega) (by omega) hk (by simp; omega) (by omega), hx, hdb, merge]
        cases hd : List.drop (i + 1) a with
        | nil => simp [merge]
        | cons u v => simp [merge]
    · have hia : i = a.length := by omega
      have hda : a.drop i = [] := by rw [hia, List.drop_length]
      by_cases h2 : k < b.length
      · have hy := drop_getD h2 zIIIIIII
        rw [iter_next (y := (out ++ [b.getD k zIIIIIII], (i : Int), ((k + 1 : Nat) : Int), ())) (by
          unfold spec_MergeJournals_b0
          simp only [ll, lk, el, ek, h1, h2, decide_eq_true hia, show ¬ (k = b.length) by omega, decide_true, decide_false, cond_true, cond_false, inR_nat, get_nat, app1, hsm, succ64 (n := k) (by omega)])]
        rw [ih (s - 1) (by omega) i (k + 1) _ n (by omega) hi (by omega) (by simp; omega) (by omega), hda, merge, merge, hy]
        simp
      · have hkb : k = b.length := by omega
        have hdb : b.drop k = [] := by rw [hkb, List.drop_length]
        rw [iter_done (b := .inr (.inl (out, ()))) (by
          unfold spec_MergeJournals_b0
          simp only [ll, lk, el, ek, h1, h2, decide_false, cond_false])]
        rw [hda, hdb, merge]
        simp
theorem specMerge_eq (a b : List Ev) : spec_MergeJournals a b = some ((merged a b).1, (merged a b).2, ()) := by
  unfold spec_MergeJournals merged
  simp only [specJ_eq, Option.bind_some]
  cases ha : jok a with
  | false => rfl
  | true =>
    cases hb : jok b with
    | false => rfl
    | true =>
      have hl := specM_loop a b (jok_len ha) (jok_len hb) (a.length + b.length) 0 0 [] big (by omega) (by omega) (by omega) (by simp) (lt_big (by have := jok_len ha; have := jok_len hb; omega))
      simp only [Bool.not_true, cond_false, cond_true]
      unfold spec_MergeJournals_l0
      rw [show (0 : Int) = ((0 : Nat) : Int) from rfl, hl, List.drop_zero, List.drop_zero]
      cases merge a b with
      | none => rfl
      | some m =>
        simp only [Option.bind_some, Sum.elim_inr, Sum.elim_inl, List.nil_append, specJ_eq]
        cases jok m <;> rfl
end Go.Fn
set_option linter.unusedSimpArgs false
set_option linter.unusedVariables false
namespace Go.Fn
open Go.R Go.Sort
theorem both_self {R : Type} (x : Option R) : both x x = x := by unfold both; simp
theorem cloneE_eq (l : List Ev) (hl : l.length ≤ 1073741824) : slices_Clone___impl_Event_impl_Event_ l = some (l, ()) := by
  unfold slices_Clone___impl_Event_impl_Event_
  have h1 : rSmall (List.append (α := Ev) ([] : List Ev) l) = true := small_of hl
  rw [h1]
  cases l with
  | nil => exact both_self _
  | cons x l => rw [show rCmp .gtr (rLen (x :: l)) (0 : Int) = true from gt0 l.length]; rfl
def keyEq (x e : Ev) : Bool := decide (x.1 = e.1) && decide (x.2.1 = e.2.1)
theorem keyEq_iff {x e : Ev} : keyEq x e = true ↔ x.1 = e.1 ∧ x.2.1 = e.2.1 := by unfold keyEq; simp
theorem keyF_eq (x e : Ev) : impl_MergeJournals_1 x.1 x.2.1 x.2.2.1 x.2.2.2.1 x.2.2.2.2.1 x.2.2.2.2.2.1 x.2.2.2.2.2.2 e.1 e.2.1 e.2.2.1 e.2.2.2.1 e.2.2.2.2.1 e.2.2.2.2.2.1 e.2.2.2.2.2.2 = some (keyEq x e, ()) := by
  unfold impl_MergeJournals_1 keyEq
  simp only [rCmp]
  by_cases h : x.1 = e.1
  · rw [h]; simp [Bool.beq_eq_decide_eq]
  · rw [decide_eq_false h, show (x.1 == e.1) = false from by simpa using h]; rfl
theorem index_eq (a : List Ev) (e : Ev) (hl : a.length ≤ 1073741824) : ∃ r : Int, slices_IndexFunc___impl_Event_impl_Event___impl_MergeJournals_1 a e.1 e.2.1 e.2.2.1 e.2.2.2.1 e.2.2.2.2.1 e.2.2.2.2.2.1 e.2.2.2.2.2.2 = some (r, ()) ∧
    ((r = -1 ∧ ∀ x, x ∈ a → keyEq x e = false) ∨ ∃ n : Nat, n < a.length ∧ r = (n : Int) ∧ keyEq (a.getD n zIIIIIII) e = true) := by
  obtain ⟨y, hy, hc⟩ := loop_find (body := slices_IndexFunc___impl_Event_impl_Event___impl_MergeJournals_1_b0 (a, e.1, e.2.1, e.2.2.1, e.2.2.2.1, e.2.2.2.2.1, e.2.2.2.2.2.1, e.2.2.2.2.2.2, rLen a, ())) (fun n => ((n : Int), ())) a.length (by omega) (fun n => !keyEq (a.getD n zIIIIIII) e) (Sum.inr (Sum.inl ())) (fun n => Sum.inl ((n : Int), ())) (fun n hn => by
      unfold slices_IndexFunc___impl_Event_impl_Event___impl_MergeJournals_1_b0
      simp only [lss_len, hn, decide_true, cond_true, inR_nat, get_nat, keyF_eq, Option.bind_some, succ64 (n := n) (by omega)]
      cases keyEq (a.getD n zIIIIIII) e <;> rfl) (by
      unfold slices_IndexFunc___impl_Event_impl_Event___impl_MergeJournals_1_b0
      simp only [lss_len, Nat.lt_irrefl, decide_false, cond_false])
  unfold slices_IndexFunc___impl_Event_impl_Event___impl_MergeJournals_1 slices_IndexFunc___impl_Event_impl_Event___impl_MergeJournals_1_l0
  rw [show (0 : Int) = ((0 : Nat) : Int) from rfl, hy]
  rcases hc with ⟨hall, rfl⟩ | ⟨_, n, hn, rfl, hk⟩
  · refine ⟨-1, rfl, .inl ⟨rfl, fun x hx => ?_⟩⟩
    obtain ⟨m, hm, rfl⟩ := List.getElem_of_mem hx
    have := (allFrom_iff _ _).1 hall m (Nat.zero_le _) (by omega)
    simp only [Bool.not_eq_true'] at this
    rw [List.getD_eq_getElem?_getD, List.getElem?_eq_getElem hm] at this
    exact this
  · exact ⟨(n : Int), rfl, .inr ⟨n, hn, rfl, by simpa using hk⟩⟩
theorem srt_key {l : List Ev} (h : Srt l) : ∀ x, x ∈ l → ∀ y, y ∈ l → keyEq x y = true → x = y := by
  induction l with
  | nil => intro x hx; exact absurd hx List.not_mem_nil
  | cons u l ih =>
    have h' := List.pairwise_cons.1 h
    intro x hx y hy hk
    rw [keyEq_iff] at hk
    rcases List.mem_cons.1 hx with e1 | hx1 <;> rcases List.mem_cons.1 hy with e2 | hy1
    · rw [e1, e2]
    · have := h'.1 y hy1; rw [ltE_iff, ← e1] at this; omega
    · have := h'.1 x hx1; rw [ltE_iff, ← e2] at this; omega
    · exact ih h'.2 x hx1 y hy1 (keyEq_iff.2 hk)
abbrev MOut := List Ev × Bool × Unit ⊕ (List Ev × Unit ⊕ Empty)
open Classical in
noncomputable def mstep (a : List Ev) (out : List Ev) (e : Ev) : List Ev ⊕ MOut := if a.any (fun x => keyEq x e) = true then (if e ∈ a then .inl out else .inr (.inl ([], false, ()))) else .inl (out ++ [e])
theorem mrun (a : List Ev) : ∀ (l out : List Ev), (∃ e, e ∈ l ∧ a.any (fun x => keyEq x e) = true ∧ e ∉ a ∧ runL (mstep a) (fun out => (.inr (.inl (out, ())) : MOut)) l out = .inl ([], false, ())) ∨ ((∀ e, e ∈ l → a.any (fun x => keyEq x e) = true → e ∈ a) ∧ runL (mstep a) (fun out => (.inr (.inl (out, ())) : MOut)) l out = .inr (.inl (out ++ l.filter (fun e => !a.any (fun x => keyEq x e)), ())))
  | [], out => .inr ⟨fun e he => absurd he List.not_mem_nil, by simp [runL]⟩
  | y :: l, out => by
    by_cases h1 : a.any (fun x => keyEq x y) = true
    · by_cases h2 : y ∈ a
      · have hs : mstep a out y = .inl out := by unfold mstep; rw [if_pos h1, if_pos h2]
        rcases mrun a l out with ⟨e, he, k1, k2, k3⟩ | ⟨k1, k2⟩
        · exact .inl ⟨e, List.mem_cons_of_mem _ he, k1, k2, by simp only [runL, hs, k3]⟩
        · refine .inr ⟨fun e he hk => ?_, by simp only [runL, hs, k2, List.filter_cons, h1, Bool.not_true]; rfl⟩
          rcases List.mem_cons.1 he with rfl | he
          · exact h2
          · exact k1 e he hk
      · exact .inl ⟨y, List.mem_cons_self .., h1, h2, by unfold runL mstep; rw [if_pos h1, if_neg h2]⟩
    · have hs : mstep a out y = .inl (out ++ [y]) := by unfold mstep; rw [if_neg h1]
      rw [Bool.not_eq_true] at h1
      rcases mrun a l (out ++ [y]) with ⟨e, he, k1, k2, k3⟩ | ⟨k1, k2⟩
      · exact .inl ⟨e, List.mem_cons_of_mem _ he, k1, k2, by simp only [runL, hs, k3]⟩
      · refine .inr ⟨fun e he hk => ?_, by simp only [runL, hs, k2, List.filter_cons, h1, Bool.not_false, if_true, List.append_assoc, List.singleton_append]⟩
        rcases List.mem_cons.1 he with rfl | he
        · rw [h1] at hk; cases hk
        · exact k1 e he hk
theorem implM_loop (a b : List Ev) (ha : a.length ≤ 60) (hb : b.length ≤ 60) (hs : Srt a) : impl_MergeJournals_l0 (a, b, rLen b, ()) (a, (0 : Int), ()) = some (runL (mstep a) (fun out => .inr (.inl (out, ()))) b a) := by
  refine loop_run (body := impl_MergeJournals_b0 (a, b, rLen b, ())) b zIIIIIII (by omega) (fun out n => (out, (n : Int), ())) (mstep a) (fun out => .inr (.inl (out, ()))) (fun n out => out.length ≤ a.length + n) (fun n out hn ho => ⟨?_, fun o he => ?_⟩) (fun out ho => ?_) a (by omega)
  · unfold impl_MergeJournals_b0
    simp only [lss_len, hn, decide_true, cond_true, inR_nat, get_nat]
    generalize b.getD n zIIIIIII = e
    obtain ⟨r, hr, ⟨rfl, hno⟩ | ⟨m, hm, rfl, hk⟩⟩ := index_eq a e (by omega)
    · have hany : ¬ (a.any (fun x => keyEq x e) = true) := by
        rw [List.any_eq_true]
        rintro ⟨x, hx, hk⟩
        rw [hno x hx] at hk; cases hk
      have hsm : rSmall (out ++ [e]) = true := small_of (by simp; omega)
      unfold mstep
      rw [if_neg hany]
      simp only [hr, Option.bind_some, neg1, cond_true, app1, hsm, succ64 (n := n) (by omega)]
    · have hany : a.any (fun x => keyEq x e) = true := List.any_eq_true.2 ⟨_, getD_mem hm zIIIIIII, hk⟩
      unfold mstep
      rw [if_pos hany]
      have hneg : rCmp .lss (m : Int) (0 : Int) = false := neg_of (by omega)
      simp only [hr, Option.bind_some, hneg, cond_false, inR_nat, hm, decide_true, cond_true, get_nat, evEq, lets_def, succ64 (n := n) (by omega)]
      by_cases he : a.getD m zIIIIIII = e
      · rw [if_pos (he ▸ getD_mem hm zIIIIIII), decide_eq_true he]
        rfl
      · have hne : e ∉ a := fun h => he (srt_key hs _ (getD_mem hm zIIIIIII) e h hk)
        rw [if_neg hne, decide_eq_false he]
        rfl
  · unfold mstep at he
    split at he
    · split at he
      · injection he with he; rw [← he]; omega
      · cases he
    · injection he with he
      rw [← he]; simp; omega
  · unfold impl_MergeJournals_b0
    simp only [lss_len, Nat.lt_irrefl, decide_false, cond_false]
theorem len_all : (List.range 256).all (fun n => (math_bits_Len (n : Int)).isSome) = true := by decide +kernel
theorem len_ok {n : Nat} (h : n ≤ 255) : ∃ L, math_bits_Len (n : Int) = some (L, ()) := by
  have h1 := List.all_eq_true.1 len_all n (List.mem_range.2 (by omega))
  obtain ⟨⟨L, u⟩, hL⟩ := Option.isSome_iff_exists.1 h1
  exact ⟨L, hL⟩
theorem sortE_ok (l : List Ev) (hl : l.length ≤ 255) : ∃ r : List Ev, slices_SortFunc___impl_Event_impl_Event___impl_MergeJournals_2 l = some (r, ()) ∧ r.Perm l ∧ ∀ i j, i < j → j < r.length → ltE (r.getD j default) (r.getD i default) = false := by
  obtain ⟨L, hL⟩ := len_ok hl
  obtain ⟨r, h1, h2, h3⟩ := pdq_all ltE_swo l L hl
  refine ⟨r, ?_, h2, h3⟩
  unfold slices_SortFunc___impl_Event_impl_Event___impl_MergeJournals_2
  rw [i_pdqsort, show rConv .u64 (rLen l) = (l.length : Int) from convU (by omega), hL, show rLen l = (l.length : Int) from rfl]
  simp only [Option.bind_some, h1]
theorem implMerge_eq (a b : List Ev) : impl_MergeJournals a b = some ((merged a b).1, (merged a b).2, ()) := by
  unfold impl_MergeJournals merged
  simp only [implJ_eq, Option.bind_some]
  cases ha : jok a with
  | false => rfl
  | true =>
    cases hb : jok b with
    | false => rfl
    | true =>
      have la := jok_len ha
      have lb := jok_len hb
      have sa := jok_srt ha
      have sb := jok_srt hb
      simp only [Bool.not_true, cond_false, cond_true, cloneE_eq a (by omega), Option.bind_some, implM_loop a b la lb sa]
      have hm := merge_ok sa sb
      rcases mrun a b a with ⟨e, he, k1, k2, k3⟩ | ⟨k1, k2⟩
      · rw [k3]
        cases hmm : merge a b with
        | none => rfl
        | some m =>
          rw [hmm] at hm
          obtain ⟨x, hx, hk⟩ := List.any_eq_true.1 k1
          rw [keyEq_iff] at hk
          exact absurd (hm.2.2.2 x hx e he hk.1 hk.2 ▸ hx) k2
      · rw [k2]
        have hfl : (b.filter (fun e => !a.any (fun x => keyEq x e))).length ≤ b.length := List.length_filter_le _ _
        obtain ⟨r, hr, hp, hsr⟩ := sortE_ok (a ++ b.filter (fun e => !a.any (fun x => keyEq x e))) (by rw [List.length_append]; omega)
        simp only [Option.bind_some, Sum.elim_inr, Sum.elim_inl, hr]
        have hkeys : (a ++ b.filter (fun e => !a.any (fun x => keyEq x e))).Pairwise (fun x y => keyEq x y = false) := by
          rw [List.pairwise_append]
          refine ⟨sa.imp fun {x y} h => ?_, (sb.filter _).imp fun {x y} h => ?_, fun x hx y hy => ?_⟩
          · rw [← Bool.not_eq_true, keyEq_iff]; rw [ltE_iff] at h; omega
          · rw [← Bool.not_eq_true, keyEq_iff]; rw [ltE_iff] at h; omega
          · have h1 := (List.mem_filter.1 hy).2
            rw [Bool.not_eq_true', ← Bool.not_eq_true, List.any_eq_true] at h1
            rw [← Bool.not_eq_true]
            exact fun hk => h1 ⟨x, hx, hk⟩
        have hkr : r.Pairwise (fun x y => keyEq x y = false) := (hp.pairwise_iff (fun {x y} h => by rw [← Bool.not_eq_true, keyEq_iff] at *; omega)).2 hkeys
        have srr : Srt r := by
          unfold Srt
          rw [List.pairwise_iff_getElem] at hkr ⊢
          intro i j hi hj hij
          have h1 := hkr i j hi hj hij
          have h2 := hsr i j hij hj
          rw [List.getD_eq_getElem?_getD, List.getD_eq_getElem?_getD, List.getElem?_eq_getElem hj, List.getElem?_eq_getElem hi] at h2
          simp only [Option.getD_some] at h2
          rw [← Bool.not_eq_true, keyEq_iff] at h1
          rw [ltE_no] at h2
          rw [ltE_iff]
          omega
        cases hmm : merge a b with
        | none =>
          rw [hmm] at hm
          obtain ⟨x, hx, y, hy, e1, e2, hne⟩ := hm
          have : y ∈ a := k1 y hy (List.any_eq_true.2 ⟨x, hx, keyEq_iff.2 ⟨e1, e2⟩⟩)
          exact absurd (srt_key sa x hx y this (keyEq_iff.2 ⟨e1, e2⟩)) hne
        | some m =>
          rw [hmm] at hm
          have : r = m := srt_ext srr hm.1 fun z => by
            rw [hp.mem_iff, List.mem_append, List.mem_filter, hm.2.1 z]
            constructor
            · rintro (h | h)
              · exact .inl h
              · exact .inr h.1
            · rintro (h | h)
              · exact .inl h
              · by_cases hz : a.any (fun x => keyEq x z) = true
                · exact .inl (k1 z h hz)
                · exact .inr ⟨h, by simpa using hz⟩
          rw [this]
          simp only [implJ_eq, Option.bind_some]
          cases jok m <;> rfl
end Go.Fn
