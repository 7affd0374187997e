import Derived.Test.YtnadnafggjopmaaParcelsInQA
/- Plain functions that stand for Go functions, and what they answer. Conditions: none. -/
set_option autoImplicit false
set_option linter.unusedVariables false
set_option linter.unusedSimpArgs false
set_option linter.unusedSimpArgs false
set_option linter.unusedVariables false
namespace Go.Fn
open Go.R Go.Sort
section
variable {α : Type} [Inhabited α] {lt : α → α → Bool}
theorem sift_size (lt : α → α → Bool) (hi first root : Nat) (d : Array α) : (siftDown lt hi first root d).size = d.size := size_siftDown lt hi first (hi - root) root d (Nat.le_refl _)
theorem ge0 (n : Nat) : rCmp .geq (n : Int) (0 : Int) = true := by simp [rCmp]
theorem ge0n : rCmp .geq (-1 : Int) (0 : Int) = false := rfl
/-- k rounds that count down to -1. -/
theorem count_down {X Y S : Type} {body : X → Option (X ⊕ Y)} (st : S → Int → X) (fin : S → Y) (f : Nat → S → S) (Inv : S → Prop) (top : Nat) (htop : top ≤ 1000)
    (hs : ∀ i s, i < top → Inv s → body (st s (i : Int)) = some (.inl (st (f i s) (rArith .sub .i64 (i : Int) 1))) ∧ Inv (f i s)) (he : ∀ s, body (st s (-1)) = some (.inr (fin s))) :
    ∀ (k : Nat) (s : S) (n : Nat), k ≤ top → k < n → Inv s → iter body n (st s ((k : Int) - 1)) = some (fin (k.rec (motive := fun _ => S → S) (fun s => s) (fun k r s => r (f k s)) s)) := by
  intro k
  induction k with
  | zero =>
    intro s n _ hn _
    obtain ⟨n, rfl⟩ : ∃ m, n = m + 1 := ⟨n - 1, by omega⟩
    exact iter_done (he s)
  | succ k ih =>
    intro s n hk hn hi
    obtain ⟨n, rfl⟩ : ∃ m, n = m + 1 := ⟨n - 1, by omega⟩
    obtain ⟨h1, h2⟩ := hs k s (by omega) hi
    rw [show ((k + 1 : Nat) : Int) - 1 = (k : Int) by omega, iter_next h1]
    have e : rArith .sub .i64 (k : Int) 1 = (k : Int) - 1 := sub64 (by omega) (by omega)
    rw [e]
    exact ih (f k s) n (by omega) (by omega) h2
theorem heapBuild_rec (hi first : Nat) : ∀ k (d : Array α), heapBuild lt hi first k d = k.rec (motive := fun _ => Array α → Array α) (fun s => s) (fun k r s => r (siftDown lt hi first k s)) d
  | 0, _ => rfl
  | k + 1, d => by rw [heapBuild, heapBuild_rec hi first k]
theorem heapPop_rec (first : Nat) : ∀ k (d : Array α), heapPop lt first k d = k.rec (motive := fun _ => Array α → Array α) (fun s => s) (fun k r s => r (siftDown lt k first 0 (swp s first (first + k)))) d
  | 0, _ => rfl
  | k + 1, d => by rw [heapPop, heapPop_rec first k]
theorem size_heapBuild (hi first : Nat) : ∀ k (d : Array α), (heapBuild lt hi first k d).size = d.size
  | 0, _ => rfl
  | k + 1, d => by rw [heapBuild, size_heapBuild hi first k, sift_size]
theorem sim_heap (d : Array α) (a b : Nat) (hab : a < b) (hb : b ≤ d.size) (hd : d.size ≤ 255) : g_heapSort lt d.toList (a : Int) (b : Int) = some ((heapSort lt d a b).toList, ()) := by
  unfold g_heapSort g_heapSort_l0 g_heapSort_l2 heapSort
  have z : rIsZero (2 : Int) = false := rfl
  have e1 : rArith .sub .i64 (b : Int) (a : Int) = ((b - a : Nat) : Int) := sS (by omega) (by omega)
  have e2 : rArith .sub .i64 ((b - a : Nat) : Int) 1 = ((b - a - 1 : Nat) : Int) := sS (m := 1) (by omega) (by omega)
  have e3 : rArith .quo .i64 ((b - a - 1 : Nat) : Int) (2 : Int) = (((b - a - 1) / 2 : Nat) : Int) := qS _ 2 (by omega)
  have hq : (b - a - 1) / 2 ≤ 255 := by omega
  have l0 := count_down (body := g_heapSort_b0 lt ((a : Int), (0 : Int), ((b - a : Nat) : Int), ())) (fun (s : Array α) (i : Int) => (s.toList, i, ())) (fun s => .inl (s.toList, ())) (fun i s => siftDown lt (b - a) a i s) (fun s => s.size = d.size) ((b - a - 1) / 2 + 1) (by omega) (fun i s hi hs => ⟨by
    unfold g_heapSort_b0
    simp only [ge0, cond_true, sim_sift (lt := lt) s i (b - a) a (by omega) (by omega) (by omega), Option.bind_some], by rw [sift_size]; exact hs⟩) (fun s => by
    unfold g_heapSort_b0
    simp only [ge0n, cond_false]) ((b - a - 1) / 2 + 1) d big (by omega) (lt_big (by omega)) rfl
  rw [← heapBuild_rec, show (((b - a - 1) / 2 + 1 : Nat) : Int) - 1 = (((b - a - 1) / 2 : Nat) : Int) by omega] at l0
  have l2 := count_down (body := g_heapSort_b2 lt ((a : Int), (0 : Int), ())) (fun (s : Array α) (i : Int) => (s.toList, i, ())) (fun s => .inl (s.toList, ())) (fun i s => siftDown lt i a 0 (swp s a (a + i))) (fun s => s.size = d.size) (b - a) (by omega) (fun i s hi hs => ⟨by
    unfold g_heapSort_b2
    have e4 : rArith .add .i64 (a : Int) (i : Int) = ((a + i : Nat) : Int) := aS (by omega)
    have e5 := sim_sift (lt := lt) (swp s a (a + i)) 0 i a (by rw [size_swp]; omega) (by omega) (by rw [size_swp]; omega)
    simp only [ge0, cond_true, e4, inA, gA, inP, swA, show a + i < s.size by omega, show a < s.size by omega, decide_true]
    rw [show (0 : Int) = ((0 : Nat) : Int) from rfl, e5]
    rfl, by rw [sift_size, size_swp]; exact hs⟩) (fun s => by
    unfold g_heapSort_b2
    simp only [ge0n, cond_false]) (b - a) (heapBuild lt (b - a) a ((b - a - 1) / 2 + 1) d) big (Nat.le_refl _) (lt_big (by omega)) (size_heapBuild _ _ _ _)
  rw [← heapPop_rec, show ((b - a : Nat) : Int) - 1 = ((b - a - 1 : Nat) : Int) by omega] at l2
  have hbd : heapBuild lt (b - a) a ((b - a - 1) / 2) (siftDown lt (b - a) a ((b - a - 1) / 2) d) = heapBuild lt (b - a) a ((b - a - 1) / 2 + 1) d := rfl
  simp only [z, cond_false, e1, e2, e3, l0, Option.bind_some, Sum.elim_inl, hbd, l2]
theorem scan_up {X Y : Type} {body : X → Option (X ⊕ Y)} (st : Nat → X) (fin : Nat → Y) (p : α → Bool) (d : Array α) (j : Nat) (hs : ∀ i, i ≤ 256 → body (st i) = some (bif decide (i ≤ j) && p d[i]! then .inl (st (i + 1)) else .inr (fin i))) (hj : j ≤ 255) :
    ∀ (k i n : Nat), j + 1 - i ≤ k → i ≤ 256 → k < n → iter body n (st i) = some (fin (scanUp p d j i)) := by
  intro k
  induction k with
  | zero =>
    intro i n hk hi hn
    obtain ⟨n, rfl⟩ : ∃ m, n = m + 1 := ⟨n - 1, by omega⟩
    have h : ¬ (i ≤ j) := by omega
    unfold scanUp
    simp only [h, decide_false, Bool.false_and, Bool.false_eq_true, if_false]
    refine iter_done ?_
    rw [hs i hi]
    simp only [h, decide_false, Bool.false_and, cond_false]
  | succ k ih =>
    intro i n hk hi hn
    obtain ⟨n, rfl⟩ : ∃ m, n = m + 1 := ⟨n - 1, by omega⟩
    unfold scanUp
    have h1 := hs i hi
    cases hc : (decide (i ≤ j) && p d[i]!) with
    | true =>
      rw [hc] at h1
      have : i ≤ j := of_decide_eq_true (Bool.and_eq_true _ _ ▸ hc).1
      simp only [if_true]
      rw [iter_next h1]
      exact ih (i + 1) n (by omega) (by omega) (by omega)
    | false =>
      rw [hc] at h1
      simp only [Bool.false_eq_true, if_false]
      exact iter_done h1
theorem scan_down {X Y : Type} {body : X → Option (X ⊕ Y)} (st : Nat → X) (fin : Nat → Y) (p : α → Bool) (d : Array α) (i : Nat) (hi : 0 < i) (hs : ∀ j, j ≤ 255 → j < d.size → body (st j) = some (bif decide (i ≤ j) && p d[j]! then .inl (st (j - 1)) else .inr (fin j))) :
    ∀ (j n : Nat), j < d.size → j ≤ 255 → j < n → iter body n (st j) = some (fin (scanDown p d i j)) := by
  intro j
  induction j with
  | zero =>
    intro n hj hj2 hn
    obtain ⟨n, rfl⟩ : ∃ m, n = m + 1 := ⟨n - 1, by omega⟩
    refine iter_done ?_
    rw [hs 0 (by omega) hj]
    simp only [show ¬ (i ≤ 0) by omega, decide_false, Bool.false_and, cond_false, scanDown]
  | succ j ih =>
    intro n hj hj2 hn
    obtain ⟨n, rfl⟩ : ∃ m, n = m + 1 := ⟨n - 1, by omega⟩
    unfold scanDown
    have h1 := hs (j + 1) hj2 hj
    cases hc : (decide (i ≤ j + 1) && p d[j + 1]!) with
    | true =>
      rw [hc] at h1
      simp only [if_true]
      rw [iter_next h1]
      exact ih n (by omega) (by omega) (by omega)
    | false =>
      rw [hc] at h1
      simp only [Bool.false_eq_true, if_false]
      exact iter_done h1
section
variable (d : Array α) (a : Nat) (hd : d.size ≤ 255) (ha : a < d.size)
include hd ha
theorem pq0 (j i : Nat) (hj : j < d.size) (hi : i ≤ 256) : g_partition_l0 lt ((a : Int), (j : Int), ()) (d.toList, (i : Int), ()) = some (.inl (d.toList, ((scanUp (fun x => lt x d[a]!) d j i : Nat) : Int), ())) := by
  refine scan_up (body := g_partition_b0 lt ((a : Int), (j : Int), ())) (fun i => (d.toList, (i : Int), ())) (fun i => Sum.inl (d.toList, (i : Int), ())) (fun x => lt x d[a]!) d j (fun i hi => ?_) (by omega) 256 i big (by omega) hi (lt_big (by omega))
  unfold g_partition_b0
  by_cases h : i ≤ j
  · simp only [leS, h, decide_true, cond_true, inA, gA, show i < d.size by omega, ha, Option.bind_some, Bool.true_and, succ64 (n := i) (by omega)]
    cases lt d[i]! d[a]! <;> rfl
  · simp only [leS, h, decide_false, cond_false, Bool.false_and]
theorem pq6 (j i : Nat) (hj : j < d.size) (hi : i ≤ 256) : g_partition_l6 lt ((a : Int), (j : Int), ()) (d.toList, (i : Int), ()) = some (.inl (d.toList, ((scanUp (fun x => lt x d[a]!) d j i : Nat) : Int), ())) := pq0 d a hd ha j i hj hi
theorem pq2 (i j : Nat) (hi : 0 < i) (hj : j < d.size) : g_partition_l2 lt ((a : Int), (i : Int), ()) (d.toList, (j : Int), ()) = some (.inl (d.toList, ((scanDown (fun x => !lt x d[a]!) d i j : Nat) : Int), ())) := by
  refine scan_down (body := g_partition_b2 lt ((a : Int), (i : Int), ())) (fun i => (d.toList, (i : Int), ())) (fun i => Sum.inl (d.toList, (i : Int), ())) (fun x => !lt x d[a]!) d i hi (fun j hj hj2 => ?_) j big hj (by omega) (lt_big (by omega))
  unfold g_partition_b2
  by_cases h : i ≤ j
  · have e : rArith .sub .i64 (j : Int) 1 = ((j - 1 : Nat) : Int) := sS (m := 1) (by omega) (by omega)
    simp only [leS, h, decide_true, cond_true, inA, gA, hj2, ha, Option.bind_some, Bool.true_and, e]
    cases lt d[j]! d[a]! <;> rfl
  · simp only [leS, h, decide_false, cond_false, Bool.false_and]
theorem pq8 (i j : Nat) (hi : 0 < i) (hj : j < d.size) : g_partition_l8 lt ((a : Int), (i : Int), ()) (d.toList, (j : Int), ()) = some (.inl (d.toList, ((scanDown (fun x => !lt x d[a]!) d i j : Nat) : Int), ())) := pq2 d a hd ha i j hi hj
theorem pe2 (j i : Nat) (hj : j < d.size) (hi : i ≤ 256) : g_partitionEqual_l2 lt ((a : Int), (j : Int), ()) (d.toList, (i : Int), ()) = some (.inl (d.toList, ((scanUp (fun x => !lt d[a]! x) d j i : Nat) : Int), ())) := by
  refine scan_up (body := g_partitionEqual_b2 lt ((a : Int), (j : Int), ())) (fun i => (d.toList, (i : Int), ())) (fun i => Sum.inl (d.toList, (i : Int), ())) (fun x => !lt d[a]! x) d j (fun i hi => ?_) (by omega) 256 i big (by omega) hi (lt_big (by omega))
  unfold g_partitionEqual_b2
  by_cases h : i ≤ j
  · simp only [leS, h, decide_true, cond_true, inA, gA, show i < d.size by omega, ha, Option.bind_some, Bool.true_and, succ64 (n := i) (by omega)]
    cases lt d[a]! d[i]! <;> rfl
  · simp only [leS, h, decide_false, cond_false, Bool.false_and]
theorem pe4 (i j : Nat) (hi : 0 < i) (hj : j < d.size) : g_partitionEqual_l4 lt ((a : Int), (i : Int), ()) (d.toList, (j : Int), ()) = some (.inl (d.toList, ((scanDown (fun x => lt d[a]! x) d i j : Nat) : Int), ())) := by
  refine scan_down (body := g_partitionEqual_b4 lt ((a : Int), (i : Int), ())) (fun i => (d.toList, (i : Int), ())) (fun i => Sum.inl (d.toList, (i : Int), ())) (fun x => lt d[a]! x) d i hi (fun j hj hj2 => ?_) j big hj (by omega) (lt_big (by omega))
  unfold g_partitionEqual_b4
  by_cases h : i ≤ j
  · have e : rArith .sub .i64 (j : Int) 1 = ((j - 1 : Nat) : Int) := sS (m := 1) (by omega) (by omega)
    simp only [leS, h, decide_true, cond_true, inA, gA, hj2, ha, Option.bind_some, Bool.true_and, e]
    cases lt d[a]! d[j]! <;> rfl
  · simp only [leS, h, decide_false, cond_false, Bool.false_and]
end
theorem part_loop (a : Nat) : ∀ (k i j : Nat) (d : Array α) (n : Nat), j + 1 - i ≤ k → d.size ≤ 255 → a < d.size → 0 < i → i ≤ 256 → j < d.size → k < n → iter (g_partition_b4 lt ((a : Int), ())) n (d.toList, (i : Int), (j : Int), ()) = some (.inl ((partLoop lt a i j d).2.toList, (((partLoop lt a i j d).1 : Nat) : Int), ())) := by
  intro k
  induction k with
  | zero =>
    intro i j d n hk hd ha hi hi2 hj hn
    obtain ⟨n, rfl⟩ : ∃ m, n = m + 1 := ⟨n - 1, by omega⟩
    rw [partLoop_eq]
    have h1 := scanUp_ge (fun x => lt x d[a]!) d j i
    have h2 := scanDown_le (fun x => !lt x d[a]!) d (scanUp (fun x => lt x d[a]!) d j i) j
    have h : scanUp (fun x => lt x d[a]!) d j i > scanDown (fun x => !lt x d[a]!) d (scanUp (fun x => lt x d[a]!) d j i) j := by omega
    rw [if_pos h]
    refine iter_done ?_
    unfold g_partition_b4
    simp only [pq6 (lt := lt) d a hd ha j i hj hi2, Option.bind_some, Sum.elim_inl, pq8 (lt := lt) d a hd ha (scanUp (fun x => lt x d[a]!) d j i) j (by omega) hj, gtS, h, decide_true, cond_true]
  | succ k ih =>
    intro i j d n hk hd ha hi hi2 hj hn
    obtain ⟨n, rfl⟩ : ∃ m, n = m + 1 := ⟨n - 1, by omega⟩
    rw [partLoop_eq]
    have h1 := scanUp_ge (fun x => lt x d[a]!) d j i
    have h2 := scanDown_le (fun x => !lt x d[a]!) d (scanUp (fun x => lt x d[a]!) d j i) j
    have hr : iter (g_partition_b4 lt ((a : Int), ())) (n + 1) (d.toList, (i : Int), (j : Int), ()) = iter (g_partition_b4 lt ((a : Int), ())) (n + 1) (d.toList, (i : Int), (j : Int), ()) := rfl
    by_cases h : scanUp (fun x => lt x d[a]!) d j i > scanDown (fun x => !lt x d[a]!) d (scanUp (fun x => lt x d[a]!) d j i) j
    · rw [if_pos h]
      refine iter_done ?_
      unfold g_partition_b4
      simp only [pq6 (lt := lt) d a hd ha j i hj hi2, Option.bind_some, Sum.elim_inl, pq8 (lt := lt) d a hd ha (scanUp (fun x => lt x d[a]!) d j i) j (by omega) hj, gtS, h, decide_true, cond_true]
    · rw [if_neg h]
      have e6 := pq6 (lt := lt) d a hd ha j i hj hi2
      have e8 := pq8 (lt := lt) d a hd ha (scanUp (fun x => lt x d[a]!) d j i) j (by omega) hj
      generalize scanDown (fun x => !lt x d[a]!) d (scanUp (fun x => lt x d[a]!) d j i) j = j2 at h h2 e8 ⊢
      generalize scanUp (fun x => lt x d[a]!) d j i = i2 at h h1 e6 e8 ⊢
      rw [← ih (i2 + 1) (j2 - 1) (swp d i2 j2) n (by omega) (by rw [size_swp]; omega) (by rw [size_swp]; omega) (by omega) (by omega) (by rw [size_swp]; omega) (by omega)]
      refine iter_next ?_
      have e : rArith .sub .i64 (j2 : Int) 1 = ((j2 - 1 : Nat) : Int) := sS (m := 1) (by omega) (by omega)
      unfold g_partition_b4
      simp only [e6, Option.bind_some, Sum.elim_inl, e8, gtS, h, decide_false, cond_false, inA, gA, inP, show i2 < d.size by omega, show j2 < d.size by omega, decide_true, cond_true, swA, e, succ64 (n := i2) (by omega)]
theorem parteq_loop (a : Nat) : ∀ (k i j : Nat) (d : Array α) (n : Nat), j + 1 - i ≤ k → d.size ≤ 255 → a < d.size → 0 < i → i ≤ 256 → j < d.size → k < n → iter (g_partitionEqual_b0 lt ((a : Int), ())) n (d.toList, (i : Int), (j : Int), ()) = some (.inl ((partEqLoop lt a i j d).2.toList, (((partEqLoop lt a i j d).1 : Nat) : Int), ())) := by
  intro k
  induction k with
  | zero =>
    intro i j d n hk hd ha hi hi2 hj hn
    obtain ⟨n, rfl⟩ : ∃ m, n = m + 1 := ⟨n - 1, by omega⟩
    rw [partEqLoop_eq]
    have h1 := scanUp_ge (fun x => !lt d[a]! x) d j i
    have h2 := scanDown_le (fun x => lt d[a]! x) d (scanUp (fun x => !lt d[a]! x) d j i) j
    have h : scanUp (fun x => !lt d[a]! x) d j i > scanDown (fun x => lt d[a]! x) d (scanUp (fun x => !lt d[a]! x) d j i) j := by omega
    rw [if_pos h]
    refine iter_done ?_
    unfold g_partitionEqual_b0
    simp only [pe2 (lt := lt) d a hd ha j i hj hi2, Option.bind_some, Sum.elim_inl, pe4 (lt := lt) d a hd ha (scanUp (fun x => !lt d[a]! x) d j i) j (by omega) hj, gtS, h, decide_true, cond_true]
  | succ k ih =>
    intro i j d n hk hd ha hi hi2 hj hn
    obtain ⟨n, rfl⟩ : ∃ m, n = m + 1 := ⟨n - 1, by omega⟩
    rw [partEqLoop_eq]
    have h1 := scanUp_ge (fun x => !lt d[a]! x) d j i
    have h2 := scanDown_le (fun x => lt d[a]! x) d (scanUp (fun x => !lt d[a]! x) d j i) j
    by_cases h : scanUp (fun x => !lt d[a]! x) d j i > scanDown (fun x => lt d[a]! x) d (scanUp (fun x => !lt d[a]! x) d j i) j
    · rw [if_pos h]
      refine iter_done ?_
      unfold g_partitionEqual_b0
      simp only [pe2 (lt := lt) d a hd ha j i hj hi2, Option.bind_some, Sum.elim_inl, pe4 (lt := lt) d a hd ha (scanUp (fun x => !lt d[a]! x) d j i) j (by omega) hj, gtS, h, decide_true, cond_true]
    · rw [if_neg h]
      have e6 := pe2 (lt := lt) d a hd ha j i hj hi2
      have e8 := pe4 (lt := lt) d a hd ha (scanUp (fun x => !lt d[a]! x) d j i) j (by omega) hj
      generalize scanDown (fun x => lt d[a]! x) d (scanUp (fun x => !lt d[a]! x) d j i) j = j2 at h h2 e8 ⊢
      generalize scanUp (fun x => !lt d[a]! x) d j i = i2 at h h1 e6 e8 ⊢
      rw [← ih (i2 + 1) (j2 - 1) (swp d i2 j2) n (by omega) (by rw [size_swp]; omega) (by rw [size_swp]; omega) (by omega) (by omega) (by rw [size_swp]; omega) (by omega)]
      refine iter_next ?_
      have e : rArith .sub .i64 (j2 : Int) 1 = ((j2 - 1 : Nat) : Int) := sS (m := 1) (by omega) (by omega)
      unfold g_partitionEqual_b0
      simp only [e6, Option.bind_some, Sum.elim_inl, e8, gtS, h, decide_false, cond_false, inA, gA, inP, show i2 < d.size by omega, show j2 < d.size by omega, decide_true, cond_true, swA, e, succ64 (n := i2) (by omega)]
theorem sim_parteq (d : Array α) (a b p : Nat) (hab : a < b) (hb : b ≤ d.size) (hd : d.size ≤ 255) (hp : p < d.size) : g_partitionEqual lt d.toList (a : Int) (b : Int) (p : Int) = some ((((partitionEqual lt d a b p).1 : Nat) : Int), (partitionEqual lt d a b p).2.toList, ()) := by
  unfold g_partitionEqual g_partitionEqual_l0 partitionEqual
  have e : rArith .sub .i64 (b : Int) 1 = ((b - 1 : Nat) : Int) := sS (m := 1) (by omega) (by omega)
  simp only [inA, gA, inP, show a < d.size by omega, hp, decide_true, cond_true, swA, e, succ64 (n := a) (by omega), parteq_loop (lt := lt) a 256 (a + 1) (b - 1) (swp d a p) big (by omega) (by rw [size_swp]; omega) (by rw [size_swp]; omega) (by omega) (by omega) (by rw [size_swp]; omega) (lt_big (by omega)), Option.bind_some, Sum.elim_inl]
theorem partLoop_size (a : Nat) : ∀ (k i j : Nat) (d : Array α), j + 1 - i ≤ k → (partLoop lt a i j d).2.size = d.size ∧ (partLoop lt a i j d).1 ≤ j := by
  intro k
  induction k with
  | zero =>
    intro i j d hk
    rw [partLoop_eq]
    have h1 := scanUp_ge (fun x => lt x d[a]!) d j i
    have h2 := scanDown_le (fun x => !lt x d[a]!) d (scanUp (fun x => lt x d[a]!) d j i) j
    rw [if_pos (by omega)]
    exact ⟨rfl, h2⟩
  | succ k ih =>
    intro i j d hk
    rw [partLoop_eq]
    have h1 := scanUp_ge (fun x => lt x d[a]!) d j i
    have h2 := scanDown_le (fun x => !lt x d[a]!) d (scanUp (fun x => lt x d[a]!) d j i) j
    split
    · exact ⟨rfl, h2⟩
    · obtain ⟨h3, h4⟩ := ih (scanUp (fun x => lt x d[a]!) d j i + 1) (scanDown (fun x => !lt x d[a]!) d (scanUp (fun x => lt x d[a]!) d j i) j - 1) (swp d (scanUp (fun x => lt x d[a]!) d j i) (scanDown (fun x => !lt x d[a]!) d (scanUp (fun x => lt x d[a]!) d j i) j)) (by omega)
      exact ⟨by rw [h3, size_swp], by omega⟩
theorem sim_part (d : Array α) (a b p : Nat) (hab : a < b) (hb : b ≤ d.size) (hd : d.size ≤ 255) (hp : p < d.size) : g_partition lt d.toList (a : Int) (b : Int) (p : Int) = some ((((partition lt d a b p).1 : Nat) : Int), (partition lt d a b p).2.1, (partition lt d a b p).2.2.toList, ()) := by
  unfold g_partition g_partition_l4 partition
  have e : rArith .sub .i64 (b : Int) 1 = ((b - 1 : Nat) : Int) := sS (m := 1) (by omega) (by omega)
  have hs : (swp d a p).size = d.size := size_swp _ _ _
  have e0 := pq0 (lt := lt) (swp d a p) a (by omega) (by omega) (b - 1) (a + 1) (by omega) (by omega)
  have h1 := scanUp_ge (fun x => lt x (swp d a p)[a]!) (swp d a p) (b - 1) (a + 1)
  have e2 := pq2 (lt := lt) (swp d a p) a (by omega) (by omega) (scanUp (fun x => lt x (swp d a p)[a]!) (swp d a p) (b - 1) (a + 1)) (b - 1) (by omega) (by omega)
  have h2 := scanDown_le (fun x => !lt x (swp d a p)[a]!) (swp d a p) (scanUp (fun x => lt x (swp d a p)[a]!) (swp d a p) (b - 1) (a + 1)) (b - 1)
  simp only [inA, gA, inP, show a < d.size by omega, hp, decide_true, cond_true, swA, e, succ64 (n := a) (by omega), e0, e2, Option.bind_some, Sum.elim_inl]
  generalize scanDown (fun x => !lt x (swp d a p)[a]!) (swp d a p) (scanUp (fun x => lt x (swp d a p)[a]!) (swp d a p) (b - 1) (a + 1)) (b - 1) = j2 at h2 e2 ⊢
  generalize scanUp (fun x => lt x (swp d a p)[a]!) (swp d a p) (b - 1) (a + 1) = i2 at h1 e0 e2 ⊢
  by_cases h : i2 > j2
  · simp only [gtS, h, decide_true, cond_true, if_true, inA, gA, inP, hs, show a < d.size by omega, show j2 < d.size by omega, swA]
  · have e3 : rArith .sub .i64 (j2 : Int) 1 = ((j2 - 1 : Nat) : Int) := sS (m := 1) (by omega) (by omega)
    have hs2 : (swp (swp d a p) i2 j2).size = d.size := by rw [size_swp, hs]
    have e4 := part_loop (lt := lt) a 256 (i2 + 1) (j2 - 1) (swp (swp d a p) i2 j2) big (by omega) (by omega) (by omega) (by omega) (by omega) (by omega) (lt_big (by omega))
    obtain ⟨h3, h4⟩ := partLoop_size (lt := lt) a 256 (i2 + 1) (j2 - 1) (swp (swp d a p) i2 j2) (by omega)
    simp only [gtS, h, decide_false, cond_false, if_false, inA, gA, inP, hs, show i2 < d.size by omega, show j2 < d.size by omega, swA, decide_true, cond_true, e3, succ64 (n := i2) (by omega), e4, Option.bind_some, Sum.elim_inl, h3, hs2, show a < d.size by omega, show (partLoop lt a (i2 + 1) (j2 - 1) (swp (swp d a p) i2 j2)).1 < d.size by omega]
end
end Go.Fn
set_option linter.unusedSimpArgs false
set_option linter.unusedVariables false
namespace Go.Fn
open Go.R Go.Sort
section
variable {α : Type} [Inhabited α] {lt : α → α → Bool}
theorem size_shiftDown : ∀ j (d : Array α), (shiftDown lt j d).size = d.size
  | 0, _ => rfl
  | j + 1, d => by
    unfold shiftDown
    split
    · rfl
    · rw [size_shiftDown j, size_swp]
theorem size_shiftUp (b : Nat) : ∀ (k j : Nat) (d : Array α), b - j ≤ k → (shiftUp lt b j d).size = d.size := by
  intro k
  induction k with
  | zero => intro j d h; unfold shiftUp; rw [if_neg (by omega)]
  | succ k ih =>
    intro j d h
    unfold shiftUp
    split
    · split
      · rfl
      · rw [ih (j + 1) _ (by omega), size_swp]
    · rfl
theorem scanSorted_ge (d : Array α) (b : Nat) : ∀ (k i : Nat), b - i ≤ k → i ≤ scanSorted lt d b i ∧ (i ≤ b → scanSorted lt d b i ≤ b) := by
  intro k
  induction k with
  | zero =>
    intro i h; unfold scanSorted
    have : ¬ (i < b) := by omega
    simp only [this, decide_false, Bool.false_and, Bool.false_eq_true, if_false]
    exact ⟨Nat.le_refl _, fun h => h⟩
  | succ k ih =>
    intro i h
    unfold scanSorted
    split
    · rename_i hc
      simp only [Bool.and_eq_true, decide_eq_true_eq] at hc
      have := ih (i + 1) (by omega)
      exact ⟨by omega, fun _ => this.2 (by omega)⟩
    · exact ⟨Nat.le_refl _, fun h => h⟩
theorem pi2 (d : Array α) (hd : d.size ≤ 255) (a b j : Int) (bn : Nat) (hb : bn ≤ d.size) : ∀ (k i n : Nat), bn - i ≤ k → 0 < i → i ≤ 256 → k < n → iter (g_partialInsertionSort_b2 lt (a, (bn : Int), j, ())) n (d.toList, (i : Int), ()) = some (.inl (d.toList, ((scanSorted lt d bn i : Nat) : Int), ())) := by
  intro k
  induction k with
  | zero =>
    intro i n hk h0 hi hn
    obtain ⟨n, rfl⟩ : ∃ m, n = m + 1 := ⟨n - 1, by omega⟩
    refine iter_done ?_
    have h : ¬ (i < bn) := by omega
    unfold g_partialInsertionSort_b2 scanSorted
    simp only [ltS, h, decide_false, cond_false, Bool.false_and, Bool.false_eq_true, if_false]
  | succ k ih =>
    intro i n hk h0 hi hn
    obtain ⟨n, rfl⟩ : ∃ m, n = m + 1 := ⟨n - 1, by omega⟩
    unfold scanSorted
    by_cases h : i < bn
    · have e : rArith .sub .i64 (i : Int) 1 = ((i - 1 : Nat) : Int) := sS (m := 1) (by omega) (by omega)
      cases hl : lt d[i]! d[i - 1]! with
      | true =>
        simp only [Bool.not_true, Bool.and_false, Bool.false_eq_true, if_false]
        refine iter_done ?_
        unfold g_partialInsertionSort_b2
        simp only [ltS, h, decide_true, cond_true, e, inA, gA, show i < d.size by omega, show i - 1 < d.size by omega, Option.bind_some, hl, Bool.not_true, cond_false]
      | false =>
        simp only [h, Bool.not_false, Bool.and_true, decide_true, if_true]
        rw [← ih (i + 1) n (by omega) (by omega) (by omega) (by omega)]
        refine iter_next ?_
        unfold g_partialInsertionSort_b2
        simp only [ltS, h, decide_true, cond_true, e, inA, gA, show i < d.size by omega, show i - 1 < d.size by omega, Option.bind_some, hl, Bool.not_false, succ64 (n := i) (by omega)]
    · simp only [h, decide_false, Bool.false_and, Bool.false_eq_true, if_false]
      refine iter_done ?_
      unfold g_partialInsertionSort_b2
      simp only [ltS, h, decide_false, cond_false]
theorem pi4 (k : Int × Int × Int × Int × Unit) : ∀ (j : Nat) (d : Array α) (n : Nat), j < d.size → d.size ≤ 255 → j < n → iter (g_partialInsertionSort_b4 lt k) n (d.toList, (j : Int), ()) = some (.inl ((shiftDown lt j d).toList, ())) := by
  intro j
  induction j with
  | zero =>
    intro d n hj hd hn
    obtain ⟨n, rfl⟩ : ∃ m, n = m + 1 := ⟨n - 1, by omega⟩
    exact iter_done rfl
  | succ j ih =>
    intro d n hj hd hn
    obtain ⟨n, rfl⟩ : ∃ m, n = m + 1 := ⟨n - 1, by omega⟩
    have e1 : rArith .sub .i64 ((j + 1 : Nat) : Int) (1 : Int) = (j : Int) := pred64 (by omega)
    have g : rCmp .geq ((j + 1 : Nat) : Int) (1 : Int) = true := (geS (j + 1) 1).trans (decide_eq_true (by omega))
    unfold shiftDown
    cases hl : lt d[j + 1]! d[j]! with
    | true =>
      simp only [Bool.not_true, Bool.false_eq_true, if_false]
      rw [← ih (swp d (j + 1) j) n (by rw [size_swp]; omega) (by rw [size_swp]; omega) (by omega)]
      refine iter_next ?_
      unfold g_partialInsertionSort_b4
      simp only [g, cond_true, e1, inA, gA, inP, hj, show j < d.size by omega, decide_true, Option.bind_some, hl, Bool.not_true, cond_false, swA]
    | false =>
      simp only [Bool.not_false, if_true]
      refine iter_done ?_
      unfold g_partialInsertionSort_b4
      simp only [g, cond_true, e1, inA, gA, inP, hj, show j < d.size by omega, decide_true, Option.bind_some, hl, Bool.not_false]
theorem pi6 (a b i j : Int) (bn : Nat) : ∀ (k jn : Nat) (d : Array α) (n : Nat), bn - jn ≤ k → 0 < jn → jn ≤ 256 → bn ≤ d.size → d.size ≤ 255 → k < n → iter (g_partialInsertionSort_b6 lt (a, (bn : Int), i, j, ())) n (d.toList, (jn : Int), ()) = some (.inl ((shiftUp lt bn jn d).toList, ())) := by
  intro k
  induction k with
  | zero =>
    intro jn d n hk h0 h1 hb hd hn
    obtain ⟨n, rfl⟩ : ∃ m, n = m + 1 := ⟨n - 1, by omega⟩
    have h : ¬ (jn < bn) := by omega
    unfold shiftUp
    rw [if_neg h]
    refine iter_done ?_
    unfold g_partialInsertionSort_b6
    simp only [ltS, h, decide_false, cond_false]
  | succ k ih =>
    intro jn d n hk h0 h1 hb hd hn
    obtain ⟨n, rfl⟩ : ∃ m, n = m + 1 := ⟨n - 1, by omega⟩
    unfold shiftUp
    by_cases h : jn < bn
    · have e : rArith .sub .i64 (jn : Int) 1 = ((jn - 1 : Nat) : Int) := sS (m := 1) (by omega) (by omega)
      simp only [h, if_true]
      cases hl : lt d[jn]! d[jn - 1]! with
      | true =>
        simp only [Bool.not_true, Bool.false_eq_true, if_false]
        rw [← ih (jn + 1) (swp d jn (jn - 1)) n (by omega) (by omega) (by omega) (by rw [size_swp]; omega) (by rw [size_swp]; omega) (by omega)]
        refine iter_next ?_
        unfold g_partialInsertionSort_b6
        simp only [ltS, h, decide_true, cond_true, e, inA, gA, inP, show jn < d.size by omega, show jn - 1 < d.size by omega, Option.bind_some, hl, Bool.not_true, cond_false, swA, succ64 (n := jn) (by omega)]
      | false =>
        simp only [Bool.not_false, if_true]
        refine iter_done ?_
        unfold g_partialInsertionSort_b6
        simp only [ltS, h, decide_true, cond_true, e, inA, gA, inP, show jn < d.size by omega, show jn - 1 < d.size by omega, Option.bind_some, hl, Bool.not_false]
    · simp only [h, if_false]
      refine iter_done ?_
      unfold g_partialInsertionSort_b6
      simp only [ltS, h, decide_false, cond_false]
theorem pi0 (a b : Nat) (hab : a < b) : ∀ (s : Nat), s ≤ 5 → ∀ (i : Nat) (d : Array α) (n : Nat), a < i → i ≤ b → b ≤ d.size → d.size ≤ 255 → s < n →
    ∃ q, iter (g_partialInsertionSort_b0 lt ((a : Int), (b : Int), ())) n (d.toList, (i : Int), ((5 - s : Nat) : Int), ()) = some q ∧ (q = .inl ((partialIns lt a b s i d).1.toList, (partialIns lt a b s i d).2, ()) ∨ ((partialIns lt a b s i d).2 = false ∧ q = .inr (.inl ((partialIns lt a b s i d).1.toList, ())))) := by
  intro s
  induction s with
  | zero =>
    intro hs i d n ha hi hb hd hn
    obtain ⟨n, rfl⟩ : ∃ m, n = m + 1 := ⟨n - 1, by omega⟩
    exact ⟨_, iter_done rfl, .inr ⟨rfl, rfl⟩⟩
  | succ s ih =>
    intro hs i d n ha hi hb hd hn
    obtain ⟨n, rfl⟩ : ∃ m, n = m + 1 := ⟨n - 1, by omega⟩
    have g5 : rCmp .lss ((5 - (s + 1) : Nat) : Int) (5 : Int) = true := (ltS (5 - (s + 1)) 5).trans (decide_eq_true (by omega))
    have e2 : g_partialInsertionSort_l2 lt ((a : Int), (b : Int), ((5 - (s + 1) : Nat) : Int), ()) (d.toList, (i : Int), ()) = _ := pi2 (lt := lt) d hd (a : Int) (b : Int) ((5 - (s + 1) : Nat) : Int) b hb 256 i big (by omega) (by omega) (by omega) (lt_big (by omega))
    have eb : rArith .sub .i64 (b : Int) (a : Int) = ((b - a : Nat) : Int) := sS (by omega) (by omega)
    have es : rArith .add .i64 ((5 - (s + 1) : Nat) : Int) 1 = ((5 - s : Nat) : Int) := by rw [succ64 (by omega)]; congr 1; omega
    obtain ⟨h1, h2⟩ := scanSorted_ge (lt := lt) d b (b - i) i (Nat.le_refl _)
    have h2 := h2 hi
    unfold partialIns
    simp only []
    generalize scanSorted lt d b i = i2 at e2 h1 h2 ⊢
    by_cases hbi : i2 = b
    · subst hbi
      rw [if_pos rfl]
      refine ⟨_, iter_done ?_, .inl rfl⟩
      unfold g_partialInsertionSort_b0
      simp only [g5, cond_true, e2, Option.bind_some, Sum.elim_inl, eqS, decide_true]
    · rw [if_neg hbi]
      by_cases h50 : b - a < 50
      · rw [if_pos h50]
        refine ⟨_, iter_done ?_, .inl rfl⟩
        unfold g_partialInsertionSort_b0
        simp only [g5, cond_true, e2, Option.bind_some, Sum.elim_inl, eqS, hbi, decide_false, cond_false, eb, show rCmp .lss ((b - a : Nat) : Int) (50 : Int) = true from (ltS (b - a) 50).trans (decide_eq_true h50)]
      · rw [if_neg h50]
        have e50 : rCmp .lss ((b - a : Nat) : Int) (50 : Int) = false := (ltS (b - a) 50).trans (decide_eq_false h50)
        have em : rArith .sub .i64 (i2 : Int) 1 = ((i2 - 1 : Nat) : Int) := sS (m := 1) (by omega) (by omega)
        have ea : rArith .sub .i64 (i2 : Int) (a : Int) = ((i2 - a : Nat) : Int) := sS (by omega) (by omega)
        have ebi : rArith .sub .i64 (b : Int) (i2 : Int) = ((b - i2 : Nat) : Int) := sS (by omega) (by omega)
        have hsz : (swp d i2 (i2 - 1)).size = d.size := size_swp _ _ _
        have e4 : g_partialInsertionSort_l4 lt ((a : Int), (b : Int), (i2 : Int), ((5 - (s + 1) : Nat) : Int), ()) ((swp d i2 (i2 - 1)).toList, ((i2 - 1 : Nat) : Int), ()) = _ := pi4 (lt := lt) ((a : Int), (b : Int), (i2 : Int), ((5 - (s + 1) : Nat) : Int), ()) (i2 - 1) (swp d i2 (i2 - 1)) big (by omega) (by omega) (lt_big (by omega))
        have e6 : ∀ d' : Array α, d'.size = d.size → g_partialInsertionSort_l6 lt ((a : Int), (b : Int), (i2 : Int), ((5 - (s + 1) : Nat) : Int), ()) (d'.toList, ((i2 + 1 : Nat) : Int), ()) = some (.inl ((shiftUp lt b (i2 + 1) d').toList, ())) := fun d' hd' => pi6 (lt := lt) (a : Int) (b : Int) (i2 : Int) ((5 - (s + 1) : Nat) : Int) b 256 (i2 + 1) d' big (by omega) (by omega) (by omega) (by omega) (by omega) (lt_big (by omega))
        have hd4 : (shiftDown lt (i2 - 1) (swp d i2 (i2 - 1))).size = d.size := by rw [size_shiftDown, hsz]
        have hf : ∀ d' : Array α, d'.size = d.size → (shiftUp lt b (i2 + 1) d').size = d.size := fun d' h => by rw [size_shiftUp b b _ _ (by omega), h]
        by_cases hA : i2 - a ≥ 2
        · have gA2 : rCmp .geq ((i2 - a : Nat) : Int) (2 : Int) = true := (geS (i2 - a) 2).trans (decide_eq_true hA)
          by_cases hB : b - i2 ≥ 2
          · have gB2 : rCmp .geq ((b - i2 : Nat) : Int) (2 : Int) = true := (geS (b - i2) 2).trans (decide_eq_true hB)
            simp only [hA, hB, if_true]
            obtain ⟨q, hq, hq'⟩ := ih (by omega) i2 (shiftUp lt b (i2 + 1) (shiftDown lt (i2 - 1) (swp d i2 (i2 - 1)))) n (by omega) (by omega) (by rw [hf _ hd4]; omega) (by rw [hf _ hd4]; omega) (by omega)
            refine ⟨q, ?_, hq'⟩
            rw [← hq]
            refine iter_next ?_
            unfold g_partialInsertionSort_b0
            simp only [g5, cond_true, e2, Option.bind_some, Sum.elim_inl, eqS, hbi, decide_false, cond_false, eb, e50, em, inA, gA, inP, show i2 < d.size by omega, show i2 - 1 < d.size by omega, decide_true, swA, ea, gA2, e4, ebi, gB2, succ64 (n := i2) (by omega), e6 _ hd4, es]
          · have gB2 : rCmp .geq ((b - i2 : Nat) : Int) (2 : Int) = false := (geS (b - i2) 2).trans (decide_eq_false hB)
            simp only [hA, hB, if_true, if_false]
            obtain ⟨q, hq, hq'⟩ := ih (by omega) i2 (shiftDown lt (i2 - 1) (swp d i2 (i2 - 1))) n (by omega) (by omega) (by rw [hd4]; omega) (by rw [hd4]; omega) (by omega)
            refine ⟨q, ?_, hq'⟩
            rw [← hq]
            refine iter_next ?_
            unfold g_partialInsertionSort_b0
            simp only [g5, cond_true, e2, Option.bind_some, Sum.elim_inl, eqS, hbi, decide_false, cond_false, eb, e50, em, inA, gA, inP, show i2 < d.size by omega, show i2 - 1 < d.size by omega, decide_true, swA, ea, gA2, e4, ebi, gB2, es]
        · have gA2 : rCmp .geq ((i2 - a : Nat) : Int) (2 : Int) = false := (geS (i2 - a) 2).trans (decide_eq_false hA)
          by_cases hB : b - i2 ≥ 2
          · have gB2 : rCmp .geq ((b - i2 : Nat) : Int) (2 : Int) = true := (geS (b - i2) 2).trans (decide_eq_true hB)
            simp only [hA, hB, if_true, if_false]
            obtain ⟨q, hq, hq'⟩ := ih (by omega) i2 (shiftUp lt b (i2 + 1) (swp d i2 (i2 - 1))) n (by omega) (by omega) (by rw [hf _ hsz]; omega) (by rw [hf _ hsz]; omega) (by omega)
            refine ⟨q, ?_, hq'⟩
            rw [← hq]
            refine iter_next ?_
            unfold g_partialInsertionSort_b0
            simp only [g5, cond_true, e2, Option.bind_some, Sum.elim_inl, eqS, hbi, decide_false, cond_false, eb, e50, em, inA, gA, inP, show i2 < d.size by omega, show i2 - 1 < d.size by omega, decide_true, swA, ea, gA2, ebi, gB2, succ64 (n := i2) (by omega), e6 _ hsz, es]
          · have gB2 : rCmp .geq ((b - i2 : Nat) : Int) (2 : Int) = false := (geS (b - i2) 2).trans (decide_eq_false hB)
            simp only [hA, hB, if_false]
            obtain ⟨q, hq, hq'⟩ := ih (by omega) i2 (swp d i2 (i2 - 1)) n (by omega) (by omega) (by rw [hsz]; omega) (by rw [hsz]; omega) (by omega)
            refine ⟨q, ?_, hq'⟩
            rw [← hq]
            refine iter_next ?_
            unfold g_partialInsertionSort_b0
            simp only [g5, cond_true, e2, Option.bind_some, Sum.elim_inl, eqS, hbi, decide_false, cond_false, eb, e50, em, inA, gA, inP, show i2 < d.size by omega, show i2 - 1 < d.size by omega, decide_true, swA, ea, gA2, ebi, gB2, es]
theorem sim_partial (d : Array α) (a b : Nat) (hab : a < b) (hb : b ≤ d.size) (hd : d.size ≤ 255) : g_partialInsertionSort lt d.toList (a : Int) (b : Int) = some ((partialInsertionSort lt d a b).2, (partialInsertionSort lt d a b).1.toList, ()) := by
  unfold g_partialInsertionSort g_partialInsertionSort_l0 partialInsertionSort
  obtain ⟨q, hq, rfl | ⟨h2, rfl⟩⟩ := pi0 (lt := lt) a b hab 5 (Nat.le_refl _) (a + 1) d big (by omega) (by omega) hb hd (lt_big (by omega))
  · rw [succ64 (n := a) (by omega)]
    rw [show (0 : Int) = ((5 - 5 : Nat) : Int) from rfl, hq]
    rfl
  · rw [succ64 (n := a) (by omega)]
    rw [show (0 : Int) = ((5 - 5 : Nat) : Int) from rfl, hq, h2]
    rfl
theorem rev_loop (a b : Nat) : ∀ (k i j : Nat) (d : Array α) (n : Nat), j - i ≤ k → a ≤ i → j < b → b ≤ d.size → d.size ≤ 255 → i ≤ 300 → k < n → ∃ d', iter (g_reverseRange_b0 lt ()) n (d.toList, (i : Int), (j : Int), ()) = some (.inl (d'.toList, ())) ∧ PermIn a b d d' := by
  intro k
  induction k with
  | zero =>
    intro i j d n hk ha hj hb hd hi hn
    obtain ⟨n, rfl⟩ : ∃ m, n = m + 1 := ⟨n - 1, by omega⟩
    refine ⟨d, iter_done ?_, permIn_refl d a b⟩
    unfold g_reverseRange_b0
    simp only [ltS, show ¬ (i < j) by omega, decide_false, cond_false]
  | succ k ih =>
    intro i j d n hk ha hj hb hd hi hn
    obtain ⟨n, rfl⟩ : ∃ m, n = m + 1 := ⟨n - 1, by omega⟩
    by_cases h : i < j
    · obtain ⟨d', h1, h2⟩ := ih (i + 1) (j - 1) (swp d i j) n (by omega) (by omega) (by omega) (by rw [size_swp]; omega) (by rw [size_swp]; omega) (by omega) (by omega)
      refine ⟨d', ?_, permIn_trans _ _ _ a b (swp_permIn d a b i j ha (by omega) (by omega) hj hb) h2⟩
      rw [← h1]
      refine iter_next ?_
      have e : rArith .sub .i64 (j : Int) 1 = ((j - 1 : Nat) : Int) := sS (m := 1) (by omega) (by omega)
      unfold g_reverseRange_b0
      simp only [ltS, h, decide_true, cond_true, inA, gA, inP, show i < d.size by omega, show j < d.size by omega, swA, e, succ64 (n := i) (by omega)]
    · refine ⟨d, iter_done ?_, permIn_refl d a b⟩
      unfold g_reverseRange_b0
      simp only [ltS, h, decide_false, cond_false]
theorem spec_rev (d : Array α) (a b : Nat) (hab : a < b) (hb : b ≤ d.size) (hd : d.size ≤ 255) : ∃ d', g_reverseRange lt d.toList (a : Int) (b : Int) = some (d'.toList, ()) ∧ PermIn a b d d' := by
  obtain ⟨d', h1, h2⟩ := rev_loop (lt := lt) a b 256 a (b - 1) d big (by omega) (Nat.le_refl _) (by omega) hb hd (by omega) (lt_big (by omega))
  refine ⟨d', ?_, h2⟩
  have e : rArith .sub .i64 (b : Int) 1 = ((b - 1 : Nat) : Int) := sS (m := 1) (by omega) (by omega)
  unfold g_reverseRange g_reverseRange_l0
  rw [e, h1]
  rfl
theorem spec_order2 (d : Array α) (a b : Nat) (s : Int) (ha : a < d.size) (hb : b < d.size) : ∃ s', g_order2 lt d.toList (a : Int) (b : Int) s = some ((a : Int), (b : Int), s', ()) ∨ g_order2 lt d.toList (a : Int) (b : Int) s = some ((b : Int), (a : Int), s', ()) := by
  unfold g_order2
  simp only [inA, gA, ha, hb, decide_true, cond_true, Option.bind_some]
  cases lt d[b]! d[a]!
  · exact ⟨_, .inl rfl⟩
  · exact ⟨_, .inr rfl⟩
theorem spec_median (d : Array α) (a b c : Nat) (s : Int) (ha : a < d.size) (hb : b < d.size) (hc : c < d.size) : ∃ (m : Nat) (s' : Int), g_median lt d.toList (a : Int) (b : Int) (c : Int) s = some ((m : Int), s', ()) ∧ (m = a ∨ m = b ∨ m = c) := by
  unfold g_median
  obtain ⟨s1, h1 | h1⟩ := spec_order2 (lt := lt) d a b s ha hb
  · obtain ⟨s2, h2 | h2⟩ := spec_order2 (lt := lt) d b c s1 hb hc
    · obtain ⟨s3, h3 | h3⟩ := spec_order2 (lt := lt) d a b s2 ha hb
      · exact ⟨b, s3, by simp only [h1, h2, h3, Option.bind_some], .inr (.inl rfl)⟩
      · exact ⟨a, s3, by simp only [h1, h2, h3, Option.bind_some], .inl rfl⟩
    · obtain ⟨s3, h3 | h3⟩ := spec_order2 (lt := lt) d a c s2 ha hc
      · exact ⟨c, s3, by simp only [h1, h2, h3, Option.bind_some], .inr (.inr rfl)⟩
      · exact ⟨a, s3, by simp only [h1, h2, h3, Option.bind_some], .inl rfl⟩
  · obtain ⟨s2, h2 | h2⟩ := spec_order2 (lt := lt) d a c s1 ha hc
    · obtain ⟨s3, h3 | h3⟩ := spec_order2 (lt := lt) d b a s2 hb ha
      · exact ⟨a, s3, by simp only [h1, h2, h3, Option.bind_some], .inl rfl⟩
      · exact ⟨b, s3, by simp only [h1, h2, h3, Option.bind_some], .inr (.inl rfl)⟩
    · obtain ⟨s3, h3 | h3⟩ := spec_order2 (lt := lt) d b c s2 hb hc
      · exact ⟨c, s3, by simp only [h1, h2, h3, Option.bind_some], .inr (.inr rfl)⟩
      · exact ⟨b, s3, by simp only [h1, h2, h3, Option.bind_some], .inr (.inl rfl)⟩
theorem spec_adj (d : Array α) (a : Nat) (s : Int) (ha : 0 < a) (ha2 : a + 1 < d.size) (hd : d.size ≤ 255) : ∃ (m : Nat) (s' : Int), g_medianAdjacent lt d.toList (a : Int) s = some ((m : Int), s', ()) ∧ (m = a - 1 ∨ m = a ∨ m = a + 1) := by
  have e : rArith .sub .i64 (a : Int) 1 = ((a - 1 : Nat) : Int) := sS (m := 1) (by omega) (by omega)
  obtain ⟨m, s', h1, h2⟩ := spec_median (lt := lt) d (a - 1) a (a + 1) s (by omega) (by omega) (by omega)
  refine ⟨m, s', ?_, h2⟩
  unfold g_medianAdjacent
  rw [e, succ64 (n := a) (by omega), h1]
  rfl
theorem hint_some (p c : Int) : ∃ h : Int, (bif (rCmp .eql c (0 : Int)) then some (p, (1 : Int), ()) else (bif (rCmp .eql c (12 : Int)) then some (p, (2 : Int), ()) else some (p, (0 : Int), ()))) = some (p, h, ()) := by
  cases rCmp .eql c (0 : Int)
  · cases rCmp .eql c (12 : Int) <;> exact ⟨_, rfl⟩
  · exact ⟨_, rfl⟩
theorem spec_choose (d : Array α) (a b : Nat) (hab : a + 12 < b) (hb : b ≤ d.size) (hd : d.size ≤ 255) : ∃ (p : Nat) (h : Int), g_choosePivot lt d.toList (a : Int) (b : Int) = some ((p : Int), h, ()) ∧ a ≤ p ∧ p < b := by
  have z : rIsZero (4 : Int) = false := rfl
  have e1 : rArith .sub .i64 (b : Int) (a : Int) = ((b - a : Nat) : Int) := sS (by omega) (by omega)
  have g8 : rCmp .geq ((b - a : Nat) : Int) (8 : Int) = true := (geS (b - a) 8).trans (decide_eq_true (by omega))
  have eq : rArith .quo .i64 ((b - a : Nat) : Int) (4 : Int) = (((b - a) / 4 : Nat) : Int) := qS _ 4 (by omega)
  have m1 : rArith .mul .i64 (((b - a) / 4 : Nat) : Int) (1 : Int) = (((b - a) / 4 * 1 : Nat) : Int) := mS (m := 1) (by omega)
  have m2 : rArith .mul .i64 (((b - a) / 4 : Nat) : Int) (2 : Int) = (((b - a) / 4 * 2 : Nat) : Int) := mS (m := 2) (by omega)
  have m3 : rArith .mul .i64 (((b - a) / 4 : Nat) : Int) (3 : Int) = (((b - a) / 4 * 3 : Nat) : Int) := mS (m := 3) (by omega)
  have a1 : rArith .add .i64 (a : Int) (((b - a) / 4 * 1 : Nat) : Int) = ((a + (b - a) / 4 * 1 : Nat) : Int) := aS (by omega)
  have a2 : rArith .add .i64 (a : Int) (((b - a) / 4 * 2 : Nat) : Int) = ((a + (b - a) / 4 * 2 : Nat) : Int) := aS (by omega)
  have a3 : rArith .add .i64 (a : Int) (((b - a) / 4 * 3 : Nat) : Int) = ((a + (b - a) / 4 * 3 : Nat) : Int) := aS (by omega)
  unfold g_choosePivot
  simp only [z, cond_false, e1, g8, cond_true, eq, m1, m2, m3, a1, a2, a3]
  clear e1 g8 eq m1 m2 m3 a1 a2 a3 z
  generalize hc : rCmp .geq ((b - a : Nat) : Int) (50 : Int) = c
  clear hc
  cases c with
  | true =>
    obtain ⟨x1, s1, h1, k1⟩ := spec_adj (lt := lt) d (a + (b - a) / 4 * 1) (0 : Int) (by omega) (by omega) hd
    obtain ⟨x2, s2, h2, k2⟩ := spec_adj (lt := lt) d (a + (b - a) / 4 * 2) s1 (by omega) (by omega) hd
    obtain ⟨x3, s3, h3, k3⟩ := spec_adj (lt := lt) d (a + (b - a) / 4 * 3) s2 (by omega) (by omega) hd
    obtain ⟨x4, s4, h4, k4⟩ := spec_median (lt := lt) d x1 x2 x3 s3 (by omega) (by omega) (by omega)
    obtain ⟨h, hh⟩ := hint_some (x4 : Int) s4
    refine ⟨x4, h, ?_, by omega, by omega⟩
    simp only [cond_true, h1, h2, h3, h4, Option.bind_some]
    exact hh
  | false =>
    obtain ⟨x4, s4, h4, k4⟩ := spec_median (lt := lt) d (a + (b - a) / 4 * 1) (a + (b - a) / 4 * 2) (a + (b - a) / 4 * 3) 0 (by omega) (by omega) (by omega)
    obtain ⟨h, hh⟩ := hint_some (x4 : Int) s4
    refine ⟨x4, h, ?_, by omega, by omega⟩
    simp only [cond_false, h4, Option.bind_some]
    exact hh
end
end Go.Fn
set_option linter.unusedSimpArgs false
set_option linter.unusedVariables false
namespace Go.Fn
open Go.R Go.Sort
theorem np_all : (List.range 256).all (fun n => decide (n < 8) || (match slices_nextPowerOfTwo (n : Int) with | some (m, ()) => decide (1 ≤ m ∧ m ≤ 2 * (n : Int)) | none => false)) = true := by decide +kernel
theorem np_ok {n : Nat} (h8 : 8 ≤ n) (h : n ≤ 255) : ∃ m : Nat, slices_nextPowerOfTwo (n : Int) = some ((m : Int), ()) ∧ 1 ≤ m ∧ m ≤ 2 * n := by
  have h1 := List.all_eq_true.1 np_all n (List.mem_range.2 (by omega))
  rw [decide_eq_false (by omega : ¬ n < 8), Bool.false_or] at h1
  cases hq : slices_nextPowerOfTwo (n : Int) with
  | none => rw [hq] at h1; cases h1
  | some p =>
    obtain ⟨m, u⟩ := p
    cases u
    rw [hq] at h1
    have h2 : 1 ≤ m ∧ m ≤ 2 * (n : Int) := of_decide_eq_true h1
    exact ⟨m.toNat, by rw [Int.toNat_of_nonneg (by omega)], by omega, by omega⟩
theorem next_ok (x : Int) : ∃ v, __slices_xorshift__Next x = some (v, v, ()) := ⟨_, rfl⟩
theorem wu64 {n : Int} (h1 : 0 ≤ n) (h2 : n < 18446744073709551616) : IntKind.u64.wrap n = n := IntWalk.u64_in n ⟨h1, by omega⟩
theorem andU (x : Int) {c : Nat} (hc : c < 9223372036854775808) : ∃ r : Nat, rArith .and .u64 x (c : Int) = (r : Int) ∧ r ≤ c := by
  have h1 : (BitVec.ofInt 64 (c : Int)).toNat = c := by
    rw [BitVec.toNat_ofInt]
    have : ((c : Int) % ((2 ^ 64 : Nat) : Int)) = c := Int.emod_eq_of_lt (by omega) (by omega)
    rw [this]; rfl
  have h2 : (BitVec.ofInt 64 x &&& BitVec.ofInt 64 (c : Int)).toNat ≤ c := by
    rw [BitVec.toNat_and, h1]
    exact Nat.and_le_right
  have e : rArith .and .u64 x (c : Int) = IntKind.u64.wrap (((BitVec.ofInt 64 x &&& BitVec.ofInt 64 (c : Int)).toNat : Nat) : Int) := rfl
  rw [e, wu64 (by omega) (by omega)]
  exact ⟨_, rfl, h2⟩
theorem subU {n : Nat} (h : 1 ≤ n) (h2 : n < 1099511627776) : rArith .sub .u64 (n : Int) 1 = ((n - 1 : Nat) : Int) := by
  have e : rArith .sub .u64 (n : Int) 1 = IntKind.u64.wrap ((n : Int) - 1) := rfl
  rw [e, wu64 (by omega) (by omega)]; omega
theorem convI {n : Nat} (h : n < 1099511627776) : rConv .i64 (n : Int) = (n : Int) := w64 (by omega) (by omega)
section
variable {α : Type} [Inhabited α] {lt : α → α → Bool}
theorem brk_loop (a len m last : Nat) (b : Nat) (hlen : b = a + len) (h8 : 8 ≤ len) (hm1 : 1 ≤ m) (hm2 : m ≤ 2 * len) (hlast : last = a + len / 4 * 2 + 1) :
    ∀ (k idx : Nat) (r : Int) (d : Array α) (n : Nat), last + 1 - idx ≤ k → a ≤ idx → b ≤ d.size → d.size ≤ 255 → idx ≤ 300 → k < n → ∃ d', iter (g_breakPatterns_b0 lt ((a : Int), (len : Int), (m : Int), ())) n (d.toList, r, (idx : Int), ()) = some (.inl (d'.toList, ())) ∧ PermIn a b d d' := by
  have z : rIsZero (4 : Int) = false := rfl
  intro k
  induction k with
  | zero =>
    intro idx r d n hk ha hb hd hi hn
    obtain ⟨n, rfl⟩ : ∃ m, n = m + 1 := ⟨n - 1, by omega⟩
    refine ⟨d, iter_done ?_, permIn_refl d a b⟩
    have e1 : rArith .quo .i64 (len : Int) (4 : Int) = ((len / 4 : Nat) : Int) := qS _ 4 (by omega)
    have e2 : rArith .mul .i64 ((len / 4 : Nat) : Int) (2 : Int) = ((len / 4 * 2 : Nat) : Int) := mS (m := 2) (by omega)
    have e3 : rArith .add .i64 (a : Int) ((len / 4 * 2 : Nat) : Int) = ((a + len / 4 * 2 : Nat) : Int) := aS (by omega)
    unfold g_breakPatterns_b0
    simp only [z, cond_false, e1, e2, e3, succ64 (n := a + len / 4 * 2) (by omega), leS, ← hlast]
    rw [decide_eq_false (by omega : ¬ idx ≤ last)]
    rfl
  | succ k ih =>
    intro idx r d n hk ha hb hd hi hn
    obtain ⟨n, rfl⟩ : ∃ m, n = m + 1 := ⟨n - 1, by omega⟩
    have e1 : rArith .quo .i64 (len : Int) (4 : Int) = ((len / 4 : Nat) : Int) := qS _ 4 (by omega)
    have e2 : rArith .mul .i64 ((len / 4 : Nat) : Int) (2 : Int) = ((len / 4 * 2 : Nat) : Int) := mS (m := 2) (by omega)
    have e3 : rArith .add .i64 (a : Int) ((len / 4 * 2 : Nat) : Int) = ((a + len / 4 * 2 : Nat) : Int) := aS (by omega)
    by_cases h : idx ≤ last
    · obtain ⟨v, hv⟩ := next_ok r
      obtain ⟨w, hw, hw2⟩ := andU v (c := m - 1) (by omega)
      have hib : idx < b := by omega
      by_cases hg : w ≥ len
      · have e4 : rArith .sub .i64 (w : Int) (len : Int) = ((w - len : Nat) : Int) := sS (by omega) (by omega)
        have e5 : rArith .add .i64 (a : Int) ((w - len : Nat) : Int) = ((a + (w - len) : Nat) : Int) := aS (by omega)
        obtain ⟨d', h1, h2⟩ := ih (idx + 1) v (swp d idx (a + (w - len))) n (by omega) (by omega) (by rw [size_swp]; omega) (by rw [size_swp]; omega) (by omega) (by omega)
        refine ⟨d', ?_, permIn_trans _ _ _ a b (swp_permIn d a b idx (a + (w - len)) ha hib (by omega) (by omega) hb) h2⟩
        rw [← h1]
        refine iter_next ?_
        unfold g_breakPatterns_b0
        simp only [z, cond_false, e1, e2, e3, succ64 (n := a + len / 4 * 2) (by omega), leS, ← hlast, h, decide_true, cond_true, hv, Option.bind_some, subU hm1 (by omega), hw, convI (n := w) (by omega), geS, hg, e4, e5, inA, gA, inP, show a + (w - len) < d.size by omega, show idx < d.size by omega, swA, lets_def, succ64 (n := idx) (by omega)]
      · have e5 : rArith .add .i64 (a : Int) (w : Int) = ((a + w : Nat) : Int) := aS (by omega)
        obtain ⟨d', h1, h2⟩ := ih (idx + 1) v (swp d idx (a + w)) n (by omega) (by omega) (by rw [size_swp]; omega) (by rw [size_swp]; omega) (by omega) (by omega)
        refine ⟨d', ?_, permIn_trans _ _ _ a b (swp_permIn d a b idx (a + w) ha hib (by omega) (by omega) hb) h2⟩
        rw [← h1]
        refine iter_next ?_
        unfold g_breakPatterns_b0
        simp only [z, cond_false, e1, e2, e3, succ64 (n := a + len / 4 * 2) (by omega), leS, ← hlast, h, decide_true, cond_true, hv, Option.bind_some, subU hm1 (by omega), hw, convI (n := w) (by omega), geS, hg, decide_false, e5, inA, gA, inP, show a + w < d.size by omega, show idx < d.size by omega, swA, lets_def, succ64 (n := idx) (by omega)]
    · refine ⟨d, iter_done ?_, permIn_refl d a b⟩
      unfold g_breakPatterns_b0
      simp only [z, cond_false, e1, e2, e3, succ64 (n := a + len / 4 * 2) (by omega), leS, ← hlast]
      rw [decide_eq_false h]
      rfl
theorem convU {n : Nat} (h : n < 1099511627776) : rConv .u64 (n : Int) = (n : Int) := wu64 (by omega) (by omega)
theorem spec_break (d : Array α) (a b : Nat) (hab : a + 12 < b) (hb : b ≤ d.size) (hd : d.size ≤ 255) : ∃ d', g_breakPatterns lt d.toList (a : Int) (b : Int) = some (d'.toList, ()) ∧ PermIn a b d d' := by
  have z : rIsZero (4 : Int) = false := rfl
  obtain ⟨m, hm, hm1, hm2⟩ := np_ok (n := b - a) (by omega) (by omega)
  obtain ⟨d', h1, h2⟩ := brk_loop (lt := lt) a (b - a) m (a + (b - a) / 4 * 2 + 1) b (by omega) (by omega) hm1 hm2 rfl 256 (a + (b - a) / 4 * 2 - 1) ((b - a : Nat) : Int) d big (by omega) (by omega) hb hd (by omega) (lt_big (by omega))
  refine ⟨d', ?_, h2⟩
  have e1 : rArith .sub .i64 (b : Int) (a : Int) = ((b - a : Nat) : Int) := sS (by omega) (by omega)
  have g8 : rCmp .geq ((b - a : Nat) : Int) (8 : Int) = true := (geS (b - a) 8).trans (decide_eq_true (by omega))
  have eq : rArith .quo .i64 ((b - a : Nat) : Int) (4 : Int) = (((b - a) / 4 : Nat) : Int) := qS _ 4 (by omega)
  have m2 : rArith .mul .i64 (((b - a) / 4 : Nat) : Int) (2 : Int) = (((b - a) / 4 * 2 : Nat) : Int) := mS (m := 2) (by omega)
  have a2 : rArith .add .i64 (a : Int) (((b - a) / 4 * 2 : Nat) : Int) = ((a + (b - a) / 4 * 2 : Nat) : Int) := aS (by omega)
  have s2 : rArith .sub .i64 ((a + (b - a) / 4 * 2 : Nat) : Int) 1 = ((a + (b - a) / 4 * 2 - 1 : Nat) : Int) := sS (m := 1) (by omega) (by omega)
  unfold g_breakPatterns g_breakPatterns_l0
  simp only [e1, g8, cond_true, hm, Option.bind_some, z, cond_false, eq, m2, a2, s2, convU (n := b - a) (by omega), h1, Sum.elim_inl]
abbrev PdqQ (α : Type) := Option (((List α) × Int × Int × Int × Bool × Bool × Unit) ⊕ ((List α) × Unit ⊕ Empty))
def RecOk (lt : α → α → Bool) (rec : (List α) → Int → Int → Int → Option ((List α) × Unit)) (M : Nat) : Prop :=
  ∀ (d : Array α) (a b : Nat) (L : Int), b - a < M → a ≤ b → b ≤ d.size → d.size ≤ 255 → Below lt a b d → ∃ d', rec d.toList (a : Int) (b : Int) L = some (d'.toList, ()) ∧ PermIn a b d d' ∧ SortedIn lt a b d'
def Next (lt : α → α → Bool) (q : PdqQ α) (d : Array α) (a b : Nat) : Prop :=
  (∃ R, q = some (.inr (.inl (R.toList, ()))) ∧ PermIn a b d R ∧ SortedIn lt a b R) ∨
  (∃ (E : Array α) (a' b' : Nat) (L : Int) (wb wp : Bool), q = some (.inl (E.toList, (a' : Int), (b' : Int), L, wb, wp, ())) ∧ E.size = d.size ∧ a' ≤ b' ∧ b' ≤ b ∧ b' - a' < b - a ∧ Below lt a' b' E ∧ ∀ R, PermIn a' b' E R → SortedIn lt a' b' R → PermIn a b d R ∧ SortedIn lt a b R)
theorem Next.mono {q : PdqQ α} {d D : Array α} {a b : Nat} (h : Next lt q D a b) (p : PermIn a b d D) : Next lt q d a b := by
  rcases h with ⟨R, h1, h2, h3⟩ | ⟨E, a', b', L, wb, wp, h1, h2, h3, h4, h5, h6, h7⟩
  · exact .inl ⟨R, h1, permIn_trans _ _ _ a b p h2, h3⟩
  · refine .inr ⟨E, a', b', L, wb, wp, h1, by rw [h2, p.1], h3, h4, h5, h6, fun R hR hs => ?_⟩
    obtain ⟨k1, k2⟩ := h7 R hR hs
    exact ⟨permIn_trans _ _ _ a b p k1, k2⟩
def g_part (lt : α → α → Bool) (rec : (List α) → Int → Int → Int → Option ((List α) × Unit)) (a b L : Int) (D : List α) (P : Int) : PdqQ α :=
  ((g_partition lt D a b P).bind fun y1 => (bif (rIsZero (8 : Int)) then none else (bif (rCmp .lss (rArith .sub .i64 y1.1 a) (rArith .sub .i64 b y1.1)) then ((rec y1.2.2.1 a y1.1 L).bind fun y2 => some (.inl (y2.1, (rArith .add .i64 y1.1 (1 : Int)), b, L, (rCmp .geq (rArith .sub .i64 y1.1 a) (rArith .quo .i64 (rArith .sub .i64 b a) (8 : Int))), y1.2.1, ()))) else ((rec y1.2.2.1 (rArith .add .i64 y1.1 (1 : Int)) b L).bind fun y2 => some (.inl (y2.1, a, y1.1, L, (rCmp .geq (rArith .sub .i64 b y1.1) (rArith .quo .i64 (rArith .sub .i64 b a) (8 : Int))), y1.2.1, ()))))))
def g_tail (lt : α → α → Bool) (rec : (List α) → Int → Int → Int → Option ((List α) × Unit)) (a b L : Int) (wb wp : Bool) (D : List α) (P : Int) : PdqQ α :=
  (bif (rCmp .gtr a (0 : Int)) then (bif (rInR D (rArith .sub .i64 a (1 : Int))) then (bif (rInR D P) then ((some (lt (rGet default D (rArith .sub .i64 a (1 : Int))) (rGet default D P), ())).bind fun y1 => (bif (Bool.not y1.1) then ((g_partitionEqual lt D a b P).bind fun y2 => some (.inl (y2.2.1, y2.1, b, L, wb, wp, ()))) else g_part lt rec a b L D P)) else none) else none) else g_part lt rec a b L D P)
theorem part_ok (h : SWO lt) {rec : (List α) → Int → Int → Int → Option ((List α) × Unit)} {M : Nat} (hrec : RecOk lt rec M) (D : Array α) (a b p : Nat) (L : Int) (hab : a < b) (hb : b ≤ D.size) (hd : D.size ≤ 255) (hB : Below lt a b D) (hp1 : a ≤ p) (hp2 : p < b) (hM : b - a ≤ M) :
    Next lt (g_part lt rec (a : Int) (b : Int) L D.toList (p : Int)) D a b := by
  have z : rIsZero (8 : Int) = false := rfl
  have hsim := sim_part (lt := lt) D a b p hab hb hd (by omega)
  have hrp := round_part h (partition_holds lt) hp1 hp2 hb hB (mid := (partition lt D a b p).1) (ap := (partition lt D a b p).2.1) (d4 := (partition lt D a b p).2.2) rfl
  generalize (partition lt D a b p).1 = mid at hsim hrp
  generalize (partition lt D a b p).2.1 = ap at hsim hrp
  generalize (partition lt D a b p).2.2 = d4 at hsim hrp
  obtain ⟨g1, g2, hs4, hBa, hBr, hleft, hright⟩ := hrp
  unfold g_part
  have e1 : rArith .sub .i64 (mid : Int) (a : Int) = ((mid - a : Nat) : Int) := sS (by omega) (by omega)
  have e2 : rArith .sub .i64 (b : Int) (mid : Int) = ((b - mid : Nat) : Int) := sS (by omega) (by omega)
  have e3 : rArith .add .i64 (mid : Int) 1 = ((mid + 1 : Nat) : Int) := succ64 (by omega)
  simp only [hsim, Option.bind_some, z, cond_false, e1, e2, e3, ltS]
  by_cases hlt : mid - a < b - mid
  · obtain ⟨L1, hL, l1, l2⟩ := hrec d4 a mid L (by omega) g1 (by omega) (by omega) hBa
    obtain ⟨hBL, hfin⟩ := hleft L1 l1 l2
    simp only [hlt, decide_true, cond_true, hL, Option.bind_some]
    exact .inr ⟨L1, mid + 1, b, _, _, _, rfl, by rw [l1.1, hs4], by omega, Nat.le_refl _, by omega, hBL, hfin⟩
  · obtain ⟨L1, hL, l1, l2⟩ := hrec d4 (mid + 1) b L (by omega) (by omega) (by omega) (by omega) hBr
    obtain ⟨hBL, hfin⟩ := hright L1 l1 l2
    simp only [hlt, decide_false, cond_false, hL, Option.bind_some]
    exact .inr ⟨L1, a, mid, _, _, _, rfl, by rw [l1.1, hs4], by omega, by omega, by omega, hBL, hfin⟩
theorem tail_ok (h : SWO lt) {rec : (List α) → Int → Int → Int → Option ((List α) × Unit)} {M : Nat} (hrec : RecOk lt rec M) (D : Array α) (a b p : Nat) (L : Int) (wb wp : Bool) (hab : a < b) (hb : b ≤ D.size) (hd : D.size ≤ 255) (hB : Below lt a b D) (hp1 : a ≤ p) (hp2 : p < b) (hM : b - a ≤ M) :
    Next lt (g_tail lt rec (a : Int) (b : Int) L wb wp D.toList (p : Int)) D a b := by
  have hpart := part_ok h hrec D a b p L hab hb hd hB hp1 hp2 hM
  unfold g_tail
  by_cases h0 : a > 0
  · have g0 : rCmp .gtr (a : Int) (0 : Int) = true := (gtS a 0).trans (decide_eq_true h0)
    have e1 : rArith .sub .i64 (a : Int) 1 = ((a - 1 : Nat) : Int) := sS (m := 1) (by omega) (by omega)
    simp only [g0, cond_true, e1, inA, gA, show a - 1 < D.size by omega, show p < D.size by omega, decide_true, Option.bind_some]
    cases hl : lt D[a - 1]! D[p]! with
    | true => exact hpart
    | false =>
      have hsim := sim_parteq (lt := lt) D a b p hab hb hd (by omega)
      have hrp := round_eq h (partitionEqual_holds lt) h0 hp1 hp2 hb hB hl (mid := (partitionEqual lt D a b p).1) (d4 := (partitionEqual lt D a b p).2) rfl
      generalize (partitionEqual lt D a b p).1 = mid at hsim hrp
      generalize (partitionEqual lt D a b p).2 = d4 at hsim hrp
      obtain ⟨hm1, hm2, hs4, hB4, hfin⟩ := hrp
      simp only [Bool.not_false, cond_true, hsim, Option.bind_some]
      exact .inr ⟨d4, mid, b, _, _, _, rfl, hs4, hm2, Nat.le_refl _, by omega, hB4, hfin⟩
  · have g0 : rCmp .gtr (a : Int) (0 : Int) = false := (gtS a 0).trans (decide_eq_false h0)
    simp only [g0, cond_false]
    exact hpart
def g_mid (lt : α → α → Bool) (rec : (List α) → Int → Int → Int → Option ((List α) × Unit)) (a b L : Int) (wb wp : Bool) (D : List α) (P : Int) : PdqQ α :=
  ((g_partialInsertionSort lt D a b).bind fun y3 => (bif y3.1 then some (.inr (.inl (y3.2.1, ()))) else g_tail lt rec a b L wb wp y3.2.1 P))
theorem mid_ok (h : SWO lt) {rec : (List α) → Int → Int → Int → Option ((List α) × Unit)} {M : Nat} (hrec : RecOk lt rec M) (D : Array α) (a b p : Nat) (L : Int) (wb wp : Bool) (hab : a < b) (hb : b ≤ D.size) (hd : D.size ≤ 255) (hB : Below lt a b D) (hp1 : a ≤ p) (hp2 : p < b) (hM : b - a ≤ M) :
    Next lt (g_mid lt rec (a : Int) (b : Int) L wb wp D.toList (p : Int)) D a b := by
  have hsim := sim_partial (lt := lt) D a b hab hb hd
  obtain ⟨k1, k2⟩ := partialInsertionSort_holds h D a b hab hb hB
  unfold g_mid
  generalize (partialInsertionSort lt D a b).1 = D3 at hsim k1 k2
  generalize (partialInsertionSort lt D a b).2 = fl at hsim k1 k2
  simp only [hsim, Option.bind_some]
  cases fl with
  | true => exact .inl ⟨D3, rfl, k1, k2 rfl⟩
  | false => exact (tail_ok h hrec D3 a b p L wb wp hab (by rw [k1.1]; exact hb) (by rw [k1.1]; exact hd) (hB.perm hb k1) hp1 hp2 hM).mono k1
theorem round_ok (h : SWO lt) {rec : (List α) → Int → Int → Int → Option ((List α) × Unit)} {M : Nat} (hrec : RecOk lt rec M) (d : Array α) (a b : Nat) (L : Int) (wb wp : Bool) (hab : a ≤ b) (hb : b ≤ d.size) (hd : d.size ≤ 255) (hB : Below lt a b d) (hM : b - a ≤ M) :
    Next lt (g_pdqsort_b0 lt rec () (d.toList, (a : Int), (b : Int), L, wb, wp, ())) d a b := by
  have e1 : rArith .sub .i64 (b : Int) (a : Int) = ((b - a : Nat) : Int) := sS (by omega) (by omega)
  have eb : rArith .sub .i64 (b : Int) 1 = ((b - 1 : Nat) : Int) ∨ b = 0 := by
    by_cases h0 : b = 0
    · exact .inr h0
    · exact .inl (sS (m := 1) (by omega) (by omega))
  by_cases h12 : b - a ≤ 12
  · have g : rCmp .leq ((b - a : Nat) : Int) (12 : Int) = true := (leS (b - a) 12).trans (decide_eq_true h12)
    unfold g_pdqsort_b0
    simp only [e1, g, cond_true, sim_ins (lt := lt) d a b hab hb hd, Option.bind_some]
    have := insertionSort_holds h d a b hab hb
    exact .inl ⟨_, rfl, this.1, this.2⟩
  · have g : rCmp .leq ((b - a : Nat) : Int) (12 : Int) = false := (leS (b - a) 12).trans (decide_eq_false h12)
    cases hL : rCmp .eql L (0 : Int) with
    | true =>
      unfold g_pdqsort_b0
      simp only [e1, g, cond_false, hL, cond_true, sim_heap (lt := lt) d a b (by omega) hb hd, Option.bind_some]
      have := heapSort_holds h d a b hab hb
      exact .inl ⟨_, rfl, this.1, this.2⟩
    | false =>
      have eb := eb.resolve_right (by omega)
      have ePv : ∀ p : Nat, a ≤ p → p < b → rArith .sub .i64 ((b - 1 : Nat) : Int) (rArith .sub .i64 (p : Int) (a : Int)) = (((b - 1) - (p - a) : Nat) : Int) := by
        intro p h1 h2
        rw [sS (n := p) (m := a) h1 (by omega), sS (by omega) (by omega)]
      cases wb with
      | false =>
        obtain ⟨d1, hbr, p1⟩ := spec_break (lt := lt) d a b (by omega) hb hd
        have b1 : b ≤ d1.size := by rw [p1.1]; exact hb
        have s1 : d1.size ≤ 255 := by rw [p1.1]; exact hd
        have B1 := hB.perm hb p1
        obtain ⟨p, hh, hch, hp1, hp2⟩ := spec_choose (lt := lt) d1 a b (by omega) b1 s1
        cases hr2 : rCmp .eql hh (2 : Int) with
        | true =>
          obtain ⟨d2, hrv, p2⟩ := spec_rev (lt := lt) d1 a b (by omega) b1 s1
          have := (tail_ok h hrec d2 a b ((b - 1) - (p - a)) (rArith .sub .i64 L 1) false wp (by omega) (by rw [p2.1]; exact b1) (by rw [p2.1]; exact s1) (B1.perm b1 p2) (by omega) (by omega) hM).mono (permIn_trans _ _ _ a b p1 p2)
          unfold g_pdqsort_b0
          simp only [e1, g, cond_false, hL, Bool.not_false, cond_true, hbr, Option.bind_some, hch, hr2, hrv, eb, ePv p hp1 hp2]
          simp only [g_tail, g_part, e1, Option.bind_some] at this
          exact this
        | false =>
          have := (tail_ok h hrec d1 a b p (rArith .sub .i64 L 1) false wp (by omega) b1 s1 B1 hp1 hp2 hM).mono p1
          unfold g_pdqsort_b0
          simp only [e1, g, cond_false, hL, Bool.not_false, cond_true, hbr, Option.bind_some, hch, hr2]
          simp only [g_tail, g_part, e1, Option.bind_some] at this
          exact this
      | true =>
        obtain ⟨p, hh, hch, hp1, hp2⟩ := spec_choose (lt := lt) d a b (by omega) hb hd
        cases hr2 : rCmp .eql hh (2 : Int) with
        | true =>
          obtain ⟨d2, hrv, p2⟩ := spec_rev (lt := lt) d a b (by omega) hb hd
          have hb2 : b ≤ d2.size := by rw [p2.1]; exact hb
          have hs2 : d2.size ≤ 255 := by rw [p2.1]; exact hd
          cases wp with
          | true =>
            have := (mid_ok h hrec d2 a b ((b - 1) - (p - a)) L true true (by omega) hb2 hs2 (hB.perm hb p2) (by omega) (by omega) hM).mono p2
            unfold g_pdqsort_b0
            simp only [e1, g, cond_false, hL, Bool.not_true, cond_true, Option.bind_some, hch, hr2, hrv, eb, ePv p hp1 hp2, show rCmp .eql (1 : Int) (1 : Int) = true from rfl]
            simp only [g_mid, g_tail, g_part, e1, Option.bind_some] at this
            exact this
          | false =>
            have := (tail_ok h hrec d2 a b ((b - 1) - (p - a)) L true false (by omega) hb2 hs2 (hB.perm hb p2) (by omega) (by omega) hM).mono p2
            unfold g_pdqsort_b0
            simp only [e1, g, cond_false, hL, Bool.not_true, cond_true, Option.bind_some, hch, hr2, hrv, eb, ePv p hp1 hp2]
            simp only [g_tail, g_part, e1, Option.bind_some] at this
            exact this
        | false =>
          cases wp with
          | true =>
            cases hr1 : rCmp .eql hh (1 : Int) with
            | true =>
              have := mid_ok h hrec d a b p L true true (by omega) hb hd hB hp1 hp2 hM
              unfold g_pdqsort_b0
              simp only [e1, g, cond_false, hL, Bool.not_true, cond_true, Option.bind_some, hch, hr2, hr1]
              simp only [g_mid, g_tail, g_part, e1, Option.bind_some] at this
              exact this
            | false =>
              have := tail_ok h hrec d a b p L true true (by omega) hb hd hB hp1 hp2 hM
              unfold g_pdqsort_b0
              simp only [e1, g, cond_false, hL, Bool.not_true, cond_true, Option.bind_some, hch, hr2, hr1]
              simp only [g_tail, g_part, e1, Option.bind_some] at this
              exact this
          | false =>
            have := tail_ok h hrec d a b p L true false (by omega) hb hd hB hp1 hp2 hM
            unfold g_pdqsort_b0
            simp only [e1, g, cond_false, hL, Bool.not_true, cond_true, Option.bind_some, hch, hr2]
            simp only [g_tail, g_part, e1, Option.bind_some] at this
            exact this
theorem pdq_loop (h : SWO lt) {rec : (List α) → Int → Int → Int → Option ((List α) × Unit)} {M : Nat} (hrec : RecOk lt rec M) : ∀ (k : Nat) (d : Array α) (a b : Nat) (L : Int) (wb wp : Bool) (n : Nat), b - a ≤ k → b - a ≤ M → k < n → a ≤ b → b ≤ d.size → d.size ≤ 255 → Below lt a b d →
    ∃ d', iter (g_pdqsort_b0 lt rec ()) n (d.toList, (a : Int), (b : Int), L, wb, wp, ()) = some (.inl (d'.toList, ())) ∧ PermIn a b d d' ∧ SortedIn lt a b d' := by
  intro k
  induction k with
  | zero =>
    intro d a b L wb wp n hk hM hn hab hb hd hB
    obtain ⟨n, rfl⟩ : ∃ m, n = m + 1 := ⟨n - 1, by omega⟩
    rcases round_ok h hrec d a b L wb wp hab hb hd hB hM with ⟨R, h1, h2, h3⟩ | ⟨E, a', b', L', wb', wp', h1, h2, h3, h4, h5, h6, h7⟩
    · exact ⟨R, iter_done h1, h2, h3⟩
    · omega
  | succ k ih =>
    intro d a b L wb wp n hk hM hn hab hb hd hB
    obtain ⟨n, rfl⟩ : ∃ m, n = m + 1 := ⟨n - 1, by omega⟩
    rcases round_ok h hrec d a b L wb wp hab hb hd hB hM with ⟨R, h1, h2, h3⟩ | ⟨E, a', b', L', wb', wp', h1, h2, h3, h4, h5, h6, h7⟩
    · exact ⟨R, iter_done h1, h2, h3⟩
    · obtain ⟨d', k1, k2, k3⟩ := ih E a' b' L' wb' wp' n (by omega) (by omega) (by omega) h3 (by omega) (by omega) h6
      exact ⟨d', by rw [iter_next h1]; exact k1, h7 d' k2 k3⟩
theorem pdq_f (h : SWO lt) : ∀ F, RecOk lt (g_pdqsort_f lt F) F := by
  intro F
  induction F with
  | zero => intro d a b L hF; omega
  | succ F ih =>
    intro d a b L hF hab hb hd hB
    obtain ⟨d', h1, h2, h3⟩ := pdq_loop h ih 256 d a b L true true big (by omega) (by omega) (lt_big (by omega)) hab hb hd hB
    refine ⟨d', ?_, h2, h3⟩
    unfold g_pdqsort_f g_pdqsort_r g_pdqsort_l0
    rw [h1]
    rfl
/-- Sorted, and the same elements. -/
theorem pdq_all (h : SWO lt) (l : List α) (L : Int) (hl : l.length ≤ 255) : ∃ r : List α, g_pdqsort lt l (0 : Int) (l.length : Int) L = some (r, ()) ∧ r.Perm l ∧ ∀ i j, i < j → j < r.length → lt (r.getD j default) (r.getD i default) = false := by
  obtain ⟨d', h1, h2, h3⟩ := pdq_f h big l.toArray 0 l.length L (lt_big (by omega)) (by omega) (by simp) (by simpa using hl) (.inl rfl)
  have hsz : d'.size = l.length := by rw [h2.1]; simp
  refine ⟨d'.toList, h1, ?_, fun i j hij hj => ?_⟩
  · have := h2.2.2
    rw [show d'.extract 0 l.length = d' by rw [← hsz]; exact Array.extract_size, show l.toArray.extract 0 l.length = l.toArray by rw [show l.length = l.toArray.size by simp]; exact Array.extract_size] at this
    exact this
  · have := h3 i j (by omega) hij (by rw [Array.length_toList] at hj; omega)
    rw [← gA, ← gA, get_nat, get_nat] at this
    exact this
end
end Go.Fn
set_option linter.unusedSimpArgs false
set_option linter.unusedVariables false
namespace Go.Fn
open Go.R Go.Sort
def ltE (x y : Ev) : Bool := decide (x.1 < y.1) || (decide (x.1 = y.1) && decide (x.2.1 < y.2.1))
end Go.Fn
set_option linter.unusedSimpArgs false
set_option linter.unusedVariables false
namespace Go.Fn
open Go.R Go.Sort
theorem ltE_iff {x y : Ev} : ltE x y = true ↔ x.1 < y.1 ∨ (x.1 = y.1 ∧ x.2.1 < y.2.1) := by
  unfold ltE; simp
theorem ltE_tr {x y z : Ev} (h1 : ltE x y = true) (h2 : ltE y z = true) : ltE x z = true := by rw [ltE_iff] at *; omega
abbrev Srt (l : List Ev) : Prop := l.Pairwise fun x y => ltE x y = true
theorem srt_adj : ∀ (l : List Ev), (∀ n, n + 1 < l.length → ltE (l.getD n zIIIIIII) (l.getD (n + 1) zIIIIIII) = true) → Srt l
  | [], _ => List.Pairwise.nil
  | [x], _ => List.pairwise_singleton _ _
  | x :: y :: l, h => by
    have ih := srt_adj (y :: l) (fun n hn => h (n + 1) (by simpa using hn))
    have hxy : ltE x y = true := h 0 (by simp)
    refine List.Pairwise.cons (fun z hz => ?_) ih
    rcases List.mem_cons.1 hz with rfl | hz
    · exact hxy
    · exact ltE_tr hxy ((List.pairwise_cons.1 ih).1 z hz)
theorem jok_srt {l : List Ev} (h : jok l = true) : Srt l := by
  refine srt_adj l fun n hn => ?_
  have := jok_at h hn
  simp only [jokAt, Bool.and_eq_true, ordOk, Bool.not_eq_true', Bool.or_eq_false_iff, Bool.and_eq_false_iff, decide_eq_false_iff_not] at this
  rw [ltE_iff]
  omega
end Go.Fn
set_option linter.unusedSimpArgs false
set_option linter.unusedVariables false
namespace Go.Fn
open Go.R Go.Sort
theorem len_all : (List.range 256).all (fun n => (math_bits_Len (n : Int)).isSome) = true := by decide +kernel
theorem len_ok {n : Nat} (h : n ≤ 255) : ∃ L, math_bits_Len (n : Int) = some (L, ()) := by
  have h1 := List.all_eq_true.1 len_all n (List.mem_range.2 (by omega))
  obtain ⟨⟨L, u⟩, hL⟩ := Option.isSome_iff_exists.1 h1
  exact ⟨L, hL⟩
end Go.Fn
set_option linter.unusedSimpArgs false
set_option linter.unusedVariables false
namespace Go.Fn
open Go.R Go.Sort
def ordE (x y : Ev) : Prop := ltE x y = true ∧ (x.1 = y.1 → x.2.2.1 < y.2.2.1)
theorem ordE_tr {x y z : Ev} (h1 : ordE x y) (h2 : ordE y z) : ordE x z := by
  obtain ⟨a1, a2⟩ := h1
  obtain ⟨b1, b2⟩ := h2
  refine ⟨ltE_tr a1 b1, fun h => ?_⟩
  rw [ltE_iff] at a1 b1
  have := a2 (by omega)
  have := b2 (by omega)
  omega
theorem ordOk_iff {x y : Ev} : ordOk x y = true ↔ ordE x y := by
  unfold ordE
  simp only [ordOk, Bool.not_eq_true', Bool.or_eq_false_iff, Bool.and_eq_false_iff, decide_eq_false_iff_not, ltE_iff]
  omega
theorem pair_adj {R : Ev → Ev → Prop} (tr : ∀ x y z, R x y → R y z → R x z) : ∀ (l : List Ev), (∀ n, n + 1 < l.length → R (l.getD n zIIIIIII) (l.getD (n + 1) zIIIIIII)) → l.Pairwise R
  | [], _ => List.Pairwise.nil
  | [x], _ => List.pairwise_singleton _ _
  | x :: y :: l, h => by
    have ih := pair_adj tr (y :: l) (fun n hn => h (n + 1) (by simpa using hn))
    have hxy : R x y := h 0 (by simp)
    refine List.Pairwise.cons (fun z hz => ?_) ih
    rcases List.mem_cons.1 hz with rfl | hz
    · exact hxy
    · exact tr _ _ _ hxy ((List.pairwise_cons.1 ih).1 z hz)
theorem getD_eq {α : Type} {l : List α} {n : Nat} (h : n < l.length) (z : α) : l.getD n z = l[n] := by
  rw [List.getD_eq_getElem?_getD, List.getElem?_eq_getElem h]; rfl
theorem jok_iff {l : List Ev} : jok l = true ↔ l.length ≤ 60 ∧ (∀ x, x ∈ l → evOk x = true) ∧ l.Pairwise ordE := by
  constructor
  · intro h
    refine ⟨jok_len h, fun x hx => ?_, pair_adj (R := ordE) (fun _ _ _ h1 h2 => ordE_tr h1 h2) l fun n hn => ?_⟩
    · obtain ⟨n, hn, rfl⟩ := List.getElem_of_mem hx
      have := jok_ev h hn
      rwa [getD_eq hn] at this
    · have := jok_at h hn
      simp only [jokAt, Bool.and_eq_true] at this
      exact ordOk_iff.1 this.2
  · intro ⟨h1, h2, h3⟩
    unfold jok
    rw [decide_eq_false (by omega)]
    refine (allFrom_iff _ _).2 fun m _ hm => ?_
    rw [Nat.zero_add] at hm
    cases m with
    | zero => exact h2 _ (getD_mem hm _)
    | succ m =>
      simp only [jokAt, Bool.and_eq_true]
      refine ⟨h2 _ (getD_mem hm _), ordOk_iff.2 ?_⟩
      rw [getD_eq hm, getD_eq (show m < l.length by omega)]
      exact List.pairwise_iff_getElem.1 h3 m (m + 1) (by omega) hm (by omega)
theorem jok_all {l : List Ev} (h : jok l = true) : ∀ x, x ∈ l → evOk x = true := (jok_iff.1 h).2.1
def aStep (node : Int) (s : Int × Int × Nat × Nat) (x : Ev) : Int × Int × Nat × Nat :=
  ((bif decide (x.1 = node) then x.2.1 + 1 else s.1), max s.2.1 (x.2.2.1 + 1), (bif decide (x.1 ≤ node) then s.2.2.2 + 1 else s.2.2.1), s.2.2.2 + 1)
def aRun (l : List Ev) (node : Int) : Int × Int × Nat × Nat := l.foldl (aStep node) (1, 1, 0, 0)
def newE (l : List Ev) (node kind parcel a b : Int) : Ev := (node, (aRun l node).1, (aRun l node).2.1, kind, parcel, a, b)
def withE (l : List Ev) (node kind parcel a b : Int) : List Ev := l.take (aRun l node).2.2.1 ++ [newE l node kind parcel a b] ++ l.drop (aRun l node).2.2.1
def addEv (l : List Ev) (node kind parcel a b : Int) : List Ev × Bool := bif jok l then bif jok (withE l node kind parcel a b) then (withE l node kind parcel a b, true) else (l, false) else (l, false)
structure AInv (node : Int) (p : List Ev) (s : Int × Int × Nat × Nat) : Prop where
  c : s.2.2.2 = p.length
  at_le : s.2.2.1 ≤ p.length
  s1 : ∀ x, x ∈ p → x.1 = node → x.2.1 < s.1
  s2 : s.1 = 1 ∨ ∃ x, x ∈ p ∧ x.1 = node ∧ s.1 = x.2.1 + 1
  p1 : ∀ x, x ∈ p → x.2.2.1 < s.2.1
  p2 : s.2.1 = 1 ∨ ∃ x, x ∈ p ∧ s.2.1 = x.2.2.1 + 1
  a1 : ∀ x, x ∈ p.take s.2.2.1 → x.1 ≤ node
  a2 : ∀ x, x ∈ p.drop s.2.2.1 → node < x.1
theorem aInv_step {node : Int} {p : List Ev} {s : Int × Int × Nat × Nat} {x : Ev} (h : AInv node p s) (hp : Srt (p ++ [x])) : AInv node (p ++ [x]) (aStep node s x) := by
  have hlt : ∀ y, y ∈ p → ltE y x = true := fun y hy => (List.pairwise_append.1 hp).2.2 y hy x (List.mem_singleton.2 rfl)
  obtain ⟨h1, h2, h3, h4, h5, h6, h7, h8⟩ := h
  unfold aStep
  refine ⟨by simp [h1], ?_, fun y hy hn => ?_, ?_, fun y hy => ?_, ?_, ?_, ?_⟩
  · cases decide (x.1 ≤ node) <;> simp <;> omega
  · simp only []
    rcases List.mem_append.1 hy with hy | hy
    · by_cases hx : x.1 = node
      · rw [decide_eq_true hx]
        have := hlt y hy
        rw [ltE_iff] at this
        simp only [cond_true]; omega
      · rw [decide_eq_false hx]
        exact h3 y hy hn
    · rw [List.mem_singleton] at hy
      subst hy
      rw [decide_eq_true hn]
      simp only [cond_true]; omega
  · simp only []
    by_cases hx : x.1 = node
    · rw [decide_eq_true hx]
      exact .inr ⟨x, by simp, hx, rfl⟩
    · rw [decide_eq_false hx]
      rcases h4 with h4 | ⟨y, hy, h4⟩
      · exact .inl h4
      · exact .inr ⟨y, List.mem_append_left _ hy, h4⟩
  · simp only []
    rcases List.mem_append.1 hy with hy | hy
    · have := h5 y hy; omega
    · rw [List.mem_singleton] at hy
      subst hy; omega
  · simp only []
    by_cases hm : s.2.1 ≤ x.2.2.1 + 1
    · exact .inr ⟨x, by simp, by omega⟩
    · rcases h6 with h6 | ⟨y, hy, h6⟩
      · exact .inl (by omega)
      · exact .inr ⟨y, List.mem_append_left _ hy, by omega⟩
  · simp only []
    by_cases hx : x.1 ≤ node
    · rw [decide_eq_true hx]
      intro y hy
      rw [cond_true, h1, List.take_of_length_le (by simp)] at hy
      rcases List.mem_append.1 hy with hy | hy
      · have := hlt y hy; rw [ltE_iff] at this; omega
      · rw [List.mem_singleton] at hy; subst hy; exact hx
    · rw [decide_eq_false hx]
      intro y hy
      rw [cond_false, List.take_append_of_le_length h2] at hy
      exact h7 y hy
  · simp only []
    by_cases hx : x.1 ≤ node
    · rw [decide_eq_true hx]
      intro y hy
      rw [cond_true, h1, List.drop_of_length_le (by simp)] at hy
      exact absurd hy List.not_mem_nil
    · rw [decide_eq_false hx]
      intro y hy
      rw [cond_false, List.drop_append_of_le_length h2] at hy
      rcases List.mem_append.1 hy with hy | hy
      · exact h8 y hy
      · rw [List.mem_singleton] at hy; subst hy; omega
theorem aInv_run (node : Int) : ∀ (l p : List Ev) (s : Int × Int × Nat × Nat), Srt (p ++ l) → AInv node p s → AInv node (p ++ l) (l.foldl (aStep node) s)
  | [], p, s, _, h => by simpa using h
  | x :: l, p, s, hp, h => by
    have e : p ++ x :: l = (p ++ [x]) ++ l := by simp
    rw [e] at hp ⊢
    exact aInv_run node l (p ++ [x]) (aStep node s x) hp (aInv_step h (List.pairwise_append.1 hp).1)
theorem aRun_inv (node : Int) {l : List Ev} (h : Srt l) : AInv node l (aRun l node) := by
  have := aInv_run node l [] (1, 1, 0, 0) (by simpa using h) ⟨rfl, Nat.le_refl _, fun x hx => absurd hx List.not_mem_nil, .inl rfl, fun x hx => absurd hx List.not_mem_nil, .inl rfl, fun x hx => absurd (List.mem_of_mem_take hx) List.not_mem_nil, fun x hx => absurd (List.mem_of_mem_drop hx) List.not_mem_nil⟩
  exact this
theorem withE_mem {l : List Ev} {node kind parcel a b : Int} (z : Ev) : z ∈ withE l node kind parcel a b ↔ z = newE l node kind parcel a b ∨ z ∈ l := by
  unfold withE
  rw [List.mem_append, List.mem_append, List.mem_singleton]
  constructor
  · rintro ((h | h) | h)
    · exact .inr (List.mem_of_mem_take h)
    · exact .inl h
    · exact .inr (List.mem_of_mem_drop h)
  · rintro (h | h)
    · exact .inl (.inr h)
    · rw [← List.take_append_drop (aRun l node).2.2.1 l, List.mem_append] at h
      rcases h with h | h
      · exact .inl (.inl h)
      · exact .inr h
theorem withE_len {l : List Ev} (h : Srt l) (node kind parcel a b : Int) : (withE l node kind parcel a b).length = l.length + 1 := by
  have := (aRun_inv node h).at_le
  unfold withE
  simp only [List.length_append, List.length_take, List.length_drop, List.length_singleton]
  omega
end Go.Fn
set_option linter.unusedSimpArgs false
set_option linter.unusedVariables false
namespace Go.Fn
open Go.R Go.Sort
/-- What drawn journals are: n bounds events and stamps, base is in it, the others are of nodes S. -/
structure JInv (n : Nat) (base : List Ev) (S : Int → Prop) (l : List Ev) : Prop where
  j : jok l = true
  len : l.length ≤ n
  st : ∀ x, x ∈ l → x.2.2.1 ≤ (n : Int)
  gap : ∀ x, x ∈ l → ∀ s : Int, 1 ≤ s → s ≤ x.2.1 → ∃ y, y ∈ l ∧ y.1 = x.1 ∧ y.2.1 = s
  sub : ∀ x, x ∈ base → x ∈ l
  new : ∀ x, x ∈ l → x ∈ base ∨ S x.1
theorem JInv.mono {n m : Nat} {base : List Ev} {S : Int → Prop} {l : List Ev} (h : JInv n base S l) (hm : n ≤ m) : JInv m base S l :=
  ⟨h.j, by have := h.len; omega, fun x hx => by have := h.st x hx; omega, h.gap, h.sub, h.new⟩
theorem JInv.add {n : Nat} {base : List Ev} {S : Int → Prop} {l : List Ev} (h : JInv n base S l) {node : Int} (hS : S node) (kind parcel a b : Int) : JInv (n + 1) base S (addEv l node kind parcel a b).1 := by
  unfold addEv
  rw [h.j]
  simp only [cond_true]
  cases hw : jok (withE l node kind parcel a b) with
  | false => exact h.mono (Nat.le_succ _)
  | true =>
    have hs := jok_srt h.j
    have hi := aRun_inv node hs
    simp only [cond_true]
    refine ⟨hw, by rw [withE_len hs]; have := h.len; omega, fun x hx => ?_, fun x hx s h1 h2 => ?_, fun x hx => (withE_mem x).2 (.inr (h.sub x hx)), fun x hx => ?_⟩
    · rcases (withE_mem x).1 hx with e | e
      · rw [e]
        show (aRun l node).2.1 ≤ _
        rcases hi.p2 with p | ⟨y, hy, p⟩
        · rw [p]; omega
        · rw [p]; have := h.st y hy; omega
      · have := h.st x e; omega
    · rcases (withE_mem x).1 hx with e | e
      · subst e
        have h2 : s ≤ (aRun l node).1 := h2
        by_cases e : s = (aRun l node).1
        · exact ⟨_, hx, rfl, e.symm⟩
        · rcases hi.s2 with p | ⟨y, hy, q, p⟩
          · omega
          · obtain ⟨z, hz, e1, e2⟩ := h.gap y hy s h1 (by omega)
            exact ⟨z, (withE_mem z).2 (.inr hz), by rw [e1, q]; rfl, e2⟩
      · obtain ⟨z, hz, e1, e2⟩ := h.gap x e s h1 h2
        exact ⟨z, (withE_mem z).2 (.inr hz), e1, e2⟩
    · rcases (withE_mem x).1 hx with e | e
      · rw [e]; exact .inr hS
      · exact h.new x e
end Go.Fn
set_option linter.unusedSimpArgs false
set_option linter.unusedVariables false
namespace Go.Fn
open Go.R Go.Sort
/-- Each place holds an event's number. -/
abbrev Oks (l : List Ev) (d : Array Int) : Prop := ∀ k, k < d.size → 0 ≤ d[k]! ∧ d[k]! < l.length
theorem Oks.perm {l : List Ev} {d d' : Array Int} {a b : Nat} (h : Oks l d) (hb : b ≤ d.size) (hp : PermIn a b d d') : Oks l d' := by
  have h0 := permIn_mono d d' a b 0 d.size (Nat.zero_le _) hb (Nat.le_refl _) hp
  have := permIn_all d d' 0 d.size (fun x => 0 ≤ x ∧ x < l.length) (Nat.le_refl _) h0 (fun i _ hi => h i hi)
  exact fun k hk => this k (Nat.zero_le _) (by rw [← hp.1]; exact hk)
end Go.Fn
set_option linter.unusedSimpArgs false
set_option linter.unusedVariables false
namespace Go.Fn
open Go.R Go.Sort
theorem sorted_ext {α : Type} {lt : α → α → Prop} (irr : ∀ x, ¬ lt x x) (asy : ∀ x y, lt x y → ¬ lt y x) : ∀ {l m : List α}, l.Pairwise lt → m.Pairwise lt → (∀ x, x ∈ l ↔ x ∈ m) → l = m
  | [], [], _, _, _ => rfl
  | [], y :: m, _, _, h => absurd ((h y).2 (List.mem_cons_self ..)) (List.not_mem_nil)
  | x :: l, [], _, _, h => absurd ((h x).1 (List.mem_cons_self ..)) (List.not_mem_nil)
  | x :: l, y :: m, hl, hm, h => by
    have hl' := List.pairwise_cons.1 hl
    have hm' := List.pairwise_cons.1 hm
    have hxy : x = y := by
      rcases List.mem_cons.1 ((h x).1 (List.mem_cons_self ..)) with e | h1
      · exact e
      · rcases List.mem_cons.1 ((h y).2 (List.mem_cons_self ..)) with e | h2
        · exact e.symm
        · exact absurd (hl'.1 y h2) (asy _ _ (hm'.1 x h1))
    subst hxy
    congr 1
    refine sorted_ext irr asy hl'.2 hm'.2 fun z => ⟨fun hz => ?_, fun hz => ?_⟩
    · rcases List.mem_cons.1 ((h z).1 (List.mem_cons_of_mem _ hz)) with e | h1
      · subst e; exact absurd (hl'.1 z hz) (irr z)
      · exact h1
    · rcases List.mem_cons.1 ((h z).2 (List.mem_cons_of_mem _ hz)) with e | h1
      · subst e; exact absurd (hm'.1 z hz) (irr z)
      · exact h1
end Go.Fn
set_option linter.unusedSimpArgs false
set_option linter.unusedVariables false
namespace Go.Fn
open Go.R Go.Sort
def ltI (x y : Int) : Bool := decide (x < y)
theorem less_eq (x y : Int) : cmp_Less_int_ x y = some (ltI x y, ()) := by
  unfold cmp_Less_int_ cmp_isNaN_int_ ltI
  simp only [neq_self, Option.bind_some, cond_false]
  rfl
theorem n_insertionSort_b2 : slices_insertionSortOrdered_int__b2 = g_insertionSort_b2 (ltI) := by
  funext 
  unfold slices_insertionSortOrdered_int__b2 g_insertionSort_b2
  try simp only [less_eq, Option.bind_some]
  try rfl
theorem n_insertionSort_l2 : slices_insertionSortOrdered_int__l2 = g_insertionSort_l2 (ltI) := by
  funext 
  unfold slices_insertionSortOrdered_int__l2 g_insertionSort_l2
  try simp only [less_eq, Option.bind_some, n_insertionSort_b2]
  try rfl
theorem n_insertionSort_b0 : slices_insertionSortOrdered_int__b0 = g_insertionSort_b0 (ltI) := by
  funext 
  unfold slices_insertionSortOrdered_int__b0 g_insertionSort_b0
  try simp only [less_eq, Option.bind_some, n_insertionSort_b2, n_insertionSort_l2]
  try rfl
theorem n_insertionSort_l0 : slices_insertionSortOrdered_int__l0 = g_insertionSort_l0 (ltI) := by
  funext 
  unfold slices_insertionSortOrdered_int__l0 g_insertionSort_l0
  try simp only [less_eq, Option.bind_some, n_insertionSort_b2, n_insertionSort_l2, n_insertionSort_b0]
  try rfl
theorem n_insertionSort : slices_insertionSortOrdered_int_ = g_insertionSort (ltI) := by
  funext 
  unfold slices_insertionSortOrdered_int_ g_insertionSort
  try simp only [less_eq, Option.bind_some, n_insertionSort_b2, n_insertionSort_l2, n_insertionSort_b0, n_insertionSort_l0]
  try rfl
theorem n_siftDown_b0 : slices_siftDownOrdered_int__b0 = g_siftDown_b0 (ltI) := by
  funext 
  unfold slices_siftDownOrdered_int__b0 g_siftDown_b0
  try simp only [less_eq, Option.bind_some, n_insertionSort_b2, n_insertionSort_l2, n_insertionSort_b0, n_insertionSort_l0, n_insertionSort]
  try rfl
theorem n_siftDown_l0 : slices_siftDownOrdered_int__l0 = g_siftDown_l0 (ltI) := by
  funext 
  unfold slices_siftDownOrdered_int__l0 g_siftDown_l0
  try simp only [less_eq, Option.bind_some, n_insertionSort_b2, n_insertionSort_l2, n_insertionSort_b0, n_insertionSort_l0, n_insertionSort, n_siftDown_b0]
  try rfl
theorem n_siftDown : slices_siftDownOrdered_int_ = g_siftDown (ltI) := by
  funext 
  unfold slices_siftDownOrdered_int_ g_siftDown
  try simp only [less_eq, Option.bind_some, n_insertionSort_b2, n_insertionSort_l2, n_insertionSort_b0, n_insertionSort_l0, n_insertionSort, n_siftDown_b0, n_siftDown_l0]
  try rfl
theorem n_heapSort_b0 : slices_heapSortOrdered_int__b0 = g_heapSort_b0 (ltI) := by
  funext 
  unfold slices_heapSortOrdered_int__b0 g_heapSort_b0
  try simp only [less_eq, Option.bind_some, n_insertionSort_b2, n_insertionSort_l2, n_insertionSort_b0, n_insertionSort_l0, n_insertionSort, n_siftDown_b0, n_siftDown_l0, n_siftDown]
  try rfl
theorem n_heapSort_l0 : slices_heapSortOrdered_int__l0 = g_heapSort_l0 (ltI) := by
  funext 
  unfold slices_heapSortOrdered_int__l0 g_heapSort_l0
  try simp only [less_eq, Option.bind_some, n_insertionSort_b2, n_insertionSort_l2, n_insertionSort_b0, n_insertionSort_l0, n_insertionSort, n_siftDown_b0, n_siftDown_l0, n_siftDown, n_heapSort_b0]
  try rfl
theorem n_heapSort_b2 : slices_heapSortOrdered_int__b2 = g_heapSort_b2 (ltI) := by
  funext 
  unfold slices_heapSortOrdered_int__b2 g_heapSort_b2
  try simp only [less_eq, Option.bind_some, n_insertionSort_b2, n_insertionSort_l2, n_insertionSort_b0, n_insertionSort_l0, n_insertionSort, n_siftDown_b0, n_siftDown_l0, n_siftDown, n_heapSort_b0, n_heapSort_l0]
  try rfl
theorem n_heapSort_l2 : slices_heapSortOrdered_int__l2 = g_heapSort_l2 (ltI) := by
  funext 
  unfold slices_heapSortOrdered_int__l2 g_heapSort_l2
  try simp only [less_eq, Option.bind_some, n_insertionSort_b2, n_insertionSort_l2, n_insertionSort_b0, n_insertionSort_l0, n_insertionSort, n_siftDown_b0, n_siftDown_l0, n_siftDown, n_heapSort_b0, n_heapSort_l0, n_heapSort_b2]
  try rfl
theorem n_heapSort : slices_heapSortOrdered_int_ = g_heapSort (ltI) := by
  funext 
  unfold slices_heapSortOrdered_int_ g_heapSort
  try simp only [less_eq, Option.bind_some, n_insertionSort_b2, n_insertionSort_l2, n_insertionSort_b0, n_insertionSort_l0, n_insertionSort, n_siftDown_b0, n_siftDown_l0, n_siftDown, n_heapSort_b0, n_heapSort_l0, n_heapSort_b2, n_heapSort_l2]
  try rfl
theorem n_breakPatterns_b0 : slices_breakPatternsOrdered_int__b0 = g_breakPatterns_b0 (ltI) := by
  funext 
  unfold slices_breakPatternsOrdered_int__b0 g_breakPatterns_b0
  try simp only [less_eq, Option.bind_some, n_insertionSort_b2, n_insertionSort_l2, n_insertionSort_b0, n_insertionSort_l0, n_insertionSort, n_siftDown_b0, n_siftDown_l0, n_siftDown, n_heapSort_b0, n_heapSort_l0, n_heapSort_b2, n_heapSort_l2, n_heapSort]
  try rfl
theorem n_breakPatterns_l0 : slices_breakPatternsOrdered_int__l0 = g_breakPatterns_l0 (ltI) := by
  funext 
  unfold slices_breakPatternsOrdered_int__l0 g_breakPatterns_l0
  try simp only [less_eq, Option.bind_some, n_insertionSort_b2, n_insertionSort_l2, n_insertionSort_b0, n_insertionSort_l0, n_insertionSort, n_siftDown_b0, n_siftDown_l0, n_siftDown, n_heapSort_b0, n_heapSort_l0, n_heapSort_b2, n_heapSort_l2, n_heapSort, n_breakPatterns_b0]
  try rfl
theorem n_breakPatterns : slices_breakPatternsOrdered_int_ = g_breakPatterns (ltI) := by
  funext 
  unfold slices_breakPatternsOrdered_int_ g_breakPatterns
  try simp only [less_eq, Option.bind_some, n_insertionSort_b2, n_insertionSort_l2, n_insertionSort_b0, n_insertionSort_l0, n_insertionSort, n_siftDown_b0, n_siftDown_l0, n_siftDown, n_heapSort_b0, n_heapSort_l0, n_heapSort_b2, n_heapSort_l2, n_heapSort, n_breakPatterns_b0, n_breakPatterns_l0]
  try rfl
theorem n_order2 : slices_order2Ordered_int_ = g_order2 (ltI) := by
  funext 
  unfold slices_order2Ordered_int_ g_order2
  try simp only [less_eq, Option.bind_some, n_insertionSort_b2, n_insertionSort_l2, n_insertionSort_b0, n_insertionSort_l0, n_insertionSort, n_siftDown_b0, n_siftDown_l0, n_siftDown, n_heapSort_b0, n_heapSort_l0, n_heapSort_b2, n_heapSort_l2, n_heapSort, n_breakPatterns_b0, n_breakPatterns_l0, n_breakPatterns]
  try rfl
theorem n_median : slices_medianOrdered_int_ = g_median (ltI) := by
  funext 
  unfold slices_medianOrdered_int_ g_median
  try simp only [less_eq, Option.bind_some, n_insertionSort_b2, n_insertionSort_l2, n_insertionSort_b0, n_insertionSort_l0, n_insertionSort, n_siftDown_b0, n_siftDown_l0, n_siftDown, n_heapSort_b0, n_heapSort_l0, n_heapSort_b2, n_heapSort_l2, n_heapSort, n_breakPatterns_b0, n_breakPatterns_l0, n_breakPatterns, n_order2]
  try rfl
theorem n_medianAdjacent : slices_medianAdjacentOrdered_int_ = g_medianAdjacent (ltI) := by
  funext 
  unfold slices_medianAdjacentOrdered_int_ g_medianAdjacent
  try simp only [less_eq, Option.bind_some, n_insertionSort_b2, n_insertionSort_l2, n_insertionSort_b0, n_insertionSort_l0, n_insertionSort, n_siftDown_b0, n_siftDown_l0, n_siftDown, n_heapSort_b0, n_heapSort_l0, n_heapSort_b2, n_heapSort_l2, n_heapSort, n_breakPatterns_b0, n_breakPatterns_l0, n_breakPatterns, n_order2, n_median]
  try rfl
theorem n_choosePivot : slices_choosePivotOrdered_int_ = g_choosePivot (ltI) := by
  funext 
  unfold slices_choosePivotOrdered_int_ g_choosePivot
  try simp only [less_eq, Option.bind_some, n_insertionSort_b2, n_insertionSort_l2, n_insertionSort_b0, n_insertionSort_l0, n_insertionSort, n_siftDown_b0, n_siftDown_l0, n_siftDown, n_heapSort_b0, n_heapSort_l0, n_heapSort_b2, n_heapSort_l2, n_heapSort, n_breakPatterns_b0, n_breakPatterns_l0, n_breakPatterns, n_order2, n_median, n_medianAdjacent]
  try rfl
theorem n_reverseRange_b0 : slices_reverseRangeOrdered_int__b0 = g_reverseRange_b0 (ltI) := by
  funext 
  unfold slices_reverseRangeOrdered_int__b0 g_reverseRange_b0
  try simp only [less_eq, Option.bind_some, n_insertionSort_b2, n_insertionSort_l2, n_insertionSort_b0, n_insertionSort_l0, n_insertionSort, n_siftDown_b0, n_siftDown_l0, n_siftDown, n_heapSort_b0, n_heapSort_l0, n_heapSort_b2, n_heapSort_l2, n_heapSort, n_breakPatterns_b0, n_breakPatterns_l0, n_breakPatterns, n_order2, n_median, n_medianAdjacent, n_choosePivot]
  try rfl
theorem n_reverseRange_l0 : slices_reverseRangeOrdered_int__l0 = g_reverseRange_l0 (ltI) := by
  funext 
  unfold slices_reverseRangeOrdered_int__l0 g_reverseRange_l0
  try simp only [less_eq, Option.bind_some, n_insertionSort_b2, n_insertionSort_l2, n_insertionSort_b0, n_insertionSort_l0, n_insertionSort, n_siftDown_b0, n_siftDown_l0, n_siftDown, n_heapSort_b0, n_heapSort_l0, n_heapSort_b2, n_heapSort_l2, n_heapSort, n_breakPatterns_b0, n_breakPatterns_l0, n_breakPatterns, n_order2, n_median, n_medianAdjacent, n_choosePivot, n_reverseRange_b0]
  try rfl
theorem n_reverseRange : slices_reverseRangeOrdered_int_ = g_reverseRange (ltI) := by
  funext 
  unfold slices_reverseRangeOrdered_int_ g_reverseRange
  try simp only [less_eq, Option.bind_some, n_insertionSort_b2, n_insertionSort_l2, n_insertionSort_b0, n_insertionSort_l0, n_insertionSort, n_siftDown_b0, n_siftDown_l0, n_siftDown, n_heapSort_b0, n_heapSort_l0, n_heapSort_b2, n_heapSort_l2, n_heapSort, n_breakPatterns_b0, n_breakPatterns_l0, n_breakPatterns, n_order2, n_median, n_medianAdjacent, n_choosePivot, n_reverseRange_b0, n_reverseRange_l0]
  try rfl
theorem n_partialInsertionSort_b2 : slices_partialInsertionSortOrdered_int__b2 = g_partialInsertionSort_b2 (ltI) := by
  funext 
  unfold slices_partialInsertionSortOrdered_int__b2 g_partialInsertionSort_b2
  try simp only [less_eq, Option.bind_some, n_insertionSort_b2, n_insertionSort_l2, n_insertionSort_b0, n_insertionSort_l0, n_insertionSort, n_siftDown_b0, n_siftDown_l0, n_siftDown, n_heapSort_b0, n_heapSort_l0, n_heapSort_b2, n_heapSort_l2, n_heapSort, n_breakPatterns_b0, n_breakPatterns_l0, n_breakPatterns, n_order2, n_median, n_medianAdjacent, n_choosePivot, n_reverseRange_b0, n_reverseRange_l0, n_reverseRange]
  try rfl
theorem n_partialInsertionSort_l2 : slices_partialInsertionSortOrdered_int__l2 = g_partialInsertionSort_l2 (ltI) := by
  funext 
  unfold slices_partialInsertionSortOrdered_int__l2 g_partialInsertionSort_l2
  try simp only [less_eq, Option.bind_some, n_insertionSort_b2, n_insertionSort_l2, n_insertionSort_b0, n_insertionSort_l0, n_insertionSort, n_siftDown_b0, n_siftDown_l0, n_siftDown, n_heapSort_b0, n_heapSort_l0, n_heapSort_b2, n_heapSort_l2, n_heapSort, n_breakPatterns_b0, n_breakPatterns_l0, n_breakPatterns, n_order2, n_median, n_medianAdjacent, n_choosePivot, n_reverseRange_b0, n_reverseRange_l0, n_reverseRange, n_partialInsertionSort_b2]
  try rfl
theorem n_partialInsertionSort_b4 : slices_partialInsertionSortOrdered_int__b4 = g_partialInsertionSort_b4 (ltI) := by
  funext 
  unfold slices_partialInsertionSortOrdered_int__b4 g_partialInsertionSort_b4
  try simp only [less_eq, Option.bind_some, n_insertionSort_b2, n_insertionSort_l2, n_insertionSort_b0, n_insertionSort_l0, n_insertionSort, n_siftDown_b0, n_siftDown_l0, n_siftDown, n_heapSort_b0, n_heapSort_l0, n_heapSort_b2, n_heapSort_l2, n_heapSort, n_breakPatterns_b0, n_breakPatterns_l0, n_breakPatterns, n_order2, n_median, n_medianAdjacent, n_choosePivot, n_reverseRange_b0, n_reverseRange_l0, n_reverseRange, n_partialInsertionSort_b2, n_partialInsertionSort_l2]
  try rfl
theorem n_partialInsertionSort_l4 : slices_partialInsertionSortOrdered_int__l4 = g_partialInsertionSort_l4 (ltI) := by
  funext 
  unfold slices_partialInsertionSortOrdered_int__l4 g_partialInsertionSort_l4
  try simp only [less_eq, Option.bind_some, n_insertionSort_b2, n_insertionSort_l2, n_insertionSort_b0, n_insertionSort_l0, n_insertionSort, n_siftDown_b0, n_siftDown_l0, n_siftDown, n_heapSort_b0, n_heapSort_l0, n_heapSort_b2, n_heapSort_l2, n_heapSort, n_breakPatterns_b0, n_breakPatterns_l0, n_breakPatterns, n_order2, n_median, n_medianAdjacent, n_choosePivot, n_reverseRange_b0, n_reverseRange_l0, n_reverseRange, n_partialInsertionSort_b2, n_partialInsertionSort_l2, n_partialInsertionSort_b4]
  try rfl
theorem n_partialInsertionSort_b6 : slices_partialInsertionSortOrdered_int__b6 = g_partialInsertionSort_b6 (ltI) := by
  funext 
  unfold slices_partialInsertionSortOrdered_int__b6 g_partialInsertionSort_b6
  try simp only [less_eq, Option.bind_some, n_insertionSort_b2, n_insertionSort_l2, n_insertionSort_b0, n_insertionSort_l0, n_insertionSort, n_siftDown_b0, n_siftDown_l0, n_siftDown, n_heapSort_b0, n_heapSort_l0, n_heapSort_b2, n_heapSort_l2, n_heapSort, n_breakPatterns_b0, n_breakPatterns_l0, n_breakPatterns, n_order2, n_median, n_medianAdjacent, n_choosePivot, n_reverseRange_b0, n_reverseRange_l0, n_reverseRange, n_partialInsertionSort_b2, n_partialInsertionSort_l2, n_partialInsertionSort_b4, n_partialInsertionSort_l4]
  try rfl
theorem n_partialInsertionSort_l6 : slices_partialInsertionSortOrdered_int__l6 = g_partialInsertionSort_l6 (ltI) := by
  funext 
  unfold slices_partialInsertionSortOrdered_int__l6 g_partialInsertionSort_l6
  try simp only [less_eq, Option.bind_some, n_insertionSort_b2, n_insertionSort_l2, n_insertionSort_b0, n_insertionSort_l0, n_insertionSort, n_siftDown_b0, n_siftDown_l0, n_siftDown, n_heapSort_b0, n_heapSort_l0, n_heapSort_b2, n_heapSort_l2, n_heapSort, n_breakPatterns_b0, n_breakPatterns_l0, n_breakPatterns, n_order2, n_median, n_medianAdjacent, n_choosePivot, n_reverseRange_b0, n_reverseRange_l0, n_reverseRange, n_partialInsertionSort_b2, n_partialInsertionSort_l2, n_partialInsertionSort_b4, n_partialInsertionSort_l4, n_partialInsertionSort_b6]
  try rfl
theorem n_partialInsertionSort_b0 : slices_partialInsertionSortOrdered_int__b0 = g_partialInsertionSort_b0 (ltI) := by
  funext 
  unfold slices_partialInsertionSortOrdered_int__b0 g_partialInsertionSort_b0
  try simp only [less_eq, Option.bind_some, n_insertionSort_b2, n_insertionSort_l2, n_insertionSort_b0, n_insertionSort_l0, n_insertionSort, n_siftDown_b0, n_siftDown_l0, n_siftDown, n_heapSort_b0, n_heapSort_l0, n_heapSort_b2, n_heapSort_l2, n_heapSort, n_breakPatterns_b0, n_breakPatterns_l0, n_breakPatterns, n_order2, n_median, n_medianAdjacent, n_choosePivot, n_reverseRange_b0, n_reverseRange_l0, n_reverseRange, n_partialInsertionSort_b2, n_partialInsertionSort_l2, n_partialInsertionSort_b4, n_partialInsertionSort_l4, n_partialInsertionSort_b6, n_partialInsertionSort_l6]
  try rfl
theorem n_partialInsertionSort_l0 : slices_partialInsertionSortOrdered_int__l0 = g_partialInsertionSort_l0 (ltI) := by
  funext 
  unfold slices_partialInsertionSortOrdered_int__l0 g_partialInsertionSort_l0
  try simp only [less_eq, Option.bind_some, n_insertionSort_b2, n_insertionSort_l2, n_insertionSort_b0, n_insertionSort_l0, n_insertionSort, n_siftDown_b0, n_siftDown_l0, n_siftDown, n_heapSort_b0, n_heapSort_l0, n_heapSort_b2, n_heapSort_l2, n_heapSort, n_breakPatterns_b0, n_breakPatterns_l0, n_breakPatterns, n_order2, n_median, n_medianAdjacent, n_choosePivot, n_reverseRange_b0, n_reverseRange_l0, n_reverseRange, n_partialInsertionSort_b2, n_partialInsertionSort_l2, n_partialInsertionSort_b4, n_partialInsertionSort_l4, n_partialInsertionSort_b6, n_partialInsertionSort_l6, n_partialInsertionSort_b0]
  try rfl
theorem n_partialInsertionSort : slices_partialInsertionSortOrdered_int_ = g_partialInsertionSort (ltI) := by
  funext 
  unfold slices_partialInsertionSortOrdered_int_ g_partialInsertionSort
  try simp only [less_eq, Option.bind_some, n_insertionSort_b2, n_insertionSort_l2, n_insertionSort_b0, n_insertionSort_l0, n_insertionSort, n_siftDown_b0, n_siftDown_l0, n_siftDown, n_heapSort_b0, n_heapSort_l0, n_heapSort_b2, n_heapSort_l2, n_heapSort, n_breakPatterns_b0, n_breakPatterns_l0, n_breakPatterns, n_order2, n_median, n_medianAdjacent, n_choosePivot, n_reverseRange_b0, n_reverseRange_l0, n_reverseRange, n_partialInsertionSort_b2, n_partialInsertionSort_l2, n_partialInsertionSort_b4, n_partialInsertionSort_l4, n_partialInsertionSort_b6, n_partialInsertionSort_l6, n_partialInsertionSort_b0, n_partialInsertionSort_l0]
  try rfl
theorem n_partitionEqual_b2 : slices_partitionEqualOrdered_int__b2 = g_partitionEqual_b2 (ltI) := by
  funext 
  unfold slices_partitionEqualOrdered_int__b2 g_partitionEqual_b2
  try simp only [less_eq, Option.bind_some, n_insertionSort_b2, n_insertionSort_l2, n_insertionSort_b0, n_insertionSort_l0, n_insertionSort, n_siftDown_b0, n_siftDown_l0, n_siftDown, n_heapSort_b0, n_heapSort_l0, n_heapSort_b2, n_heapSort_l2, n_heapSort, n_breakPatterns_b0, n_breakPatterns_l0, n_breakPatterns, n_order2, n_median, n_medianAdjacent, n_choosePivot, n_reverseRange_b0, n_reverseRange_l0, n_reverseRange, n_partialInsertionSort_b2, n_partialInsertionSort_l2, n_partialInsertionSort_b4, n_partialInsertionSort_l4, n_partialInsertionSort_b6, n_partialInsertionSort_l6, n_partialInsertionSort_b0, n_partialInsertionSort_l0, n_partialInsertionSort]
  try rfl
theorem n_partitionEqual_l2 : slices_partitionEqualOrdered_int__l2 = g_partitionEqual_l2 (ltI) := by
  funext 
  unfold slices_partitionEqualOrdered_int__l2 g_partitionEqual_l2
  try simp only [less_eq, Option.bind_some, n_insertionSort_b2, n_insertionSort_l2, n_insertionSort_b0, n_insertionSort_l0, n_insertionSort, n_siftDown_b0, n_siftDown_l0, n_siftDown, n_heapSort_b0, n_heapSort_l0, n_heapSort_b2, n_heapSort_l2, n_heapSort, n_breakPatterns_b0, n_breakPatterns_l0, n_breakPatterns, n_order2, n_median, n_medianAdjacent, n_choosePivot, n_reverseRange_b0, n_reverseRange_l0, n_reverseRange, n_partialInsertionSort_b2, n_partialInsertionSort_l2, n_partialInsertionSort_b4, n_partialInsertionSort_l4, n_partialInsertionSort_b6, n_partialInsertionSort_l6, n_partialInsertionSort_b0, n_partialInsertionSort_l0, n_partialInsertionSort, n_partitionEqual_b2]
  try rfl
theorem n_partitionEqual_b4 : slices_partitionEqualOrdered_int__b4 = g_partitionEqual_b4 (ltI) := by
  funext 
  unfold slices_partitionEqualOrdered_int__b4 g_partitionEqual_b4
  try simp only [less_eq, Option.bind_some, n_insertionSort_b2, n_insertionSort_l2, n_insertionSort_b0, n_insertionSort_l0, n_insertionSort, n_siftDown_b0, n_siftDown_l0, n_siftDown, n_heapSort_b0, n_heapSort_l0, n_heapSort_b2, n_heapSort_l2, n_heapSort, n_breakPatterns_b0, n_breakPatterns_l0, n_breakPatterns, n_order2, n_median, n_medianAdjacent, n_choosePivot, n_reverseRange_b0, n_reverseRange_l0, n_reverseRange, n_partialInsertionSort_b2, n_partialInsertionSort_l2, n_partialInsertionSort_b4, n_partialInsertionSort_l4, n_partialInsertionSort_b6, n_partialInsertionSort_l6, n_partialInsertionSort_b0, n_partialInsertionSort_l0, n_partialInsertionSort, n_partitionEqual_b2, n_partitionEqual_l2]
  try rfl
theorem n_partitionEqual_l4 : slices_partitionEqualOrdered_int__l4 = g_partitionEqual_l4 (ltI) := by
  funext 
  unfold slices_partitionEqualOrdered_int__l4 g_partitionEqual_l4
  try simp only [less_eq, Option.bind_some, n_insertionSort_b2, n_insertionSort_l2, n_insertionSort_b0, n_insertionSort_l0, n_insertionSort, n_siftDown_b0, n_siftDown_l0, n_siftDown, n_heapSort_b0, n_heapSort_l0, n_heapSort_b2, n_heapSort_l2, n_heapSort, n_breakPatterns_b0, n_breakPatterns_l0, n_breakPatterns, n_order2, n_median, n_medianAdjacent, n_choosePivot, n_reverseRange_b0, n_reverseRange_l0, n_reverseRange, n_partialInsertionSort_b2, n_partialInsertionSort_l2, n_partialInsertionSort_b4, n_partialInsertionSort_l4, n_partialInsertionSort_b6, n_partialInsertionSort_l6, n_partialInsertionSort_b0, n_partialInsertionSort_l0, n_partialInsertionSort, n_partitionEqual_b2, n_partitionEqual_l2, n_partitionEqual_b4]
  try rfl
theorem n_partitionEqual_b0 : slices_partitionEqualOrdered_int__b0 = g_partitionEqual_b0 (ltI) := by
  funext 
  unfold slices_partitionEqualOrdered_int__b0 g_partitionEqual_b0
  try simp only [less_eq, Option.bind_some, n_insertionSort_b2, n_insertionSort_l2, n_insertionSort_b0, n_insertionSort_l0, n_insertionSort, n_siftDown_b0, n_siftDown_l0, n_siftDown, n_heapSort_b0, n_heapSort_l0, n_heapSort_b2, n_heapSort_l2, n_heapSort, n_breakPatterns_b0, n_breakPatterns_l0, n_breakPatterns, n_order2, n_median, n_medianAdjacent, n_choosePivot, n_reverseRange_b0, n_reverseRange_l0, n_reverseRange, n_partialInsertionSort_b2, n_partialInsertionSort_l2, n_partialInsertionSort_b4, n_partialInsertionSort_l4, n_partialInsertionSort_b6, n_partialInsertionSort_l6, n_partialInsertionSort_b0, n_partialInsertionSort_l0, n_partialInsertionSort, n_partitionEqual_b2, n_partitionEqual_l2, n_partitionEqual_b4, n_partitionEqual_l4]
  try rfl
theorem n_partitionEqual_l0 : slices_partitionEqualOrdered_int__l0 = g_partitionEqual_l0 (ltI) := by
  funext 
  unfold slices_partitionEqualOrdered_int__l0 g_partitionEqual_l0
  try simp only [less_eq, Option.bind_some, n_insertionSort_b2, n_insertionSort_l2, n_insertionSort_b0, n_insertionSort_l0, n_insertionSort, n_siftDown_b0, n_siftDown_l0, n_siftDown, n_heapSort_b0, n_heapSort_l0, n_heapSort_b2, n_heapSort_l2, n_heapSort, n_breakPatterns_b0, n_breakPatterns_l0, n_breakPatterns, n_order2, n_median, n_medianAdjacent, n_choosePivot, n_reverseRange_b0, n_reverseRange_l0, n_reverseRange, n_partialInsertionSort_b2, n_partialInsertionSort_l2, n_partialInsertionSort_b4, n_partialInsertionSort_l4, n_partialInsertionSort_b6, n_partialInsertionSort_l6, n_partialInsertionSort_b0, n_partialInsertionSort_l0, n_partialInsertionSort, n_partitionEqual_b2, n_partitionEqual_l2, n_partitionEqual_b4, n_partitionEqual_l4, n_partitionEqual_b0]
  try rfl
theorem n_partitionEqual : slices_partitionEqualOrdered_int_ = g_partitionEqual (ltI) := by
  funext 
  unfold slices_partitionEqualOrdered_int_ g_partitionEqual
  try simp only [less_eq, Option.bind_some, n_insertionSort_b2, n_insertionSort_l2, n_insertionSort_b0, n_insertionSort_l0, n_insertionSort, n_siftDown_b0, n_siftDown_l0, n_siftDown, n_heapSort_b0, n_heapSort_l0, n_heapSort_b2, n_heapSort_l2, n_heapSort, n_breakPatterns_b0, n_breakPatterns_l0, n_breakPatterns, n_order2, n_median, n_medianAdjacent, n_choosePivot, n_reverseRange_b0, n_reverseRange_l0, n_reverseRange, n_partialInsertionSort_b2, n_partialInsertionSort_l2, n_partialInsertionSort_b4, n_partialInsertionSort_l4, n_partialInsertionSort_b6, n_partialInsertionSort_l6, n_partialInsertionSort_b0, n_partialInsertionSort_l0, n_partialInsertionSort, n_partitionEqual_b2, n_partitionEqual_l2, n_partitionEqual_b4, n_partitionEqual_l4, n_partitionEqual_b0, n_partitionEqual_l0]
  try rfl
theorem n_partition_b0 : slices_partitionOrdered_int__b0 = g_partition_b0 (ltI) := by
  funext 
  unfold slices_partitionOrdered_int__b0 g_partition_b0
  try simp only [less_eq, Option.bind_some, n_insertionSort_b2, n_insertionSort_l2, n_insertionSort_b0, n_insertionSort_l0, n_insertionSort, n_siftDown_b0, n_siftDown_l0, n_siftDown, n_heapSort_b0, n_heapSort_l0, n_heapSort_b2, n_heapSort_l2, n_heapSort, n_breakPatterns_b0, n_breakPatterns_l0, n_breakPatterns, n_order2, n_median, n_medianAdjacent, n_choosePivot, n_reverseRange_b0, n_reverseRange_l0, n_reverseRange, n_partialInsertionSort_b2, n_partialInsertionSort_l2, n_partialInsertionSort_b4, n_partialInsertionSort_l4, n_partialInsertionSort_b6, n_partialInsertionSort_l6, n_partialInsertionSort_b0, n_partialInsertionSort_l0, n_partialInsertionSort, n_partitionEqual_b2, n_partitionEqual_l2, n_partitionEqual_b4, n_partitionEqual_l4, n_partitionEqual_b0, n_partitionEqual_l0, n_partitionEqual]
  try rfl
theorem n_partition_l0 : slices_partitionOrdered_int__l0 = g_partition_l0 (ltI) := by
  funext 
  unfold slices_partitionOrdered_int__l0 g_partition_l0
  try simp only [less_eq, Option.bind_some, n_insertionSort_b2, n_insertionSort_l2, n_insertionSort_b0, n_insertionSort_l0, n_insertionSort, n_siftDown_b0, n_siftDown_l0, n_siftDown, n_heapSort_b0, n_heapSort_l0, n_heapSort_b2, n_heapSort_l2, n_heapSort, n_breakPatterns_b0, n_breakPatterns_l0, n_breakPatterns, n_order2, n_median, n_medianAdjacent, n_choosePivot, n_reverseRange_b0, n_reverseRange_l0, n_reverseRange, n_partialInsertionSort_b2, n_partialInsertionSort_l2, n_partialInsertionSort_b4, n_partialInsertionSort_l4, n_partialInsertionSort_b6, n_partialInsertionSort_l6, n_partialInsertionSort_b0, n_partialInsertionSort_l0, n_partialInsertionSort, n_partitionEqual_b2, n_partitionEqual_l2, n_partitionEqual_b4, n_partitionEqual_l4, n_partitionEqual_b0, n_partitionEqual_l0, n_partitionEqual, n_partition_b0]
  try rfl
theorem n_partition_b2 : slices_partitionOrdered_int__b2 = g_partition_b2 (ltI) := by
  funext 
  unfold slices_partitionOrdered_int__b2 g_partition_b2
  try simp only [less_eq, Option.bind_some, n_insertionSort_b2, n_insertionSort_l2, n_insertionSort_b0, n_insertionSort_l0, n_insertionSort, n_siftDown_b0, n_siftDown_l0, n_siftDown, n_heapSort_b0, n_heapSort_l0, n_heapSort_b2, n_heapSort_l2, n_heapSort, n_breakPatterns_b0, n_breakPatterns_l0, n_breakPatterns, n_order2, n_median, n_medianAdjacent, n_choosePivot, n_reverseRange_b0, n_reverseRange_l0, n_reverseRange, n_partialInsertionSort_b2, n_partialInsertionSort_l2, n_partialInsertionSort_b4, n_partialInsertionSort_l4, n_partialInsertionSort_b6, n_partialInsertionSort_l6, n_partialInsertionSort_b0, n_partialInsertionSort_l0, n_partialInsertionSort, n_partitionEqual_b2, n_partitionEqual_l2, n_partitionEqual_b4, n_partitionEqual_l4, n_partitionEqual_b0, n_partitionEqual_l0, n_partitionEqual, n_partition_b0, n_partition_l0]
  try rfl
theorem n_partition_l2 : slices_partitionOrdered_int__l2 = g_partition_l2 (ltI) := by
  funext 
  unfold slices_partitionOrdered_int__l2 g_partition_l2
  try simp only [less_eq, Option.bind_some, n_insertionSort_b2, n_insertionSort_l2, n_insertionSort_b0, n_insertionSort_l0, n_insertionSort, n_siftDown_b0, n_siftDown_l0, n_siftDown, n_heapSort_b0, n_heapSort_l0, n_heapSort_b2, n_heapSort_l2, n_heapSort, n_breakPatterns_b0, n_breakPatterns_l0, n_breakPatterns, n_order2, n_median, n_medianAdjacent, n_choosePivot, n_reverseRange_b0, n_reverseRange_l0, n_reverseRange, n_partialInsertionSort_b2, n_partialInsertionSort_l2, n_partialInsertionSort_b4, n_partialInsertionSort_l4, n_partialInsertionSort_b6, n_partialInsertionSort_l6, n_partialInsertionSort_b0, n_partialInsertionSort_l0, n_partialInsertionSort, n_partitionEqual_b2, n_partitionEqual_l2, n_partitionEqual_b4, n_partitionEqual_l4, n_partitionEqual_b0, n_partitionEqual_l0, n_partitionEqual, n_partition_b0, n_partition_l0, n_partition_b2]
  try rfl
theorem n_partition_b6 : slices_partitionOrdered_int__b6 = g_partition_b6 (ltI) := by
  funext 
  unfold slices_partitionOrdered_int__b6 g_partition_b6
  try simp only [less_eq, Option.bind_some, n_insertionSort_b2, n_insertionSort_l2, n_insertionSort_b0, n_insertionSort_l0, n_insertionSort, n_siftDown_b0, n_siftDown_l0, n_siftDown, n_heapSort_b0, n_heapSort_l0, n_heapSort_b2, n_heapSort_l2, n_heapSort, n_breakPatterns_b0, n_breakPatterns_l0, n_breakPatterns, n_order2, n_median, n_medianAdjacent, n_choosePivot, n_reverseRange_b0, n_reverseRange_l0, n_reverseRange, n_partialInsertionSort_b2, n_partialInsertionSort_l2, n_partialInsertionSort_b4, n_partialInsertionSort_l4, n_partialInsertionSort_b6, n_partialInsertionSort_l6, n_partialInsertionSort_b0, n_partialInsertionSort_l0, n_partialInsertionSort, n_partitionEqual_b2, n_partitionEqual_l2, n_partitionEqual_b4, n_partitionEqual_l4, n_partitionEqual_b0, n_partitionEqual_l0, n_partitionEqual, n_partition_b0, n_partition_l0, n_partition_b2, n_partition_l2]
  try rfl
theorem n_partition_l6 : slices_partitionOrdered_int__l6 = g_partition_l6 (ltI) := by
  funext 
  unfold slices_partitionOrdered_int__l6 g_partition_l6
  try simp only [less_eq, Option.bind_some, n_insertionSort_b2, n_insertionSort_l2, n_insertionSort_b0, n_insertionSort_l0, n_insertionSort, n_siftDown_b0, n_siftDown_l0, n_siftDown, n_heapSort_b0, n_heapSort_l0, n_heapSort_b2, n_heapSort_l2, n_heapSort, n_breakPatterns_b0, n_breakPatterns_l0, n_breakPatterns, n_order2, n_median, n_medianAdjacent, n_choosePivot, n_reverseRange_b0, n_reverseRange_l0, n_reverseRange, n_partialInsertionSort_b2, n_partialInsertionSort_l2, n_partialInsertionSort_b4, n_partialInsertionSort_l4, n_partialInsertionSort_b6, n_partialInsertionSort_l6, n_partialInsertionSort_b0, n_partialInsertionSort_l0, n_partialInsertionSort, n_partitionEqual_b2, n_partitionEqual_l2, n_partitionEqual_b4, n_partitionEqual_l4, n_partitionEqual_b0, n_partitionEqual_l0, n_partitionEqual, n_partition_b0, n_partition_l0, n_partition_b2, n_partition_l2, n_partition_b6]
  try rfl
theorem n_partition_b8 : slices_partitionOrdered_int__b8 = g_partition_b8 (ltI) := by
  funext 
  unfold slices_partitionOrdered_int__b8 g_partition_b8
  try simp only [less_eq, Option.bind_some, n_insertionSort_b2, n_insertionSort_l2, n_insertionSort_b0, n_insertionSort_l0, n_insertionSort, n_siftDown_b0, n_siftDown_l0, n_siftDown, n_heapSort_b0, n_heapSort_l0, n_heapSort_b2, n_heapSort_l2, n_heapSort, n_breakPatterns_b0, n_breakPatterns_l0, n_breakPatterns, n_order2, n_median, n_medianAdjacent, n_choosePivot, n_reverseRange_b0, n_reverseRange_l0, n_reverseRange, n_partialInsertionSort_b2, n_partialInsertionSort_l2, n_partialInsertionSort_b4, n_partialInsertionSort_l4, n_partialInsertionSort_b6, n_partialInsertionSort_l6, n_partialInsertionSort_b0, n_partialInsertionSort_l0, n_partialInsertionSort, n_partitionEqual_b2, n_partitionEqual_l2, n_partitionEqual_b4, n_partitionEqual_l4, n_partitionEqual_b0, n_partitionEqual_l0, n_partitionEqual, n_partition_b0, n_partition_l0, n_partition_b2, n_partition_l2, n_partition_b6, n_partition_l6]
  try rfl
theorem n_partition_l8 : slices_partitionOrdered_int__l8 = g_partition_l8 (ltI) := by
  funext 
  unfold slices_partitionOrdered_int__l8 g_partition_l8
  try simp only [less_eq, Option.bind_some, n_insertionSort_b2, n_insertionSort_l2, n_insertionSort_b0, n_insertionSort_l0, n_insertionSort, n_siftDown_b0, n_siftDown_l0, n_siftDown, n_heapSort_b0, n_heapSort_l0, n_heapSort_b2, n_heapSort_l2, n_heapSort, n_breakPatterns_b0, n_breakPatterns_l0, n_breakPatterns, n_order2, n_median, n_medianAdjacent, n_choosePivot, n_reverseRange_b0, n_reverseRange_l0, n_reverseRange, n_partialInsertionSort_b2, n_partialInsertionSort_l2, n_partialInsertionSort_b4, n_partialInsertionSort_l4, n_partialInsertionSort_b6, n_partialInsertionSort_l6, n_partialInsertionSort_b0, n_partialInsertionSort_l0, n_partialInsertionSort, n_partitionEqual_b2, n_partitionEqual_l2, n_partitionEqual_b4, n_partitionEqual_l4, n_partitionEqual_b0, n_partitionEqual_l0, n_partitionEqual, n_partition_b0, n_partition_l0, n_partition_b2, n_partition_l2, n_partition_b6, n_partition_l6, n_partition_b8]
  try rfl
theorem n_partition_b4 : slices_partitionOrdered_int__b4 = g_partition_b4 (ltI) := by
  funext 
  unfold slices_partitionOrdered_int__b4 g_partition_b4
  try simp only [less_eq, Option.bind_some, n_insertionSort_b2, n_insertionSort_l2, n_insertionSort_b0, n_insertionSort_l0, n_insertionSort, n_siftDown_b0, n_siftDown_l0, n_siftDown, n_heapSort_b0, n_heapSort_l0, n_heapSort_b2, n_heapSort_l2, n_heapSort, n_breakPatterns_b0, n_breakPatterns_l0, n_breakPatterns, n_order2, n_median, n_medianAdjacent, n_choosePivot, n_reverseRange_b0, n_reverseRange_l0, n_reverseRange, n_partialInsertionSort_b2, n_partialInsertionSort_l2, n_partialInsertionSort_b4, n_partialInsertionSort_l4, n_partialInsertionSort_b6, n_partialInsertionSort_l6, n_partialInsertionSort_b0, n_partialInsertionSort_l0, n_partialInsertionSort, n_partitionEqual_b2, n_partitionEqual_l2, n_partitionEqual_b4, n_partitionEqual_l4, n_partitionEqual_b0, n_partitionEqual_l0, n_partitionEqual, n_partition_b0, n_partition_l0, n_partition_b2, n_partition_l2, n_partition_b6, n_partition_l6, n_partition_b8, n_partition_l8]
  try rfl
theorem n_partition_l4 : slices_partitionOrdered_int__l4 = g_partition_l4 (ltI) := by
  funext 
  unfold slices_partitionOrdered_int__l4 g_partition_l4
  try simp only [less_eq, Option.bind_some, n_insertionSort_b2, n_insertionSort_l2, n_insertionSort_b0, n_insertionSort_l0, n_insertionSort, n_siftDown_b0, n_siftDown_l0, n_siftDown, n_heapSort_b0, n_heapSort_l0, n_heapSort_b2, n_heapSort_l2, n_heapSort, n_breakPatterns_b0, n_breakPatterns_l0, n_breakPatterns, n_order2, n_median, n_medianAdjacent, n_choosePivot, n_reverseRange_b0, n_reverseRange_l0, n_reverseRange, n_partialInsertionSort_b2, n_partialInsertionSort_l2, n_partialInsertionSort_b4, n_partialInsertionSort_l4, n_partialInsertionSort_b6, n_partialInsertionSort_l6, n_partialInsertionSort_b0, n_partialInsertionSort_l0, n_partialInsertionSort, n_partitionEqual_b2, n_partitionEqual_l2, n_partitionEqual_b4, n_partitionEqual_l4, n_partitionEqual_b0, n_partitionEqual_l0, n_partitionEqual, n_partition_b0, n_partition_l0, n_partition_b2, n_partition_l2, n_partition_b6, n_partition_l6, n_partition_b8, n_partition_l8, n_partition_b4]
  try rfl
theorem n_partition : slices_partitionOrdered_int_ = g_partition (ltI) := by
  funext 
  unfold slices_partitionOrdered_int_ g_partition
  try simp only [less_eq, Option.bind_some, n_insertionSort_b2, n_insertionSort_l2, n_insertionSort_b0, n_insertionSort_l0, n_insertionSort, n_siftDown_b0, n_siftDown_l0, n_siftDown, n_heapSort_b0, n_heapSort_l0, n_heapSort_b2, n_heapSort_l2, n_heapSort, n_breakPatterns_b0, n_breakPatterns_l0, n_breakPatterns, n_order2, n_median, n_medianAdjacent, n_choosePivot, n_reverseRange_b0, n_reverseRange_l0, n_reverseRange, n_partialInsertionSort_b2, n_partialInsertionSort_l2, n_partialInsertionSort_b4, n_partialInsertionSort_l4, n_partialInsertionSort_b6, n_partialInsertionSort_l6, n_partialInsertionSort_b0, n_partialInsertionSort_l0, n_partialInsertionSort, n_partitionEqual_b2, n_partitionEqual_l2, n_partitionEqual_b4, n_partitionEqual_l4, n_partitionEqual_b0, n_partitionEqual_l0, n_partitionEqual, n_partition_b0, n_partition_l0, n_partition_b2, n_partition_l2, n_partition_b6, n_partition_l6, n_partition_b8, n_partition_l8, n_partition_b4, n_partition_l4]
  try rfl
theorem n_pdqsort_b0 : slices_pdqsortOrdered_int__b0 = g_pdqsort_b0 (ltI) := by
  funext 
  unfold slices_pdqsortOrdered_int__b0 g_pdqsort_b0
  try simp only [less_eq, Option.bind_some, n_insertionSort_b2, n_insertionSort_l2, n_insertionSort_b0, n_insertionSort_l0, n_insertionSort, n_siftDown_b0, n_siftDown_l0, n_siftDown, n_heapSort_b0, n_heapSort_l0, n_heapSort_b2, n_heapSort_l2, n_heapSort, n_breakPatterns_b0, n_breakPatterns_l0, n_breakPatterns, n_order2, n_median, n_medianAdjacent, n_choosePivot, n_reverseRange_b0, n_reverseRange_l0, n_reverseRange, n_partialInsertionSort_b2, n_partialInsertionSort_l2, n_partialInsertionSort_b4, n_partialInsertionSort_l4, n_partialInsertionSort_b6, n_partialInsertionSort_l6, n_partialInsertionSort_b0, n_partialInsertionSort_l0, n_partialInsertionSort, n_partitionEqual_b2, n_partitionEqual_l2, n_partitionEqual_b4, n_partitionEqual_l4, n_partitionEqual_b0, n_partitionEqual_l0, n_partitionEqual, n_partition_b0, n_partition_l0, n_partition_b2, n_partition_l2, n_partition_b6, n_partition_l6, n_partition_b8, n_partition_l8, n_partition_b4, n_partition_l4, n_partition]
  try rfl
theorem n_pdqsort_l0 : slices_pdqsortOrdered_int__l0 = g_pdqsort_l0 (ltI) := by
  funext 
  unfold slices_pdqsortOrdered_int__l0 g_pdqsort_l0
  try simp only [less_eq, Option.bind_some, n_insertionSort_b2, n_insertionSort_l2, n_insertionSort_b0, n_insertionSort_l0, n_insertionSort, n_siftDown_b0, n_siftDown_l0, n_siftDown, n_heapSort_b0, n_heapSort_l0, n_heapSort_b2, n_heapSort_l2, n_heapSort, n_breakPatterns_b0, n_breakPatterns_l0, n_breakPatterns, n_order2, n_median, n_medianAdjacent, n_choosePivot, n_reverseRange_b0, n_reverseRange_l0, n_reverseRange, n_partialInsertionSort_b2, n_partialInsertionSort_l2, n_partialInsertionSort_b4, n_partialInsertionSort_l4, n_partialInsertionSort_b6, n_partialInsertionSort_l6, n_partialInsertionSort_b0, n_partialInsertionSort_l0, n_partialInsertionSort, n_partitionEqual_b2, n_partitionEqual_l2, n_partitionEqual_b4, n_partitionEqual_l4, n_partitionEqual_b0, n_partitionEqual_l0, n_partitionEqual, n_partition_b0, n_partition_l0, n_partition_b2, n_partition_l2, n_partition_b6, n_partition_l6, n_partition_b8, n_partition_l8, n_partition_b4, n_partition_l4, n_partition, n_pdqsort_b0]
  try rfl
theorem n_pdqsort_r : slices_pdqsortOrdered_int__r = g_pdqsort_r (ltI) := by
  funext 
  unfold slices_pdqsortOrdered_int__r g_pdqsort_r
  try simp only [less_eq, Option.bind_some, n_insertionSort_b2, n_insertionSort_l2, n_insertionSort_b0, n_insertionSort_l0, n_insertionSort, n_siftDown_b0, n_siftDown_l0, n_siftDown, n_heapSort_b0, n_heapSort_l0, n_heapSort_b2, n_heapSort_l2, n_heapSort, n_breakPatterns_b0, n_breakPatterns_l0, n_breakPatterns, n_order2, n_median, n_medianAdjacent, n_choosePivot, n_reverseRange_b0, n_reverseRange_l0, n_reverseRange, n_partialInsertionSort_b2, n_partialInsertionSort_l2, n_partialInsertionSort_b4, n_partialInsertionSort_l4, n_partialInsertionSort_b6, n_partialInsertionSort_l6, n_partialInsertionSort_b0, n_partialInsertionSort_l0, n_partialInsertionSort, n_partitionEqual_b2, n_partitionEqual_l2, n_partitionEqual_b4, n_partitionEqual_l4, n_partitionEqual_b0, n_partitionEqual_l0, n_partitionEqual, n_partition_b0, n_partition_l0, n_partition_b2, n_partition_l2, n_partition_b6, n_partition_l6, n_partition_b8, n_partition_l8, n_partition_b4, n_partition_l4, n_partition, n_pdqsort_b0, n_pdqsort_l0]
  try rfl
theorem n_pdqsort_f : ∀ n, slices_pdqsortOrdered_int__f n = g_pdqsort_f (ltI) n
  | 0 => rfl
  | n + 1 => by
    unfold slices_pdqsortOrdered_int__f g_pdqsort_f
    rw [n_pdqsort_f n, n_pdqsort_r]
theorem n_pdqsort : slices_pdqsortOrdered_int_ = g_pdqsort (ltI) := by
  funext 
  unfold slices_pdqsortOrdered_int_ g_pdqsort
  try simp only [less_eq, Option.bind_some, n_insertionSort_b2, n_insertionSort_l2, n_insertionSort_b0, n_insertionSort_l0, n_insertionSort, n_siftDown_b0, n_siftDown_l0, n_siftDown, n_heapSort_b0, n_heapSort_l0, n_heapSort_b2, n_heapSort_l2, n_heapSort, n_breakPatterns_b0, n_breakPatterns_l0, n_breakPatterns, n_order2, n_median, n_medianAdjacent, n_choosePivot, n_reverseRange_b0, n_reverseRange_l0, n_reverseRange, n_partialInsertionSort_b2, n_partialInsertionSort_l2, n_partialInsertionSort_b4, n_partialInsertionSort_l4, n_partialInsertionSort_b6, n_partialInsertionSort_l6, n_partialInsertionSort_b0, n_partialInsertionSort_l0, n_partialInsertionSort, n_partitionEqual_b2, n_partitionEqual_l2, n_partitionEqual_b4, n_partitionEqual_l4, n_partitionEqual_b0, n_partitionEqual_l0, n_partitionEqual, n_partition_b0, n_partition_l0, n_partition_b2, n_partition_l2, n_partition_b6, n_partition_l6, n_partition_b8, n_partition_l8, n_partition_b4, n_partition_l4, n_partition, n_pdqsort_b0, n_pdqsort_l0, n_pdqsort_r, n_pdqsort_f]
  try rfl
end Go.Fn
set_option linter.unusedSimpArgs false
set_option linter.unusedVariables false
namespace Go.Fn
open Go.R Go.Sort
theorem ltI_swo : SWO ltI := ⟨fun x => decide_eq_false (by omega), fun x y z h1 h2 => decide_eq_true (by have := of_decide_eq_true h1; have := of_decide_eq_true h2; omega), fun x y z h1 h2 => decide_eq_false (by have := of_decide_eq_false h1; have := of_decide_eq_false h2; omega)⟩
theorem sortI_ok (l : List Int) (hl : l.length ≤ 255) : ∃ r : List Int, slices_Sort___int_int_ l = some (r, ()) ∧ r.Perm l ∧ ∀ i j, i < j → j < r.length → r.getD i 0 ≤ r.getD j 0 := by
  obtain ⟨L, hL⟩ := len_ok hl
  obtain ⟨r, h1, h2, h3⟩ := pdq_all ltI_swo l L hl
  refine ⟨r, ?_, h2, fun i j hij hj => ?_⟩
  · unfold slices_Sort___int_int_
    rw [n_pdqsort, show rConv .u64 (rLen l) = (l.length : Int) from convU (by omega), hL, show rLen l = (l.length : Int) from rfl]
    simp only [Option.bind_some, h1]
  · have := of_decide_eq_false (h3 i j hij hj)
    have e1 : r.getD i default = r.getD i 0 := rfl
    have e2 : r.getD j default = r.getD j 0 := rfl
    rw [e1, e2] at this
    omega
theorem compact_mem (l : List Int) (x : Int) : x ∈ Lib.compact l ↔ x ∈ l := by
  have key : ∀ j, j < l.length → l.toArray[j]! ∈ Lib.compact l := by
    intro j
    induction j with
    | zero =>
      intro hj
      unfold Lib.compact Lib.compactUpTo
      exact List.mem_map.2 ⟨0, List.mem_filter.2 ⟨List.mem_range.2 hj, by simp [Lib.keeps]⟩, rfl⟩
    | succ j ih =>
      intro hj
      by_cases h : l.toArray[j + 1]! = l.toArray[j]!
      · rw [h]; exact ih (by omega)
      · unfold Lib.compact Lib.compactUpTo
        exact List.mem_map.2 ⟨j + 1, List.mem_filter.2 ⟨List.mem_range.2 hj, Lib.keeps_pos h⟩, rfl⟩
  constructor
  · intro h
    unfold Lib.compact Lib.compactUpTo at h
    obtain ⟨j, hj, rfl⟩ := List.mem_map.1 h
    have hj := List.mem_range.1 (List.mem_filter.1 hj).1
    show l.toArray[j]! ∈ l
    rw [getElem!_pos _ j (by simpa using hj), List.getElem_toArray]
    exact List.getElem_mem _
  · intro h
    obtain ⟨j, hj, rfl⟩ := List.getElem_of_mem h
    have := key j hj
    rwa [getElem!_pos _ j (by simpa using hj), List.getElem_toArray] at this
theorem compact_lt (l : List Int) (hs : ∀ i j, i < j → j < l.length → l.getD i 0 ≤ l.getD j 0) : (Lib.compact l).Pairwise (fun x y => x < y) := by
  have ga : ∀ i, i < l.length → l.toArray[i]! = l.getD i 0 := fun i hi => by
    rw [getElem!_pos _ i (by simpa using hi), List.getElem_toArray, List.getD_eq_getElem?_getD, List.getElem?_eq_getElem hi]; rfl
  unfold Lib.compact Lib.compactUpTo
  rw [List.pairwise_map]
  refine List.Pairwise.imp_of_mem (fun {i j} hi hj h => ?_) (List.pairwise_lt_range.filter _)
  have hj1 := List.mem_range.1 (List.mem_filter.1 hj).1
  have hj2 := (List.mem_filter.1 hj).2
  have hk : l.toArray[j]! ≠ l.toArray[j - 1]! := by
    unfold Lib.keeps at hj2
    have := of_decide_eq_true hj2
    exact this.resolve_left (by omega)
  show l.toArray[i]! < l.toArray[j]!
  rw [ga j hj1, ga (j - 1) (by omega)] at hk
  rw [ga i (by omega), ga j hj1]
  have h1 := hs (j - 1) j (by omega) hj1
  by_cases e : i = j - 1
  · subst e; omega
  · have h2 := hs i (j - 1) (by omega) (by omega)
    omega
/-- The parcels, each once, in ascending order. -/
def ParIs (l : List Ev) (b : Int) (r : List Int) : Prop := (∀ x, x ∈ r ↔ (1 ≤ x ∧ x < b ∧ ∃ e, e ∈ l ∧ e.2.2.2.2.1 = x)) ∧ r.Pairwise (fun x y => x < y)
theorem parIs_ext {l : List Ev} {b : Int} {r s : List Int} (h1 : ParIs l b r) (h2 : ParIs l b s) : r = s :=
  sorted_ext (lt := fun x y : Int => x < y) (fun x h => by omega) (fun x y h => by omega) h1.2 h2.2 fun x => by rw [h1.1, h2.1]
theorem specP_in (l : List Ev) (p : Int) (out : List Int) (hl : l.length ≤ 60) (ho : out.length ≤ 1000) : ∃ o, spec_ParcelsIn_l2 (l, p, ()) (out, (0 : Int), ()) = some (.inl (o, ())) ∧ (((∃ e, e ∈ l ∧ e.2.2.2.2.1 = p) ∧ o = out ++ [p]) ∨ ((¬ ∃ e, e ∈ l ∧ e.2.2.2.2.1 = p) ∧ o = out)) := by
  have hsm : rSmall (out ++ [p]) = true := small_of (by simp; omega)
  have hap : List.append (α := Int) out (List.append (α := Int) ([] : List Int) [p]) = out ++ [p] := rfl
  obtain ⟨y, hy, hc⟩ := loop_find (body := spec_ParcelsIn_b2 (l, p, ())) (fun n => (out, (n : Int), ())) l.length (by omega) (fun n => !decide ((l.getD n zIIIIIII).2.2.2.2.1 = p)) (Sum.inl (out, ())) (fun n => Sum.inl (out ++ [p], ())) (fun n hn => by
      have he : rCmp .eql (l.getD n zIIIIIII).2.2.2.2.1 p = decide ((l.getD n zIIIIIII).2.2.2.2.1 = p) := by simp [rCmp, Bool.beq_eq_decide_eq]
      unfold spec_ParcelsIn_b2
      simp only [lss_len, hn, decide_true, cond_true, inR_nat, get_nat, he, hap, hsm, succ64 (n := n) (by omega)]
      cases decide ((l.getD n zIIIIIII).2.2.2.2.1 = p) <;> rfl) (by
      unfold spec_ParcelsIn_b2
      simp only [lss_len, Nat.lt_irrefl, decide_false, cond_false])
  unfold spec_ParcelsIn_l2
  rw [show (0 : Int) = ((0 : Nat) : Int) from rfl, hy]
  rcases hc with ⟨hall, rfl⟩ | ⟨_, n, hn, rfl, hk⟩
  · refine ⟨out, rfl, .inr ⟨?_, rfl⟩⟩
    rintro ⟨e, he, hp⟩
    obtain ⟨m, hm, rfl⟩ := List.getElem_of_mem he
    have := (allFrom_iff _ _).1 hall m (Nat.zero_le _) (by omega)
    rw [List.getD_eq_getElem?_getD, List.getElem?_eq_getElem hm, Bool.not_eq_true'] at this
    exact of_decide_eq_false this hp
  · refine ⟨out ++ [p], rfl, .inl ⟨⟨_, getD_mem hn zIIIIIII, ?_⟩, rfl⟩⟩
    rw [Bool.not_eq_false'] at hk
    exact of_decide_eq_true hk
theorem specP_loop (l : List Ev) (hj : jok l = true) : ∀ (s p : Nat) (out : List Int) (n : Nat), 1000 - p ≤ s → 1 ≤ p → p ≤ 1000 → out.length ≤ p → ParIs l (p : Int) out → s < n →
    ∃ r, iter (spec_ParcelsIn_b0 (l, ())) n (out, (p : Int), ()) = some (.inl (r, ())) ∧ ParIs l 1000 r ∧ r.length ≤ 1000 := by
  intro s
  induction s with
  | zero =>
    intro p out n hs h1 hp hl hi hn
    obtain ⟨n, rfl⟩ : ∃ m, n = m + 1 := ⟨n - 1, by omega⟩
    have : p = 1000 := by omega
    subst this
    refine ⟨out, iter_done ?_, hi, hl⟩
    unfold spec_ParcelsIn_b0
    simp only [show rCmp .leq ((1000 : Nat) : Int) (999 : Int) = false from rfl, cond_false]
  | succ s ih =>
    intro p out n hs h1 hp hl hi hn
    obtain ⟨n, rfl⟩ : ∃ m, n = m + 1 := ⟨n - 1, by omega⟩
    by_cases h : p ≤ 999
    · obtain ⟨o, o1, o2⟩ := specP_in l (p : Int) out (jok_len hj) (by omega)
      have hle : rCmp .leq (p : Int) (999 : Int) = true := (leS p 999).trans (decide_eq_true h)
      have hpi : ParIs l ((p + 1 : Nat) : Int) o ∧ o.length ≤ p + 1 := by
        rcases o2 with ⟨he, rfl⟩ | ⟨he, rfl⟩
        · refine ⟨⟨fun x => ?_, ?_⟩, by rw [List.length_append]; simp; omega⟩
          · rw [List.mem_append, List.mem_singleton, hi.1]
            constructor
            · rintro (⟨q1, q2, q3⟩ | rfl)
              · exact ⟨q1, by omega, q3⟩
              · exact ⟨by omega, by omega, he⟩
            · rintro ⟨q1, q2, q3⟩
              by_cases e : x = (p : Int)
              · exact .inr e
              · exact .inl ⟨q1, by omega, q3⟩
          · rw [List.pairwise_append]
            refine ⟨hi.2, List.pairwise_singleton _ _, fun x hx y hy => ?_⟩
            rw [List.mem_singleton] at hy
            have := ((hi.1 x).1 hx).2.1
            omega
        · refine ⟨⟨fun x => ?_, hi.2⟩, by omega⟩
          rw [hi.1]
          constructor
          · rintro ⟨q1, q2, q3⟩; exact ⟨q1, by omega, q3⟩
          · rintro ⟨q1, q2, q3⟩
            by_cases e : x = (p : Int)
            · subst e; exact absurd q3 he
            · exact ⟨q1, by omega, q3⟩
      obtain ⟨r, r1, r2⟩ := ih (p + 1) o n (by omega) (by omega) (by omega) hpi.2 hpi.1 (by omega)
      refine ⟨r, ?_, r2⟩
      rw [← r1]
      refine iter_next ?_
      unfold spec_ParcelsIn_b0
      simp only [hle, cond_true, specJ_eq, hj, Option.bind_some, o1, Sum.elim_inl, succ64 (n := p) (by omega)]
    · have : p = 1000 := by omega
      subst this
      refine ⟨out, iter_done ?_, hi, hl⟩
      unfold spec_ParcelsIn_b0
      simp only [show rCmp .leq ((1000 : Nat) : Int) (999 : Int) = false from rfl, cond_false]
/-- Both give the same parcels. -/
theorem parcels_both (l : List Ev) : ∃ r, spec_ParcelsIn l = some (r, ()) ∧ impl_ParcelsIn l = some (r, ()) ∧ r.length ≤ 1000 ∧ (jok l = true → ParIs l 1000 r) ∧ (jok l = false → r = []) := by
  cases hj : jok l with
  | false =>
    refine ⟨[], ?_, ?_, Nat.zero_le _, (fun h => by cases h), fun _ => rfl⟩
    · have it : iter (spec_ParcelsIn_b0 (l, ())) 1 ([], (1 : Int), ()) = some (.inl ([], ())) := by
        refine iter_done ?_
        unfold spec_ParcelsIn_b0
        simp only [specJ_eq, hj, Option.bind_some, cond_false]
        rfl
      unfold spec_ParcelsIn spec_ParcelsIn_l0
      rw [iter_mono it (Nat.le_of_lt (lt_big (by omega)))]
      rfl
    · unfold impl_ParcelsIn
      rw [implJ_eq, hj]
      rfl
  | true =>
    have h60 := jok_len hj
    obtain ⟨r, r1, r2, r3⟩ := specP_loop l hj 1000 1 [] big (by omega) (by omega) (by omega) (Nat.zero_le _) ⟨fun x => ⟨fun h => absurd h List.not_mem_nil, fun h => by omega⟩, List.Pairwise.nil⟩ (lt_big (by omega))
    have hloop : impl_ParcelsIn_l0 (l, rLen l, ()) ([], (0 : Int), ()) = some (.inl (l.foldl (fun out e => out ++ [e.2.2.2.2.1]) [], ())) := by
      refine (loop_fold (body := impl_ParcelsIn_b0 (l, rLen l, ())) l zIIIIIII (by omega) (fun out e => out ++ [e.2.2.2.2.1]) (fun out n => (out, (n : Int), ())) (fun n out => out.length ≤ n) (fun out => Sum.inl (out, ())) (fun n out hn ho => ⟨?_, by simp; omega⟩) (fun out ho => ?_) [] (Nat.le_refl _)).1
      · have hsm : rSmall (out ++ [(l.getD n zIIIIIII).2.2.2.2.1]) = true := small_of (by simp; omega)
        have hap : List.append (α := Int) out (List.append (α := Int) ([] : List Int) [(l.getD n zIIIIIII).2.2.2.2.1]) = out ++ [(l.getD n zIIIIIII).2.2.2.2.1] := rfl
        unfold impl_ParcelsIn_b0
        simp only [lss_len, hn, decide_true, cond_true, inR_nat, get_nat, hap, hsm, succ64 (n := n) (by omega)]
      · unfold impl_ParcelsIn_b0
        simp only [lss_len, Nat.lt_irrefl, decide_false, cond_false]
    have hfold : ∀ (m : List Ev) (out : List Int), m.foldl (fun out e => out ++ [e.2.2.2.2.1]) out = out ++ m.map (fun e => e.2.2.2.2.1) := by
      intro m
      induction m with
      | nil => intro out; simp
      | cons e m ih => intro out; rw [List.foldl_cons, ih]; simp
    rw [hfold, List.nil_append] at hloop
    obtain ⟨z, z1, z2, z3⟩ := sortI_ok (l.map fun e => e.2.2.2.2.1) (by rw [List.length_map]; omega)
    have hzl : z.length ≤ 60 := by rw [z2.length_eq, List.length_map]; exact h60
    have hzs : rSmall z = true := small_of (by omega)
    have hpar : ParIs l 1000 (Lib.compact z) := by
      refine ⟨fun x => ?_, compact_lt z z3⟩
      rw [compact_mem, z2.mem_iff, List.mem_map]
      constructor
      · rintro ⟨e, he, rfl⟩
        have := (evOk_iff.1 (jok_all hj e he)).2.2.2.2.1
        exact ⟨by omega, by omega, e, he, rfl⟩
      · rintro ⟨_, _, e, he, h⟩
        exact ⟨e, he, h⟩
    have heq : Lib.compact z = r := parIs_ext hpar r2
    refine ⟨r, ?_, ?_, r3, fun _ => r2, fun h => by cases h⟩
    · unfold spec_ParcelsIn spec_ParcelsIn_l0
      rw [show (1 : Int) = ((1 : Nat) : Int) from rfl, r1]
      rfl
    · unfold impl_ParcelsIn
      simp only [implJ_eq, hj, Option.bind_some, Bool.not_true, cond_false, hloop, Sum.elim_inl, z1]
      unfold slices_Compact___int_int_
      rw [hzs, heq]
      rfl
theorem parcelsIn_true (l : List Ev) (hl0 : l.length ≤ 9223372036854775807) : laws_FnExactParcelsIn l = some (true, ()) := by
  unfold laws_FnExactParcelsIn
  rw [szEvS_eq l _ hl0 (by decide) (by decide)]
  simp only [Option.bind_some]
  cases hd : decide ((1048576 : Int) < (l.length : Int)) with
  | true => rfl
  | false =>
    have hd := of_decide_eq_false hd
    have hl : l.length ≤ 1073741824 := by omega
    simp only [cond_false]
    rw [neg_of (by omega)]
    obtain ⟨r, r1, r2, r3, _, _⟩ := parcels_both l
    have m1 := markEventS_eq l 1 hl (by decide) (by decide)
    have m2 := markIntS_eq r 1 (by omega) (by decide) (by decide)
    have m3 := heldIntS_eq r.length 1 (by omega) (by decide) (by decide)
    simp only [cond_false, toEvS_eq l hl, Option.bind_some, r1, r2, eqIntS_self r (by omega), eqEvS_self l hl, m1, m2, m3, Bool.not_true, neq_self]
    rw [neg_of (by omega), neg_of (by omega)]
    rfl
end Go.Fn
