import Derived.Test.YtgiakgamcepemaaFnE
import Derived.Test.YtgiakgamcepemaaPD
/- Plain functions that stand for Go functions, and what they answer: PE. Conditions: none. -/
set_option autoImplicit false
set_option linter.unusedVariables false
set_option linter.unusedSimpArgs false
/-! PE: triangles, orders of stops. -/
set_option linter.unusedSimpArgs false
namespace Go.Fn
open Go.R
theorem roundOk_rows {a0 a1 : Int} {g : List (List Int)} {s : List Stp} (h : roundOk a0 a1 g s = true) : s.length ≤ 6 ∧ g.length = s.length + 1 ∧ (∀ n, n < g.length → (g.getD n zLIl).length = g.length ∧ ∀ m, m < g.length → 0 ≤ (g.getD n zLIl).getD m zI ∧ (g.getD n zLIl).getD m zI ≤ 200) ∧
    (∀ n, n < s.length → stopOk (s.getD n zIIIII) = true) ∧ (0 ≤ a0 ∧ a0 ≤ 20000) ∧ (0 ≤ a1 ∧ a1 ≤ 1000) := by
  unfold roundOk at h
  simp only [Bool.and_eq_true] at h
  obtain ⟨h1, h2, h3, h4, h5, h6⟩ := h
  have hs6 : s.length ≤ 6 := by simp [rCmp, rLen] at h3; omega
  have hg : g.length = s.length + 1 := by
    rw [add64 (by unfold rLen; omega) (by unfold rLen; omega)] at h4
    simp only [rCmp, rLen, Bool.not_eq_true', bne_eq_false_iff_eq] at h4
    omega
  refine ⟨hs6, hg, fun n hn => ?_, fun n hn => (allFrom_iff _ _).1 h6 n (Nat.zero_le _) (by omega), inB_iff.1 h1, inB_iff.1 h2⟩
  have := (allFrom_iff _ _).1 h5 n (Nat.zero_le _) (by omega)
  unfold rowAt at this
  cases hne : rCmp .neq (rLen (g.getD n zLIl)) (rLen g) with
  | true => rw [hne] at this; cases this
  | false =>
    rw [hne] at this
    have hl := neq_len hne
    refine ⟨hl, fun m hm => ?_⟩
    have := (allFrom_iff _ _).1 this m (Nat.zero_le _) (by omega)
    exact inB_iff.1 this
def leg (g : List (List Int)) (i j : Nat) : Int := (g.getD i zLIl).getD j zI
def triAt (g : List (List Int)) (i j k : Nat) : Bool := !rCmp .gtr (leg g i j) (rArith .add .i64 (leg g i k) (leg g k j))
def tri (g : List (List Int)) : Bool := allFrom (fun i => allFrom (fun j => allFrom (triAt g i j) 0 g.length) 0 g.length) 0 g.length
theorem specTri_eq (a0 a1 : Int) (g : List (List Int)) (s : List Stp) : spec_TriangleOk a0 a1 g s = some (roundOk a0 a1 g s && tri g, ()) := by
  unfold spec_TriangleOk
  rw [specRound_eq]
  simp only [Option.bind_some]
  cases hr : roundOk a0 a1 g s with
  | false => rfl
  | true =>
    obtain ⟨h6, hg, hrow, _, _, _⟩ := roundOk_rows hr
    have hl4 : ∀ i j, i < g.length → j < g.length → spec_TriangleOk_l4 (a0, a1, g, s, (i : Int), (j : Int), ()) ((0 : Int), ()) = some (bif allFrom (triAt g i j) 0 g.length then (Sum.inr (Sum.inl ()) : Bool × Unit ⊕ (Unit ⊕ Empty)) else Sum.inl (false, ())) := by
      intro i j hi hj
      refine loop_all (fun n => ((n : Int), ())) g.length (by omega) (triAt g i j) _ _ (fun n hn => ?_) ?_
      · have e1 := (hrow i hi).1
        have e2 := (hrow n hn).1
        unfold spec_TriangleOk_b4 triAt leg
        simp only [lss_len, inR_nat, get_nat, hn, hi, hj, e1, e2, decide_true, cond_true, lets_def, succ64 (n := n) (by omega)]
        cases rCmp .gtr _ _ <;> rfl
      · unfold spec_TriangleOk_b4
        simp only [lss_len, Nat.lt_irrefl, decide_false, cond_false]
    have hl2 : ∀ i, i < g.length → spec_TriangleOk_l2 (a0, a1, g, s, (i : Int), ()) ((0 : Int), ()) = some (bif allFrom (fun j => allFrom (triAt g i j) 0 g.length) 0 g.length then (Sum.inr (Sum.inl ()) : Bool × Unit ⊕ (Unit ⊕ Empty)) else Sum.inl (false, ())) := by
      intro i hi
      refine loop_all (fun n => ((n : Int), ())) g.length (by omega) (fun j => allFrom (triAt g i j) 0 g.length) _ _ (fun n hn => ?_) ?_
      · unfold spec_TriangleOk_b2
        simp only [lss_len, hn, decide_true, cond_true, hl4 i n hi hn, Option.bind_some, succ64 (n := n) (by omega)]
        cases allFrom (triAt g i n) 0 g.length <;> rfl
      · unfold spec_TriangleOk_b2
        simp only [lss_len, Nat.lt_irrefl, decide_false, cond_false]
    have hl0 : spec_TriangleOk_l0 (a0, a1, g, s, ()) ((0 : Int), ()) = some (bif tri g then (Sum.inr (Sum.inl ()) : Bool × Unit ⊕ (Unit ⊕ Empty)) else Sum.inl (false, ())) := by
      refine loop_all (fun n => ((n : Int), ())) g.length (by omega) _ _ _ (fun n hn => ?_) ?_
      · unfold spec_TriangleOk_b0
        simp only [lss_len, hn, decide_true, cond_true, hl2 n hn, Option.bind_some, succ64 (n := n) (by omega)]
        cases allFrom (fun j => allFrom (triAt g n j) 0 g.length) 0 g.length <;> rfl
      · unfold spec_TriangleOk_b0
        simp only [lss_len, Nat.lt_irrefl, decide_false, cond_false]
    simp only [Bool.not_true, cond_false, Bool.true_and]
    rw [hl0]
    cases tri g <;> rfl
theorem implTri_eq (a0 a1 : Int) (g : List (List Int)) (s : List Stp) (hgr : ∀ r ∈ g, r.length ≤ 1073741824) : impl_TriangleOk a0 a1 g s = some (roundOk a0 a1 g s && tri g, ()) := by
  unfold impl_TriangleOk
  rw [implRound_eq a0 a1 g s hgr]
  simp only [Option.bind_some]
  cases hr : roundOk a0 a1 g s with
  | false => rfl
  | true =>
    obtain ⟨h6, hg, hrow, _, _, _⟩ := roundOk_rows hr
    have hl4 : ∀ i j, i < g.length → j < g.length → impl_TriangleOk_l4 (a0, a1, g, s, (i : Int), (j : Int), rLen g, (i : Int), rLen g, (j : Int), rLen g, ()) ((0 : Int), ()) = some (bif allFrom (triAt g i j) 0 g.length then (Sum.inr (Sum.inl ()) : Bool × Unit ⊕ (Unit ⊕ Empty)) else Sum.inl (false, ())) := by
      intro i j hi hj
      refine loop_all (fun n => ((n : Int), ())) g.length (by omega) (triAt g i j) _ _ (fun n hn => ?_) ?_
      · have e1 := (hrow i hi).1
        have e2 := (hrow n hn).1
        unfold impl_TriangleOk_b4 triAt leg
        simp only [lss_len, inR_nat, get_nat, hn, hi, hj, e1, e2, decide_true, cond_true, lets_def, succ64 (n := n) (by omega)]
        cases rCmp .gtr _ _ <;> rfl
      · unfold impl_TriangleOk_b4
        simp only [lss_len, Nat.lt_irrefl, decide_false, cond_false]
    have hl2 : ∀ i, i < g.length → impl_TriangleOk_l2 (a0, a1, g, s, (i : Int), rLen g, (i : Int), rLen g, ()) ((0 : Int), ()) = some (bif allFrom (fun j => allFrom (triAt g i j) 0 g.length) 0 g.length then (Sum.inr (Sum.inl ()) : Bool × Unit ⊕ (Unit ⊕ Empty)) else Sum.inl (false, ())) := by
      intro i hi
      refine loop_all (fun n => ((n : Int), ())) g.length (by omega) (fun j => allFrom (triAt g i j) 0 g.length) _ _ (fun n hn => ?_) ?_
      · unfold impl_TriangleOk_b2
        simp only [lss_len, hn, decide_true, cond_true, hl4 i n hi hn, Option.bind_some, succ64 (n := n) (by omega)]
        cases allFrom (triAt g i n) 0 g.length <;> rfl
      · unfold impl_TriangleOk_b2
        simp only [lss_len, Nat.lt_irrefl, decide_false, cond_false]
    have hl0 : impl_TriangleOk_l0 (a0, a1, g, s, rLen g, ()) ((0 : Int), ()) = some (bif tri g then (Sum.inr (Sum.inl ()) : Bool × Unit ⊕ (Unit ⊕ Empty)) else Sum.inl (false, ())) := by
      refine loop_all (fun n => ((n : Int), ())) g.length (by omega) _ _ _ (fun n hn => ?_) ?_
      · unfold impl_TriangleOk_b0
        simp only [lss_len, hn, decide_true, cond_true, hl2 n hn, Option.bind_some, succ64 (n := n) (by omega)]
        cases allFrom (fun j => allFrom (triAt g n j) 0 g.length) 0 g.length <;> rfl
      · unfold impl_TriangleOk_b0
        simp only [lss_len, Nat.lt_irrefl, decide_false, cond_false]
    simp only [Bool.not_true, cond_false, Bool.true_and]
    rw [hl0]
    cases tri g <;> rfl
theorem triangleOk_true (a0 a1 : Int) (g : List (List Int)) (s : List Stp) (hg : g.length ≤ 9223372036854775807) (hr : ∀ r ∈ g, r.length ≤ 9223372036854775807) (hs : s.length ≤ 9223372036854775807) : laws_FnExactTriangleOk a0 a1 g s = some (true, ()) := by
  unfold laws_FnExactTriangleOk
  obtain ⟨b, h1, h2⟩ := szRound_eq a0 a1 g s 1048576 hg hr hs (by decide) (by decide)
  rw [h1]
  simp only [Option.bind_some]
  rcases h2 with rfl | ⟨q1, q2, q3, q4, q5⟩
  · rfl
  · rw [neg_of q1]
    have hr' : ∀ r ∈ g, r.length ≤ 1073741824 := fun r hr => by have := q4 r hr; omega
    have t := toRound_eq a0 a1 g s (by omega) hr' (by omega)
    have e := eqRound_self a0 a1 g s (by omega) hr' (by omega)
    have i := implTri_eq a0 a1 g s hr'
    simp only [cond_false, t, e, i, Option.bind_some, specTri_eq, rBeq_self, Bool.not_true]

/-! ### Orders -/
def nat (l : List Int) (x : Int) (n : Nat) : Bool := !rCmp .eql (l.getD n zI) x
def hasI (l : List Int) (x : Int) : Bool := !allFrom (nat l x) 0 l.length
theorem eql_comm (a b : Int) : rCmp .eql a b = rCmp .eql b a := by
  simp only [rCmp]
  rw [Bool.eq_iff_iff, beq_iff_eq, beq_iff_eq]
  exact eq_comm
theorem specHas_eq (l : List Int) (x : Int) (hl : l.length ≤ 1073741824) : spec_l02Has l x = some (hasI l x, ()) := by
  unfold spec_l02Has hasI
  have hloop : spec_l02Has_l0 (l, x, ()) ((0 : Int), ()) = some (bif allFrom (nat l x) 0 l.length then (Sum.inr (Sum.inl ()) : Bool × Unit ⊕ (Unit ⊕ Empty)) else Sum.inl (true, ())) := by
    refine loop_all (fun n => ((n : Int), ())) l.length (by omega) (nat l x) _ _ (fun n hn => ?_) ?_
    · unfold spec_l02Has_b0 nat
      simp only [lss_len, inR_nat, get_nat, hn, decide_true, cond_true, succ64 (n := n) (by omega)]
      cases rCmp .eql (l.getD n zI) x <;> rfl
    · unfold spec_l02Has_b0
      simp only [lss_len, Nat.lt_irrefl, decide_false, cond_false]
  rw [hloop]
  cases allFrom (nat l x) 0 l.length <;> rfl
theorem containsI_eq (l : List Int) (x : Int) (hl : l.length ≤ 1073741824) : slices_Contains___int_int_ l x = some (hasI l x, ()) := by
  unfold slices_Contains___int_int_ slices_Index___int_int_ hasI
  obtain ⟨y, h1, h2⟩ := loop_find (body := slices_Index___int_int__b0 (l, x, rLen l, ())) (fun n => ((n : Int), ())) l.length (by omega) (nat l x) (Sum.inr (Sum.inl ())) (fun n => Sum.inl ((n : Int), ())) (fun n hn => by
    unfold slices_Index___int_int__b0 nat
    simp only [lss_len, inR_nat, hn, decide_true, cond_true, get_nat, succ64 (n := n) (by omega), eql_comm x]
    cases rCmp .eql (l.getD n zI) x <;> rfl) (by
    unfold slices_Index___int_int__b0
    simp only [lss_len, Nat.lt_irrefl, decide_false, cond_false])
  have h1' : slices_Index___int_int__l0 (l, x, rLen l, ()) ((0 : Int), ()) = some y := h1
  rw [h1']
  rcases h2 with ⟨e1, rfl⟩ | ⟨e1, n, hn, rfl, _⟩
  · rw [e1]; rfl
  · rw [e1]
    show some (rCmp .geq ((n : Nat) : Int) 0, ()) = some (Bool.not false, ())
    have : rCmp .geq ((n : Nat) : Int) 0 = true := by simp [rCmp]
    rw [this]
    rfl
def ordAt (s : List Stp) (o : List Int) (n : Nat) : Bool := inB (o.getD n zI) 0 (rArith .sub .i64 (rLen s) 1) && !hasI (o.take n) (o.getD n zI)
def orderOk (a0 a1 : Int) (g : List (List Int)) (s : List Stp) (o : List Int) : Bool := roundOk a0 a1 g s && allFrom (ordAt s o) 0 o.length
theorem sub_take {α : Type} (l : List α) (n : Nat) : rSub l 0 (n : Int) = l.take n := by simp [rSub]
theorem subOk_take {α : Type} {l : List α} {n : Nat} (h : n ≤ l.length) : rSubOk l 0 (n : Int) = true := by
  unfold rSubOk
  simp only [Bool.and_eq_true, decide_eq_true_eq]
  omega
theorem take_len {α : Type} {l : List α} {n m : Nat} (h : l.length ≤ m) : (l.take n).length ≤ m := by rw [List.length_take]; omega
theorem specOrder_eq (a0 a1 : Int) (g : List (List Int)) (s : List Stp) (o : List Int) (ho : o.length ≤ 1073741824) : spec_OrderOk a0 a1 g s o = some (orderOk a0 a1 g s o, ()) := by
  unfold spec_OrderOk orderOk
  rw [specRound_eq]
  simp only [Option.bind_some]
  cases hr : roundOk a0 a1 g s with
  | false => rfl
  | true =>
    have hl0 : spec_OrderOk_l0 (o, a0, a1, g, s, ()) ((0 : Int), ()) = some (bif allFrom (ordAt s o) 0 o.length then (Sum.inr (Sum.inl ()) : Bool × Unit ⊕ (Unit ⊕ Empty)) else Sum.inl (false, ())) := by
      refine loop_all (fun n => ((n : Int), ())) o.length (by omega) (ordAt s o) _ _ (fun n hn => ?_) ?_
      · unfold spec_OrderOk_b0 ordAt
        simp only [lss_len, inR_nat, get_nat, hn, decide_true, cond_true, in_eq, Option.bind_some, sub_take, subOk_take (Nat.le_of_lt hn), specHas_eq _ _ (take_len ho), succ64 (n := n) (by omega)]
        cases inB (o.getD n zI) 0 (rArith .sub .i64 (rLen s) 1) with
        | false => rfl
        | true => cases hasI (o.take n) (o.getD n zI) <;> rfl
      · unfold spec_OrderOk_b0
        simp only [lss_len, Nat.lt_irrefl, decide_false, cond_false]
    simp only [Bool.not_true, cond_false, Bool.true_and]
    rw [hl0]
    cases allFrom (ordAt s o) 0 o.length <;> rfl
theorem implOrder_eq (a0 a1 : Int) (g : List (List Int)) (s : List Stp) (o : List Int) (hgr : ∀ r ∈ g, r.length ≤ 1073741824) (ho : o.length ≤ 1073741824) : impl_OrderOk a0 a1 g s o = some (orderOk a0 a1 g s o, ()) := by
  unfold impl_OrderOk orderOk
  rw [implRound_eq a0 a1 g s hgr]
  simp only [Option.bind_some]
  cases hr : roundOk a0 a1 g s with
  | false => rfl
  | true =>
    have hl0 : impl_OrderOk_l0 (o, a0, a1, g, s, o, rLen o, ()) ((0 : Int), ()) = some (bif allFrom (ordAt s o) 0 o.length then (Sum.inr (Sum.inl ()) : Bool × Unit ⊕ (Unit ⊕ Empty)) else Sum.inl (false, ())) := by
      refine loop_all (fun n => ((n : Int), ())) o.length (by omega) (ordAt s o) _ _ (fun n hn => ?_) ?_
      · unfold impl_OrderOk_b0 ordAt
        simp only [lss_len, inR_nat, get_nat, hn, decide_true, cond_true, within_eq, Option.bind_some, sub_take, subOk_take (Nat.le_of_lt hn), containsI_eq _ _ (take_len ho), succ64 (n := n) (by omega)]
        cases inB (o.getD n zI) 0 (rArith .sub .i64 (rLen s) 1) with
        | false => rfl
        | true => cases hasI (o.take n) (o.getD n zI) <;> rfl
      · unfold impl_OrderOk_b0
        simp only [lss_len, Nat.lt_irrefl, decide_false, cond_false]
    simp only [Bool.not_true, cond_false, Bool.true_and]
    rw [hl0]
    cases allFrom (ordAt s o) 0 o.length <;> rfl
theorem orderOk_true (a0 a1 : Int) (g : List (List Int)) (s : List Stp) (o : List Int) (hg : g.length ≤ 9223372036854775807) (hr : ∀ r ∈ g, r.length ≤ 9223372036854775807) (hs : s.length ≤ 9223372036854775807) : laws_FnExactOrderOk a0 a1 g s o = some (true, ()) := by
  unfold laws_FnExactOrderOk
  rw [gtr_len]
  cases hd : decide (1048576 < o.length) with
  | true => rfl
  | false =>
  have hd := of_decide_eq_false hd
  have ho : o.length ≤ 1073741824 := by omega
  simp only [cond_false]
  obtain ⟨b, h1, h2⟩ := szRound_eq a0 a1 g s 1048576 hg hr hs (by decide) (by decide)
  rw [h1]
  simp only [Option.bind_some]
  rcases h2 with rfl | ⟨q1, q2, q3, q4, q5⟩
  · rfl
  · rw [neg_of q1]
    have hr' : ∀ r ∈ g, r.length ≤ 1073741824 := fun r hr => by have := q4 r hr; omega
    have t := toRound_eq a0 a1 g s (by omega) hr' (by omega)
    have e := eqRound_self a0 a1 g s (by omega) hr' (by omega)
    have i := implOrder_eq a0 a1 g s o hr' ho
    simp only [cond_false, t, e, i, toIntS_eq o ho, eqIntS_self o ho, Option.bind_some, specOrder_eq a0 a1 g s o ho, rBeq_self, Bool.not_true]
end Go.Fn
