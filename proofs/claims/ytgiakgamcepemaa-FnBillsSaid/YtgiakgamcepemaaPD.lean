import Derived.Test.YtgiakgamcepemaaFnC
import Derived.Test.YtgiakgamcepemaaPC
/- Plain functions that stand for Go functions, and what they answer: PD. Conditions: none. -/
set_option autoImplicit false
set_option linter.unusedVariables false
set_option linter.unusedSimpArgs false
/-! PD: rounds. -/
set_option linter.unusedSimpArgs false
namespace Go.Fn
open Go.R
theorem toStop_eq (a0 a1 a2 a3 a4 : Int) : laws_toStop a0 a1 a2 a3 a4 = some (a0, a1, a2, a3, a4, ()) := rfl
theorem toStopS_eq (l : List (Int × Int × Int × Int × Int)) (hl : l.length ≤ 1073741824) : laws_toStopS l = some (l, ()) := by
  unfold laws_toStopS
  rw [repOk_len hl]
  have hloop : laws_toStopS_l0 (l, ()) (List.replicate l.length (0, 0, 0, 0, 0), (0 : Int), ()) = some (Sum.inl (l, ())) := by
    have := loop_end (body := laws_toStopS_b0 (l, ())) (fun n => (l.take n ++ List.replicate (l.length - n) (0, 0, 0, 0, 0), (n : Int), ())) l.length (by omega) (Sum.inl (l, ())) (fun n hn => ?_) ?_
    · unfold laws_toStopS_l0; simpa using this
    · unfold laws_toStopS_b0
      have hx : n < (l.take n ++ List.replicate (l.length - n) ((0, 0, 0, 0, 0) : Int × Int × Int × Int × Int)).length := by rw [fill_len _ _ (Nat.le_of_lt hn)]; exact hn
      simp only [lss_len, inR_nat, hn, hx, decide_true, cond_true, get_nat, toStop_eq, Option.bind_some, succ64 (n := n) (by omega), put_nat]
      rw [← set_fill l (0, 0, 0, 0, 0) hn, getD_lt hn zIIIII (0, 0, 0, 0, 0)]
    · unfold laws_toStopS_b0
      simp only [lss_len, Nat.lt_irrefl, decide_false, cond_false, Nat.sub_self, List.replicate_zero, List.append_nil, List.take_length]
  have hr : rRep (rLen l) (((0 : Int), (0 : Int), (0 : Int), (0 : Int), (0 : Int))) = List.replicate l.length (0, 0, 0, 0, 0) := rep_nat _ _
  rw [hr]
  simp only [cond_true]
  rw [hloop]
  rfl
theorem eqStop_self (a0 a1 a2 a3 a4 : Int) : laws_eqStop a0 a1 a2 a3 a4 a0 a1 a2 a3 a4 = some (true, ()) := by
  unfold laws_eqStop
  simp only [neq_self, cond_false]
theorem eqStopS_self (l : List (Int × Int × Int × Int × Int)) (hl : l.length ≤ 1073741824) : laws_eqStopS l l = some (true, ()) := by
  unfold laws_eqStopS
  rw [neq_self]
  have hloop : laws_eqStopS_l0 (l, l, ()) ((0 : Int), ()) = some (Sum.inr (Sum.inl ())) := by
    refine loop_end (fun n => ((n : Int), ())) l.length (by omega) _ (fun n hn => ?_) ?_
    · unfold laws_eqStopS_b0
      simp only [lss_len, inR_nat, hn, decide_true, cond_true, eqStop_self, Option.bind_some, succ64 (n := n) (by omega)]
      rfl
    · unfold laws_eqStopS_b0
      simp only [lss_len, Nat.lt_irrefl, decide_false, cond_false]
  simp only [cond_false]
  rw [hloop]
  rfl
theorem szStopS_eq (l : List (Int × Int × Int × Int × Int)) (a : Int) (hl : l.length ≤ 9223372036854775807) (ha : 0 ≤ a) (ha' : a ≤ 1048576) : laws_szStopS l a = some (bif decide (a < (l.length : Int)) then -1 else a - (l.length : Int), ()) := by
  unfold laws_szStopS
  have h1 : rArith .sub .i64 a (rLen l) = a - (l.length : Int) := sub64 (by unfold rLen; omega) (by unfold rLen; omega)
  rw [h1]
  have h2 : rCmp .lss (a - (l.length : Int)) 0 = decide (a < (l.length : Int)) := by simp only [rCmp, decide_eq_decide]; omega
  rw [h2]
  cases decide (a < (l.length : Int)) <;> rfl

/-! ### Rounds -/
abbrev Stp := Int × Int × Int × Int × Int
theorem toIntSS_eq (l : List (List Int)) (hl : l.length ≤ 1073741824) (hr : ∀ r ∈ l, r.length ≤ 1073741824) : laws_toIntSS l = some (l, ()) := by
  unfold laws_toIntSS
  rw [repOk_len hl]
  have hloop : laws_toIntSS_l0 (l, ()) (List.replicate l.length [], (0 : Int), ()) = some (Sum.inl (l, ())) := by
    have := loop_end (body := laws_toIntSS_b0 (l, ())) (fun n => (l.take n ++ List.replicate (l.length - n) [], (n : Int), ())) l.length (by omega) (Sum.inl (l, ())) (fun n hn => ?_) ?_
    · unfold laws_toIntSS_l0; simpa using this
    · unfold laws_toIntSS_b0
      have hx : n < (l.take n ++ List.replicate (l.length - n) ([] : List Int)).length := by rw [fill_len _ _ (Nat.le_of_lt hn)]; exact hn
      have hrow : (l.getD n zLIl).length ≤ 1073741824 := by
        rw [List.getD_eq_getElem?_getD, List.getElem?_eq_getElem hn]
        exact hr _ (List.getElem_mem hn)
      simp only [lss_len, inR_nat, hn, hx, decide_true, cond_true, get_nat, toIntS_eq _ hrow, Option.bind_some, succ64 (n := n) (by omega), put_nat]
      rw [← set_fill l [] hn, getD_lt hn zLIl []]
    · unfold laws_toIntSS_b0
      simp only [lss_len, Nat.lt_irrefl, decide_false, cond_false, Nat.sub_self, List.replicate_zero, List.append_nil, List.take_length]
  have hr' : rRep (rLen l) ([] : List Int) = List.replicate l.length [] := rep_nat _ _
  rw [hr']
  simp only [cond_true]
  rw [hloop]
  rfl
theorem eqIntSS_self (l : List (List Int)) (hl : l.length ≤ 1073741824) (hr : ∀ r ∈ l, r.length ≤ 1073741824) : laws_eqIntSS l l = some (true, ()) := by
  unfold laws_eqIntSS
  rw [neq_self]
  have hloop : laws_eqIntSS_l0 (l, l, ()) ((0 : Int), ()) = some (Sum.inr (Sum.inl ())) := by
    refine loop_end (fun n => ((n : Int), ())) l.length (by omega) _ (fun n hn => ?_) ?_
    · unfold laws_eqIntSS_b0
      have hrow : (l.getD n zLIl).length ≤ 1073741824 := by
        rw [List.getD_eq_getElem?_getD, List.getElem?_eq_getElem hn]
        exact hr _ (List.getElem_mem hn)
      simp only [lss_len, inR_nat, hn, decide_true, cond_true, get_nat, eqIntS_self _ hrow, Option.bind_some, succ64 (n := n) (by omega)]
      rfl
    · unfold laws_eqIntSS_b0
      simp only [lss_len, Nat.lt_irrefl, decide_false, cond_false]
  simp only [cond_false]
  rw [hloop]
  rfl
theorem szIntS_eq (l : List Int) (a : Int) (hl : l.length ≤ 9223372036854775807) (ha : 0 ≤ a) (ha' : a ≤ 1048576) : laws_szIntS l a = some (bif decide (a < (l.length : Int)) then -1 else a - (l.length : Int), ()) := by
  unfold laws_szIntS
  have h1 : rArith .sub .i64 a (rLen l) = a - (l.length : Int) := sub64 (by unfold rLen; omega) (by unfold rLen; omega)
  rw [h1]
  have h2 : rCmp .lss (a - (l.length : Int)) 0 = decide (a < (l.length : Int)) := by simp only [rCmp, decide_eq_decide]; omega
  rw [h2]
  cases decide (a < (l.length : Int)) <;> rfl
def szStep (a : Int) (r : List Int) : Int ⊕ (Int × Unit ⊕ (Int × Unit ⊕ Empty)) := bif decide (a < (r.length : Int)) then .inr (.inl (-1, ())) else .inl (a - (r.length : Int))
theorem szRun : ∀ (l : List (List Int)) (a : Int), 0 ≤ a → ∃ y, runL szStep (fun a => .inr (.inl (a, ()))) l a = y ∧ (y = .inl (-1, ()) ∨ ∃ b, y = .inr (.inl (b, ())) ∧ 0 ≤ b ∧ b ≤ a ∧ ∀ r ∈ l, (r.length : Int) ≤ a)
  | [], a, ha => ⟨_, rfl, .inr ⟨a, rfl, ha, Int.le_refl _, fun r hr => nomatch hr⟩⟩
  | r :: l, a, ha => by
    simp only [runL, szStep]
    cases hd : decide (a < (r.length : Int)) with
    | true => exact ⟨_, rfl, .inl rfl⟩
    | false =>
      have hd := of_decide_eq_false hd
      obtain ⟨y, h1, h2⟩ := szRun l (a - (r.length : Int)) (by omega)
      refine ⟨y, h1, h2.imp id fun ⟨b, q1, q2, q3, q4⟩ => ⟨b, q1, q2, by omega, fun r' hr' => ?_⟩⟩
      cases hr' with
      | head => omega
      | tail _ hm => have := q4 r' hm; omega
theorem szIntSS_eq (l : List (List Int)) (a : Int) (hl : l.length ≤ 9223372036854775807) (hr : ∀ r ∈ l, r.length ≤ 9223372036854775807) (ha : 0 ≤ a) (ha' : a ≤ 1048576) :
    ∃ b, laws_szIntSS l a = some (b, ()) ∧ (b = -1 ∨ (0 ≤ b ∧ b ≤ a ∧ (l.length : Int) ≤ a ∧ ∀ r ∈ l, (r.length : Int) ≤ a)) := by
  unfold laws_szIntSS
  have h1 : rArith .sub .i64 a (rLen l) = a - (l.length : Int) := sub64 (by unfold rLen; omega) (by unfold rLen; omega)
  have h2 : rCmp .lss (a - (l.length : Int)) 0 = decide (a < (l.length : Int)) := by simp only [rCmp, decide_eq_decide]; omega
  rw [h1, h2]
  cases hd : decide (a < (l.length : Int)) with
  | true => exact ⟨-1, rfl, .inl rfl⟩
  | false =>
    have hd := of_decide_eq_false hd
    obtain ⟨y, q1, q2⟩ := szRun l (a - (l.length : Int)) (by omega)
    have hloop : laws_szIntSS_l0 (l, ()) (a - (l.length : Int), (0 : Int), ()) = some y := by
      rw [← q1]
      refine loop_run (body := laws_szIntSS_b0 (l, ())) l zLIl (by omega) (fun a n => (a, (n : Int), ())) szStep _ (fun _ a => 0 ≤ a ∧ a ≤ 1048576) (fun n a hn hi => ⟨?_, fun b hb => ?_⟩) (fun a _ => ?_) (a - (l.length : Int)) ⟨by omega, by omega⟩
      · have hrow : (l.getD n zLIl).length ≤ 9223372036854775807 := by
          rw [List.getD_eq_getElem?_getD, List.getElem?_eq_getElem hn]
          exact hr _ (List.getElem_mem hn)
        unfold laws_szIntSS_b0 szStep
        simp only [lss_len, inR_nat, hn, decide_true, cond_true, get_nat, szIntS_eq _ _ hrow hi.1 hi.2, Option.bind_some, succ64 (n := n) (by omega)]
        cases hd : decide (a < ((l.getD n zLIl).length : Int)) with
        | true => rfl
        | false =>
          have hd := of_decide_eq_false hd
          simp only [cond_false]
          rw [neg_of (by omega)]
          rfl
      · unfold szStep at hb
        cases hd : decide (a < ((l.getD n zLIl).length : Int)) with
        | true => rw [hd] at hb; cases hb
        | false =>
          have hd' := of_decide_eq_false hd
          rw [hd] at hb
          injection hb with hb
          subst hb
          exact ⟨by omega, by omega⟩
      · unfold laws_szIntSS_b0
        simp only [lss_len, Nat.lt_irrefl, decide_false, cond_false]
    simp only [cond_false]
    rw [hloop]
    rcases q2 with rfl | ⟨b, rfl, b1, b2, b3⟩
    · exact ⟨-1, rfl, .inl rfl⟩
    · exact ⟨b, rfl, .inr ⟨b1, by omega, by omega, fun r hr => by have := b3 r hr; omega⟩⟩
theorem szRound_eq (a0 a1 : Int) (g : List (List Int)) (s : List Stp) (a : Int) (hg : g.length ≤ 9223372036854775807) (hr : ∀ r ∈ g, r.length ≤ 9223372036854775807) (hs : s.length ≤ 9223372036854775807) (ha : 0 ≤ a) (ha' : a ≤ 1048576) :
    ∃ b, laws_szRound a0 a1 g s a = some (b, ()) ∧ (b = -1 ∨ (0 ≤ b ∧ b ≤ a ∧ (g.length : Int) ≤ a ∧ (∀ r ∈ g, (r.length : Int) ≤ a) ∧ (s.length : Int) ≤ a)) := by
  unfold laws_szRound
  obtain ⟨b, h1, h2⟩ := szIntSS_eq g a hg hr ha ha'
  rw [h1]
  simp only [Option.bind_some]
  rcases h2 with rfl | ⟨q1, q2, q3, q4⟩
  · exact ⟨-1, rfl, .inl rfl⟩
  · rw [neg_of q1]
    simp only [cond_false]
    rw [szStopS_eq s b hs q1 (by omega)]
    simp only [Option.bind_some]
    cases hd : decide (b < (s.length : Int)) with
    | true => exact ⟨-1, rfl, .inl rfl⟩
    | false =>
      have hd := of_decide_eq_false hd
      simp only [cond_false]
      rw [neg_of (by omega)]
      exact ⟨_, rfl, .inr ⟨by omega, by omega, q3, q4, by omega⟩⟩
theorem toRound_eq (a0 a1 : Int) (g : List (List Int)) (s : List Stp) (hg : g.length ≤ 1073741824) (hr : ∀ r ∈ g, r.length ≤ 1073741824) (hs : s.length ≤ 1073741824) : laws_toRound a0 a1 g s = some (a0, a1, g, s, ()) := by
  unfold laws_toRound
  rw [toIntSS_eq g hg hr, toStopS_eq s hs]
  rfl
theorem eqRound_self (a0 a1 : Int) (g : List (List Int)) (s : List Stp) (hg : g.length ≤ 1073741824) (hr : ∀ r ∈ g, r.length ≤ 1073741824) (hs : s.length ≤ 1073741824) : laws_eqRound a0 a1 g s a0 a1 g s = some (true, ()) := by
  unfold laws_eqRound
  rw [neq_self, neq_self, eqIntSS_self g hg hr, eqStopS_self s hs]
  rfl
def legAt (r : List Int) (j : Nat) : Bool := inB (r.getD j zI) 0 200
def rowAt (g : List (List Int)) (n : Nat) : Bool := bif rCmp .neq (rLen (g.getD n zLIl)) (rLen g) then false else allFrom (legAt (g.getD n zLIl)) 0 (g.getD n zLIl).length
def stopOk (s : Stp) : Bool := inB s.1 0 20000 && (inB s.2.1 0 20000 && (!rCmp .gtr s.1 s.2.1 && (inB s.2.2.1 0 200 && (inB s.2.2.2.1 0 1000 && inB s.2.2.2.2 0 1000))))
def roundOk (a0 a1 : Int) (g : List (List Int)) (s : List Stp) : Bool :=
  inB a0 0 20000 && (inB a1 0 1000 && (!rCmp .gtr (rLen s) 6 && (!rCmp .neq (rLen g) (rArith .add .i64 (rLen s) 1) && (allFrom (rowAt g) 0 g.length && allFrom (fun n => stopOk (s.getD n zIIIII)) 0 s.length))))
theorem neq_len {α β : Type} {l : List α} {m : List β} (h : rCmp .neq (rLen l) (rLen m) = false) : l.length = m.length := by
  simp only [rCmp, rLen, bne_eq_false_iff_eq] at h
  omega
theorem contains_eq (r : List Int) (hr : r.length ≤ 1073741824) : slices_ContainsFunc___int_int___impl_RoundOk_1 r = some (Bool.not (allFrom (legAt r) 0 r.length), ()) := by
  unfold slices_ContainsFunc___int_int___impl_RoundOk_1 slices_IndexFunc___int_int___impl_RoundOk_1
  obtain ⟨y, h1, h2⟩ := loop_find (body := slices_IndexFunc___int_int___impl_RoundOk_1_b0 (r, rLen r, ())) (fun n => ((n : Int), ())) r.length (by omega) (legAt r) (Sum.inr (Sum.inl ())) (fun n => Sum.inl ((n : Int), ())) (fun n hn => by
    unfold slices_IndexFunc___int_int___impl_RoundOk_1_b0 impl_RoundOk_1 legAt
    simp only [lss_len, inR_nat, hn, decide_true, cond_true, get_nat, within_eq, Option.bind_some, succ64 (n := n) (by omega)]
    cases inB (r.getD n zI) 0 200 <;> rfl) (by
    unfold slices_IndexFunc___int_int___impl_RoundOk_1_b0
    simp only [lss_len, Nat.lt_irrefl, decide_false, cond_false])
  have h1' : slices_IndexFunc___int_int___impl_RoundOk_1_l0 (r, rLen r, ()) ((0 : Int), ()) = some y := h1
  rw [h1']
  rcases h2 with ⟨e1, rfl⟩ | ⟨e1, n, hn, rfl, _⟩
  · rw [e1]; rfl
  · rw [e1]
    show some (rCmp .geq ((n : Nat) : Int) 0, ()) = some (Bool.not false, ())
    have : rCmp .geq ((n : Nat) : Int) 0 = true := by simp [rCmp]
    rw [this]
    rfl
theorem implRound_eq (a0 a1 : Int) (g : List (List Int)) (s : List Stp) (hg : ∀ r ∈ g, r.length ≤ 1073741824) : impl_RoundOk a0 a1 g s = some (roundOk a0 a1 g s, ()) := by
  unfold impl_RoundOk roundOk
  simp only [timeOk_eq, within_eq, Option.bind_some]
  cases inB a0 0 20000 with
  | false => rfl
  | true =>
    cases inB a1 0 1000 with
    | false => rfl
    | true =>
      cases h6 : rCmp .gtr (rLen s) 6 with
      | true => rfl
      | false =>
        have hs6 : s.length ≤ 6 := by simp [rCmp, rLen] at h6; omega
        cases hn : rCmp .neq (rLen g) (rArith .add .i64 (rLen s) 1) with
        | true => rfl
        | false =>
          have hg7 : g.length = s.length + 1 := by
            rw [add64 (by unfold rLen; omega) (by unfold rLen; omega)] at hn
            simp only [rCmp, rLen, bne_eq_false_iff_eq] at hn
            omega
          have hloop1 : impl_RoundOk_l0 (a0, a1, g, s, g, rLen g, ()) ((0 : Int), ()) = some (bif allFrom (rowAt g) 0 g.length then (Sum.inr (Sum.inl ()) : Bool × Unit ⊕ (Unit ⊕ Empty)) else Sum.inl (false, ())) := by
            refine loop_all (fun n => ((n : Int), ())) g.length (by omega) (rowAt g) _ _ (fun n hn => ?_) ?_
            · have hrow : (g.getD n zLIl).length ≤ 1073741824 := by
                rw [List.getD_eq_getElem?_getD, List.getElem?_eq_getElem hn]
                exact hg _ (List.getElem_mem hn)
              unfold impl_RoundOk_b0 rowAt
              simp only [lss_len, inR_nat, hn, decide_true, cond_true, get_nat, contains_eq _ hrow, Option.bind_some, succ64 (n := n) (by omega)]
              cases rCmp .neq (rLen (g.getD n zLIl)) (rLen g) with
              | true => rfl
              | false => cases allFrom (legAt (g.getD n zLIl)) 0 (g.getD n zLIl).length <;> rfl
            · unfold impl_RoundOk_b0
              simp only [lss_len, Nat.lt_irrefl, decide_false, cond_false]
          have hloop2 : impl_RoundOk_l2 (s, rLen s, ()) ((0 : Int), ()) = some (bif allFrom (fun n => stopOk (s.getD n zIIIII)) 0 s.length then (Sum.inr (Sum.inl ()) : Bool × Unit ⊕ (Unit ⊕ Empty)) else Sum.inl (false, ())) := by
            refine loop_all (fun n => ((n : Int), ())) s.length (by omega) (fun n => stopOk (s.getD n zIIIII)) _ _ (fun n hn => ?_) ?_
            · unfold impl_RoundOk_b2 stopOk
              simp only [lss_len, inR_nat, hn, decide_true, cond_true, get_nat, timeOk_eq, within_eq, Option.bind_some, succ64 (n := n) (by omega)]
              generalize s.getD n zIIIII = e
              cases inB e.1 0 20000 with
              | false => rfl
              | true =>
                cases inB e.2.1 0 20000 with
                | false => rfl
                | true =>
                  cases rCmp .gtr e.1 e.2.1 with
                  | true => rfl
                  | false =>
                    cases inB e.2.2.1 0 200 with
                    | false => rfl
                    | true =>
                      cases inB e.2.2.2.1 0 1000 with
                      | false => rfl
                      | true => cases inB e.2.2.2.2 0 1000 <;> rfl
            · unfold impl_RoundOk_b2
              simp only [lss_len, Nat.lt_irrefl, decide_false, cond_false]
          simp only [Bool.not_true, cond_false]
          rw [hloop1, hloop2]
          cases allFrom (rowAt g) 0 g.length with
          | false => rfl
          | true => cases allFrom (fun n => stopOk (s.getD n zIIIII)) 0 s.length <;> rfl
theorem specRound_eq (a0 a1 : Int) (g : List (List Int)) (s : List Stp) : spec_RoundOk a0 a1 g s = some (roundOk a0 a1 g s, ()) := by
  unfold spec_RoundOk roundOk
  simp only [in_eq, Option.bind_some]
  cases inB a0 0 20000 with
  | false => rfl
  | true =>
    cases inB a1 0 1000 with
    | false => rfl
    | true =>
      cases h6 : rCmp .gtr (rLen s) 6 with
      | true => rfl
      | false =>
        have hs6 : s.length ≤ 6 := by simp [rCmp, rLen] at h6; omega
        cases hn : rCmp .neq (rLen g) (rArith .add .i64 (rLen s) 1) with
        | true => rfl
        | false =>
          have hg7 : g.length = s.length + 1 := by
            rw [add64 (by unfold rLen; omega) (by unfold rLen; omega)] at hn
            simp only [rCmp, rLen, bne_eq_false_iff_eq] at hn
            omega
          have hloop1 : spec_RoundOk_l0 (a0, a1, g, s, ()) ((0 : Int), ()) = some (bif allFrom (rowAt g) 0 g.length then (Sum.inr (Sum.inl ()) : Bool × Unit ⊕ (Unit ⊕ Empty)) else Sum.inl (false, ())) := by
            refine loop_all (fun n => ((n : Int), ())) g.length (by omega) (rowAt g) _ _ (fun n hn => ?_) ?_
            · unfold spec_RoundOk_b0 rowAt
              simp only [lss_len, inR_nat, hn, decide_true, cond_true, get_nat, succ64 (n := n) (by omega)]
              cases hne : rCmp .neq (rLen (g.getD n zLIl)) (rLen g) with
              | true => rfl
              | false =>
                have hlen := neq_len hne
                have hin : spec_RoundOk_l2 (a0, a1, g, s, (n : Int), ()) ((0 : Int), ()) = some (bif allFrom (legAt (g.getD n zLIl)) 0 g.length then (Sum.inr (Sum.inl ()) : Bool × Unit ⊕ (Unit ⊕ Empty)) else Sum.inl (false, ())) := by
                  refine loop_all (fun n => ((n : Int), ())) g.length (by omega) (legAt (g.getD n zLIl)) _ _ (fun m hm => ?_) ?_
                  · have hm' : m < (g.getD n zLIl).length := by rw [hlen]; exact hm
                    unfold spec_RoundOk_b2 legAt
                    simp only [lss_len, inR_nat, hn, hm, get_nat, hm', decide_true, cond_true, in_eq, Option.bind_some, succ64 (n := m) (by omega)]
                    cases inB ((g.getD n zLIl).getD m zI) 0 200 <;> rfl
                  · unfold spec_RoundOk_b2
                    simp only [lss_len, Nat.lt_irrefl, decide_false, cond_false]
                simp only [cond_false]
                rw [hin, hlen]
                cases allFrom (legAt (g.getD n zLIl)) 0 g.length <;> rfl
            · unfold spec_RoundOk_b0
              simp only [lss_len, Nat.lt_irrefl, decide_false, cond_false]
          have hloop2 : spec_RoundOk_l4 (a0, a1, g, s, ()) ((0 : Int), ()) = some (bif allFrom (fun n => stopOk (s.getD n zIIIII)) 0 s.length then (Sum.inr (Sum.inl ()) : Bool × Unit ⊕ (Unit ⊕ Empty)) else Sum.inl (false, ())) := by
            refine loop_all (fun n => ((n : Int), ())) s.length (by omega) (fun n => stopOk (s.getD n zIIIII)) _ _ (fun n hn => ?_) ?_
            · unfold spec_RoundOk_b4 stopOk
              simp only [lss_len, inR_nat, hn, decide_true, cond_true, get_nat, in_eq, Option.bind_some, succ64 (n := n) (by omega)]
              generalize s.getD n zIIIII = e
              have hse : inB e.2.1 0 20000 = true → inB e.1 0 e.2.1 = (inB e.1 0 20000 && !rCmp .gtr e.1 e.2.1) := by
                intro hb
                have hb := inB_iff.1 hb
                rw [Bool.eq_iff_iff, Bool.and_eq_true, inB_iff, inB_iff]
                simp only [rCmp, Bool.not_eq_true', decide_eq_false_iff_not]
                omega
              cases hb : inB e.2.1 0 20000 with
              | false => cases inB e.1 0 20000 <;> rfl
              | true =>
                rw [hse hb]
                cases inB e.1 0 20000 with
                | false => rfl
                | true =>
                  cases rCmp .gtr e.1 e.2.1 with
                  | true => rfl
                  | false =>
                    cases inB e.2.2.1 0 200 with
                    | false => rfl
                    | true =>
                      cases inB e.2.2.2.1 0 1000 with
                      | false => rfl
                      | true => cases inB e.2.2.2.2 0 1000 <;> rfl
            · unfold spec_RoundOk_b4
              simp only [lss_len, Nat.lt_irrefl, decide_false, cond_false]
          simp only [Bool.not_true, cond_false]
          rw [hloop1, hloop2]
          cases allFrom (rowAt g) 0 g.length with
          | false => rfl
          | true => cases allFrom (fun n => stopOk (s.getD n zIIIII)) 0 s.length <;> rfl
theorem roundOk_true (a0 a1 : Int) (g : List (List Int)) (s : List Stp) (hg : g.length ≤ 9223372036854775807) (hr : ∀ r ∈ g, r.length ≤ 9223372036854775807) (hs : s.length ≤ 9223372036854775807) : laws_FnExactRoundOk a0 a1 g s = some (true, ()) := by
  unfold laws_FnExactRoundOk
  obtain ⟨b, h1, h2⟩ := szRound_eq a0 a1 g s 1048576 hg hr hs (by decide) (by decide)
  rw [h1]
  simp only [Option.bind_some]
  rcases h2 with rfl | ⟨q1, q2, q3, q4, q5⟩
  · rfl
  · rw [neg_of q1]
    have hr' : ∀ r ∈ g, r.length ≤ 1073741824 := fun r hr => by have := q4 r hr; omega
    have t := toRound_eq a0 a1 g s (by omega) hr' (by omega)
    have e := eqRound_self a0 a1 g s (by omega) hr' (by omega)
    have i := implRound_eq a0 a1 g s hr'
    simp only [cond_false, t, e, i, Option.bind_some, specRound_eq, rBeq_self, Bool.not_true]
end Go.Fn
