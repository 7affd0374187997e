import Derived.Test.YtgiakgamcepemaaFnA
import Derived.Test.YtgiakgamcepemaaRD
/- Plain functions that stand for Go functions, and what they answer: PA. Conditions: none. -/
set_option autoImplicit false
set_option linter.unusedVariables false
set_option linter.unusedSimpArgs false
/-! PA: events, journals: what the program's and the reference's functions answer. -/
namespace Go.Fn
open Go.R
abbrev Ev := Int × Int × Int × Int × Int × Int × Int
def inB (a lo hi : Int) : Bool := bif decide (a ≥ lo) then decide (a ≤ hi) else false
theorem within_eq (a lo hi : Int) : impl_within a lo hi = some (inB a lo hi, ()) := by
  unfold impl_within inB
  simp only [rCmp]
  cases decide (a ≥ lo) <;> rfl
theorem in_eq (a lo hi : Int) : spec_l01In a lo hi = some (inB a lo hi, ()) := within_eq a lo hi
theorem timeOk_eq (a : Int) : impl_timeOk a = some (inB a 0 20000, ()) := by unfold impl_timeOk; rw [within_eq]; rfl
def evOk (e : Ev) : Bool := bif inB e.1 0 5 then bif inB e.2.1 1 999 then bif inB e.2.2.1 1 100000 then bif inB e.2.2.2.1 1 4 then bif inB e.2.2.2.2.1 1 999 then bif inB e.2.2.2.2.2.1 0 20000 then inB e.2.2.2.2.2.2 0 20000 else false else false else false else false else false else false
theorem bif_some {α : Type} (b : Bool) (x y : α) : (bif b then some x else some y) = some (bif b then x else y) := by cases b <;> rfl
theorem bif_pair (b x y : Bool) : (bif b then (x, ()) else (y, ())) = ((bif b then x else y), ()) := by cases b <;> rfl
theorem specOk_eq (a b c d e f g : Int) : spec_EventOk a b c d e f g = some (evOk (a, b, c, d, e, f, g), ()) := by
  unfold spec_EventOk evOk
  simp only [in_eq, Option.bind_some, bif_some, bif_pair]
theorem implOk_eq (a b c d e f g : Int) : impl_EventOk a b c d e f g = some (evOk (a, b, c, d, e, f, g), ()) := by
  unfold impl_EventOk evOk
  simp only [within_eq, timeOk_eq, Option.bind_some, bif_some, bif_pair]
def ordOk (p e : Ev) : Bool := !(decide (e.1 < p.1) || (decide (e.1 = p.1) && (decide (e.2.1 ≤ p.2.1) || decide (e.2.2.1 ≤ p.2.2.1))))
def jokAt (l : List Ev) : Nat → Bool
  | 0 => evOk (l.getD 0 zIIIIIII)
  | n + 1 => evOk (l.getD (n + 1) zIIIIIII) && ordOk (l.getD n zIIIIIII) (l.getD (n + 1) zIIIIIII)
/-- A journal in order. -/
def jok (l : List Ev) : Bool := bif decide (60 < l.length) then false else allFrom (jokAt l) 0 l.length
theorem len60 (l : List Ev) : rCmp .gtr (rLen l) (60 : Int) = decide (60 < l.length) := by
  simp only [rCmp, rLen, gt_iff_lt, decide_eq_decide]
  omega
theorem implJ_eq (l : List Ev) : impl_JournalOk l = some (jok l, ()) := by
  unfold impl_JournalOk jok
  rw [len60]
  cases hl : decide (60 < l.length) with
  | true => rfl
  | false =>
    have hl : l.length ≤ 60 := by have := of_decide_eq_false hl; omega
    have hloop : impl_JournalOk_l0 (l, l, (rLen l), ()) ((0 : Int), ()) = some (bif allFrom (jokAt l) 0 l.length then (Sum.inr (Sum.inl ()) : Bool × Unit ⊕ (Unit ⊕ Empty)) else Sum.inl (false, ())) := by
      refine loop_all (fun n => ((n : Int), ())) l.length (by omega) (jokAt l) _ _ (fun n hn => ?_) ?_
      · unfold impl_JournalOk_b0
        simp only [lss_len, inR_nat, get_nat, implOk_eq, hn, decide_true, cond_true, Option.bind_some]
        cases n with
        | zero =>
          simp only [jokAt]
          cases evOk (l.getD 0 zIIIIIII) <;> rfl
        | succ n =>
          have hn' : n < l.length := by omega
          simp only [jokAt, succ64 (n := n + 1) (by omega), pred64 (n := n) (by omega), inR_lt hn', get_nat, ordOk, rCmp]
          have e0 : ((((n + 1 : Nat) : Int)) == 0) = false := by rw [beq_eq_false_iff_ne]; omega
          rw [e0]
          simp only [cond_false, cond_true]
          generalize l.getD (n + 1) zIIIIIII = e
          generalize l.getD n zIIIIIII = p
          show (bif !(evOk e) then _ else _) = _
          cases evOk e with
          | false => rfl
          | true =>
            simp only [Bool.not_true, cond_false, Bool.true_and]
            cases decide (e.1 < p.1) with
            | true => rfl
            | false =>
              simp only [cond_false, Bool.false_or]
              have eb : (e.1 == p.1) = decide (e.1 = p.1) := rfl
              rw [eb]
              cases decide (e.1 = p.1) with
              | false => rfl
              | true =>
                simp only [cond_true, Bool.true_and]
                cases decide (e.2.1 ≤ p.2.1) with
                | true => rfl
                | false => cases decide (e.2.2.1 ≤ p.2.2.1) <;> rfl
      · unfold impl_JournalOk_b0
        simp only [lss_len, Nat.lt_irrefl, decide_false, cond_false]
    rw [hloop]
    cases allFrom (jokAt l) 0 l.length <;> rfl
theorem gt0 (n : Nat) : rCmp .gtr ((n + 1 : Nat) : Int) 0 = true := by simp only [rCmp, gt_iff_lt, decide_eq_true_eq]; omega
theorem specJ_eq (l : List Ev) : spec_JournalOk l = some (jok l, ()) := by
  unfold spec_JournalOk jok
  rw [len60]
  cases hl : decide (60 < l.length) with
  | true => rfl
  | false =>
    have hl : l.length ≤ 60 := by have := of_decide_eq_false hl; omega
    have hloop : spec_JournalOk_l0 (l, ()) ((0 : Int), ()) = some (bif allFrom (jokAt l) 0 l.length then (Sum.inr (Sum.inl ()) : Bool × Unit ⊕ (Unit ⊕ Empty)) else Sum.inl (false, ())) := by
      refine loop_all (fun n => ((n : Int), ())) l.length (by omega) (jokAt l) _ _ (fun n hn => ?_) ?_
      · unfold spec_JournalOk_b0
        simp only [lss_len, inR_nat, get_nat, specOk_eq, hn, decide_true, cond_true, Option.bind_some]
        cases n with
        | zero =>
          simp only [jokAt]
          cases evOk (l.getD 0 zIIIIIII) <;> rfl
        | succ n =>
          have hn' : n < l.length := by omega
          simp only [jokAt, gt0, succ64 (n := n + 1) (by omega), pred64 (n := n) (by omega), inR_lt hn', get_nat, ordOk, cond_true]
          simp only [rCmp]
          generalize l.getD (n + 1) zIIIIIII = e
          generalize l.getD n zIIIIIII = p
          show (bif !(evOk e) then _ else _) = _
          cases evOk e with
          | false => rfl
          | true =>
            simp only [Bool.not_true, cond_false, Bool.true_and]
            cases decide (e.1 < p.1) with
            | true => rfl
            | false =>
              simp only [cond_false, Bool.false_or]
              have eb : (e.1 == p.1) = decide (e.1 = p.1) := rfl
              rw [eb]
              cases decide (e.1 = p.1) with
              | false => rfl
              | true =>
                simp only [cond_true, Bool.true_and]
                cases decide (e.2.1 ≤ p.2.1) with
                | true => rfl
                | false => cases decide (e.2.2.1 ≤ p.2.2.1) <;> rfl
      · unfold spec_JournalOk_b0
        simp only [lss_len, Nat.lt_irrefl, decide_false, cond_false]
    rw [hloop]
    cases allFrom (jokAt l) 0 l.length <;> rfl
theorem toEv_eq (a b c d e f g : Int) : laws_toEvent a b c d e f g = some (a, b, c, d, e, f, g, ()) := rfl
/-- The copy of a list of events. -/
theorem toEvS_eq (l : List Ev) (hl : l.length ≤ 1073741824) : laws_toEventS l = some (l, ()) := by
  unfold laws_toEventS
  rw [repOk_len hl]
  have hloop : laws_toEventS_l0 (l, ()) (List.replicate l.length (0, 0, 0, 0, 0, 0, 0), (0 : Int), ()) = some (Sum.inl (l, ())) := by
    have := loop_end (body := laws_toEventS_b0 (l, ())) (fun n => (l.take n ++ List.replicate (l.length - n) (0, 0, 0, 0, 0, 0, 0), (n : Int), ())) l.length (by omega) (Sum.inl (l, ())) (fun n hn => ?_) ?_
    · unfold laws_toEventS_l0; simpa using this
    · unfold laws_toEventS_b0
      have hx : n < (l.take n ++ List.replicate (l.length - n) ((0, 0, 0, 0, 0, 0, 0) : Ev)).length := by rw [fill_len _ _ (Nat.le_of_lt hn)]; exact hn
      simp only [lss_len, inR_nat, hn, hx, decide_true, cond_true, get_nat, toEv_eq, Option.bind_some, succ64 (n := n) (by omega), put_nat]
      rw [← set_fill l (0, 0, 0, 0, 0, 0, 0) hn, getD_lt hn zIIIIIII (0, 0, 0, 0, 0, 0, 0)]
    · unfold laws_toEventS_b0
      simp only [lss_len, Nat.lt_irrefl, decide_false, cond_false, Nat.sub_self, List.replicate_zero, List.append_nil, List.take_length]
  have hr : rRep (rLen l) ((0 : Int), (0 : Int), (0 : Int), (0 : Int), (0 : Int), (0 : Int), (0 : Int)) = List.replicate l.length (0, 0, 0, 0, 0, 0, 0) := rep_nat _ _
  rw [hr]
  simp only [cond_true]
  rw [hloop]
  rfl
theorem neq_self (a : Int) : rCmp .neq a a = false := by simp [rCmp]
theorem eqEv_self (a b c d e f g : Int) : laws_eqEvent a b c d e f g a b c d e f g = some (true, ()) := by
  unfold laws_eqEvent
  simp only [neq_self, cond_false]
theorem eqEvS_self (l : List Ev) (hl : l.length ≤ 1073741824) : laws_eqEventS l l = some (true, ()) := by
  unfold laws_eqEventS
  rw [neq_self]
  have hloop : laws_eqEventS_l0 (l, l, ()) ((0 : Int), ()) = some (Sum.inr (Sum.inl ())) := by
    refine loop_end (fun n => ((n : Int), ())) l.length (by omega) _ (fun n hn => ?_) ?_
    · unfold laws_eqEventS_b0
      simp only [lss_len, inR_nat, hn, decide_true, cond_true, eqEv_self, Option.bind_some, succ64 (n := n) (by omega)]
      rfl
    · unfold laws_eqEventS_b0
      simp only [lss_len, Nat.lt_irrefl, decide_false, cond_false]
  simp only [cond_false]
  rw [hloop]
  rfl
theorem szEvS_eq (l : List Ev) (a : Int) (hl : l.length ≤ 9223372036854775807) (ha : 0 ≤ a) (ha' : a ≤ 1048576) : laws_szEventS l a = some (bif decide (a < (l.length : Int)) then -1 else a - (l.length : Int), ()) := by
  unfold laws_szEventS
  have h1 : rArith .sub .i64 a (rLen l) = a - (l.length : Int) := sub64 (by unfold rLen; omega) (by unfold rLen; omega)
  rw [h1]
  have h2 : rCmp .lss (a - (l.length : Int)) 0 = decide (a < (l.length : Int)) := by simp only [rCmp, decide_eq_decide]; omega
  rw [h2]
  cases decide (a < (l.length : Int)) <;> rfl
theorem journalOk_true (l : List Ev) (hl0 : l.length ≤ 9223372036854775807) : laws_FnExactJournalOk l = some (true, ()) := by
  unfold laws_FnExactJournalOk
  rw [szEvS_eq l _ hl0 (by decide) (by decide)]
  simp only [Option.bind_some]
  cases hd : decide ((1048576 : Int) < (l.length : Int)) with
  | true => rfl
  | false =>
    have hd := of_decide_eq_false hd
    have hl : l.length ≤ 1073741824 := by omega
    simp only [cond_false]
    have h0 : rCmp .lss (1048576 - (l.length : Int)) 0 = false := by simp only [rCmp, decide_eq_false_iff_not]; omega
    rw [h0]
    simp only [cond_false, toEvS_eq l hl, Option.bind_some, specJ_eq, implJ_eq, eqEvS_self l hl]
    have : rBeq (jok l) (jok l) = true := by unfold rBeq; simp
    rw [this]
    rfl
end Go.Fn
