import Derived.Test.YtgiakgamcepemaaFnF
import Derived.Test.YtgiakgamcepemaaPG
/- Plain functions that stand for Go functions, and what they answer: PH. Conditions: none. -/
set_option autoImplicit false
set_option linter.unusedVariables false
set_option linter.unusedSimpArgs false
/-! PH: the cheapest terms. -/
set_option linter.unusedSimpArgs false
namespace Go.Fn
open Go.R
theorem toTermsS_eq (l : List (Int × Int × Int × Int × Int × Int × Int × Int)) (hl : l.length ≤ 1073741824) : laws_toTermsS l = some (l, ()) := by
  unfold laws_toTermsS
  rw [repOk_len hl]
  have hloop : laws_toTermsS_l0 (l, ()) (List.replicate l.length (0, 0, 0, 0, 0, 0, 0, 0), (0 : Int), ()) = some (Sum.inl (l, ())) := by
    have := loop_end (body := laws_toTermsS_b0 (l, ())) (fun n => (l.take n ++ List.replicate (l.length - n) (0, 0, 0, 0, 0, 0, 0, 0), (n : Int), ())) l.length (by omega) (Sum.inl (l, ())) (fun n hn => ?_) ?_
    · unfold laws_toTermsS_l0; simpa using this
    · unfold laws_toTermsS_b0
      have hx : n < (l.take n ++ List.replicate (l.length - n) ((0, 0, 0, 0, 0, 0, 0, 0) : Int × Int × Int × Int × Int × Int × Int × Int)).length := by rw [fill_len _ _ (Nat.le_of_lt hn)]; exact hn
      simp only [lss_len, inR_nat, hn, hx, decide_true, cond_true, get_nat, toTerms_eq, Option.bind_some, succ64 (n := n) (by omega), put_nat]
      rw [← set_fill l (0, 0, 0, 0, 0, 0, 0, 0) hn, getD_lt hn zIIIIIIII (0, 0, 0, 0, 0, 0, 0, 0)]
    · unfold laws_toTermsS_b0
      simp only [lss_len, Nat.lt_irrefl, decide_false, cond_false, Nat.sub_self, List.replicate_zero, List.append_nil, List.take_length]
  have hr : rRep (rLen l) (((0 : Int), (0 : Int), (0 : Int), (0 : Int), (0 : Int), (0 : Int), (0 : Int), (0 : Int))) = List.replicate l.length (0, 0, 0, 0, 0, 0, 0, 0) := rep_nat _ _
  rw [hr]
  simp only [cond_true]
  rw [hloop]
  rfl
theorem eqTerms_self (a0 a1 a2 a3 a4 a5 a6 a7 : Int) : laws_eqTerms a0 a1 a2 a3 a4 a5 a6 a7 a0 a1 a2 a3 a4 a5 a6 a7 = some (true, ()) := by
  unfold laws_eqTerms
  simp only [neq_self, cond_false]
theorem eqTermsS_self (l : List (Int × Int × Int × Int × Int × Int × Int × Int)) (hl : l.length ≤ 1073741824) : laws_eqTermsS l l = some (true, ()) := by
  unfold laws_eqTermsS
  rw [neq_self]
  have hloop : laws_eqTermsS_l0 (l, l, ()) ((0 : Int), ()) = some (Sum.inr (Sum.inl ())) := by
    refine loop_end (fun n => ((n : Int), ())) l.length (by omega) _ (fun n hn => ?_) ?_
    · unfold laws_eqTermsS_b0
      simp only [lss_len, inR_nat, hn, decide_true, cond_true, eqTerms_self, Option.bind_some, succ64 (n := n) (by omega)]
      rfl
    · unfold laws_eqTermsS_b0
      simp only [lss_len, Nat.lt_irrefl, decide_false, cond_false]
  simp only [cond_false]
  rw [hloop]
  rfl
theorem szTermsS_eq (l : List (Int × Int × Int × Int × Int × Int × Int × Int)) (a : Int) (hl : l.length ≤ 9223372036854775807) (ha : 0 ≤ a) (ha' : a ≤ 1048576) : laws_szTermsS l a = some (bif decide (a < (l.length : Int)) then -1 else a - (l.length : Int), ()) := by
  unfold laws_szTermsS
  have h1 : rArith .sub .i64 a (rLen l) = a - (l.length : Int) := sub64 (by unfold rLen; omega) (by unfold rLen; omega)
  rw [h1]
  have h2 : rCmp .lss (a - (l.length : Int)) 0 = decide (a < (l.length : Int)) := by simp only [rCmp, decide_eq_decide]; omega
  rw [h2]
  cases decide (a < (l.length : Int)) <;> rfl
abbrev Trm := Int × Int × Int × Int × Int × Int × Int × Int
def billT (o c : List Spn) (t : Trm) (l : List Sty) : Int × Bool := bill o c t.1 t.2.1 t.2.2.1 t.2.2.2.1 t.2.2.2.2.1 t.2.2.2.2.2.1 t.2.2.2.2.2.2.1 t.2.2.2.2.2.2.2 l
def better (o c : List Spn) (ts : List Trm) (l : List Sty) (acc : Int × Int) (n : Nat) : Int × Int :=
  bif (billT o c (ts.getD n zIIIIIIII) l).2 then bif rCmp .lss acc.1 0 then ((n : Int), (billT o c (ts.getD n zIIIIIIII) l).1) else bif rCmp .lss (billT o c (ts.getD n zIIIIIIII) l).1 acc.2 then ((n : Int), (billT o c (ts.getD n zIIIIIIII) l).1) else acc else acc
def cheapest (o c : List Spn) (ts : List Trm) (l : List Sty) : Int := bif decide (20 < ts.length) then -1 else ((List.range ts.length).foldl (better o c ts l) (-1, 0)).1
theorem range_getD {k n : Nat} (h : n < k) : (List.range k).getD n 0 = n := by
  rw [List.getD_eq_getElem?_getD, List.getElem?_range h]; rfl
theorem implCheapest_eq (o c : List Spn) (ts : List Trm) (l : List Sty) : impl_CheapestTerms o c ts l = some (cheapest o c ts l, ()) := by
  unfold impl_CheapestTerms cheapest
  rw [len20]
  cases hd : decide (20 < ts.length) with
  | true => rfl
  | false =>
    have hd := of_decide_eq_false hd
    have hlen : (List.range ts.length).length = ts.length := List.length_range
    have hloop : impl_CheapestTerms_l0 (l, o, c, ts, rLen ts, ()) ((-1 : Int), (0 : Int), (0 : Int), ()) = some (Sum.inl (((List.range ts.length).foldl (better o c ts l) (-1, 0)).1, ())) := by
      refine (loop_fold (body := impl_CheapestTerms_b0 (l, o, c, ts, rLen ts, ())) (List.range ts.length) 0 (by omega) (better o c ts l) (fun acc n => (acc.1, acc.2, (n : Int), ())) (fun _ _ => True) (fun acc => Sum.inl (acc.1, ())) (fun n acc hn _ => ⟨?_, trivial⟩) (fun acc _ => ?_) (-1, 0) trivial).1
      · rw [hlen] at hn
        rw [range_getD hn]
        unfold impl_CheapestTerms_b0 better billT
        simp only [lss_len, inR_nat, get_nat, hn, decide_true, cond_true, implBill_eq, Option.bind_some, succ64 (n := n) (by omega)]
        generalize bill o c _ _ _ _ _ _ _ _ l = r
        cases r.2 with
        | false => rfl
        | true =>
          cases rCmp .lss acc.1 0 with
          | true => rfl
          | false => cases rCmp .lss r.1 acc.2 <;> rfl
      · rw [hlen]
        unfold impl_CheapestTerms_b0
        simp only [lss_len, Nat.lt_irrefl, decide_false, cond_false]
    simp only [cond_false]
    rw [hloop]
    rfl
theorem specCheapest_eq (o c : List Spn) (ts : List Trm) (l : List Sty) : spec_CheapestTerms o c ts l = some (cheapest o c ts l, ()) := by
  unfold spec_CheapestTerms cheapest
  cases hd : decide (20 < ts.length) with
  | true =>
    have hd := of_decide_eq_true hd
    have hle : rCmp .leq (rLen ts) 20 = false := by show decide ((ts.length : Int) ≤ 20) = false; exact decide_eq_false (by omega)
    have hloop : spec_CheapestTerms_l0 (ts, l, o, c, ()) ((-1 : Int), (0 : Int), (0 : Int), ()) = some (Sum.inl (-1, ())) := by
      refine iter_mono (n := 1) (iter_done ?_) (Nat.le_of_lt (lt_big (by omega)))
      unfold spec_CheapestTerms_b0
      simp only [hle, cond_false]
      cases rCmp .lss (0 : Int) (rLen ts) <;> rfl
    rw [hloop]
    rfl
  | false =>
    have hd := of_decide_eq_false hd
    have hle : rCmp .leq (rLen ts) 20 = true := by show decide ((ts.length : Int) ≤ 20) = true; exact decide_eq_true (by omega)
    have hlen : (List.range ts.length).length = ts.length := List.length_range
    have hloop : spec_CheapestTerms_l0 (ts, l, o, c, ()) ((-1 : Int), (0 : Int), (0 : Int), ()) = some (Sum.inl (((List.range ts.length).foldl (better o c ts l) (-1, 0)).1, ())) := by
      refine (loop_fold (body := spec_CheapestTerms_b0 (ts, l, o, c, ())) (List.range ts.length) 0 (by omega) (better o c ts l) (fun acc n => (acc.1, acc.2, (n : Int), ())) (fun _ _ => True) (fun acc => Sum.inl (acc.1, ())) (fun n acc hn _ => ⟨?_, trivial⟩) (fun acc _ => ?_) (-1, 0) trivial).1
      · rw [hlen] at hn
        rw [range_getD hn]
        unfold spec_CheapestTerms_b0 better billT
        simp only [lss_len, inR_nat, get_nat, hn, decide_true, cond_true, hle, specBill_eq, Option.bind_some, succ64 (n := n) (by omega)]
        generalize bill o c _ _ _ _ _ _ _ _ l = r
        cases r.2 with
        | false => rfl
        | true =>
          cases rCmp .lss acc.1 0 with
          | true => rfl
          | false => cases rCmp .lss r.1 acc.2 <;> rfl
      · rw [hlen]
        unfold spec_CheapestTerms_b0
        simp only [lss_len, Nat.lt_irrefl, decide_false, cond_false]
    simp only [cond_false]
    rw [hloop]
    rfl
theorem cheapestTerms_true (o c : List Spn) (ts : List Trm) (l : List Sty) (ho : o.length ≤ 9223372036854775807) (hc : c.length ≤ 9223372036854775807) (ht : ts.length ≤ 9223372036854775807) (hl : l.length ≤ 9223372036854775807) : laws_FnExactCheapestTerms o c ts l = some (true, ()) := by
  unfold laws_FnExactCheapestTerms
  rw [szWeek_eq o c _ ho hc (by decide) (by decide)]
  simp only [Option.bind_some]
  cases h1 : decide ((1048576 : Int) < (o.length : Int) + (c.length : Int)) with
  | true => simp only [cond_true, neg1]
  | false =>
    have h1 := of_decide_eq_false h1
    simp only [cond_false]
    rw [neg_of (by omega)]
    simp only [cond_false]
    rw [szTermsS_eq ts _ ht (by omega) (by omega)]
    simp only [Option.bind_some]
    cases h2 : decide ((1048576 : Int) - (o.length : Int) - (c.length : Int) < (ts.length : Int)) with
    | true => simp only [cond_true, neg1]
    | false =>
      have h2 := of_decide_eq_false h2
      simp only [cond_false]
      rw [neg_of (by omega)]
      simp only [cond_false]
      rw [szStayS_eq l _ hl (by omega) (by omega)]
      simp only [Option.bind_some]
      cases h3 : decide ((1048576 : Int) - (o.length : Int) - (c.length : Int) - (ts.length : Int) < (l.length : Int)) with
      | true => simp only [cond_true, neg1]
      | false =>
        have h3 := of_decide_eq_false h3
        simp only [cond_false]
        rw [neg_of (by omega)]
        have w := toWeek_eq o c (by omega) (by omega)
        have w' := eqWeek_self o c (by omega) (by omega)
        have t := toTermsS_eq ts (by omega)
        have t' := eqTermsS_self ts (by omega)
        have s := toStayS_eq l (by omega)
        have s' := eqStayS_self l (by omega)
        simp only [cond_false, w, w', s, s', t, t', Option.bind_some, specCheapest_eq, implCheapest_eq, neq_self, Bool.not_true]
end Go.Fn
