import Derived.Test.YtgiakgamcepemaaPM
/- Plain functions that stand for Go functions, and what they answer: PN. Conditions: none. -/
set_option autoImplicit false
set_option linter.unusedVariables false
set_option linter.unusedSimpArgs false
/-! PN: a bill is the sum of its fees, and no terms cost less than the cheapest ones. -/
namespace Go.R
open Go.Fn
theorem billRun_sum (f : Sty → Int) : ∀ (l : List Sty) (b : Int), (billOut (runL (billStep f) (fun sum => .inr (.inl (sum, ()))) l b)).2 = true → (billOut (runL (billStep f) (fun sum => .inr (.inl (sum, ()))) l b)).1 = l.foldl (fun s x => rArith .add .i64 s (f x)) b
  | [], b, _ => rfl
  | a :: l, b, h => by
    simp only [runL, billStep] at h ⊢
    cases hc : rCmp .lss (f a) 0 with
    | true => rw [hc] at h; cases h
    | false =>
      rw [hc] at h
      simp only [cond_false] at h ⊢
      exact billRun_sum f l _ h
theorem bill_sum {o c : List Spn} {a0 a1 a2 a3 a4 a5 a6 a7 : Int} {l : List Sty} (h : (bill o c a0 a1 a2 a3 a4 a5 a6 a7 l).2 = true) : (bill o c a0 a1 a2 a3 a4 a5 a6 a7 l).1 = l.foldl (fun s x => rArith .add .i64 s (fee o c a0 a1 a2 a3 a4 a5 a6 a7 x.1 x.2.1 x.2.2.1 x.2.2.2)) 0 := by
  unfold bill at h ⊢
  cases h1 : weekOk o c with
  | false => rw [h1] at h; cases h
  | true =>
    cases h2 : termsOk a0 a1 a2 a3 a4 a5 a6 a7 with
    | false => rw [h1, h2] at h; cases h
    | true =>
      cases h3 : decide (20 < l.length) with
      | true => rw [h1, h2, h3] at h; cases h
      | false =>
        rw [h1, h2, h3] at h
        simp only [cond_true, cond_false] at h ⊢
        exact billRun_sum _ l 0 h
section
variable (o c : List Spn) (ts : List Trm) (l : List Sty)
abbrev bt (i : Nat) : Int × Bool := billT o c (ts.getD i zIIIIIIII) l
/-- The best of the first n. -/
def BestIs (n : Nat) (acc : Int × Int) : Prop :=
  (acc.1 = -1 ∧ ∀ i, i < n → (bt o c ts l i).2 = false) ∨
  ∃ k : Nat, acc.1 = (k : Int) ∧ k < n ∧ (bt o c ts l k).2 = true ∧ acc.2 = (bt o c ts l k).1 ∧ ∀ i, i < n → (bt o c ts l i).2 = true → (bt o c ts l k).1 < (bt o c ts l i).1 ∨ ((bt o c ts l k).1 = (bt o c ts l i).1 ∧ k ≤ i)
theorem best_step (n : Nat) (acc : Int × Int) (h : BestIs o c ts l n acc) : BestIs o c ts l (n + 1) (better o c ts l acc n) := by
  unfold better
  cases hb : (billT o c (ts.getD n zIIIIIIII) l).2 with
  | false =>
    simp only [cond_false]
    rcases h with ⟨h1, h2⟩ | ⟨k, h1, h2, h3, h4, h5⟩
    · refine .inl ⟨h1, fun i hi => ?_⟩
      by_cases e : i = n
      · subst e; exact hb
      · exact h2 i (by omega)
    · refine .inr ⟨k, h1, by omega, h3, h4, fun i hi hi2 => ?_⟩
      by_cases e : i = n
      · subst e
        have hb : (bt o c ts l i).2 = false := hb
        rw [hb] at hi2; cases hi2
      · exact h5 i (by omega) hi2
  | true =>
    simp only [cond_true]
    rcases h with ⟨h1, h2⟩ | ⟨k, h1, h2, h3, h4, h5⟩
    · rw [h1, neg1]
      simp only [cond_true]
      refine .inr ⟨n, rfl, by omega, hb, rfl, fun i hi hi2 => ?_⟩
      by_cases e : i = n
      · subst e; exact .inr ⟨rfl, Nat.le_refl _⟩
      · rw [h2 i (by omega)] at hi2; cases hi2
    · have hk : rCmp .lss acc.1 0 = false := by rw [h1]; show decide ((k : Int) < 0) = false; exact decide_eq_false (by omega)
      rw [hk]
      simp only [cond_false]
      cases hc : rCmp .lss (billT o c (ts.getD n zIIIIIIII) l).1 acc.2 with
      | true =>
        have hc : (bt o c ts l n).1 < acc.2 := of_decide_eq_true hc
        rw [h4] at hc
        refine .inr ⟨n, rfl, by omega, hb, rfl, fun i hi hi2 => ?_⟩
        by_cases e : i = n
        · subst e; exact .inr ⟨rfl, Nat.le_refl _⟩
        · rcases h5 i (by omega) hi2 with h | ⟨h, _⟩
          · exact .inl (Int.lt_trans hc h)
          · exact .inl (by rw [← h]; exact hc)
      | false =>
        have hc : ¬ (bt o c ts l n).1 < acc.2 := of_decide_eq_false hc
        rw [h4] at hc
        simp only [cond_false]
        refine .inr ⟨k, h1, by omega, h3, h4, fun i hi hi2 => ?_⟩
        by_cases e : i = n
        · subst e
          rcases Int.lt_or_eq_of_le (Int.not_lt.1 hc) with h | h
          · exact .inl h
          · exact .inr ⟨h, by omega⟩
        · exact h5 i (by omega) hi2
theorem best_all : ∀ (n : Nat), BestIs o c ts l n ((List.range n).foldl (better o c ts l) (-1, 0))
  | 0 => .inl ⟨rfl, fun i hi => absurd hi (Nat.not_lt_zero _)⟩
  | n + 1 => by
    rw [List.range_succ, List.foldl_append]
    exact best_step o c ts l n _ (best_all n)
end
/-- The sum over the stays. -/
theorem sum_loop (o c : List Spn) (ts : List Trm) (l : List Sty) (hl : l.length ≤ 1073741824) {i : Nat} (hi : i < ts.length) (best y : Int) :
    laws_FnBills_l2 (best, (i : Int), y, true, ()) (o, c, ts, l, 0, 0, ()) = some (.inl (o, c, ts, l, l.foldl (fun s x => rArith .add .i64 s (fee o c (ts.getD i zIIIIIIII).1 (ts.getD i zIIIIIIII).2.1 (ts.getD i zIIIIIIII).2.2.1 (ts.getD i zIIIIIIII).2.2.2.1 (ts.getD i zIIIIIIII).2.2.2.2.1 (ts.getD i zIIIIIIII).2.2.2.2.2.1 (ts.getD i zIIIIIIII).2.2.2.2.2.2.1 (ts.getD i zIIIIIIII).2.2.2.2.2.2.2 x.1 x.2.1 x.2.2.1 x.2.2.2)) 0, ())) := by
  unfold laws_FnBills_l2
  refine (loop_fold (body := laws_FnBills_b2 (best, (i : Int), y, true, ())) l zIIII (by omega) (fun s x => rArith .add .i64 s (fee o c (ts.getD i zIIIIIIII).1 (ts.getD i zIIIIIIII).2.1 (ts.getD i zIIIIIIII).2.2.1 (ts.getD i zIIIIIIII).2.2.2.1 (ts.getD i zIIIIIIII).2.2.2.2.1 (ts.getD i zIIIIIIII).2.2.2.2.2.1 (ts.getD i zIIIIIIII).2.2.2.2.2.2.1 (ts.getD i zIIIIIIII).2.2.2.2.2.2.2 x.1 x.2.1 x.2.2.1 x.2.2.2)) (fun acc n => (o, c, ts, l, acc, (n : Int), ())) (fun _ _ => True) (fun acc => .inl (o, c, ts, l, acc, ())) (fun n acc hn _ => ⟨?_, trivial⟩) (fun acc _ => ?_) 0 trivial).1
  · unfold laws_FnBills_b2
    simp only [lss_len, inR_nat, get_nat, hn, hi, decide_true, cond_true, implFee_eq, Option.bind_some, succ64 (n := n) (by omega)]
  · unfold laws_FnBills_b2
    simp only [lss_len, Nat.lt_irrefl, decide_false, cond_false]
theorem bills_true (b : List Int) : laws_FnBills b = some (true, ()) := by
  unfold laws_FnBills laws_big
  simp only [Option.bind_some]
  cases hbig : rCmp .gtr (rLen b) 1048576 with
  | true => rfl
  | false =>
    have hb : b.length ≤ 1048576 := by
      have : ¬ ((1048576 : Int) < (b.length : Int)) := of_decide_eq_false hbig
      omega
    simp only [cond_false]
    obtain ⟨⟨o, c, ts, l, u⟩, he, h1, h2, h3, h4⟩ := drawCheapest_yl b hb
    rw [he]
    simp only [Option.bind_some, implCheapest_eq, specCheapest_eq]
    have hne : rCmp .neq (cheapest o c ts l) (cheapest o c ts l) = false := by simp [rCmp]
    rw [hne]
    simp only [cond_false]
    have h3 : ts.length ≤ 4 := h3
    have h4 : l.length ≤ 30 := h4
    have hch : cheapest o c ts l = ((List.range ts.length).foldl (better o c ts l) (-1, 0)).1 := by
      unfold cheapest
      rw [decide_eq_false (by omega)]
      rfl
    have hbest := best_all o c ts l ts.length
    rw [hch]
    generalize (List.range ts.length).foldl (better o c ts l) (-1, 0) = acc at hbest ⊢
    have hloop : laws_FnBills_l0 (acc.1, ()) (o, c, ts, l, 0, ()) = some (.inr (.inl (ts, ()))) := by
      unfold laws_FnBills_l0
      have := loop_end (body := laws_FnBills_b0 (acc.1, ())) (fun n => (o, c, ts, l, (n : Int), ())) ts.length (by omega) (.inr (.inl (ts, ()))) (fun n hn => ?_) ?_
      · exact this
      · unfold laws_FnBills_b0
        simp only [lss_len, inR_nat, get_nat, hn, decide_true, cond_true, implBill_eq, specBill_eq, Option.bind_some, succ64 (n := n) (by omega), rBeq_self, Bool.not_true, cond_false]
        have hne : ∀ x : Int, rCmp .neq x x = false := fun x => by simp [rCmp]
        rw [hne]
        simp only [cond_false]
        have hsum := sum_loop o c ts l (by omega) hn acc.1 (bt o c ts l n).1
        have hbs : (bt o c ts l n).2 = true → (bt o c ts l n).1 = l.foldl (fun s x => rArith .add .i64 s (fee o c (ts.getD n zIIIIIIII).1 (ts.getD n zIIIIIIII).2.1 (ts.getD n zIIIIIIII).2.2.1 (ts.getD n zIIIIIIII).2.2.2.1 (ts.getD n zIIIIIIII).2.2.2.2.1 (ts.getD n zIIIIIIII).2.2.2.2.2.1 (ts.getD n zIIIIIIII).2.2.2.2.2.2.1 (ts.getD n zIIIIIIII).2.2.2.2.2.2.2 x.1 x.2.1 x.2.2.1 x.2.2.2)) 0 := fun h => bill_sum h
        show (bif (bt o c ts l n).2 then _ else _) = _
        cases hbt : (bt o c ts l n).2 with
        | true =>
          have hbt' : (bill o c (ts.getD n zIIIIIIII).1 (ts.getD n zIIIIIIII).2.1 (ts.getD n zIIIIIIII).2.2.1 (ts.getD n zIIIIIIII).2.2.2.1 (ts.getD n zIIIIIIII).2.2.2.2.1 (ts.getD n zIIIIIIII).2.2.2.2.2.1 (ts.getD n zIIIIIIII).2.2.2.2.2.2.1 (ts.getD n zIIIIIIII).2.2.2.2.2.2.2 l).2 = true := hbt
          rcases hbest with ⟨_, hno⟩ | ⟨k, e1, e2, e3, e4, e5⟩
          · rw [hno n hn] at hbt; cases hbt
          · have hk : rCmp .lss acc.1 0 = false := by rw [e1]; show decide ((k : Int) < 0) = false; exact decide_eq_false (by omega)
            simp only [cond_true, hbt', hk, cond_false]
            have hsum' : laws_FnBills_l2 (acc.1, (n : Int), (bill o c (ts.getD n zIIIIIIII).1 (ts.getD n zIIIIIIII).2.1 (ts.getD n zIIIIIIII).2.2.1 (ts.getD n zIIIIIIII).2.2.2.1 (ts.getD n zIIIIIIII).2.2.2.2.1 (ts.getD n zIIIIIIII).2.2.2.2.2.1 (ts.getD n zIIIIIIII).2.2.2.2.2.2.1 (ts.getD n zIIIIIIII).2.2.2.2.2.2.2 l).1, true, ()) (o, c, ts, l, 0, 0, ()) = _ := hsum
            rw [hsum', ← hbs hbt]
            simp only [Option.bind_some, Sum.elim_inl]
            have : rCmp .neq (bt o c ts l n).1 (bill o c (ts.getD n zIIIIIIII).1 (ts.getD n zIIIIIIII).2.1 (ts.getD n zIIIIIIII).2.2.1 (ts.getD n zIIIIIIII).2.2.2.1 (ts.getD n zIIIIIIII).2.2.2.2.1 (ts.getD n zIIIIIIII).2.2.2.2.2.1 (ts.getD n zIIIIIIII).2.2.2.2.2.2.1 (ts.getD n zIIIIIIII).2.2.2.2.2.2.2 l).1 = false := hne _
            rw [this, e1]
            simp only [inR_nat, e2, decide_true, cond_true, cond_false, get_nat]
            have hz : rCmp .gtr (bt o c ts l k).1 (bt o c ts l n).1 = false := by
              refine decide_eq_false ?_
              rcases e5 n hn hbt with h | ⟨h, _⟩ <;> omega
            show (bif rCmp .gtr (bt o c ts l k).1 (bt o c ts l n).1 then _ else _) = _
            rw [hz]
            simp only [cond_false]
            show (bif rCmp .eql (bt o c ts l k).1 (bt o c ts l n).1 then _ else _) = _
            cases hq : rCmp .eql (bt o c ts l k).1 (bt o c ts l n).1 with
            | false => rfl
            | true =>
              have hq : (bt o c ts l k).1 = (bt o c ts l n).1 := by simpa [rCmp] using hq
              have hkn : k ≤ n := by
                rcases e5 n hn hbt with h | ⟨_, h⟩
                · omega
                · exact h
              have : rCmp .gtr (k : Int) (n : Int) = false := decide_eq_false (by omega)
              rw [this]
              rfl
        | false =>
          have hbt' : (bill o c (ts.getD n zIIIIIIII).1 (ts.getD n zIIIIIIII).2.1 (ts.getD n zIIIIIIII).2.2.1 (ts.getD n zIIIIIIII).2.2.2.1 (ts.getD n zIIIIIIII).2.2.2.2.1 (ts.getD n zIIIIIIII).2.2.2.2.2.1 (ts.getD n zIIIIIIII).2.2.2.2.2.2.1 (ts.getD n zIIIIIIII).2.2.2.2.2.2.2 l).2 = false := hbt
          simp only [hbt', cond_false]
          have hnl : laws_FnBills_l2 (acc.1, (n : Int), (bill o c (ts.getD n zIIIIIIII).1 (ts.getD n zIIIIIIII).2.1 (ts.getD n zIIIIIIII).2.2.1 (ts.getD n zIIIIIIII).2.2.2.1 (ts.getD n zIIIIIIII).2.2.2.2.1 (ts.getD n zIIIIIIII).2.2.2.2.2.1 (ts.getD n zIIIIIIII).2.2.2.2.2.2.1 (ts.getD n zIIIIIIII).2.2.2.2.2.2.2 l).1, false, ()) (o, c, ts, l, 0, 0, ()) = some (.inl (o, c, ts, l, 0, ())) := by
            unfold laws_FnBills_l2
            refine iter_mono (n := 1) (iter_done ?_) (Nat.le_of_lt (lt_big (by omega)))
            unfold laws_FnBills_b2
            cases rCmp .lss (0 : Int) (rLen l) <;> rfl
          rw [hnl]
          rfl
      · unfold laws_FnBills_b0
        simp only [lss_len, Nat.lt_irrefl, decide_false, cond_false]
    rw [hloop]
    simp only [Option.bind_some, Sum.elim_inr, Sum.elim_inl]
    have : rCmp .lss acc.1 (rLen ts) = true := by
      refine decide_eq_true ?_
      show acc.1 < (ts.length : Int)
      rcases hbest with ⟨h, _⟩ | ⟨k, h, h2, _⟩
      · rw [h]; omega
      · rw [h]; omega
    rw [this]
end Go.R
