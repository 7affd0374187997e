import Derived.Test.YtgiakgamcepemaaFnD
import Derived.Test.YtgiakgamcepemaaPB
/- Plain functions that stand for Go functions, and what they answer: PC. Conditions: none. -/
set_option autoImplicit false
set_option linter.unusedVariables false
set_option linter.unusedSimpArgs false
/-! PC: weeks, fees, bills. -/
set_option linter.unusedSimpArgs false
namespace Go.Fn
open Go.R
theorem toSpan_eq (a0 a1 : Int) : laws_toSpan a0 a1 = some (a0, a1, ()) := rfl
theorem toSpanS_eq (l : List (Int × Int)) (hl : l.length ≤ 1073741824) : laws_toSpanS l = some (l, ()) := by
  unfold laws_toSpanS
  rw [repOk_len hl]
  have hloop : laws_toSpanS_l0 (l, ()) (List.replicate l.length (0, 0), (0 : Int), ()) = some (Sum.inl (l, ())) := by
    have := loop_end (body := laws_toSpanS_b0 (l, ())) (fun n => (l.take n ++ List.replicate (l.length - n) (0, 0), (n : Int), ())) l.length (by omega) (Sum.inl (l, ())) (fun n hn => ?_) ?_
    · unfold laws_toSpanS_l0; simpa using this
    · unfold laws_toSpanS_b0
      have hx : n < (l.take n ++ List.replicate (l.length - n) ((0, 0) : Int × Int)).length := by rw [fill_len _ _ (Nat.le_of_lt hn)]; exact hn
      simp only [lss_len, inR_nat, hn, hx, decide_true, cond_true, get_nat, toSpan_eq, Option.bind_some, succ64 (n := n) (by omega), put_nat]
      rw [← set_fill l (0, 0) hn, getD_lt hn zII (0, 0)]
    · unfold laws_toSpanS_b0
      simp only [lss_len, Nat.lt_irrefl, decide_false, cond_false, Nat.sub_self, List.replicate_zero, List.append_nil, List.take_length]
  have hr : rRep (rLen l) (((0 : Int), (0 : Int))) = List.replicate l.length (0, 0) := rep_nat _ _
  rw [hr]
  simp only [cond_true]
  rw [hloop]
  rfl
theorem eqSpan_self (a0 a1 : Int) : laws_eqSpan a0 a1 a0 a1 = some (true, ()) := by
  unfold laws_eqSpan
  simp only [neq_self, cond_false]
theorem eqSpanS_self (l : List (Int × Int)) (hl : l.length ≤ 1073741824) : laws_eqSpanS l l = some (true, ()) := by
  unfold laws_eqSpanS
  rw [neq_self]
  have hloop : laws_eqSpanS_l0 (l, l, ()) ((0 : Int), ()) = some (Sum.inr (Sum.inl ())) := by
    refine loop_end (fun n => ((n : Int), ())) l.length (by omega) _ (fun n hn => ?_) ?_
    · unfold laws_eqSpanS_b0
      simp only [lss_len, inR_nat, hn, decide_true, cond_true, eqSpan_self, Option.bind_some, succ64 (n := n) (by omega)]
      rfl
    · unfold laws_eqSpanS_b0
      simp only [lss_len, Nat.lt_irrefl, decide_false, cond_false]
  simp only [cond_false]
  rw [hloop]
  rfl
theorem szSpanS_eq (l : List (Int × Int)) (a : Int) (hl : l.length ≤ 9223372036854775807) (ha : 0 ≤ a) (ha' : a ≤ 1048576) : laws_szSpanS l a = some (bif decide (a < (l.length : Int)) then -1 else a - (l.length : Int), ()) := by
  unfold laws_szSpanS
  have h1 : rArith .sub .i64 a (rLen l) = a - (l.length : Int) := sub64 (by unfold rLen; omega) (by unfold rLen; omega)
  rw [h1]
  have h2 : rCmp .lss (a - (l.length : Int)) 0 = decide (a < (l.length : Int)) := by simp only [rCmp, decide_eq_decide]; omega
  rw [h2]
  cases decide (a < (l.length : Int)) <;> rfl
theorem toStay_eq (a0 a1 a2 a3 : Int) : laws_toStay a0 a1 a2 a3 = some (a0, a1, a2, a3, ()) := rfl
theorem toStayS_eq (l : List (Int × Int × Int × Int)) (hl : l.length ≤ 1073741824) : laws_toStayS l = some (l, ()) := by
  unfold laws_toStayS
  rw [repOk_len hl]
  have hloop : laws_toStayS_l0 (l, ()) (List.replicate l.length (0, 0, 0, 0), (0 : Int), ()) = some (Sum.inl (l, ())) := by
    have := loop_end (body := laws_toStayS_b0 (l, ())) (fun n => (l.take n ++ List.replicate (l.length - n) (0, 0, 0, 0), (n : Int), ())) l.length (by omega) (Sum.inl (l, ())) (fun n hn => ?_) ?_
    · unfold laws_toStayS_l0; simpa using this
    · unfold laws_toStayS_b0
      have hx : n < (l.take n ++ List.replicate (l.length - n) ((0, 0, 0, 0) : Int × Int × Int × Int)).length := by rw [fill_len _ _ (Nat.le_of_lt hn)]; exact hn
      simp only [lss_len, inR_nat, hn, hx, decide_true, cond_true, get_nat, toStay_eq, Option.bind_some, succ64 (n := n) (by omega), put_nat]
      rw [← set_fill l (0, 0, 0, 0) hn, getD_lt hn zIIII (0, 0, 0, 0)]
    · unfold laws_toStayS_b0
      simp only [lss_len, Nat.lt_irrefl, decide_false, cond_false, Nat.sub_self, List.replicate_zero, List.append_nil, List.take_length]
  have hr : rRep (rLen l) (((0 : Int), (0 : Int), (0 : Int), (0 : Int))) = List.replicate l.length (0, 0, 0, 0) := rep_nat _ _
  rw [hr]
  simp only [cond_true]
  rw [hloop]
  rfl
theorem eqStay_self (a0 a1 a2 a3 : Int) : laws_eqStay a0 a1 a2 a3 a0 a1 a2 a3 = some (true, ()) := by
  unfold laws_eqStay
  simp only [neq_self, cond_false]
theorem eqStayS_self (l : List (Int × Int × Int × Int)) (hl : l.length ≤ 1073741824) : laws_eqStayS l l = some (true, ()) := by
  unfold laws_eqStayS
  rw [neq_self]
  have hloop : laws_eqStayS_l0 (l, l, ()) ((0 : Int), ()) = some (Sum.inr (Sum.inl ())) := by
    refine loop_end (fun n => ((n : Int), ())) l.length (by omega) _ (fun n hn => ?_) ?_
    · unfold laws_eqStayS_b0
      simp only [lss_len, inR_nat, hn, decide_true, cond_true, eqStay_self, Option.bind_some, succ64 (n := n) (by omega)]
      rfl
    · unfold laws_eqStayS_b0
      simp only [lss_len, Nat.lt_irrefl, decide_false, cond_false]
  simp only [cond_false]
  rw [hloop]
  rfl
theorem szStayS_eq (l : List (Int × Int × Int × Int)) (a : Int) (hl : l.length ≤ 9223372036854775807) (ha : 0 ≤ a) (ha' : a ≤ 1048576) : laws_szStayS l a = some (bif decide (a < (l.length : Int)) then -1 else a - (l.length : Int), ()) := by
  unfold laws_szStayS
  have h1 : rArith .sub .i64 a (rLen l) = a - (l.length : Int) := sub64 (by unfold rLen; omega) (by unfold rLen; omega)
  rw [h1]
  have h2 : rCmp .lss (a - (l.length : Int)) 0 = decide (a < (l.length : Int)) := by simp only [rCmp, decide_eq_decide]; omega
  rw [h2]
  cases decide (a < (l.length : Int)) <;> rfl

/-! ### Weeks -/
abbrev Spn := Int × Int
def spanAt (l : List Spn) (most : Int) (n : Nat) : Bool :=
  bif rCmp .lss (l.getD n zII).1 0 then false else bif rCmp .geq (l.getD n zII).1 (l.getD n zII).2 then false else bif rCmp .gtr (l.getD n zII).2 most then false else
    match n with
    | 0 => true
    | m + 1 => bif rCmp .leq (l.getD (m + 1) zII).1 (l.getD m zII).2 then false else true
def spansOk (l : List Spn) (most : Int) : Bool := bif decide (20 < l.length) then false else allFrom (spanAt l most) 0 l.length
theorem len20 {α : Type} (l : List α) : rCmp .gtr (rLen l) (20 : Int) = decide (20 < l.length) := by
  simp only [rCmp, rLen, gt_iff_lt, decide_eq_decide]
  omega
theorem gt00 : rCmp .gtr ((0 : Nat) : Int) 0 = false := rfl
theorem specSpans_eq (l : List Spn) (most : Int) : spec_SpansOk l most = some (spansOk l most, ()) := by
  unfold spec_SpansOk spansOk
  rw [len20]
  cases hl : decide (20 < l.length) with
  | true => rfl
  | false =>
    have hl : l.length ≤ 20 := by have := of_decide_eq_false hl; omega
    have hloop : spec_SpansOk_l0 (l, most, ()) ((0 : Int), ()) = some (bif allFrom (spanAt l most) 0 l.length then (Sum.inr (Sum.inl ()) : Bool × Unit ⊕ (Unit ⊕ Empty)) else Sum.inl (false, ())) := by
      refine loop_all (fun n => ((n : Int), ())) l.length (by omega) (spanAt l most) _ _ (fun n hn => ?_) ?_
      · unfold spec_SpansOk_b0 spanAt
        simp only [lss_len, inR_nat, get_nat, hn, decide_true, cond_true]
        cases n with
        | zero =>
          simp only [gt00, cond_false]
          cases rCmp .lss (l.getD 0 zII).1 0 <;> cases rCmp .geq (l.getD 0 zII).1 (l.getD 0 zII).2 <;> cases rCmp .gtr (l.getD 0 zII).2 most <;> rfl
        | succ n =>
          have hn' : n < l.length := by omega
          simp only [gt0, succ64 (n := n + 1) (by omega), pred64 (n := n) (by omega), inR_lt hn', get_nat, cond_true]
          cases rCmp .lss (l.getD (n + 1) zII).1 0 <;> cases rCmp .geq (l.getD (n + 1) zII).1 (l.getD (n + 1) zII).2 <;> cases rCmp .gtr (l.getD (n + 1) zII).2 most <;> cases rCmp .leq (l.getD (n + 1) zII).1 (l.getD n zII).2 <;> rfl
      · unfold spec_SpansOk_b0
        simp only [lss_len, Nat.lt_irrefl, decide_false, cond_false]
    rw [hloop]
    cases allFrom (spanAt l most) 0 l.length <;> rfl
theorem implSpans_eq (l : List Spn) (most : Int) : impl_SpansOk l most = some (spansOk l most, ()) := by
  unfold impl_SpansOk spansOk
  rw [len20]
  cases hl : decide (20 < l.length) with
  | true => rfl
  | false =>
    have hl : l.length ≤ 20 := by have := of_decide_eq_false hl; omega
    have hloop : impl_SpansOk_l0 (l, most, l, rLen l, ()) ((0 : Int), ()) = some (bif allFrom (spanAt l most) 0 l.length then (Sum.inr (Sum.inl ()) : Bool × Unit ⊕ (Unit ⊕ Empty)) else Sum.inl (false, ())) := by
      refine loop_all (fun n => ((n : Int), ())) l.length (by omega) (spanAt l most) _ _ (fun n hn => ?_) ?_
      · unfold impl_SpansOk_b0 spanAt
        simp only [lss_len, inR_nat, get_nat, hn, decide_true, cond_true]
        cases n with
        | zero =>
          simp only [gt00, cond_false]
          cases rCmp .lss (l.getD 0 zII).1 0 <;> cases rCmp .geq (l.getD 0 zII).1 (l.getD 0 zII).2 <;> cases rCmp .gtr (l.getD 0 zII).2 most <;> rfl
        | succ n =>
          have hn' : n < l.length := by omega
          simp only [gt0, succ64 (n := n + 1) (by omega), pred64 (n := n) (by omega), inR_lt hn', get_nat, cond_true]
          cases rCmp .lss (l.getD (n + 1) zII).1 0 <;> cases rCmp .geq (l.getD (n + 1) zII).1 (l.getD (n + 1) zII).2 <;> cases rCmp .gtr (l.getD (n + 1) zII).2 most <;> cases rCmp .leq (l.getD (n + 1) zII).1 (l.getD n zII).2 <;> rfl
      · unfold impl_SpansOk_b0
        simp only [lss_len, Nat.lt_irrefl, decide_false, cond_false]
    rw [hloop]
    cases allFrom (spanAt l most) 0 l.length <;> rfl
def weekOk (o c : List Spn) : Bool := bif spansOk o 168 then spansOk c 20000 else false
theorem specWeek_eq (o c : List Spn) : spec_WeekOk o c = some (weekOk o c, ()) := by
  unfold spec_WeekOk weekOk
  simp only [specSpans_eq, Option.bind_some, bif_some, bif_pair]
theorem implWeek_eq (o c : List Spn) : impl_WeekOk o c = some (weekOk o c, ()) := by
  unfold impl_WeekOk weekOk
  simp only [implSpans_eq, Option.bind_some, bif_some, bif_pair]
theorem spansOk_len {l : List Spn} {most : Int} (h : spansOk l most = true) : l.length ≤ 20 := by
  unfold spansOk at h
  cases hd : decide (20 < l.length) with
  | true => rw [hd] at h; cases h
  | false => have := of_decide_eq_false hd; omega
theorem weekOk_len {o c : List Spn} (h : weekOk o c = true) : o.length ≤ 20 ∧ c.length ≤ 20 := by
  unfold weekOk at h
  cases ho : spansOk o 168 with
  | true => rw [ho] at h; exact ⟨spansOk_len ho, spansOk_len h⟩
  | false => rw [ho] at h; cases h
/-- Is it in one of the spans? -/
def outSp (l : List Spn) (x : Int) (n : Nat) : Bool := bif rCmp .leq (l.getD n zII).1 x then !rCmp .lss x (l.getD n zII).2 else true
def inSp (l : List Spn) (x : Int) : Bool := !allFrom (outSp l x) 0 l.length
theorem geq_leq (a b : Int) : rCmp .geq a b = rCmp .leq b a := rfl
theorem specIn_eq (l : List Spn) (x : Int) (hl : l.length ≤ 1073741824) : spec_l01Within l x = some (inSp l x, ()) := by
  unfold spec_l01Within inSp
  have hloop : spec_l01Within_l0 (l, x, ()) ((0 : Int), ()) = some (bif allFrom (outSp l x) 0 l.length then (Sum.inr (Sum.inl ()) : Bool × Unit ⊕ (Unit ⊕ Empty)) else Sum.inl (true, ())) := by
    refine loop_all (fun n => ((n : Int), ())) l.length (by omega) (outSp l x) _ _ (fun n hn => ?_) ?_
    · unfold spec_l01Within_b0 outSp
      simp only [lss_len, inR_nat, get_nat, hn, decide_true, cond_true, succ64 (n := n) (by omega)]
      cases rCmp .leq (l.getD n zII).1 x <;> cases rCmp .lss x (l.getD n zII).2 <;> rfl
    · unfold spec_l01Within_b0
      simp only [lss_len, Nat.lt_irrefl, decide_false, cond_false]
  rw [hloop]
  cases allFrom (outSp l x) 0 l.length <;> rfl
theorem implIn_eq (l : List Spn) (x : Int) (hl : l.length ≤ 1073741824) : impl_inSpans l x = some (inSp l x, ()) := by
  unfold impl_inSpans inSp
  have hloop : impl_inSpans_l0 (x, l, rLen l, ()) ((0 : Int), ()) = some (bif allFrom (outSp l x) 0 l.length then (Sum.inr (Sum.inl ()) : Bool × Unit ⊕ (Unit ⊕ Empty)) else Sum.inl (true, ())) := by
    refine loop_all (fun n => ((n : Int), ())) l.length (by omega) (outSp l x) _ _ (fun n hn => ?_) ?_
    · unfold impl_inSpans_b0 outSp
      simp only [lss_len, inR_nat, get_nat, hn, decide_true, cond_true, succ64 (n := n) (by omega), geq_leq]
      cases rCmp .leq (l.getD n zII).1 x <;> cases rCmp .lss x (l.getD n zII).2 <;> rfl
    · unfold impl_inSpans_b0
      simp only [lss_len, Nat.lt_irrefl, decide_false, cond_false]
  rw [hloop]
  cases allFrom (outSp l x) 0 l.length <;> rfl
def openAt (o c : List Spn) (x : Int) : Bool := bif inSp o (rArith .rem .i64 x 168) then Bool.not (inSp c x) else false
theorem z168 : rIsZero (168 : Int) = false := rfl
theorem specOpen_eq {o c : List Spn} (x : Int) (ho : o.length ≤ 20) (hc : c.length ≤ 20) : spec_l01Open o c x = some (openAt o c x, ()) := by
  unfold spec_l01Open openAt
  simp only [z168, cond_false, specIn_eq o _ (by omega), specIn_eq c _ (by omega), Option.bind_some, bif_some, bif_pair]
theorem implOpen_eq {o c : List Spn} (x : Int) (ho : o.length ≤ 20) (hc : c.length ≤ 20) : impl_isOpen o c x = some (openAt o c x, ()) := by
  unfold impl_isOpen openAt
  simp only [z168, cond_false, implIn_eq o _ (by omega), implIn_eq c _ (by omega), Option.bind_some, bif_some, bif_pair]
/-- So many open hours are there among k hours from a on. -/
def openN (o c : List Spn) (a : Int) (k : Nat) : Int := (List.range k).foldl (fun (n : Int) (i : Nat) => bif openAt o c (a + (i : Int)) then n + 1 else n) 0
def hours (o c : List Spn) (a b : Int) : Int := bif weekOk o c then bif inB a 0 20000 then bif inB b 0 20000 then openN o c a (b - a).toNat else 0 else 0 else 0
theorem openN_succ (o c : List Spn) (a : Int) (k : Nat) : openN o c a (k + 1) = bif openAt o c (a + (k : Int)) then openN o c a k + 1 else openN o c a k := by
  unfold openN
  rw [List.range_succ, List.foldl_append]
  rfl
theorem openN_bound (o c : List Spn) (a : Int) : ∀ k : Nat, 0 ≤ openN o c a k ∧ openN o c a k ≤ (k : Int)
  | 0 => ⟨Int.le_refl 0, Int.le_refl 0⟩
  | k + 1 => by
    have := openN_bound o c a k
    rw [openN_succ]
    cases openAt o c (a + (k : Int)) with
    | true => simp only [cond_true]; omega
    | false => simp only [cond_false]; omega
theorem specHours_eq (o c : List Spn) (a b : Int) : spec_OpenHours o c a b = some (hours o c a b, ()) := by
  unfold spec_OpenHours hours
  simp only [specWeek_eq, in_eq, Option.bind_some]
  cases hw : weekOk o c with
  | false => rfl
  | true =>
    obtain ⟨ho, hc⟩ := weekOk_len hw
    simp only [Bool.not_true, cond_false, cond_true]
    cases ha : inB a 0 20000 with
    | false => rfl
    | true =>
      simp only [Bool.not_true, cond_false, cond_true]
      cases hb : inB b 0 20000 with
      | false => rfl
      | true =>
        have ha := inB_iff.1 ha
        have hb := inB_iff.1 hb
        simp only [Bool.not_true, cond_false, cond_true]
        have hloop : spec_OpenHours_l0 (b, o, c, ()) ((0 : Int), a, ()) = some (Sum.inl (openN o c a (b - a).toNat, ())) := by
          have := loop_end (body := spec_OpenHours_b0 (b, o, c, ())) (fun n => (openN o c a n, a + (n : Int), ())) (b - a).toNat (by omega) (Sum.inl (openN o c a (b - a).toNat, ())) (fun n hn => ?_) ?_
          · unfold spec_OpenHours_l0; simpa [openN] using this
          · have hbd := openN_bound o c a n
            unfold spec_OpenHours_b0
            have h1 : rCmp .lss (a + (n : Int)) b = true := by simp only [rCmp, decide_eq_true_eq]; omega
            simp only [h1, cond_true, specOpen_eq _ ho hc, Option.bind_some]
            rw [openN_succ, add1 (a := a + (n : Int)) (by omega) (by omega), add1 (a := openN o c a n) (by omega) (by omega)]
            have h2 : a + (n : Int) + 1 = a + ((n + 1 : Nat) : Int) := by omega
            rw [h2]
            cases openAt o c (a + (n : Int)) <;> rfl
          · unfold spec_OpenHours_b0
            have h1 : rCmp .lss (a + ((b - a).toNat : Int)) b = false := by simp only [rCmp, decide_eq_false_iff_not]; omega
            simp only [h1, cond_false]
        rw [hloop]
        rfl
theorem implHours_eq (o c : List Spn) (a b : Int) : impl_OpenHours o c a b = some (hours o c a b, ()) := by
  unfold impl_OpenHours hours
  simp only [implWeek_eq, timeOk_eq, Option.bind_some]
  cases hw : weekOk o c with
  | false => rfl
  | true =>
    obtain ⟨ho, hc⟩ := weekOk_len hw
    simp only [Bool.not_true, cond_false, cond_true]
    cases ha : inB a 0 20000 with
    | false => rfl
    | true =>
      simp only [Bool.not_true, cond_false, cond_true]
      cases hb : inB b 0 20000 with
      | false => rfl
      | true =>
        have ha := inB_iff.1 ha
        have hb := inB_iff.1 hb
        simp only [Bool.not_true, cond_false, cond_true]
        have hloop : impl_OpenHours_l0 (b, o, c, ()) ((0 : Int), a, ()) = some (Sum.inl (openN o c a (b - a).toNat, ())) := by
          have := loop_end (body := impl_OpenHours_b0 (b, o, c, ())) (fun n => (openN o c a n, a + (n : Int), ())) (b - a).toNat (by omega) (Sum.inl (openN o c a (b - a).toNat, ())) (fun n hn => ?_) ?_
          · unfold impl_OpenHours_l0; simpa [openN] using this
          · have hbd := openN_bound o c a n
            unfold impl_OpenHours_b0
            have h1 : rCmp .lss (a + (n : Int)) b = true := by simp only [rCmp, decide_eq_true_eq]; omega
            simp only [h1, cond_true, implOpen_eq _ ho hc, Option.bind_some]
            rw [openN_succ, add1 (a := a + (n : Int)) (by omega) (by omega), add1 (a := openN o c a n) (by omega) (by omega)]
            have h2 : a + (n : Int) + 1 = a + ((n + 1 : Nat) : Int) := by omega
            rw [h2]
            cases openAt o c (a + (n : Int)) <;> rfl
          · unfold impl_OpenHours_b0
            have h1 : rCmp .lss (a + ((b - a).toNat : Int)) b = false := by simp only [rCmp, decide_eq_false_iff_not]; omega
            simp only [h1, cond_false]
        rw [hloop]
        rfl

/-! ### Fees -/
def termsOk (a0 a1 a2 a3 a4 a5 a6 a7 : Int) : Bool := bif inB a0 1 2000 then bif inB a2 1 2000 then bif inB a5 1 2000 then bif inB a1 0 2000 then bif inB a3 0 10000 then bif inB a4 0 1000000 then bif inB a6 0 100000 then inB a7 0 20 else false else false else false else false else false else false else false
theorem specTerms_eq (a0 a1 a2 a3 a4 a5 a6 a7 : Int) : spec_TermsOk a0 a1 a2 a3 a4 a5 a6 a7 = some (termsOk a0 a1 a2 a3 a4 a5 a6 a7, ()) := by
  unfold spec_TermsOk termsOk
  simp only [in_eq, Option.bind_some, bif_some, bif_pair]
theorem implTerms_eq (a0 a1 a2 a3 a4 a5 a6 a7 : Int) : impl_TermsOk a0 a1 a2 a3 a4 a5 a6 a7 = some (termsOk a0 a1 a2 a3 a4 a5 a6 a7, ()) := by
  unfold impl_TermsOk termsOk
  simp only [within_eq, Option.bind_some, bif_some, bif_pair]
theorem termsOk_step {a0 a1 a2 a3 a4 a5 a6 a7 : Int} (h : termsOk a0 a1 a2 a3 a4 a5 a6 a7 = true) : 1 ≤ a2 := by
  unfold termsOk at h
  simp only [bif_and, inB_iff] at h
  exact h.2.1.1
def over (free step rate cap size open_ : Int) : Int := rMxmn false cap (rArith .mul .i64 (rArith .mul .i64 (rArith .quo .i64 (rArith .sub .i64 (rArith .add .i64 (rArith .sub .i64 open_ free) step) 1) step) rate) size)
def stor (free step rate cap size open_ : Int) : Int := bif rCmp .leq (rArith .sub .i64 open_ free) 0 then 0 else over free step rate cap size open_
theorem implStor_eq {a2 : Int} (h : 1 ≤ a2) (a0 a1 a3 a4 a5 a6 a7 a8 a9 : Int) : impl_storage a0 a1 a2 a3 a4 a5 a6 a7 a8 a9 = some (stor a1 a2 a3 a4 a8 a9, ()) := by
  unfold impl_storage stor
  have hz : rIsZero a2 = false := by unfold rIsZero; exact decide_eq_false (by omega)
  rw [hz]
  cases rCmp .leq (rArith .sub .i64 a9 a1) 0 <;> rfl
theorem gtr_not (a b : Int) : rCmp .gtr a b = Bool.not (rCmp .leq a b) := by
  simp only [rCmp, gt_iff_lt]
  by_cases h : a ≤ b
  · rw [decide_eq_true h, decide_eq_false (by omega)]; rfl
  · rw [decide_eq_false h, decide_eq_true (by omega)]; rfl
theorem specFee1_eq {a2 : Int} (h : 1 ≤ a2) (a0 a1 a3 a4 a5 a6 a7 a8 a9 a10 : Int) : spec_l06Fee a0 a1 a2 a3 a4 a5 a6 a7 a8 a9 a10 = some (rArith .add .i64 (stor a1 a2 a3 a4 a8 a9) (rArith .mul .i64 a6 a10), ()) := by
  unfold spec_l06Fee stor
  have hz : rIsZero a2 = false := by unfold rIsZero; exact decide_eq_false (by omega)
  rw [hz, gtr_not]
  cases rCmp .leq (rArith .sub .i64 a9 a1) 0 <;> rfl
def fee (o c : List Spn) (a0 a1 a2 a3 a4 a5 a6 a7 size a b ext : Int) : Int :=
  bif weekOk o c && (termsOk a0 a1 a2 a3 a4 a5 a6 a7 && (inB size 1 24 && (inB a 0 20000 && (inB b 0 20000 && (!rCmp .lss b a && inB ext 0 a7))))) then rArith .add .i64 (stor a1 a2 a3 a4 size (hours o c a b)) (rArith .mul .i64 a6 ext) else -1
theorem implFee_eq (o c : List Spn) (a0 a1 a2 a3 a4 a5 a6 a7 size a b ext : Int) : impl_FeeOf o c a0 a1 a2 a3 a4 a5 a6 a7 size a b ext = some (fee o c a0 a1 a2 a3 a4 a5 a6 a7 size a b ext, ()) := by
  unfold impl_FeeOf fee
  simp only [implWeek_eq, implTerms_eq, within_eq, timeOk_eq, implHours_eq, Option.bind_some]
  cases weekOk o c with
  | false => rfl
  | true =>
    cases ht : termsOk a0 a1 a2 a3 a4 a5 a6 a7 with
    | false => rfl
    | true =>
      rw [implStor_eq (termsOk_step ht)]
      cases inB size 1 24 with
      | false => rfl
      | true =>
        cases inB a 0 20000 with
        | false => rfl
        | true =>
          cases inB b 0 20000 with
          | false => rfl
          | true =>
            cases rCmp .lss b a with
            | true => rfl
            | false => cases inB ext 0 a7 <;> rfl
theorem specFee_eq (o c : List Spn) (a0 a1 a2 a3 a4 a5 a6 a7 size a b ext : Int) : spec_FeeOf o c a0 a1 a2 a3 a4 a5 a6 a7 size a b ext = some (fee o c a0 a1 a2 a3 a4 a5 a6 a7 size a b ext, ()) := by
  unfold spec_FeeOf fee
  simp only [specWeek_eq, specTerms_eq, in_eq, specHours_eq, Option.bind_some]
  cases weekOk o c with
  | false => rfl
  | true =>
    cases ht : termsOk a0 a1 a2 a3 a4 a5 a6 a7 with
    | false => rfl
    | true =>
      rw [specFee1_eq (termsOk_step ht)]
      cases inB size 1 24 with
      | false => rfl
      | true =>
        cases hb : inB b 0 20000 with
        | false => cases inB a 0 20000 <;> rfl
        | true =>
          have hb := inB_iff.1 hb
          have hab : inB a 0 b = (inB a 0 20000 && !rCmp .lss b a) := by
            rw [Bool.eq_iff_iff, Bool.and_eq_true, inB_iff, inB_iff]
            simp only [rCmp, Bool.not_eq_true', decide_eq_false_iff_not]
            omega
          rw [hab]
          cases inB a 0 20000 with
          | false => rfl
          | true =>
            cases rCmp .lss b a with
            | true => rfl
            | false => cases inB ext 0 a7 <;> rfl

/-! ### Bills -/
abbrev Sty := Int × Int × Int × Int
def billStep (f : Sty → Int) (sum : Int) (s : Sty) : Int ⊕ (Int × Bool × Unit ⊕ (Int × Unit ⊕ Empty)) := bif rCmp .lss (f s) 0 then .inr (.inl (0, false, ())) else .inl (rArith .add .i64 sum (f s))
def billRun (f : Sty → Int) (l : List Sty) : Int × Bool × Unit ⊕ (Int × Unit ⊕ Empty) := runL (billStep f) (fun sum => .inr (.inl (sum, ()))) l 0
def billOut : Int × Bool × Unit ⊕ (Int × Unit ⊕ Empty) → Int × Bool
  | .inl y => (y.1, y.2.1)
  | .inr (.inl y) => (y.1, true)
def bill (o c : List Spn) (a0 a1 a2 a3 a4 a5 a6 a7 : Int) (l : List Sty) : Int × Bool :=
  bif weekOk o c then bif termsOk a0 a1 a2 a3 a4 a5 a6 a7 then bif decide (20 < l.length) then (0, false) else billOut (billRun (fun s => fee o c a0 a1 a2 a3 a4 a5 a6 a7 s.1 s.2.1 s.2.2.1 s.2.2.2) l) else (0, false) else (0, false)
theorem implBill_eq (o c : List Spn) (a0 a1 a2 a3 a4 a5 a6 a7 : Int) (l : List Sty) : impl_BillOf o c a0 a1 a2 a3 a4 a5 a6 a7 l = some ((bill o c a0 a1 a2 a3 a4 a5 a6 a7 l).1, (bill o c a0 a1 a2 a3 a4 a5 a6 a7 l).2, ()) := by
  unfold impl_BillOf bill
  simp only [implWeek_eq, implTerms_eq, len20, Option.bind_some]
  cases weekOk o c with
  | false => rfl
  | true =>
    cases termsOk a0 a1 a2 a3 a4 a5 a6 a7 with
    | false => rfl
    | true =>
      cases hl : decide (20 < l.length) with
      | true => rfl
      | false =>
        have hl := of_decide_eq_false hl
        have hloop : impl_BillOf_l0 (o, c, a0, a1, a2, a3, a4, a5, a6, a7, l, rLen l, ()) ((0 : Int), (0 : Int), ()) = some (billRun (fun s => fee o c a0 a1 a2 a3 a4 a5 a6 a7 s.1 s.2.1 s.2.2.1 s.2.2.2) l) := by
          refine loop_run l zIIII (by omega) (fun sum n => (sum, (n : Int), ())) (billStep (fun s => fee o c a0 a1 a2 a3 a4 a5 a6 a7 s.1 s.2.1 s.2.2.1 s.2.2.2)) _ (fun _ _ => True) (fun n sum hn _ => ⟨?_, fun _ _ => trivial⟩) (fun sum _ => ?_) 0 trivial
          · unfold impl_BillOf_b0 billStep
            simp only [lss_len, inR_nat, get_nat, hn, decide_true, cond_true, implFee_eq, Option.bind_some, succ64 (n := n) (by omega)]
            cases rCmp .lss _ (0 : Int) <;> rfl
          · unfold impl_BillOf_b0
            simp only [lss_len, Nat.lt_irrefl, decide_false, cond_false]
        simp only [Bool.not_true, cond_false, cond_true]
        rw [hloop]
        cases billRun (fun s => fee o c a0 a1 a2 a3 a4 a5 a6 a7 s.1 s.2.1 s.2.2.1 s.2.2.2) l with
        | inl y => rfl
        | inr q => cases q with
          | inl y => rfl
          | inr e => exact nomatch e
theorem specBill_eq (o c : List Spn) (a0 a1 a2 a3 a4 a5 a6 a7 : Int) (l : List Sty) : spec_BillOf o c a0 a1 a2 a3 a4 a5 a6 a7 l = some ((bill o c a0 a1 a2 a3 a4 a5 a6 a7 l).1, (bill o c a0 a1 a2 a3 a4 a5 a6 a7 l).2, ()) := by
  unfold spec_BillOf bill
  simp only [specWeek_eq, specTerms_eq, len20, Option.bind_some]
  cases weekOk o c with
  | false => rfl
  | true =>
    cases termsOk a0 a1 a2 a3 a4 a5 a6 a7 with
    | false => rfl
    | true =>
      cases hl : decide (20 < l.length) with
      | true => rfl
      | false =>
        have hl := of_decide_eq_false hl
        have hloop : spec_BillOf_l0 (l, o, c, a0, a1, a2, a3, a4, a5, a6, a7, ()) ((0 : Int), (0 : Int), ()) = some (billRun (fun s => fee o c a0 a1 a2 a3 a4 a5 a6 a7 s.1 s.2.1 s.2.2.1 s.2.2.2) l) := by
          refine loop_run l zIIII (by omega) (fun sum n => (sum, (n : Int), ())) (billStep (fun s => fee o c a0 a1 a2 a3 a4 a5 a6 a7 s.1 s.2.1 s.2.2.1 s.2.2.2)) _ (fun _ _ => True) (fun n sum hn _ => ⟨?_, fun _ _ => trivial⟩) (fun sum _ => ?_) 0 trivial
          · unfold spec_BillOf_b0 billStep
            simp only [lss_len, inR_nat, get_nat, hn, decide_true, cond_true, specFee_eq, Option.bind_some, succ64 (n := n) (by omega)]
            cases rCmp .lss _ (0 : Int) <;> rfl
          · unfold spec_BillOf_b0
            simp only [lss_len, Nat.lt_irrefl, decide_false, cond_false]
        simp only [Bool.not_true, cond_false, cond_true]
        rw [hloop]
        cases billRun (fun s => fee o c a0 a1 a2 a3 a4 a5 a6 a7 s.1 s.2.1 s.2.2.1 s.2.2.2) l with
        | inl y => rfl
        | inr q => cases q with
          | inl y => rfl
          | inr e => exact nomatch e
theorem toWeek_eq (o c : List Spn) (ho : o.length ≤ 1073741824) (hc : c.length ≤ 1073741824) : laws_toWeek o c = some (o, c, ()) := by
  unfold laws_toWeek
  rw [toSpanS_eq o ho]
  simp only [Option.bind_some]
  rw [toSpanS_eq c hc]
  rfl
theorem eqWeek_self (o c : List Spn) (ho : o.length ≤ 1073741824) (hc : c.length ≤ 1073741824) : laws_eqWeek o c o c = some (true, ()) := by
  unfold laws_eqWeek
  rw [eqSpanS_self o ho]
  simp only [Option.bind_some, Bool.not_true, cond_false]
  rw [eqSpanS_self c hc]
  rfl
theorem toTerms_eq (a0 a1 a2 a3 a4 a5 a6 a7 : Int) : laws_toTerms a0 a1 a2 a3 a4 a5 a6 a7 = some (a0, a1, a2, a3, a4, a5, a6, a7, ()) := rfl
theorem rBeq_self (b : Bool) : rBeq b b = true := by unfold rBeq; simp
theorem neg1 : rCmp .lss (-1 : Int) 0 = true := rfl
/-- The measure of a week: what is left of a, or less than nothing. -/
theorem szWeek_eq (o c : List Spn) (a : Int) (ho : o.length ≤ 9223372036854775807) (hc : c.length ≤ 9223372036854775807) (ha : 0 ≤ a) (ha' : a ≤ 1048576) :
    laws_szWeek o c a = some (bif decide (a < (o.length : Int) + (c.length : Int)) then -1 else a - (o.length : Int) - (c.length : Int), ()) := by
  unfold laws_szWeek
  rw [szSpanS_eq o a ho ha ha']
  simp only [Option.bind_some]
  cases h1 : decide (a < (o.length : Int)) with
  | true =>
    have h1 := of_decide_eq_true h1
    rw [decide_eq_true (show a < (o.length : Int) + (c.length : Int) by omega)]
    simp only [cond_true, neg1]
  | false =>
    have h1 := of_decide_eq_false h1
    simp only [cond_false]
    rw [neg_of (by omega)]
    simp only [cond_false]
    rw [szSpanS_eq c _ hc (by omega) (by omega)]
    simp only [Option.bind_some]
    have h3 : decide (a - (o.length : Int) < (c.length : Int)) = decide (a < (o.length : Int) + (c.length : Int)) := by rw [decide_eq_decide]; omega
    rw [h3]
    cases h2 : decide (a < (o.length : Int) + (c.length : Int)) with
    | true => simp only [cond_true, neg1]
    | false =>
      have h2 := of_decide_eq_false h2
      simp only [cond_false]
      rw [neg_of (by omega)]
      rfl
theorem billOf_true (o c : List Spn) (a0 a1 a2 a3 a4 a5 a6 a7 : Int) (l : List Sty) (ho : o.length ≤ 9223372036854775807) (hc : c.length ≤ 9223372036854775807) (hl : l.length ≤ 9223372036854775807) : laws_FnExactBillOf o c a0 a1 a2 a3 a4 a5 a6 a7 l = some (true, ()) := by
  unfold laws_FnExactBillOf
  rw [szWeek_eq o c _ ho hc (by decide) (by decide)]
  simp only [Option.bind_some]
  cases h1 : decide ((1048576 : Int) < (o.length : Int) + (c.length : Int)) with
  | true => simp only [cond_true, neg1]
  | false =>
    have h1 := of_decide_eq_false h1
    simp only [cond_false]
    rw [neg_of (by omega)]
    simp only [cond_false]
    rw [szStayS_eq l _ hl (by omega) (by omega)]
    simp only [Option.bind_some]
    cases h2 : decide ((1048576 : Int) - (o.length : Int) - (c.length : Int) < (l.length : Int)) with
    | true => simp only [cond_true, neg1]
    | false =>
      have h2 := of_decide_eq_false h2
      simp only [cond_false]
      rw [neg_of (by omega)]
      have w := toWeek_eq o c (by omega) (by omega)
      have w' := eqWeek_self o c (by omega) (by omega)
      have s := toStayS_eq l (by omega)
      have s' := eqStayS_self l (by omega)
      simp only [cond_false, w, w', s, s', toTerms_eq, Option.bind_some, specBill_eq, implBill_eq, neq_self, rBeq_self, Bool.not_true]
end Go.Fn
