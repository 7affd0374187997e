import Derived.Test.YtgiakgamcepemaaFnB
import Derived.Test.YtgiakgamcepemaaPA
/- Plain functions that stand for Go functions, and what they answer: PB. Conditions: none. -/
set_option autoImplicit false
set_option linter.unusedVariables false
set_option linter.unusedSimpArgs false
/-! PB: what a journal knows, what another lacks of it; marks. -/
set_option linter.unusedSimpArgs false
namespace Go.Fn
open Go.R
theorem toIntS_eq (l : List Int) (hl : l.length ≤ 1073741824) : laws_toIntS l = some (l, ()) := by
  unfold laws_toIntS
  rw [repOk_len hl]
  have hloop : laws_toIntS_l0 (l, ()) (List.replicate l.length 0, (0 : Int), ()) = some (Sum.inl (l, ())) := by
    have := loop_end (body := laws_toIntS_b0 (l, ())) (fun n => (l.take n ++ List.replicate (l.length - n) 0, (n : Int), ())) l.length (by omega) (Sum.inl (l, ())) (fun n hn => ?_) ?_
    · unfold laws_toIntS_l0; simpa using this
    · unfold laws_toIntS_b0
      have hx : n < (l.take n ++ List.replicate (l.length - n) (0 : Int)).length := by rw [fill_len _ _ (Nat.le_of_lt hn)]; exact hn
      simp only [lss_len, inR_nat, hn, hx, decide_true, cond_true, get_nat, succ64 (n := n) (by omega), put_nat]
      rw [← set_fill l 0 hn, getD_lt hn zI 0]
    · unfold laws_toIntS_b0
      simp only [lss_len, Nat.lt_irrefl, decide_false, cond_false, Nat.sub_self, List.replicate_zero, List.append_nil, List.take_length]
  have hr : rRep (rLen l) (0 : Int) = List.replicate l.length 0 := rep_nat _ _
  rw [hr]
  simp only [cond_true]
  rw [hloop]
  rfl
theorem eqIntS_self (l : List Int) (hl : l.length ≤ 1073741824) : laws_eqIntS l l = some (true, ()) := by
  unfold laws_eqIntS
  rw [neq_self]
  have hloop : laws_eqIntS_l0 (l, l, ()) ((0 : Int), ()) = some (Sum.inr (Sum.inl ())) := by
    refine loop_end (fun n => ((n : Int), ())) l.length (by omega) _ (fun n hn => ?_) ?_
    · unfold laws_eqIntS_b0
      simp only [lss_len, inR_nat, hn, decide_true, cond_true, neq_self, succ64 (n := n) (by omega)]
      rfl
    · unfold laws_eqIntS_b0
      simp only [lss_len, Nat.lt_irrefl, decide_false, cond_false]
  simp only [cond_false]
  rw [hloop]
  rfl

/-! ### Marks -/
theorem add1 {a : Int} (h0 : 0 ≤ a) (h1 : a ≤ 4611686018427387904) : rArith .add .i64 a 1 = a + 1 := add64 (by omega) (by omega)
/-- A list filled anew from the left. -/
def fillF {α : Type} (l : List α) (f : Nat → α) (n : Nat) : List α := (List.range n).map f ++ l.drop n
theorem fillF_len {α : Type} (l : List α) (f : Nat → α) {n : Nat} (h : n ≤ l.length) : (fillF l f n).length = l.length := by
  simp only [fillF, List.length_append, List.length_map, List.length_range, List.length_drop]; omega
theorem fillF_set {α : Type} (l : List α) (f : Nat → α) {n : Nat} (h : n < l.length) : (fillF l f n).set n (f n) = fillF l f (n + 1) := by
  unfold fillF
  have h1 : ((List.range n).map f).length = n := by simp
  rw [List.set_append, if_neg (by omega), h1, Nat.sub_self, List.range_succ, List.map_append, List.append_assoc]
  congr 1
  rw [List.drop_eq_getElem_cons h]
  rfl
theorem fillF_get {α : Type} (f : Nat → α) (k : Nat) {n : Nat} (h : n < k) (z : α) : ((List.range k).map f).getD n z = f n := by
  rw [List.getD_eq_getElem?_getD, List.getElem?_map, List.getElem?_range h]; rfl
def marksI (k : Int) (n : Nat) : List Int := (List.range n).map fun i : Nat => k + (i : Int)
theorem markIntS_eq (l : List Int) (k : Int) (hl : l.length ≤ 1073741824) (h0 : 0 ≤ k) (h1 : k ≤ 1099511627776) : laws_markIntS l k = some (k + (l.length : Int), marksI k l.length, ()) := by
  unfold laws_markIntS
  have hloop : laws_markIntS_l0 () (l, k, (0 : Int), ()) = some (Sum.inl (marksI k l.length, k + (l.length : Int), ())) := by
    have := loop_end (body := laws_markIntS_b0 ()) (fun n => (fillF l (fun i => k + (i : Int)) n, k + (n : Int), (n : Int), ())) l.length (by omega) (Sum.inl (marksI k l.length, k + (l.length : Int), ())) (fun n hn => ?_) ?_
    · unfold laws_markIntS_l0
      have e0 : fillF l (fun i => k + (i : Int)) 0 = l := by simp [fillF]
      simp only [e0] at this
      simpa using this
    · unfold laws_markIntS_b0
      have hx : n < (fillF l (fun i => k + (i : Int)) n).length := by rw [fillF_len _ _ (Nat.le_of_lt hn)]; exact hn
      simp only [lss_len, inR_nat, hx, decide_true, cond_true, succ64 (n := n) (by omega), put_nat]
      rw [add1 (by omega) (by omega), ← fillF_set _ _ hn]
      have : k + (n : Int) + 1 = k + ((n + 1 : Nat) : Int) := by omega
      rw [this]
    · unfold laws_markIntS_b0
      have hx : (fillF l (fun i => k + (i : Int)) l.length).length = l.length := fillF_len _ _ (Nat.le_refl _)
      simp only [lss_len, hx, Nat.lt_irrefl, decide_false, cond_false]
      simp [fillF, marksI]
  rw [hloop]
  rfl
theorem heldIntS_eq (n : Nat) (k : Int) (hl : n ≤ 1073741824) (h0 : 0 ≤ k) (h1 : k ≤ 1099511627776) : laws_heldIntS (marksI k n) k = some (k + (n : Int), ()) := by
  unfold laws_heldIntS
  have hlen : (marksI k n).length = n := by simp [marksI]
  have hloop : laws_heldIntS_l0 (marksI k n, ()) (k, (0 : Int), ()) = some (Sum.inr (Sum.inl (k + (n : Int), ()))) := by
    have := loop_end (body := laws_heldIntS_b0 (marksI k n, ())) (fun m => (k + (m : Int), (m : Int), ())) n (by omega) (Sum.inr (Sum.inl (k + (n : Int), ()))) (fun m hm => ?_) ?_
    · unfold laws_heldIntS_l0; simpa using this
    · unfold laws_heldIntS_b0
      have hg : (marksI k n).getD m zI = k + (m : Int) := fillF_get _ _ hm _
      simp only [lss_len, hlen, inR_nat, hm, decide_true, cond_true, get_nat, hg, neq_self, cond_false, succ64 (n := m) (by omega)]
      rw [add1 (by omega) (by omega)]
      have : k + (m : Int) + 1 = k + ((m + 1 : Nat) : Int) := by omega
      rw [this]
    · unfold laws_heldIntS_b0
      simp only [lss_len, hlen, Nat.lt_irrefl, decide_false, cond_false]
  rw [hloop]
  rfl
def markE (k : Int) (i : Nat) : Ev := (k + 7 * (i : Int), k + 7 * (i : Int) + 1, k + 7 * (i : Int) + 1 + 1, k + 7 * (i : Int) + 1 + 1 + 1, k + 7 * (i : Int) + 1 + 1 + 1 + 1, k + 7 * (i : Int) + 1 + 1 + 1 + 1 + 1, k + 7 * (i : Int) + 1 + 1 + 1 + 1 + 1 + 1)
def marksE (k : Int) (n : Nat) : List Ev := (List.range n).map (markE k)
theorem markEventS_eq (l : List Ev) (k : Int) (hl : l.length ≤ 1073741824) (h0 : 0 ≤ k) (h1 : k ≤ 1099511627776) : laws_markEventS l k = some (k + 7 * (l.length : Int), marksE k l.length, ()) := by
  unfold laws_markEventS
  have hloop : laws_markEventS_l0 () (l, k, (0 : Int), ()) = some (Sum.inl (marksE k l.length, k + 7 * (l.length : Int), ())) := by
    have := loop_end (body := laws_markEventS_b0 ()) (fun n => (fillF l (markE k) n, k + 7 * (n : Int), (n : Int), ())) l.length (by omega) (Sum.inl (marksE k l.length, k + 7 * (l.length : Int), ())) (fun n hn => ?_) ?_
    · unfold laws_markEventS_l0
      have e0 : fillF l (markE k) 0 = l := by simp [fillF]
      simp only [e0] at this
      simpa using this
    · have hx : n < (fillF l (markE k) n).length := by rw [fillF_len _ _ (Nat.le_of_lt hn)]; exact hn
      rw [← fillF_set l (markE k) hn]
      generalize hL : fillF l (markE k) n = L at hx
      have e1 : k + 7 * ((n + 1 : Nat) : Int) = k + 7 * (n : Int) + 1 + 1 + 1 + 1 + 1 + 1 + 1 := by omega
      rw [e1]
      unfold markE
      have b0 : 0 ≤ k + 7 * (n : Int) := by omega
      have b1 : k + 7 * (n : Int) ≤ 1125899906842624 := by omega
      revert b0 b1
      generalize k + 7 * (n : Int) = q
      intro b0 b1
      have a1 : rArith .add .i64 q 1 = q + 1 := add1 (by omega) (by omega)
      have a2 : rArith .add .i64 (q + 1) 1 = q + 1 + 1 := add1 (by omega) (by omega)
      have a3 : rArith .add .i64 (q + 1 + 1) 1 = q + 1 + 1 + 1 := add1 (by omega) (by omega)
      have a4 : rArith .add .i64 (q + 1 + 1 + 1) 1 = q + 1 + 1 + 1 + 1 := add1 (by omega) (by omega)
      have a5 : rArith .add .i64 (q + 1 + 1 + 1 + 1) 1 = q + 1 + 1 + 1 + 1 + 1 := add1 (by omega) (by omega)
      have a6 : rArith .add .i64 (q + 1 + 1 + 1 + 1 + 1) 1 = q + 1 + 1 + 1 + 1 + 1 + 1 := add1 (by omega) (by omega)
      have a7 : rArith .add .i64 (q + 1 + 1 + 1 + 1 + 1 + 1) 1 = q + 1 + 1 + 1 + 1 + 1 + 1 + 1 := add1 (by omega) (by omega)
      unfold laws_markEventS_b0
      simp only [lss_len, inR_nat, hx, decide_true, cond_true, succ64 (n := n) (by omega), put_nat, get_nat, a1, a2, a3, a4, a5, a6, a7]
      iterate 8 (rw [lets_def]; try simp only [inR_set, List.length_set, hx, decide_true, cond_true, put_nat, get_nat, getD_set_self hx, List.set_set, a7])
    · unfold laws_markEventS_b0
      have hx : (fillF l (markE k) l.length).length = l.length := fillF_len _ _ (Nat.le_refl _)
      simp only [lss_len, hx, Nat.lt_irrefl, decide_false, cond_false]
      simp [fillF, marksE]
  rw [hloop]
  rfl
theorem heldEventS_eq (n : Nat) (k : Int) (hl : n ≤ 1073741824) (h0 : 0 ≤ k) (h1 : k ≤ 1099511627776) : laws_heldEventS (marksE k n) k = some (k + 7 * (n : Int), ()) := by
  unfold laws_heldEventS
  have hlen : (marksE k n).length = n := by simp [marksE]
  have hloop : laws_heldEventS_l0 (marksE k n, ()) (k, (0 : Int), ()) = some (Sum.inr (Sum.inl (k + 7 * (n : Int), ()))) := by
    have := loop_end (body := laws_heldEventS_b0 (marksE k n, ())) (fun m => (k + 7 * (m : Int), (m : Int), ())) n (by omega) (Sum.inr (Sum.inl (k + 7 * (n : Int), ()))) (fun m hm => ?_) ?_
    · unfold laws_heldEventS_l0; simpa using this
    · have hg : (marksE k n).getD m zIIIIIII = markE k m := fillF_get _ _ hm _
      have e1 : k + 7 * ((m + 1 : Nat) : Int) = k + 7 * (m : Int) + 1 + 1 + 1 + 1 + 1 + 1 + 1 := by omega
      rw [e1]
      unfold markE at hg
      have b0 : 0 ≤ k + 7 * (m : Int) := by omega
      have b1 : k + 7 * (m : Int) ≤ 1125899906842624 := by omega
      revert b0 b1 hg
      generalize k + 7 * (m : Int) = q
      intro hg b0 b1
      have a1 : rArith .add .i64 q 1 = q + 1 := add1 (by omega) (by omega)
      have a2 : rArith .add .i64 (q + 1) 1 = q + 1 + 1 := add1 (by omega) (by omega)
      have a3 : rArith .add .i64 (q + 1 + 1) 1 = q + 1 + 1 + 1 := add1 (by omega) (by omega)
      have a4 : rArith .add .i64 (q + 1 + 1 + 1) 1 = q + 1 + 1 + 1 + 1 := add1 (by omega) (by omega)
      have a5 : rArith .add .i64 (q + 1 + 1 + 1 + 1) 1 = q + 1 + 1 + 1 + 1 + 1 := add1 (by omega) (by omega)
      have a6 : rArith .add .i64 (q + 1 + 1 + 1 + 1 + 1) 1 = q + 1 + 1 + 1 + 1 + 1 + 1 := add1 (by omega) (by omega)
      have a7 : rArith .add .i64 (q + 1 + 1 + 1 + 1 + 1 + 1) 1 = q + 1 + 1 + 1 + 1 + 1 + 1 + 1 := add1 (by omega) (by omega)
      unfold laws_heldEventS_b0
      simp only [lss_len, hlen, inR_nat, hm, decide_true, cond_true, get_nat, hg, neq_self, cond_false, succ64 (n := m) (by omega), a1, a2, a3, a4, a5, a6, a7, lets_def]
    · unfold laws_heldEventS_b0
      simp only [lss_len, hlen, Nat.lt_irrefl, decide_false, cond_false]
  rw [hloop]
  rfl

/-! ### What a journal knows -/
theorem jok_len {l : List Ev} (h : jok l = true) : l.length ≤ 60 := by
  unfold jok at h
  cases hd : decide (60 < l.length) with
  | true => rw [hd] at h; cases h
  | false => have := of_decide_eq_false hd; omega
theorem jok_at {l : List Ev} (h : jok l = true) {n : Nat} (hn : n < l.length) : jokAt l n = true := by
  have h60 := jok_len h
  unfold jok at h
  rw [decide_eq_false (by omega)] at h
  exact (allFrom_iff _ _).1 h n (Nat.zero_le _) (by omega)
theorem jok_ev {l : List Ev} (h : jok l = true) {n : Nat} (hn : n < l.length) : evOk (l.getD n zIIIIIII) = true := by
  have := jok_at h hn
  cases n with
  | zero => exact this
  | succ n => simp only [jokAt, Bool.and_eq_true] at this; exact this.1
theorem inB_iff {a lo hi : Int} : inB a lo hi = true ↔ lo ≤ a ∧ a ≤ hi := by
  unfold inB
  by_cases h : lo ≤ a
  · rw [decide_eq_true (show a ≥ lo from h)]; simp [h]
  · rw [decide_eq_false (show ¬ a ≥ lo from h)]; simp [h]
theorem bif_and {a b : Bool} : (bif a then b else false) = true ↔ a = true ∧ b = true := by cases a <;> simp
theorem evOk_iff {e : Ev} : evOk e = true ↔ (0 ≤ e.1 ∧ e.1 ≤ 5) ∧ (1 ≤ e.2.1 ∧ e.2.1 ≤ 999) ∧ (1 ≤ e.2.2.1 ∧ e.2.2.1 ≤ 100000) ∧ (1 ≤ e.2.2.2.1 ∧ e.2.2.2.1 ≤ 4) ∧ (1 ≤ e.2.2.2.2.1 ∧ e.2.2.2.2.1 ≤ 999) ∧ (0 ≤ e.2.2.2.2.2.1 ∧ e.2.2.2.2.2.1 ≤ 20000) ∧ (0 ≤ e.2.2.2.2.2.2 ∧ e.2.2.2.2.2.2 ≤ 20000) := by
  unfold evOk
  simp only [bif_and, inB_iff]
def kstep (out : List Int) (e : Ev) : List Int := bif rCmp .eql e.2.1 (rArith .add .i64 (rGet zI out e.1) 1) then rPut out e.1 e.2.1 else out
def known (l : List Ev) : List Int := bif jok l then l.foldl kstep [0, 0, 0, 0, 0, 0] else []
theorem put_len {α : Type} (l : List α) (i : Int) (y : α) : (rPut l i y).length = l.length := by simp [rPut]
theorem inR_iff {α : Type} {l : List α} {i : Int} (h0 : 0 ≤ i) (h1 : i < (l.length : Int)) : rInR l i = true := by
  unfold rInR; rw [Bool.and_eq_true]; exact ⟨decide_eq_true h0, decide_eq_true h1⟩
theorem kstep_len {out : List Int} {e : Ev} (h : out.length = 6) : (kstep out e).length = 6 := by
  unfold kstep
  cases rCmp .eql e.2.1 (rArith .add .i64 (rGet zI out e.1) 1) with
  | true => exact (put_len _ _ _).trans h
  | false => exact h
theorem eql_eq {a b : Int} (h : rCmp .eql a b = true) : a = b := by simpa [rCmp] using h
theorem implKnown_eq (l : List Ev) : impl_KnownOf l = some (known l, ()) := by
  unfold impl_KnownOf known
  rw [implJ_eq]
  simp only [Option.bind_some]
  cases hj : jok l with
  | false => rfl
  | true =>
    have h60 := jok_len hj
    have hloop : impl_KnownOf_l0 (l, rLen l, ()) ([0, 0, 0, 0, 0, 0], (0 : Int), ()) = some (Sum.inl (l.foldl kstep [0, 0, 0, 0, 0, 0], ())) := by
      refine (loop_fold (body := impl_KnownOf_b0 (l, rLen l, ())) l zIIIIIII (by omega) kstep (fun out n => (out, (n : Int), ())) (fun _ out => out.length = 6) (fun out => Sum.inl (out, ())) (fun n out hn ho => ⟨?_, kstep_len ho⟩) (fun out ho => ?_) [0, 0, 0, 0, 0, 0] rfl).1
      · have he := evOk_iff.1 (jok_ev hj hn)
        unfold impl_KnownOf_b0 kstep
        simp only [lss_len, inR_nat, get_nat, hn, decide_true, cond_true, succ64 (n := n) (by omega)]
        revert he
        generalize l.getD n zIIIIIII = e
        intro he
        rw [inR_iff (l := out) (i := e.1) he.1.1 (by rw [ho]; omega)]
        simp only [cond_true]
        cases hc : rCmp .eql e.2.1 (rArith .add .i64 (rGet zI out e.1) 1) with
        | false => rfl
        | true => rw [← eql_eq hc]; rfl
      · unfold impl_KnownOf_b0
        simp only [lss_len, Nat.lt_irrefl, decide_false, cond_false]
    have hr : rRep (6 : Int) (0 : Int) = [0, 0, 0, 0, 0, 0] := rfl
    have hk : rRepOk (6 : Int) = true := rfl
    rw [hr, hk]
    simp only [Bool.not_true, cond_false, cond_true]
    rw [hloop]
    rfl
theorem specKnown_eq (l : List Ev) : spec_KnownOf l = some (known l, ()) := by
  unfold spec_KnownOf known
  rw [specJ_eq]
  simp only [Option.bind_some]
  cases hj : jok l with
  | false => rfl
  | true =>
    have h60 := jok_len hj
    have hloop : spec_KnownOf_l0 (l, ()) ([0, 0, 0, 0, 0, 0], (0 : Int), ()) = some (Sum.inl (l.foldl kstep [0, 0, 0, 0, 0, 0], ())) := by
      refine (loop_fold (body := spec_KnownOf_b0 (l, ())) l zIIIIIII (by omega) kstep (fun out n => (out, (n : Int), ())) (fun _ out => out.length = 6) (fun out => Sum.inl (out, ())) (fun n out hn ho => ⟨?_, kstep_len ho⟩) (fun out ho => ?_) [0, 0, 0, 0, 0, 0] rfl).1
      · have he := evOk_iff.1 (jok_ev hj hn)
        unfold spec_KnownOf_b0 kstep
        simp only [lss_len, inR_nat, get_nat, hn, decide_true, cond_true, succ64 (n := n) (by omega)]
        revert he
        generalize l.getD n zIIIIIII = e
        intro he
        rw [inR_iff (l := out) (i := e.1) he.1.1 (by rw [ho]; omega)]
        simp only [cond_true]
        cases hc : rCmp .eql e.2.1 (rArith .add .i64 (rGet zI out e.1) 1) <;> rfl
      · unfold spec_KnownOf_b0
        simp only [lss_len, Nat.lt_irrefl, decide_false, cond_false]
    have hr : rRep (6 : Int) (0 : Int) = [0, 0, 0, 0, 0, 0] := rfl
    have hk : rRepOk (6 : Int) = true := rfl
    rw [hr, hk]
    simp only [Bool.not_true, cond_false, cond_true]
    rw [hloop]
    rfl
theorem known_len (l : List Ev) : (known l).length ≤ 6 := by
  unfold known
  cases hj : jok l with
  | false => simp
  | true =>
    have : ∀ (l : List Ev) (o : List Int), o.length = 6 → (l.foldl kstep o).length = 6 := by
      intro l
      induction l with
      | nil => intro o h; exact h
      | cons e l ih => intro o h; exact ih _ (kstep_len h)
    exact Nat.le_of_eq (this l _ rfl)
theorem neg_of {a : Int} (h : 0 ≤ a) : rCmp .lss a 0 = false := by simp only [rCmp, decide_eq_false_iff_not]; omega
theorem knownOf_true (l : List Ev) (hl0 : l.length ≤ 9223372036854775807) : laws_FnExactKnownOf l = some (true, ()) := by
  unfold laws_FnExactKnownOf
  rw [szEvS_eq l _ hl0 (by decide) (by decide)]
  simp only [Option.bind_some]
  cases hd : decide ((1048576 : Int) < (l.length : Int)) with
  | true => rfl
  | false =>
    have hd := of_decide_eq_false hd
    have hl : l.length ≤ 1073741824 := by omega
    have hk := known_len l
    simp only [cond_false]
    rw [neg_of (by omega)]
    have m1 := markEventS_eq l 1 hl (by decide) (by decide)
    have m2 := markIntS_eq (known l) 1 (by omega) (by decide) (by decide)
    have m3 := heldIntS_eq (known l).length 1 (by omega) (by decide) (by decide)
    simp only [cond_false, toEvS_eq l hl, Option.bind_some, specKnown_eq, implKnown_eq, eqIntS_self (known l) (by omega), eqEvS_self l hl, m1, m2, m3, Bool.not_true, neq_self]
    rw [neg_of (by omega), neg_of (by omega)]
    rfl

/-! ### What another lacks -/
def lacks (kn : List Int) (e : Ev) : Bool := rCmp .gtr e.2.1 (rGet zI kn e.1)
def dstep (kn : List Int) (out : List Ev) (e : Ev) : List Ev := bif lacks kn e then out ++ [e] else out
def delta (l : List Ev) (kn : List Int) : List Ev := bif jok l then bif rCmp .neq (rLen kn) 6 then [] else l.foldl (dstep kn) [] else []
theorem dstep_len {kn : List Int} {out : List Ev} {e : Ev} {n : Nat} (h : out.length ≤ n) : (dstep kn out e).length ≤ n + 1 := by
  unfold dstep
  cases lacks kn e with
  | true => simp; omega
  | false => exact Nat.le_succ_of_le h
theorem small_of {α : Type} {l : List α} (h : l.length ≤ 1073741824) : rSmall l = true := by unfold rSmall limit; exact decide_eq_true (by omega)
theorem implDelta_eq (l : List Ev) (kn : List Int) : impl_DeltaFor l kn = some (delta l kn, ()) := by
  unfold impl_DeltaFor delta
  rw [implJ_eq]
  simp only [Option.bind_some]
  cases hj : jok l with
  | false => rfl
  | true =>
    have h60 := jok_len hj
    simp only [Bool.not_true, cond_false, cond_true]
    cases hk : rCmp .neq (rLen kn) 6 with
    | true => rfl
    | false =>
      have hk6 : kn.length = 6 := by simp [rCmp, rLen] at hk; omega
      have hloop : impl_DeltaFor_l0 (kn, l, rLen l, ()) ([], (0 : Int), ()) = some (Sum.inl (l.foldl (dstep kn) [], ())) := by
        refine (loop_fold (body := impl_DeltaFor_b0 (kn, l, rLen l, ())) l zIIIIIII (by omega) (dstep kn) (fun out n => (out, (n : Int), ())) (fun n out => out.length ≤ n) (fun out => Sum.inl (out, ())) (fun n out hn ho => ⟨?_, dstep_len ho⟩) (fun out ho => ?_) [] (Nat.le_refl _)).1
        · have he := evOk_iff.1 (jok_ev hj hn)
          unfold impl_DeltaFor_b0 dstep lacks
          simp only [lss_len, inR_nat, get_nat, hn, decide_true, cond_true, succ64 (n := n) (by omega)]
          revert he
          generalize l.getD n zIIIIIII = e
          intro he
          rw [inR_iff (l := kn) (i := e.1) he.1.1 (by rw [hk6]; omega)]
          have hs : rSmall (List.append out (List.append [] [e])) = true := small_of (by show (out ++ ([] ++ [e])).length ≤ _; simp; omega)
          rw [hs]
          simp only [cond_true]
          cases hc : rCmp .gtr e.2.1 (rGet zI kn e.1) <;> rfl
        · unfold impl_DeltaFor_b0
          simp only [lss_len, Nat.lt_irrefl, decide_false, cond_false]
      simp only [cond_false]
      rw [hloop]
      rfl
theorem specDelta_eq (l : List Ev) (kn : List Int) : spec_DeltaFor l kn = some (delta l kn, ()) := by
  unfold spec_DeltaFor delta
  have hloop : spec_DeltaFor_l0 (l, kn, ()) ([], (0 : Int), ()) = some (Sum.inl ((bif jok l then bif rCmp .neq (rLen kn) 6 then [] else l.foldl (dstep kn) [] else []), ())) := by
    cases hj : jok l with
    | false =>
      refine iter_mono (n := 1) (iter_done ?_) (Nat.le_of_lt (lt_big (by omega)))
      unfold spec_DeltaFor_b0
      simp only [specJ_eq, hj, Option.bind_some, cond_false]
      cases rCmp .lss (0 : Int) (rLen l) <;> rfl
    | true =>
      have h60 := jok_len hj
      simp only [cond_true]
      cases hk : rCmp .neq (rLen kn) 6 with
      | true =>
        refine iter_mono (n := 1) (iter_done ?_) (Nat.le_of_lt (lt_big (by omega)))
        have he : rCmp .eql (rLen kn) 6 = false := by simp [rCmp] at hk ⊢; exact hk
        unfold spec_DeltaFor_b0
        simp only [specJ_eq, hj, Option.bind_some, cond_true, he, cond_false]
        cases rCmp .lss (0 : Int) (rLen l) <;> rfl
      | false =>
        have hk6 : kn.length = 6 := by simp [rCmp, rLen] at hk; omega
        have he6 : rCmp .eql (rLen kn) 6 = true := by simp [rCmp, rLen, hk6]
        refine (loop_fold (body := spec_DeltaFor_b0 (l, kn, ())) l zIIIIIII (by omega) (dstep kn) (fun out n => (out, (n : Int), ())) (fun n out => out.length ≤ n) (fun out => Sum.inl (out, ())) (fun n out hn ho => ⟨?_, dstep_len ho⟩) (fun out ho => ?_) [] (Nat.le_refl _)).1
        · have he := evOk_iff.1 (jok_ev hj hn)
          unfold spec_DeltaFor_b0 dstep lacks
          simp only [lss_len, inR_nat, get_nat, hn, decide_true, cond_true, succ64 (n := n) (by omega), specJ_eq, hj, Option.bind_some, he6]
          revert he
          generalize l.getD n zIIIIIII = e
          intro he
          rw [inR_iff (l := kn) (i := e.1) he.1.1 (by rw [hk6]; omega)]
          have hs : rSmall (List.append out (List.append [] [e])) = true := small_of (by show (out ++ ([] ++ [e])).length ≤ _; simp; omega)
          rw [hs]
          simp only [cond_true]
          cases hc : rCmp .gtr e.2.1 (rGet zI kn e.1) <;> rfl
        · unfold spec_DeltaFor_b0
          simp only [lss_len, Nat.lt_irrefl, decide_false, cond_false]
  rw [hloop]
  rfl
theorem delta_len (l : List Ev) (kn : List Int) : (delta l kn).length ≤ 60 := by
  unfold delta
  cases hj : jok l with
  | false => simp
  | true =>
    have h60 := jok_len hj
    cases rCmp .neq (rLen kn) 6 with
    | true => simp
    | false =>
      have : ∀ (l : List Ev) (o : List Ev), (l.foldl (dstep kn) o).length ≤ o.length + l.length := by
        intro l
        induction l with
        | nil => intro o; simp
        | cons e l ih =>
          intro o
          have h1 := ih (dstep kn o e)
          have h2 := dstep_len (kn := kn) (e := e) (Nat.le_refl o.length)
          simp only [List.foldl_cons, List.length_cons]
          omega
      have := this l []
      simp only [cond_true, cond_false]
      simp at this
      omega
theorem gtr_len {α : Type} (l : List α) : rCmp .gtr (rLen l) (1048576 : Int) = decide (1048576 < l.length) := by
  simp only [rCmp, rLen, gt_iff_lt, decide_eq_decide]
  omega
theorem deltaFor_true (l : List Ev) (kn : List Int) (hl0 : l.length ≤ 9223372036854775807) : laws_FnExactDeltaFor l kn = some (true, ()) := by
  unfold laws_FnExactDeltaFor
  rw [gtr_len]
  cases hd : decide (1048576 < kn.length) with
  | true => rfl
  | false =>
  have hd := of_decide_eq_false hd
  have hkl : kn.length ≤ 1073741824 := by omega
  simp only [cond_false]
  rw [szEvS_eq l _ hl0 (by decide) (by decide)]
  simp only [Option.bind_some]
  cases hd : decide ((1048576 : Int) < (l.length : Int)) with
  | true => rfl
  | false =>
    have hd := of_decide_eq_false hd
    have hl : l.length ≤ 1073741824 := by omega
    have hk := delta_len l kn
    simp only [cond_false]
    rw [neg_of (by omega)]
    have m1 := markEventS_eq l 1 hl (by decide) (by decide)
    have m2 := markIntS_eq kn (1 + 7 * (l.length : Int)) (by omega) (by omega) (by omega)
    have m3 := markEventS_eq (delta l kn) 1 (by omega) (by decide) (by decide)
    have m4 := heldEventS_eq (delta l kn).length 1 (by omega) (by decide) (by decide)
    simp only [cond_false, toEvS_eq l hl, toIntS_eq kn hkl, Option.bind_some, specDelta_eq, implDelta_eq, eqEvS_self (delta l kn) (by omega), eqIntS_self kn hkl, eqEvS_self l hl, m1, m2, m3, m4, Bool.not_true, neq_self]
    rw [neg_of (by omega), neg_of (by omega)]
    rfl
end Go.Fn
