import Derived.Test.YtnadnafggjopmaaFnMergesQB
/- Plain functions that stand for Go functions, and what they answer. Conditions: none. -/
set_option autoImplicit false
set_option linter.unusedVariables false
set_option linter.unusedSimpArgs false
set_option linter.unusedSimpArgs false
set_option linter.unusedVariables false
namespace Go.Fn
open Go.R Go.Sort
def ordE (x y : Ev) : Prop := ltE x y = true ∧ (x.1 = y.1 → x.2.2.1 < y.2.2.1)
theorem ordE_tr {x y z : Ev} (h1 : ordE x y) (h2 : ordE y z) : ordE x z := by
  obtain ⟨a1, a2⟩ := h1
  obtain ⟨b1, b2⟩ := h2
  refine ⟨ltE_tr a1 b1, fun h => ?_⟩
  rw [ltE_iff] at a1 b1
  have := a2 (by omega)
  have := b2 (by omega)
  omega
theorem ordOk_iff {x y : Ev} : ordOk x y = true ↔ ordE x y := by
  unfold ordE
  simp only [ordOk, Bool.not_eq_true', Bool.or_eq_false_iff, Bool.and_eq_false_iff, decide_eq_false_iff_not, ltE_iff]
  omega
theorem pair_adj {R : Ev → Ev → Prop} (tr : ∀ x y z, R x y → R y z → R x z) : ∀ (l : List Ev), (∀ n, n + 1 < l.length → R (l.getD n zIIIIIII) (l.getD (n + 1) zIIIIIII)) → l.Pairwise R
  | [], _ => List.Pairwise.nil
  | [x], _ => List.pairwise_singleton _ _
  | x :: y :: l, h => by
    have ih := pair_adj tr (y :: l) (fun n hn => h (n + 1) (by simpa using hn))
    have hxy : R x y := h 0 (by simp)
    refine List.Pairwise.cons (fun z hz => ?_) ih
    rcases List.mem_cons.1 hz with rfl | hz
    · exact hxy
    · exact tr _ _ _ hxy ((List.pairwise_cons.1 ih).1 z hz)
theorem getD_eq {α : Type} {l : List α} {n : Nat} (h : n < l.length) (z : α) : l.getD n z = l[n] := by
  rw [List.getD_eq_getElem?_getD, List.getElem?_eq_getElem h]; rfl
theorem jok_iff {l : List Ev} : jok l = true ↔ l.length ≤ 60 ∧ (∀ x, x ∈ l → evOk x = true) ∧ l.Pairwise ordE := by
  constructor
  · intro h
    refine ⟨jok_len h, fun x hx => ?_, pair_adj (R := ordE) (fun _ _ _ h1 h2 => ordE_tr h1 h2) l fun n hn => ?_⟩
    · obtain ⟨n, hn, rfl⟩ := List.getElem_of_mem hx
      have := jok_ev h hn
      rwa [getD_eq hn] at this
    · have := jok_at h hn
      simp only [jokAt, Bool.and_eq_true] at this
      exact ordOk_iff.1 this.2
  · intro ⟨h1, h2, h3⟩
    unfold jok
    rw [decide_eq_false (by omega)]
    refine (allFrom_iff _ _).2 fun m _ hm => ?_
    rw [Nat.zero_add] at hm
    cases m with
    | zero => exact h2 _ (getD_mem hm _)
    | succ m =>
      simp only [jokAt, Bool.and_eq_true]
      refine ⟨h2 _ (getD_mem hm _), ordOk_iff.2 ?_⟩
      rw [getD_eq hm, getD_eq (show m < l.length by omega)]
      exact List.pairwise_iff_getElem.1 h3 m (m + 1) (by omega) hm (by omega)
theorem srt_mono {l : List Ev} (h : l.Pairwise ordE) : ∀ x, x ∈ l → ∀ y, y ∈ l → x.1 = y.1 → x.2.1 < y.2.1 → x.2.2.1 < y.2.2.1 := by
  induction l with
  | nil => intro x hx; exact absurd hx List.not_mem_nil
  | cons u l ih =>
    have h' := List.pairwise_cons.1 h
    intro x hx y hy e1 e2
    rcases List.mem_cons.1 hx with hx1 | hx1 <;> rcases List.mem_cons.1 hy with hy1 | hy1
    · rw [hx1, hy1] at e2; omega
    · subst hx1; exact (h'.1 y hy1).2 e1
    · have := (h'.1 x hx1).1; rw [ltE_iff, ← hy1] at this; omega
    · exact ih h'.2 x hx1 y hy1 e1 e2
/-- Sorted, and the stamps go with the numbers: a journal. -/
theorem jok_of {l : List Ev} (h1 : l.length ≤ 60) (h2 : ∀ x, x ∈ l → evOk x = true) (h3 : Srt l) (h4 : ∀ x, x ∈ l → ∀ y, y ∈ l → x.1 = y.1 → x.2.1 < y.2.1 → x.2.2.1 < y.2.2.1) : jok l = true := by
  refine jok_iff.2 ⟨h1, h2, ?_⟩
  refine List.Pairwise.imp_of_mem (fun {x y} hx hy h => ⟨h, fun e => h4 x hx y hy e ?_⟩) h3
  rw [ltE_iff] at h
  omega
theorem jok_mono {l : List Ev} (h : jok l = true) : ∀ x, x ∈ l → ∀ y, y ∈ l → x.1 = y.1 → x.2.1 < y.2.1 → x.2.2.1 < y.2.2.1 := srt_mono (jok_iff.1 h).2.2
theorem jok_all {l : List Ev} (h : jok l = true) : ∀ x, x ∈ l → evOk x = true := (jok_iff.1 h).2.1
/-- What a merge is, by what is in it. -/
theorem merged_of {a b m : List Ev} (ha : jok a = true) (hb : jok b = true) (hm : jok m = true) (hx : ∀ z, z ∈ m ↔ z ∈ a ∨ z ∈ b) : merged a b = (m, true) := by
  have h := merge_ok (jok_srt ha) (jok_srt hb)
  unfold merged
  rw [ha, hb]
  simp only [cond_true]
  cases hmm : merge a b with
  | none =>
    rw [hmm] at h
    obtain ⟨x, hx1, y, hy1, e1, e2, hne⟩ := h
    exact absurd (srt_key (jok_srt hm) x ((hx x).2 (.inl hx1)) y ((hx y).2 (.inr hy1)) (keyEq_iff.2 ⟨e1, e2⟩)) hne
  | some m' =>
    rw [hmm] at h
    have : m' = m := srt_ext h.1 (jok_srt hm) fun z => by rw [h.2.1 z, hx z]
    rw [this]
    simp only [hm, cond_true]
theorem merged_true {a b : List Ev} (h : (merged a b).2 = true) : jok a = true ∧ jok b = true ∧ jok (merged a b).1 = true ∧ (∀ z, z ∈ (merged a b).1 ↔ z ∈ a ∨ z ∈ b) ∧ (merged a b).1.length ≤ a.length + b.length ∧ (∀ x, x ∈ a → ∀ y, y ∈ b → x.1 = y.1 → x.2.1 = y.2.1 → x = y) := by
  unfold merged at h ⊢
  cases ha : jok a with
  | false => rw [ha] at h; cases h
  | true =>
    cases hb : jok b with
    | false => rw [ha, hb] at h; cases h
    | true =>
      rw [ha, hb] at h
      have hk := merge_ok (jok_srt ha) (jok_srt hb)
      simp only [cond_true] at h ⊢
      cases hmm : merge a b with
      | none => rw [hmm] at h; cases h
      | some m =>
        rw [hmm] at h hk
        simp only [] at h ⊢
        cases hm : jok m with
        | false => rw [hm] at h; cases h
        | true => exact ⟨trivial, trivial, hm, hk.2.1, hk.2.2.1, hk.2.2.2⟩
theorem merged_none {a b : List Ev} (h : (merged a b).2 = false) : (merged a b).1 = [] := by
  unfold merged at h ⊢
  cases ha : jok a with
  | false => rfl
  | true =>
    cases hb : jok b with
    | false => rfl
    | true =>
      rw [ha, hb] at h
      simp only [cond_true] at h ⊢
      cases hmm : merge a b with
      | none => rfl
      | some m =>
        rw [hmm] at h
        simp only [] at h ⊢
        cases hm : jok m with
        | false => rfl
        | true => rw [hm] at h; cases h
def aStep (node : Int) (s : Int × Int × Nat × Nat) (x : Ev) : Int × Int × Nat × Nat :=
  ((bif decide (x.1 = node) then x.2.1 + 1 else s.1), max s.2.1 (x.2.2.1 + 1), (bif decide (x.1 ≤ node) then s.2.2.2 + 1 else s.2.2.1), s.2.2.2 + 1)
def aRun (l : List Ev) (node : Int) : Int × Int × Nat × Nat := l.foldl (aStep node) (1, 1, 0, 0)
def newE (l : List Ev) (node kind parcel a b : Int) : Ev := (node, (aRun l node).1, (aRun l node).2.1, kind, parcel, a, b)
def withE (l : List Ev) (node kind parcel a b : Int) : List Ev := l.take (aRun l node).2.2.1 ++ [newE l node kind parcel a b] ++ l.drop (aRun l node).2.2.1
def addEv (l : List Ev) (node kind parcel a b : Int) : List Ev × Bool := bif jok l then bif jok (withE l node kind parcel a b) then (withE l node kind parcel a b, true) else (l, false) else (l, false)
structure AInv (node : Int) (p : List Ev) (s : Int × Int × Nat × Nat) : Prop where
  c : s.2.2.2 = p.length
  at_le : s.2.2.1 ≤ p.length
  s1 : ∀ x, x ∈ p → x.1 = node → x.2.1 < s.1
  s2 : s.1 = 1 ∨ ∃ x, x ∈ p ∧ x.1 = node ∧ s.1 = x.2.1 + 1
  p1 : ∀ x, x ∈ p → x.2.2.1 < s.2.1
  p2 : s.2.1 = 1 ∨ ∃ x, x ∈ p ∧ s.2.1 = x.2.2.1 + 1
  a1 : ∀ x, x ∈ p.take s.2.2.1 → x.1 ≤ node
  a2 : ∀ x, x ∈ p.drop s.2.2.1 → node < x.1
theorem aInv_step {node : Int} {p : List Ev} {s : Int × Int × Nat × Nat} {x : Ev} (h : AInv node p s) (hp : Srt (p ++ [x])) : AInv node (p ++ [x]) (aStep node s x) := by
  have hlt : ∀ y, y ∈ p → ltE y x = true := fun y hy => (List.pairwise_append.1 hp).2.2 y hy x (List.mem_singleton.2 rfl)
  obtain ⟨h1, h2, h3, h4, h5, h6, h7, h8⟩ := h
  unfold aStep
  refine ⟨by simp [h1], ?_, fun y hy hn => ?_, ?_, fun y hy => ?_, ?_, ?_, ?_⟩
  · cases decide (x.1 ≤ node) <;> simp <;> omega
  · simp only []
    rcases List.mem_append.1 hy with hy | hy
    · by_cases hx : x.1 = node
      · rw [decide_eq_true hx]
        have := hlt y hy
        rw [ltE_iff] at this
        simp only [cond_true]; omega
      · rw [decide_eq_false hx]
        exact h3 y hy hn
    · rw [List.mem_singleton] at hy
      subst hy
      rw [decide_eq_true hn]
      simp only [cond_true]; omega
  · simp only []
    by_cases hx : x.1 = node
    · rw [decide_eq_true hx]
      exact .inr ⟨x, by simp, hx, rfl⟩
    · rw [decide_eq_false hx]
      rcases h4 with h4 | ⟨y, hy, h4⟩
      · exact .inl h4
      · exact .inr ⟨y, List.mem_append_left _ hy, h4⟩
  · simp only []
    rcases List.mem_append.1 hy with hy | hy
    · have := h5 y hy; omega
    · rw [List.mem_singleton] at hy
      subst hy; omega
  · simp only []
    by_cases hm : s.2.1 ≤ x.2.2.1 + 1
    · exact .inr ⟨x, by simp, by omega⟩
    · rcases h6 with h6 | ⟨y, hy, h6⟩
      · exact .inl (by omega)
      · exact .inr ⟨y, List.mem_append_left _ hy, by omega⟩
  · simp only []
    by_cases hx : x.1 ≤ node
    · rw [decide_eq_true hx]
      intro y hy
      rw [cond_true, h1, List.take_of_length_le (by simp)] at hy
      rcases List.mem_append.1 hy with hy | hy
      · have := hlt y hy; rw [ltE_iff] at this; omega
      · rw [List.mem_singleton] at hy; subst hy; exact hx
    · rw [decide_eq_false hx]
      intro y hy
      rw [cond_false, List.take_append_of_le_length h2] at hy
      exact h7 y hy
  · simp only []
    by_cases hx : x.1 ≤ node
    · rw [decide_eq_true hx]
      intro y hy
      rw [cond_true, h1, List.drop_of_length_le (by simp)] at hy
      exact absurd hy List.not_mem_nil
    · rw [decide_eq_false hx]
      intro y hy
      rw [cond_false, List.drop_append_of_le_length h2] at hy
      rcases List.mem_append.1 hy with hy | hy
      · exact h8 y hy
      · rw [List.mem_singleton] at hy; subst hy; omega
theorem aInv_run (node : Int) : ∀ (l p : List Ev) (s : Int × Int × Nat × Nat), Srt (p ++ l) → AInv node p s → AInv node (p ++ l) (l.foldl (aStep node) s)
  | [], p, s, _, h => by simpa using h
  | x :: l, p, s, hp, h => by
    have e : p ++ x :: l = (p ++ [x]) ++ l := by simp
    rw [e] at hp ⊢
    exact aInv_run node l (p ++ [x]) (aStep node s x) hp (aInv_step h (List.pairwise_append.1 hp).1)
theorem aRun_inv (node : Int) {l : List Ev} (h : Srt l) : AInv node l (aRun l node) := by
  have := aInv_run node l [] (1, 1, 0, 0) (by simpa using h) ⟨rfl, Nat.le_refl _, fun x hx => absurd hx List.not_mem_nil, .inl rfl, fun x hx => absurd hx List.not_mem_nil, .inl rfl, fun x hx => absurd (List.mem_of_mem_take hx) List.not_mem_nil, fun x hx => absurd (List.mem_of_mem_drop hx) List.not_mem_nil⟩
  exact this
theorem withE_mem {l : List Ev} {node kind parcel a b : Int} (z : Ev) : z ∈ withE l node kind parcel a b ↔ z = newE l node kind parcel a b ∨ z ∈ l := by
  unfold withE
  rw [List.mem_append, List.mem_append, List.mem_singleton]
  constructor
  · rintro ((h | h) | h)
    · exact .inr (List.mem_of_mem_take h)
    · exact .inl h
    · exact .inr (List.mem_of_mem_drop h)
  · rintro (h | h)
    · exact .inl (.inr h)
    · rw [← List.take_append_drop (aRun l node).2.2.1 l, List.mem_append] at h
      rcases h with h | h
      · exact .inl (.inl h)
      · exact .inr h
theorem withE_len {l : List Ev} (h : Srt l) (node kind parcel a b : Int) : (withE l node kind parcel a b).length = l.length + 1 := by
  have := (aRun_inv node h).at_le
  unfold withE
  simp only [List.length_append, List.length_take, List.length_drop, List.length_singleton]
  omega
theorem withE_srt {l : List Ev} (h : Srt l) (node kind parcel a b : Int) : Srt (withE l node kind parcel a b) := by
  have hi := aRun_inv node h
  have ht : ∀ y, y ∈ l.take (aRun l node).2.2.1 → ltE y (newE l node kind parcel a b) = true := fun y hy => by
    rw [ltE_iff]
    have h1 := hi.a1 y hy
    have h2 := hi.s1 y (List.mem_of_mem_take hy)
    show y.1 < node ∨ y.1 = node ∧ y.2.1 < (aRun l node).1
    by_cases e : y.1 = node
    · exact .inr ⟨e, h2 e⟩
    · exact .inl (by omega)
  have hd : ∀ y, y ∈ l.drop (aRun l node).2.2.1 → ltE (newE l node kind parcel a b) y = true := fun y hy => by
    rw [ltE_iff]
    exact .inl (hi.a2 y hy)
  have h0 := h
  rw [← List.take_append_drop (aRun l node).2.2.1 l, Srt, List.pairwise_append] at h0
  unfold withE Srt
  rw [List.pairwise_append, List.pairwise_append]
  refine ⟨⟨h0.1, List.pairwise_singleton _ _, fun x hx y hy => ?_⟩, h0.2.1, fun x hx y hy => ?_⟩
  · rw [List.mem_singleton] at hy; subst hy; exact ht x hx
  · rcases List.mem_append.1 hx with hx | hx
    · exact h0.2.2 x hx y hy
    · rw [List.mem_singleton] at hx; subst hx; exact hd y hy
theorem withE_jok {l : List Ev} (h : jok l = true) {node kind parcel a b : Int} (hl : l.length + 1 ≤ 60) (he : evOk (newE l node kind parcel a b) = true) : jok (withE l node kind parcel a b) = true := by
  have hs := jok_srt h
  have hi := aRun_inv node hs
  refine jok_of (by rw [withE_len hs]; exact hl) (fun x hx => ?_) (withE_srt hs _ _ _ _ _) fun x hx y hy e1 e2 => ?_
  · rcases (withE_mem x).1 hx with hx1 | hx1
    · rw [hx1]; exact he
    · exact jok_all h x hx1
  · rcases (withE_mem x).1 hx with hx1 | hx1 <;> rcases (withE_mem y).1 hy with hy1 | hy1
    · rw [hx1, hy1] at e2; omega
    · have := hi.s1 y hy1 (by rw [← e1, hx1]; rfl)
      rw [hx1] at e2
      have e2 : (aRun l node).1 < y.2.1 := e2
      omega
    · rw [hy1]; exact hi.p1 x hx1
    · exact jok_mono h x hx1 y hy1 e1 e2
theorem appE (l m : List Ev) : List.append (α := Ev) l m = l ++ m := rfl
theorem specA_loop (l : List Ev) (hj : jok l = true) (node kind parcel a b : Int) (same : List Ev) : spec_AddEvent_l0 (l, node, ()) (same, node, (1 : Int), (1 : Int), kind, parcel, a, b, (0 : Int), (0 : Int), ()) = some (.inl (same, node, (aRun l node).1, (aRun l node).2.1, kind, parcel, a, b, (((aRun l node).2.2.1 : Nat) : Int), ())) := by
  have h60 := jok_len hj
  refine (loop_fold (body := spec_AddEvent_b0 (l, node, ())) l zIIIIIII (by omega) (aStep node) (fun (s : Int × Int × Nat × Nat) n => (same, node, s.1, s.2.1, kind, parcel, a, b, ((s.2.2.1 : Nat) : Int), (n : Int), ())) (fun n s => s.2.2.2 = n) (fun s => Sum.inl (same, node, s.1, s.2.1, kind, parcel, a, b, ((s.2.2.1 : Nat) : Int), ())) (fun n s hn hs => ⟨?_, by unfold aStep; simp [hs]⟩) (fun s hs => ?_) (1, 1, 0, 0) rfl).1
  · have he := evOk_iff.1 (jok_ev hj hn)
    unfold spec_AddEvent_b0 aStep
    simp only [lss_len, hn, decide_true, cond_true, inR_nat, get_nat]
    revert he
    generalize l.getD n zIIIIIII = e
    intro he
    have e1 : rArith .add .i64 e.2.1 1 = e.2.1 + 1 := add64 (by omega) (by omega)
    have e2 : rArith .add .i64 e.2.2.1 1 = e.2.2.1 + 1 := add64 (by omega) (by omega)
    have e3 : rMxmn true s.2.1 (e.2.2.1 + 1) = max s.2.1 (e.2.2.1 + 1) := by unfold rMxmn; simp <;> omega
    have e4 : rCmp .eql e.1 node = decide (e.1 = node) := by simp [rCmp, Bool.beq_eq_decide_eq]
    have e5 : rCmp .leq e.1 node = decide (e.1 ≤ node) := rfl
    simp only [e1, e2, e3, e4, e5, succ64 (n := n) (by omega), hs]
    cases decide (e.1 = node) <;> cases decide (e.1 ≤ node) <;> rfl
  · unfold spec_AddEvent_b0
    simp only [lss_len, Nat.lt_irrefl, decide_false, cond_false]
theorem specAdd_eq (l : List Ev) (node kind parcel a b : Int) (hl : l.length ≤ 1073741824) : spec_AddEvent l node kind parcel a b = some ((addEv l node kind parcel a b).1, (addEv l node kind parcel a b).2, ()) := by
  unfold spec_AddEvent addEv
  have hsm : rSmall l = true := small_of hl
  simp only [specJ_eq, Option.bind_some, appE, List.nil_append, hsm, cond_true]
  cases hj : jok l with
  | false => rfl
  | true =>
    have h60 := jok_len hj
    have hi := aRun_inv node (jok_srt hj)
    have hat := hi.at_le
    simp only [Bool.not_true, cond_false, cond_true, specA_loop l hj, Option.bind_some, Sum.elim_inl, appE, List.nil_append]
    generalize hA : aRun l node = A at hat
    have s1 : rSubOk l (0 : Int) ((A.2.2.1 : Nat) : Int) = true := by unfold rSubOk; simp <;> omega
    have s2 : rSubOk l ((A.2.2.1 : Nat) : Int) (rLen l) = true := by unfold rSubOk rLen; simp <;> omega
    have t1 : rSub l (0 : Int) ((A.2.2.1 : Nat) : Int) = l.take A.2.2.1 := by unfold rSub; simp
    have t2 : rSub l ((A.2.2.1 : Nat) : Int) (rLen l) = l.drop A.2.2.1 := by unfold rSub rLen; rw [Int.toNat_natCast, Int.toNat_natCast]; exact List.take_of_length_le (by simp)
    have k1 : rSmall (l.take A.2.2.1) = true := small_of (by simp; omega)
    have k2 : ∀ x : Ev, rSmall (l.take A.2.2.1 ++ [x]) = true := fun x => small_of (by simp; omega)
    have k3 : ∀ x : Ev, rSmall (l.take A.2.2.1 ++ [x] ++ l.drop A.2.2.1) = true := fun x => small_of (by simp; omega)
    simp only [s1, s2, t1, t2, k1, k2, k3, cond_true]
    have hw : withE l node kind parcel a b = l.take A.2.2.1 ++ [(node, A.1, A.2.1, kind, parcel, a, b)] ++ l.drop A.2.2.1 := by unfold withE newE; rw [hA]
    rw [hw]
    cases jok (l.take A.2.2.1 ++ [(node, A.1, A.2.1, kind, parcel, a, b)] ++ l.drop A.2.2.1) <;> rfl
end Go.Fn
set_option linter.unusedSimpArgs false
set_option linter.unusedVariables false
namespace Go.Fn
open Go.R Go.Sort
/-- What drawn journals are: n bounds events and stamps, base is in it, the others are of nodes S. -/
structure JInv (n : Nat) (base : List Ev) (S : Int → Prop) (l : List Ev) : Prop where
  j : jok l = true
  len : l.length ≤ n
  st : ∀ x, x ∈ l → x.2.2.1 ≤ (n : Int)
  gap : ∀ x, x ∈ l → ∀ s : Int, 1 ≤ s → s ≤ x.2.1 → ∃ y, y ∈ l ∧ y.1 = x.1 ∧ y.2.1 = s
  sub : ∀ x, x ∈ base → x ∈ l
  new : ∀ x, x ∈ l → x ∈ base ∨ S x.1
theorem JInv.mono {n m : Nat} {base : List Ev} {S : Int → Prop} {l : List Ev} (h : JInv n base S l) (hm : n ≤ m) : JInv m base S l :=
  ⟨h.j, by have := h.len; omega, fun x hx => by have := h.st x hx; omega, h.gap, h.sub, h.new⟩
theorem JInv.add {n : Nat} {base : List Ev} {S : Int → Prop} {l : List Ev} (h : JInv n base S l) {node : Int} (hS : S node) (kind parcel a b : Int) : JInv (n + 1) base S (addEv l node kind parcel a b).1 := by
  unfold addEv
  rw [h.j]
  simp only [cond_true]
  cases hw : jok (withE l node kind parcel a b) with
  | false => exact h.mono (Nat.le_succ _)
  | true =>
    have hs := jok_srt h.j
    have hi := aRun_inv node hs
    simp only [cond_true]
    refine ⟨hw, by rw [withE_len hs]; have := h.len; omega, fun x hx => ?_, fun x hx s h1 h2 => ?_, fun x hx => (withE_mem x).2 (.inr (h.sub x hx)), fun x hx => ?_⟩
    · rcases (withE_mem x).1 hx with e | e
      · rw [e]
        show (aRun l node).2.1 ≤ _
        rcases hi.p2 with p | ⟨y, hy, p⟩
        · rw [p]; omega
        · rw [p]; have := h.st y hy; omega
      · have := h.st x e; omega
    · rcases (withE_mem x).1 hx with e | e
      · subst e
        have h2 : s ≤ (aRun l node).1 := h2
        by_cases e : s = (aRun l node).1
        · exact ⟨_, hx, rfl, e.symm⟩
        · rcases hi.s2 with p | ⟨y, hy, q, p⟩
          · omega
          · obtain ⟨z, hz, e1, e2⟩ := h.gap y hy s h1 (by omega)
            exact ⟨z, (withE_mem z).2 (.inr hz), by rw [e1, q]; rfl, e2⟩
      · obtain ⟨z, hz, e1, e2⟩ := h.gap x e s h1 h2
        exact ⟨z, (withE_mem z).2 (.inr hz), e1, e2⟩
    · rcases (withE_mem x).1 hx with e | e
      · rw [e]; exact .inr hS
      · exact h.new x e
theorem add_yl (b : List Int) (hb : b.length ≤ 1048576) (i h : Int) (hi : 0 ≤ i) {n : Nat} (hn : n ≤ 1000) {base : List Ev} {S : Int → Prop} {l : List Ev} (hl : JInv n base S l) {node : Int} (hS : S node) :
    Yl (spec_l08Add b i h l node) fun y => JInv (n + 1) base S y.1 ∧ y.2.1 = b ∧ 0 ≤ y.2.2.1 := by
  have h30 : l.length ≤ 1073741824 := by have := hl.len; omega
  unfold spec_l08Add
  refine (below_yl b hb i h 4 hi (by omega)).bind fun y0 ⟨_, _, a3, a4⟩ => ?_
  rw [a3]
  refine (below_yl b hb _ _ 4 a4 (by omega)).bind fun y1 ⟨_, _, b3, b4⟩ => ?_
  rw [b3]
  refine .cond (fun _ => ?_) fun _ => ?_
  · refine (below_yl b hb _ _ 3 b4 (by omega)).bind fun y2 ⟨_, _, c3, c4⟩ => ?_
    rw [c3]
    refine (below_yl b hb _ _ 40 c4 (by omega)).bind fun y3 ⟨_, _, d3, d4⟩ => ?_
    rw [specAdd_eq l _ _ _ _ _ h30]
    exact .ret ⟨hl.add hS _ _ _ _, d3, d4⟩
  · refine (below_yl b hb _ _ 3 b4 (by omega)).bind fun y2 ⟨_, _, c3, c4⟩ => ?_
    rw [c3]
    refine (below_yl b hb _ _ 40 c4 (by omega)).bind fun y3 ⟨_, _, d3, d4⟩ => ?_
    rw [specAdd_eq l _ _ _ _ _ h30]
    exact .ret ⟨hl.add hS _ _ _ _, d3, d4⟩
abbrev CurJ := (List Int) × Int × Int × (List Ev) × Int × Unit
abbrev BOut := ((List Int) × Int × Int × (List Ev) × Unit) ⊕ Empty
/-- One of the three loops that write events. -/
theorem adds_yl (b : List Int) (hb : b.length ≤ 1048576) {body : CurJ → Option (CurJ ⊕ BOut)} {base : List Ev} {S : Int → Prop} (N : Nat) (hN : N ≤ 100)
    (hbody : ∀ (i h cnt : Int) (l : List Ev) (n : Nat), 0 ≤ i → n ≤ 200 → JInv n base S l → 0 < cnt → Yl (body (b, i, h, l, cnt, ())) fun r => match r with | .inl y => y.1 = b ∧ 0 ≤ y.2.1 ∧ JInv (n + 1) base S y.2.2.2.1 ∧ y.2.2.2.2.1 = rArith .sub .i64 cnt 1 | .inr _ => False)
    (hend : ∀ (i h cnt : Int) (l : List Ev), ¬ (0 < cnt) → body (b, i, h, l, cnt, ()) = some (.inr (.inl (b, i, h, l, ()))))
    (i h cnt : Int) (l : List Ev) (hi : 0 ≤ i) (hc0 : 0 ≤ cnt) (hc : cnt ≤ 5) (hl : JInv N base S l) :
    Yl (iter body big (b, i, h, l, cnt, ())) fun r => match r with | .inl y => y.1 = b ∧ 0 ≤ y.2.1 ∧ JInv (N + 5) base S y.2.2.2.1 | .inr _ => False := by
  refine Yl.loop (fun x => x.1 = b ∧ 0 ≤ x.2.1 ∧ 0 ≤ x.2.2.2.2.1 ∧ x.2.2.2.2.1 ≤ 5 ∧ JInv (N + (5 - x.2.2.2.2.1).toNat) base S x.2.2.2.1) (fun x => x.2.2.2.2.1.toNat) (fun x hx => ?_) big _ ⟨rfl, hi, hc0, hc, hl.mono (by omega)⟩ (lt_big (by show cnt.toNat < _; omega))
  obtain ⟨xb, xi, xh, xl, xc, u⟩ := x
  obtain ⟨x1, x2, x3, x4, x5⟩ := hx
  simp only [] at x1 x2 x3 x4 x5
  subst x1
  by_cases hp : 0 < xc
  · refine (hbody xi xh xc xl _ x2 (by omega) x5 hp).mono fun r hr => ?_
    match r, hr with
    | .inl y, ⟨h1, h2, h3, h4⟩ =>
      have e : rArith .sub .i64 xc 1 = xc - 1 := sub64 (by omega) (by omega)
      rw [e] at h4
      refine ⟨⟨h1, h2, by omega, by omega, h3.mono (by omega)⟩, ?_⟩
      show y.2.2.2.2.1.toNat < xc.toNat
      omega
  · rw [hend xi xh xc xl hp]
    exact .ret ⟨rfl, x2, x5.mono (by omega)⟩
theorem gtr0 (a : Int) : rCmp .gtr a (0 : Int) = decide (0 < a) := rfl
theorem both_yl (b : List Int) (hb : b.length ≤ 1048576) (i h : Int) (hi : 0 ≤ i) : Yl (spec_l08Both b i h) fun y => ∃ base : List Ev, JInv 10 base (fun n => n = 0 ∨ n = 1) y.1 ∧ JInv 10 base (fun n => n = 2 ∨ n = 3 ∨ n = 5) y.2.1 ∧ (∀ x, x ∈ base → 0 ≤ x.1 ∧ x.1 ≤ 2) := by
  unfold spec_l08Both
  refine (below_yl b hb i h 6 hi (by omega)).bind fun y0 ⟨a1, a2, a3, a4⟩ => ?_
  have a2 : y0.1 ≤ 5 := a2
  rw [a3]
  have start : JInv 0 [] (fun n => 0 ≤ n ∧ n ≤ 2) [] := ⟨rfl, Nat.le_refl _, fun x hx => absurd hx List.not_mem_nil, fun x hx => absurd hx List.not_mem_nil, fun x hx => absurd hx List.not_mem_nil, fun x hx => absurd hx List.not_mem_nil⟩
  refine (adds_yl b hb (body := spec_l08Both_b0 ()) 0 (by omega) (fun i h cnt l n hi hn hl hp => ?_) (fun i h cnt l hp => ?_) y0.2.2.1 y0.2.2.2.1 y0.1 [] a4 a1 a2 start).bind fun q hq => ?_
  · unfold spec_l08Both_b0
    rw [gtr0, decide_eq_true hp]
    refine (below_yl b hb i h 3 hi (by omega)).bind fun z ⟨c1, c2, c3, c4⟩ => ?_
    have c2 : z.1 ≤ 2 := c2
    simp only [c3]
    exact (add_yl b hb _ _ c4 (by omega) hl (node := z.1) ⟨c1, c2⟩).bind fun w ⟨d1, d2, d3⟩ => .ret ⟨d2, d3, d1, rfl⟩
  · unfold spec_l08Both_b0
    rw [gtr0, decide_eq_false hp]; rfl
  match q, hq with
  | .inl y2, ⟨h1, h2, h3⟩ =>
    simp only [Sum.elim_inl]
    rw [h1]
    have hbase : ∀ x, x ∈ y2.2.2.2.1 → 0 ≤ x.1 ∧ x.1 ≤ 2 := fun x hx => (h3.new x hx).resolve_left List.not_mem_nil
    refine (below_yl b hb _ _ 6 h2 (by omega)).bind fun y3 ⟨e1, e2, e3, e4⟩ => ?_
    have e2 : y3.1 ≤ 5 := e2
    rw [e3]
    have startA : JInv 5 y2.2.2.2.1 (fun n => n = 0 ∨ n = 1) y2.2.2.2.1 := ⟨h3.j, h3.len, h3.st, h3.gap, fun x hx => hx, fun x hx => .inl hx⟩
    have startB : JInv 5 y2.2.2.2.1 (fun n => n = 2 ∨ n = 3 ∨ n = 5) y2.2.2.2.1 := ⟨h3.j, h3.len, h3.st, h3.gap, fun x hx => hx, fun x hx => .inl hx⟩
    refine (adds_yl b hb (body := spec_l08Both_b2 (y2.2.2.2.1, ())) 5 (by omega) (fun i h cnt l n hi hn hl hp => ?_) (fun i h cnt l hp => ?_) y3.2.2.1 y3.2.2.2.1 y3.1 y2.2.2.2.1 e4 e1 e2 startA).bind fun q hq => ?_
    · unfold spec_l08Both_b2
      rw [gtr0, decide_eq_true hp]
      refine (pickInt_yl b hb i h [0, 1, 1] hi (by simp) (by simp)).bind fun z ⟨c1, c3, c4⟩ => ?_
      have c1 : z.1 = 0 ∨ z.1 = 1 := by simpa using c1
      simp only [c3]
      exact (add_yl b hb _ _ c4 (by omega) hl (node := z.1) c1).bind fun w ⟨d1, d2, d3⟩ => .ret ⟨d2, d3, d1, rfl⟩
    · unfold spec_l08Both_b2
      rw [gtr0, decide_eq_false hp]; rfl
    match q, hq with
    | .inl y5, ⟨k1, k2, k3⟩ =>
      simp only [Sum.elim_inl]
      rw [k1]
      refine (below_yl b hb _ _ 6 k2 (by omega)).bind fun y6 ⟨f1, f2, f3, f4⟩ => ?_
      have f2 : y6.1 ≤ 5 := f2
      rw [f3]
      refine (adds_yl b hb (body := spec_l08Both_b4 (y5.2.2.2.1, ())) 5 (by omega) (fun i h cnt l n hi hn hl hp => ?_) (fun i h cnt l hp => ?_) y6.2.2.1 y6.2.2.2.1 y6.1 y2.2.2.2.1 f4 f1 f2 startB).bind fun q hq => ?_
      · unfold spec_l08Both_b4
        rw [gtr0, decide_eq_true hp]
        refine (pickInt_yl b hb i h [2, 3, 5] hi (by simp) (by simp)).bind fun z ⟨c1, c3, c4⟩ => ?_
        have c1 : z.1 = 2 ∨ z.1 = 3 ∨ z.1 = 5 := by simpa using c1
        simp only [c3]
        exact (add_yl b hb _ _ c4 (by omega) hl (node := z.1) c1).bind fun w ⟨d1, d2, d3⟩ => .ret ⟨d2, d3, d1, rfl⟩
      · unfold spec_l08Both_b4
        rw [gtr0, decide_eq_false hp]; rfl
      match q, hq with
      | .inl y8, ⟨m1, m2, m3⟩ => exact .ret ⟨y2.2.2.2.1, k3, m3, hbase⟩
theorem drawBoth_yl (b : List Int) (hb : b.length ≤ 1048576) : Yl (spec_DrawBoth b) fun y => ∃ base : List Ev, JInv 10 base (fun n => n = 0 ∨ n = 1) y.1 ∧ JInv 10 base (fun n => n = 2 ∨ n = 3 ∨ n = 5) y.2.1 ∧ (∀ x, x ∈ base → 0 ≤ x.1 ∧ x.1 ≤ 2) := by
  unfold spec_DrawBoth
  refine (new_yl b hb).bind fun y0 ⟨h1, h2⟩ => ?_
  rw [h1]
  exact (both_yl b hb _ _ (by omega)).bind fun y1 h => .ret h
theorem sameEv_self (l : List Ev) (hl : l.length ≤ 1073741824) : laws_sameEvents l l = some (true, ()) := by
  unfold laws_sameEvents
  rw [neq_self]
  have hloop : laws_sameEvents_l0 (l, l, ()) ((0 : Int), ()) = some (.inr (.inl ())) := by
    refine loop_end (body := laws_sameEvents_b0 (l, l, ())) (fun n => ((n : Int), ())) l.length (by omega) _ (fun n hn => ?_) ?_
    · unfold laws_sameEvents_b0
      simp only [lss_len, inR_nat, hn, decide_true, cond_true, get_nat, evEq, Bool.not_true, lets_def, cond_false, succ64 (n := n) (by omega)]
    · unfold laws_sameEvents_b0
      simp only [lss_len, Nat.lt_irrefl, decide_false, cond_false]
  rw [hloop]
  rfl
theorem merged_comm (a b : List Ev) : merged b a = merged a b := by
  have key : ∀ a b : List Ev, (merged a b).2 = true → merged b a = merged a b := by
    intro a b h
    obtain ⟨h1, h2, h3, h4, _, _⟩ := merged_true h
    rw [merged_of h2 h1 h3 (fun z => by rw [h4 z, Or.comm])]
    exact Prod.ext rfl h.symm
  cases h1 : (merged a b).2 with
  | true => exact key a b h1
  | false =>
    cases h2 : (merged b a).2 with
    | true => exact (key b a h2).symm
    | false => exact Prod.ext (by rw [merged_none h1, merged_none h2]) (by rw [h1, h2])
theorem merges_true (code : List Int) : laws_FnMerges code = some (true, ()) := by
  unfold laws_FnMerges laws_big
  simp only [Option.bind_some]
  cases hbig : rCmp .gtr (rLen code) 1048576 with
  | true => rfl
  | false =>
    have hb : code.length ≤ 1048576 := by
      have : ¬ ((1048576 : Int) < (code.length : Int)) := of_decide_eq_false hbig
      omega
    simp only [cond_false]
    obtain ⟨⟨a, b, u⟩, he, base, ha, hb', hbase⟩ := drawBoth_yl code hb
    rw [he]
    have ha : JInv 10 base (fun n => n = 0 ∨ n = 1) a := ha
    have hb : JInv 10 base (fun n => n = 2 ∨ n = 3 ∨ n = 5) b := hb'
    have la := ha.len
    have lb := hb.len
    simp only [Option.bind_some, specAdd_eq a _ _ _ _ _ (by omega), implMerge_eq, specMerge_eq, merged_comm a b, rBeq_self, Bool.not_true, cond_false, sameEv_self (merged a b).1 (by have := merged_len a b; omega)]
    -- the new event
    have hs := jok_srt ha.j
    have hi := aRun_inv 4 hs
    have hsq : (aRun a 4).1 = 1 := by
      rcases hi.s2 with p | ⟨x, hx, p, _⟩
      · exact p
      · rcases ha.new x hx with q | q
        · have := hbase x q; omega
        · omega
    have hsp : 1 ≤ (aRun a 4).2.1 ∧ (aRun a 4).2.1 ≤ 11 := by
      rcases hi.p2 with p | ⟨x, hx, p⟩
      · omega
      · have h1 := ha.st x hx
        have h2 := (evOk_iff.1 (jok_all ha.j x hx)).2.2.1
        omega
    have hev : evOk (newE a 4 3 1 2 3) = true := by
      rw [evOk_iff]
      unfold newE
      simp only [hsq]
      omega
    have hc : jok (withE a 4 3 1 2 3) = true := withE_jok ha.j (by omega) hev
    have hadd : addEv a 4 3 1 2 3 = (withE a 4 3 1 2 3, true) := by
      unfold addEv
      rw [ha.j, hc]; rfl
    rw [hadd]
    simp only [Bool.not_true, cond_false]
    have hcl : (withE a 4 3 1 2 3).length = a.length + 1 := withE_len hs _ _ _ _ _
    have hcm : ∀ z, z ∈ withE a 4 3 1 2 3 ↔ z = newE a 4 3 1 2 3 ∨ z ∈ a := fun z => withE_mem z
    have hn4 : (newE a 4 3 1 2 3).1 = 4 := rfl
    generalize newE a 4 3 1 2 3 = e4 at hcm hn4
    generalize withE a 4 3 1 2 3 = c at hc hcl hcm
    cases hM : (merged a b).2 with
    | false => rw [merged_none hM]; rfl
    | true =>
      obtain ⟨_, _, h3, h4, h5, h6⟩ := merged_true hM
      generalize (merged a b).1 = y at h3 h4 h5
      simp only [Bool.not_true, cond_false]
      -- where the events of one node are
      have inB : ∀ z, z ∈ c → (z.1 = 2 ∨ z.1 = 3 ∨ z.1 = 5) → z ∈ b := fun z hz hk => by
        rcases (hcm z).1 hz with e | e
        · rw [e] at hk; omega
        · rcases ha.new z e with q | q
          · exact hb.sub z q
          · omega
      have inC : ∀ z, z ∈ b → ¬ (z.1 = 2 ∨ z.1 = 3 ∨ z.1 = 5) → z ∈ c := fun z hz hk => by
        rcases hb.new z hz with q | q
        · exact (hcm z).2 (.inr (ha.sub z q))
        · exact absurd q hk
      have hmo := merge_ok (jok_srt hb.j) (jok_srt hc)
      obtain ⟨m, hm⟩ : ∃ m, merge b c = some m := by
        cases hmm : merge b c with
        | some m => exact ⟨m, rfl⟩
        | none =>
          rw [hmm] at hmo
          obtain ⟨x, hx, z, hz, e1, e2, hne⟩ := hmo
          by_cases hk : x.1 = 2 ∨ x.1 = 3 ∨ x.1 = 5
          · exact absurd (srt_key (jok_srt hb.j) x hx z (inB z hz (by rw [← e1]; exact hk)) (keyEq_iff.2 ⟨e1, e2⟩)) hne
          · exact absurd (srt_key (jok_srt hc) x (inC x hx hk) z hz (keyEq_iff.2 ⟨e1, e2⟩)) hne
      rw [hm] at hmo
      obtain ⟨k1, k2, k3, _⟩ := hmo
      have hjm : jok m = true := by
        refine jok_of (by omega) (fun x hx => ?_) k1 fun x hx z hz e1 e2 => ?_
        · rcases (k2 x).1 hx with q | q
          · exact jok_all hb.j x q
          · exact jok_all hc x q
        · by_cases hk : x.1 = 2 ∨ x.1 = 3 ∨ x.1 = 5
          · have hx' : x ∈ b := by
              rcases (k2 x).1 hx with q | q
              · exact q
              · exact inB x q hk
            have hz' : z ∈ b := by
              rcases (k2 z).1 hz with q | q
              · exact q
              · exact inB z q (by rw [← e1]; exact hk)
            exact jok_mono hb.j x hx' z hz' e1 e2
          · have hx' : x ∈ c := by
              rcases (k2 x).1 hx with q | q
              · exact inC x q hk
              · exact q
            have hz' : z ∈ c := by
              rcases (k2 z).1 hz with q | q
              · exact inC z q (by rw [← e1]; exact hk)
              · exact q
            exact jok_mono hc x hx' z hz' e1 e2
      have r1 : merged y y = (y, true) := merged_of h3 h3 h3 fun z => by simp
      have r2 : merged b c = (m, true) := merged_of hb.j hc hjm k2
      have r3 : merged y c = (m, true) := merged_of h3 hc hjm fun z => by
        rw [k2 z, h4 z]
        constructor
        · rintro (q | q)
          · exact .inl (.inr q)
          · exact .inr q
        · rintro ((q | q) | q)
          · exact .inr ((hcm z).2 (.inr q))
          · exact .inl q
          · exact .inr q
      have r4 : merged a m = (m, true) := merged_of ha.j hjm hjm fun z => by
        constructor
        · exact .inr
        · rintro (q | q)
          · exact (k2 z).2 (.inr ((hcm z).2 (.inr q)))
          · exact q
      have hml : m.length ≤ 60 := jok_len hjm
      have hyl : y.length ≤ 60 := jok_len h3
      simp only [r1, r2, r3, r4, implJ_eq, h3, Option.bind_some, cond_true, sameEv_self y (by omega), sameEv_self m (by omega), rBeq_self]
      have e1 : rArith .add .i64 (rLen a) (rLen b) = ((a.length + b.length : Nat) : Int) := aS (by omega)
      rw [e1, show rCmp .leq (rLen y) ((a.length + b.length : Nat) : Int) = true from (leS y.length (a.length + b.length)).trans (decide_eq_true h5)]
end Go.Fn
