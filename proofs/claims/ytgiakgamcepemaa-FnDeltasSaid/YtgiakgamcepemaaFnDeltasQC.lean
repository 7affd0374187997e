import Derived.Test.YtgiakgamcepemaaFnDeltasQB
/- Plain functions that stand for Go functions, and what they answer. Conditions: none. -/
set_option autoImplicit false
set_option linter.unusedVariables false
set_option linter.unusedSimpArgs false
set_option linter.unusedSimpArgs false
set_option linter.unusedVariables false
namespace Go.Fn
open Go.R Go.Sort
def ordE (x y : Ev) : Prop := ltE x y = true ∧ (x.1 = y.1 → x.2.2.1 < y.2.2.1)
theorem ordE_tr {x y z : Ev} (h1 : ordE x y) (h2 : ordE y z) : ordE x z := by
  obtain ⟨a1, a2⟩ := h1
  obtain ⟨b1, b2⟩ := h2
  refine ⟨ltE_tr a1 b1, fun h => ?_⟩
  rw [ltE_iff] at a1 b1
  have := a2 (by omega)
  have := b2 (by omega)
  omega
theorem ordOk_iff {x y : Ev} : ordOk x y = true ↔ ordE x y := by
  unfold ordE
  simp only [ordOk, Bool.not_eq_true', Bool.or_eq_false_iff, Bool.and_eq_false_iff, decide_eq_false_iff_not, ltE_iff]
  omega
theorem pair_adj {R : Ev → Ev → Prop} (tr : ∀ x y z, R x y → R y z → R x z) : ∀ (l : List Ev), (∀ n, n + 1 < l.length → R (l.getD n zIIIIIII) (l.getD (n + 1) zIIIIIII)) → l.Pairwise R
  | [], _ => List.Pairwise.nil
  | [x], _ => List.pairwise_singleton _ _
  | x :: y :: l, h => by
    have ih := pair_adj tr (y :: l) (fun n hn => h (n + 1) (by simpa using hn))
    have hxy : R x y := h 0 (by simp)
    refine List.Pairwise.cons (fun z hz => ?_) ih
    rcases List.mem_cons.1 hz with rfl | hz
    · exact hxy
    · exact tr _ _ _ hxy ((List.pairwise_cons.1 ih).1 z hz)
theorem getD_eq {α : Type} {l : List α} {n : Nat} (h : n < l.length) (z : α) : l.getD n z = l[n] := by
  rw [List.getD_eq_getElem?_getD, List.getElem?_eq_getElem h]; rfl
theorem jok_iff {l : List Ev} : jok l = true ↔ l.length ≤ 60 ∧ (∀ x, x ∈ l → evOk x = true) ∧ l.Pairwise ordE := by
  constructor
  · intro h
    refine ⟨jok_len h, fun x hx => ?_, pair_adj (R := ordE) (fun _ _ _ h1 h2 => ordE_tr h1 h2) l fun n hn => ?_⟩
    · obtain ⟨n, hn, rfl⟩ := List.getElem_of_mem hx
      have := jok_ev h hn
      rwa [getD_eq hn] at this
    · have := jok_at h hn
      simp only [jokAt, Bool.and_eq_true] at this
      exact ordOk_iff.1 this.2
  · intro ⟨h1, h2, h3⟩
    unfold jok
    rw [decide_eq_false (by omega)]
    refine (allFrom_iff _ _).2 fun m _ hm => ?_
    rw [Nat.zero_add] at hm
    cases m with
    | zero => exact h2 _ (getD_mem hm _)
    | succ m =>
      simp only [jokAt, Bool.and_eq_true]
      refine ⟨h2 _ (getD_mem hm _), ordOk_iff.2 ?_⟩
      rw [getD_eq hm, getD_eq (show m < l.length by omega)]
      exact List.pairwise_iff_getElem.1 h3 m (m + 1) (by omega) hm (by omega)
theorem jok_all {l : List Ev} (h : jok l = true) : ∀ x, x ∈ l → evOk x = true := (jok_iff.1 h).2.1
/-- What a merge is, by what is in it. -/
theorem merged_of {a b m : List Ev} (ha : jok a = true) (hb : jok b = true) (hm : jok m = true) (hx : ∀ z, z ∈ m ↔ z ∈ a ∨ z ∈ b) : merged a b = (m, true) := by
  have h := merge_ok (jok_srt ha) (jok_srt hb)
  unfold merged
  rw [ha, hb]
  simp only [cond_true]
  cases hmm : merge a b with
  | none =>
    rw [hmm] at h
    obtain ⟨x, hx1, y, hy1, e1, e2, hne⟩ := h
    exact absurd (srt_key (jok_srt hm) x ((hx x).2 (.inl hx1)) y ((hx y).2 (.inr hy1)) (keyEq_iff.2 ⟨e1, e2⟩)) hne
  | some m' =>
    rw [hmm] at h
    have : m' = m := srt_ext h.1 (jok_srt hm) fun z => by rw [h.2.1 z, hx z]
    rw [this]
    simp only [hm, cond_true]
theorem merged_true {a b : List Ev} (h : (merged a b).2 = true) : jok a = true ∧ jok b = true ∧ jok (merged a b).1 = true ∧ (∀ z, z ∈ (merged a b).1 ↔ z ∈ a ∨ z ∈ b) ∧ (merged a b).1.length ≤ a.length + b.length ∧ (∀ x, x ∈ a → ∀ y, y ∈ b → x.1 = y.1 → x.2.1 = y.2.1 → x = y) := by
  unfold merged at h ⊢
  cases ha : jok a with
  | false => rw [ha] at h; cases h
  | true =>
    cases hb : jok b with
    | false => rw [ha, hb] at h; cases h
    | true =>
      rw [ha, hb] at h
      have hk := merge_ok (jok_srt ha) (jok_srt hb)
      simp only [cond_true] at h ⊢
      cases hmm : merge a b with
      | none => rw [hmm] at h; cases h
      | some m =>
        rw [hmm] at h hk
        simp only [] at h ⊢
        cases hm : jok m with
        | false => rw [hm] at h; cases h
        | true => exact ⟨trivial, trivial, hm, hk.2.1, hk.2.2.1, hk.2.2.2⟩
def aStep (node : Int) (s : Int × Int × Nat × Nat) (x : Ev) : Int × Int × Nat × Nat :=
  ((bif decide (x.1 = node) then x.2.1 + 1 else s.1), max s.2.1 (x.2.2.1 + 1), (bif decide (x.1 ≤ node) then s.2.2.2 + 1 else s.2.2.1), s.2.2.2 + 1)
def aRun (l : List Ev) (node : Int) : Int × Int × Nat × Nat := l.foldl (aStep node) (1, 1, 0, 0)
def newE (l : List Ev) (node kind parcel a b : Int) : Ev := (node, (aRun l node).1, (aRun l node).2.1, kind, parcel, a, b)
def withE (l : List Ev) (node kind parcel a b : Int) : List Ev := l.take (aRun l node).2.2.1 ++ [newE l node kind parcel a b] ++ l.drop (aRun l node).2.2.1
def addEv (l : List Ev) (node kind parcel a b : Int) : List Ev × Bool := bif jok l then bif jok (withE l node kind parcel a b) then (withE l node kind parcel a b, true) else (l, false) else (l, false)
structure AInv (node : Int) (p : List Ev) (s : Int × Int × Nat × Nat) : Prop where
  c : s.2.2.2 = p.length
  at_le : s.2.2.1 ≤ p.length
  s1 : ∀ x, x ∈ p → x.1 = node → x.2.1 < s.1
  s2 : s.1 = 1 ∨ ∃ x, x ∈ p ∧ x.1 = node ∧ s.1 = x.2.1 + 1
  p1 : ∀ x, x ∈ p → x.2.2.1 < s.2.1
  p2 : s.2.1 = 1 ∨ ∃ x, x ∈ p ∧ s.2.1 = x.2.2.1 + 1
  a1 : ∀ x, x ∈ p.take s.2.2.1 → x.1 ≤ node
  a2 : ∀ x, x ∈ p.drop s.2.2.1 → node < x.1
theorem aInv_step {node : Int} {p : List Ev} {s : Int × Int × Nat × Nat} {x : Ev} (h : AInv node p s) (hp : Srt (p ++ [x])) : AInv node (p ++ [x]) (aStep node s x) := by
  have hlt : ∀ y, y ∈ p → ltE y x = true := fun y hy => (List.pairwise_append.1 hp).2.2 y hy x (List.mem_singleton.2 rfl)
  obtain ⟨h1, h2, h3, h4, h5, h6, h7, h8⟩ := h
  unfold aStep
  refine ⟨by simp [h1], ?_, fun y hy hn => ?_, ?_, fun y hy => ?_, ?_, ?_, ?_⟩
  · cases decide (x.1 ≤ node) <;> simp <;> omega
  · simp only []
    rcases List.mem_append.1 hy with hy | hy
    · by_cases hx : x.1 = node
      · rw [decide_eq_true hx]
        have := hlt y hy
        rw [ltE_iff] at this
        simp only [cond_true]; omega
      · rw [decide_eq_false hx]
        exact h3 y hy hn
    · rw [List.mem_singleton] at hy
      subst hy
      rw [decide_eq_true hn]
      simp only [cond_true]; omega
  · simp only []
    by_cases hx : x.1 = node
    · rw [decide_eq_true hx]
      exact .inr ⟨x, by simp, hx, rfl⟩
    · rw [decide_eq_false hx]
      rcases h4 with h4 | ⟨y, hy, h4⟩
      · exact .inl h4
      · exact .inr ⟨y, List.mem_append_left _ hy, h4⟩
  · simp only []
    rcases List.mem_append.1 hy with hy | hy
    · have := h5 y hy; omega
    · rw [List.mem_singleton] at hy
      subst hy; omega
  · simp only []
    by_cases hm : s.2.1 ≤ x.2.2.1 + 1
    · exact .inr ⟨x, by simp, by omega⟩
    · rcases h6 with h6 | ⟨y, hy, h6⟩
      · exact .inl (by omega)
      · exact .inr ⟨y, List.mem_append_left _ hy, by omega⟩
  · simp only []
    by_cases hx : x.1 ≤ node
    · rw [decide_eq_true hx]
      intro y hy
      rw [cond_true, h1, List.take_of_length_le (by simp)] at hy
      rcases List.mem_append.1 hy with hy | hy
      · have := hlt y hy; rw [ltE_iff] at this; omega
      · rw [List.mem_singleton] at hy; subst hy; exact hx
    · rw [decide_eq_false hx]
      intro y hy
      rw [cond_false, List.take_append_of_le_length h2] at hy
      exact h7 y hy
  · simp only []
    by_cases hx : x.1 ≤ node
    · rw [decide_eq_true hx]
      intro y hy
      rw [cond_true, h1, List.drop_of_length_le (by simp)] at hy
      exact absurd hy List.not_mem_nil
    · rw [decide_eq_false hx]
      intro y hy
      rw [cond_false, List.drop_append_of_le_length h2] at hy
      rcases List.mem_append.1 hy with hy | hy
      · exact h8 y hy
      · rw [List.mem_singleton] at hy; subst hy; omega
theorem aInv_run (node : Int) : ∀ (l p : List Ev) (s : Int × Int × Nat × Nat), Srt (p ++ l) → AInv node p s → AInv node (p ++ l) (l.foldl (aStep node) s)
  | [], p, s, _, h => by simpa using h
  | x :: l, p, s, hp, h => by
    have e : p ++ x :: l = (p ++ [x]) ++ l := by simp
    rw [e] at hp ⊢
    exact aInv_run node l (p ++ [x]) (aStep node s x) hp (aInv_step h (List.pairwise_append.1 hp).1)
theorem aRun_inv (node : Int) {l : List Ev} (h : Srt l) : AInv node l (aRun l node) := by
  have := aInv_run node l [] (1, 1, 0, 0) (by simpa using h) ⟨rfl, Nat.le_refl _, fun x hx => absurd hx List.not_mem_nil, .inl rfl, fun x hx => absurd hx List.not_mem_nil, .inl rfl, fun x hx => absurd (List.mem_of_mem_take hx) List.not_mem_nil, fun x hx => absurd (List.mem_of_mem_drop hx) List.not_mem_nil⟩
  exact this
theorem withE_mem {l : List Ev} {node kind parcel a b : Int} (z : Ev) : z ∈ withE l node kind parcel a b ↔ z = newE l node kind parcel a b ∨ z ∈ l := by
  unfold withE
  rw [List.mem_append, List.mem_append, List.mem_singleton]
  constructor
  · rintro ((h | h) | h)
    · exact .inr (List.mem_of_mem_take h)
    · exact .inl h
    · exact .inr (List.mem_of_mem_drop h)
  · rintro (h | h)
    · exact .inl (.inr h)
    · rw [← List.take_append_drop (aRun l node).2.2.1 l, List.mem_append] at h
      rcases h with h | h
      · exact .inl (.inl h)
      · exact .inr h
theorem withE_len {l : List Ev} (h : Srt l) (node kind parcel a b : Int) : (withE l node kind parcel a b).length = l.length + 1 := by
  have := (aRun_inv node h).at_le
  unfold withE
  simp only [List.length_append, List.length_take, List.length_drop, List.length_singleton]
  omega
theorem appE (l m : List Ev) : List.append (α := Ev) l m = l ++ m := rfl
theorem specA_loop (l : List Ev) (hj : jok l = true) (node kind parcel a b : Int) (same : List Ev) : spec_AddEvent_l0 (l, node, ()) (same, node, (1 : Int), (1 : Int), kind, parcel, a, b, (0 : Int), (0 : Int), ()) = some (.inl (same, node, (aRun l node).1, (aRun l node).2.1, kind, parcel, a, b, (((aRun l node).2.2.1 : Nat) : Int), ())) := by
  have h60 := jok_len hj
  refine (loop_fold (body := spec_AddEvent_b0 (l, node, ())) l zIIIIIII (by omega) (aStep node) (fun (s : Int × Int × Nat × Nat) n => (same, node, s.1, s.2.1, kind, parcel, a, b, ((s.2.2.1 : Nat) : Int), (n : Int), ())) (fun n s => s.2.2.2 = n) (fun s => Sum.inl (same, node, s.1, s.2.1, kind, parcel, a, b, ((s.2.2.1 : Nat) : Int), ())) (fun n s hn hs => ⟨?_, by unfold aStep; simp [hs]⟩) (fun s hs => ?_) (1, 1, 0, 0) rfl).1
  · have he := evOk_iff.1 (jok_ev hj hn)
    unfold spec_AddEvent_b0 aStep
    simp only [lss_len, hn, decide_true, cond_true, inR_nat, get_nat]
    revert he
    generalize l.getD n zIIIIIII = e
    intro he
    have e1 : rArith .add .i64 e.2.1 1 = e.2.1 + 1 := add64 (by omega) (by omega)
    have e2 : rArith .add .i64 e.2.2.1 1 = e.2.2.1 + 1 := add64 (by omega) (by omega)
    have e3 : rMxmn true s.2.1 (e.2.2.1 + 1) = max s.2.1 (e.2.2.1 + 1) := by unfold rMxmn; simp <;> omega
    have e4 : rCmp .eql e.1 node = decide (e.1 = node) := by simp [rCmp, Bool.beq_eq_decide_eq]
    have e5 : rCmp .leq e.1 node = decide (e.1 ≤ node) := rfl
    simp only [e1, e2, e3, e4, e5, succ64 (n := n) (by omega), hs]
    cases decide (e.1 = node) <;> cases decide (e.1 ≤ node) <;> rfl
  · unfold spec_AddEvent_b0
    simp only [lss_len, Nat.lt_irrefl, decide_false, cond_false]
theorem specAdd_eq (l : List Ev) (node kind parcel a b : Int) (hl : l.length ≤ 1073741824) : spec_AddEvent l node kind parcel a b = some ((addEv l node kind parcel a b).1, (addEv l node kind parcel a b).2, ()) := by
  unfold spec_AddEvent addEv
  have hsm : rSmall l = true := small_of hl
  simp only [specJ_eq, Option.bind_some, appE, List.nil_append, hsm, cond_true]
  cases hj : jok l with
  | false => rfl
  | true =>
    have h60 := jok_len hj
    have hi := aRun_inv node (jok_srt hj)
    have hat := hi.at_le
    simp only [Bool.not_true, cond_false, cond_true, specA_loop l hj, Option.bind_some, Sum.elim_inl, appE, List.nil_append]
    generalize hA : aRun l node = A at hat
    have s1 : rSubOk l (0 : Int) ((A.2.2.1 : Nat) : Int) = true := by unfold rSubOk; simp <;> omega
    have s2 : rSubOk l ((A.2.2.1 : Nat) : Int) (rLen l) = true := by unfold rSubOk rLen; simp <;> omega
    have t1 : rSub l (0 : Int) ((A.2.2.1 : Nat) : Int) = l.take A.2.2.1 := by unfold rSub; simp
    have t2 : rSub l ((A.2.2.1 : Nat) : Int) (rLen l) = l.drop A.2.2.1 := by unfold rSub rLen; rw [Int.toNat_natCast, Int.toNat_natCast]; exact List.take_of_length_le (by simp)
    have k1 : rSmall (l.take A.2.2.1) = true := small_of (by simp; omega)
    have k2 : ∀ x : Ev, rSmall (l.take A.2.2.1 ++ [x]) = true := fun x => small_of (by simp; omega)
    have k3 : ∀ x : Ev, rSmall (l.take A.2.2.1 ++ [x] ++ l.drop A.2.2.1) = true := fun x => small_of (by simp; omega)
    simp only [s1, s2, t1, t2, k1, k2, k3, cond_true]
    have hw : withE l node kind parcel a b = l.take A.2.2.1 ++ [(node, A.1, A.2.1, kind, parcel, a, b)] ++ l.drop A.2.2.1 := by unfold withE newE; rw [hA]
    rw [hw]
    cases jok (l.take A.2.2.1 ++ [(node, A.1, A.2.1, kind, parcel, a, b)] ++ l.drop A.2.2.1) <;> rfl
end Go.Fn
set_option linter.unusedSimpArgs false
set_option linter.unusedVariables false
namespace Go.Fn
open Go.R Go.Sort
/-- What drawn journals are: n bounds events and stamps, base is in it, the others are of nodes S. -/
structure JInv (n : Nat) (base : List Ev) (S : Int → Prop) (l : List Ev) : Prop where
  j : jok l = true
  len : l.length ≤ n
  st : ∀ x, x ∈ l → x.2.2.1 ≤ (n : Int)
  gap : ∀ x, x ∈ l → ∀ s : Int, 1 ≤ s → s ≤ x.2.1 → ∃ y, y ∈ l ∧ y.1 = x.1 ∧ y.2.1 = s
  sub : ∀ x, x ∈ base → x ∈ l
  new : ∀ x, x ∈ l → x ∈ base ∨ S x.1
theorem JInv.mono {n m : Nat} {base : List Ev} {S : Int → Prop} {l : List Ev} (h : JInv n base S l) (hm : n ≤ m) : JInv m base S l :=
  ⟨h.j, by have := h.len; omega, fun x hx => by have := h.st x hx; omega, h.gap, h.sub, h.new⟩
theorem JInv.add {n : Nat} {base : List Ev} {S : Int → Prop} {l : List Ev} (h : JInv n base S l) {node : Int} (hS : S node) (kind parcel a b : Int) : JInv (n + 1) base S (addEv l node kind parcel a b).1 := by
  unfold addEv
  rw [h.j]
  simp only [cond_true]
  cases hw : jok (withE l node kind parcel a b) with
  | false => exact h.mono (Nat.le_succ _)
  | true =>
    have hs := jok_srt h.j
    have hi := aRun_inv node hs
    simp only [cond_true]
    refine ⟨hw, by rw [withE_len hs]; have := h.len; omega, fun x hx => ?_, fun x hx s h1 h2 => ?_, fun x hx => (withE_mem x).2 (.inr (h.sub x hx)), fun x hx => ?_⟩
    · rcases (withE_mem x).1 hx with e | e
      · rw [e]
        show (aRun l node).2.1 ≤ _
        rcases hi.p2 with p | ⟨y, hy, p⟩
        · rw [p]; omega
        · rw [p]; have := h.st y hy; omega
      · have := h.st x e; omega
    · rcases (withE_mem x).1 hx with e | e
      · subst e
        have h2 : s ≤ (aRun l node).1 := h2
        by_cases e : s = (aRun l node).1
        · exact ⟨_, hx, rfl, e.symm⟩
        · rcases hi.s2 with p | ⟨y, hy, q, p⟩
          · omega
          · obtain ⟨z, hz, e1, e2⟩ := h.gap y hy s h1 (by omega)
            exact ⟨z, (withE_mem z).2 (.inr hz), by rw [e1, q]; rfl, e2⟩
      · obtain ⟨z, hz, e1, e2⟩ := h.gap x e s h1 h2
        exact ⟨z, (withE_mem z).2 (.inr hz), e1, e2⟩
    · rcases (withE_mem x).1 hx with e | e
      · rw [e]; exact .inr hS
      · exact h.new x e
theorem add_yl (b : List Int) (hb : b.length ≤ 1048576) (i h : Int) (hi : 0 ≤ i) {n : Nat} (hn : n ≤ 1000) {base : List Ev} {S : Int → Prop} {l : List Ev} (hl : JInv n base S l) {node : Int} (hS : S node) :
    Yl (spec_l08Add b i h l node) fun y => JInv (n + 1) base S y.1 ∧ y.2.1 = b ∧ 0 ≤ y.2.2.1 := by
  have h30 : l.length ≤ 1073741824 := by have := hl.len; omega
  unfold spec_l08Add
  refine (below_yl b hb i h 4 hi (by omega)).bind fun y0 ⟨_, _, a3, a4⟩ => ?_
  rw [a3]
  refine (below_yl b hb _ _ 4 a4 (by omega)).bind fun y1 ⟨_, _, b3, b4⟩ => ?_
  rw [b3]
  refine .cond (fun _ => ?_) fun _ => ?_
  · refine (below_yl b hb _ _ 3 b4 (by omega)).bind fun y2 ⟨_, _, c3, c4⟩ => ?_
    rw [c3]
    refine (below_yl b hb _ _ 40 c4 (by omega)).bind fun y3 ⟨_, _, d3, d4⟩ => ?_
    rw [specAdd_eq l _ _ _ _ _ h30]
    exact .ret ⟨hl.add hS _ _ _ _, d3, d4⟩
  · refine (below_yl b hb _ _ 3 b4 (by omega)).bind fun y2 ⟨_, _, c3, c4⟩ => ?_
    rw [c3]
    refine (below_yl b hb _ _ 40 c4 (by omega)).bind fun y3 ⟨_, _, d3, d4⟩ => ?_
    rw [specAdd_eq l _ _ _ _ _ h30]
    exact .ret ⟨hl.add hS _ _ _ _, d3, d4⟩
abbrev CurJ := (List Int) × Int × Int × (List Ev) × Int × Unit
abbrev BOut := ((List Int) × Int × Int × (List Ev) × Unit) ⊕ Empty
/-- One of the three loops that write events. -/
theorem adds_yl (b : List Int) (hb : b.length ≤ 1048576) {body : CurJ → Option (CurJ ⊕ BOut)} {base : List Ev} {S : Int → Prop} (N : Nat) (hN : N ≤ 100)
    (hbody : ∀ (i h cnt : Int) (l : List Ev) (n : Nat), 0 ≤ i → n ≤ 200 → JInv n base S l → 0 < cnt → Yl (body (b, i, h, l, cnt, ())) fun r => match r with | .inl y => y.1 = b ∧ 0 ≤ y.2.1 ∧ JInv (n + 1) base S y.2.2.2.1 ∧ y.2.2.2.2.1 = rArith .sub .i64 cnt 1 | .inr _ => False)
    (hend : ∀ (i h cnt : Int) (l : List Ev), ¬ (0 < cnt) → body (b, i, h, l, cnt, ()) = some (.inr (.inl (b, i, h, l, ()))))
    (i h cnt : Int) (l : List Ev) (hi : 0 ≤ i) (hc0 : 0 ≤ cnt) (hc : cnt ≤ 5) (hl : JInv N base S l) :
    Yl (iter body big (b, i, h, l, cnt, ())) fun r => match r with | .inl y => y.1 = b ∧ 0 ≤ y.2.1 ∧ JInv (N + 5) base S y.2.2.2.1 | .inr _ => False := by
  refine Yl.loop (fun x => x.1 = b ∧ 0 ≤ x.2.1 ∧ 0 ≤ x.2.2.2.2.1 ∧ x.2.2.2.2.1 ≤ 5 ∧ JInv (N + (5 - x.2.2.2.2.1).toNat) base S x.2.2.2.1) (fun x => x.2.2.2.2.1.toNat) (fun x hx => ?_) big _ ⟨rfl, hi, hc0, hc, hl.mono (by omega)⟩ (lt_big (by show cnt.toNat < _; omega))
  obtain ⟨xb, xi, xh, xl, xc, u⟩ := x
  obtain ⟨x1, x2, x3, x4, x5⟩ := hx
  simp only [] at x1 x2 x3 x4 x5
  subst x1
  by_cases hp : 0 < xc
  · refine (hbody xi xh xc xl _ x2 (by omega) x5 hp).mono fun r hr => ?_
    match r, hr with
    | .inl y, ⟨h1, h2, h3, h4⟩ =>
      have e : rArith .sub .i64 xc 1 = xc - 1 := sub64 (by omega) (by omega)
      rw [e] at h4
      refine ⟨⟨h1, h2, by omega, by omega, h3.mono (by omega)⟩, ?_⟩
      show y.2.2.2.2.1.toNat < xc.toNat
      omega
  · rw [hend xi xh xc xl hp]
    exact .ret ⟨rfl, x2, x5.mono (by omega)⟩
theorem gtr0 (a : Int) : rCmp .gtr a (0 : Int) = decide (0 < a) := rfl
theorem both_yl (b : List Int) (hb : b.length ≤ 1048576) (i h : Int) (hi : 0 ≤ i) : Yl (spec_l08Both b i h) fun y => ∃ base : List Ev, JInv 10 base (fun n => n = 0 ∨ n = 1) y.1 ∧ JInv 10 base (fun n => n = 2 ∨ n = 3 ∨ n = 5) y.2.1 ∧ (∀ x, x ∈ base → 0 ≤ x.1 ∧ x.1 ≤ 2) := by
  unfold spec_l08Both
  refine (below_yl b hb i h 6 hi (by omega)).bind fun y0 ⟨a1, a2, a3, a4⟩ => ?_
  have a2 : y0.1 ≤ 5 := a2
  rw [a3]
  have start : JInv 0 [] (fun n => 0 ≤ n ∧ n ≤ 2) [] := ⟨rfl, Nat.le_refl _, fun x hx => absurd hx List.not_mem_nil, fun x hx => absurd hx List.not_mem_nil, fun x hx => absurd hx List.not_mem_nil, fun x hx => absurd hx List.not_mem_nil⟩
  refine (adds_yl b hb (body := spec_l08Both_b0 ()) 0 (by omega) (fun i h cnt l n hi hn hl hp => ?_) (fun i h cnt l hp => ?_) y0.2.2.1 y0.2.2.2.1 y0.1 [] a4 a1 a2 start).bind fun q hq => ?_
  · unfold spec_l08Both_b0
    rw [gtr0, decide_eq_true hp]
    refine (below_yl b hb i h 3 hi (by omega)).bind fun z ⟨c1, c2, c3, c4⟩ => ?_
    have c2 : z.1 ≤ 2 := c2
    simp only [c3]
    exact (add_yl b hb _ _ c4 (by omega) hl (node := z.1) ⟨c1, c2⟩).bind fun w ⟨d1, d2, d3⟩ => .ret ⟨d2, d3, d1, rfl⟩
  · unfold spec_l08Both_b0
    rw [gtr0, decide_eq_false hp]; rfl
  match q, hq with
  | .inl y2, ⟨h1, h2, h3⟩ =>
    simp only [Sum.elim_inl]
    rw [h1]
    have hbase : ∀ x, x ∈ y2.2.2.2.1 → 0 ≤ x.1 ∧ x.1 ≤ 2 := fun x hx => (h3.new x hx).resolve_left List.not_mem_nil
    refine (below_yl b hb _ _ 6 h2 (by omega)).bind fun y3 ⟨e1, e2, e3, e4⟩ => ?_
    have e2 : y3.1 ≤ 5 := e2
    rw [e3]
    have startA : JInv 5 y2.2.2.2.1 (fun n => n = 0 ∨ n = 1) y2.2.2.2.1 := ⟨h3.j, h3.len, h3.st, h3.gap, fun x hx => hx, fun x hx => .inl hx⟩
    have startB : JInv 5 y2.2.2.2.1 (fun n => n = 2 ∨ n = 3 ∨ n = 5) y2.2.2.2.1 := ⟨h3.j, h3.len, h3.st, h3.gap, fun x hx => hx, fun x hx => .inl hx⟩
    refine (adds_yl b hb (body := spec_l08Both_b2 (y2.2.2.2.1, ())) 5 (by omega) (fun i h cnt l n hi hn hl hp => ?_) (fun i h cnt l hp => ?_) y3.2.2.1 y3.2.2.2.1 y3.1 y2.2.2.2.1 e4 e1 e2 startA).bind fun q hq => ?_
    · unfold spec_l08Both_b2
      rw [gtr0, decide_eq_true hp]
      refine (pickInt_yl b hb i h [0, 1, 1] hi (by simp) (by simp)).bind fun z ⟨c1, c3, c4⟩ => ?_
      have c1 : z.1 = 0 ∨ z.1 = 1 := by simpa using c1
      simp only [c3]
      exact (add_yl b hb _ _ c4 (by omega) hl (node := z.1) c1).bind fun w ⟨d1, d2, d3⟩ => .ret ⟨d2, d3, d1, rfl⟩
    · unfold spec_l08Both_b2
      rw [gtr0, decide_eq_false hp]; rfl
    match q, hq with
    | .inl y5, ⟨k1, k2, k3⟩ =>
      simp only [Sum.elim_inl]
      rw [k1]
      refine (below_yl b hb _ _ 6 k2 (by omega)).bind fun y6 ⟨f1, f2, f3, f4⟩ => ?_
      have f2 : y6.1 ≤ 5 := f2
      rw [f3]
      refine (adds_yl b hb (body := spec_l08Both_b4 (y5.2.2.2.1, ())) 5 (by omega) (fun i h cnt l n hi hn hl hp => ?_) (fun i h cnt l hp => ?_) y6.2.2.1 y6.2.2.2.1 y6.1 y2.2.2.2.1 f4 f1 f2 startB).bind fun q hq => ?_
      · unfold spec_l08Both_b4
        rw [gtr0, decide_eq_true hp]
        refine (pickInt_yl b hb i h [2, 3, 5] hi (by simp) (by simp)).bind fun z ⟨c1, c3, c4⟩ => ?_
        have c1 : z.1 = 2 ∨ z.1 = 3 ∨ z.1 = 5 := by simpa using c1
        simp only [c3]
        exact (add_yl b hb _ _ c4 (by omega) hl (node := z.1) c1).bind fun w ⟨d1, d2, d3⟩ => .ret ⟨d2, d3, d1, rfl⟩
      · unfold spec_l08Both_b4
        rw [gtr0, decide_eq_false hp]; rfl
      match q, hq with
      | .inl y8, ⟨m1, m2, m3⟩ => exact .ret ⟨y2.2.2.2.1, k3, m3, hbase⟩
theorem drawBoth_yl (b : List Int) (hb : b.length ≤ 1048576) : Yl (spec_DrawBoth b) fun y => ∃ base : List Ev, JInv 10 base (fun n => n = 0 ∨ n = 1) y.1 ∧ JInv 10 base (fun n => n = 2 ∨ n = 3 ∨ n = 5) y.2.1 ∧ (∀ x, x ∈ base → 0 ≤ x.1 ∧ x.1 ≤ 2) := by
  unfold spec_DrawBoth
  refine (new_yl b hb).bind fun y0 ⟨h1, h2⟩ => ?_
  rw [h1]
  exact (both_yl b hb _ _ (by omega)).bind fun y1 h => .ret h
theorem sameEv_self (l : List Ev) (hl : l.length ≤ 1073741824) : laws_sameEvents l l = some (true, ()) := by
  unfold laws_sameEvents
  rw [neq_self]
  have hloop : laws_sameEvents_l0 (l, l, ()) ((0 : Int), ()) = some (.inr (.inl ())) := by
    refine loop_end (body := laws_sameEvents_b0 (l, l, ())) (fun n => ((n : Int), ())) l.length (by omega) _ (fun n hn => ?_) ?_
    · unfold laws_sameEvents_b0
      simp only [lss_len, inR_nat, hn, decide_true, cond_true, get_nat, evEq, Bool.not_true, lets_def, cond_false, succ64 (n := n) (by omega)]
    · unfold laws_sameEvents_b0
      simp only [lss_len, Nat.lt_irrefl, decide_false, cond_false]
  rw [hloop]
  rfl
structure KInv (p : List Ev) (out : List Int) : Prop where
  len : out.length = 6
  nn : ∀ n : Nat, n < 6 → 0 ≤ out.getD n 0
  all : ∀ n : Nat, n < 6 → ∀ s : Int, 1 ≤ s → s ≤ out.getD n 0 → ∃ x, x ∈ p ∧ x.1 = (n : Int) ∧ x.2.1 = s
  no : ∀ n : Nat, n < 6 → ∀ x, x ∈ p → x.1 = (n : Int) → x.2.1 ≠ out.getD n 0 + 1
theorem kInv_step {p : List Ev} {out : List Int} {x : Ev} (h : KInv p out) (hp : Srt (p ++ [x])) (he : evOk x = true) (hb : ∀ n : Nat, n < 6 → out.getD n 0 ≤ 999) : KInv (p ++ [x]) (kstep out x) := by
  have hlt : ∀ y, y ∈ p → ltE y x = true := fun y hy => (List.pairwise_append.1 hp).2.2 y hy x (List.mem_singleton.2 rfl)
  obtain ⟨h1, h2, h3, h4⟩ := h
  have he := evOk_iff.1 he
  obtain ⟨m, hm⟩ : ∃ m : Nat, x.1 = (m : Int) := ⟨x.1.toNat, by omega⟩
  have hm6 : m < 6 := by omega
  have hbm := hb m hm6
  have hnm := h2 m hm6
  unfold kstep
  have e1 : rGet zI out x.1 = out.getD m 0 := by rw [hm, get_nat]; rfl
  have e2 : rArith .add .i64 (out.getD m 0) 1 = out.getD m 0 + 1 := add64 (by omega) (by omega)
  have e3 : rPut out x.1 x.2.1 = out.set m x.2.1 := by rw [hm, put_nat]
  rw [e1, e2, e3]
  by_cases hc : x.2.1 = out.getD m 0 + 1
  · rw [show rCmp .eql x.2.1 (out.getD m 0 + 1) = true from by simp [rCmp, hc]]
    simp only [cond_true]
    have hg : ∀ n : Nat, n < 6 → (out.set m x.2.1).getD n 0 = if n = m then x.2.1 else out.getD n 0 := fun n hn => by
      by_cases e : n = m
      · subst e; rw [if_pos rfl, getD_set_self (by omega)]
      · rw [if_neg e, Go.R.getD_set_ne (Ne.symm e)]
    refine ⟨by simp [h1], fun n hn => ?_, fun n hn s s1 s2 => ?_, fun n hn y hy e => ?_⟩
    · rw [hg n hn]; split
      · omega
      · exact h2 n hn
    · rw [hg n hn] at s2
      by_cases e : n = m
      · subst e
        rw [if_pos rfl] at s2
        by_cases es : s = x.2.1
        · exact ⟨x, by simp, hm, es.symm⟩
        · obtain ⟨y, hy, k⟩ := h3 n hn s s1 (by omega)
          exact ⟨y, List.mem_append_left _ hy, k⟩
      · rw [if_neg e] at s2
        obtain ⟨y, hy, k⟩ := h3 n hn s s1 s2
        exact ⟨y, List.mem_append_left _ hy, k⟩
    · rw [hg n hn]
      by_cases e' : n = m
      · subst e'
        rw [if_pos rfl]
        rcases List.mem_append.1 hy with hy | hy
        · have := hlt y hy; rw [ltE_iff] at this; omega
        · rw [List.mem_singleton] at hy; subst hy; omega
      · rw [if_neg e']
        rcases List.mem_append.1 hy with hy | hy
        · exact h4 n hn y hy e
        · rw [List.mem_singleton] at hy; subst hy; omega
  · rw [show rCmp .eql x.2.1 (out.getD m 0 + 1) = false from by simpa [rCmp] using hc]
    simp only [cond_false]
    refine ⟨h1, h2, fun n hn s s1 s2 => ?_, fun n hn y hy e => ?_⟩
    · obtain ⟨y, hy, k⟩ := h3 n hn s s1 s2
      exact ⟨y, List.mem_append_left _ hy, k⟩
    · rcases List.mem_append.1 hy with hy | hy
      · exact h4 n hn y hy e
      · rw [List.mem_singleton] at hy
        subst hy
        have : n = m := by omega
        subst this
        exact hc
theorem kInv_run : ∀ (l p : List Ev) (out : List Int), Srt (p ++ l) → (∀ x, x ∈ p ++ l → evOk x = true) → KInv p out → KInv (p ++ l) (l.foldl kstep out)
  | [], p, out, _, _, h => by simpa using h
  | x :: l, p, out, hp, he, h => by
    have e : p ++ x :: l = (p ++ [x]) ++ l := by simp
    have hx := he x (by simp)
    have hb : ∀ n : Nat, n < 6 → out.getD n 0 ≤ 999 := fun n hn => by
      by_cases h0 : out.getD n 0 ≤ 0
      · omega
      · obtain ⟨y, hy, _, e2⟩ := h.all n hn (out.getD n 0) (by omega) (Int.le_refl _)
        have := (evOk_iff.1 (he y (List.mem_append_left _ hy))).2.1
        omega
    rw [e] at hp he ⊢
    exact kInv_run l (p ++ [x]) (kstep out x) hp he (kInv_step h (List.pairwise_append.1 hp).1 hx hb)
theorem known_inv {l : List Ev} (h : jok l = true) : KInv l (known l) := by
  have h0 : KInv [] [0, 0, 0, 0, 0, 0] := ⟨rfl, fun n hn => by
    match n, hn with
    | 0, _ | 1, _ | 2, _ | 3, _ | 4, _ | 5, _ => exact Int.le_refl _, fun n hn s s1 s2 => by
    match n, hn with
    | 0, _ | 1, _ | 2, _ | 3, _ | 4, _ | 5, _ => exact absurd s2 (by show ¬ s ≤ 0; omega), fun n hn x hx => absurd hx List.not_mem_nil⟩
  have := kInv_run l [] [0, 0, 0, 0, 0, 0] (by simpa using jok_srt h) (by simpa using jok_all h) h0
  unfold known
  rw [h]
  exact this
theorem known_mono {a m : List Ev} (ha : jok a = true) (hm : jok m = true) (hs : ∀ x, x ∈ a → x ∈ m) {n : Nat} (hn : n < 6) : (known a).getD n 0 ≤ (known m).getD n 0 := by
  have ka := known_inv ha
  have km := known_inv hm
  rcases Int.lt_or_le ((known m).getD n 0) ((known a).getD n 0) with h | h
  · obtain ⟨x, hx, e1, e2⟩ := ka.all n hn ((known m).getD n 0 + 1) (by have := km.nn n hn; omega) (by omega)
    exact absurd e2 (km.no n hn x (hs x hx) e1)
  · exact h
theorem dfold (kn : List Int) : ∀ (l out : List Ev), l.foldl (dstep kn) out = out ++ l.filter (lacks kn)
  | [], out => by simp
  | x :: l, out => by
    rw [List.foldl_cons, dfold kn l]
    unfold dstep
    cases h : lacks kn x with
    | true => simp [List.filter_cons, h]
    | false => simp [List.filter_cons, h]
theorem delta_eq {l : List Ev} {kn : List Int} (hl : jok l = true) (hk : kn.length = 6) : delta l kn = l.filter (lacks kn) := by
  unfold delta
  rw [hl, show rCmp .neq (rLen kn) 6 = false from by simp [rCmp, rLen, hk]]
  simp only [cond_true, cond_false]
  rw [dfold]; rfl
theorem delta_jok {l : List Ev} {kn : List Int} (hl : jok l = true) (hk : kn.length = 6) : jok (delta l kn) = true := by
  rw [delta_eq hl hk]
  have h := jok_iff.1 hl
  exact jok_iff.2 ⟨by have := List.length_filter_le (lacks kn) l; omega, fun x hx => h.2.1 x (List.mem_filter.1 hx).1, h.2.2.filter _⟩
theorem lacks_iff {l : List Ev} (hl : jok l = true) {z : Ev} {n : Nat} (hz : z.1 = (n : Int)) : lacks (known l) z = true ↔ (known l).getD n 0 < z.2.1 := by
  unfold lacks
  rw [hz, get_nat]
  exact decide_eq_true_iff
/-- Who has all that the other's knowledge tells of lacks nothing else. -/
theorem not_lacks {l : List Ev} (hl : jok l = true) {z : Ev} (hz : evOk z = true) (h : lacks (known l) z = false) : ∃ x, x ∈ l ∧ x.1 = z.1 ∧ x.2.1 = z.2.1 := by
  have he := evOk_iff.1 hz
  obtain ⟨m, hm⟩ : ∃ m : Nat, z.1 = (m : Int) := ⟨z.1.toNat, by omega⟩
  have : ¬ ((known l).getD m 0 < z.2.1) := fun h' => by rw [(lacks_iff hl hm).2 h'] at h; cases h
  obtain ⟨x, hx, e1, e2⟩ := (known_inv hl).all m (by omega) z.2.1 (by omega) (by omega)
  exact ⟨x, hx, by rw [e1, hm], e2⟩
theorem get_eq (l : List Int) {n : Nat} (h : n < l.length) : laws_get l (n : Int) = some (l.getD n 0, ()) := by
  unfold laws_get
  rw [neg_of (by omega), show rCmp .geq (n : Int) (rLen l) = false from (geS n l.length).trans (decide_eq_false (by omega)), inR_lt h, get_nat]
  rfl
theorem deltas_true (code : List Int) : laws_FnDeltas code = some (true, ()) := by
  unfold laws_FnDeltas laws_big
  simp only [Option.bind_some]
  cases hbig : rCmp .gtr (rLen code) 1048576 with
  | true => rfl
  | false =>
    have hb : code.length ≤ 1048576 := by
      have : ¬ ((1048576 : Int) < (code.length : Int)) := of_decide_eq_false hbig
      omega
    simp only [cond_false]
    obtain ⟨⟨a, b, u⟩, he, base, ha, hb', hbase⟩ := drawBoth_yl code hb
    rw [he]
    have ha : JInv 10 base (fun n => n = 0 ∨ n = 1) a := ha
    have hb : JInv 10 base (fun n => n = 2 ∨ n = 3 ∨ n = 5) b := hb'
    have la := ha.len
    have lb := hb.len
    have ld1 := delta_len b (known a)
    have ld2 := delta_len a (known b)
    simp only [Option.bind_some, specMerge_eq, implMerge_eq, implKnown_eq, specKnown_eq, implDelta_eq, specDelta_eq, sameEv_self (delta b (known a)) (by omega), sameEv_self (delta a (known b)) (by omega), Bool.not_true, cond_false]
    cases hM : (merged a b).2 with
    | false => rfl
    | true =>
      obtain ⟨_, _, h3, h4, h5, h6⟩ := merged_true hM
      generalize (merged a b).1 = m at h3 h4 h5
      simp only [Bool.not_true, cond_false]
      have ka := known_inv ha.j
      have kb := known_inv hb.j
      have km := known_inv h3
      have r1 : merged a (delta b (known a)) = (m, true) := merged_of ha.j (delta_jok hb.j ka.len) h3 fun z => by
        rw [h4 z, delta_eq hb.j ka.len, List.mem_filter]
        constructor
        · rintro (q | q)
          · exact .inl q
          · cases hc : lacks (known a) z with
            | true => exact .inr ⟨q, rfl⟩
            | false =>
              obtain ⟨x, hx, e1, e2⟩ := not_lacks ha.j (jok_all hb.j z q) hc
              have := h6 x hx z q e1 e2
              subst this
              exact .inl hx
        · rintro (q | q)
          · exact .inl q
          · exact .inr q.1
      have r2 : merged (delta a (known b)) b = (m, true) := merged_of (delta_jok ha.j kb.len) hb.j h3 fun z => by
        rw [h4 z, delta_eq ha.j kb.len, List.mem_filter]
        constructor
        · rintro (q | q)
          · cases hc : lacks (known b) z with
            | true => exact .inl ⟨q, rfl⟩
            | false =>
              obtain ⟨x, hx, e1, e2⟩ := not_lacks hb.j (jok_all ha.j z q) hc
              have := h6 z q x hx e1.symm e2.symm
              subst this
              exact .inr hx
          · exact .inr q
        · rintro (q | q)
          · exact .inl q.1
          · exact .inr q
      have hyl : m.length ≤ 60 := jok_len h3
      have hloop : laws_FnDeltas_l0 (b, true, true, ()) (m, delta b (known a), m, m, known m, known a, (0 : Int), ()) = some (.inr (.inl (m, delta b (known a), m, m, ()))) := by
        refine loop_end (body := laws_FnDeltas_b0 (b, true, true, ())) (fun n => (m, delta b (known a), m, m, known m, known a, (n : Int), ())) (known a).length (by rw [ka.len]; omega) _ (fun n hn => ?_) ?_
        · have hn6 : n < 6 := by rw [ka.len] at hn; exact hn
          have hmo := known_mono ha.j h3 (fun x hx => (h4 x).2 (.inl hx)) hn6
          unfold laws_FnDeltas_b0
          simp only [lss_len, hn, decide_true, cond_true, inR_nat, get_nat, get_eq (known m) (n := n) (by rw [km.len]; exact hn6), Option.bind_some, succ64 (n := n) (by omega)]
          rw [show rCmp .lss ((known m).getD n 0) ((known a).getD n zI) = false from decide_eq_false (by show ¬ ((known m).getD n 0 < (known a).getD n 0); omega)]
          rfl
        · unfold laws_FnDeltas_b0
          simp only [lss_len, Nat.lt_irrefl, decide_false, cond_false]
      have hdl : (delta b (known a)).length ≤ b.length := by rw [delta_eq hb.j ka.len]; exact List.length_filter_le _ _
      have hno : delta m (known m) = [] := by
        rw [delta_eq h3 km.len, List.filter_eq_nil_iff]
        intro z hz hc
        have hev := evOk_iff.1 (jok_all h3 z hz)
        obtain ⟨n, hn⟩ : ∃ n : Nat, z.1 = (n : Int) := ⟨z.1.toNat, by omega⟩
        have hlt := (lacks_iff h3 hn).1 hc
        have hn6 : n < 6 := by omega
        have hnn := km.nn n hn6
        have hgap : ∃ y, y ∈ m ∧ y.1 = z.1 ∧ y.2.1 = (known m).getD n 0 + 1 := by
          rcases (h4 z).1 hz with q | q
          · obtain ⟨y, hy, e1, e2⟩ := ha.gap z q ((known m).getD n 0 + 1) (by omega) (by omega)
            exact ⟨y, (h4 y).2 (.inl hy), e1, e2⟩
          · obtain ⟨y, hy, e1, e2⟩ := hb.gap z q ((known m).getD n 0 + 1) (by omega) (by omega)
            exact ⟨y, (h4 y).2 (.inr hy), e1, e2⟩
        obtain ⟨y, hy, e1, e2⟩ := hgap
        exact km.no n hn6 y hy (by rw [e1, hn]) e2
      simp only [r1, r2, hloop, Option.bind_some, Sum.elim_inr, Sum.elim_inl, cond_true, sameEv_self m (by omega), hno]
      rw [show rCmp .leq (rLen (delta b (known a))) (rLen b) = true from (leS _ _).trans (decide_eq_true hdl)]
      rfl
end Go.Fn
