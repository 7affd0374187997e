import Derived.Test.YtnadnafggjopmaaMergeJournalsQB
/- Plain functions that stand for Go functions, and what they answer. Conditions: none. -/
set_option autoImplicit false
set_option linter.unusedVariables false
set_option linter.unusedSimpArgs false
set_option linter.unusedSimpArgs false
set_option linter.unusedVariables false
namespace Go.Fn
open Go.R Go.Sort
def aStep (node : Int) (s : Int × Int × Nat × Nat) (x : Ev) : Int × Int × Nat × Nat :=
  ((bif decide (x.1 = node) then x.2.1 + 1 else s.1), max s.2.1 (x.2.2.1 + 1), (bif decide (x.1 ≤ node) then s.2.2.2 + 1 else s.2.2.1), s.2.2.2 + 1)
def aRun (l : List Ev) (node : Int) : Int × Int × Nat × Nat := l.foldl (aStep node) (1, 1, 0, 0)
def newE (l : List Ev) (node kind parcel a b : Int) : Ev := (node, (aRun l node).1, (aRun l node).2.1, kind, parcel, a, b)
def withE (l : List Ev) (node kind parcel a b : Int) : List Ev := l.take (aRun l node).2.2.1 ++ [newE l node kind parcel a b] ++ l.drop (aRun l node).2.2.1
def addEv (l : List Ev) (node kind parcel a b : Int) : List Ev × Bool := bif jok l then bif jok (withE l node kind parcel a b) then (withE l node kind parcel a b, true) else (l, false) else (l, false)
structure AInv (node : Int) (p : List Ev) (s : Int × Int × Nat × Nat) : Prop where
  c : s.2.2.2 = p.length
  at_le : s.2.2.1 ≤ p.length
  s1 : ∀ x, x ∈ p → x.1 = node → x.2.1 < s.1
  s2 : s.1 = 1 ∨ ∃ x, x ∈ p ∧ x.1 = node ∧ s.1 = x.2.1 + 1
  p1 : ∀ x, x ∈ p → x.2.2.1 < s.2.1
  p2 : s.2.1 = 1 ∨ ∃ x, x ∈ p ∧ s.2.1 = x.2.2.1 + 1
  a1 : ∀ x, x ∈ p.take s.2.2.1 → x.1 ≤ node
  a2 : ∀ x, x ∈ p.drop s.2.2.1 → node < x.1
theorem aInv_step {node : Int} {p : List Ev} {s : Int × Int × Nat × Nat} {x : Ev} (h : AInv node p s) (hp : Srt (p ++ [x])) : AInv node (p ++ [x]) (aStep node s x) := by
  have hlt : ∀ y, y ∈ p → ltE y x = true := fun y hy => (List.pairwise_append.1 hp).2.2 y hy x (List.mem_singleton.2 rfl)
  obtain ⟨h1, h2, h3, h4, h5, h6, h7, h8⟩ := h
  unfold aStep
  refine ⟨by simp [h1], ?_, fun y hy hn => ?_, ?_, fun y hy => ?_, ?_, ?_, ?_⟩
  · cases decide (x.1 ≤ node) <;> simp <;> omega
  · simp only []
    rcases List.mem_append.1 hy with hy | hy
    · by_cases hx : x.1 = node
      · rw [decide_eq_true hx]
        have := hlt y hy
        rw [ltE_iff] at this
        simp only [cond_true]; omega
      · rw [decide_eq_false hx]
        exact h3 y hy hn
    · rw [List.mem_singleton] at hy
      subst hy
      rw [decide_eq_true hn]
      simp only [cond_true]; omega
  · simp only []
    by_cases hx : x.1 = node
    · rw [decide_eq_true hx]
      exact .inr ⟨x, by simp, hx, rfl⟩
    · rw [decide_eq_false hx]
      rcases h4 with h4 | ⟨y, hy, h4⟩
      · exact .inl h4
      · exact .inr ⟨y, List.mem_append_left _ hy, h4⟩
  · simp only []
    rcases List.mem_append.1 hy with hy | hy
    · have := h5 y hy; omega
    · rw [List.mem_singleton] at hy
      subst hy; omega
  · simp only []
    by_cases hm : s.2.1 ≤ x.2.2.1 + 1
    · exact .inr ⟨x, by simp, by omega⟩
    · rcases h6 with h6 | ⟨y, hy, h6⟩
      · exact .inl (by omega)
      · exact .inr ⟨y, List.mem_append_left _ hy, by omega⟩
  · simp only []
    by_cases hx : x.1 ≤ node
    · rw [decide_eq_true hx]
      intro y hy
      rw [cond_true, h1, List.take_of_length_le (by simp)] at hy
      rcases List.mem_append.1 hy with hy | hy
      · have := hlt y hy; rw [ltE_iff] at this; omega
      · rw [List.mem_singleton] at hy; subst hy; exact hx
    · rw [decide_eq_false hx]
      intro y hy
      rw [cond_false, List.take_append_of_le_length h2] at hy
      exact h7 y hy
  · simp only []
    by_cases hx : x.1 ≤ node
    · rw [decide_eq_true hx]
      intro y hy
      rw [cond_true, h1, List.drop_of_length_le (by simp)] at hy
      exact absurd hy List.not_mem_nil
    · rw [decide_eq_false hx]
      intro y hy
      rw [cond_false, List.drop_append_of_le_length h2] at hy
      rcases List.mem_append.1 hy with hy | hy
      · exact h8 y hy
      · rw [List.mem_singleton] at hy; subst hy; omega
theorem aInv_run (node : Int) : ∀ (l p : List Ev) (s : Int × Int × Nat × Nat), Srt (p ++ l) → AInv node p s → AInv node (p ++ l) (l.foldl (aStep node) s)
  | [], p, s, _, h => by simpa using h
  | x :: l, p, s, hp, h => by
    have e : p ++ x :: l = (p ++ [x]) ++ l := by simp
    rw [e] at hp ⊢
    exact aInv_run node l (p ++ [x]) (aStep node s x) hp (aInv_step h (List.pairwise_append.1 hp).1)
theorem aRun_inv (node : Int) {l : List Ev} (h : Srt l) : AInv node l (aRun l node) := by
  have := aInv_run node l [] (1, 1, 0, 0) (by simpa using h) ⟨rfl, Nat.le_refl _, fun x hx => absurd hx List.not_mem_nil, .inl rfl, fun x hx => absurd hx List.not_mem_nil, .inl rfl, fun x hx => absurd (List.mem_of_mem_take hx) List.not_mem_nil, fun x hx => absurd (List.mem_of_mem_drop hx) List.not_mem_nil⟩
  exact this
theorem withE_mem {l : List Ev} {node kind parcel a b : Int} (z : Ev) : z ∈ withE l node kind parcel a b ↔ z = newE l node kind parcel a b ∨ z ∈ l := by
  unfold withE
  rw [List.mem_append, List.mem_append, List.mem_singleton]
  constructor
  · rintro ((h | h) | h)
    · exact .inr (List.mem_of_mem_take h)
    · exact .inl h
    · exact .inr (List.mem_of_mem_drop h)
  · rintro (h | h)
    · exact .inl (.inr h)
    · rw [← List.take_append_drop (aRun l node).2.2.1 l, List.mem_append] at h
      rcases h with h | h
      · exact .inl (.inl h)
      · exact .inr h
theorem withE_len {l : List Ev} (h : Srt l) (node kind parcel a b : Int) : (withE l node kind parcel a b).length = l.length + 1 := by
  have := (aRun_inv node h).at_le
  unfold withE
  simp only [List.length_append, List.length_take, List.length_drop, List.length_singleton]
  omega
end Go.Fn
set_option linter.unusedSimpArgs false
set_option linter.unusedVariables false
namespace Go.Fn
open Go.R Go.Sort
/-- What drawn journals are: n bounds events and stamps, base is in it, the others are of nodes S. -/
structure JInv (n : Nat) (base : List Ev) (S : Int → Prop) (l : List Ev) : Prop where
  j : jok l = true
  len : l.length ≤ n
  st : ∀ x, x ∈ l → x.2.2.1 ≤ (n : Int)
  gap : ∀ x, x ∈ l → ∀ s : Int, 1 ≤ s → s ≤ x.2.1 → ∃ y, y ∈ l ∧ y.1 = x.1 ∧ y.2.1 = s
  sub : ∀ x, x ∈ base → x ∈ l
  new : ∀ x, x ∈ l → x ∈ base ∨ S x.1
theorem JInv.mono {n m : Nat} {base : List Ev} {S : Int → Prop} {l : List Ev} (h : JInv n base S l) (hm : n ≤ m) : JInv m base S l :=
  ⟨h.j, by have := h.len; omega, fun x hx => by have := h.st x hx; omega, h.gap, h.sub, h.new⟩
theorem JInv.add {n : Nat} {base : List Ev} {S : Int → Prop} {l : List Ev} (h : JInv n base S l) {node : Int} (hS : S node) (kind parcel a b : Int) : JInv (n + 1) base S (addEv l node kind parcel a b).1 := by
  unfold addEv
  rw [h.j]
  simp only [cond_true]
  cases hw : jok (withE l node kind parcel a b) with
  | false => exact h.mono (Nat.le_succ _)
  | true =>
    have hs := jok_srt h.j
    have hi := aRun_inv node hs
    simp only [cond_true]
    refine ⟨hw, by rw [withE_len hs]; have := h.len; omega, fun x hx => ?_, fun x hx s h1 h2 => ?_, fun x hx => (withE_mem x).2 (.inr (h.sub x hx)), fun x hx => ?_⟩
    · rcases (withE_mem x).1 hx with e | e
      · rw [e]
        show (aRun l node).2.1 ≤ _
        rcases hi.p2 with p | ⟨y, hy, p⟩
        · rw [p]; omega
        · rw [p]; have := h.st y hy; omega
      · have := h.st x e; omega
    · rcases (withE_mem x).1 hx with e | e
      · subst e
        have h2 : s ≤ (aRun l node).1 := h2
        by_cases e : s = (aRun l node).1
        · exact ⟨_, hx, rfl, e.symm⟩
        · rcases hi.s2 with p | ⟨y, hy, q, p⟩
          · omega
          · obtain ⟨z, hz, e1, e2⟩ := h.gap y hy s h1 (by omega)
            exact ⟨z, (withE_mem z).2 (.inr hz), by rw [e1, q]; rfl, e2⟩
      · obtain ⟨z, hz, e1, e2⟩ := h.gap x e s h1 h2
        exact ⟨z, (withE_mem z).2 (.inr hz), e1, e2⟩
    · rcases (withE_mem x).1 hx with e | e
      · rw [e]; exact .inr hS
      · exact h.new x e
end Go.Fn
