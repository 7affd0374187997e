import Derived.Test.YtgiakgamcepemaaPK
/- Plain functions that stand for Go functions, and what they answer: PM. Conditions: none. -/
set_option autoImplicit false
set_option linter.unusedVariables false
set_option linter.unusedSimpArgs false
/-! PM: drawn weeks, terms, stays. -/
namespace Go.R
open Go.Fn
/-- Behind a draw the cursor is as it should be. -/
abbrev CurY (b : List Int) (y : List Int × Int × Int × Unit) : Prop := y.1 = b ∧ 0 ≤ y.2.1
theorem spans_yl (b : List Int) (hb : b.length ≤ 1048576) (i h most step : Int) (hi : 0 ≤ i) (hs : step ≤ 1073741824) : Yl (spec_l01Spans b i h most step) fun y => y.1.length ≤ 4 ∧ y.2.1 = b ∧ 0 ≤ y.2.2.1 := by
  unfold spec_l01Spans
  refine (below_yl b hb i h step hi hs).bind fun y0 ⟨_, _, a3, a4⟩ => ?_
  rw [a3]
  refine (below_yl b hb _ _ 5 a4 (by omega)).bind fun y1 ⟨b1, b2, b3, b4⟩ => ?_
  have b2 : y1.1 ≤ 4 := b2
  rw [b3]
  have hl : Yl (spec_l01Spans_l0 (most, step, ()) (b, y1.2.2.1, y1.2.2.2.1, [], y0.1, y1.1, ())) fun q => match q with
      | .inl y => y.1 = b ∧ 0 ≤ y.2.1 ∧ y.2.2.2.1.length ≤ 4
      | .inr (.inl y) => y.1 = b ∧ 0 ≤ y.2.1 ∧ y.2.2.2.1.length ≤ 4
      | .inr (.inr _) => True := by
    unfold spec_l01Spans_l0
    refine Yl.loop (fun x => x.1 = b ∧ 0 ≤ x.2.1 ∧ (x.2.2.2.1.length : Int) + x.2.2.2.2.2.1 ≤ 4 ∧ 0 ≤ x.2.2.2.2.2.1) (fun x => x.2.2.2.2.2.1.toNat) (fun x hx => ?_) big _ ⟨rfl, b4, by show ((0 : Nat) : Int) + y1.1 ≤ 4; omega, b1⟩ (lt_big (by show y1.1.toNat < _; omega))
    obtain ⟨x1, x2, x3, x4⟩ := hx
    unfold spec_l01Spans_b0
    rw [x1]
    refine .cond (fun h1 => ?_) fun _ => .ret ⟨rfl, x2, by show x.2.2.2.1.length ≤ 4; omega⟩
    rw [cmp_gtr] at h1
    have h1 := of_decide_eq_true h1
    refine (below_yl b hb _ _ step x2 hs).bind fun z ⟨_, _, c3, c4⟩ => ?_
    rw [c3]
    refine .cond (fun _ => .ret ⟨rfl, c4, by show x.2.2.2.1.length ≤ 4; omega⟩) fun _ => ?_
    refine .guard (small_of (by simp; omega)) ((below_yl b hb _ _ step c4 hs).bind fun u ⟨_, _, d3, d4⟩ => .ret ?_)
    have e : rArith .sub .i64 x.2.2.2.2.2.1 1 = x.2.2.2.2.2.1 - 1 := sub64 (by omega) (by omega)
    refine ⟨⟨d3, d4, ?_, ?_⟩, ?_⟩
    · show ((List.append x.2.2.2.1 (List.append [] _)).length : Int) + rArith .sub .i64 x.2.2.2.2.2.1 1 ≤ 4
      rw [e]; simp; omega
    · show 0 ≤ rArith .sub .i64 x.2.2.2.2.2.1 1
      rw [e]; omega
    · show (rArith .sub .i64 x.2.2.2.2.2.1 1).toNat < x.2.2.2.2.2.1.toNat
      rw [e]; omega
  refine hl.bind fun q hq => ?_
  match q, hq with
  | .inl y, hq => exact .ret ⟨hq.2.2, hq.1, hq.2.1⟩
  | .inr (.inl y), hq => exact .ret ⟨hq.2.2, hq.1, hq.2.1⟩
  | .inr (.inr q), _ => exact nomatch q
theorem week_yl (b : List Int) (hb : b.length ≤ 1048576) (i h : Int) (hi : 0 ≤ i) : Yl (spec_l01Week b i h) fun y => y.1.length ≤ 4 ∧ y.2.1.length ≤ 4 ∧ y.2.2.1 = b ∧ 0 ≤ y.2.2.2.1 := by
  unfold spec_l01Week
  refine (spans_yl b hb i h 168 40 hi (by omega)).bind fun y0 ⟨a1, a3, a4⟩ => ?_
  rw [a3]
  refine (below_yl b hb _ _ 6 a4 (by omega)).bind fun y1 ⟨_, _, b3, b4⟩ => ?_
  rw [b3]
  have nothing : y0.1.length ≤ 4 ∧ ([] : List (Int × Int)).length ≤ 4 ∧ b = b ∧ 0 ≤ y1.2.2.1 := ⟨a1, by simp, rfl, b4⟩
  have closed : Yl ((spec_l01Spans b y1.2.2.1 y1.2.2.2.1 20000 150).bind fun y2 => some (y0.1, y2.1, y2.2.1, y2.2.2.1, y2.2.2.2.1, ())) fun y => y.1.length ≤ 4 ∧ y.2.1.length ≤ 4 ∧ y.2.2.1 = b ∧ 0 ≤ y.2.2.2.1 :=
    (spans_yl b hb _ _ 20000 150 b4 (by omega)).bind fun y2 ⟨c1, c3, c4⟩ => .ret ⟨a1, c1, c3, c4⟩
  exact .cond (fun _ => .ret ⟨by simp, by simp, rfl, b4⟩) fun _ => .cond (fun _ => .cond (fun _ => closed) fun _ => .cond (fun _ => .ret ⟨by simp, by simp, rfl, b4⟩) fun _ => .ret nothing) fun _ => .cond (fun _ => closed) fun _ => .cond (fun _ => .ret ⟨by simp, by simp, rfl, b4⟩) fun _ => .ret nothing
theorem put_len {α : Type} (l : List α) (i : Int) (x : α) : (rPut l i x).length = l.length := List.length_set
theorem anyWeek_yl (b : List Int) (hb : b.length ≤ 1048576) (i h : Int) (hi : 0 ≤ i) : Yl (spec_l01AnyWeek b i h) fun y => y.1.length ≤ 30 ∧ y.2.1.length ≤ 30 ∧ y.2.2.1 = b ∧ 0 ≤ y.2.2.2.1 := by
  unfold spec_l01AnyWeek
  refine (week_yl b hb i h hi).bind fun y0 ⟨a1', a2', a3, a4⟩ => ?_
  have a1 : y0.1.length ≤ 30 := by omega
  have a2 : y0.2.1.length ≤ 30 := by omega
  refine .cond (fun _ => .ret ⟨a1, a2, a3, a4⟩) fun h0 => ?_
  have hne : 1 ≤ y0.1.length := by
    have : decide ((y0.1.length : Int) = 0) = false := by
      have h0 : ((y0.1.length : Int) == 0) = false := h0
      simpa using h0
    have := of_decide_eq_false this
    omega
  rw [a3]
  refine (below_yl b hb _ _ (rLen y0.1) a4 (by unfold rLen; omega)).bind fun y1 ⟨b1, b2, b3, b4⟩ => ?_
  have b2 : y1.1 ≤ max 0 ((y0.1.length : Int) - 1) := b2
  have hin : rInR y0.1 y1.1 = true := inR_int b1 (by omega)
  rw [b3]
  refine (below_yl b hb _ _ 12 b4 (by omega)).bind fun y2 ⟨_, _, c3, c4⟩ => ?_
  rw [c3]
  refine .cond (fun _ => .guard hin ((pickInt_yl b hb _ _ _ c4 (by simp) (by simp)).bind fun y3 ⟨_, d2, d3⟩ => .guard hin (.ret ⟨Nat.le_trans (Nat.le_of_eq (put_len _ _ _)) a1, a2, d2, d3⟩))) fun _ => ?_
  refine .cond (fun _ => (pickInt_yl b hb _ _ _ c4 (by simp) (by simp)).bind fun y3 ⟨_, d2, d3⟩ => .guard hin (.ret ⟨Nat.le_trans (Nat.le_of_eq (put_len _ _ _)) a1, a2, d2, d3⟩)) fun _ => ?_
  refine .cond (fun _ => (below_yl b hb _ _ 3 c4 (by omega)).bind fun y3 ⟨_, _, d3, d4⟩ => .guard (small_of (by simp; omega)) (.ret ⟨a1, by show (List.append y0.2.1 (List.append [] _)).length ≤ 30; simp; omega, d3, d4⟩)) fun _ => ?_
  refine .cond (fun _ => ?_) fun _ => .ret ⟨a1, a2, rfl, c4⟩
  have hl : Yl (spec_l01AnyWeek_l1 () (b, y2.2.2.1, y2.2.2.2.1, [], [], y0.1, y0.2.1, ())) fun q => match q with
      | .inl y => y.1 = b ∧ 0 ≤ y.2.1 ∧ y.2.2.2.2.2.1.length ≤ 30 ∧ y.2.2.2.2.2.2.1.length ≤ 30
      | .inr _ => True := by
    unfold spec_l01AnyWeek_l1
    refine Yl.loop (fun x => x.1 = b ∧ 0 ≤ x.2.1 ∧ x.2.2.2.2.2.1.length ≤ 30 ∧ x.2.2.2.2.2.2.1.length ≤ 30) (fun x => 30 - x.2.2.2.2.2.2.1.length) (fun x hx => ?_) big _ ⟨rfl, c4, by show y0.1.length ≤ 30; omega, by show y0.2.1.length ≤ 30; omega⟩ (lt_big (by show 30 - y0.2.1.length < _; omega))
    obtain ⟨x1, x2, x3, x4⟩ := hx
    unfold spec_l01AnyWeek_b1
    refine .cond (fun h1 => .guard (small_of (by simp; omega)) (.ret ⟨⟨x1, x2, x3, ?_⟩, ?_⟩)) fun _ => .ret ⟨x1, x2, x3, x4⟩
    · rw [cmp_lss] at h1
      have h1 : ((x.2.2.2.2.2.2.1.length : Nat) : Int) < 21 := of_decide_eq_true h1
      show (List.append x.2.2.2.2.2.2.1 (List.append [] _)).length ≤ 30
      simp; omega
    · rw [cmp_lss] at h1
      have h1 : ((x.2.2.2.2.2.2.1.length : Nat) : Int) < 21 := of_decide_eq_true h1
      show 30 - (List.append x.2.2.2.2.2.2.1 (List.append [] _)).length < 30 - x.2.2.2.2.2.2.1.length
      simp; omega
  refine hl.bind fun q hq => ?_
  match q, hq with
  | .inl y, hq => exact .ret ⟨hq.2.2.1, hq.2.2.2, hq.1, hq.2.1⟩
  | .inr q, _ => exact nomatch q
theorem terms_yl (b : List Int) (hb : b.length ≤ 1048576) (i h : Int) (hi : 0 ≤ i) : Yl (spec_l06Terms b i h) fun y => y.2.2.2.2.2.2.2.2.1 = b ∧ 0 ≤ y.2.2.2.2.2.2.2.2.2.1 := by
  unfold spec_l06Terms
  refine (below_yl b hb i h 40 hi (by omega)).bind fun y0 ⟨_, _, a3, a4⟩ => ?_
  rw [a3]
  refine (below_yl b hb _ _ 30 a4 (by omega)).bind fun y1 ⟨_, _, b3, b4⟩ => ?_
  rw [b3]
  refine (below_yl b hb _ _ 10 b4 (by omega)).bind fun y2 ⟨_, _, c3, c4⟩ => ?_
  rw [c3]
  refine (pickInt_yl b hb _ _ _ c4 (by simp) (by simp)).bind fun y3 ⟨_, d3, d4⟩ => ?_
  rw [d3]
  refine (pickInt_yl b hb _ _ _ d4 (by simp) (by simp)).bind fun y4 ⟨_, e3, e4⟩ => ?_
  rw [e3]
  refine (below_yl b hb _ _ 30 e4 (by omega)).bind fun y5 ⟨_, _, f3, f4⟩ => ?_
  rw [f3]
  refine (pickInt_yl b hb _ _ _ f4 (by simp) (by simp)).bind fun y6 ⟨_, g3, g4⟩ => ?_
  rw [g3]
  exact (below_yl b hb _ _ 5 g4 (by omega)).bind fun y7 ⟨_, _, h3, h4⟩ => .ret ⟨h3, h4⟩
theorem any6_yl (b : List Int) (hb : b.length ≤ 1048576) (i h : Int) (hi : 0 ≤ i) : Yl (spec_l06Any b i h) fun y => y.2.2.2.2.2.2.2.2.1 = b ∧ 0 ≤ y.2.2.2.2.2.2.2.2.2.1 := by
  unfold spec_l06Any
  refine (terms_yl b hb i h hi).bind fun y0 ⟨a3, a4⟩ => ?_
  rw [a3]
  refine (below_yl b hb _ _ 16 a4 (by omega)).bind fun y1 ⟨_, _, b3, b4⟩ => ?_
  rw [b3]
  refine .cond (fun _ => (pickInt_yl b hb _ _ _ b4 (by simp) (by simp)).bind fun y2 ⟨_, c3, c4⟩ => .ret ⟨c3, c4⟩) fun _ => ?_
  refine .cond (fun _ => (pickInt_yl b hb _ _ _ b4 (by simp) (by simp)).bind fun y2 ⟨_, c3, c4⟩ => .ret ⟨c3, c4⟩) fun _ => ?_
  refine .cond (fun _ => (pickInt_yl b hb _ _ _ b4 (by simp) (by simp)).bind fun y2 ⟨_, c3, c4⟩ => .ret ⟨c3, c4⟩) fun _ => ?_
  refine .cond (fun _ => (pickInt_yl b hb _ _ _ b4 (by simp) (by simp)).bind fun y2 ⟨_, c3, c4⟩ => .ret ⟨c3, c4⟩) fun _ => ?_
  exact .cond (fun _ => (pickInt_yl b hb _ _ _ b4 (by simp) (by simp)).bind fun y2 ⟨_, c3, c4⟩ => .ret ⟨c3, c4⟩) fun _ => .ret ⟨rfl, b4⟩
theorem size_yl (b : List Int) (hb : b.length ≤ 1048576) (i h : Int) (hi : 0 ≤ i) : Yl (spec_l06Size b i h) fun y => y.2.1 = b ∧ 0 ≤ y.2.2.1 := by
  unfold spec_l06Size
  refine (once_yl b hb i h 12 hi (by omega)).bind fun y0 ⟨a3, a4⟩ => ?_
  rw [a3]
  exact .cond (fun _ => (pickInt_yl b hb _ _ _ a4 (by simp) (by simp)).bind fun y1 ⟨_, b3, b4⟩ => .ret ⟨b3, b4⟩) fun _ => (below_yl b hb _ _ 4 a4 (by omega)).bind fun y1 ⟨_, _, b3, b4⟩ => .ret ⟨b3, b4⟩
theorem stays_yl (b : List Int) (hb : b.length ≤ 1048576) (i h : Int) (hi : 0 ≤ i) : Yl (spec_l06Stays b i h) fun y => y.1.length ≤ 30 := by
  unfold spec_l06Stays
  refine (below_yl b hb i h 5 hi (by omega)).bind fun y0 ⟨a1, a2, a3, a4⟩ => ?_
  have a2 : y0.1 ≤ 4 := a2
  rw [a3]
  have hl : Yl (spec_l06Stays_l0 () (b, y0.2.2.1, y0.2.2.2.1, [], y0.1, ())) fun q => match q with
      | .inl y => y.1 = b ∧ 0 ≤ y.2.1 ∧ y.2.2.2.1.length ≤ 4
      | .inr _ => True := by
    unfold spec_l06Stays_l0
    refine Yl.loop (fun x => x.1 = b ∧ 0 ≤ x.2.1 ∧ (x.2.2.2.1.length : Int) + x.2.2.2.2.1 ≤ 4 ∧ 0 ≤ x.2.2.2.2.1) (fun x => x.2.2.2.2.1.toNat) (fun x hx => ?_) big _ ⟨rfl, a4, by show ((0 : Nat) : Int) + y0.1 ≤ 4; omega, a1⟩ (lt_big (by show y0.1.toNat < _; omega))
    obtain ⟨x1, x2, x3, x4⟩ := hx
    unfold spec_l06Stays_b0
    rw [x1]
    refine .cond (fun h1 => ?_) fun _ => .ret ⟨rfl, x2, by show x.2.2.2.1.length ≤ 4; omega⟩
    rw [cmp_gtr] at h1
    have h1 := of_decide_eq_true h1
    refine (below_yl b hb _ _ 200 x2 (by omega)).bind fun z ⟨_, _, c3, c4⟩ => ?_
    rw [c3]
    refine (size_yl b hb _ _ c4).bind fun u ⟨d3, d4⟩ => ?_
    rw [d3]
    refine (below_yl b hb _ _ 100 d4 (by omega)).bind fun v ⟨_, _, e3, e4⟩ => ?_
    rw [e3]
    refine (pickInt_yl b hb _ _ _ e4 (by simp) (by simp)).bind fun t ⟨_, f3, f4⟩ => .guard (small_of (by simp; omega)) (.ret ?_)
    have e : rArith .sub .i64 x.2.2.2.2.1 1 = x.2.2.2.2.1 - 1 := sub64 (by omega) (by omega)
    refine ⟨⟨f3, f4, ?_, ?_⟩, ?_⟩
    · show ((List.append x.2.2.2.1 (List.append [] _)).length : Int) + rArith .sub .i64 x.2.2.2.2.1 1 ≤ 4
      rw [e]; simp; omega
    · show 0 ≤ rArith .sub .i64 x.2.2.2.2.1 1
      rw [e]; omega
    · show (rArith .sub .i64 x.2.2.2.2.1 1).toNat < x.2.2.2.2.1.toNat
      rw [e]; omega
  refine hl.bind fun q hq => ?_
  match q, hq with
  | .inr q, _ => exact nomatch q
  | .inl y, hq =>
    obtain ⟨q1, q2, q3⟩ := hq
    show Yl ((spec_l01Once y.1 y.2.1 y.2.2.1 14).bind _) _
    rw [q1]
    refine (once_yl b hb _ _ 14 q2 (by omega)).bind fun z ⟨c3, c4⟩ => .cond (fun _ => ?_) fun _ => .ret (by show y.2.2.2.1.length ≤ 30; omega)
    have hl2 : Yl (spec_l06Stays_l2 () (z.2.1, z.2.2.1, z.2.2.2.1, y.2.2.2.1, ())) fun q => match q with
        | .inl y => y.2.2.2.1.length ≤ 30
        | .inr _ => True := by
      unfold spec_l06Stays_l2
      refine Yl.loop (fun x => x.2.2.2.1.length ≤ 30) (fun x => 30 - x.2.2.2.1.length) (fun x hx => ?_) big _ (by show y.2.2.2.1.length ≤ 30; omega) (lt_big (by show 30 - y.2.2.2.1.length < _; omega))
      unfold spec_l06Stays_b2
      refine .cond (fun h1 => .guard (small_of (by simp; omega)) (.ret ⟨?_, ?_⟩)) fun _ => .ret hx
      · rw [cmp_lss] at h1
        have h1 : ((x.2.2.2.1.length : Nat) : Int) < 21 := of_decide_eq_true h1
        show (List.append x.2.2.2.1 (List.append [] _)).length ≤ 30
        simp; omega
      · rw [cmp_lss] at h1
        have h1 : ((x.2.2.2.1.length : Nat) : Int) < 21 := of_decide_eq_true h1
        show 30 - (List.append x.2.2.2.1 (List.append [] _)).length < 30 - x.2.2.2.1.length
        simp; omega
    refine hl2.bind fun q hq => ?_
    match q, hq with
    | .inl y, hq => exact .ret hq
    | .inr q, _ => exact nomatch q
theorem drawCheapest_yl (b : List Int) (hb : b.length ≤ 1048576) : Yl (spec_DrawCheapestTerms b) fun y => y.1.length ≤ 30 ∧ y.2.1.length ≤ 30 ∧ y.2.2.1.length ≤ 4 ∧ y.2.2.2.1.length ≤ 30 := by
  unfold spec_DrawCheapestTerms
  refine (new_yl b hb).bind fun y0 ⟨a1, a2⟩ => ?_
  rw [a1, a2]
  refine (anyWeek_yl b hb _ _ (Int.le_refl 0)).bind fun y1 ⟨b1, b2, b3, b4⟩ => ?_
  rw [b3]
  refine (below_yl b hb _ _ 4 b4 (by omega)).bind fun y2 ⟨c1, c2, c3, c4⟩ => ?_
  have c2 : y2.1 ≤ 3 := c2
  rw [c3]
  have hl : Yl (spec_DrawCheapestTerms_l0 () ([], [], b, y2.2.2.1, y2.2.2.2.1, y1.1, y1.2.1, [], y2.1, ())) fun q => match q with
      | .inl y => y.2.2.1 = b ∧ 0 ≤ y.2.2.2.1 ∧ y.2.2.2.2.2.1 = y1.1 ∧ y.2.2.2.2.2.2.1 = y1.2.1 ∧ y.2.2.2.2.2.2.2.1.length ≤ 4
      | .inr _ => True := by
    unfold spec_DrawCheapestTerms_l0
    refine Yl.loop (fun x => x.2.2.1 = b ∧ 0 ≤ x.2.2.2.1 ∧ x.2.2.2.2.2.1 = y1.1 ∧ x.2.2.2.2.2.2.1 = y1.2.1 ∧ (x.2.2.2.2.2.2.2.1.length : Int) + x.2.2.2.2.2.2.2.2.1 ≤ 4 ∧ 0 ≤ x.2.2.2.2.2.2.2.2.1) (fun x => x.2.2.2.2.2.2.2.2.1.toNat) (fun x hx => ?_) big _ ⟨rfl, c4, rfl, rfl, by show ((0 : Nat) : Int) + y2.1 ≤ 4; omega, c1⟩ (lt_big (by show y2.1.toNat < _; omega))
    obtain ⟨x1, x2, x3, x4, x5, x6⟩ := hx
    unfold spec_DrawCheapestTerms_b0
    rw [x1]
    refine .cond (fun h1 => ?_) fun _ => .ret ⟨rfl, x2, x3, x4, by show x.2.2.2.2.2.2.2.1.length ≤ 4; omega⟩
    rw [cmp_gtr] at h1
    have h1 := of_decide_eq_true h1
    refine (any6_yl b hb _ _ x2).bind fun z ⟨d3, d4⟩ => .guard (small_of (by simp; omega)) (.ret ?_)
    have e : rArith .sub .i64 x.2.2.2.2.2.2.2.2.1 1 = x.2.2.2.2.2.2.2.2.1 - 1 := sub64 (by omega) (by omega)
    refine ⟨⟨d3, d4, x3, x4, ?_, ?_⟩, ?_⟩
    · show ((List.append x.2.2.2.2.2.2.2.1 (List.append [] _)).length : Int) + rArith .sub .i64 x.2.2.2.2.2.2.2.2.1 1 ≤ 4
      rw [e]; simp; omega
    · show 0 ≤ rArith .sub .i64 x.2.2.2.2.2.2.2.2.1 1
      rw [e]; omega
    · show (rArith .sub .i64 x.2.2.2.2.2.2.2.2.1 1).toNat < x.2.2.2.2.2.2.2.2.1.toNat
      rw [e]; omega
  refine hl.bind fun q hq => ?_
  match q, hq with
  | .inr q, _ => exact nomatch q
  | .inl y, hq =>
    obtain ⟨q1, q2, q3, q4, q5⟩ := hq
    show Yl ((spec_l06Stays y.2.2.1 y.2.2.2.1 y.2.2.2.2.1).bind _) _
    rw [q1]
    refine (stays_yl b hb _ _ q2).bind fun z hz => .ret ⟨?_, ?_, q5, hz⟩
    · show y.2.2.2.2.2.1.length ≤ 30; rw [q3]; exact b1
    · show y.2.2.2.2.2.2.1.length ≤ 30; rw [q4]; exact b2
end Go.R
