import Derived.Test.YtgiakgamcepemaaPF
/- Plain functions that stand for Go functions, and what they answer: PG. Conditions: none. -/
set_option autoImplicit false
set_option linter.unusedVariables false
set_option linter.unusedSimpArgs false
/-! PG: the latest begin. -/
set_option linter.unusedSimpArgs false
namespace Go.Fn
open Go.R
theorem loop_meas {X Y : Type} {body : X → Option (X ⊕ Y)} (Inv : X → Prop) (m : X → Nat) (Post : Y → Prop) (h : ∀ x, Inv x → (∃ x', body x = some (.inl x') ∧ Inv x' ∧ m x' < m x) ∨ ∃ y, body x = some (.inr y) ∧ Post y) :
    ∀ (n : Nat) (x : X), Inv x → m x < n → ∃ y, iter body n x = some y ∧ Post y
  | 0, x, _, hm => absurd hm (Nat.not_lt_zero _)
  | n + 1, x, hi, hm => by
    rcases h x hi with ⟨x', h1, h2, h3⟩ | ⟨y, h1, h2⟩
    · obtain ⟨y, q1, q2⟩ := loop_meas Inv m Post h n x' h2 (by omega)
      exact ⟨y, by rw [iter_next h1]; exact q1, q2⟩
    · exact ⟨y, iter_done h1, h2⟩
section
variable {a1 : Int} {g : List (List Int)} {s : List Stp} {o : List Int}
theorem orderOk_begin {b b' : Int} (h : orderOk b' a1 g s o = true) (h0 : 0 ≤ b) (h1 : b ≤ 20000) : orderOk b a1 g s o = true := by
  unfold orderOk roundOk at h ⊢
  simp only [Bool.and_eq_true] at h ⊢
  exact ⟨⟨inB_iff.2 ⟨h0, h1⟩, h.1.2⟩, h.2⟩
theorem orderOk_range {b : Int} (h : orderOk b a1 g s o = true) : 0 ≤ b ∧ b ≤ 20000 := (roundOk_rows (orderOk_round h)).2.2.2.2.1
/-- Two rides of the same way, one ahead of the other. -/
structure Ahead (g : List (List Int)) (st st' : RSt) : Prop where
  load : st.1 = st'.1
  lo : 0 ≤ st.2.2.1
  le : st.2.2.1 ≤ st'.2.2.1
  hi : st'.2.2.1 ≤ 20200
  peak : st.2.2.2.1 = st'.2.2.2.1
  place : st.2.2.2.2.2 = st'.2.2.2.2.2
  p0 : 0 ≤ st.2.2.2.2.2
  p1 : st.2.2.2.2.2 < (g.length : Int)
theorem max_eq (a b : Int) : rMxmn true a b = if b > a then b else a := rfl
theorem ahead_go {a0 : Int} (h : roundOk a0 a1 g s = true) : ∀ (l : List Int), (∀ i ∈ l, 0 ≤ i ∧ i < (s.length : Int)) → ∀ (st st' r' : RSt), Ahead g st st' → rideGo g s l st' = .inl r' → ∃ r, rideGo g s l st = .inl r ∧ r.2.2.2.1 = r'.2.2.2.1
  | [], _, st, st', r', ha, hg => by
    injection hg with hg
    subst hg
    exact ⟨st, rfl, ha.peak⟩
  | i :: l, hl, st, st', r', ha, hg => by
    obtain ⟨h6, hgl, hrow, hst, _, _⟩ := roundOk_rows h
    obtain ⟨i0, i1⟩ := hl i (by simp)
    have hp0 := ha.p0
    have hp1 := ha.p1
    have hlo := ha.lo
    have hle := ha.le
    have hhi := ha.hi
    have hs := hst i.toNat (by omega)
    unfold stopOk at hs
    simp only [Bool.and_eq_true, inB_iff] at hs
    obtain ⟨s1, s2, _, s3, _, _⟩ := hs
    have hsi : rGet zIIIII s i = s.getD i.toNat zIIIII := rfl
    rw [← hsi] at s1 s2 s3
    have e1 : rArith .add .i64 i 1 = i + 1 := add1 i0 (by omega)
    have hleg := (hrow st.2.2.2.2.2.toNat (by omega)).2 (i + 1).toNat (by omega)
    have hleg' : 0 ≤ rGet zI (rGet zLIl g st.2.2.2.2.2) (i + 1) ∧ rGet zI (rGet zLIl g st.2.2.2.2.2) (i + 1) ≤ 200 := hleg
    have ha1 : arr g st i = st.2.2.1 + rGet zI (rGet zLIl g st.2.2.2.2.2) (i + 1) := by unfold arr; rw [e1, add64] <;> omega
    have ha2 : arr g st' i = st'.2.2.1 + rGet zI (rGet zLIl g st.2.2.2.2.2) (i + 1) := by unfold arr; rw [← ha.place, e1, add64] <;> omega
    simp only [rideGo] at hg ⊢
    cases hl' : late g s st' i with
    | true => rw [hl'] at hg; cases hg
    | false =>
      rw [hl'] at hg
      have hnl' : st'.2.2.1 + rGet zI (rGet zLIl g st.2.2.2.2.2) (i + 1) ≤ (rGet zIIIII s i).2.1 := by
        unfold late at hl'
        rw [ha2] at hl'
        simp only [rCmp, decide_eq_false_iff_not] at hl'
        omega
      have hnl : late g s st i = false := by
        unfold late
        rw [ha1]
        simp only [rCmp, decide_eq_false_iff_not]
        omega
      rw [hnl]
      simp only [cond_false] at hg ⊢
      refine ahead_go h l (fun j hj => hl j (by simp [hj])) _ _ r' ?_ hg
      have hw : ∀ st : RSt, (next g s st i).2.2.1 = rArith .add .i64 (rMxmn true (arr g st i) (rGet zIIIII s i).1) (rGet zIIIII s i).2.2.1 := fun _ => rfl
      have hb1 : 0 ≤ rMxmn true (arr g st i) (rGet zIIIII s i).1 ∧ rMxmn true (arr g st i) (rGet zIIIII s i).1 ≤ rMxmn true (arr g st' i) (rGet zIIIII s i).1 ∧ rMxmn true (arr g st' i) (rGet zIIIII s i).1 ≤ 20000 := by
        rw [max_eq, max_eq, ha1, ha2]
        refine ⟨?_, ?_, ?_⟩ <;> split <;> (try split) <;> omega
      obtain ⟨b1, b2, b3⟩ := hb1
      have w1 : (next g s st i).2.2.1 = rMxmn true (arr g st i) (rGet zIIIII s i).1 + (rGet zIIIII s i).2.2.1 := by rw [hw, add64] <;> omega
      have w2 : (next g s st' i).2.2.1 = rMxmn true (arr g st' i) (rGet zIIIII s i).1 + (rGet zIIIII s i).2.2.1 := by rw [hw, add64] <;> omega
      refine ⟨?_, ?_, ?_, ?_, ?_, rfl, ?_, ?_⟩
      · show rArith .add .i64 st.1 _ = rArith .add .i64 st'.1 _; rw [ha.load]
      · rw [w1]; omega
      · rw [w1, w2]; omega
      · rw [w2]; omega
      · show rMxmn true st.2.2.2.1 (rArith .add .i64 st.1 _) = rMxmn true st'.2.2.2.1 (rArith .add .i64 st'.1 _); rw [ha.load, ha.peak]
      · show 0 ≤ rArith .add .i64 i 1; rw [e1]; omega
      · show rArith .add .i64 i 1 < _; rw [e1]; omega
def can (a1 : Int) (g : List (List Int)) (s : List Stp) (o : List Int) (b : Int) : Bool := (ride b a1 g s o).isSome
theorem can_range {b : Int} (h : can a1 g s o b = true) : 0 ≤ b ∧ b ≤ 20000 := by
  unfold can ride at h
  cases hk : orderOk b a1 g s o with
  | true => exact orderOk_range hk
  | false => rw [hk] at h; cases h
theorem mem_getD {l : List Int} {i : Int} (h : i ∈ l) : ∃ n, n < l.length ∧ l.getD n zI = i := by
  obtain ⟨n, hn, e⟩ := List.mem_iff_getElem.1 h
  exact ⟨n, hn, by rw [List.getD_eq_getElem?_getD, List.getElem?_eq_getElem hn]; exact e⟩
/-- Who may begin late may begin earlier. -/
theorem can_mono {b b' : Int} (h0 : 0 ≤ b) (hb : b ≤ b') (h : can a1 g s o b' = true) : can a1 g s o b = true := by
  obtain ⟨_, hb'⟩ := can_range h
  unfold can ride at h ⊢
  cases hk : orderOk b' a1 g s o with
  | false => rw [hk] at h; cases h
  | true =>
    rw [hk] at h
    rw [orderOk_begin hk h0 (by omega)]
    simp only [cond_true] at h ⊢
    cases hgo : rideGo g s o (start b' s o) with
    | inr st => rw [hgo] at h; cases h
    | inl st' =>
      rw [hgo] at h
      obtain ⟨h6, hgl, _, _, _, _⟩ := roundOk_rows (orderOk_round hk)
      obtain ⟨r, q1, q2⟩ := ahead_go (orderOk_round hk) o (fun i hi => by
        obtain ⟨n, hn, e⟩ := mem_getD hi
        have := orderOk_at hk hn
        rw [e] at this
        exact this) (start b s o) (start b' s o) st' ⟨rfl, h0, hb, by show b' ≤ 20200; omega, rfl, rfl, Int.le_refl 0, by show (0 : Int) < _; omega⟩ hgo
      rw [q1]
      simp only at h ⊢
      rw [q2]
      cases hp : rCmp .gtr st'.2.2.2.1 a1 with
      | true => rw [hp] at h; cases h
      | false => rfl
end
/-- The latest begin, or -1. -/
def IsLatest (a1 : Int) (g : List (List Int)) (s : List Stp) (o : List Int) (b : Int) : Prop := (b = -1 ∨ can a1 g s o b = true) ∧ ∀ b', b < b' → can a1 g s o b' = false
theorem latest_unique {a1 : Int} {g : List (List Int)} {s : List Stp} {o : List Int} {b b' : Int} (h : IsLatest a1 g s o b) (h' : IsLatest a1 g s o b') (h0 : -1 ≤ b) (h0' : -1 ≤ b') : b = b' := by
  rcases Int.lt_trichotomy b b' with hlt | heq | hlt
  · have := h.2 b' hlt
    rcases h'.1 with e | e
    · omega
    · rw [this] at e; cases e
  · exact heq
  · have := h'.2 b hlt
    rcases h.1 with e | e
    · omega
    · rw [this] at e; cases e
theorem implRide_can (a0 a1 : Int) (g : List (List Int)) (s : List Stp) (o : List Int) (hgr : ∀ r ∈ g, r.length ≤ 1073741824) (ho : o.length ≤ 1073741824) :
    ∃ y, impl_ride a0 a1 g s o = some y ∧ y.2.2.2.2.1 = can a1 g s o a0 := by
  rw [implRide_eq a0 a1 g s o hgr ho]
  unfold can
  cases ride a0 a1 g s o with
  | none => exact ⟨_, rfl, rfl⟩
  | some q => exact ⟨_, rfl, rfl⟩
theorem specRide_can (a0 a1 : Int) (g : List (List Int)) (s : List Stp) (o : List Int) (ho : o.length ≤ 1073741824) :
    ∃ y, spec_l07Drive a0 a1 g s o = some y ∧ y.2.2.2.2.1 = can a1 g s o a0 := by
  obtain ⟨y, h1, h2⟩ := specRide_eq a0 a1 g s o ho
  refine ⟨y, h1, ?_⟩
  unfold can
  cases hr : ride a0 a1 g s o with
  | none => rw [hr] at h2; exact h2
  | some q => rw [hr] at h2; simp only at h2; rw [h2]; rfl
theorem implLatest (a0 a1 : Int) (g : List (List Int)) (s : List Stp) (o : List Int) (hgr : ∀ r ∈ g, r.length ≤ 1073741824) (ho : o.length ≤ 1073741824) :
    ∃ y, impl_LatestBegin_l0 (o, ()) (a0, a1, g, s, 20000, ()) = some y ∧ ∃ b, -1 ≤ b ∧ IsLatest a1 g s o b ∧ y = if b = -1 then Sum.inr (Sum.inl ()) else Sum.inl (b, true, ()) := by
  refine loop_meas (body := impl_LatestBegin_b0 (o, ())) (fun x => x.2.1 = a1 ∧ x.2.2.1 = g ∧ x.2.2.2.1 = s ∧ -1 ≤ x.2.2.2.2.1 ∧ x.2.2.2.2.1 ≤ 20000 ∧ ∀ b', x.2.2.2.2.1 < b' → can a1 g s o b' = false) (fun x => (x.2.2.2.2.1 + 1).toNat) _ (fun x hx => ?_) big _ ⟨rfl, rfl, rfl, by show (-1 : Int) ≤ 20000; omega, Int.le_refl _, fun b' hb' => ?_⟩ (lt_big (by show (20000 + 1 : Int).toNat < _; omega))
  · obtain ⟨x0, x1, x2, x3, b, u⟩ := x
    obtain ⟨rfl, rfl, rfl, hb0, hb1, hlat⟩ := hx
    unfold impl_LatestBegin_b0
    simp only at hb0 hb1 hlat ⊢
    by_cases hb : 0 ≤ b
    · have hge : rCmp .geq b 0 = true := by simp only [rCmp, decide_eq_true_eq]; omega
      obtain ⟨y, q1, q2⟩ := implRide_can b x1 x2 x3 o hgr ho
      simp only [hge, cond_true, q1, Option.bind_some, q2]
      cases hc : can x1 x2 x3 o b with
      | true => exact .inr ⟨_, rfl, b, hb0, ⟨.inr hc, hlat⟩, by rw [if_neg (by omega)]⟩
      | false =>
        refine .inl ⟨_, rfl, ⟨rfl, rfl, rfl, ?_, ?_, fun b' hb' => ?_⟩, ?_⟩
        · show -1 ≤ rArith .sub .i64 b 1; rw [sub64] <;> omega
        · show rArith .sub .i64 b 1 ≤ 20000; rw [sub64] <;> omega
        · have hb' : rArith .sub .i64 b 1 < b' := hb'
          rw [sub64 (by omega) (by omega)] at hb'
          rcases Int.lt_trichotomy b b' with h | h | h
          · exact hlat b' h
          · rw [← h]; exact hc
          · omega
        · show (rArith .sub .i64 b 1 + 1).toNat < (b + 1).toNat
          rw [sub64 (by omega) (by omega)]
          omega
    · have hbm : b = -1 := by omega
      subst hbm
      exact .inr ⟨_, rfl, -1, Int.le_refl _, ⟨.inl rfl, hlat⟩, rfl⟩
  · cases hc : can a1 g s o b' with
    | false => rfl
    | true => have := can_range hc; have hb' : (20000 : Int) < b' := hb'; omega
theorem quo2 {a : Int} (h0 : 0 ≤ a) (h1 : a ≤ 100000) : rArith .quo .i64 a 2 = a / 2 := by
  show IntKind.i64.wrap (a.tdiv 2) = a / 2
  rw [Int.tdiv_eq_ediv_of_nonneg h0]
  exact w64 (by omega) (by omega)
theorem specLatest (a0 a1 : Int) (g : List (List Int)) (s : List Stp) (o : List Int) (ho : o.length ≤ 1073741824) :
    ∃ y, spec_LatestBegin_l0 (o, ()) (a0, a1, g, s, -1, 20001, ()) = some y ∧ ∃ b, -1 ≤ b ∧ IsLatest a1 g s o b ∧ y = Sum.inl (b, ()) := by
  refine loop_meas (body := spec_LatestBegin_b0 (o, ())) (fun x => x.2.1 = a1 ∧ x.2.2.1 = g ∧ x.2.2.2.1 = s ∧ -1 ≤ x.2.2.2.2.1 ∧ x.2.2.2.2.1 < x.2.2.2.2.2.1 ∧ x.2.2.2.2.2.1 ≤ 20001 ∧ (x.2.2.2.2.1 = -1 ∨ can a1 g s o x.2.2.2.2.1 = true) ∧ can a1 g s o x.2.2.2.2.2.1 = false) (fun x => (x.2.2.2.2.2.1 - x.2.2.2.2.1).toNat) _ (fun x hx => ?_) big _ ⟨rfl, rfl, rfl, Int.le_refl _, by show (-1 : Int) < 20001; omega, Int.le_refl _, .inl rfl, ?_⟩ (lt_big (by show (20001 - -1 : Int).toNat < _; omega))
  · obtain ⟨x0, x1, x2, x3, lo, hi, u⟩ := x
    obtain ⟨rfl, rfl, rfl, h1, h2, h3, h4, h5⟩ := hx
    unfold spec_LatestBegin_b0
    simp only at h1 h2 h3 h4 h5 ⊢
    have e1 : rArith .sub .i64 hi lo = hi - lo := sub64 (by omega) (by omega)
    have e2 : rArith .add .i64 lo hi = lo + hi := add64 (by omega) (by omega)
    rw [e1, e2]
    by_cases hgap : hi - lo > 1
    · have hg1 : rCmp .gtr (hi - lo) 1 = true := by simp only [rCmp, decide_eq_true_eq]; omega
      have hz : rIsZero (2 : Int) = false := rfl
      rw [hg1, hz, quo2 (by omega) (by omega)]
      obtain ⟨y, q1, q2⟩ := specRide_can ((lo + hi) / 2) x1 x2 x3 o ho
      simp only [cond_true, cond_false, q1, Option.bind_some, q2]
      cases hc : can x1 x2 x3 o ((lo + hi) / 2) with
      | true => exact .inl ⟨_, rfl, ⟨rfl, rfl, rfl, by show -1 ≤ (lo + hi) / 2; omega, by show (lo + hi) / 2 < hi; omega, h3, .inr hc, h5⟩, by show (hi - (lo + hi) / 2).toNat < (hi - lo).toNat; omega⟩
      | false => exact .inl ⟨_, rfl, ⟨rfl, rfl, rfl, h1, by show lo < (lo + hi) / 2; omega, by show (lo + hi) / 2 ≤ 20001; omega, h4, hc⟩, by show ((lo + hi) / 2 - lo).toNat < (hi - lo).toNat; omega⟩
    · have hg1 : rCmp .gtr (hi - lo) 1 = false := by simp only [rCmp, decide_eq_false_iff_not]; omega
      rw [hg1]
      refine .inr ⟨_, rfl, lo, h1, ⟨h4, fun b' hb' => ?_⟩, rfl⟩
      cases hc : can x1 x2 x3 o b' with
      | false => rfl
      | true =>
        have := can_mono (b := hi) (by omega) (by omega) hc
        rw [h5] at this
        cases this
  · cases hc : can a1 g s o 20001 with
    | false => exact hc
    | true => have := can_range hc; omega
theorem latest_eq (a0 a1 : Int) (g : List (List Int)) (s : List Stp) (o : List Int) (hgr : ∀ r ∈ g, r.length ≤ 1073741824) (ho : o.length ≤ 1073741824) :
    ∃ n ok, spec_LatestBegin a0 a1 g s o = some (n, ok, ()) ∧ impl_LatestBegin a0 a1 g s o = some (n, ok, ()) := by
  unfold spec_LatestBegin impl_LatestBegin
  rw [specOrder_eq a0 a1 g s o ho, implOrder_eq a0 a1 g s o hgr ho]
  simp only [Option.bind_some]
  cases hk : orderOk a0 a1 g s o with
  | false => exact ⟨0, false, rfl, rfl⟩
  | true =>
    obtain ⟨y, q1, b, q2, q3, rfl⟩ := implLatest a0 a1 g s o hgr ho
    obtain ⟨y', r1, b', r2, r3, rfl⟩ := specLatest a0 a1 g s o ho
    have := latest_unique q3 r3 q2 r2
    subst this
    simp only [Bool.not_true, cond_false]
    rw [q1, r1]
    by_cases hb : b = -1
    · subst hb
      exact ⟨0, false, rfl, rfl⟩
    · rw [if_neg hb]
      refine ⟨b, true, ?_, rfl⟩
      simp only [Option.bind_some, Sum.elim_inl]
      rw [neg_of (by omega)]
      rfl
theorem latestBegin_true (a0 a1 : Int) (g : List (List Int)) (s : List Stp) (o : List Int) (hg : g.length ≤ 9223372036854775807) (hr : ∀ r ∈ g, r.length ≤ 9223372036854775807) (hs : s.length ≤ 9223372036854775807) : laws_FnExactLatestBegin a0 a1 g s o = some (true, ()) := by
  unfold laws_FnExactLatestBegin
  rw [gtr_len]
  cases hd : decide (1048576 < o.length) with
  | true => rfl
  | false =>
  have hd := of_decide_eq_false hd
  have ho : o.length ≤ 1073741824 := by omega
  simp only [cond_false]
  obtain ⟨b, h1, h2⟩ := szRound_eq a0 a1 g s 1048576 hg hr hs (by decide) (by decide)
  rw [h1]
  simp only [Option.bind_some]
  rcases h2 with rfl | ⟨q1, q2, q3, q4, q5⟩
  · rfl
  · rw [neg_of q1]
    have hr' : ∀ r ∈ g, r.length ≤ 1073741824 := fun r hr => by have := q4 r hr; omega
    have t := toRound_eq a0 a1 g s (by omega) hr' (by omega)
    have e := eqRound_self a0 a1 g s (by omega) hr' (by omega)
    obtain ⟨n, ok, i1, i2⟩ := latest_eq a0 a1 g s o hr' ho
    simp only [cond_false, t, e, i1, i2, toIntS_eq o ho, eqIntS_self o ho, Option.bind_some, neq_self, rBeq_self, Bool.not_true]
end Go.Fn
