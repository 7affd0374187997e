import Derived.Test.YtgiakgamcepemaaPE
/- Plain functions that stand for Go functions, and what they answer: PF. Conditions: none. -/
set_option autoImplicit false
set_option linter.unusedVariables false
set_option linter.unusedSimpArgs false
/-! PF: rides. -/
set_option linter.unusedSimpArgs false
namespace Go.Fn
open Go.R
theorem subadd (a b c : Int) : rArith .sub .i64 (rArith .add .i64 a b) c = rArith .add .i64 a (rArith .sub .i64 b c) := by
  show IntKind.i64.wrap (IntKind.i64.wrap (a + b) - c) = IntKind.i64.wrap (a + IntKind.i64.wrap (b - c))
  simp only [IntKind.wrap_i64]
  omega
theorem addsub (a b c : Int) : rArith .add .i64 (rArith .sub .i64 a b) c = rArith .add .i64 a (rArith .sub .i64 c b) := by
  show IntKind.i64.wrap (IntKind.i64.wrap (a - b) + c) = IntKind.i64.wrap (a + IntKind.i64.wrap (c - b))
  simp only [IntKind.wrap_i64]
  omega
/-- Where a ride stands: load, begins, end, peak, wait, place. -/
abbrev RSt := Int × List Int × Int × Int × Int × Int
def arr (g : List (List Int)) (st : RSt) (i : Int) : Int := rArith .add .i64 st.2.2.1 (rGet zI (rGet zLIl g st.2.2.2.2.2) (rArith .add .i64 i 1))
def load1 (s : List Stp) (l i : Int) : Int := rArith .add .i64 l (rGet zIIIII s i).2.2.2.1
def next (g : List (List Int)) (s : List Stp) (st : RSt) (i : Int) : RSt :=
  (rArith .add .i64 st.1 (rArith .sub .i64 (rGet zIIIII s i).2.2.2.2 (rGet zIIIII s i).2.2.2.1),
   st.2.1 ++ [rMxmn true (arr g st i) (rGet zIIIII s i).1],
   rArith .add .i64 (rMxmn true (arr g st i) (rGet zIIIII s i).1) (rGet zIIIII s i).2.2.1,
   rMxmn true st.2.2.2.1 (rArith .add .i64 st.1 (rArith .sub .i64 (rGet zIIIII s i).2.2.2.2 (rGet zIIIII s i).2.2.2.1)),
   rArith .add .i64 st.2.2.2.2.1 (rArith .sub .i64 (rMxmn true (arr g st i) (rGet zIIIII s i).1) (arr g st i)),
   rArith .add .i64 i 1)
def late (g : List (List Int)) (s : List Stp) (st : RSt) (i : Int) : Bool := rCmp .gtr (arr g st i) (rGet zIIIII s i).2.1
def stepR {Y : Type} (g : List (List Int)) (s : List Stp) (f : RSt → Y) (st : RSt) (i : Int) : RSt ⊕ Y := bif late g s st i then .inr (f st) else .inl (next g s st i)
def rideGo (g : List (List Int)) (s : List Stp) : List Int → RSt → RSt ⊕ RSt
  | [], st => .inl st
  | i :: o, st => bif late g s st i then .inr st else rideGo g s o (next g s st i)
theorem runL_go {Y : Type} (g : List (List Int)) (s : List Stp) (f fin : RSt → Y) : ∀ (o : List Int) (st : RSt), runL (stepR g s f) fin o st = match rideGo g s o st with | .inl st' => fin st' | .inr st' => f st'
  | [], st => rfl
  | i :: o, st => by
    simp only [runL, rideGo, stepR]
    cases late g s st i with
    | true => rfl
    | false => exact runL_go g s f fin o _
def load0 (s : List Stp) (o : List Int) : Int := o.foldl (load1 s) 0
def start (a0 : Int) (s : List Stp) (o : List Int) : RSt := (load0 s o, [], a0, load0 s o, 0, 0)
def home (g : List (List Int)) (o : List Int) (st : RSt) : Int := rArith .add .i64 st.2.2.1 (rArith .mul .i64 (rGet zI (rGet zLIl g st.2.2.2.2.2) 0) (rMxmn false 1 (rLen o)))
def ride (a0 a1 : Int) (g : List (List Int)) (s : List Stp) (o : List Int) : Option (List Int × Int × Int × Int) :=
  bif orderOk a0 a1 g s o then
    match rideGo g s o (start a0 s o) with
    | .inr _ => none
    | .inl st => bif rCmp .gtr st.2.2.2.1 a1 then none else some (st.2.1, home g o st, st.2.2.2.1, st.2.2.2.2.1)
  else none
theorem orderOk_round {a0 a1 : Int} {g : List (List Int)} {s : List Stp} {o : List Int} (h : orderOk a0 a1 g s o = true) : roundOk a0 a1 g s = true := by
  unfold orderOk at h; rw [Bool.and_eq_true] at h; exact h.1
theorem orderOk_at {a0 a1 : Int} {g : List (List Int)} {s : List Stp} {o : List Int} (h : orderOk a0 a1 g s o = true) {n : Nat} (hn : n < o.length) : 0 ≤ o.getD n zI ∧ o.getD n zI < (s.length : Int) := by
  have hr := roundOk_rows (orderOk_round h)
  unfold orderOk at h
  rw [Bool.and_eq_true] at h
  have := (allFrom_iff _ _).1 h.2 n (Nat.zero_le _) (by omega)
  unfold ordAt at this
  rw [Bool.and_eq_true, inB_iff] at this
  have e : rArith .sub .i64 (rLen s) 1 = (s.length : Int) - 1 := sub64 (by unfold rLen; omega) (by unfold rLen; omega)
  rw [e] at this
  omega
structure InvR (g : List (List Int)) (n : Nat) (st : RSt) : Prop where
  lo : 0 ≤ st.2.2.2.2.2
  hi : st.2.2.2.2.2 < (g.length : Int)
  len : st.2.1.length = n
section
variable {a0 a1 : Int} {g : List (List Int)} {s : List Stp} {o : List Int}
theorem at_facts (h : orderOk a0 a1 g s o = true) {n : Nat} (hn : n < o.length) {st : RSt} (hi : InvR g n st) (ho : o.length ≤ 1073741824) :
    rInR s (o.getD n zI) = true ∧ rInR g st.2.2.2.2.2 = true ∧ rInR (rGet zLIl g st.2.2.2.2.2) (rArith .add .i64 (o.getD n zI) 1) = true ∧ rInR (rGet zLIl g st.2.2.2.2.2) 0 = true ∧
    (∀ v : Int, rSmall (List.append st.2.1 (List.append [] [v])) = true) ∧ InvR g (n + 1) (next g s st (o.getD n zI)) := by
  obtain ⟨h6, hg, hrow, _, _, _⟩ := roundOk_rows (orderOk_round h)
  obtain ⟨i0, i1⟩ := orderOk_at h hn
  have hp := hi.hi
  have hp0 := hi.lo
  have hr := (hrow st.2.2.2.2.2.toNat (by omega)).1
  have e1 : rArith .add .i64 (o.getD n zI) 1 = o.getD n zI + 1 := add1 i0 (by omega)
  have hrl : (rGet zLIl g st.2.2.2.2.2).length = g.length := hr
  have hl := hi.len
  refine ⟨inR_iff i0 i1, inR_iff hp0 hp, ?_, inR_iff (Int.le_refl 0) (by rw [hrl]; omega), fun v => small_of (by show (st.2.1 ++ ([] ++ [v])).length ≤ _; simp; omega), ?_, ?_, ?_⟩
  · rw [e1]; exact inR_iff (by omega) (by rw [hrl]; omega)
  · show 0 ≤ rArith .add .i64 (o.getD n zI) 1; rw [e1]; omega
  · show rArith .add .i64 (o.getD n zI) 1 < _; rw [e1]; omega
  · show (st.2.1 ++ [_]).length = n + 1; simp [hl]
theorem start_inv (h : orderOk a0 a1 g s o = true) : InvR g 0 (start a0 s o) := by
  obtain ⟨h6, hg, _, _, _, _⟩ := roundOk_rows (orderOk_round h)
  exact ⟨Int.le_refl 0, by show (0 : Int) < _; omega, rfl⟩
/-- The first stretch: what is loaded. -/
theorem implLoad (h : orderOk a0 a1 g s o = true) (ho : o.length ≤ 1073741824) : impl_ride_l0 (o, a0, a1, g, s, o, rLen o, ()) ([], 0, 0, 0, 0, 0, ()) = some (Sum.inl ([], 0, 0, 0, load0 s o, ())) := by
  refine (loop_fold (body := impl_ride_b0 (o, a0, a1, g, s, o, rLen o, ())) o zI (by omega) (load1 s) (fun l n => ([], 0, 0, 0, l, (n : Int), ())) (fun _ _ => True) (fun l => Sum.inl ([], 0, 0, 0, l, ())) (fun n l hn _ => ⟨?_, trivial⟩) (fun l _ => ?_) 0 trivial).1
  · obtain ⟨i0, i1⟩ := orderOk_at h hn
    unfold impl_ride_b0 load1
    simp only [lss_len, inR_nat, get_nat, hn, decide_true, cond_true, inR_iff i0 i1, succ64 (n := n) (by omega)]
  · unfold impl_ride_b0
    simp only [lss_len, Nat.lt_irrefl, decide_false, cond_false]
theorem specLoad (h : orderOk a0 a1 g s o = true) (ho : o.length ≤ 1073741824) : spec_l07Drive_l0 (o, a0, a1, g, s, ()) ([], 0, 0, 0, [], a0, 0, 0, 0, 0, ()) = some (Sum.inl ([], 0, 0, 0, [], a0, 0, 0, load0 s o, ())) := by
  refine (loop_fold (body := spec_l07Drive_b0 (o, a0, a1, g, s, ())) o zI (by omega) (load1 s) (fun l n => ([], 0, 0, 0, [], a0, 0, 0, l, (n : Int), ())) (fun _ _ => True) (fun l => Sum.inl ([], 0, 0, 0, [], a0, 0, 0, l, ())) (fun n l hn _ => ⟨?_, trivial⟩) (fun l _ => ?_) 0 trivial).1
  · obtain ⟨i0, i1⟩ := orderOk_at h hn
    unfold spec_l07Drive_b0 load1
    simp only [lss_len, inR_nat, get_nat, hn, decide_true, cond_true, inR_iff i0 i1, succ64 (n := n) (by omega)]
  · unfold spec_l07Drive_b0
    simp only [lss_len, Nat.lt_irrefl, decide_false, cond_false]
theorem implWay (h : orderOk a0 a1 g s o = true) (ho : o.length ≤ 1073741824) : impl_ride_l2 (o, a0, a1, g, s, o, rLen o, ()) ([], 0, 0, 0, load0 s o, [], a0, load0 s o, 0, 0, 0, ()) =
    some (match rideGo g s o (start a0 s o) with | .inl st => Sum.inr (Sum.inl ([], 0, 0, 0, st.2.1, st.2.2.1, st.2.2.2.1, st.2.2.2.2.1, st.2.2.2.2.2, ())) | .inr _ => Sum.inl ([], 0, 0, 0, false, ())) := by
  rw [← runL_go g s (fun _ => Sum.inl ([], 0, 0, 0, false, ())) (fun st => Sum.inr (Sum.inl ([], 0, 0, 0, st.2.1, st.2.2.1, st.2.2.2.1, st.2.2.2.2.1, st.2.2.2.2.2, ())))]
  refine loop_run (body := impl_ride_b2 (o, a0, a1, g, s, o, rLen o, ())) o zI (by omega) (fun st n => ([], 0, 0, 0, st.1, st.2.1, st.2.2.1, st.2.2.2.1, st.2.2.2.2.1, st.2.2.2.2.2, (n : Int), ())) _ _ (InvR g) (fun n st hn hi => ?_) (fun st hi => ?_) (start a0 s o) (start_inv h)
  · obtain ⟨f1, f2, f3, _, f5, f6⟩ := at_facts h hn hi ho
    refine ⟨?_, fun b hb => ?_⟩
    · unfold impl_ride_b2 stepR
      simp only [lss_len, inR_nat, get_nat, hn, decide_true, cond_true, f1, f2, f3, f5, lets_def, succ64 (n := n) (by omega)]
      show (bif late g s st (o.getD n zI) then _ else _) = _
      cases late g s st (o.getD n zI) <;> rfl
    · unfold stepR at hb
      cases hl : late g s st (o.getD n zI) with
      | true => rw [hl] at hb; cases hb
      | false => rw [hl] at hb; injection hb with hb; subst hb; exact f6
  · unfold impl_ride_b2
    simp only [lss_len, Nat.lt_irrefl, decide_false, cond_false]
theorem specWay (h : orderOk a0 a1 g s o = true) (ho : o.length ≤ 1073741824) : spec_l07Drive_l2 (o, a0, a1, g, s, ()) ([], 0, 0, 0, [], a0, load0 s o, 0, load0 s o, 0, 0, ()) =
    some (match rideGo g s o (start a0 s o) with | .inl st => Sum.inr (Sum.inl ([], 0, 0, 0, st.2.1, st.2.2.1, st.2.2.2.1, st.2.2.2.2.1, st.2.2.2.2.2, ())) | .inr st => Sum.inl (st.2.1, st.2.2.1, st.2.2.2.1, st.2.2.2.2.1, false, ())) := by
  rw [← runL_go g s (fun st => Sum.inl (st.2.1, st.2.2.1, st.2.2.2.1, st.2.2.2.2.1, false, ())) (fun st => Sum.inr (Sum.inl ([], 0, 0, 0, st.2.1, st.2.2.1, st.2.2.2.1, st.2.2.2.2.1, st.2.2.2.2.2, ())))]
  refine loop_run (body := spec_l07Drive_b2 (o, a0, a1, g, s, ())) o zI (by omega) (fun st n => ([], 0, 0, 0, st.2.1, st.2.2.1, st.2.2.2.1, st.2.2.2.2.1, st.1, st.2.2.2.2.2, (n : Int), ())) _ _ (InvR g) (fun n st hn hi => ?_) (fun st hi => ?_) (start a0 s o) (start_inv h)
  · obtain ⟨f1, f2, f3, _, f5, f6⟩ := at_facts h hn hi ho
    refine ⟨?_, fun b hb => ?_⟩
    · unfold spec_l07Drive_b2 stepR
      simp only [lss_len, inR_nat, get_nat, hn, decide_true, cond_true, f1, f2, f3, f5, lets_def, succ64 (n := n) (by omega), subadd, addsub]
      show (bif late g s st (o.getD n zI) then _ else _) = _
      cases late g s st (o.getD n zI) <;> rfl
    · unfold stepR at hb
      cases hl : late g s st (o.getD n zI) with
      | true => rw [hl] at hb; cases hb
      | false => rw [hl] at hb; injection hb with hb; subst hb; exact f6
  · unfold spec_l07Drive_b2
    simp only [lss_len, Nat.lt_irrefl, decide_false, cond_false]
theorem go_inv (h : orderOk a0 a1 g s o = true) (ho : o.length ≤ 1073741824) : ∀ (k n : Nat) (st st' : RSt), n + k = o.length → InvR g n st → rideGo g s (o.drop n) st = .inl st' → InvR g o.length st'
  | 0, n, st, st', hk, hi, hg => by
    have : n = o.length := by omega
    subst this
    rw [List.drop_length] at hg
    injection hg with hg
    subst hg
    exact hi
  | k + 1, n, st, st', hk, hi, hg => by
    have hn : n < o.length := by omega
    rw [drop_getD hn zI] at hg
    simp only [rideGo] at hg
    cases hl : late g s st (o.getD n zI) with
    | true => rw [hl] at hg; cases hg
    | false =>
      rw [hl] at hg
      exact go_inv h ho k (n + 1) _ st' (by omega) (at_facts h hn hi ho).2.2.2.2.2 hg
theorem home_facts (h : orderOk a0 a1 g s o = true) {st : RSt} {n : Nat} (hi : InvR g n st) : rInR g st.2.2.2.2.2 = true ∧ rInR (rGet zLIl g st.2.2.2.2.2) 0 = true ∧ 0 ≤ rGet zI (rGet zLIl g st.2.2.2.2.2) 0 ∧ rGet zI (rGet zLIl g st.2.2.2.2.2) 0 ≤ 200 := by
  obtain ⟨h6, hg, hrow, _, _, _⟩ := roundOk_rows (orderOk_round h)
  have hp := hi.hi
  have hp0 := hi.lo
  obtain ⟨hr, hv⟩ := hrow st.2.2.2.2.2.toNat (by omega)
  have hv := hv 0 (by omega)
  exact ⟨inR_iff hp0 hp, inR_iff (Int.le_refl 0) (by show (0 : Int) < ((g.getD st.2.2.2.2.2.toNat zLIl).length : Int); omega), hv.1, hv.2⟩
end
theorem implRide_eq (a0 a1 : Int) (g : List (List Int)) (s : List Stp) (o : List Int) (hgr : ∀ r ∈ g, r.length ≤ 1073741824) (ho : o.length ≤ 1073741824) :
    impl_ride a0 a1 g s o = some (match ride a0 a1 g s o with | some (b, e, p, w) => (b, e, p, w, true, ()) | none => ([], 0, 0, 0, false, ())) := by
  unfold impl_ride ride
  rw [implOrder_eq a0 a1 g s o hgr ho]
  simp only [Option.bind_some]
  cases hk : orderOk a0 a1 g s o with
  | false => rfl
  | true =>
    simp only [Bool.not_true, cond_false, cond_true]
    rw [implLoad hk ho]
    simp only [Option.bind_some, Sum.elim_inl]
    rw [implWay hk ho]
    cases hgo : rideGo g s o (start a0 s o) with
    | inr st => rfl
    | inl st =>
      have hi := go_inv hk ho o.length 0 _ st (by omega) (start_inv hk) (by rw [List.drop_zero]; exact hgo)
      obtain ⟨f1, f2, _, _⟩ := home_facts hk hi
      simp only [Option.bind_some, Sum.elim_inl, Sum.elim_inr, f1, f2, cond_true]
      cases rCmp .gtr st.2.2.2.1 a1 <;> rfl
theorem leq_not (a b : Int) : rCmp .leq a b = Bool.not (rCmp .gtr a b) := by rw [gtr_not, Bool.not_not]
theorem specRide_eq (a0 a1 : Int) (g : List (List Int)) (s : List Stp) (o : List Int) (ho : o.length ≤ 1073741824) :
    ∃ y, spec_l07Drive a0 a1 g s o = some y ∧ match ride a0 a1 g s o with | some (b, e, p, w) => y = (b, e, p, w, true, ()) | none => y.2.2.2.2.1 = false := by
  unfold spec_l07Drive ride
  rw [specOrder_eq a0 a1 g s o ho]
  simp only [Option.bind_some]
  cases hk : orderOk a0 a1 g s o with
  | false => exact ⟨_, rfl, rfl⟩
  | true =>
    simp only [Bool.not_true, cond_false, cond_true]
    rw [specLoad hk ho]
    simp only [Option.bind_some, Sum.elim_inl]
    rw [specWay hk ho]
    cases hgo : rideGo g s o (start a0 s o) with
    | inr st => exact ⟨_, rfl, rfl⟩
    | inl st =>
      have hi := go_inv hk ho o.length 0 _ st (by omega) (start_inv hk) (by rw [List.drop_zero]; exact hgo)
      obtain ⟨f1, f2, f3, f4⟩ := home_facts hk hi
      obtain ⟨_, _, _, _, ha0, _⟩ := roundOk_rows (orderOk_round hk)
      simp only [Option.bind_some, Sum.elim_inl, Sum.elim_inr, f1, f2, cond_true, leq_not]
      have hhome : home g o st = bif rCmp .gtr (rLen o) 0 then rArith .add .i64 st.2.2.1 (rGet zI (rGet zLIl g st.2.2.2.2.2) 0) else st.2.2.1 := by
        unfold home
        cases o with
        | nil =>
          have : st = start a0 s [] := by injection hgo with hgo; exact hgo.symm
          subst this
          show rArith .add .i64 a0 (rArith .mul .i64 _ 0) = a0
          have hm : ∀ x : Int, rArith .mul .i64 x 0 = 0 := fun x => by rw [mul64] <;> simp
          rw [hm, add64 (by omega) (by omega)]
          omega
        | cons i o =>
          have h1 : rMxmn false 1 (rLen (i :: o)) = 1 := by
            unfold rMxmn rLen
            simp only [cond_false]
            rw [if_neg (by simp only [List.length_cons]; omega)]
          have h2 : rCmp .gtr (rLen (i :: o)) 0 = true := by simp [rCmp, rLen]
          rw [h1, h2, mul64 (by omega) (by omega)]
          simp
      rw [hhome]
      cases rCmp .gtr (rLen o) 0 <;> cases rCmp .gtr st.2.2.2.1 a1 <;> exact ⟨_, rfl, rfl⟩
def peakOf (r : Option (List Int × Int × Int × Int)) : Int := match r with | some (_, _, p, _) => p | none => -1
def waitOf (r : Option (List Int × Int × Int × Int)) : Int := match r with | some (_, _, _, w) => w | none => -1
theorem specPeak_eq (a0 a1 : Int) (g : List (List Int)) (s : List Stp) (o : List Int) (ho : o.length ≤ 1073741824) : spec_PeakOf a0 a1 g s o = some (peakOf (ride a0 a1 g s o), ()) := by
  unfold spec_PeakOf
  obtain ⟨y, h1, h2⟩ := specRide_eq a0 a1 g s o ho
  rw [h1]
  simp only [Option.bind_some]
  cases hr : ride a0 a1 g s o with
  | none => rw [hr] at h2; simp only at h2; rw [h2]; rfl
  | some q => obtain ⟨b, e, p, w⟩ := q; rw [hr] at h2; simp only at h2; rw [h2]; rfl
theorem implPeak_eq (a0 a1 : Int) (g : List (List Int)) (s : List Stp) (o : List Int) (hgr : ∀ r ∈ g, r.length ≤ 1073741824) (ho : o.length ≤ 1073741824) : impl_PeakOf a0 a1 g s o = some (peakOf (ride a0 a1 g s o), ()) := by
  unfold impl_PeakOf
  rw [implRide_eq a0 a1 g s o hgr ho]
  simp only [Option.bind_some]
  cases ride a0 a1 g s o with
  | none => rfl
  | some q => obtain ⟨b, e, p, w⟩ := q; rfl
theorem specWait_eq (a0 a1 : Int) (g : List (List Int)) (s : List Stp) (o : List Int) (ho : o.length ≤ 1073741824) : spec_WaitOf a0 a1 g s o = some (waitOf (ride a0 a1 g s o), ()) := by
  unfold spec_WaitOf
  obtain ⟨y, h1, h2⟩ := specRide_eq a0 a1 g s o ho
  rw [h1]
  simp only [Option.bind_some]
  cases hr : ride a0 a1 g s o with
  | none => rw [hr] at h2; simp only at h2; rw [h2]; rfl
  | some q => obtain ⟨b, e, p, w⟩ := q; rw [hr] at h2; simp only at h2; rw [h2]; rfl
theorem implWait_eq (a0 a1 : Int) (g : List (List Int)) (s : List Stp) (o : List Int) (hgr : ∀ r ∈ g, r.length ≤ 1073741824) (ho : o.length ≤ 1073741824) : impl_WaitOf a0 a1 g s o = some (waitOf (ride a0 a1 g s o), ()) := by
  unfold impl_WaitOf
  rw [implRide_eq a0 a1 g s o hgr ho]
  simp only [Option.bind_some]
  cases ride a0 a1 g s o with
  | none => rfl
  | some q => obtain ⟨b, e, p, w⟩ := q; rfl
theorem peakOf_true (a0 a1 : Int) (g : List (List Int)) (s : List Stp) (o : List Int) (hg : g.length ≤ 9223372036854775807) (hr : ∀ r ∈ g, r.length ≤ 9223372036854775807) (hs : s.length ≤ 9223372036854775807) : laws_FnExactPeakOf a0 a1 g s o = some (true, ()) := by
  unfold laws_FnExactPeakOf
  rw [gtr_len]
  cases hd : decide (1048576 < o.length) with
  | true => rfl
  | false =>
  have hd := of_decide_eq_false hd
  have ho : o.length ≤ 1073741824 := by omega
  simp only [cond_false]
  obtain ⟨b, h1, h2⟩ := szRound_eq a0 a1 g s 1048576 hg hr hs (by decide) (by decide)
  rw [h1]
  simp only [Option.bind_some]
  rcases h2 with rfl | ⟨q1, q2, q3, q4, q5⟩
  · rfl
  · rw [neg_of q1]
    have hr' : ∀ r ∈ g, r.length ≤ 1073741824 := fun r hr => by have := q4 r hr; omega
    have t := toRound_eq a0 a1 g s (by omega) hr' (by omega)
    have e := eqRound_self a0 a1 g s (by omega) hr' (by omega)
    have i := implPeak_eq a0 a1 g s o hr' ho
    simp only [cond_false, t, e, i, toIntS_eq o ho, eqIntS_self o ho, Option.bind_some, specPeak_eq a0 a1 g s o ho, neq_self, Bool.not_true]
theorem waitOf_true (a0 a1 : Int) (g : List (List Int)) (s : List Stp) (o : List Int) (hg : g.length ≤ 9223372036854775807) (hr : ∀ r ∈ g, r.length ≤ 9223372036854775807) (hs : s.length ≤ 9223372036854775807) : laws_FnExactWaitOf a0 a1 g s o = some (true, ()) := by
  unfold laws_FnExactWaitOf
  rw [gtr_len]
  cases hd : decide (1048576 < o.length) with
  | true => rfl
  | false =>
  have hd := of_decide_eq_false hd
  have ho : o.length ≤ 1073741824 := by omega
  simp only [cond_false]
  obtain ⟨b, h1, h2⟩ := szRound_eq a0 a1 g s 1048576 hg hr hs (by decide) (by decide)
  rw [h1]
  simp only [Option.bind_some]
  rcases h2 with rfl | ⟨q1, q2, q3, q4, q5⟩
  · rfl
  · rw [neg_of q1]
    have hr' : ∀ r ∈ g, r.length ≤ 1073741824 := fun r hr => by have := q4 r hr; omega
    have t := toRound_eq a0 a1 g s (by omega) hr' (by omega)
    have e := eqRound_self a0 a1 g s (by omega) hr' (by omega)
    have i := implWait_eq a0 a1 g s o hr' ho
    simp only [cond_false, t, e, i, toIntS_eq o ho, eqIntS_self o ho, Option.bind_some, specWait_eq a0 a1 g s o ho, neq_self, Bool.not_true]
end Go.Fn
