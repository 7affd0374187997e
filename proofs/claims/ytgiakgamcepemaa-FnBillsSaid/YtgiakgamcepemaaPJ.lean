import Derived.Test.YtgiakgamcepemaaPI
/- Plain functions that stand for Go functions, and what they answer: PJ. Conditions: none. -/
set_option autoImplicit false
set_option linter.unusedVariables false
set_option linter.unusedSimpArgs false
/-! PJ: a network as a whole; the secret. -/
set_option linter.unusedSimpArgs false
namespace Go.Fn
open Go.R
abbrev Prc := Int × Int × Int × Int × Int × Int × Int × Int × Int × Int × Int × Int × Int
abbrev Grt := Int × Int × Int × Int × Int × Int × Bool
/-- The lists of a network: sites, parcels, grants, the journal. -/
structure netWf (s : List Site) (p : List Prc) (g : List Grt) (j : List Ev) : Prop where
  ls : s.length ≤ 9223372036854775807
  ss : ∀ x ∈ s, siteWf x
  lp : p.length ≤ 9223372036854775807
  lg : g.length ≤ 9223372036854775807
  lj : j.length ≤ 9223372036854775807
structure netLe (s : List Site) (p : List Prc) (g : List Grt) (j : List Ev) : Prop where
  ls : s.length ≤ 1048576
  ss : ∀ n, n < s.length → siteLe 1073741824 (s.getD n zSite)
  lp : p.length ≤ 1048576
  lg : g.length ≤ 1048576
  lj : j.length ≤ 1048576
theorem szSiteS_len (s : List Site) (a b : Int) (hs : s.length ≤ 9223372036854775807) (ha : 0 ≤ a) (ha' : a ≤ 1048576) (h : laws_szSiteS s a = some (b, ())) (hb : 0 ≤ b) : s.length ≤ 1048576 := by
  unfold laws_szSiteS at h
  have h1 : rArith .sub .i64 a (rLen s) = a - (s.length : Int) := sub64 (by unfold rLen; omega) (by unfold rLen; omega)
  have h2 : rCmp .lss (a - (s.length : Int)) 0 = decide (a < (s.length : Int)) := by simp only [rCmp, decide_eq_decide]; omega
  rw [h1, h2] at h
  cases hd : decide (a < (s.length : Int)) with
  | true =>
    rw [hd] at h
    simp only [cond_true, Option.some.injEq, Prod.mk.injEq] at h
    omega
  | false =>
    have hd := of_decide_eq_false hd
    omega
section
variable (a0 a1 a2 a3 a4 a5 a6 a7 a8 a9 a10 : Int) (s : List Site) (p : List Prc) (g : List Grt) (j : List Ev)
theorem toNetwork_eq (h : netLe s p g j) : laws_toNetwork a0 a1 a2 a3 a4 a5 a6 a7 a8 a9 a10 s p g j = some (a0, a1, a2, a3, a4, a5, a6, a7, a8, a9, a10, s, p, g, j, ()) := by
  have h1 := h.ls; have h2 := h.lp; have h3 := h.lg; have h4 := h.lj
  unfold laws_toNetwork
  simp only [toTerms_eq, toSiteS_eq s (by omega) h.ss, toParcelS_eq p (by omega), toGrantS_eq g (by omega), toEvS_eq j (by omega), Option.bind_some]
theorem eqNetwork_self (h : netLe s p g j) : laws_eqNetwork a0 a1 a2 a3 a4 a5 a6 a7 a8 a9 a10 s p g j a0 a1 a2 a3 a4 a5 a6 a7 a8 a9 a10 s p g j = some (true, ()) := by
  have h1 := h.ls; have h2 := h.lp; have h3 := h.lg; have h4 := h.lj
  unfold laws_eqNetwork
  simp only [eqTerms_self, neq_self, eqSiteS_self s (by omega) h.ss, eqParcelS_self p (by omega), eqGrantS_self g (by omega), eqEvS_self j (by omega), Option.bind_some, Bool.not_true, cond_false]
theorem szNetwork_eq (a : Int) (h : netWf s p g j) (ha : 0 ≤ a) (ha' : a ≤ 1048576) :
    ∃ b, laws_szNetwork a0 a1 a2 a3 a4 a5 a6 a7 a8 a9 a10 s p g j a = some (b, ()) ∧ (b = -1 ∨ (0 ≤ b ∧ b ≤ a ∧ netLe s p g j)) := by
  unfold laws_szNetwork
  obtain ⟨b, e1, e2⟩ := szSiteS_eq s a h.ls h.ss ha ha'
  rw [e1]
  simp only [Option.bind_some]
  rcases e2 with rfl | ⟨b0, b1, b2, b3⟩
  · exact ⟨-1, rfl, .inl rfl⟩
  · rw [neg_of b0]
    simp only [cond_false]
    rw [szParcelS_eq p b h.lp b0 (by omega)]
    simp only [Option.bind_some]
    cases hd : decide (b < (p.length : Int)) with
    | true => exact ⟨-1, rfl, .inl rfl⟩
    | false =>
      have hd := of_decide_eq_false hd
      simp only [cond_false]
      rw [neg_of (by omega)]
      simp only [cond_false]
      rw [szGrantS_eq g _ h.lg (by omega) (by omega)]
      simp only [Option.bind_some]
      cases hd2 : decide (b - (p.length : Int) < (g.length : Int)) with
      | true => exact ⟨-1, rfl, .inl rfl⟩
      | false =>
        have hd2 := of_decide_eq_false hd2
        simp only [cond_false]
        rw [neg_of (by omega)]
        simp only [cond_false]
        rw [szEvS_eq j _ h.lj (by omega) (by omega)]
        simp only [Option.bind_some]
        cases hd3 : decide (b - (p.length : Int) - (g.length : Int) < (j.length : Int)) with
        | true => exact ⟨-1, rfl, .inl rfl⟩
        | false =>
          have hd3 := of_decide_eq_false hd3
          simp only [cond_false]
          rw [neg_of (by omega)]
          refine ⟨_, rfl, .inr ⟨by omega, by omega, ⟨?_, b3, by omega, by omega, by omega⟩⟩⟩
          exact szSiteS_len s a b h.ls ha ha' e1 b0
theorem secret_eq (n : Int) : ∃ y, spec_SecretOf a0 a1 a2 a3 a4 a5 a6 a7 a8 a9 a10 s p g j n = some (y, ()) ∧ impl_SecretOf a0 a1 a2 a3 a4 a5 a6 a7 a8 a9 a10 s p g j n = some (y, ()) := by
  unfold spec_SecretOf impl_SecretOf spec_l03Secret impl_secretOk
  simp only [in_eq, within_eq, Option.bind_some]
  have hz : rIsZero (2147483646 : Int) = false := rfl
  cases inB a9 1 2147483646 with
  | false => exact ⟨_, rfl, rfl⟩
  | true =>
    cases inB n 1 12 with
    | false => exact ⟨_, rfl, rfl⟩
    | true => simp only [hz]; exact ⟨_, rfl, rfl⟩
theorem secretOf_true (n : Int) (h : netWf s p g j) : laws_FnExactSecretOf a0 a1 a2 a3 a4 a5 a6 a7 a8 a9 a10 s p g j n = some (true, ()) := by
  unfold laws_FnExactSecretOf
  obtain ⟨b, h1, h2⟩ := szNetwork_eq a0 a1 a2 a3 a4 a5 a6 a7 a8 a9 a10 s p g j 1048576 h (by decide) (by decide)
  rw [h1]
  simp only [Option.bind_some]
  rcases h2 with rfl | ⟨b0, b1, hle⟩
  · rfl
  · rw [neg_of b0]
    have t := toNetwork_eq a0 a1 a2 a3 a4 a5 a6 a7 a8 a9 a10 s p g j hle
    have e := eqNetwork_self a0 a1 a2 a3 a4 a5 a6 a7 a8 a9 a10 s p g j hle
    obtain ⟨y, y1, y2⟩ := secret_eq a0 a1 a2 a3 a4 a5 a6 a7 a8 a9 a10 s p g j n
    simp only [cond_false, t, e, y1, y2, Option.bind_some, neq_self, Bool.not_true]
end
end Go.Fn
