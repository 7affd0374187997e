/- The program's NtName returns the name that the reference's returns, for every int. Conditions: none beside the row's own. -/
import Derived.Test.YteafcbbmajjbmaaPFnExactNtNamex1
namespace Go.Proofs.Yteafcbbmajjbmaa.Pure
open Go.RowKit Go.Proofs.Yteafcbbmajjbmaa.PFnExactNtName Go.Proofs.YteafcbbmajjbmaaW.PrintWords Go.Proofs.YteafcbbmajjbmaaW.PrintLast

theorem FnExactNtName : laws_FnExactNtName.Pure := by
  intro a0 _
  have e : spec_NtName.f a0 = impl_NtName.f a0 := rfl
  have g : ∃ s, impl_NtName.f a0 = some s := by
    unfold impl_NtName.f impl_within.f
    by_cases h1 : a0 ≥ 0
    · rw [if_pos h1]; simp only [Option.bind_some]
      by_cases h2 : a0 ≤ 10
      · rw [if_pos (by simpa using h2)]
        rw [if_pos h1, if_pos (by simp only [List.length_cons, List.length_nil]; omega)]
        exact ⟨_, rfl⟩
      · rw [if_neg (by simpa using h2)]; exact ⟨_, rfl⟩
    · rw [if_neg h1]; simp
  obtain ⟨s, hs⟩ := g
  unfold laws_FnExactNtName.f
  rw [e, hs]
  simp

end Go.Proofs.Yteafcbbmajjbmaa.Pure
