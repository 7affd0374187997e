/- For every argument the law FnBestRides returns true and leaves its arguments as they were. Conditions: none beyond the row's. -/
import Derived.Test.YtnadnafggjopmaaRows
import Derived.Test.YtnadnafggjopmaaJ
import Derived.Test.YtnadnafggjopmaaFnBestRidesKA
import Derived.WalkKit
import Derived.ProofKit
import Derived.OpenShut
import Derived.ShutString
import Derived.ChangeOld
import Derived.Below
import Derived.SizedLaws
import Derived.KernelRfl
set_option linter.unusedVariables false
set_option linter.unusedSimpArgs false
namespace Go.Proofs.Ytnadnafggjopmaa.fnBestRides
open Go.R Go.Fn
open Go.ChangeShapes Go.WideShapes Go.ChangeAt Go.RowKit
set_option maxRecDepth 100000
theorem law_all (x : KTs real ((F_laws_FnBestRides.args.map Sh.ks).flatten)) (hx : KTs.wf _ x) : ∃ y, F_laws_FnBestRides.fn x = some y ∧ (ofKTs _ y).head? = some ⟨.val .bool, (true : Bool)⟩ := ⟨(true, ()), bestRides_true x.1, rfl⟩
open whole
theorem ok_sh : parShs Try.prog [74] = some F_laws_FnBestRides.args := by kernel_rfl
theorem lifted (os : Os) (started : os.Started) (H : Type) (enc : TypeId × Value → H) :
    ReturnsInHanded {} Try.checked os 7 .any (Rows.fnBestRidesSpec.pre6 enc Try.prog Try.f7 Rows.fnBestRidesRow.domain false) (Rows.fnBestRidesSpec.post enc Try.prog Try.f7 false true false false) := by
  refine returnsInHanded_of_change_sized (C := Try.checked) own started (by kernel_rfl) Try.func7
    (ChangeSpec.witness6 (enc := enc) (C := Try.checked) false ⟨#[], #[.slice none 0 0], []⟩ 8 (by kernel_rfl) (by kernel_rfl) (by kernel_rfl) (by kernel_rfl)) ?_
  intro W base args ds gs before hval0 hW hcnd hsz0 _
  have hval : ∀ (j : Nat) t v, Try.f7.params[j]? = some t → args[j]? = some v → Value.okWide Try.prog W .any base t v := hval0
  have hW' := hW
  obtain ⟨p, q, hA0, hV, rfl, hfz, hnd⟩ := hW
  have hA : DataW.TrodAll enc Try.prog W 0 (fun _ => true) true Try.f7.params.toList args.toList ds p := hA0
  rw [Try.params7] at hA hval
  obtain ⟨rfl, rfl⟩ := trodVars_none hV
  have hA1 : DataW.TrodAll enc Try.prog W 0 (fun _ => true) true [74] args.toList ds p := hA
  obtain ⟨v0, vs0, d0, ds0, p0, q0, hargs0, hds0, hp0, h0, r0⟩ := trodAll_cons hA1
  obtain ⟨e1, e2, e3⟩ := trodAll_nil r0
  subst e1 e2 e3 hds0
  have hc := law_calls (b0 := base) ok_laws_FnBestRides ok_sh rfl rfl law_all (fun j t v hj hv => hval j t v (by simpa using hj) (by simpa using hv)) hA1
  have hargs' : args.toList.toArray = args := by simp
  rw [hargs'] at hc
  refine hc.mono fun e W' ⟨he, bel⟩ => ?_
  subst he
  exact ⟨_, rfl, _, _, _, [], _, [], hW', trodAll_mk1 (shut_bool Try.underlying4 _), args_again laid rowed full (by kernel_rfl) bel hA1, rfl, bel.frame _, fun h => by cases h⟩
theorem facts : joinedFacts Try.prog 7 Try.f7 Rows.fnBestRidesSpec Rows.fnBestRidesRow = true := by
  unfold joinedFacts
  rw [laid, rowed, stops, knobs, keys, heard, may, lifts, made]
  kernel_rfl
theorem over : Rows.fnBestRidesRow.holds Try.pinned (OpenSpec.ofChange Rows.fnBestRidesSpec) :=
  OpenClaim.holds_of_wide 7 Try.f7 rfl rfl rfl rfl rfl rfl rfl ⟨rfl, rfl, rfl, rfl, rfl⟩ rfl rfl rfl rfl rfl (by kernel_rfl) Try.func7 facts
    (of_decide_eq_true (by kernel_rfl)) (by unfold Func.isWrapper; first | (rw [if_pos (by decide +kernel)]; kernel_rfl) | (rw [if_neg (by decide +kernel)]; exact ⟨rfl, rfl⟩))
    (fun os started H enc _ => lifted os started H enc)
theorem proved : Rows.FnBestRidesSaid := over
#print axioms proved
end Go.Proofs.Ytnadnafggjopmaa.fnBestRides
namespace Go.Proofs.Ytnadnafggjopmaa
/-- The row, under a short name, for the claim. -/
theorem fnBestRides_holds : Rows.FnBestRidesSaid := fnBestRides.proved
end Go.Proofs.Ytnadnafggjopmaa
