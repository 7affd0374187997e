/- For every argument the law FnExactNewNetwork returns true and leaves its arguments as they were. Conditions: none beyond the row's. -/
import Derived.Test.YthdhgmppijjhpaaGreatRows
import Derived.Test.YthdhgmppijjhpaaGreatJ
import Derived.Test.YthdhgmppijjhpaaGreatNewNetworkKA
import Derived.WalkKit
import Derived.ProofKit
import Derived.OpenShut
import Derived.ShutString
import Derived.ChangeOld
import Derived.Below
import Derived.SizedLaws
import Derived.KernelRfl
set_option linter.unusedVariables false
set_option linter.unusedSimpArgs false
namespace Go.Proofs.YthdhgmppijjhpaaGreat.fnExactNewNetwork
open Go.R Go.Fn
open Go.ChangeShapes Go.WideShapes Go.ChangeAt Go.RowKit
set_option maxRecDepth 100000
theorem law_all (x : KTs real ((F_laws_FnExactNewNetwork.args.map Sh.ks).flatten)) (hx : KTs.wf _ x) : ∃ y, F_laws_FnExactNewNetwork.fn x = some y ∧ (ofKTs _ y).head? = some ⟨.val .bool, (true : Bool)⟩ := ⟨(true, ()), newNetwork_true x.1 x.2.1 x.2.2.1 x.2.2.2.1 x.2.2.2.2.1 x.2.2.2.2.2.1 x.2.2.2.2.2.2.1 x.2.2.2.2.2.2.2.1 x.2.2.2.2.2.2.2.2.1 x.2.2.2.2.2.2.2.2.2.1 x.2.2.2.2.2.2.2.2.2.2.1 x.2.2.2.2.2.2.2.2.2.2.2.1 (hx _ (.tail _ (.tail _ (.tail _ (.tail _ (.tail _ (.tail _ (.tail _ (.tail _ (.tail _ (.tail _ (.head _)))))))))))).1 (fun w hw => have v := (hx _ (.tail _ (.tail _ (.tail _ (.tail _ (.tail _ (.tail _ (.tail _ (.tail _ (.tail _ (.tail _ (.head _)))))))))))).2 w hw; ⟨v.1.1, v.2.1.1⟩) (hx _ (.tail _ (.tail _ (.tail _ (.tail _ (.tail _ (.tail _ (.tail _ (.tail _ (.tail _ (.tail _ (.tail _ (.head _))))))))))))).1 (fun b hb => have v := (hx _ (.tail _ (.tail _ (.tail _ (.tail _ (.tail _ (.tail _ (.tail _ (.tail _ (.tail _ (.tail _ (.tail _ (.head _))))))))))))).2 b hb; ⟨v.1.1, fun c hc => have u := v.1.2 c hc; ⟨u.2.1.1, u.2.2.1.1⟩⟩), rfl⟩
open whole
theorem ok_sh : parShs Tryz.prog [23, 3, 3, 48, 49] = some F_laws_FnExactNewNetwork.args := by kernel_rfl
theorem lifted (os : Os) (started : os.Started) (H : Type) (enc : TypeId × Value → H) :
    ReturnsInHanded {} Tryz.checked os 6 .any (Rows.fnExactNewNetworkSpec.pre6 enc Tryz.prog Tryz.f6 Rows.fnExactNewNetworkRow.domain false) (Rows.fnExactNewNetworkSpec.post enc Tryz.prog Tryz.f6 false true false false) := by
  refine returnsInHanded_of_change_sized (C := Tryz.checked) own started (by kernel_rfl) Tryz.func6
    (ChangeSpec.witness6 (enc := enc) (C := Tryz.checked) false ⟨#[], #[.agg #[.int .i64 0, .int .i64 0, .int .i64 0, .int .i64 0, .int .i64 0, .int .i64 0, .int .i64 0, .int .i64 0], .int .i64 0, .int .i64 0, .slice none 0 0, .slice none 0 0], []⟩ 8 (by kernel_rfl) (by kernel_rfl) (by kernel_rfl) (by kernel_rfl)) ?_
  intro W base args ds gs before hval0 hW hcnd hsz0 _
  have hval : ∀ (j : Nat) t v, Tryz.f6.params[j]? = some t → args[j]? = some v → Value.okWide Tryz.prog W .any base t v := hval0
  have hW' := hW
  obtain ⟨p, q, hA0, hV, rfl, hfz, hnd⟩ := hW
  have hA : DataW.TrodAll enc Tryz.prog W 0 (fun _ => true) true Tryz.f6.params.toList args.toList ds p := hA0
  rw [Tryz.params6] at hA hval
  obtain ⟨rfl, rfl⟩ := trodVars_none hV
  have hA1 : DataW.TrodAll enc Tryz.prog W 0 (fun _ => true) true [23, 3, 3, 48, 49] args.toList ds p := hA
  obtain ⟨v0, vs0, d0, ds0, p0, q0, hargs0, hds0, hp0, h0, r0⟩ := trodAll_cons hA1
  obtain ⟨v1, vs1, d1, ds1, p1, q1, hargs1, hds1, hp1, h1, r1⟩ := trodAll_cons r0
  obtain ⟨v2, vs2, d2, ds2, p2, q2, hargs2, hds2, hp2, h2, r2⟩ := trodAll_cons r1
  obtain ⟨v3, vs3, d3, ds3, p3, q3, hargs3, hds3, hp3, h3, r3⟩ := trodAll_cons r2
  obtain ⟨v4, vs4, d4, ds4, p4, q4, hargs4, hds4, hp4, h4, r4⟩ := trodAll_cons r3
  obtain ⟨e1, e2, e3⟩ := trodAll_nil r4
  subst e1 e2 e3 hds0 hds1 hds2 hds3 hds4
  have hc := law_calls (b0 := base) ok_laws_FnExactNewNetwork ok_sh rfl rfl law_all (fun j t v hj hv => hval j t v (by simpa using hj) (by simpa using hv)) hA1
  have hargs' : args.toList.toArray = args := by simp
  rw [hargs'] at hc
  refine hc.mono fun e W' ⟨he, bel⟩ => ?_
  subst he
  exact ⟨_, rfl, _, _, _, [], _, [], hW', trodAll_mk1 (shut_bool Tryz.underlying4 _), args_again laid rowed full (by kernel_rfl) bel hA1, rfl, bel.frame _, fun h => by cases h⟩
theorem facts : joinedFacts Tryz.prog 6 Tryz.f6 Rows.fnExactNewNetworkSpec Rows.fnExactNewNetworkRow = true := by
  unfold joinedFacts
  rw [laid, rowed, stops, knobs, keys, heard, may, lifts, made]
  kernel_rfl
theorem over : Rows.fnExactNewNetworkRow.holds Tryz.pinned (OpenSpec.ofChange Rows.fnExactNewNetworkSpec) :=
  OpenClaim.holds_of_wide 6 Tryz.f6 rfl rfl rfl rfl rfl rfl rfl ⟨rfl, rfl, rfl, rfl, rfl⟩ rfl rfl rfl rfl rfl (by kernel_rfl) Tryz.func6 facts
    (of_decide_eq_true (by kernel_rfl)) (by unfold Func.isWrapper; first | (rw [if_pos (by decide +kernel)]; kernel_rfl) | (rw [if_neg (by decide +kernel)]; exact ⟨rfl, rfl⟩))
    (fun os started H enc _ => lifted os started H enc)
theorem proved : Rows.FnExactNewNetworkSaid := over
#print axioms proved
end Go.Proofs.YthdhgmppijjhpaaGreat.fnExactNewNetwork
namespace Go.Proofs.YthdhgmppijjhpaaGreat
/-- The row, under a short name, for the claim. -/
theorem fnExactNewNetwork_holds : Rows.FnExactNewNetworkSaid := fnExactNewNetwork.proved
end Go.Proofs.YthdhgmppijjhpaaGreat
