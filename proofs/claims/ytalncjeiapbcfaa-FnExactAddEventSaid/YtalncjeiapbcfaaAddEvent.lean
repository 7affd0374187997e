/- For every argument the law FnExactAddEvent returns true and leaves its arguments as they were. Conditions: none beyond the row's. -/
import Derived.Test.YtalncjeiapbcfaaRows
import Derived.Test.YtalncjeiapbcfaaJ
import Derived.Test.YtalncjeiapbcfaaAddEventKA
import Derived.WalkKit
import Derived.ProofKit
import Derived.OpenShut
import Derived.ShutString
import Derived.ChangeOld
import Derived.Below
import Derived.SizedLaws
import Derived.KernelRfl
set_option linter.unusedVariables false
set_option linter.unusedSimpArgs false
namespace Go.Proofs.Ytalncjeiapbcfaa.fnExactAddEvent
open Go.R Go.Fn
open Go.ChangeShapes Go.WideShapes Go.ChangeAt Go.RowKit
set_option maxRecDepth 100000
theorem Ki(x:fI real ((bn.args.map Sh.ks).flatten))(hx:fI.wf _ x):∃y, bn.fn x = some y /\ (co _ y).head? = some ⟨.val .bool, (true:Bool)⟩:=⟨(true, ()), I9 x.1 x.2.1 x.2.2.1 x.2.2.2.1 x.2.2.2.2.1 x.2.2.2.2.2.1 (hx _ (.head _)).1, rfl⟩
open whole
theorem KO:qt Try.prog [22, 3, 3, 3, 3, 3] = some bn.args:=by kernel_rfl
theorem lifted(os:Os)(started:os.Started)(H:Type)(enc:TypeId × Value -> H):
    ReturnsInHanded {} Try.checked os 3 .any (Rows.fnExactAddEventSpec.pre6 enc Try.prog Try.f3 Rows.fnExactAddEventRow.domain false) (Rows.fnExactAddEventSpec.post enc Try.prog Try.f3 false true false false):=by
  refine returnsInHanded_of_change_sized (C:=Try.checked) own started (by kernel_rfl) Try.func3
    (ChangeSpec.witness6 (enc:=enc) (C:=Try.checked) false ⟨#[], #[.slice none 0 0, .int .i64 0, .int .i64 0, .int .i64 0, .int .i64 0, .int .i64 0], []⟩ 8 (by kernel_rfl) (by kernel_rfl) (by kernel_rfl) (by kernel_rfl)) ?_
  intro W base args ds gs before KM hW hcnd Di _;have hval:∀(j:Nat) t v, Try.f3.params[j]? = some t -> args[j]? = some v -> Value.okWide Try.prog W .any base t v:=KM;have Mc:=hW;obtain⟨p, q, L3, hV, rfl, hfz, hnd⟩:=hW;have hA:DataW.TrodAll enc Try.prog W 0 (fun _=>true) true Try.f3.params.toList args.toList ds p:=L3;rw[Try.params3]at hA hval;obtain⟨rfl, rfl⟩:=trodVars_none hV;have K1:DataW.TrodAll enc Try.prog W 0 (fun _=>true) true [22, 3, 3, 3, 3, 3] args.toList ds p:=hA;obtain⟨v0, MF, d0, Mq, p0, q0, K4, Lg, MA, h0, r0⟩:=trodAll_cons K1;obtain⟨v1, MG, d1, Mr, p1, q1, K5, Lh, hp1, h1, r1⟩:=trodAll_cons r0;obtain⟨v2, MH, d2, Ms, p2, q2, K6, Li, hp2, h2, r2⟩:=trodAll_cons r1;obtain⟨v3, MI, d3, Mt, p3, q3, K7, Lj, MB, h3, r3⟩:=trodAll_cons r2;obtain⟨v4, MJ, d4, Mu, p4, q4, K8, Ll, MC, h4, r4⟩:=trodAll_cons r3;obtain⟨v5, MK, d5, Mv, p5, q5, K9, Lm, MD, h5, r5⟩:=trodAll_cons r4;obtain⟨e1, e2, e3⟩:=trodAll_nil r5;subst e1 e2 e3 Lg Lh Li Lj Ll Lm;have hc:=DS (b0:=base) xb (Fa rfl) KO rfl rfl Ki (fun j t v hj hv=>hval j t v (by simpa using hj) (by simpa using hv)) K1;have Kv:args.toList.toArray = args:=by simp
  rw[Kv]at hc;refine hc.mono fun e W' ⟨he, LM⟩=>?_;subst he;exact⟨_, rfl, _, _, _, [], _, [], Mc, trodAll_mk1 (shut_bool Try.underlying4 _), CU laid rowed full (by kernel_rfl) LM K1, rfl, LM.frame _, fun h=>by cases h⟩
theorem facts:joinedFacts Try.prog 3 Try.f3 Rows.fnExactAddEventSpec Rows.fnExactAddEventRow = true:=by
  unfold joinedFacts;rw[laid, rowed, stops, knobs, keys, heard, may, lifts, made]
  kernel_rfl
theorem over:Rows.fnExactAddEventRow.holds Try.pinned (OpenSpec.ofChange Rows.fnExactAddEventSpec):=
  OpenClaim.holds_of_wide 3 Try.f3 rfl rfl rfl rfl rfl rfl rfl ⟨rfl, rfl, rfl, rfl, rfl⟩ rfl rfl rfl rfl rfl (by kernel_rfl) Try.func3 facts
    (of_decide_eq_true (by kernel_rfl)) (by unfold Func.isWrapper; first|(rw[if_pos (by decide +kernel)]; kernel_rfl)|(rw[if_neg (by decide +kernel)]; exact⟨rfl, rfl⟩))
    (fun os started H enc _=>lifted os started H enc)
theorem proved:Rows.FnExactAddEventSaid:=over
#print axioms proved
end Go.Proofs.Ytalncjeiapbcfaa.fnExactAddEvent
namespace Go.Proofs.Ytalncjeiapbcfaa
/-- The row, under a short name, for the claim. -/
theorem fnExactAddEvent_holds:Rows.FnExactAddEventSaid:=fnExactAddEvent.proved
end Go.Proofs.Ytalncjeiapbcfaa

