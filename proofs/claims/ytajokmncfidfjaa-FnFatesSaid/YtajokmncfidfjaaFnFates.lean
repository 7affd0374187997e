/- For every argument the law FnFates returns true and leaves its arguments as they were. Conditions: none beyond the row's. -/
import Derived.Test.YtajokmncfidfjaaRows
import Derived.Test.YtajokmncfidfjaaJ
import Derived.Test.YtajokmncfidfjaaFnFatesKA
import Derived.WalkKit
import Derived.ProofKit
import Derived.OpenShut
import Derived.ShutString
import Derived.ChangeOld
import Derived.Below
import Derived.SizedLaws
import Derived.KernelRfl
set_option linter.unusedVariables false
set_option linter.unusedSimpArgs false
namespace Go.Proofs.Ytajokmncfidfjaa.fnFates
open Go.R Go.Fn
open Go.ChangeShapes Go.WideShapes Go.ChangeAt Go.RowKit
set_option maxRecDepth 100000
theorem Us(x:fI real ((MN.args.map Sh.ks).flatten))(hx:fI.wf _ x):∃y, MN.fn x = some y /\ (co _ y).head? = some ⟨.val .bool, (true:Bool)⟩:=⟨(true, ()), RX x.1, rfl⟩
open whole
theorem VX:qt Try.prog [22] = some MN.args:=by kernel_rfl
theorem lifted(os:Os)(started:os.Started)(H:Type)(enc:TypeId × Value -> H):
    ReturnsInHanded {} Try.checked os 4 .any (Rows.fnFatesSpec.pre6 enc Try.prog Try.f4 Rows.fnFatesRow.domain false) (Rows.fnFatesSpec.post enc Try.prog Try.f4 false true false false):=by
  refine returnsInHanded_of_change_sized (C:=Try.checked) own started (by kernel_rfl) Try.func4
    (ChangeSpec.witness6 (enc:=enc) (C:=Try.checked) false ⟨#[], #[.slice none 0 0], []⟩ 8 (by kernel_rfl) (by kernel_rfl) (by kernel_rfl) (by kernel_rfl)) ?_
  intro W base args ds gs before VS hW hcnd Di _;have hval:∀(j:Nat) t v, Try.f4.params[j]? = some t -> args[j]? = some v -> Value.okWide Try.prog W .any base t v:=VS;have YO:=hW;obtain⟨p, q, YI, hV, rfl, hfz, hnd⟩:=hW;have hA:DataW.TrodAll enc Try.prog W 0 (fun _=>true) true Try.f4.params.toList args.toList ds p:=YI;rw[Try.params4]at hA hval;obtain⟨rfl, rfl⟩:=trodVars_none hV;have WC:DataW.TrodAll enc Try.prog W 0 (fun _=>true) true [22] args.toList ds p:=hA;obtain⟨v0, Zf, d0, Za, p0, q0, WG, WH, Zd, h0, r0⟩:=trodAll_cons WC;obtain⟨e1, e2, e3⟩:=trodAll_nil r0;subst e1 e2 e3 WH;have hc:=DS (b0:=base) Qv (Fa rfl) VX rfl rfl Us (fun j t v hj hv=>hval j t v (by simpa using hj) (by simpa using hv)) WC;have U4:args.toList.toArray = args:=by simp
  rw[U4]at hc;refine hc.mono fun e W' ⟨he, XR⟩=>?_;subst he;exact⟨_, rfl, _, _, _, [], _, [], YO, trodAll_mk1 (shut_bool Try.underlying4 _), CU laid rowed full (by kernel_rfl) XR WC, rfl, XR.frame _, fun h=>by cases h⟩
theorem facts:joinedFacts Try.prog 4 Try.f4 Rows.fnFatesSpec Rows.fnFatesRow = true:=by
  unfold joinedFacts;rw[laid, rowed, stops, knobs, keys, heard, may, lifts, made]
  kernel_rfl
theorem over:Rows.fnFatesRow.holds Try.pinned (OpenSpec.ofChange Rows.fnFatesSpec):=
  OpenClaim.holds_of_wide 4 Try.f4 rfl rfl rfl rfl rfl rfl rfl ⟨rfl, rfl, rfl, rfl, rfl⟩ rfl rfl rfl rfl rfl (by kernel_rfl) Try.func4 facts
    (of_decide_eq_true (by kernel_rfl)) (by unfold Func.isWrapper; first|(rw[if_pos (by decide +kernel)]; kernel_rfl)|(rw[if_neg (by decide +kernel)]; exact⟨rfl, rfl⟩))
    (fun os started H enc _=>lifted os started H enc)
theorem proved:Rows.FnFatesSaid:=over
#print axioms proved
end Go.Proofs.Ytajokmncfidfjaa.fnFates
namespace Go.Proofs.Ytajokmncfidfjaa
/-- The row, under a short name, for the claim. -/
theorem fnFates_holds:Rows.FnFatesSaid:=fnFates.proved
end Go.Proofs.Ytajokmncfidfjaa

