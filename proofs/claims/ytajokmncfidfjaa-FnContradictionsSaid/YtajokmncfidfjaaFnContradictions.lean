/- For every argument the law FnContradictions returns true and leaves its arguments as they were. Conditions: none beyond the row's. -/
import Derived.Test.YtajokmncfidfjaaRows
import Derived.Test.YtajokmncfidfjaaJ
import Derived.Test.YtajokmncfidfjaaFnContradictionsKA
import Derived.WalkKit
import Derived.ProofKit
import Derived.OpenShut
import Derived.ShutString
import Derived.ChangeOld
import Derived.Below
import Derived.SizedLaws
import Derived.KernelRfl
set_option linter.unusedVariables false
set_option linter.unusedSimpArgs false
namespace Go.Proofs.Ytajokmncfidfjaa.fnContradictions
open Go.R Go.Fn
open Go.ChangeShapes Go.WideShapes Go.ChangeAt Go.RowKit
set_option maxRecDepth 100000
theorem Rr(x:fI real ((KH.args.map Sh.ks).flatten))(hx:fI.wf _ x):∃y, KH.fn x = some y /\ (co _ y).head? = some ⟨.val .bool, (true:Bool)⟩:=⟨(true, ()), Pu x.1, rfl⟩
open whole
theorem SX:qt Try.prog [22] = some KH.args:=by kernel_rfl
theorem lifted(os:Os)(started:os.Started)(H:Type)(enc:TypeId × Value -> H):
    ReturnsInHanded {} Try.checked os 3 .any (Rows.fnContradictionsSpec.pre6 enc Try.prog Try.f3 Rows.fnContradictionsRow.domain false) (Rows.fnContradictionsSpec.post enc Try.prog Try.f3 false true false false):=by
  refine returnsInHanded_of_change_sized (C:=Try.checked) own started (by kernel_rfl) Try.func3
    (ChangeSpec.witness6 (enc:=enc) (C:=Try.checked) false ⟨#[], #[.slice none 0 0], []⟩ 8 (by kernel_rfl) (by kernel_rfl) (by kernel_rfl) (by kernel_rfl)) ?_
  intro W base args ds gs before SR hW hcnd Di _;have hval:∀(j:Nat) t v, Try.f3.params[j]? = some t -> args[j]? = some v -> Value.okWide Try.prog W .any base t v:=SR;have Vt:=hW;obtain⟨p, q, Vn, hV, rfl, hfz, hnd⟩:=hW;have hA:DataW.TrodAll enc Try.prog W 0 (fun _=>true) true Try.f3.params.toList args.toList ds p:=Vn;rw[Try.params3]at hA hval;obtain⟨rfl, rfl⟩:=trodVars_none hV;have Tv:DataW.TrodAll enc Try.prog W 0 (fun _=>true) true [22] args.toList ds p:=hA;obtain⟨v0, VM, d0, VI, p0, q0, Tx, Tz, VL, h0, r0⟩:=trodAll_cons Tv;obtain⟨e1, e2, e3⟩:=trodAll_nil r0;subst e1 e2 e3 Tz;have hc:=DS (b0:=base) Nu (Fa rfl) SX rfl rfl Rr (fun j t v hj hv=>hval j t v (by simpa using hj) (by simpa using hv)) Tv;have R0:args.toList.toArray = args:=by simp
  rw[R0]at hc;refine hc.mono fun e W' ⟨he, UG⟩=>?_;subst he;exact⟨_, rfl, _, _, _, [], _, [], Vt, trodAll_mk1 (shut_bool Try.underlying4 _), CU laid rowed full (by kernel_rfl) UG Tv, rfl, UG.frame _, fun h=>by cases h⟩
theorem facts:joinedFacts Try.prog 3 Try.f3 Rows.fnContradictionsSpec Rows.fnContradictionsRow = true:=by
  unfold joinedFacts;rw[laid, rowed, stops, knobs, keys, heard, may, lifts, made]
  kernel_rfl
theorem over:Rows.fnContradictionsRow.holds Try.pinned (OpenSpec.ofChange Rows.fnContradictionsSpec):=
  OpenClaim.holds_of_wide 3 Try.f3 rfl rfl rfl rfl rfl rfl rfl ⟨rfl, rfl, rfl, rfl, rfl⟩ rfl rfl rfl rfl rfl (by kernel_rfl) Try.func3 facts
    (of_decide_eq_true (by kernel_rfl)) (by unfold Func.isWrapper; first|(rw[if_pos (by decide +kernel)]; kernel_rfl)|(rw[if_neg (by decide +kernel)]; exact⟨rfl, rfl⟩))
    (fun os started H enc _=>lifted os started H enc)
theorem proved:Rows.FnContradictionsSaid:=over
#print axioms proved
end Go.Proofs.Ytajokmncfidfjaa.fnContradictions
namespace Go.Proofs.Ytajokmncfidfjaa
/-- The row, under a short name, for the claim. -/
theorem fnContradictions_holds:Rows.FnContradictionsSaid:=fnContradictions.proved
end Go.Proofs.Ytajokmncfidfjaa

