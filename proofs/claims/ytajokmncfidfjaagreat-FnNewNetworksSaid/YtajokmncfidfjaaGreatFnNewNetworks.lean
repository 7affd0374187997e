/- For every argument the law FnNewNetworks returns true and leaves its arguments as they were. Conditions: none beyond the row's. -/
import Derived.Test.YtajokmncfidfjaaGreatRows
import Derived.Test.YtajokmncfidfjaaGreatJ
import Derived.Test.YtajokmncfidfjaaGreatFnNewNetworksKA
import Derived.WalkKit
import Derived.ProofKit
import Derived.OpenShut
import Derived.ShutString
import Derived.ChangeOld
import Derived.Below
import Derived.SizedLaws
import Derived.KernelRfl
set_option linter.unusedVariables false
set_option linter.unusedSimpArgs false
namespace Go.Proofs.YtajokmncfidfjaaGreat.fnNewNetworks
open Go.R Go.Fn
open Go.ChangeShapes Go.WideShapes Go.ChangeAt Go.RowKit
set_option maxRecDepth 100000
theorem acs(x:fI real ((NU.args.map Sh.ks).flatten))(hx:fI.wf _ x):∃y, NU.fn x = some y /\ (co _ y).head? = some ⟨.val .bool, (true:Bool)⟩:=⟨(true, ()), X1 x.1, rfl⟩
open whole
theorem afD:qt Tryz.prog [22] = some NU.args:=by kernel_rfl
theorem lifted(os:Os)(started:os.Started)(H:Type)(enc:TypeId × Value -> H):
    ReturnsInHanded {} Tryz.checked os 3 .any (Rows.fnNewNetworksSpec.pre6 enc Tryz.prog Tryz.f3 Rows.fnNewNetworksRow.domain false) (Rows.fnNewNetworksSpec.post enc Tryz.prog Tryz.f3 false true false false):=by
  refine returnsInHanded_of_change_sized (C:=Tryz.checked) own started (by kernel_rfl) Tryz.func3
    (ChangeSpec.witness6 (enc:=enc) (C:=Tryz.checked) false ⟨#[], #[.slice none 0 0], []⟩ 8 (by kernel_rfl) (by kernel_rfl) (by kernel_rfl) (by kernel_rfl)) ?_
  intro W base args ds gs before afz hW hcnd Di _;have hval:∀(j:Nat) t v, Tryz.f3.params[j]? = some t -> args[j]? = some v -> Value.okWide Tryz.prog W .any base t v:=afz;have hW':=hW;obtain⟨p, q, hA0, hV, rfl, hfz, hnd⟩:=hW;have hA:DataW.TrodAll enc Tryz.prog W 0 (fun _=>true) true Tryz.f3.params.toList args.toList ds p:=hA0;rw[Tryz.params3]at hA hval;obtain⟨rfl, rfl⟩:=trodVars_none hV;have hA1:DataW.TrodAll enc Tryz.prog W 0 (fun _=>true) true [22] args.toList ds p:=hA;obtain⟨v0, vs0, d0, ds0, p0, q0, agH, agI, hp0, h0, r0⟩:=trodAll_cons hA1;obtain⟨e1, e2, e3⟩:=trodAll_nil r0;subst e1 e2 e3 agI;have hc:=DS (b0:=base) V5 (Fa rfl) afD rfl rfl acs (fun j t v hj hv=>hval j t v (by simpa using hj) (by simpa using hv)) hA1;have adD:args.toList.toArray = args:=by simp
  rw[adD]at hc;refine hc.mono fun e W' ⟨he, bel⟩=>?_;subst he;exact⟨_, rfl, _, _, _, [], _, [], hW', trodAll_mk1 (shut_bool Tryz.underlying4 _), CU laid rowed full (by kernel_rfl) bel hA1, rfl, bel.frame _, fun h=>by cases h⟩
theorem facts:joinedFacts Tryz.prog 3 Tryz.f3 Rows.fnNewNetworksSpec Rows.fnNewNetworksRow = true:=by
  unfold joinedFacts;rw[laid, rowed, stops, knobs, keys, heard, may, lifts, made]
  kernel_rfl
theorem over:Rows.fnNewNetworksRow.holds Tryz.pinned (OpenSpec.ofChange Rows.fnNewNetworksSpec):=
  OpenClaim.holds_of_wide 3 Tryz.f3 rfl rfl rfl rfl rfl rfl rfl ⟨rfl, rfl, rfl, rfl, rfl⟩ rfl rfl rfl rfl rfl (by kernel_rfl) Tryz.func3 facts
    (of_decide_eq_true (by kernel_rfl)) (by unfold Func.isWrapper; first|(rw[if_pos (by decide +kernel)]; kernel_rfl)|(rw[if_neg (by decide +kernel)]; exact⟨rfl, rfl⟩))
    (fun os started H enc _=>lifted os started H enc)
theorem proved:Rows.FnNewNetworksSaid:=over
#print axioms proved
end Go.Proofs.YtajokmncfidfjaaGreat.fnNewNetworks
namespace Go.Proofs.YtajokmncfidfjaaGreat
/-- The row, under a short name, for the claim. -/
theorem fnNewNetworks_holds:Rows.FnNewNetworksSaid:=fnNewNetworks.proved
end Go.Proofs.YtajokmncfidfjaaGreat

