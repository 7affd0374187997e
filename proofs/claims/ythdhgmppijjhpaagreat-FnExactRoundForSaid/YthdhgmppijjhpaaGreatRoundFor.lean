/- For every argument the law FnExactRoundFor returns true and leaves its arguments as they were. Conditions: none beyond the row's. -/
import Derived.Test.YthdhgmppijjhpaaGreatRows
import Derived.Test.YthdhgmppijjhpaaGreatJ
import Derived.Test.YthdhgmppijjhpaaGreatRoundForKA
import Derived.WalkKit
import Derived.ProofKit
import Derived.OpenShut
import Derived.ShutString
import Derived.ChangeOld
import Derived.Below
import Derived.SizedLaws
import Derived.KernelRfl
set_option linter.unusedVariables false
set_option linter.unusedSimpArgs false
namespace Go.Proofs.YthdhgmppijjhpaaGreat.fnExactRoundFor
open Go.R Go.Fn
open Go.ChangeShapes Go.WideShapes Go.ChangeAt Go.RowKit
set_option maxRecDepth 100000
theorem UU(x:fE real ((g5.args.map Sh.ks).flatten))(hx:fE.wf _ x):∃y, g5.fn x = some y /\ (cl _ y).head? = some ⟨.val .bool, (true:Bool)⟩:=⟨(true, ()), RF x.1 x.2.1 x.2.2.1 x.2.2.2.1 x.2.2.2.2.1 x.2.2.2.2.2.1 x.2.2.2.2.2.2.1 x.2.2.2.2.2.2.2.1 x.2.2.2.2.2.2.2.2.1 x.2.2.2.2.2.2.2.2.2.1 x.2.2.2.2.2.2.2.2.2.2.1 x.2.2.2.2.2.2.2.2.2.2.2.1 x.2.2.2.2.2.2.2.2.2.2.2.2.1 x.2.2.2.2.2.2.2.2.2.2.2.2.2.1 x.2.2.2.2.2.2.2.2.2.2.2.2.2.2.1 x.2.2.2.2.2.2.2.2.2.2.2.2.2.2.2.1 x.2.2.2.2.2.2.2.2.2.2.2.2.2.2.2.2.1 ⟨(hx _ (.tail _ (.tail _ (.tail _ (.tail _ (.tail _ (.tail _ (.tail _ (.tail _ (.tail _ (.tail _ (.tail _ (.head _))))))))))))).1, fun y hy=>have w:=(hx _ (.tail _ (.tail _ (.tail _ (.tail _ (.tail _ (.tail _ (.tail _ (.tail _ (.tail _ (.tail _ (.tail _ (.head _))))))))))))).2 y hy; ⟨w.1.1, w.2.1.1, w.2.2.1.1, fun z hz=>have v:=w.2.2.1.2 z hz; ⟨v.2.1.1, v.2.2.1.1⟩, w.2.2.2.2.2.2.2.2.2.2.1.1⟩, (hx _ (.tail _ (.tail _ (.tail _ (.tail _ (.tail _ (.tail _ (.tail _ (.tail _ (.tail _ (.tail _ (.tail _ (.tail _ (.head _)))))))))))))).1, (hx _ (.tail _ (.tail _ (.tail _ (.tail _ (.tail _ (.tail _ (.tail _ (.tail _ (.tail _ (.tail _ (.tail _ (.tail _ (.tail _ (.head _))))))))))))))).1, (hx _ (.tail _ (.tail _ (.tail _ (.tail _ (.tail _ (.tail _ (.tail _ (.tail _ (.tail _ (.tail _ (.tail _ (.tail _ (.tail _ (.tail _ (.head _)))))))))))))))).1⟩ (hx _ (.tail _ (.tail _ (.tail _ (.tail _ (.tail _ (.tail _ (.tail _ (.tail _ (.tail _ (.tail _ (.tail _ (.tail _ (.tail _ (.tail _ (.tail _ (.head _))))))))))))))))).1 (fun r hr=>((hx _ (.tail _ (.tail _ (.tail _ (.tail _ (.tail _ (.tail _ (.tail _ (.tail _ (.tail _ (.tail _ (.tail _ (.tail _ (.tail _ (.tail _ (.tail _ (.head _))))))))))))))))).2 r hr).1.1), rfl⟩
open whole
theorem Xr:qc Tryz.prog [29, 65, 3] = some g5.args:=by kernel_rfl
theorem lifted(os:Os)(started:os.Started)(H:Type)(enc:TypeId × Value -> H):
    ReturnsInHanded {} Tryz.checked os 7 .any (Rows.fnExactRoundForSpec.pre6 enc Tryz.prog Tryz.f7 Rows.fnExactRoundForRow.domain false) (Rows.fnExactRoundForSpec.post enc Tryz.prog Tryz.f7 false true false false):=by
  refine returnsInHanded_of_change_sized (C:=Tryz.checked) own started (by kernel_rfl) Tryz.func7
    (ChangeSpec.witness6 (enc:=enc) (C:=Tryz.checked) false ⟨#[], #[.agg #[.int .i64 0, .int .i64 0, .int .i64 0, .int .i64 0, .int .i64 0, .int .i64 0, .int .i64 0, .int .i64 0, .int .i64 0, .int .i64 0, .int .i64 0, .slice none 0 0, .slice none 0 0, .slice none 0 0, .slice none 0 0], .slice none 0 0, .int .i64 0], []⟩ 8 (by kernel_rfl) (by kernel_rfl) (by kernel_rfl) (by kernel_rfl)) ?_
  intro W base args ds gs before Xo hW hcnd CQ _;have hval:∀(j:Nat) t v, Tryz.f7.params[j]? = some t -> args[j]? = some v -> Value.okWide Tryz.prog W .any base t v:=Xo;have hW':=hW;obtain⟨p, q, hA0, hV, rfl, hfz, hnd⟩:=hW;have hA:DataW.TrodAll enc Tryz.prog W 0 (fun _=>true) true Tryz.f7.params.toList args.toList ds p:=hA0;rw[Tryz.params7]at hA hval;obtain⟨rfl, rfl⟩:=trodVars_none hV;have Yi:DataW.TrodAll enc Tryz.prog W 0 (fun _=>true) true [29, 65, 3] args.toList ds p:=hA;obtain⟨v0, vs0, d0, ds0, p0, q0, Yk, Yo, hp0, h0, r0⟩:=trodAll_cons Yi;obtain⟨v1, vs1, d1, ds1, p1, q1, Ym, Yp, hp1, h1, r1⟩:=trodAll_cons r0;obtain⟨v2, vs2, d2, ds2, p2, q2, Yn, Yq, hp2, h2, r2⟩:=trodAll_cons r1;obtain⟨e1, e2, e3⟩:=trodAll_nil r2;subst e1 e2 e3 Yo Yp Yq;have hc:=Dp (b0:=base) NU Xr rfl rfl UU (fun j t v hj hv=>hval j t v (by simpa using hj) (by simpa using hv)) Yi;have VF:args.toList.toArray = args:=by simp
  rw[VF]at hc;refine hc.mono fun e W' ⟨he, bel⟩=>?_;subst he;exact⟨_, rfl, _, _, _, [], _, [], hW', trodAll_mk1 (shut_bool Tryz.underlying4 _), Cn laid rowed full (by kernel_rfl) bel Yi, rfl, bel.frame _, fun h=>by cases h⟩
theorem facts:joinedFacts Tryz.prog 7 Tryz.f7 Rows.fnExactRoundForSpec Rows.fnExactRoundForRow = true:=by
  unfold joinedFacts;rw[laid, rowed, stops, knobs, keys, heard, may, lifts, made]
  kernel_rfl
theorem over:Rows.fnExactRoundForRow.holds Tryz.pinned (OpenSpec.ofChange Rows.fnExactRoundForSpec):=
  OpenClaim.holds_of_wide 7 Tryz.f7 rfl rfl rfl rfl rfl rfl rfl ⟨rfl, rfl, rfl, rfl, rfl⟩ rfl rfl rfl rfl rfl (by kernel_rfl) Tryz.func7 facts
    (of_decide_eq_true (by kernel_rfl)) (by unfold Func.isWrapper; first|(rw[if_pos (by decide +kernel)]; kernel_rfl)|(rw[if_neg (by decide +kernel)]; exact⟨rfl, rfl⟩))
    (fun os started H enc _=>lifted os started H enc)
theorem proved:Rows.FnExactRoundForSaid:=over
#print axioms proved
end Go.Proofs.YthdhgmppijjhpaaGreat.fnExactRoundFor
namespace Go.Proofs.YthdhgmppijjhpaaGreat
/-- The row, under a short name, for the claim. -/
theorem fnExactRoundFor_holds:Rows.FnExactRoundForSaid:=fnExactRoundFor.proved
end Go.Proofs.YthdhgmppijjhpaaGreat

