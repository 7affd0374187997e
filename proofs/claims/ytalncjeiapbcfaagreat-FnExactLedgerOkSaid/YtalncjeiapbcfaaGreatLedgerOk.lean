/- For every argument the law FnExactLedgerOk returns true and leaves its arguments as they were. Conditions: none beyond the row's. -/
import Derived.Test.YtalncjeiapbcfaaGreatRows
import Derived.Test.YtalncjeiapbcfaaGreatJ
import Derived.Test.YtalncjeiapbcfaaGreatLedgerOkKA
import Derived.WalkKit
import Derived.ProofKit
import Derived.OpenShut
import Derived.ShutString
import Derived.ChangeOld
import Derived.Below
import Derived.SizedLaws
import Derived.KernelRfl
set_option linter.unusedVariables false
set_option linter.unusedSimpArgs false
namespace Go.Proofs.YtalncjeiapbcfaaGreat.fnExactLedgerOk
open Go.R Go.Fn
open Go.ChangeShapes Go.WideShapes Go.ChangeAt Go.RowKit
set_option maxRecDepth 100000
theorem abQ(x:fE real ((L6.args.map Sh.ks).flatten))(hx:fE.wf _ x):∃y, L6.fn x = some y /\ (cl _ y).head? = some ⟨.val .bool, (true:Bool)⟩:=⟨(true, ()), XI x.1 x.2.1 x.2.2.1 x.2.2.2.1 x.2.2.2.2.1 x.2.2.2.2.2.1 x.2.2.2.2.2.2.1 x.2.2.2.2.2.2.2.1 x.2.2.2.2.2.2.2.2.1 x.2.2.2.2.2.2.2.2.2.1 x.2.2.2.2.2.2.2.2.2.2.1 x.2.2.2.2.2.2.2.2.2.2.2.1 x.2.2.2.2.2.2.2.2.2.2.2.2.1 x.2.2.2.2.2.2.2.2.2.2.2.2.2.1 x.2.2.2.2.2.2.2.2.2.2.2.2.2.2.1 ⟨(hx _ (.tail _ (.tail _ (.tail _ (.tail _ (.tail _ (.tail _ (.tail _ (.tail _ (.tail _ (.tail _ (.tail _ (.head _))))))))))))).1, fun y hy=>have w:=(hx _ (.tail _ (.tail _ (.tail _ (.tail _ (.tail _ (.tail _ (.tail _ (.tail _ (.tail _ (.tail _ (.tail _ (.head _))))))))))))).2 y hy; ⟨w.1.1, w.2.1.1, w.2.2.1.1, fun z hz=>have v:=w.2.2.1.2 z hz; ⟨v.2.1.1, v.2.2.1.1⟩, w.2.2.2.2.2.2.2.2.2.2.1.1⟩, (hx _ (.tail _ (.tail _ (.tail _ (.tail _ (.tail _ (.tail _ (.tail _ (.tail _ (.tail _ (.tail _ (.tail _ (.tail _ (.head _)))))))))))))).1, (hx _ (.tail _ (.tail _ (.tail _ (.tail _ (.tail _ (.tail _ (.tail _ (.tail _ (.tail _ (.tail _ (.tail _ (.tail _ (.tail _ (.head _))))))))))))))).1, (hx _ (.tail _ (.tail _ (.tail _ (.tail _ (.tail _ (.tail _ (.tail _ (.tail _ (.tail _ (.tail _ (.tail _ (.tail _ (.tail _ (.tail _ (.head _)))))))))))))))).1⟩, rfl⟩
open whole
theorem afv:qc Tryz.prog [29] = some L6.args:=by kernel_rfl
theorem lifted(os:Os)(started:os.Started)(H:Type)(enc:TypeId × Value -> H):
    ReturnsInHanded {} Tryz.checked os 3 .any (Rows.fnExactLedgerOkSpec.pre6 enc Tryz.prog Tryz.f3 Rows.fnExactLedgerOkRow.domain false) (Rows.fnExactLedgerOkSpec.post enc Tryz.prog Tryz.f3 false true false false):=by
  refine returnsInHanded_of_change_sized (C:=Tryz.checked) own started (by kernel_rfl) Tryz.func3
    (ChangeSpec.witness6 (enc:=enc) (C:=Tryz.checked) false ⟨#[], #[.agg #[.int .i64 0, .int .i64 0, .int .i64 0, .int .i64 0, .int .i64 0, .int .i64 0, .int .i64 0, .int .i64 0, .int .i64 0, .int .i64 0, .int .i64 0, .slice none 0 0, .slice none 0 0, .slice none 0 0, .slice none 0 0]], []⟩ 8 (by kernel_rfl) (by kernel_rfl) (by kernel_rfl) (by kernel_rfl)) ?_
  intro W base args ds gs before afs hW hcnd CQ _;have hval:∀(j:Nat) t v, Tryz.f3.params[j]? = some t -> args[j]? = some v -> Value.okWide Tryz.prog W .any base t v:=afs;have hW':=hW;obtain⟨p, q, hA0, hV, rfl, hfz, hnd⟩:=hW;have hA:DataW.TrodAll enc Tryz.prog W 0 (fun _=>true) true Tryz.f3.params.toList args.toList ds p:=hA0;rw[Tryz.params3]at hA hval;obtain⟨rfl, rfl⟩:=trodVars_none hV;have hA1:DataW.TrodAll enc Tryz.prog W 0 (fun _=>true) true [29] args.toList ds p:=hA;obtain⟨v0, vs0, d0, ds0, p0, q0, agP, agR, hp0, h0, r0⟩:=trodAll_cons hA1;obtain⟨e1, e2, e3⟩:=trodAll_nil r0;subst e1 e2 e3 agR;have hc:=Dp (b0:=base) Uo (H8 rfl) afv rfl rfl abQ (fun j t v hj hv=>hval j t v (by simpa using hj) (by simpa using hv)) hA1;have ac0:args.toList.toArray = args:=by simp
  rw[ac0]at hc;refine hc.mono fun e W' ⟨he, bel⟩=>?_;subst he;exact⟨_, rfl, _, _, _, [], _, [], hW', trodAll_mk1 (shut_bool Tryz.underlying4 _), Cn laid rowed full (by kernel_rfl) bel hA1, rfl, bel.frame _, fun h=>by cases h⟩
theorem facts:joinedFacts Tryz.prog 3 Tryz.f3 Rows.fnExactLedgerOkSpec Rows.fnExactLedgerOkRow = true:=by
  unfold joinedFacts;rw[laid, rowed, stops, knobs, keys, heard, may, lifts, made]
  kernel_rfl
theorem over:Rows.fnExactLedgerOkRow.holds Tryz.pinned (OpenSpec.ofChange Rows.fnExactLedgerOkSpec):=
  OpenClaim.holds_of_wide 3 Tryz.f3 rfl rfl rfl rfl rfl rfl rfl ⟨rfl, rfl, rfl, rfl, rfl⟩ rfl rfl rfl rfl rfl (by kernel_rfl) Tryz.func3 facts
    (of_decide_eq_true (by kernel_rfl)) (by unfold Func.isWrapper; first|(rw[if_pos (by decide +kernel)]; kernel_rfl)|(rw[if_neg (by decide +kernel)]; exact⟨rfl, rfl⟩))
    (fun os started H enc _=>lifted os started H enc)
theorem proved:Rows.FnExactLedgerOkSaid:=over
#print axioms proved
end Go.Proofs.YtalncjeiapbcfaaGreat.fnExactLedgerOk
namespace Go.Proofs.YtalncjeiapbcfaaGreat
/-- The row, under a short name, for the claim. -/
theorem fnExactLedgerOk_holds:Rows.FnExactLedgerOkSaid:=fnExactLedgerOk.proved
end Go.Proofs.YtalncjeiapbcfaaGreat

