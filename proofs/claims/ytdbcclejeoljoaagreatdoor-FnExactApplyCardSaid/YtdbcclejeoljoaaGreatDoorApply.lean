/- For every argument the law FnExactApply returns true and leaves its arguments as they were. Conditions: none beyond the row's. -/
import Derived.Test.YtdbcclejeoljoaaGreatDoorRows
import Derived.Test.YtdbcclejeoljoaaGreatDoorCards
import Derived.Test.YtdbcclejeoljoaaGreatDoorTie
import Derived.Test.YtdbcclejeoljoaaGreatDoorJ
import Derived.Test.YtdbcclejeoljoaaGreatDoorApplyKA
import Derived.WalkKit
import Derived.ProofKit
import Derived.OpenShut
import Derived.ShutString
import Derived.ChangeOld
import Derived.Below
import Derived.SizedLaws
import Derived.KernelRfl
import Derived.LaidMore
import Derived.MakeChecks
import Derived.Stop.Joined
import Derived.Stop.LaidErr
import Derived.SevenTiedAt
import Derived.Lib.LaidTab
set_option linter.unusedVariables false
set_option linter.unusedSimpArgs false
namespace Go.Proofs.YtdbcclejeoljoaaGreatDoor.fnExactApply
open Go.R Go.Fn
open Go.ChangeShapes Go.WideShapes Go.ChangeAt Go.RowKit
set_option maxRecDepth 100000
theorem aiU(x:fE real ((Kf.args.map Sh.ks).flatten))(hx:fE.wf _ x):∃y, Kf.fn x = some y /\ (bJ _ y).head? = some ⟨.val .bool, (true:Bool)⟩:=⟨(true, ()), aeN x.1 x.2.1 x.2.2.1 x.2.2.2.1 x.2.2.2.2.1 x.2.2.2.2.2.1 x.2.2.2.2.2.2.1 x.2.2.2.2.2.2.2.1 x.2.2.2.2.2.2.2.2.1 x.2.2.2.2.2.2.2.2.2.1 x.2.2.2.2.2.2.2.2.2.2.1 x.2.2.2.2.2.2.2.2.2.2.2.1 x.2.2.2.2.2.2.2.2.2.2.2.2.1 x.2.2.2.2.2.2.2.2.2.2.2.2.2.1 x.2.2.2.2.2.2.2.2.2.2.2.2.2.2.1 x.2.2.2.2.2.2.2.2.2.2.2.2.2.2.2.1 x.2.2.2.2.2.2.2.2.2.2.2.2.2.2.2.2.1 x.2.2.2.2.2.2.2.2.2.2.2.2.2.2.2.2.2.1 x.2.2.2.2.2.2.2.2.2.2.2.2.2.2.2.2.2.2.1 x.2.2.2.2.2.2.2.2.2.2.2.2.2.2.2.2.2.2.2.1 x.2.2.2.2.2.2.2.2.2.2.2.2.2.2.2.2.2.2.2.2.1 x.2.2.2.2.2.2.2.2.2.2.2.2.2.2.2.2.2.2.2.2.2.1 x.2.2.2.2.2.2.2.2.2.2.2.2.2.2.2.2.2.2.2.2.2.2.1 x.2.2.2.2.2.2.2.2.2.2.2.2.2.2.2.2.2.2.2.2.2.2.2.1 x.2.2.2.2.2.2.2.2.2.2.2.2.2.2.2.2.2.2.2.2.2.2.2.2.1 x.2.2.2.2.2.2.2.2.2.2.2.2.2.2.2.2.2.2.2.2.2.2.2.2.2.1 x.2.2.2.2.2.2.2.2.2.2.2.2.2.2.2.2.2.2.2.2.2.2.2.2.2.2.1 ⟨(hx _ (.tail _ (.tail _ (.tail _ (.tail _ (.tail _ (.tail _ (.tail _ (.tail _ (.tail _ (.tail _ (.tail _ (.head _))))))))))))).1, λy hy=>have w:=(hx _ (.tail _ (.tail _ (.tail _ (.tail _ (.tail _ (.tail _ (.tail _ (.tail _ (.tail _ (.tail _ (.tail _ (.head _))))))))))))).2 y hy; ⟨w.1.1, w.2.1.1, w.2.2.1.1, λz hz=>have v:=w.2.2.1.2 z hz; ⟨v.2.1.1, v.2.2.1.1⟩, w.2.2.2.2.2.2.2.2.2.2.1.1⟩, (hx _ (.tail _ (.tail _ (.tail _ (.tail _ (.tail _ (.tail _ (.tail _ (.tail _ (.tail _ (.tail _ (.tail _ (.tail _ (.head _)))))))))))))).1, (hx _ (.tail _ (.tail _ (.tail _ (.tail _ (.tail _ (.tail _ (.tail _ (.tail _ (.tail _ (.tail _ (.tail _ (.tail _ (.tail _ (.head _))))))))))))))).1, (hx _ (.tail _ (.tail _ (.tail _ (.tail _ (.tail _ (.tail _ (.tail _ (.tail _ (.tail _ (.tail _ (.tail _ (.tail _ (.tail _ (.tail _ (.head _)))))))))))))))).1⟩, rfl⟩
open whole
theorem ao9:rN Tryz.prog [29, 33] = some Kf.args:=by kernel_rfl
abbrev ad0:List (String × DataW Unit):=Rows.fnExactApplyRow.laid
theorem ahr(os:Os)(args:Array Value):laidMetH Tryz.prog ad0 ((World.doorLaid Tryz.prog 400 os).forCall (λ_ _=>0) ⟨#[], args, []⟩).memory:=laidMetH_of_parts3 (fuel:=8) (laidMet_of_run' 8 (by kernel_rfl) (by kernel_rfl)) (by kernel_rfl) (by kernel_rfl)
theorem datum:(Rows.laid_internal_strconv_uint64pow10:DataW Unit) = Lib.tabData .u64 Lib.pow10Tab:=by kernel_rfl
theorem akp{W:World}(h:laidMetH Tryz.prog ad0 W):zQ W aq.ig:=by rw[MakeChecks.laidMetH_plain _ _ _ (by kernel_rfl)]at h;have h1:=h.tail.tail;rw[datum]at h1;exact aiG ahC rfl (Lib.tabIs_of_head ahC gT uT uE cE cT h1)
theorem lifted(os:Os)(started:os.Started)(H:Type)(enc:TypeId × Value -> H):
    ReturnsInHanded {} Tryz.checked os 3 .any (λw args=>(Rows.fnExactApplySpec.pre enc Tryz.prog Tryz.f3 [] false w args /\ laidMetH Tryz.prog ad0 w) /\ sizedMet enc Tryz.prog Tryz.f3 (OpenSpec.ofChange Rows.fnExactApplySpec) false w args) (Rows.fnExactApplySpec.post enc Tryz.prog Tryz.f3 false true false false):=by
  refine returnsInHanded_of_change_and (C:=Tryz.checked) (X:=λw _=>laidMetH Tryz.prog ad0 w) (λ_ _ _ hh h=>h.of_heap hh) own started (by kernel_rfl) Tryz.func3
    (ChangeSpec.witness_shaped (enc:=enc) (C:=Tryz.checked) (os:=os) (X:=λw _=>laidMetH Tryz.prog ad0 w) false (World.doorLaid Tryz.prog 400 os) #[.agg #[.int .i64 0, .int .i64 0, .int .i64 0, .int .i64 0, .int .i64 0, .int .i64 0, .int .i64 0, .int .i64 0, .int .i64 0, .int .i64 0, .int .i64 0, .slice none 0 0, .slice none 0 0, .slice none 0 0, .slice none 0 0], .agg #[.int .i64 0, .int .i64 0, .int .i64 0, .int .i64 0, .string ByteArray.empty, .int .i64 0, .int .i64 0, .int .i64 0, .int .i64 0, .int .i64 0, .int .i64 0, .bool false]] 8 rfl (World.shaped_of_RefB (by kernel_rfl) (by kernel_rfl)) (by kernel_rfl) (by kernel_rfl) (by kernel_rfl) (ahr os _)) ?_
  intro W base args ds gs before ao5 hW _ _ hL _;have hval:∀(j:Nat) t v, Tryz.f3.params[j]? = some t -> args[j]? = some v -> Value.okWide Tryz.prog W .any base t v:=ao5;have hW':=hW;obtain⟨p, q, hA0, hV, rfl, hfz, hnd⟩:=hW;have hA:DataW.TrodAll enc Tryz.prog W 0 (λ_=>true) true Tryz.f3.params.toList args.toList ds p:=hA0;rw[Tryz.params3]at hA hval;obtain⟨rfl, rfl⟩:=trodVars_none hV;have hA1:DataW.TrodAll enc Tryz.prog W 0 (λ_=>true) true [29, 33] args.toList ds p:=hA;obtain⟨v0, vs0, d0, ds0, p0, q0, asc, ash, If, h0, r0⟩:=trodAll_cons hA1;obtain⟨v1, vs1, d1, ds1, p1, q1, asd, asi, hp1, h1, r1⟩:=trodAll_cons r0;obtain⟨e1, e2, e3⟩:=trodAll_nil r1;subst e1 e2 e3 ash asi;have hc:=EQ (b0:=base) XB (akp hL) ao9 rfl rfl aiU (λj t v hj hv=>hval j t v (by simpa using hj) (by simpa using hv)) hA1;have akc:args.toList.toArray = args:=by simp
  rw[akc]at hc;refine hc.mono λe W' ⟨he, bel⟩=>?_;subst he;exact⟨_, rfl, _, _, _, [], _, [], hW', trodAll_mk1 (shut_bool Tryz.underlying4 _), DY laid rowed full (by kernel_rfl) bel hA1, rfl, bel.frame _, λh=>by cases h⟩
theorem facts:joinedFacts Tryz.prog 3 Tryz.f3 Rows.fnExactApplySpec Rows.fnExactApplyRow = true:=by
  unfold joinedFacts;rw[laid, rowed, stops, knobs, keys, heard, may, lifts, made]
  kernel_rfl
theorem over:Rows.fnExactApplyRow.holds Tryz.pinned (OpenSpec.ofChange Rows.fnExactApplySpec):=
  OpenClaim.holds_of_wide 3 Tryz.f3 rfl rfl rfl rfl rfl rfl rfl ⟨rfl, rfl, rfl, rfl, rfl⟩ rfl rfl rfl rfl rfl (by kernel_rfl) Tryz.func3 facts
    (of_decide_eq_true (by kernel_rfl)) (by unfold Func.isWrapper; first|(rw[if_pos (by decide +kernel)]; kernel_rfl)|(rw[if_neg (by decide +kernel)]; exact⟨rfl, rfl⟩))
    (λos started H enc _=>lifted os started H enc)
theorem proved:Rows.FnExactApplySaid:=over
#print axioms proved
end Go.Proofs.YtdbcclejeoljoaaGreatDoor.fnExactApply
namespace Go.Proofs.YtdbcclejeoljoaaGreatDoor
theorem aiH{P:Program}(h:P.funcs.any Func.goes = false)(f:FuncId):P.goes f = false:=by
  unfold Program.goes;rw[h, Bool.and_false, Bool.or_false];rw[Array.any_eq_false]at h;rw[List.any_eq_false];intro g _;cases hq:P.funcs[g]? with
  |none=>simp
  |some fn=>obtain⟨hi, rfl⟩:=Array.getElem?_eq_some_iff.1 hq;have:=h g hi;simpa using this
theorem agj{P:Program}(h:P.funcs.any Func.goes = false)(c:OpenClaim)(hs:c.start = .entering):false = c.goesBy P:=by
  unfold OpenClaim.goesBy Program.goesAt Program.goesFrom;rw[hs];cases P.funcNamed c.func with
  |none=>rfl
  |some f=>simp[aiH h f]
theorem asn:Tryz.prog.funcs.any Func.goes = false:=by kernel_rfl
theorem fnExactApply_holds:Rows.FnExactApplyCardSaid:=
  Claim7.holds_tied_plain_at .later [] [.data, .data, .data] true (true, "17cfed9f325d7369ecb58c0b42e1c0131904b20927a274174ac2d473a629834b") false fnExactApply.proved (λ_ h=>by cases h) (by kernel_rfl) (λ_ h=>by cases h) fnExactApply_row_tie rfl ⟨rfl, rfl⟩ (by kernel_rfl) rfl
    (λf fn hf hfn=>by
      obtain rfl:f = 3:=Option.some.inj ((show Tryz.prog.funcNamed "loop.example/g03318/laws.FnExactApply" = some 3 by kernel_rfl).symm.trans hf) |>.symm;obtain rfl:fn = Tryz.f3:=(Option.some.inj (Tryz.func3.symm.trans hfn)).symm;exact⟨by kernel_rfl, λj t ht=>by
        rw[Tryz.params3]at ht;have hm:t ∈ [29, 33]:=by simpa using Array.mem_of_getElem? ht
        have hall:([29, 33].all λu=>!Tryz.prog.wantsStandIn u) = true:=by kernel_rfl
        exact(show Tryz.prog.wantsStandIn t = false by simpa using List.all_eq_true.1 hall t hm)⟩)
    (agj asn _ rfl)
end Go.Proofs.YtdbcclejeoljoaaGreatDoor

