/- For every argument the law FnExactRunNetwork returns true and leaves its arguments as they were. Conditions: none beyond the row's. -/
import Derived.Test.YtdbcclejeoljoaaGreatDoorRows
import Derived.Test.YtdbcclejeoljoaaGreatDoorCards
import Derived.Test.YtdbcclejeoljoaaGreatDoorTie
import Derived.Test.YtdbcclejeoljoaaGreatDoorJ
import Derived.Test.YtdbcclejeoljoaaGreatDoorRunNetworkKA
import Derived.WalkKit
import Derived.ProofKit
import Derived.OpenShut
import Derived.ShutString
import Derived.ChangeOld
import Derived.Below
import Derived.SizedLaws
import Derived.KernelRfl
import Derived.LaidMore
import Derived.MakeChecks
import Derived.Stop.Joined
import Derived.Stop.LaidErr
import Derived.SevenTiedAt
import Derived.Lib.LaidTab
set_option linter.unusedVariables false
set_option linter.unusedSimpArgs false
namespace Go.Proofs.YtdbcclejeoljoaaGreatDoor.fnExactRunNetwork
open Go.R Go.Fn
open Go.ChangeShapes Go.WideShapes Go.ChangeAt Go.RowKit
set_option maxRecDepth 100000
theorem ajr(x:fE real ((Jw.args.map Sh.ks).flatten))(hx:fE.wf _ x):∃y, Jw.fn x = some y /\ (bJ _ y).head? = some ⟨.val .bool, (true:Bool)⟩:=⟨(true, ()), aiu x.1 x.2.1 x.2.2.1 x.2.2.2.1 x.2.2.2.2.1 x.2.2.2.2.2.1 x.2.2.2.2.2.2.1 x.2.2.2.2.2.2.2.1 x.2.2.2.2.2.2.2.2.1 x.2.2.2.2.2.2.2.2.2.1 x.2.2.2.2.2.2.2.2.2.2.1 x.2.2.2.2.2.2.2.2.2.2.2.1 x.2.2.2.2.2.2.2.2.2.2.2.2.1 x.2.2.2.2.2.2.2.2.2.2.2.2.2.1 x.2.2.2.2.2.2.2.2.2.2.2.2.2.2.1 x.2.2.2.2.2.2.2.2.2.2.2.2.2.2.2.1 ⟨(hx _ (.tail _ (.tail _ (.tail _ (.tail _ (.tail _ (.tail _ (.tail _ (.tail _ (.tail _ (.tail _ (.tail _ (.head _))))))))))))).1, λy hy=>have w:=(hx _ (.tail _ (.tail _ (.tail _ (.tail _ (.tail _ (.tail _ (.tail _ (.tail _ (.tail _ (.tail _ (.tail _ (.head _))))))))))))).2 y hy; ⟨w.1.1, w.2.1.1, w.2.2.1.1, λz hz=>have v:=w.2.2.1.2 z hz; ⟨v.2.1.1, v.2.2.1.1⟩, w.2.2.2.2.2.2.2.2.2.2.1.1⟩, (hx _ (.tail _ (.tail _ (.tail _ (.tail _ (.tail _ (.tail _ (.tail _ (.tail _ (.tail _ (.tail _ (.tail _ (.tail _ (.head _)))))))))))))).1, (hx _ (.tail _ (.tail _ (.tail _ (.tail _ (.tail _ (.tail _ (.tail _ (.tail _ (.tail _ (.tail _ (.tail _ (.tail _ (.tail _ (.head _))))))))))))))).1, (hx _ (.tail _ (.tail _ (.tail _ (.tail _ (.tail _ (.tail _ (.tail _ (.tail _ (.tail _ (.tail _ (.tail _ (.tail _ (.tail _ (.tail _ (.head _)))))))))))))))).1⟩ (hx _ (.tail _ (.tail _ (.tail _ (.tail _ (.tail _ (.tail _ (.tail _ (.tail _ (.tail _ (.tail _ (.tail _ (.tail _ (.tail _ (.tail _ (.tail _ (.head _))))))))))))))))).1, rfl⟩
open whole
theorem ap0:rN Tryz.prog [29, 53] = some Jw.args:=by kernel_rfl
abbrev aeq:List (String × DataW Unit):=Rows.fnExactRunNetworkRow.laid
theorem ahQ(os:Os)(args:Array Value):laidMetH Tryz.prog aeq ((World.doorLaid Tryz.prog 400 os).forCall (λ_ _=>0) ⟨#[], args, []⟩).memory:=laidMetH_of_parts3 (fuel:=8) (laidMet_of_run' 8 (by kernel_rfl) (by kernel_rfl)) (by kernel_rfl) (by kernel_rfl)
theorem datum:(Rows.laid_internal_strconv_uint64pow10:DataW Unit) = Lib.tabData .u64 Lib.pow10Tab:=by kernel_rfl
theorem akZ{W:World}(h:laidMetH Tryz.prog aeq W):zQ W aq.ig:=by rw[MakeChecks.laidMetH_plain _ _ _ (by kernel_rfl)]at h;have h1:=h.tail.tail;rw[datum]at h1;exact ajd ah1 rfl (Lib.tabIs_of_head ah1 gT uT uE cE cT h1)
theorem lifted(os:Os)(started:os.Started)(H:Type)(enc:TypeId × Value -> H):
    ReturnsInHanded {} Tryz.checked os 4 .any (λw args=>(Rows.fnExactRunNetworkSpec.pre enc Tryz.prog Tryz.f4 [] false w args /\ laidMetH Tryz.prog aeq w) /\ sizedMet enc Tryz.prog Tryz.f4 (OpenSpec.ofChange Rows.fnExactRunNetworkSpec) false w args) (Rows.fnExactRunNetworkSpec.post enc Tryz.prog Tryz.f4 false true false false):=by
  refine returnsInHanded_of_change_and (C:=Tryz.checked) (X:=λw _=>laidMetH Tryz.prog aeq w) (λ_ _ _ hh h=>h.of_heap hh) own started (by kernel_rfl) Tryz.func4
    (ChangeSpec.witness_shaped (enc:=enc) (C:=Tryz.checked) (os:=os) (X:=λw _=>laidMetH Tryz.prog aeq w) false (World.doorLaid Tryz.prog 400 os) #[.agg #[.int .i64 0, .int .i64 0, .int .i64 0, .int .i64 0, .int .i64 0, .int .i64 0, .int .i64 0, .int .i64 0, .int .i64 0, .int .i64 0, .int .i64 0, .slice none 0 0, .slice none 0 0, .slice none 0 0, .slice none 0 0], .slice none 0 0] 8 rfl (World.shaped_of_RefB (by kernel_rfl) (by kernel_rfl)) (by kernel_rfl) (by kernel_rfl) (by kernel_rfl) (ahQ os _)) ?_
  intro W base args ds gs before apW hW _ _ hL _;have hval:∀(j:Nat) t v, Tryz.f4.params[j]? = some t -> args[j]? = some v -> Value.okWide Tryz.prog W .any base t v:=apW;have hW':=hW;obtain⟨p, q, hA0, hV, rfl, hfz, hnd⟩:=hW;have hA:DataW.TrodAll enc Tryz.prog W 0 (λ_=>true) true Tryz.f4.params.toList args.toList ds p:=hA0;rw[Tryz.params4]at hA hval;obtain⟨rfl, rfl⟩:=trodVars_none hV;have hA1:DataW.TrodAll enc Tryz.prog W 0 (λ_=>true) true [29, 53] args.toList ds p:=hA;obtain⟨v0, vs0, d0, ds0, p0, q0, as6, atb, If, h0, r0⟩:=trodAll_cons hA1;obtain⟨v1, vs1, d1, ds1, p1, q1, as7, atc, hp1, h1, r1⟩:=trodAll_cons r0;obtain⟨e1, e2, e3⟩:=trodAll_nil r1;subst e1 e2 e3 atb atc;have hc:=EQ (b0:=base) Ut (akZ hL) ap0 rfl rfl ajr (λj t v hj hv=>hval j t v (by simpa using hj) (by simpa using hv)) hA1;have akL:args.toList.toArray = args:=by simp
  rw[akL]at hc;refine hc.mono λe W' ⟨he, bel⟩=>?_;subst he;exact⟨_, rfl, _, _, _, [], _, [], hW', trodAll_mk1 (shut_bool Tryz.underlying4 _), DY laid rowed full (by kernel_rfl) bel hA1, rfl, bel.frame _, λh=>by cases h⟩
theorem facts:joinedFacts Tryz.prog 4 Tryz.f4 Rows.fnExactRunNetworkSpec Rows.fnExactRunNetworkRow = true:=by
  unfold joinedFacts;rw[laid, rowed, stops, knobs, keys, heard, may, lifts, made]
  kernel_rfl
theorem over:Rows.fnExactRunNetworkRow.holds Tryz.pinned (OpenSpec.ofChange Rows.fnExactRunNetworkSpec):=
  OpenClaim.holds_of_wide 4 Tryz.f4 rfl rfl rfl rfl rfl rfl rfl ⟨rfl, rfl, rfl, rfl, rfl⟩ rfl rfl rfl rfl rfl (by kernel_rfl) Tryz.func4 facts
    (of_decide_eq_true (by kernel_rfl)) (by unfold Func.isWrapper; first|(rw[if_pos (by decide +kernel)]; kernel_rfl)|(rw[if_neg (by decide +kernel)]; exact⟨rfl, rfl⟩))
    (λos started H enc _=>lifted os started H enc)
theorem proved:Rows.FnExactRunNetworkSaid:=over
#print axioms proved
end Go.Proofs.YtdbcclejeoljoaaGreatDoor.fnExactRunNetwork
namespace Go.Proofs.YtdbcclejeoljoaaGreatDoor
theorem aje{P:Program}(h:P.funcs.any Func.goes = false)(f:FuncId):P.goes f = false:=by
  unfold Program.goes;rw[h, Bool.and_false, Bool.or_false];rw[Array.any_eq_false]at h;rw[List.any_eq_false];intro g _;cases hq:P.funcs[g]? with
  |none=>simp
  |some fn=>obtain⟨hi, rfl⟩:=Array.getElem?_eq_some_iff.1 hq;have:=h g hi;simpa using this
theorem agI{P:Program}(h:P.funcs.any Func.goes = false)(c:OpenClaim)(hs:c.start = .entering):false = c.goesBy P:=by
  unfold OpenClaim.goesBy Program.goesAt Program.goesFrom;rw[hs];cases P.funcNamed c.func with
  |none=>rfl
  |some f=>simp[aje h f]
theorem atg:Tryz.prog.funcs.any Func.goes = false:=by kernel_rfl
theorem fnExactRunNetwork_holds:Rows.FnExactRunNetworkCardSaid:=
  Claim7.holds_tied_plain_at .later [] [.data, .data, .data] true (true, "17cfed9f325d7369ecb58c0b42e1c0131904b20927a274174ac2d473a629834b") false fnExactRunNetwork.proved (λ_ h=>by cases h) (by kernel_rfl) (λ_ h=>by cases h) fnExactRunNetwork_row_tie rfl ⟨rfl, rfl⟩ (by kernel_rfl) rfl
    (λf fn hf hfn=>by
      obtain rfl:f = 4:=Option.some.inj ((show Tryz.prog.funcNamed "loop.example/g03318/laws.FnExactRunNetwork" = some 4 by kernel_rfl).symm.trans hf) |>.symm;obtain rfl:fn = Tryz.f4:=(Option.some.inj (Tryz.func4.symm.trans hfn)).symm;exact⟨by kernel_rfl, λj t ht=>by
        rw[Tryz.params4]at ht;have hm:t ∈ [29, 53]:=by simpa using Array.mem_of_getElem? ht
        have hall:([29, 53].all λu=>!Tryz.prog.wantsStandIn u) = true:=by kernel_rfl
        exact(show Tryz.prog.wantsStandIn t = false by simpa using List.all_eq_true.1 hall t hm)⟩)
    (agI atg _ rfl)
end Go.Proofs.YtdbcclejeoljoaaGreatDoor

