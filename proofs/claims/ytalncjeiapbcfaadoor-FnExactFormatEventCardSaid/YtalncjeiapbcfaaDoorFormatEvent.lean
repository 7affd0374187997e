/- For every argument the law FnExactFormatEvent returns true and leaves its arguments as they were. Conditions: none beyond the row's. -/
import Derived.Test.YtalncjeiapbcfaaDoorRows
import Derived.Test.YtalncjeiapbcfaaDoorCards
import Derived.Test.YtalncjeiapbcfaaDoorTie
import Derived.Test.YtalncjeiapbcfaaDoorJ
import Derived.Test.YtalncjeiapbcfaaDoorFormatEventKA
import Derived.WalkKit
import Derived.ProofKit
import Derived.OpenShut
import Derived.ShutString
import Derived.ChangeOld
import Derived.Below
import Derived.SizedLaws
import Derived.KernelRfl
import Derived.LaidMore
import Derived.MakeChecks
import Derived.Stop.Joined
import Derived.Stop.LaidErr
import Derived.SevenTiedAt
import Derived.Lib.LaidTab
set_option linter.unusedVariables false
set_option linter.unusedSimpArgs false
namespace Go.Proofs.YtalncjeiapbcfaaDoor.fnExactFormatEvent
open Go.R Go.Fn
open Go.ChangeShapes Go.WideShapes Go.ChangeAt Go.RowKit
set_option maxRecDepth 100000
theorem nn(x:fI real ((bf.args.map Sh.ks).flatten))(hx:fI.wf _ x):∃y, bf.fn x = some y /\ (co _ y).head? = some ⟨.val .bool, (true:Bool)⟩:=⟨(true, ()), ey x.1 x.2.1 x.2.2.1 x.2.2.2.1 x.2.2.2.2.1 x.2.2.2.2.2.1 x.2.2.2.2.2.2.1, rfl⟩
open whole
theorem tv:qt Tryd.prog [23] = some bf.args:=by kernel_rfl
abbrev ia:List (String × DataW Unit):=Rows.fnExactFormatEventRow.laid
theorem k3(os:Os)(args:Array Value):laidMetH Tryd.prog ia ((World.doorLaid Tryd.prog 400 os).forCall (fun _ _=>0) ⟨#[], args, []⟩).memory:=laidMetH_of_parts3 (fuel:=8) (laidMet_of_run' 8 (by kernel_rfl) (by kernel_rfl)) (by kernel_rfl) (by kernel_rfl)
theorem datum:(Rows.laid_internal_strconv_uint64pow10:DataW Unit) = Lib.tabData .u64 Lib.pow10Tab:=by kernel_rfl
theorem rm{W:World}(h:laidMetH Tryd.prog ia W):xQ W aJ.gx:=by rw[MakeChecks.laidMetH_plain _ _ _ (by kernel_rfl)]at h;have h1:=h.tail.tail;rw[datum]at h1;exact Fb k6 rfl (Lib.tabIs_of_head k6 gT uT uE cE cT h1)
theorem lifted(os:Os)(started:os.Started)(H:Type)(enc:TypeId × Value -> H):
    ReturnsInHanded {} Tryd.checked os 3 .any (fun w args=>(Rows.fnExactFormatEventSpec.pre enc Tryd.prog Tryd.f3 [] false w args /\ laidMetH Tryd.prog ia w) /\ sizedMet enc Tryd.prog Tryd.f3 (OpenSpec.ofChange Rows.fnExactFormatEventSpec) false w args) (Rows.fnExactFormatEventSpec.post enc Tryd.prog Tryd.f3 false true false false):=by
  refine returnsInHanded_of_change_and (C:=Tryd.checked) (X:=fun w _=>laidMetH Tryd.prog ia w) (fun _ _ _ hh h=>h.of_heap hh) own started (by kernel_rfl) Tryd.func3
    (ChangeSpec.witness_shaped (enc:=enc) (C:=Tryd.checked) (os:=os) (X:=fun w _=>laidMetH Tryd.prog ia w) false (World.doorLaid Tryd.prog 400 os) #[.agg #[.int .i64 0, .int .i64 0, .int .i64 0, .int .i64 0, .int .i64 0, .int .i64 0, .int .i64 0]] 8 rfl (World.shaped_of_RefB (by kernel_rfl) (by kernel_rfl)) (by kernel_rfl) (by kernel_rfl) (by kernel_rfl) (k3 os _)) ?_
  intro W base args ds gs before s3 hW _ _ hL _;have hval:∀(j:Nat) t v, Tryd.f3.params[j]? = some t -> args[j]? = some v -> Value.okWide Tryd.prog W .any base t v:=s3;have At:=hW;obtain⟨p, q, z1, hV, rfl, hfz, hnd⟩:=hW;have hA:DataW.TrodAll enc Tryd.prog W 0 (fun _=>true) true Tryd.f3.params.toList args.toList ds p:=z1;rw[Tryd.params3]at hA hval;obtain⟨rfl, rfl⟩:=trodVars_none hV;have vn:DataW.TrodAll enc Tryd.prog W 0 (fun _=>true) true [23] args.toList ds p:=hA;obtain⟨v0, IA, d0, D3, p0, q0, vv, vw, FI, h0, r0⟩:=trodAll_cons vn;obtain⟨e1, e2, e3⟩:=trodAll_nil r0;subst e1 e2 e3 vw;have hc:=DS (b0:=base) ec (rm hL) tv rfl rfl nn (fun j t v hj hv=>hval j t v (by simpa using hj) (by simpa using hv)) vn;have qk:args.toList.toArray = args:=by simp
  rw[qk]at hc;refine hc.mono fun e W' ⟨he, ye⟩=>?_;subst he;exact⟨_, rfl, _, _, _, [], _, [], At, trodAll_mk1 (shut_bool Tryd.underlying4 _), CU laid rowed full (by kernel_rfl) ye vn, rfl, ye.frame _, fun h=>by cases h⟩
theorem facts:joinedFacts Tryd.prog 3 Tryd.f3 Rows.fnExactFormatEventSpec Rows.fnExactFormatEventRow = true:=by
  unfold joinedFacts;rw[laid, rowed, stops, knobs, keys, heard, may, lifts, made]
  kernel_rfl
theorem over:Rows.fnExactFormatEventRow.holds Tryd.pinned (OpenSpec.ofChange Rows.fnExactFormatEventSpec):=
  OpenClaim.holds_of_wide 3 Tryd.f3 rfl rfl rfl rfl rfl rfl rfl ⟨rfl, rfl, rfl, rfl, rfl⟩ rfl rfl rfl rfl rfl (by kernel_rfl) Tryd.func3 facts
    (of_decide_eq_true (by kernel_rfl)) (by unfold Func.isWrapper; first|(rw[if_pos (by decide +kernel)]; kernel_rfl)|(rw[if_neg (by decide +kernel)]; exact⟨rfl, rfl⟩))
    (fun os started H enc _=>lifted os started H enc)
theorem proved:Rows.FnExactFormatEventSaid:=over
#print axioms proved
end Go.Proofs.YtalncjeiapbcfaaDoor.fnExactFormatEvent
namespace Go.Proofs.YtalncjeiapbcfaaDoor
theorem fnExactFormatEvent_holds:Rows.FnExactFormatEventCardSaid:=
  Claim7.holds_tied_plain_at .later [] [.data, .data, .data] true (true, "b213377430e2198bbca689e130a9566df85e3de2d6ee86b95a63b3caa97f9170") false fnExactFormatEvent.proved (fun _ h=>by cases h) (by kernel_rfl) (fun _ h=>by cases h) fnExactFormatEvent_row_tie rfl ⟨rfl, rfl⟩ (by kernel_rfl) rfl
    (fun f fn hf hfn=>by
      obtain rfl:f = 3:=Option.some.inj ((show Tryd.prog.funcNamed "loop.example/g03318/laws.FnExactFormatEvent" = some 3 by kernel_rfl).symm.trans hf) |>.symm;obtain rfl:fn = Tryd.f3:=(Option.some.inj (Tryd.func3.symm.trans hfn)).symm;exact⟨by kernel_rfl, fun j t ht=>by
        rw[Tryd.params3]at ht;have hm:t ∈ [23]:=by simpa using Array.mem_of_getElem? ht
        have hall:([23].all fun u=>!Tryd.prog.wantsStandIn u) = true:=by kernel_rfl
        exact(show Tryd.prog.wantsStandIn t = false by simpa using List.all_eq_true.1 hall t hm)⟩)
    (by kernel_rfl)
end Go.Proofs.YtalncjeiapbcfaaDoor

