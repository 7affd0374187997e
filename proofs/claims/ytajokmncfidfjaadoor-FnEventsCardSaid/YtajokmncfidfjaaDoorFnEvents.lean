/- For every argument the law FnEvents returns true and leaves its arguments as they were. Conditions: none beyond the row's. -/
import Derived.Test.YtajokmncfidfjaaDoorRows
import Derived.Test.YtajokmncfidfjaaDoorCards
import Derived.Test.YtajokmncfidfjaaDoorTie
import Derived.Test.YtajokmncfidfjaaDoorJ
import Derived.Test.YtajokmncfidfjaaDoorFnEventsKA
import Derived.WalkKit
import Derived.ProofKit
import Derived.OpenShut
import Derived.ShutString
import Derived.ChangeOld
import Derived.Below
import Derived.SizedLaws
import Derived.KernelRfl
import Derived.LaidMore
import Derived.MakeChecks
import Derived.Stop.Joined
import Derived.Stop.LaidErr
import Derived.SevenTiedAt
import Derived.Lib.LaidTab
set_option linter.unusedVariables false
set_option linter.unusedSimpArgs false
namespace Go.Proofs.YtajokmncfidfjaaDoor.fnEvents
open Go.R Go.Fn
open Go.ChangeShapes Go.WideShapes Go.ChangeAt Go.RowKit
set_option maxRecDepth 100000
theorem PI(x:fI real ((JN.args.map Sh.ks).flatten))(hx:fI.wf _ x):∃y, JN.fn x = some y /\ (co _ y).head? = some ⟨.val .bool, (true:Bool)⟩:=⟨(true, ()), M1 x.1, rfl⟩
open whole
theorem Rp:qt Tryd.prog [22] = some JN.args:=by kernel_rfl
abbrev M6:List (String × DataW Unit):=Rows.fnEventsRow.laid
theorem OH(os:Os)(args:Array Value):laidMetH Tryd.prog M6 ((World.doorLaid Tryd.prog 400 os).forCall (fun _ _=>0) ⟨#[], args, []⟩).memory:=laidMetH_of_parts3 (fuel:=8) (laidMet_of_run' 8 (by kernel_rfl) (by kernel_rfl)) (by kernel_rfl) (by kernel_rfl)
theorem datum:(Rows.laid_internal_strconv_uint64pow10:DataW Unit) = Lib.tabData .u64 Lib.pow10Tab:=by kernel_rfl
theorem QA{W:World}(h:laidMetH Tryd.prog M6 W):xQ W aJ.gx:=by rw[MakeChecks.laidMetH_plain _ _ _ (by kernel_rfl)]at h;have h1:=h.tail.tail;rw[datum]at h1;exact Fb OL rfl (Lib.tabIs_of_head OL gT uT uE cE cT h1)
theorem lifted(os:Os)(started:os.Started)(H:Type)(enc:TypeId × Value -> H):
    ReturnsInHanded {} Tryd.checked os 3 .any (fun w args=>(Rows.fnEventsSpec.pre enc Tryd.prog Tryd.f3 [] false w args /\ laidMetH Tryd.prog M6 w) /\ sizedMet enc Tryd.prog Tryd.f3 (OpenSpec.ofChange Rows.fnEventsSpec) false w args) (Rows.fnEventsSpec.post enc Tryd.prog Tryd.f3 false true false false):=by
  refine returnsInHanded_of_change_and (C:=Tryd.checked) (X:=fun w _=>laidMetH Tryd.prog M6 w) (fun _ _ _ hh h=>h.of_heap hh) own started (by kernel_rfl) Tryd.func3
    (ChangeSpec.witness_shaped (enc:=enc) (C:=Tryd.checked) (os:=os) (X:=fun w _=>laidMetH Tryd.prog M6 w) false (World.doorLaid Tryd.prog 400 os) #[.slice none 0 0] 8 rfl (World.shaped_of_RefB (by kernel_rfl) (by kernel_rfl)) (by kernel_rfl) (by kernel_rfl) (by kernel_rfl) (OH os _)) ?_
  intro W base args ds gs before Rl hW _ _ hL _;have hval:∀(j:Nat) t v, Tryd.f3.params[j]? = some t -> args[j]? = some v -> Value.okWide Tryd.prog W .any base t v:=Rl;have Ui:=hW;obtain⟨p, q, TY, hV, rfl, hfz, hnd⟩:=hW;have hA:DataW.TrodAll enc Tryd.prog W 0 (fun _=>true) true Tryd.f3.params.toList args.toList ds p:=TY;rw[Tryd.params3]at hA hval;obtain⟨rfl, rfl⟩:=trodVars_none hV;have R2:DataW.TrodAll enc Tryd.prog W 0 (fun _=>true) true [22] args.toList ds p:=hA;obtain⟨v0, UP, d0, UH, p0, q0, R4, Sa, UN, h0, r0⟩:=trodAll_cons R2;obtain⟨e1, e2, e3⟩:=trodAll_nil r0;subst e1 e2 e3 Sa;have hc:=DS (b0:=base) L8 (QA hL) Rp rfl rfl PI (fun j t v hj hv=>hval j t v (by simpa using hj) (by simpa using hv)) R2;have Qk:args.toList.toArray = args:=by simp
  rw[Qk]at hc;refine hc.mono fun e W' ⟨he, Ta⟩=>?_;subst he;exact⟨_, rfl, _, _, _, [], _, [], Ui, trodAll_mk1 (shut_bool Tryd.underlying4 _), CU laid rowed full (by kernel_rfl) Ta R2, rfl, Ta.frame _, fun h=>by cases h⟩
theorem facts:joinedFacts Tryd.prog 3 Tryd.f3 Rows.fnEventsSpec Rows.fnEventsRow = true:=by
  unfold joinedFacts;rw[laid, rowed, stops, knobs, keys, heard, may, lifts, made]
  kernel_rfl
theorem over:Rows.fnEventsRow.holds Tryd.pinned (OpenSpec.ofChange Rows.fnEventsSpec):=
  OpenClaim.holds_of_wide 3 Tryd.f3 rfl rfl rfl rfl rfl rfl rfl ⟨rfl, rfl, rfl, rfl, rfl⟩ rfl rfl rfl rfl rfl (by kernel_rfl) Tryd.func3 facts
    (of_decide_eq_true (by kernel_rfl)) (by unfold Func.isWrapper; first|(rw[if_pos (by decide +kernel)]; kernel_rfl)|(rw[if_neg (by decide +kernel)]; exact⟨rfl, rfl⟩))
    (fun os started H enc _=>lifted os started H enc)
theorem proved:Rows.FnEventsSaid:=over
#print axioms proved
end Go.Proofs.YtajokmncfidfjaaDoor.fnEvents
namespace Go.Proofs.YtajokmncfidfjaaDoor
theorem fnEvents_holds:Rows.FnEventsCardSaid:=
  Claim7.holds_tied_plain_at .later [] [.data, .data, .data] true (true, "00929ff96e2b1511b6049fd598a3602c46653b11cc300a4b06136950d6a5f3c9") false fnEvents.proved (fun _ h=>by cases h) (by kernel_rfl) (fun _ h=>by cases h) fnEvents_row_tie rfl ⟨rfl, rfl⟩ (by kernel_rfl) rfl
    (fun f fn hf hfn=>by
      obtain rfl:f = 3:=Option.some.inj ((show Tryd.prog.funcNamed "loop.example/g03318/laws.FnEvents" = some 3 by kernel_rfl).symm.trans hf) |>.symm;obtain rfl:fn = Tryd.f3:=(Option.some.inj (Tryd.func3.symm.trans hfn)).symm;exact⟨by kernel_rfl, fun j t ht=>by
        rw[Tryd.params3]at ht;have hm:t ∈ [22]:=by simpa using Array.mem_of_getElem? ht
        have hall:([22].all fun u=>!Tryd.prog.wantsStandIn u) = true:=by kernel_rfl
        exact(show Tryd.prog.wantsStandIn t = false by simpa using List.all_eq_true.1 hall t hm)⟩)
    (by kernel_rfl)
end Go.Proofs.YtajokmncfidfjaaDoor

