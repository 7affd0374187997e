/- For every argument the law FnExactWhereIs returns true and leaves its arguments as they were. Conditions: none beyond the row's. -/
import Derived.Test.YthdhgmppijjhpaaGreatDoorRows
import Derived.Test.YthdhgmppijjhpaaGreatDoorCards
import Derived.Test.YthdhgmppijjhpaaGreatDoorTie
import Derived.Test.YthdhgmppijjhpaaGreatDoorJ
import Derived.Test.YthdhgmppijjhpaaGreatDoorWhereIsKA
import Derived.WalkKit
import Derived.ProofKit
import Derived.OpenShut
import Derived.ShutString
import Derived.ChangeOld
import Derived.Below
import Derived.SizedLaws
import Derived.KernelRfl
import Derived.LaidMore
import Derived.MakeChecks
import Derived.Stop.Joined
import Derived.Stop.LaidErr
import Derived.SevenTiedAt
import Derived.Lib.LaidTab
set_option linter.unusedVariables false
set_option linter.unusedSimpArgs false
namespace Go.Proofs.YthdhgmppijjhpaaGreatDoor.fnExactWhereIs
open Go.R Go.Fn
open Go.ChangeShapes Go.WideShapes Go.ChangeAt Go.RowKit
set_option maxRecDepth 100000
theorem Qa(x:fI real ((gm.args.map Sh.ks).flatten))(hx:fI.wf _ x):∃y, gm.fn x = some y /\ (co _ y).head? = some ⟨.val .bool, (true:Bool)⟩:=⟨(true, ()), Ob x.1 x.2.1 x.2.2.1 x.2.2.2.1 x.2.2.2.2.1 x.2.2.2.2.2.1 x.2.2.2.2.2.2.1 x.2.2.2.2.2.2.2.1 x.2.2.2.2.2.2.2.2.1 x.2.2.2.2.2.2.2.2.2.1 x.2.2.2.2.2.2.2.2.2.2.1 x.2.2.2.2.2.2.2.2.2.2.2.1 x.2.2.2.2.2.2.2.2.2.2.2.2.1 x.2.2.2.2.2.2.2.2.2.2.2.2.2.1 x.2.2.2.2.2.2.2.2.2.2.2.2.2.2.1 x.2.2.2.2.2.2.2.2.2.2.2.2.2.2.2.1 ⟨(hx _ (.tail _ (.tail _ (.tail _ (.tail _ (.tail _ (.tail _ (.tail _ (.tail _ (.tail _ (.tail _ (.tail _ (.head _))))))))))))).1, fun y hy=>have w:=(hx _ (.tail _ (.tail _ (.tail _ (.tail _ (.tail _ (.tail _ (.tail _ (.tail _ (.tail _ (.tail _ (.tail _ (.head _))))))))))))).2 y hy; ⟨w.1.1, w.2.1.1, w.2.2.1.1, fun z hz=>have v:=w.2.2.1.2 z hz; ⟨v.2.1.1, v.2.2.1.1⟩, w.2.2.2.2.2.2.2.2.2.2.1.1⟩, (hx _ (.tail _ (.tail _ (.tail _ (.tail _ (.tail _ (.tail _ (.tail _ (.tail _ (.tail _ (.tail _ (.tail _ (.tail _ (.head _)))))))))))))).1, (hx _ (.tail _ (.tail _ (.tail _ (.tail _ (.tail _ (.tail _ (.tail _ (.tail _ (.tail _ (.tail _ (.tail _ (.tail _ (.tail _ (.head _))))))))))))))).1, (hx _ (.tail _ (.tail _ (.tail _ (.tail _ (.tail _ (.tail _ (.tail _ (.tail _ (.tail _ (.tail _ (.tail _ (.tail _ (.tail _ (.tail _ (.head _)))))))))))))))).1⟩, rfl⟩
open whole
theorem RI:qt Tryz.prog [29, 3] = some gm.args:=by kernel_rfl
abbrev Oz:List (String × DataW Unit):=Rows.fnExactWhereIsRow.laid
theorem PK(os:Os)(args:Array Value):laidMetH Tryz.prog Oz ((World.doorLaid Tryz.prog 400 os).forCall (fun _ _=>0) ⟨#[], args, []⟩).memory:=laidMetH_of_parts3 (fuel:=8) (laidMet_of_run' 8 (by kernel_rfl) (by kernel_rfl)) (by kernel_rfl) (by kernel_rfl)
theorem datum:(Rows.laid_internal_strconv_uint64pow10:DataW Unit) = Lib.tabData .u64 Lib.pow10Tab:=by kernel_rfl
theorem QR{W:World}(h:laidMetH Tryz.prog Oz W):xQ W aJ.gx:=by rw[MakeChecks.laidMetH_plain _ _ _ (by kernel_rfl)]at h;have h1:=h.tail.tail;rw[datum]at h1;exact Fb PN rfl (Lib.tabIs_of_head PN gT uT uE cE cT h1)
theorem lifted(os:Os)(started:os.Started)(H:Type)(enc:TypeId × Value -> H):
    ReturnsInHanded {} Tryz.checked os 3 .any (fun w args=>(Rows.fnExactWhereIsSpec.pre enc Tryz.prog Tryz.f3 [] false w args /\ laidMetH Tryz.prog Oz w) /\ sizedMet enc Tryz.prog Tryz.f3 (OpenSpec.ofChange Rows.fnExactWhereIsSpec) false w args) (Rows.fnExactWhereIsSpec.post enc Tryz.prog Tryz.f3 false true false false):=by
  refine returnsInHanded_of_change_and (C:=Tryz.checked) (X:=fun w _=>laidMetH Tryz.prog Oz w) (fun _ _ _ hh h=>h.of_heap hh) own started (by kernel_rfl) Tryz.func3
    (ChangeSpec.witness_shaped (enc:=enc) (C:=Tryz.checked) (os:=os) (X:=fun w _=>laidMetH Tryz.prog Oz w) false (World.doorLaid Tryz.prog 400 os) #[.agg #[.int .i64 0, .int .i64 0, .int .i64 0, .int .i64 0, .int .i64 0, .int .i64 0, .int .i64 0, .int .i64 0, .int .i64 0, .int .i64 0, .int .i64 0, .slice none 0 0, .slice none 0 0, .slice none 0 0, .slice none 0 0], .int .i64 0] 8 rfl (World.shaped_of_RefB (by kernel_rfl) (by kernel_rfl)) (by kernel_rfl) (by kernel_rfl) (by kernel_rfl) (PK os _)) ?_
  intro W base args ds gs before RF hW _ _ hL _;have hval:∀(j:Nat) t v, Tryz.f3.params[j]? = some t -> args[j]? = some v -> Value.okWide Tryz.prog W .any base t v:=RF;have VC:=hW;obtain⟨p, q, VB, hV, rfl, hfz, hnd⟩:=hW;have hA:DataW.TrodAll enc Tryz.prog W 0 (fun _=>true) true Tryz.f3.params.toList args.toList ds p:=VB;rw[Tryz.params3]at hA hval;obtain⟨rfl, rfl⟩:=trodVars_none hV;have Sj:DataW.TrodAll enc Tryz.prog W 0 (fun _=>true) true [29, 3] args.toList ds p:=hA;obtain⟨v0, VT, d0, VO, p0, q0, Sk, Sp, VS, h0, r0⟩:=trodAll_cons Sj;obtain⟨v1, VU, d1, VP, p1, q1, Sl, Sq, hp1, h1, r1⟩:=trodAll_cons r0;obtain⟨e1, e2, e3⟩:=trodAll_nil r1;subst e1 e2 e3 Sp Sq;have hc:=DS (b0:=base) Lu (QR hL) RI rfl rfl Qa (fun j t v hj hv=>hval j t v (by simpa using hj) (by simpa using hv)) Sj;have QK:args.toList.toArray = args:=by simp
  rw[QK]at hc;refine hc.mono fun e W' ⟨he, Uf⟩=>?_;subst he;exact⟨_, rfl, _, _, _, [], _, [], VC, trodAll_mk1 (shut_bool Tryz.underlying4 _), CU laid rowed full (by kernel_rfl) Uf Sj, rfl, Uf.frame _, fun h=>by cases h⟩
theorem facts:joinedFacts Tryz.prog 3 Tryz.f3 Rows.fnExactWhereIsSpec Rows.fnExactWhereIsRow = true:=by
  unfold joinedFacts;rw[laid, rowed, stops, knobs, keys, heard, may, lifts, made]
  kernel_rfl
theorem over:Rows.fnExactWhereIsRow.holds Tryz.pinned (OpenSpec.ofChange Rows.fnExactWhereIsSpec):=
  OpenClaim.holds_of_wide 3 Tryz.f3 rfl rfl rfl rfl rfl rfl rfl ⟨rfl, rfl, rfl, rfl, rfl⟩ rfl rfl rfl rfl rfl (by kernel_rfl) Tryz.func3 facts
    (of_decide_eq_true (by kernel_rfl)) (by unfold Func.isWrapper; first|(rw[if_pos (by decide +kernel)]; kernel_rfl)|(rw[if_neg (by decide +kernel)]; exact⟨rfl, rfl⟩))
    (fun os started H enc _=>lifted os started H enc)
theorem proved:Rows.FnExactWhereIsSaid:=over
#print axioms proved
end Go.Proofs.YthdhgmppijjhpaaGreatDoor.fnExactWhereIs
namespace Go.Proofs.YthdhgmppijjhpaaGreatDoor
theorem fnExactWhereIs_holds:Rows.FnExactWhereIsCardSaid:=
  Claim7.holds_tied_plain_at .later [] [.data, .data, .data] true (true, "4f8454d24be2ddc8750da44788245278b4f411665bc107fe46c15cfa6c2648ee") false fnExactWhereIs.proved (fun _ h=>by cases h) (by kernel_rfl) (fun _ h=>by cases h) fnExactWhereIs_row_tie rfl ⟨rfl, rfl⟩ (by kernel_rfl) rfl
    (fun f fn hf hfn=>by
      obtain rfl:f = 3:=Option.some.inj ((show Tryz.prog.funcNamed "loop.example/g03318/laws.FnExactWhereIs" = some 3 by kernel_rfl).symm.trans hf) |>.symm;obtain rfl:fn = Tryz.f3:=(Option.some.inj (Tryz.func3.symm.trans hfn)).symm;exact⟨by kernel_rfl, fun j t ht=>by
        rw[Tryz.params3]at ht;have hm:t ∈ [29, 3]:=by simpa using Array.mem_of_getElem? ht
        have hall:([29, 3].all fun u=>!Tryz.prog.wantsStandIn u) = true:=by kernel_rfl
        exact(show Tryz.prog.wantsStandIn t = false by simpa using List.all_eq_true.1 hall t hm)⟩)
    (by kernel_rfl)
end Go.Proofs.YthdhgmppijjhpaaGreatDoor

