import Derived.Test.YtajokmncfidfjaaRC
import Derived.Conc.MuLone
import Derived.Laws.StructEq
/- An abstract interpreter over the code of Go functions, proved sound once: what it answers, the code computes. Conditions: none. -/
set_option autoImplicit false
set_option linter.unusedVariables false
set_option linter.unusedSimpArgs false
set_option maxRecDepth 4000
namespace Go.R
variable {Hv:Nat->Value}
theorem count_set:∀(l:List Bool) (i:Nat),l[i]? = some false->(l.set i true).countP (fun b=>!b)+1=l.countP (fun b=>!b)
 | [],i,h=>by simp at h
 |b::l,0,h=>by simp at h;subst h;simp
 |b::l,i+1,h=>by have:=count_set l i (by simpa using h);simp only[List.set_cons_succ,List.countP_cons];omega
theorem vY{l:List Bool}(h:l.countP (fun b=>!b)=0)(i:Nat)(hi:i<l.length):l[i]? = some true:=by rw[List.countP_eq_zero]at h;have:=h _ (List.getElem_mem hi);rw[List.getElem?_eq_getElem hi];simpa using this
section
variable {R:Type} {P:Program} {E:Env} {Ψ:bV->Option ij} {ops:Array Oper} {st:Nat->S}
theorem qX{D:Array Bool}{i:Nat}:Up D i↔D.toList[i]? = some true:=by
 unfold Up;rw[Array.getD_eq_getD_getElem?,Array.getElem?_toList];cases D[i]? with
 |none=>simp
 |some b=>simp
theorem Rel.drawn{ω:aJ}{a:Act}{w w':World}{s:S}(h:Rel Hv ω a w s)(hw:w'.heap=w.heap)(he:dr ω w ω w'):Rel Hv ω a w' s where
 dP:=h.dP.ext he
 inj:=h.inj
 dom b k hb:=by rw[hw];exact h.dom b k hb
 defers:=h.defers
 dR:=h.dR
 slots i:=dh.frame he (fun id=>gq.tr ⟨rfl,fun b k _ _ _=>⟨by rw[hw],rfl⟩⟩ he h.dom) (h.slots i)
 dB id cells hc:=by obtain⟨b,arr,T,h1,h2,h3⟩:=h.dB id cells hc;exact⟨b,arr,T,h1,by rw[hw];exact h2,h3.mono fun _ _ hl=>cA.frame he (fun id=>gq.tr ⟨rfl,fun b k _ _ _=>⟨by rw[hw],rfl⟩⟩ he h.dom) hl⟩
theorem qY(hE:cq P E)(hC:gQ P E Ψ){U:Nat -> Prop}(H:tU E Ψ ops st)(ru:∀(i:Nat) (o:Oper), ops.toList[i]? = some o -> sr E o.dst = true)(hU:∀o ∈ ops.toList, ∀j, U j -> o.dst ≠ some j):
    ∀(fuel:Nat) (D:Array Bool) (ω:aJ) (a:Act) (w:World) (cur:S) (Qn:Exit -> Act -> World -> Prop), D.size = ops.size -> D.toList.countP (fun b=>!b) = fuel -> At ops st D cur -> a.tmps.size = E.nt -> Rel Hv ω a w cur ->
    (∀aI a' w', Rel Hv aI a' w' (st ops.toList.length) -> dr ω w aI w' -> a'.tmps.size = a.tmps.size -> (∀j, U j -> a'.tmps.getD j undef = a.tmps.getD j undef) -> Qn .normal a' w') -> wpAny P .any ops Qn fuel D a w
  |fuel, D, ω, a, w, cur, Qn, hD, hc, hA, hn, hR, hQ=>by
    have hlen:ops.toList.length = D.toList.length:=by simp[hD]
    have fin:Region.ready .any ops D = [] -> Qn .normal a w:=by
      intro hr;have hall:∀(i:Nat), i<ops.toList.length -> Up D i:=by
        intro i;induction i using Nat.strongRecOn with
        |ind i ih=>
          intro hi;cases hu:D.getD i false with
          |true=>exact hu
          |false=>
            exfalso;have BD:=List.getElem?_eq_getElem hi;have hmem:i ∈ Region.ready .any ops D:=by
              refine mem_ready.2 ⟨?_, ops.toList[i], by simp, fun e he hb=>?_⟩
              · have Aw:i<D.size:=by rw[hD]; simpa using hi
                rw[Array.getD_eq_getD_getElem?]at hu⊢;rw[Array.getElem?_eq_getElem Aw]at hu⊢;simpa using hu
              · have hlt:=(H.stat i _ BD).back e (by simpa using he) hb
                exact ih e.on hlt (Nat.lt_trans hlt hi)
            rw[hr]at hmem;cases hmem
      rw[H.all hA hall]at hR;exact hQ ω a w hR (dr.refl _ _) rfl (fun _ _=>rfl)
    cases fuel with
    |zero=>
      have hr:Region.ready .any ops D = []:=by
        cases hr:Region.ready .any ops D with
        |nil=>rfl
        |cons i l=>
          exfalso;have hmem:i ∈ Region.ready .any ops D:=by rw[hr]; simp
          obtain⟨Eu, o, ho, _⟩:=mem_ready.1 hmem;have HF:i<D.toList.length:=by
            rw[<- hlen];rcases Nat.lt_or_ge i ops.size with h|h
            · simpa using h
            · rw[Array.getElem?_eq_none h]at ho; cases ho
          have:=vY hc i HF;rw[Array.getD_eq_getD_getElem?, <- Array.getElem?_toList, this]at Eu;cases Eu
      exact⟨hr, fin hr⟩
    |succ fuel=>
      refine⟨fin, fun i hi=>?_⟩;obtain⟨Eu, o, cU, hall⟩:=mem_ready.1 hi;have ho:ops.toList[i]? = some o:=by rw[Array.getElem?_toList]; exact cU
      have pP:i<ops.size:=by
        rcases Nat.lt_or_ge i ops.size with h|h
        · exact h
        · rw[Array.getElem?_eq_none h]at cU; cases cU
      have Aw:i<D.size:=by rw[hD]; exact pP
      have hfalse:D.toList[i]? = some false:=by rw[Array.getElem?_toList, Array.getElem?_eq_getElem Aw];rw[Array.getD_eq_getD_getElem?, Array.getElem?_eq_getElem Aw]at Eu;simpa using Eu
      have HM:¬Up D i:=by rw[qX, hfalse]; simp
      obtain⟨c8, hst, GD⟩:=H.any hD hA ho HM (fun e he hb=>hall e (by simpa using he) hb);have eo:(D.setIfInBounds i true).toList.countP (fun b=>!b) = fuel:=by rw[Array.toList_setIfInBounds];have:=count_set _ i hfalse;omega
      have hd:∀d, o.dst = some d -> d<a.tmps.size:=by intro d e;have:=ru i o ho;rw[e]at this;have h1:d + 1 <= E.nt:=Nat.le_of_ble_eq_true this;rw[hn]; exact h1
      have Ee:=hU o (List.mem_of_getElem? ho);have yes:step1 E Ψ o cur = some c8 -> o.wp P a w (wpAny P .any ops Qn fuel (D.setIfInBounds i true)) Qn:=by
        intro h1;refine Oper.wp_mono (fun a' w' oc=>?_) (vq (R:=S) (k:=some) hE hC hR hd h1);obtain⟨aI, s', g1, g2, g3, g4, g5⟩:=oc;injection g3 with g3
        subst g3;refine qY hE hC H ru hU fuel _ aI a' w' s' Qn (by simpa using hD) eo GD (g4.trans hn) g1 (fun bZ a2 w2 q1 q2 q4 q5=>?_);exact hQ bZ a2 w2 q1 (g2.trans q2) (q4.trans g4) (fun j hj=>(q5 j hj).trans (g5 j (Ee j hj)))
      have no:c8 = cur.ck o.dst (.one .undef) -> wpAny P .any ops Qn fuel (D.setIfInBounds i true) (a.put o.dst undef) w:=by
        intro h1;have DI:Rel Hv ω (a.put o.dst undef) w c8:=by rw[h1]; exact hR.ck hd (t:=.one .undef) rfl
        refine qY hE hC H ru hU fuel _ ω _ w c8 Qn (by simpa using hD) eo GD ((i7 _ _ _).trans hn) DI (fun bZ a2 w2 q1 q2 q4 q5=>?_);exact hQ bZ a2 w2 q1 q2 (q4.trans (i7 _ _ _)) (fun j hj=>(q5 j hj).trans (kR _ _ _ (Ee j hj)))
      unfold wpOp;rw[cU];simp only[];have hw:∀b, dJ ops o cur = some b -> Region.wanted o (yielded ops a.tmps) = b:=by
        intro b hg;unfold dJ at hg;cases hgd:o.guard with
        |none=>rw[hgd]at hg; injection hg with hg; subst hg; simp[Region.wanted, hgd]
        |some gw=>
          obtain⟨j, want⟩:=gw;rw[hgd]at hg;simp only[]at hg;cases ht:(ops[j]?).bind (·.dst)with
          |none=>rw[ht]at hg; cases hg
          |some t=>
            rw[ht]at hg;simp only[]at hg;have jO:=hR.slots t;cases hs:cur.sl t with
            |one l=>
              rw[hs]at hg jO;cases l with
              |val tt b0=>
                cases tt with
                |bool=>
                  injection hg with hg
                  have hv:a.tmps.getD t undef = .bool b0:=jO;have hy:=mY (ops:=ops) ht hv;have hw:Region.wanted o (yielded ops a.tmps) = (some (show Bool from b0)==some want):=by simp[Region.wanted, hgd, hy]
                  rw[hw, <- hg];rcases(show ∃c:Bool, c = b0 from⟨b0, rfl⟩)with ⟨c, rfl⟩;cases c <;> cases want <;> rfl
                |_=>cases hg
              |undef=>
                injection hg with hg
                have hv:a.tmps.getD t undef = undef:=jO;have hy:=lA (ops:=ops) ht hv;subst hg;simp[Region.wanted, hgd, hy]
              |_=>cases hg
            |_=>rw[hs]at hg; cases hg
      rcases hst with ⟨hg, h1⟩|⟨hg, h1⟩
      · rw[if_pos (hw true hg)]
        exact .inl (yes h1)
      · rw[if_neg (by rw[hw false hg]; decide)]
        exact no h1
theorem wM (hm:P.follows .mixedOrders=true) (hE:cq P E) (hC:gQ P E Ψ) {U:Nat->Prop} {id:Nat} {ω:aJ} {a:Act} {w:World} {s:S} {k:S->Option R} {r:R} {Qn:Exit->Act->World->Prop} (hU:∀o∈ops.toList,∀j,U j->o.dst≠some j) (hn:a.tmps.size=E.nt) (h:Rel Hv ω a w s)
  (hk:tI E (aP R) (kZ Ψ R) ops s k=some r)
  (hQ:∀aI a' w' s',Rel Hv aI a' w' s'->dr ω w aI w'->k s'=some r->a'.tmps.size=a.tmps.size->(∀j,U j->a'.tmps.getD j undef=a.tmps.getD j undef)->Qn .normal a' w'):(Code.region id ops true).wp P Qn a w:=by
 unfold tI at hk;cases hs:lW (gZ ops.toList []) ops 0 ops.toList with
 |false=>rw[hs]at hk;cases hk
 |true=>
  rw[hs]at hk;simp only[cond_true]at hk;obtain⟨st,hr,hks⟩:=ny _ _ _ _ _ hk;have H:=BX hs hr;rw[Nat.zero_add]at hks;have he:dr ω w ω { w with drawn:=w.drawn+1 }:=⟨rfl,rfl,rfl,Nat.le_refl _,fun _ _ _=>⟨rfl,rfl⟩⟩
  refine wp_region_any hm ?_;have hsz:(Array.replicate ops.size false).toList.countP (fun b=>!b)=ops.size:=by simp[List.countP_replicate]
  refine qY hE hC (U:=U) H (fun i o ho=>hr.dst i o ho) hU ops.size _ ω a _ s Qn (by simp) hsz ?_ hn (h.drawn rfl he) (fun aI a' w' q1 q2 q3 q4=>hQ aI a' w' _ q1 (he.trans q2) hks q3 q4);have hno:∀i,¬Up (Array.replicate ops.size false) i:=by intro i hi;rw[qX]at hi;simp[List.getElem?_replicate]at hi
  exact⟨fun i j o _ hi=>absurd hi (hno i),fun j o t _ hj=>absurd hj (hno j),fun t _=>by rw[hr.first],fun id=>⟨0,Nat.zero_le _,fun b o _ _=>⟨fun hb=>absurd hb (hno b),fun hb=>absurd hb (Nat.not_lt_zero _)⟩,by rw[hr.first]⟩⟩
end
end Go.R
namespace Go.R
variable {H:Nat->Value}
def Ex.beq:Ex->Ex->Bool
 | .normal,.normal=>true
 | .exit i,.exit j=>Nat.beq i j
 | .ret,.ret=>true
 |_,_=>false
theorem Ex.eq_of_beq:∀ {a b:Ex},Ex.beq a b=true->a=b
 | .normal,.normal,_=>rfl
 | .exit i,.exit j,h=>by rw[Nat.eq_of_beq_eq_true h]
 | .ret,.ret,_=>rfl
 | .normal,.exit _,h=>by cases h
 | .normal,.ret,h=>by cases h
 | .exit _,.normal,h=>by cases h
 | .exit _,.ret,h=>by cases h
 | .ret,.normal,h=>by cases h
 | .ret,.exit _,h=>by cases h
theorem eD{ds:List Nat}{d:Nat}(hd:d∈ds):∀(c:Code),cP ds c=true->cP [d] c=true
 | .skip,_=>rfl
 | .exit _,_=>rfl
 | .ret,_=>rfl
 | .region _ ops _,h=>by
  simp only[cP,List.all_eq_true]at h⊢;intro o ho;have:=h o ho;cases ru:o.dst with
  |none=>rfl
  |some e=>rw[ru]at this;simp only[Bool.not_eq_true',List.any_eq_false]at this⊢;intro x hx;rw[List.mem_singleton]at hx;subst hx;exact this x hd
 | .seq a b,h=>by simp only[cP,Bool.and_eq_true]at h⊢;exact⟨eD hd a h.1,eD hd b h.2⟩
 | .cond _ a b,h=>by simp only[cP,Bool.and_eq_true]at h⊢;exact⟨eD hd a h.1,eD hd b h.2⟩
 | .block _ b,h=>eD hd b h
 | .loop b,h=>eD hd b h
 | .scope _,h=>by cases h
 | .rangeFunc ..,h=>by cases h
 | .label _,h=>by cases h
 | .goto _,h=>by cases h
 | .refuse _,h=>by cases h
def wpL(P:Program)(c:Code)(Q:Exit->Act->World->Prop)(a:Act)(w:World):Prop:=∀(b:Frame) (k:List Item) (cs:List Frame),∃e a' w',Q e a' w'/\Arrives P (lone (b.at a (.code c::.inLoop c::k)) cs w) b k cs e a' w'
section
variable {P:Program} {Q:Exit->Act->World->Prop} {a:Act} {w:World} {c:Code}
theorem wp_of_L(h:wpL P c Q a w):(Code.loop c).wp P Q a w:=fun b k cs=>let ⟨e,a',w',q,r⟩:=h b k cs;⟨e,a',w',q,.of_steps (.one step_loop) r⟩
theorem wpL_peel(h:c.wp P (Exit.then (fun a' w'=>wpL P c Q a' w') Q) a w):wpL P c Q a w:=by
 intro b k cs;obtain⟨e,a₁,w₁,hq,FH⟩:=h b (.inLoop c::k) cs;cases e with
 |normal=>obtain⟨e₂,a₂,w₂,hq₂,harr₂⟩:=hq b k cs;exact⟨e₂,a₂,w₂,hq₂,.of_steps (Steps.trans FH (.one step_inLoop)) harr₂⟩
 |exit id=>exact⟨_,a₁,w₁,hq,.pass (x:=.inLoop c) rfl (fun _ _=>.inl (by simp)) FH⟩
 |goto l=>exact⟨_,a₁,w₁,hq,.pass (x:=.inLoop c) rfl (fun _ _=>.inl (by simp)) FH⟩
 |ret=>exact⟨_,a₁,w₁,hq,.pass (x:=.inLoop c) rfl (fun _ _=>.inl (by simp)) FH⟩
 |panic ch=>exact⟨_,a₁,w₁,hq,.pass (x:=.inLoop c) rfl (fun _ _=>.inl (by simp)) FH⟩
 |outgrown=>exact⟨_,a₁,w₁,hq,.pass (x:=.inLoop c) rfl (fun _ _=>.inl (by simp)) FH⟩
theorem wpL_mono{Q':Exit->Act->World->Prop}(h:wpL P c Q a w)(hq:∀e a w,Q e a w->Q' e a w):wpL P c Q' a w:=fun b k cs=>let ⟨e,a',w',q,r⟩:=h b k cs;⟨e,a',w',hq _ _ _ q,r⟩
theorem wpL_loop (I:Act->World->Prop) (μ:Act->World->Nat) (h₀:I a w)
  (round:∀a w,I a w->c.wp P (Exit.then (fun a' w'=>I a' w'/\μ a' w'<μ a w) Q) a w):wpL P c Q a w:=by
 have key:∀n a w,μ a w=n->I a w->wpL P c Q a w:=by
  intro n;induction n using Nat.strongRecOn with
  |_ n ih=>
   intro a w hn hI;refine wpL_peel (wp_mono (round a w hI) fun e a' w' h=>?_);cases e with
   |normal=>exact ih (μ a' w') (hn▸h.2) a' w' rfl h.1
   |_=>exact h
 exact key _ a w rfl h₀
end
section
variable {R:Type} (P:Program) (E:Env) (Ψ:bV->Option ij) (Λ:Nat->Option eB)
def tV(H:Nat->Value)(c:Code)(keep:bN)(ω:aJ)(a:Act)(w:World)(kx:fI real (bN.ks keep))(ex:Ex)(t:bN)(y:fI real (bN.ks t)):Exit->Act->World->Prop:=fun e a' w'=>Fw e ex/\∃aI,Rel H aI a' w' (mB keep t kx y)/\dr ω w aI w'/\a'.tmps.size=a.tmps.size/\∀j,cP [j] c=true->a'.tmps.getD j undef=a.tmps.getD j undef
def nj(c:Code)(l:eB):Prop:=
  ∀(H:Nat -> Value) (ω:aJ) (a:Act) (w:World) (kx:fI real (bN.ks l.keep)) (x:fI real (bN.ks l.cY)) (q:jL real l.cI), a.tmps.size = E.nt -> Rel H ω a w (mB l.keep l.cY kx x) -> jW w ω a l.keep kx ->
    (l.keep.map (·.2)).all Sh.eN = true -> cP (l.keep.map (·.1)) c = true -> l.fn kx x = some q -> ∃ex t y, (∀ {M:Type} (k:Ex -> (t:bN) -> fI real (bN.ks t) -> M), jL.elim l.cI q k = k ex t y) /\ wpL P c (tV H c l.keep ω a w kx ex t y) a w
def dl:Nat->Code->List (Nat×Code)
 |n,.loop c=>[(n,c)]
 |n,.seq a b=>dl n a++dl n b
 |n,.cond _ a b=>dl n a++dl n b
 |_,.block i b=>dl i b
 |_,_=>[]
theorem frz1_ok{ω:aJ}{a:Act}{w:World}{s:S}(h:Rel H ω a w s)(t:Nat):∃aI,Rel H aI a w (frz1 s t)/\dr ω w aI w:=by
 unfold frz1;split
 ·rename_i id g hh _;cases hb:Nat.beq (s.ob id).g g with
  |false=>exact⟨ω,h,dr.refl _ _⟩
  |true=>
   simp only[cond_true];split
   ·rename_i e cs dp x ho;exact⟨_,h.freeze ho true,bP _ _ _ (h.qj (by rw[ho];exact fun e=>nomatch e))⟩
   ·exact⟨ω,h,dr.refl _ _⟩
 ·exact⟨ω,h,dr.refl _ _⟩
theorem frz_ok{ω:aJ}{a:Act}{w:World}{s:S}(h:Rel H ω a w s)(ops:Array Oper):∃aI,Rel H aI a w (frz ops s)/\dr ω w aI w:=by
 unfold frz;generalize twiceIn (slicedOf ops.toList)=l;induction l generalizing ω s with
 |nil=>exact⟨ω,h,dr.refl _ _⟩
 |cons t l ih=>obtain⟨bi,h1,e1⟩:=frz1_ok h t;obtain⟨bZ,h2,e2⟩:=ih h1;exact⟨bZ,h2,e1.trans e2⟩
theorem noLoop_ok:∀(n:Nat) (c:Code),noLoop c=true->dl n c=[]
 |n,.seq x y,h=>by simp only[noLoop,Bool.and_eq_true]at h;simp only[dl,noLoop_ok n x h.1,noLoop_ok n y h.2,List.append_nil]
 |n,.cond q x y,h=>by simp only[noLoop,Bool.and_eq_true]at h;simp only[dl,noLoop_ok n x h.1,noLoop_ok n y h.2,List.append_nil]
 |n,.block i x,h=>noLoop_ok i x h
 |n,.loop _,h=>nomatch h
 |n,.skip,_|n,.region ..,_|n,.exit _,_|n,.ret,_|n,.scope _,_|n,.rangeFunc ..,_|n,.label _,_|n,.goto _,_|n,.refuse _,_=>rfl
def fp(l:List (Nat×Code)):Prop:=∀p∈l,∀q,Λ p.1=some q->nj P E p.2 q
variable {P E Ψ Λ} {Ξ:Inls} {pl:Nat->Bool}
theorem jq(hE:cq P E)(hC:gQ P E Ψ)(hI:StepInl P E Ξ){U:Nat -> Prop}{r:R}:∀(c:Code) (n:Nat) (ω:aJ) (a:Act) (w:World) (s:S) (k:Ex -> S -> Option R), (∀j, U j -> cP [j] c = true) -> fp P E Λ (dl n c) -> a.tmps.size = E.nt -> Rel H ω a w s ->
    exec E (aP R) (kZ Ψ R) (lkt Λ Ξ pl R) n c s k = some r -> c.wp P (Post H U ω a w k r) a w
  | .skip, n, ω, a, w, s, k, _, _, _, h, hk=>wp_skip ⟨.normal, ω, s, trivial, h, dr.refl _ _, hk, rfl, fun _ _=>rfl⟩
  | .exit i, n, ω, a, w, s, k, _, _, _, h, hk=>wp_exit ⟨.exit i, ω, s, rfl, h, dr.refl _ _, hk, rfl, fun _ _=>rfl⟩
  | .ret, n, ω, a, w, s, k, _, _, _, h, hk=>wp_ret ⟨.ret, ω, s, trivial, h, dr.refl _ _, hk, rfl, fun _ _=>rfl⟩
  | .region id ops d, n, ω, a, w, s, k, hU, _, hn, h, hk=>by
    cases d with
    |true=>obtain⟨oU, h0, e0⟩:=frz_ok h ops;refine wM hE.mo hE hC (U:=U) (k:=k .normal) (fun o ho j hj e=>?_) hn h0 hk (fun aI a' w' s' q1 q2 q3 q4 q5=>⟨.normal, aI, s', trivial, q1, e0.trans q2, q3, q4, q5⟩);have:=hU j hj;simp only[cP, List.all_eq_true]at this;have:=this o ho;rw[e]at this;simp at this
    |false=>refine wp_region_list (tG hE hC hI (U:=U) ops.toList ω a w s (k .normal) _ (fun o ho j hj e=>?_) hn h hk (fun aI a' w' s' q1 q2 q3 q4 q5=>⟨.normal, aI, s', trivial, q1, q2, q3, q4, q5⟩));have:=hU j hj;simp only[cP, List.all_eq_true]at this;have:=this o ho;rw[e]at this;simp at this
  | .seq x y, n, ω, a, w, s, k, hU, hL, hn, h, hk=>by
    have Hu:∀j, U j -> cP [j] x = true:=fun j hj=>by have:=hU j hj; simp only[cP, Bool.and_eq_true]at this; exact this.1
    have Hv:∀j, U j -> cP [j] y = true:=fun j hj=>by have:=hU j hj; simp only[cP, Bool.and_eq_true]at this; exact this.2
    have h1:=jq hE hC hI x n ω a w s _ Hu (fun p hp=>hL p (List.mem_append.2 (.inl hp))) hn h hk;refine wp_seq (wp_mono h1 fun e a' w' hp=>?_);obtain⟨ex, aI, s', q1, q2, q3, q4, q5, q6⟩:=hp;cases ex with
    |normal=>
      cases e with
      |normal=>refine wp_mono (jq hE hC hI y n aI a' w' s' k Hv (fun p hp=>hL p (List.mem_append.2 (.inr hp))) (q5.trans hn) q2 q4) fun e2 a2 w2 hp2=>?_;obtain⟨Hj, bZ, s2, t1, t2, t3, t4, t5, t6⟩:=hp2;exact⟨Hj, bZ, s2, t1, t2, q3.trans t3, t4, t5.trans q5, fun j hj=>(t6 j hj).trans (q6 j hj)⟩
      |_=>cases q1
    |exit i=>
      cases e with
      |exit j=>exact⟨.exit i, aI, s', q1, q2, q3, q4, q5, q6⟩
      |_=>cases q1
    |ret=>
      cases e with
      |ret=>exact⟨.ret, aI, s', q1, q2, q3, q4, q5, q6⟩
      |_=>cases q1
  | .cond c x y, n, ω, a, w, s, k, hU, hL, hn, h, hk=>by
    simp only[exec]at hk;have way:∀b:Bool, a.eval c = .bool b -> (bif b then exec E (aP R) (kZ Ψ R) (lkt Λ Ξ pl R) n x s k else exec E (aP R) (kZ Ψ R) (lkt Λ Ξ pl R) n y s k) = some r -> (Code.cond c x y).wp P (Post H U ω a w k r) a w:=fun b hv h2'=>by
      cases b with
      |true=>exact wp_cond_true hv (jq hE hC hI x n ω a w s k (fun j hj=>by have:=hU j hj; simp only[cP, Bool.and_eq_true]at this; exact this.1) (fun p hp=>hL p (List.mem_append.2 (.inl hp))) hn h h2')
      |false=>exact wp_cond_false hv (jq hE hC hI y n ω a w s k (fun j hj=>by have:=hU j hj; simp only[cP, Bool.and_eq_true]at this; exact this.2) (fun p hp=>hL p (List.mem_append.2 (.inr hp))) hn h h2')
    have BC:=bX h E 4 c;split at hk
    · rename_i tx ty he
      rw[he]at BC;obtain⟨b, hv, hb⟩:=BC;have hk:(bif (show Bool from tx)then(bif ty then exec E (aP R) (kZ Ψ R) (lkt Λ Ξ pl R) n x s k else exec E (aP R) (kZ Ψ R) (lkt Λ Ξ pl R) n y s k)else Go.R.both (exec E (aP R) (kZ Ψ R) (lkt Λ Ξ pl R) n x s k) (exec E (aP R) (kZ Ψ R) (lkt Λ Ξ pl R) n y s k)) = some r:=hk;revert hk hb;rcases(show ∃c:Bool, c = tx from⟨tx, rfl⟩)with ⟨c', rfl⟩;cases c' with
      |true=>exact fun hb hk=>way b hv (by rw[hb rfl]; exact hk)
      |false=>intro _ hk;obtain⟨k1, k2⟩:=xY hk;exact way b hv (by cases b; exact k2; exact k1)
    · obtain⟨(b:Bool), h1, h2⟩:=aA hk
      exact way b (pB h1 BC) h2
  | .block i c, n, ω, a, w, s, k, hU, hL, hn, h, hk=>by
    have h1:=jq hE hC hI c i ω a w s _ hU hL hn h hk;refine wp_block (wp_mono h1 fun e a' w' hp=>?_);obtain⟨ex, aI, s', q1, q2, q3, q4, q5, q6⟩:=hp;cases ex with
    |normal=>
      cases e with
      |normal=>exact⟨.normal, aI, s', q1, q2, q3, q4, q5, q6⟩
      |_=>cases q1
    |exit j=>
      cases e with
      |exit j'=>
        have e:j' = j:=q1;subst e;simp only[Exit.inBlock];have lT:(bif Nat.beq j' i then k .normal s' else k (.exit j') s') = some r:=q4;by_cases hij:j' = i
        · rw[if_pos hij]
          rw[hij, fY]at lT;exact⟨.normal, aI, s', trivial, q2, q3, lT, q5, q6⟩
        · rw[if_neg hij]
          rw[lD hij]at lT;exact⟨.exit j', aI, s', rfl, q2, q3, lT, q5, q6⟩
      |_=>cases q1
    |ret=>
      cases e with
      |ret=>exact⟨.ret, aI, s', q1, q2, q3, q4, q5, q6⟩
      |_=>cases q1
  | .loop c, n, ω, a, w, s, k, hU, hL, hn, h, hk=>by
    simp only[exec]at hk;obtain⟨lo, h1, cQ⟩:=aA hk;have hl:∃l, Λ n = some l /\ lo = l.tH R:=by
      have h1:(Λ n).map (·.tH R) = some lo:=h1;cases hq:Λ n with
      |none=>rw[hq]at h1; cases h1
      |some l=>rw[hq]at h1; exact⟨l, rfl, (Option.some.inj h1).symm⟩
    obtain⟨l, pQ, rfl⟩:=hl;cases hb:((l.tH R).keep.all (fun p=>p.2.eN)&&cP ((l.tH R).keep.map (·.1)) c)with
    |false=>rw[hb]at cQ; cases cQ
    |true=>
      rw[hb]at cQ;simp only[cond_true]at cQ;rw[Bool.and_eq_true]at hb;have Ay:(l.keep.map (·.2)).all Sh.eN = true:=by rw[List.all_map]; exact hb.1
      have main:∀(oU:aJ) (a0:Act) (w0:World) (s0:S), Rel H oU a0 w0 s0 -> a0.tmps.size = a.tmps.size -> dr ω w oU w0 -> (∀j, U j -> a0.tmps.getD j undef = a.tmps.getD j undef) ->
          (ar (aP R) (jc (l.tH R).keep s0) fun kx=>ar (aP R) (jc (l.tH R).cY kx.2) fun x=>(l.tH R).run kx.1 x.1 fun e t y=>k e (wB t y (wB _ kx.1 St.start))) = some r -> wpL P c (Post H U ω a w k r) a0 w0:=by
        intro oU a0 w0 s0 h0 Ez he0 hu0 cQ;obtain⟨⟨kx, s1⟩, h2, cM⟩:=aA cQ;obtain⟨⟨x, s2⟩, h3, th⟩:=aA cM;obtain⟨bi, g1, g2, g3⟩:=Aa (keep:=l.keep) (cY:=l.cY) h0 Ay h2 h3;have xu:((l.fn kx x).bind fun q=>jL.elim l.cI q fun e t y=>k e (mB l.keep t kx y)) = some r:=th;cases hf:l.fn kx x with
        |none=>rw[hf]at xu; cases xu
        |some q=>rw[hf]at xu;have jS:jL.elim l.cI q (fun e t y=>k e (mB l.keep t kx y)) = some r:=xu;obtain⟨ex, t, y, hel, hw⟩:=hL (n, c) (by simp[dl]) l pQ H bi a0 w0 kx x q (Ez.trans hn) g1 g3 Ay hb.2 hf;rw[hel]at jS;refine wpL_mono hw fun e a' w' hp=>?_;obtain⟨q1, bZ, q2, q3, q4, q5⟩:=hp;exact⟨_, bZ, _, q1, q2, he0.trans (g2.trans q3), jS, q4.trans Ez, fun j hj=>(q5 j (hU j hj)).trans (hu0 j hj)⟩
      have cQ:(bif pl n&&noLoop c then exec E (aP R) (kZ Ψ R) (lkt Λ Ξ pl R) n c s (fun e s1=>match e with
          | .normal=>(ar (aP R) (jc (l.tH R).keep s1) fun kx=>ar (aP R) (jc (l.tH R).cY kx.2) fun x=>(l.tH R).run kx.1 x.1 fun e t y=>k e (wB t y (wB _ kx.1 St.start)))
          |e=>k e s1)else(ar (aP R) (jc (l.tH R).keep s) fun kx=>ar (aP R) (jc (l.tH R).cY kx.2) fun x=>(l.tH R).run kx.1 x.1 fun e t y=>k e (wB t y (wB _ kx.1 St.start)))) = some r:=cQ
      cases hp:(pl n&&noLoop c)with
      |false=>rw[hp]at cQ;exact wp_of_L (main ω a w s h rfl (dr.refl _ _) (fun _ _=>rfl) cQ)
      |true=>
        rw[hp]at cQ;simp only[cond_true]at cQ;rw[Bool.and_eq_true]at hp;refine wp_of_L (wpL_peel ?_);have h1:=jq hE hC hI c n ω a w s _ hU (fun p hp'=>by rw[noLoop_ok n c hp.2]at hp'; exact nomatch hp') hn h cQ;refine wp_mono h1 fun e a' w' hp=>?_;obtain⟨ex, aI, s', q1, q2, q3, q4, q5, q6⟩:=hp;cases ex with
        |normal=>
          cases e with
          |normal=>exact main aI a' w' s' q2 q5 q3 q6 q4
          |_=>cases q1
        |exit i=>
          cases e with
          |exit j=>exact⟨.exit i, aI, s', q1, q2, q3, q4, q5, q6⟩
          |_=>cases q1
        |ret=>
          cases e with
          |ret=>exact⟨.ret, aI, s', q1, q2, q3, q4, q5, q6⟩
          |_=>cases q1
  | .scope _, _, _, _, _, _, _, _, _, _, _, hk=>by cases hk
  | .rangeFunc .., _, _, _, _, _, _, _, _, _, _, hk=>by cases hk
  | .label _, _, _, _, _, _, _, _, _, _, _, hk=>by cases hk
  | .goto _, _, _, _, _, _, _, _, _, _, _, hk=>by cases hk
  | .refuse _, _, _, _, _, _, _, _, _, _, _, hk=>by cases hk
abbrev rF:=List (Ex×bN)
def mP:(cI:rF)->Ex->S->Option (jL real cI)
 | [],_,_=>none
 |e::es,ex,s=>bif Ex.beq e.1 ex then(jc e.2 s).map (fun q=>.inl q.1)else(mP es ex s).map .inr
variable (E Ψ Λ)
noncomputable def pz(n:Nat)(c:Code)(keep cY:bN)(cI:rF)(kx:fI real (bN.ks keep))(x:fI real (bN.ks cY)):Option (fI real (bN.ks cY)⊕jL real cI):=
 exec E (aP _) (kZ Ψ _) (lkt Λ noI noP _) n c (mB keep cY kx x) fun ex s=>match ex with
  | .normal=>(jc cY s).map fun q=>.inl q.1
  |ex=>(mP cI ex s).map .inr
variable {E Ψ Λ}
def iter{α β:Type}(body:α->Option (α⊕β)):Nat->α->Option β
 |0,_=>none
 |n+1,x=>match body x with
  |some (.inl y)=>iter body n y
  |some (.inr b)=>some b
  |none=>none
theorem qu:∀ {cI:rF} {ex:Ex} {s:S} {q:jL real cI},mP cI ex s=some q->∃t y s',(∀ {M:Type} (k:Ex->(t:bN)->fI real (bN.ks t)->M),jL.elim cI q k=k ex t y)/\jc t s=some (y,s')
 | [],_,_,_,h=>by cases h
 |e::es,ex,s,q,h=>by
  simp only[mP]at h;cases hb:Ex.beq e.1 ex with
  |true=>
   rw[hb]at h;simp only[cond_true]at h;cases ht:jc e.2 s with
   |none=>rw[ht]at h;cases h
   |some z=>rw[ht]at h;have h:=Option.some.inj h;subst h;have he:=Ex.eq_of_beq hb;subst he;exact⟨e.2,z.1,z.2,fun k=>rfl,ht⟩
  |false=>
   rw[hb]at h;simp only[cond_false]at h;cases hr:mP es ex s with
   |none=>rw[hr]at h;cases h
   |some q'=>rw[hr]at h;have h:=Option.some.inj h;subst h;obtain⟨t,y,s',h1,h2⟩:=qu hr;exact⟨t,y,s',fun k=>h1 k,h2⟩
theorem AP{p:Nat->Prop}:∀(n:Nat),p n->∃m,p m/\∀k,p k->m<=k:=by
 intro n;induction n using Nat.strongRecOn with
 |_ n ih=>
  intro hn;by_cases h:∃m,m<n/\p m
  ·obtain⟨m,hm,hp⟩:=h;exact ih m hm hp
  ·exact⟨n,hn,fun k hk=>Nat.le_of_not_lt fun hlt=>h ⟨k,hlt,hk⟩⟩
theorem Cg (hE:cq P E) (hC:gQ P E Ψ) {n:Nat} {c:Code} {l:eB} (hL:fp P E Λ (dl n c)) (fuel:fI real (bN.ks l.keep)->fI real (bN.ks l.cY)->Nat)
  (hf:∀kx x,l.fn kx x=iter (pz E Ψ Λ n c l.keep l.cY l.cI kx) (fuel kx x) x):nj P E c l:=by
 intro H ω a w kx x q hn h hk hl hfree hfn;rw[hf]at hfn;have hsel:∀(es:rF) (q:jL real es),∃ex t y,∀ {M:Type} (k:Ex->(t:bN)->fI real (bN.ks t)->M),jL.elim es q k=k ex t y:=by
  intro es;induction es with
  |nil=>intro q;exact Empty.elim q
  |cons e es ih=>
   intro q;cases q with
   |inl y=>exact⟨e.1,e.2,y,fun k=>rfl⟩
   |inr q=>obtain⟨ex,t,y,h⟩:=ih q;exact⟨ex,t,y,fun k=>h k⟩
 obtain⟨FE,t0,y0,Eo⟩:=hsel l.cI q;refine⟨FE,t0,y0,Eo,?_⟩;let Inv (m:Nat) (a':Act) (w':World):Prop:=∃x' aI,Rel H aI a' w' (mB l.keep l.cY kx x')/\dr ω w aI w'/\jW w' aI a' l.keep kx/\a'.tmps.size=a.tmps.size/\(∀j,cP [j] c=true->a'.tmps.getD j undef=a.tmps.getD j undef) /\
  iter (pz E Ψ Λ n c l.keep l.cY l.cI kx) m x'=some q
 have tq:∀a' w',(∃m,Inv m a' w')->∃m,Inv m a' w'/\∀k,Inv k a' w'->m<=k:=fun a' w' ⟨m,hm⟩=>AP m hm;have Fl:∃μ:Act->World->Nat,∀a' w',(∃m,Inv m a' w')->Inv (μ a' w') a' w'/\∀k,Inv k a' w'->μ a' w'<=k:=by
  classical
  exact⟨fun a' w'=>if h:∃m,Inv m a' w' then Classical.choose (tq a' w' h)else 0,fun a' w' h=>by show Inv (if h:∃m,Inv m a' w' then Classical.choose (tq a' w' h)else 0) a' w'/\∀k,Inv k a' w'->(if h:∃m,Inv m a' w' then Classical.choose (tq a' w' h)else 0)<=k;rw[dif_pos h];exact Classical.choose_spec (tq a' w' h)⟩
 obtain⟨μ,Fl⟩:=Fl;refine wpL_loop (fun a' w'=>∃m,Inv m a' w') μ ⟨_,x,ω,h,dr.refl _ _,hk,rfl,fun _ _=>rfl,hfn⟩ (fun a1 w1 hI=>?_);obtain⟨hfind,_⟩:=Fl a1 w1 hI;obtain⟨x1,bi,h1,e1,k1,Gt,G5,Cc⟩:=hfind;cases hm:μ a1 w1 with
 |zero=>rw[hm]at Cc;cases Cc
 |succ m=>
  rw[hm]at Cc;simp only[iter]at Cc;cases hb:pz E Ψ Λ n c l.keep l.cY l.cI kx x1 with
  |none=>rw[hb]at Cc;cases Cc
  |some res=>
   rw[hb]at Cc;have hwp:=jq hE hC stepInl_no (U:=fun j=>cP [j] c=true) c n bi a1 w1 _ _ (fun j hj=>hj) hL (Gt.trans hn) h1 hb;refine wp_mono hwp fun e a2 w2 hp=>?_;obtain⟨ex,bZ,s2,t1,t2,t3,t4,t5,t6⟩:=hp;have hsame:∀p∈l.keep,a2.tmps.getD p.1 undef=a1.tmps.getD p.1 undef:=fun p hp=>t6 p.1 (eD (List.mem_map.2 ⟨p,hp,rfl⟩) c hfree);have out:∀D8,(mP l.cI D8 s2).map Sum.inr=some res->Fw e D8->tV H c l.keep ω a w kx FE t0 y0 e a2 w2:=by
    intro D8 hp hm';cases hq:mP l.cI D8 s2 with
    |none=>rw[hq]at hp;cases hp
    |some q'=>
     rw[hq]at hp;have hp:=Option.some.inj hp;subst hp;have HZ:q'=q:=Option.some.inj Cc;subst HZ;obtain⟨t,y,s3,z1,z2⟩:=qu hq;have Dg:(⟨FE,t0,y0⟩:(_:Ex)×(t:bN)×fI real (bN.ks t))=⟨D8,t,y⟩:=by rw[<-Eo (fun e t y=>(⟨e,t,y⟩:(_:Ex)×(t:bN)×fI real (bN.ks t))),z1]
     injection Dg with d1 d2
     subst d1;injection d2 with d2 d3
     subst d2;have d3:=eq_of_heq d3;subst d3;obtain⟨oV,g1,g2,g3⟩:=uU t2 hl k1 t3 hsame z2;exact⟨hm',oV,g1,e1.trans (t3.trans g2),t5.trans Gt,fun j hj=>(t6 j hj).trans (G5 j hj)⟩
   cases ex with
   |normal=>
    cases e with
    |normal=>
     have zw:(jc l.cY s2).map (fun q=>Sum.inl q.1)=some res:=t4;cases ht:jc l.cY s2 with
     |none=>rw[ht]at zw;cases zw
     |some q=>
      obtain⟨x2,s3⟩:=q;rw[ht]at zw;have zw:=Option.some.inj zw;subst zw;obtain⟨oV,g1,g2,g3⟩:=uU t2 hl k1 t3 hsame ht;have hnew:Inv m a2 w2:=⟨x2,oV,g1,e1.trans (t3.trans g2),g3,t5.trans Gt,fun j hj=>(t6 j hj).trans (G5 j hj),Cc⟩
      refine⟨⟨m,hnew⟩,?_⟩;have HY:μ a2 w2<=m:=(Fl a2 w2 ⟨m,hnew⟩).2 m hnew;omega
    |_=>cases t1
   |exit j=>
    cases e with
    |exit j'=>have zw:(mP l.cI (.exit j) s2).map Sum.inr=some res:=t4;exact out (.exit j) zw t1
    |_=>cases t1
   |ret=>
    cases e with
    |ret=>have zw:(mP l.cI .ret s2).map Sum.inr=some res:=t4;exact out .ret zw t1
    |_=>cases t1
end
end Go.R
set_option linter.unusedVariables false
namespace Go.R
variable {H:Nat->Value}
def xS(w:World)(ω:aJ)(b:Nat)(aT:List Sh)(vs:List (KV real))(v:Value):Prop:=
 match aT with
 | [sh]=>(vs.take sh.ks.length).length=sh.ks.length/\zp w ω b sh (vs.take sh.ks.length) v
 |aW=>∃us:List Value,v=.tuple us.toArray/\fJ w ω b aW vs us
def Sh.vals(sh:Sh)(u:Value):List Value:=
 match sh with
 | .one _=>[u]
 | .agg _=>u.cells.toList
 |_=>[]
def cJ:List Sh->List Value->List Value
 |sh::aW,u::us=>sh.vals u++cJ aW us
 |_,_=>[]
abbrev dz(aW:List Sh):List K:=(aW.map Sh.sW).flatten
def uD:List Cp->List Value->List Value
 | .ro _::r,_::vs=>uD r vs
 | .mu _::r,v::vs=>v::uD r vs
 | .ro _::r,[]=>uD r []
 | .mu _::r,[]=>undef::uD r []
 | [],_=>[]
def Sh.BN(sh:Sh)(u:Value):List Value:=
 match sh with
 | .blk _=>[u]
 | .pL _ aM=>uD aM (match u with| .func _ _ cv=>cv.toList|_=>[])
 |_=>[]
def eC:List Sh->List Value->List Value
 |sh::aW,u::us=>sh.BN u++eC aW us
 |_,_=>[]
def Ct(w':World)(aI:aJ)(b:Nat)(look:Bool)(args:List Sh)(us:List Value)(vs:List (KV real)):Prop:=
 (look=true->fw w' aI b (vs.take (ep look args).length) (pick (dz args) (cJ args us))) /\
 fJ w' aI (b+(ep look args).length) ((eI args).map .blk) (vs.drop (ep look args).length) (eC args us)
structure eA (P:Program) (f:FuncId) (F:ij):Prop where
 there:∃fn c, P.funcs[f]? = some fn /\ (fn.name == "runtime.NumGoroutine") = false /\ fn.body = some c
 calls:∀(w:World) (ω:aJ) (us:List Value) (x:fI real ((F.args.map Sh.ks).flatten)) (y:fI real ((F.aT.map Sh.ks).flatten++(ep F.look F.args++(eI F.args).flatten))),
  xQ w ω->(∀b b' k,ω b=some k->ω b'=some k->b=b')->(∀b k,ω b=some k->b<w.heap.size)->fJ w ω 1 F.args (co _ x) us->F.fn x=some y ->
  Calls P f us.toArray w fun e w'=>∃v aI,e=.returned v/\dr ω w aI w'/\(∀b b' k,aI b=some k->aI b'=some k->b=b')/\(∀b k,aI b=some k->b<w'.heap.size) /\
   xS w' aI (1+aL F.args) F.aT ((co _ y).take (F.aT.map Sh.ks).flatten.length) v /\
   Ct w' aI (1+aL F.args+aL F.aT) F.look F.args us ((co _ y).drop (F.aT.map Sh.ks).flatten.length)
section
variable {R:Type} {P:Program} {E:Env} {Ψ:bV->Option ij} {ω:aJ} {a:Act} {w:World} {s:S} {k:S->Option R} {r:R} {o:Oper} {Q:Exit->Act->World->Prop}
def aJ.gx:aJ:=fun _=>none
theorem DX{t:Ty}{md:Md}{v:Value}{x:t.T}(h:t.R w ω md v x):t.R w aJ.gx .cB v x:=Ty.gP t md v x (fun _ _ _=>rfl) h
theorem z7{s s':S}{id:Nat}(h:s'.ob id=s.ob id)(g hh:Nat)(p:jR):s'.cont id g hh p=s.cont id g hh p:=by unfold St.cont;rw[h]
def Hid(ω:aJ)(s1:S)(jU:aJ):Prop:=∀b,jU b=none\/∃id p,ω b=some (id,p)/\(s1.ob id).o=.gone
def pe(s s1:S):Prop:=∀i,(s1.ob i).o≠.gone->s1.ob i=s.ob i
variable {s1:S} {jU:aJ}
theorem Hid.Ac(hh:Hid ω s1 jU){md:Md}(h:∀k,md.has k->(s1.ob k.1).o≠.gone):w8 w ω jU md:=by
 intro b _ hk;rcases hh b with hb|⟨id,p,h1,h2⟩
 ·exact hb
 ·rcases hk with hk|⟨k,hk,hm⟩
  ·rw[hk]at h1;cases h1
  ·rw[hk]at h1;injection h1 with h1
   subst h1;exact absurd h2 (h _ hm)
theorem AW(hS:pe s s1)(hh:Hid ω s1 jU){t:Ty}{l:L}{u:Value}{x:t.T}(hl:cA w ω s u l)(h:mH (A:=real) t l s1=some x):t.R w jU .cB u x:=by
 cases l with
 |val tt y=>
  simp only[mH]at h;split at h
  ·rename_i hb;obtain rfl:=Ty.eq_of_beq hb;have h:=Option.some.inj h;subst h;exact Ty.gP _ _ _ _ (hh.Ac (md:=.cB) fun k (hk:False)=>hk.elim) (show tt.R w ω .cB u y from hl)
  ·cases h
 |eU e cs=>
  simp only[mH]at h;split at h
  ·rename_i hb;obtain rfl:=Ty.eq_of_beq hb;have h:=Option.some.inj h;subst h;obtain⟨ad,e1⟩:=hl;exact⟨ad,0,0,e1,rfl,Nat.le_refl _,fun hn=>absurd hn (by omega),fun i _ hi=>absurd hi (by omega)⟩
  ·cases h
 |ref id g rz p=>
  simp only[mH]at h;cases hc:s1.cont id g rz p with
  |none=>rw[hc]at h;cases h
  |some c=>
   rw[hc]at h;simp only at h;split at h
   ·rename_i hb;obtain rfl:=Ty.eq_of_beq hb;have h:=Option.some.inj h;subst h;have hg:(s1.ob id).o≠.gone:=fun e=>fS e hc;have eo:s.cont id g rz p=some c:=by rw[<-hc];exact(z7 (hS id hg) g rz p).symm
    exact Ty.gP _ _ _ _ (hh.Ac fun k hk=>by rw[wy _ _ _ _ hk];exact hg) (hl.2.2 c eo)
   ·cases h
 |_=>cases h
def Fx(w:World)(ω:aJ)(s:S)(jU:aJ)(b:Nat)(k:K)(l:L)(u:Value):Prop:=
 match k with
 | .val _=>True
 | .mp _=>True
 | .arr e cs d=>∀x s2,eJ (A:=real) e cs d l s=some (x,s2)->(Ty.sl e cs).R w jU (bk (bif d then 2 else 1) b []) u x
def jX(w:World)(ω:aJ)(s:S)(jU:aJ):Nat->List K->List L->List Value->Prop
 |b,k::ks,l::ls,u::us=>Fx w ω s jU b k l u/\jX w ω s jU (b+1) ks ls us
 |_,_,_,_=>True
theorem jX.iB{ks ks':List K}{ls Ch:List L}{us zn:List Value}:∀ {b:Nat},ks.length=ls.length->ks.length=us.length->jX w ω s jU b (ks++ks') (ls++Ch) (us++zn)->jX w ω s jU b ks ls us/\jX w ω s jU (b+ks.length) ks' Ch zn:=by
 induction ks generalizing ls us with
 |nil=>intro b h1 h2 h;have e1:ls=[]:=List.length_eq_zero_iff.1 h1.symm;have e2:us=[]:=List.length_eq_zero_iff.1 h2.symm;subst e1;subst e2;exact⟨trivial,h⟩
 |cons k ks ih=>
  intro b h1 h2 h;match ls,us,h1,h2,h with
  |l::ls,u::us,h1,h2,h=>obtain⟨q1,q2⟩:=ih (by simpa using h1) (by simpa using h2) h.2;exact⟨⟨h.1,q1⟩,by rw[List.length_cons,show b+(ks.length+1)=b+1+ks.length by omega];exact q2⟩
theorem sj:∀(cs:aK) (ls:List L) (us:List Value) (b:Nat),jX w ω s jU b cs.ks ls us
 | .nil,_,_,_=>trivial
 | .cons t ts,[],_,_=>trivial
 | .cons t ts,_::_,[],_=>trivial
 | .cons t ts,_::ls,_::us,b=>⟨trivial,sj ts ls us (b+1)⟩
theorem mK(hS:pe s s1)(hh:Hid ω s1 jU)(s0:S):∀(ks:List K) (ls:List L) (us:List Value) (vs:List (KV real)) (b:Nat), bj (cA w ω s) us ls -> jX w ω s0 jU b ks ls us -> looks ks ls s0 s1 = some vs -> fw w jU b vs us /\ vs.map (·.1) = ks
  | [], [], us, vs, b, h2, _, h=>by
    have h:=Option.some.inj h;subst h;cases us with
    |nil=>exact⟨trivial, rfl⟩
    |cons _ _=>exact h2.elim
  |k:: ks, l:: ls, [], _, _, h2, _, _=>h2.elim
  |k:: ks, l:: ls, u:: us, vs, b, h2, hL, h=>by
    simp only[looks]at h;cases h1:ju k l s0 s1 with
    |none=>rw[h1]at h; cases h
    |some v=>
      cases h3:looks ks ls s0 s1 with
      |none=>rw[h1, h3]at h; cases h
      |some vs'=>
        rw[h1, h3]at h;have h:=Option.some.inj h;subst h;obtain⟨q1, q2⟩:=mK hS hh s0 ks ls us vs' (b + 1) h2.2 hL.2 h3;cases k with
        |val t=>
          simp only[ju]at h1;cases hx:mH (A:=real) t l s1 with
          |none=>rw[hx]at h1; cases h1
          |some x=>rw[hx]at h1;have h1:=Option.some.inj h1;subst h1;exact⟨⟨AW hS hh h2.1 hx, q1⟩, by simp[q2]⟩
        |arr e cs d=>
          simp only[ju]at h1;cases hx:eJ (A:=real) e cs d l s0 with
          |none=>rw[hx]at h1; cases h1
          |some q=>obtain⟨x, s2⟩:=q;rw[hx]at h1;have h1:=Option.some.inj h1;subst h1;exact⟨⟨hL.1 x s2 hx, q1⟩, by simp[q2]⟩
        |mp _=>cases h1
  | [], _:: _, _, _, _, _, _, h=>by cases h
  |_:: _, [], _, _, _, _, _, h=>by cases h
theorem lP(h:Rel H ω a w s)(hS:pe s s1)(hh:Hid ω s1 jU){cs:aK}{c:df real}{u:Value}{vs:List (KV real)}(hc:gC w ω s u c)(ht:fV cs c s1 = some vs):
    vs.map (·.1) = cs.ks /\ ∃x, jQ (A:=real) cs vs = some x /\ iH w jU u cs x 0:=by
  cases c with
  |ro cs' x=>
    simp only[fV]at ht;split at ht
    · rename_i hb
      have:=aK.eq_of_beq hb;subst this;have ht:=Option.some.inj ht;subst ht;obtain⟨b, o', h1, h2, h3, h4⟩:=hc;have hf:w8 w ω jU .cB:=hh.Ac (md:=.cB) fun k (hk:False)=>hk.elim;exact⟨tC _ _, x, qV _ _, b, o', hf b h2 (.inl h1), h2, h3, aK.gP cs' _ _ 0 x (fun _=>hf) h4⟩
    · cases ht
  |ptr id g=>
    simp only[fV]at ht;cases hb:dA s1 id g with
    |none=>rw[hb]at ht; cases ht
    |some ls=>
      rw[hb]at ht;simp only at ht;obtain⟨D6, E7⟩:=cZ hb;have hg:(s1.ob id).o ≠ .gone:=by rw[E7]; exact fun e=>by cases e
      have e1:(s.ob id).g = g:=by rw[<- hS id hg]; exact D6
      have e2:(s.ob id).o = .blk ls:=by rw[<- hS id hg]; exact E7
      obtain⟨b', f1, f2⟩:=hc.2 e1 ls e2;obtain⟨b'', arr, T, q1, q2, q3⟩:=h.dB id ls e2;obtain rfl:=h.inj _ _ _ f1 q1;obtain⟨r1, r2⟩:=mK hS hh s1 cs.ks ls arr.toList vs 0 q3 (sj _ _ _ _) ht;obtain⟨x, x1, x2⟩:=mg cs vs arr.toList 0 r2 r1;have hnone:jU b' = none:=by
        rcases hh b' with hn|⟨id', p', k1, k2⟩
        · exact hn
        · rw[f1]at k1
          injection k1 with k1
          injection k1 with k1 _
          subst k1;exact absurd k2 hg
      refine⟨r2, x, x1, b', 0, hnone, h.dom _ _ f1, f2, x2 0 _ (fun k u hu=>?_)⟩;rw[Nat.zero_add, Nat.zero_add, cell_of_row w b' k arr T (0, 0) q2];simpa using hu
theorem oq(h:Rel H ω a w s)(hS:pe s s1)(hh:Hid ω s1 jU):∀(aM:List aK) (cc:List (df real)) (cv:List Value) (vs:List (KV real)), bj (fun v c=>gC w ω s v c) cv cc -> gh aM cc s1 = some vs ->
    vs.map (·.1) = (aM.map aK.ks).flatten /\ (∀c ∈ dj (A:=real) aM vs, ∃cs x, c = .ro cs x) /\ bj (fun v c=>gC w jU ⟨fun _=>.dead, fun _=>⟨0, 0, .gone⟩⟩ v c) cv (dj (A:=real) aM vs)
  | [], [], cv, vs, h2, ht=>by
    have ht:=Option.some.inj ht;subst ht;cases cv with
    |cons _ _=>exact h2.elim
    |nil=>exact⟨rfl, fun c hc=>absurd hc (by simp[dj]), trivial⟩
  |cs:: aM, c:: cc, [], _, h2, _=>h2.elim
  |cs:: aM, c:: cc, v:: cv, vs, h2, ht=>by
    simp only[gh]at ht;cases h1:fV cs c s1 with
    |none=>rw[h1]at ht; cases ht
    |some v1=>
      cases h3:gh aM cc s1 with
      |none=>rw[h1, h3]at ht; cases ht
      |some vs'=>
        rw[h1, h3]at ht;have ht:=Option.some.inj ht;subst ht;obtain⟨t1, x, x1, r1⟩:=lP h hS hh h2.1 h1;obtain⟨t2, q2, r2⟩:=oq h hS hh aM cc cv vs' h2.2 h3;have hlen:v1.length = cs.len:=by rw[<- tA, <- t1]; simp
        have uO:dj (A:=real) (cs:: aM) (v1 ++ vs') = .ro cs x:: dj (A:=real) aM vs':=by simp only[dj];rw[List.take_left' hlen, List.drop_left' hlen, x1]
        rw[uO];refine⟨by simp[t1, t2], fun c hc=>?_, r1, r2⟩;cases hc with
        |head=>exact⟨cs, x, rfl⟩
        |tail _ hm=>exact q2 c hm
  | [], _:: _, _, _, _, ht=>by cases ht
  |_:: _, [], _, _, _, ht=>by cases ht
theorem kP{s0 s1:S}:∀ {ks:List K} {ls:List L} {vs:List (KV real)},looks ks ls s0 s1=some vs->ks.length=ls.length
 | [],[],_,_=>rfl
 | [],_::_,_,h=>by cases h
 |_::_,[],_,h=>by cases h
 |k::ks,l::ls,vs,h=>by
  simp only[looks]at h;cases h1:ju k l s0 s1 with
  |none=>rw[h1]at h;cases h
  |some v=>
   cases h3:looks ks ls s0 s1 with
   |none=>rw[h1,h3]at h;cases h
   |some vs'=>simp[kP h3]
theorem yB(h:Rel H ω a w s)(hS:pe s s1)(hh:Hid ω s1 jU){sh:Sh}{tv:cm}{u:Value}{vs:List (KV real)}(b:Nat)(hl:dh H w ω s u tv)(hL:jX w ω s jU b sh.sW (sh.cells tv) (sh.vals u))(ht:iC sh tv s s1 = some vs):vs.map (·.1) = sh.ks /\ zp w jU b sh vs u:=by
  unfold iC at ht;split at ht
  · rename_i cs id g
    obtain⟨t1, x, x1, r1⟩:=lP h hS hh (c:=.ptr id g) hl ht;exact⟨t1, x, x1, r1⟩
  · rename_i cs cs' x
    obtain⟨t1, x, x1, r1⟩:=lP h hS hh (c:=.ro cs' x) hl ht;exact⟨t1, x, x1, r1⟩
  · rename_i f aM f' cc
    cases hf:Nat.beq f f' with
    |false=>rw[hf]at ht; cases ht
    |true=>rw[hf]at ht;simp only[cond_true]at ht;have he:=Nat.eq_of_beq_eq_true hf;subst he;obtain⟨cv, e1, h2⟩:=hl;obtain⟨t1, q1, r1⟩:=oq h hS hh aM cc cv vs h2 ht;exact⟨t1, cv, e1, r1, q1⟩
  · rename_i kk l
    obtain⟨q1, q2⟩:=mK hS hh s [kk] [l] [u] vs b ⟨hl, trivial⟩ hL ht;match vs, q1 with
    | [v], q1=>exact⟨q2, v, rfl, q1.1⟩
    |_:: _:: _, q1=>exact q1.2.elim
  · rename_i ks ls
    obtain⟨cells, e1, h2⟩:=hl;have hv:(Sh.agg ks).vals u = cells:=by subst e1; simp[Sh.vals, Value.cells]
    have jH:(Sh.agg ks).cells (A:=real) (.agg ls) = ls:=by simp only[Sh.cells]; rw[<- kP ht, Nat.beq_refl]; rfl
    rw[hv, jH]at hL;obtain⟨q1, q2⟩:=mK hS hh s ks ls cells vs b h2 hL ht;exact⟨q2, cells, e1, q1⟩
  · cases ht
theorem mI{sh:Sh}{tv:cm}{u:Value}{vs:List (KV real)}{s0:S}(hl:dh H w ω s u tv)(ht:iC sh tv s0 s1=some vs):sh.sW.length=(sh.cells tv).length/\bj (cA w ω s) (sh.vals u) (sh.cells tv):=by
 unfold iC at ht;split at ht
 ·exact⟨rfl,trivial⟩
 ·exact⟨rfl,trivial⟩
 ·exact⟨rfl,trivial⟩
 ·exact⟨rfl,hl,trivial⟩
 ·rename_i ks ls;obtain⟨cells,e1,h2⟩:=hl;have hv:(Sh.agg ks).vals u=cells:=by subst e1;simp[Sh.vals,Value.cells]
  have jH:(Sh.agg ks).cells (A:=real) (.agg ls)=ls:=by simp only[Sh.cells];rw[<-kP ht,Nat.beq_refl];rfl
  rw[hv,jH];exact⟨kP ht,h2⟩
 ·cases ht
theorem xV{sh:Sh}(h:(sh.eN||sh.flat)=true):sh.sW.length=sh.width:=by cases sh <;> first|rfl|cases h
theorem ld:∀ {aW:List Sh} {cg:List cm} {us:List Value} {vs:List (KV real)} {s0:S},bj (dh H w ω s) us cg->dQ aW cg s0 s1=some vs->(dz aW).length=(bH aW cg).length/\bj (cA w ω s) (cJ aW us) (bH aW cg)
 | [],[],us,vs,_,h2,ht=>by
  cases us with
  |cons _ _=>exact h2.elim
  |nil=>exact⟨rfl,trivial⟩
 |sh::aW,tv::cg,[],_,_,h2,_=>h2.elim
 |sh::aW,tv::cg,u::us,vs,s0,h2,ht=>by
  simp only[dQ]at ht;cases h1:iC sh tv s0 s1 with
  |none=>rw[h1]at ht;cases ht
  |some v=>
   cases h3:dQ aW cg s0 s1 with
   |none=>rw[h1,h3]at ht;cases ht
   |some vs'=>obtain⟨q1,q2⟩:=mI h2.1 h1;obtain⟨r1,r2⟩:=ld h2.2 h3;refine⟨?_,q2.iB r2⟩;simp only[dz,List.map_cons,List.flatten_cons,bH,List.length_append]at r1⊢;omega
 | [],_::_,_,_,_,_,ht=>by cases ht
 |_::_,[],_,_,_,_,ht=>by cases ht
theorem qa(h:Rel H ω a w s)(hS:pe s s1)(hh:Hid ω s1 jU):∀(aW:List Sh) (cg:List cm) (us:List Value) (vs:List (KV real)) (b:Nat),(aW.all fun sh=>sh.eN||sh.flat)=true->bj (dh H w ω s) us cg->jX w ω s jU b (dz aW) (bH aW cg) (cJ aW us)->dQ aW cg s s1=some vs->fJ w jU b aW vs us
 | [],[],us,vs,b,_,h2,_,ht=>by
  have ht:=Option.some.inj ht;subst ht;cases us with
  |cons _ _=>exact h2.elim
  |nil=>exact⟨rfl,rfl⟩
 |sh::aW,tv::cg,[],_,_,_,h2,_,_=>h2.elim
 |sh::aW,tv::cg,u::us,vs,b,hf,h2,hL,ht=>by
  rw[List.all_cons,Bool.and_eq_true]at hf;simp only[dQ]at ht;cases h1:iC sh tv s s1 with
  |none=>rw[h1]at ht;cases ht
  |some v=>
   cases h3:dQ aW cg s s1 with
   |none=>rw[h1,h3]at ht;cases ht
   |some vs'=>
    rw[h1,h3]at ht;have ht:=Option.some.inj ht;subst ht;obtain⟨c1,c2⟩:=mI h2.1 h1;have c3:=c2.length;obtain⟨l1,l2⟩:=jX.iB (ks:=sh.sW) (ks':=dz aW) c1 (c1.trans c3.symm) hL;obtain⟨t1,r1⟩:=yB h hS hh b h2.1 l1 h1;have hlen:v.length=sh.ks.length:=by rw[<-t1];simp
    refine⟨by rw[List.take_left' hlen];exact hlen,by rw[List.take_left' hlen];exact r1,?_⟩;rw[List.drop_left' hlen];rw[xV hf.1]at l2;exact qa h hS hh aW cg us vs' _ hf.2 h2.2 l2 h3
 | [],_::_,_,_,_,_,_,_,ht=>by cases ht
 |_::_,[],_,_,_,_,_,_,ht=>by cases ht
end
end Go.R
namespace Go.R
variable {H:Nat->Value}
section
variable {R:Type} {P:Program} {E:Env} {Ψ:bV->Option ij} {ω:aJ} {a:Act} {w:World} {s:S} {k:S->Option R} {r:R} {o:Oper} {Q:Exit->Act->World->Prop}
def aJ.old(bi:aJ)(base W:Nat):aJ:=fun b=>match bi b with
 |none=>none
 |some (i,p)=>if base<=i/\i<base+W then none else some (i,p)
theorem A9{bi:aJ}{base W b:Nat}{k:Key}(h:bi.old base W b=some k):bi b=some k /\ ¬bL base W k.1:=by
 unfold aJ.old at h;split at h
 ·cases h
 ·rename_i i p hb;split at h
  ·cases h
  ·rename_i hn;injection h with h
   subst h;exact⟨hb,hn⟩
theorem A7{bi:aJ}{base W b i:Nat}{p:List (Nat×Nat)}(h:bi b=some (i,p))(hn:¬bL base W i):bi.old base W b=some (i,p):=by unfold aJ.old;rw[h];simp only;unfold bL at hn;rw[if_neg hn]
theorem A8{bi:aJ}{base W b:Nat}(h:bi b=none):bi.old base W b=none:=by unfold aJ.old;rw[h]
theorem tZ{aI bR:aJ}{i j:Nat}{v:KV real}{u:Value}(hown:∀b p,b<w.heap.size->aI b=some (i,p)->bR b=some (j,p))(hn:v.1.closed=true\/∀b,b<w.heap.size->aI b=none->bR b=none)(h:CT w aI i v u):CT w bR j v u:=by
 obtain⟨kk,x⟩:=v;rcases hn with hc|hn
 ·cases kk with
  |val t=>exact Ty.fT (fun e cs he=>by subst he;cases hc) h
  |arr e cs dp=>
   cases dp with
   |true=>exact Ty.gp (.sl e cs) (i,[]) (j,[]) u x (fun b r hb hk=>⟨rfl,hown b r hb hk⟩) h
   |false=>
    have hp:cs.plain=true:=by simpa[K.closed] using hc
    obtain⟨ad,n,c,h1,h2,h3,h4,h5⟩:=h;refine⟨ad,n,c,h1,h2,h3,?_,fun k A hk hA=>aK.fT cs _ _ _ 0 _ hp (h5 k A hk hA)⟩;rcases h4 with hH|⟨b,arr,q1,q2,q3,q4⟩
    ·exact .inl hH
    ·exact .inr ⟨b,arr,q1,q2,q3,hown b [] (bB q2) q4⟩
  |mp _=>cases hc
 ·cases kk with
  |val t=>exact ua hn h
  |arr e cs dp=>exact vL ⟨hn,hown⟩ h
  |mp kk=>obtain⟨b,es,c,h1,h2,h3,h4⟩:=h;exact⟨b,es,c,hown b [] (bB h3) h1,h2,h3,h4⟩
theorem iI{aI bR:aJ}{base B W:Nat}(hown:∀i,bL B W i->∀b p,b<w.heap.size->aI b=some (i,p)->bR b=some (base+(i-B),p)):∀(vs:List (KV real)) (us:List Value) (b:Nat),B<=b->b+vs.length<=B+W ->
  ((∀v∈vs,v.1.closed=true)\/∀b,b<w.heap.size->aI b=none->bR b=none)->fw w aI b vs us->fw w bR (base+(b-B)) vs us
 | [],[],_,_,_,_,_=>trivial
 | [],_::_,_,_,_,_,h=>h.elim
 |_::_,[],_,_,_,_,h=>h.elim
 |v::vs,u::us,b,h1,h2,hc,h=>by simp only[List.length_cons]at h2;refine⟨tZ (hown b (by unfold bL;omega)) (hc.imp (fun h=>h v (by simp)) id) h.1,?_⟩;have:=iI hown vs us (b+1) (by omega) (by omega) (hc.imp (fun h v' fL=>h v' (by simp[fL])) id) h.2;rwa[show base+(b+1-B)=base+(b-B)+1 by omega]at this
theorem zE {aI bR:aJ} {base B W:Nat} (hown:∀i,bL B W i->∀b p,b<w.heap.size->aI b=some (i,p)->bR b=some (base+(i-B),p)) {sh:Sh} {vs:List (KV real)} {u:Value} {b:Nat} (hf:sh.qy=true) (hl:vs.length=sh.ks.length) (hB:B<=b) (hW:b+sh.width<=B+W)
  (hc:(∀v∈vs,v.1.closed=true)\/∀b,b<w.heap.size->aI b=none->bR b=none) (h:zp w aI b sh vs u):zp w bR (base+(b-B)) sh vs u:=by
 cases sh with
 |one kk=>obtain⟨v,e1,e2⟩:=h;subst e1;exact⟨v,rfl,(iI hown [v] [u] b hB hW hc ⟨e2,trivial⟩).1⟩
 |agg ks=>obtain⟨cells,e1,e2⟩:=h;exact⟨cells,e1,iI hown vs cells b hB (by rw[hl];exact hW) hc e2⟩
 |blk ks=>obtain⟨b',arr,T,e1,e2,e3,e4⟩:=h;have hw:(Sh.blk ks).width=ks.length+1:=rfl;have hl':vs.length=ks.length:=hl;refine⟨b',arr,T,e1,hown b (by unfold bL;omega) b' [] (bB e3) e2,e3,?_⟩;have:=iI hown vs arr.toList (b+1) (by omega) (by omega) hc e4;rwa[show base+(b+1-B)=base+(b-B)+1 by omega]at this
 |_=>cases hf
theorem nr{aI bR:aJ}{base B W:Nat}(hown:∀i,bL B W i->∀b p,b<w.heap.size->aI b=some (i,p)->bR b=some (base+(i-B),p)):∀(aW:List Sh) (vs:List (KV real)) (us:List Value) (b:Nat),aW.all Sh.qy=true->B<=b->b+aL aW<=B+W ->
  ((∀v∈vs,v.1.closed=true)\/∀b,b<w.heap.size->aI b=none->bR b=none)->fJ w aI b aW vs us->fJ w bR (base+(b-B)) aW vs us
 | [],_,_,_,_,_,_,_,h=>h
 |_::_,_,[],_,_,_,_,_,h=>h.elim
 |sh::aW,vs,u::us,b,hf,hB,hW,hc,h=>by
  rw[List.all_cons,Bool.and_eq_true]at hf;have hw:aL (sh::aW)=sh.width+aL aW:=by simp[aL]
  obtain⟨r1,r2,r3⟩:=h;refine⟨r1,zE hown hf.1 r1 hB (by omega) (hc.imp (fun h v hv=>h v (List.mem_of_mem_take hv)) id) r2,?_⟩;have:=nr hown aW (vs.drop sh.ks.length) us (b+sh.width) hf.2 (by omega) (by omega) (hc.imp (fun h v hv=>h v (List.mem_of_mem_drop hv)) id) r3;rwa[show base+(b+sh.width-B)=base+(b-B)+sh.width by omega]at this
theorem zF{w':World}{aI:aJ}{s':S}{u:Value}{tv:cm}(h:dh H w' aI s' u tv):nV w' aI s' u tv.comp:=by
 cases tv with
 |one l=>intro l' e;injection e with e;subst e;exact h
 |agg ls=>exact h
 |nR cs=>intro l' e;injection e with e;subst e;trivial
 |GR i c=>intro l' e;injection e with e;subst e;trivial
theorem Ab{aW:List Sh}(h:aW.all Sh.flat=true):aW.all Sh.qy=true:=by rw[List.all_eq_true]at h⊢;intro sh hs;have:=h sh hs;cases sh <;> first|rfl|cases this
end
end Go.R
set_option linter.unusedVariables false
namespace Go.R
open Classical
section
variable {R:Type} {P:Program} {E:Env} {Ψ:bV->Option ij} {ω:aJ} {a:Act} {w:World} {s:S} {k:S->Option R} {r:R} {o:Oper} {Q:Exit->Act->World->Prop}
structure oX where
 e:Nat
 cs:aK
 d:Bool
 l:L
 u:Value
 num:Nat
 out:Nat
def bS:List K->List L->List Value->Nat->Nat->List oX
 | .arr e cs d::ks,l::ls,u::us,b,o=>⟨e,cs,d,l,u,b,o⟩::bS ks ls us (b+1) (o+1)
 | .val _::ks,_::ls,_::us,b,o=>bS ks ls us (b+1) o
 | .mp _::ks,_::ls,_::us,b,o=>bS ks ls us (b+1) o
 |_,_,_,_,_=>[]
def ew:L->Option Nat
 | .ref id _ _ []=>some id
 |_=>none
theorem DQ{l:L}{i:Nat}(h:ew l=some i):∃g hh,l=.ref i g hh []:=by
 cases l with
 |ref id g hh p=>
  cases p with
  |nil=>injection h with h;subst h;exact⟨g,hh,rfl⟩
  |cons _ _=>cases h
 |_=>cases h
theorem td:∀(ks:List K) (ls:List L) (us:List Value) (b o:Nat),bj (cA w ω s) us ls->∀t∈bS ks ls us b o,cA w ω s t.u t.l
 | [],_,_,_,_,_,t,ht=>by simp[bS]at ht
 | .arr .. :: _,[],_,_,_,_,t,ht=>by simp[bS]at ht
 | .val _::_,[],_,_,_,_,t,ht=>by simp[bS]at ht
 | .mp _::_,[],_,_,_,_,t,ht=>by simp[bS]at ht
 | .arr .. :: _,_::_,[],_,_,_,t,ht=>by simp[bS]at ht
 | .val _::_,_::_,[],_,_,_,t,ht=>by simp[bS]at ht
 | .mp _::_,_::_,[],_,_,_,t,ht=>by simp[bS]at ht
 | .arr e cs d::ks,l::ls,u::us,b,o,h,t,ht=>by
  simp only[bS,List.mem_cons]at ht;rcases ht with rfl|ht
  ·exact h.1
  ·exact td ks ls us _ _ h.2 t ht
 | .val _::ks,l::ls,u::us,b,o,h,t,ht=>td ks ls us _ _ h.2 t ht
 | .mp _::ks,l::ls,u::us,b,o,h,t,ht=>td ks ls us _ _ h.2 t ht
theorem mr:∀(ks:List K) (ls:List L) (us:List Value) (b o:Nat),(∀t∈bS ks ls us b o,b<=t.num/\t.num<b+ks.length/\o<=t.out)/\(bS ks ls us b o).Pairwise fun t t'=>t.num<t'.num/\t.out<t'.out
 | [],_,_,_,_=>⟨fun t ht=>by simp[bS]at ht,by simp[bS]⟩
 | .arr .. :: _,[],_,_,_=>⟨fun t ht=>by simp[bS]at ht,by simp[bS]⟩
 | .val _::_,[],_,_,_=>⟨fun t ht=>by simp[bS]at ht,by simp[bS]⟩
 | .mp _::_,[],_,_,_=>⟨fun t ht=>by simp[bS]at ht,by simp[bS]⟩
 | .arr .. :: _,_::_,[],_,_=>⟨fun t ht=>by simp[bS]at ht,by simp[bS]⟩
 | .val _::_,_::_,[],_,_=>⟨fun t ht=>by simp[bS]at ht,by simp[bS]⟩
 | .mp _::_,_::_,[],_,_=>⟨fun t ht=>by simp[bS]at ht,by simp[bS]⟩
 | .arr e cs d::ks,l::ls,u::us,b,o=>by
  obtain⟨h1,h2⟩:=mr ks ls us (b+1) (o+1);refine⟨fun t ht=>?_,?_⟩
  ·simp only[bS,List.mem_cons]at ht;rcases ht with rfl|ht
   ·simp
   ·have:=h1 t ht;simp only[List.length_cons];omega
  ·simp only[bS];refine List.Pairwise.cons (fun t ht=>?_) h2;have:=h1 t ht;exact⟨by show b<t.num;omega,by show o<t.out;omega⟩
 | .val _::ks,l::ls,u::us,b,o=>by obtain⟨h1,h2⟩:=mr ks ls us (b+1) o;refine⟨fun t ht=>?_,h2⟩;have:=h1 t ht;simp only[List.length_cons];omega
 | .mp _::ks,l::ls,u::us,b,o=>by obtain⟨h1,h2⟩:=mr ks ls us (b+1) o;refine⟨fun t ht=>?_,h2⟩;have:=h1 t ht;simp only[List.length_cons];omega
theorem dS{α:Type}{R:α->α->Prop}:∀ {l:List α},l.Pairwise R->∀x∈l,∀y∈l,x=y\/R x y\/R y x
 | [],_,x,hx,_,_=>by cases hx
 |z::l,h,x,hx,y,hy=>by
  rw[List.pairwise_cons]at h;rcases List.mem_cons.1 hx with e|hx' <;> rcases List.mem_cons.1 hy with e'|hy'
  ·exact .inl (e.trans e'.symm)
  ·exact .inr (.inl (by rw[e];exact h.1 y hy'))
  ·exact .inr (.inr (by rw[e'];exact h.1 x hx'))
  ·exact dS h.2 x hx' y hy'
structure Gx (s:S) (t:oX):Prop where
 Is:1<=t.cs.len
 was:(∃e' cs',t.l=.eU e' cs'/\ew t.l=none)\/∃id g hh dp x,t.l=.ref id g hh []/\g=(s.ob id).g/\(s.ob id).o=.arr t.e t.cs dp x/\(dp=t.d\/t.cs.plain=true)
theorem zM{e:Nat}{cs:aK}{deep:Bool}{l:L}{x:List cs.T}{s1:S}(ht:eJ (A:=real) e cs deep l s=some (x,s1)):
  (s1=s/\x=[]/\∃e' cs',l=.eU e' cs')\/∃id g hh dp,l=.ref id g hh []/\g=(s.ob id).g/\(s.ob id).o=.arr e cs dp x/\s1=s.bQ id true .gone/\(dp=deep\/cs.plain=true):=by
 cases l with
 |eU e' cs'=>
  simp only[eJ]at ht;split at ht
  ·rename_i hb;have:=Ty.eq_of_beq hb;injection this with e1 e2
   subst e1;subst e2;injection ht with ht
   injection ht with h1 h2
   exact .inl ⟨h2.symm,h1.symm,_,_,rfl⟩
  ·cases ht
 |ref id g hh p=>
  cases p with
  |cons _ _=>cases ht
  |nil=>
   simp only[eJ]at ht;cases hg:Nat.beq (s.ob id).g g with
   |false=>rw[hg]at ht;cases ht
   |true=>
    rw[hg]at ht;simp only[cond_true]at ht;have hge:=Nat.eq_of_beq_eq_true hg;cases cf:(s.ob id).o with
    |arr e' cs' dp y=>
     rw[cf]at ht;simp only at ht;cases hd:(dp==deep||cs'.plain)with
     |false=>rw[hd]at ht;cases ht
     |true=>
      rw[hd]at ht;simp only[cond_true]at ht;split at ht
      ·rename_i hb;have:=Ty.eq_of_beq hb;injection this with e1 e2
       subst e1;subst e2;have ht:=Option.some.inj ht;injection ht with h1 h2
       have h1:y=x:=h1;subst h1;refine .inr ⟨id,g,hh,dp,rfl,hge.symm,cf,h2.symm,?_⟩;rw[Bool.or_eq_true,beq_iff_eq]at hd;exact hd
      ·cases ht
    |cB _ _ _=>rw[cf]at ht;cases ht
    |blk _=>rw[cf]at ht;cases ht
    |gone=>rw[cf]at ht;cases ht
    |mp _ _=>rw[cf]at ht;cases ht
 |_=>cases ht
theorem lM:∀(ks:List K) (ls:List L) (us:List Value) (b o:Nat) (s' s1:S),ls.length=us.length->jI ks ls s'=some s1 ->
  (∀t∈bS ks ls us b o,Gx s' t)/\(∀i,(∀t∈bS ks ls us b o,ew t.l≠some i)->s1.ob i=s'.ob i) /\
  (∀t∈bS ks ls us b o,∀i,ew t.l=some i->(s'.ob i).o≠.gone/\s1.ob i=⟨(s'.ob i).g,(s'.ob i).h+1,.gone⟩) /\
  (bS ks ls us b o).Pairwise (fun t t'=>∀i,ew t.l=some i->ew t'.l≠some i)/\s1.sl=s'.sl
 | [],[],us,b,o,s',s1,_,h=>by
  injection h with h
  subst h;exact⟨fun t ht=>by simp[bS]at ht,fun i _=>rfl,fun t ht=>by simp[bS]at ht,by simp[bS],rfl⟩
 | [],_::_,_,_,_,_,_,_,h=>by cases h
 |_::_,[],_,_,_,_,_,_,h=>by cases h
 |k::ks,l::ls,[],_,_,_,_,hl,_=>by cases hl
 | .val t::ks,l::ls,u::us,b,o,s',s1,hl,h=>lM ks ls us (b+1) o s' s1 (by simpa using hl) h
 | .arr e cs d::ks,l::ls,u::us,b,o,s',s1,hl,h=>by
  simp only[jI,j9]at h;cases hf:Nat.ble 1 cs.len with
  |false=>rw[hf]at h;cases h
  |true=>
   rw[hf]at h;simp only[cond_true]at h;cases ha:eJ (A:=real) e cs d l s' with
   |none=>rw[ha]at h;cases h
   |some q=>
    obtain⟨x,s2⟩:=q;rw[ha]at h;simp only[Option.map_some]at h;obtain⟨h1,h2,h3,h4,h5⟩:=lM ks ls us (b+1) (o+1) s2 s1 (by simpa using hl) h;have yn:1<=cs.len:=Nat.le_of_ble_eq_true hf;rcases zM ha with ⟨e1,e2,e',cs',e3⟩|⟨id,g,hh,dp,e1,e2,e3,e4,e5⟩
    ·subst e1;subst e3;refine⟨fun t ht=>?_,fun i hi=>?_,fun t ht i hi=>?_,?_,h5⟩
     ·simp only[bS,List.mem_cons]at ht;rcases ht with rfl|ht
      ·exact⟨yn,.inl ⟨e',cs',rfl,rfl⟩⟩
      ·exact h1 t ht
     ·exact h2 i fun t ht=>hi t (by simp only[bS,List.mem_cons];exact .inr ht)
     ·simp only[bS,List.mem_cons]at ht;rcases ht with rfl|ht
      ·cases hi
      ·exact h3 t ht i hi
     ·simp only[bS];exact List.Pairwise.cons (fun t ht i hi=>by cases hi) h4
    ·subst e1;subst e4;have hne:∀t∈bS ks ls us (b+1) (o+1),ew t.l≠some id:=by intro t ht hi;have:=(h3 t ht id hi).1;rw[St.aV]at this;exact this rfl
     refine⟨fun t ht=>?_,fun i hi=>?_,fun t ht i hi=>?_,?_,h5⟩
     ·simp only[bS,List.mem_cons]at ht;rcases ht with rfl|ht
      ·exact⟨yn,.inr ⟨id,g,hh,dp,x,rfl,e2,e3,e5⟩⟩
      ·obtain⟨q1,q2⟩:=h1 t ht;refine⟨q1,q2.imp (fun q=>q) fun q=>?_⟩;obtain⟨id',g',rz,CB,x',r1,r2,r3,r4⟩:=q;have:id'≠id:=fun e=>hne t ht (by rw[r1,e];rfl);rw[St.bz _ _ _ this]at r2 r3;exact⟨id',g',rz,CB,x',r1,r2,r3,r4⟩
     ·have hid:i≠id:=fun e0=>hi ⟨e,cs,d,.ref id g hh [],u,b,o⟩ (by simp[bS]) (by rw[e0];rfl);rw[h2 i fun t ht=>hi t (by simp only[bS,List.mem_cons];exact .inr ht),St.bz _ _ _ hid]
     ·simp only[bS,List.mem_cons]at ht;rcases ht with rfl|ht
      ·have hi':id=i:=by injection hi
       subst hi';rw[h2 id hne,St.aV];exact⟨by rw[e3];exact fun e=>(by cases e),rfl⟩
      ·have hid:i≠id:=fun e=>hne t ht (by rw[hi,e]);have:=h3 t ht i hi;rw[St.bz _ _ _ hid]at this;exact this
     ·simp only[bS];exact List.Pairwise.cons (fun t ht i hi=>(by injection hi with hi;subst hi;exact hne t ht)) h4
theorem vS{w':World}{aI:aJ}:∀(ks:List K) (ls:List L) (us:List Value) (vs:List (KV real)) (b o:Nat) (s1 s2:S), ls.length = us.length -> ks.length = ls.length -> iJ ks ls vs s1 = some s2 -> vs.map (·.1) = ks.filter K.k9 -> fw w' aI o vs (pick ks us) ->
    (bS ks ls us b o).Pairwise (fun t t'=>∀i, ew t.l = some i -> ew t'.l ≠ some i) ->
    (∀i, (∀t ∈ bS ks ls us b o, ew t.l ≠ some i) -> s2.ob i = s1.ob i) /\ s2.sl = s1.sl /\
    ∀t ∈ bS ks ls us b o, ∃x':List t.cs.T, (Ty.sl t.e t.cs).R w' aI (bk (bif t.d then 2 else 1) t.out []) t.u x' /\ ∀i, ew t.l = some i -> s2.ob i = ⟨(s1.ob i).g, (s1.ob i).h + 1, .arr t.e t.cs t.d x'⟩:=by
  intro ks;induction ks with
  |nil=>
    intro ls us vs b o s1 s2 hl hk h _ _ _;have e1:ls = []:=List.length_eq_zero_iff.1 hk.symm;subst e1;cases vs with
    |nil=>injection h with h; subst h; exact⟨fun _ _=>rfl, rfl, fun t ht=>by simp[bS]at ht⟩
    |cons _ _=>cases h
  |cons k ks ih=>
    intro ls us vs b o s1 s2 hl hk h hks hr hp;match ls, us, hl, hk, h, hr, hp with
    |l:: ls, u:: us, hl, hk, h, hr, hp=>
      have hl':ls.length = us.length:=by simpa using hl
      have hk':ks.length = ls.length:=by simpa using hk
      cases k with
      |val t=>exact ih ls us vs (b + 1) o s1 s2 hl' hk' h hks hr hp
      |mp _=>cases l <;> cases vs <;> cases h
      |arr e cs d=>
        match vs, hks, hr, h with
        | [], hks, _, _=>simp[K.k9]at hks
        |⟨kk, x⟩:: vs, hks, hr, h=>
          simp only[List.map_cons, List.filter_cons, K.k9, if_true, List.cons.injEq]at hks;obtain⟨hkk, hks⟩:=hks;subst hkk;have B6:(Ty.sl e cs).R w' aI (bk (bif d then 2 else 1) o []) u x:=hr.1;have pU:fw w' aI (o + 1) vs (pick ks us):=hr.2;simp only[bS]at hp;rw[List.pairwise_cons]at hp;have rest:∀s1', iJ ks ls vs s1' = some s2 -> (∀i, ew l ≠ some i -> s1'.ob i = s1.ob i) -> s1'.sl = s1.sl -> (∀i, ew l = some i -> s1'.ob i = ⟨(s1.ob i).g, (s1.ob i).h + 1, .arr e cs d x⟩) ->
              (∀i, (∀t ∈ bS (.arr e cs d:: ks) (l:: ls) (u:: us) b o, ew t.l ≠ some i) -> s2.ob i = s1.ob i) /\ s2.sl = s1.sl /\
              ∀t ∈ bS (.arr e cs d:: ks) (l:: ls) (u:: us) b o, ∃x':List t.cs.T, (Ty.sl t.e t.cs).R w' aI (bk (bif t.d then 2 else 1) t.out []) t.u x' /\ ∀i, ew t.l = some i -> s2.ob i = ⟨(s1.ob i).g, (s1.ob i).h + 1, .arr t.e t.cs t.d x'⟩:=by
            intro s1' hb h1 h2 h3;obtain⟨q1, q2, q3⟩:=ih ls us vs (b + 1) (o + 1) s1' s2 hl' hk' hb hks pU hp.2;refine⟨fun i hi=>?_, q2.trans h2, fun t ht=>?_⟩
            · rw[q1 i fun t ht=>hi t (by simp only[bS, List.mem_cons]; exact .inr ht)]
              exact h1 i (hi ⟨e, cs, d, l, u, b, o⟩ (by simp[bS]))
            · simp only[bS, List.mem_cons]at ht
              rcases ht with rfl|ht
              · refine⟨x, B6, fun i hi=>?_⟩
                rw[q1 i fun t ht=>hp.1 t ht i hi, h3 i hi]
              · obtain⟨x', z1, z2⟩:=q3 t ht
                refine⟨x', z1, fun i hi=>?_⟩;rw[z2 i hi, h1 i fun e=>hp.1 t ht i e hi]
          cases l with
          |eU e' cs'=>exact rest s1 h (fun _ _=>rfl) rfl (fun i hi=>by cases hi)
          |ref id g hh p=>
            cases p with
            |nil=>
              refine rest (s1.bQ id true (.arr e cs d x)) h (fun i hi=>St.bz _ _ _ fun e=>hi (by rw[e]; rfl)) rfl (fun i hi=>?_);injection hi with hi
              subst hi;rw[St.aV];rfl
            |cons _ _=>cases h
          |_=>cases h
    | [], _, _, hk, _, _, _=>simp at hk
    |_:: _, [], hl, _, _, _, _=>simp at hl
end
end Go.R
set_option linter.unusedVariables false
namespace Go.R
variable {H:Nat->Value}
open Classical
section
variable {R:Type} {P:Program} {E:Env} {Ψ:bV->Option ij} {ω:aJ} {a:Act} {w:World} {s:S} {k:S->Option R} {r:R} {o:Oper} {Q:Exit->Act->World->Prop}
theorem sB {w':World} {aI bR:aJ} {aT:List Sh} {vs:List (KV real)} {base B:Nat} {v:Value} (rX:aT.all Sh.qy = true) (hks:vs.map (·.1) = (aT.map Sh.ks).flatten)
    (hown:∀i, bL B (aL aT) i -> ∀b p, b<w'.heap.size -> aI b = some (i, p) -> bR b = some (base + (i-B), p)) (hc:(∀v ∈ vs, v.1.closed = true) \/ ∀b, b<w'.heap.size -> aI b = none -> bR b = none) (hr:xS w' aI B aT vs v):
    ∃us, fJ w' bR base aT vs us /\ ∀s'':S, ∀cg:List cm, bj (dh H w' bR s'') us cg -> dh H w' bR s'' v (TV.mL cg):=by
  have gen:∀us:List Value, v = .tuple us.toArray -> fJ w' aI B aT vs us -> aT.length ≠ 1 -> ∃us, fJ w' bR base aT vs us /\ ∀s'':S, ∀cg:List cm, bj (dh H w' bR s'') us cg -> dh H w' bR s'' v (TV.mL cg):=by
    intro us e1 e2 hne;have hn:=nr hown aT vs us B rX (Nat.le_refl _) (Nat.le_refl _) hc e2;rw[Nat.sub_self, Nat.add_zero]at hn;refine⟨us, hn, fun s'' cg h2=>?_⟩;have hlen:us.length = aT.length:=by
      have:∀(aT:List Sh) (vs:List (KV real)) (us:List Value) (b:Nat), fJ w' aI b aT vs us -> us.length = aT.length:=by
        intro aT;induction aT with
        |nil=>intro vs us b h; rw[h.2]; rfl
        |cons sh aT ih=>
          intro vs us b h;cases us with
          |nil=>exact h.elim
          |cons u us=>simp[ih _ _ _ h.2.2]
      exact this aT vs us B e2
    have wq:=h2.length;have EC:TV.mL cg = .nR (cg.map TV.comp):=by
      match cg, wq with
      | [], _=>rfl
      | [t], wq=>exfalso; apply hne; rw[<- hlen, wq]; rfl
      |_:: _:: _, _=>rfl
    rw[EC];refine⟨us, e1, ?_⟩;have key:∀(us:List Value) (cg:List cm), bj (dh H w' bR s'') us cg -> bj (nV w' bR s'') us (cg.map TV.comp):=by
      intro us;induction us with
      |nil=>intro cg h2; cases cg with|nil=>trivial|cons _ _=>exact h2.elim
      |cons u us ih=>
        intro cg h2;cases cg with
        |nil=>exact h2.elim
        |cons t cg=>exact⟨zF h2.1, ih cg h2.2⟩
    exact key us cg h2
  match aT, hr, gen, rX, hown, hks with
  | [], hr, gen, _, _, _=>obtain⟨us, e1, e2⟩:=hr; exact gen us e1 e2 (by simp)
  |_:: _:: _, hr, gen, _, _, _=>obtain⟨us, e1, e2⟩:=hr; exact gen us e1 e2 (by simp)
  | [sh], hr, _, rX, hown, hks=>
    obtain⟨e1, e2⟩:=hr;have hvl:vs.length = sh.ks.length:=by have:=congrArg List.length hks;simpa using this
    have E7:fJ w' aI B [sh] vs [v]:=⟨e1, e2, by rw[<- hvl]; simp, rfl⟩
    have hn:=nr hown [sh] vs [v] B rX (Nat.le_refl _) (Nat.le_refl _) hc E7;rw[Nat.sub_self, Nat.add_zero]at hn;refine⟨[v], hn, fun s'' cg h2=>?_⟩;match cg, h2 with
    | [t], h2=>exact h2.1
    |_:: _:: _, h2=>exact h2.2.elim
def vK(w:World)(ω:aJ)(t:oX)(i:Nat):Prop:=∃b arr n c,t.u=.slice (some ⟨b,0,none⟩) n c/\w.heap[b]? = some (.cells arr t.e (0,0))/\arr.size=c*t.cs.len/\ω b=some (i,[])
def jF(w:World)(ω:aJ)(t:oX)(i:Nat):Prop:=ew t.l=some i/\vK w ω t i
noncomputable def aJ.gu(w:World)(ω:aJ)(es:List oX):aJ:=fun b=>match ω b with
 |none=>none
 |some (i,p)=>match es.find? (fun t=>decide (jF w ω t i))with
  |some t=>some (t.num,p)
  |none=>none
noncomputable def aJ.fN(w:World)(ω aI:aJ)(es:List oX)(base B W:Nat):aJ:=fun b=>match aI b with
 |none=>match aJ.gu w ω es b with
  |none=>ω.old base W b
  |some _=>none
 |some (j,p)=>if B<=j/\j<B+W then some (base+(j-B),p)else
  match es.find? (fun t=>decide (t.out=j/\∃i,jF w ω t i))with
  |some t=>match ew t.l with
   |some i=>if base<=i/\i<base+W then none else some (i,p)
   |none=>none
  |none=>none
theorem iT{es:List oX}{b:Nat}{k:Key}(h:aJ.gu w ω es b=some k):∃t∈es,∃i,jF w ω t i/\k.1=t.num/\ω b=some (i,k.2):=by
 unfold aJ.gu at h;split at h
 ·cases h
 ·rename_i i p hb;split at h
  ·rename_i t ht;injection h with h
   subst h;have h1:=List.find?_some ht;exact⟨t,List.mem_of_find?_eq_some ht,i,of_decide_eq_true h1,rfl,hb⟩
  ·cases h
structure oW (es:List oX):Prop where
 ids:es.Pairwise fun t t'=>∀i,ew t.l=some i->ew t'.l≠some i
 ES:es.Pairwise fun t t'=>t.num<t'.num/\t.out<t'.out
theorem oW.id{es:List oX}(h:oW es){t t':oX}{i:Nat}(ht:t∈es)(ht':t'∈es)(h1:ew t.l=some i)(h2:ew t'.l=some i):t=t':=by
 rcases dS h.ids t ht t' ht' with e|e|e
 ·exact e
 ·exact absurd h2 (e i h1)
 ·exact absurd h1 (e i h2)
theorem oW.num{es:List oX}(h:oW es){t t':oX}(ht:t∈es)(ht':t'∈es)(h1:t.num=t'.num):t=t':=by
 rcases dS h.ES t ht t' ht' with e|e|e
 ·exact e
 ·have:=e.1;omega
 ·have:=e.1;omega
theorem oW.out{es:List oX}(h:oW es){t t':oX}(ht:t∈es)(ht':t'∈es)(h1:t.out=t'.out):t=t':=by
 rcases dS h.ES t ht t' ht' with e|e|e
 ·exact e
 ·have:=e.2;omega
 ·have:=e.2;omega
theorem nG{es:List oX}(hd:oW es){t:oX}(ht:t∈es){i b:Nat}{p:List (Nat×Nat)}(hT:jF w ω t i)(hb:ω b=some (i,p)):aJ.gu w ω es b=some (t.num,p):=by
 unfold aJ.gu;rw[hb];simp only;cases hf:es.find? (fun t=>decide (jF w ω t i))with
 |none=>have:=List.find?_eq_none.1 hf t ht;exact absurd (decide_eq_true hT) this
 |some t'=>have h0:=List.find?_some hf;have h1:=of_decide_eq_true h0;have h2:=List.mem_of_find?_eq_some hf;rw[hd.id ht h2 hT.1 h1.1]
theorem AT{es:List oX}(hd:oW es)(hi:∀b b' k,ω b=some k->ω b'=some k->b=b')(b b':Nat)(k:Key)(h1:aJ.gu w ω es b=some k)(h2:aJ.gu w ω es b'=some k):b=b':=by
 obtain⟨t,t1,i,t2,t3,t4⟩:=iT h1;obtain⟨t',Gu,i',Ih,Ii,zw⟩:=iT h2;have:=hd.num t1 Gu (t3.symm.trans Ii);subst this;have FR:i=i':=by have:=t2.1;rw[Ih.1]at this;injection this with this;exact this.symm
 subst FR;exact hi b b' _ t4 zw
theorem AR{es:List oX}(hd:∀b k,ω b=some k->b<w.heap.size)(b:Nat)(k:Key)(h:aJ.gu w ω es b=some k):b<w.heap.size:=by obtain⟨_,_,_,_,_,h4⟩:=iT h;exact hd b _ h4
theorem AS{es:List oX}{s1:S}(h3:∀t∈es,∀i,ew t.l=some i->(s1.ob i).o=.gone):Hid ω s1 (aJ.gu w ω es):=by
 intro b;cases h:aJ.gu w ω es b with
 |none=>exact .inl rfl
 |some k=>obtain⟨t,t1,i,t2,t3,t4⟩:=iT h;exact .inr ⟨i,k.2,t4,h3 t t1 i t2.1⟩
theorem Fp(d:Bool)(i:Nat):bk (bif d then 2 else 1) i []=.flat (i,[])\/bk (bif d then 2 else 1) i []=.deep (i,[]):=by
 cases d
 ·exact .inl rfl
 ·exact .inr rfl
theorem nf{w:World}{ω:aJ}{d:Bool}{i e m n c:Nat}{ad:Option Addr}(h:Hd w ω e m (bk (bif d then 2 else 1) i []) ad n c):(c=0/\n=0)\/∃b arr,ad=some ⟨b,0,none⟩/\w.heap[b]? = some (.cells arr e (0,0))/\arr.size=c*m/\ω b=some (i,[]):=by cases d <;> exact h
theorem Ce {w':World} {bR:aJ} {s3:S} {t:oX} {id g hh:Nat} {dp:Bool} {x x':List t.cs.T} (h:Rel H ω a w s) (hW:t.l=.ref id g hh []) (hg:g=(s.ob id).g) (ho:(s.ob id).o=.arr t.e t.cs dp x) (yn:1<=t.cs.len) (BF:dp=t.d\/t.cs.plain=true)
  (hR:cA w ω s t.u t.l) (C6:(s3.ob id).g=(s.ob id).g) (It:(s.ob id).h<(s3.ob id).h) (Fc:(s3.ob id).o=.arr t.e t.cs t.d x') (hx:(Ty.sl t.e t.cs).R w' bR (bk (bif t.d then 2 else 1) id []) t.u x')
  (hno:¬vK w ω t id->w.heap.size<=w'.heap.size/\∀b p,ω b=some (id,p)->w'.heap[b]? = w.heap[b]? /\ bR b=ω b):Tr w ω s w' bR s3 id:=by
 have hc0:s.cont id g hh []=some ⟨t.e,t.cs,x,bif dp then 2 else 1⟩:=cu ho hg;have hu:(Ty.sl t.e t.cs).R w ω (bk (bif t.d then 2 else 1) id []) t.u x:=by rw[hW]at hR;exact fa BF (hR.2.2 _ hc0)
 have key:∀v,(Ty.sl t.e t.cs).R w ω (bk (bif t.d then 2 else 1) id []) v x->(Ty.sl t.e t.cs).R w' bR (bk (bif t.d then 2 else 1) id []) v x':=by
  intro v hv;obtain⟨ad,n,c,e1,e2,e3,e4,e5⟩:=hv;obtain⟨xU,n',c',f1,f2,f3,f4,f5⟩:=hu;obtain⟨Fy,H9,FA,g1,g2,g3,g4,g5⟩:=hx;have hn:n'=n:=by rw[<-f2,<-e2]
  have hsame:Fy=xU/\H9=n'/\FA=c':=by rw[f1]at g1;injection g1 with z1 z2 z3;exact⟨z1.symm,z2.symm,z3.symm⟩
  obtain⟨s1,s2,Fs⟩:=hsame;subst s1;subst s2;subst Fs;rcases nf e4 with ⟨q1,q2⟩|⟨b,arr,q1,q2,q3,q4⟩
  ·subst q1;subst q2;have hx0:x'=[]:=by
    have:x'.length=0:=by rw[g2,hn]
    exact List.length_eq_zero_iff.1 this
   subst hx0;subst e1;exact mh
  ·by_cases hb:vK w ω t id
   ·obtain⟨b',bW,n0,c0,k1,k2,k3,k4⟩:=hb;have FK:b=b':=h.inj _ _ _ q4 k4;subst FK;rw[q2]at k2;injection k2 with k2
    injection k2 with k2
    subst k2;rw[f1]at k1;injection k1 with z1 z2 z3
    subst z1;subst z2;subst z3;have FL:c=FA:=Nat.eq_of_mul_eq_mul_right yn (q3.symm.trans k3);subst FL;subst q1;have hv:v=t.u:=by rw[e1,f1,hn]
    rw[hv];exact⟨_,_,_,f1,g2,g3,g4,g5⟩
   ·-- it has no block of its own: it is empty
    rcases nf f4 with ⟨z1,z2⟩|⟨b',bW,z1,z2,z3,z4⟩
    ·have Ez:n=0:=by rw[<-hn];exact z2
     have hx0:x'=[]:=by
      have:x'.length=0:=by rw[g2];exact z2
      exact List.length_eq_zero_iff.1 this
     subst hx0;obtain⟨hsz,hkeep⟩:=hno hb;obtain⟨m1,m2⟩:=hkeep b [] q4;refine⟨ad,n,c,e1,by rw[Ez];rfl,e3,?_,fun i A hi _=>absurd hi (by omega)⟩;have:(c=0/\n=0)\/∃b arr,ad=some ⟨b,0,none⟩/\w'.heap[b]? = some (.cells arr t.e (0,0))/\arr.size=c*t.cs.len/\bR b=some (id,[]):=.inr ⟨b,arr,q1,m1.trans q2,q3,m2.trans q4⟩;cases t.d <;> exact this
    ·exact absurd ⟨b',bW,_,_,by rw[f1,z1],z2,z3,z4⟩ hb
 have xp:∀g0 h0 p c,g0<=(s.ob id).g->h0<=(s.ob id).h+(if g0=(s.ob id).g then 0 else h0)->s3.cont id g0 h0 p=some c->p=[]/\g0=(s.ob id).g/\c=⟨t.e,t.cs,x',bif t.d then 2 else 1⟩:=by
  intro g0 h0 p c hg0 Et hc;have Dc:g0=(s.ob id).g:=by
   unfold St.cont at hc;cases hb:Nat.beq (s3.ob id).g g0 with
   |false=>rw[hb]at hc;cases hc
   |true=>rw[<-C6];exact(Nat.eq_of_beq_eq_true hb).symm
  cases p with
  |nil=>
   rw[cu Fc (Dc.trans C6.symm)]at hc;injection hc with hc
   exact⟨rfl,Dc,hc.symm⟩
  |cons st p=>
   exfalso;rw[if_pos Dc]at Et;have hne:Nat.beq (s3.ob id).h h0=false:=by rw[Bool.eq_false_iff];intro e;have:=Nat.eq_of_beq_eq_true e;omega
   unfold St.cont fX.cont at hc;rw[Fc]at hc;simp only[hne,Bool.and_false,cond_false]at hc;cases hb:Nat.beq (s3.ob id).g g0 <;> rw[hb]at hc <;> cases hc
 have Av:∀g0 h0,h0<=(s.ob id).h+(if g0=(s.ob id).g then 0 else h0)->h0<=(s3.ob id).h+(if g0=(s3.ob id).g then 0 else h0):=by
  intro g0 h0 Et;rw[C6];split at Et <;> rename_i hc
  ·rw[if_pos hc];omega
  ·rw[if_neg hc];omega
 exact
 {ref:=fun v g0 h0 p hr=>by
   refine⟨by rw[C6];exact hr.1,Av _ _ hr.2.1,fun c hc=>?_⟩;obtain⟨rfl,Dc,rfl⟩:=xp g0 h0 p c hr.1 hr.2.1 hc;have hv:=hr.2.2 _ (cu (h:=h0) ho Dc);exact key v (fa BF hv)
  ptr:=fun v g0 off hr=>⟨by rw[C6];exact hr.1,fun _ cells hc=>by rw[Fc]at hc;cases hc⟩
  cV:=fun v g0 hr=>hr.shut C6 fun k x e=>by rw[Fc]at e;cases e
  cj:=fun v g0 h0 p i off hr=>by
   refine⟨by rw[C6];exact hr.1,Av _ _ hr.2.1,fun c hc hm=>?_⟩;obtain⟨rfl,Dc,rfl⟩:=xp g0 h0 p c hr.1 hr.2.1 hc;have Az:(bif dp then 2 else 1)≠0:=kf dp;obtain⟨r1,r2,⟨b,r3,r4⟩,v',r5⟩:=hr.2.2 _ (cu (h:=h0) ho Dc) Az;have fL:=key v' (fa BF r5);have hlen:x'.length=x.length:=by
    obtain⟨ad,n,c,e1,e2,_⟩:=r5;obtain⟨xU,n',c',f1,f2,_⟩:=fL;rw[e1]at f1;injection f1 with _ z2 _
    rw[f2,e2,z2]
   refine⟨r1,by show IV.i i<(x'.length:Int);rw[hlen];exact r2,⟨b,?_,r4⟩,v',fL⟩;have hpos:0<x.length:=by have h1:(0:Int)<=IV.i i:=r1;have h2:IV.i i<(x.length:Int):=r2;omega
   obtain⟨ad,n,c,e1,e2,e3,e4,e5⟩:=fa BF r5;obtain⟨xU,n',c',f1,f2,f3,f4,f5⟩:=fL;rw[e1]at f1;injection f1 with z1 z2 z3
   subst z1;subst z2;subst z3;rcases nf e4 with ⟨_,q2⟩|⟨b1,eJ,q1,q2,q3,q4⟩
   ·rw[q2]at e2;omega
   ·rcases nf f4 with ⟨_,k2⟩|⟨b2,D1,k1,k2,k3,k4⟩
    ·rw[k2]at e2;omega
    ·rw[q1]at k1;injection k1 with k1
     injection k1 with k1
     subst k1;have:b=b1:=h.inj _ _ _ r3 q4;subst this;exact k4 }
structure vI (H:Nat->Value) (ω:aJ) (w:World) (s:S) (aI:aJ) (w':World) (s':S) (base W:Nat) (L:Nat->Prop) (v:Value) (t:cm):Prop where
 ext:dr ω w aI w'
 tr:∀i,Tr w ω s w' aI s' i
 sl:s'.sl=s.sl
 kept:∀i,¬bL base W i -> ¬L i->s'.ob i=s.ob i/\∀b p,ω b=some (i,p)->w'.heap[b]? = w.heap[b]? /\ aI b=some (i,p)
 ER:∀i,bL base W i->(s.ob i).g<(s'.ob i).g
 gu:∀i,L i->(s.ob i).o≠.gone/\(¬bL base W i->∀cells,(s'.ob i).o≠.blk cells)
 res:∀s'':S,(∀i,bL base W i->s''.ob i=s'.ob i)->dh H w' aI s'' v t /\
  ∀i cells,bL base W i->(s''.ob i).o=.blk cells->∃c arr T,aI c=some (i,[])/\w'.heap[c]? = some (.cells arr T (0,0))/\bj (cA w' aI s'') arr.toList cells
theorem vO (h:Rel H ω a w s) {es:List oX} {s1 s2:S} (hd:oW es) (hW:∀t ∈ es, Gx s t) (hR:∀t ∈ es, cA w ω s t.u t.l) (jH:∀t ∈ es, (t.cs.plain||t.d) = true)
    (l2:∀i, (∀t ∈ es, ew t.l ≠ some i) -> s1.ob i = s.ob i) (l3:∀t ∈ es, ∀i, ew t.l = some i -> (s.ob i).o ≠ .gone /\ s1.ob i = ⟨(s.ob i).g, (s.ob i).h + 1, .gone⟩) (l5:s1.sl = s.sl)
    {w':World} {aI:aJ} (b1:∀i, (∀t ∈ es, ew t.l ≠ some i) -> s2.ob i = s1.ob i) (b2:s2.sl = s1.sl)
    (b3:∀t ∈ es, ∃x':List t.cs.T, (Ty.sl t.e t.cs).R w' aI (bk (bif t.d then 2 else 1) t.out []) t.u x' /\ ∀i, ew t.l = some i -> s2.ob i = ⟨(s1.ob i).g, (s1.ob i).h + 1, .arr t.e t.cs t.d x'⟩)
    {aT:List Sh} {vs:List (KV real)} {base B:Nat} (hbase:0<base) (hB:0<B) (rX:aT.all Sh.flat = true) (hks:vs.map (·.1) = (aT.map Sh.ks).flatten) (hrc:(aT.all fun sh=>sh.ks.all K.closed) = true)
    (hout:∀t ∈ es, B + aL aT <= t.out) (gU:dr (aJ.gu w ω es) w aI w') (hinj:∀b b' k, aI b = some k -> aI b' = some k -> b = b') (hdom:∀b k, aI b = some k -> b<w'.heap.size) {v:Value} (hr:xS w' aI B aT vs v):
    ∃bR, Rel H bR a w' (bE base aT vs s2).2 /\ vI H ω w s bR w' (bE base aT vs s2).2 base (aL aT) (fun i=>∃t ∈ es, ew t.l = some i) v (TV.mL (bE base aT vs s2).1):=by
  have hfree:∀b, b<w.heap.size -> aJ.gu w ω es b = none -> w'.heap[b]? = w.heap[b]? /\ aJ.fN w ω aI es base B (aL aT) b = ω.old base (aL aT) b:=by intro b hb hn;obtain⟨q1, q2⟩:=gU.block b hb (.inl hn);refine⟨q1, ?_⟩;unfold aJ.fN;rw[q2, hn]
  have BZ:∀b i p, ω b = some (i, p) -> (∀t ∈ es, ¬jF w ω t i) -> aJ.gu w ω es b = none:=by
    intro b i p hb hno;cases hl:aJ.gu w ω es b with
    |none=>rfl
    |some k=>
      obtain⟨t, t1, i', t2, _, t4⟩:=iT hl;rw[hb]at t4;injection t4 with t4
      injection t4 with t4 _
      subst t4;exact absurd t2 (hno t t1)
  have hkeep:∀b i p, ω b = some (i, p) -> ¬bL base (aL aT) i -> (∀t ∈ es, ¬jF w ω t i) -> w'.heap[b]? = w.heap[b]? /\ aJ.fN w ω aI es base B (aL aT) b = some (i, p):=by intro b i p hb hn hno;obtain⟨q1, q2⟩:=hfree b (h.dom b _ hb) (BZ b i p hb hno);exact⟨q1, q2.trans (A7 hb hn)⟩
  have h0:∀t ∈ es, ∀i, ew t.l = some i -> i ≠ 0:=by intro t ht i hi e;subst e;exact(l3 t ht 0 hi).1 h.dR
  have hE:dr ω w (aJ.fN w ω aI es base B (aL aT)) w':=by
    refine⟨gU.os, gU.tape, gU.output, gU.size, fun b hb hf=>?_⟩;rcases hf with hf|⟨q, hf⟩
    · have hn:aJ.gu w ω es b = none:=by unfold aJ.gu; rw[hf]
      obtain⟨q1, q2⟩:=hfree b hb hn;exact⟨q1, by rw[q2, hf]; exact A8 hf⟩
    · have:=hkeep b 0 q hf (by unfold bL; omega) (fun t ht hT=>h0 t ht 0 hT.1 rfl)
      exact⟨this.1, this.2.trans hf.symm⟩
  have hown:∀i, bL B (aL aT) i -> ∀b p, b<w'.heap.size -> aI b = some (i, p) -> aJ.fN w ω aI es base B (aL aT) b = some (base + (i-B), p):=by intro i hi b p _ hb;unfold aJ.fN;rw[hb];simp only;unfold bL at hi;rw[if_pos hi]
  have hspec:∀b k, aJ.fN w ω aI es base B (aL aT) b = some k -> (ω b = some k /\ ¬bL base (aL aT) k.1 /\ aJ.gu w ω es b = none) \/ (∃j, bL B (aL aT) j /\ k.1 = base + (j-B) /\ aI b = some (j, k.2)) \/ ∃t ∈ es, jF w ω t k.1 /\ ¬bL base (aL aT) k.1 /\ aI b = some (t.out, k.2):=by
    intro b k hb;unfold aJ.fN at hb;split at hb
    · split at hb
      · rename_i hl
        obtain⟨q1, q2⟩:=A9 hb;exact .inl ⟨q1, q2, hl⟩
      · cases hb
    · rename_i j p hj
      split at hb
      · rename_i hr'
        injection hb with hb
        subst hb;exact .inr (.inl ⟨j, hr', rfl, hj⟩)
      · split at hb
        · rename_i t ht
          have q0:=List.find?_some ht;have q1:=of_decide_eq_true q0;obtain⟨q1, i, q2⟩:=q1;have q3:=List.mem_of_find?_eq_some ht;rw[q2.1]at hb;simp only at hb;split at hb
          · cases hb
          · rename_i Fh
            injection hb with hb
            subst hb;exact .inr (.inr ⟨t, q3, q2, Fh, by rw[hj, q1]⟩)
        · cases hb
  have B3:∀t ∈ es, ∀i, jF w ω t i -> ¬bL base (aL aT) i -> ∀b p, b<w'.heap.size -> aI b = some (t.out, p) -> aJ.fN w ω aI es base B (aL aT) b = some (i, p):=by
    intro t ht i hT Fh b p _ hb;unfold aJ.fN;rw[hb];simp only;have:=hout t ht;rw[if_neg (by omega)];cases hf:es.find? (fun t'=>decide (t'.out = t.out /\ ∃i, jF w ω t' i))with
    |none=>have:=List.find?_eq_none.1 hf t ht;exact absurd (decide_eq_true ⟨rfl, i, hT⟩) this
    |some t'=>have q0:=List.find?_some hf;have q1:=of_decide_eq_true q0;have q2:=List.mem_of_find?_eq_some hf;have e:=hd.out q2 ht q1.1;subst e;simp only;rw[hT.1];simp only;unfold bL at Fh;rw[if_neg Fh]
  have HU:∀v ∈ vs, v.1.closed = true:=by
    intro v hv;have hm:v.1 ∈ (aT.map Sh.ks).flatten:=by rw[<- hks]; exact List.mem_map.2 ⟨v, hv, rfl⟩
    obtain⟨l, h1, h2⟩:=List.mem_flatten.1 hm;obtain⟨sh, h3, rfl⟩:=List.mem_map.1 h1;exact List.all_eq_true.1 (List.all_eq_true.1 hrc sh h3) _ h2
  obtain⟨us, B9, hv⟩:=sB (bR:=aJ.fN w ω aI es base B (aL aT)) (Ab rX) hks hown (.inl HU) hr;obtain⟨y1, y2, y3, y4⟩:=kO aT vs us base s2 B9;obtain⟨m1, m2⟩:=y4 _ (fun _ _=>rfl);have EI:∀i, (s2.ob i).g = (s.ob i).g:=by
    intro i;by_cases hex:∃t ∈ es, ew t.l = some i
    · obtain⟨t, ht, hi⟩:=hex
      obtain⟨x', _, q2⟩:=b3 t ht;rw[q2 i hi, (l3 t ht i hi).2]
    · have hno:∀t ∈ es, ew t.l ≠ some i:=fun t ht hi=>hex ⟨t, ht, hi⟩
      rw[b1 i hno, l2 i hno]
  have tr:∀i, Tr w ω s w' (aJ.fN w ω aI es base B (aL aT)) (bE base aT vs s2).2 i:=fun i=>by
    by_cases e:bL base (aL aT) i
    · exact dx.tr (by unfold dx; rw[<- EI i]; exact y2 i e)
    · by_cases hex:∃t ∈ es, ew t.l = some i
      · obtain⟨t, ht, hi⟩:=hex
        obtain⟨x', q1, q2⟩:=b3 t ht;obtain⟨yn, F9⟩:=hW t ht;rcases F9 with ⟨e', cs', z1, z2⟩|⟨id, g, hh, dp, x, z1, z2, z3, z4⟩
        · rw[hi]at z2; cases z2
        · have hid:id = i:=by rw[z1]at hi; injection hi
          subst hid;have Gh:(bE base aT vs s2).2.ob id = ⟨(s.ob id).g, (s.ob id).h + 1 + 1, .arr t.e t.cs t.d x'⟩:=by rw[y1 id e, q2 id hi, (l3 t ht id hi).2]
          have hread:(Ty.sl t.e t.cs).R w' (aJ.fN w ω aI es base B (aL aT)) (bk (bif t.d then 2 else 1) id []) t.u x':=by
            have wo:=jH t ht;by_cases hT:jF w ω t id
            · exact tZ (v:=⟨.arr t.e t.cs t.d, x'⟩) (B3 t ht id hT e) (.inl wo) q1
            · -- no block of its own: nothing is in it
              have hu:(Ty.sl t.e t.cs).R w ω (bk (bif dp then 2 else 1) id []) t.u x:=by have:=hR t ht;rw[z1]at this;exact this.2.2 _ (cu z3 z2)
              obtain⟨ad, n, c, f1, f2, f3, f4, f5⟩:=hu;rcases nf f4 with ⟨k1, k2⟩|⟨b', bW, k1, k2, k3, k4⟩
              · subst k1; subst k2
                obtain⟨xU, n', c', g1, g2, _⟩:=q1;rw[f1]at g1;injection g1 with w1 w2 w3
                have hx0:x' = []:=by
                  have:x'.length = 0:=by rw[g2, <- w2]
                  exact List.length_eq_zero_iff.1 this
                subst hx0;rw[f1];exact mh
              · exact absurd ⟨hi, b', bW, n, c, by rw[f1, k1], k2, k3, k4⟩ hT
          refine Ce (t:=t) h z1 z2 z3 yn z4 (hR t ht) (by rw[Gh]) (by rw[Gh]; exact Nat.lt_succ_of_lt (Nat.lt_succ_self _)) (by rw[Gh]) hread (fun hnb=>⟨gU.size, fun b p hb=>?_⟩);have:=hkeep b id p hb e (fun t' ht' GG=>by have:=hd.id ht' ht GG.1 hi;subst this;exact hnb GG.2);exact⟨this.1, this.2.trans hb.symm⟩
      · have hno:∀t ∈ es, ew t.l ≠ some i:=fun t ht hi=>hex ⟨t, ht, hi⟩
        refine gq.tr ⟨by rw[y1 i e, b1 i hno, l2 i hno], fun b kk hb hk hj=>?_⟩ hE h.dom;obtain⟨i', p⟩:=kk;have:i' = i:=hj;subst this;have:=hkeep b i' p hk e (fun t ht hT=>hno t ht hT.1);exact⟨this.1, this.2.trans hk.symm⟩
  refine⟨_, ?_, ⟨hE, tr, y3.trans (b2.trans l5), fun i hi hL=>?_, fun i hi=>by rw[<- EI i]; exact y2 i hi, fun i ⟨t, ht, hi⟩=>⟨(l3 t ht i hi).1, fun hin cells eo=>?_⟩, fun s'' hs=>?_⟩⟩
  rotate_left
  · have hno:∀t ∈ es, ew t.l ≠ some i:=fun t ht hi'=>hL ⟨t, ht, hi'⟩
    refine⟨by rw[y1 i hi, b1 i hno, l2 i hno], fun b p hb=>hkeep b i p hb hi fun t ht hT=>hno t ht hT.1⟩
  · obtain⟨x', _, q2⟩:=b3 t ht
    rw[y1 i hin, q2 i hi]at eo;cases eo
  · obtain⟨z1, z2⟩:=y4 s'' hs
    exact⟨hv _ _ z1, z2⟩
  exact
  { inj:=fun b b' k h1 h2=>by
      rcases hspec b k h1 with ⟨e1, e2, e3⟩|⟨j, e1, e2, e3⟩|⟨t, e1, e2, e3, e4⟩ <;> rcases hspec b' k h2 with ⟨f1, f2, f3⟩|⟨j', f1, f2, f3⟩|⟨t', f1, f2, f3, f4⟩
      · exact h.inj b b' k e1 f1
      · exact absurd (by rw[f2]; unfold bL at f1⊢; omega) e2
      · have:=nG (w:=w) hd f1 f2 (b:=b) (p:=k.2) e1
        rw[e3]at this; cases this
      · exact absurd (by rw[e2]; unfold bL at e1⊢; omega) f2
      · have:j = j':=by unfold bL at e1 f1; omega
        subst this;exact hinj b b' _ e3 f3
      · exact absurd (by rw[e2]; unfold bL at e1⊢; omega) f3
      · have:=nG (w:=w) hd e1 e2 (b:=b') (p:=k.2) f1
        rw[f3]at this; cases this
      · exact absurd (by rw[f2]; unfold bL at f1⊢; omega) e3
      · have:=hd.id e1 f1 e2.1 f2.1
        subst this;exact hinj b b' _ e4 f4
    dom:=fun b k h1=>by
      rcases hspec b k h1 with ⟨e1, _⟩|⟨j, _, _, e3⟩|⟨t, _, _, _, e4⟩
      · exact Nat.lt_of_lt_of_le (h.dom b k e1) gU.size
      · exact hdom b _ e3
      · exact hdom b _ e4
    defers:=h.defers
    dP:=h.dP.ext hE
    dR:=by rw[y1 0 (by unfold bL; omega), b1 0 (fun t ht hi=>h0 t ht 0 hi rfl), l2 0 (fun t ht hi=>h0 t ht 0 hi rfl)];exact h.dR
    slots:=fun i=>by rw[y3, b2, l5]; exact dh.frame hE tr (h.slots i)
    dB:=fun i cells eo=>by
      by_cases e:bL base (aL aT) i
      · exact m2 i cells e eo
      · rw[y1 i e]at eo
        by_cases hex:∃t ∈ es, ew t.l = some i
        · obtain⟨t, ht, hi⟩:=hex
          obtain⟨x', _, q2⟩:=b3 t ht;rw[q2 i hi]at eo;cases eo
        · have hno:∀t ∈ es, ew t.l ≠ some i:=fun t ht hi=>hex ⟨t, ht, hi⟩
          rw[b1 i hno, l2 i hno]at eo;obtain⟨b, arr, T, g1, g2, g3⟩:=h.dB i cells eo;have:=hkeep b i [] g1 e (fun t ht hT=>hno t ht hT.1);exact⟨b, arr, T, this.2, this.1.trans g2, g3.mono fun _ _ hl=>cA.frame hE tr hl⟩ }
theorem mG(h:Rel H ω a w s){es:List oX}(hd:oW es):∀(ks:List K) (ls:List L) (us:List Value) (b o:Nat),bj (cA w ω s) us ls->(∀t∈bS ks ls us b o,t∈es)->jX w ω s (aJ.gu w ω es) b ks ls us
 | [],_,_,_,_,_,_=>trivial
 |_::_,[],_,_,_,_,_=>trivial
 |_::_,_::_,[],_,_,h2,_=>h2.elim
 | .val t::ks,l::ls,u::us,b,o,h2,hm=>⟨trivial,mG h hd ks ls us (b+1) o h2.2 hm⟩
 | .mp _::ks,l::ls,u::us,b,o,h2,hm=>⟨trivial,mG h hd ks ls us (b+1) o h2.2 hm⟩
 | .arr e cs d::ks,l::ls,u::us,b,o,h2,hm=>by
  refine⟨fun x s2 ha=>?_,mG h hd ks ls us (b+1) (o+1) h2.2 fun t ht=>hm t (by simp only[bS,List.mem_cons];exact .inr ht)⟩;have ht:(⟨e,cs,d,l,u,b,o⟩:oX)∈es:=hm _ (by simp[bS]);rcases xa h h2.1 ha with ⟨_,rfl,ad,rfl⟩|⟨id,g,hh,dp,e1,e2,e3,e4,e5,e6⟩
  ·exact mh
  ·have hu:=fa e6 e5;by_cases hT:jF w ω ⟨e,cs,d,l,u,b,o⟩ id
   ·refine vL (i:=id) ⟨fun b' hb' hn=>?_,fun b' p hb' hk=>nG hd ht hT hk⟩ hu;unfold aJ.gu;rw[hn]
   ·obtain⟨ad,n,c,f1,f2,f3,f4,f5⟩:=hu;rcases nf f4 with ⟨k1,k2⟩|⟨b',bW,k1,k2,k3,k4⟩
    ·subst k1;subst k2;have hx0:x=[]:=List.length_eq_zero_iff.1 f2;subst hx0;rw[f1];exact mh
    ·exact absurd ⟨by rw[e1];rfl,b',bW,n,c,by rw[f1,k1],k2,k3,k4⟩ hT
theorem tf:∀(ks:List K) (ls:List L) (us:List Value) (b o:Nat),∀t∈bS ks ls us b o,K.arr t.e t.cs t.d∈ks
 | [],_,_,_,_,t,ht=>by simp[bS]at ht
 | .arr .. :: _,[],_,_,_,t,ht=>by simp[bS]at ht
 | .val _::_,[],_,_,_,t,ht=>by simp[bS]at ht
 | .mp _::_,[],_,_,_,t,ht=>by simp[bS]at ht
 | .arr .. :: _,_::_,[],_,_,t,ht=>by simp[bS]at ht
 | .val _::_,_::_,[],_,_,t,ht=>by simp[bS]at ht
 | .mp _::_,_::_,[],_,_,t,ht=>by simp[bS]at ht
 | .arr e cs d::ks,l::ls,u::us,b,o,t,ht=>by
  simp only[bS,List.mem_cons]at ht;rcases ht with rfl|ht
  ·exact List.mem_cons_self
  ·exact List.mem_cons_of_mem _ (tf ks ls us _ _ t ht)
 | .val _::ks,l::ls,u::us,b,o,t,ht=>List.mem_cons_of_mem _ (tf ks ls us _ _ t ht)
 | .mp _::ks,l::ls,u::us,b,o,t,ht=>List.mem_cons_of_mem _ (tf ks ls us _ _ t ht)
theorem su:∀(aW:List Sh),(aW.map Sh.outs).flatten=(dz aW).filter K.k9
 | []=>rfl
 |sh::aW=>by simp only[dz,List.map_cons,List.flatten_cons,List.filter_append];rw[su aW];rfl
end
end Go.R
set_option linter.unusedVariables false
namespace Go.R
variable {H:Nat->Value}
open Classical
section
variable {R:Type} {P:Program} {E:Env} {Ψ:bV->Option ij} {ω:aJ} {a:Act} {w:World} {s:S} {k:S->Option R} {r:R} {o:Oper} {Q:Exit->Act->World->Prop}
theorem Be{t:Ty}{l:L}{s:S}{q:real.V t×S}(h:bY (A:=real) false t l s=some q):q.2.sl=s.sl:=by
 unfold bY at h;split at h
 ·simp only[cond_false]at h;split at h
  ·injection h with h;subst h;rfl
  ·cases h
 ·split at h
  ·injection h with h;subst h;rfl
  ·cases h
 ·split at h
  ·injection h with h;subst h;rfl
  ·cases h
 ·rename_i id g _;cases hb:Nat.beq (s.ob id).g g with
  |false=>rw[hb]at h;cases h
  |true=>
   rw[hb]at h;simp only[cond_true]at h;split at h
   ·split at h
    ·simp only[cond_false]at h;injection h with h;subst h;rfl
    ·cases h
   ·simp only[cond_false]at h;split at h
    ·injection h with h;subst h;rfl
    ·cases h
   ·cases h
 ·cases h
theorem BJ{e:Nat}{cs:aK}{deep:Bool}{l:L}{s:S}{q:real.V (.sl e cs)×S}(h:eJ (A:=real) e cs deep l s=some q):q.2.sl=s.sl:=by
 unfold eJ at h;split at h
 ·split at h
  ·injection h with h;subst h;rfl
  ·cases h
 ·rename_i id g _;cases hb:Nat.beq (s.ob id).g g <;> rw[hb]at h
  ·cases h
  ·simp only[cond_true]at h;split at h
   ·rename_i e' cs' dp x ho;cases hd:(dp==deep||cs'.plain) <;> rw[hd]at h
    ·cases h
    ·simp only[cond_true]at h;split at h
     ·injection h with h;subst h;rfl
     ·cases h
   ·cases h
 ·cases h
theorem Dv{k:IntKind}{l:L}{s:S}{q:real.V (.sl 0 (aK.mp k))×S}(h:tS (A:=real) k l s=some q):q.2.sl=s.sl:=by
 unfold tS at h;split at h
 ·rename_i id g;cases hb:Nat.beq (s.ob id).g g <;> rw[hb]at h
  ·cases h
  ·simp only[cond_true]at h;split at h
   ·split at h
    ·injection h with h;subst h;rfl
    ·cases h
   ·cases h
 ·cases h
theorem Br{k:K}{l:L}{s:S}{q:KV real×S}(h:cW k l s=some q):q.2.sl=s.sl:=by
 cases k with
 |val t=>
  simp only[cW]at h;cases h1:bY (A:=real) false t l s with
  |none=>rw[h1]at h;cases h
  |some p=>rw[h1]at h;injection h with h;subst h;exact Be h1
 |arr e cs deep=>
  simp only[cW]at h;cases h1:eJ (A:=real) e cs deep l s with
  |none=>rw[h1]at h;cases h
  |some p=>rw[h1]at h;injection h with h;subst h;exact BJ h1
 |mp kk=>
  simp only[cW]at h;cases h1:tS (A:=real) kk l s with
  |none=>rw[h1]at h;cases h
  |some p=>rw[h1]at h;injection h with h;subst h;exact Dv h1
theorem jd:∀ {ks:List K} {ls:List L} {s:S} {q:List (KV real)×S},takes ks ls s=some q->q.2.sl=s.sl
 | [],[],s,q,h=>by injection h with h;subst h;rfl
 | [],_::_,s,q,h=>by cases h
 |_::_,[],s,q,h=>by cases h
 |k::ks,l::ls,s,q,h=>by
  simp only[takes]at h;cases h1:cW k l s with
  |none=>rw[h1]at h;cases h
  |some p=>
   rw[h1]at h;simp only[]at h;cases h2:takes ks ls p.2 with
   |none=>rw[h2]at h;cases h
   |some p2=>rw[h2]at h;injection h with h;subst h;exact(jd (q:=p2) h2).trans (Br h1)
theorem jB{cs:aK}{c:df real}{s:S}{q:List (KV real)×S}(h:cr cs c s=some q):q.2.sl=s.sl:=by
 unfold cr at h;split at h
 ·split at h
  ·cases h1:takes cs.ks _ s with
   |none=>rw[h1]at h;cases h
   |some p=>
    rw[h1]at h;simp only[]at h;split at h
    ·injection h with h;subst h;exact jd (q:=p) h1
    ·cases h
  ·cases h
 ·split at h
  ·injection h with h;subst h;rfl
  ·cases h
theorem oA:∀ {aM:List aK} {cc:List (df real)} {s:S} {q:List (KV real)×S},cz aM cc s=some q->q.2.sl=s.sl
 | [],[],s,q,h=>by injection h with h;subst h;rfl
 | [],_::_,s,q,h=>by cases h
 |_::_,[],s,q,h=>by cases h
 |cs::nc,c::cc,s,q,h=>by
  simp only[cz]at h;cases h1:cr cs c s with
  |none=>rw[h1]at h;cases h
  |some p=>
   rw[h1]at h;simp only[]at h;cases h2:cz nc cc p.2 with
   |none=>rw[h2]at h;cases h
   |some p2=>rw[h2]at h;injection h with h;subst h;exact(oA (q:=p2) h2).trans (jB h1)
theorem zd{c:Cp}{v:df real}{s:S}{q:List (KV real)×S}(h:ff c v s=some q):q.2.sl=s.sl:=by
 unfold ff at h;split at h
 ·exact jB h
 ·split at h
  ·split at h
   ·rename_i q' h1;injection h with h;subst h
    exact(jd (q:=q') h1).trans rfl
   ·cases h
  ·cases h
 ·cases h
theorem qQ:∀ {aM:List Cp} {cc:List (df real)} {s:S} {q:List (KV real)×S},cH aM cc s=some q->q.2.sl=s.sl
 | [],[],s,q,h=>by injection h with h;subst h;rfl
 | [],_::_,s,q,h=>by cases h
 |_::_,[],s,q,h=>by cases h
 |cs::nc,c::cc,s,q,h=>by
  simp only[cH]at h;cases h1:ff cs c s with
  |none=>rw[h1]at h;cases h
  |some p=>
   rw[h1]at h;simp only[]at h;cases h2:cH nc cc p.2 with
   |none=>rw[h2]at h;cases h
   |some p2=>rw[h2]at h;injection h with h;subst h;exact(qQ (q:=p2) h2).trans (zd h1)
theorem zj{sh:Sh}{v:cm}{s:S}{q:List (KV real)×S}(h:cl sh v s=some q):q.2.sl=s.sl:=by
 unfold cl at h;split at h
 ·exact jB h
 ·exact jB h
 ·rename_i f aM f' cc;cases hb:Nat.beq f f' <;> rw[hb]at h
  ·cases h
  ·exact oA h
 ·rename_i f aM f' cc;cases hb:Nat.beq f f' <;> rw[hb]at h
  ·cases h
  ·exact qQ h
 ·exact jd h
 ·exact jd h
 ·rename_i ks id g;cases hb:dA s id g with
  |none=>rw[hb]at h;cases h
  |some ls=>
   rw[hb]at h;simp only at h;cases h1:takes ks ls (s.bQ id true .gone)with
   |none=>rw[h1]at h;cases h
   |some q'=>
    rw[h1]at h;injection h with h;subst h
    exact(jd (q:=q') h1).trans rfl
 ·cases h
theorem qN:∀ {aW:List Sh} {vs:List cm} {s:S} {q:List (KV real)×S},bO aW vs s=some q->q.2.sl=s.sl
 | [],[],s,q,h=>by injection h with h;subst h;rfl
 | [],_::_,s,q,h=>by cases h
 |_::_,[],s,q,h=>by cases h
 |sh::aW,v::vs,s,q,h=>by
  simp only[bO]at h;cases h1:cl sh v s with
  |none=>rw[h1]at h;cases h
  |some p=>
   rw[h1]at h;simp only[]at h;cases h2:bO aW vs p.2 with
   |none=>rw[h2]at h;cases h
   |some p2=>rw[h2]at h;injection h with h;subst h;exact(qN (q:=p2) h2).trans (zj h1)
structure BE where
 ks:List K
 id:Nat
 u:Value
 out:Nat
def bJ:List (List K)->List L->List Value->Nat->List BE
 |ks::gH,.ptr id _ _::ls,u::us,o=>⟨ks,id,u,o⟩::bJ gH ls us (o+(ks.length+1))
 |_,_,_,_=>[]
theorem pw:∀(gH:List (List K)) (ls:List L) (us:List Value) (o:Nat),(∀e∈bJ gH ls us o,o<=e.out)/\(bJ gH ls us o).Pairwise fun e e'=>e.out+e.ks.length<e'.out
 | [],_,_,_=>⟨fun t ht=>by simp[bJ]at ht,by simp[bJ]⟩
 |_::_,[],_,_=>⟨fun t ht=>by simp[bJ]at ht,by simp[bJ]⟩
 |ks::gH,l::ls,[],o=>by
  have:bJ (ks::gH) (l::ls) [] o=[]:=by cases l <;> rfl
  rw[this];exact⟨fun t ht=>by simp at ht,by simp⟩
 |ks::gH,l::ls,u::us,o=>by
  cases l with
  |ptr id g off=>
   obtain⟨h1,h2⟩:=pw gH ls us (o+(ks.length+1));simp only[bJ];refine⟨fun t ht=>?_,List.Pairwise.cons (fun t ht=>?_) h2⟩
   ·rcases List.mem_cons.1 ht with rfl|ht
    ·exact Nat.le_refl _
    ·have:=h1 t ht;omega
   ·have:=h1 t ht;show o+ks.length<t.out;omega
  |_=>exact⟨fun t ht=>by simp[bJ]at ht,by simp[bJ]⟩
theorem qR{ks:List K}{v:cm}{s:S}{q:List (KV real)×S}(h:cl (.blk ks) v s=some q):∃id g ls,v=.one (.ptr id g 0)/\(s.ob id).g=g/\(s.ob id).o=.blk ls/\(q.2.ob id).o=.gone:=by
 have key:∀id g,cl (.blk ks) (.one (.ptr id g 0)) s=some q->∃ls,(s.ob id).g=g/\(s.ob id).o=.blk ls/\(q.2.ob id).o=.gone:=by
  intro id g h;simp only[cl]at h;cases hb:dA s id g with
  |none=>rw[hb]at h;cases h
  |some ls=>
   rw[hb]at h;simp only at h;cases h1:takes ks ls (s.bQ id true .gone)with
   |none=>rw[h1]at h;cases h
   |some q'=>
    rw[h1]at h;injection h with h
    subst h;obtain⟨e1,e2⟩:=cZ hb;exact⟨ls,e1,e2,(eH h1).gone (by rw[St.aV])⟩
 cases v with
 |one l=>
  cases l with
  |ptr id g off=>
   cases off with
   |zero=>obtain⟨ls,e1,e2,e3⟩:=key id g h;exact⟨id,g,ls,rfl,e1,e2,e3⟩
   |succ _=>cases h
  |_=>cases h
 |_=>cases h
theorem kH(sh:Sh)(aW:List Sh):eI (sh::aW)=sh.CV++eI aW:=by simp[eI]
structure BI (ω:aJ) (s0 s s1:S) (e:BE):Prop where
 was:∃cells,(s0.ob e.id).o=.blk cells
 now:(s.ob e.id).o≠.gone
 is:(s1.ob e.id).o=.gone
 at_:∃b,ω b=some (e.id,[])/\e.u=.pointer (some ⟨b,0,none⟩)
theorem jC{s0 s2:S}{gH:List (List K)}{ls:List L}{us:List Value}:∀(aM:List Cp) (cc:List (df real)) (cv:List Value) (s:S) (q:List (KV real)×S) (o:Nat),dy s0 s->bj (fun v c=>gC w ω s0 v c) cv cc->cH aM cc s=some q->dy q.2 s2 ->
  (∀o,(∀e∈bJ gH ls us o,BI ω s0 q.2 s2 e)/\(bJ gH ls us o).Pairwise fun e e'=>e.id≠e'.id) ->
  (∀e∈bJ (Bz aM++gH) (ri aM cc++ls) (uD aM cv++us) o,BI ω s0 s s2 e)/\(bJ (Bz aM++gH) (ri aM cc++ls) (uD aM cv++us) o).Pairwise fun e e'=>e.id≠e'.id
 | [],[],cv,s,q,o,hW,h2,h,hw,hr=>by
  injection h with h
  subst h;cases cv with
  |nil=>exact hr o
  |cons _ _=>exact h2.elim
 | [],_::_,_,_,_,_,_,_,h,_,_=>by cases h
 |_::_,[],_,_,_,_,_,_,h,_,_=>by cases h
 |_::_,_::_,[],_,_,_,_,h2,_,_,_=>h2.elim
 |c::aM,v::cc,u::cv,s,q,o,hW,h2,h,hw,hr=>by
  simp only[cH]at h;cases h1:ff c v s with
  |none=>rw[h1]at h;cases h
  |some p=>
   rw[h1]at h;simp only[]at h;cases h3:cH aM cc p.2 with
   |none=>rw[h3]at h;cases h
   |some p2=>
    rw[h3]at h;injection h with h
    subst h;have rA:=kA h1;cases c with
    |ro cs=>obtain⟨k1,k2⟩:=jC aM cc cv p.2 p2 o (hW.trans rA) h2.2 h3 hw hr;exact⟨fun e he=>⟨(k1 e he).was,fun hg=>(k1 e he).now (rA.gone hg),(k1 e he).is,(k1 e he).at_⟩,k2⟩
    |mu ks=>
     cases v with
     |ro _ _=>cases h1
     |ptr id g=>
      obtain⟨id',g',Ch,ei,e1,e2,e3⟩:=qR (show cl (.blk ks) (.one (.ptr id g 0)) s=some p from h1);injection ei with ei
      injection ei with Hh Hi _
      subst Hh;subst Hi;obtain⟨k1,k2⟩:=jC aM cc cv p.2 p2 (o+(ks.length+1)) (hW.trans rA) h2.2 h3 hw hr;simp only[Bz,ri,uD,List.cons_append,bJ];have hs0:s.ob id=s0.ob id:=hW.blk e2;obtain⟨b,f1,f2⟩:=h2.1.2 (by rw[<-hs0];exact e1) Ch (by rw[<-hs0];exact e2);refine⟨fun e he=>?_,List.Pairwise.cons (fun e he=>?_) k2⟩
      ·rcases List.mem_cons.1 he with rfl|he
       ·exact⟨⟨Ch,by show(s0.ob id).o=_;rw[<-hs0];exact e2⟩,(by show(s.ob id).o≠_;rw[e2];exact fun e=>by cases e),hw.gone ((jD h3).gone e3),⟨b,f1,f2⟩⟩
       ·exact⟨(k1 e he).was,fun hg=>(k1 e he).now (rA.gone hg),(k1 e he).is,(k1 e he).at_⟩
      ·intro e4;exact(k1 e he).now (by rw[<-e4];exact e3)
theorem gK{s0:S}:∀(aW:List Sh) (cg:List cm) (us:List Value) (s:S) (q:List (KV real)×S) (o:Nat),dy s0 s->bj (dh H w ω s0) us cg->bO aW cg s=some q ->
  (∀e∈bJ (eI aW) (ct aW cg) (eC aW us) o,BI ω s0 s q.2 e)/\(bJ (eI aW) (ct aW cg) (eC aW us) o).Pairwise fun e e'=>e.id≠e'.id
 | [],_,_,_,_,_,_,_,_=>⟨fun t ht=>by simp[eI,bJ]at ht,by simp[eI,bJ]⟩
 |_::_,[],us,s,q,o,_,_,h=>by cases h
 |_::_,_::_,[],s,q,o,_,h2,_=>h2.elim
 |sh::aW,tv::cg,u::us,s,q,o,hW,h2,h=>by
  simp only[bO]at h;cases h1:cl sh tv s with
  |none=>rw[h1]at h;cases h
  |some p=>
   rw[h1]at h;simp only[]at h;cases h3:bO aW cg p.2 with
   |none=>rw[h3]at h;cases h
   |some p2=>
    rw[h3]at h;injection h with h
    subst h;have rA:=kC h1;have skip:sh.CV=[]->sh.CW tv=[]->sh.BN u=[]->(∀e∈bJ (eI (sh::aW)) (ct (sh::aW) (tv::cg)) (eC (sh::aW) (u::us)) o,BI ω s0 s p2.2 e)/\(bJ (eI (sh::aW)) (ct (sh::aW) (tv::cg)) (eC (sh::aW) (u::us)) o).Pairwise fun e e'=>e.id≠e'.id:=by intro e1 e2 e3;rw[kH,e1];simp only[ct,eC,e2,e3,List.nil_append];obtain⟨k1,k2⟩:=gK aW cg us p.2 p2 o (hW.trans rA) h2.2 h3;exact⟨fun e he=>⟨(k1 e he).was,fun hg=>(k1 e he).now (rA.gone hg),(k1 e he).is,(k1 e he).at_⟩,k2⟩
    cases sh with
    |blk ks=>
     obtain⟨id,g,ls,rfl,e1,e2,e3⟩:=qR h1;obtain⟨k1,k2⟩:=gK aW cg us p.2 p2 (o+(ks.length+1)) (hW.trans rA) h2.2 h3;rw[kH];show(∀e∈bJ ([ks]++eI aW) ([.ptr id g 0]++ct aW cg) ([u]++eC aW us) o,_)/\(bJ ([ks]++eI aW) ([.ptr id g 0]++ct aW cg) ([u]++eC aW us) o).Pairwise _;simp only[List.singleton_append,bJ];have hs0:s.ob id=s0.ob id:=hW.blk e2;have hr:xR ω s0 u id g 0:=h2.1;obtain⟨b,f1,f2⟩:=hr.2 (by rw[<-hs0];exact e1) ls (by rw[<-hs0];exact e2);refine⟨fun e he=>?_,List.Pairwise.cons (fun e he=>?_) k2⟩
     ·rcases List.mem_cons.1 he with rfl|he
      ·exact⟨⟨ls,by show(s0.ob id).o=_;rw[<-hs0];exact e2⟩,(by show(s.ob id).o≠_;rw[e2];exact fun e=>by cases e),(gL h3).gone e3,⟨b,f1,f2⟩⟩
      ·exact⟨(k1 e he).was,fun hg=>(k1 e he).now (rA.gone hg),(k1 e he).is,(k1 e he).at_⟩
     ·intro e4;exact(k1 e he).now (by rw[<-e4];exact e3)
    |pL f aM=>
     have h1':=h1;unfold cl at h1';split at h1';case h_4=>
      rename_i f' Gy Hl cc hsh;injection hsh with e1 e2
      subst e1;subst e2;cases hb:Nat.beq f Hl <;> rw[hb]at h1'
      ·cases h1'
      ·obtain⟨cv,rfl,h4⟩:=h2.1;rw[kH];show(∀e∈bJ (Bz aM++eI aW) (ri aM cc++ct aW cg) (uD aM cv.toArray.toList++eC aW us) o,_)/\(bJ (Bz aM++eI aW) (ri aM cc++ct aW cg) (uD aM cv.toArray.toList++eC aW us) o).Pairwise _;exact jC aM cc cv s p o hW h4 h1' (gL (q:=p2) h3) (fun o=>gK aW cg us p.2 p2 o (hW.trans rA) h2.2 h3)
     all_goals first|(rename_i hsh _;cases hsh;done)|(rename_i hsh;cases hsh;done)|(rename_i hsh _ _;cases hsh;done)|cases h1'
    |one _=>exact skip rfl rfl rfl
    |agg _=>exact skip rfl rfl rfl
    |ro _=>exact skip rfl rfl rfl
    |fn _ _=>exact skip rfl rfl rfl
theorem xA:∀(vs:List (KV real)) (id:Nat) (s:S),(∀i,¬bL id vs.length i->(eE id vs s).2.ob i=s.ob i)/\(∀i,bL id vs.length i->(s.ob i).g<((eE id vs s).2.ob i).g/\∀cells,((eE id vs s).2.ob i).o≠.blk cells)/\(eE id vs s).2.sl=s.sl
 | [],id,s=>⟨fun _ _=>rfl,fun i hi=>absurd hi (by unfold bL;simp),rfl⟩
 |v::vs,id,s=>by
  obtain⟨h1,h2,jO⟩:=xA vs (id+1) (dK id v s).2;have rY:((dK id v s).2.ob id).g=(s.ob id).g+1/\(∀cells,((dK id v s).2.ob id).o≠.blk cells)/\(dK id v s).2.sl=s.sl/\∀i,i≠id->(dK id v s).2.ob i=s.ob i:=by
   obtain⟨kk,x⟩:=v;cases kk with
   |val t=>
    refine⟨?_,?_,rfl,fun i hi=>?_⟩
    ·simp[dK,St.new,St.aY]
    ·intro cells e;simp[dK,St.new,St.aY]at e
    ·simp only[dK];unfold St.new;exact St.bD _ _ hi
   |arr e cs dp=>
    refine⟨?_,?_,rfl,fun i hi=>?_⟩
    ·simp[dK,St.new,St.aY]
    ·intro cells e;simp[dK,St.new,St.aY]at e
    ·simp only[dK];unfold St.new;exact St.bD _ _ hi
   |mp kk=>
    refine⟨?_,?_,rfl,fun i hi=>?_⟩
    ·simp[dK,St.new,St.aY]
    ·intro cells e;simp[dK,St.new,St.aY]at e
    ·simp only[dK];unfold St.new;exact St.bD _ _ hi
  obtain⟨q1,q2,q3,q4⟩:=rY;simp only[eE];refine⟨fun i hi=>?_,fun i hi=>?_,jO.trans q3⟩
  ·rw[h1 i (by unfold bL at hi⊢;simp only[List.length_cons]at hi;omega)];exact q4 i (by unfold bL at hi;simp only[List.length_cons]at hi;omega)
  ·by_cases e:i=id
   ·subst e;rw[h1 i (by unfold bL;omega),q1];exact⟨Nat.lt_succ_self _,q2⟩
   ·have:=h2 i (by unfold bL at hi⊢;simp only[List.length_cons]at hi;omega);rw[q4 i e]at this;exact this
structure Fv (w':World) (aI:aJ) (s s':S) (e:BE):Prop where
 small:e.id<c7/\e.ks.length<=64
 cells:∀i,bL (bC e.id) e.ks.length i->(s.ob i).g<(s'.ob i).g/\∀cells,(s'.ob i).o≠.blk cells
 at_:∃b arr T vals cells,e.u=.pointer (some ⟨b,0,none⟩)/\aI b=some (e.out,[])/\w'.heap[b]? = some (.cells arr T (0,0))/\vals.length=e.ks.length/\fw w' aI (e.out+1) vals arr.toList /\
  s'.ob e.id=⟨(s.ob e.id).g,(s.ob e.id).h+1,.blk cells⟩ /\
  ∀(bR:aJ) (s'':S),fw w' bR (bC e.id) vals arr.toList->(∀i,bL (bC e.id) e.ks.length i->s''.ob i=s'.ob i)->bj (cA w' bR s'') arr.toList cells
theorem rQ{i j m n:Nat}(hm:m<64)(hn:n<64)(h:bC i+m=bC j+n):i=j/\m=n:=by unfold bC at h;omega
theorem dY(i:Nat):c7<=bC i:=by unfold bC;omega
theorem sP(e:BE):¬bL (bC e.id) e.ks.length 0:=by unfold bL bC c7;omega
theorem uo{w':World}{aI:aJ}:∀(gH:List (List K)) (ls:List L) (us:List Value) (vs:List (KV real)) (o:Nat) (s s':S),fJ w' aI o (gH.map .blk) vs us->ir gH ls vs s=some s'->(bJ gH ls us o).Pairwise (fun e e'=>e.id≠e'.id) ->
  s'.sl=s.sl/\(∀i,i<c7->(∀e∈bJ gH ls us o,e.id≠i)->s'.ob i=s.ob i)/\(∀i,c7<=i->(∀e∈bJ gH ls us o,¬bL (bC e.id) e.ks.length i)->s'.ob i=s.ob i)/\∀e∈bJ gH ls us o,Fv w' aI s s' e
 | [],ls,us,vs,o,s,s',h,hb,_=>by
  cases ls with
  |nil=>
   cases vs with
   |nil=>injection hb with hb;subst hb;exact⟨rfl,fun _ _ _=>rfl,fun _ _ _=>rfl,fun e he=>by simp[bJ]at he⟩
   |cons _ _=>cases hb
  |cons _ _=>cases hb
 |ks::gH,[],us,vs,o,s,s',h,hb,_=>by cases hb
 |ks::gH,l::ls,[],vs,o,s,s',h,hb,_=>h.elim
 |ks::gH,l::ls,u::us,vs,o,s,s',h,hb,hp=>by
  cases l with
  |ptr id g off=>
   cases off with
   |succ _=>cases hb
   |zero=>
    simp only[ir]at hb;cases hc:(Nat.ble (id+1) c7&&(Nat.ble ks.length 64&&Nat.ble ks.length vs.length))with
    |false=>rw[hc]at hb;cases hb
    |true=>
     rw[hc]at hb;simp only[cond_true]at hb;rw[Bool.and_eq_true,Bool.and_eq_true]at hc;obtain⟨c1,c2,c3⟩:=hc;have c1:=Nat.le_of_ble_eq_true c1;have c2:=Nat.le_of_ble_eq_true c2;have c3:=Nat.le_of_ble_eq_true c3;have hlt:(vs.take ks.length).length=ks.length:=by rw[List.length_take];omega
     simp only[bJ]at hp;rw[List.pairwise_cons]at hp;obtain⟨_,⟨b,arr,T,r1,r2,r3,r4⟩,r5⟩:=h;have If:fJ w' aI (o+(ks.length+1)) (gH.map .blk) (vs.drop ks.length) us:=r5;have Ie:fw w' aI (o+1) (vs.take ks.length) arr.toList:=r4;obtain⟨l1,l2,l3⟩:=xA (vs.take ks.length) (bC id) s;obtain⟨k1,k2,k3,k4⟩:=uo gH ls us (vs.drop ks.length) (o+(ks.length+1)) _ s' If hb hp.2;rw[hlt]at l1 l2;have hid:¬bL (bC id) ks.length id:=by have:=dY id;unfold bL;omega
     have BZ:∀i,bL (bC id) ks.length i->∀e∈bJ gH ls us (o+(ks.length+1)),¬bL (bC e.id) e.ks.length i:=by intro i hi e he hi';have Hp:=(k4 e he).small.2;unfold bL at hi hi';have:=(rQ (i:=id) (j:=e.id) (m:=i-bC id) (n:=i-bC e.id) (by omega) (by omega) (by omega)).1;exact hp.1 e he this
     have hcell:∀i,bL (bC id) ks.length i->s'.ob i=(eE (bC id) (vs.take ks.length) s).2.ob i:=by intro i hi;have hge:c7<=i:=Nat.le_trans (dY id) hi.1;rw[k3 i hge (BZ i hi),St.bz _ _ _ (by omega)]
     refine⟨k1.trans l3,fun i hi hn=>?_,fun i hi hn=>?_,fun e he=>?_⟩
     ·have hne:i≠id:=fun e=>hn ⟨ks,id,u,o⟩ (by simp[bJ]) e.symm;rw[k2 i hi fun e he=>hn e (by simp only[bJ,List.mem_cons];exact .inr he),St.bz _ _ _ hne,l1 i (by have:=dY id;unfold bL;omega)]
     ·rw[k3 i hi fun e he=>hn e (by simp only[bJ,List.mem_cons];exact .inr he),St.bz _ _ _ (by omega),l1 i (hn ⟨ks,id,u,o⟩ (by simp[bJ]))]
     ·simp only[bJ,List.mem_cons]at he;rcases he with rfl|he
      ·refine⟨⟨c1,c2⟩,fun i hi=>?_,b,arr,T,vs.take ks.length,(eE (bC id) (vs.take ks.length) s).1,r1,r2,r3,hlt,Ie,?_,fun bR s'' hk hs=>?_⟩
       ·rw[hcell i hi];exact l2 i hi
       ·show s'.ob id=_;rw[k2 id c1 fun e he=>fun e'=>hp.1 e he e'.symm,St.aV,l1 id hid];rfl
       ·obtain⟨_,_,_,z⟩:=mF (w:=w') (ω:=bR) (vs.take ks.length) arr.toList (bC id) s hk;refine z s'' fun i hi=>?_;rw[hlt]at hi;rw[hs i hi];exact hcell i hi
      ·obtain⟨m1,m2,b',bW,T',E0,cells',n1,n2,n3,n4,n5,n6,n7⟩:=k4 e he;have hne:e.id≠id:=fun e'=>hp.1 e he e'.symm;have he':∀i,bL (bC e.id) e.ks.length i->((eE (bC id) (vs.take ks.length) s).2.bQ id true (.blk (eE (bC id) (vs.take ks.length) s).1)).ob i=s.ob i:=by intro i hi;have hge:c7<=i:=Nat.le_trans (dY e.id) hi.1;rw[St.bz _ _ _ (by omega),l1 i fun hi'=>BZ i hi' e he hi]
       refine⟨m1,fun i hi=>?_,b',bW,T',E0,cells',n1,n2,n3,n4,n5,?_,n7⟩
       ·have:=m2 i hi;rw[he' i hi]at this;exact this
       ·rw[n6,St.bz _ _ _ hne,l1 e.id (by have:=dY id;unfold bL;have:=m1.1;omega)]
  |_=>cases hb
noncomputable def aJ.di(bi:aJ)(m:List (Nat×Nat)):aJ:=fun b=>match bi b with
 |none=>none
 |some (i,p)=>match m.find? (fun q=>q.1==i)with
  |some q=>some (q.2,p)
  |none=>some (0,[(b,0)])
noncomputable def aJ.da(bi aI:aJ)(m:List (Nat×Nat))(es:List BE)(base B W:Nat):aJ:=fun b=>match aI b with
 |none=>none
 |some (j,p)=>
  if j=0 then match bi b with
   |none=>none
   |some (i,q)=>if bL base W i\/(∃e∈es,bL (bC e.id) e.ks.length i)\/(∃j,(i,j)∈m)then none else some (i,q)
  else if bL B W j then some (base+(j-B),p)
  else match es.find? (fun e=>decide (e.out<=j/\j<=e.out+e.ks.length))with
   |some e=>if j=e.out then some (e.id,p)else some (bC e.id+(j-(e.out+1)),p)
   |none=>none
section
variable {bi aI:aJ} {s1:S} {m:List (Nat×Nat)} {lo hi:Nat} {es:List BE} {base B W:Nat} (hg:cC w ω s bi s1 m lo hi) (hlo:0<lo)
theorem ji{b:Nat}(h:bi b=none):bi.di m b=none:=by unfold aJ.di;rw[h]
include hg in
theorem ux{i j b:Nat}{p:List (Nat×Nat)}(hm:(i,j)∈m)(h:bi b=some (i,p)):bi.di m b=some (j,p):=by
 unfold aJ.di;rw[h];simp only;cases hf:m.find? (fun q=>q.1==i)with
 |none=>have:=List.find?_eq_none.1 hf (i,j) hm;simp at this
 |some q=>obtain⟨i',j'⟩:=q;have h1:=List.find?_some hf;have h2:=List.mem_of_find?_eq_some hf;simp at h1;subst h1;rw[hg.fn i' j j' hm h2]
theorem rj{i b:Nat}{p:List (Nat×Nat)}(hm:∀j,(i,j)∉m)(h:bi b=some (i,p)):bi.di m b=some (0,[(b,0)]):=by
 unfold aJ.di;rw[h];simp only;cases hf:m.find? (fun q=>q.1==i)with
 |none=>rfl
 |some q=>obtain⟨i',j'⟩:=q;have h1:=List.find?_some hf;have h2:=List.mem_of_find?_eq_some hf;simp at h1;subst h1;exact absurd h2 (hm j')
theorem gE{b:Nat}{k:Key}(h:bi.di m b=some k):(∃i,bi b=some (i,k.2)/\(i,k.1)∈m)\/(k=(0,[(b,0)])/\∃i p,bi b=some (i,p)/\∀j,(i,j)∉m):=by
 unfold aJ.di at h;split at h
 ·cases h
 ·rename_i i p hb;split at h
  ·rename_i q hq;injection h with h
   subst h;have h1:=List.find?_some hq;have h2:=List.mem_of_find?_eq_some hq;simp at h1;subst h1;exact .inl ⟨q.1,hb,h2⟩
  ·rename_i hn;injection h with h
   refine .inr ⟨h.symm,i,p,hb,fun j hj=>?_⟩;have:=List.find?_eq_none.1 hn (i,j) hj;simp at this
include hg in
theorem rq:fK w bi (bi.di m) m:=⟨fun _ _ h=>ji h,fun _ _ hm _ _ _ h=>ux hg hm h⟩
include hg hlo in
theorem uw(hinj:∀b b' k,bi b=some k->bi b'=some k->b=b')(b b':Nat)(k:Key)(h:bi.di m b=some k)(h':bi.di m b'=some k):b=b':=by
 rcases gE h with ⟨i,e1,e2⟩|⟨e1,i,p,e2,e3⟩ <;> rcases gE h' with ⟨i',f1,f2⟩|⟨f1,i',p',f2,f3⟩
 ·have:=hg.inj i i' k.1 e2 f2;subst this;exact hinj b b' _ e1 f1
 ·rw[f1]at e2;have:=(hg.mQ _ _ e2).1;omega
 ·rw[e1]at f2;have:=(hg.mQ _ _ f2).1;omega
 ·rw[e1]at f1;injection f1 with _ f1
  injection f1 with f1 _
  injection f1 with f1 _
theorem uv(hd:∀b k,bi b=some k->b<w.heap.size)(b:Nat)(k:Key)(h:bi.di m b=some k):b<w.heap.size:=by rcases gE h with ⟨_,e1,_⟩|⟨_,_,_,e2,_⟩ <;> exact hd b _ (by assumption)
theorem j1{b:Nat}{k:Key}(h:bi.da aI m es base B W b=some k):
  ((∃q,aI b=some (0,q))/\bi b=some k /\ ¬bL base W k.1/\(∀e∈es,¬bL (bC e.id) e.ks.length k.1)/\∀j,(k.1,j)∉m) \/
  (∃j,bL B W j/\k.1=base+(j-B)/\aI b=some (j,k.2))\/(∃e∈es,k.1=e.id/\aI b=some (e.out,k.2))\/∃e∈es,∃t,t<e.ks.length/\k.1=bC e.id+t/\aI b=some (e.out+1+t,k.2):=by
 unfold aJ.da at h;split at h
 ·cases h
 ·rename_i j p hb;split at h
  ·rename_i h0;subst h0;split at h
   ·cases h
   ·rename_i i q hi;split at h
    ·cases h
    ·rename_i hn;injection h with h
     subst h;exact .inl ⟨⟨p,hb⟩,hi,fun e=>hn (.inl e),fun e he h'=>hn (.inr (.inl ⟨e,he,h'⟩)),fun j hj=>hn (.inr (.inr ⟨j,hj⟩))⟩
  ·split at h
   ·rename_i hr;injection h with h
    subst h;exact .inr (.inl ⟨j,hr,rfl,hb⟩)
   ·split at h
    ·rename_i e he;have q00:=List.find?_some he;have q0:=of_decide_eq_true q00;have q1:=List.mem_of_find?_eq_some he;split at h
     ·rename_i hj;injection h with h
      subst h;exact .inr (.inr (.inl ⟨e,q1,rfl,by rw[hb,hj]⟩))
     ·rename_i hj;injection h with h
      subst h;refine .inr (.inr (.inr ⟨e,q1,j-(e.out+1),by omega,rfl,?_⟩));rw[hb];congr 2;omega
    ·cases h
theorem jZ{b:Nat}(h:aI b=none):bi.da aI m es base B W b=none:=by unfold aJ.da;rw[h]
theorem vN{b j:Nat}{p:List (Nat×Nat)}(hB:0<B)(hj:bL B W j)(h:aI b=some (j,p)):bi.da aI m es base B W b=some (base+(j-B),p):=by
 unfold aJ.da;rw[h];simp only;have h0:j≠0:=by unfold bL at hj;omega
 rw[if_neg h0,if_pos hj]
theorem uf{b i:Nat}{p q:List (Nat×Nat)}(h:aI b=some (0,q))(h1:bi b=some (i,p))(h2:¬bL base W i)(h3:∀e∈es,¬bL (bC e.id) e.ks.length i)(h4:∀j,(i,j)∉m):bi.da aI m es base B W b=some (i,p):=by
 unfold aJ.da;rw[h];simp only[if_true];rw[h1];simp only;rw[if_neg];rintro(e|⟨e,he,hi⟩|⟨j,hj⟩)
 ·exact h2 e
 ·exact h3 e he hi
 ·exact h4 j hj
theorem uF(ho:es.Pairwise fun e e'=>e.out+e.ks.length<e'.out){e:BE}(he:e∈es){j:Nat}(hj:e.out<=j/\j<=e.out+e.ks.length):es.find? (fun e=>decide (e.out<=j/\j<=e.out+e.ks.length))=some e:=by
 cases hf:es.find? (fun e=>decide (e.out<=j/\j<=e.out+e.ks.length))with
 |none=>have:=List.find?_eq_none.1 hf e he;exact absurd (decide_eq_true hj) this
 |some e'=>
  have q00:=List.find?_some hf;have q0:=of_decide_eq_true q00;have q1:=List.mem_of_find?_eq_some hf;rcases dS ho e he e' q1 with h|h|h
  ·rw[h]
  ·omega
  ·omega
theorem vM{b:Nat}{p:List (Nat×Nat)}(ho:es.Pairwise fun e e'=>e.out+e.ks.length<e'.out){e:BE}(he:e∈es)(hB:0<B)(hW:B+W<=e.out)(h:aI b=some (e.out,p)):bi.da aI m es base B W b=some (e.id,p):=by unfold aJ.da;rw[h];simp only;rw[if_neg (by omega),if_neg (by unfold bL;omega),uF ho he ⟨Nat.le_refl _,Nat.le_add_right _ _⟩];simp
theorem ue{b t:Nat}{p:List (Nat×Nat)}(ho:es.Pairwise fun e e'=>e.out+e.ks.length<e'.out){e:BE}(he:e∈es)(hB:0<B)(hW:B+W<=e.out)(ht:t<e.ks.length)(h:aI b=some (e.out+1+t,p)):bi.da aI m es base B W b=some (bC e.id+t,p):=by unfold aJ.da;rw[h];simp only;rw[if_neg (by omega),if_neg (by unfold bL;omega),uF ho he ⟨by omega,by omega⟩];simp only;rw[if_neg (by omega)];congr 2;omega
end
theorem Tr.Ck{w':World}{bi bR:aJ}{s1 s3:S}{i:Nat}(ho:s3.ob i=s1.ob i)(hg:(s1.ob i).o=.gone):Tr w bi s1 w' bR s3 i where
 ref v g h p hr:=⟨by rw[ho];exact hr.1,by rw[ho];exact hr.2.1,fun c hc=>by rw[iP (by rw[ho];exact hg)]at hc;cases hc⟩
 ptr v g off hr:=⟨by rw[ho];exact hr.1,fun _ cells hc=>by rw[ho,hg]at hc;cases hc⟩
 cj v g h p i off hr:=⟨by rw[ho];exact hr.1,by rw[ho];exact hr.2.1,fun c hc=>by rw[iP (by rw[ho];exact hg)]at hc;cases hc⟩
 cV v g hr:=hr.shut (by rw[ho]) fun k x e=>by rw[ho,hg]at e;cases e
theorem uB{i g h:Nat}{p:jR}{cells:List L}(ho:(s.ob i).o=.blk cells):s.cont i g h p=none:=by unfold St.cont fX.cont;rw[ho];cases Nat.beq (s.ob i).g g <;> rfl
theorem Tr.Dy{w':World}{bR:aJ}{s3:S}{i:Nat}{cells c0:List L}(h0:(s.ob i).o=.blk c0)(hg:(s3.ob i).g=(s.ob i).g)(hh:(s.ob i).h<=(s3.ob i).h)(ho:(s3.ob i).o=.blk cells)(hb:∀b,ω b=some (i,[])->bR b=some (i,[])):Tr w ω s w' bR s3 i:=by
 have Av:∀g0 h0,h0<=(s.ob i).h+(if g0=(s.ob i).g then 0 else h0)->h0<=(s3.ob i).h+(if g0=(s3.ob i).g then 0 else h0):=by
  intro g0 h0 Et;rw[hg];split at Et <;> rename_i hc
  ·rw[if_pos hc];omega
  ·rw[if_neg hc];omega
 exact
 {ref:=fun v g h p hr=>⟨by rw[hg];exact hr.1,Av _ _ hr.2.1,fun c hc=>by rw[uB ho]at hc;cases hc⟩
  ptr:=fun v g off hr=>⟨by rw[hg];exact hr.1,fun e _ _=>by obtain⟨b,f1,f2⟩:=hr.2 (by rw[<-hg];exact e) c0 h0;exact⟨b,hb b f1,f2⟩⟩
  cj:=fun v g h p j off hr=>⟨by rw[hg];exact hr.1,Av _ _ hr.2.1,fun c hc=>by rw[uB ho]at hc;cases hc⟩
  cV:=fun v g hr=>hr.shut hg fun k x e=>by rw[ho]at e;cases e }
theorem s8{w:World}{jU:aJ}:∀(aM:List Cp) (vs:List (KV real)) (cv:List Value) (b:Nat),tX w jU b aM vs cv->∀u∈uD aM cv,∃b' n,b<=n/\u=.pointer (some ⟨b',0,none⟩)/\jU b'=some (n,[])
 | [],_,_,_,_,u,hu=>by simp[uD]at hu
 | .ro _::_,_,[],_,h,_,_=>h.elim
 | .mu _::_,_,[],_,h,_,_=>h.elim
 | .ro cs::r,vs,v::cv,b,h,u,hu=>s8 r _ cv b h.2.2 u hu
 | .mu ks::r,vs,v::cv,b,h,u,hu=>by
  simp only[uD,List.mem_cons]at hu;rcases hu with rfl|hu
  ·obtain⟨_,⟨b',arr,T,e1,e2,_⟩,_⟩:=h;exact⟨b',b,Nat.le_refl _,e1,e2⟩
  ·obtain⟨b',n,e1,e2,e3⟩:=s8 r _ cv _ h.2.2 u hu;exact⟨b',n,by omega,e2,e3⟩
theorem rN{w:World}{jU:aJ}:∀(aW:List Sh) (vs:List (KV real)) (us:List Value) (b:Nat),fJ w jU b aW vs us->∀u∈eC aW us,∃b' n,b<=n/\u=.pointer (some ⟨b',0,none⟩)/\jU b'=some (n,[])
 | [],_,_,_,_,u,hu=>by simp[eC]at hu
 |_::_,_,[],_,h,_,_=>h.elim
 |sh::aW,vs,v::us,b,h,u,hu=>by
  obtain⟨h1,h2,h3⟩:=h;simp only[eC,List.mem_append]at hu;rcases hu with hu|hu
  ·cases sh with
   |blk ks=>simp only[Sh.BN,List.mem_singleton]at hu;subst hu;obtain⟨b',arr,T,e1,e2,_⟩:=h2;exact⟨b',b,Nat.le_refl _,e1,e2⟩
   |pL f aM=>obtain⟨cv,rfl,h4⟩:=h2;exact s8 aM _ cv b h4 u hu
   |_=>simp[Sh.BN]at hu
  ·obtain⟨b',n,e1,e2,e3⟩:=rN aW _ us _ h3 u hu;exact⟨b',n,by omega,e2,e3⟩
theorem xe:∀(gH:List (List K)) (ls:List L) (us:List Value) (o:Nat),∀e∈bJ gH ls us o,e.u∈us
 | [],_,_,_,e,he=>by simp[bJ]at he
 |_::_,[],_,_,e,he=>by simp[bJ]at he
 |ks::gH,l::ls,[],o,e,he=>by cases l <;> simp[bJ]at he
 |ks::gH,l::ls,u::us,o,e,he=>by
  cases l with
  |ptr id g off=>
   simp only[bJ,List.mem_cons]at he;rcases he with rfl|he
   ·simp
   ·exact List.mem_cons_of_mem _ (xe gH ls us _ e he)
  |_=>simp[bJ]at he
theorem uh{b W:Nat}:∀(gH:List (List K)) (ls:List L) (us:List Value) (o:Nat),apart b W ls=true->∀e∈bJ gH ls us o,¬bL b W e.id
 | [],_,_,_,_,e,he=>by simp[bJ]at he
 |_::_,[],_,_,_,e,he=>by simp[bJ]at he
 |ks::gH,l::ls,[],o,_,e,he=>by cases l <;> simp[bJ]at he
 |ks::gH,l::ls,u::us,o,h,e,he=>by
  cases l with
  |ptr id g off=>
   simp only[apart,Bool.and_eq_true,Bool.or_eq_true]at h;simp only[bJ,List.mem_cons]at he;rcases he with rfl|he
   ·rcases h.1 with h|h
    ·have:=Nat.le_of_ble_eq_true h;show ¬bL b W id;unfold bL;omega
    ·have:=Nat.le_of_ble_eq_true h;show ¬bL b W id;unfold bL;omega
   ·exact uh gH ls us _ h.2 e he
  |_=>simp[bJ]at he
theorem vP (h:Rel H ω a w s) {args:List Sh} {cg:List cm} {us:List Value} {E4:List (KV real)} {s1:S} {bi:aJ} {m:List (Nat × Nat)} (hall:bj (dh H w ω s) us cg) (ht:bO args cg s = some (E4, s1))
    (hP:Passes H ω a w s bi s1) (hG:cC w ω s bi s1 m 1 (1 + aL args)) (hR:fJ w (bi.di m) 1 args E4 us)
    {aT:List Sh} {vs BN:List (KV real)} {base B:Nat} (hbase:0<base) (hB:0<B) (F3:aT.all Sh.qy = true) (hks:vs.map (·.1) = (aT.map Sh.ks).flatten) (Iu:base + aL aT <= c7) (hap:apart base (aL aT) (ct args cg) = true)
    {w':World} {aI:aJ} {v:Value} (gU:dr (bi.di m) w aI w') (hinj:∀b b' k, aI b = some k -> aI b' = some k -> b = b') (hdom:∀b k, aI b = some k -> b<w'.heap.size) (hr:xS w' aI B aT vs v)
    {s2:S} (Eg:ir (eI args) (ct args cg) BN s1 = some s2) (C7:fJ w' aI (B + aL aT) ((eI args).map .blk) BN (eC args us)):
    ∃bR, Rel H bR a w' (bE base aT vs s2).2 /\ dr ω w bR w' /\ dh H w' bR (bE base aT vs s2).2 v (TV.mL (bE base aT vs s2).1):=by
  obtain⟨pQ, wl⟩:=gK args cg us s (E4, s1) (B + aL aT) (dy.refl s) hall ht;have hW:=gL ht;obtain⟨B0, uP⟩:=pw (eI args) (ct args cg) (eC args us) (B + aL aT);obtain⟨k1, k2, k3, k4⟩:=uo _ _ _ _ _ _ _ C7 Eg wl;have hpt:=uh (b:=base) (W:=aL aT) (eI args) (ct args cg) (eC args us) (B + aL aT) hap;have uL:∀e ∈ bJ (eI args) (ct args cg) (eC args us) (B + aL aT), ∃j, (e.id, j) ∈ m:=by
    intro e he;obtain⟨b, f1, f2⟩:=(pQ e he).at_;obtain⟨b', n, g1, g2, g3⟩:=rN args E4 us 1 hR e.u (xe _ _ _ _ e he);rw[f2]at g2;injection g2 with g2
    injection g2 with g2
    injection g2 with g2 _
    subst g2;rcases gE g3 with ⟨i, e1, e2⟩|⟨e1, _⟩
    · have:=hG.back b _ e1
      rw[f1]at this;injection this with this
      injection this with this _
      exact⟨_, by rw[this]; exact e2⟩
    · injection e1 with e1 _
      omega
  revert pQ wl B0 uP k2 k3 k4 hpt uL;generalize bJ (eI args) (ct args cg) (eC args us) (B + aL aT) = es;intro pQ wl B0 uP k2 k3 k4 hpt uL;have BQ:∀e ∈ es, e.id<c7 /\ e.ks.length <= 64:=fun e he=>(k4 e he).small;have hkeep:∀b i p, bi b = some (i, p) -> (∀j, (i, j)∉m) -> ¬bL base (aL aT) i -> (∀e ∈ es, ¬bL (bC e.id) e.ks.length i) -> w'.heap[b]? = w.heap[b]? /\ bi.da aI m es base B (aL aT) b = some (i, p):=by intro b i p hb hm hn hc;have hcb:=rj hm hb;obtain⟨q1, q2⟩:=gU.block b (hP.rel.dom b _ hb) (.inr ⟨_, hcb⟩);exact⟨q1, uf (q2.trans hcb) hb hn hc hm⟩
  have Ho:∀j, (0, j)∉m:=fun j hj=>hG.nz 0 j hj rfl;have Ed:dr bi w (bi.da aI m es base B (aL aT)) w':=by
    refine⟨gU.os, gU.tape, gU.output, gU.size, fun b hb hf=>?_⟩;rcases hf with hf|⟨q, hf⟩
    · have hn:=ji (m:=m) hf
      obtain⟨q1, q2⟩:=gU.block b hb (.inl hn);exact⟨q1, by rw[hf]; exact jZ (q2.trans hn)⟩
    · have:=hkeep b 0 q hf Ho (by unfold bL; omega) (fun e _=>sP e)
      exact⟨this.1, this.2.trans hf.symm⟩
  have hE:dr ω w (bi.da aI m es base B (aL aT)) w':=hP.ext.trans Ed;have hown:∀i, bL B (aL aT) i -> ∀b p, b<w'.heap.size -> aI b = some (i, p) -> bi.da aI m es base B (aL aT) b = some (base + (i-B), p):=fun i hi b p _ hb=>vN hB hi hb;obtain⟨zn, B9, hv⟩:=sB (bR:=bi.da aI m es base B (aL aT)) F3 hks hown (.inr fun b _ hb=>jZ hb) hr;obtain⟨y1, y2, y3, y4⟩:=kO aT vs zn base s2 B9;obtain⟨m1, m2⟩:=y4 _ (fun _ _=>rfl);have hcells:∀e ∈ es, ∀i, bL (bC e.id) e.ks.length i -> (bE base aT vs s2).2.ob i = s2.ob i:=by intro e he i hi;refine y1 i ?_;have:=dY e.id;unfold bL at hi⊢;omega
  have Eh:∀e ∈ es, ∃b arr T cells, bi.da aI m es base B (aL aT) b = some (e.id, []) /\ w'.heap[b]? = some (.cells arr T (0, 0)) /\ ω b = some (e.id, []) /\ (bE base aT vs s2).2.ob e.id = ⟨(s1.ob e.id).g, (s1.ob e.id).h + 1, .blk cells⟩ /\ bj (cA w' (bi.da aI m es base B (aL aT)) (bE base aT vs s2).2) arr.toList cells:=by
    intro e he;obtain⟨z1, z2, b, arr, T, vals, cells, n1, n2, n3, n4, n5, n6, n7⟩:=k4 e he;obtain⟨b0, f1, f2⟩:=(pQ e he).at_;rw[f2]at n1;injection n1 with n1
    injection n1 with n1
    injection n1 with n1 _
    subst n1;refine⟨b0, arr, T, cells, vM uP he hB (B0 e he) n2, n3, f1, by rw[y1 e.id (hpt e he), n6], n7 _ _ ?_ (hcells e he)⟩;have:=iI (w:=w') (aI:=aI) (bR:=bi.da aI m es base B (aL aT)) (base:=bC e.id) (B:=e.out + 1) (W:=e.ks.length) (fun i hi b p _ hb=>?_) vals arr.toList (e.out + 1) (Nat.le_refl _) (by omega) (.inr fun b _ hb=>jZ hb) n5
    · rwa[Nat.sub_self, Nat.add_zero]at this
    · unfold bL at hi
      have:=ue (bi:=bi) (aI:=aI) (m:=m) (base:=base) (W:=aL aT) (t:=i-(e.out + 1)) uP he hB (B0 e he) (by omega) (b:=b) (p:=p) (by rw[hb]; congr 2; omega);rw[this]
  have tR:∀i, ¬bL base (aL aT) i -> (∀e ∈ es, e.id ≠ i) -> (∀e ∈ es, ¬bL (bC e.id) e.ks.length i) -> (bE base aT vs s2).2.ob i = s1.ob i:=by
    intro i hi he hc;rw[y1 i hi];by_cases hlt:i<c7
    · exact k2 i hlt he
    · exact k3 i (Nat.le_of_not_lt hlt) hc
  have hgrow:∀i, (s1.ob i).g <= (s2.ob i).g:=by
    intro i;by_cases hlt:i<c7
    · by_cases hex:∃e ∈ es, e.id = i
      · obtain⟨e, he, rfl⟩:=hex
        obtain⟨_, _, b, arr, T, vals, cells, n1, n2, n3, n4, n5, n6, n7⟩:=k4 e he;rw[n6];exact Nat.le_refl _
      · rw[k2 i hlt fun e he h=>hex ⟨e, he, h⟩]; exact Nat.le_refl _
    · by_cases hex:∃e ∈ es, bL (bC e.id) e.ks.length i
      · obtain⟨e, he, hi⟩:=hex
        exact Nat.le_of_lt ((k4 e he).cells i hi).1
      · rw[k3 i (Nat.le_of_not_lt hlt) fun e he h=>hex ⟨e, he, h⟩]; exact Nat.le_refl _
  have tr:∀i, Tr w ω s w' (bi.da aI m es base B (aL aT)) (bE base aT vs s2).2 i:=by
    intro i;by_cases e:bL base (aL aT) i
    · exact(hP.tr i).trans (dx.tr (Nat.lt_of_le_of_lt (hgrow i) (y2 i e)))
    · by_cases hex:∃e ∈ es, e.id = i
      · obtain⟨e', he, rfl⟩:=hex
        obtain⟨b, arr, T, cells, q1, q2, q3, q4, q5⟩:=Eh e' he;obtain⟨c0, hc0⟩:=(pQ e' he).was;refine Tr.Dy (cells:=cells) hc0 (by rw[q4]; exact hW.g e'.id) (by rw[q4]; exact Nat.le_succ_of_le (hW.h e'.id)) (by rw[q4]) fun b' hb'=>?_;rw[h.inj b' b _ hb' q3];exact q1
      · by_cases Da:∃e ∈ es, bL (bC e.id) e.ks.length i
        · obtain⟨e', he, hi⟩:=Da
          refine(hP.tr i).trans (dx.tr ?_);unfold dx;rw[hcells e' he i hi];exact((k4 e' he).cells i hi).1
        · have cf:=tR i e (fun e' he h'=>hex ⟨e', he, h'⟩) (fun e' he h'=>Da ⟨e', he, h'⟩)
          by_cases hm:∃j, (i, j) ∈ m
          · obtain⟨j, hj⟩:=hm
            exact(hP.tr i).trans (Tr.Ck cf (hG.is i j hj))
          · refine(hP.tr i).trans (gq.tr ⟨cf, fun b kk hb hk hj=>?_⟩ Ed hP.rel.dom)
            obtain⟨i', p⟩:=kk;have:i' = i:=hj;subst this;have:=hkeep b i' p hk (fun j hj=>hm ⟨j, hj⟩) e (fun e' he h'=>Da ⟨e', he, h'⟩);exact⟨this.1, this.2.trans hk.symm⟩
  refine⟨_, ?_, hE, hv _ _ m1⟩;exact
  { inj:=fun b b' k h1 h2=>by
      rcases j1 h1 with ⟨a1, a2, a3, a4, a5⟩|⟨j, a1, a2, a3⟩|⟨e, a1, a2, a3⟩|⟨e, a1, t, a2, a3, a4⟩ <;> rcases j1 h2 with ⟨c1, c2, c3, c4, c5⟩|⟨j', c1, c2, c3⟩|⟨e', c1, c2, c3⟩|⟨e', c1, t', c2, c3, c4⟩
      · exact hP.rel.inj b b' k a2 c2
      · exact absurd (by rw[c2]; unfold bL at c1⊢; omega) a3
      · obtain⟨j, hj⟩:=uL e' c1
        exact absurd (by rw[c2]; exact hj) (a5 j)
      · exact absurd (by rw[c3]; unfold bL; omega) (a4 e' c1)
      · exact absurd (by rw[a2]; unfold bL at a1⊢; omega) c3
      · have:j = j':=by unfold bL at a1 c1; omega
        subst this;exact hinj b b' _ a3 c3
      · exact absurd (by rw[<- c2, a2]; unfold bL at a1⊢; omega) (hpt e' c1)
      · exfalso; have:=dY e'.id; unfold bL at a1; omega
      · obtain⟨j, hj⟩:=uL e a1
        exact absurd (by rw[a2]; exact hj) (c5 j)
      · exact absurd (by rw[<- a2, c2]; unfold bL at c1⊢; omega) (hpt e a1)
      · have:e = e':=by
          rcases dS wl e a1 e' c1 with h|h|h
          · exact h
          · exact absurd (a2.symm.trans c2) h
          · exact absurd (c2.symm.trans a2) h
        subst this;exact hinj b b' _ a3 c3
      · exfalso; have:=dY e'.id; have:=(BQ e a1).1; omega
      · exact absurd (by rw[a3]; unfold bL; omega) (c4 e a1)
      · exfalso; have:=dY e.id; unfold bL at c1; omega
      · exfalso; have:=dY e.id; have:=(BQ e' c1).1; omega
      · have hlt:=(BQ e a1).2
        have FY:=(BQ e' c1).2;obtain⟨q1, q2⟩:=rQ (i:=e.id) (j:=e'.id) (m:=t) (n:=t') (by omega) (by omega) (a3.symm.trans c3);have:e = e':=by
          rcases dS wl e a1 e' c1 with h|h|h
          · exact h
          · exact absurd q1 h
          · exact absurd q1.symm h
        subst this;subst q2;exact hinj b b' _ a4 c4
    dom:=fun b k h1=>by
      rcases j1 h1 with ⟨a1, a2, _⟩|⟨j, a1, a2, a3⟩|⟨e, a1, a2, a3⟩|⟨e, a1, t, a2, a3, a4⟩
      · exact Nat.lt_of_lt_of_le (hP.rel.dom b k a2) gU.size
      · exact hdom b _ a3
      · exact hdom b _ a3
      · exact hdom b _ a4
    defers:=h.defers
    dP:=h.dP.ext hE
    dR:=by rw[tR 0 (by unfold bL; omega) (fun e he h0=>by obtain⟨j, hj⟩:=uL e he; exact hG.nz _ _ hj h0) (fun e _=>sP e)];exact hP.rel.dR
    slots:=fun i=>by
      have jO:(bE base aT vs s2).2.sl = s.sl:=by rw[y3, k1]; exact qN ht
      rw[jO];exact dh.frame hE tr (h.slots i)
    dB:=fun i cells eo=>by
      by_cases e:bL base (aL aT) i
      · exact m2 i cells e eo
      · by_cases hex:∃e ∈ es, e.id = i
        · obtain⟨e', he, rfl⟩:=hex
          obtain⟨b, arr, T, cells', q1, q2, q3, q4, q5⟩:=Eh e' he;rw[q4]at eo;injection eo with eo
          subst eo;exact⟨b, arr, T, q1, q2, q5⟩
        · by_cases Da:∃e ∈ es, bL (bC e.id) e.ks.length i
          · obtain⟨e', he, hi⟩:=Da
            rw[hcells e' he i hi]at eo;exact absurd eo (((k4 e' he).cells i hi).2 cells)
          · have cf:=tR i e (fun e' he h'=>hex ⟨e', he, h'⟩) (fun e' he h'=>Da ⟨e', he, h'⟩)
            rw[cf]at eo;have hs:=hW.blk eo;have hc0:=eo;rw[hs]at hc0;obtain⟨b, arr, T, g1, g2, g3⟩:=h.dB i cells hc0;have hm:∀j, (i, j)∉m:=fun j hj=>by rw[hG.is i j hj]at eo; cases eo
            obtain⟨b1, eJ, T1, f1, f2, f3⟩:=hP.rel.dB i cells eo;have:=hkeep b1 i [] f1 hm e (fun e' he h'=>Da ⟨e', he, h'⟩);have FK:b1 = b:=h.inj b1 b _ (hG.back b1 _ f1) g1;subst FK;refine⟨b1, arr, T, this.2, this.1.trans g2, g3.mono fun _ _ hl=>cA.frame hE tr hl⟩ }
end
end Go.R
set_option linter.unusedVariables false
namespace Go.R
variable {H:Nat->Value}
open Classical
section
variable {R:Type} {P:Program} {E:Env} {Ψ:bV->Option ij} {ω:aJ} {a:Act} {w:World} {s:S} {k:S->Option R} {r:R} {o:Oper} {Q:Exit->Act->World->Prop}
noncomputable def dN(id nb:Nat)(q:List (Nat×Nat)):Key->Option Key:=fun k=>if k.1=id then(if q <+: k.2 then some (nb,k.2.drop q.length)else some k)else if k.1=nb then none else some k
noncomputable def eP(id nb:Nat)(q:List (Nat×Nat)):Key->Option Key:=fun k=>if k.1=nb then some (id,q++k.2)else if k.1=id/\q <+: k.2 then none else some k
theorem wS{id nb:Nat}{q:List (Nat×Nat)}(hne:id≠nb)(k k' z:Key)(h:dN id nb q k=some z)(h':dN id nb q k'=some z):k=k':=by
 have inv:∀k,dN id nb q k=some z->(k.1=id/\∃r,k.2=q++r/\z=(nb,r))\/(k.1≠nb/\z=k):=by
  intro k h;unfold dN at h;split at h
  ·rename_i e;split at h
   ·rename_i hp;obtain⟨r,hr⟩:=hp;injection h with h
    refine .inl ⟨e,r,hr.symm,?_⟩;rw[<-h,<-hr,List.drop_left]
   ·injection h with h
    exact .inr ⟨by rw[e];exact hne,h.symm⟩
  ·split at h
   ·cases h
   ·rename_i hn;injection h with h
    exact .inr ⟨hn,h.symm⟩
 rcases inv k h with ⟨e1,r,e2,e3⟩|⟨e1,e2⟩ <;> rcases inv k' h' with ⟨f1,r',f2,f3⟩|⟨f1,f2⟩
 ·rw[e3]at f3;injection f3 with _ f3
  exact Prod.ext (e1.trans f1.symm) (by rw[e2,f2,f3])
 ·rw[<-f2,e3]at f1;exact absurd rfl f1
 ·rw[<-e2,f3]at e1;exact absurd rfl e1
 ·exact e2.symm.trans f2
theorem wF{id nb:Nat}{q:List (Nat×Nat)}(k k' z:Key)(h:eP id nb q k=some z)(h':eP id nb q k'=some z):k=k':=by
 have inv:∀k,eP id nb q k=some z->(k.1=nb/\z=(id,q++k.2))\/(¬(k.1=id/\q <+: k.2)/\z=k):=by
  intro k h;unfold eP at h;split at h
  ·rename_i e;injection h with h
   exact .inl ⟨e,h.symm⟩
  ·split at h
   ·cases h
   ·rename_i hn;injection h with h
    exact .inr ⟨hn,h.symm⟩
 rcases inv k h with ⟨e1,e2⟩|⟨e1,e2⟩ <;> rcases inv k' h' with ⟨f1,f2⟩|⟨f1,f2⟩
 ·rw[e2]at f2;injection f2 with _ f2
  exact Prod.ext (e1.trans f1.symm) (List.append_cancel_left f2)
 ·rw[<-f2,e2]at f1;exact absurd ⟨rfl,List.prefix_append _ _⟩ f1
 ·rw[<-e2,f2]at e1;exact absurd ⟨rfl,List.prefix_append _ _⟩ e1
 ·exact e2.symm.trans f2
theorem qH(h:Rel H ω a w s){id nb g hh e:Nat}{cs:aK}{x:List cs.T}{p:jR}{c:Cont real}(hp:p≠[])(hc:s.cont id g hh p=some c)(ho:(s.ob id).o=.arr e cs true x)(hne:id≠nb)(hnb:nb≠0):
  Rel H (ω.via (dN id nb (bG p))) a w ((s.bQ id true .gone).new nb (.arr c.e c.cs true c.x))/\dr ω w (ω.via (dN id nb (bG p))) w/\(∀j,j≠id->Tr w ω s w (ω.via (dN id nb (bG p))) ((s.bQ id true .gone).new nb (.arr c.e c.cs true c.x)) j) /\
   (∀j,Tr w ω s w (ω.via (dN id nb (bG p))) ((s.bQ id true .gone).new nb (.arr c.e c.cs true c.x)) j) /\
   ∀u,(Ty.sl c.e c.cs).R w ω (.deep (id,bG p)) u c.x->cA w (ω.via (dN id nb (bG p))) ((s.bQ id true .gone).new nb (.arr c.e c.cs true c.x)) u (.ref nb (((s.bQ id true .gone).new nb (.arr c.e c.cs true c.x)).ob nb).g 0 []):=by
 have h0:id≠0:=h.qj (by rw[ho];exact fun e=>by cases e);have he:dr ω w (ω.via (dN id nb (bG p))) w:=⟨rfl,rfl,rfl,Nat.le_refl _,fun b hb hf=>⟨rfl,nT (fun q=>by unfold dN;rw[if_neg (Ne.symm h0),if_neg (Ne.symm hnb)]) hf⟩⟩
 have cf:∀j,j≠id->j≠nb->((s.bQ id true .gone).new nb (.arr c.e c.cs true c.x)).ob j=s.ob j:=fun j h1 h2=>by unfold St.new;rw[St.bD _ _ h2,St.bz _ _ _ h1]
 have uQ:((s.bQ id true .gone).new nb (.arr c.e c.cs true c.x)).ob id=⟨(s.ob id).g,(s.ob id).h+1,.gone⟩:=by unfold St.new;rw[St.bD _ _ hne,St.aV];rfl
 have B2:((s.bQ id true .gone).new nb (.arr c.e c.cs true c.x)).ob nb=⟨(s.ob nb).g+1,0,.arr c.e c.cs true c.x⟩:=by unfold St.new;rw[St.aY,St.bz _ _ _ (Ne.symm hne)]
 have hkeep:∀j,j≠id->j≠nb->∀b q,ω b=some (j,q)->ω.via (dN id nb (bG p)) b=some (j,q):=by intro j h1 h2 b q hb;rw[c9 hb];unfold dN;rw[if_neg h1,if_neg h2]
 have tr:∀j,Tr w ω s w (ω.via (dN id nb (bG p))) ((s.bQ id true .gone).new nb (.arr c.e c.cs true c.x)) j:=by
  intro j;by_cases e1:j=id
  ·subst e1;exact Tr.mA (by rw[uQ]) (by rw[uQ];exact Nat.le_succ _) (by rw[uQ])
  ·by_cases e2:j=nb
   ·subst e2;exact dx.tr (by unfold dx;rw[B2];exact Nat.lt_succ_self _)
   ·refine gq.tr ⟨cf j e1 e2,fun b kk hb hk hj=>⟨rfl,?_⟩⟩ he h.dom;obtain⟨j',q⟩:=kk;simp only at hj;subst hj;rw[hk];exact hkeep j' e1 e2 b q hk
 refine⟨h.Ad he (oS h.inj (wS hne)) (oR h.dom) rfl ?_ tr (fun j cells jH=>?_),he,fun j _=>tr j,tr,fun u hu=>⟨Nat.le_refl _,by simp,fun c' eo=>?_⟩⟩
 ·rw[cf 0 (Ne.symm h0) (Ne.symm hnb)];exact h.dR
 ·have e1:j≠id:=fun e=>by subst e;rw[uQ]at jH;cases jH
  have e2:j≠nb:=fun e=>by subst e;rw[B2]at jH;cases jH
  exact⟨cf j e1 e2,fun b hb=>⟨rfl,hkeep j e1 e2 b [] hb⟩⟩
 ·rw[cu (by rw[B2]) rfl]at eo;injection eo with eo
  subst eo;refine Ty.gp (.sl c.e c.cs) (id,bG p) (nb,[]) u c.x (fun b rr hb hk=>⟨rfl,?_⟩) hu;have hk:ω b=some (id,bG p++rr):=hk;rw[c9 hk];unfold dN;rw[if_pos rfl,if_pos (List.prefix_append _ _),List.drop_left];rfl
theorem iW (h:Rel H ω a w s) {id nb g hh e base W:Nat} {cs:aK} {x:List cs.T} {p:jR} {c:Cont real} {u:Value} (hp:p≠[]) (hc:s.cont id g hh p=some c) (ho:(s.ob id).o=.arr e cs true x) (hne:id≠nb) (hnb:nb≠0) (hW:¬bL base W nb) (hu:cA w ω s u (.ref id g hh p))
  {bZ:aJ} {w':World} {s3 s4:S} {L:Nat->Prop} {v:Value} {t:cm} (hR:Rel H bZ a w' s3) (A:vI H (ω.via (dN id nb (bG p))) w ((s.bQ id true .gone).new nb (.arr c.e c.cs true c.x)) bZ w' s3 base W L v t)
  (hm:jw (A:=real) ⟨nb,(((s.bQ id true .gone).new nb (.arr c.e c.cs true c.x)).ob nb).g,id,g,e,cs,x,c,p⟩ s3=some s4):∃Fu,Rel H Fu a w' s4/\dr ω w Fu w'/\dh H w' Fu s4 v t:=by
 have h0:id≠0:=h.qj (by rw[ho];exact fun e=>by cases e);obtain⟨DI,Hz,_,Dj,hnew⟩:=qH h hp hc ho hne hnb;obtain⟨HD,hcs⟩:=dF hc;have jT:c.md=2/\follow (A:=real) 2 e cs x p=some c:=by
  rcases hcs with ⟨_,_,f2,_⟩|⟨e',cs',x',f1,_,_,f4⟩|⟨_,f2,_⟩
  ·exact absurd f2 hp
  ·rw[ho]at f1;injection f1 with g1 g2 g3 g4
   subst g1;subst g2;have g4:=eq_of_heq g4;subst g4;exact⟨iQ 2 p e cs x c f4,f4⟩
  ·exact absurd f2 hp
 obtain⟨jT,hf⟩:=jT;have Fj:(Ty.sl c.e c.cs).R w ω (.deep (id,bG p)) u c.x:=by have:=hu.2.2 c hc;rw[jT]at this;exact this
 unfold jw at hm;simp only at hm;split at hm;case h_2=>cases hm
 rename_i e2 Gz dp y uP;cases hb:((Nat.beq (s3.ob id).g g&&Nat.beq (s3.ob nb).g (((s.bQ id true .gone).new nb (.arr c.e c.cs true c.x)).ob nb).g)&&(Nat.ble 1 g&&(dp||Gz.plain)))with
 |false=>rw[hb]at hm;cases hm
 |true=>
  rw[hb]at hm;simp only[cond_true]at hm;rw[Bool.and_eq_true,Bool.and_eq_true,Bool.and_eq_true]at hb;obtain⟨⟨Aj,zq⟩,FJ,GI⟩:=hb;have Aj:=Nat.eq_of_beq_eq_true Aj;have zq:=Nat.eq_of_beq_eq_true zq;have FJ:1<=g:=Nat.le_of_ble_eq_true FJ;split at hm;case isFalse=>cases hm
  rename_i hty;have F7:=Ty.eq_of_beq hty;injection F7 with t1 t2
  subst t1;subst t2;cases B4:putAt (A:=real) c (real.cast hty y) e cs x p with
  |none=>rw[B4]at hm;cases hm
  |some x'=>
   rw[B4]at hm;have hm:=Option.some.inj hm;have B4:putAt (A:=real) c y e cs x p=some x':=B4;have cf:∀j,j≠id->j≠nb->((s.bQ id true .gone).new nb (.arr c.e c.cs true c.x)).ob j=s.ob j:=fun j h1 h2=>by unfold St.new;rw[St.bD _ _ h2,St.bz _ _ _ h1]
   have uQ:((s.bQ id true .gone).new nb (.arr c.e c.cs true c.x)).ob id=⟨(s.ob id).g,(s.ob id).h+1,.gone⟩:=by unfold St.new;rw[St.bD _ _ hne,St.aV];rfl
   have B2:((s.bQ id true .gone).new nb (.arr c.e c.cs true c.x)).ob nb=⟨(s.ob nb).g+1,0,.arr c.e c.cs true c.x⟩:=by unfold St.new;rw[St.aY,St.bz _ _ _ (Ne.symm hne)]
   have GQ:¬bL base W id:=fun hi=>by have:=A.ER id hi;rw[uQ]at this;simp only at this;omega
   have HE:¬L id:=fun hl=>(A.gu id hl).1 (by rw[uQ]);obtain⟨H6,H7⟩:=A.kept id GQ HE;have Ea:s4.ob id=⟨(s.ob id).g,(s.ob id).h+2,.arr e cs true x'⟩:=by rw[<-hm,St.aV,St.bz _ _ _ hne,H6,uQ];rfl
   have Eb:s4.ob nb=⟨(s3.ob nb).g,(s3.ob nb).h+1,.gone⟩:=by rw[<-hm,St.bz _ _ _ (Ne.symm hne),St.aV];rfl
   have Ec:∀j,j≠id->j≠nb->s4.ob j=s3.ob j:=fun j h1 h2=>by rw[<-hm,St.bz _ _ _ h1,St.bz _ _ _ h2]
   have hkp:bG p≠[]:=fun e=>by
    cases p with
    |nil=>exact hp rfl
    |cons st p=>cases e
   have EB:¬bG p <+: []:=fun⟨t,ht⟩=>hkp (List.append_eq_nil_iff.1 ht).1;have Ax:∀b r,ω b=some (id,r) -> ¬bG p <+: r->w'.heap[b]? = w.heap[b]? /\ bZ.via (eP id nb (bG p)) b=some (id,r):=by
    intro b r hb hn;have h1:ω.via (dN id nb (bG p)) b=some (id,r):=by rw[c9 hb];unfold dN;rw[if_pos rfl,if_neg hn]
    obtain⟨q1,q2⟩:=H7 b r h1;refine⟨q1,?_⟩;rw[c9 q2];unfold eP;rw[if_neg hne,if_neg (fun hq=>hn hq.2)]
   have tj:∀j,j≠id->j≠nb->∀b q,bZ b=some (j,q)->bZ.via (eP id nb (bG p)) b=some (j,q):=by intro j h1 h2 b q hb;rw[c9 hb];unfold eP;rw[if_neg h2,if_neg (fun hq=>h1 hq.1)]
   have En:dr bZ w' (bZ.via (eP id nb (bG p))) w':=⟨rfl,rfl,rfl,Nat.le_refl _,fun b hb hf=>⟨rfl,nT (fun q=>by unfold eP;rw[if_neg (Ne.symm hnb),if_neg (fun hq=>h0 hq.1.symm)]) hf⟩⟩
   have hE:dr ω w (bZ.via (eP id nb (bG p))) w':=(Hz.trans A.ext).trans En;have pT:∀u',(Ty.sl c.e c.cs).R w ω (.deep (id,bG p)) u' c.x->(Ty.sl c.e c.cs).R w' bZ (.deep (nb,[])) u' y:=by intro u' oF;have q1:=(A.tr nb).ref u' _ 0 [] (hnew u' oF);have q2:=q1.2.2 _ (cu (h:=0) uP zq.symm);have q3:=fa (CB:=true) (by rw[Bool.or_eq_true]at GI;exact GI) q2;exact q3
   have EO:y.length=List.length c.x:=by
    obtain⟨xU,n',E5,f1,f2,_⟩:=pT u Fj;obtain⟨ad,n,cp,e1,e2,_⟩:=Fj;rw[e1]at f1;injection f1 with _ z2 _
    exact f2.trans (z2.symm.trans e2.symm)
   have Gv:∀j,j≠id->Tr w' bZ s3 w' (bZ.via (eP id nb (bG p))) s4 j:=by
    intro j hj;by_cases e2:j=nb
    ·subst e2;exact Tr.mA (by rw[Eb]) (by rw[Eb];exact Nat.le_succ _) (by rw[Eb])
    ·refine gq.tr ⟨Ec j hj e2,fun b kk hb hk hj'=>⟨rfl,?_⟩⟩ En hR.dom;obtain⟨j',q⟩:=kk;simp only at hj';subst hj';rw[hk];exact tj j' hj e2 b q hk
   have tr:∀j,Tr w ω s w' (bZ.via (eP id nb (bG p))) s4 j:=by
    intro j;by_cases e1:j=id
    ·subst e1;refine Tr.zN ho (by rw[Ea]) (by rw[Ea];show _<_+2;omega) (by rw[Ea]) (sy EO p e cs x x' hf B4) (fun b hb=>(Ax b [] hb EB).2) (fun v hv=>?_);refine sU p [] e cs x x' v hf B4 (fun b rr _ hk hn=>Ax b rr hk hn) (fun u' oF=>?_) hv;refine Ty.gp (.sl c.e c.cs) (nb,[]) (j,bG p) u' y (fun b rr hb hk=>⟨rfl,?_⟩) (pT u' oF);have hk:bZ b=some (nb,rr):=hk;rw[c9 hk];unfold eP;rw[if_pos rfl]
    ·exact((Dj j).trans (A.tr j)).trans (Gv j e1)
   have F4:∀i,bL base W i->(⟨s4.sl,fun i=>if i=id then⟨0,0,.gone⟩else s4.ob i⟩:S).ob i=s3.ob i:=by
    intro i hi;have e1:i≠id:=fun e=>by subst e;exact GQ hi
    have e2:i≠nb:=fun e=>by subst e;exact hW hi
    simp only[if_neg e1];exact Ec i e1 e2
   obtain⟨Gp,Gq⟩:=A.res _ F4;have G7:∀j,Tr w' bZ (⟨s4.sl,fun i=>if i=id then⟨0,0,.gone⟩else s4.ob i⟩:S) w' (bZ.via (eP id nb (bG p))) s4 j:=by
    intro j;by_cases e1:j=id
    ·subst e1;refine dx.tr ?_;unfold dx;simp only[if_true];rw[Ea,HD];exact FJ
    ·have pR:s4.ob j=(⟨s4.sl,fun i=>if i=id then⟨0,0,.gone⟩else s4.ob i⟩:S).ob j:=by simp only[if_neg e1]
     by_cases e2:j=nb
     ·subst e2;exact Tr.mA (by rw[<-pR]) (by rw[<-pR];exact Nat.le_refl _) (by rw[Eb])
     ·refine gq.tr ⟨pR,fun b kk hb hk hj'=>⟨rfl,?_⟩⟩ En hR.dom;obtain⟨j',q⟩:=kk;simp only at hj';subst hj';rw[hk];exact tj j' e1 e2 b q hk
   refine⟨bZ.via (eP id nb (bG p)),?_,hE,dh.frame En G7 Gp⟩;exact
   {dP:=h.dP.ext hE
    inj:=oS hR.inj wF
    dom:=oR hR.dom
    defers:=h.defers
    slots:=fun i=>by
     have:s4.sl=s.sl:=by rw[<-hm];exact A.sl
     rw[this];exact dh.frame hE tr (h.slots i)
    dR:=by rw[Ec 0 (Ne.symm h0) (Ne.symm hnb)];exact hR.dR
    dB:=fun j cells jH=>by
     have e1:j≠id:=fun e=>by subst e;rw[Ea]at jH;cases jH
     have e2:j≠nb:=fun e=>by subst e;rw[Eb]at jH;cases jH
     by_cases hi:bL base W j
     ·obtain⟨b,arr,T,q1,q2,q3⟩:=Gq j cells hi (by simp only[if_neg e1];exact jH);exact⟨b,arr,T,tj j e1 e2 b [] q1,q2,q3.mono fun _ _ hl=>cA.frame En G7 hl⟩
     ·have hnl:¬L j:=fun hl=>(A.gu j hl).2 hi cells (by rw[<-Ec j e1 e2];exact jH);obtain⟨k1,k2⟩:=A.kept j hi hnl;rw[Ec j e1 e2,k1,cf j e1 e2]at jH;obtain⟨b,arr,T,q1,q2,q3⟩:=h.dB j cells jH;have h1:ω.via (dN id nb (bG p)) b=some (j,[]):=by rw[c9 q1];unfold dN;rw[if_neg e1,if_neg e2]
      obtain⟨m1,m2⟩:=k2 b [] h1;exact⟨b,arr,T,tj j e1 e2 b [] m2,m1.trans q2,q3.mono fun _ _ hl=>cA.frame hE tr hl⟩ }
end
end Go.R
namespace Go.R
variable {H:Nat->Value}
section
variable {R:Type} {P:Program} {E:Env} {Ψ:bV->Option ij} {ω:aJ} {a:Act} {w:World} {s:S} {k:S->Option R} {r:R} {o:Oper} {Q:Exit->Act->World->Prop}
theorem w9(h:Rel H ω a w s)(E:Env):∀(args:List Operand) (fG:List Nat),args.length=fG.length->bj (dh H w ω s) (args.map a.eval) ((args.zip fG).map fun p=>ev E s p.2 p.1)
 | [],[],_=>trivial
 |x::args,t::fG,hl=>⟨bX h E t x,w9 h E args fG (by simpa using hl)⟩
 | [],_::_,hl=>by cases hl
 |_::_,[],hl=>by cases hl
theorem xg:∀(cv:List Value) (cc:List (df real)),bj (fun v c=>gC w ω s v c) cv cc->bj (dh H w ω s) cv (cc.map df.tv)
 | [],[],_=>trivial
 |v::cv,c::cc,h=>⟨by cases c <;> exact h.1,xg cv cc h.2⟩
 | [],_::_,h=>h.elim
 |_::_,[],h=>h.elim
theorem bj.set{α β:Type}{r:α->β->Prop}:∀ {as:List α} {bs:List β} (h:bj r as bs) (i:Nat) {a:α} {b:β},as[i]? = some a->r a b->bj r as (bs.set i b)
 | [],[],_,_,_,_,hi,_=>by simp at hi
 |a0::_,_::_,h,0,a,b,hi,hr=>by simp at hi;subst hi;exact⟨hr,h.2⟩
 |_::_,_::_,h,i+1,_,_,hi,hr=>⟨h.1,bj.set h.2 i (by simpa using hi) hr⟩
 | [],_::_,h,_,_,_,_,_=>h.elim
 |_::_,[],h,_,_,_,_,_=>h.elim
theorem rH:∀ {aW:List Sh},(aW.all fun sh=>sh.eN||sh.flat)=true->eI aW=[]
 | [],_=>rfl
 |sh::aW,h=>by rw[List.all_cons,Bool.and_eq_true]at h;rw[kH,rH h.2];cases sh <;> first|rfl|cases h.1
theorem nU:∀(aW:List Sh),eu aW=aL aW
 | []=>rfl
 |sh::aW=>by simp only[eu,aL,List.map_cons,List.sum_cons];rw[nU aW];rfl
theorem C3{α:Type}{b:Bool}{x y:α}(h:b=true):(bif b then x else y)=x:=by rw[h];rfl
theorem C2{α:Type}{b:Bool}{x y:α}(h:b=false):(bif b then x else y)=y:=by rw[h];rfl
theorem xy{F:ij}(y:fI real ((F.aT.map Sh.ks).flatten++(ep F.look F.args++(eI F.args).flatten))):((co (A:=real) ((F.aT.map Sh.ks).flatten++(ep F.look F.args++(eI F.args).flatten)) y).take (F.aT.map Sh.ks).flatten.length).map (fun v:KV real=>v.1)=(F.aT.map Sh.ks).flatten:=by rw[List.map_take,kj,List.take_left'];rfl
theorem uu {F:ij} {tQ d:Nat} (hc:eA P tQ F) (hL:F.look=true) (b2:F.aT.all Sh.flat=true) (b1:(F.args.all fun sh=>sh.eN||sh.flat)=true) (b3:(F.aT.all fun sh=>sh.ks.all K.closed)=true) (b4:(F.args.all fun sh=>sh.outs.all K.closed)=true)
  (h:Rel H ω a w s) {us:List Value} {cg:List cm} (hall:bj (dh H w ω s) us cg) {k:cm->S->Option R} (cQ:jG (aP R) (F.callee R) d cg s k=some r):
  Calls P tQ us.toArray w fun e w'=>∃v bR s3 t L,e=.returned v/\Rel H bR a w' s3/\vI H ω w s bR w' s3 (aZ d 0 0) (aL F.aT) L v t/\k t s3=some r:=by
 obtain⟨_,wi⟩:=hc;unfold jG at cQ;obtain⟨s1,l1,cM⟩:=aA cQ;obtain⟨vs,l2,th⟩:=aA cM;obtain⟨x,l3,xu⟩:=aA th;have l1:jI (dz F.args) (bH F.args cg) s=some s1:=l1;have l2:dQ F.args cg s s1=some vs:=l2;have xu:((F.fn x).bind fun y=>ar (aP R) (jh F.args cg ((co _ y).drop (F.aT.map Sh.ks).flatten.length) s1) fun s2=>k (TV.mL (bE (aZ d 0 0) F.aT ((co _ y).take (F.aT.map Sh.ks).flatten.length) s2).1) (bE (aZ d 0 0) F.aT ((co _ y).take (F.aT.map Sh.ks).flatten.length) s2).2)=some r:=xu;cases hy:F.fn x with
 |none=>rw[hy]at xu;cases xu
 |some y=>
  rw[hy]at xu;obtain⟨s2,l4,jS⟩:=aA (show ar (aP R) (jh F.args cg ((co _ y).drop (F.aT.map Sh.ks).flatten.length) s1) _=some r from xu);have l4:iJ (dz F.args) (bH F.args cg) ((co _ y).drop (F.aT.map Sh.ks).flatten.length) s1=some s2:=l4;have Hq:=rH b1;have BB:((co _ y).drop (F.aT.map Sh.ks).flatten.length).map (fun v:KV real=>v.1)=(F.args.map Sh.outs).flatten:=by
   rw[List.map_drop,kj,List.drop_left',Hq]
   ·unfold ep;rw[hL];simp
   ·rfl
  have El:((co _ y).drop (F.aT.map Sh.ks).flatten.length).length<=(ep F.look F.args).length:=by have:=congrArg List.length BB;rw[List.length_map]at this;rw[this];unfold ep;rw[hL];exact Nat.le_refl _
  obtain⟨c1,c2⟩:=ld hall l2;have c3:(bH F.args cg).length=(cJ F.args us).length:=c2.length.symm;obtain⟨m1,m2,m3,m4,m5⟩:=lM (dz F.args) (bH F.args cg) (cJ F.args us) 1 (1+aL F.args+aL F.aT) s s1 c3 l1;obtain⟨n1,n2⟩:=mr (dz F.args) (bH F.args cg) (cJ F.args us) 1 (1+aL F.args+aL F.aT);have hD:oW (bS (dz F.args) (bH F.args cg) (cJ F.args us) 1 (1+aL F.args+aL F.aT)):=⟨m4,n2⟩
  have hR:=td (dz F.args) (bH F.args cg) (cJ F.args us) 1 (1+aL F.args+aL F.aT) c2;have hK:=tf (dz F.args) (bH F.args cg) (cJ F.args us) 1 (1+aL F.args+aL F.aT);have FF:=mG h hD (dz F.args) (bH F.args cg) (cJ F.args us) 1 (1+aL F.args+aL F.aT) c2 (fun t ht=>ht);have CD:=fun w' aI=>vS (w':=w') (aI:=aI) (dz F.args) (bH F.args cg) (cJ F.args us) ((co _ y).drop (F.aT.map Sh.ks).flatten.length) 1 (1+aL F.args+aL F.aT) s1 s2 c3 c1 l4
   (by rw[<-su];exact BB)
  revert m1 m2 m3 m4 n1 hD hR hK FF CD;generalize bS (dz F.args) (bH F.args cg) (cJ F.args us) 1 (1+aL F.args+aL F.aT)=es;intro m1 m2 m3 m4 n1 hD hR hK FF CD;have hS:pe s s1:=by
   intro i hg;by_cases hex:∃t∈es,ew t.l=some i
   ·obtain⟨t,ht,hi⟩:=hex;rw[(m3 t ht i hi).2]at hg;exact absurd rfl hg
   ·exact m2 i fun t ht hi=>hex ⟨t,ht,hi⟩
  have hH:Hid ω s1 (aJ.gu w ω es):=AS fun t ht i hi=>by rw[(m3 t ht i hi).2]
  have g3:=qa h hS hH F.args cg us vs 1 b1 hall FF l2;have EC:vs=co ((F.args.map Sh.ks).flatten) x:=(gi _ _ _ l3).symm;rw[EC]at g3;have hC:=wi w (aJ.gu w ω es) us x y (h.dP.own fun b hb=>by unfold aJ.gu;rw[hb]) (AT hD h.inj) (AR h.dom) g3 hy;refine Calls.mono hC fun e w' he=>?_;obtain⟨v,aI,rfl,t1,t2,t3,t4,t5⟩:=he;have t5:=t5.1 hL;rw[List.take_of_length_le El]at t5;obtain⟨k1,k2,k3⟩:=CD w' aI t5 m4;have wo:∀t∈es,(t.cs.plain||t.d)=true:=by intro t ht;obtain⟨l,q1,q2⟩:=List.mem_flatten.1 (hK t ht);obtain⟨sh,q3,rfl⟩:=List.mem_map.1 q1;have:=List.all_eq_true.1 (List.all_eq_true.1 b4 sh q3) (.arr t.e t.cs t.d) (List.mem_filter.2 ⟨q2,rfl⟩);exact this
  obtain⟨bR,z1,z2⟩:=vO h hD m1 hR wo m2 m3 m5 k1 k2 k3 (base:=aZ d 0 0) (B:=1+aL F.args) (Nat.pos_of_ne_zero (dm _ _ _)) (by omega) b2 (xy y) b3 (fun t ht=>(n1 t ht).2.2) t1 t2 t3 t4;exact⟨v,bR,_,_,_,rfl,z1,z2,jS⟩
theorem sI(EP:∀f F,Ψ f=some F->eA P f.1 F):gQ P E Ψ:=by
 intro H R o f args fG ω a w s k r Q ho h hd hk;have hf:=bX h E 0 f;unfold bp at hk;simp only[ho]at hk;cases hsz:Nat.beq args.size fG.size with
 |false=>rw[hsz]at hk;cases hk
 |true=>
  rw[hsz]at hk;simp only[cond_true]at hk;have pV:args.toList.length=fG.toList.length:=by simpa using Nat.eq_of_beq_eq_true hsz
  cases FQ:ev E s 0 f with
  |agg _=>rw[FQ]at hk;cases hk
  |nR _=>rw[FQ]at hk;cases hk
  |GR _ _=>rw[FQ]at hk;cases hk
  |one l=>
   rw[FQ]at hk hf;cases l with
   |fn tQ cc=>
    simp only at hk;obtain⟨By,h1,cQ⟩:=aA hk;have hF:∃q F,Ψ (tQ,q)=some F/\By=F.callee R:=by
     unfold kZ at h1;cases hq:Ψ (tQ,uG ((args.toList.zip fG.toList).map fun p=>ev E s p.2 p.1))with
     |none=>rw[hq]at h1;cases h1
     |some F=>rw[hq]at h1;exact⟨_,F,hq,(Option.some.inj h1).symm⟩
    obtain⟨q,F,Hs,rfl⟩:=hF;clear hk h1;have C8:eA P tQ F:=EP _ F Hs;obtain⟨⟨fn,c,p1,p2,p3⟩,wi⟩:eA P tQ F:=(id C8)
    unfold mj at cQ;cases hb:oJ (F.callee R)with
    |false=>rw[hb]at cQ;cases cQ
    |true=>
     rw[hb]at cQ;simp only[cond_true]at cQ;unfold oJ at hb;rw[Bool.and_eq_true]at hb;have D2:=hb.2;have hlk:(F.callee R).look=F.look:=rfl;obtain⟨cv,e1,e2⟩:=hf;have hall:=(w9 h E args.toList fG.toList pV).iB (xg cv cc e2);revert cQ;generalize (List.map (fun p=>ev E s p.snd p.fst) (args.toList.zip fG.toList)++List.map df.tv cc)=cg at hall;intro cQ;have hrun:(execOp a.eval o).run P w=.ok (.enter tQ (args.toList.map a.eval++cv).toArray) w:=by
      unfold execOp;simp only[ho,resolve,e1,Deferred.ofValue];have hargs:#[]++args.map a.eval++cv.toArray=(args.toList.map a.eval++cv).toArray:=by apply Array.ext';simp
      simp only[Sem.run_bind,Sem.run_pure,Result.andThen_ok,invoke];rw[hargs];exact MuLone.run_callFunc_enter p1 p2 p3 _ w
     cases hL:F.look with
     |true=>
      rw[C3 (hlk.trans hL)]at cQ D2;simp only[Bool.and_eq_true]at D2;obtain⟨b2,b1,b3,b4⟩:=D2;have b2:F.aT.all Sh.flat=true:=b2;have b1:(F.args.all fun sh=>sh.eN||sh.flat)=true:=b1;have b3:(F.aT.all fun sh=>sh.ks.all K.closed)=true:=b3;have b4:(F.args.all fun sh=>sh.outs.all K.closed)=true:=b4;have hw:eu F.aT<=2047:=Nat.le_of_ble_eq_true hb.1;rw[nU]at hw;cases hsp:dW (aZ (o.dst.getD 0) 0 0+2047) (F.callee R).args cg s with
      |none=>rw[hsp]at cQ;have hC:=uu (k:=fun v s=>k (s.ck o.dst v)) C8 hL b2 b1 b3 b4 h hall cQ;unfold Oper.wp;rw[hrun];simp only[Oper.upon];refine Calls.mono hC fun e w' he=>?_;obtain⟨v,bR,s3,t,L,rfl,z1,z2,jS⟩:=he;exact dZ z1 z2.ext hd (z2.res s3 (fun _ _=>rfl)).1 jS
      |some q=>
       rw[hsp]at cQ;obtain⟨args',s',ho⟩:=q;obtain⟨i,id,gg,hh,p,r1,q1,q2,q3,q4⟩:=nQ hsp;obtain⟨c,e,cs,x,ET,Gk,Gl,Ic⟩:=nP q3;subst Ic;injection q4 with q4 q5
       injection q5 with q5 q6
       subst q4;subst q5;subst q6;have hnb:aZ (o.dst.getD 0) 0 0+2047≠0:=by have:=dm (o.dst.getD 0) 0 0;omega
       obtain⟨DI,_,_,Dj,hnew⟩:=qH h q2 ET Gk Gl hnb;obtain⟨u,AD,EK⟩:=hall.get i _ q1;have EK:cA w ω s u (.ref id gg hh p):=EK;have jT:c.md=2:=by
        rcases(dF ET).2 with ⟨_,_,f2,_⟩|⟨_,_,_,_,_,_,f4⟩|⟨_,f2,_⟩
        ·exact absurd f2 q2
        ·exact iQ 2 p _ _ _ c f4
        ·exact absurd f2 q2
       have Fj:(Ty.sl c.e c.cs).R w ω (.deep (id,bG p)) u c.x:=by have:=EK.2.2 c ET;rw[jT]at this;exact this
       have Ef:=bj.set (bj.mono (fun _ _ hq=>dh.frame (qH h q2 ET Gk Gl hnb).2.1 Dj hq) hall) i AD (show dh H w _ _ u (.one (.ref _ _ _ []))from hnew u Fj);have hC:=uu (k:=fun v s2=>ar (aP R) (jw (A:=real) _ s2) fun s3=>k (s3.ck o.dst v)) C8 hL b2 b1 b3 b4 DI Ef cQ;unfold Oper.wp;rw[hrun];simp only[Oper.upon];refine Calls.mono hC fun e w' he=>?_;obtain⟨v,bR,s3,t,L,rfl,z1,z2,jS⟩:=he;obtain⟨s4,hm,DL⟩:=aA jS;obtain⟨Fu,y1,y2,y3⟩:=iW h q2 ET Gk Gl hnb (by unfold bL;omega) EK z1 z2 hm;exact dZ y1 y2 hd y3 DL
     |false=>
      rw[C2 (hlk.trans hL)]at cQ D2;have b2:F.aT.all Sh.qy=true:=D2;have cQ:(bif Nat.ble (aZ (o.dst.getD 0) 0 0+eu F.aT) c7&&apart (aZ (o.dst.getD 0) 0 0) (eu F.aT) (ct F.args cg)then
        ar (aP R) (bO F.args cg s) fun r=>ar (aP R) (kE ((F.args.map Sh.ks).flatten) r.1) fun x=>(F.fn x).bind fun y=>ar (aP R) (ir (eI F.args) (ct F.args cg) ((co _ y).drop (F.aT.map Sh.ks).flatten.length) r.2) fun s2=>k ((bE (aZ (o.dst.getD 0) 0 0) F.aT ((co _ y).take (F.aT.map Sh.ks).flatten.length) s2).2.ck o.dst (TV.mL (bE (aZ (o.dst.getD 0) 0 0) F.aT ((co _ y).take (F.aT.map Sh.ks).flatten.length) s2).1))
        else none)=some r:=cQ
      cases hc:(Nat.ble (aZ (o.dst.getD 0) 0 0+eu F.aT) c7&&apart (aZ (o.dst.getD 0) 0 0) (eu F.aT) (ct F.args cg))with
      |false=>rw[hc]at cQ;cases cQ
      |true=>
      rw[hc]at cQ;simp only[cond_true]at cQ;rw[Bool.and_eq_true]at hc;obtain⟨Ei,CE⟩:=hc;have Ei:=Nat.le_of_ble_eq_true Ei;rw[nU]at Ei CE;obtain⟨⟨vs,s2⟩,h2,cM⟩:=aA cQ;obtain⟨x,h3,th⟩:=aA cM;obtain⟨bi,m,q1,q2,q3,q4⟩:=ic _ _ _ ω s vs s2 1 h hall h2;have g3:fJ w (bi.di m) 1 F.args vs (args.toList.map a.eval++cv):=q4 bi s2 _ (dw.refl _ _) (rq q2);have EC:vs=co ((F.args.map Sh.ks).flatten) x:=(gi _ _ _ h3).symm;cases hy:F.fn x with
      |none=>rw[hy]at th;cases th
      |some y=>
       rw[hy]at th;obtain⟨s3,l4,jS⟩:=aA (show ar (aP R) (ir (eI F.args) (ct F.args cg) ((co _ y).drop (F.aT.map Sh.ks).flatten.length) s2) _=some r from th);have hC:=wi w (bi.di m) (args.toList.map a.eval++cv) x y (q1.rel.dP.own fun b hb=>ji hb) (uw q2 (by omega) q1.rel.inj) (uv q1.rel.dom) (by rw[<-EC];exact g3) hy;unfold Oper.wp;rw[hrun];simp only[Oper.upon];refine Calls.mono hC fun e w' he=>?_;obtain⟨v,aI,rfl,t1,t2,t3,t4,_,t5⟩:=he;have HN:(ep F.look F.args).length=0:=by unfold ep;rw[hL];rfl
       rw[HN]at t5;obtain⟨bR,z1,z2,z3⟩:=vP h hall h2 q1 q2 g3 (base:=aZ (o.dst.getD 0) 0 0) (B:=1+aL F.args) (Nat.pos_of_ne_zero (dm _ _ _)) (by omega) b2 (xy y) Ei CE t1 t2 t3 t4 l4 t5;exact dZ z1 z2 hd z3 jS
   |_=>cases hk
end
end Go.R
namespace Go.R
variable {H:Nat->Value}
def wc(args:List Sh)(vs:List (KV real)):S:=let q:=bE 1 args vs St.start;hO (List.range args.length) q.1 q.2
def Bi(E:Env)(s:S):ResultVar->Option cm
 | .tmp t=>some (s.sl t)
 | .cell a t=>match E.ti t,s.sl a with
  |some i,.one l=>iU s i.agg i.cs.len l
  |_,_=>none
def nM(E:Env)(s:S):List ResultVar->Option (List cm)
 | []=>some []
 |v::vs=>match Bi E s v,nM E s vs with
  |some x,some xs=>some (x::xs)
  |_,_=>none
def Sh.kg(look:Bool)(sh:Sh):Bool:=(bif look then sh.outs.isEmpty else true)&&sh.CV.isEmpty
def fE(look:Bool):Nat->List Sh->List Nat
 |_,[]=>[]
 |j,sh::aW=>bif sh.kg look then fE look (j+1) aW else j::fE look (j+1) aW
def uH(look:Bool)(args:List Sh)(c:Code):Bool:=(fE look 0 args).isEmpty||cP (fE look 0 args) c
def finish(E:Env)(c:Code)(look:Bool)(args aT:List Sh)(ks:List K)(res:List ResultVar)(s:S):Option (fI real ks):=
 bif uH look args c then
 match nM E s res with
 |some cg=>match bO aT cg s with
  |some (vs,s1)=>match takes (ep look args) (bif look then pick (dz args) (bH args ((List.range args.length).map s.sl))else []) s1 with
   |some (us,s2)=>match bO ((eI args).map .blk) ((ct args ((List.range args.length).map s.sl)).map .one) s2 with
    |some (bs,_)=>kE ks (vs++(us++bs))
    |none=>none
   |none=>none
  |none=>none
 |none=>none
 else none
def Ex.done:Ex->Bool
 | .normal| .ret=>true
 |_=>false
section
variable {R:Type} {P:Program} {E:Env} {Ψ:bV->Option ij} {Λ:Nat->Option eB} {ω:aJ} {a:Act} {w:World} {s:S} {k:S->Option R} {r:R} {o:Oper} {Q:Exit->Act->World->Prop}
def vh(tmps:Array Value):ResultVar->Sem Value
 | .tmp t=>pure (tmps.getD t undef)
 | .cell a t=>do loadVar t (<- asAddr (tmps.getD a undef))
theorem tJ{t:Nat}{p v:Value}(h:(Instr.loadAt t p).run P w=.ok v w)(hp:∃A,p=.pointer (some A)):(do loadVar t (<- asAddr p):Sem Value).run P w=.ok v w:=by obtain⟨A,rfl⟩:=hp;simpa[Instr.loadAt,Instr.sureAddr,asAddr] using h
theorem yy{l:L}{v:Value}{z:cm}{agg:Bool}{n:Nat}(hl:cA w ω s v l)(hz:iU s agg n l=some z):∃A,v=.pointer (some A):=by
 cases l with
 |ptr id g off=>
  simp only[iU]at hz;cases hb:dA s id g with
  |none=>rw[hb]at hz;cases hz
  |some cells=>obtain⟨e1,e2⟩:=cZ hb;obtain⟨b,_,f2⟩:=hl.2 e1 cells e2;exact⟨_,f2⟩
 |cj id g hh p j off=>
  simp only[iU]at hz;cases hc:s.cont id g hh p with
  |none=>rw[hc]at hz;cases hz
  |some c=>
   rw[hc]at hz;simp only at hz;have hm:c.md≠0:=by intro e;rw[e]at hz;cases hz
   obtain⟨_,_,⟨b,_,e3⟩,_⟩:=hl.2.2 c hc hm;exact⟨_,e3⟩
 |ez cs x off=>obtain⟨b,o',_,_,e3,_⟩:=hl;exact⟨_,e3⟩
 |_=>cases hz
theorem Bj(hE:cq P E)(h:Rel H ω a w s):∀(res:List ResultVar) (cg:List cm),nM E s res=some cg->∃us:List Value,(res.mapM (vh a.tmps)).run P w=.ok us w/\bj (dh H w ω s) us cg
 | [],cg,ht=>by have ht:=Option.some.inj ht;subst ht;exact⟨[],rfl,trivial⟩
 |v::res,cg,ht=>by
  simp only[nM]at ht;cases h1:Bi E s v with
  |none=>rw[h1]at ht;cases ht
  |some x=>
   cases h2:nM E s res with
   |none=>rw[h1,h2]at ht;cases ht
   |some xs=>
    rw[h1,h2]at ht;have ht:=Option.some.inj ht;subst ht;obtain⟨us,q1,q2⟩:=Bj hE h res xs h2;have hu:∃u,(vh a.tmps v).run P w=.ok u w/\dh H w ω s u x:=by
     cases v with
     |tmp t=>have h1:=Option.some.inj h1;subst h1;exact⟨_,rfl,h.slots t⟩
     |cell c t=>
      simp only[Bi]at h1;cases hi:E.ti t with
      |none=>rw[hi]at h1;cases h1
      |some i=>
       rw[hi]at h1;have jO:=h.slots c;cases hs:s.sl c with
       |one l=>rw[hs]at h1 jO;obtain⟨I,d,ok⟩:=hE.ti _ _ hi;obtain⟨u,z1,z2⟩:=uW h ok jO h1;exact⟨u,tJ z1 (yy jO h1),z2⟩
       |agg _=>rw[hs]at h1;cases h1
       |nR _=>rw[hs]at h1;cases h1
       |GR _ _=>rw[hs]at h1;cases h1
    obtain⟨u,u1,u2⟩:=hu;refine⟨u::us,?_,u2,q2⟩;simp[List.mapM_cons,u1,q1]
theorem wN{fn:Func}{us:List Value}(h:(fn.results.toList.mapM (vh a.tmps)).run P w=.ok us w):(results fn a.tmps).run P w=.ok (match us with| [u]=>u|us=>.tuple us.toArray) w:=by
 have hm:(fn.results.mapM (vh a.tmps)).run P w=.ok us.toArray w:=by rw[<-Array.toArray_toList (xs:=fn.results),List.mapM_toArray];simp[h]
 have he:results fn a.tmps=(do let vs <- fn.results.mapM (vh a.tmps);pure (if h:vs.size=1 then vs[0]else .tuple vs)):=by unfold results;congr 1
 rw[he,Sem.run_bind,hm];match us with
 | []=>rfl
 | [u]=>rfl
 |_::_::_=>rfl
theorem mO{look:Bool}:∀(aW:List Sh) (j0 i:Nat) (sh:Sh),aW[i]? = some sh->sh.kg look=false->j0+i∈fE look j0 aW
 | [],_,i,_,h,_=>by simp at h
 |sh::aW,j0,0,EX,h,hne=>by simp at h;subst h;simp only[fE,hne,cond_false];simp
 |sh::aW,j0,i+1,EX,h,hne=>by
  have:=mO aW (j0+1) i EX (by simpa using h) hne;rw[show j0+1+i=j0+(i+1)by omega]at this;simp only[fE];cases sh.kg look with
  |true=>exact this
  |false=>exact List.mem_cons_of_mem _ this
theorem u7{sh:Sh}(h:sh.outs≠[]):sh.kg true=false:=by
 unfold Sh.kg;cases hb:sh.outs.isEmpty with
 |true=>exact absurd (List.isEmpty_iff.1 hb) h
 |false=>rfl
theorem wI{look:Bool}{sh:Sh}(h:sh.CV≠[]):sh.kg look=false:=by
 unfold Sh.kg;cases hb:sh.CV.isEmpty with
 |true=>exact absurd (List.isEmpty_iff.1 hb) h
 |false=>simp
theorem yj{look:Bool}{args:List Sh}{c:Code}(h:uH look args c=true){j:Nat}(hj:j∈fE look 0 args):cP [j] c=true:=by
 unfold uH at h;rw[Bool.or_eq_true]at h;rcases h with h|h
 ·rw[List.isEmpty_iff.1 h]at hj;cases hj
 ·exact eD hj c h
theorem fA:∀(aM:List Cp) (cv:List Value),bj (dh H w ω s) (uD aM cv) ((ri (A:=real) aM []).map .one)
 | [],_=>trivial
 | .ro _::r,[]=>fA r []
 | .ro _::r,_::cv=>fA r cv
 | .mu _::r,[]=>⟨trivial,fA r []⟩
 | .mu _::r,_::cv=>⟨trivial,fA r cv⟩
theorem xk:∀(aM:List Cp) (cv:List Value) (cc:List (df real)),bj (fun v c=>gC w ω s v c) cv cc->bj (dh H w ω s) (uD aM cv) ((ri aM cc).map .one)
 | [],_,_,_=>trivial
 |_::_,[],_::_,h=>h.elim
 |_::_,_::_,[],h=>h.elim
 | .ro _::r,[],[],_=>fA r []
 | .mu _::r,[],[],_=>⟨trivial,fA r []⟩
 | .ro _::r,_::cv,_::cc,h=>xk r cv cc h.2
 | .mu _::r,_::cv,.ptr id g::cc,h=>⟨h.1,xk r cv cc h.2⟩
 | .mu _::r,_::cv,.ro _ _::cc,h=>⟨trivial,xk r cv cc h.2⟩
theorem jp:∀(aM:List Cp) (cv:List Value) (cc:List (df real)),Bz aM=[]->uD aM cv=[]/\ri aM cc=[]
 | [],_,cc,_=>⟨rfl,by cases cc <;> rfl⟩
 | .mu _::_,_,_,h=>by cases h
 | .ro _::r,[],[],h=>jp r [] [] h
 | .ro _::r,_::cv,[],h=>jp r cv [] h
 | .ro _::r,[],_::cc,h=>jp r [] cc h
 | .ro _::r,_::cv,_::cc,h=>jp r cv cc h
theorem D4:∀(aW:List Sh) (us:List Value) (cg:List cm),aW.length=us.length->aW.length=cg.length->(∀(i:Nat) sh u tv,aW[i]? = some sh->sh.CV≠[]->us[i]? = some u->cg[i]? = some tv->dh H w ω s u tv)->bj (dh H w ω s) (eC aW us) ((ct aW cg).map .one)
 | [],[],[],_,_,_=>trivial
 | [],_::_,_,h,_,_=>by cases h
 | [],_,_::_,_,h,_=>by cases h
 |_::_,[],_,h,_,_=>by cases h
 |_::_,_,[],_,h,_=>by cases h
 |sh::aW,u::us,tv::cg,h1,h2,h4=>by
  have ih:=D4 aW us cg (by simpa using h1) (by simpa using h2) (fun i sh u tv a b c d=>h4 (i+1) sh u tv (by simpa using a) b (by simpa using c) (by simpa using d));simp only[eC,ct,List.map_append];refine bj.iB ?_ ih;cases sh with
  |blk ks=>
   have:=h4 0 _ u tv rfl (fun e=>by cases e) rfl rfl;cases tv with
   |one l=>exact⟨this,trivial⟩
   |agg _=>exact⟨trivial,trivial⟩
   |nR _=>exact⟨trivial,trivial⟩
   |GR _ _=>exact⟨trivial,trivial⟩
  |pL f aM=>
   show bj (dh H w ω s) ((Sh.pL f aM).BN u) ((Sh.CW (A:=real) (.pL f aM) tv).map TV.one);unfold Sh.BN;simp only;by_cases hn:Bz aM=[]
   ·have q1:∀X:List Value,uD aM X=[]:=fun X=>(jp aM X [] hn).1;have q2:Sh.CW (A:=real) (.pL f aM) tv=[]:=by
     unfold Sh.CW;split
     ·rename_i hsh;cases hsh
     ·rename_i hsh _;cases hsh
     ·rename_i hsh;cases hsh;exact(jp aM [] _ hn).2
     ·rename_i hsh _;cases hsh;exact(jp aM [] [] hn).2
     ·rfl
    rw[q1,q2];trivial
   ·have:=h4 0 _ u tv rfl hn rfl rfl;cases tv with
    |one l=>
     cases l with
     |fn f' cc=>obtain⟨cv,rfl,h5⟩:=this;exact xk aM cv cc h5
     |_=>exact fA aM _
    |agg _=>exact fA aM _
    |nR _=>exact fA aM _
    |GR _ _=>exact fA aM _
  |_=>trivial
theorem qv{α:Type}:∀(ks ks':List K) (xs xs':List α),ks.length=xs.length->pick (ks++ks') (xs++xs')=pick ks xs++pick ks' xs'
 | [],_,[],_,_=>rfl
 | [],_,_::_,_,h=>by cases h
 |_::_,_,[],_,h=>by cases h
 |k::ks,ks',x::xs,xs',h=>by simp only[List.cons_append,pick];rw[qv ks ks' xs xs' (by simpa using h)];cases k.k9 <;> rfl
theorem sw{α:Type}:∀(ks:List K) (xs:List α),ks.filter K.k9=[]->pick ks xs=[]
 | [],_,_=>rfl
 |_::_,[],_=>rfl
 |k::ks,x::xs,h=>by
  simp only[pick];rw[List.filter_cons]at h;cases hk:k.k9 with
  |true=>rw[hk]at h;simp at h
  |false=>rw[hk]at h;exact sw ks xs h
theorem bj.pick{α β:Type}{r:α->β->Prop}:∀(ks:List K) {as:List α} {bs:List β},bj r as bs->bj r (Go.R.pick ks as) (Go.R.pick ks bs)
 | [],as,bs,_=>by cases as <;> cases bs <;> trivial
 |_::_,[],[],_=>trivial
 |k::ks,a::as,b::bs,h=>by
  simp only[Go.R.pick];cases k.k9 with
  |true=>exact⟨h.1,bj.pick ks h.2⟩
  |false=>exact bj.pick ks h.2
 |_::_,[],_::_,h=>h.elim
 |_::_,_::_,[],h=>h.elim
theorem nv:∀(us:List Value) (ks:List K),ks.length=us.length->bj (cA w ω s) us (ks.map fun _=>.dead)
 | [],[],_=>trivial
 | [],_::_,h=>by cases h
 |_::_,[],h=>by cases h
 |u::us,k::ks,h=>⟨trivial,nv us ks (by simpa using h)⟩
theorem ya(sh:Sh)(tv:cm):sh.sW.length=(sh.cells tv).length:=by
 cases sh with
 |one k=>cases tv <;> rfl
 |agg ks=>
  cases tv with
  |agg ls=>
   simp only[Sh.cells,Sh.sW];cases hb:Nat.beq ls.length ks.length with
   |true=>exact(Nat.eq_of_beq_eq_true hb).symm
   |false=>simp
  |_=>simp[Sh.cells,Sh.sW]
 |_=>rfl
theorem BO{sh:Sh}{u:Value}{tv:cm}(hu:sh.sW.length=(sh.vals u).length)(h:dh H w ω s u tv):bj (cA w ω s) (sh.vals u) (sh.cells tv):=by
 cases sh with
 |one k=>
  cases tv with
  |one l=>exact⟨h,trivial⟩
  |_=>exact⟨trivial,trivial⟩
 |agg ks=>
  cases tv with
  |agg ls=>
   obtain⟨cells,e1,h2⟩:=h;simp only[Sh.cells];cases hb:Nat.beq ls.length ks.length with
   |true=>
    have hv:(Sh.agg ks).vals u=cells:=by subst e1;simp[Sh.vals,Value.cells]
    rw[hv];exact h2
   |false=>exact nv _ _ hu
  |_=>exact nv _ _ hu
 |_=>trivial
theorem Bf:∀(aW:List Sh) (us:List Value) (cg:List cm),aW.length=us.length->aW.length=cg.length->(∀(i:Nat) sh u,aW[i]? = some sh->us[i]? = some u->sh.sW.length=(sh.vals u).length) ->
  (∀(i:Nat) sh u tv,aW[i]? = some sh->sh.outs≠[]->us[i]? = some u->cg[i]? = some tv->dh H w ω s u tv)->bj (cA w ω s) (pick (dz aW) (cJ aW us)) (pick (dz aW) (bH aW cg))
 | [],[],[],_,_,_,_=>trivial
 | [],_::_,_,h,_,_,_=>by cases h
 | [],_,_::_,_,h,_,_=>by cases h
 |_::_,[],_,h,_,_,_=>by cases h
 |_::_,_,[],_,h,_,_=>by cases h
 |sh::aW,u::us,tv::cg,h1,h2,h3,h4=>by
  have hv:=h3 0 sh u rfl rfl;have ih:=Bf aW us cg (by simpa using h1) (by simpa using h2) (fun i sh u a b=>h3 (i+1) sh u (by simpa using a) (by simpa using b)) (fun i sh u tv a b c d=>h4 (i+1) sh u tv (by simpa using a) b (by simpa using c) (by simpa using d));have e1:pick (dz (sh::aW)) (cJ (sh::aW) (u::us))=pick sh.sW (sh.vals u)++pick (dz aW) (cJ aW us):=qv _ _ _ _ hv;have e2:pick (dz (sh::aW)) (bH (sh::aW) (tv::cg))=pick sh.sW (sh.cells tv)++pick (dz aW) (bH aW cg):=qv _ _ _ _ (ya sh tv);rw[e1,e2];refine bj.iB ?_ ih;by_cases ho:sh.outs=[]
  ·have hp:∀ {α:Type} (xs:List α),pick sh.sW xs=[]:=fun xs=>sw _ _ ho;rw[hp,hp];trivial
  ·exact bj.pick _ (BO hv (h4 0 sh u tv rfl ho rfl rfl))
theorem Bt{b:Nat}{sh:Sh}{vs:List (KV real)}{u:Value}(hl:vs.length=sh.ks.length)(h:zp w ω b sh vs u):sh.sW.length=(sh.vals u).length:=by
 cases sh with
 |one k=>rfl
 |agg ks=>obtain⟨cells,e1,e2⟩:=h;subst e1;have:=e2.length;simp only[Sh.sW,Sh.vals,Value.cells];simp only[Sh.ks]at hl;omega
 |_=>rfl
theorem sO:∀(aW:List Sh) (vs:List (KV real)) (us:List Value) (b:Nat),fJ w ω b aW vs us->∀(i:Nat) sh u,aW[i]? = some sh->us[i]? = some u->sh.sW.length=(sh.vals u).length
 | [],_,_,_,_,i,sh,u,h,_=>by simp at h
 |_::_,_,[],_,h,_,_,_,_,_=>h.elim
 |sh::aW,vs,u::us,b,h,0,EX,u',h1,h2=>by simp at h1 h2;subst h1;subst h2;exact Bt h.1 h.2.1
 |sh::aW,vs,u::us,b,h,i+1,EX,u',h1,h2=>sO aW _ us _ h.2.2 i EX u' (by simpa using h1) (by simpa using h2)
theorem func_okI {Ξ:Inls} {pl:Nat -> Bool} (hI:StepInl P E Ξ) (hE:cq P E) (EP:∀f F, Ψ f = some F -> eA P f.1 F) {f:FuncId} {fn:Func} {c:Code} {F:ij} (h1:P.funcs[f]? = some fn) (h2:(fn.name == "runtime.NumGoroutine") = false) (h3:fn.body = some c)
  (hnt:fn.ntmps=E.nt) (Ix:F.args.length<=E.nt) (hL:fp P E Λ (dl 0 c))
  (hfn:∀x,F.fn x=exec E (aP _) (kZ Ψ _) (lkt Λ Ξ pl _) 0 c (wc F.args (co _ x)) fun ex s=>bif ex.done then finish E c F.look F.args F.aT _ fn.results.toList s else none):eA P f F:=by
 refine⟨⟨fn,c,h1,h2,h3⟩,fun w ω us x y ry hinj hdom B9 GM=>?_⟩;rw[hfn]at GM;let H:Nat->Value:=fun _=>undef;have hlen:us.length=F.args.length:=by
  have:∀(aW:List Sh) (vs:List (KV real)) (us:List Value) (b:Nat),fJ w ω b aW vs us->us.length=aW.length:=by
   intro aW;induction aW with
   |nil=>intro vs us b h;rw[h.2];rfl
   |cons sh aW ih=>
    intro vs us b h;cases us with
    |nil=>exact h.elim
    |cons u us=>simp[ih _ _ _ h.2.2]
  exact this _ _ _ _ B9
 refine calls_of_wp h1 h3 ?_;have hsz:(us.toArray++Array.replicate (fn.ntmps-us.toArray.size) undef).size=E.nt:=by simp;omega
 have hR:Rel H ω { tmps:=us.toArray++Array.replicate (fn.ntmps-us.toArray.size) undef,defers:=[] } w (wc F.args (co _ x)):=by
  refine pY ry (by omega) hinj hdom rfl (fun _=>rfl) (fun _=>trivial) B9 (fun j d hd u hu=>?_);have hj:j<F.args.length:=by have:=(List.getElem?_eq_some_iff.1 hd).1;simpa using this
  have Hy:d=j:=by rw[List.getElem?_range hj]at hd;exact(Option.some.inj hd).symm
  subst Hy;rw[Array.getD_eq_getD_getElem?,Array.getElem?_append_left (by simp;omega)];simp[hu]
 have hx:=jq hE (sI (E:=E) EP) hI (U:=fun j=>uH F.look F.args c=true/\j∈fE F.look 0 F.args) c 0 ω _ w _ _ (fun j hj=>yj hj.1 hj.2) hL hsz hR GM;refine wp_mono hx fun e a' w' hp=>?_;obtain⟨ex,aI,s',q1,q2,q3,q4,q5,q6⟩:=hp;have lT:(bif ex.done then finish E c F.look F.args F.aT ((F.aT.map Sh.ks).flatten++(ep F.look F.args++(eI F.args).flatten)) fn.results.toList s' else none)=some y:=q4;cases hd:ex.done with
 |false=>rw[hd]at lT;cases lT
 |true=>
  rw[hd]at lT;simp only[cond_true]at lT;unfold finish at lT;cases FO:uH F.look F.args c with
  |false=>rw[FO]at lT;cases lT
  |true=>
  rw[FO]at lT;simp only[cond_true]at lT;cases ht:nM E s' fn.results.toList with
  |none=>rw[ht]at lT;cases lT
  |some cg=>
   rw[ht]at lT;simp only at lT;cases F5:bO F.aT cg s' with
   |none=>rw[F5]at lT;cases lT
   |some q=>
    obtain⟨vs,s2⟩:=q;rw[F5]at lT;simp only at lT;cases hto:takes (ep F.look F.args) (bif F.look then pick (dz F.args) (bH F.args ((List.range F.args.length).map s'.sl))else []) s2 with
    |none=>rw[hto]at lT;cases lT
    |some q=>
    obtain⟨Gi,s3⟩:=q;rw[hto]at lT;simp only at lT;cases htb:bO ((eI F.args).map .blk) ((ct F.args ((List.range F.args.length).map s'.sl)).map .one) s3 with
    |none=>rw[htb]at lT;cases lT
    |some q=>
    obtain⟨obs,s4⟩:=q;rw[htb]at lT;simp only at lT;obtain⟨zn,u1,u2⟩:=Bj hE q2 fn.results.toList cg ht;obtain⟨bi,m,p1,g1,_,r1⟩:=ic F.aT cg zn aI s' vs s2 (1+aL F.args) q2 u2 F5;have uR:∀(i:Nat) sh u tv,F.args[i]? = some sh->sh.kg F.look=false->us[i]? = some u->((List.range F.args.length).map s'.sl)[i]? = some tv->dh H w' aI s' u tv:=by
     intro i sh u tv h1 h2 h3 h4;have hi:i<F.args.length:=(List.getElem?_eq_some_iff.1 h1).1;rw[List.getElem?_map,List.getElem?_range hi]at h4;simp only[Option.map_some]at h4;have h4:=Option.some.inj h4;subst h4;have hmem:=mO F.args 0 i sh h1 h2;rw[Nat.zero_add]at hmem;have hsame:=q6 i ⟨FO,hmem⟩;have hu:a'.tmps.getD i undef=u:=by rw[hsame,Array.getD_eq_getD_getElem?,Array.getElem?_append_left (by simp;omega)];simp[h3]
     have:=q2.slots i;rw[hu]at this;exact this
    have ED:bj (cA w' aI s') (bif F.look then pick (dz F.args) (cJ F.args us)else []) (bif F.look then pick (dz F.args) (bH F.args ((List.range F.args.length).map s'.sl))else []):=by
     cases hL:F.look with
     |false=>trivial
     |true=>exact Bf F.args us _ hlen.symm (by simp) (sO _ _ _ _ B9) (fun i sh u tv h1 h2 h3 h4=>uR i sh u tv h1 (by rw[hL];exact u7 h2) h3 h4)
    have BA:bj (dh H w' aI s') (eC F.args us) ((ct F.args ((List.range F.args.length).map s'.sl)).map .one):=D4 F.args us _ hlen.symm (by simp) (fun i sh u tv h1 h2 h3 h4=>uR i sh u tv h1 (wI h2) h3 h4);obtain⟨bZ,m2,p2,g2,_,_,r2⟩:=gl _ _ _ bi s2 Gi s3 (1+aL F.args+aL F.aT) p1.rel (ED.mono fun _ _ hl=>cA.frame p1.ext p1.tr hl) hto;have hlo:(ep F.look F.args).length=Gi.length:=by have:=lY hto;rw[<-this];simp
    have Gj:=p1.trans p2;obtain⟨oV,m3,p3,g3,_,r3⟩:=ic _ _ (eC F.args us) bZ s3 obs s4 (1+aL F.args+aL F.aT+(ep F.look F.args).length) p2.rel (BA.mono fun _ _ hl=>dh.frame Gj.ext Gj.tr hl) htb;have g12:=cC.trans (Nat.le_add_right _ _) (Nat.le_add_right _ _) g1 g2;have D9:=cC.trans (by omega) (Nat.le_add_right _ _) g12 g3;have hS:=fo D9;have hv:=r1 oV s4 (oV.named (m++m2++m3)) (g2.later.trans g3.later) hS.left.left;have GX:=r2 oV s4 (oV.named (m++m2++m3)) g3.later hS.left.right;have C7:=r3 oV s4 (oV.named (m++m2++m3)) (dw.refl _ _) hS.right;have hvs:vs++(Gi++obs)=co _ y:=(gi _ _ _ lT).symm;have hrun:=wN (fn:=fn) u1;have hlv:vs.length=(F.aT.map Sh.ks).flatten.length:=by
     have:∀(aW:List Sh) (vs:List (KV real)) (us:List Value) (b:Nat),fJ w' (oV.named (m++m2++m3)) b aW vs us->vs.length=(aW.map Sh.ks).flatten.length:=by
      intro aW;induction aW with
      |nil=>intro vs us b h;rw[h.1];rfl
      |cons sh aW ih=>
       intro vs us b h;cases us with
       |nil=>exact h.elim
       |cons u us=>have:=ih _ _ _ h.2.2;have h1:=h.1;rw[List.length_take]at h1;rw[List.length_drop]at this;simp only[List.map_cons,List.flatten_cons,List.length_append];omega
     exact this _ _ _ _ hv
    have oc:a'.defers=[]/\∃v,(results fn a'.tmps).run P w'=.ok v w'/\∃v' bR,Ending.returned v=.returned v'/\dr ω w bR w'/\(∀b b' k,bR b=some k->bR b'=some k->b=b')/\(∀b k,bR b=some k->b<w'.heap.size) /\
      xS w' bR (1+aL F.args) F.aT ((co _ y).take (F.aT.map Sh.ks).flatten.length) v'/\Ct w' bR (1+aL F.args+aL F.aT) F.look F.args us ((co _ y).drop (F.aT.map Sh.ks).flatten.length):=by
     refine⟨p3.rel.defers,_,hrun,_,oV.named (m++m2++m3),rfl,q3.trans (Gj.ext.trans (p3.ext.trans (gO _ _ _))),nI (by omega) D9 p3.rel.inj,nH p3.rel.dom,?_,?_⟩
     ·rw[<-hvs,<-hlv,List.take_left];unfold xS;match Iy:F.aT,hv with
      | [],hv=>obtain⟨e1,e2⟩:=hv;subst e2;exact⟨[],rfl,e1,rfl⟩
      | [sh],hv=>
       match zn,hv with
       | [u],hv=>exact⟨hv.1,hv.2.1⟩
       |_::_::_,hv=>have:=hv.2.2.2;cases this
      |_::_::_,hv=>
       match zn,hv with
       | [u],hv=>exact hv.2.2.elim
       | [],hv=>exact hv.elim
       |u::u'::zn,hv=>exact⟨u::u'::zn,rfl,hv⟩
     ·rw[<-hvs,<-hlv,List.drop_left];refine⟨fun hL=>?_,?_⟩
      ·rw[hlo,List.take_left];rw[hL]at GX;exact GX
      ·rw[hlo,List.drop_left];rw[hlo]at C7;exact C7
    cases ex with
    |normal=>
     cases e with
     |normal=>exact oc
     |_=>cases q1
    |ret=>
     cases e with
     |ret=>exact oc
     |_=>cases q1
    |exit _=>cases hd
theorem BP (hE:cq P E) (EP:∀f F, Ψ f = some F -> eA P f.1 F) {f:FuncId} {fn:Func} {c:Code} {F:ij} (h1:P.funcs[f]? = some fn) (h2:(fn.name == "runtime.NumGoroutine") = false) (h3:fn.body = some c)
  (hnt:fn.ntmps=E.nt) (Ix:F.args.length<=E.nt) (hL:fp P E Λ (dl 0 c))
  (hfn:∀x,F.fn x=exec E (aP _) (kZ Ψ _) (lkt Λ noI noP _) 0 c (wc F.args (co _ x)) fun ex s=>bif ex.done then finish E c F.look F.args F.aT _ fn.results.toList s else none):eA P f F:=
 func_okI stepInl_no hE EP h1 h2 h3 hnt Ix hL hfn
end
end Go.R
namespace Go.R
section
variable {P:Program}
def aK.take:Nat->aK->aK
 |0,_=>.nil
 |_+1,.nil=>.nil
 |n+1,.cons t ts=>.cons t (aK.take n ts)
def aK.drop:Nat->aK->aK
 |0,ts=>ts
 |_+1,.nil=>.nil
 |n+1,.cons _ ts=>aK.drop n ts
def s5(P:Program)(g:TypeId->aK->Bool):List Field->Nat->aK->Bool
 | [],_,.nil=>true
 | [],_,.cons _ _=>false
 |F:: fs, o, cs=>(F.name != "_")&&(Nat.beq F.offset o&&(match P.info? F.type with
  |some I=>Nat.ble 1 I.size&&(Nat.ble I.size cs.len&&(g F.type (cs.take I.size)&&s5 P g fs (o+I.size) (cs.drop I.size)))
  |none=>false))
def nW(P:Program):Nat->TypeId->aK->Bool
 |0,_,_=>false
 |f+1,t,cs=>match P.underlying t with
  |some (.int _)=>(match cs with| .cons (.int _) .nil=>true|_=>false)
  |some .bool=>(match cs with| .cons .bool .nil=>true|_=>false)
  |some (.struct fs)=>!P.stoodInHeld t&&s5 P (nW P f) fs.toList 0 cs
  |_=>false
def fC(P:Program)(t:TypeId):Bool:=match P.underlying t with|some (.struct _)=>true|_=>false
def FD:TypeDesc->Bool
 | .struct _| .int _| .bool=>true
 |_=>false
theorem Typed.len:∀ {cs:aK} {us:List Value},Typed cs us->us.length=cs.len
 | .nil,[],_=>rfl
 | .cons _ _,_::_,h=>by simp[aK.len,Typed.len h.2]
 | .nil,_::_,h=>h.elim
 | .cons _ _,[],h=>h.elim
theorem Typed.take:∀(n:Nat) {cs:aK} {us:List Value},Typed cs us->Typed (cs.take n) (us.take n)
 |0,_,_,_=>trivial
 |_+1,.nil,[],_=>trivial
 |n+1,.cons _ _,_::_,h=>⟨h.1,Typed.take n h.2⟩
 |_+1,.nil,_::_,h=>h.elim
 |_+1,.cons _ _,[],h=>h.elim
theorem Typed.drop:∀(n:Nat) {cs:aK} {us:List Value},Typed cs us->Typed (cs.drop n) (us.drop n)
 |0,_,_,h=>h
 |_+1,.nil,[],_=>trivial
 |n+1,.cons _ _,_::_,h=>Typed.drop n h.2
 |_+1,.nil,_::_,h=>h.elim
 |_+1,.cons _ _,[],h=>h.elim
theorem mz:∀(n:Nat) {cs:aK} {us vs:List Value},Typed cs us->Typed cs vs->dc us vs=(dc (us.take n) (vs.take n)&&dc (us.drop n) (vs.drop n))
 |0,cs,us,vs,_,_=>by simp[dc]
 |n+1,.nil,[],[],_,_=>rfl
 |n+1,.cons t ts,u::us,v::vs,hu,hv=>by
  have ih:=mz n hu.2 hv.2;cases t with
  |int k=>obtain⟨a,rfl⟩:=hu.1;obtain⟨b,rfl⟩:=hv.1;simp only[List.take_succ_cons,List.drop_succ_cons,dc,ih,Bool.and_assoc]
  |bool=>obtain⟨a,rfl⟩:=hu.1;obtain⟨b,rfl⟩:=hv.1;simp only[List.take_succ_cons,List.drop_succ_cons,dc,ih,Bool.and_assoc]
  |str=>exact hu.1.elim
  |sl _ _=>exact hu.1.elim
 |n+1,.nil,_::_,_,hu,_=>hu.elim
 |n+1,.nil,[],_::_,_,hv=>hv.elim
 |n+1,.cons _ _,[],_,hu,_=>hu.elim
 |n+1,.cons _ _,_::_,[],_,hv=>hv.elim
theorem C5{us vs:List Value}:dc us vs=true->us.length=vs.length:=by
 fun_induction dc us vs <;> simp_all
theorem yq{T:TypeId}{d:TypeDesc}(h:P.underlying T=some d)(hd:FD d=true)(w:World):(isAgg T).run P w=.ok (fC P T) w:=by unfold isAgg fC;rw[Sem.run_bind,run_underlying h w,h];cases d <;> first|rfl|cases hd
theorem vc{T:TypeId}{I:TypeInfo}{d:TypeDesc}(h:P.underlying T=some d)(hd:FD d=true)(hi:P.info? T=some I)(us:List Value)(off:Nat)(hle:off+I.size<=us.length)(h1:fC P T=false->I.size=1)(w:World):
  (part T us.toArray off).run P w=.ok (fM (fC P T) ((us.drop off).take I.size)) w:=by
 unfold part;rw[Sem.run_bind,yq h hd];cases hq:fC P T with
 |true=>simp[sizeOf,typeInfo,hi,fM]
 |false=>
  have h1:=h1 hq;have hlt:off<us.length:=by omega
  rw[h1];simp[fM,List.getElem?_eq_getElem hlt];rw[List.drop_eq_getElem_cons hlt];rfl
theorem yb{f:Nat}{t:TypeId}{cs:aK}(h:nW P f t cs=true):∃d,P.underlying t=some d/\FD d=true/\(fC P t=false->cs.len=1):=by
 cases f with
 |zero=>cases h
 |succ f=>
  unfold nW at h;unfold fC;cases hu:P.underlying t with
  |none=>rw[hu]at h;cases h
  |some d=>
   rw[hu]at h;cases d with
   |int k=>
    simp only at h;split at h
    ·exact⟨_,rfl,rfl,fun _=>rfl⟩
    ·cases h
   |bool=>
    simp only at h;split at h
    ·exact⟨_,rfl,rfl,fun _=>rfl⟩
    ·cases h
   |struct fs=>exact⟨_,rfl,rfl,fun h=>by cases h⟩
   |_=>cases h
theorem kD:∀(n:Nat) (cs:aK),n<=cs.len->(cs.take n).len=n
 |0,_,_=>rfl
 |n+1,.nil,h=>by simp[aK.len]at h
 |n+1,.cons _ ts,h=>by simp only[aK.len,aK.take]at h⊢;rw[kD n ts (by omega)]
theorem nY (f:Nat) (IH:∀(t:TypeId) (cs:aK),nW P f t cs=true->∀(d:Nat) (us vs:List Value) (w:World),Typed cs us->Typed cs vs->(Op.equalIn (d+f) t (fM (fC P t) us) (fM (fC P t) vs)).run P w=.ok (dc us vs) w)
  (d:Nat) (us vs:List Value) (w:World):∀(fs:List Field) (o:Nat) (cs:aK),s5 P (nW P f) fs o cs=true->Typed cs (us.drop o)->Typed cs (vs.drop o)->(Op.eqFields (d+f) us.toArray vs.toArray fs).run P w=.ok (dc (us.drop o) (vs.drop o)) w
 | [],o,.nil,_,hu,hv=>by have e1:us.drop o=[]:=List.length_eq_zero_iff.1 hu.len;have e2:vs.drop o=[]:=List.length_eq_zero_iff.1 hv.len;rw[e1,e2];rfl
 | [],o,.cons _ _,h,_,_=>by cases h
 |F::fs,o,cs,h,hu,hv=>by
  simp only[s5,Bool.and_eq_true]at h;obtain⟨h1,h2,h3⟩:=h;have h1:F.name ≠ "_" := by simpa using h1
  have h2:=Nat.eq_of_beq_eq_true h2;cases hi:P.info? F.type with
  |none=>rw[hi]at h3;cases h3
  |some I=>
   rw[hi]at h3;simp only[Bool.and_eq_true]at h3;obtain⟨h3,h4,h5,h6⟩:=h3;have h3:=Nat.le_of_ble_eq_true h3;have h4:=Nat.le_of_ble_eq_true h4;obtain⟨dd,u1,u2,u3⟩:=yb h5;have HT:(us.drop o).length=cs.len:=hu.len;have hvl:(vs.drop o).length=cs.len:=hv.len;rw[List.length_drop]at HT hvl;have hone:fC P F.type=false->I.size=1:=fun e=>by have:=u3 e;rw[kD _ _ h4]at this;exact this
   have p1:=vc u1 u2 hi us o (by omega) hone w;have p2:=vc u1 u2 hi vs o (by omega) hone w;have he:=IH F.type _ h5 d _ _ w (hu.take I.size) (hv.take I.size);have oF:Typed (cs.drop I.size) (us.drop (o+I.size)):=by have:=hu.drop I.size;rwa[List.drop_drop]at this
   have fL:Typed (cs.drop I.size) (vs.drop (o+I.size)):=by have:=hv.drop I.size;rwa[List.drop_drop]at this
   have EF:=nY f IH d us vs w fs (o+I.size) (cs.drop I.size) h6 oF fL;rw[mz I.size hu hv,List.drop_drop,List.drop_drop];simp only[Op.eqFields,h1,ne_eq,not_false_eq_true,if_true,h2,Sem.run_bind,p1,p2,Result.andThen_ok,he];cases dc ((us.drop o).take I.size) ((vs.drop o).take I.size)with
   |false=>simp
   |true=>simpa using EF
theorem pH:∀(f:Nat) (t:TypeId) (cs:aK),nW P f t cs=true->∀(d:Nat) (us vs:List Value) (w:World),Typed cs us->Typed cs vs->(Op.equalIn (d+f) t (fM (fC P t) us) (fM (fC P t) vs)).run P w=.ok (dc us vs) w
 |0,t,cs,h,_,_,_,_,_,_=>by cases h
 |f+1,t,cs,h,d,us,vs,w,hu,hv=>by
  unfold nW at h;unfold fC;cases DO:P.underlying t with
  |none=>rw[DO]at h;cases h
  |some dd=>
   rw[DO]at h;cases dd with
   |int k=>
    simp only at h;split at h
    ·rename_i k';match us,vs,hu,hv with
     | [u],[v],hu,hv=>obtain⟨a,rfl⟩:=hu.1;obtain⟨b,rfl⟩:=hv.1;have:=run_equalIn_int (P:=P) w (d+f) t k' k a b DO;simp only[fM];rw[show d+(f+1)=(d+f)+1 from rfl];refine Eq.trans this ?_;simp[dc]
     |_::_::_,_,hu,_=>exact hu.2.elim
     | [_],_::_::_,_,hv=>exact hv.2.elim
     | [],_,hu,_=>exact hu.elim
     | [_],[],_,hv=>exact hv.elim
    ·cases h
   |bool=>
    simp only at h;split at h
    ·match us,vs,hu,hv with
     | [u],[v],hu,hv=>obtain⟨a,rfl⟩:=hu.1;obtain⟨b,rfl⟩:=hv.1;have:=run_equalIn_bool' (P:=P) w (d+f) t a b DO;simp only[fM];rw[show d+(f+1)=(d+f)+1 from rfl];refine Eq.trans this ?_;simp[dc]
     |_::_::_,_,hu,_=>exact hu.2.elim
     | [_],_::_::_,_,hv=>exact hv.2.elim
     | [],_,hu,_=>exact hu.elim
     | [_],[],_,hv=>exact hv.elim
    ·cases h
   |struct fs=>
    simp only[Bool.and_eq_true,Bool.not_eq_true']at h;have hf:P.fieldsOf t=fs:=by simp[Program.fieldsOf,DO]
    simp only[fM];rw[show d+(f+1)=(d+f)+1 from rfl,run_equalIn_struct w (d+f) t us.toArray vs.toArray (by rw[hf];exact DO) h.1,hf];have:=nY f (fun t cs h d us vs w=>pH f t cs h d us vs w) d us vs w fs.toList 0 cs h.2 (by simpa using hu) (by simpa using hv);simpa using this
   |_=>cases h
def vW(P:Program)(ti:Nat->Option TI)(t:Nat):Bool:=match ti t with
 |some i=>nW P 20 t i.cs&&(fC P t && !P.eqGuardType P.depth t)
 |none=>false
theorem C4{P:Program}{ti:Nat->Option TI}{t:Nat}{i:TI}(h:vW P ti t=true)(hi:ti t=some i)(op:BinOp)(x y:Operand)(us vs:List Value)(w:World)(ho:op=.eql\/op=.neq)(hu:Typed i.cs us)(hv:Typed i.cs vs):
  (do eqGuard op t x y (.agg us.toArray) (.agg vs.toArray);binOp op t (.agg us.toArray) (.agg vs.toArray):Sem Value).run P w=.ok (.bool (match op with| .eql=>dc us vs|_=>!dc us vs)) w:=by
 unfold vW at h;rw[hi]at h;simp only[Bool.and_eq_true,Bool.not_eq_true']at h;obtain⟨h1,h2,h3⟩:=h;have he:=pH 20 t i.cs h1 9980 us vs w hu hv;rw[h2]at he;simp only[fM]at he;rcases ho with rfl|rfl
 ·rw[Sem.run_bind,run_eqGuard_agg w .eql t x y _ _ h3];simp only[Result.andThen_ok,run_eql_struct];rw[he];rfl
 ·rw[Sem.run_bind,run_eqGuard_agg w .neq t x y _ _ h3];simp only[Result.andThen_ok,run_neq_struct];rw[he];rfl
end
end Go.R

