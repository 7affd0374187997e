import Derived.Test.YtalncjeiapbcfaaGreatRC
import Derived.Conc.MuLone
import Derived.Laws.StructEq
/- An abstract interpreter over the code of Go functions, proved sound once: what it answers, the code computes. Conditions: none. -/
set_option autoImplicit false
set_option linter.unusedVariables false
set_option linter.unusedSimpArgs false
set_option maxRecDepth 4000
namespace Go.R
def Ex.beq:Ex->Ex->Bool
 | .normal,.normal=>true
 | .exit i,.exit j=>Nat.beq i j
 | .ret,.ret=>true
 |_,_=>false
theorem Ex.eq_of_beq:∀ {a b:Ex},Ex.beq a b=true->a=b
 | .normal,.normal,_=>rfl
 | .exit i,.exit j,h=>by rw[Nat.eq_of_beq_eq_true h]
 | .ret,.ret,_=>rfl
 | .normal,.exit _,h=>by cases h
 | .normal,.ret,h=>by cases h
 | .exit _,.normal,h=>by cases h
 | .exit _,.ret,h=>by cases h
 | .ret,.normal,h=>by cases h
 | .ret,.exit _,h=>by cases h
theorem ew{ds:List Nat}{d:Nat}(hd:d∈ds):∀(c:Code),cN ds c=true->cN [d] c=true
 | .skip,_=>rfl
 | .exit _,_=>rfl
 | .ret,_=>rfl
 | .region _ ops _,h=>by
  simp only[cN,List.all_eq_true]at h⊢;intro o ho;have:=h o ho;cases qR:o.dst with
  |none=>rfl
  |some e=>rw[qR]at this;simp only[Bool.not_eq_true',List.any_eq_false]at this⊢;intro x hx;rw[List.mem_singleton]at hx;subst hx;exact this x hd
 | .seq a b,h=>by simp only[cN,Bool.and_eq_true]at h⊢;exact⟨ew hd a h.1,ew hd b h.2⟩
 | .cond _ a b,h=>by simp only[cN,Bool.and_eq_true]at h⊢;exact⟨ew hd a h.1,ew hd b h.2⟩
 | .block _ b,h=>ew hd b h
 | .loop b,h=>ew hd b h
 | .scope _,h=>by cases h
 | .rangeFunc ..,h=>by cases h
 | .label _,h=>by cases h
 | .goto _,h=>by cases h
 | .refuse _,h=>by cases h
section
variable {R:Type} (P:Program) (E:Env) (Ψ:bR->Option gY) (Λ:Nat->Option ep)
def tC(c:Code)(keep:bK)(ω:aK)(a:Act)(w:World)(kx:fE real (bK.ks keep))(ex:Ex)(t:bK)(y:fE real (bK.ks t)):Exit->Act->World->Prop:=fun e a' w'=>E1 e ex/\∃aI,Rel aI a' w' (mh keep t kx y)/\dK ω w aI w'/\a'.tmps.size=a.tmps.size/\∀j,cN [j] c=true->a'.tmps.getD j undef=a.tmps.getD j undef
def mT(c:Code)(l:ep):Prop:=
  ∀(ω:aK) (a:Act) (w:World) (kx:fE real (bK.ks l.keep)) (x:fE real (bK.ks l.cX)) (q:jz real l.cG), a.tmps.size = E.nt -> Rel ω a w (mh l.keep l.cX kx x) -> jK w ω a l.keep kx ->
    (l.keep.map (·.2)).all Sh.eJ = true -> cN (l.keep.map (·.1)) c = true -> l.fn kx x = some q -> ∃ex t y, (∀ {M:Type} (k:Ex -> (t:bK) -> fE real (bK.ks t) -> M), jz.elim l.cG q k = k ex t y) /\ (Code.loop c).wp P (tC c l.keep ω a w kx ex t y) a w
def di:Nat->Code->List (Nat×Code)
 |n,.loop c=>[(n,c)]
 |n,.seq a b=>di n a++di n b
 |n,.cond _ a b=>di n a++di n b
 |_,.block i b=>di i b
 |_,_=>[]
def ff(l:List (Nat×Code)):Prop:=∀p∈l,∀q,Λ p.1=some q->mT P E p.2 q
variable {P E Ψ Λ}
theorem jc(hE:cm P E)(hC:gJ P E Ψ){U:Nat -> Prop}{r:R}:∀(c:Code) (n:Nat) (ω:aK) (a:Act) (w:World) (s:S) (k:Ex -> S -> Option R), (∀j, U j -> cN [j] c = true) -> ff P E Λ (di n c) -> a.tmps.size = E.nt -> Rel ω a w s ->
    exec E (aO R) (kP Ψ R) (pX Λ R) n c s k = some r -> c.wp P (Post U ω a w k r) a w
  | .skip, n, ω, a, w, s, k, _, _, _, h, hk=>wp_skip ⟨.normal, ω, s, trivial, h, dK.refl _ _, hk, rfl, fun _ _=>rfl⟩
  | .exit i, n, ω, a, w, s, k, _, _, _, h, hk=>wp_exit ⟨.exit i, ω, s, rfl, h, dK.refl _ _, hk, rfl, fun _ _=>rfl⟩
  | .ret, n, ω, a, w, s, k, _, _, _, h, hk=>wp_ret ⟨.ret, ω, s, trivial, h, dK.refl _ _, hk, rfl, fun _ _=>rfl⟩
  | .region id ops d, n, ω, a, w, s, k, hU, _, hn, h, hk=>by
    cases d with
    |true=>refine wk hE.mo hE hC (U:=U) (k:=k .normal) (fun o ho j hj e=>?_) hn h hk (fun aI a' w' s' q1 q2 q3 q4 q5=>⟨.normal, aI, s', trivial, q1, q2, q3, q4, q5⟩);have:=hU j hj;simp only[cN, List.all_eq_true]at this;have:=this o ho;rw[e]at this;simp at this
    |false=>refine wp_region_list (s5 hE hC (U:=U) ops.toList ω a w s (k .normal) _ (fun o ho j hj e=>?_) hn h hk (fun aI a' w' s' q1 q2 q3 q4 q5=>⟨.normal, aI, s', trivial, q1, q2, q3, q4, q5⟩));have:=hU j hj;simp only[cN, List.all_eq_true]at this;have:=this o ho;rw[e]at this;simp at this
  | .seq x y, n, ω, a, w, s, k, hU, hL, hn, h, hk=>by
    have GU:∀j, U j -> cN [j] x = true:=fun j hj=>by have:=hU j hj; simp only[cN, Bool.and_eq_true]at this; exact this.1
    have GV:∀j, U j -> cN [j] y = true:=fun j hj=>by have:=hU j hj; simp only[cN, Bool.and_eq_true]at this; exact this.2
    have h1:=jc hE hC x n ω a w s _ GU (fun p hp=>hL p (List.mem_append.2 (.inl hp))) hn h hk;refine wp_seq (wp_mono h1 fun e a' w' hp=>?_);obtain⟨ex, aI, s', q1, q2, q3, q4, q5, q6⟩:=hp;cases ex with
    |normal=>
      cases e with
      |normal=>refine wp_mono (jc hE hC y n aI a' w' s' k GV (fun p hp=>hL p (List.mem_append.2 (.inr hp))) (q5.trans hn) q2 q4) fun e2 a2 w2 hp2=>?_;obtain⟨GK, bW, s2, t1, t2, t3, t4, t5, t6⟩:=hp2;exact⟨GK, bW, s2, t1, t2, q3.trans t3, t4, t5.trans q5, fun j hj=>(t6 j hj).trans (q6 j hj)⟩
      |_=>cases q1
    |exit i=>
      cases e with
      |exit j=>exact⟨.exit i, aI, s', q1, q2, q3, q4, q5, q6⟩
      |_=>cases q1
    |ret=>
      cases e with
      |ret=>exact⟨.ret, aI, s', q1, q2, q3, q4, q5, q6⟩
      |_=>cases q1
  | .cond c x y, n, ω, a, w, s, k, hU, hL, hn, h, hk=>by
    simp only[exec]at hk;have way:∀b:Bool, a.eval c = .bool b -> (bif b then exec E (aO R) (kP Ψ R) (pX Λ R) n x s k else exec E (aO R) (kP Ψ R) (pX Λ R) n y s k) = some r -> (Code.cond c x y).wp P (Post U ω a w k r) a w:=fun b hv h2'=>by
      cases b with
      |true=>exact wp_cond_true hv (jc hE hC x n ω a w s k (fun j hj=>by have:=hU j hj; simp only[cN, Bool.and_eq_true]at this; exact this.1) (fun p hp=>hL p (List.mem_append.2 (.inl hp))) hn h h2')
      |false=>exact wp_cond_false hv (jc hE hC y n ω a w s k (fun j hj=>by have:=hU j hj; simp only[cN, Bool.and_eq_true]at this; exact this.2) (fun p hp=>hL p (List.mem_append.2 (.inr hp))) hn h h2')
    have A9:=bT h E 4 c;split at hk
    · rename_i tx ty he
      rw[he]at A9;obtain⟨b, hv, hb⟩:=A9;have hk:(bif (show Bool from tx)then(bif ty then exec E (aO R) (kP Ψ R) (pX Λ R) n x s k else exec E (aO R) (kP Ψ R) (pX Λ R) n y s k)else Go.R.both (exec E (aO R) (kP Ψ R) (pX Λ R) n x s k) (exec E (aO R) (kP Ψ R) (pX Λ R) n y s k)) = some r:=hk;revert hk hb;rcases(show ∃c:Bool, c = tx from⟨tx, rfl⟩)with ⟨c', rfl⟩;cases c' with
      |true=>exact fun hb hk=>way b hv (by rw[hb rfl]; exact hk)
      |false=>intro _ hk;obtain⟨k1, k2⟩:=xB hk;exact way b hv (by cases b; exact k2; exact k1)
    · obtain⟨(b:Bool), h1, h2⟩:=aA hk
      exact way b (oV h1 A9) h2
  | .block i c, n, ω, a, w, s, k, hU, hL, hn, h, hk=>by
    have h1:=jc hE hC c i ω a w s _ hU hL hn h hk;refine wp_block (wp_mono h1 fun e a' w' hp=>?_);obtain⟨ex, aI, s', q1, q2, q3, q4, q5, q6⟩:=hp;cases ex with
    |normal=>
      cases e with
      |normal=>exact⟨.normal, aI, s', q1, q2, q3, q4, q5, q6⟩
      |_=>cases q1
    |exit j=>
      cases e with
      |exit j'=>
        have e:j' = j:=q1;subst e;simp only[Exit.inBlock];have lJ:(bif Nat.beq j' i then k .normal s' else k (.exit j') s') = some r:=q4;by_cases hij:j' = i
        · rw[if_pos hij]
          rw[hij, fV]at lJ;exact⟨.normal, aI, s', trivial, q2, q3, lJ, q5, q6⟩
        · rw[if_neg hij]
          rw[k9 hij]at lJ;exact⟨.exit j', aI, s', rfl, q2, q3, lJ, q5, q6⟩
      |_=>cases q1
    |ret=>
      cases e with
      |ret=>exact⟨.ret, aI, s', q1, q2, q3, q4, q5, q6⟩
      |_=>cases q1
  | .loop c, n, ω, a, w, s, k, hU, hL, hn, h, hk=>by
    simp only[exec]at hk;obtain⟨lo, h1, cQ⟩:=aA hk;have hl:∃l, Λ n = some l /\ lo = l.s6 R:=by
      unfold pX at h1;cases hq:Λ n with
      |none=>rw[hq]at h1; cases h1
      |some l=>rw[hq]at h1; exact⟨l, rfl, (Option.some.inj h1).symm⟩
    obtain⟨l, pF, rfl⟩:=hl;cases hb:((l.s6 R).keep.all (fun p=>p.2.eJ)&&cN ((l.s6 R).keep.map (·.1)) c)with
    |false=>rw[hb]at cQ; cases cQ
    |true=>
      rw[hb]at cQ;simp only[cond_true]at cQ;rw[Bool.and_eq_true]at hb;obtain⟨⟨kx, s1⟩, h2, cJ⟩:=aA cQ;obtain⟨⟨x, s2⟩, h3, sO⟩:=aA cJ;have zV:(l.keep.map (·.2)).all Sh.eJ = true:=by rw[List.all_map]; exact hb.1
      obtain⟨bc, g1, g2, g3⟩:=zw (keep:=l.keep) (cX:=l.cX) h zV h2 h3;have wU:((l.fn kx x).bind fun q=>jz.elim l.cG q fun e t y=>k e (mh l.keep t kx y)) = some r:=sO;cases hf:l.fn kx x with
      |none=>rw[hf]at wU; cases wU
      |some q=>rw[hf]at wU;have jG:jz.elim l.cG q (fun e t y=>k e (mh l.keep t kx y)) = some r:=wU;obtain⟨ex, t, y, hel, hw⟩:=hL (n, c) (by simp[di]) l pF bc a w kx x q hn g1 g3 zV hb.2 hf;rw[hel]at jG;refine wp_mono hw fun e a' w' hp=>?_;obtain⟨q1, bW, q2, q3, q4, q5⟩:=hp;exact⟨_, bW, _, q1, q2, g2.trans q3, jG, q4, fun j hj=>q5 j (hU j hj)⟩
  | .scope _, _, _, _, _, _, _, _, _, _, _, hk=>by cases hk
  | .rangeFunc .., _, _, _, _, _, _, _, _, _, _, hk=>by cases hk
  | .label _, _, _, _, _, _, _, _, _, _, _, hk=>by cases hk
  | .goto _, _, _, _, _, _, _, _, _, _, _, hk=>by cases hk
  | .refuse _, _, _, _, _, _, _, _, _, _, _, hk=>by cases hk
abbrev rf:=List (Ex×bK)
def mG:(cG:rf)->Ex->S->Option (jz real cG)
 | [],_,_=>none
 |e::es,ex,s=>bif Ex.beq e.1 ex then(iU e.2 s).map (fun q=>.inl q.1)else(mG es ex s).map .inr
variable (E Ψ Λ)
noncomputable def oT(n:Nat)(c:Code)(keep cX:bK)(cG:rf)(kx:fE real (bK.ks keep))(x:fE real (bK.ks cX)):Option (fE real (bK.ks cX)⊕jz real cG):=
 exec E (aO _) (kP Ψ _) (pX Λ _) n c (mh keep cX kx x) fun ex s=>match ex with
  | .normal=>(iU cX s).map fun q=>.inl q.1
  |ex=>(mG cG ex s).map .inr
variable {E Ψ Λ}
def iter{α β:Type}(body:α->Option (α⊕β)):Nat->α->Option β
 |0,_=>none
 |n+1,x=>match body x with
  |some (.inl y)=>iter body n y
  |some (.inr b)=>some b
  |none=>none
theorem qd:∀ {cG:rf} {ex:Ex} {s:S} {q:jz real cG},mG cG ex s=some q->∃t y s',(∀ {M:Type} (k:Ex->(t:bK)->fE real (bK.ks t)->M),jz.elim cG q k=k ex t y)/\iU t s=some (y,s')
 | [],_,_,_,h=>by cases h
 |e::es,ex,s,q,h=>by
  simp only[mG]at h;cases hb:Ex.beq e.1 ex with
  |true=>
   rw[hb]at h;simp only[cond_true]at h;cases ht:iU e.2 s with
   |none=>rw[ht]at h;cases h
   |some z=>rw[ht]at h;have h:=Option.some.inj h;subst h;have he:=Ex.eq_of_beq hb;subst he;exact⟨e.2,z.1,z.2,fun k=>rfl,ht⟩
  |false=>
   rw[hb]at h;simp only[cond_false]at h;cases hr:mG es ex s with
   |none=>rw[hr]at h;cases h
   |some q'=>rw[hr]at h;have h:=Option.some.inj h;subst h;obtain⟨t,y,s',h1,h2⟩:=qd hr;exact⟨t,y,s',fun k=>h1 k,h2⟩
theorem Ak{p:Nat->Prop}:∀(n:Nat),p n->∃m,p m/\∀k,p k->m<=k:=by
 intro n;induction n using Nat.strongRecOn with
 |_ n ih=>
  intro hn;by_cases h:∃m,m<n/\p m
  ·obtain⟨m,hm,hp⟩:=h;exact ih m hm hp
  ·exact⟨n,hn,fun k hk=>Nat.le_of_not_lt fun hlt=>h ⟨k,hlt,hk⟩⟩
theorem BM (hE:cm P E) (hC:gJ P E Ψ) {n:Nat} {c:Code} {l:ep} (hL:ff P E Λ (di n c)) (fuel:fE real (bK.ks l.keep)->fE real (bK.ks l.cX)->Nat)
  (hf:∀kx x,l.fn kx x=iter (oT E Ψ Λ n c l.keep l.cX l.cG kx) (fuel kx x) x):mT P E c l:=by
 intro ω a w kx x q hn h hk hl hfree hfn;rw[hf]at hfn;have hsel:∀(es:rf) (q:jz real es),∃ex t y,∀ {M:Type} (k:Ex->(t:bK)->fE real (bK.ks t)->M),jz.elim es q k=k ex t y:=by
  intro es;induction es with
  |nil=>intro q;exact Empty.elim q
  |cons e es ih=>
   intro q;cases q with
   |inl y=>exact⟨e.1,e.2,y,fun k=>rfl⟩
   |inr q=>obtain⟨ex,t,y,h⟩:=ih q;exact⟨ex,t,y,fun k=>h k⟩
 obtain⟨E9,t0,y0,DU⟩:=hsel l.cG q;refine⟨E9,t0,y0,DU,?_⟩;let Inv (m:Nat) (a':Act) (w':World):Prop:=∃x' aI,Rel aI a' w' (mh l.keep l.cX kx x')/\dK ω w aI w'/\jK w' aI a' l.keep kx/\a'.tmps.size=a.tmps.size/\(∀j,cN [j] c=true->a'.tmps.getD j undef=a.tmps.getD j undef) /\
  iter (oT E Ψ Λ n c l.keep l.cX l.cG kx) m x'=some q
 have sQ:∀a' w',(∃m,Inv m a' w')->∃m,Inv m a' w'/\∀k,Inv k a' w'->m<=k:=fun a' w' ⟨m,hm⟩=>Ak m hm;have ET:∃μ:Act->World->Nat,∀a' w',(∃m,Inv m a' w')->Inv (μ a' w') a' w'/\∀k,Inv k a' w'->μ a' w'<=k:=by
  classical
  exact⟨fun a' w'=>if h:∃m,Inv m a' w' then Classical.choose (sQ a' w' h)else 0,fun a' w' h=>by show Inv (if h:∃m,Inv m a' w' then Classical.choose (sQ a' w' h)else 0) a' w'/\∀k,Inv k a' w'->(if h:∃m,Inv m a' w' then Classical.choose (sQ a' w' h)else 0)<=k;rw[dif_pos h];exact Classical.choose_spec (sQ a' w' h)⟩
 obtain⟨μ,ET⟩:=ET;refine wp_loop (fun a' w'=>∃m,Inv m a' w') μ ⟨_,x,ω,h,dK.refl _ _,hk,rfl,fun _ _=>rfl,hfn⟩ (fun a1 w1 hI=>?_);obtain⟨hfind,_⟩:=ET a1 w1 hI;obtain⟨x1,bc,h1,e1,k1,FX,GA,BI⟩:=hfind;cases hm:μ a1 w1 with
 |zero=>rw[hm]at BI;cases BI
 |succ m=>
  rw[hm]at BI;simp only[iter]at BI;cases hb:oT E Ψ Λ n c l.keep l.cX l.cG kx x1 with
  |none=>rw[hb]at BI;cases BI
  |some res=>
   rw[hb]at BI;have hwp:=jc hE hC (U:=fun j=>cN [j] c=true) c n bc a1 w1 _ _ (fun j hj=>hj) hL (FX.trans hn) h1 hb;refine wp_mono hwp fun e a2 w2 hp=>?_;obtain⟨ex,bW,s2,t1,t2,t3,t4,t5,t6⟩:=hp;have hsame:∀p∈l.keep,a2.tmps.getD p.1 undef=a1.tmps.getD p.1 undef:=fun p hp=>t6 p.1 (ew (List.mem_map.2 ⟨p,hp,rfl⟩) c hfree);have out:∀DE,(mG l.cG DE s2).map Sum.inr=some res->E1 e DE->tC c l.keep ω a w kx E9 t0 y0 e a2 w2:=by
    intro DE hp hm';cases hq:mG l.cG DE s2 with
    |none=>rw[hq]at hp;cases hp
    |some q'=>
     rw[hq]at hp;have hp:=Option.some.inj hp;subst hp;have Hv:q'=q:=Option.some.inj BI;subst Hv;obtain⟨t,y,s3,z1,z2⟩:=qd hq;have CO:(⟨E9,t0,y0⟩:(_:Ex)×(t:bK)×fE real (bK.ks t))=⟨DE,t,y⟩:=by rw[<-DU (fun e t y=>(⟨e,t,y⟩:(_:Ex)×(t:bK)×fE real (bK.ks t))),z1]
     injection CO with d1 d2
     subst d1;injection d2 with d2 d3
     subst d2;have d3:=eq_of_heq d3;subst d3;obtain⟨oI,g1,g2,g3⟩:=uA t2 hl k1 t3 hsame z2;exact⟨hm',oI,g1,e1.trans (t3.trans g2),t5.trans FX,fun j hj=>(t6 j hj).trans (GA j hj)⟩
   cases ex with
   |normal=>
    cases e with
    |normal=>
     have yR:(iU l.cX s2).map (fun q=>Sum.inl q.1)=some res:=t4;cases ht:iU l.cX s2 with
     |none=>rw[ht]at yR;cases yR
     |some q=>
      obtain⟨x2,s3⟩:=q;rw[ht]at yR;have yR:=Option.some.inj yR;subst yR;obtain⟨oI,g1,g2,g3⟩:=uA t2 hl k1 t3 hsame ht;have hnew:Inv m a2 w2:=⟨x2,oI,g1,e1.trans (t3.trans g2),g3,t5.trans FX,fun j hj=>(t6 j hj).trans (GA j hj),BI⟩
      refine⟨⟨m,hnew⟩,?_⟩;have Hu:μ a2 w2<=m:=(ET a2 w2 ⟨m,hnew⟩).2 m hnew;omega
    |_=>cases t1
   |exit j=>
    cases e with
    |exit j'=>have yR:(mG l.cG (.exit j) s2).map Sum.inr=some res:=t4;exact out (.exit j) yR t1
    |_=>cases t1
   |ret=>
    cases e with
    |ret=>have yR:(mG l.cG .ret s2).map Sum.inr=some res:=t4;exact out .ret yR t1
    |_=>cases t1
end
end Go.R
set_option linter.unusedVariables false
namespace Go.R
def xq(w:World)(ω:aK)(b:Nat)(aP:List Sh)(vs:List (KV real))(v:Value):Prop:=
 match aP with
 | [sh]=>(vs.take sh.ks.length).length=sh.ks.length/\yO w ω b sh (vs.take sh.ks.length) v
 |aW=>∃us:List Value,v=.tuple us.toArray/\fF w ω b aW vs us
def Sh.vals(sh:Sh)(u:Value):List Value:=
 match sh with
 | .one _=>[u]
 | .agg _=>u.cells.toList
 |_=>[]
def cH:List Sh->List Value->List Value
 |sh::aW,u::us=>sh.vals u++cH aW us
 |_,_=>[]
abbrev dr(aW:List Sh):List K:=(aW.map Sh.sB).flatten
def uf:List Cp->List Value->List Value
 | .ro _::r,_::vs=>uf r vs
 | .mu _::r,v::vs=>v::uf r vs
 | .ro _::r,[]=>uf r []
 | .mu _::r,[]=>undef::uf r []
 | [],_=>[]
def Sh.Bk(sh:Sh)(u:Value):List Value:=
 match sh with
 | .blk _=>[u]
 | .py _ aM=>uf aM (match u with| .func _ _ cv=>cv.toList|_=>[])
 |_=>[]
def eu:List Sh->List Value->List Value
 |sh::aW,u::us=>sh.Bk u++eu aW us
 |_,_=>[]
def BX(w':World)(aI:aK)(b:Nat)(look:Bool)(args:List Sh)(us:List Value)(vs:List (KV real)):Prop:=
 (look=true->fg w' aI b (vs.take (dZ look args).length) (pick (dr args) (cH args us))) /\
 fF w' aI (b+(dZ look args).length) ((eD args).map .blk) (vs.drop (dZ look args).length) (eu args us)
structure eK (P:Program) (f:FuncId) (F:gY):Prop where
 there:∃fn c, P.funcs[f]? = some fn /\ (fn.name == "runtime.NumGoroutine") = false /\ fn.body = some c
 calls:∀(w:World) (ω:aK) (us:List Value) (x:fE real ((F.args.map Sh.ks).flatten)) (y:fE real ((F.aP.map Sh.ks).flatten++(dZ F.look F.args++(eD F.args).flatten))),
  H6 w ω->(∀b b' k,ω b=some k->ω b'=some k->b=b')->(∀b k,ω b=some k->b<w.heap.size)->fF w ω 1 F.args (cl _ x) us->F.fn x=some y ->
  Calls P f us.toArray w fun e w'=>∃v aI,e=.returned v/\dK ω w aI w'/\(∀b b' k,aI b=some k->aI b'=some k->b=b')/\(∀b k,aI b=some k->b<w'.heap.size) /\
   xq w' aI (1+aL F.args) F.aP ((cl _ y).take (F.aP.map Sh.ks).flatten.length) v /\
   BX w' aI (1+aL F.args+aL F.aP) F.look F.args us ((cl _ y).drop (F.aP.map Sh.ks).flatten.length)
section
variable {R:Type} {P:Program} {E:Env} {Ψ:bR->Option gY} {ω:aK} {a:Act} {w:World} {s:S} {k:S->Option R} {r:R} {o:Oper} {Q:Exit->Act->World->Prop}
def aK.iv:aK:=fun _=>none
theorem Du{t:Ty}{md:Md}{v:Value}{x:t.T}(h:t.R w ω md v x):t.R w aK.iv .cz v x:=Ty.gH t md v x (fun _ _ _=>rfl) h
theorem zu{s s':S}{id:Nat}(h:s'.ob id=s.ob id)(g hh:Nat)(p:jF):s'.cont id g hh p=s.cont id g hh p:=by unfold St.cont;rw[h]
def Hid(ω:aK)(s1:S)(jI:aK):Prop:=∀b,jI b=none\/∃id p,ω b=some (id,p)/\(s1.ob id).o=.gone
def oN(s s1:S):Prop:=∀i,(s1.ob i).o≠.gone->s1.ob i=s.ob i
variable {s1:S} {jI:aK}
theorem Hid.zy(hh:Hid ω s1 jI){md:Md}(h:∀k,md.has k->(s1.ob k.1).o≠.gone):wH w ω jI md:=by
 intro b _ hk;rcases hh b with hb|⟨id,p,h1,h2⟩
 ·exact hb
 ·rcases hk with hk|⟨k,hk,hm⟩
  ·rw[hk]at h1;cases h1
  ·rw[hk]at h1;injection h1 with h1
   subst h1;exact absurd h2 (h _ hm)
theorem Ar(hS:oN s s1)(hh:Hid ω s1 jI){t:Ty}{l:L}{u:Value}{x:t.T}(hl:cw w ω s u l)(h:my (A:=real) t l s1=some x):t.R w jI .cz u x:=by
 cases l with
 |val tt y=>
  simp only[my]at h;split at h
  ·rename_i hb;obtain rfl:=Ty.eq_of_beq hb;have h:=Option.some.inj h;subst h;exact Ty.gH _ _ _ _ (hh.zy (md:=.cz) fun k (hk:False)=>hk.elim) (show tt.R w ω .cz u y from hl)
  ·cases h
 |eR e cs=>
  simp only[my]at h;split at h
  ·rename_i hb;obtain rfl:=Ty.eq_of_beq hb;have h:=Option.some.inj h;subst h;obtain⟨ad,e1⟩:=hl;exact⟨ad,0,0,e1,rfl,Nat.le_refl _,fun hn=>absurd hn (by omega),fun i _ hi=>absurd hi (by omega)⟩
  ·cases h
 |ref id g qT p=>
  simp only[my]at h;cases hc:s1.cont id g qT p with
  |none=>rw[hc]at h;cases h
  |some c=>
   rw[hc]at h;simp only at h;split at h
   ·rename_i hb;obtain rfl:=Ty.eq_of_beq hb;have h:=Option.some.inj h;subst h;have hg:(s1.ob id).o≠.gone:=fun e=>fO e hc;have dY:s.cont id g qT p=some c:=by rw[<-hc];exact(zu (hS id hg) g qT p).symm
    exact Ty.gH _ _ _ _ (hh.zy fun k hk=>by rw[vT _ _ _ _ hk];exact hg) (hl.2.2 c dY)
   ·cases h
 |_=>cases h
def E2(w:World)(ω:aK)(s:S)(jI:aK)(b:Nat)(k:K)(l:L)(u:Value):Prop:=
 match k with
 | .val _=>True
 | .mp _=>True
 | .arr e cs d=>∀x s2,eE (A:=real) e cs d l s=some (x,s2)->(Ty.sl e cs).R w jI (bj (bif d then 2 else 1) b []) u x
def jL(w:World)(ω:aK)(s:S)(jI:aK):Nat->List K->List L->List Value->Prop
 |b,k::ks,l::ls,u::us=>E2 w ω s jI b k l u/\jL w ω s jI (b+1) ks ls us
 |_,_,_,_=>True
theorem jL.ir{ks Cf:List K}{ls BN:List L}{us yM:List Value}:∀ {b:Nat},ks.length=ls.length->ks.length=us.length->jL w ω s jI b (ks++Cf) (ls++BN) (us++yM)->jL w ω s jI b ks ls us/\jL w ω s jI (b+ks.length) Cf BN yM:=by
 induction ks generalizing ls us with
 |nil=>intro b h1 h2 h;have e1:ls=[]:=List.length_eq_zero_iff.1 h1.symm;have e2:us=[]:=List.length_eq_zero_iff.1 h2.symm;subst e1;subst e2;exact⟨trivial,h⟩
 |cons k ks ih=>
  intro b h1 h2 h;match ls,us,h1,h2,h with
  |l::ls,u::us,h1,h2,h=>obtain⟨q1,q2⟩:=ih (by simpa using h1) (by simpa using h2) h.2;exact⟨⟨h.1,q1⟩,by rw[List.length_cons,show b+(ks.length+1)=b+1+ks.length by omega];exact q2⟩
theorem rQ:∀(cs:aJ) (ls:List L) (us:List Value) (b:Nat),jL w ω s jI b cs.ks ls us
 | .nil,_,_,_=>trivial
 | .cons t ts,[],_,_=>trivial
 | .cons t ts,_::_,[],_=>trivial
 | .cons t ts,_::ls,_::us,b=>⟨trivial,rQ ts ls us (b+1)⟩
theorem mB(hS:oN s s1)(hh:Hid ω s1 jI)(s0:S):∀(ks:List K) (ls:List L) (us:List Value) (vs:List (KV real)) (b:Nat), bi (cw w ω s) us ls -> jL w ω s0 jI b ks ls us -> looks ks ls s0 s1 = some vs -> fg w jI b vs us /\ vs.map (·.1) = ks
  | [], [], us, vs, b, h2, _, h=>by
    have h:=Option.some.inj h;subst h;cases us with
    |nil=>exact⟨trivial, rfl⟩
    |cons _ _=>exact h2.elim
  |k:: ks, l:: ls, [], _, _, h2, _, _=>h2.elim
  |k:: ks, l:: ls, u:: us, vs, b, h2, hL, h=>by
    simp only[looks]at h;cases h1:jf k l s0 s1 with
    |none=>rw[h1]at h; cases h
    |some v=>
      cases h3:looks ks ls s0 s1 with
      |none=>rw[h1, h3]at h; cases h
      |some vs'=>
        rw[h1, h3]at h;have h:=Option.some.inj h;subst h;obtain⟨q1, q2⟩:=mB hS hh s0 ks ls us vs' (b + 1) h2.2 hL.2 h3;cases k with
        |val t=>
          simp only[jf]at h1;cases hx:my (A:=real) t l s1 with
          |none=>rw[hx]at h1; cases h1
          |some x=>rw[hx]at h1;have h1:=Option.some.inj h1;subst h1;exact⟨⟨Ar hS hh h2.1 hx, q1⟩, by simp[q2]⟩
        |arr e cs d=>
          simp only[jf]at h1;cases hx:eE (A:=real) e cs d l s0 with
          |none=>rw[hx]at h1; cases h1
          |some q=>obtain⟨x, s2⟩:=q;rw[hx]at h1;have h1:=Option.some.inj h1;subst h1;exact⟨⟨hL.1 x s2 hx, q1⟩, by simp[q2]⟩
        |mp _=>cases h1
  | [], _:: _, _, _, _, _, _, h=>by cases h
  |_:: _, [], _, _, _, _, _, h=>by cases h
theorem lF(h:Rel ω a w s)(hS:oN s s1)(hh:Hid ω s1 jI){cs:aJ}{c:dc real}{u:Value}{vs:List (KV real)}(hc:gr w ω s u c)(ht:fS cs c s1 = some vs):
    vs.map (·.1) = cs.ks /\ ∃x, jE (A:=real) cs vs = some x /\ iB w jI u cs x 0:=by
  cases c with
  |ro cs' x=>
    simp only[fS]at ht;split at ht
    · rename_i hb
      have:=aJ.eq_of_beq hb;subst this;have ht:=Option.some.inj ht;subst ht;obtain⟨b, o', h1, h2, h3, h4⟩:=hc;have hf:wH w ω jI .cz:=hh.zy (md:=.cz) fun k (hk:False)=>hk.elim;exact⟨sW _ _, x, qI _ _, b, o', hf b h2 (.inl h1), h2, h3, aJ.gH cs' _ _ 0 x (fun _=>hf) h4⟩
    · cases ht
  |ptr id g=>
    simp only[fS]at ht;cases hb:dw s1 id g with
    |none=>rw[hb]at ht; cases ht
    |some ls=>
      rw[hb]at ht;simp only at ht;obtain⟨DC, EH⟩:=cY hb;have hg:(s1.ob id).o ≠ .gone:=by rw[EH]; exact fun e=>by cases e
      have e1:(s.ob id).g = g:=by rw[<- hS id hg]; exact DC
      have e2:(s.ob id).o = .blk ls:=by rw[<- hS id hg]; exact EH
      obtain⟨b', f1, f2⟩:=hc.2 e1 ls e2;obtain⟨b'', arr, T, q1, q2, q3⟩:=h.dx id ls e2;obtain rfl:=h.inj _ _ _ f1 q1;obtain⟨r1, r2⟩:=mB hS hh s1 cs.ks ls arr.toList vs 0 q3 (rQ _ _ _ _) ht;obtain⟨x, x1, x2⟩:=lV cs vs arr.toList 0 r2 r1;have hnone:jI b' = none:=by
        rcases hh b' with hn|⟨id', p', k1, k2⟩
        · exact hn
        · rw[f1]at k1
          injection k1 with k1
          injection k1 with k1 _
          subst k1;exact absurd k2 hg
      refine⟨r2, x, x1, b', 0, hnone, h.dom _ _ f1, f2, x2 0 _ (fun k u hu=>?_)⟩;rw[Nat.zero_add, Nat.zero_add, cell_of_row w b' k arr T (0, 0) q2];simpa using hu
theorem nW(h:Rel ω a w s)(hS:oN s s1)(hh:Hid ω s1 jI):∀(aM:List aJ) (cc:List (dc real)) (cv:List Value) (vs:List (KV real)), bi (fun v c=>gr w ω s v c) cv cc -> fZ aM cc s1 = some vs ->
    vs.map (·.1) = (aM.map aJ.ks).flatten /\ (∀c ∈ dh (A:=real) aM vs, ∃cs x, c = .ro cs x) /\ bi (fun v c=>gr w jI ⟨fun _=>.dead, fun _=>⟨0, 0, .gone⟩⟩ v c) cv (dh (A:=real) aM vs)
  | [], [], cv, vs, h2, ht=>by
    have ht:=Option.some.inj ht;subst ht;cases cv with
    |cons _ _=>exact h2.elim
    |nil=>exact⟨rfl, fun c hc=>absurd hc (by simp[dh]), trivial⟩
  |cs:: aM, c:: cc, [], _, h2, _=>h2.elim
  |cs:: aM, c:: cc, v:: cv, vs, h2, ht=>by
    simp only[fZ]at ht;cases h1:fS cs c s1 with
    |none=>rw[h1]at ht; cases ht
    |some v1=>
      cases h3:fZ aM cc s1 with
      |none=>rw[h1, h3]at ht; cases ht
      |some vs'=>
        rw[h1, h3]at ht;have ht:=Option.some.inj ht;subst ht;obtain⟨t1, x, x1, r1⟩:=lF h hS hh h2.1 h1;obtain⟨t2, q2, r2⟩:=nW h hS hh aM cc cv vs' h2.2 h3;have hlen:v1.length = cs.len:=by rw[<- sV, <- t1]; simp
        have uv:dh (A:=real) (cs:: aM) (v1 ++ vs') = .ro cs x:: dh (A:=real) aM vs':=by simp only[dh];rw[List.take_left' hlen, List.drop_left' hlen, x1]
        rw[uv];refine⟨by simp[t1, t2], fun c hc=>?_, r1, r2⟩;cases hc with
        |head=>exact⟨cs, x, rfl⟩
        |tail _ hm=>exact q2 c hm
  | [], _:: _, _, _, _, ht=>by cases ht
  |_:: _, [], _, _, _, ht=>by cases ht
theorem kF{s0 s1:S}:∀ {ks:List K} {ls:List L} {vs:List (KV real)},looks ks ls s0 s1=some vs->ks.length=ls.length
 | [],[],_,_=>rfl
 | [],_::_,_,h=>by cases h
 |_::_,[],_,h=>by cases h
 |k::ks,l::ls,vs,h=>by
  simp only[looks]at h;cases h1:jf k l s0 s1 with
  |none=>rw[h1]at h;cases h
  |some v=>
   cases h3:looks ks ls s0 s1 with
   |none=>rw[h1,h3]at h;cases h
   |some vs'=>simp[kF h3]
theorem xY(h:Rel ω a w s)(hS:oN s s1)(hh:Hid ω s1 jI){sh:Sh}{tv:ck}{u:Value}{vs:List (KV real)}(b:Nat)(hl:df w ω s u tv)(hL:jL w ω s jI b sh.sB (sh.cells tv) (sh.vals u))(ht:iu sh tv s s1 = some vs):vs.map (·.1) = sh.ks /\ yO w jI b sh vs u:=by
  unfold iu at ht;split at ht
  · rename_i cs id g
    obtain⟨t1, x, x1, r1⟩:=lF h hS hh (c:=.ptr id g) hl ht;exact⟨t1, x, x1, r1⟩
  · rename_i cs cs' x
    obtain⟨t1, x, x1, r1⟩:=lF h hS hh (c:=.ro cs' x) hl ht;exact⟨t1, x, x1, r1⟩
  · rename_i f aM f' cc
    cases hf:Nat.beq f f' with
    |false=>rw[hf]at ht; cases ht
    |true=>rw[hf]at ht;simp only[cond_true]at ht;have he:=Nat.eq_of_beq_eq_true hf;subst he;obtain⟨cv, e1, h2⟩:=hl;obtain⟨t1, q1, r1⟩:=nW h hS hh aM cc cv vs h2 ht;exact⟨t1, cv, e1, r1, q1⟩
  · rename_i kk l
    obtain⟨q1, q2⟩:=mB hS hh s [kk] [l] [u] vs b ⟨hl, trivial⟩ hL ht;match vs, q1 with
    | [v], q1=>exact⟨q2, v, rfl, q1.1⟩
    |_:: _:: _, q1=>exact q1.2.elim
  · rename_i ks ls
    obtain⟨cells, e1, h2⟩:=hl;have hv:(Sh.agg ks).vals u = cells:=by subst e1; simp[Sh.vals, Value.cells]
    have ju:(Sh.agg ks).cells (A:=real) (.agg ls) = ls:=by simp only[Sh.cells]; rw[<- kF ht, Nat.beq_refl]; rfl
    rw[hv, ju]at hL;obtain⟨q1, q2⟩:=mB hS hh s ks ls cells vs b h2 hL ht;exact⟨q2, cells, e1, q1⟩
  · cases ht
theorem mz{sh:Sh}{tv:ck}{u:Value}{vs:List (KV real)}{s0:S}(hl:df w ω s u tv)(ht:iu sh tv s0 s1=some vs):sh.sB.length=(sh.cells tv).length/\bi (cw w ω s) (sh.vals u) (sh.cells tv):=by
 unfold iu at ht;split at ht
 ·exact⟨rfl,trivial⟩
 ·exact⟨rfl,trivial⟩
 ·exact⟨rfl,trivial⟩
 ·exact⟨rfl,hl,trivial⟩
 ·rename_i ks ls;obtain⟨cells,e1,h2⟩:=hl;have hv:(Sh.agg ks).vals u=cells:=by subst e1;simp[Sh.vals,Value.cells]
  have ju:(Sh.agg ks).cells (A:=real) (.agg ls)=ls:=by simp only[Sh.cells];rw[<-kF ht,Nat.beq_refl];rfl
  rw[hv,ju];exact⟨kF ht,h2⟩
 ·cases ht
theorem xy{sh:Sh}(h:(sh.eJ||sh.flat)=true):sh.sB.length=sh.width:=by cases sh <;> first|rfl|cases h
theorem kT:∀ {aW:List Sh} {bY:List ck} {us:List Value} {vs:List (KV real)} {s0:S},bi (df w ω s) us bY->dM aW bY s0 s1=some vs->(dr aW).length=(bG aW bY).length/\bi (cw w ω s) (cH aW us) (bG aW bY)
 | [],[],us,vs,_,h2,ht=>by
  cases us with
  |cons _ _=>exact h2.elim
  |nil=>exact⟨rfl,trivial⟩
 |sh::aW,tv::bY,[],_,_,h2,_=>h2.elim
 |sh::aW,tv::bY,u::us,vs,s0,h2,ht=>by
  simp only[dM]at ht;cases h1:iu sh tv s0 s1 with
  |none=>rw[h1]at ht;cases ht
  |some v=>
   cases h3:dM aW bY s0 s1 with
   |none=>rw[h1,h3]at ht;cases ht
   |some vs'=>obtain⟨q1,q2⟩:=mz h2.1 h1;obtain⟨r1,r2⟩:=kT h2.2 h3;refine⟨?_,q2.ir r2⟩;simp only[dr,List.map_cons,List.flatten_cons,bG,List.length_append]at r1⊢;omega
 | [],_::_,_,_,_,_,ht=>by cases ht
 |_::_,[],_,_,_,_,ht=>by cases ht
theorem pT(h:Rel ω a w s)(hS:oN s s1)(hh:Hid ω s1 jI):∀(aW:List Sh) (bY:List ck) (us:List Value) (vs:List (KV real)) (b:Nat),(aW.all fun sh=>sh.eJ||sh.flat)=true->bi (df w ω s) us bY->jL w ω s jI b (dr aW) (bG aW bY) (cH aW us)->dM aW bY s s1=some vs->fF w jI b aW vs us
 | [],[],us,vs,b,_,h2,_,ht=>by
  have ht:=Option.some.inj ht;subst ht;cases us with
  |cons _ _=>exact h2.elim
  |nil=>exact⟨rfl,rfl⟩
 |sh::aW,tv::bY,[],_,_,_,h2,_,_=>h2.elim
 |sh::aW,tv::bY,u::us,vs,b,hf,h2,hL,ht=>by
  rw[List.all_cons,Bool.and_eq_true]at hf;simp only[dM]at ht;cases h1:iu sh tv s s1 with
  |none=>rw[h1]at ht;cases ht
  |some v=>
   cases h3:dM aW bY s s1 with
   |none=>rw[h1,h3]at ht;cases ht
   |some vs'=>
    rw[h1,h3]at ht;have ht:=Option.some.inj ht;subst ht;obtain⟨c1,c2⟩:=mz h2.1 h1;have c3:=c2.length;obtain⟨l1,l2⟩:=jL.ir (ks:=sh.sB) (Cf:=dr aW) c1 (c1.trans c3.symm) hL;obtain⟨t1,r1⟩:=xY h hS hh b h2.1 l1 h1;have hlen:v.length=sh.ks.length:=by rw[<-t1];simp
    refine⟨by rw[List.take_left' hlen];exact hlen,by rw[List.take_left' hlen];exact r1,?_⟩;rw[List.drop_left' hlen];rw[xy hf.1]at l2;exact pT h hS hh aW bY us vs' _ hf.2 h2.2 l2 h3
 | [],_::_,_,_,_,_,_,_,ht=>by cases ht
 |_::_,[],_,_,_,_,_,_,ht=>by cases ht
end
end Go.R
namespace Go.R
section
variable {R:Type} {P:Program} {E:Env} {Ψ:bR->Option gY} {ω:aK} {a:Act} {w:World} {s:S} {k:S->Option R} {r:R} {o:Oper} {Q:Exit->Act->World->Prop}
def aK.old(bc:aK)(base W:Nat):aK:=fun b=>match bc b with
 |none=>none
 |some (i,p)=>if base<=i/\i<base+W then none else some (i,p)
theorem AF{bc:aK}{base W b:Nat}{k:Key}(h:bc.old base W b=some k):bc b=some k /\ ¬bJ base W k.1:=by
 unfold aK.old at h;split at h
 ·cases h
 ·rename_i i p hb;split at h
  ·cases h
  ·rename_i hn;injection h with h
   subst h;exact⟨hb,hn⟩
theorem AD{bc:aK}{base W b i:Nat}{p:List (Nat×Nat)}(h:bc b=some (i,p))(hn:¬bJ base W i):bc.old base W b=some (i,p):=by unfold aK.old;rw[h];simp only;unfold bJ at hn;rw[if_neg hn]
theorem AE{bc:aK}{base W b:Nat}(h:bc b=none):bc.old base W b=none:=by unfold aK.old;rw[h]
theorem tF{aI bN:aK}{i j:Nat}{v:KV real}{u:Value}(hown:∀b p,b<w.heap.size->aI b=some (i,p)->bN b=some (j,p))(hn:v.1.closed=true\/∀b,b<w.heap.size->aI b=none->bN b=none)(h:Cm w aI i v u):Cm w bN j v u:=by
 obtain⟨kk,x⟩:=v;rcases hn with hc|hn
 ·cases kk with
  |val t=>exact Ty.fQ (fun e cs he=>by subst he;cases hc) h
  |arr e cs dp=>
   cases dp with
   |true=>exact Ty.gj (.sl e cs) (i,[]) (j,[]) u x (fun b r hb hk=>⟨rfl,hown b r hb hk⟩) h
   |false=>
    have hp:cs.plain=true:=by simpa[K.closed] using hc
    obtain⟨ad,n,c,h1,h2,h3,h4,h5⟩:=h;refine⟨ad,n,c,h1,h2,h3,?_,fun k A hk hA=>aJ.fQ cs _ _ _ 0 _ hp (h5 k A hk hA)⟩;rcases h4 with hH|⟨b,arr,q1,q2,q3,q4⟩
    ·exact .inl hH
    ·exact .inr ⟨b,arr,q1,q2,q3,hown b [] (bz q2) q4⟩
  |mp _=>cases hc
 ·cases kk with
  |val t=>exact tG hn h
  |arr e cs dp=>exact vg ⟨hn,hown⟩ h
  |mp kk=>obtain⟨b,es,c,h1,h2,h3,h4⟩:=h;exact⟨b,es,c,hown b [] (bz h3) h1,h2,h3,h4⟩
theorem iC{aI bN:aK}{base B W:Nat}(hown:∀i,bJ B W i->∀b p,b<w.heap.size->aI b=some (i,p)->bN b=some (base+(i-B),p)):∀(vs:List (KV real)) (us:List Value) (b:Nat),B<=b->b+vs.length<=B+W ->
  ((∀v∈vs,v.1.closed=true)\/∀b,b<w.heap.size->aI b=none->bN b=none)->fg w aI b vs us->fg w bN (base+(b-B)) vs us
 | [],[],_,_,_,_,_=>trivial
 | [],_::_,_,_,_,_,h=>h.elim
 |_::_,[],_,_,_,_,h=>h.elim
 |v::vs,u::us,b,h1,h2,hc,h=>by simp only[List.length_cons]at h2;refine⟨tF (hown b (by unfold bJ;omega)) (hc.imp (fun h=>h v (by simp)) id) h.1,?_⟩;have:=iC hown vs us (b+1) (by omega) (by omega) (hc.imp (fun h v' fH=>h v' (by simp[fH])) id) h.2;rwa[show base+(b+1-B)=base+(b-B)+1 by omega]at this
theorem yY {aI bN:aK} {base B W:Nat} (hown:∀i,bJ B W i->∀b p,b<w.heap.size->aI b=some (i,p)->bN b=some (base+(i-B),p)) {sh:Sh} {vs:List (KV real)} {u:Value} {b:Nat} (hf:sh.qi=true) (hl:vs.length=sh.ks.length) (hB:B<=b) (hW:b+sh.width<=B+W)
  (hc:(∀v∈vs,v.1.closed=true)\/∀b,b<w.heap.size->aI b=none->bN b=none) (h:yO w aI b sh vs u):yO w bN (base+(b-B)) sh vs u:=by
 cases sh with
 |one kk=>obtain⟨v,e1,e2⟩:=h;subst e1;exact⟨v,rfl,(iC hown [v] [u] b hB hW hc ⟨e2,trivial⟩).1⟩
 |agg ks=>obtain⟨cells,e1,e2⟩:=h;exact⟨cells,e1,iC hown vs cells b hB (by rw[hl];exact hW) hc e2⟩
 |blk ks=>obtain⟨b',arr,T,e1,e2,e3,e4⟩:=h;have hw:(Sh.blk ks).width=ks.length+1:=rfl;have hl':vs.length=ks.length:=hl;refine⟨b',arr,T,e1,hown b (by unfold bJ;omega) b' [] (bz e3) e2,e3,?_⟩;have:=iC hown vs arr.toList (b+1) (by omega) (by omega) hc e4;rwa[show base+(b+1-B)=base+(b-B)+1 by omega]at this
 |_=>cases hf
theorem mW{aI bN:aK}{base B W:Nat}(hown:∀i,bJ B W i->∀b p,b<w.heap.size->aI b=some (i,p)->bN b=some (base+(i-B),p)):∀(aW:List Sh) (vs:List (KV real)) (us:List Value) (b:Nat),aW.all Sh.qi=true->B<=b->b+aL aW<=B+W ->
  ((∀v∈vs,v.1.closed=true)\/∀b,b<w.heap.size->aI b=none->bN b=none)->fF w aI b aW vs us->fF w bN (base+(b-B)) aW vs us
 | [],_,_,_,_,_,_,_,h=>h
 |_::_,_,[],_,_,_,_,_,h=>h.elim
 |sh::aW,vs,u::us,b,hf,hB,hW,hc,h=>by
  rw[List.all_cons,Bool.and_eq_true]at hf;have hw:aL (sh::aW)=sh.width+aL aW:=by simp[aL]
  obtain⟨r1,r2,r3⟩:=h;refine⟨r1,yY hown hf.1 r1 hB (by omega) (hc.imp (fun h v hv=>h v (List.mem_of_mem_take hv)) id) r2,?_⟩;have:=mW hown aW (vs.drop sh.ks.length) us (b+sh.width) hf.2 (by omega) (by omega) (hc.imp (fun h v hv=>h v (List.mem_of_mem_drop hv)) id) r3;rwa[show base+(b+sh.width-B)=base+(b-B)+sh.width by omega]at this
theorem yZ{w':World}{aI:aK}{s':S}{u:Value}{tv:ck}(h:df w' aI s' u tv):nI w' aI s' u tv.comp:=by
 cases tv with
 |one l=>intro l' e;injection e with e;subst e;exact h
 |agg ls=>exact h
 |nE cs=>intro l' e;injection e with e;subst e;trivial
theorem zx{aW:List Sh}(h:aW.all Sh.flat=true):aW.all Sh.qi=true:=by rw[List.all_eq_true]at h⊢;intro sh hs;have:=h sh hs;cases sh <;> first|rfl|cases this
end
end Go.R
set_option linter.unusedVariables false
namespace Go.R
open Classical
section
variable {R:Type} {P:Program} {E:Env} {Ψ:bR->Option gY} {ω:aK} {a:Act} {w:World} {s:S} {k:S->Option R} {r:R} {o:Oper} {Q:Exit->Act->World->Prop}
structure oK where
 e:Nat
 cs:aJ
 d:Bool
 l:L
 u:Value
 num:Nat
 out:Nat
def bP:List K->List L->List Value->Nat->Nat->List oK
 | .arr e cs d::ks,l::ls,u::us,b,o=>⟨e,cs,d,l,u,b,o⟩::bP ks ls us (b+1) (o+1)
 | .val _::ks,_::ls,_::us,b,o=>bP ks ls us (b+1) o
 | .mp _::ks,_::ls,_::us,b,o=>bP ks ls us (b+1) o
 |_,_,_,_,_=>[]
def ef:L->Option Nat
 | .ref id _ _ []=>some id
 |_=>none
theorem Dm{l:L}{i:Nat}(h:ef l=some i):∃g hh,l=.ref i g hh []:=by
 cases l with
 |ref id g hh p=>
  cases p with
  |nil=>injection h with h;subst h;exact⟨g,hh,rfl⟩
  |cons _ _=>cases h
 |_=>cases h
theorem sK:∀(ks:List K) (ls:List L) (us:List Value) (b o:Nat),bi (cw w ω s) us ls->∀t∈bP ks ls us b o,cw w ω s t.u t.l
 | [],_,_,_,_,_,t,ht=>by simp[bP]at ht
 | .arr .. :: _,[],_,_,_,_,t,ht=>by simp[bP]at ht
 | .val _::_,[],_,_,_,_,t,ht=>by simp[bP]at ht
 | .mp _::_,[],_,_,_,_,t,ht=>by simp[bP]at ht
 | .arr .. :: _,_::_,[],_,_,_,t,ht=>by simp[bP]at ht
 | .val _::_,_::_,[],_,_,_,t,ht=>by simp[bP]at ht
 | .mp _::_,_::_,[],_,_,_,t,ht=>by simp[bP]at ht
 | .arr e cs d::ks,l::ls,u::us,b,o,h,t,ht=>by
  simp only[bP,List.mem_cons]at ht;rcases ht with rfl|ht
  ·exact h.1
  ·exact sK ks ls us _ _ h.2 t ht
 | .val _::ks,l::ls,u::us,b,o,h,t,ht=>sK ks ls us _ _ h.2 t ht
 | .mp _::ks,l::ls,u::us,b,o,h,t,ht=>sK ks ls us _ _ h.2 t ht
theorem l7:∀(ks:List K) (ls:List L) (us:List Value) (b o:Nat),(∀t∈bP ks ls us b o,b<=t.num/\t.num<b+ks.length/\o<=t.out)/\(bP ks ls us b o).Pairwise fun t t'=>t.num<t'.num/\t.out<t'.out
 | [],_,_,_,_=>⟨fun t ht=>by simp[bP]at ht,by simp[bP]⟩
 | .arr .. :: _,[],_,_,_=>⟨fun t ht=>by simp[bP]at ht,by simp[bP]⟩
 | .val _::_,[],_,_,_=>⟨fun t ht=>by simp[bP]at ht,by simp[bP]⟩
 | .mp _::_,[],_,_,_=>⟨fun t ht=>by simp[bP]at ht,by simp[bP]⟩
 | .arr .. :: _,_::_,[],_,_=>⟨fun t ht=>by simp[bP]at ht,by simp[bP]⟩
 | .val _::_,_::_,[],_,_=>⟨fun t ht=>by simp[bP]at ht,by simp[bP]⟩
 | .mp _::_,_::_,[],_,_=>⟨fun t ht=>by simp[bP]at ht,by simp[bP]⟩
 | .arr e cs d::ks,l::ls,u::us,b,o=>by
  obtain⟨h1,h2⟩:=l7 ks ls us (b+1) (o+1);refine⟨fun t ht=>?_,?_⟩
  ·simp only[bP,List.mem_cons]at ht;rcases ht with rfl|ht
   ·simp
   ·have:=h1 t ht;simp only[List.length_cons];omega
  ·simp only[bP];refine List.Pairwise.cons (fun t ht=>?_) h2;have:=h1 t ht;exact⟨by show b<t.num;omega,by show o<t.out;omega⟩
 | .val _::ks,l::ls,u::us,b,o=>by obtain⟨h1,h2⟩:=l7 ks ls us (b+1) o;refine⟨fun t ht=>?_,h2⟩;have:=h1 t ht;simp only[List.length_cons];omega
 | .mp _::ks,l::ls,u::us,b,o=>by obtain⟨h1,h2⟩:=l7 ks ls us (b+1) o;refine⟨fun t ht=>?_,h2⟩;have:=h1 t ht;simp only[List.length_cons];omega
theorem dO{α:Type}{R:α->α->Prop}:∀ {l:List α},l.Pairwise R->∀x∈l,∀y∈l,x=y\/R x y\/R y x
 | [],_,x,hx,_,_=>by cases hx
 |z::l,h,x,hx,y,hy=>by
  rw[List.pairwise_cons]at h;rcases List.mem_cons.1 hx with e|hx' <;> rcases List.mem_cons.1 hy with e'|hy'
  ·exact .inl (e.trans e'.symm)
  ·exact .inr (.inl (by rw[e];exact h.1 y hy'))
  ·exact .inr (.inr (by rw[e'];exact h.1 x hx'))
  ·exact dO h.2 x hx' y hy'
structure F1 (s:S) (t:oK):Prop where
 HP:1<=t.cs.len
 was:(∃e' cs',t.l=.eR e' cs'/\ef t.l=none)\/∃id g hh dp x,t.l=.ref id g hh []/\g=(s.ob id).g/\(s.ob id).o=.arr t.e t.cs dp x/\(dp=t.d\/t.cs.plain=true)
theorem zf{e:Nat}{cs:aJ}{deep:Bool}{l:L}{x:List cs.T}{s1:S}(ht:eE (A:=real) e cs deep l s=some (x,s1)):
  (s1=s/\x=[]/\∃e' cs',l=.eR e' cs')\/∃id g hh dp,l=.ref id g hh []/\g=(s.ob id).g/\(s.ob id).o=.arr e cs dp x/\s1=s.bM id true .gone/\(dp=deep\/cs.plain=true):=by
 cases l with
 |eR e' cs'=>
  simp only[eE]at ht;split at ht
  ·rename_i hb;have:=Ty.eq_of_beq hb;injection this with e1 e2
   subst e1;subst e2;injection ht with ht
   injection ht with h1 h2
   exact .inl ⟨h2.symm,h1.symm,_,_,rfl⟩
  ·cases ht
 |ref id g hh p=>
  cases p with
  |cons _ _=>cases ht
  |nil=>
   simp only[eE]at ht;cases hg:Nat.beq (s.ob id).g g with
   |false=>rw[hg]at ht;cases ht
   |true=>
    rw[hg]at ht;simp only[cond_true]at ht;have hge:=Nat.eq_of_beq_eq_true hg;cases bX:(s.ob id).o with
    |arr e' cs' dp y=>
     rw[bX]at ht;simp only at ht;cases hd:(dp==deep||cs'.plain)with
     |false=>rw[hd]at ht;cases ht
     |true=>
      rw[hd]at ht;simp only[cond_true]at ht;split at ht
      ·rename_i hb;have:=Ty.eq_of_beq hb;injection this with e1 e2
       subst e1;subst e2;have ht:=Option.some.inj ht;injection ht with h1 h2
       have h1:y=x:=h1;subst h1;refine .inr ⟨id,g,hh,dp,rfl,hge.symm,bX,h2.symm,?_⟩;rw[Bool.or_eq_true,beq_iff_eq]at hd;exact hd
      ·cases ht
    |cz _ _ _=>rw[bX]at ht;cases ht
    |blk _=>rw[bX]at ht;cases ht
    |gone=>rw[bX]at ht;cases ht
    |mp _ _=>rw[bX]at ht;cases ht
 |_=>cases ht
theorem lC:∀(ks:List K) (ls:List L) (us:List Value) (b o:Nat) (s' s1:S),ls.length=us.length->jv ks ls s'=some s1 ->
  (∀t∈bP ks ls us b o,F1 s' t)/\(∀i,(∀t∈bP ks ls us b o,ef t.l≠some i)->s1.ob i=s'.ob i) /\
  (∀t∈bP ks ls us b o,∀i,ef t.l=some i->(s'.ob i).o≠.gone/\s1.ob i=⟨(s'.ob i).g,(s'.ob i).h+1,.gone⟩) /\
  (bP ks ls us b o).Pairwise (fun t t'=>∀i,ef t.l=some i->ef t'.l≠some i)/\s1.sl=s'.sl
 | [],[],us,b,o,s',s1,_,h=>by
  injection h with h
  subst h;exact⟨fun t ht=>by simp[bP]at ht,fun i _=>rfl,fun t ht=>by simp[bP]at ht,by simp[bP],rfl⟩
 | [],_::_,_,_,_,_,_,_,h=>by cases h
 |_::_,[],_,_,_,_,_,_,h=>by cases h
 |k::ks,l::ls,[],_,_,_,_,hl,_=>by cases hl
 | .val t::ks,l::ls,u::us,b,o,s',s1,hl,h=>lC ks ls us (b+1) o s' s1 (by simpa using hl) h
 | .arr e cs d::ks,l::ls,u::us,b,o,s',s1,hl,h=>by
  simp only[jv,jW]at h;cases hf:Nat.ble 1 cs.len with
  |false=>rw[hf]at h;cases h
  |true=>
   rw[hf]at h;simp only[cond_true]at h;cases ha:eE (A:=real) e cs d l s' with
   |none=>rw[ha]at h;cases h
   |some q=>
    obtain⟨x,s2⟩:=q;rw[ha]at h;simp only[Option.map_some]at h;obtain⟨h1,h2,h3,h4,h5⟩:=lC ks ls us (b+1) (o+1) s2 s1 (by simpa using hl) h;have xN:1<=cs.len:=Nat.le_of_ble_eq_true hf;rcases zf ha with ⟨e1,e2,e',cs',e3⟩|⟨id,g,hh,dp,e1,e2,e3,e4,e5⟩
    ·subst e1;subst e3;refine⟨fun t ht=>?_,fun i hi=>?_,fun t ht i hi=>?_,?_,h5⟩
     ·simp only[bP,List.mem_cons]at ht;rcases ht with rfl|ht
      ·exact⟨xN,.inl ⟨e',cs',rfl,rfl⟩⟩
      ·exact h1 t ht
     ·exact h2 i fun t ht=>hi t (by simp only[bP,List.mem_cons];exact .inr ht)
     ·simp only[bP,List.mem_cons]at ht;rcases ht with rfl|ht
      ·cases hi
      ·exact h3 t ht i hi
     ·simp only[bP];exact List.Pairwise.cons (fun t ht i hi=>by cases hi) h4
    ·subst e1;subst e4;have hne:∀t∈bP ks ls us (b+1) (o+1),ef t.l≠some id:=by intro t ht hi;have:=(h3 t ht id hi).1;rw[St.aU]at this;exact this rfl
     refine⟨fun t ht=>?_,fun i hi=>?_,fun t ht i hi=>?_,?_,h5⟩
     ·simp only[bP,List.mem_cons]at ht;rcases ht with rfl|ht
      ·exact⟨xN,.inr ⟨id,g,hh,dp,x,rfl,e2,e3,e5⟩⟩
      ·obtain⟨q1,q2⟩:=h1 t ht;refine⟨q1,q2.imp (fun q=>q) fun q=>?_⟩;obtain⟨id',g',qT,B6,x',r1,r2,r3,r4⟩:=q;have:id'≠id:=fun e=>hne t ht (by rw[r1,e];rfl);rw[St.br _ _ _ this]at r2 r3;exact⟨id',g',qT,B6,x',r1,r2,r3,r4⟩
     ·have ee:i≠id:=fun e0=>hi ⟨e,cs,d,.ref id g hh [],u,b,o⟩ (by simp[bP]) (by rw[e0];rfl);rw[h2 i fun t ht=>hi t (by simp only[bP,List.mem_cons];exact .inr ht),St.br _ _ _ ee]
     ·simp only[bP,List.mem_cons]at ht;rcases ht with rfl|ht
      ·have hi':id=i:=by injection hi
       subst hi';rw[h2 id hne,St.aU];exact⟨by rw[e3];exact fun e=>(by cases e),rfl⟩
      ·have ee:i≠id:=fun e=>hne t ht (by rw[hi,e]);have:=h3 t ht i hi;rw[St.br _ _ _ ee]at this;exact this
     ·simp only[bP];exact List.Pairwise.cons (fun t ht i hi=>(by injection hi with hi;subst hi;exact hne t ht)) h4
theorem vr{w':World}{aI:aK}:∀(ks:List K) (ls:List L) (us:List Value) (vs:List (KV real)) (b o:Nat) (s1 s2:S), ls.length = us.length -> ks.length = ls.length -> iD ks ls vs s1 = some s2 -> vs.map (·.1) = ks.filter K.kS -> fg w' aI o vs (pick ks us) ->
    (bP ks ls us b o).Pairwise (fun t t'=>∀i, ef t.l = some i -> ef t'.l ≠ some i) ->
    (∀i, (∀t ∈ bP ks ls us b o, ef t.l ≠ some i) -> s2.ob i = s1.ob i) /\ s2.sl = s1.sl /\
    ∀t ∈ bP ks ls us b o, ∃x':List t.cs.T, (Ty.sl t.e t.cs).R w' aI (bj (bif t.d then 2 else 1) t.out []) t.u x' /\ ∀i, ef t.l = some i -> s2.ob i = ⟨(s1.ob i).g, (s1.ob i).h + 1, .arr t.e t.cs t.d x'⟩:=by
  intro ks;induction ks with
  |nil=>
    intro ls us vs b o s1 s2 hl hk h _ _ _;have e1:ls = []:=List.length_eq_zero_iff.1 hk.symm;subst e1;cases vs with
    |nil=>injection h with h; subst h; exact⟨fun _ _=>rfl, rfl, fun t ht=>by simp[bP]at ht⟩
    |cons _ _=>cases h
  |cons k ks ih=>
    intro ls us vs b o s1 s2 hl hk h hks hr hp;match ls, us, hl, hk, h, hr, hp with
    |l:: ls, u:: us, hl, hk, h, hr, hp=>
      have hl':ls.length = us.length:=by simpa using hl
      have hk':ks.length = ls.length:=by simpa using hk
      cases k with
      |val t=>exact ih ls us vs (b + 1) o s1 s2 hl' hk' h hks hr hp
      |mp _=>cases l <;> cases vs <;> cases h
      |arr e cs d=>
        match vs, hks, hr, h with
        | [], hks, _, _=>simp[K.kS]at hks
        |⟨kk, x⟩:: vs, hks, hr, h=>
          simp only[List.map_cons, List.filter_cons, K.kS, if_true, List.cons.injEq]at hks;obtain⟨hkk, hks⟩:=hks;subst hkk;have BC:(Ty.sl e cs).R w' aI (bj (bif d then 2 else 1) o []) u x:=hr.1;have rM:fg w' aI (o + 1) vs (pick ks us):=hr.2;simp only[bP]at hp;rw[List.pairwise_cons]at hp;have rest:∀s1', iD ks ls vs s1' = some s2 -> (∀i, ef l ≠ some i -> s1'.ob i = s1.ob i) -> s1'.sl = s1.sl -> (∀i, ef l = some i -> s1'.ob i = ⟨(s1.ob i).g, (s1.ob i).h + 1, .arr e cs d x⟩) ->
              (∀i, (∀t ∈ bP (.arr e cs d:: ks) (l:: ls) (u:: us) b o, ef t.l ≠ some i) -> s2.ob i = s1.ob i) /\ s2.sl = s1.sl /\
              ∀t ∈ bP (.arr e cs d:: ks) (l:: ls) (u:: us) b o, ∃x':List t.cs.T, (Ty.sl t.e t.cs).R w' aI (bj (bif t.d then 2 else 1) t.out []) t.u x' /\ ∀i, ef t.l = some i -> s2.ob i = ⟨(s1.ob i).g, (s1.ob i).h + 1, .arr t.e t.cs t.d x'⟩:=by
            intro s1' hb h1 h2 h3;obtain⟨q1, q2, q3⟩:=ih ls us vs (b + 1) (o + 1) s1' s2 hl' hk' hb hks rM hp.2;refine⟨fun i hi=>?_, q2.trans h2, fun t ht=>?_⟩
            · rw[q1 i fun t ht=>hi t (by simp only[bP, List.mem_cons]; exact .inr ht)]
              exact h1 i (hi ⟨e, cs, d, l, u, b, o⟩ (by simp[bP]))
            · simp only[bP, List.mem_cons]at ht
              rcases ht with rfl|ht
              · refine⟨x, BC, fun i hi=>?_⟩
                rw[q1 i fun t ht=>hp.1 t ht i hi, h3 i hi]
              · obtain⟨x', z1, z2⟩:=q3 t ht
                refine⟨x', z1, fun i hi=>?_⟩;rw[z2 i hi, h1 i fun e=>hp.1 t ht i e hi]
          cases l with
          |eR e' cs'=>exact rest s1 h (fun _ _=>rfl) rfl (fun i hi=>by cases hi)
          |ref id g hh p=>
            cases p with
            |nil=>
              refine rest (s1.bM id true (.arr e cs d x)) h (fun i hi=>St.br _ _ _ fun e=>hi (by rw[e]; rfl)) rfl (fun i hi=>?_);injection hi with hi
              subst hi;rw[St.aU];rfl
            |cons _ _=>cases h
          |_=>cases h
    | [], _, _, hk, _, _, _=>simp at hk
    |_:: _, [], hl, _, _, _, _=>simp at hl
end
end Go.R
set_option linter.unusedVariables false
namespace Go.R
open Classical
section
variable {R:Type} {P:Program} {E:Env} {Ψ:bR->Option gY} {ω:aK} {a:Act} {w:World} {s:S} {k:S->Option R} {r:R} {o:Oper} {Q:Exit->Act->World->Prop}
theorem r8 {w':World} {aI bN:aK} {aP:List Sh} {vs:List (KV real)} {base B:Nat} {v:Value} (rL:aP.all Sh.qi = true) (hks:vs.map (·.1) = (aP.map Sh.ks).flatten)
    (hown:∀i, bJ B (aL aP) i -> ∀b p, b<w'.heap.size -> aI b = some (i, p) -> bN b = some (base + (i-B), p)) (hc:(∀v ∈ vs, v.1.closed = true) \/ ∀b, b<w'.heap.size -> aI b = none -> bN b = none) (hr:xq w' aI B aP vs v):
    ∃us, fF w' bN base aP vs us /\ ∀s'':S, ∀bY:List ck, bi (df w' bN s'') us bY -> df w' bN s'' v (TV.mC bY):=by
  have gen:∀us:List Value, v = .tuple us.toArray -> fF w' aI B aP vs us -> aP.length ≠ 1 -> ∃us, fF w' bN base aP vs us /\ ∀s'':S, ∀bY:List ck, bi (df w' bN s'') us bY -> df w' bN s'' v (TV.mC bY):=by
    intro us e1 e2 hne;have hn:=mW hown aP vs us B rL (Nat.le_refl _) (Nat.le_refl _) hc e2;rw[Nat.sub_self, Nat.add_zero]at hn;refine⟨us, hn, fun s'' bY h2=>?_⟩;have hlen:us.length = aP.length:=by
      have:∀(aP:List Sh) (vs:List (KV real)) (us:List Value) (b:Nat), fF w' aI b aP vs us -> us.length = aP.length:=by
        intro aP;induction aP with
        |nil=>intro vs us b h; rw[h.2]; rfl
        |cons sh aP ih=>
          intro vs us b h;cases us with
          |nil=>exact h.elim
          |cons u us=>simp[ih _ _ _ h.2.2]
      exact this aP vs us B e2
    have vO:=h2.length;have D5:TV.mC bY = .nE (bY.map TV.comp):=by
      match bY, vO with
      | [], _=>rfl
      | [t], vO=>exfalso; apply hne; rw[<- hlen, vO]; rfl
      |_:: _:: _, _=>rfl
    rw[D5];refine⟨us, e1, ?_⟩;have key:∀(us:List Value) (bY:List ck), bi (df w' bN s'') us bY -> bi (nI w' bN s'') us (bY.map TV.comp):=by
      intro us;induction us with
      |nil=>intro bY h2; cases bY with|nil=>trivial|cons _ _=>exact h2.elim
      |cons u us ih=>
        intro bY h2;cases bY with
        |nil=>exact h2.elim
        |cons t bY=>exact⟨yZ h2.1, ih bY h2.2⟩
    exact key us bY h2
  match aP, hr, gen, rL, hown, hks with
  | [], hr, gen, _, _, _=>obtain⟨us, e1, e2⟩:=hr; exact gen us e1 e2 (by simp)
  |_:: _:: _, hr, gen, _, _, _=>obtain⟨us, e1, e2⟩:=hr; exact gen us e1 e2 (by simp)
  | [sh], hr, _, rL, hown, hks=>
    obtain⟨e1, e2⟩:=hr;have hvl:vs.length = sh.ks.length:=by have:=congrArg List.length hks;simpa using this
    have EH:fF w' aI B [sh] vs [v]:=⟨e1, e2, by rw[<- hvl]; simp, rfl⟩
    have hn:=mW hown [sh] vs [v] B rL (Nat.le_refl _) (Nat.le_refl _) hc EH;rw[Nat.sub_self, Nat.add_zero]at hn;refine⟨[v], hn, fun s'' bY h2=>?_⟩;match bY, h2 with
    | [t], h2=>exact h2.1
    |_:: _:: _, h2=>exact h2.2.elim
def vf(w:World)(ω:aK)(t:oK)(i:Nat):Prop:=∃b arr n c,t.u=.slice (some ⟨b,0,none⟩) n c/\w.heap[b]? = some (.cells arr t.e (0,0))/\arr.size=c*t.cs.len/\ω b=some (i,[])
def js(w:World)(ω:aK)(t:oK)(i:Nat):Prop:=ef t.l=some i/\vf w ω t i
noncomputable def aK.gC(w:World)(ω:aK)(es:List oK):aK:=fun b=>match ω b with
 |none=>none
 |some (i,p)=>match es.find? (fun t=>decide (js w ω t i))with
  |some t=>some (t.num,p)
  |none=>none
noncomputable def aK.fJ(w:World)(ω aI:aK)(es:List oK)(base B W:Nat):aK:=fun b=>match aI b with
 |none=>match aK.gC w ω es b with
  |none=>ω.old base W b
  |some _=>none
 |some (j,p)=>if B<=j/\j<B+W then some (base+(j-B),p)else
  match es.find? (fun t=>decide (t.out=j/\∃i,js w ω t i))with
  |some t=>match ef t.l with
   |some i=>if base<=i/\i<base+W then none else some (i,p)
   |none=>none
  |none=>none
theorem iM{es:List oK}{b:Nat}{k:Key}(h:aK.gC w ω es b=some k):∃t∈es,∃i,js w ω t i/\k.1=t.num/\ω b=some (i,k.2):=by
 unfold aK.gC at h;split at h
 ·cases h
 ·rename_i i p hb;split at h
  ·rename_i t ht;injection h with h
   subst h;have h1:=List.find?_some ht;exact⟨t,List.mem_of_find?_eq_some ht,i,of_decide_eq_true h1,rfl,hb⟩
  ·cases h
structure oJ (es:List oK):Prop where
 ids:es.Pairwise fun t t'=>∀i,ef t.l=some i->ef t'.l≠some i
 Eo:es.Pairwise fun t t'=>t.num<t'.num/\t.out<t'.out
theorem oJ.id{es:List oK}(h:oJ es){t t':oK}{i:Nat}(ht:t∈es)(ht':t'∈es)(h1:ef t.l=some i)(h2:ef t'.l=some i):t=t':=by
 rcases dO h.ids t ht t' ht' with e|e|e
 ·exact e
 ·exact absurd h2 (e i h1)
 ·exact absurd h1 (e i h2)
theorem oJ.num{es:List oK}(h:oJ es){t t':oK}(ht:t∈es)(ht':t'∈es)(h1:t.num=t'.num):t=t':=by
 rcases dO h.Eo t ht t' ht' with e|e|e
 ·exact e
 ·have:=e.1;omega
 ·have:=e.1;omega
theorem oJ.out{es:List oK}(h:oJ es){t t':oK}(ht:t∈es)(ht':t'∈es)(h1:t.out=t'.out):t=t':=by
 rcases dO h.Eo t ht t' ht' with e|e|e
 ·exact e
 ·have:=e.2;omega
 ·have:=e.2;omega
theorem nk{es:List oK}(hd:oJ es){t:oK}(ht:t∈es){i b:Nat}{p:List (Nat×Nat)}(hT:js w ω t i)(hb:ω b=some (i,p)):aK.gC w ω es b=some (t.num,p):=by
 unfold aK.gC;rw[hb];simp only;cases hf:es.find? (fun t=>decide (js w ω t i))with
 |none=>have:=List.find?_eq_none.1 hf t ht;exact absurd (decide_eq_true hT) this
 |some t'=>have h0:=List.find?_some hf;have h1:=of_decide_eq_true h0;have h2:=List.mem_of_find?_eq_some hf;rw[hd.id ht h2 hT.1 h1.1]
theorem Ao{es:List oK}(hd:oJ es)(hi:∀b b' k,ω b=some k->ω b'=some k->b=b')(b b':Nat)(k:Key)(h1:aK.gC w ω es b=some k)(h2:aK.gC w ω es b'=some k):b=b':=by
 obtain⟨t,t1,i,t2,t3,t4⟩:=iM h1;obtain⟨t',FY,i',HF,HG,yR⟩:=iM h2;have:=hd.num t1 FY (t3.symm.trans HG);subst this;have Fl:i=i':=by have:=t2.1;rw[HF.1]at this;injection this with this;exact this.symm
 subst Fl;exact hi b b' _ t4 yR
theorem Am{es:List oK}(hd:∀b k,ω b=some k->b<w.heap.size)(b:Nat)(k:Key)(h:aK.gC w ω es b=some k):b<w.heap.size:=by obtain⟨_,_,_,_,_,h4⟩:=iM h;exact hd b _ h4
theorem An{es:List oK}{s1:S}(h3:∀t∈es,∀i,ef t.l=some i->(s1.ob i).o=.gone):Hid ω s1 (aK.gC w ω es):=by
 intro b;cases h:aK.gC w ω es b with
 |none=>exact .inl rfl
 |some k=>obtain⟨t,t1,i,t2,t3,t4⟩:=iM h;exact .inr ⟨i,k.2,t4,h3 t t1 i t2.1⟩
theorem EV(d:Bool)(i:Nat):bj (bif d then 2 else 1) i []=.flat (i,[])\/bj (bif d then 2 else 1) i []=.deep (i,[]):=by
 cases d
 ·exact .inl rfl
 ·exact .inr rfl
theorem mP{w:World}{ω:aK}{d:Bool}{i e m n c:Nat}{ad:Option Addr}(h:Hd w ω e m (bj (bif d then 2 else 1) i []) ad n c):(c=0/\n=0)\/∃b arr,ad=some ⟨b,0,none⟩/\w.heap[b]? = some (.cells arr e (0,0))/\arr.size=c*m/\ω b=some (i,[]):=by cases d <;> exact h
theorem BK {w':World} {bN:aK} {s3:S} {t:oK} {id g hh:Nat} {dp:Bool} {x x':List t.cs.T} (h:Rel ω a w s) (hW:t.l=.ref id g hh []) (hg:g=(s.ob id).g) (ho:(s.ob id).o=.arr t.e t.cs dp x) (xN:1<=t.cs.len) (Bb:dp=t.d\/t.cs.plain=true)
  (hR:cw w ω s t.u t.l) (CB:(s3.ob id).g=(s.ob id).g) (HQ:(s.ob id).h<(s3.ob id).h) (EK:(s3.ob id).o=.arr t.e t.cs t.d x') (hx:(Ty.sl t.e t.cs).R w' bN (bj (bif t.d then 2 else 1) id []) t.u x')
  (hno:¬vf w ω t id->w.heap.size<=w'.heap.size/\∀b p,ω b=some (id,p)->w'.heap[b]? = w.heap[b]? /\ bN b=ω b):Tr w ω s w' bN s3 id:=by
 have hc0:s.cont id g hh []=some ⟨t.e,t.cs,x,bif dp then 2 else 1⟩:=cr ho hg;have hu:(Ty.sl t.e t.cs).R w ω (bj (bif t.d then 2 else 1) id []) t.u x:=by rw[hW]at hR;exact eY Bb (hR.2.2 _ hc0)
 have key:∀v,(Ty.sl t.e t.cs).R w ω (bj (bif t.d then 2 else 1) id []) v x->(Ty.sl t.e t.cs).R w' bN (bj (bif t.d then 2 else 1) id []) v x':=by
  intro v hv;obtain⟨ad,n,c,e1,e2,e3,e4,e5⟩:=hv;obtain⟨xw,n',c',f1,f2,f3,f4,f5⟩:=hu;obtain⟨E3,Hz,E5,g1,g2,g3,g4,g5⟩:=hx;have hn:n'=n:=by rw[<-f2,<-e2]
  have hsame:E3=xw/\Hz=n'/\E5=c':=by rw[f1]at g1;injection g1 with z1 z2 z3;exact⟨z1.symm,z2.symm,z3.symm⟩
  obtain⟨s1,s2,EX⟩:=hsame;subst s1;subst s2;subst EX;rcases mP e4 with ⟨q1,q2⟩|⟨b,arr,q1,q2,q3,q4⟩
  ·subst q1;subst q2;have hx0:x'=[]:=by
    have:x'.length=0:=by rw[g2,hn]
    exact List.length_eq_zero_iff.1 this
   subst hx0;subst e1;exact lW
  ·by_cases hb:vf w ω t id
   ·obtain⟨b',bS,n0,c0,k1,k2,k3,k4⟩:=hb;have Ff:b=b':=h.inj _ _ _ q4 k4;subst Ff;rw[q2]at k2;injection k2 with k2
    injection k2 with k2
    subst k2;rw[f1]at k1;injection k1 with z1 z2 z3
    subst z1;subst z2;subst z3;have GW:c=E5:=Nat.eq_of_mul_eq_mul_right xN (q3.symm.trans k3);subst GW;subst q1;have hv:v=t.u:=by rw[e1,f1,hn]
    rw[hv];exact⟨_,_,_,f1,g2,g3,g4,g5⟩
   ·-- it has no block of its own: it is empty
    rcases mP f4 with ⟨z1,z2⟩|⟨b',bS,z1,z2,z3,z4⟩
    ·have D2:n=0:=by rw[<-hn];exact z2
     have hx0:x'=[]:=by
      have:x'.length=0:=by rw[g2];exact z2
      exact List.length_eq_zero_iff.1 this
     subst hx0;obtain⟨hsz,hkeep⟩:=hno hb;obtain⟨m1,m2⟩:=hkeep b [] q4;refine⟨ad,n,c,e1,by rw[D2];rfl,e3,?_,fun i A hi _=>absurd hi (by omega)⟩;have:(c=0/\n=0)\/∃b arr,ad=some ⟨b,0,none⟩/\w'.heap[b]? = some (.cells arr t.e (0,0))/\arr.size=c*t.cs.len/\bN b=some (id,[]):=.inr ⟨b,arr,q1,m1.trans q2,q3,m2.trans q4⟩;cases t.d <;> exact this
    ·exact absurd ⟨b',bS,_,_,by rw[f1,z1],z2,z3,z4⟩ hb
 have wS:∀g0 h0 p c,g0<=(s.ob id).g->h0<=(s.ob id).h+(if g0=(s.ob id).g then 0 else h0)->s3.cont id g0 h0 p=some c->p=[]/\g0=(s.ob id).g/\c=⟨t.e,t.cs,x',bif t.d then 2 else 1⟩:=by
  intro g0 h0 p c HS DY hc;have CI:g0=(s.ob id).g:=by
   unfold St.cont at hc;cases hb:Nat.beq (s3.ob id).g g0 with
   |false=>rw[hb]at hc;cases hc
   |true=>rw[<-CB];exact(Nat.eq_of_beq_eq_true hb).symm
  cases p with
  |nil=>
   rw[cr EK (CI.trans CB.symm)]at hc;injection hc with hc
   exact⟨rfl,CI,hc.symm⟩
  |cons st p=>
   exfalso;rw[if_pos CI]at DY;have hne:Nat.beq (s3.ob id).h h0=false:=by rw[Bool.eq_false_iff];intro e;have:=Nat.eq_of_beq_eq_true e;omega
   unfold St.cont fU.cont at hc;rw[EK]at hc;simp only[hne,Bool.and_false,cond_false]at hc;cases hb:Nat.beq (s3.ob id).g g0 <;> rw[hb]at hc <;> cases hc
 have zR:∀g0 h0,h0<=(s.ob id).h+(if g0=(s.ob id).g then 0 else h0)->h0<=(s3.ob id).h+(if g0=(s3.ob id).g then 0 else h0):=by
  intro g0 h0 DY;rw[CB];split at DY <;> rename_i hc
  ·rw[if_pos hc];omega
  ·rw[if_neg hc];omega
 exact
 {ref:=fun v g0 h0 p hr=>by
   refine⟨by rw[CB];exact hr.1,zR _ _ hr.2.1,fun c hc=>?_⟩;obtain⟨rfl,CI,rfl⟩:=wS g0 h0 p c hr.1 hr.2.1 hc;have hv:=hr.2.2 _ (cr (h:=h0) ho CI);exact key v (eY Bb hv)
  ptr:=fun v g0 off hr=>⟨by rw[CB];exact hr.1,fun _ cells hc=>by rw[EK]at hc;cases hc⟩
  cS:=fun v g0 hr=>hr.shut CB fun k x e=>by rw[EK]at e;cases e
  cf:=fun v g0 h0 p i off hr=>by
   refine⟨by rw[CB];exact hr.1,zR _ _ hr.2.1,fun c hc hm=>?_⟩;obtain⟨rfl,CI,rfl⟩:=wS g0 h0 p c hr.1 hr.2.1 hc;have zW:(bif dp then 2 else 1)≠0:=jY dp;obtain⟨r1,r2,⟨b,r3,r4⟩,v',r5⟩:=hr.2.2 _ (cr (h:=h0) ho CI) zW;have fH:=key v' (eY Bb r5);have hlen:x'.length=x.length:=by
    obtain⟨ad,n,c,e1,e2,_⟩:=r5;obtain⟨xw,n',c',f1,f2,_⟩:=fH;rw[e1]at f1;injection f1 with _ z2 _
    rw[f2,e2,z2]
   refine⟨r1,by show IV.i i<(x'.length:Int);rw[hlen];exact r2,⟨b,?_,r4⟩,v',fH⟩;have hpos:0<x.length:=by have h1:(0:Int)<=IV.i i:=r1;have h2:IV.i i<(x.length:Int):=r2;omega
   obtain⟨ad,n,c,e1,e2,e3,e4,e5⟩:=eY Bb r5;obtain⟨xw,n',c',f1,f2,f3,f4,f5⟩:=fH;rw[e1]at f1;injection f1 with z1 z2 z3
   subst z1;subst z2;subst z3;rcases mP e4 with ⟨_,q2⟩|⟨b1,eE,q1,q2,q3,q4⟩
   ·rw[q2]at e2;omega
   ·rcases mP f4 with ⟨_,k2⟩|⟨b2,Dy,k1,k2,k3,k4⟩
    ·rw[k2]at e2;omega
    ·rw[q1]at k1;injection k1 with k1
     injection k1 with k1
     subst k1;have:b=b1:=h.inj _ _ _ r3 q4;subst this;exact k4 }
structure va (ω:aK) (w:World) (s:S) (aI:aK) (w':World) (s':S) (base W:Nat) (L:Nat->Prop) (v:Value) (t:ck):Prop where
 ext:dK ω w aI w'
 tr:∀i,Tr w ω s w' aI s' i
 sl:s'.sl=s.sl
 kept:∀i,¬bJ base W i -> ¬L i->s'.ob i=s.ob i/\∀b p,ω b=some (i,p)->w'.heap[b]? = w.heap[b]? /\ aI b=some (i,p)
 En:∀i,bJ base W i->(s.ob i).g<(s'.ob i).g
 gC:∀i,L i->(s.ob i).o≠.gone/\(¬bJ base W i->∀cells,(s'.ob i).o≠.blk cells)
 res:∀s'':S,(∀i,bJ base W i->s''.ob i=s'.ob i)->df w' aI s'' v t /\
  ∀i cells,bJ base W i->(s''.ob i).o=.blk cells->∃c arr T,aI c=some (i,[])/\w'.heap[c]? = some (.cells arr T (0,0))/\bi (cw w' aI s'') arr.toList cells
theorem vk (h:Rel ω a w s) {es:List oK} {s1 s2:S} (hd:oJ es) (hW:∀t ∈ es, F1 s t) (hR:∀t ∈ es, cw w ω s t.u t.l) (ju:∀t ∈ es, (t.cs.plain||t.d) = true)
    (l2:∀i, (∀t ∈ es, ef t.l ≠ some i) -> s1.ob i = s.ob i) (l3:∀t ∈ es, ∀i, ef t.l = some i -> (s.ob i).o ≠ .gone /\ s1.ob i = ⟨(s.ob i).g, (s.ob i).h + 1, .gone⟩) (l5:s1.sl = s.sl)
    {w':World} {aI:aK} (b1:∀i, (∀t ∈ es, ef t.l ≠ some i) -> s2.ob i = s1.ob i) (b2:s2.sl = s1.sl)
    (b3:∀t ∈ es, ∃x':List t.cs.T, (Ty.sl t.e t.cs).R w' aI (bj (bif t.d then 2 else 1) t.out []) t.u x' /\ ∀i, ef t.l = some i -> s2.ob i = ⟨(s1.ob i).g, (s1.ob i).h + 1, .arr t.e t.cs t.d x'⟩)
    {aP:List Sh} {vs:List (KV real)} {base B:Nat} (hbase:0<base) (hB:0<B) (rL:aP.all Sh.flat = true) (hks:vs.map (·.1) = (aP.map Sh.ks).flatten) (hrc:(aP.all fun sh=>sh.ks.all K.closed) = true)
    (hout:∀t ∈ es, B + aL aP <= t.out) (gN:dK (aK.gC w ω es) w aI w') (hinj:∀b b' k, aI b = some k -> aI b' = some k -> b = b') (hdom:∀b k, aI b = some k -> b<w'.heap.size) {v:Value} (hr:xq w' aI B aP vs v):
    ∃bN, Rel bN a w' (bC base aP vs s2).2 /\ va ω w s bN w' (bC base aP vs s2).2 base (aL aP) (fun i=>∃t ∈ es, ef t.l = some i) v (TV.mC (bC base aP vs s2).1):=by
  have hfree:∀b, b<w.heap.size -> aK.gC w ω es b = none -> w'.heap[b]? = w.heap[b]? /\ aK.fJ w ω aI es base B (aL aP) b = ω.old base (aL aP) b:=by intro b hb hn;obtain⟨q1, q2⟩:=gN.block b hb (.inl hn);refine⟨q1, ?_⟩;unfold aK.fJ;rw[q2, hn]
  have Bv:∀b i p, ω b = some (i, p) -> (∀t ∈ es, ¬js w ω t i) -> aK.gC w ω es b = none:=by
    intro b i p hb hno;cases hl:aK.gC w ω es b with
    |none=>rfl
    |some k=>
      obtain⟨t, t1, i', t2, _, t4⟩:=iM hl;rw[hb]at t4;injection t4 with t4
      injection t4 with t4 _
      subst t4;exact absurd t2 (hno t t1)
  have hkeep:∀b i p, ω b = some (i, p) -> ¬bJ base (aL aP) i -> (∀t ∈ es, ¬js w ω t i) -> w'.heap[b]? = w.heap[b]? /\ aK.fJ w ω aI es base B (aL aP) b = some (i, p):=by intro b i p hb hn hno;obtain⟨q1, q2⟩:=hfree b (h.dom b _ hb) (Bv b i p hb hno);exact⟨q1, q2.trans (AD hb hn)⟩
  have h0:∀t ∈ es, ∀i, ef t.l = some i -> i ≠ 0:=by intro t ht i hi e;subst e;exact(l3 t ht 0 hi).1 h.dN
  have hE:dK ω w (aK.fJ w ω aI es base B (aL aP)) w':=by
    refine⟨gN.os, gN.tape, gN.output, gN.size, fun b hb hf=>?_⟩;rcases hf with hf|⟨q, hf⟩
    · have hn:aK.gC w ω es b = none:=by unfold aK.gC; rw[hf]
      obtain⟨q1, q2⟩:=hfree b hb hn;exact⟨q1, by rw[q2, hf]; exact AE hf⟩
    · have:=hkeep b 0 q hf (by unfold bJ; omega) (fun t ht hT=>h0 t ht 0 hT.1 rfl)
      exact⟨this.1, this.2.trans hf.symm⟩
  have hown:∀i, bJ B (aL aP) i -> ∀b p, b<w'.heap.size -> aI b = some (i, p) -> aK.fJ w ω aI es base B (aL aP) b = some (base + (i-B), p):=by intro i hi b p _ hb;unfold aK.fJ;rw[hb];simp only;unfold bJ at hi;rw[if_pos hi]
  have z5:∀b k, aK.fJ w ω aI es base B (aL aP) b = some k -> (ω b = some k /\ ¬bJ base (aL aP) k.1 /\ aK.gC w ω es b = none) \/ (∃j, bJ B (aL aP) j /\ k.1 = base + (j-B) /\ aI b = some (j, k.2)) \/ ∃t ∈ es, js w ω t k.1 /\ ¬bJ base (aL aP) k.1 /\ aI b = some (t.out, k.2):=by
    intro b k hb;unfold aK.fJ at hb;split at hb
    · split at hb
      · rename_i hl
        obtain⟨q1, q2⟩:=AF hb;exact .inl ⟨q1, q2, hl⟩
      · cases hb
    · rename_i j p hj
      split at hb
      · rename_i hr'
        injection hb with hb
        subst hb;exact .inr (.inl ⟨j, hr', rfl, hj⟩)
      · split at hb
        · rename_i t ht
          have q0:=List.find?_some ht;have q1:=of_decide_eq_true q0;obtain⟨q1, i, q2⟩:=q1;have q3:=List.mem_of_find?_eq_some ht;rw[q2.1]at hb;simp only at hb;split at hb
          · cases hb
          · rename_i EO
            injection hb with hb
            subst hb;exact .inr (.inr ⟨t, q3, q2, EO, by rw[hj, q1]⟩)
        · cases hb
  have Bz:∀t ∈ es, ∀i, js w ω t i -> ¬bJ base (aL aP) i -> ∀b p, b<w'.heap.size -> aI b = some (t.out, p) -> aK.fJ w ω aI es base B (aL aP) b = some (i, p):=by
    intro t ht i hT EO b p _ hb;unfold aK.fJ;rw[hb];simp only;have:=hout t ht;rw[if_neg (by omega)];cases hf:es.find? (fun t'=>decide (t'.out = t.out /\ ∃i, js w ω t' i))with
    |none=>have:=List.find?_eq_none.1 hf t ht;exact absurd (decide_eq_true ⟨rfl, i, hT⟩) this
    |some t'=>have q0:=List.find?_some hf;have q1:=of_decide_eq_true q0;have q2:=List.mem_of_find?_eq_some hf;have e:=hd.out q2 ht q1.1;subst e;simp only;rw[hT.1];simp only;unfold bJ at EO;rw[if_neg EO]
  have Hq:∀v ∈ vs, v.1.closed = true:=by
    intro v hv;have hm:v.1 ∈ (aP.map Sh.ks).flatten:=by rw[<- hks]; exact List.mem_map.2 ⟨v, hv, rfl⟩
    obtain⟨l, h1, h2⟩:=List.mem_flatten.1 hm;obtain⟨sh, h3, rfl⟩:=List.mem_map.1 h1;exact List.all_eq_true.1 (List.all_eq_true.1 hrc sh h3) _ h2
  obtain⟨us, CS, hv⟩:=r8 (bN:=aK.fJ w ω aI es base B (aL aP)) (zx rL) hks hown (.inl Hq) hr;obtain⟨y1, y2, y3, y4⟩:=kE aP vs us base s2 CS;obtain⟨m1, m2⟩:=y4 _ (fun _ _=>rfl);have Ed:∀i, (s2.ob i).g = (s.ob i).g:=by
    intro i;by_cases hex:∃t ∈ es, ef t.l = some i
    · obtain⟨t, ht, hi⟩:=hex
      obtain⟨x', _, q2⟩:=b3 t ht;rw[q2 i hi, (l3 t ht i hi).2]
    · have hno:∀t ∈ es, ef t.l ≠ some i:=fun t ht hi=>hex ⟨t, ht, hi⟩
      rw[b1 i hno, l2 i hno]
  have tr:∀i, Tr w ω s w' (aK.fJ w ω aI es base B (aL aP)) (bC base aP vs s2).2 i:=fun i=>by
    by_cases e:bJ base (aL aP) i
    · exact dm.tr (by unfold dm; rw[<- Ed i]; exact y2 i e)
    · by_cases hex:∃t ∈ es, ef t.l = some i
      · obtain⟨t, ht, hi⟩:=hex
        obtain⟨x', q1, q2⟩:=b3 t ht;obtain⟨xN, FC⟩:=hW t ht;rcases FC with ⟨e', cs', z1, z2⟩|⟨id, g, hh, dp, x, z1, z2, z3, z4⟩
        · rw[hi]at z2; cases z2
        · have ee:id = i:=by rw[z1]at hi; injection hi
          subst ee;have FL:(bC base aP vs s2).2.ob id = ⟨(s.ob id).g, (s.ob id).h + 1 + 1, .arr t.e t.cs t.d x'⟩:=by rw[y1 id e, q2 id hi, (l3 t ht id hi).2]
          have D8:(Ty.sl t.e t.cs).R w' (aK.fJ w ω aI es base B (aL aP)) (bj (bif t.d then 2 else 1) id []) t.u x':=by
            have vN:=ju t ht;by_cases hT:js w ω t id
            · exact tF (v:=⟨.arr t.e t.cs t.d, x'⟩) (Bz t ht id hT e) (.inl vN) q1
            · -- no block of its own: nothing is in it
              have hu:(Ty.sl t.e t.cs).R w ω (bj (bif dp then 2 else 1) id []) t.u x:=by have:=hR t ht;rw[z1]at this;exact this.2.2 _ (cr z3 z2)
              obtain⟨ad, n, c, f1, f2, f3, f4, f5⟩:=hu;rcases mP f4 with ⟨k1, k2⟩|⟨b', bS, k1, k2, k3, k4⟩
              · subst k1; subst k2
                obtain⟨xw, n', c', g1, g2, _⟩:=q1;rw[f1]at g1;injection g1 with w1 w2 w3
                have hx0:x' = []:=by
                  have:x'.length = 0:=by rw[g2, <- w2]
                  exact List.length_eq_zero_iff.1 this
                subst hx0;rw[f1];exact lW
              · exact absurd ⟨hi, b', bS, n, c, by rw[f1, k1], k2, k3, k4⟩ hT
          refine BK (t:=t) h z1 z2 z3 xN z4 (hR t ht) (by rw[FL]) (by rw[FL]; exact Nat.lt_succ_of_lt (Nat.lt_succ_self _)) (by rw[FL]) D8 (fun hnb=>⟨gN.size, fun b p hb=>?_⟩);have:=hkeep b id p hb e (fun t' ht' Gc=>by have:=hd.id ht' ht Gc.1 hi;subst this;exact hnb Gc.2);exact⟨this.1, this.2.trans hb.symm⟩
      · have hno:∀t ∈ es, ef t.l ≠ some i:=fun t ht hi=>hex ⟨t, ht, hi⟩
        refine gk.tr ⟨by rw[y1 i e, b1 i hno, l2 i hno], fun b kk hb hk hj=>?_⟩ hE h.dom;obtain⟨i', p⟩:=kk;have:i' = i:=hj;subst this;have:=hkeep b i' p hk e (fun t ht hT=>hno t ht hT.1);exact⟨this.1, this.2.trans hk.symm⟩
  refine⟨_, ?_, ⟨hE, tr, y3.trans (b2.trans l5), fun i hi hL=>?_, fun i hi=>by rw[<- Ed i]; exact y2 i hi, fun i ⟨t, ht, hi⟩=>⟨(l3 t ht i hi).1, fun hin cells dY=>?_⟩, fun s'' hs=>?_⟩⟩
  rotate_left
  · have hno:∀t ∈ es, ef t.l ≠ some i:=fun t ht hi'=>hL ⟨t, ht, hi'⟩
    refine⟨by rw[y1 i hi, b1 i hno, l2 i hno], fun b p hb=>hkeep b i p hb hi fun t ht hT=>hno t ht hT.1⟩
  · obtain⟨x', _, q2⟩:=b3 t ht
    rw[y1 i hin, q2 i hi]at dY;cases dY
  · obtain⟨z1, z2⟩:=y4 s'' hs
    exact⟨hv _ _ z1, z2⟩
  exact
  { inj:=fun b b' k h1 h2=>by
      rcases z5 b k h1 with ⟨e1, e2, e3⟩|⟨j, e1, e2, e3⟩|⟨t, e1, e2, e3, e4⟩ <;> rcases z5 b' k h2 with ⟨f1, f2, f3⟩|⟨j', f1, f2, f3⟩|⟨t', f1, f2, f3, f4⟩
      · exact h.inj b b' k e1 f1
      · exact absurd (by rw[f2]; unfold bJ at f1⊢; omega) e2
      · have:=nk (w:=w) hd f1 f2 (b:=b) (p:=k.2) e1
        rw[e3]at this; cases this
      · exact absurd (by rw[e2]; unfold bJ at e1⊢; omega) f2
      · have:j = j':=by unfold bJ at e1 f1; omega
        subst this;exact hinj b b' _ e3 f3
      · exact absurd (by rw[e2]; unfold bJ at e1⊢; omega) f3
      · have:=nk (w:=w) hd e1 e2 (b:=b') (p:=k.2) f1
        rw[f3]at this; cases this
      · exact absurd (by rw[f2]; unfold bJ at f1⊢; omega) e3
      · have:=hd.id e1 f1 e2.1 f2.1
        subst this;exact hinj b b' _ e4 f4
    dom:=fun b k h1=>by
      rcases z5 b k h1 with ⟨e1, _⟩|⟨j, _, _, e3⟩|⟨t, _, _, _, e4⟩
      · exact Nat.lt_of_lt_of_le (h.dom b k e1) gN.size
      · exact hdom b _ e3
      · exact hdom b _ e4
    defers:=h.defers
    HY:=h.HY.ext hE
    dN:=by rw[y1 0 (by unfold bJ; omega), b1 0 (fun t ht hi=>h0 t ht 0 hi rfl), l2 0 (fun t ht hi=>h0 t ht 0 hi rfl)];exact h.dN
    slots:=fun i=>by rw[y3, b2, l5]; exact df.frame hE tr (h.slots i)
    dx:=fun i cells dY=>by
      by_cases e:bJ base (aL aP) i
      · exact m2 i cells e dY
      · rw[y1 i e]at dY
        by_cases hex:∃t ∈ es, ef t.l = some i
        · obtain⟨t, ht, hi⟩:=hex
          obtain⟨x', _, q2⟩:=b3 t ht;rw[q2 i hi]at dY;cases dY
        · have hno:∀t ∈ es, ef t.l ≠ some i:=fun t ht hi=>hex ⟨t, ht, hi⟩
          rw[b1 i hno, l2 i hno]at dY;obtain⟨b, arr, T, g1, g2, g3⟩:=h.dx i cells dY;have:=hkeep b i [] g1 e (fun t ht hT=>hno t ht hT.1);exact⟨b, arr, T, this.2, this.1.trans g2, g3.mono fun _ _ hl=>cw.frame hE tr hl⟩ }
theorem mw(h:Rel ω a w s){es:List oK}(hd:oJ es):∀(ks:List K) (ls:List L) (us:List Value) (b o:Nat),bi (cw w ω s) us ls->(∀t∈bP ks ls us b o,t∈es)->jL w ω s (aK.gC w ω es) b ks ls us
 | [],_,_,_,_,_,_=>trivial
 |_::_,[],_,_,_,_,_=>trivial
 |_::_,_::_,[],_,_,h2,_=>h2.elim
 | .val t::ks,l::ls,u::us,b,o,h2,hm=>⟨trivial,mw h hd ks ls us (b+1) o h2.2 hm⟩
 | .mp _::ks,l::ls,u::us,b,o,h2,hm=>⟨trivial,mw h hd ks ls us (b+1) o h2.2 hm⟩
 | .arr e cs d::ks,l::ls,u::us,b,o,h2,hm=>by
  refine⟨fun x s2 ha=>?_,mw h hd ks ls us (b+1) (o+1) h2.2 fun t ht=>hm t (by simp only[bP,List.mem_cons];exact .inr ht)⟩;have ht:(⟨e,cs,d,l,u,b,o⟩:oK)∈es:=hm _ (by simp[bP]);rcases wJ h h2.1 ha with ⟨_,rfl,ad,rfl⟩|⟨id,g,hh,dp,e1,e2,e3,e4,e5,e6⟩
  ·exact lW
  ·have hu:=eY e6 e5;by_cases hT:js w ω ⟨e,cs,d,l,u,b,o⟩ id
   ·refine vg (i:=id) ⟨fun b' hb' hn=>?_,fun b' p hb' hk=>nk hd ht hT hk⟩ hu;unfold aK.gC;rw[hn]
   ·obtain⟨ad,n,c,f1,f2,f3,f4,f5⟩:=hu;rcases mP f4 with ⟨k1,k2⟩|⟨b',bS,k1,k2,k3,k4⟩
    ·subst k1;subst k2;have hx0:x=[]:=List.length_eq_zero_iff.1 f2;subst hx0;rw[f1];exact lW
    ·exact absurd ⟨by rw[e1];rfl,b',bS,n,c,by rw[f1,k1],k2,k3,k4⟩ hT
theorem sM:∀(ks:List K) (ls:List L) (us:List Value) (b o:Nat),∀t∈bP ks ls us b o,K.arr t.e t.cs t.d∈ks
 | [],_,_,_,_,t,ht=>by simp[bP]at ht
 | .arr .. :: _,[],_,_,_,t,ht=>by simp[bP]at ht
 | .val _::_,[],_,_,_,t,ht=>by simp[bP]at ht
 | .mp _::_,[],_,_,_,t,ht=>by simp[bP]at ht
 | .arr .. :: _,_::_,[],_,_,t,ht=>by simp[bP]at ht
 | .val _::_,_::_,[],_,_,t,ht=>by simp[bP]at ht
 | .mp _::_,_::_,[],_,_,t,ht=>by simp[bP]at ht
 | .arr e cs d::ks,l::ls,u::us,b,o,t,ht=>by
  simp only[bP,List.mem_cons]at ht;rcases ht with rfl|ht
  ·exact List.mem_cons_self
  ·exact List.mem_cons_of_mem _ (sM ks ls us _ _ t ht)
 | .val _::ks,l::ls,u::us,b,o,t,ht=>List.mem_cons_of_mem _ (sM ks ls us _ _ t ht)
 | .mp _::ks,l::ls,u::us,b,o,t,ht=>List.mem_cons_of_mem _ (sM ks ls us _ _ t ht)
theorem rW:∀(aW:List Sh),(aW.map Sh.outs).flatten=(dr aW).filter K.kS
 | []=>rfl
 |sh::aW=>by simp only[dr,List.map_cons,List.flatten_cons,List.filter_append];rw[rW aW];rfl
end
end Go.R
set_option linter.unusedVariables false
namespace Go.R
open Classical
section
variable {R:Type} {P:Program} {E:Env} {Ψ:bR->Option gY} {ω:aK} {a:Act} {w:World} {s:S} {k:S->Option R} {r:R} {o:Oper} {Q:Exit->Act->World->Prop}
theorem AJ{t:Ty}{l:L}{s:S}{q:real.V t×S}(h:bU (A:=real) false t l s=some q):q.2.sl=s.sl:=by
 unfold bU at h;split at h
 ·simp only[cond_false]at h;split at h
  ·injection h with h;subst h;rfl
  ·cases h
 ·split at h
  ·injection h with h;subst h;rfl
  ·cases h
 ·split at h
  ·injection h with h;subst h;rfl
  ·cases h
 ·rename_i id g _;cases hb:Nat.beq (s.ob id).g g with
  |false=>rw[hb]at h;cases h
  |true=>
   rw[hb]at h;simp only[cond_true]at h;split at h
   ·split at h
    ·simp only[cond_false]at h;injection h with h;subst h;rfl
    ·cases h
   ·simp only[cond_false]at h;split at h
    ·injection h with h;subst h;rfl
    ·cases h
   ·cases h
 ·cases h
theorem Bg{e:Nat}{cs:aJ}{deep:Bool}{l:L}{s:S}{q:real.V (.sl e cs)×S}(h:eE (A:=real) e cs deep l s=some q):q.2.sl=s.sl:=by
 unfold eE at h;split at h
 ·split at h
  ·injection h with h;subst h;rfl
  ·cases h
 ·rename_i id g _;cases hb:Nat.beq (s.ob id).g g <;> rw[hb]at h
  ·cases h
  ·simp only[cond_true]at h;split at h
   ·rename_i e' cs' dp x ho;cases hd:(dp==deep||cs'.plain) <;> rw[hd]at h
    ·cases h
    ·simp only[cond_true]at h;split at h
     ·injection h with h;subst h;rfl
     ·cases h
   ·cases h
 ·cases h
theorem C2{k:IntKind}{l:L}{s:S}{q:real.V (.sl 0 (aJ.mp k))×S}(h:tu (A:=real) k l s=some q):q.2.sl=s.sl:=by
 unfold tu at h;split at h
 ·rename_i id g;cases hb:Nat.beq (s.ob id).g g <;> rw[hb]at h
  ·cases h
  ·simp only[cond_true]at h;split at h
   ·split at h
    ·injection h with h;subst h;rfl
    ·cases h
   ·cases h
 ·cases h
theorem AW{k:K}{l:L}{s:S}{q:KV real×S}(h:cU k l s=some q):q.2.sl=s.sl:=by
 cases k with
 |val t=>
  simp only[cU]at h;cases h1:bU (A:=real) false t l s with
  |none=>rw[h1]at h;cases h
  |some p=>rw[h1]at h;injection h with h;subst h;exact AJ h1
 |arr e cs deep=>
  simp only[cU]at h;cases h1:eE (A:=real) e cs deep l s with
  |none=>rw[h1]at h;cases h
  |some p=>rw[h1]at h;injection h with h;subst h;exact Bg h1
 |mp kk=>
  simp only[cU]at h;cases h1:tu (A:=real) kk l s with
  |none=>rw[h1]at h;cases h
  |some p=>rw[h1]at h;injection h with h;subst h;exact C2 h1
theorem iV:∀ {ks:List K} {ls:List L} {s:S} {q:List (KV real)×S},takes ks ls s=some q->q.2.sl=s.sl
 | [],[],s,q,h=>by injection h with h;subst h;rfl
 | [],_::_,s,q,h=>by cases h
 |_::_,[],s,q,h=>by cases h
 |k::ks,l::ls,s,q,h=>by
  simp only[takes]at h;cases h1:cU k l s with
  |none=>rw[h1]at h;cases h
  |some p=>
   rw[h1]at h;simp only[]at h;cases h2:takes ks ls p.2 with
   |none=>rw[h2]at h;cases h
   |some p2=>rw[h2]at h;injection h with h;subst h;exact(iV (q:=p2) h2).trans (AW h1)
theorem jo{cs:aJ}{c:dc real}{s:S}{q:List (KV real)×S}(h:co cs c s=some q):q.2.sl=s.sl:=by
 unfold co at h;split at h
 ·split at h
  ·cases h1:takes cs.ks _ s with
   |none=>rw[h1]at h;cases h
   |some p=>
    rw[h1]at h;simp only[]at h;split at h
    ·injection h with h;subst h;exact iV (q:=p) h1
    ·cases h
  ·cases h
 ·split at h
  ·injection h with h;subst h;rfl
  ·cases h
theorem og:∀ {aM:List aJ} {cc:List (dc real)} {s:S} {q:List (KV real)×S},cu aM cc s=some q->q.2.sl=s.sl
 | [],[],s,q,h=>by injection h with h;subst h;rfl
 | [],_::_,s,q,h=>by cases h
 |_::_,[],s,q,h=>by cases h
 |cs::mO,c::cc,s,q,h=>by
  simp only[cu]at h;cases h1:co cs c s with
  |none=>rw[h1]at h;cases h
  |some p=>
   rw[h1]at h;simp only[]at h;cases h2:cu mO cc p.2 with
   |none=>rw[h2]at h;cases h
   |some p2=>rw[h2]at h;injection h with h;subst h;exact(og (q:=p2) h2).trans (jo h1)
theorem yG{c:Cp}{v:dc real}{s:S}{q:List (KV real)×S}(h:e9 c v s=some q):q.2.sl=s.sl:=by
 unfold e9 at h;split at h
 ·exact jo h
 ·split at h
  ·split at h
   ·rename_i q' h1;injection h with h;subst h
    exact(iV (q:=q') h1).trans rfl
   ·cases h
  ·cases h
 ·cases h
theorem qE:∀ {aM:List Cp} {cc:List (dc real)} {s:S} {q:List (KV real)×S},cE aM cc s=some q->q.2.sl=s.sl
 | [],[],s,q,h=>by injection h with h;subst h;rfl
 | [],_::_,s,q,h=>by cases h
 |_::_,[],s,q,h=>by cases h
 |cs::mO,c::cc,s,q,h=>by
  simp only[cE]at h;cases h1:e9 cs c s with
  |none=>rw[h1]at h;cases h
  |some p=>
   rw[h1]at h;simp only[]at h;cases h2:cE mO cc p.2 with
   |none=>rw[h2]at h;cases h
   |some p2=>rw[h2]at h;injection h with h;subst h;exact(qE (q:=p2) h2).trans (yG h1)
theorem yJ{sh:Sh}{v:ck}{s:S}{q:List (KV real)×S}(h:cj sh v s=some q):q.2.sl=s.sl:=by
 unfold cj at h;split at h
 ·exact jo h
 ·exact jo h
 ·rename_i f aM f' cc;cases hb:Nat.beq f f' <;> rw[hb]at h
  ·cases h
  ·exact og h
 ·rename_i f aM f' cc;cases hb:Nat.beq f f' <;> rw[hb]at h
  ·cases h
  ·exact qE h
 ·exact iV h
 ·exact iV h
 ·rename_i ks id g;cases hb:dw s id g with
  |none=>rw[hb]at h;cases h
  |some ls=>
   rw[hb]at h;simp only at h;cases h1:takes ks ls (s.bM id true .gone)with
   |none=>rw[h1]at h;cases h
   |some q'=>
    rw[h1]at h;injection h with h;subst h
    exact(iV (q:=q') h1).trans rfl
 ·cases h
theorem qA:∀ {aW:List Sh} {vs:List ck} {s:S} {q:List (KV real)×S},bL aW vs s=some q->q.2.sl=s.sl
 | [],[],s,q,h=>by injection h with h;subst h;rfl
 | [],_::_,s,q,h=>by cases h
 |_::_,[],s,q,h=>by cases h
 |sh::aW,v::vs,s,q,h=>by
  simp only[bL]at h;cases h1:cj sh v s with
  |none=>rw[h1]at h;cases h
  |some p=>
   rw[h1]at h;simp only[]at h;cases h2:bL aW vs p.2 with
   |none=>rw[h2]at h;cases h
   |some p2=>rw[h2]at h;injection h with h;subst h;exact(qA (q:=p2) h2).trans (yJ h1)
structure BE where
 ks:List K
 id:Nat
 u:Value
 out:Nat
def bH:List (List K)->List L->List Value->Nat->List BE
 |ks::gB,.ptr id _ _::ls,u::us,o=>⟨ks,id,u,o⟩::bH gB ls us (o+(ks.length+1))
 |_,_,_,_=>[]
theorem oR:∀(gB:List (List K)) (ls:List L) (us:List Value) (o:Nat),(∀e∈bH gB ls us o,o<=e.out)/\(bH gB ls us o).Pairwise fun e e'=>e.out+e.ks.length<e'.out
 | [],_,_,_=>⟨fun t ht=>by simp[bH]at ht,by simp[bH]⟩
 |_::_,[],_,_=>⟨fun t ht=>by simp[bH]at ht,by simp[bH]⟩
 |ks::gB,l::ls,[],o=>by
  have:bH (ks::gB) (l::ls) [] o=[]:=by cases l <;> rfl
  rw[this];exact⟨fun t ht=>by simp at ht,by simp⟩
 |ks::gB,l::ls,u::us,o=>by
  cases l with
  |ptr id g off=>
   obtain⟨h1,h2⟩:=oR gB ls us (o+(ks.length+1));simp only[bH];refine⟨fun t ht=>?_,List.Pairwise.cons (fun t ht=>?_) h2⟩
   ·rcases List.mem_cons.1 ht with rfl|ht
    ·exact Nat.le_refl _
    ·have:=h1 t ht;omega
   ·have:=h1 t ht;show o+ks.length<t.out;omega
  |_=>exact⟨fun t ht=>by simp[bH]at ht,by simp[bH]⟩
theorem qF{ks:List K}{v:ck}{s:S}{q:List (KV real)×S}(h:cj (.blk ks) v s=some q):∃id g ls,v=.one (.ptr id g 0)/\(s.ob id).g=g/\(s.ob id).o=.blk ls/\(q.2.ob id).o=.gone:=by
 have key:∀id g,cj (.blk ks) (.one (.ptr id g 0)) s=some q->∃ls,(s.ob id).g=g/\(s.ob id).o=.blk ls/\(q.2.ob id).o=.gone:=by
  intro id g h;simp only[cj]at h;cases hb:dw s id g with
  |none=>rw[hb]at h;cases h
  |some ls=>
   rw[hb]at h;simp only at h;cases h1:takes ks ls (s.bM id true .gone)with
   |none=>rw[h1]at h;cases h
   |some q'=>
    rw[h1]at h;injection h with h
    subst h;obtain⟨e1,e2⟩:=cY hb;exact⟨ls,e1,e2,(eC h1).gone (by rw[St.aU])⟩
 cases v with
 |one l=>
  cases l with
  |ptr id g off=>
   cases off with
   |zero=>obtain⟨ls,e1,e2,e3⟩:=key id g h;exact⟨id,g,ls,rfl,e1,e2,e3⟩
   |succ _=>cases h
  |_=>cases h
 |_=>cases h
theorem ku(sh:Sh)(aW:List Sh):eD (sh::aW)=sh.Co++eD aW:=by simp[eD]
structure Bf (ω:aK) (s0 s s1:S) (e:BE):Prop where
 was:∃cells,(s0.ob e.id).o=.blk cells
 now:(s.ob e.id).o≠.gone
 is:(s1.ob e.id).o=.gone
 at_:∃b,ω b=some (e.id,[])/\e.u=.pointer (some ⟨b,0,none⟩)
theorem jp{s0 s2:S}{gB:List (List K)}{ls:List L}{us:List Value}:∀(aM:List Cp) (cc:List (dc real)) (cv:List Value) (s:S) (q:List (KV real)×S) (o:Nat),dn s0 s->bi (fun v c=>gr w ω s0 v c) cv cc->cE aM cc s=some q->dn q.2 s2 ->
  (∀o,(∀e∈bH gB ls us o,Bf ω s0 q.2 s2 e)/\(bH gB ls us o).Pairwise fun e e'=>e.id≠e'.id) ->
  (∀e∈bH (A5 aM++gB) (qN aM cc++ls) (uf aM cv++us) o,Bf ω s0 s s2 e)/\(bH (A5 aM++gB) (qN aM cc++ls) (uf aM cv++us) o).Pairwise fun e e'=>e.id≠e'.id
 | [],[],cv,s,q,o,hW,h2,h,hw,hr=>by
  injection h with h
  subst h;cases cv with
  |nil=>exact hr o
  |cons _ _=>exact h2.elim
 | [],_::_,_,_,_,_,_,_,h,_,_=>by cases h
 |_::_,[],_,_,_,_,_,_,h,_,_=>by cases h
 |_::_,_::_,[],_,_,_,_,h2,_,_,_=>h2.elim
 |c::aM,v::cc,u::cv,s,q,o,hW,h2,h,hw,hr=>by
  simp only[cE]at h;cases h1:e9 c v s with
  |none=>rw[h1]at h;cases h
  |some p=>
   rw[h1]at h;simp only[]at h;cases h3:cE aM cc p.2 with
   |none=>rw[h3]at h;cases h
   |some p2=>
    rw[h3]at h;injection h with h
    subst h;have qU:=kf h1;cases c with
    |ro cs=>obtain⟨k1,k2⟩:=jp aM cc cv p.2 p2 o (hW.trans qU) h2.2 h3 hw hr;exact⟨fun e he=>⟨(k1 e he).was,fun hg=>(k1 e he).now (qU.gone hg),(k1 e he).is,(k1 e he).at_⟩,k2⟩
    |mu ks=>
     cases v with
     |ro _ _=>cases h1
     |ptr id g=>
      obtain⟨id',g',BN,ei,e1,e2,e3⟩:=qF (show cj (.blk ks) (.one (.ptr id g 0)) s=some p from h1);injection ei with ei
      injection ei with GI GJ _
      subst GI;subst GJ;obtain⟨k1,k2⟩:=jp aM cc cv p.2 p2 (o+(ks.length+1)) (hW.trans qU) h2.2 h3 hw hr;simp only[A5,qN,uf,List.cons_append,bH];have hs0:s.ob id=s0.ob id:=hW.blk e2;obtain⟨b,f1,f2⟩:=h2.1.2 (by rw[<-hs0];exact e1) BN (by rw[<-hs0];exact e2);refine⟨fun e he=>?_,List.Pairwise.cons (fun e he=>?_) k2⟩
      ·rcases List.mem_cons.1 he with rfl|he
       ·exact⟨⟨BN,by show(s0.ob id).o=_;rw[<-hs0];exact e2⟩,(by show(s.ob id).o≠_;rw[e2];exact fun e=>by cases e),hw.gone ((jq h3).gone e3),⟨b,f1,f2⟩⟩
       ·exact⟨(k1 e he).was,fun hg=>(k1 e he).now (qU.gone hg),(k1 e he).is,(k1 e he).at_⟩
      ·intro e4;exact(k1 e he).now (by rw[<-e4];exact e3)
theorem gD{s0:S}:∀(aW:List Sh) (bY:List ck) (us:List Value) (s:S) (q:List (KV real)×S) (o:Nat),dn s0 s->bi (df w ω s0) us bY->bL aW bY s=some q ->
  (∀e∈bH (eD aW) (cq aW bY) (eu aW us) o,Bf ω s0 s q.2 e)/\(bH (eD aW) (cq aW bY) (eu aW us) o).Pairwise fun e e'=>e.id≠e'.id
 | [],_,_,_,_,_,_,_,_=>⟨fun t ht=>by simp[eD,bH]at ht,by simp[eD,bH]⟩
 |_::_,[],us,s,q,o,_,_,h=>by cases h
 |_::_,_::_,[],s,q,o,_,h2,_=>h2.elim
 |sh::aW,tv::bY,u::us,s,q,o,hW,h2,h=>by
  simp only[bL]at h;cases h1:cj sh tv s with
  |none=>rw[h1]at h;cases h
  |some p=>
   rw[h1]at h;simp only[]at h;cases h3:bL aW bY p.2 with
   |none=>rw[h3]at h;cases h
   |some p2=>
    rw[h3]at h;injection h with h
    subst h;have qU:=kg h1;have skip:sh.Co=[]->sh.Cq tv=[]->sh.Bk u=[]->(∀e∈bH (eD (sh::aW)) (cq (sh::aW) (tv::bY)) (eu (sh::aW) (u::us)) o,Bf ω s0 s p2.2 e)/\(bH (eD (sh::aW)) (cq (sh::aW) (tv::bY)) (eu (sh::aW) (u::us)) o).Pairwise fun e e'=>e.id≠e'.id:=by intro e1 e2 e3;rw[ku,e1];simp only[cq,eu,e2,e3,List.nil_append];obtain⟨k1,k2⟩:=gD aW bY us p.2 p2 o (hW.trans qU) h2.2 h3;exact⟨fun e he=>⟨(k1 e he).was,fun hg=>(k1 e he).now (qU.gone hg),(k1 e he).is,(k1 e he).at_⟩,k2⟩
    cases sh with
    |blk ks=>
     obtain⟨id,g,ls,rfl,e1,e2,e3⟩:=qF h1;obtain⟨k1,k2⟩:=gD aW bY us p.2 p2 (o+(ks.length+1)) (hW.trans qU) h2.2 h3;rw[ku];show(∀e∈bH ([ks]++eD aW) ([.ptr id g 0]++cq aW bY) ([u]++eu aW us) o,_)/\(bH ([ks]++eD aW) ([.ptr id g 0]++cq aW bY) ([u]++eu aW us) o).Pairwise _;simp only[List.singleton_append,bH];have hs0:s.ob id=s0.ob id:=hW.blk e2;have hr:xp ω s0 u id g 0:=h2.1;obtain⟨b,f1,f2⟩:=hr.2 (by rw[<-hs0];exact e1) ls (by rw[<-hs0];exact e2);refine⟨fun e he=>?_,List.Pairwise.cons (fun e he=>?_) k2⟩
     ·rcases List.mem_cons.1 he with rfl|he
      ·exact⟨⟨ls,by show(s0.ob id).o=_;rw[<-hs0];exact e2⟩,(by show(s.ob id).o≠_;rw[e2];exact fun e=>by cases e),(gE h3).gone e3,⟨b,f1,f2⟩⟩
      ·exact⟨(k1 e he).was,fun hg=>(k1 e he).now (qU.gone hg),(k1 e he).is,(k1 e he).at_⟩
     ·intro e4;exact(k1 e he).now (by rw[<-e4];exact e3)
    |py f aM=>
     have h1':=h1;unfold cj at h1';split at h1';case h_4=>
      rename_i f' F2 GL cc hsh;injection hsh with e1 e2
      subst e1;subst e2;cases hb:Nat.beq f GL <;> rw[hb]at h1'
      ·cases h1'
      ·obtain⟨cv,rfl,h4⟩:=h2.1;rw[ku];show(∀e∈bH (A5 aM++eD aW) (qN aM cc++cq aW bY) (uf aM cv.toArray.toList++eu aW us) o,_)/\(bH (A5 aM++eD aW) (qN aM cc++cq aW bY) (uf aM cv.toArray.toList++eu aW us) o).Pairwise _;exact jp aM cc cv s p o hW h4 h1' (gE (q:=p2) h3) (fun o=>gD aW bY us p.2 p2 o (hW.trans qU) h2.2 h3)
     all_goals first|(rename_i hsh _;cases hsh;done)|(rename_i hsh;cases hsh;done)|(rename_i hsh _ _;cases hsh;done)|cases h1'
    |one _=>exact skip rfl rfl rfl
    |agg _=>exact skip rfl rfl rfl
    |ro _=>exact skip rfl rfl rfl
    |fn _ _=>exact skip rfl rfl rfl
theorem wY:∀(vs:List (KV real)) (id:Nat) (s:S),(∀i,¬bJ id vs.length i->(ez id vs s).2.ob i=s.ob i)/\(∀i,bJ id vs.length i->(s.ob i).g<((ez id vs s).2.ob i).g/\∀cells,((ez id vs s).2.ob i).o≠.blk cells)/\(ez id vs s).2.sl=s.sl
 | [],id,s=>⟨fun _ _=>rfl,fun i hi=>absurd hi (by unfold bJ;simp),rfl⟩
 |v::vs,id,s=>by
  obtain⟨h1,h2,jC⟩:=wY vs (id+1) (dG id v s).2;have rN:((dG id v s).2.ob id).g=(s.ob id).g+1/\(∀cells,((dG id v s).2.ob id).o≠.blk cells)/\(dG id v s).2.sl=s.sl/\∀i,i≠id->(dG id v s).2.ob i=s.ob i:=by
   obtain⟨kk,x⟩:=v;cases kk with
   |val t=>
    refine⟨?_,?_,rfl,fun i hi=>?_⟩
    ·simp[dG,St.new,St.aX]
    ·intro cells e;simp[dG,St.new,St.aX]at e
    ·simp only[dG];unfold St.new;exact St.bB _ _ hi
   |arr e cs dp=>
    refine⟨?_,?_,rfl,fun i hi=>?_⟩
    ·simp[dG,St.new,St.aX]
    ·intro cells e;simp[dG,St.new,St.aX]at e
    ·simp only[dG];unfold St.new;exact St.bB _ _ hi
   |mp kk=>
    refine⟨?_,?_,rfl,fun i hi=>?_⟩
    ·simp[dG,St.new,St.aX]
    ·intro cells e;simp[dG,St.new,St.aX]at e
    ·simp only[dG];unfold St.new;exact St.bB _ _ hi
  obtain⟨q1,q2,q3,q4⟩:=rN;simp only[ez];refine⟨fun i hi=>?_,fun i hi=>?_,jC.trans q3⟩
  ·rw[h1 i (by unfold bJ at hi⊢;simp only[List.length_cons]at hi;omega)];exact q4 i (by unfold bJ at hi;simp only[List.length_cons]at hi;omega)
  ·by_cases e:i=id
   ·subst e;rw[h1 i (by unfold bJ;omega),q1];exact⟨Nat.lt_succ_self _,q2⟩
   ·have:=h2 i (by unfold bJ at hi⊢;simp only[List.length_cons]at hi;omega);rw[q4 i e]at this;exact this
structure E0 (w':World) (aI:aK) (s s':S) (e:BE):Prop where
 small:e.id<cZ/\e.ks.length<=64
 cells:∀i,bJ (bA e.id) e.ks.length i->(s.ob i).g<(s'.ob i).g/\∀cells,(s'.ob i).o≠.blk cells
 at_:∃b arr T vals cells,e.u=.pointer (some ⟨b,0,none⟩)/\aI b=some (e.out,[])/\w'.heap[b]? = some (.cells arr T (0,0))/\vals.length=e.ks.length/\fg w' aI (e.out+1) vals arr.toList /\
  s'.ob e.id=⟨(s.ob e.id).g,(s.ob e.id).h+1,.blk cells⟩ /\
  ∀(bN:aK) (s'':S),fg w' bN (bA e.id) vals arr.toList->(∀i,bJ (bA e.id) e.ks.length i->s''.ob i=s'.ob i)->bi (cw w' bN s'') arr.toList cells
theorem rE{i j m n:Nat}(hm:m<64)(hn:n<64)(h:bA i+m=bA j+n):i=j/\m=n:=by unfold bA at h;omega
theorem dU(i:Nat):cZ<=bA i:=by unfold bA;omega
theorem sv(e:BE):¬bJ (bA e.id) e.ks.length 0:=by unfold bJ bA cZ;omega
theorem tR{w':World}{aI:aK}:∀(gB:List (List K)) (ls:List L) (us:List Value) (vs:List (KV real)) (o:Nat) (s s':S),fF w' aI o (gB.map .blk) vs us->g9 gB ls vs s=some s'->(bH gB ls us o).Pairwise (fun e e'=>e.id≠e'.id) ->
  s'.sl=s.sl/\(∀i,i<cZ->(∀e∈bH gB ls us o,e.id≠i)->s'.ob i=s.ob i)/\(∀i,cZ<=i->(∀e∈bH gB ls us o,¬bJ (bA e.id) e.ks.length i)->s'.ob i=s.ob i)/\∀e∈bH gB ls us o,E0 w' aI s s' e
 | [],ls,us,vs,o,s,s',h,hb,_=>by
  cases ls with
  |nil=>
   cases vs with
   |nil=>injection hb with hb;subst hb;exact⟨rfl,fun _ _ _=>rfl,fun _ _ _=>rfl,fun e he=>by simp[bH]at he⟩
   |cons _ _=>cases hb
  |cons _ _=>cases hb
 |ks::gB,[],us,vs,o,s,s',h,hb,_=>by cases hb
 |ks::gB,l::ls,[],vs,o,s,s',h,hb,_=>h.elim
 |ks::gB,l::ls,u::us,vs,o,s,s',h,hb,hp=>by
  cases l with
  |ptr id g off=>
   cases off with
   |succ _=>cases hb
   |zero=>
    simp only[g9]at hb;cases hc:(Nat.ble (id+1) cZ&&(Nat.ble ks.length 64&&Nat.ble ks.length vs.length))with
    |false=>rw[hc]at hb;cases hb
    |true=>
     rw[hc]at hb;simp only[cond_true]at hb;rw[Bool.and_eq_true,Bool.and_eq_true]at hc;obtain⟨c1,c2,c3⟩:=hc;have c1:=Nat.le_of_ble_eq_true c1;have c2:=Nat.le_of_ble_eq_true c2;have c3:=Nat.le_of_ble_eq_true c3;have hlt:(vs.take ks.length).length=ks.length:=by rw[List.length_take];omega
     simp only[bH]at hp;rw[List.pairwise_cons]at hp;obtain⟨_,⟨b,arr,T,r1,r2,r3,r4⟩,r5⟩:=h;have HD:fF w' aI (o+(ks.length+1)) (gB.map .blk) (vs.drop ks.length) us:=r5;have HC:fg w' aI (o+1) (vs.take ks.length) arr.toList:=r4;obtain⟨l1,l2,l3⟩:=wY (vs.take ks.length) (bA id) s;obtain⟨k1,k2,k3,k4⟩:=tR gB ls us (vs.drop ks.length) (o+(ks.length+1)) _ s' HD hb hp.2;rw[hlt]at l1 l2;have ee:¬bJ (bA id) ks.length id:=by have:=dU id;unfold bJ;omega
     have Bv:∀i,bJ (bA id) ks.length i->∀e∈bH gB ls us (o+(ks.length+1)),¬bJ (bA e.id) e.ks.length i:=by intro i hi e he hi';have GO:=(k4 e he).small.2;unfold bJ at hi hi';have:=(rE (i:=id) (j:=e.id) (m:=i-bA id) (n:=i-bA e.id) (by omega) (by omega) (by omega)).1;exact hp.1 e he this
     have hcell:∀i,bJ (bA id) ks.length i->s'.ob i=(ez (bA id) (vs.take ks.length) s).2.ob i:=by intro i hi;have hge:cZ<=i:=Nat.le_trans (dU id) hi.1;rw[k3 i hge (Bv i hi),St.br _ _ _ (by omega)]
     refine⟨k1.trans l3,fun i hi hn=>?_,fun i hi hn=>?_,fun e he=>?_⟩
     ·have hne:i≠id:=fun e=>hn ⟨ks,id,u,o⟩ (by simp[bH]) e.symm;rw[k2 i hi fun e he=>hn e (by simp only[bH,List.mem_cons];exact .inr he),St.br _ _ _ hne,l1 i (by have:=dU id;unfold bJ;omega)]
     ·rw[k3 i hi fun e he=>hn e (by simp only[bH,List.mem_cons];exact .inr he),St.br _ _ _ (by omega),l1 i (hn ⟨ks,id,u,o⟩ (by simp[bH]))]
     ·simp only[bH,List.mem_cons]at he;rcases he with rfl|he
      ·refine⟨⟨c1,c2⟩,fun i hi=>?_,b,arr,T,vs.take ks.length,(ez (bA id) (vs.take ks.length) s).1,r1,r2,r3,hlt,HC,?_,fun bN s'' hk hs=>?_⟩
       ·rw[hcell i hi];exact l2 i hi
       ·show s'.ob id=_;rw[k2 id c1 fun e he=>fun e'=>hp.1 e he e'.symm,St.aU,l1 id ee];rfl
       ·obtain⟨_,_,_,z⟩:=mr (w:=w') (ω:=bN) (vs.take ks.length) arr.toList (bA id) s hk;refine z s'' fun i hi=>?_;rw[hlt]at hi;rw[hs i hi];exact hcell i hi
      ·obtain⟨m1,m2,b',bS,T',EA,cells',n1,n2,n3,n4,n5,n6,n7⟩:=k4 e he;have hne:e.id≠id:=fun e'=>hp.1 e he e'.symm;have he':∀i,bJ (bA e.id) e.ks.length i->((ez (bA id) (vs.take ks.length) s).2.bM id true (.blk (ez (bA id) (vs.take ks.length) s).1)).ob i=s.ob i:=by intro i hi;have hge:cZ<=i:=Nat.le_trans (dU e.id) hi.1;rw[St.br _ _ _ (by omega),l1 i fun hi'=>Bv i hi' e he hi]
       refine⟨m1,fun i hi=>?_,b',bS,T',EA,cells',n1,n2,n3,n4,n5,?_,n7⟩
       ·have:=m2 i hi;rw[he' i hi]at this;exact this
       ·rw[n6,St.br _ _ _ hne,l1 e.id (by have:=dU id;unfold bJ;have:=m1.1;omega)]
  |_=>cases hb
noncomputable def aK.dg(bc:aK)(m:List (Nat×Nat)):aK:=fun b=>match bc b with
 |none=>none
 |some (i,p)=>match m.find? (fun q=>q.1==i)with
  |some q=>some (q.2,p)
  |none=>some (0,[(b,0)])
noncomputable def aK.c9(bc aI:aK)(m:List (Nat×Nat))(es:List BE)(base B W:Nat):aK:=fun b=>match aI b with
 |none=>none
 |some (j,p)=>
  if j=0 then match bc b with
   |none=>none
   |some (i,q)=>if bJ base W i\/(∃e∈es,bJ (bA e.id) e.ks.length i)\/(∃j,(i,j)∈m)then none else some (i,q)
  else if bJ B W j then some (base+(j-B),p)
  else match es.find? (fun e=>decide (e.out<=j/\j<=e.out+e.ks.length))with
   |some e=>if j=e.out then some (e.id,p)else some (bA e.id+(j-(e.out+1)),p)
   |none=>none
section
variable {bc aI:aK} {s1:S} {m:List (Nat×Nat)} {lo hi:Nat} {es:List BE} {base B W:Nat} (hg:cA w ω s bc s1 m lo hi) (hlo:0<lo)
theorem lZ{b:Nat}(h:bc b=none):bc.dg m b=none:=by unfold aK.dg;rw[h]
include hg in
theorem tY{i j b:Nat}{p:List (Nat×Nat)}(hm:(i,j)∈m)(h:bc b=some (i,p)):bc.dg m b=some (j,p):=by
 unfold aK.dg;rw[h];simp only;cases hf:m.find? (fun q=>q.1==i)with
 |none=>have:=List.find?_eq_none.1 hf (i,j) hm;simp at this
 |some q=>obtain⟨i',j'⟩:=q;have h1:=List.find?_some hf;have h2:=List.mem_of_find?_eq_some hf;simp at h1;subst h1;rw[hg.fn i' j j' hm h2]
theorem qP{i b:Nat}{p:List (Nat×Nat)}(hm:∀j,(i,j)∉m)(h:bc b=some (i,p)):bc.dg m b=some (0,[(b,0)]):=by
 unfold aK.dg;rw[h];simp only;cases hf:m.find? (fun q=>q.1==i)with
 |none=>rfl
 |some q=>obtain⟨i',j'⟩:=q;have h1:=List.find?_some hf;have h2:=List.mem_of_find?_eq_some hf;simp at h1;subst h1;exact absurd h2 (hm j')
theorem gv{b:Nat}{k:Key}(h:bc.dg m b=some k):(∃i,bc b=some (i,k.2)/\(i,k.1)∈m)\/(k=(0,[(b,0)])/\∃i p,bc b=some (i,p)/\∀j,(i,j)∉m):=by
 unfold aK.dg at h;split at h
 ·cases h
 ·rename_i i p hb;split at h
  ·rename_i q hq;injection h with h
   subst h;have h1:=List.find?_some hq;have h2:=List.mem_of_find?_eq_some hq;simp at h1;subst h1;exact .inl ⟨q.1,hb,h2⟩
  ·rename_i hn;injection h with h
   refine .inr ⟨h.symm,i,p,hb,fun j hj=>?_⟩;have:=List.find?_eq_none.1 hn (i,j) hj;simp at this
include hg in
theorem qQ:fG w bc (bc.dg m) m:=⟨fun _ _ h=>lZ h,fun _ _ hm _ _ _ h=>tY hg hm h⟩
include hg hlo in
theorem tX(hinj:∀b b' k,bc b=some k->bc b'=some k->b=b')(b b':Nat)(k:Key)(h:bc.dg m b=some k)(h':bc.dg m b'=some k):b=b':=by
 rcases gv h with ⟨i,e1,e2⟩|⟨e1,i,p,e2,e3⟩ <;> rcases gv h' with ⟨i',f1,f2⟩|⟨f1,i',p',f2,f3⟩
 ·have:=hg.inj i i' k.1 e2 f2;subst this;exact hinj b b' _ e1 f1
 ·rw[f1]at e2;have:=(hg.nY _ _ e2).1;omega
 ·rw[e1]at f2;have:=(hg.nY _ _ f2).1;omega
 ·rw[e1]at f1;injection f1 with _ f1
  injection f1 with f1 _
  injection f1 with f1 _
theorem tV(hd:∀b k,bc b=some k->b<w.heap.size)(b:Nat)(k:Key)(h:bc.dg m b=some k):b<w.heap.size:=by rcases gv h with ⟨_,e1,_⟩|⟨_,_,_,e2,_⟩ <;> exact hd b _ (by assumption)
theorem jO{b:Nat}{k:Key}(h:bc.c9 aI m es base B W b=some k):
  ((∃q,aI b=some (0,q))/\bc b=some k /\ ¬bJ base W k.1/\(∀e∈es,¬bJ (bA e.id) e.ks.length k.1)/\∀j,(k.1,j)∉m) \/
  (∃j,bJ B W j/\k.1=base+(j-B)/\aI b=some (j,k.2))\/(∃e∈es,k.1=e.id/\aI b=some (e.out,k.2))\/∃e∈es,∃t,t<e.ks.length/\k.1=bA e.id+t/\aI b=some (e.out+1+t,k.2):=by
 unfold aK.c9 at h;split at h
 ·cases h
 ·rename_i j p hb;split at h
  ·rename_i h0;subst h0;split at h
   ·cases h
   ·rename_i i q hi;split at h
    ·cases h
    ·rename_i hn;injection h with h
     subst h;exact .inl ⟨⟨p,hb⟩,hi,fun e=>hn (.inl e),fun e he h'=>hn (.inr (.inl ⟨e,he,h'⟩)),fun j hj=>hn (.inr (.inr ⟨j,hj⟩))⟩
  ·split at h
   ·rename_i hr;injection h with h
    subst h;exact .inr (.inl ⟨j,hr,rfl,hb⟩)
   ·split at h
    ·rename_i e he;have q00:=List.find?_some he;have q0:=of_decide_eq_true q00;have q1:=List.mem_of_find?_eq_some he;split at h
     ·rename_i hj;injection h with h
      subst h;exact .inr (.inr (.inl ⟨e,q1,rfl,by rw[hb,hj]⟩))
     ·rename_i hj;injection h with h
      subst h;refine .inr (.inr (.inr ⟨e,q1,j-(e.out+1),by omega,rfl,?_⟩));rw[hb];congr 2;omega
    ·cases h
theorem jN{b:Nat}(h:aI b=none):bc.c9 aI m es base B W b=none:=by unfold aK.c9;rw[h]
theorem vi{b j:Nat}{p:List (Nat×Nat)}(hB:0<B)(hj:bJ B W j)(h:aI b=some (j,p)):bc.c9 aI m es base B W b=some (base+(j-B),p):=by
 unfold aK.c9;rw[h];simp only;have h0:j≠0:=by unfold bJ at hj;omega
 rw[if_neg h0,if_pos hj]
theorem tK{b i:Nat}{p q:List (Nat×Nat)}(h:aI b=some (0,q))(h1:bc b=some (i,p))(h2:¬bJ base W i)(h3:∀e∈es,¬bJ (bA e.id) e.ks.length i)(h4:∀j,(i,j)∉m):bc.c9 aI m es base B W b=some (i,p):=by
 unfold aK.c9;rw[h];simp only[if_true];rw[h1];simp only;rw[if_neg];rintro(e|⟨e,he,hi⟩|⟨j,hj⟩)
 ·exact h2 e
 ·exact h3 e he hi
 ·exact h4 j hj
theorem uh(ho:es.Pairwise fun e e'=>e.out+e.ks.length<e'.out){e:BE}(he:e∈es){j:Nat}(hj:e.out<=j/\j<=e.out+e.ks.length):es.find? (fun e=>decide (e.out<=j/\j<=e.out+e.ks.length))=some e:=by
 cases hf:es.find? (fun e=>decide (e.out<=j/\j<=e.out+e.ks.length))with
 |none=>have:=List.find?_eq_none.1 hf e he;exact absurd (decide_eq_true hj) this
 |some e'=>
  have q00:=List.find?_some hf;have q0:=of_decide_eq_true q00;have q1:=List.mem_of_find?_eq_some hf;rcases dO ho e he e' q1 with h|h|h
  ·rw[h]
  ·omega
  ·omega
theorem vh{b:Nat}{p:List (Nat×Nat)}(ho:es.Pairwise fun e e'=>e.out+e.ks.length<e'.out){e:BE}(he:e∈es)(hB:0<B)(hW:B+W<=e.out)(h:aI b=some (e.out,p)):bc.c9 aI m es base B W b=some (e.id,p):=by unfold aK.c9;rw[h];simp only;rw[if_neg (by omega),if_neg (by unfold bJ;omega),uh ho he ⟨Nat.le_refl _,Nat.le_add_right _ _⟩];simp
theorem tJ{b t:Nat}{p:List (Nat×Nat)}(ho:es.Pairwise fun e e'=>e.out+e.ks.length<e'.out){e:BE}(he:e∈es)(hB:0<B)(hW:B+W<=e.out)(ht:t<e.ks.length)(h:aI b=some (e.out+1+t,p)):bc.c9 aI m es base B W b=some (bA e.id+t,p):=by unfold aK.c9;rw[h];simp only;rw[if_neg (by omega),if_neg (by unfold bJ;omega),uh ho he ⟨by omega,by omega⟩];simp only;rw[if_neg (by omega)];congr 2;omega
end
theorem Tr.BQ{w':World}{bc bN:aK}{s1 s3:S}{i:Nat}(ho:s3.ob i=s1.ob i)(hg:(s1.ob i).o=.gone):Tr w bc s1 w' bN s3 i where
 ref v g h p hr:=⟨by rw[ho];exact hr.1,by rw[ho];exact hr.2.1,fun c hc=>by rw[iH (by rw[ho];exact hg)]at hc;cases hc⟩
 ptr v g off hr:=⟨by rw[ho];exact hr.1,fun _ cells hc=>by rw[ho,hg]at hc;cases hc⟩
 cf v g h p i off hr:=⟨by rw[ho];exact hr.1,by rw[ho];exact hr.2.1,fun c hc=>by rw[iH (by rw[ho];exact hg)]at hc;cases hc⟩
 cS v g hr:=hr.shut (by rw[ho]) fun k x e=>by rw[ho,hg]at e;cases e
theorem ud{i g h:Nat}{p:jF}{cells:List L}(ho:(s.ob i).o=.blk cells):s.cont i g h p=none:=by unfold St.cont fU.cont;rw[ho];cases Nat.beq (s.ob i).g g <;> rfl
theorem Tr.C5{w':World}{bN:aK}{s3:S}{i:Nat}{cells c0:List L}(h0:(s.ob i).o=.blk c0)(hg:(s3.ob i).g=(s.ob i).g)(hh:(s.ob i).h<=(s3.ob i).h)(ho:(s3.ob i).o=.blk cells)(hb:∀b,ω b=some (i,[])->bN b=some (i,[])):Tr w ω s w' bN s3 i:=by
 have zR:∀g0 h0,h0<=(s.ob i).h+(if g0=(s.ob i).g then 0 else h0)->h0<=(s3.ob i).h+(if g0=(s3.ob i).g then 0 else h0):=by
  intro g0 h0 DY;rw[hg];split at DY <;> rename_i hc
  ·rw[if_pos hc];omega
  ·rw[if_neg hc];omega
 exact
 {ref:=fun v g h p hr=>⟨by rw[hg];exact hr.1,zR _ _ hr.2.1,fun c hc=>by rw[ud ho]at hc;cases hc⟩
  ptr:=fun v g off hr=>⟨by rw[hg];exact hr.1,fun e _ _=>by obtain⟨b,f1,f2⟩:=hr.2 (by rw[<-hg];exact e) c0 h0;exact⟨b,hb b f1,f2⟩⟩
  cf:=fun v g h p j off hr=>⟨by rw[hg];exact hr.1,zR _ _ hr.2.1,fun c hc=>by rw[ud ho]at hc;cases hc⟩
  cS:=fun v g hr=>hr.shut hg fun k x e=>by rw[ho]at e;cases e }
theorem sI{w:World}{jI:aK}:∀(aM:List Cp) (vs:List (KV real)) (cv:List Value) (b:Nat),tD w jI b aM vs cv->∀u∈uf aM cv,∃b' n,b<=n/\u=.pointer (some ⟨b',0,none⟩)/\jI b'=some (n,[])
 | [],_,_,_,_,u,hu=>by simp[uf]at hu
 | .ro _::_,_,[],_,h,_,_=>h.elim
 | .mu _::_,_,[],_,h,_,_=>h.elim
 | .ro cs::r,vs,v::cv,b,h,u,hu=>sI r _ cv b h.2.2 u hu
 | .mu ks::r,vs,v::cv,b,h,u,hu=>by
  simp only[uf,List.mem_cons]at hu;rcases hu with rfl|hu
  ·obtain⟨_,⟨b',arr,T,e1,e2,_⟩,_⟩:=h;exact⟨b',b,Nat.le_refl _,e1,e2⟩
  ·obtain⟨b',n,e1,e2,e3⟩:=sI r _ cv _ h.2.2 u hu;exact⟨b',n,by omega,e2,e3⟩
theorem rB{w:World}{jI:aK}:∀(aW:List Sh) (vs:List (KV real)) (us:List Value) (b:Nat),fF w jI b aW vs us->∀u∈eu aW us,∃b' n,b<=n/\u=.pointer (some ⟨b',0,none⟩)/\jI b'=some (n,[])
 | [],_,_,_,_,u,hu=>by simp[eu]at hu
 |_::_,_,[],_,h,_,_=>h.elim
 |sh::aW,vs,v::us,b,h,u,hu=>by
  obtain⟨h1,h2,h3⟩:=h;simp only[eu,List.mem_append]at hu;rcases hu with hu|hu
  ·cases sh with
   |blk ks=>simp only[Sh.Bk,List.mem_singleton]at hu;subst hu;obtain⟨b',arr,T,e1,e2,_⟩:=h2;exact⟨b',b,Nat.le_refl _,e1,e2⟩
   |py f aM=>obtain⟨cv,rfl,h4⟩:=h2;exact sI aM _ cv b h4 u hu
   |_=>simp[Sh.Bk]at hu
  ·obtain⟨b',n,e1,e2,e3⟩:=rB aW _ us _ h3 u hu;exact⟨b',n,by omega,e2,e3⟩
theorem wL:∀(gB:List (List K)) (ls:List L) (us:List Value) (o:Nat),∀e∈bH gB ls us o,e.u∈us
 | [],_,_,_,e,he=>by simp[bH]at he
 |_::_,[],_,_,e,he=>by simp[bH]at he
 |ks::gB,l::ls,[],o,e,he=>by cases l <;> simp[bH]at he
 |ks::gB,l::ls,u::us,o,e,he=>by
  cases l with
  |ptr id g off=>
   simp only[bH,List.mem_cons]at he;rcases he with rfl|he
   ·simp
   ·exact List.mem_cons_of_mem _ (wL gB ls us _ e he)
  |_=>simp[bH]at he
theorem tM{b W:Nat}:∀(gB:List (List K)) (ls:List L) (us:List Value) (o:Nat),apart b W ls=true->∀e∈bH gB ls us o,¬bJ b W e.id
 | [],_,_,_,_,e,he=>by simp[bH]at he
 |_::_,[],_,_,_,e,he=>by simp[bH]at he
 |ks::gB,l::ls,[],o,_,e,he=>by cases l <;> simp[bH]at he
 |ks::gB,l::ls,u::us,o,h,e,he=>by
  cases l with
  |ptr id g off=>
   simp only[apart,Bool.and_eq_true,Bool.or_eq_true]at h;simp only[bH,List.mem_cons]at he;rcases he with rfl|he
   ·rcases h.1 with h|h
    ·have:=Nat.le_of_ble_eq_true h;show ¬bJ b W id;unfold bJ;omega
    ·have:=Nat.le_of_ble_eq_true h;show ¬bJ b W id;unfold bJ;omega
   ·exact tM gB ls us _ h.2 e he
  |_=>simp[bH]at he
theorem vl (h:Rel ω a w s) {args:List Sh} {bY:List ck} {us:List Value} {EE:List (KV real)} {s1:S} {bc:aK} {m:List (Nat × Nat)} (hall:bi (df w ω s) us bY) (ht:bL args bY s = some (EE, s1))
    (hP:Passes ω a w s bc s1) (hG:cA w ω s bc s1 m 1 (1 + aL args)) (hR:fF w (bc.dg m) 1 args EE us)
    {aP:List Sh} {vs Bk:List (KV real)} {base B:Nat} (hbase:0<base) (hB:0<B) (Fw:aP.all Sh.qi = true) (hks:vs.map (·.1) = (aP.map Sh.ks).flatten) (HR:base + aL aP <= cZ) (hap:apart base (aL aP) (cq args bY) = true)
    {w':World} {aI:aK} {v:Value} (gN:dK (bc.dg m) w aI w') (hinj:∀b b' k, aI b = some k -> aI b' = some k -> b = b') (hdom:∀b k, aI b = some k -> b<w'.heap.size) (hr:xq w' aI B aP vs v)
    {s2:S} (DL:g9 (eD args) (cq args bY) Bk s1 = some s2) (CC:fF w' aI (B + aL aP) ((eD args).map .blk) Bk (eu args us)):
    ∃bN, Rel bN a w' (bC base aP vs s2).2 /\ dK ω w bN w' /\ df w' bN (bC base aP vs s2).2 v (TV.mC (bC base aP vs s2).1):=by
  obtain⟨pF, vL⟩:=gD args bY us s (EE, s1) (B + aL aP) (dn.refl s) hall ht;have hW:=gE ht;obtain⟨Bw, uw⟩:=oR (eD args) (cq args bY) (eu args us) (B + aL aP);obtain⟨k1, k2, k3, k4⟩:=tR _ _ _ _ _ _ _ CC DL vL;have hpt:=tM (b:=base) (W:=aL aP) (eD args) (cq args bY) (eu args us) (B + aL aP) hap;have uq:∀e ∈ bH (eD args) (cq args bY) (eu args us) (B + aL aP), ∃j, (e.id, j) ∈ m:=by
    intro e he;obtain⟨b, f1, f2⟩:=(pF e he).at_;obtain⟨b', n, g1, g2, g3⟩:=rB args EE us 1 hR e.u (wL _ _ _ _ e he);rw[f2]at g2;injection g2 with g2
    injection g2 with g2
    injection g2 with g2 _
    subst g2;rcases gv g3 with ⟨i, e1, e2⟩|⟨e1, _⟩
    · have:=hG.back b _ e1
      rw[f1]at this;injection this with this
      injection this with this _
      exact⟨_, by rw[this]; exact e2⟩
    · injection e1 with e1 _
      omega
  revert pF vL Bw uw k2 k3 k4 hpt uq;generalize bH (eD args) (cq args bY) (eu args us) (B + aL aP) = es;intro pF vL Bw uw k2 k3 k4 hpt uq;have Bn:∀e ∈ es, e.id<cZ /\ e.ks.length <= 64:=fun e he=>(k4 e he).small;have hkeep:∀b i p, bc b = some (i, p) -> (∀j, (i, j)∉m) -> ¬bJ base (aL aP) i -> (∀e ∈ es, ¬bJ (bA e.id) e.ks.length i) -> w'.heap[b]? = w.heap[b]? /\ bc.c9 aI m es base B (aL aP) b = some (i, p):=by intro b i p hb hm hn hc;have hcb:=qP hm hb;obtain⟨q1, q2⟩:=gN.block b (hP.rel.dom b _ hb) (.inr ⟨_, hcb⟩);exact⟨q1, tK (q2.trans hcb) hb hn hc hm⟩
  have GN:∀j, (0, j)∉m:=fun j hj=>hG.nz 0 j hj rfl;have Ga:dK bc w (bc.c9 aI m es base B (aL aP)) w':=by
    refine⟨gN.os, gN.tape, gN.output, gN.size, fun b hb hf=>?_⟩;rcases hf with hf|⟨q, hf⟩
    · have hn:=lZ (m:=m) hf
      obtain⟨q1, q2⟩:=gN.block b hb (.inl hn);exact⟨q1, by rw[hf]; exact jN (q2.trans hn)⟩
    · have:=hkeep b 0 q hf GN (by unfold bJ; omega) (fun e _=>sv e)
      exact⟨this.1, this.2.trans hf.symm⟩
  have hE:dK ω w (bc.c9 aI m es base B (aL aP)) w':=hP.ext.trans Ga;have hown:∀i, bJ B (aL aP) i -> ∀b p, b<w'.heap.size -> aI b = some (i, p) -> bc.c9 aI m es base B (aL aP) b = some (base + (i-B), p):=fun i hi b p _ hb=>vi hB hi hb;obtain⟨yM, CS, hv⟩:=r8 (bN:=bc.c9 aI m es base B (aL aP)) Fw hks hown (.inr fun b _ hb=>jN hb) hr;obtain⟨y1, y2, y3, y4⟩:=kE aP vs yM base s2 CS;obtain⟨m1, m2⟩:=y4 _ (fun _ _=>rfl);have pD:∀e ∈ es, ∀i, bJ (bA e.id) e.ks.length i -> (bC base aP vs s2).2.ob i = s2.ob i:=by intro e he i hi;refine y1 i ?_;have:=dU e.id;unfold bJ at hi⊢;omega
  have DN:∀e ∈ es, ∃b arr T cells, bc.c9 aI m es base B (aL aP) b = some (e.id, []) /\ w'.heap[b]? = some (.cells arr T (0, 0)) /\ ω b = some (e.id, []) /\ (bC base aP vs s2).2.ob e.id = ⟨(s1.ob e.id).g, (s1.ob e.id).h + 1, .blk cells⟩ /\ bi (cw w' (bc.c9 aI m es base B (aL aP)) (bC base aP vs s2).2) arr.toList cells:=by
    intro e he;obtain⟨z1, z2, b, arr, T, vals, cells, n1, n2, n3, n4, n5, n6, n7⟩:=k4 e he;obtain⟨b0, f1, f2⟩:=(pF e he).at_;rw[f2]at n1;injection n1 with n1
    injection n1 with n1
    injection n1 with n1 _
    subst n1;refine⟨b0, arr, T, cells, vh uw he hB (Bw e he) n2, n3, f1, by rw[y1 e.id (hpt e he), n6], n7 _ _ ?_ (pD e he)⟩;have:=iC (w:=w') (aI:=aI) (bN:=bc.c9 aI m es base B (aL aP)) (base:=bA e.id) (B:=e.out + 1) (W:=e.ks.length) (fun i hi b p _ hb=>?_) vals arr.toList (e.out + 1) (Nat.le_refl _) (by omega) (.inr fun b _ hb=>jN hb) n5
    · rwa[Nat.sub_self, Nat.add_zero]at this
    · unfold bJ at hi
      have:=tJ (bc:=bc) (aI:=aI) (m:=m) (base:=base) (W:=aL aP) (t:=i-(e.out + 1)) uw he hB (Bw e he) (by omega) (b:=b) (p:=p) (by rw[hb]; congr 2; omega);rw[this]
  have tq:∀i, ¬bJ base (aL aP) i -> (∀e ∈ es, e.id ≠ i) -> (∀e ∈ es, ¬bJ (bA e.id) e.ks.length i) -> (bC base aP vs s2).2.ob i = s1.ob i:=by
    intro i hi he hc;rw[y1 i hi];by_cases hlt:i<cZ
    · exact k2 i hlt he
    · exact k3 i (Nat.le_of_not_lt hlt) hc
  have hgrow:∀i, (s1.ob i).g <= (s2.ob i).g:=by
    intro i;by_cases hlt:i<cZ
    · by_cases hex:∃e ∈ es, e.id = i
      · obtain⟨e, he, rfl⟩:=hex
        obtain⟨_, _, b, arr, T, vals, cells, n1, n2, n3, n4, n5, n6, n7⟩:=k4 e he;rw[n6];exact Nat.le_refl _
      · rw[k2 i hlt fun e he h=>hex ⟨e, he, h⟩]; exact Nat.le_refl _
    · by_cases hex:∃e ∈ es, bJ (bA e.id) e.ks.length i
      · obtain⟨e, he, hi⟩:=hex
        exact Nat.le_of_lt ((k4 e he).cells i hi).1
      · rw[k3 i (Nat.le_of_not_lt hlt) fun e he h=>hex ⟨e, he, h⟩]; exact Nat.le_refl _
  have tr:∀i, Tr w ω s w' (bc.c9 aI m es base B (aL aP)) (bC base aP vs s2).2 i:=by
    intro i;by_cases e:bJ base (aL aP) i
    · exact(hP.tr i).trans (dm.tr (Nat.lt_of_le_of_lt (hgrow i) (y2 i e)))
    · by_cases hex:∃e ∈ es, e.id = i
      · obtain⟨e', he, rfl⟩:=hex
        obtain⟨b, arr, T, cells, q1, q2, q3, q4, q5⟩:=DN e' he;obtain⟨c0, hc0⟩:=(pF e' he).was;refine Tr.C5 (cells:=cells) hc0 (by rw[q4]; exact hW.g e'.id) (by rw[q4]; exact Nat.le_succ_of_le (hW.h e'.id)) (by rw[q4]) fun b' hb'=>?_;rw[h.inj b' b _ hb' q3];exact q1
      · by_cases CG:∃e ∈ es, bJ (bA e.id) e.ks.length i
        · obtain⟨e', he, hi⟩:=CG
          refine(hP.tr i).trans (dm.tr ?_);unfold dm;rw[pD e' he i hi];exact((k4 e' he).cells i hi).1
        · have bX:=tq i e (fun e' he h'=>hex ⟨e', he, h'⟩) (fun e' he h'=>CG ⟨e', he, h'⟩)
          by_cases hm:∃j, (i, j) ∈ m
          · obtain⟨j, hj⟩:=hm
            exact(hP.tr i).trans (Tr.BQ bX (hG.is i j hj))
          · refine(hP.tr i).trans (gk.tr ⟨bX, fun b kk hb hk hj=>?_⟩ Ga hP.rel.dom)
            obtain⟨i', p⟩:=kk;have:i' = i:=hj;subst this;have:=hkeep b i' p hk (fun j hj=>hm ⟨j, hj⟩) e (fun e' he h'=>CG ⟨e', he, h'⟩);exact⟨this.1, this.2.trans hk.symm⟩
  refine⟨_, ?_, hE, hv _ _ m1⟩;exact
  { inj:=fun b b' k h1 h2=>by
      rcases jO h1 with ⟨a1, a2, a3, a4, a5⟩|⟨j, a1, a2, a3⟩|⟨e, a1, a2, a3⟩|⟨e, a1, t, a2, a3, a4⟩ <;> rcases jO h2 with ⟨c1, c2, c3, c4, c5⟩|⟨j', c1, c2, c3⟩|⟨e', c1, c2, c3⟩|⟨e', c1, t', c2, c3, c4⟩
      · exact hP.rel.inj b b' k a2 c2
      · exact absurd (by rw[c2]; unfold bJ at c1⊢; omega) a3
      · obtain⟨j, hj⟩:=uq e' c1
        exact absurd (by rw[c2]; exact hj) (a5 j)
      · exact absurd (by rw[c3]; unfold bJ; omega) (a4 e' c1)
      · exact absurd (by rw[a2]; unfold bJ at a1⊢; omega) c3
      · have:j = j':=by unfold bJ at a1 c1; omega
        subst this;exact hinj b b' _ a3 c3
      · exact absurd (by rw[<- c2, a2]; unfold bJ at a1⊢; omega) (hpt e' c1)
      · exfalso; have:=dU e'.id; unfold bJ at a1; omega
      · obtain⟨j, hj⟩:=uq e a1
        exact absurd (by rw[a2]; exact hj) (c5 j)
      · exact absurd (by rw[<- a2, c2]; unfold bJ at c1⊢; omega) (hpt e a1)
      · have:e = e':=by
          rcases dO vL e a1 e' c1 with h|h|h
          · exact h
          · exact absurd (a2.symm.trans c2) h
          · exact absurd (c2.symm.trans a2) h
        subst this;exact hinj b b' _ a3 c3
      · exfalso; have:=dU e'.id; have:=(Bn e a1).1; omega
      · exact absurd (by rw[a3]; unfold bJ; omega) (c4 e a1)
      · exfalso; have:=dU e.id; unfold bJ at c1; omega
      · exfalso; have:=dU e.id; have:=(Bn e' c1).1; omega
      · have hlt:=(Bn e a1).2
        have Fq:=(Bn e' c1).2;obtain⟨q1, q2⟩:=rE (i:=e.id) (j:=e'.id) (m:=t) (n:=t') (by omega) (by omega) (a3.symm.trans c3);have:e = e':=by
          rcases dO vL e a1 e' c1 with h|h|h
          · exact h
          · exact absurd q1 h
          · exact absurd q1.symm h
        subst this;subst q2;exact hinj b b' _ a4 c4
    dom:=fun b k h1=>by
      rcases jO h1 with ⟨a1, a2, _⟩|⟨j, a1, a2, a3⟩|⟨e, a1, a2, a3⟩|⟨e, a1, t, a2, a3, a4⟩
      · exact Nat.lt_of_lt_of_le (hP.rel.dom b k a2) gN.size
      · exact hdom b _ a3
      · exact hdom b _ a3
      · exact hdom b _ a4
    defers:=h.defers
    HY:=h.HY.ext hE
    dN:=by rw[tq 0 (by unfold bJ; omega) (fun e he h0=>by obtain⟨j, hj⟩:=uq e he; exact hG.nz _ _ hj h0) (fun e _=>sv e)];exact hP.rel.dN
    slots:=fun i=>by
      have jC:(bC base aP vs s2).2.sl = s.sl:=by rw[y3, k1]; exact qA ht
      rw[jC];exact df.frame hE tr (h.slots i)
    dx:=fun i cells dY=>by
      by_cases e:bJ base (aL aP) i
      · exact m2 i cells e dY
      · by_cases hex:∃e ∈ es, e.id = i
        · obtain⟨e', he, rfl⟩:=hex
          obtain⟨b, arr, T, cells', q1, q2, q3, q4, q5⟩:=DN e' he;rw[q4]at dY;injection dY with dY
          subst dY;exact⟨b, arr, T, q1, q2, q5⟩
        · by_cases CG:∃e ∈ es, bJ (bA e.id) e.ks.length i
          · obtain⟨e', he, hi⟩:=CG
            rw[pD e' he i hi]at dY;exact absurd dY (((k4 e' he).cells i hi).2 cells)
          · have bX:=tq i e (fun e' he h'=>hex ⟨e', he, h'⟩) (fun e' he h'=>CG ⟨e', he, h'⟩)
            rw[bX]at dY;have hs:=hW.blk dY;have hc0:=dY;rw[hs]at hc0;obtain⟨b, arr, T, g1, g2, g3⟩:=h.dx i cells hc0;have hm:∀j, (i, j)∉m:=fun j hj=>by rw[hG.is i j hj]at dY; cases dY
            obtain⟨b1, eE, T1, f1, f2, f3⟩:=hP.rel.dx i cells dY;have:=hkeep b1 i [] f1 hm e (fun e' he h'=>CG ⟨e', he, h'⟩);have Ff:b1 = b:=h.inj b1 b _ (hG.back b1 _ f1) g1;subst Ff;refine⟨b1, arr, T, this.2, this.1.trans g2, g3.mono fun _ _ hl=>cw.frame hE tr hl⟩ }
end
end Go.R
set_option linter.unusedVariables false
namespace Go.R
open Classical
section
variable {R:Type} {P:Program} {E:Env} {Ψ:bR->Option gY} {ω:aK} {a:Act} {w:World} {s:S} {k:S->Option R} {r:R} {o:Oper} {Q:Exit->Act->World->Prop}
noncomputable def dJ(id nb:Nat)(q:List (Nat×Nat)):Key->Option Key:=fun k=>if k.1=id then(if q <+: k.2 then some (nb,k.2.drop q.length)else some k)else if k.1=nb then none else some k
noncomputable def eM(id nb:Nat)(q:List (Nat×Nat)):Key->Option Key:=fun k=>if k.1=nb then some (id,q++k.2)else if k.1=id/\q <+: k.2 then none else some k
theorem wv{id nb:Nat}{q:List (Nat×Nat)}(hne:id≠nb)(k k' z:Key)(h:dJ id nb q k=some z)(h':dJ id nb q k'=some z):k=k':=by
 have inv:∀k,dJ id nb q k=some z->(k.1=id/\∃r,k.2=q++r/\z=(nb,r))\/(k.1≠nb/\z=k):=by
  intro k h;unfold dJ at h;split at h
  ·rename_i e;split at h
   ·rename_i hp;obtain⟨r,hr⟩:=hp;injection h with h
    refine .inl ⟨e,r,hr.symm,?_⟩;rw[<-h,<-hr,List.drop_left]
   ·injection h with h
    exact .inr ⟨by rw[e];exact hne,h.symm⟩
  ·split at h
   ·cases h
   ·rename_i hn;injection h with h
    exact .inr ⟨hn,h.symm⟩
 rcases inv k h with ⟨e1,r,e2,e3⟩|⟨e1,e2⟩ <;> rcases inv k' h' with ⟨f1,r',f2,f3⟩|⟨f1,f2⟩
 ·rw[e3]at f3;injection f3 with _ f3
  exact Prod.ext (e1.trans f1.symm) (by rw[e2,f2,f3])
 ·rw[<-f2,e3]at f1;exact absurd rfl f1
 ·rw[<-e2,f3]at e1;exact absurd rfl e1
 ·exact e2.symm.trans f2
theorem wc{id nb:Nat}{q:List (Nat×Nat)}(k k' z:Key)(h:eM id nb q k=some z)(h':eM id nb q k'=some z):k=k':=by
 have inv:∀k,eM id nb q k=some z->(k.1=nb/\z=(id,q++k.2))\/(¬(k.1=id/\q <+: k.2)/\z=k):=by
  intro k h;unfold eM at h;split at h
  ·rename_i e;injection h with h
   exact .inl ⟨e,h.symm⟩
  ·split at h
   ·cases h
   ·rename_i hn;injection h with h
    exact .inr ⟨hn,h.symm⟩
 rcases inv k h with ⟨e1,e2⟩|⟨e1,e2⟩ <;> rcases inv k' h' with ⟨f1,f2⟩|⟨f1,f2⟩
 ·rw[e2]at f2;injection f2 with _ f2
  exact Prod.ext (e1.trans f1.symm) (List.append_cancel_left f2)
 ·rw[<-f2,e2]at f1;exact absurd ⟨rfl,List.prefix_append _ _⟩ f1
 ·rw[<-e2,f2]at e1;exact absurd ⟨rfl,List.prefix_append _ _⟩ e1
 ·exact e2.symm.trans f2
theorem qt(h:Rel ω a w s){id nb g hh e:Nat}{cs:aJ}{x:List cs.T}{p:jF}{c:Cont real}(hp:p≠[])(hc:s.cont id g hh p=some c)(ho:(s.ob id).o=.arr e cs true x)(hne:id≠nb)(hnb:nb≠0):
  Rel (ω.via (dJ id nb (bD p))) a w ((s.bM id true .gone).new nb (.arr c.e c.cs true c.x))/\dK ω w (ω.via (dJ id nb (bD p))) w/\(∀j,j≠id->Tr w ω s w (ω.via (dJ id nb (bD p))) ((s.bM id true .gone).new nb (.arr c.e c.cs true c.x)) j) /\
   (∀j,Tr w ω s w (ω.via (dJ id nb (bD p))) ((s.bM id true .gone).new nb (.arr c.e c.cs true c.x)) j) /\
   ∀u,(Ty.sl c.e c.cs).R w ω (.deep (id,bD p)) u c.x->cw w (ω.via (dJ id nb (bD p))) ((s.bM id true .gone).new nb (.arr c.e c.cs true c.x)) u (.ref nb (((s.bM id true .gone).new nb (.arr c.e c.cs true c.x)).ob nb).g 0 []):=by
 have h0:id≠0:=h.qO (by rw[ho];exact fun e=>by cases e);have he:dK ω w (ω.via (dJ id nb (bD p))) w:=⟨rfl,rfl,rfl,Nat.le_refl _,fun b hb hf=>⟨rfl,nG (fun q=>by unfold dJ;rw[if_neg (Ne.symm h0),if_neg (Ne.symm hnb)]) hf⟩⟩
 have bX:∀j,j≠id->j≠nb->((s.bM id true .gone).new nb (.arr c.e c.cs true c.x)).ob j=s.ob j:=fun j h1 h2=>by unfold St.new;rw[St.bB _ _ h2,St.br _ _ _ h1]
 have ux:((s.bM id true .gone).new nb (.arr c.e c.cs true c.x)).ob id=⟨(s.ob id).g,(s.ob id).h+1,.gone⟩:=by unfold St.new;rw[St.bB _ _ hne,St.aU];rfl
 have By:((s.bM id true .gone).new nb (.arr c.e c.cs true c.x)).ob nb=⟨(s.ob nb).g+1,0,.arr c.e c.cs true c.x⟩:=by unfold St.new;rw[St.aX,St.br _ _ _ (Ne.symm hne)]
 have hkeep:∀j,j≠id->j≠nb->∀b q,ω b=some (j,q)->ω.via (dJ id nb (bD p)) b=some (j,q):=by intro j h1 h2 b q hb;rw[c8 hb];unfold dJ;rw[if_neg h1,if_neg h2]
 have tr:∀j,Tr w ω s w (ω.via (dJ id nb (bD p))) ((s.bM id true .gone).new nb (.arr c.e c.cs true c.x)) j:=by
  intro j;by_cases e1:j=id
  ·subst e1;exact Tr.mg (by rw[ux]) (by rw[ux];exact Nat.le_succ _) (by rw[ux])
  ·by_cases e2:j=nb
   ·subst e2;exact dm.tr (by unfold dm;rw[By];exact Nat.lt_succ_self _)
   ·refine gk.tr ⟨bX j e1 e2,fun b kk hb hk hj=>⟨rfl,?_⟩⟩ he h.dom;obtain⟨j',q⟩:=kk;simp only at hj;subst hj;rw[hk];exact hkeep j' e1 e2 b q hk
 refine⟨h.zz he (oF h.inj (wv hne)) (oD h.dom) rfl ?_ tr (fun j cells ju=>?_),he,fun j _=>tr j,tr,fun u hu=>⟨Nat.le_refl _,by simp,fun c' dY=>?_⟩⟩
 ·rw[bX 0 (Ne.symm h0) (Ne.symm hnb)];exact h.dN
 ·have e1:j≠id:=fun e=>by subst e;rw[ux]at ju;cases ju
  have e2:j≠nb:=fun e=>by subst e;rw[By]at ju;cases ju
  exact⟨bX j e1 e2,fun b hb=>⟨rfl,hkeep j e1 e2 b [] hb⟩⟩
 ·rw[cr (by rw[By]) rfl]at dY;injection dY with dY
  subst dY;refine Ty.gj (.sl c.e c.cs) (id,bD p) (nb,[]) u c.x (fun b rr hb hk=>⟨rfl,?_⟩) hu;have hk:ω b=some (id,bD p++rr):=hk;rw[c8 hk];unfold dJ;rw[if_pos rfl,if_pos (List.prefix_append _ _),List.drop_left];rfl
theorem iP (h:Rel ω a w s) {id nb g hh e base W:Nat} {cs:aJ} {x:List cs.T} {p:jF} {c:Cont real} {u:Value} (hp:p≠[]) (hc:s.cont id g hh p=some c) (ho:(s.ob id).o=.arr e cs true x) (hne:id≠nb) (hnb:nb≠0) (hW:¬bJ base W nb) (hu:cw w ω s u (.ref id g hh p))
  {bW:aK} {w':World} {s3 s4:S} {L:Nat->Prop} {v:Value} {t:ck} (hR:Rel bW a w' s3) (A:va (ω.via (dJ id nb (bD p))) w ((s.bM id true .gone).new nb (.arr c.e c.cs true c.x)) bW w' s3 base W L v t)
  (hm:jh (A:=real) ⟨nb,(((s.bM id true .gone).new nb (.arr c.e c.cs true c.x)).ob nb).g,id,g,e,cs,x,c,p⟩ s3=some s4):∃EZ,Rel EZ a w' s4/\dK ω w EZ w'/\df w' EZ s4 v t:=by
 have h0:id≠0:=h.qO (by rw[ho];exact fun e=>by cases e);obtain⟨Df,G0,_,CR,hnew⟩:=qt h hp hc ho hne hnb;obtain⟨G4,hcs⟩:=dz hc;have jH:c.md=2/\follow (A:=real) 2 e cs x p=some c:=by
  rcases hcs with ⟨_,_,f2,_⟩|⟨e',cs',x',f1,_,_,f4⟩|⟨_,f2,_⟩
  ·exact absurd f2 hp
  ·rw[ho]at f1;injection f1 with g1 g2 g3 g4
   subst g1;subst g2;have g4:=eq_of_heq g4;subst g4;exact⟨iI 2 p e cs x c f4,f4⟩
  ·exact absurd f2 hp
 obtain⟨jH,hf⟩:=jH;have ER:(Ty.sl c.e c.cs).R w ω (.deep (id,bD p)) u c.x:=by have:=hu.2.2 c hc;rw[jH]at this;exact this
 unfold jh at hm;simp only at hm;split at hm;case h_2=>cases hm
 rename_i e2 F4 dp y uw;cases hb:((Nat.beq (s3.ob id).g g&&Nat.beq (s3.ob nb).g (((s.bM id true .gone).new nb (.arr c.e c.cs true c.x)).ob nb).g)&&(Nat.ble 1 g&&(dp||F4.plain)))with
 |false=>rw[hb]at hm;cases hm
 |true=>
  rw[hb]at hm;simp only[cond_true]at hm;rw[Bool.and_eq_true,Bool.and_eq_true,Bool.and_eq_true]at hb;obtain⟨⟨zF,yP⟩,Fe,Ge⟩:=hb;have zF:=Nat.eq_of_beq_eq_true zF;have yP:=Nat.eq_of_beq_eq_true yP;have Fe:1<=g:=Nat.le_of_ble_eq_true Fe;split at hm;case isFalse=>cases hm
  rename_i Gv;have FA:=Ty.eq_of_beq Gv;injection FA with t1 t2
  subst t1;subst t2;cases BA:putAt (A:=real) c (real.cast Gv y) e cs x p with
  |none=>rw[BA]at hm;cases hm
  |some x'=>
   rw[BA]at hm;have hm:=Option.some.inj hm;have BA:putAt (A:=real) c y e cs x p=some x':=BA;have bX:∀j,j≠id->j≠nb->((s.bM id true .gone).new nb (.arr c.e c.cs true c.x)).ob j=s.ob j:=fun j h1 h2=>by unfold St.new;rw[St.bB _ _ h2,St.br _ _ _ h1]
   have ux:((s.bM id true .gone).new nb (.arr c.e c.cs true c.x)).ob id=⟨(s.ob id).g,(s.ob id).h+1,.gone⟩:=by unfold St.new;rw[St.bB _ _ hne,St.aU];rfl
   have By:((s.bM id true .gone).new nb (.arr c.e c.cs true c.x)).ob nb=⟨(s.ob nb).g+1,0,.arr c.e c.cs true c.x⟩:=by unfold St.new;rw[St.aX,St.br _ _ _ (Ne.symm hne)]
   have Gm:¬bJ base W id:=fun hi=>by have:=A.En id hi;rw[ux]at this;simp only at this;omega
   have G5:¬L id:=fun hl=>(A.gC id hl).1 (by rw[ux]);obtain⟨Hw,Hx⟩:=A.kept id Gm G5;have DG:s4.ob id=⟨(s.ob id).g,(s.ob id).h+2,.arr e cs true x'⟩:=by rw[<-hm,St.aU,St.br _ _ _ hne,Hw,ux];rfl
   have DH:s4.ob nb=⟨(s3.ob nb).g,(s3.ob nb).h+1,.gone⟩:=by rw[<-hm,St.br _ _ _ (Ne.symm hne),St.aU];rfl
   have DI:∀j,j≠id->j≠nb->s4.ob j=s3.ob j:=fun j h1 h2=>by rw[<-hm,St.br _ _ _ h1,St.br _ _ _ h2]
   have hkp:bD p≠[]:=fun e=>by
    cases p with
    |nil=>exact hp rfl
    |cons st p=>cases e
   have Hh:¬bD p <+: []:=fun⟨t,ht⟩=>hkp (List.append_eq_nil_iff.1 ht).1;have zU:∀b r,ω b=some (id,r) -> ¬bD p <+: r->w'.heap[b]? = w.heap[b]? /\ bW.via (eM id nb (bD p)) b=some (id,r):=by
    intro b r hb hn;have h1:ω.via (dJ id nb (bD p)) b=some (id,r):=by rw[c8 hb];unfold dJ;rw[if_pos rfl,if_neg hn]
    obtain⟨q1,q2⟩:=Hx b r h1;refine⟨q1,?_⟩;rw[c8 q2];unfold eM;rw[if_neg hne,if_neg (fun hq=>hn hq.2)]
   have sP:∀j,j≠id->j≠nb->∀b q,bW b=some (j,q)->bW.via (eM id nb (bD p)) b=some (j,q):=by intro j h1 h2 b q hb;rw[c8 hb];unfold eM;rw[if_neg h2,if_neg (fun hq=>h1 hq.1)]
   have DT:dK bW w' (bW.via (eM id nb (bD p))) w':=⟨rfl,rfl,rfl,Nat.le_refl _,fun b hb hf=>⟨rfl,nG (fun q=>by unfold eM;rw[if_neg (Ne.symm hnb),if_neg (fun hq=>h0 hq.1.symm)]) hf⟩⟩
   have hE:dK ω w (bW.via (eM id nb (bD p))) w':=(G0.trans A.ext).trans DT;have pI:∀u',(Ty.sl c.e c.cs).R w ω (.deep (id,bD p)) u' c.x->(Ty.sl c.e c.cs).R w' bW (.deep (nb,[])) u' y:=by intro u' oo;have q1:=(A.tr nb).ref u' _ 0 [] (hnew u' oo);have q2:=q1.2.2 _ (cr (h:=0) uw yP.symm);have q3:=eY (B6:=true) (by rw[Bool.or_eq_true]at Ge;exact Ge) q2;exact q3
   have Ej:y.length=List.length c.x:=by
    obtain⟨xw,n',EF,f1,f2,_⟩:=pI u ER;obtain⟨ad,n,cp,e1,e2,_⟩:=ER;rw[e1]at f1;injection f1 with _ z2 _
    exact f2.trans (z2.symm.trans e2.symm)
   have FZ:∀j,j≠id->Tr w' bW s3 w' (bW.via (eM id nb (bD p))) s4 j:=by
    intro j hj;by_cases e2:j=nb
    ·subst e2;exact Tr.mg (by rw[DH]) (by rw[DH];exact Nat.le_succ _) (by rw[DH])
    ·refine gk.tr ⟨DI j hj e2,fun b kk hb hk hj'=>⟨rfl,?_⟩⟩ DT hR.dom;obtain⟨j',q⟩:=kk;simp only at hj';subst hj';rw[hk];exact sP j' hj e2 b q hk
   have tr:∀j,Tr w ω s w' (bW.via (eM id nb (bD p))) s4 j:=by
    intro j;by_cases e1:j=id
    ·subst e1;refine Tr.zg ho (by rw[DG]) (by rw[DG];show _<_+2;omega) (by rw[DG]) (r0 Ej p e cs x x' hf BA) (fun b hb=>(zU b [] hb Hh).2) (fun v hv=>?_);refine sy p [] e cs x x' v hf BA (fun b rr _ hk hn=>zU b rr hk hn) (fun u' oo=>?_) hv;refine Ty.gj (.sl c.e c.cs) (nb,[]) (j,bD p) u' y (fun b rr hb hk=>⟨rfl,?_⟩) (pI u' oo);have hk:bW b=some (nb,rr):=hk;rw[c8 hk];unfold eM;rw[if_pos rfl]
    ·exact((CR j).trans (A.tr j)).trans (FZ j e1)
   have Fx:∀i,bJ base W i->(⟨s4.sl,fun i=>if i=id then⟨0,0,.gone⟩else s4.ob i⟩:S).ob i=s3.ob i:=by
    intro i hi;have e1:i≠id:=fun e=>by subst e;exact Gm hi
    have e2:i≠nb:=fun e=>by subst e;exact hW hi
    simp only[if_neg e1];exact DI i e1 e2
   obtain⟨FT,FU⟩:=A.res _ Fx;have GB:∀j,Tr w' bW (⟨s4.sl,fun i=>if i=id then⟨0,0,.gone⟩else s4.ob i⟩:S) w' (bW.via (eM id nb (bD p))) s4 j:=by
    intro j;by_cases e1:j=id
    ·subst e1;refine dm.tr ?_;unfold dm;simp only[if_true];rw[DG,G4];exact Fe
    ·have pG:s4.ob j=(⟨s4.sl,fun i=>if i=id then⟨0,0,.gone⟩else s4.ob i⟩:S).ob j:=by simp only[if_neg e1]
     by_cases e2:j=nb
     ·subst e2;exact Tr.mg (by rw[<-pG]) (by rw[<-pG];exact Nat.le_refl _) (by rw[DH])
     ·refine gk.tr ⟨pG,fun b kk hb hk hj'=>⟨rfl,?_⟩⟩ DT hR.dom;obtain⟨j',q⟩:=kk;simp only at hj';subst hj';rw[hk];exact sP j' e1 e2 b q hk
   refine⟨bW.via (eM id nb (bD p)),?_,hE,df.frame DT GB FT⟩;exact
   {HY:=h.HY.ext hE
    inj:=oF hR.inj wc
    dom:=oD hR.dom
    defers:=h.defers
    slots:=fun i=>by
     have:s4.sl=s.sl:=by rw[<-hm];exact A.sl
     rw[this];exact df.frame hE tr (h.slots i)
    dN:=by rw[DI 0 (Ne.symm h0) (Ne.symm hnb)];exact hR.dN
    dx:=fun j cells ju=>by
     have e1:j≠id:=fun e=>by subst e;rw[DG]at ju;cases ju
     have e2:j≠nb:=fun e=>by subst e;rw[DH]at ju;cases ju
     by_cases hi:bJ base W j
     ·obtain⟨b,arr,T,q1,q2,q3⟩:=FU j cells hi (by simp only[if_neg e1];exact ju);exact⟨b,arr,T,sP j e1 e2 b [] q1,q2,q3.mono fun _ _ hl=>cw.frame DT GB hl⟩
     ·have hnl:¬L j:=fun hl=>(A.gC j hl).2 hi cells (by rw[<-DI j e1 e2];exact ju);obtain⟨k1,k2⟩:=A.kept j hi hnl;rw[DI j e1 e2,k1,bX j e1 e2]at ju;obtain⟨b,arr,T,q1,q2,q3⟩:=h.dx j cells ju;have h1:ω.via (dJ id nb (bD p)) b=some (j,[]):=by rw[c8 q1];unfold dJ;rw[if_neg e1,if_neg e2]
      obtain⟨m1,m2⟩:=k2 b [] h1;exact⟨b,arr,T,sP j e1 e2 b [] m2,m1.trans q2,q3.mono fun _ _ hl=>cw.frame hE tr hl⟩ }
end
end Go.R
namespace Go.R
section
variable {R:Type} {P:Program} {E:Env} {Ψ:bR->Option gY} {ω:aK} {a:Act} {w:World} {s:S} {k:S->Option R} {r:R} {o:Oper} {Q:Exit->Act->World->Prop}
theorem wI(h:Rel ω a w s)(E:Env):∀(args:List Operand) (fC:List Nat),args.length=fC.length->bi (df w ω s) (args.map a.eval) ((args.zip fC).map fun p=>ev E s p.2 p.1)
 | [],[],_=>trivial
 |x::args,t::fC,hl=>⟨bT h E t x,wI h E args fC (by simpa using hl)⟩
 | [],_::_,hl=>by cases hl
 |_::_,[],hl=>by cases hl
theorem wN:∀(cv:List Value) (cc:List (dc real)),bi (fun v c=>gr w ω s v c) cv cc->bi (df w ω s) cv (cc.map dc.tv)
 | [],[],_=>trivial
 |v::cv,c::cc,h=>⟨by cases c <;> exact h.1,wN cv cc h.2⟩
 | [],_::_,h=>h.elim
 |_::_,[],h=>h.elim
theorem bi.set{α β:Type}{r:α->β->Prop}:∀ {as:List α} {bs:List β} (h:bi r as bs) (i:Nat) {a:α} {b:β},as[i]? = some a->r a b->bi r as (bs.set i b)
 | [],[],_,_,_,_,hi,_=>by simp at hi
 |a0::_,_::_,h,0,a,b,hi,hr=>by simp at hi;subst hi;exact⟨hr,h.2⟩
 |_::_,_::_,h,i+1,_,_,hi,hr=>⟨h.1,bi.set h.2 i (by simpa using hi) hr⟩
 | [],_::_,h,_,_,_,_,_=>h.elim
 |_::_,[],h,_,_,_,_,_=>h.elim
theorem rj:∀ {aW:List Sh},(aW.all fun sh=>sh.eJ||sh.flat)=true->eD aW=[]
 | [],_=>rfl
 |sh::aW,h=>by rw[List.all_cons,Bool.and_eq_true]at h;rw[ku,rj h.2];cases sh <;> first|rfl|cases h.1
theorem nH:∀(aW:List Sh),ed aW=aL aW
 | []=>rfl
 |sh::aW=>by simp only[ed,aL,List.map_cons,List.sum_cons];rw[nH aW];rfl
theorem Cx{α:Type}{b:Bool}{x y:α}(h:b=true):(bif b then x else y)=x:=by rw[h];rfl
theorem Cw{α:Type}{b:Bool}{x y:α}(h:b=false):(bif b then x else y)=y:=by rw[h];rfl
theorem wW{F:gY}(y:fE real ((F.aP.map Sh.ks).flatten++(dZ F.look F.args++(eD F.args).flatten))):((cl (A:=real) ((F.aP.map Sh.ks).flatten++(dZ F.look F.args++(eD F.args).flatten)) y).take (F.aP.map Sh.ks).flatten.length).map (fun v:KV real=>v.1)=(F.aP.map Sh.ks).flatten:=by rw[List.map_take,j3,List.take_left'];rfl
theorem tU {F:gY} {tj d:Nat} (hc:eK P tj F) (hL:F.look=true) (b2:F.aP.all Sh.flat=true) (b1:(F.args.all fun sh=>sh.eJ||sh.flat)=true) (b3:(F.aP.all fun sh=>sh.ks.all K.closed)=true) (b4:(F.args.all fun sh=>sh.outs.all K.closed)=true)
  (h:Rel ω a w s) {us:List Value} {bY:List ck} (hall:bi (df w ω s) us bY) {k:ck->S->Option R} (cQ:jt (aO R) (F.callee R) d bY s k=some r):
  Calls P tj us.toArray w fun e w'=>∃v bN s3 t L,e=.returned v/\Rel bN a w' s3/\va ω w s bN w' s3 (aZ d 0 0) (aL F.aP) L v t/\k t s3=some r:=by
 obtain⟨_,vJ⟩:=hc;unfold jt at cQ;obtain⟨s1,l1,cJ⟩:=aA cQ;obtain⟨vs,l2,sO⟩:=aA cJ;obtain⟨x,l3,wU⟩:=aA sO;have l1:jv (dr F.args) (bG F.args bY) s=some s1:=l1;have l2:dM F.args bY s s1=some vs:=l2;have wU:((F.fn x).bind fun y=>ar (aO R) (iZ F.args bY ((cl _ y).drop (F.aP.map Sh.ks).flatten.length) s1) fun s2=>k (TV.mC (bC (aZ d 0 0) F.aP ((cl _ y).take (F.aP.map Sh.ks).flatten.length) s2).1) (bC (aZ d 0 0) F.aP ((cl _ y).take (F.aP.map Sh.ks).flatten.length) s2).2)=some r:=wU;cases hy:F.fn x with
 |none=>rw[hy]at wU;cases wU
 |some y=>
  rw[hy]at wU;obtain⟨s2,l4,jG⟩:=aA (show ar (aO R) (iZ F.args bY ((cl _ y).drop (F.aP.map Sh.ks).flatten.length) s1) _=some r from wU);have l4:iD (dr F.args) (bG F.args bY) ((cl _ y).drop (F.aP.map Sh.ks).flatten.length) s1=some s2:=l4;have GP:=rj b1;have A8:((cl _ y).drop (F.aP.map Sh.ks).flatten.length).map (fun v:KV real=>v.1)=(F.args.map Sh.outs).flatten:=by
   rw[List.map_drop,j3,List.drop_left',GP]
   ·unfold dZ;rw[hL];simp
   ·rfl
  have DR:((cl _ y).drop (F.aP.map Sh.ks).flatten.length).length<=(dZ F.look F.args).length:=by have:=congrArg List.length A8;rw[List.length_map]at this;rw[this];unfold dZ;rw[hL];exact Nat.le_refl _
  obtain⟨c1,c2⟩:=kT hall l2;have c3:(bG F.args bY).length=(cH F.args us).length:=c2.length.symm;obtain⟨m1,m2,m3,m4,m5⟩:=lC (dr F.args) (bG F.args bY) (cH F.args us) 1 (1+aL F.args+aL F.aP) s s1 c3 l1;obtain⟨n1,n2⟩:=l7 (dr F.args) (bG F.args bY) (cH F.args us) 1 (1+aL F.args+aL F.aP);have hD:oJ (bP (dr F.args) (bG F.args bY) (cH F.args us) 1 (1+aL F.args+aL F.aP)):=⟨m4,n2⟩
  have hR:=sK (dr F.args) (bG F.args bY) (cH F.args us) 1 (1+aL F.args+aL F.aP) c2;have hK:=sM (dr F.args) (bG F.args bY) (cH F.args us) 1 (1+aL F.args+aL F.aP);have Fa:=mw h hD (dr F.args) (bG F.args bY) (cH F.args us) 1 (1+aL F.args+aL F.aP) c2 (fun t ht=>ht);have B8:=fun w' aI=>vr (w':=w') (aI:=aI) (dr F.args) (bG F.args bY) (cH F.args us) ((cl _ y).drop (F.aP.map Sh.ks).flatten.length) 1 (1+aL F.args+aL F.aP) s1 s2 c3 c1 l4
   (by rw[<-rW];exact A8)
  revert m1 m2 m3 m4 n1 hD hR hK Fa B8;generalize bP (dr F.args) (bG F.args bY) (cH F.args us) 1 (1+aL F.args+aL F.aP)=es;intro m1 m2 m3 m4 n1 hD hR hK Fa B8;have hS:oN s s1:=by
   intro i hg;by_cases hex:∃t∈es,ef t.l=some i
   ·obtain⟨t,ht,hi⟩:=hex;rw[(m3 t ht i hi).2]at hg;exact absurd rfl hg
   ·exact m2 i fun t ht hi=>hex ⟨t,ht,hi⟩
  have hH:Hid ω s1 (aK.gC w ω es):=An fun t ht i hi=>by rw[(m3 t ht i hi).2]
  have g3:=pT h hS hH F.args bY us vs 1 b1 hall Fa l2;have D5:vs=cl ((F.args.map Sh.ks).flatten) x:=(gd _ _ _ l3).symm;rw[D5]at g3;have hC:=vJ w (aK.gC w ω es) us x y (h.HY.own fun b hb=>by unfold aK.gC;rw[hb]) (Ao hD h.inj) (Am h.dom) g3 hy;refine Calls.mono hC fun e w' he=>?_;obtain⟨v,aI,rfl,t1,t2,t3,t4,t5⟩:=he;have t5:=t5.1 hL;rw[List.take_of_length_le DR]at t5;obtain⟨k1,k2,k3⟩:=B8 w' aI t5 m4;have vN:∀t∈es,(t.cs.plain||t.d)=true:=by intro t ht;obtain⟨l,q1,q2⟩:=List.mem_flatten.1 (hK t ht);obtain⟨sh,q3,rfl⟩:=List.mem_map.1 q1;have:=List.all_eq_true.1 (List.all_eq_true.1 b4 sh q3) (.arr t.e t.cs t.d) (List.mem_filter.2 ⟨q2,rfl⟩);exact this
  obtain⟨bN,z1,z2⟩:=vk h hD m1 hR vN m2 m3 m5 k1 k2 k3 (base:=aZ d 0 0) (B:=1+aL F.args) (Nat.pos_of_ne_zero (dj _ _ _)) (by omega) b2 (wW y) b3 (fun t ht=>(n1 t ht).2.2) t1 t2 t3 t4;exact⟨v,bN,_,_,_,rfl,z1,z2,jG⟩
theorem sk(Ek:∀f F,Ψ f=some F->eK P f.1 F):gJ P E Ψ:=by
 intro R o f args fC ω a w s k r Q ho h hd hk;have hf:=bT h E 0 f;unfold bl at hk;simp only[ho]at hk;cases hsz:Nat.beq args.size fC.size with
 |false=>rw[hsz]at hk;cases hk
 |true=>
  rw[hsz]at hk;simp only[cond_true]at hk;have pJ:args.toList.length=fC.toList.length:=by simpa using Nat.eq_of_beq_eq_true hsz
  cases Fk:ev E s 0 f with
  |agg _=>rw[Fk]at hk;cases hk
  |nE _=>rw[Fk]at hk;cases hk
  |one l=>
   rw[Fk]at hk hf;cases l with
   |fn tj cc=>
    simp only at hk;obtain⟨A4,h1,cQ⟩:=aA hk;have hF:∃q F,Ψ (tj,q)=some F/\A4=F.callee R:=by
     unfold kP at h1;cases hq:Ψ (tj,uj ((args.toList.zip fC.toList).map fun p=>ev E s p.2 p.1))with
     |none=>rw[hq]at h1;cases h1
     |some F=>rw[hq]at h1;exact⟨_,F,hq,(Option.some.inj h1).symm⟩
    obtain⟨q,F,GR,rfl⟩:=hF;clear hk h1;have CE:eK P tj F:=Ek _ F GR;obtain⟨⟨fn,c,p1,p2,p3⟩,vJ⟩:eK P tj F:=(id CE)
    unfold lY at cQ;cases hb:ow (F.callee R)with
    |false=>rw[hb]at cQ;cases cQ
    |true=>
     rw[hb]at cQ;simp only[cond_true]at cQ;unfold ow at hb;rw[Bool.and_eq_true]at hb;have Dz:=hb.2;have hlk:(F.callee R).look=F.look:=rfl;obtain⟨cv,e1,e2⟩:=hf;have hall:=(wI h E args.toList fC.toList pJ).ir (wN cv cc e2);revert cQ;generalize (List.map (fun p=>ev E s p.snd p.fst) (args.toList.zip fC.toList)++List.map dc.tv cc)=bY at hall;intro cQ;have hrun:(execOp a.eval o).run P w=.ok (.enter tj (args.toList.map a.eval++cv).toArray) w:=by
      unfold execOp;simp only[ho,resolve,e1,Deferred.ofValue];have hargs:#[]++args.map a.eval++cv.toArray=(args.toList.map a.eval++cv).toArray:=by apply Array.ext';simp
      simp only[Sem.run_bind,Sem.run_pure,Result.andThen_ok,invoke];rw[hargs];exact MuLone.run_callFunc_enter p1 p2 p3 _ w
     cases hL:F.look with
     |true=>
      rw[Cx (hlk.trans hL)]at cQ Dz;simp only[Bool.and_eq_true]at Dz;obtain⟨b2,b1,b3,b4⟩:=Dz;have b2:F.aP.all Sh.flat=true:=b2;have b1:(F.args.all fun sh=>sh.eJ||sh.flat)=true:=b1;have b3:(F.aP.all fun sh=>sh.ks.all K.closed)=true:=b3;have b4:(F.args.all fun sh=>sh.outs.all K.closed)=true:=b4;have hw:ed F.aP<=2047:=Nat.le_of_ble_eq_true hb.1;rw[nH]at hw;cases hsp:dR (aZ (o.dst.getD 0) 0 0+2047) (F.callee R).args bY s with
      |none=>rw[hsp]at cQ;have hC:=tU (k:=fun v s=>k (s.cg o.dst v)) CE hL b2 b1 b3 b4 h hall cQ;unfold Oper.wp;rw[hrun];simp only[Oper.upon];refine Calls.mono hC fun e w' he=>?_;obtain⟨v,bN,s3,t,L,rfl,z1,z2,jG⟩:=he;exact dV z1 z2.ext hd (z2.res s3 (fun _ _=>rfl)).1 jG
      |some q=>
       rw[hsp]at cQ;obtain⟨args',s',ho⟩:=q;obtain⟨i,id,gg,hh,p,r1,q1,q2,q3,q4⟩:=nD hsp;obtain⟨c,e,cs,x,Ep,FO,FP,HB⟩:=nC q3;subst HB;injection q4 with q4 q5
       injection q5 with q5 q6
       subst q4;subst q5;subst q6;have hnb:aZ (o.dst.getD 0) 0 0+2047≠0:=by have:=dj (o.dst.getD 0) 0 0;omega
       obtain⟨Df,_,_,CR,hnew⟩:=qt h q2 Ep FO FP hnb;obtain⟨u,z7,Ef⟩:=hall.get i _ q1;have Ef:cw w ω s u (.ref id gg hh p):=Ef;have jH:c.md=2:=by
        rcases(dz Ep).2 with ⟨_,_,f2,_⟩|⟨_,_,_,_,_,_,f4⟩|⟨_,f2,_⟩
        ·exact absurd f2 q2
        ·exact iI 2 p _ _ _ c f4
        ·exact absurd f2 q2
       have ER:(Ty.sl c.e c.cs).R w ω (.deep (id,bD p)) u c.x:=by have:=Ef.2.2 c Ep;rw[jH]at this;exact this
       have DK:=bi.set (bi.mono (fun _ _ hq=>df.frame (qt h q2 Ep FO FP hnb).2.1 CR hq) hall) i z7 (show df w _ _ u (.one (.ref _ _ _ []))from hnew u ER);have hC:=tU (k:=fun v s2=>ar (aO R) (jh (A:=real) _ s2) fun s3=>k (s3.cg o.dst v)) CE hL b2 b1 b3 b4 Df DK cQ;unfold Oper.wp;rw[hrun];simp only[Oper.upon];refine Calls.mono hC fun e w' he=>?_;obtain⟨v,bN,s3,t,L,rfl,z1,z2,jG⟩:=he;obtain⟨s4,hm,Di⟩:=aA jG;obtain⟨EZ,y1,y2,y3⟩:=iP h q2 Ep FO FP hnb (by unfold bJ;omega) Ef z1 z2 hm;exact dV y1 y2 hd y3 Di
     |false=>
      rw[Cw (hlk.trans hL)]at cQ Dz;have b2:F.aP.all Sh.qi=true:=Dz;have cQ:(bif Nat.ble (aZ (o.dst.getD 0) 0 0+ed F.aP) cZ&&apart (aZ (o.dst.getD 0) 0 0) (ed F.aP) (cq F.args bY)then
        ar (aO R) (bL F.args bY s) fun r=>ar (aO R) (kp ((F.args.map Sh.ks).flatten) r.1) fun x=>(F.fn x).bind fun y=>ar (aO R) (g9 (eD F.args) (cq F.args bY) ((cl _ y).drop (F.aP.map Sh.ks).flatten.length) r.2) fun s2=>k ((bC (aZ (o.dst.getD 0) 0 0) F.aP ((cl _ y).take (F.aP.map Sh.ks).flatten.length) s2).2.cg o.dst (TV.mC (bC (aZ (o.dst.getD 0) 0 0) F.aP ((cl _ y).take (F.aP.map Sh.ks).flatten.length) s2).1))
        else none)=some r:=cQ
      cases hc:(Nat.ble (aZ (o.dst.getD 0) 0 0+ed F.aP) cZ&&apart (aZ (o.dst.getD 0) 0 0) (ed F.aP) (cq F.args bY))with
      |false=>rw[hc]at cQ;cases cQ
      |true=>
      rw[hc]at cQ;simp only[cond_true]at cQ;rw[Bool.and_eq_true]at hc;obtain⟨DO,CD⟩:=hc;have DO:=Nat.le_of_ble_eq_true DO;rw[nH]at DO CD;obtain⟨⟨vs,s2⟩,h2,cJ⟩:=aA cQ;obtain⟨x,h3,sO⟩:=aA cJ;obtain⟨bc,m,q1,q2,q3,q4⟩:=gW _ _ _ ω s vs s2 1 h hall h2;have g3:fF w (bc.dg m) 1 F.args vs (args.toList.map a.eval++cv):=q4 bc s2 _ (dl.refl _ _) (qQ q2);have D5:vs=cl ((F.args.map Sh.ks).flatten) x:=(gd _ _ _ h3).symm;cases hy:F.fn x with
      |none=>rw[hy]at sO;cases sO
      |some y=>
       rw[hy]at sO;obtain⟨s3,l4,jG⟩:=aA (show ar (aO R) (g9 (eD F.args) (cq F.args bY) ((cl _ y).drop (F.aP.map Sh.ks).flatten.length) s2) _=some r from sO);have hC:=vJ w (bc.dg m) (args.toList.map a.eval++cv) x y (q1.rel.HY.own fun b hb=>lZ hb) (tX q2 (by omega) q1.rel.inj) (tV q1.rel.dom) (by rw[<-D5];exact g3) hy;unfold Oper.wp;rw[hrun];simp only[Oper.upon];refine Calls.mono hC fun e w' he=>?_;obtain⟨v,aI,rfl,t1,t2,t3,t4,_,t5⟩:=he;have Hj:(dZ F.look F.args).length=0:=by unfold dZ;rw[hL];rfl
       rw[Hj]at t5;obtain⟨bN,z1,z2,z3⟩:=vl h hall h2 q1 q2 g3 (base:=aZ (o.dst.getD 0) 0 0) (B:=1+aL F.args) (Nat.pos_of_ne_zero (dj _ _ _)) (by omega) b2 (wW y) DO CD t1 t2 t3 t4 l4 t5;exact dV z1 z2 hd z3 jG
   |_=>cases hk
end
end Go.R
namespace Go.R
def vF(args:List Sh)(vs:List (KV real)):S:=let q:=bC 1 args vs St.start;gU (List.range args.length) q.1 q.2
def AN(E:Env)(s:S):ResultVar->Option ck
 | .tmp t=>some (s.sl t)
 | .cell a t=>match E.ti t,s.sl a with
  |some i,.one l=>iN s i.agg i.cs.len l
  |_,_=>none
def nx(E:Env)(s:S):List ResultVar->Option (List ck)
 | []=>some []
 |v::vs=>match AN E s v,nx E s vs with
  |some x,some xs=>some (x::xs)
  |_,_=>none
def Sh.j1(look:Bool)(sh:Sh):Bool:=(bif look then sh.outs.isEmpty else true)&&sh.Co.isEmpty
def fA(look:Bool):Nat->List Sh->List Nat
 |_,[]=>[]
 |j,sh::aW=>bif sh.j1 look then fA look (j+1) aW else j::fA look (j+1) aW
def uk(look:Bool)(args:List Sh)(c:Code):Bool:=(fA look 0 args).isEmpty||cN (fA look 0 args) c
def finish(E:Env)(c:Code)(look:Bool)(args aP:List Sh)(ks:List K)(res:List ResultVar)(s:S):Option (fE real ks):=
 bif uk look args c then
 match nx E s res with
 |some bY=>match bL aP bY s with
  |some (vs,s1)=>match takes (dZ look args) (bif look then pick (dr args) (bG args ((List.range args.length).map s.sl))else []) s1 with
   |some (us,s2)=>match bL ((eD args).map .blk) ((cq args ((List.range args.length).map s.sl)).map .one) s2 with
    |some (bs,_)=>kp ks (vs++(us++bs))
    |none=>none
   |none=>none
  |none=>none
 |none=>none
 else none
def Ex.done:Ex->Bool
 | .normal| .ret=>true
 |_=>false
section
variable {R:Type} {P:Program} {E:Env} {Ψ:bR->Option gY} {Λ:Nat->Option ep} {ω:aK} {a:Act} {w:World} {s:S} {k:S->Option R} {r:R} {o:Oper} {Q:Exit->Act->World->Prop}
def uN(tmps:Array Value):ResultVar->Sem Value
 | .tmp t=>pure (tmps.getD t undef)
 | .cell a t=>do loadVar t (<- asAddr (tmps.getD a undef))
theorem s8{t:Nat}{p v:Value}(h:(Instr.loadAt t p).run P w=.ok v w)(hp:∃A,p=.pointer (some A)):(do loadVar t (<- asAddr p):Sem Value).run P w=.ok v w:=by obtain⟨A,rfl⟩:=hp;simpa[Instr.loadAt,Instr.sureAddr,asAddr] using h
theorem xV{l:L}{v:Value}{z:ck}{agg:Bool}{n:Nat}(hl:cw w ω s v l)(hz:iN s agg n l=some z):∃A,v=.pointer (some A):=by
 cases l with
 |ptr id g off=>
  simp only[iN]at hz;cases hb:dw s id g with
  |none=>rw[hb]at hz;cases hz
  |some cells=>obtain⟨e1,e2⟩:=cY hb;obtain⟨b,_,f2⟩:=hl.2 e1 cells e2;exact⟨_,f2⟩
 |cf id g hh p j off=>
  simp only[iN]at hz;cases hc:s.cont id g hh p with
  |none=>rw[hc]at hz;cases hz
  |some c=>
   rw[hc]at hz;simp only at hz;have hm:c.md≠0:=by intro e;rw[e]at hz;cases hz
   obtain⟨_,_,⟨b,_,e3⟩,_⟩:=hl.2.2 c hc hm;exact⟨_,e3⟩
 |eo cs x off=>obtain⟨b,o',_,_,e3,_⟩:=hl;exact⟨_,e3⟩
 |_=>cases hz
theorem AO(hE:cm P E)(h:Rel ω a w s):∀(res:List ResultVar) (bY:List ck),nx E s res=some bY->∃us:List Value,(res.mapM (uN a.tmps)).run P w=.ok us w/\bi (df w ω s) us bY
 | [],bY,ht=>by have ht:=Option.some.inj ht;subst ht;exact⟨[],rfl,trivial⟩
 |v::res,bY,ht=>by
  simp only[nx]at ht;cases h1:AN E s v with
  |none=>rw[h1]at ht;cases ht
  |some x=>
   cases h2:nx E s res with
   |none=>rw[h1,h2]at ht;cases ht
   |some xs=>
    rw[h1,h2]at ht;have ht:=Option.some.inj ht;subst ht;obtain⟨us,q1,q2⟩:=AO hE h res xs h2;have hu:∃u,(uN a.tmps v).run P w=.ok u w/\df w ω s u x:=by
     cases v with
     |tmp t=>have h1:=Option.some.inj h1;subst h1;exact⟨_,rfl,h.slots t⟩
     |cell c t=>
      simp only[AN]at h1;cases hi:E.ti t with
      |none=>rw[hi]at h1;cases h1
      |some i=>
       rw[hi]at h1;have jC:=h.slots c;cases hs:s.sl c with
       |one l=>rw[hs]at h1 jC;obtain⟨I,d,ok⟩:=hE.ti _ _ hi;obtain⟨u,z1,z2⟩:=uC h ok jC h1;exact⟨u,s8 z1 (xV jC h1),z2⟩
       |agg _=>rw[hs]at h1;cases h1
       |nE _=>rw[hs]at h1;cases h1
    obtain⟨u,u1,u2⟩:=hu;refine⟨u::us,?_,u2,q2⟩;simp[List.mapM_cons,u1,q1]
theorem wl{fn:Func}{us:List Value}(h:(fn.results.toList.mapM (uN a.tmps)).run P w=.ok us w):(results fn a.tmps).run P w=.ok (match us with| [u]=>u|us=>.tuple us.toArray) w:=by
 have hm:(fn.results.mapM (uN a.tmps)).run P w=.ok us.toArray w:=by rw[<-Array.toArray_toList (xs:=fn.results),List.mapM_toArray];simp[h]
 have he:results fn a.tmps=(do let vs <- fn.results.mapM (uN a.tmps);pure (if h:vs.size=1 then vs[0]else .tuple vs)):=by unfold results;congr 1
 rw[he,Sem.run_bind,hm];match us with
 | []=>rfl
 | [u]=>rfl
 |_::_::_=>rfl
theorem mF{look:Bool}:∀(aW:List Sh) (j0 i:Nat) (sh:Sh),aW[i]? = some sh->sh.j1 look=false->j0+i∈fA look j0 aW
 | [],_,i,_,h,_=>by simp at h
 |sh::aW,j0,0,Eu,h,hne=>by simp at h;subst h;simp only[fA,hne,cond_false];simp
 |sh::aW,j0,i+1,Eu,h,hne=>by
  have:=mF aW (j0+1) i Eu (by simpa using h) hne;rw[show j0+1+i=j0+(i+1)by omega]at this;simp only[fA];cases sh.j1 look with
  |true=>exact this
  |false=>exact List.mem_cons_of_mem _ this
theorem uI{sh:Sh}(h:sh.outs≠[]):sh.j1 true=false:=by
 unfold Sh.j1;cases hb:sh.outs.isEmpty with
 |true=>exact absurd (List.isEmpty_iff.1 hb) h
 |false=>rfl
theorem wh{look:Bool}{sh:Sh}(h:sh.Co≠[]):sh.j1 look=false:=by
 unfold Sh.j1;cases hb:sh.Co.isEmpty with
 |true=>exact absurd (List.isEmpty_iff.1 hb) h
 |false=>simp
theorem xK{look:Bool}{args:List Sh}{c:Code}(h:uk look args c=true){j:Nat}(hj:j∈fA look 0 args):cN [j] c=true:=by
 unfold uk at h;rw[Bool.or_eq_true]at h;rcases h with h|h
 ·rw[List.isEmpty_iff.1 h]at hj;cases hj
 ·exact ew hj c h
theorem fp:∀(aM:List Cp) (cv:List Value),bi (df w ω s) (uf aM cv) ((qN (A:=real) aM []).map .one)
 | [],_=>trivial
 | .ro _::r,[]=>fp r []
 | .ro _::r,_::cv=>fp r cv
 | .mu _::r,[]=>⟨trivial,fp r []⟩
 | .mu _::r,_::cv=>⟨trivial,fp r cv⟩
theorem wP:∀(aM:List Cp) (cv:List Value) (cc:List (dc real)),bi (fun v c=>gr w ω s v c) cv cc->bi (df w ω s) (uf aM cv) ((qN aM cc).map .one)
 | [],_,_,_=>trivial
 |_::_,[],_::_,h=>h.elim
 |_::_,_::_,[],h=>h.elim
 | .ro _::r,[],[],_=>fp r []
 | .mu _::r,[],[],_=>⟨trivial,fp r []⟩
 | .ro _::r,_::cv,_::cc,h=>wP r cv cc h.2
 | .mu _::r,_::cv,.ptr id g::cc,h=>⟨h.1,wP r cv cc h.2⟩
 | .mu _::r,_::cv,.ro _ _::cc,h=>⟨trivial,wP r cv cc h.2⟩
theorem jb:∀(aM:List Cp) (cv:List Value) (cc:List (dc real)),A5 aM=[]->uf aM cv=[]/\qN aM cc=[]
 | [],_,cc,_=>⟨rfl,by cases cc <;> rfl⟩
 | .mu _::_,_,_,h=>by cases h
 | .ro _::r,[],[],h=>jb r [] [] h
 | .ro _::r,_::cv,[],h=>jb r cv [] h
 | .ro _::r,[],_::cc,h=>jb r [] cc h
 | .ro _::r,_::cv,_::cc,h=>jb r cv cc h
theorem DA:∀(aW:List Sh) (us:List Value) (bY:List ck),aW.length=us.length->aW.length=bY.length->(∀(i:Nat) sh u tv,aW[i]? = some sh->sh.Co≠[]->us[i]? = some u->bY[i]? = some tv->df w ω s u tv)->bi (df w ω s) (eu aW us) ((cq aW bY).map .one)
 | [],[],[],_,_,_=>trivial
 | [],_::_,_,h,_,_=>by cases h
 | [],_,_::_,_,h,_=>by cases h
 |_::_,[],_,h,_,_=>by cases h
 |_::_,_,[],_,h,_=>by cases h
 |sh::aW,u::us,tv::bY,h1,h2,h4=>by
  have ih:=DA aW us bY (by simpa using h1) (by simpa using h2) (fun i sh u tv a b c d=>h4 (i+1) sh u tv (by simpa using a) b (by simpa using c) (by simpa using d));simp only[eu,cq,List.map_append];refine bi.ir ?_ ih;cases sh with
  |blk ks=>
   have:=h4 0 _ u tv rfl (fun e=>by cases e) rfl rfl;cases tv with
   |one l=>exact⟨this,trivial⟩
   |agg _=>exact⟨trivial,trivial⟩
   |nE _=>exact⟨trivial,trivial⟩
  |py f aM=>
   show bi (df w ω s) ((Sh.py f aM).Bk u) ((Sh.Cq (A:=real) (.py f aM) tv).map TV.one);unfold Sh.Bk;simp only;by_cases hn:A5 aM=[]
   ·have q1:∀X:List Value,uf aM X=[]:=fun X=>(jb aM X [] hn).1;have q2:Sh.Cq (A:=real) (.py f aM) tv=[]:=by
     unfold Sh.Cq;split
     ·rename_i hsh;cases hsh
     ·rename_i hsh _;cases hsh
     ·rename_i hsh;cases hsh;exact(jb aM [] _ hn).2
     ·rename_i hsh _;cases hsh;exact(jb aM [] [] hn).2
     ·rfl
    rw[q1,q2];trivial
   ·have:=h4 0 _ u tv rfl hn rfl rfl;cases tv with
    |one l=>
     cases l with
     |fn f' cc=>obtain⟨cv,rfl,h5⟩:=this;exact wP aM cv cc h5
     |_=>exact fp aM _
    |agg _=>exact fp aM _
    |nE _=>exact fp aM _
  |_=>trivial
theorem qf{α:Type}:∀(ks Cf:List K) (xs xs':List α),ks.length=xs.length->pick (ks++Cf) (xs++xs')=pick ks xs++pick Cf xs'
 | [],_,[],_,_=>rfl
 | [],_,_::_,_,h=>by cases h
 |_::_,_,[],_,h=>by cases h
 |k::ks,Cf,x::xs,xs',h=>by simp only[List.cons_append,pick];rw[qf ks Cf xs xs' (by simpa using h)];cases k.kS <;> rfl
theorem rY{α:Type}:∀(ks:List K) (xs:List α),ks.filter K.kS=[]->pick ks xs=[]
 | [],_,_=>rfl
 |_::_,[],_=>rfl
 |k::ks,x::xs,h=>by
  simp only[pick];rw[List.filter_cons]at h;cases hk:k.kS with
  |true=>rw[hk]at h;simp at h
  |false=>rw[hk]at h;exact rY ks xs h
theorem bi.pick{α β:Type}{r:α->β->Prop}:∀(ks:List K) {as:List α} {bs:List β},bi r as bs->bi r (Go.R.pick ks as) (Go.R.pick ks bs)
 | [],as,bs,_=>by cases as <;> cases bs <;> trivial
 |_::_,[],[],_=>trivial
 |k::ks,a::as,b::bs,h=>by
  simp only[Go.R.pick];cases k.kS with
  |true=>exact⟨h.1,bi.pick ks h.2⟩
  |false=>exact bi.pick ks h.2
 |_::_,[],_::_,h=>h.elim
 |_::_,_::_,[],h=>h.elim
theorem mY:∀(us:List Value) (ks:List K),ks.length=us.length->bi (cw w ω s) us (ks.map fun _=>.dead)
 | [],[],_=>trivial
 | [],_::_,h=>by cases h
 |_::_,[],h=>by cases h
 |u::us,k::ks,h=>⟨trivial,mY us ks (by simpa using h)⟩
theorem xD(sh:Sh)(tv:ck):sh.sB.length=(sh.cells tv).length:=by
 cases sh with
 |one k=>cases tv <;> rfl
 |agg ks=>
  cases tv with
  |agg ls=>
   simp only[Sh.cells,Sh.sB];cases hb:Nat.beq ls.length ks.length with
   |true=>exact(Nat.eq_of_beq_eq_true hb).symm
   |false=>simp
  |_=>simp[Sh.cells,Sh.sB]
 |_=>rfl
theorem Bl{sh:Sh}{u:Value}{tv:ck}(hu:sh.sB.length=(sh.vals u).length)(h:df w ω s u tv):bi (cw w ω s) (sh.vals u) (sh.cells tv):=by
 cases sh with
 |one k=>
  cases tv with
  |one l=>exact⟨h,trivial⟩
  |_=>exact⟨trivial,trivial⟩
 |agg ks=>
  cases tv with
  |agg ls=>
   obtain⟨cells,e1,h2⟩:=h;simp only[Sh.cells];cases hb:Nat.beq ls.length ks.length with
   |true=>
    have hv:(Sh.agg ks).vals u=cells:=by subst e1;simp[Sh.vals,Value.cells]
    rw[hv];exact h2
   |false=>exact mY _ _ hu
  |_=>exact mY _ _ hu
 |_=>trivial
theorem AK:∀(aW:List Sh) (us:List Value) (bY:List ck),aW.length=us.length->aW.length=bY.length->(∀(i:Nat) sh u,aW[i]? = some sh->us[i]? = some u->sh.sB.length=(sh.vals u).length) ->
  (∀(i:Nat) sh u tv,aW[i]? = some sh->sh.outs≠[]->us[i]? = some u->bY[i]? = some tv->df w ω s u tv)->bi (cw w ω s) (pick (dr aW) (cH aW us)) (pick (dr aW) (bG aW bY))
 | [],[],[],_,_,_,_=>trivial
 | [],_::_,_,h,_,_,_=>by cases h
 | [],_,_::_,_,h,_,_=>by cases h
 |_::_,[],_,h,_,_,_=>by cases h
 |_::_,_,[],_,h,_,_=>by cases h
 |sh::aW,u::us,tv::bY,h1,h2,h3,h4=>by
  have hv:=h3 0 sh u rfl rfl;have ih:=AK aW us bY (by simpa using h1) (by simpa using h2) (fun i sh u a b=>h3 (i+1) sh u (by simpa using a) (by simpa using b)) (fun i sh u tv a b c d=>h4 (i+1) sh u tv (by simpa using a) b (by simpa using c) (by simpa using d));have e1:pick (dr (sh::aW)) (cH (sh::aW) (u::us))=pick sh.sB (sh.vals u)++pick (dr aW) (cH aW us):=qf _ _ _ _ hv;have e2:pick (dr (sh::aW)) (bG (sh::aW) (tv::bY))=pick sh.sB (sh.cells tv)++pick (dr aW) (bG aW bY):=qf _ _ _ _ (xD sh tv);rw[e1,e2];refine bi.ir ?_ ih;by_cases ho:sh.outs=[]
  ·have hp:∀ {α:Type} (xs:List α),pick sh.sB xs=[]:=fun xs=>rY _ _ ho;rw[hp,hp];trivial
  ·exact bi.pick _ (Bl hv (h4 0 sh u tv rfl ho rfl rfl))
theorem AZ{b:Nat}{sh:Sh}{vs:List (KV real)}{u:Value}(hl:vs.length=sh.ks.length)(h:yO w ω b sh vs u):sh.sB.length=(sh.vals u).length:=by
 cases sh with
 |one k=>rfl
 |agg ks=>obtain⟨cells,e1,e2⟩:=h;subst e1;have:=e2.length;simp only[Sh.sB,Sh.vals,Value.cells];simp only[Sh.ks]at hl;omega
 |_=>rfl
theorem su:∀(aW:List Sh) (vs:List (KV real)) (us:List Value) (b:Nat),fF w ω b aW vs us->∀(i:Nat) sh u,aW[i]? = some sh->us[i]? = some u->sh.sB.length=(sh.vals u).length
 | [],_,_,_,_,i,sh,u,h,_=>by simp at h
 |_::_,_,[],_,h,_,_,_,_,_=>h.elim
 |sh::aW,vs,u::us,b,h,0,Eu,u',h1,h2=>by simp at h1 h2;subst h1;subst h2;exact AZ h.1 h.2.1
 |sh::aW,vs,u::us,b,h,i+1,Eu,u',h1,h2=>su aW _ us _ h.2.2 i Eu u' (by simpa using h1) (by simpa using h2)
theorem Bm (hE:cm P E) (Ek:∀f F, Ψ f = some F -> eK P f.1 F) {f:FuncId} {fn:Func} {c:Code} {F:gY} (h1:P.funcs[f]? = some fn) (h2:(fn.name == "runtime.NumGoroutine") = false) (h3:fn.body = some c)
  (hnt:fn.ntmps=E.nt) (HV:F.args.length<=E.nt) (hL:ff P E Λ (di 0 c))
  (hfn:∀x,F.fn x=exec E (aO _) (kP Ψ _) (pX Λ _) 0 c (vF F.args (cl _ x)) fun ex s=>bif ex.done then finish E c F.look F.args F.aP _ fn.results.toList s else none):eK P f F:=by
 refine⟨⟨fn,c,h1,h2,h3⟩,fun w ω us x y HZ hinj hdom CS Gi=>?_⟩;rw[hfn]at Gi;have hlen:us.length=F.args.length:=by
  have:∀(aW:List Sh) (vs:List (KV real)) (us:List Value) (b:Nat),fF w ω b aW vs us->us.length=aW.length:=by
   intro aW;induction aW with
   |nil=>intro vs us b h;rw[h.2];rfl
   |cons sh aW ih=>
    intro vs us b h;cases us with
    |nil=>exact h.elim
    |cons u us=>simp[ih _ _ _ h.2.2]
  exact this _ _ _ _ CS
 refine calls_of_wp h1 h3 ?_;have hsz:(us.toArray++Array.replicate (fn.ntmps-us.toArray.size) undef).size=E.nt:=by simp;omega
 have hR:Rel ω { tmps:=us.toArray++Array.replicate (fn.ntmps-us.toArray.size) undef,defers:=[] } w (vF F.args (cl _ x)):=by
  refine pM HZ (by omega) hinj hdom rfl (fun _=>rfl) (fun _=>trivial) CS (fun j d hd u hu=>?_);have hj:j<F.args.length:=by have:=(List.getElem?_eq_some_iff.1 hd).1;simpa using this
  have GZ:d=j:=by rw[List.getElem?_range hj]at hd;exact(Option.some.inj hd).symm
  subst GZ;rw[Array.getD_eq_getD_getElem?,Array.getElem?_append_left (by simp;omega)];simp[hu]
 have hx:=jc hE (sk (E:=E) Ek) (U:=fun j=>uk F.look F.args c=true/\j∈fA F.look 0 F.args) c 0 ω _ w _ _ (fun j hj=>xK hj.1 hj.2) hL hsz hR Gi;refine wp_mono hx fun e a' w' hp=>?_;obtain⟨ex,aI,s',q1,q2,q3,q4,q5,q6⟩:=hp;have lJ:(bif ex.done then finish E c F.look F.args F.aP ((F.aP.map Sh.ks).flatten++(dZ F.look F.args++(eD F.args).flatten)) fn.results.toList s' else none)=some y:=q4;cases hd:ex.done with
 |false=>rw[hd]at lJ;cases lJ
 |true=>
  rw[hd]at lJ;simp only[cond_true]at lJ;unfold finish at lJ;cases Fi:uk F.look F.args c with
  |false=>rw[Fi]at lJ;cases lJ
  |true=>
  rw[Fi]at lJ;simp only[cond_true]at lJ;cases ht:nx E s' fn.results.toList with
  |none=>rw[ht]at lJ;cases lJ
  |some bY=>
   rw[ht]at lJ;simp only at lJ;cases Fy:bL F.aP bY s' with
   |none=>rw[Fy]at lJ;cases lJ
   |some q=>
    obtain⟨vs,s2⟩:=q;rw[Fy]at lJ;simp only at lJ;cases hto:takes (dZ F.look F.args) (bif F.look then pick (dr F.args) (bG F.args ((List.range F.args.length).map s'.sl))else []) s2 with
    |none=>rw[hto]at lJ;cases lJ
    |some q=>
    obtain⟨FM,s3⟩:=q;rw[hto]at lJ;simp only at lJ;cases htb:bL ((eD F.args).map .blk) ((cq F.args ((List.range F.args.length).map s'.sl)).map .one) s3 with
    |none=>rw[htb]at lJ;cases lJ
    |some q=>
    obtain⟨obs,s4⟩:=q;rw[htb]at lJ;simp only at lJ;obtain⟨yM,u1,u2⟩:=AO hE q2 fn.results.toList bY ht;obtain⟨bc,m,p1,g1,_,r1⟩:=gW F.aP bY yM aI s' vs s2 (1+aL F.args) q2 u2 Fy;have xP:∀(i:Nat) sh u tv,F.args[i]? = some sh->sh.j1 F.look=false->us[i]? = some u->((List.range F.args.length).map s'.sl)[i]? = some tv->df w' aI s' u tv:=by
     intro i sh u tv h1 h2 h3 h4;have hi:i<F.args.length:=(List.getElem?_eq_some_iff.1 h1).1;rw[List.getElem?_map,List.getElem?_range hi]at h4;simp only[Option.map_some]at h4;have h4:=Option.some.inj h4;subst h4;have hmem:=mF F.args 0 i sh h1 h2;rw[Nat.zero_add]at hmem;have hsame:=q6 i ⟨Fi,hmem⟩;have hu:a'.tmps.getD i undef=u:=by rw[hsame,Array.getD_eq_getD_getElem?,Array.getElem?_append_left (by simp;omega)];simp[h3]
     have:=q2.slots i;rw[hu]at this;exact this
    have D6:bi (cw w' aI s') (bif F.look then pick (dr F.args) (cH F.args us)else []) (bif F.look then pick (dr F.args) (bG F.args ((List.range F.args.length).map s'.sl))else []):=by
     cases hL:F.look with
     |false=>trivial
     |true=>exact AK F.args us _ hlen.symm (by simp) (su _ _ _ _ CS) (fun i sh u tv h1 h2 h3 h4=>xP i sh u tv h1 (by rw[hL];exact uI h2) h3 h4)
    have A7:bi (df w' aI s') (eu F.args us) ((cq F.args ((List.range F.args.length).map s'.sl)).map .one):=DA F.args us _ hlen.symm (by simp) (fun i sh u tv h1 h2 h3 h4=>xP i sh u tv h1 (wh h2) h3 h4);obtain⟨bW,m2,p2,g2,_,_,r2⟩:=gi _ _ _ bc s2 FM s3 (1+aL F.args+aL F.aP) p1.rel (D6.mono fun _ _ hl=>cw.frame p1.ext p1.tr hl) hto;have hlo:(dZ F.look F.args).length=FM.length:=by have:=lO hto;rw[<-this];simp
    have FN:=p1.trans p2;obtain⟨oI,m3,p3,g3,_,r3⟩:=gW _ _ (eu F.args us) bW s3 obs s4 (1+aL F.args+aL F.aP+(dZ F.look F.args).length) p2.rel (A7.mono fun _ _ hl=>df.frame FN.ext FN.tr hl) htb;have GM:=cA.trans (Nat.le_add_right _ _) (Nat.le_add_right _ _) g1 g2;have DF:=cA.trans (by omega) (Nat.le_add_right _ _) GM g3;have hS:=fe DF;have hv:=r1 oI s4 (oI.named (m++m2++m3)) (g2.later.trans g3.later) hS.left.left;have Gs:=r2 oI s4 (oI.named (m++m2++m3)) g3.later hS.left.right;have CC:=r3 oI s4 (oI.named (m++m2++m3)) (dl.refl _ _) hS.right;have hvs:vs++(FM++obs)=cl _ y:=(gd _ _ _ lJ).symm;have hrun:=wl (fn:=fn) u1;have hlv:vs.length=(F.aP.map Sh.ks).flatten.length:=by
     have:∀(aW:List Sh) (vs:List (KV real)) (us:List Value) (b:Nat),fF w' (oI.named (m++m2++m3)) b aW vs us->vs.length=(aW.map Sh.ks).flatten.length:=by
      intro aW;induction aW with
      |nil=>intro vs us b h;rw[h.1];rfl
      |cons sh aW ih=>
       intro vs us b h;cases us with
       |nil=>exact h.elim
       |cons u us=>have:=ih _ _ _ h.2.2;have h1:=h.1;rw[List.length_take]at h1;rw[List.length_drop]at this;simp only[List.map_cons,List.flatten_cons,List.length_append];omega
     exact this _ _ _ _ hv
    have nP:a'.defers=[]/\∃v,(results fn a'.tmps).run P w'=.ok v w'/\∃v' bN,Ending.returned v=.returned v'/\dK ω w bN w'/\(∀b b' k,bN b=some k->bN b'=some k->b=b')/\(∀b k,bN b=some k->b<w'.heap.size) /\
      xq w' bN (1+aL F.args) F.aP ((cl _ y).take (F.aP.map Sh.ks).flatten.length) v'/\BX w' bN (1+aL F.args+aL F.aP) F.look F.args us ((cl _ y).drop (F.aP.map Sh.ks).flatten.length):=by
     refine⟨p3.rel.defers,_,hrun,_,oI.named (m++m2++m3),rfl,q3.trans (FN.ext.trans (p3.ext.trans (kH _ _ _))),nr (by omega) DF p3.rel.inj,nq p3.rel.dom,?_,?_⟩
     ·rw[<-hvs,<-hlv,List.take_left];unfold xq;match HW:F.aP,hv with
      | [],hv=>obtain⟨e1,e2⟩:=hv;subst e2;exact⟨[],rfl,e1,rfl⟩
      | [sh],hv=>
       match yM,hv with
       | [u],hv=>exact⟨hv.1,hv.2.1⟩
       |_::_::_,hv=>have:=hv.2.2.2;cases this
      |_::_::_,hv=>
       match yM,hv with
       | [u],hv=>exact hv.2.2.elim
       | [],hv=>exact hv.elim
       |u::u'::yM,hv=>exact⟨u::u'::yM,rfl,hv⟩
     ·rw[<-hvs,<-hlv,List.drop_left];refine⟨fun hL=>?_,?_⟩
      ·rw[hlo,List.take_left];rw[hL]at Gs;exact Gs
      ·rw[hlo,List.drop_left];rw[hlo]at CC;exact CC
    cases ex with
    |normal=>
     cases e with
     |normal=>exact nP
     |_=>cases q1
    |ret=>
     cases e with
     |ret=>exact nP
     |_=>cases q1
    |exit _=>cases hd
end
end Go.R
namespace Go.R
section
variable {P:Program}
def aJ.take:Nat->aJ->aJ
 |0,_=>.nil
 |_+1,.nil=>.nil
 |n+1,.cons t ts=>.cons t (aJ.take n ts)
def aJ.drop:Nat->aJ->aJ
 |0,ts=>ts
 |_+1,.nil=>.nil
 |n+1,.cons _ ts=>aJ.drop n ts
def sF(P:Program)(g:TypeId->aJ->Bool):List Field->Nat->aJ->Bool
 | [],_,.nil=>true
 | [],_,.cons _ _=>false
 |F:: fs, o, cs=>(F.name != "_")&&(Nat.beq F.offset o&&(match P.info? F.type with
  |some I=>Nat.ble 1 I.size&&(Nat.ble I.size cs.len&&(g F.type (cs.take I.size)&&sF P g fs (o+I.size) (cs.drop I.size)))
  |none=>false))
def nJ(P:Program):Nat->TypeId->aJ->Bool
 |0,_,_=>false
 |f+1,t,cs=>match P.underlying t with
  |some (.int _)=>(match cs with| .cons (.int _) .nil=>true|_=>false)
  |some .bool=>(match cs with| .cons .bool .nil=>true|_=>false)
  |some (.struct fs)=>!P.stoodInHeld t&&sF P (nJ P f) fs.toList 0 cs
  |_=>false
def fy(P:Program)(t:TypeId):Bool:=match P.underlying t with|some (.struct _)=>true|_=>false
def E7:TypeDesc->Bool
 | .struct _| .int _| .bool=>true
 |_=>false
theorem Typed.len:∀ {cs:aJ} {us:List Value},Typed cs us->us.length=cs.len
 | .nil,[],_=>rfl
 | .cons _ _,_::_,h=>by simp[aJ.len,Typed.len h.2]
 | .nil,_::_,h=>h.elim
 | .cons _ _,[],h=>h.elim
theorem Typed.take:∀(n:Nat) {cs:aJ} {us:List Value},Typed cs us->Typed (cs.take n) (us.take n)
 |0,_,_,_=>trivial
 |_+1,.nil,[],_=>trivial
 |n+1,.cons _ _,_::_,h=>⟨h.1,Typed.take n h.2⟩
 |_+1,.nil,_::_,h=>h.elim
 |_+1,.cons _ _,[],h=>h.elim
theorem Typed.drop:∀(n:Nat) {cs:aJ} {us:List Value},Typed cs us->Typed (cs.drop n) (us.drop n)
 |0,_,_,h=>h
 |_+1,.nil,[],_=>trivial
 |n+1,.cons _ _,_::_,h=>Typed.drop n h.2
 |_+1,.nil,_::_,h=>h.elim
 |_+1,.cons _ _,[],h=>h.elim
theorem mc:∀(n:Nat) {cs:aJ} {us vs:List Value},Typed cs us->Typed cs vs->da us vs=(da (us.take n) (vs.take n)&&da (us.drop n) (vs.drop n))
 |0,cs,us,vs,_,_=>by simp[da]
 |n+1,.nil,[],[],_,_=>rfl
 |n+1,.cons t ts,u::us,v::vs,hu,hv=>by
  have ih:=mc n hu.2 hv.2;cases t with
  |int k=>obtain⟨a,rfl⟩:=hu.1;obtain⟨b,rfl⟩:=hv.1;simp only[List.take_succ_cons,List.drop_succ_cons,da,ih,Bool.and_assoc]
  |bool=>obtain⟨a,rfl⟩:=hu.1;obtain⟨b,rfl⟩:=hv.1;simp only[List.take_succ_cons,List.drop_succ_cons,da,ih,Bool.and_assoc]
  |str=>exact hu.1.elim
  |sl _ _=>exact hu.1.elim
 |n+1,.nil,_::_,_,hu,_=>hu.elim
 |n+1,.nil,[],_::_,_,hv=>hv.elim
 |n+1,.cons _ _,[],_,hu,_=>hu.elim
 |n+1,.cons _ _,_::_,[],_,hv=>hv.elim
theorem CA{us vs:List Value}:da us vs=true->us.length=vs.length:=by
 fun_induction da us vs <;> simp_all
theorem xS{T:TypeId}{d:TypeDesc}(h:P.underlying T=some d)(hd:E7 d=true)(w:World):(isAgg T).run P w=.ok (fy P T) w:=by unfold isAgg fy;rw[Sem.run_bind,run_underlying h w,h];cases d <;> first|rfl|cases hd
theorem uK{T:TypeId}{I:TypeInfo}{d:TypeDesc}(h:P.underlying T=some d)(hd:E7 d=true)(hi:P.info? T=some I)(us:List Value)(off:Nat)(hle:off+I.size<=us.length)(h1:fy P T=false->I.size=1)(w:World):
  (part T us.toArray off).run P w=.ok (fI (fy P T) ((us.drop off).take I.size)) w:=by
 unfold part;rw[Sem.run_bind,xS h hd];cases hq:fy P T with
 |true=>simp[sizeOf,typeInfo,hi,fI]
 |false=>
  have h1:=h1 hq;have hlt:off<us.length:=by omega
  rw[h1];simp[fI,List.getElem?_eq_getElem hlt];rw[List.drop_eq_getElem_cons hlt];rfl
theorem xE{f:Nat}{t:TypeId}{cs:aJ}(h:nJ P f t cs=true):∃d,P.underlying t=some d/\E7 d=true/\(fy P t=false->cs.len=1):=by
 cases f with
 |zero=>cases h
 |succ f=>
  unfold nJ at h;unfold fy;cases hu:P.underlying t with
  |none=>rw[hu]at h;cases h
  |some d=>
   rw[hu]at h;cases d with
   |int k=>
    simp only at h;split at h
    ·exact⟨_,rfl,rfl,fun _=>rfl⟩
    ·cases h
   |bool=>
    simp only at h;split at h
    ·exact⟨_,rfl,rfl,fun _=>rfl⟩
    ·cases h
   |struct fs=>exact⟨_,rfl,rfl,fun h=>by cases h⟩
   |_=>cases h
theorem kj:∀(n:Nat) (cs:aJ),n<=cs.len->(cs.take n).len=n
 |0,_,_=>rfl
 |n+1,.nil,h=>by simp[aJ.len]at h
 |n+1,.cons _ ts,h=>by simp only[aJ.len,aJ.take]at h⊢;rw[kj n ts (by omega)]
theorem nL (f:Nat) (IH:∀(t:TypeId) (cs:aJ),nJ P f t cs=true->∀(d:Nat) (us vs:List Value) (w:World),Typed cs us->Typed cs vs->(Op.equalIn (d+f) t (fI (fy P t) us) (fI (fy P t) vs)).run P w=.ok (da us vs) w)
  (d:Nat) (us vs:List Value) (w:World):∀(fs:List Field) (o:Nat) (cs:aJ),sF P (nJ P f) fs o cs=true->Typed cs (us.drop o)->Typed cs (vs.drop o)->(Op.eqFields (d+f) us.toArray vs.toArray fs).run P w=.ok (da (us.drop o) (vs.drop o)) w
 | [],o,.nil,_,hu,hv=>by have e1:us.drop o=[]:=List.length_eq_zero_iff.1 hu.len;have e2:vs.drop o=[]:=List.length_eq_zero_iff.1 hv.len;rw[e1,e2];rfl
 | [],o,.cons _ _,h,_,_=>by cases h
 |F::fs,o,cs,h,hu,hv=>by
  simp only[sF,Bool.and_eq_true]at h;obtain⟨h1,h2,h3⟩:=h;have h1:F.name ≠ "_" := by simpa using h1
  have h2:=Nat.eq_of_beq_eq_true h2;cases hi:P.info? F.type with
  |none=>rw[hi]at h3;cases h3
  |some I=>
   rw[hi]at h3;simp only[Bool.and_eq_true]at h3;obtain⟨h3,h4,h5,h6⟩:=h3;have h3:=Nat.le_of_ble_eq_true h3;have h4:=Nat.le_of_ble_eq_true h4;obtain⟨dd,u1,u2,u3⟩:=xE h5;have Hp:(us.drop o).length=cs.len:=hu.len;have hvl:(vs.drop o).length=cs.len:=hv.len;rw[List.length_drop]at Hp hvl;have hone:fy P F.type=false->I.size=1:=fun e=>by have:=u3 e;rw[kj _ _ h4]at this;exact this
   have p1:=uK u1 u2 hi us o (by omega) hone w;have p2:=uK u1 u2 hi vs o (by omega) hone w;have he:=IH F.type _ h5 d _ _ w (hu.take I.size) (hv.take I.size);have oo:Typed (cs.drop I.size) (us.drop (o+I.size)):=by have:=hu.drop I.size;rwa[List.drop_drop]at this
   have fH:Typed (cs.drop I.size) (vs.drop (o+I.size)):=by have:=hv.drop I.size;rwa[List.drop_drop]at this
   have D9:=nL f IH d us vs w fs (o+I.size) (cs.drop I.size) h6 oo fH;rw[mc I.size hu hv,List.drop_drop,List.drop_drop];simp only[Op.eqFields,h1,ne_eq,not_false_eq_true,if_true,h2,Sem.run_bind,p1,p2,Result.andThen_ok,he];cases da ((us.drop o).take I.size) ((vs.drop o).take I.size)with
   |false=>simp
   |true=>simpa using D9
theorem pg:∀(f:Nat) (t:TypeId) (cs:aJ),nJ P f t cs=true->∀(d:Nat) (us vs:List Value) (w:World),Typed cs us->Typed cs vs->(Op.equalIn (d+f) t (fI (fy P t) us) (fI (fy P t) vs)).run P w=.ok (da us vs) w
 |0,t,cs,h,_,_,_,_,_,_=>by cases h
 |f+1,t,cs,h,d,us,vs,w,hu,hv=>by
  unfold nJ at h;unfold fy;cases Dk:P.underlying t with
  |none=>rw[Dk]at h;cases h
  |some dd=>
   rw[Dk]at h;cases dd with
   |int k=>
    simp only at h;split at h
    ·rename_i k';match us,vs,hu,hv with
     | [u],[v],hu,hv=>obtain⟨a,rfl⟩:=hu.1;obtain⟨b,rfl⟩:=hv.1;have:=run_equalIn_int (P:=P) w (d+f) t k' k a b Dk;simp only[fI];rw[show d+(f+1)=(d+f)+1 from rfl];refine Eq.trans this ?_;simp[da]
     |_::_::_,_,hu,_=>exact hu.2.elim
     | [_],_::_::_,_,hv=>exact hv.2.elim
     | [],_,hu,_=>exact hu.elim
     | [_],[],_,hv=>exact hv.elim
    ·cases h
   |bool=>
    simp only at h;split at h
    ·match us,vs,hu,hv with
     | [u],[v],hu,hv=>obtain⟨a,rfl⟩:=hu.1;obtain⟨b,rfl⟩:=hv.1;have:=run_equalIn_bool' (P:=P) w (d+f) t a b Dk;simp only[fI];rw[show d+(f+1)=(d+f)+1 from rfl];refine Eq.trans this ?_;simp[da]
     |_::_::_,_,hu,_=>exact hu.2.elim
     | [_],_::_::_,_,hv=>exact hv.2.elim
     | [],_,hu,_=>exact hu.elim
     | [_],[],_,hv=>exact hv.elim
    ·cases h
   |struct fs=>
    simp only[Bool.and_eq_true,Bool.not_eq_true']at h;have hf:P.fieldsOf t=fs:=by simp[Program.fieldsOf,Dk]
    simp only[fI];rw[show d+(f+1)=(d+f)+1 from rfl,run_equalIn_struct w (d+f) t us.toArray vs.toArray (by rw[hf];exact Dk) h.1,hf];have:=nL f (fun t cs h d us vs w=>pg f t cs h d us vs w) d us vs w fs.toList 0 cs h.2 (by simpa using hu) (by simpa using hv);simpa using this
   |_=>cases h
def vB(P:Program)(ti:Nat->Option TI)(t:Nat):Bool:=match ti t with
 |some i=>nJ P 20 t i.cs&&(fy P t && !P.eqGuardType P.depth t)
 |none=>false
theorem Cz{P:Program}{ti:Nat->Option TI}{t:Nat}{i:TI}(h:vB P ti t=true)(hi:ti t=some i)(op:BinOp)(x y:Operand)(us vs:List Value)(w:World)(ho:op=.eql\/op=.neq)(hu:Typed i.cs us)(hv:Typed i.cs vs):
  (do eqGuard op t x y (.agg us.toArray) (.agg vs.toArray);binOp op t (.agg us.toArray) (.agg vs.toArray):Sem Value).run P w=.ok (.bool (match op with| .eql=>da us vs|_=>!da us vs)) w:=by
 unfold vB at h;rw[hi]at h;simp only[Bool.and_eq_true,Bool.not_eq_true']at h;obtain⟨h1,h2,h3⟩:=h;have he:=pg 20 t i.cs h1 9980 us vs w hu hv;rw[h2]at he;simp only[fI]at he;rcases ho with rfl|rfl
 ·rw[Sem.run_bind,run_eqGuard_agg w .eql t x y _ _ h3];simp only[Result.andThen_ok,run_eql_struct];rw[he];rfl
 ·rw[Sem.run_bind,run_eqGuard_agg w .neq t x y _ _ h3];simp only[Result.andThen_ok,run_neq_struct];rw[he];rfl
end
end Go.R
namespace Go.R
def wG:Ty->Value->Bool
 | .int k,.int k' n=>decide (k=k')&&decide (n=0)
 | .bool,.bool b=>!b
 | .str,.string s=>Nat.beq s.size 0
 | .sl _ _,.slice none 0 0=>true
 |_,_=>false
def oG:aJ->List Value->Bool
 | .nil,[]=>true
 | .cons t ts,v::vs=>wG t v&&oG ts vs
 |_,_=>false
theorem yN:∀(t:Ty) (v:Value),wG t v=true->v=zeroOf t:=by
 intro t v h;unfold wG at h;split at h
 ·rw[Bool.and_eq_true]at h;rw[of_decide_eq_true h.1,of_decide_eq_true h.2];rfl
 ·rename_i b;cases b with
  |true=>cases h
  |false=>rfl
 ·rename_i s;have h0:s.size=0:=Nat.eq_of_beq_eq_true h;show Value.string s=Value.string ByteArray.empty;congr 1;obtain⟨d⟩:=s;have:d = #[]:=Array.eq_empty_of_size_eq_zero h0;subst this;rfl
 ·rfl
 ·cases h
theorem qM:∀(ts:aJ) (vs:List Value),oG ts vs=true->vs=gG ts
 | .nil,[],_=>rfl
 | .nil,_::_,h=>by cases h
 | .cons _ _,[],h=>by cases h
 | .cons t ts,v::vs,h=>by simp only[oG,Bool.and_eq_true]at h;rw[yN t v h.1,qM ts vs h.2];rfl
def ox(P:Program):List Field->List (Nat×Nat×Bool)->Bool
 | [],[]=>true
 |F::fs,q::qs=>Nat.beq F.offset q.1&&(match P.info? F.type,P.underlying F.type with
  |some FI,some Fd=>Nat.beq FI.size q.2.1&&Nat.ble 1 FI.size&&(Fd.isRow==q.2.2)&&(q.2.2||Nat.beq q.2.1 1)
  |_,_=>false)&&ox P fs qs
 |_,_=>false
theorem oY{P:Program}:∀(fs:List Field) (qs:List (Nat×Nat×Bool)),ox P fs qs=true->fs.length=qs.length/\∀(f:Nat) (q:Nat×Nat×Bool),qs[f]? = some q->∃(F:Field) (FI:TypeInfo) (Fd:TypeDesc),fs[f]? = some F/\F.offset=q.1/\P.info? F.type=some FI/\FI.size=q.2.1/\0<FI.size/\P.underlying F.type=some Fd/\Fd.isRow=q.2.2/\(q.2.2=false->q.2.1=1)
 | [],[],_=>⟨rfl,by simp⟩
 | [],_::_,h=>by cases h
 |_::_,[],h=>by cases h
 |F::fs,q::qs,h=>by
  simp only[ox,Bool.and_eq_true]at h;obtain⟨⟨h1,h2⟩,h3⟩:=h;obtain⟨r1,r2⟩:=oY fs qs h3;refine⟨by simp[r1],fun f q' hq=>?_⟩;cases f with
  |zero=>
   simp at hq;subst hq;cases hi:P.info? F.type with
   |none=>rw[hi]at h2;cases h2
   |some FI=>
    cases hu:P.underlying F.type with
    |none=>rw[hi,hu]at h2;cases h2
    |some Fd=>rw[hi,hu]at h2;simp only[Bool.and_eq_true]at h2;obtain⟨⟨⟨a1,a2⟩,a3⟩,a4⟩:=h2;refine⟨F,FI,Fd,rfl,Nat.eq_of_beq_eq_true h1,hi,Nat.eq_of_beq_eq_true a1,Nat.le_of_ble_eq_true a2,hu,eq_of_beq a3,fun e=>?_⟩;rw[e,Bool.false_or]at a4;exact Nat.eq_of_beq_eq_true a4
  |succ f=>simpa using r2 f q' (by simpa using hq)
def i6:aJ->TypeDesc->Bool
 | .cons (.int k) .nil,.int k'=>decide (k=k')
 | .cons (.int _) .nil,_=>false
 | .cons .bool .nil,.bool=>true
 | .cons .bool .nil,_=>false
 | .cons .str .nil,.string=>true
 | .cons .str .nil,_=>false
 | .cons (.sl e _) .nil,.slice e'=>Nat.beq e e'
 | .cons (.sl _ _) .nil,_=>false
 |_,_=>true
def zo(P:Program)(t:Nat)(i:TI):Bool:=
 match P.info? t,P.underlying t with
 |some I,some d=>
  Nat.beq I.size i.cs.len&&(Nat.beq I.bytes i.bytes&&(Nat.ble 1 i.bytes&&Nat.ble i.bytes 65536)) &&
  (match I.zero with|some z=>oG i.cs z.cells.toList|none=>false) &&
  ((d.isRow==i.agg)&&(i.agg||Nat.beq i.cs.len 1)) &&
  (match d with| .struct fs=>!i.agg||ox P fs.toList i.fM|_=>!i.agg) &&
  (match i.el with|none=>true|some e=>(match d with| .slice e'=>Nat.beq e' e|_=>false)) &&
  (i.agg||i6 i.cs d)
 |_,_=>false
theorem i7{cs:aJ}{d:TypeDesc}(h:i6 cs d=true):(∀k,cs=.cons (.int k) .nil->d=.int k)/\(cs=.cons .bool .nil->d=.bool)/\(cs=.cons .str .nil->d=.string)/\(∀e cs',cs=.cons (.sl e cs') .nil->d=.slice e):=by
 refine⟨fun k e=>?_,fun e=>?_,fun e=>?_,fun e' cs' e=>?_⟩
 ·subst e;cases d <;> simp only[i6]at h <;> first|cases h|skip
  rw[of_decide_eq_true h]
 ·subst e;cases d <;> simp only[i6]at h <;> first|rfl|cases h
 ·subst e;cases d <;> simp only[i6]at h <;> first|rfl|cases h
 ·subst e;cases d <;> simp only[i6]at h <;> first|cases h|skip
  rw[Nat.eq_of_beq_eq_true h]
theorem zp{P:Program}{t:Nat}{i:TI}(h:zo P t i=true):∃I d,tI P t i I d:=by
 unfold zo at h;cases hi:P.info? t with
 |none=>rw[hi]at h;cases h
 |some I=>
  cases hu:P.underlying t with
  |none=>rw[hi,hu]at h;cases h
  |some d=>
   rw[hi,hu]at h;simp only[Bool.and_eq_true]at h;obtain⟨⟨⟨⟨⟨⟨h1,h2,h3,h4⟩,h5⟩,h6,h7⟩,h8⟩,h9⟩,F8⟩:=h;refine⟨I,d,?_⟩;have hk:i.agg=false->i6 i.cs d=true:=fun e=>by rw[e,Bool.false_or]at F8;exact F8
   exact
   {info:=hi
    AY:=hu
    size:=Nat.eq_of_beq_eq_true h1
    bytes:=Nat.eq_of_beq_eq_true h2
    bpos:=⟨Nat.le_of_ble_eq_true h3,Nat.le_of_ble_eq_true h4⟩
    zero:=by
     cases hz:I.zero with
     |none=>rw[hz]at h5;cases h5
     |some z=>rw[hz]at h5;exact⟨z,rfl,qM _ _ h5⟩
    row:=eq_of_beq h6
    one:=fun e=>by rw[e,Bool.false_or]at h7;exact Nat.eq_of_beq_eq_true h7
    fM:=fun e=>by
     cases d with
     |struct fs=>simp only[e,Bool.not_true,Bool.false_or]at h8;obtain⟨r1,r2⟩:=oY _ _ h8;exact⟨fs,rfl,by simpa using r1,fun f q hq=>by simpa using r2 f q hq⟩
     |_=>rw[e]at h8;cases h8
    el:=fun e he=>by
     rw[he]at h9;cases d <;> simp only at h9 <;> first|cases h9|skip
     rw[Nat.eq_of_beq_eq_true h9]
    El:=fun k e1 e2=>(i7 (hk e2)).1 k e1
    B4:=fun e1 e2=>(i7 (hk e2)).2.1 e1
    Ey:=fun e1 e2=>(i7 (hk e2)).2.2.1 e1
    HE:=fun e cs e1 e2=>(i7 (hk e2)).2.2.2 e cs e1 }
def uE:List (Nat×TI)->Nat->Option TI
 | [],_=>none
 |(t,i)::r,n=>bif Nat.beq t n then some i else uE r n
theorem rT:∀ {l:List (Nat×TI)} {n:Nat} {i:TI},uE l n=some i->(n,i)∈l
 | [],_,_,h=>by cases h
 |(t,j)::r,n,i,h=>by
  simp only[uE]at h;cases hb:Nat.beq t n with
  |true=>rw[hb]at h;have h:=Option.some.inj h;subst h;rw[Nat.eq_of_beq_eq_true hb];simp
  |false=>rw[hb]at h;exact List.mem_cons_of_mem _ (rT h)
def Cs(P:Program)(l:List (Nat×TI)):Bool:=l.all fun p=>zo P p.1 p.2
def w4:List (Nat×IntKind)->Nat->Option IntKind
 | [],_=>none
 |(t,i)::r,n=>bif Nat.beq t n then some i else w4 r n
def Ct(P:Program)(t:Nat)(k:IntKind):Bool:=
 match P.underlying t with
 |some (.map kt et)=>(match P.underlying kt with|some (.int k')=>decide (k'=k)|_=>false)&&(match P.info? et with|some I=>(match I.zero with|some (.bool b)=>!b|_=>false)|none=>false)
 |_=>false
theorem wO{P:Program}:∀ {l:List (Nat×IntKind)} {t:Nat} {k:IntKind},(l.all fun p=>Ct P p.1 p.2)=true->w4 l t=some k->∃kt et I,P.underlying t=some (.map kt et)/\P.underlying kt=some (.int k)/\P.info? et=some I/\I.zero=some (.bool false)
 | [],_,_,_,h=>by cases h
 |(t',k')::r,t,k,ha,h=>by
  rw[List.all_cons,Bool.and_eq_true]at ha;simp only[w4]at h;cases hb:Nat.beq t' t with
  |false=>rw[hb]at h;exact wO ha.2 h
  |true=>
   rw[hb]at h;have h:=Option.some.inj h;subst h;obtain rfl:=Nat.eq_of_beq_eq_true hb;have hc:=ha.1;unfold Ct at hc;split at hc
   ·rename_i kt et hu;rw[Bool.and_eq_true]at hc;obtain⟨h1,h2⟩:=hc;split at h1
    ·rename_i k2 hk;obtain rfl:=of_decide_eq_true h1;split at h2
     ·rename_i I hI;split at h2
      ·rename_i b hz;cases b with
       |true=>cases h2
       |false=>exact⟨kt,et,I,hu,hk,hI,hz⟩
      ·cases h2
     ·cases h2
    ·cases h1
   ·cases hc
theorem DD{P:Program}{l:List (Nat×TI)}(hm:P.follows .mixedOrders=true)(h:Cs P l=true){es:List Nat}(G1:(es.all fun t=>vB P (uE l) t)=true){ms:List (Nat×IntKind)}(Fs:(ms.all fun p=>Ct P p.1 p.2)=true)(E:Env)(Gt:E.ti=uE l)(heq:∀t,E.EJ t=es.any (Nat.beq t))(hmp:E.mp=w4 ms):cm P E where
 mo:=hm
 FJ t k ht:=by rw[hmp]at ht;exact wO Fs ht
 ti t i hi:=by rw[Gt]at hi;exact zp (List.all_eq_true.1 h (t,i) (rT hi))
 E8 t i hi ht op x y us vs w:=by rw[heq t]at ht;obtain⟨t',h1,h2⟩:=List.any_eq_true.1 ht;have:=Nat.eq_of_beq_eq_true h2;subst this;rw[Gt]at hi;intro ho hu hv;have:=Cz (List.all_eq_true.1 G1 _ h1) hi op x y us vs w ho hu hv;rcases ho with rfl|rfl <;> exact this
end Go.R

