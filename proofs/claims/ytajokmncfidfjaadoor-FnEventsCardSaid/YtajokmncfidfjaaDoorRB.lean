import Derived.Test.YtajokmncfidfjaaDoorRA
import Derived.Deep.AppendSrc
/- An abstract interpreter over the code of Go functions, proved sound once: what it answers, the code computes. Conditions: none. -/
set_option autoImplicit false
set_option linter.unusedVariables false
set_option linter.unusedSimpArgs false
set_option maxRecDepth 4000
namespace Go.R
variable {H:Nat->Value}
section
variable {R:Type} {P:Program} {E:Env} {ω:aJ} {a:Act} {w:World} {s:S} {k:S->Option R} {r:R} {o:Oper} {Q:Exit->Act->World->Prop}
structure nk (w w':World) (b:Nat):Prop where
 os:w'.os=w.os
 tape:w'.tape=w.tape
 output:w'.output=w.output
 size:w'.heap.size=w.heap.size
 block:∀c,c≠b->w'.heap[c]? = w.heap[c]?
theorem nk.refl(w:World)(b:Nat):nk w w b:=⟨rfl,rfl,rfl,rfl,fun _ _=>rfl⟩
theorem nk.trans{w w' w'':World}{b:Nat}(h:nk w w' b)(h':nk w' w'' b):nk w w'' b:=⟨h'.os.trans h.os,h'.tape.trans h.tape,h'.output.trans h.output,h'.size.trans h.size,fun c hc=>(h'.block c hc).trans (h.block c hc)⟩
theorem vl{b o' T:Nat}{arr:Array Value}{z:Nat×Nat}{v:Value}(h:w.heap[b]? = some (.cells arr T z)):
  (w.setCell ⟨b,o',none⟩ v).heap[b]? = some (.cells (arr.setIfInBounds o' v) T z):=by
 simp[World.setCell,Array.getElem?_modify,h]
theorem vk(b o':Nat)(v:Value):nk w (w.setCell ⟨b,o',none⟩ v) b:=⟨rfl,rfl,rfl,by simp[World.setCell],fun c hc=>by simp[World.setCell,Array.getElem?_modify,Ne.symm hc]⟩
theorem dV(b:Nat):∀(vs:List Value) (o':Nat) (w:World),nk w (w.setCells b o' vs) b
 | [],_,w=>nk.refl w b
 |v::vs,o',w=>(vk b o' v).trans (dV b vs (o'+1) _)
theorem ee(b T:Nat)(z:Nat×Nat):∀(vs:List Value) (o':Nat) (w:World) (arr:Array Value),w.heap[b]? = some (.cells arr T z)->o'+vs.length<=arr.size ->
  ∃bW,(w.setCells b o' vs).heap[b]? = some (.cells bW T z)/\bW.toList=arr.toList.take o'++vs++arr.toList.drop (o'+vs.length)
 | [],o',w,arr,h,_=>⟨arr,h,by simp⟩
 |v::vs,o',w,arr,h,hle=>by
  simp only[List.length_cons]at hle;obtain⟨bW,h1,h2⟩:=ee b T z vs (o'+1) _ _ (vl (v:=v) (o':=o') h) (by simp;omega);refine⟨bW,h1,?_⟩;rw[h2];have hlt:o'<arr.toList.length:=by simp;omega
  simp only[Array.toList_setIfInBounds];rw[List.take_set,List.drop_set_of_lt (by omega)];have e1:(arr.toList.take (o'+1)).set o' v=arr.toList.take o'++[v]:=by
   rw[List.take_succ_eq_append_getElem hlt,List.set_append_right _ _ (by simp;omega)];simp;have:o'-min o' arr.size=0:=by omega
   rw[this];rfl
  rw[e1];simp only[List.length_cons,List.append_assoc,List.cons_append,List.nil_append];congr 3;rw[show o'+1+vs.length=o'+(vs.length+1)by omega]
theorem iX{w':World}{b id id':Nat}(h0:id≠0)(oM:id'≠0)(hb:ω b=some (id,[]))(hp:nk w w' b):dr ω w (ω.fresh id' b) w':=
 ⟨hp.os,hp.tape,hp.output,by rw[hp.size];exact Nat.le_refl _,fun c hc hn=>by
  have:c≠b:=fun e=>by subst e;exact hn.ne hb h0
  exact⟨hp.block c this,n9 oM this hn⟩⟩
theorem fS{id:Nat}(ho:(s.ob id).o=.gone){g h:Nat}{p:jR}{c:Cont real}(hc:s.cont id g h p=some c):False:=by rw[iP ho]at hc;cases hc
theorem xE{w':World}{b id id':Nat}(h0:id≠0)(oM:id'≠0)(hd:∀b k,ω b=some k->b<w.heap.size)(hb:ω b=some (id,[]))(ho:(s.ob id).o=.gone)(hp:nk w w' b)(o:Ob real)(j:Nat):Tr w ω s w' (ω.fresh id' b) (s.new id' o) j:=by
 by_cases e:j=id'
 ·subst e;exact dx.tr (by unfold dx St.new;rw[St.aY];exact Nat.lt_succ_self _)
 ·have cf:(s.new id' o).ob j=s.ob j:=by unfold St.new;exact St.bD _ _ e
  by_cases e':j=id
  ·subst e';have cU:((s.new id' o).ob j).o=.gone:=by rw[cf];exact ho
   exact
   {ref:=fun v g h p hr=>⟨by rw[cf];exact hr.1,by rw[cf];exact hr.2.1,fun c hc=>(fS cU hc).elim⟩
    ptr:=fun v g off hr=>⟨by rw[cf];exact hr.1,fun _ cells hc=>by rw[cU]at hc;cases hc⟩
    cj:=fun v g h p i off hr=>⟨by rw[cf];exact hr.1,by rw[cf];exact hr.2.1,fun c hc=>(fS cU hc).elim⟩
    cV:=fun v g hr=>hr.shut (by rw[cf]) fun k x e=>by rw[cU]at e;cases e }
  ·refine gq.tr ⟨cf,fun c kk hc hk hj=>?_⟩ (iX h0 oM hb hp) hd;have:c≠b:=fun ec=>by subst ec;rw[hb]at hk;injection hk with hk;subst hk;exact e' hj.symm
   exact⟨hp.block c this,by rw[hk];exact aJ.gd this hk (by rw[hj];exact e)⟩
theorem Rel.CM(h:Rel H ω a w s){w':World}{b id id':Nat}(h0:id≠0)(oM:id'≠0)(hb:ω b=some (id,[]))(ho:(s.ob id).o=.gone)(hp:nk w w' b)(o:Ob real)(hno:∀cells,o≠.blk cells):
  Rel H (ω.fresh id' b) a w' (s.new id' o) where
 dP:=h.dP.ext (iX h0 oM hb hp)
 inj c c' kk h1 h2:=by
  rcases aJ.fR h1 with ⟨e1,e2⟩|⟨e1,e2,e3⟩ <;> rcases aJ.fR h2 with ⟨e4,e5⟩|⟨e4,e5,e6⟩
  ·rw[e1,e4]
  ·rw[e2]at e6;exact absurd rfl e6
  ·rw[e5]at e3;exact absurd rfl e3
  ·exact h.inj c c' kk e2 e5
 dom c kk h1:=by
  rw[hp.size];rcases aJ.fR h1 with ⟨e1,_⟩|⟨_,e2,_⟩
  ·rw[e1];exact h.dom b _ hb
  ·exact h.dom c kk e2
 defers:=h.defers
 dR:=by
  have:(s.new id' o).ob 0=s.ob 0:=by unfold St.new;exact St.bD _ _ (Ne.symm oM)
  rw[this];exact h.dR
 slots i:=dh.frame (iX h0 oM hb hp) (xE h0 oM h.dom hb ho hp o) (h.slots i)
 dB j cells hc:=by
  by_cases e:j=id'
  ·subst e;exact absurd (by simpa[St.new,St.aY] using hc) (hno cells)
  ·have cf:(s.new id' o).ob j=s.ob j:=by unfold St.new;exact St.bD _ _ e
   rw[cf]at hc;obtain⟨c,arr,T,h1,h2,h3⟩:=h.dB j cells hc;have hcb:c≠b:=fun ec=>by subst ec;rw[hb]at h1;injection h1 with h1;injection h1 with h1 _;subst h1;rw[ho]at hc;cases hc
   exact⟨c,arr,T,aJ.gd hcb h1 e,(hp.block c hcb).trans h2,h3.mono fun _ _ hl=>cA.frame (iX h0 oM hb hp) (xE h0 oM h.dom hb ho hp o) hl⟩
theorem xd{id':Nat}(h0:id'≠0)(hd:∀b k,ω b=some k->b<w.heap.size)(o:Ob real)(j:Nat):Tr w ω s w (ω.drop id') (s.new id' o) j:=by
 by_cases e:j=id'
 ·subst e;exact dx.tr (by unfold dx St.new;rw[St.aY];exact Nat.lt_succ_self _)
 ·exact gq.tr ⟨by unfold St.new;exact St.bD _ _ e,fun b kk hb hk hj=>⟨rfl,by rw[hk];exact aJ.dO hk (by rw[hj];exact e)⟩⟩ (bP _ _ _ h0) hd
theorem Rel.bare(h:Rel H ω a w s){id':Nat}(h0:id'≠0)(o:Ob real)(hno:∀cells,o≠.blk cells):Rel H (ω.drop id') a w (s.new id' o) where
 dP:=h.dP.ext (bP _ _ _ h0)
 inj b b' kk h1 h2:=h.inj b b' kk (aJ.dH h1).1 (aJ.dH h2).1
 dom b kk h1:=h.dom b kk (aJ.dH h1).1
 defers:=h.defers
 dR:=by
  have:(s.new id' o).ob 0=s.ob 0:=by unfold St.new;exact St.bD _ _ (Ne.symm h0)
  rw[this];exact h.dR
 slots i:=dh.frame (bP _ _ _ h0) (xd h0 h.dom o) (h.slots i)
 dB j cells hc:=by
  by_cases e:j=id'
  ·subst e;exact absurd (by simpa[St.new,St.aY] using hc) (hno cells)
  ·have cf:(s.new id' o).ob j=s.ob j:=by unfold St.new;exact St.bD _ _ e
   rw[cf]at hc;obtain⟨c,arr,T,h1,h2,h3⟩:=h.dB j cells hc;exact⟨c,arr,T,aJ.dO h1 e,h2,h3.mono fun _ _ hl=>cA.frame (bP _ _ _ h0) (xd h0 h.dom o) hl⟩
theorem Ty.fT{w':World}{aI:aJ}{md md':Md}{v:Value}:∀ {t:Ty} {x:t.T},(∀e cs,t≠.sl e cs)->t.R w ω md v x->t.R w' aI md' v x
 | .int _,_,_,h=>h
 | .bool,_,_,h=>h
 | .str,_,_,h=>h
 | .sl e cs,_,hn,_=>absurd rfl (hn e cs)
theorem qw{t:Ty}{ts:aK}(h:(aK.cons t ts).plain=true):(∀e cs,t≠.sl e cs)/\ts.plain=true:=by
 cases t with
 |sl e cs=>cases h
 |_=>exact⟨fun _ _ e=>(by cases e),h⟩
theorem aK.fT{w':World}{aI:aJ}:∀(cs:aK) (md md':Nat->Md) (g:Nat->Option Value) (j:Nat) (x:cs.T),cs.plain=true->cs.R w ω md g j x->cs.R w' aI md' g j x
 | .nil,_,_,_,_,_,_,_=>trivial
 | .cons t ts,md,md',g,j,x,hp,h=>by obtain⟨⟨v,h1,h2⟩,h3⟩:=h;exact⟨⟨v,h1,Ty.fT (qw hp).1 h2⟩,aK.fT ts md md' g (j+1) _ (qw hp).2 h3⟩
theorem Ty.DY{md:Md}{v:Value}:∀ {t:Ty} {x:t.T},t.R w ω md v x->v.oneCell'=true
 | .int _,_,h=>by have:v=_:=h;subst this;rfl
 | .bool,_,h=>by have:v=_:=h;subst this;rfl
 | .str,_,h=>by have:v=_:=h;subst this;rfl
 | .sl _ _,_,h=>by obtain⟨_,_,_,h,_⟩:=h;subst h;rfl
theorem aK.zG:∀(cs:aK) (md:Nat->Md) (g:Nat->Option Value) (j:Nat) (x:cs.T),cs.R w ω md g j x ->
  ∃us:List Value,us.length=cs.len/\∀k u,us[k]? = some u->g (j+k)=some u/\u.oneCell'=true
 | .nil,_,_,_,_,_=>⟨[],rfl,by simp⟩
 | .cons t ts,md,g,j,x,h=>by
  obtain⟨⟨v,h1,h2⟩,h3⟩:=h;obtain⟨us,e1,e2⟩:=aK.zG ts md g (j+1) _ h3;refine⟨v::us,by simp[aK.len,e1],fun k u hu=>?_⟩;cases k with
  |zero=>simp at hu;subst hu;exact⟨h1,Ty.DY h2⟩
  |succ k=>have:=e2 k u (by simpa using hu);rwa[show j+1+k=j+(k+1)by omega]at this
theorem nN{b off m:Nat}:∀(n:Nat),(∀i,i<n->∃us:List Value,us.length=m/\∀k u,us[k]? = some u->w.cell? ⟨b,off+i*m+k,none⟩=some u/\u.oneCell'=true) ->
  ∃news:List Value,news.length=n*m/\∀k u,news[k]? = some u->w.cell? ⟨b,off+k,none⟩=some u/\u.oneCell'=true
 |0,_=>⟨[],by simp,by simp⟩
 |n+1,h=>by
  obtain⟨news,h1,h2⟩:=nN n (fun i hi=>h i (by omega));obtain⟨us,h3,h4⟩:=h n (by omega);refine⟨news++us,by rw[List.length_append,h1,h3,Nat.succ_mul],fun k u hu=>?_⟩;by_cases hk:k<news.length
  ·rw[List.getElem?_append_left hk]at hu;exact h2 k u hu
  ·rw[List.getElem?_append_right (by omega)]at hu;have:=h4 _ u hu;rwa[show off+n*m+(k-news.length)=off+k by omega]at this
theorem sG{t:cm}{v:Value}{c:Cont real}(h:gz s t=some c)(hr:dh H w ω s v t)(hok:c.md≠2\/c.cs.plain=true):
  ∃(ad:Option Addr) (cp:Nat) (news:List Value),v=.slice ad (List.length c.x) cp/\List.length c.x<=cp/\news.length=List.length c.x*c.cs.len/\(∀u∈news,u.oneCell'=true) /\
   (0<List.length c.x->∃b off,ad=some ⟨b,off,none⟩/\∀k u,news[k]? = some u->w.cell? ⟨b,off+k,none⟩=some u) /\
   ∀(i:Nat),i<List.length c.x->c.cs.R w ω (fun _=>.cB) (fun j=>news[i*c.cs.len+j]?) 0 (List.getD c.x i (lB c.cs)):=by
 have key:∀(md:Md),(Ty.sl c.e c.cs).R w ω md v c.x->(∀i j,md.inner i j=.cB)\/c.cs.plain=true->∃(ad:Option Addr) (cp:Nat) (news:List Value),v=.slice ad (List.length c.x) cp/\List.length c.x<=cp/\news.length=List.length c.x*c.cs.len/\(∀u∈news,u.oneCell'=true) /\
   (0<List.length c.x->∃b off,ad=some ⟨b,off,none⟩/\∀k u,news[k]? = some u->w.cell? ⟨b,off+k,none⟩=some u) /\
   ∀(i:Nat),i<List.length c.x->c.cs.R w ω (fun _=>.cB) (fun j=>news[i*c.cs.len+j]?) 0 (List.getD c.x i (lB c.cs)):=by
  intro md hR jT;obtain⟨ad,n,cp,e1,e2,e3,e4,e5⟩:=hR;subst e2;by_cases h0:List.length c.x=0
  ·refine⟨ad,cp,[],e1,e3,by rw[h0];simp,by simp,fun hp=>absurd hp (by omega),fun i hi=>absurd hi (by omega)⟩
  ·have hpos:0<List.length c.x:=Nat.pos_of_ne_zero h0;obtain⟨b,off,f1,f2,f3⟩:=e4.block hpos;obtain⟨news,g1,g2⟩:=nN (w:=w) (b:=b) (off:=off) (m:=c.cs.len) (List.length c.x) (fun i hi=>by obtain⟨us,u1,u2⟩:=aK.zG c.cs _ _ 0 _ (e5 i _ hi f1);exact⟨us,u1,fun k u hu=>by have:=u2 k u hu;simpa using this⟩);refine⟨ad,cp,news,e1,e3,g1,fun u hu=>?_,fun _=>⟨b,off,f1,fun k u hu=>(g2 k u hu).1⟩,fun i hi=>?_⟩
   ·obtain⟨k,hk,rfl⟩:=List.getElem_of_mem hu;exact(g2 k _ (List.getElem?_eq_getElem hk)).2
   ·have hrow:=e5 i _ hi f1;have EG:c.cs.R w ω (fun _=>.cB) (fun j=>w.cell? ⟨b,off+i*c.cs.len+j,none⟩) 0 (List.getD c.x i (lB c.cs)):=by
     rcases jT with jT|jT
     ·have:md.inner i=fun _=>.cB:=funext fun j=>jT i j;rw[this]at hrow;exact hrow
     ·exact aK.fT c.cs _ _ _ 0 _ jT hrow
    refine aK.fy c.cs _ _ _ 0 _ (fun j hj=>?_) EG;rw[Nat.zero_add];have hlt:i*c.cs.len+j<news.length:=by rw[g1];have:(i+1)*c.cs.len<=List.length c.x*c.cs.len:=Nat.mul_le_mul_right _ hi;rw[Nat.succ_mul]at this;omega
    have:=(g2 _ _ (List.getElem?_eq_getElem hlt)).1;rw[List.getElem?_eq_getElem hlt,<-this];rw[Nat.add_assoc]
 unfold gz at h;split at h
 ·injection h with h
  subst h;exact key .cB hr (.inl fun _ _=>rfl)
 ·injection h with h
  subst h;obtain⟨ad,e1⟩:=hr;exact key .cB ⟨ad,0,0,e1,rfl,Nat.le_refl _,fun hn=>absurd hn (by omega),fun i _ hi=>absurd hi (by omega)⟩ (.inl fun _ _=>rfl)
 ·rename_i id g hh p;have hR:=hr.2.2 c h;refine key _ hR ?_;rcases hok with hok|hok
  ·rcases(kQ h).2 with hm|hm|hm
   ·rw[hm];exact .inl fun _ _=>rfl
   ·rw[hm];exact .inl fun _ _=>rfl
   ·exact absurd hm hok
  ·exact .inr hok
 ·cases h
end
end Go.R
namespace Go.R
variable {H:Nat->Value}
section
variable {R:Type} {P:Program} {E:Env} {ω:aJ} {a:Act} {w:World} {s:S} {k:S->Option R} {r:R} {o:Oper} {Q:Exit->Act->World->Prop}
theorem gS {w1:World} {bi:aJ} {s1:S} {e:Nat} {cs:aK} {dp:Bool} {z:List cs.T} {id:Nat} {v:Value} (h:Rel H bi a w1 (s1.new id (.arr e cs dp z))) (he:dr ω w bi w1) (hd:∀d,o.dst=some d->d<a.tmps.size)
  (hv:(Ty.sl e cs).R w1 bi (bk (bif dp then 2 else 1) id []) v z) (hk:k ((s1.new id (.arr e cs dp z)).ck o.dst (.one (.ref id ((s1.new id (.arr e cs dp z)).ob id).g 0 [])))=some r):
  Ends H ω a w o.dst k r (a.put o.dst v) w1:=by
 refine dZ h he hd (t:=.one (.ref id ((s1.new id (.arr e cs dp z)).ob id).g 0 [])) ⟨Nat.le_refl _,by simp,fun c' eo=>?_⟩ hk;have ho:((s1.new id (.arr e cs dp z)).ob id).o=.arr e cs dp z:=by unfold St.new;rw[St.aY]
 rw[cu ho rfl]at eo;injection eo with eo
 subst eo;exact hv
inductive CR (ω:aJ) (w:World) (s1:S) (e:Nat) (cs:aK) (x:List cs.T) (v:Value):Prop where
 |none (ad:Option Addr) (hv:v=.slice ad 0 0) (hx:x=[])
 |some (b id c:Nat) (h0:id≠0) (arr:Array Value) (hv:v=.slice (some ⟨b,0,none⟩) x.length c) (hn:x.length<=c) (hh:w.heap[b]? = some (.cells arr e (0,0))) (hsz:arr.size=c*cs.len) (hb:ω b=some (id,[])) (ho:(s1.ob id).o=.gone)
   (hel:∀(i:Nat),i<x.length->cs.R w ω (fun _=>.cB) (fun j=>arr[i*cs.len+j]?) 0 (x.getD i (lB cs)))
theorem lQ{aI:aJ}{w':World}{dp:Bool}{id:Nat}{cs:aK}{g:Nat->Option Value}{i:Nat}{x:cs.T}(xq:dp=true->cs.plain=true)(h:cs.R w' aI (fun _=>.cB) g 0 x):
  cs.R w' aI ((bk (bif dp then 2 else 1) id []).inner i) g 0 x:=by
 cases dp with
 |false=>exact h
 |true=>exact aK.fT cs _ _ _ 0 _ (xq rfl) h
theorem Ao{aI:aJ}{w':World}{dp:Bool}{id e m b n c:Nat}{arr:Array Value}(hh:w'.heap[b]? = some (.cells arr e (0,0)))(hs:arr.size=c*m)(hb:aI b=some (id,[])):
  Hd w' aI e m (bk (bif dp then 2 else 1) id []) (some ⟨b,0,none⟩) n c:=by
 cases dp <;> exact .inr ⟨b,arr,rfl,hh,hs,hb⟩
theorem oN{aI:aJ}{w':World}{dp:Bool}{id e m:Nat}{ad:Option Addr}:Hd w' aI e m (bk (bif dp then 2 else 1) id []) ad 0 0:=by cases dp <;> exact .inl ⟨rfl,rfl⟩
theorem uI{α:Type}(xs ys:List α)(i:Nat)(z:α):(xs++ys).getD i z=if i<xs.length then xs.getD i z else ys.getD (i-xs.length) z:=by
 rw[List.getD_eq_getElem?_getD];split
 ·rename_i h;rw[List.getElem?_append_left h,<-List.getD_eq_getElem?_getD]
 ·rename_i h;rw[List.getElem?_append_right (by omega),<-List.getD_eq_getElem?_getD]
theorem gD{α:Type}(xs ys:List α):(xs++ys).length=xs.length+ys.length:=List.length_append
theorem hJ{i n m j c:Nat}(hi:i<n)(hj:j<m)(hc:n<=c):i*m+j<c*m:=by have h1:(i+1)*m<=c*m:=Nat.mul_le_mul_right _ (by omega);rw[Nat.succ_mul]at h1;omega
theorem uk {aI:aJ} {w':World} {cs:aK} {xs ys:List cs.T} {olds news:List Value} {row:Nat->Option Value} (ng:olds.length=xs.length*cs.len) (hnl:news.length=ys.length*cs.len)
  (ho:∀i,i<xs.length->cs.R w' aI (fun _=>.cB) (fun j=>olds[i*cs.len+j]?) 0 (xs.getD i (lB cs)))
  (hn:∀i,i<ys.length->cs.R w' aI (fun _=>.cB) (fun j=>news[i*cs.len+j]?) 0 (ys.getD i (lB cs)))
  (hr:∀j,j<(xs.length+ys.length)*cs.len->row j=(olds++news)[j]?):
  ∀i,i<(xs++ys).length->cs.R w' aI (fun _=>.cB) (fun j=>row (i*cs.len+j)) 0 ((xs++ys).getD i (lB cs)):=by
 intro i hi;rw[gD]at hi;rw[uI];split
 ·rename_i hlt;refine aK.fy cs _ _ _ 0 _ (fun j hj=>?_) (ho i hlt);rw[Nat.zero_add,hr _ (hJ hi hj (Nat.le_refl _)),List.getElem?_append_left (by rw[ng];exact hJ hlt hj (Nat.le_refl _))]
 ·rename_i hge;refine aK.fy cs _ _ _ 0 _ (fun j hj=>?_) (hn (i-xs.length) (by omega));rw[Nat.zero_add,hr _ (hJ hi hj (Nat.le_refl _))];have e:i*cs.len=xs.length*cs.len+(i-xs.length)*cs.len:=by rw[<-Nat.add_mul];congr 1;omega
  rw[List.getElem?_append_right (by rw[ng];omega),ng];congr 1;omega
theorem ul {s1:S} (h:Rel H ω a w s1) (hd:∀d,o.dst=some d->d<a.tmps.size) {t t' e:Nat} {cs:aK} {xs ys:List cs.T} {vx vy:Value} {dp:Bool} {id':Nat} (oM:id'≠0) {I:TypeInfo} {z:Value}
  (hu:P.underlying t=some (.slice e)) (hie:P.info? e=some I) (hz:I.zero=some z) (hsz:I.size=cs.len) (hzs:z.cells.size=cs.len) (hby:I.bytes<=65536)
  (hx:CR ω w s1 e cs xs vx) {news:List Value} (hsrc:Src P I.size t' vy ys.length news w) (hnews:∀i,i<ys.length->cs.R w ω (fun _=>.cB) (fun j=>news[i*cs.len+j]?) 0 (ys.getD i (lB cs)))
  (l8:((xs++ys).length:Int)<=1073741824) (xq:dp=true->cs.plain=true) (ty:Nat)
  (hk:k ((s1.new id' (.arr e cs dp (xs++ys))).ck o.dst (.one (.ref id' ((s1.new id' (.arr e cs dp (xs++ys))).ob id').g 0 [])))=some r):
  ∃v w',(Builtin.append_ #[t,t'] ty #[vx,vy]).run P w=.ok v w'/\Ends H ω a w o.dst k r (a.put o.dst v) w':=by
 rw[gD]at l8;have hnl:news.length=ys.length*cs.len:=by rw[hsrc.newsLen,hsz]
 have grow:∀(base:Option Addr) (c:Nat) (olds:List Value),vx=.slice base xs.length c->c<xs.length+ys.length->olds.length=xs.length*cs.len ->
   (Builtin.firstCells I.size xs.length (.slice base xs.length c)).run P w.drew=.ok olds.toArray w.drew ->
   (∀i,i<xs.length->cs.R w ω (fun _=>.cB) (fun j=>olds[i*cs.len+j]?) 0 (xs.getD i (lB cs))) ->
   ∃v w',(Builtin.append_ #[t,t'] ty #[vx,vy]).run P w=.ok v w'/\Ends H ω a w o.dst k r (a.put o.dst v) w':=by
  intro base c olds hv hc ng FP hel;have hfit:Builtin.nextslicecap (xs.length+ys.length) c*I.bytes<=281474976710656:=by
   refine growslice_fits hc ?_;have h1:(xs.length+ys.length)*I.bytes<=(xs.length+ys.length)*65536:=Nat.mul_le_mul_left _ hby;have h2:xs.length+ys.length<=1073741824:=by omega
   omega
  have hrun:=run_append_grow_src (P:=P) w t t' ty e I z hu hie hz base xs.length c olds FP vy ys.length news hsrc hc (by omega) hfit;rw[<-hv]at hrun;refine⟨_,_,hrun,?_⟩;have hge:=grownCap_ge w (xs.length+ys.length) c e;have hG:eO w w.drew:=eO.drew w;have rA:=h.world (w':=w.drew) (hG.ext ω) hG.block;have wh:((olds++news).toArray++Builtin.zeroCells z.cells (grownCap w (xs.length+ys.length) c e-(xs.length+ys.length))).size=grownCap w (xs.length+ys.length) c e*cs.len:=by
   have h1:(Builtin.zeroCells z.cells (grownCap w (xs.length+ys.length) c e-(xs.length+ys.length))).size=(grownCap w (xs.length+ys.length) c e-(xs.length+ys.length))*cs.len:=by simp[Builtin.zeroCells,hzs]
   rw[Array.size_append,h1,List.size_toArray,List.length_append,ng,hnl,<-Nat.add_mul,<-Nat.add_mul];congr 1;omega
  have gV:=tF (k:=k) (r:=r) (ω:=ω) (w:=w) (w1:=w.drew) (bi:=ω) (s1:=s1) (e:=e) (cs:=cs) (dp:=dp) (x:=xs++ys) (id:=id') (c:=grownCap w (xs.length+ys.length) c e) rA (hG.ext ω) hd oM (by rw[gD];exact hge) wh (fun i hi=>?_) hk
  ·rw[gD]at gV;exact gV
  ·refine lQ xq ?_;have hfr:∀(g:Nat->Option Value) (x:cs.T),cs.R w ω (fun _=>.cB) g 0 x->cs.R (w.drew.alloc (.cells ((olds++news).toArray++Builtin.zeroCells z.cells (grownCap w (xs.length+ys.length) c e-(xs.length+ys.length))) e)) (ω.fresh id' w.drew.heap.size) (fun _=>.cB) g 0 x:=by intro g x hg;have GF:=hG.trans (eO.alloc w.drew (.cells ((olds++news).toArray++Builtin.zeroCells z.cells (grownCap w (xs.length+ys.length) c e-(xs.length+ys.length))) e));exact aK.cG GF.size cs _ _ _ 0 _ (fun _=>(ed (id:=id') oM GF (Nat.le_refl _)).keeps) (fun _=>rfl) hg
   refine uk (row:=fun j=>((olds++news).toArray++Builtin.zeroCells z.cells (grownCap w (xs.length+ys.length) c e-(xs.length+ys.length)))[j]?) ng hnl (fun i hi=>hfr _ _ (hel i hi)) (fun i hi=>hfr _ _ (hnews i hi)) (fun j hj=>?_) i hi;have hlt:j<(olds++news).toArray.size:=by rw[List.size_toArray,List.length_append,ng,hnl,<-Nat.add_mul];exact hj
   show _=_;rw[Array.getElem?_append_left hlt,List.getElem?_toArray]
 cases hx with
 |none ad hv hx0=>
  subst hx0;by_cases h0:ys.length=0
  ·have hys:ys=[]:=List.length_eq_zero_iff.1 h0;subst hys;have Ez:news=[]:=List.length_eq_zero_iff.1 (by rw[hnl];simp);subst Ez;refine⟨.slice ad 0 0,w,?_,?_⟩
   ·subst hv;have hlen:∀w':World,(Builtin.lenOf vy).run P w'=.ok 0 w':=hsrc.len;have jH:=hsrc.cells;have Al:(Builtin.firstCells I.size 0 vy).run P w=.ok #[] w:=jH;rcases hsrc.kind with ⟨e',hk'⟩|hk'
    ·cases ad <;> simp[Builtin.append_,run_underlying hu,run_underlying hk',sizeOf,typeInfo,hie,hlen,Al,storeCells]
    ·cases ad <;> simp[Builtin.append_,run_underlying hu,run_underlying hk',sizeOf,typeInfo,hie,hlen,Al,storeCells]
   ·have hR:=h.bare (id':=id') oM (.arr e cs dp (([]:List cs.T)++[])) (fun _ e=>by cases e);exact gS hR (bP _ _ _ oM) hd ⟨ad,0,0,rfl,rfl,Nat.le_refl _,oN,fun i _ hi=>absurd hi (by omega)⟩ hk
  ·refine grow ad 0 [] hv (by simp;omega) (by simp) ?_ (fun i hi=>absurd hi (by simp));cases ad with
   |none=>rfl
   |some A=>exact run_firstCells_some w.drew I.size 0 A 0 0 [] (by simp) (by simp)
 |some b id c h0 arr hv hn hh wh hb ho hel=>
  have hal:arr.toList.length=c*cs.len:=(Array.length_toList (xs:=arr)).trans wh;have hmin:min (xs.length*cs.len) (c*cs.len)=xs.length*cs.len:=Nat.min_eq_left (Nat.mul_le_mul_right _ hn);by_cases hroom:xs.length+ys.length<=c
  ·subst hv;have jH:∀j,j<arr.size->w.cell? ⟨b,j,none⟩=arr[j]?:=fun j _=>cell_of_row w b j arr e (0,0) hh;have hfit:xs.length*cs.len+news.length<=arr.size:=by rw[hnl,wh,<-Nat.add_mul];exact Nat.mul_le_mul_right _ hroom
   have hrun:=run_append_room_src (P:=P) w t t' ty e I hu hie b 0 xs.length c vy ys.length news hsrc hroom
    (fun j hj=>by rw[hsz,Nat.zero_add,jH _ (by omega)];simp;omega)
    (fun j hj=>by simp[World.frozen?,hh])
   rw[hsz,Nat.zero_add]at hrun;refine⟨_,_,hrun,?_⟩;obtain⟨bW,g1,g2⟩:=ee b e (0,0) news (xs.length*cs.len) w arr hh hfit;have hp:=dV b news (xs.length*cs.len) w;have hR:=h.CM (id':=id') h0 oM hb ho hp (.arr e cs dp (xs++ys)) (fun _ e=>by cases e);have gU:=iX (id':=id') h0 oM hb hp;refine gS hR gU hd ?_ hk;refine⟨some ⟨b,0,none⟩,xs.length+ys.length,c,rfl,gD _ _,hroom,Ao g1 ?_ (aJ.fc _ _ _),?_⟩
   ·rw[<-Array.length_toList,g2];simp only[List.length_append,List.length_take,List.length_drop,Array.length_toList];omega
   ·intro i ad hi had;injection had with had
    subst had;refine lQ xq ?_;have hfr:∀(g:Nat->Option Value) (x:cs.T),cs.R w ω (fun _=>.cB) g 0 x->cs.R (w.setCells b (xs.length*cs.len) news) (ω.fresh id' b) (fun _=>.cB) g 0 x:=by intro g x hg;exact aK.cG gU.size cs _ _ _ 0 _ (fun _=>gU.keeps) (fun _=>rfl) hg
    have ng:(arr.toList.take (xs.length*cs.len)).length=xs.length*cs.len:=by rw[List.length_take,hal];exact hmin
    have:=uk (row:=fun j=>(w.setCells b (xs.length*cs.len) news).cell? ⟨b,0+j,none⟩) ng hnl (fun i hi=>hfr _ _ (aK.fy cs _ _ _ 0 _ (fun j hj=>by
      rw[Nat.zero_add,List.getElem?_take_of_lt (hJ hi hj (Nat.le_refl _)),Array.getElem?_toList]) (hel i hi))) (fun i hi=>hfr _ _ (hnews i hi)) (fun j hj=>by
      have hlt:j<(arr.toList.take (xs.length*cs.len)++news).length:=by rw[List.length_append,ng,hnl,<-Nat.add_mul];exact hj
      show _=_;rw[Nat.zero_add,cell_of_row _ b j bW e (0,0) g1,<-Array.getElem?_toList,g2,List.getElem?_append_left hlt]) i (by rw[gD];exact hi)
    refine aK.fy cs _ _ _ 0 _ (fun j _=>?_) this;rw[Nat.zero_add,Nat.zero_add,Nat.zero_add]
  ·refine grow (some ⟨b,0,none⟩) c (arr.toList.take (xs.length*cs.len)) hv (by omega) ?_ ?_ ?_
   ·rw[List.length_take,hal];exact hmin
   ·refine run_firstCells_some w.drew I.size xs.length ⟨b,0,none⟩ xs.length c _ ?_ ?_
    ·rw[List.length_take,hal,hsz];exact hmin
    ·intro j u hu;have hj:j<xs.length*cs.len:=by have:=(List.getElem?_eq_some_iff.1 hu).1;rw[List.length_take]at this;omega
     rw[List.getElem?_take_of_lt hj,Array.getElem?_toList]at hu;rw[Addr.add_mid,Nat.zero_add,<-hu];exact cell_of_row w.drew b j arr e (0,0) hh
   ·intro i hi;exact aK.fy cs _ _ _ 0 _ (fun j hj=>by rw[Nat.zero_add,List.getElem?_take_of_lt (hJ hi hj (Nat.le_refl _)),Array.getElem?_toList]) (hel i hi)
end
end Go.R
namespace Go.R
variable {H:Nat->Value}
section
variable {R:Type} {P:Program} {E:Env} {ω:aJ} {a:Act} {w:World} {s:S} {k:S->Option R} {r:R} {o:Oper} {Q:Exit->Act->World->Prop}
theorem zH {P:Program} {size t' e':Nat} {v:Value} {n cp:Nat} {ad:Option Addr} {news:List Value} (hk:P.underlying t'=some (.slice e')) (hv:v=.slice ad n cp) (hl:news.length=n*size) (h1:∀u∈news,u.oneCell'=true)
  (hc:0<n->∃b off,ad=some ⟨b,off,none⟩/\∀k u,news[k]? = some u->w.cell? ⟨b,off+k,none⟩=some u):Src P size t' v n news w:=by
 by_cases h0:n=0
 ·subst h0;have:news=[]:=List.length_eq_zero_iff.1 (by simpa using hl);subst this;cases ad with
  |none=>subst hv;exact Src.ofNil w hk cp
  |some A=>subst hv;exact Src.ofSlice w hk A 0 cp [] (by simp) (by simp) (by simp)
 ·obtain⟨b,off,f1,f2⟩:=hc (by omega);subst hv;subst f1;exact Src.ofSlice w hk ⟨b,off,none⟩ n cp news hl (fun j u hu=>by rw[Addr.add_mid];exact f2 j u hu) h1
theorem pu(h:Rel H ω a w s){id g hh:Nat}{c:Cont real}{v:Value}(hc:s.cont id g hh []=some c)(hm:c.md≠0)(hr:cA w ω s v (.ref id g hh []))(hok:c.md≠2\/c.cs.plain=true):
  CR ω w (s.bQ id true .gone) c.e c.cs c.x v:=by
 have hR:=hr.2.2 c hc;have Dd:∀(i:Nat) (g:Nat->Option Value) (y:c.cs.T),c.cs.R w ω ((bk c.md id []).inner i) g 0 y->c.cs.R w ω (fun _=>.cB) g 0 y:=by
  intro i g y hy;rcases hok with hok|hok
  ·rcases(kQ hc).2 with h1|h1|h1
   ·exact absurd h1 hm
   ·rw[h1]at hy;exact hy
   ·exact absurd h1 hok
  ·exact aK.fT c.cs _ _ _ 0 _ hok hy
 obtain⟨ad,n,cp,e1,e2,e3,e4,e5⟩:=hR;have key:Hd w ω c.e c.cs.len (.flat (id,[])) ad n cp:=by
  rcases(kQ hc).2 with h1|h1|h1
  ·exact absurd h1 hm
  ·rw[h1]at e4;exact e4
  ·rw[h1]at e4;exact e4
 subst e2;rcases key with ⟨f1,f2⟩|⟨b,arr,f1,f2,f3,f4⟩
 ·refine .none ad ?_ (List.length_eq_zero_iff.1 f2);rw[e1,f1];congr 1
 ·subst f1;refine .some b id cp (h.qj ?_) arr e1 e3 f2 f3 f4 (by rw[St.aV]) (fun i hi=>?_)
  ·intro e;rcases(dF hc).2 with ⟨dp,f5,_⟩|⟨_,_,_,f5,_⟩|⟨f5,_⟩ <;> rw[f5]at e <;> cases e
  have:=Dd i _ _ (e5 i _ hi rfl);refine aK.fy c.cs _ _ _ 0 _ (fun j _=>?_) this;simp only[Nat.zero_add];rw[cell_of_row w b _ arr c.e (0,0) f2]
end
end Go.R
namespace Go.R
variable {H:Nat->Value}
section
variable {R:Type} {P:Program} {E:Env} {ω:aJ} {a:Act} {w:World} {s:S} {k:S->Option R} {r:R} {o:Oper} {Q:Exit->Act->World->Prop}
theorem lX{α:Type}(x:List α)(l h:Nat)(h1:l<=h)(h2:h<=x.length):((x.drop l).take (h-l)).length=h-l:=by rw[List.length_take,List.length_drop];omega
theorem vA{α:Type}(x:List α)(l h i:Nat)(z:α)(hi:i<h-l):((x.drop l).take (h-l)).getD i z=x.getD (l+i) z:=by rw[List.getD_eq_getElem?_getD,List.getElem?_take_of_lt hi,List.getElem?_drop,<-List.getD_eq_getElem?_getD]
theorem sF{e:Nat}{cs:aK}{x:List cs.T}{ad:Option Addr}{n cp:Nat}(hR:(Ty.sl e cs).R w ω .cB (.slice ad n cp) x){l h:Nat}(h1:l<=h)(h2:h<=x.length):
  (Ty.sl e cs).R w ω .cB (sliced ad l h cp cs.len) ((x.drop l).take (h-l)):=by
 obtain⟨xU,n',E5,e1,e2,e3,e4,e5⟩:=hR;injection e1 with f1 f2 f3
 subst f1;subst f2;subst f3;subst e2;refine⟨_,h-l,cp-l,rfl,lX x l h h1 h2,by omega,?_,?_⟩
 ·intro hn;obtain⟨b,off,g1,g2,g3⟩:=e4 (by omega);subst g1;rw[if_neg (by omega),Option.map_some,Addr.add_mid];exact⟨b,_,rfl,g2,g3⟩
 ·intro i A hi hA;obtain⟨b,off,g1,g2,g3⟩:=e4 (by omega);subst g1;rw[if_neg (by omega),Option.map_some,Addr.add_mid]at hA;injection hA with hA
  subst hA;have:=e5 (l+i) ⟨b,off,none⟩ (by omega) rfl;rw[vA x l h i _ hi];refine aK.fy cs _ _ _ 0 _ (fun j _=>?_) this;simp only[Nat.zero_add];congr 2;rw[Nat.add_mul];omega
theorem ow{t e:Nat}(hu:P.underlying t=some (.slice e))(x:Value)(lo hi mx:Option Value)(w:World):(Instr.sliceAt t x lo hi mx).run P w=(Instr.slice t x lo hi mx).run P w:=by simp[Instr.sliceAt,run_underlying hu]
theorem kI{t e:Nat}(hu:P.underlying t=some (.slice e)):P.underlying t=some (.slice (P.elem t)):=by
 have:P.elem t=e:=by simp[Program.elem,hu]
 rw[this];exact hu
theorem rB {t e:Nat} {I:TypeInfo} (hu:P.underlying t=some (.slice e)) (hi:P.info? e=some I) (w:World) (ad:Option Addr) (n cp:Nat) (hn:n<=cp) (lo hi':Option Value) (l h:Int)
  (hl:(lo=none/\l=0)\/lo=some (.int .i64 l)) (hh:(hi'=none/\h=(n:Int))\/hi'=some (.int .i64 h)) (h0:0<=l) (h1:l<=h) (h2:h<=(n:Int)):
  (Instr.sliceAt t (.slice ad n cp) lo hi' none).run P w=.ok (sliced ad l.toNat h.toNat cp I.size) w:=by
 rw[ow hu];have he:P.elem t=e:=by simp[Program.elem,hu]
 have hs:(sizeOf (P.elem t)).run P w=.ok I.size w:=by rw[he];simp[sizeOf,typeInfo,hi]
 rcases hl with ⟨rfl,rfl⟩|rfl <;> rcases hh with ⟨rfl,rfl⟩|rfl
 ·rw[run_slice_all w t ad n cp (kI hu),hs];rfl
 ·rw[run_slice_h w t ad n cp (kI hu) .i64 h (by omega) (by omega),hs];rfl
 ·rw[run_slice_l w t ad n cp (kI hu) .i64 l h0 h1,hs];rfl
 ·rw[run_slice_lh w t ad n cp (kI hu) .i64 .i64 l h h0 h1 (by omega),hs];rfl
theorem qA {t e:Nat} {I:TypeInfo} (hu:P.underlying t=some (.slice e)) (hi:P.info? e=some I) (w:World) (ad:Option Addr) (n cp:Nat) (kh km:IntKind) (lo:Option Value)
  (hl:lo=none\/∃kl,lo=some (.int kl 0)):
  (Instr.sliceAt t (.slice ad n cp) lo (some (.int kh 0)) (some (.int km 0))).run P w=.ok (.slice ad 0 0) w:=by
 rw[ow hu];have he:P.elem t=e:=by simp[Program.elem,hu]
 have hs:(sizeOf (P.elem t)).run P w=.ok I.size w:=by rw[he];simp[sizeOf,typeInfo,hi]
 rcases hl with rfl|⟨kl,rfl⟩
 ·rw[run_slice_hm w t ad n cp (kI hu) kh km 0 0 (by omega) (by omega) (by omega),hs];rfl
 ·rw[run_slice_lhm w t ad n cp (kI hu) kl kh km 0 0 0 (by omega) (by omega) (by omega) (by omega),hs];rfl
theorem nx{x:Option Operand}(h:gW x=true):∃k,x.map a.eval=some (.int k 0):=by
 unfold gW at h;split at h
 ·rename_i k n;have:=of_decide_eq_true h;subst this;exact⟨k,rfl⟩
 ·cases h
theorem pI{t:Nat}{x:Operand}{lo hi mx:Option Operand}(ho:o.op=.slice t x lo hi mx){v:Value}{w':World}(h:(Instr.sliceAt t (a.eval x) (lo.map a.eval) (hi.map a.eval) (mx.map a.eval)).run P w=.ok v w'):(execOp a.eval o).run P w=.ok (.value v) w':=by unfold execOp;simp only[ho];rw[Sem.run_bind,h];rfl
theorem wX (hE:cq P E) {t:Nat} {x:Operand} {lo hi mx:Option Operand} (ho:o.op=.slice t x lo hi mx) (h:Rel H ω a w s) (hd:∀d,o.dst=some d->d<a.tmps.size) {Φ:bV->Option (Callee real (Option R))}
  (hk:bp E (aP R) Φ o s k=some r):o.wp P a w (Ends H ω a w o.dst k r) Q:=by
 have hx:=bX h E t x;unfold bp at hk;simp only[ho]at hk;unfold jy at hk;obtain⟨⟨e,cs⟩,h1,cQ⟩:=aA hk;obtain⟨c,h2,cM⟩:=aA cQ;clear hk cQ;obtain⟨hu,j,I,d,hj,Fg,ok⟩:=gJ hE h1;have hI:I.size=cs.len:=by rw[ok.size,Fg]
 cases hb:(Nat.beq e c.e&&aK.beq cs c.cs)with
 |false=>simp only[hb]at cM;cases cM
 |true=>
  simp only[hb,cond_true]at cM;rw[Bool.and_eq_true]at hb;have he:=Nat.eq_of_beq_eq_true hb.1;have hcs:=aK.eq_of_beq hb.2;subst he;subst hcs;obtain⟨ad,cp,e1,e2⟩:=uA h2 hx;cases h0:(gW mx&&(gW hi&&CL lo))with
  |true=>
   simp only[h0,cond_true]at cM;rw[Bool.and_eq_true,Bool.and_eq_true]at h0;obtain⟨g1,g2,g3⟩:=h0;obtain⟨km,f1⟩:=nx (a:=a) g1;obtain⟨kh,f2⟩:=nx (a:=a) g2;have f3:lo.map a.eval=none\/∃kl,lo.map a.eval=some (.int kl 0):=by
    cases lo with
    |none=>exact .inl rfl
    |some q=>exact .inr (nx g3)
   refine bF h hd (v:=.slice ad 0 0) (pI ho ?_) (t:=.one (.eU c.e c.cs)) ⟨ad,rfl⟩ cM;rw[e1,f1,f2];exact qA hu ok.info w ad _ cp kh km _ f3
  |false=>
   simp only[h0,cond_false]at cM;cases mx with
   |some _=>cases cM
   |none=>
    simp only at cM;obtain⟨(l:Int),h3,th⟩:=aA cM;obtain⟨(m:Int),h4,xu⟩:=aA th;clear cM th;have jS:(bif cS c.x l m then eY E (aP R) (o.dst.getD 0) s (ev E s t x) c lo.isNone l m (fun v s=>k (s.ck o.dst v))else none)=some r:=xu;clear xu;cases hok:cS c.x l m with
    |false=>rw[hok]at jS;cases jS
    |true=>
     rw[hok]at jS;simp only[cond_true]at jS;unfold cS at hok;rw[Bool.and_eq_true,Bool.and_eq_true]at hok;have g0:0<=l:=of_decide_eq_true hok.1;have g1:l<=m:=of_decide_eq_true hok.2.1;have g2:m<=(List.length c.x:Int):=of_decide_eq_true hok.2.2;have hlo:(lo.map a.eval=none/\l=0)\/lo.map a.eval=some (.int .i64 l):=by
      cases lo with
      |none=>
       refine .inl ⟨rfl,?_⟩;injection h3 with h3
       exact h3.symm
      |some q=>exact .inr (by rw[Option.map_some,iv h3 (bX h E 0 q)])
     have hhi:(hi.map a.eval=none/\m=(List.length c.x:Int))\/hi.map a.eval=some (.int .i64 m):=by
      cases hi with
      |none=>
       refine .inl ⟨rfl,?_⟩;injection h4 with h4
       exact h4.symm
      |some q=>exact .inr (by rw[Option.map_some,iv h4 (bX h E 0 q)])
     have hrun:=rB (P:=P) hu ok.info w ad (List.length c.x) cp e2 (lo.map a.eval) (hi.map a.eval) l m hlo hhi g0 g1 g2;rw[hI,<-e1]at hrun;have hex:(execOp a.eval o).run P w=.ok (.value (sliced ad l.toNat m.toNat cp c.cs.len)) w:=pI ho hrun;have q1:l.toNat<=m.toNat:=by omega
     have q2:m.toNat<=List.length c.x:=by omega
     have cB:(Ty.sl c.e c.cs).R w ω .cB (a.eval x) c.x->k (s.ck o.dst (.one (.val (.sl c.e c.cs) (real.sub c.x l m))))=some r->o.wp P a w (Ends H ω a w o.dst k r) Q:=by intro hR hkk;rw[e1]at hR;exact bF h hd hex (t:=.one (.val (.sl c.e c.cs) (real.sub c.x l m))) (sF hR q1 q2) hkk
     unfold eY at jS;cases AE:ev E s t x with
     |one q=>
      rw[AE]at jS hx h2;cases q with
      |val tt xx=>
       cases tt with
       |sl e' cs'=>have h2':(⟨e',cs',xx,0⟩:Cont real)=c:=Option.some.inj h2;refine cB ?_ jS;rw[<-h2'];exact hx
       |_=>cases h2
      |eU e' cs'=>have h2':(⟨e',cs',real.kX e' cs',1⟩:Cont real)=c:=Option.some.inj h2;refine cB ?_ jS;rw[<-h2'];obtain⟨xU,D6⟩:=hx;exact⟨xU,0,0,D6,rfl,Nat.le_refl _,fun hn=>absurd hn (by omega),fun i _ hi=>absurd hi (by omega)⟩
      |ref id g hh p=>
       cases p with
       |cons _ _=>cases jS
       |nil=>
        have hc:s.cont id g hh []=some c:=h2;have hR:=hx.2.2 c hc;simp only at jS;cases Az:Nat.beq c.md 0 with
        |true=>have hm:=Nat.eq_of_beq_eq_true Az;rw[Az]at jS;rw[hm]at hR;exact cB hR jS
        |false=>
         rw[Az]at jS;simp only[cond_false]at jS;have hm:c.md≠0:=by intro e;rw[e]at Az;cases Az
         have hsp:=dF hc;have FH:∃dp,(s.ob id).o=.arr c.e c.cs dp c.x/\c.md=bif dp then 2 else 1:=by
          rcases hsp.2 with ⟨dp,f1,_,f3⟩|⟨_,_,_,_,f2,_⟩|⟨_,_,f3⟩
          ·exact⟨dp,f1,f3⟩
          ·exact absurd rfl f2
          ·exact absurd f3 hm
         obtain⟨dp,cf,jT⟩:=FH;cases htr:(E.trunc (o.dst.getD 0)&&lo.isNone)with
         |false=>
          rw[htr]at jS;simp only[cond_false]at jS;have hne:id≠0:=h.qj (by rw[cf];exact fun e=>by cases e);have hfr:=h.freeze cf true;have hx':=(kK (ω:=ω) (w:=w) hne h.dom cf true id).ref _ g hh [] hx;have eo:(s.bQ id true (.cB c.e c.cs c.x)).cont id g hh []=some ⟨c.e,c.cs,c.x,0⟩:=by unfold St.cont fX.cont;rw[St.aV];simp only;rw[hsp.1,fY];rfl
          have FG:=hx'.2.2 _ eo;simp only[bk]at FG;rw[e1]at FG;exact fg hex (dZ hfr (bP _ _ _ hne) hd (t:=.one (.val (.sl c.e c.cs) (real.sub c.x l m))) (sF FG q1 q2) jS)
         |true=>
          rw[htr]at jS;simp only[cond_true]at jS;cases nB:(Nat.beq c.md 2 && !c.cs.plain)with
          |true=>rw[nB]at jS;cases jS
          |false=>
           rw[nB]at jS;simp only[cond_false]at jS;rw[Bool.and_eq_true]at htr;have lK:l=0:=by
            cases lo with
            |none=>injection h3 with h3;exact h3.symm
            |some _=>cases htr.2
           have xq:Nat.beq c.md 2=true->c.cs.plain=true:=by
            intro e;rw[e]at nB;cases hp:c.cs.plain with
            |true=>rfl
            |false=>rw[hp]at nB;cases nB
           have hX:=pu h hc hm hx (by
            by_cases e:c.md=2
            ·exact .inr (xq (by rw[e];rfl))
            ·exact .inl e)
           have hz:real.sub c.x l m=((List.drop 0 c.x).take (m.toNat-0):List c.cs.T):=by rw[lK];rfl
           subst lK;have GO:=h.gone id true;cases hX with
           |none xU hv hx0=>
            rw[e1]at hv;injection hv with v1 v2 v3
            subst v3;have Az:m.toNat=0:=by omega
            have DJ:=GO.bare (id':=aZ (o.dst.getD 0) 0 0) (dm _ _ _) (.arr c.e c.cs (Nat.beq c.md 2) (real.sub c.x (0:Int) m)) (fun _ e=>by cases e);refine fg hex (gS DJ (bP _ _ _ (dm _ _ _)) hd ?_ jS);refine⟨ad,0,0,?_,?_,Nat.le_refl _,oN,fun i _ hi=>absurd hi (by omega)⟩
            ·simp[sliced,Az]
            ·rw[hz];exact(lX c.x 0 m.toNat (by omega) (by omega)).trans (by omega)
           |some b Iz Im GC arr hv hn rz hsz hb' cU hel=>
            rw[e1]at hv;injection hv with v1 v2 v3
            subst v3;subst v1;have DJ:=GO.CM (id':=aZ (o.dst.getD 0) 0 0) GC (dm _ _ _) hb' cU (nk.refl w b) (.arr c.e c.cs (Nat.beq c.md 2) (real.sub c.x (0:Int) m)) (fun _ e=>by cases e);have gU:=iX (ω:=ω) (id':=aZ (o.dst.getD 0) 0 0) GC (dm _ _ _) hb' (nk.refl w b);refine fg hex (gS DJ gU hd ?_ jS);refine⟨some ⟨b,0,none⟩,m.toNat,cp,?_,?_,by omega,Ao rz hsz (aJ.fc _ _ _),?_⟩
            ·simp[sliced,Addr.add_mid]
            ·rw[hz];exact(lX c.x 0 m.toNat (by omega) (by omega)).trans (by omega)
            ·intro i A hi hA;injection hA with hA
             subst hA;refine lQ xq ?_;rw[hz,vA c.x 0 m.toNat i _ (by omega),show(0+i)=i from Nat.zero_add i];have hrow:=aK.cG gU.size c.cs _ _ _ 0 _ (fun _=>gU.keeps) (fun _=>rfl) (hel i (by omega));refine aK.fy c.cs _ _ _ 0 _ (fun j _=>?_) hrow;simp only[Nat.zero_add];rw[cell_of_row w b _ arr c.e (0,0) rz]
      |ptr _ _ _=>cases h2
      |cj _ _ _ _ _ _=>cases h2
      |ez _ _ _=>cases h2
      |cV _ _=>cases h2
      |fn _ _=>cases h2
      |Cq _ _=>cases h2
      |undef=>cases h2
      |dead=>cases h2
     |agg _=>rw[AE]at h2;cases h2
     |nR _=>rw[AE]at h2;cases h2
     |GR _ _=>rw[AE]at h2;cases h2
end
end Go.R
namespace Go.R
variable {H:Nat->Value}
section
variable {R:Type} {P:Program} {E:Env} {ω:aJ} {a:Act} {w:World} {s:S} {k:S->Option R} {r:R} {o:Oper} {Q:Exit->Act->World->Prop}
theorem jx {t:Nat} {I:TypeInfo} (hi:P.info? t=some I) {b off T:Nat} {arr:Array Value} {v:Value} (hh:w.heap[b]? = some (.cells arr T (0,0))) (hl:v.cells.size=I.size) (hfit:off+v.cells.size<=arr.size)
  (h1:∀u∈v.cells.toList,u.oneCell'=true):(Instr.storeAt t (.pointer (some ⟨b,off,none⟩)) v).run P w=.ok () (w.setCells b off v.cells.toList):=by
 have:=run_storeCells_cells (P:=P) b off v.cells.toList 0 w (fun j hj=>by
   rw[cell_of_row w b _ arr T (0,0) hh];have:j<v.cells.size:=by simpa using hj
   simp;omega) (fun j hj=>by simp[World.frozen?,hh]) h1
 simp only[Nat.add_zero]at this;simp[Instr.storeAt,Instr.sureAddr,storeVar,sizeOf,typeInfo,hi,hl,this]
theorem dn{w':World}{b id:Nat}{q:List (Nat×Nat)}(h0:id≠0)(hb:ω b=some (id,q))(hp:nk w w' b):dr ω w ω w':=
 ⟨hp.os,hp.tape,hp.output,by rw[hp.size];exact Nat.le_refl _,fun c hc hn=>by
  have:c≠b:=fun e=>by subst e;exact hn.ne hb h0
  exact⟨hp.block c this,rfl⟩⟩
theorem lG{w':World}{b id:Nat}{cells cells':List L}(h0:id≠0)(hd:∀b k,ω b=some k->b<w.heap.size)(hb:ω b=some (id,[]))(ho:(s.ob id).o=.blk cells)(hp:nk w w' b)(j:Nat):Tr w ω s w' ω (s.bQ id true (.blk cells')) j:=by
 by_cases e:j=id
 ·subst e;have cU:((s.bQ j true (.blk cells')).ob j).o=.blk cells':=by rw[St.aV]
  have hg:((s.bQ j true (.blk cells')).ob j).g=(s.ob j).g:=by rw[St.aV]
  have hh:((s.bQ j true (.blk cells')).ob j).h=bif true then(s.ob j).h+1 else(s.ob j).h:=by rw[St.aV]
  have hnc:∀g h p c,(s.bQ j true (.blk cells')).cont j g h p=some c->False:=by intro g h p c hc;unfold St.cont fX.cont at hc;rw[cU]at hc;cases hq:Nat.beq ((s.bQ j true (.blk cells')).ob j).g g <;> rw[hq]at hc <;> cases hc
  exact
  {ref:=fun v g h p hr=>⟨by rw[hg];exact hr.1,by rw[hg,hh];exact gr true hr.2.1,fun c hc=>(hnc _ _ _ _ hc).elim⟩
   ptr:=fun v g off hr=>⟨by rw[hg];exact hr.1,fun DK _ _=>by rw[hg]at DK;exact hr.2 DK cells ho⟩
   cj:=fun v g h p i off hr=>⟨by rw[hg];exact hr.1,by rw[hg,hh];exact gr true hr.2.1,fun c hc=>(hnc _ _ _ _ hc).elim⟩
   cV:=fun v g hr=>hr.shut hg fun k x e=>by rw[cU]at e;cases e }
 ·refine gq.tr ⟨St.bz _ _ _ e,fun c kk hc hk hj=>?_⟩ (dn h0 hb hp) hd;have:c≠b:=fun ec=>by subst ec;rw[hb]at hk;injection hk with hk;subst hk;exact e hj.symm
  exact⟨hp.block c this,rfl⟩
theorem Rel.yY (h:Rel H ω a w s) {w':World} {b id T:Nat} {cells cells':List L} {arr:Array Value} (hb:ω b=some (id,[])) (ho:(s.ob id).o=.blk cells) (hp:nk w w' b)
  (hh:w'.heap[b]? = some (.cells arr T (0,0))) (eo:bj (cA w ω s) arr.toList cells') (h0:id≠0:=h.qj (by rw[ho];exact fun e=>by cases e)):Rel H ω a w' (s.bQ id true (.blk cells')) where
 dP:=h.dP.ext (dn h0 hb hp)
 inj:=h.inj
 dom c kk h1:=by rw[hp.size];exact h.dom c kk h1
 defers:=h.defers
 dR:=by rw[St.bz _ _ _ (Ne.symm h0)];exact h.dR
 slots i:=dh.frame (dn h0 hb hp) (lG h0 h.dom hb ho hp) (h.slots i)
 dB j cs hc:=by
  by_cases e:j=id
  ·subst e;rw[St.aV]at hc;injection hc with hc
   subst hc;exact⟨b,arr,T,hb,hh,eo.mono fun _ _ hl=>cA.frame (dn h0 hb hp) (lG h0 h.dom hb ho hp) hl⟩
  ·rw[St.bz _ _ _ e]at hc;obtain⟨c,bW,T',h1,h2,h3⟩:=h.dB j cs hc;have:c≠b:=fun ec=>by subst ec;rw[hb]at h1;injection h1 with h1;injection h1 with h1;exact e h1.symm
   exact⟨c,bW,T',h1,(hp.block c this).trans h2,h3.mono fun _ _ hl=>cA.frame (dn h0 hb hp) (lG h0 h.dom hb ho hp) hl⟩
theorem qD:∀(cs:aK) (md:Nat->Md) (g g':Nat->Option Value) (j0 j:Nat) (y y':cs.T) (t:Ty) (v:t.T) (u:Value),cs.R w ω md g j0 y->setCell (A:=real) cs y j ⟨t,v⟩=some y'->t.R w ω (md (j0+j)) u v ->
  g' (j0+j)=some u->(∀i,i≠j0+j->g' i=g i)->cs.R w ω md g' j0 y'
 | .nil,_,_,_,_,_,_,_,_,_,_,_,h,_,_,_=>by cases h
 | .cons t0 ts,md,g,g',j0,0,y,y',t,v,u,hr,h,hv,h1,h2=>by
  simp only[setCell]at h;split at h
  ·rename_i hb;injection h with h
   subst h;obtain rfl:=Ty.eq_of_beq hb;have hh:kL (kV (t:=t) (ts:=ts) v (jP y))=v:=k8 _ _;have ht:jP (kV (t:=t) (ts:=ts) v (jP y))=jP y:=lu _ _;refine⟨⟨u,h1,?_⟩,?_⟩
   ·show t.R w ω (md j0) u (kL (kV v (jP y)));rw[hh];exact hv
   ·show ts.R w ω md g' (j0+1) (jP (kV v (jP y)));rw[ht];exact aK.fy ts md g g' (j0+1) _ (fun k _=>h2 _ (by omega)) hr.2
  ·cases h
 | .cons t0 ts,md,g,g',j0,j+1,y,y',t,v,u,hr,h,hv,h1,h2=>by
  simp only[setCell]at h;cases hs:setCell (A:=real) ts (real.tl y) j ⟨t,v⟩with
  |none=>rw[hs]at h;cases h
  |some z=>
   rw[hs]at h;have h:=Option.some.inj h;subst h;have hh:kL (kV (t:=t0) (ts:=ts) (kL y) z)=kL y:=k8 _ _;have ht:jP (kV (t:=t0) (ts:=ts) (kL y) z)=z:=lu _ _;obtain⟨⟨v0,q1,q2⟩,q3⟩:=hr;refine⟨⟨v0,?_,?_⟩,?_⟩
   ·rw[h2 j0 (by omega)];exact q1
   ·show t0.R w ω (md j0) v0 (kL (kV (kL y) z));rw[hh];exact q2
   ·show ts.R w ω md g' (j0+1) (jP (kV (kL y) z));rw[ht];refine qD ts md g g' (j0+1) j _ z t v u q3 hs ?_ ?_ ?_
    ·rw[show j0+1+j=j0+(j+1)by omega];exact hv
    ·rw[show j0+1+j=j0+(j+1)by omega];exact h1
    ·intro i hi;exact h2 i (by omega)
theorem Bb(h:Rel H ω a w s){deep:Bool}{t:Ty}{l:L}{v:Value}{x:t.T}{s':S}{md:Md}(jT:deep=false->md=.cB)(hl:cA w ω s v l)(hp:bY (A:=real) deep t l s=some (x,s')):
  ∃aI,Passes H ω a w s aI s'/\(deep=true->aI=ω)/\t.R w aI md v x:=by
 cases deep with
 |false=>rw[jT rfl];obtain⟨aI,p,q⟩:=u9 h hl hp;exact⟨aI,p,(fun e=>by cases e),q⟩
 |true=>
  cases l with
  |val u y=>
   cases u with
   |sl e cs=>cases t <;> cases hp
   |_=>
    simp only[bY]at hp;split at hp
    ·rename_i hb;injection hp with hp
     injection hp with h1 h2
     subst h1;subst h2;obtain rfl:=Ty.eq_of_beq hb;exact⟨ω,Passes.refl h,fun _=>rfl,hl⟩
    ·cases hp
  |eU e cs=>
   cases t with
   |sl e' cs'=>
    simp only[bY]at hp;split at hp
    ·rename_i hb;injection hp with hp
     injection hp with h1 h2
     subst h1;subst h2;have:=Ty.eq_of_beq hb;injection this with e1 e2
     subst e1;subst e2;obtain⟨ad,e1⟩:=hl;refine⟨ω,Passes.refl h,fun _=>rfl,ad,0,0,e1,rfl,Nat.le_refl _,?_,fun i xU hi=>absurd hi (by omega)⟩;cases md with
     |cB=>exact fun hn=>absurd hn (by omega)
     |flat _=>exact .inl ⟨rfl,rfl⟩
     |deep _=>exact .inl ⟨rfl,rfl⟩
    ·cases hp
   |_=>cases hp
  |ref id g hh p=>
   cases p with
   |cons _ _=>cases t <;> cases hp
   |nil=>
    simp only[bY]at hp;cases hg:Nat.beq (s.ob id).g g with
    |false=>rw[hg]at hp;cases hp
    |true=>
     rw[hg]at hp;simp only[cond_true]at hp;cases cf:(s.ob id).o with
     |arr e cs dp y=>rw[cf]at hp;simp only at hp;split at hp <;> cases hp
     |cB e cs y=>rw[cf]at hp;cases hp
     |blk _=>rw[cf]at hp;cases hp
     |gone=>rw[cf]at hp;cases hp
     |mp _ _=>rw[cf]at hp;cases hp
  |_=>cases t <;> cases hp
theorem Bc{deep:Bool}{t:Ty}{l:L}{x:t.T}{s s':S}(hp:bY (A:=real) deep t l s=some (x,s'))(j:Nat):s'.ob j=s.ob j\/∃e cs y,(s'.ob j).o=.cB e cs y:=by
 cases l with
 |val u y=>cases u <;> cases deep <;> simp only[bY,cond_false,cond_true]at hp <;> first|(cases hp;done)|(split at hp <;> first|(cases hp;done)|(injection hp with hp;injection hp with _ h2;subst h2;exact .inl rfl))
 |eU e cs=>
  cases t with
  |sl e' cs'=>
   simp only[bY]at hp;split at hp
   ·injection hp with hp;injection hp with _ h2;subst h2;exact .inl rfl
   ·cases hp
  |_=>cases hp
 |ref id g hh p=>
  cases p with
  |cons _ _=>cases t <;> cases hp
  |nil=>
   simp only[bY]at hp;cases hg:Nat.beq (s.ob id).g g with
   |false=>rw[hg]at hp;cases hp
   |true=>
    rw[hg]at hp;simp only[cond_true]at hp;cases cf:(s.ob id).o with
    |arr e cs dp y=>
     rw[cf]at hp;simp only at hp;split at hp
     ·cases deep with
      |true=>cases hp
      |false=>
       have hp:=Option.some.inj hp;injection hp with _ h2
       subst h2;by_cases e':j=id
       ·subst e';exact .inr ⟨e,cs,y,by rw[St.aV]⟩
       ·exact .inl (St.bz _ _ _ e')
     ·cases hp
    |cB e cs y=>
     rw[cf]at hp;cases deep with
     |true=>cases hp
     |false=>
      simp only[cond_false]at hp;split at hp
      ·injection hp with hp;injection hp with _ h2;subst h2;exact .inl rfl
      ·cases hp
    |blk _=>rw[cf]at hp;cases hp
    |gone=>rw[cf]at hp;cases hp
    |mp _ _=>rw[cf]at hp;cases hp
 |_=>cases t <;> cases hp
theorem kw{deep:Bool}{md:Nat->Md}(jT:deep=false->∀j,md j=.cB):∀(ls:List L) (us:List Value) (cs:aK) (y y':cs.T) (j:Nat) (g:Nat->Option Value) (ω:aJ) (s s':S),Rel H ω a w s->bj (cA w ω s) us ls->cs.R w ω md g 0 y ->
  bw (A:=real) deep cs y j ls s=some (y',s') ->
  ∃aI,Passes H ω a w s aI s'/\(deep=true->aI=ω)/\(∀i,s'.ob i=s.ob i\/∃e cs y,(s'.ob i).o=.cB e cs y) /\
   ∀g':Nat->Option Value,(∀k u,us[k]? = some u->g' (j+k)=some u)->(∀i,i<j\/j+us.length<=i->g' i=g i)->cs.R w aI md g' 0 y'
 | [],[],cs,y,y',j,g,ω,s,s',h,_,hr,hs=>by
  simp only[bw]at hs;injection hs with hs
  injection hs with h1 h2
  subst h1;subst h2;refine⟨ω,Passes.refl h,fun _=>rfl,fun _=>.inl rfl,fun g' _ h2=>?_⟩;have:g'=g:=funext fun i=>h2 i (by simp;omega);rw[this];exact hr
 | [],_::_,_,_,_,_,_,_,_,_,_,h2,_,_=>h2.elim
 |_::_,[],_,_,_,_,_,_,_,_,_,h2,_,_=>h2.elim
 |l::ls,u::us,cs,y,y',j,g,ω,s,s',h,h2,hr,hs=>by
  simp only[bw]at hs;cases hc:cellAt (A:=real) cs y j with
  |none=>rw[hc]at hs;cases hs
  |some q=>
   obtain⟨t,y0⟩:=q;rw[hc]at hs;simp only at hs;cases hp:bY (A:=real) deep t l s with
   |none=>rw[hp]at hs;cases hs
   |some q=>
    obtain⟨v,s1⟩:=q;rw[hp]at hs;simp only at hs;cases ht:setCell (A:=real) cs y j ⟨t,v⟩with
    |none=>rw[ht]at hs;cases hs
    |some y1=>
     rw[ht]at hs;simp only at hs;obtain⟨bi,p1,e1,r1⟩:=Bb (md:=md j) h (fun e=>jT e j) h2.1 hp;have B6:cs.R w bi md g 0 y:=by
      cases deep with
      |true=>rw[e1 rfl];exact hr
      |false=>refine aK.cG (Nat.le_refl _) cs md g g 0 y (fun j=>?_) (fun _=>rfl) hr;rw[jT rfl j];exact p1.ext.keeps
     have pU:=qD cs md g (fun i=>if i=j then some u else g i) 0 j y y1 t v u B6 ht (by rw[Nat.zero_add];exact r1) (by simp) (fun i hi=>by rw[Nat.zero_add]at hi;simp[hi]);obtain⟨bZ,p2,e2,o2,r2⟩:=kw jT ls us cs y1 y' (j+1) _ bi s1 s' p1.rel (h2.2.mono fun _ _ hl=>cA.frame p1.ext p1.tr hl) pU hs;refine⟨bZ,p1.trans p2,fun e=>(e2 e).trans (e1 e),fun i=>?_,fun g' g1 g2=>?_⟩
     ·rcases o2 i with o2|o2
      ·rcases Bc hp i with o1|⟨e,c',z,o1⟩
       ·exact .inl (o2.trans o1)
       ·exact .inr ⟨e,c',z,by rw[o2];exact o1⟩
      ·exact .inr o2
     ·refine r2 g' (fun k v' fL=>?_) (fun i hi=>?_)
      ·have:=g1 (k+1) v' (by simpa using fL);rwa[show j+(k+1)=j+1+k by omega]at this
      ·by_cases hij:i=j
       ·subst hij;have:=g1 0 u rfl;simpa using this
       ·simp only[hij,if_false];exact g2 i (by simp only[List.length_cons];omega)
end
end Go.R
namespace Go.R
variable {H:Nat->Value}
section
variable {R:Type} {P:Program} {E:Env} {ω:aJ} {a:Act} {w:World} {s:S} {k:S->Option R} {r:R} {o:Oper} {Q:Exit->Act->World->Prop}
theorem kf(dp:Bool):(bif dp then 2 else 1)≠0:=by cases dp <;> decide
theorem rP:∀(cs:aK) (y:cs.T) (j:Nat) q,cellAt (A:=real) cs y j=some q->j<cs.len
 | .nil,_,_,_,h=>by cases h
 | .cons t ts,y,0,_,_=>by simp[aK.len]
 | .cons t ts,y,j+1,q,h=>by have:=rP ts _ j q h;simp[aK.len];omega
theorem jJ{deep:Bool}:∀(ls:List L) (cs:aK) (y:cs.T) (j:Nat) (s:S) q,bw (A:=real) deep cs y j ls s=some q->ls=[]\/j+ls.length<=cs.len
 | [],_,_,_,_,_,_=>.inl rfl
 |l::ls,cs,y,j,s,q,h=>by
  simp only[bw]at h;cases hc:cellAt (A:=real) cs y j with
  |none=>rw[hc]at h;cases h
  |some z=>
   obtain⟨t,y0⟩:=z;have hlt:=rP cs y j _ hc;rw[hc]at h;simp only at h;cases hp:bY (A:=real) deep t l s with
   |none=>rw[hp]at h;cases h
   |some z=>
    obtain⟨v,s1⟩:=z;rw[hp]at h;simp only at h;cases ht:setCell (A:=real) cs y j ⟨t,v⟩with
    |none=>rw[ht]at h;cases h
    |some y1=>
     rw[ht]at h;rcases jJ ls cs y1 (j+1) s1 q h with h|h
     ·subst h;exact .inr (by simp;omega)
     ·exact .inr (by simp only[List.length_cons];omega)
theorem og{w':World}{md id b i:Nat}{cs:aK}{g:Nat->Option Value}{y:cs.T}(hb:ω b=some (id,[]))(hp:nk w w' b)(h:cs.R w ω ((bk md id []).inner i) g 0 y):cs.R w' ω ((bk md id []).inner i) g 0 y:=by
 refine aK.cG (by rw[hp.size];exact Nat.le_refl _) cs _ _ _ 0 _ (fun j c hc hk=>?_) (fun _=>rfl) h;have:c≠b:=by
  intro e;subst e;rcases hk with hk|⟨k,h1,h2⟩
  ·rw[hb]at hk;cases hk
  ·rw[hb]at h1;injection h1 with h1
   subst h1;unfold bk at h2;split at h2
   ·exact h2.elim
   ·exact h2.elim
   ·have:=h2.2;simp[bG]at this
 exact⟨hp.block c this,rfl⟩
theorem pD {w':World} {b id e:Nat} {cs:aK} {dp:Bool} {x x':List cs.T} (h0:id≠0) (hd:∀b k,ω b=some k->b<w.heap.size) (hb:ω b=some (id,[])) (ho:(s.ob id).o=.arr e cs dp x) (hp:nk w w' b) (hl:x'.length=x.length)
  (re:∀v,(Ty.sl e cs).R w ω (bk (bif dp then 2 else 1) id []) v x->(Ty.sl e cs).R w' ω (bk (bif dp then 2 else 1) id []) v x') (j:Nat):Tr w ω s w' ω (s.bQ id true (.arr e cs dp x')) j:=by
 by_cases ej:j=id
 ·subst ej;have cU:((s.bQ j true (.arr e cs dp x')).ob j).o=.arr e cs dp x':=by rw[St.aV]
  have hg:((s.bQ j true (.arr e cs dp x')).ob j).g=(s.ob j).g:=by rw[St.aV]
  have hh:((s.bQ j true (.arr e cs dp x')).ob j).h=(s.ob j).h+1:=by rw[St.aV];rfl
  have rz:((s.bQ j true (.arr e cs dp x')).ob j).h=bif true then(s.ob j).h+1 else(s.ob j).h:=hh
  have key:∀(g h:Nat) (p:jR) (c:Cont real),h<=(s.ob j).h+(if g=(s.ob j).g then 0 else h)->(s.bQ j true (.arr e cs dp x')).cont j g h p=some c->p=[]/\g=(s.ob j).g/\c=⟨e,cs,x',bif dp then 2 else 1⟩:=by
   intro g h p c hle hc;obtain⟨q1,q2⟩:=dF hc;rw[hg]at q1;rw[if_pos q1.symm]at hle;rcases q2 with ⟨CB,f1,f2,f3⟩|⟨_,_,_,_,_,f3,_⟩|⟨f1,_,_⟩
   ·rw[cU]at f1;refine⟨f2,q1.symm,?_⟩;obtain⟨ce,FB,cx,cmd⟩:=c;simp only at f1 f3;injection f1 with g1 g2 g3 g4
    subst g1;subst g2;subst g3;subst f3;have:=eq_of_heq g4;rw[this]
   ·rw[hh]at f3;omega
   ·rw[cU]at f1;cases f1
  exact
  {ref:=fun v g h p hr=>⟨by rw[hg];exact hr.1,by rw[hg,rz];exact gr true hr.2.1,fun c hc=>by
    obtain⟨q1,q2,q3⟩:=key g h p c hr.2.1 hc;subst q1;subst q3;exact re v (hr.2.2 _ (cu (h:=h) ho q2))⟩
   ptr:=fun v g off hr=>⟨by rw[hg];exact hr.1,fun _ cells hc=>by rw[cU]at hc;cases hc⟩
   cj:=fun v g h p i off hr=>⟨by rw[hg];exact hr.1,by rw[hg,rz];exact gr true hr.2.1,fun c hc hm=>by obtain⟨q1,q2,q3⟩:=key g h p c hr.2.1 hc;subst q1;subst q3;obtain⟨r1,r2,r3,v',r4⟩:=hr.2.2 _ (cu (h:=h) ho q2) (kf dp);refine⟨r1,?_,r3,v',re v' r4⟩;show IV.i i<((x'.length:Nat):Int);rw[hl];exact r2⟩
   cV:=fun v g hr=>hr.shut hg fun k x e=>by rw[cU]at e;cases e }
 ·refine gq.tr ⟨St.bz _ _ _ ej,fun c kk hc hk hj=>?_⟩ (dn h0 hb hp) hd;have:c≠b:=fun ec=>by subst ec;rw[hb]at hk;injection hk with hk;subst hk;exact ej hj.symm
  exact⟨hp.block c this,rfl⟩
theorem Rel.sK (h:Rel H ω a w s) {w':World} {b id e:Nat} {cs:aK} {dp:Bool} {x x':List cs.T} (hb:ω b=some (id,[])) (ho:(s.ob id).o=.arr e cs dp x) (hp:nk w w' b) (hl:x'.length=x.length)
  (re:∀v,(Ty.sl e cs).R w ω (bk (bif dp then 2 else 1) id []) v x->(Ty.sl e cs).R w' ω (bk (bif dp then 2 else 1) id []) v x') (h0:id≠0:=h.qj (by rw[ho];exact fun e=>by cases e)):Rel H ω a w' (s.bQ id true (.arr e cs dp x')) where
 dP:=h.dP.ext (dn h0 hb hp)
 inj:=h.inj
 dom c kk h1:=by rw[hp.size];exact h.dom c kk h1
 defers:=h.defers
 dR:=by rw[St.bz _ _ _ (Ne.symm h0)];exact h.dR
 slots i:=dh.frame (dn h0 hb hp) (pD h0 h.dom hb ho hp hl re) (h.slots i)
 dB j cells hc:=by
  by_cases ej:j=id
  ·subst ej;rw[St.aV]at hc;cases hc
  ·rw[St.bz _ _ _ ej]at hc;obtain⟨c,bW,T',h1,h2,h3⟩:=h.dB j cells hc;have:c≠b:=fun ec=>by subst ec;rw[hb]at h1;injection h1 with h1;injection h1 with h1;exact ej h1.symm
   exact⟨c,bW,T',h1,(hp.block c this).trans h2,h3.mono fun _ _ hl'=>cA.frame (dn h0 hb hp) (pD h0 h.dom hb ho hp hl re) hl'⟩
theorem Bh {w':World} {b id e md:Nat} {cs:aK} {x x':List cs.T} {arr bW:Array Value} (hm:md≠0) (hinj:∀b b' k,ω b=some k->ω b'=some k->b=b') (hb:ω b=some (id,[])) (rz:w'.heap[b]? = some (.cells bW e (0,0))) (hs:bW.size=arr.size)
  (hh:w.heap[b]? = some (.cells arr e (0,0))) (hl:x'.length=x.length)
  (hel:∀i,i<x.length->cs.R w' ω ((bk md id []).inner i) (fun j=>bW[i*cs.len+j]?) 0 (x'.getD i (lB cs))) (v:Value) (h:(Ty.sl e cs).R w ω (bk md id []) v x):(Ty.sl e cs).R w' ω (bk md id []) v x':=by
 obtain⟨ad,n,cp,e1,e2,e3,e4,e5⟩:=h;subst e2;have key:∀ {md':Md},(md'=.flat (id,[])\/md'=.deep (id,[]))->Hd w ω e cs.len md' ad x.length cp->Hd w' ω e cs.len md' ad x.length cp/\(0<x.length->ad=some ⟨b,0,none⟩):=by
  intro md' jT hH;have Ht:(cp=0/\x.length=0)\/∃b arr,ad=some ⟨b,0,none⟩/\w.heap[b]? = some (.cells arr e (0,0))/\arr.size=cp*cs.len/\ω b=some (id,[]):=by rcases jT with rfl|rfl <;> exact hH
  rcases Ht with ⟨f1,f2⟩|⟨b2,D1,f1,f2,f3,f4⟩
  ·refine⟨?_,fun hp=>absurd hp (by omega)⟩;rcases jT with rfl|rfl <;> exact .inl ⟨f1,f2⟩
  ·obtain rfl:=hinj _ _ _ hb f4;rw[hh]at f2;injection f2 with f2
   injection f2 with f2
   subst f2;refine⟨?_,fun _=>f1⟩;rcases jT with rfl|rfl <;> exact .inr ⟨b,bW,f1,rz,by rw[hs];exact f3,hb⟩
 have Ey:bk md id []=.flat (id,[])\/bk md id []=.deep (id,[]):=by
  match md,hm with
  |1,_=>exact .inl rfl
  |n+2,_=>exact .inr rfl
 obtain⟨k1,k2⟩:=key Ey e4;refine⟨ad,x.length,cp,e1,hl,e3,k1,fun i A hi hA=>?_⟩;rw[k2 (by omega)]at hA;injection hA with hA
 subst hA;refine aK.fy cs _ _ _ 0 _ (fun j _=>?_) (hel i hi);simp only[Nat.zero_add];rw[cell_of_row w' b _ bW e (0,0) rz]
theorem we{t:Nat}{p v:Operand}(ho:o.op=.store t p v){w':World}(h:(Instr.storeAt t (a.eval p) (a.eval v)).run P w=.ok () w'):(execOp a.eval o).run P w=.ok .skip w':=by unfold execOp;simp only[ho];rw[Sem.run_bind,h];rfl
theorem pG{bi:aJ}{w1:World}{s1:S}(h:Rel H bi a w1 s1)(he:dr ω w bi w1)(hd:∀d,o.dst=some d->d<a.tmps.size)(hk:k (s1.ck o.dst (.one .undef))=some r):
  Ends H ω a w o.dst k r (a.put o.dst undef) w1:=dZ h he hd (t:=.one .undef) rfl hk
theorem qE{α:Type}(x:List α)(i j:Nat)(y z:α)(hi:i<x.length):(x.set i y).getD j z=if j=i then y else x.getD j z:=by
 rw[List.getD_eq_getElem?_getD,List.getElem?_set];split
 ·rename_i h;subst h;rw[if_pos rfl];rfl
 ·rename_i h;rw[if_neg (Ne.symm h),<-List.getD_eq_getElem?_getD]
theorem mR{α:Type}(x:List α)(i:Nat)(z:α)(hi:i<x.length):x.set i (x.getD i z)=x:=by rw[List.getD_eq_getElem?_getD,List.getElem?_eq_getElem hi];simp
theorem yV (h:Rel H ω a w s) {t:Nat} {I:TypeInfo} (hI:P.info? t=some I) {p v:Value} {ls:List L} {s1:S} {id g hh e:Nat} {cs:aK} {deep:Bool} {x:real.V (.sl e cs)} {i:IV} {off:Nat} (hp:cA w ω s p (.cj id g hh [] i off)) (hv:bj (cA w ω s) v.cells.toList ls) (h1:∀u∈v.cells.toList,u.oneCell'=true) (hsz:ls.length=I.size)
  (hge:(s.ob id).g=g) (cf:(s.ob id).o=.arr e cs deep x)
  (hs:(match bw (A:=real) deep cs (real.get x i) off ls s with
   |some (el,s1)=>(match(s1.ob id).o with
    | .arr ..=>some (s1.bQ id true (.arr e cs deep (real.put x i el)))
    |_=>none)
   |none=>none)=some s1):∃aI w',(Instr.storeAt t p v).run P w=.ok () w'/\Rel H aI a w' s1/\dr ω w aI w':=by
 have jH:v.cells.size=ls.length:=by rw[<-hv.length];simp
 cases hst:bw (A:=real) deep cs (real.get x i) off ls s with
 |none=>rw[hst]at hs;cases hs
 |some q=>
  obtain⟨el,s2⟩:=q;rw[hst]at hs;simp only at hs;have hc:=cu (h:=hh) cf hge.symm;obtain⟨q1,q2,⟨b,q3,q4⟩,v',q5⟩:=hp.2.2 _ hc (kf deep);simp only at q1 q2 q4 q5;obtain⟨b',arr,cp,c1,c2,c3,c4,c5,_⟩:=ql (s:=s) hc (kf deep) q5 i q1 q2;obtain rfl:=h.inj _ _ _ q3 c1;simp only at c2 c3 c4 c5;have hrow:∀i',i'<List.length x->cs.R w ω ((bk (bif deep then 2 else 1) id []).inner i') (fun j=>arr[i'*cs.len+j]?) 0 (List.getD x i' (lB cs)):=by
   intro i' hi';obtain⟨ad,n,E5,d1,d2,d3,d4,d5⟩:=q5;rw[c5]at d1;injection d1 with d1 Ir Hf
   have:=d5 i' ⟨b,0,none⟩ (by omega) d1.symm;refine aK.fy cs _ _ _ 0 _ (fun j _=>?_) this;simp only[Nat.zero_add];rw[cell_of_row w b _ arr e (0,0) c2]
  have hi:(IV.i i).toNat<List.length x:=by omega
  obtain⟨bZ,p2,o1,o2,r2⟩:=kw (md:=(bk (bif deep then 2 else 1) id []).inner (IV.i i).toNat) (fun e=>by subst e;exact fun _=>rfl) ls v.cells.toList cs _ el off _ ω s s2 h hv (hrow _ hi) hst;have yo:s2.ob id=s.ob id:=by
   rcases o2 id with o2|⟨e',c',z,o2⟩
   ·exact o2
   ·rw[o2]at hs;cases hs
  have AA:(s2.ob id).o=.arr e cs deep x:=by rw[yo];exact cf
  rw[AA]at hs;simp only at hs;have hs:=Option.some.inj hs;subst hs;have zq:bZ b=some (id,[]):=by
   have:=(p2.tr id).cj p g hh [] i off hp;obtain⟨_,_,⟨b2,t1,t2⟩,_⟩:=this.2.2 _ (cu (h:=hh) AA (by rw[yo];exact hge.symm)) (kf deep);rw[q4]at t2;injection t2 with t2
   injection t2 with t2
   injection t2 with t2
   rw[t2];exact t1
  have EH:∀i',i'<List.length x->cs.R w bZ ((bk (bif deep then 2 else 1) id []).inner i') (fun j=>arr[i'*cs.len+j]?) 0 (List.getD x i' (lB cs)):=by
   intro i' hi';cases deep with
   |true=>rw[o1 rfl];exact hrow i' hi'
   |false=>exact aK.cG (Nat.le_refl _) cs _ _ _ 0 _ (fun _=>p2.ext.keeps) (fun _=>rfl) (hrow i' hi')
  have Ep:=jJ ls cs _ off s _ hst;have hbase:(IV.i i).toNat*cs.len+cs.len<=arr.size:=by rw[c3];have:((IV.i i).toNat+1)*cs.len<=cp*cs.len:=Nat.mul_le_mul_right _ (by omega);rw[Nat.succ_mul]at this;exact this
  have hvl:v.cells.toList.length=ls.length:=hv.length;by_cases As:ls=[]
  ·-- nothing is stored
   subst As;have zu:v.cells.toList=[]:=List.length_eq_zero_iff.1 hvl;simp only[bw]at hst;injection hst with hst
   injection hst with t1 t2
   subst t2;have hrun:(Instr.storeAt t p v).run P w=.ok () w:=by
    have Di:v.cells.size=I.size:=by omega
    rw[q4];simp[Instr.storeAt,Instr.sureAddr,storeVar,sizeOf,typeInfo,hI,Di,zu,storeCells]
   refine⟨ω,w,hrun,?_,dr.refl _ _⟩;refine h.sK q3 cf (nk.refl w b) (x':=real.put x i el) List.length_set ?_;refine Bh (arr:=arr) (bW:=arr) (kf deep) h.inj q3 c2 rfl c2 List.length_set (fun i' hi'=>?_);have:real.put x i el=x:=by rw[<-t1];exact mR x _ _ hi
   rw[this];exact hrow i' hi'
  ·have hfit:off+ls.length<=cs.len:=Ep.resolve_left As;have uN:(IV.i i).toNat*cs.len+off+v.cells.toList.length<=arr.size:=by omega
   obtain⟨bW,z1,z2⟩:=ee b e (0,0) v.cells.toList ((IV.i i).toNat*cs.len+off) w arr c2 uN;have hput:=dV b v.cells.toList ((IV.i i).toNat*cs.len+off) w;have hrun:=jx (P:=P) hI c2 (v:=v) (off:=(IV.i i).toNat*cs.len+off) (by omega) (by simpa using uN) h1;rw[<-q4]at hrun;refine⟨bZ,_,hrun,?_,p2.ext.trans (dn (h.qj (by rw[cf];exact fun e=>by cases e)) zq hput)⟩;have hal:arr.toList.length=arr.size:=Array.length_toList;have pV:bW.size=arr.size:=by rw[<-Array.length_toList (xs:=bW),z2];simp only[List.length_append,List.length_take,List.length_drop];omega
   have oD:∀m,bW[m]? = if m<(IV.i i).toNat*cs.len+off then arr[m]? else if m<(IV.i i).toNat*cs.len+off+v.cells.toList.length then v.cells.toList[m-((IV.i i).toNat*cs.len+off)]? else arr[m]?:=by
    intro m;have wq:(arr.toList.take ((IV.i i).toNat*cs.len+off)).length=(IV.i i).toNat*cs.len+off:=by rw[List.length_take];omega
    rw[<-Array.getElem?_toList,z2];split
    ·rename_i hm;rw[List.append_assoc,List.getElem?_append_left (by rw[wq];exact hm),List.getElem?_take_of_lt hm,Array.getElem?_toList]
    ·split
     ·rw[List.append_assoc,List.getElem?_append_right (by rw[wq];omega),wq,List.getElem?_append_left (by omega)]
     ·rw[List.getElem?_append_right (by rw[List.length_append,wq];omega),List.length_append,wq,List.getElem?_drop,Array.getElem?_toList];congr 1;omega
   refine p2.rel.sK zq AA hput (x':=real.put x i el) List.length_set ?_;refine Bh (arr:=arr) (bW:=bW) (kf deep) p2.rel.inj zq z1 pV c2 List.length_set (fun i' hi'=>?_);have EE:List.getD (real.put x i el:List cs.T) i' (lB cs)=if i'=(IV.i i).toNat then el else List.getD x i' (lB cs):=qE x _ _ _ _ hi
   rw[EE];split
   ·rename_i he;subst he;refine og zq hput (r2 _ (fun kk u hu=>?_) (fun m hm=>?_))
    ·have hk:kk<v.cells.toList.length:=(List.getElem?_eq_some_iff.1 hu).1;show _=_;rw[oD,if_neg (by omega),if_pos (by omega),<-hu];congr 1;omega
    ·show _=_;rw[oD];rcases hm with hm|hm
     ·rw[if_pos (by omega)]
     ·rw[if_neg (by omega),if_neg (by omega)]
   ·rename_i he;refine og zq hput (aK.fy cs _ _ _ 0 _ (fun m hm=>?_) (EH i' hi'));rw[Nat.zero_add,oD];rcases Nat.lt_or_gt_of_ne he with hlt|hgt
    ·have:(i'+1)*cs.len<=(IV.i i).toNat*cs.len:=Nat.mul_le_mul_right _ hlt;rw[Nat.succ_mul]at this;rw[if_pos (by omega)]
    ·have:((IV.i i).toNat+1)*cs.len<=i'*cs.len:=Nat.mul_le_mul_right _ hgt;rw[Nat.succ_mul]at this;rw[if_neg (by omega),if_neg (by omega)]
end
end Go.R
namespace Go.R
variable {H:Nat->Value}
def Md.On:Md->Nat->Prop
 | .cB,_=>True
 | .flat k,i=>k.1=i
 | .deep k,i=>k.1=i
def Md.to:Md->Nat->Md
 | .cB,_=>.cB
 | .flat k,j=>.flat (j,k.2)
 | .deep k,j=>.deep (j,k.2)
theorem Md.Ba{md:Md}{i:Nat}(h:md.On i)(a b:Nat):(md.inner a b).On i:=by
 cases md with
 |cB=>trivial
 |flat _=>trivial
 |deep _=>exact h
theorem Md.Bs(md:Md)(j a b:Nat):(md.inner a b).to j=(md.to j).inner a b:=by cases md <;> rfl
structure Names (w:World) (ω aI:aJ) (i j:Nat):Prop where
 none:∀b,b<w.heap.size->ω b=none->aI b=none
 own:∀b p,b<w.heap.size->ω b=some (i,p)->aI b=some (j,p)
theorem Hd.map{w:World}{ω aI:aJ}{i j:Nat}(hn:Names w ω aI i j){e sz:Nat}{md:Md}(hm:md.On i){a:Option Addr}{n c:Nat}(h:Hd w ω e sz md a n c):Hd w aI e sz (md.to j) a n c:=by
 cases md with
 |cB=>intro h0;obtain⟨b,off,h1,h2,h3⟩:=h h0;exact⟨b,off,h1,hn.none b h3 h2,h3⟩
 |flat k=>
  rcases h with h|⟨b,arr,h1,h2,h3,h4⟩
  ·exact .inl h
  ·have e1:k.1=i:=hm;exact .inr ⟨b,arr,h1,h2,h3,hn.own b k.2 (bB h2) (by rw[h4,<-e1])⟩
 |deep k=>
  rcases h with h|⟨b,arr,h1,h2,h3,h4⟩
  ·exact .inl h
  ·have e1:k.1=i:=hm;exact .inr ⟨b,arr,h1,h2,h3,hn.own b k.2 (bB h2) (by rw[h4,<-e1])⟩
mutual
theorem Ty.uc{w:World}{ω aI:aJ}{i j:Nat}(hn:Names w ω aI i j):∀(t:Ty) (md:Md) (v:Value) (x:t.T),md.On i->t.R w ω md v x->t.R w aI (md.to j) v x
 | .int _,_,_,_,_,h=>h
 | .bool,_,_,_,_,h=>h
 | .str,_,_,_,_,h=>h
 | .sl e cs,md,v,x,hm,h=>by obtain⟨a,n,c,h1,h2,h3,h4,h5⟩:=h;refine⟨a,n,c,h1,h2,h3,h4.map hn hm,fun k ad hk ha=>?_⟩;have:=aK.uc hn cs (md.inner k) _ 0 _ (fun b=>Md.Ba hm k b) (h5 k ad hk ha);have e:(fun b=>(md.inner k b).to j)=(md.to j).inner k:=funext fun b=>Md.Bs md j k b;rw[e]at this;exact this
theorem aK.uc{w:World}{ω aI:aJ}{i j:Nat}(hn:Names w ω aI i j):∀(cs:aK) (md:Nat->Md) (g:Nat->Option Value) (k:Nat) (x:cs.T),(∀b,(md b).On i)->cs.R w ω md g k x->cs.R w aI (fun b=>(md b).to j) g k x
 | .nil,_,_,_,_,_,_=>trivial
 | .cons t ts,md,g,k,x,hm,h=>by obtain⟨⟨v,h1,h2⟩,h3⟩:=h;exact⟨⟨v,h1,Ty.uc hn t (md k) v _ (hm k) h2⟩,aK.uc hn ts md g (k+1) _ hm h3⟩
end
theorem yD(m i:Nat)(p:jR):(bk m i p).On i:=by unfold bk;split <;> first|trivial|rfl
theorem yE(m i j:Nat):(bk m i []).to j=bk m j []:=by unfold bk;split <;> rfl
theorem vL{w:World}{ω aI:aJ}{i j m e:Nat}{cs:aK}{v:Value}{x:List cs.T}(hn:Names w ω aI i j)(h:(Ty.sl e cs).R w ω (bk m i []) v x):(Ty.sl e cs).R w aI (bk m j []) v x:=by have:=Ty.uc hn (.sl e cs) _ v x (yD m i []) h;rw[yE]at this;exact this
theorem ua{w:World}{ω aI:aJ}{t:Ty}{v:Value}{x:t.T}(hn:∀b,b<w.heap.size->ω b=none->aI b=none)(h:t.R w ω .cB v x):t.R w aI .cB v x:=
 Ty.gP t .cB v x (fun b hb hk=>by
  rcases hk with hk|⟨k,_,hk⟩
  ·exact hn b hb hk
  ·exact hk.elim) h
theorem fa{w:World}{ω:aJ}{i e:Nat}{cs:aK}{v:Value}{x:List cs.T}{dp CB:Bool}(hd:dp=CB\/cs.plain=true)(h:(Ty.sl e cs).R w ω (bk (bif dp then 2 else 1) i []) v x):
  (Ty.sl e cs).R w ω (bk (bif CB then 2 else 1) i []) v x:=by
 rcases hd with rfl|hp
 ·exact h
 ·obtain⟨a,n,c,h1,h2,h3,h4,h5⟩:=h;refine⟨a,n,c,h1,h2,h3,?_,fun k ad hk ha=>aK.fT cs _ _ _ 0 _ hp (h5 k ad hk ha)⟩;cases dp <;> cases CB <;> exact h4
theorem mh{w:World}{ω:aJ}{e:Nat}{cs:aK}{ad:Option Addr}{dp:Bool}{i:Nat}:(Ty.sl e cs).R w ω (bk (bif dp then 2 else 1) i []) (.slice ad 0 0) ([]:List cs.T):=⟨ad,0,0,rfl,rfl,Nat.le_refl _,oN,fun i _ hi=>absurd hi (by omega)⟩
def CT(w:World)(ω:aJ)(id:Nat)(v:KV real)(u:Value):Prop:=
 match v with
 |⟨.val t,x⟩=>t.R w ω .cB u x
 |⟨.arr e cs dp,x⟩=>(Ty.sl e cs).R w ω (bk (bif dp then 2 else 1) id []) u x
 |⟨.mp k,x⟩=>∃b es c,ω b=some (id,[])/\u=.map (some b)/\w.heap[b]? = some (.map es c)/\zD k es.toList x
def fw(w:World)(ω:aJ):Nat->List (KV real)->List Value->Prop
 |_,[],[]=>True
 |id,v::vs,u::us=>CT w ω id v u/\fw w ω (id+1) vs us
 |_,_,_=>False
theorem fw.length{w:World}{ω:aJ}:∀ {id:Nat} {vs:List (KV real)} {us:List Value},fw w ω id vs us->vs.length=us.length
 |_,[],[],_=>rfl
 |_,_::_,_::_,h=>by simp[fw.length h.2]
 |_,[],_::_,h=>h.elim
 |_,_::_,[],h=>h.elim
theorem fw.iB{w:World}{ω:aJ}:∀ {id:Nat} {vs:List (KV real)} {us:List Value} {vs':List (KV real)} {zn:List Value},fw w ω id vs us->fw w ω (id+vs.length) vs' zn->fw w ω id (vs++vs') (us++zn)
 |_,[],[],_,_,_,h=>h
 |id,v::vs,_::_,vs',_,h,h'=>⟨h.1,fw.iB h.2 (by rw[List.length_cons]at h';rwa[show id+1+vs.length=id+(vs.length+1)by omega])⟩
 |_,[],_::_,_,_,h,_=>h.elim
 |_,_::_,[],_,_,h,_=>h.elim
structure cC (w:World) (ω:aJ) (s:S) (bi:aJ) (s1:S) (m:List (Nat×Nat)) (lo hi:Nat):Prop where
 nz:∀i j,(i,j)∈m->i≠0
 was:∀i j,(i,j)∈m->(s.ob i).o≠.gone
 is:∀i j,(i,j)∈m->(s1.ob i).o=.gone
 mQ:∀i j,(i,j)∈m->lo<=j/\j<hi
 inj:∀i i' j,(i,j)∈m->(i',j)∈m->i=i'
 fn:∀i j j',(i,j)∈m->(i,j')∈m->j=j'
 gone:∀i,(s.ob i).o=.gone->(s1.ob i).o=.gone/\∀b p,ω b=some (i,p)->bi b=some (i,p)
 back:∀b k,bi b=some k->ω b=some k
theorem cC.none{w:World}{ω:aJ}{s:S}{bi:aJ}{s1:S}{m:List (Nat×Nat)}{lo hi:Nat}(h:cC w ω s bi s1 m lo hi)(b:Nat)(hb:ω b=none):bi b=none:=by
 cases hq:bi b with
 |none=>rfl
 |some k=>rw[h.back b k hq]at hb;cases hb
theorem cC.refl(w:World)(ω:aJ)(s:S)(lo hi:Nat):cC w ω s ω s [] lo hi:=
 {nz:=fun _ _ h=>nomatch h
  was:=fun _ _ h=>nomatch h
  is:=fun _ _ h=>nomatch h
  mQ:=fun _ _ h=>nomatch h
  inj:=fun _ _ _ h=>nomatch h
  fn:=fun _ _ _ h=>nomatch h
  gone:=fun _ h=>⟨h,fun _ _ h=>h⟩
  back:=fun _ _ h=>h }
theorem cC.trans {w:World} {ω:aJ} {s:S} {bi:aJ} {s1:S} {m:List (Nat×Nat)} {lo mid hi:Nat} {bZ:aJ} {s2:S} {m':List (Nat×Nat)} (hl:lo<=mid) (hh:mid<=hi)
  (h:cC w ω s bi s1 m lo mid) (h':cC w bi s1 bZ s2 m' mid hi):cC w ω s bZ s2 (m++m') lo hi where
 nz i j hm:=(List.mem_append.1 hm).elim (h.nz i j) (h'.nz i j)
 was i j hm:=(List.mem_append.1 hm).elim (h.was i j) (fun hm e=>h'.was i j hm (h.gone i e).1)
 is i j hm:=(List.mem_append.1 hm).elim (fun hm=>(h'.gone i (h.is i j hm)).1) (h'.is i j)
 mQ i j hm:=(List.mem_append.1 hm).elim (fun hm=>⟨(h.mQ i j hm).1,Nat.lt_of_lt_of_le (h.mQ i j hm).2 hh⟩) (fun hm=>⟨Nat.le_trans hl (h'.mQ i j hm).1,(h'.mQ i j hm).2⟩)
 inj i i' j h1 h2:=by
  rcases List.mem_append.1 h1 with h1|h1 <;> rcases List.mem_append.1 h2 with h2|h2
  ·exact h.inj i i' j h1 h2
  ·exact absurd (Nat.lt_of_lt_of_le (h.mQ i j h1).2 (h'.mQ i' j h2).1) (Nat.lt_irrefl _)
  ·exact absurd (Nat.lt_of_lt_of_le (h.mQ i' j h2).2 (h'.mQ i j h1).1) (Nat.lt_irrefl _)
  ·exact h'.inj i i' j h1 h2
 fn i j j' h1 h2:=by
  rcases List.mem_append.1 h1 with h1|h1 <;> rcases List.mem_append.1 h2 with h2|h2
  ·exact h.fn i j j' h1 h2
  ·exact absurd (h.is i j h1) (h'.was i j' h2)
  ·exact absurd (h.is i j' h2) (h'.was i j h1)
  ·exact h'.fn i j j' h1 h2
 gone i hg:=⟨(h'.gone i (h.gone i hg).1).1,fun b p hb=>(h'.gone i (h.gone i hg).1).2 b p ((h.gone i hg).2 b p hb)⟩
 back b k hb:=h.back b k (h'.back b k hb)
structure dw (ω:aJ) (s:S) (bi:aJ) (s1:S):Prop where
 gone:∀i,(s.ob i).o=.gone->(s1.ob i).o=.gone/\∀b p,ω b=some (i,p)->bi b=some (i,p)
 back:∀b k,bi b=some k->ω b=some k
theorem cC.later{w:World}{ω:aJ}{s:S}{bi:aJ}{s1:S}{m:List (Nat×Nat)}{lo hi:Nat}(h:cC w ω s bi s1 m lo hi):dw ω s bi s1:=⟨h.gone,h.back⟩
theorem dw.refl(ω:aJ)(s:S):dw ω s ω s:=⟨fun _ h=>⟨h,fun _ _ h=>h⟩,fun _ _ h=>h⟩
theorem dw.trans{ω bi bZ:aJ}{s s1 s2:S}(h:dw ω s bi s1)(h':dw bi s1 bZ s2):dw ω s bZ s2:=⟨fun i hg=>⟨(h'.gone i (h.gone i hg).1).1,fun b p hb=>(h'.gone i (h.gone i hg).1).2 b p ((h.gone i hg).2 b p hb)⟩,fun b k hb=>h.back b k (h'.back b k hb)⟩
theorem dw.none{ω:aJ}{s:S}{bi:aJ}{s1:S}(h:dw ω s bi s1)(b:Nat)(hb:ω b=none):bi b=none:=by
 cases hq:bi b with
 |none=>rfl
 |some k=>rw[h.back b k hq]at hb;cases hb
structure fK (w:World) (bi aI:aJ) (m:List (Nat×Nat)):Prop where
 none:∀b,b<w.heap.size->bi b=none->aI b=none
 own:∀i j,(i,j)∈m->∀b p,b<w.heap.size->bi b=some (i,p)->aI b=some (j,p)
theorem fK.left{w:World}{bi aI:aJ}{m m':List (Nat×Nat)}(h:fK w bi aI (m++m')):fK w bi aI m:=⟨h.none,fun i j hm=>h.own i j (List.mem_append.2 (.inl hm))⟩
theorem fK.right{w:World}{bi aI:aJ}{m m':List (Nat×Nat)}(h:fK w bi aI (m++m')):fK w bi aI m':=⟨h.none,fun i j hm=>h.own i j (List.mem_append.2 (.inr hm))⟩
section
variable {R:Type} {P:Program} {E:Env} {ω:aJ} {a:Act} {w:World} {s:S} {k:S->Option R} {r:R} {o:Oper} {Q:Exit->Act->World->Prop}
theorem xa(h:Rel H ω a w s){e:Nat}{cs:aK}{deep:Bool}{l:L}{u:Value}{x:List cs.T}{s1:S}(hl:cA w ω s u l)(ht:eJ (A:=real) e cs deep l s=some (x,s1)):
  (s1=s/\x=[]/\∃ad,u=.slice ad 0 0) \/
  ∃id g hh dp,l=.ref id g hh []/\g=(s.ob id).g/\(s.ob id).o=.arr e cs dp x/\s1=s.bQ id true .gone/\(Ty.sl e cs).R w ω (bk (bif dp then 2 else 1) id []) u x/\(dp=deep\/cs.plain=true):=by
 cases l with
 |eU e' cs'=>
  simp only[eJ]at ht;split at ht
  ·rename_i hb;have:=Ty.eq_of_beq hb;injection this with e1 e2
   subst e1;subst e2;injection ht with ht
   injection ht with h1 h2
   exact .inl ⟨h2.symm,h1.symm,hl⟩
  ·cases ht
 |ref id g hh p=>
  cases p with
  |cons _ _=>cases ht
  |nil=>
   simp only[eJ]at ht;cases hg:Nat.beq (s.ob id).g g with
   |false=>rw[hg]at ht;cases ht
   |true=>
    rw[hg]at ht;simp only[cond_true]at ht;have hge:=Nat.eq_of_beq_eq_true hg;cases cf:(s.ob id).o with
    |arr e' cs' dp y=>
     rw[cf]at ht;simp only at ht;cases hd:(dp==deep||cs'.plain)with
     |false=>rw[hd]at ht;cases ht
     |true=>
      rw[hd]at ht;simp only[cond_true]at ht;split at ht
      ·rename_i hb;have:=Ty.eq_of_beq hb;injection this with e1 e2
       subst e1;subst e2;have ht:=Option.some.inj ht;injection ht with h1 h2
       have h1:y=x:=h1;subst h1;refine .inr ⟨id,g,hh,dp,rfl,hge.symm,cf,h2.symm,hl.2.2 _ (cu (h:=hh) cf hge.symm),?_⟩;rw[Bool.or_eq_true,beq_iff_eq]at hd;exact hd
      ·cases ht
    |cB _ _ _=>rw[cf]at ht;cases ht
    |blk _=>rw[cf]at ht;cases ht
    |gone=>rw[cf]at ht;cases ht
    |mp _ _=>rw[cf]at ht;cases ht
 |_=>cases ht
theorem Du{k:IntKind}{l:L}{u:Value}{x:real.V (.sl 0 (aK.mp k))}{s1:S}(hl:cA w ω s u l)(ht:tS (A:=real) k l s=some (x,s1)):
  ∃id,(s.ob id).o=.mp k x/\s1=s.bQ id true .gone/\∃b es c,ω b=some (id,[])/\u=.map (some b)/\w.heap[b]? = some (.map es c)/\zD k es.toList x:=by
 cases l with
 |cV id g=>
  simp only[tS]at ht;cases hg:Nat.beq (s.ob id).g g with
  |false=>rw[hg]at ht;cases ht
  |true=>
   rw[hg]at ht;simp only[cond_true]at ht;have hge:=Nat.eq_of_beq_eq_true hg;cases cf:(s.ob id).o with
   |mp k' y=>
    rw[cf]at ht;simp only at ht;split at ht
    ·rename_i hb;have:=Ty.eq_of_beq hb;have hk:k'=k:=by simp only[Ty.beq,aK.beq,aK.mp,Bool.and_eq_true,decide_eq_true_eq]at hb;exact hb.2.1
     subst hk;have ht:=Option.some.inj ht;injection ht with h1 h2
     have h1:y=x:=h1;subst h1;exact⟨id,cf,h2.symm,hl.2 hge _ _ cf⟩
    ·cases ht
   |arr _ _ _ _=>rw[cf]at ht;cases ht
   |cB _ _ _=>rw[cf]at ht;cases ht
   |blk _=>rw[cf]at ht;cases ht
   |gone=>rw[cf]at ht;cases ht
 |_=>cases ht
theorem pN{id lo:Nat}(h:Rel H ω a w s)(ho:(s.ob id).o≠.gone):cC w ω s ω (s.bQ id true .gone) [(id,lo)] lo (lo+1) where
 nz i j hm:=by
  rw[List.mem_singleton]at hm;injection hm with h1 h2
  subst h1;exact h.qj ho
 was i j hm:=by
  rw[List.mem_singleton]at hm;injection hm with h1 h2
  subst h1;exact ho
 is i j hm:=by
  rw[List.mem_singleton]at hm;injection hm with h1 h2
  subst h1;rw[St.aV]
 mQ i j hm:=by
  rw[List.mem_singleton]at hm;injection hm with h1 h2
  subst h2;exact⟨Nat.le_refl _,Nat.lt_succ_self _⟩
 inj i i' j h1 h2:=by
  rw[List.mem_singleton]at h1 h2;injection h1 with h1 _
  injection h2 with h2 _
  rw[h1,h2]
 fn i j j' h1 h2:=by
  rw[List.mem_singleton]at h1 h2;injection h1 with _ h1
  injection h2 with _ h2
  rw[h1,h2]
 gone i hg:=by
  refine⟨?_,fun _ _ h=>h⟩;by_cases e:i=id
  ·subst e;exact absurd hg ho
  ·rw[St.bz _ _ _ e];exact hg
 back _ _ h:=h
theorem Passes.Ag(h:Rel H ω a w s)(id:Nat):Passes H ω a w s ω (s.bQ id true .gone):=⟨h.gone id true,dr.refl _ _,tg h.dom true⟩
theorem wJ{t:Ty}{l:L}{v:Value}{x:t.T}{s':S}(h:Rel H ω a w s)(hl:cA w ω s v l)(hp:bY (A:=real) false t l s=some (x,s'))(lo:Nat):
  ∃aI,Passes H ω a w s aI s'/\cC w ω s aI s' [] lo lo/\t.R w aI .cB v x:=by
 obtain⟨aI,h1,h2,h3⟩:=qm h hl hp;refine⟨aI,h1,?_,h2⟩;rcases h3 with ⟨e1,e2⟩|⟨id,e,cs,dp,y,e1,e2,e3⟩
 ·subst e1;subst e2;exact cC.refl _ _ _ _ _
 ·subst e2;subst e3;exact
  {nz:=fun _ _ h=>nomatch h
   was:=fun _ _ h=>nomatch h
   is:=fun _ _ h=>nomatch h
   mQ:=fun _ _ h=>nomatch h
   inj:=fun _ _ _ h=>nomatch h
   fn:=fun _ _ _ h=>nomatch h
   gone:=fun i hg=>by
    have hne:i≠id:=fun e'=>by subst e';rw[e1]at hg;cases hg
    exact⟨by rw[St.bz _ _ _ hne];exact hg,fun b p hb=>aJ.dO hb hne⟩
   back:=fun b k hb=>(aJ.dH hb).1 }
theorem Bq(h:Rel H ω a w s){kk:K}{l:L}{u:Value}{v:KV real}{s1:S}(hl:cA w ω s u l)(ht:cW kk l s=some (v,s1))(lo:Nat):
  ∃bi m,Passes H ω a w s bi s1/\cC w ω s bi s1 m lo (lo+1)/\v.1=kk/\(kk.mD=true->m=[])/\∀bZ s2 aI,dw bi s1 bZ s2->fK w bZ aI m->CT w aI lo v u:=by
 cases kk with
 |val t=>
  simp only[cW]at ht;cases hp:bY (A:=real) false t l s with
  |none=>rw[hp]at ht;cases ht
  |some q=>
   obtain⟨x,s2⟩:=q;rw[hp]at ht;have ht:=Option.some.inj ht;injection ht with h1 h2
   subst h1;subst h2;obtain⟨aI,p1,p2,p3⟩:=wJ h hl hp lo;refine⟨aI,[],p1,?_,rfl,fun _=>rfl,fun bZ s3 bR hg hs=>ua (fun b hb hn=>hs.none b hb (hg.none b hn)) p3⟩;exact { p2 with mQ:=fun _ _ h=>nomatch h }
 |arr e cs deep=>
  simp only[cW]at ht;cases hp:eJ (A:=real) e cs deep l s with
  |none=>rw[hp]at ht;cases ht
  |some q=>
   obtain⟨x,s2⟩:=q;rw[hp]at ht;have ht:=Option.some.inj ht;injection ht with h1 h2
   subst h1;subst h2;rcases xa h hl hp with ⟨e1,e2,ad,e3⟩|⟨id,g,hh,dp,e0,eg,e1,e2,e3,e4⟩
   ·subst e1;subst e2;subst e3;exact⟨ω,[],Passes.refl h,cC.refl _ _ _ _ _,rfl,fun _=>rfl,fun _ _ _ _ _=>mh⟩
   ·subst e2;have EA:(s.ob id).o≠.gone:=by rw[e1];exact fun e=>by cases e
    refine⟨ω,[(id,lo)],Passes.Ag h id,pN h EA,rfl,fun e=>(by cases e),fun bZ s2 aI hg hs=>?_⟩;refine fa e4 (vL (i:=id) ⟨fun b hb hn=>hs.none b hb (hg.none b hn),fun b p hb hk=>?_⟩ e3);exact hs.own id lo (by simp) b p hb ((hg.gone id (by rw[St.aV])).2 b p hk)
 |mp kk=>
  simp only[cW]at ht;cases hp:tS (A:=real) kk l s with
  |none=>rw[hp]at ht;cases ht
  |some q=>
   obtain⟨x,s2⟩:=q;rw[hp]at ht;have ht:=Option.some.inj ht;injection ht with h1 h2
   subst h1;subst h2;obtain⟨id,e1,e2,b,es,c,f1,f2,f3,f4⟩:=Du hl hp;subst e2;have EA:(s.ob id).o≠.gone:=by rw[e1];exact fun e=>by cases e
   refine⟨ω,[(id,lo)],Passes.Ag h id,pN h EA,rfl,fun e=>(by cases e),fun bZ s2 aI hg hs=>?_⟩;exact⟨b,es,c,hs.own id lo (by simp) b [] (h.dom _ _ f1) ((hg.gone id (by rw[St.aV])).2 b [] f1),f2,f3,f4⟩
theorem gl:∀(ks:List K) (ls:List L) (us:List Value) (ω:aJ) (s:S) (vs:List (KV real)) (s1:S) (lo:Nat), Rel H ω a w s -> bj (cA w ω s) us ls -> takes ks ls s = some (vs, s1) ->
    ∃bi m, Passes H ω a w s bi s1 /\ cC w ω s bi s1 m lo (lo + ks.length) /\ vs.map (·.1) = ks /\ ((∀k ∈ ks, k.mD = true) -> m = []) /\ ∀bZ s2 aI, dw bi s1 bZ s2 -> fK w bZ aI m -> fw w aI lo vs us
  | [], [], us, ω, s, vs, s1, lo, h, h2, ht=>by
    injection ht with ht
    injection ht with e1 e2
    subst e1; subst e2;cases us with
    |cons _ _=>exact h2.elim
    |nil=>exact⟨ω, [], Passes.refl h, cC.refl _ _ _ _ _, rfl, fun _=>rfl, fun _ _ _ _ _=>trivial⟩
  |k:: ks, l:: ls, [], _, _, _, _, _, _, h2, _=>h2.elim
  |k:: ks, l:: ls, u:: us, ω, s, vs, s1, lo, h, h2, ht=>by
    simp only[takes]at ht;cases h1:cW k l s with
    |none=>rw[h1]at ht; cases ht
    |some q=>
      obtain⟨v, s2⟩:=q;rw[h1]at ht;simp only at ht;cases h3:takes ks ls s2 with
      |none=>rw[h3]at ht; cases ht
      |some q2=>
        obtain⟨vs', s3⟩:=q2;rw[h3]at ht;injection ht with ht
        injection ht with e1 e2
        subst e1; subst e2;obtain⟨bi, m1, p1, g1, t1, n1, r1⟩:=Bq h h2.1 h1 lo;obtain⟨bZ, m2, p2, g2, t2, n2, r2⟩:=gl ks ls us bi s2 vs' s3 (lo + 1) p1.rel (h2.2.mono fun _ _ hl=>cA.frame p1.ext p1.tr hl) h3;refine⟨bZ, m1 ++ m2, p1.trans p2, ?_, by simp[t1, t2], fun hk=>by rw[n1 (hk k (by simp)), n2 (fun k' hk'=>hk k' (by simp[hk']))]; rfl, fun oV s4 aI hg hs=>⟨r1 oV s4 aI (g2.later.trans hg) hs.left, r2 oV s4 aI hg hs.right⟩⟩;have:=cC.trans (Nat.le_succ _) (Nat.le_add_right _ _) g1 g2;rwa[show lo + 1 + ks.length = lo + (k:: ks).length by simp; omega]at this
  | [], _:: _, _, _, _, _, _, _, _, _, ht=>by cases ht
  |_:: _, [], _, _, _, _, _, _, _, _, ht=>by cases ht
end
end Go.R
namespace Go.R
variable {H:Nat->Value}
section
variable {R:Type} {P:Program} {E:Env} {ω:aJ} {a:Act} {w:World} {s:S} {k:S->Option R} {r:R} {o:Oper} {Q:Exit->Act->World->Prop}
def tX(w:World)(ω:aJ):Nat->List Cp->List (KV real)->List Value->Prop
 |_,[],vs,us=>vs=[]/\us=[]
 |b,.ro cs::r,vs,u::us=>(vs.take cs.len).length=cs.len/\(∃x,jQ (A:=real) cs (vs.take cs.len)=some x/\iH w ω u cs x 0)/\tX w ω b r (vs.drop cs.len) us
 |b,.mu ks::r,vs,u::us=>(vs.take ks.length).length=ks.length/\(∃b' arr T,u=.pointer (some ⟨b',0,none⟩)/\ω b'=some (b,[])/\w.heap[b']? = some (.cells arr T (0,0))/\fw w ω (b+1) (vs.take ks.length) arr.toList)/\tX w ω (b+(ks.length+1)) r (vs.drop ks.length) us
 |_,_::_,_,[]=>False
def zp(w:World)(ω:aJ)(b:Nat)(sh:Sh)(vs:List (KV real))(u:Value):Prop:=
 match sh with
 | .one _=>∃v,vs=[v]/\CT w ω b v u
 | .agg _=>∃cells:List Value,u=.agg cells.toArray/\fw w ω b vs cells
 | .blk _=>∃b' arr T,u=.pointer (some ⟨b',0,none⟩)/\ω b'=some (b,[])/\w.heap[b']? = some (.cells arr T (0,0))/\fw w ω (b+1) vs arr.toList
 | .ro cs=>∃x,jQ (A:=real) cs vs=some x/\iH w ω u cs x 0
 | .fn f aM=>∃cv:List Value,u=.func (.func f) #[] cv.toArray/\bj (fun v c=>gC w ω ⟨fun _=>.dead,fun _=>⟨0,0,.gone⟩⟩ v c) cv (dj (A:=real) aM vs)/\∀c∈dj (A:=real) aM vs,∃cs x,c=.ro cs x
 | .pL f aM=>∃cv:List Value,u=.func (.func f) #[] cv.toArray/\tX w ω b aM vs cv
def fJ(w:World)(ω:aJ):Nat->List Sh->List (KV real)->List Value->Prop
 |_,[],vs,us=>vs=[]/\us=[]
 |b,sh::aW,vs,u::us=>(vs.take sh.ks.length).length=sh.ks.length/\zp w ω b sh (vs.take sh.ks.length) u/\fJ w ω (b+sh.width) aW (vs.drop sh.ks.length) us
 |_,_::_,_,[]=>False
def bL(b n i:Nat):Prop:=b<=i/\i<b+n
theorem yp{b i:Nat}:¬bL b 0 i:=by unfold bL;omega
theorem mF:∀(vs:List (KV real)) (us:List Value) (id:Nat) (s:S),fw w ω id vs us ->
  (∀i,¬bL id vs.length i->(eE id vs s).2.ob i=s.ob i)/\(∀i,bL id vs.length i->(s.ob i).g<((eE id vs s).2.ob i).g/\∀cells,((eE id vs s).2.ob i).o≠.blk cells) /\
  (eE id vs s).2.sl=s.sl /\
  ∀s'':S,(∀i,bL id vs.length i->s''.ob i=(eE id vs s).2.ob i)->bj (cA w ω s'') us (eE id vs s).1
 | [],[],id,s,_=>⟨fun _ _=>rfl,fun i hi=>absurd hi (by unfold bL;simp),rfl,fun _ _=>trivial⟩
 | [],_::_,_,_,h=>h.elim
 |_::_,[],_,_,h=>h.elim
 |v::vs,u::us,id,s,h=>by
  obtain⟨h1,h2,jO,h3⟩:=mF vs us (id+1) (dK id v s).2 h.2;have rY:((dK id v s).2.ob id).g=(s.ob id).g+1/\(∀cells,((dK id v s).2.ob id).o≠.blk cells)/\(dK id v s).2.sl=s.sl/\∀i,i≠id->(dK id v s).2.ob i=s.ob i:=by
   obtain⟨kk,x⟩:=v;cases kk with
   |val t=>
    refine⟨?_,?_,rfl,fun i hi=>?_⟩
    ·simp[dK,St.new,St.aY]
    ·intro cells e;simp[dK,St.new,St.aY]at e
    ·simp only[dK];unfold St.new;exact St.bD _ _ hi
   |arr e cs dp=>
    refine⟨?_,?_,rfl,fun i hi=>?_⟩
    ·simp[dK,St.new,St.aY]
    ·intro cells e;simp[dK,St.new,St.aY]at e
    ·simp only[dK];unfold St.new;exact St.bD _ _ hi
   |mp kk=>
    refine⟨?_,?_,rfl,fun i hi=>?_⟩
    ·simp[dK,St.new,St.aY]
    ·intro cells e;simp[dK,St.new,St.aY]at e
    ·simp only[dK];unfold St.new;exact St.bD _ _ hi
  obtain⟨q1,q2,q3,q4⟩:=rY;simp only[eE];refine⟨fun i hi=>?_,fun i hi=>?_,jO.trans q3,fun s'' hs=>⟨?_,h3 s'' fun i hi=>hs i ?_⟩⟩
  ·rw[h1 i (by unfold bL at hi⊢;simp only[List.length_cons]at hi;omega)];exact q4 i (by unfold bL at hi;simp only[List.length_cons]at hi;omega)
  ·by_cases e:i=id
   ·subst e;rw[h1 i (by unfold bL;omega),q1];exact⟨Nat.lt_succ_self _,q2⟩
   ·have:=h2 i (by unfold bL at hi⊢;simp only[List.length_cons]at hi;omega);rw[q4 i e]at this;exact this
  ·have cf:s''.ob id=(dK id v s).2.ob id:=by
    rw[hs id (by unfold bL;simp only[List.length_cons];omega)];exact h1 id (by unfold bL;omega)
   have hv:=h.1;obtain⟨kk,x⟩:=v;cases kk with
   |val t=>exact hv
   |arr e cs dp=>
    have ho:s''.ob id=⟨(s.ob id).g+1,0,.arr e cs dp x⟩:=by rw[cf];simp only[dK];unfold St.new;exact St.aY _ _ _
    refine⟨by rw[ho];exact Nat.le_refl _,by simp,fun c hc=>?_⟩;rw[cu (e:=e) (cs:=cs) (dp:=dp) (x:=x) (by rw[ho]) (by rw[ho])]at hc;injection hc with hc
    subst hc;exact hv
   |mp kk=>
    have ho:s''.ob id=⟨(s.ob id).g+1,0,.mp kk x⟩:=by rw[cf];simp only[dK];unfold St.new;exact St.aY _ _ _
    refine⟨by rw[ho];exact Nat.le_refl _,fun _ k' x' hc=>?_⟩;rw[ho]at hc;injection hc with h1 h2
    subst h1;subst h2;exact hv
  ·unfold bL at hi⊢;simp only[List.length_cons];omega
theorem si{sh:Sh}{vs:List (KV real)}{u:Value}{b:Nat}{s:S}(hf:∀f aM,sh≠.pL f aM)(hl:vs.length=sh.ks.length)(h:zp w ω b sh vs u):
  (∀i,¬bL b sh.width i->(cN b sh vs s).2.ob i=s.ob i)/\(∀i,bL b sh.width i->(s.ob i).g<((cN b sh vs s).2.ob i).g)/\(cN b sh vs s).2.sl=s.sl /\
  ∀s'':S,(∀i,bL b sh.width i->s''.ob i=(cN b sh vs s).2.ob i)->dh H w ω s'' u (cN b sh vs s).1 /\
   ∀i cells,bL b sh.width i->(s''.ob i).o=.blk cells->∃c arr T,ω c=some (i,[])/\w.heap[c]? = some (.cells arr T (0,0))/\bj (cA w ω s'') arr.toList cells:=by
 cases sh with
 |one kk=>obtain⟨v,rfl,hv⟩:=h;obtain⟨h1,h2,jO,h3⟩:=mF (w:=w) (ω:=ω) [v] [u] b s ⟨hv,trivial⟩;refine⟨h1,fun i hi=>(h2 i hi).1,jO,fun s'' hs=>⟨(h3 s'' hs).1,fun i cells hi hc=>?_⟩⟩;rw[hs i hi]at hc;exact absurd hc ((h2 i hi).2 cells)
 |agg ks=>obtain⟨cells,e1,hv⟩:=h;obtain⟨h1,h2,jO,h3⟩:=mF (w:=w) (ω:=ω) vs cells b s hv;have hw:(Sh.agg ks).width=vs.length:=hl.symm;rw[hw];refine⟨h1,fun i hi=>(h2 i hi).1,jO,fun s'' hs=>⟨⟨cells,e1,h3 s'' hs⟩,fun i cells' hi hc=>?_⟩⟩;rw[hs i hi]at hc;exact absurd hc ((h2 i hi).2 cells')
 |blk ks=>
  obtain⟨b',arr,T,e1,e2,e3,hv⟩:=h;obtain⟨h1,h2,jO,h3⟩:=mF (w:=w) (ω:=ω) vs arr.toList (b+1) s hv;have hw:(Sh.blk ks).width=vs.length+1:=by rw[hl];rfl
  rw[hw];have hne:∀i,i≠b->(cN b (.blk ks) vs s).2.ob i=(eE (b+1) vs s).2.ob i:=fun i hi=>by simp only[cN];unfold St.new;exact St.bD _ _ hi
  have rY:(cN b (.blk ks) vs s).2.ob b=⟨((eE (b+1) vs s).2.ob b).g+1,0,.blk (eE (b+1) vs s).1⟩:=by simp only[cN];unfold St.new;exact St.aY _ _ _
  have hb:(eE (b+1) vs s).2.ob b=s.ob b:=h1 b (by unfold bL;omega);refine⟨fun i hi=>?_,fun i hi=>?_,jO,fun s'' hs=>?_⟩
  ·rw[hne i (by unfold bL at hi;omega)];exact h1 i (by unfold bL at hi⊢;omega)
  ·by_cases e:i=b
   ·subst e;rw[rY,hb];exact Nat.lt_succ_self _
   ·rw[hne i e];exact(h2 i (by unfold bL at hi⊢;omega)).1
  ·have hcells:=h3 s'' (fun i hi=>by
    rw[hs i (by unfold bL at hi⊢;omega)];exact hne i (by unfold bL at hi;omega))
   have hsb:=hs b (by unfold bL;omega);rw[rY]at hsb;refine⟨⟨?_,fun _ cells _=>⟨b',e2,e1⟩⟩,fun i cells hi hc=>?_⟩
   ·rw[hsb];exact Nat.le_refl _
   ·by_cases e:i=b
    ·subst e;rw[hsb]at hc;injection hc with hc
     subst hc;exact⟨b',arr,T,e2,e3,hcells⟩
    ·rw[hs i hi,hne i e]at hc;exact absurd hc ((h2 i (by unfold bL at hi⊢;omega)).2 cells)
 |ro cs=>
  obtain⟨x,e1,e2⟩:=h;have uO:cN (A:=real) b (.ro cs) vs s=(.one (.ez cs x 0),s):=by simp only[cN];rw[e1]
  rw[uO];exact⟨fun _ _=>rfl,fun i hi=>absurd hi yp,rfl,fun s'' _=>⟨e2,fun i _ hi=>absurd hi yp⟩⟩
 |fn f aM=>
  obtain⟨cv,e1,e2,e3⟩:=h;refine⟨fun _ _=>rfl,fun i hi=>absurd hi yp,rfl,fun s'' _=>⟨⟨cv,e1,?_⟩,fun i _ hi=>absurd hi yp⟩⟩;have key:∀(cv:List Value) (cc:List (df real)),bj (fun v c=>gC w ω ⟨fun _=>.dead,fun _=>⟨0,0,.gone⟩⟩ v c) cv cc->(∀c∈cc,∃cs x,c=.ro cs x)->bj (fun v c=>gC w ω s'' v c) cv cc:=by
   intro cv;induction cv with
   |nil=>intro cc h2 _;cases cc with|nil=>trivial|cons _ _=>exact h2.elim
   |cons v cv ih=>
    intro cc h2 hro;cases cc with
    |nil=>exact h2.elim
    |cons c cc=>refine⟨?_,ih cc h2.2 (fun c' eo=>hro c' (by simp[eo]))⟩;obtain⟨cs,x,rfl⟩:=hro c (by simp);exact h2.1
  exact key cv _ e2 e3
 |pL f aM=>exact absurd rfl (hf f aM)
theorem nE:∀(aM:List Cp) (vs:List (KV real)) (us:List Value) (b:Nat) (s:S),tX w ω b aM vs us ->
  (∀i,¬bL b (s9 aM) i->(dL b aM vs s).2.ob i=s.ob i)/\(∀i,bL b (s9 aM) i->(s.ob i).g<((dL b aM vs s).2.ob i).g)/\(dL b aM vs s).2.sl=s.sl /\
  ∀s'':S,(∀i,bL b (s9 aM) i->s''.ob i=(dL b aM vs s).2.ob i)->bj (gC w ω s'') us (dL b aM vs s).1 /\
   ∀i cells,bL b (s9 aM) i->(s''.ob i).o=.blk cells->∃c arr T,ω c=some (i,[])/\w.heap[c]? = some (.cells arr T (0,0))/\bj (cA w ω s'') arr.toList cells
 | [],vs,us,b,s,h=>by obtain⟨rfl,rfl⟩:=h;exact⟨fun _ _=>rfl,fun i hi=>absurd hi yp,rfl,fun _ _=>⟨trivial,fun i _ hi=>absurd hi yp⟩⟩
 | .ro _::_,vs,[],b,s,h=>h.elim
 | .mu _::_,vs,[],b,s,h=>h.elim
 | .ro cs::r,vs,u::us,b,s,h=>by
  obtain⟨_,⟨x,h1,h2⟩,h3⟩:=h;obtain⟨b1,b2,b3,b4⟩:=nE r (vs.drop cs.len) us b s h3;have hw:s9 (.ro cs::r)=s9 r:=by simp[s9,Cp.width]
  have uO:dL (A:=real) b (.ro cs::r) vs s=(.ro cs x::(dL b r (vs.drop cs.len) s).1,(dL b r (vs.drop cs.len) s).2):=by simp only[dL];rw[h1]
  rw[uO,hw];refine⟨b1,b2,b3,fun s'' hs=>?_⟩;obtain⟨d1,d2⟩:=b4 s'' hs;exact⟨⟨h2,d1⟩,d2⟩
 | .mu ks::r,vs,u::us,b,s,h=>by
  obtain⟨hl,h1,h2⟩:=h;obtain⟨a1,a2,a3,a4⟩:=si (H:=fun _=>undef) (sh:=.blk ks) (s:=s) (fun _ _ e=>by cases e) hl h1;obtain⟨b1,b2,b3,b4⟩:=nE r (vs.drop ks.length) us (b+(ks.length+1)) (cN b (.blk ks) (vs.take ks.length) s).2 h2;have hw:s9 (.mu ks::r)=(ks.length+1)+s9 r:=rfl;have DP:(Sh.blk ks).width=ks.length+1:=rfl;rw[DP]at a1 a2 a4;rw[hw];refine⟨fun i hi=>?_,fun i hi=>?_,b3.trans a3,fun s'' hs=>?_⟩
  ·refine(b1 i (by unfold bL at hi⊢;omega)).trans ?_;exact a1 i (by unfold bL at hi⊢;omega)
  ·by_cases e:bL b (ks.length+1) i
   ·have:=b1 i (by unfold bL at e⊢;omega);show(s.ob i).g<((dL (b+(ks.length+1)) r (vs.drop ks.length) (cN b (.blk ks) (vs.take ks.length) s).2).2.ob i).g;rw[this];exact a2 i e
   ·have:=b2 i (by unfold bL at hi e⊢;omega);rw[a1 i e]at this;exact this
  ·obtain⟨c1,c2⟩:=a4 s'' (fun i hi=>by
    rw[hs i (by unfold bL at hi⊢;omega)];exact b1 i (by unfold bL at hi⊢;omega))
   obtain⟨d1,d2⟩:=b4 s'' (fun i hi=>hs i (by unfold bL at hi⊢;omega));refine⟨⟨c1,d1⟩,fun i cells hi hc=>?_⟩;by_cases e:bL b (ks.length+1) i
   ·exact c2 i cells e hc
   ·exact d2 i cells (by unfold bL at hi e⊢;omega) hc
theorem AO{sh:Sh}{vs:List (KV real)}{u:Value}{b:Nat}{s:S}(hl:vs.length=sh.ks.length)(h:zp w ω b sh vs u):
  (∀i,¬bL b sh.width i->(cN b sh vs s).2.ob i=s.ob i)/\(∀i,bL b sh.width i->(s.ob i).g<((cN b sh vs s).2.ob i).g)/\(cN b sh vs s).2.sl=s.sl /\
  ∀s'':S,(∀i,bL b sh.width i->s''.ob i=(cN b sh vs s).2.ob i)->dh H w ω s'' u (cN b sh vs s).1 /\
   ∀i cells,bL b sh.width i->(s''.ob i).o=.blk cells->∃c arr T,ω c=some (i,[])/\w.heap[c]? = some (.cells arr T (0,0))/\bj (cA w ω s'') arr.toList cells:=by
 by_cases hf:∃f aM,sh=.pL f aM
 ·obtain⟨f,aM,rfl⟩:=hf;obtain⟨cv,e1,e2⟩:=h;obtain⟨b1,b2,b3,b4⟩:=nE aM vs cv b s e2;exact⟨b1,b2,b3,fun s'' hs=>⟨⟨cv,e1,(b4 s'' hs).1⟩,(b4 s'' hs).2⟩⟩
 ·exact si (fun f aM e=>hf ⟨f,aM,e⟩) hl h
def aL(aW:List Sh):Nat:=(aW.map Sh.width).sum
theorem kO:∀(aW:List Sh) (vs:List (KV real)) (us:List Value) (b:Nat) (s:S),fJ w ω b aW vs us ->
  (∀i,¬bL b (aL aW) i->(bE b aW vs s).2.ob i=s.ob i)/\(∀i,bL b (aL aW) i->(s.ob i).g<((bE b aW vs s).2.ob i).g)/\(bE b aW vs s).2.sl=s.sl /\
  ∀s'':S,(∀i,bL b (aL aW) i->s''.ob i=(bE b aW vs s).2.ob i)->bj (dh H w ω s'') us (bE b aW vs s).1 /\
   ∀i cells,bL b (aL aW) i->(s''.ob i).o=.blk cells->∃c arr T,ω c=some (i,[])/\w.heap[c]? = some (.cells arr T (0,0))/\bj (cA w ω s'') arr.toList cells
 | [],vs,us,b,s,h=>by obtain⟨rfl,rfl⟩:=h;exact⟨fun _ _=>rfl,fun i hi=>absurd hi (by unfold bL aL;simp),rfl,fun _ _=>⟨trivial,fun i _ hi=>absurd hi (by unfold bL aL;simp)⟩⟩
 |sh::aW,vs,[],b,s,h=>h.elim
 |sh::aW,vs,u::us,b,s,h=>by
  obtain⟨hl,h1,h2⟩:=h;obtain⟨a1,a2,a3,a4⟩:=AO (s:=s) hl h1;obtain⟨b1,b2,b3,b4⟩:=kO aW (vs.drop sh.ks.length) us (b+sh.width) (cN b sh (vs.take sh.ks.length) s).2 h2;have hw:aL (sh::aW)=sh.width+aL aW:=by simp[aL]
  simp only[bE];rw[hw];refine⟨fun i hi=>?_,fun i hi=>?_,b3.trans a3,fun s'' hs=>?_⟩
  ·rw[b1 i (by unfold bL at hi⊢;omega)];exact a1 i (by unfold bL at hi⊢;omega)
  ·by_cases e:bL b sh.width i
   ·rw[b1 i (by unfold bL at e⊢;omega)];exact a2 i e
   ·have:=b2 i (by unfold bL at hi e⊢;omega);rw[a1 i e]at this;exact this
  ·obtain⟨c1,c2⟩:=a4 s'' (fun i hi=>by
    rw[hs i (by unfold bL at hi⊢;omega)];exact b1 i (by unfold bL at hi⊢;omega))
   obtain⟨d1,d2⟩:=b4 s'' (fun i hi=>hs i (by unfold bL at hi⊢;omega));refine⟨⟨c1,d1⟩,fun i cells hi hc=>?_⟩;by_cases e:bL b sh.width i
   ·exact c2 i cells e hc
   ·exact d2 i cells (by unfold bL at hi e⊢;omega) hc
theorem nO:∀(ds:List Nat) (vs:List cm) (s:S),(hO ds vs s).ob=s.ob
 | [],_,_=>rfl
 |_::_,[],_=>rfl
 |d::ds,v::vs,s=>by simp only[hO];rw[nO];rfl
theorem sD(P:Nat->cm->Prop):∀(ds:List Nat) (vs:List cm) (s:S),(∀i,P i (s.sl i))->(∀(j d:Nat) (v:cm),ds[j]? = some d->vs[j]? = some v->P d v)->∀i,P i ((hO ds vs s).sl i)
 | [],_,_,h,_,i=>h i
 |_::_,[],_,h,_,i=>h i
 |d::ds,v::vs,s,h,h2,i=>by
  simp only[hO];refine sD P ds vs _ (fun i=>?_) (fun j d' v' h3 h4=>h2 (j+1) d' v' (by simpa using h3) (by simpa using h4)) i;by_cases e:i=d
  ·subst e;rw[St.iz];exact h2 0 i v rfl rfl
  ·rw[St.kT _ _ e];exact h i
theorem pY {s0:S} {aW:List Sh} {vs:List (KV real)} {us:List Value} {b:Nat} {ds:List Nat} (ry:xQ w ω) (hb:0<b) (hinj:∀b b' k,ω b=some k->ω b'=some k->b=b') (hdom:∀b k,ω b=some k->b<w.heap.size) (BU:a.defers=[])
  (CH:∀i,(s0.ob i).o=.gone) (jO:∀i,dh H w ω s0 (a.tmps.getD i undef) (s0.sl i)) (hv:fJ w ω b aW vs us) (hds:∀(j d:Nat),ds[j]? = some d->∀u,us[j]? = some u->a.tmps.getD d undef=u):
  Rel H ω a w (hO ds (bE b aW vs s0).1 (bE b aW vs s0).2):=by
 obtain⟨h1,h2,h3,h4⟩:=kO aW vs us b s0 hv;have cf:=nO ds (bE b aW vs s0).1 (bE b aW vs s0).2;have hs:=h4 (hO ds (bE b aW vs s0).1 (bE b aW vs s0).2) (fun i _=>by rw[cf]);have tr:∀i,Tr w ω s0 w ω (hO ds (bE b aW vs s0).1 (bE b aW vs s0).2) i:=fun i=>by
  by_cases e:bL b (aL aW) i
  ·exact dx.tr (by unfold dx;rw[cf];exact h2 i e)
  ·exact Tr.mM hdom (by rw[cf];exact h1 i e)
 exact
 {dP:=ry
  inj:=hinj
  dom:=hdom
  defers:=BU
  dR:=by rw[cf,h1 0 (by unfold bL;omega)];exact CH 0
  slots:=fun i=>by
   refine sD (fun i v=>dh H w ω (hO ds (bE b aW vs s0).1 (bE b aW vs s0).2) (a.tmps.getD i undef) v) ds _ _ (fun i=>?_) (fun j d v hj fL=>?_) i
   ·rw[h3];exact dh.frame (dr.refl _ _) tr (jO i)
   ·obtain⟨u,hu,hr⟩:=hs.1.get j v fL;rw[hds j d hj u hu];exact hr
  dB:=fun i cells hc=>by
   by_cases e:bL b (aL aW) i
   ·exact hs.2 i cells e hc
   ·rw[cf,h1 i e,CH i]at hc;cases hc }
end
end Go.R
namespace Go.R
variable {H:Nat->Value}
section
variable {R:Type} {P:Program} {E:Env} {ω:aJ} {a:Act} {w:World} {s:S} {k:S->Option R} {r:R} {o:Oper} {Q:Exit->Act->World->Prop}
theorem z8{id:Nat}{ls:List L}(h:Rel H ω a w s)(ho:(s.ob id).o=.blk ls)(lo:Nat):Passes H ω a w s (ω.drop id) (s.bQ id true .gone)/\cC w ω s (ω.drop id) (s.bQ id true .gone) [] lo lo:=by
 have h0:id≠0:=h.qj (by rw[ho];exact fun e=>by cases e);have tr:∀j,Tr w ω s w (ω.drop id) (s.bQ id true .gone) j:=fun j=>by
  by_cases e:j=id
  ·subst e;have cU:((s.bQ j true .gone).ob j).o=.gone:=by rw[St.aV]
   have hg:((s.bQ j true .gone).ob j).g=(s.ob j).g:=by rw[St.aV]
   have hh:((s.bQ j true .gone).ob j).h=bif true then(s.ob j).h+1 else(s.ob j).h:=by rw[St.aV]
   exact
   {ref:=fun v g h p hr=>⟨by rw[hg];exact hr.1,by rw[hg,hh];exact gr true hr.2.1,fun c hc=>(fS cU hc).elim⟩
    ptr:=fun v g off hr=>⟨by rw[hg];exact hr.1,fun _ cells hc=>by rw[cU]at hc;cases hc⟩
    cj:=fun v g h p i off hr=>⟨by rw[hg];exact hr.1,by rw[hg,hh];exact gr true hr.2.1,fun c hc=>(fS cU hc).elim⟩
    cV:=fun v g hr=>hr.shut hg fun k x e=>by rw[cU]at e;cases e }
  ·exact gq.tr ⟨St.bz _ _ _ e,fun b k _ hk hj=>⟨rfl,by rw[hk];exact aJ.dO hk (by rw[hj];exact e)⟩⟩ (bP _ _ _ h0) h.dom
 refine⟨⟨?_,bP _ _ _ h0,tr⟩,?_⟩
 ·exact
  {dP:=h.dP.ext (bP _ _ _ h0)
   inj:=fun b b' k h1 h2=>h.inj b b' k (aJ.dH h1).1 (aJ.dH h2).1
   dom:=fun b k h1=>h.dom b k (aJ.dH h1).1
   defers:=h.defers
   dR:=by rw[St.bz _ _ _ (Ne.symm h0)];exact h.dR
   slots:=fun i=>dh.frame (bP _ _ _ h0) tr (h.slots i)
   dB:=fun j cells hc=>by
    by_cases e:j=id
    ·subst e;rw[St.aV]at hc;cases hc
    ·rw[St.bz _ _ _ e]at hc;obtain⟨b,arr,T,h1,h2,h3⟩:=h.dB j cells hc;exact⟨b,arr,T,aJ.dO h1 e,h2,h3.mono fun _ _ hl=>cA.frame (bP _ _ _ h0) tr hl⟩ }
 ·exact
  {nz:=fun _ _ h=>nomatch h
   was:=fun _ _ h=>nomatch h
   is:=fun _ _ h=>nomatch h
   mQ:=fun _ _ h=>nomatch h
   inj:=fun _ _ _ h=>nomatch h
   fn:=fun _ _ _ h=>nomatch h
   gone:=fun i hg=>by
    have hne:i≠id:=fun e=>by subst e;rw[ho]at hg;cases hg
    exact⟨by rw[St.bz _ _ _ hne];exact hg,fun b p hb=>aJ.dO hb hne⟩
   back:=fun b k hb=>(aJ.dH hb).1 }
theorem cC.G8{oU:aJ}{s0 s1:S}{m:List (Nat×Nat)}{lo hi lo' hi':Nat}(h:cC w oU s0 ω s1 m lo hi)(h1:lo'<=lo)(h2:hi<=hi'):cC w oU s0 ω s1 m lo' hi':={h with mQ:=fun i j hm=>⟨Nat.le_trans h1 (h.mQ i j hm).1,Nat.lt_of_lt_of_le (h.mQ i j hm).2 h2⟩ }
theorem AL:∀(cs:aK) (k:K),k∈cs.ks->k.mD=true
 | .nil,_,h=>by cases h
 | .cons t ts,k,h=>by
  cases h with
  |head=>rfl
  |tail _ h=>exact AL ts k h
mutual
theorem kF:∀t:Ty,Ty.beq t t=true
 | .int k=>by simp[Ty.beq]
 | .bool=>rfl
 | .str=>rfl
 | .sl e cs=>by simp only[Ty.beq,Bool.and_eq_true];exact⟨Nat.beq_refl e,mW cs⟩
theorem mW:∀t:aK,aK.beq t t=true
 | .nil=>rfl
 | .cons t ts=>by simp only[aK.beq,Bool.and_eq_true];exact⟨kF t,mW ts⟩
end
theorem qV:∀(cs:aK) (x:cs.T),jQ (A:=real) cs (AM (A:=real) cs x)=some x
 | .nil,_=>rfl
 | .cons t ts,x=>by simp only[AM,jQ];have hb:Ty.beq t t=true:=kF t;rw[dif_pos hb];have ih:=qV ts (jP x);show Option.map (fun y=>real.cn (real.cast hb (real.hd x)) y) (jQ (A:=real) ts (AM (A:=real) ts (jP x)))=some x;rw[ih];exact congrArg some (C0 x)
theorem tC:∀(cs:aK) (x:cs.T), (AM (A:=real) cs x).map (·.1) = cs.ks
  | .nil, _=>rfl
  | .cons t ts, x=>congrArg (K.val t:: ·) (tC ts (jP x))
theorem tA:∀(cs:aK),cs.ks.length=cs.len
 | .nil=>rfl
 | .cons _ ts=>by simp[aK.ks,aK.len,tA ts]
theorem mg{aI:aJ}:∀(cs:aK) (vs:List (KV real)) (us:List Value) (b:Nat), vs.map (·.1) = cs.ks -> fw w aI b vs us -> ∃x, jQ (A:=real) cs vs = some x /\ ∀(j:Nat) (g:Nat -> Option Value), (∀k u, us[k]? = some u -> g (j + k) = some u) -> cs.R w aI (fun _=>.cB) g j x
  | .nil, [], us, b, _, _=>⟨(), rfl, fun _ _ _=>trivial⟩
  | .nil, _:: _, _, _, h, _=>by simp[aK.ks]at h
  | .cons t ts, [], _, _, h, _=>by simp[aK.ks]at h
  | .cons t ts, v:: vs, [], _, _, h=>h.elim
  | .cons t ts, ⟨kk, y⟩:: vs, u:: us, b, h, hr=>by
    simp only[List.map_cons, aK.ks, List.cons.injEq]at h;obtain⟨h1, h2⟩:=h;subst h1;obtain⟨x, q1, q2⟩:=mg ts vs us (b + 1) h2 hr.2;have hb:Ty.beq t t = true:=kF t;refine⟨kV y x, ?_, fun j g hg=>?_⟩
    · simp only[jQ]
      rw[dif_pos hb, q1];rfl
    · have hh:kL (kV (t:=t) (ts:=ts) y x) = y:=k8 _ _
      have ht:jP (kV (t:=t) (ts:=ts) y x) = x:=lu _ _;refine⟨⟨u, by simpa using hg 0 u rfl, ?_⟩, ?_⟩
      · rw[hh]; exact hr.1
      · rw[ht]
        exact q2 (j + 1) g (fun k u' oF=>by have:=hg (k + 1) u' (by simpa using oF);rwa[show j + (k + 1) = j + 1 + k by omega]at this)
theorem jA(h:Rel H ω a w s){cs:aK}{c:df real}{u:Value}{vs:List (KV real)}{s1:S}(hc:gC w ω s u c)(ht:cr cs c s = some (vs, s1))(b:Nat):
    ∃bi, Passes H ω a w s bi s1 /\ cC w ω s bi s1 [] b b /\ vs.map (·.1) = cs.ks /\ ∃x, jQ (A:=real) cs vs = some x /\ ∀bZ s2 aI, dw bi s1 bZ s2 -> (∀b, b<w.heap.size -> bZ b = none -> aI b = none) -> iH w aI u cs x 0:=by
  cases c with
  |ro cs' x=>
    simp only[cr]at ht;split at ht
    · rename_i hb
      have:=aK.eq_of_beq hb;subst this;have ht:=Option.some.inj ht;injection ht with e1 e2
      subst e1; subst e2;refine⟨ω, Passes.refl h, cC.refl _ _ _ _ _, tC _ _, x, qV _ _, fun bZ s2 aI hL hn=>?_⟩;obtain⟨b, o', h1, h2, h3, h4⟩:=hc;exact⟨b, o', hn b h2 (hL.none b h1), h2, h3, aK.gP cs' _ _ 0 x (fun _ b hb hk=>by
        rcases hk with hk|⟨_, _, hk⟩
        · exact hn b hb (hL.none b hk)
        · exact hk.elim) h4⟩
    · cases ht
  |ptr id g=>
    simp only[cr]at ht;cases hb:dA s id g with
    |none=>rw[hb]at ht; cases ht
    |some ls=>
      rw[hb]at ht;simp only at ht;cases h2:takes cs.ks ls s with
      |none=>rw[h2]at ht; cases ht
      |some q=>
        obtain⟨vs', s2⟩:=q;rw[h2]at ht;simp only at ht;obtain⟨e1, e2⟩:=cZ hb;obtain⟨b', f1, f2⟩:=hc.2 e1 ls e2;obtain⟨b'', arr, T, q1, q2, q3⟩:=h.dB id ls e2;obtain rfl:=h.inj _ _ _ f1 q1;obtain⟨bi, m, p1, g1, t1, n1, r1⟩:=gl cs.ks ls arr.toList ω s vs' s2 b h q3 h2;cases cf:(s2.ob id).o with
        |blk Ch=>
          rw[cf]at ht;have ht:=Option.some.inj ht;injection ht with v1 v2
          subst v1; subst v2;have hm:=n1 (AL cs);subst hm;obtain⟨p2, g2⟩:=z8 p1.rel cf b;have CC:cC w ω s bi s2 [] b b:={ g1 with mQ:=fun _ _ h=>nomatch h }
          refine⟨bi.drop id, p1.trans p2, cC.trans (Nat.le_refl _) (Nat.le_refl _) CC g2, t1, ?_⟩;obtain⟨x, x1, _⟩:=mg cs vs' arr.toList b t1 (r1 bi s2 bi (dw.refl _ _) ⟨fun _ _ h=>h, fun _ _ h=>nomatch h⟩);refine⟨x, x1, fun bZ s3 aI hL hn=>?_⟩;have hk:=r1 bZ s3 aI (g2.later.trans hL) ⟨hn, fun _ _ h=>nomatch h⟩;obtain⟨x', Ft, x2⟩:=mg cs vs' arr.toList b t1 hk;rw[x1]at Ft;injection Ft with Ft
          subst Ft;have hnone:(bi.drop id) b' = none:=by
            cases hq:bi b' with
            |none=>exact aJ.nA hq
            |some kk=>
              have:=g1.back b' kk hq;rw[f1]at this;injection this with this
              subst this;exact aJ.rV hq rfl
          refine⟨b', 0, hn b' (h.dom _ _ f1) (hL.none b' hnone), h.dom _ _ f1, f2, x2 0 _ (fun k u hu=>?_)⟩;rw[Nat.zero_add, Nat.zero_add, cell_of_row w b' k arr T (0, 0) q2];simpa using hu
        |arr _ _ _ _=>rw[cf]at ht; cases ht
        |cB _ _ _=>rw[cf]at ht; cases ht
        |gone=>rw[cf]at ht; cases ht
        |mp _ _=>rw[cf]at ht; cases ht
theorem oz:∀(aM:List aK) (cc:List (df real)) (cv:List Value) (ω:aJ) (s:S) (vs:List (KV real)) (s1:S) (b:Nat), Rel H ω a w s -> bj (fun v c=>gC w ω s v c) cv cc -> cz aM cc s = some (vs, s1) ->
    ∃bi, Passes H ω a w s bi s1 /\ cC w ω s bi s1 [] b b /\ vs.map (·.1) = (aM.map aK.ks).flatten /\ (∀c ∈ dj (A:=real) aM vs, ∃cs x, c = .ro cs x) /\ ∀bZ s2 aI, dw bi s1 bZ s2 -> (∀b, b<w.heap.size -> bZ b = none -> aI b = none) ->
      bj (fun v c=>gC w aI ⟨fun _=>.dead, fun _=>⟨0, 0, .gone⟩⟩ v c) cv (dj (A:=real) aM vs)
  | [], [], cv, ω, s, vs, s1, b, h, h2, ht=>by
    injection ht with ht
    injection ht with e1 e2
    subst e1; subst e2;cases cv with
    |cons _ _=>exact h2.elim
    |nil=>exact⟨ω, Passes.refl h, cC.refl _ _ _ _ _, rfl, (fun c hc=>absurd hc (by simp[dj])), fun _ _ _ _ _=>trivial⟩
  |cs:: aM, c:: cc, [], _, _, _, _, _, _, h2, _=>h2.elim
  |cs:: aM, c:: cc, v:: cv, ω, s, vs, s1, b, h, h2, ht=>by
    simp only[cz]at ht;cases h1:cr cs c s with
    |none=>rw[h1]at ht; cases ht
    |some q=>
      obtain⟨v1, s2⟩:=q;rw[h1]at ht;simp only at ht;cases h3:cz aM cc s2 with
      |none=>rw[h3]at ht; cases ht
      |some q2=>
        obtain⟨vs', s3⟩:=q2;rw[h3]at ht;injection ht with ht
        injection ht with e1 e2
        subst e1; subst e2;obtain⟨bi, p1, g1, t1, x, x1, r1⟩:=jA h h2.1 h1 b;obtain⟨bZ, p2, g2, t2, q2, r2⟩:=oz aM cc cv bi s2 vs' s3 b p1.rel (h2.2.mono fun _ _ hl=>gC.frame p1.ext p1.tr hl) h3;have hlen:v1.length = cs.len:=by rw[<- tA, <- t1]; simp
        have uO:dj (A:=real) (cs:: aM) (v1 ++ vs') = .ro cs x:: dj (A:=real) aM vs':=by simp only[dj];rw[List.take_left' hlen, List.drop_left' hlen, x1]
        refine⟨bZ, p1.trans p2, cC.trans (Nat.le_refl _) (Nat.le_refl _) g1 g2, by simp[t1, t2], ?_, fun oV s4 aI hL hn=>?_⟩
        · rw[uO]
          intro c hc;cases hc with
          |head=>exact⟨cs, x, rfl⟩
          |tail _ hm=>exact q2 c hm
        · rw[uO]
          exact⟨r1 oV s4 aI (g2.later.trans hL) hn, r2 oV s4 aI hL hn⟩
  | [], _:: _, _, _, _, _, _, _, _, _, ht=>by cases ht
  |_:: _, [], _, _, _, _, _, _, _, _, ht=>by cases ht
theorem sN(h:Rel H ω a w s){ks:List K}{id g:Nat}{u:Value}{vs:List (KV real)}{s1:S}(hl:xR ω s u id g 0)(ht:cl (.blk ks) (.one (.ptr id g 0)) s = some (vs, s1))(b:Nat):
    ∃bi m, Passes H ω a w s bi s1 /\ cC w ω s bi s1 m b (b + (ks.length + 1)) /\ vs.map (·.1) = ks /\ ∀bZ s2 aI, dw bi s1 bZ s2 -> fK w bZ aI m -> zp w aI b (.blk ks) vs u:=by
  simp only[cl]at ht;cases hb:dA s id g with
  |none=>rw[hb]at ht; cases ht
  |some ls=>
    rw[hb]at ht;simp only at ht;cases h2:takes ks ls (s.bQ id true .gone)with
    |none=>rw[h2]at ht; cases ht
    |some q=>
      rw[h2]at ht;have ht:=Option.some.inj ht;subst ht;obtain⟨e1, e2⟩:=cZ hb;obtain⟨b', f1, f2⟩:=hl.2 e1 ls e2;obtain⟨b'', arr, T, q1, q2, q3⟩:=h.dB id ls e2;obtain rfl:=h.inj _ _ _ f1 q1;have EA:(s.ob id).o ≠ .gone:=by rw[e2]; exact fun e=>by cases e
      have p0:=Passes.Ag h id;have g0:=pN (lo:=b) h EA;obtain⟨bi, m, p1, g1, t1, _, r1⟩:=gl ks ls arr.toList ω (s.bQ id true .gone) vs s1 (b + 1) p0.rel (q3.mono fun _ _ hl=>cA.frame p0.ext p0.tr hl) h2;refine⟨bi, (id, b):: m, p0.trans p1, ?_, t1, fun bZ s2 aI hL hS=>?_⟩
      · have:=cC.trans (Nat.le_succ _) (Nat.le_add_right _ _) g0 g1
        rwa[show b + 1 + ks.length = b + (ks.length + 1)by omega]at this
      · refine⟨b', arr, T, f2, ?_, q2, r1 bZ s2 aI hL ⟨hS.none, fun i j hm=>hS.own i j (by simp[hm])⟩⟩
        refine hS.own id b (by simp) b' [] (h.dom b' _ f1) ?_;exact((g1.later.trans hL).gone id (by rw[St.aV])).2 b' [] f1
theorem qP:∀(aM:List Cp) (cc:List (df real)) (cv:List Value) (ω:aJ) (s:S) (vs:List (KV real)) (s1:S) (b:Nat), Rel H ω a w s -> bj (fun v c=>gC w ω s v c) cv cc -> cH aM cc s = some (vs, s1) ->
    ∃bi m, Passes H ω a w s bi s1 /\ cC w ω s bi s1 m b (b + s9 aM) /\ vs.map (·.1) = (aM.map Cp.ks).flatten /\ ∀bZ s2 aI, dw bi s1 bZ s2 -> fK w bZ aI m -> tX w aI b aM vs cv
  | [], [], cv, ω, s, vs, s1, b, h, h2, ht=>by
    injection ht with ht
    injection ht with e1 e2
    subst e1; subst e2;cases cv with
    |cons _ _=>exact h2.elim
    |nil=>exact⟨ω, [], Passes.refl h, cC.refl _ _ _ _ _, rfl, fun _ _ _ _ _=>⟨rfl, rfl⟩⟩
  |c:: aM, v:: cc, [], _, _, _, _, _, _, h2, _=>h2.elim
  |c:: aM, v:: cc, u:: cv, ω, s, vs, s1, b, h, h2, ht=>by
    simp only[cH]at ht;cases h1:ff c v s with
    |none=>rw[h1]at ht; cases ht
    |some q=>
      obtain⟨v1, s2⟩:=q;rw[h1]at ht;simp only at ht;cases h3:cH aM cc s2 with
      |none=>rw[h3]at ht; cases ht
      |some q2=>
        obtain⟨vs', s3⟩:=q2;rw[h3]at ht;injection ht with ht
        injection ht with e1 e2
        subst e1; subst e2;have key:∃bi m, Passes H ω a w s bi s2 /\ cC w ω s bi s2 m b (b + c.width) /\ v1.map (·.1) = c.ks /\ ∀bZ s3 aI, dw bi s2 bZ s3 -> fK w bZ aI m -> ∀vs' E6, tX w aI (b + c.width) aM vs' E6 -> tX w aI b (c:: aM) (v1 ++ vs') (u:: E6):=by
          cases c with
          |ro cs=>
            obtain⟨bi, p1, g1, t1, x, x1, r1⟩:=jA h h2.1 (show cr cs v s = some (v1, s2)from h1) b;have hlen:v1.length = cs.len:=by rw[<- tA, <- t1]; simp
            refine⟨bi, [], p1, g1, t1, fun bZ s3 aI hL hS vs' E6 hr=>⟨by rw[List.take_left' hlen]; exact hlen, ?_, ?_⟩⟩
            · rw[List.take_left' hlen]
              exact⟨x, x1, r1 bZ s3 aI hL (fun b hb hn=>hS.none b hb hn)⟩
            · rw[List.drop_left' hlen]
              exact hr
          |mu ks=>
            cases v with
            |ro _ _=>cases h1
            |ptr id g=>
              obtain⟨bi, m, p1, g1, t1, r1⟩:=sN h h2.1 (show cl (.blk ks) (.one (.ptr id g 0)) s = some (v1, s2)from h1) b;have hlen:v1.length = ks.length:=by rw[<- t1]; simp
              refine⟨bi, m, p1, g1, t1, fun bZ s3 aI hL hS vs' E6 hr=>⟨by rw[List.take_left' hlen]; exact hlen, ?_, ?_⟩⟩
              · rw[List.take_left' hlen]
                exact r1 bZ s3 aI hL hS
              · rw[List.drop_left' hlen]
                exact hr
        obtain⟨bi, m1, p1, g1, t1, r1⟩:=key;obtain⟨bZ, m2, p2, g2, t2, r2⟩:=qP aM cc cv bi s2 vs' s3 (b + c.width) p1.rel (h2.2.mono fun _ _ hl=>gC.frame p1.ext p1.tr hl) h3;refine⟨bZ, m1 ++ m2, p1.trans p2, ?_, by simp[t1, t2], fun oV s4 aI hL hS=>?_⟩
        · have:=cC.trans (Nat.le_add_right _ _) (Nat.le_add_right _ _) g1 g2
          rwa[Nat.add_assoc]at this
        · exact r1 oV s4 aI (g2.later.trans hL) hS.left vs' cv (r2 oV s4 aI hL hS.right)
  | [], _:: _, _, _, _, _, _, _, _, _, ht=>by cases ht
  |_:: _, [], _, _, _, _, _, _, _, _, ht=>by cases ht
theorem zi(h:Rel H ω a w s){sh:Sh}{tv:cm}{u:Value}{vs:List (KV real)}{s1:S}(hl:dh H w ω s u tv)(ht:cl sh tv s = some (vs, s1))(b:Nat):
    ∃bi m, Passes H ω a w s bi s1 /\ cC w ω s bi s1 m b (b + sh.width) /\ vs.map (·.1) = sh.ks /\ (sh.eN = true -> m = []) /\ ∀bZ s2 aI, dw bi s1 bZ s2 -> fK w bZ aI m -> zp w aI b sh vs u:=by
  unfold cl at ht;split at ht
  · rename_i cs id g
    obtain⟨bi, p1, g1, t1, x, q1, r1⟩:=jA h (c:=.ptr id g) hl ht b;exact⟨bi, [], p1, g1, t1, fun _=>rfl, fun bZ s2 aI hL hS=>⟨x, q1, r1 bZ s2 aI hL (fun b hb hn=>hS.none b hb hn)⟩⟩
  · rename_i cs cs' x
    obtain⟨bi, p1, g1, t1, x, q1, r1⟩:=jA h (c:=.ro cs' x) hl ht b;exact⟨bi, [], p1, g1, t1, fun _=>rfl, fun bZ s2 aI hL hS=>⟨x, q1, r1 bZ s2 aI hL (fun b hb hn=>hS.none b hb hn)⟩⟩
  · rename_i f aM f' cc
    cases hf:Nat.beq f f' with
    |false=>rw[hf]at ht; cases ht
    |true=>rw[hf]at ht;simp only[cond_true]at ht;have he:=Nat.eq_of_beq_eq_true hf;subst he;obtain⟨cv, e1, h2⟩:=hl;obtain⟨bi, p1, g1, t1, q1, r1⟩:=oz aM cc cv ω s vs s1 b h h2 ht;exact⟨bi, [], p1, g1, t1, fun _=>rfl, fun bZ s2 aI hL hS=>⟨cv, e1, r1 bZ s2 aI hL (fun b hb hn=>hS.none b hb hn), q1⟩⟩
  · rename_i f aM f' cc
    cases hf:Nat.beq f f' with
    |false=>rw[hf]at ht; cases ht
    |true=>rw[hf]at ht;simp only[cond_true]at ht;have he:=Nat.eq_of_beq_eq_true hf;subst he;obtain⟨cv, e1, h2⟩:=hl;obtain⟨bi, m, p1, g1, t1, r1⟩:=qP aM cc cv ω s vs s1 b h h2 ht;exact⟨bi, m, p1, g1, t1, fun e=>(by cases e), fun bZ s2 aI hL hS=>⟨cv, e1, r1 bZ s2 aI hL hS⟩⟩
  · rename_i kk l
    obtain⟨bi, m, p1, g1, t1, n1, r1⟩:=gl [kk] [l] [u] ω s vs s1 b h ⟨hl, trivial⟩ ht;refine⟨bi, m, p1, g1, t1, fun hl=>n1 (fun k hk=>by rw[List.mem_singleton]at hk; subst hk; simpa[Sh.eN] using hl), fun bZ s2 aI hL hS=>?_⟩;have:=r1 bZ s2 aI hL hS;match vs, this with
    | [v], this=>exact⟨v, rfl, this.1⟩
    |_:: _:: _, this=>exact this.2.elim
  · rename_i ks ls
    obtain⟨cells, e1, h2⟩:=hl;obtain⟨bi, m, p1, g1, t1, n1, r1⟩:=gl ks ls cells ω s vs s1 b h h2 ht;exact⟨bi, m, p1, g1, t1, fun hl=>n1 (fun k hk=>by simpa using List.all_eq_true.1 hl k hk), fun bZ s2 aI hL hS=>⟨cells, e1, r1 bZ s2 aI hL hS⟩⟩
  · rename_i ks id g
    obtain⟨bi, m, p1, g1, t1, r1⟩:=sN h hl (show cl (.blk ks) (.one (.ptr id g 0)) s = some (vs, s1)from ht) b;exact⟨bi, m, p1, g1, t1, fun e=>(by cases e), r1⟩
  · cases ht
theorem ic:∀(aW:List Sh) (cg:List cm) (us:List Value) (ω:aJ) (s:S) (vs:List (KV real)) (s1:S) (b:Nat),Rel H ω a w s->bj (dh H w ω s) us cg->bO aW cg s=some (vs,s1) ->
  ∃bi m,Passes H ω a w s bi s1/\cC w ω s bi s1 m b (b+aL aW)/\(aW.all Sh.eN=true->m=[])/\∀bZ s2 aI,dw bi s1 bZ s2->fK w bZ aI m->fJ w aI b aW vs us
 | [],[],us,ω,s,vs,s1,b,h,h2,ht=>by
  injection ht with ht
  injection ht with e1 e2
  subst e1;subst e2;cases us with
  |cons _ _=>exact h2.elim
  |nil=>exact⟨ω,[],Passes.refl h,cC.refl _ _ _ _ _,fun _=>rfl,fun _ _ _ _ _=>⟨rfl,rfl⟩⟩
 |sh::aW,tv::cg,[],_,_,_,_,_,_,h2,_=>h2.elim
 |sh::aW,tv::cg,u::us,ω,s,vs,s1,b,h,h2,ht=>by
  simp only[bO]at ht;cases h1:cl sh tv s with
  |none=>rw[h1]at ht;cases ht
  |some q=>
   obtain⟨v,s2⟩:=q;rw[h1]at ht;simp only at ht;cases h3:bO aW cg s2 with
   |none=>rw[h3]at ht;cases ht
   |some q2=>
    obtain⟨vs',s3⟩:=q2;rw[h3]at ht;injection ht with ht
    injection ht with e1 e2
    subst e1;subst e2;obtain⟨bi,m1,p1,g1,t1,n1,r1⟩:=zi h h2.1 h1 b;obtain⟨bZ,m2,p2,g2,n2,r2⟩:=ic aW cg us bi s2 vs' s3 (b+sh.width) p1.rel (h2.2.mono fun _ _ hl=>dh.frame p1.ext p1.tr hl) h3;have hlen:v.length=sh.ks.length:=by rw[<-t1];simp
    refine⟨bZ,m1++m2,p1.trans p2,?_,fun hl=>by rw[List.all_cons,Bool.and_eq_true]at hl;rw[n1 hl.1,n2 hl.2];rfl,fun oV s4 aI hg hs=>?_⟩
    ·have:=cC.trans (Nat.le_add_right _ _) (Nat.le_add_right _ _) g1 g2;rwa[show b+sh.width+aL aW=b+aL (sh::aW)by simp[aL];omega]at this
    ·refine⟨by rw[List.take_left' hlen];exact hlen,?_,?_⟩
     ·rw[List.take_left' hlen];exact r1 oV s4 aI (g2.later.trans hg) hs.left
     ·rw[List.drop_left' hlen];exact r2 oV s4 aI hg hs.right
 | [],_::_,_,_,_,_,_,_,_,_,ht=>by cases ht
 |_::_,[],_,_,_,_,_,_,_,_,ht=>by cases ht
def aJ.named(ω:aJ)(m:List (Nat×Nat)):aJ:=fun b=>match ω b with
 |none=>none
 |some (i,p)=>if i=0 then some (0,p)else match m.find? (fun q=>q.1==i)with
  |some q=>some (q.2,p)
  |none=>none
theorem qh{m:List (Nat×Nat)}{b:Nat}(h:ω b=none):ω.named m b=none:=by unfold aJ.named;rw[h]
theorem yF{s1:S}{oU:aJ}{s0:S}{m:List (Nat×Nat)}{lo hi:Nat}(hg:cC w oU s0 ω s1 m lo hi){i j b:Nat}{p:List (Nat×Nat)}(hm:(i,j)∈m)(h:ω b=some (i,p)):ω.named m b=some (j,p):=by
 unfold aJ.named;rw[h];simp only;rw[if_neg (hg.nz i j hm)];cases hf:m.find? (fun q=>q.1==i)with
 |none=>have:=List.find?_eq_none.1 hf (i,j) hm;simp at this
 |some q=>obtain⟨i',j'⟩:=q;have h1:=List.find?_some hf;have h2:=List.mem_of_find?_eq_some hf;simp at h1;subst h1;rw[hg.fn i' j j' hm h2]
theorem gY{m:List (Nat×Nat)}{b:Nat}{k:Key}(h:ω.named m b=some k):(k.1=0/\ω b=some k)\/∃i,(i,k.1)∈m/\i≠0/\ω b=some (i,k.2):=by
 unfold aJ.named at h;split at h
 ·cases h
 ·rename_i i p hb;split at h
  ·rename_i h0;injection h with h
   subst h;subst h0;exact .inl ⟨rfl,hb⟩
  ·rename_i h0;split at h
   ·rename_i q hq;injection h with h
    subst h;have h1:=List.find?_some hq;have h2:=List.mem_of_find?_eq_some hq;simp at h1;subst h1;exact .inr ⟨q.1,h2,h0,hb⟩
   ·cases h
theorem u6{m:List (Nat×Nat)}{b:Nat}(h:jV ω b):ω.named m b=ω b:=by
 rcases h with h|⟨q,h⟩
 ·rw[h];exact qh h
 ·unfold aJ.named;rw[h];simp
theorem gO(ω:aJ)(w:World)(m:List (Nat×Nat)):dr ω w (ω.named m) w:=⟨rfl,rfl,rfl,Nat.le_refl _,fun _ _ h=>⟨rfl,u6 h⟩⟩
theorem nI{s1:S}{oU:aJ}{s0:S}{m:List (Nat×Nat)}{lo hi:Nat}(hlo:0<lo)(hg:cC w oU s0 ω s1 m lo hi)(hinj:∀b b' k,ω b=some k->ω b'=some k->b=b')(b b':Nat)(k:Key)(h:ω.named m b=some k)(h':ω.named m b'=some k):b=b':=by
 rcases gY h with ⟨e1,e2⟩|⟨i,e1,e2,e3⟩ <;> rcases gY h' with ⟨f1,f2⟩|⟨i',f1,f2,f3⟩
 ·exact hinj b b' k e2 f2
 ·have:=(hg.mQ _ _ f1).1;omega
 ·have:=(hg.mQ _ _ e1).1;omega
 ·have:=hg.inj i i' k.1 e1 f1;subst this;exact hinj b b' _ e3 f3
theorem nH{m:List (Nat×Nat)}(hd:∀b k,ω b=some k->b<w.heap.size)(b:Nat)(k:Key)(h:ω.named m b=some k):b<w.heap.size:=by rcases gY h with ⟨_,e⟩|⟨_,_,_,e⟩ <;> exact hd b _ e
theorem fo{s1:S}{oU:aJ}{s0:S}{m:List (Nat×Nat)}{lo hi:Nat}(hg:cC w oU s0 ω s1 m lo hi):fK w ω (ω.named m) m:=⟨fun _ _ h=>qh h,fun _ _ hm _ _ _ h=>yF hg hm h⟩
theorem gi:∀(ks:List K) (vs:List (KV real)) (x:fI real ks),kE ks vs=some x->co ks x=vs
 | [],[],x,_=>rfl
 | [],_::_,_,h=>by cases h
 |k::ks,[],_,h=>by cases h
 |k::ks,⟨k',y⟩::vs,x,h=>by
  simp only[kE]at h;split at h
  ·rename_i hb;cases hr:kE ks vs with
   |none=>rw[hr]at h;cases h
   |some z=>rw[hr]at h;have h:=Option.some.inj h;subst h;have hk:=K.eq_of_beq hb;subst hk;simp only[co];rw[gi ks vs z hr]
  ·cases h
end
end Go.R
set_option linter.unusedVariables false
namespace Go.R
section
variable {R:Type} {P:Program} {E:Env} {ω:aJ} {a:Act} {w:World} {s:S} {k:S->Option R} {r:R} {o:Oper} {Q:Exit->Act->World->Prop}
def DZ(p q:fX real):Prop:=q=p\/(q.g=p.g/\p.h<=q.h/\(q.o=.gone\/∃e cs x,q.o=.cB e cs x)/\p.o≠.gone)
def dy(s s':S):Prop:=∀i,DZ (s.ob i) (s'.ob i)
theorem dy.refl(s:S):dy s s:=fun _=>.inl rfl
theorem dy.trans{s s' s'':S}(h:dy s s')(h':dy s' s''):dy s s'':=by
 intro i;rcases h i with h1|⟨h1,h2,h3,h4⟩
 ·have:=h' i;rw[h1]at this;exact this
 ·rcases h' i with k1|⟨k1,k2,k3,k4⟩
  ·rw[k1];exact .inr ⟨h1,h2,h3,h4⟩
  ·exact .inr ⟨k1.trans h1,Nat.le_trans h2 k2,k3,h4⟩
theorem dy.bQ{s:S}{id:Nat}{o:Ob real}(ho:o=.gone\/∃e cs x,o=.cB e cs x)(hs:(s.ob id).o≠.gone):dy s (s.bQ id true o):=by
 intro i;by_cases e:i=id
 ·subst e;rw[St.aV];exact .inr ⟨rfl,Nat.le_succ _,ho,hs⟩
 ·exact .inl (St.bz _ _ _ e)
theorem dy.gone{s s':S}(h:dy s s'){i:Nat}(hg:(s.ob i).o=.gone):(s'.ob i).o=.gone:=by
 rcases h i with h|⟨_,_,_,h⟩
 ·rw[h];exact hg
 ·exact absurd hg h
theorem dy.blk{s s':S}(h:dy s s'){i:Nat}{c:List L}(hb:(s'.ob i).o=.blk c):s'.ob i=s.ob i:=by
 rcases h i with h|⟨_,_,h3,_⟩
 ·exact h
 ·rcases h3 with h3|⟨_,_,_,h3⟩ <;> (rw[hb]at h3;cases h3)
theorem dy.g{s s':S}(h:dy s s')(i:Nat):(s'.ob i).g=(s.ob i).g:=by
 rcases h i with h|⟨h,_⟩
 ·rw[h]
 ·exact h
theorem dy.h{s s':S}(h:dy s s')(i:Nat):(s.ob i).h<=(s'.ob i).h:=by
 rcases h i with h|⟨_,h,_⟩
 ·rw[h];exact Nat.le_refl _
 ·exact h
theorem qo{t:Ty}{l:L}{s:S}{q:real.V t×S}(h:bY (A:=real) false t l s=some q):dy s q.2:=by
 unfold bY at h;split at h
 ·simp only[cond_false]at h;split at h
  ·injection h with h;subst h;exact .refl _
  ·cases h
 ·split at h
  ·injection h with h;subst h;exact .refl _
  ·cases h
 ·split at h
  ·injection h with h;subst h;exact .refl _
  ·cases h
 ·rename_i id g _;cases hb:Nat.beq (s.ob id).g g with
  |false=>rw[hb]at h;cases h
  |true=>
   rw[hb]at h;simp only[cond_true]at h;split at h
   ·rename_i e cs dp x ho;split at h
    ·simp only[cond_false]at h;injection h with h;subst h
     exact .bQ (.inr ⟨_,_,_,rfl⟩) (by rw[ho];exact fun e=>by cases e)
    ·cases h
   ·simp only[cond_false]at h;split at h
    ·injection h with h;subst h;exact .refl _
    ·cases h
   ·cases h
 ·cases h
theorem rM{e:Nat}{cs:aK}{deep:Bool}{l:L}{s:S}{q:real.V (.sl e cs)×S}(h:eJ (A:=real) e cs deep l s=some q):dy s q.2:=by
 unfold eJ at h;split at h
 ·split at h
  ·injection h with h;subst h;exact .refl _
  ·cases h
 ·rename_i id g _;cases hb:Nat.beq (s.ob id).g g <;> rw[hb]at h
  ·cases h
  ·simp only[cond_true]at h;split at h
   ·rename_i e' cs' dp x ho;cases hd:(dp==deep||cs'.plain) <;> rw[hd]at h
    ·cases h
    ·simp only[cond_true]at h;split at h
     ·injection h with h;subst h;exact .bQ (.inl rfl) (by rw[ho];exact fun e=>by cases e)
     ·cases h
   ·cases h
 ·cases h
theorem A1{k:IntKind}{l:L}{s:S}{q:real.V (.sl 0 (aK.mp k))×S}(h:tS (A:=real) k l s=some q):dy s q.2:=by
 unfold tS at h;split at h
 ·rename_i id g;cases hb:Nat.beq (s.ob id).g g <;> rw[hb]at h
  ·cases h
  ·simp only[cond_true]at h;split at h
   ·rename_i k' x ho;split at h
    ·injection h with h;subst h;exact .bQ (.inl rfl) (by rw[ho];exact fun e=>by cases e)
    ·cases h
   ·cases h
 ·cases h
theorem w5{k:K}{l:L}{s:S}{q:KV real×S}(h:cW k l s=some q):dy s q.2:=by
 cases k with
 |val t=>
  simp only[cW]at h;cases h1:bY (A:=real) false t l s with
  |none=>rw[h1]at h;cases h
  |some p=>rw[h1]at h;injection h with h;subst h;exact qo h1
 |arr e cs deep=>
  simp only[cW]at h;cases h1:eJ (A:=real) e cs deep l s with
  |none=>rw[h1]at h;cases h
  |some p=>rw[h1]at h;injection h with h;subst h;exact rM h1
 |mp kk=>
  simp only[cW]at h;cases h1:tS (A:=real) kk l s with
  |none=>rw[h1]at h;cases h
  |some p=>rw[h1]at h;injection h with h;subst h;exact A1 h1
theorem eH:∀ {ks:List K} {ls:List L} {s:S} {q:List (KV real)×S},takes ks ls s=some q->dy s q.2
 | [],[],s,q,h=>by injection h with h;subst h;exact .refl _
 | [],_::_,s,q,h=>by cases h
 |_::_,[],s,q,h=>by cases h
 |k::ks,l::ls,s,q,h=>by
  simp only[takes]at h;cases h1:cW k l s with
  |none=>rw[h1]at h;cases h
  |some p=>
   rw[h1]at h;simp only[]at h;cases h2:takes ks ls p.2 with
   |none=>rw[h2]at h;cases h
   |some p2=>rw[h2]at h;injection h with h;subst h;exact(show dy s p2.2 from(w5 h1).trans (eH h2))
theorem fF{cs:aK}{c:df real}{s:S}{q:List (KV real)×S}(h:cr cs c s=some q):dy s q.2:=by
 unfold cr at h;split at h
 ·split at h
  ·rename_i ls hls;cases h1:takes cs.ks ls s with
   |none=>rw[h1]at h;cases h
   |some p=>
    rw[h1]at h;simp only[]at h;split at h
    ·rename_i id g _ _ _ c hc;injection h with h;subst h;exact(eH h1).trans (.bQ (.inl rfl) (by rw[hc];exact fun e=>by cases e))
    ·cases h
  ·cases h
 ·split at h
  ·injection h with h;subst h;exact .refl _
  ·cases h
theorem lq:∀ {aM:List aK} {cc:List (df real)} {s:S} {q:List (KV real)×S},cz aM cc s=some q->dy s q.2
 | [],[],s,q,h=>by injection h with h;subst h;exact .refl _
 | [],_::_,s,q,h=>by cases h
 |_::_,[],s,q,h=>by cases h
 |cs::nc,c::cc,s,q,h=>by
  simp only[cz]at h;cases h1:cr cs c s with
  |none=>rw[h1]at h;cases h
  |some p=>
   rw[h1]at h;simp only[]at h;cases h2:cz nc cc p.2 with
   |none=>rw[h2]at h;cases h
   |some p2=>rw[h2]at h;injection h with h;subst h;exact(show dy s p2.2 from(fF h1).trans (lq h2))
theorem kA{c:Cp}{v:df real}{s:S}{q:List (KV real)×S}(h:ff c v s=some q):dy s q.2:=by
 unfold ff at h;split at h
 ·exact fF h
 ·split at h
  ·rename_i ls hls;split at h
   ·rename_i h1;injection h with h;subst h
    exact(dy.bQ (.inl rfl) (by rw[(cZ hls).2];exact fun e=>by cases e)).trans (eH h1)
   ·cases h
  ·cases h
 ·cases h
theorem jD:∀ {aM:List Cp} {cc:List (df real)} {s:S} {q:List (KV real)×S},cH aM cc s=some q->dy s q.2
 | [],[],s,q,h=>by injection h with h;subst h;exact .refl _
 | [],_::_,s,q,h=>by cases h
 |_::_,[],s,q,h=>by cases h
 |cs::nc,c::cc,s,q,h=>by
  simp only[cH]at h;cases h1:ff cs c s with
  |none=>rw[h1]at h;cases h
  |some p=>
   rw[h1]at h;simp only[]at h;cases h2:cH nc cc p.2 with
   |none=>rw[h2]at h;cases h
   |some p2=>rw[h2]at h;injection h with h;subst h;exact(show dy s p2.2 from(kA h1).trans (jD h2))
theorem kC{sh:Sh}{v:cm}{s:S}{q:List (KV real)×S}(h:cl sh v s=some q):dy s q.2:=by
 unfold cl at h;split at h
 ·exact fF h
 ·exact fF h
 ·rename_i f aM f' cc;cases hb:Nat.beq f f' <;> rw[hb]at h
  ·cases h
  ·exact lq h
 ·rename_i f aM f' cc;cases hb:Nat.beq f f' <;> rw[hb]at h
  ·cases h
  ·exact jD h
 ·exact eH h
 ·exact eH h
 ·rename_i ks id g;split at h
  ·rename_i ls hls;split at h
   ·rename_i h1;injection h with h;subst h
    exact(dy.bQ (.inl rfl) (by rw[(cZ hls).2];exact fun e=>by cases e)).trans (eH h1)
   ·cases h
  ·cases h
 ·cases h
theorem gL:∀ {aW:List Sh} {vs:List cm} {s:S} {q:List (KV real)×S},bO aW vs s=some q->dy s q.2
 | [],[],s,q,h=>by injection h with h;subst h;exact .refl _
 | [],_::_,s,q,h=>by cases h
 |_::_,[],s,q,h=>by cases h
 |sh::aW,v::vs,s,q,h=>by
  simp only[bO]at h;cases h1:cl sh v s with
  |none=>rw[h1]at h;cases h
  |some p=>
   rw[h1]at h;simp only[]at h;cases h2:bO aW vs p.2 with
   |none=>rw[h2]at h;cases h
   |some p2=>rw[h2]at h;injection h with h;subst h;exact(show dy s p2.2 from(kC h1).trans (gL h2))
theorem CN{deep:Bool}{t:Ty}{l:L}{s:S}{q:real.V t×S}(h:bY (A:=real) deep t l s=some q):dy s q.2:=by
 cases deep with
 |false=>exact qo h
 |true=>
  unfold bY at h;split at h
  ·cases h
  ·split at h
   ·injection h with h;subst h;exact .refl _
   ·cases h
  ·split at h
   ·injection h with h;subst h;exact .refl _
   ·cases h
  ·rename_i id g _;cases hb:Nat.beq (s.ob id).g g with
   |false=>rw[hb]at h;cases h
   |true=>
    rw[hb]at h;simp only[cond_true]at h;split at h
    ·split at h <;> cases h
    ·cases h
    ·cases h
  ·cases h
end
end Go.R
set_option linter.unusedVariables false
namespace Go.R
variable {H:Nat->Value}
open Classical
def DM(w:World)(ω:aJ)(w':World)(aI:aJ)(k k':Key):Prop:=∀b r,b<w.heap.size->ω b=some (k.1,k.2++r)->w'.heap[b]? = w.heap[b]? /\ aI b=some (k'.1,k'.2++r)
theorem DM.inner{w w':World}{ω aI:aJ}{k k':Key}(h:DM w ω w' aI k k')(i j:Nat):DM w ω w' aI (k.1,k.2++[(i,j)]) (k'.1,k'.2++[(i,j)]):=by intro b r hb hk;have:=h b ((i,j)::r) hb (by simpa using hk);simpa using this
mutual
theorem Ty.gp{w w':World}{ω aI:aJ}:∀(t:Ty) (k k':Key) (v:Value) (x:t.T),DM w ω w' aI k k'->t.R w ω (.deep k) v x->t.R w' aI (.deep k') v x
 | .int _,_,_,_,_,_,h=>h
 | .bool,_,_,_,_,_,h=>h
 | .str,_,_,_,_,_,h=>h
 | .sl e cs,k,k',v,x,H,h=>by
  obtain⟨a,n,c,h1,h2,h3,h4,h5⟩:=h;rcases h4 with h4|⟨b,arr,q1,q2,q3,q4⟩
  ·exact⟨a,n,c,h1,h2,h3,.inl h4,fun i ad hi=>absurd hi (by omega)⟩
  ·have hb:=H b [] (bB q2) (by rw[List.append_nil];exact q4);rw[List.append_nil]at hb;refine⟨a,n,c,h1,h2,h3,.inr ⟨b,arr,q1,hb.1.trans q2,q3,hb.2⟩,fun i ad hi ha=>?_⟩;have BA:ad.block=b:=by rw[q1]at ha;injection ha with ha;rw[<-ha]
   exact aK.gp cs (fun j=>(k.1,k.2++[(i,j)])) (fun j=>(k'.1,k'.2++[(i,j)])) _ _ 0 _ (fun j=>H.inner i j) (fun j=>by exact fz (a:=⟨ad.block,_,none⟩) (by simpa[BA] using hb.1)) (h5 i ad hi ha)
theorem aK.gp{w w':World}{ω aI:aJ}:∀(cs:aK) (k k':Nat->Key) (g g':Nat->Option Value) (j:Nat) (x:cs.T),(∀j,DM w ω w' aI (k j) (k' j))->(∀j,g' j=g j)->cs.R w ω (fun j=>.deep (k j)) g j x->cs.R w' aI (fun j=>.deep (k' j)) g' j x
 | .nil,_,_,_,_,_,_,_,_,_=>trivial
 | .cons t ts,k,k',g,g',j,x,H,hg,h=>by obtain⟨⟨v,h1,h2⟩,h3⟩:=h;exact⟨⟨v,(hg j).trans h1,Ty.gp t (k j) (k' j) v _ (H j) h2⟩,aK.gp ts k k' g g' (j+1) _ H hg h3⟩
end
theorem iq{w:World}{ω:aJ}:∀(cs:aK) (md:Nat->Md) (g:Nat->Option Value) (j0:Nat) (y:cs.T),
  cs.R w ω md g j0 y↔∀j t x,cellAt (A:=real) cs y j=some ⟨t,x⟩->∃v,g (j0+j)=some v/\t.R w ω (md (j0+j)) v x
 | .nil,_,_,_,_=>⟨fun _ _ _ _ h=>(nomatch h),fun _=>trivial⟩
 | .cons t ts,md,g,j0,y=>by
  constructor
  ·intro ⟨⟨v,h1,h2⟩,h3⟩ j u x hc;cases j with
   |zero=>have hc:=Option.some.inj hc;cases hc;exact⟨v,h1,h2⟩
   |succ j=>obtain⟨v,q1,q2⟩:=(iq ts md g (j0+1) _).1 h3 j u x hc;rw[show j0+1+j=j0+(j+1)by omega]at q1 q2;exact⟨v,q1,q2⟩
  ·intro h;refine⟨h 0 t _ rfl,(iq ts md g (j0+1) _).2 fun j u x hc=>?_⟩;have:=h (j+1) u x hc;rwa[show j0+(j+1)=j0+1+j by omega]at this
theorem lF:∀(cs:aK) (y y':cs.T) (j:Nat) (q:Sigma real.V),setCell (A:=real) cs y j q=some y'->∀i,cellAt (A:=real) cs y' i=if i=j then some q else cellAt (A:=real) cs y i
 | .nil,_,_,_,_,h=>by cases h
 | .cons t ts,y,y',0,⟨u,v⟩,h=>by
  simp only[setCell]at h;split at h
  ·rename_i hb;have h:=Option.some.inj h;subst h;obtain rfl:=Ty.eq_of_beq hb;intro i;cases i with
   |zero=>simp only[cellAt,if_true];have:real.hd (real.cn (t:=u) (ts:=ts) (real.cast hb v) (real.tl y))=v:=k8 _ _;rw[this]
   |succ i=>rw[if_neg (by omega)];simp only[cellAt];have:real.tl (real.cn (t:=u) (ts:=ts) (real.cast hb v) (real.tl y))=real.tl y:=lu _ _;rw[this]
  ·cases h
 | .cons t ts,y,y',j+1,q,h=>by
  simp only[setCell]at h;cases hs:setCell (A:=real) ts (real.tl y) j q with
  |none=>rw[hs]at h;cases h
  |some z=>
   rw[hs]at h;have h:=Option.some.inj h;subst h;intro i;cases i with
   |zero=>rw[if_neg (by omega)];simp only[cellAt];have:real.hd (real.cn (t:=t) (ts:=ts) (real.hd y) z)=real.hd y:=k8 _ _;rw[this]
   |succ i=>
    simp only[cellAt];have:real.tl (real.cn (t:=t) (ts:=ts) (real.hd y) z)=z:=lu _ _;rw[this,lF ts _ z j q hs i];by_cases e:i=j
    ·rw[if_pos e,if_pos (by omega)]
    ·rw[if_neg e,if_neg (by omega)]
theorem pC:∀(vs:List (KV real)) (cs:aK) (y y':cs.T) (j:Nat),setRow (A:=real) cs y j vs=some y'->∀i,cellAt (A:=real) cs y' i=if j<=i/\i<j+vs.length then(vs[i-j]?).map KV.sig else cellAt (A:=real) cs y i
 | [],cs,y,y',j,h,i=>by have h:=Option.some.inj h;subst h;rw[if_neg (by rintro⟨h1,h2⟩;simp at h2;omega)]
 |v::vs,cs,y,y',j,h,i=>by
  simp only[setRow]at h;cases hs:setCell (A:=real) cs y j v.sig with
  |none=>rw[hs]at h;cases h
  |some z=>
   rw[hs]at h;rw[pC vs cs z y' (j+1) h i,lF cs y z j _ hs i,List.length_cons];by_cases e:i=j
   ·subst e;rw[if_neg (by omega),if_pos rfl,if_pos (by omega),Nat.sub_self];rfl
   ·rw[if_neg e];by_cases e2:j+1<=i/\i<j+1+vs.length
    ·rw[if_pos e2,if_pos (by omega),show i-j=(i-(j+1))+1 by omega];rfl
    ·rw[if_neg e2,if_neg (by omega)]
theorem uz:∀(cs:aK) (vs:List (KV real)) (x:cs.T),qU (A:=real) cs vs=some x->vs.length=cs.len/\∀i,i<cs.len->cellAt (A:=real) cs x i=(vs[i]?).map KV.sig
 | .nil,[],_,_=>⟨rfl,fun i hi=>absurd hi (by simp[aK.len])⟩
 | .nil,_::_,_,h=>by cases h
 | .cons _ _,[],_,h=>by cases h
 | .cons t ts,v::vs,x,h=>by
  simp only[qU]at h;split at h
  ·rename_i hb;cases hr:qU (A:=real) ts vs with
   |none=>rw[hr]at h;cases h
   |some y=>
    rw[hr]at h;have h:=Option.some.inj h;subst h;obtain⟨q1,q2⟩:=uz ts vs y hr;refine⟨by simp[q1,aK.len],fun i hi=>?_⟩;cases i with
    |zero=>simp only[cellAt];have:real.hd (real.cn (t:=t) (ts:=ts) (real.cast hb v.sig.2) y)=real.cast hb v.sig.2:=k8 _ _;rw[this];generalize hq:v.sig=q at hb;obtain⟨u,z⟩:=q;have e:u=t:=Ty.eq_of_beq hb;subst e;simp only[List.getElem?_cons_zero,Option.map_some,hq];rfl
    |succ i=>simp only[cellAt];have:real.tl (real.cn (t:=t) (ts:=ts) (real.cast hb v.sig.2) y)=y:=lu _ _;rw[this,q2 i (by simp[aK.len]at hi;omega)];rfl
  ·cases h
theorem lE:∀(cs:aK) (x:cs.T) (i:Nat) q,cellAt (A:=real) cs x i=some q->i<cs.len
 | .nil,_,_,_,h=>by cases h
 | .cons _ _,_,0,_,_=>by simp[aK.len]
 | .cons _ ts,x,i+1,q,h=>by have:=lE ts _ i q h;simp[aK.len];omega
theorem tY{w w':World}{ω aI:aJ}{b:Nat}{v:KV real}{u:Value}{k:Key}(hv:∀t,v.1=.val t->∀e cs,t≠.sl e cs)(hd:(∀e cs d,v.1=.arr e cs d->d=true)/\∀m,v.1≠.mp m)(H:DM w ω w' aI (b,[]) k)(h:CT w ω b v u):v.sig.1.R w' aI (.deep k) u v.sig.2:=by
 obtain⟨kk,x⟩:=v;cases kk with
 |val t=>exact Ty.fT (hv t rfl) h
 |arr e cs d=>have:=hd.1 e cs d rfl;subst this;exact Ty.gp (.sl e cs) (b,[]) k u x H h
 |mp m=>exact absurd rfl (hd.2 m)
theorem wx:∀(cs:aK) (i:Nat) (k:K),cs.kd[i]? = some k->(∀t,k=.val t->∀e c,t≠.sl e c)/\(∀e c d,k=.arr e c d->d=true)/\∀m,k≠.mp m
 | .nil,i,k,h=>by simp[aK.kd]at h
 | .cons t ts,0,k,h=>by
  cases t <;> (simp only[aK.kd,List.getElem?_cons_zero,Option.some.injEq]at h;subst h)
  ·exact⟨fun t e e' c=>by injection e with e;subst e;exact fun h=>(by cases h),(fun _ _ _ h=>(by cases h)),fun _ h=>(by cases h)⟩
  ·exact⟨fun t e e' c=>by injection e with e;subst e;exact fun h=>(by cases h),(fun _ _ _ h=>(by cases h)),fun _ h=>(by cases h)⟩
  ·exact⟨fun t e e' c=>by injection e with e;subst e;exact fun h=>(by cases h),(fun _ _ _ h=>(by cases h)),fun _ h=>(by cases h)⟩
  ·exact⟨fun t e=>(by cases e),(fun _ _ _ h=>(by injection h with _ _ h;exact h.symm)),fun _ h=>(by cases h)⟩
 | .cons t ts,i+1,k,h=>wx ts i k (by simpa[aK.kd] using h)
theorem AJ:∀cs:aK,cs.kd.length=cs.len
 | .nil=>rfl
 | .cons t ts=>by simp[aK.kd,aK.len,AJ ts]
theorem oY{w:World}{ω:aJ}:∀ {vs:List (KV real)} {us:List Value} {b:Nat},fw w ω b vs us->∀(k:Nat) (v:KV real),vs[k]? = some v->∃u,us[k]? = some u/\CT w ω (b+k) v u
 | [],[],_,_,k,v,h=>by simp at h
 |v0::_,u::_,b,h,0,v,hv=>by simp at hv;subst hv;exact⟨u,rfl,h.1⟩
 |_::vs,_::us,b,h,k+1,v,hv=>by obtain⟨u,q1,q2⟩:=oY h.2 k v (by simpa using hv);exact⟨u,by simpa using q1,by rwa[show b+1+k=b+(k+1)by omega]at q2⟩
 | [],_::_,_,h,_,_,_=>h.elim
 |_::_,[],_,h,_,_,_=>h.elim
theorem wz(i:IV)(j:Nat)(p:jR):bG ((i,j)::p)=(i.i.toNat,j)::bG p:=rfl
theorem oG{i j i' j':Nat}{p r:List (Nat×Nat)}(h:¬(i=i'/\j=j')):¬((i,j)::p <+: (i',j')::r):=by intro ⟨t,e⟩;simp only[List.cons_append,List.cons.injEq,Prod.mk.injEq]at e;exact h e.1
theorem sU{w w':World}{ω aI:aJ}{id:Nat}{c:Cont real}{y:List c.cs.T}:∀(p:jR) (q:List (Nat×Nat)) (e:Nat) (cs:aK) (x x':List cs.T) (v:Value),
  follow 2 e cs x p=some c->putAt (A:=real) c y e cs x p=some x' ->
  (∀b r,b<w.heap.size->ω b=some (id,q++r) -> ¬bG p <+: r->w'.heap[b]? = w.heap[b]? /\ aI b=some (id,q++r)) ->
  (∀u,(Ty.sl c.e c.cs).R w ω (.deep (id,q++bG p)) u c.x->(Ty.sl c.e c.cs).R w' aI (.deep (id,q++bG p)) u y) ->
  (Ty.sl e cs).R w ω (.deep (id,q)) v x->(Ty.sl e cs).R w' aI (.deep (id,q)) v x'
 | [],q,e,cs,x,x',v,hf,hp,H1,H2,h=>by
  have hf:=Option.some.inj hf;subst hf;unfold putAt at hp;simp only[qg]at hp;split at hp
  ·have hp:=Option.some.inj hp;subst hp;have:=H2 v (by rw[show bG []=[]from rfl,List.append_nil];exact h);rw[show bG []=[]from rfl,List.append_nil]at this;exact this
  ·cases hp
 |(i,j)::p,q,e,cs,x,x',v,hf,hp,H1,H2,h=>by
  unfold putAt at hp;simp only[follow]at hf;simp only[qg]at hp;cases hc:cellAt (A:=real) cs (real.get x i) j with
  |none=>rw[hc]at hf;cases hf
  |some z=>
   obtain⟨t,y1⟩:=z;rw[hc]at hf hp;cases t with
   |sl e' cs'=>
    simp only at hf hp;cases hm:qg (A:=real) (fun e' cs' _=>if h:Ty.beq (.sl c.e c.cs) (.sl e' cs')=true then some (real.cast h y)else none) e' cs' y1 p with
    |none=>rw[hm]at hp;cases hp
    |some G9=>
     rw[hm]at hp;simp only at hp;cases hs:setCell (A:=real) cs (real.get x i) j ⟨.sl e' cs',G9⟩with
     |none=>rw[hs]at hp;cases hp
     |some el=>
      rw[hs]at hp;have hp:=Option.some.inj hp;subst hp;rw[wz]at H1 H2;obtain⟨a,n,cp,h1,h2,h3,h4,h5⟩:=h;have hlen:List.length (real.put (e:=e) x i el)=n:=by have:List.length (real.put (e:=e) x i el)=List.length x:=List.length_set;rw[this];exact h2
      rcases h4 with h4|⟨b,arr,q1,q2,q3,q4⟩
      ·exact⟨a,n,cp,h1,hlen,h3,.inl h4,fun i ad hi=>absurd hi (by omega)⟩
      ·have hb:=H1 b [] (bB q2) (by rw[List.append_nil];exact q4) (by simp);rw[List.append_nil]at hb;refine⟨a,n,cp,h1,hlen,h3,.inr ⟨b,arr,q1,hb.1.trans q2,q3,hb.2⟩,fun i' ad hi' ha=>?_⟩;have BA:ad.block=b:=by rw[q1]at ha;injection ha with ha;rw[<-ha]
       have hrow:=h5 i' ad hi' ha;have hcell:∀m,w'.cell? ⟨ad.block,m,none⟩=w.cell? ⟨ad.block,m,none⟩:=fun m=>fz (a:=⟨ad.block,m,none⟩) (by simpa[BA] using hb.1);have other:∀j' t z,cellAt (A:=real) cs (List.getD x i' (lB cs)) j'=some ⟨t,z⟩ -> ¬((i.i).toNat=i'/\j=j')->∃v,w'.cell? ⟨ad.block,ad.off+i'*cs.len+(0+j'),none⟩=some v/\t.R w' aI (.deep (id,q++[(i',0+j')])) v z:=by
        intro j' t z hz hne;obtain⟨u,m1,m2⟩:=(iq cs _ _ 0 _).1 hrow j' t z hz;refine⟨u,(hcell _).trans m1,?_⟩;rw[Nat.zero_add]at m2⊢;refine Ty.gp t (id,q++[(i',j')]) (id,q++[(i',j')]) u z (fun b' r hb' hk=>?_) m2;have hk':ω b'=some (id,q++(i',j')::r):=by simpa using hk
        have:=H1 b' ((i',j')::r) hb' hk' (oG hne);simpa using this
       have oD:List.getD (real.put (e:=e) x i el:List cs.T) i' (lB cs)=if i'=(i.i).toNat then el else List.getD x i' (lB cs):=by
        by_cases hin:(i.i).toNat<List.length x
        ·exact qE x _ _ _ _ hin
        ·have EE:(real.put (e:=e) x i el:List cs.T)=x:=List.set_eq_of_length_le (by show _<=(IV.i i).toNat;omega);have hne:¬i'=(i.i).toNat:=by rw[h2]at hin;omega
         rw[EE];exact(if_neg hne).symm
       rw[oD];refine(iq cs _ _ 0 _).2 fun j' t z hz=>?_;by_cases hi:i'=(i.i).toNat
       ·rw[if_pos hi]at hz;rw[lF cs _ el j _ hs j']at hz;by_cases hj:j'=j
        ·subst hj;rw[if_pos rfl]at hz;have hz:=Option.some.inj hz;cases hz;have eo:cellAt (A:=real) cs (List.getD x i' (lB cs)) j'=some ⟨.sl e' cs',y1⟩:=by rw[hi];exact hc
         obtain⟨u,m1,m2⟩:=(iq cs _ _ 0 _).1 hrow j' _ _ eo;refine⟨u,(hcell _).trans m1,?_⟩;rw[Nat.zero_add]at m2⊢;refine sU p (q++[(i',j')]) e' cs' y1 G9 u hf hm (fun b' r hb' hk hn=>?_) (fun u' oF=>?_) m2
         ·have hk':ω b'=some (id,q++(i',j')::r):=by simpa using hk
          have:=H1 b' ((i',j')::r) hb' hk' (by intro ⟨t,et⟩;simp only[List.cons_append,List.cons.injEq]at et;exact hn ⟨t,et.2⟩);simpa using this
         ·have e1:q++[(i',j')]++bG p=q++((i.i).toNat,j')::bG p:=by rw[hi];simp
          rw[e1]at oF⊢;exact H2 u' oF
        ·rw[if_neg hj]at hz;have BG:cellAt (A:=real) cs (List.getD x i' (lB cs)) j'=some ⟨t,z⟩:=by rw[hi];exact hz
         exact other j' t z BG (fun h=>hj h.2.symm)
       ·rw[if_neg hi]at hz;exact other j' t z hz (fun h=>hi h.1.symm)
   |_=>cases hf
theorem sy{c:Cont real}{y:List c.cs.T}(hy:y.length=List.length c.x):∀(p:jR) (e:Nat) (cs:aK) (x x':List cs.T),follow 2 e cs x p=some c->putAt (A:=real) c y e cs x p=some x'->x'.length=x.length
 | [],e,cs,x,x',hf,hp=>by
  have hf:=Option.some.inj hf;subst hf;unfold putAt at hp;simp only[qg]at hp;split at hp
  ·have hp:=Option.some.inj hp;subst hp;exact hy
  ·cases hp
 |(i,j)::p,e,cs,x,x',hf,hp=>by
  unfold putAt at hp;simp only[qg]at hp;split at hp
  ·split at hp
   ·split at hp
    ·have hp:=Option.some.inj hp;subst hp;exact List.length_set
    ·cases hp
   ·cases hp
  ·cases hp
section
variable {R:Type} {P:Program} {E:Env} {ω:aJ} {a:Act} {w:World} {s:S} {k:S->Option R} {r:R} {o:Oper} {Q:Exit->Act->World->Prop}
theorem Rel.Ad (h:Rel H ω a w s) {aI:aJ} {w':World} {s':S} (he:dr ω w aI w') (hi:∀b b' k,aI b=some k->aI b'=some k->b=b') (hd:∀b k,aI b=some k->b<w'.heap.size)
  (jO:s'.sl=s.sl) (h0:(s'.ob 0).o=.gone) (tr:∀id,Tr w ω s w' aI s' id)
  (hb:∀id cells,(s'.ob id).o=.blk cells->s'.ob id=s.ob id/\∀b,ω b=some (id,[])->w'.heap[b]? = w.heap[b]? /\ aI b=some (id,[])):Rel H aI a w' s' where
 dP:=h.dP.ext he
 inj:=hi
 dom:=hd
 defers:=h.defers
 slots i:=by rw[jO];exact dh.frame he tr (h.slots i)
 dR:=h0
 dB id cells hc:=by obtain⟨q1,q2⟩:=hb id cells hc;rw[q1]at hc;obtain⟨b,arr,T,g1,g2,g3⟩:=h.dB id cells hc;obtain⟨q3,q4⟩:=q2 b g1;exact⟨b,arr,T,q4,q3.trans g2,g3.mono fun _ _ hl=>cA.frame he tr hl⟩
theorem Tr.mA{s':S}{aI:aJ}{w':World}{id:Nat}(hg:(s'.ob id).g=(s.ob id).g)(hh:(s.ob id).h<=(s'.ob id).h)(ho:(s'.ob id).o=.gone):Tr w ω s w' aI s' id where
 ref v g h p hr:=⟨by rw[hg];exact hr.1,by have:=hr.2.1;rw[hg];split at this <;> split <;> omega,fun c hc=>(fS ho hc).elim⟩
 ptr v g off hr:=⟨by rw[hg];exact hr.1,fun _ cells hc=>by rw[ho]at hc;cases hc⟩
 cj v g h p i off hr:=⟨by rw[hg];exact hr.1,by have:=hr.2.1;rw[hg];split at this <;> split <;> omega,fun c hc=>(fS ho hc).elim⟩
 cV v g hr:=hr.shut hg fun k x e=>by rw[ho]at e;cases e
theorem Tr.zN {s':S} {aI:aJ} {w':World} {id e:Nat} {cs:aK} {dp:Bool} {x x':List cs.T} (ho:(s.ob id).o=.arr e cs dp x) (hg:(s'.ob id).g=(s.ob id).g) (hh:(s.ob id).h<(s'.ob id).h) (cU:(s'.ob id).o=.arr e cs dp x') (hl:x'.length=x.length)
  (hroot:∀b,ω b=some (id,[])->aI b=some (id,[]))
  (re:∀v,(Ty.sl e cs).R w ω (bk (bif dp then 2 else 1) id []) v x->(Ty.sl e cs).R w' aI (bk (bif dp then 2 else 1) id []) v x'):Tr w ω s w' aI s' id:=by
 have key:∀(g h:Nat) (p:jR) (c:Cont real),h<=(s.ob id).h+(if g=(s.ob id).g then 0 else h)->s'.cont id g h p=some c->p=[]/\g=(s.ob id).g/\c=⟨e,cs,x',bif dp then 2 else 1⟩:=by
  intro g h p c hle hc;obtain⟨q1,q2⟩:=dF hc;rw[hg]at q1;rw[if_pos q1.symm]at hle;rcases q2 with ⟨CB,f1,f2,f3⟩|⟨_,_,_,_,_,f3,_⟩|⟨f1,_,_⟩
  ·rw[cU]at f1;refine⟨f2,q1.symm,?_⟩;obtain⟨ce,FB,cx,cmd⟩:=c;simp only at f1 f3;injection f1 with g1 g2 g3 g4
   subst g1;subst g2;subst g3;subst f3;have:=eq_of_heq g4;rw[this]
  ·omega
  ·rw[cU]at f1;cases f1
 have hle:∀g h,h<=(s.ob id).h+(if g=(s.ob id).g then 0 else h)->h<=(s'.ob id).h+(if g=(s'.ob id).g then 0 else h):=by intro g h h1;rw[hg];split at h1 <;> split <;> omega
 exact
 {ref:=fun v g h p hr=>⟨by rw[hg];exact hr.1,hle _ _ hr.2.1,fun c hc=>by
   obtain⟨q1,q2,q3⟩:=key g h p c hr.2.1 hc;subst q1;subst q3;exact re v (hr.2.2 _ (cu (h:=h) ho q2))⟩
  ptr:=fun v g off hr=>⟨by rw[hg];exact hr.1,fun _ cells hc=>by rw[cU]at hc;cases hc⟩
  cj:=fun v g h p i off hr=>⟨by rw[hg];exact hr.1,hle _ _ hr.2.1,fun c hc hm=>by obtain⟨q1,q2,q3⟩:=key g h p c hr.2.1 hc;subst q1;subst q3;obtain⟨r1,r2,⟨b,r3,r5⟩,v',r4⟩:=hr.2.2 _ (cu (h:=h) ho q2) (kf dp);refine⟨r1,?_,⟨b,hroot b r3,r5⟩,v',re v' r4⟩;show IV.i i<((x'.length:Nat):Int);rw[hl];exact r2⟩
  cV:=fun v g hr=>hr.shut hg fun k x e=>by rw[cU]at e;cases e }
def aJ.via(ω:aJ)(κ:Key->Option Key):aJ:=fun b=>(ω b).bind κ
theorem kG{κ:Key->Option Key}{b:Nat}{k':Key}(h:ω.via κ b=some k'):∃k,ω b=some k/\κ k=some k':=by
 unfold aJ.via at h;cases hb:ω b with
 |none=>rw[hb]at h;cases h
 |some k=>rw[hb]at h;exact⟨k,rfl,h⟩
theorem Bu{κ:Key->Option Key}{b:Nat}(h:ω b=none):ω.via κ b=none:=by unfold aJ.via;rw[h];rfl
theorem c9{κ:Key->Option Key}{b:Nat}{k:Key}(h:ω b=some k):ω.via κ b=κ k:=by unfold aJ.via;rw[h];rfl
theorem oS{κ:Key->Option Key}(hi:∀b b' k,ω b=some k->ω b'=some k->b=b')(hk:∀k k' q,κ k=some q->κ k'=some q->k=k')(b b':Nat)(k:Key)(h:ω.via κ b=some k)(h':ω.via κ b'=some k):b=b':=by obtain⟨k1,e1,e2⟩:=kG h;obtain⟨k2,e3,e4⟩:=kG h';have:=hk k1 k2 k e2 e4;subst this;exact hi b b' _ e1 e3
theorem oR{κ:Key->Option Key}(hd:∀b k,ω b=some k->b<w.heap.size)(b:Nat)(k:Key)(h:ω.via κ b=some k):b<w.heap.size:=by obtain⟨k1,e1,_⟩:=kG h;exact hd b k1 e1
theorem nT{κ:Key->Option Key}(h0:∀p,κ (0,p)=some (0,p)){b:Nat}(h:jV ω b):ω.via κ b=ω b:=by
 rcases h with h|⟨q,h⟩
 ·rw[h];exact Bu h
 ·rw[c9 h,h,h0]
end
end Go.R
set_option linter.unusedVariables false
namespace Go.R
variable {H:Nat->Value}
open Classical
section
variable {R:Type} {P:Program} {E:Env} {ω:aJ} {a:Act} {w:World} {s:S} {k:S->Option R} {r:R} {o:Oper} {Q:Exit->Act->World->Prop}
theorem lY:∀ {ks:List K} {ls:List L} {s:S} {vs:List (KV real)} {s1:S}, takes ks ls s = some (vs, s1) -> vs.map (·.1) = ks
  | [], [], _, _, _, h=>by injection h with h; injection h with h _; subst h; rfl
  | [], _:: _, _, _, _, h=>by cases h
  |_:: _, [], _, _, _, h=>by cases h
  |k:: ks, l:: ls, s, vs, s1, h=>by
    simp only[takes]at h;cases h1:cW k l s with
    |none=>rw[h1]at h; cases h
    |some p=>
      rw[h1]at h;simp only[]at h;cases h2:takes ks ls p.2 with
      |none=>rw[h2]at h; cases h
      |some p2=>
        rw[h2]at h;injection h with h
        injection h with h _
        subst h;have hk:p.1.1 = k:=by
          cases k with
          |val t=>
            simp only[cW]at h1;cases hp:bY (A:=real) false t l s with
            |none=>rw[hp]at h1; cases h1
            |some q=>rw[hp]at h1; injection h1 with h1; subst h1; rfl
          |arr e cs d=>
            simp only[cW]at h1;cases hp:eJ (A:=real) e cs d l s with
            |none=>rw[hp]at h1; cases h1
            |some q=>rw[hp]at h1; injection h1 with h1; subst h1; rfl
          |mp kk=>
            simp only[cW]at h1;cases hp:tS (A:=real) kk l s with
            |none=>rw[hp]at h1; cases h1
            |some q=>rw[hp]at h1; injection h1 with h1; subst h1; rfl
        simp[hk, lY h2]
def Cx(tp:List (Nat×Nat))(i0 off n:Nat)(p:List (Nat×Nat)):Prop:=∃k r,k<n/\p=tp++(i0,off+k)::r
noncomputable def eX(m:List (Nat×Nat))(lo tid:Nat)(tp:List (Nat×Nat))(i0 off n:Nat):Key->Option Key:=fun k=>
 match m.find? (fun q=>q.1==k.1)with
 |some q=>some (tid,tp++(i0,off+(q.2-lo))::k.2)
 |none=>if k.1=tid/\Cx tp i0 off n k.2 then none else some k
theorem eS{m:List (Nat×Nat)}{i:Nat}{q:Nat×Nat}(h:m.find? (fun q=>q.1==i)=some q):(i,q.2)∈m:=by have h1:=List.find?_some h;have h2:=List.mem_of_find?_eq_some h;simp at h1;rw[<-h1];exact h2
theorem yh{m:List (Nat×Nat)}{i:Nat}(h:m.find? (fun q=>q.1==i)=none)(j:Nat):(i,j)∉m:=by intro hm;have:=List.find?_eq_none.1 h (i,j) hm;simp at this
theorem xo{w0:World}{oU bi:aJ}{s0 s1:S}{m:List (Nat×Nat)}{lo hi:Nat}(hg:cC w0 oU s0 bi s1 m lo hi){i j:Nat}(h:(i,j)∈m):m.find? (fun q=>q.1==i)=some (i,j):=by
 cases hf:m.find? (fun q=>q.1==i)with
 |none=>exact absurd h (yh hf j)
 |some q=>have h2:=eS hf;have h1:=List.find?_some hf;simp at h1;have:=hg.fn i j q.2 h h2;obtain⟨q1,q2⟩:=q;simp only at this h1;rw[this,h1]
theorem Bl{w0:World}{oU bi:aJ}{s0 s1:S}{m:List (Nat×Nat)}{lo n tid:Nat}{tp:List (Nat×Nat)}{i0 off:Nat}(hg:cC w0 oU s0 bi s1 m lo (lo+n))(k k' q:Key)(h:eX m lo tid tp i0 off n k=some q)(h':eX m lo tid tp i0 off n k'=some q):k=k':=by
 unfold eX at h h';cases hf:m.find? (fun q=>q.1==k.1)with
 |some z=>
  rw[hf]at h;have h:=Option.some.inj h;have m1:=eS hf;have r1:=hg.mQ _ _ m1;cases wj:m.find? (fun q=>q.1==k'.1)with
  |some z'=>
   rw[wj]at h';have h':=Option.some.inj h';have m2:=eS wj;have r2:=hg.mQ _ _ m2;rw[<-h']at h;injection h with _ h
   have h:=List.append_cancel_left h;injection h with e1 e2
   injection e1 with _ e1
   have e3:z.2=z'.2:=by omega
   rw[<-e3]at m2;have:=hg.inj _ _ _ m1 m2;exact Prod.ext this e2
  |none=>
   rw[wj]at h';simp only at h';split at h'
   ·cases h'
   ·rename_i hn;have h':=Option.some.inj h';rw[h',<-h]at hn;exact absurd ⟨rfl,z.2-lo,k.2,by omega,rfl⟩ hn
 |none=>
  rw[hf]at h;simp only at h;split at h
  ·cases h
  ·rename_i hn;have h:=Option.some.inj h;cases wj:m.find? (fun q=>q.1==k'.1)with
   |some z'=>rw[wj]at h';have h':=Option.some.inj h';have r2:=hg.mQ _ _ (eS wj);rw[h,<-h']at hn;exact absurd ⟨rfl,z'.2-lo,k'.2,by omega,rfl⟩ hn
   |none=>
    rw[wj]at h';simp only at h';split at h'
    ·cases h'
    ·have h':=Option.some.inj h';rw[h,h']
theorem yL{w0:World}{oU bi:aJ}{s0 s1:S}{m:List (Nat×Nat)}{lo hi n tid:Nat}{tp:List (Nat×Nat)}{i0 off:Nat}(hg:cC w0 oU s0 bi s1 m lo hi)(h0:tid≠0)(p:List (Nat×Nat)):eX m lo tid tp i0 off n (0,p)=some (0,p):=by
 unfold eX;cases hf:m.find? (fun q=>q.1==(0,p).1)with
 |some z=>exact absurd rfl (hg.nz _ _ (eS hf))
 |none=>simp only;rw[if_neg (fun h=>h0 h.1.symm)]
theorem wQ{w0:World}{oU bi:aJ}{s0 s1:S}{m:List (Nat×Nat)}{lo hi n tid:Nat}{tp:List (Nat×Nat)}{i0 off:Nat}(hg:cC w0 oU s0 bi s1 m lo hi){i j:Nat}(h:(i,j)∈m)(p:List (Nat×Nat)):eX m lo tid tp i0 off n (i,p)=some (tid,tp++(i0,off+(j-lo))::p):=by unfold eX;rw[xo hg h]
theorem ja{m:List (Nat×Nat)}{lo n tid:Nat}{tp:List (Nat×Nat)}{i0 off:Nat}{k:Key}(h:∀j,(k.1,j)∉m)(hn:¬(k.1=tid/\Cx tp i0 off n k.2)):eX m lo tid tp i0 off n k=some k:=by
 unfold eX;cases hf:m.find? (fun q=>q.1==k.1)with
 |some z=>exact absurd (eS hf) (h _)
 |none=>simp only;rw[if_neg hn]
theorem Cl{w0:World}{oU:aJ}{s0 s1:S}{m:List (Nat×Nat)}{lo hi n tid:Nat}{tp:List (Nat×Nat)}{i0 off:Nat}(hlo:0<lo)(hg:cC w0 oU s0 ω s1 m lo hi){w':World}(hw:∀i j b p,(i,j)∈m->ω b=some (i,p)->w'.heap[b]? = w.heap[b]?)(c:Nat)(hc:c<n):
  DM w (ω.named m) w' (ω.via (eX m lo tid tp i0 off n)) (lo+c,[]) (tid,tp++[(i0,off+c)]):=by
 intro b r hb hk;rcases gY hk with ⟨e1,e2⟩|⟨i,e1,e2,e3⟩
 ·simp only at e1;omega
 ·simp only[List.nil_append]at e1 e3;refine⟨hw i _ b r e1 e3,?_⟩;rw[c9 e3,wQ hg e1];simp
theorem Cd(cs:aK)(off n:Nat){i:Nat}{k:K}(h:((cs.kd.drop off).take n)[i]? = some k):(∀t,k=.val t->∀e c,t≠.sl e c)/\(∀e c d,k=.arr e c d->d=true)/\∀m,k≠.mp m:=by
 have hlt:i<n:=by have:=(List.getElem?_eq_some_iff.1 h).1;rw[List.length_take]at this;omega
 rw[List.getElem?_take_of_lt hlt,List.getElem?_drop]at h;exact wx cs _ k h
theorem Rel.Gs {oU:aJ} {s0:S} {m:List (Nat×Nat)} {lo n tid e:Nat} {cs:aK} {x x':List cs.T} {tp:List (Nat×Nat)} {i0 off bt:Nat} {w':World} (h:Rel H ω a w s) (hg:cC w oU s0 ω s m lo (lo+n)) (ho:(s.ob tid).o=.arr e cs true x) (hb:ω bt=some (tid,tp)) (hp:nk w w' bt) (hl:x'.length=x.length)
  (re:∀v,(Ty.sl e cs).R w ω (.deep (tid,[])) v x->(Ty.sl e cs).R w' (ω.via (eX m lo tid tp i0 off n)) (.deep (tid,[])) v x'):
  Rel H (ω.via (eX m lo tid tp i0 off n)) a w' (s.bQ tid true (.arr e cs true x'))/\dr ω w (ω.via (eX m lo tid tp i0 off n)) w':=by
 have h0:tid≠0:=h.qj (by rw[ho];exact fun e=>by cases e);have hsrc:∀j,(tid,j)∉m:=fun j hm=>by have:=hg.is tid j hm;rw[ho]at this;cases this
 have he:dr ω w (ω.via (eX m lo tid tp i0 off n)) w':=⟨hp.os,hp.tape,hp.output,by rw[hp.size];exact Nat.le_refl _,fun b hb' hf=>by
  have hne:b≠bt:=fun e=>by subst e;exact hf.ne hb h0
  exact⟨hp.block b hne,nT (yL hg h0) hf⟩⟩
 have hroot:∀b,ω b=some (tid,[])->ω.via (eX m lo tid tp i0 off n) b=some (tid,[]):=by intro b hb';rw[c9 hb',ja hsrc];rintro⟨_,k,r,_,e⟩;simp at e
 have pS:∀j,j≠tid->(∀c,(j,c)∉m)->∀b p,ω b=some (j,p)->w'.heap[b]? = w.heap[b]? /\ ω.via (eX m lo tid tp i0 off n) b=some (j,p):=by
  intro j hj hm b p hb';have hne:b≠bt:=fun e=>by subst e;rw[hb]at hb';injection hb' with hb';injection hb' with hb' _;exact hj hb'.symm
  exact⟨hp.block b hne,by rw[c9 hb',ja hm (fun hq=>hj hq.1)]⟩
 refine⟨h.Ad he (oS h.inj (Bl hg)) (fun b k hk=>by rw[hp.size];exact oR h.dom b k hk) rfl ?_ (fun j=>?_) (fun j cells hc=>?_),he⟩
 ·rw[St.bz _ _ _ (Ne.symm h0)];exact h.dR
 ·by_cases ej:j=tid
  ·subst ej;exact Tr.zN ho (by rw[St.aV]) (by rw[St.aV];exact Nat.lt_succ_self _) (by rw[St.aV]) hl hroot re
  ·by_cases hm:∃c,(j,c)∈m
   ·obtain⟨c,hm⟩:=hm;exact Tr.mA (by rw[St.bz _ _ _ ej]) (by rw[St.bz _ _ _ ej];exact Nat.le_refl _) (by rw[St.bz _ _ _ ej];exact hg.is j c hm)
   ·have hm':∀c,(j,c)∉m:=fun c hc=>hm ⟨c,hc⟩;refine gq.tr ⟨St.bz _ _ _ ej,fun b kk hb' hk hj=>?_⟩ he h.dom;obtain⟨j',p⟩:=kk;simp only at hj;subst hj;rw[hk];exact pS j' ej hm' b p hk
 ·have ej:j≠tid:=fun e=>by subst e;rw[St.aV]at hc;cases hc
  rw[St.bz _ _ _ ej]at hc⊢;have hm':∀c,(j,c)∉m:=fun c hm=>by have:=hg.is j c hm;rw[this]at hc;cases hc
  exact⟨rfl,fun b hb'=>pS j ej hm' b [] hb'⟩
theorem yU (h:Rel H ω a w s) {t:Nat} {I:TypeInfo} (hI:P.info? t=some I) {p v:Value} {ls:List L} {s1:S} {id g hh e:Nat} {cs:aK} {x:List cs.T} {ni:jR} {i:IV} {off:Nat} (hp:cA w ω s p (.cj id g hh ni i off)) (hg:(s.ob id).g=g) (cf:(s.ob id).o=.arr e cs true x)
  (hv:bj (cA w ω s) v.cells.toList ls) (h1:∀u∈v.cells.toList,u.oneCell'=true) (hsz:ls.length=I.size)
  (hs:kz s id hh e cs x ni i off ls=some s1):∃aI w',(Instr.storeAt t p v).run P w=.ok () w'/\Rel H aI a w' s1/\dr ω w aI w':=by
 have jH:v.cells.size=ls.length:=by rw[<-hv.length];simp
 have hvl:v.cells.toList.length=ls.length:=hv.length;unfold kz at hs;cases hb:(ni.isEmpty||Nat.beq (s.ob id).h hh)with
 |false=>rw[hb]at hs;cases hs
 |true=>
  rw[hb]at hs;simp only[cond_true]at hs;cases hf:follow (A:=real) 2 e cs x ni with
  |none=>rw[hf]at hs;cases hs
  |some c=>
   rw[hf]at hs;simp only at hs;cases ht:takes ((c.cs.kd.drop off).take ls.length) ls s with
   |none=>rw[ht]at hs;cases hs
   |some q=>
    obtain⟨vs,s2⟩:=q;rw[ht]at hs;simp only at hs;cases hr:setRow (A:=real) c.cs (real.get c.x i) off vs with
    |none=>rw[hr]at hs;cases hs
    |some el=>
     rw[hr]at hs;simp only at hs;cases hx:putAt (A:=real) c (real.put c.x i el) e cs x ni with
     |none=>rw[hx]at hs;cases hs
     |some x'=>
      rw[hx]at hs;simp only at hs;have jT:c.md=2:=iQ 2 ni e cs x c hf;have EM:=eH ht;have yo:s2.ob id=s.ob id:=by
       rcases EM id with q1|⟨_,_,q3,_⟩
       ·exact q1
       ·exfalso;rcases q3 with q3|⟨_,_,_,q3⟩ <;> (rw[q3]at hs;cases hs)
      rw[yo,cf]at hs;simp only at hs;have hs:=Option.some.inj hs;subst hs;obtain⟨bi,m,p1,g1,t1,_,r1⟩:=gl ((c.cs.kd.drop off).take ls.length) ls v.cells.toList ω s vs s2 1 h hv ht;have xp:s.cont id g hh ni=some c:=by
       unfold St.cont fX.cont;rw[hg,fY,cf];cases ni with
       |nil=>simp only[cond_true];exact hf
       |cons st pt=>
        simp only[cond_true];have:Nat.beq (s.ob id).h hh=true:=by simpa using hb
        rw[this];exact hf
      have C9:s2.cont id g hh ni=some c:=by rw[<-xp];unfold St.cont;rw[yo]
      have hp2:=(p1.tr id).cj p g hh ni i off hp;obtain⟨q1,q2,⟨bt,q3,q4⟩,v',q5⟩:=hp2.2.2 c C9 (by rw[jT];decide);have hi:(IV.i i).toNat<List.length c.x:=by omega
      rw[jT]at q5;have q5:(Ty.sl c.e c.cs).R w bi (.deep (id,bG ni)) v' c.x:=q5;obtain⟨ad,nn,cp,d1,d2,d3,d4,d5⟩:=q5;rcases d4 with d4|⟨b',arr,d6,d7,d8,d9⟩
      ·omega
      obtain rfl:=p1.rel.inj _ _ _ q3 d9;have De:((c.cs.kd.drop off).take ls.length).length=ls.length:=by have hk:=lY ht;rw[<-hk,List.length_map];have:=r1 bi s2 (bi.named m) (dw.refl _ _) (fo g1);rw[this.length,hvl]
      have hfit:ls=[]\/off+ls.length<=c.cs.len:=by
       rw[List.length_take,List.length_drop,AJ]at De;by_cases he:ls=[]
       ·exact .inl he
       ·have:ls.length≠0:=fun e=>he (List.length_eq_zero_iff.1 e);exact .inr (by omega)
      have hbase:(IV.i i).toNat*c.cs.len+c.cs.len<=arr.size:=by rw[d8];have:((IV.i i).toNat+1)*c.cs.len<=cp*c.cs.len:=Nat.mul_le_mul_right _ (by omega);rw[Nat.succ_mul]at this;exact this
      have Dh:∃w' bW,(Instr.storeAt t p v).run P w=.ok () w'/\nk w w' bt/\w'.heap[bt]? = some (.cells bW c.e (0,0))/\bW.size=arr.size /\
        ∀mm,bW[mm]? = if(IV.i i).toNat*c.cs.len+off<=mm/\mm<(IV.i i).toNat*c.cs.len+off+v.cells.toList.length then v.cells.toList[mm-((IV.i i).toNat*c.cs.len+off)]? else arr[mm]?:=by
       by_cases As:ls=[]
       ·subst As;have zu:v.cells.toList=[]:=List.length_eq_zero_iff.1 hvl;refine⟨w,arr,?_,nk.refl w bt,d7,rfl,fun mm=>?_⟩
        ·have Di:v.cells.size=I.size:=by omega
         rw[q4];simp[Instr.storeAt,Instr.sureAddr,storeVar,sizeOf,typeInfo,hI,Di,zu,storeCells]
        ·rw[zu,if_neg (by simp <;> omega)]
       ·have uN:=hfit.resolve_left As;have CG:(IV.i i).toNat*c.cs.len+off+v.cells.toList.length<=arr.size:=by omega
        obtain⟨bW,z1,z2⟩:=ee bt c.e (0,0) v.cells.toList ((IV.i i).toNat*c.cs.len+off) w arr d7 CG;have hrun:=jx (P:=P) hI d7 (v:=v) (off:=(IV.i i).toNat*c.cs.len+off) (by omega) (by simpa using CG) h1;rw[<-q4]at hrun;have hal:arr.toList.length=arr.size:=Array.length_toList;refine⟨_,bW,hrun,dV bt _ _ w,z1,?_,fun mm=>?_⟩
        ·rw[<-Array.length_toList (xs:=bW),z2];simp only[List.length_append,List.length_take,List.length_drop];omega
        ·have wq:(arr.toList.take ((IV.i i).toNat*c.cs.len+off)).length=(IV.i i).toNat*c.cs.len+off:=by rw[List.length_take];omega
         rw[<-Array.getElem?_toList,z2];split
         ·rename_i hm;rw[List.append_assoc,List.getElem?_append_right (by rw[wq];omega),wq,List.getElem?_append_left (by omega)]
         ·rename_i hm;by_cases hlt:mm<(IV.i i).toNat*c.cs.len+off
          ·rw[List.append_assoc,List.getElem?_append_left (by rw[wq];exact hlt),List.getElem?_take_of_lt hlt,Array.getElem?_toList]
          ·rw[List.getElem?_append_right (by rw[List.length_append,wq];omega),List.length_append,wq,List.getElem?_drop,Array.getElem?_toList];congr 1;omega
      obtain⟨w',bW,hrun,hput,rz,pV,oD⟩:=Dh;have uP:(s2.ob id).o=.arr e cs true x:=by rw[yo];exact cf
      have hsrc:∀j,(id,j)∉m:=fun j hm=>by have:=g1.is id j hm;rw[uP]at this;cases this
      have h0:id≠0:=h.qj (by rw[cf];exact fun e=>by cases e);have EL:vs.length=ls.length:=by have:=congrArg List.length t1;rw[List.length_map]at this;rw[this,De]
      have CC:cC w ω s bi s2 m 1 (1+ls.length):=by rwa[De]at g1
      have hkeep:∀b r,bi b=some (id,r) -> ¬bG ni <+: r->w'.heap[b]? = w.heap[b]? /\ bi.via (eX m 1 id (bG ni) (IV.i i).toNat off ls.length) b=some (id,r):=by
       intro b r hb' hn;have hne:b≠bt:=fun e=>by
        subst e;rw[q3]at hb';injection hb' with hb'
        injection hb' with _ hb'
        rw[<-hb']at hn;exact hn (List.prefix_refl _)
       refine⟨hput.block b hne,?_⟩;rw[c9 hb',ja hsrc];rintro⟨_,kk,rr,_,er⟩;simp only at er;exact hn ⟨(_:Nat×Nat)::rr,er.symm⟩
      have B7:=r1 bi s2 (bi.named m) (dw.refl _ _) (fo g1);have Fk:List.length (real.put c.x i el)=List.length c.x:=List.length_set;have Am:∀u,(Ty.sl c.e c.cs).R w bi (.deep (id,bG ni)) u c.x->(Ty.sl c.e c.cs).R w' (bi.via (eX m 1 id (bG ni) (IV.i i).toNat off ls.length)) (.deep (id,bG ni)) u (real.put c.x i el):=by
       intro u hu;obtain⟨xU,n',E5,f1,f2,f3,f4,f5⟩:=hu;rcases f4 with f4|⟨b2,D1,f6,f7,f8,f9⟩
       ·omega
       obtain rfl:=p1.rel.inj _ _ _ q3 f9;rw[d7]at f7;injection f7 with f7
       injection f7 with f7
       subst f7;have BY:bi.via (eX m 1 id (bG ni) (IV.i i).toNat off ls.length) bt=some (id,bG ni):=by rw[c9 q3,ja hsrc];rintro⟨_,kk,rr,_,er⟩;have:=congrArg List.length er;simp at this
       refine⟨xU,n',E5,f1,Fk.trans f2,f3,.inr ⟨bt,bW,f6,rz,by rw[pV];exact f8,BY⟩,fun i' A hi' hA=>?_⟩;have hrow:=f5 i' A hi' hA;rw[f6]at hA;injection hA with hA
       subst hA;simp only[Nat.zero_add]at hrow⊢;have EE:List.getD (real.put c.x i el:List c.cs.T) i' (lB c.cs)=if i'=(IV.i i).toNat then el else List.getD c.x i' (lB c.cs):=qE c.x _ _ _ _ hi
       rw[EE];refine(iq c.cs _ _ 0 _).2 fun j t z hz=>?_;rw[Nat.zero_add];have Iw:=lE _ _ _ _ hz;have old:cellAt (A:=real) c.cs (List.getD c.x i' (lB c.cs)) j=some ⟨t,z⟩ -> ¬(i'=(IV.i i).toNat/\off<=j/\j<off+ls.length)->∃v,w'.cell? ⟨bt,i'*c.cs.len+j,none⟩=some v/\t.R w' (bi.via (eX m 1 id (bG ni) (IV.i i).toNat off ls.length)) (.deep (id,bG ni++[(i',j)])) v z:=by
        intro hz hne;obtain⟨u,m1,m2⟩:=(iq c.cs _ _ 0 _).1 hrow j t z hz;simp only[Nat.zero_add]at m1 m2;refine⟨u,?_,Ty.gp t _ (id,bG ni++[(i',j)]) u z (fun b rr hb' hk=>?_) m2⟩
        ·rw[cell_of_row w bt _ arr c.e (0,0) d7]at m1;rw[cell_of_row w' bt _ bW c.e (0,0) rz,oD,if_neg,m1];rw[hvl];rintro⟨z1,z2⟩;apply hne;have FR:i'=(IV.i i).toNat:=by
          rcases Nat.lt_trichotomy i' (IV.i i).toNat with hlt|heq|hgt
          ·have:(i'+1)*c.cs.len<=(IV.i i).toNat*c.cs.len:=Nat.mul_le_mul_right _ hlt;rw[Nat.succ_mul]at this;omega
          ·exact heq
          ·have:((IV.i i).toNat+1)*c.cs.len<=i'*c.cs.len:=Nat.mul_le_mul_right _ hgt;rw[Nat.succ_mul]at this;rcases hfit with hfit|hfit
           ·rw[hfit]at z2;simp at z2;omega
           ·omega
         subst FR;exact⟨rfl,by omega,by omega⟩
        ·have hk':bi b=some (id,bG ni++(i',j)::rr):=by simpa using hk
         have Df:b≠bt:=fun e=>by
          subst e;rw[q3]at hk';injection hk' with hk'
          injection hk' with _ hk'
          have:=congrArg List.length hk';simp at this
         refine⟨hput.block b Df,?_⟩;rw[c9 hk',ja hsrc]
         ·simp
         ·rintro⟨_,kk,r2,e1,e2⟩;have e2:=List.append_cancel_left e2;injection e2 with e2 _
          injection e2 with e3 e4
          exact hne ⟨e3,by omega,by omega⟩
       by_cases lI:i'=(IV.i i).toNat
       ·rw[if_pos lI]at hz;rw[pC vs c.cs _ el off hr j,EL]at hz;by_cases FX:off<=j/\j<off+ls.length
        ·rw[if_pos FX]at hz;cases Ca:vs[j-off]? with
         |none=>rw[Ca]at hz;cases hz
         |some vv=>
          rw[Ca]at hz;have hz:=Option.some.inj hz;obtain⟨u,u1,u2⟩:=oY B7 _ _ Ca;have hkk:((c.cs.kd.drop off).take ls.length)[j-off]? = some vv.1:=by rw[<-t1,List.getElem?_map,Ca];rfl
          obtain⟨z1,z2⟩:=Cd c.cs off ls.length hkk;have FN:DM w (bi.named m) w' (bi.via (eX m 1 id (bG ni) (IV.i i).toNat off ls.length)) (1+(j-off),[]) (id,bG ni++[((IV.i i).toNat,off+(j-off))]):=by
           refine Cl (by omega) CC (fun ii jj b pp hm hk=>hput.block b fun e=>?_) _ (by omega);subst e;rw[q3]at hk;injection hk with hk
           injection hk with hk _
           subst hk;exact hsrc _ hm
          have gV:=tY z1 z2 FN u2;rw[hz]at gV;rw[show off+(j-off)=j by omega]at gV;refine⟨u,?_,by rw[lI];exact gV⟩;rw[cell_of_row w' bt _ bW c.e (0,0) rz,oD,lI,if_pos (by rw[hvl];omega),<-u1];congr 1;omega
        ·rw[if_neg FX]at hz;exact old (by rw[lI];exact hz) (fun hq=>FX hq.2)
       ·rw[if_neg lI]at hz;exact old hz (fun hq=>lI hq.1)
      obtain⟨hR,hX⟩:=p1.rel.Gs CC uP q3 hput (x':=x') (sy Fk ni e cs x x' hf hx) (i0:=(IV.i i).toNat) (off:=off) (fun u hu=>by refine sU ni [] e cs x x' u hf hx (fun b rr _ hk hn=>hkeep b rr hk hn) (fun u' oF=>Am u' oF) hu);exact⟨_,w',hrun,hR,p1.ext.trans hX⟩
theorem yX (h:Rel H ω a w s) {t:Nat} {I:TypeInfo} (hI:P.info? t=some I) {p v:Value} {l:L} {ls:List L} {s1:S} (hp:cA w ω s p l) (hv:bj (cA w ω s) v.cells.toList ls) (h1:∀u∈v.cells.toList,u.oneCell'=true) (hsz:ls.length=I.size)
  (hs:hY s l ls=some s1):∃aI w',(Instr.storeAt t p v).run P w=.ok () w'/\Rel H aI a w' s1/\dr ω w aI w':=by
 have jH:v.cells.size=ls.length:=by rw[<-hv.length];simp
 cases l with
 |ptr id g off=>
  simp only[hY]at hs;cases hb:dA s id g with
  |none=>rw[hb]at hs;cases hs
  |some cells=>
   rw[hb]at hs;simp only at hs;split at hs
   ·rename_i hle;injection hs with hs
    subst hs;obtain⟨e1,e2⟩:=cZ hb;obtain⟨b,f1,f2⟩:=hp.2 e1 cells e2;obtain⟨b',arr,T,g1,g2,g3⟩:=h.dB id cells e2;obtain rfl:=h.inj _ _ _ f1 g1;subst f2;have hlen:=g3.length;have hal:arr.toList.length=arr.size:=Array.length_toList;have hfit:off+v.cells.size<=arr.size:=by omega
    have uN:off+v.cells.toList.length<=arr.size:=by simpa using hfit
    obtain⟨bW,q1,q2⟩:=ee b T (0,0) v.cells.toList off w arr g2 uN;refine⟨ω,w.setCells b off v.cells.toList,jx hI g2 (by omega) hfit h1,?_,dn (h.qj (by rw[e2];exact fun e=>by cases e)) f1 (dV b _ _ w)⟩;refine h.yY f1 e2 (dV b _ _ w) q1 ?_;rw[q2];have:v.cells.toList.length=ls.length:=hv.length;rw[this];exact((g3.take off).iB hv).iB (g3.drop _)
   ·cases hs
 |cj id g hh ni i off=>
  simp only[hY]at hs;cases hg:Nat.beq (s.ob id).g g with
  |false=>rw[hg]at hs;cases hs
  |true=>
   rw[hg]at hs;simp only[cond_true]at hs;have hge:=Nat.eq_of_beq_eq_true hg;cases cf:(s.ob id).o with
   |arr e cs deep x=>
    rw[cf]at hs;simp only at hs;cases deep with
    |true=>exact yU h hI hp hge cf hv h1 hsz hs
    |false=>
     cases ni with
     |nil=>
      refine yV h hI hp hv h1 hsz hge cf ?_;rw[<-hs];simp only[cond_false];cases bw (A:=real) false cs (real.get x i) off ls s with
      |none=>rfl
      |some q=>cases ho:(q.2.ob id).o <;> simp only[ho]
     |cons _ _=>cases hs
   |cB _ _ _=>rw[cf]at hs;cases hs
   |blk _=>rw[cf]at hs;cases hs
   |gone=>rw[cf]at hs;cases hs
   |mp _ _=>rw[cf]at hs;cases hs
 |_=>cases hs
theorem wZ (hE:cq P E) {t:Nat} {p v:Operand} (ho:o.op=.store t p v) (h:Rel H ω a w s) (hd:∀d,o.dst=some d->d<a.tmps.size) {Φ:bV->Option (Callee real (Option R))}
  (hk:bp E (aP R) Φ o s k=some r):o.wp P a w (Ends H ω a w o.dst k r) Q:=by
 have hp:=bX h E 0 p;have hv:=bX h E t v;unfold bp at hk;simp only[ho]at hk;obtain⟨i,h1,cQ⟩:=aA hk;obtain⟨I,d,ok⟩:=hE.ti _ _ h1;obtain⟨ls,h2,cM⟩:=aA cQ;obtain⟨hc,hone,_⟩:=iN hv h2;cases hb:Nat.beq ls.length i.cs.len with
 |false=>rw[hb]at cM;cases cM
 |true=>
  rw[hb]at cM;simp only[cond_true]at cM;have hl:=Nat.eq_of_beq_eq_true hb;cases hpe:ev E s 0 p with
  |one l=>rw[hpe]at cM hp;obtain⟨s1,h3,th⟩:=aA cM;obtain⟨aI,w',hrun,hR,hX⟩:=yX h ok.info hp hc hone (by rw[hl,ok.size]) h3;exact vG (we ho hrun) (pG hR hX hd th)
  |agg _=>rw[hpe]at cM;cases cM
  |nR _=>rw[hpe]at cM;cases cM
  |GR _ _=>rw[hpe]at cM;cases cM
end
end Go.R
set_option linter.unusedVariables false
namespace Go.R
variable {H:Nat->Value}
open Classical
section
variable {R:Type} {P:Program} {E:Env} {ω:aJ} {a:Act} {w:World} {s:S} {k:S->Option R} {r:R} {o:Oper} {Q:Exit->Act->World->Prop}
noncomputable def aJ.gR(ω:aJ)(κ:Key->Option Key)(d b0:Nat):aJ:=fun b=>if b=b0 then some (d,[])else(ω b).bind κ
theorem jY{κ:Key->Option Key}{d b0 b:Nat}{k:Key}(hb:b≠b0)(h:ω b=some k):ω.gR κ d b0 b=κ k:=by unfold aJ.gR;rw[if_neg hb,h];rfl
theorem Rel.gR (h:Rel H ω a w s) {κ:Key->Option Key} {d b0:Nat} {w':World} {src:Nat->Prop} {ob:Ob real} (cf:∀c,ob≠.blk c) (GK:d≠0) (h0:¬src 0) (ki:∀k k' q,κ k=some q->κ k'=some q->k=k')
  (kn:∀k p,κ k=some (d,p)->p≠[]) (ko:∀i p,¬src i->i≠d->κ (i,p)=some (i,p)) (hs:∀i,src i->(s.ob i).o=.gone)
  (w1:w'.os=w.os/\w'.tape=w.tape/\w'.output=w.output) (w2:w.heap.size<=w'.heap.size) (w3:∀b,b≠b0->b<w.heap.size->w'.heap[b]? = w.heap[b]?) (hb0:b0<w'.heap.size)
  (hb:b0<w.heap.size->∃k,ω b0=some k/\src k.1):Rel H (ω.gR κ d b0) a w' (s.new d ob)/\dr ω w (ω.gR κ d b0) w':=by
 have k0:∀p,κ (0,p)=some (0,p):=fun p=>ko 0 p h0 (Ne.symm GK);have HK:∀b,b<w.heap.size->jV ω b->b≠b0:=by intro b hlt hf e;subst e;obtain⟨k,q1,q2⟩:=hb hlt;refine hf.ne (id:=k.1) (q:=k.2) q1 fun e=>?_;rw[e]at q2;exact h0 q2
 have he:dr ω w (ω.gR κ d b0) w':=⟨w1.1,w1.2.1,w1.2.2,w2,fun b hlt hf=>by
  have hne:=HK b hlt hf;refine⟨w3 b hne hlt,?_⟩;rcases hf with hf|⟨q,hf⟩
  ·unfold aJ.gR;rw[if_neg hne,hf];rfl
  ·rw[jY hne hf,k0,hf]⟩
 have pS:∀j,j≠d -> ¬src j->∀b p,ω b=some (j,p)->w'.heap[b]? = w.heap[b]? /\ ω.gR κ d b0 b=some (j,p):=by
  intro j hj hn b p hk;have hlt:=h.dom b _ hk;have hne:b≠b0:=fun e=>by
   subst e;obtain⟨k,q1,q2⟩:=hb hlt;rw[hk]at q1;injection q1 with q1
   rw[<-q1]at q2;exact hn q2
  exact⟨w3 b hne hlt,by rw[jY hne hk];exact ko j p hn hj⟩
 refine⟨h.Ad he (fun b b' k h1 h2=>?_) (fun b k h1=>?_) rfl ?_ (fun j=>?_) (fun j cells hc=>?_),he⟩
 ·unfold aJ.gR at h1 h2;split at h1 <;> split at h2
  ·rename_i e1 e2;rw[e1,e2]
  ·injection h1 with h1
   subst h1;obtain⟨k1,q1,q2⟩:=kG (ω:=ω) (κ:=κ) h2;exact absurd rfl (kn _ _ q2)
  ·injection h2 with h2
   subst h2;obtain⟨k1,q1,q2⟩:=kG (ω:=ω) (κ:=κ) h1;exact absurd rfl (kn _ _ q2)
  ·exact oS h.inj ki b b' k h1 h2
 ·unfold aJ.gR at h1;split at h1
  ·rename_i e;rw[e];exact hb0
  ·exact Nat.lt_of_lt_of_le (oR (w:=w) (κ:=κ) h.dom b k h1) w2
 ·have:(s.new d ob).ob 0=s.ob 0:=by unfold St.new;exact St.bD _ _ (Ne.symm GK)
  rw[this];exact h.dR
 ·by_cases ej:j=d
  ·subst ej;exact dx.tr (by unfold dx St.new;rw[St.aY];exact Nat.lt_succ_self _)
  ·have pR:(s.new d ob).ob j=s.ob j:=by unfold St.new;exact St.bD _ _ ej
   by_cases hm:src j
   ·exact Tr.mA (by rw[pR]) (by rw[pR];exact Nat.le_refl _) (by rw[pR];exact hs j hm)
   ·refine gq.tr ⟨pR,fun b kk hb' hk hj=>?_⟩ he h.dom;obtain⟨j',p⟩:=kk;simp only at hj;subst hj;rw[hk];exact pS j' ej hm b p hk
 ·by_cases ej:j=d
  ·subst ej;exact absurd (by simpa[St.new,St.aY] using hc) (cf cells)
  ·have pR:(s.new d ob).ob j=s.ob j:=by unfold St.new;exact St.bD _ _ ej
   rw[pR]at hc;have hm:¬src j:=fun hm=>by rw[hs j hm]at hc;cases hc
   exact⟨pR,fun b hk=>pS j ej hm b [] hk⟩
theorem j4 (hE:cq P E) {t n e:Nat} {cs:aK} {parts:Array (Nat × Operand)} (h1:E.mT t = some (e, cs)) (hn:parts.toList.length = n) (b2:iw 0 (parts.toList.map (·.1)) = true) (l8:n * cs.len <= 16777216)
    (e3:∀q ∈ parts.toList.map (·.2), (a.eval q).cells.toList.length = cs.len):
    ∃c8, (Instr.buildSlice t n (parts.map fun(i, q)=>(i, a.eval q))).run P w = .ok (.slice (some ⟨w.heap.size, 0, none⟩) n n) (w.alloc (.cells c8 e)) /\ c8.size = n * cs.len /\
      ∀i q, (parts.toList.map (·.2))[i]? = some q -> ∀j, j<cs.len -> c8[i * cs.len + j]? = (a.eval q).cells.toList[j]? := by
  obtain⟨hu, j, I, d, hj, hcs, ok⟩:=gJ hE h1;obtain⟨z, hz, Cb⟩:=ok.zero;have hsz:I.size = cs.len:=by rw[ok.size, hcs]
  have hparts:(parts.map fun(i, q)=>(i, a.eval q)).toList.map (·.1) = parts.toList.map (·.1):=by simp[Function.comp_def]
  have BF:(parts.map fun(i, q)=>(i, a.eval q)).toList.length = n:=by simpa using hn
  obtain⟨c8, g1, g2⟩:=pJ cs.len #[] (parts.map fun(i, q)=>(i, a.eval q)).toList 0 [] (madeCells z.cells (n * cs.len)) (by rw[hparts]; exact b2) (fun p hp=>by simp only[Array.toList_map, List.mem_map]at hp;obtain⟨⟨i, q⟩, hq, rfl⟩:=hp;exact e3 q (by simp only[List.mem_map]; exact⟨(i, q), hq, rfl⟩)) (by simp) (by rw[size_madeCells, BF, Nat.zero_add]) (by simp);have hrows:(parts.map fun(i, q)=>(i, a.eval q)).toList.map (fun p=>p.2.cells.toList) = (parts.toList.map (·.2)).map fun q=>(a.eval q).cells.toList:=by simp[Function.comp_def]
  rw[List.nil_append, hrows]at g2;have An:c8.size = n * cs.len:=by rw[<- Array.length_toList, g2, nZ cs.len _ (fun l hl=>by simp only[List.mem_map]at hl;obtain⟨q, hq, rfl⟩:=hl;exact e3 q (by simpa using hq))];simp[<- hn]
  refine⟨c8, ?_, An, fun i q hq j hj'=>?_⟩
  · by_cases h0:n * cs.len = 0
    · have oM:n * I.size = 0:=by rw[hsz]; exact h0
      have CC:Instr.fill (fun i=>some (i * I.size, I.size)) #[] (parts.map fun(i, q)=>(i, a.eval q)).toList = some c8:=by rw[hsz];rw[show madeCells z.cells (n * cs.len) = #[]by apply Array.eq_empty_of_size_eq_zero; rw[size_madeCells]; exact h0]at g1;exact g1
      exact oH w t e n _ c8 I hu ok.info oM CC
    · exact run_buildSlice w t e n _ c8 I z hu ok.info hz (by rw[hsz]; omega) (by rw[hsz]; exact h0) (by rw[hsz]; exact g1)
  · have hfl:=flat_get cs.len ((parts.toList.map (·.2)).map fun q=>(a.eval q).cells.toList) (fun l hl=>by
      simp only[List.mem_map]at hl;obtain⟨q', l7, rfl⟩:=hl;exact e3 q' (by simpa using l7)) i j ((a.eval q).cells.toList) (by rw[List.getElem?_map, hq]; rfl) hj'
    rw[<- g2]at hfl;rw[<- hfl, Array.getElem?_toList]
theorem p8(h:Rel H ω a w s){n:Nat}:∀(os:List Operand) (lss:List (List L)),fD E s n os=some lss->lss.length=os.length/\(∀q∈os,(a.eval q).cells.toList.length=n)/\bj (cA w ω s) (os.map fun q=>(a.eval q).cells.toList).flatten lss.flatten/\lss.flatten.length=os.length*n
 | [],lss,hl=>by have hl:=Option.some.inj hl;subst hl;exact⟨rfl,by simp,trivial,by simp⟩
 |q::os,lss,hl=>by
  simp only[fD]at hl;cases hc:cells? s (ev E s 0 q)with
  |none=>rw[hc]at hl;cases hl
  |some ls=>
   cases hr:fD E s n os with
   |none=>rw[hc,hr]at hl;cases hl
   |some r=>
    rw[hc,hr]at hl;simp only at hl;cases hb:Nat.beq ls.length n with
    |false=>rw[hb]at hl;cases hl
    |true=>
     rw[hb]at hl;have hl:=Option.some.inj hl;subst hl;have BA:=Nat.eq_of_beq_eq_true hb;obtain⟨hv,_,_⟩:=iN (bX h E 0 q) hc;obtain⟨q1,q2,q3,q4⟩:=p8 h os r hr;have hlen:(a.eval q).cells.toList.length=n:=by rw[hv.length,BA]
     refine⟨by simp[q1],fun q' l7=>?_,?_,?_⟩
     ·cases l7 with
      |head=>exact hlen
      |tail _ hm=>exact q2 q' hm
     ·simp only[List.map_cons,List.flatten_cons];exact hv.iB q3
     ·simp only[List.flatten_cons,List.length_append,List.length_cons,q4,BA,Nat.succ_mul];omega
theorem xB{e:Nat}{cs:aK}:∀(n:Nat) (vs:List (KV real)) (x0 x:List cs.T),Cf (A:=real) e cs n vs x0=some x->∃els:List cs.T,x=x0++els/\els.length=n/\∀i el,els[i]? = some el->qU (A:=real) cs ((vs.drop (i*cs.len)).take cs.len)=some el
 |0,[],x0,x,h=>by have h:=Option.some.inj h;subst h;exact⟨[],by simp,rfl,fun i el hi=>by cases hi⟩
 |0,_::_,_,_,h=>by cases h
 |n+1,vs,x0,x,h=>by
  simp only[Cf]at h;cases hd:qU (A:=real) cs (vs.take cs.len)with
  |none=>rw[hd]at h;cases h
  |some el=>
   rw[hd]at h;obtain⟨els,e1,e2,e3⟩:=xB n (vs.drop cs.len) (List.append (α:=cs.T) x0 [el]) x h;refine⟨el::els,by rw[e1];exact List.append_assoc x0 [el] els,congrArg Nat.succ e2,fun i E8 hi=>?_⟩;cases i with
   |zero=>have hi:=Option.some.inj hi;subst hi;rw[Nat.zero_mul,List.drop_zero];exact hd
   |succ i=>have:=e3 i E8 hi;rw[List.drop_drop]at this;rwa[show(i+1)*cs.len=cs.len+i*cs.len by rw[Nat.succ_mul];omega]
noncomputable def yw(m:List (Nat×Nat))(len d:Nat):Key->Option Key:=fun k=>
 match m.find? (fun q=>q.1==k.1)with
 |some q=>some (d,((q.2-1) / len,(q.2-1) % len)::k.2)
 |none=>if k.1=d then none else some k
theorem Dp(n:Nat)(cs:aK){lss:List (List L)}(hl:lss.length=n)(i:Nat)(k:K)(h:(lss.map fun _=>cs.kd).flatten[i]? = some k):(∀t,k=.val t->∀e c,t≠.sl e c)/\(∀e c d,k=.arr e c d->d=true)/\∀m,k≠.mp m:=by have hm:=List.mem_of_getElem? h;obtain⟨l,h1,h2⟩:=List.mem_flatten.1 hm;obtain⟨_,_,rfl⟩:=List.mem_map.1 h1;obtain⟨j,hj⟩:=List.mem_iff_getElem?.1 h2;exact wx cs j k hj
theorem oI (hE:cq P E) {t n:Nat} {parts:Array (Nat × Operand)} (ho:o.op = .buildSlice t n parts) (h:Rel H ω a w s) (hd:∀d, o.dst = some d -> d<a.tmps.size) {Φ:bV -> Option (Callee real (Option R))}
    (hk:bp E (aP R) Φ o s k = some r):o.wp P a w (Ends H ω a w o.dst k r) Q:=by
  unfold bp at hk;simp only[ho]at hk;obtain⟨⟨e, cs⟩, h1, hk⟩:=aA hk;cases hb:(Nat.beq parts.toList.length n&&iw 0 (parts.toList.map (·.1))&&decide (n * cs.len <= 16777216))with
  |false=>simp only[hb]at hk; cases hk
  |true=>
    simp only[hb, cond_true]at hk;rw[Bool.and_eq_true, Bool.and_eq_true]at hb;obtain⟨⟨b1, b2⟩, b3⟩:=hb;have hn:=Nat.eq_of_beq_eq_true b1;have l8:=of_decide_eq_true b3;have fin:∀ {c8:Array Value}, (Instr.buildSlice t n (parts.map fun(i, q)=>(i, a.eval q))).run P w = .ok (.slice (some ⟨w.heap.size, 0, none⟩) n n) (w.alloc (.cells c8 e)) -> Ends H ω a w o.dst k r (a.put o.dst (.slice (some ⟨w.heap.size, 0, none⟩) n n)) (w.alloc (.cells c8 e)) -> o.wp P a w (Ends H ω a w o.dst k r) Q:=by intro c8 hrun oc;refine fg (v:=.slice (some ⟨w.heap.size, 0, none⟩) n n) (w':=w.alloc (.cells c8 e)) ?_ oc;unfold execOp;simp only[ho];rw[Sem.run_bind, hrun];rfl
    cases xq:E.deep (o.dst.getD 0)with
    |false=>
      rw[xq]at hk;simp only[cond_false]at hk;obtain⟨⟨x, s2⟩, h2, hk⟩:=aA hk;obtain⟨bZ, p2, els, e1, e2, e3, e4⟩:=sn (parts.toList.map (·.2)) ([]:List cs.T) ω s x s2 h (Passes.refl h) h2;have hx:x = els:=by rw[e1]; rfl
      subst hx;have EN:List.length x = n:=by have:List.length x = (parts.toList.map (·.2)).length:=e2;rw[this, List.length_map, hn]
      obtain⟨c8, hrun, An, hfl⟩:=j4 (w:=w) hE h1 hn b2 l8 e3;refine fin hrun ?_;have hnew:=tF (o:=o) (r:=r) (k:=k) (ω:=ω) (w:=w) (dp:=false) (id:=aZ (o.dst.getD 0) 0 0) (e:=e) (cs:=cs) (x:=x) (arr:=c8) (c:=n) p2.rel p2.ext hd (dm _ _ _) (by rw[EN]; exact Nat.le_refl _) An (fun i hi=>by obtain⟨q, hq⟩:=js (l:=parts.toList.map (·.2)) (i:=i) (by rw[<- e2]; exact hi);obtain⟨el, hel⟩:=js hi;rw[getD_some hel];have hrow:=e4 i el q hel hq;have hg:=eO.alloc w (.cells c8 e);have hfr:=aK.cG hg.size cs (fun _=>.cB) _ _ 0 _ (fun _=>(ed (ω:=bZ) (id:=aZ (o.dst.getD 0) 0 0) (dm _ _ _) hg (Nat.le_refl _)).keeps) (fun _=>rfl) hrow;refine aK.fy cs _ _ _ 0 _ (fun j hj'=>?_) hfr;rw[Nat.zero_add];exact hfl i q hq j hj') hk;rw[EN]at hnew;exact hnew
    |true=>
      rw[xq]at hk;simp only[cond_true]at hk;obtain⟨lss, h2, hk⟩:=aA hk;obtain⟨⟨vs, s2⟩, h3, hk⟩:=aA hk;obtain⟨x, h4, hk⟩:=aA hk;obtain⟨l1, l2, l3, l4⟩:=p8 h _ _ h2;obtain⟨els, e1, e2, e3⟩:=xB n vs [] x h4;have hx:x = els:=by rw[e1]; rfl
      subst hx;obtain⟨c8, hrun, An, hfl⟩:=j4 (w:=w) hE h1 hn b2 l8 l2;refine fin hrun ?_;obtain⟨bi, m, p1, g1, t1, _, r1⟩:=gl _ _ _ ω s vs s2 1 h l3 h3;have B7:=r1 bi s2 (bi.named m) (dw.refl _ _) (fo g1);have hnl:(parts.toList.map (·.2)).length = n:=by rw[List.length_map, hn]
      have hvl:vs.length = n * cs.len:=by rw[B7.length, l3.length, l4, hnl]
      have hks:((lss.map fun _=>cs.kd).flatten).length = n * cs.len:=by rw[<- t1, List.length_map, hvl]
      have CC:cC w ω s bi s2 m 1 (1 + n * cs.len):=by rwa[hks]at g1
      have h0:=dm (o.dst.getD 0) 0 0;generalize GL:aZ (o.dst.getD 0) 0 0 = d at hk h0;have hg:=eO.alloc w (.cells c8 e);have hlt:w.heap.size<(w.alloc (.cells c8 e)).heap.size:=by rw[fO]; omega
      have hfn:∀ {i:Nat} {q:Nat × Nat}, m.find? (fun q=>q.1==i) = some q -> 1 <= q.2 /\ q.2<1 + n * cs.len:=fun hf=>CC.mQ _ _ (eS hf);obtain⟨hR, hX⟩:=p1.rel.gR (κ:=yw m cs.len d) (d:=d) (b0:=w.heap.size) (w':=w.alloc (.cells c8 e)) (src:=fun i=>∃j, (i, j) ∈ m) (ob:=.arr e cs true x) (fun c e=>by cases e) h0 (fun⟨j, hj⟩=>g1.nz _ _ hj rfl)
        (fun k k' q cQ cM=>by
          unfold yw at cQ cM;cases hf:m.find? (fun q=>q.1==k.1)with
          |some z=>
            rw[hf]at cQ;have cQ:=Option.some.inj cQ;cases wj:m.find? (fun q=>q.1==k'.1)with
            |some z'=>
              rw[wj]at cM;have cM:=Option.some.inj cM;rw[<- cM]at cQ;injection cQ with _ e5
              injection e5 with e5 e6
              injection e5 with e5 e7
              have r1:=hfn hf;have r2:=hfn wj;have:z.2 = z'.2:=by have d1:=Nat.div_add_mod (z.2-1) cs.len;have d2:=Nat.div_add_mod (z'.2-1) cs.len;rw[e5, e7]at d1;omega
              have m1:=eS hf;rw[this]at m1;exact Prod.ext (g1.inj _ _ _ m1 (eS wj)) e6
            |none=>
              rw[wj]at cM;simp only at cM;split at cM
              · cases cM
              · rename_i hn
                have cM:=Option.some.inj cM;rw[cM, <- cQ]at hn;exact absurd rfl hn
          |none=>
            rw[hf]at cQ;simp only at cQ;split at cQ
            · cases cQ
            · rename_i hn
              have cQ:=Option.some.inj cQ;cases wj:m.find? (fun q=>q.1==k'.1)with
              |some z'=>rw[wj]at cM;have cM:=Option.some.inj cM;rw[cQ, <- cM]at hn;exact absurd rfl hn
              |none=>
                rw[wj]at cM;simp only at cM;split at cM
                · cases cM
                · have cM:=Option.some.inj cM
                  rw[cQ, cM])
        (fun k p cQ=>by
          unfold yw at cQ;cases hf:m.find? (fun q=>q.1==k.1)with
          |some z=>
            rw[hf]at cQ;have cQ:=Option.some.inj cQ;injection cQ with _ cQ
            rw[<- cQ];exact fun e=>by cases e
          |none=>
            rw[hf]at cQ;simp only at cQ;split at cQ
            · cases cQ
            · rename_i hn
              have cQ:=Option.some.inj cQ;rw[cQ]at hn;exact absurd rfl hn)
        (fun i p hi hid=>by
          unfold yw;cases hf:m.find? (fun q=>q.1==(i, p).1)with
          |some z=>exact absurd ⟨_, eS hf⟩ hi
          |none=>simp only; rw[if_neg hid])
        (fun i ⟨j, hj⟩=>g1.is i j hj) ⟨rfl, rfl, rfl⟩ hg.size (fun b _ hb=>hg.block b hb) hlt (fun hb=>absurd hb (Nat.lt_irrefl _))
      have EN:List.length x = n:=e2;refine gS (dp:=true) hR (p1.ext.trans hX) hd ?_ hk;refine⟨some ⟨w.heap.size, 0, none⟩, n, n, rfl, EN, Nat.le_refl _, .inr ⟨w.heap.size, c8, rfl, heap_alloc_new w _, An, by unfold aJ.gR; rw[if_pos rfl]; rfl⟩, fun i A hi hA=>?_⟩;injection hA with hA
      subst hA;obtain⟨q, hq⟩:=js (l:=parts.toList.map (·.2)) (i:=i) (by rw[hnl]; exact hi);obtain⟨el, hel⟩:=js (l:=x) (i:=i) (by rw[EN]; exact hi);rw[getD_some hel];have hD:=e3 i el hel;refine(iq cs _ _ 0 _).2 fun j t z hz=>?_;have hj:=lE _ _ _ _ hz;obtain⟨_, c2⟩:=uz cs _ _ hD;rw[c2 j hj, List.getElem?_take_of_lt hj, List.getElem?_drop]at hz;cases Ca:vs[i * cs.len + j]? with
      |none=>rw[Ca]at hz; cases hz
      |some vv=>
        rw[Ca]at hz;have hz:=Option.some.inj hz;obtain⟨u, u1, u2⟩:=oY B7 _ _ Ca;have hkk:((lss.map fun _=>cs.kd).flatten)[i * cs.len + j]? = some vv.1:=by rw[<- t1, List.getElem?_map, Ca]; rfl
        obtain⟨z1, z2⟩:=Dp n cs (by rw[l1, hnl]) _ _ hkk;have HH:i * cs.len + j<n * cs.len:=hJ hi hj (Nat.le_refl _);have FN:DM w (bi.named m) (w.alloc (.cells c8 e)) (bi.gR (yw m cs.len d) d w.heap.size) (1 + (i * cs.len + j), []) (d, [(i, j)]):=by
          intro b rr hb cQ;have hne:b ≠ w.heap.size:=by omega
          refine⟨hg.block b hb, ?_⟩;rcases gY cQ with ⟨f1, _⟩|⟨ii, f1, f2, f3⟩
          · simp only at f1; omega
          · simp only[List.nil_append]at f1 f3
            rw[jY hne f3];unfold yw;rw[xo g1 f1];simp only[List.cons_append, List.nil_append];have hpos:0<cs.len:=by omega
            rw[show 1 + (i * cs.len + j)-1 = j + cs.len * i by rw[Nat.mul_comm]; omega, Nat.add_mul_div_left _ _ hpos, Nat.add_mul_mod_self_left, Nat.div_eq_of_lt hj, Nat.mod_eq_of_lt hj, Nat.zero_add]
        have gV:=tY z1 z2 FN u2;rw[hz]at gV;refine⟨u, ?_, by rw[Nat.zero_add]; exact gV⟩;simp only[Nat.zero_add];rw[cell_of_row _ w.heap.size _ c8 e (0, 0) (heap_alloc_new w _), hfl i q hq j hj];have hfg:=flat_get cs.len ((parts.toList.map (·.2)).map fun q=>(a.eval q).cells.toList) (fun l hl=>by simp only[List.mem_map]at hl;obtain⟨q', l7, rfl⟩:=hl;exact l2 q' (by simpa using l7)) i j ((a.eval q).cells.toList) (by rw[List.getElem?_map, hq]; rfl) hj;rw[<- hfg];exact u1
end
end Go.R

