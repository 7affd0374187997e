import Derived.Test.YtalncjeiapbcfaaGreatRB
import Derived.MapKept
import Derived.Tactics
/- An abstract interpreter over the code of Go functions, proved sound once: what it answers, the code computes. Conditions: none. -/
set_option autoImplicit false
set_option linter.unusedVariables false
set_option linter.unusedSimpArgs false
set_option maxRecDepth 4000
set_option linter.unusedVariables false
namespace Go.R
open Classical
section
variable {R:Type} {P:Program} {E:Env} {ω:aK} {a:Act} {w:World} {s:S} {k:S->Option R} {r:R} {o:Oper} {Q:Exit->Act->World->Prop}
theorem vo {B:Nat->Prop} {t t' e:Nat} {cs:aJ} {n m:Nat} {vx vy:Value} {I:TypeInfo} {z:Value} (hu:P.underlying t=some (.slice e)) (hie:P.info? e=some I) (hz:I.zero=some z) (hsz:I.size=cs.len) (hzs:z.cells.size=cs.len) (hby:I.bytes<=65536)
  (hx:(∃ad,vx=.slice ad 0 0/\n=0)\/∃b c arr,vx=.slice (some ⟨b,0,none⟩) n c/\n<=c/\w.heap[b]? = some (.cells arr e (0,0))/\arr.size=c*cs.len/\B b)
  {news:List Value} (hsrc:Src P I.size t' vy m news w) (lS:((n+m:Nat):Int)<=1073741824) (ty:Nat):
  ∃v w',(Builtin.append_ #[t,t'] ty #[vx,vy]).run P w=.ok v w'/\((∃ad,v=.slice ad 0 0/\w'=w/\n=0/\m=0) \/
   ∃b0 c' bS olds,v=.slice (some ⟨b0,0,none⟩) (n+m) c'/\n+m<=c'/\w'.heap[b0]? = some (.cells bS e (0,0))/\bS.size=c'*cs.len/\olds.length=n*cs.len/\(∀j,j<(n+m)*cs.len->bS[j]? = (olds++news)[j]?) /\
    (∀b c,vx=.slice (some ⟨b,0,none⟩) n c->∀j,j<n*cs.len->olds[j]? = w.cell? ⟨b,j,none⟩)/\(w'.os=w.os/\w'.tape=w.tape/\w'.output=w.output)/\w.heap.size<=w'.heap.size/\(∀b,b≠b0->b<w.heap.size->w'.heap[b]? = w.heap[b]?)/\b0<w'.heap.size /\
    (b0<w.heap.size->B b0)):=by
 have hnl:news.length=m*cs.len:=by rw[hsrc.newsLen,hsz]
 have grow:∀(base:Option Addr) (c:Nat) (olds:List Value),vx=.slice base n c->c<n+m->olds.length=n*cs.len->(Builtin.firstCells I.size n (.slice base n c)).run P w.drew=.ok olds.toArray w.drew ->
   (∀b c,vx=.slice (some ⟨b,0,none⟩) n c->∀j,j<n*cs.len->olds[j]? = w.cell? ⟨b,j,none⟩)->∃v w',(Builtin.append_ #[t,t'] ty #[vx,vy]).run P w=.ok v w'/\∃b0 c' bS olds,v=.slice (some ⟨b0,0,none⟩) (n+m) c'/\n+m<=c'/\w'.heap[b0]? = some (.cells bS e (0,0))/\bS.size=c'*cs.len/\olds.length=n*cs.len/\(∀j,j<(n+m)*cs.len->bS[j]? = (olds++news)[j]?) /\
    (∀b c,vx=.slice (some ⟨b,0,none⟩) n c->∀j,j<n*cs.len->olds[j]? = w.cell? ⟨b,j,none⟩)/\(w'.os=w.os/\w'.tape=w.tape/\w'.output=w.output)/\w.heap.size<=w'.heap.size/\(∀b,b≠b0->b<w.heap.size->w'.heap[b]? = w.heap[b]?)/\b0<w'.heap.size /\
    (b0<w.heap.size->B b0):=by
  intro base c olds hv hc mQ Fj hcell;have hfit:Builtin.nextslicecap (n+m) c*I.bytes<=281474976710656:=by
   refine growslice_fits hc ?_;have h1:(n+m)*I.bytes<=(n+m)*65536:=Nat.mul_le_mul_left _ hby;have h2:n+m<=1073741824:=by omega
   omega
  have hrun:=run_append_grow_src (P:=P) w t t' ty e I z hu hie hz base n c olds Fj vy m news hsrc hc (by omega) hfit;rw[<-hv]at hrun;have hge:=grownCap_ge w (n+m) c e;have hG:eL w (w.drew.alloc (.cells ((olds++news).toArray++Builtin.zeroCells z.cells (grownCap w (n+m) c e-(n+m))) e)):=(eL.drew w).trans (eL.alloc w.drew _);refine⟨_,_,hrun,w.heap.size,_,(olds++news).toArray++Builtin.zeroCells z.cells (grownCap w (n+m) c e-(n+m)),olds,rfl,hge,heap_alloc_new w.drew _,?_,mQ,fun j hj=>?_,hcell,⟨hG.os,hG.tape,hG.output⟩,hG.size,fun b _ hb=>hG.block b hb,?_,fun hb=>absurd hb (Nat.lt_irrefl _)⟩
  ·have h1:(Builtin.zeroCells z.cells (grownCap w (n+m) c e-(n+m))).size=(grownCap w (n+m) c e-(n+m))*cs.len:=by simp[Builtin.zeroCells,hzs]
   rw[Array.size_append,h1,List.size_toArray,List.length_append,mQ,hnl,<-Nat.add_mul,<-Nat.add_mul];congr 1;omega
  ·have hlt:j<(olds++news).toArray.size:=by rw[List.size_toArray,List.length_append,mQ,hnl,<-Nat.add_mul];exact hj
   rw[Array.getElem?_append_left hlt,List.getElem?_toArray]
  ·rw[fK];exact Nat.lt_succ_self _
 rcases hx with ⟨ad,hv,rfl⟩|⟨b,c,arr,hv,hn,hh,vI,hB⟩
 ·by_cases h0:m=0
  ·subst h0;have D2:news=[]:=List.length_eq_zero_iff.1 (by rw[hnl];simp);subst D2;refine⟨.slice ad 0 0,w,?_,.inl ⟨ad,rfl,rfl,rfl,rfl⟩⟩;subst hv;have hlen:∀w':World,(Builtin.lenOf vy).run P w'=.ok 0 w':=hsrc.len;have zH:(Builtin.firstCells I.size 0 vy).run P w=.ok #[] w:=hsrc.cells;rcases hsrc.kind with ⟨e',hk'⟩|hk'
   ·cases ad <;> simp[Builtin.append_,run_underlying hu,run_underlying hk',sizeOf,typeInfo,hie,hlen,zH,storeCells]
   ·cases ad <;> simp[Builtin.append_,run_underlying hu,run_underlying hk',sizeOf,typeInfo,hie,hlen,zH,storeCells]
  ·obtain⟨v,w',q1,q2⟩:=grow ad 0 [] hv (by omega) (by simp) (by
    cases ad with
    |none=>rfl
    |some A=>exact run_firstCells_some w.drew I.size 0 A 0 0 [] (by simp) (by simp)) (fun _ _ _ j hj=>by simp at hj)
   exact⟨v,w',q1,.inr q2⟩
 ·have A6:arr.toList.length=c*cs.len:=(Array.length_toList (xs:=arr)).trans vI;have hmin:min (n*cs.len) (c*cs.len)=n*cs.len:=Nat.min_eq_left (Nat.mul_le_mul_right _ hn);have ju:∀j,w.cell? ⟨b,j,none⟩=arr[j]?:=fun j=>cell_of_row w b j arr e (0,0) hh;have hold:∀b' c',vx=.slice (some ⟨b',0,none⟩) n c'->∀j,j<n*cs.len->(arr.toList.take (n*cs.len))[j]? = w.cell? ⟨b',j,none⟩:=by
   intro b' c' fH j hj;rw[hv]at fH;injection fH with fH _ _
   injection fH with fH
   injection fH with fH
   subst fH;rw[ju,List.getElem?_take_of_lt hj,Array.getElem?_toList]
  by_cases hroom:n+m<=c
  ·have hfit:n*cs.len+news.length<=arr.size:=by rw[hnl,vI,<-Nat.add_mul];exact Nat.mul_le_mul_right _ hroom
   have hrun:=run_append_room_src (P:=P) w t t' ty e I hu hie b 0 n c vy m news hsrc hroom
    (fun j hj=>by rw[hsz,Nat.zero_add,ju];simp;omega)
    (fun j hj=>by simp[World.frozen?,hh])
   rw[hsz,Nat.zero_add]at hrun;rw[<-hv]at hrun;obtain⟨bS,g1,g2⟩:=dW b e (0,0) news (n*cs.len) w arr hh hfit;have hp:=dQ b news (n*cs.len) w;have mQ:(arr.toList.take (n*cs.len)).length=n*cs.len:=by rw[List.length_take,A6];exact hmin
   refine⟨_,_,hrun,.inr ⟨b,c,bS,arr.toList.take (n*cs.len),rfl,hroom,g1,?_,mQ,fun j hj=>?_,hold,⟨hp.os,hp.tape,hp.output⟩,by rw[hp.size];exact Nat.le_refl _,fun b' hb' _=>hp.block b' hb',by rw[hp.size];exact bz hh,fun _=>hB⟩⟩
   ·rw[<-Array.length_toList,g2];simp only[List.length_append,List.length_take,List.length_drop,Array.length_toList];omega
   ·have hlt:j<(arr.toList.take (n*cs.len)++news).length:=by rw[List.length_append,mQ,hnl,<-Nat.add_mul];exact hj
    rw[<-Array.getElem?_toList,g2,List.getElem?_append_left hlt]
  ·obtain⟨v,w',q1,q2⟩:=grow (some ⟨b,0,none⟩) c (arr.toList.take (n*cs.len)) hv (by omega) (by rw[List.length_take,A6];exact hmin) (by
    refine run_firstCells_some w.drew I.size n ⟨b,0,none⟩ n c _ ?_ ?_
    ·rw[List.length_take,A6,hsz];exact hmin
    ·intro j u hu;have hj:j<n*cs.len:=by have:=(List.getElem?_eq_some_iff.1 hu).1;rw[List.length_take]at this;omega
     rw[List.getElem?_take_of_lt hj,Array.getElem?_toList]at hu;rw[Addr.add_mid,Nat.zero_add,<-hu];exact cell_of_row w.drew b j arr e (0,0) hh) hold
   exact⟨v,w',q1,.inr q2⟩
inductive BY (ω:aK) (w:World) (s s1:S) (e:Nat) (cs:aJ) (x:List cs.T) (v:Value):Prop where
 |none (ad:Option Addr) (hv:v=.slice ad 0 0) (hx:x=[]) (hs:s1=s)
 |some (id:Nat) (ho:(s.ob id).o=.arr e cs true x) (hr:(Ty.sl e cs).R w ω (.deep (id,[])) v x) (hs:s1=s.bM id true .gone)
theorem rI{v:ck}{i:Nat}(h:gM s v=some i):∃g hh,v=.one (.ref i g hh [])/\(s.ob i).g=g/\∃e cs x,(s.ob i).o=.arr e cs true x:=by
 unfold gM at h;split at h
 ·rename_i id g hh;cases hb:Nat.beq (s.ob id).g g with
  |false=>rw[hb]at h;cases h
  |true=>
   rw[hb]at h;simp only[cond_true]at h;split at h
   ·rename_i e cs dp x ho;cases dp with
    |false=>cases h
    |true=>
     injection h with h
     subst h;exact⟨g,hh,rfl,Nat.eq_of_beq_eq_true hb,e,cs,x,ho⟩
   ·cases h
 ·cases h
def tN(xk:Option Nat)(iJ n d:Nat):Key->Option Key:=fun k=>
 if k.1=iJ then(match k.2 with
  | []=>none
  |(i,j)::r=>some (d,(i+n,j)::r))
 else if xk=some k.1 then(match k.2 with
  | []=>none
  |(i,j)::r=>if i<n then some (d,(i,j)::r)else none)
 else if k.1=d then none else some k
theorem oP{xk:Option Nat}{iJ n d:Nat}{k q:Key}(h:tN xk iJ n d k=some q):(k.1=iJ/\∃i j r,k.2=(i,j)::r/\q=(d,(i+n,j)::r))\/(k.1≠iJ/\xk=some k.1/\∃i j r,k.2=(i,j)::r/\i<n/\q=(d,(i,j)::r))\/(k.1≠d/\q=k):=by
 unfold tN at h;split at h
 ·rename_i e;split at h
  ·cases h
  ·rename_i i j r hk;injection h with h
   exact .inl ⟨e,i,j,r,hk,h.symm⟩
 ·rename_i e;split at h
  ·rename_i ex;split at h
   ·cases h
   ·rename_i i j r hk;split at h
    ·rename_i hlt;injection h with h
     exact .inr (.inl ⟨e,ex,i,j,r,hk,hlt,h.symm⟩)
    ·cases h
  ·split at h
   ·cases h
   ·rename_i hd;injection h with h
    exact .inr (.inr ⟨hd,h.symm⟩)
theorem zc{xk:Option Nat}{iJ n d:Nat}(k k' q:Key)(h:tN xk iJ n d k=some q)(h':tN xk iJ n d k'=some q):k=k':=by
 rcases oP h with ⟨e1,i,j,r,e2,e3⟩|⟨e0,e1,i,j,r,e2,e4,e3⟩|⟨e1,e3⟩ <;> rcases oP h' with ⟨f1,i',j',r',f2,f3⟩|⟨f0,f1,i',j',r',f2,f4,f3⟩|⟨f1,f3⟩
 ·rw[e3]at f3;injection f3 with _ f3
  injection f3 with f3 f5
  injection f3 with f3 f6
  have:i=i':=by omega
  exact Prod.ext (e1.trans f1.symm) (by rw[e2,f2,this,f6,f5])
 ·rw[e3]at f3;injection f3 with _ f3
  injection f3 with f3 f5
  injection f3 with f3 f6
  omega
 ·rw[e3]at f3;rw[<-f3]at f1;exact absurd rfl f1
 ·rw[e3]at f3;injection f3 with _ f3
  injection f3 with f3 f5
  injection f3 with f3 f6
  omega
 ·rw[e3]at f3;injection f3 with _ f3
  injection f3 with f3 f5
  injection f3 with f3 f6
  rw[e1]at f1;injection f1 with f1
  exact Prod.ext f1 (by rw[e2,f2,f3,f6,f5])
 ·rw[e3]at f3;rw[<-f3]at f1;exact absurd rfl f1
 ·rw[f3]at e3;rw[<-e3]at e1;exact absurd rfl e1
 ·rw[f3]at e3;rw[<-e3]at e1;exact absurd rfl e1
 ·exact e3.symm.trans f3
theorem xH{e:Nat}{cs:aJ}{kk:Key}{v:Value}{x:List cs.T}(h:(Ty.sl e cs).R w ω (.deep kk) v x):∃(ad:Option Addr) (cp:Nat) (rows:List Value),v=.slice ad x.length cp/\x.length<=cp/\rows.length=x.length*cs.len/\(∀u∈rows,u.oneCell'=true) /\
  ((cp=0/\x.length=0)\/∃b arr,ad=some ⟨b,0,none⟩/\w.heap[b]? = some (.cells arr e (0,0))/\arr.size=cp*cs.len/\ω b=some kk/\∀j u,rows[j]? = some u->w.cell? ⟨b,j,none⟩=some u) /\
  ∀i,i<x.length->cs.R w ω (fun j=>.deep (kk.1,kk.2++[(i,j)])) (fun j=>rows[i*cs.len+j]?) 0 (x.getD i (k7 cs)):=by
 obtain⟨ad,n,cp,e1,e2,e3,e4,e5⟩:=h;subst e2;rcases e4 with e4|⟨b,arr,f1,f2,f3,f4⟩
 ·exact⟨ad,cp,[],e1,e3,by rw[e4.2];simp,by simp,.inl e4,fun i hi=>absurd hi (by omega)⟩
 ·obtain⟨rows,g1,g2⟩:=ny (w:=w) (b:=b) (off:=0) (m:=cs.len) x.length (fun i hi=>by
   obtain⟨us,u1,u2⟩:=aJ.za cs _ _ 0 _ (e5 i _ hi f1);exact⟨us,u1,fun k u hu=>by have:=u2 k u hu;simpa using this⟩)
  refine⟨ad,cp,rows,e1,e3,g1,fun u hu=>?_,.inr ⟨b,arr,f1,f2,f3,f4,fun j u hu=>by have:=(g2 j u hu).1;simpa using this⟩,fun i hi=>?_⟩
  ·obtain⟨k,hk,rfl⟩:=List.getElem_of_mem hu;exact(g2 k _ (List.getElem?_eq_getElem hk)).2
  ·refine aJ.fm cs _ _ _ 0 _ (fun j hj=>?_) (e5 i _ hi f1);rw[Nat.zero_add];have hlt:i*cs.len+j<rows.length:=by rw[g1];exact gT hi hj (Nat.le_refl _)
   have:=(g2 _ _ (List.getElem?_eq_getElem hlt)).1;rw[List.getElem?_eq_getElem hlt,<-this,Nat.zero_add,Nat.zero_add]
theorem tQ {s1:S} (h:Rel ω a w s) (hd:∀d,o.dst=some d->d<a.tmps.size) {t t' e e':Nat} {cs:aJ} {xs ys:List cs.T} {vx vy:Value} {id':Nat} (pB:id'≠0) {I:TypeInfo} {z:Value}
  (hu:P.underlying t=some (.slice e)) (hie:P.info? e=some I) (hz:I.zero=some z) (hsz:I.size=cs.len) (hzs:z.cells.size=cs.len) (hby:I.bytes<=65536) (oo:P.underlying t'=some (.slice e'))
  (hx:BY ω w s s1 e cs xs vx) {iJ gy hy EC:Nat} (Ho:cw w ω s vy (.ref iJ gy hy [])) (GY:hJ s (.one (.ref iJ gy hy []))=some (⟨e,cs,ys,EC⟩:Cont real)) (DX:(s1.ob iJ).g=gy) (zY:∃e cs x,(s1.ob iJ).o=.arr e cs true x)
  (lS:((xs++ys).length:Int)<=1073741824) (ty:Nat)
  (hk:k (((s1.bM iJ true .gone).new id' (.arr e cs true (xs++ys))).cg o.dst (.one (.ref id' (((s1.bM iJ true .gone).new id' (.arr e cs true (xs++ys))).ob id').g 0 [])))=some r):
  ∃v w',(Builtin.append_ #[t,t'] ty #[vx,vy]).run P w=.ok v w'/\Ends ω a w o.dst k r (a.put o.dst v) w':=by
 rw[gu]at lS;obtain⟨e0,HM,x0,zY⟩:=zY;have bX:s1.ob iJ=s.ob iJ:=by
  cases hx with
  |none _ _ _ hs=>rw[hs]
  |some id ho _ hs=>rw[hs]at zY⊢;exact St.br _ _ _ fun e=>by subst e;rw[St.aU]at zY;cases zY
 have DQ:s.cont iJ gy hy []=some (⟨e,cs,ys,EC⟩:Cont real):=GY;rw[bX]at zY;have FD:(s.ob iJ).o=.arr e cs true ys/\EC=2:=by
  rcases(dz DQ).2 with ⟨dp,f5,_,f6⟩|⟨_,_,_,_,f5,_⟩|⟨f5,_⟩
  ·simp only at f5 f6;rw[zY]at f5;injection f5 with g1 g2 g3 g4
   subst g1;subst g2;subst g3;have:=eq_of_heq g4;subst this;exact⟨zY,f6⟩
  ·exact absurd rfl f5
  ·rw[zY]at f5;cases f5
 obtain⟨Ft,rfl⟩:=FD;have Br:(Ty.sl e cs).R w ω (.deep (iJ,[])) vy ys:=Ho.2.2 _ DQ;obtain⟨HJ,HL,news,y1,y2,y3,y4,y5,y6⟩:=xH Br;have hsrc:Src P I.size t' vy ys.length news w:=zb oo y1 (by rw[hsz];exact y3) y4 (fun hp=>by
  rcases y5 with y5|⟨b,arr,q1,q2,q3,q4,q5⟩
  ·omega
  ·exact⟨b,0,q1,fun k u hu=>by rw[Nat.zero_add];exact q5 k u hu⟩)
 have hy0:iJ≠0:=h.qO (by rw[Ft];exact fun e=>by cases e);have Df:Rel ω a w s1:=by
  cases hx with
  |none _ _ _ hs=>rw[hs];exact h
  |some id _ _ hs=>rw[hs];exact h.gone id true
 have Dg:=Df.gone iJ true;have hX:∃xk:Option Nat,(∀i,xk=some i->i≠0/\i≠iJ/\((s1.bM iJ true .gone).ob i).o=.gone) /\
   ((∃ad,vx=.slice ad 0 0/\xs.length=0)\/∃idx b c arr,xk=some idx/\vx=.slice (some ⟨b,0,none⟩) xs.length c/\xs.length<=c/\w.heap[b]? = some (.cells arr e (0,0))/\arr.size=c*cs.len/\ω b=some (idx,[]) /\
    ∀i,i<xs.length->cs.R w ω (fun j=>.deep (idx,[(i,j)])) (fun j=>w.cell? ⟨b,i*cs.len+j,none⟩) 0 (xs.getD i (k7 cs))):=by
  cases hx with
  |none ad hv hx _=>exact⟨none,fun i e=>(by cases e),.inl ⟨ad,hv,by rw[hx];rfl⟩⟩
  |some id ho hr hs=>
   have hne:id≠iJ:=fun e=>by
    subst e;have h1:(s1.ob id).o=.gone:=by rw[hs,St.aU]
    rw[bX,ho]at h1;cases h1
   refine⟨some id,fun i e=>?_,?_⟩
   ·injection e with e
    subst e;refine⟨h.qO (by rw[ho];exact fun e=>by cases e),hne,?_⟩;rw[St.br _ _ _ hne,hs,St.aU]
   ·obtain⟨ad,n,cp,e1,e2,e3,e4,e5⟩:=hr;subst e2;rcases e4 with ⟨q1,q2⟩|⟨b,arr,q1,q2,q3,q4⟩
    ·subst q1;exact .inl ⟨ad,by rw[e1,q2],q2⟩
    ·refine .inr ⟨id,b,cp,arr,rfl,by rw[e1,q1],e3,q2,q3,q4,fun i hi=>?_⟩;refine aJ.fm cs _ _ _ 0 _ (fun j _=>?_) (e5 i _ hi q1);simp only[Nat.zero_add]
 obtain⟨xk,CT,hX⟩:=hX;obtain⟨v,w',hrun,zG⟩:=vo (P:=P) (B:=fun b=>∃idx,xk=some idx/\ω b=some (idx,[])) (n:=xs.length) (m:=ys.length) hu hie hz hsz hzs hby (hX.imp id fun⟨idx,b,c,arr,q1,q2,q3,q4,q5,q6,_⟩=>⟨b,c,arr,q2,q3,q4,q5,idx,q1,q6⟩) hsrc (by omega) ty;refine⟨v,w',hrun,?_⟩;rcases zG with ⟨ad,rfl,rfl,q1,q2⟩|⟨b0,c',bS,olds,rfl,q2,q3,q4,q5,q6,q7,q8,q9,q10,q11,q12⟩
 ·have hR:=Dg.bare (id':=id') pB (.arr e cs true (xs++ys)) (fun _ e=>by cases e);have vM:xs++ys=[]:=List.length_eq_zero_iff.1 (by rw[gu];omega);rw[vM]at hR hk;exact gL hR (bZ _ _ _ pB) hd ⟨ad,0,0,rfl,rfl,Nat.le_refl _,oz,fun i _ hi=>absurd hi (by omega)⟩ hk
 ·have hrow:∀b p,ω b=some p->p.2≠[]->b≠b0:=by
   intro b p hb hp e;subst e;obtain⟨idx,f1,f2⟩:=q12 (h.dom b p hb);rw[hb]at f2;injection f2 with f2
   rw[f2]at hp;exact hp rfl
  obtain⟨hR,hE⟩:=Dg.gK (κ:=tN xk iJ xs.length id') (d:=id') (b0:=b0) (w':=w') (src:=fun i=>i=iJ\/xk=some i) (ob:=.arr e cs true (xs++ys)) (fun c e=>by cases e) pB
   (fun hs=>hs.elim (fun e=>hy0 e.symm) (fun e=>(CT 0 e).1 rfl)) zc
   (fun kk p hp=>by
    rcases oP hp with ⟨_,i,j,r,_,e3⟩|⟨_,_,i,j,r,_,_,e3⟩|⟨e1,e3⟩
    ·injection e3 with _ e3;rw[e3];exact fun e=>by cases e
    ·injection e3 with _ e3;rw[e3];exact fun e=>by cases e
    ·rw[<-e3]at e1;exact absurd rfl e1)
   (fun i p hs hi=>by unfold tN;rw[if_neg (fun e=>hs (.inl e)),if_neg (fun e=>hs (.inr e)),if_neg hi])
   (fun i hs=>by
    rcases hs with rfl|hs
    ·rw[St.aU]
    ·exact(CT i hs).2.2)
   q8 q9 q10 q11 (fun hb=>by obtain⟨idx,f1,f2⟩:=q12 hb;exact⟨_,f2,.inr f1⟩)
  have hnl:news.length=ys.length*cs.len:=y3;refine gL (dp:=true) hR hE hd ?_ hk;refine⟨some ⟨b0,0,none⟩,xs.length+ys.length,c',rfl,gu _ _,q2,.inr ⟨b0,bS,rfl,q3,q4,by unfold aK.gK;rw[if_pos rfl];rfl⟩,fun i A hi hA=>?_⟩;injection hA with hA
  subst hA;rw[ul];split
  ·rename_i hlt;rcases hX with ⟨ad,_,g2⟩|⟨idx,b,c2,arr,g1,g2,g3,g4,g5,g6,g7⟩
   ·omega
   ·have hrw:=g7 i hlt;have hne:=(CT idx g1).2.1;refine aJ.fm cs _ (fun j=>w.cell? ⟨b,i*cs.len+j,none⟩) _ 0 _ (fun j hj=>?_) (aJ.gj cs (fun j=>(idx,[(i,j)])) (fun j=>(id',[(i,j)])) _ _ 0 _ (fun j b' rr hb' hk'=>?_) (fun _=>rfl) hrw)
    ·simp only[Nat.zero_add];rw[cell_of_row w' b0 _ bS e (0,0) q3,q6 _ (gT (by omega) hj (Nat.le_refl _)),List.getElem?_append_left (by rw[q5];exact gT hlt hj (Nat.le_refl _)),q7 b c2 g2 _ (gT hlt hj (Nat.le_refl _))]
    ·have hk':ω b'=some (idx,(i,j)::rr):=hk';have hnb:=hrow b' _ hk' (fun e=>by cases e);refine⟨q10 b' hnb hb',?_⟩;rw[jM hnb hk'];unfold tN;rw[if_neg hne,if_pos g1];simp only;rw[if_pos hlt];rfl
  ·rename_i hge;have lu:i-xs.length<ys.length:=by omega
   have hrw:=y6 (i-xs.length) lu;refine aJ.fm cs _ (fun j=>news[(i-xs.length)*cs.len+j]?) _ 0 _ (fun j hj=>?_) (aJ.gj cs (fun j=>(iJ,[(i-xs.length,j)])) (fun j=>(id',[(i,j)])) _ _ 0 _ (fun j b' rr hb' hk'=>?_) (fun _=>rfl) hrw)
   ·simp only[Nat.zero_add];have e1:i*cs.len=xs.length*cs.len+(i-xs.length)*cs.len:=by rw[<-Nat.add_mul];congr 1;omega
    rw[cell_of_row w' b0 _ bS e (0,0) q3,q6 _ (gT (by omega) hj (Nat.le_refl _)),List.getElem?_append_right (by rw[q5];omega),q5];congr 1;omega
   ·have hk':ω b'=some (iJ,(i-xs.length,j)::rr):=hk';have hnb:=hrow b' _ hk' (fun e=>by cases e);refine⟨q10 b' hnb hb',?_⟩;rw[jM hnb hk'];unfold tN;rw[if_pos rfl];simp only;rw[show i-xs.length+xs.length=i by omega];rfl
theorem step_append (hE:cm P E) {args:Array Operand} {fC:Array Nat} (ho:o.op=.call ⟨.builtin .append,args,fC⟩) (hsz:args.size=fC.size) (h:Rel ω a w s) (hd:∀d,o.dst=some d->d<a.tmps.size) {Φ:bR->Option (Callee real (Option R))}
  (hk:bl E (aO R) Φ o s k=some r):o.wp P a w (Ends ω a w o.dst k r) Q:=by
 unfold bl at hk;have z6:Nat.beq args.size fC.size=true:=by rw[hsz];exact Nat.beq_refl _
 simp only[ho,z6,cond_true]at hk;obtain⟨args⟩:=args;obtain⟨fC⟩:=fC;simp only at hk hsz;have pJ:args.length=fC.length:=by simpa using hsz
 match args,fC,pJ with
 | [x,y],[t,t'],_=>
  have hx:=bT h E t x;have hy:=bT h E t' y;simp only[List.zip_cons_cons,List.zip_nil_right,List.map_cons,List.map_nil,dy]at hk;obtain⟨⟨e,cs⟩,h1,hka⟩:=aA hk;obtain⟨⟨e',cs'⟩,h1',Bu⟩:=aA hka;obtain⟨cx,h2,hkc⟩:=aA Bu;obtain⟨cy,h3,sO⟩:=aA hkc;clear hk hka Bu hkc;cases hb:(Nat.beq e cx.e&&aJ.beq cs cx.cs)with
  |false=>simp only[hb]at sO;cases sO
  |true=>
   simp only[hb,Bool.not_true,cond_false]at sO;rw[Bool.and_eq_true]at hb;have he:=Nat.eq_of_beq_eq_true hb.1;have hcs:=aJ.eq_of_beq hb.2;subst he;subst hcs;obtain⟨hu,j,I,d,hj,EN,ok⟩:=ij hE h1;obtain⟨oo,_⟩:=ij hE h1';obtain⟨z,hz,BH⟩:=ok.zero;have hI:I.size=cx.cs.len:=by rw[ok.size,EN]
   have hzs:z.cells.size=cx.cs.len:=by rw[<-Array.length_toList,BH,fD,EN]
   have hby:I.bytes<=65536:=by rw[ok.bytes];exact ok.bpos.2
   have Cy:∀(s1:S) (dp:Bool),Rel ω a w s1->(((dp||Nat.beq cy.md 2) && !cx.cs.plain)=false->Cl ω w s1 cx.e cx.cs cx.x (a.eval x))->((dp||sU (ev E s t x))=true->BY ω w s s1 cx.e cx.cs cx.x (a.eval x)) ->
     (bif (dp||Nat.beq cy.md 2) && !cx.cs.plain then(match gM s1 (ev E s t' y)with
      |some iJ=>bif dp||sU (ev E s t x)then
        if hh:Ty.beq (.sl cy.e cy.cs) (.sl cx.e cx.cs)=true then
         bif aE (List.append (α:=cx.cs.T) cx.x (real.cast hh cy.x))then k (((s1.bM iJ true .gone).new (aZ (o.dst.getD 0) 0 0) (.arr cx.e cx.cs true (List.append (α:=cx.cs.T) cx.x (real.cast hh cy.x)))).cg o.dst (.one (.ref (aZ (o.dst.getD 0) 0 0) (((s1.bM iJ true .gone).new (aZ (o.dst.getD 0) 0 0) (.arr cx.e cx.cs true (List.append (α:=cx.cs.T) cx.x (real.cast hh cy.x)))).ob (aZ (o.dst.getD 0) 0 0)).g 0 [])))else none
        else none
       else none
      |none=>none)else
      if hh:Ty.beq (.sl cy.e cy.cs) (.sl cx.e cx.cs)=true then
       bif aE (List.append (α:=cx.cs.T) cx.x (real.cast hh cy.x))then k ((s1.new (aZ (o.dst.getD 0) 0 0) (.arr cx.e cx.cs dp (List.append (α:=cx.cs.T) cx.x (real.cast hh cy.x)))).cg o.dst (.one (.ref (aZ (o.dst.getD 0) 0 0) ((s1.new (aZ (o.dst.getD 0) 0 0) (.arr cx.e cx.cs dp (List.append (α:=cx.cs.T) cx.x (real.cast hh cy.x)))).ob (aZ (o.dst.getD 0) 0 0)).g 0 [])))else none
      else none)=some r->o.wp P a w (Ends ω a w o.dst k r) Q:=by
    intro s1 dp hR hX GQ hk;cases nc:((dp||Nat.beq cy.md 2) && !cx.cs.plain)with
    |true=>
     rw[nc]at hk;simp only[cond_true]at hk;cases Br:gM s1 (ev E s t' y)with
     |none=>rw[Br]at hk;cases hk
     |some iJ=>
      rw[Br]at hk;simp only at hk;cases vM:(dp||sU (ev E s t x))with
      |false=>rw[vM]at hk;cases hk
      |true=>
       rw[vM]at hk;simp only[cond_true]at hk;split at hk
       ·rename_i hh;cases hs:aE (List.append (α:=cx.cs.T) cx.x (real.cast hh cy.x))with
        |false=>rw[hs]at hk;cases hk
        |true=>
         rw[hs]at hk;simp only[cond_true]at hk;obtain⟨ye,HH,yx,EC⟩:=cy;have hee:=Ty.eq_of_beq hh;injection hee with zN zO
         simp only at zN zO;subst zN;subst zO;obtain⟨gy,HT,ey,gg,zY⟩:=rI Br;rw[ey]at hy h3;obtain⟨v,w',hrun,hend⟩:=tQ (P:=P) (t:=t) (t':=t') (id':=aZ (o.dst.getD 0) 0 0) h hd (dj _ _ _) hu ok.info hz hI hzs hby oo (GQ vM) hy h3 gg zY (of_decide_eq_true hs) o.type hk;refine fa (v:=v) (w':=w') ?_ hend;refine eF ho ?_;simp only[builtin,List.map_toArray,List.map_cons,List.map_nil];rw[Sem.run_bind,hrun];rfl
       ·cases hk
    |false=>
     rw[nc]at hk;simp only[cond_false]at hk;split at hk
     ·rename_i hh;have wT:dp=true->cx.cs.plain=true:=by
       intro e;subst e;cases hp:cx.cs.plain with
       |true=>rfl
       |false=>rw[hp]at nc;cases nc
      have Ht:cy.md≠2\/cy.cs.plain=true:=by
       have hee:=Ty.eq_of_beq hh;injection hee with _ hee
       cases hp:cx.cs.plain with
       |true=>exact .inr (by rw[hee];exact hp)
       |false=>refine .inl fun e=>?_;rw[hp,e]at nc;cases dp <;> cases nc
      cases hs:aE (List.append (α:=cx.cs.T) cx.x (real.cast hh cy.x))with
      |false=>rw[hs]at hk;cases hk
      |true=>
       rw[hs]at hk;simp only[cond_true]at hk;obtain⟨ye,HH,yx,EC⟩:=cy;have hee:=Ty.eq_of_beq hh;injection hee with zN zO
       simp only at zN zO;subst zN;subst zO;obtain⟨ad,cp,news,n1,n2,n3,n4,n5,n6⟩:=yn h3 hy Ht;have hsrc:Src P I.size t' (a.eval y) (List.length yx) news w:=zb oo n1 (by rw[hI];exact n3) n4 n5;obtain⟨v,w',hrun,hend⟩:=tP (P:=P) (t:=t) (t':=t') (xs:=cx.x) (ys:=yx) (dp:=dp) (id':=aZ (o.dst.getD 0) 0 0) hR hd (dj _ _ _) hu ok.info hz hI hzs hby (hX nc) hsrc n6 (of_decide_eq_true hs) wT o.type hk;refine fa (v:=v) (w':=w') ?_ hend;refine eF ho ?_;simp only[builtin,List.map_toArray,List.map_cons,List.map_nil];rw[Sem.run_bind,hrun];rfl
     ·cases hk
   have cJ:=sO;clear sO;cases z8:ev E s t x with
   |one l=>
    rw[z8]at cJ hx h2;cases l with
    |eR e2 F4=>
     injection h2 with h2
     obtain⟨ad,e1⟩:=hx;have hx0:cx.x=[]:=by rw[<-h2];rfl
     exact Cy s false h (fun _=>.none ad e1 hx0) (fun _=>.none ad e1 hx0 rfl) (by rw[z8];exact cJ)
    |ref id g hh p=>
     cases p with
     |nil=>
      have hc:s.cont id g hh []=some cx:=h2;rcases(kG hc).2 with hm|hm|hm
      ·simp only[hm]at cJ;cases cJ
      ·simp only[hm]at cJ;exact Cy _ (Nat.beq 1 2) (h.gone id true) (fun _=>oQ h hc (by rw[hm];decide) hx (.inl (by rw[hm];decide))) (fun e=>by rw[z8]at e;cases e) (by rw[z8];exact cJ)
      ·simp only[hm]at cJ;refine Cy _ (Nat.beq 2 2) (h.gone id true) (fun hb=>?_) (fun _=>?_) (by rw[z8];exact cJ)
       ·have Bb:cx.cs.plain=true:=by
         cases hp:cx.cs.plain with
         |true=>rfl
         |false=>rw[hp]at hb;cases hb
        exact oQ h hc (by rw[hm];decide) hx (.inr Bb)
       ·have hr:=hx.2.2 cx hc;rw[hm]at hr;rcases(dz hc).2 with ⟨dp,f5,_,f6⟩|⟨_,_,_,_,f5,_⟩|⟨_,_,f5⟩
        ·rw[hm]at f6;cases dp with
         |true=>exact .some id f5 hr rfl
         |false=>cases f6
        ·exact absurd rfl f5
        ·rw[hm]at f5;cases f5
     |cons _ _=>cases cJ
    |val tt xx=>cases cJ
    |ptr _ _ _=>cases cJ
    |cf _ _ _ _ _ _=>cases cJ
    |eo _ _ _=>cases cJ
    |cS _ _=>cases cJ
    |fn _ _=>cases cJ
    |BU _ _=>cases cJ
    |undef=>cases cJ
    |dead=>cases cJ
   |agg _=>rw[z8]at cJ;cases cJ
   |nE _=>rw[z8]at cJ;cases cJ
 | [],[],_=>cases hk
 | [_],[_],_=>cases hk
 |_::_::_::_,_::_::_::_,_=>cases hk
end
end Go.R
set_option linter.unusedVariables false
namespace Go.R
def j4:List (Int×Bool)->Int->Nat->Option (Nat×Bool)
 | [],_,_=>none
 |y::r,n,i=>bif n==y.1 then some (i,y.2)else j4 r n (i+1)
theorem pw{k:IntKind}{n:Int}:∀ {es:List MapEntry} {x:List (Int×Bool)} (i:Nat),yX k es x->Instr.findNow (.int k) (.int k n) es i=some ((j4 x n i).map fun p=>(p.1,.bool p.2))
 | [],[],i,_=>rfl
 | [],_::_,_,h=>h.elim
 |_::_,[],_,h=>h.elim
 |e::es,y::x,i,h=>by
  obtain⟨⟨h1,h2⟩,h3⟩:=h;have hs:Instr.sameNow (.int k) (.int k n) e.key=some (n==y.1):=by rw[h1];simp[Instr.sameNow]
  unfold Instr.findNow;rw[hs];cases hb:n==y.1 with
  |true=>simp only[j4,hb,cond_true,Option.map_some,h2]
  |false=>simp only[j4,hb,cond_false];exact pw (i+1) h3
theorem um(n:Int):∀(x:List (Int×Bool)) (i:Nat),ct x n=match j4 x n i with|some p=>p.2|none=>false
 | [],_=>rfl
 |y::x,i=>by
  unfold ct j4;cases n==y.1 with
  |true=>rfl
  |false=>exact um n x (i+1)
theorem uM(k:IntKind)(n:Int)(v:Bool):∀(es:List MapEntry) (x:List (Int×Bool)) (i:Nat),yX k es x ->
  (∀b,j4 x n i=none->yX k (es++[⟨.int k n,.bool v,b⟩]) (eT x n v)) /\
  ∀j b,j4 x n i=some (j,b)->i<=j/\∃e,es[j-i]? = some e/\e.key=.int k n/\yX k (es.modify (j-i) fun e=>{ e with key:=.int k n,val:=.bool v }) (eT x n v)
 | [],[],i,_=>⟨fun b _=>⟨⟨rfl,rfl⟩,trivial⟩,fun j b h=>by cases h⟩
 | [],_::_,_,h=>h.elim
 |_::_,[],_,h=>h.elim
 |e::es,y::x,i,h=>by
  obtain⟨⟨h1,h2⟩,h3⟩:=h;obtain⟨r1,r2⟩:=uM k n v es x (i+1) h3;unfold j4 eT;cases hb:n==y.1 with
  |true=>
   have hn:n=y.1:=by simpa using hb
   refine⟨(fun b h=>by cases h),fun j b h=>?_⟩;have h:=Option.some.inj h;injection h with hj _
   subst hj;refine⟨Nat.le_refl _,e,by simp,by rw[h1,hn],?_⟩;rw[Nat.sub_self];exact⟨⟨rfl,rfl⟩,h3⟩
  |false=>
   refine⟨fun b h=>⟨⟨h1,h2⟩,r1 b h⟩,fun j b h=>?_⟩;obtain⟨q1,e',q2,q3,q4⟩:=r2 j b h;have hj:j-i=(j-(i+1))+1:=by omega
   refine⟨by omega,e',by rw[hj];simpa using q2,q3,?_⟩;rw[hj];exact⟨⟨h1,h2⟩,q4⟩
section
variable {R:Type} {P:Program} {E:Env} {ω:aK} {a:Act} {w:World} {s:S} {k:S->Option R} {r:R} {o:Oper} {Q:Exit->Act->World->Prop}
theorem th (hE:cm P E) {t:Nat} {rv:Option Operand} (ho:o.op=.makeMap t rv) (h:Rel ω a w s) (hd:∀d,o.dst=some d->d<a.tmps.size) {Φ:bR->Option (Callee real (Option R))}
  (hk:bl E (aO R) Φ o s k=some r):o.wp P a w (Ends ω a w o.dst k r) Q:=by
 unfold bl at hk;simp only[ho]at hk;obtain⟨ik,h1,hk⟩:=aA hk;cases rv with
 |some _=>cases hk
 |none=>
  simp only[Option.isNone_none,cond_true]at hk;have h0:=dj (o.dst.getD 0) 0 0;have hg:=eL.alloc w (.map #[] 0);have hlt:w.heap.size<(w.alloc (.map #[] 0)).heap.size:=by rw[fK];omega
  refine fa (v:=.map (some w.heap.size)) (w':=w.alloc (.map #[] 0)) ?_ ?_
  ·unfold execOp;simp only[ho];rfl
  ·have hR:=h.fresh (id:=aZ (o.dst.getD 0) 0 0) h0 hg (Nat.le_refl _) hlt (.mp ik (real.kN 0 (aJ.mp ik))) (fun cells' dY=>by cases dY);refine dV hR (eG h0 hg (Nat.le_refl _)) hd (t:=.one (.cS (aZ (o.dst.getD 0) 0 0) ((s.new (aZ (o.dst.getD 0) 0 0) (.mp ik (real.kN 0 (aJ.mp ik)))).ob (aZ (o.dst.getD 0) 0 0)).g)) ⟨Nat.le_refl _,fun _ k' x' hc=>?_⟩ hk;have cR:((s.new (aZ (o.dst.getD 0) 0 0) (.mp ik (real.kN 0 (aJ.mp ik)))).ob (aZ (o.dst.getD 0) 0 0)).o=.mp ik (real.kN 0 (aJ.mp ik)):=by unfold St.new;rw[St.aX]
   rw[cR]at hc;injection hc with e1 e2
   subst e1;subst e2;exact⟨w.heap.size,#[],0,aK.eZ _ _ _,rfl,heap_alloc_new w _,trivial⟩
theorem w8{v:Value}{id g:Nat}{q:Sigma fun k=>real.V (.sl 0 (aJ.mp k))}(h:cw w ω s v (.cS id g))(hq:sX s id g=some q):(s.ob id).o=.mp q.1 q.2/\∃b es c,ω b=some (id,[])/\v=.map (some b)/\w.heap[b]? = some (.map es c)/\yX q.1 es.toList q.2:=by obtain⟨e1,e2⟩:=w7 hq;exact⟨e2,h.2 e1 _ _ e2⟩
theorem uT (hE:cm P E) {t:Nat} {m x:Operand} {ok:Bool} (ho:o.op=.lookup t m x ok) (h:Rel ω a w s) (hd:∀d,o.dst=some d->d<a.tmps.size) {Φ:bR->Option (Callee real (Option R))}
  (hk:bl E (aO R) Φ o s k=some r):o.wp P a w (Ends ω a w o.dst k r) Q:=by
 have hm:=bT h E t m;have hx:=bT h E 0 x;unfold bl at hk;simp only[ho]at hk;obtain⟨ik,h1,hk⟩:=aA hk;obtain⟨kt,et,I,hu,D0,hie,hz⟩:=hE.FJ t ik h1;cases ok with
 |true=>cases hk
 |false=>
 simp only[cond_false]at hk;split at hk
 ·rename_i id g u n em ex;rw[em]at hm;rw[ex]at hx;obtain⟨q,h2,cJ⟩:=aA hk;clear hk;obtain⟨qk,qx⟩:=q;cases A8:decide (qk=ik)with
  |false=>simp only[A8]at cJ;cases cJ
  |true=>
  simp only[A8,cond_true]at cJ;obtain rfl:=of_decide_eq_true A8;split at cJ
  ·rename_i hb;obtain rfl:=Ty.eq_of_beq hb;obtain⟨cR,b,es,c,f1,f2,f3,f4⟩:=w8 hm h2;have yQ:a.eval x=.int qk n:=hx;refine bE h hd (v:=.bool (ct qx n)) ?_ (t:=.one (.val .bool (real.CZ qk qx n))) rfl cJ;unfold execOp;simp only[ho];have hfind:=MapKept.run_findKey (P:=P) (w:=w) D0 (pw (n:=n) 0 f4);have Bp:∀e n',(Instr.checkKey e (n'+1) kt (.int qk n)).run P w=.ok () w:=fun e n'=>by unfold Instr.checkKey;simp only[Sem.run_bind,run_underlying D0,Result.andThen];rfl
   have Bp:=fun e=>Bp e 9999;have FF:(zeroValue et).run P w=.ok (.bool false) w:=by simp[zeroValue,typeInfo,hie,hz]
   have hrun:(Instr.lookup t (a.eval m) (a.eval x) false).run P w=.ok (.bool (ct qx n)) w:=by
    rw[f2,yQ,um n qx 0];unfold Instr.lookup;cases hf:j4 qx n 0 with
    |none=>rw[hf]at hfind;simp[run_underlying hu,MapKept.run_getObj_map f3,Bp,hfind,FF]
    |some p=>rw[hf]at hfind;simp[run_underlying hu,MapKept.run_getObj_map f3,Bp,hfind]
   rw[Sem.run_bind,hrun];rfl
  ·cases cJ
 ·cases hk
theorem rF {w':World} {b id:Nat} {ik:IntKind} {x x':real.V (.sl 0 (aJ.mp ik))} {es':Array MapEntry} {c':Nat} (h0:id≠0) (hd:∀b k,ω b=some k->b<w.heap.size) (hb:ω b=some (id,[])) (ho:(s.ob id).o=.mp ik x) (hp:mU w w' b) (hh:w'.heap[b]? = some (.map es' c')) (hx:yX ik es'.toList x')
  (hinj:∀b b' k,ω b=some k->ω b'=some k->b=b') (j:Nat):Tr w ω s w' ω (s.bM id true (.mp ik x')) j:=by
 by_cases e:j=id
 ·subst e;have cR:((s.bM j true (.mp ik x')).ob j).o=.mp ik x':=by rw[St.aU]
  have hg:((s.bM j true (.mp ik x')).ob j).g=(s.ob j).g:=by rw[St.aU]
  have qT:((s.bM j true (.mp ik x')).ob j).h=bif true then(s.ob j).h+1 else(s.ob j).h:=by rw[St.aU]
  have hnc:∀g h p c,(s.bM j true (.mp ik x')).cont j g h p=some c->False:=by intro g h p c hc;unfold St.cont fU.cont at hc;rw[cR]at hc;cases hq:Nat.beq ((s.bM j true (.mp ik x')).ob j).g g <;> rw[hq]at hc <;> cases hc
  exact
  {ref:=fun v g h p hr=>⟨by rw[hg];exact hr.1,by rw[hg,qT];exact gl true hr.2.1,fun c hc=>(hnc _ _ _ _ hc).elim⟩
   ptr:=fun v g off hr=>⟨by rw[hg];exact hr.1,fun _ cells hc=>by rw[cR]at hc;cases hc⟩
   cf:=fun v g h p i off hr=>⟨by rw[hg];exact hr.1,by rw[hg,qT];exact gl true hr.2.1,fun c hc=>(hnc _ _ _ _ hc).elim⟩
   cS:=fun v g hr=>⟨by rw[hg];exact hr.1,fun Dh k2 x2 hc=>by
    rw[hg]at Dh;rw[cR]at hc;injection hc with e1 e2
    subst e1;subst e2;obtain⟨b2,es,c,q1,q2,q3,q4⟩:=hr.2 Dh ik x ho;obtain rfl:=hinj _ _ _ hb q1;exact⟨b,es',c',hb,q2,hh,hx⟩⟩ }
 ·refine gk.tr ⟨St.br _ _ _ e,fun c kk hc hk hj=>?_⟩ (eI h0 hb hp) hd;have:c≠b:=fun ec=>by subst ec;rw[hb]at hk;injection hk with hk;subst hk;exact e hj.symm
  exact⟨hp.block c this,rfl⟩
theorem Rel.AT (h:Rel ω a w s) {w':World} {b id:Nat} {ik:IntKind} {x x':real.V (.sl 0 (aJ.mp ik))} {es':Array MapEntry} {c':Nat} (hb:ω b=some (id,[])) (ho:(s.ob id).o=.mp ik x) (hp:mU w w' b) (hh:w'.heap[b]? = some (.map es' c')) (hx:yX ik es'.toList x')
  (h0:id≠0:=h.qO (by rw[ho];exact fun e=>by cases e)):Rel ω a w' (s.bM id true (.mp ik x')) where
 HY:=h.HY.ext (eI h0 hb hp)
 inj:=h.inj
 dom c kk h1:=by rw[hp.size];exact h.dom c kk h1
 defers:=h.defers
 dN:=by rw[St.br _ _ _ (Ne.symm h0)];exact h.dN
 slots i:=df.frame (eI h0 hb hp) (rF h0 h.dom hb ho hp hh hx h.inj) (h.slots i)
 dx j cells hc:=by
  by_cases e:j=id
  ·subst e;rw[St.aU]at hc;cases hc
  ·rw[St.br _ _ _ e]at hc;obtain⟨c,arr,T,h1,h2,h3⟩:=h.dx j cells hc;have hcb:c≠b:=fun ec=>by subst ec;rw[hb]at h1;injection h1 with h1;injection h1 with h1 _;exact e h1.symm
   exact⟨c,arr,T,h1,(hp.block c hcb).trans h2,h3.mono fun _ _ hl=>cw.frame (eI h0 hb hp) (rF h0 h.dom hb ho hp hh hx h.inj) hl⟩
theorem qy (hE:cm P E) {t:Nat} {m x v:Operand} (ho:o.op = .mapUpdate t m x v) (h:Rel ω a w s) (hd:∀d, o.dst = some d -> d<a.tmps.size) {Φ:bR -> Option (Callee real (Option R))}
    (hk:bl E (aO R) Φ o s k = some r):o.wp P a w (Ends ω a w o.dst k r) Q:=by
  have hm:=bT h E t m;have hx:=bT h E 0 x;have hv:=bT h E 4 v;unfold bl at hk;simp only[ho]at hk;obtain⟨ik, h1, hk⟩:=aA hk;obtain⟨kt, et, I, hu, D0, hie, hz⟩:=hE.FJ t ik h1;split at hk
  · rename_i id g u n bv em ex GH
    rw[em]at hm;rw[ex]at hx;have CC:=oV GH hv;obtain⟨q, h2, cJ⟩:=aA hk;clear hk;obtain⟨qk, qx⟩:=q;cases A8:decide (qk = ik)with
    |false=>simp only[A8]at cJ; cases cJ
    |true=>
    simp only[A8, cond_true]at cJ;obtain rfl:=of_decide_eq_true A8;split at cJ
    · rename_i hb
      obtain rfl:=Ty.eq_of_beq hb;obtain⟨cR, b, es, c, f1, f2, f3, f4⟩:=w8 hm h2;have yQ:a.eval x = .int qk n:=hx;have hfind:=MapKept.run_findKey (P:=P) (w:=w) D0 (pw (n:=n) 0 f4);have Bp:∀e n', (Instr.checkKey e (n' + 1) kt (.int qk n)).run P w = .ok () w:=fun e n'=>by unfold Instr.checkKey;simp only[Sem.run_bind, run_underlying D0, Result.andThen];rfl
      have Bp:=fun e=>Bp e 9999;obtain⟨p1, p2⟩:=uM qk n bv es.toList qx 0 f4;have A7:b<w.heap.size:=bz f3;have hput:∀ob, mU w { w with heap:=w.heap.setIfInBounds b ob } b:=fun ob=>⟨rfl, rfl, rfl, by simp, fun c hc=>by simp[Array.getElem?_setIfInBounds_ne (Ne.symm hc)]⟩
      have fin:∀(es':Array MapEntry) (c':Nat), (Instr.mapUpdate t (a.eval m) (a.eval x) (a.eval v)).run P w = .ok () { w with heap:=w.heap.setIfInBounds b (.map es' c') } -> yX qk es'.toList (eT qx n bv) -> o.wp P a w (Ends ω a w o.dst k r) Q:=by
        intro es' c' hrun Fs;have hh:({ w with heap:=w.heap.setIfInBounds b (.map es' c') }:World).heap[b]? = some (.map es' c'):=by simp[A7]
        refine u7 (w':={ w with heap:=w.heap.setIfInBounds b (.map es' c') }) ?_ ?_
        · unfold execOp
          simp only[ho];rw[Sem.run_bind, hrun];rfl
        · have hne:id ≠ 0:=h.qO (by rw[cR]; exact fun e=>by cases e)
          exact pe (h.AT f1 cR (hput _) hh Fs) (eI hne f1 (hput _)) hd cJ
      cases hf:j4 qx n 0 with
      |none=>refine fin (es.push ⟨.int qk n, .bool bv, c⟩) (c + 1) ?_ (by rw[Array.toList_push]; exact p1 c hf);rw[f2, yQ, CC];unfold Instr.mapUpdate;rw[hf]at hfind;simp only[Sem.run_bind, run_underlying hu, Result.andThen, MapKept.run_getObj_map f3, Bp, hfind, Option.map_none, MapKept.run_setObj_map _ f3]
      |some p=>
        obtain⟨j, bb⟩:=p;obtain⟨_, e, e1, e2, e3⟩:=p2 j bb hf;rw[Nat.sub_zero]at e1 e3;refine fin (es.modify j fun e=>{ e with key:=.int qk n, val:=.bool bv }) c ?_ (by rw[Array.toList_modify]; exact e3);rw[f2, yQ, CC];unfold Instr.mapUpdate;rw[hf]at hfind;have hkey:((es[j]?).map (·.key)).getD (.int qk n) = .int qk n:=by
          have:es[j]? = some e:=by rw[<- Array.getElem?_toList]; exact e1
          rw[this];exact e2
        have G7:(Instr.keyThatStays (.int qk n) (.int qk n)).run P w = .ok (.int qk n) w:=by
          unfold Instr.keyThatStays;have:Instr.sameBits 10000 (.int qk n) (.int qk n) = true:=by simp only[Instr.sameBits, beq_self_eq_true, Bool.true_and]; exact beq_self_eq_true (α:=Int) n
          rw[this];rfl
        simp only[Sem.run_bind, run_underlying hu, Result.andThen, MapKept.run_getObj_map f3, Bp, hfind, Option.map_some, hkey, G7, MapKept.run_setObj_map _ f3]
    · cases cJ
  · cases hk
end
end Go.R
namespace Go.R
section
variable {R:Type} {P:Program} {E:Env} {ω:aK} {a:Act} {w:World} {s:S} {k:S->Option R} {r:R} {o:Oper} {Q:Exit->Act->World->Prop}
def jr(w:World)(ω:aK)(w':World)(aI:aK):Prop:=w.heap.size<=w'.heap.size/\∀b,b<w.heap.size->ω b=none->w'.heap[b]? = w.heap[b]? /\ aI b=none
theorem dK.stays{w':World}{aI:aK}(h:dK ω w aI w'):jr w ω w' aI:=⟨h.size,fun b hb hn=>by have:=h.block b hb (.inl hn);exact⟨this.1,this.2.trans hn⟩⟩
theorem jr.trans{w' w'':World}{aI bN:aK}(h:jr w ω w' aI)(h':jr w' aI w'' bN):jr w ω w'' bN:=⟨Nat.le_trans h.1 h'.1,fun b hb hn=>by have h1:=h.2 b hb hn;have h2:=h'.2 b (Nat.lt_of_lt_of_le hb h.1) h1.2;exact⟨h2.1.trans h1.1,h2.2⟩⟩
theorem jr.keeps{w':World}{aI:aK}(h:jr w ω w' aI):lU w ω w' aI .cz:=by
 intro b hb hk;rcases hk with hk|⟨k,_,hk⟩
 ·have:=h.2 b hb hk;exact⟨this.1,this.2.trans hk.symm⟩
 ·exact hk.elim
theorem jr.eo{w':World}{aI:aK}(h:jr w ω w' aI){v:Value}{cs:aJ}{x:cs.T}{off:Nat}(hr:iB w ω v cs x off):iB w' aI v cs x off:=by obtain⟨b,o',h1,h2,h3,h4⟩:=hr;have hb:=h.2 b h2 h1;exact⟨b,o',hb.2,Nat.lt_of_lt_of_le h2 h.1,h3,aJ.cD h.1 cs _ _ _ 0 _ (fun _=>h.keeps) (fun j=>fo (a:=⟨b,o'+j,none⟩) hb.1) h4⟩
theorem k8{w':World}{aI:aK}(h:jr w ω w' aI):∀(vs:List (KV real)) (us:List Value) (b:Nat),(∀v∈vs,v.1.mj=true)->fg w ω b vs us->fg w' aI b vs us
 | [],[],_,_,_=>trivial
 | [],_::_,_,_,hr=>hr.elim
 |_::_,[],_,_,hr=>hr.elim
 |⟨kk,x⟩::vs,u::us,b,ha,hr=>by
  refine⟨?_,k8 h vs us (b+1) (fun v hv=>ha v (by simp[hv])) hr.2⟩;have h0:=ha ⟨kk,x⟩ (by simp);have h1:=hr.1;cases kk with
  |val t=>exact Ty.cD h.1 t .cz u x h.keeps h1
  |arr _ _ _=>cases h0
  |mp _=>cases h0
theorem oM{w':World}{aI:aK}(h:jr w ω w' aI):∀(aW:List Sh) (vs:List (KV real)) (us:List Value) (b:Nat), aW.all Sh.eJ = true -> vs.map (·.1) = (aW.map Sh.ks).flatten -> fF w ω b aW vs us -> fF w' aI b aW vs us
  | [], _, _, _, _, _, hr=>hr
  |sh:: aW, vs, [], _, _, _, hr=>hr.elim
  |sh:: aW, vs, u:: us, b, hl, hk, hr=>by
    obtain⟨r1, r2, r3⟩:=hr;rw[List.all_cons, Bool.and_eq_true]at hl;simp only[List.map_cons, List.flatten_cons]at hk;have cQ:(vs.take sh.ks.length).map (·.1) = sh.ks:=by rw[List.map_take, hk, List.take_left'];rfl
    have cJ:(vs.drop sh.ks.length).map (·.1) = (aW.map Sh.ks).flatten:=by rw[List.map_drop, hk, List.drop_left'];rfl
    refine⟨r1, ?_, oM h aW _ us _ hl.2 cJ r3⟩;have pF:=hl.1;cases sh with
    |one kk=>
      obtain⟨v, e1, e2⟩:=r2;rw[e1]at cQ;have hv:v.1 = kk:=by simpa[Sh.ks] using cQ
      refine⟨v, e1, (k8 h [v] [u] b (fun v' fH=>?_) ⟨e2, trivial⟩).1⟩;rw[List.mem_singleton]at fH;subst fH;rw[hv];simpa[Sh.eJ] using pF
    |agg ks=>
      obtain⟨cells, e1, e2⟩:=r2;refine⟨cells, e1, k8 h _ cells b (fun v hv=>?_) e2⟩;have hm:v.1 ∈ ks:=by have:v.1 ∈ ((vs.take (Sh.agg ks).ks.length).map (·.1)):=List.mem_map.2 ⟨v, hv, rfl⟩;rw[cQ]at this;exact this
      simpa using List.all_eq_true.1 pF _ hm
    |blk _=>cases pF
    |ro cs=>obtain⟨x, e1, e2⟩:=r2;exact⟨x, e1, h.eo e2⟩
    |fn f aM=>
      obtain⟨cv, e1, e2, e3⟩:=r2;refine⟨cv, e1, ?_, e3⟩;have key:∀(cv:List Value) (cc:List (dc real)), (∀c ∈ cc, ∃cs x, c = .ro cs x) -> bi (fun v c=>gr w ω ⟨fun _=>.dead, fun _=>⟨0, 0, .gone⟩⟩ v c) cv cc -> bi (fun v c=>gr w' aI ⟨fun _=>.dead, fun _=>⟨0, 0, .gone⟩⟩ v c) cv cc:=by
        intro cv;induction cv with
        |nil=>intro cc _ h2; cases cc with|nil=>trivial|cons _ _=>exact h2.elim
        |cons v cv ih=>
          intro cc hro h2;cases cc with
          |nil=>exact h2.elim
          |cons c cc=>refine⟨?_, ih cc (fun c' dY=>hro c' (by simp[dY])) h2.2⟩;obtain⟨cs, x, rfl⟩:=hro c (by simp);exact h.eo h2.1
      exact key cv _ e3 e2
    |py _ _=>cases pF
theorem nj:∀(vs:List (KV real)) (b:Nat) (s:S),(∀v∈vs,v.1.mj=true)->(∀i,(s.ob i).o=.gone)->∀i,((ez b vs s).2.ob i).o=.gone
 | [],_,_,_,h,i=>h i
 |⟨kk,x⟩::vs,b,s,ha,h,i=>by
  simp only[ez];refine nj vs (b+1) _ (fun v hv=>ha v (by simp[hv])) (fun j=>?_) i;have h0:=ha ⟨kk,x⟩ (by simp);cases kk with
  |val t=>
   simp only[dG];by_cases e:j=b
   ·subst e;unfold St.new;rw[St.aX]
   ·unfold St.new;rw[St.bB _ _ e];exact h j
  |arr _ _ _=>cases h0
  |mp _=>cases h0
theorem nT:∀(aW:List Sh) (vs:List (KV real)) (b:Nat) (s:S), aW.all Sh.eJ = true -> vs.map (·.1) = (aW.map Sh.ks).flatten -> (∀i, (s.ob i).o = .gone) -> ∀i, ((bC b aW vs s).2.ob i).o = .gone
  | [], _, _, _, _, _, h, i=>h i
  |sh:: aW, vs, b, s, hl, hk, h, i=>by
    rw[List.all_cons, Bool.and_eq_true]at hl;simp only[List.map_cons, List.flatten_cons]at hk;have cQ:(vs.take sh.ks.length).map (·.1) = sh.ks:=by rw[List.map_take, hk, List.take_left'];rfl
    have cJ:(vs.drop sh.ks.length).map (·.1) = (aW.map Sh.ks).flatten:=by rw[List.map_drop, hk, List.drop_left'];rfl
    simp only[bC];refine nT aW _ _ _ hl.2 cJ (fun j=>?_) i;have pF:=hl.1;have ha:∀ks, sh.ks = ks -> (ks.all K.mj) = true -> ∀v ∈ vs.take sh.ks.length, v.1.mj = true:=by
      intro ks e hall v hv;have hm:v.1 ∈ ks:=by have:v.1 ∈ ((vs.take sh.ks.length).map (·.1)):=List.mem_map.2 ⟨v, hv, rfl⟩;rw[cQ, e]at this;exact this
      simpa using List.all_eq_true.1 hall _ hm
    cases sh with
    |one kk=>
      have hv:=ha [kk] rfl (by simpa[Sh.eJ] using pF);cases hvs:vs.take (Sh.one kk).ks.length with
      |nil=>simp only[cK]; exact h j
      |cons v rest=>
        cases rest with
        |nil=>rw[hvs]at hv;simp only[cK];exact nj [v] b s hv h j
        |cons _ _=>simp only[cK]; exact h j
    |agg ks=>exact nj _ b s (ha ks rfl pF) h j
    |blk _=>cases pF
    |ro cs=>simp only[cK];cases jE (A:=real) cs (vs.take (Sh.ro cs).ks.length) <;> exact h j
    |fn f aM=>exact h j
    |py _ _=>cases pF
def vals(t:bK)(a:Act):List Value:=t.map fun p=>a.tmps.getD p.1 undef
def jK(w:World)(ω:aK)(a:Act)(t:bK)(kx:fE real (bK.ks t)):Prop:=fF w ω 1 (t.map (·.2)) (cl _ kx) (vals t a)
theorem j3:∀(ks:List K) (x:fE real ks), (cl ks x).map (·.1) = ks
  | [], _=>rfl
  |k:: ks, (x, r)=>congrArg (k:: ·) (j3 ks r)
theorem u6(t:bK)(a:Act)(j d:Nat)(hd:(t.map (·.1))[j]? = some d)(u:Value)(hu:(vals t a)[j]? = some u):a.tmps.getD d undef = u:=by
  unfold vals at hu;rw[List.getElem?_map]at hd hu;cases Gu:t[j]? with
  |none=>rw[Gu]at hd; cases hd
  |some p=>rw[Gu]at hd hu;have hd:=Option.some.inj hd;have hu:=Option.some.inj hu;subst hd;exact hu
def mh(keep cX:bK)(kx:fE real (bK.ks keep))(x:fE real (bK.ks cX)):S:=vW cX x (vW keep kx St.start)
theorem Af(t:bK):((t.map (·.2)).map Sh.ks).flatten = bK.ks t:=by unfold bK.ks; rw[List.map_map]; rfl
theorem ur {keep cX:bK} {kx:fE real (bK.ks keep)} {x:fE real (bK.ks cX)} (hl:(keep.map (·.2)).all Sh.eJ = true) (HZ:H6 w ω) (hinj:∀b b' k, ω b = some k -> ω b' = some k -> b = b') (hdom:∀b k, ω b = some k -> b<w.heap.size) (Bq:a.defers = [])
    (hk:jK w ω a keep kx) (hx:jK w ω a cX x):Rel ω a w (mh keep cX kx x):=by
  have h1:Rel ω a w (vW keep kx St.start):=pM HZ (by omega) hinj hdom Bq (fun _=>rfl) (fun _=>trivial) hk (u6 keep a);have hg:∀i, ((vW keep kx St.start).ob i).o = .gone:=by intro i;unfold vW;rw[nA];exact nT _ _ 1 _ hl (by rw[j3, Af]) (fun _=>rfl) i
  exact pM HZ (by omega) hinj hdom Bq hg h1.slots hx (u6 cX a)
theorem qq(h:Rel ω a w s):∀t:bK,bi (df w ω s) (vals t a) (t.map fun p=>s.sl p.1)
 | []=>trivial
 |p::t=>⟨h.slots p.1,qq h t⟩
theorem qG(h:Rel ω a w s){t:bK}{x:fE real (bK.ks t)}{s1:S}(ht:iU t s = some (x, s1)):
    ∃bc m, Passes ω a w s bc s1 /\ cA w ω s bc s1 m 1 (1 + aL (t.map (·.2))) /\ ((t.map (·.2)).all Sh.eJ = true -> m = []) /\ ∀bW s2 aI, dl bc s1 bW s2 -> fG w bW aI m -> jK w aI a t x:=by
  unfold iU at ht;cases hq:bL (t.map (·.2)) (t.map fun p=>s.sl p.1) s with
  |none=>rw[hq]at ht; cases ht
  |some q=>
    obtain⟨vs, s2⟩:=q;rw[hq]at ht;simp only at ht;cases hx:kp (bK.ks t) vs with
    |none=>rw[hx]at ht; cases ht
    |some y=>
      rw[hx]at ht;have ht:=Option.some.inj ht;injection ht with e1 e2
      subst e1; subst e2;obtain⟨bc, m, p1, g1, n1, r1⟩:=gW _ _ _ ω s vs s2 1 h (qq h t) hq;refine⟨bc, m, p1, g1, n1, fun bW s3 aI hL hS=>?_⟩;unfold jK;rw[gd _ _ _ hx];exact r1 bW s3 aI hL hS
theorem zw(h:Rel ω a w s){keep cX:bK}{kx:fE real (bK.ks keep)}{s1:S}{x:fE real (bK.ks cX)}{s2:S}(hl:(keep.map (·.2)).all Sh.eJ = true)(h1:iU keep s = some (kx, s1))(h2:iU cX s1 = some (x, s2)):
    ∃aI, Rel aI a w (mh keep cX kx x) /\ dK ω w aI w /\ jK w aI a keep kx:=by
  obtain⟨bc, m1, p1, g1, n1, r1⟩:=qG h h1;obtain⟨bW, m2, p2, g2, n2, r2⟩:=qG p1.rel h2;have hm:=n1 hl;subst hm;have hS:fG w bW (bW.named m2) m2:=fe g2;have hk:=r1 bW s2 (bW.named m2) g2.later ⟨hS.none, fun _ _ h=>nomatch h⟩;exact⟨bW.named m2, ur hl (p2.rel.HY.ext (kH _ _ _)) (nr (by omega) g2 p2.rel.inj) (nq p2.rel.dom) p2.rel.defers hk (r2 bW s2 _ (dl.refl _ _) hS), (p1.ext.trans p2.ext).trans (kH _ _ _), hk⟩
theorem uA (h:Rel ω a w s) {oH:aK} {w0:World} {a0:Act} {keep t:bK} {kx:fE real (bK.ks keep)} {x:fE real (bK.ks t)} {s1:S} (hl:(keep.map (·.2)).all Sh.eJ = true) (lA:jK w0 oH a0 keep kx) (he:dK oH w0 ω w)
    (hsame:∀p ∈ keep, a.tmps.getD p.1 undef = a0.tmps.getD p.1 undef) (h1:iU t s = some (x, s1)):∃aI, Rel aI a w (mh keep t kx x) /\ dK ω w aI w /\ jK w aI a keep kx:=by
  obtain⟨bc, m1, p1, g1, n1, r1⟩:=qG h h1;have hS:fG w bc (bc.named m1) m1:=fe g1;have hv:vals keep a = vals keep a0:=by unfold vals;exact List.map_congr_left hsame
  have hst:jr w0 oH w (bc.named m1):=(he.trans (p1.ext.trans (kH _ _ m1))).stays;have hk:jK w (bc.named m1) a keep kx:=by unfold jK;rw[hv];exact oM hst _ _ _ 1 hl (by rw[j3, Af]) lA
  exact⟨bc.named m1, ur hl (p1.rel.HY.ext (kH _ _ _)) (nr (by omega) g1 p1.rel.inj) (nq p1.rel.dom) p1.rel.defers hk (r1 bc s1 _ (dl.refl _ _) hS), p1.ext.trans (kH _ _ _), hk⟩
end
end Go.R
namespace Go.R
structure gY where
 look:Bool
 args:List Sh
 aP:List Sh
 fn:fE real ((args.map Sh.ks).flatten)->Option (fE real ((aP.map Sh.ks).flatten++(dZ look args++(eD args).flatten)))
def gY.callee(F:gY)(R:Type):Callee real (Option R):=⟨F.look,F.args,F.aP,fun x k=>(F.fn x).bind k⟩
def kP(Ψ:bR -> Option gY)(R:Type):bR -> Option (Callee real (Option R)):=fun f=>(Ψ f).map (·.callee R)
structure ep where
 keep:bK
 cX:bK
 cG:List (Ex×bK)
 fn:fE real (bK.ks keep)->fE real (bK.ks cX)->Option (jz real cG)
def ep.s6(l:ep)(R:Type):yU real (Option R):=⟨l.keep,l.cX,l.cG,fun kx x k=>(l.fn kx x).bind fun q=>jz.elim l.cG q k⟩
def pX(Λ:Nat -> Option ep)(R:Type):Nat -> Option (yU real (Option R)):=fun n=>(Λ n).map (·.s6 R)
def gJ(P:Program)(E:Env)(Ψ:bR->Option gY):Prop:=
 ∀(R:Type) (o:Oper) (f:Operand) (args:Array Operand) (fC:Array Nat) (ω:aK) (a:Act) (w:World) (s:S) (k:S->Option R) (r:R) (Q:Exit->Act->World->Prop),
  o.op=.call ⟨.value f,args,fC⟩->Rel ω a w s->(∀d,o.dst=some d->d<a.tmps.size)->bl E (aO R) (kP Ψ R) o s k=some r->o.wp P a w (Ends ω a w o.dst k r) Q
section
variable {R:Type} {P:Program} {E:Env} {Ψ:bR->Option gY} {ω:aK} {a:Act} {w:World} {s:S} {k:S->Option R} {r:R} {o:Oper} {Q:Exit->Act->World->Prop}
theorem uS (hE:cm P E) (hC:gJ P E Ψ) (h:Rel ω a w s) (hd:∀d,o.dst=some d->d<a.tmps.size)
  (hk:bl E (aO R) (kP Ψ R) o s k=some r):o.wp P a w (Ends ω a w o.dst k r) Q:=by
 cases ho:o.op with
 |move x=>exact sn (E:=E) (.inl ho) h hd (by unfold bl at hk;simp only[ho]at hk;exact hk)
 |assign x=>exact sn (E:=E) (.inr ho) h hd (by unfold bl at hk;simp only[ho]at hk;exact hk)
 |pick c x y=>exact yy (E:=E) ho h hd (by unfold bl at hk;simp only[ho]at hk;exact hk)
 |alloc t=>exact ww hE ho h hd hk
 |box t x=>exact AS hE ho h hd hk
 |build t ps=>exact wx hE ho h hd hk
 |buildSlice t n ps=>exact ou hE ho h hd hk
 |load t x=>exact yw hE ho h hd hk
 |store t p v=>exact wC hE ho h hd hk
 |nilCheck x=>exact qZ ho h hd hk
 |binOp op t x y yt=>exact AR hE ho h hd hk
 |unOp op t x=>exact BS ho h hd hk
 |convert src dst x=>exact td hE ho h hd hk
 |makeFunc fn first captured=>
  cases fn with
  |func f=>exact qY ho h hd hk
  |_=>unfold bl at hk;simp only[ho]at hk;cases hk
 |makeSlice t n c=>exact qw hE ho h hd hk
 |makeMap t r=>exact th hE ho h hd hk
 |lookup t m x ok=>exact uT hE ho h hd hk
 |mapUpdate t m x v=>exact qy hE ho h hd hk
 |slice t x lo hi mx=>exact wA hE ho h hd hk
 |fieldAddr t x f=>exact qu hE ho h hd hk
 |field t x f=>exact wy hE ho h hd hk
 |indexAddr t x i=>exact qv hE ho h hd hk
 |index t x i=>exact wz hE ho h hd hk
 |extract t i=>exact tf ho h hd hk
 |call c=>
  obtain⟨A4,args,fC⟩:=c;cases A4 with
  |value f=>exact hC R o f args fC ω a w s k r Q ho h hd hk
  |invoke _ _=>unfold bl at hk;simp only[ho]at hk;cases hz:Nat.beq args.size fC.size <;> rw[hz]at hk <;> cases hk
  |builtin b=>
   have hsz:args.size=fC.size:=by
    unfold bl at hk;simp only[ho]at hk;cases hz:Nat.beq args.size fC.size with
    |true=>exact Nat.eq_of_beq_eq_true hz
    |false=>rw[hz]at hk;cases hk
   by_cases hb:b=.append
   ·subst hb;exact step_append hE ho hsz h hd hk
   ·by_cases hb':b=.len\/b=.min\/b=.max
    ·exact wB hE ho hb' hsz h hd hk
    ·exfalso;have z6:Nat.beq args.size fC.size=true:=by rw[hsz];exact Nat.beq_refl _
     unfold bl at hk;simp only[ho,z6,cond_true]at hk;unfold dy at hk;split at hk <;> first|exact hb rfl|exact hb' (.inl rfl)|exact hb' (.inr (.inl rfl))|exact hb' (.inr (.inr rfl))|cases hk
 |_=>unfold bl at hk;simp only[ho]at hk;cases hk
def E1:Exit->Ex->Prop
 | .normal,.normal=>True
 | .exit i,.exit j=>i=j
 | .ret,.ret=>True
 |_,_=>False
def Post{R:Type}(U:Nat->Prop)(ω:aK)(a:Act)(w:World)(k:Ex->S->Option R)(r:R):Exit->Act->World->Prop:=fun e a' w'=>∃ex aI s',E1 e ex/\Rel aI a' w' s'/\dK ω w aI w'/\k ex s'=some r/\a'.tmps.size=a.tmps.size/\∀j,U j->a'.tmps.getD j undef=a.tmps.getD j undef
theorem Rel.reset(h:Rel ω a w s){d:Nat}{t:ck}(ht:df w ω s (a.tmps.getD d undef) t):Rel ω a w (s.set d t) where
 HY:=h.HY
 inj:=h.inj
 dom:=h.dom
 defers:=h.defers
 dN:=h.dN
 slots i:=by
  have tr:∀id,Tr w ω s w ω (s.set d t) id:=fun id=>Tr.mD h.dom rfl;by_cases e:i=d
  ·subst e;rw[St.ig];exact df.frame (dK.refl _ _) tr ht
  ·rw[St.kK _ _ e];exact df.frame (dK.refl _ _) tr (h.slots i)
 dx id cells hc:=by obtain⟨b,arr,T,h1,h2,h3⟩:=h.dx id cells hc;exact⟨b,arr,T,h1,h2,h3.mono fun _ _ hl=>cw.frame (dK.refl _ _) (fun id=>Tr.mD h.dom rfl) hl⟩
theorem mM{ops:Array Oper}{tmps:Array Value}{j t:Nat}{b:Bool}(ht:(ops[j]?).bind (·.dst) = some t)(hv:tmps.getD t undef = .bool b):yielded ops tmps j = some b:=by
  unfold yielded;rw[ht];simp only[Option.bind_some];rw[Array.getD_eq_getD_getElem?]at hv;cases hq:tmps[t]? with
  |none=>rw[hq]at hv; cases hv
  |some v=>rw[hq]at hv; simp at hv; subst hv; rfl
theorem kZ{ops:Array Oper}{tmps:Array Value}{j t:Nat}(ht:(ops[j]?).bind (·.dst) = some t)(hv:tmps.getD t undef = undef):yielded ops tmps j = none:=by
  unfold yielded;rw[ht];simp only[Option.bind_some];rw[Array.getD_eq_getD_getElem?]at hv;cases hq:tmps[t]? with
  |none=>rfl
  |some v=>rw[hq]at hv; simp at hv; subst hv; rfl
theorem s5(hE:cm P E)(hC:gJ P E Ψ){ops:Array Oper}{U:Nat -> Prop}:∀(l:List Oper) (ω:aK) (a:Act) (w:World) (s:S) (k:S -> Option R) (Qn:Exit -> Act -> World -> Prop), (∀o ∈ l, ∀j, U j -> o.dst ≠ some j) -> a.tmps.size = E.nt -> Rel ω a w s -> nu E (aO R) (kP Ψ R) ops l s k = some r ->
    (∀aI a' w' s', Rel aI a' w' s' -> dK ω w aI w' -> k s' = some r -> a'.tmps.size = a.tmps.size -> (∀j, U j -> a'.tmps.getD j undef = a.tmps.getD j undef) -> Qn .normal a' w') -> wpList P ops Qn l a w
  | [], ω, a, w, s, k, Qn, _, _, h, hk, hQ=>hQ ω a w s h (dK.refl _ _) hk rfl (fun _ _=>rfl)
  |o:: rest, ω, a, w, s, k, Qn, hU, hn, h, hk, hQ=>by
    simp only[nu]at hk;cases qR:rV E o.dst with
    |false=>rw[qR]at hk; cases hk
    |true=>
      rw[qR]at hk;simp only[cond_true]at hk;have hd:∀d, o.dst = some d -> d<a.tmps.size:=by intro d e;rw[e]at qR;have h1:d + 1 <= E.nt:=Nat.le_of_ble_eq_true qR;rw[hn];exact h1
      have Gd:∀o' ∈ rest, ∀j, U j -> o'.dst ≠ some j:=fun o' cR=>hU o' (by simp[cR]);have DJ:=hU o (by simp);have yes:∀(s0:S), Rel ω a w s0 -> (bl E (aO R) (kP Ψ R) o s0 fun s1=>nu E (aO R) (kP Ψ R) ops rest s1 k) = some r -> o.wp P a w (wpList P ops Qn rest) Qn:=by intro s0 h0 lA;refine Oper.wp_mono (fun a' w' nP=>?_) (uS hE hC h0 hd lA);obtain⟨aI, s', g1, g2, g3, g4, g5⟩:=nP;refine s5 hE hC rest aI a' w' s' k Qn Gd (g4.trans hn) g1 g3 (fun bW a2 w2 s2 q1 q2 q3 q4 q5=>?_);exact hQ bW a2 w2 s2 q1 (g2.trans q2) q3 (q4.trans g4) (fun j hj=>(q5 j hj).trans (g5 j (DJ j hj)))
      have no:∀(s0:S), Rel ω a w s0 -> nu E (aO R) (kP Ψ R) ops rest (s0.cg o.dst (.one .undef)) k = some r -> wpList P ops Qn rest (a.put o.dst undef) w:=by intro s0 h0 lA;have h1:Rel ω (a.put o.dst undef) w (s0.cg o.dst (.one .undef)):=h0.cg hd (t:=.one .undef) rfl;refine s5 hE hC rest ω _ w _ k Qn Gd ((iR _ _ _).trans hn) h1 lA (fun bW a2 w2 s2 q1 q2 q3 q4 q5=>?_);exact hQ bW a2 w2 s2 q1 q2 q3 (q4.trans (iR _ _ _)) (fun j hj=>(q5 j hj).trans (kI _ _ _ (DJ j hj)))
      unfold wpList;cases hg:o.guard with
      |none=>rw[hg]at hk;rw[if_pos (by simp[Region.wanted, hg])];exact .inl (yes s h hk)
      |some gw=>
        obtain⟨j, want⟩:=gw;rw[hg]at hk;simp only at hk;cases ht:(ops[j]?).bind (·.dst)with
        |none=>rw[ht]at hk; cases hk
        |some t=>
          rw[ht]at hk;simp only at hk;have jC:=h.slots t;have main:∀b:Bool, df w ω s (a.tmps.getD t undef) (.one (.val .bool (real.lD b))) ->
              (bif b then(bif want then bl E (aO R) (kP Ψ R) o (s.set t (.one (.val .bool (real.lD true)))) (fun s1=>nu E (aO R) (kP Ψ R) ops rest s1 k)else nu E (aO R) (kP Ψ R) ops rest ((s.set t (.one (.val .bool (real.lD true)))).cg o.dst (.one .undef)) k)
                else(bif want then nu E (aO R) (kP Ψ R) ops rest ((s.set t (.one (.val .bool (real.lD false)))).cg o.dst (.one .undef)) k else bl E (aO R) (kP Ψ R) o (s.set t (.one (.val .bool (real.lD false)))) (fun s1=>nu E (aO R) (kP Ψ R) ops rest s1 k))) = some r ->
              if Region.wanted o (yielded ops a.tmps)then o.wp P a w (wpList P ops Qn rest) Qn \/ (o.asks P a w /\ LetsOut Qn)else wpList P ops Qn rest (a.put o.dst undef) w:=by
            intro b jC hk';have hv:a.tmps.getD t undef = .bool b:=jC;have hy:=mM (ops:=ops) ht hv;have hw:Region.wanted o (yielded ops a.tmps) = (some b==some want):=by simp[Region.wanted, hg, hy]
            rw[hw];have BF:=h.reset jC;cases b with
            |true=>
              cases want with
              |true=>rw[if_pos (by rfl)]; exact .inl (yes _ BF hk')
              |false=>rw[if_neg (by decide)]; exact no _ BF hk'
            |false=>
              cases want with
              |true=>rw[if_neg (by decide)]; exact no _ BF hk'
              |false=>rw[if_pos (by rfl)]; exact .inl (yes _ BF hk')
          cases hst:s.sl t with
          |one l=>
            rw[hst]at hk jC;cases l with
            |val tt b0=>
              cases tt with
              |bool=>exact main b0 jC hk
              |_=>cases hk
            |undef=>have hv:a.tmps.getD t undef = undef:=jC;have hy:=kZ (ops:=ops) ht hv;rw[if_neg (by simp[Region.wanted, hg, hy])];exact no s h hk
            |_=>cases hk
          |agg _=>rw[hst]at hk; cases hk
          |nE _=>rw[hst]at hk; cases hk
end
end Go.R
namespace Go.R
section
variable {R:Type} {E:Env} {Ψ:bR->Option gY}
noncomputable def j7(E:Env)(Ψ:bR->Option gY)(o:Oper)(s:S):Option S:=bl E (aO S) (kP Ψ S) o s some
theorem aD{α:Type}{x:Option α}{f:α->Option R}{g:α->Option S}{k:S->Option R}(h:∀y,f y=(g y).bind k):ar (aO R) x f=(ar (aO S) x g).bind k:=by
 cases x with
 |none=>rfl
 |some y=>exact h y
theorem aY{b:Bool}{x y:Option R}{x' y':Option S}{k:S->Option R}(hx:x=x'.bind k)(hy:y=y'.bind k):(bif b then x else y)=(bif b then x' else y').bind k:=by
 cases b
 ·exact hy
 ·exact hx
theorem oS(tb:Bool)(op:BinOp)(x y:L)(f:L->Option R)(g:L->Option S)(k:S->Option R)(h:∀l,f l=(g l).bind k):kL (aO R) tb op x y f=(kL (aO S) tb op x y g).bind k:=by
 unfold kL;cases x with
 |val t x=>
  cases y with
  |val u y=>
   cases t <;> cases u <;> simp only[] <;> first
    |rfl
    |(cases op <;> first
      |rfl
      |exact aY rfl (h _)
      |exact aY (h _) rfl
      |exact h _
      |(simp only[];split <;> first|rfl|exact h _|exact aY rfl (h _)))
    |(cases tb <;> cases op <;> first|rfl|exact h _)
    |skip
  |_=>cases t <;> rfl
 |_=>rfl
theorem tc(d:Nat)(s:S)(x:ck)(c:Cont real)(b:Bool)(l h:IV)(f:ck->S->Option R)(g:ck->S->Option S)(k:S->Option R)(hk:∀v s,f v s=(g v s).bind k):eV E (aO R) d s x c b l h f=(eV E (aO S) d s x c b l h g).bind k:=by
 unfold eV;cases x with
 |one q=>
  cases q with
  |ref id gg hh p=>
   cases p with
   |nil=>simp only[];refine aY (hk _ _) (aY (aY rfl (hk _ _)) (hk _ _))
   |cons _ _=>rfl
  |_=>exact hk _ _
 |_=>exact hk _ _
theorem wu(d t:Nat)(s:S)(x:ck)(lo hi mx:Option Operand)(f:ck->S->Option R)(g:ck->S->Option S)(k:S->Option R)(hk:∀v s,f v s=(g v s).bind k):jk E (aO R) d t s x lo hi mx f=(jk E (aO S) d t s x lo hi mx g).bind k:=by
 unfold jk;refine aD fun q=>aD fun c=>aY (aY (hk _ _) ?_) rfl;cases mx with
 |some _=>rfl
 |none=>exact aD fun l=>aD fun h=>aY (tc _ _ _ _ _ _ _ _ _ _ hk) rfl
theorem rC(F:gY)(d:Nat)(args:List ck)(s:S)(f:ck->S->Option R)(g:ck->S->Option S)(k:S->Option R)(hk:∀v s,f v s=(g v s).bind k):jt (aO R) (F.callee R) d args s f=(jt (aO S) (F.callee S) d args s g).bind k:=by
 unfold jt;refine aD fun s1=>aD fun vs=>aD fun x=>?_;show(F.fn x).bind _=((F.fn x).bind _).bind k;cases F.fn x with
 |none=>rfl
 |some y=>exact aD fun s2=>hk _ _
theorem xC(F:gY)(d:Nat)(args:List ck)(s:S)(f:ck->S->Option R)(g:ck->S->Option S)(k:S->Option R)(hk:∀v s,f v s=(g v s).bind k):lY (aO R) (F.callee R) d args s f=(lY (aO S) (F.callee S) d args s g).bind k:=by
 unfold lY;refine aY (aY ?_ (aY (aD fun r=>aD fun x=>?_) rfl)) rfl
 ·cases hq:dR (aZ d 0 0+2047) F.args args s with
  |none=>have e1:dR (aZ d 0 0+2047) (F.callee R).args args s=none:=hq;have e2:dR (aZ d 0 0+2047) (F.callee S).args args s=none:=hq;rw[e1,e2];exact rC F d args s f g k hk
  |some q=>have e1:dR (aZ d 0 0+2047) (F.callee R).args args s=some q:=hq;have e2:dR (aZ d 0 0+2047) (F.callee S).args args s=some q:=hq;rw[e1,e2];exact rC F d q.1 q.2.1 _ _ k fun v s2=>aD fun s3=>hk _ _
 ·show(F.fn x).bind _=((F.fn x).bind _).bind k;cases F.fn x with
  |none=>rfl
  |some y=>exact aD fun s2=>hk _ _
theorem sE(d:Nat)(b:Builtin)(fC:List Nat)(args:List ck)(s:S)(f:ck->S->Option R)(g:ck->S->Option S)(k:S->Option R)(hk:∀v s,f v s=(g v s).bind k):dy E (aO R) d b fC args s f=(dy E (aO S) d b fC args s g).bind k:=by
 unfold dy;split
 ·refine aY (aD fun _=>hk _ _) (aD fun _=>aD fun _=>hk _ _)
 ·exact aD fun _=>aD fun _=>hk _ _
 ·exact aD fun _=>aD fun _=>hk _ _
 ·refine aD fun q=>aD fun _=>aD fun cx=>aD fun cy=>aY rfl ?_;split
  ·rfl
  ·refine aY ?_ ?_
   ·split
    ·refine aY ?_ rfl;split
     ·exact aY (hk _ _) rfl
     ·rfl
    ·rfl
   ·split
    ·exact aY (hk _ _) rfl
    ·rfl
 ·rfl
theorem yq(o:Oper)(s:S)(k:S->Option R):bl E (aO R) (kP Ψ R) o s k=(j7 E Ψ o s).bind k:=by
 unfold j7 bl;have hp:∀(v:ck) (s:S),k (s.cg o.dst v)=(some (s.cg o.dst v)).bind k:=fun _ _=>rfl;cases o.op with
 |pick c a b=>exact aD fun c=>aY rfl rfl
 |alloc t=>exact aD fun i=>rfl
 |box t x=>exact aD fun i=>aD fun v=>aY (aY (aD fun r=>rfl) rfl) rfl
 |build t ps=>exact aD fun i=>aY (aD fun cs=>rfl) rfl
 |buildSlice t n ps=>exact aD fun r=>aY (aY (aD fun lss=>aD fun q=>aD fun x=>rfl) (aD fun q=>rfl)) rfl
 |load t p=>
  refine aD fun i=>?_;cases ev E s 0 p with
  |one l=>exact aD fun v=>rfl
  |_=>rfl
 |store t p v=>
  refine aD fun i=>aD fun v=>aY ?_ rfl;cases ev E s 0 p with
  |one l=>exact aD fun v=>rfl
  |_=>rfl
 |nilCheck x=>
  simp only[];cases ev E s 0 x with
  |one l=>
   cases l with
   |ptr id g off=>exact aD fun _=>rfl
   |cf id g h p j off=>exact aD fun c=>aY rfl rfl
   |_=>rfl
  |_=>rfl
 |binOp op t x y yt=>
  simp only[];cases fT E s op t x y with
  |some l=>rfl
  |none=>
  simp only[];cases ev E s t x with
  |one x=>
   cases ev E s t y with
   |one y=>exact oS _ _ _ _ _ _ _ (fun l=>rfl)
   |_=>rfl
  |agg xs=>
   cases ev E s t y with
   |agg ys=>exact aD fun i=>aD fun b=>by cases op <;> rfl
   |_=>rfl
  |nE _=>rfl
 |unOp op t x=>
  simp only[];cases op <;> first|rfl|skip
  all_goals (cases ev E s t x with
   |one l=>cases l with
    |val tt y=>cases tt <;> rfl
    |_=>rfl
   |_=>rfl)
 |convert src dst x=>refine aD fun _=>aD fun i=>aY rfl ?_;split <;> rfl
 |makeFunc fn first captured=>
  cases fn with
  |func f=>exact aY (aD fun cc=>rfl) rfl
  |_=>rfl
 |makeSlice t n c=>exact aD fun r=>aD fun n'=>aY (aY rfl rfl) rfl
 |makeMap t rv=>exact aD fun k=>aY rfl rfl
 |lookup t m x ok=>
  refine aD fun kk=>aY rfl ?_;split
  ·refine aD fun q=>aY ?_ rfl;split <;> rfl
  ·rfl
 |mapUpdate t m x v=>
  refine aD fun kk=>?_;split
  ·refine aD fun q=>aY ?_ rfl;split <;> rfl
  ·rfl
 |slice t x lo hi mx=>exact wu _ _ _ _ _ _ _ _ _ _ (fun v s=>rfl)
 |fieldAddr t x f=>
  refine aD fun i=>aD fun q=>aY rfl ?_;cases ev E s 0 x with
  |one l=>
   cases l with
   |ptr id g off=>exact aD fun _=>rfl
   |cf id g h p j off=>exact aD fun c=>aY rfl rfl
   |_=>rfl
  |_=>rfl
 |field t x f=>
  refine aD fun i=>aD fun q=>aY rfl ?_;cases ev E s t x with
  |agg ls=>exact aY rfl rfl
  |_=>rfl
 |indexAddr t x i=>
  refine aD fun i=>aD fun q=>?_;cases ev E s t x with
  |one l=>
   cases l with
   |val tt y=>
    cases tt with
    |sl e cs=>exact aY (aY rfl rfl) rfl
    |_=>rfl
   |ref id g h p=>exact aD fun c=>aY (aY (aY rfl rfl) rfl) rfl
   |_=>rfl
  |_=>rfl
 |index t x i=>exact aY (aD fun i=>aD fun x=>aY rfl rfl) rfl
 |extract t i=>
  simp only[];cases ev E s 0 t with
  |nE cs=>exact aD fun c=>rfl
  |_=>rfl
 |call c=>
  refine aY ?_ rfl;cases c.callee with
  |builtin b=>exact sE _ _ _ _ _ _ _ _ (fun v s=>rfl)
  |value f=>
   simp only[];cases ev E s 0 f with
   |one l=>
    cases l with
    |fn tj cc=>
     simp only[];unfold kP;cases Ψ (tj,uj ((c.args.toList.zip c.argTypes.toList).map fun p=>ev E s p.2 p.1))with
     |none=>rfl
     |some F=>simp only[Option.map_some,ar];exact xC F _ _ _ _ _ _ (fun v s=>rfl)
    |_=>rfl
   |_=>rfl
  |invoke _ _=>rfl
 |_=>rfl
end
end Go.R
namespace Go.R
abbrev Sl:=Nat->ck
structure Fr where
 sl:Sl
 F:Nat->Bool
 t:Nat->fU real
def St.mx(s:S)(f:Fr):S:=⟨f.sl,fun id=>bif f.F id then s.ob id else f.t id⟩
section
variable {f:Fr}
theorem cM{s:S}{id:Nat}(h:f.F id=true):(s.mx f).ob id=s.ob id:=by show(bif f.F id then s.ob id else f.t id)=_;rw[h];rfl
theorem AA{s:S}{id:Nat}(h:f.F id=true)(q:fU real):(s.mx f).yL id q=(s.yL id q).mx f:=by
 unfold St.mx St.yL;congr 1;funext i;simp only[];cases hb:Nat.beq i id with
 |true=>rw[Nat.eq_of_beq_eq_true hb,h];rfl
 |false=>rfl
theorem dI{s:S}{id:Nat}(h:f.F id=true)(nh:Bool)(o:Ob real):(s.mx f).bM id nh o=(s.bM id nh o).mx f:=by unfold St.bM;rw[cM h];exact AA h _
theorem eA{s:S}{id:Nat}(h:f.F id=true)(o:Ob real):(s.mx f).new id o=(s.new id o).mx f:=by unfold St.new;rw[cM h];exact AA h _
def iX(f:Fr)(ids:List Nat):Prop:=∀id∈ids,f.F id=true
theorem iX.ir{x y:List Nat}(h:iX f (x++y)):iX f x/\iX f y:=⟨fun id hi=>h id (List.mem_append.2 (.inl hi)),fun id hi=>h id (List.mem_append.2 (.inr hi))⟩
def jy(f:Fr)(ls:List L):Prop:=∀l∈ls,iX f l.bk
theorem jy.hd{l:L}{ls:List L}(h:jy f (l::ls)):iX f l.bk:=h l (by simp)
theorem jy.tl{l:L}{ls:List L}(h:jy f (l::ls)):jy f ls:=fun x hx=>h x (by simp[hx])
theorem iX.ref{id g h:Nat}{p:jF}(hf:iX f (Lf.bk (A:=real) (.ref id g h p))):f.F id=true:=hf id (by simp[Lf.bk])
theorem iX.ptr{id g off:Nat}(hf:iX f (Lf.bk (A:=real) (.ptr id g off))):f.F id=true:=hf id (by simp[Lf.bk])
theorem iX.cf{id g h off:Nat}{p:jF}{i:IV}(hf:iX f (Lf.bk (A:=real) (.cf id g h p i off))):f.F id=true:=hf id (by simp[Lf.bk])
theorem iX.cS{id g:Nat}(hf:iX f (Lf.bk (A:=real) (.cS id g))):f.F id=true:=hf id (by simp[Lf.bk])
def iA(s:S)(f:Fr)(ids:List Nat):Prop:=∀id∈ids,∀ls,(s.ob id).o=.blk ls->jy f ls
theorem gz{s:S}{id:Nat}(h:f.F id=true)(g hh:Nat)(p:jF):(s.mx f).cont id g hh p=s.cont id g hh p:=by unfold St.cont;rw[cM h]
theorem fW{s:S}{id:Nat}(h:f.F id=true)(g:Nat):dw (s.mx f) id g=dw s id g:=by unfold dw;rw[cM h]
theorem sY{s:S}{id:Nat}(h:f.F id=true)(g:Nat):sX (s.mx f) id g=sX s id g:=by unfold sX;rw[cM h]
theorem uR{s:S}{l:L}(h:iX f l.bk):eW (s.mx f) l=eW s l:=by
 cases l with
 |ref id g hh p=>simp only[eW];rw[gz h.ref]
 |ptr id g off=>simp only[eW];rw[fW h.ptr]
 |cf id g hh p i off=>simp only[eW];rw[gz h.cf]
 |cS id g=>simp only[eW];rw[sY h.cS]
 |_=>rfl
theorem iF{s:S}{v:ck}(h:jy f v.gq):cells? (s.mx f) v=cells? s v:=by
 cases v with
 |one l=>simp only[cells?];rw[uR (h l (by simp[TV.gq]))]
 |agg ls=>
  have:ls.all (eW (s.mx f))=ls.all (eW s):=by
   have h:jy f ls:=h;induction ls with
   |nil=>rfl
   |cons l ls ih=>simp only[List.all_cons];rw[uR h.hd,ih h.tl h.tl]
  simp only[cells?];rw[this]
 |nE _=>rfl
theorem i5{s:S}{v:ck}{ls:List L}(h:cells? s v=some ls):ls=v.gq:=by
 cases v with
 |one l=>
  simp only[cells?]at h;cases hb:eW s l <;> rw[hb]at h
  ·cases h
  ·exact(Option.some.inj h).symm
 |agg l=>
  simp only[cells?]at h;cases hb:l.all (eW s) <;> rw[hb]at h
  ·cases h
  ·exact(Option.some.inj h).symm
 |nE _=>cases h
theorem Ap{s:S}{l:L}(h:iX f l.bk)(b:Bool)(n:Nat):iN (s.mx f) b n l=iN s b n l:=by
 cases l with
 |ptr id g off=>simp only[iN];rw[fW h.ptr]
 |cf id g hh p i off=>
  have hm:we (s.mx f) id g p i=we s id g p i:=by unfold we;rw[cM h.cf]
  simp only[iN];rw[gz h.cf,hm]
 |_=>rfl
theorem jR{s:S}{v:ck}(h:jy f v.gq):hJ (s.mx f) v=hJ s v:=by
 cases v with
 |one l=>
  cases l with
  |ref id g hh p=>simp only[hJ];exact gz (h (.ref id g hh p) (by simp[TV.gq])).ref _ _ _
  |val t x=>cases t <;> rfl
  |_=>rfl
 |_=>rfl
theorem p8(deep:Bool)(t:Ty)(l:L)(s:S)(h:iX f l.bk):bU (A:=real) deep t l (s.mx f)=(bU (A:=real) deep t l s).map fun q=>(q.1,q.2.mx f):=by
 cases l with
 |val u y=>
  cases u <;> cases deep <;> simp only[bU,cond_true,cond_false] <;> first
   |rfl
   |(split <;> rfl)
 |eR e cs=>cases t <;> simp only[bU] <;> first|rfl|(split <;> rfl)
 |ref id g hh p=>
  cases p with
  |cons _ _=>cases t <;> rfl
  |nil=>
   have ee:=h.ref;have bX:=cM (s:=s) ee;simp only[bU,bX];cases Nat.beq (s.ob id).g g with
   |false=>rfl
   |true=>
    simp only[cond_true];cases (s.ob id).o with
    |arr e cs dp x=>simp only[];split <;> cases deep <;> first|rfl|(simp only[cond_false,Option.map_some];rw[dI ee])
    |cz e cs x=>cases deep <;> simp only[cond_true,cond_false] <;> first|rfl|(split <;> rfl)
    |blk _=>rfl
    |gone=>rfl
    |mp _ _=>rfl
 |_=>cases t <;> rfl
theorem qa(deep:Bool):∀(cs:aJ) (ls:List L) (s:S),jy f ls->eS (A:=real) deep cs ls (s.mx f)=(eS (A:=real) deep cs ls s).map fun q=>(q.1,q.2.mx f)
 | .nil,[],_,_=>rfl
 | .nil,_::_,_,_=>rfl
 | .cons _ _,[],_,_=>rfl
 | .cons t ts,l::ls,s,h=>by
  simp only[eS];rw[p8 _ _ _ _ h.hd];cases bU (A:=real) deep t l s with
  |none=>rfl
  |some q=>simp only[Option.map_some];rw[qa deep ts ls q.2 h.tl];cases eS (A:=real) deep ts ls q.2 <;> rfl
theorem sC(e:Nat)(cs:aJ)(deep:Bool)(l:L)(s:S)(h:iX f l.bk):eE (A:=real) e cs deep l (s.mx f)=(eE (A:=real) e cs deep l s).map fun q=>(q.1,q.2.mx f):=by
 cases l with
 |eR e' cs'=>simp only[eE];split <;> rfl
 |ref id g hh p=>
  cases p with
  |cons _ _=>rfl
  |nil=>
   have ee:=h.ref;have bX:=cM (s:=s) ee;simp only[eE,bX];cases Nat.beq (s.ob id).g g with
   |false=>rfl
   |true=>
    simp only[cond_true];cases (s.ob id).o with
    |arr e' cs' dp x=>
     simp only[];cases (dp==deep||cs'.plain)with
     |false=>rfl
     |true=>simp only[cond_true];split <;> first|rfl|(simp only[Option.map_some];rw[dI ee])
    |_=>rfl
 |_=>rfl
theorem C0(k:IntKind)(l:L)(s:S)(h:iX f l.bk):tu (A:=real) k l (s.mx f)=(tu (A:=real) k l s).map fun q=>(q.1,q.2.mx f):=by
 cases l with
 |cS id g=>
  have ee:=h.cS;have bX:=cM (s:=s) ee;simp only[tu,bX];cases Nat.beq (s.ob id).g g with
  |false=>rfl
  |true=>
   simp only[cond_true];cases (s.ob id).o with
   |mp k' x=>simp only[];split <;> first|rfl|(simp only[Option.map_some];rw[dI ee])
   |_=>rfl
 |_=>rfl
theorem AU(k:K)(l:L)(s:S)(h:iX f l.bk):cU k l (s.mx f)=(cU k l s).map fun q=>(q.1,q.2.mx f):=by
 cases k with
 |val t=>simp only[cU];rw[p8 _ _ _ _ h];cases bU (A:=real) false t l s <;> rfl
 |arr e cs deep=>simp only[cU];rw[sC _ _ _ _ _ h];cases eE (A:=real) e cs deep l s <;> rfl
 |mp kk=>simp only[cU];rw[C0 _ _ _ h];cases tu (A:=real) kk l s <;> rfl
theorem gX:∀(ks:List K) (ls:List L) (s:S),jy f ls->takes ks ls (s.mx f)=(takes ks ls s).map fun q=>(q.1,q.2.mx f)
 | [],[],_,_=>rfl
 | [],_::_,_,_=>rfl
 |_::_,[],_,_=>rfl
 |k::ks,l::ls,s,h=>by
  simp only[takes];rw[AU _ _ _ h.hd];cases cU k l s with
  |none=>rfl
  |some q=>simp only[Option.map_some];rw[gX ks ls q.2 h.tl];cases takes ks ls q.2 <;> rfl
theorem jl(cs:aJ)(c:dc real)(s:S)(h:iX f c.bk)(hb:iA s f c.bk):co cs c (s.mx f)=(co cs c s).map fun q=>(q.1,q.2.mx f):=by
 cases c with
 |ro cs' x=>simp only[co];split <;> rfl
 |ptr id g=>
  have ee:f.F id=true:=h id (by simp[dc.bk]);simp only[co,fW ee];cases hls:dw s id g with
  |none=>rfl
  |some ls=>
   simp only[];have hl:jy f ls:=hb id (by simp[dc.bk]) ls (by
    unfold dw at hls;cases hg:Nat.beq (s.ob id).g g <;> rw[hg]at hls
    ·cases hls
    ·simp only[cond_true]at hls;split at hls
     ·rename_i cs' hcs;injection hls with hls;rw[hcs,hls]
     ·cases hls)
   rw[gX _ _ _ hl];cases takes cs.ks ls s with
   |none=>rfl
   |some q=>simp only[Option.map_some];rw[cM ee];cases (q.2.ob id).o <;> first|rfl|(simp only[Option.map_some];rw[dI ee])
theorem iA.BV{s s':S}{ids:List Nat}(h:iA s f ids)(hw:dn s s'):iA s' f ids:=fun id hi ls hls=>h id hi ls (by rw[<-hw.blk hls];exact hls)
theorem iA.ir{s:S}{x y:List Nat}(h:iA s f (x++y)):iA s f x/\iA s f y:=⟨fun id hi=>h id (List.mem_append.2 (.inl hi)),fun id hi=>h id (List.mem_append.2 (.inr hi))⟩
theorem oc:∀(aM:List aJ) (cc:List (dc real)) (s:S),iX f (cc.flatMap dc.bk)->iA s f (cc.flatMap dc.bk)->cu aM cc (s.mx f)=(cu aM cc s).map fun q=>(q.1,q.2.mx f)
 | [],[],_,_,_=>rfl
 | [],_::_,_,_,_=>rfl
 |_::_,[],_,_,_=>rfl
 |cs::mO,c::cc,s,h,hb=>by
  rw[List.flatMap_cons]at h hb;simp only[cu];rw[jl _ _ _ h.ir.1 hb.ir.1];cases h1:co cs c s with
  |none=>rfl
  |some q=>simp only[Option.map_some];rw[oc mO cc q.2 h.ir.2 (hb.ir.2.BV (fB h1))];cases cu mO cc q.2 <;> rfl
theorem sq(ks:List K)(id g:Nat)(s:S)(ee:f.F id=true)(hb:∀ls,(s.ob id).o=.blk ls->jy f ls):cj (.blk ks) (.one (.ptr id g 0)) (s.mx f)=(cj (.blk ks) (.one (.ptr id g 0)) s).map fun q=>(q.1,q.2.mx f):=by
 simp only[cj];rw[fW ee];cases hls:dw s id g with
 |none=>rfl
 |some ls=>have hl:jy f ls:=hb ls (cY hls).2;simp only[];rw[dI ee,gX _ _ _ hl];cases takes ks ls (s.bM id true .gone) <;> rfl
theorem yF(c:Cp)(v:dc real)(s:S)(h:iX f v.bk)(hb:iA s f v.bk):e9 c v (s.mx f)=(e9 c v s).map fun q=>(q.1,q.2.mx f):=by
 cases c with
 |ro cs=>exact jl _ _ _ h hb
 |mu ks=>
  cases v with
  |ro _ _=>rfl
  |ptr id g=>exact sq ks id g s (h id (by simp[dc.bk])) (fun ls hls=>hb id (by simp[dc.bk]) ls hls)
theorem qC:∀(aM:List Cp) (cc:List (dc real)) (s:S),iX f (cc.flatMap dc.bk)->iA s f (cc.flatMap dc.bk)->cE aM cc (s.mx f)=(cE aM cc s).map fun q=>(q.1,q.2.mx f)
 | [],[],_,_,_=>rfl
 | [],_::_,_,_,_=>rfl
 |_::_,[],_,_,_=>rfl
 |cs::mO,c::cc,s,h,hb=>by
  rw[List.flatMap_cons]at h hb;simp only[cE];rw[yF _ _ _ h.ir.1 hb.ir.1];cases h1:e9 cs c s with
  |none=>rfl
  |some q=>simp only[Option.map_some];rw[qC mO cc q.2 h.ir.2 (hb.ir.2.BV (kf h1))];cases cE mO cc q.2 <;> rfl
theorem yH(sh:Sh)(v:ck)(s:S)(h:iX f v.bk)(hb:iA s f v.bk):cj sh v (s.mx f)=(cj sh v s).map fun q=>(q.1,q.2.mx f):=by
 unfold cj;split
 ·exact jl _ _ _ (by simpa[TV.bk,TV.gq,Lf.bk,dc.bk] using h) (by simpa[TV.bk,TV.gq,Lf.bk,dc.bk] using hb)
 ·exact jl _ _ _ (by simp[dc.bk,iX]) (by simp[dc.bk,iA])
 ·rename_i g aM g' cc;cases Nat.beq g g' with
  |false=>rfl
  |true=>exact oc _ _ _ (by simpa[TV.bk,TV.gq,Lf.bk] using h) (by simpa[TV.bk,TV.gq,Lf.bk] using hb)
 ·rename_i g aM g' cc;cases Nat.beq g g' with
  |false=>rfl
  |true=>exact qC _ _ _ (by simpa[TV.bk,TV.gq,Lf.bk] using h) (by simpa[TV.bk,TV.gq,Lf.bk] using hb)
 ·exact gX _ _ _ (fun l hl=>by rw[List.mem_singleton]at hl;subst hl;simpa[TV.bk,TV.gq] using h)
 ·rename_i ks ls;exact gX _ _ _ (fun l hl id hi=>h id (List.mem_flatMap.2 ⟨l,hl,hi⟩))
 ·rename_i ks id g;exact sq ks id g s (h id (by simp[TV.bk,TV.gq,Lf.bk])) (fun ls hls=>hb id (by simp[TV.bk,TV.gq,Lf.bk]) ls hls)
 ·rfl
def yT(f:Fr)(vs:List ck):Prop:=∀v∈vs,iX f v.bk
def Be(s:S)(f:Fr)(vs:List ck):Prop:=∀v∈vs,iA s f v.bk
theorem qz:∀(aW:List Sh) (vs:List ck) (s:S),yT f vs->Be s f vs->bL aW vs (s.mx f)=(bL aW vs s).map fun q=>(q.1,q.2.mx f)
 | [],[],_,_,_=>rfl
 | [],_::_,_,_,_=>rfl
 |_::_,[],_,_,_=>rfl
 |sh::aW,v::vs,s,h,hb=>by
  simp only[bL];rw[yH _ _ _ (h v (by simp)) (hb v (by simp))];cases h1:cj sh v s with
  |none=>rfl
  |some q=>simp only[Option.map_some];rw[qz aW vs q.2 (fun v hv=>h v (by simp[hv])) (fun v hv=>(hb v (by simp[hv])).BV (kg h1))];cases bL aW vs q.2 <;> rfl
theorem wX(id:Nat)(v:KV real)(s:S)(h:f.F id=true):dG id v (s.mx f)=((dG id v s).1,(dG id v s).2.mx f):=by
 obtain⟨k,x⟩:=v;cases k with
 |val t=>simp only[dG];rw[eA h]
 |arr e cs d=>simp only[dG];rw[eA h,cM h]
 |mp kk=>simp only[dG];rw[eA h,cM h]
theorem mq:∀(vs:List (KV real)) (id:Nat) (s:S),(∀i,id<=i->i<id+vs.length->f.F i=true)->ez id vs (s.mx f)=((ez id vs s).1,(ez id vs s).2.mx f)
 | [],_,_,_=>rfl
 |v::vs,id,s,h=>by simp only[ez];rw[wX _ _ _ (h id (Nat.le_refl _) (by simp))];simp only[];rw[mq vs (id+1) _ (fun i h1 h2=>h i (by omega) (by simp only[List.length_cons];omega))]
theorem ng:∀(aM:List Cp) (vs:List (KV real)) (b:Nat) (s:S),(∀i,b<=i->i<b+sJ aM->f.F i=true)->dH b aM vs (s.mx f)=((dH b aM vs s).1,(dH b aM vs s).2.mx f)
 | [],_,_,_,_=>rfl
 | .ro cs::r,vs,b,s,h=>by
  have hw:sJ (.ro cs::r)=sJ r:=by simp[sJ,Cp.width]
  rw[hw]at h;simp only[dH];cases jE (A:=real) cs (vs.take cs.len)with
  |none=>rfl
  |some x=>simp only[];rw[ng r _ b s h]
 | .mu ks::r,vs,b,s,h=>by have hw:sJ (.mu ks::r)=(ks.length+1)+sJ r:=rfl;rw[hw]at h;have hb:=h b (Nat.le_refl _) (by omega);simp only[dH];rw[mq _ _ _ (fun i h1 h2=>h i (by omega) (by rw[List.length_take]at h2;omega))];simp only[];rw[eA hb,cM hb,ng r _ _ _ (fun i h1 h2=>h i (by omega) (by omega))]
theorem Ai(b:Nat)(sh:Sh)(vs:List (KV real))(s:S)(hl:vs.length<=sh.ks.length)(h:∀i,b<=i->i<b+sh.width->f.F i=true):cK b sh vs (s.mx f)=((cK b sh vs s).1,(cK b sh vs s).2.mx f):=by
 cases sh with
 |one k=>
  match vs with
  | []=>rfl
  | [v]=>simp only[cK];rw[wX _ _ _ (h b (Nat.le_refl _) (by simp[Sh.width]))]
  |_::_::_=>rfl
 |agg ks=>have hl:vs.length<=ks.length:=hl;have hw:(Sh.agg ks).width=ks.length:=rfl;simp only[cK];rw[mq _ _ _ (fun i h1 h2=>h i h1 (by omega))]
 |blk ks=>have hl:vs.length<=ks.length:=hl;have hw:(Sh.blk ks).width=ks.length+1:=rfl;have hb:=h b (Nat.le_refl _) (by omega);simp only[cK];rw[mq _ _ _ (fun i h1 h2=>h i (by omega) (by omega))];simp only[];rw[eA hb,cM hb]
 |ro cs=>simp only[cK];cases jE (A:=real) cs vs <;> rfl
 |fn _ _=>rfl
 |py g aM=>have hw:(Sh.py g aM).width=sJ aM:=rfl;rw[hw]at h;simp only[cK];rw[ng aM vs b s h]
theorem nf:∀(aW:List Sh) (vs:List (KV real)) (b:Nat) (s:S),(∀i,b<=i->i<b+ed aW->f.F i=true)->bC b aW vs (s.mx f)=((bC b aW vs s).1,(bC b aW vs s).2.mx f)
 | [],_,_,_,_=>rfl
 |sh::aW,vs,b,s,h=>by have hw:ed (sh::aW)=sh.width+ed aW:=rfl;simp only[bC];rw[Ai _ _ _ _ (by rw[List.length_take];omega) (fun i h1 h2=>h i h1 (by omega))];simp only[];rw[nf aW _ _ _ (fun i h1 h2=>h i (by omega) (by omega))]
theorem j8(deep:Bool):∀(ls:List L) (cs:aJ) (x:cs.T) (j:Nat) (s:S),jy f ls->bq (A:=real) deep cs x j ls (s.mx f)=(bq (A:=real) deep cs x j ls s).map fun q=>(q.1,q.2.mx f)
 | [],_,_,_,_,_=>by simp only[bq];rfl
 |l::ls,cs,x,j,s,h=>by
  simp only[bq];cases cellAt (A:=real) cs x j with
  |none=>rfl
  |some q=>
   obtain⟨t,y⟩:=q;simp only[];rw[p8 _ _ _ _ h.hd];cases bU (A:=real) deep t l s with
   |none=>rfl
   |some q=>
    simp only[Option.map_some];cases setCell (A:=real) cs x j ⟨t,q.1⟩with
    |none=>rfl
    |some y=>exact j8 deep ls cs y (j+1) q.2 h.tl
theorem yz(id h e:Nat)(cs:aJ)(x:List cs.T)(p:jF)(i:IV)(off:Nat)(v:List L)(s:S)(ee:f.F id=true)(hv:jy f v):ke (A:=real) (s.mx f) id h e cs x p i off v=(ke (A:=real) s id h e cs x p i off v).map fun q=>q.mx f:=by
 unfold ke;rw[cM ee];cases (p.isEmpty||Nat.beq (s.ob id).h h)with
 |false=>rfl
 |true=>
  simp only[cond_true];cases follow (A:=real) 2 e cs x p with
  |none=>rfl
  |some c=>
   simp only[];rw[gX _ _ _ hv];cases takes ((c.cs.kd.drop off).take v.length) v s with
   |none=>rfl
   |some q=>
    simp only[Option.map_some];cases setRow (A:=real) c.cs (real.get c.x i) off q.1 with
    |none=>rfl
    |some el=>
     simp only[];cases putAt (A:=real) c (real.put c.x i el) e cs x p with
     |none=>rfl
     |some x'=>simp only[];rw[cM ee];cases (q.2.ob id).o <;> first|rfl|(simp only[Option.map_some];rw[dI ee])
theorem yC(p:L)(v:List L)(s:S)(hp:iX f p.bk)(hv:jy f v):gV (s.mx f) p v=(gV s p v).map fun q=>q.mx f:=by
 cases p with
 |ptr id g off=>
  simp only[gV,fW hp.ptr];cases dw s id g with
  |none=>rfl
  |some cs=>simp only[];split <;> first|rfl|(simp only[Option.map_some];rw[dI hp.ptr])
 |cf id g h p i off=>
  have ee:=hp.cf;have bX:=cM (s:=s) ee;simp only[gV,bX];cases Nat.beq (s.ob id).g g with
  |false=>rfl
  |true=>
   simp only[cond_true];cases (s.ob id).o with
   |arr e cs dp x=>
    cases dp with
    |true=>exact yz id h e cs x p i off v s ee hv
    |false=>
     cases p with
     |cons _ _=>rfl
     |nil=>
      simp only[cond_false];have hst:bq (A:=real) false cs (real.get x i) off v (s.mx f)=(bq (A:=real) false cs (real.get x i) off v s).map fun q=>(q.1,q.2.mx f):=j8 false v cs (real.get x i) off s hv;rw[hst];cases bq (A:=real) false cs (real.get x i) off v s with
      |none=>rfl
      |some q=>simp only[Option.map_some];rw[cM ee];cases (q.2.ob id).o <;> first|rfl|(simp only[Option.map_some];rw[dI ee])
   |_=>rfl
 |_=>rfl
def Alike(E:Env)(s:S)(sl:Sl)(o:Oper):Prop:=∀x∈ca o.op,∀t,ev E ⟨sl,s.ob⟩ t x=ev E s t x
end
end Go.R
namespace Go.R
section
variable {E:Env} {Ψ:bR->Option gY}
def C4(dst:Option Nat)(f:Fr)(s':S):S:=s'.mx ⟨fun i=>match dst with|some d=>bif Nat.beq i d then s'.sl i else f.sl i|none=>f.sl i,f.F,f.t⟩
theorem BP(dst:Option Nat)(f:Fr)(s:S)(v:ck):C4 dst f (s.cg dst v)=(s.mx f).cg dst v:=by
 cases dst with
 |none=>rfl
 |some d=>unfold C4 St.mx St.cg St.set;congr 1;funext i;cases h:Nat.beq i d <;> simp[h]
theorem aG{α:Type}{x:Option α}{f g:α->Option S}{m:S->S}(h:∀y,f y=(g y).map m):ar (aO S) x f=(ar (aO S) x g).map m:=by
 cases x with
 |none=>rfl
 |some y=>exact h y
theorem jX{α:Type}{x:Option α}{f g:α->Option S}{m:S->S}(h:∀y,x=some y->f y=(g y).map m):ar (aO S) x f=(ar (aO S) x g).map m:=by
 cases x with
 |none=>rfl
 |some y=>exact h y rfl
theorem bh{b:Bool}{x y x' y':Option S}{m:S->S}(hx:x=x'.map m)(hy:y=y'.map m):(bif b then x else y)=(bif b then x' else y').map m:=by
 cases b
 ·exact hy
 ·exact hx
theorem zq{b:Bool}{x y x' y':Option S}{m:S->S}(hx:b=true->x=x'.map m)(hy:y=y'.map m):(bif b then x else y)=(bif b then x' else y').map m:=by
 cases b
 ·exact hy
 ·exact hx rfl
theorem Bj(tb:Bool)(op:BinOp)(x y:L)(f g:L->Option S)(m:S->S)(h:∀l,f l=(g l).map m):kL (aO S) tb op x y f=(kL (aO S) tb op x y g).map m:=by have:=oS (R:=S) tb op x y f g (fun s=>some (m s)) (fun l=>by rw[h l];cases g l <;> rfl);rw[this];cases kL (aO S) tb op x y g <;> rfl
variable {fr:Fr}
theorem yT.one{v:ck}{vs:List ck}(h:yT fr vs)(hv:v∈vs):jy fr v.gq:=fun l hl id hi=>h v hv id (List.mem_flatMap.2 ⟨l,hl,hi⟩)
theorem rH{v:ck}{s:S}(h:jy fr v.gq):gM (s.mx fr) v=gM s v:=by
 unfold gM;split
 ·rename_i id g hh;rw[cM (h (.ref id g hh []) (by simp[TV.gq])).ref]
 ·rfl
theorem rG{v:ck}{s:S}{i:Nat}(h:jy fr v.gq)(hd:gM s v=some i):fr.F i=true:=by obtain⟨g,hh,rfl,_⟩:=rI hd;exact(h (.ref i g hh []) (by simp[TV.gq])).ref
theorem tS(d:Nat)(b:Builtin)(fC:List Nat)(args:List ck)(s:S)(f g:ck->S->Option S)(m:S->S)(ha:yT fr args)(hp:(match b with| .len| .min| .max=>False|_=>True)->fr.F (aZ d 0 0)=true)(h:∀v s',f v (St.mx s' fr)=(g v s').map m):
  dy E (aO S) d b fC args (s.mx fr) f=(dy E (aO S) d b fC args s g).map m:=by
 unfold dy;split
 ·rename_i x t;rw[jR (ha.one (v:=x) (by simp))];exact bh (aG fun _=>h _ s) (aG fun _=>aG fun _=>h _ s)
 ·exact aG fun _=>aG fun _=>h _ s
 ·exact aG fun _=>aG fun _=>h _ s
 ·rename_i x y t t';have hp:=hp trivial;have hx:=ha.one (v:=x) (by simp);have hy:=ha.one (v:=y) (by simp);rw[jR hx,jR hy];refine aG fun q=>aG fun _=>aG fun cx=>aG fun cy=>bh rfl ?_;cases x with
  |one l=>
   cases l with
   |eR e cs=>
    simp only[];refine bh ?_ ?_
    ·rw[rH hy];cases Br:gM s y with
     |none=>rfl
     |some iJ=>
      have Fo:=rG hy Br;simp only[];refine bh ?_ rfl;split
      ·rename_i hb;refine bh ?_ rfl;have:=h (.one (.ref (aZ d 0 0) ((((s.bM iJ true .gone).new (aZ d 0 0) (.arr cx.e cx.cs true (real.cat cx.x (real.cast hb cy.x)))).ob (aZ d 0 0)).g) 0 [])) ((s.bM iJ true .gone).new (aZ d 0 0) (.arr cx.e cx.cs true (real.cat cx.x (real.cast hb cy.x))));rw[dI Fo,eA hp,cM hp];exact this
      ·rfl
    split
    ·rename_i hb;refine bh ?_ rfl;have:=h (.one (.ref (aZ d 0 0) (((s.new (aZ d 0 0) (.arr cx.e cx.cs false (real.cat cx.x (real.cast hb cy.x)))).ob (aZ d 0 0)).g) 0 [])) (s.new (aZ d 0 0) (.arr cx.e cx.cs false (real.cat cx.x (real.cast hb cy.x))));rw[eA hp,cM hp];exact this
    ·rfl
   |ref id gg hh p=>
    have ee:fr.F id=true:=(hx (.ref id gg hh p) (by simp[TV.gq])).ref;cases p with
    |nil=>
     simp only[];cases cx.md with
     |zero=>rfl
     |succ n=>
      simp only[];refine bh ?_ ?_
      ·rw[dI ee,rH hy];cases Br:gM (s.bM id true .gone) y with
       |none=>rfl
       |some iJ=>
        have Fo:=rG hy Br;simp only[];refine bh ?_ rfl;split
        ·rename_i hb;refine bh ?_ rfl;have:=h (.one (.ref (aZ d 0 0) (((((s.bM id true .gone).bM iJ true .gone).new (aZ d 0 0) (.arr cx.e cx.cs true (real.cat cx.x (real.cast hb cy.x)))).ob (aZ d 0 0)).g) 0 [])) (((s.bM id true .gone).bM iJ true .gone).new (aZ d 0 0) (.arr cx.e cx.cs true (real.cat cx.x (real.cast hb cy.x))));rw[dI Fo,eA hp,cM hp];exact this
        ·rfl
      split
      ·rename_i hb;refine bh ?_ rfl;have:=h (.one (.ref (aZ d 0 0) ((((s.bM id true .gone).new (aZ d 0 0) (.arr cx.e cx.cs (Nat.beq (n+1) 2) (real.cat cx.x (real.cast hb cy.x)))).ob (aZ d 0 0)).g) 0 [])) ((s.bM id true .gone).new (aZ d 0 0) (.arr cx.e cx.cs (Nat.beq (n+1) 2) (real.cat cx.x (real.cast hb cy.x))));rw[dI ee,eA hp,cM hp];exact this
      ·rfl
    |cons _ _=>rfl
   |_=>rfl
  |_=>rfl
 ·rfl
theorem ic{α β:Type}{o:Option α}{q:α->β}{f:β->Option S}{g:α->Option S}{m:S->S}(h:∀x,f (q x)=(g x).map m):ar (aO S) (o.map q) f=(ar (aO S) o g).map m:=by
 cases o with
 |none=>rfl
 |some x=>exact h x
theorem BO{α β:Type}{o:Option α}{q:α->β}{f:β->Option S}{g:α->Option S}{m:S->S}(h:∀x,o=some x->f (q x)=(g x).map m):ar (aO S) (o.map q) f=(ar (aO S) o g).map m:=by
 cases o with
 |none=>rfl
 |some x=>exact h x rfl
theorem Aq(t:Ty)(l:L)(s:S)(h:iX fr l.bk):my (A:=real) t l (s.mx fr)=my t l s:=by
 cases l with
 |ref id g hh p=>simp only[my];rw[gz h.ref]
 |_=>rfl
theorem xW(s0 s:S)(k:K)(l:L)(h:iX fr l.bk):jf k l (s0.mx fr) (s.mx fr)=jf k l s0 s:=by
 cases k with
 |val t=>simp only[jf];rw[Aq _ _ _ h]
 |arr e cs d=>simp only[jf];rw[sC _ _ _ _ _ h];cases eE (A:=real) e cs d l s0 <;> rfl
 |mp _=>rfl
theorem mA(s0 s:S):∀(ks:List K) (ls:List L),jy fr ls->looks ks ls (s0.mx fr) (s.mx fr)=looks ks ls s0 s
 | [],[],_=>rfl
 | [],_::_,_=>rfl
 |_::_,[],_=>rfl
 |k::ks,l::ls,h=>by simp only[looks];rw[mA s0 s ks ls h.tl,xW _ _ _ _ h.hd]
theorem lE(s:S)(cs:aJ)(c:dc real)(h:iX fr c.bk)(hb:iA s fr c.bk):fS cs c (s.mx fr)=fS cs c s:=by
 cases c with
 |ro _ _=>rfl
 |ptr id g=>
  have ee:fr.F id=true:=h id (by simp[dc.bk]);simp only[fS,fW ee];cases hls:dw s id g with
  |none=>rfl
  |some ls=>exact mA s s _ _ (hb id (by simp[dc.bk]) ls (cY hls).2)
theorem nV(s:S):∀(mO:List aJ) (cc:List (dc real)),iX fr (cc.flatMap dc.bk)->iA s fr (cc.flatMap dc.bk)->fZ mO cc (s.mx fr)=fZ mO cc s
 | [],[],_,_=>rfl
 | [],_::_,_,_=>rfl
 |_::_,[],_,_=>rfl
 |cs::mO,c::cc,h,hb=>by rw[List.flatMap_cons]at h hb;simp only[fZ];rw[lE _ _ _ h.ir.1 hb.ir.1,nV s mO cc h.ir.2 hb.ir.2]
theorem xX(s0 s:S)(sh:Sh)(v:ck)(h:iX fr v.bk)(hb:iA s fr v.bk):iu sh v (s0.mx fr) (s.mx fr)=iu sh v s0 s:=by
 unfold iu;split
 ·exact lE _ _ _ (by simpa[TV.bk,TV.gq,Lf.bk,dc.bk] using h) (by simpa[TV.bk,TV.gq,Lf.bk,dc.bk] using hb)
 ·exact lE _ _ _ (by simp[dc.bk,iX]) (by simp[dc.bk,iA])
 ·rw[nV _ _ _ (by simpa[TV.bk,TV.gq,Lf.bk] using h) (by simpa[TV.bk,TV.gq,Lf.bk] using hb)]
 ·exact mA _ _ _ _ (fun l hl=>by rw[List.mem_singleton]at hl;subst hl;simpa[TV.bk,TV.gq] using h)
 ·rename_i ks ls;exact mA _ _ _ _ (fun l hl id hi=>h id (List.mem_flatMap.2 ⟨l,hl,hi⟩))
 ·rfl
theorem pS(s0 s:S):∀(aW:List Sh) (vs:List ck),yT fr vs->Be s fr vs->dM aW vs (s0.mx fr) (s.mx fr)=dM aW vs s0 s
 | [],[],_,_=>rfl
 | [],_::_,_,_=>rfl
 |_::_,[],_,_=>rfl
 |sh::aW,v::vs,h,hb=>by simp only[dM];rw[xX _ _ _ _ (h v (by simp)) (hb v (by simp)),pS s0 s aW vs (fun v hv=>h v (by simp[hv])) (fun v hv=>hb v (by simp[hv]))]
theorem Al(k:K)(l:L)(s:S)(h:iX fr l.bk):jW k l (s.mx fr)=(jW k l s).map fun q=>q.mx fr:=by
 cases k with
 |val t=>rfl
 |arr e cs d=>
  simp only[jW];cases Nat.ble 1 cs.len with
  |false=>rfl
  |true=>simp only[cond_true];rw[sC _ _ _ _ _ h];cases eE (A:=real) e cs d l s <;> rfl
 |mp _=>rfl
theorem vY{k:K}{l:L}{s s1:S}(h:jW k l s=some s1):dn s s1:=by
 cases k with
 |val t=>injection h with h;subst h;exact .refl _
 |arr e cs d=>
  simp only[jW]at h;cases hf:Nat.ble 1 cs.len with
  |false=>rw[hf]at h;cases h
  |true=>
   rw[hf]at h;simp only[cond_true]at h;cases ha:eE (A:=real) e cs d l s with
   |none=>rw[ha]at h;cases h
   |some q=>rw[ha]at h;injection h with h;subst h;exact rA ha
 |mp _=>cases h
theorem pO:∀ {ks:List K} {ls:List L} {s s1:S},jv ks ls s=some s1->dn s s1
 | [],[],s,s1,h=>by injection h with h;subst h;exact .refl _
 | [],_::_,_,_,h=>by cases h
 |_::_,[],_,_,h=>by cases h
 |k::ks,l::ls,s,s1,h=>by
  simp only[jv]at h;cases h1:jW k l s with
  |none=>rw[h1]at h;cases h
  |some s2=>rw[h1]at h;exact(vY h1).trans (pO h)
theorem uB:∀(ks:List K) (ls:List L) (s:S),jy fr ls->jv ks ls (s.mx fr)=(jv ks ls s).map fun q=>q.mx fr
 | [],[],_,_=>rfl
 | [],_::_,_,_=>rfl
 |_::_,[],_,_=>rfl
 |k::ks,l::ls,s,h=>by
  simp only[jv];rw[Al _ _ _ h.hd];cases jW k l s with
  |none=>rfl
  |some s1=>exact uB ks ls s1 h.tl
theorem zi:∀(ks:List K) (ls:List L) (vs:List (KV real)) (s:S),jy fr ls->iD ks ls vs (s.mx fr)=(iD ks ls vs s).map fun q=>q.mx fr:=by
 intro ks;induction ks with
 |nil=>intro ls vs s _;cases ls <;> cases vs <;> rfl
 |cons k ks ih=>
  intro ls vs s h;cases ls with
  |nil=>cases k <;> cases vs <;> rfl
  |cons l ls=>
   cases k with
   |val t=>simp only[iD];exact ih ls vs s h.tl
   |mp _=>cases l <;> cases vs <;> rfl
   |arr e cs d=>
    cases vs with
    |nil=>cases l with
     |ref id g h p=>cases p <;> rfl
     |_=>rfl
    |cons v vs=>
     cases l with
     |eR _ _=>simp only[iD];exact ih ls vs s h.tl
     |ref id g hh p=>
      cases p with
      |cons _ _=>rfl
      |nil=>
       obtain⟨kk,x⟩:=v;cases kk with
       |val _=>rfl
       |mp _=>rfl
       |arr e' cs' d'=>simp only[iD];rw[dI h.hd.ref];exact ih ls vs (s.bM id true (.arr e' cs' d' x)) h.tl
     |_=>rfl
theorem zh:∀(gB:List (List K)) (ls:List L) (vs:List (KV real)) (s:S),jy fr ls->(∀l∈ls,∀id g off,l=.ptr id g off->∀i,bA id<=i->i<bA id+64->fr.F i=true)->g9 gB ls vs (s.mx fr)=(g9 gB ls vs s).map fun q=>q.mx fr:=by
 intro gB;induction gB with
 |nil=>intro ls vs s _ _;cases ls <;> cases vs <;> rfl
 |cons ks gB ih=>
  intro ls vs s h hc;cases ls with
  |nil=>rfl
  |cons l ls=>
   cases l with
   |ptr id g off=>
    cases off with
    |zero=>
     simp only[g9];cases hb:(Nat.ble (id+1) cZ&&(Nat.ble ks.length 64&&Nat.ble ks.length vs.length))with
     |false=>rfl
     |true=>simp only[cond_true];rw[Bool.and_eq_true,Bool.and_eq_true]at hb;have GO:=Nat.le_of_ble_eq_true hb.2.1;rw[mq _ _ _ (fun i h1 h2=>hc (.ptr id g 0) (by simp) id g 0 rfl i h1 (by rw[List.length_take]at h2;omega))];simp only[];rw[dI h.hd.ptr];exact ih ls _ ((ez (bA id) (vs.take ks.length) s).2.bM id true (.blk (ez (bA id) (vs.take ks.length) s).1)) h.tl (fun l hl=>hc l (by simp[hl]))
    |succ _=>rfl
   |_=>rfl
theorem zn(sh:Sh)(v:ck)(h:iX fr v.bk):jy fr (sh.cells v):=by
 intro l hl;have dead:∀ks:List K,l∈(ks.map fun _=>(Lf.dead:L))->iX fr l.bk:=by intro ks hl;obtain⟨_,_,rfl⟩:=List.mem_map.1 hl;intro id hi;cases hi
 cases sh with
 |one k=>
  cases v with
  |one l'=>simp only[Sh.cells,List.mem_singleton]at hl;subst hl;simpa[TV.bk,TV.gq] using h
  |_=>simp only[Sh.cells,List.mem_singleton]at hl;subst hl;intro id hi;cases hi
 |agg ks=>
  cases v with
  |agg ls=>
   simp only[Sh.cells]at hl;cases hb:Nat.beq ls.length ks.length with
   |true=>rw[hb]at hl;exact fun id hi=>h id (List.mem_flatMap.2 ⟨l,hl,hi⟩)
   |false=>rw[hb]at hl;exact dead ks hl
  |_=>exact dead ks hl
 |_=>cases hl
theorem jP:∀(aW:List Sh) (vs:List ck),yT fr vs->jy fr (bG aW vs)
 | [],_,_=>fun l hl=>by simp[bG]at hl
 |_::_,[],_=>fun l hl=>by simp[bG]at hl
 |sh::aW,v::vs,h=>fun l hl=>by
  simp only[bG,List.mem_append]at hl;rcases hl with hl|hl
  ·exact zn sh v (h v (by simp)) l hl
  ·exact jP aW vs (fun v hv=>h v (by simp[hv])) l hl
theorem ja:∀(aM:List Cp) (cc:List (dc real)) (l:L),l∈qN aM cc->l=.dead\/∃id g,l=.ptr id g 0/\dc.ptr id g∈cc
 | [],_,l,h=>by simp[qN]at h
 | .ro _::r,[],l,h=>ja r [] l (by simpa[qN] using h)
 | .mu _::r,[],l,h=>by
  simp only[qN,List.mem_cons]at h;rcases h with rfl|h
  ·exact .inl rfl
  ·exact ja r [] l h
 | .ro _::r,_::cc,l,h=>(ja r cc l (by simpa[qN] using h)).imp id fun⟨id,g,h1,h2⟩=>⟨id,g,h1,List.mem_cons_of_mem _ h2⟩
 | .mu _::r,.ptr id g::cc,l,h=>by
  simp only[qN,List.mem_cons]at h;rcases h with rfl|h
  ·exact .inr ⟨id,g,rfl,by simp⟩
  ·exact(ja r cc l h).imp (fun q=>q) fun⟨id,g,h1,h2⟩=>⟨id,g,h1,List.mem_cons_of_mem _ h2⟩
 | .mu _::r,.ro _ _::cc,l,h=>by
  simp only[qN,List.mem_cons]at h;rcases h with rfl|h
  ·exact .inl rfl
  ·exact(ja r cc l h).imp (fun q=>q) fun⟨id,g,h1,h2⟩=>⟨id,g,h1,List.mem_cons_of_mem _ h2⟩
theorem wM(sh:Sh)(v:ck)(l:L)(h:l∈sh.Cq v):l=.dead\/v=.one l\/∃f cc id g,v=.one (.fn f cc)/\l=.ptr id g 0/\dc.ptr id g∈cc:=by
 unfold Sh.Cq at h;split at h
 ·simp only[List.mem_singleton]at h;subst h;exact .inr (.inl rfl)
 ·simp only[List.mem_singleton]at h;exact .inl h
 ·rename_i f cc;rcases ja _ _ _ h with h|⟨id,g,h1,h2⟩
  ·exact .inl h
  ·exact .inr (.inr ⟨f,cc,id,g,rfl,h1,h2⟩)
 ·rcases ja _ _ _ h with h|⟨id,g,h1,h2⟩
  ·exact .inl h
  ·cases h2
 ·cases h
theorem tL:∀(aW:List Sh) (vs:List ck),yT fr vs->jy fr (cq aW vs)
 | [],_,_=>fun l hl=>by simp[cq]at hl
 |_::_,[],_=>fun l hl=>by simp[cq]at hl
 |sh::aW,v::vs,h=>fun l hl=>by
  simp only[cq,List.mem_append]at hl;rcases hl with hl|hl
  ·have hv:=h v (by simp);rcases wM sh v l hl with rfl|rfl|⟨f,cc,id,g,rfl,rfl,hc⟩
   ·intro id hi;cases hi
   ·simpa[TV.bk,TV.gq] using hv
   ·intro i hi;simp only[Lf.bk,List.mem_singleton]at hi;subst hi;refine hv i ?_;simp only[TV.bk,TV.gq,List.flatMap_cons,List.flatMap_nil,List.append_nil,Lf.bk];exact List.mem_flatMap.2 ⟨_,hc,by simp[dc.bk]⟩
  ·exact tL aW vs (fun v hv=>h v (by simp[hv])) l hl
theorem rq:∀(aW:List Sh) (vs:List ck) (id g off:Nat),(Lf.ptr id g off:L)∈cq aW vs->TV.one (.ptr id g off)∈vs\/∃f cc,TV.one (.fn f cc)∈vs/\dc.ptr id g∈cc
 | [],_,_,_,_,h=>by simp[cq]at h
 |_::_,[],_,_,_,h=>by simp[cq]at h
 |sh::aW,v::vs,id,g,off,h=>by
  simp only[cq,List.mem_append]at h;rcases h with h|h
  ·rcases wM sh v _ h with h|rfl|⟨f,cc,id',g',rfl,h1,hc⟩
   ·cases h
   ·exact .inl (by simp)
   ·injection h1 with e1 e2 _
    subst e1;subst e2;exact .inr ⟨f,cc,by simp,hc⟩
  ·exact(rq aW vs id g off h).imp (fun q=>List.mem_cons_of_mem _ q) fun⟨f,cc,q1,q2⟩=>⟨f,cc,List.mem_cons_of_mem _ q1,q2⟩
theorem tT (F:gY) (d:Nat) (args:List ck) (s:S) (f g:ck->S->Option S) (m:S->S) (ha:yT fr args) (hb:Be s fr args) (hw:ed F.aP<=2047) (hp:∀i,aZ d 0 0<=i->i<aZ d 0 0+2048->fr.F i=true)
  (h:∀v s',f v (St.mx s' fr)=(g v s').map m):jt (aO S) (F.callee S) d args (s.mx fr) f=(jt (aO S) (F.callee S) d args s g).map m:=by
 unfold jt;have h1:oA (F.callee S).args args (s.mx fr)=(oA (F.callee S).args args s).map fun q=>q.mx fr:=uB _ _ _ (jP _ _ ha);rw[h1];cases hl:oA (F.callee S).args args s with
 |none=>rfl
 |some s1=>
  simp only[Option.map_some,ar];have h2:dM (F.callee S).args args (s.mx fr) (s1.mx fr)=dM (F.callee S).args args s s1:=pS _ _ _ _ ha (fun v hv=>(hb v hv).BV (pO hl));rw[h2];refine aG (x:=dM (F.callee S).args args s s1) fun vs=>aG fun x=>?_;show(F.fn x).bind _=((F.fn x).bind _).map m;cases F.fn x with
  |none=>rfl
  |some y=>have h3:∀vs,iZ (F.callee S).args args vs (s1.mx fr)=(iZ (F.callee S).args args vs s1).map fun q=>q.mx fr:=fun vs=>zi _ _ _ _ (jP _ _ ha);show ar (aO S) (iZ (F.callee S).args args _ (s1.mx fr)) _=(ar (aO S) (iZ (F.callee S).args args _ s1) _).map m;rw[h3];refine ic fun s2=>?_;rw[nf _ _ _ _ (fun i h1 h2=>hp i h1 (by have h2:i<aZ d 0 0+ed F.aP:=h2;omega))];exact h _ _
theorem yo{nb id g hh:Nat}{p:jF}{s:S}(hn:fr.F nb=true)(hi:fr.F id=true):iy (A:=real) nb id g hh p (s.mx fr)=(iy (A:=real) nb id g hh p s).map fun q=>(q.1,q.2.1.mx fr,q.2.2):=by
 unfold iy;rw[gz hi,cM hi];cases s.cont id g hh p with
 |none=>rfl
 |some c=>
  simp only[];split
  ·cases Nat.beq id nb with
   |true=>rfl
   |false=>simp only[cond_false,Option.map_some];rw[dI hi,eA hn,cM hn]
  ·rfl
theorem nC{nb id g hh:Nat}{p:jF}{s:S}{r:ck×S×sw real}(h:iy (A:=real) nb id g hh p s=some r):
  ∃c e cs x,s.cont id g hh p=some c/\(s.ob id).o=.arr e cs true x/\id≠nb/\r=(.one (.ref nb (((s.bM id true .gone).new nb (.arr c.e c.cs true c.x)).ob nb).g 0 []),(s.bM id true .gone).new nb (.arr c.e c.cs true c.x),⟨nb,(((s.bM id true .gone).new nb (.arr c.e c.cs true c.x)).ob nb).g,id,g,e,cs,x,c,p⟩):=by
 unfold iy at h;cases hc:s.cont id g hh p with
 |none=>rw[hc]at h;cases h
 |some c=>
  rw[hc]at h;simp only at h;split at h
  ·rename_i e cs x ho;cases hb:Nat.beq id nb with
   |true=>rw[hb]at h;cases h
   |false=>
    rw[hb]at h;injection h with h
    exact⟨c,e,cs,x,rfl,ho,fun e'=>(by rw[e',Nat.beq_refl]at hb;cases hb),h.symm⟩
  ·cases h
theorem yp{nb:Nat}(hn:fr.F nb=true):∀(aW:List Sh) (vs:List ck) (s:S),yT fr vs->dR nb aW vs (s.mx fr)=(dR nb aW vs s).map fun q=>(q.1,q.2.1.mx fr,q.2.2):=by
 intro aW;induction aW with
 |nil=>intro vs s _;cases vs <;> rfl
 |cons sh aW ih=>
  intro vs s h;cases vs with
  |nil=>cases sh with
   |one k=>cases k <;> rfl
   |_=>rfl
  |cons v vs=>
   have hr:=ih vs s (fun v hv=>h v (by simp[hv]));have other:(dR nb aW vs (s.mx fr)).map (fun r=>(v::r.1,r.2))=((dR nb aW vs s).map fun r=>(v::r.1,r.2)).map fun q=>(q.1,q.2.1.mx fr,q.2.2):=by rw[hr];cases dR nb aW vs s <;> rfl
   cases sh with
   |one k=>
    cases k with
    |val _=>cases v <;> exact other
    |mp _=>cases v <;> exact other
    |arr e cs d=>
     cases v with
     |one l=>
      cases l with
      |ref id g hh p=>
       cases p with
       |nil=>exact other
       |cons st p=>
        have hi:fr.F id=true:=by have:=h (.one (.ref id g hh (st::p))) (by simp);exact this id (by simp[TV.bk,TV.gq,Lf.bk])
        simp only[dR];rw[yo hn hi];cases iy (A:=real) nb id g hh (st::p) s <;> rfl
      |_=>exact other
     |_=>exact other
   |_=>cases v <;> exact other
theorem nD{nb:Nat}:∀ {aW:List Sh} {vs:List ck} {s:S} {r:List ck×S×sw real},dR nb aW vs s=some r ->
  ∃(i id g hh:Nat) (p:jF) (r1:ck×S×sw real),vs[i]? = some (.one (.ref id g hh p))/\p≠[]/\iy (A:=real) nb id g hh p s=some r1/\r=(vs.set i r1.1,r1.2):=by
 intro aW;induction aW with
 |nil=>intro vs s r h;cases vs <;> cases h
 |cons sh aW ih=>
  intro vs s r h;cases vs with
  |nil=>cases sh with
   |one k=>cases k <;> cases h
   |_=>cases h
  |cons v vs=>
   have other:(dR nb aW vs s).map (fun r=>(v::r.1,r.2))=some r->∃(i id g hh:Nat) (p:jF) (r1:ck×S×sw real),(v::vs)[i]? = some (.one (.ref id g hh p))/\p≠[]/\iy (A:=real) nb id g hh p s=some r1/\r=((v::vs).set i r1.1,r1.2):=by
    intro h;cases hs:dR nb aW vs s with
    |none=>rw[hs]at h;cases h
    |some q=>rw[hs]at h;have h:=Option.some.inj h;obtain⟨i,id,g,hh,p,r1,q1,q2,q3,q4⟩:=ih hs;refine⟨i+1,id,g,hh,p,r1,by simpa using q1,q2,q3,?_⟩;rw[<-h,q4];rfl
   cases sh with
   |one k=>
    cases k with
    |val _=>cases v <;> exact other h
    |mp _=>cases v <;> exact other h
    |arr e cs d=>
     cases v with
     |one l=>
      cases l with
      |ref id g hh p=>
       cases p with
       |nil=>exact other h
       |cons st p=>
        simp only[dR]at h;cases hs:iy (A:=real) nb id g hh (st::p) s with
        |none=>rw[hs]at h;cases h
        |some q=>rw[hs]at h;have h:=Option.some.inj h;exact⟨0,id,g,hh,st::p,q,rfl,by simp,hs,h.symm⟩
      |_=>exact other h
     |_=>exact other h
   |_=>cases v <;> exact other h
theorem xZ{q:sw real}{s:S}(hn:fr.F q.nb=true)(hi:fr.F q.id=true):jh (A:=real) q (s.mx fr)=(jh (A:=real) q s).map fun s=>s.mx fr:=by
 unfold jh;rw[cM hn,cM hi];split
 ·rename_i e cs dp y ho;cases ((Nat.beq (s.ob q.id).g q.g&&Nat.beq (s.ob q.nb).g q.gn)&&(Nat.ble 1 q.g&&(dp||cs.plain)))with
  |false=>rfl
  |true=>
   simp only[cond_true];split
   ·rename_i hc;cases putAt (A:=real) q.c (real.cast hc y) q.e q.cs q.x q.path with
    |none=>rfl
    |some x'=>simp only[Option.map_some];rw[dI hn,dI hi]
   ·rfl
 ·rfl
theorem zl (F:gY) (d:Nat) (args:List ck) (s:S) (f g:ck->S->Option S) (m:S->S) (ha:yT fr args) (hb:Be s fr args) (hp:∀i,aZ d 0 0<=i->i<aZ d 0 0+2048->fr.F i=true)
  (hc:∀id g off,TV.one (.ptr id g off)∈args\/(∃f cc,TV.one (.fn f cc)∈args/\dc.ptr id g∈cc)->∀i,bA id<=i->i<bA id+64->fr.F i=true) (h:∀v s',f v (St.mx s' fr)=(g v s').map m):
  lY (aO S) (F.callee S) d args (s.mx fr) f=(lY (aO S) (F.callee S) d args s g).map m:=by
 unfold lY;refine zq (fun hok=>?_) rfl;have hw:ed F.aP<=2047:=by unfold ow at hok;rw[Bool.and_eq_true]at hok;exact Nat.le_of_ble_eq_true hok.1
 refine bh ?_ (bh ?_ rfl)
 ·have hnb:fr.F (aZ d 0 0+2047)=true:=hp _ (by omega) (by omega);rw[yp hnb _ _ _ ha];cases hsp:dR (aZ d 0 0+2047) (F.callee S).args args s with
  |none=>exact tT F d args s f g m ha hb hw hp h
  |some r=>
   obtain⟨i,id,gg,hh,p,r1,q1,q2,q3,q4⟩:=nD hsp;obtain⟨c,e,cs,x,p1,p2,p3,p4⟩:=nC q3;subst p4;subst q4;have ee:fr.F id=true:=ha _ (List.mem_of_getElem? q1) id (by simp[TV.bk,TV.gq,Lf.bk]);have hmem:∀v∈args.set i (TV.one (.ref (aZ d 0 0+2047) (((s.bM id true .gone).new (aZ d 0 0+2047) (.arr c.e c.cs true c.x)).ob (aZ d 0 0+2047)).g 0 [])),v=TV.one (.ref (aZ d 0 0+2047) (((s.bM id true .gone).new (aZ d 0 0+2047) (.arr c.e c.cs true c.x)).ob (aZ d 0 0+2047)).g 0 [])\/v∈args:=fun v hv=>by
    rcases List.mem_or_eq_of_mem_set hv with hv|hv
    ·exact .inr hv
    ·exact .inl hv
   refine tT F d _ _ _ _ m (fun v hv=>?_) (fun v hv=>?_) hw hp (fun v s'=>?_)
   ·rcases hmem v hv with rfl|hv
    ·intro j hj;simp only[TV.bk,TV.gq,Lf.bk,List.flatMap_cons,List.flatMap_nil,List.append_nil,List.mem_singleton]at hj;subst hj;exact hnb
    ·exact ha v hv
   ·intro j hj ls hls;have hne:j≠aZ d 0 0+2047:=fun e=>by subst e;unfold St.new at hls;rw[St.aX]at hls;cases hls
    unfold St.new at hls;rw[St.bB _ _ hne]at hls;have CN:j≠id:=fun e=>by subst e;rw[St.aU]at hls;cases hls
    rw[St.br _ _ _ CN]at hls;rcases hmem v hv with rfl|hv
    ·simp only[TV.bk,TV.gq,Lf.bk,List.flatMap_cons,List.flatMap_nil,List.append_nil,List.mem_singleton]at hj;exact absurd hj hne
    ·exact hb v hv j hj ls hls
   ·simp only[];rw[xZ hnb ee];exact ic fun s3=>h v s3
 ·rw[qz _ _ _ ha hb];cases bL (F.callee S).args args s with
  |none=>rfl
  |some q=>
   simp only[Option.map_some,ar];refine aG (x:=kp _ q.1) fun x=>?_;show(F.fn x).bind _=((F.fn x).bind _).map m;cases F.fn x with
   |none=>rfl
   |some y=>show ar (aO S) (g9 (eD (F.callee S).args) (cq (F.callee S).args args) _ (q.2.mx fr)) _=(ar (aO S) (g9 (eD (F.callee S).args) (cq (F.callee S).args args) _ q.2) _).map m;rw[zh _ _ _ _ (tL _ _ ha) (fun l hl id g off e=>by subst e;exact hc id g off (rq _ _ _ _ _ hl))];refine ic fun s2=>?_;rw[nf _ _ _ _ (fun i h1 h2=>hp i h1 (by have h2:i<aZ d 0 0+ed F.aP:=h2;omega))];exact h _ _
theorem iq(d:Nat)(s:S)(x:ck)(c:Cont real)(b:Bool)(l hi:IV)(f g:ck->S->Option S)(m:S->S)(hx:jy fr x.gq)(hp:fr.F (aZ d 0 0)=true)(h:∀v s',f v (St.mx s' fr)=(g v s').map m):eV E (aO S) d (s.mx fr) x c b l hi f=(eV E (aO S) d s x c b l hi g).map m:=by
 unfold eV;cases x with
 |one q=>
  cases q with
  |ref id gg hh p=>
   have ee:fr.F id=true:=(hx (.ref id gg hh p) (by simp[TV.gq])).ref;cases p with
   |nil=>
    simp only[];refine bh (h _ s) (bh (bh rfl ?_) ?_)
    ·have:=h (.one (.ref (aZ d 0 0) ((((s.bM id true .gone).new (aZ d 0 0) (.arr c.e c.cs (Nat.beq c.md 2) (real.sub c.x l hi))).ob (aZ d 0 0)).g) 0 [])) ((s.bM id true .gone).new (aZ d 0 0) (.arr c.e c.cs (Nat.beq c.md 2) (real.sub c.x l hi)));rw[dI ee,eA hp,cM hp];exact this
    ·rw[dI ee];exact h _ _
   |cons _ _=>rfl
  |_=>exact h _ s
 |_=>exact h _ s
end
end Go.R
namespace Go.R
section
variable {E:Env} {Ψ:bR->Option gY} {fr:Fr}
theorem C7(o:Oper)(s:S)(v:ck):(some ((s.mx fr).cg o.dst v):Option S)=(some (s.cg o.dst v)).map (C4 o.dst fr):=by rw[Option.map_some,BP]
theorem ym(d t:Nat)(s:S)(x:ck)(lo hi mx:Option Operand)(f g:ck->S->Option S)(m:S->S)(hx:jy fr x.gq)(hp:fr.F (aZ d 0 0)=true)(h:∀v s',f v (St.mx s' fr)=(g v s').map m)(hlo:∀o,lo=some o->ev E (s.mx fr) 0 o=ev E s 0 o)(hhi:∀o,hi=some o->ev E (s.mx fr) 0 o=ev E s 0 o):
  jk E (aO S) d t (s.mx fr) x lo hi mx f=(jk E (aO S) d t s x lo hi mx g).map m:=by
 unfold jk;refine aG fun q=>?_;rw[jR hx];refine aG fun c=>bh (bh (h _ s) ?_) rfl;cases mx with
 |some _=>rfl
 |none=>
  have e1:∀o,lo=some o->mi (ev E (s.mx fr) 0 o)=mi (ev E s 0 o):=fun o ho=>by rw[hlo o ho]
  have e2:∀o,hi=some o->mi (ev E (s.mx fr) 0 o)=mi (ev E s 0 o):=fun o ho=>by rw[hhi o ho]
  cases lo with
  |none=>
   cases hi with
   |none=>exact aG fun l=>aG fun hh=>bh (iq _ _ _ _ _ _ _ _ _ _ hx hp h) rfl
   |some b=>simp only[e2 b rfl];exact aG fun l=>aG fun hh=>bh (iq _ _ _ _ _ _ _ _ _ _ hx hp h) rfl
  |some a=>
   cases hi with
   |none=>simp only[e1 a rfl];exact aG fun l=>aG fun hh=>bh (iq _ _ _ _ _ _ _ _ _ _ hx hp h) rfl
   |some b=>simp only[e1 a rfl,e2 b rfl];exact aG fun l=>aG fun hh=>bh (iq _ _ _ _ _ _ _ _ _ _ hx hp h) rfl
theorem rR(s0:S)(e:Nat)(cs:aJ):∀(os:List Operand) (x:real.V (.sl e cs)) (s:S),(∀o∈os,(∀t,ev E (s0.mx fr) t o=ev E s0 t o)/\∀t,jy fr (ev E s0 t o).gq)->gp E (s0.mx fr) e cs os x (s.mx fr)=(gp E s0 e cs os x s).map fun q=>(q.1,q.2.mx fr)
 | [],x,s,_=>by simp only[gp];rfl
 |o::os,x,s,h=>by
  simp only[gp];rw[(h o (by simp)).1 0,iF ((h o (by simp)).2 0)];cases hc:cells? s0 (ev E s0 0 o)with
  |none=>rfl
  |some ls=>
   simp only[];have hl:jy fr ls:=by rw[i5 hc];exact(h o (by simp)).2 0
   rw[qa _ _ _ _ hl];cases eS (A:=real) false cs ls s with
   |none=>rfl
   |some q=>simp only[Option.map_some];exact rR s0 e cs os _ q.2 fun o' cR=>h o' (by simp[cR])
theorem pQ(s0:S)(n:Nat):∀(os:List Operand),(∀o∈os,(∀t,ev E (s0.mx fr) t o=ev E s0 t o)/\∀t,jy fr (ev E s0 t o).gq)->fz E (s0.mx fr) n os=fz E s0 n os
 | [],_=>rfl
 |o::os,h=>by simp only[fz];rw[(h o (by simp)).1 0,iF ((h o (by simp)).2 0),pQ s0 n os fun o' cR=>h o' (by simp[cR])]
theorem pP(s0:S)(n:Nat):∀(os:List Operand) (lss:List (List L)),(∀o∈os,∀t,jy fr (ev E s0 t o).gq)->fz E s0 n os=some lss->jy fr lss.flatten
 | [],lss,_,h=>by have h:=Option.some.inj h;subst h;exact fun l hl=>by simp at hl
 |o::os,lss,h,hl=>by
  simp only[fz]at hl;cases hc:cells? s0 (ev E s0 0 o)with
  |none=>rw[hc]at hl;cases hl
  |some ls=>
   cases hr:fz E s0 n os with
   |none=>rw[hc,hr]at hl;cases hl
   |some r=>
    rw[hc,hr]at hl;simp only at hl;cases hb:Nat.beq ls.length n with
    |false=>rw[hb]at hl;cases hl
    |true=>
     rw[hb]at hl;have hl:=Option.some.inj hl;subst hl;intro l hm;rcases List.mem_append.1 hm with hm|hm
     ·rw[i5 hc]at hm;exact h o (by simp) 0 l hm
     ·exact pP s0 n os r (fun o' cR=>h o' (by simp[cR])) hr l hm
theorem l9(fM:List (Nat × Nat × Bool)){s:S}:∀(ps:List (Nat × Operand)) (cs:List L), (∀x ∈ ps.map (·.2), (∀t, ev E (s.mx fr) t x = ev E s t x) /\ ∀t, jy fr (ev E s t x).gq) -> fL fM E (s.mx fr) ps cs = fL fM E s ps cs
  | [], _, _=>rfl
  |(i, x):: r, cs, h=>by
    have hx:=h x (by simp);simp only[fL];cases fM[i]? with
    |none=>rfl
    |some q=>
      simp only[];rw[hx.1 0, iF (hx.2 0)];cases cells? s (ev E s 0 x)with
      |none=>rfl
      |some v=>simp only[];rw[l9 fM r _ (fun y hy=>h y (by simp only[List.map_cons, List.mem_cons]; exact .inr hy))]
theorem vA{s1 s2:S}(cs:List Operand)(h:∀x∈cs,∀t,ev E s2 t x=ev E s1 t x):(cs.mapM fun c=>tZ (ev E s2 0 c))=cs.mapM fun c=>tZ (ev E s1 0 c):=by
 induction cs with
 |nil=>rfl
 |cons c cs ih=>simp only[List.mapM_cons];rw[h c (by simp) 0,ih (fun x hx=>h x (by simp[hx]))]
theorem oy{s:S}(t:Nat)(x:Operand):(ev E s t x).bk=mE s x:=by
 cases x with
 |tmp j=>rfl
 |const v=>
  show(gx (A:=real) E t v).bk=[]
  unfold gx;split <;> first|rfl|(split <;> rfl)
 |func f=>rfl
 | «global» g=>rfl
theorem CX{v:ck}(h:iX fr v.bk):jy fr v.gq:=fun l hl id hi=>h id (List.mem_flatMap.2 ⟨l,hl,hi⟩)
structure yS (E:Env) (s:S) (fr:Fr) (o:Oper):Prop where
 ev:∀x∈ca o.op,∀t,ev E (s.mx fr) t x=Go.R.ev E s t x
 ids:vQ o.op=false->∀x∈ca o.op,iX fr (mE s x)/\iA s fr (mE s x)
 FQ:makes o.op=true->∀i,aZ (o.dst.getD 0) 0 0<=i->i<aZ (o.dst.getD 0) 0 0+2048->fr.F i=true
 cells:mL s o=true->∀i,cZ<=i->fr.F i=true
theorem xg{o:Oper}{s:S}(h:yS E s fr o):j7 E Ψ o (s.mx fr) = (j7 E Ψ o s).map (C4 o.dst fr):=by
  have he:=h.ev;have hi:vQ o.op = false -> ∀x ∈ ca o.op, ∀t, jy fr (ev E s t x).gq:=fun hc x hx t=>CX (by rw[oy]; exact(h.ids hc x hx).1);have Fu:=h.FQ;have pt:=fun(s:S) (v:ck)=>C7 (fr:=fr) o s v;have nw:makes o.op = true -> fr.F (aZ (o.dst.getD 0) 0 0) = true:=fun hm=>Fu hm _ (Nat.le_refl _) (by omega);unfold j7 bl;cases ho:o.op with
  |move x=>rw[ho]at he; simp only[]; rw[he x (by simp[ca])]; exact pt s _
  |assign x=>rw[ho]at he; simp only[]; rw[he x (by simp[ca])]; exact pt s _
  |pick c a b=>rw[ho]at he;simp only[];rw[he c (by simp[ca]), he a (by simp[ca]), he b (by simp[ca])];exact aG fun c=>bh (pt s _) (pt s _)
  |build t ps=>rw[ho]at he hi;refine aG fun i=>bh ?_ rfl;rw[l9 _ _ _ fun x hx=>⟨he x hx, hi rfl x hx⟩];exact aG fun cs=>pt s _
  |load t p=>
    rw[ho]at he hi;simp only[];rw[he p (by simp[ca])];refine aG fun i=>?_;have hp:=hi rfl p (by simp[ca]) 0;cases hq:Go.R.ev E s 0 p with
    |one l=>rw[hq]at hp; simp only[]; rw[Ap (hp l (by simp[TV.gq]))]; exact aG fun v=>pt s _
    |_=>rfl
  |nilCheck x=>
    rw[ho]at he hi;simp only[];rw[he x (by simp[ca])];have hp:=hi rfl x (by simp[ca]) 0;cases hq:Go.R.ev E s 0 x with
    |one l=>
      rw[hq]at hp;have hp:=hp l (by simp[TV.gq]);cases l with
      |ptr id g off=>simp only[]; rw[fW hp.ptr]; exact aG fun _=>pt s _
      |cf id g hh p j off=>simp only[]; rw[gz hp.cf]; exact aG fun c=>bh rfl (pt s _)
      |eo cs y off=>exact pt s _
      |_=>rfl
    |_=>rfl
  |binOp op t x y yt=>
    rw[ho]at he hi;simp only[];have hnt:fT E (s.mx fr) op t x y = fT E s op t x y:=by unfold fT;rw[he x (by simp[ca]), jR (hi rfl x (by simp[ca]) t)]
    rw[hnt];cases fT E s op t x y with
    |some l=>exact pt s _
    |none=>
    simp only[];rw[he x (by simp[ca]), he y (by simp[ca])];cases Go.R.ev E s t x with
    |one x=>
      cases Go.R.ev E s t y with
      |one y=>exact Bj _ _ _ _ _ _ _ fun l=>pt s _
      |_=>rfl
    |agg xs=>
      cases Go.R.ev E s t y with
      |agg ys=>refine aG fun i=>aG fun b=>?_; cases op <;> first|rfl|exact pt s _
      |_=>rfl
    |nE _=>rfl
  |unOp op t x=>
    rw[ho]at he;simp only[];rw[he x (by simp[ca])];cases op <;> first|rfl|skip
    all_goals (cases Go.R.ev E s t x with
      |one l=>cases l with
        |val tt y=>cases tt <;> first|rfl|exact pt s _
        |_=>rfl
      |_=>rfl)
  |convert src dst x=>rw[ho]at he;simp only[];rw[he x (by simp[ca])];refine aG fun _=>aG fun i=>bh rfl ?_;split <;> first|rfl|exact pt s _
  |makeFunc fn first captured=>
    rw[ho]at he;cases fn with
    |func f=>refine bh ?_ rfl;rw[vA _ fun x hx t=>he x (by simpa[ca] using hx) t];exact aG fun cc=>pt s _
    |_=>rfl
  |fieldAddr t x f=>
    rw[ho]at he hi;simp only[];rw[he x (by simp[ca])];have hp:=hi rfl x (by simp[ca]) 0;refine aG fun i=>aG fun q=>bh rfl ?_;cases hq:Go.R.ev E s 0 x with
    |one l=>
      rw[hq]at hp;have hp:=hp l (by simp[TV.gq]);cases l with
      |ptr id g off=>simp only[]; rw[fW hp.ptr]; exact aG fun _=>pt s _
      |cf id g hh p j off=>simp only[]; rw[gz hp.cf]; exact aG fun c=>bh rfl (pt s _)
      |eo cs y off=>exact pt s _
      |_=>rfl
    |_=>rfl
  |field t x f=>
    rw[ho]at he;simp only[];rw[he x (by simp[ca])];refine aG fun i=>aG fun q=>bh rfl ?_;cases Go.R.ev E s t x with
    |agg ls=>exact bh (pt s _) rfl
    |_=>rfl
  |indexAddr t x i=>
    rw[ho]at he hi;simp only[];rw[he x (by simp[ca]), he i (by simp[ca])];have hp:=hi rfl x (by simp[ca]) t;refine aG fun i=>aG fun q=>?_;cases hq:Go.R.ev E s t x with
    |one l=>
      rw[hq]at hp;have hp:=hp l (by simp[TV.gq]);cases l with
      |val tt y=>
        cases tt with
        |sl e cs=>exact bh (bh (pt s _) rfl) rfl
        |_=>rfl
      |ref id g hh p=>simp only[]; rw[gz hp.ref]; exact aG fun c=>bh (bh (bh (pt s _) (pt s _)) rfl) rfl
      |_=>rfl
    |_=>rfl
  |index t x i=>rw[ho]at he;simp only[];rw[he x (by simp[ca]), he i (by simp[ca])];exact bh (aG fun i=>aG fun x=>bh (pt s _) rfl) rfl
  |extract t i=>
    rw[ho]at he;simp only[];rw[he t (by simp[ca])];cases Go.R.ev E s 0 t with
    |nE cs=>exact aG fun c=>pt s _
    |_=>rfl
  |alloc t=>rw[ho]at nw;have nw:=nw rfl;refine aG fun i=>?_;simp only[];rw[eA nw, cM nw];exact pt (s.new (aZ (o.dst.getD 0) 0 0) (.blk (mN real i.cs))) _
  |box t x=>
    rw[ho]at he nw hi;have nw:=nw rfl;simp only[];rw[he x (by simp[ca])];refine aG fun i=>?_;rw[iF (hi rfl x (by simp[ca]) t)];refine jX fun v hv=>bh (bh ?_ ?_) rfl
    · rw[qa _ _ _ _ (by rw[i5 hv]; exact hi rfl x (by simp[ca]) t)]
      cases eS (A:=real) false i.cs v s with
      |none=>rfl
      |some r=>exact pt r.2 _
    · rw[eA nw, cM nw]
      exact pt (s.new (aZ (o.dst.getD 0) 0 0) (.blk v)) _
  |buildSlice t n ps=>
    rw[ho]at he nw hi;have nw:=nw rfl;simp only[];refine aG fun r=>bh (bh ?_ ?_) rfl
    · rw[pQ _ _ _ (fun o' cR=>⟨he o' (by simpa[ca] using cR), hi rfl o' (by simpa[ca] using cR)⟩)]
      refine jX fun lss hl=>?_;rw[gX _ _ _ (pP _ _ _ _ (fun o' cR=>hi rfl o' (by simpa[ca] using cR)) hl)];refine ic fun q=>aG fun x=>?_;simp only[];rw[eA nw, cM nw];exact pt (q.2.new (aZ (o.dst.getD 0) 0 0) (.arr r.1 r.2 true x)) _
    rw[rR _ _ _ _ _ _ (fun o' cR=>⟨he o' (by simpa[ca] using cR), hi rfl o' (by simpa[ca] using cR)⟩)];cases gp (A:=real) E s r.1 r.2 (ps.toList.map (·.2)) (real.kN r.1 r.2) s with
    |none=>rfl
    |some q=>simp only[Option.map_some, ar];rw[eA nw, cM nw];exact pt (q.2.new (aZ (o.dst.getD 0) 0 0) (.arr r.1 r.2 false q.1)) _
  |store t p v=>
    rw[ho]at he hi;simp only[];rw[he p (by simp[ca]), he v (by simp[ca])];refine aG fun i=>?_;have hv:=hi rfl v (by simp[ca]) t;rw[iF hv];refine jX fun v' fH=>bh ?_ rfl;have hp:=hi rfl p (by simp[ca]) 0;cases hq:ev E s 0 p with
    |one l=>
      rw[hq]at hp;simp only[];rw[yC _ _ _ (hp l (by simp[TV.gq])) (by rw[i5 fH]; exact hv)];cases gV s l v' with
      |none=>rfl
      |some s1=>exact pt s1 _
    |_=>rfl
  |makeSlice t n c=>rw[ho]at he nw;have nw:=nw rfl;simp only[];rw[he n (by simp[ca])];refine aG fun r=>aG fun n'=>bh (bh ?_ rfl) rfl;rw[eA nw, cM nw];exact pt (s.new (aZ (o.dst.getD 0) 0 0) (.arr r.1 r.2 (E.deep (o.dst.getD 0)) (real.FR r.1 n' (fc real r.2)))) _
  |makeMap t rv=>rw[ho]at nw;have nw:=nw rfl;refine aG fun kk=>bh ?_ rfl;simp only[];rw[eA nw, cM nw];exact pt (s.new (aZ (o.dst.getD 0) 0 0) (.mp kk (real.kN 0 (aJ.mp kk)))) _
  |lookup t m x ok=>
    rw[ho]at he hi;simp only[];rw[he m (by simp[ca]), he x (by simp[ca])];have hp:=hi rfl m (by simp[ca]) t;refine aG fun kk=>bh rfl ?_;cases hm:ev E s t m with
    |one l=>
      rw[hm]at hp;cases l with
      |cS id g=>
        have hp:=hp (.cS id g) (by simp[TV.gq]);cases hx:ev E s 0 x with
        |one l2=>
          cases l2 with
          |val u y=>
            simp only[];rw[sY hp.cS];refine aG fun q=>bh ?_ rfl;split
            · exact pt s _
            · rfl
          |_=>rfl
        |_=>rfl
      |_=>rfl
    |_=>rfl
  |mapUpdate t m x v=>
    rw[ho]at he hi;simp only[];rw[he m (by simp[ca]), he x (by simp[ca]), he v (by simp[ca])];have hp:=hi rfl m (by simp[ca]) t;refine aG fun kk=>?_;cases hm:ev E s t m with
    |one l=>
      rw[hm]at hp;cases l with
      |cS id g=>
        have hp:=hp (.cS id g) (by simp[TV.gq]);cases hx:ev E s 0 x with
        |one l2=>
          cases l2 with
          |val u y=>
            cases hv:oU (ev E s 4 v)with
            |none=>rfl
            |some bv=>
              simp only[];rw[sY hp.cS];refine aG fun q=>bh ?_ rfl;split
              · rename_i hb
                rw[dI hp.cS];exact pt (s.bM id true (.mp q.1 (real.C3 q.1 q.2 (real.cast hb y) bv))) _
              · rfl
          |_=>rfl
        |_=>rfl
      |_=>rfl
    |_=>rfl
  |slice t x lo hi' mx=>rw[ho]at he nw hi;simp only[];rw[he x (by simp[ca])];exact ym _ _ _ _ _ _ _ _ _ _ (hi rfl x (by simp[ca]) t) (nw rfl) (fun v s'=>pt s' v) (fun o ho=>he o (by simp[ca, ho]) 0) (fun o ho=>he o (by simp[ca, ho]) 0)
  |call c=>
    have Bs:=h.ids;have ju:=h.cells;have Gw:∀args fC A4, c = ⟨A4, args, fC⟩ -> ∀l:L, ((∃id g off, l = .ptr id g off) \/ ∃f cc, l = .fn f cc /\ ∃id g, dc.ptr id g ∈ cc) -> TV.one l ∈ (args.toList.zip fC.toList).map (fun p=>ev E s p.2 p.1) -> mL s o = true:=by
      intro args fC A4 e l hl hm;obtain⟨p, hp1, hp2⟩:=List.mem_map.1 hm;unfold mL;rw[ho, e];refine(Bool.or_eq_true _ _).mpr (.inl (List.any_eq_true.2 ⟨p.1, (List.of_mem_zip hp1).1, ?_⟩));have zE:∀cc:List (dc real), (∃id g, dc.ptr id g ∈ cc) -> cc.any dc.Ad = true:=fun cc ⟨id, g, hc⟩=>List.any_eq_true.2 ⟨_, hc, rfl⟩;cases hx:p.1 with
      |tmp j=>
        rw[hx]at hp2;have:s.sl j = TV.one l:=hp2;simp only[this];rcases hl with ⟨id, g, off, rfl⟩|⟨f, cc, rfl, hc⟩
        · rfl
        · exact zE cc hc
      |const v=>rw[hx]at hp2;have h3:gx (A:=real) E p.2 v = TV.one l:=hp2;exfalso;unfold gx at h3;rcases hl with ⟨id, g, off, rfl⟩|⟨f, cc, rfl, hc⟩ <;> (split at h3 <;> first|(cases h3; done)|(split at h3 <;> cases h3))
      |func q=>
        rw[hx]at hp2;have h3:(TV.one (.fn q []):ck) = TV.one l:=hp2;exfalso;injection h3 with h3
        rcases hl with ⟨id, g, off, rfl⟩|⟨f, cc, rfl, id, g, hc⟩
        · cases h3
        · injection h3 with _ h3
          subst h3;cases hc
      | «global» _=>rw[hx]at hp2;exfalso;rcases hl with ⟨id, g, off, rfl⟩|⟨f, cc, rfl, hc⟩ <;> cases hp2
    rw[ho]at he hi Fu nw Bs;obtain⟨A4, args, fC⟩:=c;simp only[];refine bh ?_ rfl;have hargs:∀(l:List (Operand × Nat)), (∀p ∈ l, p.1 ∈ args.toList) -> (l.map fun p=>ev E (s.mx fr) p.2 p.1) = l.map fun p=>ev E s p.2 p.1:=by intro l hl;exact List.map_congr_left fun p hp=>he p.1 (by simp only[ca]; exact List.mem_append.2 (.inr (hl p hp))) p.2
    have hz:∀p ∈ args.toList.zip fC.toList, p.1 ∈ args.toList:=fun p hp=>(List.of_mem_zip hp).1;rw[hargs _ hz];have hin:yT fr ((args.toList.zip fC.toList).map fun p=>ev E s p.2 p.1):=by intro v hv;obtain⟨p, hp1, rfl⟩:=List.mem_map.1 hv;rw[oy];exact(Bs rfl p.1 (by simp only[ca]; exact List.mem_append.2 (.inr (hz p hp1)))).1
    cases A4 with
    |builtin b=>refine tS _ _ _ _ _ _ _ _ hin (fun hm=>nw ?_) (fun v s'=>pt s' v);cases b <;> first|rfl|cases hm
    |value f=>
      simp only[];rw[he f (by simp[ca]) 0];cases hf:ev E s 0 f with
      |one l=>
        cases l with
        |fn tj cc=>
          simp only[];unfold kP;cases Ψ (tj, uj ((args.toList.zip fC.toList).map fun p=>ev E s p.2 p.1))with
          |none=>rfl
          |some F=>
            simp only[Option.map_some, ar];have hfr:∀c ∈ cc, iX fr c.bk /\ iA s fr c.bk:=by
              intro c hc;have h1:=Bs rfl f (by simp[ca]);rw[<- oy (E:=E) 0, hf]at h1;have hsub:∀id ∈ c.bk, id ∈ (TV.one (Lf.fn tj cc):ck).bk:=fun id hi=>by simp only[TV.bk, TV.gq, List.flatMap_cons, List.flatMap_nil, List.append_nil, Lf.bk];exact List.mem_flatMap.2 ⟨c, hc, hi⟩
              exact⟨fun id hi=>h1.1 id (hsub id hi), fun id hi=>h1.2 id (hsub id hi)⟩
            have hcap:∀c:dc real, c.tv.bk = c.bk:=fun c=>by cases c <;> rfl
            refine zl F _ _ _ _ _ _ (fun v hv=>?_) (fun v hv=>?_) (Fu rfl) (fun id g off hm=>?_) (fun v s'=>pt s' v)
            · rcases List.mem_append.1 hv with hv|hv
              · exact hin v hv
              · obtain⟨c, hc, rfl⟩:=List.mem_map.1 hv
                rw[hcap];exact(hfr c hc).1
            · rcases List.mem_append.1 hv with hv|hv
              · obtain⟨p, hp1, rfl⟩:=List.mem_map.1 hv
                rw[oy];exact(Bs rfl p.1 (by simp only[ca]; exact List.mem_append.2 (.inr (hz p hp1)))).2
              · obtain⟨c, hc, rfl⟩:=List.mem_map.1 hv
                rw[hcap];exact(hfr c hc).2
            · refine fun i h1 _=>ju ?_ i (Nat.le_trans (show cZ <= bA id by unfold bA; omega) h1)
              rcases hm with hm|⟨f', GF, hm, B9⟩
              · rcases List.mem_append.1 hm with hm|hm
                · exact Gw args fC _ rfl _ (.inl ⟨id, g, off, rfl⟩) hm
                · obtain⟨c, hc, CD⟩:=List.mem_map.1 hm
                  unfold mL;rw[ho];refine(Bool.or_eq_true _ _).mpr (.inr ?_);cases f with
                  |tmp j=>
                    have:s.sl j = TV.one (Lf.fn tj cc):=hf;simp only[this];refine List.any_eq_true.2 ⟨c, hc, ?_⟩;cases c with
                    |ptr _ _=>rfl
                    |ro _ _=>cases CD
                  |const v=>have h3:gx (A:=real) E 0 v = TV.one (Lf.fn tj cc):=hf;unfold gx at h3;split at h3 <;> first|(cases h3; done)|(split at h3 <;> cases h3)
                  |func q=>
                    have h3:TV.one (Lf.fn q []) = (TV.one (Lf.fn tj cc):ck):=hf;injection h3 with h3
                    injection h3 with _ h3
                    subst h3;cases hc
                  | «global» _=>cases hf
              · rcases List.mem_append.1 hm with hm|hm
                · exact Gw args fC _ rfl _ (.inr ⟨f', GF, rfl, id, g, B9⟩) hm
                · obtain⟨c, _, CD⟩:=List.mem_map.1 hm
                  cases c <;> cases CD
        |_=>rfl
      |_=>rfl
    |invoke _ _=>rfl
  |_=>rfl
end
end Go.R
namespace Go.R
section
variable {E:Env} {Ψ:bR->Option gY}
def lT(a b:fU real):Prop:=b=a\/a.g<b.g\/(b.g=a.g/\a.h<b.h)
theorem lT.trans{a b c:fU real}(h:lT a b)(h':lT b c):lT a c:=by
 rcases h with h|h|h
 ·subst h;exact h'
 ·rcases h' with h'|h'|h'
  ·subst h';exact .inr (.inl h)
  ·exact .inr (.inl (Nat.lt_trans h h'))
  ·exact .inr (.inl (by omega))
 ·rcases h' with h'|h'|h'
  ·subst h';exact .inr (.inr h)
  ·exact .inr (.inl (by omega))
  ·exact .inr (.inr (by omega))
theorem lT.same{a b:fU real}(h:lT a b)(hg:a.g=b.g)(hh:a.h=b.h):b=a:=by
 rcases h with h|h|h
 ·exact h
 ·omega
 ·omega
def bw(s s':S):Prop:=∀id,lT (s.ob id) (s'.ob id)
theorem bw.refl(s:S):bw s s:=fun _=>.inl rfl
theorem bw.trans{s s' s'':S}(h:bw s s')(h':bw s' s''):bw s s'':=fun id=>(h id).trans (h' id)
theorem bw.mD{s s':S}(h:s'.ob=s.ob):bw s s':=fun id=>.inl (by rw[h])
theorem bw.yL(s:S)(i:Nat)(q:fU real)(h:lT (s.ob i) q):bw s (s.yL i q):=by
 intro id;show lT (s.ob id) (bif Nat.beq id i then q else s.ob id);cases hb:Nat.beq id i with
 |true=>rw[Nat.eq_of_beq_eq_true hb];exact h
 |false=>exact .inl rfl
theorem bw.new(s:S)(i:Nat)(o:Ob real):bw s (s.new i o):=bw.yL s i _ (.inr (.inl (Nat.lt_succ_self _)))
theorem bw.bM(s:S)(i:Nat)(o:Ob real):bw s (s.bM i true o):=bw.yL s i _ (.inr (.inr ⟨rfl,Nat.lt_succ_self _⟩))
theorem bw.cg(s:S)(d:Option Nat)(v:ck):bw s (s.cg d v):=bw.mD (by cases d <;> rfl)
theorem lH{deep:Bool}{t:Ty}{l:L}{s:S}{q:real.V t×S}(h:bU (A:=real) deep t l s=some q):bw s q.2:=by
 unfold bU at h;split at h
 ·cases deep
  ·simp only[cond_false]at h;split at h
   ·injection h with h;subst h;exact .refl _
   ·cases h
  ·cases h
 ·split at h
  ·injection h with h;subst h;exact .refl _
  ·cases h
 ·split at h
  ·injection h with h;subst h;exact .refl _
  ·cases h
 ·rename_i id g _;cases hb:Nat.beq (s.ob id).g g <;> rw[hb]at h
  ·cases h
  ·simp only[cond_true]at h;split at h
   ·split at h
    ·cases deep
     ·simp only[cond_false]at h;injection h with h;subst h;exact .bM _ _ _
     ·cases h
    ·cases h
   ·cases deep
    ·simp only[cond_false]at h;split at h
     ·injection h with h;subst h;exact .refl _
     ·cases h
    ·cases h
   ·cases h
 ·cases h
theorem lI{deep:Bool}:∀ {cs:aJ} {ls:List L} {s:S} {q:real.Vs cs×S},eS (A:=real) deep cs ls s=some q->bw s q.2
 | .nil,[],s,q,h=>by simp only[eS]at h;injection h with h;subst h;exact .refl _
 | .nil,_::_,s,q,h=>by cases h
 | .cons _ _,[],s,q,h=>by cases h
 | .cons t ts,l::ls,s,q,h=>by
  simp only[eS]at h;cases h1:bU (A:=real) deep t l s with
  |none=>rw[h1]at h;cases h
  |some p=>
   rw[h1]at h;simp only[]at h;cases h2:eS (A:=real) deep ts ls p.2 with
   |none=>rw[h2]at h;cases h
   |some p2=>
    rw[h2]at h;injection h with h
    subst h;exact(show bw s p2.2 from(lH h1).trans (lI h2))
theorem nU{s0:S}{e:Nat}{cs:aJ}:∀ {os:List Operand} {x:real.V (.sl e cs)} {s:S} {q:real.V (.sl e cs)×S},gp E s0 e cs os x s=some q->bw s q.2
 | [],x,s,q,h=>by simp only[gp]at h;injection h with h;subst h;exact .refl _
 |o::os,x,s,q,h=>by
  simp only[gp]at h;cases h1:cells? s0 (ev E s0 0 o)with
  |none=>rw[h1]at h;cases h
  |some ls=>
   rw[h1]at h;simp only[]at h;cases h2:eS (A:=real) false cs ls s with
   |none=>rw[h2]at h;cases h
   |some p=>rw[h2]at h;exact(lI h2).trans (nU h)
theorem iT{deep:Bool}:∀ {ls:List L} {cs:aJ} {x:cs.T} {j:Nat} {s:S} {q:cs.T×S},bq (A:=real) deep cs x j ls s=some q->bw s q.2
 | [],cs,x,j,s,q,h=>by simp only[bq]at h;injection h with h;subst h;exact .refl _
 |l::ls,cs,x,j,s,q,h=>by
  simp only[bq]at h;cases h1:cellAt (A:=real) cs x j with
  |none=>rw[h1]at h;cases h
  |some p=>
   obtain⟨t,y⟩:=p;rw[h1]at h;simp only[]at h;cases h2:bU (A:=real) deep t l s with
   |none=>rw[h2]at h;cases h
   |some p=>
    rw[h2]at h;simp only[]at h;cases h3:setCell (A:=real) cs x j ⟨t,p.1⟩with
    |none=>rw[h3]at h;cases h
    |some y=>rw[h3]at h;exact(lH h2).trans (iT h)
theorem rz{e:Nat}{cs:aJ}{deep:Bool}{l:L}{s:S}{q:real.V (.sl e cs)×S}(h:eE (A:=real) e cs deep l s=some q):bw s q.2:=by
 unfold eE at h;split at h
 ·split at h
  ·injection h with h;subst h;exact .refl _
  ·cases h
 ·rename_i id g _;cases hb:Nat.beq (s.ob id).g g <;> rw[hb]at h
  ·cases h
  ·simp only[cond_true]at h;split at h
   ·rename_i e' cs' dp x ho;cases hd:(dp==deep||cs'.plain) <;> rw[hd]at h
    ·cases h
    ·simp only[cond_true]at h;split at h
     ·injection h with h;subst h;exact .bM _ _ _
     ·cases h
   ·cases h
 ·cases h
theorem Aw{k:IntKind}{l:L}{s:S}{q:real.V (.sl 0 (aJ.mp k))×S}(h:tu (A:=real) k l s=some q):bw s q.2:=by
 unfold tu at h;split at h
 ·rename_i id g;cases hb:Nat.beq (s.ob id).g g <;> rw[hb]at h
  ·cases h
  ·simp only[cond_true]at h;split at h
   ·split at h
    ·injection h with h;subst h;exact .bM _ _ _
    ·cases h
   ·cases h
 ·cases h
theorem wD{k:K}{l:L}{s:S}{q:KV real×S}(h:cU k l s=some q):bw s q.2:=by
 cases k with
 |val t=>
  simp only[cU]at h;cases h1:bU (A:=real) false t l s with
  |none=>rw[h1]at h;cases h
  |some p=>rw[h1]at h;injection h with h;subst h;exact lH h1
 |arr e cs deep=>
  simp only[cU]at h;cases h1:eE (A:=real) e cs deep l s with
  |none=>rw[h1]at h;cases h
  |some p=>rw[h1]at h;injection h with h;subst h;exact rz h1
 |mp kk=>
  simp only[cU]at h;cases h1:tu (A:=real) kk l s with
  |none=>rw[h1]at h;cases h
  |some p=>rw[h1]at h;injection h with h;subst h;exact Aw h1
theorem eB:∀ {ks:List K} {ls:List L} {s:S} {q:List (KV real)×S},takes ks ls s=some q->bw s q.2
 | [],[],s,q,h=>by injection h with h;subst h;exact .refl _
 | [],_::_,s,q,h=>by cases h
 |_::_,[],s,q,h=>by cases h
 |k::ks,l::ls,s,q,h=>by
  simp only[takes]at h;cases h1:cU k l s with
  |none=>rw[h1]at h;cases h
  |some p=>
   rw[h1]at h;simp only[]at h;cases h2:takes ks ls p.2 with
   |none=>rw[h2]at h;cases h
   |some p2=>rw[h2]at h;injection h with h;subst h;exact(show bw s p2.2 from(wD h1).trans (eB h2))
theorem uU{s:S}{id h e:Nat}{cs:aJ}{x:List cs.T}{p:jF}{i:IV}{off:Nat}{v:List L}{s':S}(hs:ke (A:=real) s id h e cs x p i off v=some s'):bw s s':=by
 unfold ke at hs;cases hb:(p.isEmpty||Nat.beq (s.ob id).h h) <;> rw[hb]at hs
 ·cases hs
 ·simp only[cond_true]at hs;cases hf:follow (A:=real) 2 e cs x p with
  |none=>rw[hf]at hs;cases hs
  |some c=>
   rw[hf]at hs;simp only at hs;cases ht:takes ((c.cs.kd.drop off).take v.length) v s with
   |none=>rw[ht]at hs;cases hs
   |some q=>
    rw[ht]at hs;simp only at hs;cases hr:setRow (A:=real) c.cs (real.get c.x i) off q.1 with
    |none=>rw[hr]at hs;cases hs
    |some el=>
     rw[hr]at hs;simp only at hs;cases hx:putAt (A:=real) c (real.put c.x i el) e cs x p with
     |none=>rw[hx]at hs;cases hs
     |some x'=>
      rw[hx]at hs;simp only at hs;split at hs
      ·injection hs with hs;subst hs;exact(eB ht).trans (.bM _ _ _)
      ·cases hs
theorem uV{s:S}{p:L}{v:List L}{s':S}(h:gV s p v=some s'):bw s s':=by
 unfold gV at h;split at h
 ·split at h
  ·split at h
   ·injection h with h;subst h;exact .bM _ _ _
   ·cases h
  ·cases h
 ·rename_i id g h' p i off;cases hb:Nat.beq (s.ob id).g g <;> rw[hb]at h
  ·cases h
  ·simp only[cond_true]at h;split at h
   ·rename_i e cs deep x ho;cases deep with
    |true=>exact uU h
    |false=>
     simp only[cond_false]at h;split at h
     ·cases h1:bq (A:=real) false cs (real.get x i) off v s with
      |none=>rw[h1]at h;cases h
      |some q=>
       rw[h1]at h;simp only[]at h;split at h
       ·injection h with h;subst h;exact(iT h1).trans (.bM _ _ _)
       ·cases h
     ·cases h
   ·cases h
 ·cases h
theorem gF{cs:aJ}{c:dc real}{s:S}{q:List (KV real)×S}(h:co cs c s=some q):bw s q.2:=by
 unfold co at h;split at h
 ·split at h
  ·rename_i ls hls;cases h1:takes cs.ks ls s with
   |none=>rw[h1]at h;cases h
   |some p=>
    rw[h1]at h;simp only[]at h;split at h
    ·injection h with h;subst h;exact(eB h1).trans (.bM _ _ _)
    ·cases h
  ·cases h
 ·split at h
  ·injection h with h;subst h;exact .refl _
  ·cases h
theorem kU:∀ {aM:List aJ} {cc:List (dc real)} {s:S} {q:List (KV real)×S},cu aM cc s=some q->bw s q.2
 | [],[],s,q,h=>by injection h with h;subst h;exact .refl _
 | [],_::_,s,q,h=>by cases h
 |_::_,[],s,q,h=>by cases h
 |cs::mO,c::cc,s,q,h=>by
  simp only[cu]at h;cases h1:co cs c s with
  |none=>rw[h1]at h;cases h
  |some p=>
   rw[h1]at h;simp only[]at h;cases h2:cu mO cc p.2 with
   |none=>rw[h2]at h;cases h
   |some p2=>rw[h2]at h;injection h with h;subst h;exact(show bw s p2.2 from(gF h1).trans (kU h2))
theorem uX{c:Cp}{v:dc real}{s:S}{q:List (KV real)×S}(h:e9 c v s=some q):bw s q.2:=by
 unfold e9 at h;split at h
 ·exact gF h
 ·split at h
  ·split at h
   ·rename_i h1;injection h with h;subst h;exact(bw.bM _ _ _).trans (eB h1)
   ·cases h
  ·cases h
 ·cases h
theorem mJ:∀ {aM:List Cp} {cc:List (dc real)} {s:S} {q:List (KV real)×S},cE aM cc s=some q->bw s q.2
 | [],[],s,q,h=>by injection h with h;subst h;exact .refl _
 | [],_::_,s,q,h=>by cases h
 |_::_,[],s,q,h=>by cases h
 |cs::mO,c::cc,s,q,h=>by
  simp only[cE]at h;cases h1:e9 cs c s with
  |none=>rw[h1]at h;cases h
  |some p=>
   rw[h1]at h;simp only[]at h;cases h2:cE mO cc p.2 with
   |none=>rw[h2]at h;cases h
   |some p2=>rw[h2]at h;injection h with h;subst h;exact(show bw s p2.2 from(uX h1).trans (mJ h2))
theorem uY{sh:Sh}{v:ck}{s:S}{q:List (KV real)×S}(h:cj sh v s=some q):bw s q.2:=by
 unfold cj at h;split at h
 ·exact gF h
 ·exact gF h
 ·rename_i f aM f' cc;cases hb:Nat.beq f f' <;> rw[hb]at h
  ·cases h
  ·exact kU h
 ·rename_i f aM f' cc;cases hb:Nat.beq f f' <;> rw[hb]at h
  ·cases h
  ·exact mJ h
 ·exact eB h
 ·exact eB h
 ·split at h
  ·split at h
   ·rename_i h1;injection h with h;subst h;exact(bw.bM _ _ _).trans (eB h1)
   ·cases h
  ·cases h
 ·cases h
theorem mI:∀ {aW:List Sh} {vs:List ck} {s:S} {q:List (KV real)×S},bL aW vs s=some q->bw s q.2
 | [],[],s,q,h=>by injection h with h;subst h;exact .refl _
 | [],_::_,s,q,h=>by cases h
 |_::_,[],s,q,h=>by cases h
 |sh::aW,v::vs,s,q,h=>by
  simp only[bL]at h;cases h1:cj sh v s with
  |none=>rw[h1]at h;cases h
  |some p=>
   rw[h1]at h;simp only[]at h;cases h2:bL aW vs p.2 with
   |none=>rw[h2]at h;cases h
   |some p2=>rw[h2]at h;injection h with h;subst h;exact(show bw s p2.2 from(uY h1).trans (mI h2))
theorem pN:∀ {ks:List K} {ls:List L} {s s1:S},jv ks ls s=some s1->bw s s1
 | [],[],s,s1,h=>by injection h with h;subst h;exact .refl _
 | [],_::_,_,_,h=>by cases h
 |_::_,[],_,_,h=>by cases h
 |k::ks,l::ls,s,s1,h=>by
  simp only[jv]at h;cases h1:jW k l s with
  |none=>rw[h1]at h;cases h
  |some s2=>
   rw[h1]at h;refine bw.trans ?_ (pN h);cases k with
   |val t=>injection h1 with h1;subst h1;exact .refl _
   |arr e cs d=>
    simp only[jW]at h1;cases hb:Nat.ble 1 cs.len with
    |false=>rw[hb]at h1;cases h1
    |true=>
     rw[hb]at h1;simp only[cond_true]at h1;cases ha:eE (A:=real) e cs d l s with
     |none=>rw[ha]at h1;cases h1
     |some q=>rw[ha]at h1;injection h1 with h1;subst h1;exact rz ha
   |mp _=>cases h1
theorem vu:∀ {ks:List K} {ls:List L} {vs:List (KV real)} {s s1:S},iD ks ls vs s=some s1->bw s s1:=by
 intro ks;induction ks with
 |nil=>intro ls vs s s1 h;cases ls <;> cases vs <;> first|(injection h with h;subst h;exact .refl _)|cases h
 |cons k ks ih=>
  intro ls vs s s1 h;cases ls with
  |nil=>cases k <;> cases vs <;> cases h
  |cons l ls=>
   cases k with
   |val t=>exact ih h
   |mp _=>cases l <;> cases vs <;> cases h
   |arr e cs d=>
    cases vs with
    |nil=>cases l with
     |ref id g hh p=>cases p <;> cases h
     |_=>cases h
    |cons v vs=>
     cases l with
     |eR _ _=>exact ih h
     |ref id g hh p=>
      cases p with
      |cons _ _=>cases h
      |nil=>
       obtain⟨kk,x⟩:=v;cases kk with
       |val _=>cases h
       |mp _=>cases h
       |arr e' cs' d'=>exact(bw.bM _ _ _).trans (ih h)
     |_=>cases h
theorem rO(id:Nat)(v:KV real)(s:S):bw s (dG id v s).2:=by obtain⟨k,x⟩:=v;cases k <;> exact .new _ _ _
theorem iK:∀(vs:List (KV real)) (id:Nat) (s:S),bw s (ez id vs s).2
 | [],_,_=>.refl _
 |v::_,id,s=>(rO id v s).trans (iK _ (id+1) _)
theorem jV:∀(aM:List Cp) (vs:List (KV real)) (b:Nat) (s:S),bw s (dH b aM vs s).2
 | [],_,_,_=>.refl _
 | .ro cs::r,vs,b,s=>by
  simp only[dH];cases jE (A:=real) cs (vs.take cs.len)with
  |none=>exact .refl _
  |some x=>exact jV r _ b s
 | .mu ks::r,vs,b,s=>((iK _ _ _).trans (.new _ _ _)).trans (jV r _ _ _)
theorem vX(b:Nat)(sh:Sh)(vs:List (KV real))(s:S):bw s (cK b sh vs s).2:=by
 cases sh with
 |one k=>
  match vs with
  | []=>exact .refl _
  | [v]=>exact rO _ _ _
  |_::_::_=>exact .refl _
 |agg ks=>exact iK _ _ _
 |blk ks=>exact(iK _ _ _).trans (.new _ _ _)
 |ro cs=>simp only[cK];cases jE (A:=real) cs vs <;> exact .refl _
 |fn _ _=>exact .refl _
 |py g aM=>exact jV aM vs b s
theorem jU:∀(aW:List Sh) (vs:List (KV real)) (b:Nat) (s:S),bw s (bC b aW vs s).2
 | [],_,_,_=>.refl _
 |sh::aW,vs,b,s=>(vX b sh _ s).trans (jU aW _ _ _)
theorem vq:∀ {gB:List (List K)} {ls:List L} {vs:List (KV real)} {s s1:S},g9 gB ls vs s=some s1->bw s s1:=by
 intro gB;induction gB with
 |nil=>intro ls vs s s1 h;cases ls <;> cases vs <;> first|(injection h with h;subst h;exact .refl _)|cases h
 |cons ks gB ih=>
  intro ls vs s s1 h;cases ls with
  |nil=>cases h
  |cons l ls=>
   cases l with
   |ptr id g off=>
    cases off with
    |zero=>
     simp only[g9]at h;cases hb:(Nat.ble (id+1) cZ&&(Nat.ble ks.length 64&&Nat.ble ks.length vs.length))with
     |false=>rw[hb]at h;cases h
     |true=>rw[hb]at h;simp only[cond_true]at h;exact(iK _ _ _).trans ((bw.bM _ _ _).trans (ih h))
    |succ _=>cases h
   |_=>cases h
theorem uF{q:sw real}{s s':S}(h:jh (A:=real) q s=some s'):bw s s':=by
 unfold jh at h;split at h
 ·rename_i e cs dp y ho;cases hb:((Nat.beq (s.ob q.id).g q.g&&Nat.beq (s.ob q.nb).g q.gn)&&(Nat.ble 1 q.g&&(dp||cs.plain))) <;> rw[hb]at h
  ·cases h
  ·simp only[cond_true]at h;split at h
   ·rename_i hc;cases hp:putAt (A:=real) q.c (real.cast hc y) q.e q.cs q.x q.path with
    |none=>rw[hp]at h;cases h
    |some x'=>rw[hp]at h;injection h with h;subst h;exact(bw.bM _ _ _).trans (.bM _ _ _)
   ·cases h
 ·cases h
def cO(s:S)(x:Option S):Prop:=∀s',x=some s'->bw s s'
theorem cO.fail{s:S}:cO s (aO S).fail:=fun _ h=>nomatch h
theorem cO.mk{s s':S}(h:bw s s'):cO s (some s'):=fun _ e=>by injection e with e;subst e;exact h
theorem cO.ar{α:Type}{s:S}{x:Option α}{f:α->Option S}(h:∀v,x=some v->cO s (f v)):cO s (ar (aO S) x f):=by
 cases x with
 |none=>exact .fail
 |some v=>exact h v rfl
theorem cO.cond{s:S}{b:Bool}{x y:Option S}(hx:cO s x)(hy:cO s y):cO s (bif b then x else y):=by
 cases b
 ·exact hy
 ·exact hx
theorem cO.nX{s:S}{b:Bool}{x y:Option S}(hx:cO s x)(hy:cO s y):cO s ((aO S).cond b x y):=cO.cond hx hy
theorem yu{o:Oper}{s:S}:cO s (j7 E Ψ o s):=by
 have pt:∀(s':S) (v:ck),bw s s'->cO s (some (s'.cg o.dst v)):=fun s' v h=>.mk (h.trans (.cg _ _ _));unfold j7 bl;have here:∀v:ck,cO s (some (s.cg o.dst v)):=fun v=>pt s v (.refl s);cases ho:o.op with
 |move x=>exact here _
 |assign x=>exact here _
 |pick c a b=>exact .ar fun c _=>.nX (here _) (here _)
 |build t ps=>exact .ar fun i _=>.cond (.ar fun cs _=>here _) .fail
 |load t p=>
  refine .ar fun i _=>?_;cases ev E s 0 p with
  |one l=>exact .ar fun v _=>here _
  |_=>exact .fail
 |nilCheck x=>
  simp only[];cases ev E s 0 x with
  |one l=>
   cases l with
   |ptr id g off=>exact .ar fun _ _=>here _
   |cf id g hh p j off=>exact .ar fun c _=>.cond .fail (here _)
   |eo cs y off=>exact here _
   |_=>exact .fail
  |_=>exact .fail
 |binOp op t x y yt=>
  simp only[];cases fT E s op t x y with
  |some l=>exact here _
  |none=>
  simp only[];cases ev E s t x with
  |one x=>
   cases ev E s t y with
   |one y=>
    have h1:=oS (R:=S) (fw E t) op x y (fun l=>some (s.cg o.dst (.one l))) (fun l=>some (St.set s 0 (.one l))) (fun s1=>some (s.cg o.dst (s1.sl 0))) (fun l=>rfl);show cO s (kL (aO S) (fw E t) op x y fun l=>some (s.cg o.dst (.one l)));rw[h1];cases kL (aO S) (fw E t) op x y fun l=>some (St.set s 0 (.one l))with
    |none=>exact .fail
    |some s1=>exact here _
   |_=>exact .fail
  |agg xs=>
   cases ev E s t y with
   |agg ys=>refine .ar fun i _=>.ar fun b _=>?_;cases op <;> first|exact .fail|exact here _
   |_=>exact .fail
  |nE _=>exact .fail
 |unOp op t x=>
  simp only[];cases op <;> first|exact .fail|skip
  all_goals (cases ev E s t x with
   |one l=>cases l with
    |val tt y=>cases tt <;> first|exact .fail|exact here _
    |_=>exact .fail
   |_=>exact .fail)
 |convert src dst x=>simp only[];refine .ar fun _ _=>.ar fun i _=>.cond .fail ?_;split <;> first|exact .fail|exact here _
 |makeFunc fn first captured=>
  cases fn with
  |func f=>exact .cond (.ar fun cc _=>here _) .fail
  |_=>exact .fail
 |fieldAddr t x f=>
  simp only[];refine .ar fun i _=>.ar fun q _=>.cond .fail ?_;cases ev E s 0 x with
  |one l=>
   cases l with
   |ptr id g off=>exact .ar fun _ _=>here _
   |cf id g hh p j off=>exact .ar fun c _=>.cond .fail (here _)
   |eo cs y off=>exact here _
   |_=>exact .fail
  |_=>exact .fail
 |field t x f=>
  simp only[];refine .ar fun i _=>.ar fun q _=>.cond .fail ?_;cases ev E s t x with
  |agg ls=>exact .cond (here _) .fail
  |_=>exact .fail
 |indexAddr t x i=>
  simp only[];refine .ar fun i _=>.ar fun q _=>?_;cases ev E s t x with
  |one l=>
   cases l with
   |val tt y=>
    cases tt with
    |sl e cs=>exact .cond (.nX (here _) .fail) .fail
    |_=>exact .fail
   |ref id g hh p=>exact .ar fun c _=>.cond (.nX (.cond (here _) (here _)) .fail) .fail
   |_=>exact .fail
  |_=>exact .fail
 |index t x i=>exact .cond (.ar fun i _=>.ar fun x _=>.nX (here _) .fail) .fail
 |extract t i=>
  simp only[];cases ev E s 0 t with
  |nE cs=>exact .ar fun c _=>here _
  |_=>exact .fail
 |alloc t=>exact .ar fun i _=>pt _ _ (.new _ _ _)
 |box t x=>exact .ar fun i _=>.ar fun v _=>.cond (.cond (.ar fun r hr=>pt _ _ (lI hr)) (pt _ _ (.new _ _ _))) .fail
 |buildSlice t n ps=>exact .ar fun r _=>.cond (.cond (.ar fun lss _=>.ar fun q hq=>.ar fun x _=>pt _ _ ((eB hq).trans (.new _ _ _))) (.ar fun q hq=>pt _ _ ((nU hq).trans (.new _ _ _)))) .fail
 |store t p v=>
  refine .ar fun i _=>.ar fun v _=>.cond ?_ .fail;cases ev E s 0 p with
  |one l=>exact .ar fun s1 h1=>pt _ _ (uV h1)
  |_=>exact .fail
 |makeSlice t n c=>exact .ar fun r _=>.ar fun n' _=>.cond (.nX (pt _ _ (.new _ _ _)) .fail) .fail
 |makeMap t rv=>exact .ar fun kk _=>.cond (pt _ _ (.new _ _ _)) .fail
 |lookup t m x ok=>
  refine .ar fun kk _=>.cond .fail ?_;split
  ·refine .ar fun q _=>.cond ?_ .fail;split
   ·exact here _
   ·exact .fail
  ·exact .fail
 |mapUpdate t m x v=>
  refine .ar fun kk _=>?_;split
  ·refine .ar fun q _=>.cond ?_ .fail;split
   ·exact pt _ _ (.bM _ _ _)
   ·exact .fail
  ·exact .fail
 |slice t x lo hi mx=>
  simp only[];unfold jk;refine .ar fun q _=>.ar fun c _=>.cond (.cond (pt _ _ (.refl _)) ?_) .fail;cases mx with
  |some _=>exact .fail
  |none=>
   refine .ar fun l _=>.ar fun h _=>.nX ?_ .fail;unfold eV;split
   ·exact .cond (pt _ _ (.refl _)) (.cond (.cond .fail (pt _ _ ((bw.bM _ _ _).trans (.new _ _ _)))) (pt _ _ (.bM _ _ _)))
   ·exact .fail
   ·exact pt _ _ (.refl _)
 |call c=>
  obtain⟨A4,args,fC⟩:=c;simp only[];refine .cond ?_ .fail;generalize ((args.toList.zip fC.toList).map fun p=>ev E s p.2 p.1)=vs;cases A4 with
  |builtin b=>
   simp only[];unfold dy;split
   ·exact .cond (.ar fun _ _=>pt _ _ (.refl _)) (.ar fun _ _=>.ar fun _ _=>pt _ _ (.refl _))
   ·exact .ar fun _ _=>.ar fun _ _=>pt _ _ (.refl _)
   ·exact .ar fun _ _=>.ar fun _ _=>pt _ _ (.refl _)
   ·rename_i x y t t' _;refine .ar fun q _=>.ar fun _ _=>.ar fun cx _=>.ar fun cy _=>.cond .fail ?_;split
    ·exact .fail
    ·rename_i s1 dp xQ;have hg:bw s s1:=by
      split at xQ
      ·injection xQ with xQ;injection xQ with h1 h2;subst h1;exact .refl _
      ·split at xQ
       ·cases xQ
       ·injection xQ with xQ;injection xQ with h1 h2;subst h1;exact .bM _ _ _
      ·cases xQ
     refine .cond ?_ ?_
     ·split
      ·refine .cond ?_ .fail;split
       ·exact .nX (pt _ _ (hg.trans ((bw.bM _ _ _).trans (.new _ _ _)))) .fail
       ·exact .fail
      ·exact .fail
     ·split
      ·exact .nX (pt _ _ (hg.trans (.new _ _ _))) .fail
      ·exact .fail
   ·exact .fail
  |value f=>
   simp only[];cases ev E s 0 f with
   |one l=>
    cases l with
    |fn tj cc=>
     refine .ar fun g hg=>?_;unfold kP at hg;cases hF:Ψ (tj,uj vs)with
     |none=>rw[hF]at hg;cases hg
     |some F=>
      rw[hF]at hg;injection hg with hg
      subst hg;unfold lY;have look:∀(vs:List ck) (s0:S) (f:ck->S->Option S),bw s s0->(∀v s2,bw s s2->cO s (f v s2))->cO s (jt (aO S) (F.callee S) (o.dst.getD 0) vs s0 f):=by
       intro vs s0 f h0 hf;unfold jt;refine .ar fun s1 h1=>.ar fun vs' _=>.ar fun x _=>?_;show cO s ((F.fn x).bind _);cases F.fn x with
       |none=>exact .fail
       |some y=>exact .ar fun s2 h2=>hf _ _ (h0.trans ((pN h1).trans ((vu h2).trans (jU _ _ _ _))))
      refine .cond (.cond ?_ (.cond (.ar fun r hr=>.ar fun x _=>?_) .fail)) .fail
      ·split
       ·rename_i args' s' q hsp;obtain⟨i,id,gg,hh,p,r1,_,_,q3,q4⟩:=nD hsp;obtain⟨c,e,cs,x,_,_,_,p4⟩:=nC q3;subst p4;injection q4 with _ q4
        injection q4 with q4 _
        subst q4;refine look _ _ _ ((bw.bM _ _ _).trans (.new _ _ _)) fun v s2 hg=>.ar fun s3 h3=>pt _ _ (hg.trans (uF h3))
       ·exact look _ _ _ (.refl _) fun v s2 hg=>pt _ _ hg
      ·show cO s ((F.fn x).bind _);cases F.fn x with
       |none=>exact .fail
       |some y=>exact .ar fun s2 h2=>pt _ _ ((mI hr).trans ((vq h2).trans (jU _ _ _ _)))
    |_=>exact .fail
   |_=>exact .fail
  |invoke _ _=>exact .fail
 |_=>exact .fail
end
end Go.R
namespace Go.R
theorem nv{acc:List Nat}{j:Nat}:∀ {es:List Edge},(iQ acc es).testBit j=true->∃e∈es,Region.binds .any e=true/\(e.on=j\/(acc.getD e.on 0).testBit j=true)
 | [],h=>by simp[iQ]at h
 |e::es,h=>by
  simp only[iQ]at h;cases hb:Region.binds .any e with
  |false=>rw[hb]at h;obtain⟨e',h1,h2⟩:=nv (es:=es) h;exact⟨e',List.mem_cons_of_mem _ h1,h2⟩
  |true=>
   rw[hb]at h;simp only[cond_true]at h;have Gr:∀(x y:Nat),Nat.testBit (Nat.lor x y) j=(Nat.testBit x j||Nat.testBit y j):=fun x y=>Nat.testBit_or x y j;rw[Gr,Gr,Bool.or_eq_true,Bool.or_eq_true]at h;rcases h with (h|h)|h
   ·exact⟨e,by simp,hb,.inr h⟩
   ·refine⟨e,by simp,hb,.inl ?_⟩;have hs:Nat.shiftLeft 1 e.on=2 ^ e.on:=by show 1 <<< e.on=2 ^ e.on;exact Nat.one_shiftLeft e.on
    rw[hs,Nat.testBit_two_pow]at h;simpa using h
   ·obtain⟨e',h1,h2⟩:=nv (es:=es) h;exact⟨e',List.mem_cons_of_mem _ h1,h2⟩
theorem rZ:∀(l:List Oper) (acc:List Nat),∃tl,gS l acc=acc++tl/\tl.length=l.length
 | [],acc=>⟨[],by simp[gS],rfl⟩
 |o::r,acc=>by obtain⟨tl,h1,h2⟩:=rZ r (acc++[iQ acc o.after.toList]);exact⟨iQ acc o.after.toList::tl,by simp only[gS];rw[h1];simp,by simp[h2]⟩
theorem uL:∀(l:List Oper) (acc:List Nat) (k:Nat) (o:Oper),l[k]? = some o->∃pre Dr,gS l acc=pre++Dr/\pre.length=acc.length+k/\(gS l acc).getD (acc.length+k) 0=iQ pre o.after.toList
 | [],_,k,o,h=>by simp at h
 |o::r,acc,0,o',h=>by simp at h;subst h;obtain⟨tl,h1,h2⟩:=rZ r (acc++[iQ acc o.after.toList]);refine⟨acc,iQ acc o.after.toList::tl,by simp only[gS];rw[h1];simp,by simp,?_⟩;simp only[gS];rw[h1];simp
 |o::r,acc,k+1,o',h=>by
  have h':r[k]? = some o':=by simpa using h
  obtain⟨pre,Dr,h1,h2,h3⟩:=uL r (acc++[iQ acc o.after.toList]) k o' h';have hl:(acc++[iQ acc o.after.toList]).length+k=acc.length+(k+1):=by simp;omega
  exact⟨pre,Dr,by simp only[gS];exact h1,h2.trans hl,by simp only[gS];rw[<-hl];exact h3⟩
theorem zk{pre Dr:List Nat}{i j:Nat}(h:(pre.getD i 0).testBit j=true):((pre++Dr).getD i 0).testBit j=true:=by
 simp only[List.getD_eq_getElem?_getD]at h⊢;rcases Nat.lt_or_ge i pre.length with hi|hi
 ·rw[List.getElem?_append_left hi];exact h
 ·rw[List.getElem?_eq_none hi]at h;simp at h
section
variable {ops:Array Oper}
abbrev PP(ops:Array Oper):List Nat:=gS ops.toList []
theorem pC{i j:Nat}{o:Oper}(ho:ops.toList[i]? = some o)(h:dX (PP ops) i j=true):∃e∈o.after.toList,Region.binds .any e=true/\(e.on=j\/dX (PP ops) e.on j=true):=by
 obtain⟨pre,Dr,h1,h2,h3⟩:=uL ops.toList [] i o ho;unfold dX at h;have hz:([]:List Nat).length+i=i:=by simp
 rw[hz]at h3;rw[h3]at h;obtain⟨e,g1,g2,g3⟩:=nv h;refine⟨e,g1,g2,g3.imp id fun g=>?_⟩;show((gS ops.toList []).getD e.on 0).testBit j=true;rw[h1];exact zk g
theorem qL{P:List Nat}{i t:Nat}:∀ {l:List Oper} {k:Nat},wrote P i t k l=true->∀(j:Nat) (o:Oper),l[j]? = some o->o.dst=some t->dX P i (k+j)=true\/dX P (k+j) i=true
 | [],_,_,j,o,h,_=>by simp at h
 |o::r,k,h,0,o',h1,h2=>by
  simp at h1;subst h1;simp only[wrote,Bool.and_eq_true,Bool.or_eq_true]at h;rcases h.1 with h|h
  ·rw[h2]at h;simp[isDst]at h
  ·exact h
 |o::r,k,h,j+1,o',h1,h2=>by simp only[wrote,Bool.and_eq_true]at h;have:=qL h.2 j o' (by simpa using h1) h2;rwa[show k+1+j=k+(j+1)by omega]at this
theorem oO{i t:Nat}:∀ {l:List Oper} {k:Nat},alone i (some t) k l=true->∀(j:Nat) (o:Oper),l[j]? = some o->i≠k+j->o.dst≠some t
 | [],_,_,j,o,h,_=>by simp at h
 |o::r,k,h,0,o',h1,h2=>by
  simp at h1;subst h1;simp only[alone,Bool.and_eq_true,Bool.or_eq_true]at h;rcases h.1 with h|h
  ·exact absurd (Nat.eq_of_beq_eq_true h) (by simpa using h2)
  ·intro e;rw[e]at h;simp[isDst]at h
 |o::r,k,h,j+1,o',h1,h2=>by simp only[alone,Bool.and_eq_true]at h;exact oO h.2 j o' (by simpa using h1) (by omega)
structure Stat (ops:Array Oper) (i:Nat) (o:Oper):Prop where
 back:∀e∈o.after.toList,Region.binds .any e=true->e.on<i
 reads:∀t∈kJ ops o,∀(j:Nat) (o':Oper),ops.toList[j]? = some o'->o'.dst=some t->dX (PP ops) i j=true\/dX (PP ops) j i=true
 lone:∀t,o.dst=some t->∀(j:Nat) (o':Oper),ops.toList[j]? = some o'->i≠j->o'.dst≠some t
 made:makes o.op=true->o.dst≠none
theorem n9{P:List Nat}(hP:P=PP ops):∀ {l:List Oper} {k:Nat},lM P ops k l=true->∀(j:Nat) (o:Oper),l[j]? = some o->Stat ops (k+j) o
 | [],_,_,j,o,h=>by simp at h
 |o::r,k,h,0,o',h1=>by
  simp at h1;subst h1;subst hP;simp only[lM,Bool.and_eq_true]at h;obtain⟨⟨⟨⟨h1,h2⟩,h3⟩,h4⟩,_⟩:=h;refine⟨fun e he hb=>?_,fun t ht j o' hj hd=>?_,fun t ht j o' hj hij=>?_,fun hm hd=>?_⟩
  ·have:=List.all_eq_true.1 h1 e he;rw[hb]at this;exact Nat.le_of_ble_eq_true (by simpa using this)
  ·have:=qL (List.all_eq_true.1 h2 t ht) j o' hj hd;simpa using this
  ·rw[ht]at h3;exact oO h3 j o' hj (by simpa using hij)
  ·rw[hm,hd]at h4;cases h4
 |o::r,k,h,j+1,o',h1=>by simp only[lM,Bool.and_eq_true]at h;have:=n9 hP h.2 j o' (by simpa using h1);rwa[show k+1+j=k+(j+1)by omega]at this
theorem xM(hS:∀(i:Nat) (o:Oper),ops.toList[i]? = some o->Stat ops i o):∀(i j:Nat) (o:Oper),ops.toList[i]? = some o->dX (PP ops) i j=true->j<i:=by
 intro i;induction i using Nat.strongRecOn with
 |ind i ih=>
  intro j o ho h;obtain⟨e,h1,h2,h3⟩:=pC ho h;have hlt:=(hS i o ho).back e h1 h2;rcases h3 with h3|h3
  ·omega
  ·have hi:i<ops.toList.length:=by
    rcases Nat.lt_or_ge i ops.toList.length with hh|hh
    ·exact hh
    ·rw[List.getElem?_eq_none hh]at ho;cases ho
   have:=ih e.on hlt j _ (List.getElem?_eq_getElem (Nat.lt_trans hlt hi)) h3;omega
end
end Go.R
namespace Go.R
section
variable {R:Type} {E:Env} {Ψ:bR->Option gY} {ops:Array Oper}
def dF(ops:Array Oper)(o:Oper)(s:S):Option Bool:=
  match o.guard with
  |none=>some true
  |some (j, want)=>match(ops[j]?).bind (·.dst)with
    |none=>none
    |some t=>match s.sl t with
      | .one (.val .bool b)=>some ((show Bool from b)==want)
      | .one .undef=>some false
      |_=>none
def mX(E:Env)(Ψ:bR->Option gY)(ops:Array Oper)(o:Oper)(s s':S):Prop:=(dF ops o s=some true/\j7 E Ψ o s=some s')\/(dF ops o s=some false/\s'=s.cg o.dst (.one .undef))
structure Dc (E:Env) (Ψ:bR->Option gY) (ops:Array Oper) (P:List Nat) (l:List Oper) (i:Nat) (as:List (vc real)) (s:S) (st:Nat->S):Prop where
 first:st i=s
 dst:∀(j:Nat) (o:Oper),l[j]? = some o->rV E o.dst=true
 step:∀(j:Nat) (o:Oper),l[j]? = some o->mX E Ψ ops o (st (i+j)) (st (i+j+1))
 Er:∃as',sG P as'=true/\(∀x∈as,x∈as')/\∀(j:Nat) (o:Oper),l[j]? = some o->dF ops o (st (i+j))=some true->⟨i+j,o,st (i+j),st (i+j+1)⟩∈as'
theorem St.mH{s:S}{t:Nat}{v:ck}(h:s.sl t=v):s.set t v=s:=by
 unfold St.set;congr 1;funext i;cases hb:Nat.beq i t with
 |true=>rw[Nat.eq_of_beq_eq_true hb,h];rfl
 |false=>rfl
def uo(i:Nat)(s:S)(st:Nat->S):Nat->S:=fun n=>if n<=i then s else st n
theorem zB(i:Nat)(s:S)(st:Nat->S):uo i s st i=s:=if_pos (Nat.le_refl _)
theorem zA(i:Nat)(s:S)(st:Nat->S)(n:Nat):uo i s st (i+1+n)=st (i+1+n):=if_neg (by omega)
theorem m8{P:List Nat}{r:R}:∀(l:List Oper) (i:Nat) (as:List (vc real)) (s:S) (k:S -> Option R), kQ E (aO R) (kP Ψ R) ops P i l as s k = some r ->
    ∃st, Dc E Ψ ops P l i as s st /\ k (st (i + l.length)) = some r
  | [], i, as, s, k, h=>by
    simp only[kQ]at h;cases hc:sG P as with
    |false=>rw[hc]at h; cases h
    |true=>rw[hc]at h;exact⟨fun _=>s, ⟨rfl, fun j o hj=>by simp at hj, fun j o hj=>by simp at hj, as, hc, fun _ hx=>hx, fun j o hj=>by simp at hj⟩, h⟩
  |o:: l, i, as, s, k, h=>by
    simp only[kQ]at h;cases hd:rV E o.dst with
    |false=>rw[hd]at h; cases h
    |true=>
      rw[hd]at h;simp only[cond_true]at h;have glue:∀(ED:List (vc real)) (s1:S) (st:Nat -> S), Dc E Ψ ops P l (i + 1) ED s1 st -> mX E Ψ ops o s s1 -> (∀x ∈ as, x ∈ ED) ->
          (dF ops o s = some true -> ⟨i, o, s, s1⟩ ∈ ED) -> k (st (i + 1 + l.length)) = some r ->
          ∃st, Dc E Ψ ops P (o:: l) i as s st /\ k (st (i + (o:: l).length)) = some r:=by
        intro ED s1 st hr hs ha fY hk;have e0:∀n, uo i s st (i + 1 + n) = st (i + 1 + n):=fun n=>zA i s st n;have ei:uo i s st i = s:=zB i s st;refine⟨uo i s st, ⟨ei, fun j o' hj=>?_, fun j o' hj=>?_, ?_⟩, ?_⟩
        · cases j with
          |zero=>simp at hj; subst hj; exact hd
          |succ j=>exact hr.dst j o' (by simpa using hj)
        · cases j with
          |zero=>simp at hj; subst hj;have e1:=e0 0;simp only[Nat.add_zero]at e1⊢;rw[e1, ei, hr.first];exact hs
          |succ j=>have e1:=e0 j;have e2:=e0 (j + 1);have:=hr.step j o' (by simpa using hj);rw[show i + (j + 1) = i + 1 + j by omega, e1];rw[show i + 1 + j + 1 = i + 1 + (j + 1)by omega, e2];exact this
        · obtain⟨as', hc, h1, h3⟩:=hr.Er
          refine⟨as', hc, fun x hx=>h1 x (ha x hx), fun j o' hj hg=>?_⟩;cases j with
          |zero=>simp at hj; subst hj;have e1:=e0 0;simp only[Nat.add_zero]at e1 hg⊢;rw[ei]at hg;rw[e1, ei, hr.first];exact h1 _ (fY hg)
          |succ j=>have e1:=e0 j;have e2:=e0 (j + 1);rw[show i + (j + 1) = i + 1 + j by omega]at hg⊢;rw[e1]at hg⊢;rw[show i + 1 + j + 1 = i + 1 + (j + 1)by omega, e2];exact h3 j o' (by simpa using hj) hg
        · have e1:=e0 l.length
          rw[show i + (o:: l).length = i + 1 + l.length by simp; omega, e1];exact hk
      have yes:dF ops o s = some true -> (bl E (aO R) (kP Ψ R) o s fun s1=>kQ E (aO R) (kP Ψ R) ops P (i + 1) l (⟨i, o, s, s1⟩:: as) s1 k) = some r ->
          ∃st, Dc E Ψ ops P (o:: l) i as s st /\ k (st (i + (o:: l).length)) = some r:=by
        intro hg hk;rw[yq]at hk;cases h1:j7 E Ψ o s with
        |none=>rw[h1]at hk; cases hk
        |some s1=>rw[h1]at hk;simp only[Option.bind_some]at hk;obtain⟨st, hr, hks⟩:=m8 l (i + 1) _ s1 k hk;exact glue _ s1 st hr (.inl ⟨hg, h1⟩) (fun x hx=>List.mem_cons_of_mem _ hx) (fun _=>by simp) hks
      have no:dF ops o s = some false -> kQ E (aO R) (kP Ψ R) ops P (i + 1) l as (s.cg o.dst .undef) k = some r ->
          ∃st, Dc E Ψ ops P (o:: l) i as s st /\ k (st (i + (o:: l).length)) = some r:=by
        intro hg hk;obtain⟨st, hr, hks⟩:=m8 l (i + 1) _ _ k hk;exact glue _ _ st hr (.inr ⟨hg, rfl⟩) (fun x hx=>hx) (fun h=>by rw[hg]at h; cases h) hks
      cases hgd:o.guard with
      |none=>rw[hgd]at h; exact yes (by unfold dF; rw[hgd]) h
      |some gw=>
        obtain⟨j, want⟩:=gw;rw[hgd]at h;simp only[]at h;cases ht:(ops[j]?).bind (·.dst)with
        |none=>rw[ht]at h; cases h
        |some t=>
          rw[ht]at h;simp only[]at h;cases jC:s.sl t with
          |one lf=>
            rw[jC]at h;cases lf with
            |val tt b=>
              cases tt with
              |bool=>
                have EL:dF ops o s = some ((show Bool from b)==want):=by unfold dF;rw[hgd]; simp only[]; rw[ht]; simp only[]; rw[jC]
                rcases(show ∃c:Bool, c = b from⟨b, rfl⟩)with ⟨c, rfl⟩;cases c with
                |true=>
                  have hT:s.set t (.one (.val .bool (real.lD true))) = s:=St.mH jC;rw[hT]at h;cases want with
                  |true=>exact yes EL h
                  |false=>exact no EL h
                |false=>
                  have hT:s.set t (.one (.val .bool (real.lD false))) = s:=St.mH jC;rw[hT]at h;cases want with
                  |true=>exact no EL h
                  |false=>exact yes EL h
              |_=>cases h
            |undef=>refine no ?_ h;unfold dF;rw[hgd]; simp only[]; rw[ht]; simp only[]; rw[jC]
            |_=>cases h
          |_=>rw[jC]at h; cases h
end
end Go.R
namespace Go.R
section
variable {E:Env} {Ψ:bR->Option gY} {ops:Array Oper}
def sR(s:S)(o:Oper)(id:Nat):Bool:=(lQ s o).any (Nat.beq id)||jT o id||(mL s o&&Nat.ble cZ id)
def Sep(s:S)(o:Oper)(o':Oper)(t t':S):Prop:=(∀id∈lQ s o,((t.ob id).g=(t'.ob id).g/\(t.ob id).h=(t'.ob id).h)/\jT o' id=false/\(mL t o'=true->id<cZ))/\aZ (o.dst.getD 0) 0 0+2048<=cZ
structure tA (E:Env) (Ψ:bR->Option gY) (ops:Array Oper) (st:Nat->S):Prop where
 stat:∀(i:Nat) (o:Oper),ops.toList[i]? = some o->Stat ops i o
 step:∀(i:Nat) (o:Oper),ops.toList[i]? = some o->mX E Ψ ops o (st i) (st (i+1))
 apart:∀(i j:Nat) (o o':Oper),ops.toList[i]? = some o->ops.toList[j]? = some o'->i≠j->dF ops o (st i)=some true->dF ops o' (st j)=some true ->
  dX (PP ops) i j=true\/dX (PP ops) j i=true\/(¬(mL (st i) o=true/\mL (st j) o'=true)/\Sep (st i) o o' (st j) (st (j+1))/\Sep (st j) o' o (st i) (st (i+1)))
theorem qm{a b:vc real}(h:xe a b=true):Sep a.s a.o b.o b.s b.s':=by
 unfold xe at h;rw[Bool.and_eq_true]at h;refine⟨fun id ee=>?_,Nat.le_of_ble_eq_true h.2⟩;have:=List.all_eq_true.1 h.1 id ee;simp only[xd,Bool.and_eq_true,Bool.or_eq_true]at this;obtain⟨⟨h1,h2⟩,h3,h4⟩:=this;refine⟨⟨Nat.eq_of_beq_eq_true h1,Nat.eq_of_beq_eq_true h2⟩,by simpa using h3,fun hw=>?_⟩;rcases h4 with h4|h4
 ·rw[hw]at h4;cases h4
 ·exact Nat.le_of_ble_eq_true h4
theorem Bt{st:Nat->S}{s:S}(hs:lM (PP ops) ops 0 ops.toList=true)(h:Dc E Ψ ops (PP ops) ops.toList 0 [] s st):tA E Ψ ops st where
 stat i o ho:=by have:=n9 rfl hs i o ho;rwa[Nat.zero_add]at this
 step i o ho:=by have:=h.step i o ho;rwa[Nat.zero_add]at this
 apart i j o o' hi hj hne hg Dh:=by
  obtain⟨as',hc,_,hr⟩:=h.Er;have h1:=hr i o hi (by rwa[Nat.zero_add]);have h2:=hr j o' hj (by rwa[Nat.zero_add]);simp only[Nat.zero_add]at h1 h2;have:=List.all_eq_true.1 (List.all_eq_true.1 hc _ h1) _ h2;simp only[Bool.or_eq_true,Bool.and_eq_true]at this;rcases this with h|h|h|⟨h3,h5,h6⟩
  ·exact absurd (Nat.eq_of_beq_eq_true h) hne
  ·exact .inl h
  ·exact .inr (.inl h)
  ·refine .inr (.inr ⟨fun hw=>?_,qm h5,qm h6⟩);have qU:mL (st i) o=true:=hw.1;have Dl:mL (st j) o'=true:=hw.2;simp[qU,Dl]at h3
theorem St.s9(s:S)(d:Option Nat)(v:ck):(s.cg d v).ob=s.ob:=by cases d <;> rfl
theorem St.sg(s:S){d:Option Nat}{t:Nat}(h:d=some t)(v:ck):(s.cg d v).sl t=v:=by subst h;exact St.ig s t v
theorem St.xf(s:S){d:Option Nat}{t:Nat}(h:d≠some t)(v:ck):(s.cg d v).sl t=s.sl t:=by
 cases d with
 |none=>rfl
 |some d=>exact St.kK _ _ (fun e=>h (by rw[e]))
theorem ry{s:S}{o:Oper}{cur:S}(A9:∀x∈ca o.op,∀t,ev E cur t x=ev E s t x)(bX:∀id,sR s o id=true->cur.ob id=s.ob id):cur=s.mx ⟨cur.sl,sR s o,cur.ob⟩/\yS E s ⟨cur.sl,sR s o,cur.ob⟩ o:=by
 have DP:cur=s.mx ⟨cur.sl,sR s o,cur.ob⟩:=by
  cases cur with
  |mk sl ob=>
   unfold St.mx;congr 1;funext id;show ob id=bif sR s o id then s.ob id else ob id
   cases hb:sR s o id with
   |true=>exact bX id hb
   |false=>rfl
 refine⟨DP,⟨fun x hx t=>by rw[<-DP];exact A9 x hx t,fun hc x hx=>?_,fun hm i h1 h2=>?_,fun hw i hi=>?_⟩⟩
 ·have hin:∀j∈mE s x,∀i∈reach s j,sR s o i=true:=by
   intro j hj i hi;have hm:i∈lQ s o:=by unfold lQ;rw[hc];exact List.mem_flatMap.2 ⟨x,hx,List.mem_flatMap.2 ⟨j,hj,hi⟩⟩
   show(_||_||_)=true;rw[Bool.or_eq_true,Bool.or_eq_true];exact .inl (.inl (List.any_eq_true.2 ⟨i,hm,Nat.beq_refl i⟩))
  refine⟨fun j hj=>hin j hj j (by simp[reach]),fun j hj ls hls l hl i hi=>hin j hj i ?_⟩;unfold reach;rw[hls];exact List.mem_cons_of_mem _ (List.mem_flatMap.2 ⟨l,hl,hi⟩)
 ·have hp:jT o i=true:=by
   unfold jT;rw[hm];simp only[Bool.true_and,Bool.and_eq_true];exact⟨Nat.ble_eq_true_of_le h1,Nat.ble_eq_true_of_le h2⟩
  show(_||_||_)=true;rw[hp];simp
 ·show(_||_||(mL s o&&Nat.ble cZ i))=true;rw[hw,Nat.ble_eq_true_of_le hi];simp
theorem Az{d:Option Nat}{f:Fr}{s:S}{t:Nat}(ht:d≠some t):(C4 d f s).sl t=f.sl t:=by
 cases d with
 |none=>rfl
 |some e=>
  have hne:t≠e:=fun e'=>ht (by rw[e']);show(bif Nat.beq t e then s.sl t else f.sl t)=f.sl t;cases hb:Nat.beq t e with
  |true=>exact absurd (Nat.eq_of_beq_eq_true hb) hne
  |false=>rfl
theorem Ay{d:Option Nat}{f:Fr}{s:S}{t:Nat}(ht:d=some t):(C4 d f s).sl t=s.sl t:=by subst ht;show(bif Nat.beq t t then s.sl t else f.sl t)=s.sl t;rw[Nat.beq_refl];rfl
theorem tg{o:Oper}{s s':S}(h:j7 E Ψ o s=some s'):(∀t,o.dst≠some t->s'.sl t=s.sl t)/\∀id,sR s o id=false->s'.ob id=s.ob id:=by
 obtain⟨e1,e2⟩:=ry (E:=E) (s:=s) (o:=o) (cur:=s) (fun _ _ _=>rfl) (fun _ _=>rfl);have:=xg (Ψ:=Ψ) e2;rw[<-e1,h]at this;injection this with this
 refine⟨fun t ht=>by rw[this];exact Az ht,fun id ee=>?_⟩;rw[this];show(bif sR s o id then s'.ob id else s.ob id)=s.ob id;rw[ee];rfl
theorem mX.sl{o:Oper}{s s':S}(h:mX E Ψ ops o s s'){t:Nat}(ht:o.dst≠some t):s'.sl t=s.sl t:=by
 rcases h with ⟨_,h⟩|⟨_,h⟩
 ·exact(tg h).1 t ht
 ·subst h;exact St.xf s ht _
variable {st:Nat->S} (H:tA E Ψ ops st)
include H
theorem tA.fin{j:Nat}{o:Oper}{t:Nat}(ho:ops.toList[j]? = some o)(hd:o.dst=some t):∀(i:Nat),i<=ops.toList.length->j<i->(st i).sl t=(st (j+1)).sl t:=by
 intro i;induction i with
 |zero=>intro _ h;exact absurd h (Nat.not_lt_zero _)
 |succ i ih=>
  intro hi hj;rcases Nat.lt_or_ge j i with hlt|hge
  ·have pE:i<ops.toList.length:=hi;have Ba:=List.getElem?_eq_getElem pE;rw[(H.step i _ Ba).sl ((H.stat j o ho).lone t hd i _ Ba (by omega))];exact ih (Nat.le_of_lt pE) hlt
  ·have:i=j:=by omega
   rw[this]
theorem tA.CV{t:Nat}:∀(i:Nat),i<=ops.toList.length->(∀(j:Nat) (o:Oper),j<i->ops.toList[j]? = some o->o.dst≠some t)->(st i).sl t=(st 0).sl t:=by
 intro i;induction i with
 |zero=>intro _ _;rfl
 |succ i ih=>intro hi h;have pE:i<ops.toList.length:=hi;have Ba:=List.getElem?_eq_getElem pE;rw[(H.step i _ Ba).sl (h i _ (Nat.lt_succ_self _) Ba)];exact ih (Nat.le_of_lt pE) fun j o hj=>h j o (Nat.lt_succ_of_lt hj)
theorem tA.init{t:Nat}(h:∀(j:Nat) (o:Oper),ops.toList[j]? = some o->o.dst≠some t):∀(i:Nat),i<=ops.toList.length->(st i).sl t=(st 0).sl t:=by
 intro i;induction i with
 |zero=>intro _;rfl
 |succ i ih=>intro hi;have pE:i<ops.toList.length:=hi;have Ba:=List.getElem?_eq_getElem pE;rw[(H.step i _ Ba).sl (h i _ Ba)];exact ih (Nat.le_of_lt pE)
omit H in
theorem lz(id:Nat){m:Nat}:∀(i:Nat),i<=ops.toList.length->m<=i->(∀(j:Nat) (o:Oper),m<=j->j<i->ops.toList[j]? = some o->((st (j+1)).ob id)=(st j).ob id)->(st i).ob id=(st m).ob id:=by
 intro i;induction i with
 |zero=>
  intro _ h _;have:m=0:=by omega
  rw[this]
 |succ i ih=>
  intro hi hm hall;rcases Nat.lt_or_ge i m with hlt|hge
  ·have:m=i+1:=by omega
   rw[this]
  ·have pE:i<ops.toList.length:=hi;rw[hall i _ hge (Nat.lt_succ_self _) (List.getElem?_eq_getElem pE)];exact ih (Nat.le_of_lt pE) hge (fun j o h1 h2 h3=>hall j o h1 (Nat.lt_succ_of_lt h2) h3)
omit H in
def Up(D:Array Bool)(i:Nat):Prop:=D.getD i false=true
structure At (ops:Array Oper) (st:Nat->S) (D:Array Bool) (cur:S):Prop where
 closed:∀(i j:Nat) (o:Oper),ops.toList[i]? = some o->Up D i->dX (PP ops) i j=true->Up D j
 done:∀(j:Nat) (o:Oper) (t:Nat),ops.toList[j]? = some o->Up D j->o.dst=some t->cur.sl t=(st ops.toList.length).sl t
 rest:∀(t:Nat),(∀(j:Nat) (o:Oper),ops.toList[j]? = some o->Up D j->o.dst≠some t)->cur.sl t=(st 0).sl t
 heap:∀id,∃m,m<=ops.toList.length/\(∀(b:Nat) (o:Oper),ops.toList[b]? = some o->(st (b+1)).ob id≠(st b).ob id->(Up D b↔b<m))/\cur.ob id=(st m).ob id
omit H in
theorem nF{D:Array Bool}{i j:Nat}(hi:i<D.size):Up (D.setIfInBounds i true) j↔j=i\/Up D j:=by
 unfold Up;simp only[Array.getD_eq_getD_getElem?,Array.getElem?_setIfInBounds];by_cases h:i=j
 ·subst h;simp[hi]
 ·have h':¬j=i:=fun e=>h e.symm;simp[h,h']
omit H in
theorem wj{d1 d2 i:Nat}(h:d1≠d2)(a1:aZ d1 0 0<=i)(a2:i+1<=aZ d1 0 0+2048)(b1:aZ d2 0 0<=i)(b2:i+1<=aZ d2 0 0+2048):False:=by unfold aZ at a1 a2 b1 b2;omega
theorem tA.any {D:Array Bool} {cur:S} (hD:D.size = ops.size) (hA:At ops st D cur) {i:Nat} {o:Oper} (ho:ops.toList[i]? = some o) (hn:¬Up D i)
    (hr:∀e ∈ o.after.toList, Region.binds .any e = true -> Up D e.on):∃c7, mX E Ψ ops o cur c7 /\ At ops st (D.setIfInBounds i true) c7:=by
  have pE:i<ops.toList.length:=by
    rcases Nat.lt_or_ge i ops.toList.length with h|h
    · exact h
    · rw[List.getElem?_eq_none h]at ho; cases ho
  have zS:i<D.size:=by rw[hD]; simpa using pE
  have hlt:=xM H.stat;have S1:=H.stat i o ho;have pre:∀j, dX (PP ops) i j = true -> Up D j:=by
    intro j hj;obtain⟨e, h1, h2, h3⟩:=pC ho hj;have hu:=hr e h1 h2;rcases h3 with h3|h3
    · rwa[<- h3]
    · have hel:e.on<ops.toList.length:=Nat.lt_trans (S1.back e h1 h2) pE
      exact hA.closed e.on j _ (List.getElem?_eq_getElem hel) hu h3
  have reads:∀t ∈ kJ ops o, cur.sl t = (st i).sl t:=by
    intro t ht;by_cases hex:∃(j:Nat) (o':Oper), ops.toList[j]? = some o' /\ o'.dst = some t
    · obtain⟨j, o', hj, hd⟩:=hex
      rcases S1.reads t ht j o' hj hd with hb|hb
      case inr=>
        have hij:=hlt j i o' hj hb;have Hg:¬Up D j:=fun hu=>hn (hA.closed j i o' hj hu hb);rw[hA.rest t (fun j' FK hj' oo CH=>by
          by_cases e:j = j'
          · subst e; exact Hg oo
          · exact(H.stat j o' hj).lone t hd j' FK hj' e CH)]
        refine(H.CV i (Nat.le_of_lt pE) fun j' FK Fq hj' CH=>?_).symm;exact(H.stat j o' hj).lone t hd j' FK hj' (by omega) CH
      have hji:=hlt i j o ho hb;rw[hA.done j o' t hj (pre j hb) hd, H.fin hj hd _ (Nat.le_refl _) (Nat.lt_trans hji pE), <- H.fin hj hd i (Nat.le_of_lt pE) hji]
    · have hno:∀(j:Nat) (o':Oper), ops.toList[j]? = some o' -> o'.dst ≠ some t:=fun j o' hj hd=>hex ⟨j, o', hj, hd⟩
      rw[hA.rest t (fun j o' hj _=>hno j o' hj), H.init hno i (Nat.le_of_lt pE)]
  have zQ:dF ops o cur = dF ops o (st i):=by
    unfold dF;cases hg:o.guard with
    |none=>rfl
    |some gw=>
      obtain⟨j, want⟩:=gw;simp only[];cases ht:(ops[j]?).bind (·.dst)with
      |none=>rfl
      |some t=>simp only[];rw[reads t (by unfold kJ F6; rw[hg]; simp only[]; rw[ht]; simp)]
  have Ez:∀t, Operand.tmp t ∈ ca o.op -> t ∈ kJ ops o:=by intro t ht;unfold kJ;refine List.mem_append.2 (.inr (List.mem_filterMap.2 ⟨.tmp t, ht, rfl⟩))
  have A9:∀x ∈ ca o.op, ∀t, ev E cur t x = ev E (st i) t x:=by
    intro x hx t;cases x with
    |tmp j=>exact reads j (Ez j hx)
    |_=>rfl
  have ordered:∀id, sR (st i) o id = true -> dF ops o (st i) = some true -> ∀(b:Nat) (ob:Oper), ops.toList[b]? = some ob -> b ≠ i -> (st (b + 1)).ob id ≠ (st b).ob id -> dX (PP ops) i b = true \/ dX (PP ops) b i = true:=by
    intro id ee DW b ob hb hne jB;rcases H.step b ob hb with ⟨G3, h1⟩|⟨_, h1⟩
    · rcases H.apart i b o ob ho hb (fun e=>hne e.symm) DW G3 with h|h|⟨Hr, xQ, tq⟩
      · exact .inl h
      · exact .inr h
      · exfalso
        have hgrow:=yu (E:=E) (Ψ:=Ψ) (s:=st b) (o:=ob) _ h1 id;have jA:sR (st b) ob id = true:=by
          cases hq:sR (st b) ob id with
          |true=>rfl
          |false=>exact absurd ((tg h1).2 id hq) jB
        unfold sR at ee jA;rw[Bool.or_eq_true, Bool.or_eq_true, Bool.and_eq_true]at ee jA;have mem:∀ {s:S} {o:Oper}, (lQ s o).any (Nat.beq id) = true -> id ∈ lQ s o:=by intro s o h;obtain⟨x, hx, Hs⟩:=List.any_eq_true.1 h;rw[Nat.eq_of_beq_eq_true Hs]; exact hx
        have pr:∀ {o:Oper}, jT o id = true -> aZ (o.dst.getD 0) 0 0 + 2048 <= cZ -> id<cZ:=by intro o h h2;unfold jT at h;simp only[Bool.and_eq_true]at h;have:=Nat.le_of_ble_eq_true h.2.2;omega
        rcases ee with (ee|ee)|ee
        · obtain⟨⟨e1, e2⟩, _⟩:=xQ.1 id (mem ee)
          exact jB (hgrow.same e1 e2)
        · rcases jA with (jA|jA)|jA
          · have:=(tq.1 id (mem jA)).2.1
            rw[ee]at this; cases this
          · unfold jT at ee jA
            simp only[Bool.and_eq_true]at ee jA;obtain⟨m1, a1, a2⟩:=ee;obtain⟨m2, b1, b2⟩:=jA;have a1:=Nat.le_of_ble_eq_true a1;have a2:=Nat.le_of_ble_eq_true a2;have b1:=Nat.le_of_ble_eq_true b1;have b2:=Nat.le_of_ble_eq_true b2;cases Fg:o.dst with
            |none=>exact S1.made m1 Fg
            |some d1=>
              cases mP:ob.dst with
              |none=>exact(H.stat b ob hb).made m2 mP
              |some d2=>have Gh:d1 ≠ d2:=fun e=>S1.lone d1 Fg b ob hb (fun e=>hne e.symm) (by rw[mP, e]);rw[Fg]at a1 a2;rw[mP]at b1 b2;simp only[Option.getD_some]at a1 a2 b1 b2;exact wj Gh a1 a2 b1 b2
          · have:=pr ee xQ.2
            have:=Nat.le_of_ble_eq_true jA.2;omega
        · have hge:=Nat.le_of_ble_eq_true ee.2
          rcases jA with (jA|jA)|jA
          · have:=(tq.1 id (mem jA)).2.2 ee.1
            omega
          · have:=pr jA tq.2
            omega
          · exact Hr ⟨ee.1, jA.1⟩
    · exact absurd (by rw[h1, St.s9]) jB
  have Gz:dF ops o (st i) = some true -> ∀id, sR (st i) o id = true -> cur.ob id = (st i).ob id:=by
    intro DW id ee;obtain⟨m, hm, Dj, bX⟩:=hA.heap id;rw[bX];have key:∀(b:Nat) (ob:Oper), ops.toList[b]? = some ob -> b ≠ i -> (st (b + 1)).ob id ≠ (st b).ob id -> (Up D b ↔ b<i):=by
      intro b ob hb hne jB;rcases ordered id ee DW b ob hb hne jB with h|h
      · have:=hlt i b o ho h
        exact⟨fun _=>this, fun _=>pre b h⟩
      · have hib:=hlt b i ob hb h
        exact⟨fun hu=>absurd (hA.closed b i ob hb hu h) hn, fun h'=>by omega⟩
    rcases Nat.lt_or_ge i m with EM|He
    · refine lz (ops:=ops) (st:=st) id m hm (Nat.le_of_lt EM) fun j oj h1 h2 hj=>?_
      refine Classical.byContradiction fun jB=>?_;have hu:=(Dj j oj hj jB).2 h2;by_cases e:j = i
      · subst e; exact hn hu
      · have:=(key j oj hj e jB).1 hu; omega
    · refine(lz (ops:=ops) (st:=st) id i (Nat.le_of_lt pE) He fun j oj h1 h2 hj=>?_).symm
      refine Classical.byContradiction fun jB=>?_;have hu:=(key j oj hj (by omega) jB).2 h2;have:=(Dj j oj hj jB).1 hu;omega
  have fin:∀c7:S, (∀t, o.dst = some t -> c7.sl t = (st (i + 1)).sl t) -> (∀t, o.dst ≠ some t -> c7.sl t = cur.sl t) -> (∀id, (c7.ob id = (st (i + 1)).ob id /\ cur.ob id = (st i).ob id /\ dF ops o (st i) = some true /\ sR (st i) o id = true) \/ (c7.ob id = cur.ob id /\ (st (i + 1)).ob id = (st i).ob id)) -> At ops st (D.setIfInBounds i true) c7:=by
    intro c7 h1 h2 h3;refine⟨fun a b oa Gp EQ hb=>?_, fun j oj t hj hu hd=>?_, fun t ht=>?_, fun id=>?_⟩
    · rw[nF zS]at EQ⊢
      rcases EQ with e|EQ
      · subst e
        rw[Gp]at ho; injection ho with ho; subst ho
        exact .inr (pre b hb)
      · exact .inr (hA.closed a b oa Gp EQ hb)
    · rw[nF zS]at hu
      by_cases e:j = i
      · subst e
        rw[hj]at ho; injection ho with ho; subst ho
        rw[h1 t hd, H.fin hj hd _ (Nat.le_refl _) pE]
      · have hu:Up D j:=hu.resolve_left e
        rw[h2 t (fun CH=>(H.stat j oj hj).lone t hd i o ho e CH)];exact hA.done j oj t hj hu hd
    · rw[h2 t (ht i o ho ((nF zS).2 (.inl rfl)))]
      exact hA.rest t fun j oj hj hu=>ht j oj hj ((nF zS).2 (.inr hu))
    · rcases h3 id with ⟨h3, h4, DW, ee⟩|⟨h3, h4⟩
      · refine⟨i + 1, pE, fun b ob hb jB=>?_, h3⟩
        rw[nF zS];by_cases e:b = i
        · subst e; exact⟨fun _=>Nat.lt_succ_self _, fun _=>.inl rfl⟩
        · rcases ordered id ee DW b ob hb e jB with h|h
          · have:=hlt i b o ho h
            exact⟨fun _=>by omega, fun _=>.inr (pre b h)⟩
          · have hib:=hlt b i ob hb h
            exact⟨fun hu=>absurd (hA.closed b i ob hb (hu.resolve_left e) h) hn, fun h'=>by omega⟩
      · obtain⟨m, hm, Dj, bX⟩:=hA.heap id
        refine⟨m, hm, fun b ob hb jB=>?_, h3.trans bX⟩;rw[nF zS, <- Dj b ob hb jB];refine⟨fun h=>h.resolve_left fun e=>?_, .inr⟩;subst e;exact jB h4
  rcases H.step i o ho with ⟨hg, hst⟩|⟨hg, hst⟩
  · obtain⟨e1, e2⟩:=ry (E:=E) (s:=st i) (o:=o) (cur:=cur) A9 (Gz hg)
    have Gq:=xg (Ψ:=Ψ) e2;rw[<- e1, hst]at Gq;refine⟨C4 o.dst ⟨cur.sl, sR (st i) o, cur.ob⟩ (st (i + 1)), .inl ⟨by rw[zQ]; exact hg, Gq⟩, fin _ (fun t ht=>Ay ht) (fun t ht=>Az ht) (fun id=>?_)⟩;cases ee:sR (st i) o id with
    |true=>refine .inl ⟨?_, Gz hg id ee, hg, rfl⟩;show(bif sR (st i) o id then(st (i + 1)).ob id else cur.ob id) = _;rw[ee]; rfl
    |false=>refine .inr ⟨?_, (tg hst).2 id ee⟩;show(bif sR (st i) o id then(st (i + 1)).ob id else cur.ob id) = _;rw[ee]; rfl
  · refine⟨cur.cg o.dst (.one .undef), .inr ⟨by rw[zQ]; exact hg, rfl⟩, fin _ (fun t ht=>?_) (fun t ht=>St.xf _ ht _) (fun id=>.inr ⟨by rw[St.s9], by rw[hst, St.s9]⟩)⟩
    rw[hst, St.sg _ ht, St.sg _ ht]
theorem tA.all{D:Array Bool}{cur:S}(hA:At ops st D cur)(hD:∀(i:Nat),i<ops.toList.length->Up D i):cur=st ops.toList.length:=by
 have h1:cur.sl=(st ops.toList.length).sl:=by
  funext t;by_cases hex:∃(j:Nat) (o':Oper),ops.toList[j]? = some o'/\o'.dst=some t
  ·obtain⟨j,o',hj,hd⟩:=hex;refine hA.done j o' t hj (hD j ?_) hd;rcases Nat.lt_or_ge j ops.toList.length with h|h
   ·exact h
   ·rw[List.getElem?_eq_none h]at hj;cases hj
  ·have hno:∀(j:Nat) (o':Oper),ops.toList[j]? = some o'->o'.dst≠some t:=fun j o' hj hd=>hex ⟨j,o',hj,hd⟩;rw[hA.rest t (fun j o' hj _=>hno j o' hj),H.init hno _ (Nat.le_refl _)]
 have h2:cur.ob=(st ops.toList.length).ob:=by funext id;obtain⟨m,hm,Dj,bX⟩:=hA.heap id;rw[bX];refine(lz (ops:=ops) (st:=st) id _ (Nat.le_refl _) hm fun j oj h1 h2 hj=>?_).symm;refine Classical.byContradiction fun jB=>?_;have:=(Dj j oj hj jB).1 (hD j h2);omega
 cases cur;cases hst:st ops.toList.length;rw[hst]at h1 h2;simp only[]at h1 h2;rw[h1,h2]
end
end Go.R
namespace Go.R
theorem count_set:∀(l:List Bool) (i:Nat),l[i]? = some false->(l.set i true).countP (fun b=>!b)+1=l.countP (fun b=>!b)
 | [],i,h=>by simp at h
 |b::l,0,h=>by simp at h;subst h;simp
 |b::l,i+1,h=>by have:=count_set l i (by simpa using h);simp only[List.set_cons_succ,List.countP_cons];omega
theorem vD{l:List Bool}(h:l.countP (fun b=>!b)=0)(i:Nat)(hi:i<l.length):l[i]? = some true:=by rw[List.countP_eq_zero]at h;have:=h _ (List.getElem_mem hi);rw[List.getElem?_eq_getElem hi];simpa using this
section
variable {R:Type} {P:Program} {E:Env} {Ψ:bR->Option gY} {ops:Array Oper} {st:Nat->S}
theorem qJ{D:Array Bool}{i:Nat}:Up D i↔D.toList[i]? = some true:=by
 unfold Up;rw[Array.getD_eq_getD_getElem?,Array.getElem?_toList];cases D[i]? with
 |none=>simp
 |some b=>simp
theorem Rel.drawn{ω:aK}{a:Act}{w w':World}{s:S}(h:Rel ω a w s)(hw:w'.heap=w.heap)(he:dK ω w ω w'):Rel ω a w' s where
 HY:=h.HY.ext he
 inj:=h.inj
 dom b k hb:=by rw[hw];exact h.dom b k hb
 defers:=h.defers
 dN:=h.dN
 slots i:=df.frame he (fun id=>gk.tr ⟨rfl,fun b k _ _ _=>⟨by rw[hw],rfl⟩⟩ he h.dom) (h.slots i)
 dx id cells hc:=by obtain⟨b,arr,T,h1,h2,h3⟩:=h.dx id cells hc;exact⟨b,arr,T,h1,by rw[hw];exact h2,h3.mono fun _ _ hl=>cw.frame he (fun id=>gk.tr ⟨rfl,fun b k _ _ _=>⟨by rw[hw],rfl⟩⟩ he h.dom) hl⟩
theorem qK(hE:cm P E)(hC:gJ P E Ψ){U:Nat -> Prop}(H:tA E Ψ ops st)(qR:∀(i:Nat) (o:Oper), ops.toList[i]? = some o -> rV E o.dst = true)(hU:∀o ∈ ops.toList, ∀j, U j -> o.dst ≠ some j):
    ∀(fuel:Nat) (D:Array Bool) (ω:aK) (a:Act) (w:World) (cur:S) (Qn:Exit -> Act -> World -> Prop), D.size = ops.size -> D.toList.countP (fun b=>!b) = fuel -> At ops st D cur -> a.tmps.size = E.nt -> Rel ω a w cur ->
    (∀aI a' w', Rel aI a' w' (st ops.toList.length) -> dK ω w aI w' -> a'.tmps.size = a.tmps.size -> (∀j, U j -> a'.tmps.getD j undef = a.tmps.getD j undef) -> Qn .normal a' w') -> wpAny P .any ops Qn fuel D a w
  |fuel, D, ω, a, w, cur, Qn, hD, hc, hA, hn, hR, hQ=>by
    have hlen:ops.toList.length = D.toList.length:=by simp[hD]
    have fin:Region.ready .any ops D = [] -> Qn .normal a w:=by
      intro hr;have hall:∀(i:Nat), i<ops.toList.length -> Up D i:=by
        intro i;induction i using Nat.strongRecOn with
        |ind i ih=>
          intro hi;cases hu:D.getD i false with
          |true=>exact hu
          |false=>
            exfalso;have Ba:=List.getElem?_eq_getElem hi;have hmem:i ∈ Region.ready .any ops D:=by
              refine mem_ready.2 ⟨?_, ops.toList[i], by simp, fun e he hb=>?_⟩
              · have zS:i<D.size:=by rw[hD]; simpa using hi
                rw[Array.getD_eq_getD_getElem?]at hu⊢;rw[Array.getElem?_eq_getElem zS]at hu⊢;simpa using hu
              · have hlt:=(H.stat i _ Ba).back e (by simpa using he) hb
                exact ih e.on hlt (Nat.lt_trans hlt hi)
            rw[hr]at hmem;cases hmem
      rw[H.all hA hall]at hR;exact hQ ω a w hR (dK.refl _ _) rfl (fun _ _=>rfl)
    cases fuel with
    |zero=>
      have hr:Region.ready .any ops D = []:=by
        cases hr:Region.ready .any ops D with
        |nil=>rfl
        |cons i l=>
          exfalso;have hmem:i ∈ Region.ready .any ops D:=by rw[hr]; simp
          obtain⟨DZ, o, ho, _⟩:=mem_ready.1 hmem;have G6:i<D.toList.length:=by
            rw[<- hlen];rcases Nat.lt_or_ge i ops.size with h|h
            · simpa using h
            · rw[Array.getElem?_eq_none h]at ho; cases ho
          have:=vD hc i G6;rw[Array.getD_eq_getD_getElem?, <- Array.getElem?_toList, this]at DZ;cases DZ
      exact⟨hr, fin hr⟩
    |succ fuel=>
      refine⟨fin, fun i hi=>?_⟩;obtain⟨DZ, o, cR, hall⟩:=mem_ready.1 hi;have ho:ops.toList[i]? = some o:=by rw[Array.getElem?_toList]; exact cR
      have pE:i<ops.size:=by
        rcases Nat.lt_or_ge i ops.size with h|h
        · exact h
        · rw[Array.getElem?_eq_none h]at cR; cases cR
      have zS:i<D.size:=by rw[hD]; exact pE
      have hfalse:D.toList[i]? = some false:=by rw[Array.getElem?_toList, Array.getElem?_eq_getElem zS];rw[Array.getD_eq_getD_getElem?, Array.getElem?_eq_getElem zS]at DZ;simpa using DZ
      have Hi:¬Up D i:=by rw[qJ, hfalse]; simp
      obtain⟨c7, hst, F9⟩:=H.any hD hA ho Hi (fun e he hb=>hall e (by simpa using he) hb);have dY:(D.setIfInBounds i true).toList.countP (fun b=>!b) = fuel:=by rw[Array.toList_setIfInBounds];have:=count_set _ i hfalse;omega
      have hd:∀d, o.dst = some d -> d<a.tmps.size:=by intro d e;have:=qR i o ho;rw[e]at this;have h1:d + 1 <= E.nt:=Nat.le_of_ble_eq_true this;rw[hn]; exact h1
      have DJ:=hU o (List.mem_of_getElem? ho);have yes:j7 E Ψ o cur = some c7 -> o.wp P a w (wpAny P .any ops Qn fuel (D.setIfInBounds i true)) Qn:=by
        intro h1;refine Oper.wp_mono (fun a' w' nP=>?_) (uS (R:=S) (k:=some) hE hC hR hd h1);obtain⟨aI, s', g1, g2, g3, g4, g5⟩:=nP;injection g3 with g3
        subst g3;refine qK hE hC H qR hU fuel _ aI a' w' s' Qn (by simpa using hD) dY F9 (g4.trans hn) g1 (fun bW a2 w2 q1 q2 q4 q5=>?_);exact hQ bW a2 w2 q1 (g2.trans q2) (q4.trans g4) (fun j hj=>(q5 j hj).trans (g5 j (DJ j hj)))
      have no:c7 = cur.cg o.dst (.one .undef) -> wpAny P .any ops Qn fuel (D.setIfInBounds i true) (a.put o.dst undef) w:=by
        intro h1;have Df:Rel ω (a.put o.dst undef) w c7:=by rw[h1]; exact hR.cg hd (t:=.one .undef) rfl
        refine qK hE hC H qR hU fuel _ ω _ w c7 Qn (by simpa using hD) dY F9 ((iR _ _ _).trans hn) Df (fun bW a2 w2 q1 q2 q4 q5=>?_);exact hQ bW a2 w2 q1 q2 (q4.trans (iR _ _ _)) (fun j hj=>(q5 j hj).trans (kI _ _ _ (DJ j hj)))
      unfold wpOp;rw[cR];simp only[];have hw:∀b, dF ops o cur = some b -> Region.wanted o (yielded ops a.tmps) = b:=by
        intro b hg;unfold dF at hg;cases hgd:o.guard with
        |none=>rw[hgd]at hg; injection hg with hg; subst hg; simp[Region.wanted, hgd]
        |some gw=>
          obtain⟨j, want⟩:=gw;rw[hgd]at hg;simp only[]at hg;cases ht:(ops[j]?).bind (·.dst)with
          |none=>rw[ht]at hg; cases hg
          |some t=>
            rw[ht]at hg;simp only[]at hg;have jC:=hR.slots t;cases hs:cur.sl t with
            |one l=>
              rw[hs]at hg jC;cases l with
              |val tt b0=>
                cases tt with
                |bool=>
                  injection hg with hg
                  have hv:a.tmps.getD t undef = .bool b0:=jC;have hy:=mM (ops:=ops) ht hv;have hw:Region.wanted o (yielded ops a.tmps) = (some (show Bool from b0)==some want):=by simp[Region.wanted, hgd, hy]
                  rw[hw, <- hg];rcases(show ∃c:Bool, c = b0 from⟨b0, rfl⟩)with ⟨c, rfl⟩;cases c <;> cases want <;> rfl
                |_=>cases hg
              |undef=>
                injection hg with hg
                have hv:a.tmps.getD t undef = undef:=jC;have hy:=kZ (ops:=ops) ht hv;subst hg;simp[Region.wanted, hgd, hy]
              |_=>cases hg
            |_=>rw[hs]at hg; cases hg
      rcases hst with ⟨hg, h1⟩|⟨hg, h1⟩
      · rw[if_pos (hw true hg)]
        exact .inl (yes h1)
      · rw[if_neg (by rw[hw false hg]; decide)]
        exact no h1
theorem wk (hm:P.follows .mixedOrders=true) (hE:cm P E) (hC:gJ P E Ψ) {U:Nat->Prop} {id:Nat} {ω:aK} {a:Act} {w:World} {s:S} {k:S->Option R} {r:R} {Qn:Exit->Act->World->Prop} (hU:∀o∈ops.toList,∀j,U j->o.dst≠some j) (hn:a.tmps.size=E.nt) (h:Rel ω a w s)
  (hk:s7 E (aO R) (kP Ψ R) ops s k=some r)
  (hQ:∀aI a' w' s',Rel aI a' w' s'->dK ω w aI w'->k s'=some r->a'.tmps.size=a.tmps.size->(∀j,U j->a'.tmps.getD j undef=a.tmps.getD j undef)->Qn .normal a' w'):(Code.region id ops true).wp P Qn a w:=by
 unfold s7 at hk;cases hs:lM (gS ops.toList []) ops 0 ops.toList with
 |false=>rw[hs]at hk;cases hk
 |true=>
  rw[hs]at hk;simp only[cond_true]at hk;obtain⟨st,hr,hks⟩:=m8 _ _ _ _ _ hk;have H:=Bt hs hr;rw[Nat.zero_add]at hks;have he:dK ω w ω { w with drawn:=w.drawn+1 }:=⟨rfl,rfl,rfl,Nat.le_refl _,fun _ _ _=>⟨rfl,rfl⟩⟩
  refine wp_region_any hm ?_;have hsz:(Array.replicate ops.size false).toList.countP (fun b=>!b)=ops.size:=by simp[List.countP_replicate]
  refine qK hE hC (U:=U) H (fun i o ho=>hr.dst i o ho) hU ops.size _ ω a _ s Qn (by simp) hsz ?_ hn (h.drawn rfl he) (fun aI a' w' q1 q2 q3 q4=>hQ aI a' w' _ q1 (he.trans q2) hks q3 q4);have hno:∀i,¬Up (Array.replicate ops.size false) i:=by intro i hi;rw[qJ]at hi;simp[List.getElem?_replicate]at hi
  exact⟨fun i j o _ hi=>absurd hi (hno i),fun j o t _ hj=>absurd hj (hno j),fun t _=>by rw[hr.first],fun id=>⟨0,Nat.zero_le _,fun b o _ _=>⟨fun hb=>absurd hb (hno b),fun hb=>absurd hb (Nat.not_lt_zero _)⟩,by rw[hr.first]⟩⟩
end
end Go.R

