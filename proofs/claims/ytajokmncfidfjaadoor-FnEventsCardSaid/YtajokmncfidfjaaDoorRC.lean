import Derived.Test.YtajokmncfidfjaaDoorRB
import Derived.MapKept
import Derived.Laws.BytesString
import Derived.Tactics
/- An abstract interpreter over the code of Go functions, proved sound once: what it answers, the code computes. Conditions: none. -/
set_option autoImplicit false
set_option linter.unusedVariables false
set_option linter.unusedSimpArgs false
set_option maxRecDepth 4000
set_option linter.unusedVariables false
namespace Go.R
variable {H:Nat->Value}
open Classical
section
variable {R:Type} {P:Program} {E:Env} {ω:aJ} {a:Act} {w:World} {s:S} {k:S->Option R} {r:R} {o:Oper} {Q:Exit->Act->World->Prop}
theorem vQ {B:Nat->Prop} {t t' e:Nat} {cs:aK} {n m:Nat} {vx vy:Value} {I:TypeInfo} {z:Value} (hu:P.underlying t=some (.slice e)) (hie:P.info? e=some I) (hz:I.zero=some z) (hsz:I.size=cs.len) (hzs:z.cells.size=cs.len) (hby:I.bytes<=65536)
  (hx:(∃ad,vx=.slice ad 0 0/\n=0)\/∃b c arr,vx=.slice (some ⟨b,0,none⟩) n c/\n<=c/\w.heap[b]? = some (.cells arr e (0,0))/\arr.size=c*cs.len/\B b)
  {news:List Value} (hsrc:Src P I.size t' vy m news w) (l8:((n+m:Nat):Int)<=1073741824) (ty:Nat):
  ∃v w',(Builtin.append_ #[t,t'] ty #[vx,vy]).run P w=.ok v w'/\((∃ad,v=.slice ad 0 0/\w'=w/\n=0/\m=0) \/
   ∃b0 c' bW olds,v=.slice (some ⟨b0,0,none⟩) (n+m) c'/\n+m<=c'/\w'.heap[b0]? = some (.cells bW e (0,0))/\bW.size=c'*cs.len/\olds.length=n*cs.len/\(∀j,j<(n+m)*cs.len->bW[j]? = (olds++news)[j]?) /\
    (∀b c,vx=.slice (some ⟨b,0,none⟩) n c->∀j,j<n*cs.len->olds[j]? = w.cell? ⟨b,j,none⟩)/\(w'.os=w.os/\w'.tape=w.tape/\w'.output=w.output)/\w.heap.size<=w'.heap.size/\(∀b,b≠b0->b<w.heap.size->w'.heap[b]? = w.heap[b]?)/\b0<w'.heap.size /\
    (b0<w.heap.size->B b0)):=by
 have hnl:news.length=m*cs.len:=by rw[hsrc.newsLen,hsz]
 have grow:∀(base:Option Addr) (c:Nat) (olds:List Value),vx=.slice base n c->c<n+m->olds.length=n*cs.len->(Builtin.firstCells I.size n (.slice base n c)).run P w.drew=.ok olds.toArray w.drew ->
   (∀b c,vx=.slice (some ⟨b,0,none⟩) n c->∀j,j<n*cs.len->olds[j]? = w.cell? ⟨b,j,none⟩)->∃v w',(Builtin.append_ #[t,t'] ty #[vx,vy]).run P w=.ok v w'/\∃b0 c' bW olds,v=.slice (some ⟨b0,0,none⟩) (n+m) c'/\n+m<=c'/\w'.heap[b0]? = some (.cells bW e (0,0))/\bW.size=c'*cs.len/\olds.length=n*cs.len/\(∀j,j<(n+m)*cs.len->bW[j]? = (olds++news)[j]?) /\
    (∀b c,vx=.slice (some ⟨b,0,none⟩) n c->∀j,j<n*cs.len->olds[j]? = w.cell? ⟨b,j,none⟩)/\(w'.os=w.os/\w'.tape=w.tape/\w'.output=w.output)/\w.heap.size<=w'.heap.size/\(∀b,b≠b0->b<w.heap.size->w'.heap[b]? = w.heap[b]?)/\b0<w'.heap.size /\
    (b0<w.heap.size->B b0):=by
  intro base c olds hv hc ng FP hcell;have hfit:Builtin.nextslicecap (n+m) c*I.bytes<=281474976710656:=by
   refine growslice_fits hc ?_;have h1:(n+m)*I.bytes<=(n+m)*65536:=Nat.mul_le_mul_left _ hby;have h2:n+m<=1073741824:=by omega
   omega
  have hrun:=run_append_grow_src (P:=P) w t t' ty e I z hu hie hz base n c olds FP vy m news hsrc hc (by omega) hfit;rw[<-hv]at hrun;have hge:=grownCap_ge w (n+m) c e;have hG:eO w (w.drew.alloc (.cells ((olds++news).toArray++Builtin.zeroCells z.cells (grownCap w (n+m) c e-(n+m))) e)):=(eO.drew w).trans (eO.alloc w.drew _);refine⟨_,_,hrun,w.heap.size,_,(olds++news).toArray++Builtin.zeroCells z.cells (grownCap w (n+m) c e-(n+m)),olds,rfl,hge,heap_alloc_new w.drew _,?_,ng,fun j hj=>?_,hcell,⟨hG.os,hG.tape,hG.output⟩,hG.size,fun b _ hb=>hG.block b hb,?_,fun hb=>absurd hb (Nat.lt_irrefl _)⟩
  ·have h1:(Builtin.zeroCells z.cells (grownCap w (n+m) c e-(n+m))).size=(grownCap w (n+m) c e-(n+m))*cs.len:=by simp[Builtin.zeroCells,hzs]
   rw[Array.size_append,h1,List.size_toArray,List.length_append,ng,hnl,<-Nat.add_mul,<-Nat.add_mul];congr 1;omega
  ·have hlt:j<(olds++news).toArray.size:=by rw[List.size_toArray,List.length_append,ng,hnl,<-Nat.add_mul];exact hj
   rw[Array.getElem?_append_left hlt,List.getElem?_toArray]
  ·rw[fO];exact Nat.lt_succ_self _
 rcases hx with ⟨ad,hv,rfl⟩|⟨b,c,arr,hv,hn,hh,wh,hB⟩
 ·by_cases h0:m=0
  ·subst h0;have Ez:news=[]:=List.length_eq_zero_iff.1 (by rw[hnl];simp);subst Ez;refine⟨.slice ad 0 0,w,?_,.inl ⟨ad,rfl,rfl,rfl,rfl⟩⟩;subst hv;have hlen:∀w':World,(Builtin.lenOf vy).run P w'=.ok 0 w':=hsrc.len;have Al:(Builtin.firstCells I.size 0 vy).run P w=.ok #[] w:=hsrc.cells;rcases hsrc.kind with ⟨e',hk'⟩|hk'
   ·cases ad <;> simp[Builtin.append_,run_underlying hu,run_underlying hk',sizeOf,typeInfo,hie,hlen,Al,storeCells]
   ·cases ad <;> simp[Builtin.append_,run_underlying hu,run_underlying hk',sizeOf,typeInfo,hie,hlen,Al,storeCells]
  ·obtain⟨v,w',q1,q2⟩:=grow ad 0 [] hv (by omega) (by simp) (by
    cases ad with
    |none=>rfl
    |some A=>exact run_firstCells_some w.drew I.size 0 A 0 0 [] (by simp) (by simp)) (fun _ _ _ j hj=>by simp at hj)
   exact⟨v,w',q1,.inr q2⟩
 ·have hal:arr.toList.length=c*cs.len:=(Array.length_toList (xs:=arr)).trans wh;have hmin:min (n*cs.len) (c*cs.len)=n*cs.len:=Nat.min_eq_left (Nat.mul_le_mul_right _ hn);have jH:∀j,w.cell? ⟨b,j,none⟩=arr[j]?:=fun j=>cell_of_row w b j arr e (0,0) hh;have hold:∀b' c',vx=.slice (some ⟨b',0,none⟩) n c'->∀j,j<n*cs.len->(arr.toList.take (n*cs.len))[j]? = w.cell? ⟨b',j,none⟩:=by
   intro b' c' fL j hj;rw[hv]at fL;injection fL with fL _ _
   injection fL with fL
   injection fL with fL
   subst fL;rw[jH,List.getElem?_take_of_lt hj,Array.getElem?_toList]
  by_cases hroom:n+m<=c
  ·have hfit:n*cs.len+news.length<=arr.size:=by rw[hnl,wh,<-Nat.add_mul];exact Nat.mul_le_mul_right _ hroom
   have hrun:=run_append_room_src (P:=P) w t t' ty e I hu hie b 0 n c vy m news hsrc hroom
    (fun j hj=>by rw[hsz,Nat.zero_add,jH];simp;omega)
    (fun j hj=>by simp[World.frozen?,hh])
   rw[hsz,Nat.zero_add]at hrun;rw[<-hv]at hrun;obtain⟨bW,g1,g2⟩:=ee b e (0,0) news (n*cs.len) w arr hh hfit;have hp:=dV b news (n*cs.len) w;have ng:(arr.toList.take (n*cs.len)).length=n*cs.len:=by rw[List.length_take,hal];exact hmin
   refine⟨_,_,hrun,.inr ⟨b,c,bW,arr.toList.take (n*cs.len),rfl,hroom,g1,?_,ng,fun j hj=>?_,hold,⟨hp.os,hp.tape,hp.output⟩,by rw[hp.size];exact Nat.le_refl _,fun b' hb' _=>hp.block b' hb',by rw[hp.size];exact bB hh,fun _=>hB⟩⟩
   ·rw[<-Array.length_toList,g2];simp only[List.length_append,List.length_take,List.length_drop,Array.length_toList];omega
   ·have hlt:j<(arr.toList.take (n*cs.len)++news).length:=by rw[List.length_append,ng,hnl,<-Nat.add_mul];exact hj
    rw[<-Array.getElem?_toList,g2,List.getElem?_append_left hlt]
  ·obtain⟨v,w',q1,q2⟩:=grow (some ⟨b,0,none⟩) c (arr.toList.take (n*cs.len)) hv (by omega) (by rw[List.length_take,hal];exact hmin) (by
    refine run_firstCells_some w.drew I.size n ⟨b,0,none⟩ n c _ ?_ ?_
    ·rw[List.length_take,hal,hsz];exact hmin
    ·intro j u hu;have hj:j<n*cs.len:=by have:=(List.getElem?_eq_some_iff.1 hu).1;rw[List.length_take]at this;omega
     rw[List.getElem?_take_of_lt hj,Array.getElem?_toList]at hu;rw[Addr.add_mid,Nat.zero_add,<-hu];exact cell_of_row w.drew b j arr e (0,0) hh) hold
   exact⟨v,w',q1,.inr q2⟩
inductive Cu (ω:aJ) (w:World) (s s1:S) (e:Nat) (cs:aK) (x:List cs.T) (v:Value):Prop where
 |none (ad:Option Addr) (hv:v=.slice ad 0 0) (hx:x=[]) (hs:s1=s)
 |some (id:Nat) (ho:(s.ob id).o=.arr e cs true x) (hr:(Ty.sl e cs).R w ω (.deep (id,[])) v x) (hs:s1=s.bQ id true .gone)
theorem rU{v:cm}{i:Nat}(h:gT s v=some i):∃g hh,v=.one (.ref i g hh [])/\(s.ob i).g=g/\∃e cs x,(s.ob i).o=.arr e cs true x:=by
 unfold gT at h;split at h
 ·rename_i id g hh;cases hb:Nat.beq (s.ob id).g g with
  |false=>rw[hb]at h;cases h
  |true=>
   rw[hb]at h;simp only[cond_true]at h;split at h
   ·rename_i e cs dp x ho;cases dp with
    |false=>cases h
    |true=>
     injection h with h
     subst h;exact⟨g,hh,rfl,Nat.eq_of_beq_eq_true hb,e,cs,x,ho⟩
   ·cases h
 ·cases h
def uj(xN:Option Nat)(iR n d:Nat):Key->Option Key:=fun k=>
 if k.1=iR then(match k.2 with
  | []=>none
  |(i,j)::r=>some (d,(i+n,j)::r))
 else if xN=some k.1 then(match k.2 with
  | []=>none
  |(i,j)::r=>if i<n then some (d,(i,j)::r)else none)
 else if k.1=d then none else some k
theorem pq{xN:Option Nat}{iR n d:Nat}{k q:Key}(h:uj xN iR n d k=some q):(k.1=iR/\∃i j r,k.2=(i,j)::r/\q=(d,(i+n,j)::r))\/(k.1≠iR/\xN=some k.1/\∃i j r,k.2=(i,j)::r/\i<n/\q=(d,(i,j)::r))\/(k.1≠d/\q=k):=by
 unfold uj at h;split at h
 ·rename_i e;split at h
  ·cases h
  ·rename_i i j r hk;injection h with h
   exact .inl ⟨e,i,j,r,hk,h.symm⟩
 ·rename_i e;split at h
  ·rename_i ex;split at h
   ·cases h
   ·rename_i i j r hk;split at h
    ·rename_i hlt;injection h with h
     exact .inr (.inl ⟨e,ex,i,j,r,hk,hlt,h.symm⟩)
    ·cases h
  ·split at h
   ·cases h
   ·rename_i hd;injection h with h
    exact .inr (.inr ⟨hd,h.symm⟩)
theorem zJ{xN:Option Nat}{iR n d:Nat}(k k' q:Key)(h:uj xN iR n d k=some q)(h':uj xN iR n d k'=some q):k=k':=by
 rcases pq h with ⟨e1,i,j,r,e2,e3⟩|⟨e0,e1,i,j,r,e2,e4,e3⟩|⟨e1,e3⟩ <;> rcases pq h' with ⟨f1,i',j',r',f2,f3⟩|⟨f0,f1,i',j',r',f2,f4,f3⟩|⟨f1,f3⟩
 ·rw[e3]at f3;injection f3 with _ f3
  injection f3 with f3 f5
  injection f3 with f3 f6
  have:i=i':=by omega
  exact Prod.ext (e1.trans f1.symm) (by rw[e2,f2,this,f6,f5])
 ·rw[e3]at f3;injection f3 with _ f3
  injection f3 with f3 f5
  injection f3 with f3 f6
  omega
 ·rw[e3]at f3;rw[<-f3]at f1;exact absurd rfl f1
 ·rw[e3]at f3;injection f3 with _ f3
  injection f3 with f3 f5
  injection f3 with f3 f6
  omega
 ·rw[e3]at f3;injection f3 with _ f3
  injection f3 with f3 f5
  injection f3 with f3 f6
  rw[e1]at f1;injection f1 with f1
  exact Prod.ext f1 (by rw[e2,f2,f3,f6,f5])
 ·rw[e3]at f3;rw[<-f3]at f1;exact absurd rfl f1
 ·rw[f3]at e3;rw[<-e3]at e1;exact absurd rfl e1
 ·rw[f3]at e3;rw[<-e3]at e1;exact absurd rfl e1
 ·exact e3.symm.trans f3
theorem yf{e:Nat}{cs:aK}{kk:Key}{v:Value}{x:List cs.T}(h:(Ty.sl e cs).R w ω (.deep kk) v x):∃(ad:Option Addr) (cp:Nat) (rows:List Value),v=.slice ad x.length cp/\x.length<=cp/\rows.length=x.length*cs.len/\(∀u∈rows,u.oneCell'=true) /\
  ((cp=0/\x.length=0)\/∃b arr,ad=some ⟨b,0,none⟩/\w.heap[b]? = some (.cells arr e (0,0))/\arr.size=cp*cs.len/\ω b=some kk/\∀j u,rows[j]? = some u->w.cell? ⟨b,j,none⟩=some u) /\
  ∀i,i<x.length->cs.R w ω (fun j=>.deep (kk.1,kk.2++[(i,j)])) (fun j=>rows[i*cs.len+j]?) 0 (x.getD i (lB cs)):=by
 obtain⟨ad,n,cp,e1,e2,e3,e4,e5⟩:=h;subst e2;rcases e4 with e4|⟨b,arr,f1,f2,f3,f4⟩
 ·exact⟨ad,cp,[],e1,e3,by rw[e4.2];simp,by simp,.inl e4,fun i hi=>absurd hi (by omega)⟩
 ·obtain⟨rows,g1,g2⟩:=nN (w:=w) (b:=b) (off:=0) (m:=cs.len) x.length (fun i hi=>by
   obtain⟨us,u1,u2⟩:=aK.zG cs _ _ 0 _ (e5 i _ hi f1);exact⟨us,u1,fun k u hu=>by have:=u2 k u hu;simpa using this⟩)
  refine⟨ad,cp,rows,e1,e3,g1,fun u hu=>?_,.inr ⟨b,arr,f1,f2,f3,f4,fun j u hu=>by have:=(g2 j u hu).1;simpa using this⟩,fun i hi=>?_⟩
  ·obtain⟨k,hk,rfl⟩:=List.getElem_of_mem hu;exact(g2 k _ (List.getElem?_eq_getElem hk)).2
  ·refine aK.fy cs _ _ _ 0 _ (fun j hj=>?_) (e5 i _ hi f1);rw[Nat.zero_add];have hlt:i*cs.len+j<rows.length:=by rw[g1];exact hJ hi hj (Nat.le_refl _)
   have:=(g2 _ _ (List.getElem?_eq_getElem hlt)).1;rw[List.getElem?_eq_getElem hlt,<-this,Nat.zero_add,Nat.zero_add]
theorem um {s1:S} (h:Rel H ω a w s) (hd:∀d,o.dst=some d->d<a.tmps.size) {t t' e e':Nat} {cs:aK} {xs ys:List cs.T} {vx vy:Value} {id':Nat} (oM:id'≠0) {I:TypeInfo} {z:Value}
  (hu:P.underlying t=some (.slice e)) (hie:P.info? e=some I) (hz:I.zero=some z) (hsz:I.size=cs.len) (hzs:z.cells.size=cs.len) (hby:I.bytes<=65536) (oF:P.underlying t'=some (.slice e'))
  (hx:Cu ω w s s1 e cs xs vx) {iR gy hy E2:Nat} (HQ:cA w ω s vy (.ref iR gy hy [])) (Hx:gz s (.one (.ref iR gy hy []))=some (⟨e,cs,ys,E2⟩:Cont real)) (Es:(s1.ob iR).g=gy) (AB:∃e cs x,(s1.ob iR).o=.arr e cs true x)
  (l8:((xs++ys).length:Int)<=1073741824) (ty:Nat)
  (hk:k (((s1.bQ iR true .gone).new id' (.arr e cs true (xs++ys))).ck o.dst (.one (.ref id' (((s1.bQ iR true .gone).new id' (.arr e cs true (xs++ys))).ob id').g 0 [])))=some r):
  ∃v w',(Builtin.append_ #[t,t'] ty #[vx,vy]).run P w=.ok v w'/\Ends H ω a w o.dst k r (a.put o.dst v) w':=by
 rw[gD]at l8;obtain⟨e0,Ip,x0,AB⟩:=AB;have cf:s1.ob iR=s.ob iR:=by
  cases hx with
  |none _ _ _ hs=>rw[hs]
  |some id ho _ hs=>rw[hs]at AB⊢;exact St.bz _ _ _ fun e=>by subst e;rw[St.aV]at AB;cases AB
 have Ek:s.cont iR gy hy []=some (⟨e,cs,ys,E2⟩:Cont real):=Hx;rw[cf]at AB;have Ga:(s.ob iR).o=.arr e cs true ys/\E2=2:=by
  rcases(dF Ek).2 with ⟨dp,f5,_,f6⟩|⟨_,_,_,_,f5,_⟩|⟨f5,_⟩
  ·simp only at f5 f6;rw[AB]at f5;injection f5 with g1 g2 g3 g4
   subst g1;subst g2;subst g3;have:=eq_of_heq g4;subst this;exact⟨AB,f6⟩
  ·exact absurd rfl f5
  ·rw[AB]at f5;cases f5
 obtain⟨F0,rfl⟩:=Ga;have BV:(Ty.sl e cs).R w ω (.deep (iR,[])) vy ys:=HQ.2.2 _ Ek;obtain⟨Il,Io,news,y1,y2,y3,y4,y5,y6⟩:=yf BV;have hsrc:Src P I.size t' vy ys.length news w:=zH oF y1 (by rw[hsz];exact y3) y4 (fun hp=>by
  rcases y5 with y5|⟨b,arr,q1,q2,q3,q4,q5⟩
  ·omega
  ·exact⟨b,0,q1,fun k u hu=>by rw[Nat.zero_add];exact q5 k u hu⟩)
 have hy0:iR≠0:=h.qj (by rw[F0];exact fun e=>by cases e);have DI:Rel H ω a w s1:=by
  cases hx with
  |none _ _ _ hs=>rw[hs];exact h
  |some id _ _ hs=>rw[hs];exact h.gone id true
 have DJ:=DI.gone iR true;have hX:∃xN:Option Nat,(∀i,xN=some i->i≠0/\i≠iR/\((s1.bQ iR true .gone).ob i).o=.gone) /\
   ((∃ad,vx=.slice ad 0 0/\xs.length=0)\/∃idx b c arr,xN=some idx/\vx=.slice (some ⟨b,0,none⟩) xs.length c/\xs.length<=c/\w.heap[b]? = some (.cells arr e (0,0))/\arr.size=c*cs.len/\ω b=some (idx,[]) /\
    ∀i,i<xs.length->cs.R w ω (fun j=>.deep (idx,[(i,j)])) (fun j=>w.cell? ⟨b,i*cs.len+j,none⟩) 0 (xs.getD i (lB cs))):=by
  cases hx with
  |none ad hv hx _=>exact⟨none,fun i e=>(by cases e),.inl ⟨ad,hv,by rw[hx];rfl⟩⟩
  |some id ho hr hs=>
   have hne:id≠iR:=fun e=>by
    subst e;have h1:(s1.ob id).o=.gone:=by rw[hs,St.aV]
    rw[cf,ho]at h1;cases h1
   refine⟨some id,fun i e=>?_,?_⟩
   ·injection e with e
    subst e;refine⟨h.qj (by rw[ho];exact fun e=>by cases e),hne,?_⟩;rw[St.bz _ _ _ hne,hs,St.aV]
   ·obtain⟨ad,n,cp,e1,e2,e3,e4,e5⟩:=hr;subst e2;rcases e4 with ⟨q1,q2⟩|⟨b,arr,q1,q2,q3,q4⟩
    ·subst q1;exact .inl ⟨ad,by rw[e1,q2],q2⟩
    ·refine .inr ⟨id,b,cp,arr,rfl,by rw[e1,q1],e3,q2,q3,q4,fun i hi=>?_⟩;refine aK.fy cs _ _ _ 0 _ (fun j _=>?_) (e5 i _ hi q1);simp only[Nat.zero_add]
 obtain⟨xN,Dk,hX⟩:=hX;obtain⟨v,w',hrun,Ak⟩:=vQ (P:=P) (B:=fun b=>∃idx,xN=some idx/\ω b=some (idx,[])) (n:=xs.length) (m:=ys.length) hu hie hz hsz hzs hby (hX.imp id fun⟨idx,b,c,arr,q1,q2,q3,q4,q5,q6,_⟩=>⟨b,c,arr,q2,q3,q4,q5,idx,q1,q6⟩) hsrc (by omega) ty;refine⟨v,w',hrun,?_⟩;rcases Ak with ⟨ad,rfl,rfl,q1,q2⟩|⟨b0,c',bW,olds,rfl,q2,q3,q4,q5,q6,q7,q8,q9,q10,q11,q12⟩
 ·have hR:=DJ.bare (id':=id') oM (.arr e cs true (xs++ys)) (fun _ e=>by cases e);have wm:xs++ys=[]:=List.length_eq_zero_iff.1 (by rw[gD];omega);rw[wm]at hR hk;exact gS hR (bP _ _ _ oM) hd ⟨ad,0,0,rfl,rfl,Nat.le_refl _,oN,fun i _ hi=>absurd hi (by omega)⟩ hk
 ·have hrow:∀b p,ω b=some p->p.2≠[]->b≠b0:=by
   intro b p hb hp e;subst e;obtain⟨idx,f1,f2⟩:=q12 (h.dom b p hb);rw[hb]at f2;injection f2 with f2
   rw[f2]at hp;exact hp rfl
  obtain⟨hR,hE⟩:=DJ.gR (κ:=uj xN iR xs.length id') (d:=id') (b0:=b0) (w':=w') (src:=fun i=>i=iR\/xN=some i) (ob:=.arr e cs true (xs++ys)) (fun c e=>by cases e) oM
   (fun hs=>hs.elim (fun e=>hy0 e.symm) (fun e=>(Dk 0 e).1 rfl)) zJ
   (fun kk p hp=>by
    rcases pq hp with ⟨_,i,j,r,_,e3⟩|⟨_,_,i,j,r,_,_,e3⟩|⟨e1,e3⟩
    ·injection e3 with _ e3;rw[e3];exact fun e=>by cases e
    ·injection e3 with _ e3;rw[e3];exact fun e=>by cases e
    ·rw[<-e3]at e1;exact absurd rfl e1)
   (fun i p hs hi=>by unfold uj;rw[if_neg (fun e=>hs (.inl e)),if_neg (fun e=>hs (.inr e)),if_neg hi])
   (fun i hs=>by
    rcases hs with rfl|hs
    ·rw[St.aV]
    ·exact(Dk i hs).2.2)
   q8 q9 q10 q11 (fun hb=>by obtain⟨idx,f1,f2⟩:=q12 hb;exact⟨_,f2,.inr f1⟩)
  have hnl:news.length=ys.length*cs.len:=y3;refine gS (dp:=true) hR hE hd ?_ hk;refine⟨some ⟨b0,0,none⟩,xs.length+ys.length,c',rfl,gD _ _,q2,.inr ⟨b0,bW,rfl,q3,q4,by unfold aJ.gR;rw[if_pos rfl];rfl⟩,fun i A hi hA=>?_⟩;injection hA with hA
  subst hA;rw[uI];split
  ·rename_i hlt;rcases hX with ⟨ad,_,g2⟩|⟨idx,b,c2,arr,g1,g2,g3,g4,g5,g6,g7⟩
   ·omega
   ·have hrw:=g7 i hlt;have hne:=(Dk idx g1).2.1;refine aK.fy cs _ (fun j=>w.cell? ⟨b,i*cs.len+j,none⟩) _ 0 _ (fun j hj=>?_) (aK.gp cs (fun j=>(idx,[(i,j)])) (fun j=>(id',[(i,j)])) _ _ 0 _ (fun j b' rr hb' hk'=>?_) (fun _=>rfl) hrw)
    ·simp only[Nat.zero_add];rw[cell_of_row w' b0 _ bW e (0,0) q3,q6 _ (hJ (by omega) hj (Nat.le_refl _)),List.getElem?_append_left (by rw[q5];exact hJ hlt hj (Nat.le_refl _)),q7 b c2 g2 _ (hJ hlt hj (Nat.le_refl _))]
    ·have hk':ω b'=some (idx,(i,j)::rr):=hk';have hnb:=hrow b' _ hk' (fun e=>by cases e);refine⟨q10 b' hnb hb',?_⟩;rw[jY hnb hk'];unfold uj;rw[if_neg hne,if_pos g1];simp only;rw[if_pos hlt];rfl
  ·rename_i hge;have lI:i-xs.length<ys.length:=by omega
   have hrw:=y6 (i-xs.length) lI;refine aK.fy cs _ (fun j=>news[(i-xs.length)*cs.len+j]?) _ 0 _ (fun j hj=>?_) (aK.gp cs (fun j=>(iR,[(i-xs.length,j)])) (fun j=>(id',[(i,j)])) _ _ 0 _ (fun j b' rr hb' hk'=>?_) (fun _=>rfl) hrw)
   ·simp only[Nat.zero_add];have e1:i*cs.len=xs.length*cs.len+(i-xs.length)*cs.len:=by rw[<-Nat.add_mul];congr 1;omega
    rw[cell_of_row w' b0 _ bW e (0,0) q3,q6 _ (hJ (by omega) hj (Nat.le_refl _)),List.getElem?_append_right (by rw[q5];omega),q5];congr 1;omega
   ·have hk':ω b'=some (iR,(i-xs.length,j)::rr):=hk';have hnb:=hrow b' _ hk' (fun e=>by cases e);refine⟨q10 b' hnb hb',?_⟩;rw[jY hnb hk'];unfold uj;rw[if_pos rfl];simp only;rw[show i-xs.length+xs.length=i by omega];rfl
theorem step_append (hE:cq P E) {args:Array Operand} {fG:Array Nat} (ho:o.op=.call ⟨.builtin .append,args,fG⟩) (hsz:args.size=fG.size) (h:Rel H ω a w s) (hd:∀d,o.dst=some d->d<a.tmps.size) {Φ:bV->Option (Callee real (Option R))}
  (hk:bp E (aP R) Φ o s k=some r):o.wp P a w (Ends H ω a w o.dst k r) Q:=by
 unfold bp at hk;have AC:Nat.beq args.size fG.size=true:=by rw[hsz];exact Nat.beq_refl _
 simp only[ho,AC,cond_true]at hk;obtain⟨args⟩:=args;obtain⟨fG⟩:=fG;simp only at hk hsz;have pV:args.length=fG.length:=by simpa using hsz
 match args,fG,pV with
 | [x,y],[t,t'],_=>
  have hx:=bX h E t x;have hy:=bX h E t' y;simp only[List.zip_cons_cons,List.zip_nil_right,List.map_cons,List.map_nil,dD]at hk;obtain⟨⟨e,cs⟩,h1,hka⟩:=aA hk;obtain⟨⟨e',cs'⟩,h1',BY⟩:=aA hka;obtain⟨cx,h2,hkc⟩:=aA BY;obtain⟨cy,h3,th⟩:=aA hkc;clear hk hka BY hkc;cases hb:(Nat.beq e cx.e&&aK.beq cs cx.cs)with
  |false=>simp only[hb]at th;cases th
  |true=>
   simp only[hb,Bool.not_true,cond_false]at th;rw[Bool.and_eq_true]at hb;have he:=Nat.eq_of_beq_eq_true hb.1;have hcs:=aK.eq_of_beq hb.2;subst he;subst hcs;obtain⟨hu,j,I,d,hj,Fg,ok⟩:=gJ hE h1;obtain⟨oF,_⟩:=gJ hE h1';obtain⟨z,hz,Cb⟩:=ok.zero;have hI:I.size=cx.cs.len:=by rw[ok.size,Fg]
   have hzs:z.cells.size=cx.cs.len:=by rw[<-Array.length_toList,Cb,fH,Fg]
   have hby:I.bytes<=65536:=by rw[ok.bytes];exact ok.bpos.2
   have core:∀(s1:S) (dp:Bool),Rel H ω a w s1->(((dp||Nat.beq cy.md 2) && !cx.cs.plain)=false->CR ω w s1 cx.e cx.cs cx.x (a.eval x))->((dp||tw (ev E s t x))=true->Cu ω w s s1 cx.e cx.cs cx.x (a.eval x)) ->
     (bif (dp||Nat.beq cy.md 2) && !cx.cs.plain then(match gT s1 (ev E s t' y)with
      |some iR=>bif dp||tw (ev E s t x)then
        if hh:Ty.beq (.sl cy.e cy.cs) (.sl cx.e cx.cs)=true then
         bif aE (List.append (α:=cx.cs.T) cx.x (real.cast hh cy.x))then k (((s1.bQ iR true .gone).new (aZ (o.dst.getD 0) 0 0) (.arr cx.e cx.cs true (List.append (α:=cx.cs.T) cx.x (real.cast hh cy.x)))).ck o.dst (.one (.ref (aZ (o.dst.getD 0) 0 0) (((s1.bQ iR true .gone).new (aZ (o.dst.getD 0) 0 0) (.arr cx.e cx.cs true (List.append (α:=cx.cs.T) cx.x (real.cast hh cy.x)))).ob (aZ (o.dst.getD 0) 0 0)).g 0 [])))else none
        else none
       else none
      |none=>none)else
      if hh:Ty.beq (.sl cy.e cy.cs) (.sl cx.e cx.cs)=true then
       bif aE (List.append (α:=cx.cs.T) cx.x (real.cast hh cy.x))then k ((s1.new (aZ (o.dst.getD 0) 0 0) (.arr cx.e cx.cs dp (List.append (α:=cx.cs.T) cx.x (real.cast hh cy.x)))).ck o.dst (.one (.ref (aZ (o.dst.getD 0) 0 0) ((s1.new (aZ (o.dst.getD 0) 0 0) (.arr cx.e cx.cs dp (List.append (α:=cx.cs.T) cx.x (real.cast hh cy.x)))).ob (aZ (o.dst.getD 0) 0 0)).g 0 [])))else none
      else none)=some r->o.wp P a w (Ends H ω a w o.dst k r) Q:=by
    intro s1 dp hR hX Hr hk;cases nB:((dp||Nat.beq cy.md 2) && !cx.cs.plain)with
    |true=>
     rw[nB]at hk;simp only[cond_true]at hk;cases BV:gT s1 (ev E s t' y)with
     |none=>rw[BV]at hk;cases hk
     |some iR=>
      rw[BV]at hk;simp only at hk;cases wm:(dp||tw (ev E s t x))with
      |false=>rw[wm]at hk;cases hk
      |true=>
       rw[wm]at hk;simp only[cond_true]at hk;split at hk
       ·rename_i hh;cases hs:aE (List.append (α:=cx.cs.T) cx.x (real.cast hh cy.x))with
        |false=>rw[hs]at hk;cases hk
        |true=>
         rw[hs]at hk;simp only[cond_true]at hk;obtain⟨ye,Ij,yx,E2⟩:=cy;have hee:=Ty.eq_of_beq hh;injection hee with Aq Ar
         simp only at Aq Ar;subst Aq;subst Ar;obtain⟨gy,Iv,ey,gg,AB⟩:=rU BV;rw[ey]at hy h3;obtain⟨v,w',hrun,hend⟩:=um (P:=P) (t:=t) (t':=t') (id':=aZ (o.dst.getD 0) 0 0) h hd (dm _ _ _) hu ok.info hz hI hzs hby oF (Hr wm) hy h3 gg AB (of_decide_eq_true hs) o.type hk;refine fg (v:=v) (w':=w') ?_ hend;refine eK ho ?_;simp only[builtin,List.map_toArray,List.map_cons,List.map_nil];rw[Sem.run_bind,hrun];rfl
       ·cases hk
    |false=>
     rw[nB]at hk;simp only[cond_false]at hk;split at hk
     ·rename_i hh;have xq:dp=true->cx.cs.plain=true:=by
       intro e;subst e;cases hp:cx.cs.plain with
       |true=>rfl
       |false=>rw[hp]at nB;cases nB
      have HX:cy.md≠2\/cy.cs.plain=true:=by
       have hee:=Ty.eq_of_beq hh;injection hee with _ hee
       cases hp:cx.cs.plain with
       |true=>exact .inr (by rw[hee];exact hp)
       |false=>refine .inl fun e=>?_;rw[hp,e]at nB;cases dp <;> cases nB
      cases hs:aE (List.append (α:=cx.cs.T) cx.x (real.cast hh cy.x))with
      |false=>rw[hs]at hk;cases hk
      |true=>
       rw[hs]at hk;simp only[cond_true]at hk;obtain⟨ye,Ij,yx,E2⟩:=cy;have hee:=Ty.eq_of_beq hh;injection hee with Aq Ar
       simp only at Aq Ar;subst Aq;subst Ar;obtain⟨ad,cp,news,n1,n2,n3,n4,n5,n6⟩:=sG h3 hy HX;have hsrc:Src P I.size t' (a.eval y) (List.length yx) news w:=zH oF n1 (by rw[hI];exact n3) n4 n5;obtain⟨v,w',hrun,hend⟩:=ul (P:=P) (t:=t) (t':=t') (xs:=cx.x) (ys:=yx) (dp:=dp) (id':=aZ (o.dst.getD 0) 0 0) hR hd (dm _ _ _) hu ok.info hz hI hzs hby (hX nB) hsrc n6 (of_decide_eq_true hs) xq o.type hk;refine fg (v:=v) (w':=w') ?_ hend;refine eK ho ?_;simp only[builtin,List.map_toArray,List.map_cons,List.map_nil];rw[Sem.run_bind,hrun];rfl
     ·cases hk
   have cM:=th;clear th;cases AE:ev E s t x with
   |one l=>
    rw[AE]at cM hx h2;cases l with
    |eU e2 Gz=>
     injection h2 with h2
     obtain⟨ad,e1⟩:=hx;have hx0:cx.x=[]:=by rw[<-h2];rfl
     exact core s false h (fun _=>.none ad e1 hx0) (fun _=>.none ad e1 hx0 rfl) (by rw[AE];exact cM)
    |ref id g hh p=>
     cases p with
     |nil=>
      have hc:s.cont id g hh []=some cx:=h2;rcases(kQ hc).2 with hm|hm|hm
      ·simp only[hm]at cM;cases cM
      ·simp only[hm]at cM;exact core _ (Nat.beq 1 2) (h.gone id true) (fun _=>pu h hc (by rw[hm];decide) hx (.inl (by rw[hm];decide))) (fun e=>by rw[AE]at e;cases e) (by rw[AE];exact cM)
      ·simp only[hm]at cM;refine core _ (Nat.beq 2 2) (h.gone id true) (fun hb=>?_) (fun _=>?_) (by rw[AE];exact cM)
       ·have BF:cx.cs.plain=true:=by
         cases hp:cx.cs.plain with
         |true=>rfl
         |false=>rw[hp]at hb;cases hb
        exact pu h hc (by rw[hm];decide) hx (.inr BF)
       ·have hr:=hx.2.2 cx hc;rw[hm]at hr;rcases(dF hc).2 with ⟨dp,f5,_,f6⟩|⟨_,_,_,_,f5,_⟩|⟨_,_,f5⟩
        ·rw[hm]at f6;cases dp with
         |true=>exact .some id f5 hr rfl
         |false=>cases f6
        ·exact absurd rfl f5
        ·rw[hm]at f5;cases f5
     |cons _ _=>cases cM
    |val tt xx=>cases cM
    |ptr _ _ _=>cases cM
    |cj _ _ _ _ _ _=>cases cM
    |ez _ _ _=>cases cM
    |cV _ _=>cases cM
    |fn _ _=>cases cM
    |Cq _ _=>cases cM
    |undef=>cases cM
    |dead=>cases cM
   |agg _=>rw[AE]at cM;cases cM
   |nR _=>rw[AE]at cM;cases cM
   |GR _ _=>rw[AE]at cM;cases cM
 | [],[],_=>cases hk
 | [_],[_],_=>cases hk
 |_::_::_::_,_::_::_::_,_=>cases hk
end
end Go.R
set_option linter.unusedVariables false
namespace Go.R
variable {H:Nat->Value}
def kp:List (Int×Bool)->Int->Nat->Option (Nat×Bool)
 | [],_,_=>none
 |y::r,n,i=>bif n==y.1 then some (i,y.2)else kp r n (i+1)
theorem pK{k:IntKind}{n:Int}:∀ {es:List MapEntry} {x:List (Int×Bool)} (i:Nat),zD k es x->Instr.findNow (.int k) (.int k n) es i=some ((kp x n i).map fun p=>(p.1,.bool p.2))
 | [],[],i,_=>rfl
 | [],_::_,_,h=>h.elim
 |_::_,[],_,h=>h.elim
 |e::es,y::x,i,h=>by
  obtain⟨⟨h1,h2⟩,h3⟩:=h;have hs:Instr.sameNow (.int k) (.int k n) e.key=some (n==y.1):=by rw[h1];simp[Instr.sameNow]
  unfold Instr.findNow;rw[hs];cases hb:n==y.1 with
  |true=>simp only[kp,hb,cond_true,Option.map_some,h2]
  |false=>simp only[kp,hb,cond_false];exact pK (i+1) h3
theorem uJ(n:Int):∀(x:List (Int×Bool)) (i:Nat),cw x n=match kp x n i with|some p=>p.2|none=>false
 | [],_=>rfl
 |y::x,i=>by
  unfold cw kp;cases n==y.1 with
  |true=>rfl
  |false=>exact uJ n x (i+1)
theorem vg(k:IntKind)(n:Int)(v:Bool):∀(es:List MapEntry) (x:List (Int×Bool)) (i:Nat),zD k es x ->
  (∀b,kp x n i=none->zD k (es++[⟨.int k n,.bool v,b⟩]) (eW x n v)) /\
  ∀j b,kp x n i=some (j,b)->i<=j/\∃e,es[j-i]? = some e/\e.key=.int k n/\zD k (es.modify (j-i) fun e=>{ e with key:=.int k n,val:=.bool v }) (eW x n v)
 | [],[],i,_=>⟨fun b _=>⟨⟨rfl,rfl⟩,trivial⟩,fun j b h=>by cases h⟩
 | [],_::_,_,h=>h.elim
 |_::_,[],_,h=>h.elim
 |e::es,y::x,i,h=>by
  obtain⟨⟨h1,h2⟩,h3⟩:=h;obtain⟨r1,r2⟩:=vg k n v es x (i+1) h3;unfold kp eW;cases hb:n==y.1 with
  |true=>
   have hn:n=y.1:=by simpa using hb
   refine⟨(fun b h=>by cases h),fun j b h=>?_⟩;have h:=Option.some.inj h;injection h with hj _
   subst hj;refine⟨Nat.le_refl _,e,by simp,by rw[h1,hn],?_⟩;rw[Nat.sub_self];exact⟨⟨rfl,rfl⟩,h3⟩
  |false=>
   refine⟨fun b h=>⟨⟨h1,h2⟩,r1 b h⟩,fun j b h=>?_⟩;obtain⟨q1,e',q2,q3,q4⟩:=r2 j b h;have hj:j-i=(j-(i+1))+1:=by omega
   refine⟨by omega,e',by rw[hj];simpa using q2,q3,?_⟩;rw[hj];exact⟨⟨h1,h2⟩,q4⟩
section
variable {R:Type} {P:Program} {E:Env} {ω:aJ} {a:Act} {w:World} {s:S} {k:S->Option R} {r:R} {o:Oper} {Q:Exit->Act->World->Prop}
theorem tP (hE:cq P E) {t:Nat} {rv:Option Operand} (ho:o.op=.makeMap t rv) (h:Rel H ω a w s) (hd:∀d,o.dst=some d->d<a.tmps.size) {Φ:bV->Option (Callee real (Option R))}
  (hk:bp E (aP R) Φ o s k=some r):o.wp P a w (Ends H ω a w o.dst k r) Q:=by
 unfold bp at hk;simp only[ho]at hk;obtain⟨ik,h1,hk⟩:=aA hk;cases rv with
 |some _=>cases hk
 |none=>
  simp only[Option.isNone_none,cond_true]at hk;have h0:=dm (o.dst.getD 0) 0 0;have hg:=eO.alloc w (.map #[] 0);have hlt:w.heap.size<(w.alloc (.map #[] 0)).heap.size:=by rw[fO];omega
  refine fg (v:=.map (some w.heap.size)) (w':=w.alloc (.map #[] 0)) ?_ ?_
  ·unfold execOp;simp only[ho];rfl
  ·have hR:=h.fresh (id:=aZ (o.dst.getD 0) 0 0) h0 hg (Nat.le_refl _) hlt (.mp ik (real.kX 0 (aK.mp ik))) (fun cells' eo=>by cases eo);refine dZ hR (ed h0 hg (Nat.le_refl _)) hd (t:=.one (.cV (aZ (o.dst.getD 0) 0 0) ((s.new (aZ (o.dst.getD 0) 0 0) (.mp ik (real.kX 0 (aK.mp ik)))).ob (aZ (o.dst.getD 0) 0 0)).g)) ⟨Nat.le_refl _,fun _ k' x' hc=>?_⟩ hk;have cU:((s.new (aZ (o.dst.getD 0) 0 0) (.mp ik (real.kX 0 (aK.mp ik)))).ob (aZ (o.dst.getD 0) 0 0)).o=.mp ik (real.kX 0 (aK.mp ik)):=by unfold St.new;rw[St.aY]
   rw[cU]at hc;injection hc with e1 e2
   subst e1;subst e2;exact⟨w.heap.size,#[],0,aJ.fc _ _ _,rfl,heap_alloc_new w _,trivial⟩
theorem xG{v:Value}{id g:Nat}{q:Sigma fun k=>real.V (.sl 0 (aK.mp k))}(h:cA w ω s v (.cV id g))(hq:tD s id g=some q):(s.ob id).o=.mp q.1 q.2/\∃b es c,ω b=some (id,[])/\v=.map (some b)/\w.heap[b]? = some (.map es c)/\zD q.1 es.toList q.2:=by obtain⟨e1,e2⟩:=xF hq;exact⟨e2,h.2 e1 _ _ e2⟩
theorem vr (hE:cq P E) {t:Nat} {m x:Operand} {ok:Bool} (ho:o.op=.lookup t m x ok) (h:Rel H ω a w s) (hd:∀d,o.dst=some d->d<a.tmps.size) {Φ:bV->Option (Callee real (Option R))}
  (hk:bp E (aP R) Φ o s k=some r):o.wp P a w (Ends H ω a w o.dst k r) Q:=by
 have hm:=bX h E t m;have hx:=bX h E 0 x;unfold bp at hk;simp only[ho]at hk;obtain⟨ik,h1,hk⟩:=aA hk;obtain⟨kt,et,I,hu,Ew,hie,hz⟩:=hE.Gf t ik h1;cases ok with
 |true=>cases hk
 |false=>
 simp only[cond_false]at hk;split at hk
 ·rename_i id g u n em ex;rw[em]at hm;rw[ex]at hx;obtain⟨q,h2,cM⟩:=aA hk;clear hk;obtain⟨qk,qx⟩:=q;cases BB:decide (qk=ik)with
  |false=>simp only[BB]at cM;cases cM
  |true=>
  simp only[BB,cond_true]at cM;obtain rfl:=of_decide_eq_true BB;split at cM
  ·rename_i hb;obtain rfl:=Ty.eq_of_beq hb;obtain⟨cU,b,es,c,f1,f2,f3,f4⟩:=xG hm h2;have zv:a.eval x=.int qk n:=hx;refine bF h hd (v:=.bool (cw qx n)) ?_ (t:=.one (.val .bool (real.Ds qk qx n))) rfl cM;unfold execOp;simp only[ho];have hfind:=MapKept.run_findKey (P:=P) (w:=w) Ew (pK (n:=n) 0 f4);have BT:∀e n',(Instr.checkKey e (n'+1) kt (.int qk n)).run P w=.ok () w:=fun e n'=>by unfold Instr.checkKey;simp only[Sem.run_bind,run_underlying Ew,Result.andThen];rfl
   have BT:=fun e=>BT e 9999;have Gc:(zeroValue et).run P w=.ok (.bool false) w:=by simp[zeroValue,typeInfo,hie,hz]
   have hrun:(Instr.lookup t (a.eval m) (a.eval x) false).run P w=.ok (.bool (cw qx n)) w:=by
    rw[f2,zv,uJ n qx 0];unfold Instr.lookup;cases hf:kp qx n 0 with
    |none=>rw[hf]at hfind;simp[run_underlying hu,MapKept.run_getObj_map f3,BT,hfind,Gc]
    |some p=>rw[hf]at hfind;simp[run_underlying hu,MapKept.run_getObj_map f3,BT,hfind]
   rw[Sem.run_bind,hrun];rfl
  ·cases cM
 ·cases hk
theorem rR {w':World} {b id:Nat} {ik:IntKind} {x x':real.V (.sl 0 (aK.mp ik))} {es':Array MapEntry} {c':Nat} (h0:id≠0) (hd:∀b k,ω b=some k->b<w.heap.size) (hb:ω b=some (id,[])) (ho:(s.ob id).o=.mp ik x) (hp:nk w w' b) (hh:w'.heap[b]? = some (.map es' c')) (hx:zD ik es'.toList x')
  (hinj:∀b b' k,ω b=some k->ω b'=some k->b=b') (j:Nat):Tr w ω s w' ω (s.bQ id true (.mp ik x')) j:=by
 by_cases e:j=id
 ·subst e;have cU:((s.bQ j true (.mp ik x')).ob j).o=.mp ik x':=by rw[St.aV]
  have hg:((s.bQ j true (.mp ik x')).ob j).g=(s.ob j).g:=by rw[St.aV]
  have rz:((s.bQ j true (.mp ik x')).ob j).h=bif true then(s.ob j).h+1 else(s.ob j).h:=by rw[St.aV]
  have hnc:∀g h p c,(s.bQ j true (.mp ik x')).cont j g h p=some c->False:=by intro g h p c hc;unfold St.cont fX.cont at hc;rw[cU]at hc;cases hq:Nat.beq ((s.bQ j true (.mp ik x')).ob j).g g <;> rw[hq]at hc <;> cases hc
  exact
  {ref:=fun v g h p hr=>⟨by rw[hg];exact hr.1,by rw[hg,rz];exact gr true hr.2.1,fun c hc=>(hnc _ _ _ _ hc).elim⟩
   ptr:=fun v g off hr=>⟨by rw[hg];exact hr.1,fun _ cells hc=>by rw[cU]at hc;cases hc⟩
   cj:=fun v g h p i off hr=>⟨by rw[hg];exact hr.1,by rw[hg,rz];exact gr true hr.2.1,fun c hc=>(hnc _ _ _ _ hc).elim⟩
   cV:=fun v g hr=>⟨by rw[hg];exact hr.1,fun DK k2 x2 hc=>by
    rw[hg]at DK;rw[cU]at hc;injection hc with e1 e2
    subst e1;subst e2;obtain⟨b2,es,c,q1,q2,q3,q4⟩:=hr.2 DK ik x ho;obtain rfl:=hinj _ _ _ hb q1;exact⟨b,es',c',hb,q2,hh,hx⟩⟩ }
 ·refine gq.tr ⟨St.bz _ _ _ e,fun c kk hc hk hj=>?_⟩ (dn h0 hb hp) hd;have:c≠b:=fun ec=>by subst ec;rw[hb]at hk;injection hk with hk;subst hk;exact e hj.symm
  exact⟨hp.block c this,rfl⟩
theorem Rel.Bo (h:Rel H ω a w s) {w':World} {b id:Nat} {ik:IntKind} {x x':real.V (.sl 0 (aK.mp ik))} {es':Array MapEntry} {c':Nat} (hb:ω b=some (id,[])) (ho:(s.ob id).o=.mp ik x) (hp:nk w w' b) (hh:w'.heap[b]? = some (.map es' c')) (hx:zD ik es'.toList x')
  (h0:id≠0:=h.qj (by rw[ho];exact fun e=>by cases e)):Rel H ω a w' (s.bQ id true (.mp ik x')) where
 dP:=h.dP.ext (dn h0 hb hp)
 inj:=h.inj
 dom c kk h1:=by rw[hp.size];exact h.dom c kk h1
 defers:=h.defers
 dR:=by rw[St.bz _ _ _ (Ne.symm h0)];exact h.dR
 slots i:=dh.frame (dn h0 hb hp) (rR h0 h.dom hb ho hp hh hx h.inj) (h.slots i)
 dB j cells hc:=by
  by_cases e:j=id
  ·subst e;rw[St.aV]at hc;cases hc
  ·rw[St.bz _ _ _ e]at hc;obtain⟨c,arr,T,h1,h2,h3⟩:=h.dB j cells hc;have hcb:c≠b:=fun ec=>by subst ec;rw[hb]at h1;injection h1 with h1;injection h1 with h1 _;exact e h1.symm
   exact⟨c,arr,T,h1,(hp.block c hcb).trans h2,h3.mono fun _ _ hl=>cA.frame (dn h0 hb hp) (rR h0 h.dom hb ho hp hh hx h.inj) hl⟩
theorem qL (hE:cq P E) {t:Nat} {m x v:Operand} (ho:o.op = .mapUpdate t m x v) (h:Rel H ω a w s) (hd:∀d, o.dst = some d -> d<a.tmps.size) {Φ:bV -> Option (Callee real (Option R))}
    (hk:bp E (aP R) Φ o s k = some r):o.wp P a w (Ends H ω a w o.dst k r) Q:=by
  have hm:=bX h E t m;have hx:=bX h E 0 x;have hv:=bX h E 4 v;unfold bp at hk;simp only[ho]at hk;obtain⟨ik, h1, hk⟩:=aA hk;obtain⟨kt, et, I, hu, Ew, hie, hz⟩:=hE.Gf t ik h1;split at hk
  · rename_i id g u n bv em ex Hg
    rw[em]at hm;rw[ex]at hx;have C7:=pB Hg hv;obtain⟨q, h2, cM⟩:=aA hk;clear hk;obtain⟨qk, qx⟩:=q;cases BB:decide (qk = ik)with
    |false=>simp only[BB]at cM; cases cM
    |true=>
    simp only[BB, cond_true]at cM;obtain rfl:=of_decide_eq_true BB;split at cM
    · rename_i hb
      obtain rfl:=Ty.eq_of_beq hb;obtain⟨cU, b, es, c, f1, f2, f3, f4⟩:=xG hm h2;have zv:a.eval x = .int qk n:=hx;have hfind:=MapKept.run_findKey (P:=P) (w:=w) Ew (pK (n:=n) 0 f4);have BT:∀e n', (Instr.checkKey e (n' + 1) kt (.int qk n)).run P w = .ok () w:=fun e n'=>by unfold Instr.checkKey;simp only[Sem.run_bind, run_underlying Ew, Result.andThen];rfl
      have BT:=fun e=>BT e 9999;obtain⟨p1, p2⟩:=vg qk n bv es.toList qx 0 f4;have BA:b<w.heap.size:=bB f3;have hput:∀ob, nk w { w with heap:=w.heap.setIfInBounds b ob } b:=fun ob=>⟨rfl, rfl, rfl, by simp, fun c hc=>by simp[Array.getElem?_setIfInBounds_ne (Ne.symm hc)]⟩
      have fin:∀(es':Array MapEntry) (c':Nat), (Instr.mapUpdate t (a.eval m) (a.eval x) (a.eval v)).run P w = .ok () { w with heap:=w.heap.setIfInBounds b (.map es' c') } -> zD qk es'.toList (eW qx n bv) -> o.wp P a w (Ends H ω a w o.dst k r) Q:=by
        intro es' c' hrun FZ;have hh:({ w with heap:=w.heap.setIfInBounds b (.map es' c') }:World).heap[b]? = some (.map es' c'):=by simp[BA]
        refine vG (w':={ w with heap:=w.heap.setIfInBounds b (.map es' c') }) ?_ ?_
        · unfold execOp
          simp only[ho];rw[Sem.run_bind, hrun];rfl
        · have hne:id ≠ 0:=h.qj (by rw[cU]; exact fun e=>by cases e)
          exact pG (h.Bo f1 cU (hput _) hh FZ) (dn hne f1 (hput _)) hd cM
      cases hf:kp qx n 0 with
      |none=>refine fin (es.push ⟨.int qk n, .bool bv, c⟩) (c + 1) ?_ (by rw[Array.toList_push]; exact p1 c hf);rw[f2, zv, C7];unfold Instr.mapUpdate;rw[hf]at hfind;simp only[Sem.run_bind, run_underlying hu, Result.andThen, MapKept.run_getObj_map f3, BT, hfind, Option.map_none, MapKept.run_setObj_map _ f3]
      |some p=>
        obtain⟨j, bb⟩:=p;obtain⟨_, e, e1, e2, e3⟩:=p2 j bb hf;rw[Nat.sub_zero]at e1 e3;refine fin (es.modify j fun e=>{ e with key:=.int qk n, val:=.bool bv }) c ?_ (by rw[Array.toList_modify]; exact e3);rw[f2, zv, C7];unfold Instr.mapUpdate;rw[hf]at hfind;have hkey:((es[j]?).map (·.key)).getD (.int qk n) = .int qk n:=by
          have:es[j]? = some e:=by rw[<- Array.getElem?_toList]; exact e1
          rw[this];exact e2
        have HG:(Instr.keyThatStays (.int qk n) (.int qk n)).run P w = .ok (.int qk n) w:=by
          unfold Instr.keyThatStays;have:Instr.sameBits 10000 (.int qk n) (.int qk n) = true:=by simp only[Instr.sameBits, beq_self_eq_true, Bool.true_and]; exact beq_self_eq_true (α:=Int) n
          rw[this];rfl
        simp only[Sem.run_bind, run_underlying hu, Result.andThen, MapKept.run_getObj_map f3, BT, hfind, Option.map_some, hkey, HG, MapKept.run_setObj_map _ f3]
    · cases cM
  · cases hk
end
end Go.R
set_option linter.unusedVariables false
namespace Go.R
variable {H:Nat->Value}
open Go
section
variable {R:Type} {P:Program} {E:Env} {ω:aJ} {a:Act} {w:World} {s:S} {k:S->Option R} {r:R} {o:Oper} {Q:Exit->Act->World->Prop}
theorem tM (hE:cq P E) {src dst:Nat} {x:Operand} (ho:o.op=.convert src dst x) (h:Rel H ω a w s) (hd:∀d,o.dst=some d->d<a.tmps.size) {Φ:bV->Option (Callee real (Option R))}
  (hk:bp E (aP R) Φ o s k=some r):o.wp P a w (Ends H ω a w o.dst k r) Q:=by
 have hx:=bX h E src x;unfold bp at hk;simp only[ho]at hk;obtain⟨i0,h0,hk⟩:=aA hk;obtain⟨i,h1,hk⟩:=aA hk;obtain⟨_,_,Ia⟩:=hE.ti _ _ h0;obtain⟨_,_,ok⟩:=hE.ti _ _ h1;cases hg:i.agg with
 |true=>rw[hg]at hk;cases hk
 |false=>
  rw[hg]at hk;simp only[cond_false]at hk;generalize ev E s src x=tx at hx hk;split at hk
  ·rename_i j kk n hc;have hv:a.eval x=.int kk n:=hx;have hu:P.underlying dst=some (.int j):=by rw[ok.zl,ok.Dn j hc hg]
   refine bF h hd (v:=.int j (aq j n)) ?_ (t:=.one (.val (.int j) (real.conv kk j n))) rfl hk;unfold execOp;simp[ho,hv,convert,run_underlying Ia.zl,run_underlying hu,Conv.intToInt,aq]
  ·rename_i hc;obtain⟨q,hq,hk⟩:=aA hk;obtain⟨j,hj,hk⟩:=aA hk;obtain⟨_,_,G4⟩:=hE.ti _ _ hj;cases FV:j.agg with
   |true=>rw[FV]at hk;cases hk
   |false=>
    rw[FV]at hk;obtain⟨c,FL,hk⟩:=aA (show ar (aP R) (gz s _) _=some r from hk);cases hb:(Nat.beq q.1 c.e&&aK.beq q.2 c.cs)with
    |false=>rw[hb]at hk;cases hk
    |true=>
     rw[hb]at hk;simp only[cond_true]at hk;split at hk
     ·rename_i BR;obtain⟨b1,b2⟩:=Bool.and_eq_true _ _▸hb;have e1:q.1=c.e:=Nat.eq_of_beq_eq_true b1;obtain⟨B9,j',I',d',hj',FW,Ib⟩:=gJ hE (t:=src) (e:=q.1) (cs:=q.2) hq;have:j'=j:=Option.some.inj (hj'.symm.trans hj);subst this;have HP:q.2=c.cs:=aK.eq_of_beq b2;have hcs:c.cs=.cons (.int .u8) .nil:=by have:=Ty.eq_of_beq BR;injection this
      have HS:P.underlying q.1=some (.int .u8):=by rw[G4.zl,G4.Dn .u8 (by rw[FW,HP,hcs]) FV]
      have HR:P.underlying dst=some .string:=by rw[ok.zl,ok.DE hc hg]
      obtain⟨ad,cp,news,e2,_,e3,_,e5,e6⟩:=sG FL hx (.inr (by rw[hcs];rfl));obtain⟨ce,FB,cx,cmd⟩:=c;simp only at hcs e2 e3 e5 e6 hk;subst hcs;have hl:news.length=List.length cx:=by rw[e3];exact Nat.mul_one _
      have hn:news=(show List Int from cx).map (Value.int .u8):=by refine List.ext_getElem (by rw[List.length_map];exact hl) fun i h1 h2=>?_;obtain⟨⟨v,g1,g2⟩,_⟩:=e6 i (by omega);have g1:news[i*1+0]? = some v:=g1;have g2:v=.int .u8 ((show List Int from cx).getD i 0):=g2;rw[Nat.mul_one,Nat.add_zero,List.getElem?_eq_getElem h1]at g1;rw[Option.some.inj g1,g2,List.getElem_map];congr 1;rw[List.getD_eq_getElem?_getD,List.getElem?_eq_getElem (show i<(show List Int from cx).length by rw[List.length_map]at h2;exact h2)];rfl
      refine bF h hd (v:=.string (lU cx)) ?_ (t:=.one (.val .str (lU cx))) rfl hk;have hrun:(Conv.bytesToString (.slice ad (List.length cx) cp)).run P w=.ok (.string (lU cx)) w:=by
       cases hz:List.length cx with
       |zero=>
        have hx0:(show List Int from cx)=[]:=List.length_eq_zero_iff.1 hz;have:lU cx=ByteArray.empty:=by show lU (show List Int from cx)=_;rw[hx0];rfl
        rw[this];cases ad with
        |none=>rfl
        |some a=>exact run_bytesToString w a 0 cp [] (run_loadCells_list w a [] (fun j v hj=>by simp at hj))
       |succ m=>
        obtain⟨b,off,rfl,g⟩:=e5 (by omega);rw[<-hz];have GR:(loadCells ⟨b,off,none⟩ (List.length cx)).run P w=.ok ((show List Int from cx).map (Value.int .u8)).toArray w:=by rw[<-hn,<-hl];exact run_loadCells_list w ⟨b,off,none⟩ news fun j v hj=>by rw[Addr.add_lit];exact g j v hj
        exact run_bytesToString w ⟨b,off,none⟩ (List.length cx) cp cx GR
      unfold execOp;simp only[ho,e2,Sem.run_bind,Sem.run_pure];rw[run_convert_bytes_string w src dst q.1 ad (List.length cx) cp B9 HS HR,hrun];rfl
     ·cases hk
  ·cases hk
end
end Go.R
namespace Go.R
variable {H:Nat->Value}
section
variable {R:Type} {P:Program} {E:Env} {ω:aJ} {a:Act} {w:World} {s:S} {k:S->Option R} {r:R} {o:Oper} {Q:Exit->Act->World->Prop}
def jE(w:World)(ω:aJ)(w':World)(aI:aJ):Prop:=w.heap.size<=w'.heap.size/\∀b,b<w.heap.size->ω b=none->w'.heap[b]? = w.heap[b]? /\ aI b=none
theorem dr.stays{w':World}{aI:aJ}(h:dr ω w aI w'):jE w ω w' aI:=⟨h.size,fun b hb hn=>by have:=h.block b hb (.inl hn);exact⟨this.1,this.2.trans hn⟩⟩
theorem jE.trans{w' w'':World}{aI bR:aJ}(h:jE w ω w' aI)(h':jE w' aI w'' bR):jE w ω w'' bR:=⟨Nat.le_trans h.1 h'.1,fun b hb hn=>by have h1:=h.2 b hb hn;have h2:=h'.2 b (Nat.lt_of_lt_of_le hb h.1) h1.2;exact⟨h2.1.trans h1.1,h2.2⟩⟩
theorem jE.keeps{w':World}{aI:aJ}(h:jE w ω w' aI):mc w ω w' aI .cB:=by
 intro b hb hk;rcases hk with hk|⟨k,_,hk⟩
 ·have:=h.2 b hb hk;exact⟨this.1,this.2.trans hk.symm⟩
 ·exact hk.elim
theorem jE.ez{w':World}{aI:aJ}(h:jE w ω w' aI){v:Value}{cs:aK}{x:cs.T}{off:Nat}(hr:iH w ω v cs x off):iH w' aI v cs x off:=by obtain⟨b,o',h1,h2,h3,h4⟩:=hr;have hb:=h.2 b h2 h1;exact⟨b,o',hb.2,Nat.lt_of_lt_of_le h2 h.1,h3,aK.cG h.1 cs _ _ _ 0 _ (fun _=>h.keeps) (fun j=>fz (a:=⟨b,o'+j,none⟩) hb.1) h4⟩
theorem lC{w':World}{aI:aJ}(h:jE w ω w' aI):∀(vs:List (KV real)) (us:List Value) (b:Nat),(∀v∈vs,v.1.mD=true)->fw w ω b vs us->fw w' aI b vs us
 | [],[],_,_,_=>trivial
 | [],_::_,_,_,hr=>hr.elim
 |_::_,[],_,_,hr=>hr.elim
 |⟨kk,x⟩::vs,u::us,b,ha,hr=>by
  refine⟨?_,lC h vs us (b+1) (fun v hv=>ha v (by simp[hv])) hr.2⟩;have h0:=ha ⟨kk,x⟩ (by simp);have h1:=hr.1;cases kk with
  |val t=>exact Ty.cG h.1 t .cB u x h.keeps h1
  |arr _ _ _=>cases h0
  |mp _=>cases h0
theorem oZ{w':World}{aI:aJ}(h:jE w ω w' aI):∀(aW:List Sh) (vs:List (KV real)) (us:List Value) (b:Nat), aW.all Sh.eN = true -> vs.map (·.1) = (aW.map Sh.ks).flatten -> fJ w ω b aW vs us -> fJ w' aI b aW vs us
  | [], _, _, _, _, _, hr=>hr
  |sh:: aW, vs, [], _, _, _, hr=>hr.elim
  |sh:: aW, vs, u:: us, b, hl, hk, hr=>by
    obtain⟨r1, r2, r3⟩:=hr;rw[List.all_cons, Bool.and_eq_true]at hl;simp only[List.map_cons, List.flatten_cons]at hk;have cQ:(vs.take sh.ks.length).map (·.1) = sh.ks:=by rw[List.map_take, hk, List.take_left'];rfl
    have cM:(vs.drop sh.ks.length).map (·.1) = (aW.map Sh.ks).flatten:=by rw[List.map_drop, hk, List.drop_left'];rfl
    refine⟨r1, ?_, oZ h aW _ us _ hl.2 cM r3⟩;have pQ:=hl.1;cases sh with
    |one kk=>
      obtain⟨v, e1, e2⟩:=r2;rw[e1]at cQ;have hv:v.1 = kk:=by simpa[Sh.ks] using cQ
      refine⟨v, e1, (lC h [v] [u] b (fun v' fL=>?_) ⟨e2, trivial⟩).1⟩;rw[List.mem_singleton]at fL;subst fL;rw[hv];simpa[Sh.eN] using pQ
    |agg ks=>
      obtain⟨cells, e1, e2⟩:=r2;refine⟨cells, e1, lC h _ cells b (fun v hv=>?_) e2⟩;have hm:v.1 ∈ ks:=by have:v.1 ∈ ((vs.take (Sh.agg ks).ks.length).map (·.1)):=List.mem_map.2 ⟨v, hv, rfl⟩;rw[cQ]at this;exact this
      simpa using List.all_eq_true.1 pQ _ hm
    |blk _=>cases pQ
    |ro cs=>obtain⟨x, e1, e2⟩:=r2;exact⟨x, e1, h.ez e2⟩
    |fn f aM=>
      obtain⟨cv, e1, e2, e3⟩:=r2;refine⟨cv, e1, ?_, e3⟩;have key:∀(cv:List Value) (cc:List (df real)), (∀c ∈ cc, ∃cs x, c = .ro cs x) -> bj (fun v c=>gC w ω ⟨fun _=>.dead, fun _=>⟨0, 0, .gone⟩⟩ v c) cv cc -> bj (fun v c=>gC w' aI ⟨fun _=>.dead, fun _=>⟨0, 0, .gone⟩⟩ v c) cv cc:=by
        intro cv;induction cv with
        |nil=>intro cc _ h2; cases cc with|nil=>trivial|cons _ _=>exact h2.elim
        |cons v cv ih=>
          intro cc hro h2;cases cc with
          |nil=>exact h2.elim
          |cons c cc=>refine⟨?_, ih cc (fun c' eo=>hro c' (by simp[eo])) h2.2⟩;obtain⟨cs, x, rfl⟩:=hro c (by simp);exact h.ez h2.1
      exact key cv _ e3 e2
    |pL _ _=>cases pQ
theorem nF:∀(vs:List (KV real)) (b:Nat) (s:S),(∀v∈vs,v.1.mD=true)->(∀i,(s.ob i).o=.gone)->∀i,((eE b vs s).2.ob i).o=.gone
 | [],_,_,_,h,i=>h i
 |⟨kk,x⟩::vs,b,s,ha,h,i=>by
  simp only[eE];refine nF vs (b+1) _ (fun v hv=>ha v (by simp[hv])) (fun j=>?_) i;have h0:=ha ⟨kk,x⟩ (by simp);cases kk with
  |val t=>
   simp only[dK];by_cases e:j=b
   ·subst e;unfold St.new;rw[St.aY]
   ·unfold St.new;rw[St.bD _ _ e];exact h j
  |arr _ _ _=>cases h0
  |mp _=>cases h0
theorem ol:∀(aW:List Sh) (vs:List (KV real)) (b:Nat) (s:S), aW.all Sh.eN = true -> vs.map (·.1) = (aW.map Sh.ks).flatten -> (∀i, (s.ob i).o = .gone) -> ∀i, ((bE b aW vs s).2.ob i).o = .gone
  | [], _, _, _, _, _, h, i=>h i
  |sh:: aW, vs, b, s, hl, hk, h, i=>by
    rw[List.all_cons, Bool.and_eq_true]at hl;simp only[List.map_cons, List.flatten_cons]at hk;have cQ:(vs.take sh.ks.length).map (·.1) = sh.ks:=by rw[List.map_take, hk, List.take_left'];rfl
    have cM:(vs.drop sh.ks.length).map (·.1) = (aW.map Sh.ks).flatten:=by rw[List.map_drop, hk, List.drop_left'];rfl
    simp only[bE];refine ol aW _ _ _ hl.2 cM (fun j=>?_) i;have pQ:=hl.1;have ha:∀ks, sh.ks = ks -> (ks.all K.mD) = true -> ∀v ∈ vs.take sh.ks.length, v.1.mD = true:=by
      intro ks e hall v hv;have hm:v.1 ∈ ks:=by have:v.1 ∈ ((vs.take sh.ks.length).map (·.1)):=List.mem_map.2 ⟨v, hv, rfl⟩;rw[cQ, e]at this;exact this
      simpa using List.all_eq_true.1 hall _ hm
    cases sh with
    |one kk=>
      have hv:=ha [kk] rfl (by simpa[Sh.eN] using pQ);cases hvs:vs.take (Sh.one kk).ks.length with
      |nil=>simp only[cN]; exact h j
      |cons v rest=>
        cases rest with
        |nil=>rw[hvs]at hv;simp only[cN];exact nF [v] b s hv h j
        |cons _ _=>simp only[cN]; exact h j
    |agg ks=>exact nF _ b s (ha ks rfl pQ) h j
    |blk _=>cases pQ
    |ro cs=>simp only[cN];cases jQ (A:=real) cs (vs.take (Sh.ro cs).ks.length) <;> exact h j
    |fn f aM=>exact h j
    |pL _ _=>cases pQ
def vals(t:bN)(a:Act):List Value:=t.map fun p=>a.tmps.getD p.1 undef
def jW(w:World)(ω:aJ)(a:Act)(t:bN)(kx:fI real (bN.ks t)):Prop:=fJ w ω 1 (t.map (·.2)) (co _ kx) (vals t a)
theorem kj:∀(ks:List K) (x:fI real ks), (co ks x).map (·.1) = ks
  | [], _=>rfl
  |k:: ks, (x, r)=>congrArg (k:: ·) (kj ks r)
theorem vF(t:bN)(a:Act)(j d:Nat)(hd:(t.map (·.1))[j]? = some d)(u:Value)(hu:(vals t a)[j]? = some u):a.tmps.getD d undef = u:=by
  unfold vals at hu;rw[List.getElem?_map]at hd hu;cases GZ:t[j]? with
  |none=>rw[GZ]at hd; cases hd
  |some p=>rw[GZ]at hd hu;have hd:=Option.some.inj hd;have hu:=Option.some.inj hu;subst hd;exact hu
def mB(keep cY:bN)(kx:fI real (bN.ks keep))(x:fI real (bN.ks cY)):S:=wB cY x (wB keep kx St.start)
theorem AK(t:bN):((t.map (·.2)).map Sh.ks).flatten = bN.ks t:=by unfold bN.ks; rw[List.map_map]; rfl
theorem uM {keep cY:bN} {kx:fI real (bN.ks keep)} {x:fI real (bN.ks cY)} (hl:(keep.map (·.2)).all Sh.eN = true) (ry:xQ w ω) (hinj:∀b b' k, ω b = some k -> ω b' = some k -> b = b') (hdom:∀b k, ω b = some k -> b<w.heap.size) (BU:a.defers = [])
    (hk:jW w ω a keep kx) (hx:jW w ω a cY x):Rel H ω a w (mB keep cY kx x):=by
  have h1:Rel H ω a w (wB keep kx St.start):=pY ry (by omega) hinj hdom BU (fun _=>rfl) (fun _=>trivial) hk (vF keep a);have hg:∀i, ((wB keep kx St.start).ob i).o = .gone:=by intro i;unfold wB;rw[nO];exact ol _ _ 1 _ hl (by rw[kj, AK]) (fun _=>rfl) i
  exact pY ry (by omega) hinj hdom BU hg h1.slots hx (vF cY a)
theorem qG(h:Rel H ω a w s):∀t:bN,bj (dh H w ω s) (vals t a) (t.map fun p=>s.sl p.1)
 | []=>trivial
 |p::t=>⟨h.slots p.1,qG h t⟩
theorem qT(h:Rel H ω a w s){t:bN}{x:fI real (bN.ks t)}{s1:S}(ht:jc t s = some (x, s1)):
    ∃bi m, Passes H ω a w s bi s1 /\ cC w ω s bi s1 m 1 (1 + aL (t.map (·.2))) /\ ((t.map (·.2)).all Sh.eN = true -> m = []) /\ ∀bZ s2 aI, dw bi s1 bZ s2 -> fK w bZ aI m -> jW w aI a t x:=by
  unfold jc at ht;cases hq:bO (t.map (·.2)) (t.map fun p=>s.sl p.1) s with
  |none=>rw[hq]at ht; cases ht
  |some q=>
    obtain⟨vs, s2⟩:=q;rw[hq]at ht;simp only at ht;cases hx:kE (bN.ks t) vs with
    |none=>rw[hx]at ht; cases ht
    |some y=>
      rw[hx]at ht;have ht:=Option.some.inj ht;injection ht with e1 e2
      subst e1; subst e2;obtain⟨bi, m, p1, g1, n1, r1⟩:=ic _ _ _ ω s vs s2 1 h (qG h t) hq;refine⟨bi, m, p1, g1, n1, fun bZ s3 aI hL hS=>?_⟩;unfold jW;rw[gi _ _ _ hx];exact r1 bZ s3 aI hL hS
theorem Aa(h:Rel H ω a w s){keep cY:bN}{kx:fI real (bN.ks keep)}{s1:S}{x:fI real (bN.ks cY)}{s2:S}(hl:(keep.map (·.2)).all Sh.eN = true)(h1:jc keep s = some (kx, s1))(h2:jc cY s1 = some (x, s2)):
    ∃aI, Rel H aI a w (mB keep cY kx x) /\ dr ω w aI w /\ jW w aI a keep kx:=by
  obtain⟨bi, m1, p1, g1, n1, r1⟩:=qT h h1;obtain⟨bZ, m2, p2, g2, n2, r2⟩:=qT p1.rel h2;have hm:=n1 hl;subst hm;have hS:fK w bZ (bZ.named m2) m2:=fo g2;have hk:=r1 bZ s2 (bZ.named m2) g2.later ⟨hS.none, fun _ _ h=>nomatch h⟩;exact⟨bZ.named m2, uM hl (p2.rel.dP.ext (gO _ _ _)) (nI (by omega) g2 p2.rel.inj) (nH p2.rel.dom) p2.rel.defers hk (r2 bZ s2 _ (dw.refl _ _) hS), (p1.ext.trans p2.ext).trans (gO _ _ _), hk⟩
theorem uU (h:Rel H ω a w s) {oU:aJ} {w0:World} {a0:Act} {keep t:bN} {kx:fI real (bN.ks keep)} {x:fI real (bN.ks t)} {s1:S} (hl:(keep.map (·.2)).all Sh.eN = true) (kM:jW w0 oU a0 keep kx) (he:dr oU w0 ω w)
    (hsame:∀p ∈ keep, a.tmps.getD p.1 undef = a0.tmps.getD p.1 undef) (h1:jc t s = some (x, s1)):∃aI, Rel H aI a w (mB keep t kx x) /\ dr ω w aI w /\ jW w aI a keep kx:=by
  obtain⟨bi, m1, p1, g1, n1, r1⟩:=qT h h1;have hS:fK w bi (bi.named m1) m1:=fo g1;have hv:vals keep a = vals keep a0:=by unfold vals;exact List.map_congr_left hsame
  have hst:jE w0 oU w (bi.named m1):=(he.trans (p1.ext.trans (gO _ _ m1))).stays;have hk:jW w (bi.named m1) a keep kx:=by unfold jW;rw[hv];exact oZ hst _ _ _ 1 hl (by rw[kj, AK]) kM
  exact⟨bi.named m1, uM hl (p1.rel.dP.ext (gO _ _ _)) (nI (by omega) g1 p1.rel.inj) (nH p1.rel.dom) p1.rel.defers hk (r1 bi s1 _ (dw.refl _ _) hS), p1.ext.trans (gO _ _ _), hk⟩
end
end Go.R
namespace Go.R
variable {H:Nat->Value}
structure ij where
 look:Bool
 args:List Sh
 aT:List Sh
 fn:fI real ((args.map Sh.ks).flatten)->Option (fI real ((aT.map Sh.ks).flatten++(ep look args++(eI args).flatten)))
def ij.callee(F:ij)(R:Type):Callee real (Option R):=⟨F.look,F.args,F.aT,fun x k=>(F.fn x).bind k⟩
def kZ(Ψ:bV -> Option ij)(R:Type):bV -> Option (Callee real (Option R)):=fun f=>(Ψ f).map (·.callee R)
structure eB where
 keep:bN
 cY:bN
 cI:List (Ex×bN)
 fn:fI real (bN.ks keep)->fI real (bN.ks cY)->Option (jL real cI)
def eB.tH(l:eB)(R:Type):zA real (Option R):=⟨l.keep,l.cY,l.cI,fun kx x k=>(l.fn kx x).bind fun q=>jL.elim l.cI q k⟩
def qf(Λ:Nat -> Option eB)(R:Type):Nat -> Option (zA real (Option R)):=fun n=>(Λ n).map (·.tH R)
abbrev Inls:=FuncId->Option ((R:Type)->Inl real (Option R))
def itab(Ξ:Inls)(R:Type):FuncId->Option (Inl real (Option R)):=fun f=>(Ξ f).map fun t=>t R
def lkt(Λ:Nat->Option eB)(Ξ:Inls)(pl:Nat->Bool)(R:Type):Lk real (Option R):=⟨qf Λ R,itab Ξ R,pl⟩
abbrev noI:Inls:=fun _=>none
abbrev noP:Nat->Bool:=fun _=>false
def gQ(P:Program)(E:Env)(Ψ:bV->Option ij):Prop:=
 ∀(H:Nat->Value) (R:Type) (o:Oper) (f:Operand) (args:Array Operand) (fG:Array Nat) (ω:aJ) (a:Act) (w:World) (s:S) (k:S->Option R) (r:R) (Q:Exit->Act->World->Prop),
  o.op=.call ⟨.value f,args,fG⟩->Rel H ω a w s->(∀d,o.dst=some d->d<a.tmps.size)->bp E (aP R) (kZ Ψ R) o s k=some r->o.wp P a w (Ends H ω a w o.dst k r) Q
def StepInl(P:Program)(E:Env)(Ξ:Inls):Prop:=
 ∀(H:Nat->Value) (R:Type) (o:Oper) (f:FuncId) (t:(R:Type)->Inl real (Option R)) (args:Array Operand) (fG:Array Nat) (ω:aJ) (a:Act) (w:World) (s:S) (k:S->Option R) (r:R) (Q:Exit->Act->World->Prop),
  o.op=.call ⟨.value (.func f),args,fG⟩->Ξ f=some t->args.size=fG.size->Rel H ω a w s->(∀d,o.dst=some d->d<a.tmps.size) ->
  t R ((args.toList.zip fG.toList).map fun p=>ev E s p.2 p.1) s (fun v s1=>k (s1.ck o.dst v))=some r->o.wp P a w (Ends H ω a w o.dst k r) Q
theorem stepInl_no{P:Program}{E:Env}:StepInl P E noI:=fun _ _ _ _ _ _ _ _ _ _ _ _ _ _ _ h=>nomatch h
section
variable {R:Type} {P:Program} {E:Env} {Ψ:bV->Option ij} {Ξ:Inls} {ω:aJ} {a:Act} {w:World} {s:S} {k:S->Option R} {r:R} {o:Oper} {Q:Exit->Act->World->Prop}
theorem vq (hE:cq P E) (hC:gQ P E Ψ) (h:Rel H ω a w s) (hd:∀d,o.dst=some d->d<a.tmps.size)
  (hk:bp E (aP R) (kZ Ψ R) o s k=some r):o.wp P a w (Ends H ω a w o.dst k r) Q:=by
 cases ho:o.op with
 |move x=>exact sJ (E:=E) (.inl ho) h hd (by unfold bp at hk;simp only[ho]at hk;exact hk)
 |assign x=>exact sJ (E:=E) (.inr ho) h hd (by unfold bp at hk;simp only[ho]at hk;exact hk)
 |pick c x y=>exact yS (E:=E) ho h hd (by unfold bp at hk;simp only[ho]at hk;exact hk)
 |alloc t=>exact wT hE ho h hd hk
 |box t x=>exact Bn hE ho h hd hk
 |build t ps=>exact wU hE ho h hd hk
 |buildSlice t n ps=>exact oI hE ho h hd hk
 |load t x=>exact yR hE ho h hd hk
 |store t p v=>exact wZ hE ho h hd hk
 |nilCheck x=>exact rE ho h hd hk
 |binOp op t x y yt=>exact Bm hE ho h hd hk
 |unOp op t x=>exact Cm ho h hd hk
 |convert src dst x=>exact tM hE ho h hd hk
 |makeFunc fn first captured=>
  cases fn with
  |func f=>exact rD ho h hd hk
  |_=>unfold bp at hk;simp only[ho]at hk;cases hk
 |makeSlice t n c=>exact qK hE ho h hd hk
 |makeMap t r=>exact tP hE ho h hd hk
 |lookup t m x ok=>exact vr hE ho h hd hk
 |mapUpdate t m x v=>exact qL hE ho h hd hk
 |slice t x lo hi mx=>exact wX hE ho h hd hk
 |fieldAddr t x f=>exact qI hE ho h hd hk
 |field t x f=>exact wV hE ho h hd hk
 |indexAddr t x i=>exact qJ hE ho h hd hk
 |index t x i=>exact wW hE ho h hd hk
 |extract t i=>exact tN ho h hd hk
 |call c=>
  obtain⟨By,args,fG⟩:=c;cases By with
  |value f=>exact hC H R o f args fG ω a w s k r Q ho h hd hk
  |invoke _ _=>unfold bp at hk;simp only[ho]at hk;cases hz:Nat.beq args.size fG.size <;> rw[hz]at hk <;> cases hk
  |builtin b=>
   have hsz:args.size=fG.size:=by
    unfold bp at hk;simp only[ho]at hk;cases hz:Nat.beq args.size fG.size with
    |true=>exact Nat.eq_of_beq_eq_true hz
    |false=>rw[hz]at hk;cases hk
   by_cases hb:b=.append
   ·subst hb;exact step_append hE ho hsz h hd hk
   ·by_cases hb':b=.len\/b=.min\/b=.max
    ·exact wY hE ho hb' hsz h hd hk
    ·exfalso;have AC:Nat.beq args.size fG.size=true:=by rw[hsz];exact Nat.beq_refl _
     unfold bp at hk;simp only[ho,AC,cond_true]at hk;unfold dD at hk;split at hk <;> first|exact hb rfl|exact hb' (.inl rfl)|exact hb' (.inr (.inl rfl))|exact hb' (.inr (.inr rfl))|cases hk
 |_=>unfold bp at hk;simp only[ho]at hk;cases hk
theorem step_anyI (hE:cq P E) (hC:gQ P E Ψ) (hI:StepInl P E Ξ) (h:Rel H ω a w s) (hd:∀d,o.dst=some d->d<a.tmps.size)
  (hk:stepI E (aP R) (kZ Ψ R) (itab Ξ R) o s k=some r):o.wp P a w (Ends H ω a w o.dst k r) Q:=by
 unfold stepI at hk;split at hk
 ·rename_i c ho;obtain⟨By,args,fG⟩:=c;simp only at hk;split at hk
  ·rename_i f;split at hk
   ·rename_i t ht;have hz:∃t',Ξ f=some t'/\t=t' R:=by
     unfold itab at ht;cases hq:Ξ f with
     |none=>rw[hq]at ht;cases ht
     |some t'=>rw[hq]at ht;exact⟨t',rfl,(Option.some.inj ht).symm⟩
    obtain⟨t',h1,rfl⟩:=hz;cases hb:Nat.beq args.size fG.size with
    |false=>rw[hb]at hk;cases hk
    |true=>rw[hb]at hk;exact hI H R o f t' args fG ω a w s k r Q ho h1 (Nat.eq_of_beq_eq_true hb) h hd hk
   ·exact vq hE hC h hd hk
  ·exact vq hE hC h hd hk
 ·exact vq hE hC h hd hk
def Fw:Exit->Ex->Prop
 | .normal,.normal=>True
 | .exit i,.exit j=>i=j
 | .ret,.ret=>True
 |_,_=>False
def Post(H:Nat->Value){R:Type}(U:Nat->Prop)(ω:aJ)(a:Act)(w:World)(k:Ex->S->Option R)(r:R):Exit->Act->World->Prop:=fun e a' w'=>∃ex aI s',Fw e ex/\Rel H aI a' w' s'/\dr ω w aI w'/\k ex s'=some r/\a'.tmps.size=a.tmps.size/\∀j,U j->a'.tmps.getD j undef=a.tmps.getD j undef
theorem Rel.reset(h:Rel H ω a w s){d:Nat}{t:cm}(ht:dh H w ω s (a.tmps.getD d undef) t):Rel H ω a w (s.set d t) where
 dP:=h.dP
 inj:=h.inj
 dom:=h.dom
 defers:=h.defers
 dR:=h.dR
 slots i:=by
  have tr:∀id,Tr w ω s w ω (s.set d t) id:=fun id=>Tr.mM h.dom rfl;by_cases e:i=d
  ·subst e;rw[St.iz];exact dh.frame (dr.refl _ _) tr ht
  ·rw[St.kT _ _ e];exact dh.frame (dr.refl _ _) tr (h.slots i)
 dB id cells hc:=by obtain⟨b,arr,T,h1,h2,h3⟩:=h.dB id cells hc;exact⟨b,arr,T,h1,h2,h3.mono fun _ _ hl=>cA.frame (dr.refl _ _) (fun id=>Tr.mM h.dom rfl) hl⟩
theorem mY{ops:Array Oper}{tmps:Array Value}{j t:Nat}{b:Bool}(ht:(ops[j]?).bind (·.dst) = some t)(hv:tmps.getD t undef = .bool b):yielded ops tmps j = some b:=by
  unfold yielded;rw[ht];simp only[Option.bind_some];rw[Array.getD_eq_getD_getElem?]at hv;cases hq:tmps[t]? with
  |none=>rw[hq]at hv; cases hv
  |some v=>rw[hq]at hv; simp at hv; subst hv; rfl
theorem lA{ops:Array Oper}{tmps:Array Value}{j t:Nat}(ht:(ops[j]?).bind (·.dst) = some t)(hv:tmps.getD t undef = undef):yielded ops tmps j = none:=by
  unfold yielded;rw[ht];simp only[Option.bind_some];rw[Array.getD_eq_getD_getElem?]at hv;cases hq:tmps[t]? with
  |none=>rfl
  |some v=>rw[hq]at hv; simp at hv; subst hv; rfl
theorem tG(hE:cq P E)(hC:gQ P E Ψ)(hI:StepInl P E Ξ){ops:Array Oper}{U:Nat -> Prop}:∀(l:List Oper) (ω:aJ) (a:Act) (w:World) (s:S) (k:S -> Option R) (Qn:Exit -> Act -> World -> Prop), (∀o ∈ l, ∀j, U j -> o.dst ≠ some j) -> a.tmps.size = E.nt -> Rel H ω a w s -> nJ E (aP R) (kZ Ψ R) (itab Ξ R) ops l s k = some r ->
    (∀aI a' w' s', Rel H aI a' w' s' -> dr ω w aI w' -> k s' = some r -> a'.tmps.size = a.tmps.size -> (∀j, U j -> a'.tmps.getD j undef = a.tmps.getD j undef) -> Qn .normal a' w') -> wpList P ops Qn l a w
  | [], ω, a, w, s, k, Qn, _, _, h, hk, hQ=>hQ ω a w s h (dr.refl _ _) hk rfl (fun _ _=>rfl)
  |o:: rest, ω, a, w, s, k, Qn, hU, hn, h, hk, hQ=>by
    simp only[nJ]at hk;cases ru:sr E o.dst with
    |false=>rw[ru]at hk; cases hk
    |true=>
      rw[ru]at hk;simp only[cond_true]at hk;have hd:∀d, o.dst = some d -> d<a.tmps.size:=by intro d e;rw[e]at ru;have h1:d + 1 <= E.nt:=Nat.le_of_ble_eq_true ru;rw[hn];exact h1
      have GH:∀o' ∈ rest, ∀j, U j -> o'.dst ≠ some j:=fun o' cU=>hU o' (by simp[cU]);have Ee:=hU o (by simp);have yes:∀(s0:S), Rel H ω a w s0 -> (stepI E (aP R) (kZ Ψ R) (itab Ξ R) o s0 fun s1=>nJ E (aP R) (kZ Ψ R) (itab Ξ R) ops rest s1 k) = some r -> o.wp P a w (wpList P ops Qn rest) Qn:=by intro s0 h0 kM;refine Oper.wp_mono (fun a' w' oc=>?_) (step_anyI hE hC hI h0 hd kM);obtain⟨aI, s', g1, g2, g3, g4, g5⟩:=oc;refine tG hE hC hI rest aI a' w' s' k Qn GH (g4.trans hn) g1 g3 (fun bZ a2 w2 s2 q1 q2 q3 q4 q5=>?_);exact hQ bZ a2 w2 s2 q1 (g2.trans q2) q3 (q4.trans g4) (fun j hj=>(q5 j hj).trans (g5 j (Ee j hj)))
      have no:∀(s0:S), Rel H ω a w s0 -> nJ E (aP R) (kZ Ψ R) (itab Ξ R) ops rest (s0.ck o.dst (.one .undef)) k = some r -> wpList P ops Qn rest (a.put o.dst undef) w:=by intro s0 h0 kM;have h1:Rel H ω (a.put o.dst undef) w (s0.ck o.dst (.one .undef)):=h0.ck hd (t:=.one .undef) rfl;refine tG hE hC hI rest ω _ w _ k Qn GH ((i7 _ _ _).trans hn) h1 kM (fun bZ a2 w2 s2 q1 q2 q3 q4 q5=>?_);exact hQ bZ a2 w2 s2 q1 q2 q3 (q4.trans (i7 _ _ _)) (fun j hj=>(q5 j hj).trans (kR _ _ _ (Ee j hj)))
      unfold wpList;cases hg:o.guard with
      |none=>rw[hg]at hk;rw[if_pos (by simp[Region.wanted, hg])];exact .inl (yes s h hk)
      |some gw=>
        obtain⟨j, want⟩:=gw;rw[hg]at hk;simp only at hk;cases ht:(ops[j]?).bind (·.dst)with
        |none=>rw[ht]at hk; cases hk
        |some t=>
          rw[ht]at hk;simp only at hk;have jO:=h.slots t;have main:∀b:Bool, dh H w ω s (a.tmps.getD t undef) (.one (.val .bool (real.lN b))) ->
              (bif b then(bif want then stepI E (aP R) (kZ Ψ R) (itab Ξ R) o (s.set t (.one (.val .bool (real.lN true)))) (fun s1=>nJ E (aP R) (kZ Ψ R) (itab Ξ R) ops rest s1 k)else nJ E (aP R) (kZ Ψ R) (itab Ξ R) ops rest ((s.set t (.one (.val .bool (real.lN true)))).ck o.dst (.one .undef)) k)
                else(bif want then nJ E (aP R) (kZ Ψ R) (itab Ξ R) ops rest ((s.set t (.one (.val .bool (real.lN false)))).ck o.dst (.one .undef)) k else stepI E (aP R) (kZ Ψ R) (itab Ξ R) o (s.set t (.one (.val .bool (real.lN false)))) (fun s1=>nJ E (aP R) (kZ Ψ R) (itab Ξ R) ops rest s1 k))) = some r ->
              if Region.wanted o (yielded ops a.tmps)then o.wp P a w (wpList P ops Qn rest) Qn \/ (o.asks P a w /\ LetsOut Qn)else wpList P ops Qn rest (a.put o.dst undef) w:=by
            intro b jO hk';have hv:a.tmps.getD t undef = .bool b:=jO;have hy:=mY (ops:=ops) ht hv;have hw:Region.wanted o (yielded ops a.tmps) = (some b==some want):=by simp[Region.wanted, hg, hy]
            rw[hw];have B8:=h.reset jO;cases b with
            |true=>
              cases want with
              |true=>rw[if_pos (by rfl)]; exact .inl (yes _ B8 hk')
              |false=>rw[if_neg (by decide)]; exact no _ B8 hk'
            |false=>
              cases want with
              |true=>rw[if_neg (by decide)]; exact no _ B8 hk'
              |false=>rw[if_pos (by rfl)]; exact .inl (yes _ B8 hk')
          cases hst:s.sl t with
          |one l=>
            rw[hst]at hk jO;cases l with
            |val tt b0=>
              cases tt with
              |bool=>exact main b0 jO hk
              |_=>cases hk
            |undef=>have hv:a.tmps.getD t undef = undef:=jO;have hy:=lA (ops:=ops) ht hv;rw[if_neg (by simp[Region.wanted, hg, hy])];exact no s h hk
            |_=>cases hk
          |agg _=>rw[hst]at hk; cases hk
          |nR _=>rw[hst]at hk; cases hk
          |GR _ _=>rw[hst]at hk; cases hk
end
end Go.R
namespace Go.R
section
variable {R:Type} {E:Env} {Ψ:bV->Option ij}
noncomputable def step1(E:Env)(Ψ:bV->Option ij)(o:Oper)(s:S):Option S:=bp E (aP S) (kZ Ψ S) o s some
theorem aD{α:Type}{x:Option α}{f:α->Option R}{g:α->Option S}{k:S->Option R}(h:∀y,f y=(g y).bind k):ar (aP R) x f=(ar (aP S) x g).bind k:=by
 cases x with
 |none=>rfl
 |some y=>exact h y
theorem aX{b:Bool}{x y:Option R}{x' y':Option S}{k:S->Option R}(hx:x=x'.bind k)(hy:y=y'.bind k):(bif b then x else y)=(bif b then x' else y').bind k:=by
 cases b
 ·exact hy
 ·exact hx
theorem py(tb:Bool)(op:BinOp)(x y:L)(f:L->Option R)(g:L->Option S)(k:S->Option R)(h:∀l,f l=(g l).bind k):kU (aP R) tb op x y f=(kU (aP S) tb op x y g).bind k:=by
 unfold kU;cases x with
 |val t x=>
  cases y with
  |val u y=>
   cases t <;> cases u <;> simp only[] <;> first
    |rfl
    |(cases op <;> first
      |rfl
      |exact aX rfl (h _)
      |exact aX (h _) rfl
      |exact h _
      |(simp only[];split <;> first|rfl|exact h _|exact aX rfl (h _)))
    |(cases tb <;> cases op <;> first|rfl|exact h _)
    |skip
  |_=>cases t <;> rfl
 |_=>rfl
theorem tL(d:Nat)(s:S)(x:cm)(c:Cont real)(b:Bool)(l h:IV)(f:cm->S->Option R)(g:cm->S->Option S)(k:S->Option R)(hk:∀v s,f v s=(g v s).bind k):eY E (aP R) d s x c b l h f=(eY E (aP S) d s x c b l h g).bind k:=by
 unfold eY;cases x with
 |one q=>
  cases q with
  |ref id gg hh p=>
   cases p with
   |nil=>simp only[];refine aX (hk _ _) (aX (aX rfl (hk _ _)) (hk _ _))
   |cons _ _=>rfl
  |_=>exact hk _ _
 |_=>exact hk _ _
theorem wR(d t:Nat)(s:S)(x:cm)(lo hi mx:Option Operand)(f:cm->S->Option R)(g:cm->S->Option S)(k:S->Option R)(hk:∀v s,f v s=(g v s).bind k):jy E (aP R) d t s x lo hi mx f=(jy E (aP S) d t s x lo hi mx g).bind k:=by
 unfold jy;refine aD fun q=>aD fun c=>aX (aX (hk _ _) ?_) rfl;cases mx with
 |some _=>rfl
 |none=>exact aD fun l=>aD fun h=>aX (tL _ _ _ _ _ _ _ _ _ _ hk) rfl
theorem rO(F:ij)(d:Nat)(args:List cm)(s:S)(f:cm->S->Option R)(g:cm->S->Option S)(k:S->Option R)(hk:∀v s,f v s=(g v s).bind k):jG (aP R) (F.callee R) d args s f=(jG (aP S) (F.callee S) d args s g).bind k:=by
 unfold jG;refine aD fun s1=>aD fun vs=>aD fun x=>?_;show(F.fn x).bind _=((F.fn x).bind _).bind k;cases F.fn x with
 |none=>rfl
 |some y=>exact aD fun s2=>hk _ _
theorem xZ(F:ij)(d:Nat)(args:List cm)(s:S)(f:cm->S->Option R)(g:cm->S->Option S)(k:S->Option R)(hk:∀v s,f v s=(g v s).bind k):mj (aP R) (F.callee R) d args s f=(mj (aP S) (F.callee S) d args s g).bind k:=by
 unfold mj;refine aX (aX ?_ (aX (aD fun r=>aD fun x=>?_) rfl)) rfl
 ·cases hq:dW (aZ d 0 0+2047) F.args args s with
  |none=>have e1:dW (aZ d 0 0+2047) (F.callee R).args args s=none:=hq;have e2:dW (aZ d 0 0+2047) (F.callee S).args args s=none:=hq;rw[e1,e2];exact rO F d args s f g k hk
  |some q=>have e1:dW (aZ d 0 0+2047) (F.callee R).args args s=some q:=hq;have e2:dW (aZ d 0 0+2047) (F.callee S).args args s=some q:=hq;rw[e1,e2];exact rO F d q.1 q.2.1 _ _ k fun v s2=>aD fun s3=>hk _ _
 ·show(F.fn x).bind _=((F.fn x).bind _).bind k;cases F.fn x with
  |none=>rfl
  |some y=>exact aD fun s2=>hk _ _
theorem sZ(d:Nat)(b:Builtin)(fG:List Nat)(args:List cm)(s:S)(f:cm->S->Option R)(g:cm->S->Option S)(k:S->Option R)(hk:∀v s,f v s=(g v s).bind k):dD E (aP R) d b fG args s f=(dD E (aP S) d b fG args s g).bind k:=by
 unfold dD;split
 ·refine aX (aD fun _=>hk _ _) (aD fun _=>aD fun _=>hk _ _)
 ·exact aD fun _=>aD fun _=>hk _ _
 ·exact aD fun _=>aD fun _=>hk _ _
 ·refine aD fun q=>aD fun _=>aD fun cx=>aD fun cy=>aX rfl ?_;split
  ·rfl
  ·refine aX ?_ ?_
   ·split
    ·refine aX ?_ rfl;split
     ·exact aX (hk _ _) rfl
     ·rfl
    ·rfl
   ·split
    ·exact aX (hk _ _) rfl
    ·rfl
 ·rfl
theorem yP(o:Oper)(s:S)(k:S->Option R):bp E (aP R) (kZ Ψ R) o s k=(step1 E Ψ o s).bind k:=by
 unfold step1 bp;have hp:∀(v:cm) (s:S),k (s.ck o.dst v)=(some (s.ck o.dst v)).bind k:=fun _ _=>rfl;cases o.op with
 |pick c a b=>exact aD fun c=>aX rfl rfl
 |alloc t=>exact aD fun i=>rfl
 |box t x=>exact aD fun i=>aD fun v=>aX (aX (aD fun r=>rfl) rfl) rfl
 |build t ps=>exact aD fun i=>aX (aD fun cs=>rfl) rfl
 |buildSlice t n ps=>exact aD fun r=>aX (aX (aD fun lss=>aD fun q=>aD fun x=>rfl) (aD fun q=>rfl)) rfl
 |load t p=>
  refine aD fun i=>?_;cases ev E s 0 p with
  |one l=>exact aD fun v=>rfl
  |_=>rfl
 |store t p v=>
  refine aD fun i=>aD fun v=>aX ?_ rfl;cases ev E s 0 p with
  |one l=>exact aD fun v=>rfl
  |_=>rfl
 |nilCheck x=>
  simp only[];cases ev E s 0 x with
  |one l=>
   cases l with
   |ptr id g off=>exact aD fun _=>rfl
   |cj id g h p j off=>exact aD fun c=>aX rfl rfl
   |_=>rfl
  |_=>rfl
 |binOp op t x y yt=>
  simp only[];cases fW E s op t x y with
  |some l=>rfl
  |none=>
  simp only[];cases ev E s t x with
  |one x=>
   cases ev E s t y with
   |one y=>exact py _ _ _ _ _ _ _ (fun l=>rfl)
   |_=>rfl
  |agg xs=>
   cases ev E s t y with
   |agg ys=>exact aD fun i=>aD fun b=>by cases op <;> rfl
   |_=>rfl
  |nR _=>rfl
  |GR _ _=>rfl
 |unOp op t x=>
  simp only[];cases op <;> first|rfl|skip
  all_goals (cases ev E s t x with
   |one l=>cases l with
    |val tt y=>cases tt <;> rfl
    |_=>rfl
   |_=>rfl)
 |convert src dst x=>
  refine aD fun _=>aD fun i=>aX rfl ?_;split
  ·rfl
  ·refine aD fun _=>aD fun _=>aX rfl (aD fun c=>aX ?_ rfl);split <;> rfl
  ·rfl
 |makeFunc fn first captured=>
  cases fn with
  |func f=>exact aX (aD fun cc=>rfl) rfl
  |_=>rfl
 |makeSlice t n c=>exact aD fun r=>aD fun n'=>aX (aX rfl rfl) rfl
 |makeMap t rv=>exact aD fun k=>aX rfl rfl
 |lookup t m x ok=>
  refine aD fun kk=>aX rfl ?_;split
  ·refine aD fun q=>aX ?_ rfl;split <;> rfl
  ·rfl
 |mapUpdate t m x v=>
  refine aD fun kk=>?_;split
  ·refine aD fun q=>aX ?_ rfl;split <;> rfl
  ·rfl
 |slice t x lo hi mx=>exact wR _ _ _ _ _ _ _ _ _ _ (fun v s=>rfl)
 |fieldAddr t x f=>
  refine aD fun i=>aD fun q=>aX rfl ?_;cases ev E s 0 x with
  |one l=>
   cases l with
   |ptr id g off=>exact aD fun _=>rfl
   |cj id g h p j off=>exact aD fun c=>aX rfl rfl
   |_=>rfl
  |_=>rfl
 |field t x f=>
  refine aD fun i=>aD fun q=>aX rfl ?_;cases ev E s t x with
  |agg ls=>exact aX rfl rfl
  |_=>rfl
 |indexAddr t x i=>
  refine aD fun i=>aD fun q=>?_;cases ev E s t x with
  |one l=>
   cases l with
   |val tt y=>
    cases tt with
    |sl e cs=>exact aX (aX rfl rfl) rfl
    |_=>rfl
   |ref id g h p=>exact aD fun c=>aX (aX (aX rfl rfl) rfl) rfl
   |_=>rfl
  |_=>rfl
 |index t x i=>exact aX (aD fun i=>aD fun x=>aX rfl rfl) rfl
 |extract t i=>
  simp only[];cases ev E s 0 t with
  |nR cs=>exact aD fun c=>rfl
  |_=>rfl
 |call c=>
  refine aX ?_ rfl;cases c.callee with
  |builtin b=>exact sZ _ _ _ _ _ _ _ _ (fun v s=>rfl)
  |value f=>
   simp only[];cases ev E s 0 f with
   |one l=>
    cases l with
    |fn tQ cc=>
     simp only[];unfold kZ;cases Ψ (tQ,uG ((c.args.toList.zip c.argTypes.toList).map fun p=>ev E s p.2 p.1))with
     |none=>rfl
     |some F=>simp only[Option.map_some,ar];exact xZ F _ _ _ _ _ _ (fun v s=>rfl)
    |_=>rfl
   |_=>rfl
  |invoke _ _=>rfl
 |_=>rfl
end
end Go.R
namespace Go.R
abbrev Sl:=Nat->cm
structure Fr where
 sl:Sl
 F:Nat->Bool
 t:Nat->fX real
def St.mx(s:S)(f:Fr):S:=⟨f.sl,fun id=>bif f.F id then s.ob id else f.t id⟩
section
variable {f:Fr}
theorem cO{s:S}{id:Nat}(h:f.F id=true):(s.mx f).ob id=s.ob id:=by show(bif f.F id then s.ob id else f.t id)=_;rw[h];rfl
theorem A4{s:S}{id:Nat}(h:f.F id=true)(q:fX real):(s.mx f).zm id q=(s.zm id q).mx f:=by
 unfold St.mx St.zm;congr 1;funext i;simp only[];cases hb:Nat.beq i id with
 |true=>rw[Nat.eq_of_beq_eq_true hb,h];rfl
 |false=>rfl
theorem dM{s:S}{id:Nat}(h:f.F id=true)(nh:Bool)(o:Ob real):(s.mx f).bQ id nh o=(s.bQ id nh o).mx f:=by unfold St.bQ;rw[cO h];exact A4 h _
theorem eF{s:S}{id:Nat}(h:f.F id=true)(o:Ob real):(s.mx f).new id o=(s.new id o).mx f:=by unfold St.new;rw[cO h];exact A4 h _
def jf(f:Fr)(ids:List Nat):Prop:=∀id∈ids,f.F id=true
theorem jf.iB{x y:List Nat}(h:jf f (x++y)):jf f x/\jf f y:=⟨fun id hi=>h id (List.mem_append.2 (.inl hi)),fun id hi=>h id (List.mem_append.2 (.inr hi))⟩
def jK(f:Fr)(ls:List L):Prop:=∀l∈ls,jf f l.bl
theorem jK.hd{l:L}{ls:List L}(h:jK f (l::ls)):jf f l.bl:=h l (by simp)
theorem jK.tl{l:L}{ls:List L}(h:jK f (l::ls)):jK f ls:=fun x hx=>h x (by simp[hx])
theorem jf.ref{id g h:Nat}{p:jR}(hf:jf f (Lf.bl (A:=real) (.ref id g h p))):f.F id=true:=hf id (by simp[Lf.bl])
theorem jf.ptr{id g off:Nat}(hf:jf f (Lf.bl (A:=real) (.ptr id g off))):f.F id=true:=hf id (by simp[Lf.bl])
theorem jf.cj{id g h off:Nat}{p:jR}{i:IV}(hf:jf f (Lf.bl (A:=real) (.cj id g h p i off))):f.F id=true:=hf id (by simp[Lf.bl])
theorem jf.cV{id g:Nat}(hf:jf f (Lf.bl (A:=real) (.cV id g))):f.F id=true:=hf id (by simp[Lf.bl])
def iG(s:S)(f:Fr)(ids:List Nat):Prop:=∀id∈ids,∀ls,(s.ob id).o=.blk ls->jK f ls
theorem gG{s:S}{id:Nat}(h:f.F id=true)(g hh:Nat)(p:jR):(s.mx f).cont id g hh p=s.cont id g hh p:=by unfold St.cont;rw[cO h]
theorem fZ{s:S}{id:Nat}(h:f.F id=true)(g:Nat):dA (s.mx f) id g=dA s id g:=by unfold dA;rw[cO h]
theorem tE{s:S}{id:Nat}(h:f.F id=true)(g:Nat):tD (s.mx f) id g=tD s id g:=by unfold tD;rw[cO h]
theorem vo{s:S}{l:L}(h:jf f l.bl):eZ (s.mx f) l=eZ s l:=by
 cases l with
 |ref id g hh p=>simp only[eZ];rw[gG h.ref]
 |ptr id g off=>simp only[eZ];rw[fZ h.ptr]
 |cj id g hh p i off=>simp only[eZ];rw[gG h.cj]
 |cV id g=>simp only[eZ];rw[tE h.cV]
 |_=>rfl
theorem iM{s:S}{v:cm}(h:jK f v.gB):cells? (s.mx f) v=cells? s v:=by
 cases v with
 |one l=>simp only[cells?];rw[vo (h l (by simp[TV.gB]))]
 |agg ls=>
  have:ls.all (eZ (s.mx f))=ls.all (eZ s):=by
   have h:jK f ls:=h;induction ls with
   |nil=>rfl
   |cons l ls ih=>simp only[List.all_cons];rw[vo h.hd,ih h.tl h.tl]
  simp only[cells?];rw[this]
 |nR _=>rfl
 |GR _ _=>rfl
theorem jk{s:S}{v:cm}{ls:List L}(h:cells? s v=some ls):ls=v.gB:=by
 cases v with
 |one l=>
  simp only[cells?]at h;cases hb:eZ s l <;> rw[hb]at h
  ·cases h
  ·exact(Option.some.inj h).symm
 |agg l=>
  simp only[cells?]at h;cases hb:l.all (eZ s) <;> rw[hb]at h
  ·cases h
  ·exact(Option.some.inj h).symm
 |nR _=>cases h
 |GR _ _=>cases h
theorem AU{s:S}{l:L}(h:jf f l.bl)(b:Bool)(n:Nat):iU (s.mx f) b n l=iU s b n l:=by
 cases l with
 |ptr id g off=>simp only[iU];rw[fZ h.ptr]
 |cj id g hh p i off=>
  have hm:wG (s.mx f) id g p i=wG s id g p i:=by unfold wG;rw[cO h.cj]
  simp only[iU];rw[gG h.cj,hm]
 |_=>rfl
theorem iO{s:S}{v:cm}(h:jK f v.gB):gz (s.mx f) v=gz s v:=by
 cases v with
 |one l=>
  cases l with
  |ref id g hh p=>simp only[gz];exact gG (h (.ref id g hh p) (by simp[TV.gB])).ref _ _ _
  |val t x=>cases t <;> rfl
  |_=>rfl
 |_=>rfl
theorem qn(deep:Bool)(t:Ty)(l:L)(s:S)(h:jf f l.bl):bY (A:=real) deep t l (s.mx f)=(bY (A:=real) deep t l s).map fun q=>(q.1,q.2.mx f):=by
 cases l with
 |val u y=>
  cases u <;> cases deep <;> simp only[bY,cond_true,cond_false] <;> first
   |rfl
   |(split <;> rfl)
 |eU e cs=>cases t <;> simp only[bY] <;> first|rfl|(split <;> rfl)
 |ref id g hh p=>
  cases p with
  |cons _ _=>cases t <;> rfl
  |nil=>
   have hid:=h.ref;have cf:=cO (s:=s) hid;simp only[bY,cf];cases Nat.beq (s.ob id).g g with
   |false=>rfl
   |true=>
    simp only[cond_true];cases (s.ob id).o with
    |arr e cs dp x=>simp only[];split <;> cases deep <;> first|rfl|(simp only[cond_false,Option.map_some];rw[dM hid])
    |cB e cs x=>cases deep <;> simp only[cond_true,cond_false] <;> first|rfl|(split <;> rfl)
    |blk _=>rfl
    |gone=>rfl
    |mp _ _=>rfl
 |_=>cases t <;> rfl
theorem qp(deep:Bool):∀(cs:aK) (ls:List L) (s:S),jK f ls->eV (A:=real) deep cs ls (s.mx f)=(eV (A:=real) deep cs ls s).map fun q=>(q.1,q.2.mx f)
 | .nil,[],_,_=>rfl
 | .nil,_::_,_,_=>rfl
 | .cons _ _,[],_,_=>rfl
 | .cons t ts,l::ls,s,h=>by
  simp only[eV];rw[qn _ _ _ _ h.hd];cases bY (A:=real) deep t l s with
  |none=>rfl
  |some q=>simp only[Option.map_some];rw[qp deep ts ls q.2 h.tl];cases eV (A:=real) deep ts ls q.2 <;> rfl
theorem sX(e:Nat)(cs:aK)(deep:Bool)(l:L)(s:S)(h:jf f l.bl):eJ (A:=real) e cs deep l (s.mx f)=(eJ (A:=real) e cs deep l s).map fun q=>(q.1,q.2.mx f):=by
 cases l with
 |eU e' cs'=>simp only[eJ];split <;> rfl
 |ref id g hh p=>
  cases p with
  |cons _ _=>rfl
  |nil=>
   have hid:=h.ref;have cf:=cO (s:=s) hid;simp only[eJ,cf];cases Nat.beq (s.ob id).g g with
   |false=>rfl
   |true=>
    simp only[cond_true];cases (s.ob id).o with
    |arr e' cs' dp x=>
     simp only[];cases (dp==deep||cs'.plain)with
     |false=>rfl
     |true=>simp only[cond_true];split <;> first|rfl|(simp only[Option.map_some];rw[dM hid])
    |_=>rfl
 |_=>rfl
theorem Dt(k:IntKind)(l:L)(s:S)(h:jf f l.bl):tS (A:=real) k l (s.mx f)=(tS (A:=real) k l s).map fun q=>(q.1,q.2.mx f):=by
 cases l with
 |cV id g=>
  have hid:=h.cV;have cf:=cO (s:=s) hid;simp only[tS,cf];cases Nat.beq (s.ob id).g g with
  |false=>rfl
  |true=>
   simp only[cond_true];cases (s.ob id).o with
   |mp k' x=>simp only[];split <;> first|rfl|(simp only[Option.map_some];rw[dM hid])
   |_=>rfl
 |_=>rfl
theorem Bp(k:K)(l:L)(s:S)(h:jf f l.bl):cW k l (s.mx f)=(cW k l s).map fun q=>(q.1,q.2.mx f):=by
 cases k with
 |val t=>simp only[cW];rw[qn _ _ _ _ h];cases bY (A:=real) false t l s <;> rfl
 |arr e cs deep=>simp only[cW];rw[sX _ _ _ _ _ h];cases eJ (A:=real) e cs deep l s <;> rfl
 |mp kk=>simp only[cW];rw[Dt _ _ _ h];cases tS (A:=real) kk l s <;> rfl
theorem ig:∀(ks:List K) (ls:List L) (s:S),jK f ls->takes ks ls (s.mx f)=(takes ks ls s).map fun q=>(q.1,q.2.mx f)
 | [],[],_,_=>rfl
 | [],_::_,_,_=>rfl
 |_::_,[],_,_=>rfl
 |k::ks,l::ls,s,h=>by
  simp only[takes];rw[Bp _ _ _ h.hd];cases cW k l s with
  |none=>rfl
  |some q=>simp only[Option.map_some];rw[ig ks ls q.2 h.tl];cases takes ks ls q.2 <;> rfl
theorem jz(cs:aK)(c:df real)(s:S)(h:jf f c.bl)(hb:iG s f c.bl):cr cs c (s.mx f)=(cr cs c s).map fun q=>(q.1,q.2.mx f):=by
 cases c with
 |ro cs' x=>simp only[cr];split <;> rfl
 |ptr id g=>
  have hid:f.F id=true:=h id (by simp[df.bl]);simp only[cr,fZ hid];cases hls:dA s id g with
  |none=>rfl
  |some ls=>
   simp only[];have hl:jK f ls:=hb id (by simp[df.bl]) ls (by
    unfold dA at hls;cases hg:Nat.beq (s.ob id).g g <;> rw[hg]at hls
    ·cases hls
    ·simp only[cond_true]at hls;split at hls
     ·rename_i cs' hcs;injection hls with hls;rw[hcs,hls]
     ·cases hls)
   rw[ig _ _ _ hl];cases takes cs.ks ls s with
   |none=>rfl
   |some q=>simp only[Option.map_some];rw[cO hid];cases (q.2.ob id).o <;> first|rfl|(simp only[Option.map_some];rw[dM hid])
theorem iG.Cr{s s':S}{ids:List Nat}(h:iG s f ids)(hw:dy s s'):iG s' f ids:=fun id hi ls hls=>h id hi ls (by rw[<-hw.blk hls];exact hls)
theorem iG.iB{s:S}{x y:List Nat}(h:iG s f (x++y)):iG s f x/\iG s f y:=⟨fun id hi=>h id (List.mem_append.2 (.inl hi)),fun id hi=>h id (List.mem_append.2 (.inr hi))⟩
theorem oy:∀(aM:List aK) (cc:List (df real)) (s:S),jf f (cc.flatMap df.bl)->iG s f (cc.flatMap df.bl)->cz aM cc (s.mx f)=(cz aM cc s).map fun q=>(q.1,q.2.mx f)
 | [],[],_,_,_=>rfl
 | [],_::_,_,_,_=>rfl
 |_::_,[],_,_,_=>rfl
 |cs::nc,c::cc,s,h,hb=>by
  rw[List.flatMap_cons]at h hb;simp only[cz];rw[jz _ _ _ h.iB.1 hb.iB.1];cases h1:cr cs c s with
  |none=>rfl
  |some q=>simp only[Option.map_some];rw[oy nc cc q.2 h.iB.2 (hb.iB.2.Cr (fF h1))];cases cz nc cc q.2 <;> rfl
theorem sM(ks:List K)(id g:Nat)(s:S)(hid:f.F id=true)(hb:∀ls,(s.ob id).o=.blk ls->jK f ls):cl (.blk ks) (.one (.ptr id g 0)) (s.mx f)=(cl (.blk ks) (.one (.ptr id g 0)) s).map fun q=>(q.1,q.2.mx f):=by
 simp only[cl];rw[fZ hid];cases hls:dA s id g with
 |none=>rfl
 |some ls=>have hl:jK f ls:=hb ls (cZ hls).2;simp only[];rw[dM hid,ig _ _ _ hl];cases takes ks ls (s.bQ id true .gone) <;> rfl
theorem yZ(c:Cp)(v:df real)(s:S)(h:jf f v.bl)(hb:iG s f v.bl):ff c v (s.mx f)=(ff c v s).map fun q=>(q.1,q.2.mx f):=by
 cases c with
 |ro cs=>exact jz _ _ _ h hb
 |mu ks=>
  cases v with
  |ro _ _=>rfl
  |ptr id g=>exact sM ks id g s (h id (by simp[df.bl])) (fun ls hls=>hb id (by simp[df.bl]) ls hls)
theorem qO:∀(aM:List Cp) (cc:List (df real)) (s:S),jf f (cc.flatMap df.bl)->iG s f (cc.flatMap df.bl)->cH aM cc (s.mx f)=(cH aM cc s).map fun q=>(q.1,q.2.mx f)
 | [],[],_,_,_=>rfl
 | [],_::_,_,_,_=>rfl
 |_::_,[],_,_,_=>rfl
 |cs::nc,c::cc,s,h,hb=>by
  rw[List.flatMap_cons]at h hb;simp only[cH];rw[yZ _ _ _ h.iB.1 hb.iB.1];cases h1:ff cs c s with
  |none=>rfl
  |some q=>simp only[Option.map_some];rw[qO nc cc q.2 h.iB.2 (hb.iB.2.Cr (kA h1))];cases cH nc cc q.2 <;> rfl
theorem zh(sh:Sh)(v:cm)(s:S)(h:jf f v.bl)(hb:iG s f v.bl):cl sh v (s.mx f)=(cl sh v s).map fun q=>(q.1,q.2.mx f):=by
 unfold cl;split
 ·exact jz _ _ _ (by simpa[TV.bl,TV.gB,Lf.bl,df.bl] using h) (by simpa[TV.bl,TV.gB,Lf.bl,df.bl] using hb)
 ·exact jz _ _ _ (by simp[df.bl,jf]) (by simp[df.bl,iG])
 ·rename_i g aM g' cc;cases Nat.beq g g' with
  |false=>rfl
  |true=>exact oy _ _ _ (by simpa[TV.bl,TV.gB,Lf.bl] using h) (by simpa[TV.bl,TV.gB,Lf.bl] using hb)
 ·rename_i g aM g' cc;cases Nat.beq g g' with
  |false=>rfl
  |true=>exact qO _ _ _ (by simpa[TV.bl,TV.gB,Lf.bl] using h) (by simpa[TV.bl,TV.gB,Lf.bl] using hb)
 ·exact ig _ _ _ (fun l hl=>by rw[List.mem_singleton]at hl;subst hl;simpa[TV.bl,TV.gB] using h)
 ·rename_i ks ls;exact ig _ _ _ (fun l hl id hi=>h id (List.mem_flatMap.2 ⟨l,hl,hi⟩))
 ·rename_i ks id g;exact sM ks id g s (h id (by simp[TV.bl,TV.gB,Lf.bl])) (fun ls hls=>hb id (by simp[TV.bl,TV.gB,Lf.bl]) ls hls)
 ·rfl
def zz(f:Fr)(vs:List cm):Prop:=∀v∈vs,jf f v.bl
def BH(s:S)(f:Fr)(vs:List cm):Prop:=∀v∈vs,iG s f v.bl
theorem qM:∀(aW:List Sh) (vs:List cm) (s:S),zz f vs->BH s f vs->bO aW vs (s.mx f)=(bO aW vs s).map fun q=>(q.1,q.2.mx f)
 | [],[],_,_,_=>rfl
 | [],_::_,_,_,_=>rfl
 |_::_,[],_,_,_=>rfl
 |sh::aW,v::vs,s,h,hb=>by
  simp only[bO];rw[zh _ _ _ (h v (by simp)) (hb v (by simp))];cases h1:cl sh v s with
  |none=>rfl
  |some q=>simp only[Option.map_some];rw[qM aW vs q.2 (fun v hv=>h v (by simp[hv])) (fun v hv=>(hb v (by simp[hv])).Cr (kC h1))];cases bO aW vs q.2 <;> rfl
theorem xz(id:Nat)(v:KV real)(s:S)(h:f.F id=true):dK id v (s.mx f)=((dK id v s).1,(dK id v s).2.mx f):=by
 obtain⟨k,x⟩:=v;cases k with
 |val t=>simp only[dK];rw[eF h]
 |arr e cs d=>simp only[dK];rw[eF h,cO h]
 |mp kk=>simp only[dK];rw[eF h,cO h]
theorem mE:∀(vs:List (KV real)) (id:Nat) (s:S),(∀i,id<=i->i<id+vs.length->f.F i=true)->eE id vs (s.mx f)=((eE id vs s).1,(eE id vs s).2.mx f)
 | [],_,_,_=>rfl
 |v::vs,id,s,h=>by simp only[eE];rw[xz _ _ _ (h id (Nat.le_refl _) (by simp))];simp only[];rw[mE vs (id+1) _ (fun i h1 h2=>h i (by omega) (by simp only[List.length_cons];omega))]
theorem nD:∀(aM:List Cp) (vs:List (KV real)) (b:Nat) (s:S),(∀i,b<=i->i<b+s9 aM->f.F i=true)->dL b aM vs (s.mx f)=((dL b aM vs s).1,(dL b aM vs s).2.mx f)
 | [],_,_,_,_=>rfl
 | .ro cs::r,vs,b,s,h=>by
  have hw:s9 (.ro cs::r)=s9 r:=by simp[s9,Cp.width]
  rw[hw]at h;simp only[dL];cases jQ (A:=real) cs (vs.take cs.len)with
  |none=>rfl
  |some x=>simp only[];rw[nD r _ b s h]
 | .mu ks::r,vs,b,s,h=>by have hw:s9 (.mu ks::r)=(ks.length+1)+s9 r:=rfl;rw[hw]at h;have hb:=h b (Nat.le_refl _) (by omega);simp only[dL];rw[mE _ _ _ (fun i h1 h2=>h i (by omega) (by rw[List.length_take]at h2;omega))];simp only[];rw[eF hb,cO hb,nD r _ _ _ (fun i h1 h2=>h i (by omega) (by omega))]
theorem AN(b:Nat)(sh:Sh)(vs:List (KV real))(s:S)(hl:vs.length<=sh.ks.length)(h:∀i,b<=i->i<b+sh.width->f.F i=true):cN b sh vs (s.mx f)=((cN b sh vs s).1,(cN b sh vs s).2.mx f):=by
 cases sh with
 |one k=>
  match vs with
  | []=>rfl
  | [v]=>simp only[cN];rw[xz _ _ _ (h b (Nat.le_refl _) (by simp[Sh.width]))]
  |_::_::_=>rfl
 |agg ks=>have hl:vs.length<=ks.length:=hl;have hw:(Sh.agg ks).width=ks.length:=rfl;simp only[cN];rw[mE _ _ _ (fun i h1 h2=>h i h1 (by omega))]
 |blk ks=>have hl:vs.length<=ks.length:=hl;have hw:(Sh.blk ks).width=ks.length+1:=rfl;have hb:=h b (Nat.le_refl _) (by omega);simp only[cN];rw[mE _ _ _ (fun i h1 h2=>h i (by omega) (by omega))];simp only[];rw[eF hb,cO hb]
 |ro cs=>simp only[cN];cases jQ (A:=real) cs vs <;> rfl
 |fn _ _=>rfl
 |pL g aM=>have hw:(Sh.pL g aM).width=s9 aM:=rfl;rw[hw]at h;simp only[cN];rw[nD aM vs b s h]
theorem nC:∀(aW:List Sh) (vs:List (KV real)) (b:Nat) (s:S),(∀i,b<=i->i<b+eu aW->f.F i=true)->bE b aW vs (s.mx f)=((bE b aW vs s).1,(bE b aW vs s).2.mx f)
 | [],_,_,_,_=>rfl
 |sh::aW,vs,b,s,h=>by have hw:eu (sh::aW)=sh.width+eu aW:=rfl;simp only[bE];rw[AN _ _ _ _ (by rw[List.length_take];omega) (fun i h1 h2=>h i h1 (by omega))];simp only[];rw[nC aW _ _ _ (fun i h1 h2=>h i (by omega) (by omega))]
theorem ku(deep:Bool):∀(ls:List L) (cs:aK) (x:cs.T) (j:Nat) (s:S),jK f ls->bw (A:=real) deep cs x j ls (s.mx f)=(bw (A:=real) deep cs x j ls s).map fun q=>(q.1,q.2.mx f)
 | [],_,_,_,_,_=>by simp only[bw];rfl
 |l::ls,cs,x,j,s,h=>by
  simp only[bw];cases cellAt (A:=real) cs x j with
  |none=>rfl
  |some q=>
   obtain⟨t,y⟩:=q;simp only[];rw[qn _ _ _ _ h.hd];cases bY (A:=real) deep t l s with
   |none=>rfl
   |some q=>
    simp only[Option.map_some];cases setCell (A:=real) cs x j ⟨t,q.1⟩with
    |none=>rfl
    |some y=>exact ku deep ls cs y (j+1) q.2 h.tl
theorem yT(id h e:Nat)(cs:aK)(x:List cs.T)(p:jR)(i:IV)(off:Nat)(v:List L)(s:S)(hid:f.F id=true)(hv:jK f v):kz (A:=real) (s.mx f) id h e cs x p i off v=(kz (A:=real) s id h e cs x p i off v).map fun q=>q.mx f:=by
 unfold kz;rw[cO hid];cases (p.isEmpty||Nat.beq (s.ob id).h h)with
 |false=>rfl
 |true=>
  simp only[cond_true];cases follow (A:=real) 2 e cs x p with
  |none=>rfl
  |some c=>
   simp only[];rw[ig _ _ _ hv];cases takes ((c.cs.kd.drop off).take v.length) v s with
   |none=>rfl
   |some q=>
    simp only[Option.map_some];cases setRow (A:=real) c.cs (real.get c.x i) off q.1 with
    |none=>rfl
    |some el=>
     simp only[];cases putAt (A:=real) c (real.put c.x i el) e cs x p with
     |none=>rfl
     |some x'=>simp only[];rw[cO hid];cases (q.2.ob id).o <;> first|rfl|(simp only[Option.map_some];rw[dM hid])
theorem yW(p:L)(v:List L)(s:S)(hp:jf f p.bl)(hv:jK f v):hY (s.mx f) p v=(hY s p v).map fun q=>q.mx f:=by
 cases p with
 |ptr id g off=>
  simp only[hY,fZ hp.ptr];cases dA s id g with
  |none=>rfl
  |some cs=>simp only[];split <;> first|rfl|(simp only[Option.map_some];rw[dM hp.ptr])
 |cj id g h p i off=>
  have hid:=hp.cj;have cf:=cO (s:=s) hid;simp only[hY,cf];cases Nat.beq (s.ob id).g g with
  |false=>rfl
  |true=>
   simp only[cond_true];cases (s.ob id).o with
   |arr e cs dp x=>
    cases dp with
    |true=>exact yT id h e cs x p i off v s hid hv
    |false=>
     cases p with
     |cons _ _=>rfl
     |nil=>
      simp only[cond_false];have hst:bw (A:=real) false cs (real.get x i) off v (s.mx f)=(bw (A:=real) false cs (real.get x i) off v s).map fun q=>(q.1,q.2.mx f):=ku false v cs (real.get x i) off s hv;rw[hst];cases bw (A:=real) false cs (real.get x i) off v s with
      |none=>rfl
      |some q=>simp only[Option.map_some];rw[cO hid];cases (q.2.ob id).o <;> first|rfl|(simp only[Option.map_some];rw[dM hid])
   |_=>rfl
 |_=>rfl
def Alike(E:Env)(s:S)(sl:Sl)(o:Oper):Prop:=∀x∈ca o.op,∀t,ev E ⟨sl,s.ob⟩ t x=ev E s t x
end
end Go.R
namespace Go.R
section
variable {E:Env} {Ψ:bV->Option ij}
def Dx(dst:Option Nat)(f:Fr)(s':S):S:=s'.mx ⟨fun i=>match dst with|some d=>bif Nat.beq i d then s'.sl i else f.sl i|none=>f.sl i,f.F,f.t⟩
theorem Cj(dst:Option Nat)(f:Fr)(s:S)(v:cm):Dx dst f (s.ck dst v)=(s.mx f).ck dst v:=by
 cases dst with
 |none=>rfl
 |some d=>unfold Dx St.mx St.ck St.set;congr 1;funext i;cases h:Nat.beq i d <;> simp[h]
theorem aH{α:Type}{x:Option α}{f g:α->Option S}{m:S->S}(h:∀y,f y=(g y).map m):ar (aP S) x f=(ar (aP S) x g).map m:=by
 cases x with
 |none=>rfl
 |some y=>exact h y
theorem ke{α:Type}{x:Option α}{f g:α->Option S}{m:S->S}(h:∀y,x=some y->f y=(g y).map m):ar (aP S) x f=(ar (aP S) x g).map m:=by
 cases x with
 |none=>rfl
 |some y=>exact h y rfl
theorem bc{b:Bool}{x y x' y':Option S}{m:S->S}(hx:x=x'.map m)(hy:y=y'.map m):(bif b then x else y)=(bif b then x' else y').map m:=by
 cases b
 ·exact hy
 ·exact hx
theorem z6{b:Bool}{x y x' y':Option S}{m:S->S}(hx:b=true->x=x'.map m)(hy:y=y'.map m):(bif b then x else y)=(bif b then x' else y').map m:=by
 cases b
 ·exact hy
 ·exact hx rfl
theorem BM(tb:Bool)(op:BinOp)(x y:L)(f g:L->Option S)(m:S->S)(h:∀l,f l=(g l).map m):kU (aP S) tb op x y f=(kU (aP S) tb op x y g).map m:=by have:=py (R:=S) tb op x y f g (fun s=>some (m s)) (fun l=>by rw[h l];cases g l <;> rfl);rw[this];cases kU (aP S) tb op x y g <;> rfl
variable {fr:Fr}
theorem zz.one{v:cm}{vs:List cm}(h:zz fr vs)(hv:v∈vs):jK fr v.gB:=fun l hl id hi=>h v hv id (List.mem_flatMap.2 ⟨l,hl,hi⟩)
theorem rT{v:cm}{s:S}(h:jK fr v.gB):gT (s.mx fr) v=gT s v:=by
 unfold gT;split
 ·rename_i id g hh;rw[cO (h (.ref id g hh []) (by simp[TV.gB])).ref]
 ·rfl
theorem rS{v:cm}{s:S}{i:Nat}(h:jK fr v.gB)(hd:gT s v=some i):fr.F i=true:=by obtain⟨g,hh,rfl,_⟩:=rU hd;exact(h (.ref i g hh []) (by simp[TV.gB])).ref
theorem uq(d:Nat)(b:Builtin)(fG:List Nat)(args:List cm)(s:S)(f g:cm->S->Option S)(m:S->S)(ha:zz fr args)(hp:(match b with| .len| .min| .max=>False|_=>True)->fr.F (aZ d 0 0)=true)(h:∀v s',f v (St.mx s' fr)=(g v s').map m):
  dD E (aP S) d b fG args (s.mx fr) f=(dD E (aP S) d b fG args s g).map m:=by
 unfold dD;split
 ·rename_i x t;rw[iO (ha.one (v:=x) (by simp))];exact bc (aH fun _=>h _ s) (aH fun _=>aH fun _=>h _ s)
 ·exact aH fun _=>aH fun _=>h _ s
 ·exact aH fun _=>aH fun _=>h _ s
 ·rename_i x y t t';have hp:=hp trivial;have hx:=ha.one (v:=x) (by simp);have hy:=ha.one (v:=y) (by simp);rw[iO hx,iO hy];refine aH fun q=>aH fun _=>aH fun cx=>aH fun cy=>bc rfl ?_;cases x with
  |one l=>
   cases l with
   |eU e cs=>
    simp only[];refine bc ?_ ?_
    ·rw[rT hy];cases BV:gT s y with
     |none=>rfl
     |some iR=>
      have FU:=rS hy BV;simp only[];refine bc ?_ rfl;split
      ·rename_i hb;refine bc ?_ rfl;have:=h (.one (.ref (aZ d 0 0) ((((s.bQ iR true .gone).new (aZ d 0 0) (.arr cx.e cx.cs true (real.cat cx.x (real.cast hb cy.x)))).ob (aZ d 0 0)).g) 0 [])) ((s.bQ iR true .gone).new (aZ d 0 0) (.arr cx.e cx.cs true (real.cat cx.x (real.cast hb cy.x))));rw[dM FU,eF hp,cO hp];exact this
      ·rfl
    split
    ·rename_i hb;refine bc ?_ rfl;have:=h (.one (.ref (aZ d 0 0) (((s.new (aZ d 0 0) (.arr cx.e cx.cs false (real.cat cx.x (real.cast hb cy.x)))).ob (aZ d 0 0)).g) 0 [])) (s.new (aZ d 0 0) (.arr cx.e cx.cs false (real.cat cx.x (real.cast hb cy.x))));rw[eF hp,cO hp];exact this
    ·rfl
   |ref id gg hh p=>
    have hid:fr.F id=true:=(hx (.ref id gg hh p) (by simp[TV.gB])).ref;cases p with
    |nil=>
     simp only[];cases cx.md with
     |zero=>rfl
     |succ n=>
      simp only[];refine bc ?_ ?_
      ·rw[dM hid,rT hy];cases BV:gT (s.bQ id true .gone) y with
       |none=>rfl
       |some iR=>
        have FU:=rS hy BV;simp only[];refine bc ?_ rfl;split
        ·rename_i hb;refine bc ?_ rfl;have:=h (.one (.ref (aZ d 0 0) (((((s.bQ id true .gone).bQ iR true .gone).new (aZ d 0 0) (.arr cx.e cx.cs true (real.cat cx.x (real.cast hb cy.x)))).ob (aZ d 0 0)).g) 0 [])) (((s.bQ id true .gone).bQ iR true .gone).new (aZ d 0 0) (.arr cx.e cx.cs true (real.cat cx.x (real.cast hb cy.x))));rw[dM FU,eF hp,cO hp];exact this
        ·rfl
      split
      ·rename_i hb;refine bc ?_ rfl;have:=h (.one (.ref (aZ d 0 0) ((((s.bQ id true .gone).new (aZ d 0 0) (.arr cx.e cx.cs (Nat.beq (n+1) 2) (real.cat cx.x (real.cast hb cy.x)))).ob (aZ d 0 0)).g) 0 [])) ((s.bQ id true .gone).new (aZ d 0 0) (.arr cx.e cx.cs (Nat.beq (n+1) 2) (real.cat cx.x (real.cast hb cy.x))));rw[dM hid,eF hp,cO hp];exact this
      ·rfl
    |cons _ _=>rfl
   |_=>rfl
  |_=>rfl
 ·rfl
theorem iy{α β:Type}{o:Option α}{q:α->β}{f:β->Option S}{g:α->Option S}{m:S->S}(h:∀x,f (q x)=(g x).map m):ar (aP S) (o.map q) f=(ar (aP S) o g).map m:=by
 cases o with
 |none=>rfl
 |some x=>exact h x
theorem Ci{α β:Type}{o:Option α}{q:α->β}{f:β->Option S}{g:α->Option S}{m:S->S}(h:∀x,o=some x->f (q x)=(g x).map m):ar (aP S) (o.map q) f=(ar (aP S) o g).map m:=by
 cases o with
 |none=>rfl
 |some x=>exact h x rfl
theorem AV(t:Ty)(l:L)(s:S)(h:jf fr l.bl):mH (A:=real) t l (s.mx fr)=mH t l s:=by
 cases l with
 |ref id g hh p=>simp only[mH];rw[gG h.ref]
 |_=>rfl
theorem yz(s0 s:S)(k:K)(l:L)(h:jf fr l.bl):ju k l (s0.mx fr) (s.mx fr)=ju k l s0 s:=by
 cases k with
 |val t=>simp only[ju];rw[AV _ _ _ h]
 |arr e cs d=>simp only[ju];rw[sX _ _ _ _ _ h];cases eJ (A:=real) e cs d l s0 <;> rfl
 |mp _=>rfl
theorem mJ(s0 s:S):∀(ks:List K) (ls:List L),jK fr ls->looks ks ls (s0.mx fr) (s.mx fr)=looks ks ls s0 s
 | [],[],_=>rfl
 | [],_::_,_=>rfl
 |_::_,[],_=>rfl
 |k::ks,l::ls,h=>by simp only[looks];rw[mJ s0 s ks ls h.tl,yz _ _ _ _ h.hd]
theorem lO(s:S)(cs:aK)(c:df real)(h:jf fr c.bl)(hb:iG s fr c.bl):fV cs c (s.mx fr)=fV cs c s:=by
 cases c with
 |ro _ _=>rfl
 |ptr id g=>
  have hid:fr.F id=true:=h id (by simp[df.bl]);simp only[fV,fZ hid];cases hls:dA s id g with
  |none=>rfl
  |some ls=>exact mJ s s _ _ (hb id (by simp[df.bl]) ls (cZ hls).2)
theorem oo(s:S):∀(nc:List aK) (cc:List (df real)),jf fr (cc.flatMap df.bl)->iG s fr (cc.flatMap df.bl)->gh nc cc (s.mx fr)=gh nc cc s
 | [],[],_,_=>rfl
 | [],_::_,_,_=>rfl
 |_::_,[],_,_=>rfl
 |cs::nc,c::cc,h,hb=>by rw[List.flatMap_cons]at h hb;simp only[gh];rw[lO _ _ _ h.iB.1 hb.iB.1,oo s nc cc h.iB.2 hb.iB.2]
theorem yA(s0 s:S)(sh:Sh)(v:cm)(h:jf fr v.bl)(hb:iG s fr v.bl):iC sh v (s0.mx fr) (s.mx fr)=iC sh v s0 s:=by
 unfold iC;split
 ·exact lO _ _ _ (by simpa[TV.bl,TV.gB,Lf.bl,df.bl] using h) (by simpa[TV.bl,TV.gB,Lf.bl,df.bl] using hb)
 ·exact lO _ _ _ (by simp[df.bl,jf]) (by simp[df.bl,iG])
 ·rw[oo _ _ _ (by simpa[TV.bl,TV.gB,Lf.bl] using h) (by simpa[TV.bl,TV.gB,Lf.bl] using hb)]
 ·exact mJ _ _ _ _ (fun l hl=>by rw[List.mem_singleton]at hl;subst hl;simpa[TV.bl,TV.gB] using h)
 ·rename_i ks ls;exact mJ _ _ _ _ (fun l hl id hi=>h id (List.mem_flatMap.2 ⟨l,hl,hi⟩))
 ·rfl
theorem p9(s0 s:S):∀(aW:List Sh) (vs:List cm),zz fr vs->BH s fr vs->dQ aW vs (s0.mx fr) (s.mx fr)=dQ aW vs s0 s
 | [],[],_,_=>rfl
 | [],_::_,_,_=>rfl
 |_::_,[],_,_=>rfl
 |sh::aW,v::vs,h,hb=>by simp only[dQ];rw[yA _ _ _ _ (h v (by simp)) (hb v (by simp)),p9 s0 s aW vs (fun v hv=>h v (by simp[hv])) (fun v hv=>hb v (by simp[hv]))]
theorem AQ(k:K)(l:L)(s:S)(h:jf fr l.bl):j9 k l (s.mx fr)=(j9 k l s).map fun q=>q.mx fr:=by
 cases k with
 |val t=>rfl
 |arr e cs d=>
  simp only[j9];cases Nat.ble 1 cs.len with
  |false=>rfl
  |true=>simp only[cond_true];rw[sX _ _ _ _ _ h];cases eJ (A:=real) e cs d l s <;> rfl
 |mp _=>rfl
theorem wD{k:K}{l:L}{s s1:S}(h:j9 k l s=some s1):dy s s1:=by
 cases k with
 |val t=>injection h with h;subst h;exact .refl _
 |arr e cs d=>
  simp only[j9]at h;cases hf:Nat.ble 1 cs.len with
  |false=>rw[hf]at h;cases h
  |true=>
   rw[hf]at h;simp only[cond_true]at h;cases ha:eJ (A:=real) e cs d l s with
   |none=>rw[ha]at h;cases h
   |some q=>rw[ha]at h;injection h with h;subst h;exact rM ha
 |mp _=>cases h
theorem p5:∀ {ks:List K} {ls:List L} {s s1:S},jI ks ls s=some s1->dy s s1
 | [],[],s,s1,h=>by injection h with h;subst h;exact .refl _
 | [],_::_,_,_,h=>by cases h
 |_::_,[],_,_,h=>by cases h
 |k::ks,l::ls,s,s1,h=>by
  simp only[jI]at h;cases h1:j9 k l s with
  |none=>rw[h1]at h;cases h
  |some s2=>rw[h1]at h;exact(wD h1).trans (p5 h)
theorem uV:∀(ks:List K) (ls:List L) (s:S),jK fr ls->jI ks ls (s.mx fr)=(jI ks ls s).map fun q=>q.mx fr
 | [],[],_,_=>rfl
 | [],_::_,_,_=>rfl
 |_::_,[],_,_=>rfl
 |k::ks,l::ls,s,h=>by
  simp only[jI];rw[AQ _ _ _ h.hd];cases j9 k l s with
  |none=>rfl
  |some s1=>exact uV ks ls s1 h.tl
theorem zP:∀(ks:List K) (ls:List L) (vs:List (KV real)) (s:S),jK fr ls->iJ ks ls vs (s.mx fr)=(iJ ks ls vs s).map fun q=>q.mx fr:=by
 intro ks;induction ks with
 |nil=>intro ls vs s _;cases ls <;> cases vs <;> rfl
 |cons k ks ih=>
  intro ls vs s h;cases ls with
  |nil=>cases k <;> cases vs <;> rfl
  |cons l ls=>
   cases k with
   |val t=>simp only[iJ];exact ih ls vs s h.tl
   |mp _=>cases l <;> cases vs <;> rfl
   |arr e cs d=>
    cases vs with
    |nil=>cases l with
     |ref id g h p=>cases p <;> rfl
     |_=>rfl
    |cons v vs=>
     cases l with
     |eU _ _=>simp only[iJ];exact ih ls vs s h.tl
     |ref id g hh p=>
      cases p with
      |cons _ _=>rfl
      |nil=>
       obtain⟨kk,x⟩:=v;cases kk with
       |val _=>rfl
       |mp _=>rfl
       |arr e' cs' d'=>simp only[iJ];rw[dM h.hd.ref];exact ih ls vs (s.bQ id true (.arr e' cs' d' x)) h.tl
     |_=>rfl
theorem zO:∀(gH:List (List K)) (ls:List L) (vs:List (KV real)) (s:S),jK fr ls->(∀l∈ls,∀id g off,l=.ptr id g off->∀i,bC id<=i->i<bC id+64->fr.F i=true)->ir gH ls vs (s.mx fr)=(ir gH ls vs s).map fun q=>q.mx fr:=by
 intro gH;induction gH with
 |nil=>intro ls vs s _ _;cases ls <;> cases vs <;> rfl
 |cons ks gH ih=>
  intro ls vs s h hc;cases ls with
  |nil=>rfl
  |cons l ls=>
   cases l with
   |ptr id g off=>
    cases off with
    |zero=>
     simp only[ir];cases hb:(Nat.ble (id+1) c7&&(Nat.ble ks.length 64&&Nat.ble ks.length vs.length))with
     |false=>rfl
     |true=>simp only[cond_true];rw[Bool.and_eq_true,Bool.and_eq_true]at hb;have Hp:=Nat.le_of_ble_eq_true hb.2.1;rw[mE _ _ _ (fun i h1 h2=>hc (.ptr id g 0) (by simp) id g 0 rfl i h1 (by rw[List.length_take]at h2;omega))];simp only[];rw[dM h.hd.ptr];exact ih ls _ ((eE (bC id) (vs.take ks.length) s).2.bQ id true (.blk (eE (bC id) (vs.take ks.length) s).1)) h.tl (fun l hl=>hc l (by simp[hl]))
    |succ _=>rfl
   |_=>rfl
theorem zX(sh:Sh)(v:cm)(h:jf fr v.bl):jK fr (sh.cells v):=by
 intro l hl;have dead:∀ks:List K,l∈(ks.map fun _=>(Lf.dead:L))->jf fr l.bl:=by intro ks hl;obtain⟨_,_,rfl⟩:=List.mem_map.1 hl;intro id hi;cases hi
 cases sh with
 |one k=>
  cases v with
  |one l'=>simp only[Sh.cells,List.mem_singleton]at hl;subst hl;simpa[TV.bl,TV.gB] using h
  |_=>simp only[Sh.cells,List.mem_singleton]at hl;subst hl;intro id hi;cases hi
 |agg ks=>
  cases v with
  |agg ls=>
   simp only[Sh.cells]at hl;cases hb:Nat.beq ls.length ks.length with
   |true=>rw[hb]at hl;exact fun id hi=>h id (List.mem_flatMap.2 ⟨l,hl,hi⟩)
   |false=>rw[hb]at hl;exact dead ks hl
  |_=>exact dead ks hl
 |_=>cases hl
theorem j3:∀(aW:List Sh) (vs:List cm),zz fr vs->jK fr (bH aW vs)
 | [],_,_=>fun l hl=>by simp[bH]at hl
 |_::_,[],_=>fun l hl=>by simp[bH]at hl
 |sh::aW,v::vs,h=>fun l hl=>by
  simp only[bH,List.mem_append]at hl;rcases hl with hl|hl
  ·exact zX sh v (h v (by simp)) l hl
  ·exact j3 aW vs (fun v hv=>h v (by simp[hv])) l hl
theorem jo:∀(aM:List Cp) (cc:List (df real)) (l:L),l∈ri aM cc->l=.dead\/∃id g,l=.ptr id g 0/\df.ptr id g∈cc
 | [],_,l,h=>by simp[ri]at h
 | .ro _::r,[],l,h=>jo r [] l (by simpa[ri] using h)
 | .mu _::r,[],l,h=>by
  simp only[ri,List.mem_cons]at h;rcases h with rfl|h
  ·exact .inl rfl
  ·exact jo r [] l h
 | .ro _::r,_::cc,l,h=>(jo r cc l (by simpa[ri] using h)).imp id fun⟨id,g,h1,h2⟩=>⟨id,g,h1,List.mem_cons_of_mem _ h2⟩
 | .mu _::r,.ptr id g::cc,l,h=>by
  simp only[ri,List.mem_cons]at h;rcases h with rfl|h
  ·exact .inr ⟨id,g,rfl,by simp⟩
  ·exact(jo r cc l h).imp (fun q=>q) fun⟨id,g,h1,h2⟩=>⟨id,g,h1,List.mem_cons_of_mem _ h2⟩
 | .mu _::r,.ro _ _::cc,l,h=>by
  simp only[ri,List.mem_cons]at h;rcases h with rfl|h
  ·exact .inl rfl
  ·exact(jo r cc l h).imp (fun q=>q) fun⟨id,g,h1,h2⟩=>⟨id,g,h1,List.mem_cons_of_mem _ h2⟩
theorem xf(sh:Sh)(v:cm)(l:L)(h:l∈sh.CW v):l=.dead\/v=.one l\/∃f cc id g,v=.one (.fn f cc)/\l=.ptr id g 0/\df.ptr id g∈cc:=by
 unfold Sh.CW at h;split at h
 ·simp only[List.mem_singleton]at h;subst h;exact .inr (.inl rfl)
 ·simp only[List.mem_singleton]at h;exact .inl h
 ·rename_i f cc;rcases jo _ _ _ h with h|⟨id,g,h1,h2⟩
  ·exact .inl h
  ·exact .inr (.inr ⟨f,cc,id,g,rfl,h1,h2⟩)
 ·rcases jo _ _ _ h with h|⟨id,g,h1,h2⟩
  ·exact .inl h
  ·cases h2
 ·cases h
theorem ug:∀(aW:List Sh) (vs:List cm),zz fr vs->jK fr (ct aW vs)
 | [],_,_=>fun l hl=>by simp[ct]at hl
 |_::_,[],_=>fun l hl=>by simp[ct]at hl
 |sh::aW,v::vs,h=>fun l hl=>by
  simp only[ct,List.mem_append]at hl;rcases hl with hl|hl
  ·have hv:=h v (by simp);rcases xf sh v l hl with rfl|rfl|⟨f,cc,id,g,rfl,rfl,hc⟩
   ·intro id hi;cases hi
   ·simpa[TV.bl,TV.gB] using hv
   ·intro i hi;simp only[Lf.bl,List.mem_singleton]at hi;subst hi;refine hv i ?_;simp only[TV.bl,TV.gB,List.flatMap_cons,List.flatMap_nil,List.append_nil,Lf.bl];exact List.mem_flatMap.2 ⟨_,hc,by simp[df.bl]⟩
  ·exact ug aW vs (fun v hv=>h v (by simp[hv])) l hl
theorem rI:∀(aW:List Sh) (vs:List cm) (id g off:Nat),(Lf.ptr id g off:L)∈ct aW vs->TV.one (.ptr id g off)∈vs\/∃f cc,TV.one (.fn f cc)∈vs/\df.ptr id g∈cc
 | [],_,_,_,_,h=>by simp[ct]at h
 |_::_,[],_,_,_,h=>by simp[ct]at h
 |sh::aW,v::vs,id,g,off,h=>by
  simp only[ct,List.mem_append]at h;rcases h with h|h
  ·rcases xf sh v _ h with h|rfl|⟨f,cc,id',g',rfl,h1,hc⟩
   ·cases h
   ·exact .inl (by simp)
   ·injection h1 with e1 e2 _
    subst e1;subst e2;exact .inr ⟨f,cc,by simp,hc⟩
  ·exact(rI aW vs id g off h).imp (fun q=>List.mem_cons_of_mem _ q) fun⟨f,cc,q1,q2⟩=>⟨f,cc,List.mem_cons_of_mem _ q1,q2⟩
theorem ur (F:ij) (d:Nat) (args:List cm) (s:S) (f g:cm->S->Option S) (m:S->S) (ha:zz fr args) (hb:BH s fr args) (hw:eu F.aT<=2047) (hp:∀i,aZ d 0 0<=i->i<aZ d 0 0+2048->fr.F i=true)
  (h:∀v s',f v (St.mx s' fr)=(g v s').map m):jG (aP S) (F.callee S) d args (s.mx fr) f=(jG (aP S) (F.callee S) d args s g).map m:=by
 unfold jG;have h1:oO (F.callee S).args args (s.mx fr)=(oO (F.callee S).args args s).map fun q=>q.mx fr:=uV _ _ _ (j3 _ _ ha);rw[h1];cases hl:oO (F.callee S).args args s with
 |none=>rfl
 |some s1=>
  simp only[Option.map_some,ar];have h2:dQ (F.callee S).args args (s.mx fr) (s1.mx fr)=dQ (F.callee S).args args s s1:=p9 _ _ _ _ ha (fun v hv=>(hb v hv).Cr (p5 hl));rw[h2];refine aH (x:=dQ (F.callee S).args args s s1) fun vs=>aH fun x=>?_;show(F.fn x).bind _=((F.fn x).bind _).map m;cases F.fn x with
  |none=>rfl
  |some y=>have h3:∀vs,jh (F.callee S).args args vs (s1.mx fr)=(jh (F.callee S).args args vs s1).map fun q=>q.mx fr:=fun vs=>zP _ _ _ _ (j3 _ _ ha);show ar (aP S) (jh (F.callee S).args args _ (s1.mx fr)) _=(ar (aP S) (jh (F.callee S).args args _ s1) _).map m;rw[h3];refine iy fun s2=>?_;rw[nC _ _ _ _ (fun i h1 h2=>hp i h1 (by have h2:i<aZ d 0 0+eu F.aT:=h2;omega))];exact h _ _
theorem yN{nb id g hh:Nat}{p:jR}{s:S}(hn:fr.F nb=true)(hi:fr.F id=true):iE (A:=real) nb id g hh p (s.mx fr)=(iE (A:=real) nb id g hh p s).map fun q=>(q.1,q.2.1.mx fr,q.2.2):=by
 unfold iE;rw[gG hi,cO hi];cases s.cont id g hh p with
 |none=>rfl
 |some c=>
  simp only[];split
  ·cases Nat.beq id nb with
   |true=>rfl
   |false=>simp only[cond_false,Option.map_some];rw[dM hi,eF hn,cO hn]
  ·rfl
theorem nP{nb id g hh:Nat}{p:jR}{s:S}{r:cm×S×sQ real}(h:iE (A:=real) nb id g hh p s=some r):
  ∃c e cs x,s.cont id g hh p=some c/\(s.ob id).o=.arr e cs true x/\id≠nb/\r=(.one (.ref nb (((s.bQ id true .gone).new nb (.arr c.e c.cs true c.x)).ob nb).g 0 []),(s.bQ id true .gone).new nb (.arr c.e c.cs true c.x),⟨nb,(((s.bQ id true .gone).new nb (.arr c.e c.cs true c.x)).ob nb).g,id,g,e,cs,x,c,p⟩):=by
 unfold iE at h;cases hc:s.cont id g hh p with
 |none=>rw[hc]at h;cases h
 |some c=>
  rw[hc]at h;simp only at h;split at h
  ·rename_i e cs x ho;cases hb:Nat.beq id nb with
   |true=>rw[hb]at h;cases h
   |false=>
    rw[hb]at h;injection h with h
    exact⟨c,e,cs,x,rfl,ho,fun e'=>(by rw[e',Nat.beq_refl]at hb;cases hb),h.symm⟩
  ·cases h
theorem yO{nb:Nat}(hn:fr.F nb=true):∀(aW:List Sh) (vs:List cm) (s:S),zz fr vs->dW nb aW vs (s.mx fr)=(dW nb aW vs s).map fun q=>(q.1,q.2.1.mx fr,q.2.2):=by
 intro aW;induction aW with
 |nil=>intro vs s _;cases vs <;> rfl
 |cons sh aW ih=>
  intro vs s h;cases vs with
  |nil=>cases sh with
   |one k=>cases k <;> rfl
   |_=>rfl
  |cons v vs=>
   have hr:=ih vs s (fun v hv=>h v (by simp[hv]));have other:(dW nb aW vs (s.mx fr)).map (fun r=>(v::r.1,r.2))=((dW nb aW vs s).map fun r=>(v::r.1,r.2)).map fun q=>(q.1,q.2.1.mx fr,q.2.2):=by rw[hr];cases dW nb aW vs s <;> rfl
   cases sh with
   |one k=>
    cases k with
    |val _=>cases v <;> exact other
    |mp _=>cases v <;> exact other
    |arr e cs d=>
     cases v with
     |one l=>
      cases l with
      |ref id g hh p=>
       cases p with
       |nil=>exact other
       |cons st p=>
        have hi:fr.F id=true:=by have:=h (.one (.ref id g hh (st::p))) (by simp);exact this id (by simp[TV.bl,TV.gB,Lf.bl])
        simp only[dW];rw[yN hn hi];cases iE (A:=real) nb id g hh (st::p) s <;> rfl
      |_=>exact other
     |_=>exact other
   |_=>cases v <;> exact other
theorem nQ{nb:Nat}:∀ {aW:List Sh} {vs:List cm} {s:S} {r:List cm×S×sQ real},dW nb aW vs s=some r ->
  ∃(i id g hh:Nat) (p:jR) (r1:cm×S×sQ real),vs[i]? = some (.one (.ref id g hh p))/\p≠[]/\iE (A:=real) nb id g hh p s=some r1/\r=(vs.set i r1.1,r1.2):=by
 intro aW;induction aW with
 |nil=>intro vs s r h;cases vs <;> cases h
 |cons sh aW ih=>
  intro vs s r h;cases vs with
  |nil=>cases sh with
   |one k=>cases k <;> cases h
   |_=>cases h
  |cons v vs=>
   have other:(dW nb aW vs s).map (fun r=>(v::r.1,r.2))=some r->∃(i id g hh:Nat) (p:jR) (r1:cm×S×sQ real),(v::vs)[i]? = some (.one (.ref id g hh p))/\p≠[]/\iE (A:=real) nb id g hh p s=some r1/\r=((v::vs).set i r1.1,r1.2):=by
    intro h;cases hs:dW nb aW vs s with
    |none=>rw[hs]at h;cases h
    |some q=>rw[hs]at h;have h:=Option.some.inj h;obtain⟨i,id,g,hh,p,r1,q1,q2,q3,q4⟩:=ih hs;refine⟨i+1,id,g,hh,p,r1,by simpa using q1,q2,q3,?_⟩;rw[<-h,q4];rfl
   cases sh with
   |one k=>
    cases k with
    |val _=>cases v <;> exact other h
    |mp _=>cases v <;> exact other h
    |arr e cs d=>
     cases v with
     |one l=>
      cases l with
      |ref id g hh p=>
       cases p with
       |nil=>exact other h
       |cons st p=>
        simp only[dW]at h;cases hs:iE (A:=real) nb id g hh (st::p) s with
        |none=>rw[hs]at h;cases h
        |some q=>rw[hs]at h;have h:=Option.some.inj h;exact⟨0,id,g,hh,st::p,q,rfl,by simp,hs,h.symm⟩
      |_=>exact other h
     |_=>exact other h
   |_=>cases v <;> exact other h
theorem yC{q:sQ real}{s:S}(hn:fr.F q.nb=true)(hi:fr.F q.id=true):jw (A:=real) q (s.mx fr)=(jw (A:=real) q s).map fun s=>s.mx fr:=by
 unfold jw;rw[cO hn,cO hi];split
 ·rename_i e cs dp y ho;cases ((Nat.beq (s.ob q.id).g q.g&&Nat.beq (s.ob q.nb).g q.gn)&&(Nat.ble 1 q.g&&(dp||cs.plain)))with
  |false=>rfl
  |true=>
   simp only[cond_true];split
   ·rename_i hc;cases putAt (A:=real) q.c (real.cast hc y) q.e q.cs q.x q.path with
    |none=>rfl
    |some x'=>simp only[Option.map_some];rw[dM hn,dM hi]
   ·rfl
 ·rfl
theorem zU (F:ij) (d:Nat) (args:List cm) (s:S) (f g:cm->S->Option S) (m:S->S) (ha:zz fr args) (hb:BH s fr args) (hp:∀i,aZ d 0 0<=i->i<aZ d 0 0+2048->fr.F i=true)
  (hc:∀id g off,TV.one (.ptr id g off)∈args\/(∃f cc,TV.one (.fn f cc)∈args/\df.ptr id g∈cc)->∀i,bC id<=i->i<bC id+64->fr.F i=true) (h:∀v s',f v (St.mx s' fr)=(g v s').map m):
  mj (aP S) (F.callee S) d args (s.mx fr) f=(mj (aP S) (F.callee S) d args s g).map m:=by
 unfold mj;refine z6 (fun hok=>?_) rfl;have hw:eu F.aT<=2047:=by unfold oJ at hok;rw[Bool.and_eq_true]at hok;exact Nat.le_of_ble_eq_true hok.1
 refine bc ?_ (bc ?_ rfl)
 ·have hnb:fr.F (aZ d 0 0+2047)=true:=hp _ (by omega) (by omega);rw[yO hnb _ _ _ ha];cases hsp:dW (aZ d 0 0+2047) (F.callee S).args args s with
  |none=>exact ur F d args s f g m ha hb hw hp h
  |some r=>
   obtain⟨i,id,gg,hh,p,r1,q1,q2,q3,q4⟩:=nQ hsp;obtain⟨c,e,cs,x,p1,p2,p3,p4⟩:=nP q3;subst p4;subst q4;have hid:fr.F id=true:=ha _ (List.mem_of_getElem? q1) id (by simp[TV.bl,TV.gB,Lf.bl]);have hmem:∀v∈args.set i (TV.one (.ref (aZ d 0 0+2047) (((s.bQ id true .gone).new (aZ d 0 0+2047) (.arr c.e c.cs true c.x)).ob (aZ d 0 0+2047)).g 0 [])),v=TV.one (.ref (aZ d 0 0+2047) (((s.bQ id true .gone).new (aZ d 0 0+2047) (.arr c.e c.cs true c.x)).ob (aZ d 0 0+2047)).g 0 [])\/v∈args:=fun v hv=>by
    rcases List.mem_or_eq_of_mem_set hv with hv|hv
    ·exact .inr hv
    ·exact .inl hv
   refine ur F d _ _ _ _ m (fun v hv=>?_) (fun v hv=>?_) hw hp (fun v s'=>?_)
   ·rcases hmem v hv with rfl|hv
    ·intro j hj;simp only[TV.bl,TV.gB,Lf.bl,List.flatMap_cons,List.flatMap_nil,List.append_nil,List.mem_singleton]at hj;subst hj;exact hnb
    ·exact ha v hv
   ·intro j hj ls hls;have hne:j≠aZ d 0 0+2047:=fun e=>by subst e;unfold St.new at hls;rw[St.aY]at hls;cases hls
    unfold St.new at hls;rw[St.bD _ _ hne]at hls;have Df:j≠id:=fun e=>by subst e;rw[St.aV]at hls;cases hls
    rw[St.bz _ _ _ Df]at hls;rcases hmem v hv with rfl|hv
    ·simp only[TV.bl,TV.gB,Lf.bl,List.flatMap_cons,List.flatMap_nil,List.append_nil,List.mem_singleton]at hj;exact absurd hj hne
    ·exact hb v hv j hj ls hls
   ·simp only[];rw[yC hnb hid];exact iy fun s3=>h v s3
 ·rw[qM _ _ _ ha hb];cases bO (F.callee S).args args s with
  |none=>rfl
  |some q=>
   simp only[Option.map_some,ar];refine aH (x:=kE _ q.1) fun x=>?_;show(F.fn x).bind _=((F.fn x).bind _).map m;cases F.fn x with
   |none=>rfl
   |some y=>show ar (aP S) (ir (eI (F.callee S).args) (ct (F.callee S).args args) _ (q.2.mx fr)) _=(ar (aP S) (ir (eI (F.callee S).args) (ct (F.callee S).args args) _ q.2) _).map m;rw[zO _ _ _ _ (ug _ _ ha) (fun l hl id g off e=>by subst e;exact hc id g off (rI _ _ _ _ _ hl))];refine iy fun s2=>?_;rw[nC _ _ _ _ (fun i h1 h2=>hp i h1 (by have h2:i<aZ d 0 0+eu F.aT:=h2;omega))];exact h _ _
theorem iA(d:Nat)(s:S)(x:cm)(c:Cont real)(b:Bool)(l hi:IV)(f g:cm->S->Option S)(m:S->S)(hx:jK fr x.gB)(hp:fr.F (aZ d 0 0)=true)(h:∀v s',f v (St.mx s' fr)=(g v s').map m):eY E (aP S) d (s.mx fr) x c b l hi f=(eY E (aP S) d s x c b l hi g).map m:=by
 unfold eY;cases x with
 |one q=>
  cases q with
  |ref id gg hh p=>
   have hid:fr.F id=true:=(hx (.ref id gg hh p) (by simp[TV.gB])).ref;cases p with
   |nil=>
    simp only[];refine bc (h _ s) (bc (bc rfl ?_) ?_)
    ·have:=h (.one (.ref (aZ d 0 0) ((((s.bQ id true .gone).new (aZ d 0 0) (.arr c.e c.cs (Nat.beq c.md 2) (real.sub c.x l hi))).ob (aZ d 0 0)).g) 0 [])) ((s.bQ id true .gone).new (aZ d 0 0) (.arr c.e c.cs (Nat.beq c.md 2) (real.sub c.x l hi)));rw[dM hid,eF hp,cO hp];exact this
    ·rw[dM hid];exact h _ _
   |cons _ _=>rfl
  |_=>exact h _ s
 |_=>exact h _ s
end
end Go.R
namespace Go.R
section
variable {E:Env} {Ψ:bV->Option ij} {fr:Fr}
theorem Dz(o:Oper)(s:S)(v:cm):(some ((s.mx fr).ck o.dst v):Option S)=(some (s.ck o.dst v)).map (Dx o.dst fr):=by rw[Option.map_some,Cj]
theorem yM(d t:Nat)(s:S)(x:cm)(lo hi mx:Option Operand)(f g:cm->S->Option S)(m:S->S)(hx:jK fr x.gB)(hp:fr.F (aZ d 0 0)=true)(h:∀v s',f v (St.mx s' fr)=(g v s').map m)(hlo:∀o,lo=some o->ev E (s.mx fr) 0 o=ev E s 0 o)(hhi:∀o,hi=some o->ev E (s.mx fr) 0 o=ev E s 0 o):
  jy E (aP S) d t (s.mx fr) x lo hi mx f=(jy E (aP S) d t s x lo hi mx g).map m:=by
 unfold jy;refine aH fun q=>?_;rw[iO hx];refine aH fun c=>bc (bc (h _ s) ?_) rfl;cases mx with
 |some _=>rfl
 |none=>
  have e1:∀o,lo=some o->mC (ev E (s.mx fr) 0 o)=mC (ev E s 0 o):=fun o ho=>by rw[hlo o ho]
  have e2:∀o,hi=some o->mC (ev E (s.mx fr) 0 o)=mC (ev E s 0 o):=fun o ho=>by rw[hhi o ho]
  cases lo with
  |none=>
   cases hi with
   |none=>exact aH fun l=>aH fun hh=>bc (iA _ _ _ _ _ _ _ _ _ _ hx hp h) rfl
   |some b=>simp only[e2 b rfl];exact aH fun l=>aH fun hh=>bc (iA _ _ _ _ _ _ _ _ _ _ hx hp h) rfl
  |some a=>
   cases hi with
   |none=>simp only[e1 a rfl];exact aH fun l=>aH fun hh=>bc (iA _ _ _ _ _ _ _ _ _ _ hx hp h) rfl
   |some b=>simp only[e1 a rfl,e2 b rfl];exact aH fun l=>aH fun hh=>bc (iA _ _ _ _ _ _ _ _ _ _ hx hp h) rfl
theorem sk(s0:S)(e:Nat)(cs:aK):∀(os:List Operand) (x:real.V (.sl e cs)) (s:S),(∀o∈os,(∀t,ev E (s0.mx fr) t o=ev E s0 t o)/\∀t,jK fr (ev E s0 t o).gB)->gv E (s0.mx fr) e cs os x (s.mx fr)=(gv E s0 e cs os x s).map fun q=>(q.1,q.2.mx fr)
 | [],x,s,_=>by simp only[gv];rfl
 |o::os,x,s,h=>by
  simp only[gv];rw[(h o (by simp)).1 0,iM ((h o (by simp)).2 0)];cases hc:cells? s0 (ev E s0 0 o)with
  |none=>rfl
  |some ls=>
   simp only[];have hl:jK fr ls:=by rw[jk hc];exact(h o (by simp)).2 0
   rw[qp _ _ _ _ hl];cases eV (A:=real) false cs ls s with
   |none=>rfl
   |some q=>simp only[Option.map_some];exact sk s0 e cs os _ q.2 fun o' cU=>h o' (by simp[cU])
theorem p7(s0:S)(n:Nat):∀(os:List Operand),(∀o∈os,(∀t,ev E (s0.mx fr) t o=ev E s0 t o)/\∀t,jK fr (ev E s0 t o).gB)->fD E (s0.mx fr) n os=fD E s0 n os
 | [],_=>rfl
 |o::os,h=>by simp only[fD];rw[(h o (by simp)).1 0,iM ((h o (by simp)).2 0),p7 s0 n os fun o' cU=>h o' (by simp[cU])]
theorem p6(s0:S)(n:Nat):∀(os:List Operand) (lss:List (List L)),(∀o∈os,∀t,jK fr (ev E s0 t o).gB)->fD E s0 n os=some lss->jK fr lss.flatten
 | [],lss,_,h=>by have h:=Option.some.inj h;subst h;exact fun l hl=>by simp at hl
 |o::os,lss,h,hl=>by
  simp only[fD]at hl;cases hc:cells? s0 (ev E s0 0 o)with
  |none=>rw[hc]at hl;cases hl
  |some ls=>
   cases hr:fD E s0 n os with
   |none=>rw[hc,hr]at hl;cases hl
   |some r=>
    rw[hc,hr]at hl;simp only at hl;cases hb:Nat.beq ls.length n with
    |false=>rw[hb]at hl;cases hl
    |true=>
     rw[hb]at hl;have hl:=Option.some.inj hl;subst hl;intro l hm;rcases List.mem_append.1 hm with hm|hm
     ·rw[jk hc]at hm;exact h o (by simp) 0 l hm
     ·exact p6 s0 n os r (fun o' cU=>h o' (by simp[cU])) hr l hm
theorem my(fQ:List (Nat × Nat × Bool)){s:S}:∀(ps:List (Nat × Operand)) (cs:List L), (∀x ∈ ps.map (·.2), (∀t, ev E (s.mx fr) t x = ev E s t x) /\ ∀t, jK fr (ev E s t x).gB) -> fP fQ E (s.mx fr) ps cs = fP fQ E s ps cs
  | [], _, _=>rfl
  |(i, x):: r, cs, h=>by
    have hx:=h x (by simp);simp only[fP];cases fQ[i]? with
    |none=>rfl
    |some q=>
      simp only[];rw[hx.1 0, iM (hx.2 0)];cases cells? s (ev E s 0 x)with
      |none=>rfl
      |some v=>simp only[];rw[my fQ r _ (fun y hy=>h y (by simp only[List.map_cons, List.mem_cons]; exact .inr hy))]
theorem vV{s1 s2:S}(cs:List Operand)(h:∀x∈cs,∀t,ev E s2 t x=ev E s1 t x):(cs.mapM fun c=>uy (ev E s2 0 c))=cs.mapM fun c=>uy (ev E s1 0 c):=by
 induction cs with
 |nil=>rfl
 |cons c cs ih=>simp only[List.mapM_cons];rw[h c (by simp) 0,ih (fun x hx=>h x (by simp[hx]))]
theorem oL{s:S}(t:Nat)(x:Operand):(ev E s t x).bl=mN s x:=by
 cases x with
 |tmp j=>rfl
 |const v=>
  show(gF (A:=real) E t v).bl=[]
  unfold gF;split <;> first|rfl|(split <;> rfl)
 |func f=>rfl
 | «global» g=>rfl
theorem Dq{v:cm}(h:jf fr v.bl):jK fr v.gB:=fun l hl id hi=>h id (List.mem_flatMap.2 ⟨l,hl,hi⟩)
structure zy (E:Env) (s:S) (fr:Fr) (o:Oper):Prop where
 ev:∀x∈ca o.op,∀t,ev E (s.mx fr) t x=Go.R.ev E s t x
 ids:wv o.op=false->∀x∈ca o.op,jf fr (mN s x)/\iG s fr (mN s x)
 Gm:makes o.op=true->∀i,aZ (o.dst.getD 0) 0 0<=i->i<aZ (o.dst.getD 0) 0 0+2048->fr.F i=true
 cells:mX s o=true->∀i,c7<=i->fr.F i=true
theorem xL{o:Oper}{s:S}(h:zy E s fr o):step1 E Ψ o (s.mx fr) = (step1 E Ψ o s).map (Dx o.dst fr):=by
  have he:=h.ev;have hi:wv o.op = false -> ∀x ∈ ca o.op, ∀t, jK fr (ev E s t x).gB:=fun hc x hx t=>Dq (by rw[oL]; exact(h.ids hc x hx).1);have F1:=h.Gm;have pt:=fun(s:S) (v:cm)=>Dz (fr:=fr) o s v;have nw:makes o.op = true -> fr.F (aZ (o.dst.getD 0) 0 0) = true:=fun hm=>F1 hm _ (Nat.le_refl _) (by omega);unfold step1 bp;cases ho:o.op with
  |move x=>rw[ho]at he; simp only[]; rw[he x (by simp[ca])]; exact pt s _
  |assign x=>rw[ho]at he; simp only[]; rw[he x (by simp[ca])]; exact pt s _
  |pick c a b=>rw[ho]at he;simp only[];rw[he c (by simp[ca]), he a (by simp[ca]), he b (by simp[ca])];exact aH fun c=>bc (pt s _) (pt s _)
  |build t ps=>rw[ho]at he hi;refine aH fun i=>bc ?_ rfl;rw[my _ _ _ fun x hx=>⟨he x hx, hi rfl x hx⟩];exact aH fun cs=>pt s _
  |load t p=>
    rw[ho]at he hi;simp only[];rw[he p (by simp[ca])];refine aH fun i=>?_;have hp:=hi rfl p (by simp[ca]) 0;cases hq:Go.R.ev E s 0 p with
    |one l=>rw[hq]at hp; simp only[]; rw[AU (hp l (by simp[TV.gB]))]; exact aH fun v=>pt s _
    |_=>rfl
  |nilCheck x=>
    rw[ho]at he hi;simp only[];rw[he x (by simp[ca])];have hp:=hi rfl x (by simp[ca]) 0;cases hq:Go.R.ev E s 0 x with
    |one l=>
      rw[hq]at hp;have hp:=hp l (by simp[TV.gB]);cases l with
      |ptr id g off=>simp only[]; rw[fZ hp.ptr]; exact aH fun _=>pt s _
      |cj id g hh p j off=>simp only[]; rw[gG hp.cj]; exact aH fun c=>bc rfl (pt s _)
      |ez cs y off=>exact pt s _
      |_=>rfl
    |_=>rfl
  |binOp op t x y yt=>
    rw[ho]at he hi;simp only[];have hnt:fW E (s.mx fr) op t x y = fW E s op t x y:=by unfold fW;rw[he x (by simp[ca]), iO (hi rfl x (by simp[ca]) t)]
    rw[hnt];cases fW E s op t x y with
    |some l=>exact pt s _
    |none=>
    simp only[];rw[he x (by simp[ca]), he y (by simp[ca])];cases Go.R.ev E s t x with
    |one x=>
      cases Go.R.ev E s t y with
      |one y=>exact BM _ _ _ _ _ _ _ fun l=>pt s _
      |_=>rfl
    |agg xs=>
      cases Go.R.ev E s t y with
      |agg ys=>refine aH fun i=>aH fun b=>?_; cases op <;> first|rfl|exact pt s _
      |_=>rfl
    |nR _=>rfl
    |GR _ _=>rfl
  |unOp op t x=>
    rw[ho]at he;simp only[];rw[he x (by simp[ca])];cases op <;> first|rfl|skip
    all_goals (cases Go.R.ev E s t x with
      |one l=>cases l with
        |val tt y=>cases tt <;> first|rfl|exact pt s _
        |_=>rfl
      |_=>rfl)
  |convert src dst x=>
    rw[ho]at he hi;simp only[];rw[he x (by simp[ca])];refine aH fun _=>aH fun i=>bc rfl ?_;split
    · exact pt s _
    · refine aH fun _=>aH fun _=>bc rfl ?_
      rw[iO (hi rfl x (by simp[ca]) src)];refine aH fun c=>bc ?_ rfl;split
      · exact pt s _
      · rfl
    · rfl
  |makeFunc fn first captured=>
    rw[ho]at he;cases fn with
    |func f=>refine bc ?_ rfl;rw[vV _ fun x hx t=>he x (by simpa[ca] using hx) t];exact aH fun cc=>pt s _
    |_=>rfl
  |fieldAddr t x f=>
    rw[ho]at he hi;simp only[];rw[he x (by simp[ca])];have hp:=hi rfl x (by simp[ca]) 0;refine aH fun i=>aH fun q=>bc rfl ?_;cases hq:Go.R.ev E s 0 x with
    |one l=>
      rw[hq]at hp;have hp:=hp l (by simp[TV.gB]);cases l with
      |ptr id g off=>simp only[]; rw[fZ hp.ptr]; exact aH fun _=>pt s _
      |cj id g hh p j off=>simp only[]; rw[gG hp.cj]; exact aH fun c=>bc rfl (pt s _)
      |ez cs y off=>exact pt s _
      |_=>rfl
    |_=>rfl
  |field t x f=>
    rw[ho]at he;simp only[];rw[he x (by simp[ca])];refine aH fun i=>aH fun q=>bc rfl ?_;cases Go.R.ev E s t x with
    |agg ls=>exact bc (pt s _) rfl
    |_=>rfl
  |indexAddr t x i=>
    rw[ho]at he hi;simp only[];rw[he x (by simp[ca]), he i (by simp[ca])];have hp:=hi rfl x (by simp[ca]) t;refine aH fun i=>aH fun q=>?_;cases hq:Go.R.ev E s t x with
    |one l=>
      rw[hq]at hp;have hp:=hp l (by simp[TV.gB]);cases l with
      |val tt y=>
        cases tt with
        |sl e cs=>exact bc (bc (pt s _) rfl) rfl
        |_=>rfl
      |ref id g hh p=>simp only[]; rw[gG hp.ref]; exact aH fun c=>bc (bc (bc (pt s _) (pt s _)) rfl) rfl
      |_=>rfl
    |_=>rfl
  |index t x i=>rw[ho]at he;simp only[];rw[he x (by simp[ca]), he i (by simp[ca])];exact bc (aH fun i=>aH fun x=>bc (pt s _) rfl) rfl
  |extract t i=>
    rw[ho]at he;simp only[];rw[he t (by simp[ca])];cases Go.R.ev E s 0 t with
    |nR cs=>exact aH fun c=>pt s _
    |_=>rfl
  |alloc t=>rw[ho]at nw;have nw:=nw rfl;refine aH fun i=>?_;simp only[];rw[eF nw, cO nw];exact pt (s.new (aZ (o.dst.getD 0) 0 0) (.blk (mZ real i.cs))) _
  |box t x=>
    rw[ho]at he nw hi;have nw:=nw rfl;simp only[];rw[he x (by simp[ca])];refine aH fun i=>?_;rw[iM (hi rfl x (by simp[ca]) t)];refine ke fun v hv=>bc (bc ?_ ?_) rfl
    · rw[qp _ _ _ _ (by rw[jk hv]; exact hi rfl x (by simp[ca]) t)]
      cases eV (A:=real) false i.cs v s with
      |none=>rfl
      |some r=>exact pt r.2 _
    · rw[eF nw, cO nw]
      exact pt (s.new (aZ (o.dst.getD 0) 0 0) (.blk v)) _
  |buildSlice t n ps=>
    rw[ho]at he nw hi;have nw:=nw rfl;simp only[];refine aH fun r=>bc (bc ?_ ?_) rfl
    · rw[p7 _ _ _ (fun o' cU=>⟨he o' (by simpa[ca] using cU), hi rfl o' (by simpa[ca] using cU)⟩)]
      refine ke fun lss hl=>?_;rw[ig _ _ _ (p6 _ _ _ _ (fun o' cU=>hi rfl o' (by simpa[ca] using cU)) hl)];refine iy fun q=>aH fun x=>?_;simp only[];rw[eF nw, cO nw];exact pt (q.2.new (aZ (o.dst.getD 0) 0 0) (.arr r.1 r.2 true x)) _
    rw[sk _ _ _ _ _ _ (fun o' cU=>⟨he o' (by simpa[ca] using cU), hi rfl o' (by simpa[ca] using cU)⟩)];cases gv (A:=real) E s r.1 r.2 (ps.toList.map (·.2)) (real.kX r.1 r.2) s with
    |none=>rfl
    |some q=>simp only[Option.map_some, ar];rw[eF nw, cO nw];exact pt (q.2.new (aZ (o.dst.getD 0) 0 0) (.arr r.1 r.2 false q.1)) _
  |store t p v=>
    rw[ho]at he hi;simp only[];rw[he p (by simp[ca]), he v (by simp[ca])];refine aH fun i=>?_;have hv:=hi rfl v (by simp[ca]) t;rw[iM hv];refine ke fun v' fL=>bc ?_ rfl;have hp:=hi rfl p (by simp[ca]) 0;cases hq:ev E s 0 p with
    |one l=>
      rw[hq]at hp;simp only[];rw[yW _ _ _ (hp l (by simp[TV.gB])) (by rw[jk fL]; exact hv)];cases hY s l v' with
      |none=>rfl
      |some s1=>exact pt s1 _
    |_=>rfl
  |makeSlice t n c=>rw[ho]at he nw;have nw:=nw rfl;simp only[];rw[he n (by simp[ca])];refine aH fun r=>aH fun n'=>bc (bc ?_ rfl) rfl;rw[eF nw, cO nw];exact pt (s.new (aZ (o.dst.getD 0) 0 0) (.arr r.1 r.2 (E.deep (o.dst.getD 0)) (real.Gn r.1 n' (fm real r.2)))) _
  |makeMap t rv=>rw[ho]at nw;have nw:=nw rfl;refine aH fun kk=>bc ?_ rfl;simp only[];rw[eF nw, cO nw];exact pt (s.new (aZ (o.dst.getD 0) 0 0) (.mp kk (real.kX 0 (aK.mp kk)))) _
  |lookup t m x ok=>
    rw[ho]at he hi;simp only[];rw[he m (by simp[ca]), he x (by simp[ca])];have hp:=hi rfl m (by simp[ca]) t;refine aH fun kk=>bc rfl ?_;cases hm:ev E s t m with
    |one l=>
      rw[hm]at hp;cases l with
      |cV id g=>
        have hp:=hp (.cV id g) (by simp[TV.gB]);cases hx:ev E s 0 x with
        |one l2=>
          cases l2 with
          |val u y=>
            simp only[];rw[tE hp.cV];refine aH fun q=>bc ?_ rfl;split
            · exact pt s _
            · rfl
          |_=>rfl
        |_=>rfl
      |_=>rfl
    |_=>rfl
  |mapUpdate t m x v=>
    rw[ho]at he hi;simp only[];rw[he m (by simp[ca]), he x (by simp[ca]), he v (by simp[ca])];have hp:=hi rfl m (by simp[ca]) t;refine aH fun kk=>?_;cases hm:ev E s t m with
    |one l=>
      rw[hm]at hp;cases l with
      |cV id g=>
        have hp:=hp (.cV id g) (by simp[TV.gB]);cases hx:ev E s 0 x with
        |one l2=>
          cases l2 with
          |val u y=>
            cases hv:pA (ev E s 4 v)with
            |none=>rfl
            |some bv=>
              simp only[];rw[tE hp.cV];refine aH fun q=>bc ?_ rfl;split
              · rename_i hb
                rw[dM hp.cV];exact pt (s.bQ id true (.mp q.1 (real.Dw q.1 q.2 (real.cast hb y) bv))) _
              · rfl
          |_=>rfl
        |_=>rfl
      |_=>rfl
    |_=>rfl
  |slice t x lo hi' mx=>rw[ho]at he nw hi;simp only[];rw[he x (by simp[ca])];exact yM _ _ _ _ _ _ _ _ _ _ (hi rfl x (by simp[ca]) t) (nw rfl) (fun v s'=>pt s' v) (fun o ho=>he o (by simp[ca, ho]) 0) (fun o ho=>he o (by simp[ca, ho]) 0)
  |call c=>
    have BW:=h.ids;have jH:=h.cells;have G0:∀args fG By, c = ⟨By, args, fG⟩ -> ∀l:L, ((∃id g off, l = .ptr id g off) \/ ∃f cc, l = .fn f cc /\ ∃id g, df.ptr id g ∈ cc) -> TV.one l ∈ (args.toList.zip fG.toList).map (fun p=>ev E s p.2 p.1) -> mX s o = true:=by
      intro args fG By e l hl hm;obtain⟨p, hp1, hp2⟩:=List.mem_map.1 hm;unfold mX;rw[ho, e];refine(Bool.or_eq_true _ _).mpr (.inl (List.any_eq_true.2 ⟨p.1, (List.of_mem_zip hp1).1, ?_⟩));have Ai:∀cc:List (df real), (∃id g, df.ptr id g ∈ cc) -> cc.any df.AI = true:=fun cc ⟨id, g, hc⟩=>List.any_eq_true.2 ⟨_, hc, rfl⟩;cases hx:p.1 with
      |tmp j=>
        rw[hx]at hp2;have:s.sl j = TV.one l:=hp2;simp only[this];rcases hl with ⟨id, g, off, rfl⟩|⟨f, cc, rfl, hc⟩
        · rfl
        · exact Ai cc hc
      |const v=>rw[hx]at hp2;have h3:gF (A:=real) E p.2 v = TV.one l:=hp2;exfalso;unfold gF at h3;rcases hl with ⟨id, g, off, rfl⟩|⟨f, cc, rfl, hc⟩ <;> (split at h3 <;> first|(cases h3; done)|(split at h3 <;> cases h3))
      |func q=>
        rw[hx]at hp2;have h3:(TV.one (.fn q []):cm) = TV.one l:=hp2;exfalso;injection h3 with h3
        rcases hl with ⟨id, g, off, rfl⟩|⟨f, cc, rfl, id, g, hc⟩
        · cases h3
        · injection h3 with _ h3
          subst h3;cases hc
      | «global» _=>rw[hx]at hp2;exfalso;rcases hl with ⟨id, g, off, rfl⟩|⟨f, cc, rfl, hc⟩ <;> cases hp2
    rw[ho]at he hi F1 nw BW;obtain⟨By, args, fG⟩:=c;simp only[];refine bc ?_ rfl;have hargs:∀(l:List (Operand × Nat)), (∀p ∈ l, p.1 ∈ args.toList) -> (l.map fun p=>ev E (s.mx fr) p.2 p.1) = l.map fun p=>ev E s p.2 p.1:=by intro l hl;exact List.map_congr_left fun p hp=>he p.1 (by simp only[ca]; exact List.mem_append.2 (.inr (hl p hp))) p.2
    have hz:∀p ∈ args.toList.zip fG.toList, p.1 ∈ args.toList:=fun p hp=>(List.of_mem_zip hp).1;rw[hargs _ hz];have hin:zz fr ((args.toList.zip fG.toList).map fun p=>ev E s p.2 p.1):=by intro v hv;obtain⟨p, hp1, rfl⟩:=List.mem_map.1 hv;rw[oL];exact(BW rfl p.1 (by simp only[ca]; exact List.mem_append.2 (.inr (hz p hp1)))).1
    cases By with
    |builtin b=>refine uq _ _ _ _ _ _ _ _ hin (fun hm=>nw ?_) (fun v s'=>pt s' v);cases b <;> first|rfl|cases hm
    |value f=>
      simp only[];rw[he f (by simp[ca]) 0];cases hf:ev E s 0 f with
      |one l=>
        cases l with
        |fn tQ cc=>
          simp only[];unfold kZ;cases Ψ (tQ, uG ((args.toList.zip fG.toList).map fun p=>ev E s p.2 p.1))with
          |none=>rfl
          |some F=>
            simp only[Option.map_some, ar];have hfr:∀c ∈ cc, jf fr c.bl /\ iG s fr c.bl:=by
              intro c hc;have h1:=BW rfl f (by simp[ca]);rw[<- oL (E:=E) 0, hf]at h1;have hsub:∀id ∈ c.bl, id ∈ (TV.one (Lf.fn tQ cc):cm).bl:=fun id hi=>by simp only[TV.bl, TV.gB, List.flatMap_cons, List.flatMap_nil, List.append_nil, Lf.bl];exact List.mem_flatMap.2 ⟨c, hc, hi⟩
              exact⟨fun id hi=>h1.1 id (hsub id hi), fun id hi=>h1.2 id (hsub id hi)⟩
            have hcap:∀c:df real, c.tv.bl = c.bl:=fun c=>by cases c <;> rfl
            refine zU F _ _ _ _ _ _ (fun v hv=>?_) (fun v hv=>?_) (F1 rfl) (fun id g off hm=>?_) (fun v s'=>pt s' v)
            · rcases List.mem_append.1 hv with hv|hv
              · exact hin v hv
              · obtain⟨c, hc, rfl⟩:=List.mem_map.1 hv
                rw[hcap];exact(hfr c hc).1
            · rcases List.mem_append.1 hv with hv|hv
              · obtain⟨p, hp1, rfl⟩:=List.mem_map.1 hv
                rw[oL];exact(BW rfl p.1 (by simp only[ca]; exact List.mem_append.2 (.inr (hz p hp1)))).2
              · obtain⟨c, hc, rfl⟩:=List.mem_map.1 hv
                rw[hcap];exact(hfr c hc).2
            · refine fun i h1 _=>jH ?_ i (Nat.le_trans (show c7 <= bC id by unfold bC; omega) h1)
              rcases hm with hm|⟨f', He, hm, CF⟩
              · rcases List.mem_append.1 hm with hm|hm
                · exact G0 args fG _ rfl _ (.inl ⟨id, g, off, rfl⟩) hm
                · obtain⟨c, hc, CE⟩:=List.mem_map.1 hm
                  unfold mX;rw[ho];refine(Bool.or_eq_true _ _).mpr (.inr ?_);cases f with
                  |tmp j=>
                    have:s.sl j = TV.one (Lf.fn tQ cc):=hf;simp only[this];refine List.any_eq_true.2 ⟨c, hc, ?_⟩;cases c with
                    |ptr _ _=>rfl
                    |ro _ _=>cases CE
                  |const v=>have h3:gF (A:=real) E 0 v = TV.one (Lf.fn tQ cc):=hf;unfold gF at h3;split at h3 <;> first|(cases h3; done)|(split at h3 <;> cases h3)
                  |func q=>
                    have h3:TV.one (Lf.fn q []) = (TV.one (Lf.fn tQ cc):cm):=hf;injection h3 with h3
                    injection h3 with _ h3
                    subst h3;cases hc
                  | «global» _=>cases hf
              · rcases List.mem_append.1 hm with hm|hm
                · exact G0 args fG _ rfl _ (.inr ⟨f', He, rfl, id, g, CF⟩) hm
                · obtain⟨c, _, CE⟩:=List.mem_map.1 hm
                  cases c <;> cases CE
        |_=>rfl
      |_=>rfl
    |invoke _ _=>rfl
  |_=>rfl
end
end Go.R
namespace Go.R
section
variable {E:Env} {Ψ:bV->Option ij}
def l9(a b:fX real):Prop:=b=a\/a.g<b.g\/(b.g=a.g/\a.h<b.h)
theorem l9.trans{a b c:fX real}(h:l9 a b)(h':l9 b c):l9 a c:=by
 rcases h with h|h|h
 ·subst h;exact h'
 ·rcases h' with h'|h'|h'
  ·subst h';exact .inr (.inl h)
  ·exact .inr (.inl (Nat.lt_trans h h'))
  ·exact .inr (.inl (by omega))
 ·rcases h' with h'|h'|h'
  ·subst h';exact .inr (.inr h)
  ·exact .inr (.inl (by omega))
  ·exact .inr (.inr (by omega))
theorem l9.same{a b:fX real}(h:l9 a b)(hg:a.g=b.g)(hh:a.h=b.h):b=a:=by
 rcases h with h|h|h
 ·exact h
 ·omega
 ·omega
def bA(s s':S):Prop:=∀id,l9 (s.ob id) (s'.ob id)
theorem bA.refl(s:S):bA s s:=fun _=>.inl rfl
theorem bA.trans{s s' s'':S}(h:bA s s')(h':bA s' s''):bA s s'':=fun id=>(h id).trans (h' id)
theorem bA.mM{s s':S}(h:s'.ob=s.ob):bA s s':=fun id=>.inl (by rw[h])
theorem bA.zm(s:S)(i:Nat)(q:fX real)(h:l9 (s.ob i) q):bA s (s.zm i q):=by
 intro id;show l9 (s.ob id) (bif Nat.beq id i then q else s.ob id);cases hb:Nat.beq id i with
 |true=>rw[Nat.eq_of_beq_eq_true hb];exact h
 |false=>exact .inl rfl
theorem bA.new(s:S)(i:Nat)(o:Ob real):bA s (s.new i o):=bA.zm s i _ (.inr (.inl (Nat.lt_succ_self _)))
theorem bA.bQ(s:S)(i:Nat)(o:Ob real):bA s (s.bQ i true o):=bA.zm s i _ (.inr (.inr ⟨rfl,Nat.lt_succ_self _⟩))
theorem bA.ck(s:S)(d:Option Nat)(v:cm):bA s (s.ck d v):=bA.mM (by cases d <;> rfl)
theorem lR{deep:Bool}{t:Ty}{l:L}{s:S}{q:real.V t×S}(h:bY (A:=real) deep t l s=some q):bA s q.2:=by
 unfold bY at h;split at h
 ·cases deep
  ·simp only[cond_false]at h;split at h
   ·injection h with h;subst h;exact .refl _
   ·cases h
  ·cases h
 ·split at h
  ·injection h with h;subst h;exact .refl _
  ·cases h
 ·split at h
  ·injection h with h;subst h;exact .refl _
  ·cases h
 ·rename_i id g _;cases hb:Nat.beq (s.ob id).g g <;> rw[hb]at h
  ·cases h
  ·simp only[cond_true]at h;split at h
   ·split at h
    ·cases deep
     ·simp only[cond_false]at h;injection h with h;subst h;exact .bQ _ _ _
     ·cases h
    ·cases h
   ·cases deep
    ·simp only[cond_false]at h;split at h
     ·injection h with h;subst h;exact .refl _
     ·cases h
    ·cases h
   ·cases h
 ·cases h
theorem lS{deep:Bool}:∀ {cs:aK} {ls:List L} {s:S} {q:real.Vs cs×S},eV (A:=real) deep cs ls s=some q->bA s q.2
 | .nil,[],s,q,h=>by simp only[eV]at h;injection h with h;subst h;exact .refl _
 | .nil,_::_,s,q,h=>by cases h
 | .cons _ _,[],s,q,h=>by cases h
 | .cons t ts,l::ls,s,q,h=>by
  simp only[eV]at h;cases h1:bY (A:=real) deep t l s with
  |none=>rw[h1]at h;cases h
  |some p=>
   rw[h1]at h;simp only[]at h;cases h2:eV (A:=real) deep ts ls p.2 with
   |none=>rw[h2]at h;cases h
   |some p2=>
    rw[h2]at h;injection h with h
    subst h;exact(show bA s p2.2 from(lR h1).trans (lS h2))
theorem om{s0:S}{e:Nat}{cs:aK}:∀ {os:List Operand} {x:real.V (.sl e cs)} {s:S} {q:real.V (.sl e cs)×S},gv E s0 e cs os x s=some q->bA s q.2
 | [],x,s,q,h=>by simp only[gv]at h;injection h with h;subst h;exact .refl _
 |o::os,x,s,q,h=>by
  simp only[gv]at h;cases h1:cells? s0 (ev E s0 0 o)with
  |none=>rw[h1]at h;cases h
  |some ls=>
   rw[h1]at h;simp only[]at h;cases h2:eV (A:=real) false cs ls s with
   |none=>rw[h2]at h;cases h
   |some p=>rw[h2]at h;exact(lS h2).trans (om h)
theorem jb{deep:Bool}:∀ {ls:List L} {cs:aK} {x:cs.T} {j:Nat} {s:S} {q:cs.T×S},bw (A:=real) deep cs x j ls s=some q->bA s q.2
 | [],cs,x,j,s,q,h=>by simp only[bw]at h;injection h with h;subst h;exact .refl _
 |l::ls,cs,x,j,s,q,h=>by
  simp only[bw]at h;cases h1:cellAt (A:=real) cs x j with
  |none=>rw[h1]at h;cases h
  |some p=>
   obtain⟨t,y⟩:=p;rw[h1]at h;simp only[]at h;cases h2:bY (A:=real) deep t l s with
   |none=>rw[h2]at h;cases h
   |some p=>
    rw[h2]at h;simp only[]at h;cases h3:setCell (A:=real) cs x j ⟨t,p.1⟩with
    |none=>rw[h3]at h;cases h
    |some y=>rw[h3]at h;exact(lR h2).trans (jb h)
theorem rL{e:Nat}{cs:aK}{deep:Bool}{l:L}{s:S}{q:real.V (.sl e cs)×S}(h:eJ (A:=real) e cs deep l s=some q):bA s q.2:=by
 unfold eJ at h;split at h
 ·split at h
  ·injection h with h;subst h;exact .refl _
  ·cases h
 ·rename_i id g _;cases hb:Nat.beq (s.ob id).g g <;> rw[hb]at h
  ·cases h
  ·simp only[cond_true]at h;split at h
   ·rename_i e' cs' dp x ho;cases hd:(dp==deep||cs'.plain) <;> rw[hd]at h
    ·cases h
    ·simp only[cond_true]at h;split at h
     ·injection h with h;subst h;exact .bQ _ _ _
     ·cases h
   ·cases h
 ·cases h
theorem A0{k:IntKind}{l:L}{s:S}{q:real.V (.sl 0 (aK.mp k))×S}(h:tS (A:=real) k l s=some q):bA s q.2:=by
 unfold tS at h;split at h
 ·rename_i id g;cases hb:Nat.beq (s.ob id).g g <;> rw[hb]at h
  ·cases h
  ·simp only[cond_true]at h;split at h
   ·split at h
    ·injection h with h;subst h;exact .bQ _ _ _
    ·cases h
   ·cases h
 ·cases h
theorem w4{k:K}{l:L}{s:S}{q:KV real×S}(h:cW k l s=some q):bA s q.2:=by
 cases k with
 |val t=>
  simp only[cW]at h;cases h1:bY (A:=real) false t l s with
  |none=>rw[h1]at h;cases h
  |some p=>rw[h1]at h;injection h with h;subst h;exact lR h1
 |arr e cs deep=>
  simp only[cW]at h;cases h1:eJ (A:=real) e cs deep l s with
  |none=>rw[h1]at h;cases h
  |some p=>rw[h1]at h;injection h with h;subst h;exact rL h1
 |mp kk=>
  simp only[cW]at h;cases h1:tS (A:=real) kk l s with
  |none=>rw[h1]at h;cases h
  |some p=>rw[h1]at h;injection h with h;subst h;exact A0 h1
theorem eG:∀ {ks:List K} {ls:List L} {s:S} {q:List (KV real)×S},takes ks ls s=some q->bA s q.2
 | [],[],s,q,h=>by injection h with h;subst h;exact .refl _
 | [],_::_,s,q,h=>by cases h
 |_::_,[],s,q,h=>by cases h
 |k::ks,l::ls,s,q,h=>by
  simp only[takes]at h;cases h1:cW k l s with
  |none=>rw[h1]at h;cases h
  |some p=>
   rw[h1]at h;simp only[]at h;cases h2:takes ks ls p.2 with
   |none=>rw[h2]at h;cases h
   |some p2=>rw[h2]at h;injection h with h;subst h;exact(show bA s p2.2 from(w4 h1).trans (eG h2))
theorem vu{s:S}{id h e:Nat}{cs:aK}{x:List cs.T}{p:jR}{i:IV}{off:Nat}{v:List L}{s':S}(hs:kz (A:=real) s id h e cs x p i off v=some s'):bA s s':=by
 unfold kz at hs;cases hb:(p.isEmpty||Nat.beq (s.ob id).h h) <;> rw[hb]at hs
 ·cases hs
 ·simp only[cond_true]at hs;cases hf:follow (A:=real) 2 e cs x p with
  |none=>rw[hf]at hs;cases hs
  |some c=>
   rw[hf]at hs;simp only at hs;cases ht:takes ((c.cs.kd.drop off).take v.length) v s with
   |none=>rw[ht]at hs;cases hs
   |some q=>
    rw[ht]at hs;simp only at hs;cases hr:setRow (A:=real) c.cs (real.get c.x i) off q.1 with
    |none=>rw[hr]at hs;cases hs
    |some el=>
     rw[hr]at hs;simp only at hs;cases hx:putAt (A:=real) c (real.put c.x i el) e cs x p with
     |none=>rw[hx]at hs;cases hs
     |some x'=>
      rw[hx]at hs;simp only at hs;split at hs
      ·injection hs with hs;subst hs;exact(eG ht).trans (.bQ _ _ _)
      ·cases hs
theorem vz{s:S}{p:L}{v:List L}{s':S}(h:hY s p v=some s'):bA s s':=by
 unfold hY at h;split at h
 ·split at h
  ·split at h
   ·injection h with h;subst h;exact .bQ _ _ _
   ·cases h
  ·cases h
 ·rename_i id g h' p i off;cases hb:Nat.beq (s.ob id).g g <;> rw[hb]at h
  ·cases h
  ·simp only[cond_true]at h;split at h
   ·rename_i e cs deep x ho;cases deep with
    |true=>exact vu h
    |false=>
     simp only[cond_false]at h;split at h
     ·cases h1:bw (A:=real) false cs (real.get x i) off v s with
      |none=>rw[h1]at h;cases h
      |some q=>
       rw[h1]at h;simp only[]at h;split at h
       ·injection h with h;subst h;exact(jb h1).trans (.bQ _ _ _)
       ·cases h
     ·cases h
   ·cases h
 ·cases h
theorem gM{cs:aK}{c:df real}{s:S}{q:List (KV real)×S}(h:cr cs c s=some q):bA s q.2:=by
 unfold cr at h;split at h
 ·split at h
  ·rename_i ls hls;cases h1:takes cs.ks ls s with
   |none=>rw[h1]at h;cases h
   |some p=>
    rw[h1]at h;simp only[]at h;split at h
    ·injection h with h;subst h;exact(eG h1).trans (.bQ _ _ _)
    ·cases h
  ·cases h
 ·split at h
  ·injection h with h;subst h;exact .refl _
  ·cases h
theorem li:∀ {aM:List aK} {cc:List (df real)} {s:S} {q:List (KV real)×S},cz aM cc s=some q->bA s q.2
 | [],[],s,q,h=>by injection h with h;subst h;exact .refl _
 | [],_::_,s,q,h=>by cases h
 |_::_,[],s,q,h=>by cases h
 |cs::nc,c::cc,s,q,h=>by
  simp only[cz]at h;cases h1:cr cs c s with
  |none=>rw[h1]at h;cases h
  |some p=>
   rw[h1]at h;simp only[]at h;cases h2:cz nc cc p.2 with
   |none=>rw[h2]at h;cases h
   |some p2=>rw[h2]at h;injection h with h;subst h;exact(show bA s p2.2 from(gM h1).trans (li h2))
theorem vB{c:Cp}{v:df real}{s:S}{q:List (KV real)×S}(h:ff c v s=some q):bA s q.2:=by
 unfold ff at h;split at h
 ·exact gM h
 ·split at h
  ·split at h
   ·rename_i h1;injection h with h;subst h;exact(bA.bQ _ _ _).trans (eG h1)
   ·cases h
  ·cases h
 ·cases h
theorem mV:∀ {aM:List Cp} {cc:List (df real)} {s:S} {q:List (KV real)×S},cH aM cc s=some q->bA s q.2
 | [],[],s,q,h=>by injection h with h;subst h;exact .refl _
 | [],_::_,s,q,h=>by cases h
 |_::_,[],s,q,h=>by cases h
 |cs::nc,c::cc,s,q,h=>by
  simp only[cH]at h;cases h1:ff cs c s with
  |none=>rw[h1]at h;cases h
  |some p=>
   rw[h1]at h;simp only[]at h;cases h2:cH nc cc p.2 with
   |none=>rw[h2]at h;cases h
   |some p2=>rw[h2]at h;injection h with h;subst h;exact(show bA s p2.2 from(vB h1).trans (mV h2))
theorem vC{sh:Sh}{v:cm}{s:S}{q:List (KV real)×S}(h:cl sh v s=some q):bA s q.2:=by
 unfold cl at h;split at h
 ·exact gM h
 ·exact gM h
 ·rename_i f aM f' cc;cases hb:Nat.beq f f' <;> rw[hb]at h
  ·cases h
  ·exact li h
 ·rename_i f aM f' cc;cases hb:Nat.beq f f' <;> rw[hb]at h
  ·cases h
  ·exact mV h
 ·exact eG h
 ·exact eG h
 ·split at h
  ·split at h
   ·rename_i h1;injection h with h;subst h;exact(bA.bQ _ _ _).trans (eG h1)
   ·cases h
  ·cases h
 ·cases h
theorem mU:∀ {aW:List Sh} {vs:List cm} {s:S} {q:List (KV real)×S},bO aW vs s=some q->bA s q.2
 | [],[],s,q,h=>by injection h with h;subst h;exact .refl _
 | [],_::_,s,q,h=>by cases h
 |_::_,[],s,q,h=>by cases h
 |sh::aW,v::vs,s,q,h=>by
  simp only[bO]at h;cases h1:cl sh v s with
  |none=>rw[h1]at h;cases h
  |some p=>
   rw[h1]at h;simp only[]at h;cases h2:bO aW vs p.2 with
   |none=>rw[h2]at h;cases h
   |some p2=>rw[h2]at h;injection h with h;subst h;exact(show bA s p2.2 from(vC h1).trans (mU h2))
theorem pZ:∀ {ks:List K} {ls:List L} {s s1:S},jI ks ls s=some s1->bA s s1
 | [],[],s,s1,h=>by injection h with h;subst h;exact .refl _
 | [],_::_,_,_,h=>by cases h
 |_::_,[],_,_,h=>by cases h
 |k::ks,l::ls,s,s1,h=>by
  simp only[jI]at h;cases h1:j9 k l s with
  |none=>rw[h1]at h;cases h
  |some s2=>
   rw[h1]at h;refine bA.trans ?_ (pZ h);cases k with
   |val t=>injection h1 with h1;subst h1;exact .refl _
   |arr e cs d=>
    simp only[j9]at h1;cases hb:Nat.ble 1 cs.len with
    |false=>rw[hb]at h1;cases h1
    |true=>
     rw[hb]at h1;simp only[cond_true]at h1;cases ha:eJ (A:=real) e cs d l s with
     |none=>rw[ha]at h1;cases h1
     |some q=>rw[ha]at h1;injection h1 with h1;subst h1;exact rL ha
   |mp _=>cases h1
theorem vT:∀ {ks:List K} {ls:List L} {vs:List (KV real)} {s s1:S},iJ ks ls vs s=some s1->bA s s1:=by
 intro ks;induction ks with
 |nil=>intro ls vs s s1 h;cases ls <;> cases vs <;> first|(injection h with h;subst h;exact .refl _)|cases h
 |cons k ks ih=>
  intro ls vs s s1 h;cases ls with
  |nil=>cases k <;> cases vs <;> cases h
  |cons l ls=>
   cases k with
   |val t=>exact ih h
   |mp _=>cases l <;> cases vs <;> cases h
   |arr e cs d=>
    cases vs with
    |nil=>cases l with
     |ref id g hh p=>cases p <;> cases h
     |_=>cases h
    |cons v vs=>
     cases l with
     |eU _ _=>exact ih h
     |ref id g hh p=>
      cases p with
      |cons _ _=>cases h
      |nil=>
       obtain⟨kk,x⟩:=v;cases kk with
       |val _=>cases h
       |mp _=>cases h
       |arr e' cs' d'=>exact(bA.bQ _ _ _).trans (ih h)
     |_=>cases h
theorem r9(id:Nat)(v:KV real)(s:S):bA s (dK id v s).2:=by obtain⟨k,x⟩:=v;cases k <;> exact .new _ _ _
theorem iS:∀(vs:List (KV real)) (id:Nat) (s:S),bA s (eE id vs s).2
 | [],_,_=>.refl _
 |v::_,id,s=>(r9 id v s).trans (iS _ (id+1) _)
theorem j8:∀(aM:List Cp) (vs:List (KV real)) (b:Nat) (s:S),bA s (dL b aM vs s).2
 | [],_,_,_=>.refl _
 | .ro cs::r,vs,b,s=>by
  simp only[dL];cases jQ (A:=real) cs (vs.take cs.len)with
  |none=>exact .refl _
  |some x=>exact j8 r _ b s
 | .mu ks::r,vs,b,s=>((iS _ _ _).trans (.new _ _ _)).trans (j8 r _ _ _)
theorem wC(b:Nat)(sh:Sh)(vs:List (KV real))(s:S):bA s (cN b sh vs s).2:=by
 cases sh with
 |one k=>
  match vs with
  | []=>exact .refl _
  | [v]=>exact r9 _ _ _
  |_::_::_=>exact .refl _
 |agg ks=>exact iS _ _ _
 |blk ks=>exact(iS _ _ _).trans (.new _ _ _)
 |ro cs=>simp only[cN];cases jQ (A:=real) cs vs <;> exact .refl _
 |fn _ _=>exact .refl _
 |pL g aM=>exact j8 aM vs b s
theorem j7:∀(aW:List Sh) (vs:List (KV real)) (b:Nat) (s:S),bA s (bE b aW vs s).2
 | [],_,_,_=>.refl _
 |sh::aW,vs,b,s=>(wC b sh _ s).trans (j7 aW _ _ _)
theorem vR:∀ {gH:List (List K)} {ls:List L} {vs:List (KV real)} {s s1:S},ir gH ls vs s=some s1->bA s s1:=by
 intro gH;induction gH with
 |nil=>intro ls vs s s1 h;cases ls <;> cases vs <;> first|(injection h with h;subst h;exact .refl _)|cases h
 |cons ks gH ih=>
  intro ls vs s s1 h;cases ls with
  |nil=>cases h
  |cons l ls=>
   cases l with
   |ptr id g off=>
    cases off with
    |zero=>
     simp only[ir]at h;cases hb:(Nat.ble (id+1) c7&&(Nat.ble ks.length 64&&Nat.ble ks.length vs.length))with
     |false=>rw[hb]at h;cases h
     |true=>rw[hb]at h;simp only[cond_true]at h;exact(iS _ _ _).trans ((bA.bQ _ _ _).trans (ih h))
    |succ _=>cases h
   |_=>cases h
theorem uZ{q:sQ real}{s s':S}(h:jw (A:=real) q s=some s'):bA s s':=by
 unfold jw at h;split at h
 ·rename_i e cs dp y ho;cases hb:((Nat.beq (s.ob q.id).g q.g&&Nat.beq (s.ob q.nb).g q.gn)&&(Nat.ble 1 q.g&&(dp||cs.plain))) <;> rw[hb]at h
  ·cases h
  ·simp only[cond_true]at h;split at h
   ·rename_i hc;cases hp:putAt (A:=real) q.c (real.cast hc y) q.e q.cs q.x q.path with
    |none=>rw[hp]at h;cases h
    |some x'=>rw[hp]at h;injection h with h;subst h;exact(bA.bQ _ _ _).trans (.bQ _ _ _)
   ·cases h
 ·cases h
def cR(s:S)(x:Option S):Prop:=∀s',x=some s'->bA s s'
theorem cR.fail{s:S}:cR s (aP S).fail:=fun _ h=>nomatch h
theorem cR.mk{s s':S}(h:bA s s'):cR s (some s'):=fun _ e=>by injection e with e;subst e;exact h
theorem cR.ar{α:Type}{s:S}{x:Option α}{f:α->Option S}(h:∀v,x=some v->cR s (f v)):cR s (ar (aP S) x f):=by
 cases x with
 |none=>exact .fail
 |some v=>exact h v rfl
theorem cR.cond{s:S}{b:Bool}{x y:Option S}(hx:cR s x)(hy:cR s y):cR s (bif b then x else y):=by
 cases b
 ·exact hy
 ·exact hx
theorem cR.ot{s:S}{b:Bool}{x y:Option S}(hx:cR s x)(hy:cR s y):cR s ((aP S).cond b x y):=cR.cond hx hy
theorem yQ{o:Oper}{s:S}:cR s (step1 E Ψ o s):=by
 have pt:∀(s':S) (v:cm),bA s s'->cR s (some (s'.ck o.dst v)):=fun s' v h=>.mk (h.trans (.ck _ _ _));unfold step1 bp;have here:∀v:cm,cR s (some (s.ck o.dst v)):=fun v=>pt s v (.refl s);cases ho:o.op with
 |move x=>exact here _
 |assign x=>exact here _
 |pick c a b=>exact .ar fun c _=>.ot (here _) (here _)
 |build t ps=>exact .ar fun i _=>.cond (.ar fun cs _=>here _) .fail
 |load t p=>
  refine .ar fun i _=>?_;cases ev E s 0 p with
  |one l=>exact .ar fun v _=>here _
  |_=>exact .fail
 |nilCheck x=>
  simp only[];cases ev E s 0 x with
  |one l=>
   cases l with
   |ptr id g off=>exact .ar fun _ _=>here _
   |cj id g hh p j off=>exact .ar fun c _=>.cond .fail (here _)
   |ez cs y off=>exact here _
   |_=>exact .fail
  |_=>exact .fail
 |binOp op t x y yt=>
  simp only[];cases fW E s op t x y with
  |some l=>exact here _
  |none=>
  simp only[];cases ev E s t x with
  |one x=>
   cases ev E s t y with
   |one y=>
    have h1:=py (R:=S) (fB E t) op x y (fun l=>some (s.ck o.dst (.one l))) (fun l=>some (St.set s 0 (.one l))) (fun s1=>some (s.ck o.dst (s1.sl 0))) (fun l=>rfl);show cR s (kU (aP S) (fB E t) op x y fun l=>some (s.ck o.dst (.one l)));rw[h1];cases kU (aP S) (fB E t) op x y fun l=>some (St.set s 0 (.one l))with
    |none=>exact .fail
    |some s1=>exact here _
   |_=>exact .fail
  |agg xs=>
   cases ev E s t y with
   |agg ys=>refine .ar fun i _=>.ar fun b _=>?_;cases op <;> first|exact .fail|exact here _
   |_=>exact .fail
  |nR _=>exact .fail
  |GR _ _=>exact .fail
 |unOp op t x=>
  simp only[];cases op <;> first|exact .fail|skip
  all_goals (cases ev E s t x with
   |one l=>cases l with
    |val tt y=>cases tt <;> first|exact .fail|exact here _
    |_=>exact .fail
   |_=>exact .fail)
 |convert src dst x=>
  simp only[];refine .ar fun _ _=>.ar fun i _=>.cond .fail ?_;split
  ·exact here _
  ·refine .ar fun _ _=>.ar fun _ _=>.cond .fail (.ar fun c _=>.cond ?_ .fail);split
   ·exact here _
   ·exact .fail
  ·exact .fail
 |makeFunc fn first captured=>
  cases fn with
  |func f=>exact .cond (.ar fun cc _=>here _) .fail
  |_=>exact .fail
 |fieldAddr t x f=>
  simp only[];refine .ar fun i _=>.ar fun q _=>.cond .fail ?_;cases ev E s 0 x with
  |one l=>
   cases l with
   |ptr id g off=>exact .ar fun _ _=>here _
   |cj id g hh p j off=>exact .ar fun c _=>.cond .fail (here _)
   |ez cs y off=>exact here _
   |_=>exact .fail
  |_=>exact .fail
 |field t x f=>
  simp only[];refine .ar fun i _=>.ar fun q _=>.cond .fail ?_;cases ev E s t x with
  |agg ls=>exact .cond (here _) .fail
  |_=>exact .fail
 |indexAddr t x i=>
  simp only[];refine .ar fun i _=>.ar fun q _=>?_;cases ev E s t x with
  |one l=>
   cases l with
   |val tt y=>
    cases tt with
    |sl e cs=>exact .cond (.ot (here _) .fail) .fail
    |_=>exact .fail
   |ref id g hh p=>exact .ar fun c _=>.cond (.ot (.cond (here _) (here _)) .fail) .fail
   |_=>exact .fail
  |_=>exact .fail
 |index t x i=>exact .cond (.ar fun i _=>.ar fun x _=>.ot (here _) .fail) .fail
 |extract t i=>
  simp only[];cases ev E s 0 t with
  |nR cs=>exact .ar fun c _=>here _
  |_=>exact .fail
 |alloc t=>exact .ar fun i _=>pt _ _ (.new _ _ _)
 |box t x=>exact .ar fun i _=>.ar fun v _=>.cond (.cond (.ar fun r hr=>pt _ _ (lS hr)) (pt _ _ (.new _ _ _))) .fail
 |buildSlice t n ps=>exact .ar fun r _=>.cond (.cond (.ar fun lss _=>.ar fun q hq=>.ar fun x _=>pt _ _ ((eG hq).trans (.new _ _ _))) (.ar fun q hq=>pt _ _ ((om hq).trans (.new _ _ _)))) .fail
 |store t p v=>
  refine .ar fun i _=>.ar fun v _=>.cond ?_ .fail;cases ev E s 0 p with
  |one l=>exact .ar fun s1 h1=>pt _ _ (vz h1)
  |_=>exact .fail
 |makeSlice t n c=>exact .ar fun r _=>.ar fun n' _=>.cond (.ot (pt _ _ (.new _ _ _)) .fail) .fail
 |makeMap t rv=>exact .ar fun kk _=>.cond (pt _ _ (.new _ _ _)) .fail
 |lookup t m x ok=>
  refine .ar fun kk _=>.cond .fail ?_;split
  ·refine .ar fun q _=>.cond ?_ .fail;split
   ·exact here _
   ·exact .fail
  ·exact .fail
 |mapUpdate t m x v=>
  refine .ar fun kk _=>?_;split
  ·refine .ar fun q _=>.cond ?_ .fail;split
   ·exact pt _ _ (.bQ _ _ _)
   ·exact .fail
  ·exact .fail
 |slice t x lo hi mx=>
  simp only[];unfold jy;refine .ar fun q _=>.ar fun c _=>.cond (.cond (pt _ _ (.refl _)) ?_) .fail;cases mx with
  |some _=>exact .fail
  |none=>
   refine .ar fun l _=>.ar fun h _=>.ot ?_ .fail;unfold eY;split
   ·exact .cond (pt _ _ (.refl _)) (.cond (.cond .fail (pt _ _ ((bA.bQ _ _ _).trans (.new _ _ _)))) (pt _ _ (.bQ _ _ _)))
   ·exact .fail
   ·exact pt _ _ (.refl _)
 |call c=>
  obtain⟨By,args,fG⟩:=c;simp only[];refine .cond ?_ .fail;generalize ((args.toList.zip fG.toList).map fun p=>ev E s p.2 p.1)=vs;cases By with
  |builtin b=>
   simp only[];unfold dD;split
   ·exact .cond (.ar fun _ _=>pt _ _ (.refl _)) (.ar fun _ _=>.ar fun _ _=>pt _ _ (.refl _))
   ·exact .ar fun _ _=>.ar fun _ _=>pt _ _ (.refl _)
   ·exact .ar fun _ _=>.ar fun _ _=>pt _ _ (.refl _)
   ·rename_i x y t t' _;refine .ar fun q _=>.ar fun _ _=>.ar fun cx _=>.ar fun cy _=>.cond .fail ?_;split
    ·exact .fail
    ·rename_i s1 dp hs1;have hg:bA s s1:=by
      split at hs1
      ·injection hs1 with hs1;injection hs1 with h1 h2;subst h1;exact .refl _
      ·split at hs1
       ·cases hs1
       ·injection hs1 with hs1;injection hs1 with h1 h2;subst h1;exact .bQ _ _ _
      ·cases hs1
     refine .cond ?_ ?_
     ·split
      ·refine .cond ?_ .fail;split
       ·exact .ot (pt _ _ (hg.trans ((bA.bQ _ _ _).trans (.new _ _ _)))) .fail
       ·exact .fail
      ·exact .fail
     ·split
      ·exact .ot (pt _ _ (hg.trans (.new _ _ _))) .fail
      ·exact .fail
   ·exact .fail
  |value f=>
   simp only[];cases ev E s 0 f with
   |one l=>
    cases l with
    |fn tQ cc=>
     refine .ar fun g hg=>?_;unfold kZ at hg;cases hF:Ψ (tQ,uG vs)with
     |none=>rw[hF]at hg;cases hg
     |some F=>
      rw[hF]at hg;injection hg with hg
      subst hg;unfold mj;have look:∀(vs:List cm) (s0:S) (f:cm->S->Option S),bA s s0->(∀v s2,bA s s2->cR s (f v s2))->cR s (jG (aP S) (F.callee S) (o.dst.getD 0) vs s0 f):=by
       intro vs s0 f h0 hf;unfold jG;refine .ar fun s1 h1=>.ar fun vs' _=>.ar fun x _=>?_;show cR s ((F.fn x).bind _);cases F.fn x with
       |none=>exact .fail
       |some y=>exact .ar fun s2 h2=>hf _ _ (h0.trans ((pZ h1).trans ((vT h2).trans (j7 _ _ _ _))))
      refine .cond (.cond ?_ (.cond (.ar fun r hr=>.ar fun x _=>?_) .fail)) .fail
      ·split
       ·rename_i args' s' q hsp;obtain⟨i,id,gg,hh,p,r1,_,_,q3,q4⟩:=nQ hsp;obtain⟨c,e,cs,x,_,_,_,p4⟩:=nP q3;subst p4;injection q4 with _ q4
        injection q4 with q4 _
        subst q4;refine look _ _ _ ((bA.bQ _ _ _).trans (.new _ _ _)) fun v s2 hg=>.ar fun s3 h3=>pt _ _ (hg.trans (uZ h3))
       ·exact look _ _ _ (.refl _) fun v s2 hg=>pt _ _ hg
      ·show cR s ((F.fn x).bind _);cases F.fn x with
       |none=>exact .fail
       |some y=>exact .ar fun s2 h2=>pt _ _ ((mU hr).trans ((vR h2).trans (j7 _ _ _ _)))
    |_=>exact .fail
   |_=>exact .fail
  |invoke _ _=>exact .fail
 |_=>exact .fail
end
end Go.R
namespace Go.R
theorem nK{acc:List Nat}{j:Nat}:∀ {es:List Edge},(iZ acc es).testBit j=true->∃e∈es,Region.binds .any e=true/\(e.on=j\/(acc.getD e.on 0).testBit j=true)
 | [],h=>by simp[iZ]at h
 |e::es,h=>by
  simp only[iZ]at h;cases hb:Region.binds .any e with
  |false=>rw[hb]at h;obtain⟨e',h1,h2⟩:=nK (es:=es) h;exact⟨e',List.mem_cons_of_mem _ h1,h2⟩
  |true=>
   rw[hb]at h;simp only[cond_true]at h;have GW:∀(x y:Nat),Nat.testBit (Nat.lor x y) j=(Nat.testBit x j||Nat.testBit y j):=fun x y=>Nat.testBit_or x y j;rw[GW,GW,Bool.or_eq_true,Bool.or_eq_true]at h;rcases h with (h|h)|h
   ·exact⟨e,by simp,hb,.inr h⟩
   ·refine⟨e,by simp,hb,.inl ?_⟩;have hs:Nat.shiftLeft 1 e.on=2 ^ e.on:=by show 1 <<< e.on=2 ^ e.on;exact Nat.one_shiftLeft e.on
    rw[hs,Nat.testBit_two_pow]at h;simpa using h
   ·obtain⟨e',h1,h2⟩:=nK (es:=es) h;exact⟨e',List.mem_cons_of_mem _ h1,h2⟩
theorem sx:∀(l:List Oper) (acc:List Nat),∃tl,gZ l acc=acc++tl/\tl.length=l.length
 | [],acc=>⟨[],by simp[gZ],rfl⟩
 |o::r,acc=>by obtain⟨tl,h1,h2⟩:=sx r (acc++[iZ acc o.after.toList]);exact⟨iZ acc o.after.toList::tl,by simp only[gZ];rw[h1];simp,by simp[h2]⟩
theorem vf:∀(l:List Oper) (acc:List Nat) (k:Nat) (o:Oper),l[k]? = some o->∃pre DU,gZ l acc=pre++DU/\pre.length=acc.length+k/\(gZ l acc).getD (acc.length+k) 0=iZ pre o.after.toList
 | [],_,k,o,h=>by simp at h
 |o::r,acc,0,o',h=>by simp at h;subst h;obtain⟨tl,h1,h2⟩:=sx r (acc++[iZ acc o.after.toList]);refine⟨acc,iZ acc o.after.toList::tl,by simp only[gZ];rw[h1];simp,by simp,?_⟩;simp only[gZ];rw[h1];simp
 |o::r,acc,k+1,o',h=>by
  have h':r[k]? = some o':=by simpa using h
  obtain⟨pre,DU,h1,h2,h3⟩:=vf r (acc++[iZ acc o.after.toList]) k o' h';have hl:(acc++[iZ acc o.after.toList]).length+k=acc.length+(k+1):=by simp;omega
  exact⟨pre,DU,by simp only[gZ];exact h1,h2.trans hl,by simp only[gZ];rw[<-hl];exact h3⟩
theorem zR{pre DU:List Nat}{i j:Nat}(h:(pre.getD i 0).testBit j=true):((pre++DU).getD i 0).testBit j=true:=by
 simp only[List.getD_eq_getElem?_getD]at h⊢;rcases Nat.lt_or_ge i pre.length with hi|hi
 ·rw[List.getElem?_append_left hi];exact h
 ·rw[List.getElem?_eq_none hi]at h;simp at h
section
variable {ops:Array Oper}
abbrev PP(ops:Array Oper):List Nat:=gZ ops.toList []
theorem pO{i j:Nat}{o:Oper}(ho:ops.toList[i]? = some o)(h:ef (PP ops) i j=true):∃e∈o.after.toList,Region.binds .any e=true/\(e.on=j\/ef (PP ops) e.on j=true):=by
 obtain⟨pre,DU,h1,h2,h3⟩:=vf ops.toList [] i o ho;unfold ef at h;have hz:([]:List Nat).length+i=i:=by simp
 rw[hz]at h3;rw[h3]at h;obtain⟨e,g1,g2,g3⟩:=nK h;refine⟨e,g1,g2,g3.imp id fun g=>?_⟩;show((gZ ops.toList []).getD e.on 0).testBit j=true;rw[h1];exact zR g
theorem qZ{P:List Nat}{i t:Nat}:∀ {l:List Oper} {k:Nat},wrote P i t k l=true->∀(j:Nat) (o:Oper),l[j]? = some o->o.dst=some t->ef P i (k+j)=true\/ef P (k+j) i=true
 | [],_,_,j,o,h,_=>by simp at h
 |o::r,k,h,0,o',h1,h2=>by
  simp at h1;subst h1;simp only[wrote,Bool.and_eq_true,Bool.or_eq_true]at h;rcases h.1 with h|h
  ·rw[h2]at h;simp[isDst]at h
  ·exact h
 |o::r,k,h,j+1,o',h1,h2=>by simp only[wrote,Bool.and_eq_true]at h;have:=qZ h.2 j o' (by simpa using h1) h2;rwa[show k+1+j=k+(j+1)by omega]at this
theorem pg{i t:Nat}:∀ {l:List Oper} {k:Nat},alone i (some t) k l=true->∀(j:Nat) (o:Oper),l[j]? = some o->i≠k+j->o.dst≠some t
 | [],_,_,j,o,h,_=>by simp at h
 |o::r,k,h,0,o',h1,h2=>by
  simp at h1;subst h1;simp only[alone,Bool.and_eq_true,Bool.or_eq_true]at h;rcases h.1 with h|h
  ·exact absurd (Nat.eq_of_beq_eq_true h) (by simpa using h2)
  ·intro e;rw[e]at h;simp[isDst]at h
 |o::r,k,h,j+1,o',h1,h2=>by simp only[alone,Bool.and_eq_true]at h;exact pg h.2 j o' (by simpa using h1) (by omega)
structure Stat (ops:Array Oper) (i:Nat) (o:Oper):Prop where
 back:∀e∈o.after.toList,Region.binds .any e=true->e.on<i
 reads:∀t∈kS ops o,∀(j:Nat) (o':Oper),ops.toList[j]? = some o'->o'.dst=some t->ef (PP ops) i j=true\/ef (PP ops) j i=true
 lone:∀t,o.dst=some t->∀(j:Nat) (o':Oper),ops.toList[j]? = some o'->i≠j->o'.dst≠some t
 made:makes o.op=true->o.dst≠none
theorem ox{P:List Nat}(hP:P=PP ops):∀ {l:List Oper} {k:Nat},lW P ops k l=true->∀(j:Nat) (o:Oper),l[j]? = some o->Stat ops (k+j) o
 | [],_,_,j,o,h=>by simp at h
 |o::r,k,h,0,o',h1=>by
  simp at h1;subst h1;subst hP;simp only[lW,Bool.and_eq_true]at h;obtain⟨⟨⟨⟨h1,h2⟩,h3⟩,h4⟩,_⟩:=h;refine⟨fun e he hb=>?_,fun t ht j o' hj hd=>?_,fun t ht j o' hj hij=>?_,fun hm hd=>?_⟩
  ·have:=List.all_eq_true.1 h1 e he;rw[hb]at this;exact Nat.le_of_ble_eq_true (by simpa using this)
  ·have:=qZ (List.all_eq_true.1 h2 t ht) j o' hj hd;simpa using this
  ·rw[ht]at h3;exact pg h3 j o' hj (by simpa using hij)
  ·rw[hm,hd]at h4;cases h4
 |o::r,k,h,j+1,o',h1=>by simp only[lW,Bool.and_eq_true]at h;have:=ox hP h.2 j o' (by simpa using h1);rwa[show k+1+j=k+(j+1)by omega]at this
theorem ym(hS:∀(i:Nat) (o:Oper),ops.toList[i]? = some o->Stat ops i o):∀(i j:Nat) (o:Oper),ops.toList[i]? = some o->ef (PP ops) i j=true->j<i:=by
 intro i;induction i using Nat.strongRecOn with
 |ind i ih=>
  intro j o ho h;obtain⟨e,h1,h2,h3⟩:=pO ho h;have hlt:=(hS i o ho).back e h1 h2;rcases h3 with h3|h3
  ·omega
  ·have hi:i<ops.toList.length:=by
    rcases Nat.lt_or_ge i ops.toList.length with hh|hh
    ·exact hh
    ·rw[List.getElem?_eq_none hh]at ho;cases ho
   have:=ih e.on hlt j _ (List.getElem?_eq_getElem (Nat.lt_trans hlt hi)) h3;omega
end
end Go.R
namespace Go.R
section
variable {R:Type} {E:Env} {Ψ:bV->Option ij} {ops:Array Oper}
def dJ(ops:Array Oper)(o:Oper)(s:S):Option Bool:=
  match o.guard with
  |none=>some true
  |some (j, want)=>match(ops[j]?).bind (·.dst)with
    |none=>none
    |some t=>match s.sl t with
      | .one (.val .bool b)=>some ((show Bool from b)==want)
      | .one .undef=>some false
      |_=>none
def nu(E:Env)(Ψ:bV->Option ij)(ops:Array Oper)(o:Oper)(s s':S):Prop:=(dJ ops o s=some true/\step1 E Ψ o s=some s')\/(dJ ops o s=some false/\s'=s.ck o.dst (.one .undef))
structure DF (E:Env) (Ψ:bV->Option ij) (ops:Array Oper) (P:List Nat) (l:List Oper) (i:Nat) (as:List (vJ real)) (s:S) (st:Nat->S):Prop where
 first:st i=s
 dst:∀(j:Nat) (o:Oper),l[j]? = some o->sr E o.dst=true
 step:∀(j:Nat) (o:Oper),l[j]? = some o->nu E Ψ ops o (st (i+j)) (st (i+j+1))
 EU:∃as',s6 P as'=true/\(∀x∈as,x∈as')/\∀(j:Nat) (o:Oper),l[j]? = some o->dJ ops o (st (i+j))=some true->⟨i+j,o,st (i+j),st (i+j+1)⟩∈as'
theorem St.mR{s:S}{t:Nat}{v:cm}(h:s.sl t=v):s.set t v=s:=by
 unfold St.set;congr 1;funext i;cases hb:Nat.beq i t with
 |true=>rw[Nat.eq_of_beq_eq_true hb,h];rfl
 |false=>rfl
def uK(i:Nat)(s:S)(st:Nat->S):Nat->S:=fun n=>if n<=i then s else st n
theorem Af(i:Nat)(s:S)(st:Nat->S):uK i s st i=s:=if_pos (Nat.le_refl _)
theorem Ae(i:Nat)(s:S)(st:Nat->S)(n:Nat):uK i s st (i+1+n)=st (i+1+n):=if_neg (by omega)
theorem ny{P:List Nat}{r:R}:∀(l:List Oper) (i:Nat) (as:List (vJ real)) (s:S) (k:S -> Option R), k7 E (aP R) (kZ Ψ R) ops P i l as s k = some r ->
    ∃st, DF E Ψ ops P l i as s st /\ k (st (i + l.length)) = some r
  | [], i, as, s, k, h=>by
    simp only[k7]at h;cases hc:s6 P as with
    |false=>rw[hc]at h; cases h
    |true=>rw[hc]at h;exact⟨fun _=>s, ⟨rfl, fun j o hj=>by simp at hj, fun j o hj=>by simp at hj, as, hc, fun _ hx=>hx, fun j o hj=>by simp at hj⟩, h⟩
  |o:: l, i, as, s, k, h=>by
    simp only[k7]at h;cases hd:sr E o.dst with
    |false=>rw[hd]at h; cases h
    |true=>
      rw[hd]at h;simp only[cond_true]at h;have glue:∀(E3:List (vJ real)) (s1:S) (st:Nat -> S), DF E Ψ ops P l (i + 1) E3 s1 st -> nu E Ψ ops o s s1 -> (∀x ∈ as, x ∈ E3) ->
          (dJ ops o s = some true -> ⟨i, o, s, s1⟩ ∈ E3) -> k (st (i + 1 + l.length)) = some r ->
          ∃st, DF E Ψ ops P (o:: l) i as s st /\ k (st (i + (o:: l).length)) = some r:=by
        intro E3 s1 st hr hs ha gf hk;have e0:∀n, uK i s st (i + 1 + n) = st (i + 1 + n):=fun n=>Ae i s st n;have ei:uK i s st i = s:=Af i s st;refine⟨uK i s st, ⟨ei, fun j o' hj=>?_, fun j o' hj=>?_, ?_⟩, ?_⟩
        · cases j with
          |zero=>simp at hj; subst hj; exact hd
          |succ j=>exact hr.dst j o' (by simpa using hj)
        · cases j with
          |zero=>simp at hj; subst hj;have e1:=e0 0;simp only[Nat.add_zero]at e1⊢;rw[e1, ei, hr.first];exact hs
          |succ j=>have e1:=e0 j;have e2:=e0 (j + 1);have:=hr.step j o' (by simpa using hj);rw[show i + (j + 1) = i + 1 + j by omega, e1];rw[show i + 1 + j + 1 = i + 1 + (j + 1)by omega, e2];exact this
        · obtain⟨as', hc, h1, h3⟩:=hr.EU
          refine⟨as', hc, fun x hx=>h1 x (ha x hx), fun j o' hj hg=>?_⟩;cases j with
          |zero=>simp at hj; subst hj;have e1:=e0 0;simp only[Nat.add_zero]at e1 hg⊢;rw[ei]at hg;rw[e1, ei, hr.first];exact h1 _ (gf hg)
          |succ j=>have e1:=e0 j;have e2:=e0 (j + 1);rw[show i + (j + 1) = i + 1 + j by omega]at hg⊢;rw[e1]at hg⊢;rw[show i + 1 + j + 1 = i + 1 + (j + 1)by omega, e2];exact h3 j o' (by simpa using hj) hg
        · have e1:=e0 l.length
          rw[show i + (o:: l).length = i + 1 + l.length by simp; omega, e1];exact hk
      have yes:dJ ops o s = some true -> (bp E (aP R) (kZ Ψ R) o s fun s1=>k7 E (aP R) (kZ Ψ R) ops P (i + 1) l (⟨i, o, s, s1⟩:: as) s1 k) = some r ->
          ∃st, DF E Ψ ops P (o:: l) i as s st /\ k (st (i + (o:: l).length)) = some r:=by
        intro hg hk;rw[yP]at hk;cases h1:step1 E Ψ o s with
        |none=>rw[h1]at hk; cases hk
        |some s1=>rw[h1]at hk;simp only[Option.bind_some]at hk;obtain⟨st, hr, hks⟩:=ny l (i + 1) _ s1 k hk;exact glue _ s1 st hr (.inl ⟨hg, h1⟩) (fun x hx=>List.mem_cons_of_mem _ hx) (fun _=>by simp) hks
      have no:dJ ops o s = some false -> k7 E (aP R) (kZ Ψ R) ops P (i + 1) l as (s.ck o.dst .undef) k = some r ->
          ∃st, DF E Ψ ops P (o:: l) i as s st /\ k (st (i + (o:: l).length)) = some r:=by
        intro hg hk;obtain⟨st, hr, hks⟩:=ny l (i + 1) _ _ k hk;exact glue _ _ st hr (.inr ⟨hg, rfl⟩) (fun x hx=>hx) (fun h=>by rw[hg]at h; cases h) hks
      cases hgd:o.guard with
      |none=>rw[hgd]at h; exact yes (by unfold dJ; rw[hgd]) h
      |some gw=>
        obtain⟨j, want⟩:=gw;rw[hgd]at h;simp only[]at h;cases ht:(ops[j]?).bind (·.dst)with
        |none=>rw[ht]at h; cases h
        |some t=>
          rw[ht]at h;simp only[]at h;cases jO:s.sl t with
          |one lf=>
            rw[jO]at h;cases lf with
            |val tt b=>
              cases tt with
              |bool=>
                have Fe:dJ ops o s = some ((show Bool from b)==want):=by unfold dJ;rw[hgd]; simp only[]; rw[ht]; simp only[]; rw[jO]
                rcases(show ∃c:Bool, c = b from⟨b, rfl⟩)with ⟨c, rfl⟩;cases c with
                |true=>
                  have hT:s.set t (.one (.val .bool (real.lN true))) = s:=St.mR jO;rw[hT]at h;cases want with
                  |true=>exact yes Fe h
                  |false=>exact no Fe h
                |false=>
                  have hT:s.set t (.one (.val .bool (real.lN false))) = s:=St.mR jO;rw[hT]at h;cases want with
                  |true=>exact no Fe h
                  |false=>exact yes Fe h
              |_=>cases h
            |undef=>refine no ?_ h;unfold dJ;rw[hgd]; simp only[]; rw[ht]; simp only[]; rw[jO]
            |_=>cases h
          |_=>rw[jO]at h; cases h
end
end Go.R
namespace Go.R
section
variable {E:Env} {Ψ:bV->Option ij} {ops:Array Oper}
def tu(s:S)(o:Oper)(id:Nat):Bool:=(l6 s o).any (Nat.beq id)||j6 o id||(mX s o&&Nat.ble c7 id)
def Sep(s:S)(o:Oper)(o':Oper)(t t':S):Prop:=(∀id∈l6 s o,((t.ob id).g=(t'.ob id).g/\(t.ob id).h=(t'.ob id).h)/\j6 o' id=false/\(mX t o'=true->id<c7))/\aZ (o.dst.getD 0) 0 0+2048<=c7
structure tU (E:Env) (Ψ:bV->Option ij) (ops:Array Oper) (st:Nat->S):Prop where
 stat:∀(i:Nat) (o:Oper),ops.toList[i]? = some o->Stat ops i o
 step:∀(i:Nat) (o:Oper),ops.toList[i]? = some o->nu E Ψ ops o (st i) (st (i+1))
 apart:∀(i j:Nat) (o o':Oper),ops.toList[i]? = some o->ops.toList[j]? = some o'->i≠j->dJ ops o (st i)=some true->dJ ops o' (st j)=some true ->
  ef (PP ops) i j=true\/ef (PP ops) j i=true\/(¬(mX (st i) o=true/\mX (st j) o'=true)/\Sep (st i) o o' (st j) (st (j+1))/\Sep (st j) o' o (st i) (st (i+1)))
theorem qC{a b:vJ real}(h:xJ a b=true):Sep a.s a.o b.o b.s b.s':=by
 unfold xJ at h;rw[Bool.and_eq_true]at h;refine⟨fun id hid=>?_,Nat.le_of_ble_eq_true h.2⟩;have:=List.all_eq_true.1 h.1 id hid;simp only[xI,Bool.and_eq_true,Bool.or_eq_true]at this;obtain⟨⟨h1,h2⟩,h3,h4⟩:=this;refine⟨⟨Nat.eq_of_beq_eq_true h1,Nat.eq_of_beq_eq_true h2⟩,by simpa using h3,fun hw=>?_⟩;rcases h4 with h4|h4
 ·rw[hw]at h4;cases h4
 ·exact Nat.le_of_ble_eq_true h4
theorem BX{st:Nat->S}{s:S}(hs:lW (PP ops) ops 0 ops.toList=true)(h:DF E Ψ ops (PP ops) ops.toList 0 [] s st):tU E Ψ ops st where
 stat i o ho:=by have:=ox rfl hs i o ho;rwa[Nat.zero_add]at this
 step i o ho:=by have:=h.step i o ho;rwa[Nat.zero_add]at this
 apart i j o o' hi hj hne hg DK:=by
  obtain⟨as',hc,_,hr⟩:=h.EU;have h1:=hr i o hi (by rwa[Nat.zero_add]);have h2:=hr j o' hj (by rwa[Nat.zero_add]);simp only[Nat.zero_add]at h1 h2;have:=List.all_eq_true.1 (List.all_eq_true.1 hc _ h1) _ h2;simp only[Bool.or_eq_true,Bool.and_eq_true]at this;rcases this with h|h|h|⟨h3,h5,h6⟩
  ·exact absurd (Nat.eq_of_beq_eq_true h) hne
  ·exact .inl h
  ·exact .inr (.inl h)
  ·refine .inr (.inr ⟨fun hw=>?_,qC h5,qC h6⟩);have rA:mX (st i) o=true:=hw.1;have DP:mX (st j) o'=true:=hw.2;simp[rA,DP]at h3
theorem St.tK(s:S)(d:Option Nat)(v:cm):(s.ck d v).ob=s.ob:=by cases d <;> rfl
theorem St.sE(s:S){d:Option Nat}{t:Nat}(h:d=some t)(v:cm):(s.ck d v).sl t=v:=by subst h;exact St.iz s t v
theorem St.xK(s:S){d:Option Nat}{t:Nat}(h:d≠some t)(v:cm):(s.ck d v).sl t=s.sl t:=by
 cases d with
 |none=>rfl
 |some d=>exact St.kT _ _ (fun e=>h (by rw[e]))
theorem rK{s:S}{o:Oper}{cur:S}(BC:∀x∈ca o.op,∀t,ev E cur t x=ev E s t x)(cf:∀id,tu s o id=true->cur.ob id=s.ob id):cur=s.mx ⟨cur.sl,tu s o,cur.ob⟩/\zy E s ⟨cur.sl,tu s o,cur.ob⟩ o:=by
 have Ej:cur=s.mx ⟨cur.sl,tu s o,cur.ob⟩:=by
  cases cur with
  |mk sl ob=>
   unfold St.mx;congr 1;funext id;show ob id=bif tu s o id then s.ob id else ob id
   cases hb:tu s o id with
   |true=>exact cf id hb
   |false=>rfl
 refine⟨Ej,⟨fun x hx t=>by rw[<-Ej];exact BC x hx t,fun hc x hx=>?_,fun hm i h1 h2=>?_,fun hw i hi=>?_⟩⟩
 ·have hin:∀j∈mN s x,∀i∈reach s j,tu s o i=true:=by
   intro j hj i hi;have hm:i∈l6 s o:=by unfold l6;rw[hc];exact List.mem_flatMap.2 ⟨x,hx,List.mem_flatMap.2 ⟨j,hj,hi⟩⟩
   show(_||_||_)=true;rw[Bool.or_eq_true,Bool.or_eq_true];exact .inl (.inl (List.any_eq_true.2 ⟨i,hm,Nat.beq_refl i⟩))
  refine⟨fun j hj=>hin j hj j (by simp[reach]),fun j hj ls hls l hl i hi=>hin j hj i ?_⟩;unfold reach;rw[hls];exact List.mem_cons_of_mem _ (List.mem_flatMap.2 ⟨l,hl,hi⟩)
 ·have hp:j6 o i=true:=by
   unfold j6;rw[hm];simp only[Bool.true_and,Bool.and_eq_true];exact⟨Nat.ble_eq_true_of_le h1,Nat.ble_eq_true_of_le h2⟩
  show(_||_||_)=true;rw[hp];simp
 ·show(_||_||(mX s o&&Nat.ble c7 i))=true;rw[hw,Nat.ble_eq_true_of_le hi];simp
theorem A3{d:Option Nat}{f:Fr}{s:S}{t:Nat}(ht:d≠some t):(Dx d f s).sl t=f.sl t:=by
 cases d with
 |none=>rfl
 |some e=>
  have hne:t≠e:=fun e'=>ht (by rw[e']);show(bif Nat.beq t e then s.sl t else f.sl t)=f.sl t;cases hb:Nat.beq t e with
  |true=>exact absurd (Nat.eq_of_beq_eq_true hb) hne
  |false=>rfl
theorem A2{d:Option Nat}{f:Fr}{s:S}{t:Nat}(ht:d=some t):(Dx d f s).sl t=s.sl t:=by subst ht;show(bif Nat.beq t t then s.sl t else f.sl t)=s.sl t;rw[Nat.beq_refl];rfl
theorem tO{o:Oper}{s s':S}(h:step1 E Ψ o s=some s'):(∀t,o.dst≠some t->s'.sl t=s.sl t)/\∀id,tu s o id=false->s'.ob id=s.ob id:=by
 obtain⟨e1,e2⟩:=rK (E:=E) (s:=s) (o:=o) (cur:=s) (fun _ _ _=>rfl) (fun _ _=>rfl);have:=xL (Ψ:=Ψ) e2;rw[<-e1,h]at this;injection this with this
 refine⟨fun t ht=>by rw[this];exact A3 ht,fun id hid=>?_⟩;rw[this];show(bif tu s o id then s'.ob id else s.ob id)=s.ob id;rw[hid];rfl
theorem nu.sl{o:Oper}{s s':S}(h:nu E Ψ ops o s s'){t:Nat}(ht:o.dst≠some t):s'.sl t=s.sl t:=by
 rcases h with ⟨_,h⟩|⟨_,h⟩
 ·exact(tO h).1 t ht
 ·subst h;exact St.xK s ht _
variable {st:Nat->S} (H:tU E Ψ ops st)
include H
theorem tU.fin{j:Nat}{o:Oper}{t:Nat}(ho:ops.toList[j]? = some o)(hd:o.dst=some t):∀(i:Nat),i<=ops.toList.length->j<i->(st i).sl t=(st (j+1)).sl t:=by
 intro i;induction i with
 |zero=>intro _ h;exact absurd h (Nat.not_lt_zero _)
 |succ i ih=>
  intro hi hj;rcases Nat.lt_or_ge j i with hlt|hge
  ·have pP:i<ops.toList.length:=hi;have BD:=List.getElem?_eq_getElem pP;rw[(H.step i _ BD).sl ((H.stat j o ho).lone t hd i _ BD (by omega))];exact ih (Nat.le_of_lt pP) hlt
  ·have:i=j:=by omega
   rw[this]
theorem tU.Dm{t:Nat}:∀(i:Nat),i<=ops.toList.length->(∀(j:Nat) (o:Oper),j<i->ops.toList[j]? = some o->o.dst≠some t)->(st i).sl t=(st 0).sl t:=by
 intro i;induction i with
 |zero=>intro _ _;rfl
 |succ i ih=>intro hi h;have pP:i<ops.toList.length:=hi;have BD:=List.getElem?_eq_getElem pP;rw[(H.step i _ BD).sl (h i _ (Nat.lt_succ_self _) BD)];exact ih (Nat.le_of_lt pP) fun j o hj=>h j o (Nat.lt_succ_of_lt hj)
theorem tU.init{t:Nat}(h:∀(j:Nat) (o:Oper),ops.toList[j]? = some o->o.dst≠some t):∀(i:Nat),i<=ops.toList.length->(st i).sl t=(st 0).sl t:=by
 intro i;induction i with
 |zero=>intro _;rfl
 |succ i ih=>intro hi;have pP:i<ops.toList.length:=hi;have BD:=List.getElem?_eq_getElem pP;rw[(H.step i _ BD).sl (h i _ BD)];exact ih (Nat.le_of_lt pP)
omit H in
theorem lJ(id:Nat){m:Nat}:∀(i:Nat),i<=ops.toList.length->m<=i->(∀(j:Nat) (o:Oper),m<=j->j<i->ops.toList[j]? = some o->((st (j+1)).ob id)=(st j).ob id)->(st i).ob id=(st m).ob id:=by
 intro i;induction i with
 |zero=>
  intro _ h _;have:m=0:=by omega
  rw[this]
 |succ i ih=>
  intro hi hm hall;rcases Nat.lt_or_ge i m with hlt|hge
  ·have:m=i+1:=by omega
   rw[this]
  ·have pP:i<ops.toList.length:=hi;rw[hall i _ hge (Nat.lt_succ_self _) (List.getElem?_eq_getElem pP)];exact ih (Nat.le_of_lt pP) hge (fun j o h1 h2 h3=>hall j o h1 (Nat.lt_succ_of_lt h2) h3)
omit H in
def Up(D:Array Bool)(i:Nat):Prop:=D.getD i false=true
structure At (ops:Array Oper) (st:Nat->S) (D:Array Bool) (cur:S):Prop where
 closed:∀(i j:Nat) (o:Oper),ops.toList[i]? = some o->Up D i->ef (PP ops) i j=true->Up D j
 done:∀(j:Nat) (o:Oper) (t:Nat),ops.toList[j]? = some o->Up D j->o.dst=some t->cur.sl t=(st ops.toList.length).sl t
 rest:∀(t:Nat),(∀(j:Nat) (o:Oper),ops.toList[j]? = some o->Up D j->o.dst≠some t)->cur.sl t=(st 0).sl t
 heap:∀id,∃m,m<=ops.toList.length/\(∀(b:Nat) (o:Oper),ops.toList[b]? = some o->(st (b+1)).ob id≠(st b).ob id->(Up D b↔b<m))/\cur.ob id=(st m).ob id
omit H in
theorem nS{D:Array Bool}{i j:Nat}(hi:i<D.size):Up (D.setIfInBounds i true) j↔j=i\/Up D j:=by
 unfold Up;simp only[Array.getD_eq_getD_getElem?,Array.getElem?_setIfInBounds];by_cases h:i=j
 ·subst h;simp[hi]
 ·have h':¬j=i:=fun e=>h e.symm;simp[h,h']
omit H in
theorem wL{d1 d2 i:Nat}(h:d1≠d2)(a1:aZ d1 0 0<=i)(a2:i+1<=aZ d1 0 0+2048)(b1:aZ d2 0 0<=i)(b2:i+1<=aZ d2 0 0+2048):False:=by unfold aZ at a1 a2 b1 b2;omega
theorem tU.any {D:Array Bool} {cur:S} (hD:D.size = ops.size) (hA:At ops st D cur) {i:Nat} {o:Oper} (ho:ops.toList[i]? = some o) (hn:¬Up D i)
    (hr:∀e ∈ o.after.toList, Region.binds .any e = true -> Up D e.on):∃c8, nu E Ψ ops o cur c8 /\ At ops st (D.setIfInBounds i true) c8:=by
  have pP:i<ops.toList.length:=by
    rcases Nat.lt_or_ge i ops.toList.length with h|h
    · exact h
    · rw[List.getElem?_eq_none h]at ho; cases ho
  have Aw:i<D.size:=by rw[hD]; simpa using pP
  have hlt:=ym H.stat;have S1:=H.stat i o ho;have pre:∀j, ef (PP ops) i j = true -> Up D j:=by
    intro j hj;obtain⟨e, h1, h2, h3⟩:=pO ho hj;have hu:=hr e h1 h2;rcases h3 with h3|h3
    · rwa[<- h3]
    · have hel:e.on<ops.toList.length:=Nat.lt_trans (S1.back e h1 h2) pP
      exact hA.closed e.on j _ (List.getElem?_eq_getElem hel) hu h3
  have reads:∀t ∈ kS ops o, cur.sl t = (st i).sl t:=by
    intro t ht;by_cases hex:∃(j:Nat) (o':Oper), ops.toList[j]? = some o' /\ o'.dst = some t
    · obtain⟨j, o', hj, hd⟩:=hex
      rcases S1.reads t ht j o' hj hd with hb|hb
      case inr=>
        have hij:=hlt j i o' hj hb;have HL:¬Up D j:=fun hu=>hn (hA.closed j i o' hj hu hb);rw[hA.rest t (fun j' Gg hj' oF Db=>by
          by_cases e:j = j'
          · subst e; exact HL oF
          · exact(H.stat j o' hj).lone t hd j' Gg hj' e Db)]
        refine(H.Dm i (Nat.le_of_lt pP) fun j' Gg FY hj' Db=>?_).symm;exact(H.stat j o' hj).lone t hd j' Gg hj' (by omega) Db
      have hji:=hlt i j o ho hb;rw[hA.done j o' t hj (pre j hb) hd, H.fin hj hd _ (Nat.le_refl _) (Nat.lt_trans hji pP), <- H.fin hj hd i (Nat.le_of_lt pP) hji]
    · have hno:∀(j:Nat) (o':Oper), ops.toList[j]? = some o' -> o'.dst ≠ some t:=fun j o' hj hd=>hex ⟨j, o', hj, hd⟩
      rw[hA.rest t (fun j o' hj _=>hno j o' hj), H.init hno i (Nat.le_of_lt pP)]
  have Au:dJ ops o cur = dJ ops o (st i):=by
    unfold dJ;cases hg:o.guard with
    |none=>rfl
    |some gw=>
      obtain⟨j, want⟩:=gw;simp only[];cases ht:(ops[j]?).bind (·.dst)with
      |none=>rfl
      |some t=>simp only[];rw[reads t (by unfold kS GB; rw[hg]; simp only[]; rw[ht]; simp)]
  have EZ:∀t, Operand.tmp t ∈ ca o.op -> t ∈ kS ops o:=by intro t ht;unfold kS;refine List.mem_append.2 (.inr (List.mem_filterMap.2 ⟨.tmp t, ht, rfl⟩))
  have BC:∀x ∈ ca o.op, ∀t, ev E cur t x = ev E (st i) t x:=by
    intro x hx t;cases x with
    |tmp j=>exact reads j (EZ j hx)
    |_=>rfl
  have ordered:∀id, tu (st i) o id = true -> dJ ops o (st i) = some true -> ∀(b:Nat) (ob:Oper), ops.toList[b]? = some ob -> b ≠ i -> (st (b + 1)).ob id ≠ (st b).ob id -> ef (PP ops) i b = true \/ ef (PP ops) b i = true:=by
    intro id hid Er b ob hb hne jN;rcases H.step b ob hb with ⟨HC, h1⟩|⟨_, h1⟩
    · rcases H.apart i b o ob ho hb (fun e=>hne e.symm) Er HC with h|h|⟨HV, hs1, tR⟩
      · exact .inl h
      · exact .inr h
      · exfalso
        have hgrow:=yQ (E:=E) (Ψ:=Ψ) (s:=st b) (o:=ob) _ h1 id;have jM:tu (st b) ob id = true:=by
          cases hq:tu (st b) ob id with
          |true=>rfl
          |false=>exact absurd ((tO h1).2 id hq) jN
        unfold tu at hid jM;rw[Bool.or_eq_true, Bool.or_eq_true, Bool.and_eq_true]at hid jM;have mem:∀ {s:S} {o:Oper}, (l6 s o).any (Nat.beq id) = true -> id ∈ l6 s o:=by intro s o h;obtain⟨x, hx, HW⟩:=List.any_eq_true.1 h;rw[Nat.eq_of_beq_eq_true HW]; exact hx
        have pr:∀ {o:Oper}, j6 o id = true -> aZ (o.dst.getD 0) 0 0 + 2048 <= c7 -> id<c7:=by intro o h h2;unfold j6 at h;simp only[Bool.and_eq_true]at h;have:=Nat.le_of_ble_eq_true h.2.2;omega
        rcases hid with (hid|hid)|hid
        · obtain⟨⟨e1, e2⟩, _⟩:=hs1.1 id (mem hid)
          exact jN (hgrow.same e1 e2)
        · rcases jM with (jM|jM)|jM
          · have:=(tR.1 id (mem jM)).2.1
            rw[hid]at this; cases this
          · unfold j6 at hid jM
            simp only[Bool.and_eq_true]at hid jM;obtain⟨m1, a1, a2⟩:=hid;obtain⟨m2, b1, b2⟩:=jM;have a1:=Nat.le_of_ble_eq_true a1;have a2:=Nat.le_of_ble_eq_true a2;have b1:=Nat.le_of_ble_eq_true b1;have b2:=Nat.le_of_ble_eq_true b2;cases FM:o.dst with
            |none=>exact S1.made m1 FM
            |some d1=>
              cases nf:ob.dst with
              |none=>exact(H.stat b ob hb).made m2 nf
              |some d2=>have GL:d1 ≠ d2:=fun e=>S1.lone d1 FM b ob hb (fun e=>hne e.symm) (by rw[nf, e]);rw[FM]at a1 a2;rw[nf]at b1 b2;simp only[Option.getD_some]at a1 a2 b1 b2;exact wL GL a1 a2 b1 b2
          · have:=pr hid hs1.2
            have:=Nat.le_of_ble_eq_true jM.2;omega
        · have hge:=Nat.le_of_ble_eq_true hid.2
          rcases jM with (jM|jM)|jM
          · have:=(tR.1 id (mem jM)).2.2 hid.1
            omega
          · have:=pr jM tR.2
            omega
          · exact HV ⟨hid.1, jM.1⟩
    · exact absurd (by rw[h1, St.tK]) jN
  have G3:dJ ops o (st i) = some true -> ∀id, tu (st i) o id = true -> cur.ob id = (st i).ob id:=by
    intro Er id hid;obtain⟨m, hm, DN, cf⟩:=hA.heap id;rw[cf];have key:∀(b:Nat) (ob:Oper), ops.toList[b]? = some ob -> b ≠ i -> (st (b + 1)).ob id ≠ (st b).ob id -> (Up D b ↔ b<i):=by
      intro b ob hb hne jN;rcases ordered id hid Er b ob hb hne jN with h|h
      · have:=hlt i b o ho h
        exact⟨fun _=>this, fun _=>pre b h⟩
      · have hib:=hlt b i ob hb h
        exact⟨fun hu=>absurd (hA.closed b i ob hb hu h) hn, fun h'=>by omega⟩
    rcases Nat.lt_or_ge i m with Ff|HJ
    · refine lJ (ops:=ops) (st:=st) id m hm (Nat.le_of_lt Ff) fun j oj h1 h2 hj=>?_
      refine Classical.byContradiction fun jN=>?_;have hu:=(DN j oj hj jN).2 h2;by_cases e:j = i
      · subst e; exact hn hu
      · have:=(key j oj hj e jN).1 hu; omega
    · refine(lJ (ops:=ops) (st:=st) id i (Nat.le_of_lt pP) HJ fun j oj h1 h2 hj=>?_).symm
      refine Classical.byContradiction fun jN=>?_;have hu:=(key j oj hj (by omega) jN).2 h2;have:=(DN j oj hj jN).1 hu;omega
  have fin:∀c8:S, (∀t, o.dst = some t -> c8.sl t = (st (i + 1)).sl t) -> (∀t, o.dst ≠ some t -> c8.sl t = cur.sl t) -> (∀id, (c8.ob id = (st (i + 1)).ob id /\ cur.ob id = (st i).ob id /\ dJ ops o (st i) = some true /\ tu (st i) o id = true) \/ (c8.ob id = cur.ob id /\ (st (i + 1)).ob id = (st i).ob id)) -> At ops st (D.setIfInBounds i true) c8:=by
    intro c8 h1 h2 h3;refine⟨fun a b oa GU Fi hb=>?_, fun j oj t hj hu hd=>?_, fun t ht=>?_, fun id=>?_⟩
    · rw[nS Aw]at Fi⊢
      rcases Fi with e|Fi
      · subst e
        rw[GU]at ho; injection ho with ho; subst ho
        exact .inr (pre b hb)
      · exact .inr (hA.closed a b oa GU Fi hb)
    · rw[nS Aw]at hu
      by_cases e:j = i
      · subst e
        rw[hj]at ho; injection ho with ho; subst ho
        rw[h1 t hd, H.fin hj hd _ (Nat.le_refl _) pP]
      · have hu:Up D j:=hu.resolve_left e
        rw[h2 t (fun Db=>(H.stat j oj hj).lone t hd i o ho e Db)];exact hA.done j oj t hj hu hd
    · rw[h2 t (ht i o ho ((nS Aw).2 (.inl rfl)))]
      exact hA.rest t fun j oj hj hu=>ht j oj hj ((nS Aw).2 (.inr hu))
    · rcases h3 id with ⟨h3, h4, Er, hid⟩|⟨h3, h4⟩
      · refine⟨i + 1, pP, fun b ob hb jN=>?_, h3⟩
        rw[nS Aw];by_cases e:b = i
        · subst e; exact⟨fun _=>Nat.lt_succ_self _, fun _=>.inl rfl⟩
        · rcases ordered id hid Er b ob hb e jN with h|h
          · have:=hlt i b o ho h
            exact⟨fun _=>by omega, fun _=>.inr (pre b h)⟩
          · have hib:=hlt b i ob hb h
            exact⟨fun hu=>absurd (hA.closed b i ob hb (hu.resolve_left e) h) hn, fun h'=>by omega⟩
      · obtain⟨m, hm, DN, cf⟩:=hA.heap id
        refine⟨m, hm, fun b ob hb jN=>?_, h3.trans cf⟩;rw[nS Aw, <- DN b ob hb jN];refine⟨fun h=>h.resolve_left fun e=>?_, .inr⟩;subst e;exact jN h4
  rcases H.step i o ho with ⟨hg, hst⟩|⟨hg, hst⟩
  · obtain⟨e1, e2⟩:=rK (E:=E) (s:=st i) (o:=o) (cur:=cur) BC (G3 hg)
    have GV:=xL (Ψ:=Ψ) e2;rw[<- e1, hst]at GV;refine⟨Dx o.dst ⟨cur.sl, tu (st i) o, cur.ob⟩ (st (i + 1)), .inl ⟨by rw[Au]; exact hg, GV⟩, fin _ (fun t ht=>A2 ht) (fun t ht=>A3 ht) (fun id=>?_)⟩;cases hid:tu (st i) o id with
    |true=>refine .inl ⟨?_, G3 hg id hid, hg, rfl⟩;show(bif tu (st i) o id then(st (i + 1)).ob id else cur.ob id) = _;rw[hid]; rfl
    |false=>refine .inr ⟨?_, (tO hst).2 id hid⟩;show(bif tu (st i) o id then(st (i + 1)).ob id else cur.ob id) = _;rw[hid]; rfl
  · refine⟨cur.ck o.dst (.one .undef), .inr ⟨by rw[Au]; exact hg, rfl⟩, fin _ (fun t ht=>?_) (fun t ht=>St.xK _ ht _) (fun id=>.inr ⟨by rw[St.tK], by rw[hst, St.tK]⟩)⟩
    rw[hst, St.sE _ ht, St.sE _ ht]
theorem tU.all{D:Array Bool}{cur:S}(hA:At ops st D cur)(hD:∀(i:Nat),i<ops.toList.length->Up D i):cur=st ops.toList.length:=by
 have h1:cur.sl=(st ops.toList.length).sl:=by
  funext t;by_cases hex:∃(j:Nat) (o':Oper),ops.toList[j]? = some o'/\o'.dst=some t
  ·obtain⟨j,o',hj,hd⟩:=hex;refine hA.done j o' t hj (hD j ?_) hd;rcases Nat.lt_or_ge j ops.toList.length with h|h
   ·exact h
   ·rw[List.getElem?_eq_none h]at hj;cases hj
  ·have hno:∀(j:Nat) (o':Oper),ops.toList[j]? = some o'->o'.dst≠some t:=fun j o' hj hd=>hex ⟨j,o',hj,hd⟩;rw[hA.rest t (fun j o' hj _=>hno j o' hj),H.init hno _ (Nat.le_refl _)]
 have h2:cur.ob=(st ops.toList.length).ob:=by funext id;obtain⟨m,hm,DN,cf⟩:=hA.heap id;rw[cf];refine(lJ (ops:=ops) (st:=st) id _ (Nat.le_refl _) hm fun j oj h1 h2 hj=>?_).symm;refine Classical.byContradiction fun jN=>?_;have:=(DN j oj hj jN).1 (hD j h2);omega
 cases cur;cases hst:st ops.toList.length;rw[hst]at h1 h2;simp only[]at h1 h2;rw[h1,h2]
end
end Go.R

