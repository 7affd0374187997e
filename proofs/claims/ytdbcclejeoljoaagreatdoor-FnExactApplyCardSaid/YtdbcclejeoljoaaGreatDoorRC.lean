import Derived.Test.YtdbcclejeoljoaaGreatDoorRB
import Derived.MapKept
import Derived.Laws.BytesString
import Derived.Tactics
/- An abstract interpreter over the code of Go functions, proved sound once: what it answers, the code computes. Conditions: none. -/
set_option linter.all false
set_option maxRecDepth 4000
namespace Go.R
variable {H:Nat->Value}
open Classical
section
variable {R:Type}{P:Program}{E:Env}{ω:aq}{a:Act}{w:World}{s:S}{k:S->Option R}{r:R}{o:Oper}{Q:Exit->Act->World->Prop}
def xW {B:Nat->Prop} {t t' e:Nat} {cs:ar} {n m:Nat} {G S:Value} {I:TypeInfo} {z:Value} (L:P.underlying t=some (.slice e)) (E:P.info? e=some I) (hz:I.zero=some z) (F:I.size=cs.len) (hzs:z.cells.size=cs.len) (hby:I.bytes<=65536)
  (hx:(∃C,G=.slice C 0 0/\n=0)\/∃b c arr,G=.slice (some ⟨b,0,none⟩) n c/\n<=c/\w.heap[b]? = some (.cells arr e (0,0))/\arr.size=c*cs.len/\B b)
  {d:List Value} (i:Src P I.size t' S m d w) (DV:((n+m:Nat):Int)<=1073741824) (ty:Nat):
  ∃v g,(Builtin.append_ #[t,t'] ty #[G,S]).run P w=.ok v g/\((∃C,v=.slice C 0 0/\g=w/\n=0/\m=0) \/
   ∃p D f a,v=.slice (some ⟨p,0,none⟩) (n+m) D/\n+m<=D/\g.heap[p]? = some (.cells f e (0,0))/\f.size=D*cs.len/\a.length=n*cs.len/\(∀j,j<(n+m)*cs.len->f[j]? = (a++d)[j]?) /\
    (∀b c,G=.slice (some ⟨b,0,none⟩) n c->∀j,j<n*cs.len->a[j]? = w.cell? ⟨b,j,none⟩)/\(g.os=w.os/\g.tape=w.tape/\g.output=w.output/\w.drawn<=g.drawn)/\w.heap.size<=g.heap.size/\(∀b,b≠p->b<w.heap.size->g.heap[b]? = w.heap[b]?)/\p<g.heap.size /\
    (p<w.heap.size->B p)):=by
 have y:d.length=m*cs.len:=by rw[i.newsLen,F]
 have grow:∀(o:Option Addr) (c:Nat) (a:List Value),G=.slice o n c->c<n+m->a.length=n*cs.len->(Builtin.firstCells I.size n (.slice o n c)).run P w.drew=.ok a.toArray w.drew ->
   (∀b c,G=.slice (some ⟨b,0,none⟩) n c->∀j,j<n*cs.len->a[j]? = w.cell? ⟨b,j,none⟩)->∃v g,(Builtin.append_ #[t,t'] ty #[G,S]).run P w=.ok v g/\∃p D f a,v=.slice (some ⟨p,0,none⟩) (n+m) D/\n+m<=D/\g.heap[p]? = some (.cells f e (0,0))/\f.size=D*cs.len/\a.length=n*cs.len/\(∀j,j<(n+m)*cs.len->f[j]? = (a++d)[j]?) /\
    (∀b c,G=.slice (some ⟨b,0,none⟩) n c->∀j,j<n*cs.len->a[j]? = w.cell? ⟨b,j,none⟩)/\(g.os=w.os/\g.tape=w.tape/\g.output=w.output/\w.drawn<=g.drawn)/\w.heap.size<=g.heap.size/\(∀b,b≠p->b<w.heap.size->g.heap[b]? = w.heap[b]?)/\p<g.heap.size /\
    (p<w.heap.size->B p):=by
  intro o c a M hc q Gd O;have r:Builtin.nextslicecap (n+m) c*I.bytes<=281474976710656:=by
   refine growslice_fits hc ?_;have h1:(n+m)*I.bytes<=(n+m)*65536:=Nat.mul_le_mul_left _ hby;have h2:n+m<=1073741824:=by omega
   omega
  have h:=run_append_grow_src (P:=P) w t t' ty e I z L E hz o n c a Gd S m d i hc (by omega) r;rw[<-M]at h;have hge:=grownCap_ge w (n+m) c e;have V:eF w (w.drew.alloc (.cells ((a++d).toArray++Builtin.zeroCells z.cells (grownCap w (n+m) c e-(n+m))) e)):=(eF.drew w).trans (eF.alloc w.drew _);refine⟨_,_,h,w.heap.size,_,(a++d).toArray++Builtin.zeroCells z.cells (grownCap w (n+m) c e-(n+m)),a,rfl,hge,heap_alloc_new w.drew _,?_,q,λj s=>?_,O,⟨V.os,V.tape,V.output⟩,V.size,λb _ Y=>V.block b Y,?_,λY=>absurd Y (eL _)⟩
  .have h1:(Builtin.zeroCells z.cells (grownCap w (n+m) c e-(n+m))).size=(grownCap w (n+m) c e-(n+m))*cs.len:=by simp[Builtin.zeroCells,hzs]
   rw[CY,h1,uo,cR,q,y,<-gB,<-gB];congr 1;omega
  .have R:j<(a++d).toArray.size:=by rw[uo,cR,q,y,<-gB];exact s
   rw[xB R,List.getElem?_toArray]
  .rw[fM];exact fK _
 rcases hx with ⟨C,M,rfl⟩|⟨b,c,arr,M,hn,X,H,hB⟩
 .by_cases h0:m=0
  .subst h0;have Dw:d=[]:=e9.1 (by rw[y];simp);subst Dw;refine⟨.slice C 0 0,w,?_,.inl ⟨C,rfl,rfl,rfl,rfl⟩⟩;subst M;have K:∀g:World,(Builtin.lenOf S).run P g=.ok 0 g:=i.len;have J:(Builtin.firstCells I.size 0 S).run P w=.ok #[] w:=i.cells;rcases i.kind with ⟨e',Q⟩|Q
   .cases C <;> simp[Builtin.append_,run_underlying L,run_underlying Q,sizeOf,typeInfo,E,K,J,storeCells]
   .cases C <;> simp[Builtin.append_,run_underlying L,run_underlying Q,sizeOf,typeInfo,E,K,J,storeCells]
  .obtain⟨v,g,q1,q2⟩:=grow C 0 [] M (by omega) (by simp) (by
    cases C with
    |none=>rfl
    |some A=>exact run_firstCells_some w.drew I.size 0 A 0 0 [] (by simp) (by simp)) (λ_ _ _ j s=>by simp at s)
   exact⟨v,g,q1,.inr q2⟩
 .have N:arr.toList.length=c*cs.len:=(gv (xs:=arr)).trans H;have x:min (n*cs.len) (c*cs.len)=n*cs.len:=Nat.min_eq_left (iM _ hn);have W:∀j,w.cell? ⟨b,j,none⟩=arr[j]?:=λj=>cell_of_row w b j arr e (0,0) X;have hold:∀U D,G=.slice (some ⟨U,0,none⟩) n D->∀j,j<n*cs.len->(arr.toList.take (n*cs.len))[j]? = w.cell? ⟨U,j,none⟩:=by
   intro U D k j s;rw[M]at k;injection k with k _ _
   injection k with k
   injection k with k
   subst k;rw[W,jv s,cZ]
  by_cases l:n+m<=c
  .have r:n*cs.len+d.length<=arr.size:=by rw[y,H,<-gB];exact iM _ l
   have h:=run_append_room_src (P:=P) w t t' ty e I L E b 0 n c S m d i l
    (λj s=>by rw[F,bC,W];simp;omega)
    (λj s=>by simp[World.frozen?,X])
   rw[F,bC]at h;rw[<-M]at h;obtain⟨f,g1,g2⟩:=dQ b e (0,0) d (n*cs.len) w arr X r;have T:=dL b d (n*cs.len) w;have q:(arr.toList.take (n*cs.len)).length=n*cs.len:=by rw[dB,N];exact x
   refine⟨_,_,h,.inr ⟨b,c,f,arr.toList.take (n*cs.len),rfl,l,g1,?_,q,λj s=>?_,hold,⟨T.os,T.tape,T.output⟩,by rw[T.size];exact aJ _,λU Z _=>T.block U Z,by rw[T.size];exact aM X,λ_=>hB⟩⟩
   .rw[<-gv,g2];simp only[cR,dB,kg,gv];omega
   .have R:j<(arr.toList.take (n*cs.len)++d).length:=by rw[cR,q,y,<-gB];exact s
    rw[<-cZ,g2,iV R]
  .obtain⟨v,g,q1,q2⟩:=grow (some ⟨b,0,none⟩) c (arr.toList.take (n*cs.len)) M (by omega) (by rw[dB,N];exact x) (by
    refine run_firstCells_some w.drew I.size n ⟨b,0,none⟩ n c _ ?_ ?_
    .rw[dB,N,F];exact x
    .intro j u L;have s:j<n*cs.len:=by have:=(l6.1 L).1;rw[dB]at this;omega
     rw[jv s,cZ]at L;rw[Addr.add_mid,bC,<-L];exact cell_of_row w.drew b j arr e (0,0) X) hold
   exact⟨v,g,q1,.inr q2⟩
inductive Dz (ω:aq) (w:World) (s s1:S) (e:Nat) (cs:ar) (x:List cs.T) (v:Value):Prop where
 |none (ad:Option Addr) (hv:v=.slice ad 0 0) (hx:x=[]) (hs:s1=s)
 |some (id:Nat) (ho:(s.ob id).o=.arr e cs true x) (hr:(Ty.sl e cs).R w ω (.deep (id,[])) v x) (hs:s1=s.bq id true .gone)
def tj{v:bK}{i:Nat}(h:ic s v=some i):∃g c,v=.one (.ref i g c [])/\(s.ob i).g=g/\∃e a x,(s.ob i).o=.arr e a true x:=by
 unfold ic at h;split at h
 .rename_i id g c;cases b:Nat.beq (s.ob id).g g with
  |false=>rw[b]at h;cases h
  |true=>
   rw[b]at h;simp only[az]at h;split at h
   .rename_i e a d x f;cases d with
    |false=>cases h
    |true=>
     injection h with h
     subst h;exact⟨g,c,rfl,bn b,e,a,x,f⟩
   .cases h
 .cases h
def vz(a:Option Nat)(Dx n d:Nat):Key->Option Key:=λk=>
 if k.1=Dx then(match k.2 with
  |[]=>none
  |(i,j)::r=>some (d,(i+n,j)::r))
 else if a=some k.1 then(match k.2 with
  |[]=>none
  |(i,j)::r=>if i<n then some (d,(i,j)::r)else none)
 else if k.1=d then none else some k
def qH{a:Option Nat}{Dx n d:Nat}{k q:Key}(h:vz a Dx n d k=some q):(k.1=Dx/\∃i j r,k.2=(i,j)::r/\q=(d,(i+n,j)::r))\/(k.1≠Dx/\a=some k.1/\∃i j r,k.2=(i,j)::r/\i<n/\q=(d,(i,j)::r))\/(k.1≠d/\q=k):=by
 unfold vz at h;split at h
 .rename_i e;split at h
  .cases h
  .rename_i i j r b;injection h with h
   exact .inl ⟨e,i,j,r,b,h.symm⟩
 .rename_i e;split at h
  .rename_i f;split at h
   .cases h
   .rename_i i j r b;split at h
    .rename_i c;injection h with h
     exact .inr (.inl ⟨e,f,i,j,r,b,c,h.symm⟩)
    .cases h
  .split at h
   .cases h
   .rename_i hd;injection h with h
    exact .inr (.inr ⟨hd,h.symm⟩)
def Bu{l:Option Nat}{Dx n d:Nat}(k k' q:Key)(h:vz l Dx n d k=some q)(s:vz l Dx n d k'=some q):k=k':=by
 rcases qH h with ⟨e,i,j,r,m,b⟩|⟨v,e,i,j,r,m,w,b⟩|⟨e,b⟩ <;> rcases qH s with ⟨c,p,t,u,o,a⟩|⟨x,c,p,t,u,o,y,a⟩|⟨c,a⟩
 .rw[b]at a;injection a with _ a
  injection a with a f
  injection a with a g
  have:i=p:=by omega
  exact p7 (e.trans c.symm) (by rw[m,o,this,g,f])
 .rw[b]at a;injection a with _ a
  injection a with a f
  injection a with a g
  omega
 .rw[b]at a;rw[<-a]at c;exact absurd rfl c
 .rw[b]at a;injection a with _ a
  injection a with a f
  injection a with a g
  omega
 .rw[b]at a;injection a with _ a
  injection a with a f
  injection a with a g
  rw[e]at c;injection c with c
  exact p7 c (by rw[m,o,a,g,f])
 .rw[b]at a;rw[<-a]at c;exact absurd rfl c
 .rw[a]at b;rw[<-b]at e;exact absurd rfl e
 .rw[a]at b;rw[<-b]at e;exact absurd rfl e
 .exact b.symm.trans a
def Ae{e:Nat}{c:ar}{q:Key}{v:Value}{x:List c.T}(h:(Ty.sl e c).R w ω (.deep q) v x):∃(g:Option Addr) (d:Nat) (a:List Value),v=.slice g x.length d/\x.length<=d/\a.length=x.length*c.len/\(∀u∈a,u.oneCell'=true) /\
  ((d=0/\x.length=0)\/∃b arr,g=some ⟨b,0,none⟩/\w.heap[b]? = some (.cells arr e (0,0))/\arr.size=d*c.len/\ω b=some q/\∀j u,a[j]? = some u->w.cell? ⟨b,j,none⟩=some u) /\
  ∀i,i<x.length->c.R w ω (λj=>.deep (q.1,q.2++[(i,j)])) (λj=>a[i*c.len+j]?) 0 (x.getD i (jk c)):=by
 obtain⟨g,n,d,t,B,y,p,z⟩:=h;subst B;rcases p with p|⟨b,arr,r,C,D,E⟩
 .exact⟨g,d,[],t,y,by rw[p.2];simp,by simp,.inl p,λi f=>absurd f (by omega)⟩
 .obtain⟨a,A,s⟩:=oT (w:=w) (b:=b) (off:=0) (m:=c.len) x.length (λi f=>by
   obtain⟨J,H,I⟩:=ar.Bn c _ _ 0 _ (z i _ f r);exact⟨J,H,λk u o=>by have:=I k u o;simpa using this⟩)
  refine⟨g,d,a,t,y,A,λu o=>?_,.inr ⟨b,arr,r,C,D,E,λj u o=>by have:=(s j u o).1;simpa using this⟩,λi f=>?_⟩
  .obtain⟨k,G,rfl⟩:=uv o;exact(s k _ (bR G)).2
  .refine ar.fq c _ _ _ 0 _ (λj F=>?_) (z i _ f r);rw[bC];have l:i*c.len+j<a.length:=by rw[A];exact iq f F (aJ _)
   have:=(s _ _ (bR l)).1;rw[bR l,<-this,bC,bC]
def vW {Q:S} (h:Rel H ω a w s) (hd:∀d,o.dst=some d->d<a.tmps.size) {t t' e e':Nat} {g:ar} {xs D:List g.T} {vx vy:Value} {id':Nat} (Y:id'≠0) {I:TypeInfo} {z:Value}
  (hu:P.underlying t=some (.slice e)) (hie:P.info? e=some I) (hz:I.zero=some z) (hsz:I.size=g.len) (hzs:z.cells.size=g.len) (hby:I.bytes<=65536) (AZ:P.underlying t'=some (.slice e'))
  (hx:Dz ω w s Q e g xs vx) {f gy hy Fs:Nat} (Ih:bU w ω s vy (.ref f gy hy [])) (HM:gC s (.one (.ref f gy hy []))=some (⟨e,g,D,Fs⟩:Cont real)) (IY:(Q.ob f).g=gy) (y:∃e g x,(Q.ob f).o=.arr e g true x)
  (DV:((xs++D).length:Int)<=1073741824) (ty:Nat)
  (hk:k (((Q.bq f true .gone).new id' (.arr e g true (xs++D))).bI o.dst (.one (.ref id' (((Q.bq f true .gone).new id' (.arr e g true (xs++D))).ob id').g 0 [])))=some r):
  ∃v w',(Builtin.append_ #[t,t'] ty #[vx,vy]).run P w=.ok v w'/\Ends H ω a w o.dst k r (a.put o.dst v) w':=by
 rw[gM]at DV;obtain⟨e0,IQ,x0,y⟩:=y;have yX:Q.ob f=s.ob f:=by
  cases hx with
  |none _ _ _ C=>rw[C]
  |some id ho _ C=>rw[C]at y⊢;exact St.aO _ _ _ λe=>by subst e;rw[St.ay]at y;cases y
 have U:s.cont f gy hy []=some (⟨e,g,D,Fs⟩:Cont real):=HM;rw[yX]at y;have Ir:(s.ob f).o=.arr e g true D/\Fs=2:=by
  rcases(dz U).2 with ⟨dp,T,_,f6⟩|⟨_,_,_,_,T,_⟩|⟨T,_⟩
  .simp only at T f6;rw[y]at T;injection T with g1 g2 g3 g4
   subst g1;subst g2;subst g3;have:=vR g4;subst this;exact⟨y,f6⟩
  .exact absurd rfl T
  .rw[y]at T;cases T
 obtain⟨Gr,rfl⟩:=Ir;have HO:(Ty.sl e g).R w ω (.deep (f,[])) vy D:=Ih.2.2 _ U;obtain⟨IL,IP,news,y1,y2,y3,y4,y5,y6⟩:=Ae HO;have hsrc:Src P I.size t' vy D.length news w:=Bo AZ y1 (by rw[hsz];exact y3) y4 (λhp=>by
  rcases y5 with y5|⟨b,arr,O,L,W,q4,q5⟩
  .omega
  .exact⟨b,0,O,λk u hu=>by rw[bC];exact q5 k u hu⟩)
 have hy0:f≠0:=h.pR (by rw[Gr];exact λe=>by cases e);have EL:Rel H ω a w Q:=by
  cases hx with
  |none _ _ _ C=>rw[C];exact h
  |some id _ _ C=>rw[C];exact h.gone id true
 have G1:=EL.gone f true;have hX:∃E:Option Nat,(∀i,E=some i->i≠0/\i≠f/\((Q.bq f true .gone).ob i).o=.gone) /\
   ((∃R,vx=.slice R 0 0/\xs.length=0)\/∃l b c arr,E=some l/\vx=.slice (some ⟨b,0,none⟩) xs.length c/\xs.length<=c/\w.heap[b]? = some (.cells arr e (0,0))/\arr.size=c*g.len/\ω b=some (l,[]) /\
    ∀i,i<xs.length->g.R w ω (λj=>.deep (l,[(i,j)])) (λj=>w.cell? ⟨b,i*g.len+j,none⟩) 0 (xs.getD i (jk g))):=by
  cases hx with
  |none R hv hx _=>exact⟨none,λi e=>(by cases e),.inl ⟨R,hv,by rw[hx];rfl⟩⟩
  |some id ho hr C=>
   have N:id≠f:=λe=>by
    subst e;have h1:(Q.ob id).o=.gone:=by rw[C,St.ay]
    rw[yX,ho]at h1;cases h1
   refine⟨some id,λi e=>?_,?_⟩
   .injection e with e
    subst e;refine⟨h.pR (by rw[ho];exact λe=>by cases e),N,?_⟩;rw[St.aO _ _ _ N,C,St.ay]
   .obtain⟨R,n,cp,e1,e2,G,e4,e5⟩:=hr;subst e2;rcases e4 with ⟨O,L⟩|⟨b,arr,O,L,W,q4⟩
    .subst O;exact .inl ⟨R,by rw[e1,L],L⟩
    .refine .inr ⟨id,b,cp,arr,rfl,by rw[e1,O],G,L,W,q4,λi hi=>?_⟩;refine ar.fq g _ _ _ 0 _ (λj _=>?_) (e5 i _ hi O);simp only[bC]
 obtain⟨E,K,hX⟩:=hX;obtain⟨v,w',hrun,E5⟩:=xW (P:=P) (B:=λb=>∃l,E=some l/\ω b=some (l,[])) (n:=xs.length) (m:=D.length) hu hie hz hsz hzs hby (hX.imp id λ⟨l,b,c,arr,O,L,W,q4,q5,q6,_⟩=>⟨b,c,arr,L,W,q4,q5,l,O,q6⟩) hsrc (by omega) ty;refine⟨v,w',hrun,?_⟩;rcases E5 with ⟨R,rfl,rfl,O,L⟩|⟨b0,c',F,olds,rfl,L,W,q4,q5,q6,q7,q8,q9,q10,q11,q12⟩
 .have hR:=G1.bare (id':=id') Y (.arr e g true (xs++D)) (λ_ e=>by cases e);have hnil:xs++D=[]:=e9.1 (by rw[gM];omega);rw[hnil]at hR hk;exact gW hR (bj _ _ _ Y) hd ⟨R,0,0,rfl,rfl,aJ _,qq,λi _ hi=>absurd hi (by omega)⟩ hk
 .have V:∀b p,ω b=some p->p.2≠[]->b≠b0:=by
   intro b p hb hp e;subst e;obtain⟨l,f1,f2⟩:=q12 (h.dom b p hb);rw[hb]at f2;injection f2 with f2
   rw[f2]at hp;exact hp rfl
  obtain⟨hR,hE⟩:=G1.gU (κ:=vz E f xs.length id') (d:=id') (b0:=b0) (w':=w') (src:=λi=>i=f\/E=some i) (ob:=.arr e g true (xs++D)) (λc e=>by cases e) Y
   (λC=>C.elim (λe=>hy0 e.symm) (λe=>(K 0 e).1 rfl)) Bu
   (λkk p hp=>by
    rcases qH hp with ⟨_,i,j,r,_,G⟩|⟨_,_,i,j,r,_,_,G⟩|⟨e1,G⟩
    .injection G with _ G;rw[G];exact λe=>by cases e
    .injection G with _ G;rw[G];exact λe=>by cases e
    .rw[<-G]at e1;exact absurd rfl e1)
   (λi p C hi=>by unfold vz;rw[bc (λe=>C (.inl e)),bc (λe=>C (.inr e)),bc hi])
   (λi C=>by
    rcases C with rfl|C
    .rw[St.ay]
    .exact(K i C).2.2)
   q8 q9 q10 q11 (λhb=>by obtain⟨l,f1,f2⟩:=q12 hb;exact⟨_,f2,.inr f1⟩)
  have hnl:news.length=D.length*g.len:=y3;refine gW (dp:=true) hR hE hd ?_ hk;refine⟨some ⟨b0,0,none⟩,xs.length+D.length,c',rfl,gM _ _,L,.inr ⟨b0,F,rfl,W,q4,by unfold aq.gU;rw[cz rfl];rfl⟩,λi A hi hA=>?_⟩;injection hA with hA
  subst hA;rw[wE];split
  .rename_i M;rcases hX with ⟨R,_,g2⟩|⟨l,b,c2,arr,g1,g2,g3,g4,g5,g6,g7⟩
   .omega
   .have hrw:=g7 i M;have N:=(K l g1).2.1;refine ar.fq g _ (λj=>w.cell? ⟨b,i*g.len+j,none⟩) _ 0 _ (λj hj=>?_) (ar.fF g (λj=>(l,[(i,j)])) (λj=>(id',[(i,j)])) _ _ 0 _ (λj X rr Z q=>?_) (λ_=>rfl) hrw)
    .simp only[bC];rw[cell_of_row w' b0 _ F e (0,0) W,q6 _ (iq (by omega) hj (aJ _)),iV (by rw[q5];exact iq M hj (aJ _)),q7 b c2 g2 _ (iq M hj (aJ _))]
    .have q:ω X=some (l,(i,j)::rr):=q;have J:=V X _ q (λe=>by cases e);refine⟨q10 X J Z,?_⟩;rw[kO J q];unfold vz;rw[bc N,cz g1];simp only;rw[cz M];rfl
  .rename_i hge;have hi2:i-xs.length<D.length:=by omega
   have hrw:=y6 (i-xs.length) hi2;refine ar.fq g _ (λj=>news[(i-xs.length)*g.len+j]?) _ 0 _ (λj hj=>?_) (ar.fF g (λj=>(f,[(i-xs.length,j)])) (λj=>(id',[(i,j)])) _ _ 0 _ (λj X rr Z q=>?_) (λ_=>rfl) hrw)
   .simp only[bC];have e1:i*g.len=xs.length*g.len+(i-xs.length)*g.len:=by rw[<-gB];congr 1;omega
    rw[cell_of_row w' b0 _ F e (0,0) W,q6 _ (iq (by omega) hj (aJ _)),kH (by rw[q5];omega),q5];congr 1;omega
   .have q:ω X=some (f,(i-xs.length,j)::rr):=q;have J:=V X _ q (λe=>by cases e);refine⟨q10 X J Z,?_⟩;rw[kO J q];unfold vz;rw[cz rfl];simp only;rw[show i-xs.length+xs.length=i by omega];rfl
def step_append (hE:bD P E) {args:Array Operand} {C:Array Nat} (ho:o.op=.call ⟨.builtin .append,args,C⟩) (U:args.size=C.size) (h:Rel H ω a w s) (hd:∀d,o.dst=some d->d<a.tmps.size) {Φ:bA->Option (Callee real (Option R))}
  (f:aL E (av R) Φ o s k=some r):o.wp P a w (Ends H ω a w o.dst k r) Q:=by
 unfold aL at f;have Gx:Nat.beq args.size C.size=true:=by rw[U];exact kF _
 simp only[ho,Gx,az]at f;obtain⟨args⟩:=args;obtain⟨C⟩:=C;simp only at f U;have Bb:args.length=C.length:=by simpa using U
 match args,C,Bb with
 |[x,y],[t,t'],_=>
  have hx:=bE h E t x;have hy:=bE h E t' y;simp only[uq,ur,fm,sB,dD]at f;obtain⟨⟨e,cs⟩,h1,hka⟩:=ah f;obtain⟨⟨e',cs'⟩,h1',hkb⟩:=ah hka;obtain⟨b,Y,hkc⟩:=ah hkb;obtain⟨m,h3,G⟩:=ah hkc;clear f hka hkb hkc;cases N:(Nat.beq e b.e&&ar.beq cs b.cs)with
  |false=>simp only[N]at G;cases G
  |true=>
   simp only[N,fu,aW]at G;rw[aQ]at N;have he:=bn N.1;have hcs:=ar.eq_of_beq N.2;subst he;subst hcs;obtain⟨hu,j,I,d,hj,FC,ok⟩:=gQ hE h1;obtain⟨AZ,_⟩:=gQ hE h1';obtain⟨z,hz,Iw⟩:=ok.zero;have hI:I.size=b.cs.len:=by rw[ok.size,FC]
   have hzs:z.cells.size=b.cs.len:=by rw[<-gv,Iw,fQ,FC]
   have Z:I.bytes<=65536:=by rw[ok.bytes];exact ok.bpos.2
   have D:∀(M:S) (dp:Bool),Rel H ω a w M->(((dp||Nat.beq m.md 2) && !b.cs.plain)=false->DX ω w M b.e b.cs b.x (a.eval x))->((dp||uJ (ev E s t x))=true->Dz ω w s M b.e b.cs b.x (a.eval x)) ->
     (bif (dp||Nat.beq m.md 2) && !b.cs.plain then(match ic M (ev E s t' y)with
      |some V=>bif dp||uJ (ev E s t x)then
        if A:Ty.beq (.sl m.e m.cs) (.sl b.e b.cs)=true then
         bif dF (List.append (α:=b.cs.T) b.x (real.cast A m.x))then k (((M.bq V true .gone).new (aD (o.dst.getD 0) 0 0) (.arr b.e b.cs true (List.append (α:=b.cs.T) b.x (real.cast A m.x)))).bI o.dst (.one (.ref (aD (o.dst.getD 0) 0 0) (((M.bq V true .gone).new (aD (o.dst.getD 0) 0 0) (.arr b.e b.cs true (List.append (α:=b.cs.T) b.x (real.cast A m.x)))).ob (aD (o.dst.getD 0) 0 0)).g 0 [])))else none
        else none
       else none
      |none=>none)else
      if A:Ty.beq (.sl m.e m.cs) (.sl b.e b.cs)=true then
       bif dF (List.append (α:=b.cs.T) b.x (real.cast A m.x))then k ((M.new (aD (o.dst.getD 0) 0 0) (.arr b.e b.cs dp (List.append (α:=b.cs.T) b.x (real.cast A m.x)))).bI o.dst (.one (.ref (aD (o.dst.getD 0) 0 0) ((M.new (aD (o.dst.getD 0) 0 0) (.arr b.e b.cs dp (List.append (α:=b.cs.T) b.x (real.cast A m.x)))).ob (aD (o.dst.getD 0) 0 0)).g 0 [])))else none
      else none)=some r->o.wp P a w (Ends H ω a w o.dst k r) Q:=by
    intro M dp hR hX HF f;cases i:((dp||Nat.beq m.md 2) && !b.cs.plain)with
    |true=>
     rw[i]at f;simp only[az]at f;cases O:ic M (ev E s t' y)with
     |none=>rw[O]at f;cases f
     |some V=>
      rw[O]at f;simp only at f;cases K:(dp||uJ (ev E s t x))with
      |false=>rw[K]at f;cases f
      |true=>
       rw[K]at f;simp only[az]at f;split at f
       .rename_i A;cases T:dF (List.append (α:=b.cs.T) b.x (real.cast A m.x))with
        |false=>rw[T]at f;cases f
        |true=>
         rw[T]at f;simp only[az]at f;obtain⟨ye,IJ,yx,Fs⟩:=m;have B:=Ty.eq_of_beq A;injection B with n q
         simp only at n q;subst n;subst q;obtain⟨gy,IZ,ey,gg,Ie⟩:=tj O;rw[ey]at hy h3;obtain⟨v,w',L,F⟩:=vW (P:=P) (t:=t) (t':=t') (id':=aD (o.dst.getD 0) 0 0) h hd (da _ _ _) hu ok.info hz hI hzs Z AZ (HF K) hy h3 gg Ie (ck T) o.type f;refine eY (v:=v) (w':=w') ?_ F;refine eM ho ?_;simp only[builtin,List.map_toArray,fm,sB];rw[Sem.run_bind,L];rfl
       .cases f
    |false=>
     rw[i]at f;simp only[aW]at f;split at f
     .rename_i A;have CV:dp=true->b.cs.plain=true:=by
       intro e;subst e;cases X:b.cs.plain with
       |true=>rfl
       |false=>rw[X]at i;cases i
      have Iu:m.md≠2\/m.cs.plain=true:=by
       have B:=Ty.eq_of_beq A;injection B with _ B
       cases X:b.cs.plain with
       |true=>exact .inr (by rw[B];exact X)
       |false=>refine .inl λe=>?_;rw[X,e]at i;cases dp <;> cases i
      cases T:dF (List.append (α:=b.cs.T) b.x (real.cast A m.x))with
      |false=>rw[T]at f;cases f
      |true=>
       rw[T]at f;simp only[az]at f;obtain⟨ye,IJ,yx,Fs⟩:=m;have B:=Ty.eq_of_beq A;injection B with n q
       simp only at n q;subst n;subst q;obtain⟨ad,cp,news,n1,n2,n3,n4,n5,n6⟩:=tX h3 hy Iu;have hsrc:Src P I.size t' (a.eval y) (List.length yx) news w:=Bo AZ n1 (by rw[hI];exact n3) n4 n5;obtain⟨v,w',L,F⟩:=vV (P:=P) (t:=t) (t':=t') (xs:=b.x) (ys:=yx) (dp:=dp) (id':=aD (o.dst.getD 0) 0 0) hR hd (da _ _ _) hu ok.info hz hI hzs Z (hX i) hsrc n6 (ck T) CV o.type f;refine eY (v:=v) (w':=w') ?_ F;refine eM ho ?_;simp only[builtin,List.map_toArray,fm,sB];rw[Sem.run_bind,L];rfl
     .cases f
   have c:=G;clear G;cases u:ev E s t x with
   |one l=>
    rw[u]at c hx Y;cases l with
    |eI e2 GV=>
     injection Y with Y
     obtain⟨ad,e1⟩:=hx;have hx0:b.x=[]:=by rw[<-Y];rfl
     exact D s false h (λ_=>.none ad e1 hx0) (λ_=>.none ad e1 hx0 rfl) (by rw[u];exact c)
    |ref id g A p=>
     cases p with
     |nil=>
      have hc:s.cont id g A []=some b:=Y;rcases(lS hc).2 with J|J|J
      .simp only[J]at c;cases c
      .simp only[J]at c;exact D _ (Nat.beq 1 2) (h.gone id true) (λ_=>qI h hc (by rw[J];decide) hx (.inl (by rw[J];decide))) (λe=>by rw[u]at e;cases e) (by rw[u];exact c)
      .simp only[J]at c;refine D _ (Nat.beq 2 2) (h.gone id true) (λN=>?_) (λ_=>?_) (by rw[u];exact c)
       .have FG:b.cs.plain=true:=by
         cases X:b.cs.plain with
         |true=>rfl
         |false=>rw[X]at N;cases N
        exact qI h hc (by rw[J];decide) hx (.inr FG)
       .have hr:=hx.2.2 b hc;rw[J]at hr;rcases(dz hc).2 with ⟨dp,W,_,f6⟩|⟨_,_,_,_,W,_⟩|⟨_,_,W⟩
        .rw[J]at f6;cases dp with
         |true=>exact .some id W hr rfl
         |false=>cases f6
        .exact absurd rfl W
        .rw[J]at W;cases W
     |cons _ _=>cases c
    |val tt xx=>cases c
    |ptr _ _ _=>cases c
    |bH _ _ _ _ _ _=>cases c
    |ei _ _ _=>cases c
    |cD _ _=>cases c
    |fn _ _=>cases c
    |C4 _ _=>cases c
    |undef=>cases c
    |dead=>cases c
   |agg _=>rw[u]at c;cases c
   |ol _=>rw[u]at c;cases c
   |pQ _ _=>rw[u]at c;cases c
 |[],[],_=>cases f
 |[_],[_],_=>cases f
 |_::_::_::_,_::_::_::_,_=>cases f
end
end Go.R
namespace Go.R
variable {H:Nat->Value}
def ji:List (Int×Bool)->Int->Nat->Option (Nat×Bool)
 |[],_,_=>none
 |y::r,n,i=>bif n==y.1 then some (i,y.2)else ji r n (i+1)
def k6{k:IntKind}{n:Int}:∀ {es:List MapEntry} {x:List (Int×Bool)} (i:Nat),AW k es x->Instr.findNow (.int k) (.int k n) es i=some ((ji x n i).map λp=>(p.1,.bool p.2))
 |[],[],i,_=>rfl
 |[],_::_,_,h=>h.elim
 |_::_,[],_,h=>h.elim
 |e::es,y::x,i,h=>by
  obtain⟨⟨b,c⟩,d⟩:=h;have f:Instr.sameNow (.int k) (.int k n) e.key=some (n==y.1):=by rw[b];simp[Instr.sameNow]
  unfold Instr.findNow;rw[f];cases a:n==y.1 with
  |true=>simp only[ji,a,az,cj,c]
  |false=>simp only[ji,a,aW];exact k6 (i+1) d
def qZ(n:Int):∀(x:List (Int×Bool)) (i:Nat),jK x n=match ji x n i with|some p=>p.2|none=>false
 |[],_=>rfl
 |y::x,i=>by
  unfold jK ji;cases n==y.1 with
  |true=>rfl
  |false=>exact qZ n x (i+1)
def wV(k:IntKind)(n:Int)(v:Bool):∀(a:List MapEntry) (x:List (Int×Bool)) (i:Nat),AW k a x ->
  (∀b,ji x n i=none->AW k (a++[⟨.int k n,.bool v,b⟩]) (qf x n v)) /\
  ∀j b,ji x n i=some (j,b)->i<=j/\∃e,a[j-i]? = some e/\e.key=.int k n/\AW k (a.modify (j-i) λe=>{ e with key:=.int k n,val:=.bool v }) (qf x n v)
 |[],[],i,_=>⟨λb _=>⟨⟨rfl,rfl⟩,trivial⟩,λj b h=>by cases h⟩
 |[],_::_,_,h=>h.elim
 |_::_,[],_,h=>h.elim
 |e::a,y::x,i,h=>by
  obtain⟨⟨d,f⟩,g⟩:=h;obtain⟨s,t⟩:=wV k n v a x (i+1) g;unfold ji qf;cases m:n==y.1 with
  |true=>
   have o:n=y.1:=by simpa using m
   refine⟨(λb h=>by cases h),λj b h=>?_⟩;have h:=aG h;injection h with c _
   subst c;refine⟨aJ _,e,by simp,by rw[d,o],?_⟩;rw[pg];exact⟨⟨rfl,rfl⟩,g⟩
  |false=>
   refine⟨λb h=>⟨⟨d,f⟩,s b h⟩,λj b h=>?_⟩;obtain⟨u,l,p,q,r⟩:=t j b h;have c:j-i=(j-(i+1))+1:=by omega
   refine⟨by omega,l,by rw[c];simpa using p,q,?_⟩;rw[c];exact⟨⟨d,f⟩,r⟩
section
variable {R:Type}{P:Program}{E:Env}{ω:aq}{a:Act}{w:World}{s:S}{k:S->Option R}{r:R}{o:Oper}{Q:Exit->Act->World->Prop}
def uZ (z:bD P E) {t:Nat} {n:Option Operand} (m:o.op=.makeMap t n) (h:Rel H ω a w s) (hd:∀d,o.dst=some d->d<a.tmps.size) {x:bA->Option (Callee real (Option R))}
  (b:aL E (av R) x o s k=some r):o.wp P a w (Ends H ω a w o.dst k r) Q:=by
 unfold aL at b;simp only[m]at b;obtain⟨ik,y,b⟩:=ah b;cases n with
 |some _=>cases b
 |none=>
  simp only[Option.isNone_none,az]at b;have i:=da (o.dst.getD 0) 0 0;have l:=eF.alloc w (.map #[] 0);have f:w.heap.size<(w.alloc (.map #[] 0)).heap.size:=by rw[fM];omega
  refine eY (v:=.map (some w.heap.size)) (w':=w.alloc (.map #[] 0)) ?_ ?_
  .unfold execOp;simp only[m];rfl
  .have u:=h.fresh (id:=aD (o.dst.getD 0) 0 0) i l (aJ _) f (.mp ik (real.kN 0 (ar.mp ik))) (λc e=>by cases e);refine dV u (dW i l (aJ _)) hd (t:=.one (.cD (aD (o.dst.getD 0) 0 0) ((s.new (aD (o.dst.getD 0) 0 0) (.mp ik (real.kN 0 (ar.mp ik)))).ob (aD (o.dst.getD 0) 0 0)).g)) ⟨aJ _,λ_ A B j=>?_⟩ b;have g:((s.new (aD (o.dst.getD 0) 0 0) (.mp ik (real.kN 0 (ar.mp ik)))).ob (aD (o.dst.getD 0) 0 0)).o=.mp ik (real.kN 0 (ar.mp ik)):=by unfold St.new;rw[St.aB]
   rw[g]at j;injection j with p q
   subst p;subst q;exact⟨w.heap.size,#[],0,aq.eV _ _ _,rfl,heap_alloc_new w _,trivial⟩
def uO{v:Value}{id g:Nat}{q:Sigma λk=>real.V (.sl 0 (ar.mp k))}(h:bU w ω s v (.cD id g))(f:sy s id g=some q):(s.ob id).o=.mp q.1 q.2/\∃b d c,ω b=some (id,[])/\v=.map (some b)/\w.heap[b]? = some (.map d c)/\AW q.1 d.toList q.2:=by obtain⟨e,a⟩:=zF f;exact⟨a,h.2 e _ _ a⟩
def w8 (hE:bD P E) {t:Nat} {m x:Operand} {ok:Bool} (Z:o.op=.lookup t m x ok) (h:Rel H ω a w s) (hd:∀d,o.dst=some d->d<a.tmps.size) {Φ:bA->Option (Callee real (Option R))}
  (j:aL E (av R) Φ o s k=some r):o.wp P a w (Ends H ω a w o.dst k r) Q:=by
 have S:=bE h E t m;have T:=bE h E 0 x;unfold aL at j;simp only[Z]at j;obtain⟨ik,h1,j⟩:=ah j;obtain⟨kt,et,I,M,A,L,hz⟩:=hE.GH t ik h1;cases ok with
 |true=>cases j
 |false=>
 simp only[aW]at j;split at j
 .rename_i id g u n U V;rw[U]at S;rw[V]at T;obtain⟨q,h2,z⟩:=ah j;clear j;obtain⟨C,O⟩:=q;cases l:decide (C=ik)with
  |false=>simp only[l]at z;cases z
  |true=>
  simp only[l,az]at z;obtain rfl:=ck l;split at z
  .rename_i X;obtain rfl:=Ty.eq_of_beq X;obtain⟨Hj,b,es,c,f1,J,G,W⟩:=uO S h2;have D:a.eval x=.int C n:=T;refine aT h hd (v:=.bool (jK O n)) ?_ (t:=.one (.val .bool (real.Ep C O n))) rfl z;unfold execOp;simp only[Z];have f:=MapKept.run_findKey (P:=P) (w:=w) A (k6 (n:=n) 0 W);have i:∀e N,(Instr.checkKey e (N+1) kt (.int C n)).run P w=.ok () w:=λe N=>by unfold Instr.checkKey;simp only[Sem.run_bind,run_underlying A,Result.andThen];rfl
   have i:=λe=>i e 9999;have F:(zeroValue et).run P w=.ok (.bool false) w:=by simp[zeroValue,typeInfo,L,hz]
   have B:(Instr.lookup t (a.eval m) (a.eval x) false).run P w=.ok (.bool (jK O n)) w:=by
    rw[J,D,qZ n O 0];unfold Instr.lookup;cases K:ji O n 0 with
    |none=>rw[K]at f;simp[run_underlying M,MapKept.run_getObj_map G,i,f,F]
    |some p=>rw[K]at f;simp[run_underlying M,MapKept.run_getObj_map G,i,f]
   rw[Sem.run_bind,B];rfl
  .cases z
 .rename_i C y u n U V;rw[U]at S;rw[V]at T;cases l:decide (C=ik)with
  |false=>rw[l]at j;cases j
  |true=>
  rw[l]at j;simp only[az]at j;obtain rfl:=ck l;split at j
  .rename_i X;obtain rfl:=Ty.eq_of_beq X;have D:a.eval x=.int C n:=T;refine aT h hd (v:=.bool (jK y n)) ?_ (t:=.one (.val .bool (real.GG C y n))) rfl j;unfold execOp;simp only[Z];have i:∀e N,(Instr.checkKey e (N+1) kt (.int C n)).run P w=.ok () w:=λe N=>by unfold Instr.checkKey;simp only[Sem.run_bind,run_underlying A,Result.andThen];rfl
   have i:=λe=>i e 9999;have F:(zeroValue et).run P w=.ok (.bool false) w:=by simp[zeroValue,typeInfo,L,hz]
   have B:(Instr.lookup t (a.eval m) (a.eval x) false).run P w=.ok (.bool (jK y n)) w:=by
    have Y:zR w ω .bQ C (a.eval m) y:=S;rcases Y with ⟨J,G⟩|⟨_,b,es,c,J,f1,_,G,W⟩
    .rw[J,D,G];unfold Instr.lookup;have f:=MapKept.run_findKey (P:=P) (w:=w) A (k6 (k:=C) (es:=[]) (x:=[]) (n:=n) 0 trivial);simp only[ji,Option.map_none]at f;simp[run_underlying M,i,f,F,jK]
    .have f:=MapKept.run_findKey (P:=P) (w:=w) A (k6 (n:=n) 0 W);rw[J,D,qZ n y 0];unfold Instr.lookup;cases K:ji y n 0 with
     |none=>rw[K]at f;simp[run_underlying M,MapKept.run_getObj_map G,i,f,F]
     |some p=>rw[K]at f;simp[run_underlying M,MapKept.run_getObj_map G,i,f]
   rw[Sem.run_bind,B];rfl
  .cases j
 .cases j
def s9 {z:World} {b id:Nat} {ik:IntKind} {x x':real.V (.sl 0 (ar.mp ik))} {f:Array MapEntry} {B:Nat} (G:id≠0) (hd:∀b k,ω b=some k->b<w.heap.size) (t:ω b=some (id,[])) (J:(s.ob id).o=.mp ik x) (C:og w z b) (H:z.heap[b]? = some (.map f B)) (L:AW ik f.toList x')
  (q:∀b A k,ω b=some k->ω A=some k->b=A) (j:Nat):Tr w ω s z ω (s.bq id true (.mp ik x')) j:=by
 by_cases e:j=id
 .subst e;have m:((s.bq j true (.mp ik x')).ob j).o=.mp ik x':=by rw[St.ay]
  have l:((s.bq j true (.mp ik x')).ob j).g=(s.ob j).g:=by rw[St.ay]
  have o:((s.bq j true (.mp ik x')).ob j).h=bif true then(s.ob j).h+1 else(s.ob j).h:=by rw[St.ay]
  have r:∀g h p c,(s.bq j true (.mp ik x')).cont j g h p=some c->False:=by intro g h p c a;unfold St.cont fU.cont at a;rw[m]at a;cases K:Nat.beq ((s.bq j true (.mp ik x')).ob j).g g <;> rw[K]at a <;> cases a
  exact
  {ref:=λv g h p d=>⟨by rw[l];exact d.1,by rw[l,o];exact gF true d.2.1,λc a=>(r _ _ _ _ a).elim⟩
   ptr:=λv g y d=>⟨by rw[l];exact d.1,λ_ cells a=>by rw[m]at a;cases a⟩
   bH:=λv g h p i y d=>⟨by rw[l];exact d.1,by rw[l,o];exact gF true d.2.1,λc a=>(r _ _ _ _ a).elim⟩
   cD:=λv g d=>⟨by rw[l];exact d.1,λn Q x2 a=>by
    rw[l]at n;rw[m]at a;injection a with D E
    subst D;subst E;obtain⟨O,P,c,M,N,S,T⟩:=d.2 n ik x J;obtain rfl:=q _ _ _ t M;exact⟨b,f,B,t,N,H,L⟩⟩ }
 .refine gx.tr ⟨St.aO _ _ _ e,λc R a u I=>?_⟩ (dc G t C) hd;have:c≠b:=λF=>by subst F;rw[t]at u;injection u with u;subst u;exact e I.symm
  exact⟨C.block c this,rfl⟩
def Rel.CH (h:Rel H ω a w s) {o:World} {b id:Nat} {ik:IntKind} {x x':real.V (.sl 0 (ar.mp ik))} {l:Array MapEntry} {r:Nat} (k:ω b=some (id,[])) (n:(s.ob id).o=.mp ik x) (f:og w o b) (p:o.heap[b]? = some (.map l r)) (q:AW ik l.toList x')
  (g:id≠0:=h.pR (by rw[n];exact λe=>by cases e)):Rel H ω a o (s.bq id true (.mp ik x')) where
 dH:=h.dH.ext (dc g k f)
 inj:=h.inj
 dom c kk d:=by rw[f.size];exact h.dom c kk d
 defers:=h.defers
 dJ:=by rw[St.aO _ _ _ (c6 g)];exact h.dJ
 slots i:=cQ.frame (dc g k f) (s9 g h.dom k n f p q h.inj) (h.slots i)
 c7 j cells hc:=by
  by_cases e:j=id
  .subst e;rw[St.ay]at hc;cases hc
  .rw[St.aO _ _ _ e]at hc;obtain⟨c,arr,T,d,u,v⟩:=h.c7 j cells hc;have m:c≠b:=λt=>by subst t;rw[k]at d;injection d with d;injection d with d _;exact e d.symm
   exact⟨c,arr,T,d,(f.block c m).trans u,v.mono λ_ _ y=>bU.frame (dc g k f) (s9 g h.dom k n f p q h.inj) y⟩
def lD (hE:bD P E) {t:Nat} {m x v:Operand} (ho:o.op=.mapUpdate t m x v) (h:Rel H ω a w s) (hd:∀d,o.dst=some d->d<a.tmps.size) {Φ:bA->Option (Callee real (Option R))}
  (A:aL E (av R) Φ o s k=some r):o.wp P a w (Ends H ω a w o.dst k r) Q:=by
 have hm:=bE h E t m;have hx:=bE h E 0 x;have hv:=bE h E 4 v;unfold aL at A;simp only[ho]at A;obtain⟨ik,h1,A⟩:=ah A;obtain⟨kt,et,I,hu,L,hie,hz⟩:=hE.GH t ik h1;split at A
 .rename_i id g u n S em ex U;rw[em]at hm;rw[ex]at hx;have J:=qL U hv;obtain⟨q,h2,y⟩:=ah A;clear A;obtain⟨i,Z⟩:=q;cases C:decide (i=ik)with
  |false=>simp only[C]at y;cases y
  |true=>
  simp only[C,az]at y;obtain rfl:=ck C;split at y
  .rename_i hb;obtain rfl:=Ty.eq_of_beq hb;obtain⟨M,b,F,c,f1,f2,G,f4⟩:=uO hm h2;have O:a.eval x=.int i n:=hx;have f:=MapKept.run_findKey (P:=P) (w:=w) L (k6 (n:=n) 0 f4);have z:∀e n',(Instr.checkKey e (n'+1) kt (.int i n)).run P w=.ok () w:=λe n'=>by unfold Instr.checkKey;simp only[Sem.run_bind,run_underlying L,Result.andThen];rfl
   have z:=λe=>z e 9999;obtain⟨p1,p2⟩:=wV i n S F.toList Z 0 f4;have V:b<w.heap.size:=aM G;have B:∀ob,og w { w with heap:=w.heap.setIfInBounds b ob } b:=λob=>⟨rfl,rfl,⟨rfl,aJ _⟩,by simp,λc hc=>by simp[xL (c6 hc)]⟩
   have fin:∀(l:Array MapEntry) (D:Nat),(Instr.mapUpdate t (a.eval m) (a.eval x) (a.eval v)).run P w=.ok () { w with heap:=w.heap.setIfInBounds b (.map l D) }->AW i l.toList (qf Z n S)->o.wp P a w (Ends H ω a w o.dst k r) Q:=by
    intro l D N X;have hh:({ w with heap:=w.heap.setIfInBounds b (.map l D) }:World).heap[b]? = some (.map l D):=by simp[V]
    refine xn (w':={ w with heap:=w.heap.setIfInBounds b (.map l D) }) ?_ ?_
    .unfold execOp;simp only[ho];rw[Sem.run_bind,N];rfl
    .have Y:id≠0:=h.pR (by rw[M];exact λe=>by cases e);exact qT (h.CH f1 M (B _) hh X) (dc Y f1 (B _)) hd y
   cases T:ji Z n 0 with
   |none=>refine fin (F.push ⟨.int i n,.bool S,c⟩) (c+1) ?_ (by rw[Array.toList_push];exact p1 c T);rw[f2,O,J];unfold Instr.mapUpdate;rw[T]at f;simp only[Sem.run_bind,run_underlying hu,Result.andThen,MapKept.run_getObj_map G,z,f,Option.map_none,MapKept.run_setObj_map _ G]
   |some p=>
    obtain⟨j,bb⟩:=p;obtain⟨_,e,e1,e2,e3⟩:=p2 j bb T;rw[Nat.sub_zero]at e1 e3;refine fin (F.modify j λe=>{ e with key:=.int i n,val:=.bool S }) c ?_ (by rw[Array.toList_modify];exact e3);rw[f2,O,J];unfold Instr.mapUpdate;rw[T]at f;have K:((F[j]?).map (·.key)).getD (.int i n)=.int i n:=by
     have:F[j]? = some e:=by rw[<-cZ];exact e1
     rw[this];exact e2
    have W:(Instr.keyThatStays (.int i n) (.int i n)).run P w=.ok (.int i n) w:=by
     unfold Instr.keyThatStays;have:Instr.sameBits 10000 (.int i n) (.int i n)=true:=by simp only[Instr.sameBits,beq_self_eq_true,ow];exact beq_self_eq_true (α:=Int) n
     rw[this];rfl
    simp only[Sem.run_bind,run_underlying hu,Result.andThen,MapKept.run_getObj_map G,z,f,cj,K,W,MapKept.run_setObj_map _ G]
  .cases y
 .cases A
def Rel.reset(h:Rel H ω a w s){d:Nat}{t:bK}(k:cQ H w ω s (a.tmps.getD d undef) t):Rel H ω a w (s.set d t) where
 dH:=h.dH
 inj:=h.inj
 dom:=h.dom
 defers:=h.defers
 dJ:=h.dJ
 slots i:=by
  have tr:∀id,Tr w ω s w ω (s.set d t) id:=λid=>Tr.nq h.dom rfl;by_cases e:i=d
  .subst e;rw[St.iY];exact cQ.frame (cH.refl _ _) tr k
  .rw[St.lV _ _ e];exact cQ.frame (cH.refl _ _) tr (h.slots i)
 c7 id cells hc:=by obtain⟨b,arr,T,c,f,g⟩:=h.c7 id cells hc;exact⟨b,arr,T,c,f,g.mono λ_ _ j=>bU.frame (cH.refl _ _) (λid=>Tr.nq h.dom rfl) j⟩
def Ar(h:Rel H ω a w s){parts:List (Nat×Operand)}{l:S}(d:yw s parts=some l):∃f,Rel H f a w l/\cH ω w f w:=by
 unfold yw at d;split at d
 .rename_i j;split at d
  .rename_i id g t;split at d
   .rename_i q v;have d:=aG d;subst d;have k:=h.slots j;rw[t]at k;obtain⟨u,b,m,c,n,o,i,r⟩:=uO k v;obtain⟨p,_⟩:=wy h (id:=id) (by rw[u];exact λe=>by cases e) 0;exact⟨_,p.rel.reset (.inr ⟨rfl,b,m,c,o,aq.oJ n rfl,aM i,i,r⟩),p.ext⟩
   .cases d
  .cases d
 .cases d
def w7 (c:bD P E) {t:Nat} {m x v:Operand} (g:o.op=.insert t m x v) (h:Rel H ω a w s) (hd:∀d,o.dst=some d->d<a.tmps.size) {i:bA->Option (Callee real (Option R))}
  (f:aL E (av R) i { o with op:=.mapUpdate t m x v } s k=some r):o.wp P a w (Ends H ω a w o.dst k r) Q:=by
 have b:=lD (Q:=Q) c (o:={ o with op:=.mapUpdate t m x v }) rfl h hd f;have e:execOp a.eval o=execOp a.eval { o with op:=.mapUpdate t m x v }:=by unfold execOp;simp only[g]
 unfold Oper.wp at b⊢;rw[e];exact b
end
open Go
section
variable {R:Type}{P:Program}{E:Env}{ω:aq}{a:Act}{w:World}{s:S}{k:S->Option R}{r:R}{o:Oper}{Q:Exit->Act->World->Prop}
def uW (J:bD P E) {p u:Nat} {x:Operand} (W:o.op=.convert p u x) (h:Rel H ω a w s) (hd:∀d,o.dst=some d->d<a.tmps.size) {Φ:bA->Option (Callee real (Option R))}
  (f:aL E (av R) Φ o s k=some r):o.wp P a w (Ends H ω a w o.dst k r) Q:=by
 have hx:=bE h E p x;unfold aL at f;simp only[W]at f;obtain⟨i0,h0,f⟩:=ah f;obtain⟨i,N,f⟩:=ah f;obtain⟨_,_,IC⟩:=J.ti _ _ h0;obtain⟨_,_,ok⟩:=J.ti _ _ N;cases K:i.agg with
 |true=>rw[K]at f;cases f
 |false=>
  rw[K]at f;simp only[aW]at f;generalize ev E s p x=tx at hx f;split at f
  .rename_i j kk n T;have hv:a.eval x=.int kk n:=hx;have hu:P.underlying u=some (.int j):=by rw[ok.zO,ok.El j T K]
   refine aT h hd (v:=.int j (eo j n)) ?_ (t:=.one (.val (.int j) (real.conv kk j n))) rfl f;unfold execOp;simp[W,hv,convert,run_underlying IC.zO,run_underlying hu,Conv.intToInt,eo]
  .rename_i T;obtain⟨q,hq,f⟩:=ah f;obtain⟨j,B,f⟩:=ah f;obtain⟨_,_,F⟩:=J.ti _ _ B;cases z:j.agg with
   |true=>rw[z]at f;cases f
   |false=>
    rw[z]at f;obtain⟨c,U,f⟩:=ah (show af (av R) (gC s _) _=some r from f);cases O:(Nat.beq q.1 c.e&&ar.beq q.2 c.cs)with
    |false=>rw[O]at f;cases f
    |true=>
     rw[O]at f;simp only[az]at f;split at f
     .rename_i S;obtain⟨b1,b2⟩:=aQ _ _▸O;have e1:q.1=c.e:=bn b1;obtain⟨ET,j',I',d',V,C,ID⟩:=gQ J (t:=p) (e:=q.1) (cs:=q.2) hq;have:j'=j:=aG (V.symm.trans B);subst this;have X:q.2=c.cs:=ar.eq_of_beq b2;have y:c.cs=.cons (.int .u8) .nil:=by have:=Ty.eq_of_beq S;injection this
      have Z:P.underlying q.1=some (.int .u8):=by rw[F.zO,F.El .u8 (by rw[C,X,y]) z]
      have Y:P.underlying u=some .string:=by rw[ok.zO,ok.ED T K]
      obtain⟨L,G,news,e2,_,e3,_,e5,e6⟩:=tX U hx (.inr (by rw[y];rfl));obtain⟨ce,IM,l,cmd⟩:=c;simp only at y e2 e3 e5 e6 f;subst y;have hl:news.length=List.length l:=by rw[e3];exact Nat.mul_one _
      have hn:news=(show List Int from l).map (Value.int .u8):=by refine List.ext_getElem (by rw[mZ];exact hl) λi N h2=>?_;obtain⟨⟨v,I,M⟩,_⟩:=e6 i (by omega);have I:news[i*1+0]? = some v:=I;have M:v=.int .u8 ((show List Int from l).getD i 0):=M;rw[Nat.mul_one,kE,bR N]at I;rw[aG I,M,List.getElem_map];congr 1;rw[dG,bR (show i<(show List Int from l).length by rw[mZ]at h2;exact h2)];rfl
      refine aT h hd (v:=.string (nT l)) ?_ (t:=.one (.val .str (nT l))) rfl f;have D:(Conv.bytesToString (.slice L (List.length l) G)).run P w=.ok (.string (nT l)) w:=by
       cases hz:List.length l with
       |zero=>
        have hx0:(show List Int from l)=[]:=e9.1 hz;have:nT l=ByteArray.empty:=by show nT (show List Int from l)=_;rw[hx0];rfl
        rw[this];cases L with
        |none=>rfl
        |some a=>exact run_bytesToString w a 0 G [] (run_loadCells_list w a [] (λj v B=>by simp at B))
       |succ m=>
        obtain⟨b,A,rfl,g⟩:=e5 (by omega);rw[<-hz];have pQ:(loadCells ⟨b,A,none⟩ (List.length l)).run P w=.ok ((show List Int from l).map (Value.int .u8)).toArray w:=by rw[<-hn,<-hl];exact run_loadCells_list w ⟨b,A,none⟩ news λj v B=>by rw[Addr.add_lit];exact g j v B
        exact run_bytesToString w ⟨b,A,none⟩ (List.length l) G l pQ
      unfold execOp;simp only[W,e2,Sem.run_bind,Sem.run_pure];rw[run_convert_bytes_string w p u q.1 L (List.length l) G ET Z Y,D];rfl
     .cases f
  .cases f
end
end Go.R
namespace Go.R
variable {H:Nat->Value}
section
variable {R:Type}{P:Program}{E:Env}{ω:aq}{a:Act}{w:World}{s:S}{k:S->Option R}{r:R}{o:Oper}{Q:Exit->Act->World->Prop}
def jQ(w:World)(d:aq)(c:World)(a:aq):Prop:=w.heap.size<=c.heap.size/\∀b,b<w.heap.size->d b=none->c.heap[b]? = w.heap[b]? /\ a b=none
def cH.stays{d:World}{a:aq}(h:cH ω w a d):jQ w ω d a:=⟨h.size,λb e c=>by have:=h.block b e (.inl c);exact⟨this.1,this.2.trans c⟩⟩
def jQ.trans{j c:World}{d a:aq}(h:jQ w ω j d)(e:jQ j d c a):jQ w ω c a:=⟨iN h.1 e.1,λb i k=>by have f:=h.2 b i k;have g:=e.2 b (gf i h.1) f.2;exact⟨g.1.trans f.1,g.2⟩⟩
def jQ.keeps{d:World}{c:aq}(h:jQ w ω d c):lW w ω d c .bQ:=by
 intro b e a;rcases a with a|⟨k,_,a⟩
 .have:=h.2 b e a;exact⟨this.1,this.2.trans a.symm⟩
 .exact a.elim
def jQ.ei{k:World}{d:aq}(h:jQ w ω k d){v:Value}{e:ar}{x:e.T}{c:Nat}(o:jd w ω v e x c):jd k d v e x c:=by obtain⟨b,i,l,f,m,n⟩:=o;have g:=h.2 b f l;exact⟨b,i,g.2,gf f h.1,m,ar.bZ h.1 e _ _ _ 0 _ (λ_=>h.keeps) (λj=>fN (a:=⟨b,i+j,none⟩) g.1) n⟩
def mF{j:World}{d:aq}(h:jQ w ω j d):∀(c:List (KV real)) (e:List Value) (b:Nat),(∀v∈c,v.1.ni=true)->fp w ω b c e->fp j d b c e
 |[],[],_,_,_=>trivial
 |[],_::_,_,_,a=>a.elim
 |_::_,[],_,_,a=>a.elim
 |⟨i,x⟩::c,u::e,b,g,a=>by
  refine⟨?_,mF h c e (b+1) (λv l=>g v (by simp[l])) a.2⟩;have f:=g ⟨i,x⟩ (by simp);have k:=a.1;cases i with
  |val t=>exact Ty.bZ h.1 t .bQ u x h.keeps k
  |arr _ _ _=>cases f
  |mp _=>cases f
def qD{F:World}{m:aq}(h:jQ w ω F m):∀(a:List Sh) (j:List (KV real)) (t:List Value) (b:Nat),a.all Sh.eG=true->j.map (·.1)=(a.map Sh.ks).flatten->fI w ω b a j t->fI F m b a j t
 |[],_,_,_,_,_,o=>o
 |r::a,j,[],_,_,_,o=>o.elim
 |r::a,j,u::t,b,C,A,o=>by
  obtain⟨M,s,N⟩:=o;rw[oo,aQ]at C;simp only[fm,lZ]at A;have l:(j.take r.ks.length).map (·.1)=r.ks:=by rw[xP,A,gV];rfl
  have B:(j.drop r.ks.length).map (·.1)=(a.map Sh.ks).flatten:=by rw[xO,A,lY];rfl
  refine⟨M,?_,qD h a _ t _ C.2 B N⟩;have e:=C.1;cases r with
  |one L=>
   obtain⟨v,i,k⟩:=s;rw[i]at l;have D:v.1=L:=by simpa[Sh.ks] using l
   refine⟨v,i,(mF h [v] [u] b (λO q=>?_) ⟨k,trivial⟩).1⟩;rw[eK]at q;subst q;rw[D];simpa[Sh.eG] using e
  |agg ks=>
   obtain⟨cells,i,k⟩:=s;refine⟨cells,i,mF h _ cells b (λv D=>?_) k⟩;have J:v.1∈ks:=by have:v.1∈((j.take (Sh.agg ks).ks.length).map (·.1)):=eJ.2 ⟨v,D,rfl⟩;rw[l]at this;exact this
   simpa using ed.1 e _ J
  |blk _=>cases e
  |ro y=>obtain⟨x,i,k⟩:=s;exact⟨x,i,h.ei k⟩
  |fn f G=>
   obtain⟨g,i,k,H⟩:=s;refine⟨g,i,?_,H⟩;have E:∀(g:List Value) (d:List (cU real)),(∀c∈d,∃y x,c=.ro y x)->aH (λv c=>gK w ω ⟨λ_=>.dead,λ_=>⟨0,0,0,.gone⟩⟩ v c) g d->aH (λv c=>gK F m ⟨λ_=>.dead,λ_=>⟨0,0,0,.gone⟩⟩ v c) g d:=by
    intro g;induction g with
    |nil=>intro d _ n;cases d with|nil=>trivial|cons _ _=>exact n.elim
    |cons v g K=>
     intro d p n;cases d with
     |nil=>exact n.elim
     |cons c d=>refine⟨?_,K d (λI z=>p I (by simp[z])) n.2⟩;obtain⟨y,x,rfl⟩:=p c (by simp);exact h.ei n.1
   exact E g _ H k
  |qa _ _=>cases e
def oN:∀(a:List (KV real)) (b:Nat) (s:S),(∀v∈a,v.1.ni=true)->(∀i,(s.ob i).o=.gone)->∀i,((lays b a s).2.ob i).o=.gone
 |[],_,_,_,h,i=>h i
 |⟨f,x⟩::a,b,s,d,h,i=>by
  simp only[lays];refine oN a (b+1) _ (λv g=>d v (by simp[g])) (λj=>?_) i;have c:=d ⟨f,x⟩ (by simp);cases f with
  |val t=>
   simp only[dh];by_cases e:j=b
   .subst e;unfold St.new;rw[St.aB]
   .unfold St.new;rw[St.aU _ _ e];exact h j
  |arr _ _ _=>cases c
  |mp _=>cases c
def pE:∀(a:List Sh) (d:List (KV real)) (b:Nat) (s:S),a.all Sh.eG=true->d.map (·.1)=(a.map Sh.ks).flatten->(∀i,(s.ob i).o=.gone)->∀i,((aV b a d s).2.ob i).o=.gone
 |[],_,_,_,_,_,h,i=>h i
 |g::a,d,b,s,p,m,h,i=>by
  rw[oo,aQ]at p;simp only[fm,lZ]at m;have n:(d.take g.ks.length).map (·.1)=g.ks:=by rw[xP,m,gV];rfl
  have o:(d.drop g.ks.length).map (·.1)=(a.map Sh.ks).flatten:=by rw[xO,m,lY];rfl
  simp only[aV];refine pE a _ _ _ p.2 o (λj=>?_) i;have c:=p.1;have u:∀ks,g.ks=ks->(ks.all K.ni)=true->∀v∈d.take g.ks.length,v.1.ni=true:=by
   intro ks e k v l;have x:v.1∈ks:=by have:v.1∈((d.take g.ks.length).map (·.1)):=eJ.2 ⟨v,l,rfl⟩;rw[n,e]at this;exact this
   simpa using ed.1 k _ x
  cases g with
  |one w=>
   have l:=u [w] rfl (by simpa[Sh.eG] using c);cases q:d.take (Sh.one w).ks.length with
   |nil=>simp only[cm];exact h j
   |cons v rest=>
    cases rest with
    |nil=>rw[q]at l;simp only[cm];exact oN [v] b s l h j
    |cons _ _=>simp only[cm];exact h j
  |agg ks=>exact oN _ b s (u ks rfl c) h j
  |blk _=>cases c
  |ro t=>simp only[cm];cases kf (A:=real) t (d.take (Sh.ro t).ks.length) <;> exact h j
  |fn f r=>exact h j
  |qa _ _=>cases c
def vals(t:bp)(a:Act):List Value:=t.map λp=>a.tmps.getD p.1 undef
def kz(w:World)(c:aq)(a:Act)(t:bp)(b:fE real (bp.ks t)):Prop:=fI w c 1 (t.map (·.2)) (bJ _ b) (vals t a)
def lm:∀(ks:List K) (x:fE real ks),(bJ ks x).map (·.1)=ks
 |[],_=>rfl
 |k::ks,(x,r)=>gi (k:: ·) (lm ks r)
def xk(t:bp)(a:Act)(j d:Nat)(hd:(t.map (·.1))[j]? = some d)(u:Value)(b:(vals t a)[j]? = some u):a.tmps.getD d undef=u:=by
 unfold vals at b;rw[p6]at hd b;cases c:t[j]? with
 |none=>rw[c]at hd;cases hd
 |some p=>rw[c]at hd b;have hd:=aG hd;have b:=aG b;subst hd;exact b
def ng(a b:bp)(c:fE real (bp.ks a))(x:fE real (bp.ks b)):S:=om b x (om a c St.start)
def B3(t:bp):((t.map (·.2)).map Sh.ks).flatten=bp.ks t:=by unfold bp.ks;rw[List.map_map];rfl
def wG {c d:bp} {j:fE real (bp.ks c)} {x:fE real (bp.ks d)} (p:(c.map (·.2)).all Sh.eG=true) (g:zQ w ω) (h:∀b l k,ω b=some k->ω l=some k->b=l) (f:∀b k,ω b=some k->b<w.heap.size) (e:a.defers=[])
  (o:kz w ω a c j) (q:kz w ω a d x):Rel H ω a w (ng c d j x):=by
 have m:Rel H ω a w (om c j St.start):=rj g (by omega) h f e (λ_=>rfl) (λ_=>trivial) o (xk c a);have n:∀i,((om c j St.start).ob i).o=.gone:=by intro i;unfold om;rw[oU];exact pE _ _ 1 _ p (by rw[lm,B3]) (λ_=>rfl) i
 exact rj g (by omega) h f e n m.slots q (xk d a)
def rV(h:Rel H ω a w s):∀t:bp,aH (cQ H w ω s) (vals t a) (t.map λp=>s.sl p.1)
 |[]=>trivial
 |p::t=>⟨h.slots p.1,rV h t⟩
def sr(h:Rel H ω a w s){t:bp}{x:fE real (bp.ks t)}{f:S}(b:fC t s=some (x,f)):
  ∃c m,Passes H ω a w s c f/\bT w ω s c f m 1 (1+au (t.map (·.2)))/\((t.map (·.2)).all Sh.eG=true->m=[])/\∀e j d,di c f e j->fJ w e d m->kz w d a t x:=by
 unfold fC at b;cases g:bz (t.map (·.2)) (t.map λp=>s.sl p.1) s with
 |none=>rw[g]at b;cases b
 |some q=>
  obtain⟨k,j⟩:=q;rw[g]at b;simp only at b;cases i:kL (bp.ks t) k with
  |none=>rw[i]at b;cases b
  |some y=>
   rw[i]at b;have b:=aG b;injection b with l n
   subst l;subst n;obtain⟨c,m,z,o,v,A⟩:=iH _ _ _ ω s k j 1 h (rV h t) g;refine⟨c,m,z,o,v,λe B d r u=>?_⟩;unfold kz;rw[gJ _ _ _ i];exact A e B d r u
def BO(h:Rel H ω a w s){keep gZ:bp}{f:fE real (bp.ks keep)}{m:S}{x:fE real (bp.ks gZ)}{g:S}(k:(keep.map (·.2)).all Sh.eG=true)(n:fC keep s=some (f,m))(o:fC gZ m=some (x,g)):
  ∃c,Rel H c a w (ng keep gZ f x)/\cH ω w c w/\kz w c a keep f:=by
 obtain⟨u,m1,l,v,q,r⟩:=sr h n;obtain⟨b,m2,d,e,y,t⟩:=sr l.rel o;have p:=q k;subst p;have i:fJ w b (b.named m2) m2:=fA e;have j:=r b g (b.named m2) e.later ⟨i.none,λ_ _ h=>nomatch h⟩;exact⟨b.named m2,wG k (d.rel.dH.ext (iB _ _ _)) (oQ (by omega) e d.rel.inj) (oP d.rel.dom) d.rel.defers j (t b g _ (di.refl _ _) i),(l.ext.trans d.ext).trans (iB _ _ _),j⟩
def wJ (h:Rel H ω a w s) {f:aq} {m:World} {j:Act} {b t:bp} {i:fE real (bp.ks b)} {x:fE real (bp.ks t)} {r:S} (q:(b.map (·.2)).all Sh.eG=true) (k:kz m f j b i) (y:cH f m ω w)
  (d:∀p∈b,a.tmps.getD p.1 undef=j.tmps.getD p.1 undef) (u:fC t s=some (x,r)):∃e,Rel H e a w (ng b t i x)/\cH ω w e w/\kz w e a b i:=by
 obtain⟨c,m1,g,n,B,A⟩:=sr h u;have v:fJ w c (c.named m1) m1:=fA n;have z:vals b a=vals b j:=by unfold vals;exact List.map_congr_left d
 have l:jQ m f w (c.named m1):=(y.trans (g.ext.trans (iB _ _ m1))).stays;have o:kz w (c.named m1) a b i:=by unfold kz;rw[z];exact qD l _ _ _ 1 q (by rw[lm,B3]) k
 exact⟨c.named m1,wG q (g.rel.dH.ext (iB _ _ _)) (oQ (by omega) n g.rel.inj) (oP g.rel.dom) g.rel.defers o (A c r _ (di.refl _ _) v),g.ext.trans (iB _ _ _),o⟩
end
structure hJ where
 look:Bool
 args:List Sh
 bf:List Sh
 fn:fE real ((args.map Sh.ks).flatten)->Option (fE real ((bf.map Sh.ks).flatten++(dY look args++(eC args).flatten)))
def hJ.callee(F:hJ)(R:Type):Callee real (Option R):=⟨F.look,F.args,F.bf,λx k=>(F.fn x).bind k⟩
def tab(a:bA->Option hJ)(R:Type):bA->Option (Callee real (Option R)):=λf=>(a f).map (·.callee R)
structure dR where
 keep:bp
 gZ:bp
 gD:List (Ex×bp)
 fn:fE real (bp.ks keep)->fE real (bp.ks gZ)->Option (jX real gD)
 ip:Option ((R:Type)->S->(Ex->S->Option R)->Option R)
def dR.fH(l:dR)(R:Type):Bi real (Option R):=⟨l.keep,l.gZ,l.gD,λa x k=>(l.fn a x).bind λq=>jX.elim l.gD q k⟩
def GD(a:Nat->Option dR)(R:Type):Nat->Option (Bi real (Option R)):=λn=>(a n).map (·.fH R)
abbrev vq:=FuncId->Option ((R:Type)->C6 real (Option R))
def mi(a:vq)(R:Type):FuncId->Option (C6 real (Option R)):=λf=>(a f).map λt=>t R
def Am(a:Nat->Option dR)(c:vq)(b:Nat->Bool)(R:Type):Lk real (Option R):=⟨GD a R,mi c R,b,λn=>(a n).bind λl=>l.ip.map λt=>t R⟩
abbrev FN:vq:=λ_=>none
abbrev FR:Nat->Bool:=λ_=>false
def eA(P:Program)(E:Env)(c:bA->Option hJ):Prop:=
 ∀(H:Nat->Value) (R:Type) (o:Oper) (f:Operand) (args:Array Operand) (b:Array Nat) (ω:aq) (a:Act) (w:World) (s:S) (k:S->Option R) (r:R) (Q:Exit->Act->World->Prop),
  o.op=.call ⟨.value f,args,b⟩->Rel H ω a w s->(∀d,o.dst=some d->d<a.tmps.size)->aL E (av R) (tab c R) o s k=some r->o.wp P a w (Ends H ω a w o.dst k r) Q
def jm(P:Program)(E:Env)(e:vq):Prop:=
 ∀(H:Nat->Value) (R:Type) (o:Oper) (f:FuncId) (t:(R:Type)->C6 real (Option R)) (args:Array Operand) (b:Array Nat) (ω:aq) (a:Act) (w:World) (s:S) (k:S->Option R) (r:R) (Q:Exit->Act->World->Prop),
  o.op=.call ⟨.value (.func f),args,b⟩->e f=some t->args.size=b.size->Rel H ω a w s->(∀d,o.dst=some d->d<a.tmps.size) ->
  t R ((args.toList.zip b.toList).map λp=>ev E s p.2 p.1) s (λv c=>k (c.bI o.dst v))=some r->o.wp P a w (Ends H ω a w o.dst k r) Q
def rX{P:Program}{E:Env}:jm P E FN:=λ_ _ _ _ _ _ _ _ _ _ _ _ _ _ _ h=>nomatch h
section
variable {R:Type}{P:Program}{E:Env}{Ψ:bA->Option hJ}{Ξ:vq}{ω:aq}{a:Act}{w:World}{s:S}{k:S->Option R}{r:R}{o:Oper}{Q:Exit->Act->World->Prop}
def jM (j:bD P E) (F:eA P E Ψ) (h:Rel H ω a w s) (hd:∀d,o.dst=some d->d<a.tmps.size)
  (e:aL E (av R) (tab Ψ R) o s k=some r):o.wp P a w (Ends H ω a w o.dst k r) Q:=by
 cases g:o.op with
 |move x=>exact ud (E:=E) (.inl g) h hd (by unfold aL at e;simp only[g]at e;exact e)
 |assign x=>exact ud (E:=E) (.inr g) h hd (by unfold aL at e;simp only[g]at e;exact e)
 |pick c x y=>exact AJ (E:=E) g h hd (by unfold aL at e;simp only[g]at e;exact e)
 |alloc t=>exact yM j g h hd e
 |box t x=>exact CG j g h hd e
 |build t I=>exact yN j g h hd e
 |buildSlice t n I=>exact pT j g h hd e
 |load t x=>exact AI j g h hd e
 |store t p v=>exact yS j g h hd e
 |nilCheck x=>exact sK g h hd e
 |binOp G t x y M=>exact CF j g h hd e
 |unOp G t x=>exact Ds g h hd e
 |convert J D x=>exact uW j g h hd e
 |makeFunc fn first captured=>
  cases fn with
  |func f=>exact sJ g h hd e
  |_=>unfold aL at e;simp only[g]at e;cases e
 |makeSlice t n c=>exact r0 j g h hd e
 |makeMap t r=>exact uZ j g h hd e
 |lookup t m x ok=>exact w8 j g h hd e
 |mapUpdate t m x v=>exact lD j g h hd e
 |slice t x L K mx=>exact yQ j g h hd e
 |fieldAddr t x f=>exact rY j g h hd e
 |field t x f=>exact yO j g h hd e
 |indexAddr t x i=>exact rZ j g h hd e
 |index t x i=>exact yP j g h hd e
 |extract t i=>exact uX g h hd e
 |call c=>
  obtain⟨B,args,l⟩:=c;cases B with
  |value f=>exact F H R o f args l ω a w s k r Q g h hd e
  |invoke _ _=>unfold aL at e;simp only[g]at e;cases A:Nat.beq args.size l.size <;> rw[A]at e <;> cases e
  |builtin b=>
   have u:args.size=l.size:=by
    unfold aL at e;simp only[g]at e;cases A:Nat.beq args.size l.size with
    |true=>exact bn A
    |false=>rw[A]at e;cases e
   by_cases C:b=.append
   .subst C;exact step_append j g u h hd e
   .by_cases q:b=.len\/b=.min\/b=.max
    .exact yR j g q u h hd e
    .exfalso;have z:Nat.beq args.size l.size=true:=by rw[u];exact kF _
     unfold aL at e;simp only[g,z,az]at e;unfold dD at e;split at e <;> first|exact C rfl|exact q (.inl rfl)|exact q (.inr (.inl rfl))|exact q (.inr (.inr rfl))|cases e
 |_=>unfold aL at e;simp only[g]at e;cases e
def ua (e:bD P E) (i:eA P E Ψ) (D:jm P E Ξ) (h:Rel H ω a w s) (hd:∀d,o.dst=some d->d<a.tmps.size)
  (b:qi E (av R) (tab Ψ R) (mi Ξ R) o s k=some r):o.wp P a w (Ends H ω a w o.dst k r) Q:=by
 unfold qi at b;split at b
 .rename_i c n;obtain⟨u,args,l⟩:=c;simp only at b;split at b
  .rename_i f;split at b
   .rename_i t j;have I:∃g,Ξ f=some g/\t=g R:=by
     unfold mi at j;cases q:Ξ f with
     |none=>rw[q]at j;cases j
     |some g=>rw[q]at j;exact⟨g,rfl,(aG j).symm⟩
    obtain⟨g,C,rfl⟩:=I;cases m:Nat.beq args.size l.size with
    |false=>rw[m]at b;cases b
    |true=>rw[m]at b;exact D H R o f g args l ω a w s k r Q n C (bn m) h hd b
   .exact jM e i h hd b
  .exact jM e i h hd b
 .split at b
  .rename_i G;obtain⟨L,J,v⟩:=Ar h G;refine Oper.wp_mono (λM N F=>?_) (jM (Q:=Q) e i J hd b);obtain⟨p,K,x,y,z,A,B⟩:=F;exact⟨p,K,x,v.trans y,z,A,B⟩
  .exact jM e i h hd b
 .rename_i n;exact w7 e n h hd b
 .exact jM e i h hd b
def FV:Exit->Ex->Prop
 |.normal,.normal=>True
 |.exit i,.exit j=>i=j
 |.ret,.ret=>True
 |_,_=>False
def Post(H:Nat->Value){R:Type}(U:Nat->Prop)(h:aq)(a:Act)(w:World)(k:Ex->S->Option R)(r:R):Exit->Act->World->Prop:=λe c g=>∃d b f,FV e d/\Rel H b c g f/\cH h w b g/\k d f=some r/\c.tmps.size=a.tmps.size/\∀j,U j->c.tmps.getD j undef=a.tmps.getD j undef
def oc{ops:Array Oper}{a:Array Value}{j t:Nat}{b:Bool}(e:(ops[j]?).bind (·.dst)=some t)(c:a.getD t undef=.bool b):yielded ops a j=some b:=by
 unfold yielded;rw[e];simp only[aX];rw[fL]at c;cases d:a[t]? with
 |none=>rw[d]at c;cases c
 |some v=>rw[d]at c;simp at c;subst c;rfl
def mE{ops:Array Oper}{a:Array Value}{j t:Nat}(d:(ops[j]?).bind (·.dst)=some t)(b:a.getD t undef=undef):yielded ops a j=none:=by
 unfold yielded;rw[d];simp only[aX];rw[fL]at b;cases c:a[t]? with
 |none=>rfl
 |some v=>rw[c]at b;simp at b;subst b;rfl
def uQ(V:bD P E)(T:eA P E Ψ)(W:jm P E Ξ){ops:Array Oper}{U:Nat->Prop}:∀(l:List Oper) (p:aq) (a:Act) (w:World) (s:S) (k:S->Option R) (m:Exit->Act->World->Prop),(∀o∈l,∀j,U j->o.dst≠some j)->a.tmps.size=E.nt->Rel H p a w s->lq E (av R) (tab Ψ R) (mi Ξ R) ops l s k=some r ->
  (∀v B J M,Rel H v B J M->cH p w v J->k M=some r->B.tmps.size=a.tmps.size->(∀j,U j->B.tmps.getD j undef=a.tmps.getD j undef)->m .normal B J)->wpList P ops m l a w
 |[],p,a,w,s,k,m,_,_,h,c,K=>K p a w s h (cH.refl _ _) c rfl (λ_ _=>rfl)
 |o::rest,p,a,w,s,k,m,hU,X,h,c,K=>by
  simp only[lq]at c;cases g:qd E o.dst with
  |false=>rw[g]at c;cases c
  |true=>
   rw[g]at c;simp only[az]at c;have hd:∀d,o.dst=some d->d<a.tmps.size:=by intro d e;rw[e]at g;have Q:d+1<=E.nt:=dS g;rw[X];exact Q
   have D:∀o'∈rest,∀j,U j->o'.dst≠some j:=λo' Y=>hU o' (by simp[Y]);have C:=hU o (by simp);have yes:∀(x:S),Rel H p a w x->(qi E (av R) (tab Ψ R) (mi Ξ R) o x λI=>lq E (av R) (tab Ψ R) (mi Ξ R) ops rest I k)=some r->o.wp P a w (wpList P ops m rest) m:=by intro x O z;refine Oper.wp_mono (λB J y=>?_) (ua V T W O hd z);obtain⟨v,M,g1,g2,g3,g4,g5⟩:=y;refine uQ V T W rest v B J M k m D (g4.trans X) g1 g3 (λA N w2 s2 q1 q2 q3 q4 q5=>?_);exact K A N w2 s2 q1 (g2.trans q2) q3 (q4.trans g4) (λj G=>(q5 j G).trans (g5 j (C j G)))
   have no:∀(x:S),Rel H p a w x->lq E (av R) (tab Ψ R) (mi Ξ R) ops rest (x.bI o.dst (.one .undef)) k=some r->wpList P ops m rest (a.put o.dst undef) w:=by intro x O z;have Q:Rel H p (a.put o.dst undef) w (x.bI o.dst (.one .undef)):=O.bI hd (t:=.one .undef) rfl;refine uQ V T W rest p _ w _ k m D ((jJ _ _ _).trans X) Q z (λA N w2 s2 q1 q2 q3 q4 q5=>?_);exact K A N w2 s2 q1 q2 q3 (q4.trans (jJ _ _ _)) (λj G=>(q5 j G).trans (lT _ _ _ (C j G)))
   unfold wpList;cases F:o.guard with
   |none=>rw[F]at c;rw[cz (by simp[Region.wanted,F])];exact .inl (yes s h c)
   |some gw=>
    obtain⟨j,f⟩:=gw;rw[F]at c;simp only at c;cases L:(ops[j]?).bind (·.dst)with
    |none=>rw[L]at c;cases c
    |some t=>
     rw[L]at c;simp only at c;have n:=h.slots t;have main:∀b:Bool,cQ H w p s (a.tmps.getD t undef) (.one (.val .bool (real.mj b))) ->
       (bif b then(bif f then qi E (av R) (tab Ψ R) (mi Ξ R) o (s.set t (.one (.val .bool (real.mj true)))) (λI=>lq E (av R) (tab Ψ R) (mi Ξ R) ops rest I k)else lq E (av R) (tab Ψ R) (mi Ξ R) ops rest ((s.set t (.one (.val .bool (real.mj true)))).bI o.dst (.one .undef)) k)
        else(bif f then lq E (av R) (tab Ψ R) (mi Ξ R) ops rest ((s.set t (.one (.val .bool (real.mj false)))).bI o.dst (.one .undef)) k else qi E (av R) (tab Ψ R) (mi Ξ R) o (s.set t (.one (.val .bool (real.mj false)))) (λI=>lq E (av R) (tab Ψ R) (mi Ξ R) ops rest I k)))=some r ->
       if Region.wanted o (yielded ops a.tmps)then o.wp P a w (wpList P ops m rest) m\/(o.asks P a w/\LetsOut m)else wpList P ops m rest (a.put o.dst undef) w:=by
      intro b n q;have Z:a.tmps.getD t undef=.bool b:=n;have hy:=oc (ops:=ops) L Z;have hw:Region.wanted o (yielded ops a.tmps)=(some b==some f):=by simp[Region.wanted,F,hy]
      rw[hw];have i:=h.reset n;cases b with
      |true=>
       cases f with
       |true=>rw[cz (by rfl)];exact .inl (yes _ i q)
       |false=>rw[bc (by decide)];exact no _ i q
      |false=>
       cases f with
       |true=>rw[bc (by decide)];exact no _ i q
       |false=>rw[cz (by rfl)];exact .inl (yes _ i q)
     cases u:s.sl t with
     |one l=>
      rw[u]at c n;cases l with
      |val tt b0=>
       cases tt with
       |bool=>exact main b0 n c
       |_=>cases c
      |undef=>have Z:a.tmps.getD t undef=undef:=n;have hy:=mE (ops:=ops) L Z;rw[bc (by simp[Region.wanted,F,hy])];exact no s h c
      |_=>cases c
     |agg _=>rw[u]at c;cases c
     |ol _=>rw[u]at c;cases c
     |pQ _ _=>rw[u]at c;cases c
end
end Go.R
namespace Go.R
section
variable {R:Type}{E:Env}{Ψ:bA->Option hJ}
noncomputable def step1(E:Env)(a:bA->Option hJ)(o:Oper)(s:S):Option S:=aL E (av S) (tab a S) o s some
def ai{α:Type}{x:Option α}{f:α->Option R}{g:α->Option S}{k:S->Option R}(h:∀y,f y=(g y).bind k):af (av R) x f=(af (av S) x g).bind k:=by
 cases x with
 |none=>rfl
 |some y=>exact h y
def aA{b:Bool}{x y:Option R}{a c:Option S}{k:S->Option R}(d:x=a.bind k)(e:y=c.bind k):(bif b then x else y)=(bif b then a else c).bind k:=by
 cases b
 .exact e
 .exact d
def qK(b:Bool)(a:BinOp)(x y:L)(f:L->Option R)(g:L->Option S)(k:S->Option R)(h:∀l,f l=(g l).bind k):kX (av R) b a x y f=(kX (av S) b a x y g).bind k:=by
 unfold kX;cases x with
 |val t x=>
  cases y with
  |val u y=>
   cases t <;> cases u <;> simp only[] <;> first
    |rfl
    |(cases a <;> first
      |rfl
      |exact aA rfl (h _)
      |exact aA (h _) rfl
      |exact h _
      |(simp only[];split <;> first|rfl|exact h _|exact aA rfl (h _)))
    |(cases b <;> cases a <;> first|rfl|exact h _)
    |skip
  |_=>cases t <;> rfl
 |_=>rfl
def uV(d:Nat)(s:S)(x:bK)(c:Cont real)(b:Bool)(l h:IV)(f:bK->S->Option R)(g:bK->S->Option S)(k:S->Option R)(a:∀v s,f v s=(g v s).bind k):eS E (av R) d s x c b l h f=(eS E (av S) d s x c b l h g).bind k:=by
 unfold eS;cases x with
 |one q=>
  cases q with
  |ref id e i p=>
   cases p with
   |nil=>simp only[];refine aA (a _ _) (aA (aA rfl (a _ _)) (a _ _))
   |cons _ _=>rfl
  |_=>exact a _ _
 |_=>exact a _ _
def yK(d t:Nat)(s:S)(x:bK)(e a mx:Option Operand)(f:bK->S->Option R)(g:bK->S->Option S)(k:S->Option R)(b:∀v s,f v s=(g v s).bind k):jL E (av R) d t s x e a mx f=(jL E (av S) d t s x e a mx g).bind k:=by
 unfold jL;refine ai λq=>ai λc=>aA (aA (b _ _) ?_) rfl;cases mx with
 |some _=>rfl
 |none=>exact ai λl=>ai λh=>aA (uV _ _ _ _ _ _ _ _ _ _ b) rfl
def s6(F:hJ)(d:Nat)(args:List bK)(s:S)(f:bK->S->Option R)(g:bK->S->Option S)(k:S->Option R)(a:∀v s,f v s=(g v s).bind k):jU (av R) (F.callee R) d args s f=(jU (av S) (F.callee S) d args s g).bind k:=by
 unfold jU;refine ai λb=>ai λe=>ai λx=>?_;show(F.fn x).bind _=((F.fn x).bind _).bind k;cases F.fn x with
 |none=>rfl
 |some y=>exact ai λc=>a _ _
def z8(F:hJ)(d:Nat)(args:List bK)(s:S)(f:bK->S->Option R)(g:bK->S->Option S)(k:S->Option R)(e:∀v s,f v s=(g v s).bind k):nc (av R) (F.callee R) d args s f=(nc (av S) (F.callee S) d args s g).bind k:=by
 unfold nc;refine aA (aA ?_ (aA (ai λr=>ai λx=>?_) rfl)) rfl
 .cases a:dO (aD d 0 0+2047) F.args args s with
  |none=>have b:dO (aD d 0 0+2047) (F.callee R).args args s=none:=a;have c:dO (aD d 0 0+2047) (F.callee S).args args s=none:=a;rw[b,c];exact s6 F d args s f g k e
  |some q=>have b:dO (aD d 0 0+2047) (F.callee R).args args s=some q:=a;have c:dO (aD d 0 0+2047) (F.callee S).args args s=some q:=a;rw[b,c];exact s6 F d q.1 q.2.1 _ _ k λv h=>ai λi=>e _ _
 .show(F.fn x).bind _=((F.fn x).bind _).bind k;cases F.fn x with
  |none=>rfl
  |some y=>exact ai λh=>e _ _
def uy(d:Nat)(b:Builtin)(c:List Nat)(args:List bK)(s:S)(f:bK->S->Option R)(g:bK->S->Option S)(k:S->Option R)(a:∀v s,f v s=(g v s).bind k):dD E (av R) d b c args s f=(dD E (av S) d b c args s g).bind k:=by
 unfold dD;split
 .refine aA (ai λ_=>a _ _) (ai λ_=>ai λ_=>a _ _)
 .exact ai λ_=>ai λ_=>a _ _
 .exact ai λ_=>ai λ_=>a _ _
 .refine ai λq=>ai λ_=>ai λe=>ai λh=>aA rfl ?_;split
  .rfl
  .refine aA ?_ ?_
   .split
    .refine aA ?_ rfl;split
     .exact aA (a _ _) rfl
     .rfl
    .rfl
   .split
    .exact aA (a _ _) rfl
    .rfl
 .rfl
def AG(o:Oper)(s:S)(k:S->Option R):aL E (av R) (tab Ψ R) o s k=(step1 E Ψ o s).bind k:=by
 unfold step1 aL;have J:∀(v:bK) (s:S),k (s.bI o.dst v)=(some (s.bI o.dst v)).bind k:=λ_ _=>rfl;cases o.op with
 |pick c a b=>exact ai λc=>aA rfl rfl
 |alloc t=>exact ai λi=>rfl
 |box t x=>exact ai λi=>ai λv=>aA (aA (ai λr=>rfl) rfl) rfl
 |build t G=>exact ai λi=>aA (ai λA=>rfl) rfl
 |buildSlice t n G=>exact ai λr=>aA (aA (ai λlss=>ai λq=>ai λx=>rfl) (ai λq=>rfl)) rfl
 |load t p=>
  refine ai λi=>?_;cases ev E s 0 p with
  |one l=>exact ai λv=>rfl
  |_=>rfl
 |store t p v=>
  refine ai λi=>ai λv=>aA ?_ rfl;cases ev E s 0 p with
  |one l=>exact ai λv=>rfl
  |_=>rfl
 |nilCheck x=>
  simp only[];cases ev E s 0 x with
  |one l=>
   cases l with
   |ptr id g d=>exact ai λ_=>rfl
   |bH id g h p j d=>exact ai λc=>aA rfl rfl
   |_=>rfl
  |_=>rfl
 |binOp u t x y O=>
  simp only[];cases gb E s u t x y with
  |some l=>rfl
  |none=>
  simp only[];cases ev E s t x with
  |one x=>
   cases ev E s t y with
   |one y=>exact qK _ _ _ _ _ _ _ (λl=>rfl)
   |_=>rfl
  |agg xs=>
   cases ev E s t y with
   |agg N=>exact ai λi=>ai λb=>by cases u <;> rfl
   |_=>rfl
  |ol _=>rfl
  |pQ _ _=>rfl
 |unOp u t x=>
  simp only[];cases u <;> first|rfl|skip
  all_goals (cases ev E s t x with
   |one l=>cases l with
    |val z y=>cases z <;> rfl
    |_=>rfl
   |_=>rfl)
 |convert H C x=>
  refine ai λ_=>ai λi=>aA rfl ?_;split
  .rfl
  .refine ai λ_=>ai λ_=>aA rfl (ai λc=>aA ?_ rfl);split <;> rfl
  .rfl
 |makeFunc fn first captured=>
  cases fn with
  |func f=>exact aA (ai λB=>rfl) rfl
  |_=>rfl
 |makeSlice t n c=>exact ai λr=>ai λL=>aA (aA rfl rfl) rfl
 |makeMap t M=>exact ai λk=>aA rfl rfl
 |lookup t m x ok=>
  refine ai λD=>aA rfl ?_;split
  .refine ai λq=>aA ?_ rfl;split <;> rfl
  .refine aA ?_ rfl;split <;> rfl
  .rfl
 |mapUpdate t m x v=>
  refine ai λD=>?_;split
  .refine ai λq=>aA ?_ rfl;split <;> rfl
  .rfl
 |slice t x K I mx=>exact yK _ _ _ _ _ _ _ _ _ _ (λv s=>rfl)
 |fieldAddr t x f=>
  refine ai λi=>ai λq=>aA rfl ?_;cases ev E s 0 x with
  |one l=>
   cases l with
   |ptr id g d=>exact ai λ_=>rfl
   |bH id g h p j d=>exact ai λc=>aA rfl rfl
   |_=>rfl
  |_=>rfl
 |field t x f=>
  refine ai λi=>ai λq=>aA rfl ?_;cases ev E s t x with
  |agg ls=>exact aA rfl rfl
  |_=>rfl
 |indexAddr t x i=>
  refine ai λi=>ai λq=>?_;cases ev E s t x with
  |one l=>
   cases l with
   |val z y=>
    cases z with
    |sl e A=>exact aA (aA rfl rfl) rfl
    |_=>rfl
   |ref id g h p=>exact ai λc=>aA (aA (aA rfl rfl) rfl) rfl
   |_=>rfl
  |_=>rfl
 |index t x i=>exact aA (ai λi=>ai λx=>aA rfl rfl) rfl
 |extract t i=>
  simp only[];cases ev E s 0 t with
  |ol A=>exact ai λc=>rfl
  |_=>rfl
 |call c=>
  refine aA ?_ rfl;cases c.callee with
  |builtin b=>exact uy _ _ _ _ _ _ _ _ (λv s=>rfl)
  |value f=>
   simp only[];cases ev E s 0 f with
   |one l=>
    cases l with
    |fn w B=>
     simp only[];unfold tab;cases Ψ (w,wB ((c.args.toList.zip c.argTypes.toList).map λp=>ev E s p.2 p.1))with
     |none=>rfl
     |some F=>simp only[cj,af];exact z8 F _ _ _ _ _ _ (λv s=>rfl)
    |_=>rfl
   |_=>rfl
  |invoke _ _=>rfl
 |_=>rfl
end
abbrev Sl:=Nat->bK
structure Fr where
 sl:Sl
 F:Nat->Bool
 t:Nat->fU real
def St.mx(s:S)(f:Fr):S:=⟨f.sl,λid=>bif f.F id then s.ob id else f.t id⟩
section
variable {f:Fr}
def cq{s:S}{id:Nat}(h:f.F id=true):(s.mx f).ob id=s.ob id:=by show(bif f.F id then s.ob id else f.t id)=_;rw[h];rfl
def Cn{s:S}{id:Nat}(h:f.F id=true)(q:fU real):(s.mx f).zP id q=(s.zP id q).mx f:=by
 unfold St.mx St.zP;congr 1;funext i;simp only[];cases a:Nat.beq i id with
 |true=>rw[bn a,h];rfl
 |false=>rfl
def dx{s:S}{id:Nat}(h:f.F id=true)(a:Bool)(o:Ob real):(s.mx f).bq id a o=(s.bq id a o).mx f:=by unfold St.bq;rw[cq h];exact Cn h _
def eu{s:S}{id:Nat}(h:f.F id=true)(o:Ob real):(s.mx f).new id o=(s.new id o).mx f:=by unfold St.new;rw[cq h];exact Cn h _
def jc(f:Fr)(a:List Nat):Prop:=∀id∈a,f.F id=true
def jc.iP{x y:List Nat}(h:jc f (x++y)):jc f x/\jc f y:=⟨λid a=>h id (cg.2 (.inl a)),λid a=>h id (cg.2 (.inr a))⟩
def jW(f:Fr)(ls:List L):Prop:=∀l∈ls,jc f l.aK
def jW.hd{l:L}{ls:List L}(h:jW f (l::ls)):jc f l.aK:=h l (by simp)
def jW.tl{l:L}{ls:List L}(h:jW f (l::ls)):jW f ls:=λx a=>h x (by simp[a])
def jc.ref{id g h:Nat}{p:iU}(a:jc f (Lf.aK (A:=real) (.ref id g h p))):f.F id=true:=a id (by simp[Lf.aK])
def jc.ptr{id g a:Nat}(b:jc f (Lf.aK (A:=real) (.ptr id g a))):f.F id=true:=b id (by simp[Lf.aK])
def jc.bH{id g h off:Nat}{p:iU}{i:IV}(a:jc f (Lf.aK (A:=real) (.bH id g h p i off))):f.F id=true:=a id (by simp[Lf.aK])
def jc.cD{id g:Nat}(a:jc f (Lf.aK (A:=real) (.cD id g))):f.F id=true:=a id (by simp[Lf.aK])
def i6(s:S)(f:Fr)(a:List Nat):Prop:=∀id∈a,∀ls,(s.ob id).o=.blk ls->jW f ls
def gO{s:S}{id:Nat}(h:f.F id=true)(g a:Nat)(p:iU):(s.mx f).cont id g a p=s.cont id g a p:=by unfold St.cont;rw[cq h]
def gj{s:S}{id:Nat}(h:f.F id=true)(g:Nat):dm (s.mx f) id g=dm s id g:=by unfold dm;rw[cq h]
def uN{s:S}{id:Nat}(h:f.F id=true)(g:Nat):sy (s.mx f) id g=sy s id g:=by unfold sy;rw[cq h]
def w6{s:S}{l:L}(h:jc f l.aK):eT (s.mx f) l=eT s l:=by
 cases l with
 |ref id g b p=>simp only[eT];rw[gO h.ref]
 |ptr id g a=>simp only[eT];rw[gj h.ptr]
 |bH id g b p i a=>simp only[eT];rw[gO h.bH]
 |cD id g=>simp only[eT];rw[uN h.cD]
 |_=>rfl
def jx{s:S}{v:bK}(h:jW f v.gG):cells? (s.mx f) v=cells? s v:=by
 cases v with
 |one l=>simp only[cells?];rw[w6 (h l (by simp[TV.gG]))]
 |agg ls=>
  have:ls.all (eT (s.mx f))=ls.all (eT s):=by
   have h:jW f ls:=h;induction ls with
   |nil=>rfl
   |cons l ls a=>simp only[oo];rw[w6 h.hd,a h.tl h.tl]
  simp only[cells?];rw[this]
 |ol _=>rfl
 |pQ _ _=>rfl
def j0{s:S}{v:bK}{ls:List L}(h:cells? s v=some ls):ls=v.gG:=by
 cases v with
 |one l=>
  simp only[cells?]at h;cases a:eT s l <;> rw[a]at h
  .cases h
  .exact(aG h).symm
 |agg l=>
  simp only[cells?]at h;cases a:l.all (eT s) <;> rw[a]at h
  .cases h
  .exact(aG h).symm
 |ol _=>cases h
 |pQ _ _=>cases h
def Cc{s:S}{l:L}(h:jc f l.aK)(b:Bool)(n:Nat):jg (s.mx f) b n l=jg s b n l:=by
 cases l with
 |ptr id g a=>simp only[jg];rw[gj h.ptr]
 |bH id g d p i a=>
  have c:xA (s.mx f) id g p i=xA s id g p i:=by unfold xA;rw[cq h.bH]
  simp only[jg];rw[gO h.bH,c]
 |_=>rfl
def jz{s:S}{v:bK}(h:jW f v.gG):gC (s.mx f) v=gC s v:=by
 cases v with
 |one l=>
  cases l with
  |ref id g a p=>simp only[gC];exact gO (h (.ref id g a p) (by simp[TV.gG])).ref _ _ _
  |val t x=>cases t <;> rfl
  |_=>rfl
 |_=>rfl
def rJ(deep:Bool)(t:Ty)(l:L)(s:S)(h:jc f l.aK):bF (A:=real) deep t l (s.mx f)=(bF (A:=real) deep t l s).map λq=>(q.1,q.2.mx f):=by
 cases l with
 |val u y=>
  cases u <;> cases deep <;> simp only[bF,az,aW] <;> first
   |rfl
   |(split <;> rfl)
 |eI e c=>cases t <;> simp only[bF] <;> first|rfl|(split <;> rfl)
 |ref id g i p=>
  cases p with
  |cons _ _=>cases t <;> rfl
  |nil=>
   have a:=h.ref;have b:=cq (s:=s) a;simp only[bF,b];cases Nat.beq (s.ob id).g g with
   |false=>rfl
   |true=>
    simp only[az];cases (s.ob id).o with
    |arr e c d x=>simp only[];split <;> cases deep <;> first|rfl|(simp only[aW,cj];rw[dx a])
    |bQ e c x=>cases deep <;> simp only[az,aW] <;> first|rfl|(split <;> rfl)
    |blk _=>rfl
    |gone=>rfl
    |mp _ _=>rfl
 |_=>cases t <;> rfl
def rL(deep:Bool):∀(a:ar) (ls:List L) (s:S),jW f ls->eR (A:=real) deep a ls (s.mx f)=(eR (A:=real) deep a ls s).map λq=>(q.1,q.2.mx f)
 |.nil,[],_,_=>rfl
 |.nil,_::_,_,_=>rfl
 |.cons _ _,[],_,_=>rfl
 |.cons t ts,l::ls,s,h=>by
  simp only[eR];rw[rJ _ _ _ _ h.hd];cases bF (A:=real) deep t l s with
  |none=>rfl
  |some q=>simp only[cj];rw[rL deep ts ls q.2 h.tl];cases eR (A:=real) deep ts ls q.2 <;> rfl
def uw(e:Nat)(d:ar)(deep:Bool)(l:L)(s:S)(h:jc f l.aK):eB (A:=real) e d deep l (s.mx f)=(eB (A:=real) e d deep l s).map λq=>(q.1,q.2.mx f):=by
 cases l with
 |eI j a=>simp only[eB];split <;> rfl
 |ref id g k p=>
  cases p with
  |cons _ _=>rfl
  |nil=>
   have b:=h.ref;have c:=cq (s:=s) b;simp only[eB,c];cases Nat.beq (s.ob id).g g with
   |false=>rfl
   |true=>
    simp only[az];cases (s.ob id).o with
    |arr j a i x=>
     simp only[];cases (i==deep||a.plain)with
     |false=>rfl
     |true=>simp only[az];split <;> first|rfl|(simp only[cj];rw[dx b])
    |_=>rfl
 |_=>rfl
def Er(k:IntKind)(l:L)(s:S)(h:jc f l.aK):uM (A:=real) k l (s.mx f)=(uM (A:=real) k l s).map λq=>(q.1,q.2.mx f):=by
 cases l with
 |cD id g=>
  have a:=h.cD;have b:=cq (s:=s) a;simp only[uM,b];cases Nat.beq (s.ob id).g g with
  |false=>rfl
  |true=>
   simp only[az];cases (s.ob id).o with
   |mp c x=>simp only[];split <;> first|rfl|(simp only[cj];rw[dx a])
   |_=>rfl
 |_=>rfl
def CI(k:K)(l:L)(s:S)(h:jc f l.aK):cI k l (s.mx f)=(cI k l s).map λq=>(q.1,q.2.mx f):=by
 cases k with
 |val t=>simp only[cI];rw[rJ _ _ _ _ h];cases bF (A:=real) false t l s <;> rfl
 |arr e a deep=>simp only[cI];rw[uw _ _ _ _ _ h];cases eB (A:=real) e a deep l s <;> rfl
 |mp b=>simp only[cI];rw[Er _ _ _ h];cases uM (A:=real) b l s <;> rfl
def gY:∀(ks:List K) (ls:List L) (s:S),jW f ls->takes ks ls (s.mx f)=(takes ks ls s).map λq=>(q.1,q.2.mx f)
 |[],[],_,_=>rfl
 |[],_::_,_,_=>rfl
 |_::_,[],_,_=>rfl
 |k::ks,l::ls,s,h=>by
  simp only[takes];rw[CI _ _ _ h.hd];cases cI k l s with
  |none=>rfl
  |some q=>simp only[cj];rw[gY ks ls q.2 h.tl];cases takes ks ls q.2 <;> rfl
def j5(d:ar)(c:cU real)(s:S)(h:jc f c.aK)(j:i6 s f c.aK):bM d c (s.mx f)=(bM d c s).map λq=>(q.1,q.2.mx f):=by
 cases c with
 |ro e x=>simp only[bM];split <;> rfl
 |ptr id g=>
  have b:f.F id=true:=h id (by simp[cU.aK]);simp only[bM,gj b];cases a:dm s id g with
  |none=>rfl
  |some ls=>
   simp only[];have l:jW f ls:=j id (by simp[cU.aK]) ls (by
    unfold dm at a;cases k:Nat.beq (s.ob id).g g <;> rw[k]at a
    .cases a
    .simp only[az]at a;split at a
     .rename_i e i;injection a with a;rw[i,a]
     .cases a)
   rw[gY _ _ _ l];cases takes d.ks ls s with
   |none=>rfl
   |some q=>simp only[cj];rw[cq b];cases (q.2.ob id).o <;> first|rfl|(simp only[cj];rw[dx b])
def i6.Du{s s':S}{b:List Nat}(h:i6 s f b)(d:df s s'):i6 s' f b:=λid c ls a=>h id c ls (by rw[<-d.blk a];exact a)
def i6.iP{s:S}{x y:List Nat}(h:i6 s f (x++y)):i6 s f x/\i6 s f y:=⟨λid a=>h id (cg.2 (.inl a)),λid a=>h id (cg.2 (.inr a))⟩
def pN:∀(a:List ar) (b:List (cU real)) (s:S),jc f (b.flatMap cU.aK)->i6 s f (b.flatMap cU.aK)->bX a b (s.mx f)=(bX a b s).map λq=>(q.1,q.2.mx f)
 |[],[],_,_,_=>rfl
 |[],_::_,_,_,_=>rfl
 |_::_,[],_,_,_=>rfl
 |g::d,c::b,s,h,e=>by
  rw[pY]at h e;simp only[bX];rw[j5 _ _ _ h.iP.1 e.iP.1];cases i:bM g c s with
  |none=>rfl
  |some q=>simp only[cj];rw[pN d b q.2 h.iP.2 (e.iP.2.Du (fP i))];cases bX d b q.2 <;> rfl
def uf(ks:List K)(id g:Nat)(s:S)(a:f.F id=true)(c:∀ls,(s.ob id).o=.blk ls->jW f ls):bL (.blk ks) (.one (.ptr id g 0)) (s.mx f)=(bL (.blk ks) (.one (.ptr id g 0)) s).map λq=>(q.1,q.2.mx f):=by
 simp only[bL];rw[gj a];cases b:dm s id g with
 |none=>rfl
 |some ls=>have d:jW f ls:=c ls (cM b).2;simp only[];rw[dx a,gY _ _ _ d];cases takes ks ls (s.bq id true .gone) <;> rfl
def AQ(c:Cp)(v:cU real)(s:S)(h:jc f v.aK)(b:i6 s f v.aK):eX c v (s.mx f)=(eX c v s).map λq=>(q.1,q.2.mx f):=by
 cases c with
 |ro d=>exact j5 _ _ _ h b
 |mu ks=>
  cases v with
  |ro _ _=>rfl
  |ptr id g=>exact uf ks id g s (h id (by simp[cU.aK])) (λls a=>b id (by simp[cU.aK]) ls a)
def r8:∀(a:List Cp) (b:List (cU real)) (s:S),jc f (b.flatMap cU.aK)->i6 s f (b.flatMap cU.aK)->b7 a b (s.mx f)=(b7 a b s).map λq=>(q.1,q.2.mx f)
 |[],[],_,_,_=>rfl
 |[],_::_,_,_,_=>rfl
 |_::_,[],_,_,_=>rfl
 |g::d,c::b,s,h,e=>by
  rw[pY]at h e;simp only[b7];rw[AQ _ _ _ h.iP.1 e.iP.1];cases i:eX g c s with
  |none=>rfl
  |some q=>simp only[cj];rw[r8 d b q.2 h.iP.2 (e.iP.2.Du (lG i))];cases b7 d b q.2 <;> rfl
def AS(i:Sh)(v:bK)(s:S)(h:jc f v.aK)(b:i6 s f v.aK):bL i v (s.mx f)=(bL i v s).map λq=>(q.1,q.2.mx f):=by
 unfold bL;split
 .exact j5 _ _ _ (by simpa[TV.aK,TV.gG,Lf.aK,cU.aK] using h) (by simpa[TV.aK,TV.gG,Lf.aK,cU.aK] using b)
 .exact j5 _ _ _ (by simp[cU.aK,jc]) (by simp[cU.aK,i6])
 .rename_i g a d j;cases Nat.beq g d with
  |false=>rfl
  |true=>exact pN _ _ _ (by simpa[TV.aK,TV.gG,Lf.aK] using h) (by simpa[TV.aK,TV.gG,Lf.aK] using b)
 .rename_i g a d j;cases Nat.beq g d with
  |false=>rfl
  |true=>exact r8 _ _ _ (by simpa[TV.aK,TV.gG,Lf.aK] using h) (by simpa[TV.aK,TV.gG,Lf.aK] using b)
 .exact gY _ _ _ (λl c=>by rw[eK]at c;subst c;simpa[TV.aK,TV.gG] using h)
 .rename_i ks ls;exact gY _ _ _ (λl c id k=>h id (kT.2 ⟨l,c,k⟩))
 .rename_i ks id g;exact uf ks id g s (h id (by simp[TV.aK,TV.gG,Lf.aK])) (λls e=>b id (by simp[TV.aK,TV.gG,Lf.aK]) ls e)
 .rfl
def Be(f:Fr)(a:List bK):Prop:=∀v∈a,jc f v.aK
def C5(s:S)(f:Fr)(a:List bK):Prop:=∀v∈a,i6 s f v.aK
def r6:∀(a:List Sh) (b:List bK) (s:S),Be f b->C5 s f b->bz a b (s.mx f)=(bz a b s).map λq=>(q.1,q.2.mx f)
 |[],[],_,_,_=>rfl
 |[],_::_,_,_,_=>rfl
 |_::_,[],_,_,_=>rfl
 |g::a,v::b,s,h,d=>by
  simp only[bz];rw[AS _ _ _ (h v (by simp)) (d v (by simp))];cases e:bL g v s with
  |none=>rfl
  |some q=>simp only[cj];rw[r6 a b q.2 (λv c=>h v (by simp[c])) (λv c=>(d v (by simp[c])).Du (lH e))];cases bz a b q.2 <;> rfl
def zw(id:Nat)(v:KV real)(s:S)(h:f.F id=true):dh id v (s.mx f)=((dh id v s).1,(dh id v s).2.mx f):=by
 obtain⟨k,x⟩:=v;cases k with
 |val t=>simp only[dh];rw[eu h]
 |arr e a d=>simp only[dh];rw[eu h,cq h]
 |mp b=>simp only[dh];rw[eu h,cq h]
def nK:∀(a:List (KV real)) (id:Nat) (s:S),(∀i,id<=i->i<id+a.length->f.F i=true)->lays id a (s.mx f)=((lays id a s).1,(lays id a s).2.mx f)
 |[],_,_,_=>rfl
 |v::a,id,s,h=>by simp only[lays];rw[zw _ _ _ (h id (aJ _) (by simp))];simp only[];rw[nK a (id+1) _ (λi b c=>h i (by omega) (by simp only[cK];omega))]
def oL:∀(a:List Cp) (c:List (KV real)) (b:Nat) (s:S),(∀i,b<=i->i<b+td a->f.F i=true)->dw b a c (s.mx f)=((dw b a c s).1,(dw b a c s).2.mx f)
 |[],_,_,_,_=>rfl
 |.ro d::r,c,b,s,h=>by
  have e:td (.ro d::r)=td r:=by simp[td,Cp.width]
  rw[e]at h;simp only[dw];cases kf (A:=real) d (c.take d.len)with
  |none=>rfl
  |some x=>simp only[];rw[oL r _ b s h]
 |.mu ks::r,c,b,s,h=>by have e:td (.mu ks::r)=(ks.length+1)+td r:=rfl;rw[e]at h;have j:=h b (aJ _) (by omega);simp only[dw];rw[nK _ _ _ (λi k g=>h i (by omega) (by rw[dB]at g;omega))];simp only[];rw[eu j,cq j,oL r _ _ _ (λi k g=>h i (by omega) (by omega))]
def B5(b:Nat)(d:Sh)(c:List (KV real))(s:S)(e:c.length<=d.ks.length)(h:∀i,b<=i->i<b+d.width->f.F i=true):cm b d c (s.mx f)=((cm b d c s).1,(cm b d c s).2.mx f):=by
 cases d with
 |one k=>
  match c with
  |[]=>rfl
  |[v]=>simp only[cm];rw[zw _ _ _ (h b (aJ _) (by simp[Sh.width]))]
  |_::_::_=>rfl
 |agg ks=>have e:c.length<=ks.length:=e;have j:(Sh.agg ks).width=ks.length:=rfl;simp only[cm];rw[nK _ _ _ (λi l o=>h i l (by omega))]
 |blk ks=>have e:c.length<=ks.length:=e;have j:(Sh.blk ks).width=ks.length+1:=rfl;have m:=h b (aJ _) (by omega);simp only[cm];rw[nK _ _ _ (λi l o=>h i (by omega) (by omega))];simp only[];rw[eu m,cq m]
 |ro n=>simp only[cm];cases kf (A:=real) n c <;> rfl
 |fn _ _=>rfl
 |qa g a=>have j:(Sh.qa g a).width=td a:=rfl;rw[j]at h;simp only[cm];rw[oL a c b s h]
def oK:∀(a:List Sh) (c:List (KV real)) (b:Nat) (s:S),(∀i,b<=i->i<b+dZ a->f.F i=true)->aV b a c (s.mx f)=((aV b a c s).1,(aV b a c s).2.mx f)
 |[],_,_,_,_=>rfl
 |e::a,c,b,s,h=>by have j:dZ (e::a)=e.width+dZ a:=rfl;simp only[aV];rw[B5 _ _ _ _ (by rw[dB];omega) (λi d g=>h i d (by omega))];simp only[];rw[oK a _ _ _ (λi d g=>h i (by omega) (by omega))]
def lE(deep:Bool):∀(ls:List L) (a:ar) (x:a.T) (j:Nat) (s:S),jW f ls->aN (A:=real) deep a x j ls (s.mx f)=(aN (A:=real) deep a x j ls s).map λq=>(q.1,q.2.mx f)
 |[],_,_,_,_,_=>by simp only[aN];rfl
 |l::ls,a,x,j,s,h=>by
  simp only[aN];cases cellAt (A:=real) a x j with
  |none=>rfl
  |some q=>
   obtain⟨t,y⟩:=q;simp only[];rw[rJ _ _ _ _ h.hd];cases bF (A:=real) deep t l s with
   |none=>rfl
   |some q=>
    simp only[cj];cases setCell (A:=real) a x j ⟨t,q.1⟩with
    |none=>rfl
    |some y=>exact lE deep ls a y (j+1) q.2 h.tl
def AK(id h e:Nat)(d:ar)(x:List d.T)(p:iU)(i:IV)(a:Nat)(v:List L)(s:S)(b:f.F id=true)(j:jW f v):kw (A:=real) (s.mx f) id h e d x p i a v=(kw (A:=real) s id h e d x p i a v).map λq=>q.mx f:=by
 unfold kw;rw[cq b];cases (p.isEmpty||Nat.beq (s.ob id).h h)with
 |false=>rfl
 |true=>
  simp only[az];cases follow (A:=real) 2 e d x p with
  |none=>rfl
  |some c=>
   simp only[];rw[gY _ _ _ j];cases takes ((c.cs.kd.drop a).take v.length) v s with
   |none=>rfl
   |some q=>
    simp only[cj];cases setRow (A:=real) c.cs (real.get c.x i) a q.1 with
    |none=>rfl
    |some g=>
     simp only[];cases putAt (A:=real) c (real.put c.x i g) e d x p with
     |none=>rfl
     |some k=>simp only[];rw[cq b];cases (q.2.ob id).o <;> first|rfl|(simp only[cj];rw[dx b])
def AN(p:L)(v:List L)(s:S)(j:jc f p.aK)(l:jW f v):iv (s.mx f) p v=(iv s p v).map λq=>q.mx f:=by
 cases p with
 |ptr id g a=>
  simp only[iv,gj j.ptr];cases dm s id g with
  |none=>rfl
  |some c=>simp only[];split <;> first|rfl|(simp only[cj];rw[dx j.ptr])
 |bH id g h p i a=>
  have b:=j.bH;have d:=cq (s:=s) b;simp only[iv,d];cases Nat.beq (s.ob id).g g with
  |false=>rfl
  |true=>
   simp only[az];cases (s.ob id).o with
   |arr e c m x=>
    cases m with
    |true=>exact AK id h e c x p i a v s b l
    |false=>
     cases p with
     |cons _ _=>rfl
     |nil=>
      simp only[aW];have k:aN (A:=real) false c (real.get x i) a v (s.mx f)=(aN (A:=real) false c (real.get x i) a v s).map λq=>(q.1,q.2.mx f):=lE false v c (real.get x i) a s l;rw[k];cases aN (A:=real) false c (real.get x i) a v s with
      |none=>rfl
      |some q=>simp only[cj];rw[cq b];cases (q.2.ob id).o <;> first|rfl|(simp only[cj];rw[dx b])
   |_=>rfl
 |_=>rfl
def Alike(E:Env)(s:S)(sl:Sl)(o:Oper):Prop:=∀x∈bG o.op,∀t,ev E ⟨sl,s.ob⟩ t x=ev E s t x
end
section
variable {E:Env}{Ψ:bA->Option hJ}
def DW(a:Option Nat)(f:Fr)(b:S):S:=b.mx ⟨λi=>match a with|some d=>bif Nat.beq i d then b.sl i else f.sl i|none=>f.sl i,f.F,f.t⟩
def Dp(a:Option Nat)(f:Fr)(s:S)(v:bK):DW a f (s.bI a v)=(s.mx f).bI a v:=by
 cases a with
 |none=>rfl
 |some d=>unfold DW St.mx St.bI St.set;congr 1;funext i;cases h:Nat.beq i d <;> simp[h]
def aj{α:Type}{x:Option α}{f g:α->Option S}{m:S->S}(h:∀y,f y=(g y).map m):af (av S) x f=(af (av S) x g).map m:=by
 cases x with
 |none=>rfl
 |some y=>exact h y
def li{α:Type}{x:Option α}{f g:α->Option S}{m:S->S}(h:∀y,x=some y->f y=(g y).map m):af (av S) x f=(af (av S) x g).map m:=by
 cases x with
 |none=>rfl
 |some y=>exact h y rfl
def aF{b:Bool}{x y x' y':Option S}{m:S->S}(a:x=x'.map m)(c:y=y'.map m):(bif b then x else y)=(bif b then x' else y').map m:=by
 cases b
 .exact c
 .exact a
def BL{b:Bool}{x y x' y':Option S}{m:S->S}(a:b=true->x=x'.map m)(c:y=y'.map m):(bif b then x else y)=(bif b then x' else y').map m:=by
 cases b
 .exact c
 .exact a rfl
def Db(b:Bool)(a:BinOp)(x y:L)(f g:L->Option S)(m:S->S)(h:∀l,f l=(g l).map m):kX (av S) b a x y f=(kX (av S) b a x y g).map m:=by have:=qK (R:=S) b a x y f g (λs=>some (m s)) (λl=>by rw[h l];cases g l <;> rfl);rw[this];cases kX (av S) b a x y g <;> rfl
variable {fr:Fr}
def Be.one{v:bK}{a:List bK}(h:Be fr a)(d:v∈a):jW fr v.gG:=λl c id b=>h v d id (kT.2 ⟨l,c,b⟩)
def th{v:bK}{s:S}(h:jW fr v.gG):ic (s.mx fr) v=ic s v:=by
 unfold ic;split
 .rename_i id g a;rw[cq (h (.ref id g a []) (by simp[TV.gG])).ref]
 .rfl
def tg{v:bK}{s:S}{i:Nat}(h:jW fr v.gG)(hd:ic s v=some i):fr.F i=true:=by obtain⟨g,a,rfl,_⟩:=tj hd;exact(h (.ref i g a []) (by simp[TV.gG])).ref
def vZ(d:Nat)(b:Builtin)(z:List Nat)(args:List bK)(s:S)(f g:bK->S->Option S)(m:S->S)(A:Be fr args)(j:(match b with |.len |.min |.max=>False|_=>True)->fr.F (aD d 0 0)=true)(h:∀v C,f v (St.mx C fr)=(g v C).map m):
  dD E (av S) d b z args (s.mx fr) f=(dD E (av S) d b z args s g).map m:=by
 unfold dD;split
 .rename_i x t;rw[jz (A.one (v:=x) (by simp))];exact aF (aj λ_=>h _ s) (aj λ_=>aj λ_=>h _ s)
 .exact aj λ_=>aj λ_=>h _ s
 .exact aj λ_=>aj λ_=>h _ s
 .rename_i x y t H;have j:=j trivial;have B:=A.one (v:=x) (by simp);have w:=A.one (v:=y) (by simp);rw[jz B,jz w];refine aj λq=>aj λ_=>aj λa=>aj λk=>aF rfl ?_;cases x with
  |one l=>
   cases l with
   |eI e G=>
    simp only[];refine aF ?_ ?_
    .rw[th w];cases o:ic s y with
     |none=>rfl
     |some i=>
      have r:=tg w o;simp only[];refine aF ?_ rfl;split
      .rename_i c;refine aF ?_ rfl;have:=h (.one (.ref (aD d 0 0) ((((s.bq i true .gone).new (aD d 0 0) (.arr a.e a.cs true (real.cat a.x (real.cast c k.x)))).ob (aD d 0 0)).g) 0 [])) ((s.bq i true .gone).new (aD d 0 0) (.arr a.e a.cs true (real.cat a.x (real.cast c k.x))));rw[dx r,eu j,cq j];exact this
      .rfl
    split
    .rename_i c;refine aF ?_ rfl;have:=h (.one (.ref (aD d 0 0) (((s.new (aD d 0 0) (.arr a.e a.cs false (real.cat a.x (real.cast c k.x)))).ob (aD d 0 0)).g) 0 [])) (s.new (aD d 0 0) (.arr a.e a.cs false (real.cat a.x (real.cast c k.x))));rw[eu j,cq j];exact this
    .rfl
   |ref id D F p=>
    have u:fr.F id=true:=(B (.ref id D F p) (by simp[TV.gG])).ref;cases p with
    |nil=>
     simp only[];cases a.md with
     |zero=>rfl
     |succ n=>
      simp only[];refine aF ?_ ?_
      .rw[dx u,th w];cases o:ic (s.bq id true .gone) y with
       |none=>rfl
       |some i=>
        have r:=tg w o;simp only[];refine aF ?_ rfl;split
        .rename_i c;refine aF ?_ rfl;have:=h (.one (.ref (aD d 0 0) (((((s.bq id true .gone).bq i true .gone).new (aD d 0 0) (.arr a.e a.cs true (real.cat a.x (real.cast c k.x)))).ob (aD d 0 0)).g) 0 [])) (((s.bq id true .gone).bq i true .gone).new (aD d 0 0) (.arr a.e a.cs true (real.cat a.x (real.cast c k.x))));rw[dx r,eu j,cq j];exact this
        .rfl
      split
      .rename_i c;refine aF ?_ rfl;have:=h (.one (.ref (aD d 0 0) ((((s.bq id true .gone).new (aD d 0 0) (.arr a.e a.cs (Nat.beq (n+1) 2) (real.cat a.x (real.cast c k.x)))).ob (aD d 0 0)).g) 0 [])) ((s.bq id true .gone).new (aD d 0 0) (.arr a.e a.cs (Nat.beq (n+1) 2) (real.cat a.x (real.cast c k.x))));rw[dx u,eu j,cq j];exact this
      .rfl
    |cons _ _=>rfl
   |_=>rfl
  |_=>rfl
 .rfl
def iX{α a:Type}{o:Option α}{q:α->a}{f:a->Option S}{g:α->Option S}{m:S->S}(h:∀x,f (q x)=(g x).map m):af (av S) (o.map q) f=(af (av S) o g).map m:=by
 cases o with
 |none=>rfl
 |some x=>exact h x
def Dn{α a:Type}{o:Option α}{q:α->a}{f:a->Option S}{g:α->Option S}{m:S->S}(h:∀x,o=some x->f (q x)=(g x).map m):af (av S) (o.map q) f=(af (av S) o g).map m:=by
 cases o with
 |none=>rfl
 |some x=>exact h x rfl
def Cd(t:Ty)(l:L)(s:S)(h:jc fr l.aK):nj (A:=real) t l (s.mx fr)=nj t l s:=by
 cases l with
 |ref id g a p=>simp only[nj];rw[gO h.ref]
 |_=>rfl
def Ao(s0 s:S)(k:K)(l:L)(h:jc fr l.aK):jF k l (s0.mx fr) (s.mx fr)=jF k l s0 s:=by
 cases k with
 |val t=>simp only[jF];rw[Cd _ _ _ h]
 |arr e a d=>simp only[jF];rw[uw _ _ _ _ _ h];cases eB (A:=real) e a d l s0 <;> rfl
 |mp _=>rfl
def nO(s0 s:S):∀(ks:List K) (ls:List L),jW fr ls->looks ks ls (s0.mx fr) (s.mx fr)=looks ks ls s0 s
 |[],[],_=>rfl
 |[],_::_,_=>rfl
 |_::_,[],_=>rfl
 |k::ks,l::ls,h=>by simp only[looks];rw[nO s0 s ks ls h.tl,Ao _ _ _ _ h.hd]
def mN(s:S)(d:ar)(c:cU real)(h:jc fr c.aK)(e:i6 s fr c.aK):ga d c (s.mx fr)=ga d c s:=by
 cases c with
 |ro _ _=>rfl
 |ptr id g=>
  have a:fr.F id=true:=h id (by simp[cU.aK]);simp only[ga,gj a];cases b:dm s id g with
  |none=>rfl
  |some ls=>exact nO s s _ _ (e id (by simp[cU.aK]) ls (cM b).2)
def pG(s:S):∀(a:List ar) (b:List (cU real)),jc fr (b.flatMap cU.aK)->i6 s fr (b.flatMap cU.aK)->gk a b (s.mx fr)=gk a b s
 |[],[],_,_=>rfl
 |[],_::_,_,_=>rfl
 |_::_,[],_,_=>rfl
 |e::a,c::b,h,d=>by rw[pY]at h d;simp only[gk];rw[mN _ _ _ h.iP.1 d.iP.1,pG s a b h.iP.2 d.iP.2]
def Ap(s0 s:S)(c:Sh)(v:bK)(h:jc fr v.aK)(b:i6 s fr v.aK):iS c v (s0.mx fr) (s.mx fr)=iS c v s0 s:=by
 unfold iS;split
 .exact mN _ _ _ (by simpa[TV.aK,TV.gG,Lf.aK,cU.aK] using h) (by simpa[TV.aK,TV.gG,Lf.aK,cU.aK] using b)
 .exact mN _ _ _ (by simp[cU.aK,jc]) (by simp[cU.aK,i6])
 .rw[pG _ _ _ (by simpa[TV.aK,TV.gG,Lf.aK] using h) (by simpa[TV.aK,TV.gG,Lf.aK] using b)]
 .exact nO _ _ _ _ (λl a=>by rw[eK]at a;subst a;simpa[TV.aK,TV.gG] using h)
 .rename_i ks ls;exact nO _ _ _ _ (λl a id d=>h id (kT.2 ⟨l,a,d⟩))
 .rfl
def rB(s0 s:S):∀(a:List Sh) (b:List bK),Be fr b->C5 s fr b->dI a b (s0.mx fr) (s.mx fr)=dI a b s0 s
 |[],[],_,_=>rfl
 |[],_::_,_,_=>rfl
 |_::_,[],_,_=>rfl
 |e::a,v::b,h,d=>by simp only[dI];rw[Ap _ _ _ _ (h v (by simp)) (d v (by simp)),rB s0 s a b (λv c=>h v (by simp[c])) (λv c=>d v (by simp[c]))]
def B8(k:K)(l:L)(s:S)(h:jc fr l.aK):kJ k l (s.mx fr)=(kJ k l s).map λq=>q.mx fr:=by
 cases k with
 |val t=>rfl
 |arr e a d=>
  simp only[kJ];cases Nat.ble 1 a.len with
  |false=>rfl
  |true=>simp only[az];rw[uw _ _ _ _ _ h];cases eB (A:=real) e a d l s <;> rfl
 |mp _=>rfl
def yq{k:K}{l:L}{s s1:S}(h:kJ k l s=some s1):df s s1:=by
 cases k with
 |val t=>injection h with h;subst h;exact .refl _
 |arr e b d=>
  simp only[kJ]at h;cases c:Nat.ble 1 b.len with
  |false=>rw[c]at h;cases h
  |true=>
   rw[c]at h;simp only[az]at h;cases a:eB (A:=real) e b d l s with
   |none=>rw[a]at h;cases h
   |some q=>rw[a]at h;injection h with h;subst h;exact sZ a
 |mp _=>cases h
def ru:∀ {ks:List K} {ls:List L} {s a:S},jV ks ls s=some a->df s a
 |[],[],s,a,h=>by injection h with h;subst h;exact .refl _
 |[],_::_,_,_,h=>by cases h
 |_::_,[],_,_,h=>by cases h
 |k::ks,l::ls,s,a,h=>by
  simp only[jV]at h;cases b:kJ k l s with
  |none=>rw[b]at h;cases h
  |some c=>rw[b]at h;exact(yq b).trans (ru h)
def wK:∀(ks:List K) (ls:List L) (s:S),jW fr ls->jV ks ls (s.mx fr)=(jV ks ls s).map λq=>q.mx fr
 |[],[],_,_=>rfl
 |[],_::_,_,_=>rfl
 |_::_,[],_,_=>rfl
 |k::ks,l::ls,s,h=>by
  simp only[jV];rw[B8 _ _ _ h.hd];cases kJ k l s with
  |none=>rfl
  |some a=>exact wK ks ls a h.tl
def BB:∀(ks:List K) (ls:List L) (a:List (KV real)) (s:S),jW fr ls->jf ks ls a (s.mx fr)=(jf ks ls a s).map λq=>q.mx fr:=by
 intro ks;induction ks with
 |nil=>intro ls a s _;cases ls <;> cases a <;> rfl
 |cons k ks c=>
  intro ls a s h;cases ls with
  |nil=>cases k <;> cases a <;> rfl
  |cons l ls=>
   cases k with
   |val t=>simp only[jf];exact c ls a s h.tl
   |mp _=>cases l <;> cases a <;> rfl
   |arr e m d=>
    cases a with
    |nil=>cases l with
     |ref id g h p=>cases p <;> rfl
     |_=>rfl
    |cons v a=>
     cases l with
     |eI _ _=>simp only[jf];exact c ls a s h.tl
     |ref id g n p=>
      cases p with
      |cons _ _=>rfl
      |nil=>
       obtain⟨j,x⟩:=v;cases j with
       |val _=>rfl
       |mp _=>rfl
       |arr i b f=>simp only[jf];rw[dx h.hd.ref];exact c ls a (s.bq id true (.arr i b f x)) h.tl
     |_=>rfl
def BA:∀(a:List (List K)) (ls:List L) (b:List (KV real)) (s:S),jW fr ls->(∀l∈ls,∀id g c,l=.ptr id g c->∀i,aR id<=i->i<aR id+64->fr.F i=true)->iQ a ls b (s.mx fr)=(iQ a ls b s).map λq=>q.mx fr:=by
 intro a;induction a with
 |nil=>intro ls b s _ _;cases ls <;> cases b <;> rfl
 |cons ks a n=>
  intro ls b s h e;cases ls with
  |nil=>rfl
  |cons l ls=>
   cases l with
   |ptr id g c=>
    cases c with
    |zero=>
     simp only[iQ];cases d:(Nat.ble (id+1) cO&&(Nat.ble ks.length 64&&Nat.ble ks.length b.length))with
     |false=>rfl
     |true=>simp only[az];rw[aQ,aQ]at d;have k:=dS d.2.1;rw[nK _ _ _ (λi f j=>e (.ptr id g 0) (by simp) id g 0 rfl i f (by rw[dB]at j;omega))];simp only[];rw[dx h.hd.ptr];exact n ls _ ((lays (aR id) (b.take ks.length) s).2.bq id true (.blk (lays (aR id) (b.take ks.length) s).1)) h.tl (λl m=>e l (by simp[m]))
    |succ _=>rfl
   |_=>rfl
def BI(d:Sh)(v:bK)(h:jc fr v.aK):jW fr (d.cells v):=by
 intro l a;have dead:∀ks:List K,l∈(ks.map λ_=>(Lf.dead:L))->jc fr l.aK:=by intro ks a;obtain⟨_,_,rfl⟩:=eJ.1 a;intro id b;cases b
 cases d with
 |one k=>
  cases v with
  |one e=>simp only[Sh.cells,eK]at a;subst a;simpa[TV.aK,TV.gG] using h
  |_=>simp only[Sh.cells,eK]at a;subst a;intro id b;cases b
 |agg ks=>
  cases v with
  |agg ls=>
   simp only[Sh.cells]at a;cases c:Nat.beq ls.length ks.length with
   |true=>rw[c]at a;exact λid b=>h id (kT.2 ⟨l,a,b⟩)
   |false=>rw[c]at a;exact dead ks a
  |_=>exact dead ks a
 |_=>cases a
def kV:∀(b:List Sh) (c:List bK),Be fr c->jW fr (aY b c)
 |[],_,_=>λl a=>by simp[aY]at a
 |_::_,[],_=>λl a=>by simp[aY]at a
 |e::b,v::c,h=>λl a=>by
  simp only[aY,cg]at a;rcases a with a|a
  .exact BI e v (h v (by simp)) l a
  .exact kV b c (λv d=>h v (by simp[d])) l a
def jp:∀(b:List Cp) (a:List (cU real)) (l:L),l∈qR b a->l=.dead\/∃id g,l=.ptr id g 0/\cU.ptr id g∈a
 |[],_,l,h=>by simp[qR]at h
 |.ro _::r,[],l,h=>jp r [] l (by simpa[qR] using h)
 |.mu _::r,[],l,h=>by
  simp only[qR,cL]at h;rcases h with rfl|h
  .exact .inl rfl
  .exact jp r [] l h
 |.ro _::r,_::a,l,h=>(jp r a l (by simpa[qR] using h)).imp id λ⟨id,g,c,d⟩=>⟨id,g,c,gL _ d⟩
 |.mu _::r,.ptr id g::a,l,h=>by
  simp only[qR,cL]at h;rcases h with rfl|h
  .exact .inr ⟨id,g,rfl,by simp⟩
  .exact(jp r a l h).imp (λq=>q) λ⟨id,g,c,d⟩=>⟨id,g,c,gL _ d⟩
 |.mu _::r,.ro _ _::a,l,h=>by
  simp only[qR,cL]at h;rcases h with rfl|h
  .exact .inl rfl
  .exact(jp r a l h).imp (λq=>q) λ⟨id,g,c,d⟩=>⟨id,g,c,gL _ d⟩
def zk(d:Sh)(v:bK)(l:L)(h:l∈d.DU v):l=.dead\/v=.one l\/∃f a id g,v=.one (.fn f a)/\l=.ptr id g 0/\cU.ptr id g∈a:=by
 unfold Sh.DU at h;split at h
 .simp only[eK]at h;subst h;exact .inr (.inl rfl)
 .simp only[eK]at h;exact .inl h
 .rename_i f a;rcases jp _ _ _ h with h|⟨id,g,c,b⟩
  .exact .inl h
  .exact .inr (.inr ⟨f,a,id,g,rfl,c,b⟩)
 .rcases jp _ _ _ h with h|⟨id,g,c,b⟩
  .exact .inl h
  .cases b
 .cases h
def vS:∀(b:List Sh) (e:List bK),Be fr e->jW fr (bV b e)
 |[],_,_=>λl a=>by simp[bV]at a
 |_::_,[],_=>λl a=>by simp[bV]at a
 |k::b,v::e,h=>λl a=>by
  simp only[bV,cg]at a;rcases a with a|a
  .have d:=h v (by simp);rcases zk k v l a with rfl|rfl|⟨f,m,id,g,rfl,rfl,j⟩
   .intro id c;cases c
   .simpa[TV.aK,TV.gG] using d
   .intro i c;simp only[Lf.aK,eK]at c;subst c;refine d i ?_;simp only[TV.aK,TV.gG,pY,zc,fa,Lf.aK];exact kT.2 ⟨_,j,by simp[cU.aK]⟩
  .exact vS b e (λv d=>h v (by simp[d])) l a
def sV:∀(b:List Sh) (d:List bK) (id g a:Nat),(Lf.ptr id g a:L)∈bV b d->TV.one (.ptr id g a)∈d\/∃f c,TV.one (.fn f c)∈d/\cU.ptr id g∈c
 |[],_,_,_,_,h=>by simp[bV]at h
 |_::_,[],_,_,_,h=>by simp[bV]at h
 |o::b,v::d,id,g,a,h=>by
  simp only[bV,cg]at h;rcases h with h|h
  .rcases zk o v _ h with h|rfl|⟨f,c,l,p,rfl,j,k⟩
   .cases h
   .exact .inl (by simp)
   .injection j with e i _
    subst e;subst i;exact .inr ⟨f,c,by simp,k⟩
  .exact(sV b d id g a h).imp (λq=>gL _ q) λ⟨f,c,m,n⟩=>⟨f,c,gL _ m,n⟩
def wc (F:hJ) (d:Nat) (args:List bK) (s:S) (f g:bK->S->Option S) (m:S->S) (j:Be fr args) (n:C5 s fr args) (t:dZ F.bf<=2047) (p:∀i,aD d 0 0<=i->i<aD d 0 0+2048->fr.F i=true)
  (h:∀v k,f v (St.mx k fr)=(g v k).map m):jU (av S) (F.callee S) d args (s.mx fr) f=(jU (av S) (F.callee S) d args s g).map m:=by
 unfold jU;have e:qt (F.callee S).args args (s.mx fr)=(qt (F.callee S).args args s).map λq=>q.mx fr:=wK _ _ _ (kV _ _ j);rw[e];cases o:qt (F.callee S).args args s with
 |none=>rfl
 |some a=>
  simp only[cj,af];have b:dI (F.callee S).args args (s.mx fr) (a.mx fr)=dI (F.callee S).args args s a:=rB _ _ _ _ j (λv r=>(n v r).Du (ru o));rw[b];refine aj (x:=dI (F.callee S).args args s a) λc=>aj λx=>?_;show(F.fn x).bind _=((F.fn x).bind _).map m;cases F.fn x with
  |none=>rfl
  |some y=>have l:∀c,jn (F.callee S).args args c (a.mx fr)=(jn (F.callee S).args args c a).map λq=>q.mx fr:=λc=>BB _ _ _ _ (kV _ _ j);show af (av S) (jn (F.callee S).args args _ (a.mx fr)) _=(af (av S) (jn (F.callee S).args args _ a) _).map m;rw[l];refine iX λu=>?_;rw[oK _ _ _ _ (λi e b=>p i e (by have b:i<aD d 0 0+dZ F.bf:=b;omega))];exact h _ _
def AE{a id g b:Nat}{p:iU}{s:S}(e:fr.F a=true)(d:fr.F id=true):iT (A:=real) a id g b p (s.mx fr)=(iT (A:=real) a id g b p s).map λq=>(q.1,q.2.1.mx fr,q.2.2):=by
 unfold iT;rw[gO d,cq d];cases s.cont id g b p with
 |none=>rfl
 |some c=>
  simp only[];split
  .cases Nat.beq id a with
   |true=>rfl
   |false=>simp only[aW,cj];rw[dx d,eu e,cq e]
  .rfl
def oV{a id g f:Nat}{p:iU}{s:S}{r:bK×S×sM real}(h:iT (A:=real) a id g f p s=some r):
  ∃c e b x,s.cont id g f p=some c/\(s.ob id).o=.arr e b true x/\id≠a/\r=(.one (.ref a (((s.bq id true .gone).new a (.arr c.e c.cs true c.x)).ob a).g 0 []),(s.bq id true .gone).new a (.arr c.e c.cs true c.x),⟨a,(((s.bq id true .gone).new a (.arr c.e c.cs true c.x)).ob a).g,id,g,e,b,x,c,p⟩):=by
 unfold iT at h;cases i:s.cont id g f p with
 |none=>rw[i]at h;cases h
 |some c=>
  rw[i]at h;simp only at h;split at h
  .rename_i e b x k;cases d:Nat.beq id a with
   |true=>rw[d]at h;cases h
   |false=>
    rw[d]at h;injection h with h
    exact⟨c,e,b,x,rfl,k,λj=>(by rw[j,kF]at d;cases d),h.symm⟩
  .cases h
def AF{c:Nat}(n:fr.F c=true):∀(a:List Sh) (b:List bK) (s:S),Be fr b->dO c a b (s.mx fr)=(dO c a b s).map λq=>(q.1,q.2.1.mx fr,q.2.2):=by
 intro a;induction a with
 |nil=>intro b s _;cases b <;> rfl
 |cons i a u=>
  intro b s h;cases b with
  |nil=>cases i with
   |one k=>cases k <;> rfl
   |_=>rfl
  |cons v b=>
   have o:=u b s (λv t=>h v (by simp[t]));have other:(dO c a b (s.mx fr)).map (λr=>(v::r.1,r.2))=((dO c a b s).map λr=>(v::r.1,r.2)).map λq=>(q.1,q.2.1.mx fr,q.2.2):=by rw[o];cases dO c a b s <;> rfl
   cases i with
   |one k=>
    cases k with
    |val _=>cases v <;> exact other
    |mp _=>cases v <;> exact other
    |arr e w d=>
     cases v with
     |one l=>
      cases l with
      |ref id g f p=>
       cases p with
       |nil=>exact other
       |cons j p=>
        have m:fr.F id=true:=by have:=h (.one (.ref id g f (j::p))) (by simp);exact this id (by simp[TV.aK,TV.gG,Lf.aK])
        simp only[dO];rw[AE n m];cases iT (A:=real) c id g f (j::p) s <;> rfl
      |_=>exact other
     |_=>exact other
   |_=>cases v <;> exact other
def oW{m:Nat}:∀ {a:List Sh} {b:List bK} {s:S} {r:List bK×S×sM real},dO m a b s=some r ->
  ∃(i id g c:Nat) (p:iU) (f:bK×S×sM real),b[i]? = some (.one (.ref id g c p))/\p≠[]/\iT (A:=real) m id g c p s=some f/\r=(b.set i f.1,f.2):=by
 intro a;induction a with
 |nil=>intro b s r h;cases b <;> cases h
 |cons n a t=>
  intro b s r h;cases b with
  |nil=>cases n with
   |one k=>cases k <;> cases h
   |_=>cases h
  |cons v b=>
   have other:(dO m a b s).map (λr=>(v::r.1,r.2))=some r->∃(i id g c:Nat) (p:iU) (f:bK×S×sM real),(v::b)[i]? = some (.one (.ref id g c p))/\p≠[]/\iT (A:=real) m id g c p s=some f/\r=((v::b).set i f.1,f.2):=by
    intro h;cases j:dO m a b s with
    |none=>rw[j]at h;cases h
    |some q=>rw[j]at h;have h:=aG h;obtain⟨i,id,g,c,p,f,u,w,x,y⟩:=t j;refine⟨i+1,id,g,c,p,f,by simpa using u,w,x,?_⟩;rw[<-h,y];rfl
   cases n with
   |one k=>
    cases k with
    |val _=>cases v <;> exact other h
    |mp _=>cases v <;> exact other h
    |arr e z d=>
     cases v with
     |one l=>
      cases l with
      |ref id g c p=>
       cases p with
       |nil=>exact other h
       |cons o p=>
        simp only[dO]at h;cases j:iT (A:=real) m id g c (o::p) s with
        |none=>rw[j]at h;cases h
        |some q=>rw[j]at h;have h:=aG h;exact⟨0,id,g,c,o::p,q,rfl,by simp,j,h.symm⟩
      |_=>exact other h
     |_=>exact other h
   |_=>cases v <;> exact other h
def As{q:sM real}{s:S}(b:fr.F q.nb=true)(a:fr.F q.id=true):jG (A:=real) q (s.mx fr)=(jG (A:=real) q s).map λs=>s.mx fr:=by
 unfold jG;rw[cq b,cq a];split
 .rename_i e c d y g;cases ((Nat.beq (s.ob q.id).g q.g&&Nat.beq (s.ob q.nb).g q.gn)&&(Nat.ble 1 q.g&&(d||c.plain)))with
  |false=>rfl
  |true=>
   simp only[az];split
   .rename_i f;cases putAt (A:=real) q.c (real.cast f y) q.e q.cs q.x q.path with
    |none=>rfl
    |some h=>simp only[cj];rw[dx b,dx a]
   .rfl
 .rfl
def BG (F:hJ) (d:Nat) (args:List bK) (s:S) (f g:bK->S->Option S) (m:S->S) (u:Be fr args) (C:C5 s fr args) (B:∀i,aD d 0 0<=i->i<aD d 0 0+2048->fr.F i=true)
  (L:∀id g t,TV.one (.ptr id g t)∈args\/(∃f H,TV.one (.fn f H)∈args/\cU.ptr id g∈H)->∀i,aR id<=i->i<aR id+64->fr.F i=true) (h:∀v G,f v (St.mx G fr)=(g v G).map m):
  nc (av S) (F.callee S) d args (s.mx fr) f=(nc (av S) (F.callee S) d args s g).map m:=by
 unfold nc;refine BL (λo=>?_) rfl;have J:dZ F.bf<=2047:=by unfold qn at o;rw[aQ]at o;exact dS o.1
 refine aF ?_ (aF ?_ rfl)
 .have n:fr.F (aD d 0 0+2047)=true:=B _ (by omega) (by omega);rw[AF n _ _ _ u];cases E:dO (aD d 0 0+2047) (F.callee S).args args s with
  |none=>exact wc F d args s f g m u C J B h
  |some r=>
   obtain⟨i,id,U,V,p,r1,O,Z,P,Q⟩:=oW E;obtain⟨c,e,T,x,W,X,Y,N⟩:=oV P;subst N;subst Q;have D:fr.F id=true:=u _ (vP O) id (by simp[TV.aK,TV.gG,Lf.aK]);have k:∀v∈args.set i (TV.one (.ref (aD d 0 0+2047) (((s.bq id true .gone).new (aD d 0 0+2047) (.arr c.e c.cs true c.x)).ob (aD d 0 0+2047)).g 0 [])),v=TV.one (.ref (aD d 0 0+2047) (((s.bq id true .gone).new (aD d 0 0+2047) (.arr c.e c.cs true c.x)).ob (aD d 0 0+2047)).g 0 [])\/v∈args:=λv b=>by
    rcases List.mem_or_eq_of_mem_set b with b|b
    .exact .inr b
    .exact .inl b
   refine wc F d _ _ _ _ m (λv b=>?_) (λv b=>?_) J B (λv G=>?_)
   .rcases k v b with rfl|b
    .intro j w;simp only[TV.aK,TV.gG,Lf.aK,pY,zc,fa,eK]at w;subst w;exact n
    .exact u v b
   .intro j w ls a;have z:j≠aD d 0 0+2047:=λe=>by subst e;unfold St.new at a;rw[St.aB]at a;cases a
    unfold St.new at a;rw[St.aU _ _ z]at a;have A:j≠id:=λe=>by subst e;rw[St.ay]at a;cases a
    rw[St.aO _ _ _ A]at a;rcases k v b with rfl|b
    .simp only[TV.aK,TV.gG,Lf.aK,pY,zc,fa,eK]at w;exact absurd w z
    .exact C v b j w ls a
   .simp only[];rw[As n D];exact iX λR=>h v R
 .rw[r6 _ _ _ u C];cases bz (F.callee S).args args s with
  |none=>rfl
  |some q=>
   simp only[cj,af];refine aj (x:=kL _ q.1) λx=>?_;show(F.fn x).bind _=((F.fn x).bind _).map m;cases F.fn x with
   |none=>rfl
   |some y=>show af (av S) (iQ (eC (F.callee S).args) (bV (F.callee S).args args) _ (q.2.mx fr)) _=(af (av S) (iQ (eC (F.callee S).args) (bV (F.callee S).args args) _ q.2) _).map m;rw[BA _ _ _ _ (vS _ _ u) (λl M id g t e=>by subst e;exact L id g t (sV _ _ _ _ _ M))];refine iX λs2=>?_;rw[oK _ _ _ _ (λi K I=>B i K (by have I:i<aD d 0 0+dZ F.bf:=I;omega))];exact h _ _
def iZ(d:Nat)(s:S)(x:bK)(c:Cont real)(b:Bool)(l e:IV)(f g:bK->S->Option S)(m:S->S)(o:jW fr x.gG)(i:fr.F (aD d 0 0)=true)(h:∀v j,f v (St.mx j fr)=(g v j).map m):eS E (av S) d (s.mx fr) x c b l e f=(eS E (av S) d s x c b l e g).map m:=by
 unfold eS;cases x with
 |one q=>
  cases q with
  |ref id k n p=>
   have a:fr.F id=true:=(o (.ref id k n p) (by simp[TV.gG])).ref;cases p with
   |nil=>
    simp only[];refine aF (h _ s) (aF (aF rfl ?_) ?_)
    .have:=h (.one (.ref (aD d 0 0) ((((s.bq id true .gone).new (aD d 0 0) (.arr c.e c.cs (Nat.beq c.md 2) (real.sub c.x l e))).ob (aD d 0 0)).g) 0 [])) ((s.bq id true .gone).new (aD d 0 0) (.arr c.e c.cs (Nat.beq c.md 2) (real.sub c.x l e)));rw[dx a,eu i,cq i];exact this
    .rw[dx a];exact h _ _
   |cons _ _=>rfl
  |_=>exact h _ s
 |_=>exact h _ s
end
section
variable {E:Env}{Ψ:bA->Option hJ}{fr:Fr}
def Ey(o:Oper)(s:S)(v:bK):(some ((s.mx fr).bI o.dst v):Option S)=(some (s.bI o.dst v)).map (DW o.dst fr):=by rw[cj,Dp]
def AD(d t:Nat)(s:S)(x:bK)(j e mx:Option Operand)(f g:bK->S->Option S)(m:S->S)(i:jW fr x.gG)(k:fr.F (aD d 0 0)=true)(h:∀v z,f v (St.mx z fr)=(g v z).map m)(r:∀o,j=some o->ev E (s.mx fr) 0 o=ev E s 0 o)(p:∀o,e=some o->ev E (s.mx fr) 0 o=ev E s 0 o):
  jL E (av S) d t (s.mx fr) x j e mx f=(jL E (av S) d t s x j e mx g).map m:=by
 unfold jL;refine aj λq=>?_;rw[jz i];refine aj λc=>aF (aF (h _ s) ?_) rfl;cases mx with
 |some _=>rfl
 |none=>
  have w:∀o,j=some o->nv (ev E (s.mx fr) 0 o)=nv (ev E s 0 o):=λo u=>by rw[r o u]
  have y:∀o,e=some o->nv (ev E (s.mx fr) 0 o)=nv (ev E s 0 o):=λo u=>by rw[p o u]
  cases j with
  |none=>
   cases e with
   |none=>exact aj λl=>aj λn=>aF (iZ _ _ _ _ _ _ _ _ _ _ i k h) rfl
   |some b=>simp only[y b rfl];exact aj λl=>aj λn=>aF (iZ _ _ _ _ _ _ _ _ _ _ i k h) rfl
  |some a=>
   cases e with
   |none=>simp only[w a rfl];exact aj λl=>aj λn=>aF (iZ _ _ _ _ _ _ _ _ _ _ i k h) rfl
   |some b=>simp only[w a rfl,y b rfl];exact aj λl=>aj λn=>aF (iZ _ _ _ _ _ _ _ _ _ _ i k h) rfl
def tE(a:S)(e:Nat)(b:ar):∀(c:List Operand) (x:real.V (.sl e b)) (s:S),(∀o∈c,(∀t,ev E (a.mx fr) t o=ev E a t o)/\∀t,jW fr (ev E a t o).gG)->gH E (a.mx fr) e b c x (s.mx fr)=(gH E a e b c x s).map λq=>(q.1,q.2.mx fr)
 |[],x,s,_=>by simp only[gH];rfl
 |o::c,x,s,h=>by
  simp only[gH];rw[(h o (by simp)).1 0,jx ((h o (by simp)).2 0)];cases f:cells? a (ev E a 0 o)with
  |none=>rfl
  |some ls=>
   simp only[];have g:jW fr ls:=by rw[j0 f];exact(h o (by simp)).2 0
   rw[rL _ _ _ _ g];cases eR (A:=real) false b ls s with
   |none=>rfl
   |some q=>simp only[cj];exact tE a e b c _ q.2 λi d=>h i (by simp[d])
def rz(a:S)(n:Nat):∀(b:List Operand),(∀o∈b,(∀t,ev E (a.mx fr) t o=ev E a t o)/\∀t,jW fr (ev E a t o).gG)->fD E (a.mx fr) n b=fD E a n b
 |[],_=>rfl
 |o::b,h=>by simp only[fD];rw[(h o (by simp)).1 0,jx ((h o (by simp)).2 0),rz a n b λd c=>h d (by simp[c])]
def ry(c:S)(n:Nat):∀(d:List Operand) (lss:List (List L)),(∀o∈d,∀t,jW fr (ev E c t o).gG)->fD E c n d=some lss->jW fr lss.flatten
 |[],lss,_,h=>by have h:=aG h;subst h;exact λl a=>by simp at a
 |o::d,lss,h,a=>by
  simp only[fD]at a;cases e:cells? c (ev E c 0 o)with
  |none=>rw[e]at a;cases a
  |some ls=>
   cases g:fD E c n d with
   |none=>rw[e,g]at a;cases a
   |some r=>
    rw[e,g]at a;simp only at a;cases i:Nat.beq ls.length n with
    |false=>rw[i]at a;cases a
    |true=>
     rw[i]at a;have a:=aG a;subst a;intro l b;rcases cg.1 b with b|b
     .rw[j0 e]at b;exact h o (by simp) 0 l b
     .exact ry c n d r (λj f=>h j (by simp[f])) g l b
def nH(a:List (Nat×Nat×Bool)){s:S}:∀(c:List (Nat×Operand)) (b:List L),(∀x∈c.map (·.2),(∀t,ev E (s.mx fr) t x=ev E s t x)/\∀t,jW fr (ev E s t x).gG)->fR a E (s.mx fr) c b=fR a E s c b
 |[],_,_=>rfl
 |(i,x)::r,b,h=>by
  have d:=h x (by simp);simp only[fR];cases a[i]? with
  |none=>rfl
  |some q=>
   simp only[];rw[d.1 0,jx (d.2 0)];cases cells? s (ev E s 0 x)with
   |none=>rfl
   |some v=>simp only[];rw[nH a r _ (λy e=>h y (by simp only[fm,cL];exact .inr e))]
def yb{b d:S}(a:List Operand)(h:∀x∈a,∀t,ev E d t x=ev E b t x):(a.mapM λc=>wj (ev E d 0 c))=a.mapM λc=>wj (ev E b 0 c):=by
 induction a with
 |nil=>rfl
 |cons c a f=>simp only[vO];rw[h c (by simp) 0,f (λx e=>h x (by simp[e]))]
def qp{s:S}(t:Nat)(x:Operand):(ev E s t x).aK=nQ s x:=by
 cases x with
 |tmp j=>rfl
 |const v=>
  show(gN (A:=real) E t v).aK=[]
  unfold gN;split <;> first|rfl|(split <;> rfl)
 |func f=>rfl
 | «global» g=>rfl
def En{v:bK}(h:jc fr v.aK):jW fr v.gG:=λl b id a=>h id (kT.2 ⟨l,b,a⟩)
structure Bh (E:Env) (s:S) (fr:Fr) (o:Oper):Prop where
 ev:∀x∈bG o.op,∀t,ev E (s.mx fr) t x=Go.R.ev E s t x
 ids:yj o.op=false->∀x∈bG o.op,jc fr (nQ s x)/\i6 s fr (nQ s x)
 GN:makes o.op=true->∀i,aD (o.dst.getD 0) 0 0<=i->i<aD (o.dst.getD 0) 0 0+2048->fr.F i=true
 cells:ny s o=true->∀i,cO<=i->fr.F i=true
def zL{o:Oper}{s:S}(h:Bh E s fr o):step1 E Ψ o (s.mx fr)=(step1 E Ψ o s).map (DW o.dst fr):=by
 have d:=h.ev;have w:yj o.op=false->∀x∈bG o.op,∀t,jW fr (ev E s t x).gG:=λM x Q t=>En (by rw[qp];exact(h.ids M x Q).1);have Gs:=h.GN;have k:=λ(s:S) (v:bK)=>Ey (fr:=fr) o s v;have C:makes o.op=true->fr.F (aD (o.dst.getD 0) 0 0)=true:=λH=>Gs H _ (aJ _) (by omega);unfold step1 aL;cases B:o.op with
 |move x=>rw[B]at d;simp only[];rw[d x (by simp[bG])];exact k s _
 |assign x=>rw[B]at d;simp only[];rw[d x (by simp[bG])];exact k s _
 |pick c a b=>rw[B]at d;simp only[];rw[d c (by simp[bG]),d a (by simp[bG]),d b (by simp[bG])];exact aj λc=>aF (k s _) (k s _)
 |build t ps=>rw[B]at d w;refine aj λi=>aF ?_ rfl;rw[nH _ _ _ λx Q=>⟨d x Q,w rfl x Q⟩];exact aj λcs=>k s _
 |load t p=>
  rw[B]at d w;simp only[];rw[d p (by simp[bG])];refine aj λi=>?_;have z:=w rfl p (by simp[bG]) 0;cases V:Go.R.ev E s 0 p with
  |one l=>rw[V]at z;simp only[];rw[Cc (z l (by simp[TV.gG]))];exact aj λv=>k s _
  |_=>rfl
 |nilCheck x=>
  rw[B]at d w;simp only[];rw[d x (by simp[bG])];have z:=w rfl x (by simp[bG]) 0;cases V:Go.R.ev E s 0 x with
  |one l=>
   rw[V]at z;have z:=z l (by simp[TV.gG]);cases l with
   |ptr id g D=>simp only[];rw[gj z.ptr];exact aj λ_=>k s _
   |bH id g hh p j D=>simp only[];rw[gO z.bH];exact aj λc=>aF rfl (k s _)
   |ei cs y D=>exact k s _
   |_=>rfl
  |_=>rfl
 |binOp op t x y yt=>
  rw[B]at d w;simp only[];have hnt:gb E (s.mx fr) op t x y=gb E s op t x y:=by unfold gb;rw[d x (by simp[bG]),jz (w rfl x (by simp[bG]) t)]
  rw[hnt];cases gb E s op t x y with
  |some l=>exact k s _
  |none=>
  simp only[];rw[d x (by simp[bG]),d y (by simp[bG])];cases Go.R.ev E s t x with
  |one x=>
   cases Go.R.ev E s t y with
   |one y=>exact Db _ _ _ _ _ _ _ λl=>k s _
   |_=>rfl
  |agg xs=>
   cases Go.R.ev E s t y with
   |agg ys=>refine aj λi=>aj λb=>?_;cases op <;> first|rfl|exact k s _
   |_=>rfl
  |ol _=>rfl
  |pQ _ _=>rfl
 |unOp op t x=>
  rw[B]at d;simp only[];rw[d x (by simp[bG])];cases op <;> first|rfl|skip
  all_goals (cases Go.R.ev E s t x with
   |one l=>cases l with
    |val tt y=>cases tt <;> first|rfl|exact k s _
    |_=>rfl
   |_=>rfl)
 |convert src dst x=>
  rw[B]at d w;simp only[];rw[d x (by simp[bG])];refine aj λ_=>aj λi=>aF rfl ?_;split
  .exact k s _
  .refine aj λ_=>aj λ_=>aF rfl ?_;rw[jz (w rfl x (by simp[bG]) src)];refine aj λc=>aF ?_ rfl;split
   .exact k s _
   .rfl
  .rfl
 |makeFunc fn first captured=>
  rw[B]at d;cases fn with
  |func f=>refine aF ?_ rfl;rw[yb _ λx Q t=>d x (by simpa[bG] using Q) t];exact aj λK=>k s _
  |_=>rfl
 |fieldAddr t x f=>
  rw[B]at d w;simp only[];rw[d x (by simp[bG])];have z:=w rfl x (by simp[bG]) 0;refine aj λi=>aj λq=>aF rfl ?_;cases V:Go.R.ev E s 0 x with
  |one l=>
   rw[V]at z;have z:=z l (by simp[TV.gG]);cases l with
   |ptr id g D=>simp only[];rw[gj z.ptr];exact aj λ_=>k s _
   |bH id g hh p j D=>simp only[];rw[gO z.bH];exact aj λc=>aF rfl (k s _)
   |ei cs y D=>exact k s _
   |_=>rfl
  |_=>rfl
 |field t x f=>
  rw[B]at d;simp only[];rw[d x (by simp[bG])];refine aj λi=>aj λq=>aF rfl ?_;cases Go.R.ev E s t x with
  |agg ls=>exact aF (k s _) rfl
  |_=>rfl
 |indexAddr t x i=>
  rw[B]at d w;simp only[];rw[d x (by simp[bG]),d i (by simp[bG])];have z:=w rfl x (by simp[bG]) t;refine aj λi=>aj λq=>?_;cases V:Go.R.ev E s t x with
  |one l=>
   rw[V]at z;have z:=z l (by simp[TV.gG]);cases l with
   |val tt y=>
    cases tt with
    |sl e cs=>exact aF (aF (k s _) rfl) rfl
    |_=>rfl
   |ref id g hh p=>simp only[];rw[gO z.ref];exact aj λc=>aF (aF (aF (k s _) (k s _)) rfl) rfl
   |_=>rfl
  |_=>rfl
 |index t x i=>rw[B]at d;simp only[];rw[d x (by simp[bG]),d i (by simp[bG])];exact aF (aj λi=>aj λx=>aF (k s _) rfl) rfl
 |extract t i=>
  rw[B]at d;simp only[];rw[d t (by simp[bG])];cases Go.R.ev E s 0 t with
  |ol cs=>exact aj λc=>k s _
  |_=>rfl
 |alloc t=>rw[B]at C;have C:=C rfl;refine aj λi=>?_;simp only[];rw[eu C,cq C];exact k (s.new (aD (o.dst.getD 0) 0 0) (.blk (oe real i.cs))) _
 |box t x=>
  rw[B]at d C w;have C:=C rfl;simp only[];rw[d x (by simp[bG])];refine aj λi=>?_;rw[jx (w rfl x (by simp[bG]) t)];refine li λv I=>aF (aF ?_ ?_) rfl
  .rw[rL _ _ _ _ (by rw[j0 I];exact w rfl x (by simp[bG]) t)];cases eR (A:=real) false i.cs v s with
   |none=>rfl
   |some r=>exact k r.2 _
  .rw[eu C,cq C];exact k (s.new (aD (o.dst.getD 0) 0 0) (.blk v)) _
 |buildSlice t n ps=>
  rw[B]at d C w;have C:=C rfl;simp only[];refine aj λr=>aF (aF ?_ ?_) rfl
  .rw[rz _ _ _ (λo' O=>⟨d o' (by simpa[bG] using O),w rfl o' (by simpa[bG] using O)⟩)];refine li λlss X=>?_;rw[gY _ _ _ (ry _ _ _ _ (λo' O=>w rfl o' (by simpa[bG] using O)) X)];refine iX λq=>aj λx=>?_;simp only[];rw[eu C,cq C];exact k (q.2.new (aD (o.dst.getD 0) 0 0) (.arr r.1 r.2 true x)) _
  rw[tE _ _ _ _ _ _ (λo' O=>⟨d o' (by simpa[bG] using O),w rfl o' (by simpa[bG] using O)⟩)];cases gH (A:=real) E s r.1 r.2 (ps.toList.map (·.2)) (real.kN r.1 r.2) s with
  |none=>rfl
  |some q=>simp only[cj,af];rw[eu C,cq C];exact k (q.2.new (aD (o.dst.getD 0) 0 0) (.arr r.1 r.2 false q.1)) _
 |store t p v=>
  rw[B]at d w;simp only[];rw[d p (by simp[bG]),d v (by simp[bG])];refine aj λi=>?_;have I:=w rfl v (by simp[bG]) t;rw[jx I];refine li λv' Il=>aF ?_ rfl;have z:=w rfl p (by simp[bG]) 0;cases V:ev E s 0 p with
  |one l=>
   rw[V]at z;simp only[];rw[AN _ _ _ (z l (by simp[TV.gG])) (by rw[j0 Il];exact I)];cases iv s l v' with
   |none=>rfl
   |some s1=>exact k s1 _
  |_=>rfl
 |makeSlice t n c=>rw[B]at d C;have C:=C rfl;simp only[];rw[d n (by simp[bG])];refine aj λr=>aj λn'=>aF (aF ?_ rfl) rfl;rw[eu C,cq C];exact k (s.new (aD (o.dst.getD 0) 0 0) (.arr r.1 r.2 (E.deep (o.dst.getD 0)) (real.GO r.1 n' (eZ real r.2)))) _
 |makeMap t rv=>rw[B]at C;have C:=C rfl;refine aj λkk=>aF ?_ rfl;simp only[];rw[eu C,cq C];exact k (s.new (aD (o.dst.getD 0) 0 0) (.mp kk (real.kN 0 (ar.mp kk)))) _
 |lookup t m x ok=>
  rw[B]at d w;simp only[];rw[d m (by simp[bG]),d x (by simp[bG])];have z:=w rfl m (by simp[bG]) t;refine aj λkk=>aF rfl ?_;cases H:ev E s t m with
  |one l=>
   rw[H]at z;cases l with
   |cD id g=>
    have z:=z (.cD id g) (by simp[TV.gG]);cases Q:ev E s 0 x with
    |one l2=>
     cases l2 with
     |val u y=>
      simp only[];rw[uN z.cD];refine aj λq=>aF ?_ rfl;split
      .exact k s _
      .rfl
     |_=>rfl
    |_=>rfl
   |val t1 y1=>
    cases t1 with
    |map j=>
     cases Q:ev E s 0 x with
     |one l2=>
      cases l2 with
      |val u y=>
       simp only[];refine aF ?_ rfl;split
       .exact k s _
       .rfl
      |_=>rfl
     |_=>rfl
    |_=>rfl
   |_=>rfl
  |_=>rfl
 |mapUpdate t m x v=>
  rw[B]at d w;simp only[];rw[d m (by simp[bG]),d x (by simp[bG]),d v (by simp[bG])];have z:=w rfl m (by simp[bG]) t;refine aj λkk=>?_;cases H:ev E s t m with
  |one l=>
   rw[H]at z;cases l with
   |cD id g=>
    have z:=z (.cD id g) (by simp[TV.gG]);cases Q:ev E s 0 x with
    |one l2=>
     cases l2 with
     |val u y=>
      cases I:p9 (ev E s 4 v)with
      |none=>rfl
      |some bv=>
       simp only[];rw[uN z.cD];refine aj λq=>aF ?_ rfl;split
       .rename_i hb;rw[dx z.cD];exact k (s.bq id true (.mp q.1 (real.Eu q.1 q.2 (real.cast hb y) bv))) _
       .rfl
     |_=>rfl
    |_=>rfl
   |_=>rfl
  |_=>rfl
 |slice t x lo hi' mx=>rw[B]at d C w;simp only[];rw[d x (by simp[bG])];exact AD _ _ _ _ _ _ _ _ _ _ (w rfl x (by simp[bG]) t) (C rfl) (λv s'=>k s' v) (λo B=>d o (by simp[bG,B]) 0) (λo B=>d o (by simp[bG,B]) 0)
 |call c=>
  have P:=h.ids;have hcl:=h.cells;have Hq:∀args J U,c=⟨U,args,J⟩->∀l:L,((∃id g D,l=.ptr id g D)\/∃f K,l=.fn f K/\∃id g,cU.ptr id g∈K)->TV.one l∈(args.toList.zip J.toList).map (λp=>ev E s p.2 p.1)->ny s o=true:=by
   intro args J U e l X H;obtain⟨p,T,N⟩:=eJ.1 H;unfold ny;rw[B,e];refine(gd _ _).mpr (.inl (qF.2 ⟨p.1,(List.of_mem_zip T).1,?_⟩));have F7:∀K:List (cU real),(∃id g,cU.ptr id g∈K)->K.any cU.B1=true:=λK ⟨id,g,M⟩=>qF.2 ⟨_,M,rfl⟩;cases Q:p.1 with
   |tmp j=>
    rw[Q]at N;have:s.sl j=TV.one l:=N;simp only[this];rcases X with ⟨id,g,D,rfl⟩|⟨f,K,rfl,M⟩
    .rfl
    .exact F7 K M
   |const v=>rw[Q]at N;have G:gN (A:=real) E p.2 v=TV.one l:=N;exfalso;unfold gN at G;rcases X with ⟨id,g,D,rfl⟩|⟨f,K,rfl,M⟩ <;> (split at G <;> first|(cases G;done)|(split at G <;> cases G))
   |func q=>
    rw[Q]at N;have G:(TV.one (.fn q []):bK)=TV.one l:=N;exfalso;injection G with G
    rcases X with ⟨id,g,D,rfl⟩|⟨f,K,rfl,id,g,M⟩
    .cases G
    .injection G with _ G
     subst G;cases M
   | «global» _=>rw[Q]at N;exfalso;rcases X with ⟨id,g,D,rfl⟩|⟨f,K,rfl,M⟩ <;> cases N
  rw[B]at d w Gs C P;obtain⟨U,args,J⟩:=c;simp only[];refine aF ?_ rfl;have Z:∀(l:List (Operand×Nat)),(∀p∈l,p.1∈args.toList)->(l.map λp=>ev E (s.mx fr) p.2 p.1)=l.map λp=>ev E s p.2 p.1:=by intro l X;exact List.map_congr_left λp z=>d p.1 (by simp only[bG];exact cg.2 (.inr (X p z))) p.2
  have hz:∀p∈args.toList.zip J.toList,p.1∈args.toList:=λp z=>(List.of_mem_zip z).1;rw[Z _ hz];have hin:Be fr ((args.toList.zip J.toList).map λp=>ev E s p.2 p.1):=by intro v I;obtain⟨p,T,rfl⟩:=eJ.1 I;rw[qp];exact(P rfl p.1 (by simp only[bG];exact cg.2 (.inr (hz p T)))).1
  cases U with
  |builtin b=>refine vZ _ _ _ _ _ _ _ _ hin (λH=>C ?_) (λv s'=>k s' v);cases b <;> first|rfl|cases H
  |value f=>
   simp only[];rw[d f (by simp[bG]) 0];cases hf:ev E s 0 f with
   |one l=>
    cases l with
    |fn R K=>
     simp only[];unfold tab;cases Ψ (R,wB ((args.toList.zip J.toList).map λp=>ev E s p.2 p.1))with
     |none=>rfl
     |some F=>
      simp only[cj,af];have hfr:∀c∈K,jc fr c.aK/\i6 s fr c.aK:=by
       intro c M;have h1:=P rfl f (by simp[bG]);rw[<-qp (E:=E) 0,hf]at h1;have Y:∀id∈c.aK,id∈(TV.one (Lf.fn R K):bK).aK:=λid w=>by simp only[TV.aK,TV.gG,pY,zc,fa,Lf.aK];exact kT.2 ⟨c,M,w⟩
       exact⟨λid w=>h1.1 id (Y id w),λid w=>h1.2 id (Y id w)⟩
      have W:∀c:cU real,c.tv.aK=c.aK:=λc=>by cases c <;> rfl
      refine BG F _ _ _ _ _ _ (λv I=>?_) (λv I=>?_) (Gs rfl) (λid g D H=>?_) (λv s'=>k s' v)
      .rcases cg.1 I with I|I
       .exact hin v I
       .obtain⟨c,M,rfl⟩:=eJ.1 I;rw[W];exact(hfr c M).1
      .rcases cg.1 I with I|I
       .obtain⟨p,T,rfl⟩:=eJ.1 I;rw[qp];exact(P rfl p.1 (by simp only[bG];exact cg.2 (.inr (hz p T)))).2
       .obtain⟨c,M,rfl⟩:=eJ.1 I;rw[W];exact(hfr c M).2
      .refine λi h1 _=>hcl ?_ i (iN (show cO<=aR id by unfold aR;omega) h1);rcases H with H|⟨f',HA,H,HL⟩
       .rcases cg.1 H with H|H
        .exact Hq args J _ rfl _ (.inl ⟨id,g,D,rfl⟩) H
        .obtain⟨c,M,EM⟩:=eJ.1 H;unfold ny;rw[B];refine(gd _ _).mpr (.inr ?_);cases f with
         |tmp j=>
          have:s.sl j=TV.one (Lf.fn R K):=hf;simp only[this];refine qF.2 ⟨c,M,?_⟩;cases c with
          |ptr _ _=>rfl
          |ro _ _=>cases EM
         |const v=>have G:gN (A:=real) E 0 v=TV.one (Lf.fn R K):=hf;unfold gN at G;split at G <;> first|(cases G;done)|(split at G <;> cases G)
         |func q=>
          have G:TV.one (Lf.fn q [])=(TV.one (Lf.fn R K):bK):=hf;injection G with G
          injection G with _ G
          subst G;cases M
         | «global» _=>cases hf
       .rcases cg.1 H with H|H
        .exact Hq args J _ rfl _ (.inr ⟨f',HA,rfl,id,g,HL⟩) H
        .obtain⟨c,_,EM⟩:=eJ.1 H;cases c <;> cases EM
    |_=>rfl
   |_=>rfl
  |invoke _ _=>rfl
 |_=>rfl
end
section
variable {E:Env}{Ψ:bA->Option hJ}
def mX(a b:fU real):Prop:=b=a\/a.g<b.g\/(b.g=a.g/\(a.h<b.h\/a.h=b.h/\a.n<b.n))
def mX.trans{a b c:fU real}(h:mX a b)(d:mX b c):mX a c:=by
 rcases h with h|h|h
 .subst h;exact d
 .rcases d with d|d|d
  .subst d;exact .inr (.inl h)
  .exact .inr (.inl (ou h d))
  .exact .inr (.inl (by omega))
 .rcases d with d|d|d
  .subst d;exact .inr (.inr h)
  .exact .inr (.inl (by omega))
  .exact .inr (.inr (by omega))
def mX.same{a b:fU real}(h:mX a b)(c:a.g=b.g)(d:a.h=b.h/\a.n=b.n):b=a:=by
 rcases h with h|h|h
 .exact h
 .omega
 .omega
def aP(s s':S):Prop:=∀id,mX (s.ob id) (s'.ob id)
def aP.refl(s:S):aP s s:=λ_=>.inl rfl
def aP.trans{s s' s'':S}(h:aP s s')(a:aP s' s''):aP s s'':=λid=>(h id).trans (a id)
def aP.nq{s s':S}(h:s'.ob=s.ob):aP s s':=λid=>.inl (by rw[h])
def aP.zP(s:S)(i:Nat)(q:fU real)(h:mX (s.ob i) q):aP s (s.zP i q):=by
 intro id;show mX (s.ob id) (bif Nat.beq id i then q else s.ob id);cases a:Nat.beq id i with
 |true=>rw[bn a];exact h
 |false=>exact .inl rfl
def aP.new(s:S)(i:Nat)(o:Ob real):aP s (s.new i o):=aP.zP s i _ (.inr (.inl (fK _)))
def aP.bq(s:S)(i:Nat)(o:Ob real)(a:Bool:=true):aP s (s.bq i a o):=aP.zP s i _ (.inr (.inr ⟨rfl,by cases a;exact .inr ⟨rfl,fK _⟩;exact .inl (fK _)⟩))
def aP.bI(s:S)(d:Option Nat)(v:bK):aP s (s.bI d v):=aP.nq (by cases d <;> rfl)
def mQ{deep:Bool}{t:Ty}{l:L}{s:S}{q:real.V t×S}(h:bF (A:=real) deep t l s=some q):aP s q.2:=by
 unfold bF at h;split at h
 .cases deep
  .simp only[aW]at h;split at h
   .injection h with h;subst h;exact .refl _
   .cases h
  .cases h
 .cases deep
  .simp only[aW]at h;split at h
   .injection h with h;subst h;exact .refl _
   .cases h
  .cases h
 .split at h
  .injection h with h;subst h;exact .refl _
  .cases h
 .split at h
  .injection h with h;subst h;exact .refl _
  .cases h
 .rename_i id g _;cases a:Nat.beq (s.ob id).g g <;> rw[a]at h
  .cases h
  .simp only[az]at h;split at h
   .split at h
    .cases deep
     .simp only[aW]at h;injection h with h;subst h;exact .bq _ _ _
     .cases h
    .cases h
   .cases deep
    .simp only[aW]at h;split at h
     .injection h with h;subst h;exact .refl _
     .cases h
    .cases h
   .cases h
 .cases h
def mR{deep:Bool}:∀ {c:ar} {ls:List L} {s:S} {q:real.Vs c×S},eR (A:=real) deep c ls s=some q->aP s q.2
 |.nil,[],s,q,h=>by simp only[eR]at h;injection h with h;subst h;exact .refl _
 |.nil,_::_,s,q,h=>by cases h
 |.cons _ _,[],s,q,h=>by cases h
 |.cons t ts,l::ls,s,q,h=>by
  simp only[eR]at h;cases a:bF (A:=real) deep t l s with
  |none=>rw[a]at h;cases h
  |some p=>
   rw[a]at h;simp only[]at h;cases b:eR (A:=real) deep ts ls p.2 with
   |none=>rw[b]at h;cases h
   |some d=>
    rw[b]at h;injection h with h
    subst h;exact(show aP s d.2 from(mQ a).trans (mR b))
def pF{c:S}{e:Nat}{a:ar}:∀ {f:List Operand} {x:real.V (.sl e a)} {s:S} {q:real.V (.sl e a)×S},gH E c e a f x s=some q->aP s q.2
 |[],x,s,q,h=>by simp only[gH]at h;injection h with h;subst h;exact .refl _
 |o::f,x,s,q,h=>by
  simp only[gH]at h;cases d:cells? c (ev E c 0 o)with
  |none=>rw[d]at h;cases h
  |some ls=>
   rw[d]at h;simp only[]at h;cases b:eR (A:=real) false a ls s with
   |none=>rw[b]at h;cases h
   |some p=>rw[b]at h;exact(mR b).trans (pF h)
def jN{deep:Bool}:∀ {ls:List L} {a:ar} {x:a.T} {j:Nat} {s:S} {q:a.T×S},aN (A:=real) deep a x j ls s=some q->aP s q.2
 |[],a,x,j,s,q,h=>by simp only[aN]at h;injection h with h;subst h;exact .refl _
 |l::ls,a,x,j,s,q,h=>by
  simp only[aN]at h;cases c:cellAt (A:=real) a x j with
  |none=>rw[c]at h;cases h
  |some p=>
   obtain⟨t,y⟩:=p;rw[c]at h;simp only[]at h;cases b:bF (A:=real) deep t l s with
   |none=>rw[b]at h;cases h
   |some p=>
    rw[b]at h;simp only[]at h;cases d:setCell (A:=real) a x j ⟨t,p.1⟩with
    |none=>rw[d]at h;cases h
    |some y=>rw[d]at h;exact(mQ b).trans (jN h)
def sY{e:Nat}{b:ar}{deep:Bool}{l:L}{s:S}{q:real.V (.sl e b)×S}(h:eB (A:=real) e b deep l s=some q):aP s q.2:=by
 unfold eB at h;split at h
 .split at h
  .injection h with h;subst h;exact .refl _
  .cases h
 .rename_i id g _;cases d:Nat.beq (s.ob id).g g <;> rw[d]at h
  .cases h
  .simp only[az]at h;split at h
   .rename_i f a c x i;cases hd:(c==deep||a.plain) <;> rw[hd]at h
    .cases h
    .simp only[az]at h;split at h
     .injection h with h;subst h;exact .bq _ _ _
     .cases h
   .cases h
 .cases h
def Cj{k:IntKind}{l:L}{s:S}{q:real.V (.sl 0 (ar.mp k))×S}(h:uM (A:=real) k l s=some q):aP s q.2:=by
 unfold uM at h;split at h
 .rename_i id g;cases a:Nat.beq (s.ob id).g g <;> rw[a]at h
  .cases h
  .simp only[az]at h;split at h
   .split at h
    .injection h with h;subst h;exact .bq _ _ _
    .cases h
   .cases h
 .cases h
def yT{k:K}{l:L}{s:S}{q:KV real×S}(h:cI k l s=some q):aP s q.2:=by
 cases k with
 |val t=>
  simp only[cI]at h;cases a:bF (A:=real) false t l s with
  |none=>rw[a]at h;cases h
  |some p=>rw[a]at h;injection h with h;subst h;exact mQ a
 |arr e b deep=>
  simp only[cI]at h;cases a:eB (A:=real) e b deep l s with
  |none=>rw[a]at h;cases h
  |some p=>rw[a]at h;injection h with h;subst h;exact sY a
 |mp c=>
  simp only[cI]at h;cases a:uM (A:=real) c l s with
  |none=>rw[a]at h;cases h
  |some p=>rw[a]at h;injection h with h;subst h;exact Cj a
def ew:∀ {ks:List K} {ls:List L} {s:S} {q:List (KV real)×S},takes ks ls s=some q->aP s q.2
 |[],[],s,q,h=>by injection h with h;subst h;exact .refl _
 |[],_::_,s,q,h=>by cases h
 |_::_,[],s,q,h=>by cases h
 |k::ks,l::ls,s,q,h=>by
  simp only[takes]at h;cases a:cI k l s with
  |none=>rw[a]at h;cases h
  |some p=>
   rw[a]at h;simp only[]at h;cases b:takes ks ls p.2 with
   |none=>rw[b]at h;cases h
   |some c=>rw[b]at h;injection h with h;subst h;exact(show aP s c.2 from(yT a).trans (ew b))
def w9{s:S}{id h e:Nat}{d:ar}{x:List d.T}{p:iU}{i:IV}{b:Nat}{v:List L}{l:S}(a:kw (A:=real) s id h e d x p i b v=some l):aP s l:=by
 unfold kw at a;cases n:(p.isEmpty||Nat.beq (s.ob id).h h) <;> rw[n]at a
 .cases a
 .simp only[az]at a;cases g:follow (A:=real) 2 e d x p with
  |none=>rw[g]at a;cases a
  |some c=>
   rw[g]at a;simp only at a;cases f:takes ((c.cs.kd.drop b).take v.length) v s with
   |none=>rw[f]at a;cases a
   |some q=>
    rw[f]at a;simp only at a;cases j:setRow (A:=real) c.cs (real.get c.x i) b q.1 with
    |none=>rw[j]at a;cases a
    |some m=>
     rw[j]at a;simp only at a;cases k:putAt (A:=real) c (real.put c.x i m) e d x p with
     |none=>rw[k]at a;cases a
     |some o=>
      rw[k]at a;simp only at a;split at a
      .injection a with a;subst a;exact(ew f).trans (.bq _ _ _ _)
      .cases a
def xa{s:S}{p:L}{v:List L}{c:S}(h:iv s p v=some c):aP s c:=by
 unfold iv at h;split at h
 .split at h
  .split at h
   .injection h with h;subst h;exact .bq _ _ _
   .cases h
  .cases h
 .rename_i id g j p i b;cases f:Nat.beq (s.ob id).g g <;> rw[f]at h
  .cases h
  .simp only[az]at h;split at h
   .rename_i e d deep x k;cases deep with
    |true=>exact w9 h
    |false=>
     simp only[aW]at h;split at h
     .cases a:aN (A:=real) false d (real.get x i) b v s with
      |none=>rw[a]at h;cases h
      |some q=>
       rw[a]at h;simp only[]at h;split at h
       .injection h with h;subst h;exact(jN a).trans (.bq _ _ _)
       .cases h
     .cases h
   .cases h
 .cases h
def iz{b:ar}{c:cU real}{s:S}{q:List (KV real)×S}(h:bM b c s=some q):aP s q.2:=by
 unfold bM at h;split at h
 .split at h
  .rename_i ls d;cases a:takes b.ks ls s with
   |none=>rw[a]at h;cases h
   |some p=>
    rw[a]at h;simp only[]at h;split at h
    .injection h with h;subst h;exact(ew a).trans (.bq _ _ _)
    .cases h
  .cases h
 .split at h
  .injection h with h;subst h;exact .refl _
  .cases h
def mB:∀ {a:List ar} {b:List (cU real)} {s:S} {q:List (KV real)×S},bX a b s=some q->aP s q.2
 |[],[],s,q,h=>by injection h with h;subst h;exact .refl _
 |[],_::_,s,q,h=>by cases h
 |_::_,[],s,q,h=>by cases h
 |g::d,c::b,s,q,h=>by
  simp only[bX]at h;cases e:bM g c s with
  |none=>rw[e]at h;cases h
  |some p=>
   rw[e]at h;simp only[]at h;cases f:bX d b p.2 with
   |none=>rw[f]at h;cases h
   |some i=>rw[f]at h;injection h with h;subst h;exact(show aP s i.2 from(iz e).trans (mB f))
def xd{c:Cp}{v:cU real}{s:S}{q:List (KV real)×S}(h:eX c v s=some q):aP s q.2:=by
 unfold eX at h;split at h
 .exact iz h
 .split at h
  .split at h
   .rename_i a;injection h with h;subst h;exact(aP.bq _ _ _).trans (ew a)
   .cases h
  .cases h
 .cases h
def nY:∀ {a:List Cp} {b:List (cU real)} {s:S} {q:List (KV real)×S},b7 a b s=some q->aP s q.2
 |[],[],s,q,h=>by injection h with h;subst h;exact .refl _
 |[],_::_,s,q,h=>by cases h
 |_::_,[],s,q,h=>by cases h
 |g::d,c::b,s,q,h=>by
  simp only[b7]at h;cases e:eX g c s with
  |none=>rw[e]at h;cases h
  |some p=>
   rw[e]at h;simp only[]at h;cases f:b7 d b p.2 with
   |none=>rw[f]at h;cases h
   |some i=>rw[f]at h;injection h with h;subst h;exact(show aP s i.2 from(xd e).trans (nY f))
def xe{g:Sh}{v:bK}{s:S}{q:List (KV real)×S}(h:bL g v s=some q):aP s q.2:=by
 unfold bL at h;split at h
 .exact iz h
 .exact iz h
 .rename_i f a b d;cases c:Nat.beq f b <;> rw[c]at h
  .cases h
  .exact mB h
 .rename_i f a b d;cases c:Nat.beq f b <;> rw[c]at h
  .cases h
  .exact nY h
 .exact ew h
 .exact ew h
 .split at h
  .split at h
   .rename_i e;injection h with h;subst h;exact(aP.bq _ _ _).trans (ew e)
   .cases h
  .cases h
 .cases h
def nX:∀ {a:List Sh} {d:List bK} {s:S} {q:List (KV real)×S},bz a d s=some q->aP s q.2
 |[],[],s,q,h=>by injection h with h;subst h;exact .refl _
 |[],_::_,s,q,h=>by cases h
 |_::_,[],s,q,h=>by cases h
 |f::a,v::d,s,q,h=>by
  simp only[bz]at h;cases b:bL f v s with
  |none=>rw[b]at h;cases h
  |some p=>
   rw[b]at h;simp only[]at h;cases c:bz a d p.2 with
   |none=>rw[c]at h;cases h
   |some e=>rw[c]at h;injection h with h;subst h;exact(show aP s e.2 from(xe b).trans (nX c))
def rq:∀ {ks:List K} {ls:List L} {s b:S},jV ks ls s=some b->aP s b
 |[],[],s,b,h=>by injection h with h;subst h;exact .refl _
 |[],_::_,_,_,h=>by cases h
 |_::_,[],_,_,h=>by cases h
 |k::ks,l::ls,s,b,h=>by
  simp only[jV]at h;cases a:kJ k l s with
  |none=>rw[a]at h;cases h
  |some i=>
   rw[a]at h;refine aP.trans ?_ (rq h);cases k with
   |val t=>injection a with a;subst a;exact .refl _
   |arr e f d=>
    simp only[kJ]at a;cases g:Nat.ble 1 f.len with
    |false=>rw[g]at a;cases a
    |true=>
     rw[g]at a;simp only[az]at a;cases c:eB (A:=real) e f d l s with
     |none=>rw[c]at a;cases a
     |some q=>rw[c]at a;injection a with a;subst a;exact sY c
   |mp _=>cases a
def xZ:∀ {ks:List K} {ls:List L} {a:List (KV real)} {s b:S},jf ks ls a s=some b->aP s b:=by
 intro ks;induction ks with
 |nil=>intro ls a s b h;cases ls <;> cases a <;> first|(injection h with h;subst h;exact .refl _)|cases h
 |cons k ks c=>
  intro ls a s b h;cases ls with
  |nil=>cases k <;> cases a <;> cases h
  |cons l ls=>
   cases k with
   |val t=>exact c h
   |mp _=>cases l <;> cases a <;> cases h
   |arr e m d=>
    cases a with
    |nil=>cases l with
     |ref id g i p=>cases p <;> cases h
     |_=>cases h
    |cons v a=>
     cases l with
     |eI _ _=>exact c h
     |ref id g i p=>
      cases p with
      |cons _ _=>cases h
      |nil=>
       obtain⟨j,x⟩:=v;cases j with
       |val _=>cases h
       |mp _=>cases h
       |arr o f n=>exact(aP.bq _ _ _).trans (c h)
     |_=>cases h
def tw(id:Nat)(v:KV real)(s:S):aP s (dh id v s).2:=by obtain⟨k,x⟩:=v;cases k <;> exact .new _ _ _
def jC:∀(a:List (KV real)) (id:Nat) (s:S),aP s (lays id a s).2
 |[],_,_=>.refl _
 |v::_,id,s=>(tw id v s).trans (jC _ (id+1) _)
def k9:∀(a:List Cp) (c:List (KV real)) (b:Nat) (s:S),aP s (dw b a c s).2
 |[],_,_,_=>.refl _
 |.ro d::r,c,b,s=>by
  simp only[dw];cases kf (A:=real) d (c.take d.len)with
  |none=>exact .refl _
  |some x=>exact k9 r _ b s
 |.mu ks::r,c,b,s=>((jC _ _ _).trans (.new _ _ _)).trans (k9 r _ _ _)
def yp(b:Nat)(d:Sh)(c:List (KV real))(s:S):aP s (cm b d c s).2:=by
 cases d with
 |one k=>
  match c with
  |[]=>exact .refl _
  |[v]=>exact tw _ _ _
  |_::_::_=>exact .refl _
 |agg ks=>exact jC _ _ _
 |blk ks=>exact(jC _ _ _).trans (.new _ _ _)
 |ro e=>simp only[cm];cases kf (A:=real) e c <;> exact .refl _
 |fn _ _=>exact .refl _
 |qa g a=>exact k9 a c b s
def k8:∀(a:List Sh) (c:List (KV real)) (b:Nat) (s:S),aP s (aV b a c s).2
 |[],_,_,_=>.refl _
 |d::a,c,b,s=>(yp b d _ s).trans (k8 a _ _ _)
def xX:∀ {a:List (List K)} {ls:List L} {b:List (KV real)} {s c:S},iQ a ls b s=some c->aP s c:=by
 intro a;induction a with
 |nil=>intro ls b s c h;cases ls <;> cases b <;> first|(injection h with h;subst h;exact .refl _)|cases h
 |cons ks a f=>
  intro ls b s c h;cases ls with
  |nil=>cases h
  |cons l ls=>
   cases l with
   |ptr id g d=>
    cases d with
    |zero=>
     simp only[iQ]at h;cases e:(Nat.ble (id+1) cO&&(Nat.ble ks.length 64&&Nat.ble ks.length b.length))with
     |false=>rw[e]at h;cases h
     |true=>rw[e]at h;simp only[az]at h;exact(jC _ _ _).trans ((aP.bq _ _ _).trans (f h))
    |succ _=>cases h
   |_=>cases h
def wO{q:sM real}{s s':S}(h:jG (A:=real) q s=some s'):aP s s':=by
 unfold jG at h;split at h
 .rename_i e b c y g;cases d:((Nat.beq (s.ob q.id).g q.g&&Nat.beq (s.ob q.nb).g q.gn)&&(Nat.ble 1 q.g&&(c||b.plain))) <;> rw[d]at h
  .cases h
  .simp only[az]at h;split at h
   .rename_i f;cases a:putAt (A:=real) q.c (real.cast f y) q.e q.cs q.x q.path with
    |none=>rw[a]at h;cases h
    |some i=>rw[a]at h;injection h with h;subst h;exact(aP.bq _ _ _).trans (.bq _ _ _)
   .cases h
 .cases h
def cG(s:S)(x:Option S):Prop:=∀a,x=some a->aP s a
def cG.fail{s:S}:cG s (av S).fail:=λ_ h=>nomatch h
def cG.mk{s s':S}(h:aP s s'):cG s (some s'):=λ_ e=>by injection e with e;subst e;exact h
def cG.af{α:Type}{s:S}{x:Option α}{f:α->Option S}(h:∀v,x=some v->cG s (f v)):cG s (af (av S) x f):=by
 cases x with
 |none=>exact .fail
 |some v=>exact h v rfl
def cG.cond{s:S}{b:Bool}{x y:Option S}(a:cG s x)(c:cG s y):cG s (bif b then x else y):=by
 cases b
 .exact c
 .exact a
def cG.oA{s:S}{b:Bool}{x y:Option S}(a:cG s x)(c:cG s y):cG s ((av S).cond b x y):=cG.cond a c
def AH{o:Oper}{s:S}:cG s (step1 E Ψ o s):=by
 have d:∀(I:S) (v:bK),aP s I->cG s (some (I.bI o.dst v)):=λI v h=>.mk (h.trans (.bI _ _ _));unfold step1 aL;have here:∀v:bK,cG s (some (s.bI o.dst v)):=λv=>d s v (.refl s);cases ho:o.op with
 |move x=>exact here _
 |assign x=>exact here _
 |pick c a b=>exact .af λc _=>.oA (here _) (here _)
 |build t ps=>exact .af λi _=>.cond (.af λD _=>here _) .fail
 |load t p=>
  refine .af λi _=>?_;cases ev E s 0 p with
  |one l=>exact .af λv _=>here _
  |_=>exact .fail
 |nilCheck x=>
  simp only[];cases ev E s 0 x with
  |one l=>
   cases l with
   |ptr id g w=>exact .af λ_ _=>here _
   |bH id g N p j w=>exact .af λc _=>.cond .fail (here _)
   |ei D y w=>exact here _
   |_=>exact .fail
  |_=>exact .fail
 |binOp A t x y yt=>
  simp only[];cases gb E s A t x y with
  |some l=>exact here _
  |none=>
  simp only[];cases ev E s t x with
  |one x=>
   cases ev E s t y with
   |one y=>
    have z:=qK (R:=S) (fw E t) A x y (λl=>some (s.bI o.dst (.one l))) (λl=>some (St.set s 0 (.one l))) (λB=>some (s.bI o.dst (B.sl 0))) (λl=>rfl);show cG s (kX (av S) (fw E t) A x y λl=>some (s.bI o.dst (.one l)));rw[z];cases kX (av S) (fw E t) A x y λl=>some (St.set s 0 (.one l))with
    |none=>exact .fail
    |some B=>exact here _
   |_=>exact .fail
  |agg xs=>
   cases ev E s t y with
   |agg ys=>refine .af λi _=>.af λb _=>?_;cases A <;> first|exact .fail|exact here _
   |_=>exact .fail
  |ol _=>exact .fail
  |pQ _ _=>exact .fail
 |unOp A t x=>
  simp only[];cases A <;> first|exact .fail|skip
  all_goals (cases ev E s t x with
   |one l=>cases l with
    |val U y=>cases U <;> first|exact .fail|exact here _
    |_=>exact .fail
   |_=>exact .fail)
 |convert src Z x=>
  simp only[];refine .af λ_ _=>.af λi _=>.cond .fail ?_;split
  .exact here _
  .refine .af λ_ _=>.af λ_ _=>.cond .fail (.af λc _=>.cond ?_ .fail);split
   .exact here _
   .exact .fail
  .exact .fail
 |makeFunc fn first captured=>
  cases fn with
  |func f=>exact .cond (.af λY _=>here _) .fail
  |_=>exact .fail
 |fieldAddr t x f=>
  simp only[];refine .af λi _=>.af λq _=>.cond .fail ?_;cases ev E s 0 x with
  |one l=>
   cases l with
   |ptr id g w=>exact .af λ_ _=>here _
   |bH id g N p j w=>exact .af λc _=>.cond .fail (here _)
   |ei D y w=>exact here _
   |_=>exact .fail
  |_=>exact .fail
 |field t x f=>
  simp only[];refine .af λi _=>.af λq _=>.cond .fail ?_;cases ev E s t x with
  |agg ls=>exact .cond (here _) .fail
  |_=>exact .fail
 |indexAddr t x i=>
  simp only[];refine .af λi _=>.af λq _=>?_;cases ev E s t x with
  |one l=>
   cases l with
   |val U y=>
    cases U with
    |sl e D=>exact .cond (.oA (here _) .fail) .fail
    |_=>exact .fail
   |ref id g N p=>exact .af λc _=>.cond (.oA (.cond (here _) (here _)) .fail) .fail
   |_=>exact .fail
  |_=>exact .fail
 |index t x i=>exact .cond (.af λi _=>.af λx _=>.oA (here _) .fail) .fail
 |extract t i=>
  simp only[];cases ev E s 0 t with
  |ol D=>exact .af λc _=>here _
  |_=>exact .fail
 |alloc t=>exact .af λi _=>d _ _ (.new _ _ _)
 |box t x=>exact .af λi _=>.af λv _=>.cond (.cond (.af λr P=>d _ _ (mR P)) (d _ _ (.new _ _ _))) .fail
 |buildSlice t n ps=>exact .af λr _=>.cond (.cond (.af λlss _=>.af λq O=>.af λx _=>d _ _ ((ew O).trans (.new _ _ _))) (.af λq O=>d _ _ ((pF O).trans (.new _ _ _)))) .fail
 |store t p v=>
  refine .af λi _=>.af λv _=>.cond ?_ .fail;cases ev E s 0 p with
  |one l=>exact .af λB z=>d _ _ (xa z)
  |_=>exact .fail
 |makeSlice t n c=>exact .af λr _=>.af λn' _=>.cond (.oA (d _ _ (.new _ _ _)) .fail) .fail
 |makeMap t rv=>exact .af λX _=>.cond (d _ _ (.new _ _ _)) .fail
 |lookup t m x ok=>
  refine .af λX _=>.cond .fail ?_;split
  .refine .af λq _=>.cond ?_ .fail;split
   .exact here _
   .exact .fail
  .refine .cond ?_ .fail;split
   .exact here _
   .exact .fail
  .exact .fail
 |mapUpdate t m x v=>
  refine .af λX _=>?_;split
  .refine .af λq _=>.cond ?_ .fail;split
   .exact d _ _ (.bq _ _ _)
   .exact .fail
  .exact .fail
 |slice t x lo hi mx=>
  simp only[];unfold jL;refine .af λq _=>.af λc _=>.cond (.cond (d _ _ (.refl _)) ?_) .fail;cases mx with
  |some _=>exact .fail
  |none=>
   refine .af λl _=>.af λh _=>.oA ?_ .fail;unfold eS;split
   .exact .cond (d _ _ (.refl _)) (.cond (.cond .fail (d _ _ ((aP.bq _ _ _).trans (.new _ _ _)))) (d _ _ (.bq _ _ _)))
   .exact .fail
   .exact d _ _ (.refl _)
 |call c=>
  obtain⟨L,args,V⟩:=c;simp only[];refine .cond ?_ .fail;generalize ((args.toList.zip V.toList).map λp=>ev E s p.2 p.1)=J;cases L with
  |builtin b=>
   simp only[];unfold dD;split
   .exact .cond (.af λ_ _=>d _ _ (.refl _)) (.af λ_ _=>.af λ_ _=>d _ _ (.refl _))
   .exact .af λ_ _=>.af λ_ _=>d _ _ (.refl _)
   .exact .af λ_ _=>.af λ_ _=>d _ _ (.refl _)
   .rename_i x y t t' _;refine .af λq _=>.af λ_ _=>.af λcx _=>.af λcy _=>.cond .fail ?_;split
    .exact .fail
    .rename_i B dp k;have u:aP s B:=by
      split at k
      .injection k with k;injection k with z G;subst z;exact .refl _
      .split at k
       .cases k
       .injection k with k;injection k with z G;subst z;exact .bq _ _ _
      .cases k
     refine .cond ?_ ?_
     .split
      .refine .cond ?_ .fail;split
       .exact .oA (d _ _ (u.trans ((aP.bq _ _ _).trans (.new _ _ _)))) .fail
       .exact .fail
      .exact .fail
     .split
      .exact .oA (d _ _ (u.trans (.new _ _ _))) .fail
      .exact .fail
   .exact .fail
  |value f=>
   simp only[];cases ev E s 0 f with
   |one l=>
    cases l with
    |fn M Y=>
     refine .af λg u=>?_;unfold tab at u;cases W:Ψ (M,wB J)with
     |none=>rw[W]at u;cases u
     |some F=>
      rw[W]at u;injection u with u
      subst u;unfold nc;have look:∀(J:List bK) (T:S) (f:bK->S->Option S),aP s T->(∀v C,aP s C->cG s (f v C))->cG s (jU (av S) (F.callee S) (o.dst.getD 0) J T f):=by
       intro J T f h0 hf;unfold jU;refine .af λB z=>.af λvs' _=>.af λx _=>?_;show cG s ((F.fn x).bind _);cases F.fn x with
       |none=>exact .fail
       |some y=>exact .af λC G=>hf _ _ (h0.trans ((rq z).trans ((xZ G).trans (k8 _ _ _ _))))
      refine .cond (.cond ?_ (.cond (.af λr P=>.af λx _=>?_) .fail)) .fail
      .split
       .rename_i K I q Q;obtain⟨i,id,gg,N,p,r1,_,_,q3,H⟩:=oW Q;obtain⟨c,e,D,x,_,_,_,p4⟩:=oV q3;subst p4;injection H with _ H
        injection H with H _
        subst H;refine look _ _ _ ((aP.bq _ _ _).trans (.new _ _ _)) λv C u=>.af λs3 h3=>d _ _ (u.trans (wO h3))
       .exact look _ _ _ (.refl _) λv C u=>d _ _ u
      .show cG s ((F.fn x).bind _);cases F.fn x with
       |none=>exact .fail
       |some y=>exact .af λC G=>d _ _ ((nX P).trans ((xX G).trans (k8 _ _ _ _)))
    |_=>exact .fail
   |_=>exact .fail
  |invoke _ _=>exact .fail
 |_=>exact .fail
end
def oS{a:List Nat}{j:Nat}:∀ {es:List Edge},(jh a es).testBit j=true->∃e∈es,Region.binds .any e=true/\(e.on=j\/(a.getD e.on 0).testBit j=true)
 |[],h=>by simp[jh]at h
 |e::es,h=>by
  simp only[jh]at h;cases c:Region.binds .any e with
  |false=>rw[c]at h;obtain⟨d,f,g⟩:=oS (es:=es) h;exact⟨d,gL _ f,g⟩
  |true=>
   rw[c]at h;simp only[az]at h;have b:∀(x y:Nat),Nat.testBit (Nat.lor x y) j=(Nat.testBit x j||Nat.testBit y j):=λx y=>Nat.testBit_or x y j;rw[b,b,gd,gd]at h;rcases h with (h|h)|h
   .exact⟨e,by simp,c,.inr h⟩
   .refine⟨e,by simp,c,.inl ?_⟩;have i:Nat.shiftLeft 1 e.on=2 ^ e.on:=by show 1 <<< e.on=2 ^ e.on;exact Nat.one_shiftLeft e.on
    rw[i,Nat.testBit_two_pow]at h;simpa using h
   .obtain⟨d,f,g⟩:=oS (es:=es) h;exact⟨d,gL _ f,g⟩
def tM:∀(l:List Oper) (a:List Nat),∃tl,gm l a=a++tl/\tl.length=l.length
 |[],a=>⟨[],by simp[gm],rfl⟩
 |o::r,a=>by obtain⟨tl,b,c⟩:=tM r (a++[jh a o.after.toList]);exact⟨jh a o.after.toList::tl,by simp only[gm];rw[b];simp,by simp[c]⟩
def wU:∀(l:List Oper) (a:List Nat) (k:Nat) (o:Oper),l[k]? = some o->∃b c,gm l a=b++c/\b.length=a.length+k/\(gm l a).getD (a.length+k) 0=jh b o.after.toList
 |[],_,k,o,h=>by simp at h
 |o::r,a,0,e,h=>by simp at h;subst h;obtain⟨tl,d,f⟩:=tM r (a++[jh a o.after.toList]);refine⟨a,jh a o.after.toList::tl,by simp only[gm];rw[d];simp,by simp,?_⟩;simp only[gm];rw[d];simp
 |o::r,a,k+1,e,h=>by
  have i:r[k]? = some e:=by simpa using h
  obtain⟨b,c,d,f,j⟩:=wU r (a++[jh a o.after.toList]) k e i;have g:(a++[jh a o.after.toList]).length+k=a.length+(k+1):=by simp;omega
  exact⟨b,c,by simp only[gm];exact d,f.trans g,by simp only[gm];rw[<-g];exact j⟩
def BF{a c:List Nat}{i j:Nat}(h:(a.getD i 0).testBit j=true):((a++c).getD i 0).testBit j=true:=by
 simp only[dG]at h⊢;rcases iA i a.length with b|b
 .rw[iV b];exact h
 .rw[oq b]at h;simp at h
section
variable {ops:Array Oper}
abbrev PP(a:Array Oper):List Nat:=gm a.toList []
def iF{i j:Nat}{o:Oper}(k:ops.toList[i]? = some o)(h:cN (PP ops) i j=true):∃e∈o.after.toList,Region.binds .any e=true/\(e.on=j\/cN (PP ops) e.on j=true):=by
 obtain⟨m,n,f,p,a⟩:=wU ops.toList [] i o k;unfold cN at h;have l:([]:List Nat).length+i=i:=by simp
 rw[l]at a;rw[a]at h;obtain⟨e,b,c,d⟩:=oS h;refine⟨e,b,c,d.imp id λg=>?_⟩;show((gm ops.toList []).getD e.on 0).testBit j=true;rw[f];exact BF g
def sw{P:List Nat}{i t:Nat}:∀ {l:List Oper} {k:Nat},wrote P i t k l=true->∀(j:Nat) (o:Oper),l[j]? = some o->o.dst=some t->cN P i (k+j)=true\/cN P (k+j) i=true
 |[],_,_,j,o,h,_=>by simp at h
 |o::r,k,h,0,c,a,b=>by
  simp at a;subst a;simp only[wrote,aQ,gd]at h;rcases h.1 with h|h
  .rw[b]at h;simp[isDst]at h
  .exact h
 |o::r,k,h,j+1,c,a,b=>by simp only[wrote,aQ]at h;have:=sw h.2 j c (by simpa using a) b;rwa[show k+1+j=k+(j+1)by omega]at this
def qG{i t:Nat}:∀ {l:List Oper} {k:Nat},alone i (some t) k l=true->∀(j:Nat) (o:Oper),l[j]? = some o->i≠k+j->o.dst≠some t
 |[],_,_,j,o,h,_=>by simp at h
 |o::r,k,h,0,c,a,b=>by
  simp at a;subst a;simp only[alone,aQ,gd]at h;rcases h.1 with h|h
  .exact absurd (bn h) (by simpa using b)
  .intro e;rw[e]at h;simp[isDst]at h
 |o::r,k,h,j+1,c,a,b=>by simp only[alone,aQ]at h;exact qG h.2 j c (by simpa using a) (by omega)
structure Stat (ops:Array Oper) (i:Nat) (o:Oper):Prop where
 back:∀e∈o.after.toList,Region.binds .any e=true->e.on<i
 reads:∀t∈lU ops o,∀(j:Nat) (o':Oper),ops.toList[j]? = some o'->o'.dst=some t->cN (PP ops) i j=true\/cN (PP ops) j i=true
 lone:∀t,o.dst=some t->∀(j:Nat) (o':Oper),ops.toList[j]? = some o'->i≠j->o'.dst≠some t
 made:makes o.op=true->o.dst≠none
def pM{P:List Nat}(m:P=PP ops):∀ {l:List Oper} {k:Nat},mq P ops k l=true->∀(j:Nat) (o:Oper),l[j]? = some o->Stat ops (k+j) o
 |[],_,_,j,o,h=>by simp at h
 |o::r,k,h,0,b,a=>by
  simp at a;subst a;subst m;simp only[mq,aQ]at h;obtain⟨⟨⟨⟨a,n⟩,g⟩,i⟩,_⟩:=h;refine⟨λe q p=>?_,λt f j b d hd=>?_,λt f j b d c=>?_,λs hd=>?_⟩
  .have:=ed.1 a e q;rw[p]at this;exact dS (by simpa using this)
  .have:=sw (ed.1 n t f) j b d hd;simpa using this
  .rw[f]at g;exact qG g j b d (by simpa using c)
  .rw[s,hd]at i;cases i
 |o::r,k,h,j+1,b,a=>by simp only[mq,aQ]at h;have:=pM m h.2 j b (by simpa using a);rwa[show k+1+j=k+(j+1)by omega]at this
def Ai(k:∀(i:Nat) (o:Oper),ops.toList[i]? = some o->Stat ops i o):∀(i j:Nat) (o:Oper),ops.toList[i]? = some o->cN (PP ops) i j=true->j<i:=by
 intro i;induction i using Nat.strongRecOn with
 |ind i m=>
  intro j o c h;obtain⟨e,f,g,b⟩:=iF c h;have a:=(k i o c).back e f g;rcases b with b|b
  .omega
  .have l:i<ops.toList.length:=by
    rcases iA i ops.toList.length with d|d
    .exact d
    .rw[oq d]at c;cases c
   have:=m e.on a j _ (bR (ou a l)) b;omega
end
section
variable {R:Type}{E:Env}{Ψ:bA->Option hJ}{ops:Array Oper}
def dn(c:Array Oper)(o:Oper)(s:S):Option Bool:=
 match o.guard with
 |none=>some true
 |some (j,a)=>match(c[j]?).bind (·.dst)with
  |none=>none
  |some t=>match s.sl t with
   |.one (.val .bool b)=>some ((show Bool from b)==a)
   |.one .undef=>some false
   |_=>none
def oD(E:Env)(b:bA->Option hJ)(a:Array Oper)(o:Oper)(s s':S):Prop:=(dn a o s=some true/\step1 E b o s=some s')\/(dn a o s=some false/\s'=s.bI o.dst (.one .undef))
structure EI (E:Env) (Ψ:bA->Option hJ) (ops:Array Oper) (P:List Nat) (l:List Oper) (i:Nat) (as:List (xz real)) (s:S) (st:Nat->S):Prop where
 first:st i=s
 dst:∀(j:Nat) (o:Oper),l[j]? = some o->qd E o.dst=true
 step:∀(j:Nat) (o:Oper),l[j]? = some o->oD E Ψ ops o (st (i+j)) (st (i+j+1))
 Fk:∃as',uA P as'=true/\(∀x∈as,x∈as')/\∀(j:Nat) (o:Oper),l[j]? = some o->dn ops o (st (i+j))=some true->⟨i+j,o,st (i+j),st (i+j+1)⟩∈as'
def St.nW{s:S}{t:Nat}{v:bK}(h:s.sl t=v):s.set t v=s:=by
 unfold St.set;congr 1;funext i;cases a:Nat.beq i t with
 |true=>rw[bn a,h];rfl
 |false=>rfl
def wF(i:Nat)(s:S)(a:Nat->S):Nat->S:=λn=>if n<=i then s else a n
def BU(i:Nat)(s:S)(a:Nat->S):wF i s a i=s:=cz (aJ _)
def BT(i:Nat)(s:S)(a:Nat->S)(n:Nat):wF i s a (i+1+n)=a (i+1+n):=bc (by omega)
def oH{P:List Nat}{r:R}:∀(l:List Oper) (i:Nat) (f:List (xz real)) (s:S) (k:S->Option R),l8 E (av R) (tab Ψ R) ops P i l f s k=some r ->
  ∃a,EI E Ψ ops P l i f s a/\k (a (i+l.length))=some r
 |[],i,f,s,k,h=>by
  simp only[l8]at h;cases G:uA P f with
  |false=>rw[G]at h;cases h
  |true=>rw[G]at h;exact⟨λ_=>s,⟨rfl,λj o d=>by simp at d,λj o d=>by simp at d,f,G,λ_ D=>D,λj o d=>by simp at d⟩,h⟩
 |o::l,i,f,s,k,h=>by
  simp only[l8]at h;cases hd:qd E o.dst with
  |false=>rw[hd]at h;cases h
  |true=>
   rw[hd]at h;simp only[az]at h;have A:∀(w:List (xz real)) (v:S) (a:Nat->S),EI E Ψ ops P l (i+1) w v a->oD E Ψ ops o s v->(∀x∈f,x∈w) ->
     (dn ops o s=some true->⟨i,o,s,v⟩∈w)->k (a (i+1+l.length))=some r ->
     ∃a,EI E Ψ ops P (o::l) i f s a/\k (a (i+(o::l).length))=some r:=by
    intro w v a z U T H u;have B:∀n,wF i s a (i+1+n)=a (i+1+n):=λn=>BT i s a n;have J:wF i s a i=s:=BU i s a;refine⟨wF i s a,⟨J,λj I d=>?_,λj I d=>?_,?_⟩,?_⟩
    .cases j with
     |zero=>simp at d;subst d;exact hd
     |succ j=>exact z.dst j I (by simpa using d)
    .cases j with
     |zero=>simp at d;subst d;have g:=B 0;simp only[kE]at g⊢;rw[g,J,z.first];exact U
     |succ j=>have g:=B j;have M:=B (j+1);have:=z.step j I (by simpa using d);rw[show i+(j+1)=i+1+j by omega,g];rw[show i+1+j+1=i+1+(j+1)by omega,M];exact this
    .obtain⟨L,G,F,Q⟩:=z.Fk;refine⟨L,G,λx D=>F x (T x D),λj I d m=>?_⟩;cases j with
     |zero=>simp at d;subst d;have g:=B 0;simp only[kE]at g m⊢;rw[J]at m;rw[g,J,z.first];exact F _ (H m)
     |succ j=>have g:=B j;have M:=B (j+1);rw[show i+(j+1)=i+1+j by omega]at m⊢;rw[g]at m⊢;rw[show i+1+j+1=i+1+(j+1)by omega,M];exact Q j I (by simpa using d) m
    .have g:=B l.length;rw[show i+(o::l).length=i+1+l.length by simp;omega,g];exact u
   have yes:dn ops o s=some true->(aL E (av R) (tab Ψ R) o s λv=>l8 E (av R) (tab Ψ R) ops P (i+1) l (⟨i,o,s,v⟩::f) v k)=some r ->
     ∃a,EI E Ψ ops P (o::l) i f s a/\k (a (i+(o::l).length))=some r:=by
    intro m u;rw[AG]at u;cases F:step1 E Ψ o s with
    |none=>rw[F]at u;cases u
    |some v=>rw[F]at u;simp only[aX]at u;obtain⟨a,z,C⟩:=oH l (i+1) _ v k u;exact A _ v a z (.inl ⟨m,F⟩) (λx D=>gL _ D) (λ_=>by simp) C
   have no:dn ops o s=some false->l8 E (av R) (tab Ψ R) ops P (i+1) l f (s.bI o.dst .undef) k=some r ->
     ∃a,EI E Ψ ops P (o::l) i f s a/\k (a (i+(o::l).length))=some r:=by
    intro m u;obtain⟨a,z,C⟩:=oH l (i+1) _ _ k u;exact A _ _ a z (.inr ⟨m,rfl⟩) (λx D=>D) (λh=>by rw[m]at h;cases h) C
   cases p:o.guard with
   |none=>rw[p]at h;exact yes (by unfold dn;rw[p]) h
   |some O=>
    obtain⟨j,q⟩:=O;rw[p]at h;simp only[]at h;cases K:(ops[j]?).bind (·.dst)with
    |none=>rw[K]at h;cases h
    |some t=>
     rw[K]at h;simp only[]at h;cases e:s.sl t with
     |one V=>
      rw[e]at h;cases V with
      |val W b=>
       cases W with
       |bool=>
        have y:dn ops o s=some ((show Bool from b)==q):=by unfold dn;rw[p];simp only[];rw[K];simp only[];rw[e]
        rcases(show ∃c:Bool,c=b from⟨b,rfl⟩)with ⟨c,rfl⟩;cases c with
        |true=>
         have N:s.set t (.one (.val .bool (real.mj true)))=s:=St.nW e;rw[N]at h;cases q with
         |true=>exact yes y h
         |false=>exact no y h
        |false=>
         have N:s.set t (.one (.val .bool (real.mj false)))=s:=St.nW e;rw[N]at h;cases q with
         |true=>exact no y h
         |false=>exact yes y h
       |_=>cases h
      |undef=>refine no ?_ h;unfold dn;rw[p];simp only[];rw[K];simp only[];rw[e]
      |_=>cases h
     |_=>rw[e]at h;cases h
end
section
variable {E:Env}{Ψ:bA->Option hJ}{ops:Array Oper}
def tu(s:S)(o:Oper)(id:Nat):Bool:=(mr s o).any (Nat.beq id)||kr o id||(ny s o&&Nat.ble cO id)
def Sep(s:S)(o:Oper)(b:Oper)(t a:S):Prop:=(∀id∈mr s o,((t.ob id).g=(a.ob id).g/\(t.ob id).h=(a.ob id).h/\(t.ob id).n=(a.ob id).n)/\kr b id=false/\(ny t b=true->id<cO))/\aD (o.dst.getD 0) 0 0+2048<=cO
structure vo (E:Env) (Ψ:bA->Option hJ) (ops:Array Oper) (st:Nat->S):Prop where
 stat:∀(i:Nat) (o:Oper),ops.toList[i]? = some o->Stat ops i o
 step:∀(i:Nat) (o:Oper),ops.toList[i]? = some o->oD E Ψ ops o (st i) (st (i+1))
 apart:∀(i j:Nat) (o o':Oper),ops.toList[i]? = some o->ops.toList[j]? = some o'->i≠j->dn ops o (st i)=some true->dn ops o' (st j)=some true ->
  cN (PP ops) i j=true\/cN (PP ops) j i=true\/(¬(ny (st i) o=true/\ny (st j) o'=true)/\Sep (st i) o o' (st j) (st (j+1))/\Sep (st j) o' o (st i) (st (i+1)))
def rT{a b:xz real}(h:zJ a b=true):Sep a.s a.o b.o b.s b.s':=by
 unfold zJ at h;rw[aQ]at h;refine⟨λid d=>?_,dS h.2⟩;have:=ed.1 h.1 id d;simp only[zH,aQ,gd]at this;obtain⟨⟨e,f,i⟩,g,c⟩:=this;refine⟨⟨bn e,bn f,bn i⟩,by simpa using g,λj=>?_⟩;rcases c with c|c
 .rw[j]at c;cases c
 .exact dS c
def Dh{a:Nat->S}{s:S}(q:mq (PP ops) ops 0 ops.toList=true)(h:EI E Ψ ops (PP ops) ops.toList 0 [] s a):vo E Ψ ops a where
 stat i o ho:=by have:=pM rfl q i o ho;rwa[bC]at this
 step i o ho:=by have:=h.step i o ho;rwa[bC]at this
 apart i j o o' hi hj hne hg IX:=by
  obtain⟨k,p,_,f⟩:=h.Fk;have d:=f i o hi (by rwa[bC]);have e:=f j o' hj (by rwa[bC]);simp only[bC]at d e;have:=ed.1 (ed.1 p _ d) _ e;simp only[gd,aQ]at this;rcases this with h|h|h|⟨l,m,n⟩
  .exact absurd (bn h) hne
  .exact .inl h
  .exact .inr (.inl h)
  .refine .inr (.inr ⟨λg=>?_,rT m,rT n⟩);have b:ny (a i) o=true:=g.1;have c:ny (a j) o'=true:=g.2;simp[b,c]at l
def St.uU(s:S)(d:Option Nat)(v:bK):(s.bI d v).ob=s.ob:=by cases d <;> rfl
def St.tU(s:S){d:Option Nat}{t:Nat}(h:d=some t)(v:bK):(s.bI d v).sl t=v:=by subst h;exact St.iY s t v
def St.zK(s:S){d:Option Nat}{t:Nat}(h:d≠some t)(v:bK):(s.bI d v).sl t=s.sl t:=by
 cases d with
 |none=>rfl
 |some d=>exact St.lV _ _ (λe=>h (by rw[e]))
def sX{s:S}{o:Oper}{cur:S}(e:∀x∈bG o.op,∀t,ev E cur t x=ev E s t x)(h:∀id,tu s o id=true->cur.ob id=s.ob id):cur=s.mx ⟨cur.sl,tu s o,cur.ob⟩/\Bh E s ⟨cur.sl,tu s o,cur.ob⟩ o:=by
 have a:cur=s.mx ⟨cur.sl,tu s o,cur.ob⟩:=by
  cases cur with
  |mk sl m=>
   unfold St.mx;congr 1;funext id;show m id=bif tu s o id then s.ob id else m id
   cases q:tu s o id with
   |true=>exact h id q
   |false=>rfl
 refine⟨a,⟨λx k t=>by rw[<-a];exact e x k t,λr x k=>?_,λg i n p=>?_,λw i b=>?_⟩⟩
 .have c:∀j∈nQ s x,∀i∈reach s j,tu s o i=true:=by
   intro j d i b;have g:i∈mr s o:=by unfold mr;rw[r];exact kT.2 ⟨x,k,kT.2 ⟨j,d,b⟩⟩
   show(_||_||_)=true;rw[gd,gd];exact .inl (.inl (qF.2 ⟨i,g,kF i⟩))
  refine⟨λj d=>c j d j (by simp[reach]),λj d ls f l u i b=>c j d i ?_⟩;unfold reach;rw[f];exact gL _ (kT.2 ⟨l,u,b⟩)
 .have v:kr o i=true:=by
   unfold kr;rw[g];simp only[ow,aQ];exact⟨uu n,uu p⟩
  show(_||_||_)=true;rw[v];simp
 .show(_||_||(ny s o&&Nat.ble cO i))=true;rw[w,uu b];simp
def Cm{d:Option Nat}{f:Fr}{s:S}{t:Nat}(g:d≠some t):(DW d f s).sl t=f.sl t:=by
 cases d with
 |none=>rfl
 |some e=>
  have a:t≠e:=λb=>g (by rw[b]);show(bif Nat.beq t e then s.sl t else f.sl t)=f.sl t;cases c:Nat.beq t e with
  |true=>exact absurd (bn c) a
  |false=>rfl
def Cl{d:Option Nat}{f:Fr}{s:S}{t:Nat}(a:d=some t):(DW d f s).sl t=s.sl t:=by subst a;show(bif Nat.beq t t then s.sl t else f.sl t)=s.sl t;rw[kF];rfl
def uY{o:Oper}{s s':S}(h:step1 E Ψ o s=some s'):(∀t,o.dst≠some t->s'.sl t=s.sl t)/\∀id,tu s o id=false->s'.ob id=s.ob id:=by
 obtain⟨b,c⟩:=sX (E:=E) (s:=s) (o:=o) (cur:=s) (λ_ _ _=>rfl) (λ_ _=>rfl);have:=zL (Ψ:=Ψ) c;rw[<-b,h]at this;injection this with this
 refine⟨λt d=>by rw[this];exact Cm d,λid a=>?_⟩;rw[this];show(bif tu s o id then s'.ob id else s.ob id)=s.ob id;rw[a];rfl
def oD.sl{o:Oper}{s s':S}(h:oD E Ψ ops o s s'){t:Nat}(a:o.dst≠some t):s'.sl t=s.sl t:=by
 rcases h with ⟨_,h⟩|⟨_,h⟩
 .exact(uY h).1 t a
 .subst h;exact St.zK s a _
variable {st:Nat->S}(H:vo E Ψ ops st)
include H
def vo.fin{j:Nat}{o:Oper}{t:Nat}(f:ops.toList[j]? = some o)(hd:o.dst=some t):∀(i:Nat),i<=ops.toList.length->j<i->(st i).sl t=(st (j+1)).sl t:=by
 intro i;induction i with
 |zero=>intro _ h;exact absurd h (vI _)
 |succ i g=>
  intro e k;rcases iA j i with c|d
  .have a:i<ops.toList.length:=e;have b:=bR a;rw[(H.step i _ b).sl ((H.stat j o f).lone t hd i _ b (by omega))];exact g (fc a) c
  .have:i=j:=by omega
   rw[this]
def vo.Ek{t:Nat}:∀(i:Nat),i<=ops.toList.length->(∀(j:Nat) (o:Oper),j<i->ops.toList[j]? = some o->o.dst≠some t)->(st i).sl t=(st 0).sl t:=by
 intro i;induction i with
 |zero=>intro _ _;rfl
 |succ i e=>intro c h;have a:i<ops.toList.length:=c;have b:=bR a;rw[(H.step i _ b).sl (h i _ (fK _) b)];exact e (fc a) λj o d=>h j o (xU d)
def vo.init{t:Nat}(h:∀(j:Nat) (o:Oper),ops.toList[j]? = some o->o.dst≠some t):∀(i:Nat),i<=ops.toList.length->(st i).sl t=(st 0).sl t:=by
 intro i;induction i with
 |zero=>intro _;rfl
 |succ i d=>intro c;have a:i<ops.toList.length:=c;have b:=bR a;rw[(H.step i _ b).sl (h i _ b)];exact d (fc a)
omit H in
def mL(id:Nat){m:Nat}:∀(i:Nat),i<=ops.toList.length->m<=i->(∀(j:Nat) (o:Oper),m<=j->j<i->ops.toList[j]? = some o->((st (j+1)).ob id)=(st j).ob id)->(st i).ob id=(st m).ob id:=by
 intro i;induction i with
 |zero=>
  intro _ h _;have:m=0:=by omega
  rw[this]
 |succ i l=>
  intro g n a;rcases iA i m with k|b
  .have:m=i+1:=by omega
   rw[this]
  .have c:i<ops.toList.length:=g;rw[a i _ b (fK _) (bR c)];exact l (fc c) b (λj o d e f=>a j o d (xU e) f)
omit H in
def Up(D:Array Bool)(i:Nat):Prop:=D.getD i false=true
structure At (ops:Array Oper) (st:Nat->S) (D:Array Bool) (cur:S):Prop where
 closed:∀(i j:Nat) (o:Oper),ops.toList[i]? = some o->Up D i->cN (PP ops) i j=true->Up D j
 done:∀(j:Nat) (o:Oper) (t:Nat),ops.toList[j]? = some o->Up D j->o.dst=some t->cur.sl t=(st ops.toList.length).sl t
 rest:∀(t:Nat),(∀(j:Nat) (o:Oper),ops.toList[j]? = some o->Up D j->o.dst≠some t)->cur.sl t=(st 0).sl t
 heap:∀id,∃m,m<=ops.toList.length/\(∀(b:Nat) (o:Oper),ops.toList[b]? = some o->(st (b+1)).ob id≠(st b).ob id->(Up D b↔b<m))/\cur.ob id=(st m).ob id
omit H in
def mw{D:Array Bool}{i j:Nat}(b:i<D.size):Up (D.setIfInBounds i true) j↔j=i\/Up D j:=by
 unfold Up;simp only[fL,Array.getElem?_setIfInBounds];by_cases h:i=j
 .subst h;simp[b]
 .have a:¬j=i:=λe=>h e.symm;simp[h,a]
omit H in
def yC{a b i:Nat}(h:a≠b)(c:aD a 0 0<=i)(d:i+1<=aD a 0 0+2048)(e:aD b 0 0<=i)(f:i+1<=aD b 0 0+2048):False:=by unfold aD at c d e f;omega
def vo.any {D:Array Bool} {cur:S} (hD:D.size=ops.size) (B:At ops st D cur) {i:Nat} {o:Oper} (q:ops.toList[i]? = some o) (hn:¬Up D i)
  (hr:∀e∈o.after.toList,Region.binds .any e=true->Up D e.on):∃g,oD E Ψ ops o cur g/\At ops st (D.setIfInBounds i true) g:=by
 have p:i<ops.toList.length:=by
  rcases iA i ops.toList.length with h|h
  .exact h
  .rw[oq h]at q;cases q
 have z:i<D.size:=by rw[hD];simpa using p
 have A:=Ai H.stat;have S1:=H.stat i o q;have P:∀j,cN (PP ops) i j=true->Up D j:=by
  intro j k;obtain⟨e,C,K,F⟩:=iF q k;have r:=hr e C K;rcases F with F|F
  .rwa[<-F]
  .have hel:e.on<ops.toList.length:=ou (S1.back e C K) p;exact B.closed e.on j _ (bR hel) r F
 have reads:∀t∈lU ops o,cur.sl t=(st i).sl t:=by
  intro t u;by_cases hex:∃(j:Nat) (w:Oper),ops.toList[j]? = some w/\w.dst=some t
  .obtain⟨j,w,k,hd⟩:=hex;rcases S1.reads t u j w k hd with l|l
   case inr=>
    have hij:=A j i w k l;have H9:¬Up D j:=λr=>hn (B.closed j i w k r l);rw[B.rest t (λj' X U AZ G=>by
     by_cases e:j=j'
     .subst e;exact H9 AZ
     .exact(H.stat j w k).lone t hd j' X U e G)]
    refine(H.Ek i (fc p) λj' X Gh U G=>?_).symm;exact(H.stat j w k).lone t hd j' X U (by omega) G
   have hji:=A i j o q l;rw[B.done j w t k (P j l) hd,H.fin k hd _ (aJ _) (ou hji p),<-H.fin k hd i (fc p) hji]
  .have hno:∀(j:Nat) (w:Oper),ops.toList[j]? = some w->w.dst≠some t:=λj w k hd=>hex ⟨j,w,k,hd⟩;rw[B.rest t (λj w k _=>hno j w k),H.init hno i (fc p)]
 have y:dn ops o cur=dn ops o (st i):=by
  unfold dn;cases Q:o.guard with
  |none=>rfl
  |some gw=>
   obtain⟨j,want⟩:=gw;simp only[];cases u:(ops[j]?).bind (·.dst)with
   |none=>rfl
   |some t=>simp only[];rw[reads t (by unfold lU GX;rw[Q];simp only[];rw[u];simp)]
 have Y:∀t,Operand.tmp t∈bG o.op->t∈lU ops o:=by intro t u;unfold lU;refine cg.2 (.inr (List.mem_filterMap.2 ⟨.tmp t,u,rfl⟩))
 have E9:∀x∈bG o.op,∀t,ev E cur t x=ev E (st i) t x:=by
  intro x hx t;cases x with
  |tmp j=>exact reads j (Y j hx)
  |_=>rfl
 have v:∀id,tu (st i) o id=true->dn ops o (st i)=some true->∀(b:Nat) (n:Oper),ops.toList[b]? = some n->b≠i->(st (b+1)).ob id≠(st b).ob id->cN (PP ops) i b=true\/cN (PP ops) b i=true:=by
  intro id f I b n l N d;rcases H.step b n l with ⟨HR,C⟩|⟨_,C⟩
  .rcases H.apart i b o n q l (λe=>N e.symm) I HR with h|h|⟨Ip,hs1,W⟩
   .exact .inl h
   .exact .inr h
   .exfalso;have T:=AH (E:=E) (Ψ:=Ψ) (s:=st b) (o:=n) _ C id;have c:tu (st b) n id=true:=by
     cases hq:tu (st b) n id with
     |true=>rfl
     |false=>exact absurd ((uY C).2 id hq) d
    unfold tu at f c;rw[gd,gd,aQ]at f c;have mem:∀ {s:S} {o:Oper},(mr s o).any (Nat.beq id)=true->id∈mr s o:=by intro s o h;obtain⟨x,hx,Iq⟩:=qF.1 h;rw[bn Iq];exact hx
    have pr:∀ {o:Oper},kr o id=true->aD (o.dst.getD 0) 0 0+2048<=cO->id<cO:=by intro o h K;unfold kr at h;simp only[aQ]at h;have:=dS h.2.2;omega
    rcases f with (f|f)|f
    .obtain⟨⟨e1,e2⟩,_⟩:=hs1.1 id (mem f);exact d (T.same e1 e2)
    .rcases c with (c|c)|c
     .have:=(W.1 id (mem c)).2.1;rw[f]at this;cases this
     .unfold kr at f c;simp only[aQ]at f c;obtain⟨m1,Z,a2⟩:=f;obtain⟨m2,b1,b2⟩:=c;have Z:=dS Z;have a2:=dS a2;have b1:=dS b1;have b2:=dS b2;cases R:o.dst with
      |none=>exact S1.made m1 R
      |some d1=>
       cases Ba:n.dst with
       |none=>exact(H.stat b n l).made m2 Ba
       |some d2=>have G6:d1≠d2:=λe=>S1.lone d1 R b n l (λe=>N e.symm) (by rw[Ba,e]);rw[R]at Z a2;rw[Ba]at b1 b2;simp only[Option.getD_some]at Z a2 b1 b2;exact yC G6 Z a2 b1 b2
     .have:=pr f hs1.2;have:=dS c.2;omega
    .have hge:=dS f.2;rcases c with (c|c)|c
     .have:=(W.1 id (mem c)).2.2 f.1;omega
     .have:=pr c W.2;omega
     .exact Ip ⟨f.1,c.1⟩
  .exact absurd (by rw[C,St.uU]) d
 have Ht:dn ops o (st i)=some true->∀id,tu (st i) o id=true->cur.ob id=(st i).ob id:=by
  intro I id f;obtain⟨m,hm,M,V⟩:=B.heap id;rw[V];have key:∀(b:Nat) (n:Oper),ops.toList[b]? = some n->b≠i->(st (b+1)).ob id≠(st b).ob id->(Up D b↔b<i):=by
   intro b n l N d;rcases v id f I b n l N d with h|h
   .have:=A i b o q h;exact⟨λ_=>this,λ_=>P b h⟩
   .have hib:=A b i n l h;exact⟨λr=>absurd (B.closed b i n l r h) hn,λh'=>by omega⟩
  rcases iA i m with HW|Gk
  .refine mL (ops:=ops) (st:=st) id m hm (fc HW) λj L C K k=>?_;refine pW λd=>?_;have r:=(M j L k d).2 K;by_cases e:j=i
   .subst e;exact hn r
   .have:=(key j L k e d).1 r;omega
  .refine(mL (ops:=ops) (st:=st) id i (fc p) Gk λj L C K k=>?_).symm;refine pW λd=>?_;have r:=(key j L k (by omega) d).2 K;have:=(M j L k d).1 r;omega
 have fin:∀g:S,(∀t,o.dst=some t->g.sl t=(st (i+1)).sl t)->(∀t,o.dst≠some t->g.sl t=cur.sl t)->(∀id,(g.ob id=(st (i+1)).ob id/\cur.ob id=(st i).ob id/\dn ops o (st i)=some true/\tu (st i) o id=true)\/(g.ob id=cur.ob id/\(st (i+1)).ob id=(st i).ob id))->At ops st (D.setIfInBounds i true) g:=by
  intro g C K F;refine⟨λa b oa Hl O l=>?_,λj L t k r hd=>?_,λt u=>?_,λid=>?_⟩
  .rw[mw z]at O⊢;rcases O with e|O
   .subst e;rw[Hl]at q;injection q with q;subst q
    exact .inr (P b l)
   .exact .inr (B.closed a b oa Hl O l)
  .rw[mw z]at r;by_cases e:j=i
   .subst e;rw[k]at q;injection q with q;subst q
    rw[C t hd,H.fin k hd _ (aJ _) p]
   .have r:Up D j:=r.resolve_left e;rw[K t (λG=>(H.stat j L k).lone t hd i o q e G)];exact B.done j L t k r hd
  .rw[K t (u i o q ((mw z).2 (.inl rfl)))];exact B.rest t λj L k r=>u j L k ((mw z).2 (.inr r))
  .rcases F id with ⟨F,h4,I,f⟩|⟨F,h4⟩
   .refine⟨i+1,p,λb n l d=>?_,F⟩;rw[mw z];by_cases e:b=i
    .subst e;exact⟨λ_=>fK _,λ_=>.inl rfl⟩
    .rcases v id f I b n l e d with h|h
     .have:=A i b o q h;exact⟨λ_=>by omega,λ_=>.inr (P b h)⟩
     .have hib:=A b i n l h;exact⟨λr=>absurd (B.closed b i n l (r.resolve_left e) h) hn,λh'=>by omega⟩
   .obtain⟨m,hm,M,V⟩:=B.heap id;refine⟨m,hm,λb n l d=>?_,F.trans V⟩;rw[mw z,<-M b n l d];refine⟨λh=>h.resolve_left λe=>?_,.inr⟩;subst e;exact d h4
 rcases H.step i o q with ⟨Q,J⟩|⟨Q,J⟩
 .obtain⟨e1,e2⟩:=sX (E:=E) (s:=st i) (o:=o) (cur:=cur) E9 (Ht Q);have Ho:=zL (Ψ:=Ψ) e2;rw[<-e1,J]at Ho;refine⟨DW o.dst ⟨cur.sl,tu (st i) o,cur.ob⟩ (st (i+1)),.inl ⟨by rw[y];exact Q,Ho⟩,fin _ (λt u=>Cl u) (λt u=>Cm u) (λid=>?_)⟩;cases f:tu (st i) o id with
  |true=>refine .inl ⟨?_,Ht Q id f,Q,rfl⟩;show(bif tu (st i) o id then(st (i+1)).ob id else cur.ob id)=_;rw[f];rfl
  |false=>refine .inr ⟨?_,(uY J).2 id f⟩;show(bif tu (st i) o id then(st (i+1)).ob id else cur.ob id)=_;rw[f];rfl
 .refine⟨cur.bI o.dst (.one .undef),.inr ⟨by rw[y];exact Q,rfl⟩,fin _ (λt u=>?_) (λt u=>St.zK _ u _) (λid=>.inr ⟨by rw[St.uU],by rw[J,St.uU]⟩)⟩;rw[J,St.tU _ u,St.tU _ u]
def vo.all{D:Array Bool}{a:S}(l:At ops st D a)(q:∀(i:Nat),i<ops.toList.length->Up D i):a=st ops.toList.length:=by
 have k:a.sl=(st ops.toList.length).sl:=by
  funext t;by_cases e:∃(j:Nat) (b:Oper),ops.toList[j]? = some b/\b.dst=some t
  .obtain⟨j,b,c,hd⟩:=e;refine l.done j b t c (q j ?_) hd;rcases iA j ops.toList.length with h|h
   .exact h
   .rw[oq h]at c;cases c
  .have g:∀(j:Nat) (b:Oper),ops.toList[j]? = some b->b.dst≠some t:=λj b c hd=>e ⟨j,b,c,hd⟩;rw[l.rest t (λj b c _=>g j b c),H.init g _ (aJ _)]
 have d:a.ob=(st ops.toList.length).ob:=by funext id;obtain⟨m,r,n,o⟩:=l.heap id;rw[o];refine(mL (ops:=ops) (st:=st) id _ (aJ _) r λj s k d c=>?_).symm;refine pW λf=>?_;have:=(n j s c f).1 (q j d);omega
 cases a;cases p:st ops.toList.length;rw[p]at k d;simp only[]at k d;rw[k,d]
end
variable {Hv:Nat->Value}
def count_set:∀(l:List Bool) (i:Nat),l[i]? = some false->(l.set i true).countP (λb=>!b)+1=l.countP (λb=>!b)
 |[],i,h=>by simp at h
 |b::l,0,h=>by simp at h;subst h;simp
 |b::l,i+1,h=>by have:=count_set l i (by simpa using h);simp only[List.set_cons_succ,List.countP_cons];omega
def qQ{l:List Bool}(h:l.countP (λb=>!b)=0)(i:Nat)(a:i<l.length):l[i]? = some true:=by rw[List.countP_eq_zero]at h;have:=h _ (List.getElem_mem a);rw[bR a];simpa using this
section
variable {R:Type}{P:Program}{E:Env}{Ψ:bA->Option hJ}{ops:Array Oper}{st:Nat->S}
def dP{D:Array Bool}{i:Nat}:Up D i↔D.toList[i]? = some true:=by
 unfold Up;rw[fL,cZ];cases D[i]? with
 |none=>simp
 |some b=>simp
def Rel.drawn{e:aq}{a:Act}{w w':World}{s:S}(h:Rel Hv e a w s)(d:w'.heap=w.heap)(c:cH e w e w'):Rel Hv e a w' s where
 dH:=h.dH.ext c
 inj:=h.inj
 dom b k hb:=by rw[d];exact h.dom b k hb
 defers:=h.defers
 dJ:=h.dJ
 slots i:=cQ.frame c (λid=>gx.tr ⟨rfl,λb k _ _ _=>⟨by rw[d],rfl⟩⟩ c h.dom) (h.slots i)
 c7 id cells hc:=by obtain⟨b,arr,T,f,g,j⟩:=h.c7 id cells hc;exact⟨b,arr,T,f,by rw[d];exact g,j.mono λ_ _ l=>bU.frame c (λid=>gx.tr ⟨rfl,λb k _ _ _=>⟨by rw[d],rfl⟩⟩ c h.dom) l⟩
def sv(hE:bD P E)(hC:eA P E Ψ){U:Nat->Prop}(H:vo E Ψ ops st)(s:∀(i:Nat) (o:Oper),ops.toList[i]? = some o->qd E o.dst=true)(hU:∀o∈ops.toList,∀j,U j->o.dst≠some j):
  ∀(f:Nat) (D:Array Bool) (N:aq) (a:Act) (w:World) (m:S) (x:Exit->Act->World->Prop),D.size=ops.size->D.toList.countP (λb=>!b)=f->At ops st D m->a.tmps.size=E.nt->Rel Hv N a w m ->
  (∀B J w',Rel Hv B J w' (st ops.toList.length)->cH N w B w'->J.tmps.size=a.tmps.size->(∀j,U j->J.tmps.getD j undef=a.tmps.getD j undef)->x .normal J w')->wpAny P .any ops x f D a w
 |f,D,N,a,w,m,x,K,hc,hA,hn,Q,hQ=>by
  have Y:ops.toList.length=D.toList.length:=by simp[K]
  have fin:Region.ready .any ops D=[]->x .normal a w:=by
   intro M;have r:∀(i:Nat),i<ops.toList.length->Up D i:=by
    intro i;induction i using Nat.strongRecOn with
    |ind i ih=>
     intro W;cases hu:D.getD i false with
     |true=>exact hu
     |false=>
      exfalso;have Ic:=bR W;have q:i∈Region.ready .any ops D:=by
       refine mem_ready.2 ⟨?_,ops.toList[i],by simp,λe he hb=>?_⟩
       .have z:i<D.size:=by rw[K];simpa using W
        rw[fL]at hu⊢;rw[mY z]at hu⊢;simpa using hu
       .have Z:=(H.stat i _ Ic).back e (by simpa using he) hb;exact ih e.on Z (ou Z W)
      rw[M]at q;cases q
   rw[H.all hA r]at Q;exact hQ N a w Q (cH.refl _ _) rfl (λ_ _=>rfl)
  cases f with
  |zero=>
   have M:Region.ready .any ops D=[]:=by
    cases M:Region.ready .any ops D with
    |nil=>rfl
    |cons i l=>
     exfalso;have q:i∈Region.ready .any ops D:=by rw[M];simp
     obtain⟨v,o,L,_⟩:=mem_ready.1 q;have HX:i<D.toList.length:=by
      rw[<-Y];rcases iA i ops.size with h|h
      .simpa using h
      .rw[Bp h]at L;cases L
     have:=qQ hc i HX;rw[fL,<-cZ,this]at v;cases v
   exact⟨M,fin M⟩
  |succ f=>
   refine⟨fin,λi W=>?_⟩;obtain⟨v,o,A,r⟩:=mem_ready.1 W;have L:ops.toList[i]? = some o:=by rw[cZ];exact A
   have HV:i<ops.size:=by
    rcases iA i ops.size with h|h
    .exact h
    .rw[Bp h]at A;cases A
   have z:i<D.size:=by rw[K];exact HV
   have p:D.toList[i]? = some false:=by rw[cZ,mY z];rw[fL,mY z]at v;simpa using v
   have Hi:¬Up D i:=by rw[dP,p];simp
   obtain⟨n,hst,O⟩:=H.any K hA L Hi (λe he hb=>r e (by simpa using he) hb);have V:(D.setIfInBounds i true).toList.countP (λb=>!b)=f:=by rw[sA];have:=count_set _ i p;omega
   have hd:∀d,o.dst=some d->d<a.tmps.size:=by intro d e;have:=s i o L;rw[e]at this;have y:d+1<=E.nt:=dS this;rw[hn];exact y
   have T:=hU o (vP L);have yes:step1 E Ψ o m=some n->o.wp P a w (wpAny P .any ops x f (D.setIfInBounds i true)) x:=by
    intro y;refine Oper.wp_mono (λJ w' F=>?_) (jM (R:=S) (k:=some) hE hC Q hd y);obtain⟨B,s',g1,g2,g3,g4,g5⟩:=F;injection g3 with g3
    subst g3;refine sv hE hC H s hU f _ B J w' s' x (by simpa using K) V O (g4.trans hn) g1 (λI a2 w2 q1 q2 q4 q5=>?_);exact hQ I a2 w2 q1 (g2.trans q2) (q4.trans g4) (λj X=>(q5 j X).trans (g5 j (T j X)))
   have no:n=m.bI o.dst (.one .undef)->wpAny P .any ops x f (D.setIfInBounds i true) (a.put o.dst undef) w:=by
    intro y;have EL:Rel Hv N (a.put o.dst undef) w n:=by rw[y];exact Q.bI hd (t:=.one .undef) rfl
    refine sv hE hC H s hU f _ N _ w n x (by simpa using K) V O ((jJ _ _ _).trans hn) EL (λI a2 w2 q1 q2 q4 q5=>?_);exact hQ I a2 w2 q1 q2 (q4.trans (jJ _ _ _)) (λj X=>(q5 j X).trans (lT _ _ _ (T j X)))
   unfold wpOp;rw[A];simp only[];have hw:∀b,dn ops o m=some b->Region.wanted o (yielded ops a.tmps)=b:=by
    intro b g;unfold dn at g;cases u:o.guard with
    |none=>rw[u]at g;injection g with g;subst g;simp[Region.wanted,u]
    |some gw=>
     obtain⟨j,C⟩:=gw;rw[u]at g;simp only[]at g;cases ht:(ops[j]?).bind (·.dst)with
     |none=>rw[ht]at g;cases g
     |some t=>
      rw[ht]at g;simp only[]at g;have G:=Q.slots t;cases hs:m.sl t with
      |one l=>
       rw[hs]at g G;cases l with
       |val tt b0=>
        cases tt with
        |bool=>
         injection g with g
         have hv:a.tmps.getD t undef=.bool b0:=G;have hy:=oc (ops:=ops) ht hv;have hw:Region.wanted o (yielded ops a.tmps)=(some (show Bool from b0)==some C):=by simp[Region.wanted,u,hy]
         rw[hw,<-g];rcases(show ∃c:Bool,c=b0 from⟨b0,rfl⟩)with ⟨c,rfl⟩;cases c <;> cases C <;> rfl
        |_=>cases g
       |undef=>
        injection g with g
        have hv:a.tmps.getD t undef=undef:=G;have hy:=mE (ops:=ops) ht hv;subst g;simp[Region.wanted,u,hy]
       |_=>cases g
      |_=>rw[hs]at g;cases g
   rcases hst with ⟨g,y⟩|⟨g,y⟩
   .rw[cz (hw true g)];exact .inl (yes y)
   .rw[bc (by rw[hw false g];decide)];exact no y
def pJ (z:bD P E) (y:eA P E Ψ) {U:Nat->Prop} {v:aq} {a:Act} {w:World} {s:S} {k:S->Option R} {r:R} {Qn:Exit->Act->World->Prop} (B:∀o∈ops.toList,∀j,U j->o.dst≠some j) (D:a.tmps.size=E.nt) (h:Rel Hv v a w s)
  (f:nU E (av R) (tab Ψ R) ops s k=some r)
  (A:∀c e l x,Rel Hv c e l x->cH v w c l->k x=some r->e.tmps.size=a.tmps.size->(∀j,U j->e.tmps.getD j undef=a.tmps.getD j undef)->Qn .normal e l):wpAny P .any ops Qn ops.size (Array.replicate ops.size false) a w:=by
 unfold nU at f;cases q:mq (gm ops.toList []) ops 0 ops.toList with
 |false=>rw[q]at f;cases f
 |true=>
  rw[q]at f;simp only[az]at f;obtain⟨st,n,g⟩:=oH _ _ _ _ _ f;have H:=Dh q n;rw[bC]at g;have u:(Array.replicate ops.size false).toList.countP (λb=>!b)=ops.size:=by simp[List.countP_replicate]
  refine sv z y (U:=U) H (λi o F=>n.dst i o F) B ops.size _ v a _ s Qn (by simp) u ?_ D h (λc e l G I J K=>A c e l _ G I g J K);have d:∀i,¬Up (Array.replicate ops.size false) i:=by intro i m;rw[dP]at m;simp[vN]at m
  exact⟨λi j o _ m=>absurd m (d i),λj o t _ C=>absurd C (d j),λt _=>by rw[n.first],λid=>⟨0,kU _,λb o _ _=>⟨λp=>absurd p (d b),λp=>absurd p (vI _)⟩,by rw[n.first]⟩⟩
def yF (t:P.follows .mixedOrders=true) (m:bD P E) (l:eA P E Ψ) {U:Nat->Prop} {id:Nat} {f:aq} {a:Act} {w:World} {s:S} {k:S->Option R} {r:R} {g:Exit->Act->World->Prop} (p:∀o∈ops.toList,∀j,U j->o.dst≠some j) (u:a.tmps.size=E.nt) (h:Rel Hv f a w s)
  (q:nU E (av R) (tab Ψ R) ops s k=some r)
  (n:∀b c d e,Rel Hv b c d e->cH f w b d->k e=some r->c.tmps.size=a.tmps.size->(∀j,U j->c.tmps.getD j undef=a.tmps.getD j undef)->g .normal c d):(Code.region id ops true).wp P g a w:=
 have i:cH f w f { w with drawn:=w.drawn+1 }:=⟨rfl,rfl,⟨rfl,ot _⟩,aJ _,λ_ _ _=>⟨rfl,rfl⟩⟩
 wp_region_any t (pJ m l p u (h.drawn rfl i) q λb c d e v x y z A=>n b c d e v (i.trans x) y z A)
end
end Go.R

