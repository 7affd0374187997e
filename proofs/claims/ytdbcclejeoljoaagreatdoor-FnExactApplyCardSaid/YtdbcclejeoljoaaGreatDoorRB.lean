import Derived.Test.YtdbcclejeoljoaaGreatDoorRA
/- An abstract interpreter over the code of Go functions, proved sound once: what it answers, the code computes. Conditions: none. -/
set_option linter.all false
set_option maxRecDepth 4000
namespace Go.R
variable {H:Nat->Value}
section
variable {R:Type}{P:Program}{E:Env}{ω:aq}{a:Act}{w:World}{s:S}{k:S->Option R}{r:R}{o:Oper}{Q:Exit->Act->World->Prop}
def gW {i:World} {f:aq} {g:S} {e:Nat} {c:ar} {dp:Bool} {z:List c.T} {id:Nat} {v:Value} (h:Rel H f a i (g.new id (.arr e c dp z))) (j:cH ω w f i) (hd:∀d,o.dst=some d->d<a.tmps.size)
  (n:(Ty.sl e c).R i f (aI (bif dp then 2 else 1) id []) v z) (l:k ((g.new id (.arr e c dp z)).bI o.dst (.one (.ref id ((g.new id (.arr e c dp z)).ob id).g 0 [])))=some r):
  Ends H ω a w o.dst k r (a.put o.dst v) i:=by
 refine dV h j hd (t:=.one (.ref id ((g.new id (.arr e c dp z)).ob id).g 0 [])) ⟨aJ _,by simp,λp b=>?_⟩ l;have m:((g.new id (.arr e c dp z)).ob id).o=.arr e c dp z:=by unfold St.new;rw[St.aB]
 rw[bW m rfl]at b;injection b with b
 subst b;exact n
inductive DX (ω:aq) (w:World) (s1:S) (e:Nat) (cs:ar) (x:List cs.T) (v:Value):Prop where
 |none (ad:Option Addr) (hv:v=.slice ad 0 0) (hx:x=[])
 |some (b id c:Nat) (h0:id≠0) (arr:Array Value) (hv:v=.slice (some ⟨b,0,none⟩) x.length c) (hn:x.length<=c) (hh:w.heap[b]? = some (.cells arr e (0,0))) (hsz:arr.size=c*cs.len) (hb:ω b=some (id,[])) (ho:(s1.ob id).o=.gone)
   (hel:∀(i:Nat),i<x.length->cs.R w ω (λ_=>.bQ) (λj=>arr[i*cs.len+j]?) 0 (x.getD i (jk cs)))
def mP{b:aq}{e:World}{c:Bool}{id:Nat}{a:ar}{g:Nat->Option Value}{i:Nat}{x:a.T}(d:c=true->a.plain=true)(h:a.R e b (λ_=>.bQ) g 0 x):
  a.R e b ((aI (bif c then 2 else 1) id []).inner i) g 0 x:=by
 cases c with
 |false=>exact h
 |true=>exact ar.fZ a _ _ _ 0 _ (d rfl) h
def BW{a:aq}{f:World}{d:Bool}{id e m b n c:Nat}{arr:Array Value}(h:f.heap[b]? = some (.cells arr e (0,0)))(i:arr.size=c*m)(g:a b=some (id,[])):
  Hd f a e m (aI (bif d then 2 else 1) id []) (some ⟨b,0,none⟩) n c:=by
 cases d <;> exact .inr ⟨b,arr,rfl,h,i,g⟩
def qq{a:aq}{d:World}{b:Bool}{id e m:Nat}{c:Option Addr}:Hd d a e m (aI (bif b then 2 else 1) id []) c 0 0:=by cases b <;> exact .inl ⟨rfl,rfl⟩
def wE{α:Type}(xs a:List α)(i:Nat)(z:α):(xs++a).getD i z=if i<xs.length then xs.getD i z else a.getD (i-xs.length) z:=by
 rw[dG];split
 .rename_i h;rw[iV h,<-dG]
 .rename_i h;rw[kH (by omega),<-dG]
def gM{α:Type}(xs a:List α):(xs++a).length=xs.length+a.length:=cR
def iq{i n m j c:Nat}(d:i<n)(e:j<m)(b:n<=c):i*m+j<c*m:=by have a:(i+1)*m<=c*m:=iM _ (by omega);rw[gh]at a;omega
def vU {f:aq} {m:World} {a:ar} {xs g:List a.T} {c b:List Value} {row:Nat->Option Value} (d:c.length=xs.length*a.len) (q:b.length=g.length*a.len)
  (r:∀i,i<xs.length->a.R m f (λ_=>.bQ) (λj=>c[i*a.len+j]?) 0 (xs.getD i (jk a)))
  (p:∀i,i<g.length->a.R m f (λ_=>.bQ) (λj=>b[i*a.len+j]?) 0 (g.getD i (jk a)))
  (n:∀j,j<(xs.length+g.length)*a.len->row j=(c++b)[j]?):
  ∀i,i<(xs++g).length->a.R m f (λ_=>.bQ) (λj=>row (i*a.len+j)) 0 ((xs++g).getD i (jk a)):=by
 intro i l;rw[gM]at l;rw[wE];split
 .rename_i h;refine ar.fq a _ _ _ 0 _ (λj k=>?_) (r i h);rw[bC,n _ (iq l k (aJ _)),iV (by rw[d];exact iq h k (aJ _))]
 .rename_i o;refine ar.fq a _ _ _ 0 _ (λj k=>?_) (p (i-xs.length) (by omega));rw[bC,n _ (iq l k (aJ _))];have e:i*a.len=xs.length*a.len+(i-xs.length)*a.len:=by rw[<-gB];congr 1;omega
  rw[kH (by rw[d];omega),d];congr 1;omega
def vV {s1:S} (h:Rel H ω a w s1) (hd:∀d,o.dst=some d->d<a.tmps.size) {t t' e:Nat} {cs:ar} {xs ys:List cs.T} {vx vy:Value} {dp:Bool} {id':Nat} (C:id'≠0) {I:TypeInfo} {z:Value}
  (U:P.underlying t=some (.slice e)) (N:P.info? e=some I) (hz:I.zero=some z) (O:I.size=cs.len) (hzs:z.cells.size=cs.len) (hby:I.bytes<=65536)
  (hx:DX ω w s1 e cs xs vx) {f:List Value} (m:Src P I.size t' vy ys.length f w) (L:∀i,i<ys.length->cs.R w ω (λ_=>.bQ) (λj=>f[i*cs.len+j]?) 0 (ys.getD i (jk cs)))
  (DV:((xs++ys).length:Int)<=1073741824) (CV:dp=true->cs.plain=true) (ty:Nat)
  (hk:k ((s1.new id' (.arr e cs dp (xs++ys))).bI o.dst (.one (.ref id' ((s1.new id' (.arr e cs dp (xs++ys))).ob id').g 0 [])))=some r):
  ∃v w',(Builtin.append_ #[t,t'] ty #[vx,vy]).run P w=.ok v w'/\Ends H ω a w o.dst k r (a.put o.dst v) w':=by
 rw[gM]at DV;have q:f.length=ys.length*cs.len:=by rw[m.newsLen,O]
 have grow:∀(y:Option Addr) (c:Nat) (l:List Value),vx=.slice y xs.length c->c<xs.length+ys.length->l.length=xs.length*cs.len ->
   (Builtin.firstCells I.size xs.length (.slice y xs.length c)).run P w.drew=.ok l.toArray w.drew ->
   (∀i,i<xs.length->cs.R w ω (λ_=>.bQ) (λj=>l[i*cs.len+j]?) 0 (xs.getD i (jk cs))) ->
   ∃v w',(Builtin.append_ #[t,t'] ty #[vx,vy]).run P w=.ok v w'/\Ends H ω a w o.dst k r (a.put o.dst v) w':=by
  intro y c l hv hc D Gd M;have F:Builtin.nextslicecap (xs.length+ys.length) c*I.bytes<=281474976710656:=by
   refine growslice_fits hc ?_;have h1:(xs.length+ys.length)*I.bytes<=(xs.length+ys.length)*65536:=Nat.mul_le_mul_left _ hby;have h2:xs.length+ys.length<=1073741824:=by omega
   omega
  have p:=run_append_grow_src (P:=P) w t t' ty e I z U N hz y xs.length c l Gd vy ys.length f m hc (by omega) F;rw[<-hv]at p;refine⟨_,_,p,?_⟩;have hge:=grownCap_ge w (xs.length+ys.length) c e;have hG:eF w w.drew:=eF.drew w;have Io:=h.world (w':=w.drew) (hG.ext ω) hG.block;have B:((l++f).toArray++Builtin.zeroCells z.cells (grownCap w (xs.length+ys.length) c e-(xs.length+ys.length))).size=grownCap w (xs.length+ys.length) c e*cs.len:=by
   have h1:(Builtin.zeroCells z.cells (grownCap w (xs.length+ys.length) c e-(xs.length+ys.length))).size=(grownCap w (xs.length+ys.length) c e-(xs.length+ys.length))*cs.len:=by simp[Builtin.zeroCells,hzs]
   rw[CY,h1,uo,cR,D,q,<-gB,<-gB];congr 1;omega
  have R:=uP (k:=k) (r:=r) (ω:=ω) (w:=w) (w1:=w.drew) (eD:=ω) (s1:=s1) (e:=e) (cs:=cs) (dp:=dp) (x:=xs++ys) (id:=id') (c:=grownCap w (xs.length+ys.length) c e) Io (hG.ext ω) hd C (by rw[gM];exact hge) B (λi n=>?_) hk
  .rw[gM]at R;exact R
  .refine mP CV ?_;have G:∀(g:Nat->Option Value) (x:cs.T),cs.R w ω (λ_=>.bQ) g 0 x->cs.R (w.drew.alloc (.cells ((l++f).toArray++Builtin.zeroCells z.cells (grownCap w (xs.length+ys.length) c e-(xs.length+ys.length))) e)) (ω.fresh id' w.drew.heap.size) (λ_=>.bQ) g 0 x:=by intro g x hg;have G0:=hG.trans (eF.alloc w.drew (.cells ((l++f).toArray++Builtin.zeroCells z.cells (grownCap w (xs.length+ys.length) c e-(xs.length+ys.length))) e));exact ar.bZ G0.size cs _ _ _ 0 _ (λ_=>(dW (id:=id') C G0 (aJ _)).keeps) (λ_=>rfl) hg
   refine vU (row:=λj=>((l++f).toArray++Builtin.zeroCells z.cells (grownCap w (xs.length+ys.length) c e-(xs.length+ys.length)))[j]?) D q (λi n=>G _ _ (M i n)) (λi n=>G _ _ (L i n)) (λj J=>?_) i n;have hlt:j<(l++f).toArray.size:=by rw[uo,cR,D,q,<-gB];exact J
   show _=_;rw[xB hlt,List.getElem?_toArray]
 cases hx with
 |none V hv hx0=>
  subst hx0;by_cases h0:ys.length=0
  .have hys:ys=[]:=e9.1 h0;subst hys;have Dw:f=[]:=e9.1 (by rw[q];simp);subst Dw;refine⟨.slice V 0 0,w,?_,?_⟩
   .subst hv;have T:∀w':World,(Builtin.lenOf vy).run P w'=.ok 0 w':=m.len;have Y:=m.cells;have Q:(Builtin.firstCells I.size 0 vy).run P w=.ok #[] w:=Y;rcases m.kind with ⟨e',Z⟩|Z
    .cases V <;> simp[Builtin.append_,run_underlying U,run_underlying Z,sizeOf,typeInfo,N,T,Q,storeCells]
    .cases V <;> simp[Builtin.append_,run_underlying U,run_underlying Z,sizeOf,typeInfo,N,T,Q,storeCells]
   .have hR:=h.bare (id':=id') C (.arr e cs dp (([]:List cs.T)++[])) (λ_ e=>by cases e);exact gW hR (bj _ _ _ C) hd ⟨V,0,0,rfl,rfl,aJ _,qq,λi _ n=>absurd n (by omega)⟩ hk
  .refine grow V 0 [] hv (by simp;omega) (by simp) ?_ (λi n=>absurd n (by simp));cases V with
   |none=>rfl
   |some A=>exact run_firstCells_some w.drew I.size 0 A 0 0 [] (by simp) (by simp)
 |some b id c h0 arr hv hn hh B hb ho M=>
  have X:arr.toList.length=c*cs.len:=(gv (xs:=arr)).trans B;have K:min (xs.length*cs.len) (c*cs.len)=xs.length*cs.len:=Nat.min_eq_left (iM _ hn);by_cases s:xs.length+ys.length<=c
  .subst hv;have Y:∀j,j<arr.size->w.cell? ⟨b,j,none⟩=arr[j]?:=λj _=>cell_of_row w b j arr e (0,0) hh;have F:xs.length*cs.len+f.length<=arr.size:=by rw[q,B,<-gB];exact iM _ s
   have p:=run_append_room_src (P:=P) w t t' ty e I U N b 0 xs.length c vy ys.length f m s
    (λj J=>by rw[O,bC,Y _ (by omega)];simp;omega)
    (λj J=>by simp[World.frozen?,hh])
   rw[O,bC]at p;refine⟨_,_,p,?_⟩;obtain⟨kM,g1,g2⟩:=dQ b e (0,0) f (xs.length*cs.len) w arr hh F;have hp:=dL b f (xs.length*cs.len) w;have hR:=h.DL (id':=id') h0 C hb ho hp (.arr e cs dp (xs++ys)) (λ_ e=>by cases e);have E:=jH (id':=id') h0 C hb hp;refine gW hR E hd ?_ hk;refine⟨some ⟨b,0,none⟩,xs.length+ys.length,c,rfl,gM _ _,s,BW g1 ?_ (aq.eV _ _ _),?_⟩
   .rw[<-gv,g2];simp only[cR,dB,kg,gv];omega
   .intro i V n W;injection W with W
    subst W;refine mP CV ?_;have G:∀(g:Nat->Option Value) (x:cs.T),cs.R w ω (λ_=>.bQ) g 0 x->cs.R (w.setCells b (xs.length*cs.len) f) (ω.fresh id' b) (λ_=>.bQ) g 0 x:=by intro g x hg;exact ar.bZ E.size cs _ _ _ 0 _ (λ_=>E.keeps) (λ_=>rfl) hg
    have D:(arr.toList.take (xs.length*cs.len)).length=xs.length*cs.len:=by rw[dB,X];exact K
    have:=vU (row:=λj=>(w.setCells b (xs.length*cs.len) f).cell? ⟨b,0+j,none⟩) D q (λi n=>G _ _ (ar.fq cs _ _ _ 0 _ (λj J=>by
      rw[bC,jv (iq n J (aJ _)),cZ]) (M i n))) (λi n=>G _ _ (L i n)) (λj J=>by
      have hlt:j<(arr.toList.take (xs.length*cs.len)++f).length:=by rw[cR,D,q,<-gB];exact J
      show _=_;rw[bC,cell_of_row _ b j kM e (0,0) g1,<-cZ,g2,iV hlt]) i (by rw[gM];exact n)
    refine ar.fq cs _ _ _ 0 _ (λj _=>?_) this;rw[bC,bC,bC]
  .refine grow (some ⟨b,0,none⟩) c (arr.toList.take (xs.length*cs.len)) hv (by omega) ?_ ?_ ?_
   .rw[dB,X];exact K
   .refine run_firstCells_some w.drew I.size xs.length ⟨b,0,none⟩ xs.length c _ ?_ ?_
    .rw[dB,X,O];exact K
    .intro j u U;have J:j<xs.length*cs.len:=by have:=(l6.1 U).1;rw[dB]at this;omega
     rw[jv J,cZ]at U;rw[Addr.add_mid,bC,<-U];exact cell_of_row w.drew b j arr e (0,0) hh
   .intro i n;exact ar.fq cs _ _ _ 0 _ (λj J=>by rw[bC,jv (iq n J (aJ _)),cZ]) (M i n)
def Bo {P:Program} {size t' e':Nat} {v:Value} {n cp:Nat} {d:Option Addr} {a:List Value} (e:P.underlying t'=some (.slice e')) (f:v=.slice d n cp) (g:a.length=n*size) (m:∀u∈a,u.oneCell'=true)
  (o:0<n->∃b c,d=some ⟨b,c,none⟩/\∀k u,a[k]? = some u->w.cell? ⟨b,c+k,none⟩=some u):Src P size t' v n a w:=by
 by_cases l:n=0
 .subst l;have:a=[]:=e9.1 (by simpa using g);subst this;cases d with
  |none=>subst f;exact Src.ofNil w e cp
  |some A=>subst f;exact Src.ofSlice w e A 0 cp [] (by simp) (by simp) (by simp)
 .obtain⟨b,c,h,i⟩:=o (by omega);subst f;subst h;exact Src.ofSlice w e ⟨b,c,none⟩ n cp a g (λj u p=>by rw[Addr.add_mid];exact i j u p) m
def qI(h:Rel H ω a w s){id g A:Nat}{c:Cont real}{v:Value}(o:s.cont id g A []=some c)(B:c.md≠0)(K:bU w ω s v (.ref id g A []))(f:c.md≠2\/c.cs.plain=true):
  DX ω w (s.bq id true .gone) c.e c.cs c.x v:=by
 have I:=K.2.2 c o;have k:∀(i:Nat) (g:Nat->Option Value) (y:c.cs.T),c.cs.R w ω ((aI c.md id []).inner i) g 0 y->c.cs.R w ω (λ_=>.bQ) g 0 y:=by
  intro i g y r;rcases f with f|f
  .rcases(lS o).2 with d|d|d
   .exact absurd d B
   .rw[d]at r;exact r
   .exact absurd d f
  .exact ar.fZ c.cs _ _ _ 0 _ f r
 obtain⟨u,n,x,z,C,D,l,E⟩:=I;have t:Hd w ω c.e c.cs.len (.flat (id,[])) u n x:=by
  rcases(lS o).2 with d|d|d
  .exact absurd d B
  .rw[d]at l;exact l
  .rw[d]at l;exact l
 subst C;rcases t with ⟨p,m⟩|⟨b,arr,p,m,F,G⟩
 .refine .none u ?_ (e9.1 m);rw[z,p];congr 1
 .subst p;refine .some b id x (h.pR ?_) arr z D m F G (by rw[St.ay]) (λi J=>?_)
  .intro e;rcases(dz o).2 with ⟨L,q,_⟩|⟨_,_,_,q,_⟩|⟨q,_⟩ <;> rw[q]at e <;> cases e
  have:=k i _ _ (E i _ J rfl);refine ar.fq c.cs _ _ _ 0 _ (λj _=>?_) this;simp only[bC];rw[cell_of_row w b _ arr c.e (0,0) m]
def mV{α:Type}(x:List α)(l h:Nat)(a:l<=h)(b:h<=x.length):((x.drop l).take (h-l)).length=h-l:=by rw[dB,kg];omega
def xb{α:Type}(x:List α)(l h i:Nat)(z:α)(a:i<h-l):((x.drop l).take (h-l)).getD i z=x.getD (l+i) z:=by rw[dG,jv a,pZ,<-dG]
def tV{e:Nat}{a:ar}{x:List a.T}{g:Option Addr}{n cp:Nat}(C:(Ty.sl e a).R w ω .bQ (.slice g n cp) x){l h:Nat}(z:l<=h)(B:h<=x.length):
  (Ty.sl e a).R w ω .bQ (sliced g l h cp a.len) ((x.drop l).take (h-l)):=by
 obtain⟨p,G,q,r,s,E,k,t⟩:=C;injection r with u v y
 subst u;subst v;subst y;subst s;refine⟨_,h-l,cp-l,rfl,mV x l h z B,by omega,?_,?_⟩
 .intro F;obtain⟨b,c,f,m,o⟩:=k (by omega);subst f;rw[bc (by omega),cj,Addr.add_mid];exact⟨b,_,rfl,m,o⟩
 .intro i A D d;obtain⟨b,c,f,m,o⟩:=k (by omega);subst f;rw[bc (by omega),cj,Addr.add_mid]at d;injection d with d
  subst d;have:=t (l+i) ⟨b,c,none⟩ (by omega) rfl;rw[xb x l h i _ D];refine ar.fq a _ _ _ 0 _ (λj _=>?_) this;simp only[bC];congr 2;rw[gB];omega
def pL{t e:Nat}(c:P.underlying t=some (.slice e))(x:Value)(b a mx:Option Value)(w:World):(Instr.sliceAt t x b a mx).run P w=(Instr.slice t x b a mx).run P w:=by simp[Instr.sliceAt,run_underlying c]
def lM{t e:Nat}(a:P.underlying t=some (.slice e)):P.underlying t=some (.slice (P.elem t)):=by
 have:P.elem t=e:=by simp[Program.elem,a]
 rw[this];exact a
def sH {t e:Nat} {I:TypeInfo} (c:P.underlying t=some (.slice e)) (m:P.info? e=some I) (w:World) (b:Option Addr) (n cp:Nat) (q:n<=cp) (f a:Option Value) (l h:Int)
  (o:(f=none/\l=0)\/f=some (.int .i64 l)) (k:(a=none/\h=(n:Int))\/a=some (.int .i64 h)) (g:0<=l) (i:l<=h) (p:h<=(n:Int)):
  (Instr.sliceAt t (.slice b n cp) f a none).run P w=.ok (sliced b l.toNat h.toNat cp I.size) w:=by
 rw[pL c];have j:P.elem t=e:=by simp[Program.elem,c]
 have d:(sizeOf (P.elem t)).run P w=.ok I.size w:=by rw[j];simp[sizeOf,typeInfo,m]
 rcases o with ⟨rfl,rfl⟩|rfl <;> rcases k with ⟨rfl,rfl⟩|rfl
 .rw[run_slice_all w t b n cp (lM c),d];rfl
 .rw[run_slice_h w t b n cp (lM c) .i64 h (by omega) (by omega),d];rfl
 .rw[run_slice_l w t b n cp (lM c) .i64 l g i,d];rfl
 .rw[run_slice_lh w t b n cp (lM c) .i64 .i64 l h g i (by omega),d];rfl
def rS {t e:Nat} {I:TypeInfo} (b:P.underlying t=some (.slice e)) (j:P.info? e=some I) (w:World) (a:Option Addr) (n cp:Nat) (c f:IntKind) (g:Option Value)
  (k:g=none\/∃d,g=some (.int d 0)):
  (Instr.sliceAt t (.slice a n cp) g (some (.int c 0)) (some (.int f 0))).run P w=.ok (.slice a 0 0) w:=by
 rw[pL b];have i:P.elem t=e:=by simp[Program.elem,b]
 have h:(sizeOf (P.elem t)).run P w=.ok I.size w:=by rw[i];simp[sizeOf,typeInfo,j]
 rcases k with rfl|⟨d,rfl⟩
 .rw[run_slice_hm w t a n cp (lM b) c f 0 0 (by omega) (by omega) (by omega),h];rfl
 .rw[run_slice_lhm w t a n cp (lM b) d c f 0 0 0 (by omega) (by omega) (by omega) (by omega),h];rfl
def oG{x:Option Operand}(h:gX x=true):∃k,x.map a.eval=some (.int k 0):=by
 unfold gX at h;split at h
 .rename_i k n;have:=ck h;subst this;exact⟨k,rfl⟩
 .cases h
def qV{t:Nat}{x:Operand}{c b mx:Option Operand}(e:o.op=.slice t x c b mx){v:Value}{d:World}(h:(Instr.sliceAt t (a.eval x) (c.map a.eval) (b.map a.eval) (mx.map a.eval)).run P w=.ok v d):(execOp a.eval o).run P w=.ok (.value v) d:=by unfold execOp;simp only[e];rw[Sem.run_bind,h];rfl
def yQ (hE:bD P E) {t:Nat} {x:Operand} {C F mx:Option Operand} (ho:o.op=.slice t x C F mx) (h:Rel H ω a w s) (hd:∀d,o.dst=some d->d<a.tmps.size) {Φ:bA->Option (Callee real (Option R))}
  (hk:aL E (av R) Φ o s k=some r):o.wp P a w (Ends H ω a w o.dst k r) Q:=by
 have V:=bE h E t x;unfold aL at hk;simp only[ho]at hk;unfold jL at hk;obtain⟨⟨e,cs⟩,h1,Hf⟩:=ah hk;obtain⟨c,u,n⟩:=ah Hf;clear hk Hf;obtain⟨hu,j,I,d,hj,FC,ok⟩:=gQ hE h1;have hI:I.size=cs.len:=by rw[ok.size,FC]
 cases hb:(Nat.beq e c.e&&ar.beq cs c.cs)with
 |false=>simp only[hb]at n;cases n
 |true=>
  simp only[hb,az]at n;rw[aQ]at hb;have he:=bn hb.1;have hcs:=ar.eq_of_beq hb.2;subst he;subst hcs;obtain⟨W,cp,X,e2⟩:=wo u V;cases h0:(gX mx&&(gX F&&DJ C))with
  |true=>
   simp only[h0,az]at n;rw[aQ,aQ]at h0;obtain⟨g1,g2,g3⟩:=h0;obtain⟨km,f1⟩:=oG (a:=a) g1;obtain⟨kh,f2⟩:=oG (a:=a) g2;have f3:C.map a.eval=none\/∃kl,C.map a.eval=some (.int kl 0):=by
    cases C with
    |none=>exact .inl rfl
    |some q=>exact .inr (oG g3)
   refine aT h hd (v:=.slice W 0 0) (qV ho ?_) (t:=.one (.eI c.e c.cs)) ⟨W,rfl⟩ n;rw[X,f1,f2];exact rS hu ok.info w W _ cp kh km _ f3
  |false=>
   simp only[h0,aW]at n;cases mx with
   |some _=>cases n
   |none=>
    simp only at n;obtain⟨(l:Int),O,EN⟩:=ah n;obtain⟨(m:Int),h4,Hg⟩:=ah EN;clear n EN;have f:(bif mT c.x l m then eS E (av R) (o.dst.getD 0) s (ev E s t x) c C.isNone l m (λv s=>k (s.bI o.dst v))else none)=some r:=Hg;clear Hg;cases B:mT c.x l m with
    |false=>rw[B]at f;cases f
    |true=>
     rw[B]at f;simp only[az]at f;unfold mT at B;rw[aQ,aQ]at B;have g0:0<=l:=ck B.1;have g1:l<=m:=ck B.2.1;have g2:m<=(List.length c.x:Int):=ck B.2.2;have hlo:(C.map a.eval=none/\l=0)\/C.map a.eval=some (.int .i64 l):=by
      cases C with
      |none=>
       refine .inl ⟨rfl,?_⟩;injection O with O
       exact O.symm
      |some q=>exact .inr (by rw[cj,iK O (bE h E 0 q)])
     have hhi:(F.map a.eval=none/\m=(List.length c.x:Int))\/F.map a.eval=some (.int .i64 m):=by
      cases F with
      |none=>
       refine .inl ⟨rfl,?_⟩;injection h4 with h4
       exact h4.symm
      |some q=>exact .inr (by rw[cj,iK h4 (bE h E 0 q)])
     have M:=sH (P:=P) hu ok.info w W (List.length c.x) cp e2 (C.map a.eval) (F.map a.eval) l m hlo hhi g0 g1 g2;rw[hI,<-X]at M;have J:(execOp a.eval o).run P w=.ok (.value (sliced W l.toNat m.toNat cp c.cs.len)) w:=qV ho M;have q1:l.toNat<=m.toNat:=by omega
     have q2:m.toNat<=List.length c.x:=by omega
     have bQ:(Ty.sl c.e c.cs).R w ω .bQ (a.eval x) c.x->k (s.bI o.dst (.one (.val (.sl c.e c.cs) (real.sub c.x l m))))=some r->o.wp P a w (Ends H ω a w o.dst k r) Q:=by intro hR hkk;rw[X]at hR;exact aT h hd J (t:=.one (.val (.sl c.e c.cs) (real.sub c.x l m))) (tV hR q1 q2) hkk
     unfold eS at f;cases L:ev E s t x with
     |one q=>
      rw[L]at f V u;cases q with
      |val tt xx=>
       cases tt with
       |sl e' G=>have N:(⟨e',G,xx,0⟩:Cont real)=c:=aG u;refine bQ ?_ f;rw[<-N];exact V
       |_=>cases u
      |eI e' G=>have N:(⟨e',G,real.kN e' G,1⟩:Cont real)=c:=aG u;refine bQ ?_ f;rw[<-N];obtain⟨Y,HC⟩:=V;exact⟨Y,0,0,HC,rfl,aJ _,λhn=>absurd hn (by omega),λi _ F=>absurd F (by omega)⟩
      |ref id g hh p=>
       cases p with
       |cons _ _=>cases f
       |nil=>
        have hc:s.cont id g hh []=some c:=u;have hR:=V.2.2 c hc;simp only at f;cases z:Nat.beq c.md 0 with
        |true=>have hm:=bn z;rw[z]at f;rw[hm]at hR;exact bQ hR f
        |false=>
         rw[z]at f;simp only[aW]at f;have hm:c.md≠0:=by intro e;rw[e]at z;cases z
         have hsp:=dz hc;have F8:∃Z,(s.ob id).o=.arr c.e c.cs Z c.x/\c.md=bif Z then 2 else 1:=by
          rcases hsp.2 with ⟨Z,f1,_,f3⟩|⟨_,_,_,_,f2,_⟩|⟨_,_,f3⟩
          .exact⟨Z,f1,f3⟩
          .exact absurd rfl f2
          .exact absurd f3 hm
         obtain⟨Z,U,AY⟩:=F8;cases K:(E.trunc (o.dst.getD 0)&&C.isNone)with
         |false=>
          rw[K]at f;simp only[aW]at f;have hne:id≠0:=h.pR (by rw[U];exact λe=>by cases e);have hfr:=h.freeze U true;have hx':=(lO (ω:=ω) (w:=w) hne h.dom U true id).ref _ g hh [] V;have Gb:(s.bq id true (.bQ c.e c.cs c.x)).cont id g hh []=some ⟨c.e,c.cs,c.x,0⟩:=by unfold St.cont fU.cont;rw[St.ay];simp only;rw[hsp.1,eN];rfl
          have S:=hx'.2.2 _ Gb;simp only[aI]at S;rw[X]at S;exact eY J (dV hfr (bj _ _ _ hne) hd (t:=.one (.val (.sl c.e c.cs) (real.sub c.x l m))) (tV S q1 q2) f)
         |true=>
          rw[K]at f;simp only[az]at f;cases y:(Nat.beq c.md 2 && !c.cs.plain)with
          |true=>rw[y]at f;cases f
          |false=>
           rw[y]at f;simp only[aW]at f;rw[aQ]at K;have FE:l=0:=by
            cases C with
            |none=>injection O with O;exact O.symm
            |some _=>cases K.2
           have CV:Nat.beq c.md 2=true->c.cs.plain=true:=by
            intro e;rw[e]at y;cases hp:c.cs.plain with
            |true=>rfl
            |false=>rw[hp]at y;cases y
           have hX:=qI h hc hm V (by
            by_cases e:c.md=2
            .exact .inr (CV (by rw[e];rfl))
            .exact .inl e)
           have hz:real.sub c.x l m=((List.drop 0 c.x).take (m.toNat-0):List c.cs.T):=by rw[FE];rfl
           subst FE;have G9:=h.gone id true;cases hX with
           |none Y hv hx0=>
            rw[X]at hv;injection hv with v1 v2 v3
            subst v3;have z:m.toNat=0:=by omega
            have T:=G9.bare (id':=aD (o.dst.getD 0) 0 0) (da _ _ _) (.arr c.e c.cs (Nat.beq c.md 2) (real.sub c.x (0:Int) m)) (λ_ e=>by cases e);refine eY J (gW T (bj _ _ _ (da _ _ _)) hd ?_ f);refine⟨W,0,0,?_,?_,aJ _,qq,λi _ F=>absurd F (by omega)⟩
            .simp[sliced,z]
            .rw[hz];exact(mV c.x 0 m.toNat (by omega) (by omega)).trans (by omega)
           |some b I3 IN GY arr hv hn EF hsz hb' Hj hel=>
            rw[X]at hv;injection hv with v1 v2 v3
            subst v3;subst v1;have T:=G9.DL (id':=aD (o.dst.getD 0) 0 0) GY (da _ _ _) hb' Hj (og.refl w b) (.arr c.e c.cs (Nat.beq c.md 2) (real.sub c.x (0:Int) m)) (λ_ e=>by cases e);have D:=jH (ω:=ω) (id':=aD (o.dst.getD 0) 0 0) GY (da _ _ _) hb' (og.refl w b);refine eY J (gW T D hd ?_ f);refine⟨some ⟨b,0,none⟩,m.toNat,cp,?_,?_,by omega,BW EF hsz (aq.eV _ _ _),?_⟩
            .simp[sliced,Addr.add_mid]
            .rw[hz];exact(mV c.x 0 m.toNat (by omega) (by omega)).trans (by omega)
            .intro i A F hA;injection hA with hA
             subst hA;refine mP CV ?_;rw[hz,xb c.x 0 m.toNat i _ (by omega),show(0+i)=i from bC i];have hrow:=ar.bZ D.size c.cs _ _ _ 0 _ (λ_=>D.keeps) (λ_=>rfl) (hel i (by omega));refine ar.fq c.cs _ _ _ 0 _ (λj _=>?_) hrow;simp only[bC];rw[cell_of_row w b _ arr c.e (0,0) EF]
      |ptr _ _ _=>cases u
      |bH _ _ _ _ _ _=>cases u
      |ei _ _ _=>cases u
      |cD _ _=>cases u
      |fn _ _=>cases u
      |C4 _ _=>cases u
      |undef=>cases u
      |dead=>cases u
     |agg _=>rw[L]at u;cases u
     |ol _=>rw[L]at u;cases u
     |pQ _ _=>rw[L]at u;cases u
def j4 {t:Nat} {I:TypeInfo} (f:P.info? t=some I) {b off T:Nat} {arr:Array Value} {v:Value} (c:w.heap[b]? = some (.cells arr T (0,0))) (g:v.cells.size=I.size) (a:off+v.cells.size<=arr.size)
  (e:∀u∈v.cells.toList,u.oneCell'=true):(Instr.storeAt t (.pointer (some ⟨b,off,none⟩)) v).run P w=.ok () (w.setCells b off v.cells.toList):=by
 have:=run_storeCells_cells (P:=P) b off v.cells.toList 0 w (λj d=>by
   rw[cell_of_row w b _ arr T (0,0) c];have:j<v.cells.size:=by simpa using d
   simp;omega) (λj d=>by simp[World.frozen?,c]) e
 simp only[kE]at this;simp[Instr.storeAt,Instr.sureAddr,storeVar,sizeOf,typeInfo,f,g,this]
def dc{d:World}{b id:Nat}{q:List (Nat×Nat)}(f:id≠0)(g:ω b=some (id,q))(a:og w d b):cH ω w ω d:=
 ⟨a.os,a.tape,a.output,by rw[a.size];exact aJ _,λc i h=>by
  have:c≠b:=λe=>by subst e;exact h.ne g f
  exact⟨a.block c this,rfl⟩⟩
def mJ{y:World}{b id:Nat}{cells cells':List L}(A:id≠0)(hd:∀b k,ω b=some k->b<w.heap.size)(r:ω b=some (id,[]))(C:(s.ob id).o=.blk cells)(u:og w y b)(j:Nat):Tr w ω s y ω (s.bq id true (.blk cells')) j:=by
 by_cases e:j=id
 .subst e;have n:((s.bq j true (.blk cells')).ob j).o=.blk cells':=by rw[St.ay]
  have f:((s.bq j true (.blk cells')).ob j).g=(s.ob j).g:=by rw[St.ay]
  have t:((s.bq j true (.blk cells')).ob j).h=bif true then(s.ob j).h+1 else(s.ob j).h:=by rw[St.ay]
  have m:∀g h p c,(s.bq j true (.blk cells')).cont j g h p=some c->False:=by intro g h p c d;unfold St.cont fU.cont at d;rw[n]at d;cases D:Nat.beq ((s.bq j true (.blk cells')).ob j).g g <;> rw[D]at d <;> cases d
  exact
  {ref:=λv g h p a=>⟨by rw[f];exact a.1,by rw[f,t];exact gF true a.2.1,λc d=>(m _ _ _ _ d).elim⟩
   ptr:=λv g q a=>⟨by rw[f];exact a.1,λl _ _=>by rw[f]at l;exact a.2 l cells C⟩
   bH:=λv g h p i q a=>⟨by rw[f];exact a.1,by rw[f,t];exact gF true a.2.1,λc d=>(m _ _ _ _ d).elim⟩
   cD:=λv g a=>a.shut f λk x e=>by rw[n]at e;cases e }
 .refine gx.tr ⟨St.aO _ _ _ e,λc E d o B=>?_⟩ (dc A r u) hd;have:c≠b:=λz=>by subst z;rw[r]at o;injection o with o;subst o;exact e B.symm
  exact⟨u.block c this,rfl⟩
def Rel.AP (h:Rel H ω a w s) {q:World} {b id T:Nat} {cells cells':List L} {arr:Array Value} (f:ω b=some (id,[])) (n:(s.ob id).o=.blk cells) (g:og w q b)
  (x:q.heap[b]? = some (.cells arr T (0,0))) (o:aH (bU w ω s) arr.toList cells') (k:id≠0:=h.pR (by rw[n];exact λe=>by cases e)):Rel H ω a q (s.bq id true (.blk cells')) where
 dH:=h.dH.ext (dc k f g)
 inj:=h.inj
 dom c kk d:=by rw[g.size];exact h.dom c kk d
 defers:=h.defers
 dJ:=by rw[St.aO _ _ _ (c6 k)];exact h.dJ
 slots i:=cQ.frame (dc k f g) (mJ k h.dom f n g) (h.slots i)
 c7 j cs l:=by
  by_cases e:j=id
  .subst e;rw[St.ay]at l;injection l with l
   subst l;exact⟨b,arr,T,f,x,o.mono λ_ _ p=>bU.frame (dc k f g) (mJ k h.dom f n g) p⟩
  .rw[St.aO _ _ _ e]at l;obtain⟨c,m,r,d,u,v⟩:=h.c7 j cs l;have:c≠b:=λt=>by subst t;rw[f]at d;injection d with d;injection d with d;exact e d.symm
   exact⟨c,m,r,d,(g.block c this).trans u,v.mono λ_ _ p=>bU.frame (dc k f g) (mJ k h.dom f n g) p⟩
def rU:∀(d:ar) (b:Nat->Md) (g c:Nat->Option Value) (a j:Nat) (y l:d.T) (t:Ty) (v:t.T) (u:Value),d.R w ω b g a y->setCell (A:=real) d y j ⟨t,v⟩=some l->t.R w ω (b (a+j)) u v ->
  c (a+j)=some u->(∀i,i≠a+j->c i=g i)->d.R w ω b c a l
 |.nil,_,_,_,_,_,_,_,_,_,_,_,h,_,_,_=>by cases h
 |.cons f ts,b,g,c,a,0,y,l,t,v,u,o,h,r,m,e=>by
  simp only[setCell]at h;split at h
  .rename_i x;injection h with h
   subst h;obtain rfl:=Ty.eq_of_beq x;have n:kp (kZ (t:=t) (ts:=ts) v (jP y))=v:=kI _ _;have q:jP (kZ (t:=t) (ts:=ts) v (jP y))=jP y:=kK _ _;refine⟨⟨u,m,?_⟩,?_⟩
   .show t.R w ω (b a) u (kp (kZ v (jP y)));rw[n];exact r
   .show ts.R w ω b c (a+1) (jP (kZ v (jP y)));rw[q];exact ar.fq ts b g c (a+1) _ (λk _=>e _ (by omega)) o.2
  .cases h
 |.cons f ts,b,g,c,a,j+1,y,l,t,v,u,o,h,r,m,e=>by
  simp only[setCell]at h;cases p:setCell (A:=real) ts (real.tl y) j ⟨t,v⟩with
  |none=>rw[p]at h;cases h
  |some z=>
   rw[p]at h;have h:=aG h;subst h;have n:kp (kZ (t:=f) (ts:=ts) (kp y) z)=kp y:=kI _ _;have q:jP (kZ (t:=f) (ts:=ts) (kp y) z)=z:=kK _ _;obtain⟨⟨s,B,C⟩,D⟩:=o;refine⟨⟨s,?_,?_⟩,?_⟩
   .rw[e a (by omega)];exact B
   .show f.R w ω (b a) s (kp (kZ (kp y) z));rw[n];exact C
   .show ts.R w ω b c (a+1) (jP (kZ (kp y) z));rw[q];refine rU ts b g c (a+1) j _ z t v u D p ?_ ?_ ?_
    .rw[show a+1+j=a+(j+1)by omega];exact r
    .rw[show a+1+j=a+(j+1)by omega];exact m
    .intro i E;exact e i (by omega)
def Cv(h:Rel H ω a w s){deep:Bool}{t:Ty}{l:L}{v:Value}{x:t.T}{C:S}{md:Md}(z:deep=false->md=.bQ)(r:bU w ω s v l)(b:bF (A:=real) deep t l s=some (x,C)):
  ∃d,Passes H ω a w s d C/\(deep=true->d=ω)/\t.R w d md v x:=by
 cases deep with
 |false=>rw[z rfl];obtain⟨d,p,q⟩:=wS h r b;exact⟨d,p,(λe=>by cases e),q⟩
 |true=>
  cases l with
  |val u y=>
   cases u with
   |sl e f=>cases t <;> cases b
   |map k=>cases t <;> cases b
   |_=>
    simp only[bF]at b;split at b
    .rename_i o;injection b with b
     injection b with m n
     subst m;subst n;obtain rfl:=Ty.eq_of_beq o;exact⟨ω,Passes.refl h,λ_=>rfl,r⟩
    .cases b
  |eI e f=>
   cases t with
   |sl M F=>
    simp only[bF]at b;split at b
    .rename_i o;injection b with b
     injection b with m n
     subst m;subst n;have:=Ty.eq_of_beq o;injection this with j G
     subst j;subst G;obtain⟨D,j⟩:=r;refine⟨ω,Passes.refl h,λ_=>rfl,D,0,0,j,rfl,aJ _,?_,λi E I=>absurd I (by omega)⟩;cases md with
     |bQ=>exact λJ=>absurd J (by omega)
     |flat _=>exact .inl ⟨rfl,rfl⟩
     |deep _=>exact .inl ⟨rfl,rfl⟩
    .cases b
   |_=>cases b
  |ref id g N p=>
   cases p with
   |cons _ _=>cases t <;> cases b
   |nil=>
    simp only[bF]at b;cases B:Nat.beq (s.ob id).g g with
    |false=>rw[B]at b;cases b
    |true=>
     rw[B]at b;simp only[az]at b;cases c:(s.ob id).o with
     |arr e f K y=>rw[c]at b;simp only at b;split at b <;> cases b
     |bQ e f y=>rw[c]at b;cases b
     |blk _=>rw[c]at b;cases b
     |gone=>rw[c]at b;cases b
     |mp _ _=>rw[c]at b;cases b
  |_=>cases t <;> cases b
def Cw{deep:Bool}{t:Ty}{l:L}{x:t.T}{s s':S}(a:bF (A:=real) deep t l s=some (x,s'))(j:Nat):s'.ob j=s.ob j\/∃e d y,(s'.ob j).o=.bQ e d y:=by
 cases l with
 |val u y=>cases u <;> cases deep <;> simp only[bF,aW,az]at a <;> first|(cases a;done)|(split at a <;> first|(cases a;done)|(injection a with a;injection a with _ c;subst c;exact .inl rfl))
 |eI e d=>
  cases t with
  |sl f i=>
   simp only[bF]at a;split at a
   .injection a with a;injection a with _ c;subst c;exact .inl rfl
   .cases a
  |_=>cases a
 |ref id g m p=>
  cases p with
  |cons _ _=>cases t <;> cases a
  |nil=>
   simp only[bF]at a;cases h:Nat.beq (s.ob id).g g with
   |false=>rw[h]at a;cases a
   |true=>
    rw[h]at a;simp only[az]at a;cases b:(s.ob id).o with
    |arr e d k y=>
     rw[b]at a;simp only at a;split at a
     .cases deep with
      |true=>cases a
      |false=>
       have a:=aG a;injection a with _ c
       subst c;by_cases f:j=id
       .subst f;exact .inr ⟨e,d,y,by rw[St.ay]⟩
       .exact .inl (St.aO _ _ _ f)
     .cases a
    |bQ e d y=>
     rw[b]at a;cases deep with
     |true=>cases a
     |false=>
      simp only[aW]at a;split at a
      .injection a with a;injection a with _ c;subst c;exact .inl rfl
      .cases a
    |blk _=>rw[b]at a;cases a
    |gone=>rw[b]at a;cases a
    |mp _ _=>rw[b]at a;cases a
 |_=>cases t <;> cases a
def lF{deep:Bool}{md:Nat->Md}(n:deep=false->∀j,md j=.bQ):∀(ls:List L) (C:List Value) (c:ar) (y D:c.T) (j:Nat) (g:Nat->Option Value) (f:aq) (s o:S),Rel H f a w s->aH (bU w f s) C ls->c.R w f md g 0 y ->
  aN (A:=real) deep c y j ls s=some (D,o) ->
  ∃p,Passes H f a w s p o/\(deep=true->p=f)/\(∀i,o.ob i=s.ob i\/∃e c y,(o.ob i).o=.bQ e c y) /\
   ∀m:Nat->Option Value,(∀k u,C[k]? = some u->m (j+k)=some u)->(∀i,i<j\/j+C.length<=i->m i=g i)->c.R w p md m 0 D
 |[],[],c,y,D,j,g,f,s,o,h,_,G,b=>by
  simp only[aN]at b;injection b with b
  injection b with Y d
  subst Y;subst d;refine⟨f,Passes.refl h,λ_=>rfl,λ_=>.inl rfl,λm _ d=>?_⟩;have:m=g:=funext λi=>d i (by simp;omega);rw[this];exact G
 |[],_::_,_,_,_,_,_,_,_,_,_,d,_,_=>d.elim
 |_::_,[],_,_,_,_,_,_,_,_,_,d,_,_=>d.elim
 |l::ls,u::C,c,y,D,j,g,f,s,o,h,d,G,b=>by
  simp only[aN]at b;cases T:cellAt (A:=real) c y j with
  |none=>rw[T]at b;cases b
  |some q=>
   obtain⟨t,y0⟩:=q;rw[T]at b;simp only at b;cases F:bF (A:=real) deep t l s with
   |none=>rw[F]at b;cases b
   |some q=>
    obtain⟨v,s1⟩:=q;rw[F]at b;simp only at b;cases M:setCell (A:=real) c y j ⟨t,v⟩with
    |none=>rw[M]at b;cases b
    |some U=>
     rw[M]at b;simp only at b;obtain⟨E,B,Q,r1⟩:=Cv (md:=md j) h (λe=>n e j) d.1 F;have J:c.R w E md g 0 y:=by
      cases deep with
      |true=>rw[Q rfl];exact G
      |false=>refine ar.bZ (aJ _) c md g g 0 y (λj=>?_) (λ_=>rfl) G;rw[n rfl j];exact B.ext.keeps
     have K:=rU c md g (λi=>if i=j then some u else g i) 0 j y U t v u J M (by rw[bC];exact r1) (by simp) (λi I=>by rw[bC]at I;simp[I]);obtain⟨P,p2,W,r,r2⟩:=lF n ls C c U D (j+1) _ E s1 o B.rel (d.2.mono λ_ _ Z=>bU.frame B.ext B.tr Z) K b;refine⟨P,B.trans p2,λe=>(W e).trans (Q e),λi=>?_,λm R X=>?_⟩
     .rcases r i with r|r
      .rcases Cw F i with O|⟨e,V,z,O⟩
       .exact .inl (r.trans O)
       .exact .inr ⟨e,V,z,by rw[r];exact O⟩
      .exact .inr r
     .refine r2 m (λk v' N=>?_) (λi I=>?_)
      .have:=R (k+1) v' (by simpa using N);rwa[show j+(k+1)=j+1+k by omega]at this
      .by_cases x:i=j
       .subst x;have:=R 0 u rfl;simpa using this
       .simp only[x,if_false];exact X i (by simp only[cK];omega)
def ku(a:Bool):(bif a then 2 else 1)≠0:=by cases a <;> decide
def s7:∀(a:ar) (y:a.T) (j:Nat) q,cellAt (A:=real) a y j=some q->j<a.len
 |.nil,_,_,_,h=>by cases h
 |.cons t ts,y,0,_,_=>by simp[ar.len]
 |.cons t ts,y,j+1,q,h=>by have:=s7 ts _ j q h;simp[ar.len];omega
def ko{deep:Bool}:∀(ls:List L) (a:ar) (y:a.T) (j:Nat) (s:S) q,aN (A:=real) deep a y j ls s=some q->ls=[]\/j+ls.length<=a.len
 |[],_,_,_,_,_,_=>.inl rfl
 |l::ls,a,y,j,s,q,h=>by
  simp only[aN]at h;cases b:cellAt (A:=real) a y j with
  |none=>rw[b]at h;cases h
  |some z=>
   obtain⟨t,i⟩:=z;have e:=s7 a y j _ b;rw[b]at h;simp only at h;cases c:bF (A:=real) deep t l s with
   |none=>rw[c]at h;cases h
   |some z=>
    obtain⟨v,f⟩:=z;rw[c]at h;simp only at h;cases d:setCell (A:=real) a y j ⟨t,v⟩with
    |none=>rw[d]at h;cases h
    |some g=>
     rw[d]at h;rcases ko ls a g (j+1) f q h with h|h
     .subst h;exact .inr (by simp;omega)
     .exact .inr (by simp only[cK];omega)
def pD{o:World}{md id b i:Nat}{d:ar}{g:Nat->Option Value}{y:d.T}(m:ω b=some (id,[]))(n:og w o b)(h:d.R w ω ((aI md id []).inner i) g 0 y):d.R o ω ((aI md id []).inner i) g 0 y:=by
 refine ar.bZ (by rw[n.size];exact aJ _) d _ _ _ 0 _ (λj c p l=>?_) (λ_=>rfl) h;have:c≠b:=by
  intro e;subst e;rcases l with l|⟨k,f,a⟩
  .rw[m]at l;cases l
  .rw[m]at f;injection f with f
   subst f;unfold aI at a;split at a
   .exact a.elim
   .exact a.elim
   .have:=a.2;simp[aC]at this
 exact⟨n.block c this,rfl⟩
def qN {E:World} {b id e:Nat} {d:ar} {f:Bool} {x x':List d.T} (U:id≠0) (hd:∀b k,ω b=some k->b<w.heap.size) (F:ω b=some (id,[])) (H:(s.ob id).o=.arr e d f x) (I:og w E b) (W:x'.length=x.length)
  (J:∀v,(Ty.sl e d).R w ω (aI (bif f then 2 else 1) id []) v x->(Ty.sl e d).R E ω (aI (bif f then 2 else 1) id []) v x') (j:Nat):Tr w ω s E ω (s.bq id true (.arr e d f x')) j:=by
 by_cases A:j=id
 .subst A;have m:((s.bq j true (.arr e d f x')).ob j).o=.arr e d f x':=by rw[St.ay]
  have n:((s.bq j true (.arr e d f x')).ob j).g=(s.ob j).g:=by rw[St.ay]
  have G:((s.bq j true (.arr e d f x')).ob j).h=(s.ob j).h+1:=by rw[St.ay];rfl
  have r:((s.bq j true (.arr e d f x')).ob j).h=bif true then(s.ob j).h+1 else(s.ob j).h:=G
  have t:∀(g h:Nat) (p:iU) (c:Cont real),h<=(s.ob j).h+(if g=(s.ob j).g then 0 else h)->(s.bq j true (.arr e d f x')).cont j g h p=some c->p=[]/\g=(s.ob j).g/\c=⟨e,d,x',bif f then 2 else 1⟩:=by
   intro g h p c B l;obtain⟨o,u⟩:=dz l;rw[n]at o;rw[cz o.symm]at B;rcases u with ⟨N,q,P,y⟩|⟨_,_,_,_,_,y,_⟩|⟨q,_,_⟩
   .rw[m]at q;refine⟨P,o.symm,?_⟩;obtain⟨ce,L,cx,M⟩:=c;simp only at q y;injection q with Q R S T
    subst Q;subst R;subst S;subst y;have:=vR T;rw[this]
   .rw[G]at y;omega
   .rw[m]at q;cases q
  exact
  {ref:=λv g h p a=>⟨by rw[n];exact a.1,by rw[n,r];exact gF true a.2.1,λc l=>by
    obtain⟨o,u,D⟩:=t g h p c a.2.1 l;subst o;subst D;exact J v (a.2.2 _ (bW (h:=h) H u))⟩
   ptr:=λv g C a=>⟨by rw[n];exact a.1,λ_ cells l=>by rw[m]at l;cases l⟩
   bH:=λv g h p i C a=>⟨by rw[n];exact a.1,by rw[n,r];exact gF true a.2.1,λc l hm=>by obtain⟨o,u,D⟩:=t g h p c a.2.1 l;subst o;subst D;obtain⟨X,Y,Z,K,r4⟩:=a.2.2 _ (bW (h:=h) H u) (ku f);refine⟨X,?_,Z,K,J K r4⟩;show IV.i i<((x'.length:Nat):Int);rw[W];exact Y⟩
   cD:=λv g a=>a.shut n λk x e=>by rw[m]at e;cases e }
 .refine gx.tr ⟨St.aO _ _ _ A,λc kk l z V=>?_⟩ (dc U F I) hd;have:c≠b:=λO=>by subst O;rw[F]at z;injection z with z;subst z;exact A V.symm
  exact⟨I.block c this,rfl⟩
def Rel.ue (h:Rel H ω a w s) {r:World} {b id e:Nat} {m:ar} {n:Bool} {x x':List m.T} (k:ω b=some (id,[])) (q:(s.ob id).o=.arr e m n x) (f:og w r b) (t:x'.length=x.length)
  (u:∀v,(Ty.sl e m).R w ω (aI (bif n then 2 else 1) id []) v x->(Ty.sl e m).R r ω (aI (bif n then 2 else 1) id []) v x') (g:id≠0:=h.pR (by rw[q];exact λe=>by cases e)):Rel H ω a r (s.bq id true (.arr e m n x')) where
 dH:=h.dH.ext (dc g k f)
 inj:=h.inj
 dom c kk d:=by rw[f.size];exact h.dom c kk d
 defers:=h.defers
 dJ:=by rw[St.aO _ _ _ (c6 g)];exact h.dJ
 slots i:=cQ.frame (dc g k f) (qN g h.dom k q f t u) (h.slots i)
 c7 j cells hc:=by
  by_cases o:j=id
  .subst o;rw[St.ay]at hc;cases hc
  .rw[St.aO _ _ _ o]at hc;obtain⟨c,l,y,d,A,B⟩:=h.c7 j cells hc;have:c≠b:=λz=>by subst z;rw[k]at d;injection d with d;injection d with d;exact o d.symm
   exact⟨c,l,y,d,(f.block c this).trans A,B.mono λ_ _ p=>bU.frame (dc g k f) (qN g h.dom k q f t u) p⟩
def CB {q:World} {b id e md:Nat} {c:ar} {x x':List c.T} {arr kM:Array Value} (N:md≠0) (p:∀b B k,ω b=some k->ω B=some k->b=B) (C:ω b=some (id,[])) (o:q.heap[b]? = some (.cells kM e (0,0))) (P:kM.size=arr.size)
  (K:w.heap[b]? = some (.cells arr e (0,0))) (M:x'.length=x.length)
  (u:∀i,i<x.length->c.R q ω ((aI md id []).inner i) (λj=>kM[i*c.len+j]?) 0 (x'.getD i (jk c))) (v:Value) (h:(Ty.sl e c).R w ω (aI md id []) v x):(Ty.sl e c).R q ω (aI md id []) v x':=by
 obtain⟨l,n,m,D,E,F,G,T⟩:=h;subst E;have y:∀ {a:Md},(a=.flat (id,[])\/a=.deep (id,[]))->Hd w ω e c.len a l x.length m->Hd q ω e c.len a l x.length m/\(0<x.length->l=some ⟨b,0,none⟩):=by
  intro a f J;have t:(m=0/\x.length=0)\/∃b arr,l=some ⟨b,0,none⟩/\w.heap[b]? = some (.cells arr e (0,0))/\arr.size=m*c.len/\ω b=some (id,[]):=by rcases f with rfl|rfl <;> exact J
  rcases t with ⟨r,d⟩|⟨S,z,r,d,H,I⟩
  .refine⟨?_,λO=>absurd O (by omega)⟩;rcases f with rfl|rfl <;> exact .inl ⟨r,d⟩
  .obtain rfl:=p _ _ _ C I;rw[K]at d;injection d with d
   injection d with d
   subst d;refine⟨?_,λ_=>r⟩;rcases f with rfl|rfl <;> exact .inr ⟨b,kM,r,o,by rw[P];exact H,C⟩
 have g:aI md id []=.flat (id,[])\/aI md id []=.deep (id,[]):=by
  match md,N with
  |1,_=>exact .inl rfl
  |n+2,_=>exact .inr rfl
 obtain⟨Q,R⟩:=y g G;refine⟨l,x.length,m,D,M,F,Q,λi A L s=>?_⟩;rw[R (by omega)]at s;injection s with s
 subst s;refine ar.fq c _ _ _ 0 _ (λj _=>?_) (u i L);simp only[bC];rw[cell_of_row q b _ kM e (0,0) o]
def yf{t:Nat}{p v:Operand}(c:o.op=.store t p v){b:World}(h:(Instr.storeAt t (a.eval p) (a.eval v)).run P w=.ok () b):(execOp a.eval o).run P w=.ok .skip b:=by unfold execOp;simp only[c];rw[Sem.run_bind,h];rfl
def qT{b:aq}{c:World}{e:S}(h:Rel H b a c e)(f:cH ω w b c)(hd:∀d,o.dst=some d->d<a.tmps.size)(g:k (e.bI o.dst (.one .undef))=some r):
  Ends H ω a w o.dst k r (a.put o.dst undef) c:=dV h f hd (t:=.one .undef) rfl g
def lC{α:Type}(x:List α)(i j:Nat)(y z:α)(a:i<x.length):(x.set i y).getD j z=if j=i then y else x.getD j z:=by
 rw[dG,List.getElem?_set];split
 .rename_i h;subst h;rw[cz rfl];rfl
 .rename_i h;rw[bc (c6 h),<-dG]
def nW{α:Type}(x:List α)(i:Nat)(z:α)(a:i<x.length):x.set i (x.getD i z)=x:=by rw[dG,bR a];simp
def AM (h:Rel H ω a w s) {t:Nat} {I:TypeInfo} (hI:P.info? t=some I) {p v:Value} {ls:List L} {s1:S} {id g hh e:Nat} {c:ar} {deep:Bool} {x:real.V (.sl e c)} {i:IV} {off:Nat} (hp:bU w ω s p (.bH id g hh [] i off)) (hv:aH (bU w ω s) v.cells.toList ls) (h1:∀u∈v.cells.toList,u.oneCell'=true) (hsz:ls.length=I.size)
  (V:(s.ob id).g=g) (J:(s.ob id).o=.arr e c deep x)
  (E:(match aN (A:=real) deep c (real.get x i) off ls s with
   |some (K,s1)=>(match(s1.ob id).o with
    |.arr ..=>some (s1.bq id true (.arr e c deep (real.put x i K)))
    |_=>none)
   |none=>none)=some s1):∃cu w',(Instr.storeAt t p v).run P w=.ok () w'/\Rel H cu a w' s1/\cH ω w cu w':=by
 have hcl:v.cells.size=ls.length:=by rw[<-hv.length];simp
 cases f:aN (A:=real) deep c (real.get x i) off ls s with
 |none=>rw[f]at E;cases E
 |some q=>
  obtain⟨K,s2⟩:=q;rw[f]at E;simp only at E;have hc:=bW (h:=hh) J V.symm;obtain⟨q1,q2,⟨b,q3,q4⟩,v',q5⟩:=hp.2.2 _ hc (ku deep);simp only at q1 q2 q4 q5;obtain⟨b',arr,cp,c1,O,c3,c4,c5,_⟩:=rH (s:=s) hc (ku deep) q5 i q1 q2;obtain rfl:=h.inj _ _ _ q3 c1;simp only at O c3 c4 c5;have r:∀d,d<List.length x->c.R w ω ((aI (bif deep then 2 else 1) id []).inner d) (λj=>arr[d*c.len+j]?) 0 (List.getD x d (jk c)):=by
   intro d k;obtain⟨ad,n,F3,d1,d2,d3,d4,d5⟩:=q5;rw[c5]at d1;injection d1 with d1 d1' HB
   have:=d5 d ⟨b,0,none⟩ (by omega) d1.symm;refine ar.fq c _ _ _ 0 _ (λj _=>?_) this;simp only[bC];rw[cell_of_row w b _ arr e (0,0) O]
  have hi:(IV.i i).toNat<List.length x:=by omega
  obtain⟨U,Z,o1,Y,r2⟩:=lF (md:=(aI (bif deep then 2 else 1) id []).inner (IV.i i).toNat) (λe=>by subst e;exact λ_=>rfl) ls v.cells.toList c _ K off _ ω s s2 h hv (r _ hi) f;have N:s2.ob id=s.ob id:=by
   rcases Y id with Y|⟨e',c',z,Y⟩
   .exact Y
   .rw[Y]at E;cases E
  have l:(s2.ob id).o=.arr e c deep x:=by rw[N];exact J
  rw[l]at E;simp only at E;have E:=aG E;subst E;have B:U b=some (id,[]):=by
   have:=(Z.tr id).bH p g hh [] i off hp;obtain⟨_,_,⟨b2,t1,G⟩,_⟩:=this.2.2 _ (bW (h:=hh) l (by rw[N];exact V.symm)) (ku deep);rw[q4]at G;injection G with G
   injection G with G
   injection G with G
   rw[G];exact t1
  have T:∀d,d<List.length x->c.R w U ((aI (bif deep then 2 else 1) id []).inner d) (λj=>arr[d*c.len+j]?) 0 (List.getD x d (jk c)):=by
   intro d k;cases deep with
   |true=>rw[o1 rfl];exact r d k
   |false=>exact ar.bZ (aJ _) c _ _ _ 0 _ (λ_=>Z.ext.keeps) (λ_=>rfl) (r d k)
  have Q:=ko ls c _ off s _ f;have hbase:(IV.i i).toNat*c.len+c.len<=arr.size:=by rw[c3];have:((IV.i i).toNat+1)*c.len<=cp*c.len:=iM _ (by omega);rw[gh]at this;exact this
  have hvl:v.cells.toList.length=ls.length:=hv.length;by_cases M:ls=[]
  ·-- nothing is stored
   subst M;have FK:v.cells.toList=[]:=e9.1 hvl;simp only[aN]at f;injection f with f
   injection f with t1 G
   subst G;have y:(Instr.storeAt t p v).run P w=.ok () w:=by
    have X:v.cells.size=I.size:=by omega
    rw[q4];simp[Instr.storeAt,Instr.sureAddr,storeVar,sizeOf,typeInfo,hI,X,FK,storeCells]
   refine⟨ω,w,y,?_,cH.refl _ _⟩;refine h.ue q3 J (og.refl w b) (x':=real.put x i K) jw ?_;refine CB (arr:=arr) (kM:=arr) (ku deep) h.inj q3 O rfl O jw (λd k=>?_);have:real.put x i K=x:=by rw[<-t1];exact nW x _ _ hi
   rw[this];exact r d k
  .have hfit:off+ls.length<=c.len:=Q.resolve_left M;have C:(IV.i i).toNat*c.len+off+v.cells.toList.length<=arr.size:=by omega
   obtain⟨kM,z1,z2⟩:=dQ b e (0,0) v.cells.toList ((IV.i i).toNat*c.len+off) w arr O C;have o:=dL b v.cells.toList ((IV.i i).toNat*c.len+off) w;have y:=j4 (P:=P) hI O (v:=v) (off:=(IV.i i).toNat*c.len+off) (by omega) (by simpa using C) h1;rw[<-q4]at y;refine⟨U,_,y,?_,Z.ext.trans (dc (h.pR (by rw[J];exact λe=>by cases e)) B o)⟩;have hal:arr.toList.length=arr.size:=gv;have W:kM.size=arr.size:=by rw[<-gv (xs:=kM),z2];simp only[cR,dB,kg];omega
   have D:∀m,kM[m]? = if m<(IV.i i).toNat*c.len+off then arr[m]? else if m<(IV.i i).toNat*c.len+off+v.cells.toList.length then v.cells.toList[m-((IV.i i).toNat*c.len+off)]? else arr[m]?:=by
    intro m;have F:(arr.toList.take ((IV.i i).toNat*c.len+off)).length=(IV.i i).toNat*c.len+off:=by rw[dB];omega
    rw[<-cZ,z2];split
    .rename_i R;rw[iD,iV (by rw[F];exact R),jv R,cZ]
    .split
     .rw[iD,kH (by rw[F];omega),F,iV (by omega)]
     .rw[kH (by rw[cR,F];omega),cR,F,pZ,cZ];congr 1;omega
   refine Z.rel.ue B l o (x':=real.put x i K) jw ?_;refine CB (arr:=arr) (kM:=kM) (ku deep) Z.rel.inj B z1 W O jw (λd k=>?_);have Fb:List.getD (real.put x i K:List c.T) d (jk c)=if d=(IV.i i).toNat then K else List.getD x d (jk c):=lC x _ _ _ _ hi
   rw[Fb];split
   .rename_i he;subst he;refine pD B o (r2 _ (λkk u hu=>?_) (λm R=>?_))
    .have hk:kk<v.cells.toList.length:=(l6.1 hu).1;show _=_;rw[D,bc (by omega),cz (by omega),<-hu];congr 1;omega
    .show _=_;rw[D];rcases R with R|R
     .rw[cz (by omega)]
     .rw[bc (by omega),bc (by omega)]
   .rename_i he;refine pD B o (ar.fq c _ _ _ 0 _ (λm R=>?_) (T d k));rw[bC,D];rcases Nat.lt_or_gt_of_ne he with hlt|hgt
    .have:(d+1)*c.len<=(IV.i i).toNat*c.len:=iM _ hlt;rw[gh]at this;rw[cz (by omega)]
    .have:((IV.i i).toNat+1)*c.len<=d*c.len:=iM _ hgt;rw[gh]at this;rw[bc (by omega),bc (by omega)]
end
def Md.On:Md->Nat->Prop
 |.bQ,_=>True
 |.flat k,i=>k.1=i
 |.deep k,i=>k.1=i
def Md.to:Md->Nat->Md
 |.bQ,_=>.bQ
 |.flat k,j=>.flat (j,k.2)
 |.deep k,j=>.deep (j,k.2)
def Md.Cu{c:Md}{i:Nat}(h:c.On i)(a b:Nat):(c.inner a b).On i:=by
 cases c with
 |bQ=>trivial
 |flat _=>trivial
 |deep _=>exact h
def Md.CL(c:Md)(j a b:Nat):(c.inner a b).to j=(c.to j).inner a b:=by cases c <;> rfl
structure Names (w:World) (ω cu:aq) (i j:Nat):Prop where
 none:∀b,b<w.heap.size->ω b=none->cu b=none
 own:∀b p,b<w.heap.size->ω b=some (i,p)->cu b=some (j,p)
def Hd.map{w:World}{t l:aq}{i j:Nat}(q:Names w t l i j){e sz:Nat}{m:Md}(s:m.On i){a:Option Addr}{n c:Nat}(h:Hd w t e sz m a n c):Hd w l e sz (m.to j) a n c:=by
 cases m with
 |bQ=>intro u;obtain⟨b,r,g,d,f⟩:=h u;exact⟨b,r,g,q.none b f d,f⟩
 |flat k=>
  rcases h with h|⟨b,arr,g,d,f,p⟩
  .exact .inl h
  .have o:k.1=i:=s;exact .inr ⟨b,arr,g,d,f,q.own b k.2 (aM d) (by rw[p,<-o])⟩
 |deep k=>
  rcases h with h|⟨b,arr,g,d,f,p⟩
  .exact .inl h
  .have o:k.1=i:=s;exact .inr ⟨b,arr,g,d,f,q.own b k.2 (aM d) (by rw[p,<-o])⟩
mutual
def Ty.vF{w:World}{r f:aq}{i j:Nat}(q:Names w r f i j):∀(t:Ty) (d:Md) (v:Value) (x:t.T),d.On i->t.R w r d v x->t.R w f (d.to j) v x
 |.int _,_,_,_,_,h=>h
 |.bool,_,_,_,_,h=>h
 |.str,_,_,_,_,h=>h
 |.map k,d,_,_,_,h=>by
  rcases h with h|⟨l,b,y,c,m,o,g,p⟩
  .exact .inl h
  .subst l;exact .inr ⟨rfl,b,y,c,m,q.none b g o,g,p⟩
 |.sl e u,d,v,x,l,h=>by obtain⟨a,n,c,m,o,g,p,z⟩:=h;refine⟨a,n,c,m,o,g,p.map q l,λk s B A=>?_⟩;have:=ar.vF q u (d.inner k) _ 0 _ (λb=>Md.Cu l k b) (z k s B A);have e:(λb=>(d.inner k b).to j)=(d.to j).inner k:=funext λb=>Md.CL d j k b;rw[e]at this;exact this
def ar.vF{w:World}{l c:aq}{i j:Nat}(f:Names w l c i j):∀(d:ar) (a:Nat->Md) (g:Nat->Option Value) (k:Nat) (x:d.T),(∀b,(a b).On i)->d.R w l a g k x->d.R w c (λb=>(a b).to j) g k x
 |.nil,_,_,_,_,_,_=>trivial
 |.cons t ts,a,g,k,x,e,h=>by obtain⟨⟨v,m,n⟩,o⟩:=h;exact⟨⟨v,m,Ty.vF f t (a k) v _ (e k) n⟩,ar.vF f ts a g (k+1) _ e o⟩
end
def Au(m i:Nat)(p:iU):(aI m i p).On i:=by unfold aI;split <;> first|trivial|rfl
def Av(m i j:Nat):(aI m i []).to j=aI m j []:=by unfold aI;split <;> rfl
def xG{w:World}{c a:aq}{i j m e:Nat}{b:ar}{v:Value}{x:List b.T}(d:Names w c a i j)(h:(Ty.sl e b).R w c (aI m i []) v x):(Ty.sl e b).R w a (aI m j []) v x:=by have:=Ty.vF d (.sl e b) _ v x (Au m i []) h;rw[Av]at this;exact this
def vE{w:World}{d c:aq}{t:Ty}{v:Value}{x:t.T}(f:∀b,b<w.heap.size->d b=none->c b=none)(h:t.R w d .bQ v x):t.R w c .bQ v x:=
 Ty.hM t .bQ v x (λb e a=>by
  rcases a with a|⟨k,_,a⟩
  .exact f b e a
  .exact a.elim) h
def eU{w:World}{f:aq}{i e:Nat}{b:ar}{v:Value}{x:List b.T}{d Fw:Bool}(hd:d=Fw\/b.plain=true)(h:(Ty.sl e b).R w f (aI (bif d then 2 else 1) i []) v x):
  (Ty.sl e b).R w f (aI (bif Fw then 2 else 1) i []) v x:=by
 rcases hd with rfl|s
 .exact h
 .obtain⟨a,n,c,j,l,m,o,p⟩:=h;refine⟨a,n,c,j,l,m,?_,λk g r q=>ar.fZ b _ _ _ 0 _ s (p k g r q)⟩;cases d <;> cases Fw <;> exact o
def nD{w:World}{f:aq}{e:Nat}{b:ar}{a:Option Addr}{c:Bool}{i:Nat}:(Ty.sl e b).R w f (aI (bif c then 2 else 1) i []) (.slice a 0 0) ([]:List b.T):=⟨a,0,0,rfl,rfl,aJ _,qq,λi _ d=>absurd d (by omega)⟩
def DS(w:World)(a:aq)(id:Nat)(v:KV real)(u:Value):Prop:=
 match v with
 |⟨.val t,x⟩=>t.R w a .bQ u x
 |⟨.arr e f g,x⟩=>(Ty.sl e f).R w a (aI (bif g then 2 else 1) id []) u x
 |⟨.mp k,x⟩=>∃b d c,a b=some (id,[])/\u=.map (some b)/\w.heap[b]? = some (.map d c)/\AW k d.toList x
def fp(w:World)(a:aq):Nat->List (KV real)->List Value->Prop
 |_,[],[]=>True
 |id,v::c,u::b=>DS w a id v u/\fp w a (id+1) c b
 |_,_,_=>False
def fp.length{w:World}{c:aq}:∀ {id:Nat} {b:List (KV real)} {a:List Value},fp w c id b a->b.length=a.length
 |_,[],[],_=>rfl
 |_,_::_,_::_,h=>by simp[fp.length h.2]
 |_,[],_::_,h=>h.elim
 |_,_::_,[],h=>h.elim
def fp.iP{w:World}{d:aq}:∀ {id:Nat} {b:List (KV real)} {e:List Value} {a:List (KV real)} {c:List Value},fp w d id b e->fp w d (id+b.length) a c->fp w d id (b++a) (e++c)
 |_,[],[],_,_,_,h=>h
 |id,v::b,_::_,a,_,h,f=>⟨h.1,fp.iP h.2 (by rw[cK]at f;rwa[show id+1+b.length=id+(b.length+1)by omega])⟩
 |_,[],_::_,_,_,h,_=>h.elim
 |_,_::_,[],_,_,h,_=>h.elim
structure bT (w:World) (ω:aq) (s:S) (eD:aq) (s1:S) (m:List (Nat×Nat)) (lo hi:Nat):Prop where
 nz:∀i j,(i,j)∈m->i≠0
 was:∀i j,(i,j)∈m->(s.ob i).o≠.gone
 is:∀i j,(i,j)∈m->(s1.ob i).o=.gone
 oh:∀i j,(i,j)∈m->lo<=j/\j<hi
 inj:∀i i' j,(i,j)∈m->(i',j)∈m->i=i'
 fn:∀i j j',(i,j)∈m->(i,j')∈m->j=j'
 gone:∀i,(s.ob i).o=.gone->(s1.ob i).o=.gone/\∀b p,ω b=some (i,p)->eD b=some (i,p)
 back:∀b k,eD b=some k->ω b=some k
def bT.none{w:World}{d:aq}{s:S}{a:aq}{i:S}{m:List (Nat×Nat)}{g e:Nat}(h:bT w d s a i m g e)(b:Nat)(c:d b=none):a b=none:=by
 cases f:a b with
 |none=>rfl
 |some k=>rw[h.back b k f]at c;cases c
def bT.refl(w:World)(a:aq)(s:S)(c b:Nat):bT w a s a s [] c b:=
 {nz:=λ_ _ h=>nomatch h
  was:=λ_ _ h=>nomatch h
  is:=λ_ _ h=>nomatch h
  oh:=λ_ _ h=>nomatch h
  inj:=λ_ _ _ h=>nomatch h
  fn:=λ_ _ _ h=>nomatch h
  gone:=λ_ h=>⟨h,λ_ _ h=>h⟩
  back:=λ_ _ h=>h }
def bT.trans {w:World} {v:aq} {s:S} {g:aq} {t:S} {m:List (Nat×Nat)} {q mid o:Nat} {l:aq} {u:S} {r:List (Nat×Nat)} (y:q<=mid) (x:mid<=o)
  (h:bT w v s g t m q mid) (c:bT w g t l u r mid o):bT w v s l u (m++r) q o where
 nz i j a:=(cg.1 a).elim (h.nz i j) (c.nz i j)
 was i j a:=(cg.1 a).elim (h.was i j) (λa e=>c.was i j a (h.gone i e).1)
 is i j a:=(cg.1 a).elim (λa=>(c.gone i (h.is i j a)).1) (c.is i j)
 oh i j a:=(cg.1 a).elim (λa=>⟨(h.oh i j a).1,gf (h.oh i j a).2 x⟩) (λa=>⟨iN y (c.oh i j a).1,(c.oh i j a).2⟩)
 inj i i' j d f:=by
  rcases cg.1 d with d|d <;> rcases cg.1 f with f|f
  .exact h.inj i i' j d f
  .exact absurd (gf (h.oh i j d).2 (c.oh i' j f).1) (eL _)
  .exact absurd (gf (h.oh i' j f).2 (c.oh i j d).1) (eL _)
  .exact c.inj i i' j d f
 fn i j j' d f:=by
  rcases cg.1 d with d|d <;> rcases cg.1 f with f|f
  .exact h.fn i j j' d f
  .exact absurd (h.is i j d) (c.was i j' f)
  .exact absurd (h.is i j' f) (c.was i j d)
  .exact c.fn i j j' d f
 gone i hg:=⟨(c.gone i (h.gone i hg).1).1,λb p n=>(c.gone i (h.gone i hg).1).2 b p ((h.gone i hg).2 b p n)⟩
 back b k n:=h.back b k (c.back b k n)
structure di (ω:aq) (s:S) (eD:aq) (s1:S):Prop where
 gone:∀i,(s.ob i).o=.gone->(s1.ob i).o=.gone/\∀b p,ω b=some (i,p)->eD b=some (i,p)
 back:∀b k,eD b=some k->ω b=some k
def bT.later{w:World}{c:aq}{s:S}{a:aq}{b:S}{m:List (Nat×Nat)}{e d:Nat}(h:bT w c s a b m e d):di c s a b:=⟨h.gone,h.back⟩
def di.refl(a:aq)(s:S):di a s a s:=⟨λ_ h=>⟨h,λ_ _ h=>h⟩,λ_ _ h=>h⟩
def di.trans{g a c:aq}{s s1 s2:S}(h:di g s a s1)(d:di a s1 c s2):di g s c s2:=⟨λi f=>⟨(d.gone i (h.gone i f).1).1,λb p e=>(d.gone i (h.gone i f).1).2 b p ((h.gone i f).2 b p e)⟩,λb k e=>h.back b k (d.back b k e)⟩
def di.none{d:aq}{s:S}{a:aq}{f:S}(h:di d s a f)(b:Nat)(c:d b=none):a b=none:=by
 cases e:a b with
 |none=>rfl
 |some k=>rw[h.back b k e]at c;cases c
structure fJ (w:World) (eD cu:aq) (m:List (Nat×Nat)):Prop where
 none:∀b,b<w.heap.size->eD b=none->cu b=none
 own:∀i j,(i,j)∈m->∀b p,b<w.heap.size->eD b=some (i,p)->cu b=some (j,p)
def fJ.left{w:World}{b a:aq}{m m':List (Nat×Nat)}(h:fJ w b a (m++m')):fJ w b a m:=⟨h.none,λi j c=>h.own i j (cg.2 (.inl c))⟩
def fJ.right{w:World}{b a:aq}{m m':List (Nat×Nat)}(h:fJ w b a (m++m')):fJ w b a m':=⟨h.none,λi j c=>h.own i j (cg.2 (.inr c))⟩
section
variable {R:Type}{P:Program}{E:Env}{ω:aq}{a:Act}{w:World}{s:S}{k:S->Option R}{r:R}{o:Oper}{Q:Exit->Act->World->Prop}
def zf(h:Rel H ω a w s){e:Nat}{f:ar}{deep:Bool}{l:L}{u:Value}{x:List f.T}{v:S}(z:bU w ω s u l)(b:eB (A:=real) e f deep l s=some (x,v)):
  (v=s/\x=[]/\∃B,u=.slice B 0 0) \/
  ∃id g m d,l=.ref id g m []/\g=(s.ob id).g/\(s.ob id).o=.arr e f d x/\v=s.bq id true .gone/\(Ty.sl e f).R w ω (aI (bif d then 2 else 1) id []) u x/\(d=deep\/f.plain=true):=by
 cases l with
 |eI C i=>
  simp only[eB]at b;split at b
  .rename_i r;have:=Ty.eq_of_beq r;injection this with n o
   subst n;subst o;injection b with b
   injection b with j q
   exact .inl ⟨q.symm,j.symm,z⟩
  .cases b
 |ref id g m p=>
  cases p with
  |cons _ _=>cases b
  |nil=>
   simp only[eB]at b;cases t:Nat.beq (s.ob id).g g with
   |false=>rw[t]at b;cases b
   |true=>
    rw[t]at b;simp only[az]at b;have k:=bn t;cases c:(s.ob id).o with
    |arr C i d y=>
     rw[c]at b;simp only at b;cases hd:(d==deep||i.plain)with
     |false=>rw[hd]at b;cases b
     |true=>
      rw[hd]at b;simp only[az]at b;split at b
      .rename_i r;have:=Ty.eq_of_beq r;injection this with n o
       subst n;subst o;have b:=aG b;injection b with j q
       have j:y=x:=j;subst j;refine .inr ⟨id,g,m,d,rfl,k.symm,c,q.symm,z.2.2 _ (bW (h:=m) c k.symm),?_⟩;rw[gd,beq_iff_eq]at hd;exact hd
      .cases b
    |bQ _ _ _=>rw[c]at b;cases b
    |blk _=>rw[c]at b;cases b
    |gone=>rw[c]at b;cases b
    |mp _ _=>rw[c]at b;cases b
 |_=>cases b
def Es{k:IntKind}{l:L}{u:Value}{x:real.V (.sl 0 (ar.mp k))}{m:S}(p:bU w ω s u l)(a:uM (A:=real) k l s=some (x,m)):
  ∃id,(s.ob id).o=.mp k x/\m=s.bq id true .gone/\∃b j c,ω b=some (id,[])/\u=.map (some b)/\w.heap[b]? = some (.map j c)/\AW k j.toList x:=by
 cases l with
 |cD id g=>
  simp only[uM]at a;cases h:Nat.beq (s.ob id).g g with
  |false=>rw[h]at a;cases a
  |true=>
   rw[h]at a;simp only[az]at a;have i:=bn h;cases d:(s.ob id).o with
   |mp q y=>
    rw[d]at a;simp only at a;split at a
    .rename_i f;have:=Ty.eq_of_beq f;have o:q=k:=by simp only[Ty.beq,ar.beq,ar.mp,aQ,sR]at f;exact f.2.1
     subst o;have a:=aG a;injection a with e n
     have e:y=x:=e;subst e;exact⟨id,d,n.symm,p.2 i _ _ d⟩
    .cases a
   |arr _ _ _ _=>rw[d]at a;cases a
   |bQ _ _ _=>rw[d]at a;cases a
   |blk _=>rw[d]at a;cases a
   |gone=>rw[d]at a;cases a
 |_=>cases a
def rf{id lo:Nat}(h:Rel H ω a w s)(d:(s.ob id).o≠.gone):bT w ω s ω (s.bq id true .gone) [(id,lo)] lo (lo+1) where
 nz i j hm:=by
  rw[eK]at hm;injection hm with b c
  subst b;exact h.pR d
 was i j hm:=by
  rw[eK]at hm;injection hm with b c
  subst b;exact d
 is i j hm:=by
  rw[eK]at hm;injection hm with b c
  subst b;rw[St.ay]
 oh i j hm:=by
  rw[eK]at hm;injection hm with b c
  subst c;exact⟨aJ _,fK _⟩
 inj i i' j b c:=by
  rw[eK]at b c;injection b with b _
  injection c with c _
  rw[b,c]
 fn i j j' b c:=by
  rw[eK]at b c;injection b with _ b
  injection c with _ c
  rw[b,c]
 gone i hg:=by
  refine⟨?_,λ_ _ h=>h⟩;by_cases e:i=id
  .subst e;exact absurd hg d
  .rw[St.aO _ _ _ e];exact hg
 back _ _ h:=h
def Passes.BV(h:Rel H ω a w s)(id:Nat):Passes H ω a w s ω (s.bq id true .gone):=⟨h.gone id true,cH.refl _ _,uH h.dom true⟩
def yB{t:Ty}{l:L}{v:Value}{x:t.T}{n:S}(h:Rel H ω a w s)(C:bU w ω s v l)(D:bF (A:=real) false t l s=some (x,n))(o:Nat):
  ∃c,Passes H ω a w s c n/\bT w ω s c n [] o o/\t.R w c .bQ v x:=by
 obtain⟨c,u,z,B⟩:=rI h C D;refine⟨c,u,?_,z⟩;rcases B with ⟨f,g⟩|⟨id,e,E,F,y,f,g,r⟩
 .subst f;subst g;exact bT.refl _ _ _ _ _
 .subst g;subst r;exact
  {nz:=λ_ _ h=>nomatch h
   was:=λ_ _ h=>nomatch h
   is:=λ_ _ h=>nomatch h
   oh:=λ_ _ h=>nomatch h
   inj:=λ_ _ _ h=>nomatch h
   fn:=λ_ _ _ h=>nomatch h
   gone:=λi m=>by
    have d:i≠id:=λq=>by subst q;rw[f]at m;cases m
    exact⟨by rw[St.aO _ _ _ d];exact m,λb p j=>aq.dM j d⟩
   back:=λb k j=>(aq.dA j).1 }
def CJ(h:Rel H ω a w s){B:K}{l:L}{u:Value}{v:KV real}{J:S}(N:bU w ω s u l)(d:cI B l s=some (v,J))(n:Nat):
  ∃r m,Passes H ω a w s r J/\bT w ω s r J m n (n+1)/\v.1=B/\(B.ni=true->m=[])/\∀k C f,di r J k C->fJ w k f m->DS w f n v u:=by
 cases B with
 |val t=>
  simp only[cI]at d;cases j:bF (A:=real) false t l s with
  |none=>rw[j]at d;cases d
  |some q=>
   obtain⟨x,C⟩:=q;rw[j]at d;have d:=aG d;injection d with F G
   subst F;subst G;obtain⟨f,Z,p2,p3⟩:=yB h N j n;refine⟨f,[],Z,?_,rfl,λ_=>rfl,λk s3 Q y z=>vE (λb I O=>z.none b I (y.none b O)) p3⟩;exact { p2 with oh:=λ_ _ h=>nomatch h }
 |arr e R deep=>
  simp only[cI]at d;cases j:eB (A:=real) e R deep l s with
  |none=>rw[j]at d;cases d
  |some q=>
   obtain⟨x,C⟩:=q;rw[j]at d;have d:=aG d;injection d with F G
   subst F;subst G;rcases zf h N j with ⟨D,E,ad,M⟩|⟨id,g,hh,dp,e0,eg,D,E,M,T⟩
   .subst D;subst E;subst M;exact⟨ω,[],Passes.refl h,bT.refl _ _ _ _ _,rfl,λ_=>rfl,λ_ _ _ _ _=>nD⟩
   .subst E;have o:(s.ob id).o≠.gone:=by rw[D];exact λe=>by cases e
    refine⟨ω,[(id,n)],Passes.BV h id,rf h o,rfl,λe=>(by cases e),λk C f y z=>?_⟩;refine eU T (xG (i:=id) ⟨λb I O=>z.none b I (y.none b O),λb p I Y=>?_⟩ M);exact z.own id n (by simp) b p I ((y.gone id (by rw[St.ay])).2 b p Y)
 |mp B=>
  simp only[cI]at d;cases j:uM (A:=real) B l s with
  |none=>rw[j]at d;cases d
  |some q=>
   obtain⟨x,C⟩:=q;rw[j]at d;have d:=aG d;injection d with F G
   subst F;subst G;obtain⟨id,D,E,b,U,c,P,V,W,X⟩:=Es N j;subst E;have o:(s.ob id).o≠.gone:=by rw[D];exact λe=>by cases e
   refine⟨ω,[(id,n)],Passes.BV h id,rf h o,rfl,λe=>(by cases e),λk C f y z=>?_⟩;exact⟨b,U,c,z.own id n (by simp) b [] (h.dom _ _ P) ((y.gone id (by rw[St.ay])).2 b [] P),V,W,X⟩
def gq:∀(ks:List K) (ls:List L) (n:List Value) (g:aq) (s:S) (o:List (KV real)) (j:S) (e:Nat),Rel H g a w s->aH (bU w g s) n ls->takes ks ls s=some (o,j) ->
  ∃d m,Passes H g a w s d j/\bT w g s d j m e (e+ks.length)/\o.map (·.1)=ks/\((∀k∈ks,k.ni=true)->m=[])/\∀f t c,di d j f t->fJ w f c m->fp w c e o n
 |[],[],n,g,s,o,j,e,h,i,b=>by
  injection b with b
  injection b with x y
  subst x;subst y;cases n with
  |cons _ _=>exact i.elim
  |nil=>exact⟨g,[],Passes.refl h,bT.refl _ _ _ _ _,rfl,λ_=>rfl,λ_ _ _ _ _=>trivial⟩
 |k::ks,l::ls,[],_,_,_,_,_,_,i,_=>i.elim
 |k::ks,l::ls,u::n,g,s,o,j,e,h,i,b=>by
  simp only[takes]at b;cases z:cI k l s with
  |none=>rw[z]at b;cases b
  |some q=>
   obtain⟨v,t⟩:=q;rw[z]at b;simp only at b;cases A:takes ks ls t with
   |none=>rw[A]at b;cases b
   |some R=>
    obtain⟨C,V⟩:=R;rw[A]at b;injection b with b
    injection b with x y
    subst x;subst y;obtain⟨d,m1,r,J,W,O,T⟩:=CJ h i.1 z e;obtain⟨f,m2,Q,D,X,P,U⟩:=gq ks ls n d t C V (e+1) r.rel (i.2.mono λ_ _ M=>bU.frame r.ext r.tr M) A;refine⟨f,m1++m2,r.trans Q,?_,by simp[W,X],λF=>by rw[O (F k (by simp)),P (λN B=>F N (by simp[B]))];rfl,λp I c E G=>⟨T p I c (D.later.trans E) G.left,U p I c E G.right⟩⟩;have:=bT.trans (ot _) (kG _ _) J D;rwa[show e+1+ks.length=e+(k::ks).length by simp;omega]at this
 |[],_::_,_,_,_,_,_,_,_,_,b=>by cases b
 |_::_,[],_,_,_,_,_,_,_,_,b=>by cases b
end
end Go.R
namespace Go.R
variable {H:Nat->Value}
section
variable {R:Type}{P:Program}{E:Env}{ω:aq}{a:Act}{w:World}{s:S}{k:S->Option R}{r:R}{o:Oper}{Q:Exit->Act->World->Prop}
def vr(w:World)(e:aq):Nat->List Cp->List (KV real)->List Value->Prop
 |_,[],a,d=>a=[]/\d=[]
 |b,.ro c::r,a,u::d=>(a.take c.len).length=c.len/\(∃x,kf (A:=real) c (a.take c.len)=some x/\jd w e u c x 0)/\vr w e b r (a.drop c.len) d
 |b,.mu ks::r,a,u::d=>(a.take ks.length).length=ks.length/\(∃f arr T,u=.pointer (some ⟨f,0,none⟩)/\e f=some (b,[])/\w.heap[f]? = some (.cells arr T (0,0))/\fp w e (b+1) (a.take ks.length) arr.toList)/\vr w e (b+(ks.length+1)) r (a.drop ks.length) d
 |_,_::_,_,[]=>False
def AX(w:World)(e:aq)(b:Nat)(j:Sh)(d:List (KV real))(u:Value):Prop:=
 match j with
 |.one _=>∃v,d=[v]/\DS w e b v u
 |.agg _=>∃cells:List Value,u=.agg cells.toArray/\fp w e b d cells
 |.blk _=>∃i arr T,u=.pointer (some ⟨i,0,none⟩)/\e i=some (b,[])/\w.heap[i]? = some (.cells arr T (0,0))/\fp w e (b+1) d arr.toList
 |.ro h=>∃x,kf (A:=real) h d=some x/\jd w e u h x 0
 |.fn f a=>∃g:List Value,u=.func (.func f) #[] g.toArray/\aH (λv c=>gK w e ⟨λ_=>.dead,λ_=>⟨0,0,0,.gone⟩⟩ v c) g (c9 (A:=real) a d)/\∀c∈c9 (A:=real) a d,∃h x,c=.ro h x
 |.qa f a=>∃g:List Value,u=.func (.func f) #[] g.toArray/\vr w e b a d g
def fI(w:World)(f:aq):Nat->List Sh->List (KV real)->List Value->Prop
 |_,[],c,e=>c=[]/\e=[]
 |b,a::d,c,u::e=>(c.take a.ks.length).length=a.ks.length/\AX w f b a (c.take a.ks.length) u/\fI w f (b+a.width) d (c.drop a.ks.length) e
 |_,_::_,_,[]=>False
def bh(b n i:Nat):Prop:=b<=i/\i<b+n
def Aj{b i:Nat}:¬bh b 0 i:=by unfold bh;omega
def nL:∀(d:List (KV real)) (n:List Value) (id:Nat) (s:S),fp w ω id d n ->
  (∀i,¬bh id d.length i->(lays id d s).2.ob i=s.ob i)/\(∀i,bh id d.length i->(s.ob i).g<((lays id d s).2.ob i).g/\∀cells,((lays id d s).2.ob i).o≠.blk cells) /\
  (lays id d s).2.sl=s.sl /\
  ∀b:S,(∀i,bh id d.length i->b.ob i=(lays id d s).2.ob i)->aH (bU w ω b) n (lays id d s).1
 |[],[],id,s,_=>⟨λ_ _=>rfl,λi a=>absurd a (by unfold bh;simp),rfl,λ_ _=>trivial⟩
 |[],_::_,_,_,h=>h.elim
 |_::_,[],_,_,h=>h.elim
 |v::d,u::n,id,s,h=>by
  obtain⟨l,o,p,z⟩:=nL d n (id+1) (dh id v s).2 h.2;have g:((dh id v s).2.ob id).g=(s.ob id).g+1/\(∀cells,((dh id v s).2.ob id).o≠.blk cells)/\(dh id v s).2.sl=s.sl/\∀i,i≠id->(dh id v s).2.ob i=s.ob i:=by
   obtain⟨k,x⟩:=v;cases k with
   |val t=>
    refine⟨?_,?_,rfl,λi a=>?_⟩
    .simp[dh,St.new,St.aB]
    .intro cells e;simp[dh,St.new,St.aB]at e
    .simp only[dh];unfold St.new;exact St.aU _ _ a
   |arr e cs dp=>
    refine⟨?_,?_,rfl,λi a=>?_⟩
    .simp[dh,St.new,St.aB]
    .intro cells e;simp[dh,St.new,St.aB]at e
    .simp only[dh];unfold St.new;exact St.aU _ _ a
   |mp k=>
    refine⟨?_,?_,rfl,λi a=>?_⟩
    .simp[dh,St.new,St.aB]
    .intro cells e;simp[dh,St.new,St.aB]at e
    .simp only[dh];unfold St.new;exact St.aU _ _ a
  obtain⟨A,B,C,y⟩:=g;simp only[lays];refine⟨λi a=>?_,λi a=>?_,p.trans C,λb r=>⟨?_,z b λi a=>r i ?_⟩⟩
  .rw[l i (by unfold bh at a⊢;simp only[cK]at a;omega)];exact y i (by unfold bh at a;simp only[cK]at a;omega)
  .by_cases e:i=id
   .subst e;rw[l i (by unfold bh;omega),A];exact⟨fK _,B⟩
   .have:=o i (by unfold bh at a⊢;simp only[cK]at a;omega);rw[y i e]at this;exact this
  .have m:b.ob id=(dh id v s).2.ob id:=by
    rw[r id (by unfold bh;simp only[cK];omega)];exact l id (by unfold bh;omega)
   have q:=h.1;obtain⟨k,x⟩:=v;cases k with
   |val t=>exact q
   |arr e cs dp=>
    have j:b.ob id=⟨(s.ob id).g+1,0,0,.arr e cs dp x⟩:=by rw[m];simp only[dh];unfold St.new;exact St.aB _ _ _
    refine⟨by rw[j];exact aJ _,by simp,λc f=>?_⟩;rw[bW (e:=e) (cs:=cs) (dp:=dp) (x:=x) (by rw[j]) (by rw[j])]at f;injection f with f
    subst f;exact q
   |mp k=>
    have j:b.ob id=⟨(s.ob id).g+1,0,0,.mp k x⟩:=by rw[m];simp only[dh];unfold St.new;exact St.aB _ _ _
    refine⟨by rw[j];exact aJ _,λ_ D E f=>?_⟩;rw[j]at f;injection f with l o
    subst l;subst o;exact q
  .unfold bh at a⊢;simp only[cK];omega
def tC{sh:Sh}{g:List (KV real)}{u:Value}{b:Nat}{s:S}(U:∀f j,sh≠.qa f j)(P:g.length=sh.ks.length)(h:AX w ω b sh g u):
  (∀i,¬bh b sh.width i->(cm b sh g s).2.ob i=s.ob i)/\(∀i,bh b sh.width i->(s.ob i).g<((cm b sh g s).2.ob i).g)/\(cm b sh g s).2.sl=s.sl /\
  ∀d:S,(∀i,bh b sh.width i->d.ob i=(cm b sh g s).2.ob i)->cQ H w ω d u (cm b sh g s).1 /\
   ∀i cells,bh b sh.width i->(d.ob i).o=.blk cells->∃c arr T,ω c=some (i,[])/\w.heap[c]? = some (.cells arr T (0,0))/\aH (bU w ω d) arr.toList cells:=by
 cases sh with
 |one W=>obtain⟨v,rfl,J⟩:=h;obtain⟨D,k,n,F⟩:=nL (w:=w) (ω:=ω) [v] [u] b s ⟨J,trivial⟩;refine⟨D,λi a=>(k i a).1,n,λd t=>⟨(F d t).1,λi cells a l=>?_⟩⟩;rw[t i a]at l;exact absurd l ((k i a).2 cells)
 |agg ks=>obtain⟨cells,z,J⟩:=h;obtain⟨D,k,n,F⟩:=nL (w:=w) (ω:=ω) g cells b s J;have M:(Sh.agg ks).width=g.length:=P.symm;rw[M];refine⟨D,λi a=>(k i a).1,n,λd t=>⟨⟨cells,z,F d t⟩,λi p a l=>?_⟩⟩;rw[t i a]at l;exact absurd l ((k i a).2 p)
 |blk ks=>
  obtain⟨O,arr,T,z,C,K,J⟩:=h;obtain⟨D,k,n,F⟩:=nL (w:=w) (ω:=ω) g arr.toList (b+1) s J;have M:(Sh.blk ks).width=g.length+1:=by rw[P];rfl
  rw[M];have r:∀i,i≠b->(cm b (.blk ks) g s).2.ob i=(lays (b+1) g s).2.ob i:=λi a=>by simp only[cm];unfold St.new;exact St.aU _ _ a
  have m:(cm b (.blk ks) g s).2.ob b=⟨((lays (b+1) g s).2.ob b).g+1,0,0,.blk (lays (b+1) g s).1⟩:=by simp only[cm];unfold St.new;exact St.aB _ _ _
  have R:(lays (b+1) g s).2.ob b=s.ob b:=D b (by unfold bh;omega);refine⟨λi a=>?_,λi a=>?_,n,λd t=>?_⟩
  .rw[r i (by unfold bh at a;omega)];exact D i (by unfold bh at a⊢;omega)
  .by_cases e:i=b
   .subst e;rw[m,R];exact fK _
   .rw[r i e];exact(k i (by unfold bh at a⊢;omega)).1
  .have q:=F d (λi a=>by
    rw[t i (by unfold bh at a⊢;omega)];exact r i (by unfold bh at a;omega))
   have B:=t b (by unfold bh;omega);rw[m]at B;refine⟨⟨?_,λ_ cells _=>⟨O,C,z⟩⟩,λi cells a l=>?_⟩
   .rw[B];exact aJ _
   .by_cases e:i=b
    .subst e;rw[B]at l;injection l with l
     subst l;exact⟨O,arr,T,C,K,q⟩
    .rw[t i a,r i e]at l;exact absurd l ((k i (by unfold bh at a⊢;omega)).2 cells)
 |ro E=>
  obtain⟨x,z,C⟩:=h;have G:cm (A:=real) b (.ro E) g s=(.one (.ei E x 0),s):=by simp only[cm];rw[z]
  rw[G];exact⟨λ_ _=>rfl,λi a=>absurd a Aj,rfl,λd _=>⟨C,λi _ a=>absurd a Aj⟩⟩
 |fn f j=>
  obtain⟨y,z,C,K⟩:=h;refine⟨λ_ _=>rfl,λi a=>absurd a Aj,rfl,λd _=>⟨⟨y,z,?_⟩,λi _ a=>absurd a Aj⟩⟩;have N:∀(y:List Value) (o:List (cU real)),aH (λv c=>gK w ω ⟨λ_=>.dead,λ_=>⟨0,0,0,.gone⟩⟩ v c) y o->(∀c∈o,∃E x,c=.ro E x)->aH (λv c=>gK w ω d v c) y o:=by
   intro y;induction y with
   |nil=>intro o k _;cases o with|nil=>trivial|cons _ _=>exact k.elim
   |cons v y V=>
    intro o k I;cases o with
    |nil=>exact k.elim
    |cons c o=>refine⟨?_,V o k.2 (λQ L=>I Q (by simp[L]))⟩;obtain⟨E,x,rfl⟩:=I c (by simp);exact k.1
  exact N y _ C K
 |qa f j=>exact absurd rfl (U f j)
def oM:∀(a:List Cp) (f:List (KV real)) (j:List Value) (b:Nat) (s:S),vr w ω b a f j ->
  (∀i,¬bh b (td a) i->(dw b a f s).2.ob i=s.ob i)/\(∀i,bh b (td a) i->(s.ob i).g<((dw b a f s).2.ob i).g)/\(dw b a f s).2.sl=s.sl /\
  ∀d:S,(∀i,bh b (td a) i->d.ob i=(dw b a f s).2.ob i)->aH (gK w ω d) j (dw b a f s).1 /\
   ∀i cells,bh b (td a) i->(d.ob i).o=.blk cells->∃c arr T,ω c=some (i,[])/\w.heap[c]? = some (.cells arr T (0,0))/\aH (bU w ω d) arr.toList cells
 |[],f,j,b,s,h=>by obtain⟨rfl,rfl⟩:=h;exact⟨λ_ _=>rfl,λi g=>absurd g Aj,rfl,λ_ _=>⟨trivial,λi _ g=>absurd g Aj⟩⟩
 |.ro _::_,f,[],b,s,h=>h.elim
 |.mu _::_,f,[],b,s,h=>h.elim
 |.ro k::r,f,u::j,b,s,h=>by
  obtain⟨_,⟨x,z,B⟩,L⟩:=h;obtain⟨l,p,q,t⟩:=oM r (f.drop k.len) j b s L;have C:td (.ro k::r)=td r:=by simp[td,Cp.width]
  have m:dw (A:=real) b (.ro k::r) f s=(.ro k x::(dw b r (f.drop k.len) s).1,(dw b r (f.drop k.len) s).2):=by simp only[dw];rw[z]
  rw[m,C];refine⟨l,p,q,λd n=>?_⟩;obtain⟨v,y⟩:=t d n;exact⟨⟨B,v⟩,y⟩
 |.mu ks::r,f,u::j,b,s,h=>by
  obtain⟨M,z,B⟩:=h;obtain⟨o,E,I,F⟩:=tC (H:=λ_=>undef) (sh:=.blk ks) (s:=s) (λ_ _ e=>by cases e) M z;obtain⟨l,p,q,t⟩:=oM r (f.drop ks.length) j (b+(ks.length+1)) (cm b (.blk ks) (f.take ks.length) s).2 B;have C:td (.mu ks::r)=(ks.length+1)+td r:=rfl;have D:(Sh.blk ks).width=ks.length+1:=rfl;rw[D]at o E F;rw[C];refine⟨λi g=>?_,λi g=>?_,q.trans I,λd n=>?_⟩
  .refine(l i (by unfold bh at g⊢;omega)).trans ?_;exact o i (by unfold bh at g⊢;omega)
  .by_cases e:bh b (ks.length+1) i
   .have:=l i (by unfold bh at e⊢;omega);show(s.ob i).g<((dw (b+(ks.length+1)) r (f.drop ks.length) (cm b (.blk ks) (f.take ks.length) s).2).2.ob i).g;rw[this];exact E i e
   .have:=p i (by unfold bh at g e⊢;omega);rw[o i e]at this;exact this
  .obtain⟨J,K⟩:=F d (λi g=>by
    rw[n i (by unfold bh at g⊢;omega)];exact l i (by unfold bh at g⊢;omega))
   obtain⟨v,y⟩:=t d (λi g=>n i (by unfold bh at g⊢;omega));refine⟨⟨J,v⟩,λi cells g G=>?_⟩;by_cases e:bh b (ks.length+1) i
   .exact K i cells e G
   .exact y i cells (by unfold bh at g e⊢;omega) G
def B6{g:Sh}{j:List (KV real)}{u:Value}{b:Nat}{s:S}(v:j.length=g.ks.length)(h:AX w ω b g j u):
  (∀i,¬bh b g.width i->(cm b g j s).2.ob i=s.ob i)/\(∀i,bh b g.width i->(s.ob i).g<((cm b g j s).2.ob i).g)/\(cm b g j s).2.sl=s.sl /\
  ∀d:S,(∀i,bh b g.width i->d.ob i=(cm b g j s).2.ob i)->cQ H w ω d u (cm b g j s).1 /\
   ∀i cells,bh b g.width i->(d.ob i).o=.blk cells->∃c arr T,ω c=some (i,[])/\w.heap[c]? = some (.cells arr T (0,0))/\aH (bU w ω d) arr.toList cells:=by
 by_cases m:∃f a,g=.qa f a
 .obtain⟨f,a,rfl⟩:=m;obtain⟨l,r,t⟩:=h;obtain⟨o,p,q,k⟩:=oM a j l b s t;exact⟨o,p,q,λd n=>⟨⟨l,r,(k d n).1⟩,(k d n).2⟩⟩
 .exact tC (λf a e=>m ⟨f,a,e⟩) v h
def au(a:List Sh):Nat:=(a.map Sh.width).sum
def lQ:∀(a:List Sh) (g:List (KV real)) (k:List Value) (b:Nat) (s:S),fI w ω b a g k ->
  (∀i,¬bh b (au a) i->(aV b a g s).2.ob i=s.ob i)/\(∀i,bh b (au a) i->(s.ob i).g<((aV b a g s).2.ob i).g)/\(aV b a g s).2.sl=s.sl /\
  ∀f:S,(∀i,bh b (au a) i->f.ob i=(aV b a g s).2.ob i)->aH (cQ H w ω f) k (aV b a g s).1 /\
   ∀i cells,bh b (au a) i->(f.ob i).o=.blk cells->∃c arr T,ω c=some (i,[])/\w.heap[c]? = some (.cells arr T (0,0))/\aH (bU w ω f) arr.toList cells
 |[],g,k,b,s,h=>by obtain⟨rfl,rfl⟩:=h;exact⟨λ_ _=>rfl,λi d=>absurd d (by unfold bh au;simp),rfl,λ_ _=>⟨trivial,λi _ d=>absurd d (by unfold bh au;simp)⟩⟩
 |j::a,g,[],b,s,h=>h.elim
 |j::a,g,u::k,b,s,h=>by
  obtain⟨E,C,D⟩:=h;obtain⟨m,p,q,r⟩:=B6 (s:=s) E C;obtain⟨l,t,v,x⟩:=lQ a (g.drop j.ks.length) k (b+j.width) (cm b j (g.take j.ks.length) s).2 D;have F:au (j::a)=j.width+au a:=by simp[au]
  simp only[aV];rw[F];refine⟨λi d=>?_,λi d=>?_,v.trans q,λf o=>?_⟩
  .rw[l i (by unfold bh at d⊢;omega)];exact m i (by unfold bh at d⊢;omega)
  .by_cases e:bh b j.width i
   .rw[l i (by unfold bh at e⊢;omega)];exact p i e
   .have:=t i (by unfold bh at d e⊢;omega);rw[m i e]at this;exact this
  .obtain⟨y,z⟩:=r f (λi d=>by
    rw[o i (by unfold bh at d⊢;omega)];exact l i (by unfold bh at d⊢;omega))
   obtain⟨A,B⟩:=x f (λi d=>o i (by unfold bh at d⊢;omega));refine⟨⟨y,A⟩,λi cells d n=>?_⟩;by_cases e:bh b j.width i
   .exact z i cells e n
   .exact B i cells (by unfold bh at d e⊢;omega) n
def oU:∀(a:List Nat) (b:List bK) (s:S),(ir a b s).ob=s.ob
 |[],_,_=>rfl
 |_::_,[],_=>rfl
 |d::a,v::b,s=>by simp only[ir];rw[oU];rfl
def tT(P:Nat->bK->Prop):∀(a:List Nat) (b:List bK) (s:S),(∀i,P i (s.sl i))->(∀(j d:Nat) (v:bK),a[j]? = some d->b[j]? = some v->P d v)->∀i,P i ((ir a b s).sl i)
 |[],_,_,h,_,i=>h i
 |_::_,[],_,h,_,i=>h i
 |d::a,v::b,s,h,c,i=>by
  simp only[ir];refine tT P a b _ (λi=>?_) (λj f l g k=>c (j+1) f l (by simpa using g) (by simpa using k)) i;by_cases e:i=d
  .subst e;rw[St.iY];exact c 0 i v rfl rfl
  .rw[St.lV _ _ e];exact h i
def rj {f:S} {c:List Sh} {g:List (KV real)} {z:List Value} {b:Nat} {n:List Nat} (p:zQ w ω) (K:0<b) (q:∀b A k,ω b=some k->ω A=some k->b=A) (m:∀b k,ω b=some k->b<w.heap.size) (o:a.defers=[])
  (h:∀i,(f.ob i).o=.gone) (x:∀i,cQ H w ω f (a.tmps.getD i undef) (f.sl i)) (J:fI w ω b c g z) (t:∀(j d:Nat),n[j]? = some d->∀u,z[j]? = some u->a.tmps.getD d undef=u):
  Rel H ω a w (ir n (aV b c g f).1 (aV b c g f).2):=by
 obtain⟨r,C,D,E⟩:=lQ c g z b f J;have l:=oU n (aV b c g f).1 (aV b c g f).2;have B:=E (ir n (aV b c g f).1 (aV b c g f).2) (λi _=>by rw[l]);have tr:∀i,Tr w ω f w ω (ir n (aV b c g f).1 (aV b c g f).2) i:=λi=>by
  by_cases e:bh b (au c) i
  .exact dj.tr (by unfold dj;rw[l];exact C i e)
  .exact Tr.nq m (by rw[l];exact r i e)
 exact
 {dH:=p
  inj:=q
  dom:=m
  defers:=o
  dJ:=by rw[l,r 0 (by unfold bh;omega)];exact h 0
  slots:=λi=>by
   refine tT (λi v=>cQ H w ω (ir n (aV b c g f).1 (aV b c g f).2) (a.tmps.getD i undef) v) n _ _ (λi=>?_) (λj d v F y=>?_) i
   .rw[D];exact cQ.frame (cH.refl _ _) tr (x i)
   .obtain⟨u,I,G⟩:=B.1.get j v y;rw[t j d F u I];exact G
  c7:=λi cells s=>by
   by_cases e:bh b (au c) i
   .exact B.2 i cells e s
   .rw[l,r i e,h i]at s;cases s }
def wy{id:Nat}(h:Rel H ω a w s)(A:(s.ob id).o≠.gone)(B:Nat):Passes H ω a w s (ω.drop id) (s.bq id true .gone)/\bT w ω s (ω.drop id) (s.bq id true .gone) [] B B:=by
 have n:id≠0:=h.pR A;have tr:∀j,Tr w ω s w (ω.drop id) (s.bq id true .gone) j:=λj=>by
  by_cases e:j=id
  .subst e;have l:((s.bq j true .gone).ob j).o=.gone:=by rw[St.ay]
   have f:((s.bq j true .gone).ob j).g=(s.ob j).g:=by rw[St.ay]
   have y:((s.bq j true .gone).ob j).h=bif true then(s.ob j).h+1 else(s.ob j).h:=by rw[St.ay]
   exact
   {ref:=λv g h p m=>⟨by rw[f];exact m.1,by rw[f,y];exact gF true m.2.1,λc d=>(fS l d).elim⟩
    ptr:=λv g u m=>⟨by rw[f];exact m.1,λ_ cells d=>by rw[l]at d;cases d⟩
    bH:=λv g h p i u m=>⟨by rw[f];exact m.1,by rw[f,y];exact gF true m.2.1,λc d=>(fS l d).elim⟩
    cD:=λv g m=>m.shut f λk x e=>by rw[l]at e;cases e }
  .exact gx.tr ⟨St.aO _ _ _ e,λb k _ z E=>⟨rfl,by rw[z];exact aq.dM z (by rw[E];exact e)⟩⟩ (bj _ _ _ n) h.dom
 refine⟨⟨?_,bj _ _ _ n,tr⟩,?_⟩
 .exact
  {dH:=h.dH.ext (bj _ _ _ n)
   inj:=λb C k o r=>h.inj b C k (aq.dA o).1 (aq.dA r).1
   dom:=λb k o=>h.dom b k (aq.dA o).1
   defers:=h.defers
   dJ:=by rw[St.aO _ _ _ (c6 n)];exact h.dJ
   slots:=λi=>cQ.frame (bj _ _ _ n) tr (h.slots i)
   c7:=λj cells d=>by
    by_cases e:j=id
    .subst e;rw[St.ay]at d;cases d
    .rw[St.aO _ _ _ e]at d;obtain⟨b,arr,T,o,r,D⟩:=h.c7 j cells d;exact⟨b,arr,T,aq.dM o e,r,D.mono λ_ _ F=>bU.frame (bj _ _ _ n) tr F⟩ }
 .exact
  {nz:=λ_ _ h=>nomatch h
   was:=λ_ _ h=>nomatch h
   is:=λ_ _ h=>nomatch h
   oh:=λ_ _ h=>nomatch h
   inj:=λ_ _ _ h=>nomatch h
   fn:=λ_ _ _ h=>nomatch h
   gone:=λi f=>by
    have q:i≠id:=λe=>by subst e;exact A f
    exact⟨by rw[St.aO _ _ _ q];exact f,λb p t=>aq.dM t q⟩
   back:=λb k t=>(aq.dA t).1 }
def BN{id:Nat}{ls:List L}(h:Rel H ω a w s)(c:(s.ob id).o=.blk ls)(b:Nat):Passes H ω a w s (ω.drop id) (s.bq id true .gone)/\bT w ω s (ω.drop id) (s.bq id true .gone) [] b b:=wy h (by rw[c];exact λe=>by cases e) b
def bT.Hy{c:aq}{g k:S}{m:List (Nat×Nat)}{f d b a:Nat}(h:bT w c g ω k m f d)(l:b<=f)(n:d<=a):bT w c g ω k m b a:={h with oh:=λi j e=>⟨iN l (h.oh i j e).1,gf (h.oh i j e).2 n⟩ }
def B4:∀(a:ar) (k:K),k∈a.ks->k.ni=true
 |.nil,_,h=>by cases h
 |.cons t ts,k,h=>by
  cases h with
  |head=>rfl
  |tail _ h=>exact B4 ts k h
mutual
def lI:∀t:Ty,Ty.beq t t=true
 |.int k=>by simp[Ty.beq]
 |.bool=>rfl
 |.str=>rfl
 |.map k=>by simp[Ty.beq]
 |.sl e a=>by simp only[Ty.beq,aQ];exact⟨kF e,nZ a⟩
def nZ:∀t:ar,ar.beq t t=true
 |.nil=>rfl
 |.cons t ts=>by simp only[ar.beq,aQ];exact⟨lI t,nZ ts⟩
end
def su:∀(a:ar) (x:a.T),kf (A:=real) a (Bf (A:=real) a x)=some x
 |.nil,_=>rfl
 |.cons t ts,x=>by simp only[Bf,kf];have b:Ty.beq t t=true:=lI t;rw[vk b];have c:=su ts (jP x);show Option.map (λy=>real.cn (real.cast b (real.hd x)) y) (kf (A:=real) ts (Bf (A:=real) ts (jP x)))=some x;rw[c];exact gi some (D5 x)
def uL:∀(a:ar) (x:a.T),(Bf (A:=real) a x).map (·.1)=a.ks
 |.nil,_=>rfl
 |.cons t ts,x=>gi (K.val t:: ·) (uL ts (jP x))
def uK:∀(a:ar),a.ks.length=a.len
 |.nil=>rfl
 |.cons _ ts=>by simp[ar.ks,ar.len,uK ts]
def nC{d:aq}:∀(e:ar) (a:List (KV real)) (c:List Value) (b:Nat),a.map (·.1)=e.ks->fp w d b a c->∃x,kf (A:=real) e a=some x/\∀(j:Nat) (g:Nat->Option Value),(∀k u,c[k]? = some u->g (j+k)=some u)->e.R w d (λ_=>.bQ) g j x
 |.nil,[],c,b,_,_=>⟨(),rfl,λ_ _ _=>trivial⟩
 |.nil,_::_,_,_,h,_=>by simp[ar.ks]at h
 |.cons t ts,[],_,_,h,_=>by simp[ar.ks]at h
 |.cons t ts,v::a,[],_,_,h=>h.elim
 |.cons t ts,⟨B,y⟩::a,u::c,b,h,l=>by
  simp only[fm,ar.ks,sQ]at h;obtain⟨m,n⟩:=h;subst m;obtain⟨x,r,s⟩:=nC ts a c (b+1) n l.2;have o:Ty.beq t t=true:=lI t;refine⟨kZ y x,?_,λj g i=>?_⟩
  .simp only[kf];rw[vk o,r];rfl
  .have p:kp (kZ (t:=t) (ts:=ts) y x)=y:=kI _ _;have q:jP (kZ (t:=t) (ts:=ts) y x)=x:=kK _ _;refine⟨⟨u,by simpa using i 0 u rfl,?_⟩,?_⟩
   .rw[p];exact l.1
   .rw[q];exact s (j+1) g (λk z f=>by have:=i (k+1) z (by simpa using f);rwa[show j+(k+1)=j+1+k by omega]at this)
def j6(h:Rel H ω a w s){l:ar}{c:cU real}{u:Value}{M:List (KV real)}{F:S}(P:gK w ω s u c)(d:bM l c s=some (M,F))(b:Nat):
  ∃e,Passes H ω a w s e F/\bT w ω s e F [] b b/\M.map (·.1)=l.ks/\∃x,kf (A:=real) l M=some x/\∀j v i,di e F j v->(∀b,b<w.heap.size->j b=none->i b=none)->jd w i u l x 0:=by
 cases c with
 |ro G x=>
  simp only[bM]at d;split at d
  .rename_i p;have:=ar.eq_of_beq p;subst this;have d:=aG d;injection d with I D
   subst I;subst D;refine⟨ω,Passes.refl h,bT.refl _ _ _ _ _,uL _ _,x,su _ _,λj v i B C=>?_⟩;obtain⟨b,o',W,z,X,Y⟩:=P;exact⟨b,o',C b z (B.none b W),z,X,ar.hM G _ _ 0 x (λ_ b p r=>by
    rcases r with r|⟨_,_,r⟩
    .exact C b p (B.none b r)
    .exact r.elim) Y⟩
  .cases d
 |ptr id g=>
  simp only[bM]at d;cases p:dm s id g with
  |none=>rw[p]at d;cases d
  |some ls=>
   rw[p]at d;simp only at d;cases z:takes l.ks ls s with
   |none=>rw[z]at d;cases d
   |some q=>
    obtain⟨y,v⟩:=q;rw[z]at d;simp only at d;obtain⟨I,D⟩:=cM p;obtain⟨o,E,V⟩:=P.2 I ls D;obtain⟨U,arr,T,q1,q2,q3⟩:=h.c7 id ls D;obtain rfl:=h.inj _ _ _ E q1;obtain⟨e,m,Q,N,L,n1,R⟩:=gq l.ks ls arr.toList ω s y v b h q3 z;cases f:(v.ob id).o with
    |blk I4=>
     rw[f]at d;have d:=aG d;injection d with v1 v2
     subst v1;subst v2;have Z:=n1 (B4 l);subst Z;obtain⟨p2,O⟩:=BN Q.rel f b;have J:bT w ω s e v [] b b:={ N with oh:=λ_ _ h=>nomatch h }
     refine⟨e.drop id,Q.trans p2,bT.trans (aJ _) (aJ _) J O,L,?_⟩;obtain⟨x,x1,_⟩:=nC l y arr.toList b L (R e v e (di.refl _ _) ⟨λ_ _ h=>h,λ_ _ h=>nomatch h⟩);refine⟨x,x1,λj s3 i B C=>?_⟩;have r:=R j s3 i (O.later.trans B) ⟨C,λ_ _ h=>nomatch h⟩;obtain⟨x',n,x2⟩:=nC l y arr.toList b L r;rw[x1]at n;injection n with n
     subst n;have t:(e.drop id) o=none:=by
      cases K:e o with
      |none=>exact aq.oI K
      |some kk=>
       have:=N.back o kk K;rw[E]at this;injection this with this
       subst this;exact aq.oJ K rfl
     refine⟨o,0,C o (h.dom _ _ E) (B.none o t),h.dom _ _ E,V,x2 0 _ (λk u hu=>?_)⟩;rw[bC,bC,cell_of_row w o k arr T (0,0) q2];simpa using hu
    |arr _ _ _ _=>rw[f]at d;cases d
    |bQ _ _ _=>rw[f]at d;cases d
    |gone=>rw[f]at d;cases d
    |mp _ _=>rw[f]at d;cases d
def pO:∀(d:List ar) (o:List (cU real)) (p:List Value) (n:aq) (s:S) (u:List (KV real)) (t:S) (b:Nat),Rel H n a w s->aH (λv c=>gK w n s v c) p o->bX d o s=some (u,t) ->
  ∃g,Passes H n a w s g t/\bT w n s g t [] b b/\u.map (·.1)=(d.map ar.ks).flatten/\(∀c∈c9 (A:=real) d u,∃j x,c=.ro j x)/\∀i B f,di g t i B->(∀b,b<w.heap.size->i b=none->f b=none) ->
   aH (λv c=>gK w f ⟨λ_=>.dead,λ_=>⟨0,0,0,.gone⟩⟩ v c) p (c9 (A:=real) d u)
 |[],[],p,n,s,u,t,b,h,r,e=>by
  injection e with e
  injection e with C D
  subst C;subst D;cases p with
  |cons _ _=>exact r.elim
  |nil=>exact⟨n,Passes.refl h,bT.refl _ _ _ _ _,rfl,(λc G=>absurd G (by simp[c9])),λ_ _ _ _ _=>trivial⟩
 |j::d,c::o,[],_,_,_,_,_,_,r,_=>r.elim
 |j::d,c::o,v::p,n,s,u,t,b,h,r,e=>by
  simp only[bX]at e;cases E:bM j c s with
  |none=>rw[E]at e;cases e
  |some q=>
   obtain⟨O,B⟩:=q;rw[E]at e;simp only at e;cases F:bX d o B with
   |none=>rw[F]at e;cases e
   |some I=>
    obtain⟨m,W⟩:=I;rw[F]at e;injection e with e
    injection e with C D
    subst C;subst D;obtain⟨g,z,P,N,x,x1,U⟩:=j6 h r.1 E b;obtain⟨i,T,J,X,I,V⟩:=pO d o p g B m W b z.rel (r.2.mono λ_ _ Q=>gK.frame z.ext z.tr Q) F;have l:O.length=j.len:=by rw[<-uK,<-N];simp
    have k:c9 (A:=real) (j::d) (O++m)=.ro j x::c9 (A:=real) d m:=by simp only[c9];rw[gV l,lY l,x1]
    refine⟨i,z.trans T,bT.trans (aJ _) (aJ _) P J,by simp[N,X],?_,λy M f K L=>?_⟩
    .rw[k];intro c G;cases G with
     |head=>exact⟨j,x,rfl⟩
     |tail _ R=>exact I c R
    .rw[k];exact⟨U y M f (J.later.trans K) L,V y M f K L⟩
 |[],_::_,_,_,_,_,_,_,_,_,e=>by cases e
 |_::_,[],_,_,_,_,_,_,_,_,e=>by cases e
def ug(h:Rel H ω a w s){ks:List K}{id g:Nat}{u:Value}{p:List (KV real)}{l:S}(z:yZ ω s u id g 0)(c:bL (.blk ks) (.one (.ptr id g 0)) s=some (p,l))(b:Nat):
  ∃d m,Passes H ω a w s d l/\bT w ω s d l m b (b+(ks.length+1))/\p.map (·.1)=ks/\∀k B f,di d l k B->fJ w k f m->AX w f b (.blk ks) p u:=by
 simp only[bL]at c;cases y:dm s id g with
 |none=>rw[y]at c;cases c
 |some ls=>
  rw[y]at c;simp only at c;cases v:takes ks ls (s.bq id true .gone)with
  |none=>rw[v]at c;cases c
  |some q=>
   rw[v]at c;have c:=aG c;subst c;obtain⟨F,r⟩:=cM y;obtain⟨n,t,G⟩:=z.2 F ls r;obtain⟨E,arr,T,M,N,O⟩:=h.c7 id ls r;obtain rfl:=h.inj _ _ _ t M;have A:(s.ob id).o≠.gone:=by rw[r];exact λe=>by cases e
   have o:=Passes.BV h id;have I:=rf (lo:=b) h A;obtain⟨d,m,L,C,Q,_,P⟩:=gq ks ls arr.toList ω (s.bq id true .gone) p l (b+1) o.rel (O.mono λ_ _ z=>bU.frame o.ext o.tr z) v;refine⟨d,(id,b)::m,o.trans L,?_,Q,λk B f D x=>?_⟩
   .have:=bT.trans (ot _) (kG _ _) I C;rwa[show b+1+ks.length=b+(ks.length+1)by omega]at this
   .refine⟨n,arr,T,G,?_,N,P k B f D ⟨x.none,λi j J=>x.own i j (by simp[J])⟩⟩;refine x.own id b (by simp) n [] (h.dom n _ t) ?_;exact((C.later.trans D).gone id (by rw[St.ay])).2 n [] t
def r9:∀(d:List Cp) (B:List (cU real)) (t:List Value) (p:aq) (s:S) (K:List (KV real)) (E:S) (b:Nat),Rel H p a w s->aH (λv c=>gK w p s v c) t B->b7 d B s=some (K,E) ->
  ∃i m,Passes H p a w s i E/\bT w p s i E m b (b+td d)/\K.map (·.1)=(d.map Cp.ks).flatten/\∀j o f,di i E j o->fJ w j f m->vr w f b d K t
 |[],[],t,p,s,K,E,b,h,y,k=>by
  injection k with k
  injection k with M N
  subst M;subst N;cases t with
  |cons _ _=>exact y.elim
  |nil=>exact⟨p,[],Passes.refl h,bT.refl _ _ _ _ _,rfl,λ_ _ _ _ _=>⟨rfl,rfl⟩⟩
 |c::d,v::B,[],_,_,_,_,_,_,y,_=>y.elim
 |c::d,v::B,u::t,p,s,K,E,b,h,y,k=>by
  simp only[b7]at k;cases I:eX c v s with
  |none=>rw[I]at k;cases k
  |some q=>
   obtain⟨F,o⟩:=q;rw[I]at k;simp only at k;cases O:b7 d B o with
   |none=>rw[O]at k;cases k
   |some Z=>
    obtain⟨l,z⟩:=Z;rw[O]at k;injection k with k
    injection k with M N
    subst M;subst N;have Q:∃i m,Passes H p a w s i o/\bT w p s i o m b (b+c.width)/\F.map (·.1)=c.ks/\∀j z f,di i o j z->fJ w j f m->∀l n,vr w f (b+c.width) d l n->vr w f b (c::d) (F++l) (u::n):=by
     cases c with
     |ro R=>
      obtain⟨i,r,G,A,x,x1,J⟩:=j6 h y.1 (show bM R v s=some (F,o)from I) b;have e:F.length=R.len:=by rw[<-uK,<-A];simp
      refine⟨i,[],r,G,A,λj z f C D l n P=>⟨by rw[gV e];exact e,?_,?_⟩⟩
      .rw[gV e];exact⟨x,x1,J j z f C (λb V X=>D.none b V X)⟩
      .rw[lY e];exact P
     |mu ks=>
      cases v with
      |ro _ _=>cases I
      |ptr id g=>
       obtain⟨i,m,r,G,A,J⟩:=ug h y.1 (show bL (.blk ks) (.one (.ptr id g 0)) s=some (F,o)from I) b;have e:F.length=ks.length:=by rw[<-A];simp
       refine⟨i,m,r,G,A,λj z f C D l n P=>⟨by rw[gV e];exact e,?_,?_⟩⟩
       .rw[gV e];exact J j z f C D
       .rw[lY e];exact P
    obtain⟨i,m1,r,G,A,J⟩:=Q;obtain⟨j,m2,Y,T,t2,r2⟩:=r9 d B t i o l z (b+c.width) r.rel (y.2.mono λ_ _ W=>gK.frame r.ext r.tr W) O;refine⟨j,m1++m2,r.trans Y,?_,by simp[A,t2],λL U f C D=>?_⟩
    .have:=bT.trans (kG _ _) (kG _ _) G T;rwa[vQ]at this
    .exact J L U f (T.later.trans C) D.left l t (r2 L U f C D.right)
 |[],_::_,_,_,_,_,_,_,_,_,k=>by cases k
 |_::_,[],_,_,_,_,_,_,_,_,k=>by cases k
def AT(h:Rel H ω a w s){M:Sh}{tv:bK}{u:Value}{D:List (KV real)}{C:S}(B:cQ H w ω s u tv)(n:bL M tv s=some (D,C))(b:Nat):
  ∃d m,Passes H ω a w s d C/\bT w ω s d C m b (b+M.width)/\D.map (·.1)=M.ks/\(M.eG=true->m=[])/\∀j r i,di d C j r->fJ w j i m->AX w i b M D u:=by
 unfold bL at n;split at n
 .rename_i U id g;obtain⟨d,p,o,t,x,L,q⟩:=j6 h (c:=.ptr id g) B n b;exact⟨d,[],p,o,t,λ_=>rfl,λj r i z A=>⟨x,L,q j r i z (λb J K=>A.none b J K)⟩⟩
 .rename_i U P x;obtain⟨d,p,o,t,x,L,q⟩:=j6 h (c:=.ro P x) B n b;exact⟨d,[],p,o,t,λ_=>rfl,λj r i z A=>⟨x,L,q j r i z (λb J K=>A.none b J K)⟩⟩
 .rename_i f y Q O;cases E:Nat.beq f Q with
  |false=>rw[E]at n;cases n
  |true=>rw[E]at n;simp only[az]at n;have R:=bn E;subst R;obtain⟨F,G,I⟩:=B;obtain⟨d,p,o,t,L,q⟩:=pO y O F ω s D C b h I n;exact⟨d,[],p,o,t,λ_=>rfl,λj r i z A=>⟨F,G,q j r i z (λb J K=>A.none b J K),L⟩⟩
 .rename_i f y Q O;cases E:Nat.beq f Q with
  |false=>rw[E]at n;cases n
  |true=>rw[E]at n;simp only[az]at n;have R:=bn E;subst R;obtain⟨F,G,I⟩:=B;obtain⟨d,m,p,o,t,q⟩:=r9 y O F ω s D C b h I n;exact⟨d,m,p,o,t,λe=>(by cases e),λj r i z A=>⟨F,G,q j r i z A⟩⟩
 .rename_i V l;obtain⟨d,m,p,o,t,T,q⟩:=gq [V] [l] [u] ω s D C b h ⟨B,trivial⟩ n;refine⟨d,m,p,o,t,λB=>T (λk N=>by rw[eK]at N;subst N;simpa[Sh.eG] using B),λj r i z A=>?_⟩;have:=q j r i z A;match D,this with
  |[v],this=>exact⟨v,rfl,this.1⟩
  |_::_::_,this=>exact this.2.elim
 .rename_i ks ls;obtain⟨cells,G,I⟩:=B;obtain⟨d,m,p,o,t,T,q⟩:=gq ks ls cells ω s D C b h I n;exact⟨d,m,p,o,t,λB=>T (λk N=>by simpa using ed.1 B k N),λj r i z A=>⟨cells,G,q j r i z A⟩⟩
 .rename_i ks id g;obtain⟨d,m,p,o,t,q⟩:=ug h B (show bL (.blk ks) (.one (.ptr id g 0)) s=some (D,C)from n) b;exact⟨d,m,p,o,t,λe=>(by cases e),q⟩
 .cases n
def iH:∀(c:List Sh) (f:List bK) (p:List Value) (k:aq) (s:S) (z:List (KV real)) (n:S) (b:Nat),Rel H k a w s->aH (cQ H w k s) p f->bz c f s=some (z,n) ->
  ∃i m,Passes H k a w s i n/\bT w k s i n m b (b+au c)/\(c.all Sh.eG=true->m=[])/\∀j y g,di i n j y->fJ w j g m->fI w g b c z p
 |[],[],p,k,s,z,n,b,h,l,d=>by
  injection d with d
  injection d with A B
  subst A;subst B;cases p with
  |cons _ _=>exact l.elim
  |nil=>exact⟨k,[],Passes.refl h,bT.refl _ _ _ _ _,λ_=>rfl,λ_ _ _ _ _=>⟨rfl,rfl⟩⟩
 |o::c,tv::f,[],_,_,_,_,_,_,l,_=>l.elim
 |o::c,tv::f,u::p,k,s,z,n,b,h,l,d=>by
  simp only[bz]at d;cases C:bL o tv s with
  |none=>rw[C]at d;cases d
  |some q=>
   obtain⟨v,y⟩:=q;rw[C]at d;simp only at d;cases D:bz c f y with
   |none=>rw[D]at d;cases d
   |some O=>
    obtain⟨E,R⟩:=O;rw[D]at d;injection d with d
    injection d with A B
    subst A;subst B;obtain⟨i,m1,x,K,T,L,P⟩:=AT h l.1 C b;obtain⟨j,m2,N,F,M,Q⟩:=iH c f p i y E R (b+o.width) x.rel (l.2.mono λ_ _ r=>cQ.frame x.ext x.tr r) D;have e:v.length=o.ks.length:=by rw[<-T];simp
    refine⟨j,m1++m2,x.trans N,?_,λr=>by rw[oo,aQ]at r;rw[L r.1,M r.2];rfl,λt J g G I=>?_⟩
    .have:=bT.trans (kG _ _) (kG _ _) K F;rwa[show b+o.width+au c=b+au (o::c)by simp[au];omega]at this
    .refine⟨by rw[gV e];exact e,?_,?_⟩
     .rw[gV e];exact P t J g (F.later.trans G) I.left
     .rw[lY e];exact Q t J g G I.right
 |[],_::_,_,_,_,_,_,_,_,_,d=>by cases d
 |_::_,[],_,_,_,_,_,_,_,_,d=>by cases d
def aq.named(a:aq)(m:List (Nat×Nat)):aq:=λb=>match a b with
 |none=>none
 |some (i,p)=>if i=0 then some (0,p)else match m.find? (λq=>q.1==i)with
  |some q=>some (q.2,p)
  |none=>none
def rF{m:List (Nat×Nat)}{b:Nat}(h:ω b=none):ω.named m b=none:=by unfold aq.named;rw[h]
def Aw{s:S}{d:aq}{r:S}{m:List (Nat×Nat)}{o k:Nat}(f:bT w d r ω s m o k){i j b:Nat}{p:List (Nat×Nat)}(c:(i,j)∈m)(h:ω b=some (i,p)):ω.named m b=some (j,p):=by
 unfold aq.named;rw[h];simp only;rw[bc (f.nz i j c)];cases a:m.find? (λq=>q.1==i)with
 |none=>have:=pX.1 a (i,j) c;simp at this
 |some q=>obtain⟨l,n⟩:=q;have e:=je a;have g:=jS a;simp at e;subst e;rw[f.fn l j n c g]
def iG{m:List (Nat×Nat)}{b:Nat}{k:Key}(h:ω.named m b=some k):(k.1=0/\ω b=some k)\/∃i,(i,k.1)∈m/\i≠0/\ω b=some (i,k.2):=by
 unfold aq.named at h;split at h
 .cases h
 .rename_i i p d;split at h
  .rename_i a;injection h with h
   subst h;subst a;exact .inl ⟨rfl,d⟩
  .rename_i a;split at h
   .rename_i q e;injection h with h
    subst h;have c:=je e;have f:=jS e;simp at c;subst c;exact .inr ⟨q.1,f,a,d⟩
   .cases h
def wQ{m:List (Nat×Nat)}{b:Nat}(h:my ω b):ω.named m b=ω b:=by
 rcases h with h|⟨q,h⟩
 .rw[h];exact rF h
 .unfold aq.named;rw[h];simp
def iB(a:aq)(w:World)(m:List (Nat×Nat)):cH a w (a.named m) w:=⟨rfl,rfl,⟨rfl,aJ _⟩,aJ _,λ_ _ h=>⟨rfl,wQ h⟩⟩
def oQ{v:S}{g:aq}{u:S}{m:List (Nat×Nat)}{n r:Nat}(s:0<n)(f:bT w g u ω v m n r)(a:∀b c k,ω b=some k->ω c=some k->b=c)(b c:Nat)(k:Key)(h:ω.named m b=some k)(q:ω.named m c=some k):b=c:=by
 rcases iG h with ⟨d,j⟩|⟨i,d,j,o⟩ <;> rcases iG q with ⟨e,l⟩|⟨t,e,l,p⟩
 .exact a b c k j l
 .have:=(f.oh _ _ e).1;omega
 .have:=(f.oh _ _ d).1;omega
 .have:=f.inj i t k.1 d e;subst this;exact a b c _ o p
def oP{m:List (Nat×Nat)}(hd:∀b k,ω b=some k->b<w.heap.size)(b:Nat)(k:Key)(h:ω.named m b=some k):b<w.heap.size:=by rcases iG h with ⟨_,e⟩|⟨_,_,_,e⟩ <;> exact hd b _ e
def fA{g:S}{a:aq}{f:S}{m:List (Nat×Nat)}{e c:Nat}(b:bT w a f ω g m e c):fJ w ω (ω.named m) m:=⟨λ_ _ h=>rF h,λ_ _ d _ _ _ h=>Aw b d h⟩
def gJ:∀(ks:List K) (a:List (KV real)) (x:fE real ks),kL ks a=some x->bJ ks x=a
 |[],[],x,_=>rfl
 |[],_::_,_,h=>by cases h
 |k::ks,[],_,h=>by cases h
 |k::ks,⟨e,y⟩::a,x,h=>by
  simp only[kL]at h;split at h
  .rename_i c;cases b:kL ks a with
   |none=>rw[b]at h;cases h
   |some z=>rw[b]at h;have h:=aG h;subst h;have d:=K.eq_of_beq c;subst d;simp only[bJ];rw[gJ ks a z b]
  .cases h
end
end Go.R
namespace Go.R
section
variable {R:Type}{P:Program}{E:Env}{ω:aq}{a:Act}{w:World}{s:S}{k:S->Option R}{r:R}{o:Oper}{Q:Exit->Act->World->Prop}
def EX(p q:fU real):Prop:=q=p\/(q.g=p.g/\p.h<=q.h/\(q.o=.gone\/∃e a x,q.o=.bQ e a x)/\p.o≠.gone)
def df(s s':S):Prop:=∀i,EX (s.ob i) (s'.ob i)
def df.refl(s:S):df s s:=λ_=>.inl rfl
def df.trans{s s' s'':S}(h:df s s')(c:df s' s''):df s s'':=by
 intro i;rcases h i with a|⟨a,d,f,e⟩
 .have:=c i;rw[a]at this;exact this
 .rcases c i with b|⟨b,g,k3,j⟩
  .rw[b];exact .inr ⟨a,d,f,e⟩
  .exact .inr ⟨b.trans a,iN d g,k3,e⟩
def df.bq{s:S}{id:Nat}{o:Ob real}(b:o=.gone\/∃e a x,o=.bQ e a x)(c:(s.ob id).o≠.gone):df s (s.bq id true o):=by
 intro i;by_cases e:i=id
 .subst e;rw[St.ay];exact .inr ⟨rfl,ot _,b,c⟩
 .exact .inl (St.aO _ _ _ e)
def df.gone{s s':S}(h:df s s'){i:Nat}(a:(s.ob i).o=.gone):(s'.ob i).o=.gone:=by
 rcases h i with h|⟨_,_,_,h⟩
 .rw[h];exact a
 .exact absurd a h
def df.blk{s s':S}(h:df s s'){i:Nat}{c:List L}(b:(s'.ob i).o=.blk c):s'.ob i=s.ob i:=by
 rcases h i with h|⟨_,_,a,_⟩
 .exact h
 .rcases a with a|⟨_,_,_,a⟩ <;> (rw[b]at a;cases a)
def df.g{s s':S}(h:df s s')(i:Nat):(s'.ob i).g=(s.ob i).g:=by
 rcases h i with h|⟨h,_⟩
 .rw[h]
 .exact h
def df.h{s s':S}(h:df s s')(i:Nat):(s.ob i).h<=(s'.ob i).h:=by
 rcases h i with h|⟨_,h,_⟩
 .rw[h];exact aJ _
 .exact h
def rK{t:Ty}{l:L}{s:S}{q:real.V t×S}(h:bF (A:=real) false t l s=some q):df s q.2:=by
 unfold bF at h;split at h
 .simp only[aW]at h;split at h
  .injection h with h;subst h;exact .refl _
  .cases h
 .simp only[aW]at h;split at h
  .injection h with h;subst h;exact .refl _
  .cases h
 .split at h
  .injection h with h;subst h;exact .refl _
  .cases h
 .split at h
  .injection h with h;subst h;exact .refl _
  .cases h
 .rename_i id g _;cases a:Nat.beq (s.ob id).g g with
  |false=>rw[a]at h;cases h
  |true=>
   rw[a]at h;simp only[az]at h;split at h
   .rename_i e c d x b;split at h
    .simp only[aW]at h;injection h with h;subst h
     exact .bq (.inr ⟨_,_,_,rfl⟩) (by rw[b];exact λe=>by cases e)
    .cases h
   .simp only[aW]at h;split at h
    .injection h with h;subst h;exact .refl _
    .cases h
   .cases h
 .cases h
def sZ{e:Nat}{b:ar}{deep:Bool}{l:L}{s:S}{q:real.V (.sl e b)×S}(h:eB (A:=real) e b deep l s=some q):df s q.2:=by
 unfold eB at h;split at h
 .split at h
  .injection h with h;subst h;exact .refl _
  .cases h
 .rename_i id g _;cases d:Nat.beq (s.ob id).g g <;> rw[d]at h
  .cases h
  .simp only[az]at h;split at h
   .rename_i i a c x f;cases hd:(c==deep||a.plain) <;> rw[hd]at h
    .cases h
    .simp only[az]at h;split at h
     .injection h with h;subst h;exact .bq (.inl rfl) (by rw[f];exact λe=>by cases e)
     .cases h
   .cases h
 .cases h
def Ck{k:IntKind}{l:L}{s:S}{q:real.V (.sl 0 (ar.mp k))×S}(h:uM (A:=real) k l s=some q):df s q.2:=by
 unfold uM at h;split at h
 .rename_i id g;cases a:Nat.beq (s.ob id).g g <;> rw[a]at h
  .cases h
  .simp only[az]at h;split at h
   .rename_i c x b;split at h
    .injection h with h;subst h;exact .bq (.inl rfl) (by rw[b];exact λe=>by cases e)
    .cases h
   .cases h
 .cases h
def yU{k:K}{l:L}{s:S}{q:KV real×S}(h:cI k l s=some q):df s q.2:=by
 cases k with
 |val t=>
  simp only[cI]at h;cases a:bF (A:=real) false t l s with
  |none=>rw[a]at h;cases h
  |some p=>rw[a]at h;injection h with h;subst h;exact rK a
 |arr e b deep=>
  simp only[cI]at h;cases a:eB (A:=real) e b deep l s with
  |none=>rw[a]at h;cases h
  |some p=>rw[a]at h;injection h with h;subst h;exact sZ a
 |mp c=>
  simp only[cI]at h;cases a:uM (A:=real) c l s with
  |none=>rw[a]at h;cases h
  |some p=>rw[a]at h;injection h with h;subst h;exact Ck a
def ez:∀ {ks:List K} {ls:List L} {s:S} {q:List (KV real)×S},takes ks ls s=some q->df s q.2
 |[],[],s,q,h=>by injection h with h;subst h;exact .refl _
 |[],_::_,s,q,h=>by cases h
 |_::_,[],s,q,h=>by cases h
 |k::ks,l::ls,s,q,h=>by
  simp only[takes]at h;cases a:cI k l s with
  |none=>rw[a]at h;cases h
  |some p=>
   rw[a]at h;simp only[]at h;cases b:takes ks ls p.2 with
   |none=>rw[b]at h;cases h
   |some c=>rw[b]at h;injection h with h;subst h;exact(show df s c.2 from(yU a).trans (ez b))
def fP{b:ar}{c:cU real}{s:S}{q:List (KV real)×S}(h:bM b c s=some q):df s q.2:=by
 unfold bM at h;split at h
 .split at h
  .rename_i ls f;cases a:takes b.ks ls s with
   |none=>rw[a]at h;cases h
   |some p=>
    rw[a]at h;simp only[]at h;split at h
    .rename_i id g _ _ _ c d;injection h with h;subst h;exact(ez a).trans (.bq (.inl rfl) (by rw[d];exact λe=>by cases e))
    .cases h
  .cases h
 .split at h
  .injection h with h;subst h;exact .refl _
  .cases h
def mC:∀ {a:List ar} {b:List (cU real)} {s:S} {q:List (KV real)×S},bX a b s=some q->df s q.2
 |[],[],s,q,h=>by injection h with h;subst h;exact .refl _
 |[],_::_,s,q,h=>by cases h
 |_::_,[],s,q,h=>by cases h
 |g::d,c::b,s,q,h=>by
  simp only[bX]at h;cases e:bM g c s with
  |none=>rw[e]at h;cases h
  |some p=>
   rw[e]at h;simp only[]at h;cases f:bX d b p.2 with
   |none=>rw[f]at h;cases h
   |some i=>rw[f]at h;injection h with h;subst h;exact(show df s i.2 from(fP e).trans (mC f))
def lG{c:Cp}{v:cU real}{s:S}{q:List (KV real)×S}(h:eX c v s=some q):df s q.2:=by
 unfold eX at h;split at h
 .exact fP h
 .split at h
  .rename_i ls a;split at h
   .rename_i b;injection h with h;subst h
    exact(df.bq (.inl rfl) (by rw[(cM a).2];exact λe=>by cases e)).trans (ez b)
   .cases h
  .cases h
 .cases h
def j9:∀ {a:List Cp} {b:List (cU real)} {s:S} {q:List (KV real)×S},b7 a b s=some q->df s q.2
 |[],[],s,q,h=>by injection h with h;subst h;exact .refl _
 |[],_::_,s,q,h=>by cases h
 |_::_,[],s,q,h=>by cases h
 |g::d,c::b,s,q,h=>by
  simp only[b7]at h;cases e:eX g c s with
  |none=>rw[e]at h;cases h
  |some p=>
   rw[e]at h;simp only[]at h;cases f:b7 d b p.2 with
   |none=>rw[f]at h;cases h
   |some i=>rw[f]at h;injection h with h;subst h;exact(show df s i.2 from(lG e).trans (j9 f))
def lH{k:Sh}{v:bK}{s:S}{q:List (KV real)×S}(h:bL k v s=some q):df s q.2:=by
 unfold bL at h;split at h
 .exact fP h
 .exact fP h
 .rename_i f a b i;cases c:Nat.beq f b <;> rw[c]at h
  .cases h
  .exact mC h
 .rename_i f a b i;cases c:Nat.beq f b <;> rw[c]at h
  .cases h
  .exact j9 h
 .exact ez h
 .exact ez h
 .rename_i ks id g;split at h
  .rename_i ls d;split at h
   .rename_i j;injection h with h;subst h
    exact(df.bq (.inl rfl) (by rw[(cM d).2];exact λe=>by cases e)).trans (ez j)
   .cases h
  .cases h
 .cases h
def iy:∀ {a:List Sh} {d:List bK} {s:S} {q:List (KV real)×S},bz a d s=some q->df s q.2
 |[],[],s,q,h=>by injection h with h;subst h;exact .refl _
 |[],_::_,s,q,h=>by cases h
 |_::_,[],s,q,h=>by cases h
 |f::a,v::d,s,q,h=>by
  simp only[bz]at h;cases b:bL f v s with
  |none=>rw[b]at h;cases h
  |some p=>
   rw[b]at h;simp only[]at h;cases c:bz a d p.2 with
   |none=>rw[c]at h;cases h
   |some e=>rw[c]at h;injection h with h;subst h;exact(show df s e.2 from(lH b).trans (iy c))
def DN{deep:Bool}{t:Ty}{l:L}{s:S}{q:real.V t×S}(h:bF (A:=real) deep t l s=some q):df s q.2:=by
 cases deep with
 |false=>exact rK h
 |true=>
  unfold bF at h;split at h
  .cases h
  .cases h
  .split at h
   .injection h with h;subst h;exact .refl _
   .cases h
  .split at h
   .injection h with h;subst h;exact .refl _
   .cases h
  .rename_i id g _;cases a:Nat.beq (s.ob id).g g with
   |false=>rw[a]at h;cases h
   |true=>
    rw[a]at h;simp only[az]at h;split at h
    .split at h <;> cases h
    .cases h
    .cases h
  .cases h
end
variable {H:Nat->Value}
open Classical
def DM(w:World)(d:aq)(c:World)(a:aq)(k k':Key):Prop:=∀b r,b<w.heap.size->d b=some (k.1,k.2++r)->c.heap[b]? = w.heap[b]? /\ a b=some (k'.1,k'.2++r)
def DM.inner{w w':World}{c a:aq}{k k':Key}(h:DM w c w' a k k')(i j:Nat):DM w c w' a (k.1,k.2++[(i,j)]) (k'.1,k'.2++[(i,j)]):=by intro b r d e;have:=h b ((i,j)::r) d (by simpa using e);simpa using this
mutual
def Ty.fF{w w':World}{A g:aq}:∀(t:Ty) (k f:Key) (v:Value) (x:t.T),DM w A w' g k f->t.R w A (.deep k) v x->t.R w' g (.deep f) v x
 |.int _,_,_,_,_,_,h=>h
 |.bool,_,_,_,_,_,h=>h
 |.str,_,_,_,_,_,h=>h
 |.map _,_,_,_,_,_,h=>by
  rcases h with h|⟨D,_⟩
  .exact .inl h
  .cases D
 |.sl e B,k,f,v,x,H,h=>by
  obtain⟨a,n,c,r,s,u,o,C⟩:=h;rcases o with o|⟨b,arr,y,z,E,F⟩
  .exact⟨a,n,c,r,s,u,.inl o,λi l q=>absurd q (by omega)⟩
  .have m:=H b [] (aM z) (by rw[fa];exact F);rw[fa]at m;refine⟨a,n,c,r,s,u,.inr ⟨b,arr,y,m.1.trans z,E,m.2⟩,λi l q d=>?_⟩;have p:l.block=b:=by rw[y]at d;injection d with d;rw[<-d]
   exact ar.fF B (λj=>(k.1,k.2++[(i,j)])) (λj=>(f.1,f.2++[(i,j)])) _ _ 0 _ (λj=>H.inner i j) (λj=>by exact fN (a:=⟨l.block,_,none⟩) (by simpa[p] using m.1)) (C i l q d)
def ar.fF{w w':World}{f b:aq}:∀(d:ar) (k a:Nat->Key) (g c:Nat->Option Value) (j:Nat) (x:d.T),(∀j,DM w f w' b (k j) (a j))->(∀j,c j=g j)->d.R w f (λj=>.deep (k j)) g j x->d.R w' b (λj=>.deep (a j)) c j x
 |.nil,_,_,_,_,_,_,_,_,_=>trivial
 |.cons t ts,k,a,g,c,j,x,H,e,h=>by obtain⟨⟨v,i,l⟩,m⟩:=h;exact⟨⟨v,(e j).trans i,Ty.fF t (k j) (a j) v _ (H j) l⟩,ar.fF ts k a g c (j+1) _ H e m⟩
end
def iI{w:World}{i:aq}:∀(d:ar) (c:Nat->Md) (g:Nat->Option Value) (a:Nat) (y:d.T),
  d.R w i c g a y↔∀j t x,cellAt (A:=real) d y j=some ⟨t,x⟩->∃v,g (a+j)=some v/\t.R w i (c (a+j)) v x
 |.nil,_,_,_,_=>⟨λ_ _ _ _ h=>(nomatch h),λ_=>trivial⟩
 |.cons t ts,c,g,a,y=>by
  constructor
  .intro ⟨⟨v,k,l⟩,m⟩ j u x b;cases j with
   |zero=>have b:=aG b;cases b;exact⟨v,k,l⟩
   |succ j=>obtain⟨v,e,f⟩:=(iI ts c g (a+1) _).1 m j u x b;rw[show a+1+j=a+(j+1)by omega]at e f;exact⟨v,e,f⟩
  .intro h;refine⟨h 0 t _ rfl,(iI ts c g (a+1) _).2 λj u x b=>?_⟩;have:=h (j+1) u x b;rwa[show a+(j+1)=a+1+j by omega]at this
def iE:∀(a:ar) (y b:a.T) (j:Nat) (q:Sigma real.V),setCell (A:=real) a y j q=some b->∀i,cellAt (A:=real) a b i=if i=j then some q else cellAt (A:=real) a y i
 |.nil,_,_,_,_,h=>by cases h
 |.cons t ts,y,b,0,⟨u,v⟩,h=>by
  simp only[setCell]at h;split at h
  .rename_i c;have h:=aG h;subst h;obtain rfl:=Ty.eq_of_beq c;intro i;cases i with
   |zero=>simp only[cellAt,if_true];have:real.hd (real.cn (t:=u) (ts:=ts) (real.cast c v) (real.tl y))=v:=kI _ _;rw[this]
   |succ i=>rw[bc (by omega)];simp only[cellAt];have:real.tl (real.cn (t:=u) (ts:=ts) (real.cast c v) (real.tl y))=real.tl y:=kK _ _;rw[this]
  .cases h
 |.cons t ts,y,b,j+1,q,h=>by
  simp only[setCell]at h;cases d:setCell (A:=real) ts (real.tl y) j q with
  |none=>rw[d]at h;cases h
  |some z=>
   rw[d]at h;have h:=aG h;subst h;intro i;cases i with
   |zero=>rw[bc (by omega)];simp only[cellAt];have:real.hd (real.cn (t:=t) (ts:=ts) (real.hd y) z)=real.hd y:=kI _ _;rw[this]
   |succ i=>
    simp only[cellAt];have:real.tl (real.cn (t:=t) (ts:=ts) (real.hd y) z)=z:=kK _ _;rw[this,iE ts _ z j q d i];by_cases e:i=j
    .rw[cz e,cz (by omega)]
    .rw[bc e,bc (by omega)]
def mI:∀(b:List (KV real)) (a:ar) (y c:a.T) (j:Nat),setRow (A:=real) a y j b=some c->∀i,cellAt (A:=real) a c i=if j<=i/\i<j+b.length then(b[i-j]?).map KV.sig else cellAt (A:=real) a y i
 |[],a,y,c,j,h,i=>by have h:=aG h;subst h;rw[bc (by rintro⟨k,g⟩;simp at g;omega)]
 |v::b,a,y,c,j,h,i=>by
  simp only[setRow]at h;cases d:setCell (A:=real) a y j v.sig with
  |none=>rw[d]at h;cases h
  |some z=>
   rw[d]at h;rw[mI b a z c (j+1) h i,iE a y z j _ d i,cK];by_cases e:i=j
   .subst e;rw[bc (by omega),cz rfl,cz (by omega),pg];rfl
   .rw[bc e];by_cases f:j+1<=i/\i<j+1+b.length
    .rw[cz f,cz (by omega),show i-j=(i-(j+1))+1 by omega];rfl
    .rw[bc f,bc (by omega)]
def wl:∀(b:ar) (a:List (KV real)) (x:b.T),qj (A:=real) b a=some x->a.length=b.len/\∀i,i<b.len->cellAt (A:=real) b x i=(a[i]?).map KV.sig
 |.nil,[],_,_=>⟨rfl,λi d=>absurd d (by simp[ar.len])⟩
 |.nil,_::_,_,h=>by cases h
 |.cons _ _,[],_,h=>by cases h
 |.cons t ts,v::a,x,h=>by
  simp only[qj]at h;split at h
  .rename_i c;cases f:qj (A:=real) ts a with
   |none=>rw[f]at h;cases h
   |some y=>
    rw[f]at h;have h:=aG h;subst h;obtain⟨j,k⟩:=wl ts a y f;refine⟨by simp[j,ar.len],λi d=>?_⟩;cases i with
    |zero=>simp only[cellAt];have:real.hd (real.cn (t:=t) (ts:=ts) (real.cast c v.sig.2) y)=real.cast c v.sig.2:=kI _ _;rw[this];generalize g:v.sig=q at c;obtain⟨u,z⟩:=q;have e:u=t:=Ty.eq_of_beq c;subst e;simp only[Br,cj,g];rfl
    |succ i=>simp only[cellAt];have:real.tl (real.cn (t:=t) (ts:=ts) (real.cast c v.sig.2) y)=y:=kK _ _;rw[this,k i (by simp[ar.len]at d;omega)];rfl
  .cases h
def mH:∀(a:ar) (x:a.T) (i:Nat) q,cellAt (A:=real) a x i=some q->i<a.len
 |.nil,_,_,_,h=>by cases h
 |.cons _ _,_,0,_,_=>by simp[ar.len]
 |.cons _ ts,x,i+1,q,h=>by have:=mH ts _ i q h;simp[ar.len];omega
def vC{w w':World}{f a:aq}{b:Nat}{v:KV real}{u:Value}{k:Key}(g:∀t,v.1=.val t->t.atom)(hd:(∀e c d,v.1=.arr e c d->d=true)/\∀m,v.1≠.mp m)(H:DM w f w' a (b,[]) k)(h:DS w f b v u):v.sig.1.R w' a (.deep k) u v.sig.2:=by
 obtain⟨i,x⟩:=v;cases i with
 |val t=>exact Ty.fZ (g t rfl) h
 |arr e c d=>have:=hd.1 e c d rfl;subst this;exact Ty.fF (.sl e c) (b,[]) k u x H h
 |mp m=>exact absurd rfl (hd.2 m)
def ym:∀(a:ar) (i:Nat) (k:K),a.kd[i]? = some k->(∀t,k=.val t->t.atom)/\(∀e c d,k=.arr e c d->d=true)/\∀m,k≠.mp m
 |.nil,i,k,h=>by simp[ar.kd]at h
 |.cons t ts,0,k,h=>by
  cases t <;> (simp only[ar.kd,Br,Option.some.injEq]at h;subst h)
  .exact⟨λt e=>by injection e with e;subst e;exact⟨λ_ _ h=>(by cases h),λ_ h=>(by cases h)⟩,(λ_ _ _ h=>(by cases h)),λ_ h=>(by cases h)⟩
  .exact⟨λt e=>by injection e with e;subst e;exact⟨λ_ _ h=>(by cases h),λ_ h=>(by cases h)⟩,(λ_ _ _ h=>(by cases h)),λ_ h=>(by cases h)⟩
  .exact⟨λt e=>by injection e with e;subst e;exact⟨λ_ _ h=>(by cases h),λ_ h=>(by cases h)⟩,(λ_ _ _ h=>(by cases h)),λ_ h=>(by cases h)⟩
  .exact⟨λt e=>(by cases e),(λ_ _ _ h=>(by injection h with _ _ h;exact h.symm)),λ_ h=>(by cases h)⟩
  .exact⟨λt e=>(by cases e),(λ_ _ _ h=>(by injection h with _ _ h;exact h.symm)),λ_ h=>(by cases h)⟩
 |.cons t ts,i+1,k,h=>ym ts i k (by simpa[ar.kd] using h)
def B2:∀a:ar,a.kd.length=a.len
 |.nil=>rfl
 |.cons t ts=>by simp[ar.kd,ar.len,B2 ts]
def qC{w:World}{e:aq}:∀ {d:List (KV real)} {c:List Value} {b:Nat},fp w e b d c->∀(k:Nat) (v:KV real),d[k]? = some v->∃u,c[k]? = some u/\DS w e (b+k) v u
 |[],[],_,_,k,v,h=>by simp at h
 |i::_,u::_,b,h,0,v,a=>by simp at a;subst a;exact⟨u,rfl,h.1⟩
 |_::d,_::c,b,h,k+1,v,a=>by obtain⟨u,f,g⟩:=qC h.2 k v (by simpa using a);exact⟨u,by simpa using f,by rwa[show b+1+k=b+(k+1)by omega]at g⟩
 |[],_::_,_,h,_,_,_=>h.elim
 |_::_,[],_,h,_,_,_=>h.elim
def dN(i:IV)(j:Nat)(p:iU):aC ((i,j)::p)=(i.i.toNat,j)::aC p:=rfl
def kj{i j a b:Nat}{p r:List (Nat×Nat)}(h:¬(i=a/\j=b)):¬((i,j)::p <+: (a,b)::r):=by intro ⟨t,e⟩;simp only[kR,sQ,Prod.mk.injEq]at e;exact h e.1
def qm{w w':World}{T C:aq}{id:Nat}{c:Cont real}{y:List c.cs.T}:∀(p:iU) (q:List (Nat×Nat)) (e:Nat) (d:ar) (x W:List d.T) (v:Value),
  follow 2 e d x p=some c->putAt (A:=real) c y e d x p=some W ->
  (∀b r,b<w.heap.size->T b=some (id,q++r) -> ¬aC p <+: r->w'.heap[b]? = w.heap[b]? /\ C b=some (id,q++r)) ->
  (∀u,(Ty.sl c.e c.cs).R w T (.deep (id,q++aC p)) u c.x->(Ty.sl c.e c.cs).R w' C (.deep (id,q++aC p)) u y) ->
  (Ty.sl e d).R w T (.deep (id,q)) v x->(Ty.sl e d).R w' C (.deep (id,q)) v W
 |[],q,e,d,x,W,v,B,g,M,U,h=>by
  have B:=aG B;subst B;unfold putAt at g;simp only[l9]at g;split at g
  .have g:=aG g;subst g;have:=U v (by rw[show aC []=[]from rfl,fa];exact h);rw[show aC []=[]from rfl,fa]at this;exact this
  .cases g
 |(i,j)::p,q,e,d,x,W,v,B,g,M,U,h=>by
  unfold putAt at g;simp only[follow]at B;simp only[l9]at g;cases Z:cellAt (A:=real) d (real.get x i) j with
  |none=>rw[Z]at B;cases B
  |some z=>
   obtain⟨t,y1⟩:=z;rw[Z]at B g;cases t with
   |sl K l=>
    simp only at B g;cases hm:l9 (A:=real) (λK l _=>if h:Ty.beq (.sl c.e c.cs) (.sl K l)=true then some (real.cast h y)else none) K l y1 p with
    |none=>rw[hm]at g;cases g
    |some S=>
     rw[hm]at g;simp only at g;cases hs:setCell (A:=real) d (real.get x i) j ⟨.sl K l,S⟩with
     |none=>rw[hs]at g;cases g
     |some L=>
      rw[hs]at g;have g:=aG g;subst g;rw[dN]at M U;obtain⟨a,n,cp,h1,h2,h3,X,h5⟩:=h;have F:List.length (real.put (e:=e) x i L)=n:=by have:List.length (real.put (e:=e) x i L)=List.length x:=jw;rw[this];exact h2
      rcases X with X|⟨b,arr,q1,q2,q3,q4⟩
      .exact⟨a,n,cp,h1,F,h3,.inl X,λi D E=>absurd E (by omega)⟩
      .have V:=M b [] (aM q2) (by rw[fa];exact q4) (by simp);rw[fa]at V;refine⟨a,n,cp,h1,F,h3,.inr ⟨b,arr,q1,V.1.trans q2,q3,V.2⟩,λk D hi' O=>?_⟩;have Y:D.block=b:=by rw[q1]at O;injection O with O;rw[<-O]
       have G:=h5 k D hi' O;have s:∀m,w'.cell? ⟨D.block,m,none⟩=w.cell? ⟨D.block,m,none⟩:=λm=>fN (a:=⟨D.block,m,none⟩) (by simpa[Y] using V.1);have other:∀f t z,cellAt (A:=real) d (List.getD x k (jk d)) f=some ⟨t,z⟩ -> ¬((i.i).toNat=k/\j=f)->∃v,w'.cell? ⟨D.block,D.off+k*d.len+(0+f),none⟩=some v/\t.R w' C (.deep (id,q++[(k,0+f)])) v z:=by
        intro f t z o J;obtain⟨u,m1,m2⟩:=(iI d _ _ 0 _).1 G f t z o;refine⟨u,(s _).trans m1,?_⟩;rw[bC]at m2⊢;refine Ty.fF t (id,q++[(k,f)]) (id,q++[(k,f)]) u z (λN r H hk=>?_) m2;have I:T N=some (id,q++(k,f)::r):=by simpa using hk
        have:=M N ((k,f)::r) H I (kj J);simpa using this
       have P:List.getD (real.put (e:=e) x i L:List d.T) k (jk d)=if k=(i.i).toNat then L else List.getD x k (jk d):=by
        by_cases Q:(i.i).toNat<List.length x
        .exact lC x _ _ _ _ Q
        .have Fb:(real.put (e:=e) x i L:List d.T)=x:=List.set_eq_of_length_le (by show _<=(IV.i i).toNat;omega);have J:¬k=(i.i).toNat:=by rw[h2]at Q;omega
         rw[Fb];exact(bc J).symm
       rw[P];refine(iI d _ _ 0 _).2 λf t z o=>?_;by_cases E:k=(i.i).toNat
       .rw[cz E]at o;rw[iE d _ L j _ hs f]at o;by_cases hj:f=j
        .subst hj;rw[cz rfl]at o;have o:=aG o;cases o;have Gb:cellAt (A:=real) d (List.getD x k (jk d)) f=some ⟨.sl K l,y1⟩:=by rw[E];exact Z
         obtain⟨u,m1,m2⟩:=(iI d _ _ 0 _).1 G f _ _ Gb;refine⟨u,(s _).trans m1,?_⟩;rw[bC]at m2⊢;refine qm p (q++[(k,f)]) K l y1 S u B hm (λN r H hk hn=>?_) (λu' R=>?_) m2
         .have I:T N=some (id,q++(k,f)::r):=by simpa using hk
          have:=M N ((k,f)::r) H I (by intro ⟨t,et⟩;simp only[kR,sQ]at et;exact hn ⟨t,et.2⟩);simpa using this
         .have e1:q++[(k,f)]++aC p=q++((i.i).toNat,f)::aC p:=by rw[E];simp
          rw[e1]at R⊢;exact U u' R
        .rw[bc hj]at o;have Iv:cellAt (A:=real) d (List.getD x k (jk d)) f=some ⟨t,z⟩:=by rw[E];exact o
         exact other f t z Iv (λh=>hj h.2.symm)
       .rw[bc E]at o;exact other f t z o (λh=>E h.1.symm)
   |_=>cases B
def tN{c:Cont real}{y:List c.cs.T}(g:y.length=List.length c.x):∀(p:iU) (e:Nat) (b:ar) (x f:List b.T),follow 2 e b x p=some c->putAt (A:=real) c y e b x p=some f->f.length=x.length
 |[],e,b,x,f,d,a=>by
  have d:=aG d;subst d;unfold putAt at a;simp only[l9]at a;split at a
  .have a:=aG a;subst a;exact g
  .cases a
 |(i,j)::p,e,b,x,f,d,a=>by
  unfold putAt at a;simp only[l9]at a;split at a
  .split at a
   .split at a
    .have a:=aG a;subst a;exact jw
    .cases a
   .cases a
  .cases a
section
variable {R:Type}{P:Program}{E:Env}{ω:aq}{a:Act}{w:World}{s:S}{k:S->Option R}{r:R}{o:Oper}{Q:Exit->Act->World->Prop}
def Rel.BS (h:Rel H ω a w s) {c:aq} {e:World} {d:S} (f:cH ω w c e) (q:∀b j k,c b=some k->c j=some k->b=j) (hd:∀b k,c b=some k->b<e.heap.size)
  (g:d.sl=s.sl) (o:(d.ob 0).o=.gone) (tr:∀id,Tr w ω s e c d id)
  (p:∀id cells,(d.ob id).o=.blk cells->d.ob id=s.ob id/\∀b,ω b=some (id,[])->e.heap[b]? = w.heap[b]? /\ c b=some (id,[])):Rel H c a e d where
 dH:=h.dH.ext f
 inj:=q
 dom:=hd
 defers:=h.defers
 slots i:=by rw[g];exact cQ.frame f tr (h.slots i)
 dJ:=o
 c7 id cells hc:=by obtain⟨t,u⟩:=p id cells hc;rw[t]at hc;obtain⟨b,arr,T,l,m,n⟩:=h.c7 id cells hc;obtain⟨v,x⟩:=u b l;exact⟨b,arr,T,x,v.trans m,n.mono λ_ _ r=>bU.frame f tr r⟩
def Tr.nJ{f:S}{j:aq}{l:World}{id:Nat}(b:(f.ob id).g=(s.ob id).g)(m:(s.ob id).h<=(f.ob id).h)(d:(f.ob id).o=.gone):Tr w ω s l j f id where
 ref v g h p hr:=⟨by rw[b];exact hr.1,by have:=hr.2.1;rw[b];split at this <;> split <;> omega,λc a=>(fS d a).elim⟩
 ptr v g off hr:=⟨by rw[b];exact hr.1,λ_ cells a=>by rw[d]at a;cases a⟩
 bH v g h p i off hr:=⟨by rw[b];exact hr.1,by have:=hr.2.1;rw[b];split at this <;> split <;> omega,λc a=>(fS d a).elim⟩
 cD v g hr:=hr.shut b λk x e=>by rw[d]at e;cases e
def Tr.Bz {n:S} {o:aq} {G:World} {id e:Nat} {q:ar} {r:Bool} {x x':List q.T} (D:(s.ob id).o=.arr e q r x) (u:(n.ob id).g=(s.ob id).g) (Y:(s.ob id).h<(n.ob id).h) (f:(n.ob id).o=.arr e q r x') (Q:x'.length=x.length)
  (l:∀b,ω b=some (id,[])->o b=some (id,[]))
  (E:∀v,(Ty.sl e q).R w ω (aI (bif r then 2 else 1) id []) v x->(Ty.sl e q).R G o (aI (bif r then 2 else 1) id []) v x'):Tr w ω s G o n id:=by
 have y:∀(g h:Nat) (p:iU) (c:Cont real),h<=(s.ob id).h+(if g=(s.ob id).g then 0 else h)->n.cont id g h p=some c->p=[]/\g=(s.ob id).g/\c=⟨e,q,x',bif r then 2 else 1⟩:=by
  intro g h p c d j;obtain⟨m,z⟩:=dz j;rw[u]at m;rw[cz m.symm]at d;rcases z with ⟨J,t,K,A⟩|⟨_,_,_,_,_,A,_⟩|⟨t,_,_⟩
  .rw[f]at t;refine⟨K,m.symm,?_⟩;obtain⟨ce,H,X,I⟩:=c;simp only at t A;injection t with L M N O
   subst L;subst M;subst N;subst A;have:=vR O;rw[this]
  .omega
  .rw[f]at t;cases t
 have d:∀g h,h<=(s.ob id).h+(if g=(s.ob id).g then 0 else h)->h<=(n.ob id).h+(if g=(n.ob id).g then 0 else h):=by intro g h P;rw[u];split at P <;> split <;> omega
 exact
 {ref:=λv g h p a=>⟨by rw[u];exact a.1,d _ _ a.2.1,λc j=>by
   obtain⟨m,z,C⟩:=y g h p c a.2.1 j;subst m;subst C;exact E v (a.2.2 _ (bW (h:=h) D z))⟩
  ptr:=λv g B a=>⟨by rw[u];exact a.1,λ_ cells j=>by rw[f]at j;cases j⟩
  bH:=λv g h p i B a=>⟨by rw[u];exact a.1,d _ _ a.2.1,λc j Z=>by obtain⟨m,z,C⟩:=y g h p c a.2.1 j;subst m;subst C;obtain⟨R,T,⟨b,U,W⟩,F,V⟩:=a.2.2 _ (bW (h:=h) D z) (ku r);refine⟨R,?_,⟨b,l b U,W⟩,F,E F V⟩;show IV.i i<((x'.length:Nat):Int);rw[Q];exact T⟩
  cD:=λv g a=>a.shut u λk x e=>by rw[f]at e;cases e }
def aq.via(c:aq)(a:Key->Option Key):aq:=λb=>(c b).bind a
def lJ{κ:Key->Option Key}{b:Nat}{c:Key}(h:ω.via κ b=some c):∃k,ω b=some k/\κ k=some c:=by
 unfold aq.via at h;cases a:ω b with
 |none=>rw[a]at h;cases h
 |some k=>rw[a]at h;exact⟨k,rfl,h⟩
def CO{a:Key->Option Key}{b:Nat}(h:ω b=none):ω.via a b=none:=by unfold aq.via;rw[h];rfl
def cr{a:Key->Option Key}{b:Nat}{k:Key}(h:ω b=some k):ω.via a b=a k:=by unfold aq.via;rw[h];rfl
def qy{c:Key->Option Key}(l:∀b a k,ω b=some k->ω a=some k->b=a)(m:∀k d q,c k=some q->c d=some q->k=d)(b a:Nat)(k:Key)(h:ω.via c b=some k)(j:ω.via c a=some k):b=a:=by obtain⟨n,e,f⟩:=lJ h;obtain⟨o,g,i⟩:=lJ j;have:=m n o k f i;subst this;exact l b a _ e g
def qx{κ:Key->Option Key}(hd:∀b k,ω b=some k->b<w.heap.size)(b:Nat)(k:Key)(h:ω.via κ b=some k):b<w.heap.size:=by obtain⟨c,a,_⟩:=lJ h;exact hd b c a
def oZ{a:Key->Option Key}(c:∀p,a (0,p)=some (0,p)){b:Nat}(h:my ω b):ω.via a b=ω b:=by
 rcases h with h|⟨q,h⟩
 .rw[h];exact CO h
 .rw[cr h,h,c]
end
end Go.R
namespace Go.R
variable {H:Nat->Value}
open Classical
section
variable {R:Type}{P:Program}{E:Env}{ω:aq}{a:Act}{w:World}{s:S}{k:S->Option R}{r:R}{o:Oper}{Q:Exit->Act->World->Prop}
def mW:∀ {ks:List K} {ls:List L} {s:S} {f:List (KV real)} {g:S},takes ks ls s=some (f,g)->f.map (·.1)=ks
 |[],[],_,_,_,h=>by injection h with h;injection h with h _;subst h;rfl
 |[],_::_,_,_,_,h=>by cases h
 |_::_,[],_,_,_,h=>by cases h
 |k::ks,l::ls,s,f,g,h=>by
  simp only[takes]at h;cases a:cI k l s with
  |none=>rw[a]at h;cases h
  |some p=>
   rw[a]at h;simp only[]at h;cases c:takes ks ls p.2 with
   |none=>rw[c]at h;cases h
   |some n=>
    rw[c]at h;injection h with h
    injection h with h _
    subst h;have j:p.1.1=k:=by
     cases k with
     |val t=>
      simp only[cI]at a;cases b:bF (A:=real) false t l s with
      |none=>rw[b]at a;cases a
      |some q=>rw[b]at a;injection a with a;subst a;rfl
     |arr e i d=>
      simp only[cI]at a;cases b:eB (A:=real) e i d l s with
      |none=>rw[b]at a;cases a
      |some q=>rw[b]at a;injection a with a;subst a;rfl
     |mp m=>
      simp only[cI]at a;cases b:uM (A:=real) m l s with
      |none=>rw[b]at a;cases a
      |some q=>rw[b]at a;injection a with a;subst a;rfl
    simp[j,mW c]
def DB(a:List (Nat×Nat))(i0 off n:Nat)(p:List (Nat×Nat)):Prop:=∃k r,k<n/\p=a++(i0,off+k)::r
noncomputable def ea(m:List (Nat×Nat))(lo tid:Nat)(a:List (Nat×Nat))(i0 off n:Nat):Key->Option Key:=λk=>
 match m.find? (λq=>q.1==k.1)with
 |some q=>some (tid,a++(i0,off+(q.2-lo))::k.2)
 |none=>if k.1=tid/\DB a i0 off n k.2 then none else some k
def eP{m:List (Nat×Nat)}{i:Nat}{q:Nat×Nat}(h:m.find? (λq=>q.1==i)=some q):(i,q.2)∈m:=by have a:=je h;have b:=jS h;simp at a;rw[<-a];exact b
def Ag{m:List (Nat×Nat)}{i:Nat}(h:m.find? (λq=>q.1==i)=none)(j:Nat):(i,j)∉m:=by intro a;have:=pX.1 h (i,j) a;simp at this
def zp{o:World}{c d:aq}{l n:S}{m:List (Nat×Nat)}{k g:Nat}(f:bT o c l d n m k g){i j:Nat}(h:(i,j)∈m):m.find? (λq=>q.1==i)=some (i,j):=by
 cases b:m.find? (λq=>q.1==i)with
 |none=>exact absurd h (Ag b j)
 |some q=>have e:=eP b;have a:=je b;simp at a;have:=f.fn i j q.2 h e;obtain⟨p,r⟩:=q;simp only at this a;rw[this,a]
def CE{w:World}{i j:aq}{u v:S}{m:List (Nat×Nat)}{lo n tid:Nat}{p:List (Nat×Nat)}{o d:Nat}(e:bT w i u j v m lo (lo+n))(k k' q:Key)(h:ea m lo tid p o d n k=some q)(a:ea m lo tid p o d n k'=some q):k=k':=by
 unfold ea at h a;cases f:m.find? (λq=>q.1==k.1)with
 |some z=>
  rw[f]at h;have h:=aG h;have m1:=eP f;have x:=e.oh _ _ m1;cases b:m.find? (λq=>q.1==k'.1)with
  |some g=>
   rw[b]at a;have a:=aG a;have m2:=eP b;have t:=e.oh _ _ m2;rw[<-a]at h;injection h with _ h
   have h:=zb h;injection h with l r
   injection l with _ l
   have s:z.2=g.2:=by omega
   rw[<-s]at m2;have:=e.inj _ _ _ m1 m2;exact p7 this r
  |none=>
   rw[b]at a;simp only at a;split at a
   .cases a
   .rename_i c;have a:=aG a;rw[a,<-h]at c;exact absurd ⟨rfl,z.2-lo,k.2,by omega,rfl⟩ c
 |none=>
  rw[f]at h;simp only at h;split at h
  .cases h
  .rename_i c;have h:=aG h;cases b:m.find? (λq=>q.1==k'.1)with
   |some g=>rw[b]at a;have a:=aG a;have t:=e.oh _ _ (eP b);rw[h,<-a]at c;exact absurd ⟨rfl,g.2-lo,k'.2,by omega,rfl⟩ c
   |none=>
    rw[b]at a;simp only at a;split at a
    .cases a
    .have a:=aG a;rw[h,a]
def AC{l:World}{b c:aq}{i j:S}{m:List (Nat×Nat)}{lo hi n tid:Nat}{k:List (Nat×Nat)}{g a:Nat}(f:bT l b i c j m lo hi)(d:tid≠0)(p:List (Nat×Nat)):ea m lo tid k g a n (0,p)=some (0,p):=by
 unfold ea;cases e:m.find? (λq=>q.1==(0,p).1)with
 |some z=>exact absurd rfl (f.nz _ _ (eP e))
 |none=>simp only;rw[bc (λh=>d h.1.symm)]
def yJ{l:World}{b c:aq}{g k:S}{m:List (Nat×Nat)}{lo hi n tid:Nat}{e:List (Nat×Nat)}{d a:Nat}(f:bT l b g c k m lo hi){i j:Nat}(h:(i,j)∈m)(p:List (Nat×Nat)):ea m lo tid e d a n (i,p)=some (tid,e++(d,a+(j-lo))::p):=by unfold ea;rw[zp f h]
def fT{m:List (Nat×Nat)}{lo n tid:Nat}{c:List (Nat×Nat)}{b a:Nat}{k:Key}(h:∀j,(k.1,j)∉m)(e:¬(k.1=tid/\DB c b a n k.2)):ea m lo tid c b a n k=some k:=by
 unfold ea;cases d:m.find? (λq=>q.1==k.1)with
 |some z=>exact absurd (eP d) (h _)
 |none=>simp only;rw[bc e]
def Dr{x:World}{f:aq}{u v:S}{m:List (Nat×Nat)}{lo hi n tid:Nat}{h:List (Nat×Nat)}{g d:Nat}(s:0<lo)(o:bT x f u ω v m lo hi){k:World}(t:∀i j b p,(i,j)∈m->ω b=some (i,p)->k.heap[b]? = w.heap[b]?)(c:Nat)(z:c<n):
  DM w (ω.named m) k (ω.via (ea m lo tid h g d n)) (lo+c,[]) (tid,h++[(g,d+c)]):=by
 intro b r y q;rcases iG q with ⟨a,l⟩|⟨i,a,l,e⟩
 .simp only at a;omega
 .simp only[l7]at a e;refine⟨t i _ b r a e,?_⟩;rw[cr e,yJ o a];simp
def zu(b:ar)(off n:Nat){i:Nat}{k:K}(h:((b.kd.drop off).take n)[i]? = some k):(∀t,k=.val t->t.atom)/\(∀e c d,k=.arr e c d->d=true)/\∀m,k≠.mp m:=by
 have a:i<n:=by have:=(l6.1 h).1;rw[dB]at this;omega
 rw[jv a,pZ]at h;exact ym b _ k h
def qE(w:World)(g:aq)(h:World)(c:aq)(id:Nat)(q:List (Nat×Nat))(e:Nat)(d:ar)(x x':List d.T):Prop:=
 ∀(p:iU) (a:Cont real),follow (A:=real) 2 e d x' p=some a->∃f:List a.cs.T,follow (A:=real) 2 e d x p=some ⟨a.e,a.cs,f,2⟩/\f.length=List.length a.x /\
  (∀b,b<w.heap.size->g b=some (id,q++aC p)->c b=some (id,q++aC p))/\∀v,(Ty.sl a.e a.cs).R w g (.deep (id,q++aC p)) v f->(Ty.sl a.e a.cs).R h c (.deep (id,q++aC p)) v a.x
def qM:∀(b:ar) (j:Nat) (e:Nat) (a:ar) (y:List a.T),cellAt (A:=real) b (jk b) j=some ⟨.sl e a,y⟩->y=[]
 |.nil,_,_,_,_,h=>nomatch h
 |.cons t ts,0,e,a,y,h=>by have h:some (⟨t,kp (jk (.cons t ts))⟩:Sigma real.V)=some ⟨.sl e a,y⟩:=h;have h:=aG h;simp only[jk,kI]at h;cases h;rfl
 |.cons t ts,j+1,e,a,y,h=>by have h:cellAt (A:=real) ts (jP (jk (.cons t ts))) j=some ⟨.sl e a,y⟩:=h;simp only[jk,kK]at h;exact qM ts j e a y h
def zq{a:ar}{e:Nat}(x:List a.T)(i:IV)(h:List.length x<=(IV.i i).toNat):real.get (e:=e) x i=jk a:=by show List.getD x (IV.i i).toNat (jk a)=_;rw[dG,oq h];rfl
def wC:∀(p:iU) (e:Nat) (a:ar) (c:Cont real),follow (A:=real) 2 e a ([]:List a.T) p=some c->List.length c.x=0
 |[],_,_,_,h=>by have h:=aG h;subst h;rfl
 |(i,j)::p,e,a,c,h=>by
  simp only[follow]at h;rw[zq ([]:List a.T) i (kU _)]at h;split at h
  .rename_i d b y f;rw[qM a j d b y f]at h;exact wC p d b c h
  .cases h
def ww{c:Cont real}(h:c.md=2):c=⟨c.e,c.cs,c.x,2⟩:=by cases c;cases h;rfl
def tZ{w w':World}{N B:aq}{id:Nat}{c:Cont real}{y:List c.cs.T}(R:0<List.length c.x):∀(n:iU) (q:List (Nat×Nat)) (e:Nat) (l:ar) (x M:List l.T),
  follow 2 e l x n=some c->putAt (A:=real) c y e l x n=some M ->
  (∀b r,b<w.heap.size->N b=some (id,q++r) -> ¬aC n <+: r->w'.heap[b]? = w.heap[b]? /\ B b=some (id,q++r)) ->
  (∀u,(Ty.sl c.e c.cs).R w N (.deep (id,q++aC n)) u c.x->(Ty.sl c.e c.cs).R w' B (.deep (id,q++aC n)) u y) ->
  qE w N w' B id (q++aC n) c.e c.cs c.x y->qE w N w' B id q e l x M
 |[],q,e,l,x,M,m,f,_,_,T=>by
  have m:=aG m;subst m;unfold putAt at f;simp only[l9]at f;split at f
  .have f:=aG f;subst f;rw[show aC []=[]from rfl,fa]at T;exact T
  .cases f
 |(i,j)::L,q,e,l,x,M,m,f,O,H2,T=>by
  have Y:=m;have If:=f;unfold putAt at f;simp only[follow]at m;simp only[l9]at f;cases P:cellAt (A:=real) l (real.get x i) j with
  |none=>rw[P]at m;cases m
  |some z=>
   obtain⟨t,y1⟩:=z;rw[P]at m f;cases t with
   |sl E k=>
    simp only at m f;cases hm:l9 (A:=real) (λE k _=>if h:Ty.beq (.sl c.e c.cs) (.sl E k)=true then some (real.cast h y)else none) E k y1 L with
    |none=>rw[hm]at f;cases f
    |some S=>
     rw[hm]at f;simp only at f;cases V:setCell (A:=real) l (real.get x i) j ⟨.sl E k,S⟩with
     |none=>rw[V]at f;cases f
     |some X=>
      rw[V]at f;have f:=aG f;have Z:(IV.i i).toNat<List.length x:=by refine Nat.lt_of_not_le λhle=>?_;rw[zq x i hle]at P;rw[qM l j E k y1 P]at m;have:=wC L E k c m;omega
      intro p U d;cases p with
      |nil=>
       have d:=aG d;subst d;refine⟨x,rfl,?_,λb F I=>?_,λv W=>?_⟩
       .rw[<-f];exact(jw).symm
       .exact(O b [] F I (by rw[dN];simp)).2
       .rw[show aC []=[]from rfl,fa]at W⊢;exact qm ((i,j)::L) q e l x M v Y If O H2 W
      |cons ij K=>
       obtain⟨o,g⟩:=ij;have D:real.get (e:=e) M o=if(IV.i o).toNat=(IV.i i).toNat then X else real.get (e:=e) x o:=by rw[<-f];exact lC x _ _ _ _ Z
       have s:∀ {a b:IV},(IV.i a).toNat=(IV.i b).toNat->real.get (e:=e) x a=real.get (e:=e) x b:=fun {a b} h=>by show List.getD x (IV.i a).toNat _=List.getD x (IV.i b).toNat _;rw[h]
       simp only[follow]at d⊢;by_cases H:(IV.i o).toNat=(IV.i i).toNat/\g=j
       .obtain⟨C,h2⟩:=H;subst h2;rw[D,cz C,iE l _ X g _ V g,cz rfl]at d;simp only at d;have e1:q++[((IV.i i).toNat,g)]++aC L=q++aC ((i,g)::L):=by rw[dN];simp
        have e2:q++[((IV.i i).toNat,g)]++aC K=q++aC ((o,g)::K):=by rw[dN,<-C];simp
        have ih:=tZ R L (q++[((IV.i i).toNat,g)]) E k y1 S m hm (λb r F I hn=>by
         have J:N b=some (id,q++((IV.i i).toNat,g)::r):=by simpa using I
         have:=O b (((IV.i i).toNat,g)::r) F J (by rw[dN];intro ⟨t,et⟩;simp only[kR,sQ]at et;exact hn ⟨t,et.2⟩);simpa using this) (by rw[e1];exact H2) (by rw[e1];exact T) K U d
        rw[e2]at ih;rw[s C,P];exact ih
       .have G:cellAt (A:=real) l (real.get (e:=e) M o) g=cellAt (A:=real) l (real.get (e:=e) x o) g:=by
         rw[D];by_cases C:(IV.i o).toNat=(IV.i i).toNat
         .rw[cz C,iE l _ X j _ V g,bc (λh=>H ⟨C,h⟩),s C]
         .rw[bc C]
        rw[G]at d;have AY:U.md=2:=by
         split at d
         .exact fg 2 _ _ _ _ _ d
         .cases d
        have Q:∀r,¬aC ((i,j)::L) <+: aC ((o,g)::K)++r:=λr=>by rw[dN,dN];exact kj (λh=>H ⟨h.1.symm,h.2.symm⟩)
        refine⟨U.x,?_,rfl,λb F I=>?_,λv W=>?_⟩
        .exact d.trans (gi some (ww AY))
        .have:=O b _ F I (by have:=Q [];rwa[fa]at this);exact this.2
        .refine Ty.fF _ (id,q++aC ((o,g)::K)) (id,q++aC ((o,g)::K)) v U.x (λb r F I=>?_) W;have J:N b=some (id,q++(aC ((o,g)::K)++r)):=by rw[<-iD];exact I
         have:=O b _ F J (Q r);rw[<-iD]at this;exact this
   |_=>cases m
def vX{s:S}{id e g h:Nat}{b:ar}{x:List b.T}{p:iU}{c:Cont real}(j:(s.ob id).o=.arr e b true x):s.cont id g h p=some c↔(s.ob id).g=g/\(p=[]\/(s.ob id).h=h)/\follow (A:=real) 2 e b x p=some c:=by
 unfold St.cont fU.cont;rw[j];cases f:Nat.beq (s.ob id).g g with
 |false=>
  have:¬(s.ob id).g=g:=λe=>by rw[e,eN]at f;cases f
  simp[this]
 |true=>
  have i:=bn f;cases p with
  |nil=>simp only[az];exact⟨λh=>⟨i,.inl trivial,h⟩,λh=>h.2.2⟩
  |cons l k=>
   cases a:Nat.beq (s.ob id).h h with
   |false=>
    have:¬(s.ob id).h=h:=λe=>by rw[e,eN]at a;cases a
    simp[this]
   |true=>simp only[az,ow];exact⟨λd=>⟨i,.inr (bn a),d⟩,λd=>d.2.2⟩
def Tr.DZ {r:S} {d:aq} {D:World} {id e:Nat} {t:ar} {x x':List t.T} (hd:∀b k,ω b=some k->b<w.heap.size) (J:(s.ob id).o=.arr e t true x) (j:(r.ob id).g=(s.ob id).g) (z:(r.ob id).h=(s.ob id).h) (l:(r.ob id).o=.arr e t true x')
  (A:qE w ω D d id [] e t x x'):Tr w ω s D d r id:=by
 have n:∀ {g h:Nat} {p:iU} {c:Cont real},r.cont id g h p=some c->c.md=2/\∃m:List c.cs.T,s.cont id g h p=some ⟨c.e,c.cs,m,2⟩/\m.length=List.length c.x /\
   (∀b,b<w.heap.size->ω b=some (id,aC p)->d b=some (id,aC p))/\∀v,(Ty.sl c.e c.cs).R w ω (.deep (id,aC p)) v m->(Ty.sl c.e c.cs).R D d (.deep (id,aC p)) v c.x:=by
  intro g h p c f;obtain⟨E,F,G⟩:=(vX l).1 f;obtain⟨m,o,u,y,q⟩:=A p c G;rw[j]at E;rw[z]at F;exact⟨fg 2 _ _ _ _ _ G,m,(vX J).2 ⟨E,F,o⟩,u,y,q⟩
 exact
 {ref:=λv g h p a=>⟨by rw[j];exact a.1,by rw[j,z];exact a.2.1,λc f=>by
   obtain⟨C,m,o,u,y,q⟩:=n f;rw[C];exact q v (a.2.2 _ o)⟩
  ptr:=λv g B a=>⟨by rw[j];exact a.1,λ_ cells f=>by rw[l]at f;cases f⟩
  bH:=λv g h p i B a=>⟨by rw[j];exact a.1,by rw[j,z];exact a.2.1,λc f O=>by obtain⟨C,m,o,u,y,q⟩:=n f;obtain⟨K,L,⟨b,H,N⟩,I,M⟩:=a.2.2 _ o (by show(2:Nat)≠0;decide);rw[C];exact⟨K,by rw[<-u];exact L,⟨b,y b (hd b _ H) H,N⟩,I,q I M⟩⟩
  cD:=λv g a=>a.shut j λk x e=>by rw[l]at e;cases e }
def Rel.GR (K:Bool) {L:aq} {U:S} {m:List (Nat×Nat)} {lo n tid e:Nat} {A:ar} {x x':List A.T} {l:List (Nat×Nat)} {i0 off bt:Nat} {z:World} (h:Rel H ω a w s) (B:bT w L U ω s m lo (lo+n)) (F:(s.ob tid).o=.arr e A true x) (M:ω bt=some (tid,l)) (u:og w z bt) (O:x'.length=x.length)
  (T:∀v,(Ty.sl e A).R w ω (.deep (tid,[])) v x->(Ty.sl e A).R z (ω.via (ea m lo tid l i0 off n)) (.deep (tid,[])) v x')
  (J:K=false->qE w ω z (ω.via (ea m lo tid l i0 off n)) tid [] e A x x'):
  Rel H (ω.via (ea m lo tid l i0 off n)) a z (s.bq tid K (.arr e A true x'))/\cH ω w (ω.via (ea m lo tid l i0 off n)) z:=by
 have G:tid≠0:=h.pR (by rw[F];exact λe=>by cases e);have D:∀j,(tid,j)∉m:=λj g=>by have:=B.is tid j g;rw[F]at this;cases this
 have I:cH ω w (ω.via (ea m lo tid l i0 off n)) z:=⟨u.os,u.tape,u.output,by rw[u.size];exact aJ _,λb d N=>by
  have t:b≠bt:=λe=>by subst e;exact N.ne M G
  exact⟨u.block b t,oZ (AC B G) N⟩⟩
 have y:∀b,ω b=some (tid,[])->ω.via (ea m lo tid l i0 off n) b=some (tid,[]):=by intro b d;rw[cr d,fT D];rintro⟨_,k,r,_,e⟩;simp at e
 have f:∀j,j≠tid->(∀c,(j,c)∉m)->∀b p,ω b=some (j,p)->z.heap[b]? = w.heap[b]? /\ ω.via (ea m lo tid l i0 off n) b=some (j,p):=by
  intro j C g b p d;have t:b≠bt:=λe=>by subst e;rw[M]at d;injection d with d;injection d with d _;exact C d.symm
  exact⟨u.block b t,by rw[cr d,fT g (λP=>C P.1)]⟩
 refine⟨h.BS I (qy h.inj (CE B)) (λb k E=>by rw[u.size];exact qx h.dom b k E) rfl ?_ (λj=>?_) (λj cells o=>?_),I⟩
 .rw[St.aO _ _ _ (c6 G)];exact h.dJ
 .by_cases i:j=tid
  .subst i;cases K with
   |true=>exact Tr.Bz F (by rw[St.ay]) (by rw[St.ay];exact fK _) (by rw[St.ay]) O y T
   |false=>exact Tr.DZ h.dom F (by rw[St.ay]) (by rw[St.ay];rfl) (by rw[St.ay]) (J rfl)
  .by_cases g:∃c,(j,c)∈m
   .obtain⟨c,g⟩:=g;exact Tr.nJ (by rw[St.aO _ _ _ i]) (by rw[St.aO _ _ _ i];exact aJ _) (by rw[St.aO _ _ _ i];exact B.is j c g)
   .have q:∀c,(j,c)∉m:=λc o=>g ⟨c,o⟩;refine gx.tr ⟨St.aO _ _ _ i,λb R d E C=>?_⟩ I h.dom;obtain⟨Q,p⟩:=R;simp only at C;subst C;rw[E];exact f Q i q b p E
 .have i:j≠tid:=λe=>by subst e;rw[St.ay]at o;cases o
  rw[St.aO _ _ _ i]at o⊢;have q:∀c,(j,c)∉m:=λc g=>by have:=B.is j c g;rw[this]at o;cases o
  exact⟨rfl,λb d=>f j i q b [] d⟩
def AL (h:Rel H ω a w s) {t:Nat} {I:TypeInfo} (hI:P.info? t=some I) {p v:Value} {ls:List L} {s1:S} {id g hh e:Nat} {Y:ar} {x:List Y.T} {d:iU} {i:IV} {off:Nat} (hp:bU w ω s p (.bH id g hh d i off)) (hg:(s.ob id).g=g) (yX:(s.ob id).o=.arr e Y true x)
  (hv:aH (bU w ω s) v.cells.toList ls) (h1:∀u∈v.cells.toList,u.oneCell'=true) (hsz:ls.length=I.size)
  (y:kw s id hh e Y x d i off ls=some s1):∃cu E,(Instr.storeAt t p v).run P w=.ok () E/\Rel H cu a E s1/\cH ω w cu E:=by
 have hcl:v.cells.size=ls.length:=by rw[<-hv.length];simp
 have hvl:v.cells.toList.length=ls.length:=hv.length;unfold kw at y;cases hb:(d.isEmpty||Nat.beq (s.ob id).h hh)with
 |false=>rw[hb]at y;cases y
 |true=>
  rw[hb]at y;simp only[az]at y;cases hf:follow (A:=real) 2 e Y x d with
  |none=>rw[hf]at y;cases y
  |some c=>
   rw[hf]at y;simp only at y;cases ht:takes ((c.cs.kd.drop off).take ls.length) ls s with
   |none=>rw[ht]at y;cases y
   |some q=>
    obtain⟨vs,s2⟩:=q;rw[ht]at y;simp only at y;cases hr:setRow (A:=real) c.cs (real.get c.x i) off vs with
    |none=>rw[hr]at y;cases y
    |some el=>
     rw[hr]at y;simp only at y;cases hx:putAt (A:=real) c (real.put c.x i el) e Y x d with
     |none=>rw[hx]at y;cases y
     |some x'=>
      rw[hx]at y;simp only at y;have AY:c.md=2:=fg 2 d e Y x c hf;have Fe:=ez ht;have Eh:s2.ob id=s.ob id:=by
       rcases Fe id with q1|⟨_,_,X,_⟩
       .exact q1
       .exfalso;rcases X with X|⟨_,_,_,X⟩ <;> (rw[X]at y;cases y)
      rw[Eh,yX]at y;simp only at y;have y:=aG y;subst y;obtain⟨f,m,p1,g1,t1,_,r1⟩:=gq ((c.cs.kd.drop off).take ls.length) ls v.cells.toList ω s vs s2 1 h hv ht;have E6:s.cont id g hh d=some c:=by
       unfold St.cont fU.cont;rw[hg,eN,yX];cases d with
       |nil=>simp only[az];exact hf
       |cons st pt=>
        simp only[az];have:Nat.beq (s.ob id).h hh=true:=by simpa using hb
        rw[this];exact hf
      have Ed:s2.cont id g hh d=some c:=by rw[<-E6];unfold St.cont;rw[Eh]
      have hp2:=(p1.tr id).bH p g hh d i off hp;obtain⟨q1,q2,⟨bt,X,q4⟩,v',q5⟩:=hp2.2.2 c Ed (by rw[AY];decide);have hi:(IV.i i).toNat<List.length c.x:=by omega
      rw[AY]at q5;have q5:(Ty.sl c.e c.cs).R w f (.deep (id,aC d)) v' c.x:=q5;obtain⟨ad,nn,cp,d1,d2,d3,d4,d5⟩:=q5;rcases d4 with d4|⟨b',arr,d6,d7,d8,d9⟩
      .omega
      obtain rfl:=p1.rel.inj _ _ _ X d9;have Ef:((c.cs.kd.drop off).take ls.length).length=ls.length:=by have o:=mW ht;rw[<-o,mZ];have:=r1 f s2 (f.named m) (di.refl _ _) (fA g1);rw[this.length,hvl]
      have J:ls=[]\/off+ls.length<=c.cs.len:=by
       rw[dB,kg,B2]at Ef;by_cases he:ls=[]
       .exact .inl he
       .have:ls.length≠0:=λe=>he (e9.1 e);exact .inr (by omega)
      have hbase:(IV.i i).toNat*c.cs.len+c.cs.len<=arr.size:=by rw[d8];have:((IV.i i).toNat+1)*c.cs.len<=cp*c.cs.len:=iM _ (by omega);rw[gh]at this;exact this
      have Ei:∃E l,(Instr.storeAt t p v).run P w=.ok () E/\og w E bt/\E.heap[bt]? = some (.cells l c.e (0,0))/\l.size=arr.size /\
        ∀mm,l[mm]? = if(IV.i i).toNat*c.cs.len+off<=mm/\mm<(IV.i i).toNat*c.cs.len+off+v.cells.toList.length then v.cells.toList[mm-((IV.i i).toNat*c.cs.len+off)]? else arr[mm]?:=by
       by_cases E8:ls=[]
       .subst E8;have FK:v.cells.toList=[]:=e9.1 hvl;refine⟨w,arr,?_,og.refl w bt,d7,rfl,λmm=>?_⟩
        .have Gw:v.cells.size=I.size:=by omega
         rw[q4];simp[Instr.storeAt,Instr.sureAddr,storeVar,sizeOf,typeInfo,hI,Gw,FK,storeCells]
        .rw[FK,bc (by simp <;> omega)]
       .have G7:=J.resolve_left E8;have DG:(IV.i i).toNat*c.cs.len+off+v.cells.toList.length<=arr.size:=by omega
        obtain⟨l,z1,z2⟩:=dQ bt c.e (0,0) v.cells.toList ((IV.i i).toNat*c.cs.len+off) w arr d7 DG;have T:=j4 (P:=P) hI d7 (v:=v) (off:=(IV.i i).toNat*c.cs.len+off) (by omega) (by simpa using DG) h1;rw[<-q4]at T;have hal:arr.toList.length=arr.size:=gv;refine⟨_,l,T,dL bt _ _ w,z1,?_,λmm=>?_⟩
        .rw[<-gv (xs:=l),z2];simp only[cR,dB,kg];omega
        .have htl:(arr.toList.take ((IV.i i).toNat*c.cs.len+off)).length=(IV.i i).toNat*c.cs.len+off:=by rw[dB];omega
         rw[<-cZ,z2];split
         .rename_i hm;rw[iD,kH (by rw[htl];omega),htl,iV (by omega)]
         .rename_i hm;by_cases hlt:mm<(IV.i i).toNat*c.cs.len+off
          .rw[iD,iV (by rw[htl];exact hlt),jv hlt,cZ]
          .rw[kH (by rw[cR,htl];omega),cR,htl,pZ,cZ];congr 1;omega
      obtain⟨E,l,T,M,EF,Bb,R⟩:=Ei;have C1:(s2.ob id).o=.arr e Y true x:=by rw[Eh];exact yX
      have C:∀j,(id,j)∉m:=λj hm=>by have:=g1.is id j hm;rw[C1]at this;cases this
      have h0:id≠0:=h.pR (by rw[yX];exact λe=>by cases e);have DH:vs.length=ls.length:=by have:=gi List.length t1;rw[mZ]at this;rw[this,Ef]
      have Fy:bT w ω s f s2 m 1 (1+ls.length):=by rwa[Ef]at g1
      have hkeep:∀b r,f b=some (id,r) -> ¬aC d <+: r->E.heap[b]? = w.heap[b]? /\ f.via (ea m 1 id (aC d) (IV.i i).toNat off ls.length) b=some (id,r):=by
       intro b r F hn;have hne:b≠bt:=λe=>by
        subst e;rw[X]at F;injection F with F
        injection F with _ F
        rw[<-F]at hn;exact hn (xR _)
       refine⟨M.block b hne,?_⟩;rw[cr F,fT C];rintro⟨_,kk,rr,_,er⟩;simp only at er;exact hn ⟨(_:Nat×Nat)::rr,er.symm⟩
      have FH:=r1 f s2 (f.named m) (di.refl _ _) (fA g1);have GA:List.length (real.put c.x i el)=List.length c.x:=jw;have B:∀u,(Ty.sl c.e c.cs).R w f (.deep (id,aC d)) u c.x->(Ty.sl c.e c.cs).R E (f.via (ea m 1 id (aC d) (IV.i i).toNat off ls.length)) (.deep (id,aC d)) u (real.put c.x i el):=by
       intro u hu;obtain⟨FY,n',F3,f1,f2,f3,f4,f5⟩:=hu;rcases f4 with f4|⟨b2,FZ,f6,f7,f8,f9⟩
       .omega
       obtain rfl:=p1.rel.inj _ _ _ X f9;rw[d7]at f7;injection f7 with f7
       injection f7 with f7
       subst f7;have hkb:f.via (ea m 1 id (aC d) (IV.i i).toNat off ls.length) bt=some (id,aC d):=by rw[cr X,fT C];rintro⟨_,kk,rr,_,er⟩;have:=gi List.length er;simp at this
       refine⟨FY,n',F3,f1,GA.trans f2,f3,.inr ⟨bt,l,f6,EF,by rw[Bb];exact f8,hkb⟩,λn A hi' hA=>?_⟩;have hrow:=f5 n A hi' hA;rw[f6]at hA;injection hA with hA
       subst hA;simp only[bC]at hrow⊢;have Fb:List.getD (real.put c.x i el:List c.cs.T) n (jk c.cs)=if n=(IV.i i).toNat then el else List.getD c.x n (jk c.cs):=lC c.x _ _ _ _ hi
       rw[Fb];refine(iI c.cs _ _ 0 _).2 λj t z k=>?_;rw[bC];have I0:=mH _ _ _ _ k;have old:cellAt (A:=real) c.cs (List.getD c.x n (jk c.cs)) j=some ⟨t,z⟩ -> ¬(n=(IV.i i).toNat/\off<=j/\j<off+ls.length)->∃v,E.cell? ⟨bt,n*c.cs.len+j,none⟩=some v/\t.R E (f.via (ea m 1 id (aC d) (IV.i i).toNat off ls.length)) (.deep (id,aC d++[(n,j)])) v z:=by
        intro k hne;obtain⟨u,m1,m2⟩:=(iI c.cs _ _ 0 _).1 hrow j t z k;simp only[bC]at m1 m2;refine⟨u,?_,Ty.fF t _ (id,aC d++[(n,j)]) u z (λb rr F o=>?_) m2⟩
        .rw[cell_of_row w bt _ arr c.e (0,0) d7]at m1;rw[cell_of_row E bt _ l c.e (0,0) EF,R,bc,m1];rw[hvl];rintro⟨z1,z2⟩;apply hne;have HU:n=(IV.i i).toNat:=by
          rcases Nat.lt_trichotomy n (IV.i i).toNat with hlt|heq|hgt
          .have:(n+1)*c.cs.len<=(IV.i i).toNat*c.cs.len:=iM _ hlt;rw[gh]at this;omega
          .exact heq
          .have:((IV.i i).toNat+1)*c.cs.len<=n*c.cs.len:=iM _ hgt;rw[gh]at this;rcases J with J|J
           .rw[J]at z2;simp at z2;omega
           .omega
         subst HU;exact⟨rfl,by omega,by omega⟩
        .have Q:f b=some (id,aC d++(n,j)::rr):=by simpa using o
         have Eg:b≠bt:=λe=>by
          subst e;rw[X]at Q;injection Q with Q
          injection Q with _ Q
          have:=gi List.length Q;simp at this
         refine⟨M.block b Eg,?_⟩;rw[cr Q,fT C]
         .simp
         .rintro⟨_,kk,r2,e1,D⟩;have D:=zb D;injection D with D _
          injection D with e3 e4
          exact hne ⟨e3,by omega,by omega⟩
       by_cases V:n=(IV.i i).toNat
       .rw[cz V]at k;rw[mI vs c.cs _ el off hr j,DH]at k;by_cases O:off<=j/\j<off+ls.length
        .rw[cz O]at k;cases N:vs[j-off]? with
         |none=>rw[N]at k;cases k
         |some vv=>
          rw[N]at k;have k:=aG k;obtain⟨u,u1,u2⟩:=qC FH _ _ N;have hkk:((c.cs.kd.drop off).take ls.length)[j-off]? = some vv.1:=by rw[<-t1,p6,N];rfl
          obtain⟨z1,z2⟩:=zu c.cs off ls.length hkk;have Gc:DM w (f.named m) E (f.via (ea m 1 id (aC d) (IV.i i).toNat off ls.length)) (1+(j-off),[]) (id,aC d++[((IV.i i).toNat,off+(j-off))]):=by
           refine Dr (by omega) Fy (λii jj b pp hm o=>M.block b λe=>?_) _ (by omega);subst e;rw[X]at o;injection o with o
           injection o with o _
           subst o;exact C _ hm
          have Z:=vC z1 z2 Gc u2;rw[k]at Z;rw[show off+(j-off)=j by omega]at Z;refine⟨u,?_,by rw[V];exact Z⟩;rw[cell_of_row E bt _ l c.e (0,0) EF,R,V,cz (by rw[hvl];omega),<-u1];congr 1;omega
        .rw[bc O]at k;exact old (by rw[V];exact k) (λhq=>O hq.2)
       .rw[bc V]at k;exact old k (λhq=>V hq.1)
      have hst:(((c.cs.kd.drop off).take ls.length).any K.iR)=false->qE w f E (f.via (ea m 1 id (aC d) (IV.i i).toNat off ls.length)) id [] e Y x x':=by
       intro FG;refine tZ (by omega) d [] e Y x x' hf hx (λb r _ o hn=>hkeep b r o hn) (λu hu=>B u hu) ?_;rw[l7];intro p' c' G;cases p' with
       |nil=>
        have G:=aG G;subst G;refine⟨c.x,by rw[<-AY];rfl,GA.symm,λb hb o=>?_,λu hu=>?_⟩
        .rw[show aC []=[]from rfl,fa]at o⊢;rw[cr o,fT C];rintro⟨_,kk,rr,_,er⟩;have:=gi List.length er;simp at this
        .rw[show aC []=[]from rfl,fa]at hu⊢;exact B u hu
       |cons ij p2=>
        obtain⟨n,W⟩:=ij;simp only[follow]at G;have R:real.get (e:=c.e) (real.put (e:=c.e) c.x i el) n=if(IV.i n).toNat=(IV.i i).toNat then el else real.get (e:=c.e) c.x n:=lC c.x _ _ _ _ hi
        have hsame:(IV.i n).toNat=(IV.i i).toNat->real.get (e:=c.e) c.x n=real.get (e:=c.e) c.x i:=λh=>by show List.getD c.x (IV.i n).toNat _=List.getD c.x (IV.i i).toNat _;rw[h]
        have Gm:∀D U y2,cellAt (A:=real) c.cs (real.get (e:=c.e) (real.put (e:=c.e) c.x i el) n) W=some ⟨.sl D U,y2⟩ -> ¬((IV.i n).toNat=(IV.i i).toNat/\off<=W/\W<off+ls.length)/\cellAt (A:=real) c.cs (real.get (e:=c.e) c.x n) W=some ⟨.sl D U,y2⟩:=by
         intro D U y2 k;rw[R]at k;by_cases h1:(IV.i n).toNat=(IV.i i).toNat
         .rw[cz h1,mI vs c.cs _ el off hr W,DH]at k;by_cases O:off<=W/\W<off+ls.length
          .exfalso;rw[cz O]at k;cases N:vs[W-off]? with
           |none=>rw[N]at k;cases k
           |some vv=>
            rw[N]at k;have k:=aG k;have hkk:((c.cs.kd.drop off).take ls.length)[W-off]? = some vv.1:=by rw[<-t1,p6,N];rfl
            obtain⟨z1,_,z3⟩:=zu c.cs off ls.length hkk;have Hh:vv.1.iR=false:=by rw[List.any_eq_false]at FG;exact vh.2 (FG _ (vP hkk))
            obtain⟨kk,xx⟩:=vv;cases kk with
            |val t=>
             have k:(⟨t,xx⟩:Sigma real.V)=⟨.sl D U,y2⟩:=k;injection k with k _
             exact(z1 t rfl).1 _ _ k
            |arr _ _ _=>cases Hh
            |mp kk=>exact z3 kk rfl
          .rw[bc O]at k;exact⟨λhq=>O hq.2,by rw[hsame h1];exact k⟩
         .rw[bc h1]at k;exact⟨λhq=>h1 hq.1,k⟩
        split at G
        .rename_i D U y2 k;obtain⟨z1,z2⟩:=Gm D U y2 k;have Gj:c'.md=2:=fg 2 _ _ _ _ _ G;have hU:∀b r,f b=some (id,aC d++(aC ((n,W)::p2)++r))->E.heap[b]? = w.heap[b]? /\ f.via (ea m 1 id (aC d) (IV.i i).toNat off ls.length) b=some (id,aC d++(aC ((n,W)::p2)++r)):=by
          intro b r o;have Eg:b≠bt:=λe=>by
           subst e;rw[X]at o;injection o with o
           injection o with _ o
           have:=gi List.length o;rw[dN]at this;simp at this
          refine⟨M.block b Eg,?_⟩;rw[cr o,fT C];rintro⟨_,kk,r2,e1,D⟩;simp only[dN,kR]at D;have D:=zb D;injection D with D _
          injection D with e3 e4
          exact z1 ⟨e3,by omega,by omega⟩
         refine⟨c'.x,?_,rfl,λb hb o=>?_,λu hu=>?_⟩
         .simp only[follow];rw[z2];exact G.trans (gi some (ww Gj))
         .have:=hU b [] (by rw[fa];exact o);rw[fa]at this;exact this.2
         .refine Ty.fF _ (id,aC d++aC ((n,W)::p2)) (id,aC d++aC ((n,W)::p2)) u c'.x (λb r hb o=>?_) hu;have:=hU b r (by rw[<-iD];exact o);rw[<-iD]at this;exact this
        .cases G
      obtain⟨hR,hX⟩:=p1.rel.GR (((c.cs.kd.drop off).take ls.length).any K.iR) Fy C1 X M (x':=x') (tN GA d e Y x x' hf hx) (i0:=(IV.i i).toNat) (off:=off) (λu hu=>by refine qm d [] e Y x x' u hf hx (λb rr _ o hn=>hkeep b rr o hn) (λu' AZ=>B u' AZ) hu) hst;exact⟨_,E,T,hR,p1.ext.trans hX⟩
def AO (h:Rel H ω a w s) {t:Nat} {I:TypeInfo} (D:P.info? t=some I) {p v:Value} {l:L} {ls:List L} {Q:S} (G:bU w ω s p l) (o:aH (bU w ω s) v.cells.toList ls) (C:∀u∈v.cells.toList,u.oneCell'=true) (n:ls.length=I.size)
  (c:iv s l ls=some Q):∃r K,(Instr.storeAt t p v).run P w=.ok () K/\Rel H r a K Q/\cH ω w r K:=by
 have Y:v.cells.size=ls.length:=by rw[<-o.length];simp
 cases l with
 |ptr id g f=>
  simp only[iv]at c;cases E:dm s id g with
  |none=>rw[E]at c;cases c
  |some cells=>
   rw[E]at c;simp only at c;split at c
   .rename_i Z;injection c with c
    subst c;obtain⟨U,y⟩:=cM E;obtain⟨b,z,V⟩:=G.2 U cells y;obtain⟨b',arr,T,W,N,B⟩:=h.c7 id cells y;obtain rfl:=h.inj _ _ _ z W;subst V;have O:=B.length;have X:arr.toList.length=arr.size:=gv;have j:f+v.cells.size<=arr.size:=by omega
    have k:f+v.cells.toList.length<=arr.size:=by simpa using j
    obtain⟨M,q1,q2⟩:=dQ b T (0,0) v.cells.toList f w arr N k;refine⟨ω,w.setCells b f v.cells.toList,j4 D N (by omega) j C,?_,dc (h.pR (by rw[y];exact λe=>by cases e)) z (dL b _ _ w)⟩;refine h.AP z y (dL b _ _ w) q1 ?_;rw[q2];have:v.cells.toList.length=ls.length:=o.length;rw[this];exact((B.take f).iP o).iP (B.drop _)
   .cases c
 |bH id g hh J i f=>
  simp only[iv]at c;cases F:Nat.beq (s.ob id).g g with
  |false=>rw[F]at c;cases c
  |true=>
   rw[F]at c;simp only[az]at c;have m:=bn F;cases d:(s.ob id).o with
   |arr e R deep x=>
    rw[d]at c;simp only at c;cases deep with
    |true=>exact AL h D G m d o C n c
    |false=>
     cases J with
     |nil=>
      refine AM h D G o C n m d ?_;rw[<-c];simp only[aW];cases aN (A:=real) false R (real.get x i) f ls s with
      |none=>rfl
      |some q=>cases ho:(q.2.ob id).o <;> simp only[ho]
     |cons _ _=>cases c
   |bQ _ _ _=>rw[d]at c;cases c
   |blk _=>rw[d]at c;cases c
   |gone=>rw[d]at c;cases c
   |mp _ _=>rw[d]at c;cases c
 |_=>cases c
def yS (A:bD P E) {t:Nat} {p v:Operand} (q:o.op=.store t p v) (h:Rel H ω a w s) (hd:∀d,o.dst=some d->d<a.tmps.size) {J:bA->Option (Callee real (Option R))}
  (j:aL E (av R) J o s k=some r):o.wp P a w (Ends H ω a w o.dst k r) Q:=by
 have u:=bE h E 0 p;have G:=bE h E t v;unfold aL at j;simp only[q]at j;obtain⟨i,x,m⟩:=ah j;obtain⟨I,d,ok⟩:=A.ti _ _ x;obtain⟨ls,y,b⟩:=ah m;obtain⟨D,e,_⟩:=jy G y;cases g:Nat.beq ls.length i.cs.len with
 |false=>rw[g]at b;cases b
 |true=>
  rw[g]at b;simp only[az]at b;have F:=bn g;cases c:ev E s 0 p with
  |one l=>rw[c]at b u;obtain⟨L,z,n⟩:=ah b;obtain⟨K,M,f,B,C⟩:=AO h ok.info u D e (by rw[F,ok.size]) z;exact xn (yf q f) (qT B C hd n)
  |agg _=>rw[c]at b;cases b
  |ol _=>rw[c]at b;cases b
  |pQ _ _=>rw[c]at b;cases b
noncomputable def aq.gU(a:aq)(κ:Key->Option Key)(d b0:Nat):aq:=λb=>if b=b0 then some (d,[])else(a b).bind κ
def kO{a:Key->Option Key}{d b0 b:Nat}{k:Key}(c:b≠b0)(h:ω b=some k):ω.gU a d b0 b=a k:=by unfold aq.gU;rw[bc c,h];rfl
def Rel.gU (h:Rel H ω a w s) {κ:Key->Option Key} {d b0:Nat} {w':World} {src:Nat->Prop} {ob:Ob real} (F:∀c,ob≠.blk c) (z:d≠0) (I:¬src 0) (Y:∀k M q,κ k=some q->κ M=some q->k=M)
  (N:∀k p,κ k=some (d,p)->p≠[]) (O:∀i p,¬src i->i≠d->κ (i,p)=some (i,p)) (L:∀i,src i->(s.ob i).o=.gone)
  (G:w'.os=w.os/\w'.tape=w.tape/\w'.output=w.output/\w.drawn<=w'.drawn) (P:w.heap.size<=w'.heap.size) (Q:∀b,b≠b0->b<w.heap.size->w'.heap[b]? = w.heap[b]?) (C:b0<w'.heap.size)
  (J:b0<w.heap.size->∃k,ω b0=some k/\src k.1):Rel H (ω.gU κ d b0) a w' (s.new d ob)/\cH ω w (ω.gU κ d b0) w':=by
 have W:∀p,κ (0,p)=some (0,p):=λp=>O 0 p I (c6 z);have E:∀b,b<w.heap.size->my ω b->b≠b0:=by intro b g o e;subst e;obtain⟨k,u,r⟩:=J g;refine o.ne (id:=k.1) (q:=k.2) u λe=>?_;rw[e]at r;exact I r
 have D:cH ω w (ω.gU κ d b0) w':=⟨G.1,G.2.1,G.2.2,P,λb g o=>by
  have m:=E b g o;refine⟨Q b m g,?_⟩;rcases o with o|⟨q,o⟩
  .unfold aq.gU;rw[bc m,o];rfl
  .rw[kO m o,W,o]⟩
 have l:∀j,j≠d -> ¬src j->∀b p,ω b=some (j,p)->w'.heap[b]? = w.heap[b]? /\ ω.gU κ d b0 b=some (j,p):=by
  intro j B K b p t;have g:=h.dom b _ t;have m:b≠b0:=λe=>by
   subst e;obtain⟨k,u,r⟩:=J g;rw[t]at u;injection u with u
   rw[<-u]at r;exact K r
  exact⟨Q b m g,by rw[kO m t];exact O j p K B⟩
 refine⟨h.BS D (λb R k n x=>?_) (λb k n=>?_) rfl ?_ (λj=>?_) (λj cells A=>?_),D⟩
 .unfold aq.gU at n x;split at n <;> split at x
  .rename_i S T;rw[S,T]
  .injection n with n
   subst n;obtain⟨X,u,r⟩:=lJ (ω:=ω) (κ:=κ) x;exact absurd rfl (N _ _ r)
  .injection x with x
   subst x;obtain⟨X,u,r⟩:=lJ (ω:=ω) (κ:=κ) n;exact absurd rfl (N _ _ r)
  .exact qy h.inj Y b R k n x
 .unfold aq.gU at n;split at n
  .rename_i e;rw[e];exact C
  .exact gf (qx (w:=w) (κ:=κ) h.dom b k n) P
 .have:(s.new d ob).ob 0=s.ob 0:=by unfold St.new;exact St.aU _ _ (c6 z)
  rw[this];exact h.dJ
 .by_cases v:j=d
  .subst v;exact dj.tr (by unfold dj St.new;rw[St.aB];exact fK _)
  .have f:(s.new d ob).ob j=s.ob j:=by unfold St.new;exact St.aU _ _ v
   by_cases y:src j
   .exact Tr.nJ (by rw[f]) (by rw[f];exact aJ _) (by rw[f];exact L j y)
   .refine gx.tr ⟨f,λb Z U t B=>?_⟩ D h.dom;obtain⟨V,p⟩:=Z;simp only at B;subst B;rw[t];exact l V v y b p t
 .by_cases v:j=d
  .subst v;exact absurd (by simpa[St.new,St.aB] using A) (F cells)
  .have f:(s.new d ob).ob j=s.ob j:=by unfold St.new;exact St.aU _ _ v
   rw[f]at A;have y:¬src j:=λy=>by rw[L j y]at A;cases A
   exact⟨f,λb t=>l j v y b [] t⟩
def kY (M:bD P E) {t n e:Nat} {c:ar} {parts:Array (Nat×Operand)} (L:E.nx t=some (e,c)) (G:parts.toList.length=n) (K:iL 0 (parts.toList.map (·.1))=true) (N:n*c.len<=16777216)
  (s:∀q∈parts.toList.map (·.2),(a.eval q).cells.toList.length=c.len):
  ∃b,(Instr.buildSlice t n (parts.map λ(i,q)=>(i,a.eval q))).run P w=.ok (.slice (some ⟨w.heap.size,0,none⟩) n n) (w.alloc (.cells b e))/\b.size=n*c.len /\
   ∀i q,(parts.toList.map (·.2))[i]? = some q->∀j,j<c.len->b[i*c.len+j]? = (a.eval q).cells.toList[j]?:=by
 obtain⟨J,j,I,d,S,B,ok⟩:=gQ M L;obtain⟨z,O,Q⟩:=ok.zero;have f:I.size=c.len:=by rw[ok.size,B]
 have g:(parts.map λ(i,q)=>(i,a.eval q)).toList.map (·.1)=parts.toList.map (·.1):=by simp[Function.comp_def]
 have D:(parts.map λ(i,q)=>(i,a.eval q)).toList.length=n:=by simpa using G
 obtain⟨b,u,x⟩:=qX c.len #[] (parts.map λ(i,q)=>(i,a.eval q)).toList 0 [] (madeCells z.cells (n*c.len)) (by rw[g];exact K) (λp H=>by simp only[Array.toList_map,eJ]at H;obtain⟨⟨i,q⟩,r,rfl⟩:=H;exact s q (by simp only[eJ];exact⟨(i,q),r,rfl⟩)) (by simp) (by rw[size_madeCells,D,bC]) (by simp);have h:(parts.map λ(i,q)=>(i,a.eval q)).toList.map (λp=>p.2.cells.toList)=(parts.toList.map (·.2)).map λq=>(a.eval q).cells.toList:=by simp[Function.comp_def]
 rw[l7,h]at x;have k:b.size=n*c.len:=by rw[<-gv,x,pA c.len _ (λl o=>by simp only[eJ]at o;obtain⟨q,r,rfl⟩:=o;exact s q (by simpa using r))];simp[<-G]
 refine⟨b,?_,k,λi q r j C=>?_⟩
 .by_cases y:n*c.len=0
  .have A:n*I.size=0:=by rw[f];exact y
   have v:Instr.fill (λi=>some (i*I.size,I.size)) #[] (parts.map λ(i,q)=>(i,a.eval q)).toList=some b:=by rw[f];rw[show madeCells z.cells (n*c.len) = #[]by apply za;rw[size_madeCells];exact y]at u;exact u
   exact pS w t e n _ b I J ok.info A v
  .exact run_buildSlice w t e n _ b I z J ok.info O (by rw[f];omega) (by rw[f];exact y) (by rw[f];exact u)
 .have m:=flat_get c.len ((parts.toList.map (·.2)).map λq=>(a.eval q).cells.toList) (λl o=>by
   simp only[eJ]at o;obtain⟨R,F,rfl⟩:=o;exact s R (by simpa using F)) i j ((a.eval q).cells.toList) (by rw[p6,r];rfl) C
  rw[<-x]at m;rw[<-m,cZ]
def rA(h:Rel H ω a w s){n:Nat}:∀(c:List Operand) (lss:List (List L)),fD E s n c=some lss->lss.length=c.length/\(∀q∈c,(a.eval q).cells.toList.length=n)/\aH (bU w ω s) (c.map λq=>(a.eval q).cells.toList).flatten lss.flatten/\lss.flatten.length=c.length*n
 |[],lss,b=>by have b:=aG b;subst b;exact⟨rfl,by simp,trivial,by simp⟩
 |q::c,lss,b=>by
  simp only[fD]at b;cases f:cells? s (ev E s 0 q)with
  |none=>rw[f]at b;cases b
  |some ls=>
   cases j:fD E s n c with
   |none=>rw[f,j]at b;cases b
   |some r=>
    rw[f,j]at b;simp only at b;cases g:Nat.beq ls.length n with
    |false=>rw[g]at b;cases b
    |true=>
     rw[g]at b;have b:=aG b;subst b;have d:=bn g;obtain⟨k,_,_⟩:=jy (bE h E 0 q) f;obtain⟨o,p,t,u⟩:=rA h c r j;have e:(a.eval q).cells.toList.length=n:=by rw[k.length,d]
     refine⟨by simp[o],λm i=>?_,?_,?_⟩
     .cases i with
      |head=>exact e
      |tail _ l=>exact p m l
     .simp only[fm,lZ];exact k.iP t
     .simp only[lZ,cR,cK,u,d,gh];omega
def zy{e:Nat}{a:ar}:∀(n:Nat) (g:List (KV real)) (f x:List a.T),Dk (A:=real) e a n g f=some x->∃b:List a.T,x=f++b/\b.length=n/\∀i c,b[i]? = some c->qj (A:=real) a ((g.drop (i*a.len)).take a.len)=some c
 |0,[],f,x,h=>by have h:=aG h;subst h;exact⟨[],by simp,rfl,λi c d=>by cases d⟩
 |0,_::_,_,_,h=>by cases h
 |n+1,g,f,x,h=>by
  simp only[Dk]at h;cases hd:qj (A:=real) a (g.take a.len)with
  |none=>rw[hd]at h;cases h
  |some c=>
   rw[hd]at h;obtain⟨b,k,l,m⟩:=zy n (g.drop a.len) (List.append (α:=a.T) f [c]) x h;refine⟨c::b,by rw[k];exact iD f [c] b,gi Nat.succ l,λi j d=>?_⟩;cases i with
   |zero=>have d:=aG d;subst d;rw[Nat.zero_mul,List.drop_zero];exact hd
   |succ i=>have:=m i j d;rw[vM]at this;rwa[show(i+1)*a.len=a.len+i*a.len by rw[gh];omega]
noncomputable def Al(m:List (Nat×Nat))(len d:Nat):Key->Option Key:=λk=>
 match m.find? (λq=>q.1==k.1)with
 |some q=>some (d,((q.2-1) / len,(q.2-1) % len)::k.2)
 |none=>if k.1=d then none else some k
def Em(n:Nat)(a:ar){lss:List (List L)}(p:lss.length=n)(i:Nat)(k:K)(h:(lss.map λ_=>a.kd).flatten[i]? = some k):(∀t,k=.val t->t.atom)/\(∀e c d,k=.arr e c d->d=true)/\∀m,k≠.mp m:=by have o:=vP h;obtain⟨l,b,f⟩:=xQ.1 o;obtain⟨_,_,rfl⟩:=eJ.1 b;obtain⟨j,g⟩:=List.mem_iff_getElem?.1 f;exact ym a j k g
def pT (hE:bD P E) {t n:Nat} {parts:Array (Nat×Operand)} (ho:o.op=.buildSlice t n parts) (h:Rel H ω a w s) (hd:∀d,o.dst=some d->d<a.tmps.size) {Φ:bA->Option (Callee real (Option R))}
  (B:aL E (av R) Φ o s k=some r):o.wp P a w (Ends H ω a w o.dst k r) Q:=by
 unfold aL at B;simp only[ho]at B;obtain⟨⟨e,cs⟩,h1,B⟩:=ah B;cases N:(Nat.beq parts.toList.length n&&iL 0 (parts.toList.map (·.1))&&decide (n*cs.len<=16777216))with
 |false=>simp only[N]at B;cases B
 |true=>
  simp only[N,az]at B;rw[aQ,aQ]at N;obtain⟨⟨b1,b2⟩,b3⟩:=N;have F:=bn b1;have DV:=ck b3;have fin:∀ {y:Array Value},(Instr.buildSlice t n (parts.map λ(i,q)=>(i,a.eval q))).run P w=.ok (.slice (some ⟨w.heap.size,0,none⟩) n n) (w.alloc (.cells y e))->Ends H ω a w o.dst k r (a.put o.dst (.slice (some ⟨w.heap.size,0,none⟩) n n)) (w.alloc (.cells y e))->o.wp P a w (Ends H ω a w o.dst k r) Q:=by intro y C X;refine eY (v:=.slice (some ⟨w.heap.size,0,none⟩) n n) (w':=w.alloc (.cells y e)) ?_ X;unfold execOp;simp only[ho];rw[Sem.run_bind,C];rfl
  cases CV:E.deep (o.dst.getD 0)with
  |false=>
   rw[CV]at B;simp only[aW]at B;obtain⟨⟨x,s2⟩,h2,B⟩:=ah B;obtain⟨CX,p2,W,e1,e2,e3,e4⟩:=tF (parts.toList.map (·.2)) ([]:List cs.T) ω s x s2 h (Passes.refl h) h2;have hx:x=W:=by rw[e1];rfl
   subst hx;have L:List.length x=n:=by have:List.length x=(parts.toList.map (·.2)).length:=e2;rw[this,mZ,F]
   obtain⟨y,C,G,Y⟩:=kY (w:=w) hE h1 F b2 DV e3;refine fin C ?_;have U:=uP (o:=o) (r:=r) (k:=k) (ω:=ω) (w:=w) (dp:=false) (id:=aD (o.dst.getD 0) 0 0) (e:=e) (cs:=cs) (x:=x) (arr:=y) (c:=n) p2.rel p2.ext hd (da _ _ _) (by rw[L];exact aJ _) G (λi T=>by obtain⟨q,hq⟩:=jB (l:=parts.toList.map (·.2)) (i:=i) (by rw[<-e2];exact T);obtain⟨el,I⟩:=jB T;rw[getD_some I];have hrow:=e4 i el q I hq;have hg:=eF.alloc w (.cells y e);have hfr:=ar.bZ hg.size cs (λ_=>.bQ) _ _ 0 _ (λ_=>(dW (ω:=CX) (id:=aD (o.dst.getD 0) 0 0) (da _ _ _) hg (aJ _)).keeps) (λ_=>rfl) hrow;refine ar.fq cs _ _ _ 0 _ (λj hj'=>?_) hfr;rw[bC];exact Y i q hq j hj') B;rw[L]at U;exact U
  |true=>
   rw[CV]at B;simp only[az]at B;obtain⟨lss,h2,B⟩:=ah B;obtain⟨⟨vs,s2⟩,h3,B⟩:=ah B;obtain⟨x,h4,B⟩:=ah B;obtain⟨l1,l2,l3,l4⟩:=rA h _ _ h2;obtain⟨W,e1,e2,e3⟩:=zy n vs [] x h4;have hx:x=W:=by rw[e1];rfl
   subst hx;obtain⟨y,C,G,Y⟩:=kY (w:=w) hE h1 F b2 DV l2;refine fin C ?_;obtain⟨M,m,p1,g1,t1,_,r1⟩:=gq _ _ _ ω s vs s2 1 h l3 h3;have FH:=r1 M s2 (M.named m) (di.refl _ _) (fA g1);have Z:(parts.toList.map (·.2)).length=n:=by rw[mZ,F]
   have hvl:vs.length=n*cs.len:=by rw[FH.length,l3.length,l4,Z]
   have hks:((lss.map λ_=>cs.kd).flatten).length=n*cs.len:=by rw[<-t1,mZ,hvl]
   have Fy:bT w ω s M s2 m 1 (1+n*cs.len):=by rwa[hks]at g1
   have h0:=da (o.dst.getD 0) 0 0;generalize G6:aD (o.dst.getD 0) 0 0=d at B h0;have hg:=eF.alloc w (.cells y e);have hlt:w.heap.size<(w.alloc (.cells y e)).heap.size:=by rw[fM];omega
   have hfn:∀ {i:Nat} {q:Nat×Nat},m.find? (λq=>q.1==i)=some q->1<=q.2/\q.2<1+n*cs.len:=λJ=>Fy.oh _ _ (eP J);obtain⟨hR,hX⟩:=p1.rel.gU (κ:=Al m cs.len d) (d:=d) (b0:=w.heap.size) (w':=w.alloc (.cells y e)) (src:=λi=>∃j,(i,j)∈m) (ob:=.arr e cs true x) (λc e=>by cases e) h0 (λ⟨j,K⟩=>g1.nz _ _ K rfl)
    (λk k' q f g=>by
     unfold Al at f g;cases J:m.find? (λq=>q.1==k.1)with
     |some z=>
      rw[J]at f;have f:=aG f;cases D:m.find? (λq=>q.1==k'.1)with
      |some z'=>
       rw[D]at g;have g:=aG g;rw[<-g]at f;injection f with _ e5
       injection e5 with e5 e6
       injection e5 with e5 e7
       have r1:=hfn J;have r2:=hfn D;have:z.2=z'.2:=by have d1:=Nat.div_add_mod (z.2-1) cs.len;have d2:=Nat.div_add_mod (z'.2-1) cs.len;rw[e5,e7]at d1;omega
       have m1:=eP J;rw[this]at m1;exact p7 (g1.inj _ _ _ m1 (eP D)) e6
      |none=>
       rw[D]at g;simp only at g;split at g
       .cases g
       .rename_i F;have g:=aG g;rw[g,<-f]at F;exact absurd rfl F
     |none=>
      rw[J]at f;simp only at f;split at f
      .cases f
      .rename_i F;have f:=aG f;cases D:m.find? (λq=>q.1==k'.1)with
       |some z'=>rw[D]at g;have g:=aG g;rw[f,<-g]at F;exact absurd rfl F
       |none=>
        rw[D]at g;simp only at g;split at g
        .cases g
        .have g:=aG g;rw[f,g])
    (λk p f=>by
     unfold Al at f;cases J:m.find? (λq=>q.1==k.1)with
     |some z=>
      rw[J]at f;have f:=aG f;injection f with _ f
      rw[<-f];exact λe=>by cases e
     |none=>
      rw[J]at f;simp only at f;split at f
      .cases f
      .rename_i F;have f:=aG f;rw[f]at F;exact absurd rfl F)
    (λi p T hid=>by
     unfold Al;cases J:m.find? (λq=>q.1==(i,p).1)with
     |some z=>exact absurd ⟨_,eP J⟩ T
     |none=>simp only;rw[bc hid])
    (λi ⟨j,K⟩=>g1.is i j K) ⟨rfl,rfl,rfl,aJ _⟩ hg.size (λb _ N=>hg.block b N) hlt (λN=>absurd N (eL _))
   have L:List.length x=n:=e2;refine gW (dp:=true) hR (p1.ext.trans hX) hd ?_ B;refine⟨some ⟨w.heap.size,0,none⟩,n,n,rfl,L,aJ _,.inr ⟨w.heap.size,y,rfl,heap_alloc_new w _,G,by unfold aq.gU;rw[cz rfl];rfl⟩,λi A T hA=>?_⟩;injection hA with hA
   subst hA;obtain⟨q,hq⟩:=jB (l:=parts.toList.map (·.2)) (i:=i) (by rw[Z];exact T);obtain⟨el,I⟩:=jB (l:=x) (i:=i) (by rw[L];exact T);rw[getD_some I];have hD:=e3 i el I;refine(iI cs _ _ 0 _).2 λj t z V=>?_;have K:=mH _ _ _ _ V;obtain⟨_,c2⟩:=wl cs _ _ hD;rw[c2 j K,jv K,pZ]at V;cases O:vs[i*cs.len+j]? with
   |none=>rw[O]at V;cases V
   |some vv=>
    rw[O]at V;have V:=aG V;obtain⟨u,u1,u2⟩:=qC FH _ _ O;have hkk:((lss.map λ_=>cs.kd).flatten)[i*cs.len+j]? = some vv.1:=by rw[<-t1,p6,O];rfl
    obtain⟨z1,z2⟩:=Em n cs (by rw[l1,Z]) _ _ hkk;have H6:i*cs.len+j<n*cs.len:=iq T K (aJ _);have Gc:DM w (M.named m) (w.alloc (.cells y e)) (M.gU (Al m cs.len d) d w.heap.size) (1+(i*cs.len+j),[]) (d,[(i,j)]):=by
     intro b rr N f;have hne:b≠w.heap.size:=by omega
     refine⟨hg.block b N,?_⟩;rcases iG f with ⟨f1,_⟩|⟨ii,f1,f2,f3⟩
     .simp only at f1;omega
     .simp only[l7]at f1 f3;rw[kO hne f3];unfold Al;rw[zp g1 f1];simp only[kR,l7];have hpos:0<cs.len:=by omega
      rw[show 1+(i*cs.len+j)-1=j+cs.len*i by rw[Nat.mul_comm];omega,Nat.add_mul_div_left _ _ hpos,Nat.add_mul_mod_self_left,Nat.div_eq_of_lt K,Nat.mod_eq_of_lt K,bC]
    have S:=vC z1 z2 Gc u2;rw[V]at S;refine⟨u,?_,by rw[bC];exact S⟩;simp only[bC];rw[cell_of_row _ w.heap.size _ y e (0,0) (heap_alloc_new w _),Y i q hq j K];have hfg:=flat_get cs.len ((parts.toList.map (·.2)).map λq=>(a.eval q).cells.toList) (λl hl=>by simp only[eJ]at hl;obtain⟨q',Ig,rfl⟩:=hl;exact l2 q' (by simpa using Ig)) i j ((a.eval q).cells.toList) (by rw[p6,hq];rfl) K;rw[<-hfg];exact u1
end
end Go.R

