import Derived.Test.YtdbcclejeoljoaaGreatDoorRA
/- An abstract interpreter over the code of Go functions, proved sound once: what it answers, the code computes. Conditions: none. -/
set_option linter.all false
set_option maxRecDepth 4000
namespace Go.R
variable {H:Nat->Value}
section
variable {R:Type}{P:Program}{E:Env}{ω:aq}{a:Act}{w:World}{s:S}{k:S->Option R}{r:R}{o:Oper}{Q:Exit->Act->World->Prop}
def gW {g:World} {c:aq} {f:S} {e:Nat} {b:ar} {dp:Bool} {z:List b.T} {id:Nat} {v:Value} (h:Rel H c a g (f.new id (.arr e b dp z))) (j:cH ω w c g) (hd:∀d,o.dst=some d->d<a.tmps.size)
  (p:(Ty.sl e b).R g c (aI (bif dp then 2 else 1) id []) v z) (l:k ((f.new id (.arr e b dp z)).bI o.dst (.one (.ref id ((f.new id (.arr e b dp z)).ob id).g 0 [])))=some r):
  Ends H ω a w o.dst k r (a.put o.dst v) g:=by
 refine dV h j hd (t:=.one (.ref id ((f.new id (.arr e b dp z)).ob id).g 0 [])) ⟨az _,by simp,λn i=>?_⟩ l;have m:((f.new id (.arr e b dp z)).ob id).o=.arr e b dp z:=by unfold St.new;rw[St.aB]
 rw[bW m rfl]at i
 grind
inductive DX (ω:aq) (w:World) (s1:S) (e:Nat) (cs:ar) (x:List cs.T) (v:Value):Prop where
 |none (ad:Option Addr) (hv:v=.slice ad 0 0) (hx:x=[])
 |some (b id c:Nat) (h0:id≠0) (arr:Array Value) (hv:v=.slice (some ⟨b,0,none⟩) x.length c) (hn:x.length<=c) (hh:w.heap[b]? = some (.cells arr e (0,0))) (hsz:arr.size=c*cs.len) (hb:ω b=some (id,[])) (ho:(s1.ob id).o=.gone)
   (hel:∀(i:Nat),i<x.length->cs.R w ω (λ_=>.bQ) (λj=>arr[i*cs.len+j]?) 0 (x.getD i (jk cs)))
def mP{a:aq}{d:World}{c:Bool}{id:Nat}{b:ar}{g:Nat->Option Value}{i:Nat}{x:b.T}(e:c=true->b.plain=true)(h:b.R d a (λ_=>.bQ) g 0 x):
  b.R d a ((aI (bif c then 2 else 1) id []).inner i) g 0 x:=by
 cases c with
 |false=>exact h
 |true=>grind[ar.fZ]
def BW{a:aq}{f:World}{d:Bool}{id e m b n c:Nat}{arr:Array Value}(h:f.heap[b]? = some (.cells arr e (0,0)))(i:arr.size=c*m)(g:a b=some (id,[])):
  Hd f a e m (aI (bif d then 2 else 1) id []) (some ⟨b,0,none⟩) n c:=by
 cases d <;> exact .inr ⟨b,arr,rfl,h,i,g⟩
def qq{a:aq}{d:World}{b:Bool}{id e m:Nat}{c:Option Addr}:Hd d a e m (aI (bif b then 2 else 1) id []) c 0 0:=by cases b <;> exact .inl ⟨rfl,rfl⟩
def wE{α:Type}(xs a:List α)(i:Nat)(z:α):(xs++a).getD i z=if i<xs.length then xs.getD i z else a.getD (i-xs.length) z:=by
 grind
def gM{α:Type}(xs a:List α):(xs++a).length=xs.length+a.length:=jv
theorem iq{i n m j c:Nat}(d:i<n)(e:j<m)(b:n<=c):i*m+j<c*m:=by
 have a:(i+1)*m<=c*m:=dB _ (by omega)
 grind
def vU {d:aq} {h:World} {a:ar} {xs f:List a.T} {c b:List Value} {row:Nat->Option Value} (g:c.length=xs.length*a.len) (o:b.length=f.length*a.len)
  (q:∀i,i<xs.length->a.R h d (λ_=>.bQ) (λj=>c[i*a.len+j]?) 0 (xs.getD i (jk a)))
  (n:∀i,i<f.length->a.R h d (λ_=>.bQ) (λj=>b[i*a.len+j]?) 0 (f.getD i (jk a)))
  (p:∀j,j<(xs.length+f.length)*a.len->row j=(c++b)[j]?):
  ∀i,i<(xs++f).length->a.R h d (λ_=>.bQ) (λj=>row (i*a.len+j)) 0 ((xs++f).getD i (jk a)):=by
 intro i k;rw[gM]at k;rw[wE];split
 .grind[ar.fq,iq]
 .rename_i l;refine ar.fq a _ _ _ 0 _ (λj m=>?_) (n (i-xs.length) (by omega));rw[bC,p _ (iq k m (az _))];have e:i*a.len=xs.length*a.len+(i-xs.length)*a.len:=by rw[<-gh];congr 1;omega
  rw[iM (by rw[g];omega),g];congr 1;omega
def vV {s1:S} (h:Rel H ω a w s1) (hd:∀d,o.dst=some d->d<a.tmps.size) {t t' e:Nat} {cs:ar} {xs ys:List cs.T} {vx W:Value} {dp:Bool} {id':Nat} (B:id'≠0) {I:TypeInfo} {z:Value}
  (U:P.underlying t=some (.slice e)) (K:P.info? e=some I) (hz:I.zero=some z) (hsz:I.size=cs.len) (hzs:z.cells.size=cs.len) (hby:I.bytes<=65536)
  (hx:DX ω w s1 e cs xs vx) {f:List Value} (m:Src P I.size t' W ys.length f w) (F:∀i,i<ys.length->cs.R w ω (λ_=>.bQ) (λj=>f[i*cs.len+j]?) 0 (ys.getD i (jk cs)))
  (DV:((xs++ys).length:Int)<=1073741824) (CV:dp=true->cs.plain=true) (ty:Nat)
  (hk:k ((s1.new id' (.arr e cs dp (xs++ys))).bI o.dst (.one (.ref id' ((s1.new id' (.arr e cs dp (xs++ys))).ob id').g 0 [])))=some r):
  ∃v w',(Builtin.append_ #[t,t'] ty #[vx,W]).run P w=.ok v w'/\Ends H ω a w o.dst k r (a.put o.dst v) w':=by
 rw[gM]at DV;have G:f.length=ys.length*cs.len:=by rw[m.newsLen,hsz]
 have grow:∀(s:Option Addr) (c:Nat) (l:List Value),vx=.slice s xs.length c->c<xs.length+ys.length->l.length=xs.length*cs.len ->
   (Builtin.firstCells I.size xs.length (.slice s xs.length c)).run P w.drew=.ok l.toArray w.drew ->
   (∀i,i<xs.length->cs.R w ω (λ_=>.bQ) (λj=>l[i*cs.len+j]?) 0 (xs.getD i (jk cs))) ->
   ∃v w',(Builtin.append_ #[t,t'] ty #[vx,W]).run P w=.ok v w'/\Ends H ω a w o.dst k r (a.put o.dst v) w':=by
  intro s c l V hc L Gd J;have D:Builtin.nextslicecap (xs.length+ys.length) c*I.bytes<=281474976710656:=by
   refine growslice_fits hc ?_;have h1:(xs.length+ys.length)*I.bytes<=(xs.length+ys.length)*65536:=Nat.mul_le_mul_left _ hby
   grind
  have p:=run_append_grow_src (P:=P) w t t' ty e I z U K hz s xs.length c l Gd W ys.length f m hc (by omega) D;rw[<-V]at p;refine⟨_,_,p,?_⟩;have hge:=grownCap_ge w (xs.length+ys.length) c e;have hG:eF w w.drew:=eF.drew w;have Io:=h.world (w':=w.drew) (hG.ext ω) hG.block;have y:((l++f).toArray++Builtin.zeroCells z.cells (grownCap w (xs.length+ys.length) c e-(xs.length+ys.length))).size=grownCap w (xs.length+ys.length) c e*cs.len:=by
   have h1:(Builtin.zeroCells z.cells (grownCap w (xs.length+ys.length) c e-(xs.length+ys.length))).size=(grownCap w (xs.length+ys.length) c e-(xs.length+ys.length))*cs.len:=by simp[Builtin.zeroCells,hzs]
   rw[mY,h1,List.size_toArray,jv,L,G,<-gh,<-gh];congr 1;omega
  have hfin:=uP (k:=k) (r:=r) (ω:=ω) (w:=w) (w1:=w.drew) (eD:=ω) (s1:=s1) (e:=e) (cs:=cs) (dp:=dp) (x:=xs++ys) (id:=id') (c:=grownCap w (xs.length+ys.length) c e) Io (hG.ext ω) hd B (by rw[gM];exact hge) y (λi n=>?_) hk
  .simp_all
  .refine mP CV ?_;have E:∀(g:Nat->Option Value) (x:cs.T),cs.R w ω (λ_=>.bQ) g 0 x->cs.R (w.drew.alloc (.cells ((l++f).toArray++Builtin.zeroCells z.cells (grownCap w (xs.length+ys.length) c e-(xs.length+ys.length))) e)) (ω.fresh id' w.drew.heap.size) (λ_=>.bQ) g 0 x:=by intro g x hg;have Y:=hG.trans (eF.alloc w.drew (.cells ((l++f).toArray++Builtin.zeroCells z.cells (grownCap w (xs.length+ys.length) c e-(xs.length+ys.length))) e));exact ar.bZ Y.size cs _ _ _ 0 _ (λ_=>(dW (id:=id') B Y (az _)).keeps) (λ_=>rfl) hg
   refine vU (row:=λj=>((l++f).toArray++Builtin.zeroCells z.cells (grownCap w (xs.length+ys.length) c e-(xs.length+ys.length)))[j]?) L G (λi n=>E _ _ (J i n)) (λi n=>E _ _ (F i n)) (λj R=>?_) i n
   grind
 cases hx with
 |none O V hx0=>
  subst hx0;by_cases h0:ys.length=0
  .have hys:ys=[]:=cK.1 h0;subst hys;have Dw:f=[]:=cK.1 (by rw[G];simp);subst Dw;refine⟨.slice O 0 0,w,?_,?_⟩
   .subst V;have N:∀w':World,(Builtin.lenOf W).run P w'=.ok 0 w':=m.len;have Z:=m.cells;have M:(Builtin.firstCells I.size 0 W).run P w=.ok #[] w:=Z;rcases m.kind with ⟨e',T⟩|T
    .cases O <;> simp[Builtin.append_,run_underlying U,run_underlying T,sizeOf,typeInfo,K,N,M,storeCells]
    .cases O <;> simp[Builtin.append_,run_underlying U,run_underlying T,sizeOf,typeInfo,K,N,M,storeCells]
   .have hR:=h.bare (id':=id') B (.arr e cs dp (([]:List cs.T)++[])) (λ_ e=>by cases e);exact gW hR (bj _ _ _ B) hd ⟨O,0,0,rfl,rfl,az _,qq,λi _ n=>absurd n (by omega)⟩ hk
  .refine grow O 0 [] V (by simp;omega) (by simp) ?_ (λi n=>absurd n (by simp));cases O with
   |none=>rfl
   |some A=>grind[run_firstCells_some]
 |some b id c h0 arr V hn hh y hb ho J=>
  have hal:arr.toList.length=c*cs.len:=(gv (xs:=arr)).trans y;have hmin:min (xs.length*cs.len) (c*cs.len)=xs.length*cs.len:=Nat.min_eq_left (dB _ hn);by_cases q:xs.length+ys.length<=c
  .subst V;have Z:∀j,j<arr.size->w.cell? ⟨b,j,none⟩=arr[j]?:=λj _=>cell_of_row w b j arr e (0,0) hh;have D:xs.length*cs.len+f.length<=arr.size:=by rw[G,y,<-gh];exact dB _ q
   have p:=run_append_room_src (P:=P) w t t' ty e I U K b 0 xs.length c W ys.length f m q
    (λj R=>by grind)
    (λj R=>by simp[World.frozen?,hh])
   rw[hsz,bC]at p;refine⟨_,_,p,?_⟩;obtain⟨X,g1,g2⟩:=dQ b e (0,0) f (xs.length*cs.len) w arr hh D;have hp:=dL b f (xs.length*cs.len) w;have hR:=h.DL (id':=id') h0 B hb ho hp (.arr e cs dp (xs++ys)) (λ_ e=>by cases e);have C:=jH (id':=id') h0 B hb hp;refine gW hR C hd ?_ hk;refine⟨some ⟨b,0,none⟩,xs.length+ys.length,c,rfl,gM _ _,q,BW g1 ?_ (aq.eV _ _ _),?_⟩
   .grind[List.length_append]
   .intro i O n Q;injection Q with Q
    subst Q;refine mP CV ?_;have E:∀(g:Nat->Option Value) (x:cs.T),cs.R w ω (λ_=>.bQ) g 0 x->cs.R (w.setCells b (xs.length*cs.len) f) (ω.fresh id' b) (λ_=>.bQ) g 0 x:=by intro g x hg;exact ar.bZ C.size cs _ _ _ 0 _ (λ_=>C.keeps) (λ_=>rfl) hg
    have L:(arr.toList.take (xs.length*cs.len)).length=xs.length*cs.len:=by
     grind
    have:=vU (row:=λj=>(w.setCells b (xs.length*cs.len) f).cell? ⟨b,0+j,none⟩) L G (λi n=>E _ _ (ar.fq cs _ _ _ 0 _ (λj R=>by
      grind[iq]) (J i n))) (λi n=>E _ _ (F i n)) (λj R=>by
      have hlt:j<(arr.toList.take (xs.length*cs.len)++f).length:=by grind
      show _=_;rw[bC,cell_of_row _ b j X e (0,0) g1,<-fL,g2,pW hlt]) i (by rw[gM];exact n)
    grind
  .refine grow (some ⟨b,0,none⟩) c (arr.toList.take (xs.length*cs.len)) V (by omega) ?_ ?_ ?_
   .grind
   .refine run_firstCells_some w.drew I.size xs.length ⟨b,0,none⟩ xs.length c _ ?_ ?_
    .grind
    .intro j u U;have R:j<xs.length*cs.len:=by
      grind
     rw[pY R,fL]at U;rw[Addr.add_mid,bC,<-U];exact cell_of_row w.drew b j arr e (0,0) hh
   .intro i n;exact ar.fq cs _ _ _ 0 _ (λj R=>by
      grind[iq]) (J i n)
def Bo {P:Program} {size t' e':Nat} {v:Value} {n cp:Nat} {d:Option Addr} {a:List Value} (i:P.underlying t'=some (.slice e')) (j:v=.slice d n cp) (f:a.length=n*size) (g:∀u∈a,u.oneCell'=true)
  (h:0<n->∃b c,d=some ⟨b,c,none⟩/\∀k u,a[k]? = some u->w.cell? ⟨b,c+k,none⟩=some u):Src P size t' v n a w:=by
 by_cases e:n=0
 .subst e;have:a=[]:=cK.1 (by simpa using f);subst this;cases d with
  |none=>grind[Src.ofNil]
  |some A=>grind[Src.ofSlice]
 grind[Src.ofSlice,Addr.add_mid]
def qI(h:Rel H ω a w s){id g t:Nat}{c:Cont real}{v:Value}(m:s.cont id g t []=some c)(u:c.md≠0)(E:bU w ω s v (.ref id g t []))(e:c.md≠2\/c.cs.plain=true):
  DX ω w (s.bq id true .gone) c.e c.cs c.x v:=by
 have D:=E.2.2 c m;have j:∀(i:Nat) (g:Nat->Option Value) (y:c.cs.T),c.cs.R w ω ((aI c.md id []).inner i) g 0 y->c.cs.R w ω (λ_=>.bQ) g 0 y:=by
  intro i g y x;rcases e with e|e
  .rcases(lS m).2 with d|d|d
   .exact absurd d u
   .rw[d]at x;exact x
   .exact absurd d e
  grind[ar.fZ]
 obtain⟨p,n,q,r,z,A,f,F⟩:=D;have o:Hd w ω c.e c.cs.len (.flat (id,[])) p n q:=by
  rcases(lS m).2 with d|d|d
  .exact absurd d u
  .rw[d]at f;exact f
  .rw[d]at f;exact f
 subst z;rcases o with ⟨k,l⟩|⟨b,arr,k,l,B,C⟩
 .refine .none p ?_ (cK.1 l);rw[r,k];congr 1
 .subst k;refine .some b id q (h.pR ?_) arr r A l B C (by rw[St.ay]) (λi G=>?_)
  .grind[dz]
  grind[cell_of_row]
def mV{α:Type}(x:List α)(l h:Nat)(a:l<=h)(b:h<=x.length):((x.drop l).take (h-l)).length=h-l:=by
 grind
def xb{α:Type}(x:List α)(l h i:Nat)(z:α)(a:i<h-l):((x.drop l).take (h-l)).getD i z=x.getD (l+i) z:=by
 grind
def tV{e:Nat}{a:ar}{x:List a.T}{f:Option Addr}{n cp:Nat}(C:(Ty.sl e a).R w ω .bQ (.slice f n cp) x){l h:Nat}(z:l<=h)(B:h<=x.length):
  (Ty.sl e a).R w ω .bQ (sliced f l h cp a.len) ((x.drop l).take (h-l)):=by
 obtain⟨m,G,o,p,q,E,g,r⟩:=C;injection p with s t u
 subst s;subst t;subst u;subst q;refine⟨_,h-l,cp-l,rfl,mV x l h z B,by omega,?_,?_⟩
 .intro F;obtain⟨b,c,k,v,y⟩:=g (by omega)
  grind[Addr.add_mid]
 .intro i A D d;obtain⟨b,c,k,v,y⟩:=g (by omega);subst k;rw[dS (by omega),cZ,Addr.add_mid]at d;injection d with d
  subst d;have:=r (l+i) ⟨b,c,none⟩ (by omega) rfl;rw[xb x l h i _ D];refine ar.fq a _ _ _ 0 _ (λj _=>?_) this
  grind
def pL{t e:Nat}(c:P.underlying t=some (.slice e))(x:Value)(b a mx:Option Value)(w:World):(Instr.sliceAt t x b a mx).run P w=(Instr.slice t x b a mx).run P w:=by simp[Instr.sliceAt,run_underlying c]
def lM{t e:Nat}(a:P.underlying t=some (.slice e)):P.underlying t=some (.slice (P.elem t)):=by
 grind[Program.elem]
def sH {t e:Nat} {I:TypeInfo} (c:P.underlying t=some (.slice e)) (p:P.info? e=some I) (w:World) (b:Option Addr) (n cp:Nat) (q:n<=cp) (d a:Option Value) (l h:Int)
  (k:(d=none/\l=0)\/d=some (.int .i64 l)) (j:(a=none/\h=(n:Int))\/a=some (.int .i64 h)) (g:0<=l) (i:l<=h) (m:h<=(n:Int)):
  (Instr.sliceAt t (.slice b n cp) d a none).run P w=.ok (sliced b l.toNat h.toNat cp I.size) w:=by
 rw[pL c];have o:P.elem t=e:=by simp[Program.elem,c]
 have f:(sizeOf (P.elem t)).run P w=.ok I.size w:=by simp_all[sizeOf,typeInfo]
 rcases k with ⟨rfl,rfl⟩|rfl <;> rcases j with ⟨rfl,rfl⟩|rfl
 .simp_all[run_slice_all]
 .rw[run_slice_h w t b n cp (lM c) .i64 h (by omega) (by omega),f];rfl
 .simp_all[run_slice_l]
 .rw[run_slice_lh w t b n cp (lM c) .i64 .i64 l h g i (by omega),f];rfl
def rS {t e:Nat} {I:TypeInfo} (b:P.underlying t=some (.slice e)) (k:P.info? e=some I) (w:World) (a:Option Addr) (n cp:Nat) (c f:IntKind) (g:Option Value)
  (i:g=none\/∃d,g=some (.int d 0)):
  (Instr.sliceAt t (.slice a n cp) g (some (.int c 0)) (some (.int f 0))).run P w=.ok (.slice a 0 0) w:=by
 rw[pL b];have j:P.elem t=e:=by simp[Program.elem,b]
 have h:(sizeOf (P.elem t)).run P w=.ok I.size w:=by simp_all[sizeOf,typeInfo]
 rcases i with rfl|⟨d,rfl⟩
 .rw[run_slice_hm w t a n cp (lM b) c f 0 0 (by omega) (by omega) (by omega),h];rfl
 .rw[run_slice_lhm w t a n cp (lM b) d c f 0 0 0 (by omega) (by omega) (by omega) (by omega),h];rfl
def oG{x:Option Operand}(h:gX x=true):∃k,x.map a.eval=some (.int k 0):=by
 unfold gX at h;split at h
 .rename_i k n;have:=bR h;subst this;exact⟨k,rfl⟩
 .cases h
def qV{t:Nat}{x:Operand}{c b mx:Option Operand}(e:o.op=.slice t x c b mx){v:Value}{d:World}(h:(Instr.sliceAt t (a.eval x) (c.map a.eval) (b.map a.eval) (mx.map a.eval)).run P w=.ok v d):(execOp a.eval o).run P w=.ok (.value v) d:=by simp_all[execOp]
theorem yQ (hE:bD P E) {t:Nat} {x:Operand} {D C mx:Option Operand} (ho:o.op=.slice t x D C mx) (h:Rel H ω a w s) (hd:∀d,o.dst=some d->d<a.tmps.size) {Φ:bA->Option (Callee real (Option R))}
  (hk:aL E (av R) Φ o s k=some r):o.wp P a w (Ends H ω a w o.dst k r) Q:=by
 have T:=bE h E t x;unfold aL at hk;simp only[ho]at hk;unfold jL at hk;obtain⟨⟨e,cs⟩,h1,Hf⟩:=ah hk;obtain⟨c,u,n⟩:=ah Hf;clear hk Hf;obtain⟨hu,j,I,d,hj,FC,ok⟩:=gQ hE h1;have hI:I.size=cs.len:=by rw[ok.size,FC]
 cases hb:(Nat.beq e c.e&&ar.beq cs c.cs)with
 |false=>simp only[hb]at n;cases n
 |true=>
  simp only[hb,aJ]at n;rw[aQ]at hb;have he:=bc hb.1;have hcs:=ar.eq_of_beq hb.2;subst he;subst hcs;obtain⟨U,cp,V,e2⟩:=wo u T;cases h0:(gX mx&&(gX C&&DJ D))with
  |true=>
   simp only[h0,aJ]at n;rw[aQ,aQ]at h0;obtain⟨g1,g2,g3⟩:=h0;obtain⟨km,f1⟩:=oG (a:=a) g1;obtain⟨kh,f2⟩:=oG (a:=a) g2;have f3:D.map a.eval=none\/∃kl,D.map a.eval=some (.int kl 0):=by
    cases D with
    |none=>exact .inl rfl
    |some q=>exact .inr (oG g3)
   refine aT h hd (v:=.slice U 0 0) (qV ho ?_) (t:=.one (.eI c.e c.cs)) ⟨U,rfl⟩ n;rw[V,f1,f2];exact rS hu ok.info w U _ cp kh km _ f3
  |false=>
   simp only[h0,cz]at n;cases mx with
   |some _=>cases n
   |none=>
    simp only at n;obtain⟨(l:Int),h3,EN⟩:=ah n;obtain⟨(m:Int),h4,Hg⟩:=ah EN;clear n EN;have f:(bif mT c.x l m then eS E (av R) (o.dst.getD 0) s (ev E s t x) c D.isNone l m (λv s=>k (s.bI o.dst v))else none)=some r:=Hg;clear Hg;cases z:mT c.x l m with
    |false=>rw[z]at f;cases f
    |true=>
     rw[z]at f;simp only[aJ]at f;unfold mT at z;rw[aQ,aQ]at z;have g0:0<=l:=bR z.1;have g1:l<=m:=bR z.2.1;have g2:m<=(List.length c.x:Int):=bR z.2.2;have hlo:(D.map a.eval=none/\l=0)\/D.map a.eval=some (.int .i64 l):=by
      cases D with
      |none=>
       refine .inl ⟨rfl,?_⟩;injection h3 with h3
       exact h3.symm
      |some q=>exact .inr (by rw[cZ,iK h3 (bE h E 0 q)])
     have hhi:(C.map a.eval=none/\m=(List.length c.x:Int))\/C.map a.eval=some (.int .i64 m):=by
      cases C with
      |none=>
       refine .inl ⟨rfl,?_⟩;injection h4 with h4
       exact h4.symm
      |some q=>exact .inr (by rw[cZ,iK h4 (bE h E 0 q)])
     have L:=sH (P:=P) hu ok.info w U (List.length c.x) cp e2 (D.map a.eval) (C.map a.eval) l m hlo hhi g0 g1 g2;rw[hI,<-V]at L;have G:(execOp a.eval o).run P w=.ok (.value (sliced U l.toNat m.toNat cp c.cs.len)) w:=qV ho L;have q1:l.toNat<=m.toNat:=by omega
     have q2:m.toNat<=List.length c.x:=by omega
     have bQ:(Ty.sl c.e c.cs).R w ω .bQ (a.eval x) c.x->k (s.bI o.dst (.one (.val (.sl c.e c.cs) (real.sub c.x l m))))=some r->o.wp P a w (Ends H ω a w o.dst k r) Q:=by intro Y hkk;rw[V]at Y;exact aT h hd G (t:=.one (.val (.sl c.e c.cs) (real.sub c.x l m))) (tV Y q1 q2) hkk
     unfold eS at f;cases J:ev E s t x with
     |one q=>
      rw[J]at f T u;cases q with
      |val tt xx=>
       cases tt with
       |sl e' F=>have M:(⟨e',F,xx,0⟩:Cont real)=c:=aG u;refine bQ ?_ f;rw[<-M];exact T
       |_=>cases u
      |eI e' F=>have M:(⟨e',F,real.kN e' F,1⟩:Cont real)=c:=aG u;refine bQ ?_ f;rw[<-M];obtain⟨W,HC⟩:=T;exact⟨W,0,0,HC,rfl,az _,λhn=>absurd hn (by omega),λi _ C=>absurd C (by omega)⟩
      |ref id g hh p=>
       cases p with
       |cons _ _=>cases f
       |nil=>
        have hc:s.cont id g hh []=some c:=u;have Y:=T.2.2 c hc;simp only at f;cases y:Nat.beq c.md 0 with
        |true=>have hm:=bc y;rw[y]at f;rw[hm]at Y;exact bQ Y f
        |false=>
         rw[y]at f;simp only[cz]at f;have hm:c.md≠0:=by intro e;rw[e]at y;cases y
         have hsp:=dz hc;have Z:∃dp,(s.ob id).o=.arr c.e c.cs dp c.x/\c.md=bif dp then 2 else 1:=by
          grind
         obtain⟨dp,yX,AY⟩:=Z;cases S:(E.trunc (o.dst.getD 0)&&D.isNone)with
         |false=>
          rw[S]at f;simp only[cz]at f;have hne:id≠0:=h.pR (by grind);have hfr:=h.freeze yX true;have hx':=(lO (ω:=ω) (w:=w) hne h.dom yX true id).ref _ g hh [] T;have Gb:(s.bq id true (.bQ c.e c.cs c.x)).cont id g hh []=some ⟨c.e,c.cs,c.x,0⟩:=by
           grind[St.cont,fU.cont,St.ay,eN]
          have N:=hx'.2.2 _ Gb;simp only[aI]at N;rw[V]at N;exact eY G (dV hfr (bj _ _ _ hne) hd (t:=.one (.val (.sl c.e c.cs) (real.sub c.x l m))) (tV N q1 q2) f)
         |true=>
          rw[S]at f;simp only[aJ]at f;cases K:(Nat.beq c.md 2 && !c.cs.plain)with
          |true=>rw[K]at f;cases f
          |false=>
           rw[K]at f;simp only[cz]at f;rw[aQ]at S;have FE:l=0:=by
            grind
           have CV:Nat.beq c.md 2=true->c.cs.plain=true:=by
            grind
           have hX:=qI h hc hm T (by
            by_cases e:c.md=2
            .exact .inr (CV (by rw[e];rfl))
            .exact .inl e)
           have hz:real.sub c.x l m=((List.drop 0 c.x).take (m.toNat-0):List c.cs.T):=by rw[FE];rfl
           subst FE;have G9:=h.gone id true;cases hX with
           |none W hv hx0=>
            rw[V]at hv;injection hv with v1 v2 v3
            subst v3;have y:m.toNat=0:=by omega
            have O:=G9.bare (id':=aD (o.dst.getD 0) 0 0) (da _ _ _) (.arr c.e c.cs (Nat.beq c.md 2) (real.sub c.x (0:Int) m)) (λ_ e=>by cases e);refine eY G (gW O (bj _ _ _ (da _ _ _)) hd ?_ f);refine⟨U,0,0,?_,?_,az _,qq,λi _ C=>absurd C (by omega)⟩
            .simp[sliced,y]
            grind
           |some b I3 IN X arr hv hn EF hsz hb' Hj hel=>
            rw[V]at hv;injection hv with v1 v2 v3
            subst v3;subst v1;have O:=G9.DL (id':=aD (o.dst.getD 0) 0 0) X (da _ _ _) hb' Hj (og.refl w b) (.arr c.e c.cs (Nat.beq c.md 2) (real.sub c.x (0:Int) m)) (λ_ e=>by cases e);have B:=jH (ω:=ω) (id':=aD (o.dst.getD 0) 0 0) X (da _ _ _) hb' (og.refl w b);refine eY G (gW O B hd ?_ f);refine⟨some ⟨b,0,none⟩,m.toNat,cp,?_,?_,by omega,BW EF hsz (aq.eV _ _ _),?_⟩
            .simp[sliced,Addr.add_mid]
            .grind
            .intro i A C hA;injection hA with hA
             subst hA;refine mP CV ?_;rw[hz,xb c.x 0 m.toNat i _ (by omega),show(0+i)=i from bC i];have hrow:=ar.bZ B.size c.cs _ _ _ 0 _ (λ_=>B.keeps) (λ_=>rfl) (hel i (by omega))
             grind[cell_of_row]
      |ptr _ _ _=>cases u
      |bH _ _ _ _ _ _=>cases u
      |ei _ _ _=>cases u
      |cD _ _=>cases u
      |fn _ _=>cases u
      |C4 _ _=>cases u
      |undef=>cases u
      |dead=>cases u
     |agg _=>rw[J]at u;cases u
     |ol _=>rw[J]at u;cases u
     |pQ _ _=>rw[J]at u;cases u
def j4 {t:Nat} {I:TypeInfo} (f:P.info? t=some I) {b off T:Nat} {arr:Array Value} {v:Value} (c:w.heap[b]? = some (.cells arr T (0,0))) (g:v.cells.size=I.size) (a:off+v.cells.size<=arr.size)
  (d:∀u∈v.cells.toList,u.oneCell'=true):(Instr.storeAt t (.pointer (some ⟨b,off,none⟩)) v).run P w=.ok () (w.setCells b off v.cells.toList):=by
 have:=run_storeCells_cells (P:=P) b off v.cells.toList 0 w (λj e=>by
   rw[cell_of_row w b _ arr T (0,0) c]
   grind) (λj e=>by simp[World.frozen?,c]) d
 simp_all[Instr.storeAt,Instr.sureAddr,storeVar,sizeOf,typeInfo]
def dc{d:World}{b id:Nat}{q:List (Nat×Nat)}(f:id≠0)(g:ω b=some (id,q))(a:og w d b):cH ω w ω d:=
 ⟨a.os,a.tape,a.output,by rw[a.size];exact az _,λc i h=>by
  have:c≠b:=λe=>by subst e;exact h.ne g f
  exact⟨a.block c this,rfl⟩⟩
def mJ{t:World}{b id:Nat}{cells cells':List L}(u:id≠0)(hd:∀b k,ω b=some k->b<w.heap.size)(y:ω b=some (id,[]))(z:(s.ob id).o=.blk cells)(r:og w t b)(j:Nat):Tr w ω s t ω (s.bq id true (.blk cells')) j:=by
 by_cases e:j=id
 .subst e;have n:((s.bq j true (.blk cells')).ob j).o=.blk cells':=by rw[St.ay]
  have d:((s.bq j true (.blk cells')).ob j).g=(s.ob j).g:=by rw[St.ay]
  have q:((s.bq j true (.blk cells')).ob j).h=bif true then(s.ob j).h+1 else(s.ob j).h:=by rw[St.ay]
  have l:∀g h p c,(s.bq j true (.blk cells')).cont j g h p=some c->False:=by
   grind[St.cont,fU.cont]
  exact
  {ref:=λv g h p a=>⟨by rw[d];exact a.1,by rw[d,q];exact gF true a.2.1,λc m=>(l _ _ _ _ m).elim⟩
   ptr:=λv g o a=>⟨by rw[d];exact a.1,λf _ _=>by rw[d]at f;exact a.2 f cells z⟩
   bH:=λv g h p i o a=>⟨by rw[d];exact a.1,by rw[d,q];exact gF true a.2.1,λc m=>(l _ _ _ _ m).elim⟩
   cD:=λv g a=>a.shut d λk x e=>by rw[n]at e;cases e }
 .refine gx.tr ⟨St.aO _ _ _ e,λc D m C B=>?_⟩ (dc u y r) hd;have:c≠b:=λA=>by grind
  exact⟨r.block c this,rfl⟩
def Rel.AP (h:Rel H ω a w s) {q:World} {b id T:Nat} {cells cells':List L} {arr:Array Value} (g:ω b=some (id,[])) (p:(s.ob id).o=.blk cells) (d:og w q b)
  (v:q.heap[b]? = some (.cells arr T (0,0))) (n:aH (bU w ω s) arr.toList cells') (f:id≠0:=h.pR (by grind)):Rel H ω a q (s.bq id true (.blk cells')) where
 dH:=h.dH.ext (dc f g d)
 inj:=h.inj
 dom c kk m:=by rw[d.size];exact h.dom c kk m
 defers:=h.defers
 dJ:=by rw[St.aO _ _ _ (dG f)];exact h.dJ
 slots i:=cQ.frame (dc f g d) (mJ f h.dom g p d) (h.slots i)
 c7 j cs k:=by
  by_cases e:j=id
  .subst e;rw[St.ay]at k;injection k with k
   subst k;exact⟨b,arr,T,g,v,n.mono λ_ _ o=>bU.frame (dc f g d) (mJ f h.dom g p d) o⟩
  .rw[St.aO _ _ _ e]at k;obtain⟨c,l,r,m,t,u⟩:=h.c7 j cs k;have:c≠b:=λx=>by grind
   exact⟨c,l,r,m,(d.block c this).trans t,u.mono λ_ _ o=>bU.frame (dc f g d) (mJ f h.dom g p d) o⟩
def rU:∀(d:ar) (b:Nat->Md) (g c:Nat->Option Value) (a j:Nat) (y f:d.T) (t:Ty) (v:t.T) (u:Value),d.R w ω b g a y->setCell (A:=real) d y j ⟨t,v⟩=some f->t.R w ω (b (a+j)) u v ->
  c (a+j)=some u->(∀i,i≠a+j->c i=g i)->d.R w ω b c a f
 |.nil,_,_,_,_,_,_,_,_,_,_,_,h,_,_,_=>by cases h
 |.cons e ts,b,g,c,a,0,y,f,t,v,u,m,h,r,p,q=>by
  simp only[setCell]at h;split at h
  .rename_i x;injection h with h
   subst h;obtain rfl:=Ty.eq_of_beq x;have l:kp (kZ (t:=t) (ts:=ts) v (jP y))=v:=kI _ _;have o:jP (kZ (t:=t) (ts:=ts) v (jP y))=jP y:=kK _ _;refine⟨⟨u,p,?_⟩,?_⟩
   .show t.R w ω (b a) u (kp (kZ v (jP y)));rw[l];exact r
   .show ts.R w ω b c (a+1) (jP (kZ v (jP y)));rw[o];exact ar.fq ts b g c (a+1) _ (λk _=>q _ (by omega)) m.2
  .cases h
 |.cons e ts,b,g,c,a,j+1,y,f,t,v,u,m,h,r,p,q=>by
  simp only[setCell]at h;cases n:setCell (A:=real) ts (real.tl y) j ⟨t,v⟩with
  |none=>rw[n]at h;cases h
  |some z=>
   rw[n]at h;have h:=aG h;subst h;have l:kp (kZ (t:=e) (ts:=ts) (kp y) z)=kp y:=kI _ _;have o:jP (kZ (t:=e) (ts:=ts) (kp y) z)=z:=kK _ _;obtain⟨⟨s,D,B⟩,C⟩:=m;refine⟨⟨s,?_,?_⟩,?_⟩
   .grind
   .show e.R w ω (b a) s (kp (kZ (kp y) z));rw[l];exact B
   .show ts.R w ω b c (a+1) (jP (kZ (kp y) z));rw[o];refine rU ts b g c (a+1) j _ z t v u C n ?_ ?_ ?_
    .grind
    .grind
    grind
def Cv(h:Rel H ω a w s){deep:Bool}{t:Ty}{l:L}{v:Value}{x:t.T}{o:S}{md:Md}(E:deep=false->md=.bQ)(n:bU w ω s v l)(b:bF (A:=real) deep t l s=some (x,o)):
  ∃c,Passes H ω a w s c o/\(deep=true->c=ω)/\t.R w c md v x:=by
 cases deep with
 |false=>grind[wS]
 |true=>
  cases l with
  |val u y=>
   cases u with
   |sl e z=>cases t <;> cases b
   |map k=>cases t <;> cases b
   |_=>
    simp only[bF]at b;split at b
    .rename_i m;injection b with b
     injection b with f j
     subst f;subst j;obtain rfl:=Ty.eq_of_beq m;exact⟨ω,Passes.refl h,λ_=>rfl,n⟩
    .cases b
  |eI e z=>
   cases t with
   |sl G B=>
    simp only[bF]at b;split at b
    .rename_i m;injection b with b
     injection b with f j
     subst f;subst j;have:=Ty.eq_of_beq m;injection this with d C
     subst d;subst C;obtain⟨q,d⟩:=n;refine⟨ω,Passes.refl h,λ_=>rfl,q,0,0,d,rfl,az _,?_,λi r D=>absurd D (by omega)⟩;cases md with
     |bQ=>exact λF=>absurd F (by omega)
     |flat _=>exact .inl ⟨rfl,rfl⟩
     |deep _=>exact .inl ⟨rfl,rfl⟩
    .cases b
   |_=>cases b
  |ref id g I p=>
   cases p with
   |cons _ _=>cases t <;> cases b
   |nil=>grind[bF]
  |_=>cases t <;> cases b
def Cw{deep:Bool}{t:Ty}{l:L}{x:t.T}{s s':S}(a:bF (A:=real) deep t l s=some (x,s'))(j:Nat):s'.ob j=s.ob j\/∃e c y,(s'.ob j).o=.bQ e c y:=by
 cases l with
 |val u y=>cases u <;> cases deep <;> simp only[bF,cz,aJ]at a <;> first|(cases a;done)|grind
 |eI e c=>
  cases t with
  |sl i f=>grind[bF]
  |_=>cases a
 |ref id g k p=>
  cases p with
  |cons _ _=>cases t <;> cases a
  |nil=>
   simp only[bF]at a;cases d:Nat.beq (s.ob id).g g with
   |false=>rw[d]at a;cases a
   |true=>
    rw[d]at a;simp only[aJ]at a;cases b:(s.ob id).o with
    |arr e c h y=>grind[St.ay,St.aO]
    |bQ e c y=>grind
    |blk _=>rw[b]at a;cases a
    |gone=>rw[b]at a;cases a
    |mp _ _=>rw[b]at a;cases a
 |_=>cases t <;> cases a
def lF{deep:Bool}{md:Nat->Md}(n:deep=false->∀j,md j=.bQ):∀(ls:List L) (B:List Value) (c:ar) (y C:c.T) (j:Nat) (g:Nat->Option Value) (f:aq) (s o:S),Rel H f a w s->aH (bU w f s) B ls->c.R w f md g 0 y ->
  aN (A:=real) deep c y j ls s=some (C,o) ->
  ∃p,Passes H f a w s p o/\(deep=true->p=f)/\(∀i,o.ob i=s.ob i\/∃e c y,(o.ob i).o=.bQ e c y) /\
   ∀m:Nat->Option Value,(∀k u,B[k]? = some u->m (j+k)=some u)->(∀i,i<j\/j+B.length<=i->m i=g i)->c.R w p md m 0 C
 |[],[],c,y,C,j,g,f,s,o,h,_,F,b=>by
  simp only[aN]at b;injection b with b
  injection b with V d
  subst V;subst d;refine⟨f,Passes.refl h,λ_=>rfl,λ_=>.inl rfl,λm _ d=>?_⟩;have:m=g:=funext λi=>d i (by simp;omega);rw[this];exact F
 |[],_::_,_,_,_,_,_,_,_,_,_,d,_,_=>d.elim
 |_::_,[],_,_,_,_,_,_,_,_,_,d,_,_=>d.elim
 |l::ls,u::B,c,y,C,j,g,f,s,o,h,d,F,b=>by
  simp only[aN]at b;cases Q:cellAt (A:=real) c y j with
  |none=>rw[Q]at b;cases b
  |some q=>
   obtain⟨t,y0⟩:=q;rw[Q]at b;simp only at b;cases E:bF (A:=real) deep t l s with
   |none=>rw[E]at b;cases b
   |some q=>
    obtain⟨v,s1⟩:=q;rw[E]at b;simp only at b;cases K:setCell (A:=real) c y j ⟨t,v⟩with
    |none=>rw[K]at b;cases b
    |some T=>
     rw[K]at b;simp only at b;obtain⟨D,x,O,Z⟩:=Cv (md:=md j) h (λe=>n e j) d.1 E;have I:c.R w D md g 0 y:=by
      cases deep with
      |true=>rw[O rfl];exact F
      |false=>refine ar.bZ (az _) c md g g 0 y (λj=>?_) (λ_=>rfl) F;rw[n rfl j];exact x.ext.keeps
     have J:=rU c md g (λi=>if i=j then some u else g i) 0 j y T t v u I K (by rw[bC];exact Z) (by simp) (λi W=>by
      grind)
     obtain⟨N,Y,U,r,r2⟩:=lF n ls B c T C (j+1) _ D s1 o x.rel (d.2.mono λ_ _ X=>bU.frame x.ext x.tr X) J b;refine⟨N,x.trans Y,λe=>(U e).trans (O e),λi=>?_,λm P g2=>?_⟩
     .rcases r i with r|r
      .rcases Cw E i with R|⟨e,c',z,R⟩
       .exact .inl (r.trans R)
       grind
      .exact .inr r
     .refine r2 m (λk v' M=>?_) (λi W=>?_)
      .have:=P (k+1) v' (by simpa using M)
       grind
      .by_cases G:i=j
       .subst G;have:=P 0 u rfl;simpa using this
       grind
def ku(a:Bool):(bif a then 2 else 1)≠0:=by cases a <;> decide
def s7:∀(a:ar) (y:a.T) (j:Nat) q,cellAt (A:=real) a y j=some q->j<a.len
 |.nil,_,_,_,h=>by cases h
 |.cons t ts,y,0,_,_=>by simp[ar.len]
 |.cons t ts,y,j+1,q,h=>by have:=s7 ts _ j q h;simp[ar.len];omega
def ko{deep:Bool}:∀(ls:List L) (a:ar) (y:a.T) (j:Nat) (s:S) q,aN (A:=real) deep a y j ls s=some q->ls=[]\/j+ls.length<=a.len
 |[],_,_,_,_,_,_=>.inl rfl
 |l::ls,a,y,j,s,q,h=>by
  simp only[aN]at h;cases b:cellAt (A:=real) a y j with
  |none=>rw[b]at h;cases h
  |some z=>
   obtain⟨t,i⟩:=z;have e:=s7 a y j _ b;rw[b]at h;simp only at h;cases c:bF (A:=real) deep t l s with
   |none=>rw[c]at h;cases h
   |some z=>
    obtain⟨v,f⟩:=z;rw[c]at h;simp only at h;cases d:setCell (A:=real) a y j ⟨t,v⟩with
    |none=>rw[d]at h;cases h
    |some g=>
     rw[d]at h;rcases ko ls a g (j+1) f q h with h|h
     .grind
     grind
def pD{o:World}{md id b i:Nat}{d:ar}{g:Nat->Option Value}{y:d.T}(m:ω b=some (id,[]))(n:og w o b)(h:d.R w ω ((aI md id []).inner i) g 0 y):d.R o ω ((aI md id []).inner i) g 0 y:=by
 refine ar.bZ (by rw[n.size];exact az _) d _ _ _ 0 _ (λj c p l=>?_) (λ_=>rfl) h;have:c≠b:=by
  intro e;subst e;rcases l with l|⟨k,f,a⟩
  .rw[m]at l;cases l
  .rw[m]at f;injection f with f
   subst f;unfold aI at a;split at a
   .exact a.elim
   .exact a.elim
   .have:=a.2;simp[aC]at this
 exact⟨n.block c this,rfl⟩
def qN {B:World} {b id e:Nat} {d:ar} {f:Bool} {x x':List d.T} (L:id≠0) (hd:∀b k,ω b=some k->b<w.heap.size) (M:ω b=some (id,[])) (F:(s.ob id).o=.arr e d f x) (G:og w B b) (S:x'.length=x.length)
  (N:∀v,(Ty.sl e d).R w ω (aI (bif f then 2 else 1) id []) v x->(Ty.sl e d).R B ω (aI (bif f then 2 else 1) id []) v x') (j:Nat):Tr w ω s B ω (s.bq id true (.arr e d f x')) j:=by
 by_cases C:j=id
 .subst C;have m:((s.bq j true (.arr e d f x')).ob j).o=.arr e d f x':=by rw[St.ay]
  have n:((s.bq j true (.arr e d f x')).ob j).g=(s.ob j).g:=by rw[St.ay]
  have E:((s.bq j true (.arr e d f x')).ob j).h=(s.ob j).h+1:=by rw[St.ay];rfl
  have q:((s.bq j true (.arr e d f x')).ob j).h=bif true then(s.ob j).h+1 else(s.ob j).h:=E
  have r:∀(g h:Nat) (p:iU) (c:Cont real),h<=(s.ob j).h+(if g=(s.ob j).g then 0 else h)->(s.bq j true (.arr e d f x')).cont j g h p=some c->p=[]/\g=(s.ob j).g/\c=⟨e,d,x',bif f then 2 else 1⟩:=by
   intro g h p c y l;obtain⟨o,t⟩:=dz l;rw[n]at o;rw[cj o.symm]at y;rcases t with ⟨J,u,K,D⟩|⟨_,_,_,_,_,D,_⟩|⟨u,_,_⟩
   .rw[m]at u;refine⟨K,o.symm,?_⟩;obtain⟨ce,H,O,I⟩:=c
    grind
   .rw[E]at D;omega
   .rw[m]at u;cases u
  exact
  {ref:=λv g h p a=>⟨by rw[n];exact a.1,by rw[n,q];exact gF true a.2.1,λc l=>by
    obtain⟨o,t,A⟩:=r g h p c a.2.1 l;subst o;subst A;exact N v (a.2.2 _ (bW (h:=h) F t))⟩
   ptr:=λv g z a=>⟨by rw[n];exact a.1,λ_ cells l=>by rw[m]at l;cases l⟩
   bH:=λv g h p i z a=>⟨by rw[n];exact a.1,by rw[n,q];exact gF true a.2.1,λc l T=>by
    obtain⟨o,t,A⟩:=r g h p c a.2.1 l;subst o;subst A;obtain⟨V,W,X,Z,Y⟩:=a.2.2 _ (bW (h:=h) F t) (ku f)
    grind⟩
   cD:=λv g a=>a.shut n λk x e=>by rw[m]at e;cases e }
 .refine gx.tr ⟨St.aO _ _ _ C,λc U l R Q=>?_⟩ (dc L M G) hd;have:c≠b:=λP=>by grind
  exact⟨G.block c this,rfl⟩
def Rel.ue (h:Rel H ω a w s) {p:World} {b id e:Nat} {k:ar} {m:Bool} {x x':List k.T} (l:ω b=some (id,[])) (r:(s.ob id).o=.arr e k m x) (d:og w p b) (q:x'.length=x.length)
  (t:∀v,(Ty.sl e k).R w ω (aI (bif m then 2 else 1) id []) v x->(Ty.sl e k).R p ω (aI (bif m then 2 else 1) id []) v x') (f:id≠0:=h.pR (by grind)):Rel H ω a p (s.bq id true (.arr e k m x')) where
 dH:=h.dH.ext (dc f l d)
 inj:=h.inj
 dom c kk n:=by rw[d.size];exact h.dom c kk n
 defers:=h.defers
 dJ:=by rw[St.aO _ _ _ (dG f)];exact h.dJ
 slots i:=cQ.frame (dc f l d) (qN f h.dom l r d q t) (h.slots i)
 c7 j cells hc:=by
  by_cases y:j=id
  .grind[St.ay]
  .rw[St.aO _ _ _ y]at hc;obtain⟨c,g,u,n,z,A⟩:=h.c7 j cells hc;have:c≠b:=λB=>by grind
   exact⟨c,g,u,n,(d.block c this).trans z,A.mono λ_ _ o=>bU.frame (dc f l d) (qN f h.dom l r d q t) o⟩
def CB {r:World} {b id e md:Nat} {c:ar} {x x':List c.T} {arr kM:Array Value} (M:md≠0) (o:∀b z k,ω b=some k->ω z=some k->b=z) (B:ω b=some (id,[])) (t:r.heap[b]? = some (.cells kM e (0,0))) (O:kM.size=arr.size)
  (K:w.heap[b]? = some (.cells arr e (0,0))) (L:x'.length=x.length)
  (J:∀i,i<x.length->c.R r ω ((aI md id []).inner i) (λj=>kM[i*c.len+j]?) 0 (x'.getD i (jk c))) (v:Value) (h:(Ty.sl e c).R w ω (aI md id []) v x):(Ty.sl e c).R r ω (aI md id []) v x':=by
 obtain⟨l,n,m,C,D,E,F,S⟩:=h;subst D;have u:∀ {a:Md},(a=.flat (id,[])\/a=.deep (id,[]))->Hd w ω e c.len a l x.length m->Hd r ω e c.len a l x.length m/\(0<x.length->l=some ⟨b,0,none⟩):=by
  intro a f I;have s:(m=0/\x.length=0)\/∃b arr,l=some ⟨b,0,none⟩/\w.heap[b]? = some (.cells arr e (0,0))/\arr.size=m*c.len/\ω b=some (id,[]):=by rcases f with rfl|rfl <;> exact I
  rcases s with ⟨p,d⟩|⟨R,y,p,d,G,H⟩
  .refine⟨?_,λN=>absurd N (by omega)⟩;rcases f with rfl|rfl <;> exact .inl ⟨p,d⟩
  .obtain rfl:=o _ _ _ B H;rw[K]at d;injection d with d
   injection d with d
   subst d;refine⟨?_,λ_=>p⟩;rcases f with rfl|rfl <;> exact .inr ⟨b,kM,p,t,by rw[O];exact G,B⟩
 have g:aI md id []=.flat (id,[])\/aI md id []=.deep (id,[]):=by
  match md,M with
  |1,_=>exact .inl rfl
  |n+2,_=>exact .inr rfl
 obtain⟨P,Q⟩:=u g F;refine⟨l,x.length,m,C,L,E,P,λi A T q=>?_⟩;rw[Q (by omega)]at q;injection q with q
 subst q
 grind[cell_of_row]
def yf{t:Nat}{p v:Operand}(c:o.op=.store t p v){b:World}(h:(Instr.storeAt t (a.eval p) (a.eval v)).run P w=.ok () b):(execOp a.eval o).run P w=.ok .skip b:=by simp_all[execOp]
def qT{b:aq}{c:World}{e:S}(h:Rel H b a c e)(f:cH ω w b c)(hd:∀d,o.dst=some d->d<a.tmps.size)(g:k (e.bI o.dst (.one .undef))=some r):
  Ends H ω a w o.dst k r (a.put o.dst undef) c:=dV h f hd (t:=.one .undef) rfl g
def lC{α:Type}(x:List α)(i j:Nat)(y z:α)(a:i<x.length):(x.set i y).getD j z=if j=i then y else x.getD j z:=by
 grind
def nW{α:Type}(x:List α)(i:Nat)(z:α)(a:i<x.length):x.set i (x.getD i z)=x:=by rw[List.getD_eq_getElem?_getD,cL a];simp
def AM (h:Rel H ω a w s) {t:Nat} {I:TypeInfo} (hI:P.info? t=some I) {p v:Value} {ls:List L} {V:S} {id g hh e:Nat} {c:ar} {deep:Bool} {x:real.V (.sl e c)} {i:IV} {off:Nat} (hp:bU w ω s p (.bH id g hh [] i off)) (hv:aH (bU w ω s) v.cells.toList ls) (h1:∀u∈v.cells.toList,u.oneCell'=true) (hsz:ls.length=I.size)
  (R:(s.ob id).g=g) (M:(s.ob id).o=.arr e c deep x)
  (C:(match aN (A:=real) deep c (real.get x i) off ls s with
   |some (D,V)=>(match(V.ob id).o with
    |.arr ..=>some (V.bq id true (.arr e c deep (real.put x i D)))
    |_=>none)
   |none=>none)=some V):∃W w',(Instr.storeAt t p v).run P w=.ok () w'/\Rel H W a w' V/\cH ω w W w':=by
 have hcl:v.cells.size=ls.length:=by rw[<-hv.length];simp
 cases f:aN (A:=real) deep c (real.get x i) off ls s with
 |none=>rw[f]at C;cases C
 |some q=>
  obtain⟨D,s2⟩:=q;rw[f]at C;simp only at C;have hc:=bW (h:=hh) M R.symm;obtain⟨q1,q2,⟨b,q3,q4⟩,v',q5⟩:=hp.2.2 _ hc (ku deep);simp only at q1 q2 q4 q5;obtain⟨b',arr,cp,c1,Q,c3,c4,c5,_⟩:=rH (s:=s) hc (ku deep) q5 i q1 q2;obtain rfl:=h.inj _ _ _ q3 c1;simp only at Q c3 c4 c5;have J:∀d,d<List.length x->c.R w ω ((aI (bif deep then 2 else 1) id []).inner d) (λj=>arr[d*c.len+j]?) 0 (List.getD x d (jk c)):=by
   intro d z;obtain⟨ad,n,F3,d1,d2,d3,d4,d5⟩:=q5
   grind[cell_of_row]
  have hi:(IV.i i).toNat<List.length x:=by omega
  obtain⟨O,U,o1,o2,r2⟩:=lF (md:=(aI (bif deep then 2 else 1) id []).inner (IV.i i).toNat) (λe=>by subst e;exact λ_=>rfl) ls v.cells.toList c _ D off _ ω s s2 h hv (J _ hi) f;have G:s2.ob id=s.ob id:=by
   grind
  have k:(s2.ob id).o=.arr e c deep x:=by rw[G];exact M
  rw[k]at C;simp only at C;have C:=aG C;subst C;have r:O b=some (id,[]):=by
   have:=(U.tr id).bH p g hh [] i off hp;obtain⟨_,_,⟨b2,t1,B⟩,_⟩:=this.2.2 _ (bW (h:=hh) k (by rw[G];exact R.symm)) (ku deep);rw[q4]at B;injection B with B
   injection B with B
   injection B with B
   rw[B];exact t1
  have N:∀d,d<List.length x->c.R w O ((aI (bif deep then 2 else 1) id []).inner d) (λj=>arr[d*c.len+j]?) 0 (List.getD x d (jk c)):=by
   intro d z;cases deep with
   |true=>grind
   |false=>exact ar.bZ (az _) c _ _ _ 0 _ (λ_=>U.ext.keeps) (λ_=>rfl) (J d z)
  have K:=ko ls c _ off s _ f;have X:(IV.i i).toNat*c.len+c.len<=arr.size:=by
   rw[c3];have:((IV.i i).toNat+1)*c.len<=cp*c.len:=dB _ (by omega)
   grind
  have hvl:v.cells.toList.length=ls.length:=hv.length;by_cases E:ls=[]
  ·-- nothing is stored
   subst E;have FK:v.cells.toList=[]:=cK.1 hvl;simp only[aN]at f;injection f with f
   injection f with t1 B
   subst B;have o:(Instr.storeAt t p v).run P w=.ok () w:=by simp_all[Instr.storeAt,Instr.sureAddr,storeVar,sizeOf,typeInfo,storeCells]
   refine⟨ω,w,o,?_,cH.refl _ _⟩;refine h.ue q3 M (og.refl w b) (x':=real.put x i D) gf ?_;refine CB (arr:=arr) (kM:=arr) (ku deep) h.inj q3 Q rfl Q gf (λd z=>?_);have:real.put x i D=x:=by rw[<-t1];exact nW x _ _ hi
   grind
  .have hfit:off+ls.length<=c.len:=K.resolve_left E;have y:(IV.i i).toNat*c.len+off+v.cells.toList.length<=arr.size:=by omega
   obtain⟨kM,z1,z2⟩:=dQ b e (0,0) v.cells.toList ((IV.i i).toNat*c.len+off) w arr Q y;have l:=dL b v.cells.toList ((IV.i i).toNat*c.len+off) w;have o:=j4 (P:=P) hI Q (v:=v) (off:=(IV.i i).toNat*c.len+off) (by omega) (by simpa using y) h1;rw[<-q4]at o;refine⟨O,_,o,?_,U.ext.trans (dc (h.pR (by grind)) r l)⟩;have hal:arr.toList.length=arr.size:=gv;have T:kM.size=arr.size:=by
    grind[List.length_append]
   have F:∀m,kM[m]? = if m<(IV.i i).toNat*c.len+off then arr[m]? else if m<(IV.i i).toNat*c.len+off+v.cells.toList.length then v.cells.toList[m-((IV.i i).toNat*c.len+off)]? else arr[m]?:=by
    intro m;have htl:(arr.toList.take ((IV.i i).toNat*c.len+off)).length=(IV.i i).toNat*c.len+off:=by rw[jS];omega
    rw[<-fL,z2];split
    .grind
    .split
     .grind[List.getElem?_append_left]
     .rw[iM (by grind),jv,htl,pX,fL];congr 1;omega
   refine U.rel.ue r k l (x':=real.put x i D) gf ?_;refine CB (arr:=arr) (kM:=kM) (ku deep) U.rel.inj r z1 T Q gf (λd z=>?_);have Fb:List.getD (real.put x i D:List c.T) d (jk c)=if d=(IV.i i).toNat then D else List.getD x d (jk c):=lC x _ _ _ _ hi
   rw[Fb];split
   .rename_i Y;subst Y;refine pD r l (r2 _ (λkk u hu=>?_) (λm hm=>?_))
    .have hk:kk<v.cells.toList.length:=(za.1 hu).1;show _=_;rw[F,dS (by omega),cj (by omega),<-hu];congr 1;omega
    grind
   .rename_i Y;refine pD r l (ar.fq c _ _ _ 0 _ (λm hm=>?_) (N d z));rw[bC,F];rcases Nat.lt_or_gt_of_ne Y with hlt|Z
    .have:(d+1)*c.len<=(IV.i i).toNat*c.len:=dB _ hlt
     grind
    .have:((IV.i i).toNat+1)*c.len<=d*c.len:=dB _ Z
     grind
end
def Md.On:Md->Nat->Prop
 |.bQ,_=>True
 |.flat k,i=>k.1=i
 |.deep k,i=>k.1=i
def Md.to:Md->Nat->Md
 |.bQ,_=>.bQ
 |.flat k,j=>.flat (j,k.2)
 |.deep k,j=>.deep (j,k.2)
def Md.Cu{c:Md}{i:Nat}(h:c.On i)(a b:Nat):(c.inner a b).On i:=by
 cases c with
 |bQ=>trivial
 |flat _=>trivial
 |deep _=>exact h
def Md.CL(c:Md)(j a b:Nat):(c.inner a b).to j=(c.to j).inner a b:=by cases c <;> rfl
structure Names (w:World) (ω cu:aq) (i j:Nat):Prop where
 none:∀b,b<w.heap.size->ω b=none->cu b=none
 own:∀b p,b<w.heap.size->ω b=some (i,p)->cu b=some (j,p)
def Hd.map{w:World}{t l:aq}{i j:Nat}(q:Names w t l i j){e sz:Nat}{m:Md}(s:m.On i){a:Option Addr}{n c:Nat}(h:Hd w t e sz m a n c):Hd w l e sz (m.to j) a n c:=by
 cases m with
 |bQ=>intro u;obtain⟨b,r,g,d,f⟩:=h u;exact⟨b,r,g,q.none b f d,f⟩
 |flat k=>
  rcases h with h|⟨b,arr,g,d,f,p⟩
  .exact .inl h
  .have o:k.1=i:=s;exact .inr ⟨b,arr,g,d,f,q.own b k.2 (aM d) (by rw[p,<-o])⟩
 |deep k=>
  rcases h with h|⟨b,arr,g,d,f,p⟩
  .exact .inl h
  .have o:k.1=i:=s;exact .inr ⟨b,arr,g,d,f,q.own b k.2 (aM d) (by rw[p,<-o])⟩
mutual
def Ty.vF{w:World}{r f:aq}{i j:Nat}(q:Names w r f i j):∀(t:Ty) (d:Md) (v:Value) (x:t.T),d.On i->t.R w r d v x->t.R w f (d.to j) v x
 |.int _,_,_,_,_,h=>h
 |.bool,_,_,_,_,h=>h
 |.str,_,_,_,_,h=>h
 |.map k,d,_,_,_,h=>by
  rcases h with h|⟨l,b,y,c,m,o,g,p⟩
  .exact .inl h
  .subst l;exact .inr ⟨rfl,b,y,c,m,q.none b g o,g,p⟩
 |.sl e u,d,v,x,l,h=>by obtain⟨a,n,c,m,o,g,p,z⟩:=h;refine⟨a,n,c,m,o,g,p.map q l,λk s B A=>?_⟩;have:=ar.vF q u (d.inner k) _ 0 _ (λb=>Md.Cu l k b) (z k s B A);simp_all[Md.CL]
def ar.vF{w:World}{l c:aq}{i j:Nat}(f:Names w l c i j):∀(d:ar) (a:Nat->Md) (g:Nat->Option Value) (k:Nat) (x:d.T),(∀b,(a b).On i)->d.R w l a g k x->d.R w c (λb=>(a b).to j) g k x
 |.nil,_,_,_,_,_,_=>trivial
 |.cons t ts,a,g,k,x,e,h=>by obtain⟨⟨v,m,n⟩,o⟩:=h;exact⟨⟨v,m,Ty.vF f t (a k) v _ (e k) n⟩,ar.vF f ts a g (k+1) _ e o⟩
end
def Au(m i:Nat)(p:iU):(aI m i p).On i:=by unfold aI;split <;> first|trivial|rfl
theorem Av(m i j:Nat):(aI m i []).to j=aI m j []:=by unfold aI;split <;> rfl
def xG{w:World}{c a:aq}{i j m e:Nat}{b:ar}{v:Value}{x:List b.T}(d:Names w c a i j)(h:(Ty.sl e b).R w c (aI m i []) v x):(Ty.sl e b).R w a (aI m j []) v x:=by
 have:=Ty.vF d (.sl e b) _ v x (Au m i []) h
 grind[Av]
def vE{w:World}{d c:aq}{t:Ty}{v:Value}{x:t.T}(f:∀b,b<w.heap.size->d b=none->c b=none)(h:t.R w d .bQ v x):t.R w c .bQ v x:=
 Ty.hM t .bQ v x (λb e a=>by
  rcases a with a|⟨k,_,a⟩
  .exact f b e a
  .exact a.elim) h
def eU{w:World}{f:aq}{i e:Nat}{b:ar}{v:Value}{x:List b.T}{d Fw:Bool}(hd:d=Fw\/b.plain=true)(h:(Ty.sl e b).R w f (aI (bif d then 2 else 1) i []) v x):
  (Ty.sl e b).R w f (aI (bif Fw then 2 else 1) i []) v x:=by
 rcases hd with rfl|s
 .exact h
 .obtain⟨a,n,c,j,l,m,o,p⟩:=h;refine⟨a,n,c,j,l,m,?_,λk g r q=>ar.fZ b _ _ _ 0 _ s (p k g r q)⟩;cases d <;> cases Fw <;> exact o
def nD{w:World}{f:aq}{e:Nat}{b:ar}{a:Option Addr}{c:Bool}{i:Nat}:(Ty.sl e b).R w f (aI (bif c then 2 else 1) i []) (.slice a 0 0) ([]:List b.T):=⟨a,0,0,rfl,rfl,az _,qq,λi _ d=>absurd d (by omega)⟩
def DS(w:World)(a:aq)(id:Nat)(v:KV real)(u:Value):Prop:=
 match v with
 |⟨.val t,x⟩=>t.R w a .bQ u x
 |⟨.arr e f g,x⟩=>(Ty.sl e f).R w a (aI (bif g then 2 else 1) id []) u x
 |⟨.mp k,x⟩=>∃b d c,a b=some (id,[])/\u=.map (some b)/\w.heap[b]? = some (.map d c)/\AW k d.toList x
def fp(w:World)(a:aq):Nat->List (KV real)->List Value->Prop
 |_,[],[]=>True
 |id,v::c,u::b=>DS w a id v u/\fp w a (id+1) c b
 |_,_,_=>False
def fp.length{w:World}{c:aq}:∀ {id:Nat} {b:List (KV real)} {a:List Value},fp w c id b a->b.length=a.length
 |_,[],[],_=>rfl
 |_,_::_,_::_,h=>by simp[fp.length h.2]
 |_,[],_::_,h=>h.elim
 |_,_::_,[],h=>h.elim
def fp.iP{w:World}{d:aq}:∀ {id:Nat} {c:List (KV real)} {e:List Value} {a:List (KV real)} {b:List Value},fp w d id c e->fp w d (id+c.length) a b->fp w d id (c++a) (e++b)
 |_,[],[],_,_,_,h=>h
 |id,v::c,_::_,a,_,h,f=>⟨h.1,fp.iP h.2 (by grind)⟩
 |_,[],_::_,_,_,h,_=>h.elim
 |_,_::_,[],_,_,h,_=>h.elim
structure bT (w:World) (ω:aq) (s:S) (eD:aq) (s1:S) (m:List (Nat×Nat)) (lo hi:Nat):Prop where
 nz:∀i j,(i,j)∈m->i≠0
 was:∀i j,(i,j)∈m->(s.ob i).o≠.gone
 is:∀i j,(i,j)∈m->(s1.ob i).o=.gone
 oh:∀i j,(i,j)∈m->lo<=j/\j<hi
 inj:∀i i' j,(i,j)∈m->(i',j)∈m->i=i'
 fn:∀i j j',(i,j)∈m->(i,j')∈m->j=j'
 gone:∀i,(s.ob i).o=.gone->(s1.ob i).o=.gone/\∀b p,ω b=some (i,p)->eD b=some (i,p)
 back:∀b k,eD b=some k->ω b=some k
def bT.none{w:World}{d:aq}{s:S}{a:aq}{i:S}{m:List (Nat×Nat)}{g e:Nat}(h:bT w d s a i m g e)(b:Nat)(c:d b=none):a b=none:=by
 cases f:a b with
 |none=>rfl
 |some k=>rw[h.back b k f]at c;cases c
theorem bT.refl(w:World)(a:aq)(s:S)(c b:Nat):bT w a s a s [] c b:=
 {nz:=λ_ _ h=>nomatch h
  was:=λ_ _ h=>nomatch h
  is:=λ_ _ h=>nomatch h
  oh:=λ_ _ h=>nomatch h
  inj:=λ_ _ _ h=>nomatch h
  fn:=λ_ _ _ h=>nomatch h
  gone:=λ_ h=>⟨h,λ_ _ h=>h⟩
  back:=λ_ _ h=>h }
def bT.trans {w:World} {v:aq} {s:S} {g:aq} {t:S} {m:List (Nat×Nat)} {q mid o:Nat} {l:aq} {u:S} {r:List (Nat×Nat)} (y:q<=mid) (x:mid<=o)
  (h:bT w v s g t m q mid) (c:bT w g t l u r mid o):bT w v s l u (m++r) q o where
 nz i j a:=(aW.1 a).elim (h.nz i j) (c.nz i j)
 was i j a:=(aW.1 a).elim (h.was i j) (λa e=>c.was i j a (h.gone i e).1)
 is i j a:=(aW.1 a).elim (λa=>(c.gone i (h.is i j a)).1) (c.is i j)
 oh i j a:=(aW.1 a).elim (λa=>⟨(h.oh i j a).1,c6 (h.oh i j a).2 x⟩) (λa=>⟨eK y (c.oh i j a).1,(c.oh i j a).2⟩)
 inj i i' j d f:=by
  rcases aW.1 d with d|d <;> rcases aW.1 f with f|f
  .exact h.inj i i' j d f
  .exact absurd (c6 (h.oh i j d).2 (c.oh i' j f).1) (iO _)
  .exact absurd (c6 (h.oh i' j f).2 (c.oh i j d).1) (iO _)
  .exact c.inj i i' j d f
 fn i j j' d f:=by
  rcases aW.1 d with d|d <;> rcases aW.1 f with f|f
  .exact h.fn i j j' d f
  .exact absurd (h.is i j d) (c.was i j' f)
  .exact absurd (h.is i j' f) (c.was i j d)
  .exact c.fn i j j' d f
 gone i hg:=⟨(c.gone i (h.gone i hg).1).1,λb p n=>(c.gone i (h.gone i hg).1).2 b p ((h.gone i hg).2 b p n)⟩
 back b k n:=h.back b k (c.back b k n)
structure di (ω:aq) (s:S) (eD:aq) (s1:S):Prop where
 gone:∀i,(s.ob i).o=.gone->(s1.ob i).o=.gone/\∀b p,ω b=some (i,p)->eD b=some (i,p)
 back:∀b k,eD b=some k->ω b=some k
def bT.later{w:World}{c:aq}{s:S}{a:aq}{b:S}{m:List (Nat×Nat)}{e d:Nat}(h:bT w c s a b m e d):di c s a b:=⟨h.gone,h.back⟩
theorem di.refl(a:aq)(s:S):di a s a s:=⟨λ_ h=>⟨h,λ_ _ h=>h⟩,λ_ _ h=>h⟩
def di.trans{g a c:aq}{s s1 s2:S}(h:di g s a s1)(d:di a s1 c s2):di g s c s2:=⟨λi f=>⟨(d.gone i (h.gone i f).1).1,λb p e=>(d.gone i (h.gone i f).1).2 b p ((h.gone i f).2 b p e)⟩,λb k e=>h.back b k (d.back b k e)⟩
def di.none{d:aq}{s:S}{a:aq}{f:S}(h:di d s a f)(b:Nat)(c:d b=none):a b=none:=by
 cases e:a b with
 |none=>rfl
 |some k=>rw[h.back b k e]at c;cases c
structure fJ (w:World) (eD cu:aq) (m:List (Nat×Nat)):Prop where
 none:∀b,b<w.heap.size->eD b=none->cu b=none
 own:∀i j,(i,j)∈m->∀b p,b<w.heap.size->eD b=some (i,p)->cu b=some (j,p)
def fJ.left{w:World}{b a:aq}{m m':List (Nat×Nat)}(h:fJ w b a (m++m')):fJ w b a m:=⟨h.none,λi j c=>h.own i j (aW.2 (.inl c))⟩
def fJ.right{w:World}{b a:aq}{m m':List (Nat×Nat)}(h:fJ w b a (m++m')):fJ w b a m':=⟨h.none,λi j c=>h.own i j (aW.2 (.inr c))⟩
section
variable {R:Type}{P:Program}{E:Env}{ω:aq}{a:Act}{w:World}{s:S}{k:S->Option R}{r:R}{o:Oper}{Q:Exit->Act->World->Prop}
def zf(h:Rel H ω a w s){e:Nat}{f:ar}{deep:Bool}{l:L}{u:Value}{x:List f.T}{v:S}(z:bU w ω s u l)(b:eB (A:=real) e f deep l s=some (x,v)):
  (v=s/\x=[]/\∃B,u=.slice B 0 0) \/
  ∃id g m d,l=.ref id g m []/\g=(s.ob id).g/\(s.ob id).o=.arr e f d x/\v=s.bq id true .gone/\(Ty.sl e f).R w ω (aI (bif d then 2 else 1) id []) u x/\(d=deep\/f.plain=true):=by
 cases l with
 |eI C i=>
  simp only[eB]at b;split at b
  .rename_i r;have:=Ty.eq_of_beq r;injection this with n o
   subst n;subst o;injection b with b
   injection b with j q
   exact .inl ⟨q.symm,j.symm,z⟩
  .cases b
 |ref id g m p=>
  cases p with
  |cons _ _=>cases b
  |nil=>
   simp only[eB]at b;cases t:Nat.beq (s.ob id).g g with
   |false=>rw[t]at b;cases b
   |true=>
    rw[t]at b;simp only[aJ]at b;have k:=bc t;cases c:(s.ob id).o with
    |arr C i d y=>
     rw[c]at b;simp only at b;cases hd:(d==deep||i.plain)with
     |false=>rw[hd]at b;cases b
     |true=>
      rw[hd]at b;simp only[aJ]at b;split at b
      .rename_i r;have:=Ty.eq_of_beq r;injection this with n o
       subst n;subst o;have b:=aG b;injection b with j q
       have j:y=x:=j;subst j;refine .inr ⟨id,g,m,d,rfl,k.symm,c,q.symm,z.2.2 _ (bW (h:=m) c k.symm),?_⟩
       grind
      .cases b
    |bQ _ _ _=>rw[c]at b;cases b
    |blk _=>rw[c]at b;cases b
    |gone=>rw[c]at b;cases b
    |mp _ _=>rw[c]at b;cases b
 |_=>cases b
def Es{k:IntKind}{l:L}{u:Value}{x:real.V (.sl 0 (ar.mp k))}{j:S}(p:bU w ω s u l)(a:uM (A:=real) k l s=some (x,j)):
  ∃id,(s.ob id).o=.mp k x/\j=s.bq id true .gone/\∃b i c,ω b=some (id,[])/\u=.map (some b)/\w.heap[b]? = some (.map i c)/\AW k i.toList x:=by
 cases l with
 |cD id g=>
  simp only[uM]at a;cases f:Nat.beq (s.ob id).g g with
  |false=>rw[f]at a;cases a
  |true=>
   rw[f]at a;simp only[aJ]at a;have h:=bc f;cases d:(s.ob id).o with
   |mp q y=>
    rw[d]at a;simp only at a;split at a
    .rename_i n;have:=Ty.eq_of_beq n;have o:q=k:=by
      grind
     subst o;have a:=aG a;injection a with e m
     have e:y=x:=e;subst e;exact⟨id,d,m.symm,p.2 h _ _ d⟩
    .cases a
   |arr _ _ _ _=>rw[d]at a;cases a
   |bQ _ _ _=>rw[d]at a;cases a
   |blk _=>rw[d]at a;cases a
   |gone=>rw[d]at a;cases a
 |_=>cases a
def rf{id lo:Nat}(h:Rel H ω a w s)(d:(s.ob id).o≠.gone):bT w ω s ω (s.bq id true .gone) [(id,lo)] lo (lo+1) where
 nz i j hm:=by
  rw[kH]at hm;injection hm with b c
  subst b;exact h.pR d
 was i j hm:=by
  grind
 is i j hm:=by
  grind[St.ay]
 oh i j hm:=by
  grind
 inj i i' j b c:=by
  grind
 fn i j j' b c:=by
  grind
 gone i hg:=by
  grind[St.aO]
 back _ _ h:=h
def Passes.BV(h:Rel H ω a w s)(id:Nat):Passes H ω a w s ω (s.bq id true .gone):=⟨h.gone id true,cH.refl _ _,uH h.dom true⟩
def yB{t:Ty}{l:L}{v:Value}{x:t.T}{d:S}(h:Rel H ω a w s)(r:bU w ω s v l)(u:bF (A:=real) false t l s=some (x,d))(g:Nat):
  ∃c,Passes H ω a w s c d/\bT w ω s c d [] g g/\t.R w c .bQ v x:=by
 obtain⟨c,n,o,p⟩:=rI h r u;refine⟨c,n,?_,o⟩;rcases p with ⟨j,f⟩|⟨id,e,z,B,y,j,f,m⟩
 .grind[bT.refl]
 .subst f;subst m;exact
  {nz:=λ_ _ h=>nomatch h
   was:=λ_ _ h=>nomatch h
   is:=λ_ _ h=>nomatch h
   oh:=λ_ _ h=>nomatch h
   inj:=λ_ _ _ h=>nomatch h
   fn:=λ_ _ _ h=>nomatch h
   gone:=λi C=>by
    grind[St.aO,aq.dM]
   back:=λb k q=>(aq.dA q).1 }
def CJ(h:Rel H ω a w s){B:K}{l:L}{u:Value}{v:KV real}{I:S}(N:bU w ω s u l)(d:cI B l s=some (v,I))(n:Nat):
  ∃r m,Passes H ω a w s r I/\bT w ω s r I m n (n+1)/\v.1=B/\(B.ni=true->m=[])/\∀k C f,di r I k C->fJ w k f m->DS w f n v u:=by
 cases B with
 |val t=>
  simp only[cI]at d;cases j:bF (A:=real) false t l s with
  |none=>rw[j]at d;cases d
  |some q=>
   obtain⟨x,C⟩:=q;rw[j]at d;have d:=aG d;injection d with E F
   subst E;subst F;obtain⟨f,Z,p2,p3⟩:=yB h N j n;refine⟨f,[],Z,?_,rfl,λ_=>rfl,λk s3 Q y z=>vE (λb G O=>z.none b G (y.none b O)) p3⟩;exact { p2 with oh:=λ_ _ h=>nomatch h }
 |arr e R deep=>
  simp only[cI]at d;cases j:eB (A:=real) e R deep l s with
  |none=>rw[j]at d;cases d
  |some q=>
   obtain⟨x,C⟩:=q;rw[j]at d;have d:=aG d;injection d with E F
   subst E;subst F;rcases zf h N j with ⟨J,D,ad,M⟩|⟨id,g,hh,dp,e0,eg,J,D,M,T⟩
   .subst J;subst D;subst M;exact⟨ω,[],Passes.refl h,bT.refl _ _ _ _ _,rfl,λ_=>rfl,λ_ _ _ _ _=>nD⟩
   .subst D;have o:(s.ob id).o≠.gone:=by grind
    refine⟨ω,[(id,n)],Passes.BV h id,rf h o,rfl,λe=>(by cases e),λk C f y z=>?_⟩;refine eU T (xG (i:=id) ⟨λb G O=>z.none b G (y.none b O),λb p G Y=>?_⟩ M);exact z.own id n (by simp) b p G ((y.gone id (by rw[St.ay])).2 b p Y)
 |mp B=>
  simp only[cI]at d;cases j:uM (A:=real) B l s with
  |none=>rw[j]at d;cases d
  |some q=>
   obtain⟨x,C⟩:=q;rw[j]at d;have d:=aG d;injection d with E F
   subst E;subst F;obtain⟨id,J,D,b,U,c,P,V,W,X⟩:=Es N j;subst D;have o:(s.ob id).o≠.gone:=by grind
   refine⟨ω,[(id,n)],Passes.BV h id,rf h o,rfl,λe=>(by cases e),λk C f y z=>?_⟩;exact⟨b,U,c,z.own id n (by simp) b [] (h.dom _ _ P) ((y.gone id (by rw[St.ay])).2 b [] P),V,W,X⟩
def gq:∀(ks:List K) (ls:List L) (n:List Value) (g:aq) (s:S) (o:List (KV real)) (j:S) (f:Nat),Rel H g a w s->aH (bU w g s) n ls->takes ks ls s=some (o,j) ->
  ∃d m,Passes H g a w s d j/\bT w g s d j m f (f+ks.length)/\o.map (·.1)=ks/\((∀k∈ks,k.ni=true)->m=[])/\∀e t c,di d j e t->fJ w e c m->fp w c f o n
 |[],[],n,g,s,o,j,f,h,i,b=>by
  injection b with b
  injection b with x y
  subst x;subst y;cases n with
  |cons _ _=>exact i.elim
  |nil=>exact⟨g,[],Passes.refl h,bT.refl _ _ _ _ _,rfl,λ_=>rfl,λ_ _ _ _ _=>trivial⟩
 |k::ks,l::ls,[],_,_,_,_,_,_,i,_=>i.elim
 |k::ks,l::ls,u::n,g,s,o,j,f,h,i,b=>by
  simp only[takes]at b;cases z:cI k l s with
  |none=>rw[z]at b;cases b
  |some q=>
   obtain⟨v,t⟩:=q;rw[z]at b;simp only at b;cases A:takes ks ls t with
   |none=>rw[A]at b;cases b
   |some M=>
    obtain⟨B,P⟩:=M;rw[A]at b;injection b with b
    injection b with x y
    subst x;subst y;obtain⟨d,m1,r,G,Q,U,N⟩:=CJ h i.1 z f;obtain⟨e,m2,J,C,R,V,O⟩:=gq ks ls n d t B P (f+1) r.rel (i.2.mono λ_ _ I=>bU.frame r.ext r.tr I) A;refine⟨e,m1++m2,r.trans J,?_,by simp[Q,R],λT=>by grind,λp F c D E=>⟨N p F c (C.later.trans D) E.left,O p F c D E.right⟩⟩;have:=bT.trans (kE _) (fm _ _) G C
    grind
 |[],_::_,_,_,_,_,_,_,_,_,b=>by cases b
 |_::_,[],_,_,_,_,_,_,_,_,b=>by cases b
end
end Go.R
namespace Go.R
variable {H:Nat->Value}
section
variable {R:Type}{P:Program}{E:Env}{ω:aq}{a:Act}{w:World}{s:S}{k:S->Option R}{r:R}{o:Oper}{Q:Exit->Act->World->Prop}
def vr(w:World)(e:aq):Nat->List Cp->List (KV real)->List Value->Prop
 |_,[],a,d=>a=[]/\d=[]
 |b,.ro c::r,a,u::d=>(a.take c.len).length=c.len/\(∃x,kf (A:=real) c (a.take c.len)=some x/\jd w e u c x 0)/\vr w e b r (a.drop c.len) d
 |b,.mu ks::r,a,u::d=>(a.take ks.length).length=ks.length/\(∃f arr T,u=.pointer (some ⟨f,0,none⟩)/\e f=some (b,[])/\w.heap[f]? = some (.cells arr T (0,0))/\fp w e (b+1) (a.take ks.length) arr.toList)/\vr w e (b+(ks.length+1)) r (a.drop ks.length) d
 |_,_::_,_,[]=>False
def AX(w:World)(e:aq)(b:Nat)(j:Sh)(d:List (KV real))(u:Value):Prop:=
 match j with
 |.one _=>∃v,d=[v]/\DS w e b v u
 |.agg _=>∃cells:List Value,u=.agg cells.toArray/\fp w e b d cells
 |.blk _=>∃i arr T,u=.pointer (some ⟨i,0,none⟩)/\e i=some (b,[])/\w.heap[i]? = some (.cells arr T (0,0))/\fp w e (b+1) d arr.toList
 |.ro h=>∃x,kf (A:=real) h d=some x/\jd w e u h x 0
 |.fn f a=>∃g:List Value,u=.func (.func f) #[] g.toArray/\aH (λv c=>gK w e ⟨λ_=>.dead,λ_=>⟨0,0,0,.gone⟩⟩ v c) g (c9 (A:=real) a d)/\∀c∈c9 (A:=real) a d,∃h x,c=.ro h x
 |.qa f a=>∃g:List Value,u=.func (.func f) #[] g.toArray/\vr w e b a d g
def fI(w:World)(f:aq):Nat->List Sh->List (KV real)->List Value->Prop
 |_,[],c,e=>c=[]/\e=[]
 |b,a::d,c,u::e=>(c.take a.ks.length).length=a.ks.length/\AX w f b a (c.take a.ks.length) u/\fI w f (b+a.width) d (c.drop a.ks.length) e
 |_,_::_,_,[]=>False
def bh(b n i:Nat):Prop:=b<=i/\i<b+n
def Aj{b i:Nat}:¬bh b 0 i:=by unfold bh;omega
theorem nL:∀(b:List (KV real)) (l:List Value) (id:Nat) (s:S),fp w ω id b l ->
  (∀i,¬bh id b.length i->(lays id b s).2.ob i=s.ob i)/\(∀i,bh id b.length i->(s.ob i).g<((lays id b s).2.ob i).g/\∀cells,((lays id b s).2.ob i).o≠.blk cells) /\
  (lays id b s).2.sl=s.sl /\
  ∀a:S,(∀i,bh id b.length i->a.ob i=(lays id b s).2.ob i)->aH (bU w ω a) l (lays id b s).1
 |[],[],id,s,_=>⟨λ_ _=>rfl,λi f=>absurd f (by unfold bh;simp),rfl,λ_ _=>trivial⟩
 |[],_::_,_,_,h=>h.elim
 |_::_,[],_,_,h=>h.elim
 |v::b,u::l,id,s,h=>by
  obtain⟨o,p,m,q⟩:=nL b l (id+1) (dh id v s).2 h.2;have g:((dh id v s).2.ob id).g=(s.ob id).g+1/\(∀cells,((dh id v s).2.ob id).o≠.blk cells)/\(dh id v s).2.sl=s.sl/\∀i,i≠id->(dh id v s).2.ob i=s.ob i:=by
   obtain⟨k,x⟩:=v;cases k with
   |val t=>
    refine⟨?_,?_,rfl,λi f=>?_⟩
    .simp[dh,St.new,St.aB]
    .grind[dh,St.new,St.aB]
    grind[dh,St.new,St.aU]
   |arr e cs dp=>
    refine⟨?_,?_,rfl,λi f=>?_⟩
    .simp[dh,St.new,St.aB]
    .grind[dh,St.new,St.aB]
    grind[dh,St.new,St.aU]
   |mp k=>
    refine⟨?_,?_,rfl,λi f=>?_⟩
    .simp[dh,St.new,St.aB]
    .grind[dh,St.new,St.aB]
    grind[dh,St.new,St.aU]
  obtain⟨B,C,z,D⟩:=g;simp only[lays];refine⟨λi f=>?_,λi f=>?_,m.trans z,λa y=>⟨?_,q a λi f=>y i ?_⟩⟩
  .grind[bh]
  .grind[bh]
  .have r:a.ob id=(dh id v s).2.ob id:=by
    grind[bh]
   have n:=h.1;obtain⟨k,x⟩:=v;cases k with
   |val t=>exact n
   |arr e cs dp=>
    have j:a.ob id=⟨(s.ob id).g+1,0,0,.arr e cs dp x⟩:=by
     grind[dh,St.new,St.aB]
    refine⟨by rw[j];exact az _,by simp,λc d=>?_⟩;rw[bW (e:=e) (cs:=cs) (dp:=dp) (x:=x) (by rw[j]) (by rw[j])]at d;injection d with d
    subst d;exact n
   |mp k=>
    have j:a.ob id=⟨(s.ob id).g+1,0,0,.mp k x⟩:=by
     grind[dh,St.new,St.aB]
    refine⟨by rw[j];exact az _,λ_ A E d=>?_⟩;rw[j]at d;injection d with o p
    subst o;subst p;exact n
  grind[bh]
def tC{sh:Sh}{e:List (KV real)}{u:Value}{b:Nat}{s:S}(P:∀f g,sh≠.qa f g)(M:e.length=sh.ks.length)(h:AX w ω b sh e u):
  (∀i,¬bh b sh.width i->(cm b sh e s).2.ob i=s.ob i)/\(∀i,bh b sh.width i->(s.ob i).g<((cm b sh e s).2.ob i).g)/\(cm b sh e s).2.sl=s.sl /\
  ∀a:S,(∀i,bh b sh.width i->a.ob i=(cm b sh e s).2.ob i)->cQ H w ω a u (cm b sh e s).1 /\
   ∀i cells,bh b sh.width i->(a.ob i).o=.blk cells->∃c arr T,ω c=some (i,[])/\w.heap[c]? = some (.cells arr T (0,0))/\aH (bU w ω a) arr.toList cells:=by
 cases sh with
 |one V=>obtain⟨v,rfl,F⟩:=h;obtain⟨z,j,k,B⟩:=nL (w:=w) (ω:=ω) [v] [u] b s ⟨F,trivial⟩;refine⟨z,λi d=>(j i d).1,k,λa p=>⟨(B a p).1,λi cells d r=>?_⟩⟩;rw[p i d]at r;exact absurd r ((j i d).2 cells)
 |agg ks=>obtain⟨cells,o,F⟩:=h;obtain⟨z,j,k,B⟩:=nL (w:=w) (ω:=ω) e cells b s F;have J:(Sh.agg ks).width=e.length:=M.symm;rw[J];refine⟨z,λi d=>(j i d).1,k,λa p=>⟨⟨cells,o,B a p⟩,λi m d r=>?_⟩⟩;rw[p i d]at r;exact absurd r ((j i d).2 m)
 |blk ks=>
  obtain⟨N,arr,T,o,y,L,F⟩:=h;obtain⟨z,j,k,B⟩:=nL (w:=w) (ω:=ω) e arr.toList (b+1) s F;have J:(Sh.blk ks).width=e.length+1:=by rw[M];rfl
  rw[J];have Q:∀i,i≠b->(cm b (.blk ks) e s).2.ob i=(lays (b+1) e s).2.ob i:=λi d=>by grind[cm,St.new,St.aU]
  have q:(cm b (.blk ks) e s).2.ob b=⟨((lays (b+1) e s).2.ob b).g+1,0,0,.blk (lays (b+1) e s).1⟩:=by grind[cm,St.new,St.aB]
  have U:(lays (b+1) e s).2.ob b=s.ob b:=z b (by unfold bh;omega);refine⟨λi d=>?_,λi d=>?_,k,λa p=>?_⟩
  .grind[bh]
  .grind[bh]
  .have G:=B a (λi d=>by
    grind[bh])
   have E:=p b (by unfold bh;omega);rw[q]at E;refine⟨⟨?_,λ_ cells _=>⟨N,y,o⟩⟩,λi cells d r=>?_⟩
   .rw[E];exact az _
   grind[bh]
 |ro t=>
  obtain⟨x,o,y⟩:=h;have C:cm (A:=real) b (.ro t) e s=(.one (.ei t x 0),s):=by simp only[cm];rw[o]
  rw[C];exact⟨λ_ _=>rfl,λi d=>absurd d Aj,rfl,λa _=>⟨y,λi _ d=>absurd d Aj⟩⟩
 |fn f g=>
  obtain⟨n,o,y,L⟩:=h;refine⟨λ_ _=>rfl,λi d=>absurd d Aj,rfl,λa _=>⟨⟨n,o,?_⟩,λi _ d=>absurd d Aj⟩⟩;have K:∀(n:List Value) (l:List (cU real)),aH (λv c=>gK w ω ⟨λ_=>.dead,λ_=>⟨0,0,0,.gone⟩⟩ v c) n l->(∀c∈l,∃t x,c=.ro t x)->aH (λv c=>gK w ω a v c) n l:=by
   intro n;induction n with
   |nil=>intro l j _;cases l with|nil=>trivial|cons _ _=>exact j.elim
   |cons v n R=>
    intro l j D;cases l with
    |nil=>exact j.elim
    |cons c l=>refine⟨?_,R l j.2 (λO I=>D O (by simp[I]))⟩;obtain⟨t,x,rfl⟩:=D c (by simp);exact j.1
  exact K n _ y L
 |qa f g=>exact absurd rfl (P f g)
def oM:∀(a:List Cp) (f:List (KV real)) (j:List Value) (b:Nat) (s:S),vr w ω b a f j ->
  (∀i,¬bh b (td a) i->(dw b a f s).2.ob i=s.ob i)/\(∀i,bh b (td a) i->(s.ob i).g<((dw b a f s).2.ob i).g)/\(dw b a f s).2.sl=s.sl /\
  ∀d:S,(∀i,bh b (td a) i->d.ob i=(dw b a f s).2.ob i)->aH (gK w ω d) j (dw b a f s).1 /\
   ∀i cells,bh b (td a) i->(d.ob i).o=.blk cells->∃c arr T,ω c=some (i,[])/\w.heap[c]? = some (.cells arr T (0,0))/\aH (bU w ω d) arr.toList cells
 |[],f,j,b,s,h=>by obtain⟨rfl,rfl⟩:=h;exact⟨λ_ _=>rfl,λi g=>absurd g Aj,rfl,λ_ _=>⟨trivial,λi _ g=>absurd g Aj⟩⟩
 |.ro _::_,f,[],b,s,h=>h.elim
 |.mu _::_,f,[],b,s,h=>h.elim
 |.ro k::r,f,u::j,b,s,h=>by
  obtain⟨_,⟨x,t,v⟩,J⟩:=h;obtain⟨m,C,o,p⟩:=oM r (f.drop k.len) j b s J;have y:td (.ro k::r)=td r:=by simp[td,Cp.width]
  have l:dw (A:=real) b (.ro k::r) f s=(.ro k x::(dw b r (f.drop k.len) s).1,(dw b r (f.drop k.len) s).2):=by simp only[dw];rw[t]
  rw[l,y];refine⟨m,C,o,λd n=>?_⟩;obtain⟨q,D⟩:=p d n;exact⟨⟨v,q⟩,D⟩
 |.mu ks::r,f,u::j,b,s,h=>by
  obtain⟨K,t,v⟩:=h;obtain⟨E,F,G,B⟩:=tC (H:=λ_=>undef) (sh:=.blk ks) (s:=s) (λ_ _ e=>by cases e) K t;obtain⟨m,C,o,p⟩:=oM r (f.drop ks.length) j (b+(ks.length+1)) (cm b (.blk ks) (f.take ks.length) s).2 v;have y:td (.mu ks::r)=(ks.length+1)+td r:=rfl;have z:(Sh.blk ks).width=ks.length+1:=rfl;rw[z]at E F B;rw[y];refine⟨λi g=>?_,λi g=>?_,o.trans G,λd n=>?_⟩
  .refine(m i (by unfold bh at g⊢;omega)).trans ?_
   grind[bh]
  .grind[bh,dw,cm]
  .obtain⟨I,L⟩:=B d (λi g=>by
    rw[n i (by unfold bh at g⊢;omega)];exact m i (by unfold bh at g⊢;omega))
   obtain⟨q,D⟩:=p d (λi g=>n i (by unfold bh at g⊢;omega));refine⟨⟨I,q⟩,λi cells g M=>?_⟩
   grind[bh]
def B6{g:Sh}{j:List (KV real)}{u:Value}{b:Nat}{s:S}(v:j.length=g.ks.length)(h:AX w ω b g j u):
  (∀i,¬bh b g.width i->(cm b g j s).2.ob i=s.ob i)/\(∀i,bh b g.width i->(s.ob i).g<((cm b g j s).2.ob i).g)/\(cm b g j s).2.sl=s.sl /\
  ∀d:S,(∀i,bh b g.width i->d.ob i=(cm b g j s).2.ob i)->cQ H w ω d u (cm b g j s).1 /\
   ∀i cells,bh b g.width i->(d.ob i).o=.blk cells->∃c arr T,ω c=some (i,[])/\w.heap[c]? = some (.cells arr T (0,0))/\aH (bU w ω d) arr.toList cells:=by
 by_cases m:∃f a,g=.qa f a
 .obtain⟨f,a,rfl⟩:=m;obtain⟨l,r,t⟩:=h;obtain⟨o,p,q,k⟩:=oM a j l b s t;exact⟨o,p,q,λd n=>⟨⟨l,r,(k d n).1⟩,(k d n).2⟩⟩
 .exact tC (λf a e=>m ⟨f,a,e⟩) v h
def au(a:List Sh):Nat:=(a.map Sh.width).sum
def lQ:∀(a:List Sh) (e:List (KV real)) (j:List Value) (b:Nat) (s:S),fI w ω b a e j ->
  (∀i,¬bh b (au a) i->(aV b a e s).2.ob i=s.ob i)/\(∀i,bh b (au a) i->(s.ob i).g<((aV b a e s).2.ob i).g)/\(aV b a e s).2.sl=s.sl /\
  ∀d:S,(∀i,bh b (au a) i->d.ob i=(aV b a e s).2.ob i)->aH (cQ H w ω d) j (aV b a e s).1 /\
   ∀i cells,bh b (au a) i->(d.ob i).o=.blk cells->∃c arr T,ω c=some (i,[])/\w.heap[c]? = some (.cells arr T (0,0))/\aH (bU w ω d) arr.toList cells
 |[],e,j,b,s,h=>by obtain⟨rfl,rfl⟩:=h;exact⟨λ_ _=>rfl,λi f=>absurd f (by unfold bh au;simp),rfl,λ_ _=>⟨trivial,λi _ f=>absurd f (by unfold bh au;simp)⟩⟩
 |g::a,e,[],b,s,h=>h.elim
 |g::a,e,u::j,b,s,h=>by
  obtain⟨t,q,r⟩:=h;obtain⟨y,z,k,l⟩:=B6 (s:=s) t q;obtain⟨A,B,m,n⟩:=lQ a (e.drop g.ks.length) j (b+g.width) (cm b g (e.take g.ks.length) s).2 r;have x:au (g::a)=g.width+au a:=by simp[au]
  simp only[aV];rw[x];refine⟨λi f=>?_,λi f=>?_,m.trans k,λd v=>?_⟩
  .grind[bh]
  .grind[bh]
  .obtain⟨o,C⟩:=l d (λi f=>by
    grind[bh])
   obtain⟨p,D⟩:=n d (λi f=>v i (by unfold bh at f⊢;omega));refine⟨⟨o,p⟩,λi cells f E=>?_⟩
   grind[bh]
def oU:∀(a:List Nat) (b:List bK) (s:S),(ir a b s).ob=s.ob
 |[],_,_=>rfl
 |_::_,[],_=>rfl
 |d::a,v::b,s=>by simp only[ir];rw[oU];rfl
def tT(P:Nat->bK->Prop):∀(a:List Nat) (b:List bK) (s:S),(∀i,P i (s.sl i))->(∀(j d:Nat) (v:bK),a[j]? = some d->b[j]? = some v->P d v)->∀i,P i ((ir a b s).sl i)
 |[],_,_,h,_,i=>h i
 |_::_,[],_,h,_,i=>h i
 |d::a,v::b,s,h,c,i=>by
  simp only[ir];refine tT P a b _ (λi=>?_) (λj f l g k=>c (j+1) f l (by simpa using g) (by simpa using k)) i;by_cases e:i=d
  .subst e;rw[St.iY];exact c 0 i v rfl rfl
  grind[St.lV]
def rj {e:S} {c:List Sh} {f:List (KV real)} {t:List Value} {b:Nat} {g:List Nat} (n:zQ w ω) (I:0<b) (o:∀b x k,ω b=some k->ω x=some k->b=x) (m:∀b k,ω b=some k->b<w.heap.size) (l:a.defers=[])
  (h:∀i,(e.ob i).o=.gone) (r:∀i,cQ H w ω e (a.tmps.getD i undef) (e.sl i)) (F:fI w ω b c f t) (q:∀(j d:Nat),g[j]? = some d->∀u,t[j]? = some u->a.tmps.getD d undef=u):
  Rel H ω a w (ir g (aV b c f e).1 (aV b c f e).2):=by
 obtain⟨y,G,z,A⟩:=lQ c f t b e F;have p:=oU g (aV b c f e).1 (aV b c f e).2;have D:=A (ir g (aV b c f e).1 (aV b c f e).2) (λi _=>by rw[p]);have tr:∀i,Tr w ω e w ω (ir g (aV b c f e).1 (aV b c f e).2) i:=λi=>by
  grind[dj.tr,dj,Tr.nq]
 exact
 {dH:=n
  inj:=o
  dom:=m
  defers:=l
  dJ:=by rw[p,y 0 (by unfold bh;omega)];exact h 0
  slots:=λi=>by
   refine tT (λi v=>cQ H w ω (ir g (aV b c f e).1 (aV b c f e).2) (a.tmps.getD i undef) v) g _ _ (λi=>?_) (λj d v B s=>?_) i
   .rw[z];exact cQ.frame (cH.refl _ _) tr (r i)
   .obtain⟨u,E,C⟩:=D.1.get j v s;rw[q j d B u E];exact C
  c7:=λi cells J=>by
   grind[bh] }
def wy{id:Nat}(h:Rel H ω a w s)(C:(s.ob id).o≠.gone)(u:Nat):Passes H ω a w s (ω.drop id) (s.bq id true .gone)/\bT w ω s (ω.drop id) (s.bq id true .gone) [] u u:=by
 have n:id≠0:=h.pR C;have tr:∀j,Tr w ω s w (ω.drop id) (s.bq id true .gone) j:=λj=>by
  by_cases e:j=id
  .subst e;have f:((s.bq j true .gone).ob j).o=.gone:=by rw[St.ay]
   have m:((s.bq j true .gone).ob j).g=(s.ob j).g:=by rw[St.ay]
   have t:((s.bq j true .gone).ob j).h=bif true then(s.ob j).h+1 else(s.ob j).h:=by rw[St.ay]
   exact
   {ref:=λv g h p l=>⟨by rw[m];exact l.1,by rw[m,t];exact gF true l.2.1,λc d=>(fS f d).elim⟩
    ptr:=λv g r l=>⟨by rw[m];exact l.1,λ_ cells d=>by rw[f]at d;cases d⟩
    bH:=λv g h p i r l=>⟨by rw[m];exact l.1,by rw[m,t];exact gF true l.2.1,λc d=>(fS f d).elim⟩
    cD:=λv g l=>l.shut m λk x e=>by rw[f]at e;cases e }
  .exact gx.tr ⟨St.aO _ _ _ e,λb k _ E D=>⟨rfl,by grind[aq.dM]⟩⟩ (bj _ _ _ n) h.dom
 refine⟨⟨?_,bj _ _ _ n,tr⟩,?_⟩
 .exact
  {dH:=h.dH.ext (bj _ _ _ n)
   inj:=λb y k o q=>h.inj b y k (aq.dA o).1 (aq.dA q).1
   dom:=λb k o=>h.dom b k (aq.dA o).1
   defers:=h.defers
   dJ:=by rw[St.aO _ _ _ (dG n)];exact h.dJ
   slots:=λi=>cQ.frame (bj _ _ _ n) tr (h.slots i)
   c7:=λj cells d=>by
    by_cases e:j=id
    .grind[St.ay]
    .rw[St.aO _ _ _ e]at d;obtain⟨b,arr,T,o,q,z⟩:=h.c7 j cells d;exact⟨b,arr,T,aq.dM o e,q,z.mono λ_ _ B=>bU.frame (bj _ _ _ n) tr B⟩ }
 .exact
  {nz:=λ_ _ h=>nomatch h
   was:=λ_ _ h=>nomatch h
   is:=λ_ _ h=>nomatch h
   oh:=λ_ _ h=>nomatch h
   inj:=λ_ _ _ h=>nomatch h
   fn:=λ_ _ _ h=>nomatch h
   gone:=λi m=>by
    grind[St.aO,aq.dM]
   back:=λb k A=>(aq.dA A).1 }
def BN{id:Nat}{ls:List L}(h:Rel H ω a w s)(c:(s.ob id).o=.blk ls)(b:Nat):Passes H ω a w s (ω.drop id) (s.bq id true .gone)/\bT w ω s (ω.drop id) (s.bq id true .gone) [] b b:=wy h (by grind) b
def bT.Hy{c:aq}{g k:S}{m:List (Nat×Nat)}{f d b a:Nat}(h:bT w c g ω k m f d)(l:b<=f)(n:d<=a):bT w c g ω k m b a:={h with oh:=λi j e=>⟨eK l (h.oh i j e).1,c6 (h.oh i j e).2 n⟩ }
def B4:∀(a:ar) (k:K),k∈a.ks->k.ni=true
 |.nil,_,h=>by cases h
 |.cons t ts,k,h=>by
  cases h with
  |head=>rfl
  |tail _ h=>exact B4 ts k h
mutual
def lI:∀t:Ty,Ty.beq t t=true
 |.int k=>by simp[Ty.beq]
 |.bool=>rfl
 |.str=>rfl
 |.map k=>by simp[Ty.beq]
 |.sl e a=>by simp only[Ty.beq,aQ];exact⟨l6 e,nZ a⟩
def nZ:∀t:ar,ar.beq t t=true
 |.nil=>rfl
 |.cons t ts=>by simp only[ar.beq,aQ];exact⟨lI t,nZ ts⟩
end
def su:∀(a:ar) (x:a.T),kf (A:=real) a (Bf (A:=real) a x)=some x
 |.nil,_=>rfl
 |.cons t ts,x=>by simp only[Bf,kf];have b:Ty.beq t t=true:=lI t;rw[kg b];have c:=su ts (jP x);show Option.map (λy=>real.cn (real.cast b (real.hd x)) y) (kf (A:=real) ts (Bf (A:=real) ts (jP x)))=some x;rw[c];exact fK some (D5 x)
def uL:∀(a:ar) (x:a.T),(Bf (A:=real) a x).map (·.1)=a.ks
 |.nil,_=>rfl
 |.cons t ts,x=>fK (K.val t:: ·) (uL ts (jP x))
def uK:∀(a:ar),a.ks.length=a.len
 |.nil=>rfl
 |.cons _ ts=>by simp[ar.ks,ar.len,uK ts]
def nC{d:aq}:∀(e:ar) (a:List (KV real)) (c:List Value) (b:Nat),a.map (·.1)=e.ks->fp w d b a c->∃x,kf (A:=real) e a=some x/\∀(j:Nat) (g:Nat->Option Value),(∀k u,c[k]? = some u->g (j+k)=some u)->e.R w d (λ_=>.bQ) g j x
 |.nil,[],c,b,_,_=>⟨(),rfl,λ_ _ _=>trivial⟩
 |.nil,_::_,_,_,h,_=>by simp[ar.ks]at h
 |.cons t ts,[],_,_,h,_=>by simp[ar.ks]at h
 |.cons t ts,v::a,[],_,_,h=>h.elim
 |.cons t ts,⟨B,y⟩::a,u::c,b,h,l=>by
  simp only[cR,ar.ks,sB]at h;obtain⟨m,n⟩:=h;subst m;obtain⟨x,r,s⟩:=nC ts a c (b+1) n l.2;have o:Ty.beq t t=true:=lI t;refine⟨kZ y x,?_,λj g i=>?_⟩
  .simp only[kf];rw[kg o,r];rfl
  .have p:kp (kZ (t:=t) (ts:=ts) y x)=y:=kI _ _;have q:jP (kZ (t:=t) (ts:=ts) y x)=x:=kK _ _;refine⟨⟨u,by simpa using i 0 u rfl,?_⟩,?_⟩
   .rw[p];exact l.1
   .rw[q];exact s (j+1) g (λk z f=>by
     have:=i (k+1) z (by simpa using f)
     grind)
def j6(h:Rel H ω a w s){l:ar}{c:cU real}{u:Value}{L:List (KV real)}{E:S}(O:gK w ω s u c)(d:bM l c s=some (L,E))(b:Nat):
  ∃e,Passes H ω a w s e E/\bT w ω s e E [] b b/\L.map (·.1)=l.ks/\∃x,kf (A:=real) l L=some x/\∀j t i,di e E j t->(∀b,b<w.heap.size->j b=none->i b=none)->jd w i u l x 0:=by
 cases c with
 |ro F x=>
  simp only[bM]at d;split at d
  .rename_i o;have:=ar.eq_of_beq o;subst this;have d:=aG d;injection d with G D
   subst G;subst D;refine⟨ω,Passes.refl h,bT.refl _ _ _ _ _,uL _ _,x,su _ _,λj t i B C=>?_⟩;obtain⟨b,o',W,z,X,Y⟩:=O;exact⟨b,o',C b z (B.none b W),z,X,ar.hM F _ _ 0 x (λ_ b o p=>by
    rcases p with p|⟨_,_,p⟩
    .exact C b o (B.none b p)
    .exact p.elim) Y⟩
  .cases d
 |ptr id g=>
  simp only[bM]at d;cases o:dm s id g with
  |none=>rw[o]at d;cases d
  |some ls=>
   rw[o]at d;simp only at d;cases z:takes l.ks ls s with
   |none=>rw[z]at d;cases d
   |some q=>
    obtain⟨v,t⟩:=q;rw[z]at d;simp only at d;obtain⟨G,D⟩:=cM o;obtain⟨y,I,V⟩:=O.2 G ls D;obtain⟨U,arr,T,q1,q2,q3⟩:=h.c7 id ls D;obtain rfl:=h.inj _ _ _ I q1;obtain⟨e,m,Q,M,K,n1,R⟩:=gq l.ks ls arr.toList ω s v t b h q3 z;cases f:(t.ob id).o with
    |blk I4=>
     rw[f]at d;have d:=aG d;injection d with v1 v2
     subst v1;subst v2;have Z:=n1 (B4 l);subst Z;obtain⟨p2,N⟩:=BN Q.rel f b;have J:bT w ω s e t [] b b:={ M with oh:=λ_ _ h=>nomatch h }
     refine⟨e.drop id,Q.trans p2,bT.trans (az _) (az _) J N,K,?_⟩;obtain⟨x,x1,_⟩:=nC l v arr.toList b K (R e t e (di.refl _ _) ⟨λ_ _ h=>h,λ_ _ h=>nomatch h⟩);refine⟨x,x1,λj s3 i B C=>?_⟩;have p:=R j s3 i (N.later.trans B) ⟨C,λ_ _ h=>nomatch h⟩;obtain⟨x',n,x2⟩:=nC l v arr.toList b K p;rw[x1]at n;injection n with n
     subst n;have r:(e.drop id) y=none:=by
      cases P:e y with
      |none=>exact aq.oI P
      |some kk=>
       have:=M.back y kk P
       grind[aq.oJ]
     refine⟨y,0,C y (h.dom _ _ I) (B.none y r),h.dom _ _ I,V,x2 0 _ (λk u hu=>?_)⟩
     grind[cell_of_row]
    |arr _ _ _ _=>rw[f]at d;cases d
    |bQ _ _ _=>rw[f]at d;cases d
    |gone=>rw[f]at d;cases d
    |mp _ _=>rw[f]at d;cases d
def pO:∀(d:List ar) (m:List (cU real)) (n:List Value) (l:aq) (s:S) (r:List (KV real)) (p:S) (b:Nat),Rel H l a w s->aH (λv c=>gK w l s v c) n m->bX d m s=some (r,p) ->
  ∃g,Passes H l a w s g p/\bT w l s g p [] b b/\r.map (·.1)=(d.map ar.ks).flatten/\(∀c∈c9 (A:=real) d r,∃j x,c=.ro j x)/\∀i z f,di g p i z->(∀b,b<w.heap.size->i b=none->f b=none) ->
   aH (λv c=>gK w f ⟨λ_=>.dead,λ_=>⟨0,0,0,.gone⟩⟩ v c) n (c9 (A:=real) d r)
 |[],[],n,l,s,r,p,b,h,o,e=>by
  injection e with e
  injection e with B C
  subst B;subst C;cases n with
  |cons _ _=>exact o.elim
  |nil=>exact⟨l,Passes.refl h,bT.refl _ _ _ _ _,rfl,(λc P=>absurd P (by simp[c9])),λ_ _ _ _ _=>trivial⟩
 |j::d,c::m,[],_,_,_,_,_,_,o,_=>o.elim
 |j::d,c::m,v::n,l,s,r,p,b,h,o,e=>by
  simp only[bX]at e;cases D:bM j c s with
  |none=>rw[D]at e;cases e
  |some q=>
   obtain⟨N,z⟩:=q;rw[D]at e;simp only at e;cases E:bX d m z with
   |none=>rw[E]at e;cases e
   |some K=>
    obtain⟨k,V⟩:=K;rw[E]at e;injection e with e
    injection e with B C
    subst B;subst C;obtain⟨g,y,O,M,x,x1,T⟩:=j6 h o.1 D b;obtain⟨i,R,F,W,K,U⟩:=pO d m n g z k V b y.rel (o.2.mono λ_ _ Q=>gK.frame y.ext y.tr Q) E;have I:N.length=j.len:=by rw[<-uK,<-M];simp
    have t:c9 (A:=real) (j::d) (N++k)=.ro j x::c9 (A:=real) d k:=by
     grind[c9]
    refine⟨i,y.trans R,bT.trans (az _) (az _) O F,by simp[M,W],?_,λu L f G J=>?_⟩
    .grind
    .rw[t];exact⟨T u L f (F.later.trans G) J,U u L f G J⟩
 |[],_::_,_,_,_,_,_,_,_,_,e=>by cases e
 |_::_,[],_,_,_,_,_,_,_,_,e=>by cases e
def ug(h:Rel H ω a w s){ks:List K}{id g:Nat}{u:Value}{o:List (KV real)}{k:S}(x:yZ ω s u id g 0)(c:bL (.blk ks) (.one (.ptr id g 0)) s=some (o,k))(b:Nat):
  ∃d m,Passes H ω a w s d k/\bT w ω s d k m b (b+(ks.length+1))/\o.map (·.1)=ks/\∀f z e,di d k f z->fJ w f e m->AX w e b (.blk ks) o u:=by
 simp only[bL]at c;cases v:dm s id g with
 |none=>rw[v]at c;cases c
 |some ls=>
  rw[v]at c;simp only at c;cases r:takes ks ls (s.bq id true .gone)with
  |none=>rw[r]at c;cases c
  |some q=>
   rw[r]at c;have c:=aG c;subst c;obtain⟨E,A⟩:=cM v;obtain⟨l,p,F⟩:=x.2 E ls A;obtain⟨D,arr,T,L,M,N⟩:=h.c7 id ls A;obtain rfl:=h.inj _ _ _ p L;have y:(s.ob id).o≠.gone:=by grind
   have n:=Passes.BV h id;have G:=rf (lo:=b) h y;obtain⟨d,m,J,B,P,_,O⟩:=gq ks ls arr.toList ω (s.bq id true .gone) o k (b+1) n.rel (N.mono λ_ _ x=>bU.frame n.ext n.tr x) r;refine⟨d,(id,b)::m,n.trans J,?_,P,λf z e C t=>?_⟩
   .have:=bT.trans (kE _) (fm _ _) G B
    grind
   .refine⟨l,arr,T,F,?_,M,O f z e C ⟨t.none,λi j I=>t.own i j (by simp[I])⟩⟩;refine t.own id b (by simp) l [] (h.dom l _ p) ?_;exact((B.later.trans C).gone id (by rw[St.ay])).2 l [] p
def r9:∀(d:List Cp) (B:List (cU real)) (t:List Value) (p:aq) (s:S) (K:List (KV real)) (E:S) (b:Nat),Rel H p a w s->aH (λv c=>gK w p s v c) t B->b7 d B s=some (K,E) ->
  ∃f m,Passes H p a w s f E/\bT w p s f E m b (b+td d)/\K.map (·.1)=(d.map Cp.ks).flatten/\∀i o e,di f E i o->fJ w i e m->vr w e b d K t
 |[],[],t,p,s,K,E,b,h,y,j=>by
  injection j with j
  injection j with M N
  subst M;subst N;cases t with
  |cons _ _=>exact y.elim
  |nil=>exact⟨p,[],Passes.refl h,bT.refl _ _ _ _ _,rfl,λ_ _ _ _ _=>⟨rfl,rfl⟩⟩
 |c::d,v::B,[],_,_,_,_,_,_,y,_=>y.elim
 |c::d,v::B,u::t,p,s,K,E,b,h,y,j=>by
  simp only[b7]at j;cases I:eX c v s with
  |none=>rw[I]at j;cases j
  |some q=>
   obtain⟨F,o⟩:=q;rw[I]at j;simp only at j;cases O:b7 d B o with
   |none=>rw[O]at j;cases j
   |some Z=>
    obtain⟨l,z⟩:=Z;rw[O]at j;injection j with j
    injection j with M N
    subst M;subst N;have Q:∃f m,Passes H p a w s f o/\bT w p s f o m b (b+c.width)/\F.map (·.1)=c.ks/\∀i z e,di f o i z->fJ w i e m->∀l n,vr w e (b+c.width) d l n->vr w e b (c::d) (F++l) (u::n):=by
     cases c with
     |ro R=>
      obtain⟨f,r,G,A,x,x1,J⟩:=j6 h y.1 (show bM R v s=some (F,o)from I) b;have k:F.length=R.len:=by rw[<-uK,<-A];simp
      refine⟨f,[],r,G,A,λi z e C D l n P=>⟨by grind,?_,?_⟩⟩
      .rw[p6 k];exact⟨x,x1,J i z e C (λb V X=>D.none b V X)⟩
      .rw[ot k];exact P
     |mu ks=>
      cases v with
      |ro _ _=>cases I
      |ptr id g=>
       obtain⟨f,m,r,G,A,J⟩:=ug h y.1 (show bL (.blk ks) (.one (.ptr id g 0)) s=some (F,o)from I) b;have k:F.length=ks.length:=by rw[<-A];simp
       refine⟨f,m,r,G,A,λi z e C D l n P=>⟨by grind,?_,?_⟩⟩
       .rw[p6 k];exact J i z e C D
       .rw[ot k];exact P
    obtain⟨f,m1,r,G,A,J⟩:=Q;obtain⟨i,m2,Y,T,t2,r2⟩:=r9 d B t f o l z (b+c.width) r.rel (y.2.mono λ_ _ W=>gK.frame r.ext r.tr W) O;refine⟨i,m1++m2,r.trans Y,?_,by simp[A,t2],λL U e C D=>?_⟩
    .have:=bT.trans (fm _ _) (fm _ _) G T;rwa[Nat.add_assoc]at this
    .exact J L U e (T.later.trans C) D.left l t (r2 L U e C D.right)
 |[],_::_,_,_,_,_,_,_,_,_,j=>by cases j
 |_::_,[],_,_,_,_,_,_,_,_,j=>by cases j
def AT(h:Rel H ω a w s){M:Sh}{tv:bK}{u:Value}{D:List (KV real)}{C:S}(B:cQ H w ω s u tv)(n:bL M tv s=some (D,C))(b:Nat):
  ∃d m,Passes H ω a w s d C/\bT w ω s d C m b (b+M.width)/\D.map (·.1)=M.ks/\(M.eG=true->m=[])/\∀j r i,di d C j r->fJ w j i m->AX w i b M D u:=by
 unfold bL at n;split at n
 .rename_i U id g;obtain⟨d,p,o,t,x,L,q⟩:=j6 h (c:=.ptr id g) B n b;exact⟨d,[],p,o,t,λ_=>rfl,λj r i z A=>⟨x,L,q j r i z (λb J K=>A.none b J K)⟩⟩
 .rename_i U O x;obtain⟨d,p,o,t,x,L,q⟩:=j6 h (c:=.ro O x) B n b;exact⟨d,[],p,o,t,λ_=>rfl,λj r i z A=>⟨x,L,q j r i z (λb J K=>A.none b J K)⟩⟩
 .rename_i f y P N;cases E:Nat.beq f P with
  |false=>rw[E]at n;cases n
  |true=>rw[E]at n;simp only[aJ]at n;have Q:=bc E;subst Q;obtain⟨F,G,I⟩:=B;obtain⟨d,p,o,t,L,q⟩:=pO y N F ω s D C b h I n;exact⟨d,[],p,o,t,λ_=>rfl,λj r i z A=>⟨F,G,q j r i z (λb J K=>A.none b J K),L⟩⟩
 .rename_i f y P N;cases E:Nat.beq f P with
  |false=>rw[E]at n;cases n
  |true=>rw[E]at n;simp only[aJ]at n;have Q:=bc E;subst Q;obtain⟨F,G,I⟩:=B;obtain⟨d,m,p,o,t,q⟩:=r9 y N F ω s D C b h I n;exact⟨d,m,p,o,t,λe=>(by cases e),λj r i z A=>⟨F,G,q j r i z A⟩⟩
 .rename_i V l;obtain⟨d,m,p,o,t,R,q⟩:=gq [V] [l] [u] ω s D C b h ⟨B,trivial⟩ n;refine⟨d,m,p,o,t,λB=>R (λk T=>by grind[Sh.eG]),λj r i z A=>?_⟩;have:=q j r i z A;match D,this with
  |[v],this=>exact⟨v,rfl,this.1⟩
  |_::_::_,this=>exact this.2.elim
 .rename_i ks ls;obtain⟨cells,G,I⟩:=B;obtain⟨d,m,p,o,t,R,q⟩:=gq ks ls cells ω s D C b h I n;exact⟨d,m,p,o,t,λB=>R (λk T=>by simpa using cg.1 B k T),λj r i z A=>⟨cells,G,q j r i z A⟩⟩
 .rename_i ks id g;obtain⟨d,m,p,o,t,q⟩:=ug h B (show bL (.blk ks) (.one (.ptr id g 0)) s=some (D,C)from n) b;exact⟨d,m,p,o,t,λe=>(by cases e),q⟩
 .cases n
def iH:∀(d:List Sh) (e:List bK) (o:List Value) (k:aq) (s:S) (y:List (KV real)) (n:S) (b:Nat),Rel H k a w s->aH (cQ H w k s) o e->bz d e s=some (y,n) ->
  ∃g m,Passes H k a w s g n/\bT w k s g n m b (b+au d)/\(d.all Sh.eG=true->m=[])/\∀i t f,di g n i t->fJ w i f m->fI w f b d y o
 |[],[],o,k,s,y,n,b,h,l,c=>by
  injection c with c
  injection c with z A
  subst z;subst A;cases o with
  |cons _ _=>exact l.elim
  |nil=>exact⟨k,[],Passes.refl h,bT.refl _ _ _ _ _,λ_=>rfl,λ_ _ _ _ _=>⟨rfl,rfl⟩⟩
 |x::d,tv::e,[],_,_,_,_,_,_,l,_=>l.elim
 |x::d,tv::e,u::o,k,s,y,n,b,h,l,c=>by
  simp only[bz]at c;cases B:bL x tv s with
  |none=>rw[B]at c;cases c
  |some q=>
   obtain⟨v,t⟩:=q;rw[B]at c;simp only at c;cases C:bz d e t with
   |none=>rw[C]at c;cases c
   |some M=>
    obtain⟨D,P⟩:=M;rw[C]at c;injection c with c
    injection c with z A
    subst z;subst A;obtain⟨g,m1,r,K,Q,R,N⟩:=AT h l.1 B b;obtain⟨i,m2,L,E,T,O⟩:=iH d e o g t D P (b+x.width) r.rel (l.2.mono λ_ _ G=>cQ.frame r.ext r.tr G) C;have j:v.length=x.ks.length:=by rw[<-Q];simp
    refine⟨i,m1++m2,r.trans L,?_,λG=>by grind,λp J f F I=>?_⟩
    .have:=bT.trans (fm _ _) (fm _ _) K E
     grind[au]
    .refine⟨by grind,?_,?_⟩
     .rw[p6 j];exact N p J f (E.later.trans F) I.left
     .rw[ot j];exact O p J f F I.right
 |[],_::_,_,_,_,_,_,_,_,_,c=>by cases c
 |_::_,[],_,_,_,_,_,_,_,_,c=>by cases c
def aq.named(a:aq)(m:List (Nat×Nat)):aq:=λb=>match a b with
 |none=>none
 |some (i,p)=>if i=0 then some (0,p)else match m.find? (λq=>q.1==i)with
  |some q=>some (q.2,p)
  |none=>none
def rF{m:List (Nat×Nat)}{b:Nat}(h:ω b=none):ω.named m b=none:=by unfold aq.named;rw[h]
def Aw{s:S}{a:aq}{r:S}{m:List (Nat×Nat)}{o k:Nat}(e:bT w a r ω s m o k){i j b:Nat}{p:List (Nat×Nat)}(f:(i,j)∈m)(h:ω b=some (i,p)):ω.named m b=some (j,p):=by
 unfold aq.named;rw[h];simp only;rw[dS (e.nz i j f)];cases d:m.find? (λq=>q.1==i)with
 |none=>grind
 |some q=>obtain⟨l,n⟩:=q;have c:=iA d;have g:=iN d;simp at c;subst c;rw[e.fn l j n f g]
theorem iG{m:List (Nat×Nat)}{b:Nat}{k:Key}(h:ω.named m b=some k):(k.1=0/\ω b=some k)\/∃i,(i,k.1)∈m/\i≠0/\ω b=some (i,k.2):=by
 grind[aq.named]
def wQ{m:List (Nat×Nat)}{b:Nat}(h:my ω b):ω.named m b=ω b:=by
 rcases h with h|⟨q,h⟩
 .rw[h];exact rF h
 grind[aq.named]
def iB(a:aq)(w:World)(m:List (Nat×Nat)):cH a w (a.named m) w:=⟨rfl,rfl,⟨rfl,az _⟩,az _,λ_ _ h=>⟨rfl,wQ h⟩⟩
def oQ{t:S}{g:aq}{s:S}{m:List (Nat×Nat)}{n p:Nat}(q:0<n)(f:bT w g s ω t m n p)(c:∀b a k,ω b=some k->ω a=some k->b=a)(b a:Nat)(k:Key)(h:ω.named m b=some k)(o:ω.named m a=some k):b=a:=by
 rcases iG h with ⟨d,j⟩|⟨i,d,j,u⟩ <;> rcases iG o with ⟨e,l⟩|⟨r,e,l,v⟩
 .exact c b a k j l
 .have:=(f.oh _ _ e).1;omega
 .have:=(f.oh _ _ d).1;omega
 .have:=f.inj i r k.1 d e
  grind
def oP{m:List (Nat×Nat)}(hd:∀b k,ω b=some k->b<w.heap.size)(b:Nat)(k:Key)(h:ω.named m b=some k):b<w.heap.size:=by
 grind[iG]
def fA{g:S}{a:aq}{f:S}{m:List (Nat×Nat)}{e c:Nat}(b:bT w a f ω g m e c):fJ w ω (ω.named m) m:=⟨λ_ _ h=>rF h,λ_ _ d _ _ _ h=>Aw b d h⟩
theorem gJ:∀(ks:List K) (a:List (KV real)) (x:fE real ks),kL ks a=some x->bJ ks x=a
 |[],[],x,_=>rfl
 |[],_::_,_,h=>by cases h
 |k::ks,[],_,h=>by cases h
 |k::ks,⟨e,y⟩::a,x,h=>by
  simp only[kL]at h;split at h
  .rename_i c;cases b:kL ks a with
   |none=>rw[b]at h;cases h
   |some z=>rw[b]at h;have h:=aG h;subst h;have d:=K.eq_of_beq c;subst d;simp only[bJ];rw[gJ ks a z b]
  .cases h
end
end Go.R
namespace Go.R
section
variable {R:Type}{P:Program}{E:Env}{ω:aq}{a:Act}{w:World}{s:S}{k:S->Option R}{r:R}{o:Oper}{Q:Exit->Act->World->Prop}
def EX(p q:fU real):Prop:=q=p\/(q.g=p.g/\p.h<=q.h/\(q.o=.gone\/∃e a x,q.o=.bQ e a x)/\p.o≠.gone)
def df(s s':S):Prop:=∀i,EX (s.ob i) (s'.ob i)
theorem df.refl(s:S):df s s:=λ_=>.inl rfl
def df.trans{s s' s'':S}(h:df s s')(c:df s' s''):df s s'':=by
 intro i;rcases h i with a|⟨a,d,f,e⟩
 .have:=c i;rw[a]at this;exact this
 .rcases c i with b|⟨b,g,k3,j⟩
  .rw[b];exact .inr ⟨a,d,f,e⟩
  .exact .inr ⟨b.trans a,eK d g,k3,e⟩
theorem df.bq{s:S}{id:Nat}{o:Ob real}(b:o=.gone\/∃e a x,o=.bQ e a x)(c:(s.ob id).o≠.gone):df s (s.bq id true o):=by
 intro i;by_cases e:i=id
 .subst e;rw[St.ay];exact .inr ⟨rfl,kE _,b,c⟩
 .exact .inl (St.aO _ _ _ e)
def df.gone{s s':S}(h:df s s'){i:Nat}(a:(s.ob i).o=.gone):(s'.ob i).o=.gone:=by
 rcases h i with h|⟨_,_,_,h⟩
 .rw[h];exact a
 .exact absurd a h
def df.blk{s s':S}(h:df s s'){i:Nat}{c:List L}(b:(s'.ob i).o=.blk c):s'.ob i=s.ob i:=by
 rcases h i with h|⟨_,_,a,_⟩
 .exact h
 .rcases a with a|⟨_,_,_,a⟩ <;> (rw[b]at a;cases a)
def df.g{s s':S}(h:df s s')(i:Nat):(s'.ob i).g=(s.ob i).g:=by
 rcases h i with h|⟨h,_⟩
 .rw[h]
 .exact h
def df.h{s s':S}(h:df s s')(i:Nat):(s.ob i).h<=(s'.ob i).h:=by
 rcases h i with h|⟨_,h,_⟩
 .rw[h];exact az _
 .exact h
def rK{t:Ty}{l:L}{s:S}{q:real.V t×S}(h:bF (A:=real) false t l s=some q):df s q.2:=by
 unfold bF at h;split at h
 .simp only[cz]at h;split at h
  .injection h with h;subst h;exact .refl _
  .cases h
 .simp only[cz]at h;split at h
  .injection h with h;subst h;exact .refl _
  .cases h
 .split at h
  .injection h with h;subst h;exact .refl _
  .cases h
 .split at h
  .injection h with h;subst h;exact .refl _
  .cases h
 .rename_i id g _;cases a:Nat.beq (s.ob id).g g with
  |false=>rw[a]at h;cases h
  |true=>
   rw[a]at h;simp only[aJ]at h;split at h
   .rename_i e c d x b;split at h
    .simp only[cz]at h;injection h with h;subst h
     exact .bq (.inr ⟨_,_,_,rfl⟩) (by rw[b];exact λe=>by cases e)
    .cases h
   .simp only[cz]at h;split at h
    .injection h with h;subst h;exact .refl _
    .cases h
   .cases h
 .cases h
theorem sZ{e:Nat}{b:ar}{deep:Bool}{l:L}{s:S}{q:real.V (.sl e b)×S}(h:eB (A:=real) e b deep l s=some q):df s q.2:=by
 unfold eB at h;split at h
 .split at h
  .injection h with h;subst h;exact .refl _
  .cases h
 .rename_i id g _;cases d:Nat.beq (s.ob id).g g <;> rw[d]at h
  .cases h
  .simp only[aJ]at h;split at h
   .rename_i i a c x f;cases hd:(c==deep||a.plain) <;> rw[hd]at h
    .cases h
    .simp only[aJ]at h;split at h
     .injection h with h;subst h;exact .bq (.inl rfl) (by rw[f];exact λe=>by cases e)
     .cases h
   .cases h
 .cases h
def Ck{k:IntKind}{l:L}{s:S}{q:real.V (.sl 0 (ar.mp k))×S}(h:uM (A:=real) k l s=some q):df s q.2:=by
 unfold uM at h;split at h
 .rename_i id g;cases a:Nat.beq (s.ob id).g g <;> rw[a]at h
  .cases h
  .simp only[aJ]at h;split at h
   .rename_i c x b;split at h
    .injection h with h;subst h;exact .bq (.inl rfl) (by rw[b];exact λe=>by cases e)
    .cases h
   .cases h
 .cases h
def yU{k:K}{l:L}{s:S}{q:KV real×S}(h:cI k l s=some q):df s q.2:=by
 cases k with
 |val t=>
  simp only[cI]at h;cases a:bF (A:=real) false t l s with
  |none=>rw[a]at h;cases h
  |some p=>rw[a]at h;injection h with h;subst h;exact rK a
 |arr e b deep=>
  simp only[cI]at h;cases a:eB (A:=real) e b deep l s with
  |none=>rw[a]at h;cases h
  |some p=>rw[a]at h;injection h with h;subst h;exact sZ a
 |mp c=>
  simp only[cI]at h;cases a:uM (A:=real) c l s with
  |none=>rw[a]at h;cases h
  |some p=>rw[a]at h;injection h with h;subst h;exact Ck a
def ez:∀ {ks:List K} {ls:List L} {s:S} {q:List (KV real)×S},takes ks ls s=some q->df s q.2
 |[],[],s,q,h=>by injection h with h;subst h;exact .refl _
 |[],_::_,s,q,h=>by cases h
 |_::_,[],s,q,h=>by cases h
 |k::ks,l::ls,s,q,h=>by
  simp only[takes]at h;cases a:cI k l s with
  |none=>rw[a]at h;cases h
  |some p=>
   rw[a]at h;simp only[]at h;cases b:takes ks ls p.2 with
   |none=>rw[b]at h;cases h
   |some c=>rw[b]at h;injection h with h;subst h;exact(show df s c.2 from(yU a).trans (ez b))
def fP{b:ar}{c:cU real}{s:S}{q:List (KV real)×S}(h:bM b c s=some q):df s q.2:=by
 unfold bM at h;split at h
 .split at h
  .rename_i ls f;cases a:takes b.ks ls s with
   |none=>rw[a]at h;cases h
   |some p=>
    rw[a]at h;simp only[]at h;split at h
    .rename_i id g _ _ _ c d;injection h with h;subst h;exact(ez a).trans (.bq (.inl rfl) (by rw[d];exact λe=>by cases e))
    .cases h
  .cases h
 .split at h
  .injection h with h;subst h;exact .refl _
  .cases h
def mC:∀ {a:List ar} {b:List (cU real)} {s:S} {q:List (KV real)×S},bX a b s=some q->df s q.2
 |[],[],s,q,h=>by injection h with h;subst h;exact .refl _
 |[],_::_,s,q,h=>by cases h
 |_::_,[],s,q,h=>by cases h
 |g::d,c::b,s,q,h=>by
  simp only[bX]at h;cases e:bM g c s with
  |none=>rw[e]at h;cases h
  |some p=>
   rw[e]at h;simp only[]at h;cases f:bX d b p.2 with
   |none=>rw[f]at h;cases h
   |some i=>rw[f]at h;injection h with h;subst h;exact(show df s i.2 from(fP e).trans (mC f))
def lG{c:Cp}{v:cU real}{s:S}{q:List (KV real)×S}(h:eX c v s=some q):df s q.2:=by
 unfold eX at h;split at h
 .exact fP h
 .split at h
  .rename_i ls a;split at h
   .rename_i b;injection h with h;subst h
    exact(df.bq (.inl rfl) (by rw[(cM a).2];exact λe=>by cases e)).trans (ez b)
   .cases h
  .cases h
 .cases h
def j9:∀ {a:List Cp} {b:List (cU real)} {s:S} {q:List (KV real)×S},b7 a b s=some q->df s q.2
 |[],[],s,q,h=>by injection h with h;subst h;exact .refl _
 |[],_::_,s,q,h=>by cases h
 |_::_,[],s,q,h=>by cases h
 |g::d,c::b,s,q,h=>by
  simp only[b7]at h;cases e:eX g c s with
  |none=>rw[e]at h;cases h
  |some p=>
   rw[e]at h;simp only[]at h;cases f:b7 d b p.2 with
   |none=>rw[f]at h;cases h
   |some i=>rw[f]at h;injection h with h;subst h;exact(show df s i.2 from(lG e).trans (j9 f))
def lH{k:Sh}{v:bK}{s:S}{q:List (KV real)×S}(h:bL k v s=some q):df s q.2:=by
 unfold bL at h;split at h
 .exact fP h
 .exact fP h
 .rename_i f a b i;cases c:Nat.beq f b <;> rw[c]at h
  .cases h
  .exact mC h
 .rename_i f a b i;cases c:Nat.beq f b <;> rw[c]at h
  .cases h
  .exact j9 h
 .exact ez h
 .exact ez h
 .rename_i ks id g;split at h
  .rename_i ls d;split at h
   .rename_i j;injection h with h;subst h
    exact(df.bq (.inl rfl) (by rw[(cM d).2];exact λe=>by cases e)).trans (ez j)
   .cases h
  .cases h
 .cases h
def iy:∀ {a:List Sh} {d:List bK} {s:S} {q:List (KV real)×S},bz a d s=some q->df s q.2
 |[],[],s,q,h=>by injection h with h;subst h;exact .refl _
 |[],_::_,s,q,h=>by cases h
 |_::_,[],s,q,h=>by cases h
 |f::a,v::d,s,q,h=>by
  simp only[bz]at h;cases b:bL f v s with
  |none=>rw[b]at h;cases h
  |some p=>
   rw[b]at h;simp only[]at h;cases c:bz a d p.2 with
   |none=>rw[c]at h;cases h
   |some e=>rw[c]at h;injection h with h;subst h;exact(show df s e.2 from(lH b).trans (iy c))
def DN{deep:Bool}{t:Ty}{l:L}{s:S}{q:real.V t×S}(h:bF (A:=real) deep t l s=some q):df s q.2:=by
 cases deep with
 |false=>exact rK h
 |true=>
  unfold bF at h;split at h
  .cases h
  .cases h
  .split at h
   .injection h with h;subst h;exact .refl _
   .cases h
  .split at h
   .injection h with h;subst h;exact .refl _
   .cases h
  .rename_i id g _;cases a:Nat.beq (s.ob id).g g with
   |false=>rw[a]at h;cases h
   |true=>
    rw[a]at h;simp only[aJ]at h;split at h
    .split at h <;> cases h
    .cases h
    .cases h
  .cases h
end
variable {H:Nat->Value}
open Classical
def DM(w:World)(d:aq)(c:World)(a:aq)(k k':Key):Prop:=∀b r,b<w.heap.size->d b=some (k.1,k.2++r)->c.heap[b]? = w.heap[b]? /\ a b=some (k'.1,k'.2++r)
theorem DM.inner{w w':World}{c a:aq}{k k':Key}(h:DM w c w' a k k')(i j:Nat):DM w c w' a (k.1,k.2++[(i,j)]) (k'.1,k'.2++[(i,j)]):=by intro b r d e;have:=h b ((i,j)::r) d (by simpa using e);simpa using this
mutual
def Ty.fF{w w':World}{u f:aq}:∀(t:Ty) (k d:Key) (v:Value) (x:t.T),DM w u w' f k d->t.R w u (.deep k) v x->t.R w' f (.deep d) v x
 |.int _,_,_,_,_,_,h=>h
 |.bool,_,_,_,_,_,h=>h
 |.str,_,_,_,_,_,h=>h
 |.map _,_,_,_,_,_,h=>by
  rcases h with h|⟨C,_⟩
  .exact .inl h
  .cases C
 |.sl e y,k,d,v,x,H,h=>by
  obtain⟨a,n,c,p,q,r,l,z⟩:=h;rcases l with l|⟨b,arr,D,s,E,F⟩
  .exact⟨a,n,c,p,q,r,.inl l,λi g o=>absurd o (by omega)⟩
  .have m:=H b [] (aM s) (by grind);rw[e9]at m;refine⟨a,n,c,p,q,r,.inr ⟨b,arr,D,m.1.trans s,E,m.2⟩,λi g o A=>?_⟩;have B:g.block=b:=by grind
   exact ar.fF y (λj=>(k.1,k.2++[(i,j)])) (λj=>(d.1,d.2++[(i,j)])) _ _ 0 _ (λj=>H.inner i j) (λj=>by
    grind[fN]) (z i g o A)
def ar.fF{w w':World}{f b:aq}:∀(d:ar) (k a:Nat->Key) (g c:Nat->Option Value) (j:Nat) (x:d.T),(∀j,DM w f w' b (k j) (a j))->(∀j,c j=g j)->d.R w f (λj=>.deep (k j)) g j x->d.R w' b (λj=>.deep (a j)) c j x
 |.nil,_,_,_,_,_,_,_,_,_=>trivial
 |.cons t ts,k,a,g,c,j,x,H,e,h=>by obtain⟨⟨v,i,l⟩,m⟩:=h;exact⟨⟨v,(e j).trans i,Ty.fF t (k j) (a j) v _ (H j) l⟩,ar.fF ts k a g c (j+1) _ H e m⟩
end
def iI{w:World}{e:aq}:∀(d:ar) (c:Nat->Md) (g:Nat->Option Value) (b:Nat) (y:d.T),
  d.R w e c g b y↔∀j t x,cellAt (A:=real) d y j=some ⟨t,x⟩->∃v,g (b+j)=some v/\t.R w e (c (b+j)) v x
 |.nil,_,_,_,_=>⟨λ_ _ _ _ h=>(nomatch h),λ_=>trivial⟩
 |.cons t ts,c,g,b,y=>by
  constructor
  .intro ⟨⟨v,f,i⟩,k⟩ j u x a;cases j with
   |zero=>have a:=aG a;cases a;exact⟨v,f,i⟩
   |succ j=>
    obtain⟨v,l,m⟩:=(iI ts c g (b+1) _).1 k j u x a
    grind
  .intro h;refine⟨h 0 t _ rfl,(iI ts c g (b+1) _).2 λj u x a=>?_⟩;have:=h (j+1) u x a
   grind
def iE:∀(a:ar) (y b:a.T) (j:Nat) (q:Sigma real.V),setCell (A:=real) a y j q=some b->∀i,cellAt (A:=real) a b i=if i=j then some q else cellAt (A:=real) a y i
 |.nil,_,_,_,_,h=>by cases h
 |.cons t ts,y,b,0,⟨u,v⟩,h=>by
  simp only[setCell]at h;split at h
  .rename_i c;have h:=aG h;subst h;obtain rfl:=Ty.eq_of_beq c;intro i;cases i with
   |zero=>simp only[cellAt,if_true];have:real.hd (real.cn (t:=u) (ts:=ts) (real.cast c v) (real.tl y))=v:=kI _ _;rw[this]
   |succ i=>rw[dS (by omega)];simp only[cellAt];have:real.tl (real.cn (t:=u) (ts:=ts) (real.cast c v) (real.tl y))=real.tl y:=kK _ _;rw[this]
  .cases h
 |.cons t ts,y,b,j+1,q,h=>by
  simp only[setCell]at h;cases d:setCell (A:=real) ts (real.tl y) j q with
  |none=>rw[d]at h;cases h
  |some z=>
   rw[d]at h;have h:=aG h;subst h;intro i;cases i with
   |zero=>rw[dS (by omega)];simp only[cellAt];have:real.hd (real.cn (t:=t) (ts:=ts) (real.hd y) z)=real.hd y:=kI _ _;rw[this]
   |succ i=>
    simp only[cellAt];have:real.tl (real.cn (t:=t) (ts:=ts) (real.hd y) z)=z:=kK _ _;rw[this,iE ts _ z j q d i]
    grind
def mI:∀(b:List (KV real)) (a:ar) (y c:a.T) (j:Nat),setRow (A:=real) a y j b=some c->∀i,cellAt (A:=real) a c i=if j<=i/\i<j+b.length then(b[i-j]?).map KV.sig else cellAt (A:=real) a y i
 |[],a,y,c,j,h,i=>by
  have h:=aG h
  grind
 |v::b,a,y,c,j,h,i=>by
  simp only[setRow]at h;cases d:setCell (A:=real) a y j v.sig with
  |none=>rw[d]at h;cases h
  |some z=>
   rw[d]at h;rw[mI b a z c (j+1) h i,iE a y z j _ d i,gB]
   grind
def wl:∀(b:ar) (a:List (KV real)) (x:b.T),qj (A:=real) b a=some x->a.length=b.len/\∀i,i<b.len->cellAt (A:=real) b x i=(a[i]?).map KV.sig
 |.nil,[],_,_=>⟨rfl,λi f=>absurd f (by simp[ar.len])⟩
 |.nil,_::_,_,h=>by cases h
 |.cons _ _,[],_,h=>by cases h
 |.cons t ts,v::a,x,h=>by
  simp only[qj]at h;split at h
  .rename_i c;cases d:qj (A:=real) ts a with
   |none=>rw[d]at h;cases h
   |some y=>
    rw[d]at h;have h:=aG h;subst h;obtain⟨j,k⟩:=wl ts a y d;refine⟨by simp[j,ar.len],λi f=>?_⟩;cases i with
    |zero=>simp only[cellAt];have:real.hd (real.cn (t:=t) (ts:=ts) (real.cast c v.sig.2) y)=real.cast c v.sig.2:=kI _ _;rw[this];generalize g:v.sig=q at c;obtain⟨u,z⟩:=q;have e:u=t:=Ty.eq_of_beq c;subst e;simp only[vR,cZ,g];rfl
    |succ i=>
     simp only[cellAt];have:real.tl (real.cn (t:=t) (ts:=ts) (real.cast c v.sig.2) y)=y:=kK _ _
     grind[ar.len]
  .cases h
def mH:∀(a:ar) (x:a.T) (i:Nat) q,cellAt (A:=real) a x i=some q->i<a.len
 |.nil,_,_,_,h=>by cases h
 |.cons _ _,_,0,_,_=>by simp[ar.len]
 |.cons _ ts,x,i+1,q,h=>by have:=mH ts _ i q h;simp[ar.len];omega
def vC{w w':World}{f a:aq}{b:Nat}{v:KV real}{u:Value}{k:Key}(g:∀t,v.1=.val t->t.atom)(hd:(∀e c d,v.1=.arr e c d->d=true)/\∀m,v.1≠.mp m)(H:DM w f w' a (b,[]) k)(h:DS w f b v u):v.sig.1.R w' a (.deep k) u v.sig.2:=by
 obtain⟨i,x⟩:=v;cases i with
 |val t=>exact Ty.fZ (g t rfl) h
 |arr e c d=>have:=hd.1 e c d rfl;subst this;exact Ty.fF (.sl e c) (b,[]) k u x H h
 |mp m=>exact absurd rfl (hd.2 m)
theorem ym:∀(a:ar) (i:Nat) (k:K),a.kd[i]? = some k->(∀t,k=.val t->t.atom)/\(∀e c d,k=.arr e c d->d=true)/\∀m,k≠.mp m
 |.nil,i,k,h=>by simp[ar.kd]at h
 |.cons t ts,0,k,h=>by
  cases t <;> (simp only[ar.kd,vR,Option.some.injEq]at h;subst h)
  .exact⟨λt e=>by injection e with e;subst e;exact⟨λ_ _ h=>(by cases h),λ_ h=>(by cases h)⟩,(λ_ _ _ h=>(by cases h)),λ_ h=>(by cases h)⟩
  .exact⟨λt e=>by injection e with e;subst e;exact⟨λ_ _ h=>(by cases h),λ_ h=>(by cases h)⟩,(λ_ _ _ h=>(by cases h)),λ_ h=>(by cases h)⟩
  .exact⟨λt e=>by injection e with e;subst e;exact⟨λ_ _ h=>(by cases h),λ_ h=>(by cases h)⟩,(λ_ _ _ h=>(by cases h)),λ_ h=>(by cases h)⟩
  .grind
  grind
 |.cons t ts,i+1,k,h=>ym ts i k (by simpa[ar.kd] using h)
def B2:∀a:ar,a.kd.length=a.len
 |.nil=>rfl
 |.cons t ts=>by simp[ar.kd,ar.len,B2 ts]
def qC{w:World}{e:aq}:∀ {d:List (KV real)} {c:List Value} {b:Nat},fp w e b d c->∀(k:Nat) (v:KV real),d[k]? = some v->∃u,c[k]? = some u/\DS w e (b+k) v u
 |[],[],_,_,k,v,h=>by simp at h
 |i::_,u::_,b,h,0,v,a=>by simp at a;subst a;exact⟨u,rfl,h.1⟩
 |_::d,_::c,b,h,k+1,v,a=>by
  obtain⟨u,f,g⟩:=qC h.2 k v (by simpa using a)
  grind
 |[],_::_,_,h,_,_,_=>h.elim
 |_::_,[],_,h,_,_,_=>h.elim
theorem dN(i:IV)(j:Nat)(p:iU):aC ((i,j)::p)=(i.i.toNat,j)::aC p:=rfl
def kj{i j a b:Nat}{p r:List (Nat×Nat)}(h:¬(i=a/\j=b)):¬((i,j)::p <+: (a,b)::r):=by
 grind
theorem qm{w w':World}{ω C:aq}{id:Nat}{c:Cont real}{y:List c.cs.T}:∀(p:iU) (q:List (Nat×Nat)) (e:Nat) (d:ar) (x O:List d.T) (v:Value),
  follow 2 e d x p=some c->putAt (A:=real) c y e d x p=some O ->
  (∀b r,b<w.heap.size->ω b=some (id,q++r) -> ¬aC p <+: r->w'.heap[b]? = w.heap[b]? /\ C b=some (id,q++r)) ->
  (∀u,(Ty.sl c.e c.cs).R w ω (.deep (id,q++aC p)) u c.x->(Ty.sl c.e c.cs).R w' C (.deep (id,q++aC p)) u y) ->
  (Ty.sl e d).R w ω (.deep (id,q)) v x->(Ty.sl e d).R w' C (.deep (id,q)) v O
 |[],q,e,d,x,O,v,B,f,P,Q,h=>by
  have B:=aG B;subst B;unfold putAt at f;simp only[l9]at f;split at f
  .have f:=aG f;subst f;have:=Q v (by grind[aC]);rw[show aC []=[]from rfl,e9]at this;exact this
  .cases f
 |(i,j)::p,q,e,d,x,O,v,B,f,P,Q,h=>by
  unfold putAt at f;simp only[follow]at B;simp only[l9]at f;cases U:cellAt (A:=real) d (real.get x i) j with
  |none=>rw[U]at B;cases B
  |some z=>
   obtain⟨t,y1⟩:=z;rw[U]at B f;cases t with
   |sl H l=>
    simp only at B f;cases Y:l9 (A:=real) (λH l _=>if h:Ty.beq (.sl c.e c.cs) (.sl H l)=true then some (real.cast h y)else none) H l y1 p with
    |none=>rw[Y]at f;cases f
    |some M=>
     rw[Y]at f;simp only at f;cases hs:setCell (A:=real) d (real.get x i) j ⟨.sl H l,M⟩with
     |none=>rw[hs]at f;cases f
     |some I=>
      rw[hs]at f;have f:=aG f;subst f;rw[dN]at P Q;obtain⟨a,n,cp,h1,h2,h3,R,h5⟩:=h;have E:List.length (real.put (e:=e) x i I)=n:=by have:List.length (real.put (e:=e) x i I)=List.length x:=gf;rw[this];exact h2
      rcases R with R|⟨b,arr,q1,q2,q3,q4⟩
      .exact⟨a,n,cp,h1,E,h3,.inl R,λi D G=>absurd G (by omega)⟩
      .have N:=P b [] (aM q2) (by grind) (by simp);rw[e9]at N;refine⟨a,n,cp,h1,E,h3,.inr ⟨b,arr,q1,N.1.trans q2,q3,N.2⟩,λk D W ha=>?_⟩;have T:D.block=b:=by grind
       have F:=h5 k D W ha;have s:∀m,w'.cell? ⟨D.block,m,none⟩=w.cell? ⟨D.block,m,none⟩:=λm=>fN (a:=⟨D.block,m,none⟩) (by simpa[T] using N.1);have other:∀g t z,cellAt (A:=real) d (List.getD x k (jk d)) g=some ⟨t,z⟩ -> ¬((i.i).toNat=k/\j=g)->∃v,w'.cell? ⟨D.block,D.off+k*d.len+(0+g),none⟩=some v/\t.R w' C (.deep (id,q++[(k,0+g)])) v z:=by
        intro g t z o L;obtain⟨u,m1,m2⟩:=(iI d _ _ 0 _).1 F g t z o;refine⟨u,(s _).trans m1,?_⟩;rw[bC]at m2⊢;refine Ty.fF t (id,q++[(k,g)]) (id,q++[(k,g)]) u z (λb' r S hk=>?_) m2
        grind
       have J:List.getD (real.put (e:=e) x i I:List d.T) k (jk d)=if k=(i.i).toNat then I else List.getD x k (jk d):=by
        by_cases K:(i.i).toNat<List.length x
        .exact lC x _ _ _ _ K
        .have Z:(real.put (e:=e) x i I:List d.T)=x:=List.set_eq_of_length_le (by grind[IV.i]);have L:¬k=(i.i).toNat:=by rw[h2]at K;omega
         rw[Z];exact(dS L).symm
       rw[J];refine(iI d _ _ 0 _).2 λg t z o=>?_;by_cases G:k=(i.i).toNat
       .rw[cj G]at o;rw[iE d _ I j _ hs g]at o;by_cases X:g=j
        .subst X;rw[cj rfl]at o;have o:=aG o;cases o;have V:cellAt (A:=real) d (List.getD x k (jk d)) g=some ⟨.sl H l,y1⟩:=by rw[G];exact U
         obtain⟨u,m1,m2⟩:=(iI d _ _ 0 _).1 F g _ _ V;refine⟨u,(s _).trans m1,?_⟩;rw[bC]at m2⊢;refine qm p (q++[(k,g)]) H l y1 M u B Y (λb' r S hk hn=>?_) (λu' AZ=>?_) m2
         .grind
         grind
        .rw[dS X]at o;have Iv:cellAt (A:=real) d (List.getD x k (jk d)) g=some ⟨t,z⟩:=by rw[G];exact o
         exact other g t z Iv (λh=>X h.2.symm)
       .rw[dS G]at o;exact other g t z o (λh=>G h.1.symm)
   |_=>cases B
def tN{c:Cont real}{y:List c.cs.T}(g:y.length=List.length c.x):∀(p:iU) (e:Nat) (b:ar) (x f:List b.T),follow 2 e b x p=some c->putAt (A:=real) c y e b x p=some f->f.length=x.length
 |[],e,b,x,f,d,a=>by
  have d:=aG d;subst d;unfold putAt at a;simp only[l9]at a;split at a
  .have a:=aG a;subst a;exact g
  .cases a
 |(i,j)::p,e,b,x,f,d,a=>by
  unfold putAt at a;simp only[l9]at a;split at a
  .split at a
   .split at a
    .have a:=aG a;subst a;exact gf
    .cases a
   .cases a
  .cases a
section
variable {R:Type}{P:Program}{E:Env}{ω:aq}{a:Act}{w:World}{s:S}{k:S->Option R}{r:R}{o:Oper}{Q:Exit->Act->World->Prop}
def Rel.BS (h:Rel H ω a w s) {c:aq} {e:World} {d:S} (f:cH ω w c e) (q:∀b j k,c b=some k->c j=some k->b=j) (hd:∀b k,c b=some k->b<e.heap.size)
  (g:d.sl=s.sl) (o:(d.ob 0).o=.gone) (tr:∀id,Tr w ω s e c d id)
  (p:∀id cells,(d.ob id).o=.blk cells->d.ob id=s.ob id/\∀b,ω b=some (id,[])->e.heap[b]? = w.heap[b]? /\ c b=some (id,[])):Rel H c a e d where
 dH:=h.dH.ext f
 inj:=q
 dom:=hd
 defers:=h.defers
 slots i:=by rw[g];exact cQ.frame f tr (h.slots i)
 dJ:=o
 c7 id cells hc:=by obtain⟨t,u⟩:=p id cells hc;rw[t]at hc;obtain⟨b,arr,T,l,m,n⟩:=h.c7 id cells hc;obtain⟨v,x⟩:=u b l;exact⟨b,arr,T,x,v.trans m,n.mono λ_ _ r=>bU.frame f tr r⟩
theorem Tr.nJ{f:S}{j:aq}{l:World}{id:Nat}(b:(f.ob id).g=(s.ob id).g)(m:(s.ob id).h<=(f.ob id).h)(d:(f.ob id).o=.gone):Tr w ω s l j f id where
 ref v g h p hr:=⟨by rw[b];exact hr.1,by
  have:=hr.2.1
  grind,λc a=>(fS d a).elim⟩
 ptr v g off hr:=⟨by rw[b];exact hr.1,λ_ cells a=>by rw[d]at a;cases a⟩
 bH v g h p i off hr:=⟨by rw[b];exact hr.1,by
  have:=hr.2.1
  grind,λc a=>(fS d a).elim⟩
 cD v g hr:=hr.shut b λk x e=>by rw[d]at e;cases e
def Tr.Bz {n:S} {o:aq} {F:World} {id e:Nat} {q:ar} {r:Bool} {x x':List q.T} (C:(s.ob id).o=.arr e q r x) (t:(n.ob id).g=(s.ob id).g) (Q:(s.ob id).h<(n.ob id).h) (f:(n.ob id).o=.arr e q r x') (R:x'.length=x.length)
  (l:∀b,ω b=some (id,[])->o b=some (id,[]))
  (D:∀v,(Ty.sl e q).R w ω (aI (bif r then 2 else 1) id []) v x->(Ty.sl e q).R F o (aI (bif r then 2 else 1) id []) v x'):Tr w ω s F o n id:=by
 have u:∀(g h:Nat) (p:iU) (c:Cont real),h<=(s.ob id).h+(if g=(s.ob id).g then 0 else h)->n.cont id g h p=some c->p=[]/\g=(s.ob id).g/\c=⟨e,q,x',bif r then 2 else 1⟩:=by
  intro g h p c d j;obtain⟨m,y⟩:=dz j;rw[t]at m;rw[cj m.symm]at d;rcases y with ⟨I,z,J,K⟩|⟨_,_,_,_,_,K,_⟩|⟨z,_,_⟩
  .rw[f]at z;refine⟨J,m.symm,?_⟩;obtain⟨ce,G,P,H⟩:=c
   grind
  .omega
  .rw[f]at z;cases z
 have d:∀g h,h<=(s.ob id).h+(if g=(s.ob id).g then 0 else h)->h<=(n.ob id).h+(if g=(n.ob id).g then 0 else h):=by
  grind
 exact
 {ref:=λv g h p a=>⟨by rw[t];exact a.1,d _ _ a.2.1,λc j=>by
   obtain⟨m,y,B⟩:=u g h p c a.2.1 j;subst m;subst B;exact D v (a.2.2 _ (bW (h:=h) C y))⟩
  ptr:=λv g A a=>⟨by rw[t];exact a.1,λ_ cells j=>by rw[f]at j;cases j⟩
  bH:=λv g h p i A a=>⟨by rw[t];exact a.1,d _ _ a.2.1,λc j T=>by
   obtain⟨m,y,B⟩:=u g h p c a.2.1 j;subst m;subst B;obtain⟨L,U,⟨b,M,O⟩,E,N⟩:=a.2.2 _ (bW (h:=h) C y) (ku r);refine⟨L,?_,⟨b,l b M,O⟩,E,D E N⟩
   grind⟩
  cD:=λv g a=>a.shut t λk x e=>by rw[f]at e;cases e }
def aq.via(c:aq)(a:Key->Option Key):aq:=λb=>(c b).bind a
theorem lJ{κ:Key->Option Key}{b:Nat}{a:Key}(h:ω.via κ b=some a):∃k,ω b=some k/\κ k=some a:=by
 unfold aq.via at h;cases c:ω b with
 |none=>rw[c]at h;cases h
 |some k=>grind
def CO{a:Key->Option Key}{b:Nat}(h:ω b=none):ω.via a b=none:=by unfold aq.via;rw[h];rfl
theorem cr{a:Key->Option Key}{b:Nat}{k:Key}(h:ω b=some k):ω.via a b=a k:=by unfold aq.via;rw[h];rfl
def qy{c:Key->Option Key}(f:∀b a k,ω b=some k->ω a=some k->b=a)(g:∀k d q,c k=some q->c d=some q->k=d)(b a:Nat)(k:Key)(h:ω.via c b=some k)(e:ω.via c a=some k):b=a:=by
 grind[lJ]
def qx{κ:Key->Option Key}(hd:∀b k,ω b=some k->b<w.heap.size)(b:Nat)(k:Key)(h:ω.via κ b=some k):b<w.heap.size:=by
 grind[lJ]
def oZ{a:Key->Option Key}(c:∀p,a (0,p)=some (0,p)){b:Nat}(h:my ω b):ω.via a b=ω b:=by
 rcases h with h|⟨q,h⟩
 .rw[h];exact CO h
 .rw[cr h,h,c]
end
end Go.R
namespace Go.R
variable {H:Nat->Value}
open Classical
section
variable {R:Type}{P:Program}{E:Env}{ω:aq}{a:Act}{w:World}{s:S}{k:S->Option R}{r:R}{o:Oper}{Q:Exit->Act->World->Prop}
def mW:∀ {ks:List K} {ls:List L} {s:S} {f:List (KV real)} {g:S},takes ks ls s=some (f,g)->f.map (·.1)=ks
 |[],[],_,_,_,h=>by injection h with h;grind
 |[],_::_,_,_,_,h=>by cases h
 |_::_,[],_,_,_,h=>by cases h
 |k::ks,l::ls,s,f,g,h=>by
  simp only[takes]at h;cases a:cI k l s with
  |none=>rw[a]at h;cases h
  |some p=>
   rw[a]at h;simp only[]at h;cases c:takes ks ls p.2 with
   |none=>rw[c]at h;cases h
   |some n=>
    rw[c]at h;injection h with h
    injection h with h _
    subst h;have j:p.1.1=k:=by
     cases k with
     |val t=>
      simp only[cI]at a;cases b:bF (A:=real) false t l s with
      |none=>rw[b]at a;cases a
      |some q=>grind
     |arr e i d=>
      simp only[cI]at a;cases b:eB (A:=real) e i d l s with
      |none=>rw[b]at a;cases a
      |some q=>grind
     |mp m=>
      simp only[cI]at a;cases b:uM (A:=real) m l s with
      |none=>rw[b]at a;cases a
      |some q=>grind
    simp[j,mW c]
def DB(a:List (Nat×Nat))(i0 off n:Nat)(p:List (Nat×Nat)):Prop:=∃k r,k<n/\p=a++(i0,off+k)::r
noncomputable def ea(m:List (Nat×Nat))(lo tid:Nat)(a:List (Nat×Nat))(i0 off n:Nat):Key->Option Key:=λk=>
 match m.find? (λq=>q.1==k.1)with
 |some q=>some (tid,a++(i0,off+(q.2-lo))::k.2)
 |none=>if k.1=tid/\DB a i0 off n k.2 then none else some k
def eP{m:List (Nat×Nat)}{i:Nat}{q:Nat×Nat}(h:m.find? (λq=>q.1==i)=some q):(i,q.2)∈m:=by
 grind
def Ag{m:List (Nat×Nat)}{i:Nat}(h:m.find? (λq=>q.1==i)=none)(j:Nat):(i,j)∉m:=by
 grind
theorem zp{o:World}{a b:aq}{l n:S}{m:List (Nat×Nat)}{k g:Nat}(f:bT o a l b n m k g){i j:Nat}(h:(i,j)∈m):m.find? (λq=>q.1==i)=some (i,j):=by
 cases c:m.find? (λq=>q.1==i)with
 |none=>grind
 |some q=>
  have e:=eP c;have d:=iA c;simp at d;have:=f.fn i j q.2 h e
  grind
def CE{w:World}{i j:aq}{u v:S}{m:List (Nat×Nat)}{lo n tid:Nat}{p:List (Nat×Nat)}{o d:Nat}(e:bT w i u j v m lo (lo+n))(k k' q:Key)(h:ea m lo tid p o d n k=some q)(a:ea m lo tid p o d n k'=some q):k=k':=by
 unfold ea at h a;cases f:m.find? (λq=>q.1==k.1)with
 |some z=>
  rw[f]at h;have h:=aG h;have m1:=eP f;have x:=e.oh _ _ m1;cases b:m.find? (λq=>q.1==k'.1)with
  |some g=>
   rw[b]at a;have a:=aG a;have m2:=eP b;have t:=e.oh _ _ m2;rw[<-a]at h;injection h with _ h
   have h:=sQ h;injection h with l r
   injection l with _ l
   have s:z.2=g.2:=by omega
   rw[<-s]at m2;have:=e.inj _ _ _ m1 m2;exact Prod.ext this r
  |none=>
   rw[b]at a;simp only at a;split at a
   .cases a
   .rename_i c;have a:=aG a;rw[a,<-h]at c;exact absurd ⟨rfl,z.2-lo,k.2,by omega,rfl⟩ c
 |none=>
  rw[f]at h;simp only at h;split at h
  .cases h
  .rename_i c;have h:=aG h;cases b:m.find? (λq=>q.1==k'.1)with
   |some g=>rw[b]at a;have a:=aG a;have t:=e.oh _ _ (eP b);rw[h,<-a]at c;exact absurd ⟨rfl,g.2-lo,k'.2,by omega,rfl⟩ c
   |none=>grind
def AC{j:World}{b c:aq}{g h:S}{m:List (Nat×Nat)}{lo hi n tid:Nat}{i:List (Nat×Nat)}{f a:Nat}(e:bT j b g c h m lo hi)(k:tid≠0)(p:List (Nat×Nat)):ea m lo tid i f a n (0,p)=some (0,p):=by
 unfold ea;cases d:m.find? (λq=>q.1==(0,p).1)with
 |some z=>exact absurd rfl (e.nz _ _ (eP d))
 |none=>grind
def yJ{k:World}{b c:aq}{f g:S}{m:List (Nat×Nat)}{lo hi n tid:Nat}{e:List (Nat×Nat)}{d a:Nat}(l:bT k b f c g m lo hi){i j:Nat}(h:(i,j)∈m)(p:List (Nat×Nat)):ea m lo tid e d a n (i,p)=some (tid,e++(d,a+(j-lo))::p):=by
 grind[ea,zp]
theorem fT{m:List (Nat×Nat)}{lo n tid:Nat}{c:List (Nat×Nat)}{b a:Nat}{k:Key}(h:∀j,(k.1,j)∉m)(d:¬(k.1=tid/\DB c b a n k.2)):ea m lo tid c b a n k=some k:=by
 grind[ea]
def Dr{x:World}{f:aq}{u v:S}{m:List (Nat×Nat)}{lo hi n tid:Nat}{h:List (Nat×Nat)}{g d:Nat}(s:0<lo)(o:bT x f u ω v m lo hi){k:World}(t:∀i j b p,(i,j)∈m->ω b=some (i,p)->k.heap[b]? = w.heap[b]?)(c:Nat)(z:c<n):
  DM w (ω.named m) k (ω.via (ea m lo tid h g d n)) (lo+c,[]) (tid,h++[(g,d+c)]):=by
 intro b r y q;rcases iG q with ⟨a,l⟩|⟨i,a,l,e⟩
 .simp only at a;omega
 .simp only[gi]at a e;refine⟨t i _ b r a e,?_⟩;rw[cr e,yJ o a];simp
def zu(a:ar)(off n:Nat){i:Nat}{k:K}(h:((a.kd.drop off).take n)[i]? = some k):(∀t,k=.val t->t.atom)/\(∀e c d,k=.arr e c d->d=true)/\∀m,k≠.mp m:=by
 grind[ym]
def qE(w:World)(g:aq)(h:World)(c:aq)(id:Nat)(q:List (Nat×Nat))(e:Nat)(d:ar)(x x':List d.T):Prop:=
 ∀(p:iU) (a:Cont real),follow (A:=real) 2 e d x' p=some a->∃f:List a.cs.T,follow (A:=real) 2 e d x p=some ⟨a.e,a.cs,f,2⟩/\f.length=List.length a.x /\
  (∀b,b<w.heap.size->g b=some (id,q++aC p)->c b=some (id,q++aC p))/\∀v,(Ty.sl a.e a.cs).R w g (.deep (id,q++aC p)) v f->(Ty.sl a.e a.cs).R h c (.deep (id,q++aC p)) v a.x
theorem qM:∀(b:ar) (j:Nat) (e:Nat) (a:ar) (y:List a.T),cellAt (A:=real) b (jk b) j=some ⟨.sl e a,y⟩->y=[]
 |.nil,_,_,_,_,h=>nomatch h
 |.cons t ts,0,e,a,y,h=>by have h:some (⟨t,kp (jk (.cons t ts))⟩:Sigma real.V)=some ⟨.sl e a,y⟩:=h;have h:=aG h;simp only[jk,kI]at h;cases h;rfl
 |.cons t ts,j+1,e,a,y,h=>by have h:cellAt (A:=real) ts (jP (jk (.cons t ts))) j=some ⟨.sl e a,y⟩:=h;simp only[jk,kK]at h;exact qM ts j e a y h
theorem zq{a:ar}{e:Nat}(x:List a.T)(i:IV)(h:List.length x<=(IV.i i).toNat):real.get (e:=e) x i=jk a:=by
 show List.getD x (IV.i i).toNat (jk a)=_
 grind
theorem wC:∀(p:iU) (e:Nat) (a:ar) (c:Cont real),follow (A:=real) 2 e a ([]:List a.T) p=some c->List.length c.x=0
 |[],_,_,_,h=>by have h:=aG h;subst h;rfl
 |(i,j)::p,e,a,c,h=>by
  simp only[follow]at h;rw[zq ([]:List a.T) i (kR _)]at h;split at h
  .rename_i d b y f;rw[qM a j d b y f]at h;exact wC p d b c h
  .cases h
theorem ww{c:Cont real}(h:c.md=2):c=⟨c.e,c.cs,c.x,2⟩:=by cases c;cases h;rfl
def tZ{w w':World}{O s:aq}{id:Nat}{c:Cont real}{y:List c.cs.T}(L:0<List.length c.x):∀(k:iU) (q:List (Nat×Nat)) (e:Nat) (l:ar) (x I:List l.T),
  follow 2 e l x k=some c->putAt (A:=real) c y e l x k=some I ->
  (∀b r,b<w.heap.size->O b=some (id,q++r) -> ¬aC k <+: r->w'.heap[b]? = w.heap[b]? /\ s b=some (id,q++r)) ->
  (∀u,(Ty.sl c.e c.cs).R w O (.deep (id,q++aC k)) u c.x->(Ty.sl c.e c.cs).R w' s (.deep (id,q++aC k)) u y) ->
  qE w O w' s id (q++aC k) c.e c.cs c.x y->qE w O w' s id q e l x I
 |[],q,e,l,x,I,m,d,_,_,P=>by
  have m:=aG m;subst m;unfold putAt at d;simp only[l9]at d;split at d
  .have d:=aG d;subst d;rw[show aC []=[]from rfl,e9]at P;exact P
  .cases d
 |(i,j)::M,q,e,l,x,I,m,d,S,H2,P=>by
  have hf0:=m;have If:=d;unfold putAt at d;simp only[follow]at m;simp only[l9]at d;cases hc:cellAt (A:=real) l (real.get x i) j with
  |none=>rw[hc]at m;cases m
  |some z=>
   obtain⟨t,y1⟩:=z;rw[hc]at m d;cases t with
   |sl J n=>
    simp only at m d;cases W:l9 (A:=real) (λJ n _=>if h:Ty.beq (.sl c.e c.cs) (.sl J n)=true then some (real.cast h y)else none) J n y1 M with
    |none=>rw[W]at d;cases d
    |some N=>
     rw[W]at d;simp only at d;cases R:setCell (A:=real) l (real.get x i) j ⟨.sl J n,N⟩with
     |none=>rw[R]at d;cases d
     |some T=>
      rw[R]at d;have d:=aG d;have U:(IV.i i).toNat<List.length x:=by
       grind[zq,qM,wC]
      intro p Q f;cases p with
      |nil=>
       have f:=aG f;subst f;refine⟨x,rfl,?_,λb F G=>?_,λv Y=>?_⟩
       .rw[<-d];exact(gf).symm
       .exact(S b [] F G (by rw[dN];simp)).2
       .rw[show aC []=[]from rfl,e9]at Y⊢
        grind[qm]
      |cons ij H=>
       obtain⟨o,g⟩:=ij;have B:real.get (e:=e) I o=if(IV.i o).toNat=(IV.i i).toNat then T else real.get (e:=e) x o:=by rw[<-d];exact lC x _ _ _ _ U
       have E:∀ {a b:IV},(IV.i a).toNat=(IV.i b).toNat->real.get (e:=e) x a=real.get (e:=e) x b:=fun {a b} h=>by show List.getD x (IV.i a).toNat _=List.getD x (IV.i b).toNat _;rw[h]
       simp only[follow]at f⊢;by_cases K:(IV.i o).toNat=(IV.i i).toNat/\g=j
       .obtain⟨C,h2⟩:=K;subst h2;rw[B,cj C,iE l _ T g _ R g,cj rfl]at f;simp only at f;have Z:q++[((IV.i i).toNat,g)]++aC M=q++aC ((i,g)::M):=by rw[dN];simp
        have e2:q++[((IV.i i).toNat,g)]++aC H=q++aC ((o,g)::H):=by rw[dN,<-C];simp
        have ih:=tZ L M (q++[((IV.i i).toNat,g)]) J n y1 N m W (λb r F G hn=>by
         have V:O b=some (id,q++((IV.i i).toNat,g)::r):=by simpa using G
         have:=S b (((IV.i i).toNat,g)::r) F V (by
          grind[dN])
         simpa using this) (by rw[Z];exact H2) (by rw[Z];exact P) H Q f
        grind
       .have D:cellAt (A:=real) l (real.get (e:=e) I o) g=cellAt (A:=real) l (real.get (e:=e) x o) g:=by
         rw[B];by_cases C:(IV.i o).toNat=(IV.i i).toNat
         .rw[cj C,iE l _ T j _ R g,dS (λh=>K ⟨C,h⟩),E C]
         .rw[dS C]
        rw[D]at f;have AY:Q.md=2:=by
         grind[fg]
        have X:∀r,¬aC ((i,j)::M) <+: aC ((o,g)::H)++r:=λr=>by
         grind[dN]
        refine⟨Q.x,?_,rfl,λb F G=>?_,λv Y=>?_⟩
        .grind[ww]
        .have:=S b _ F G (by have:=X [];rwa[e9]at this);exact this.2
        .refine Ty.fF _ (id,q++aC ((o,g)::H)) (id,q++aC ((o,g)::H)) v Q.x (λb r F G=>?_) Y
         grind
   |_=>cases m
theorem vX{s:S}{id e g h:Nat}{a:ar}{x:List a.T}{p:iU}{c:Cont real}(f:(s.ob id).o=.arr e a true x):s.cont id g h p=some c↔(s.ob id).g=g/\(p=[]\/(s.ob id).h=h)/\follow (A:=real) 2 e a x p=some c:=by
 unfold St.cont fU.cont;rw[f];cases b:Nat.beq (s.ob id).g g with
 |false=>grind[eN]
 |true=>
  have d:=bc b;cases p with
  |nil=>simp only[aJ];exact⟨λh=>⟨d,.inl trivial,h⟩,λh=>h.2.2⟩
  |cons j i=>grind[eN,Nat.eq_of_beq_eq_true]
def Tr.DZ {o:S} {d:aq} {C:World} {id e:Nat} {q:ar} {x x':List q.T} (hd:∀b k,ω b=some k->b<w.heap.size) (O:(s.ob id).o=.arr e q true x) (l:(o.ob id).g=(s.ob id).g) (D:(o.ob id).h=(s.ob id).h) (j:(o.ob id).o=.arr e q true x')
  (u:qE w ω C d id [] e q x x'):Tr w ω s C d o id:=by
 have n:∀ {g h:Nat} {p:iU} {c:Cont real},o.cont id g h p=some c->c.md=2/\∃m:List c.cs.T,s.cont id g h p=some ⟨c.e,c.cs,m,2⟩/\m.length=List.length c.x /\
   (∀b,b<w.heap.size->ω b=some (id,aC p)->d b=some (id,aC p))/\∀v,(Ty.sl c.e c.cs).R w ω (.deep (id,aC p)) v m->(Ty.sl c.e c.cs).R C d (.deep (id,aC p)) v c.x:=by
  intro g h p c f;obtain⟨L,M,G⟩:=(vX j).1 f;obtain⟨m,r,A,B,t⟩:=u p c G
  grind[fg,vX]
 exact
 {ref:=λv g h p a=>⟨by rw[l];exact a.1,by rw[l,D];exact a.2.1,λc f=>by
   obtain⟨z,m,r,A,B,t⟩:=n f;rw[z];exact t v (a.2.2 _ r)⟩
  ptr:=λv g y a=>⟨by rw[l];exact a.1,λ_ cells f=>by rw[j]at f;cases f⟩
  bH:=λv g h p i y a=>⟨by rw[l];exact a.1,by rw[l,D];exact a.2.1,λc f N=>by obtain⟨z,m,r,A,B,t⟩:=n f;obtain⟨H,I,⟨b,E,K⟩,F,J⟩:=a.2.2 _ r (by show(2:Nat)≠0;decide);rw[z];exact⟨H,by rw[<-A];exact I,⟨b,B b (hd b _ E) E,K⟩,F,t F J⟩⟩
  cD:=λv g a=>a.shut l λk x e=>by rw[j]at e;cases e }
def Rel.GR (K:Bool) {L:aq} {T:S} {m:List (Nat×Nat)} {lo n tid e:Nat} {z:ar} {x x':List z.T} {l:List (Nat×Nat)} {i0 off bt:Nat} {y:World} (h:Rel H ω a w s) (B:bT w L T ω s m lo (lo+n)) (I:(s.ob tid).o=.arr e z true x) (N:ω bt=some (tid,l)) (t:og w y bt) (O:x'.length=x.length)
  (R:∀v,(Ty.sl e z).R w ω (.deep (tid,[])) v x->(Ty.sl e z).R y (ω.via (ea m lo tid l i0 off n)) (.deep (tid,[])) v x')
  (J:K=false->qE w ω y (ω.via (ea m lo tid l i0 off n)) tid [] e z x x'):
  Rel H (ω.via (ea m lo tid l i0 off n)) a y (s.bq tid K (.arr e z true x'))/\cH ω w (ω.via (ea m lo tid l i0 off n)) y:=by
 have E:tid≠0:=h.pR (by grind);have C:∀j,(tid,j)∉m:=λj g=>by have:=B.is tid j g;rw[I]at this;cases this
 have F:cH ω w (ω.via (ea m lo tid l i0 off n)) y:=⟨t.os,t.tape,t.output,by rw[t.size];exact az _,λb f M=>by
  have q:b≠bt:=λe=>by subst e;exact M.ne N E
  exact⟨t.block b q,oZ (AC B E) M⟩⟩
 have u:∀b,ω b=some (tid,[])->ω.via (ea m lo tid l i0 off n) b=some (tid,[]):=by intro b f;rw[cr f,fT C];rintro⟨_,k,r,_,e⟩;simp at e
 have d:∀j,j≠tid->(∀c,(j,c)∉m)->∀b p,ω b=some (j,p)->y.heap[b]? = w.heap[b]? /\ ω.via (ea m lo tid l i0 off n) b=some (j,p):=by
  intro j G g b p f;have q:b≠bt:=λe=>by grind
  exact⟨t.block b q,by grind[cr,fT]⟩
 refine⟨h.BS F (qy h.inj (CE B)) (λb k D=>by rw[t.size];exact qx h.dom b k D) rfl ?_ (λj=>?_) (λj cells A=>?_),F⟩
 .rw[St.aO _ _ _ (dG E)];exact h.dJ
 .by_cases i:j=tid
  .subst i;cases K with
   |true=>exact Tr.Bz I (by rw[St.ay]) (by grind[St.ay]) (by rw[St.ay]) O u R
   |false=>exact Tr.DZ h.dom I (by rw[St.ay]) (by rw[St.ay];rfl) (by rw[St.ay]) (J rfl)
  .by_cases g:∃c,(j,c)∈m
   .obtain⟨c,g⟩:=g;exact Tr.nJ (by rw[St.aO _ _ _ i]) (by grind[St.aO]) (by rw[St.aO _ _ _ i];exact B.is j c g)
   .have o:∀c,(j,c)∉m:=λc A=>g ⟨c,A⟩;refine gx.tr ⟨St.aO _ _ _ i,λb Q f D G=>?_⟩ F h.dom;obtain⟨P,p⟩:=Q;simp only at G;subst G;rw[D];exact d P i o b p D
 .have i:j≠tid:=λe=>by grind[St.ay]
  rw[St.aO _ _ _ i]at A⊢;have o:∀c,(j,c)∉m:=λc g=>by have:=B.is j c g;rw[this]at A;cases A
  exact⟨rfl,λb f=>d j i o b [] f⟩
theorem AL (h:Rel H ω a w s) {t:Nat} {I:TypeInfo} (hI:P.info? t=some I) {p v:Value} {ls:List L} {s1:S} {id g hh e:Nat} {V:ar} {x:List V.T} {d:iU} {i:IV} {off:Nat} (hp:bU w ω s p (.bH id g hh d i off)) (hg:(s.ob id).g=g) (yX:(s.ob id).o=.arr e V true x)
  (hv:aH (bU w ω s) v.cells.toList ls) (h1:∀u∈v.cells.toList,u.oneCell'=true) (hsz:ls.length=I.size)
  (y:kw s id hh e V x d i off ls=some s1):∃cu C,(Instr.storeAt t p v).run P w=.ok () C/\Rel H cu a C s1/\cH ω w cu C:=by
 have hcl:v.cells.size=ls.length:=by rw[<-hv.length];simp
 have hvl:v.cells.toList.length=ls.length:=hv.length;unfold kw at y;cases hb:(d.isEmpty||Nat.beq (s.ob id).h hh)with
 |false=>rw[hb]at y;cases y
 |true=>
  rw[hb]at y;simp only[aJ]at y;cases hf:follow (A:=real) 2 e V x d with
  |none=>rw[hf]at y;cases y
  |some c=>
   rw[hf]at y;simp only at y;cases ht:takes ((c.cs.kd.drop off).take ls.length) ls s with
   |none=>rw[ht]at y;cases y
   |some q=>
    obtain⟨vs,s2⟩:=q;rw[ht]at y;simp only at y;cases hr:setRow (A:=real) c.cs (real.get c.x i) off vs with
    |none=>rw[hr]at y;cases y
    |some el=>
     rw[hr]at y;simp only at y;cases hx:putAt (A:=real) c (real.put c.x i el) e V x d with
     |none=>rw[hx]at y;cases y
     |some x'=>
      rw[hx]at y;simp only at y;have AY:c.md=2:=fg 2 d e V x c hf;have Fe:=ez ht;have Eh:s2.ob id=s.ob id:=by
       rcases Fe id with q1|⟨_,_,q3,_⟩
       .exact q1
       grind
      rw[Eh,yX]at y;simp only at y;have y:=aG y;subst y;obtain⟨f,m,p1,g1,t1,_,r1⟩:=gq ((c.cs.kd.drop off).take ls.length) ls v.cells.toList ω s vs s2 1 h hv ht;have E6:s.cont id g hh d=some c:=by
       unfold St.cont fU.cont;rw[hg,eN,yX];cases d with
       |nil=>simp only[aJ];exact hf
       |cons st pt=>grind
      have Ed:s2.cont id g hh d=some c:=by grind[St.cont]
      have hp2:=(p1.tr id).bH p g hh d i off hp;obtain⟨q1,q2,⟨bt,q3,q4⟩,v',q5⟩:=hp2.2.2 c Ed (by rw[AY];decide);have hi:(IV.i i).toNat<List.length c.x:=by omega
      rw[AY]at q5;have q5:(Ty.sl c.e c.cs).R w f (.deep (id,aC d)) v' c.x:=q5;obtain⟨ad,nn,cp,d1,d2,d3,d4,d5⟩:=q5;rcases d4 with d4|⟨b',arr,d6,d7,d8,d9⟩
      .omega
      obtain rfl:=p1.rel.inj _ _ _ q3 d9;have Ef:((c.cs.kd.drop off).take ls.length).length=ls.length:=by have B:=mW ht;rw[<-B,vh];have:=r1 f s2 (f.named m) (di.refl _ _) (fA g1);rw[this.length,hvl]
      have J:ls=[]\/off+ls.length<=c.cs.len:=by
       rw[jS,List.length_drop,B2]at Ef;by_cases he:ls=[]
       .exact .inl he
       .have:ls.length≠0:=λe=>he (cK.1 e);exact .inr (by omega)
      have hbase:(IV.i i).toNat*c.cs.len+c.cs.len<=arr.size:=by
       rw[d8];have:((IV.i i).toNat+1)*c.cs.len<=cp*c.cs.len:=dB _ (by omega)
       grind
      have Ei:∃C k,(Instr.storeAt t p v).run P w=.ok () C/\og w C bt/\C.heap[bt]? = some (.cells k c.e (0,0))/\k.size=arr.size /\
        ∀mm,k[mm]? = if(IV.i i).toNat*c.cs.len+off<=mm/\mm<(IV.i i).toNat*c.cs.len+off+v.cells.toList.length then v.cells.toList[mm-((IV.i i).toNat*c.cs.len+off)]? else arr[mm]?:=by
       by_cases E8:ls=[]
       .subst E8;have FK:v.cells.toList=[]:=cK.1 hvl;refine⟨w,arr,?_,og.refl w bt,d7,rfl,λmm=>?_⟩
        .have Gw:v.cells.size=I.size:=by omega
         rw[q4];simp[Instr.storeAt,Instr.sureAddr,storeVar,sizeOf,typeInfo,hI,Gw,FK,storeCells]
        grind
       .have G7:=J.resolve_left E8;have X:(IV.i i).toNat*c.cs.len+off+v.cells.toList.length<=arr.size:=by omega
        obtain⟨k,z1,z2⟩:=dQ bt c.e (0,0) v.cells.toList ((IV.i i).toNat*c.cs.len+off) w arr d7 X;have N:=j4 (P:=P) hI d7 (v:=v) (off:=(IV.i i).toNat*c.cs.len+off) (by omega) (by simpa using X) h1;rw[<-q4]at N;have hal:arr.toList.length=arr.size:=gv;refine⟨_,k,N,dL bt _ _ w,z1,?_,λmm=>?_⟩
        .rw[<-gv (xs:=k),z2]
         grind
        .have htl:(arr.toList.take ((IV.i i).toNat*c.cs.len+off)).length=(IV.i i).toNat*c.cs.len+off:=by rw[jS];omega
         rw[<-fL,z2];split
         .rename_i hm;rw[je,iM (by rw[htl];omega),htl,pW (by omega)]
         .rename_i hm;by_cases hlt:mm<(IV.i i).toNat*c.cs.len+off
          .grind
          .rw[iM (by grind),jv,htl,pX,fL];congr 1;omega
      obtain⟨C,k,N,E,EF,Bb,M⟩:=Ei;have C1:(s2.ob id).o=.arr e V true x:=by rw[Eh];exact yX
      have F:∀j,(id,j)∉m:=λj hm=>by have:=g1.is id j hm;rw[C1]at this;cases this
      have h0:id≠0:=h.pR (by grind);have DH:vs.length=ls.length:=by
       grind
      have Fy:bT w ω s f s2 m 1 (1+ls.length):=by rwa[Ef]at g1
      have Z:∀b r,f b=some (id,r) -> ¬aC d <+: r->C.heap[b]? = w.heap[b]? /\ f.via (ea m 1 id (aC d) (IV.i i).toNat off ls.length) b=some (id,r):=by
       intro b r hb' hn;have hne:b≠bt:=λe=>by
        grind
       refine⟨E.block b hne,?_⟩;rw[cr hb',fT F];rintro⟨_,kk,rr,_,er⟩
       grind
      have FH:=r1 f s2 (f.named m) (di.refl _ _) (fA g1);have GA:List.length (real.put c.x i el)=List.length c.x:=gf;have o:∀u,(Ty.sl c.e c.cs).R w f (.deep (id,aC d)) u c.x->(Ty.sl c.e c.cs).R C (f.via (ea m 1 id (aC d) (IV.i i).toNat off ls.length)) (.deep (id,aC d)) u (real.put c.x i el):=by
       intro u hu;obtain⟨FY,n',F3,f1,f2,f3,f4,f5⟩:=hu;rcases f4 with f4|⟨b2,FZ,f6,f7,f8,f9⟩
       .omega
       obtain rfl:=p1.rel.inj _ _ _ q3 f9;rw[d7]at f7;injection f7 with f7
       injection f7 with f7
       subst f7;have hkb:f.via (ea m 1 id (aC d) (IV.i i).toNat off ls.length) bt=some (id,aC d):=by rw[cr q3,fT F];rintro⟨_,kk,rr,_,er⟩;have:=fK List.length er;simp at this
       refine⟨FY,n',F3,f1,GA.trans f2,f3,.inr ⟨bt,k,f6,EF,by rw[Bb];exact f8,hkb⟩,λn A hi' hA=>?_⟩;have hrow:=f5 n A hi' hA;rw[f6]at hA;injection hA with hA
       subst hA;simp only[bC]at hrow⊢;have Fb:List.getD (real.put c.x i el:List c.cs.T) n (jk c.cs)=if n=(IV.i i).toNat then el else List.getD c.x n (jk c.cs):=lC c.x _ _ _ _ hi
       rw[Fb];refine(iI c.cs _ _ 0 _).2 λj t z l=>?_;rw[bC];have I0:=mH _ _ _ _ l;have old:cellAt (A:=real) c.cs (List.getD c.x n (jk c.cs)) j=some ⟨t,z⟩ -> ¬(n=(IV.i i).toNat/\off<=j/\j<off+ls.length)->∃v,C.cell? ⟨bt,n*c.cs.len+j,none⟩=some v/\t.R C (f.via (ea m 1 id (aC d) (IV.i i).toNat off ls.length)) (.deep (id,aC d++[(n,j)])) v z:=by
        intro l hne;obtain⟨u,m1,m2⟩:=(iI c.cs _ _ 0 _).1 hrow j t z l;simp only[bC]at m1 m2;refine⟨u,?_,Ty.fF t _ (id,aC d++[(n,j)]) u z (λb rr hb' B=>?_) m2⟩
        .rw[cell_of_row w bt _ arr c.e (0,0) d7]at m1;rw[cell_of_row C bt _ k c.e (0,0) EF,M,dS,m1];rw[hvl];rintro⟨z1,z2⟩;apply hne;have HU:n=(IV.i i).toNat:=by
          rcases Nat.lt_trichotomy n (IV.i i).toNat with hlt|heq|hgt
          .have:(n+1)*c.cs.len<=(IV.i i).toNat*c.cs.len:=dB _ hlt
           grind
          .exact heq
          .have:((IV.i i).toNat+1)*c.cs.len<=n*c.cs.len:=dB _ hgt;rw[vO]at this;rcases J with J|J
           .grind
           .omega
         subst HU
         grind
        .have G:f b=some (id,aC d++(n,j)::rr):=by simpa using B
         have Eg:b≠bt:=λe=>by
          subst e;rw[q3]at G;injection G with G
          injection G with _ G
          have:=fK List.length G;simp at this
         refine⟨E.block b Eg,?_⟩;rw[cr G,fT F]
         .simp
         .rintro⟨_,kk,r2,e1,Q⟩;have Q:=sQ Q
          grind
       by_cases R:n=(IV.i i).toNat
       .rw[cj R]at l;rw[mI vs c.cs _ el off hr j,DH]at l;by_cases Y:off<=j/\j<off+ls.length
        .rw[cj Y]at l;cases T:vs[j-off]? with
         |none=>rw[T]at l;cases l
         |some vv=>
          rw[T]at l;have l:=aG l;obtain⟨u,u1,u2⟩:=qC FH _ _ T;have hkk:((c.cs.kd.drop off).take ls.length)[j-off]? = some vv.1:=by grind
          obtain⟨z1,z2⟩:=zu c.cs off ls.length hkk;have Gc:DM w (f.named m) C (f.via (ea m 1 id (aC d) (IV.i i).toNat off ls.length)) (1+(j-off),[]) (id,aC d++[((IV.i i).toNat,off+(j-off))]):=by
           refine Dr (by omega) Fy (λii jj b pp hm B=>E.block b λe=>?_) _ (by omega)
           grind
          have W:=vC z1 z2 Gc u2;rw[l]at W;rw[show off+(j-off)=j by omega]at W;refine⟨u,?_,by rw[R];exact W⟩;rw[cell_of_row C bt _ k c.e (0,0) EF,M,R,cj (by rw[hvl];omega),<-u1];congr 1;omega
        .rw[dS Y]at l;exact old (by rw[R];exact l) (λhq=>Y hq.2)
       .rw[dS R]at l;exact old l (λhq=>R hq.1)
      have hst:(((c.cs.kd.drop off).take ls.length).any K.iR)=false->qE w f C (f.via (ea m 1 id (aC d) (IV.i i).toNat off ls.length)) id [] e V x x':=by
       intro FG;refine tZ (by omega) d [] e V x x' hf hx (λb r _ B hn=>Z b r B hn) (λu hu=>o u hu) ?_;rw[gi];intro p' c' D;cases p' with
       |nil=>
        have D:=aG D;subst D;refine⟨c.x,by rw[<-AY];rfl,GA.symm,λb hb B=>?_,λu hu=>?_⟩
        .rw[show aC []=[]from rfl,e9]at B⊢;rw[cr B,fT F];rintro⟨_,kk,rr,_,er⟩;have:=fK List.length er;simp at this
        .rw[show aC []=[]from rfl,e9]at hu⊢;exact o u hu
       |cons ij p2=>
        obtain⟨n,U⟩:=ij;simp only[follow]at D;have M:real.get (e:=c.e) (real.put (e:=c.e) c.x i el) n=if(IV.i n).toNat=(IV.i i).toNat then el else real.get (e:=c.e) c.x n:=lC c.x _ _ _ _ hi
        have hsame:(IV.i n).toNat=(IV.i i).toNat->real.get (e:=c.e) c.x n=real.get (e:=c.e) c.x i:=λh=>by show List.getD c.x (IV.i n).toNat _=List.getD c.x (IV.i i).toNat _;rw[h]
        have Gm:∀Q O y2,cellAt (A:=real) c.cs (real.get (e:=c.e) (real.put (e:=c.e) c.x i el) n) U=some ⟨.sl Q O,y2⟩ -> ¬((IV.i n).toNat=(IV.i i).toNat/\off<=U/\U<off+ls.length)/\cellAt (A:=real) c.cs (real.get (e:=c.e) c.x n) U=some ⟨.sl Q O,y2⟩:=by
         intro Q O y2 l;rw[M]at l;by_cases h1:(IV.i n).toNat=(IV.i i).toNat
         .rw[cj h1,mI vs c.cs _ el off hr U,DH]at l;by_cases Y:off<=U/\U<off+ls.length
          .exfalso;rw[cj Y]at l;cases T:vs[U-off]? with
           |none=>rw[T]at l;cases l
           |some vv=>
            rw[T]at l;have l:=aG l;have hkk:((c.cs.kd.drop off).take ls.length)[U-off]? = some vv.1:=by grind
            obtain⟨z1,_,z3⟩:=zu c.cs off ls.length hkk;have Hh:vv.1.iR=false:=by
             grind
            obtain⟨kk,xx⟩:=vv;cases kk with
            |val t=>
             have l:(⟨t,xx⟩:Sigma real.V)=⟨.sl Q O,y2⟩:=l;injection l with l _
             exact(z1 t rfl).1 _ _ l
            |arr _ _ _=>cases Hh
            |mp kk=>exact z3 kk rfl
          grind
         grind
        split at D
        .rename_i Q O y2 l;obtain⟨z1,z2⟩:=Gm Q O y2 l;have Gj:c'.md=2:=fg 2 _ _ _ _ _ D;have hU:∀b r,f b=some (id,aC d++(aC ((n,U)::p2)++r))->C.heap[b]? = w.heap[b]? /\ f.via (ea m 1 id (aC d) (IV.i i).toNat off ls.length) b=some (id,aC d++(aC ((n,U)::p2)++r)):=by
          intro b r B;have Eg:b≠bt:=λe=>by
           subst e;rw[q3]at B;injection B with B
           injection B with _ B
           have:=fK List.length B;rw[dN]at this;simp at this
          refine⟨E.block b Eg,?_⟩;rw[cr B,fT F];rintro⟨_,kk,r2,e1,Q⟩;simp only[dN,gV]at Q;have Q:=sQ Q
          grind
         refine⟨c'.x,?_,rfl,λb hb B=>?_,λu hu=>?_⟩
         .simp only[follow];rw[z2];exact D.trans (fK some (ww Gj))
         .have:=hU b [] (by grind)
          grind
         .refine Ty.fF _ (id,aC d++aC ((n,U)::p2)) (id,aC d++aC ((n,U)::p2)) u c'.x (λb r hb B=>?_) hu
          grind
        .cases D
      obtain⟨hR,hX⟩:=p1.rel.GR (((c.cs.kd.drop off).take ls.length).any K.iR) Fy C1 q3 E (x':=x') (tN GA d e V x x' hf hx) (i0:=(IV.i i).toNat) (off:=off) (λu hu=>by refine qm d [] e V x x' u hf hx (λb rr _ B hn=>Z b rr B hn) (λu' AZ=>o u' AZ) hu) hst;exact⟨_,C,N,hR,p1.ext.trans hX⟩
def AO (h:Rel H ω a w s) {t:Nat} {I:TypeInfo} (J:P.info? t=some I) {p v:Value} {l:L} {ls:List L} {N:S} (M:bU w ω s p l) (n:aH (bU w ω s) v.cells.toList ls) (G:∀u∈v.cells.toList,u.oneCell'=true) (B:ls.length=I.size)
  (c:iv s l ls=some N):∃m D,(Instr.storeAt t p v).run P w=.ok () D/\Rel H m a D N/\cH ω w m D:=by
 have V:v.cells.size=ls.length:=by rw[<-n.length];simp
 cases l with
 |ptr id g f=>
  simp only[iv]at c;cases y:dm s id g with
  |none=>rw[y]at c;cases c
  |some cells=>
   rw[y]at c;simp only at c;split at c
   .rename_i W;injection c with c
    subst c;obtain⟨O,o⟩:=cM y;obtain⟨b,q,Q⟩:=M.2 O cells o;obtain⟨Z,arr,T,R,F,r⟩:=h.c7 id cells o;obtain rfl:=h.inj _ _ _ q R;subst Q;have K:=r.length;have U:arr.toList.length=arr.size:=gv;have j:f+v.cells.size<=arr.size:=by omega
    have k:f+v.cells.toList.length<=arr.size:=by simpa using j
    obtain⟨E,X,Y⟩:=dQ b T (0,0) v.cells.toList f w arr F k;refine⟨ω,w.setCells b f v.cells.toList,j4 J F (by omega) j G,?_,dc (h.pR (by grind)) q (dL b _ _ w)⟩;refine h.AP q o (dL b _ _ w) X ?_;rw[Y];have:v.cells.toList.length=ls.length:=n.length;rw[this];exact((r.take f).iP n).iP (r.drop _)
   .cases c
 |bH id g hh C i f=>
  simp only[iv]at c;cases z:Nat.beq (s.ob id).g g with
  |false=>rw[z]at c;cases c
  |true=>
   rw[z]at c;simp only[aJ]at c;have A:=bc z;cases d:(s.ob id).o with
   |arr e cs deep x=>
    rw[d]at c;simp only at c;cases deep with
    |true=>grind[AL]
    |false=>
     cases C with
     |nil=>
      refine AM h J M n G B A d ?_
      grind
     |cons _ _=>cases c
   |bQ _ _ _=>rw[d]at c;cases c
   |blk _=>rw[d]at c;cases c
   |gone=>rw[d]at c;cases c
   |mp _ _=>rw[d]at c;cases c
 |_=>cases c
theorem yS (A:bD P E) {t:Nat} {p v:Operand} (q:o.op=.store t p v) (h:Rel H ω a w s) (hd:∀d,o.dst=some d->d<a.tmps.size) {J:bA->Option (Callee real (Option R))}
  (j:aL E (av R) J o s k=some r):o.wp P a w (Ends H ω a w o.dst k r) Q:=by
 have u:=bE h E 0 p;have G:=bE h E t v;unfold aL at j;simp only[q]at j;obtain⟨i,x,m⟩:=ah j;obtain⟨I,d,ok⟩:=A.ti _ _ x;obtain⟨ls,y,b⟩:=ah m;obtain⟨D,e,_⟩:=jy G y;cases g:Nat.beq ls.length i.cs.len with
 |false=>rw[g]at b;cases b
 |true=>
  rw[g]at b;simp only[aJ]at b;have F:=bc g;cases c:ev E s 0 p with
  |one l=>rw[c]at b u;obtain⟨L,z,n⟩:=ah b;obtain⟨K,M,f,B,C⟩:=AO h ok.info u D e (by rw[F,ok.size]) z;exact xn (yf q f) (qT B C hd n)
  |agg _=>rw[c]at b;cases b
  |ol _=>rw[c]at b;cases b
  |pQ _ _=>rw[c]at b;cases b
noncomputable def aq.gU(a:aq)(κ:Key->Option Key)(d b0:Nat):aq:=λb=>if b=b0 then some (d,[])else(a b).bind κ
theorem kO{a:Key->Option Key}{d b0 b:Nat}{k:Key}(c:b≠b0)(h:ω b=some k):ω.gU a d b0 b=a k:=by grind[aq.gU]
theorem Rel.gU (h:Rel H ω a w s) {κ:Key->Option Key} {d b0:Nat} {w':World} {src:Nat->Prop} {ob:Ob real} (N:∀c,ob≠.blk c) (u:d≠0) (B:¬src 0) (P:∀k D q,κ k=some q->κ D=some q->k=D)
  (E:∀k p,κ k=some (d,p)->p≠[]) (Q:∀i p,¬src i->i≠d->κ (i,p)=some (i,p)) (W:∀i,src i->(s.ob i).o=.gone)
  (A:w'.os=w.os/\w'.tape=w.tape/\w'.output=w.output/\w.drawn<=w'.drawn) (F:w.heap.size<=w'.heap.size) (R:∀b,b≠b0->b<w.heap.size->w'.heap[b]? = w.heap[b]?) (t:b0<w'.heap.size)
  (K:b0<w.heap.size->∃k,ω b0=some k/\src k.1):Rel H (ω.gU κ d b0) a w' (s.new d ob)/\cH ω w (ω.gU κ d b0) w':=by
 have X:∀p,κ (0,p)=some (0,p):=λp=>Q 0 p B (dG u);have y:∀b,b<w.heap.size->my ω b->b≠b0:=by intro b g m e;subst e;obtain⟨k,z,n⟩:=K g;refine m.ne (id:=k.1) (q:=k.2) z λe=>?_;rw[e]at n;exact B n
 have v:cH ω w (ω.gU κ d b0) w':=⟨A.1,A.2.1,A.2.2,F,λb g m=>by
  have x:=y b g m;refine⟨R b x g,?_⟩;rcases m with m|⟨q,m⟩
  .grind[aq.gU]
  grind[kO]⟩
 have r:∀j,j≠d -> ¬src j->∀b p,ω b=some (j,p)->w'.heap[b]? = w.heap[b]? /\ ω.gU κ d b0 b=some (j,p):=by
  intro j M V b p C;have g:=h.dom b _ C
  grind[kO]
 refine⟨h.BS v (λb G k f l=>?_) (λb k f=>?_) rfl ?_ (λj=>?_) (λj cells T=>?_),v⟩
 .unfold aq.gU at f l;split at f <;> split at l
  .rename_i I J;rw[I,J]
  .injection f with f
   subst f;obtain⟨O,z,n⟩:=lJ (ω:=ω) (κ:=κ) l;exact absurd rfl (E _ _ n)
  .injection l with l
   subst l;obtain⟨O,z,n⟩:=lJ (ω:=ω) (κ:=κ) f;exact absurd rfl (E _ _ n)
  .exact qy h.inj P b G k f l
 .unfold aq.gU at f;split at f
  .rename_i e;rw[e];exact t
  .exact c6 (qx (w:=w) (κ:=κ) h.dom b k f) F
 .have:(s.new d ob).ob 0=s.ob 0:=by grind[St.new,St.aU]
  rw[this];exact h.dJ
 .by_cases S:j=d
  .grind[dj.tr,dj,St.new,St.aB]
  .have o:(s.new d ob).ob j=s.ob j:=by grind[St.new,St.aU]
   by_cases U:src j
   .grind[Tr.nJ]
   .refine gx.tr ⟨o,λb Y L C M=>?_⟩ v h.dom
    grind
 grind[St.new,St.aB,St.aU]
def kY (D:bD P E) {t n e:Nat} {c:ar} {parts:Array (Nat×Operand)} (C:E.nx t=some (e,c)) (x:parts.toList.length=n) (A:iL 0 (parts.toList.map (·.1))=true) (J:n*c.len<=16777216)
  (M:∀q∈parts.toList.map (·.2),(a.eval q).cells.toList.length=c.len):
  ∃b,(Instr.buildSlice t n (parts.map λ(i,q)=>(i,a.eval q))).run P w=.ok (.slice (some ⟨w.heap.size,0,none⟩) n n) (w.alloc (.cells b e))/\b.size=n*c.len /\
   ∀i q,(parts.toList.map (·.2))[i]? = some q->∀j,j<c.len->b[i*c.len+j]? = (a.eval q).cells.toList[j]?:=by
 obtain⟨y,j,I,d,N,r,ok⟩:=gQ D C;obtain⟨z,K,L⟩:=ok.zero;have g:I.size=c.len:=by rw[ok.size,r]
 have f:(parts.map λ(i,q)=>(i,a.eval q)).toList.map (·.1)=parts.toList.map (·.1):=by simp[Function.comp_def]
 have H:(parts.map λ(i,q)=>(i,a.eval q)).toList.length=n:=by simpa using x
 obtain⟨b,B,u⟩:=qX c.len #[] (parts.map λ(i,q)=>(i,a.eval q)).toList 0 [] (madeCells z.cells (n*c.len)) (by rw[f];exact A) (λp O=>by
   grind[Array.toList_map]) (by simp) (by grind[size_madeCells]) (by simp)
 have h:(parts.map λ(i,q)=>(i,a.eval q)).toList.map (λp=>p.2.cells.toList)=(parts.toList.map (·.2)).map λq=>(a.eval q).cells.toList:=by simp[Function.comp_def]
 rw[gi,h]at u;have k:b.size=n*c.len:=by
  rw[<-gv,u,pA c.len _ (λl G=>by
   grind)]
  simp[<-x]
 refine⟨b,?_,k,λi q Q j s=>?_⟩
 .by_cases v:n*c.len=0
  .have o:n*I.size=0:=by rw[g];exact v
   have m:Instr.fill (λi=>some (i*I.size,I.size)) #[] (parts.map λ(i,q)=>(i,a.eval q)).toList=some b:=by
    grind[size_madeCells]
   exact pS w t e n _ b I y ok.info o m
  .exact run_buildSlice w t e n _ b I z y ok.info K (by rw[g];omega) (by rw[g];exact v) (by rw[g];exact B)
 .have F:=flat_get c.len ((parts.toList.map (·.2)).map λq=>(a.eval q).cells.toList) (λl G=>by
   grind) i j ((a.eval q).cells.toList) (by grind) s
  grind
def rA(h:Rel H ω a w s){n:Nat}:∀(c:List Operand) (lss:List (List L)),fD E s n c=some lss->lss.length=c.length/\(∀q∈c,(a.eval q).cells.toList.length=n)/\aH (bU w ω s) (c.map λq=>(a.eval q).cells.toList).flatten lss.flatten/\lss.flatten.length=c.length*n
 |[],lss,b=>by have b:=aG b;subst b;exact⟨rfl,by simp,trivial,by simp⟩
 |q::c,lss,b=>by
  simp only[fD]at b;cases d:cells? s (ev E s 0 q)with
  |none=>rw[d]at b;cases b
  |some ls=>
   cases g:fD E s n c with
   |none=>rw[d,g]at b;cases b
   |some r=>
    rw[d,g]at b;simp only at b;cases e:Nat.beq ls.length n with
    |false=>rw[e]at b;cases b
    |true=>
     rw[e]at b;have b:=aG b;subst b;have f:=bc e;obtain⟨j,_,_⟩:=jy (bE h E 0 q) d;obtain⟨l,p,m,t⟩:=rA h c r g;have i:(a.eval q).cells.toList.length=n:=by rw[j.length,f]
     refine⟨by simp[l],λo k=>?_,?_,?_⟩
     .grind
     .simp only[cR,iV];exact j.iP m
     grind
def zy{e:Nat}{b:ar}:∀(n:Nat) (g:List (KV real)) (d x:List b.T),Dk (A:=real) e b n g d=some x->∃a:List b.T,x=d++a/\a.length=n/\∀i c,a[i]? = some c->qj (A:=real) b ((g.drop (i*b.len)).take b.len)=some c
 |0,[],d,x,h=>by have h:=aG h;subst h;exact⟨[],by simp,rfl,λi c f=>by cases f⟩
 |0,_::_,_,_,h=>by cases h
 |n+1,g,d,x,h=>by
  simp only[Dk]at h;cases hd:qj (A:=real) b (g.take b.len)with
  |none=>rw[hd]at h;cases h
  |some c=>
   rw[hd]at h;obtain⟨a,k,l,m⟩:=zy n (g.drop b.len) (List.append (α:=b.T) d [c]) x h;refine⟨c::a,by rw[k];exact je d [c] a,fK Nat.succ l,λi j f=>?_⟩;cases i with
   |zero=>
    have f:=aG f
    grind
   |succ i=>
    have:=m i j f
    grind[List.drop_drop]
noncomputable def Al(m:List (Nat×Nat))(len d:Nat):Key->Option Key:=λk=>
 match m.find? (λq=>q.1==k.1)with
 |some q=>some (d,((q.2-1) / len,(q.2-1) % len)::k.2)
 |none=>if k.1=d then none else some k
def Em(n:Nat)(a:ar){lss:List (List L)}(p:lss.length=n)(i:Nat)(k:K)(h:(lss.map λ_=>a.kd).flatten[i]? = some k):(∀t,k=.val t->t.atom)/\(∀e c d,k=.arr e c d->d=true)/\∀m,k≠.mp m:=by have o:=pZ h;obtain⟨l,b,f⟩:=List.mem_flatten.1 o;obtain⟨_,_,rfl⟩:=fa.1 b;obtain⟨j,g⟩:=List.mem_iff_getElem?.1 f;exact ym a j k g
theorem pT (hE:bD P E) {t n:Nat} {parts:Array (Nat×Operand)} (ho:o.op=.buildSlice t n parts) (h:Rel H ω a w s) (hd:∀d,o.dst=some d->d<a.tmps.size) {Φ:bA->Option (Callee real (Option R))}
  (g:aL E (av R) Φ o s k=some r):o.wp P a w (Ends H ω a w o.dst k r) Q:=by
 unfold aL at g;simp only[ho]at g;obtain⟨⟨e,cs⟩,h1,g⟩:=ah g;cases J:(Nat.beq parts.toList.length n&&iL 0 (parts.toList.map (·.1))&&decide (n*cs.len<=16777216))with
 |false=>simp only[J]at g;cases g
 |true=>
  simp only[J,aJ]at g;rw[aQ,aQ]at J;obtain⟨⟨b1,b2⟩,b3⟩:=J;have hn:=bc b1;have DV:=bR b3;have fin:∀ {f:Array Value},(Instr.buildSlice t n (parts.map λ(i,q)=>(i,a.eval q))).run P w=.ok (.slice (some ⟨w.heap.size,0,none⟩) n n) (w.alloc (.cells f e))->Ends H ω a w o.dst k r (a.put o.dst (.slice (some ⟨w.heap.size,0,none⟩) n n)) (w.alloc (.cells f e))->o.wp P a w (Ends H ω a w o.dst k r) Q:=by intro f B S;refine eY (v:=.slice (some ⟨w.heap.size,0,none⟩) n n) (w':=w.alloc (.cells f e)) ?_ S;simp_all[execOp]
  cases Y:E.deep (o.dst.getD 0)with
  |false=>
   rw[Y]at g;simp only[cz]at g;obtain⟨⟨x,s2⟩,h2,g⟩:=ah g;obtain⟨CX,p2,O,e1,e2,e3,e4⟩:=tF (parts.toList.map (·.2)) ([]:List cs.T) ω s x s2 h (Passes.refl h) h2;have hx:x=O:=by rw[e1];rfl
   subst hx;have L:List.length x=n:=by
    grind
   obtain⟨f,B,C,hfl⟩:=kY (w:=w) hE h1 hn b2 DV e3;refine fin B ?_;have hnew:=uP (o:=o) (r:=r) (k:=k) (ω:=ω) (w:=w) (dp:=false) (id:=aD (o.dst.getD 0) 0 0) (e:=e) (cs:=cs) (x:=x) (arr:=f) (c:=n) p2.rel p2.ext hd (da _ _ _) (by rw[L];exact az _) C (λi U=>by
    obtain⟨q,hq⟩:=jB (l:=parts.toList.map (·.2)) (i:=i) (by rw[<-e2];exact U);obtain⟨el,D⟩:=jB U;rw[getD_some D];have hrow:=e4 i el q D hq;have X:=eF.alloc w (.cells f e);have hfr:=ar.bZ X.size cs (λ_=>.bQ) _ _ 0 _ (λ_=>(dW (ω:=CX) (id:=aD (o.dst.getD 0) 0 0) (da _ _ _) X (az _)).keeps) (λ_=>rfl) hrow;refine ar.fq cs _ _ _ 0 _ (λj hj'=>?_) hfr
    grind) g
   grind
  |true=>
   rw[Y]at g;simp only[aJ]at g;obtain⟨lss,h2,g⟩:=ah g;obtain⟨⟨vs,s2⟩,h3,g⟩:=ah g;obtain⟨x,h4,g⟩:=ah g;obtain⟨l1,l2,l3,l4⟩:=rA h _ _ h2;obtain⟨O,e1,e2,e3⟩:=zy n vs [] x h4;have hx:x=O:=by rw[e1];rfl
   subst hx;obtain⟨f,B,C,hfl⟩:=kY (w:=w) hE h1 hn b2 DV l2;refine fin B ?_;obtain⟨I,m,p1,W,t1,_,r1⟩:=gq _ _ _ ω s vs s2 1 h l3 h3;have FH:=r1 I s2 (I.named m) (di.refl _ _) (fA W);have V:(parts.toList.map (·.2)).length=n:=by rw[vh,hn]
   have hvl:vs.length=n*cs.len:=by rw[FH.length,l3.length,l4,V]
   have hks:((lss.map λ_=>cs.kd).flatten).length=n*cs.len:=by grind
   have Fy:bT w ω s I s2 m 1 (1+n*cs.len):=by rwa[hks]at W
   have h0:=da (o.dst.getD 0) 0 0;generalize G6:aD (o.dst.getD 0) 0 0=d at g h0;have X:=eF.alloc w (.cells f e);have hlt:w.heap.size<(w.alloc (.cells f e)).heap.size:=by rw[fM];omega
   have hfn:∀ {i:Nat} {q:Nat×Nat},m.find? (λq=>q.1==i)=some q->1<=q.2/\q.2<1+n*cs.len:=λZ=>Fy.oh _ _ (eP Z);obtain⟨hR,hX⟩:=p1.rel.gU (κ:=Al m cs.len d) (d:=d) (b0:=w.heap.size) (w':=w.alloc (.cells f e)) (src:=λi=>∃j,(i,j)∈m) (ob:=.arr e cs true x) (λc e=>by cases e) h0 (λ⟨j,F⟩=>W.nz _ _ F rfl)
    (λk k' q y G=>by
     unfold Al at y G;cases Z:m.find? (λq=>q.1==k.1)with
     |some z=>
      rw[Z]at y;have y:=aG y;cases T:m.find? (λq=>q.1==k'.1)with
      |some z'=>
       rw[T]at G;have G:=aG G;rw[<-G]at y;injection y with _ e5
       injection e5 with e5 e6
       injection e5 with e5 e7
       have r1:=hfn Z;have r2:=hfn T;have:z.2=z'.2:=by
        grind[Nat.div_add_mod]
       have m1:=eP Z;rw[this]at m1;exact Prod.ext (W.inj _ _ _ m1 (eP T)) e6
      |none=>grind
     |none=>grind)
    (λk p y=>by
     grind[Al])
    (λi p U hid=>by
     grind[Al])
    (λi ⟨j,F⟩=>W.is i j F) ⟨rfl,rfl,rfl,az _⟩ X.size (λb _ J=>X.block b J) hlt (λJ=>absurd J (iO _))
   have L:List.length x=n:=e2;refine gW (dp:=true) hR (p1.ext.trans hX) hd ?_ g;refine⟨some ⟨w.heap.size,0,none⟩,n,n,rfl,L,az _,.inr ⟨w.heap.size,f,rfl,heap_alloc_new w _,C,by unfold aq.gU;rw[cj rfl];rfl⟩,λi A U hA=>?_⟩;injection hA with hA
   subst hA;obtain⟨q,hq⟩:=jB (l:=parts.toList.map (·.2)) (i:=i) (by rw[V];exact U);obtain⟨el,D⟩:=jB (l:=x) (i:=i) (by rw[L];exact U);rw[getD_some D];have hD:=e3 i el D;refine(iI cs _ _ 0 _).2 λj t z N=>?_;have F:=mH _ _ _ _ N;obtain⟨_,c2⟩:=wl cs _ _ hD;rw[c2 j F,pY F,pX]at N;cases K:vs[i*cs.len+j]? with
   |none=>rw[K]at N;cases N
   |some vv=>
    rw[K]at N;have N:=aG N;obtain⟨u,u1,u2⟩:=qC FH _ _ K;have hkk:((lss.map λ_=>cs.kd).flatten)[i*cs.len+j]? = some vv.1:=by rw[<-t1,kU,K];rfl
    obtain⟨z1,z2⟩:=Em n cs (by rw[l1,V]) _ _ hkk;have H6:i*cs.len+j<n*cs.len:=iq U F (az _);have Gc:DM w (I.named m) (w.alloc (.cells f e)) (I.gU (Al m cs.len d) d w.heap.size) (1+(i*cs.len+j),[]) (d,[(i,j)]):=by
     intro b rr J y;have hne:b≠w.heap.size:=by omega
     refine⟨X.block b J,?_⟩;rcases iG y with ⟨f1,_⟩|⟨ii,f1,f2,f3⟩
     .simp only at f1;omega
     .simp only[gi]at f1 f3;rw[kO hne f3];unfold Al;rw[zp W f1];simp only[gV,gi];have hpos:0<cs.len:=by omega
      rw[show 1+(i*cs.len+j)-1=j+cs.len*i by rw[Nat.mul_comm];omega,Nat.add_mul_div_left _ _ hpos,Nat.add_mul_mod_self_left,Nat.div_eq_of_lt F,Nat.mod_eq_of_lt F,bC]
    have M:=vC z1 z2 Gc u2;rw[N]at M;refine⟨u,?_,by rw[bC];exact M⟩;simp only[bC];rw[cell_of_row _ w.heap.size _ f e (0,0) (heap_alloc_new w _),hfl i q hq j F];have hfg:=flat_get cs.len ((parts.toList.map (·.2)).map λq=>(a.eval q).cells.toList) (λl hl=>by simp only[fa]at hl;obtain⟨q',Ig,rfl⟩:=hl;exact l2 q' (by simpa using Ig)) i j ((a.eval q).cells.toList) (by rw[kU,hq];rfl) F;rw[<-hfg];exact u1
def xW {B:Nat->Prop} {t t' e:Nat} {cs:ar} {n m:Nat} {y M:Value} {I:TypeInfo} {z:Value} (K:P.underlying t=some (.slice e)) (s:P.info? e=some I) (hz:I.zero=some z) (Q:I.size=cs.len) (hzs:z.cells.size=cs.len) (V:I.bytes<=65536)
  (hx:(∃q,y=.slice q 0 0/\n=0)\/∃b c arr,y=.slice (some ⟨b,0,none⟩) n c/\n<=c/\w.heap[b]? = some (.cells arr e (0,0))/\arr.size=c*cs.len/\B b)
  {d:List Value} (i:Src P I.size t' M m d w) (DV:((n+m:Nat):Int)<=1073741824) (ty:Nat):
  ∃v g,(Builtin.append_ #[t,t'] ty #[y,M]).run P w=.ok v g/\((∃q,v=.slice q 0 0/\g=w/\n=0/\m=0) \/
   ∃o r f a,v=.slice (some ⟨o,0,none⟩) (n+m) r/\n+m<=r/\g.heap[o]? = some (.cells f e (0,0))/\f.size=r*cs.len/\a.length=n*cs.len/\(∀j,j<(n+m)*cs.len->f[j]? = (a++d)[j]?) /\
    (∀b c,y=.slice (some ⟨b,0,none⟩) n c->∀j,j<n*cs.len->a[j]? = w.cell? ⟨b,j,none⟩)/\(g.os=w.os/\g.tape=w.tape/\g.output=w.output/\w.drawn<=g.drawn)/\w.heap.size<=g.heap.size/\(∀b,b≠o->b<w.heap.size->g.heap[b]? = w.heap[b]?)/\o<g.heap.size /\
    (o<w.heap.size->B o)):=by
 have J:d.length=m*cs.len:=by rw[i.newsLen,Q]
 have grow:∀(l:Option Addr) (c:Nat) (a:List Value),y=.slice l n c->c<n+m->a.length=n*cs.len->(Builtin.firstCells I.size n (.slice l n c)).run P w.drew=.ok a.toArray w.drew ->
   (∀b c,y=.slice (some ⟨b,0,none⟩) n c->∀j,j<n*cs.len->a[j]? = w.cell? ⟨b,j,none⟩)->∃v g,(Builtin.append_ #[t,t'] ty #[y,M]).run P w=.ok v g/\∃o r f a,v=.slice (some ⟨o,0,none⟩) (n+m) r/\n+m<=r/\g.heap[o]? = some (.cells f e (0,0))/\f.size=r*cs.len/\a.length=n*cs.len/\(∀j,j<(n+m)*cs.len->f[j]? = (a++d)[j]?) /\
    (∀b c,y=.slice (some ⟨b,0,none⟩) n c->∀j,j<n*cs.len->a[j]? = w.cell? ⟨b,j,none⟩)/\(g.os=w.os/\g.tape=w.tape/\g.output=w.output/\w.drawn<=g.drawn)/\w.heap.size<=g.heap.size/\(∀b,b≠o->b<w.heap.size->g.heap[b]? = w.heap[b]?)/\o<g.heap.size /\
    (o<w.heap.size->B o):=by
  intro l c a L hc x W F;have p:Builtin.nextslicecap (n+m) c*I.bytes<=281474976710656:=by
   refine growslice_fits hc ?_;have h1:(n+m)*I.bytes<=(n+m)*65536:=Nat.mul_le_mul_left _ V
   grind
  have h:=run_append_grow_src (P:=P) w t t' ty e I z K s hz l n c a W M m d i hc (by omega) p;rw[<-L]at h;have X:=grownCap_ge w (n+m) c e;have N:eF w (w.drew.alloc (.cells ((a++d).toArray++Builtin.zeroCells z.cells (grownCap w (n+m) c e-(n+m))) e)):=(eF.drew w).trans (eF.alloc w.drew _);refine⟨_,_,h,w.heap.size,_,(a++d).toArray++Builtin.zeroCells z.cells (grownCap w (n+m) c e-(n+m)),a,rfl,X,heap_alloc_new w.drew _,?_,x,λj G=>?_,F,⟨N.os,N.tape,N.output⟩,N.size,λb _ T=>N.block b T,?_,λT=>absurd T (iO _)⟩
  .have h1:(Builtin.zeroCells z.cells (grownCap w (n+m) c e-(n+m))).size=(grownCap w (n+m) c e-(n+m))*cs.len:=by simp[Builtin.zeroCells,hzs]
   rw[mY,h1,List.size_toArray,jv,x,J,<-gh,<-gh];congr 1;omega
  .grind
  simp_all
 rcases hx with ⟨q,L,rfl⟩|⟨b,c,arr,L,hn,S,C,hB⟩
 .by_cases h0:m=0
  .subst h0;have Z:d=[]:=cK.1 (by rw[J];simp);subst Z;refine⟨.slice q 0 0,w,?_,.inl ⟨q,rfl,rfl,rfl,rfl⟩⟩;subst L;have E:∀g:World,(Builtin.lenOf M).run P g=.ok 0 g:=i.len;have D:(Builtin.firstCells I.size 0 M).run P w=.ok #[] w:=i.cells;rcases i.kind with ⟨e',H⟩|H
   .cases q <;> simp[Builtin.append_,run_underlying K,run_underlying H,sizeOf,typeInfo,s,E,D,storeCells]
   .cases q <;> simp[Builtin.append_,run_underlying K,run_underlying H,sizeOf,typeInfo,s,E,D,storeCells]
  .obtain⟨v,g,q1,q2⟩:=grow q 0 [] L (by omega) (by simp) (by
    cases q with
    |none=>rfl
    |some A=>grind[run_firstCells_some]) (λ_ _ _ j G=>by simp at G)
   exact⟨v,g,q1,.inr q2⟩
 .have hal:arr.toList.length=c*cs.len:=(gv (xs:=arr)).trans C;have hmin:min (n*cs.len) (c*cs.len)=n*cs.len:=Nat.min_eq_left (dB _ hn);have hcl:∀j,w.cell? ⟨b,j,none⟩=arr[j]?:=λj=>cell_of_row w b j arr e (0,0) S;have hold:∀R r,y=.slice (some ⟨R,0,none⟩) n r->∀j,j<n*cs.len->(arr.toList.take (n*cs.len))[j]? = w.cell? ⟨R,j,none⟩:=by
   grind
  by_cases k:n+m<=c
  .have p:n*cs.len+d.length<=arr.size:=by rw[J,C,<-gh];exact dB _ k
   have h:=run_append_room_src (P:=P) w t t' ty e I K s b 0 n c M m d i k
    (λj G=>by grind)
    (λj G=>by simp[World.frozen?,S])
   rw[Q,bC]at h;rw[<-L]at h;obtain⟨f,g1,g2⟩:=dQ b e (0,0) d (n*cs.len) w arr S p;have O:=dL b d (n*cs.len) w;have x:(arr.toList.take (n*cs.len)).length=n*cs.len:=by grind
   refine⟨_,_,h,.inr ⟨b,c,f,arr.toList.take (n*cs.len),rfl,k,g1,?_,x,λj G=>?_,hold,⟨O.os,O.tape,O.output⟩,by rw[O.size];exact az _,λR U _=>O.block R U,by grind,λ_=>hB⟩⟩
   .rw[<-gv,g2]
    grind
   .have Y:j<(arr.toList.take (n*cs.len)++d).length:=by grind
    rw[<-fL,g2,pW Y]
  .obtain⟨v,g,q1,q2⟩:=grow (some ⟨b,0,none⟩) c (arr.toList.take (n*cs.len)) L (by omega) (by grind) (by
    refine run_firstCells_some w.drew I.size n ⟨b,0,none⟩ n c _ ?_ ?_
    .grind
    .intro j u K;have G:j<n*cs.len:=by
      grind
     rw[pY G,fL]at K;rw[Addr.add_mid,bC,<-K];exact cell_of_row w.drew b j arr e (0,0) S) hold
   exact⟨v,g,q1,.inr q2⟩
inductive Dz (ω:aq) (w:World) (s s1:S) (e:Nat) (cs:ar) (x:List cs.T) (v:Value):Prop where
 |none (ad:Option Addr) (hv:v=.slice ad 0 0) (hx:x=[]) (hs:s1=s)
 |some (id:Nat) (ho:(s.ob id).o=.arr e cs true x) (hr:(Ty.sl e cs).R w ω (.deep (id,[])) v x) (hs:s1=s.bq id true .gone)
def tj{v:bK}{i:Nat}(h:ic s v=some i):∃g b,v=.one (.ref i g b [])/\(s.ob i).g=g/\∃e a x,(s.ob i).o=.arr e a true x:=by
 unfold ic at h
 grind[Nat.eq_of_beq_eq_true]
def vz(a:Option Nat)(Dx n d:Nat):Key->Option Key:=λk=>
 if k.1=Dx then(match k.2 with
  |[]=>none
  |(i,j)::r=>some (d,(i+n,j)::r))
 else if a=some k.1 then(match k.2 with
  |[]=>none
  |(i,j)::r=>if i<n then some (d,(i,j)::r)else none)
 else if k.1=d then none else some k
def qH{a:Option Nat}{Dx n d:Nat}{k q:Key}(h:vz a Dx n d k=some q):(k.1=Dx/\∃i j r,k.2=(i,j)::r/\q=(d,(i+n,j)::r))\/(k.1≠Dx/\a=some k.1/\∃i j r,k.2=(i,j)::r/\i<n/\q=(d,(i,j)::r))\/(k.1≠d/\q=k):=by
 grind[vz]
def Bu{a:Option Nat}{Dx n d:Nat}(k k' q:Key)(h:vz a Dx n d k=some q)(m:vz a Dx n d k'=some q):k=k':=by
 rcases qH h with ⟨e,i,j,r,g,b⟩|⟨t,e,i,j,r,g,u,b⟩|⟨e,b⟩ <;> rcases qH m with ⟨f,o,p,s,l,c⟩|⟨v,f,o,p,s,l,w,c⟩|⟨f,c⟩
 .grind
 .grind
 .grind
 .grind
 .grind
 .grind
 .grind
 .grind
 .exact b.symm.trans c
def Ae{e:Nat}{c:ar}{o:Key}{v:Value}{x:List c.T}(h:(Ty.sl e c).R w ω (.deep o) v x):∃(f:Option Addr) (d:Nat) (a:List Value),v=.slice f x.length d/\x.length<=d/\a.length=x.length*c.len/\(∀u∈a,u.oneCell'=true) /\
  ((d=0/\x.length=0)\/∃b arr,f=some ⟨b,0,none⟩/\w.heap[b]? = some (.cells arr e (0,0))/\arr.size=d*c.len/\ω b=some o/\∀j u,a[j]? = some u->w.cell? ⟨b,j,none⟩=some u) /\
  ∀i,i<x.length->c.R w ω (λj=>.deep (o.1,o.2++[(i,j)])) (λj=>a[i*c.len+j]?) 0 (x.getD i (jk c)):=by
 obtain⟨f,n,d,p,t,q,g,y⟩:=h;subst t;rcases g with g|⟨b,arr,r,z,A,B⟩
 .exact⟨f,d,[],p,q,by rw[g.2];simp,by simp,.inl g,λi l=>absurd l (by omega)⟩
 .obtain⟨a,C,D⟩:=oT (w:=w) (b:=b) (off:=0) (m:=c.len) x.length (λi l=>by
   grind[ar.Bn])
  refine⟨f,d,a,p,q,C,λu s=>?_,.inr ⟨b,arr,r,z,A,B,λj u s=>by grind⟩,λi l=>?_⟩
  .obtain⟨k,E,rfl⟩:=vL s;exact(D k _ (cL E)).2
  .refine ar.fq c _ _ _ 0 _ (λj F=>?_) (y i _ l r)
   grind[iq]
def vW {L:S} (h:Rel H ω a w s) (hd:∀d,o.dst=some d->d<a.tmps.size) {t t' e e':Nat} {g:ar} {xs u:List g.T} {vx vy:Value} {id':Nat} (O:id'≠0) {I:TypeInfo} {z:Value}
  (hu:P.underlying t=some (.slice e)) (hie:P.info? e=some I) (hz:I.zero=some z) (hsz:I.size=g.len) (hzs:z.cells.size=g.len) (hby:I.bytes<=65536) (AZ:P.underlying t'=some (.slice e'))
  (hx:Dz ω w s L e g xs vx) {f gy hy Y:Nat} (Ih:bU w ω s vy (.ref f gy hy [])) (HM:gC s (.one (.ref f gy hy []))=some (⟨e,g,u,Y⟩:Cont real)) (IY:(L.ob f).g=gy) (F:∃e g x,(L.ob f).o=.arr e g true x)
  (DV:((xs++u).length:Int)<=1073741824) (ty:Nat)
  (hk:k (((L.bq f true .gone).new id' (.arr e g true (xs++u))).bI o.dst (.one (.ref id' (((L.bq f true .gone).new id' (.arr e g true (xs++u))).ob id').g 0 [])))=some r):
  ∃v w',(Builtin.append_ #[t,t'] ty #[vx,vy]).run P w=.ok v w'/\Ends H ω a w o.dst k r (a.put o.dst v) w':=by
 rw[gM]at DV;obtain⟨e0,IQ,x0,F⟩:=F;have yX:L.ob f=s.ob f:=by
  cases hx with
  |none _ _ _ E=>rw[E]
  |some id ho _ E=>grind[St.aO,St.ay]
 have G:s.cont f gy hy []=some (⟨e,g,u,Y⟩:Cont real):=HM;rw[yX]at F;have Ir:(s.ob f).o=.arr e g true u/\Y=2:=by
  rcases(dz G).2 with ⟨dp,f5,_,f6⟩|⟨_,_,_,_,f5,_⟩|⟨f5,_⟩
  .grind
  .exact absurd rfl f5
  .rw[F]at f5;cases f5
 obtain⟨Gr,rfl⟩:=Ir;have HO:(Ty.sl e g).R w ω (.deep (f,[])) vy u:=Ih.2.2 _ G;obtain⟨IL,IP,news,y1,y2,y3,y4,y5,y6⟩:=Ae HO;have hsrc:Src P I.size t' vy u.length news w:=Bo AZ y1 (by rw[hsz];exact y3) y4 (λhp=>by
  grind)
 have hy0:f≠0:=h.pR (by grind);have EL:Rel H ω a w L:=by
  cases hx with
  |none _ _ _ E=>rw[E];exact h
  |some id _ _ E=>rw[E];exact h.gone id true
 have G1:=EL.gone f true;have hX:∃y:Option Nat,(∀i,y=some i->i≠0/\i≠f/\((L.bq f true .gone).ob i).o=.gone) /\
   ((∃M,vx=.slice M 0 0/\xs.length=0)\/∃l b c arr,y=some l/\vx=.slice (some ⟨b,0,none⟩) xs.length c/\xs.length<=c/\w.heap[b]? = some (.cells arr e (0,0))/\arr.size=c*g.len/\ω b=some (l,[]) /\
    ∀i,i<xs.length->g.R w ω (λj=>.deep (l,[(i,j)])) (λj=>w.cell? ⟨b,i*g.len+j,none⟩) 0 (xs.getD i (jk g))):=by
  cases hx with
  |none M hv hx _=>exact⟨none,λi e=>(by cases e),.inl ⟨M,hv,by rw[hx];rfl⟩⟩
  |some id ho hr E=>
   have hne:id≠f:=λe=>by
    grind[St.ay]
   refine⟨some id,λi e=>?_,?_⟩
   .injection e with e
    subst e;refine⟨h.pR (by grind),hne,?_⟩
    grind[St.aO,St.ay]
   .obtain⟨M,n,cp,e1,e2,e3,e4,e5⟩:=hr;subst e2;rcases e4 with ⟨Z,W⟩|⟨b,arr,Z,W,X,q4⟩
    .grind
    .refine .inr ⟨id,b,cp,arr,rfl,by rw[e1,Z],e3,W,X,q4,λi hi=>?_⟩;refine ar.fq g _ _ _ 0 _ (λj _=>?_) (e5 i _ hi Z);simp only[bC]
 obtain⟨y,K,hX⟩:=hX;obtain⟨v,w',hrun,R⟩:=xW (P:=P) (B:=λb=>∃l,y=some l/\ω b=some (l,[])) (n:=xs.length) (m:=u.length) hu hie hz hsz hzs hby (hX.imp id λ⟨l,b,c,arr,Z,W,X,q4,q5,q6,_⟩=>⟨b,c,arr,W,X,q4,q5,l,Z,q6⟩) hsrc (by omega) ty;refine⟨v,w',hrun,?_⟩;rcases R with ⟨M,rfl,rfl,Z,W⟩|⟨b0,c',C,olds,rfl,W,X,q4,q5,q6,q7,q8,q9,V,q11,q12⟩
 .have hR:=G1.bare (id':=id') O (.arr e g true (xs++u)) (λ_ e=>by cases e);have hnil:xs++u=[]:=cK.1 (by rw[gM];omega);rw[hnil]at hR hk;exact gW hR (bj _ _ _ O) hd ⟨M,0,0,rfl,rfl,az _,qq,λi _ hi=>absurd hi (by omega)⟩ hk
 .have J:∀b p,ω b=some p->p.2≠[]->b≠b0:=by
   intro b p hb hp e;subst e;obtain⟨l,f1,f2⟩:=q12 (h.dom b p hb)
   grind
  obtain⟨hR,hE⟩:=G1.gU (κ:=vz y f xs.length id') (d:=id') (b0:=b0) (w':=w') (src:=λi=>i=f\/y=some i) (ob:=.arr e g true (xs++u)) (λc e=>by cases e) O
   (λE=>E.elim (λe=>hy0 e.symm) (λe=>(K 0 e).1 rfl)) Bu
   (λkk p hp=>by
    rcases qH hp with ⟨_,i,j,r,_,e3⟩|⟨_,_,i,j,r,_,_,e3⟩|⟨e1,e3⟩
    .grind
    .grind
    grind)
   (λi p E hi=>by
    grind[vz])
   (λi E=>by
    grind[St.ay])
   q8 q9 V q11 (λhb=>by
    grind)
  have hnl:news.length=u.length*g.len:=y3;refine gW (dp:=true) hR hE hd ?_ hk;refine⟨some ⟨b0,0,none⟩,xs.length+u.length,c',rfl,gM _ _,W,.inr ⟨b0,C,rfl,X,q4,by unfold aq.gU;rw[cj rfl];rfl⟩,λi A hi hA=>?_⟩;injection hA with hA
  subst hA;rw[wE];split
  .rename_i T;rcases hX with ⟨M,_,g2⟩|⟨l,b,c2,arr,g1,g2,g3,g4,g5,g6,g7⟩
   .omega
   .have U:=g7 i T;have hne:=(K l g1).2.1;refine ar.fq g _ (λj=>w.cell? ⟨b,i*g.len+j,none⟩) _ 0 _ (λj hj=>?_) (ar.fF g (λj=>(l,[(i,j)])) (λj=>(id',[(i,j)])) _ _ 0 _ (λj N rr Q q=>?_) (λ_=>rfl) U)
    .simp only[bC];rw[cell_of_row w' b0 _ C e (0,0) X,q6 _ (iq (by omega) hj (az _)),pW (by rw[q5];exact iq T hj (az _)),q7 b c2 g2 _ (iq T hj (az _))]
    .have q:ω N=some (l,(i,j)::rr):=q;have D:=J N _ q (λe=>by cases e);refine⟨V N D Q,?_⟩;rw[kO D q];unfold vz
     grind
  .rename_i hge;have hi2:i-xs.length<u.length:=by omega
   have U:=y6 (i-xs.length) hi2;refine ar.fq g _ (λj=>news[(i-xs.length)*g.len+j]?) _ 0 _ (λj hj=>?_) (ar.fF g (λj=>(f,[(i-xs.length,j)])) (λj=>(id',[(i,j)])) _ _ 0 _ (λj N rr Q q=>?_) (λ_=>rfl) U)
   .simp only[bC];have e1:i*g.len=xs.length*g.len+(i-xs.length)*g.len:=by rw[<-gh];congr 1;omega
    rw[cell_of_row w' b0 _ C e (0,0) X,q6 _ (iq (by omega) hj (az _)),iM (by rw[q5];omega),q5];congr 1;omega
   .have q:ω N=some (f,(i-xs.length,j)::rr):=q;have D:=J N _ q (λe=>by cases e);refine⟨V N D Q,?_⟩;rw[kO D q];unfold vz;rw[cj rfl];simp only;rw[show i-xs.length+xs.length=i by omega];rfl
theorem step_append (hE:bD P E) {args:Array Operand} {A:Array Nat} (ho:o.op=.call ⟨.builtin .append,args,A⟩) (O:args.size=A.size) (h:Rel H ω a w s) (hd:∀d,o.dst=some d->d<a.tmps.size) {Φ:bA->Option (Callee real (Option R))}
  (f:aL E (av R) Φ o s k=some r):o.wp P a w (Ends H ω a w o.dst k r) Q:=by
 unfold aL at f;have Gx:Nat.beq args.size A.size=true:=by rw[O];exact l6 _
 simp only[ho,Gx,aJ]at f;obtain⟨args⟩:=args;obtain⟨A⟩:=A;simp only at f O;have Bb:args.length=A.length:=by simpa using O
 match args,A,Bb with
 |[x,y],[t,t'],_=>
  have hx:=bE h E t x;have hy:=bE h E t' y;simp only[pg,p7,cR,lY,dD]at f;obtain⟨⟨e,cs⟩,h1,Z⟩:=ah f;obtain⟨⟨e',cs'⟩,h1',hkb⟩:=ah Z;obtain⟨c,W,hkc⟩:=ah hkb;obtain⟨i,h3,F⟩:=ah hkc;clear f Z hkb hkc;cases V:(Nat.beq e c.e&&ar.beq cs c.cs)with
  |false=>simp only[V]at F;cases F
  |true=>
   simp only[V,l7,cz]at F;rw[aQ]at V;have he:=bc V.1;have hcs:=ar.eq_of_beq V.2;subst he;subst hcs;obtain⟨hu,j,I,d,hj,FC,ok⟩:=gQ hE h1;obtain⟨AZ,_⟩:=gQ hE h1';obtain⟨z,hz,Iw⟩:=ok.zero;have hI:I.size=c.cs.len:=by rw[ok.size,FC]
   have hzs:z.cells.size=c.cs.len:=by grind[fQ]
   have X:I.bytes<=65536:=by rw[ok.bytes];exact ok.bpos.2
   have B:∀(K:S) (dp:Bool),Rel H ω a w K->(((dp||Nat.beq i.md 2) && !c.cs.plain)=false->DX ω w K c.e c.cs c.x (a.eval x))->((dp||uJ (ev E s t x))=true->Dz ω w s K c.e c.cs c.x (a.eval x)) ->
     (bif (dp||Nat.beq i.md 2) && !c.cs.plain then(match ic K (ev E s t' y)with
      |some T=>bif dp||uJ (ev E s t x)then
        if u:Ty.beq (.sl i.e i.cs) (.sl c.e c.cs)=true then
         bif dF (List.append (α:=c.cs.T) c.x (real.cast u i.x))then k (((K.bq T true .gone).new (aD (o.dst.getD 0) 0 0) (.arr c.e c.cs true (List.append (α:=c.cs.T) c.x (real.cast u i.x)))).bI o.dst (.one (.ref (aD (o.dst.getD 0) 0 0) (((K.bq T true .gone).new (aD (o.dst.getD 0) 0 0) (.arr c.e c.cs true (List.append (α:=c.cs.T) c.x (real.cast u i.x)))).ob (aD (o.dst.getD 0) 0 0)).g 0 [])))else none
        else none
       else none
      |none=>none)else
      if u:Ty.beq (.sl i.e i.cs) (.sl c.e c.cs)=true then
       bif dF (List.append (α:=c.cs.T) c.x (real.cast u i.x))then k ((K.new (aD (o.dst.getD 0) 0 0) (.arr c.e c.cs dp (List.append (α:=c.cs.T) c.x (real.cast u i.x)))).bI o.dst (.one (.ref (aD (o.dst.getD 0) 0 0) ((K.new (aD (o.dst.getD 0) 0 0) (.arr c.e c.cs dp (List.append (α:=c.cs.T) c.x (real.cast u i.x)))).ob (aD (o.dst.getD 0) 0 0)).g 0 [])))else none
      else none)=some r->o.wp P a w (Ends H ω a w o.dst k r) Q:=by
    intro K dp hR hX HF f;cases C:((dp||Nat.beq i.md 2) && !c.cs.plain)with
    |true=>
     rw[C]at f;simp only[aJ]at f;cases L:ic K (ev E s t' y)with
     |none=>rw[L]at f;cases f
     |some T=>
      rw[L]at f;simp only at f;cases J:(dp||uJ (ev E s t x))with
      |false=>rw[J]at f;cases f
      |true=>
       rw[J]at f;simp only[aJ]at f;split at f
       .rename_i u;cases N:dF (List.append (α:=c.cs.T) c.x (real.cast u i.x))with
        |false=>rw[N]at f;cases f
        |true=>
         rw[N]at f;simp only[aJ]at f;obtain⟨ye,IJ,yx,Fs⟩:=i;have M:=Ty.eq_of_beq u;injection M with m n
         simp only at m n;subst m;subst n;obtain⟨gy,IZ,ey,gg,Ie⟩:=tj L;rw[ey]at hy h3;obtain⟨v,w',hrun,D⟩:=vW (P:=P) (t:=t) (t':=t') (id':=aD (o.dst.getD 0) 0 0) h hd (da _ _ _) hu ok.info hz hI hzs X AZ (HF J) hy h3 gg Ie (bR N) o.type f;refine eY (v:=v) (w':=w') ?_ D;refine eM ho ?_;simp_all[builtin]
       .cases f
    |false=>
     rw[C]at f;simp only[cz]at f;split at f
     .rename_i u;have CV:dp=true->c.cs.plain=true:=by
       grind
      have Iu:i.md≠2\/i.cs.plain=true:=by
       grind[Ty.eq_of_beq]
      cases N:dF (List.append (α:=c.cs.T) c.x (real.cast u i.x))with
      |false=>rw[N]at f;cases f
      |true=>
       rw[N]at f;simp only[aJ]at f;obtain⟨ye,IJ,yx,Fs⟩:=i;have M:=Ty.eq_of_beq u;injection M with m n
       simp only at m n;subst m;subst n;obtain⟨ad,cp,news,n1,n2,n3,n4,n5,n6⟩:=tX h3 hy Iu;have hsrc:Src P I.size t' (a.eval y) (List.length yx) news w:=Bo AZ n1 (by rw[hI];exact n3) n4 n5;obtain⟨v,w',hrun,D⟩:=vV (P:=P) (t:=t) (t':=t') (xs:=c.x) (ys:=yx) (dp:=dp) (id':=aD (o.dst.getD 0) 0 0) hR hd (da _ _ _) hu ok.info hz hI hzs X (hX C) hsrc n6 (bR N) CV o.type f;refine eY (v:=v) (w':=w') ?_ D;refine eM ho ?_;simp only[builtin,List.map_toArray,cR,lY];simp_all
     .cases f
   have b:=F;clear F;cases q:ev E s t x with
   |one l=>
    rw[q]at b hx W;cases l with
    |eI e2 GV=>
     injection W with W
     obtain⟨ad,e1⟩:=hx;have hx0:c.x=[]:=by rw[<-W];rfl
     exact B s false h (λ_=>.none ad e1 hx0) (λ_=>.none ad e1 hx0 rfl) (by rw[q];exact b)
    |ref id g u p=>
     cases p with
     |nil=>
      have Y:s.cont id g u []=some c:=W;rcases(lS Y).2 with G|G|G
      .simp only[G]at b;cases b
      .simp only[G]at b;exact B _ (Nat.beq 1 2) (h.gone id true) (λ_=>qI h Y (by rw[G];decide) hx (.inl (by rw[G];decide))) (λe=>by rw[q]at e;cases e) (by rw[q];exact b)
      .simp only[G]at b;refine B _ (Nat.beq 2 2) (h.gone id true) (λV=>?_) (λ_=>?_) (by rw[q];exact b)
       .have FG:c.cs.plain=true:=by
         grind
        exact qI h Y (by rw[G];decide) hx (.inr FG)
       .have hr:=hx.2.2 c Y;rw[G]at hr;rcases(dz Y).2 with ⟨dp,U,_,f6⟩|⟨_,_,_,_,U,_⟩|⟨_,_,U⟩
        .rw[G]at f6;cases dp with
         |true=>exact .some id U hr rfl
         |false=>cases f6
        .exact absurd rfl U
        .rw[G]at U;cases U
     |cons _ _=>cases b
    |val tt xx=>cases b
    |ptr _ _ _=>cases b
    |bH _ _ _ _ _ _=>cases b
    |ei _ _ _=>cases b
    |cD _ _=>cases b
    |fn _ _=>cases b
    |C4 _ _=>cases b
    |undef=>cases b
    |dead=>cases b
   |agg _=>rw[q]at b;cases b
   |ol _=>rw[q]at b;cases b
   |pQ _ _=>rw[q]at b;cases b
 |[],[],_=>cases f
 |[_],[_],_=>cases f
 |_::_::_::_,_::_::_::_,_=>cases f
end
end Go.R

