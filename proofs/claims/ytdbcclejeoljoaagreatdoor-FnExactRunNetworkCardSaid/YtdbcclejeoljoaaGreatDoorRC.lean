import Derived.Test.YtdbcclejeoljoaaGreatDoorRB
import Derived.MapKept
import Derived.Laws.BytesString
import Derived.Tactics
/- An abstract interpreter over the code of Go functions, proved sound once: what it answers, the code computes. Conditions: none. -/
set_option linter.all false
set_option maxRecDepth 4000
namespace Go.R
variable {H:Nat->Value}
def ji:List (Int×Bool)->Int->Nat->Option (Nat×Bool)
 |[],_,_=>none
 |y::r,n,i=>bif n==y.1 then some (i,y.2)else ji r n (i+1)
def k6{k:IntKind}{n:Int}:∀ {es:List MapEntry} {x:List (Int×Bool)} (i:Nat),AW k es x->Instr.findNow (.int k) (.int k n) es i=some ((ji x n i).map λp=>(p.1,.bool p.2))
 |[],[],i,_=>rfl
 |[],_::_,_,h=>h.elim
 |_::_,[],_,h=>h.elim
 |e::es,y::x,i,h=>by
  obtain⟨⟨a,f⟩,b⟩:=h;have d:Instr.sameNow (.int k) (.int k n) e.key=some (n==y.1):=by rw[a];simp[Instr.sameNow]
  unfold Instr.findNow;rw[d];cases c:n==y.1 with
  |true=>grind[ji]
  |false=>simp only[ji,c,cz];exact k6 (i+1) b
def qZ(n:Int):∀(x:List (Int×Bool)) (i:Nat),jK x n=match ji x n i with|some p=>p.2|none=>false
 |[],_=>rfl
 |y::x,i=>by
  unfold jK ji;cases n==y.1 with
  |true=>rfl
  |false=>exact qZ n x (i+1)
def wV(k:IntKind)(n:Int)(v:Bool):∀(a:List MapEntry) (x:List (Int×Bool)) (i:Nat),AW k a x ->
  (∀b,ji x n i=none->AW k (a++[⟨.int k n,.bool v,b⟩]) (qf x n v)) /\
  ∀j b,ji x n i=some (j,b)->i<=j/\∃e,a[j-i]? = some e/\e.key=.int k n/\AW k (a.modify (j-i) λe=>{ e with key:=.int k n,val:=.bool v }) (qf x n v)
 |[],[],i,_=>⟨λb _=>⟨⟨rfl,rfl⟩,trivial⟩,λj b h=>by cases h⟩
 |[],_::_,_,h=>h.elim
 |_::_,[],_,h=>h.elim
 |e::a,y::x,i,h=>by
  obtain⟨⟨d,f⟩,g⟩:=h;obtain⟨s,t⟩:=wV k n v a x (i+1) g;unfold ji qf;cases m:n==y.1 with
  |true=>
   have o:n=y.1:=by simpa using m
   refine⟨(λb h=>by cases h),λj b h=>?_⟩;have h:=aG h;injection h with c _
   subst c;refine⟨az _,e,by simp,by rw[d,o],?_⟩;rw[sA];exact⟨⟨rfl,rfl⟩,g⟩
  |false=>
   refine⟨λb h=>⟨⟨d,f⟩,s b h⟩,λj b h=>?_⟩;obtain⟨u,l,p,q,r⟩:=t j b h;have c:j-i=(j-(i+1))+1:=by omega
   refine⟨by omega,l,by rw[c];simpa using p,q,?_⟩;rw[c];exact⟨⟨d,f⟩,r⟩
section
variable {R:Type}{P:Program}{E:Env}{ω:aq}{a:Act}{w:World}{s:S}{k:S->Option R}{r:R}{o:Oper}{Q:Exit->Act->World->Prop}
theorem uZ (z:bD P E) {t:Nat} {n:Option Operand} (m:o.op=.makeMap t n) (h:Rel H ω a w s) (hd:∀d,o.dst=some d->d<a.tmps.size) {x:bA->Option (Callee real (Option R))}
  (b:aL E (av R) x o s k=some r):o.wp P a w (Ends H ω a w o.dst k r) Q:=by
 unfold aL at b;simp only[m]at b;obtain⟨ik,y,b⟩:=ah b;cases n with
 |some _=>cases b
 |none=>
  simp only[Option.isNone_none,aJ]at b;have i:=da (o.dst.getD 0) 0 0;have l:=eF.alloc w (.map #[] 0);have f:w.heap.size<(w.alloc (.map #[] 0)).heap.size:=by rw[fM];omega
  refine eY (v:=.map (some w.heap.size)) (w':=w.alloc (.map #[] 0)) ?_ ?_
  .unfold execOp;simp only[m];rfl
  .have u:=h.fresh (id:=aD (o.dst.getD 0) 0 0) i l (az _) f (.mp ik (real.kN 0 (ar.mp ik))) (λc e=>by cases e);refine dV u (dW i l (az _)) hd (t:=.one (.cD (aD (o.dst.getD 0) 0 0) ((s.new (aD (o.dst.getD 0) 0 0) (.mp ik (real.kN 0 (ar.mp ik)))).ob (aD (o.dst.getD 0) 0 0)).g)) ⟨az _,λ_ A B j=>?_⟩ b;have g:((s.new (aD (o.dst.getD 0) 0 0) (.mp ik (real.kN 0 (ar.mp ik)))).ob (aD (o.dst.getD 0) 0 0)).o=.mp ik (real.kN 0 (ar.mp ik)):=by unfold St.new;rw[St.aB]
   rw[g]at j;injection j with p q
   subst p;subst q;exact⟨w.heap.size,#[],0,aq.eV _ _ _,rfl,heap_alloc_new w _,trivial⟩
def uO{v:Value}{id g:Nat}{q:Sigma λk=>real.V (.sl 0 (ar.mp k))}(h:bU w ω s v (.cD id g))(f:sy s id g=some q):(s.ob id).o=.mp q.1 q.2/\∃b d c,ω b=some (id,[])/\v=.map (some b)/\w.heap[b]? = some (.map d c)/\AW q.1 d.toList q.2:=by obtain⟨e,a⟩:=zF f;exact⟨a,h.2 e _ _ a⟩
theorem w8 (hE:bD P E) {t:Nat} {m x:Operand} {ok:Bool} (Y:o.op=.lookup t m x ok) (h:Rel H ω a w s) (hd:∀d,o.dst=some d->d<a.tmps.size) {Φ:bA->Option (Callee real (Option R))}
  (j:aL E (av R) Φ o s k=some r):o.wp P a w (Ends H ω a w o.dst k r) Q:=by
 have N:=bE h E t m;have S:=bE h E 0 x;unfold aL at j;simp only[Y]at j;obtain⟨ik,h1,j⟩:=ah j;obtain⟨kt,Z,I,O,D,hie,hz⟩:=hE.GH t ik h1;cases ok with
 |true=>cases j
 |false=>
 simp only[cz]at j;split at j
 .rename_i id g u n T U;rw[T]at N;rw[U]at S;obtain⟨q,h2,z⟩:=ah j;clear j;obtain⟨A,M⟩:=q;cases l:decide (A=ik)with
  |false=>simp only[l]at z;cases z
  |true=>
  simp only[l,aJ]at z;obtain rfl:=bR l;split at z
  .rename_i W;obtain rfl:=Ty.eq_of_beq W;obtain⟨Hj,b,es,c,f1,G,C,V⟩:=uO N h2;have B:a.eval x=.int A n:=S;refine aT h hd (v:=.bool (jK M n)) ?_ (t:=.one (.val .bool (real.Ep A M n))) rfl z;unfold execOp;simp only[Y];have f:=MapKept.run_findKey (P:=P) (w:=w) D (k6 (n:=n) 0 V);have i:∀e L,(Instr.checkKey e (L+1) kt (.int A n)).run P w=.ok () w:=λe L=>by simp_all[Instr.checkKey,run_underlying]
   have i:=λe=>i e 9999;have F:(zeroValue Z).run P w=.ok (.bool false) w:=by simp_all[zeroValue,typeInfo]
   have K:(Instr.lookup t (a.eval m) (a.eval x) false).run P w=.ok (.bool (jK M n)) w:=by
    rw[G,B,qZ n M 0];unfold Instr.lookup;cases J:ji M n 0 with
    |none=>rw[J]at f;simp[run_underlying O,MapKept.run_getObj_map C,i,f,F]
    |some p=>rw[J]at f;simp[run_underlying O,MapKept.run_getObj_map C,i,f]
   simp_all
  .cases z
 .rename_i A y u n T U;rw[T]at N;rw[U]at S;cases l:decide (A=ik)with
  |false=>rw[l]at j;cases j
  |true=>
  rw[l]at j;simp only[aJ]at j;obtain rfl:=bR l;split at j
  .rename_i W;obtain rfl:=Ty.eq_of_beq W;have B:a.eval x=.int A n:=S;refine aT h hd (v:=.bool (jK y n)) ?_ (t:=.one (.val .bool (real.GG A y n))) rfl j;unfold execOp;simp only[Y];have i:∀e L,(Instr.checkKey e (L+1) kt (.int A n)).run P w=.ok () w:=λe L=>by simp_all[Instr.checkKey,run_underlying]
   have i:=λe=>i e 9999;have F:(zeroValue Z).run P w=.ok (.bool false) w:=by simp_all[zeroValue,typeInfo]
   have K:(Instr.lookup t (a.eval m) (a.eval x) false).run P w=.ok (.bool (jK y n)) w:=by
    have X:zR w ω .bQ A (a.eval m) y:=N;rcases X with ⟨G,C⟩|⟨_,b,es,c,G,f1,_,C,V⟩
    .rw[G,B,C];unfold Instr.lookup;have f:=MapKept.run_findKey (P:=P) (w:=w) D (k6 (k:=A) (es:=[]) (x:=[]) (n:=n) 0 trivial);simp_all[ji,run_underlying,jK]
    .have f:=MapKept.run_findKey (P:=P) (w:=w) D (k6 (n:=n) 0 V);rw[G,B,qZ n y 0];unfold Instr.lookup;cases J:ji y n 0 with
     |none=>rw[J]at f;simp[run_underlying O,MapKept.run_getObj_map C,i,f,F]
     |some p=>rw[J]at f;simp[run_underlying O,MapKept.run_getObj_map C,i,f]
   simp_all
  .cases j
 .cases j
def s9 {t:World} {b id:Nat} {ik:IntKind} {x x':real.V (.sl 0 (ar.mp ik))} {l:Array MapEntry} {A:Nat} (D:id≠0) (hd:∀b k,ω b=some k->b<w.heap.size) (E:ω b=some (id,[])) (F:(s.ob id).o=.mp ik x) (z:og w t b) (J:t.heap[b]? = some (.map l A)) (M:AW ik l.toList x')
  (y:∀b u k,ω b=some k->ω u=some k->b=u) (j:Nat):Tr w ω s t ω (s.bq id true (.mp ik x')) j:=by
 by_cases e:j=id
 .subst e;have q:((s.bq j true (.mp ik x')).ob j).o=.mp ik x':=by rw[St.ay]
  have f:((s.bq j true (.mp ik x')).ob j).g=(s.ob j).g:=by rw[St.ay]
  have n:((s.bq j true (.mp ik x')).ob j).h=bif true then(s.ob j).h+1 else(s.ob j).h:=by rw[St.ay]
  have o:∀g h p c,(s.bq j true (.mp ik x')).cont j g h p=some c->False:=by
   grind[St.cont,fU.cont]
  exact
  {ref:=λv g h p d=>⟨by rw[f];exact d.1,by rw[f,n];exact gF true d.2.1,λc a=>(o _ _ _ _ a).elim⟩
   ptr:=λv g r d=>⟨by rw[f];exact d.1,λ_ cells a=>by rw[q]at a;cases a⟩
   bH:=λv g h p i r d=>⟨by rw[f];exact d.1,by rw[f,n];exact gF true d.2.1,λc a=>(o _ _ _ _ a).elim⟩
   cD:=λv g d=>⟨by rw[f];exact d.1,λm N x2 a=>by
    rw[f]at m;rw[q]at a;injection a with B C
    subst B;subst C;obtain⟨G,I,c,P,Q,R,S⟩:=d.2 m ik x F
    grind⟩ }
 .refine gx.tr ⟨St.aO _ _ _ e,λc O a L K=>?_⟩ (dc D E z) hd;have:c≠b:=λH=>by grind
  exact⟨z.block c this,rfl⟩
def Rel.CH (h:Rel H ω a w s) {n:World} {b id:Nat} {ik:IntKind} {x x':real.V (.sl 0 (ar.mp ik))} {g:Array MapEntry} {r:Nat} (k:ω b=some (id,[])) (p:(s.ob id).o=.mp ik x) (d:og w n b) (o:n.heap[b]? = some (.map g r)) (q:AW ik g.toList x')
  (f:id≠0:=h.pR (by grind)):Rel H ω a n (s.bq id true (.mp ik x')) where
 dH:=h.dH.ext (dc f k d)
 inj:=h.inj
 dom c kk l:=by rw[d.size];exact h.dom c kk l
 defers:=h.defers
 dJ:=by rw[St.aO _ _ _ (dG f)];exact h.dJ
 slots i:=cQ.frame (dc f k d) (s9 f h.dom k p d o q h.inj) (h.slots i)
 c7 j cells hc:=by
  by_cases e:j=id
  .grind[St.ay]
  .rw[St.aO _ _ _ e]at hc;obtain⟨c,arr,T,l,t,u⟩:=h.c7 j cells hc;have m:c≠b:=λy=>by grind
   exact⟨c,arr,T,l,(d.block c m).trans t,u.mono λ_ _ v=>bU.frame (dc f k d) (s9 f h.dom k p d o q h.inj) v⟩
theorem lD (hE:bD P E) {t:Nat} {m x v:Operand} (ho:o.op=.mapUpdate t m x v) (h:Rel H ω a w s) (hd:∀d,o.dst=some d->d<a.tmps.size) {Φ:bA->Option (Callee real (Option R))}
  (A:aL E (av R) Φ o s k=some r):o.wp P a w (Ends H ω a w o.dst k r) Q:=by
 have hm:=bE h E t m;have hx:=bE h E 0 x;have hv:=bE h E 4 v;unfold aL at A;simp only[ho]at A;obtain⟨ik,h1,A⟩:=ah A;obtain⟨kt,et,I,hu,U,hie,hz⟩:=hE.GH t ik h1;split at A
 .rename_i id g u n L em ex N;rw[em]at hm;rw[ex]at hx;have G:=qL N hv;obtain⟨q,h2,y⟩:=ah A;clear A;obtain⟨i,Y⟩:=q;cases C:decide (i=ik)with
  |false=>simp only[C]at y;cases y
  |true=>
  simp only[C,aJ]at y;obtain rfl:=bR C;split at y
  .rename_i hb;obtain rfl:=Ty.eq_of_beq hb;obtain⟨X,b,M,c,Z,f2,F,f4⟩:=uO hm h2;have K:a.eval x=.int i n:=hx;have f:=MapKept.run_findKey (P:=P) (w:=w) U (k6 (n:=n) 0 f4);have z:∀e n',(Instr.checkKey e (n'+1) kt (.int i n)).run P w=.ok () w:=λe n'=>by simp_all[Instr.checkKey,run_underlying]
   have z:=λe=>z e 9999;obtain⟨p1,p2⟩:=wV i n L M.toList Y 0 f4;have O:b<w.heap.size:=aM F;have B:∀ob,og w { w with heap:=w.heap.setIfInBounds b ob } b:=λob=>⟨rfl,rfl,⟨rfl,az _⟩,by simp,λc hc=>by grind⟩
   have fin:∀(l:Array MapEntry) (D:Nat),(Instr.mapUpdate t (a.eval m) (a.eval x) (a.eval v)).run P w=.ok () { w with heap:=w.heap.setIfInBounds b (.map l D) }->AW i l.toList (qf Y n L)->o.wp P a w (Ends H ω a w o.dst k r) Q:=by
    intro l D hrun V;have hh:({ w with heap:=w.heap.setIfInBounds b (.map l D) }:World).heap[b]? = some (.map l D):=by simp[O]
    refine xn (w':={ w with heap:=w.heap.setIfInBounds b (.map l D) }) ?_ ?_
    .simp_all[execOp]
    .have W:id≠0:=h.pR (by grind);exact qT (h.CH Z X (B _) hh V) (dc W Z (B _)) hd y
   cases S:ji Y n 0 with
   |none=>refine fin (M.push ⟨.int i n,.bool L,c⟩) (c+1) ?_ (by grind);rw[f2,K,G];unfold Instr.mapUpdate;rw[S]at f;simp only[Sem.run_bind,run_underlying hu,Result.andThen,MapKept.run_getObj_map F,z,f,Option.map_none,MapKept.run_setObj_map _ F]
   |some p=>
    obtain⟨j,bb⟩:=p;obtain⟨_,e,e1,e2,e3⟩:=p2 j bb S;rw[Nat.sub_zero]at e1 e3;refine fin (M.modify j λe=>{ e with key:=.int i n,val:=.bool L }) c ?_ (by grind);rw[f2,K,G];unfold Instr.mapUpdate;rw[S]at f;have J:((M[j]?).map (·.key)).getD (.int i n)=.int i n:=by
     grind
    have T:(Instr.keyThatStays (.int i n) (.int i n)).run P w=.ok (.int i n) w:=by
     unfold Instr.keyThatStays;have:Instr.sameBits 10000 (.int i n) (.int i n)=true:=by grind[Instr.sameBits]
     rw[this];rfl
    simp only[Sem.run_bind,run_underlying hu,Result.andThen,MapKept.run_getObj_map F,z,f,cZ,J,T,MapKept.run_setObj_map _ F]
  .cases y
 .cases A
def Rel.reset(h:Rel H ω a w s){d:Nat}{t:bK}(k:cQ H w ω s (a.tmps.getD d undef) t):Rel H ω a w (s.set d t) where
 dH:=h.dH
 inj:=h.inj
 dom:=h.dom
 defers:=h.defers
 dJ:=h.dJ
 slots i:=by
  have tr:∀id,Tr w ω s w ω (s.set d t) id:=λid=>Tr.nq h.dom rfl;by_cases e:i=d
  .subst e;rw[St.iY];exact cQ.frame (cH.refl _ _) tr k
  .rw[St.lV _ _ e];exact cQ.frame (cH.refl _ _) tr (h.slots i)
 c7 id cells hc:=by obtain⟨b,arr,T,c,f,g⟩:=h.c7 id cells hc;exact⟨b,arr,T,c,f,g.mono λ_ _ j=>bU.frame (cH.refl _ _) (λid=>Tr.nq h.dom rfl) j⟩
def Ar(h:Rel H ω a w s){parts:List (Nat×Operand)}{k:S}(d:yw s parts=some k):∃e,Rel H e a w k/\cH ω w e w:=by
 unfold yw at d;split at d
 .rename_i j;split at d
  .rename_i id g r;split at d
   .rename_i q t;have d:=aG d;subst d;have i:=h.slots j;rw[r]at i;obtain⟨u,b,l,c,m,n,f,o⟩:=uO i t;obtain⟨p,_⟩:=wy h (id:=id) (by grind) 0;exact⟨_,p.rel.reset (.inr ⟨rfl,b,l,c,n,aq.oJ m rfl,aM f,f,o⟩),p.ext⟩
   .cases d
  .cases d
 .cases d
theorem w7 (c:bD P E) {t:Nat} {m x v:Operand} (i:o.op=.insert t m x v) (h:Rel H ω a w s) (hd:∀d,o.dst=some d->d<a.tmps.size) {g:bA->Option (Callee real (Option R))}
  (f:aL E (av R) g { o with op:=.mapUpdate t m x v } s k=some r):o.wp P a w (Ends H ω a w o.dst k r) Q:=by
 have b:=lD (Q:=Q) c (o:={ o with op:=.mapUpdate t m x v }) rfl h hd f;have e:execOp a.eval o=execOp a.eval { o with op:=.mapUpdate t m x v }:=by
  grind[execOp]
 unfold Oper.wp at b⊢;rw[e];exact b
end
open Go
section
variable {R:Type}{P:Program}{E:Env}{ω:aq}{a:Act}{w:World}{s:S}{k:S->Option R}{r:R}{o:Oper}{Q:Exit->Act->World->Prop}
theorem uW (G:bD P E) {p u:Nat} {x:Operand} (S:o.op=.convert p u x) (h:Rel H ω a w s) (hd:∀d,o.dst=some d->d<a.tmps.size) {Φ:bA->Option (Callee real (Option R))}
  (f:aL E (av R) Φ o s k=some r):o.wp P a w (Ends H ω a w o.dst k r) Q:=by
 have X:=bE h E p x;unfold aL at f;simp only[S]at f;obtain⟨i0,h0,f⟩:=ah f;obtain⟨i,h1,f⟩:=ah f;obtain⟨_,_,Y⟩:=G.ti _ _ h0;obtain⟨_,_,ok⟩:=G.ti _ _ h1;cases I:i.agg with
 |true=>rw[I]at f;cases f
 |false=>
  rw[I]at f;simp only[cz]at f;generalize ev E s p x=tx at X f;split at f
  .rename_i j kk n M;have hv:a.eval x=.int kk n:=X;have hu:P.underlying u=some (.int j):=by rw[ok.zO,ok.El j M I]
   refine aT h hd (v:=.int j (eo j n)) ?_ (t:=.one (.val (.int j) (real.conv kk j n))) rfl f;unfold execOp;simp[S,hv,convert,run_underlying Y.zO,run_underlying hu,Conv.intToInt,eo]
  .rename_i M;obtain⟨q,hq,f⟩:=ah f;obtain⟨j,J,f⟩:=ah f;obtain⟨_,_,D⟩:=G.ti _ _ J;cases z:j.agg with
   |true=>rw[z]at f;cases f
   |false=>
    rw[z]at f;obtain⟨c,N,f⟩:=ah (show af (av R) (gC s _) _=some r from f);cases L:(Nat.beq q.1 c.e&&ar.beq q.2 c.cs)with
    |false=>rw[L]at f;cases f
    |true=>
     rw[L]at f;simp only[aJ]at f;split at f
     .rename_i hbt;obtain⟨b1,b2⟩:=aQ _ _▸L;have e1:q.1=c.e:=bc b1;obtain⟨W,j',I',d',O,A,ID⟩:=gQ G (t:=p) (e:=q.1) (cs:=q.2) hq;have:j'=j:=aG (O.symm.trans J);subst this;have T:q.2=c.cs:=ar.eq_of_beq b2;have y:c.cs=.cons (.int .u8) .nil:=by
       grind[Ty.eq_of_beq]
      have V:P.underlying q.1=some (.int .u8):=by rw[D.zO,D.El .u8 (by rw[A,T,y]) z]
      have U:P.underlying u=some .string:=by rw[ok.zO,ok.ED M I]
      obtain⟨K,F,news,Z,_,e3,_,e5,e6⟩:=tX N X (.inr (by rw[y];rfl));obtain⟨ce,IM,l,cmd⟩:=c;simp only at y Z e3 e5 e6 f;subst y;have hl:news.length=List.length l:=by rw[e3];exact Nat.mul_one _
      have hn:news=(show List Int from l).map (Value.int .u8):=by
       refine List.ext_getElem (by rw[vh];exact hl) λi h1 h2=>?_;obtain⟨⟨v,g1,g2⟩,_⟩:=e6 i (by omega);have g1:news[i*1+0]? = some v:=g1;have g2:v=.int .u8 ((show List Int from l).getD i 0):=g2
       grind
      refine aT h hd (v:=.string (nT l)) ?_ (t:=.one (.val .str (nT l))) rfl f;have B:(Conv.bytesToString (.slice K (List.length l) F)).run P w=.ok (.string (nT l)) w:=by
       cases hz:List.length l with
       |zero=>
        have hx0:(show List Int from l)=[]:=cK.1 hz;have:nT l=ByteArray.empty:=by grind[nT]
        rw[this];cases K with
        |none=>rfl
        |some a=>exact run_bytesToString w a 0 F [] (run_loadCells_list w a [] (λj v J=>by simp at J))
       |succ m=>
        obtain⟨b,C,rfl,g⟩:=e5 (by omega);rw[<-hz];have pQ:(loadCells ⟨b,C,none⟩ (List.length l)).run P w=.ok ((show List Int from l).map (Value.int .u8)).toArray w:=by
         grind[run_loadCells_list,Addr.add_lit]
        exact run_bytesToString w ⟨b,C,none⟩ (List.length l) F l pQ
      unfold execOp;simp only[S,Z,Sem.run_bind,Sem.run_pure];rw[run_convert_bytes_string w p u q.1 K (List.length l) F W V U,B];rfl
     .cases f
  .cases f
end
end Go.R
namespace Go.R
variable {H:Nat->Value}
section
variable {R:Type}{P:Program}{E:Env}{ω:aq}{a:Act}{w:World}{s:S}{k:S->Option R}{r:R}{o:Oper}{Q:Exit->Act->World->Prop}
def jQ(w:World)(d:aq)(c:World)(a:aq):Prop:=w.heap.size<=c.heap.size/\∀b,b<w.heap.size->d b=none->c.heap[b]? = w.heap[b]? /\ a b=none
def cH.stays{c:World}{a:aq}(h:cH ω w a c):jQ w ω c a:=⟨h.size,λb d e=>by have:=h.block b d (.inl e);grind⟩
def jQ.trans{g c:World}{d a:aq}(h:jQ w ω g d)(e:jQ g d c a):jQ w ω c a:=
 ⟨eK h.1 e.1,λb f j=>by
  have i:=h.2 b f j;have k:=e.2 b (c6 f h.1) i.2
  grind⟩
def jQ.keeps{d:World}{c:aq}(h:jQ w ω d c):lW w ω d c .bQ:=by
 intro b e a;rcases a with a|⟨k,_,a⟩
 .have:=h.2 b e a
  grind
 .exact a.elim
def jQ.ei{k:World}{d:aq}(h:jQ w ω k d){v:Value}{e:ar}{x:e.T}{c:Nat}(o:jd w ω v e x c):jd k d v e x c:=by obtain⟨b,i,l,f,m,n⟩:=o;have g:=h.2 b f l;exact⟨b,i,g.2,c6 f h.1,m,ar.bZ h.1 e _ _ _ 0 _ (λ_=>h.keeps) (λj=>fN (a:=⟨b,i+j,none⟩) g.1) n⟩
def mF{j:World}{d:aq}(h:jQ w ω j d):∀(c:List (KV real)) (e:List Value) (b:Nat),(∀v∈c,v.1.ni=true)->fp w ω b c e->fp j d b c e
 |[],[],_,_,_=>trivial
 |[],_::_,_,_,a=>a.elim
 |_::_,[],_,_,a=>a.elim
 |⟨i,x⟩::c,u::e,b,g,a=>by
  refine⟨?_,mF h c e (b+1) (λv l=>g v (by simp[l])) a.2⟩;have f:=g ⟨i,x⟩ (by simp);have k:=a.1;cases i with
  |val t=>exact Ty.bZ h.1 t .bQ u x h.keeps k
  |arr _ _ _=>cases f
  |mp _=>cases f
theorem qD{C:World}{m:aq}(h:jQ w ω C m):∀(a:List Sh) (i:List (KV real)) (s:List Value) (b:Nat),a.all Sh.eG=true->i.map (·.1)=(a.map Sh.ks).flatten->fI w ω b a i s->fI C m b a i s
 |[],_,_,_,_,_,o=>o
 |q::a,i,[],_,_,_,o=>o.elim
 |q::a,i,u::s,b,A,H,o=>by
  obtain⟨M,r,N⟩:=o;rw[gL,aQ]at A;simp only[cR,iV]at H;have k:(i.take q.ks.length).map (·.1)=q.ks:=by
   grind[List.map_take]
  have z:(i.drop q.ks.length).map (·.1)=(a.map Sh.ks).flatten:=by
   grind[List.map_drop]
  refine⟨M,?_,qD h a _ s _ A.2 z N⟩;have l:=A.1;cases q with
  |one L=>
   obtain⟨v,g,j⟩:=r;rw[g]at k;have F:v.1=L:=by simpa[Sh.ks] using k
   refine⟨v,g,(mF h [v] [u] b (λO J=>?_) ⟨j,trivial⟩).1⟩
   grind[Sh.eG]
  |agg ks=>
   obtain⟨cells,g,j⟩:=r;refine⟨cells,g,mF h _ cells b (λv F=>?_) j⟩;have I:v.1∈ks:=by have:v.1∈((i.take (Sh.agg ks).ks.length).map (·.1)):=fa.2 ⟨v,F,rfl⟩;rw[k]at this;exact this
   simpa using cg.1 l _ I
  |blk _=>cases l
  |ro t=>obtain⟨x,g,j⟩:=r;exact⟨x,g,h.ei j⟩
  |fn f D=>
   obtain⟨e,g,j,E⟩:=r;refine⟨e,g,?_,E⟩;have B:∀(e:List Value) (d:List (cU real)),(∀c∈d,∃t x,c=.ro t x)->aH (λv c=>gK w ω ⟨λ_=>.dead,λ_=>⟨0,0,0,.gone⟩⟩ v c) e d->aH (λv c=>gK C m ⟨λ_=>.dead,λ_=>⟨0,0,0,.gone⟩⟩ v c) e d:=by
    intro e;induction e with
    |nil=>intro d _ n;cases d with|nil=>trivial|cons _ _=>exact n.elim
    |cons v e K=>
     intro d p n;cases d with
     |nil=>exact n.elim
     |cons c d=>refine⟨?_,K d (λG y=>p G (by simp[y])) n.2⟩;obtain⟨t,x,rfl⟩:=p c (by simp);exact h.ei n.1
   exact B e _ E j
  |qa _ _=>cases l
def oN:∀(a:List (KV real)) (b:Nat) (s:S),(∀v∈a,v.1.ni=true)->(∀i,(s.ob i).o=.gone)->∀i,((lays b a s).2.ob i).o=.gone
 |[],_,_,_,h,i=>h i
 |⟨e,x⟩::a,b,s,d,h,i=>by
  simp only[lays];refine oN a (b+1) _ (λv f=>d v (by simp[f])) (λj=>?_) i;have c:=d ⟨e,x⟩ (by simp);cases e with
  |val t=>grind[dh,St.new,St.aB,St.aU]
  |arr _ _ _=>cases c
  |mp _=>cases c
def pE:∀(a:List Sh) (d:List (KV real)) (b:Nat) (s:S),a.all Sh.eG=true->d.map (·.1)=(a.map Sh.ks).flatten->(∀i,(s.ob i).o=.gone)->∀i,((aV b a d s).2.ob i).o=.gone
 |[],_,_,_,_,_,h,i=>h i
 |e::a,d,b,s,k,q,h,i=>by
  rw[gL,aQ]at k;simp only[cR,iV]at q;have r:(d.take e.ks.length).map (·.1)=e.ks:=by
   grind[List.map_take]
  have g:(d.drop e.ks.length).map (·.1)=(a.map Sh.ks).flatten:=by
   grind[List.map_drop]
  simp only[aV];refine pE a _ _ _ k.2 g (λj=>?_) i;have c:=k.1;have n:∀ks,e.ks=ks->(ks.all K.ni)=true->∀v∈d.take e.ks.length,v.1.ni=true:=by
   grind
  cases e with
  |one p=>
   have o:=n [p] rfl (by simpa[Sh.eG] using c);cases l:d.take (Sh.one p).ks.length with
   |nil=>simp only[cm];exact h j
   |cons v rest=>
    cases rest with
    |nil=>rw[l]at o;simp only[cm];exact oN [v] b s o h j
    |cons _ _=>simp only[cm];exact h j
  |agg ks=>exact oN _ b s (n ks rfl c) h j
  |blk _=>cases c
  |ro t=>grind[cm]
  |fn f m=>exact h j
  |qa _ _=>cases c
def vals(t:bp)(a:Act):List Value:=t.map λp=>a.tmps.getD p.1 undef
def kz(w:World)(c:aq)(a:Act)(t:bp)(b:fE real (bp.ks t)):Prop:=fI w c 1 (t.map (·.2)) (bJ _ b) (vals t a)
theorem lm:∀(ks:List K) (x:fE real ks),(bJ ks x).map (·.1)=ks
 |[],_=>rfl
 |k::ks,(x,r)=>fK (k:: ·) (lm ks r)
def xk(t:bp)(a:Act)(j d:Nat)(hd:(t.map (·.1))[j]? = some d)(u:Value)(b:(vals t a)[j]? = some u):a.tmps.getD d undef=u:=by
 grind[vals]
def ng(a b:bp)(c:fE real (bp.ks a))(x:fE real (bp.ks b)):S:=om b x (om a c St.start)
theorem B3(t:bp):((t.map (·.2)).map Sh.ks).flatten=bp.ks t:=by unfold bp.ks;rw[List.map_map];rfl
def wG {c d:bp} {j:fE real (bp.ks c)} {x:fE real (bp.ks d)} (p:(c.map (·.2)).all Sh.eG=true) (g:zQ w ω) (h:∀b l k,ω b=some k->ω l=some k->b=l) (f:∀b k,ω b=some k->b<w.heap.size) (e:a.defers=[])
  (o:kz w ω a c j) (q:kz w ω a d x):Rel H ω a w (ng c d j x):=by
 have m:Rel H ω a w (om c j St.start):=rj g (by omega) h f e (λ_=>rfl) (λ_=>trivial) o (xk c a);have n:∀i,((om c j St.start).ob i).o=.gone:=by intro i;unfold om;rw[oU];exact pE _ _ 1 _ p (by rw[lm,B3]) (λ_=>rfl) i
 exact rj g (by omega) h f e n m.slots q (xk d a)
def rV(h:Rel H ω a w s):∀t:bp,aH (cQ H w ω s) (vals t a) (t.map λp=>s.sl p.1)
 |[]=>trivial
 |p::t=>⟨h.slots p.1,rV h t⟩
def sr(h:Rel H ω a w s){t:bp}{x:fE real (bp.ks t)}{f:S}(b:fC t s=some (x,f)):
  ∃c m,Passes H ω a w s c f/\bT w ω s c f m 1 (1+au (t.map (·.2)))/\((t.map (·.2)).all Sh.eG=true->m=[])/\∀e i d,di c f e i->fJ w e d m->kz w d a t x:=by
 unfold fC at b;cases g:bz (t.map (·.2)) (t.map λp=>s.sl p.1) s with
 |none=>rw[g]at b;cases b
 |some q=>
  obtain⟨k,i⟩:=q;rw[g]at b;simp only at b;cases j:kL (bp.ks t) k with
  |none=>rw[j]at b;cases b
  |some y=>
   rw[j]at b;have b:=aG b;injection b with l n
   subst l;subst n;obtain⟨c,m,u,o,r,v⟩:=iH _ _ _ ω s k i 1 h (rV h t) g
   grind[kz,gJ]
def BO(h:Rel H ω a w s){keep gZ:bp}{f:fE real (bp.ks keep)}{m:S}{x:fE real (bp.ks gZ)}{g:S}(k:(keep.map (·.2)).all Sh.eG=true)(n:fC keep s=some (f,m))(o:fC gZ m=some (x,g)):
  ∃c,Rel H c a w (ng keep gZ f x)/\cH ω w c w/\kz w c a keep f:=by
 obtain⟨u,m1,l,v,q,r⟩:=sr h n;obtain⟨b,m2,d,e,y,t⟩:=sr l.rel o;have p:=q k;subst p;have i:fJ w b (b.named m2) m2:=fA e;have j:=r b g (b.named m2) e.later ⟨i.none,λ_ _ h=>nomatch h⟩;exact⟨b.named m2,wG k (d.rel.dH.ext (iB _ _ _)) (oQ (by omega) e d.rel.inj) (oP d.rel.dom) d.rel.defers j (t b g _ (di.refl _ _) i),(l.ext.trans d.ext).trans (iB _ _ _),j⟩
def wJ (h:Rel H ω a w s) {e:aq} {k:World} {i:Act} {b t:bp} {g:fE real (bp.ks b)} {x:fE real (bp.ks t)} {n:S} (v:(b.map (·.2)).all Sh.eG=true) (u:kz k e i b g) (r:cH e k ω w)
  (j:∀p∈b,a.tmps.getD p.1 undef=i.tmps.getD p.1 undef) (o:fC t s=some (x,n)):∃d,Rel H d a w (ng b t g x)/\cH ω w d w/\kz w d a b g:=by
 obtain⟨c,m1,f,l,B,z⟩:=sr h o;have q:fJ w c (c.named m1) m1:=fA l;have A:vals b a=vals b i:=by
  grind[vals,List.map_congr_left]
 have y:jQ k e w (c.named m1):=(r.trans (f.ext.trans (iB _ _ m1))).stays;have m:kz w (c.named m1) a b g:=by
  grind[kz,qD,lm,B3]
 exact⟨c.named m1,wG v (f.rel.dH.ext (iB _ _ _)) (oQ (by omega) l f.rel.inj) (oP f.rel.dom) f.rel.defers m (z c n _ (di.refl _ _) q),f.ext.trans (iB _ _ _),m⟩
end
structure hJ where
 look:Bool
 args:List Sh
 bf:List Sh
 fn:fE real ((args.map Sh.ks).flatten)->Option (fE real ((bf.map Sh.ks).flatten++(dY look args++(eC args).flatten)))
def hJ.callee(F:hJ)(R:Type):Callee real (Option R):=⟨F.look,F.args,F.bf,λx k=>(F.fn x).bind k⟩
def tab(a:bA->Option hJ)(R:Type):bA->Option (Callee real (Option R)):=λf=>(a f).map (·.callee R)
structure dR where
 keep:bp
 gZ:bp
 gD:List (Ex×bp)
 fn:fE real (bp.ks keep)->fE real (bp.ks gZ)->Option (jX real gD)
 ip:Option ((R:Type)->S->(Ex->S->Option R)->Option R)
def dR.fH(l:dR)(R:Type):Bi real (Option R):=⟨l.keep,l.gZ,l.gD,λa x k=>(l.fn a x).bind λq=>jX.elim l.gD q k⟩
def GD(a:Nat->Option dR)(R:Type):Nat->Option (Bi real (Option R)):=λn=>(a n).map (·.fH R)
abbrev vq:=FuncId->Option ((R:Type)->C6 real (Option R))
def mi(a:vq)(R:Type):FuncId->Option (C6 real (Option R)):=λf=>(a f).map λt=>t R
def Am(a:Nat->Option dR)(c:vq)(b:Nat->Bool)(R:Type):Lk real (Option R):=⟨GD a R,mi c R,b,λn=>(a n).bind λl=>l.ip.map λt=>t R⟩
abbrev FN:vq:=λ_=>none
abbrev FR:Nat->Bool:=λ_=>false
def eA(P:Program)(E:Env)(c:bA->Option hJ):Prop:=
 ∀(H:Nat->Value) (R:Type) (o:Oper) (f:Operand) (args:Array Operand) (b:Array Nat) (ω:aq) (a:Act) (w:World) (s:S) (k:S->Option R) (r:R) (Q:Exit->Act->World->Prop),
  o.op=.call ⟨.value f,args,b⟩->Rel H ω a w s->(∀d,o.dst=some d->d<a.tmps.size)->aL E (av R) (tab c R) o s k=some r->o.wp P a w (Ends H ω a w o.dst k r) Q
def jm(P:Program)(E:Env)(e:vq):Prop:=
 ∀(H:Nat->Value) (R:Type) (o:Oper) (f:FuncId) (t:(R:Type)->C6 real (Option R)) (args:Array Operand) (b:Array Nat) (ω:aq) (a:Act) (w:World) (s:S) (k:S->Option R) (r:R) (Q:Exit->Act->World->Prop),
  o.op=.call ⟨.value (.func f),args,b⟩->e f=some t->args.size=b.size->Rel H ω a w s->(∀d,o.dst=some d->d<a.tmps.size) ->
  t R ((args.toList.zip b.toList).map λp=>ev E s p.2 p.1) s (λv c=>k (c.bI o.dst v))=some r->o.wp P a w (Ends H ω a w o.dst k r) Q
def rX{P:Program}{E:Env}:jm P E FN:=λ_ _ _ _ _ _ _ _ _ _ _ _ _ _ _ h=>nomatch h
section
variable {R:Type}{P:Program}{E:Env}{Ψ:bA->Option hJ}{Ξ:vq}{ω:aq}{a:Act}{w:World}{s:S}{k:S->Option R}{r:R}{o:Oper}{Q:Exit->Act->World->Prop}
theorem jM (A:bD P E) (D:eA P E Ψ) (h:Rel H ω a w s) (hd:∀d,o.dst=some d->d<a.tmps.size)
  (e:aL E (av R) (tab Ψ R) o s k=some r):o.wp P a w (Ends H ω a w o.dst k r) Q:=by
 cases g:o.op with
 |move x=>exact ud (E:=E) (.inl g) h hd (by simp_all[aL])
 |assign x=>exact ud (E:=E) (.inr g) h hd (by simp_all[aL])
 |pick c x y=>exact AJ (E:=E) g h hd (by simp_all[aL])
 |alloc t=>grind[yM]
 |box t x=>exact CG A g h hd e
 |build t I=>grind[yN]
 |buildSlice t n I=>grind[pT]
 |load t x=>exact AI A g h hd e
 |store t p v=>grind[yS]
 |nilCheck x=>grind[sK]
 |binOp G t x y M=>exact CF A g h hd e
 |unOp G t x=>exact Ds g h hd e
 |convert J C x=>grind[uW]
 |makeFunc fn first captured=>
  cases fn with
  |func f=>grind[sJ]
  |_=>unfold aL at e;simp only[g]at e;cases e
 |makeSlice t n c=>grind[r0]
 |makeMap t r=>grind[uZ]
 |lookup t m x ok=>grind[w8]
 |mapUpdate t m x v=>grind[lD]
 |slice t x L K mx=>grind[yQ]
 |fieldAddr t x f=>grind[rY]
 |field t x f=>grind[yO]
 |indexAddr t x i=>grind[rZ]
 |index t x i=>grind[yP]
 |extract t i=>exact uX g h hd e
 |call c=>
  obtain⟨z,args,j⟩:=c;cases z with
  |value f=>exact D H R o f args j ω a w s k r Q g h hd e
  |invoke _ _=>unfold aL at e;simp only[g]at e;cases u:Nat.beq args.size j.size <;> rw[u]at e <;> cases e
  |builtin b=>
   have F:args.size=j.size:=by
    unfold aL at e;simp only[g]at e;cases u:Nat.beq args.size j.size with
    |true=>exact bc u
    |false=>rw[u]at e;cases e
   by_cases B:b=.append
   .subst B;grind[step_append]
   .by_cases l:b=.len\/b=.min\/b=.max
    .grind[yR]
    .exfalso;have q:Nat.beq args.size j.size=true:=by grind[Nat.beq_refl]
     unfold aL at e;simp only[g,q,aJ]at e;unfold dD at e;split at e <;> first|exact B rfl|exact l (.inl rfl)|exact l (.inr (.inl rfl))|exact l (.inr (.inr rfl))|cases e
 |_=>unfold aL at e;simp only[g]at e;cases e
def ua (A:bD P E) (z:eA P E Ψ) (B:jm P E Ξ) (h:Rel H ω a w s) (hd:∀d,o.dst=some d->d<a.tmps.size)
  (b:qi E (av R) (tab Ψ R) (mi Ξ R) o s k=some r):o.wp P a w (Ends H ω a w o.dst k r) Q:=by
 unfold qi at b;split at b
 .rename_i c F;obtain⟨m,args,g⟩:=c;simp only at b;split at b
  .rename_i f;split at b
   .rename_i t j;have I:∃e,Ξ f=some e/\t=e R:=by
     unfold mi at j;cases G:Ξ f with
     |none=>rw[G]at j;cases j
     |some e=>grind
    obtain⟨e,y,rfl⟩:=I;cases i:Nat.beq args.size g.size with
    |false=>rw[i]at b;cases b
    |true=>rw[i]at b;exact B H R o f e args g ω a w s k r Q F y (bc i) h hd b
   grind[jM]
  grind[jM]
 .split at b
  .rename_i D;obtain⟨L,J,n⟩:=Ar h D;refine Oper.wp_mono (λM N C=>?_) (jM (Q:=Q) A z J hd b);obtain⟨l,K,p,q,u,v,x⟩:=C;exact⟨l,K,p,n.trans q,u,v,x⟩
  grind[jM]
 .grind[w7]
 grind[jM]
def FV:Exit->Ex->Prop
 |.normal,.normal=>True
 |.exit i,.exit j=>i=j
 |.ret,.ret=>True
 |_,_=>False
def Post(H:Nat->Value){R:Type}(U:Nat->Prop)(h:aq)(a:Act)(w:World)(k:Ex->S->Option R)(r:R):Exit->Act->World->Prop:=λe c g=>∃d b f,FV e d/\Rel H b c g f/\cH h w b g/\k d f=some r/\c.tmps.size=a.tmps.size/\∀j,U j->c.tmps.getD j undef=a.tmps.getD j undef
def oc{ops:Array Oper}{a:Array Value}{j t:Nat}{b:Bool}(e:(ops[j]?).bind (·.dst)=some t)(c:a.getD t undef=.bool b):yielded ops a j=some b:=by
 unfold yielded;rw[e];simp only[vP];rw[fc]at c;cases d:a[t]? with
 |none=>rw[d]at c;cases c
 |some v=>grind
theorem mE{ops:Array Oper}{a:Array Value}{j t:Nat}(d:(ops[j]?).bind (·.dst)=some t)(b:a.getD t undef=undef):yielded ops a j=none:=by
 unfold yielded;rw[d];simp only[vP];rw[fc]at b;cases c:a[t]? with
 |none=>rfl
 |some v=>rw[c]at b;simp at b;subst b;rfl
def uQ(K:bD P E)(J:eA P E Ψ)(L:jm P E Ξ){ops:Array Oper}{U:Nat->Prop}:∀(l:List Oper) (n:aq) (a:Act) (w:World) (s:S) (k:S->Option R) (g:Exit->Act->World->Prop),(∀o∈l,∀j,U j->o.dst≠some j)->a.tmps.size=E.nt->Rel H n a w s->lq E (av R) (tab Ψ R) (mi Ξ R) ops l s k=some r ->
  (∀q y B F,Rel H q y B F->cH n w q B->k F=some r->y.tmps.size=a.tmps.size->(∀j,U j->y.tmps.getD j undef=a.tmps.getD j undef)->g .normal y B)->wpList P ops g l a w
 |[],n,a,w,s,k,g,_,_,h,c,M=>M n a w s h (cH.refl _ _) c rfl (λ_ _=>rfl)
 |o::rest,n,a,w,s,k,g,hU,Q,h,c,M=>by
  simp only[lq]at c;cases f:qd E o.dst with
  |false=>rw[f]at c;cases c
  |true=>
   rw[f]at c;simp only[aJ]at c;have hd:∀d,o.dst=some d->d<a.tmps.size:=by intro d e;rw[e]at f;have I:d+1<=E.nt:=bn f;rw[Q];exact I
   have z:∀X∈rest,∀j,U j->X.dst≠some j:=λX T=>hU X (by simp[T]);have N:=hU o (by simp);have yes:∀(u:S),Rel H n a w u->(qi E (av R) (tab Ψ R) (mi Ξ R) o u λA=>lq E (av R) (tab Ψ R) (mi Ξ R) ops rest A k)=some r->o.wp P a w (wpList P ops g rest) g:=by intro u G x;refine Oper.wp_mono (λy B v=>?_) (ua K J L G hd x);obtain⟨q,F,g1,g2,g3,Z,g5⟩:=v;refine uQ K J L rest q y B F k g z (Z.trans Q) g1 g3 (λC Y w2 s2 q1 q2 q3 q4 q5=>?_);exact M C Y w2 s2 q1 (g2.trans q2) q3 (q4.trans Z) (λj hj=>(q5 j hj).trans (g5 j (N j hj)))
   have no:∀(u:S),Rel H n a w u->lq E (av R) (tab Ψ R) (mi Ξ R) ops rest (u.bI o.dst (.one .undef)) k=some r->wpList P ops g rest (a.put o.dst undef) w:=by
    intro u G x;have I:Rel H n (a.put o.dst undef) w (u.bI o.dst (.one .undef)):=G.bI hd (t:=.one .undef) rfl;refine uQ K J L rest n _ w _ k g z ((jJ _ _ _).trans Q) I x (λC Y w2 s2 q1 q2 q3 q4 q5=>?_)
    grind[jJ,lT]
   unfold wpList;cases O:o.guard with
   |none=>grind[Region.wanted]
   |some gw=>
    obtain⟨j,m⟩:=gw;rw[O]at c;simp only at c;cases D:(ops[j]?).bind (·.dst)with
    |none=>rw[D]at c;cases c
    |some t=>
     rw[D]at c;simp only at c;have i:=h.slots t;have main:∀b:Bool,cQ H w n s (a.tmps.getD t undef) (.one (.val .bool (real.mj b))) ->
       (bif b then(bif m then qi E (av R) (tab Ψ R) (mi Ξ R) o (s.set t (.one (.val .bool (real.mj true)))) (λA=>lq E (av R) (tab Ψ R) (mi Ξ R) ops rest A k)else lq E (av R) (tab Ψ R) (mi Ξ R) ops rest ((s.set t (.one (.val .bool (real.mj true)))).bI o.dst (.one .undef)) k)
        else(bif m then lq E (av R) (tab Ψ R) (mi Ξ R) ops rest ((s.set t (.one (.val .bool (real.mj false)))).bI o.dst (.one .undef)) k else qi E (av R) (tab Ψ R) (mi Ξ R) o (s.set t (.one (.val .bool (real.mj false)))) (λA=>lq E (av R) (tab Ψ R) (mi Ξ R) ops rest A k)))=some r ->
       if Region.wanted o (yielded ops a.tmps)then o.wp P a w (wpList P ops g rest) g\/(o.asks P a w/\LetsOut g)else wpList P ops g rest (a.put o.dst undef) w:=by
      intro b i hk';have V:a.tmps.getD t undef=.bool b:=i;have W:=oc (ops:=ops) D V;have hw:Region.wanted o (yielded ops a.tmps)=(some b==some m):=by simp[Region.wanted,O,W]
      rw[hw];have hset:=h.reset i
      grind
     cases p:s.sl t with
     |one l=>
      rw[p]at c i;cases l with
      |val tt b0=>
       cases tt with
       |bool=>exact main b0 i c
       |_=>cases c
      |undef=>have V:a.tmps.getD t undef=undef:=i;have W:=mE (ops:=ops) D V;rw[dS (by simp[Region.wanted,O,W])];exact no s h c
      |_=>cases c
     |agg _=>rw[p]at c;cases c
     |ol _=>rw[p]at c;cases c
     |pQ _ _=>rw[p]at c;cases c
end
end Go.R
namespace Go.R
section
variable {R:Type}{E:Env}{Ψ:bA->Option hJ}
noncomputable def step1(E:Env)(a:bA->Option hJ)(o:Oper)(s:S):Option S:=aL E (av S) (tab a S) o s some
theorem ai{α:Type}{x:Option α}{f:α->Option R}{g:α->Option S}{k:S->Option R}(h:∀y,f y=(g y).bind k):af (av R) x f=(af (av S) x g).bind k:=by
 cases x with
 |none=>rfl
 |some y=>exact h y
def aA{b:Bool}{x y:Option R}{a c:Option S}{k:S->Option R}(d:x=a.bind k)(e:y=c.bind k):(bif b then x else y)=(bif b then a else c).bind k:=by
 grind
theorem qK(b:Bool)(a:BinOp)(x y:L)(f:L->Option R)(g:L->Option S)(k:S->Option R)(h:∀l,f l=(g l).bind k):kX (av R) b a x y f=(kX (av S) b a x y g).bind k:=by
 unfold kX;cases x with
 |val t x=>
  cases y with
  |val u y=>
   cases t <;> cases u <;> simp only[] <;> first
    |rfl
    |(cases a <;> first
      |rfl
      |exact aA rfl (h _)
      |exact aA (h _) rfl
      |exact h _
      |(simp only[];split <;> first|rfl|exact h _|exact aA rfl (h _)))
    |(cases b <;> cases a <;> first|rfl|exact h _)
    |skip
  |_=>cases t <;> rfl
 |_=>rfl
def uV(d:Nat)(s:S)(x:bK)(c:Cont real)(b:Bool)(l h:IV)(f:bK->S->Option R)(g:bK->S->Option S)(k:S->Option R)(a:∀v s,f v s=(g v s).bind k):eS E (av R) d s x c b l h f=(eS E (av S) d s x c b l h g).bind k:=by
 unfold eS;cases x with
 |one q=>
  cases q with
  |ref id e i p=>
   cases p with
   |nil=>simp only[];refine aA (a _ _) (aA (aA rfl (a _ _)) (a _ _))
   |cons _ _=>rfl
  |_=>exact a _ _
 |_=>exact a _ _
theorem yK(d t:Nat)(s:S)(x:bK)(e a mx:Option Operand)(f:bK->S->Option R)(g:bK->S->Option S)(k:S->Option R)(b:∀v s,f v s=(g v s).bind k):jL E (av R) d t s x e a mx f=(jL E (av S) d t s x e a mx g).bind k:=by
 unfold jL;refine ai λq=>ai λc=>aA (aA (b _ _) ?_) rfl;cases mx with
 |some _=>rfl
 |none=>exact ai λl=>ai λh=>aA (uV _ _ _ _ _ _ _ _ _ _ b) rfl
theorem s6(F:hJ)(d:Nat)(args:List bK)(s:S)(f:bK->S->Option R)(g:bK->S->Option S)(k:S->Option R)(a:∀v s,f v s=(g v s).bind k):jU (av R) (F.callee R) d args s f=(jU (av S) (F.callee S) d args s g).bind k:=by
 unfold jU;refine ai λb=>ai λe=>ai λx=>?_;show(F.fn x).bind _=((F.fn x).bind _).bind k;cases F.fn x with
 |none=>rfl
 |some y=>exact ai λc=>a _ _
theorem z8(F:hJ)(d:Nat)(args:List bK)(s:S)(f:bK->S->Option R)(g:bK->S->Option S)(k:S->Option R)(e:∀v s,f v s=(g v s).bind k):nc (av R) (F.callee R) d args s f=(nc (av S) (F.callee S) d args s g).bind k:=by
 unfold nc;refine aA (aA ?_ (aA (ai λr=>ai λx=>?_) rfl)) rfl
 .cases a:dO (aD d 0 0+2047) F.args args s with
  |none=>
   have b:dO (aD d 0 0+2047) (F.callee R).args args s=none:=a;have c:dO (aD d 0 0+2047) (F.callee S).args args s=none:=a
   grind[s6]
  |some q=>
   have b:dO (aD d 0 0+2047) (F.callee R).args args s=some q:=a;have c:dO (aD d 0 0+2047) (F.callee S).args args s=some q:=a
   grind[s6,ai]
 .show(F.fn x).bind _=((F.fn x).bind _).bind k;cases F.fn x with
  |none=>rfl
  |some y=>exact ai λh=>e _ _
theorem uy(d:Nat)(b:Builtin)(a:List Nat)(args:List bK)(s:S)(f:bK->S->Option R)(g:bK->S->Option S)(k:S->Option R)(c:∀v s,f v s=(g v s).bind k):dD E (av R) d b a args s f=(dD E (av S) d b a args s g).bind k:=by
 unfold dD;split
 .grind[ai]
 .grind[ai]
 .grind[ai]
 .refine ai λq=>ai λ_=>ai λe=>ai λh=>aA rfl ?_;split
  .rfl
  .refine aA ?_ ?_
   .split
    .refine aA ?_ rfl;split
     .exact aA (c _ _) rfl
     .rfl
    .rfl
   .split
    .exact aA (c _ _) rfl
    .rfl
 .rfl
def AG(o:Oper)(s:S)(k:S->Option R):aL E (av R) (tab Ψ R) o s k=(step1 E Ψ o s).bind k:=by
 unfold step1 aL;have J:∀(v:bK) (s:S),k (s.bI o.dst v)=(some (s.bI o.dst v)).bind k:=λ_ _=>rfl;cases o.op with
 |pick c a b=>exact ai λc=>aA rfl rfl
 |alloc t=>grind[ai]
 |box t x=>exact ai λi=>ai λv=>aA (aA (ai λr=>rfl) rfl) rfl
 |build t G=>exact ai λi=>aA (ai λA=>rfl) rfl
 |buildSlice t n G=>exact ai λr=>aA (aA (ai λlss=>ai λq=>ai λx=>rfl) (ai λq=>rfl)) rfl
 |load t p=>
  refine ai λi=>?_;cases ev E s 0 p with
  |one l=>grind[ai]
  |_=>rfl
 |store t p v=>
  refine ai λi=>ai λv=>aA ?_ rfl;cases ev E s 0 p with
  |one l=>grind[ai]
  |_=>rfl
 |nilCheck x=>
  simp only[];cases ev E s 0 x with
  |one l=>
   cases l with
   |ptr id g d=>grind[ai]
   |bH id g h p j d=>exact ai λc=>aA rfl rfl
   |_=>rfl
  |_=>rfl
 |binOp u t x y O=>
  simp only[];cases gb E s u t x y with
  |some l=>rfl
  |none=>
  simp only[];cases ev E s t x with
  |one x=>
   cases ev E s t y with
   |one y=>grind[qK]
   |_=>rfl
  |agg xs=>
   cases ev E s t y with
   |agg N=>exact ai λi=>ai λb=>by cases u <;> rfl
   |_=>rfl
  |ol _=>rfl
  |pQ _ _=>rfl
 |unOp u t x=>
  simp only[];cases u <;> first|rfl|skip
  all_goals (cases ev E s t x with
   |one l=>cases l with
    |val z y=>cases z <;> rfl
    |_=>rfl
   |_=>rfl)
 |convert H C x=>
  refine ai λ_=>ai λi=>aA rfl ?_;split
  .rfl
  .refine ai λ_=>ai λ_=>aA rfl (ai λc=>aA ?_ rfl);split <;> rfl
  .rfl
 |makeFunc fn first captured=>
  cases fn with
  |func f=>exact aA (ai λB=>rfl) rfl
  |_=>rfl
 |makeSlice t n c=>exact ai λr=>ai λL=>aA (aA rfl rfl) rfl
 |makeMap t M=>exact ai λk=>aA rfl rfl
 |lookup t m x ok=>
  refine ai λD=>aA rfl ?_;split
  .refine ai λq=>aA ?_ rfl;split <;> rfl
  .refine aA ?_ rfl;split <;> rfl
  .rfl
 |mapUpdate t m x v=>
  refine ai λD=>?_;split
  .refine ai λq=>aA ?_ rfl;split <;> rfl
  .rfl
 |slice t x K I mx=>grind[yK]
 |fieldAddr t x f=>
  refine ai λi=>ai λq=>aA rfl ?_;cases ev E s 0 x with
  |one l=>
   cases l with
   |ptr id g d=>grind[ai]
   |bH id g h p j d=>exact ai λc=>aA rfl rfl
   |_=>rfl
  |_=>rfl
 |field t x f=>
  refine ai λi=>ai λq=>aA rfl ?_;cases ev E s t x with
  |agg ls=>exact aA rfl rfl
  |_=>rfl
 |indexAddr t x i=>
  refine ai λi=>ai λq=>?_;cases ev E s t x with
  |one l=>
   cases l with
   |val z y=>
    cases z with
    |sl e A=>exact aA (aA rfl rfl) rfl
    |_=>rfl
   |ref id g h p=>exact ai λc=>aA (aA (aA rfl rfl) rfl) rfl
   |_=>rfl
  |_=>rfl
 |index t x i=>exact aA (ai λi=>ai λx=>aA rfl rfl) rfl
 |extract t i=>
  simp only[];cases ev E s 0 t with
  |ol A=>grind[ai]
  |_=>rfl
 |call c=>
  refine aA ?_ rfl;cases c.callee with
  |builtin b=>grind[uy]
  |value f=>
   simp only[];cases ev E s 0 f with
   |one l=>
    cases l with
    |fn w B=>
     simp only[];unfold tab;cases Ψ (w,wB ((c.args.toList.zip c.argTypes.toList).map λp=>ev E s p.2 p.1))with
     |none=>rfl
     |some F=>grind[af,z8]
    |_=>rfl
   |_=>rfl
  |invoke _ _=>rfl
 |_=>rfl
end
abbrev Sl:=Nat->bK
structure Fr where
 sl:Sl
 F:Nat->Bool
 t:Nat->fU real
def St.mx(s:S)(f:Fr):S:=⟨f.sl,λid=>bif f.F id then s.ob id else f.t id⟩
section
variable {f:Fr}
theorem cq{s:S}{id:Nat}(h:f.F id=true):(s.mx f).ob id=s.ob id:=by show(bif f.F id then s.ob id else f.t id)=_;rw[h];rfl
theorem Cn{s:S}{id:Nat}(h:f.F id=true)(q:fU real):(s.mx f).zP id q=(s.zP id q).mx f:=by
 unfold St.mx St.zP
 grind[Nat.eq_of_beq_eq_true]
theorem dx{s:S}{id:Nat}(h:f.F id=true)(a:Bool)(o:Ob real):(s.mx f).bq id a o=(s.bq id a o).mx f:=by
 grind[St.bq,cq,Cn]
theorem eu{s:S}{id:Nat}(h:f.F id=true)(o:Ob real):(s.mx f).new id o=(s.new id o).mx f:=by
 grind[St.new,cq,Cn]
def jc(f:Fr)(a:List Nat):Prop:=∀id∈a,f.F id=true
def jc.iP{x y:List Nat}(h:jc f (x++y)):jc f x/\jc f y:=⟨λid a=>h id (aW.2 (.inl a)),λid a=>h id (aW.2 (.inr a))⟩
def jW(f:Fr)(ls:List L):Prop:=∀l∈ls,jc f l.aK
def jW.hd{l:L}{ls:List L}(h:jW f (l::ls)):jc f l.aK:=h l (by simp)
def jW.tl{l:L}{ls:List L}(h:jW f (l::ls)):jW f ls:=λx a=>h x (by simp[a])
def jc.ref{id g h:Nat}{p:iU}(a:jc f (Lf.aK (A:=real) (.ref id g h p))):f.F id=true:=a id (by simp[Lf.aK])
def jc.ptr{id g a:Nat}(b:jc f (Lf.aK (A:=real) (.ptr id g a))):f.F id=true:=b id (by simp[Lf.aK])
def jc.bH{id g h off:Nat}{p:iU}{i:IV}(a:jc f (Lf.aK (A:=real) (.bH id g h p i off))):f.F id=true:=a id (by simp[Lf.aK])
def jc.cD{id g:Nat}(a:jc f (Lf.aK (A:=real) (.cD id g))):f.F id=true:=a id (by simp[Lf.aK])
def i6(s:S)(f:Fr)(a:List Nat):Prop:=∀id∈a,∀ls,(s.ob id).o=.blk ls->jW f ls
def gO{s:S}{id:Nat}(h:f.F id=true)(g a:Nat)(p:iU):(s.mx f).cont id g a p=s.cont id g a p:=by unfold St.cont;rw[cq h]
def gj{s:S}{id:Nat}(h:f.F id=true)(g:Nat):dm (s.mx f) id g=dm s id g:=by unfold dm;rw[cq h]
def uN{s:S}{id:Nat}(h:f.F id=true)(g:Nat):sy (s.mx f) id g=sy s id g:=by unfold sy;rw[cq h]
def w6{s:S}{l:L}(h:jc f l.aK):eT (s.mx f) l=eT s l:=by
 cases l with
 |ref id g b p=>simp only[eT];rw[gO h.ref]
 |ptr id g a=>simp only[eT];rw[gj h.ptr]
 |bH id g b p i a=>simp only[eT];rw[gO h.bH]
 |cD id g=>simp only[eT];rw[uN h.cD]
 |_=>rfl
def jx{s:S}{v:bK}(h:jW f v.gG):cells? (s.mx f) v=cells? s v:=by
 cases v with
 |one l=>simp only[cells?];rw[w6 (h l (by simp[TV.gG]))]
 |agg ls=>
  have:ls.all (eT (s.mx f))=ls.all (eT s):=by
   have h:jW f ls:=h;induction ls with
   |nil=>rfl
   |cons l ls a=>simp only[gL];rw[w6 h.hd,a h.tl h.tl]
  simp only[cells?];rw[this]
 |ol _=>rfl
 |pQ _ _=>rfl
theorem j0{s:S}{v:bK}{ls:List L}(h:cells? s v=some ls):ls=v.gG:=by
 cases v with
 |one l=>
  simp only[cells?]at h;cases a:eT s l <;> rw[a]at h
  .cases h
  .exact(aG h).symm
 |agg l=>
  simp only[cells?]at h;cases a:l.all (eT s) <;> rw[a]at h
  .cases h
  .exact(aG h).symm
 |ol _=>cases h
 |pQ _ _=>cases h
def Cc{s:S}{l:L}(h:jc f l.aK)(b:Bool)(n:Nat):jg (s.mx f) b n l=jg s b n l:=by
 cases l with
 |ptr id g a=>simp only[jg];rw[gj h.ptr]
 |bH id g d p i a=>
  have c:xA (s.mx f) id g p i=xA s id g p i:=by unfold xA;rw[cq h.bH]
  simp only[jg];rw[gO h.bH,c]
 |_=>rfl
def jz{s:S}{v:bK}(h:jW f v.gG):gC (s.mx f) v=gC s v:=by
 cases v with
 |one l=>
  cases l with
  |ref id g a p=>simp only[gC];exact gO (h (.ref id g a p) (by simp[TV.gG])).ref _ _ _
  |val t x=>cases t <;> rfl
  |_=>rfl
 |_=>rfl
def rJ(deep:Bool)(t:Ty)(l:L)(s:S)(h:jc f l.aK):bF (A:=real) deep t l (s.mx f)=(bF (A:=real) deep t l s).map λq=>(q.1,q.2.mx f):=by
 cases l with
 |val u y=>
  cases u <;> cases deep <;> simp only[bF,aJ,cz] <;> first
   |rfl
   |(split <;> rfl)
 |eI e c=>cases t <;> simp only[bF] <;> first|rfl|(split <;> rfl)
 |ref id g i p=>
  cases p with
  |cons _ _=>cases t <;> rfl
  |nil=>
   have a:=h.ref;have b:=cq (s:=s) a;simp only[bF,b];cases Nat.beq (s.ob id).g g with
   |false=>rfl
   |true=>
    simp only[aJ];cases (s.ob id).o with
    |arr e c d x=>grind[dx]
    |bQ e c x=>grind
    |blk _=>rfl
    |gone=>rfl
    |mp _ _=>rfl
 |_=>cases t <;> rfl
def rL(deep:Bool):∀(a:ar) (ls:List L) (s:S),jW f ls->eR (A:=real) deep a ls (s.mx f)=(eR (A:=real) deep a ls s).map λq=>(q.1,q.2.mx f)
 |.nil,[],_,_=>rfl
 |.nil,_::_,_,_=>rfl
 |.cons _ _,[],_,_=>rfl
 |.cons t ts,l::ls,s,h=>by
  simp only[eR];rw[rJ _ _ _ _ h.hd];cases bF (A:=real) deep t l s with
  |none=>rfl
  |some q=>
   simp only[cZ];rw[rL deep ts ls q.2 h.tl]
   grind
def uw(e:Nat)(d:ar)(deep:Bool)(l:L)(s:S)(h:jc f l.aK):eB (A:=real) e d deep l (s.mx f)=(eB (A:=real) e d deep l s).map λq=>(q.1,q.2.mx f):=by
 cases l with
 |eI i a=>grind[eB]
 |ref id g k p=>
  cases p with
  |cons _ _=>rfl
  |nil=>
   have b:=h.ref;have c:=cq (s:=s) b;simp only[eB,c];cases Nat.beq (s.ob id).g g with
   |false=>rfl
   |true=>
    simp only[aJ];cases (s.ob id).o with
    |arr i a j x=>grind[dx]
    |_=>rfl
 |_=>rfl
def Er(k:IntKind)(l:L)(s:S)(h:jc f l.aK):uM (A:=real) k l (s.mx f)=(uM (A:=real) k l s).map λq=>(q.1,q.2.mx f):=by
 cases l with
 |cD id g=>
  have a:=h.cD;have b:=cq (s:=s) a;simp only[uM,b];cases Nat.beq (s.ob id).g g with
  |false=>rfl
  |true=>
   simp only[aJ];cases (s.ob id).o with
   |mp c x=>grind[dx]
   |_=>rfl
 |_=>rfl
def CI(k:K)(l:L)(s:S)(h:jc f l.aK):cI k l (s.mx f)=(cI k l s).map λq=>(q.1,q.2.mx f):=by
 cases k with
 |val t=>simp only[cI];rw[rJ _ _ _ _ h];cases bF (A:=real) false t l s <;> rfl
 |arr e a deep=>simp only[cI];rw[uw _ _ _ _ _ h];cases eB (A:=real) e a deep l s <;> rfl
 |mp b=>simp only[cI];rw[Er _ _ _ h];cases uM (A:=real) b l s <;> rfl
theorem gY:∀(ks:List K) (ls:List L) (s:S),jW f ls->takes ks ls (s.mx f)=(takes ks ls s).map λq=>(q.1,q.2.mx f)
 |[],[],_,_=>rfl
 |[],_::_,_,_=>rfl
 |_::_,[],_,_=>rfl
 |k::ks,l::ls,s,h=>by
  simp only[takes];rw[CI _ _ _ h.hd];cases cI k l s with
  |none=>rfl
  |some q=>simp only[cZ];rw[gY ks ls q.2 h.tl];cases takes ks ls q.2 <;> rfl
theorem j5(b:ar)(c:cU real)(s:S)(h:jc f c.aK)(e:i6 s f c.aK):bM b c (s.mx f)=(bM b c s).map λq=>(q.1,q.2.mx f):=by
 cases c with
 |ro d x=>grind[bM]
 |ptr id g=>
  have a:f.F id=true:=h id (by simp[cU.aK]);simp only[bM,gj a];cases i:dm s id g with
  |none=>rfl
  |some ls=>
   simp only[];have j:jW f ls:=e id (by simp[cU.aK]) ls (by
    grind[dm])
   grind[gY,cq,dx]
def i6.Du{s s':S}{b:List Nat}(h:i6 s f b)(d:df s s'):i6 s' f b:=λid c ls a=>h id c ls (by rw[<-d.blk a];exact a)
def i6.iP{s:S}{x y:List Nat}(h:i6 s f (x++y)):i6 s f x/\i6 s f y:=⟨λid a=>h id (aW.2 (.inl a)),λid a=>h id (aW.2 (.inr a))⟩
theorem pN:∀(a:List ar) (b:List (cU real)) (s:S),jc f (b.flatMap cU.aK)->i6 s f (b.flatMap cU.aK)->bX a b (s.mx f)=(bX a b s).map λq=>(q.1,q.2.mx f)
 |[],[],_,_,_=>rfl
 |[],_::_,_,_,_=>rfl
 |_::_,[],_,_,_=>rfl
 |g::d,c::b,s,h,e=>by
  rw[ou]at h e;simp only[bX];rw[j5 _ _ _ h.iP.1 e.iP.1];cases i:bM g c s with
  |none=>rfl
  |some q=>
   simp only[cZ];rw[pN d b q.2 h.iP.2 (e.iP.2.Du (fP i))]
   grind
def uf(ks:List K)(id g:Nat)(s:S)(a:f.F id=true)(c:∀ls,(s.ob id).o=.blk ls->jW f ls):bL (.blk ks) (.one (.ptr id g 0)) (s.mx f)=(bL (.blk ks) (.one (.ptr id g 0)) s).map λq=>(q.1,q.2.mx f):=by
 simp only[bL];rw[gj a];cases b:dm s id g with
 |none=>rfl
 |some ls=>grind[cM,dx,gY]
def AQ(c:Cp)(v:cU real)(s:S)(h:jc f v.aK)(b:i6 s f v.aK):eX c v (s.mx f)=(eX c v s).map λq=>(q.1,q.2.mx f):=by
 cases c with
 |ro d=>exact j5 _ _ _ h b
 |mu ks=>
  cases v with
  |ro _ _=>rfl
  |ptr id g=>exact uf ks id g s (h id (by simp[cU.aK])) (λls a=>b id (by simp[cU.aK]) ls a)
theorem r8:∀(a:List Cp) (b:List (cU real)) (s:S),jc f (b.flatMap cU.aK)->i6 s f (b.flatMap cU.aK)->b7 a b (s.mx f)=(b7 a b s).map λq=>(q.1,q.2.mx f)
 |[],[],_,_,_=>rfl
 |[],_::_,_,_,_=>rfl
 |_::_,[],_,_,_=>rfl
 |g::d,c::b,s,h,e=>by
  rw[ou]at h e;simp only[b7];rw[AQ _ _ _ h.iP.1 e.iP.1];cases i:eX g c s with
  |none=>rfl
  |some q=>
   simp only[cZ];rw[r8 d b q.2 h.iP.2 (e.iP.2.Du (lG i))]
   grind
def AS(c:Sh)(v:bK)(s:S)(h:jc f v.aK)(d:i6 s f v.aK):bL c v (s.mx f)=(bL c v s).map λq=>(q.1,q.2.mx f):=by
 unfold bL;split
 .grind[j5,TV.aK,TV.gG,Lf.aK,cU.aK]
 .grind[j5,cU.aK,jc,i6]
 .grind[pN,TV.aK,TV.gG,Lf.aK]
 .grind[r8,TV.aK,TV.gG,Lf.aK]
 .exact gY _ _ _ (λl b=>by grind[TV.aK,TV.gG])
 .rename_i ks ls;exact gY _ _ _ (λl b id e=>h id (lZ.2 ⟨l,b,e⟩))
 .rename_i ks id g;exact uf ks id g s (h id (by simp[TV.aK,TV.gG,Lf.aK])) (λls a=>d id (by simp[TV.aK,TV.gG,Lf.aK]) ls a)
 .rfl
def Be(f:Fr)(a:List bK):Prop:=∀v∈a,jc f v.aK
def C5(s:S)(f:Fr)(a:List bK):Prop:=∀v∈a,i6 s f v.aK
def r6:∀(a:List Sh) (b:List bK) (s:S),Be f b->C5 s f b->bz a b (s.mx f)=(bz a b s).map λq=>(q.1,q.2.mx f)
 |[],[],_,_,_=>rfl
 |[],_::_,_,_,_=>rfl
 |_::_,[],_,_,_=>rfl
 |g::a,v::b,s,h,d=>by
  simp only[bz];rw[AS _ _ _ (h v (by simp)) (d v (by simp))];cases e:bL g v s with
  |none=>rfl
  |some q=>
   simp only[cZ];rw[r6 a b q.2 (λv c=>h v (by simp[c])) (λv c=>(d v (by simp[c])).Du (lH e))]
   grind
theorem zw(id:Nat)(v:KV real)(s:S)(h:f.F id=true):dh id v (s.mx f)=((dh id v s).1,(dh id v s).2.mx f):=by
 obtain⟨k,x⟩:=v;cases k with
 |val t=>grind[dh,eu]
 |arr e a d=>grind[dh,eu,cq]
 |mp b=>grind[dh,eu,cq]
theorem nK:∀(a:List (KV real)) (id:Nat) (s:S),(∀i,id<=i->i<id+a.length->f.F i=true)->lays id a (s.mx f)=((lays id a s).1,(lays id a s).2.mx f)
 |[],_,_,_=>rfl
 |v::a,id,s,h=>by simp only[lays];rw[zw _ _ _ (h id (az _) (by simp))];simp only[];rw[nK a (id+1) _ (λi b c=>h i (by omega) (by grind))]
theorem oL:∀(a:List Cp) (c:List (KV real)) (b:Nat) (s:S),(∀i,b<=i->i<b+td a->f.F i=true)->dw b a c (s.mx f)=((dw b a c s).1,(dw b a c s).2.mx f)
 |[],_,_,_,_=>rfl
 |.ro d::r,c,b,s,h=>by
  have e:td (.ro d::r)=td r:=by simp[td,Cp.width]
  rw[e]at h;simp only[dw];cases kf (A:=real) d (c.take d.len)with
  |none=>rfl
  |some x=>simp only[];rw[oL r _ b s h]
 |.mu ks::r,c,b,s,h=>by have e:td (.mu ks::r)=(ks.length+1)+td r:=rfl;rw[e]at h;have g:=h b (az _) (by omega);simp only[dw];rw[nK _ _ _ (λi j k=>h i (by omega) (by grind))];simp only[];rw[eu g,cq g,oL r _ _ _ (λi j k=>h i (by omega) (by omega))]
def B5(b:Nat)(d:Sh)(c:List (KV real))(s:S)(e:c.length<=d.ks.length)(h:∀i,b<=i->i<b+d.width->f.F i=true):cm b d c (s.mx f)=((cm b d c s).1,(cm b d c s).2.mx f):=by
 cases d with
 |one k=>
  match c with
  |[]=>rfl
  |[v]=>grind[cm,zw,Sh.width]
  |_::_::_=>rfl
 |agg ks=>
  have e:c.length<=ks.length:=e;have j:(Sh.agg ks).width=ks.length:=rfl
  grind[cm,nK]
 |blk ks=>
  have e:c.length<=ks.length:=e;have j:(Sh.blk ks).width=ks.length+1:=rfl
  grind[cm,nK,eu,cq]
 |ro l=>grind[cm]
 |fn _ _=>rfl
 |qa g a=>
  have j:(Sh.qa g a).width=td a:=rfl
  grind[cm,oL]
def oK:∀(a:List Sh) (c:List (KV real)) (b:Nat) (s:S),(∀i,b<=i->i<b+dZ a->f.F i=true)->aV b a c (s.mx f)=((aV b a c s).1,(aV b a c s).2.mx f)
 |[],_,_,_,_=>rfl
 |e::a,c,b,s,h=>by have j:dZ (e::a)=e.width+dZ a:=rfl;simp only[aV];rw[B5 _ _ _ _ (by rw[jS];omega) (λi d g=>h i d (by omega))];simp only[];rw[oK a _ _ _ (λi d g=>h i (by omega) (by omega))]
theorem lE(deep:Bool):∀(ls:List L) (a:ar) (x:a.T) (j:Nat) (s:S),jW f ls->aN (A:=real) deep a x j ls (s.mx f)=(aN (A:=real) deep a x j ls s).map λq=>(q.1,q.2.mx f)
 |[],_,_,_,_,_=>by simp only[aN];rfl
 |l::ls,a,x,j,s,h=>by
  simp only[aN];cases cellAt (A:=real) a x j with
  |none=>rfl
  |some q=>
   obtain⟨t,y⟩:=q;simp only[];rw[rJ _ _ _ _ h.hd];cases bF (A:=real) deep t l s with
   |none=>rfl
   |some q=>
    simp only[cZ];cases setCell (A:=real) a x j ⟨t,q.1⟩with
    |none=>rfl
    |some y=>exact lE deep ls a y (j+1) q.2 h.tl
theorem AK(id h e:Nat)(b:ar)(x:List b.T)(p:iU)(i:IV)(a:Nat)(v:List L)(s:S)(d:f.F id=true)(g:jW f v):kw (A:=real) (s.mx f) id h e b x p i a v=(kw (A:=real) s id h e b x p i a v).map λq=>q.mx f:=by
 unfold kw;rw[cq d];cases (p.isEmpty||Nat.beq (s.ob id).h h)with
 |false=>rfl
 |true=>
  simp only[aJ];cases follow (A:=real) 2 e b x p with
  |none=>rfl
  |some c=>
   simp only[];rw[gY _ _ _ g];cases takes ((c.cs.kd.drop a).take v.length) v s with
   |none=>rfl
   |some q=>grind[cq,dx]
def AN(p:L)(v:List L)(s:S)(c:jc f p.aK)(l:jW f v):iv (s.mx f) p v=(iv s p v).map λq=>q.mx f:=by
 cases p with
 |ptr id g d=>
  simp only[iv,gj c.ptr];cases dm s id g with
  |none=>rfl
  |some j=>simp only[];split <;> first|rfl|(simp only[cZ];rw[dx c.ptr])
 |bH id g h p i d=>
  have a:=c.bH;have b:=cq (s:=s) a;simp only[iv,b];cases Nat.beq (s.ob id).g g with
  |false=>rfl
  |true=>
   simp only[aJ];cases (s.ob id).o with
   |arr e j k x=>grind[AK,lE,cq,dx]
   |_=>rfl
 |_=>rfl
def Alike(E:Env)(s:S)(sl:Sl)(o:Oper):Prop:=∀x∈bG o.op,∀t,ev E ⟨sl,s.ob⟩ t x=ev E s t x
end
section
variable {E:Env}{Ψ:bA->Option hJ}
def DW(a:Option Nat)(f:Fr)(b:S):S:=b.mx ⟨λi=>match a with|some d=>bif Nat.beq i d then b.sl i else f.sl i|none=>f.sl i,f.F,f.t⟩
def Dp(a:Option Nat)(f:Fr)(s:S)(v:bK):DW a f (s.bI a v)=(s.mx f).bI a v:=by
 cases a with
 |none=>rfl
 |some d=>
  unfold DW St.mx St.bI St.set
  grind
theorem aj{α:Type}{x:Option α}{f g:α->Option S}{m:S->S}(h:∀y,f y=(g y).map m):af (av S) x f=(af (av S) x g).map m:=by
 cases x with
 |none=>rfl
 |some y=>exact h y
def li{α:Type}{x:Option α}{f g:α->Option S}{m:S->S}(h:∀y,x=some y->f y=(g y).map m):af (av S) x f=(af (av S) x g).map m:=by
 cases x with
 |none=>rfl
 |some y=>exact h y rfl
def aF{b:Bool}{x y x' y':Option S}{m:S->S}(a:x=x'.map m)(c:y=y'.map m):(bif b then x else y)=(bif b then x' else y').map m:=by
 grind
def BL{b:Bool}{x y x' y':Option S}{m:S->S}(a:b=true->x=x'.map m)(c:y=y'.map m):(bif b then x else y)=(bif b then x' else y').map m:=by
 grind
theorem Db(b:Bool)(a:BinOp)(x y:L)(f g:L->Option S)(m:S->S)(h:∀l,f l=(g l).map m):kX (av S) b a x y f=(kX (av S) b a x y g).map m:=by have:=qK (R:=S) b a x y f g (λs=>some (m s)) (λl=>by rw[h l];cases g l <;> rfl);rw[this];cases kX (av S) b a x y g <;> rfl
variable {fr:Fr}
def Be.one{v:bK}{a:List bK}(h:Be fr a)(d:v∈a):jW fr v.gG:=λl c id b=>h v d id (lZ.2 ⟨l,c,b⟩)
def th{v:bK}{s:S}(h:jW fr v.gG):ic (s.mx fr) v=ic s v:=by
 unfold ic;split
 .rename_i id g a;rw[cq (h (.ref id g a []) (by simp[TV.gG])).ref]
 .rfl
def tg{v:bK}{s:S}{i:Nat}(h:jW fr v.gG)(hd:ic s v=some i):fr.F i=true:=by obtain⟨g,a,rfl,_⟩:=tj hd;exact(h (.ref i g a []) (by simp[TV.gG])).ref
def vZ(d:Nat)(b:Builtin)(i:List Nat)(args:List bK)(s:S)(f g:bK->S->Option S)(m:S->S)(j:Be fr args)(w:(match b with |.len |.min |.max=>False|_=>True)->fr.F (aD d 0 0)=true)(h:∀v A,f v (St.mx A fr)=(g v A).map m):
  dD E (av S) d b i args (s.mx fr) f=(dD E (av S) d b i args s g).map m:=by
 unfold dD;split
 .rename_i x t;rw[jz (j.one (v:=x) (by simp))]
  grind[aj]
 .exact aj λ_=>aj λ_=>h _ s
 .exact aj λ_=>aj λ_=>h _ s
 .rename_i x y t H;have w:=w trivial;have z:=j.one (v:=x) (by simp);have c:=j.one (v:=y) (by simp);rw[jz z,jz c];refine aj λq=>aj λ_=>aj λB=>aj λG=>aF rfl ?_;cases x with
  |one l=>
   cases l with
   |eI e F=>
    simp only[];refine aF ?_ ?_
    .rw[th c];cases a:ic s y with
     |none=>rfl
     |some u=>
      have r:=tg c a;simp only[];refine aF ?_ rfl;split
      .rename_i k;refine aF ?_ rfl
       grind[dx,eu,cq]
      .rfl
    split
    .rename_i k;refine aF ?_ rfl
     grind[eu,cq]
    .rfl
   |ref id C D p=>
    have o:fr.F id=true:=(z (.ref id C D p) (by simp[TV.gG])).ref;cases p with
    |nil=>
     simp only[];cases B.md with
     |zero=>rfl
     |succ n=>
      simp only[];refine aF ?_ ?_
      .rw[dx o,th c];cases a:ic (s.bq id true .gone) y with
       |none=>rfl
       |some u=>
        have r:=tg c a;simp only[];refine aF ?_ rfl;split
        .rename_i k;refine aF ?_ rfl
         grind[dx,eu,cq]
        .rfl
      split
      .rename_i k;refine aF ?_ rfl
       grind[dx,eu,cq]
      .rfl
    |cons _ _=>rfl
   |_=>rfl
  |_=>rfl
 .rfl
theorem iX{α a:Type}{o:Option α}{q:α->a}{f:a->Option S}{g:α->Option S}{m:S->S}(h:∀x,f (q x)=(g x).map m):af (av S) (o.map q) f=(af (av S) o g).map m:=by
 cases o with
 |none=>rfl
 |some x=>exact h x
def Dn{α a:Type}{o:Option α}{q:α->a}{f:a->Option S}{g:α->Option S}{m:S->S}(h:∀x,o=some x->f (q x)=(g x).map m):af (av S) (o.map q) f=(af (av S) o g).map m:=by
 cases o with
 |none=>rfl
 |some x=>exact h x rfl
theorem Cd(t:Ty)(l:L)(s:S)(h:jc fr l.aK):nj (A:=real) t l (s.mx fr)=nj t l s:=by
 cases l with
 |ref id g a p=>simp only[nj];rw[gO h.ref]
 |_=>rfl
def Ao(s0 s:S)(k:K)(l:L)(h:jc fr l.aK):jF k l (s0.mx fr) (s.mx fr)=jF k l s0 s:=by
 cases k with
 |val t=>grind[jF,Cd]
 |arr e a d=>simp only[jF];rw[uw _ _ _ _ _ h];cases eB (A:=real) e a d l s0 <;> rfl
 |mp _=>rfl
def nO(s0 s:S):∀(ks:List K) (ls:List L),jW fr ls->looks ks ls (s0.mx fr) (s.mx fr)=looks ks ls s0 s
 |[],[],_=>rfl
 |[],_::_,_=>rfl
 |_::_,[],_=>rfl
 |k::ks,l::ls,h=>by simp only[looks];rw[nO s0 s ks ls h.tl,Ao _ _ _ _ h.hd]
theorem mN(s:S)(d:ar)(c:cU real)(h:jc fr c.aK)(e:i6 s fr c.aK):ga d c (s.mx fr)=ga d c s:=by
 cases c with
 |ro _ _=>rfl
 |ptr id g=>
  have a:fr.F id=true:=h id (by simp[cU.aK]);simp only[ga,gj a];cases b:dm s id g with
  |none=>rfl
  |some ls=>exact nO s s _ _ (e id (by simp[cU.aK]) ls (cM b).2)
theorem pG(s:S):∀(a:List ar) (b:List (cU real)),jc fr (b.flatMap cU.aK)->i6 s fr (b.flatMap cU.aK)->gk a b (s.mx fr)=gk a b s
 |[],[],_,_=>rfl
 |[],_::_,_,_=>rfl
 |_::_,[],_,_=>rfl
 |e::a,c::b,h,d=>by rw[ou]at h d;simp only[gk];rw[mN _ _ _ h.iP.1 d.iP.1,pG s a b h.iP.2 d.iP.2]
def Ap(s0 s:S)(b:Sh)(v:bK)(h:jc fr v.aK)(d:i6 s fr v.aK):iS b v (s0.mx fr) (s.mx fr)=iS b v s0 s:=by
 unfold iS;split
 .grind[mN,TV.aK,TV.gG,Lf.aK,cU.aK]
 .grind[mN,cU.aK,jc,i6]
 .grind[pG,TV.aK,TV.gG,Lf.aK]
 .exact nO _ _ _ _ (λl a=>by grind[TV.aK,TV.gG])
 .rename_i ks ls;exact nO _ _ _ _ (λl a id c=>h id (lZ.2 ⟨l,a,c⟩))
 .rfl
def rB(s0 s:S):∀(a:List Sh) (b:List bK),Be fr b->C5 s fr b->dI a b (s0.mx fr) (s.mx fr)=dI a b s0 s
 |[],[],_,_=>rfl
 |[],_::_,_,_=>rfl
 |_::_,[],_,_=>rfl
 |e::a,v::b,h,d=>by simp only[dI];rw[Ap _ _ _ _ (h v (by simp)) (d v (by simp)),rB s0 s a b (λv c=>h v (by simp[c])) (λv c=>d v (by simp[c]))]
def B8(k:K)(l:L)(s:S)(h:jc fr l.aK):kJ k l (s.mx fr)=(kJ k l s).map λq=>q.mx fr:=by
 cases k with
 |val t=>rfl
 |arr e a d=>
  simp only[kJ];cases Nat.ble 1 a.len with
  |false=>rfl
  |true=>simp only[aJ];rw[uw _ _ _ _ _ h];cases eB (A:=real) e a d l s <;> rfl
 |mp _=>rfl
def yq{k:K}{l:L}{s s1:S}(h:kJ k l s=some s1):df s s1:=by
 cases k with
 |val t=>injection h with h;subst h;exact .refl _
 |arr e a d=>
  simp only[kJ]at h;cases b:Nat.ble 1 a.len with
  |false=>rw[b]at h;cases h
  |true=>
   rw[b]at h;simp only[aJ]at h;cases c:eB (A:=real) e a d l s with
   |none=>rw[c]at h;cases h
   |some q=>grind[sZ]
 |mp _=>cases h
def ru:∀ {ks:List K} {ls:List L} {s a:S},jV ks ls s=some a->df s a
 |[],[],s,a,h=>by injection h with h;subst h;exact .refl _
 |[],_::_,_,_,h=>by cases h
 |_::_,[],_,_,h=>by cases h
 |k::ks,l::ls,s,a,h=>by
  simp only[jV]at h;cases b:kJ k l s with
  |none=>rw[b]at h;cases h
  |some c=>rw[b]at h;exact(yq b).trans (ru h)
def wK:∀(ks:List K) (ls:List L) (s:S),jW fr ls->jV ks ls (s.mx fr)=(jV ks ls s).map λq=>q.mx fr
 |[],[],_,_=>rfl
 |[],_::_,_,_=>rfl
 |_::_,[],_,_=>rfl
 |k::ks,l::ls,s,h=>by
  simp only[jV];rw[B8 _ _ _ h.hd];cases kJ k l s with
  |none=>rfl
  |some a=>exact wK ks ls a h.tl
def BB:∀(ks:List K) (ls:List L) (a:List (KV real)) (s:S),jW fr ls->jf ks ls a (s.mx fr)=(jf ks ls a s).map λq=>q.mx fr:=by
 intro ks;induction ks with
 |nil=>intro ls a s _;cases ls <;> cases a <;> rfl
 |cons k ks c=>
  intro ls a s h;cases ls with
  |nil=>cases k <;> cases a <;> rfl
  |cons l ls=>
   cases k with
   |val t=>simp only[jf];exact c ls a s h.tl
   |mp _=>cases l <;> cases a <;> rfl
   |arr e m d=>
    cases a with
    |nil=>cases l with
     |ref id g h p=>cases p <;> rfl
     |_=>rfl
    |cons v a=>
     cases l with
     |eI _ _=>simp only[jf];exact c ls a s h.tl
     |ref id g n p=>
      cases p with
      |cons _ _=>rfl
      |nil=>
       obtain⟨j,x⟩:=v;cases j with
       |val _=>rfl
       |mp _=>rfl
       |arr i b f=>simp only[jf];rw[dx h.hd.ref];exact c ls a (s.bq id true (.arr i b f x)) h.tl
     |_=>rfl
def BA:∀(a:List (List K)) (ls:List L) (b:List (KV real)) (s:S),jW fr ls->(∀l∈ls,∀id g c,l=.ptr id g c->∀i,aR id<=i->i<aR id+64->fr.F i=true)->iQ a ls b (s.mx fr)=(iQ a ls b s).map λq=>q.mx fr:=by
 intro a;induction a with
 |nil=>intro ls b s _ _;cases ls <;> cases b <;> rfl
 |cons ks a m=>
  intro ls b s h e;cases ls with
  |nil=>rfl
  |cons l ls=>
   cases l with
   |ptr id g c=>
    cases c with
    |zero=>
     simp only[iQ];cases d:(Nat.ble (id+1) cO&&(Nat.ble ks.length 64&&Nat.ble ks.length b.length))with
     |false=>rfl
     |true=>simp only[aJ];rw[aQ,aQ]at d;have j:=bn d.2.1;rw[nK _ _ _ (λi f n=>e (.ptr id g 0) (by simp) id g 0 rfl i f (by grind))];simp only[];rw[dx h.hd.ptr];exact m ls _ ((lays (aR id) (b.take ks.length) s).2.bq id true (.blk (lays (aR id) (b.take ks.length) s).1)) h.tl (λl k=>e l (by simp[k]))
    |succ _=>rfl
   |_=>rfl
def BI(c:Sh)(v:bK)(h:jc fr v.aK):jW fr (c.cells v):=by
 intro l a;have dead:∀ks:List K,l∈(ks.map λ_=>(Lf.dead:L))->jc fr l.aK:=by intro ks a;obtain⟨_,_,rfl⟩:=fa.1 a;intro id b;cases b
 cases c with
 |one k=>
  cases v with
  |one e=>grind[Sh.cells,TV.aK,TV.gG]
  |_=>simp only[Sh.cells,kH]at a;subst a;intro id b;cases b
 |agg ks=>
  cases v with
  |agg ls=>
   simp only[Sh.cells]at a;cases d:Nat.beq ls.length ks.length with
   |true=>rw[d]at a;exact λid b=>h id (lZ.2 ⟨l,a,b⟩)
   |false=>grind
  |_=>exact dead ks a
 |_=>cases a
def kV:∀(b:List Sh) (c:List bK),Be fr c->jW fr (aY b c)
 |[],_,_=>λl a=>by simp[aY]at a
 |_::_,[],_=>λl a=>by simp[aY]at a
 |e::b,v::c,h=>λl a=>by
  simp only[aY,aW]at a;rcases a with a|a
  .exact BI e v (h v (by simp)) l a
  .exact kV b c (λv d=>h v (by simp[d])) l a
theorem jp:∀(b:List Cp) (a:List (cU real)) (l:L),l∈qR b a->l=.dead\/∃id g,l=.ptr id g 0/\cU.ptr id g∈a
 |[],_,l,h=>by simp[qR]at h
 |.ro _::r,[],l,h=>jp r [] l (by simpa[qR] using h)
 |.mu _::r,[],l,h=>by
  simp only[qR,ck]at h;rcases h with rfl|h
  .exact .inl rfl
  .exact jp r [] l h
 |.ro _::r,_::a,l,h=>(jp r a l (by simpa[qR] using h)).imp id λ⟨id,g,c,d⟩=>⟨id,g,c,eJ _ d⟩
 |.mu _::r,.ptr id g::a,l,h=>by
  simp only[qR,ck]at h;rcases h with rfl|h
  .grind
  .exact(jp r a l h).imp (λq=>q) λ⟨id,g,c,d⟩=>⟨id,g,c,eJ _ d⟩
 |.mu _::r,.ro _ _::a,l,h=>by
  simp only[qR,ck]at h;rcases h with rfl|h
  .exact .inl rfl
  .exact(jp r a l h).imp (λq=>q) λ⟨id,g,c,d⟩=>⟨id,g,c,eJ _ d⟩
theorem zk(b:Sh)(v:bK)(l:L)(h:l∈b.DU v):l=.dead\/v=.one l\/∃f a id g,v=.one (.fn f a)/\l=.ptr id g 0/\cU.ptr id g∈a:=by
 unfold Sh.DU at h
 grind[jp]
def vS:∀(b:List Sh) (d:List bK),Be fr d->jW fr (bV b d)
 |[],_,_=>λl a=>by simp[bV]at a
 |_::_,[],_=>λl a=>by simp[bV]at a
 |j::b,v::d,h=>λl a=>by
  simp only[bV,aW]at a;rcases a with a|a
  .have e:=h v (by simp);rcases zk j v l a with rfl|rfl|⟨f,k,id,g,rfl,rfl,m⟩
   .intro id c;cases c
   .grind[TV.aK,TV.gG]
   .intro i c;simp only[Lf.aK,kH]at c;subst c;refine e i ?_;simp only[TV.aK,TV.gG,ou,List.flatMap_nil,e9,Lf.aK]
    grind[cU.aK]
  .exact vS b d (λv e=>h v (by simp[e])) l a
theorem sV:∀(b:List Sh) (c:List bK) (id g a:Nat),(Lf.ptr id g a:L)∈bV b c->TV.one (.ptr id g a)∈c\/∃f d,TV.one (.fn f d)∈c/\cU.ptr id g∈d
 |[],_,_,_,_,h=>by simp[bV]at h
 |_::_,[],_,_,_,h=>by simp[bV]at h
 |j::b,v::c,id,g,a,h=>by
  simp only[bV,aW]at h;rcases h with h|h
  .grind[zk]
  .exact(sV b c id g a h).imp (λq=>eJ _ q) λ⟨f,d,e,i⟩=>⟨f,d,eJ _ e,i⟩
theorem wc (F:hJ) (d:Nat) (args:List bK) (s:S) (f g:bK->S->Option S) (m:S->S) (j:Be fr args) (n:C5 s fr args) (t:dZ F.bf<=2047) (p:∀i,aD d 0 0<=i->i<aD d 0 0+2048->fr.F i=true)
  (h:∀v k,f v (St.mx k fr)=(g v k).map m):jU (av S) (F.callee S) d args (s.mx fr) f=(jU (av S) (F.callee S) d args s g).map m:=by
 unfold jU;have e:qt (F.callee S).args args (s.mx fr)=(qt (F.callee S).args args s).map λq=>q.mx fr:=wK _ _ _ (kV _ _ j);rw[e];cases o:qt (F.callee S).args args s with
 |none=>rfl
 |some a=>
  simp only[cZ,af];have b:dI (F.callee S).args args (s.mx fr) (a.mx fr)=dI (F.callee S).args args s a:=rB _ _ _ _ j (λv r=>(n v r).Du (ru o));rw[b];refine aj (x:=dI (F.callee S).args args s a) λc=>aj λx=>?_;show(F.fn x).bind _=((F.fn x).bind _).map m;cases F.fn x with
  |none=>rfl
  |some y=>have l:∀c,jn (F.callee S).args args c (a.mx fr)=(jn (F.callee S).args args c a).map λq=>q.mx fr:=λc=>BB _ _ _ _ (kV _ _ j);show af (av S) (jn (F.callee S).args args _ (a.mx fr)) _=(af (av S) (jn (F.callee S).args args _ a) _).map m;rw[l];refine iX λu=>?_;rw[oK _ _ _ _ (λi e b=>p i e (by have b:i<aD d 0 0+dZ F.bf:=b;omega))];exact h _ _
theorem AE{b id g a:Nat}{p:iU}{s:S}(e:fr.F b=true)(d:fr.F id=true):iT (A:=real) b id g a p (s.mx fr)=(iT (A:=real) b id g a p s).map λq=>(q.1,q.2.1.mx fr,q.2.2):=by
 unfold iT;rw[gO d,cq d];cases s.cont id g a p with
 |none=>rfl
 |some c=>
  simp only[];split
  .grind[dx,eu,cq]
  .rfl
def oV{a id g d:Nat}{p:iU}{s:S}{r:bK×S×sM real}(h:iT (A:=real) a id g d p s=some r):
  ∃c e b x,s.cont id g d p=some c/\(s.ob id).o=.arr e b true x/\id≠a/\r=(.one (.ref a (((s.bq id true .gone).new a (.arr c.e c.cs true c.x)).ob a).g 0 []),(s.bq id true .gone).new a (.arr c.e c.cs true c.x),⟨a,(((s.bq id true .gone).new a (.arr c.e c.cs true c.x)).ob a).g,id,g,e,b,x,c,p⟩):=by
 grind[iT,Nat.beq_refl]
def AF{c:Nat}(w:fr.F c=true):∀(a:List Sh) (b:List bK) (s:S),Be fr b->dO c a b (s.mx fr)=(dO c a b s).map λq=>(q.1,q.2.1.mx fr,q.2.2):=by
 intro a;induction a with
 |nil=>intro b s _;cases b <;> rfl
 |cons f a n=>
  intro b s h;cases b with
  |nil=>cases f with
   |one k=>cases k <;> rfl
   |_=>rfl
  |cons v b=>
   have j:=n b s (λv m=>h v (by simp[m]));have other:(dO c a b (s.mx fr)).map (λr=>(v::r.1,r.2))=((dO c a b s).map λr=>(v::r.1,r.2)).map λq=>(q.1,q.2.1.mx fr,q.2.2):=by rw[j];cases dO c a b s <;> rfl
   cases f with
   |one k=>
    cases k with
    |val _=>cases v <;> exact other
    |mp _=>cases v <;> exact other
    |arr e t d=>
     cases v with
     |one l=>
      cases l with
      |ref id g i p=>
       cases p with
       |nil=>exact other
       |cons o p=>
        have u:fr.F id=true:=by have:=h (.one (.ref id g i (o::p))) (by simp);exact this id (by simp[TV.aK,TV.gG,Lf.aK])
        simp only[dO]
        grind[AE,iT]
      |_=>exact other
     |_=>exact other
   |_=>cases v <;> exact other
def oW{m:Nat}:∀ {a:List Sh} {b:List bK} {s:S} {r:List bK×S×sM real},dO m a b s=some r ->
  ∃(i id g c:Nat) (p:iU) (f:bK×S×sM real),b[i]? = some (.one (.ref id g c p))/\p≠[]/\iT (A:=real) m id g c p s=some f/\r=(b.set i f.1,f.2):=by
 intro a;induction a with
 |nil=>intro b s r h;cases b <;> cases h
 |cons n a t=>
  intro b s r h;cases b with
  |nil=>cases n with
   |one k=>cases k <;> cases h
   |_=>cases h
  |cons v b=>
   have other:(dO m a b s).map (λr=>(v::r.1,r.2))=some r->∃(i id g c:Nat) (p:iU) (f:bK×S×sM real),(v::b)[i]? = some (.one (.ref id g c p))/\p≠[]/\iT (A:=real) m id g c p s=some f/\r=((v::b).set i f.1,f.2):=by
    intro h;cases j:dO m a b s with
    |none=>rw[j]at h;cases h
    |some q=>rw[j]at h;have h:=aG h;obtain⟨i,id,g,c,p,f,u,w,x,y⟩:=t j;refine⟨i+1,id,g,c,p,f,by simpa using u,w,x,?_⟩;rw[<-h,y];rfl
   cases n with
   |one k=>
    cases k with
    |val _=>cases v <;> exact other h
    |mp _=>cases v <;> exact other h
    |arr e z d=>
     cases v with
     |one l=>
      cases l with
      |ref id g c p=>
       cases p with
       |nil=>exact other h
       |cons o p=>
        simp only[dO]at h;cases j:iT (A:=real) m id g c (o::p) s with
        |none=>rw[j]at h;cases h
        |some q=>rw[j]at h;have h:=aG h;exact⟨0,id,g,c,o::p,q,rfl,by simp,j,h.symm⟩
      |_=>exact other h
     |_=>exact other h
   |_=>cases v <;> exact other h
theorem As{q:sM real}{s:S}(f:fr.F q.nb=true)(d:fr.F q.id=true):jG (A:=real) q (s.mx fr)=(jG (A:=real) q s).map λs=>s.mx fr:=by
 unfold jG;rw[cq f,cq d];split
 .rename_i e a b y g;cases ((Nat.beq (s.ob q.id).g q.g&&Nat.beq (s.ob q.nb).g q.gn)&&(Nat.ble 1 q.g&&(b||a.plain)))with
  |false=>rfl
  |true=>
   simp only[aJ];split
   .rename_i c;cases putAt (A:=real) q.c (real.cast c y) q.e q.cs q.x q.path with
    |none=>rfl
    |some h=>grind[dx]
   .rfl
 .rfl
def BG (F:hJ) (d:Nat) (args:List bK) (s:S) (f g:bK->S->Option S) (m:S->S) (o:Be fr args) (G:C5 s fr args) (A:∀i,aD d 0 0<=i->i<aD d 0 0+2048->fr.F i=true)
  (R:∀id g u,TV.one (.ptr id g u)∈args\/(∃f D,TV.one (.fn f D)∈args/\cU.ptr id g∈D)->∀i,aR id<=i->i<aR id+64->fr.F i=true) (h:∀v C,f v (St.mx C fr)=(g v C).map m):
  nc (av S) (F.callee S) d args (s.mx fr) f=(nc (av S) (F.callee S) d args s g).map m:=by
 unfold nc;refine BL (λn=>?_) rfl;have K:dZ F.bf<=2047:=by unfold qn at n;rw[aQ]at n;exact bn n.1
 refine aF ?_ (aF ?_ rfl)
 .have w:fr.F (aD d 0 0+2047)=true:=A _ (by omega) (by omega);rw[AF w _ _ _ o];cases B:dO (aD d 0 0+2047) (F.callee S).args args s with
  |none=>grind[wc]
  |some r=>
   obtain⟨i,id,Q,T,p,Z,M,Y,N,O⟩:=oW B;obtain⟨c,e,P,x,V,W,X,L⟩:=oV N;subst L;subst O;have J:fr.F id=true:=o _ (pZ M) id (by simp[TV.aK,TV.gG,Lf.aK]);have b:∀v∈args.set i (TV.one (.ref (aD d 0 0+2047) (((s.bq id true .gone).new (aD d 0 0+2047) (.arr c.e c.cs true c.x)).ob (aD d 0 0+2047)).g 0 [])),v=TV.one (.ref (aD d 0 0+2047) (((s.bq id true .gone).new (aD d 0 0+2047) (.arr c.e c.cs true c.x)).ob (aD d 0 0+2047)).g 0 [])\/v∈args:=λv k=>by
    grind
   refine wc F d _ _ _ _ m (λv k=>?_) (λv k=>?_) K A (λv C=>?_)
   .rcases b v k with rfl|k
    .intro j H
     grind[TV.aK,TV.gG,Lf.aK]
    .exact o v k
   .intro j H ls a;have z:j≠aD d 0 0+2047:=λe=>by grind[St.new,St.aB]
    unfold St.new at a;rw[St.aU _ _ z]at a;have t:j≠id:=λe=>by grind[St.ay]
    rw[St.aO _ _ _ t]at a;rcases b v k with rfl|k
    .grind[TV.aK,TV.gG,Lf.aK]
    .exact G v k j H ls a
   grind[As,iX]
 .rw[r6 _ _ _ o G];cases bz (F.callee S).args args s with
  |none=>rfl
  |some q=>
   simp only[cZ,af];refine aj (x:=kL _ q.1) λx=>?_;show(F.fn x).bind _=((F.fn x).bind _).map m;cases F.fn x with
   |none=>rfl
   |some y=>show af (av S) (iQ (eC (F.callee S).args) (bV (F.callee S).args args) _ (q.2.mx fr)) _=(af (av S) (iQ (eC (F.callee S).args) (bV (F.callee S).args args) _ q.2) _).map m;rw[BA _ _ _ _ (vS _ _ o) (λl U id g u e=>by grind[sV])];refine iX λs2=>?_;rw[oK _ _ _ _ (λi I E=>A i I (by have E:i<aD d 0 0+dZ F.bf:=E;omega))];exact h _ _
def iZ(d:Nat)(s:S)(x:bK)(c:Cont real)(b:Bool)(l a:IV)(f g:bK->S->Option S)(m:S->S)(n:jW fr x.gG)(o:fr.F (aD d 0 0)=true)(h:∀v e,f v (St.mx e fr)=(g v e).map m):eS E (av S) d (s.mx fr) x c b l a f=(eS E (av S) d s x c b l a g).map m:=by
 unfold eS;cases x with
 |one q=>
  cases q with
  |ref id i j p=>
   have k:fr.F id=true:=(n (.ref id i j p) (by simp[TV.gG])).ref;cases p with
   |nil=>
    simp only[];refine aF (h _ s) (aF (aF rfl ?_) ?_)
    .grind[dx,eu,cq]
    grind[dx]
   |cons _ _=>rfl
  |_=>exact h _ s
 |_=>exact h _ s
end
section
variable {E:Env}{Ψ:bA->Option hJ}{fr:Fr}
def Ey(o:Oper)(s:S)(v:bK):(some ((s.mx fr).bI o.dst v):Option S)=(some (s.bI o.dst v)).map (DW o.dst fr):=by rw[cZ,Dp]
def AD(d t:Nat)(s:S)(x:bK)(j e mx:Option Operand)(f g:bK->S->Option S)(m:S->S)(i:jW fr x.gG)(k:fr.F (aD d 0 0)=true)(h:∀v z,f v (St.mx z fr)=(g v z).map m)(r:∀o,j=some o->ev E (s.mx fr) 0 o=ev E s 0 o)(p:∀o,e=some o->ev E (s.mx fr) 0 o=ev E s 0 o):
  jL E (av S) d t (s.mx fr) x j e mx f=(jL E (av S) d t s x j e mx g).map m:=by
 unfold jL;refine aj λq=>?_;rw[jz i];refine aj λc=>aF (aF (h _ s) ?_) rfl;cases mx with
 |some _=>rfl
 |none=>
  have w:∀o,j=some o->nv (ev E (s.mx fr) 0 o)=nv (ev E s 0 o):=λo u=>by rw[r o u]
  have y:∀o,e=some o->nv (ev E (s.mx fr) 0 o)=nv (ev E s 0 o):=λo u=>by rw[p o u]
  cases j with
  |none=>
   cases e with
   |none=>exact aj λl=>aj λn=>aF (iZ _ _ _ _ _ _ _ _ _ _ i k h) rfl
   |some b=>simp only[y b rfl];exact aj λl=>aj λn=>aF (iZ _ _ _ _ _ _ _ _ _ _ i k h) rfl
  |some a=>
   cases e with
   |none=>simp only[w a rfl];exact aj λl=>aj λn=>aF (iZ _ _ _ _ _ _ _ _ _ _ i k h) rfl
   |some b=>simp only[w a rfl,y b rfl];exact aj λl=>aj λn=>aF (iZ _ _ _ _ _ _ _ _ _ _ i k h) rfl
def tE(a:S)(e:Nat)(b:ar):∀(c:List Operand) (x:real.V (.sl e b)) (s:S),(∀o∈c,(∀t,ev E (a.mx fr) t o=ev E a t o)/\∀t,jW fr (ev E a t o).gG)->gH E (a.mx fr) e b c x (s.mx fr)=(gH E a e b c x s).map λq=>(q.1,q.2.mx fr)
 |[],x,s,_=>by simp only[gH];rfl
 |o::c,x,s,h=>by
  simp only[gH];rw[(h o (by simp)).1 0,jx ((h o (by simp)).2 0)];cases i:cells? a (ev E a 0 o)with
  |none=>rfl
  |some ls=>
   simp only[];have f:jW fr ls:=by grind[j0]
   rw[rL _ _ _ _ f];cases eR (A:=real) false b ls s with
   |none=>rfl
   |some q=>simp only[cZ];exact tE a e b c _ q.2 λg d=>h g (by simp[d])
def rz(a:S)(n:Nat):∀(b:List Operand),(∀o∈b,(∀t,ev E (a.mx fr) t o=ev E a t o)/\∀t,jW fr (ev E a t o).gG)->fD E (a.mx fr) n b=fD E a n b
 |[],_=>rfl
 |o::b,h=>by simp only[fD];rw[(h o (by simp)).1 0,jx ((h o (by simp)).2 0),rz a n b λd c=>h d (by simp[c])]
def ry(c:S)(n:Nat):∀(d:List Operand) (lss:List (List L)),(∀o∈d,∀t,jW fr (ev E c t o).gG)->fD E c n d=some lss->jW fr lss.flatten
 |[],lss,_,h=>by have h:=aG h;subst h;exact λl a=>by simp at a
 |o::d,lss,h,a=>by
  simp only[fD]at a;cases e:cells? c (ev E c 0 o)with
  |none=>rw[e]at a;cases a
  |some ls=>
   cases g:fD E c n d with
   |none=>rw[e,g]at a;cases a
   |some r=>
    rw[e,g]at a;simp only at a;cases i:Nat.beq ls.length n with
    |false=>rw[i]at a;cases a
    |true=>
     rw[i]at a;have a:=aG a;subst a;intro l b;rcases aW.1 b with b|b
     .rw[j0 e]at b;exact h o (by simp) 0 l b
     .exact ry c n d r (λj f=>h j (by simp[f])) g l b
def nH(a:List (Nat×Nat×Bool)){s:S}:∀(c:List (Nat×Operand)) (b:List L),(∀x∈c.map (·.2),(∀t,ev E (s.mx fr) t x=ev E s t x)/\∀t,jW fr (ev E s t x).gG)->fR a E (s.mx fr) c b=fR a E s c b
 |[],_,_=>rfl
 |(i,x)::r,b,h=>by
  have d:=h x (by simp);simp only[fR];cases a[i]? with
  |none=>rfl
  |some q=>
   simp only[];rw[d.1 0,jx (d.2 0)];cases cells? s (ev E s 0 x)with
   |none=>rfl
   |some v=>simp only[];rw[nH a r _ (λy e=>h y (by grind))]
def yb{b d:S}(a:List Operand)(h:∀x∈a,∀t,ev E d t x=ev E b t x):(a.mapM λc=>wj (ev E d 0 c))=a.mapM λc=>wj (ev E b 0 c):=by
 induction a with
 |nil=>rfl
 |cons c a e=>grind
def qp{s:S}(t:Nat)(x:Operand):(ev E s t x).aK=nQ s x:=by
 cases x with
 |tmp j=>rfl
 |const v=>
  show(gN (A:=real) E t v).aK=[]
  unfold gN;split <;> first|rfl|(split <;> rfl)
 |func f=>rfl
 | «global» g=>rfl
def En{v:bK}(h:jc fr v.aK):jW fr v.gG:=λl b id a=>h id (lZ.2 ⟨l,b,a⟩)
structure Bh (E:Env) (s:S) (fr:Fr) (o:Oper):Prop where
 ev:∀x∈bG o.op,∀t,ev E (s.mx fr) t x=Go.R.ev E s t x
 ids:yj o.op=false->∀x∈bG o.op,jc fr (nQ s x)/\i6 s fr (nQ s x)
 GN:makes o.op=true->∀i,aD (o.dst.getD 0) 0 0<=i->i<aD (o.dst.getD 0) 0 0+2048->fr.F i=true
 cells:ny s o=true->∀i,cO<=i->fr.F i=true
def zL{o:Oper}{s:S}(h:Bh E s fr o):step1 E Ψ o (s.mx fr)=(step1 E Ψ o s).map (DW o.dst fr):=by
 have d:=h.ev;have k:yj o.op=false->∀x∈bG o.op,∀t,jW fr (ev E s t x).gG:=λU x O t=>En (by rw[qp];exact(h.ids U x O).1);have Z:=h.GN;have B:=λ(s:S) (v:bK)=>Ey (fr:=fr) o s v;have G:makes o.op=true->fr.F (aD (o.dst.getD 0) 0 0)=true:=λC=>Z C _ (az _) (by omega);unfold step1 aL;cases z:o.op with
 |move x=>grind[bG]
 |assign x=>grind[bG]
 |pick c a b=>rw[z]at d;simp only[];rw[d c (by simp[bG]),d a (by simp[bG]),d b (by simp[bG])];exact aj λc=>aF (B s _) (B s _)
 |build t ps=>
  rw[z]at d k;refine aj λi=>aF ?_ rfl;rw[nH _ _ _ λx O=>⟨d x O,k rfl x O⟩]
  grind[aj]
 |load t p=>
  rw[z]at d k;simp only[];rw[d p (by simp[bG])];refine aj λi=>?_;have w:=k rfl p (by simp[bG]) 0;cases T:Go.R.ev E s 0 p with
  |one l=>rw[T]at w;simp only[];rw[Cc (w l (by simp[TV.gG]))];grind[aj]
  |_=>rfl
 |nilCheck x=>
  rw[z]at d k;simp only[];rw[d x (by simp[bG])];have w:=k rfl x (by simp[bG]) 0;cases T:Go.R.ev E s 0 x with
  |one l=>
   rw[T]at w;have w:=w l (by simp[TV.gG]);cases l with
   |ptr id g D=>simp only[];rw[gj w.ptr];grind[aj]
   |bH id g hh p j D=>simp only[];rw[gO w.bH];exact aj λc=>aF rfl (B s _)
   |ei cs y D=>exact B s _
   |_=>rfl
  |_=>rfl
 |binOp op t x y yt=>
  rw[z]at d k;simp only[];have hnt:gb E (s.mx fr) op t x y=gb E s op t x y:=by unfold gb;rw[d x (by simp[bG]),jz (k rfl x (by simp[bG]) t)]
  rw[hnt];cases gb E s op t x y with
  |some l=>exact B s _
  |none=>
  simp only[];rw[d x (by simp[bG]),d y (by simp[bG])];cases Go.R.ev E s t x with
  |one x=>
   cases Go.R.ev E s t y with
   |one y=>grind[Db]
   |_=>rfl
  |agg xs=>
   cases Go.R.ev E s t y with
   |agg ys=>refine aj λi=>aj λb=>?_;cases op <;> first|rfl|exact B s _
   |_=>rfl
  |ol _=>rfl
  |pQ _ _=>rfl
 |unOp op t x=>
  rw[z]at d;simp only[];rw[d x (by simp[bG])];cases op <;> first|rfl|skip
  all_goals (cases Go.R.ev E s t x with
   |one l=>cases l with
    |val tt y=>cases tt <;> first|rfl|exact B s _
    |_=>rfl
   |_=>rfl)
 |convert src dst x=>
  rw[z]at d k;simp only[];rw[d x (by simp[bG])];refine aj λ_=>aj λi=>aF rfl ?_;split
  .exact B s _
  .refine aj λ_=>aj λ_=>aF rfl ?_;rw[jz (k rfl x (by simp[bG]) src)];refine aj λc=>aF ?_ rfl;split
   .exact B s _
   .rfl
  .rfl
 |makeFunc fn first captured=>
  rw[z]at d;cases fn with
  |func f=>
   refine aF ?_ rfl;rw[yb _ λx O t=>d x (by simpa[bG] using O) t]
   grind[aj]
  |_=>rfl
 |fieldAddr t x f=>
  rw[z]at d k;simp only[];rw[d x (by simp[bG])];have w:=k rfl x (by simp[bG]) 0;refine aj λi=>aj λq=>aF rfl ?_;cases T:Go.R.ev E s 0 x with
  |one l=>
   rw[T]at w;have w:=w l (by simp[TV.gG]);cases l with
   |ptr id g D=>simp only[];rw[gj w.ptr];grind[aj]
   |bH id g hh p j D=>simp only[];rw[gO w.bH];exact aj λc=>aF rfl (B s _)
   |ei cs y D=>exact B s _
   |_=>rfl
  |_=>rfl
 |field t x f=>
  rw[z]at d;simp only[];rw[d x (by simp[bG])];refine aj λi=>aj λq=>aF rfl ?_;cases Go.R.ev E s t x with
  |agg ls=>exact aF (B s _) rfl
  |_=>rfl
 |indexAddr t x i=>
  rw[z]at d k;simp only[];rw[d x (by simp[bG]),d i (by simp[bG])];have w:=k rfl x (by simp[bG]) t;refine aj λi=>aj λq=>?_;cases T:Go.R.ev E s t x with
  |one l=>
   rw[T]at w;have w:=w l (by simp[TV.gG]);cases l with
   |val tt y=>
    cases tt with
    |sl e cs=>exact aF (aF (B s _) rfl) rfl
    |_=>rfl
   |ref id g hh p=>simp only[];rw[gO w.ref];exact aj λc=>aF (aF (aF (B s _) (B s _)) rfl) rfl
   |_=>rfl
  |_=>rfl
 |index t x i=>rw[z]at d;simp only[];rw[d x (by simp[bG]),d i (by simp[bG])];exact aF (aj λi=>aj λx=>aF (B s _) rfl) rfl
 |extract t i=>
  rw[z]at d;simp only[];rw[d t (by simp[bG])];cases Go.R.ev E s 0 t with
  |ol cs=>grind[aj]
  |_=>rfl
 |alloc t=>
  rw[z]at G;have G:=G rfl
  grind[aj,eu,cq]
 |box t x=>
  rw[z]at d G k;have G:=G rfl;simp only[];rw[d x (by simp[bG])];refine aj λi=>?_;rw[jx (k rfl x (by simp[bG]) t)];refine li λv I=>aF (aF ?_ ?_) rfl
  .rw[rL _ _ _ _ (by rw[j0 I];exact k rfl x (by simp[bG]) t)];cases eR (A:=real) false i.cs v s with
   |none=>rfl
   |some r=>exact B r.2 _
  grind[eu,cq]
 |buildSlice t n ps=>
  rw[z]at d G k;have G:=G rfl;simp only[];refine aj λr=>aF (aF ?_ ?_) rfl
  .rw[rz _ _ _ (λo' J=>⟨d o' (by simpa[bG] using J),k rfl o' (by simpa[bG] using J)⟩)];refine li λlss hl=>?_;rw[gY _ _ _ (ry _ _ _ _ (λo' J=>k rfl o' (by simpa[bG] using J)) hl)]
   grind[iX,aj,eu,cq]
  rw[tE _ _ _ _ _ _ (λo' J=>⟨d o' (by simpa[bG] using J),k rfl o' (by simpa[bG] using J)⟩)];cases gH (A:=real) E s r.1 r.2 (ps.toList.map (·.2)) (real.kN r.1 r.2) s with
  |none=>rfl
  |some q=>grind[af,eu,cq]
 |store t p v=>
  rw[z]at d k;simp only[];rw[d p (by simp[bG]),d v (by simp[bG])];refine aj λi=>?_;have I:=k rfl v (by simp[bG]) t;rw[jx I];refine li λv' Il=>aF ?_ rfl;have w:=k rfl p (by simp[bG]) 0;cases T:ev E s 0 p with
  |one l=>
   rw[T]at w;simp only[];rw[AN _ _ _ (w l (by simp[TV.gG])) (by rw[j0 Il];exact I)];cases iv s l v' with
   |none=>rfl
   |some s1=>exact B s1 _
  |_=>rfl
 |makeSlice t n c=>
  rw[z]at d G;have G:=G rfl;simp only[];rw[d n (by simp[bG])];refine aj λr=>aj λn'=>aF (aF ?_ rfl) rfl
  grind[eu,cq]
 |makeMap t rv=>
  rw[z]at G;have G:=G rfl;refine aj λkk=>aF ?_ rfl
  grind[eu,cq]
 |lookup t m x ok=>
  rw[z]at d k;simp only[];rw[d m (by simp[bG]),d x (by simp[bG])];have w:=k rfl m (by simp[bG]) t;refine aj λkk=>aF rfl ?_;cases C:ev E s t m with
  |one l=>
   rw[C]at w;cases l with
   |cD id g=>
    have w:=w (.cD id g) (by simp[TV.gG]);cases O:ev E s 0 x with
    |one l2=>
     cases l2 with
     |val u y=>
      simp only[];rw[uN w.cD];refine aj λq=>aF ?_ rfl;split
      .exact B s _
      .rfl
     |_=>rfl
    |_=>rfl
   |val t1 y1=>
    cases t1 with
    |map j=>
     cases O:ev E s 0 x with
     |one l2=>
      cases l2 with
      |val u y=>
       simp only[];refine aF ?_ rfl;split
       .exact B s _
       .rfl
      |_=>rfl
     |_=>rfl
    |_=>rfl
   |_=>rfl
  |_=>rfl
 |mapUpdate t m x v=>
  rw[z]at d k;simp only[];rw[d m (by simp[bG]),d x (by simp[bG]),d v (by simp[bG])];have w:=k rfl m (by simp[bG]) t;refine aj λkk=>?_;cases C:ev E s t m with
  |one l=>
   rw[C]at w;cases l with
   |cD id g=>
    have w:=w (.cD id g) (by simp[TV.gG]);cases O:ev E s 0 x with
    |one l2=>
     cases l2 with
     |val u y=>
      cases I:p9 (ev E s 4 v)with
      |none=>rfl
      |some bv=>
       simp only[];rw[uN w.cD];refine aj λq=>aF ?_ rfl;split
       .rename_i hb;rw[dx w.cD]
        grind
       .rfl
     |_=>rfl
    |_=>rfl
   |_=>rfl
  |_=>rfl
 |slice t x lo hi' mx=>rw[z]at d G k;simp only[];rw[d x (by simp[bG])];exact AD _ _ _ _ _ _ _ _ _ _ (k rfl x (by simp[bG]) t) (G rfl) (λv s'=>B s' v) (λo z=>d o (by simp[bG,z]) 0) (λo z=>d o (by simp[bG,z]) 0)
 |call c=>
  have N:=h.ids;have hcl:=h.cells;have Hq:∀args K R,c=⟨R,args,K⟩->∀l:L,((∃id g D,l=.ptr id g D)\/∃f M,l=.fn f M/\∃id g,cU.ptr id g∈M)->TV.one l∈(args.toList.zip K.toList).map (λp=>ev E s p.2 p.1)->ny s o=true:=by
   intro args K R e l hl C;obtain⟨p,Y,H⟩:=fa.1 C;unfold ny;rw[z,e];refine(gd _ _).mpr (.inl (oq.2 ⟨p.1,(List.of_mem_zip Y).1,?_⟩));have F7:∀M:List (cU real),(∃id g,cU.ptr id g∈M)->M.any cU.B1=true:=λM ⟨id,g,U⟩=>oq.2 ⟨_,U,rfl⟩;cases O:p.1 with
   |tmp j=>
    rw[O]at H;have:s.sl j=TV.one l:=H
    grind
   |const v=>rw[O]at H;have P:gN (A:=real) E p.2 v=TV.one l:=H;exfalso;unfold gN at P;rcases hl with ⟨id,g,D,rfl⟩|⟨f,M,rfl,U⟩ <;> (split at P <;> first|(cases P;done)|(split at P <;> cases P))
   |func q=>
    rw[O]at H;have P:(TV.one (.fn q []):bK)=TV.one l:=H
    grind
   | «global» _=>rw[O]at H;exfalso;rcases hl with ⟨id,g,D,rfl⟩|⟨f,M,rfl,U⟩ <;> cases H
  rw[z]at d k Z G N;obtain⟨R,args,K⟩:=c;simp only[];refine aF ?_ rfl;have W:∀(l:List (Operand×Nat)),(∀p∈l,p.1∈args.toList)->(l.map λp=>ev E (s.mx fr) p.2 p.1)=l.map λp=>ev E s p.2 p.1:=by
   grind[List.map_congr_left,bG]
  have hz:∀p∈args.toList.zip K.toList,p.1∈args.toList:=λp w=>(List.of_mem_zip w).1;rw[W _ hz];have hin:Be fr ((args.toList.zip K.toList).map λp=>ev E s p.2 p.1):=by intro v I;obtain⟨p,Y,rfl⟩:=fa.1 I;rw[qp];exact(N rfl p.1 (by grind[bG])).1
  cases R with
  |builtin b=>refine vZ _ _ _ _ _ _ _ _ hin (λC=>G ?_) (λv s'=>B s' v);cases b <;> first|rfl|cases C
  |value f=>
   simp only[];rw[d f (by simp[bG]) 0];cases hf:ev E s 0 f with
   |one l=>
    cases l with
    |fn Q M=>
     simp only[];unfold tab;cases Ψ (Q,wB ((args.toList.zip K.toList).map λp=>ev E s p.2 p.1))with
     |none=>rfl
     |some F=>
      simp only[cZ,af];have hfr:∀c∈M,jc fr c.aK/\i6 s fr c.aK:=by
       intro c U;have h1:=N rfl f (by simp[bG]);rw[<-qp (E:=E) 0,hf]at h1;have V:∀id∈c.aK,id∈(TV.one (Lf.fn Q M):bK).aK:=λid k=>by
        grind[TV.aK,TV.gG,Lf.aK]
       exact⟨λid k=>h1.1 id (V id k),λid k=>h1.2 id (V id k)⟩
      have hcap:∀c:cU real,c.tv.aK=c.aK:=λc=>by cases c <;> rfl
      refine BG F _ _ _ _ _ _ (λv I=>?_) (λv I=>?_) (Z rfl) (λid g D C=>?_) (λv s'=>B s' v)
      .rcases aW.1 I with I|I
       .exact hin v I
       grind
      .rcases aW.1 I with I|I
       .obtain⟨p,Y,rfl⟩:=fa.1 I;rw[qp];exact(N rfl p.1 (by grind[bG])).2
       grind
      .refine λi h1 _=>hcl ?_ i (eK (show cO<=aR id by unfold aR;omega) h1);rcases C with C|⟨f',HA,C,HL⟩
       .rcases aW.1 C with C|C
        .grind
        .obtain⟨c,U,X⟩:=fa.1 C;unfold ny;rw[z];refine(gd _ _).mpr (.inr ?_);cases f with
         |tmp j=>
          have:s.sl j=TV.one (Lf.fn Q M):=hf;simp only[this];refine oq.2 ⟨c,U,?_⟩;cases c with
          |ptr _ _=>rfl
          |ro _ _=>cases X
         |const v=>have P:gN (A:=real) E 0 v=TV.one (Lf.fn Q M):=hf;unfold gN at P;split at P <;> first|(cases P;done)|(split at P <;> cases P)
         |func q=>
          have P:TV.one (Lf.fn q [])=(TV.one (Lf.fn Q M):bK):=hf
          grind
         | «global» _=>cases hf
       .rcases aW.1 C with C|C
        .grind
        .obtain⟨c,_,X⟩:=fa.1 C;cases c <;> cases X
    |_=>rfl
   |_=>rfl
  |invoke _ _=>rfl
 |_=>rfl
end
section
variable {E:Env}{Ψ:bA->Option hJ}
def mX(a b:fU real):Prop:=b=a\/a.g<b.g\/(b.g=a.g/\(a.h<b.h\/a.h=b.h/\a.n<b.n))
def mX.trans{a b c:fU real}(h:mX a b)(d:mX b c):mX a c:=by
 rcases h with h|h|h
 .subst h;exact d
 .rcases d with d|d|d
  .subst d;exact .inr (.inl h)
  .exact .inr (.inl (kG h d))
  .exact .inr (.inl (by omega))
 .rcases d with d|d|d
  .subst d;exact .inr (.inr h)
  .exact .inr (.inl (by omega))
  .exact .inr (.inr (by omega))
def mX.same{a b:fU real}(h:mX a b)(c:a.g=b.g)(d:a.h=b.h/\a.n=b.n):b=a:=by
 rcases h with h|h|h
 .exact h
 .omega
 .omega
def aP(s s':S):Prop:=∀id,mX (s.ob id) (s'.ob id)
theorem aP.refl(s:S):aP s s:=λ_=>.inl rfl
def aP.trans{s s' s'':S}(h:aP s s')(a:aP s' s''):aP s s'':=λid=>(h id).trans (a id)
theorem aP.nq{s s':S}(h:s'.ob=s.ob):aP s s':=λid=>.inl (by rw[h])
def aP.zP(s:S)(i:Nat)(q:fU real)(h:mX (s.ob i) q):aP s (s.zP i q):=by
 intro id;show mX (s.ob id) (bif Nat.beq id i then q else s.ob id);cases a:Nat.beq id i with
 |true=>rw[bc a];exact h
 |false=>exact .inl rfl
theorem aP.new(s:S)(i:Nat)(o:Ob real):aP s (s.new i o):=aP.zP s i _ (.inr (.inl (kF _)))
theorem aP.bq(s:S)(i:Nat)(o:Ob real)(a:Bool:=true):aP s (s.bq i a o):=aP.zP s i _ (.inr (.inr ⟨rfl,by cases a;exact .inr ⟨rfl,kF _⟩;exact .inl (kF _)⟩))
def aP.bI(s:S)(d:Option Nat)(v:bK):aP s (s.bI d v):=aP.nq (by cases d <;> rfl)
def mQ{deep:Bool}{t:Ty}{l:L}{s:S}{q:real.V t×S}(h:bF (A:=real) deep t l s=some q):aP s q.2:=by
 unfold bF at h;split at h
 .cases deep
  .simp only[cz]at h;split at h
   .injection h with h;subst h;exact .refl _
   .cases h
  .cases h
 .cases deep
  .simp only[cz]at h;split at h
   .injection h with h;subst h;exact .refl _
   .cases h
  .cases h
 .split at h
  .injection h with h;subst h;exact .refl _
  .cases h
 .split at h
  .injection h with h;subst h;exact .refl _
  .cases h
 .rename_i id g _;cases a:Nat.beq (s.ob id).g g <;> rw[a]at h
  .cases h
  .simp only[aJ]at h;split at h
   .split at h
    .cases deep
     .simp only[cz]at h;injection h with h;subst h;exact .bq _ _ _
     .cases h
    .cases h
   .cases deep
    .simp only[cz]at h;split at h
     .injection h with h;subst h;exact .refl _
     .cases h
    .cases h
   .cases h
 .cases h
def mR{deep:Bool}:∀ {c:ar} {ls:List L} {s:S} {q:real.Vs c×S},eR (A:=real) deep c ls s=some q->aP s q.2
 |.nil,[],s,q,h=>by simp only[eR]at h;injection h with h;subst h;exact .refl _
 |.nil,_::_,s,q,h=>by cases h
 |.cons _ _,[],s,q,h=>by cases h
 |.cons t ts,l::ls,s,q,h=>by
  simp only[eR]at h;cases a:bF (A:=real) deep t l s with
  |none=>rw[a]at h;cases h
  |some p=>
   rw[a]at h;simp only[]at h;cases b:eR (A:=real) deep ts ls p.2 with
   |none=>rw[b]at h;cases h
   |some d=>
    rw[b]at h;injection h with h
    subst h;exact(show aP s d.2 from(mQ a).trans (mR b))
def pF{c:S}{e:Nat}{a:ar}:∀ {f:List Operand} {x:real.V (.sl e a)} {s:S} {q:real.V (.sl e a)×S},gH E c e a f x s=some q->aP s q.2
 |[],x,s,q,h=>by simp only[gH]at h;injection h with h;subst h;exact .refl _
 |o::f,x,s,q,h=>by
  simp only[gH]at h;cases d:cells? c (ev E c 0 o)with
  |none=>rw[d]at h;cases h
  |some ls=>
   rw[d]at h;simp only[]at h;cases b:eR (A:=real) false a ls s with
   |none=>rw[b]at h;cases h
   |some p=>rw[b]at h;exact(mR b).trans (pF h)
def jN{deep:Bool}:∀ {ls:List L} {a:ar} {x:a.T} {j:Nat} {s:S} {q:a.T×S},aN (A:=real) deep a x j ls s=some q->aP s q.2
 |[],a,x,j,s,q,h=>by simp only[aN]at h;injection h with h;subst h;exact .refl _
 |l::ls,a,x,j,s,q,h=>by
  simp only[aN]at h;cases c:cellAt (A:=real) a x j with
  |none=>rw[c]at h;cases h
  |some p=>
   obtain⟨t,y⟩:=p;rw[c]at h;simp only[]at h;cases b:bF (A:=real) deep t l s with
   |none=>rw[b]at h;cases h
   |some p=>
    rw[b]at h;simp only[]at h;cases d:setCell (A:=real) a x j ⟨t,p.1⟩with
    |none=>rw[d]at h;cases h
    |some y=>rw[d]at h;exact(mQ b).trans (jN h)
def sY{e:Nat}{b:ar}{deep:Bool}{l:L}{s:S}{q:real.V (.sl e b)×S}(h:eB (A:=real) e b deep l s=some q):aP s q.2:=by
 unfold eB at h;split at h
 .split at h
  .injection h with h;subst h;exact .refl _
  .cases h
 .rename_i id g _;cases d:Nat.beq (s.ob id).g g <;> rw[d]at h
  .cases h
  .simp only[aJ]at h;split at h
   .rename_i f a c x i;cases hd:(c==deep||a.plain) <;> rw[hd]at h
    .cases h
    .simp only[aJ]at h;split at h
     .injection h with h;subst h;exact .bq _ _ _
     .cases h
   .cases h
 .cases h
def Cj{k:IntKind}{l:L}{s:S}{q:real.V (.sl 0 (ar.mp k))×S}(h:uM (A:=real) k l s=some q):aP s q.2:=by
 unfold uM at h;split at h
 .rename_i id g;cases a:Nat.beq (s.ob id).g g <;> rw[a]at h
  .cases h
  .simp only[aJ]at h;split at h
   .split at h
    .injection h with h;subst h;exact .bq _ _ _
    .cases h
   .cases h
 .cases h
def yT{k:K}{l:L}{s:S}{q:KV real×S}(h:cI k l s=some q):aP s q.2:=by
 cases k with
 |val t=>
  simp only[cI]at h;cases a:bF (A:=real) false t l s with
  |none=>rw[a]at h;cases h
  |some p=>rw[a]at h;injection h with h;subst h;exact mQ a
 |arr e b deep=>
  simp only[cI]at h;cases a:eB (A:=real) e b deep l s with
  |none=>rw[a]at h;cases h
  |some p=>rw[a]at h;injection h with h;subst h;exact sY a
 |mp c=>
  simp only[cI]at h;cases a:uM (A:=real) c l s with
  |none=>rw[a]at h;cases h
  |some p=>rw[a]at h;injection h with h;subst h;exact Cj a
def ew:∀ {ks:List K} {ls:List L} {s:S} {q:List (KV real)×S},takes ks ls s=some q->aP s q.2
 |[],[],s,q,h=>by injection h with h;subst h;exact .refl _
 |[],_::_,s,q,h=>by cases h
 |_::_,[],s,q,h=>by cases h
 |k::ks,l::ls,s,q,h=>by
  simp only[takes]at h;cases a:cI k l s with
  |none=>rw[a]at h;cases h
  |some p=>
   rw[a]at h;simp only[]at h;cases b:takes ks ls p.2 with
   |none=>rw[b]at h;cases h
   |some c=>rw[b]at h;injection h with h;subst h;exact(show aP s c.2 from(yT a).trans (ew b))
def w9{s:S}{id h e:Nat}{d:ar}{x:List d.T}{p:iU}{i:IV}{b:Nat}{v:List L}{l:S}(a:kw (A:=real) s id h e d x p i b v=some l):aP s l:=by
 unfold kw at a;cases n:(p.isEmpty||Nat.beq (s.ob id).h h) <;> rw[n]at a
 .cases a
 .simp only[aJ]at a;cases g:follow (A:=real) 2 e d x p with
  |none=>rw[g]at a;cases a
  |some c=>
   rw[g]at a;simp only at a;cases f:takes ((c.cs.kd.drop b).take v.length) v s with
   |none=>rw[f]at a;cases a
   |some q=>
    rw[f]at a;simp only at a;cases j:setRow (A:=real) c.cs (real.get c.x i) b q.1 with
    |none=>rw[j]at a;cases a
    |some m=>
     rw[j]at a;simp only at a;cases k:putAt (A:=real) c (real.put c.x i m) e d x p with
     |none=>rw[k]at a;cases a
     |some o=>
      rw[k]at a;simp only at a;split at a
      .injection a with a;subst a;exact(ew f).trans (.bq _ _ _ _)
      .cases a
def xa{s:S}{p:L}{v:List L}{c:S}(h:iv s p v=some c):aP s c:=by
 unfold iv at h;split at h
 .split at h
  .split at h
   .injection h with h;subst h;exact .bq _ _ _
   .cases h
  .cases h
 .rename_i id g j p i b;cases f:Nat.beq (s.ob id).g g <;> rw[f]at h
  .cases h
  .simp only[aJ]at h;split at h
   .rename_i e d deep x k;cases deep with
    |true=>exact w9 h
    |false=>
     simp only[cz]at h;split at h
     .cases a:aN (A:=real) false d (real.get x i) b v s with
      |none=>rw[a]at h;cases h
      |some q=>
       rw[a]at h;simp only[]at h;split at h
       .injection h with h;subst h;exact(jN a).trans (.bq _ _ _)
       .cases h
     .cases h
   .cases h
 .cases h
def iz{b:ar}{c:cU real}{s:S}{q:List (KV real)×S}(h:bM b c s=some q):aP s q.2:=by
 unfold bM at h;split at h
 .split at h
  .rename_i ls d;cases a:takes b.ks ls s with
   |none=>rw[a]at h;cases h
   |some p=>
    rw[a]at h;simp only[]at h;split at h
    .injection h with h;subst h;exact(ew a).trans (.bq _ _ _)
    .cases h
  .cases h
 .split at h
  .injection h with h;subst h;exact .refl _
  .cases h
def mB:∀ {a:List ar} {b:List (cU real)} {s:S} {q:List (KV real)×S},bX a b s=some q->aP s q.2
 |[],[],s,q,h=>by injection h with h;subst h;exact .refl _
 |[],_::_,s,q,h=>by cases h
 |_::_,[],s,q,h=>by cases h
 |g::d,c::b,s,q,h=>by
  simp only[bX]at h;cases e:bM g c s with
  |none=>rw[e]at h;cases h
  |some p=>
   rw[e]at h;simp only[]at h;cases f:bX d b p.2 with
   |none=>rw[f]at h;cases h
   |some i=>rw[f]at h;injection h with h;subst h;exact(show aP s i.2 from(iz e).trans (mB f))
def xd{c:Cp}{v:cU real}{s:S}{q:List (KV real)×S}(h:eX c v s=some q):aP s q.2:=by
 unfold eX at h;split at h
 .exact iz h
 .split at h
  .split at h
   .rename_i a;injection h with h;subst h;exact(aP.bq _ _ _).trans (ew a)
   .cases h
  .cases h
 .cases h
def nY:∀ {a:List Cp} {b:List (cU real)} {s:S} {q:List (KV real)×S},b7 a b s=some q->aP s q.2
 |[],[],s,q,h=>by injection h with h;subst h;exact .refl _
 |[],_::_,s,q,h=>by cases h
 |_::_,[],s,q,h=>by cases h
 |g::d,c::b,s,q,h=>by
  simp only[b7]at h;cases e:eX g c s with
  |none=>rw[e]at h;cases h
  |some p=>
   rw[e]at h;simp only[]at h;cases f:b7 d b p.2 with
   |none=>rw[f]at h;cases h
   |some i=>rw[f]at h;injection h with h;subst h;exact(show aP s i.2 from(xd e).trans (nY f))
def xe{g:Sh}{v:bK}{s:S}{q:List (KV real)×S}(h:bL g v s=some q):aP s q.2:=by
 unfold bL at h;split at h
 .exact iz h
 .exact iz h
 .rename_i f a b d;cases c:Nat.beq f b <;> rw[c]at h
  .cases h
  .exact mB h
 .rename_i f a b d;cases c:Nat.beq f b <;> rw[c]at h
  .cases h
  .exact nY h
 .exact ew h
 .exact ew h
 .split at h
  .split at h
   .rename_i e;injection h with h;subst h;exact(aP.bq _ _ _).trans (ew e)
   .cases h
  .cases h
 .cases h
def nX:∀ {a:List Sh} {d:List bK} {s:S} {q:List (KV real)×S},bz a d s=some q->aP s q.2
 |[],[],s,q,h=>by injection h with h;subst h;exact .refl _
 |[],_::_,s,q,h=>by cases h
 |_::_,[],s,q,h=>by cases h
 |f::a,v::d,s,q,h=>by
  simp only[bz]at h;cases b:bL f v s with
  |none=>rw[b]at h;cases h
  |some p=>
   rw[b]at h;simp only[]at h;cases c:bz a d p.2 with
   |none=>rw[c]at h;cases h
   |some e=>rw[c]at h;injection h with h;subst h;exact(show aP s e.2 from(xe b).trans (nX c))
def rq:∀ {ks:List K} {ls:List L} {s b:S},jV ks ls s=some b->aP s b
 |[],[],s,b,h=>by injection h with h;subst h;exact .refl _
 |[],_::_,_,_,h=>by cases h
 |_::_,[],_,_,h=>by cases h
 |k::ks,l::ls,s,b,h=>by
  simp only[jV]at h;cases a:kJ k l s with
  |none=>rw[a]at h;cases h
  |some i=>
   rw[a]at h;refine aP.trans ?_ (rq h);cases k with
   |val t=>injection a with a;subst a;exact .refl _
   |arr e f d=>
    simp only[kJ]at a;cases g:Nat.ble 1 f.len with
    |false=>rw[g]at a;cases a
    |true=>
     rw[g]at a;simp only[aJ]at a;cases c:eB (A:=real) e f d l s with
     |none=>rw[c]at a;cases a
     |some q=>rw[c]at a;injection a with a;subst a;exact sY c
   |mp _=>cases a
def xZ:∀ {ks:List K} {ls:List L} {a:List (KV real)} {s b:S},jf ks ls a s=some b->aP s b:=by
 intro ks;induction ks with
 |nil=>intro ls a s b h;cases ls <;> cases a <;> first|(injection h with h;subst h;exact .refl _)|cases h
 |cons k ks c=>
  intro ls a s b h;cases ls with
  |nil=>cases k <;> cases a <;> cases h
  |cons l ls=>
   cases k with
   |val t=>exact c h
   |mp _=>cases l <;> cases a <;> cases h
   |arr e m d=>
    cases a with
    |nil=>cases l with
     |ref id g i p=>cases p <;> cases h
     |_=>cases h
    |cons v a=>
     cases l with
     |eI _ _=>exact c h
     |ref id g i p=>
      cases p with
      |cons _ _=>cases h
      |nil=>
       obtain⟨j,x⟩:=v;cases j with
       |val _=>cases h
       |mp _=>cases h
       |arr o f n=>exact(aP.bq _ _ _).trans (c h)
     |_=>cases h
def tw(id:Nat)(v:KV real)(s:S):aP s (dh id v s).2:=by obtain⟨k,x⟩:=v;cases k <;> exact .new _ _ _
def jC:∀(a:List (KV real)) (id:Nat) (s:S),aP s (lays id a s).2
 |[],_,_=>.refl _
 |v::_,id,s=>(tw id v s).trans (jC _ (id+1) _)
def k9:∀(a:List Cp) (c:List (KV real)) (b:Nat) (s:S),aP s (dw b a c s).2
 |[],_,_,_=>.refl _
 |.ro d::r,c,b,s=>by
  simp only[dw];cases kf (A:=real) d (c.take d.len)with
  |none=>exact .refl _
  |some x=>exact k9 r _ b s
 |.mu ks::r,c,b,s=>((jC _ _ _).trans (.new _ _ _)).trans (k9 r _ _ _)
def yp(b:Nat)(d:Sh)(c:List (KV real))(s:S):aP s (cm b d c s).2:=by
 cases d with
 |one k=>
  match c with
  |[]=>exact .refl _
  |[v]=>exact tw _ _ _
  |_::_::_=>exact .refl _
 |agg ks=>exact jC _ _ _
 |blk ks=>exact(jC _ _ _).trans (.new _ _ _)
 |ro e=>simp only[cm];cases kf (A:=real) e c <;> exact .refl _
 |fn _ _=>exact .refl _
 |qa g a=>exact k9 a c b s
def k8:∀(a:List Sh) (c:List (KV real)) (b:Nat) (s:S),aP s (aV b a c s).2
 |[],_,_,_=>.refl _
 |d::a,c,b,s=>(yp b d _ s).trans (k8 a _ _ _)
def xX:∀ {a:List (List K)} {ls:List L} {b:List (KV real)} {s c:S},iQ a ls b s=some c->aP s c:=by
 intro a;induction a with
 |nil=>intro ls b s c h;cases ls <;> cases b <;> first|(injection h with h;subst h;exact .refl _)|cases h
 |cons ks a f=>
  intro ls b s c h;cases ls with
  |nil=>cases h
  |cons l ls=>
   cases l with
   |ptr id g d=>
    cases d with
    |zero=>
     simp only[iQ]at h;cases e:(Nat.ble (id+1) cO&&(Nat.ble ks.length 64&&Nat.ble ks.length b.length))with
     |false=>rw[e]at h;cases h
     |true=>rw[e]at h;simp only[aJ]at h;exact(jC _ _ _).trans ((aP.bq _ _ _).trans (f h))
    |succ _=>cases h
   |_=>cases h
def wO{q:sM real}{s s':S}(h:jG (A:=real) q s=some s'):aP s s':=by
 unfold jG at h;split at h
 .rename_i e b c y g;cases d:((Nat.beq (s.ob q.id).g q.g&&Nat.beq (s.ob q.nb).g q.gn)&&(Nat.ble 1 q.g&&(c||b.plain))) <;> rw[d]at h
  .cases h
  .simp only[aJ]at h;split at h
   .rename_i f;cases a:putAt (A:=real) q.c (real.cast f y) q.e q.cs q.x q.path with
    |none=>rw[a]at h;cases h
    |some i=>rw[a]at h;injection h with h;subst h;exact(aP.bq _ _ _).trans (.bq _ _ _)
   .cases h
 .cases h
def cG(s:S)(x:Option S):Prop:=∀a,x=some a->aP s a
def cG.fail{s:S}:cG s (av S).fail:=λ_ h=>nomatch h
def cG.mk{s s':S}(h:aP s s'):cG s (some s'):=λ_ e=>by injection e with e;subst e;exact h
theorem cG.af{α:Type}{s:S}{x:Option α}{f:α->Option S}(h:∀v,x=some v->cG s (f v)):cG s (af (av S) x f):=by
 cases x with
 |none=>exact .fail
 |some v=>exact h v rfl
def cG.cond{s:S}{b:Bool}{x y:Option S}(a:cG s x)(c:cG s y):cG s (bif b then x else y):=by
 cases b
 .exact c
 .exact a
def cG.oA{s:S}{b:Bool}{x y:Option S}(a:cG s x)(c:cG s y):cG s ((av S).cond b x y):=cG.cond a c
def AH{o:Oper}{s:S}:cG s (step1 E Ψ o s):=by
 have d:∀(I:S) (v:bK),aP s I->cG s (some (I.bI o.dst v)):=λI v h=>.mk (h.trans (.bI _ _ _));unfold step1 aL;have here:∀v:bK,cG s (some (s.bI o.dst v)):=λv=>d s v (.refl s);cases ho:o.op with
 |move x=>exact here _
 |assign x=>exact here _
 |pick c a b=>exact .af λc _=>.oA (here _) (here _)
 |build t ps=>exact .af λi _=>.cond (.af λD _=>here _) .fail
 |load t p=>
  refine .af λi _=>?_;cases ev E s 0 p with
  |one l=>exact .af λv _=>here _
  |_=>exact .fail
 |nilCheck x=>
  simp only[];cases ev E s 0 x with
  |one l=>
   cases l with
   |ptr id g w=>exact .af λ_ _=>here _
   |bH id g N p j w=>exact .af λc _=>.cond .fail (here _)
   |ei D y w=>exact here _
   |_=>exact .fail
  |_=>exact .fail
 |binOp A t x y yt=>
  simp only[];cases gb E s A t x y with
  |some l=>exact here _
  |none=>
  simp only[];cases ev E s t x with
  |one x=>
   cases ev E s t y with
   |one y=>
    have z:=qK (R:=S) (fw E t) A x y (λl=>some (s.bI o.dst (.one l))) (λl=>some (St.set s 0 (.one l))) (λB=>some (s.bI o.dst (B.sl 0))) (λl=>rfl);show cG s (kX (av S) (fw E t) A x y λl=>some (s.bI o.dst (.one l)));rw[z];cases kX (av S) (fw E t) A x y λl=>some (St.set s 0 (.one l))with
    |none=>exact .fail
    |some B=>exact here _
   |_=>exact .fail
  |agg xs=>
   cases ev E s t y with
   |agg ys=>refine .af λi _=>.af λb _=>?_;cases A <;> first|exact .fail|exact here _
   |_=>exact .fail
  |ol _=>exact .fail
  |pQ _ _=>exact .fail
 |unOp A t x=>
  simp only[];cases A <;> first|exact .fail|skip
  all_goals (cases ev E s t x with
   |one l=>cases l with
    |val U y=>cases U <;> first|exact .fail|exact here _
    |_=>exact .fail
   |_=>exact .fail)
 |convert src Z x=>
  simp only[];refine .af λ_ _=>.af λi _=>.cond .fail ?_;split
  .exact here _
  .refine .af λ_ _=>.af λ_ _=>.cond .fail (.af λc _=>.cond ?_ .fail);split
   .exact here _
   .exact .fail
  .exact .fail
 |makeFunc fn first captured=>
  cases fn with
  |func f=>exact .cond (.af λY _=>here _) .fail
  |_=>exact .fail
 |fieldAddr t x f=>
  simp only[];refine .af λi _=>.af λq _=>.cond .fail ?_;cases ev E s 0 x with
  |one l=>
   cases l with
   |ptr id g w=>exact .af λ_ _=>here _
   |bH id g N p j w=>exact .af λc _=>.cond .fail (here _)
   |ei D y w=>exact here _
   |_=>exact .fail
  |_=>exact .fail
 |field t x f=>
  simp only[];refine .af λi _=>.af λq _=>.cond .fail ?_;cases ev E s t x with
  |agg ls=>exact .cond (here _) .fail
  |_=>exact .fail
 |indexAddr t x i=>
  simp only[];refine .af λi _=>.af λq _=>?_;cases ev E s t x with
  |one l=>
   cases l with
   |val U y=>
    cases U with
    |sl e D=>exact .cond (.oA (here _) .fail) .fail
    |_=>exact .fail
   |ref id g N p=>exact .af λc _=>.cond (.oA (.cond (here _) (here _)) .fail) .fail
   |_=>exact .fail
  |_=>exact .fail
 |index t x i=>exact .cond (.af λi _=>.af λx _=>.oA (here _) .fail) .fail
 |extract t i=>
  simp only[];cases ev E s 0 t with
  |ol D=>exact .af λc _=>here _
  |_=>exact .fail
 |alloc t=>exact .af λi _=>d _ _ (.new _ _ _)
 |box t x=>exact .af λi _=>.af λv _=>.cond (.cond (.af λr P=>d _ _ (mR P)) (d _ _ (.new _ _ _))) .fail
 |buildSlice t n ps=>exact .af λr _=>.cond (.cond (.af λlss _=>.af λq O=>.af λx _=>d _ _ ((ew O).trans (.new _ _ _))) (.af λq O=>d _ _ ((pF O).trans (.new _ _ _)))) .fail
 |store t p v=>
  refine .af λi _=>.af λv _=>.cond ?_ .fail;cases ev E s 0 p with
  |one l=>exact .af λB z=>d _ _ (xa z)
  |_=>exact .fail
 |makeSlice t n c=>exact .af λr _=>.af λn' _=>.cond (.oA (d _ _ (.new _ _ _)) .fail) .fail
 |makeMap t rv=>exact .af λX _=>.cond (d _ _ (.new _ _ _)) .fail
 |lookup t m x ok=>
  refine .af λX _=>.cond .fail ?_;split
  .refine .af λq _=>.cond ?_ .fail;split
   .exact here _
   .exact .fail
  .refine .cond ?_ .fail;split
   .exact here _
   .exact .fail
  .exact .fail
 |mapUpdate t m x v=>
  refine .af λX _=>?_;split
  .refine .af λq _=>.cond ?_ .fail;split
   .exact d _ _ (.bq _ _ _)
   .exact .fail
  .exact .fail
 |slice t x lo hi mx=>
  simp only[];unfold jL;refine .af λq _=>.af λc _=>.cond (.cond (d _ _ (.refl _)) ?_) .fail;cases mx with
  |some _=>exact .fail
  |none=>
   refine .af λl _=>.af λh _=>.oA ?_ .fail;unfold eS;split
   .exact .cond (d _ _ (.refl _)) (.cond (.cond .fail (d _ _ ((aP.bq _ _ _).trans (.new _ _ _)))) (d _ _ (.bq _ _ _)))
   .exact .fail
   .exact d _ _ (.refl _)
 |call c=>
  obtain⟨L,args,V⟩:=c;simp only[];refine .cond ?_ .fail;generalize ((args.toList.zip V.toList).map λp=>ev E s p.2 p.1)=J;cases L with
  |builtin b=>
   simp only[];unfold dD;split
   .exact .cond (.af λ_ _=>d _ _ (.refl _)) (.af λ_ _=>.af λ_ _=>d _ _ (.refl _))
   .exact .af λ_ _=>.af λ_ _=>d _ _ (.refl _)
   .exact .af λ_ _=>.af λ_ _=>d _ _ (.refl _)
   .rename_i x y t t' _;refine .af λq _=>.af λ_ _=>.af λcx _=>.af λcy _=>.cond .fail ?_;split
    .exact .fail
    .rename_i B dp k;have u:aP s B:=by
      split at k
      .injection k with k;injection k with z G;subst z;exact .refl _
      .split at k
       .cases k
       .injection k with k;injection k with z G;subst z;exact .bq _ _ _
      .cases k
     refine .cond ?_ ?_
     .split
      .refine .cond ?_ .fail;split
       .exact .oA (d _ _ (u.trans ((aP.bq _ _ _).trans (.new _ _ _)))) .fail
       .exact .fail
      .exact .fail
     .split
      .exact .oA (d _ _ (u.trans (.new _ _ _))) .fail
      .exact .fail
   .exact .fail
  |value f=>
   simp only[];cases ev E s 0 f with
   |one l=>
    cases l with
    |fn M Y=>
     refine .af λg u=>?_;unfold tab at u;cases W:Ψ (M,wB J)with
     |none=>rw[W]at u;cases u
     |some F=>
      rw[W]at u;injection u with u
      subst u;unfold nc;have look:∀(J:List bK) (T:S) (f:bK->S->Option S),aP s T->(∀v C,aP s C->cG s (f v C))->cG s (jU (av S) (F.callee S) (o.dst.getD 0) J T f):=by
       intro J T f h0 hf;unfold jU;refine .af λB z=>.af λvs' _=>.af λx _=>?_;show cG s ((F.fn x).bind _);cases F.fn x with
       |none=>exact .fail
       |some y=>exact .af λC G=>hf _ _ (h0.trans ((rq z).trans ((xZ G).trans (k8 _ _ _ _))))
      refine .cond (.cond ?_ (.cond (.af λr P=>.af λx _=>?_) .fail)) .fail
      .split
       .rename_i K I q Q;obtain⟨i,id,gg,N,p,r1,_,_,q3,H⟩:=oW Q;obtain⟨c,e,D,x,_,_,_,p4⟩:=oV q3;subst p4;injection H with _ H
        injection H with H _
        subst H;refine look _ _ _ ((aP.bq _ _ _).trans (.new _ _ _)) λv C u=>.af λs3 h3=>d _ _ (u.trans (wO h3))
       .exact look _ _ _ (.refl _) λv C u=>d _ _ u
      .show cG s ((F.fn x).bind _);cases F.fn x with
       |none=>exact .fail
       |some y=>exact .af λC G=>d _ _ ((nX P).trans ((xX G).trans (k8 _ _ _ _)))
    |_=>exact .fail
   |_=>exact .fail
  |invoke _ _=>exact .fail
 |_=>exact .fail
end
theorem oS{a:List Nat}{j:Nat}:∀ {es:List Edge},(jh a es).testBit j=true->∃e∈es,Region.binds .any e=true/\(e.on=j\/(a.getD e.on 0).testBit j=true)
 |[],h=>by simp[jh]at h
 |e::es,h=>by
  simp only[jh]at h;cases c:Region.binds .any e with
  |false=>
   rw[c]at h;obtain⟨d,f,g⟩:=oS (es:=es) h
   grind
  |true=>
   rw[c]at h;simp only[aJ]at h;have b:∀(x y:Nat),Nat.testBit (Nat.lor x y) j=(Nat.testBit x j||Nat.testBit y j):=λx y=>Nat.testBit_or x y j;rw[b,b,gd,gd]at h;rcases h with (h|h)|h
   .grind
   .simp_all[Nat.one_shiftLeft,Nat.testBit_two_pow]
   .obtain⟨d,f,g⟩:=oS (es:=es) h
    grind
def tM:∀(l:List Oper) (a:List Nat),∃tl,gm l a=a++tl/\tl.length=l.length
 |[],a=>⟨[],by simp[gm],rfl⟩
 |o::r,a=>by
  obtain⟨tl,b,c⟩:=tM r (a++[jh a o.after.toList])
  grind[gm]
def wU:∀(l:List Oper) (a:List Nat) (k:Nat) (o:Oper),l[k]? = some o->∃b c,gm l a=b++c/\b.length=a.length+k/\(gm l a).getD (a.length+k) 0=jh b o.after.toList
 |[],_,k,o,h=>by simp at h
 |o::r,a,0,d,h=>by
  simp at h;subst h;obtain⟨tl,f,g⟩:=tM r (a++[jh a o.after.toList])
  grind[gm]
 |o::r,a,k+1,d,h=>by
  have e:r[k]? = some d:=by simpa using h
  obtain⟨b,c,f,g,i⟩:=wU r (a++[jh a o.after.toList]) k d e
  grind[gm]
def BF{a b:List Nat}{i j:Nat}(h:(a.getD i 0).testBit j=true):((a++b).getD i 0).testBit j=true:=by
 grind
section
variable {ops:Array Oper}
abbrev PP(a:Array Oper):List Nat:=gm a.toList []
theorem iF{i j:Nat}{o:Oper}(a:ops.toList[i]? = some o)(h:cN (PP ops) i j=true):∃e∈o.after.toList,Region.binds .any e=true/\(e.on=j\/cN (PP ops) e.on j=true):=by
 obtain⟨b,c,d,f,g⟩:=wU ops.toList [] i o a
 grind[cN,oS]
def sw{P:List Nat}{i t:Nat}:∀ {l:List Oper} {k:Nat},wrote P i t k l=true->∀(j:Nat) (o:Oper),l[j]? = some o->o.dst=some t->cN P i (k+j)=true\/cN P (k+j) i=true
 |[],_,_,j,o,h,_=>by simp at h
 |o::r,k,h,0,c,a,b=>by simp_all[wrote,isDst]
 |o::r,k,h,j+1,c,a,b=>by
  simp only[wrote,aQ]at h;have:=sw h.2 j c (by simpa using a) b
  grind
theorem qG{i t:Nat}:∀ {l:List Oper} {k:Nat},alone i (some t) k l=true->∀(j:Nat) (o:Oper),l[j]? = some o->i≠k+j->o.dst≠some t
 |[],_,_,j,o,h,_=>by simp at h
 |o::r,k,h,0,b,a,c=>by
  simp at a;subst a;simp only[alone,aQ,gd]at h;rcases h.1 with h|h
  .grind[Nat.eq_of_beq_eq_true]
  .intro e;simp_all[isDst]
 |o::r,k,h,j+1,b,a,c=>by simp only[alone,aQ]at h;exact qG h.2 j b (by simpa using a) (by omega)
structure Stat (ops:Array Oper) (i:Nat) (o:Oper):Prop where
 back:∀e∈o.after.toList,Region.binds .any e=true->e.on<i
 reads:∀t∈lU ops o,∀(j:Nat) (o':Oper),ops.toList[j]? = some o'->o'.dst=some t->cN (PP ops) i j=true\/cN (PP ops) j i=true
 lone:∀t,o.dst=some t->∀(j:Nat) (o':Oper),ops.toList[j]? = some o'->i≠j->o'.dst≠some t
 made:makes o.op=true->o.dst≠none
def pM{P:List Nat}(c:P=PP ops):∀ {l:List Oper} {k:Nat},mq P ops k l=true->∀(j:Nat) (o:Oper),l[j]? = some o->Stat ops (k+j) o
 |[],_,_,j,o,h=>by simp at h
 |o::r,k,h,0,b,a=>by
  simp at a;subst a;subst c;simp only[mq,aQ]at h;obtain⟨⟨⟨⟨a,g⟩,p⟩,q⟩,_⟩:=h;refine⟨λe m i=>?_,λt f j b d hd=>?_,λt f j b d n=>?_,λs hd=>?_⟩
  .have:=cg.1 a e m;rw[i]at this;exact bn (by simpa using this)
  .have:=sw (cg.1 g t f) j b d hd;simpa using this
  .grind[qG]
  grind
 |o::r,k,h,j+1,b,a=>by
  simp only[mq,aQ]at h;have:=pM c h.2 j b (by simpa using a)
  grind
def Ai(d:∀(i:Nat) (o:Oper),ops.toList[i]? = some o->Stat ops i o):∀(i j:Nat) (o:Oper),ops.toList[i]? = some o->cN (PP ops) i j=true->j<i:=by
 intro i;induction i using Nat.strongRecOn with
 |ind i k=>
  intro j o a h;obtain⟨e,b,c,g⟩:=iF a h;have f:=(d i o a).back e b c
  grind
end
section
variable {R:Type}{E:Env}{Ψ:bA->Option hJ}{ops:Array Oper}
def dn(c:Array Oper)(o:Oper)(s:S):Option Bool:=
 match o.guard with
 |none=>some true
 |some (j,a)=>match(c[j]?).bind (·.dst)with
  |none=>none
  |some t=>match s.sl t with
   |.one (.val .bool b)=>some ((show Bool from b)==a)
   |.one .undef=>some false
   |_=>none
def oD(E:Env)(b:bA->Option hJ)(a:Array Oper)(o:Oper)(s s':S):Prop:=(dn a o s=some true/\step1 E b o s=some s')\/(dn a o s=some false/\s'=s.bI o.dst (.one .undef))
structure EI (E:Env) (Ψ:bA->Option hJ) (ops:Array Oper) (P:List Nat) (l:List Oper) (i:Nat) (as:List (xz real)) (s:S) (st:Nat->S):Prop where
 first:st i=s
 dst:∀(j:Nat) (o:Oper),l[j]? = some o->qd E o.dst=true
 step:∀(j:Nat) (o:Oper),l[j]? = some o->oD E Ψ ops o (st (i+j)) (st (i+j+1))
 Fk:∃as',uA P as'=true/\(∀x∈as,x∈as')/\∀(j:Nat) (o:Oper),l[j]? = some o->dn ops o (st (i+j))=some true->⟨i+j,o,st (i+j),st (i+j+1)⟩∈as'
def St.nW{s:S}{t:Nat}{v:bK}(h:s.sl t=v):s.set t v=s:=by
 unfold St.set;congr 1
 grind[Nat.eq_of_beq_eq_true]
def wF(i:Nat)(s:S)(a:Nat->S):Nat->S:=λn=>if n<=i then s else a n
def BU(i:Nat)(s:S)(a:Nat->S):wF i s a i=s:=cj (az _)
def BT(i:Nat)(s:S)(a:Nat->S)(n:Nat):wF i s a (i+1+n)=a (i+1+n):=dS (by omega)
def oH{P:List Nat}{r:R}:∀(l:List Oper) (i:Nat) (e:List (xz real)) (s:S) (k:S->Option R),l8 E (av R) (tab Ψ R) ops P i l e s k=some r ->
  ∃a,EI E Ψ ops P l i e s a/\k (a (i+l.length))=some r
 |[],i,e,s,k,h=>by
  simp only[l8]at h;cases F:uA P e with
  |false=>rw[F]at h;cases h
  |true=>rw[F]at h;exact⟨λ_=>s,⟨rfl,λj o d=>by simp at d,λj o d=>by simp at d,e,F,λ_ B=>B,λj o d=>by simp at d⟩,h⟩
 |o::l,i,e,s,k,h=>by
  simp only[l8]at h;cases hd:qd E o.dst with
  |false=>rw[hd]at h;cases h
  |true=>
   rw[hd]at h;simp only[aJ]at h;have w:∀(m:List (xz real)) (g:S) (a:Nat->S),EI E Ψ ops P l (i+1) m g a->oD E Ψ ops o s g->(∀x∈e,x∈m) ->
     (dn ops o s=some true->⟨i,o,s,g⟩∈m)->k (a (i+1+l.length))=some r ->
     ∃a,EI E Ψ ops P (o::l) i e s a/\k (a (i+(o::l).length))=some r:=by
    intro m g a u T Q G q;have C:∀n,wF i s a (i+1+n)=a (i+1+n):=λn=>BT i s a n;have H:wF i s a i=s:=BU i s a;refine⟨wF i s a,⟨H,λj I d=>?_,λj I d=>?_,?_⟩,?_⟩
    .cases j with
     |zero=>grind
     |succ j=>exact u.dst j I (by simpa using d)
    .cases j with
     |zero=>simp at d;subst d;have z:=C 0;simp only[iD]at z⊢;rw[z,H,u.first];exact T
     |succ j=>
      have z:=C j;have N:=C (j+1);have:=u.step j I (by simpa using d)
      grind
    .obtain⟨J,F,D,W⟩:=u.Fk;refine⟨J,F,λx B=>D x (Q x B),λj I d y=>?_⟩;cases j with
     |zero=>simp at d;subst d;have z:=C 0;simp only[iD]at z y⊢;rw[H]at y;rw[z,H,u.first];exact D _ (G y)
     |succ j=>
      have z:=C j;have N:=C (j+1)
      grind
    grind
   have yes:dn ops o s=some true->(aL E (av R) (tab Ψ R) o s λg=>l8 E (av R) (tab Ψ R) ops P (i+1) l (⟨i,o,s,g⟩::e) g k)=some r ->
     ∃a,EI E Ψ ops P (o::l) i e s a/\k (a (i+(o::l).length))=some r:=by
    intro y q;rw[AG]at q;cases D:step1 E Ψ o s with
    |none=>rw[D]at q;cases q
    |some g=>rw[D]at q;simp only[vP]at q;obtain⟨a,u,A⟩:=oH l (i+1) _ g k q;exact w _ g a u (.inl ⟨y,D⟩) (λx B=>eJ _ B) (λ_=>by simp) A
   have no:dn ops o s=some false->l8 E (av R) (tab Ψ R) ops P (i+1) l e (s.bI o.dst .undef) k=some r ->
     ∃a,EI E Ψ ops P (o::l) i e s a/\k (a (i+(o::l).length))=some r:=by
    intro y q;obtain⟨a,u,A⟩:=oH l (i+1) _ _ k q;exact w _ _ a u (.inr ⟨y,rfl⟩) (λx B=>B) (λh=>by rw[y]at h;cases h) A
   cases L:o.guard with
   |none=>grind[dn]
   |some O=>
    obtain⟨j,f⟩:=O;rw[L]at h;simp only[]at h;cases M:(ops[j]?).bind (·.dst)with
    |none=>rw[M]at h;cases h
    |some t=>
     rw[M]at h;simp only[]at h;cases v:s.sl t with
     |one U=>
      rw[v]at h;cases U with
      |val V b=>
       cases V with
       |bool=>
        have p:dn ops o s=some ((show Bool from b)==f):=by
         grind[dn]
        rcases(show ∃c:Bool,c=b from⟨b,rfl⟩)with ⟨c,rfl⟩;cases c with
        |true=>
         have K:s.set t (.one (.val .bool (real.mj true)))=s:=St.nW v;rw[K]at h;cases f with
         |true=>exact yes p h
         |false=>exact no p h
        |false=>
         have K:s.set t (.one (.val .bool (real.mj false)))=s:=St.nW v;rw[K]at h;cases f with
         |true=>exact no p h
         |false=>exact yes p h
       |_=>cases h
      |undef=>grind[dn]
      |_=>cases h
     |_=>rw[v]at h;cases h
end
section
variable {E:Env}{Ψ:bA->Option hJ}{ops:Array Oper}
def tu(s:S)(o:Oper)(id:Nat):Bool:=(mr s o).any (Nat.beq id)||kr o id||(ny s o&&Nat.ble cO id)
def Sep(s:S)(o:Oper)(b:Oper)(t a:S):Prop:=(∀id∈mr s o,((t.ob id).g=(a.ob id).g/\(t.ob id).h=(a.ob id).h/\(t.ob id).n=(a.ob id).n)/\kr b id=false/\(ny t b=true->id<cO))/\aD (o.dst.getD 0) 0 0+2048<=cO
structure vo (E:Env) (Ψ:bA->Option hJ) (ops:Array Oper) (st:Nat->S):Prop where
 stat:∀(i:Nat) (o:Oper),ops.toList[i]? = some o->Stat ops i o
 step:∀(i:Nat) (o:Oper),ops.toList[i]? = some o->oD E Ψ ops o (st i) (st (i+1))
 apart:∀(i j:Nat) (o o':Oper),ops.toList[i]? = some o->ops.toList[j]? = some o'->i≠j->dn ops o (st i)=some true->dn ops o' (st j)=some true ->
  cN (PP ops) i j=true\/cN (PP ops) j i=true\/(¬(ny (st i) o=true/\ny (st j) o'=true)/\Sep (st i) o o' (st j) (st (j+1))/\Sep (st j) o' o (st i) (st (i+1)))
def rT{a b:xz real}(h:zJ a b=true):Sep a.s a.o b.o b.s b.s':=by
 unfold zJ at h;rw[aQ]at h;refine⟨λid c=>?_,bn h.2⟩
 grind[zH,Nat.eq_of_beq_eq_true,Nat.le_of_ble_eq_true]
def Dh{d:Nat->S}{s:S}(l:mq (PP ops) ops 0 ops.toList=true)(h:EI E Ψ ops (PP ops) ops.toList 0 [] s d):vo E Ψ ops d where
 stat i o ho:=by have:=pM rfl l i o ho;rwa[bC]at this
 step i o ho:=by have:=h.step i o ho;rwa[bC]at this
 apart i j o o' hi hj hne hg IX:=by
  obtain⟨e,k,_,c⟩:=h.Fk;have a:=c i o hi (by rwa[bC]);have b:=c j o' hj (by rwa[bC]);simp only[bC]at a b;have:=cg.1 (cg.1 k _ a) _ b;simp only[gd,aQ]at this;rcases this with h|h|h|⟨m,f,g⟩
  .grind[Nat.eq_of_beq_eq_true]
  .exact .inl h
  .exact .inr (.inl h)
  .refine .inr (.inr ⟨λn=>?_,rT f,rT g⟩)
   grind
theorem St.uU(s:S)(d:Option Nat)(v:bK):(s.bI d v).ob=s.ob:=by cases d <;> rfl
theorem St.tU(s:S){d:Option Nat}{t:Nat}(h:d=some t)(v:bK):(s.bI d v).sl t=v:=by subst h;exact St.iY s t v
theorem St.zK(s:S){d:Option Nat}{t:Nat}(h:d≠some t)(v:bK):(s.bI d v).sl t=s.sl t:=by
 cases d with
 |none=>rfl
 |some d=>exact St.lV _ _ (λe=>h (by rw[e]))
def sX{s:S}{o:Oper}{cur:S}(e:∀x∈bG o.op,∀t,ev E cur t x=ev E s t x)(h:∀id,tu s o id=true->cur.ob id=s.ob id):cur=s.mx ⟨cur.sl,tu s o,cur.ob⟩/\Bh E s ⟨cur.sl,tu s o,cur.ob⟩ o:=by
 have a:cur=s.mx ⟨cur.sl,tu s o,cur.ob⟩:=by
  cases cur with
  |mk sl v=>
   unfold St.mx;congr 1
   grind
 refine⟨a,⟨λx n t=>by grind,λr x n=>?_,λg i p q=>?_,λm i d=>?_⟩⟩
 .have b:∀j∈nQ s x,∀i∈reach s j,tu s o i=true:=by
   intro j c i d;have g:i∈mr s o:=by
    grind[mr]
   show(_||_||_)=true
   grind[Nat.beq_refl]
  refine⟨λj c=>b j c j (by simp[reach]),λj c ls f l u i d=>b j c i ?_⟩
  grind[reach]
 .have k:kr o i=true:=by
   grind[kr,Nat.ble_eq_true_of_le]
  show(_||_||_)=true;rw[k];simp
 .show(_||_||(ny s o&&Nat.ble cO i))=true;rw[m,Nat.ble_eq_true_of_le d];simp
def Cm{d:Option Nat}{f:Fr}{s:S}{t:Nat}(c:d≠some t):(DW d f s).sl t=f.sl t:=by
 cases d with
 |none=>rfl
 |some e=>
  have b:t≠e:=λa=>c (by rw[a]);show(bif Nat.beq t e then s.sl t else f.sl t)=f.sl t
  grind[Nat.eq_of_beq_eq_true]
def Cl{d:Option Nat}{f:Fr}{s:S}{t:Nat}(a:d=some t):(DW d f s).sl t=s.sl t:=by subst a;show(bif Nat.beq t t then s.sl t else f.sl t)=s.sl t;rw[l6];rfl
theorem uY{o:Oper}{s s':S}(h:step1 E Ψ o s=some s'):(∀t,o.dst≠some t->s'.sl t=s.sl t)/\∀id,tu s o id=false->s'.ob id=s.ob id:=by
 obtain⟨b,c⟩:=sX (E:=E) (s:=s) (o:=o) (cur:=s) (λ_ _ _=>rfl) (λ_ _=>rfl);have:=zL (Ψ:=Ψ) c;rw[<-b,h]at this;injection this with this
 refine⟨λt d=>by rw[this];exact Cm d,λid a=>?_⟩;rw[this];show(bif tu s o id then s'.ob id else s.ob id)=s.ob id;rw[a];rfl
def oD.sl{o:Oper}{s s':S}(h:oD E Ψ ops o s s'){t:Nat}(a:o.dst≠some t):s'.sl t=s.sl t:=by
 rcases h with ⟨_,h⟩|⟨_,h⟩
 .exact(uY h).1 t a
 grind[St.zK]
variable {st:Nat->S}(H:vo E Ψ ops st)
include H
def vo.fin{j:Nat}{o:Oper}{t:Nat}(f:ops.toList[j]? = some o)(hd:o.dst=some t):∀(i:Nat),i<=ops.toList.length->j<i->(st i).sl t=(st (j+1)).sl t:=by
 intro i;induction i with
 |zero=>grind
 |succ i h=>
  intro d g;rcases vg j i with e|c
  .have b:i<ops.toList.length:=d;have a:=cL b;rw[(H.step i _ a).sl ((H.stat j o f).lone t hd i _ a (by omega))]
   grind
  grind
def vo.Ek{t:Nat}:∀(i:Nat),i<=ops.toList.length->(∀(j:Nat) (o:Oper),j<i->ops.toList[j]? = some o->o.dst≠some t)->(st i).sl t=(st 0).sl t:=by
 intro i;induction i with
 |zero=>intro _ _;rfl
 |succ i d=>
  intro c h;have b:i<ops.toList.length:=c;have a:=cL b;rw[(H.step i _ a).sl (h i _ (kF _) a)]
  grind
def vo.init{t:Nat}(h:∀(j:Nat) (o:Oper),ops.toList[j]? = some o->o.dst≠some t):∀(i:Nat),i<=ops.toList.length->(st i).sl t=(st 0).sl t:=by
 intro i;induction i with
 |zero=>intro _;rfl
 |succ i d=>intro c;have a:i<ops.toList.length:=c;have b:=cL a;rw[(H.step i _ b).sl (h i _ b)];exact d (ed a)
omit H in
def mL(id:Nat){m:Nat}:∀(i:Nat),i<=ops.toList.length->m<=i->(∀(j:Nat) (o:Oper),m<=j->j<i->ops.toList[j]? = some o->((st (j+1)).ob id)=(st j).ob id)->(st i).ob id=(st m).ob id:=by
 intro i;induction i with
 |zero=>grind
 |succ i g=>
  intro d f a;rcases vg i m with e|b
  .grind
  .have c:i<ops.toList.length:=d;rw[a i _ b (kF _) (cL c)]
   grind
omit H in
def Up(D:Array Bool)(i:Nat):Prop:=D.getD i false=true
structure At (ops:Array Oper) (st:Nat->S) (D:Array Bool) (cur:S):Prop where
 closed:∀(i j:Nat) (o:Oper),ops.toList[i]? = some o->Up D i->cN (PP ops) i j=true->Up D j
 done:∀(j:Nat) (o:Oper) (t:Nat),ops.toList[j]? = some o->Up D j->o.dst=some t->cur.sl t=(st ops.toList.length).sl t
 rest:∀(t:Nat),(∀(j:Nat) (o:Oper),ops.toList[j]? = some o->Up D j->o.dst≠some t)->cur.sl t=(st 0).sl t
 heap:∀id,∃m,m<=ops.toList.length/\(∀(b:Nat) (o:Oper),ops.toList[b]? = some o->(st (b+1)).ob id≠(st b).ob id->(Up D b↔b<m))/\cur.ob id=(st m).ob id
omit H in
theorem mw{D:Array Bool}{i j:Nat}(a:i<D.size):Up (D.setIfInBounds i true) j↔j=i\/Up D j:=by
 unfold Up;simp only[fc,Array.getElem?_setIfInBounds]
 grind
omit H in
theorem yC{a b i:Nat}(h:a≠b)(c:aD a 0 0<=i)(d:i+1<=aD a 0 0+2048)(e:aD b 0 0<=i)(f:i+1<=aD b 0 0+2048):False:=by
 grind[aD]
def vo.any {D:Array Bool} {cur:S} (hD:D.size=ops.size) (w:At ops st D cur) {i:Nat} {o:Oper} (C:ops.toList[i]? = some o) (hn:¬Up D i)
  (hr:∀e∈o.after.toList,Region.binds .any e=true->Up D e.on):∃f,oD E Ψ ops o cur f/\At ops st (D.setIfInBounds i true) f:=by
 have p:i<ops.toList.length:=by
  grind
 have B:i<D.size:=by rw[hD];simpa using p
 have I:=Ai H.stat;have S1:=H.stat i o C;have pre:∀j,cN (PP ops) i j=true->Up D j:=by
  intro j g;obtain⟨e,G,M,y⟩:=iF C g;have v:=hr e G M;rcases y with y|y
  .rwa[<-y]
  .have hel:e.on<ops.toList.length:=kG (S1.back e G M) p;exact w.closed e.on j _ (cL hel) v y
 have reads:∀t∈lU ops o,cur.sl t=(st i).sl t:=by
  intro t F;by_cases X:∃(j:Nat) (r:Oper),ops.toList[j]? = some r/\r.dst=some t
  .obtain⟨j,r,g,hd⟩:=X;rcases S1.reads t F j r g hd with k|k
   case inr=>
    have hij:=I j i r g k;have H9:¬Up D j:=λv=>hn (w.closed j i r g v k);rw[w.rest t (λj' T P AZ z=>by
     by_cases e:j=j'
     .subst e;exact H9 AZ
     .exact(H.stat j r g).lone t hd j' T P e z)]
    refine(H.Ek i (ed p) λj' T Gh P z=>?_).symm;exact(H.stat j r g).lone t hd j' T P (by omega) z
   have Y:=I i j o C k;rw[w.done j r t g (pre j k) hd,H.fin g hd _ (az _) (kG Y p),<-H.fin g hd i (ed p) Y]
  .have Z:∀(j:Nat) (r:Oper),ops.toList[j]? = some r->r.dst≠some t:=λj r g hd=>X ⟨j,r,g,hd⟩;rw[w.rest t (λj r g _=>Z j r g),H.init Z i (ed p)]
 have u:dn ops o cur=dn ops o (st i):=by
  unfold dn;cases N:o.guard with
  |none=>rfl
  |some gw=>grind[lU,GX]
 have U:∀t,Operand.tmp t∈bG o.op->t∈lU ops o:=by
  grind[lU]
 have E9:∀x∈bG o.op,∀t,ev E cur t x=ev E (st i) t x:=by
  intro x hx t;cases x with
  |tmp j=>exact reads j (U j hx)
  |_=>rfl
 have q:∀id,tu (st i) o id=true->dn ops o (st i)=some true->∀(b:Nat) (n:Oper),ops.toList[b]? = some n->b≠i->(st (b+1)).ob id≠(st b).ob id->cN (PP ops) i b=true\/cN (PP ops) b i=true:=by
  intro id d A b n k J l;rcases H.step b n k with ⟨HR,G⟩|⟨_,G⟩
  .rcases H.apart i b o n C k (λe=>J e.symm) A HR with h|h|⟨Ip,hs1,R⟩
   .exact .inl h
   .exact .inr h
   .exfalso;have O:=AH (E:=E) (Ψ:=Ψ) (s:=st b) (o:=n) _ G id;have c:tu (st b) n id=true:=by
     grind[uY]
    unfold tu at d c;rw[gd,gd,aQ]at d c;have mem:∀ {s:S} {o:Oper},(mr s o).any (Nat.beq id)=true->id∈mr s o:=by
     grind[Nat.eq_of_beq_eq_true]
    have pr:∀ {o:Oper},kr o id=true->aD (o.dst.getD 0) 0 0+2048<=cO->id<cO:=by intro o h M;unfold kr at h;simp only[aQ]at h;have:=bn h.2.2;omega
    rcases d with (d|d)|d
    .obtain⟨⟨e1,e2⟩,_⟩:=hs1.1 id (mem d);exact l (O.same e1 e2)
    .rcases c with (c|c)|c
     .have:=(R.1 id (mem c)).2.1;rw[d]at this;cases this
     .unfold kr at d c;simp only[aQ]at d c;obtain⟨m1,a1,a2⟩:=d;obtain⟨m2,b1,b2⟩:=c;have a1:=bn a1;have a2:=bn a2;have b1:=bn b1;have b2:=bn b2;cases W:o.dst with
      |none=>exact S1.made m1 W
      |some d1=>
       cases Ba:n.dst with
       |none=>exact(H.stat b n k).made m2 Ba
       |some d2=>
        have G6:d1≠d2:=λe=>S1.lone d1 W b n k (λe=>J e.symm) (by rw[Ba,e])
        grind[yC]
     .have:=pr d hs1.2;have:=bn c.2;omega
    .have hge:=bn d.2;rcases c with (c|c)|c
     .have:=(R.1 id (mem c)).2.2 d.1;omega
     .have:=pr c R.2;omega
     grind
  grind[St.uU]
 have Ht:dn ops o (st i)=some true->∀id,tu (st i) o id=true->cur.ob id=(st i).ob id:=by
  intro A id d;obtain⟨m,hm,hmB,Q⟩:=w.heap id;rw[Q];have key:∀(b:Nat) (n:Oper),ops.toList[b]? = some n->b≠i->(st (b+1)).ob id≠(st b).ob id->(Up D b↔b<i):=by
   intro b n k J l;rcases q id d A b n k J l with h|h
   .grind
   .have hib:=I b i n k h;exact⟨λv=>absurd (w.closed b i n k v h) hn,λh'=>by omega⟩
  rcases vg i m with HW|Gk
  .refine mL (ops:=ops) (st:=st) id m hm (ed HW) λj V G M g=>?_
   grind
  .refine(mL (ops:=ops) (st:=st) id i (ed p) Gk λj V G M g=>?_).symm
   grind
 have fin:∀f:S,(∀t,o.dst=some t->f.sl t=(st (i+1)).sl t)->(∀t,o.dst≠some t->f.sl t=cur.sl t)->(∀id,(f.ob id=(st (i+1)).ob id/\cur.ob id=(st i).ob id/\dn ops o (st i)=some true/\tu (st i) o id=true)\/(f.ob id=cur.ob id/\(st (i+1)).ob id=(st i).ob id))->At ops st (D.setIfInBounds i true) f:=by
  intro f G M y;refine⟨λa b oa Hl L k=>?_,λj V t g v hd=>?_,λt F=>?_,λid=>?_⟩
  .rw[mw B]at L⊢;rcases L with e|L
   .grind
   .exact .inr (w.closed a b oa Hl L k)
  .rw[mw B]at v;by_cases e:j=i
   .subst e;rw[g]at C;injection C with C;subst C
    rw[G t hd,H.fin g hd _ (az _) p]
   .have v:Up D j:=v.resolve_left e;rw[M t (λz=>(H.stat j V g).lone t hd i o C e z)];exact w.done j V t g v hd
  .rw[M t (F i o C ((mw B).2 (.inl rfl)))];exact w.rest t λj V g v=>F j V g ((mw B).2 (.inr v))
  .rcases y id with ⟨y,h4,A,d⟩|⟨y,h4⟩
   .refine⟨i+1,p,λb n k l=>?_,y⟩;rw[mw B];by_cases e:b=i
    .grind
    .rcases q id d A b n k e l with h|h
     .grind
     .have hib:=I b i n k h;exact⟨λv=>absurd (w.closed b i n k (v.resolve_left e) h) hn,λh'=>by omega⟩
   .obtain⟨m,hm,hmB,Q⟩:=w.heap id;refine⟨m,hm,λb n k l=>?_,y.trans Q⟩
    grind[mw]
 rcases H.step i o C with ⟨N,K⟩|⟨N,K⟩
 .obtain⟨e1,e2⟩:=sX (E:=E) (s:=st i) (o:=o) (cur:=cur) E9 (Ht N);have Ho:=zL (Ψ:=Ψ) e2;rw[<-e1,K]at Ho;refine⟨DW o.dst ⟨cur.sl,tu (st i) o,cur.ob⟩ (st (i+1)),.inl ⟨by rw[u];exact N,Ho⟩,fin _ (λt F=>Cl F) (λt F=>Cm F) (λid=>?_)⟩;cases d:tu (st i) o id with
  |true=>refine .inl ⟨?_,Ht N id d,N,rfl⟩;show(bif tu (st i) o id then(st (i+1)).ob id else cur.ob id)=_;rw[d];rfl
  |false=>refine .inr ⟨?_,(uY K).2 id d⟩;show(bif tu (st i) o id then(st (i+1)).ob id else cur.ob id)=_;rw[d];rfl
 .refine⟨cur.bI o.dst (.one .undef),.inr ⟨by rw[u];exact N,rfl⟩,fin _ (λt F=>?_) (λt F=>St.zK _ F _) (λid=>.inr ⟨by rw[St.uU],by rw[K,St.uU]⟩)⟩
  grind[St.tU]
def vo.all{D:Array Bool}{a:S}(f:At ops st D a)(l:∀(i:Nat),i<ops.toList.length->Up D i):a=st ops.toList.length:=by
 have h:a.sl=(st ops.toList.length).sl:=by
  funext t;by_cases d:∃(j:Nat) (b:Oper),ops.toList[j]? = some b/\b.dst=some t
  .obtain⟨j,b,c,hd⟩:=d;refine f.done j b t c (l j ?_) hd
   grind
  .have e:∀(j:Nat) (b:Oper),ops.toList[j]? = some b->b.dst≠some t:=λj b c hd=>d ⟨j,b,c,hd⟩;rw[f.rest t (λj b c _=>e j b c),H.init e _ (az _)]
 have k:a.ob=(st ops.toList.length).ob:=by
  funext id;obtain⟨m,n,o,g⟩:=f.heap id;rw[g];refine(mL (ops:=ops) (st:=st) id _ (az _) n λj q h k c=>?_).symm
  grind
 cases a;cases p:st ops.toList.length
 grind
end
variable {Hv:Nat->Value}
def count_set:∀(l:List Bool) (i:Nat),l[i]? = some false->(l.set i true).countP (λb=>!b)+1=l.countP (λb=>!b)
 |[],i,h=>by simp at h
 |b::l,0,h=>by simp at h;subst h;simp
 |b::l,i+1,h=>by
  grind
def qQ{l:List Bool}(h:l.countP (λb=>!b)=0)(i:Nat)(a:i<l.length):l[i]? = some true:=by
 grind
section
variable {R:Type}{P:Program}{E:Env}{Ψ:bA->Option hJ}{ops:Array Oper}{st:Nat->S}
theorem dP{D:Array Bool}{i:Nat}:Up D i↔D.toList[i]? = some true:=by
 unfold Up;rw[fc,fL]
 grind
def Rel.drawn{e:aq}{a:Act}{w w':World}{s:S}(h:Rel Hv e a w s)(d:w'.heap=w.heap)(c:cH e w e w'):Rel Hv e a w' s where
 dH:=h.dH.ext c
 inj:=h.inj
 dom b k hb:=by rw[d];exact h.dom b k hb
 defers:=h.defers
 dJ:=h.dJ
 slots i:=cQ.frame c (λid=>gx.tr ⟨rfl,λb k _ _ _=>⟨by rw[d],rfl⟩⟩ c h.dom) (h.slots i)
 c7 id cells hc:=by obtain⟨b,arr,T,f,g,j⟩:=h.c7 id cells hc;exact⟨b,arr,T,f,by rw[d];exact g,j.mono λ_ _ l=>bU.frame c (λid=>gx.tr ⟨rfl,λb k _ _ _=>⟨by rw[d],rfl⟩⟩ c h.dom) l⟩
def sv(Q:bD P E)(O:eA P E Ψ){U:Nat->Prop}(H:vo E Ψ ops st)(n:∀(i:Nat) (o:Oper),ops.toList[i]? = some o->qd E o.dst=true)(V:∀o∈ops.toList,∀j,U j->o.dst≠some j):
  ∀(c:Nat) (D:Array Bool) (I:aq) (a:Act) (w:World) (g:S) (p:Exit->Act->World->Prop),D.size=ops.size->D.toList.countP (λb=>!b)=c->At ops st D g->a.tmps.size=E.nt->Rel Hv I a w g ->
  (∀r y G,Rel Hv r y G (st ops.toList.length)->cH I w r G->y.tmps.size=a.tmps.size->(∀j,U j->y.tmps.getD j undef=a.tmps.getD j undef)->p .normal y G)->wpAny P .any ops p c D a w
 |c,D,I,a,w,g,p,A,hc,hA,hn,K,hQ=>by
  have hlen:ops.toList.length=D.toList.length:=by simp[A]
  have fin:Region.ready .any ops D=[]->p .normal a w:=by
   intro F;have m:∀(i:Nat),i<ops.toList.length->Up D i:=by
    intro i;induction i using Nat.strongRecOn with
    |ind i ih=>
     intro L;cases hu:D.getD i false with
     |true=>exact hu
     |false=>
      exfalso;have Ic:=cL L;have s:i∈Region.ready .any ops D:=by
       refine mem_ready.2 ⟨?_,ops.toList[i],by simp,λe Y X=>?_⟩
       .grind
       .have C:=(H.stat i _ Ic).back e (by simpa using Y) X;exact ih e.on C (kG C L)
      grind
   rw[H.all hA m]at K
   grind[cH.refl]
  cases c with
  |zero=>
   have F:Region.ready .any ops D=[]:=by
    cases F:Region.ready .any ops D with
    |nil=>rfl
    |cons i l=>
     exfalso;have s:i∈Region.ready .any ops D:=by rw[F];simp
     obtain⟨hju,o,M,_⟩:=mem_ready.1 s;have HX:i<D.toList.length:=by
      grind
     have:=qQ hc i HX;simp_all
   exact⟨F,fin F⟩
  |succ c=>
   refine⟨fin,λi L=>?_⟩;obtain⟨hju,o,Hj,m⟩:=mem_ready.1 L;have M:ops.toList[i]? = some o:=by grind
   have HV:i<ops.size:=by
    grind
   have hiD:i<D.size:=by rw[A];exact HV
   have q:D.toList[i]? = some false:=by simp_all
   have Hi:¬Up D i:=by rw[dP,q];simp
   obtain⟨h,hst,z⟩:=H.any A hA M Hi (λe Y X=>m e (by simpa using Y) X);have B:(D.setIfInBounds i true).toList.countP (λb=>!b)=c:=by
    grind
   have hd:∀d,o.dst=some d->d<a.tmps.size:=by intro d e;have:=n i o M;rw[e]at this;have u:d+1<=E.nt:=bn this;rw[hn];exact u
   have W:=V o (pZ M);have yes:step1 E Ψ o g=some h->o.wp P a w (wpAny P .any ops p c (D.setIfInBounds i true)) p:=by
    intro u;refine Oper.wp_mono (λy G v=>?_) (jM (R:=S) (k:=some) Q O K hd u);obtain⟨r,s',g1,g2,N,g4,g5⟩:=v;injection N with N
    subst N;refine sv Q O H n V c _ r y G s' p (by simpa using A) B z (g4.trans hn) g1 (λJ a2 w2 q1 q2 q4 q5=>?_);exact hQ J a2 w2 q1 (g2.trans q2) (q4.trans g4) (λj hj=>(q5 j hj).trans (g5 j (W j hj)))
   have no:h=g.bI o.dst (.one .undef)->wpAny P .any ops p c (D.setIfInBounds i true) (a.put o.dst undef) w:=by
    intro u;have T:Rel Hv I (a.put o.dst undef) w h:=by rw[u];exact K.bI hd (t:=.one .undef) rfl
    refine sv Q O H n V c _ I _ w h p (by simpa using A) B z ((jJ _ _ _).trans hn) T (λJ a2 w2 q1 q2 q4 q5=>?_)
    grind[jJ,lT]
   unfold wpOp;rw[Hj];simp only[];have hw:∀b,dn ops o g=some b->Region.wanted o (yielded ops a.tmps)=b:=by
    intro b f;unfold dn at f;cases Z:o.guard with
    |none=>grind[Region.wanted]
    |some gw=>
     obtain⟨j,want⟩:=gw;rw[Z]at f;simp only[]at f;cases ht:(ops[j]?).bind (·.dst)with
     |none=>rw[ht]at f;cases f
     |some t=>
      rw[ht]at f;simp only[]at f;have x:=K.slots t;cases hs:g.sl t with
      |one l=>
       rw[hs]at f x;cases l with
       |val tt b0=>
        cases tt with
        |bool=>
         injection f with f
         have hv:a.tmps.getD t undef=.bool b0:=x;have hy:=oc (ops:=ops) ht hv
         grind[Region.wanted]
        |_=>cases f
       |undef=>
        injection f with f
        have hv:a.tmps.getD t undef=undef:=x
        grind[mE,Region.wanted]
       |_=>cases f
      |_=>rw[hs]at f;cases f
   rcases hst with ⟨f,u⟩|⟨f,u⟩
   .grind
   grind
def pJ (y:bD P E) (x:eA P E Ψ) {U:Nat->Prop} {u:aq} {a:Act} {w:World} {s:S} {k:S->Option R} {r:R} {Qn:Exit->Act->World->Prop} (A:∀o∈ops.toList,∀j,U j->o.dst≠some j) (D:a.tmps.size=E.nt) (h:Rel Hv u a w s)
  (f:nU E (av R) (tab Ψ R) ops s k=some r)
  (z:∀c e l v,Rel Hv c e l v->cH u w c l->k v=some r->e.tmps.size=a.tmps.size->(∀j,U j->e.tmps.getD j undef=a.tmps.getD j undef)->Qn .normal e l):wpAny P .any ops Qn ops.size (Array.replicate ops.size false) a w:=by
 unfold nU at f;cases p:mq (gm ops.toList []) ops 0 ops.toList with
 |false=>rw[p]at f;cases f
 |true=>
  rw[p]at f;simp only[aJ]at f;obtain⟨st,m,g⟩:=oH _ _ _ _ _ f;have H:=Dh p m;rw[bC]at g;have q:(Array.replicate ops.size false).toList.countP (λb=>!b)=ops.size:=by simp[List.countP_replicate]
  refine sv y x (U:=U) H (λi o F=>m.dst i o F) A ops.size _ u a _ s Qn (by simp) q ?_ D h (λc e l G I J K=>z c e l _ G I g J K);have d:∀i,¬Up (Array.replicate ops.size false) i:=by
   grind[dP]
  exact⟨λi j o _ B=>absurd B (d i),λj o t _ C=>absurd C (d j),λt _=>by rw[m.first],λid=>⟨0,kR _,λb o _ _=>⟨λn=>absurd n (d b),λn=>absurd n (vi _)⟩,by rw[m.first]⟩⟩
def yF (t:P.follows .mixedOrders=true) (m:bD P E) (l:eA P E Ψ) {U:Nat->Prop} {id:Nat} {f:aq} {a:Act} {w:World} {s:S} {k:S->Option R} {r:R} {g:Exit->Act->World->Prop} (p:∀o∈ops.toList,∀j,U j->o.dst≠some j) (u:a.tmps.size=E.nt) (h:Rel Hv f a w s)
  (q:nU E (av R) (tab Ψ R) ops s k=some r)
  (n:∀b c d e,Rel Hv b c d e->cH f w b d->k e=some r->c.tmps.size=a.tmps.size->(∀j,U j->c.tmps.getD j undef=a.tmps.getD j undef)->g .normal c d):(Code.region id ops true).wp P g a w:=
 have i:cH f w f { w with drawn:=w.drawn+1 }:=⟨rfl,rfl,⟨rfl,kE _⟩,az _,λ_ _ _=>⟨rfl,rfl⟩⟩
 wp_region_any t (pJ m l p u (h.drawn rfl i) q λb c d e v x y z A=>n b c d e v (i.trans x) y z A)
end
end Go.R
namespace Go.R
variable {H:Nat->Value}
def CS{P:Program}{o:Oper}{a:Act}{w:World}{K:Act->World->Prop}{Q Q':Exit->Act->World->Prop}(b:∀e,e≠.normal->Q e=Q' e)(h:o.wp P a w K Q):o.wp P a w K Q':=by simp_all[LetsOut,Oper.wp,Oper.upon]
def mG{P:List Nat}{m:Nat}:∀ {l:List Oper} {k:Nat},ox P m k l=true->∀(j:Nat) (o:Oper),l[j]? = some o ->
  (∀e∈o.after.toList,Region.binds .any e=true->e.on<k+j)/\(m<=k+j->o.guard=none/\∀i,i<k+j->cN P (k+j) i=true)/\(k+j<m->∀i b,o.guard=some (i,b)->i<m)
 |[],_,_,j,o,h=>by simp at h
 |o::r,k,h,0,f,c=>by
  simp at c;subst c;simp only[ox,aQ]at h;obtain⟨s,a,_⟩:=h;refine⟨λe n g=>?_,λd=>?_,λd i b p=>?_⟩
  .have:=cg.1 s e n;rw[g]at this;exact bn (by simpa using this)
  .have:Nat.ble m k=true:=Nat.ble_eq_true_of_le (by simpa using d);rw[this]at a;simp only[aJ,aQ]at a;exact⟨by simpa using a.1,λi q=>cg.1 a.2 i (List.mem_range.2 (by simpa using q))⟩
  .have:Nat.ble m k=false:=by
    grind
   rw[this,p]at a;exact bn a
 |o::r,k,h,j+1,f,c=>by
  simp only[ox,aQ]at h;have:=mG h.2.2 j f (by simpa using c)
  grind
section
variable {ops:Array Oper}
def D0(a:∀(i:Nat) (o:Oper),ops.toList[i]? = some o->∀e∈o.after.toList,Region.binds .any e=true->e.on<i):∀(i j:Nat) (o:Oper),ops.toList[i]? = some o->cN (PP ops) i j=true->j<i:=by
 intro i;induction i using Nat.strongRecOn with
 |ind i b=>grind[iF]
def Ft(a:Array Oper)(D:Array Bool):Prop:=∀(i:Nat) (o:Oper),a.toList[i]? = some o->Up D i->∀e∈o.after.toList,Region.binds .any e=true->Up D e.on
def Dd(m:∀(i:Nat) (o:Oper),ops.toList[i]? = some o->∀e∈o.after.toList,Region.binds .any e=true->e.on<i){D:Array Bool}(l:Ft ops D):∀(i j:Nat) (o:Oper),ops.toList[i]? = some o->(∀e∈o.after.toList,Region.binds .any e=true->Up D e.on)->cN (PP ops) i j=true->Up D j:=by
 intro i;induction i using Nat.strongRecOn with
 |ind i p=>
  intro j o g k h;obtain⟨e,d,f,a⟩:=iF g h;have c:=m i o g e d f;rcases a with a|a
  .rw[<-a];exact k e d f
  .have n:i<ops.toList.length:=by
    grind
   have b:=cL (kG c n);exact p e.on c j _ b (l e.on _ b (k e d f)) a
def De{D:Array Bool}(c:Ft ops D){i:Nat}{o:Oper}(g:i<D.size)(k:ops.toList[i]? = some o)(l:∀e∈o.after.toList,Region.binds .any e=true->Up D e.on):Ft ops (D.setIfInBounds i true):=by
 intro j h b a e f d;rw[mw g]at a⊢;rcases a with rfl|a
 .grind
 .exact .inr (c j h b a e f d)
def Dm(n m:Nat):Array Bool:=(List.replicate m true++List.replicate (n-m) false).toArray
def wx{n m i:Nat}(h:m<=n):Up (Dm n m) i↔i<m:=by
 grind[dP,Dm]
def D8{n m:Nat}(h:m<n):(Dm n m).setIfInBounds m true=Dm n (m+1):=by
 unfold Dm
 grind
def uC{n m:Nat}(h:m<=n):(Dm n m).size=n:=by unfold Dm;simp;omega
end
section
variable {R:Type}{P:Program}{E:Env}{Ψ:bA->Option hJ}{Ξ:vq}{ops:Array Oper}
def wm(hE:bD P E)(hC:eA P E Ψ)(hI:jm P E Ξ){U:Nat->Prop}(hU:∀o∈ops.toList,∀j,U j->o.dst≠some j){m:Nat}(hb:ox (PP ops) m 0 ops.toList=true){k:S->Option R}{r:R}{Qn:Exit->Act->World->Prop}:
  ∀(l:List Oper) (i:Nat) (I:aq) (a:Act) (w:World) (s:S),m<=i->i<=ops.toList.length->l=ops.toList.drop i->a.tmps.size=E.nt->Rel H I a w s->lq E (av R) (tab Ψ R) (mi Ξ R) ops l s k=some r ->
   (∀q y G K,Rel H q y G K->cH I w q G->k K=some r->y.tmps.size=a.tmps.size->(∀j,U j->y.tmps.getD j undef=a.tmps.getD j undef)->Qn .normal y G)->wpAny P .any ops Qn l.length (Dm ops.size i) a w
 |[],i,I,a,w,s,Z,X,hl,hn,h,u,N=>by
  have C:ops.toList.length=i:=by
   grind[List.length_drop]
  refine⟨?_,N I a w s h (cH.refl _ _) u rfl λ_ _=>rfl⟩;rw[List.eq_nil_iff_forall_not_mem];intro j v;obtain⟨L,o,M,_⟩:=mem_ready.1 v;have Y:j<ops.size:=(kT.1 M).1;have:Up (Dm ops.size i) j:=(wx (by rw[<-C];simp)).2 (by grind)
  grind[Up]
 |o::l,i,I,a,w,s,Z,X,hl,hn,h,u,N=>by
  have p:i<ops.toList.length:=by
   grind
  have f:=List.drop_eq_getElem_cons p;rw[<-hl]at f;injection f with e1 e2
  have J:ops.toList[i]? = some o:=by grind
  have b:i<ops.size:=by simpa using p
  have g:=λ(j:Nat) (F:Oper) (v:ops.toList[j]? = some F)=>mG hb j F v;have c:∀(i:Nat) (o:Oper),ops.toList[i]? = some o->∀e∈o.after.toList,Region.binds .any e=true->e.on<i:=λi o hi=>by grind
  have hg:=((g i o J).2.1 (by omega)).1;have only:∀j∈Region.ready .any ops (Dm ops.size i),j=i:=by
   intro j v;obtain⟨L,F,M,h3⟩:=mem_ready.1 v;have Y:j<ops.size:=(kT.1 M).1;have hz:j<(Dm ops.size i).size:=by grind
   have D:¬Up (Dm ops.size i) j:=by
    grind[Up]
   rw[wx (ed b)]at D;rcases vg i j with W|W
   .exfalso;have B:ops.toList[j]? = some F:=by grind
    have t:=((g j F B).2.1 (by omega)).2 i (by omega);rw[bC]at t;obtain⟨e,q1,q2,z⟩:=iF B t;have x:=h3 e (by simpa using q1) q2;have x:e.on<i:=(wx (ed b)).1 x;rcases z with z|z
    .omega
    .have V:=cL (kG x p);have:=D0 c e.on i _ V z;omega
   .omega
  refine⟨λhr=>?_,λj v=>?_⟩
  .exfalso;have:i∈Region.ready .any ops (Dm ops.size i):=by
    refine mem_ready.2 ⟨?_,o,by grind,λe T Q=>(wx (ed b)).2 (c i o J e (by simpa using T) Q)⟩;have hz:i<(Dm ops.size i).size:=by rw[uC (ed b)];exact b
    have D:¬Up (Dm ops.size i) i:=by rw[wx (ed b)];omega
    grind[Up]
   grind
  .obtain rfl:=only j v;simp only[lq]at u;cases n:qd E o.dst with
   |false=>rw[n]at u;cases u
   |true=>
   rw[n,hg]at u;simp only[aJ]at u;have hd:∀d,o.dst=some d->d<a.tmps.size:=by intro d e;rw[e]at n;have L:d+1<=E.nt:=bn n;rw[hn];exact L
   have O:=hU o (pZ J);unfold wpOp;rw[<-fL,J];simp only[];rw[cj (by simp[Region.wanted,hg])];refine .inl (Oper.wp_mono (λy G T=>?_) (ua hE hC hI h hd u));obtain⟨q,K,g1,g2,g3,g4,g5⟩:=T;rw[D8 b];exact wm hE hC hI hU hb l (j+1) q y G K (by omega) p e2 (g4.trans hn) g1 g3 λCX a2 w2 s2 q1 q2 z q4 q5=>N CX a2 w2 s2 q1 (g2.trans q2) z (q4.trans g4) λj' A=>(q5 j' A).trans (g5 j' (O j' A))
def upTo(n:Nat)(D:Array Bool):Array Bool:=(D.toList++List.replicate n false).toArray
def n9{n:Nat}{D:Array Bool}{i:Nat}:Up (upTo n D) i↔Up D i:=by
 grind[dP,upTo]
def xj{n:Nat}{D:Array Bool}{i:Nat}(h:i<D.size):(upTo n D).setIfInBounds i true=upTo n (D.setIfInBounds i true):=by
 grind[upTo]
def oR{D:Array Bool}{i:Nat}(h:i<D.size):¬Up D i↔D.getD i true=false:=by
 grind[Up]
def BC{m:Nat}(Y:m<=ops.toList.length)(W:ox (PP ops) m 0 ops.toList=true){Q Qn:Exit->Act->World->Prop}(S:∀e,e≠.normal->Q e=Qn e){n:Nat}(hn:n=ops.size-m)(X:∀a w,Q .normal a w->wpAny P .any ops Qn n (Dm ops.size m) a w):
  ∀(c:Nat) (D:Array Bool) (a:Act) (w:World),D.size=m->D.toList.countP (λb=>!b)=c->Ft ops (upTo n D)->wpAny P .any (ops.toList.take m).toArray Q c D a w->wpAny P .any ops Qn (c+n) (upTo n D) a w
 |c,D,a,w,M,C,u,h=>by
  have I1:m<=ops.size:=by simpa using Y
  have l:=λ(j:Nat) (Z:Oper) (J:ops.toList[j]? = some Z)=>mG W j Z J;have g:∀(i:Nat) (o:Oper),ops.toList[i]? = some o->∀e∈o.after.toList,Region.binds .any e=true->e.on<i:=λi o p=>by grind
  have k:∀i,i<m->((ops.toList.take m).toArray)[i]? = ops[i]?:=λi p=>by
   grind
  have T:(upTo n D).size=ops.size:=by unfold upTo;simp;omega
  have back:∀i∈Region.ready .any (ops.toList.take m).toArray D,i<m/\i∈Region.ready .any ops (upTo n D):=by
   intro i p;obtain⟨L,o,z,A⟩:=mem_ready.1 p;have r:i<m:=by
    grind
   refine⟨r,mem_ready.2 ⟨?_,o,by rw[<-k i r];exact z,λe q d=>n9.2 (A e q d)⟩⟩;rw[<-oR (by rw[T];omega),n9,oR (by omega)];exact L
  have least:(∃i,i<m /\ ¬Up D i)->∃i,i∈Region.ready .any (ops.toList.take m).toArray D:=by
   intro ⟨i,p,H⟩;induction i using Nat.strongRecOn with
   |ind i ih=>
    by_cases E:∃j,j<i /\ ¬Up D j
    .obtain⟨j,J,v⟩:=E;exact ih j J (by omega) v
    .have G:i<ops.toList.length:=by omega
     refine⟨i,mem_ready.2 ⟨(oR (by omega)).1 H,ops.toList[i],by grind,λe q d=>?_⟩⟩;have R:=g i _ (cL G) e (by simpa using q) d;apply oo;intro x;exact E ⟨e.on,R,x⟩
  cases c with
  |zero=>
   have B:∀i,i<m->Up D i:=λi p=>dP.2 (qQ C i (by simpa[M] using p));have e:upTo n D=Dm ops.size m:=by
    unfold upTo Dm
    grind
   rw[e,bC];exact X a w h.2
  |succ c=>
   have y:∃i,i<m /\ ¬Up D i:=by
    apply oo;intro x;have B:∀b∈D.toList,b=true:=by
     intro b d;obtain⟨i,p,rfl⟩:=vL d;have H:Up D i:=oo λH=>x ⟨i,by simpa[M] using p,H⟩;have:=dP.1 H
     grind
    grind[List.countP_eq_zero]
   rw[Nat.succ_add];refine⟨λK=>?_,λi p=>?_⟩
   .grind
   .obtain⟨L,o,z,A⟩:=mem_ready.1 p;have s:ops.toList[i]? = some o:=by grind
    have G:i<ops.size:=(kT.1 z).1;have r:i<m:=by apply oo;intro hge;obtain⟨j,J,v⟩:=y;have t:=((l i o s).2.1 (by omega)).2 j (by omega);rw[bC]at t;exact v (n9.1 (Dd g u i j o s (λe q d=>A e (by simpa using q) d) t))
    have F:((ops.toList.take m).toArray)[i]? = some o:=(k i r).trans z;have K:i∈Region.ready .any (ops.toList.take m).toArray D:=by refine mem_ready.2 ⟨?_,o,F,λe q d=>n9.1 (A e q d)⟩;rw[<-oR (by omega),<-n9 (n:=n),oR (by omega)];exact L
    have Hi:¬Up D i:=(oR (by omega)).2 (mem_ready.1 K).1;have I:D.toList[i]? = some false:=by
     have:=(mem_ready.1 K).1;rw[fc,Array.getElem?_eq_getElem (by omega)]at this
     grind
    have next:∀a w,wpAny P .any (ops.toList.take m).toArray Q c (D.setIfInBounds i true) a w->wpAny P .any ops Qn (c+n) ((upTo n D).setIfInBounds i true) a w:=λa w U=>by
     rw[xj (by omega)];refine BC Y W S hn X c (D.setIfInBounds i true) a w (by simpa using M) ?_ ?_ U
     .grind
     .rw[<-xj (by omega)];exact De u (by omega) s (λe q d=>A e (by simpa using q) d)
    have f:=h.2 i K;unfold wpOp at f⊢;rw[F]at f;rw[z];simp only[]at f⊢;have U:Region.wanted o (yielded ops a.tmps)=Region.wanted o (yielded (ops.toList.take m).toArray a.tmps):=by
     cases N:o.guard with
     |none=>simp[Region.wanted,N]
     |some jb=>
      obtain⟨j,b⟩:=jb;have O:=(l i o s).2.2 (by omega) j b N;have hy:yielded ops a.tmps j=yielded (ops.toList.take m).toArray a.tmps j:=by unfold yielded;rw[k j O]
      simp[Region.wanted,N,hy]
    rw[U];split
    .rename_i V;rw[cj V]at f;rcases f with f|⟨f,hlo⟩
     .exact .inl (Oper.wp_mono next (CS S f))
     .refine .inr ⟨f,?_⟩;have:LetsOut Q=LetsOut Qn:=by unfold LetsOut;rw[S .outgrown (λe=>by cases e)]
      grind
    grind
def yE (p:P.follows .mixedOrders=true) (v:bD P E) (u:eA P E Ψ) (I:jm P E Ξ) {U:Nat->Prop} {id m:Nat} {g:aq} {a:Act} {w:World} {s:S} {k:S->Option R} {r:R} {Qn:Exit->Act->World->Prop} (x:∀o∈ops.toList,∀j,U j->o.dst≠some j) (B:a.tmps.size=E.nt) (h:Rel H g a w s)
  (d:uR E (av R) (tab Ψ R) (mi Ξ R) ops m s k=some r)
  (K:∀f b w' D,Rel H f b w' D->cH g w f w'->k D=some r->b.tmps.size=a.tmps.size->(∀j,U j->b.tmps.getD j undef=a.tmps.getD j undef)->Qn .normal b w'):(Code.region id ops true).wp P Qn a w:=by
 unfold uR at d;cases c:(Nat.ble m ops.toList.length&&ox (gm ops.toList []) m 0 ops.toList)with
 |false=>rw[c]at d;cases d
 |true=>
  rw[c]at d;simp only[aJ]at d;rw[aQ]at c;have n:=bn c.1;have L:m<=ops.size:=by simpa using n
  have z:cH g w g { w with drawn:=w.drawn+1 }:=⟨rfl,rfl,⟨rfl,kE _⟩,az _,λ_ _ _=>⟨rfl,rfl⟩⟩
  refine wp_region_any p ?_;have J:(ops.toList.take m).toArray.size=m:=by simp;omega
  have O:upTo (ops.size-m) (Array.replicate m false)=Array.replicate ops.size false:=by
   grind[upTo]
  rw[<-O];have l:ops.size=m+(ops.size-m):=by omega
  conv=>congr;rfl;rfl;rfl;rfl;rw[l]
  refine BC n c.2 (Q:=λe b w'=>match e with |.normal=>wpAny P .any ops Qn (ops.size-m) (Dm ops.size m) b w'|e=>Qn e b w') (λe M=>?_) rfl (λ_ _ h=>h) m _ a _ (by simp) (by simp[List.countP_replicate]) ?_ ?_
  .grind
  .intro i o _ hi
   grind[dP]
  .have y:=pJ (w:={ w with drawn:=w.drawn+1 }) (ops:=(ops.toList.take m).toArray) (Qn:=λe b w'=>match e with |.normal=>wpAny P .any ops Qn (ops.size-m) (Dm ops.size m) b w'|e=>Qn e b w') v u (U:=U) (λo N=>x o (List.mem_of_mem_take (by simpa using N))) B (h.drawn (w':={ w with drawn:=w.drawn+1 }) rfl z) d (λq F w1 s1 Z q2 q3 C q5=>by
    have hl:(ops.toList.drop m).length=ops.size-m:=by simp
    have:=wm v u I x c.2 (ops.toList.drop m) m q F w1 s1 (az _) n rfl (C.trans B) Z q3 (Qn:=Qn) λt G w2 s2 T V W X Y=>K t G w2 s2 T (z.trans (q2.trans V)) W (X.trans C) λj A=>(Y j A).trans (q5 j A)
    grind)
   grind
end
def Ex.beq:Ex->Ex->Bool
 |.normal,.normal=>true
 |.exit i,.exit j=>Nat.beq i j
 |.ret,.ret=>true
 |_,_=>false
theorem Ex.eq_of_beq:∀ {a b:Ex},Ex.beq a b=true->a=b
 |.normal,.normal,_=>rfl
 |.exit i,.exit j,h=>by rw[bc h]
 |.ret,.ret,_=>rfl
 |.normal,.exit _,h=>by cases h
 |.normal,.ret,h=>by cases h
 |.exit _,.normal,h=>by cases h
 |.exit _,.ret,h=>by cases h
 |.ret,.normal,h=>by cases h
 |.ret,.exit _,h=>by cases h
theorem ep{g:List Nat}{d:Nat}(hd:d∈g):∀(c:Code),b9 g c=true->b9 [d] c=true
 |.skip,_=>rfl
 |.exit _,_=>rfl
 |.ret,_=>rfl
 |.region _ k _,h=>by
  simp only[b9,cg]at h⊢;intro o j;have:=h o j;cases f:o.dst with
  |none=>rfl
  |some e=>rw[f]at this;simp only[jw,List.any_eq_false]at this⊢;intro x i;rw[kH]at i;subst i;exact this x hd
 |.seq a b,h=>by simp only[b9,aQ]at h⊢;exact⟨ep hd a h.1,ep hd b h.2⟩
 |.cond _ a b,h=>by simp only[b9,aQ]at h⊢;exact⟨ep hd a h.1,ep hd b h.2⟩
 |.block _ b,h=>ep hd b h
 |.loop b,h=>ep hd b h
 |.scope _,h=>by cases h
 |.rangeFunc ..,h=>by cases h
 |.label _,h=>by cases h
 |.goto _,h=>by cases h
 |.refuse _,h=>by cases h
def CW(P:Program)(c:Code)(Q:Exit->Act->World->Prop)(a:Act)(w:World):Prop:=∀(b:Frame) (k:List Item) (f:List Frame),∃e d g,Q e d g/\Arrives P (lone (b.at a (.code c::.inLoop c::k)) f w) b k f e d g
section
variable {P:Program}{Q:Exit->Act->World->Prop}{a:Act}{w:World}{c:Code}
def u0(h:CW P c Q a w):(Code.loop c).wp P Q a w:=λb k f=>let ⟨e,d,g,q,r⟩:=h b k f;⟨e,d,g,q,.of_steps (.one step_loop) r⟩
def xm(h:c.wp P (Exit.then (λr s=>CW P c Q r s) Q) a w):CW P c Q a w:=by
 intro b k q;obtain⟨e,f,g,m,d⟩:=h b (.inLoop c::k) q;cases e with
 |normal=>obtain⟨o,n,p,j,i⟩:=m b k q;exact⟨o,n,p,j,.of_steps (Steps.trans d (.one step_inLoop)) i⟩
 |exit id=>exact⟨_,f,g,m,.pass (x:=.inLoop c) rfl (λ_ _=>.inl (by simp)) d⟩
 |goto l=>exact⟨_,f,g,m,.pass (x:=.inLoop c) rfl (λ_ _=>.inl (by simp)) d⟩
 |ret=>exact⟨_,f,g,m,.pass (x:=.inLoop c) rfl (λ_ _=>.inl (by simp)) d⟩
 |panic t=>exact⟨_,f,g,m,.pass (x:=.inLoop c) rfl (λ_ _=>.inl (by simp)) d⟩
 |outgrown=>exact⟨_,f,g,m,.pass (x:=.inLoop c) rfl (λ_ _=>.inl (by simp)) d⟩
def CR{d:Exit->Act->World->Prop}(h:CW P c Q a w)(i:∀e a w,Q e a w->d e a w):CW P c d a w:=λb k g=>let ⟨e,f,j,q,r⟩:=h b k g;⟨e,f,j,i _ _ _ q,r⟩
def CQ (I:Act->World->Prop) (g:Act->World->Nat) (d:I a w)
  (round:∀a w,I a w->c.wp P (Exit.then (λb f=>I b f/\g b f<g a w) Q) a w):CW P c Q a w:=by
 have i:∀n a w,g a w=n->I a w->CW P c Q a w:=by
  intro n;induction n using Nat.strongRecOn with
  |_ n l=>
   intro a w k j;refine xm (wp_mono (round a w j) λe b f h=>?_);cases e with
   |normal=>exact l (g b f) (k▸h.2) b f rfl h.1
   |_=>exact h
 exact i _ a w rfl d
end
section
variable {R:Type}(P:Program)(E:Env)(Ψ:bA->Option hJ)(Λ:Nat->Option dR)
def vB(H:Nat->Value)(c:Code)(b:bp)(k:aq)(a:Act)(w:World)(i:fE real (bp.ks b))(h:Ex)(t:bp)(y:fE real (bp.ks t)):Exit->Act->World->Prop:=λe f g=>FV e h/\∃d,Rel H d f g (ng b t i y)/\cH k w d g/\f.tmps.size=a.tmps.size/\∀j,b9 [j] c=true->f.tmps.getD j undef=a.tmps.getD j undef
def FW(c:Code)(t:(R:Type)->S->(Ex->S->Option R)->Option R):Prop:=∀(H:Nat->Value) (R:Type) (U:Nat->Prop) (b:aq) (a:Act) (w:World) (s:S) (k:Ex->S->Option R) (r:R),
 a.tmps.size=E.nt->(∀j,U j->b9 [j] (.loop c)=true)->Rel H b a w s->t R s k=some r->CW P c (Post H U b a w k r) a w
def nB(c:Code)(l:dR):Prop:=
 (∀t,l.ip=some t->FW P E c t)/\∀(H:Nat->Value) (d:aq) (a:Act) (w:World) (b:fE real (bp.ks l.keep)) (x:fE real (bp.ks l.gZ)) (q:jX real l.gD),a.tmps.size=E.nt->Rel H d a w (ng l.keep l.gZ b x)->kz w d a l.keep b ->
  (l.keep.map (·.2)).all Sh.eG=true->b9 (l.keep.map (·.1)) c=true->l.fn b x=some q->∃e t y,(∀ {M:Type} (k:Ex->(t:bp)->fE real (bp.ks t)->M),jX.elim l.gD q k=k e t y)/\CW P c (vB H c l.keep d a w b e t y) a w
def bY:Nat->Code->List (Nat×Code)
 |n,.loop c=>[(n,c)]
 |n,.seq a b=>bY n a++bY n b
 |n,.cond _ a b=>bY n a++bY n b
 |_,.block i b=>bY i b
 |_,_=>[]
def Df{b:aq}{a:Act}{w:World}{s:S}(h:Rel H b a w s)(t:Nat):∃c,Rel H c a w (Eb s t)/\cH b w c w:=by
 unfold Eb;split
 .rename_i id g k _;cases j:Nat.beq (s.ob id).g g with
  |false=>exact⟨b,h,cH.refl _ _⟩
  |true=>
   simp only[aJ];split
   .rename_i e f i x d;exact⟨_,h.freeze d true,bj _ _ _ (h.pR (by rw[d];exact λe=>nomatch e))⟩
   .exact⟨b,h,cH.refl _ _⟩
 .exact⟨b,h,cH.refl _ _⟩
def Ec{d:aq}{a:Act}{w:World}{s:S}(h:Rel H d a w s)(b:Array Oper):∃c,Rel H c a w (F6 b s)/\cH d w c w:=by
 unfold F6;generalize qw (w5 b.toList)=l;induction l generalizing d s with
 |nil=>exact⟨d,h,cH.refl _ _⟩
 |cons t l k=>obtain⟨m,i,f⟩:=Df h t;obtain⟨e,j,g⟩:=k i;exact⟨e,j,f.trans g⟩
def iC:∀(n:Nat) (c:Code),jI c=true->bY n c=[]
 |n,.seq x y,h=>by simp only[jI,aQ]at h;simp only[bY,iC n x h.1,iC n y h.2,e9]
 |n,.cond q x y,h=>by simp only[jI,aQ]at h;simp only[bY,iC n x h.1,iC n y h.2,e9]
 |n,.block i x,h=>iC i x h
 |n,.loop _,h=>nomatch h
 |n,.skip,_|n,.region ..,_|n,.exit _,_|n,.ret,_|n,.scope _,_|n,.rangeFunc ..,_|n,.label _,_|n,.goto _,_|n,.refuse _,_=>rfl
def e8(l:List (Nat×Code)):Prop:=∀p∈l,∀q,Λ p.1=some q->nB P E p.2 q
variable {P E Ψ Λ}{Ξ:vq}{pl:Nat->Bool}
def iJ(Q:bD P E)(V:eA P E Ψ)(hI:jm P E Ξ){U:Nat->Prop}{r:R}:∀(c:Code) (n:Nat) (v:aq) (a:Act) (w:World) (s:S) (k:Ex->S->Option R),(∀j,U j->b9 [j] c=true)->e8 P E Λ (bY n c)->a.tmps.size=E.nt->Rel H v a w s ->
  exec E (av R) (tab Ψ R) (Am Λ Ξ pl R) n c s k=some r->c.wp P (Post H U v a w k r) a w
 |.skip,n,v,a,w,s,k,_,_,_,h,f=>wp_skip ⟨.normal,v,s,trivial,h,cH.refl _ _,f,rfl,λ_ _=>rfl⟩
 |.exit i,n,v,a,w,s,k,_,_,_,h,f=>wp_exit ⟨.exit i,v,s,rfl,h,cH.refl _ _,f,rfl,λ_ _=>rfl⟩
 |.ret,n,v,a,w,s,k,_,_,_,h,f=>wp_ret ⟨.ret,v,s,trivial,h,cH.refl _ _,f,rfl,λ_ _=>rfl⟩
 |.region id ops d,n,v,a,w,s,k,M,_,K,h,f=>by
  cases d with
  |true=>
   have G3:∀o∈ops.toList,∀j,U j->o.dst≠some j:=λo ho j I e=>by have:=M j I;simp only[b9,cg]at this;have:=this o ho;rw[e]at this;simp at this
   simp only[exec,aJ]at f;split at f
   .exact yE Q.mo Q V hI (U:=U) (k:=k .normal) G3 K h f λg a' w' D u B C G z=>⟨.normal,g,D,trivial,u,B,C,G,z⟩
   obtain⟨FP,h0,e0⟩:=Ec h ops;exact yF Q.mo Q V (U:=U) (k:=k .normal) G3 K h0 f (λg a' w' D u B C G z=>⟨.normal,g,D,trivial,u,e0.trans B,C,G,z⟩)
  |false=>refine wp_region_list (uQ Q V hI (U:=U) ops.toList v a w s (k .normal) _ (λo ho j I e=>?_) K h f (λg a' w' D u B C G z=>⟨.normal,g,D,trivial,u,B,C,G,z⟩));have:=M j I;simp only[b9,cg]at this;have:=this o ho;rw[e]at this;simp at this
 |.seq x y,n,v,a,w,s,k,M,T,K,h,f=>by
  have HH:∀j,U j->b9 [j] x=true:=λj I=>by have:=M j I;simp only[b9,aQ]at this;exact this.1
  have HI:∀j,U j->b9 [j] y=true:=λj I=>by have:=M j I;simp only[b9,aQ]at this;exact this.2
  have L:=iJ Q V hI x n v a w s _ HH (λp A=>T p (aW.2 (.inl A))) K h f;refine wp_seq (wp_mono L λe a' w' A=>?_);obtain⟨ex,g,D,u,B,C,G,z,O⟩:=A;cases ex with
  |normal=>
   cases e with
   |normal=>refine wp_mono (iJ Q V hI y n g a' w' D k HI (λp A=>T p (aW.2 (.inr A))) (z.trans K) B G) λe2 a2 w2 hp2=>?_;obtain⟨HD,CX,s2,t1,t2,t3,t4,t5,t6⟩:=hp2;exact⟨HD,CX,s2,t1,t2,C.trans t3,t4,t5.trans z,λj I=>(t6 j I).trans (O j I)⟩
   |_=>cases u
  |exit i=>
   cases e with
   |exit j=>exact⟨.exit i,g,D,u,B,C,G,z,O⟩
   |_=>cases u
  |ret=>
   cases e with
   |ret=>exact⟨.ret,g,D,u,B,C,G,z,O⟩
   |_=>cases u
 |.cond c x y,n,v,a,w,s,k,M,T,K,h,f=>by
  simp only[exec]at f;have way:∀b:Bool,a.eval c=.bool b->(bif b then exec E (av R) (tab Ψ R) (Am Λ Ξ pl R) n x s k else exec E (av R) (tab Ψ R) (Am Λ Ξ pl R) n y s k)=some r->(Code.cond c x y).wp P (Post H U v a w k r) a w:=λb hv h2'=>by
   cases b with
   |true=>exact wp_cond_true hv (iJ Q V hI x n v a w s k (λj I=>by have:=M j I;simp only[b9,aQ]at this;exact this.1) (λp A=>T p (aW.2 (.inl A))) K h h2')
   |false=>exact wp_cond_false hv (iJ Q V hI y n v a w s k (λj I=>by have:=M j I;simp only[b9,aQ]at this;exact this.2) (λp A=>T p (aW.2 (.inr A))) K h h2')
  have E9:=bE h E 4 c;split at f
  .rename_i tx ty he;rw[he]at E9;obtain⟨b,hv,W⟩:=E9;have f:(bif (show Bool from tx)then(bif ty then exec E (av R) (tab Ψ R) (Am Λ Ξ pl R) n x s k else exec E (av R) (tab Ψ R) (Am Λ Ξ pl R) n y s k)else Go.R.both (exec E (av R) (tab Ψ R) (Am Λ Ξ pl R) n x s k) (exec E (av R) (tab Ψ R) (Am Λ Ξ pl R) n y s k))=some r:=f;revert f W;rcases(show ∃c:Bool,c=tx from⟨tx,rfl⟩)with ⟨c',rfl⟩;cases c' with
   |true=>exact λW f=>way b hv (by rw[W rfl];exact f)
   |false=>intro _ f;obtain⟨k1,k2⟩:=z6 f;exact way b hv (by cases b;exact k2;exact k1)
  .obtain⟨(b:Bool),L,h2⟩:=ah f;exact way b (qL L E9) h2
 |.block i c,n,v,a,w,s,k,M,T,K,h,f=>by
  have L:=iJ Q V hI c i v a w s _ M T K h f;refine wp_block (wp_mono L λe a' w' A=>?_);obtain⟨ex,g,D,u,B,C,G,z,O⟩:=A;cases ex with
  |normal=>
   cases e with
   |normal=>exact⟨.normal,g,D,u,B,C,G,z,O⟩
   |_=>cases u
  |exit j=>
   cases e with
   |exit j'=>
    have e:j'=j:=u;subst e;simp only[Exit.inBlock];have Z:(bif Nat.beq j' i then k .normal D else k (.exit j') D)=some r:=G;by_cases X:j'=i
    .rw[cj X];rw[X,eN]at Z;exact⟨.normal,g,D,trivial,B,C,Z,z,O⟩
    .rw[dS X];rw[mc X]at Z;exact⟨.exit j',g,D,rfl,B,C,Z,z,O⟩
   |_=>cases u
  |ret=>
   cases e with
   |ret=>exact⟨.ret,g,D,u,B,C,G,z,O⟩
   |_=>cases u
 |.loop c,n,v,a,w,s,k,M,T,K,h,f=>by
  simp only[exec]at f;split at f
  .rename_i t ht;have F:((Λ n).bind λl=>l.ip.map λt=>t R)=some t:=ht;cases Gf:Λ n with
   |none=>rw[Gf]at F;cases F
   |some l=>
    rw[Gf]at F;have F:(l.ip.map λt=>t R)=some t:=F;cases hl:l.ip with
    |none=>rw[hl]at F;cases F
    |some t'=>rw[hl]at F;obtain rfl:=aG F;exact u0 ((T (n,c) (by simp[bY]) l Gf).1 t' hl H R U v a w s k r K M h f)
  obtain⟨lo,L,m⟩:=ah f;have hl:∃l,Λ n=some l/\lo=l.fH R:=by
   have L:(Λ n).map (·.fH R)=some lo:=L;cases hq:Λ n with
   |none=>rw[hq]at L;cases L
   |some l=>rw[hq]at L;exact⟨l,rfl,(aG L).symm⟩
  obtain⟨l,HZ,rfl⟩:=hl;cases W:((l.fH R).keep.all (λp=>p.2.eG)&&b9 ((l.fH R).keep.map (·.1)) c)with
  |false=>rw[W]at m;cases m
  |true=>
   rw[W]at m;simp only[aJ]at m;rw[aQ]at W;have N:(l.keep.map (·.2)).all Sh.eG=true:=by rw[List.all_map];exact W.1
   have main:∀(FP:aq) (a0:Act) (w0:World) (s0:S),Rel H FP a0 w0 s0->a0.tmps.size=a.tmps.size->cH v w FP w0->(∀j,U j->a0.tmps.getD j undef=a.tmps.getD j undef) ->
     (af (av R) (fC (l.fH R).keep s0) λJ=>af (av R) (fC (l.fH R).gZ J.2) λx=>(l.fH R).run J.1 x.1 λe t y=>k e (om t y (om _ J.1 St.start)))=some r->CW P c (Post H U v a w k r) a0 w0:=by
    intro FP a0 w0 s0 h0 Dw HP Ij m;obtain⟨⟨J,s1⟩,h2,Gg⟩:=ah m;obtain⟨⟨x,s2⟩,h3,EN⟩:=ah Gg;obtain⟨eD,g1,g2,g3⟩:=BO (keep:=l.keep) (gZ:=l.gZ) h0 N h2 h3;have Y:((l.fn J x).bind λq=>jX.elim l.gD q λe t y=>k e (ng l.keep t J y))=some r:=EN;cases hf:l.fn J x with
    |none=>rw[hf]at Y;cases Y
    |some q=>rw[hf]at Y;have FD:jX.elim l.gD q (λe t y=>k e (ng l.keep t J y))=some r:=Y;obtain⟨ex,t,y,hel,hw⟩:=(T (n,c) (by simp[bY]) l HZ).2 H eD a0 w0 J x q (Dw.trans K) g1 g3 N W.2 hf;rw[hel]at FD;refine CR hw λe a' w' A=>?_;obtain⟨u,CX,B,C,G,z⟩:=A;exact⟨_,CX,_,u,B,HP.trans (g2.trans C),FD,G.trans Dw,λj I=>(z j (M j I)).trans (Ij j I)⟩
   have m:(bif pl n&&jI c then exec E (av R) (tab Ψ R) (Am Λ Ξ pl R) n c s (λe s1=>match e with
     |.normal=>(af (av R) (fC (l.fH R).keep s1) λJ=>af (av R) (fC (l.fH R).gZ J.2) λx=>(l.fH R).run J.1 x.1 λe t y=>k e (om t y (om _ J.1 St.start)))
     |e=>k e s1)else(af (av R) (fC (l.fH R).keep s) λJ=>af (av R) (fC (l.fH R).gZ J.2) λx=>(l.fH R).run J.1 x.1 λe t y=>k e (om t y (om _ J.1 St.start))))=some r:=m
   cases A:(pl n&&jI c)with
   |false=>rw[A]at m;exact u0 (main v a w s h rfl (cH.refl _ _) (λ_ _=>rfl) m)
   |true=>
    rw[A]at m;simp only[aJ]at m;rw[aQ]at A;refine u0 (xm ?_);have L:=iJ Q V hI c n v a w s _ M (λp hp'=>by rw[iC n c A.2]at hp';exact nomatch hp') K h m;refine wp_mono L λe a' w' A=>?_;obtain⟨ex,g,D,u,B,C,G,z,O⟩:=A;cases ex with
    |normal=>
     cases e with
     |normal=>exact main g a' w' D B z C O G
     |_=>cases u
    |exit i=>
     cases e with
     |exit j=>exact⟨.exit i,g,D,u,B,C,G,z,O⟩
     |_=>cases u
    |ret=>
     cases e with
     |ret=>exact⟨.ret,g,D,u,B,C,G,z,O⟩
     |_=>cases u
 |.scope _,_,_,_,_,_,_,_,_,_,_,f=>by cases f
 |.rangeFunc ..,_,_,_,_,_,_,_,_,_,_,f=>by cases f
 |.label _,_,_,_,_,_,_,_,_,_,_,f=>by cases f
 |.goto _,_,_,_,_,_,_,_,_,_,_,f=>by cases f
 |.refuse _,_,_,_,_,_,_,_,_,_,_,f=>by cases f
abbrev sL:=List (Ex×bp)
def nr:(a:sL)->Ex->S->Option (jX real a)
 |[],_,_=>none
 |e::c,b,s=>bif Ex.beq e.1 b then(fC e.2 s).map (λq=>.inl q.1)else(nr c b s).map .inr
variable (E Ψ Λ)
noncomputable def p8(n:Nat)(c:Code)(d a:bp)(b:sL)(f:fE real (bp.ks d))(x:fE real (bp.ks a)):Option (fE real (bp.ks a)⊕jX real b):=
 exec E (av _) (tab Ψ _) (Am Λ FN FR _) n c (ng d a f x) λe s=>match e with
  |.normal=>(fC a s).map λq=>.inl q.1
  |e=>(nr b e s).map .inr
variable {E Ψ Λ}
def iter{α a:Type}(body:α->Option (α⊕a)):Nat->α->Option a
 |0,_=>none
 |n+1,x=>match body x with
  |some (.inl y)=>iter body n y
  |some (.inr b)=>some b
  |none=>none
def rO:∀ {a:sL} {b:Ex} {s:S} {q:jX real a},nr a b s=some q->∃t y g,(∀ {M:Type} (k:Ex->(t:bp)->fE real (bp.ks t)->M),jX.elim a q k=k b t y)/\fC t s=some (y,g)
 |[],_,_,_,h=>by cases h
 |e::i,b,s,q,h=>by
  simp only[nr]at h;cases c:Ex.beq e.1 b with
  |true=>
   rw[c]at h;simp only[aJ]at h;cases f:fC e.2 s with
   |none=>rw[f]at h;cases h
   |some z=>rw[f]at h;have h:=aG h;subst h;have m:=Ex.eq_of_beq c;subst m;exact⟨e.2,z.1,z.2,λk=>rfl,f⟩
  |false=>
   rw[c]at h;simp only[cz]at h;cases d:nr i b s with
   |none=>rw[d]at h;cases h
   |some n=>rw[d]at h;have h:=aG h;subst h;obtain⟨t,y,g,j,l⟩:=rO d;exact⟨t,y,g,λk=>j k,l⟩
def B7{p:Nat->Prop}:∀(n:Nat),p n->∃m,p m/\∀k,p k->m<=k:=by
 intro n;induction n using Nat.strongRecOn with
 |_ n f=>
  intro d;by_cases h:∃m,m<n/\p m
  .obtain⟨m,c,e⟩:=h;exact f m c e
  .exact⟨n,d,λk b=>Nat.le_of_not_lt λa=>h ⟨k,a,b⟩⟩
def Dl (hE:bD P E) (hC:eA P E Ψ) {n:Nat} {c:Code} {l:dR} (FE:l.ip=none) (hL:e8 P E Λ (bY n c)) (W:fE real (bp.ks l.keep)->fE real (bp.ks l.gZ)->Nat)
  (hf:∀B x,l.fn B x=iter (p8 E Ψ Λ n c l.keep l.gZ l.gD B) (W B x) x):nB P E c l:=by
 refine⟨λt O=>(by rw[FE]at O;cases O),?_⟩;intro H ω a w B x q hn h hk hl I X;rw[hf]at X;have Y:∀(T:sL) (q:jX real T),∃V t y,∀ {M:Type} (k:Ex->(t:bp)->fE real (bp.ks t)->M),jX.elim T q k=k V t y:=by
  intro T;induction T with
  |nil=>intro q;exact Empty.elim q
  |cons e T ih=>
   intro q;cases q with
   |inl y=>exact⟨e.1,e.2,y,λk=>rfl⟩
   |inr q=>obtain⟨V,t,y,h⟩:=ih q;exact⟨V,t,y,λk=>h k⟩
 obtain⟨F,t0,y0,D⟩:=Y l.gD q;refine⟨F,t0,y0,D,?_⟩;let d (m:Nat) (b:Act) (f:World):Prop:=∃x' L,Rel H L b f (ng l.keep l.gZ B x')/\cH ω w L f/\kz f L b l.keep B/\b.tmps.size=a.tmps.size/\(∀j,b9 [j] c=true->b.tmps.getD j undef=a.tmps.getD j undef) /\
  iter (p8 E Ψ Λ n c l.keep l.gZ l.gD B) m x'=some q
 have g:∀b f,(∃m,d m b f)->∃m,d m b f/\∀k,d k b f->m<=k:=λb f ⟨m,hm⟩=>B7 m hm;have A:∃R:Act->World->Nat,∀b f,(∃m,d m b f)->d (R b f) b f/\∀k,d k b f->R b f<=k:=by
  classical
  exact⟨λb f=>if h:∃m,d m b f then Classical.choose (g b f h)else 0,λb f h=>by show d (if h:∃m,d m b f then Classical.choose (g b f h)else 0) b f/\∀k,d k b f->(if h:∃m,d m b f then Classical.choose (g b f h)else 0)<=k;rw[kg h];exact Classical.choose_spec (g b f h)⟩
 obtain⟨R,A⟩:=A;refine CQ (λb f=>∃m,d m b f) R ⟨_,x,ω,h,cH.refl _ _,hk,rfl,λ_ _=>rfl,X⟩ (λa1 w1 hI=>?_);obtain⟨G,_⟩:=A a1 w1 hI;obtain⟨x1,eD,h1,e1,k1,K,Z,o⟩:=G;cases hm:R a1 w1 with
 |zero=>rw[hm]at o;cases o
 |succ m=>
  rw[hm]at o;simp only[iter]at o;cases hb:p8 E Ψ Λ n c l.keep l.gZ l.gD B x1 with
  |none=>rw[hb]at o;cases o
  |some C=>
   rw[hb]at o;have hwp:=iJ hE hC rX (U:=λj=>b9 [j] c=true) c n eD a1 w1 _ _ (λj J=>J) hL (K.trans hn) h1 hb;refine wp_mono hwp λe S w2 v=>?_;obtain⟨V,CX,Q,t1,t2,t3,t4,t5,t6⟩:=v;have u:∀p∈l.keep,S.tmps.getD p.1 undef=a1.tmps.getD p.1 undef:=λp v=>t6 p.1 (ep (fa.2 ⟨p,v,rfl⟩) c I);have out:∀r,(nr l.gD r Q).map Sum.inr=some C->FV e r->vB H c l.keep ω a w B F t0 y0 e S w2:=by
    intro r v hm';cases hq:nr l.gD r Q with
    |none=>rw[hq]at v;cases v
    |some q'=>
     rw[hq]at v;have v:=aG v;subst v;have Iy:q'=q:=aG o;subst Iy;obtain⟨t,y,s3,z1,z2⟩:=rO hq;have z:(⟨F,t0,y0⟩:(_:Ex)×(t:bp)×fE real (bp.ks t))=⟨r,t,y⟩:=by rw[<-D (λe t y=>(⟨e,t,y⟩:(_:Ex)×(t:bp)×fE real (bp.ks t))),z1]
     injection z with d1 d2
     subst d1;injection d2 with d2 d3
     subst d2;have d3:=eq_of_heq d3;subst d3;obtain⟨N,g1,g2,g3⟩:=wJ t2 hl k1 t3 u z2;exact⟨hm',N,g1,e1.trans (t3.trans g2),t5.trans K,λj J=>(t6 j J).trans (Z j J)⟩
   cases V with
   |normal=>
    cases e with
    |normal=>
     have i:(fC l.gZ Q).map (λq=>Sum.inl q.1)=some C:=t4;cases O:fC l.gZ Q with
     |none=>rw[O]at i;cases i
     |some q=>
      obtain⟨x2,s3⟩:=q;rw[O]at i;have i:=aG i;subst i;obtain⟨N,g1,g2,g3⟩:=wJ t2 hl k1 t3 u O;have s:d m S w2:=⟨x2,N,g1,e1.trans (t3.trans g2),g3,t5.trans K,λj J=>(t6 j J).trans (Z j J),o⟩
      refine⟨⟨m,s⟩,?_⟩;have Ix:R S w2<=m:=(A S w2 ⟨m,s⟩).2 m s;omega
    |_=>cases t1
   |exit j=>
    cases e with
    |exit j'=>have i:(nr l.gD (.exit j) Q).map Sum.inr=some C:=t4;exact out (.exit j) i t1
    |_=>cases t1
   |ret=>
    cases e with
    |ret=>have i:(nr l.gD .ret Q).map Sum.inr=some C:=t4;exact out .ret i t1
    |_=>cases t1
end
end Go.R

