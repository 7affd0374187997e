import Derived.Test.YtdbcclejeoljoaaGreatDoorRC
import Derived.Conc.MuLone
import Derived.Laws.StructEq
/- An abstract interpreter over the code of Go functions, proved sound once: what it answers, the code computes. Conditions: none. -/
set_option linter.all false
set_option maxRecDepth 4000
namespace Go.R
variable {H:Nat->Value}
def CS{P:Program}{o:Oper}{a:Act}{w:World}{K:Act->World->Prop}{Q Q':Exit->Act->World->Prop}(b:∀e,e≠.normal->Q e=Q' e)(h:o.wp P a w K Q):o.wp P a w K Q':=by
 have d:∀c,Q (.panic c)=Q' (.panic c):=λc=>b _ (λe=>by cases e);have f:LetsOut Q=LetsOut Q':=by unfold LetsOut;rw[b .outgrown (λe=>by cases e)]
 unfold Oper.wp Oper.upon at *;simp only[d,f]at h;exact h
def mG{P:List Nat}{m:Nat}:∀ {l:List Oper} {k:Nat},ox P m k l=true->∀(j:Nat) (o:Oper),l[j]? = some o ->
  (∀e∈o.after.toList,Region.binds .any e=true->e.on<k+j)/\(m<=k+j->o.guard=none/\∀i,i<k+j->cN P (k+j) i=true)/\(k+j<m->∀i b,o.guard=some (i,b)->i<m)
 |[],_,_,j,o,h=>by simp at h
 |o::r,k,h,0,f,c=>by
  simp at c;subst c;simp only[ox,aQ]at h;obtain⟨s,a,_⟩:=h;refine⟨λe n g=>?_,λd=>?_,λd i b p=>?_⟩
  .have:=ed.1 s e n;rw[g]at this;exact dS (by simpa using this)
  .have:Nat.ble m k=true:=uu (by simpa using d);rw[this]at a;simp only[az,aQ]at a;exact⟨by simpa using a.1,λi q=>ed.1 a.2 i (List.mem_range.2 (by simpa using q))⟩
  .have:Nat.ble m k=false:=by
    rw[vh];intro e;have:=dS e;omega
   rw[this,p]at a;exact dS a
 |o::r,k,h,j+1,f,c=>by simp only[ox,aQ]at h;have:=mG h.2.2 j f (by simpa using c);rwa[show k+1+j=k+(j+1)by omega]at this
section
variable {ops:Array Oper}
def D0(k:∀(i:Nat) (o:Oper),ops.toList[i]? = some o->∀e∈o.after.toList,Region.binds .any e=true->e.on<i):∀(i j:Nat) (o:Oper),ops.toList[i]? = some o->cN (PP ops) i j=true->j<i:=by
 intro i;induction i using Nat.strongRecOn with
 |ind i m=>
  intro j o c h;obtain⟨e,f,g,b⟩:=iF c h;have a:=k i o c e f g;rcases b with b|b
  .omega
  .have l:i<ops.toList.length:=by
    rcases iA i ops.toList.length with d|d
    .exact d
    .rw[oq d]at c;cases c
   have:=m e.on a j _ (bR (ou a l)) b;omega
def Ft(a:Array Oper)(D:Array Bool):Prop:=∀(i:Nat) (o:Oper),a.toList[i]? = some o->Up D i->∀e∈o.after.toList,Region.binds .any e=true->Up D e.on
def Dd(n:∀(i:Nat) (o:Oper),ops.toList[i]? = some o->∀e∈o.after.toList,Region.binds .any e=true->e.on<i){D:Array Bool}(m:Ft ops D):∀(i j:Nat) (o:Oper),ops.toList[i]? = some o->(∀e∈o.after.toList,Region.binds .any e=true->Up D e.on)->cN (PP ops) i j=true->Up D j:=by
 intro i;induction i using Nat.strongRecOn with
 |ind i q=>
  intro j o d l h;obtain⟨e,f,g,a⟩:=iF d h;have c:=n i o d e f g;rcases a with a|a
  .rw[<-a];exact l e f g
  .have p:i<ops.toList.length:=by
    rcases iA i ops.toList.length with k|k
    .exact k
    .rw[oq k]at d;cases d
   have b:=bR (ou c p);exact q e.on c j _ b (m e.on _ b (l e f g)) a
def De{D:Array Bool}(f:Ft ops D){i:Nat}{o:Oper}(g:i<D.size)(h:ops.toList[i]? = some o)(k:∀e∈o.after.toList,Region.binds .any e=true->Up D e.on):Ft ops (D.setIfInBounds i true):=by
 intro j l a b e d c;rw[mw g]at b⊢;rcases b with rfl|b
 .rw[h]at a;injection a with a
  subst a;exact .inr (k e d c)
 .exact .inr (f j l a b e d c)
def Dm(n m:Nat):Array Bool:=(List.replicate m true++List.replicate (n-m) false).toArray
def wx{n m i:Nat}(h:m<=n):Up (Dm n m) i↔i<m:=by
 rw[dP];unfold Dm;simp only[List.getElem?_append,zd,vN];by_cases a:i<m
 .simp[a]
 .by_cases b:i-m<n-m <;> simp[a,b]
def D8{n m:Nat}(h:m<n):(Dm n m).setIfInBounds m true=Dm n (m+1):=by unfold Dm;apply vg;simp only[sA];rw[xS _ _ (by simp)];simp only[zd,pg];rw[show n-m=(n-(m+1))+1 by omega,List.replicate_succ,List.set_cons_zero,List.replicate_succ' (n:=m)];simp
def uC{n m:Nat}(h:m<=n):(Dm n m).size=n:=by unfold Dm;simp;omega
end
section
variable {R:Type}{P:Program}{E:Env}{Ψ:bA->Option hJ}{Ξ:vq}{ops:Array Oper}
def wm(hE:bD P E)(hC:eA P E Ψ)(hI:jm P E Ξ){U:Nat->Prop}(hU:∀o∈ops.toList,∀j,U j->o.dst≠some j){m:Nat}(hb:ox (PP ops) m 0 ops.toList=true){k:S->Option R}{r:R}{Qn:Exit->Act->World->Prop}:
  ∀(l:List Oper) (i:Nat) (O:aq) (a:Act) (w:World) (s:S),m<=i->i<=ops.toList.length->l=ops.toList.drop i->a.tmps.size=E.nt->Rel H O a w s->lq E (av R) (tab Ψ R) (mi Ξ R) ops l s k=some r ->
   (∀x C N T,Rel H x C N T->cH O w x N->k T=some r->C.tmps.size=a.tmps.size->(∀j,U j->C.tmps.getD j undef=a.tmps.getD j undef)->Qn .normal C N)->wpAny P .any ops Qn l.length (Dm ops.size i) a w
 |[],i,O,a,w,s,Gk,F,J,hn,h,z,V=>by
  have q:ops.toList.length=i:=by have:=gi List.length J;rw[kg]at this;simp at this F;simp;omega
  refine⟨?_,V O a w s h (cH.refl _ _) z rfl λ_ _=>rfl⟩;rw[List.eq_nil_iff_forall_not_mem];intro j A;obtain⟨g,o,Q,_⟩:=mem_ready.1 A;have v:j<ops.size:=(vL.1 Q).1;have:Up (Dm ops.size i) j:=(wx (by rw[<-q];simp)).2 (by rw[<-q];simpa using v);unfold Up at this;rw[fL]at g this;have L:j<(Dm ops.size i).size:=by rw[uC (by rw[<-q];simp)];exact v
  rw[mY L]at g this;simp at g this;rw[this]at g;cases g
 |o::l,i,O,a,w,s,Gk,F,J,hn,h,z,V=>by
  have t:i<ops.toList.length:=by
   rcases iA i ops.toList.length with hh|hh
   .exact hh
   .rw[Bq hh]at J;cases J
  have p:=xD t;rw[<-J]at p;injection p with e1 e2
  have K:ops.toList[i]? = some o:=by rw[bR t,e1]
  have b:i<ops.size:=by simpa using t
  have f:=λ(j:Nat) (M:Oper) (A:ops.toList[j]? = some M)=>mG hb j M A;have n:∀(i:Nat) (o:Oper),ops.toList[i]? = some o->∀e∈o.after.toList,Region.binds .any e=true->e.on<i:=λi o hi=>by have:=(f i o hi).1;rwa[bC]at this
  have hg:=((f i o K).2.1 (by omega)).1;have only:∀j∈Region.ready .any ops (Dm ops.size i),j=i:=by
   intro j A;obtain⟨g,M,Q,h3⟩:=mem_ready.1 A;have v:j<ops.size:=(vL.1 Q).1;have L:j<(Dm ops.size i).size:=by rw[uC (fc b)];exact v
   have c:¬Up (Dm ops.size i) j:=by unfold Up;rw[fL]at g⊢;rw[mY L]at g⊢;simp at g⊢;exact g
   rw[wx (fc b)]at c;rcases iA i j with hij|hij
   .exfalso;have I:ops.toList[j]? = some M:=by rw[cZ];exact Q
    have y:=((f j M I).2.1 (by omega)).2 i (by omega);rw[bC]at y;obtain⟨e,q1,q2,D⟩:=iF I y;have B:=h3 e (by simpa using q1) q2;have B:e.on<i:=(wx (fc b)).1 B;rcases D with D|D
    .omega
    .have Z:=bR (ou B t);have:=D0 n e.on i _ Z D;omega
   .omega
  refine⟨λhr=>?_,λj A=>?_⟩
  .exfalso;have:i∈Region.ready .any ops (Dm ops.size i):=by
    refine mem_ready.2 ⟨?_,o,by rw[<-cZ];exact K,λe Y X=>(wx (fc b)).2 (n i o K e (by simpa using Y) X)⟩;have L:i<(Dm ops.size i).size:=by rw[uC (fc b)];exact b
    have c:¬Up (Dm ops.size i) i:=by rw[wx (fc b)];omega
    unfold Up at c;rw[fL]at c⊢;rw[mY L]at c⊢;simp at c⊢;exact c
   rw[hr]at this;cases this
  .obtain rfl:=only j A;simp only[lq]at z;cases u:qd E o.dst with
   |false=>rw[u]at z;cases z
   |true=>
   rw[u,hg]at z;simp only[az]at z;have hd:∀d,o.dst=some d->d<a.tmps.size:=by intro d e;rw[e]at u;have g:d+1<=E.nt:=dS u;rw[hn];exact g
   have W:=hU o (vP K);unfold wpOp;rw[<-cZ,K];simp only[];rw[cz (by simp[Region.wanted,hg])];refine .inl (Oper.wp_mono (λC N Y=>?_) (ua hE hC hI h hd z));obtain⟨x,T,g1,g2,g3,g4,g5⟩:=Y;rw[D8 b];exact wm hE hC hI hU hb l (j+1) x C N T (by omega) t e2 (g4.trans hn) g1 g3 λCX a2 w2 s2 q1 q2 D q4 q5=>V CX a2 w2 s2 q1 (g2.trans q2) D (q4.trans g4) λj' G=>(q5 j' G).trans (g5 j' (W j' G))
def upTo(n:Nat)(D:Array Bool):Array Bool:=(D.toList++List.replicate n false).toArray
def n9{n:Nat}{D:Array Bool}{i:Nat}:Up (upTo n D) i↔Up D i:=by
 rw[dP,dP];unfold upTo;simp only[List.getElem?_append,vN];by_cases b:i<D.toList.length
 .rw[cz b]
 .rw[bc b,oq (by omega)];by_cases a:i-D.toList.length<n
  .rw[cz a];simp
  .rw[bc a]
def xj{n:Nat}{D:Array Bool}{i:Nat}(h:i<D.size):(upTo n D).setIfInBounds i true=upTo n (D.setIfInBounds i true):=by unfold upTo;apply vg;simp only[sA];rw[List.set_append_left _ _ (by simpa using h)]
def oR{D:Array Bool}{i:Nat}(h:i<D.size):¬Up D i↔D.getD i true=false:=by unfold Up;rw[fL,fL,mY h];simp
def BC{m:Nat}(Z:m<=ops.toList.length)(X:ox (PP ops) m 0 ops.toList=true){Q Qn:Exit->Act->World->Prop}(U:∀e,e≠.normal->Q e=Qn e){n:Nat}(hn:n=ops.size-m)(Y:∀a w,Q .normal a w->wpAny P .any ops Qn n (Dm ops.size m) a w):
  ∀(c:Nat) (D:Array Bool) (a:Act) (w:World),D.size=m->D.toList.countP (λb=>!b)=c->Ft ops (upTo n D)->wpAny P .any (ops.toList.take m).toArray Q c D a w->wpAny P .any ops Qn (c+n) (upTo n D) a w
 |c,D,a,w,H,I,z,h=>by
  have I1:m<=ops.size:=by simpa using Z
  have k:=λ(j:Nat) (o':Oper) (N:ops.toList[j]? = some o')=>mG X j o' N;have q:∀(i:Nat) (o:Oper),ops.toList[i]? = some o->∀e∈o.after.toList,Region.binds .any e=true->e.on<i:=λi o g=>by have:=(k i o g).1;rwa[bC]at this
  have l:∀i,i<m->((ops.toList.take m).toArray)[i]? = ops[i]?:=λi g=>by rw[<-cZ,<-cZ];simp[g]
  have V:(upTo n D).size=ops.size:=by unfold upTo;simp;omega
  have back:∀i∈Region.ready .any (ops.toList.take m).toArray D,i<m/\i∈Region.ready .any ops (upTo n D):=by
   intro i g;obtain⟨F,o,x,G⟩:=mem_ready.1 g;have u:i<m:=by have:=(vL.1 x).1;simp at this;omega
   refine⟨u,mem_ready.2 ⟨?_,o,by rw[<-l i u];exact x,λe s d=>n9.2 (G e s d)⟩⟩;rw[<-oR (by rw[V];omega),n9,oR (by omega)];exact F
  have least:(∃i,i<m /\ ¬Up D i)->∃i,i∈Region.ready .any (ops.toList.take m).toArray D:=by
   intro ⟨i,g,M⟩;induction i using Nat.strongRecOn with
   |ind i ih=>
    by_cases J:∃j,j<i /\ ¬Up D j
    .obtain⟨j,N,B⟩:=J;exact ih j N (by omega) B
    .have A:i<ops.toList.length:=by omega
     refine⟨i,mem_ready.2 ⟨(oR (by omega)).1 M,ops.toList[i],by rw[l i g,<-cZ];exact bR A,λe s d=>?_⟩⟩;have T:=q i _ (bR A) e (by simpa using s) d;apply pW;intro C;exact J ⟨e.on,T,C⟩
  cases c with
  |zero=>
   have p:∀i,i<m->Up D i:=λi g=>dP.2 (qQ I i (by simpa[H] using g));have e:upTo n D=Dm ops.size m:=by
    unfold upTo Dm;rw[<-hn];congr 2;apply List.ext_getElem
    .simp[H]
    .intro i F x;have:=dP.1 (p i (by simpa[H] using F));rw[bR F]at this;rw[aG this,List.getElem_replicate]
   rw[e,bC];exact Y a w h.2
  |succ c=>
   have r:∃i,i<m /\ ¬Up D i:=by
    apply pW;intro C;have p:∀b∈D.toList,b=true:=by intro b d;obtain⟨i,g,rfl⟩:=uv d;have M:Up D i:=pW λM=>C ⟨i,by simpa[H] using g,M⟩;have:=dP.1 M;rw[bR g]at this;exact aG this
    have:D.toList.countP (λb=>!b)=0:=by rw[List.countP_eq_zero];intro b d;rw[p b d];simp
    omega
   rw[Nat.succ_add];refine⟨λL=>?_,λi g=>?_⟩
   .obtain⟨i,g⟩:=least r;have:=(back i g).2;rw[L]at this;cases this
   .obtain⟨F,o,x,G⟩:=mem_ready.1 g;have v:ops.toList[i]? = some o:=by rw[cZ];exact x
    have A:i<ops.size:=(vL.1 x).1;have u:i<m:=by apply pW;intro hge;obtain⟨j,N,B⟩:=r;have y:=((k i o v).2.1 (by omega)).2 j (by omega);rw[bC]at y;exact B (n9.1 (Dd q z i j o v (λe s d=>G e (by simpa using s) d) y))
    have K:((ops.toList.take m).toArray)[i]? = some o:=(l i u).trans x;have L:i∈Region.ready .any (ops.toList.take m).toArray D:=by refine mem_ready.2 ⟨?_,o,K,λe s d=>n9.1 (G e s d)⟩;rw[<-oR (by omega),<-n9 (n:=n),oR (by omega)];exact F
    have Hi:¬Up D i:=(oR (by omega)).2 (mem_ready.1 L).1;have t:D.toList[i]? = some false:=by have:=(mem_ready.1 L).1;rw[fL,mY (by omega)]at this;rw[cZ,mY (by omega)];simpa using this
    have next:∀a w,wpAny P .any (ops.toList.take m).toArray Q c (D.setIfInBounds i true) a w->wpAny P .any ops Qn (c+n) ((upTo n D).setIfInBounds i true) a w:=λa w W=>by
     rw[xj (by omega)];refine BC Z X U hn Y c (D.setIfInBounds i true) a w (by simpa using H) ?_ ?_ W
     .rw[sA];have:=count_set _ i t;omega
     .rw[<-xj (by omega)];exact De z (by omega) v (λe s d=>G e (by simpa using s) d)
    have f:=h.2 i L;unfold wpOp at f⊢;rw[K]at f;rw[x];simp only[]at f⊢;have W:Region.wanted o (yielded ops a.tmps)=Region.wanted o (yielded (ops.toList.take m).toArray a.tmps):=by
     cases O:o.guard with
     |none=>simp[Region.wanted,O]
     |some jb=>
      obtain⟨j,b⟩:=jb;have R:=(k i o v).2.2 (by omega) j b O;have hy:yielded ops a.tmps j=yielded (ops.toList.take m).toArray a.tmps j:=by unfold yielded;rw[l j R]
      simp[Region.wanted,O,hy]
    rw[W];split
    .rename_i E;rw[cz E]at f;rcases f with f|⟨f,S⟩
     .exact .inl (Oper.wp_mono next (CS U f))
     .refine .inr ⟨f,?_⟩;have:LetsOut Q=LetsOut Qn:=by unfold LetsOut;rw[U .outgrown (λe=>by cases e)]
      rw[<-this];exact S
    .rename_i E;rw[bc E]at f;exact next _ _ f
def yE (t:P.follows .mixedOrders=true) (z:bD P E) (y:eA P E Ψ) (M:jm P E Ξ) {U:Nat->Prop} {id m:Nat} {l:aq} {a:Act} {w:World} {s:S} {k:S->Option R} {r:R} {Qn:Exit->Act->World->Prop} (A:∀o∈ops.toList,∀j,U j->o.dst≠some j) (F:a.tmps.size=E.nt) (h:Rel H l a w s)
  (f:uR E (av R) (tab Ψ R) (mi Ξ R) ops m s k=some r)
  (N:∀g b w' J,Rel H g b w' J->cH l w g w'->k J=some r->b.tmps.size=a.tmps.size->(∀j,U j->b.tmps.getD j undef=a.tmps.getD j undef)->Qn .normal b w'):(Code.region id ops true).wp P Qn a w:=by
 unfold uR at f;cases d:(Nat.ble m ops.toList.length&&ox (gm ops.toList []) m 0 ops.toList)with
 |false=>rw[d]at f;cases f
 |true=>
  rw[d]at f;simp only[az]at f;rw[aQ]at d;have q:=dS d.1;have T:m<=ops.size:=by simpa using q
  have B:cH l w l { w with drawn:=w.drawn+1 }:=⟨rfl,rfl,⟨rfl,ot _⟩,aJ _,λ_ _ _=>⟨rfl,rfl⟩⟩
  refine wp_region_any t ?_;have n:(ops.toList.take m).toArray.size=m:=by simp;omega
  have G:upTo (ops.size-m) (Array.replicate m false)=Array.replicate ops.size false:=by unfold upTo;apply vg;simp only[Array.toList_replicate,List.replicate_append_replicate];rw[show m+(ops.size-m)=ops.size by omega]
  rw[<-G];have p:ops.size=m+(ops.size-m):=by omega
  conv=>congr;rfl;rfl;rfl;rfl;rw[p]
  refine BC q d.2 (Q:=λe b w'=>match e with |.normal=>wpAny P .any ops Qn (ops.size-m) (Dm ops.size m) b w'|e=>Qn e b w') (λe u=>?_) rfl (λ_ _ h=>h) m _ a _ (by simp) (by simp[List.countP_replicate]) ?_ ?_
  .cases e <;> first|exact absurd rfl u|rfl
  .intro i o _ C;rw[G,dP]at C;simp[vN]at C
  .have c:=pJ (w:={ w with drawn:=w.drawn+1 }) (ops:=(ops.toList.take m).toArray) (Qn:=λe b w'=>match e with |.normal=>wpAny P .any ops Qn (ops.size-m) (Dm ops.size m) b w'|e=>Qn e b w') z y (U:=U) (λo V=>A o (List.mem_of_mem_take (by simpa using V))) F (h.drawn (w':={ w with drawn:=w.drawn+1 }) rfl B) f (λv K w1 s1 q1 q2 q3 I q5=>by
    have O:(ops.toList.drop m).length=ops.size-m:=by simp
    have:=wm z y M A d.2 (ops.toList.drop m) m v K w1 s1 (aJ _) q rfl (I.trans F) q1 q3 (Qn:=Qn) λx L w2 s2 W X Y Z p5=>N x L w2 s2 W (B.trans (q2.trans X)) Y (Z.trans I) λj D=>(p5 j D).trans (q5 j D);rw[O]at this;exact this)
   rw[n]at c;exact c
end
def Ex.beq:Ex->Ex->Bool
 |.normal,.normal=>true
 |.exit i,.exit j=>Nat.beq i j
 |.ret,.ret=>true
 |_,_=>false
def Ex.eq_of_beq:∀ {a b:Ex},Ex.beq a b=true->a=b
 |.normal,.normal,_=>rfl
 |.exit i,.exit j,h=>by rw[bn h]
 |.ret,.ret,_=>rfl
 |.normal,.exit _,h=>by cases h
 |.normal,.ret,h=>by cases h
 |.exit _,.normal,h=>by cases h
 |.exit _,.ret,h=>by cases h
 |.ret,.normal,h=>by cases h
 |.ret,.exit _,h=>by cases h
def ep{g:List Nat}{d:Nat}(hd:d∈g):∀(c:Code),b9 g c=true->b9 [d] c=true
 |.skip,_=>rfl
 |.exit _,_=>rfl
 |.ret,_=>rfl
 |.region _ k _,h=>by
  simp only[b9,ed]at h⊢;intro o j;have:=h o j;cases f:o.dst with
  |none=>rfl
  |some e=>rw[f]at this;simp only[sC,List.any_eq_false]at this⊢;intro x i;rw[eK]at i;subst i;exact this x hd
 |.seq a b,h=>by simp only[b9,aQ]at h⊢;exact⟨ep hd a h.1,ep hd b h.2⟩
 |.cond _ a b,h=>by simp only[b9,aQ]at h⊢;exact⟨ep hd a h.1,ep hd b h.2⟩
 |.block _ b,h=>ep hd b h
 |.loop b,h=>ep hd b h
 |.scope _,h=>by cases h
 |.rangeFunc ..,h=>by cases h
 |.label _,h=>by cases h
 |.goto _,h=>by cases h
 |.refuse _,h=>by cases h
def CW(P:Program)(c:Code)(Q:Exit->Act->World->Prop)(a:Act)(w:World):Prop:=∀(b:Frame) (k:List Item) (f:List Frame),∃e d g,Q e d g/\Arrives P (lone (b.at a (.code c::.inLoop c::k)) f w) b k f e d g
section
variable {P:Program}{Q:Exit->Act->World->Prop}{a:Act}{w:World}{c:Code}
def u0(h:CW P c Q a w):(Code.loop c).wp P Q a w:=λb k f=>let ⟨e,d,g,q,r⟩:=h b k f;⟨e,d,g,q,.of_steps (.one step_loop) r⟩
def xm(h:c.wp P (Exit.then (λr s=>CW P c Q r s) Q) a w):CW P c Q a w:=by
 intro b k q;obtain⟨e,f,g,m,d⟩:=h b (.inLoop c::k) q;cases e with
 |normal=>obtain⟨o,n,p,j,i⟩:=m b k q;exact⟨o,n,p,j,.of_steps (Steps.trans d (.one step_inLoop)) i⟩
 |exit id=>exact⟨_,f,g,m,.pass (x:=.inLoop c) rfl (λ_ _=>.inl (by simp)) d⟩
 |goto l=>exact⟨_,f,g,m,.pass (x:=.inLoop c) rfl (λ_ _=>.inl (by simp)) d⟩
 |ret=>exact⟨_,f,g,m,.pass (x:=.inLoop c) rfl (λ_ _=>.inl (by simp)) d⟩
 |panic t=>exact⟨_,f,g,m,.pass (x:=.inLoop c) rfl (λ_ _=>.inl (by simp)) d⟩
 |outgrown=>exact⟨_,f,g,m,.pass (x:=.inLoop c) rfl (λ_ _=>.inl (by simp)) d⟩
def CR{d:Exit->Act->World->Prop}(h:CW P c Q a w)(i:∀e a w,Q e a w->d e a w):CW P c d a w:=λb k g=>let ⟨e,f,j,q,r⟩:=h b k g;⟨e,f,j,i _ _ _ q,r⟩
def CQ (I:Act->World->Prop) (g:Act->World->Nat) (d:I a w)
  (round:∀a w,I a w->c.wp P (Exit.then (λb f=>I b f/\g b f<g a w) Q) a w):CW P c Q a w:=by
 have i:∀n a w,g a w=n->I a w->CW P c Q a w:=by
  intro n;induction n using Nat.strongRecOn with
  |_ n l=>
   intro a w k j;refine xm (wp_mono (round a w j) λe b f h=>?_);cases e with
   |normal=>exact l (g b f) (k▸h.2) b f rfl h.1
   |_=>exact h
 exact i _ a w rfl d
end
section
variable {R:Type}(P:Program)(E:Env)(Ψ:bA->Option hJ)(Λ:Nat->Option dR)
def vB(H:Nat->Value)(c:Code)(b:bp)(k:aq)(a:Act)(w:World)(i:fE real (bp.ks b))(h:Ex)(t:bp)(y:fE real (bp.ks t)):Exit->Act->World->Prop:=λe f g=>FV e h/\∃d,Rel H d f g (ng b t i y)/\cH k w d g/\f.tmps.size=a.tmps.size/\∀j,b9 [j] c=true->f.tmps.getD j undef=a.tmps.getD j undef
def FW(c:Code)(t:(R:Type)->S->(Ex->S->Option R)->Option R):Prop:=∀(H:Nat->Value) (R:Type) (U:Nat->Prop) (b:aq) (a:Act) (w:World) (s:S) (k:Ex->S->Option R) (r:R),
 a.tmps.size=E.nt->(∀j,U j->b9 [j] (.loop c)=true)->Rel H b a w s->t R s k=some r->CW P c (Post H U b a w k r) a w
def nB(c:Code)(l:dR):Prop:=
 (∀t,l.ip=some t->FW P E c t)/\∀(H:Nat->Value) (d:aq) (a:Act) (w:World) (b:fE real (bp.ks l.keep)) (x:fE real (bp.ks l.gZ)) (q:jX real l.gD),a.tmps.size=E.nt->Rel H d a w (ng l.keep l.gZ b x)->kz w d a l.keep b ->
  (l.keep.map (·.2)).all Sh.eG=true->b9 (l.keep.map (·.1)) c=true->l.fn b x=some q->∃e t y,(∀ {M:Type} (k:Ex->(t:bp)->fE real (bp.ks t)->M),jX.elim l.gD q k=k e t y)/\CW P c (vB H c l.keep d a w b e t y) a w
def bY:Nat->Code->List (Nat×Code)
 |n,.loop c=>[(n,c)]
 |n,.seq a b=>bY n a++bY n b
 |n,.cond _ a b=>bY n a++bY n b
 |_,.block i b=>bY i b
 |_,_=>[]
def Df{b:aq}{a:Act}{w:World}{s:S}(h:Rel H b a w s)(t:Nat):∃c,Rel H c a w (Eb s t)/\cH b w c w:=by
 unfold Eb;split
 .rename_i id g k _;cases j:Nat.beq (s.ob id).g g with
  |false=>exact⟨b,h,cH.refl _ _⟩
  |true=>
   simp only[az];split
   .rename_i e f i x d;exact⟨_,h.freeze d true,bj _ _ _ (h.pR (by rw[d];exact λe=>nomatch e))⟩
   .exact⟨b,h,cH.refl _ _⟩
 .exact⟨b,h,cH.refl _ _⟩
def Ec{d:aq}{a:Act}{w:World}{s:S}(h:Rel H d a w s)(b:Array Oper):∃c,Rel H c a w (F6 b s)/\cH d w c w:=by
 unfold F6;generalize qw (w5 b.toList)=l;induction l generalizing d s with
 |nil=>exact⟨d,h,cH.refl _ _⟩
 |cons t l k=>obtain⟨m,i,f⟩:=Df h t;obtain⟨e,j,g⟩:=k i;exact⟨e,j,f.trans g⟩
def iC:∀(n:Nat) (c:Code),jI c=true->bY n c=[]
 |n,.seq x y,h=>by simp only[jI,aQ]at h;simp only[bY,iC n x h.1,iC n y h.2,fa]
 |n,.cond q x y,h=>by simp only[jI,aQ]at h;simp only[bY,iC n x h.1,iC n y h.2,fa]
 |n,.block i x,h=>iC i x h
 |n,.loop _,h=>nomatch h
 |n,.skip,_|n,.region ..,_|n,.exit _,_|n,.ret,_|n,.scope _,_|n,.rangeFunc ..,_|n,.label _,_|n,.goto _,_|n,.refuse _,_=>rfl
def e8(l:List (Nat×Code)):Prop:=∀p∈l,∀q,Λ p.1=some q->nB P E p.2 q
variable {P E Ψ Λ}{Ξ:vq}{pl:Nat->Bool}
def iJ(Q:bD P E)(V:eA P E Ψ)(hI:jm P E Ξ){U:Nat->Prop}{r:R}:∀(c:Code) (n:Nat) (v:aq) (a:Act) (w:World) (s:S) (k:Ex->S->Option R),(∀j,U j->b9 [j] c=true)->e8 P E Λ (bY n c)->a.tmps.size=E.nt->Rel H v a w s ->
  exec E (av R) (tab Ψ R) (Am Λ Ξ pl R) n c s k=some r->c.wp P (Post H U v a w k r) a w
 |.skip,n,v,a,w,s,k,_,_,_,h,f=>wp_skip ⟨.normal,v,s,trivial,h,cH.refl _ _,f,rfl,λ_ _=>rfl⟩
 |.exit i,n,v,a,w,s,k,_,_,_,h,f=>wp_exit ⟨.exit i,v,s,rfl,h,cH.refl _ _,f,rfl,λ_ _=>rfl⟩
 |.ret,n,v,a,w,s,k,_,_,_,h,f=>wp_ret ⟨.ret,v,s,trivial,h,cH.refl _ _,f,rfl,λ_ _=>rfl⟩
 |.region id ops d,n,v,a,w,s,k,M,_,K,h,f=>by
  cases d with
  |true=>
   have G3:∀o∈ops.toList,∀j,U j->o.dst≠some j:=λo ho j I e=>by have:=M j I;simp only[b9,ed]at this;have:=this o ho;rw[e]at this;simp at this
   simp only[exec,az]at f;split at f
   .exact yE Q.mo Q V hI (U:=U) (k:=k .normal) G3 K h f λg a' w' D u B C G z=>⟨.normal,g,D,trivial,u,B,C,G,z⟩
   obtain⟨FP,h0,e0⟩:=Ec h ops;exact yF Q.mo Q V (U:=U) (k:=k .normal) G3 K h0 f (λg a' w' D u B C G z=>⟨.normal,g,D,trivial,u,e0.trans B,C,G,z⟩)
  |false=>refine wp_region_list (uQ Q V hI (U:=U) ops.toList v a w s (k .normal) _ (λo ho j I e=>?_) K h f (λg a' w' D u B C G z=>⟨.normal,g,D,trivial,u,B,C,G,z⟩));have:=M j I;simp only[b9,ed]at this;have:=this o ho;rw[e]at this;simp at this
 |.seq x y,n,v,a,w,s,k,M,T,K,h,f=>by
  have HH:∀j,U j->b9 [j] x=true:=λj I=>by have:=M j I;simp only[b9,aQ]at this;exact this.1
  have HI:∀j,U j->b9 [j] y=true:=λj I=>by have:=M j I;simp only[b9,aQ]at this;exact this.2
  have L:=iJ Q V hI x n v a w s _ HH (λp A=>T p (cg.2 (.inl A))) K h f;refine wp_seq (wp_mono L λe a' w' A=>?_);obtain⟨ex,g,D,u,B,C,G,z,O⟩:=A;cases ex with
  |normal=>
   cases e with
   |normal=>refine wp_mono (iJ Q V hI y n g a' w' D k HI (λp A=>T p (cg.2 (.inr A))) (z.trans K) B G) λe2 a2 w2 hp2=>?_;obtain⟨HD,CX,s2,t1,t2,t3,t4,t5,t6⟩:=hp2;exact⟨HD,CX,s2,t1,t2,C.trans t3,t4,t5.trans z,λj I=>(t6 j I).trans (O j I)⟩
   |_=>cases u
  |exit i=>
   cases e with
   |exit j=>exact⟨.exit i,g,D,u,B,C,G,z,O⟩
   |_=>cases u
  |ret=>
   cases e with
   |ret=>exact⟨.ret,g,D,u,B,C,G,z,O⟩
   |_=>cases u
 |.cond c x y,n,v,a,w,s,k,M,T,K,h,f=>by
  simp only[exec]at f;have way:∀b:Bool,a.eval c=.bool b->(bif b then exec E (av R) (tab Ψ R) (Am Λ Ξ pl R) n x s k else exec E (av R) (tab Ψ R) (Am Λ Ξ pl R) n y s k)=some r->(Code.cond c x y).wp P (Post H U v a w k r) a w:=λb hv h2'=>by
   cases b with
   |true=>exact wp_cond_true hv (iJ Q V hI x n v a w s k (λj I=>by have:=M j I;simp only[b9,aQ]at this;exact this.1) (λp A=>T p (cg.2 (.inl A))) K h h2')
   |false=>exact wp_cond_false hv (iJ Q V hI y n v a w s k (λj I=>by have:=M j I;simp only[b9,aQ]at this;exact this.2) (λp A=>T p (cg.2 (.inr A))) K h h2')
  have E9:=bE h E 4 c;split at f
  .rename_i tx ty he;rw[he]at E9;obtain⟨b,hv,W⟩:=E9;have f:(bif (show Bool from tx)then(bif ty then exec E (av R) (tab Ψ R) (Am Λ Ξ pl R) n x s k else exec E (av R) (tab Ψ R) (Am Λ Ξ pl R) n y s k)else Go.R.both (exec E (av R) (tab Ψ R) (Am Λ Ξ pl R) n x s k) (exec E (av R) (tab Ψ R) (Am Λ Ξ pl R) n y s k))=some r:=f;revert f W;rcases(show ∃c:Bool,c=tx from⟨tx,rfl⟩)with ⟨c',rfl⟩;cases c' with
   |true=>exact λW f=>way b hv (by rw[W rfl];exact f)
   |false=>intro _ f;obtain⟨k1,k2⟩:=z6 f;exact way b hv (by cases b;exact k2;exact k1)
  .obtain⟨(b:Bool),L,h2⟩:=ah f;exact way b (qL L E9) h2
 |.block i c,n,v,a,w,s,k,M,T,K,h,f=>by
  have L:=iJ Q V hI c i v a w s _ M T K h f;refine wp_block (wp_mono L λe a' w' A=>?_);obtain⟨ex,g,D,u,B,C,G,z,O⟩:=A;cases ex with
  |normal=>
   cases e with
   |normal=>exact⟨.normal,g,D,u,B,C,G,z,O⟩
   |_=>cases u
  |exit j=>
   cases e with
   |exit j'=>
    have e:j'=j:=u;subst e;simp only[Exit.inBlock];have Z:(bif Nat.beq j' i then k .normal D else k (.exit j') D)=some r:=G;by_cases X:j'=i
    .rw[cz X];rw[X,eN]at Z;exact⟨.normal,g,D,trivial,B,C,Z,z,O⟩
    .rw[bc X];rw[mc X]at Z;exact⟨.exit j',g,D,rfl,B,C,Z,z,O⟩
   |_=>cases u
  |ret=>
   cases e with
   |ret=>exact⟨.ret,g,D,u,B,C,G,z,O⟩
   |_=>cases u
 |.loop c,n,v,a,w,s,k,M,T,K,h,f=>by
  simp only[exec]at f;split at f
  .rename_i t ht;have F:((Λ n).bind λl=>l.ip.map λt=>t R)=some t:=ht;cases Gf:Λ n with
   |none=>rw[Gf]at F;cases F
   |some l=>
    rw[Gf]at F;have F:(l.ip.map λt=>t R)=some t:=F;cases hl:l.ip with
    |none=>rw[hl]at F;cases F
    |some t'=>rw[hl]at F;obtain rfl:=aG F;exact u0 ((T (n,c) (by simp[bY]) l Gf).1 t' hl H R U v a w s k r K M h f)
  obtain⟨lo,L,m⟩:=ah f;have hl:∃l,Λ n=some l/\lo=l.fH R:=by
   have L:(Λ n).map (·.fH R)=some lo:=L;cases hq:Λ n with
   |none=>rw[hq]at L;cases L
   |some l=>rw[hq]at L;exact⟨l,rfl,(aG L).symm⟩
  obtain⟨l,HZ,rfl⟩:=hl;cases W:((l.fH R).keep.all (λp=>p.2.eG)&&b9 ((l.fH R).keep.map (·.1)) c)with
  |false=>rw[W]at m;cases m
  |true=>
   rw[W]at m;simp only[az]at m;rw[aQ]at W;have N:(l.keep.map (·.2)).all Sh.eG=true:=by rw[List.all_map];exact W.1
   have main:∀(FP:aq) (a0:Act) (w0:World) (s0:S),Rel H FP a0 w0 s0->a0.tmps.size=a.tmps.size->cH v w FP w0->(∀j,U j->a0.tmps.getD j undef=a.tmps.getD j undef) ->
     (af (av R) (fC (l.fH R).keep s0) λJ=>af (av R) (fC (l.fH R).gZ J.2) λx=>(l.fH R).run J.1 x.1 λe t y=>k e (om t y (om _ J.1 St.start)))=some r->CW P c (Post H U v a w k r) a0 w0:=by
    intro FP a0 w0 s0 h0 Dw HP Ij m;obtain⟨⟨J,s1⟩,h2,Gg⟩:=ah m;obtain⟨⟨x,s2⟩,h3,EN⟩:=ah Gg;obtain⟨eD,g1,g2,g3⟩:=BO (keep:=l.keep) (gZ:=l.gZ) h0 N h2 h3;have Y:((l.fn J x).bind λq=>jX.elim l.gD q λe t y=>k e (ng l.keep t J y))=some r:=EN;cases hf:l.fn J x with
    |none=>rw[hf]at Y;cases Y
    |some q=>rw[hf]at Y;have FD:jX.elim l.gD q (λe t y=>k e (ng l.keep t J y))=some r:=Y;obtain⟨ex,t,y,hel,hw⟩:=(T (n,c) (by simp[bY]) l HZ).2 H eD a0 w0 J x q (Dw.trans K) g1 g3 N W.2 hf;rw[hel]at FD;refine CR hw λe a' w' A=>?_;obtain⟨u,CX,B,C,G,z⟩:=A;exact⟨_,CX,_,u,B,HP.trans (g2.trans C),FD,G.trans Dw,λj I=>(z j (M j I)).trans (Ij j I)⟩
   have m:(bif pl n&&jI c then exec E (av R) (tab Ψ R) (Am Λ Ξ pl R) n c s (λe s1=>match e with
     |.normal=>(af (av R) (fC (l.fH R).keep s1) λJ=>af (av R) (fC (l.fH R).gZ J.2) λx=>(l.fH R).run J.1 x.1 λe t y=>k e (om t y (om _ J.1 St.start)))
     |e=>k e s1)else(af (av R) (fC (l.fH R).keep s) λJ=>af (av R) (fC (l.fH R).gZ J.2) λx=>(l.fH R).run J.1 x.1 λe t y=>k e (om t y (om _ J.1 St.start))))=some r:=m
   cases A:(pl n&&jI c)with
   |false=>rw[A]at m;exact u0 (main v a w s h rfl (cH.refl _ _) (λ_ _=>rfl) m)
   |true=>
    rw[A]at m;simp only[az]at m;rw[aQ]at A;refine u0 (xm ?_);have L:=iJ Q V hI c n v a w s _ M (λp hp'=>by rw[iC n c A.2]at hp';exact nomatch hp') K h m;refine wp_mono L λe a' w' A=>?_;obtain⟨ex,g,D,u,B,C,G,z,O⟩:=A;cases ex with
    |normal=>
     cases e with
     |normal=>exact main g a' w' D B z C O G
     |_=>cases u
    |exit i=>
     cases e with
     |exit j=>exact⟨.exit i,g,D,u,B,C,G,z,O⟩
     |_=>cases u
    |ret=>
     cases e with
     |ret=>exact⟨.ret,g,D,u,B,C,G,z,O⟩
     |_=>cases u
 |.scope _,_,_,_,_,_,_,_,_,_,_,f=>by cases f
 |.rangeFunc ..,_,_,_,_,_,_,_,_,_,_,f=>by cases f
 |.label _,_,_,_,_,_,_,_,_,_,_,f=>by cases f
 |.goto _,_,_,_,_,_,_,_,_,_,_,f=>by cases f
 |.refuse _,_,_,_,_,_,_,_,_,_,_,f=>by cases f
abbrev sL:=List (Ex×bp)
def nr:(a:sL)->Ex->S->Option (jX real a)
 |[],_,_=>none
 |e::c,b,s=>bif Ex.beq e.1 b then(fC e.2 s).map (λq=>.inl q.1)else(nr c b s).map .inr
variable (E Ψ Λ)
noncomputable def p8(n:Nat)(c:Code)(d a:bp)(b:sL)(f:fE real (bp.ks d))(x:fE real (bp.ks a)):Option (fE real (bp.ks a)⊕jX real b):=
 exec E (av _) (tab Ψ _) (Am Λ FN FR _) n c (ng d a f x) λe s=>match e with
  |.normal=>(fC a s).map λq=>.inl q.1
  |e=>(nr b e s).map .inr
variable {E Ψ Λ}
def iter{α a:Type}(body:α->Option (α⊕a)):Nat->α->Option a
 |0,_=>none
 |n+1,x=>match body x with
  |some (.inl y)=>iter body n y
  |some (.inr b)=>some b
  |none=>none
def rO:∀ {a:sL} {b:Ex} {s:S} {q:jX real a},nr a b s=some q->∃t y g,(∀ {M:Type} (k:Ex->(t:bp)->fE real (bp.ks t)->M),jX.elim a q k=k b t y)/\fC t s=some (y,g)
 |[],_,_,_,h=>by cases h
 |e::i,b,s,q,h=>by
  simp only[nr]at h;cases c:Ex.beq e.1 b with
  |true=>
   rw[c]at h;simp only[az]at h;cases f:fC e.2 s with
   |none=>rw[f]at h;cases h
   |some z=>rw[f]at h;have h:=aG h;subst h;have m:=Ex.eq_of_beq c;subst m;exact⟨e.2,z.1,z.2,λk=>rfl,f⟩
  |false=>
   rw[c]at h;simp only[aW]at h;cases d:nr i b s with
   |none=>rw[d]at h;cases h
   |some n=>rw[d]at h;have h:=aG h;subst h;obtain⟨t,y,g,j,l⟩:=rO d;exact⟨t,y,g,λk=>j k,l⟩
def B7{p:Nat->Prop}:∀(n:Nat),p n->∃m,p m/\∀k,p k->m<=k:=by
 intro n;induction n using Nat.strongRecOn with
 |_ n f=>
  intro d;by_cases h:∃m,m<n/\p m
  .obtain⟨m,c,e⟩:=h;exact f m c e
  .exact⟨n,d,λk b=>xT λa=>h ⟨k,a,b⟩⟩
def Dl (hE:bD P E) (hC:eA P E Ψ) {n:Nat} {c:Code} {l:dR} (FE:l.ip=none) (hL:e8 P E Λ (bY n c)) (W:fE real (bp.ks l.keep)->fE real (bp.ks l.gZ)->Nat)
  (hf:∀B x,l.fn B x=iter (p8 E Ψ Λ n c l.keep l.gZ l.gD B) (W B x) x):nB P E c l:=by
 refine⟨λt O=>(by rw[FE]at O;cases O),?_⟩;intro H ω a w B x q hn h hk hl I X;rw[hf]at X;have Y:∀(T:sL) (q:jX real T),∃V t y,∀ {M:Type} (k:Ex->(t:bp)->fE real (bp.ks t)->M),jX.elim T q k=k V t y:=by
  intro T;induction T with
  |nil=>intro q;exact Empty.elim q
  |cons e T ih=>
   intro q;cases q with
   |inl y=>exact⟨e.1,e.2,y,λk=>rfl⟩
   |inr q=>obtain⟨V,t,y,h⟩:=ih q;exact⟨V,t,y,λk=>h k⟩
 obtain⟨F,t0,y0,D⟩:=Y l.gD q;refine⟨F,t0,y0,D,?_⟩;let d (m:Nat) (b:Act) (f:World):Prop:=∃x' L,Rel H L b f (ng l.keep l.gZ B x')/\cH ω w L f/\kz f L b l.keep B/\b.tmps.size=a.tmps.size/\(∀j,b9 [j] c=true->b.tmps.getD j undef=a.tmps.getD j undef) /\
  iter (p8 E Ψ Λ n c l.keep l.gZ l.gD B) m x'=some q
 have g:∀b f,(∃m,d m b f)->∃m,d m b f/\∀k,d k b f->m<=k:=λb f ⟨m,hm⟩=>B7 m hm;have A:∃R:Act->World->Nat,∀b f,(∃m,d m b f)->d (R b f) b f/\∀k,d k b f->R b f<=k:=by
  classical
  exact⟨λb f=>if h:∃m,d m b f then Classical.choose (g b f h)else 0,λb f h=>by show d (if h:∃m,d m b f then Classical.choose (g b f h)else 0) b f/\∀k,d k b f->(if h:∃m,d m b f then Classical.choose (g b f h)else 0)<=k;rw[vk h];exact Classical.choose_spec (g b f h)⟩
 obtain⟨R,A⟩:=A;refine CQ (λb f=>∃m,d m b f) R ⟨_,x,ω,h,cH.refl _ _,hk,rfl,λ_ _=>rfl,X⟩ (λa1 w1 hI=>?_);obtain⟨G,_⟩:=A a1 w1 hI;obtain⟨x1,eD,h1,e1,k1,K,Z,o⟩:=G;cases hm:R a1 w1 with
 |zero=>rw[hm]at o;cases o
 |succ m=>
  rw[hm]at o;simp only[iter]at o;cases hb:p8 E Ψ Λ n c l.keep l.gZ l.gD B x1 with
  |none=>rw[hb]at o;cases o
  |some C=>
   rw[hb]at o;have hwp:=iJ hE hC rX (U:=λj=>b9 [j] c=true) c n eD a1 w1 _ _ (λj J=>J) hL (K.trans hn) h1 hb;refine wp_mono hwp λe S w2 v=>?_;obtain⟨V,CX,Q,t1,t2,t3,t4,t5,t6⟩:=v;have u:∀p∈l.keep,S.tmps.getD p.1 undef=a1.tmps.getD p.1 undef:=λp v=>t6 p.1 (ep (eJ.2 ⟨p,v,rfl⟩) c I);have out:∀r,(nr l.gD r Q).map Sum.inr=some C->FV e r->vB H c l.keep ω a w B F t0 y0 e S w2:=by
    intro r v hm';cases hq:nr l.gD r Q with
    |none=>rw[hq]at v;cases v
    |some q'=>
     rw[hq]at v;have v:=aG v;subst v;have Iy:q'=q:=aG o;subst Iy;obtain⟨t,y,s3,z1,z2⟩:=rO hq;have z:(⟨F,t0,y0⟩:(_:Ex)×(t:bp)×fE real (bp.ks t))=⟨r,t,y⟩:=by rw[<-D (λe t y=>(⟨e,t,y⟩:(_:Ex)×(t:bp)×fE real (bp.ks t))),z1]
     injection z with d1 d2
     subst d1;injection d2 with d2 d3
     subst d2;have d3:=vR d3;subst d3;obtain⟨N,g1,g2,g3⟩:=wJ t2 hl k1 t3 u z2;exact⟨hm',N,g1,e1.trans (t3.trans g2),t5.trans K,λj J=>(t6 j J).trans (Z j J)⟩
   cases V with
   |normal=>
    cases e with
    |normal=>
     have i:(fC l.gZ Q).map (λq=>Sum.inl q.1)=some C:=t4;cases O:fC l.gZ Q with
     |none=>rw[O]at i;cases i
     |some q=>
      obtain⟨x2,s3⟩:=q;rw[O]at i;have i:=aG i;subst i;obtain⟨N,g1,g2,g3⟩:=wJ t2 hl k1 t3 u O;have s:d m S w2:=⟨x2,N,g1,e1.trans (t3.trans g2),g3,t5.trans K,λj J=>(t6 j J).trans (Z j J),o⟩
      refine⟨⟨m,s⟩,?_⟩;have Ix:R S w2<=m:=(A S w2 ⟨m,s⟩).2 m s;omega
    |_=>cases t1
   |exit j=>
    cases e with
    |exit j'=>have i:(nr l.gD (.exit j) Q).map Sum.inr=some C:=t4;exact out (.exit j) i t1
    |_=>cases t1
   |ret=>
    cases e with
    |ret=>have i:(nr l.gD .ret Q).map Sum.inr=some C:=t4;exact out .ret i t1
    |_=>cases t1
end
def zU(w:World)(g:aq)(b:Nat)(a:List Sh)(e:List (KV real))(v:Value):Prop:=
 match a with
 |[c]=>(e.take c.ks.length).length=c.ks.length/\AX w g b c (e.take c.ks.length) v
 |d=>∃f:List Value,v=.tuple f.toArray/\fI w g b d e f
def Sh.vals(a:Sh)(u:Value):List Value:=
 match a with
 |.one _=>[u]
 |.agg _=>u.cells.toList
 |_=>[]
def b8:List Sh->List Value->List Value
 |b::a,u::c=>b.vals u++b8 a c
 |_,_=>[]
abbrev dl(a:List Sh):List K:=(a.map Sh.sP).flatten
def vA:List Cp->List Value->List Value
 |.ro _::r,_::a=>vA r a
 |.mu _::r,v::a=>v::vA r a
 |.ro _::r,[]=>vA r []
 |.mu _::r,[]=>undef::vA r []
 |[],_=>[]
def Sh.C0(c:Sh)(u:Value):List Value:=
 match c with
 |.blk _=>[u]
 |.qa _ a=>vA a (match u with |.func _ _ b=>b.toList|_=>[])
 |_=>[]
def ek:List Sh->List Value->List Value
 |b::a,u::c=>b.C0 u++ek a c
 |_,_=>[]
def Dy(f:World)(c:aq)(b:Nat)(a:Bool)(args:List Sh)(d:List Value)(e:List (KV real)):Prop:=
 (a=true->fp f c b (e.take (dY a args).length) (pick (dl args) (b8 args d))) /\
 fI f c (b+(dY a args).length) ((eC args).map .blk) (e.drop (dY a args).length) (ek args d)
structure ec (P:Program) (f:FuncId) (F:hJ):Prop where
 there:∃fn c, P.funcs[f]? = some fn /\ (fn.name == "runtime.NumGoroutine") = false /\ fn.body = some c
 calls:∀(w:World) (ω:aq) (us:List Value) (x:fE real ((F.args.map Sh.ks).flatten)) (y:fE real ((F.bf.map Sh.ks).flatten++(dY F.look F.args++(eC F.args).flatten))),
  zQ w ω->(∀b b' k,ω b=some k->ω b'=some k->b=b')->(∀b k,ω b=some k->b<w.heap.size)->fI w ω 1 F.args (bJ _ x) us->F.fn x=some y ->
  Calls P f us.toArray w λe w'=>∃v cu,e=.returned v/\cH ω w cu w'/\(∀b b' k,cu b=some k->cu b'=some k->b=b')/\(∀b k,cu b=some k->b<w'.heap.size) /\
   zU w' cu (1+au F.args) F.bf ((bJ _ y).take (F.bf.map Sh.ks).flatten.length) v /\
   Dy w' cu (1+au F.args+au F.bf) F.look F.args us ((bJ _ y).drop (F.bf.map Sh.ks).flatten.length)
section
variable {R:Type}{P:Program}{E:Env}{Ψ:bA->Option hJ}{ω:aq}{a:Act}{w:World}{s:S}{k:S->Option R}{r:R}{o:Oper}{Q:Exit->Act->World->Prop}
def aq.ig:aq:=λ_=>none
def EV{t:Ty}{a:Md}{v:Value}{x:t.T}(h:t.R w ω a v x):t.R w aq.ig .bQ v x:=Ty.hM t a v x (λ_ _ _=>rfl) h
def BM{s s':S}{id:Nat}(h:s'.ob id=s.ob id)(g a:Nat)(p:iU):s'.cont id g a p=s.cont id g a p:=by unfold St.cont;rw[h]
def Hid(d:aq)(c:S)(a:aq):Prop:=∀b,a b=none\/∃id p,d b=some (id,p)/\(c.ob id).o=.gone
def pV(s s1:S):Prop:=∀i,(s1.ob i).o≠.gone->s1.ob i=s.ob i
variable {s1:S}{qk:aq}
def Hid.BQ(f:Hid ω s1 qk){md:Md}(h:∀k,md.has k->(s1.ob k.1).o≠.gone):yY w ω qk md:=by
 intro b _ c;rcases f b with e|⟨id,p,a,d⟩
 .exact e
 .rcases c with c|⟨k,c,g⟩
  .rw[c]at a;cases a
  .rw[c]at a;injection a with a
   subst a;exact absurd d (h _ g)
def Ce(v:pV s s1)(o:Hid ω s1 qk){t:Ty}{l:L}{u:Value}{x:t.T}(m:bU w ω s u l)(h:nj (A:=real) t l s1=some x):t.R w qk .bQ u x:=by
 cases l with
 |val C y=>
  simp only[nj]at h;split at h
  .rename_i b;obtain rfl:=Ty.eq_of_beq b;have h:=aG h;subst h;exact Ty.hM _ _ _ _ (o.BQ (md:=.bQ) λk (j:False)=>j.elim) (show C.R w ω .bQ u y from m)
  .cases h
 |eI e D=>
  simp only[nj]at h;split at h
  .rename_i b;obtain rfl:=Ty.eq_of_beq b;have h:=aG h;subst h;obtain⟨q,r⟩:=m;exact⟨q,0,0,r,rfl,aJ _,λB=>absurd B (by omega),λi _ z=>absurd z (by omega)⟩
  .cases h
 |ref id g a p=>
  simp only[nj]at h;cases d:s1.cont id g a p with
  |none=>rw[d]at h;cases h
  |some c=>
   rw[d]at h;simp only at h;split at h
   .rename_i b;obtain rfl:=Ty.eq_of_beq b;have h:=aG h;subst h;have n:(s1.ob id).o≠.gone:=λe=>fS e d;have f:s.cont id g a p=some c:=by rw[<-d];exact(BM (v id n) g a p).symm
    exact Ty.hM _ _ _ _ (o.BQ λk j=>by rw[yn _ _ _ _ j];exact n) (m.2.2 c f)
   .cases h
 |_=>cases h
def FX(w:World)(g:aq)(s:S)(a:aq)(b:Nat)(k:K)(l:L)(u:Value):Prop:=
 match k with
 |.val _=>True
 |.mp _=>True
 |.arr e c d=>∀x f,eB (A:=real) e c d l s=some (x,f)->(Ty.sl e c).R w a (aI (bif d then 2 else 1) b []) u x
def kD(w:World)(c:aq)(s:S)(a:aq):Nat->List K->List L->List Value->Prop
 |b,k::ks,l::ls,u::d=>FX w c s a b k l u/\kD w c s a (b+1) ks ls d
 |_,_,_,_=>True
def kD.iP{ks ks':List K}{ls e:List L}{a f:List Value}:∀ {b:Nat},ks.length=ls.length->ks.length=a.length->kD w ω s qk b (ks++ks') (ls++e) (a++f)->kD w ω s qk b ks ls a/\kD w ω s qk (b+ks.length) ks' e f:=by
 induction ks generalizing ls a with
 |nil=>intro b c d h;have g:ls=[]:=e9.1 c.symm;have i:a=[]:=e9.1 d.symm;subst g;subst i;exact⟨trivial,h⟩
 |cons k ks j=>
  intro b c d h;match ls,a,c,d,h with
  |l::ls,u::a,c,d,h=>obtain⟨m,n⟩:=j (by simpa using c) (by simpa using d) h.2;exact⟨⟨h.1,m⟩,by rw[cK,show b+(ks.length+1)=b+1+ks.length by omega];exact n⟩
def tD:∀(c:ar) (ls:List L) (a:List Value) (b:Nat),kD w ω s qk b c.ks ls a
 |.nil,_,_,_=>trivial
 |.cons t ts,[],_,_=>trivial
 |.cons t ts,_::_,[],_=>trivial
 |.cons t ts,_::ls,_::a,b=>⟨trivial,tD ts ls a (b+1)⟩
def nP(p:pV s s1)(r:Hid ω s1 qk)(i:S):∀(ks:List K) (ls:List L) (f:List Value) (j:List (KV real)) (b:Nat),aH (bU w ω s) f ls->kD w ω i qk b ks ls f->looks ks ls i s1=some j->fp w qk b j f/\j.map (·.1)=ks
 |[],[],f,j,b,g,_,h=>by
  have h:=aG h;subst h;cases f with
  |nil=>exact⟨trivial,rfl⟩
  |cons _ _=>exact g.elim
 |k::ks,l::ls,[],_,_,g,_,_=>g.elim
 |k::ks,l::ls,u::f,j,b,g,o,h=>by
  simp only[looks]at h;cases a:jF k l i s1 with
  |none=>rw[a]at h;cases h
  |some v=>
   cases m:looks ks ls i s1 with
   |none=>rw[a,m]at h;cases h
   |some n=>
    rw[a,m]at h;have h:=aG h;subst h;obtain⟨y,z⟩:=nP p r i ks ls f n (b+1) g.2 o.2 m;cases k with
    |val t=>
     simp only[jF]at a;cases c:nj (A:=real) t l s1 with
     |none=>rw[c]at a;cases a
     |some x=>rw[c]at a;have a:=aG a;subst a;exact⟨⟨Ce p r g.1 c,y⟩,by simp[z]⟩
    |arr e B d=>
     simp only[jF]at a;cases c:eB (A:=real) e B d l i with
     |none=>rw[c]at a;cases a
     |some q=>obtain⟨x,C⟩:=q;rw[c]at a;have a:=aG a;subst a;exact⟨⟨o.1 x C c,y⟩,by simp[z]⟩
    |mp _=>cases a
 |[],_::_,_,_,_,_,_,h=>by cases h
 |_::_,[],_,_,_,_,_,h=>by cases h
def mO(h:Rel H ω a w s)(t:pV s s1)(y:Hid ω s1 qk){i:ar}{c:cU real}{u:Value}{n:List (KV real)}(C:gK w ω s u c)(d:ga i c s1=some n):
  n.map (·.1)=i.ks/\∃x,kf (A:=real) i n=some x/\jd w qk u i x 0:=by
 cases c with
 |ro p x=>
  simp only[ga]at d;split at d
  .rename_i m;have:=ar.eq_of_beq m;subst this;have d:=aG d;subst d;obtain⟨b,R,J,B,K,L⟩:=C;have D:yY w ω qk .bQ:=y.BQ (md:=.bQ) λk (M:False)=>M.elim;exact⟨uL _ _,x,su _ _,b,R,D b B (.inl J),B,K,ar.hM p _ _ 0 x (λ_=>D) L⟩
  .cases d
 |ptr id g=>
  simp only[ga]at d;cases m:dm s1 id g with
  |none=>rw[m]at d;cases d
  |some ls=>
   rw[m]at d;simp only at d;obtain⟨q,l⟩:=cM m;have v:(s1.ob id).o≠.gone:=by rw[l];exact λe=>by cases e
   have G:(s.ob id).g=g:=by rw[<-t id v];exact q
   have z:(s.ob id).o=.blk ls:=by rw[<-t id v];exact l
   obtain⟨o,r,I⟩:=C.2 G ls z;obtain⟨F,arr,T,S,U,V⟩:=h.c7 id ls z;obtain rfl:=h.inj _ _ _ r S;obtain⟨W,E⟩:=nP t y s1 i.ks ls arr.toList n 0 V (tD _ _ _ _) d;obtain⟨x,x1,x2⟩:=nC i n arr.toList 0 E W;have f:qk o=none:=by
    rcases y o with N|⟨P,X,j,Q⟩
    .exact N
    .rw[r]at j;injection j with j
     injection j with j _
     subst j;exact absurd Q v
   refine⟨E,x,x1,o,0,f,h.dom _ _ r,I,x2 0 _ (λk u O=>?_)⟩;rw[bC,bC,cell_of_row w o k arr T (0,0) U];simpa using O
def pH(h:Rel H ω a w s)(q:pV s s1)(r:Hid ω s1 qk):∀(b:List ar) (i:List (cU real)) (j:List Value) (l:List (KV real)),aH (λv c=>gK w ω s v c) j i->gk b i s1=some l ->
  l.map (·.1)=(b.map ar.ks).flatten/\(∀c∈c9 (A:=real) b l,∃e x,c=.ro e x)/\aH (λv c=>gK w qk ⟨λ_=>.dead,λ_=>⟨0,0,0,.gone⟩⟩ v c) j (c9 (A:=real) b l)
 |[],[],j,l,k,d=>by
  have d:=aG d;subst d;cases j with
  |cons _ _=>exact k.elim
  |nil=>exact⟨rfl,λc p=>absurd p (by simp[c9]),trivial⟩
 |e::b,c::i,[],_,k,_=>k.elim
 |e::b,c::i,v::j,l,k,d=>by
  simp only[gk]at d;cases n:ga e c s1 with
  |none=>rw[n]at d;cases d
  |some u=>
   cases o:gk b i s1 with
   |none=>rw[n,o]at d;cases d
   |some g=>
    rw[n,o]at d;have d:=aG d;subst d;obtain⟨t,x,x1,B⟩:=mO h q r k.1 n;obtain⟨D,z,C⟩:=pH h q r b i j g k.2 o;have f:u.length=e.len:=by rw[<-uK,<-t];simp
    have m:c9 (A:=real) (e::b) (u++g)=.ro e x::c9 (A:=real) b g:=by simp only[c9];rw[gV f,lY f,x1]
    rw[m];refine⟨by simp[t,D],λc p=>?_,B,C⟩;cases p with
    |head=>exact⟨e,x,rfl⟩
    |tail _ y=>exact z c y
 |[],_::_,_,_,_,d=>by cases d
 |_::_,[],_,_,_,d=>by cases d
def lR{a b:S}:∀ {ks:List K} {ls:List L} {e:List (KV real)},looks ks ls a b=some e->ks.length=ls.length
 |[],[],_,_=>rfl
 |[],_::_,_,h=>by cases h
 |_::_,[],_,h=>by cases h
 |k::ks,l::ls,e,h=>by
  simp only[looks]at h;cases c:jF k l a b with
  |none=>rw[c]at h;cases h
  |some v=>
   cases d:looks ks ls a b with
   |none=>rw[c,d]at h;cases h
   |some f=>simp[lR d]
def Aq(h:Rel H ω a w s)(m:pV s s1)(n:Hid ω s1 qk){j:Sh}{tv:bK}{u:Value}{i:List (KV real)}(b:Nat)(o:cQ H w ω s u tv)(z:kD w ω s qk b j.sP (j.cells tv) (j.vals u))(d:iS j tv s s1=some i):i.map (·.1)=j.ks/\AX w qk b j i u:=by
 unfold iS at d;split at d
 .rename_i G id g;obtain⟨q,x,x1,p⟩:=mO h m n (c:=.ptr id g) o d;exact⟨q,x,x1,p⟩
 .rename_i G t x;obtain⟨q,x,x1,p⟩:=mO h m n (c:=.ro t x) o d;exact⟨q,x,x1,p⟩
 .rename_i f k I F;cases C:Nat.beq f I with
  |false=>rw[C]at d;cases d
  |true=>rw[C]at d;simp only[az]at d;have J:=bn C;subst J;obtain⟨E,r,y⟩:=o;obtain⟨q,e,p⟩:=pH h m n k F E i y d;exact⟨q,E,r,p,e⟩
 .rename_i L l;obtain⟨e,D⟩:=nP m n s [L] [l] [u] i b ⟨o,trivial⟩ z d;match i,e with
  |[v],e=>exact⟨D,v,rfl,e.1⟩
  |_::_::_,e=>exact e.2.elim
 .rename_i ks ls;obtain⟨cells,r,y⟩:=o;have K:(Sh.agg ks).vals u=cells:=by subst r;simp[Sh.vals,Value.cells]
  have B:(Sh.agg ks).cells (A:=real) (.agg ls)=ls:=by simp only[Sh.cells];rw[<-lR d,kF];rfl
  rw[K,B]at z;obtain⟨e,D⟩:=nP m n s ks ls cells i b y z d;exact⟨D,cells,r,e⟩
 .cases d
def nN{b:Sh}{tv:bK}{u:Value}{i:List (KV real)}{h:S}(d:cQ H w ω s u tv)(a:iS b tv h s1=some i):b.sP.length=(b.cells tv).length/\aH (bU w ω s) (b.vals u) (b.cells tv):=by
 unfold iS at a;split at a
 .exact⟨rfl,trivial⟩
 .exact⟨rfl,trivial⟩
 .exact⟨rfl,trivial⟩
 .exact⟨rfl,d,trivial⟩
 .rename_i ks ls;obtain⟨cells,e,f⟩:=d;have g:(Sh.agg ks).vals u=cells:=by subst e;simp[Sh.vals,Value.cells]
  have c:(Sh.agg ks).cells (A:=real) (.agg ls)=ls:=by simp only[Sh.cells];rw[<-lR a,kF];rfl
  rw[g,c];exact⟨lR a,f⟩
 .cases a
def zW{a:Sh}(h:(a.eG||a.flat)=true):a.sP.length=a.width:=by cases a <;> first|rfl|cases h
def mz:∀ {a:List Sh} {b:List bK} {e:List Value} {h:List (KV real)} {f:S},aH (cQ H w ω s) e b->dI a b f s1=some h->(dl a).length=(aY a b).length/\aH (bU w ω s) (b8 a e) (aY a b)
 |[],[],e,h,_,d,c=>by
  cases e with
  |cons _ _=>exact d.elim
  |nil=>exact⟨rfl,trivial⟩
 |j::a,tv::b,[],_,_,d,_=>d.elim
 |j::a,tv::b,u::e,h,f,d,c=>by
  simp only[dI]at c;cases g:iS j tv f s1 with
  |none=>rw[g]at c;cases c
  |some v=>
   cases i:dI a b f s1 with
   |none=>rw[g,i]at c;cases c
   |some n=>obtain⟨o,k⟩:=nN d.1 g;obtain⟨l,m⟩:=mz d.2 i;refine⟨?_,k.iP m⟩;simp only[dl,fm,lZ,aY,cR]at l⊢;omega
 |[],_::_,_,_,_,_,c=>by cases c
 |_::_,[],_,_,_,_,c=>by cases c
def rC(h:Rel H ω a w s)(q:pV s s1)(r:Hid ω s1 qk):∀(c:List Sh) (e:List bK) (j:List Value) (l:List (KV real)) (b:Nat),(c.all λi=>i.eG||i.flat)=true->aH (cQ H w ω s) j e->kD w ω s qk b (dl c) (aY c e) (b8 c j)->dI c e s s1=some l->fI w qk b c l j
 |[],[],j,l,b,_,g,_,d=>by
  have d:=aG d;subst d;cases j with
  |cons _ _=>exact g.elim
  |nil=>exact⟨rfl,rfl⟩
 |i::c,tv::e,[],_,_,_,g,_,_=>g.elim
 |i::c,tv::e,u::j,l,b,n,g,z,d=>by
  rw[oo,aQ]at n;simp only[dI]at d;cases k:iS i tv s s1 with
  |none=>rw[k]at d;cases d
  |some v=>
   cases m:dI c e s s1 with
   |none=>rw[k,m]at d;cases d
   |some o=>
    rw[k,m]at d;have d:=aG d;subst d;obtain⟨p,x⟩:=nN g.1 k;have y:=x.length;obtain⟨A,t⟩:=kD.iP (ks:=i.sP) (ks':=dl c) p (p.trans y.symm) z;obtain⟨C,B⟩:=Aq h q r b g.1 A k;have f:v.length=i.ks.length:=by rw[<-C];simp
    refine⟨by rw[gV f];exact f,by rw[gV f];exact B,?_⟩;rw[lY f];rw[zW n.1]at t;exact rC h q r c e j o _ n.2 g.2 t m
 |[],_::_,_,_,_,_,_,_,d=>by cases d
 |_::_,[],_,_,_,_,_,_,d=>by cases d
end
section
variable {R:Type}{P:Program}{E:Env}{Ψ:bA->Option hJ}{ω:aq}{a:Act}{w:World}{s:S}{k:S->Option R}{r:R}{o:Oper}{Q:Exit->Act->World->Prop}
def aq.old(a:aq)(base W:Nat):aq:=λb=>match a b with
 |none=>none
 |some (i,p)=>if base<=i/\i<base+W then none else some (i,p)
def Ct{a:aq}{base W b:Nat}{k:Key}(h:a.old base W b=some k):a b=some k /\ ¬bh base W k.1:=by
 unfold aq.old at h;split at h
 .cases h
 .rename_i i p c;split at h
  .cases h
  .rename_i d;injection h with h
   subst h;exact⟨c,d⟩
def Cr{a:aq}{base W b i:Nat}{p:List (Nat×Nat)}(h:a b=some (i,p))(c:¬bh base W i):a.old base W b=some (i,p):=by unfold aq.old;rw[h];simp only;unfold bh at c;rw[bc c]
def Cs{a:aq}{base W b:Nat}(h:a b=none):a.old base W b=none:=by unfold aq.old;rw[h]
def vD{f d:aq}{i j:Nat}{v:KV real}{u:Value}(a:∀b p,b<w.heap.size->f b=some (i,p)->d b=some (j,p))(o:v.1.closed=true\/∀b,b<w.heap.size->f b=none->d b=none)(h:DS w f i v u):DS w d j v u:=by
 obtain⟨C,x⟩:=v;rcases o with m|o
 .cases C with
  |val t=>exact Ty.fZ ⟨λe g z=>(by subst z;cases m),λk z=>(by subst z;cases m)⟩ h
  |arr e g D=>
   cases D with
   |true=>exact Ty.fF (.sl e g) (i,[]) (j,[]) u x (λb r L B=>⟨rfl,a b r L B⟩) h
   |false=>
    have M:g.plain=true:=by simpa[K.closed] using m
    obtain⟨F,n,c,q,s,l,y,H⟩:=h;refine⟨F,n,c,q,s,l,?_,λk A B I=>ar.fZ g _ _ _ 0 _ M (H k A B I)⟩;rcases y with J|⟨b,arr,N,E,O,P⟩
    .exact .inl J
    .exact .inr ⟨b,arr,N,E,O,a b [] (aM E) P⟩
  |mp _=>cases m
 .cases C with
  |val t=>exact vE o h
  |arr e g D=>exact xG ⟨o,a⟩ h
  |mp C=>obtain⟨b,G,c,q,s,l,y⟩:=h;exact⟨b,G,c,a b [] (aM l) q,s,l,y⟩
def ju{cu fV:aq}{base B W:Nat}(a:∀i,bh B W i->∀b p,b<w.heap.size->cu b=some (i,p)->fV b=some (base+(i-B),p)):∀(c:List (KV real)) (d:List Value) (b:Nat),B<=b->b+c.length<=B+W ->
  ((∀v∈c,v.1.closed=true)\/∀b,b<w.heap.size->cu b=none->fV b=none)->fp w cu b c d->fp w fV (base+(b-B)) c d
 |[],[],_,_,_,_,_=>trivial
 |[],_::_,_,_,_,_,h=>h.elim
 |_::_,[],_,_,_,_,h=>h.elim
 |v::c,u::d,b,k,g,f,h=>by simp only[cK]at g;refine⟨vD (a b (by unfold bh;omega)) (f.imp (λh=>h v (by simp)) id) h.1,?_⟩;have:=ju a c d (b+1) (by omega) (by omega) (f.imp (λh j e=>h j (by simp[e])) id) h.2;rwa[show base+(b+1-B)=base+(b-B)+1 by omega]at this
def Bl {e c:aq} {base B W:Nat} (a:∀i,bh B W i->∀b p,b<w.heap.size->e b=some (i,p)->c b=some (base+(i-B),p)) {f:Sh} {d:List (KV real)} {u:Value} {b:Nat} (s:f.qg=true) (q:d.length=f.ks.length) (n:B<=b) (o:b+f.width<=B+W)
  (k:(∀v∈d,v.1.closed=true)\/∀b,b<w.heap.size->e b=none->c b=none) (h:AX w e b f d u):AX w c (base+(b-B)) f d u:=by
 cases f with
 |one y=>obtain⟨v,g,j⟩:=h;subst g;exact⟨v,rfl,(ju a [v] [u] b n o k ⟨j,trivial⟩).1⟩
 |agg ks=>obtain⟨cells,g,j⟩:=h;exact⟨cells,g,ju a d cells b n (by rw[q];exact o) k j⟩
 |blk ks=>obtain⟨l,arr,T,g,j,m,r⟩:=h;have x:(Sh.blk ks).width=ks.length+1:=rfl;have t:d.length=ks.length:=q;refine⟨l,arr,T,g,a b (by unfold bh;omega) l [] (aM m) j,m,?_⟩;have:=ju a d arr.toList (b+1) (by omega) (by omega) k r;rwa[show base+(b+1-B)=base+(b-B)+1 by omega]at this
 |_=>cases s
def oC{e c:aq}{base B W:Nat}(d:∀i,bh B W i->∀b p,b<w.heap.size->e b=some (i,p)->c b=some (base+(i-B),p)):∀(a:List Sh) (g:List (KV real)) (j:List Value) (b:Nat),a.all Sh.qg=true->B<=b->b+au a<=B+W ->
  ((∀v∈g,v.1.closed=true)\/∀b,b<w.heap.size->e b=none->c b=none)->fI w e b a g j->fI w c (base+(b-B)) a g j
 |[],_,_,_,_,_,_,_,h=>h
 |_::_,_,[],_,_,_,_,_,h=>h.elim
 |f::a,g,u::j,b,k,o,s,m,h=>by
  rw[oo,aQ]at k;have t:au (f::a)=f.width+au a:=by simp[au]
  obtain⟨n,q,r⟩:=h;refine⟨n,Bl d k.1 n o (by omega) (m.imp (λh v l=>h v (List.mem_of_mem_take l)) id) q,?_⟩;have:=oC d a (g.drop f.ks.length) j (b+f.width) k.2 (by omega) (by omega) (m.imp (λh v l=>h v (List.mem_of_mem_drop l)) id) r;rwa[show base+(b+f.width-B)=base+(b-B)+f.width by omega]at this
def Bm{f:World}{a:aq}{d:S}{u:Value}{tv:bK}(h:cQ H f a d u tv):lX f a d u tv.comp:=by
 cases tv with
 |one l=>intro b e;injection e with e;subst e;exact h
 |agg ls=>exact h
 |ol g=>intro b e;injection e with e;subst e;trivial
 |pQ i c=>intro b e;injection e with e;subst e;trivial
def BP{a:List Sh}(h:a.all Sh.flat=true):a.all Sh.qg=true:=by rw[ed]at h⊢;intro b c;have:=h b c;cases b <;> first|rfl|cases this
end
end Go.R
namespace Go.R
open Classical
section
variable {R:Type}{P:Program}{E:Env}{Ψ:bA->Option hJ}{ω:aq}{a:Act}{w:World}{s:S}{k:S->Option R}{r:R}{o:Oper}{Q:Exit->Act->World->Prop}
structure pU where
 e:Nat
 cs:ar
 d:Bool
 l:L
 u:Value
 num:Nat
 out:Nat
def bB:List K->List L->List Value->Nat->Nat->List pU
 |.arr e c d::ks,l::ls,u::a,b,o=>⟨e,c,d,l,u,b,o⟩::bB ks ls a (b+1) (o+1)
 |.val _::ks,_::ls,_::a,b,o=>bB ks ls a (b+1) o
 |.mp _::ks,_::ls,_::a,b,o=>bB ks ls a (b+1) o
 |_,_,_,_,_=>[]
def ef:L->Option Nat
 |.ref id _ _ []=>some id
 |_=>none
def EO{l:L}{i:Nat}(h:ef l=some i):∃g a,l=.ref i g a []:=by
 cases l with
 |ref id g a p=>
  cases p with
  |nil=>injection h with h;subst h;exact⟨g,a,rfl⟩
  |cons _ _=>cases h
 |_=>cases h
def uF:∀(ks:List K) (ls:List L) (c:List Value) (b o:Nat),aH (bU w ω s) c ls->∀t∈bB ks ls c b o,bU w ω s t.u t.l
 |[],_,_,_,_,_,t,a=>by simp[bB]at a
 |.arr .. :: _,[],_,_,_,_,t,a=>by simp[bB]at a
 |.val _::_,[],_,_,_,_,t,a=>by simp[bB]at a
 |.mp _::_,[],_,_,_,_,t,a=>by simp[bB]at a
 |.arr .. :: _,_::_,[],_,_,_,t,a=>by simp[bB]at a
 |.val _::_,_::_,[],_,_,_,t,a=>by simp[bB]at a
 |.mp _::_,_::_,[],_,_,_,t,a=>by simp[bB]at a
 |.arr e f d::ks,l::ls,u::c,b,o,h,t,a=>by
  simp only[bB,cL]at a;rcases a with rfl|a
  .exact h.1
  .exact uF ks ls c _ _ h.2 t a
 |.val _::ks,l::ls,u::c,b,o,h,t,a=>uF ks ls c _ _ h.2 t a
 |.mp _::ks,l::ls,u::c,b,o,h,t,a=>uF ks ls c _ _ h.2 t a
def nF:∀(ks:List K) (ls:List L) (c:List Value) (b o:Nat),(∀t∈bB ks ls c b o,b<=t.num/\t.num<b+ks.length/\o<=t.out)/\(bB ks ls c b o).Pairwise λt h=>t.num<h.num/\t.out<h.out
 |[],_,_,_,_=>⟨λt a=>by simp[bB]at a,by simp[bB]⟩
 |.arr .. :: _,[],_,_,_=>⟨λt a=>by simp[bB]at a,by simp[bB]⟩
 |.val _::_,[],_,_,_=>⟨λt a=>by simp[bB]at a,by simp[bB]⟩
 |.mp _::_,[],_,_,_=>⟨λt a=>by simp[bB]at a,by simp[bB]⟩
 |.arr .. :: _,_::_,[],_,_=>⟨λt a=>by simp[bB]at a,by simp[bB]⟩
 |.val _::_,_::_,[],_,_=>⟨λt a=>by simp[bB]at a,by simp[bB]⟩
 |.mp _::_,_::_,[],_,_=>⟨λt a=>by simp[bB]at a,by simp[bB]⟩
 |.arr e i d::ks,l::ls,u::c,b,o=>by
  obtain⟨f,g⟩:=nF ks ls c (b+1) (o+1);refine⟨λt a=>?_,?_⟩
  .simp only[bB,cL]at a;rcases a with rfl|a
   .simp
   .have:=f t a;simp only[cK];omega
  .simp only[bB];refine List.Pairwise.cons (λt a=>?_) g;have:=f t a;exact⟨by show b<t.num;omega,by show o<t.out;omega⟩
 |.val _::ks,l::ls,u::c,b,o=>by obtain⟨f,g⟩:=nF ks ls c (b+1) o;refine⟨λt a=>?_,g⟩;have:=f t a;simp only[cK];omega
 |.mp _::ks,l::ls,u::c,b,o=>by obtain⟨f,g⟩:=nF ks ls c (b+1) o;refine⟨λt a=>?_,g⟩;have:=f t a;simp only[cK];omega
def dK{α:Type}{R:α->α->Prop}:∀ {l:List α},l.Pairwise R->∀x∈l,∀y∈l,x=y\/R x y\/R y x
 |[],_,x,c,_,_=>by cases c
 |z::l,h,x,c,y,f=>by
  rw[vJ]at h;rcases cL.1 c with e|a <;> rcases cL.1 f with d|b
  .exact .inl (e.trans d.symm)
  .exact .inr (.inl (by rw[e];exact h.1 y b))
  .exact .inr (.inr (by rw[d];exact h.1 x a))
  .exact dK h.2 x a y b
structure GU (s:S) (t:pU):Prop where
 IS:1<=t.cs.len
 was:(∃e' cs',t.l=.eI e' cs'/\ef t.l=none)\/∃id g hh dp x,t.l=.ref id g hh []/\g=(s.ob id).g/\(s.ob id).o=.arr t.e t.cs dp x/\(dp=t.d\/t.cs.plain=true)
def By{e:Nat}{h:ar}{deep:Bool}{l:L}{x:List h.T}{t:S}(a:eB (A:=real) e h deep l s=some (x,t)):
  (t=s/\x=[]/\∃i c,l=.eI i c)\/∃id g r d,l=.ref id g r []/\g=(s.ob id).g/\(s.ob id).o=.arr e h d x/\t=s.bq id true .gone/\(d=deep\/h.plain=true):=by
 cases l with
 |eI i c=>
  simp only[eB]at a;split at a
  .rename_i n;have:=Ty.eq_of_beq n;injection this with j k
   subst j;subst k;injection a with a
   injection a with f m
   exact .inl ⟨m.symm,f.symm,_,_,rfl⟩
  .cases a
 |ref id g r p=>
  cases p with
  |cons _ _=>cases a
  |nil=>
   simp only[eB]at a;cases o:Nat.beq (s.ob id).g g with
   |false=>rw[o]at a;cases a
   |true=>
    rw[o]at a;simp only[az]at a;have q:=bn o;cases b:(s.ob id).o with
    |arr i c d y=>
     rw[b]at a;simp only at a;cases hd:(d==deep||c.plain)with
     |false=>rw[hd]at a;cases a
     |true=>
      rw[hd]at a;simp only[az]at a;split at a
      .rename_i n;have:=Ty.eq_of_beq n;injection this with j k
       subst j;subst k;have a:=aG a;injection a with f m
       have f:y=x:=f;subst f;refine .inr ⟨id,g,r,d,rfl,q.symm,b,m.symm,?_⟩;rw[gd,beq_iff_eq]at hd;exact hd
      .cases a
    |bQ _ _ _=>rw[b]at a;cases a
    |blk _=>rw[b]at a;cases a
    |gone=>rw[b]at a;cases a
    |mp _ _=>rw[b]at a;cases a
 |_=>cases a
def mM:∀(ks:List K) (ls:List L) (j:List Value) (b o:Nat) (f n:S),ls.length=j.length->jV ks ls f=some n ->
  (∀t∈bB ks ls j b o,GU f t)/\(∀i,(∀t∈bB ks ls j b o,ef t.l≠some i)->n.ob i=f.ob i) /\
  (∀t∈bB ks ls j b o,∀i,ef t.l=some i->(f.ob i).o≠.gone/\n.ob i=⟨(f.ob i).g,(f.ob i).h+1,(f.ob i).n,.gone⟩) /\
  (bB ks ls j b o).Pairwise (λt t'=>∀i,ef t.l=some i->ef t'.l≠some i)/\n.sl=f.sl
 |[],[],j,b,o,f,n,_,h=>by
  injection h with h
  subst h;exact⟨λt a=>by simp[bB]at a,λi _=>rfl,λt a=>by simp[bB]at a,by simp[bB],rfl⟩
 |[],_::_,_,_,_,_,_,_,h=>by cases h
 |_::_,[],_,_,_,_,_,_,h=>by cases h
 |k::ks,l::ls,[],_,_,_,_,s,_=>by cases s
 |.val t::ks,l::ls,u::j,b,o,f,n,s,h=>mM ks ls j (b+1) o f n (by simpa using s) h
 |.arr e w d::ks,l::ls,u::j,b,o,f,n,s,h=>by
  simp only[jV,kJ]at h;cases G:Nat.ble 1 w.len with
  |false=>rw[G]at h;cases h
  |true=>
   rw[G]at h;simp only[az]at h;cases F:eB (A:=real) e w d l f with
   |none=>rw[F]at h;cases h
   |some q=>
    obtain⟨x,s2⟩:=q;rw[F]at h;simp only[cj]at h;obtain⟨M,D,E,N,O⟩:=mM ks ls j (b+1) (o+1) s2 n (by simpa using s) h;have p:1<=w.len:=dS G;rcases By F with ⟨C,J,V,z,y⟩|⟨id,g,P,U,C,J,y,X,Y⟩
    .subst C;subst y;refine⟨λt a=>?_,λi c=>?_,λt a i c=>?_,?_,O⟩
     .simp only[bB,cL]at a;rcases a with rfl|a
      .exact⟨p,.inl ⟨V,z,rfl,rfl⟩⟩
      .exact M t a
     .exact D i λt a=>c t (by simp only[bB,cL];exact .inr a)
     .simp only[bB,cL]at a;rcases a with rfl|a
      .cases c
      .exact E t a i c
     .simp only[bB];exact List.Pairwise.cons (λt a i c=>by cases c) N
    .subst C;subst X;have m:∀t∈bB ks ls j (b+1) (o+1),ef t.l≠some id:=by intro t a c;have:=(E t a id c).1;rw[St.ay]at this;exact this rfl
     refine⟨λt a=>?_,λi c=>?_,λt a i c=>?_,?_,O⟩
     .simp only[bB,cL]at a;rcases a with rfl|a
      .exact⟨p,.inr ⟨id,g,P,U,x,rfl,J,y,Y⟩⟩
      .obtain⟨q1,q2⟩:=M t a;refine⟨q1,q2.imp (λq=>q) λq=>?_⟩;obtain⟨v,Z,H,B,x',Q,R,T,r4⟩:=q;have:v≠id:=λe=>m t a (by rw[Q,e];rfl);rw[St.aO _ _ _ this]at R T;exact⟨v,Z,H,B,x',Q,R,T,r4⟩
     .have r:i≠id:=λW=>c ⟨e,w,d,.ref id g P [],u,b,o⟩ (by simp[bB]) (by rw[W];rfl);rw[D i λt a=>c t (by simp only[bB,cL];exact .inr a),St.aO _ _ _ r]
     .simp only[bB,cL]at a;rcases a with rfl|a
      .have I:id=i:=by injection c
       subst I;rw[D id m,St.ay];exact⟨by rw[y];exact λe=>(by cases e),rfl⟩
      .have r:i≠id:=λe=>m t a (by rw[c,e]);have:=E t a i c;rw[St.aO _ _ _ r]at this;exact this
     .simp only[bB];exact List.Pairwise.cons (λt a i c=>(by injection c with c;subst c;exact m t a)) N
def xY{w':World}{cu:aq}:∀(ks:List K) (ls:List L) (j:List Value) (n:List (KV real)) (b o:Nat) (a q:S),ls.length=j.length->ks.length=ls.length->jf ks ls n a=some q->n.map (·.1)=ks.filter K.iR->fp w' cu o n (pick ks j) ->
  (bB ks ls j b o).Pairwise (λt T=>∀i,ef t.l=some i->ef T.l≠some i) ->
  (∀i,(∀t∈bB ks ls j b o,ef t.l≠some i)->q.ob i=a.ob i)/\q.sl=a.sl /\
  ∀t∈bB ks ls j b o,∃y:List t.cs.T,(Ty.sl t.e t.cs).R w' cu (aI (bif t.d then 2 else 1) t.out []) t.u y/\∀i,ef t.l=some i->q.ob i=⟨(a.ob i).g,(a.ob i).h+1,(a.ob i).n,.arr t.e t.cs t.d y⟩:=by
 intro ks;induction ks with
 |nil=>
  intro ls j n b o a q A v h _ _ _;have M:ls=[]:=e9.1 v.symm;subst M;cases n with
  |nil=>injection h with h;subst h;exact⟨λ_ _=>rfl,rfl,λt r=>by simp[bB]at r⟩
  |cons _ _=>cases h
 |cons k ks H=>
  intro ls j n b o a q A v h c w s;match ls,j,A,v,h,w,s with
  |l::ls,u::j,A,v,h,w,s=>
   have C:ls.length=j.length:=by simpa using A
   have B:ks.length=ls.length:=by simpa using v
   cases k with
   |val t=>exact H ls j n (b+1) o a q C B h c w s
   |mp _=>cases l <;> cases n <;> cases h
   |arr e z d=>
    match n,c,w,h with
    |[],c,_,_=>simp[K.iR]at c
    |⟨Y,x⟩::n,c,w,h=>
     simp only[fm,List.filter_cons,K.iR,if_true,sQ]at c;obtain⟨D,c⟩:=c;subst D;have E:(Ty.sl e z).R w' cu (aI (bif d then 2 else 1) o []) u x:=w.1;have F:fp w' cu (o+1) n (pick ks j):=w.2;simp only[bB]at s;rw[vJ]at s;have rest:∀m,jf ks ls n m=some q->(∀i,ef l≠some i->m.ob i=a.ob i)->m.sl=a.sl->(∀i,ef l=some i->m.ob i=⟨(a.ob i).g,(a.ob i).h+1,(a.ob i).n,.arr e z d x⟩) ->
       (∀i,(∀t∈bB (.arr e z d::ks) (l::ls) (u::j) b o,ef t.l≠some i)->q.ob i=a.ob i)/\q.sl=a.sl /\
       ∀t∈bB (.arr e z d::ks) (l::ls) (u::j) b o,∃y:List t.cs.T,(Ty.sl t.e t.cs).R w' cu (aI (bif t.d then 2 else 1) t.out []) t.u y/\∀i,ef t.l=some i->q.ob i=⟨(a.ob i).g,(a.ob i).h+1,(a.ob i).n,.arr t.e t.cs t.d y⟩:=by
      intro m P G N O;obtain⟨I,Q,R⟩:=H ls j n (b+1) (o+1) m q C B P c F s.2;refine⟨λi f=>?_,Q.trans N,λt r=>?_⟩
      .rw[I i λt r=>f t (by simp only[bB,cL];exact .inr r)];exact G i (f ⟨e,z,d,l,u,b,o⟩ (by simp[bB]))
      .simp only[bB,cL]at r;rcases r with rfl|r
       .refine⟨x,E,λi f=>?_⟩;rw[I i λt r=>s.1 t r i f,O i f]
       .obtain⟨y,U,V⟩:=R t r;refine⟨y,U,λi f=>?_⟩;rw[V i f,G i λe=>s.1 t r i e f]
     cases l with
     |eI W J=>exact rest a h (λ_ _=>rfl) rfl (λi f=>by cases f)
     |ref id g X p=>
      cases p with
      |nil=>
       refine rest (a.bq id true (.arr e z d x)) h (λi f=>St.aO _ _ _ λe=>f (by rw[e];rfl)) rfl (λi f=>?_);injection f with f
       subst f;rw[St.ay];rfl
      |cons _ _=>cases h
     |_=>cases h
  |[],_,_,v,_,_,_=>simp at v
  |_::_,[],A,_,_,_,_=>simp at A
end
end Go.R
namespace Go.R
variable {H:Nat->Value}
open Classical
section
variable {R:Type}{P:Program}{E:Env}{Ψ:bA->Option hJ}{ω:aq}{a:Act}{w:World}{s:S}{k:S->Option R}{r:R}{o:Oper}{Q:Exit->Act->World->Prop}
def tO {l:World} {m fV:aq} {a:List Sh} {g:List (KV real)} {base B:Nat} {v:Value} (e:a.all Sh.qg=true) (q:g.map (·.1)=(a.map Sh.ks).flatten)
  (k:∀i,bh B (au a) i->∀b p,b<l.heap.size->m b=some (i,p)->fV b=some (base+(i-B),p)) (G:(∀v∈g,v.1.closed=true)\/∀b,b<l.heap.size->m b=none->fV b=none) (r:zU l m B a g v):
  ∃d,fI l fV base a g d/\∀f:S,∀c:List bK,aH (cQ H l fV f) d c->cQ H l fV f v (TV.nk c):=by
 have gen:∀d:List Value,v=.tuple d.toArray->fI l m B a g d->a.length≠1->∃d,fI l fV base a g d/\∀f:S,∀c:List bK,aH (cQ H l fV f) d c->cQ H l fV f v (TV.nk c):=by
  intro d o n A;have x:=oC k a g d B e (aJ _) (aJ _) G n;rw[pg,kE]at x;refine⟨d,x,λf c j=>?_⟩;have w:d.length=a.length:=by
   have:∀(a:List Sh) (g:List (KV real)) (d:List Value) (b:Nat),fI l m b a g d->d.length=a.length:=by
    intro a;induction a with
    |nil=>intro g d b h;rw[h.2];rfl
    |cons y a E=>
     intro g d b h;cases d with
     |nil=>exact h.elim
     |cons u d=>simp[E _ _ _ h.2.2]
   exact this a g d B n
  have s:=j.length;have C:TV.nk c=.ol (c.map TV.comp):=by
   match c,s with
   |[],_=>rfl
   |[t],s=>exfalso;apply A;rw[<-w,s];rfl
   |_::_::_,_=>rfl
  rw[C];refine⟨d,o,?_⟩;have F:∀(d:List Value) (c:List bK),aH (cQ H l fV f) d c->aH (lX l fV f) d (c.map TV.comp):=by
   intro d;induction d with
   |nil=>intro c j;cases c with|nil=>trivial|cons _ _=>exact j.elim
   |cons u d E=>
    intro c j;cases c with
    |nil=>exact j.elim
    |cons t c=>exact⟨Bm j.1,E c j.2⟩
  exact F d c j
 match a,r,gen,e,k,q with
 |[],r,gen,_,_,_=>obtain⟨d,o,n⟩:=r;exact gen d o n (by simp)
 |_::_::_,r,gen,_,_,_=>obtain⟨d,o,n⟩:=r;exact gen d o n (by simp)
 |[y],r,_,e,k,q=>
  obtain⟨o,n⟩:=r;have D:g.length=y.ks.length:=by have:=gi List.length q;simpa using this
  have z:fI l m B [y] g [v]:=⟨o,n,by rw[<-D];simp,rfl⟩
  have x:=oC k [y] g [v] B e (aJ _) (aJ _) G z;rw[pg,kE]at x;refine⟨[v],x,λf c j=>?_⟩;match c,j with
  |[t],j=>exact j.1
  |_::_::_,j=>exact j.2.elim
def xF(w:World)(a:aq)(t:pU)(i:Nat):Prop:=∃b arr n c,t.u=.slice (some ⟨b,0,none⟩) n c/\w.heap[b]? = some (.cells arr t.e (0,0))/\arr.size=c*t.cs.len/\a b=some (i,[])
def jR(w:World)(a:aq)(t:pU)(i:Nat):Prop:=ef t.l=some i/\xF w a t i
noncomputable def aq.gz(w:World)(a:aq)(c:List pU):aq:=λb=>match a b with
 |none=>none
 |some (i,p)=>match c.find? (λt=>decide (jR w a t i))with
  |some t=>some (t.num,p)
  |none=>none
noncomputable def aq.fW(w:World)(a c:aq)(d:List pU)(base B W:Nat):aq:=λb=>match c b with
 |none=>match aq.gz w a d b with
  |none=>a.old base W b
  |some _=>none
 |some (j,p)=>if B<=j/\j<B+W then some (base+(j-B),p)else
  match d.find? (λt=>decide (t.out=j/\∃i,jR w a t i))with
  |some t=>match ef t.l with
   |some i=>if base<=i/\i<base+W then none else some (i,p)
   |none=>none
  |none=>none
def jD{a:List pU}{b:Nat}{k:Key}(h:aq.gz w ω a b=some k):∃t∈a,∃i,jR w ω t i/\k.1=t.num/\ω b=some (i,k.2):=by
 unfold aq.gz at h;split at h
 .cases h
 .rename_i i p e;split at h
  .rename_i t c;injection h with h
   subst h;have d:=je c;exact⟨t,jS c,i,ck d,rfl,e⟩
  .cases h
structure ql (es:List pU):Prop where
 ids:es.Pairwise λt t'=>∀i,ef t.l=some i->ef t'.l≠some i
 nums:es.Pairwise λt t'=>t.num<t'.num/\t.out<t'.out
def ql.id{b:List pU}(h:ql b){t a:pU}{i:Nat}(g:t∈b)(c:a∈b)(d:ef t.l=some i)(f:ef a.l=some i):t=a:=by
 rcases dK h.ids t g a c with e|e|e
 .exact e
 .exact absurd f (e i d)
 .exact absurd d (e i f)
def ql.num{b:List pU}(h:ql b){t a:pU}(d:t∈b)(c:a∈b)(f:t.num=a.num):t=a:=by
 rcases dK h.nums t d a c with e|e|e
 .exact e
 .have:=e.1;omega
 .have:=e.1;omega
def ql.out{b:List pU}(h:ql b){t a:pU}(d:t∈b)(c:a∈b)(f:t.out=a.out):t=a:=by
 rcases dK h.nums t d a c with e|e|e
 .exact e
 .have:=e.2;omega
 .have:=e.2;omega
def oO{a:List pU}(hd:ql a){t:pU}(e:t∈a){i b:Nat}{p:List (Nat×Nat)}(d:jR w ω t i)(j:ω b=some (i,p)):aq.gz w ω a b=some (t.num,p):=by
 unfold aq.gz;rw[j];simp only;cases c:a.find? (λt=>decide (jR w ω t i))with
 |none=>have:=pX.1 c t e;exact absurd (iO d) this
 |some k=>have f:=je c;have g:=ck f;have h:=jS c;rw[hd.id e h d.1 g.1]
def Cb{c:List pU}(hd:ql c)(m:∀b a k,ω b=some k->ω a=some k->b=a)(b a:Nat)(k:Key)(j:aq.gz w ω c b=some k)(l:aq.gz w ω c a=some k):b=a:=by
 obtain⟨t,o,i,p,q,r⟩:=jD j;obtain⟨s,e,n,f,g,h⟩:=jD l;have:=hd.num o e (q.symm.trans g);subst this;have d:i=n:=by have:=p.1;rw[f.1]at this;injection this with this;exact this.symm
 subst d;exact m b a _ r h
def B9{a:List pU}(hd:∀b k,ω b=some k->b<w.heap.size)(b:Nat)(k:Key)(h:aq.gz w ω a b=some k):b<w.heap.size:=by obtain⟨_,_,_,_,_,c⟩:=jD h;exact hd b _ c
def Ca{a:List pU}{c:S}(d:∀t∈a,∀i,ef t.l=some i->(c.ob i).o=.gone):Hid ω c (aq.gz w ω a):=by
 intro b;cases h:aq.gz w ω a b with
 |none=>exact .inl rfl
 |some k=>obtain⟨t,e,i,f,j,g⟩:=jD h;exact .inr ⟨i,k.2,g,d t e i f.1⟩
def FM(d:Bool)(i:Nat):aI (bif d then 2 else 1) i []=.flat (i,[])\/aI (bif d then 2 else 1) i []=.deep (i,[]):=by
 cases d
 .exact .inl rfl
 .exact .inr rfl
def Ba{w:World}{f:aq}{d:Bool}{i e m n c:Nat}{a:Option Addr}(h:Hd w f e m (aI (bif d then 2 else 1) i []) a n c):(c=0/\n=0)\/∃b arr,a=some ⟨b,0,none⟩/\w.heap[b]? = some (.cells arr e (0,0))/\arr.size=c*m/\f b=some (i,[]):=by cases d <;> exact h
def Dj {W:World} {l:aq} {z:S} {t:pU} {id g hh:Nat} {Z:Bool} {x x':List t.cs.T} (h:Rel H ω a w s) (hW:t.l=.ref id g hh []) (hg:g=(s.ob id).g) (ho:(s.ob id).o=.arr t.e t.cs Z x) (Ee:1<=t.cs.len) (C:Z=t.d\/t.cs.plain=true)
  (hR:bU w ω s t.u t.l) (m:(z.ob id).g=(s.ob id).g) (IT:(s.ob id).h<(z.ob id).h) (B:(z.ob id).o=.arr t.e t.cs t.d x') (hx:(Ty.sl t.e t.cs).R W l (aI (bif t.d then 2 else 1) id []) t.u x')
  (hno:¬xF w ω t id->w.heap.size<=W.heap.size/\∀b p,ω b=some (id,p)->W.heap[b]? = w.heap[b]? /\ l b=ω b):Tr w ω s W l z id:=by
 have hc0:s.cont id g hh []=some ⟨t.e,t.cs,x,bif Z then 2 else 1⟩:=bW ho hg;have hu:(Ty.sl t.e t.cs).R w ω (aI (bif t.d then 2 else 1) id []) t.u x:=by rw[hW]at hR;exact eU C (hR.2.2 _ hc0)
 have key:∀v,(Ty.sl t.e t.cs).R w ω (aI (bif t.d then 2 else 1) id []) v x->(Ty.sl t.e t.cs).R W l (aI (bif t.d then 2 else 1) id []) v x':=by
  intro v hv;obtain⟨ad,n,c,L,U,e3,e4,e5⟩:=hv;obtain⟨K,n',c',u,f2,f3,f4,f5⟩:=hu;obtain⟨X,IB,Y,g1,g2,g3,g4,g5⟩:=hx;have hn:n'=n:=by rw[<-f2,<-U]
  have O:X=K/\IB=n'/\Y=c':=by rw[u]at g1;injection g1 with J r T;exact⟨J.symm,r.symm,T.symm⟩
  obtain⟨s1,s2,IF⟩:=O;subst s1;subst s2;subst IF;rcases Ba e4 with ⟨V,R⟩|⟨b,arr,V,R,q3,q4⟩
  .subst V;subst R;have Q:x'=[]:=by
    have:x'.length=0:=by rw[g2,hn]
    exact e9.1 this
   subst Q;subst L;exact nD
  .by_cases G:xF w ω t id
   .obtain⟨b',F,n0,c0,D,E,k3,k4⟩:=G;have Ga:b=b':=h.inj _ _ _ q4 k4;subst Ga;rw[R]at E;injection E with E
    injection E with E
    subst E;rw[u]at D;injection D with J r T
    subst J;subst r;subst T;have HK:c=Y:=Nat.eq_of_mul_eq_mul_right Ee (q3.symm.trans k3);subst HK;subst V;have hv:v=t.u:=by rw[L,u,hn]
    rw[hv];exact⟨_,_,_,u,g2,g3,g4,g5⟩
   ·-- it has no block of its own: it is empty
    rcases Ba f4 with ⟨J,r⟩|⟨b',F,J,r,T,z4⟩
    .have Dw:n=0:=by rw[<-hn];exact r
     have Q:x'=[]:=by
      have:x'.length=0:=by rw[g2];exact r
      exact e9.1 this
     subst Q;obtain⟨hsz,N⟩:=hno G;obtain⟨m1,m2⟩:=N b [] q4;refine⟨ad,n,c,L,by rw[Dw];rfl,e3,?_,λi A hi _=>absurd hi (by omega)⟩;have:(c=0/\n=0)\/∃b arr,ad=some ⟨b,0,none⟩/\W.heap[b]? = some (.cells arr t.e (0,0))/\arr.size=c*t.cs.len/\l b=some (id,[]):=.inr ⟨b,arr,V,m1.trans R,q3,m2.trans q4⟩;cases t.d <;> exact this
    .exact absurd ⟨b',F,_,_,by rw[u,J],r,T,z4⟩ G
 have y:∀f j p c,f<=(s.ob id).g->j<=(s.ob id).h+(if f=(s.ob id).g then 0 else j)->z.cont id f j p=some c->p=[]/\f=(s.ob id).g/\c=⟨t.e,t.cs,x',bif t.d then 2 else 1⟩:=by
  intro f j p c hg0 M d;have o:f=(s.ob id).g:=by
   unfold St.cont at d;cases G:Nat.beq (z.ob id).g f with
   |false=>rw[G]at d;cases d
   |true=>rw[<-m];exact(bn G).symm
  cases p with
  |nil=>
   rw[bW B (o.trans m.symm)]at d;injection d with d
   exact⟨rfl,o,d.symm⟩
  |cons st p=>
   exfalso;rw[cz o]at M;have hne:Nat.beq (z.ob id).h j=false:=by rw[vh];intro e;have:=bn e;omega
   unfold St.cont fU.cont at d;rw[B]at d;simp only[hne,Bool.and_false,aW]at d;cases G:Nat.beq (z.ob id).g f <;> rw[G]at d <;> cases d
 have I:∀f j,j<=(s.ob id).h+(if f=(s.ob id).g then 0 else j)->j<=(z.ob id).h+(if f=(z.ob id).g then 0 else j):=by
  intro f j M;rw[m];split at M <;> rename_i d
  .rw[cz d];omega
  .rw[bc d];omega
 exact
 {ref:=λv f j p q=>by
   refine⟨by rw[m];exact q.1,I _ _ q.2.1,λc d=>?_⟩;obtain⟨rfl,o,rfl⟩:=y f j p c q.1 q.2.1 d;have hv:=q.2.2 _ (bW (h:=j) ho o);exact key v (eU C hv)
  ptr:=λv f off q=>⟨by rw[m];exact q.1,λ_ cells d=>by rw[B]at d;cases d⟩
  cD:=λv f q=>q.shut m λk x e=>by rw[B]at e;cases e
  bH:=λv f j p i off q=>by
   refine⟨by rw[m];exact q.1,I _ _ q.2.1,λc d hm=>?_⟩;obtain⟨rfl,o,rfl⟩:=y f j p c q.1 q.2.1 d;have H7:(bif Z then 2 else 1)≠0:=ku Z;obtain⟨r1,r2,⟨b,r3,r4⟩,v',r5⟩:=q.2.2 _ (bW (h:=j) ho o) H7;have P:=key v' (eU C r5);have hlen:x'.length=x.length:=by
    obtain⟨ad,n,c,L,U,_⟩:=r5;obtain⟨K,n',c',u,f2,_⟩:=P;rw[L]at u;injection u with _ r _
    rw[f2,U,r]
   refine⟨r1,by show IV.i i<(x'.length:Int);rw[hlen];exact r2,⟨b,?_,r4⟩,v',P⟩;have hpos:0<x.length:=by have h1:(0:Int)<=IV.i i:=r1;have h2:IV.i i<(x.length:Int):=r2;omega
   obtain⟨ad,n,c,L,U,e3,e4,e5⟩:=eU C r5;obtain⟨K,n',c',u,f2,f3,f4,f5⟩:=P;rw[L]at u;injection u with J r T
   subst J;subst r;subst T;rcases Ba e4 with ⟨_,R⟩|⟨b1,eB,V,R,q3,q4⟩
   .rw[R]at U;omega
   .rcases Ba f4 with ⟨_,E⟩|⟨b2,FZ,D,E,k3,k4⟩
    .rw[E]at U;omega
    .rw[V]at D;injection D with D
     injection D with D
     subst D;have:b=b1:=h.inj _ _ _ r3 q4;subst this;exact k4 }
structure xE (H:Nat->Value) (ω:aq) (w:World) (s:S) (cu:aq) (w':World) (s':S) (base W:Nat) (L:Nat->Prop) (v:Value) (t:bK):Prop where
 ext:cH ω w cu w'
 tr:∀i,Tr w ω s w' cu s' i
 sl:s'.sl=s.sl
 kept:∀i,¬bh base W i -> ¬L i->s'.ob i=s.ob i/\∀b p,ω b=some (i,p)->w'.heap[b]? = w.heap[b]? /\ cu b=some (i,p)
 Fi:∀i,bh base W i->(s.ob i).g<(s'.ob i).g
 gz:∀i,L i->(s.ob i).o≠.gone/\(¬bh base W i->∀cells,(s'.ob i).o≠.blk cells)
 res:∀s'':S,(∀i,bh base W i->s''.ob i=s'.ob i)->cQ H w' cu s'' v t /\
  ∀i cells,bh base W i->(s''.ob i).o=.blk cells->∃c arr T,cu c=some (i,[])/\w'.heap[c]? = some (.cells arr T (0,0))/\aH (bU w' cu s'') arr.toList cells
def xJ (h:Rel H ω a w s) {o:List pU} {s1 U:S} (hd:ql o) (hW:∀t∈o,GU s t) (hR:∀t∈o,bU w ω s t.u t.l) (hcl:∀t∈o,(t.cs.plain||t.d)=true)
  (l2:∀i,(∀t∈o,ef t.l≠some i)->s1.ob i=s.ob i) (l3:∀t∈o,∀i,ef t.l=some i->(s.ob i).o≠.gone/\s1.ob i=⟨(s.ob i).g,(s.ob i).h+1,(s.ob i).n,.gone⟩) (l5:s1.sl=s.sl)
  {L:World} {m:aq} (b1:∀i,(∀t∈o,ef t.l≠some i)->U.ob i=s1.ob i) (b2:U.sl=s1.sl)
  (b3:∀t∈o,∃Q:List t.cs.T,(Ty.sl t.e t.cs).R L m (aI (bif t.d then 2 else 1) t.out []) t.u Q/\∀i,ef t.l=some i->U.ob i=⟨(s1.ob i).g,(s1.ob i).h+1,(s1.ob i).n,.arr t.e t.cs t.d Q⟩)
  {d:List Sh} {X:List (KV real)} {base B:Nat} (hbase:0<base) (hB:0<B) (Fa:d.all Sh.flat=true) (hks:X.map (·.1)=(d.map Sh.ks).flatten) (hrc:(d.all λsh=>sh.ks.all K.closed)=true)
  (hout:∀t∈o,B+au d<=t.out) (z:cH (aq.gz w ω o) w m L) (hinj:∀b R k,m b=some k->m R=some k->b=R) (Z:∀b k,m b=some k->b<L.heap.size) {v:Value} (hr:zU L m B d X v):
  ∃fV,Rel H fV a L (aV base d X U).2/\xE H ω w s fV L (aV base d X U).2 base (au d) (λi=>∃t∈o,ef t.l=some i) v (TV.nk (aV base d X U).1):=by
 have O:∀b,b<w.heap.size->aq.gz w ω o b=none->L.heap[b]? = w.heap[b]? /\ aq.fW w ω m o base B (au d) b=ω.old base (au d) b:=by intro b r hn;obtain⟨F,C⟩:=z.block b r (.inl hn);refine⟨F,?_⟩;unfold aq.fW;rw[C,hn]
 have Gl:∀b i p,ω b=some (i,p)->(∀t∈o,¬jR w ω t i)->aq.gz w ω o b=none:=by
  intro b i p r u;cases hl:aq.gz w ω o b with
  |none=>rfl
  |some k=>
   obtain⟨t,t1,i',t2,_,t4⟩:=jD hl;rw[r]at t4;injection t4 with t4
   injection t4 with t4 _
   subst t4;exact absurd t2 (u t t1)
 have A:∀b i p,ω b=some (i,p) -> ¬bh base (au d) i->(∀t∈o,¬jR w ω t i)->L.heap[b]? = w.heap[b]? /\ aq.fW w ω m o base B (au d) b=some (i,p):=by intro b i p r hn u;obtain⟨F,C⟩:=O b (h.dom b _ r) (Gl b i p r u);exact⟨F,C.trans (Cr r hn)⟩
 have h0:∀t∈o,∀i,ef t.l=some i->i≠0:=by intro t f i y e;subst e;exact(l3 t f 0 y).1 h.dJ
 have hE:cH ω w (aq.fW w ω m o base B (au d)) L:=by
  refine⟨z.os,z.tape,z.output,z.size,λb r M=>?_⟩;rcases M with M|⟨q,M⟩
  .have hn:aq.gz w ω o b=none:=by unfold aq.gz;rw[M]
   obtain⟨F,C⟩:=O b r hn;exact⟨F,by rw[C,M];exact Cs M⟩
  .have:=A b 0 q M (by unfold bh;omega) (λt f J=>h0 t f 0 J.1 rfl);exact⟨this.1,this.2.trans M.symm⟩
 have hown:∀i,bh B (au d) i->∀b p,b<L.heap.size->m b=some (i,p)->aq.fW w ω m o base B (au d) b=some (base+(i-B),p):=by intro i y b p _ r;unfold aq.fW;rw[r];simp only;unfold bh at y;rw[cz y]
 have G:∀b k,aq.fW w ω m o base B (au d) b=some k->(ω b=some k /\ ¬bh base (au d) k.1/\aq.gz w ω o b=none)\/(∃j,bh B (au d) j/\k.1=base+(j-B)/\m b=some (j,k.2))\/∃t∈o,jR w ω t k.1 /\ ¬bh base (au d) k.1/\m b=some (t.out,k.2):=by
  intro b k r;unfold aq.fW at r;split at r
  .split at r
   .rename_i hl;obtain⟨F,C⟩:=Ct r;exact .inl ⟨F,C,hl⟩
   .cases r
  .rename_i j p hj;split at r
   .rename_i hr';injection r with r
    subst r;exact .inr (.inl ⟨j,hr',rfl,hj⟩)
   .split at r
    .rename_i t f;have q0:=je f;have F:=ck q0;obtain⟨F,i,C⟩:=F;have q3:=jS f;rw[C.1]at r;simp only at r;split at r
     .cases r
     .rename_i V;injection r with r
      subst r;exact .inr (.inr ⟨t,q3,C,V,by rw[hj,F]⟩)
    .cases r
 have P:∀t∈o,∀i,jR w ω t i -> ¬bh base (au d) i->∀b p,b<L.heap.size->m b=some (t.out,p)->aq.fW w ω m o base B (au d) b=some (i,p):=by
  intro t f i J V b p _ r;unfold aq.fW;rw[r];simp only;have:=hout t f;rw[bc (by omega)];cases M:o.find? (λt'=>decide (t'.out=t.out/\∃i,jR w ω t' i))with
  |none=>have:=pX.1 M t f;exact absurd (iO ⟨rfl,i,J⟩) this
  |some t'=>have q0:=je M;have F:=ck q0;have C:=jS M;have e:=hd.out C f F.1;subst e;simp only;rw[J.1];simp only;unfold bh at V;rw[bc V]
 have Im:∀v∈X,v.1.closed=true:=by
  intro v hv;have hm:v.1∈(d.map Sh.ks).flatten:=by rw[<-hks];exact eJ.2 ⟨v,hv,rfl⟩
  obtain⟨l,h1,h2⟩:=xQ.1 hm;obtain⟨sh,h3,rfl⟩:=eJ.1 h1;exact ed.1 (ed.1 hrc sh h3) _ h2
 obtain⟨us,ET,hv⟩:=tO (fV:=aq.fW w ω m o base B (au d)) (BP Fa) hks hown (.inl Im) hr;obtain⟨y1,y2,y3,y4⟩:=lQ d X us base U ET;obtain⟨m1,m2⟩:=y4 _ (λ_ _=>rfl);have Fc:∀i,(U.ob i).g=(s.ob i).g:=by
  intro i;by_cases E:∃t∈o,ef t.l=some i
  .obtain⟨t,f,y⟩:=E;obtain⟨Q,_,C⟩:=b3 t f;rw[C i y,(l3 t f i y).2]
  .have u:∀t∈o,ef t.l≠some i:=λt f y=>E ⟨t,f,y⟩;rw[b1 i u,l2 i u]
 have tr:∀i,Tr w ω s L (aq.fW w ω m o base B (au d)) (aV base d X U).2 i:=λi=>by
  by_cases e:bh base (au d) i
  .exact dj.tr (by unfold dj;rw[<-Fc i];exact y2 i e)
  .by_cases E:∃t∈o,ef t.l=some i
   .obtain⟨t,f,y⟩:=E;obtain⟨Q,F,C⟩:=b3 t f;obtain⟨Ee,Gz⟩:=hW t f;rcases Gz with ⟨e',cs',z1,z2⟩|⟨id,g,hh,dp,x,z1,z2,z3,z4⟩
    .rw[y]at z2;cases z2
    .have hid:id=i:=by rw[z1]at y;injection y
     subst hid;have GI:(aV base d X U).2.ob id=⟨(s.ob id).g,(s.ob id).h+1+1,(s.ob id).n,.arr t.e t.cs t.d Q⟩:=by rw[y1 id e,C id y,(l3 t f id y).2]
     have hread:(Ty.sl t.e t.cs).R L (aq.fW w ω m o base B (au d)) (aI (bif t.d then 2 else 1) id []) t.u Q:=by
      have W:=hcl t f;by_cases J:jR w ω t id
      .exact vD (v:=⟨.arr t.e t.cs t.d,Q⟩) (P t f id J e) (.inl W) F
      ·-- no block of its own: nothing is in it
       have hu:(Ty.sl t.e t.cs).R w ω (aI (bif dp then 2 else 1) id []) t.u x:=by have:=hR t f;rw[z1]at this;exact this.2.2 _ (bW z3 z2)
       obtain⟨ad,n,c,I,Y,f3,f4,f5⟩:=hu;rcases Ba f4 with ⟨k1,k2⟩|⟨R,kM,k1,k2,k3,k4⟩
       .subst k1;subst k2;obtain⟨FY,n',c',g1,g2,_⟩:=F;rw[I]at g1;injection g1 with w1 w2 w3
        have hx0:Q=[]:=by
         have:Q.length=0:=by rw[g2,<-w2]
         exact e9.1 this
        subst hx0;rw[I];exact nD
       .exact absurd ⟨y,R,kM,n,c,by rw[I,k1],k2,k3,k4⟩ J
     refine Dj (t:=t) h z1 z2 z3 Ee z4 (hR t f) (by rw[GI]) (by rw[GI];exact xU (fK _)) (by rw[GI]) hread (λhnb=>⟨z.size,λb p r=>?_⟩);have:=A b id p r e (λt' ht' G2=>by have:=hd.id ht' f G2.1 y;subst this;exact hnb G2.2);exact⟨this.1,this.2.trans r.symm⟩
   .have u:∀t∈o,ef t.l≠some i:=λt f y=>E ⟨t,f,y⟩;refine gx.tr ⟨by rw[y1 i e,b1 i u,l2 i u],λb kk r hk hj=>?_⟩ hE h.dom;obtain⟨i',p⟩:=kk;have:i'=i:=hj;subst this;have:=A b i' p hk e (λt f J=>u t f J.1);exact⟨this.1,this.2.trans hk.symm⟩
 refine⟨_,?_,⟨hE,tr,y3.trans (b2.trans l5),λi y hL=>?_,λi y=>by rw[<-Fc i];exact y2 i y,λi ⟨t,f,y⟩=>⟨(l3 t f i y).1,λhin cells D=>?_⟩,λs'' hs=>?_⟩⟩
 rotate_left
 .have u:∀t∈o,ef t.l≠some i:=λt f hi'=>hL ⟨t,f,hi'⟩;refine⟨by rw[y1 i y,b1 i u,l2 i u],λb p r=>A b i p r y λt f J=>u t f J.1⟩
 .obtain⟨Q,_,C⟩:=b3 t f;rw[y1 i hin,C i y]at D;cases D
 .obtain⟨z1,z2⟩:=y4 s'' hs;exact⟨hv _ _ z1,z2⟩
 exact
 {inj:=λb R k h1 h2=>by
   rcases G b k h1 with ⟨N,e2,e3⟩|⟨j,N,e2,e3⟩|⟨t,N,e2,e3,e4⟩ <;> rcases G R k h2 with ⟨I,Y,f3⟩|⟨j',I,Y,f3⟩|⟨t',I,Y,f3,f4⟩
   .exact h.inj b R k N I
   .exact absurd (by rw[Y];unfold bh at I⊢;omega) e2
   .have:=oO (w:=w) hd I Y (b:=b) (p:=k.2) N;rw[e3]at this;cases this
   .exact absurd (by rw[e2];unfold bh at N⊢;omega) Y
   .have:j=j':=by unfold bh at N I;omega
    subst this;exact hinj b R _ e3 f3
   .exact absurd (by rw[e2];unfold bh at N⊢;omega) f3
   .have:=oO (w:=w) hd N e2 (b:=R) (p:=k.2) I;rw[f3]at this;cases this
   .exact absurd (by rw[Y];unfold bh at I⊢;omega) e3
   .have:=hd.id N I e2.1 Y.1;subst this;exact hinj b R _ e4 f4
  dom:=λb k h1=>by
   rcases G b k h1 with ⟨N,_⟩|⟨j,_,_,e3⟩|⟨t,_,_,_,e4⟩
   .exact gf (h.dom b k N) z.size
   .exact Z b _ e3
   .exact Z b _ e4
  defers:=h.defers
  dH:=h.dH.ext hE
  dJ:=by rw[y1 0 (by unfold bh;omega),b1 0 (λt f y=>h0 t f 0 y rfl),l2 0 (λt f y=>h0 t f 0 y rfl)];exact h.dJ
  slots:=λi=>by rw[y3,b2,l5];exact cQ.frame hE tr (h.slots i)
  c7:=λi cells D=>by
   by_cases e:bh base (au d) i
   .exact m2 i cells e D
   .rw[y1 i e]at D;by_cases E:∃t∈o,ef t.l=some i
    .obtain⟨t,f,y⟩:=E;obtain⟨Q,_,C⟩:=b3 t f;rw[C i y]at D;cases D
    .have u:∀t∈o,ef t.l≠some i:=λt f y=>E ⟨t,f,y⟩;rw[b1 i u,l2 i u]at D;obtain⟨b,arr,T,g1,g2,g3⟩:=h.c7 i cells D;have:=A b i [] g1 e (λt f J=>u t f J.1);exact⟨b,arr,T,this.2,this.1.trans g2,g3.mono λ_ _ hl=>bU.frame hE tr hl⟩ }
def nM(h:Rel H ω a w s){q:List pU}(hd:ql q):∀(ks:List K) (ls:List L) (f:List Value) (b o:Nat),aH (bU w ω s) f ls->(∀t∈bB ks ls f b o,t∈q)->kD w ω s (aq.gz w ω q) b ks ls f
 |[],_,_,_,_,_,_=>trivial
 |_::_,[],_,_,_,_,_=>trivial
 |_::_,_::_,[],_,_,j,_=>j.elim
 |.val t::ks,l::ls,u::f,b,o,j,k=>⟨trivial,nM h hd ks ls f (b+1) o j.2 k⟩
 |.mp _::ks,l::ls,u::f,b,o,j,k=>⟨trivial,nM h hd ks ls f (b+1) o j.2 k⟩
 |.arr e C d::ks,l::ls,u::f,b,o,j,k=>by
  refine⟨λx s2 P=>?_,nM h hd ks ls f (b+1) (o+1) j.2 λt y=>k t (by simp only[bB,cL];exact .inr y)⟩;have y:(⟨e,C,d,l,u,b,o⟩:pU)∈q:=k _ (by simp[bB]);rcases zf h j.1 P with ⟨_,rfl,G,rfl⟩|⟨id,g,Z,T,I,U,V,W,J,M⟩
  .exact nD
  .have F:=eU M J;by_cases E:jR w ω ⟨e,C,d,l,u,b,o⟩ id
   .refine xG (i:=id) ⟨λr v R=>?_,λr p v Q=>oO hd y E Q⟩ F;unfold aq.gz;rw[R]
   .obtain⟨G,n,c,D,N,X,O,Y⟩:=F;rcases Ba O with ⟨A,B⟩|⟨r,m,A,B,k3,S⟩
    .subst A;subst B;have z:x=[]:=e9.1 N;subst z;rw[D];exact nD
    .exact absurd ⟨by rw[I];rfl,r,m,n,c,by rw[D,A],B,k3,S⟩ E
def uG:∀(ks:List K) (ls:List L) (c:List Value) (b o:Nat),∀t∈bB ks ls c b o,K.arr t.e t.cs t.d∈ks
 |[],_,_,_,_,t,a=>by simp[bB]at a
 |.arr .. :: _,[],_,_,_,t,a=>by simp[bB]at a
 |.val _::_,[],_,_,_,t,a=>by simp[bB]at a
 |.mp _::_,[],_,_,_,t,a=>by simp[bB]at a
 |.arr .. :: _,_::_,[],_,_,t,a=>by simp[bB]at a
 |.val _::_,_::_,[],_,_,t,a=>by simp[bB]at a
 |.mp _::_,_::_,[],_,_,t,a=>by simp[bB]at a
 |.arr e f d::ks,l::ls,u::c,b,o,t,a=>by
  simp only[bB,cL]at a;rcases a with rfl|a
  .exact List.mem_cons_self
  .exact gL _ (uG ks ls c _ _ t a)
 |.val _::ks,l::ls,u::c,b,o,t,a=>gL _ (uG ks ls c _ _ t a)
 |.mp _::ks,l::ls,u::c,b,o,t,a=>gL _ (uG ks ls c _ _ t a)
def tJ:∀(a:List Sh),(a.map Sh.outs).flatten=(dl a).filter K.iR
 |[]=>rfl
 |b::a=>by simp only[dl,fm,lZ,List.filter_append];rw[tJ a];rfl
def Cx{t:Ty}{l:L}{s:S}{q:real.V t×S}(h:bF (A:=real) false t l s=some q):q.2.sl=s.sl:=by
 unfold bF at h;split at h
 .simp only[aW]at h;split at h
  .injection h with h;subst h;rfl
  .cases h
 .simp only[aW]at h;split at h
  .injection h with h;subst h;rfl
  .cases h
 .split at h
  .injection h with h;subst h;rfl
  .cases h
 .split at h
  .injection h with h;subst h;rfl
  .cases h
 .rename_i id g _;cases a:Nat.beq (s.ob id).g g with
  |false=>rw[a]at h;cases h
  |true=>
   rw[a]at h;simp only[az]at h;split at h
   .split at h
    .simp only[aW]at h;injection h with h;subst h;rfl
    .cases h
   .simp only[aW]at h;split at h
    .injection h with h;subst h;rfl
    .cases h
   .cases h
 .cases h
def C8{e:Nat}{b:ar}{deep:Bool}{l:L}{s:S}{q:real.V (.sl e b)×S}(h:eB (A:=real) e b deep l s=some q):q.2.sl=s.sl:=by
 unfold eB at h;split at h
 .split at h
  .injection h with h;subst h;rfl
  .cases h
 .rename_i id g _;cases d:Nat.beq (s.ob id).g g <;> rw[d]at h
  .cases h
  .simp only[az]at h;split at h
   .rename_i f a c x i;cases hd:(c==deep||a.plain) <;> rw[hd]at h
    .cases h
    .simp only[az]at h;split at h
     .injection h with h;subst h;rfl
     .cases h
   .cases h
 .cases h
def Et{k:IntKind}{l:L}{s:S}{q:real.V (.sl 0 (ar.mp k))×S}(h:uM (A:=real) k l s=some q):q.2.sl=s.sl:=by
 unfold uM at h;split at h
 .rename_i id g;cases a:Nat.beq (s.ob id).g g <;> rw[a]at h
  .cases h
  .simp only[az]at h;split at h
   .split at h
    .injection h with h;subst h;rfl
    .cases h
   .cases h
 .cases h
def CK{k:K}{l:L}{s:S}{q:KV real×S}(h:cI k l s=some q):q.2.sl=s.sl:=by
 cases k with
 |val t=>
  simp only[cI]at h;cases a:bF (A:=real) false t l s with
  |none=>rw[a]at h;cases h
  |some p=>rw[a]at h;injection h with h;subst h;exact Cx a
 |arr e b deep=>
  simp only[cI]at h;cases a:eB (A:=real) e b deep l s with
  |none=>rw[a]at h;cases h
  |some p=>rw[a]at h;injection h with h;subst h;exact C8 a
 |mp c=>
  simp only[cI]at h;cases a:uM (A:=real) c l s with
  |none=>rw[a]at h;cases h
  |some p=>rw[a]at h;injection h with h;subst h;exact Et a
def jO:∀ {ks:List K} {ls:List L} {s:S} {q:List (KV real)×S},takes ks ls s=some q->q.2.sl=s.sl
 |[],[],s,q,h=>by injection h with h;subst h;rfl
 |[],_::_,s,q,h=>by cases h
 |_::_,[],s,q,h=>by cases h
 |k::ks,l::ls,s,q,h=>by
  simp only[takes]at h;cases a:cI k l s with
  |none=>rw[a]at h;cases h
  |some p=>
   rw[a]at h;simp only[]at h;cases b:takes ks ls p.2 with
   |none=>rw[b]at h;cases h
   |some c=>rw[b]at h;injection h with h;subst h;exact(jO (q:=c) b).trans (CK a)
def j7{b:ar}{c:cU real}{s:S}{q:List (KV real)×S}(h:bM b c s=some q):q.2.sl=s.sl:=by
 unfold bM at h;split at h
 .split at h
  .cases a:takes b.ks _ s with
   |none=>rw[a]at h;cases h
   |some p=>
    rw[a]at h;simp only[]at h;split at h
    .injection h with h;subst h;exact jO (q:=p) a
    .cases h
  .cases h
 .split at h
  .injection h with h;subst h;rfl
  .cases h
def pP:∀ {a:List ar} {b:List (cU real)} {s:S} {q:List (KV real)×S},bX a b s=some q->q.2.sl=s.sl
 |[],[],s,q,h=>by injection h with h;subst h;rfl
 |[],_::_,s,q,h=>by cases h
 |_::_,[],s,q,h=>by cases h
 |g::d,c::b,s,q,h=>by
  simp only[bX]at h;cases e:bM g c s with
  |none=>rw[e]at h;cases h
  |some p=>
   rw[e]at h;simp only[]at h;cases f:bX d b p.2 with
   |none=>rw[f]at h;cases h
   |some i=>rw[f]at h;injection h with h;subst h;exact(pP (q:=i) f).trans (j7 e)
def AR{c:Cp}{v:cU real}{s:S}{q:List (KV real)×S}(h:eX c v s=some q):q.2.sl=s.sl:=by
 unfold eX at h;split at h
 .exact j7 h
 .split at h
  .split at h
   .rename_i b a;injection h with h;subst h
    exact(jO (q:=b) a).trans rfl
   .cases h
  .cases h
 .cases h
def sj:∀ {a:List Cp} {b:List (cU real)} {s:S} {q:List (KV real)×S},b7 a b s=some q->q.2.sl=s.sl
 |[],[],s,q,h=>by injection h with h;subst h;rfl
 |[],_::_,s,q,h=>by cases h
 |_::_,[],s,q,h=>by cases h
 |g::d,c::b,s,q,h=>by
  simp only[b7]at h;cases e:eX g c s with
  |none=>rw[e]at h;cases h
  |some p=>
   rw[e]at h;simp only[]at h;cases f:b7 d b p.2 with
   |none=>rw[f]at h;cases h
   |some i=>rw[f]at h;injection h with h;subst h;exact(sj (q:=i) f).trans (AR e)
def AU{j:Sh}{v:bK}{s:S}{q:List (KV real)×S}(h:bL j v s=some q):q.2.sl=s.sl:=by
 unfold bL at h;split at h
 .exact j7 h
 .exact j7 h
 .rename_i f b c e;cases a:Nat.beq f c <;> rw[a]at h
  .cases h
  .exact pP h
 .rename_i f b c e;cases a:Nat.beq f c <;> rw[a]at h
  .cases h
  .exact sj h
 .exact jO h
 .exact jO h
 .rename_i ks id g;cases a:dm s id g with
  |none=>rw[a]at h;cases h
  |some ls=>
   rw[a]at h;simp only at h;cases d:takes ks ls (s.bq id true .gone)with
   |none=>rw[d]at h;cases h
   |some i=>
    rw[d]at h;injection h with h;subst h
    exact(jO (q:=i) d).trans rfl
 .cases h
def r7:∀ {a:List Sh} {d:List bK} {s:S} {q:List (KV real)×S},bz a d s=some q->q.2.sl=s.sl
 |[],[],s,q,h=>by injection h with h;subst h;rfl
 |[],_::_,s,q,h=>by cases h
 |_::_,[],s,q,h=>by cases h
 |f::a,v::d,s,q,h=>by
  simp only[bz]at h;cases b:bL f v s with
  |none=>rw[b]at h;cases h
  |some p=>
   rw[b]at h;simp only[]at h;cases c:bz a d p.2 with
   |none=>rw[c]at h;cases h
   |some e=>rw[c]at h;injection h with h;subst h;exact(r7 (q:=e) c).trans (AU b)
structure BE where
 ks:List K
 id:Nat
 u:Value
 out:Nat
def bi:List (List K)->List L->List Value->Nat->List BE
 |ks::a,.ptr id _ _::ls,u::b,o=>⟨ks,id,u,o⟩::bi a ls b (o+(ks.length+1))
 |_,_,_,_=>[]
def qJ:∀(b:List (List K)) (ls:List L) (c:List Value) (o:Nat),(∀e∈bi b ls c o,o<=e.out)/\(bi b ls c o).Pairwise λe f=>e.out+e.ks.length<f.out
 |[],_,_,_=>⟨λt a=>by simp[bi]at a,by simp[bi]⟩
 |_::_,[],_,_=>⟨λt a=>by simp[bi]at a,by simp[bi]⟩
 |ks::b,l::ls,[],o=>by
  have:bi (ks::b) (l::ls) [] o=[]:=by cases l <;> rfl
  rw[this];exact⟨λt a=>by simp at a,by simp⟩
 |ks::b,l::ls,u::c,o=>by
  cases l with
  |ptr id g i=>
   obtain⟨d,h⟩:=qJ b ls c (o+(ks.length+1));simp only[bi];refine⟨λt a=>?_,List.Pairwise.cons (λt a=>?_) h⟩
   .rcases cL.1 a with rfl|a
    .exact aJ _
    .have:=d t a;omega
   .have:=d t a;show o+ks.length<t.out;omega
  |_=>exact⟨λt a=>by simp[bi]at a,by simp[bi]⟩
def sn{ks:List K}{v:bK}{s:S}{q:List (KV real)×S}(h:bL (.blk ks) v s=some q):∃id g ls,v=.one (.ptr id g 0)/\(s.ob id).g=g/\(s.ob id).o=.blk ls/\(q.2.ob id).o=.gone:=by
 have e:∀id g,bL (.blk ks) (.one (.ptr id g 0)) s=some q->∃ls,(s.ob id).g=g/\(s.ob id).o=.blk ls/\(q.2.ob id).o=.gone:=by
  intro id g h;simp only[bL]at h;cases d:dm s id g with
  |none=>rw[d]at h;cases h
  |some ls=>
   rw[d]at h;simp only at h;cases c:takes ks ls (s.bq id true .gone)with
   |none=>rw[c]at h;cases h
   |some j=>
    rw[c]at h;injection h with h
    subst h;obtain⟨a,b⟩:=cM d;exact⟨ls,a,b,(ez c).gone (by rw[St.ay])⟩
 cases v with
 |one l=>
  cases l with
  |ptr id g f=>
   cases f with
   |zero=>obtain⟨ls,a,b,i⟩:=e id g h;exact⟨id,g,ls,rfl,a,b,i⟩
   |succ _=>cases h
  |_=>cases h
 |_=>cases h
def lK(b:Sh)(a:List Sh):eC (b::a)=b.DT++eC a:=by simp[eC]
structure C7 (ω:aq) (s0 s s1:S) (e:BE):Prop where
 was:∃cells,(s0.ob e.id).o=.blk cells
 now:(s.ob e.id).o≠.gone
 is:(s1.ob e.id).o=.gone
 at_:∃b,ω b=some (e.id,[])/\e.u=.pointer (some ⟨b,0,none⟩)
def j8{r J:S}{j:List (List K)}{ls:List L}{D:List Value}:∀(a:List Cp) (k:List (cU real)) (l:List Value) (s:S) (q:List (KV real)×S) (o:Nat),df r s->aH (λv c=>gK w ω r v c) l k->b7 a k s=some q->df q.2 J ->
  (∀o,(∀e∈bi j ls D o,C7 ω r q.2 J e)/\(bi j ls D o).Pairwise λe E=>e.id≠E.id) ->
  (∀e∈bi (CU a++j) (qR a k++ls) (vA a l++D) o,C7 ω r s J e)/\(bi (CU a++j) (qR a k++ls) (vA a l++D) o).Pairwise λe E=>e.id≠E.id
 |[],[],l,s,q,o,A,m,h,C,B=>by
  injection h with h
  subst h;cases l with
  |nil=>exact B o
  |cons _ _=>exact m.elim
 |[],_::_,_,_,_,_,_,_,h,_,_=>by cases h
 |_::_,[],_,_,_,_,_,_,h,_,_=>by cases h
 |_::_,_::_,[],_,_,_,_,m,_,_,_=>m.elim
 |c::a,v::k,u::l,s,q,o,A,m,h,C,B=>by
  simp only[b7]at h;cases t:eX c v s with
  |none=>rw[t]at h;cases h
  |some p=>
   rw[t]at h;simp only[]at h;cases x:b7 a k p.2 with
   |none=>rw[x]at h;cases h
   |some N=>
    rw[x]at h;injection h with h
    subst h;have i:=lG t;cases c with
    |ro U=>obtain⟨f,I⟩:=j8 a k l p.2 N o (A.trans i) m.2 x C B;exact⟨λe d=>⟨(f e d).was,λhg=>(f e d).now (i.gone hg),(f e d).is,(f e d).at_⟩,I⟩
    |mu ks=>
     cases v with
     |ro _ _=>cases t
     |ptr id g=>
      obtain⟨T,V,y,F,O,z,M⟩:=sn (show bL (.blk ks) (.one (.ptr id g 0)) s=some p from t);injection F with F
      injection F with G H _
      subst G;subst H;obtain⟨f,I⟩:=j8 a k l p.2 N (o+(ks.length+1)) (A.trans i) m.2 x C B;simp only[CU,qR,vA,kR,bi];have n:s.ob id=r.ob id:=A.blk z;obtain⟨b,Q,R⟩:=m.1.2 (by rw[<-n];exact O) y (by rw[<-n];exact z);refine⟨λe d=>?_,List.Pairwise.cons (λe d=>?_) I⟩
      .rcases cL.1 d with rfl|d
       .exact⟨⟨y,by show(r.ob id).o=_;rw[<-n];exact z⟩,(by show(s.ob id).o≠_;rw[z];exact λe=>by cases e),C.gone ((j9 x).gone M),⟨b,Q,R⟩⟩
       .exact⟨(f e d).was,λhg=>(f e d).now (i.gone hg),(f e d).is,(f e d).at_⟩
      .intro P;exact(f e d).now (by rw[<-P];exact M)
def iw{A:S}:∀(a:List Sh) (c:List bK) (j:List Value) (s:S) (q:List (KV real)×S) (o:Nat),df A s->aH (cQ H w ω A) j c->bz a c s=some q ->
  (∀e∈bi (eC a) (bV a c) (ek a j) o,C7 ω A s q.2 e)/\(bi (eC a) (bV a c) (ek a j) o).Pairwise λe K=>e.id≠K.id
 |[],_,_,_,_,_,_,_,_=>⟨λt U=>by simp[eC,bi]at U,by simp[eC,bi]⟩
 |_::_,[],j,s,q,o,_,_,h=>by cases h
 |_::_,_::_,[],s,q,o,_,x,_=>x.elim
 |n::a,tv::c,u::j,s,q,o,D,x,h=>by
  simp only[bz]at h;cases C:bL n tv s with
  |none=>rw[C]at h;cases h
  |some p=>
   rw[C]at h;simp only[]at h;cases y:bz a c p.2 with
   |none=>rw[y]at h;cases h
   |some E=>
    rw[y]at h;injection h with h
    subst h;have m:=lH C;have skip:n.DT=[]->n.DU tv=[]->n.C0 u=[]->(∀e∈bi (eC (n::a)) (bV (n::a) (tv::c)) (ek (n::a) (u::j)) o,C7 ω A s E.2 e)/\(bi (eC (n::a)) (bV (n::a) (tv::c)) (ek (n::a) (u::j)) o).Pairwise λe K=>e.id≠K.id:=by intro B v F;rw[lK,B];simp only[bV,ek,v,F,l7];obtain⟨r,M⟩:=iw a c j p.2 E o (D.trans m) x.2 y;exact⟨λe l=>⟨(r e l).was,λhg=>(r e l).now (m.gone hg),(r e l).is,(r e l).at_⟩,M⟩
    cases n with
    |blk ks=>
     obtain⟨id,g,ls,rfl,B,v,F⟩:=sn C;obtain⟨r,M⟩:=iw a c j p.2 E (o+(ks.length+1)) (D.trans m) x.2 y;rw[lK];show(∀e∈bi ([ks]++eC a) ([.ptr id g 0]++bV a c) ([u]++ek a j) o,_)/\(bi ([ks]++eC a) ([.ptr id g 0]++bV a c) ([u]++ek a j) o).Pairwise _;simp only[List.singleton_append,bi];have z:s.ob id=A.ob id:=D.blk v;have T:yZ ω A u id g 0:=x.1;obtain⟨b,O,P⟩:=T.2 (by rw[<-z];exact B) ls (by rw[<-z];exact v);refine⟨λe l=>?_,List.Pairwise.cons (λe l=>?_) M⟩
     .rcases cL.1 l with rfl|l
      .exact⟨⟨ls,by show(A.ob id).o=_;rw[<-z];exact v⟩,(by show(s.ob id).o≠_;rw[v];exact λe=>by cases e),(iy y).gone F,⟨b,O,P⟩⟩
      .exact⟨(r e l).was,λhg=>(r e l).now (m.gone hg),(r e l).is,(r e l).at_⟩
     .intro N;exact(r e l).now (by rw[<-N];exact F)
    |qa f d=>
     have k:=C;unfold bL at k;split at k;case h_4=>
      rename_i V G L I i;injection i with B v
      subst B;subst v;cases R:Nat.beq f L <;> rw[R]at k
      .cases k
      .obtain⟨J,rfl,Q⟩:=x.1;rw[lK];show(∀e∈bi (CU d++eC a) (qR d I++bV a c) (vA d J.toArray.toList++ek a j) o,_)/\(bi (CU d++eC a) (qR d I++bV a c) (vA d J.toArray.toList++ek a j) o).Pairwise _;exact j8 d I J s p o D Q k (iy (q:=E) y) (λo=>iw a c j p.2 E o (D.trans m) x.2 y)
     all_goals first|(rename_i i _;cases i;done)|(rename_i i;cases i;done)|(rename_i i _ _;cases i;done)|cases k
    |one _=>exact skip rfl rfl rfl
    |agg _=>exact skip rfl rfl rfl
    |ro _=>exact skip rfl rfl rfl
    |fn _ _=>exact skip rfl rfl rfl
def zx:∀(a:List (KV real)) (id:Nat) (s:S),(∀i,¬bh id a.length i->(lays id a s).2.ob i=s.ob i)/\(∀i,bh id a.length i->(s.ob i).g<((lays id a s).2.ob i).g/\∀cells,((lays id a s).2.ob i).o≠.blk cells)/\(lays id a s).2.sl=s.sl
 |[],id,s=>⟨λ_ _=>rfl,λi hi=>absurd hi (by unfold bh;simp),rfl⟩
 |v::a,id,s=>by
  obtain⟨d,h,c⟩:=zx a (id+1) (dh id v s).2;have b:((dh id v s).2.ob id).g=(s.ob id).g+1/\(∀cells,((dh id v s).2.ob id).o≠.blk cells)/\(dh id v s).2.sl=s.sl/\∀i,i≠id->(dh id v s).2.ob i=s.ob i:=by
   obtain⟨f,x⟩:=v;cases f with
   |val t=>
    refine⟨?_,?_,rfl,λi hi=>?_⟩
    .simp[dh,St.new,St.aB]
    .intro cells e;simp[dh,St.new,St.aB]at e
    .simp only[dh];unfold St.new;exact St.aU _ _ hi
   |arr e m n=>
    refine⟨?_,?_,rfl,λi hi=>?_⟩
    .simp[dh,St.new,St.aB]
    .intro cells e;simp[dh,St.new,St.aB]at e
    .simp only[dh];unfold St.new;exact St.aU _ _ hi
   |mp f=>
    refine⟨?_,?_,rfl,λi hi=>?_⟩
    .simp[dh,St.new,St.aB]
    .intro cells e;simp[dh,St.new,St.aB]at e
    .simp only[dh];unfold St.new;exact St.aU _ _ hi
  obtain⟨j,k,l,g⟩:=b;simp only[lays];refine⟨λi hi=>?_,λi hi=>?_,c.trans l⟩
  .rw[d i (by unfold bh at hi⊢;simp only[cK]at hi;omega)];exact g i (by unfold bh at hi;simp only[cK]at hi;omega)
  .by_cases e:i=id
   .subst e;rw[d i (by unfold bh;omega),j];exact⟨fK _,k⟩
   .have:=h i (by unfold bh at hi⊢;simp only[cK]at hi;omega);rw[g i e]at this;exact this
structure FU (w':World) (cu:aq) (s s':S) (e:BE):Prop where
 small:e.id<cO/\e.ks.length<=64
 cells:∀i,bh (aR e.id) e.ks.length i->(s.ob i).g<(s'.ob i).g/\∀cells,(s'.ob i).o≠.blk cells
 at_:∃b arr T vals cells,e.u=.pointer (some ⟨b,0,none⟩)/\cu b=some (e.out,[])/\w'.heap[b]? = some (.cells arr T (0,0))/\vals.length=e.ks.length/\fp w' cu (e.out+1) vals arr.toList /\
  s'.ob e.id=⟨(s.ob e.id).g,(s.ob e.id).h+1,(s.ob e.id).n,.blk cells⟩ /\
  ∀(fV:aq) (s'':S),fp w' fV (aR e.id) vals arr.toList->(∀i,bh (aR e.id) e.ks.length i->s''.ob i=s'.ob i)->aH (bU w' fV s'') arr.toList cells
def s8{i j m n:Nat}(a:m<64)(b:n<64)(h:aR i+m=aR j+n):i=j/\m=n:=by unfold aR at h;omega
def dU(i:Nat):cO<=aR i:=by unfold aR;omega
def uj(e:BE):¬bh (aR e.id) e.ks.length 0:=by unfold bh aR cO;omega
def vY{I:World}{t:aq}:∀(a:List (List K)) (ls:List L) (q:List Value) (c:List (KV real)) (o:Nat) (s k:S),fI I t o (a.map .blk) c q->iQ a ls c s=some k->(bi a ls q o).Pairwise (λe F=>e.id≠F.id) ->
  k.sl=s.sl/\(∀i,i<cO->(∀e∈bi a ls q o,e.id≠i)->k.ob i=s.ob i)/\(∀i,cO<=i->(∀e∈bi a ls q o,¬bh (aR e.id) e.ks.length i)->k.ob i=s.ob i)/\∀e∈bi a ls q o,FU I t s k e
 |[],ls,q,c,o,s,k,h,d,_=>by
  cases ls with
  |nil=>
   cases c with
   |nil=>injection d with d;subst d;exact⟨rfl,λ_ _ _=>rfl,λ_ _ _=>rfl,λe f=>by simp[bi]at f⟩
   |cons _ _=>cases d
  |cons _ _=>cases d
 |ks::a,[],q,c,o,s,k,h,d,_=>by cases d
 |ks::a,l::ls,[],c,o,s,k,h,d,_=>h.elim
 |ks::a,l::ls,u::q,c,o,s,k,h,d,C=>by
  cases l with
  |ptr id g R=>
   cases R with
   |succ _=>cases d
   |zero=>
    simp only[iQ]at d;cases N:(Nat.ble (id+1) cO&&(Nat.ble ks.length 64&&Nat.ble ks.length c.length))with
    |false=>rw[N]at d;cases d
    |true=>
     rw[N]at d;simp only[az]at d;rw[aQ,aQ]at N;obtain⟨M,O,X⟩:=N;have M:=dS M;have O:=dS O;have X:=dS X;have y:(c.take ks.length).length=ks.length:=by rw[dB];omega
     simp only[bi]at C;rw[vJ]at C;obtain⟨_,⟨b,arr,T,r1,r2,r3,r4⟩,r5⟩:=h;have V:fI I t (o+(ks.length+1)) (a.map .blk) (c.drop ks.length) q:=r5;have U:fp I t (o+1) (c.take ks.length) arr.toList:=r4;obtain⟨D,l2,l3⟩:=zx (c.take ks.length) (aR id) s;obtain⟨k1,Y,k3,Z⟩:=vY a ls q (c.drop ks.length) (o+(ks.length+1)) _ k V d C.2;rw[y]at D l2;have Q:¬bh (aR id) ks.length id:=by have:=dU id;unfold bh;omega
     have v:∀i,bh (aR id) ks.length i->∀e∈bi a ls q (o+(ks.length+1)),¬bh (aR e.id) e.ks.length i:=by intro i hi e f x;have IU:=(Z e f).small.2;unfold bh at hi x;have:=(s8 (i:=id) (j:=e.id) (m:=i-aR id) (n:=i-aR e.id) (by omega) (by omega) (by omega)).1;exact C.1 e f this
     have p:∀i,bh (aR id) ks.length i->k.ob i=(lays (aR id) (c.take ks.length) s).2.ob i:=by intro i hi;have G:cO<=i:=iN (dU id) hi.1;rw[k3 i G (v i hi),St.aO _ _ _ (by omega)]
     refine⟨k1.trans l3,λi hi H=>?_,λi hi H=>?_,λe f=>?_⟩
     .have A:i≠id:=λe=>H ⟨ks,id,u,o⟩ (by simp[bi]) e.symm;rw[Y i hi λe f=>H e (by simp only[bi,cL];exact .inr f),St.aO _ _ _ A,D i (by have:=dU id;unfold bh;omega)]
     .rw[k3 i hi λe f=>H e (by simp only[bi,cL];exact .inr f),St.aO _ _ _ (by omega),D i (H ⟨ks,id,u,o⟩ (by simp[bi]))]
     .simp only[bi,cL]at f;rcases f with rfl|f
      .refine⟨⟨M,O⟩,λi hi=>?_,b,arr,T,c.take ks.length,(lays (aR id) (c.take ks.length) s).1,r1,r2,r3,y,U,?_,λJ W hk hs=>?_⟩
       .rw[p i hi];exact l2 i hi
       .show k.ob id=_;rw[Y id M λe f=>λF=>C.1 e f F.symm,St.ay,D id Q];rfl
       .obtain⟨_,_,_,z⟩:=nL (w:=I) (ω:=J) (c.take ks.length) arr.toList (aR id) s hk;refine z W λi hi=>?_;rw[y]at hi;rw[hs i hi];exact p i hi
      .obtain⟨m1,m2,b',E,T',B,r,n1,n2,n3,n4,n5,n6,n7⟩:=Z e f;have A:e.id≠id:=λF=>C.1 e f F.symm;have P:∀i,bh (aR e.id) e.ks.length i->((lays (aR id) (c.take ks.length) s).2.bq id true (.blk (lays (aR id) (c.take ks.length) s).1)).ob i=s.ob i:=by intro i hi;have G:cO<=i:=iN (dU e.id) hi.1;rw[St.aO _ _ _ (by omega),D i λx=>v i x e f hi]
       refine⟨m1,λi hi=>?_,b',E,T',B,r,n1,n2,n3,n4,n5,?_,n7⟩
       .have:=m2 i hi;rw[P i hi]at this;exact this
       .rw[n6,St.aO _ _ _ A,D e.id (by have:=dU id;unfold bh;have:=m1.1;omega)]
  |_=>cases d
noncomputable def aq.c8(a:aq)(m:List (Nat×Nat)):aq:=λb=>match a b with
 |none=>none
 |some (i,p)=>match m.find? (λq=>q.1==i)with
  |some q=>some (q.2,p)
  |none=>some (0,[(b,0)])
noncomputable def aq.cV(c a:aq)(m:List (Nat×Nat))(d:List BE)(base B W:Nat):aq:=λb=>match a b with
 |none=>none
 |some (j,p)=>
  if j=0 then match c b with
   |none=>none
   |some (i,q)=>if bh base W i\/(∃e∈d,bh (aR e.id) e.ks.length i)\/(∃j,(i,j)∈m)then none else some (i,q)
  else if bh B W j then some (base+(j-B),p)
  else match d.find? (λe=>decide (e.out<=j/\j<=e.out+e.ks.length))with
   |some e=>if j=e.out then some (e.id,p)else some (aR e.id+(j-(e.out+1)),p)
   |none=>none
section
variable {eD cu:aq}{s1:S}{m:List (Nat×Nat)}{lo hi:Nat}{es:List BE}{base B W:Nat}(hg:bT w ω s eD s1 m lo hi)(hlo:0<lo)
theorem jZ{b:Nat}(h:eD b=none):eD.c8 m b=none:=by unfold aq.c8;rw[h]
include hg in
theorem wi{i j b:Nat}{p:List (Nat×Nat)}(d:(i,j)∈m)(h:eD b=some (i,p)):eD.c8 m b=some (j,p):=by
 unfold aq.c8;rw[h];simp only;cases a:m.find? (λq=>q.1==i)with
 |none=>have:=pX.1 a (i,j) d;simp at this
 |some q=>obtain⟨f,g⟩:=q;have c:=je a;have e:=jS a;simp at c;subst c;rw[hg.fn f j g d e]
theorem sE{i b:Nat}{p:List (Nat×Nat)}(e:∀j,(i,j)∉m)(h:eD b=some (i,p)):eD.c8 m b=some (0,[(b,0)]):=by
 unfold aq.c8;rw[h];simp only;cases c:m.find? (λq=>q.1==i)with
 |none=>rfl
 |some q=>obtain⟨g,f⟩:=q;have a:=je c;have d:=jS c;simp at a;subst a;exact absurd d (e f)
theorem ia{b:Nat}{k:Key}(h:eD.c8 m b=some k):(∃i,eD b=some (i,k.2)/\(i,k.1)∈m)\/(k=(0,[(b,0)])/\∃i p,eD b=some (i,p)/\∀j,(i,j)∉m):=by
 unfold aq.c8 at h;split at h
 .cases h
 .rename_i i p c;split at h
  .rename_i q d;injection h with h
   subst h;have a:=je d;have e:=jS d;simp at a;subst a;exact .inl ⟨q.1,c,e⟩
  .rename_i g;injection h with h
   refine .inr ⟨h.symm,i,p,c,λj f=>?_⟩;have:=pX.1 g (i,j) f;simp at this
include hg in
theorem sF:fJ w eD (eD.c8 m) m:=⟨λ_ _ h=>jZ h,λ_ _ a _ _ _ h=>wi hg a h⟩
include hg hlo in
theorem wh(d:∀b c k,eD b=some k->eD c=some k->b=c)(b c:Nat)(k:Key)(h:eD.c8 m b=some k)(l:eD.c8 m c=some k):b=c:=by
 rcases ia h with ⟨i,e,f⟩|⟨e,i,p,f,n⟩ <;> rcases ia l with ⟨j,a,g⟩|⟨a,j,q,g,o⟩
 .have:=hg.inj i j k.1 f g;subst this;exact d b c _ e a
 .rw[a]at f;have:=(hg.oh _ _ f).1;omega
 .rw[e]at g;have:=(hg.oh _ _ g).1;omega
 .rw[e]at a;injection a with _ a
  injection a with a _
  injection a with a _
theorem wg(hd:∀b k,eD b=some k->b<w.heap.size)(b:Nat)(k:Key)(h:eD.c8 m b=some k):b<w.heap.size:=by rcases ia h with ⟨_,a,_⟩|⟨_,_,_,c,_⟩ <;> exact hd b _ (by assumption)
theorem kQ{b:Nat}{k:Key}(h:eD.cV cu m es base B W b=some k):
  ((∃q,cu b=some (0,q))/\eD b=some k /\ ¬bh base W k.1/\(∀e∈es,¬bh (aR e.id) e.ks.length k.1)/\∀j,(k.1,j)∉m) \/
  (∃j,bh B W j/\k.1=base+(j-B)/\cu b=some (j,k.2))\/(∃e∈es,k.1=e.id/\cu b=some (e.out,k.2))\/∃e∈es,∃t,t<e.ks.length/\k.1=aR e.id+t/\cu b=some (e.out+1+t,k.2):=by
 unfold aq.cV at h;split at h
 .cases h
 .rename_i j p a;split at h
  .rename_i o;subst o;split at h
   .cases h
   .rename_i i q hi;split at h
    .cases h
    .rename_i f;injection h with h
     subst h;exact .inl ⟨⟨p,a⟩,hi,λe=>f (.inl e),λe c n=>f (.inr (.inl ⟨e,c,n⟩)),λj d=>f (.inr (.inr ⟨j,d⟩))⟩
  .split at h
   .rename_i r;injection h with h
    subst h;exact .inr (.inl ⟨j,r,rfl,a⟩)
   .split at h
    .rename_i e c;have g:=je c;have s:=ck g;have l:=jS c;split at h
     .rename_i d;injection h with h
      subst h;exact .inr (.inr (.inl ⟨e,l,rfl,by rw[a,d]⟩))
     .rename_i d;injection h with h
      subst h;refine .inr (.inr (.inr ⟨e,l,j-(e.out+1),by omega,rfl,?_⟩));rw[a];congr 2;omega
    .cases h
theorem kP{b:Nat}(h:cu b=none):eD.cV cu m es base B W b=none:=by unfold aq.cV;rw[h]
theorem xI{b j:Nat}{p:List (Nat×Nat)}(d:0<B)(a:bh B W j)(h:cu b=some (j,p)):eD.cV cu m es base B W b=some (base+(j-B),p):=by
 unfold aq.cV;rw[h];simp only;have c:j≠0:=by unfold bh at a;omega
 rw[bc c,cz a]
theorem vH{b i:Nat}{p q:List (Nat×Nat)}(h:cu b=some (0,q))(a:eD b=some (i,p))(c:¬bh base W i)(d:∀e∈es,¬bh (aR e.id) e.ks.length i)(f:∀j,(i,j)∉m):eD.cV cu m es base B W b=some (i,p):=by
 unfold aq.cV;rw[h];simp only[if_true];rw[a];simp only;rw[bc];rintro(e|⟨e,he,hi⟩|⟨j,hj⟩)
 .exact c e
 .exact d e he hi
 .exact f j hj
theorem wA(g:es.Pairwise λe a=>e.out+e.ks.length<a.out){e:BE}(d:e∈es){j:Nat}(f:e.out<=j/\j<=e.out+e.ks.length):es.find? (λe=>decide (e.out<=j/\j<=e.out+e.ks.length))=some e:=by
 cases b:es.find? (λe=>decide (e.out<=j/\j<=e.out+e.ks.length))with
 |none=>have:=pX.1 b e d;exact absurd (iO f) this
 |some a=>
  have c:=je b;have k:=ck c;have i:=jS b;rcases dK g e d a i with h|h|h
  .rw[h]
  .omega
  .omega
theorem xH{b:Nat}{p:List (Nat×Nat)}(d:es.Pairwise λe a=>e.out+e.ks.length<a.out){e:BE}(c:e∈es)(f:0<B)(g:B+W<=e.out)(h:cu b=some (e.out,p)):eD.cV cu m es base B W b=some (e.id,p):=by unfold aq.cV;rw[h];simp only;rw[bc (by omega),bc (by unfold bh;omega),wA d c ⟨aJ _,kG _ _⟩];simp
theorem vG{b t:Nat}{p:List (Nat×Nat)}(d:es.Pairwise λe a=>e.out+e.ks.length<a.out){e:BE}(c:e∈es)(f:0<B)(g:B+W<=e.out)(i:t<e.ks.length)(h:cu b=some (e.out+1+t,p)):eD.cV cu m es base B W b=some (aR e.id+t,p):=by unfold aq.cV;rw[h];simp only;rw[bc (by omega),bc (by unfold bh;omega),wA d c ⟨by omega,by omega⟩];simp only;rw[bc (by omega)];congr 2;omega
end
def Tr.Dq{n:World}{l d:aq}{j m:S}{i:Nat}(a:m.ob i=j.ob i)(f:(j.ob i).o=.gone):Tr w l j n d m i where
 ref v g h p hr:=⟨by rw[a];exact hr.1,by rw[a];exact hr.2.1,λc b=>by rw[jA (by rw[a];exact f)]at b;cases b⟩
 ptr v g off hr:=⟨by rw[a];exact hr.1,λ_ cells b=>by rw[a,f]at b;cases b⟩
 bH v g h p i off hr:=⟨by rw[a];exact hr.1,by rw[a];exact hr.2.1,λc b=>by rw[jA (by rw[a];exact f)]at b;cases b⟩
 cD v g hr:=hr.shut (by rw[a]) λk x e=>by rw[a,f]at e;cases e
def wq{i g h:Nat}{p:iU}{cells:List L}(a:(s.ob i).o=.blk cells):s.cont i g h p=none:=by unfold St.cont fU.cont;rw[a];cases Nat.beq (s.ob i).g g <;> rfl
def Tr.Ew{B:World}{l:aq}{o:S}{i:Nat}{cells c0:List L}(m:(s.ob i).o=.blk c0)(n:(o.ob i).g=(s.ob i).g)(C:(s.ob i).h<=(o.ob i).h)(t:(o.ob i).o=.blk cells)(A:∀b,ω b=some (i,[])->l b=some (i,[])):Tr w ω s B l o i:=by
 have f:∀q m,m<=(s.ob i).h+(if q=(s.ob i).g then 0 else m)->m<=(o.ob i).h+(if q=(o.ob i).g then 0 else m):=by
  intro q m r;rw[n];split at r <;> rename_i d
  .rw[cz d];omega
  .rw[bc d];omega
 exact
 {ref:=λv g h p a=>⟨by rw[n];exact a.1,f _ _ a.2.1,λc d=>by rw[wq t]at d;cases d⟩
  ptr:=λv g u a=>⟨by rw[n];exact a.1,λe _ _=>by obtain⟨b,y,z⟩:=a.2 (by rw[<-n];exact e) c0 m;exact⟨b,A b y,z⟩⟩
  bH:=λv g h p j u a=>⟨by rw[n];exact a.1,f _ _ a.2.1,λc d=>by rw[wq t]at d;cases d⟩
  cD:=λv g a=>a.shut n λk x e=>by rw[t]at e;cases e }
def uB{w:World}{f:aq}:∀(a:List Cp) (i:List (KV real)) (e:List Value) (b:Nat),vr w f b a i e->∀u∈vA a e,∃d n,b<=n/\u=.pointer (some ⟨d,0,none⟩)/\f d=some (n,[])
 |[],_,_,_,_,u,c=>by simp[vA]at c
 |.ro _::_,_,[],_,h,_,_=>h.elim
 |.mu _::_,_,[],_,h,_,_=>h.elim
 |.ro l::r,i,v::e,b,h,u,c=>uB r _ e b h.2.2 u c
 |.mu ks::r,i,v::e,b,h,u,c=>by
  simp only[vA,cL]at c;rcases c with rfl|c
  .obtain⟨_,⟨d,arr,T,j,g,_⟩,_⟩:=h;exact⟨d,b,aJ _,j,g⟩
  .obtain⟨d,n,j,g,k⟩:=uB r _ e _ h.2.2 u c;exact⟨d,n,by omega,g,k⟩
def s5{w:World}{g:aq}:∀(c:List Sh) (m:List (KV real)) (i:List Value) (b:Nat),fI w g b c m i->∀u∈ek c i,∃d n,b<=n/\u=.pointer (some ⟨d,0,none⟩)/\g d=some (n,[])
 |[],_,_,_,_,u,a=>by simp[ek]at a
 |_::_,_,[],_,h,_,_=>h.elim
 |s::c,m,v::i,b,h,u,a=>by
  obtain⟨t,l,q⟩:=h;simp only[ek,cg]at a;rcases a with a|a
  .cases s with
   |blk ks=>simp only[Sh.C0,eK]at a;subst a;obtain⟨d,arr,T,k,j,_⟩:=l;exact⟨d,b,aJ _,k,j⟩
   |qa f e=>obtain⟨o,rfl,r⟩:=l;exact uB e _ o b r u a
   |_=>simp[Sh.C0]at a
  .obtain⟨d,n,k,j,p⟩:=s5 c _ i _ q u a;exact⟨d,n,by omega,j,p⟩
def zj:∀(b:List (List K)) (ls:List L) (c:List Value) (o:Nat),∀e∈bi b ls c o,e.u∈c
 |[],_,_,_,e,a=>by simp[bi]at a
 |_::_,[],_,_,e,a=>by simp[bi]at a
 |ks::b,l::ls,[],o,e,a=>by cases l <;> simp[bi]at a
 |ks::b,l::ls,u::c,o,e,a=>by
  cases l with
  |ptr id g d=>
   simp only[bi,cL]at a;rcases a with rfl|a
   .simp
   .exact gL _ (zj b ls c _ e a)
  |_=>simp[bi]at a
def vT{b W:Nat}:∀(c:List (List K)) (ls:List L) (d:List Value) (o:Nat),apart b W ls=true->∀e∈bi c ls d o,¬bh b W e.id
 |[],_,_,_,_,e,a=>by simp[bi]at a
 |_::_,[],_,_,_,e,a=>by simp[bi]at a
 |ks::c,l::ls,[],o,_,e,a=>by cases l <;> simp[bi]at a
 |ks::c,l::ls,u::d,o,h,e,a=>by
  cases l with
  |ptr id g f=>
   simp only[apart,aQ,gd]at h;simp only[bi,cL]at a;rcases a with rfl|a
   .rcases h.1 with h|h
    .have:=dS h;show ¬bh b W id;unfold bh;omega
    .have:=dS h;show ¬bh b W id;unfold bh;omega
   .exact vT c ls d _ h.2 e a
  |_=>simp[bi]at a
def xK (h:Rel H ω a w s) {args:List Sh} {x:List bK} {us:List Value} {Fu:List (KV real)} {s1:S} {eD:aq} {m:List (Nat×Nat)} (hall:aH (cQ H w ω s) us x) (ht:bz args x s=some (Fu,s1))
  (O:Passes H ω a w s eD s1) (hG:bT w ω s eD s1 m 1 (1+au args)) (hR:fI w (eD.c8 m) 1 args Fu us)
  {c:List Sh} {M C0:List (KV real)} {base B:Nat} (hbase:0<base) (hB:0<B) (Gt:c.all Sh.qg=true) (hks:M.map (·.1)=(c.map Sh.ks).flatten) (IW:base+au c<=cO) (hap:apart base (au c) (bV args x)=true)
  {E:World} {cu:aq} {v:Value} (r:cH (eD.c8 m) w cu E) (Q:∀b X k,cu b=some k->cu X=some k->b=X) (P:∀b k,cu b=some k->b<E.heap.size) (hr:zU E cu B c M v)
  {L:S} (E4:iQ (eC args) (bV args x) C0 s1=some L) (FA:fI E cu (B+au c) ((eC args).map .blk) C0 (ek args us)):
  ∃fV,Rel H fV a E (aV base c M L).2/\cH ω w fV E/\cQ H E fV (aV base c M L).2 v (TV.nk (aV base c M L).1):=by
 obtain⟨R,U⟩:=iw args x us s (Fu,s1) (B+au c) (df.refl s) hall ht;have hW:=iy ht;obtain⟨FF,C1⟩:=qJ (eC args) (bV args x) (ek args us) (B+au c);obtain⟨k1,k2,k3,k4⟩:=vY _ _ _ _ _ _ _ FA E4 U;have V:=vT (b:=base) (W:=au c) (eC args) (bV args x) (ek args us) (B+au c) hap;have l:∀e∈bi (eC args) (bV args x) (ek args us) (B+au c),∃j,(e.id,j)∈m:=by
  intro e d;obtain⟨b,f1,f2⟩:=(R e d).at_;obtain⟨X,n,g1,Z,g3⟩:=s5 args Fu us 1 hR e.u (zj _ _ _ _ e d);rw[f2]at Z;injection Z with Z
  injection Z with Z
  injection Z with Z _
  subst Z;rcases ia g3 with ⟨i,e1,e2⟩|⟨e1,_⟩
  .have:=hG.back b _ e1;rw[f1]at this;injection this with this
   injection this with this _
   exact⟨_,by rw[this];exact e2⟩
  .injection e1 with e1 _
   omega
 revert R U FF C1 k2 k3 k4 V l;generalize bi (eC args) (bV args x) (ek args us) (B+au c)=es;intro R U FF C1 k2 k3 k4 V l;have G:∀e∈es,e.id<cO/\e.ks.length<=64:=λe d=>(k4 e d).small;have D:∀b i p,eD b=some (i,p)->(∀j,(i,j)∉m) -> ¬bh base (au c) i->(∀e∈es,¬bh (aR e.id) e.ks.length i)->E.heap[b]? = w.heap[b]? /\ eD.cV cu m es base B (au c) b=some (i,p):=by intro b i p I hm hn hc;have hcb:=sE hm I;obtain⟨q1,q2⟩:=r.block b (O.rel.dom b _ I) (.inr ⟨_,hcb⟩);exact⟨q1,vH (q2.trans hcb) I hn hc hm⟩
 have HE:∀j,(0,j)∉m:=λj C=>hG.nz 0 j C rfl;have GZ:cH eD w (eD.cV cu m es base B (au c)) E:=by
  refine⟨r.os,r.tape,r.output,r.size,λb I hf=>?_⟩;rcases hf with hf|⟨q,hf⟩
  .have hn:=jZ (m:=m) hf;obtain⟨q1,q2⟩:=r.block b I (.inl hn);exact⟨q1,by rw[hf];exact kP (q2.trans hn)⟩
  .have:=D b 0 q hf HE (by unfold bh;omega) (λe _=>uj e);exact⟨this.1,this.2.trans hf.symm⟩
 have hE:cH ω w (eD.cV cu m es base B (au c)) E:=O.ext.trans GZ;have hown:∀i,bh B (au c) i->∀b p,b<E.heap.size->cu b=some (i,p)->eD.cV cu m es base B (au c) b=some (base+(i-B),p):=λi hi b p _ I=>xI hB hi I;obtain⟨II,ET,hv⟩:=tO (fV:=eD.cV cu m es base B (au c)) Gt hks hown (.inr λb _ I=>kP I) hr;obtain⟨y1,y2,y3,y4⟩:=lQ c M II base L ET;obtain⟨m1,m2⟩:=y4 _ (λ_ _=>rfl);have u:∀e∈es,∀i,bh (aR e.id) e.ks.length i->(aV base c M L).2.ob i=L.ob i:=by intro e d i hi;refine y1 i ?_;have:=dU e.id;unfold bh at hi⊢;omega
 have hblk:∀e∈es,∃b arr T cells,eD.cV cu m es base B (au c) b=some (e.id,[])/\E.heap[b]? = some (.cells arr T (0,0))/\ω b=some (e.id,[])/\(aV base c M L).2.ob e.id=⟨(s1.ob e.id).g,(s1.ob e.id).h+1,(s1.ob e.id).n,.blk cells⟩/\aH (bU E (eD.cV cu m es base B (au c)) (aV base c M L).2) arr.toList cells:=by
  intro e d;obtain⟨z1,z2,b,arr,T,vals,cells,n1,n2,n3,n4,n5,n6,n7⟩:=k4 e d;obtain⟨b0,f1,f2⟩:=(R e d).at_;rw[f2]at n1;injection n1 with n1
  injection n1 with n1
  injection n1 with n1 _
  subst n1;refine⟨b0,arr,T,cells,xH C1 d hB (FF e d) n2,n3,f1,by rw[y1 e.id (V e d),n6],n7 _ _ ?_ (u e d)⟩;have:=ju (w:=E) (cu:=cu) (fV:=eD.cV cu m es base B (au c)) (base:=aR e.id) (B:=e.out+1) (W:=e.ks.length) (λi hi b p _ I=>?_) vals arr.toList (e.out+1) (aJ _) (by omega) (.inr λb _ I=>kP I) n5
  .rwa[pg,kE]at this
  .unfold bh at hi;have:=vG (eD:=eD) (cu:=cu) (m:=m) (base:=base) (W:=au c) (t:=i-(e.out+1)) C1 d hB (FF e d) (by omega) (b:=b) (p:=p) (by rw[I];congr 2;omega);rw[this]
 have Gv:∀i,¬bh base (au c) i->(∀e∈es,e.id≠i)->(∀e∈es,¬bh (aR e.id) e.ks.length i)->(aV base c M L).2.ob i=s1.ob i:=by
  intro i hi d hc;rw[y1 i hi];by_cases K:i<cO
  .exact k2 i K d
  .exact k3 i (xT K) hc
 have hgrow:∀i,(s1.ob i).g<=(L.ob i).g:=by
  intro i;by_cases K:i<cO
  .by_cases o:∃e∈es,e.id=i
   .obtain⟨e,d,rfl⟩:=o;obtain⟨_,_,b,arr,T,vals,cells,n1,n2,n3,n4,n5,n6,n7⟩:=k4 e d;rw[n6];exact aJ _
   .rw[k2 i K λe d h=>o ⟨e,d,h⟩];exact aJ _
  .by_cases o:∃e∈es,bh (aR e.id) e.ks.length i
   .obtain⟨e,d,hi⟩:=o;exact fc ((k4 e d).cells i hi).1
   .rw[k3 i (xT K) λe d h=>o ⟨e,d,h⟩];exact aJ _
 have tr:∀i,Tr w ω s E (eD.cV cu m es base B (au c)) (aV base c M L).2 i:=by
  intro i;by_cases e:bh base (au c) i
  .exact(O.tr i).trans (dj.tr (Nat.lt_of_le_of_lt (hgrow i) (y2 i e)))
  .by_cases o:∃e∈es,e.id=i
   .obtain⟨f,d,rfl⟩:=o;obtain⟨b,arr,T,cells,q1,q2,q3,q4,q5⟩:=hblk f d;obtain⟨c0,hc0⟩:=(R f d).was;refine Tr.Ew (cells:=cells) hc0 (by rw[q4];exact hW.g f.id) (by rw[q4];exact Nat.le_succ_of_le (hW.h f.id)) (by rw[q4]) λX hb'=>?_;rw[h.inj X b _ hb' q3];exact q1
   .by_cases A:∃e∈es,bh (aR e.id) e.ks.length i
    .obtain⟨f,d,hi⟩:=A;refine(O.tr i).trans (dj.tr ?_);unfold dj;rw[u f d i hi];exact((k4 f d).cells i hi).1
    .have yX:=Gv i e (λf d N=>o ⟨f,d,N⟩) (λf d N=>A ⟨f,d,N⟩);by_cases hm:∃j,(i,j)∈m
     .obtain⟨j,C⟩:=hm;exact(O.tr i).trans (Tr.Dq yX (hG.is i j C))
     .refine(O.tr i).trans (gx.tr ⟨yX,λb kk I hk C=>?_⟩ GZ O.rel.dom);obtain⟨i',p⟩:=kk;have:i'=i:=C;subst this;have:=D b i' p hk (λj C=>hm ⟨j,C⟩) e (λf d N=>A ⟨f,d,N⟩);exact⟨this.1,this.2.trans hk.symm⟩
 refine⟨_,?_,hE,hv _ _ m1⟩;exact
 {inj:=λb X k h1 h2=>by
   rcases kQ h1 with ⟨y,z,J,a4,a5⟩|⟨j,y,z,J⟩|⟨e,y,z,J⟩|⟨e,y,t,z,J,a4⟩ <;> rcases kQ h2 with ⟨F,Y,c3,c4,c5⟩|⟨j',F,Y,c3⟩|⟨f,F,Y,c3⟩|⟨f,F,t',Y,c3,c4⟩
   .exact O.rel.inj b X k z Y
   .exact absurd (by rw[Y];unfold bh at F⊢;omega) J
   .obtain⟨j,C⟩:=l f F;exact absurd (by rw[Y];exact C) (a5 j)
   .exact absurd (by rw[c3];unfold bh;omega) (a4 f F)
   .exact absurd (by rw[z];unfold bh at y⊢;omega) c3
   .have:j=j':=by unfold bh at y F;omega
    subst this;exact Q b X _ J c3
   .exact absurd (by rw[<-Y,z];unfold bh at y⊢;omega) (V f F)
   .exfalso;have:=dU f.id;unfold bh at y;omega
   .obtain⟨j,C⟩:=l e y;exact absurd (by rw[z];exact C) (c5 j)
   .exact absurd (by rw[<-z,Y];unfold bh at F⊢;omega) (V e y)
   .have:e=f:=by
     rcases dK U e y f F with h|h|h
     .exact h
     .exact absurd (z.symm.trans Y) h
     .exact absurd (Y.symm.trans z) h
    subst this;exact Q b X _ J c3
   .exfalso;have:=dU f.id;have:=(G e y).1;omega
   .exact absurd (by rw[J];unfold bh;omega) (c4 e y)
   .exfalso;have:=dU e.id;unfold bh at F;omega
   .exfalso;have:=dU e.id;have:=(G f F).1;omega
   .have K:=(G e y).2;have Gh:=(G f F).2;obtain⟨q1,q2⟩:=s8 (i:=e.id) (j:=f.id) (m:=t) (n:=t') (by omega) (by omega) (J.symm.trans c3);have:e=f:=by
     rcases dK U e y f F with h|h|h
     .exact h
     .exact absurd q1 h
     .exact absurd q1.symm h
    subst this;subst q2;exact Q b X _ a4 c4
  dom:=λb k h1=>by
   rcases kQ h1 with ⟨y,z,_⟩|⟨j,y,z,J⟩|⟨e,y,z,J⟩|⟨e,y,t,z,J,a4⟩
   .exact gf (O.rel.dom b k z) r.size
   .exact P b _ J
   .exact P b _ J
   .exact P b _ a4
  defers:=h.defers
  dH:=h.dH.ext hE
  dJ:=by rw[Gv 0 (by unfold bh;omega) (λe d h0=>by obtain⟨j,C⟩:=l e d;exact hG.nz _ _ C h0) (λe _=>uj e)];exact O.rel.dJ
  slots:=λi=>by
   have Ii:(aV base c M L).2.sl=s.sl:=by rw[y3,k1];exact r7 ht
   rw[Ii];exact cQ.frame hE tr (h.slots i)
  c7:=λi cells g=>by
   by_cases e:bh base (au c) i
   .exact m2 i cells e g
   .by_cases o:∃e∈es,e.id=i
    .obtain⟨f,d,rfl⟩:=o;obtain⟨b,arr,T,cells',q1,q2,q3,q4,q5⟩:=hblk f d;rw[q4]at g;injection g with g
     subst g;exact⟨b,arr,T,q1,q2,q5⟩
    .by_cases A:∃e∈es,bh (aR e.id) e.ks.length i
     .obtain⟨f,d,hi⟩:=A;rw[u f d i hi]at g;exact absurd g (((k4 f d).cells i hi).2 cells)
     .have yX:=Gv i e (λf d N=>o ⟨f,d,N⟩) (λf d N=>A ⟨f,d,N⟩);rw[yX]at g;have hs:=hW.blk g;have hc0:=g;rw[hs]at hc0;obtain⟨b,arr,T,g1,Z,g3⟩:=h.c7 i cells hc0;have hm:∀j,(i,j)∉m:=λj C=>by rw[hG.is i j C]at g;cases g
      obtain⟨b1,eB,T1,f1,f2,f3⟩:=O.rel.c7 i cells g;have:=D b1 i [] f1 hm e (λf d N=>A ⟨f,d,N⟩);have Ga:b1=b:=h.inj b1 b _ (hG.back b1 _ f1) g1;subst Ga;refine⟨b1,arr,T,this.2,this.1.trans Z,g3.mono λ_ _ hl=>bU.frame hE tr hl⟩ }
noncomputable def dy(id a:Nat)(q:List (Nat×Nat)):Key->Option Key:=λk=>if k.1=id then(if q <+: k.2 then some (a,k.2.drop q.length)else some k)else if k.1=a then none else some k
noncomputable def eH(id a:Nat)(q:List (Nat×Nat)):Key->Option Key:=λk=>if k.1=a then some (id,q++k.2)else if k.1=id/\q <+: k.2 then none else some k
def yL{id a:Nat}{q:List (Nat×Nat)}(j:id≠a)(k k' z:Key)(h:dy id a q k=some z)(n:dy id a q k'=some z):k=k':=by
 have c:∀k,dy id a q k=some z->(k.1=id/\∃r,k.2=q++r/\z=(a,r))\/(k.1≠a/\z=k):=by
  intro k h;unfold dy at h;split at h
  .rename_i e;split at h
   .rename_i p;obtain⟨r,m⟩:=p;injection h with h
    refine .inl ⟨e,r,m.symm,?_⟩;rw[<-h,<-m,vi]
   .injection h with h
    exact .inr ⟨by rw[e];exact j,h.symm⟩
  .split at h
   .cases h
   .rename_i o;injection h with h
    exact .inr ⟨o,h.symm⟩
 rcases c k h with ⟨d,r,f,l⟩|⟨d,f⟩ <;> rcases c k' n with ⟨g,s,i,b⟩|⟨g,i⟩
 .rw[l]at b;injection b with _ b
  exact p7 (d.trans g.symm) (by rw[f,i,b])
 .rw[<-i,l]at g;exact absurd rfl g
 .rw[<-f,b]at d;exact absurd rfl d
 .exact f.symm.trans i
def yy{id g:Nat}{q:List (Nat×Nat)}(k k' z:Key)(h:eH id g q k=some z)(i:eH id g q k'=some z):k=k':=by
 have c:∀k,eH id g q k=some z->(k.1=g/\z=(id,q++k.2))\/(¬(k.1=id/\q <+: k.2)/\z=k):=by
  intro k h;unfold eH at h;split at h
  .rename_i e;injection h with h
   exact .inl ⟨e,h.symm⟩
  .split at h
   .cases h
   .rename_i j;injection h with h
    exact .inr ⟨j,h.symm⟩
 rcases c k h with ⟨d,b⟩|⟨d,b⟩ <;> rcases c k' i with ⟨f,a⟩|⟨f,a⟩
 .rw[b]at a;injection a with _ a
  exact p7 (d.trans f.symm) (zb a)
 .rw[<-a,b]at f;exact absurd ⟨rfl,um _ _⟩ f
 .rw[<-b,a]at d;exact absurd ⟨rfl,um _ _⟩ d
 .exact b.symm.trans a
def rW(h:Rel H ω a w s){id nb g hh e:Nat}{C:ar}{x:List C.T}{p:iU}{c:Cont real}(O:p≠[])(N:s.cont id g hh p=some c)(G:(s.ob id).o=.arr e C true x)(m:id≠nb)(y:nb≠0):
  Rel H (ω.via (dy id nb (aC p))) a w ((s.bq id true .gone).new nb (.arr c.e c.cs true c.x))/\cH ω w (ω.via (dy id nb (aC p))) w/\(∀j,j≠id->Tr w ω s w (ω.via (dy id nb (aC p))) ((s.bq id true .gone).new nb (.arr c.e c.cs true c.x)) j) /\
   (∀j,Tr w ω s w (ω.via (dy id nb (aC p))) ((s.bq id true .gone).new nb (.arr c.e c.cs true c.x)) j) /\
   ∀u,(Ty.sl c.e c.cs).R w ω (.deep (id,aC p)) u c.x->bU w (ω.via (dy id nb (aC p))) ((s.bq id true .gone).new nb (.arr c.e c.cs true c.x)) u (.ref nb (((s.bq id true .gone).new nb (.arr c.e c.cs true c.x)).ob nb).g 0 []):=by
 have D:id≠0:=h.pR (by rw[G];exact λe=>by cases e);have B:cH ω w (ω.via (dy id nb (aC p))) w:=⟨rfl,rfl,⟨rfl,aJ _⟩,aJ _,λb t F=>⟨rfl,oZ (λq=>by unfold dy;rw[bc (c6 D),bc (c6 y)]) F⟩⟩
 have n:∀j,j≠id->j≠nb->((s.bq id true .gone).new nb (.arr c.e c.cs true c.x)).ob j=s.ob j:=λj z A=>by unfold St.new;rw[St.aU _ _ A,St.aO _ _ _ z]
 have d:((s.bq id true .gone).new nb (.arr c.e c.cs true c.x)).ob id=⟨(s.ob id).g,(s.ob id).h+1,(s.ob id).n,.gone⟩:=by unfold St.new;rw[St.aU _ _ m,St.ay];rfl
 have i:((s.bq id true .gone).new nb (.arr c.e c.cs true c.x)).ob nb=⟨(s.ob nb).g+1,0,0,.arr c.e c.cs true c.x⟩:=by unfold St.new;rw[St.aB,St.aO _ _ _ (c6 m)]
 have f:∀j,j≠id->j≠nb->∀b q,ω b=some (j,q)->ω.via (dy id nb (aC p)) b=some (j,q):=by intro j z A b q t;rw[cr t];unfold dy;rw[bc z,bc A]
 have tr:∀j,Tr w ω s w (ω.via (dy id nb (aC p))) ((s.bq id true .gone).new nb (.arr c.e c.cs true c.x)) j:=by
  intro j;by_cases o:j=id
  .subst o;exact Tr.nJ (by rw[d]) (by rw[d];exact ot _) (by rw[d])
  .by_cases r:j=nb
   .subst r;exact dj.tr (by unfold dj;rw[i];exact fK _)
   .refine gx.tr ⟨n j o r,λb K t v E=>⟨rfl,?_⟩⟩ B h.dom;obtain⟨J,q⟩:=K;simp only at E;subst E;rw[v];exact f J o r b q v
 refine⟨h.BS B (qy h.inj (yL m)) (qx h.dom) rfl ?_ tr (λj cells l=>?_),B,λj _=>tr j,tr,λu I=>⟨aJ _,by simp,λM k=>?_⟩⟩
 .rw[n 0 (c6 D) (c6 y)];exact h.dJ
 .have o:j≠id:=λe=>by subst e;rw[d]at l;cases l
  have r:j≠nb:=λe=>by subst e;rw[i]at l;cases l
  exact⟨n j o r,λb t=>⟨rfl,f j o r b [] t⟩⟩
 .rw[bW (by rw[i]) rfl]at k;injection k with k
  subst k;refine Ty.fF (.sl c.e c.cs) (id,aC p) (nb,[]) u c.x (λb L t v=>⟨rfl,?_⟩) I;have v:ω b=some (id,aC p++L):=v;rw[cr v];unfold dy;rw[cz rfl,cz (um _ _),vi];rfl
def Ci (h:Rel H ω a w s) {id nb g hh e base W:Nat} {U:ar} {x:List U.T} {p:iU} {c:Cont real} {u:Value} (hp:p≠[]) (hc:s.cont id g hh p=some c) (ho:(s.ob id).o=.arr e U true x) (E:id≠nb) (hnb:nb≠0) (hW:¬bh base W nb) (hu:bU w ω s u (.ref id g hh p))
  {d:aq} {B:World} {R z:S} {L:Nat->Prop} {v:Value} {t:bK} (hR:Rel H d a B R) (A:xE H (ω.via (dy id nb (aC p))) w ((s.bq id true .gone).new nb (.arr c.e c.cs true c.x)) d B R base W L v t)
  (l:jG (A:=real) ⟨nb,(((s.bq id true .gone).new nb (.arr c.e c.cs true c.x)).ob nb).g,id,g,e,U,x,c,p⟩ R=some z):∃FQ,Rel H FQ a B z/\cH ω w FQ B/\cQ H B FQ z v t:=by
 have h0:id≠0:=h.pR (by rw[ho];exact λe=>by cases e);obtain⟨EL,HQ,_,Ej,hnew⟩:=rW h hp hc ho E hnb;obtain⟨HS,hcs⟩:=dz hc;have AY:c.md=2/\follow (A:=real) 2 e U x p=some c:=by
  rcases hcs with ⟨_,_,f2,_⟩|⟨e',cs',x',f1,_,_,f4⟩|⟨_,f2,_⟩
  .exact absurd f2 hp
  .rw[ho]at f1;injection f1 with g1 g2 g3 g4
   subst g1;subst g2;have g4:=vR g4;subst g4;exact⟨fg 2 p e U x c f4,f4⟩
  .exact absurd f2 hp
 obtain⟨AY,hf⟩:=AY;have FJ:(Ty.sl c.e c.cs).R w ω (.deep (id,aC p)) u c.x:=by have:=hu.2.2 c hc;rw[AY]at this;exact this
 unfold jG at l;simp only at l;split at l;case h_2=>cases l
 rename_i m GV dp y C1;cases C:((Nat.beq (R.ob id).g g&&Nat.beq (R.ob nb).g (((s.bq id true .gone).new nb (.arr c.e c.cs true c.x)).ob nb).g)&&(Nat.ble 1 g&&(dp||GV.plain)))with
 |false=>rw[C]at l;cases l
 |true=>
  rw[C]at l;simp only[az]at l;rw[aQ,aQ,aQ]at C;obtain⟨⟨G4,Z⟩,F9,G5⟩:=C;have G4:=bn G4;have Z:=bn Z;have F9:1<=g:=dS F9;split at l;case isFalse=>cases l
  rename_i hty;have Gy:=Ty.eq_of_beq hty;injection Gy with t1 t2
  subst t1;subst t2;cases F:putAt (A:=real) c (real.cast hty y) e U x p with
  |none=>rw[F]at l;cases l
  |some x'=>
   rw[F]at l;have l:=aG l;have F:putAt (A:=real) c y e U x p=some x':=F;have yX:∀j,j≠id->j≠nb->((s.bq id true .gone).new nb (.arr c.e c.cs true c.x)).ob j=s.ob j:=λj V h2=>by unfold St.new;rw[St.aU _ _ h2,St.aO _ _ _ V]
   have O:((s.bq id true .gone).new nb (.arr c.e c.cs true c.x)).ob id=⟨(s.ob id).g,(s.ob id).h+1,(s.ob id).n,.gone⟩:=by unfold St.new;rw[St.aU _ _ E,St.ay];rfl
   have Ib:((s.bq id true .gone).new nb (.arr c.e c.cs true c.x)).ob nb=⟨(s.ob nb).g+1,0,0,.arr c.e c.cs true c.x⟩:=by unfold St.new;rw[St.aB,St.aO _ _ _ (c6 E)]
   have He:¬bh base W id:=λX=>by have:=A.Fi id X;rw[O]at this;simp only at this;omega
   have HT:¬L id:=λhl=>(A.gz id hl).1 (by rw[O]);obtain⟨Iz,IA⟩:=A.kept id He HT;have G:z.ob id=⟨(s.ob id).g,(s.ob id).h+2,(s.ob id).n,.arr e U true x'⟩:=by rw[<-l,St.ay,St.aO _ _ _ E,Iz,O];rfl
   have I:z.ob nb=⟨(R.ob nb).g,(R.ob nb).h+1,(R.ob nb).n,.gone⟩:=by rw[<-l,St.aO _ _ _ (c6 E),St.ay];rfl
   have J:∀j,j≠id->j≠nb->z.ob j=R.ob j:=λj V h2=>by rw[<-l,St.aO _ _ _ V,St.aO _ _ _ h2]
   have hkp:aC p≠[]:=λe=>by
    cases p with
    |nil=>exact hp rfl
    |cons st p=>cases e
   have Gm:¬aC p <+: []:=λ⟨t,ht⟩=>hkp (List.append_eq_nil_iff.1 ht).1;have D:∀b r,ω b=some (id,r) -> ¬aC p <+: r->B.heap[b]? = w.heap[b]? /\ d.via (eH id nb (aC p)) b=some (id,r):=by
    intro b r C hn;have V:ω.via (dy id nb (aC p)) b=some (id,r):=by rw[cr C];unfold dy;rw[cz rfl,bc hn]
    obtain⟨q1,q2⟩:=IA b r V;refine⟨q1,?_⟩;rw[cr q2];unfold eH;rw[bc E,bc (λhq=>hn hq.2)]
   have f:∀j,j≠id->j≠nb->∀b q,d b=some (j,q)->d.via (eH id nb (aC p)) b=some (j,q):=by intro j V h2 b q C;rw[cr C];unfold eH;rw[bc h2,bc (λhq=>V hq.1)]
   have K:cH d B (d.via (eH id nb (aC p))) B:=⟨rfl,rfl,⟨rfl,aJ _⟩,aJ _,λb C hf=>⟨rfl,oZ (λq=>by unfold eH;rw[bc (c6 hnb),bc (λhq=>h0 hq.1.symm)]) hf⟩⟩
   have hE:cH ω w (d.via (eH id nb (aC p))) B:=(HQ.trans A.ext).trans K;have Q:∀Y,(Ty.sl c.e c.cs).R w ω (.deep (id,aC p)) Y c.x->(Ty.sl c.e c.cs).R B d (.deep (nb,[])) Y y:=by intro Y AZ;have q1:=(A.tr nb).ref Y _ 0 [] (hnew Y AZ);have q2:=q1.2.2 _ (bW (h:=0) C1 Z.symm);have q3:=eU (Fw:=true) (by rw[gd]at G5;exact G5) q2;exact q3
   have Ff:y.length=List.length c.x:=by
    obtain⟨FY,n',F3,f1,f2,_⟩:=Q u FJ;obtain⟨ad,n,cp,k,m,_⟩:=FJ;rw[k]at f1;injection f1 with _ z2 _
    exact f2.trans (z2.symm.trans m.symm)
   have GS:∀j,j≠id->Tr B d R B (d.via (eH id nb (aC p))) z j:=by
    intro j hj;by_cases m:j=nb
    .subst m;exact Tr.nJ (by rw[I]) (by rw[I];exact ot _) (by rw[I])
    .refine gx.tr ⟨J j hj m,λb kk C N M=>⟨rfl,?_⟩⟩ K hR.dom;obtain⟨j',q⟩:=kk;simp only at M;subst M;rw[N];exact f j' hj m b q N
   have tr:∀j,Tr w ω s B (d.via (eH id nb (aC p))) z j:=by
    intro j;by_cases k:j=id
    .subst k;refine Tr.Bz ho (by rw[G]) (by rw[G];show _<_+2;omega) (by rw[G]) (tN Ff p e U x x' hf F) (λb C=>(D b [] C Gm).2) (λv hv=>?_);refine qm p [] e U x x' v hf F (λb rr _ N hn=>D b rr N hn) (λY AZ=>?_) hv;refine Ty.fF (.sl c.e c.cs) (nb,[]) (j,aC p) Y y (λb rr C N=>⟨rfl,?_⟩) (Q Y AZ);have N:d b=some (nb,rr):=N;rw[cr N];unfold eH;rw[cz rfl]
    .exact((Ej j).trans (A.tr j)).trans (GS j k)
   have Gu:∀i,bh base W i->(⟨z.sl,λi=>if i=id then⟨0,0,0,.gone⟩else z.ob i⟩:S).ob i=R.ob i:=by
    intro i X;have k:i≠id:=λe=>by subst e;exact He X
    have m:i≠nb:=λe=>by subst e;exact hW X
    simp only[bc k];exact J i k m
   obtain⟨GP,GQ⟩:=A.res _ Gu;have Hw:∀j,Tr B d (⟨z.sl,λi=>if i=id then⟨0,0,0,.gone⟩else z.ob i⟩:S) B (d.via (eH id nb (aC p))) z j:=by
    intro j;by_cases k:j=id
    .subst k;refine dj.tr ?_;unfold dj;simp only[if_true];rw[G,HS];exact F9
    .have P:z.ob j=(⟨z.sl,λi=>if i=id then⟨0,0,0,.gone⟩else z.ob i⟩:S).ob j:=by simp only[bc k]
     by_cases m:j=nb
     .subst m;exact Tr.nJ (by rw[<-P]) (by rw[<-P];exact aJ _) (by rw[I])
     .refine gx.tr ⟨P,λb kk C N M=>⟨rfl,?_⟩⟩ K hR.dom;obtain⟨j',q⟩:=kk;simp only at M;subst M;rw[N];exact f j' k m b q N
   refine⟨d.via (eH id nb (aC p)),?_,hE,cQ.frame K Hw GP⟩;exact
   {dH:=h.dH.ext hE
    inj:=qy hR.inj yy
    dom:=qx hR.dom
    defers:=h.defers
    slots:=λi=>by
     have:z.sl=s.sl:=by rw[<-l];exact A.sl
     rw[this];exact cQ.frame hE tr (h.slots i)
    dJ:=by rw[J 0 (c6 h0) (c6 hnb)];exact hR.dJ
    c7:=λj cells o=>by
     have k:j≠id:=λe=>by subst e;rw[G]at o;cases o
     have m:j≠nb:=λe=>by subst e;rw[I]at o;cases o
     by_cases X:bh base W j
     .obtain⟨b,arr,T,q1,q2,q3⟩:=GQ j cells X (by simp only[bc k];exact o);exact⟨b,arr,T,f j k m b [] q1,q2,q3.mono λ_ _ hl=>bU.frame K Hw hl⟩
     .have hnl:¬L j:=λhl=>(A.gz j hl).2 X cells (by rw[<-J j k m];exact o);obtain⟨k1,k2⟩:=A.kept j X hnl;rw[J j k m,k1,yX j k m]at o;obtain⟨b,arr,T,q1,q2,q3⟩:=h.c7 j cells o;have V:ω.via (dy id nb (aC p)) b=some (j,[]):=by rw[cr q1];unfold dy;rw[bc k,bc m]
      obtain⟨m1,m2⟩:=k2 b [] V;exact⟨b,arr,T,f j k m b [] m2,m1.trans q2,q3.mono λ_ _ hl=>bU.frame hE tr hl⟩ }
end
end Go.R
namespace Go.R
variable {H:Nat->Value}
section
variable {R:Type}{P:Program}{E:Env}{Ψ:bA->Option hJ}{ω:aq}{a:Act}{w:World}{s:S}{k:S->Option R}{r:R}{o:Oper}{Q:Exit->Act->World->Prop}
def ze(h:Rel H ω a w s)(E:Env):∀(args:List Operand) (b:List Nat),args.length=b.length->aH (cQ H w ω s) (args.map a.eval) ((args.zip b).map λp=>ev E s p.2 p.1)
 |[],[],_=>trivial
 |x::args,t::b,c=>⟨bE h E t x,ze h E args b (by simpa using c)⟩
 |[],_::_,c=>by cases c
 |_::_,[],c=>by cases c
def zl:∀(b:List Value) (a:List (cU real)),aH (λv c=>gK w ω s v c) b a->aH (cQ H w ω s) b (a.map cU.tv)
 |[],[],_=>trivial
 |v::b,c::a,h=>⟨by cases c <;> exact h.1,zl b a h.2⟩
 |[],_::_,h=>h.elim
 |_::_,[],h=>h.elim
def aH.set{α f:Type}{r:α->f->Prop}:∀ {d:List α} {g:List f} (h:aH r d g) (i:Nat) {a:α} {b:f},d[i]? = some a->r a b->aH r d (g.set i b)
 |[],[],_,_,_,_,c,_=>by simp at c
 |j::_,_::_,h,0,a,b,c,e=>by simp at c;subst c;exact⟨e,h.2⟩
 |_::_,_::_,h,i+1,_,_,c,e=>⟨h.1,aH.set h.2 i (by simpa using c) e⟩
 |[],_::_,h,_,_,_,_,_=>h.elim
 |_::_,[],h,_,_,_,_,_=>h.elim
def sU:∀ {a:List Sh},(a.all λb=>b.eG||b.flat)=true->eC a=[]
 |[],_=>rfl
 |b::a,h=>by rw[oo,aQ]at h;rw[lK,sU h.2];cases b <;> first|rfl|cases h.1
def pe:∀(a:List Sh),dZ a=au a
 |[]=>rfl
 |b::a=>by simp only[dZ,au,fm,List.sum_cons];rw[pe a];rfl
def D7{α:Type}{b:Bool}{x y:α}(h:b=true):(bif b then x else y)=x:=by rw[h];rfl
def D6{α:Type}{b:Bool}{x y:α}(h:b=false):(bif b then x else y)=y:=by rw[h];rfl
def zv{F:hJ}(y:fE real ((F.bf.map Sh.ks).flatten++(dY F.look F.args++(eC F.args).flatten))):((bJ (A:=real) ((F.bf.map Sh.ks).flatten++(dY F.look F.args++(eC F.args).flatten)) y).take (F.bf.map Sh.ks).flatten.length).map (λv:KV real=>v.1)=(F.bf.map Sh.ks).flatten:=by rw[xP,lm,gV];rfl
def we {F:hJ} {GW d:Nat} (hc:ec P GW F) (W:F.look=true) (b2:F.bf.all Sh.flat=true) (b1:(F.args.all λu=>u.eG||u.flat)=true) (b3:(F.bf.all λu=>u.ks.all K.closed)=true) (b4:(F.args.all λu=>u.outs.all K.closed)=true)
  (h:Rel H ω a w s) {j:List Value} {c:List bK} (q:aH (cQ H w ω s) j c) {k:bK->S->Option R} (I:jU (av R) (F.callee R) d c s k=some r):
  Calls P GW j.toArray w λe w'=>∃v f s3 t L,e=.returned v/\Rel H f a w' s3/\xE H ω w s f w' s3 (aD d 0 0) (au F.bf) L v t/\k t s3=some r:=by
 obtain⟨_,n⟩:=hc;unfold jU at I;obtain⟨p,l1,Z⟩:=ah I;obtain⟨vs,N,EN⟩:=ah Z;obtain⟨x,l3,g⟩:=ah EN;have l1:jV (dl F.args) (aY F.args c) s=some p:=l1;have N:dI F.args c s p=some vs:=N;have g:((F.fn x).bind λy=>af (av R) (jn F.args c ((bJ _ y).drop (F.bf.map Sh.ks).flatten.length) p) λM=>k (TV.nk (aV (aD d 0 0) F.bf ((bJ _ y).take (F.bf.map Sh.ks).flatten.length) M).1) (aV (aD d 0 0) F.bf ((bJ _ y).take (F.bf.map Sh.ks).flatten.length) M).2)=some r:=g;cases hy:F.fn x with
 |none=>rw[hy]at g;cases g
 |some y=>
  rw[hy]at g;obtain⟨M,l4,FD⟩:=ah (show af (av R) (jn F.args c ((bJ _ y).drop (F.bf.map Sh.ks).flatten.length) p) _=some r from g);have l4:jf (dl F.args) (aY F.args c) ((bJ _ y).drop (F.bf.map Sh.ks).flatten.length) p=some M:=l4;have U:=sU b1;have D:((bJ _ y).drop (F.bf.map Sh.ks).flatten.length).map (λv:KV real=>v.1)=(F.args.map Sh.outs).flatten:=by
   rw[xO,lm,lY,U]
   .unfold dY;rw[W];simp
   .rfl
  have Y:((bJ _ y).drop (F.bf.map Sh.ks).flatten.length).length<=(dY F.look F.args).length:=by have:=gi List.length D;rw[mZ]at this;rw[this];unfold dY;rw[W];exact aJ _
  obtain⟨c1,T⟩:=mz q N;have c3:(aY F.args c).length=(b8 F.args j).length:=T.length.symm;obtain⟨m1,m2,J,O,m5⟩:=mM (dl F.args) (aY F.args c) (b8 F.args j) 1 (1+au F.args+au F.bf) s p c3 l1;obtain⟨n1,n2⟩:=nF (dl F.args) (aY F.args c) (b8 F.args j) 1 (1+au F.args+au F.bf);have C:ql (bB (dl F.args) (aY F.args c) (b8 F.args j) 1 (1+au F.args+au F.bf)):=⟨O,n2⟩
  have X:=uF (dl F.args) (aY F.args c) (b8 F.args j) 1 (1+au F.args+au F.bf) T;have V:=uG (dl F.args) (aY F.args c) (b8 F.args j) 1 (1+au F.args+au F.bf);have z:=nM h C (dl F.args) (aY F.args c) (b8 F.args j) 1 (1+au F.args+au F.bf) T (λt m=>m);have A:=λw' cu=>xY (w':=w') (cu:=cu) (dl F.args) (aY F.args c) (b8 F.args j) ((bJ _ y).drop (F.bf.map Sh.ks).flatten.length) 1 (1+au F.args+au F.bf) p M c3 c1 l4
   (by rw[<-tJ];exact D)
  revert m1 m2 J O n1 C X V z A;generalize bB (dl F.args) (aY F.args c) (b8 F.args j) 1 (1+au F.args+au F.bf)=es;intro m1 m2 J O n1 C X V z A;have hS:pV s p:=by
   intro i hg;by_cases E:∃t∈es,ef t.l=some i
   .obtain⟨t,m,G⟩:=E;rw[(J t m i G).2]at hg;exact absurd rfl hg
   .exact m2 i λt m G=>E ⟨t,m,G⟩
  have hH:Hid ω p (aq.gz w ω es):=Ca λt m i G=>by rw[(J t m i G).2]
  have g3:=rC h hS hH F.args c j vs 1 b1 q z N;have Gq:vs=bJ ((F.args.map Sh.ks).flatten) x:=(gJ _ _ _ l3).symm;rw[Gq]at g3;have hC:=n w (aq.gz w ω es) j x y (h.dH.own λb hb=>by unfold aq.gz;rw[hb]) (Cb C h.inj) (B9 h.dom) g3 hy;refine Calls.mono hC λe w' he=>?_;obtain⟨v,cu,rfl,t1,t2,t3,t4,Q⟩:=he;have Q:=Q.1 W;rw[zX Y]at Q;obtain⟨k1,k2,k3⟩:=A w' cu Q O;have o:∀t∈es,(t.cs.plain||t.d)=true:=by intro t m;obtain⟨l,q1,q2⟩:=xQ.1 (V t m);obtain⟨u,q3,rfl⟩:=eJ.1 q1;have:=ed.1 (ed.1 b4 u q3) (.arr t.e t.cs t.d) (List.mem_filter.2 ⟨q2,rfl⟩);exact this
  obtain⟨f,z1,z2⟩:=xJ h C m1 X o m2 J m5 k1 k2 k3 (base:=aD d 0 0) (B:=1+au F.args) (xV (da _ _ _)) (by omega) b2 (zv y) b3 (λt m=>(n1 t m).2.2) t1 t2 t3 t4;exact⟨v,f,_,_,_,rfl,z1,z2,FD⟩
def uc(GB:∀f F,Ψ f=some F->ec P f.1 F):eA P E Ψ:=by
 intro H R o f args J ω a w s k r Q ho h hd j;have hf:=bE h E 0 f;unfold aL at j;simp only[ho]at j;cases hsz:Nat.beq args.size J.size with
 |false=>rw[hsz]at j;cases j
 |true=>
  rw[hsz]at j;simp only[az]at j;have Bb:args.toList.length=J.toList.length:=by simpa using bn hsz
  cases O:ev E s 0 f with
  |agg _=>rw[O]at j;cases j
  |ol _=>rw[O]at j;cases j
  |pQ _ _=>rw[O]at j;cases j
  |one l=>
   rw[O]at j hf;cases l with
   |fn z cc=>
    simp only at j;obtain⟨Hz,h1,d⟩:=ah j;have hF:∃q F,Ψ (z,q)=some F/\Hz=F.callee R:=by
     unfold tab at h1;cases hq:Ψ (z,wB ((args.toList.zip J.toList).map λp=>ev E s p.2 p.1))with
     |none=>rw[hq]at h1;cases h1
     |some F=>rw[hq]at h1;exact⟨_,F,hq,(aG h1).symm⟩
    obtain⟨q,F,HG,rfl⟩:=hF;clear j h1;have C:ec P z F:=GB _ F HG;obtain⟨⟨fn,c,p1,p2,p3⟩,N⟩:ec P z F:=(id C)
    unfold nc at d;cases V:qn (F.callee R)with
    |false=>rw[V]at d;cases d
    |true=>
     rw[V]at d;simp only[az]at d;unfold qn at V;rw[aQ]at V;have n:=V.2;have hlk:(F.callee R).look=F.look:=rfl;obtain⟨cv,e1,e2⟩:=hf;have g:=(ze h E args.toList J.toList Bb).iP (zl cv cc e2);revert d;generalize (List.map (λp=>ev E s p.snd p.fst) (args.toList.zip J.toList)++List.map cU.tv cc)=CM at g;intro d;have G:(execOp a.eval o).run P w=.ok (.enter z (args.toList.map a.eval++cv).toArray) w:=by
      unfold execOp;simp only[ho,resolve,e1,Deferred.ofValue];have Z:#[]++args.map a.eval++cv.toArray=(args.toList.map a.eval++cv).toArray:=by apply vg;simp
      simp only[Sem.run_bind,Sem.run_pure,Result.andThen_ok,invoke];rw[Z];exact MuLone.run_callFunc_enter p1 p2 p3 _ w
     cases hL:F.look with
     |true=>
      rw[D7 (hlk.trans hL)]at d n;simp only[aQ]at n;obtain⟨b2,b1,b3,b4⟩:=n;have b2:F.bf.all Sh.flat=true:=b2;have b1:(F.args.all λsh=>sh.eG||sh.flat)=true:=b1;have b3:(F.bf.all λsh=>sh.ks.all K.closed)=true:=b3;have b4:(F.args.all λsh=>sh.outs.all K.closed)=true:=b4;have hw:dZ F.bf<=2047:=dS V.1;rw[pe]at hw;cases hsp:dO (aD (o.dst.getD 0) 0 0+2047) (F.callee R).args CM s with
      |none=>rw[hsp]at d;have hC:=we (k:=λv s=>k (s.bI o.dst v)) C hL b2 b1 b3 b4 h g d;unfold Oper.wp;rw[G];simp only[Oper.upon];refine Calls.mono hC λe w' he=>?_;obtain⟨v,X,s3,t,L,rfl,z1,z2,D⟩:=he;exact dV z1 z2.ext hd (z2.res s3 (λ_ _=>rfl)).1 D
      |some q=>
       rw[hsp]at d;obtain⟨args',s',ho⟩:=q;obtain⟨i,id,gg,hh,p,r1,q1,U,q3,q4⟩:=oW hsp;obtain⟨c,e,cs,x,I,GK,GL,IE⟩:=oV q3;subst IE;injection q4 with q4 q5
       injection q5 with q5 q6
       subst q4;subst q5;subst q6;have hnb:aD (o.dst.getD 0) 0 0+2047≠0:=by have:=da (o.dst.getD 0) 0 0;omega
       obtain⟨EL,_,_,Ej,hnew⟩:=rW h U I GK GL hnb;obtain⟨u,Ik,T⟩:=g.get i _ q1;have T:bU w ω s u (.ref id gg hh p):=T;have AY:c.md=2:=by
        rcases(dz I).2 with ⟨_,_,f2,_⟩|⟨_,_,_,_,_,_,f4⟩|⟨_,f2,_⟩
        .exact absurd f2 U
        .exact fg 2 p _ _ _ c f4
        .exact absurd f2 U
       have FJ:(Ty.sl c.e c.cs).R w ω (.deep (id,aC p)) u c.x:=by have:=T.2.2 c I;rw[AY]at this;exact this
       have Y:=aH.set (aH.mono (λ_ _ hq=>cQ.frame (rW h U I GK GL hnb).2.1 Ej hq) g) i Ik (show cQ H w _ _ u (.one (.ref _ _ _ []))from hnew u FJ);have hC:=we (k:=λv W=>af (av R) (jG (A:=real) _ W) λs3=>k (s3.bI o.dst v)) C hL b2 b1 b3 b4 EL Y d;unfold Oper.wp;rw[G];simp only[Oper.upon];refine Calls.mono hC λe w' he=>?_;obtain⟨v,X,s3,t,L,rfl,z1,z2,D⟩:=he;obtain⟨s4,hm,HY⟩:=ah D;obtain⟨FQ,y1,y2,y3⟩:=Ci h U I GK GL hnb (by unfold bh;omega) T z1 z2 hm;exact dV y1 y2 hd y3 HY
     |false=>
      rw[D6 (hlk.trans hL)]at d n;have b2:F.bf.all Sh.qg=true:=n;have d:(bif Nat.ble (aD (o.dst.getD 0) 0 0+dZ F.bf) cO&&apart (aD (o.dst.getD 0) 0 0) (dZ F.bf) (bV F.args CM)then
        af (av R) (bz F.args CM s) λr=>af (av R) (kL ((F.args.map Sh.ks).flatten) r.1) λx=>(F.fn x).bind λy=>af (av R) (iQ (eC F.args) (bV F.args CM) ((bJ _ y).drop (F.bf.map Sh.ks).flatten.length) r.2) λW=>k ((aV (aD (o.dst.getD 0) 0 0) F.bf ((bJ _ y).take (F.bf.map Sh.ks).flatten.length) W).2.bI o.dst (TV.nk (aV (aD (o.dst.getD 0) 0 0) F.bf ((bJ _ y).take (F.bf.map Sh.ks).flatten.length) W).1))
        else none)=some r:=d
      cases hc:(Nat.ble (aD (o.dst.getD 0) 0 0+dZ F.bf) cO&&apart (aD (o.dst.getD 0) 0 0) (dZ F.bf) (bV F.args CM))with
      |false=>rw[hc]at d;cases d
      |true=>
      rw[hc]at d;simp only[az]at d;rw[aQ]at hc;obtain⟨M,EM⟩:=hc;have M:=dS M;rw[pe]at M EM;obtain⟨⟨vs,W⟩,h2,Gg⟩:=ah d;obtain⟨x,h3,S⟩:=ah Gg;obtain⟨eD,m,q1,U,q3,q4⟩:=iH _ _ _ ω s vs W 1 h g h2;have g3:fI w (eD.c8 m) 1 F.args vs (args.toList.map a.eval++cv):=q4 eD W _ (di.refl _ _) (sF U);have Gq:vs=bJ ((F.args.map Sh.ks).flatten) x:=(gJ _ _ _ h3).symm;cases hy:F.fn x with
      |none=>rw[hy]at S;cases S
      |some y=>
       rw[hy]at S;obtain⟨s3,l4,D⟩:=ah (show af (av R) (iQ (eC F.args) (bV F.args CM) ((bJ _ y).drop (F.bf.map Sh.ks).flatten.length) W) _=some r from S);have hC:=N w (eD.c8 m) (args.toList.map a.eval++cv) x y (q1.rel.dH.own λb V=>jZ V) (wh U (by omega) q1.rel.inj) (wg q1.rel.dom) (by rw[<-Gq];exact g3) hy;unfold Oper.wp;rw[G];simp only[Oper.upon];refine Calls.mono hC λe w' he=>?_;obtain⟨v,cu,rfl,t1,t2,t3,t4,_,t5⟩:=he;have Ia:(dY F.look F.args).length=0:=by unfold dY;rw[hL];rfl
       rw[Ia]at t5;obtain⟨X,z1,z2,z3⟩:=xK h g h2 q1 U g3 (base:=aD (o.dst.getD 0) 0 0) (B:=1+au F.args) (xV (da _ _ _)) (by omega) b2 (zv y) M EM t1 t2 t3 t4 l4 t5;exact dV z1 z2 hd z3 D
   |_=>cases j
end
def uD(args:List Sh)(a:List (KV real)):S:=let q:=aV 1 args a St.start;ir (List.range args.length) q.1 q.2
def CC(E:Env)(s:S):ResultVar->Option bK
 |.tmp t=>some (s.sl t)
 |.cell a t=>match E.ti t,s.sl a with
  |some i,.one l=>jg s i.agg i.cs.len l
  |_,_=>none
def nV(E:Env)(s:S):List ResultVar->Option (List bK)
 |[]=>some []
 |v::a=>match CC E s v,nV E s a with
  |some x,some xs=>some (x::xs)
  |_,_=>none
def Sh.kv(a:Bool)(b:Sh):Bool:=(bif a then b.outs.isEmpty else true)&&b.DT.isEmpty
def fB(a:Bool):Nat->List Sh->List Nat
 |_,[]=>[]
 |j,c::b=>bif c.kv a then fB a (j+1) b else j::fB a (j+1) b
def wD(a:Bool)(args:List Sh)(c:Code):Bool:=(fB a 0 args).isEmpty||b9 (fB a 0 args) c
def finish(E:Env)(c:Code)(a:Bool)(args bf:List Sh)(ks:List K)(b:List ResultVar)(s:S):Option (fE real ks):=
 bif wD a args c then
 match nV E s b with
 |some d=>match bz bf d s with
  |some (i,f)=>match takes (dY a args) (bif a then pick (dl args) (aY args ((List.range args.length).map s.sl))else []) f with
   |some (h,g)=>match bz ((eC args).map .blk) ((bV args ((List.range args.length).map s.sl)).map .one) g with
    |some (e,_)=>kL ks (i++(h++e))
    |none=>none
   |none=>none
  |none=>none
 |none=>none
 else none
def Ex.done:Ex->Bool
 |.normal |.ret=>true
 |_=>false
section
variable {R:Type}{P:Program}{E:Env}{Ψ:bA->Option hJ}{Λ:Nat->Option dR}{ω:aq}{a:Act}{w:World}{s:S}{k:S->Option R}{r:R}{o:Oper}{Q:Exit->Act->World->Prop}
def wX(b:Array Value):ResultVar->Sem Value
 |.tmp t=>pure (b.getD t undef)
 |.cell a t=>do loadVar t (<- asAddr (b.getD a undef))
def uS{t:Nat}{p v:Value}(h:(Instr.loadAt t p).run P w=.ok v w)(a:∃A,p=.pointer (some A)):(do loadVar t (<- asAddr p):Sem Value).run P w=.ok v w:=by obtain⟨A,rfl⟩:=a;simpa[Instr.loadAt,Instr.sureAddr,asAddr] using h
def An{l:L}{v:Value}{z:bK}{agg:Bool}{n:Nat}(i:bU w ω s v l)(a:jg s agg n l=some z):∃A,v=.pointer (some A):=by
 cases l with
 |ptr id g d=>
  simp only[jg]at a;cases k:dm s id g with
  |none=>rw[k]at a;cases a
  |some cells=>obtain⟨m,o⟩:=cM k;obtain⟨b,_,q⟩:=i.2 m cells o;exact⟨_,q⟩
 |bH id g r p j d=>
  simp only[jg]at a;cases h:s.cont id g r p with
  |none=>rw[h]at a;cases a
  |some c=>
   rw[h]at a;simp only at a;have t:c.md≠0:=by intro e;rw[e]at a;cases a
   obtain⟨_,_,⟨b,_,f⟩,_⟩:=i.2.2 c h t;exact⟨_,f⟩
 |ei u x d=>obtain⟨b,y,_,_,f,_⟩:=i;exact⟨_,f⟩
 |_=>cases a
def CD(p:bD P E)(h:Rel H ω a w s):∀(f:List ResultVar) (g:List bK),nV E s f=some g->∃m:List Value,(f.mapM (wX a.tmps)).run P w=.ok m w/\aH (cQ H w ω s) m g
 |[],g,e=>by have e:=aG e;subst e;exact⟨[],rfl,trivial⟩
 |v::f,g,e=>by
  simp only[nV]at e;cases b:CC E s v with
  |none=>rw[b]at e;cases e
  |some x=>
   cases n:nV E s f with
   |none=>rw[b,n]at e;cases e
   |some xs=>
    rw[b,n]at e;have e:=aG e;subst e;obtain⟨m,r,y⟩:=CD p h f xs n;have q:∃u,(wX a.tmps v).run P w=.ok u w/\cQ H w ω s u x:=by
     cases v with
     |tmp t=>have b:=aG b;subst b;exact⟨_,rfl,h.slots t⟩
     |cell c t=>
      simp only[CC]at b;cases o:E.ti t with
      |none=>rw[o]at b;cases b
      |some i=>
       rw[o]at b;have j:=h.slots c;cases k:s.sl c with
       |one l=>rw[k]at b j;obtain⟨I,d,ok⟩:=p.ti _ _ o;obtain⟨u,B,C⟩:=wL h ok j b;exact⟨u,uS B (An j b),C⟩
       |agg _=>rw[k]at b;cases b
       |ol _=>rw[k]at b;cases b
       |pQ _ _=>rw[k]at b;cases b
    obtain⟨u,z,A⟩:=q;refine⟨u::m,?_,A,y⟩;simp[vO,z,r]
def yG{fn:Func}{b:List Value}(h:(fn.results.toList.mapM (wX a.tmps)).run P w=.ok b w):(results fn a.tmps).run P w=.ok (match b with |[u]=>u|b=>.tuple b.toArray) w:=by
 have e:(fn.results.mapM (wX a.tmps)).run P w=.ok b.toArray w:=by rw[<-Array.toArray_toList (xs:=fn.results),List.mapM_toArray];simp[h]
 have d:results fn a.tmps=(do let c <- fn.results.mapM (wX a.tmps);pure (if h:c.size=1 then c[0]else .tuple c)):=by unfold results;congr 1
 rw[d,Sem.run_bind,e];match b with
 |[]=>rfl
 |[u]=>rfl
 |_::_::_=>rfl
def nR{a:Bool}:∀(b:List Sh) (d i:Nat) (e:Sh),b[i]? = some e->e.kv a=false->d+i∈fB a d b
 |[],_,i,_,h,_=>by simp at h
 |e::b,d,0,f,h,c=>by simp at h;subst h;simp only[fB,c,aW];simp
 |e::b,d,i+1,f,h,c=>by
  have:=nR b (d+1) i f (by simpa using h) c;rw[show d+1+i=d+(i+1)by omega]at this;simp only[fB];cases e.kv a with
  |true=>exact this
  |false=>exact gL _ this
def wR{a:Sh}(h:a.outs≠[]):a.kv true=false:=by
 unfold Sh.kv;cases b:a.outs.isEmpty with
 |true=>exact absurd (xN.1 b) h
 |false=>rfl
def yA{a:Bool}{b:Sh}(h:b.DT≠[]):b.kv a=false:=by
 unfold Sh.kv;cases c:b.DT.isEmpty with
 |true=>exact absurd (xN.1 c) h
 |false=>simp
def Ah{a:Bool}{args:List Sh}{c:Code}(h:wD a args c=true){j:Nat}(b:j∈fB a 0 args):b9 [j] c=true:=by
 unfold wD at h;rw[gd]at h;rcases h with h|h
 .rw[xN.1 h]at b;cases b
 .exact ep b c h
def eO:∀(a:List Cp) (b:List Value),aH (cQ H w ω s) (vA a b) ((qR (A:=real) a []).map .one)
 |[],_=>trivial
 |.ro _::r,[]=>eO r []
 |.ro _::r,_::b=>eO r b
 |.mu _::r,[]=>⟨trivial,eO r []⟩
 |.mu _::r,_::b=>⟨trivial,eO r b⟩
def zn:∀(a:List Cp) (d:List Value) (b:List (cU real)),aH (λv c=>gK w ω s v c) d b->aH (cQ H w ω s) (vA a d) ((qR a b).map .one)
 |[],_,_,_=>trivial
 |_::_,[],_::_,h=>h.elim
 |_::_,_::_,[],h=>h.elim
 |.ro _::r,[],[],_=>eO r []
 |.mu _::r,[],[],_=>⟨trivial,eO r []⟩
 |.ro _::r,_::d,_::b,h=>zn r d b h.2
 |.mu _::r,_::d,.ptr id g::b,h=>⟨h.1,zn r d b h.2⟩
 |.mu _::r,_::d,.ro _ _::b,h=>⟨trivial,zn r d b h.2⟩
def jq:∀(a:List Cp) (c:List Value) (b:List (cU real)),CU a=[]->vA a c=[]/\qR a b=[]
 |[],_,b,_=>⟨rfl,by cases b <;> rfl⟩
 |.mu _::_,_,_,h=>by cases h
 |.ro _::r,[],[],h=>jq r [] [] h
 |.ro _::r,_::c,[],h=>jq r c [] h
 |.ro _::r,[],_::b,h=>jq r [] b h
 |.ro _::r,_::c,_::b,h=>jq r c b h
def EZ:∀(k:List Sh) (o:List Value) (m:List bK),k.length=o.length->k.length=m.length->(∀(i:Nat) n u tv,k[i]? = some n->n.DT≠[]->o[i]? = some u->m[i]? = some tv->cQ H w ω s u tv)->aH (cQ H w ω s) (ek k o) ((bV k m).map .one)
 |[],[],[],_,_,_=>trivial
 |[],_::_,_,h,_,_=>by cases h
 |[],_,_::_,_,h,_=>by cases h
 |_::_,[],_,h,_,_=>by cases h
 |_::_,_,[],_,h,_=>by cases h
 |n::k,u::o,tv::m,v,x,q=>by
  have z:=EZ k o m (by simpa using v) (by simpa using x) (λi n u tv a b c d=>q (i+1) n u tv (by simpa using a) b (by simpa using c) (by simpa using d));simp only[ek,bV,List.map_append];refine aH.iP ?_ z;cases n with
  |blk ks=>
   have:=q 0 _ u tv rfl (λe=>by cases e) rfl rfl;cases tv with
   |one l=>exact⟨this,trivial⟩
   |agg _=>exact⟨trivial,trivial⟩
   |ol _=>exact⟨trivial,trivial⟩
   |pQ _ _=>exact⟨trivial,trivial⟩
  |qa f g=>
   show aH (cQ H w ω s) ((Sh.qa f g).C0 u) ((Sh.DU (A:=real) (.qa f g) tv).map TV.one);unfold Sh.C0;simp only;by_cases p:CU g=[]
   .have B:∀X:List Value,vA g X=[]:=λX=>(jq g X [] p).1;have C:Sh.DU (A:=real) (.qa f g) tv=[]:=by
     unfold Sh.DU;split
     .rename_i j;cases j
     .rename_i j _;cases j
     .rename_i j;cases j;exact(jq g [] _ p).2
     .rename_i j _;cases j;exact(jq g [] [] p).2
     .rfl
    rw[B,C];trivial
   .have:=q 0 _ u tv rfl p rfl rfl;cases tv with
    |one l=>
     cases l with
     |fn D r=>obtain⟨t,rfl,y⟩:=this;exact zn g t r y
     |_=>exact eO g _
    |agg _=>exact eO g _
    |ol _=>exact eO g _
    |pQ _ _=>exact eO g _
  |_=>trivial
def rP{α:Type}:∀(ks a:List K) (xs b:List α),ks.length=xs.length->pick (ks++a) (xs++b)=pick ks xs++pick a b
 |[],_,[],_,_=>rfl
 |[],_,_::_,_,h=>by cases h
 |_::_,_,[],_,h=>by cases h
 |k::ks,a,x::xs,b,h=>by simp only[kR,pick];rw[rP ks a xs b (by simpa using h)];cases k.iR <;> rfl
def tL{α:Type}:∀(ks:List K) (xs:List α),ks.filter K.iR=[]->pick ks xs=[]
 |[],_,_=>rfl
 |_::_,[],_=>rfl
 |k::ks,x::xs,h=>by
  simp only[pick];rw[List.filter_cons]at h;cases a:k.iR with
  |true=>rw[a]at h;simp at h
  |false=>rw[a]at h;exact tL ks xs h
def aH.pick{α e:Type}{r:α->e->Prop}:∀(ks:List K) {c:List α} {d:List e},aH r c d->aH r (Go.R.pick ks c) (Go.R.pick ks d)
 |[],c,d,_=>by cases c <;> cases d <;> trivial
 |_::_,[],[],_=>trivial
 |k::ks,a::c,b::d,h=>by
  simp only[Go.R.pick];cases k.iR with
  |true=>exact⟨h.1,aH.pick ks h.2⟩
  |false=>exact aH.pick ks h.2
 |_::_,[],_::_,h=>h.elim
 |_::_,_::_,[],h=>h.elim
def oF:∀(a:List Value) (ks:List K),ks.length=a.length->aH (bU w ω s) a (ks.map λ_=>.dead)
 |[],[],_=>trivial
 |[],_::_,h=>by cases h
 |_::_,[],h=>by cases h
 |u::a,k::ks,h=>⟨trivial,oF a ks (by simpa using h)⟩
def Aa(a:Sh)(tv:bK):a.sP.length=(a.cells tv).length:=by
 cases a with
 |one k=>cases tv <;> rfl
 |agg ks=>
  cases tv with
  |agg ls=>
   simp only[Sh.cells,Sh.sP];cases b:Nat.beq ls.length ks.length with
   |true=>exact(bn b).symm
   |false=>simp
  |_=>simp[Sh.cells,Sh.sP]
 |_=>rfl
def Dc{a:Sh}{u:Value}{tv:bK}(b:a.sP.length=(a.vals u).length)(h:cQ H w ω s u tv):aH (bU w ω s) (a.vals u) (a.cells tv):=by
 cases a with
 |one k=>
  cases tv with
  |one l=>exact⟨h,trivial⟩
  |_=>exact⟨trivial,trivial⟩
 |agg ks=>
  cases tv with
  |agg ls=>
   obtain⟨cells,c,d⟩:=h;simp only[Sh.cells];cases f:Nat.beq ls.length ks.length with
   |true=>
    have e:(Sh.agg ks).vals u=cells:=by subst c;simp[Sh.vals,Value.cells]
    rw[e];exact d
   |false=>exact oF _ _ b
  |_=>exact oF _ _ b
 |_=>trivial
def Cy:∀(e:List Sh) (j:List Value) (g:List bK),e.length=j.length->e.length=g.length->(∀(i:Nat) f u,e[i]? = some f->j[i]? = some u->f.sP.length=(f.vals u).length) ->
  (∀(i:Nat) f u tv,e[i]? = some f->f.outs≠[]->j[i]? = some u->g[i]? = some tv->cQ H w ω s u tv)->aH (bU w ω s) (pick (dl e) (b8 e j)) (pick (dl e) (aY e g))
 |[],[],[],_,_,_,_=>trivial
 |[],_::_,_,h,_,_,_=>by cases h
 |[],_,_::_,_,h,_,_=>by cases h
 |_::_,[],_,h,_,_,_=>by cases h
 |_::_,_,[],_,h,_,_=>by cases h
 |f::e,u::j,tv::g,r,t,k,l=>by
  have o:=k 0 f u rfl rfl;have v:=Cy e j g (by simpa using r) (by simpa using t) (λi f u a b=>k (i+1) f u (by simpa using a) (by simpa using b)) (λi f u tv a b c d=>l (i+1) f u tv (by simpa using a) b (by simpa using c) (by simpa using d));have p:pick (dl (f::e)) (b8 (f::e) (u::j))=pick f.sP (f.vals u)++pick (dl e) (b8 e j):=rP _ _ _ _ o;have q:pick (dl (f::e)) (aY (f::e) (tv::g))=pick f.sP (f.cells tv)++pick (dl e) (aY e g):=rP _ _ _ _ (Aa f tv);rw[p,q];refine aH.iP ?_ v;by_cases m:f.outs=[]
  .have n:∀ {α:Type} (xs:List α),pick f.sP xs=[]:=λxs=>tL _ _ m;rw[n,n];trivial
  .exact aH.pick _ (Dc o (l 0 f u tv rfl m rfl rfl))
def CN{b:Nat}{a:Sh}{c:List (KV real)}{u:Value}(f:c.length=a.ks.length)(h:AX w ω b a c u):a.sP.length=(a.vals u).length:=by
 cases a with
 |one k=>rfl
 |agg ks=>obtain⟨cells,d,e⟩:=h;subst d;have:=e.length;simp only[Sh.sP,Sh.vals,Value.cells];simp only[Sh.ks]at f;omega
 |_=>rfl
def uh:∀(a:List Sh) (j:List (KV real)) (e:List Value) (b:Nat),fI w ω b a j e->∀(i:Nat) c u,a[i]? = some c->e[i]? = some u->c.sP.length=(c.vals u).length
 |[],_,_,_,_,i,c,u,h,_=>by simp at h
 |_::_,_,[],_,h,_,_,_,_,_=>h.elim
 |c::a,j,u::e,b,h,0,d,k,f,g=>by simp at f g;subst f;subst g;exact CN h.1 h.2.1
 |c::a,j,u::e,b,h,i+1,d,k,f,g=>uh a _ e _ h.2.2 i d k (by simpa using f) (by simpa using g)
def BR {Ξ:vq} {pl:Nat -> Bool} (hI:jm P E Ξ) (hE:bD P E) (GB:∀f F, Ψ f = some F -> ec P f.1 F) {f:FuncId} {fn:Func} {c:Code} {F:hJ} (z:P.funcs[f]? = some fn) (Q:(fn.name == "runtime.NumGoroutine") = false) (L:fn.body = some c)
  (hnt:fn.ntmps=E.nt) (Hh:F.args.length<=E.nt) (hL:e8 P E Λ (bY 0 c))
  (hfn:∀x,F.fn x=exec E (av _) (tab Ψ _) (Am Λ Ξ pl _) 0 c (uD F.args (bJ _ x)) λex s=>bif ex.done then finish E c F.look F.args F.bf _ fn.results.toList s else none):ec P f F:=by
 refine⟨⟨fn,c,z,Q,L⟩,λw ω g x y Ge hinj hdom Y G8=>?_⟩;rw[hfn]at G8;let H:Nat->Value:=λ_=>undef;have M:g.length=F.args.length:=by
  have:∀(l:List Sh) (t:List (KV real)) (g:List Value) (b:Nat),fI w ω b l t g->g.length=l.length:=by
   intro l;induction l with
   |nil=>intro t g b h;rw[h.2];rfl
   |cons B l ih=>
    intro t g b h;cases g with
    |nil=>exact h.elim
    |cons u g=>simp[ih _ _ _ h.2.2]
  exact this _ _ _ _ Y
 refine calls_of_wp z L ?_;have hsz:(g.toArray++Array.replicate (fn.ntmps-g.toArray.size) undef).size=E.nt:=by simp;omega
 have hR:Rel H ω { tmps:=g.toArray++Array.replicate (fn.ntmps-g.toArray.size) undef,defers:=[] } w (uD F.args (bJ _ x)):=by
  refine rj Ge (by omega) hinj hdom rfl (λ_=>rfl) (λ_=>trivial) Y (λj d hd u hu=>?_);have hj:j<F.args.length:=by have:=(l6.1 hd).1;simpa using this
  have HN:d=j:=by rw[xM hj]at hd;exact(aG hd).symm
  subst HN;rw[fL,xB (by simp;omega)];simp[hu]
 have hx:=iJ hE (uc (E:=E) GB) hI (U:=λj=>wD F.look F.args c=true/\j∈fB F.look 0 F.args) c 0 ω _ w _ _ (λj hj=>Ah hj.1 hj.2) hL hsz hR G8;refine wp_mono hx λe a' D hp=>?_;obtain⟨ex,J,r,q1,q2,q3,q4,q5,q6⟩:=hp;have a:(bif ex.done then finish E c F.look F.args F.bf ((F.bf.map Sh.ks).flatten++(dY F.look F.args++(eC F.args).flatten)) fn.results.toList r else none)=some y:=q4;cases hd:ex.done with
 |false=>rw[hd]at a;cases a
 |true=>
  rw[hd]at a;simp only[az]at a;unfold finish at a;cases R:wD F.look F.args c with
  |false=>rw[R]at a;cases a
  |true=>
  rw[R]at a;simp only[az]at a;cases ht:nV E r fn.results.toList with
  |none=>rw[ht]at a;cases a
  |some CM=>
   rw[ht]at a;simp only at a;cases W:bz F.bf CM r with
   |none=>rw[W]at a;cases a
   |some q=>
    obtain⟨t,s2⟩:=q;rw[W]at a;simp only at a;cases I:takes (dY F.look F.args) (bif F.look then pick (dl F.args) (aY F.args ((List.range F.args.length).map r.sl))else []) s2 with
    |none=>rw[I]at a;cases a
    |some q=>
    obtain⟨Z,s3⟩:=q;rw[I]at a;simp only at a;cases X:bz ((eC F.args).map .blk) ((bV F.args ((List.range F.args.length).map r.sl)).map .one) s3 with
    |none=>rw[X]at a;cases a
    |some q=>
    obtain⟨obs,s4⟩:=q;rw[X]at a;simp only at a;obtain⟨C,u1,u2⟩:=CD hE q2 fn.results.toList CM ht;obtain⟨eD,m,p1,g1,_,r1⟩:=iH F.bf CM C J r t s2 (1+au F.args) q2 u2 W;have O:∀(i:Nat) B u tv,F.args[i]? = some B->B.kv F.look=false->g[i]? = some u->((List.range F.args.length).map r.sl)[i]? = some tv->cQ H D J r u tv:=by
     intro i B u tv z Q L G;have hi:i<F.args.length:=(l6.1 z).1;rw[p6,xM hi]at G;simp only[cj]at G;have G:=aG G;subst G;have N:=nR F.args 0 i B z Q;rw[bC]at N;have V:=q6 i ⟨R,N⟩;have hu:a'.tmps.getD i undef=u:=by rw[V,fL,xB (by simp;omega)];simp[L]
     have:=q2.slots i;rw[hu]at this;exact this
    have T:aH (bU D J r) (bif F.look then pick (dl F.args) (b8 F.args g)else []) (bif F.look then pick (dl F.args) (aY F.args ((List.range F.args.length).map r.sl))else []):=by
     cases hL:F.look with
     |false=>trivial
     |true=>exact Cy F.args g _ M.symm (by simp) (uh _ _ _ _ Y) (λi B u tv z Q L G=>O i B u tv z (by rw[hL];exact wR Q) L G)
    have HJ:aH (cQ H D J r) (ek F.args g) ((bV F.args ((List.range F.args.length).map r.sl)).map .one):=EZ F.args g _ M.symm (by simp) (λi B u tv z Q L G=>O i B u tv z (yA Q) L G);obtain⟨CX,m2,p2,g2,_,_,r2⟩:=gq _ _ _ eD s2 Z s3 (1+au F.args+au F.bf) p1.rel (T.mono λ_ _ hl=>bU.frame p1.ext p1.tr hl) I;have S:(dY F.look F.args).length=Z.length:=by have:=mW I;rw[<-this];simp
    have GJ:=p1.trans p2;obtain⟨p,m3,p3,g3,_,r3⟩:=iH _ _ (ek F.args g) CX s3 obs s4 (1+au F.args+au F.bf+(dY F.look F.args).length) p2.rel (HJ.mono λ_ _ hl=>cQ.frame GJ.ext GJ.tr hl) X;have g12:=bT.trans (kG _ _) (kG _ _) g1 g2;have K:=bT.trans (by omega) (kG _ _) g12 g3;have hS:=fA K;have o:=r1 p s4 (p.named (m++m2++m3)) (g2.later.trans g3.later) hS.left.left;have Hp:=r2 p s4 (p.named (m++m2++m3)) g3.later hS.left.right;have FA:=r3 p s4 (p.named (m++m2++m3)) (di.refl _ _) hS.right;have hvs:t++(Z++obs)=bJ _ y:=(gJ _ _ _ a).symm;have hrun:=yG (fn:=fn) u1;have hlv:t.length=(F.bf.map Sh.ks).flatten.length:=by
     have:∀(l:List Sh) (t:List (KV real)) (g:List Value) (b:Nat),fI D (p.named (m++m2++m3)) b l t g->t.length=(l.map Sh.ks).flatten.length:=by
      intro l;induction l with
      |nil=>intro t g b h;rw[h.1];rfl
      |cons B l ih=>
       intro t g b h;cases g with
       |nil=>exact h.elim
       |cons u g=>have:=ih _ _ _ h.2.2;have z:=h.1;rw[dB]at z;rw[kg]at this;simp only[fm,lZ,cR];omega
     exact this _ _ _ _ o
    have A:a'.defers=[]/\∃v,(results fn a'.tmps).run P D=.ok v D/\∃v' n,Ending.returned v=.returned v'/\cH ω w n D/\(∀b b' k,n b=some k->n b'=some k->b=b')/\(∀b k,n b=some k->b<D.heap.size) /\
      zU D n (1+au F.args) F.bf ((bJ _ y).take (F.bf.map Sh.ks).flatten.length) v'/\Dy D n (1+au F.args+au F.bf) F.look F.args g ((bJ _ y).drop (F.bf.map Sh.ks).flatten.length):=by
     refine⟨p3.rel.defers,_,hrun,_,p.named (m++m2++m3),rfl,q3.trans (GJ.ext.trans (p3.ext.trans (iB _ _ _))),oQ (by omega) K p3.rel.inj,oP p3.rel.dom,?_,?_⟩
     .rw[<-hvs,<-hlv,List.take_left];unfold zU;match I2:F.bf,o with
      |[],o=>obtain⟨e1,e2⟩:=o;subst e2;exact⟨[],rfl,e1,rfl⟩
      |[B],o=>
       match C,o with
       |[u],o=>exact⟨o.1,o.2.1⟩
       |_::_::_,o=>have:=o.2.2.2;cases this
      |_::_::_,o=>
       match C,o with
       |[u],o=>exact o.2.2.elim
       |[],o=>exact o.elim
       |u::u'::C,o=>exact⟨u::u'::C,rfl,o⟩
     .rw[<-hvs,<-hlv,vi];refine⟨λhL=>?_,?_⟩
      .rw[S,List.take_left];rw[hL]at Hp;exact Hp
      .rw[S,vi];rw[S]at FA;exact FA
    cases ex with
    |normal=>
     cases e with
     |normal=>exact A
     |_=>cases q1
    |ret=>
     cases e with
     |ret=>exact A
     |_=>cases q1
    |exit _=>cases hd
def Dg (k:bD P E) (e:∀f F, Ψ f = some F -> ec P f.1 F) {f:FuncId} {fn:Func} {c:Code} {F:hJ} (h:P.funcs[f]? = some fn) (i:(fn.name == "runtime.NumGoroutine") = false) (j:fn.body = some c)
  (d:fn.ntmps=E.nt) (b:F.args.length<=E.nt) (l:e8 P E Λ (bY 0 c))
  (a:∀x,F.fn x=exec E (av _) (tab Ψ _) (Am Λ FN FR _) 0 c (uD F.args (bJ _ x)) λg s=>bif g.done then finish E c F.look F.args F.bf _ fn.results.toList s else none):ec P f F:=
 BR rX k e h i j d b l a
end
end Go.R
namespace Go.R
section
variable {P:Program}
def ar.take:Nat->ar->ar
 |0,_=>.nil
 |_+1,.nil=>.nil
 |n+1,.cons t ts=>.cons t (ar.take n ts)
def ar.drop:Nat->ar->ar
 |0,ts=>ts
 |_+1,.nil=>.nil
 |n+1,.cons _ ts=>ar.drop n ts
def uz(P:Program)(g:TypeId->ar->Bool):List Field->Nat->ar->Bool
 |[],_,.nil=>true
 |[],_,.cons _ _=>false
 |F:: b, o, a=>(F.name != "_")&&(Nat.beq F.offset o&&(match P.info? F.type with
  |some I=>Nat.ble 1 I.size&&(Nat.ble I.size a.len&&(g F.type (a.take I.size)&&uz P g b (o+I.size) (a.drop I.size)))
  |none=>false))
def oy(P:Program):Nat->TypeId->ar->Bool
 |0,_,_=>false
 |f+1,t,a=>match P.underlying t with
  |some (.int _)=>(match a with |.cons (.int _) .nil=>true|_=>false)
  |some .bool=>(match a with |.cons .bool .nil=>true|_=>false)
  |some (.struct b)=>!P.stoodInHeld t&&uz P (oy P f) b.toList 0 a
  |_=>false
def fG(P:Program)(t:TypeId):Bool:=match P.underlying t with|some (.struct _)=>true|_=>false
def F5:TypeDesc->Bool
 |.struct _ |.int _ |.bool=>true
 |_=>false
def Typed.len:∀ {a:ar} {b:List Value},Typed a b->b.length=a.len
 |.nil,[],_=>rfl
 |.cons _ _,_::_,h=>by simp[ar.len,Typed.len h.2]
 |.nil,_::_,h=>h.elim
 |.cons _ _,[],h=>h.elim
def Typed.take:∀(n:Nat) {a:ar} {b:List Value},Typed a b->Typed (a.take n) (b.take n)
 |0,_,_,_=>trivial
 |_+1,.nil,[],_=>trivial
 |n+1,.cons _ _,_::_,h=>⟨h.1,Typed.take n h.2⟩
 |_+1,.nil,_::_,h=>h.elim
 |_+1,.cons _ _,[],h=>h.elim
def Typed.drop:∀(n:Nat) {a:ar} {b:List Value},Typed a b->Typed (a.drop n) (b.drop n)
 |0,_,_,h=>h
 |_+1,.nil,[],_=>trivial
 |n+1,.cons _ _,_::_,h=>Typed.drop n h.2
 |_+1,.nil,_::_,h=>h.elim
 |_+1,.cons _ _,[],h=>h.elim
def nI:∀(n:Nat) {g:ar} {e f:List Value},Typed g e->Typed g f->cW e f=(cW (e.take n) (f.take n)&&cW (e.drop n) (f.drop n))
 |0,g,e,f,_,_=>by simp[cW]
 |n+1,.nil,[],[],_,_=>rfl
 |n+1,.cons t ts,u::e,v::f,c,d=>by
  have h:=nI n c.2 d.2;cases t with
  |int k=>obtain⟨a,rfl⟩:=c.1;obtain⟨b,rfl⟩:=d.1;simp only[List.take_succ_cons,List.drop_succ_cons,cW,h,Bool.and_assoc]
  |bool=>obtain⟨a,rfl⟩:=c.1;obtain⟨b,rfl⟩:=d.1;simp only[List.take_succ_cons,List.drop_succ_cons,cW,h,Bool.and_assoc]
  |str=>exact c.1.elim
  |map _=>exact c.1.elim
  |sl _ _=>exact c.1.elim
 |n+1,.nil,_::_,_,c,_=>c.elim
 |n+1,.nil,[],_::_,_,d=>d.elim
 |n+1,.cons _ _,[],_,c,_=>c.elim
 |n+1,.cons _ _,_::_,[],_,d=>d.elim
def Ea{a b:List Value}:cW a b=true->a.length=b.length:=by
 fun_induction cW a b <;> simp_all
def Ak{T:TypeId}{d:TypeDesc}(h:P.underlying T=some d)(hd:F5 d=true)(w:World):(isAgg T).run P w=.ok (fG P T) w:=by unfold isAgg fG;rw[Sem.run_bind,run_underlying h w,h];cases d <;> first|rfl|cases hd
def wT{T:TypeId}{I:TypeInfo}{d:TypeDesc}(h:P.underlying T=some d)(hd:F5 d=true)(f:P.info? T=some I)(c:List Value)(a:Nat)(g:a+I.size<=c.length)(e:fG P T=false->I.size=1)(w:World):
  (part T c.toArray a).run P w=.ok (fO (fG P T) ((c.drop a).take I.size)) w:=by
 unfold part;rw[Sem.run_bind,Ak h hd];cases i:fG P T with
 |true=>simp[sizeOf,typeInfo,f,fO]
 |false=>
  have e:=e i;have b:a<c.length:=by omega
  rw[e];simp[fO,bR b];rw[xD b];rfl
def Ab{f:Nat}{t:TypeId}{a:ar}(h:oy P f t a=true):∃d,P.underlying t=some d/\F5 d=true/\(fG P t=false->a.len=1):=by
 cases f with
 |zero=>cases h
 |succ f=>
  unfold oy at h;unfold fG;cases b:P.underlying t with
  |none=>rw[b]at h;cases h
  |some d=>
   rw[b]at h;cases d with
   |int k=>
    simp only at h;split at h
    .exact⟨_,rfl,rfl,λ_=>rfl⟩
    .cases h
   |bool=>
    simp only at h;split at h
    .exact⟨_,rfl,rfl,λ_=>rfl⟩
    .cases h
   |struct c=>exact⟨_,rfl,rfl,λh=>by cases h⟩
   |_=>cases h
def xf:∀(n:Nat) (a:ar),n<=a.len->(a.take n).len=n
 |0,_,_=>rfl
 |n+1,.nil,h=>by simp[ar.len]at h
 |n+1,.cons _ ts,h=>by simp only[ar.len,ar.take]at h⊢;rw[xf n ts (by omega)]
def pz (f:Nat) (y:∀(t:TypeId) (a:ar),oy P f t a=true->∀(d:Nat) (b c:List Value) (w:World),Typed a b->Typed a c->(Op.equalIn (d+f) t (fO (fG P t) b) (fO (fG P t) c)).run P w=.ok (cW b c) w)
  (d:Nat) (b c:List Value) (w:World):∀(m:List Field) (o:Nat) (a:ar),uz P (oy P f) m o a=true->Typed a (b.drop o)->Typed a (c.drop o)->(Op.eqFields (d+f) b.toArray c.toArray m).run P w=.ok (cW (b.drop o) (c.drop o)) w
 |[],o,.nil,_,k,l=>by have C:b.drop o=[]:=e9.1 k.len;have D:c.drop o=[]:=e9.1 l.len;rw[C,D];rfl
 |[],o,.cons _ _,h,_,_=>by cases h
 |F::m,o,a,h,k,l=>by
  simp only[uz,aQ]at h;obtain⟨p,q,g⟩:=h;have p:F.name ≠ "_" := by simpa using p
  have q:=bn q;cases n:P.info? F.type with
  |none=>rw[n]at g;cases g
  |some I=>
   rw[n]at g;simp only[aQ]at g;obtain⟨g,r,z,E⟩:=g;have g:=dS g;have r:=dS r;obtain⟨L,A,B,K⟩:=Ab z;have u:(b.drop o).length=a.len:=k.len;have x:(c.drop o).length=a.len:=l.len;rw[kg]at u x;have i:fG P F.type=false->I.size=1:=λe=>by have:=K e;rw[xf _ _ r]at this;exact this
   have H:=wT A B n b o (by omega) i w;have J:=wT A B n c o (by omega) i w;have G:=y F.type _ z d _ _ w (k.take I.size) (l.take I.size);have s:Typed (a.drop I.size) (b.drop (o+I.size)):=by have:=k.drop I.size;rwa[vM]at this
   have v:Typed (a.drop I.size) (c.drop (o+I.size)):=by have:=l.drop I.size;rwa[vM]at this
   have j:=pz f y d b c w m (o+I.size) (a.drop I.size) E s v;rw[nI I.size k l,vM,vM];simp only[Op.eqFields,p,ne_eq,not_false_eq_true,if_true,q,Sem.run_bind,H,J,Result.andThen_ok,G];cases cW ((b.drop o).take I.size) ((c.drop o).take I.size)with
   |false=>simp
   |true=>simpa using j
def qU:∀(f:Nat) (t:TypeId) (l:ar),oy P f t l=true->∀(d:Nat) (i j:List Value) (w:World),Typed l i->Typed l j->(Op.equalIn (d+f) t (fO (fG P t) i) (fO (fG P t) j)).run P w=.ok (cW i j) w
 |0,t,l,h,_,_,_,_,_,_=>by cases h
 |f+1,t,l,h,d,i,j,w,c,e=>by
  unfold oy at h;unfold fG;cases g:P.underlying t with
  |none=>rw[g]at h;cases h
  |some o=>
   rw[g]at h;cases o with
   |int k=>
    simp only at h;split at h
    .rename_i p;match i,j,c,e with
     |[u],[v],c,e=>obtain⟨a,rfl⟩:=c.1;obtain⟨b,rfl⟩:=e.1;have:=run_equalIn_int (P:=P) w (d+f) t p k a b g;simp only[fO];rw[show d+(f+1)=(d+f)+1 from rfl];refine Eq.trans this ?_;simp[cW]
     |_::_::_,_,c,_=>exact c.2.elim
     |[_],_::_::_,_,e=>exact e.2.elim
     |[],_,c,_=>exact c.elim
     |[_],[],_,e=>exact e.elim
    .cases h
   |bool=>
    simp only at h;split at h
    .match i,j,c,e with
     |[u],[v],c,e=>obtain⟨a,rfl⟩:=c.1;obtain⟨b,rfl⟩:=e.1;have:=run_equalIn_bool' (P:=P) w (d+f) t a b g;simp only[fO];rw[show d+(f+1)=(d+f)+1 from rfl];refine Eq.trans this ?_;simp[cW]
     |_::_::_,_,c,_=>exact c.2.elim
     |[_],_::_::_,_,e=>exact e.2.elim
     |[],_,c,_=>exact c.elim
     |[_],[],_,e=>exact e.elim
    .cases h
   |struct m=>
    simp only[aQ,sC]at h;have n:P.fieldsOf t=m:=by simp[Program.fieldsOf,g]
    simp only[fO];rw[show d+(f+1)=(d+f)+1 from rfl,run_equalIn_struct w (d+f) t i.toArray j.toArray (by rw[n];exact g) h.1,n];have:=pz f (λt l h d i j w=>qU f t l h d i j w) d i j w m.toList 0 l h.2 (by simpa using c) (by simpa using e);simpa using this
   |_=>cases h
def yc(P:Program)(a:Nat->Option TI)(t:Nat):Bool:=match a t with
 |some i=>oy P 20 t i.cs&&(fG P t && !P.eqGuardType P.depth t)
 |none=>false
def D9{P:Program}{f:Nat->Option TI}{t:Nat}{i:TI}(h:yc P f t=true)(k:f t=some i)(c:BinOp)(x y:Operand)(a b:List Value)(w:World)(l:c=.eql\/c=.neq)(m:Typed i.cs a)(n:Typed i.cs b):
  (do eqGuard c t x y (.agg a.toArray) (.agg b.toArray);binOp c t (.agg a.toArray) (.agg b.toArray):Sem Value).run P w=.ok (.bool (match c with |.eql=>cW a b|_=>!cW a b)) w:=by
 unfold yc at h;rw[k]at h;simp only[aQ,sC]at h;obtain⟨g,j,e⟩:=h;have d:=qU 20 t i.cs g 9980 a b w m n;rw[j]at d;simp only[fO]at d;rcases l with rfl|rfl
 .rw[Sem.run_bind,run_eqGuard_agg w .eql t x y _ _ e];simp only[Result.andThen_ok,run_eql_struct];rw[d];rfl
 .rw[Sem.run_bind,run_eqGuard_agg w .neq t x y _ _ e];simp only[Result.andThen_ok,run_neq_struct];rw[d];rfl
end
end Go.R

