import Derived.Test.YtdbcclejeoljoaaGreatDoorRC
import Derived.Conc.MuLone
import Derived.Laws.StructEq
import Derived.OpenShut
import Derived.ChangeArms
import Derived.Below
import Derived.ChangeOld
import Derived.WideShapes
import Derived.ChangeShapes
import Derived.ReadAgain
import Derived.IntWalk
/- An abstract interpreter over the code of Go functions, proved sound once: what it answers, the code computes. Conditions: none. -/
set_option linter.all false
set_option maxRecDepth 4000
namespace Go.R
variable {H:Nat->Value}
def zU(w:World)(g:aq)(b:Nat)(a:List Sh)(e:List (KV real))(v:Value):Prop:=
 match a with
 |[c]=>(e.take c.ks.length).length=c.ks.length/\AX w g b c (e.take c.ks.length) v
 |d=>∃f:List Value,v=.tuple f.toArray/\fI w g b d e f
def Sh.vals(a:Sh)(u:Value):List Value:=
 match a with
 |.one _=>[u]
 |.agg _=>u.cells.toList
 |_=>[]
def b8:List Sh->List Value->List Value
 |b::a,u::c=>b.vals u++b8 a c
 |_,_=>[]
abbrev dl(a:List Sh):List K:=(a.map Sh.sP).flatten
def vA:List Cp->List Value->List Value
 |.ro _::r,_::a=>vA r a
 |.mu _::r,v::a=>v::vA r a
 |.ro _::r,[]=>vA r []
 |.mu _::r,[]=>undef::vA r []
 |[],_=>[]
def Sh.C0(c:Sh)(u:Value):List Value:=
 match c with
 |.blk _=>[u]
 |.qa _ a=>vA a (match u with |.func _ _ b=>b.toList|_=>[])
 |_=>[]
def ek:List Sh->List Value->List Value
 |b::a,u::c=>b.C0 u++ek a c
 |_,_=>[]
def Dy(f:World)(c:aq)(b:Nat)(a:Bool)(args:List Sh)(d:List Value)(e:List (KV real)):Prop:=
 (a=true->fp f c b (e.take (dY a args).length) (pick (dl args) (b8 args d))) /\
 fI f c (b+(dY a args).length) ((eC args).map .blk) (e.drop (dY a args).length) (ek args d)
structure ec (P:Program) (f:FuncId) (F:hJ):Prop where
 there:∃fn c, P.funcs[f]? = some fn /\ (fn.name == "runtime.NumGoroutine") = false /\ fn.body = some c
 calls:∀(w:World) (ω:aq) (us:List Value) (x:fE real ((F.args.map Sh.ks).flatten)) (y:fE real ((F.bf.map Sh.ks).flatten++(dY F.look F.args++(eC F.args).flatten))),
  zQ w ω->(∀b b' k,ω b=some k->ω b'=some k->b=b')->(∀b k,ω b=some k->b<w.heap.size)->fI w ω 1 F.args (bJ _ x) us->F.fn x=some y ->
  Calls P f us.toArray w λe w'=>∃v cu,e=.returned v/\cH ω w cu w'/\(∀b b' k,cu b=some k->cu b'=some k->b=b')/\(∀b k,cu b=some k->b<w'.heap.size) /\
   zU w' cu (1+au F.args) F.bf ((bJ _ y).take (F.bf.map Sh.ks).flatten.length) v /\
   Dy w' cu (1+au F.args+au F.bf) F.look F.args us ((bJ _ y).drop (F.bf.map Sh.ks).flatten.length)
section
variable {R:Type}{P:Program}{E:Env}{Ψ:bA->Option hJ}{ω:aq}{a:Act}{w:World}{s:S}{k:S->Option R}{r:R}{o:Oper}{Q:Exit->Act->World->Prop}
def aq.ig:aq:=λ_=>none
def EV{t:Ty}{a:Md}{v:Value}{x:t.T}(h:t.R w ω a v x):t.R w aq.ig .bQ v x:=Ty.hM t a v x (λ_ _ _=>rfl) h
def BM{s s':S}{id:Nat}(h:s'.ob id=s.ob id)(g a:Nat)(p:iU):s'.cont id g a p=s.cont id g a p:=by unfold St.cont;rw[h]
def Hid(d:aq)(c:S)(a:aq):Prop:=∀b,a b=none\/∃id p,d b=some (id,p)/\(c.ob id).o=.gone
def pV(s s1:S):Prop:=∀i,(s1.ob i).o≠.gone->s1.ob i=s.ob i
variable {s1:S}{qk:aq}
def Hid.BQ(c:Hid ω s1 qk){md:Md}(h:∀k,md.has k->(s1.ob k.1).o≠.gone):yY w ω qk md:=by
 intro b _ f;rcases c b with a|⟨id,p,d,e⟩
 .exact a
 grind
def Ce(r:pV s s1)(m:Hid ω s1 qk){t:Ty}{l:L}{u:Value}{x:t.T}(j:bU w ω s u l)(h:nj (A:=real) t l s1=some x):t.R w qk .bQ u x:=by
 cases l with
 |val C y=>
  simp only[nj]at h;split at h
  .rename_i b;obtain rfl:=Ty.eq_of_beq b;have h:=aG h;subst h;exact Ty.hM _ _ _ _ (m.BQ (md:=.bQ) λk (n:False)=>n.elim) (show C.R w ω .bQ u y from j)
  .cases h
 |eI e D=>
  simp only[nj]at h;split at h
  .rename_i b;obtain rfl:=Ty.eq_of_beq b;have h:=aG h;subst h;obtain⟨o,q⟩:=j;exact⟨o,0,0,q,rfl,az _,λB=>absurd B (by omega),λi _ z=>absurd z (by omega)⟩
  .cases h
 |ref id g a p=>
  simp only[nj]at h;cases d:s1.cont id g a p with
  |none=>rw[d]at h;cases h
  |some c=>
   rw[d]at h;simp only at h;split at h
   .rename_i b;obtain rfl:=Ty.eq_of_beq b;have h:=aG h;subst h;have v:(s1.ob id).o≠.gone:=λe=>fS e d;have f:s.cont id g a p=some c:=by rw[<-d];exact(BM (r id v) g a p).symm
    exact Ty.hM _ _ _ _ (m.BQ λk n=>by grind[yn]) (j.2.2 c f)
   .cases h
 |_=>cases h
def FX(w:World)(g:aq)(s:S)(a:aq)(b:Nat)(k:K)(l:L)(u:Value):Prop:=
 match k with
 |.val _=>True
 |.mp _=>True
 |.arr e c d=>∀x f,eB (A:=real) e c d l s=some (x,f)->(Ty.sl e c).R w a (aI (bif d then 2 else 1) b []) u x
def kD(w:World)(c:aq)(s:S)(a:aq):Nat->List K->List L->List Value->Prop
 |b,k::ks,l::ls,u::d=>FX w c s a b k l u/\kD w c s a (b+1) ks ls d
 |_,_,_,_=>True
def kD.iP{ks ks':List K}{ls e:List L}{a f:List Value}:∀ {b:Nat},ks.length=ls.length->ks.length=a.length->kD w ω s qk b (ks++ks') (ls++e) (a++f)->kD w ω s qk b ks ls a/\kD w ω s qk (b+ks.length) ks' e f:=by
 induction ks generalizing ls a with
 |nil=>intro b c d h;have g:ls=[]:=cK.1 c.symm;have i:a=[]:=cK.1 d.symm;subst g;subst i;exact⟨trivial,h⟩
 |cons k ks j=>
  intro b c d h;match ls,a,c,d,h with
  |l::ls,u::a,c,d,h=>obtain⟨m,n⟩:=j (by simpa using c) (by simpa using d) h.2;exact⟨⟨h.1,m⟩,by grind⟩
def tD:∀(c:ar) (ls:List L) (a:List Value) (b:Nat),kD w ω s qk b c.ks ls a
 |.nil,_,_,_=>trivial
 |.cons t ts,[],_,_=>trivial
 |.cons t ts,_::_,[],_=>trivial
 |.cons t ts,_::ls,_::a,b=>⟨trivial,tD ts ls a (b+1)⟩
def nP(p:pV s s1)(r:Hid ω s1 qk)(i:S):∀(ks:List K) (ls:List L) (f:List Value) (j:List (KV real)) (b:Nat),aH (bU w ω s) f ls->kD w ω i qk b ks ls f->looks ks ls i s1=some j->fp w qk b j f/\j.map (·.1)=ks
 |[],[],f,j,b,g,_,h=>by
  have h:=aG h;subst h;cases f with
  |nil=>exact⟨trivial,rfl⟩
  |cons _ _=>exact g.elim
 |k::ks,l::ls,[],_,_,g,_,_=>g.elim
 |k::ks,l::ls,u::f,j,b,g,o,h=>by
  simp only[looks]at h;cases a:jF k l i s1 with
  |none=>rw[a]at h;cases h
  |some v=>
   cases m:looks ks ls i s1 with
   |none=>rw[a,m]at h;cases h
   |some n=>
    rw[a,m]at h;have h:=aG h;subst h;obtain⟨y,z⟩:=nP p r i ks ls f n (b+1) g.2 o.2 m;cases k with
    |val t=>
     simp only[jF]at a;cases c:nj (A:=real) t l s1 with
     |none=>rw[c]at a;cases a
     |some x=>rw[c]at a;have a:=aG a;subst a;exact⟨⟨Ce p r g.1 c,y⟩,by simp[z]⟩
    |arr e B d=>
     simp only[jF]at a;cases c:eB (A:=real) e B d l i with
     |none=>rw[c]at a;cases a
     |some q=>obtain⟨x,C⟩:=q;rw[c]at a;have a:=aG a;subst a;exact⟨⟨o.1 x C c,y⟩,by simp[z]⟩
    |mp _=>cases a
 |[],_::_,_,_,_,_,_,h=>by cases h
 |_::_,[],_,_,_,_,_,h=>by cases h
def mO(h:Rel H ω a w s)(p:pV s s1)(q:Hid ω s1 qk){f:ar}{c:cU real}{u:Value}{j:List (KV real)}(y:gK w ω s u c)(d:ga f c s1=some j):
  j.map (·.1)=f.ks/\∃x,kf (A:=real) f j=some x/\jd w qk u f x 0:=by
 cases c with
 |ro m x=>
  simp only[ga]at d;split at d
  .rename_i i;have:=ar.eq_of_beq i;subst this;have d:=aG d;subst d;obtain⟨b,N,G,v,I,J⟩:=y;have z:yY w ω qk .bQ:=q.BQ (md:=.bQ) λk (K:False)=>K.elim;exact⟨uL _ _,x,su _ _,b,N,z b v (.inl G),v,I,ar.hM m _ _ 0 x (λ_=>z) J⟩
  .cases d
 |ptr id g=>
  simp only[ga]at d;cases i:dm s1 id g with
  |none=>rw[i]at d;cases d
  |some ls=>
   rw[i]at d;simp only at d;obtain⟨n,o⟩:=cM i;have B:(s1.ob id).o≠.gone:=by grind
   have E:(s.ob id).g=g:=by rw[<-p id B];exact n
   have r:(s.ob id).o=.blk ls:=by rw[<-p id B];exact o
   obtain⟨l,t,F⟩:=y.2 E ls r;obtain⟨D,arr,T,O,W,P⟩:=h.c7 id ls r;obtain rfl:=h.inj _ _ _ t O;obtain⟨Q,C⟩:=nP p q s1 f.ks ls arr.toList j 0 P (tD _ _ _ _) d;obtain⟨x,x1,x2⟩:=nC f j arr.toList 0 C Q;have e:qk l=none:=by
    rcases q l with L|⟨M,V,S,U⟩
    .exact L
    grind
   refine⟨C,x,x1,l,0,e,h.dom _ _ t,F,x2 0 _ (λk u R=>?_)⟩
   grind[cell_of_row]
def pH(h:Rel H ω a w s)(o:pV s s1)(q:Hid ω s1 qk):∀(b:List ar) (g:List (cU real)) (i:List Value) (k:List (KV real)),aH (λv c=>gK w ω s v c) i g->gk b g s1=some k ->
  k.map (·.1)=(b.map ar.ks).flatten/\(∀c∈c9 (A:=real) b k,∃e x,c=.ro e x)/\aH (λv c=>gK w qk ⟨λ_=>.dead,λ_=>⟨0,0,0,.gone⟩⟩ v c) i (c9 (A:=real) b k)
 |[],[],i,k,j,d=>by
  have d:=aG d;subst d;cases i with
  |cons _ _=>exact j.elim
  |nil=>exact⟨rfl,λc p=>absurd p (by simp[c9]),trivial⟩
 |e::b,c::g,[],_,j,_=>j.elim
 |e::b,c::g,v::i,k,j,d=>by
  simp only[gk]at d;cases m:ga e c s1 with
  |none=>rw[m]at d;cases d
  |some u=>
   cases n:gk b g s1 with
   |none=>rw[m,n]at d;cases d
   |some f=>
    rw[m,n]at d;have d:=aG d;subst d;obtain⟨t,x,x1,y⟩:=mO h o q j.1 m;obtain⟨B,C,z⟩:=pH h o q b g i f j.2 n;have r:u.length=e.len:=by rw[<-uK,<-t];simp
    have l:c9 (A:=real) (e::b) (u++f)=.ro e x::c9 (A:=real) b f:=by
     grind[c9]
    rw[l];refine⟨by simp[t,B],λc p=>?_,y,z⟩
    grind
 |[],_::_,_,_,_,d=>by cases d
 |_::_,[],_,_,_,d=>by cases d
theorem lR{a b:S}:∀ {ks:List K} {ls:List L} {e:List (KV real)},looks ks ls a b=some e->ks.length=ls.length
 |[],[],_,_=>rfl
 |[],_::_,_,h=>by cases h
 |_::_,[],_,h=>by cases h
 |k::ks,l::ls,e,h=>by
  simp only[looks]at h;cases c:jF k l a b with
  |none=>rw[c]at h;cases h
  |some v=>
   cases d:looks ks ls a b with
   |none=>rw[c,d]at h;cases h
   |some f=>simp[lR d]
def Aq(h:Rel H ω a w s)(m:pV s s1)(n:Hid ω s1 qk){j:Sh}{tv:bK}{u:Value}{i:List (KV real)}(b:Nat)(o:cQ H w ω s u tv)(z:kD w ω s qk b j.sP (j.cells tv) (j.vals u))(d:iS j tv s s1=some i):i.map (·.1)=j.ks/\AX w qk b j i u:=by
 unfold iS at d;split at d
 .rename_i G id g;obtain⟨q,x,x1,p⟩:=mO h m n (c:=.ptr id g) o d;exact⟨q,x,x1,p⟩
 .rename_i G r x;obtain⟨q,x,x1,p⟩:=mO h m n (c:=.ro r x) o d;exact⟨q,x,x1,p⟩
 .rename_i f k I F;cases C:Nat.beq f I with
  |false=>rw[C]at d;cases d
  |true=>rw[C]at d;simp only[aJ]at d;have J:=bc C;subst J;obtain⟨E,t,y⟩:=o;obtain⟨q,e,p⟩:=pH h m n k F E i y d;exact⟨q,E,t,p,e⟩
 .rename_i L l;obtain⟨e,D⟩:=nP m n s [L] [l] [u] i b ⟨o,trivial⟩ z d;match i,e with
  |[v],e=>exact⟨D,v,rfl,e.1⟩
  |_::_::_,e=>exact e.2.elim
 .rename_i ks ls;obtain⟨cells,t,y⟩:=o;have K:(Sh.agg ks).vals u=cells:=by grind[Sh.vals,Value.cells]
  have B:(Sh.agg ks).cells (A:=real) (.agg ls)=ls:=by grind[Sh.cells,lR,Nat.beq_refl]
  rw[K,B]at z;obtain⟨e,D⟩:=nP m n s ks ls cells i b y z d;exact⟨D,cells,t,e⟩
 .cases d
def nN{a:Sh}{tv:bK}{u:Value}{h:List (KV real)}{g:S}(d:cQ H w ω s u tv)(b:iS a tv g s1=some h):a.sP.length=(a.cells tv).length/\aH (bU w ω s) (a.vals u) (a.cells tv):=by
 unfold iS at b;split at b
 .exact⟨rfl,trivial⟩
 .exact⟨rfl,trivial⟩
 .exact⟨rfl,trivial⟩
 .exact⟨rfl,d,trivial⟩
 .rename_i ks ls;obtain⟨cells,i,e⟩:=d;have f:(Sh.agg ks).vals u=cells:=by grind[Sh.vals,Value.cells]
  have c:(Sh.agg ks).cells (A:=real) (.agg ls)=ls:=by grind[Sh.cells,lR,Nat.beq_refl]
  rw[f,c];exact⟨lR b,e⟩
 .cases b
def zW{a:Sh}(h:(a.eG||a.flat)=true):a.sP.length=a.width:=by cases a <;> first|rfl|cases h
def mz:∀ {a:List Sh} {b:List bK} {e:List Value} {h:List (KV real)} {f:S},aH (cQ H w ω s) e b->dI a b f s1=some h->(dl a).length=(aY a b).length/\aH (bU w ω s) (b8 a e) (aY a b)
 |[],[],e,h,_,d,c=>by
  cases e with
  |cons _ _=>exact d.elim
  |nil=>exact⟨rfl,trivial⟩
 |j::a,tv::b,[],_,_,d,_=>d.elim
 |j::a,tv::b,u::e,h,f,d,c=>by
  simp only[dI]at c;cases g:iS j tv f s1 with
  |none=>rw[g]at c;cases c
  |some v=>
   cases i:dI a b f s1 with
   |none=>rw[g,i]at c;cases c
   |some m=>
    obtain⟨n,k⟩:=nN d.1 g;obtain⟨o,l⟩:=mz d.2 i;refine⟨?_,k.iP l⟩
    grind[aY]
 |[],_::_,_,_,_,_,c=>by cases c
 |_::_,[],_,_,_,_,c=>by cases c
def rC(h:Rel H ω a w s)(q:pV s s1)(r:Hid ω s1 qk):∀(c:List Sh) (e:List bK) (i:List Value) (l:List (KV real)) (b:Nat),(c.all λg=>g.eG||g.flat)=true->aH (cQ H w ω s) i e->kD w ω s qk b (dl c) (aY c e) (b8 c i)->dI c e s s1=some l->fI w qk b c l i
 |[],[],i,l,b,_,f,_,d=>by
  have d:=aG d;subst d;cases i with
  |cons _ _=>exact f.elim
  |nil=>exact⟨rfl,rfl⟩
 |g::c,tv::e,[],_,_,_,f,_,_=>f.elim
 |g::c,tv::e,u::i,l,b,n,f,z,d=>by
  rw[gL,aQ]at n;simp only[dI]at d;cases j:iS g tv s s1 with
  |none=>rw[j]at d;cases d
  |some v=>
   cases m:dI c e s s1 with
   |none=>rw[j,m]at d;cases d
   |some o=>
    rw[j,m]at d;have d:=aG d;subst d;obtain⟨p,x⟩:=nN f.1 j;have y:=x.length;obtain⟨A,t⟩:=kD.iP (ks:=g.sP) (ks':=dl c) p (p.trans y.symm) z;obtain⟨B,C⟩:=Aq h q r b f.1 A j;have k:v.length=g.ks.length:=by rw[<-B];simp
    refine⟨by grind,by grind,?_⟩;rw[ot k];rw[zW n.1]at t;exact rC h q r c e i o _ n.2 f.2 t m
 |[],_::_,_,_,_,_,_,_,d=>by cases d
 |_::_,[],_,_,_,_,_,_,d=>by cases d
end
section
variable {R:Type}{P:Program}{E:Env}{Ψ:bA->Option hJ}{ω:aq}{a:Act}{w:World}{s:S}{k:S->Option R}{r:R}{o:Oper}{Q:Exit->Act->World->Prop}
def aq.old(a:aq)(base W:Nat):aq:=λb=>match a b with
 |none=>none
 |some (i,p)=>if base<=i/\i<base+W then none else some (i,p)
def Ct{a:aq}{base W b:Nat}{k:Key}(h:a.old base W b=some k):a b=some k /\ ¬bh base W k.1:=by
 unfold aq.old at h;split at h
 .cases h
 .rename_i i p c;split at h
  .cases h
  .rename_i d;injection h with h
   subst h;exact⟨c,d⟩
theorem Cr{a:aq}{base W b i:Nat}{p:List (Nat×Nat)}(h:a b=some (i,p))(c:¬bh base W i):a.old base W b=some (i,p):=by
 grind[aq.old,bh]
theorem Cs{a:aq}{base W b:Nat}(h:a b=none):a.old base W b=none:=by unfold aq.old;rw[h]
def vD{f d:aq}{i j:Nat}{v:KV real}{u:Value}(a:∀b p,b<w.heap.size->f b=some (i,p)->d b=some (j,p))(o:v.1.closed=true\/∀b,b<w.heap.size->f b=none->d b=none)(h:DS w f i v u):DS w d j v u:=by
 obtain⟨C,x⟩:=v;rcases o with m|o
 .cases C with
  |val t=>exact Ty.fZ ⟨λe g z=>(by subst z;cases m),λk z=>(by subst z;cases m)⟩ h
  |arr e g D=>
   cases D with
   |true=>exact Ty.fF (.sl e g) (i,[]) (j,[]) u x (λb r L B=>⟨rfl,a b r L B⟩) h
   |false=>
    have M:g.plain=true:=by simpa[K.closed] using m
    obtain⟨F,n,c,q,s,l,y,H⟩:=h;refine⟨F,n,c,q,s,l,?_,λk A B I=>ar.fZ g _ _ _ 0 _ M (H k A B I)⟩;rcases y with J|⟨b,arr,N,E,O,P⟩
    .exact .inl J
    .exact .inr ⟨b,arr,N,E,O,a b [] (aM E) P⟩
  |mp _=>cases m
 .cases C with
  |val t=>exact vE o h
  |arr e g D=>exact xG ⟨o,a⟩ h
  |mp C=>obtain⟨b,G,c,q,s,l,y⟩:=h;exact⟨b,G,c,a b [] (aM l) q,s,l,y⟩
def ju{cu fV:aq}{base B W:Nat}(a:∀i,bh B W i->∀b p,b<w.heap.size->cu b=some (i,p)->fV b=some (base+(i-B),p)):∀(c:List (KV real)) (d:List Value) (b:Nat),B<=b->b+c.length<=B+W ->
  ((∀v∈c,v.1.closed=true)\/∀b,b<w.heap.size->cu b=none->fV b=none)->fp w cu b c d->fp w fV (base+(b-B)) c d
 |[],[],_,_,_,_,_=>trivial
 |[],_::_,_,_,_,_,h=>h.elim
 |_::_,[],_,_,_,_,h=>h.elim
 |v::c,u::d,b,k,g,f,h=>by
  simp only[gB]at g;refine⟨vD (a b (by unfold bh;omega)) (f.imp (λh=>h v (by simp)) id) h.1,?_⟩;have:=ju a c d (b+1) (by omega) (by omega) (f.imp (λh j e=>h j (by simp[e])) id) h.2
  grind
def Bl {e c:aq} {base B W:Nat} (a:∀i,bh B W i->∀b p,b<w.heap.size->e b=some (i,p)->c b=some (base+(i-B),p)) {f:Sh} {d:List (KV real)} {u:Value} {b:Nat} (s:f.qg=true) (q:d.length=f.ks.length) (n:B<=b) (o:b+f.width<=B+W)
  (k:(∀v∈d,v.1.closed=true)\/∀b,b<w.heap.size->e b=none->c b=none) (h:AX w e b f d u):AX w c (base+(b-B)) f d u:=by
 cases f with
 |one y=>obtain⟨v,g,j⟩:=h;subst g;exact⟨v,rfl,(ju a [v] [u] b n o k ⟨j,trivial⟩).1⟩
 |agg ks=>obtain⟨cells,g,j⟩:=h;exact⟨cells,g,ju a d cells b n (by rw[q];exact o) k j⟩
 |blk ks=>
  obtain⟨l,arr,T,g,j,m,r⟩:=h;have x:(Sh.blk ks).width=ks.length+1:=rfl;have t:d.length=ks.length:=q;refine⟨l,arr,T,g,a b (by unfold bh;omega) l [] (aM m) j,m,?_⟩;have:=ju a d arr.toList (b+1) (by omega) (by omega) k r
  grind
 |_=>cases s
def oC{e c:aq}{base B W:Nat}(d:∀i,bh B W i->∀b p,b<w.heap.size->e b=some (i,p)->c b=some (base+(i-B),p)):∀(a:List Sh) (f:List (KV real)) (j:List Value) (b:Nat),a.all Sh.qg=true->B<=b->b+au a<=B+W ->
  ((∀v∈f,v.1.closed=true)\/∀b,b<w.heap.size->e b=none->c b=none)->fI w e b a f j->fI w c (base+(b-B)) a f j
 |[],_,_,_,_,_,_,_,h=>h
 |_::_,_,[],_,_,_,_,_,h=>h.elim
 |g::a,f,u::j,b,k,o,s,m,h=>by
  rw[gL,aQ]at k;have t:au (g::a)=g.width+au a:=by simp[au]
  obtain⟨n,q,r⟩:=h;refine⟨n,Bl d k.1 n o (by omega) (m.imp (λh v l=>h v (List.mem_of_mem_take l)) id) q,?_⟩;have:=oC d a (f.drop g.ks.length) j (b+g.width) k.2 (by omega) (by omega) (m.imp (λh v l=>h v (List.mem_of_mem_drop l)) id) r
  grind
def Bm{f:World}{a:aq}{d:S}{u:Value}{tv:bK}(h:cQ H f a d u tv):lX f a d u tv.comp:=by
 cases tv with
 |one l=>intro b e;injection e with e;subst e;exact h
 |agg ls=>exact h
 |ol g=>intro b e;injection e with e;subst e;trivial
 |pQ i c=>intro b e;injection e with e;subst e;trivial
def BP{a:List Sh}(h:a.all Sh.flat=true):a.all Sh.qg=true:=by rw[cg]at h⊢;intro b c;have:=h b c;cases b <;> first|rfl|cases this
end
end Go.R
namespace Go.R
open Classical
section
variable {R:Type}{P:Program}{E:Env}{Ψ:bA->Option hJ}{ω:aq}{a:Act}{w:World}{s:S}{k:S->Option R}{r:R}{o:Oper}{Q:Exit->Act->World->Prop}
structure pU where
 e:Nat
 cs:ar
 d:Bool
 l:L
 u:Value
 num:Nat
 out:Nat
def bB:List K->List L->List Value->Nat->Nat->List pU
 |.arr e c d::ks,l::ls,u::a,b,o=>⟨e,c,d,l,u,b,o⟩::bB ks ls a (b+1) (o+1)
 |.val _::ks,_::ls,_::a,b,o=>bB ks ls a (b+1) o
 |.mp _::ks,_::ls,_::a,b,o=>bB ks ls a (b+1) o
 |_,_,_,_,_=>[]
def ef:L->Option Nat
 |.ref id _ _ []=>some id
 |_=>none
def EO{l:L}{i:Nat}(h:ef l=some i):∃g a,l=.ref i g a []:=by
 cases l with
 |ref id g a p=>
  cases p with
  |nil=>injection h with h;subst h;exact⟨g,a,rfl⟩
  |cons _ _=>cases h
 |_=>cases h
def uF:∀(ks:List K) (ls:List L) (c:List Value) (b o:Nat),aH (bU w ω s) c ls->∀t∈bB ks ls c b o,bU w ω s t.u t.l
 |[],_,_,_,_,_,t,a=>by simp[bB]at a
 |.arr .. :: _,[],_,_,_,_,t,a=>by simp[bB]at a
 |.val _::_,[],_,_,_,_,t,a=>by simp[bB]at a
 |.mp _::_,[],_,_,_,_,t,a=>by simp[bB]at a
 |.arr .. :: _,_::_,[],_,_,_,t,a=>by simp[bB]at a
 |.val _::_,_::_,[],_,_,_,t,a=>by simp[bB]at a
 |.mp _::_,_::_,[],_,_,_,t,a=>by simp[bB]at a
 |.arr e f d::ks,l::ls,u::c,b,o,h,t,a=>by
  simp only[bB,ck]at a;rcases a with rfl|a
  .exact h.1
  .exact uF ks ls c _ _ h.2 t a
 |.val _::ks,l::ls,u::c,b,o,h,t,a=>uF ks ls c _ _ h.2 t a
 |.mp _::ks,l::ls,u::c,b,o,h,t,a=>uF ks ls c _ _ h.2 t a
def nF:∀(ks:List K) (ls:List L) (c:List Value) (b o:Nat),(∀t∈bB ks ls c b o,b<=t.num/\t.num<b+ks.length/\o<=t.out)/\(bB ks ls c b o).Pairwise λt h=>t.num<h.num/\t.out<h.out
 |[],_,_,_,_=>⟨λt a=>by simp[bB]at a,by simp[bB]⟩
 |.arr .. :: _,[],_,_,_=>⟨λt a=>by simp[bB]at a,by simp[bB]⟩
 |.val _::_,[],_,_,_=>⟨λt a=>by simp[bB]at a,by simp[bB]⟩
 |.mp _::_,[],_,_,_=>⟨λt a=>by simp[bB]at a,by simp[bB]⟩
 |.arr .. :: _,_::_,[],_,_=>⟨λt a=>by simp[bB]at a,by simp[bB]⟩
 |.val _::_,_::_,[],_,_=>⟨λt a=>by simp[bB]at a,by simp[bB]⟩
 |.mp _::_,_::_,[],_,_=>⟨λt a=>by simp[bB]at a,by simp[bB]⟩
 |.arr e i d::ks,l::ls,u::c,b,o=>by
  obtain⟨g,f⟩:=nF ks ls c (b+1) (o+1);refine⟨λt a=>?_,?_⟩
  .grind[bB]
  .simp only[bB];refine List.Pairwise.cons (λt a=>?_) f
   grind
 |.val _::ks,l::ls,u::c,b,o=>by
  obtain⟨g,f⟩:=nF ks ls c (b+1) o;refine⟨λt a=>?_,f⟩;have:=g t a
  grind
 |.mp _::ks,l::ls,u::c,b,o=>by
  obtain⟨g,f⟩:=nF ks ls c (b+1) o;refine⟨λt a=>?_,f⟩;have:=g t a
  grind
theorem dK{α:Type}{R:α->α->Prop}:∀ {l:List α},l.Pairwise R->∀x∈l,∀y∈l,x=y\/R x y\/R y x
 |[],_,x,a,_,_=>by cases a
 |z::l,h,x,a,y,f=>by
  rw[vM]at h;rcases ck.1 a with e|b <;> rcases ck.1 f with d|c
  .exact .inl (e.trans d.symm)
  .grind
  .grind
  .exact dK h.2 x b y c
structure GU (s:S) (t:pU):Prop where
 IS:1<=t.cs.len
 was:(∃e' cs',t.l=.eI e' cs'/\ef t.l=none)\/∃id g hh dp x,t.l=.ref id g hh []/\g=(s.ob id).g/\(s.ob id).o=.arr t.e t.cs dp x/\(dp=t.d\/t.cs.plain=true)
def By{e:Nat}{d:ar}{deep:Bool}{l:L}{x:List d.T}{o:S}(a:eB (A:=real) e d deep l s=some (x,o)):
  (o=s/\x=[]/\∃i c,l=.eI i c)\/∃id g r f,l=.ref id g r []/\g=(s.ob id).g/\(s.ob id).o=.arr e d f x/\o=s.bq id true .gone/\(f=deep\/d.plain=true):=by
 cases l with
 |eI i c=>
  simp only[eB]at a;split at a
  .rename_i m;have:=Ty.eq_of_beq m;injection this with j k
   subst j;subst k;injection a with a
   injection a with h q
   exact .inl ⟨q.symm,h.symm,_,_,rfl⟩
  .cases a
 |ref id g r p=>
  cases p with
  |cons _ _=>cases a
  |nil=>
   simp only[eB]at a;cases n:Nat.beq (s.ob id).g g with
   |false=>rw[n]at a;cases a
   |true=>
    rw[n]at a;simp only[aJ]at a;have t:=bc n;cases b:(s.ob id).o with
    |arr i c f y=>
     rw[b]at a;simp only at a;cases hd:(f==deep||c.plain)with
     |false=>rw[hd]at a;cases a
     |true=>
      rw[hd]at a;simp only[aJ]at a;split at a
      .rename_i m;have:=Ty.eq_of_beq m;injection this with j k
       subst j;subst k;have a:=aG a;injection a with h q
       have h:y=x:=h
       grind
      .cases a
    |bQ _ _ _=>rw[b]at a;cases a
    |blk _=>rw[b]at a;cases a
    |gone=>rw[b]at a;cases a
    |mp _ _=>rw[b]at a;cases a
 |_=>cases a
def mM:∀(ks:List K) (ls:List L) (j:List Value) (b o:Nat) (f m:S),ls.length=j.length->jV ks ls f=some m ->
  (∀t∈bB ks ls j b o,GU f t)/\(∀i,(∀t∈bB ks ls j b o,ef t.l≠some i)->m.ob i=f.ob i) /\
  (∀t∈bB ks ls j b o,∀i,ef t.l=some i->(f.ob i).o≠.gone/\m.ob i=⟨(f.ob i).g,(f.ob i).h+1,(f.ob i).n,.gone⟩) /\
  (bB ks ls j b o).Pairwise (λt Z=>∀i,ef t.l=some i->ef Z.l≠some i)/\m.sl=f.sl
 |[],[],j,b,o,f,m,_,h=>by
  injection h with h
  simp_all[bB]
 |[],_::_,_,_,_,_,_,_,h=>by cases h
 |_::_,[],_,_,_,_,_,_,h=>by cases h
 |k::ks,l::ls,[],_,_,_,_,p,_=>by cases p
 |.val t::ks,l::ls,u::j,b,o,f,m,p,h=>mM ks ls j (b+1) o f m (by simpa using p) h
 |.arr e s d::ks,l::ls,u::j,b,o,f,m,p,h=>by
  simp only[jV,kJ]at h;cases B:Nat.ble 1 s.len with
  |false=>rw[B]at h;cases h
  |true=>
   rw[B]at h;simp only[aJ]at h;cases z:eB (A:=real) e s d l f with
   |none=>rw[z]at h;cases h
   |some q=>
    obtain⟨x,Y⟩:=q;rw[z]at h;simp only[cZ]at h;obtain⟨E,h2,Q,F,G⟩:=mM ks ls j (b+1) (o+1) Y m (by simpa using p) h;have n:1<=s.len:=bn B;rcases By z with ⟨w,D,M,v,y⟩|⟨id,g,H,I,w,D,y,O,P⟩
    .subst w;subst y;refine⟨λt a=>?_,λi c=>?_,λt a i c=>?_,?_,G⟩
     .simp only[bB,ck]at a;rcases a with rfl|a
      .exact⟨n,.inl ⟨M,v,rfl,rfl⟩⟩
      .exact E t a
     .grind[bB]
     .simp only[bB,ck]at a;rcases a with rfl|a
      .cases c
      .exact Q t a i c
     .simp only[bB];exact List.Pairwise.cons (λt a i c=>by cases c) F
    .subst w;subst O;have r:∀t∈bB ks ls j (b+1) (o+1),ef t.l≠some id:=by
      grind[St.ay]
     refine⟨λt a=>?_,λi c=>?_,λt a i c=>?_,?_,G⟩
     .simp only[bB,ck]at a;rcases a with rfl|a
      .exact⟨n,.inr ⟨id,g,H,I,x,rfl,D,y,P⟩⟩
      .obtain⟨V,W⟩:=E t a;refine⟨V,W.imp (λq=>q) λq=>?_⟩;obtain⟨C,g',R,J,x',X,r2,r3,r4⟩:=q;have:C≠id:=λe=>r t a (by rw[X,e];rfl)
       grind[St.aO]
     .have U:i≠id:=λN=>c ⟨e,s,d,.ref id g H [],u,b,o⟩ (by simp[bB]) (by rw[N];rfl)
      grind[bB,St.aO]
     .simp only[bB,ck]at a;rcases a with rfl|a
      .have T:id=i:=by injection c
       grind[St.ay]
      grind[St.aO]
     .simp only[bB];exact List.Pairwise.cons (λt a i c=>(by injection c with c;subst c;exact r t a)) F
def xY{w':World}{cu:aq}:∀(ks:List K) (ls:List L) (j:List Value) (n:List (KV real)) (b o:Nat) (a q:S),ls.length=j.length->ks.length=ls.length->jf ks ls n a=some q->n.map (·.1)=ks.filter K.iR->fp w' cu o n (pick ks j) ->
  (bB ks ls j b o).Pairwise (λt T=>∀i,ef t.l=some i->ef T.l≠some i) ->
  (∀i,(∀t∈bB ks ls j b o,ef t.l≠some i)->q.ob i=a.ob i)/\q.sl=a.sl /\
  ∀t∈bB ks ls j b o,∃y:List t.cs.T,(Ty.sl t.e t.cs).R w' cu (aI (bif t.d then 2 else 1) t.out []) t.u y/\∀i,ef t.l=some i->q.ob i=⟨(a.ob i).g,(a.ob i).h+1,(a.ob i).n,.arr t.e t.cs t.d y⟩:=by
 intro ks;induction ks with
 |nil=>
  intro ls j n b o a q A v h _ _ _;have M:ls=[]:=cK.1 v.symm;subst M;cases n with
  |nil=>injection h with h;grind[bB]
  |cons _ _=>cases h
 |cons k ks H=>
  intro ls j n b o a q A v h c w s;match ls,j,A,v,h,w,s with
  |l::ls,u::j,A,v,h,w,s=>
   have C:ls.length=j.length:=by simpa using A
   have B:ks.length=ls.length:=by simpa using v
   cases k with
   |val t=>exact H ls j n (b+1) o a q C B h c w s
   |mp _=>cases l <;> cases n <;> cases h
   |arr e z d=>
    match n,c,w,h with
    |[],c,_,_=>simp[K.iR]at c
    |⟨Y,x⟩::n,c,w,h=>
     simp only[cR,List.filter_cons,K.iR,if_true,sB]at c;obtain⟨D,c⟩:=c;subst D;have E:(Ty.sl e z).R w' cu (aI (bif d then 2 else 1) o []) u x:=w.1;have F:fp w' cu (o+1) n (pick ks j):=w.2;simp only[bB]at s;rw[vM]at s;have rest:∀m,jf ks ls n m=some q->(∀i,ef l≠some i->m.ob i=a.ob i)->m.sl=a.sl->(∀i,ef l=some i->m.ob i=⟨(a.ob i).g,(a.ob i).h+1,(a.ob i).n,.arr e z d x⟩) ->
       (∀i,(∀t∈bB (.arr e z d::ks) (l::ls) (u::j) b o,ef t.l≠some i)->q.ob i=a.ob i)/\q.sl=a.sl /\
       ∀t∈bB (.arr e z d::ks) (l::ls) (u::j) b o,∃y:List t.cs.T,(Ty.sl t.e t.cs).R w' cu (aI (bif t.d then 2 else 1) t.out []) t.u y/\∀i,ef t.l=some i->q.ob i=⟨(a.ob i).g,(a.ob i).h+1,(a.ob i).n,.arr t.e t.cs t.d y⟩:=by
      intro m P G N O;obtain⟨I,Q,R⟩:=H ls j n (b+1) (o+1) m q C B P c F s.2;refine⟨λi f=>?_,Q.trans N,λt r=>?_⟩
      .rw[I i λt r=>f t (by simp only[bB,ck];exact .inr r)];exact G i (f ⟨e,z,d,l,u,b,o⟩ (by simp[bB]))
      .simp only[bB,ck]at r;rcases r with rfl|r
       .refine⟨x,E,λi f=>?_⟩;rw[I i λt r=>s.1 t r i f,O i f]
       .obtain⟨y,U,V⟩:=R t r;refine⟨y,U,λi f=>?_⟩;rw[V i f,G i λe=>s.1 t r i e f]
     cases l with
     |eI W J=>exact rest a h (λ_ _=>rfl) rfl (λi f=>by cases f)
     |ref id g X p=>
      cases p with
      |nil=>
       refine rest (a.bq id true (.arr e z d x)) h (λi f=>St.aO _ _ _ λe=>f (by rw[e];rfl)) rfl (λi f=>?_);injection f with f
       subst f;rw[St.ay];rfl
      |cons _ _=>cases h
     |_=>cases h
  |[],_,_,v,_,_,_=>simp at v
  |_::_,[],A,_,_,_,_=>simp at A
end
end Go.R
namespace Go.R
variable {H:Nat->Value}
open Classical
section
variable {R:Type}{P:Program}{E:Env}{Ψ:bA->Option hJ}{ω:aq}{a:Act}{w:World}{s:S}{k:S->Option R}{r:R}{o:Oper}{Q:Exit->Act->World->Prop}
def tO {l:World} {m fV:aq} {a:List Sh} {g:List (KV real)} {base B:Nat} {v:Value} (e:a.all Sh.qg=true) (r:g.map (·.1)=(a.map Sh.ks).flatten)
  (k:∀i,bh B (au a) i->∀b p,b<l.heap.size->m b=some (i,p)->fV b=some (base+(i-B),p)) (E:(∀v∈g,v.1.closed=true)\/∀b,b<l.heap.size->m b=none->fV b=none) (q:zU l m B a g v):
  ∃d,fI l fV base a g d/\∀f:S,∀c:List bK,aH (cQ H l fV f) d c->cQ H l fV f v (TV.nk c):=by
 have gen:∀d:List Value,v=.tuple d.toArray->fI l m B a g d->a.length≠1->∃d,fI l fV base a g d/\∀f:S,∀c:List bK,aH (cQ H l fV f) d c->cQ H l fV f v (TV.nk c):=by
  intro d o n G;have s:=oC k a g d B e (az _) (az _) E n;rw[sA,iD]at s;refine⟨d,s,λf c j=>?_⟩;have F:d.length=a.length:=by
   have:∀(a:List Sh) (g:List (KV real)) (d:List Value) (b:Nat),fI l m b a g d->d.length=a.length:=by
    intro a;induction a with
    |nil=>intro g d b h;rw[h.2];rfl
    |cons x a C=>
     intro g d b h;cases d with
     |nil=>exact h.elim
     |cons u d=>simp[C _ _ _ h.2.2]
   exact this a g d B n
  have w:=j.length;have z:TV.nk c=.ol (c.map TV.comp):=by
   match c,w with
   |[],_=>rfl
   |[t],w=>grind
   |_::_::_,_=>rfl
  rw[z];refine⟨d,o,?_⟩;have D:∀(d:List Value) (c:List bK),aH (cQ H l fV f) d c->aH (lX l fV f) d (c.map TV.comp):=by
   intro d;induction d with
   |nil=>intro c j;cases c with|nil=>trivial|cons _ _=>exact j.elim
   |cons u d C=>
    intro c j;cases c with
    |nil=>exact j.elim
    |cons t c=>exact⟨Bm j.1,C c j.2⟩
  exact D d c j
 match a,q,gen,e,k,r with
 |[],q,gen,_,_,_=>obtain⟨d,o,n⟩:=q;exact gen d o n (by simp)
 |_::_::_,q,gen,_,_,_=>obtain⟨d,o,n⟩:=q;exact gen d o n (by simp)
 |[x],q,_,e,k,r=>
  obtain⟨o,n⟩:=q;have A:g.length=x.ks.length:=by
   grind
  have y:fI l m B [x] g [v]:=⟨o,n,by rw[<-A];simp,rfl⟩
  have s:=oC k [x] g [v] B e (az _) (az _) E y;rw[sA,iD]at s;refine⟨[v],s,λf c j=>?_⟩;match c,j with
  |[t],j=>exact j.1
  |_::_::_,j=>exact j.2.elim
def xF(w:World)(a:aq)(t:pU)(i:Nat):Prop:=∃b arr n c,t.u=.slice (some ⟨b,0,none⟩) n c/\w.heap[b]? = some (.cells arr t.e (0,0))/\arr.size=c*t.cs.len/\a b=some (i,[])
def jR(w:World)(a:aq)(t:pU)(i:Nat):Prop:=ef t.l=some i/\xF w a t i
noncomputable def aq.gz(w:World)(a:aq)(c:List pU):aq:=λb=>match a b with
 |none=>none
 |some (i,p)=>match c.find? (λt=>decide (jR w a t i))with
  |some t=>some (t.num,p)
  |none=>none
noncomputable def aq.fW(w:World)(a c:aq)(d:List pU)(base B W:Nat):aq:=λb=>match c b with
 |none=>match aq.gz w a d b with
  |none=>a.old base W b
  |some _=>none
 |some (j,p)=>if B<=j/\j<B+W then some (base+(j-B),p)else
  match d.find? (λt=>decide (t.out=j/\∃i,jR w a t i))with
  |some t=>match ef t.l with
   |some i=>if base<=i/\i<base+W then none else some (i,p)
   |none=>none
  |none=>none
theorem jD{a:List pU}{b:Nat}{k:Key}(h:aq.gz w ω a b=some k):∃t∈a,∃i,jR w ω t i/\k.1=t.num/\ω b=some (i,k.2):=by
 grind[aq.gz]
structure ql (es:List pU):Prop where
 ids:es.Pairwise λt t'=>∀i,ef t.l=some i->ef t'.l≠some i
 nums:es.Pairwise λt t'=>t.num<t'.num/\t.out<t'.out
def ql.id{b:List pU}(h:ql b){t a:pU}{i:Nat}(g:t∈b)(c:a∈b)(d:ef t.l=some i)(f:ef a.l=some i):t=a:=by
 rcases dK h.ids t g a c with e|e|e
 .exact e
 .exact absurd f (e i d)
 .exact absurd d (e i f)
def ql.num{b:List pU}(h:ql b){t a:pU}(d:t∈b)(c:a∈b)(f:t.num=a.num):t=a:=by
 rcases dK h.nums t d a c with e|e|e
 .exact e
 .have:=e.1;omega
 .have:=e.1;omega
def ql.out{b:List pU}(h:ql b){t a:pU}(d:t∈b)(c:a∈b)(f:t.out=a.out):t=a:=by
 rcases dK h.nums t d a c with e|e|e
 .exact e
 .have:=e.2;omega
 .have:=e.2;omega
def oO{a:List pU}(hd:ql a){t:pU}(j:t∈a){i b:Nat}{p:List (Nat×Nat)}(g:jR w ω t i)(h:ω b=some (i,p)):aq.gz w ω a b=some (t.num,p):=by
 unfold aq.gz;rw[h];simp only;cases c:a.find? (λt=>decide (jR w ω t i))with
 |none=>grind
 |some k=>have d:=iA c;have e:=bR d;have f:=iN c;rw[hd.id j f g.1 e.1]
def Cb{c:List pU}(hd:ql c)(q:∀b a k,ω b=some k->ω a=some k->b=a)(b a:Nat)(k:Key)(g:aq.gz w ω c b=some k)(h:aq.gz w ω c a=some k):b=a:=by
 obtain⟨t,m,i,n,o,s⟩:=jD g;obtain⟨r,d,l,e,f,p⟩:=jD h;have:=hd.num m d (o.symm.trans f);subst this;have j:i=l:=by have:=n.1;rw[e.1]at this;grind
 grind
def B9{a:List pU}(hd:∀b k,ω b=some k->b<w.heap.size)(b:Nat)(k:Key)(h:aq.gz w ω a b=some k):b<w.heap.size:=by
 grind[jD]
def Ca{a:List pU}{c:S}(d:∀t∈a,∀i,ef t.l=some i->(c.ob i).o=.gone):Hid ω c (aq.gz w ω a):=by
 intro b;cases h:aq.gz w ω a b with
 |none=>exact .inl rfl
 |some k=>obtain⟨t,e,i,f,j,g⟩:=jD h;exact .inr ⟨i,k.2,g,d t e i f.1⟩
def FM(d:Bool)(i:Nat):aI (bif d then 2 else 1) i []=.flat (i,[])\/aI (bif d then 2 else 1) i []=.deep (i,[]):=by
 cases d
 .exact .inl rfl
 .exact .inr rfl
def Ba{w:World}{f:aq}{d:Bool}{i e m n c:Nat}{a:Option Addr}(h:Hd w f e m (aI (bif d then 2 else 1) i []) a n c):(c=0/\n=0)\/∃b arr,a=some ⟨b,0,none⟩/\w.heap[b]? = some (.cells arr e (0,0))/\arr.size=c*m/\f b=some (i,[]):=by cases d <;> exact h
def Dj {P:World} {d:aq} {L:S} {t:pU} {id g hh:Nat} {U:Bool} {x x':List t.cs.T} (h:Rel H ω a w s) (hW:t.l=.ref id g hh []) (hg:g=(s.ob id).g) (ho:(s.ob id).o=.arr t.e t.cs U x) (X:1<=t.cs.len) (r:U=t.d\/t.cs.plain=true)
  (hR:bU w ω s t.u t.l) (o:(L.ob id).g=(s.ob id).g) (IT:(s.ob id).h<(L.ob id).h) (W:(L.ob id).o=.arr t.e t.cs t.d x') (hx:(Ty.sl t.e t.cs).R P d (aI (bif t.d then 2 else 1) id []) t.u x')
  (hno:¬xF w ω t id->w.heap.size<=P.heap.size/\∀b p,ω b=some (id,p)->P.heap[b]? = w.heap[b]? /\ d b=ω b):Tr w ω s P d L id:=by
 have hc0:s.cont id g hh []=some ⟨t.e,t.cs,x,bif U then 2 else 1⟩:=bW ho hg;have hu:(Ty.sl t.e t.cs).R w ω (aI (bif t.d then 2 else 1) id []) t.u x:=by rw[hW]at hR;exact eU r (hR.2.2 _ hc0)
 have Z:∀v,(Ty.sl t.e t.cs).R w ω (aI (bif t.d then 2 else 1) id []) v x->(Ty.sl t.e t.cs).R P d (aI (bif t.d then 2 else 1) id []) v x':=by
  intro v Y;obtain⟨ad,n,c,N,V,e3,e4,e5⟩:=Y;obtain⟨D,n',c',B,f2,f3,f4,f5⟩:=hu;obtain⟨R,IB,T,g1,g2,g3,g4,g5⟩:=hx;have hn:n'=n:=by rw[<-f2,<-V]
  have G:R=D/\IB=n'/\T=c':=by grind
  obtain⟨s1,s2,IF⟩:=G;subst s1;subst s2;subst IF;rcases Ba e4 with ⟨O,K⟩|⟨b,arr,O,K,q3,q4⟩
  .subst O;subst K;have J:x'=[]:=by
    grind
   subst J;subst N;exact nD
  .by_cases hb:xF w ω t id
   .obtain⟨b',z,n0,c0,u,y,k3,k4⟩:=hb;have Ga:b=b':=h.inj _ _ _ q4 k4;subst Ga;rw[K]at y;injection y with y
    injection y with y
    subst y;rw[B]at u;injection u with Q M z3
    subst Q;subst M;subst z3;have HK:c=T:=Nat.eq_of_mul_eq_mul_right X (q3.symm.trans k3);subst HK;subst O;have Y:v=t.u:=by rw[N,B,hn]
    rw[Y];exact⟨_,_,_,B,g2,g3,g4,g5⟩
   ·-- it has no block of its own: it is empty
    rcases Ba f4 with ⟨Q,M⟩|⟨b',z,Q,M,z3,z4⟩
    .have Dw:n=0:=by rw[<-hn];exact M
     have J:x'=[]:=by
      grind
     subst J;obtain⟨hsz,F⟩:=hno hb;obtain⟨m1,m2⟩:=F b [] q4;refine⟨ad,n,c,N,by rw[Dw];rfl,e3,?_,λi A hi _=>absurd hi (by omega)⟩;have:(c=0/\n=0)\/∃b arr,ad=some ⟨b,0,none⟩/\P.heap[b]? = some (.cells arr t.e (0,0))/\arr.size=c*t.cs.len/\d b=some (id,[]):=.inr ⟨b,arr,O,m1.trans K,q3,m2.trans q4⟩;cases t.d <;> exact this
    .exact absurd ⟨b',z,_,_,by rw[B,Q],M,z3,z4⟩ hb
 have m:∀f j p c,f<=(s.ob id).g->j<=(s.ob id).h+(if f=(s.ob id).g then 0 else j)->L.cont id f j p=some c->p=[]/\f=(s.ob id).g/\c=⟨t.e,t.cs,x',bif t.d then 2 else 1⟩:=by
  intro f j p c hg0 hh0 E;have q:f=(s.ob id).g:=by
   grind[St.cont,Nat.eq_of_beq_eq_true]
  cases p with
  |nil=>grind[bW]
  |cons st p=>grind[Nat.eq_of_beq_eq_true,St.cont,fU.cont]
 have C:∀f j,j<=(s.ob id).h+(if f=(s.ob id).g then 0 else j)->j<=(L.ob id).h+(if f=(L.ob id).g then 0 else j):=by
  grind
 exact
 {ref:=λv f j p l=>by
   refine⟨by rw[o];exact l.1,C _ _ l.2.1,λc E=>?_⟩;obtain⟨rfl,q,rfl⟩:=m f j p c l.1 l.2.1 E;have Y:=l.2.2 _ (bW (h:=j) ho q);exact Z v (eU r Y)
  ptr:=λv f off l=>⟨by rw[o];exact l.1,λ_ cells E=>by rw[W]at E;cases E⟩
  cD:=λv f l=>l.shut o λk x e=>by rw[W]at e;cases e
  bH:=λv f j p i off l=>by
   refine⟨by rw[o];exact l.1,C _ _ l.2.1,λc E hm=>?_⟩;obtain⟨rfl,q,rfl⟩:=m f j p c l.1 l.2.1 E;have H7:(bif U then 2 else 1)≠0:=ku U;obtain⟨r1,r2,⟨b,r3,r4⟩,v',r5⟩:=l.2.2 _ (bW (h:=j) ho q) H7;have I:=Z v' (eU r r5);have hlen:x'.length=x.length:=by
    obtain⟨ad,n,c,N,V,_⟩:=r5;obtain⟨D,n',c',B,f2,_⟩:=I
    grind
   refine⟨r1,by grind,⟨b,?_,r4⟩,v',I⟩;have hpos:0<x.length:=by
    grind
   obtain⟨ad,n,c,N,V,e3,e4,e5⟩:=eU r r5;obtain⟨D,n',c',B,f2,f3,f4,f5⟩:=I;rw[N]at B;injection B with Q M z3
   subst Q;subst M;subst z3;rcases Ba e4 with ⟨_,K⟩|⟨b1,eB,O,K,q3,q4⟩
   .rw[K]at V;omega
   .rcases Ba f4 with ⟨_,y⟩|⟨b2,FZ,u,y,k3,k4⟩
    .rw[y]at V;omega
    .rw[O]at u;injection u with u
     injection u with u
     subst u;have:b=b1:=h.inj _ _ _ r3 q4;subst this;exact k4 }
structure xE (H:Nat->Value) (ω:aq) (w:World) (s:S) (cu:aq) (w':World) (s':S) (base W:Nat) (L:Nat->Prop) (v:Value) (t:bK):Prop where
 ext:cH ω w cu w'
 tr:∀i,Tr w ω s w' cu s' i
 sl:s'.sl=s.sl
 kept:∀i,¬bh base W i -> ¬L i->s'.ob i=s.ob i/\∀b p,ω b=some (i,p)->w'.heap[b]? = w.heap[b]? /\ cu b=some (i,p)
 Fi:∀i,bh base W i->(s.ob i).g<(s'.ob i).g
 gz:∀i,L i->(s.ob i).o≠.gone/\(¬bh base W i->∀cells,(s'.ob i).o≠.blk cells)
 res:∀s'':S,(∀i,bh base W i->s''.ob i=s'.ob i)->cQ H w' cu s'' v t /\
  ∀i cells,bh base W i->(s''.ob i).o=.blk cells->∃c arr T,cu c=some (i,[])/\w'.heap[c]? = some (.cells arr T (0,0))/\aH (bU w' cu s'') arr.toList cells
def xJ (h:Rel H ω a w s) {m:List pU} {W N:S} (hd:ql m) (hW:∀t∈m,GU s t) (hR:∀t∈m,bU w ω s t.u t.l) (hcl:∀t∈m,(t.cs.plain||t.d)=true)
  (l2:∀i,(∀t∈m,ef t.l≠some i)->W.ob i=s.ob i) (l3:∀t∈m,∀i,ef t.l=some i->(s.ob i).o≠.gone/\W.ob i=⟨(s.ob i).g,(s.ob i).h+1,(s.ob i).n,.gone⟩) (l5:W.sl=s.sl)
  {E:World} {f:aq} (b1:∀i,(∀t∈m,ef t.l≠some i)->N.ob i=W.ob i) (b2:N.sl=W.sl)
  (b3:∀t∈m,∃Q:List t.cs.T,(Ty.sl t.e t.cs).R E f (aI (bif t.d then 2 else 1) t.out []) t.u Q/\∀i,ef t.l=some i->N.ob i=⟨(W.ob i).g,(W.ob i).h+1,(W.ob i).n,.arr t.e t.cs t.d Q⟩)
  {d:List Sh} {P:List (KV real)} {base B:Nat} (hbase:0<base) (hB:0<B) (Z:d.all Sh.flat=true) (hks:P.map (·.1)=(d.map Sh.ks).flatten) (hrc:(d.all λsh=>sh.ks.all K.closed)=true)
  (hout:∀t∈m,B+au d<=t.out) (u:cH (aq.gz w ω m) w f E) (hinj:∀b R k,f b=some k->f R=some k->b=R) (V:∀b k,f b=some k->b<E.heap.size) {v:Value} (hr:zU E f B d P v):
  ∃fV,Rel H fV a E (aV base d P N).2/\xE H ω w s fV E (aV base d P N).2 base (au d) (λi=>∃t∈m,ef t.l=some i) v (TV.nk (aV base d P N).1):=by
 have hfree:∀b,b<w.heap.size->aq.gz w ω m b=none->E.heap[b]? = w.heap[b]? /\ aq.fW w ω f m base B (au d) b=ω.old base (au d) b:=by
  intro b o hn;obtain⟨G,M⟩:=u.block b o (.inl hn)
  grind[aq.fW]
 have Gl:∀b i p,ω b=some (i,p)->(∀t∈m,¬jR w ω t i)->aq.gz w ω m b=none:=by
  grind[aq.gz]
 have y:∀b i p,ω b=some (i,p) -> ¬bh base (au d) i->(∀t∈m,¬jR w ω t i)->E.heap[b]? = w.heap[b]? /\ aq.fW w ω f m base B (au d) b=some (i,p):=by
  intro b i p o hn z;obtain⟨G,M⟩:=hfree b (h.dom b _ o) (Gl b i p o z)
  grind[Cr]
 have h0:∀t∈m,∀i,ef t.l=some i->i≠0:=by intro t l i r e;subst e;exact(l3 t l 0 r).1 h.dJ
 have hE:cH ω w (aq.fW w ω f m base B (au d)) E:=by
  refine⟨u.os,u.tape,u.output,u.size,λb o Y=>?_⟩;rcases Y with Y|⟨q,Y⟩
  .grind[aq.gz,Cs]
  .have:=y b 0 q Y (by unfold bh;omega) (λt l F=>h0 t l 0 F.1 rfl)
   grind
 have hown:∀i,bh B (au d) i->∀b p,b<E.heap.size->f b=some (i,p)->aq.fW w ω f m base B (au d) b=some (base+(i-B),p):=by intro i r b p _ o;unfold aq.fW;rw[o];simp only;unfold bh at r;rw[cj r]
 have A:∀b k,aq.fW w ω f m base B (au d) b=some k->(ω b=some k /\ ¬bh base (au d) k.1/\aq.gz w ω m b=none)\/(∃j,bh B (au d) j/\k.1=base+(j-B)/\f b=some (j,k.2))\/∃t∈m,jR w ω t k.1 /\ ¬bh base (au d) k.1/\f b=some (t.out,k.2):=by
  intro b k o;unfold aq.fW at o;split at o
  .split at o
   .rename_i hl;obtain⟨G,M⟩:=Ct o;exact .inl ⟨G,M,hl⟩
   .cases o
  .rename_i j p hj;split at o
   .rename_i hr';injection o with o
    subst o;exact .inr (.inl ⟨j,hr',rfl,hj⟩)
   .split at o
    .rename_i t l;have q0:=iA l;have G:=bR q0;obtain⟨G,i,M⟩:=G;have q3:=iN l;rw[M.1]at o;simp only at o;split at o
     .cases o
     .rename_i hni;injection o with o
      subst o;exact .inr (.inr ⟨t,q3,M,hni,by rw[hj,G]⟩)
    .cases o
 have L:∀t∈m,∀i,jR w ω t i -> ¬bh base (au d) i->∀b p,b<E.heap.size->f b=some (t.out,p)->aq.fW w ω f m base B (au d) b=some (i,p):=by
  intro t l i F hni b p _ o;unfold aq.fW;rw[o];simp only;have:=hout t l;rw[dS (by omega)];cases Y:m.find? (λt'=>decide (t'.out=t.out/\∃i,jR w ω t' i))with
  |none=>grind
  |some t'=>
   have q0:=iA Y;have G:=bR q0;have M:=iN Y;have e:=hd.out M l G.1;subst e;simp only;rw[F.1]
   grind[bh]
 have Im:∀v∈P,v.1.closed=true:=by
  intro v hv;have hm:v.1∈(d.map Sh.ks).flatten:=by grind
  grind
 obtain⟨us,ET,hv⟩:=tO (fV:=aq.fW w ω f m base B (au d)) (BP Z) hks hown (.inl Im) hr;obtain⟨y1,y2,y3,y4⟩:=lQ d P us base N ET;obtain⟨m1,m2⟩:=y4 _ (λ_ _=>rfl);have Fc:∀i,(N.ob i).g=(s.ob i).g:=by
  intro i;by_cases D:∃t∈m,ef t.l=some i
  .grind
  grind
 have tr:∀i,Tr w ω s E (aq.fW w ω f m base B (au d)) (aV base d P N).2 i:=λi=>by
  by_cases e:bh base (au d) i
  .exact dj.tr (by unfold dj;rw[<-Fc i];exact y2 i e)
  .by_cases D:∃t∈m,ef t.l=some i
   .obtain⟨t,l,r⟩:=D;obtain⟨Q,G,M⟩:=b3 t l;obtain⟨Ee,Gz⟩:=hW t l;rcases Gz with ⟨e',cs',z1,z2⟩|⟨id,g,hh,dp,x,z1,z2,z3,z4⟩
    .rw[r]at z2;cases z2
    .have hid:id=i:=by rw[z1]at r;injection r
     subst hid;have GI:(aV base d P N).2.ob id=⟨(s.ob id).g,(s.ob id).h+1+1,(s.ob id).n,.arr t.e t.cs t.d Q⟩:=by grind
     have hread:(Ty.sl t.e t.cs).R E (aq.fW w ω f m base B (au d)) (aI (bif t.d then 2 else 1) id []) t.u Q:=by
      have O:=hcl t l;by_cases F:jR w ω t id
      .exact vD (v:=⟨.arr t.e t.cs t.d,Q⟩) (L t l id F e) (.inl O) G
      ·-- no block of its own: nothing is in it
       have hu:(Ty.sl t.e t.cs).R w ω (aI (bif dp then 2 else 1) id []) t.u x:=by have:=hR t l;rw[z1]at this;exact this.2.2 _ (bW z3 z2)
       obtain⟨ad,n,c,C,U,f3,f4,f5⟩:=hu;rcases Ba f4 with ⟨k1,k2⟩|⟨R,kM,k1,k2,k3,k4⟩
       .subst k1;subst k2;obtain⟨FY,n',c',g1,g2,_⟩:=G;rw[C]at g1;injection g1 with w1 w2 w3
        have hx0:Q=[]:=by
         grind
        subst hx0;rw[C];exact nD
       .exact absurd ⟨r,R,kM,n,c,by rw[C,k1],k2,k3,k4⟩ F
     refine Dj (t:=t) h z1 z2 z3 Ee z4 (hR t l) (by rw[GI]) (by grind) (by rw[GI]) hread (λhnb=>⟨u.size,λb p o=>?_⟩);have:=y b id p o e (λt' ht' G2=>by have:=hd.id ht' l G2.1 r;subst this;exact hnb G2.2)
     grind
   .have z:∀t∈m,ef t.l≠some i:=λt l r=>D ⟨t,l,r⟩;refine gx.tr ⟨by grind,λb kk o hk hj=>?_⟩ hE h.dom;obtain⟨i',p⟩:=kk;have:i'=i:=hj;subst this;have:=y b i' p hk e (λt l F=>z t l F.1)
    grind
 refine⟨_,?_,⟨hE,tr,y3.trans (b2.trans l5),λi r hL=>?_,λi r=>by grind,λi ⟨t,l,r⟩=>⟨(l3 t l i r).1,λhin cells J=>?_⟩,λs'' hs=>?_⟩⟩
 rotate_left
 .have z:∀t∈m,ef t.l≠some i:=λt l hi'=>hL ⟨t,l,hi'⟩;refine⟨by grind,λb p o=>y b i p o r λt l F=>z t l F.1⟩
 .obtain⟨Q,_,M⟩:=b3 t l
  grind
 .obtain⟨z1,z2⟩:=y4 s'' hs;exact⟨hv _ _ z1,z2⟩
 exact
 {inj:=λb R k h1 h2=>by
   rcases A b k h1 with ⟨I,X,e3⟩|⟨j,I,X,e3⟩|⟨t,I,X,e3,e4⟩ <;> rcases A R k h2 with ⟨C,U,f3⟩|⟨j',C,U,f3⟩|⟨t',C,U,f3,f4⟩
   .exact h.inj b R k I C
   .exact absurd (by rw[U];unfold bh at C⊢;omega) X
   .have:=oO (w:=w) hd C U (b:=b) (p:=k.2) I;rw[e3]at this;cases this
   .exact absurd (by rw[X];unfold bh at I⊢;omega) U
   .have:j=j':=by unfold bh at I C;omega
    grind
   .exact absurd (by rw[X];unfold bh at I⊢;omega) f3
   .have:=oO (w:=w) hd I X (b:=R) (p:=k.2) C;rw[f3]at this;cases this
   .exact absurd (by rw[U];unfold bh at C⊢;omega) e3
   .have:=hd.id I C X.1 U.1
    grind
  dom:=λb k h1=>by
   rcases A b k h1 with ⟨I,_⟩|⟨j,_,_,e3⟩|⟨t,_,_,_,e4⟩
   .exact c6 (h.dom b k I) u.size
   .exact V b _ e3
   .exact V b _ e4
  defers:=h.defers
  dH:=h.dH.ext hE
  dJ:=by rw[y1 0 (by unfold bh;omega),b1 0 (λt l r=>h0 t l 0 r rfl),l2 0 (λt l r=>h0 t l 0 r rfl)];exact h.dJ
  slots:=λi=>by rw[y3,b2,l5];exact cQ.frame hE tr (h.slots i)
  c7:=λi cells J=>by
   by_cases e:bh base (au d) i
   .exact m2 i cells e J
   .rw[y1 i e]at J;by_cases D:∃t∈m,ef t.l=some i
    .obtain⟨t,l,r⟩:=D;obtain⟨Q,_,M⟩:=b3 t l
     grind
    .have z:∀t∈m,ef t.l≠some i:=λt l r=>D ⟨t,l,r⟩;rw[b1 i z,l2 i z]at J;obtain⟨b,arr,T,g1,g2,g3⟩:=h.c7 i cells J;have:=y b i [] g1 e (λt l F=>z t l F.1);exact⟨b,arr,T,this.2,this.1.trans g2,g3.mono λ_ _ hl=>bU.frame hE tr hl⟩ }
def nM(h:Rel H ω a w s){q:List pU}(hd:ql q):∀(ks:List K) (ls:List L) (f:List Value) (b o:Nat),aH (bU w ω s) f ls->(∀t∈bB ks ls f b o,t∈q)->kD w ω s (aq.gz w ω q) b ks ls f
 |[],_,_,_,_,_,_=>trivial
 |_::_,[],_,_,_,_,_=>trivial
 |_::_,_::_,[],_,_,j,_=>j.elim
 |.val t::ks,l::ls,u::f,b,o,j,k=>⟨trivial,nM h hd ks ls f (b+1) o j.2 k⟩
 |.mp _::ks,l::ls,u::f,b,o,j,k=>⟨trivial,nM h hd ks ls f (b+1) o j.2 k⟩
 |.arr e B d::ks,l::ls,u::f,b,o,j,k=>by
  refine⟨λx s2 P=>?_,nM h hd ks ls f (b+1) (o+1) j.2 λt E=>k t (by grind[bB])⟩;have E:(⟨e,B,d,l,u,b,o⟩:pU)∈q:=k _ (by simp[bB]);rcases zf h j.1 P with ⟨_,rfl,G,rfl⟩|⟨id,g,Y,S,I,T,U,V,J,M⟩
  .exact nD
  .have F:=eU M J;by_cases D:jR w ω ⟨e,B,d,l,u,b,o⟩ id
   .refine xG (i:=id) ⟨λr v Z=>?_,λr p v Q=>oO hd E D Q⟩ F
    grind[aq.gz]
   .obtain⟨G,n,c,C,N,W,O,X⟩:=F;rcases Ba O with ⟨z,A⟩|⟨r,m,z,A,k3,R⟩
    .subst z;subst A;have y:x=[]:=cK.1 N;subst y;rw[C];exact nD
    .exact absurd ⟨by rw[I];rfl,r,m,n,c,by rw[C,z],A,k3,R⟩ D
def uG:∀(ks:List K) (ls:List L) (c:List Value) (b o:Nat),∀t∈bB ks ls c b o,K.arr t.e t.cs t.d∈ks
 |[],_,_,_,_,t,a=>by simp[bB]at a
 |.arr .. :: _,[],_,_,_,t,a=>by simp[bB]at a
 |.val _::_,[],_,_,_,t,a=>by simp[bB]at a
 |.mp _::_,[],_,_,_,t,a=>by simp[bB]at a
 |.arr .. :: _,_::_,[],_,_,t,a=>by simp[bB]at a
 |.val _::_,_::_,[],_,_,t,a=>by simp[bB]at a
 |.mp _::_,_::_,[],_,_,t,a=>by simp[bB]at a
 |.arr e f d::ks,l::ls,u::c,b,o,t,a=>by
  simp only[bB,ck]at a;rcases a with rfl|a
  .exact List.mem_cons_self
  .exact eJ _ (uG ks ls c _ _ t a)
 |.val _::ks,l::ls,u::c,b,o,t,a=>eJ _ (uG ks ls c _ _ t a)
 |.mp _::ks,l::ls,u::c,b,o,t,a=>eJ _ (uG ks ls c _ _ t a)
def tJ:∀(a:List Sh),(a.map Sh.outs).flatten=(dl a).filter K.iR
 |[]=>rfl
 |b::a=>by simp only[dl,cR,iV,List.filter_append];rw[tJ a];rfl
theorem Cx{t:Ty}{l:L}{s:S}{q:real.V t×S}(h:bF (A:=real) false t l s=some q):q.2.sl=s.sl:=by
 unfold bF at h;split at h
 .grind
 .grind
 .grind
 .grind
 .rename_i id g _;cases a:Nat.beq (s.ob id).g g with
  |false=>rw[a]at h;cases h
  |true=>
   rw[a]at h;simp only[aJ]at h;split at h
   .split at h
    .simp only[cz]at h;injection h with h;subst h;rfl
    .cases h
   .grind
   .cases h
 .cases h
theorem C8{e:Nat}{b:ar}{deep:Bool}{l:L}{s:S}{q:real.V (.sl e b)×S}(h:eB (A:=real) e b deep l s=some q):q.2.sl=s.sl:=by
 unfold eB at h;split at h
 .grind
 .rename_i id g _;cases d:Nat.beq (s.ob id).g g <;> rw[d]at h
  .cases h
  .simp only[aJ]at h;split at h
   .rename_i f a c x i;cases hd:(c==deep||a.plain) <;> rw[hd]at h
    .cases h
    .simp only[aJ]at h;split at h
     .injection h with h;subst h;rfl
     .cases h
   .cases h
 .cases h
theorem Et{k:IntKind}{l:L}{s:S}{q:real.V (.sl 0 (ar.mp k))×S}(h:uM (A:=real) k l s=some q):q.2.sl=s.sl:=by
 unfold uM at h;split at h
 .rename_i id g;cases a:Nat.beq (s.ob id).g g <;> rw[a]at h
  .cases h
  .simp only[aJ]at h;split at h
   .split at h
    .injection h with h;subst h;rfl
    .cases h
   .cases h
 .cases h
def CK{k:K}{l:L}{s:S}{q:KV real×S}(h:cI k l s=some q):q.2.sl=s.sl:=by
 cases k with
 |val t=>
  simp only[cI]at h;cases a:bF (A:=real) false t l s with
  |none=>rw[a]at h;cases h
  |some p=>grind[Cx]
 |arr e b deep=>
  simp only[cI]at h;cases a:eB (A:=real) e b deep l s with
  |none=>rw[a]at h;cases h
  |some p=>grind[C8]
 |mp c=>
  simp only[cI]at h;cases a:uM (A:=real) c l s with
  |none=>rw[a]at h;cases h
  |some p=>grind[Et]
def jO:∀ {ks:List K} {ls:List L} {s:S} {q:List (KV real)×S},takes ks ls s=some q->q.2.sl=s.sl
 |[],[],s,q,h=>by injection h with h;subst h;rfl
 |[],_::_,s,q,h=>by cases h
 |_::_,[],s,q,h=>by cases h
 |k::ks,l::ls,s,q,h=>by
  simp only[takes]at h;cases a:cI k l s with
  |none=>rw[a]at h;cases h
  |some p=>
   rw[a]at h;simp only[]at h;cases b:takes ks ls p.2 with
   |none=>rw[b]at h;cases h
   |some c=>rw[b]at h;injection h with h;subst h;exact(jO (q:=c) b).trans (CK a)
def j7{b:ar}{c:cU real}{s:S}{q:List (KV real)×S}(h:bM b c s=some q):q.2.sl=s.sl:=by
 unfold bM at h;split at h
 .split at h
  .cases a:takes b.ks _ s with
   |none=>rw[a]at h;cases h
   |some p=>
    rw[a]at h;simp only[]at h;split at h
    .injection h with h;subst h;exact jO (q:=p) a
    .cases h
  .cases h
 grind
theorem pP:∀ {a:List ar} {b:List (cU real)} {s:S} {q:List (KV real)×S},bX a b s=some q->q.2.sl=s.sl
 |[],[],s,q,h=>by injection h with h;subst h;rfl
 |[],_::_,s,q,h=>by cases h
 |_::_,[],s,q,h=>by cases h
 |g::d,c::b,s,q,h=>by
  simp only[bX]at h;cases e:bM g c s with
  |none=>rw[e]at h;cases h
  |some p=>
   rw[e]at h;simp only[]at h;cases f:bX d b p.2 with
   |none=>rw[f]at h;cases h
   |some i=>rw[f]at h;injection h with h;subst h;exact(pP (q:=i) f).trans (j7 e)
def AR{c:Cp}{v:cU real}{s:S}{q:List (KV real)×S}(h:eX c v s=some q):q.2.sl=s.sl:=by
 unfold eX at h;split at h
 .exact j7 h
 .split at h
  .split at h
   .rename_i b a;injection h with h;subst h
    exact(jO (q:=b) a).trans rfl
   .cases h
  .cases h
 .cases h
theorem sj:∀ {a:List Cp} {b:List (cU real)} {s:S} {q:List (KV real)×S},b7 a b s=some q->q.2.sl=s.sl
 |[],[],s,q,h=>by injection h with h;subst h;rfl
 |[],_::_,s,q,h=>by cases h
 |_::_,[],s,q,h=>by cases h
 |g::d,c::b,s,q,h=>by
  simp only[b7]at h;cases e:eX g c s with
  |none=>rw[e]at h;cases h
  |some p=>
   rw[e]at h;simp only[]at h;cases f:b7 d b p.2 with
   |none=>rw[f]at h;cases h
   |some i=>rw[f]at h;injection h with h;subst h;exact(sj (q:=i) f).trans (AR e)
def AU{d:Sh}{v:bK}{s:S}{q:List (KV real)×S}(h:bL d v s=some q):q.2.sl=s.sl:=by
 unfold bL at h;split at h
 .exact j7 h
 .exact j7 h
 .grind[pP]
 .grind[sj]
 .exact jO h
 .exact jO h
 .rename_i ks id g;cases b:dm s id g with
  |none=>rw[b]at h;cases h
  |some ls=>
   rw[b]at h;simp only at h;cases a:takes ks ls (s.bq id true .gone)with
   |none=>rw[a]at h;cases h
   |some c=>
    rw[a]at h;injection h with h;subst h
    exact(jO (q:=c) a).trans rfl
 .cases h
def r7:∀ {a:List Sh} {d:List bK} {s:S} {q:List (KV real)×S},bz a d s=some q->q.2.sl=s.sl
 |[],[],s,q,h=>by injection h with h;subst h;rfl
 |[],_::_,s,q,h=>by cases h
 |_::_,[],s,q,h=>by cases h
 |f::a,v::d,s,q,h=>by
  simp only[bz]at h;cases b:bL f v s with
  |none=>rw[b]at h;cases h
  |some p=>
   rw[b]at h;simp only[]at h;cases c:bz a d p.2 with
   |none=>rw[c]at h;cases h
   |some e=>rw[c]at h;injection h with h;subst h;exact(r7 (q:=e) c).trans (AU b)
structure BE where
 ks:List K
 id:Nat
 u:Value
 out:Nat
def bi:List (List K)->List L->List Value->Nat->List BE
 |ks::a,.ptr id _ _::ls,u::b,o=>⟨ks,id,u,o⟩::bi a ls b (o+(ks.length+1))
 |_,_,_,_=>[]
def qJ:∀(a:List (List K)) (ls:List L) (c:List Value) (o:Nat),(∀e∈bi a ls c o,o<=e.out)/\(bi a ls c o).Pairwise λe d=>e.out+e.ks.length<d.out
 |[],_,_,_=>⟨λt b=>by simp[bi]at b,by simp[bi]⟩
 |_::_,[],_,_=>⟨λt b=>by simp[bi]at b,by simp[bi]⟩
 |ks::a,l::ls,[],o=>by simp_all[bi]
 |ks::a,l::ls,u::c,o=>by
  cases l with
  |ptr id g h=>
   obtain⟨i,f⟩:=qJ a ls c (o+(ks.length+1));simp only[bi];refine⟨λt b=>?_,List.Pairwise.cons (λt b=>?_) f⟩
   .grind
   grind
  |_=>simp_all[bi]
def sn{ks:List K}{v:bK}{s:S}{q:List (KV real)×S}(h:bL (.blk ks) v s=some q):∃id g ls,v=.one (.ptr id g 0)/\(s.ob id).g=g/\(s.ob id).o=.blk ls/\(q.2.ob id).o=.gone:=by
 have f:∀id g,bL (.blk ks) (.one (.ptr id g 0)) s=some q->∃ls,(s.ob id).g=g/\(s.ob id).o=.blk ls/\(q.2.ob id).o=.gone:=by
  intro id g h;simp only[bL]at h;cases b:dm s id g with
  |none=>rw[b]at h;cases h
  |some ls=>
   rw[b]at h;simp only at h;cases a:takes ks ls (s.bq id true .gone)with
   |none=>rw[a]at h;cases h
   |some i=>
    rw[a]at h;injection h with h
    subst h;obtain⟨d,e⟩:=cM b;exact⟨ls,d,e,(ez a).gone (by rw[St.ay])⟩
 cases v with
 |one l=>
  cases l with
  |ptr id g c=>
   cases c with
   |zero=>grind
   |succ _=>cases h
  |_=>cases h
 |_=>cases h
def lK(b:Sh)(a:List Sh):eC (b::a)=b.DT++eC a:=by simp[eC]
structure C7 (ω:aq) (s0 s s1:S) (e:BE):Prop where
 was:∃cells,(s0.ob e.id).o=.blk cells
 now:(s.ob e.id).o≠.gone
 is:(s1.ob e.id).o=.gone
 at_:∃b,ω b=some (e.id,[])/\e.u=.pointer (some ⟨b,0,none⟩)
def j8{y I:S}{j:List (List K)}{ls:List L}{C:List Value}:∀(a:List Cp) (k:List (cU real)) (l:List Value) (s:S) (q:List (KV real)×S) (o:Nat),df y s->aH (λv c=>gK w ω y v c) l k->b7 a k s=some q->df q.2 I ->
  (∀o,(∀e∈bi j ls C o,C7 ω y q.2 I e)/\(bi j ls C o).Pairwise λe D=>e.id≠D.id) ->
  (∀e∈bi (CU a++j) (qR a k++ls) (vA a l++C) o,C7 ω y s I e)/\(bi (CU a++j) (qR a k++ls) (vA a l++C) o).Pairwise λe D=>e.id≠D.id
 |[],[],l,s,q,o,z,m,h,B,A=>by
  injection h with h
  subst h;cases l with
  |nil=>exact A o
  |cons _ _=>exact m.elim
 |[],_::_,_,_,_,_,_,_,h,_,_=>by cases h
 |_::_,[],_,_,_,_,_,_,h,_,_=>by cases h
 |_::_,_::_,[],_,_,_,_,m,_,_,_=>m.elim
 |c::a,v::k,u::l,s,q,o,z,m,h,B,A=>by
  simp only[b7]at h;cases n:eX c v s with
  |none=>rw[n]at h;cases h
  |some p=>
   rw[n]at h;simp only[]at h;cases r:b7 a k p.2 with
   |none=>rw[r]at h;cases h
   |some N=>
    rw[r]at h;injection h with h
    subst h;have i:=lG n;cases c with
    |ro U=>obtain⟨f,H⟩:=j8 a k l p.2 N o (z.trans i) m.2 r B A;exact⟨λe d=>⟨(f e d).was,λhg=>(f e d).now (i.gone hg),(f e d).is,(f e d).at_⟩,H⟩
    |mu ks=>
     cases v with
     |ro _ _=>cases n
     |ptr id g=>
      obtain⟨T,V,x,E,O,J,M⟩:=sn (show bL (.blk ks) (.one (.ptr id g 0)) s=some p from n);injection E with E
      injection E with F G _
      subst F;subst G;obtain⟨f,H⟩:=j8 a k l p.2 N (o+(ks.length+1)) (z.trans i) m.2 r B A;simp only[CU,qR,vA,gV,bi];have t:s.ob id=y.ob id:=z.blk J;obtain⟨b,Q,R⟩:=m.1.2 (by rw[<-t];exact O) x (by rw[<-t];exact J);refine⟨λe d=>?_,List.Pairwise.cons (λe d=>?_) H⟩
      .rcases ck.1 d with rfl|d
       .exact⟨⟨x,by grind⟩,(by grind),B.gone ((j9 r).gone M),⟨b,Q,R⟩⟩
       .exact⟨(f e d).was,λhg=>(f e d).now (i.gone hg),(f e d).is,(f e d).at_⟩
      .intro P;exact(f e d).now (by rw[<-P];exact M)
def iw{y:S}:∀(a:List Sh) (c:List bK) (i:List Value) (s:S) (q:List (KV real)×S) (o:Nat),df y s->aH (cQ H w ω y) i c->bz a c s=some q ->
  (∀e∈bi (eC a) (bV a c) (ek a i) o,C7 ω y s q.2 e)/\(bi (eC a) (bV a c) (ek a i) o).Pairwise λe J=>e.id≠J.id
 |[],_,_,_,_,_,_,_,_=>⟨λt U=>by simp[eC,bi]at U,by simp[eC,bi]⟩
 |_::_,[],i,s,q,o,_,_,h=>by cases h
 |_::_,_::_,[],s,q,o,_,r,_=>r.elim
 |m::a,tv::c,u::i,s,q,o,B,r,h=>by
  simp only[bz]at h;cases A:bL m tv s with
  |none=>rw[A]at h;cases h
  |some p=>
   rw[A]at h;simp only[]at h;cases v:bz a c p.2 with
   |none=>rw[v]at h;cases h
   |some D=>
    rw[v]at h;injection h with h
    subst h;have l:=lH A;have skip:m.DT=[]->m.DU tv=[]->m.C0 u=[]->(∀e∈bi (eC (m::a)) (bV (m::a) (tv::c)) (ek (m::a) (u::i)) o,C7 ω y s D.2 e)/\(bi (eC (m::a)) (bV (m::a) (tv::c)) (ek (m::a) (u::i)) o).Pairwise λe J=>e.id≠J.id:=by intro z x E;rw[lK,z];simp only[bV,ek,x,E,gi];obtain⟨n,M⟩:=iw a c i p.2 D o (B.trans l) r.2 v;exact⟨λe j=>⟨(n e j).was,λhg=>(n e j).now (l.gone hg),(n e j).is,(n e j).at_⟩,M⟩
    cases m with
    |blk ks=>
     obtain⟨id,g,ls,rfl,z,x,E⟩:=sn A;obtain⟨n,M⟩:=iw a c i p.2 D (o+(ks.length+1)) (B.trans l) r.2 v;rw[lK];show(∀e∈bi ([ks]++eC a) ([.ptr id g 0]++bV a c) ([u]++ek a i) o,_)/\(bi ([ks]++eC a) ([.ptr id g 0]++bV a c) ([u]++ek a i) o).Pairwise _;simp only[List.singleton_append,bi];have C:s.ob id=y.ob id:=B.blk x;have T:yZ ω y u id g 0:=r.1;obtain⟨b,O,P⟩:=T.2 (by rw[<-C];exact z) ls (by rw[<-C];exact x);refine⟨λe j=>?_,List.Pairwise.cons (λe j=>?_) M⟩
     .rcases ck.1 j with rfl|j
      .exact⟨⟨ls,by grind⟩,(by grind),(iy v).gone E,⟨b,O,P⟩⟩
      .exact⟨(n e j).was,λhg=>(n e j).now (l.gone hg),(n e j).is,(n e j).at_⟩
     .intro N;exact(n e j).now (by rw[<-N];exact E)
    |qa f d=>
     have k:=A;unfold bL at k;split at k;case h_4=>
      rename_i V F K G L;injection L with z x
      subst z;subst x;cases R:Nat.beq f K <;> rw[R]at k
      .cases k
      .obtain⟨I,rfl,Q⟩:=r.1;rw[lK];show(∀e∈bi (CU d++eC a) (qR d G++bV a c) (vA d I.toArray.toList++ek a i) o,_)/\(bi (CU d++eC a) (qR d G++bV a c) (vA d I.toArray.toList++ek a i) o).Pairwise _;exact j8 d G I s p o B Q k (iy (q:=D) v) (λo=>iw a c i p.2 D o (B.trans l) r.2 v)
     all_goals grind
    |one _=>exact skip rfl rfl rfl
    |agg _=>exact skip rfl rfl rfl
    |ro _=>exact skip rfl rfl rfl
    |fn _ _=>exact skip rfl rfl rfl
def zx:∀(a:List (KV real)) (id:Nat) (s:S),(∀i,¬bh id a.length i->(lays id a s).2.ob i=s.ob i)/\(∀i,bh id a.length i->(s.ob i).g<((lays id a s).2.ob i).g/\∀cells,((lays id a s).2.ob i).o≠.blk cells)/\(lays id a s).2.sl=s.sl
 |[],id,s=>⟨λ_ _=>rfl,λi hi=>absurd hi (by unfold bh;simp),rfl⟩
 |v::a,id,s=>by
  obtain⟨h,j,d⟩:=zx a (id+1) (dh id v s).2;have b:((dh id v s).2.ob id).g=(s.ob id).g+1/\(∀cells,((dh id v s).2.ob id).o≠.blk cells)/\(dh id v s).2.sl=s.sl/\∀i,i≠id->(dh id v s).2.ob i=s.ob i:=by
   obtain⟨c,x⟩:=v;cases c with
   |val t=>
    refine⟨?_,?_,rfl,λi hi=>?_⟩
    .simp[dh,St.new,St.aB]
    .grind[dh,St.new,St.aB]
    grind[dh,St.new,St.aU]
   |arr e f g=>
    refine⟨?_,?_,rfl,λi hi=>?_⟩
    .simp[dh,St.new,St.aB]
    .grind[dh,St.new,St.aB]
    grind[dh,St.new,St.aU]
   |mp c=>
    refine⟨?_,?_,rfl,λi hi=>?_⟩
    .simp[dh,St.new,St.aB]
    .grind[dh,St.new,St.aB]
    grind[dh,St.new,St.aU]
  grind[lays,bh]
structure FU (w':World) (cu:aq) (s s':S) (e:BE):Prop where
 small:e.id<cO/\e.ks.length<=64
 cells:∀i,bh (aR e.id) e.ks.length i->(s.ob i).g<(s'.ob i).g/\∀cells,(s'.ob i).o≠.blk cells
 at_:∃b arr T vals cells,e.u=.pointer (some ⟨b,0,none⟩)/\cu b=some (e.out,[])/\w'.heap[b]? = some (.cells arr T (0,0))/\vals.length=e.ks.length/\fp w' cu (e.out+1) vals arr.toList /\
  s'.ob e.id=⟨(s.ob e.id).g,(s.ob e.id).h+1,(s.ob e.id).n,.blk cells⟩ /\
  ∀(fV:aq) (s'':S),fp w' fV (aR e.id) vals arr.toList->(∀i,bh (aR e.id) e.ks.length i->s''.ob i=s'.ob i)->aH (bU w' fV s'') arr.toList cells
def s8{i j m n:Nat}(a:m<64)(b:n<64)(h:aR i+m=aR j+n):i=j/\m=n:=by unfold aR at h;omega
theorem dU(i:Nat):cO<=aR i:=by unfold aR;omega
theorem uj(e:BE):¬bh (aR e.id) e.ks.length 0:=by
 grind[bh,aR,cO]
def vY{x:World}{m:aq}:∀(a:List (List K)) (ls:List L) (j:List Value) (c:List (KV real)) (o:Nat) (s f:S),fI x m o (a.map .blk) c j->iQ a ls c s=some f->(bi a ls j o).Pairwise (λe A=>e.id≠A.id) ->
  f.sl=s.sl/\(∀i,i<cO->(∀e∈bi a ls j o,e.id≠i)->f.ob i=s.ob i)/\(∀i,cO<=i->(∀e∈bi a ls j o,¬bh (aR e.id) e.ks.length i)->f.ob i=s.ob i)/\∀e∈bi a ls j o,FU x m s f e
 |[],ls,j,c,o,s,f,h,d,_=>by
  cases ls with
  |nil=>
   cases c with
   |nil=>injection d with d;grind[bi]
   |cons _ _=>cases d
  |cons _ _=>cases d
 |ks::a,[],j,c,o,s,f,h,d,_=>by cases d
 |ks::a,l::ls,[],c,o,s,f,h,d,_=>h.elim
 |ks::a,l::ls,u::j,c,o,s,f,h,d,w=>by
  cases l with
  |ptr id g D=>
   cases D with
   |succ _=>cases d
   |zero=>
    simp only[iQ]at d;cases t:(Nat.ble (id+1) cO&&(Nat.ble ks.length 64&&Nat.ble ks.length c.length))with
    |false=>rw[t]at d;cases d
    |true=>
     rw[t]at d;simp only[aJ]at d;rw[aQ,aQ]at t;obtain⟨y,z,G⟩:=t;have y:=bn y;have z:=bn z;have G:=bn G;have r:(c.take ks.length).length=ks.length:=by rw[jS];omega
     simp only[bi]at w;rw[vM]at w;obtain⟨_,⟨b,arr,T,r1,r2,r3,r4⟩,r5⟩:=h;have F:fI x m (o+(ks.length+1)) (a.map .blk) (c.drop ks.length) j:=r5;have E:fp x m (o+1) (c.take ks.length) arr.toList:=r4;obtain⟨J,X,Y⟩:=zx (c.take ks.length) (aR id) s;obtain⟨W,k2,k3,I⟩:=vY a ls j (c.drop ks.length) (o+(ks.length+1)) _ f F d w.2;rw[r]at J X;have V:¬bh (aR id) ks.length id:=by grind[dU,bh]
     have H:∀i,bh (aR id) ks.length i->∀e∈bi a ls j (o+(ks.length+1)),¬bh (aR e.id) e.ks.length i:=by
      intro i hi e n U;have P:=(I e n).small.2
      grind[bh,aR]
     have B:∀i,bh (aR id) ks.length i->f.ob i=(lays (aR id) (c.take ks.length) s).2.ob i:=by
      intro i hi;have R:cO<=i:=eK (dU id) hi.1
      grind[St.aO]
     refine⟨W.trans Y,λi hi v=>?_,λi hi v=>?_,λe n=>?_⟩
     .have C:i≠id:=λe=>v ⟨ks,id,u,o⟩ (by simp[bi]) e.symm
      grind[bi,St.aO,dU,bh]
     .rw[k3 i hi λe n=>v e (by grind[bi]),St.aO _ _ _ (by omega),J i (v ⟨ks,id,u,o⟩ (by simp[bi]))]
     .simp only[bi,ck]at n;rcases n with rfl|n
      .refine⟨⟨y,z⟩,λi hi=>?_,b,arr,T,c.take ks.length,(lays (aR id) (c.take ks.length) s).1,r1,r2,r3,r,E,?_,λM s'' hk hs=>?_⟩
       .grind
       .grind[St.ay]
       grind[nL]
      .obtain⟨m1,m2,O,q,N,p,k,Z,n2,n3,n4,n5,n6,n7⟩:=I e n;have C:e.id≠id:=λA=>w.1 e n A.symm;have Q:∀i,bh (aR e.id) e.ks.length i->((lays (aR id) (c.take ks.length) s).2.bq id true (.blk (lays (aR id) (c.take ks.length) s).1)).ob i=s.ob i:=by
        grind[St.aO]
       refine⟨m1,λi hi=>?_,O,q,N,p,k,Z,n2,n3,n4,n5,?_,n7⟩
       .grind
       grind[St.aO,dU,bh]
  |_=>cases d
noncomputable def aq.c8(a:aq)(m:List (Nat×Nat)):aq:=λb=>match a b with
 |none=>none
 |some (i,p)=>match m.find? (λq=>q.1==i)with
  |some q=>some (q.2,p)
  |none=>some (0,[(b,0)])
noncomputable def aq.cV(c a:aq)(m:List (Nat×Nat))(d:List BE)(base B W:Nat):aq:=λb=>match a b with
 |none=>none
 |some (j,p)=>
  if j=0 then match c b with
   |none=>none
   |some (i,q)=>if bh base W i\/(∃e∈d,bh (aR e.id) e.ks.length i)\/(∃j,(i,j)∈m)then none else some (i,q)
  else if bh B W j then some (base+(j-B),p)
  else match d.find? (λe=>decide (e.out<=j/\j<=e.out+e.ks.length))with
   |some e=>if j=e.out then some (e.id,p)else some (aR e.id+(j-(e.out+1)),p)
   |none=>none
section
variable {eD cu:aq}{s1:S}{m:List (Nat×Nat)}{lo hi:Nat}{es:List BE}{base B W:Nat}(hg:bT w ω s eD s1 m lo hi)(hlo:0<lo)
theorem jZ{b:Nat}(h:eD b=none):eD.c8 m b=none:=by unfold aq.c8;rw[h]
include hg in
theorem wi{i j b:Nat}{p:List (Nat×Nat)}(e:(i,j)∈m)(h:eD b=some (i,p)):eD.c8 m b=some (j,p):=by
 unfold aq.c8;rw[h];simp only;cases c:m.find? (λq=>q.1==i)with
 |none=>grind
 |some q=>obtain⟨f,g⟩:=q;have a:=iA c;have d:=iN c;simp at a;subst a;rw[hg.fn f j g e d]
theorem sE{i b:Nat}{p:List (Nat×Nat)}(a:∀j,(i,j)∉m)(h:eD b=some (i,p)):eD.c8 m b=some (0,[(b,0)]):=by
 grind[aq.c8]
theorem ia{b:Nat}{k:Key}(h:eD.c8 m b=some k):(∃i,eD b=some (i,k.2)/\(i,k.1)∈m)\/(k=(0,[(b,0)])/\∃i p,eD b=some (i,p)/\∀j,(i,j)∉m):=by
 grind[aq.c8]
include hg in
theorem sF:fJ w eD (eD.c8 m) m:=⟨λ_ _ h=>jZ h,λ_ _ a _ _ _ h=>wi hg a h⟩
include hg hlo in
theorem wh(g:∀b a k,eD b=some k->eD a=some k->b=a)(b a:Nat)(k:Key)(h:eD.c8 m b=some k)(l:eD.c8 m a=some k):b=a:=by
 rcases ia h with ⟨i,e,c⟩|⟨e,i,p,c,n⟩ <;> rcases ia l with ⟨j,f,d⟩|⟨f,j,q,d,o⟩
 .have:=hg.inj i j k.1 c d
  grind
 .rw[f]at c;have:=(hg.oh _ _ c).1;omega
 .rw[e]at d;have:=(hg.oh _ _ d).1;omega
 grind
theorem wg(hd:∀b k,eD b=some k->b<w.heap.size)(b:Nat)(k:Key)(h:eD.c8 m b=some k):b<w.heap.size:=by rcases ia h with ⟨_,a,_⟩|⟨_,_,_,c,_⟩ <;> exact hd b _ (by assumption)
theorem kQ{b:Nat}{k:Key}(h:eD.cV cu m es base B W b=some k):
  ((∃q,cu b=some (0,q))/\eD b=some k /\ ¬bh base W k.1/\(∀e∈es,¬bh (aR e.id) e.ks.length k.1)/\∀j,(k.1,j)∉m) \/
  (∃j,bh B W j/\k.1=base+(j-B)/\cu b=some (j,k.2))\/(∃e∈es,k.1=e.id/\cu b=some (e.out,k.2))\/∃e∈es,∃t,t<e.ks.length/\k.1=aR e.id+t/\cu b=some (e.out+1+t,k.2):=by
 unfold aq.cV at h;split at h
 .cases h
 .rename_i j p f;split at h
  .grind
  .split at h
   .grind
   .split at h
    .rename_i e c;have a:=iA c;have i:=bR a;have d:=iN c;split at h
     .grind
     .rename_i g;injection h with h
      subst h;refine .inr (.inr (.inr ⟨e,d,j-(e.out+1),by omega,rfl,?_⟩))
      grind
    .cases h
theorem kP{b:Nat}(h:cu b=none):eD.cV cu m es base B W b=none:=by unfold aq.cV;rw[h]
theorem xI{b j:Nat}{p:List (Nat×Nat)}(a:0<B)(c:bh B W j)(h:cu b=some (j,p)):eD.cV cu m es base B W b=some (base+(j-B),p):=by
 grind[aq.cV,bh]
theorem vH{b i:Nat}{p q:List (Nat×Nat)}(h:cu b=some (0,q))(a:eD b=some (i,p))(c:¬bh base W i)(d:∀e∈es,¬bh (aR e.id) e.ks.length i)(f:∀j,(i,j)∉m):eD.cV cu m es base B W b=some (i,p):=by
 grind[aq.cV]
theorem wA(f:es.Pairwise λe a=>e.out+e.ks.length<a.out){e:BE}(b:e∈es){j:Nat}(d:e.out<=j/\j<=e.out+e.ks.length):es.find? (λe=>decide (e.out<=j/\j<=e.out+e.ks.length))=some e:=by
 cases c:es.find? (λe=>decide (e.out<=j/\j<=e.out+e.ks.length))with
 |none=>grind
 |some a=>grind[dK]
theorem xH{b:Nat}{p:List (Nat×Nat)}(d:es.Pairwise λe a=>e.out+e.ks.length<a.out){e:BE}(c:e∈es)(f:0<B)(g:B+W<=e.out)(h:cu b=some (e.out,p)):eD.cV cu m es base B W b=some (e.id,p):=by unfold aq.cV;rw[h];simp only;rw[dS (by omega),dS (by unfold bh;omega),wA d c ⟨az _,fm _ _⟩];simp
theorem vG{b t:Nat}{p:List (Nat×Nat)}(d:es.Pairwise λe a=>e.out+e.ks.length<a.out){e:BE}(c:e∈es)(f:0<B)(g:B+W<=e.out)(i:t<e.ks.length)(h:cu b=some (e.out+1+t,p)):eD.cV cu m es base B W b=some (aR e.id+t,p):=by
 unfold aq.cV;rw[h];simp only;rw[dS (by omega),dS (by unfold bh;omega),wA d c ⟨by omega,by omega⟩]
 grind
end
def Tr.Dq{n:World}{j b:aq}{f m:S}{i:Nat}(a:m.ob i=f.ob i)(l:(f.ob i).o=.gone):Tr w j f n b m i where
 ref v g h p hr:=⟨by rw[a];exact hr.1,by rw[a];exact hr.2.1,λc d=>by grind[jA]⟩
 ptr v g off hr:=⟨by rw[a];exact hr.1,λ_ cells d=>by rw[a,l]at d;cases d⟩
 bH v g h p i off hr:=⟨by rw[a];exact hr.1,by rw[a];exact hr.2.1,λc d=>by grind[jA]⟩
 cD v g hr:=hr.shut (by rw[a]) λk x e=>by rw[a,l]at e;cases e
theorem wq{i g h:Nat}{p:iU}{cells:List L}(a:(s.ob i).o=.blk cells):s.cont i g h p=none:=by
 grind[St.cont,fU.cont]
def Tr.Ew{A:World}{f:aq}{m:S}{i:Nat}{cells c0:List L}(l:(s.ob i).o=.blk c0)(n:(m.ob i).g=(s.ob i).g)(B:(s.ob i).h<=(m.ob i).h)(z:(m.ob i).o=.blk cells)(u:∀b,ω b=some (i,[])->f b=some (i,[])):Tr w ω s A f m i:=by
 have d:∀q l,l<=(s.ob i).h+(if q=(s.ob i).g then 0 else l)->l<=(m.ob i).h+(if q=(m.ob i).g then 0 else l):=by
  grind
 exact
 {ref:=λv g h p a=>⟨by rw[n];exact a.1,d _ _ a.2.1,λc y=>by grind[wq]⟩
  ptr:=λv g o a=>⟨by rw[n];exact a.1,λe _ _=>by obtain⟨b,r,t⟩:=a.2 (by rw[<-n];exact e) c0 l;exact⟨b,u b r,t⟩⟩
  bH:=λv g h p j o a=>⟨by rw[n];exact a.1,d _ _ a.2.1,λc y=>by grind[wq]⟩
  cD:=λv g a=>a.shut n λk x e=>by rw[z]at e;cases e }
def uB{w:World}{f:aq}:∀(a:List Cp) (i:List (KV real)) (e:List Value) (b:Nat),vr w f b a i e->∀u∈vA a e,∃d n,b<=n/\u=.pointer (some ⟨d,0,none⟩)/\f d=some (n,[])
 |[],_,_,_,_,u,c=>by simp[vA]at c
 |.ro _::_,_,[],_,h,_,_=>h.elim
 |.mu _::_,_,[],_,h,_,_=>h.elim
 |.ro l::r,i,v::e,b,h,u,c=>uB r _ e b h.2.2 u c
 |.mu ks::r,i,v::e,b,h,u,c=>by
  simp only[vA,ck]at c;rcases c with rfl|c
  .obtain⟨_,⟨d,arr,T,j,g,_⟩,_⟩:=h;exact⟨d,b,az _,j,g⟩
  .obtain⟨d,n,j,g,k⟩:=uB r _ e _ h.2.2 u c;exact⟨d,n,by omega,g,k⟩
def s5{w:World}{g:aq}:∀(c:List Sh) (m:List (KV real)) (i:List Value) (b:Nat),fI w g b c m i->∀u∈ek c i,∃d n,b<=n/\u=.pointer (some ⟨d,0,none⟩)/\g d=some (n,[])
 |[],_,_,_,_,u,a=>by simp[ek]at a
 |_::_,_,[],_,h,_,_=>h.elim
 |s::c,m,v::i,b,h,u,a=>by
  obtain⟨t,l,q⟩:=h;simp only[ek,aW]at a;rcases a with a|a
  .cases s with
   |blk ks=>simp only[Sh.C0,kH]at a;subst a;obtain⟨d,arr,T,k,j,_⟩:=l;exact⟨d,b,az _,k,j⟩
   |qa f e=>obtain⟨o,rfl,r⟩:=l;exact uB e _ o b r u a
   |_=>simp[Sh.C0]at a
  .obtain⟨d,n,k,j,p⟩:=s5 c _ i _ q u a;exact⟨d,n,by omega,j,p⟩
def zj:∀(b:List (List K)) (ls:List L) (c:List Value) (o:Nat),∀e∈bi b ls c o,e.u∈c
 |[],_,_,_,e,a=>by simp[bi]at a
 |_::_,[],_,_,e,a=>by simp[bi]at a
 |ks::b,l::ls,[],o,e,a=>by grind[bi]
 |ks::b,l::ls,u::c,o,e,a=>by
  cases l with
  |ptr id g d=>
   simp only[bi,ck]at a;rcases a with rfl|a
   .simp
   .exact eJ _ (zj b ls c _ e a)
  |_=>simp[bi]at a
def vT{b W:Nat}:∀(c:List (List K)) (ls:List L) (d:List Value) (o:Nat),apart b W ls=true->∀e∈bi c ls d o,¬bh b W e.id
 |[],_,_,_,_,e,a=>by simp[bi]at a
 |_::_,[],_,_,_,e,a=>by simp[bi]at a
 |ks::c,l::ls,[],o,_,e,a=>by grind[bi]
 |ks::c,l::ls,u::d,o,h,e,a=>by
  cases l with
  |ptr id g f=>
   simp only[apart,aQ,gd]at h;simp only[bi,ck]at a;rcases a with rfl|a
   .rcases h.1 with h|h
    .have:=bn h;grind[bh]
    simp_all[bh]
   .exact vT c ls d _ h.2 e a
  |_=>simp[bi]at a
def xK (h:Rel H ω a w s) {args:List Sh} {u:List bK} {Y:List Value} {P:List (KV real)} {O:S} {eD:aq} {m:List (Nat×Nat)} (hall:aH (cQ H w ω s) Y u) (ht:bz args u s=some (P,O))
  (N:Passes H ω a w s eD O) (hG:bT w ω s eD O m 1 (1+au args)) (hR:fI w (eD.c8 m) 1 args P Y)
  {c:List Sh} {E C0:List (KV real)} {base B:Nat} (hbase:0<base) (hB:0<B) (Gt:c.all Sh.qg=true) (hks:E.map (·.1)=(c.map Sh.ks).flatten) (IW:base+au c<=cO) (hap:apart base (au c) (bV args u)=true)
  {x:World} {cu:aq} {v:Value} (g:cH (eD.c8 m) w cu x) (hinj:∀b b' k,cu b=some k->cu b'=some k->b=b') (I:∀b k,cu b=some k->b<x.heap.size) (hr:zU x cu B c E v)
  {D:S} (E4:iQ (eC args) (bV args u) C0 O=some D) (FA:fI x cu (B+au c) ((eC args).map .blk) C0 (ek args Y)):
  ∃fV,Rel H fV a x (aV base c E D).2/\cH ω w fV x/\cQ H x fV (aV base c E D).2 v (TV.nk (aV base c E D).1):=by
 obtain⟨J,hl2⟩:=iw args u Y s (P,O) (B+au c) (df.refl s) hall ht;have hW:=iy ht;obtain⟨U,V⟩:=qJ (eC args) (bV args u) (ek args Y) (B+au c);obtain⟨k1,k2,k3,k4⟩:=vY _ _ _ _ _ _ _ FA E4 hl2;have K:=vT (b:=base) (W:=au c) (eC args) (bV args u) (ek args Y) (B+au c) hap;have o:∀e∈bi (eC args) (bV args u) (ek args Y) (B+au c),∃j,(e.id,j)∈m:=by
  intro e d;obtain⟨b,f1,f2⟩:=(J e d).at_;obtain⟨b',n,g1,M,g3⟩:=s5 args P Y 1 hR e.u (zj _ _ _ _ e d);rw[f2]at M;injection M with M
  injection M with M
  injection M with M _
  subst M;rcases ia g3 with ⟨i,e1,e2⟩|⟨e1,_⟩
  .have:=hG.back b _ e1
   grind
  grind
 revert J hl2 U V k2 k3 k4 K o;generalize bi (eC args) (bV args u) (ek args Y) (B+au c)=es;intro J hl2 U V k2 k3 k4 K o;have Z:∀e∈es,e.id<cO/\e.ks.length<=64:=λe d=>(k4 e d).small;have hkeep:∀b i p,eD b=some (i,p)->(∀j,(i,j)∉m) -> ¬bh base (au c) i->(∀e∈es,¬bh (aR e.id) e.ks.length i)->x.heap[b]? = w.heap[b]? /\ eD.cV cu m es base B (au c) b=some (i,p):=by
  intro b i p z hm hn hc;have hcb:=sE hm z;obtain⟨q1,q2⟩:=g.block b (N.rel.dom b _ z) (.inr ⟨_,hcb⟩)
  grind[vH]
 have HE:∀j,(0,j)∉m:=λj hj=>hG.nz 0 j hj rfl;have GZ:cH eD w (eD.cV cu m es base B (au c)) x:=by
  refine⟨g.os,g.tape,g.output,g.size,λb z hf=>?_⟩;rcases hf with hf|⟨q,hf⟩
  .have hn:=jZ (m:=m) hf;obtain⟨q1,q2⟩:=g.block b z (.inl hn)
   grind[kP]
  grind[bh,uj]
 have hE:cH ω w (eD.cV cu m es base B (au c)) x:=N.ext.trans GZ;have hown:∀i,bh B (au c) i->∀b p,b<x.heap.size->cu b=some (i,p)->eD.cV cu m es base B (au c) b=some (base+(i-B),p):=λi hi b p _ z=>xI hB hi z;obtain⟨II,ET,hv⟩:=tO (fV:=eD.cV cu m es base B (au c)) Gt hks hown (.inr λb _ z=>kP z) hr;obtain⟨y1,y2,y3,y4⟩:=lQ c E II base D ET;obtain⟨m1,m2⟩:=y4 _ (λ_ _=>rfl);have r:∀e∈es,∀i,bh (aR e.id) e.ks.length i->(aV base c E D).2.ob i=D.ob i:=by
  grind[dU,bh]
 have hblk:∀e∈es,∃b arr T cells,eD.cV cu m es base B (au c) b=some (e.id,[])/\x.heap[b]? = some (.cells arr T (0,0))/\ω b=some (e.id,[])/\(aV base c E D).2.ob e.id=⟨(O.ob e.id).g,(O.ob e.id).h+1,(O.ob e.id).n,.blk cells⟩/\aH (bU x (eD.cV cu m es base B (au c)) (aV base c E D).2) arr.toList cells:=by
  intro e d;obtain⟨z1,z2,b,arr,T,vals,cells,n1,n2,n3,n4,n5,n6,n7⟩:=k4 e d;obtain⟨b0,f1,f2⟩:=(J e d).at_;rw[f2]at n1;injection n1 with n1
  injection n1 with n1
  injection n1 with n1 _
  subst n1;refine⟨b0,arr,T,cells,xH V d hB (U e d) n2,n3,f1,by rw[y1 e.id (K e d),n6],n7 _ _ ?_ (r e d)⟩;have:=ju (w:=x) (cu:=cu) (fV:=eD.cV cu m es base B (au c)) (base:=aR e.id) (B:=e.out+1) (W:=e.ks.length) (λi hi b p _ z=>?_) vals arr.toList (e.out+1) (az _) (by omega) (.inr λb _ z=>kP z) n5
  .grind
  .unfold bh at hi;have:=vG (eD:=eD) (cu:=cu) (m:=m) (base:=base) (W:=au c) (t:=i-(e.out+1)) V d hB (U e d) (by omega) (b:=b) (p:=p) (by rw[z];congr 2;omega);rw[this]
 have Gv:∀i,¬bh base (au c) i->(∀e∈es,e.id≠i)->(∀e∈es,¬bh (aR e.id) e.ks.length i)->(aV base c E D).2.ob i=O.ob i:=by
  grind
 have hgrow:∀i,(O.ob i).g<=(D.ob i).g:=by
  intro i;by_cases hlt:i<cO
  .grind
  .by_cases C:∃e∈es,bh (aR e.id) e.ks.length i
   .obtain⟨e,d,hi⟩:=C;exact ed ((k4 e d).cells i hi).1
   grind
 have tr:∀i,Tr w ω s x (eD.cV cu m es base B (au c)) (aV base c E D).2 i:=by
  intro i;by_cases e:bh base (au c) i
  .exact(N.tr i).trans (dj.tr (Nat.lt_of_le_of_lt (hgrow i) (y2 i e)))
  .by_cases C:∃e∈es,e.id=i
   .obtain⟨f,d,rfl⟩:=C;obtain⟨b,arr,T,cells,q1,q2,q3,q4,q5⟩:=hblk f d;obtain⟨c0,R⟩:=(J f d).was;refine Tr.Ew (cells:=cells) R (by rw[q4];exact hW.g f.id) (by rw[q4];exact Nat.le_succ_of_le (hW.h f.id)) (by rw[q4]) λb' hb'=>?_;rw[h.inj b' b _ hb' q3];exact q1
   .by_cases A:∃e∈es,bh (aR e.id) e.ks.length i
    .obtain⟨f,d,hi⟩:=A;refine(N.tr i).trans (dj.tr ?_);unfold dj;rw[r f d i hi];exact((k4 f d).cells i hi).1
    .have X:=Gv i e (λf d Q=>C ⟨f,d,Q⟩) (λf d Q=>A ⟨f,d,Q⟩);by_cases hm:∃j,(i,j)∈m
     .obtain⟨j,hj⟩:=hm;exact(N.tr i).trans (Tr.Dq X (hG.is i j hj))
     .refine(N.tr i).trans (gx.tr ⟨X,λb kk z hk hj=>?_⟩ GZ N.rel.dom);obtain⟨i',p⟩:=kk
      grind
 refine⟨_,?_,hE,hv _ _ m1⟩;exact
 {inj:=λb b' k h1 h2=>by
   rcases kQ h1 with ⟨y,F,G,a4,a5⟩|⟨j,y,F,G⟩|⟨e,y,F,G⟩|⟨e,y,t,F,G,a4⟩ <;> rcases kQ h2 with ⟨L,c2,c3,c4,c5⟩|⟨j',L,c2,c3⟩|⟨f,L,c2,c3⟩|⟨f,L,t',c2,c3,c4⟩
   .exact N.rel.inj b b' k F c2
   .exact absurd (by rw[c2];unfold bh at L⊢;omega) G
   .obtain⟨j,hj⟩:=o f L
    grind
   .exact absurd (by rw[c3];unfold bh;omega) (a4 f L)
   .exact absurd (by rw[F];unfold bh at y⊢;omega) c3
   .have:j=j':=by unfold bh at y L;omega
    grind
   .exact absurd (by rw[<-c2,F];unfold bh at y⊢;omega) (K f L)
   .grind[dU,bh]
   .obtain⟨j,hj⟩:=o e y
    grind
   .exact absurd (by rw[<-F,c2];unfold bh at L⊢;omega) (K e y)
   .grind[dK]
   .grind[dU]
   .exact absurd (by rw[G];unfold bh;omega) (c4 e y)
   .grind[dU,bh]
   .grind[dU]
   .have hlt:=(Z e y).2;have Gh:=(Z f L).2;obtain⟨q1,q2⟩:=s8 (i:=e.id) (j:=f.id) (m:=t) (n:=t') (by omega) (by omega) (G.symm.trans c3)
    grind[dK]
  dom:=λb k h1=>by
   rcases kQ h1 with ⟨y,F,_⟩|⟨j,y,F,G⟩|⟨e,y,F,G⟩|⟨e,y,t,F,G,a4⟩
   .grind
   .exact I b _ G
   .exact I b _ G
   .exact I b _ a4
  defers:=h.defers
  dH:=h.dH.ext hE
  dJ:=by rw[Gv 0 (by unfold bh;omega) (λe d h0=>by grind) (λe _=>uj e)];exact N.rel.dJ
  slots:=λi=>by
   have Ii:(aV base c E D).2.sl=s.sl:=by rw[y3,k1];exact r7 ht
   rw[Ii];exact cQ.frame hE tr (h.slots i)
  c7:=λi cells l=>by
   by_cases e:bh base (au c) i
   .exact m2 i cells e l
   .by_cases C:∃e∈es,e.id=i
    .grind
    .by_cases A:∃e∈es,bh (aR e.id) e.ks.length i
     .obtain⟨f,d,hi⟩:=A;rw[r f d i hi]at l;exact absurd l (((k4 f d).cells i hi).2 cells)
     .have X:=Gv i e (λf d Q=>C ⟨f,d,Q⟩) (λf d Q=>A ⟨f,d,Q⟩);rw[X]at l;have hs:=hW.blk l;have R:=l;rw[hs]at R;obtain⟨b,arr,T,g1,M,g3⟩:=h.c7 i cells R;have hm:∀j,(i,j)∉m:=λj hj=>by rw[hG.is i j hj]at l;cases l
      obtain⟨b1,eB,T1,f1,f2,f3⟩:=N.rel.c7 i cells l;have:=hkeep b1 i [] f1 hm e (λf d Q=>A ⟨f,d,Q⟩);have Ga:b1=b:=h.inj b1 b _ (hG.back b1 _ f1) g1;subst Ga;refine⟨b1,arr,T,this.2,this.1.trans M,g3.mono λ_ _ hl=>bU.frame hE tr hl⟩ }
noncomputable def dy(id a:Nat)(q:List (Nat×Nat)):Key->Option Key:=λk=>if k.1=id then(if q <+: k.2 then some (a,k.2.drop q.length)else some k)else if k.1=a then none else some k
noncomputable def eH(id a:Nat)(q:List (Nat×Nat)):Key->Option Key:=λk=>if k.1=a then some (id,q++k.2)else if k.1=id/\q <+: k.2 then none else some k
def yL{id a:Nat}{q:List (Nat×Nat)}(b:id≠a)(k k' z:Key)(h:dy id a q k=some z)(f:dy id a q k'=some z):k=k':=by
 have d:∀k,dy id a q k=some z->(k.1=id/\∃r,k.2=q++r/\z=(a,r))\/(k.1≠a/\z=k):=by
  intro k h;unfold dy at h;split at h
  .rename_i e;split at h
   .rename_i c;obtain⟨r,g⟩:=c
    grind
   grind
  grind
 grind
def yy{id a:Nat}{q:List (Nat×Nat)}(k k' z:Key)(h:eH id a q k=some z)(b:eH id a q k'=some z):k=k':=by
 grind[eH,List.append_cancel_left]
def rW(h:Rel H ω a w s){id nb g hh e:Nat}{o:ar}{x:List o.T}{p:iU}{c:Cont real}(L:p≠[])(I:s.cont id g hh p=some c)(K:(s.ob id).o=.arr e o true x)(n:id≠nb)(m:nb≠0):
  Rel H (ω.via (dy id nb (aC p))) a w ((s.bq id true .gone).new nb (.arr c.e c.cs true c.x))/\cH ω w (ω.via (dy id nb (aC p))) w/\(∀j,j≠id->Tr w ω s w (ω.via (dy id nb (aC p))) ((s.bq id true .gone).new nb (.arr c.e c.cs true c.x)) j) /\
   (∀j,Tr w ω s w (ω.via (dy id nb (aC p))) ((s.bq id true .gone).new nb (.arr c.e c.cs true c.x)) j) /\
   ∀u,(Ty.sl c.e c.cs).R w ω (.deep (id,aC p)) u c.x->bU w (ω.via (dy id nb (aC p))) ((s.bq id true .gone).new nb (.arr c.e c.cs true c.x)) u (.ref nb (((s.bq id true .gone).new nb (.arr c.e c.cs true c.x)).ob nb).g 0 []):=by
 have z:id≠0:=h.pR (by grind);have k:cH ω w (ω.via (dy id nb (aC p))) w:=⟨rfl,rfl,⟨rfl,az _⟩,az _,λb r B=>⟨rfl,oZ (λq=>by grind[dy]) B⟩⟩
 have f:∀j,j≠id->j≠nb->((s.bq id true .gone).new nb (.arr c.e c.cs true c.x)).ob j=s.ob j:=λj F G=>by
  grind[St.new,St.aU,St.aO]
 have t:((s.bq id true .gone).new nb (.arr c.e c.cs true c.x)).ob id=⟨(s.ob id).g,(s.ob id).h+1,(s.ob id).n,.gone⟩:=by
  grind[St.new,St.aU,St.ay]
 have i:((s.bq id true .gone).new nb (.arr c.e c.cs true c.x)).ob nb=⟨(s.ob nb).g+1,0,0,.arr c.e c.cs true c.x⟩:=by
  grind[St.new,St.aB,St.aO]
 have l:∀j,j≠id->j≠nb->∀b q,ω b=some (j,q)->ω.via (dy id nb (aC p)) b=some (j,q):=by
  grind[cr,dy]
 have tr:∀j,Tr w ω s w (ω.via (dy id nb (aC p))) ((s.bq id true .gone).new nb (.arr c.e c.cs true c.x)) j:=by
  intro j;by_cases v:j=id
  .grind[Tr.nJ]
  .by_cases y:j=nb
   .grind[dj.tr,dj]
   .refine gx.tr ⟨f j v y,λb M r C J=>⟨rfl,?_⟩⟩ k h.dom
    grind
 refine⟨h.BS k (qy h.inj (yL n)) (qx h.dom) rfl ?_ tr (λj cells A=>?_),k,λj _=>tr j,tr,λu D=>⟨az _,by simp,λE d=>?_⟩⟩
 .rw[f 0 (dG z) (dG m)];exact h.dJ
 .grind
 .rw[bW (by rw[i]) rfl]at d;injection d with d
  subst d;refine Ty.fF (.sl c.e c.cs) (id,aC p) (nb,[]) u c.x (λb N r C=>⟨rfl,?_⟩) D
  grind[cr,dy]
def Ci (h:Rel H ω a w s) {id nb g hh e base W:Nat} {G:ar} {x:List G.T} {p:iU} {c:Cont real} {u:Value} (hp:p≠[]) (hc:s.cont id g hh p=some c) (ho:(s.ob id).o=.arr e G true x) (hne:id≠nb) (hnb:nb≠0) (hW:¬bh base W nb) (hu:bU w ω s u (.ref id g hh p))
  {d:aq} {l:World} {D f:S} {L:Nat->Prop} {v:Value} {t:bK} (V:Rel H d a l D) (A:xE H (ω.via (dy id nb (aC p))) w ((s.bq id true .gone).new nb (.arr c.e c.cs true c.x)) d l D base W L v t)
  (k:jG (A:=real) ⟨nb,(((s.bq id true .gone).new nb (.arr c.e c.cs true c.x)).ob nb).g,id,g,e,G,x,c,p⟩ D=some f):∃R,Rel H R a l f/\cH ω w R l/\cQ H l R f v t:=by
 have h0:id≠0:=h.pR (by grind);obtain⟨EL,HQ,_,Ej,hnew⟩:=rW h hp hc ho hne hnb;obtain⟨HS,hcs⟩:=dz hc;have O:c.md=2/\follow (A:=real) 2 e G x p=some c:=by
  grind[fg]
 obtain⟨O,hf⟩:=O;have FJ:(Ty.sl c.e c.cs).R w ω (.deep (id,aC p)) u c.x:=by have:=hu.2.2 c hc;rw[O]at this;exact this
 unfold jG at k;simp only at k;split at k;case h_2=>cases k
 rename_i I GV dp y C1;cases F:((Nat.beq (D.ob id).g g&&Nat.beq (D.ob nb).g (((s.bq id true .gone).new nb (.arr c.e c.cs true c.x)).ob nb).g)&&(Nat.ble 1 g&&(dp||GV.plain)))with
 |false=>rw[F]at k;cases k
 |true=>
  rw[F]at k;simp only[aJ]at k;rw[aQ,aQ,aQ]at F;obtain⟨⟨X,M⟩,Y,G5⟩:=F;have X:=bc X;have M:=bc M;have Y:1<=g:=bn Y;split at k;case isFalse=>cases k
  rename_i hty;have Gy:=Ty.eq_of_beq hty;injection Gy with t1 t2
  subst t1;subst t2;cases z:putAt (A:=real) c (real.cast hty y) e G x p with
  |none=>rw[z]at k;cases k
  |some x'=>
   rw[z]at k;have k:=aG k;have z:putAt (A:=real) c y e G x p=some x':=z;have yX:∀j,j≠id->j≠nb->((s.bq id true .gone).new nb (.arr c.e c.cs true c.x)).ob j=s.ob j:=λj h1 h2=>by
    grind[St.new,St.aU,St.aO]
   have hobi:((s.bq id true .gone).new nb (.arr c.e c.cs true c.x)).ob id=⟨(s.ob id).g,(s.ob id).h+1,(s.ob id).n,.gone⟩:=by
    grind[St.new,St.aU,St.ay]
   have Ib:((s.bq id true .gone).new nb (.arr c.e c.cs true c.x)).ob nb=⟨(s.ob nb).g+1,0,0,.arr c.e c.cs true c.x⟩:=by
    grind[St.new,St.aB,St.aO]
   have He:¬bh base W id:=λhi=>by
    have:=A.Fi id hi
    grind
   have HT:¬L id:=λN=>(A.gz id N).1 (by rw[hobi]);obtain⟨Iz,IA⟩:=A.kept id He HT;have U:f.ob id=⟨(s.ob id).g,(s.ob id).h+2,(s.ob id).n,.arr e G true x'⟩:=by
    grind[St.ay,St.aO]
   have h4n:f.ob nb=⟨(D.ob nb).g,(D.ob nb).h+1,(D.ob nb).n,.gone⟩:=by
    grind[St.aO,St.ay]
   have K:∀j,j≠id->j≠nb->f.ob j=D.ob j:=λj h1 h2=>by
    grind[St.aO]
   have hkp:aC p≠[]:=λe=>by
    cases p with
    |nil=>exact hp rfl
    |cons st p=>cases e
   have Gm:¬aC p <+: []:=λ⟨t,ht⟩=>hkp (List.append_eq_nil_iff.1 ht).1;have o:∀b r,ω b=some (id,r) -> ¬aC p <+: r->l.heap[b]? = w.heap[b]? /\ d.via (eH id nb (aC p)) b=some (id,r):=by
    grind[dy,cr,eH]
   have m:∀j,j≠id->j≠nb->∀b q,d b=some (j,q)->d.via (eH id nb (aC p)) b=some (j,q):=by
    grind[cr,eH]
   have B:cH d l (d.via (eH id nb (aC p))) l:=⟨rfl,rfl,⟨rfl,az _⟩,az _,λb F hf=>⟨rfl,oZ (λq=>by grind[eH]) hf⟩⟩
   have hE:cH ω w (d.via (eH id nb (aC p))) l:=(HQ.trans A.ext).trans B;have C:∀J,(Ty.sl c.e c.cs).R w ω (.deep (id,aC p)) J c.x->(Ty.sl c.e c.cs).R l d (.deep (nb,[])) J y:=by intro J P;have q1:=(A.tr nb).ref J _ 0 [] (hnew J P);have q2:=q1.2.2 _ (bW (h:=0) C1 M.symm);have q3:=eU (Fw:=true) (by grind) q2;exact q3
   have Q:y.length=List.length c.x:=by
    obtain⟨FY,n',F3,f1,f2,_⟩:=C u FJ;obtain⟨ad,n,cp,E,I,_⟩:=FJ
    grind
   have GS:∀j,j≠id->Tr l d D l (d.via (eH id nb (aC p))) f j:=by
    intro j hj;by_cases I:j=nb
    .grind[Tr.nJ]
    .refine gx.tr ⟨K j hj I,λb kk F hk hj'=>⟨rfl,?_⟩⟩ B V.dom
     grind
   have tr:∀j,Tr w ω s l (d.via (eH id nb (aC p))) f j:=by
    intro j;by_cases E:j=id
    .subst E;refine Tr.Bz ho (by rw[U]) (by grind) (by rw[U]) (tN Q p e G x x' hf z) (λb F=>(o b [] F Gm).2) (λv hv=>?_);refine qm p [] e G x x' v hf z (λb rr _ hk hn=>o b rr hk hn) (λJ P=>?_) hv;refine Ty.fF (.sl c.e c.cs) (nb,[]) (j,aC p) J y (λb rr F hk=>⟨rfl,?_⟩) (C J P)
     grind[cr,eH]
    .exact((Ej j).trans (A.tr j)).trans (GS j E)
   have Gu:∀i,bh base W i->(⟨f.sl,λi=>if i=id then⟨0,0,0,.gone⟩else f.ob i⟩:S).ob i=D.ob i:=by
    grind
   obtain⟨GP,GQ⟩:=A.res _ Gu;have Hw:∀j,Tr l d (⟨f.sl,λi=>if i=id then⟨0,0,0,.gone⟩else f.ob i⟩:S) l (d.via (eH id nb (aC p))) f j:=by
    intro j;by_cases E:j=id
    .grind[dj.tr,dj]
    .have hobj:f.ob j=(⟨f.sl,λi=>if i=id then⟨0,0,0,.gone⟩else f.ob i⟩:S).ob j:=by simp only[dS E]
     by_cases I:j=nb
     .grind[Tr.nJ]
     .refine gx.tr ⟨hobj,λb kk F hk hj'=>⟨rfl,?_⟩⟩ B V.dom
      grind
   refine⟨d.via (eH id nb (aC p)),?_,hE,cQ.frame B Hw GP⟩;exact
   {dH:=h.dH.ext hE
    inj:=qy V.inj yy
    dom:=qx V.dom
    defers:=h.defers
    slots:=λi=>by
     have:f.sl=s.sl:=by rw[<-k];exact A.sl
     rw[this];exact cQ.frame hE tr (h.slots i)
    dJ:=by rw[K 0 (dG h0) (dG hnb)];exact V.dJ
    c7:=λj cells Z=>by
     have E:j≠id:=λe=>by grind
     have I:j≠nb:=λe=>by grind
     by_cases hi:bh base W j
     .obtain⟨b,arr,T,q1,q2,q3⟩:=GQ j cells hi (by grind);exact⟨b,arr,T,m j E I b [] q1,q2,q3.mono λ_ _ N=>bU.frame B Hw N⟩
     .have hnl:¬L j:=λN=>(A.gz j N).2 hi cells (by grind);obtain⟨k1,k2⟩:=A.kept j hi hnl;rw[K j E I,k1,yX j E I]at Z;obtain⟨b,arr,T,q1,q2,q3⟩:=h.c7 j cells Z;have h1:ω.via (dy id nb (aC p)) b=some (j,[]):=by
       grind[cr,dy]
      obtain⟨m1,m2⟩:=k2 b [] h1;exact⟨b,arr,T,m j E I b [] m2,m1.trans q2,q3.mono λ_ _ N=>bU.frame hE tr N⟩ }
end
end Go.R
namespace Go.R
variable {H:Nat->Value}
section
variable {R:Type}{P:Program}{E:Env}{Ψ:bA->Option hJ}{ω:aq}{a:Act}{w:World}{s:S}{k:S->Option R}{r:R}{o:Oper}{Q:Exit->Act->World->Prop}
def ze(h:Rel H ω a w s)(E:Env):∀(args:List Operand) (b:List Nat),args.length=b.length->aH (cQ H w ω s) (args.map a.eval) ((args.zip b).map λp=>ev E s p.2 p.1)
 |[],[],_=>trivial
 |x::args,t::b,c=>⟨bE h E t x,ze h E args b (by simpa using c)⟩
 |[],_::_,c=>by cases c
 |_::_,[],c=>by cases c
def zl:∀(b:List Value) (a:List (cU real)),aH (λv c=>gK w ω s v c) b a->aH (cQ H w ω s) b (a.map cU.tv)
 |[],[],_=>trivial
 |v::b,c::a,h=>⟨by cases c <;> exact h.1,zl b a h.2⟩
 |[],_::_,h=>h.elim
 |_::_,[],h=>h.elim
def aH.set{α f:Type}{r:α->f->Prop}:∀ {d:List α} {g:List f} (h:aH r d g) (i:Nat) {a:α} {b:f},d[i]? = some a->r a b->aH r d (g.set i b)
 |[],[],_,_,_,_,c,_=>by simp at c
 |j::_,_::_,h,0,a,b,c,e=>by simp at c;subst c;exact⟨e,h.2⟩
 |_::_,_::_,h,i+1,_,_,c,e=>⟨h.1,aH.set h.2 i (by simpa using c) e⟩
 |[],_::_,h,_,_,_,_,_=>h.elim
 |_::_,[],h,_,_,_,_,_=>h.elim
def sU:∀ {a:List Sh},(a.all λb=>b.eG||b.flat)=true->eC a=[]
 |[],_=>rfl
 |b::a,h=>by rw[gL,aQ]at h;rw[lK,sU h.2];cases b <;> first|rfl|cases h.1
def pe:∀(a:List Sh),dZ a=au a
 |[]=>rfl
 |b::a=>by simp only[dZ,au,cR,List.sum_cons];rw[pe a];rfl
def D7{α:Type}{b:Bool}{x y:α}(h:b=true):(bif b then x else y)=x:=by rw[h];rfl
def D6{α:Type}{b:Bool}{x y:α}(h:b=false):(bif b then x else y)=y:=by rw[h];rfl
def zv{F:hJ}(y:fE real ((F.bf.map Sh.ks).flatten++(dY F.look F.args++(eC F.args).flatten))):((bJ (A:=real) ((F.bf.map Sh.ks).flatten++(dY F.look F.args++(eC F.args).flatten)) y).take (F.bf.map Sh.ks).flatten.length).map (λv:KV real=>v.1)=(F.bf.map Sh.ks).flatten:=by rw[List.map_take,lm,p6];rfl
def we {F:hJ} {GW d:Nat} (hc:ec P GW F) (hL:F.look=true) (b2:F.bf.all Sh.flat=true) (b1:(F.args.all λu=>u.eG||u.flat)=true) (b3:(F.bf.all λu=>u.ks.all K.closed)=true) (b4:(F.args.all λu=>u.outs.all K.closed)=true)
  (h:Rel H ω a w s) {j:List Value} {c:List bK} (q:aH (cQ H w ω s) j c) {k:bK->S->Option R} (G:jU (av R) (F.callee R) d c s k=some r):
  Calls P GW j.toArray w λe w'=>∃v f s3 t L,e=.returned v/\Rel H f a w' s3/\xE H ω w s f w' s3 (aD d 0 0) (au F.bf) L v t/\k t s3=some r:=by
 obtain⟨_,n⟩:=hc;unfold jU at G;obtain⟨p,l1,X⟩:=ah G;obtain⟨vs,M,Y⟩:=ah X;obtain⟨x,l3,g⟩:=ah Y;have l1:jV (dl F.args) (aY F.args c) s=some p:=l1;have M:dI F.args c s p=some vs:=M;have g:((F.fn x).bind λy=>af (av R) (jn F.args c ((bJ _ y).drop (F.bf.map Sh.ks).flatten.length) p) λJ=>k (TV.nk (aV (aD d 0 0) F.bf ((bJ _ y).take (F.bf.map Sh.ks).flatten.length) J).1) (aV (aD d 0 0) F.bf ((bJ _ y).take (F.bf.map Sh.ks).flatten.length) J).2)=some r:=g;cases hy:F.fn x with
 |none=>rw[hy]at g;cases g
 |some y=>
  rw[hy]at g;obtain⟨J,l4,Z⟩:=ah (show af (av R) (jn F.args c ((bJ _ y).drop (F.bf.map Sh.ks).flatten.length) p) _=some r from g);have l4:jf (dl F.args) (aY F.args c) ((bJ _ y).drop (F.bf.map Sh.ks).flatten.length) p=some J:=l4;have hB0:=sU b1;have V:((bJ _ y).drop (F.bf.map Sh.ks).flatten.length).map (λv:KV real=>v.1)=(F.args.map Sh.outs).flatten:=by
   grind[List.map_drop,lm,dY]
  have W:((bJ _ y).drop (F.bf.map Sh.ks).flatten.length).length<=(dY F.look F.args).length:=by
   grind[dY]
  obtain⟨c1,Q⟩:=mz q M;have c3:(aY F.args c).length=(b8 F.args j).length:=Q.length.symm;obtain⟨m1,m2,I,N,m5⟩:=mM (dl F.args) (aY F.args c) (b8 F.args j) 1 (1+au F.args+au F.bf) s p c3 l1;obtain⟨n1,n2⟩:=nF (dl F.args) (aY F.args c) (b8 F.args j) 1 (1+au F.args+au F.bf);have C:ql (bB (dl F.args) (aY F.args c) (b8 F.args j) 1 (1+au F.args+au F.bf)):=⟨N,n2⟩
  have U:=uF (dl F.args) (aY F.args c) (b8 F.args j) 1 (1+au F.args+au F.bf) Q;have T:=uG (dl F.args) (aY F.args c) (b8 F.args j) 1 (1+au F.args+au F.bf);have z:=nM h C (dl F.args) (aY F.args c) (b8 F.args j) 1 (1+au F.args+au F.bf) Q (λt m=>m);have A:=λw' cu=>xY (w':=w') (cu:=cu) (dl F.args) (aY F.args c) (b8 F.args j) ((bJ _ y).drop (F.bf.map Sh.ks).flatten.length) 1 (1+au F.args+au F.bf) p J c3 c1 l4
   (by rw[<-tJ];exact V)
  revert m1 m2 I N n1 C U T z A;generalize bB (dl F.args) (aY F.args c) (b8 F.args j) 1 (1+au F.args+au F.bf)=es;intro m1 m2 I N n1 C U T z A;have hS:pV s p:=by
   intro i hg;by_cases D:∃t∈es,ef t.l=some i
   .obtain⟨t,m,E⟩:=D;rw[(I t m i E).2]at hg;exact absurd rfl hg
   .exact m2 i λt m E=>D ⟨t,m,E⟩
  have hH:Hid ω p (aq.gz w ω es):=Ca λt m i E=>by rw[(I t m i E).2]
  have g3:=rC h hS hH F.args c j vs 1 b1 q z M;have Gq:vs=bJ ((F.args.map Sh.ks).flatten) x:=(gJ _ _ _ l3).symm;rw[Gq]at g3;have hC:=n w (aq.gz w ω es) j x y (h.dH.own λb hb=>by unfold aq.gz;rw[hb]) (Cb C h.inj) (B9 h.dom) g3 hy;refine Calls.mono hC λe w' he=>?_;obtain⟨v,cu,rfl,t1,t2,t3,t4,O⟩:=he;have O:=O.1 hL;rw[List.take_of_length_le W]at O;obtain⟨k1,k2,k3⟩:=A w' cu O N;have o:∀t∈es,(t.cs.plain||t.d)=true:=by intro t m;obtain⟨l,q1,q2⟩:=List.mem_flatten.1 (T t m);obtain⟨u,q3,rfl⟩:=fa.1 q1;have:=cg.1 (cg.1 b4 u q3) (.arr t.e t.cs t.d) (List.mem_filter.2 ⟨q2,rfl⟩);exact this
  obtain⟨f,z1,z2⟩:=xJ h C m1 U o m2 I m5 k1 k2 k3 (base:=aD d 0 0) (B:=1+au F.args) (vN (da _ _ _)) (by omega) b2 (zv y) b3 (λt m=>(n1 t m).2.2) t1 t2 t3 t4;exact⟨v,f,_,_,_,rfl,z1,z2,Z⟩
def uc(GB:∀f F,Ψ f=some F->ec P f.1 F):eA P E Ψ:=by
 intro H R o f args J ω a w s k r Q ho h hd j;have hf:=bE h E 0 f;unfold aL at j;simp only[ho]at j;cases hsz:Nat.beq args.size J.size with
 |false=>rw[hsz]at j;cases j
 |true=>
  rw[hsz]at j;simp only[aJ]at j;have Bb:args.toList.length=J.toList.length:=by grind[Nat.eq_of_beq_eq_true]
  cases O:ev E s 0 f with
  |agg _=>rw[O]at j;cases j
  |ol _=>rw[O]at j;cases j
  |pQ _ _=>rw[O]at j;cases j
  |one l=>
   rw[O]at j hf;cases l with
   |fn z cc=>
    simp only at j;obtain⟨Hz,h1,d⟩:=ah j;have hF:∃q F,Ψ (z,q)=some F/\Hz=F.callee R:=by
     unfold tab at h1;cases hq:Ψ (z,wB ((args.toList.zip J.toList).map λp=>ev E s p.2 p.1))with
     |none=>rw[hq]at h1;cases h1
     |some F=>grind
    obtain⟨q,F,HG,rfl⟩:=hF;clear j h1;have C:ec P z F:=GB _ F HG;obtain⟨⟨fn,c,p1,p2,p3⟩,N⟩:ec P z F:=(id C)
    unfold nc at d;cases V:qn (F.callee R)with
    |false=>rw[V]at d;cases d
    |true=>
     rw[V]at d;simp only[aJ]at d;unfold qn at V;rw[aQ]at V;have n:=V.2;have hlk:(F.callee R).look=F.look:=rfl;obtain⟨cv,e1,e2⟩:=hf;have g:=(ze h E args.toList J.toList Bb).iP (zl cv cc e2);revert d;generalize (List.map (λp=>ev E s p.snd p.fst) (args.toList.zip J.toList)++List.map cU.tv cc)=CM at g;intro d;have G:(execOp a.eval o).run P w=.ok (.enter z (args.toList.map a.eval++cv).toArray) w:=by
      unfold execOp;simp only[ho,resolve,e1,Deferred.ofValue];have hargs:#[]++args.map a.eval++cv.toArray=(args.toList.map a.eval++cv).toArray:=by apply Array.ext';simp
      grind[invoke,MuLone.run_callFunc_enter]
     cases hL:F.look with
     |true=>
      rw[D7 (hlk.trans hL)]at d n;simp only[aQ]at n;obtain⟨b2,b1,b3,b4⟩:=n;have b2:F.bf.all Sh.flat=true:=b2;have b1:(F.args.all λsh=>sh.eG||sh.flat)=true:=b1;have b3:(F.bf.all λsh=>sh.ks.all K.closed)=true:=b3;have b4:(F.args.all λsh=>sh.outs.all K.closed)=true:=b4;have hw:dZ F.bf<=2047:=bn V.1;rw[pe]at hw;cases hsp:dO (aD (o.dst.getD 0) 0 0+2047) (F.callee R).args CM s with
      |none=>rw[hsp]at d;have hC:=we (k:=λv s=>k (s.bI o.dst v)) C hL b2 b1 b3 b4 h g d;unfold Oper.wp;rw[G];simp only[Oper.upon];refine Calls.mono hC λe w' he=>?_;obtain⟨v,X,s3,t,L,rfl,z1,z2,D⟩:=he;exact dV z1 z2.ext hd (z2.res s3 (λ_ _=>rfl)).1 D
      |some q=>
       rw[hsp]at d;obtain⟨args',s',ho⟩:=q;obtain⟨i,id,gg,hh,p,r1,q1,U,q3,q4⟩:=oW hsp;obtain⟨c,e,cs,x,I,GK,GL,IE⟩:=oV q3;subst IE;injection q4 with q4 q5
       injection q5 with q5 q6
       subst q4;subst q5;subst q6;have Z:aD (o.dst.getD 0) 0 0+2047≠0:=by grind
       obtain⟨EL,_,_,Ej,hnew⟩:=rW h U I GK GL Z;obtain⟨u,Ik,T⟩:=g.get i _ q1;have T:bU w ω s u (.ref id gg hh p):=T;have AY:c.md=2:=by
        rcases(dz I).2 with ⟨_,_,f2,_⟩|⟨_,_,_,_,_,_,f4⟩|⟨_,f2,_⟩
        .exact absurd f2 U
        .grind[fg]
        .exact absurd f2 U
       have FJ:(Ty.sl c.e c.cs).R w ω (.deep (id,aC p)) u c.x:=by have:=T.2.2 c I;rw[AY]at this;exact this
       have Y:=aH.set (aH.mono (λ_ _ hq=>cQ.frame (rW h U I GK GL Z).2.1 Ej hq) g) i Ik (show cQ H w _ _ u (.one (.ref _ _ _ []))from hnew u FJ);have hC:=we (k:=λv W=>af (av R) (jG (A:=real) _ W) λs3=>k (s3.bI o.dst v)) C hL b2 b1 b3 b4 EL Y d;unfold Oper.wp;rw[G];simp only[Oper.upon];refine Calls.mono hC λe w' he=>?_;obtain⟨v,X,s3,t,L,rfl,z1,z2,D⟩:=he;obtain⟨s4,hm,HY⟩:=ah D;obtain⟨FQ,y1,y2,y3⟩:=Ci h U I GK GL Z (by unfold bh;omega) T z1 z2 hm;exact dV y1 y2 hd y3 HY
     |false=>
      rw[D6 (hlk.trans hL)]at d n;have b2:F.bf.all Sh.qg=true:=n;have d:(bif Nat.ble (aD (o.dst.getD 0) 0 0+dZ F.bf) cO&&apart (aD (o.dst.getD 0) 0 0) (dZ F.bf) (bV F.args CM)then
        af (av R) (bz F.args CM s) λr=>af (av R) (kL ((F.args.map Sh.ks).flatten) r.1) λx=>(F.fn x).bind λy=>af (av R) (iQ (eC F.args) (bV F.args CM) ((bJ _ y).drop (F.bf.map Sh.ks).flatten.length) r.2) λW=>k ((aV (aD (o.dst.getD 0) 0 0) F.bf ((bJ _ y).take (F.bf.map Sh.ks).flatten.length) W).2.bI o.dst (TV.nk (aV (aD (o.dst.getD 0) 0 0) F.bf ((bJ _ y).take (F.bf.map Sh.ks).flatten.length) W).1))
        else none)=some r:=d
      cases hc:(Nat.ble (aD (o.dst.getD 0) 0 0+dZ F.bf) cO&&apart (aD (o.dst.getD 0) 0 0) (dZ F.bf) (bV F.args CM))with
      |false=>rw[hc]at d;cases d
      |true=>
      rw[hc]at d;simp only[aJ]at d;rw[aQ]at hc;obtain⟨M,EM⟩:=hc;have M:=bn M;rw[pe]at M EM;obtain⟨⟨vs,W⟩,h2,Gg⟩:=ah d;obtain⟨x,h3,S⟩:=ah Gg;obtain⟨eD,m,q1,U,q3,q4⟩:=iH _ _ _ ω s vs W 1 h g h2;have g3:fI w (eD.c8 m) 1 F.args vs (args.toList.map a.eval++cv):=q4 eD W _ (di.refl _ _) (sF U);have Gq:vs=bJ ((F.args.map Sh.ks).flatten) x:=(gJ _ _ _ h3).symm;cases hy:F.fn x with
      |none=>rw[hy]at S;cases S
      |some y=>
       rw[hy]at S;obtain⟨s3,l4,D⟩:=ah (show af (av R) (iQ (eC F.args) (bV F.args CM) ((bJ _ y).drop (F.bf.map Sh.ks).flatten.length) W) _=some r from S);have hC:=N w (eD.c8 m) (args.toList.map a.eval++cv) x y (q1.rel.dH.own λb V=>jZ V) (wh U (by omega) q1.rel.inj) (wg q1.rel.dom) (by rw[<-Gq];exact g3) hy;unfold Oper.wp;rw[G];simp only[Oper.upon];refine Calls.mono hC λe w' he=>?_;obtain⟨v,cu,rfl,t1,t2,t3,t4,_,t5⟩:=he;have Ia:(dY F.look F.args).length=0:=by unfold dY;rw[hL];rfl
       rw[Ia]at t5;obtain⟨X,z1,z2,z3⟩:=xK h g h2 q1 U g3 (base:=aD (o.dst.getD 0) 0 0) (B:=1+au F.args) (vN (da _ _ _)) (by omega) b2 (zv y) M EM t1 t2 t3 t4 l4 t5;exact dV z1 z2 hd z3 D
   |_=>cases j
end
def uD(args:List Sh)(a:List (KV real)):S:=let q:=aV 1 args a St.start;ir (List.range args.length) q.1 q.2
def CC(E:Env)(s:S):ResultVar->Option bK
 |.tmp t=>some (s.sl t)
 |.cell a t=>match E.ti t,s.sl a with
  |some i,.one l=>jg s i.agg i.cs.len l
  |_,_=>none
def nV(E:Env)(s:S):List ResultVar->Option (List bK)
 |[]=>some []
 |v::a=>match CC E s v,nV E s a with
  |some x,some xs=>some (x::xs)
  |_,_=>none
def Sh.kv(a:Bool)(b:Sh):Bool:=(bif a then b.outs.isEmpty else true)&&b.DT.isEmpty
def fB(a:Bool):Nat->List Sh->List Nat
 |_,[]=>[]
 |j,c::b=>bif c.kv a then fB a (j+1) b else j::fB a (j+1) b
def wD(a:Bool)(args:List Sh)(c:Code):Bool:=(fB a 0 args).isEmpty||b9 (fB a 0 args) c
def finish(E:Env)(c:Code)(a:Bool)(args bf:List Sh)(ks:List K)(b:List ResultVar)(s:S):Option (fE real ks):=
 bif wD a args c then
 match nV E s b with
 |some d=>match bz bf d s with
  |some (i,f)=>match takes (dY a args) (bif a then pick (dl args) (aY args ((List.range args.length).map s.sl))else []) f with
   |some (h,g)=>match bz ((eC args).map .blk) ((bV args ((List.range args.length).map s.sl)).map .one) g with
    |some (e,_)=>kL ks (i++(h++e))
    |none=>none
   |none=>none
  |none=>none
 |none=>none
 else none
def Ex.done:Ex->Bool
 |.normal |.ret=>true
 |_=>false
section
variable {R:Type}{P:Program}{E:Env}{Ψ:bA->Option hJ}{Λ:Nat->Option dR}{ω:aq}{a:Act}{w:World}{s:S}{k:S->Option R}{r:R}{o:Oper}{Q:Exit->Act->World->Prop}
def wX(b:Array Value):ResultVar->Sem Value
 |.tmp t=>pure (b.getD t undef)
 |.cell a t=>do loadVar t (<- asAddr (b.getD a undef))
def uS{t:Nat}{p v:Value}(h:(Instr.loadAt t p).run P w=.ok v w)(a:∃A,p=.pointer (some A)):(do loadVar t (<- asAddr p):Sem Value).run P w=.ok v w:=by
 grind[Instr.loadAt,Instr.sureAddr,asAddr]
def An{l:L}{v:Value}{z:bK}{agg:Bool}{n:Nat}(i:bU w ω s v l)(a:jg s agg n l=some z):∃A,v=.pointer (some A):=by
 cases l with
 |ptr id g d=>
  simp only[jg]at a;cases k:dm s id g with
  |none=>rw[k]at a;cases a
  |some cells=>obtain⟨m,o⟩:=cM k;obtain⟨b,_,q⟩:=i.2 m cells o;exact⟨_,q⟩
 |bH id g r p j d=>
  simp only[jg]at a;cases h:s.cont id g r p with
  |none=>rw[h]at a;cases a
  |some c=>
   rw[h]at a;simp only at a;have t:c.md≠0:=by intro e;rw[e]at a;cases a
   obtain⟨_,_,⟨b,_,f⟩,_⟩:=i.2.2 c h t;exact⟨_,f⟩
 |ei u x d=>obtain⟨b,y,_,_,f,_⟩:=i;exact⟨_,f⟩
 |_=>cases a
def CD(p:bD P E)(h:Rel H ω a w s):∀(f:List ResultVar) (g:List bK),nV E s f=some g->∃m:List Value,(f.mapM (wX a.tmps)).run P w=.ok m w/\aH (cQ H w ω s) m g
 |[],g,e=>by have e:=aG e;subst e;exact⟨[],rfl,trivial⟩
 |v::f,g,e=>by
  simp only[nV]at e;cases b:CC E s v with
  |none=>rw[b]at e;cases e
  |some x=>
   cases n:nV E s f with
   |none=>rw[b,n]at e;cases e
   |some xs=>
    rw[b,n]at e;have e:=aG e;subst e;obtain⟨m,r,y⟩:=CD p h f xs n;have q:∃u,(wX a.tmps v).run P w=.ok u w/\cQ H w ω s u x:=by
     cases v with
     |tmp t=>have b:=aG b;subst b;exact⟨_,rfl,h.slots t⟩
     |cell c t=>
      simp only[CC]at b;cases o:E.ti t with
      |none=>rw[o]at b;cases b
      |some i=>
       rw[o]at b;have j:=h.slots c;cases k:s.sl c with
       |one l=>rw[k]at b j;obtain⟨I,d,ok⟩:=p.ti _ _ o;obtain⟨u,B,C⟩:=wL h ok j b;exact⟨u,uS B (An j b),C⟩
       |agg _=>rw[k]at b;cases b
       |ol _=>rw[k]at b;cases b
       |pQ _ _=>rw[k]at b;cases b
    obtain⟨u,z,A⟩:=q;refine⟨u::m,?_,A,y⟩;simp[ow,z,r]
def yG{fn:Func}{b:List Value}(h:(fn.results.toList.mapM (wX a.tmps)).run P w=.ok b w):(results fn a.tmps).run P w=.ok (match b with |[u]=>u|b=>.tuple b.toArray) w:=by
 have e:(fn.results.mapM (wX a.tmps)).run P w=.ok b.toArray w:=by rw[<-Array.toArray_toList (xs:=fn.results),List.mapM_toArray];simp[h]
 have d:results fn a.tmps=(do let c <- fn.results.mapM (wX a.tmps);pure (if h:c.size=1 then c[0]else .tuple c)):=by unfold results;congr 1
 rw[d,Sem.run_bind,e];match b with
 |[]=>rfl
 |[u]=>rfl
 |_::_::_=>rfl
def nR{b:Bool}:∀(a:List Sh) (d i:Nat) (f:Sh),a[i]? = some f->f.kv b=false->d+i∈fB b d a
 |[],_,i,_,h,_=>by simp at h
 |f::a,d,0,e,h,c=>by
  grind[fB]
 |f::a,d,i+1,e,h,c=>by
  have:=nR a (d+1) i e (by simpa using h) c
  grind[fB]
def wR{a:Sh}(h:a.outs≠[]):a.kv true=false:=by
 grind[Sh.kv]
def yA{a:Bool}{b:Sh}(h:b.DT≠[]):b.kv a=false:=by
 grind[Sh.kv]
def Ah{a:Bool}{args:List Sh}{c:Code}(h:wD a args c=true){j:Nat}(b:j∈fB a 0 args):b9 [j] c=true:=by
 grind[wD,ep]
def eO:∀(a:List Cp) (b:List Value),aH (cQ H w ω s) (vA a b) ((qR (A:=real) a []).map .one)
 |[],_=>trivial
 |.ro _::r,[]=>eO r []
 |.ro _::r,_::b=>eO r b
 |.mu _::r,[]=>⟨trivial,eO r []⟩
 |.mu _::r,_::b=>⟨trivial,eO r b⟩
def zn:∀(a:List Cp) (d:List Value) (b:List (cU real)),aH (λv c=>gK w ω s v c) d b->aH (cQ H w ω s) (vA a d) ((qR a b).map .one)
 |[],_,_,_=>trivial
 |_::_,[],_::_,h=>h.elim
 |_::_,_::_,[],h=>h.elim
 |.ro _::r,[],[],_=>eO r []
 |.mu _::r,[],[],_=>⟨trivial,eO r []⟩
 |.ro _::r,_::d,_::b,h=>zn r d b h.2
 |.mu _::r,_::d,.ptr id g::b,h=>⟨h.1,zn r d b h.2⟩
 |.mu _::r,_::d,.ro _ _::b,h=>⟨trivial,zn r d b h.2⟩
def jq:∀(a:List Cp) (c:List Value) (b:List (cU real)),CU a=[]->vA a c=[]/\qR a b=[]
 |[],_,b,_=>⟨rfl,by cases b <;> rfl⟩
 |.mu _::_,_,_,h=>by cases h
 |.ro _::r,[],[],h=>jq r [] [] h
 |.ro _::r,_::c,[],h=>jq r c [] h
 |.ro _::r,[],_::b,h=>jq r [] b h
 |.ro _::r,_::c,_::b,h=>jq r c b h
def EZ:∀(k:List Sh) (o:List Value) (m:List bK),k.length=o.length->k.length=m.length->(∀(i:Nat) n u tv,k[i]? = some n->n.DT≠[]->o[i]? = some u->m[i]? = some tv->cQ H w ω s u tv)->aH (cQ H w ω s) (ek k o) ((bV k m).map .one)
 |[],[],[],_,_,_=>trivial
 |[],_::_,_,h,_,_=>by cases h
 |[],_,_::_,_,h,_=>by cases h
 |_::_,[],_,h,_,_=>by cases h
 |_::_,_,[],_,h,_=>by cases h
 |n::k,u::o,tv::m,v,x,q=>by
  have z:=EZ k o m (by simpa using v) (by simpa using x) (λi n u tv a b c d=>q (i+1) n u tv (by simpa using a) b (by simpa using c) (by simpa using d));simp only[ek,bV,List.map_append];refine aH.iP ?_ z;cases n with
  |blk ks=>
   have:=q 0 _ u tv rfl (λe=>by cases e) rfl rfl;cases tv with
   |one l=>exact⟨this,trivial⟩
   |agg _=>exact⟨trivial,trivial⟩
   |ol _=>exact⟨trivial,trivial⟩
   |pQ _ _=>exact⟨trivial,trivial⟩
  |qa f g=>
   show aH (cQ H w ω s) ((Sh.qa f g).C0 u) ((Sh.DU (A:=real) (.qa f g) tv).map TV.one);unfold Sh.C0;simp only;by_cases p:CU g=[]
   .have B:∀X:List Value,vA g X=[]:=λX=>(jq g X [] p).1;have C:Sh.DU (A:=real) (.qa f g) tv=[]:=by
     unfold Sh.DU;split
     .rename_i j;cases j
     .rename_i j _;cases j
     .rename_i j;cases j;exact(jq g [] _ p).2
     .rename_i j _;cases j;exact(jq g [] [] p).2
     .rfl
    rw[B,C];trivial
   .have:=q 0 _ u tv rfl p rfl rfl;cases tv with
    |one l=>
     cases l with
     |fn D r=>obtain⟨t,rfl,y⟩:=this;exact zn g t r y
     |_=>exact eO g _
    |agg _=>exact eO g _
    |ol _=>exact eO g _
    |pQ _ _=>exact eO g _
  |_=>trivial
def rP{α:Type}:∀(ks a:List K) (xs b:List α),ks.length=xs.length->pick (ks++a) (xs++b)=pick ks xs++pick a b
 |[],_,[],_,_=>rfl
 |[],_,_::_,_,h=>by cases h
 |_::_,_,[],_,h=>by cases h
 |k::ks,a,x::xs,b,h=>by simp only[gV,pick];rw[rP ks a xs b (by simpa using h)];cases k.iR <;> rfl
def tL{α:Type}:∀(ks:List K) (xs:List α),ks.filter K.iR=[]->pick ks xs=[]
 |[],_,_=>rfl
 |_::_,[],_=>rfl
 |k::ks,x::xs,h=>by
  simp only[pick];rw[List.filter_cons]at h;cases a:k.iR with
  |true=>rw[a]at h;simp at h
  |false=>rw[a]at h;exact tL ks xs h
def aH.pick{α e:Type}{r:α->e->Prop}:∀(ks:List K) {c:List α} {d:List e},aH r c d->aH r (Go.R.pick ks c) (Go.R.pick ks d)
 |[],c,d,_=>by cases c <;> cases d <;> trivial
 |_::_,[],[],_=>trivial
 |k::ks,a::c,b::d,h=>by
  simp only[Go.R.pick];cases k.iR with
  |true=>exact⟨h.1,aH.pick ks h.2⟩
  |false=>exact aH.pick ks h.2
 |_::_,[],_::_,h=>h.elim
 |_::_,_::_,[],h=>h.elim
def oF:∀(a:List Value) (ks:List K),ks.length=a.length->aH (bU w ω s) a (ks.map λ_=>.dead)
 |[],[],_=>trivial
 |[],_::_,h=>by cases h
 |_::_,[],h=>by cases h
 |u::a,k::ks,h=>⟨trivial,oF a ks (by simpa using h)⟩
def Aa(a:Sh)(tv:bK):a.sP.length=(a.cells tv).length:=by
 cases a with
 |one k=>cases tv <;> rfl
 |agg ks=>
  cases tv with
  |agg ls=>grind[Sh.cells,Sh.sP,Nat.eq_of_beq_eq_true]
  |_=>simp[Sh.cells,Sh.sP]
 |_=>rfl
def Dc{a:Sh}{u:Value}{tv:bK}(b:a.sP.length=(a.vals u).length)(h:cQ H w ω s u tv):aH (bU w ω s) (a.vals u) (a.cells tv):=by
 cases a with
 |one k=>
  cases tv with
  |one l=>exact⟨h,trivial⟩
  |_=>exact⟨trivial,trivial⟩
 |agg ks=>
  cases tv with
  |agg ls=>
   obtain⟨cells,c,d⟩:=h;simp only[Sh.cells];cases e:Nat.beq ls.length ks.length with
   |true=>grind[Sh.vals,Value.cells]
   |false=>exact oF _ _ b
  |_=>exact oF _ _ b
 |_=>trivial
def Cy:∀(e:List Sh) (j:List Value) (g:List bK),e.length=j.length->e.length=g.length->(∀(i:Nat) f u,e[i]? = some f->j[i]? = some u->f.sP.length=(f.vals u).length) ->
  (∀(i:Nat) f u tv,e[i]? = some f->f.outs≠[]->j[i]? = some u->g[i]? = some tv->cQ H w ω s u tv)->aH (bU w ω s) (pick (dl e) (b8 e j)) (pick (dl e) (aY e g))
 |[],[],[],_,_,_,_=>trivial
 |[],_::_,_,h,_,_,_=>by cases h
 |[],_,_::_,_,h,_,_=>by cases h
 |_::_,[],_,h,_,_,_=>by cases h
 |_::_,_,[],_,h,_,_=>by cases h
 |f::e,u::j,tv::g,r,t,k,l=>by
  have o:=k 0 f u rfl rfl;have v:=Cy e j g (by simpa using r) (by simpa using t) (λi f u a b=>k (i+1) f u (by simpa using a) (by simpa using b)) (λi f u tv a b c d=>l (i+1) f u tv (by simpa using a) b (by simpa using c) (by simpa using d));have p:pick (dl (f::e)) (b8 (f::e) (u::j))=pick f.sP (f.vals u)++pick (dl e) (b8 e j):=rP _ _ _ _ o;have q:pick (dl (f::e)) (aY (f::e) (tv::g))=pick f.sP (f.cells tv)++pick (dl e) (aY e g):=rP _ _ _ _ (Aa f tv);rw[p,q];refine aH.iP ?_ v;by_cases m:f.outs=[]
  .have n:∀ {α:Type} (xs:List α),pick f.sP xs=[]:=λxs=>tL _ _ m;rw[n,n];trivial
  .exact aH.pick _ (Dc o (l 0 f u tv rfl m rfl rfl))
def CN{b:Nat}{a:Sh}{c:List (KV real)}{u:Value}(f:c.length=a.ks.length)(h:AX w ω b a c u):a.sP.length=(a.vals u).length:=by
 cases a with
 |one k=>rfl
 |agg ks=>
  obtain⟨cells,d,e⟩:=h;subst d;have:=e.length
  grind[Sh.sP,Sh.vals,Value.cells,Sh.ks]
 |_=>rfl
def uh:∀(a:List Sh) (j:List (KV real)) (e:List Value) (b:Nat),fI w ω b a j e->∀(i:Nat) c u,a[i]? = some c->e[i]? = some u->c.sP.length=(c.vals u).length
 |[],_,_,_,_,i,c,u,h,_=>by simp at h
 |_::_,_,[],_,h,_,_,_,_,_=>h.elim
 |c::a,j,u::e,b,h,0,d,k,f,g=>by simp at f g;subst f;subst g;exact CN h.1 h.2.1
 |c::a,j,u::e,b,h,i+1,d,k,f,g=>uh a _ e _ h.2.2 i d k (by simpa using f) (by simpa using g)
def BR {Ξ:vq} {pl:Nat -> Bool} (hI:jm P E Ξ) (hE:bD P E) (GB:∀f F, Ψ f = some F -> ec P f.1 F) {f:FuncId} {fn:Func} {c:Code} {F:hJ} (B:P.funcs[f]? = some fn) (O:(fn.name == "runtime.NumGoroutine") = false) (K:fn.body = some c)
  (hnt:fn.ntmps=E.nt) (Hh:F.args.length<=E.nt) (hL:e8 P E Λ (bY 0 c))
  (hfn:∀x,F.fn x=exec E (av _) (tab Ψ _) (Am Λ Ξ pl _) 0 c (uD F.args (bJ _ x)) λex s=>bif ex.done then finish E c F.look F.args F.bf _ fn.results.toList s else none):ec P f F:=by
 refine⟨⟨fn,c,B,O,K⟩,λw ω g x y Ge hinj hdom X G8=>?_⟩;rw[hfn]at G8;let H:Nat->Value:=λ_=>undef;have L:g.length=F.args.length:=by
  have:∀(l:List Sh) (t:List (KV real)) (g:List Value) (b:Nat),fI w ω b l t g->g.length=l.length:=by
   intro l;induction l with
   |nil=>intro t g b h;rw[h.2];rfl
   |cons A l ih=>
    intro t g b h;cases g with
    |nil=>exact h.elim
    |cons u g=>simp[ih _ _ _ h.2.2]
  exact this _ _ _ _ X
 refine calls_of_wp B K ?_;have hsz:(g.toArray++Array.replicate (fn.ntmps-g.toArray.size) undef).size=E.nt:=by simp;omega
 have hR:Rel H ω { tmps:=g.toArray++Array.replicate (fn.ntmps-g.toArray.size) undef,defers:=[] } w (uD F.args (bJ _ x)):=by
  refine rj Ge (by omega) hinj hdom rfl (λ_=>rfl) (λ_=>trivial) X (λj d hd u hu=>?_);have hj:j<F.args.length:=by
   grind
  have HN:d=j:=by
   grind
  subst HN;rw[fc,sR (by simp;omega)];simp[hu]
 have hx:=iJ hE (uc (E:=E) GB) hI (U:=λj=>wD F.look F.args c=true/\j∈fB F.look 0 F.args) c 0 ω _ w _ _ (λj hj=>Ah hj.1 hj.2) hL hsz hR G8;refine wp_mono hx λe a' C hp=>?_;obtain⟨ex,I,r,q1,q2,q3,q4,q5,q6⟩:=hp;have a:(bif ex.done then finish E c F.look F.args F.bf ((F.bf.map Sh.ks).flatten++(dY F.look F.args++(eC F.args).flatten)) fn.results.toList r else none)=some y:=q4;cases hd:ex.done with
 |false=>rw[hd]at a;cases a
 |true=>
  rw[hd]at a;simp only[aJ]at a;unfold finish at a;cases Q:wD F.look F.args c with
  |false=>rw[Q]at a;cases a
  |true=>
  rw[Q]at a;simp only[aJ]at a;cases ht:nV E r fn.results.toList with
  |none=>rw[ht]at a;cases a
  |some CM=>
   rw[ht]at a;simp only at a;cases T:bz F.bf CM r with
   |none=>rw[T]at a;cases a
   |some q=>
    obtain⟨t,s2⟩:=q;rw[T]at a;simp only at a;cases W:takes (dY F.look F.args) (bif F.look then pick (dl F.args) (aY F.args ((List.range F.args.length).map r.sl))else []) s2 with
    |none=>rw[W]at a;cases a
    |some q=>
    obtain⟨Y,s3⟩:=q;rw[W]at a;simp only at a;cases V:bz ((eC F.args).map .blk) ((bV F.args ((List.range F.args.length).map r.sl)).map .one) s3 with
    |none=>rw[V]at a;cases a
    |some q=>
    obtain⟨obs,s4⟩:=q;rw[V]at a;simp only at a;obtain⟨G,u1,u2⟩:=CD hE q2 fn.results.toList CM ht;obtain⟨eD,m,p1,g1,_,r1⟩:=iH F.bf CM G I r t s2 (1+au F.args) q2 u2 T;have N:∀(i:Nat) A u tv,F.args[i]? = some A->A.kv F.look=false->g[i]? = some u->((List.range F.args.length).map r.sl)[i]? = some tv->cQ H C I r u tv:=by
     intro i A u tv B O K D;have hi:i<F.args.length:=(za.1 B).1;rw[kU,List.getElem?_range hi]at D;simp only[cZ]at D;have D:=aG D;subst D;have M:=nR F.args 0 i A B O;rw[bC]at M;have S:=q6 i ⟨Q,M⟩;have hu:a'.tmps.getD i undef=u:=by rw[S,fc,sR (by simp;omega)];simp[K]
     have:=q2.slots i
     grind
    have R:aH (bU C I r) (bif F.look then pick (dl F.args) (b8 F.args g)else []) (bif F.look then pick (dl F.args) (aY F.args ((List.range F.args.length).map r.sl))else []):=by
     cases hL:F.look with
     |false=>trivial
     |true=>exact Cy F.args g _ L.symm (by simp) (uh _ _ _ _ X) (λi A u tv B O K D=>N i A u tv B (by rw[hL];exact wR O) K D)
    have HJ:aH (cQ H C I r) (ek F.args g) ((bV F.args ((List.range F.args.length).map r.sl)).map .one):=EZ F.args g _ L.symm (by simp) (λi A u tv B O K D=>N i A u tv B (yA O) K D);obtain⟨CX,m2,p2,g2,_,_,r2⟩:=gq _ _ _ eD s2 Y s3 (1+au F.args+au F.bf) p1.rel (R.mono λ_ _ hl=>bU.frame p1.ext p1.tr hl) W;have hlo:(dY F.look F.args).length=Y.length:=by
     grind
    have Z:=p1.trans p2;obtain⟨p,m3,p3,g3,_,r3⟩:=iH _ _ (ek F.args g) CX s3 obs s4 (1+au F.args+au F.bf+(dY F.look F.args).length) p2.rel (HJ.mono λ_ _ hl=>cQ.frame Z.ext Z.tr hl) V;have g12:=bT.trans (fm _ _) (fm _ _) g1 g2;have J:=bT.trans (by omega) (fm _ _) g12 g3;have hS:=fA J;have o:=r1 p s4 (p.named (m++m2++m3)) (g2.later.trans g3.later) hS.left.left;have Hp:=r2 p s4 (p.named (m++m2++m3)) g3.later hS.left.right;have FA:=r3 p s4 (p.named (m++m2++m3)) (di.refl _ _) hS.right;have hvs:t++(Y++obs)=bJ _ y:=(gJ _ _ _ a).symm;have hrun:=yG (fn:=fn) u1;have hlv:t.length=(F.bf.map Sh.ks).flatten.length:=by
     have:∀(l:List Sh) (t:List (KV real)) (g:List Value) (b:Nat),fI C (p.named (m++m2++m3)) b l t g->t.length=(l.map Sh.ks).flatten.length:=by
      intro l;induction l with
      |nil=>intro t g b h;rw[h.1];rfl
      |cons A l ih=>
       intro t g b h;cases g with
       |nil=>exact h.elim
       |cons u g=>
        have:=ih _ _ _ h.2.2;have B:=h.1
        grind
     exact this _ _ _ _ o
    have z:a'.defers=[]/\∃v,(results fn a'.tmps).run P C=.ok v C/\∃v' n,Ending.returned v=.returned v'/\cH ω w n C/\(∀b b' k,n b=some k->n b'=some k->b=b')/\(∀b k,n b=some k->b<C.heap.size) /\
      zU C n (1+au F.args) F.bf ((bJ _ y).take (F.bf.map Sh.ks).flatten.length) v'/\Dy C n (1+au F.args+au F.bf) F.look F.args g ((bJ _ y).drop (F.bf.map Sh.ks).flatten.length):=by
     refine⟨p3.rel.defers,_,hrun,_,p.named (m++m2++m3),rfl,q3.trans (Z.ext.trans (p3.ext.trans (iB _ _ _))),oQ (by omega) J p3.rel.inj,oP p3.rel.dom,?_,?_⟩
     .rw[<-hvs,<-hlv,List.take_left];unfold zU;match I2:F.bf,o with
      |[],o=>obtain⟨e1,e2⟩:=o;grind
      |[A],o=>
       match G,o with
       |[u],o=>exact⟨o.1,o.2.1⟩
       |_::_::_,o=>have:=o.2.2.2;cases this
      |_::_::_,o=>
       match G,o with
       |[u],o=>exact o.2.2.elim
       |[],o=>exact o.elim
       |u::u'::G,o=>grind
     .rw[<-hvs,<-hlv,List.drop_left];refine⟨λhL=>?_,?_⟩
      .grind
      grind
    cases ex with
    |normal=>
     cases e with
     |normal=>exact z
     |_=>cases q1
    |ret=>
     cases e with
     |ret=>exact z
     |_=>cases q1
    |exit _=>cases hd
def Dg (k:bD P E) (e:∀f F, Ψ f = some F -> ec P f.1 F) {f:FuncId} {fn:Func} {c:Code} {F:hJ} (h:P.funcs[f]? = some fn) (i:(fn.name == "runtime.NumGoroutine") = false) (j:fn.body = some c)
  (d:fn.ntmps=E.nt) (b:F.args.length<=E.nt) (l:e8 P E Λ (bY 0 c))
  (a:∀x,F.fn x=exec E (av _) (tab Ψ _) (Am Λ FN FR _) 0 c (uD F.args (bJ _ x)) λg s=>bif g.done then finish E c F.look F.args F.bf _ fn.results.toList s else none):ec P f F:=
 BR rX k e h i j d b l a
end
end Go.R
namespace Go.R
section
variable {P:Program}
def ar.take:Nat->ar->ar
 |0,_=>.nil
 |_+1,.nil=>.nil
 |n+1,.cons t ts=>.cons t (ar.take n ts)
def ar.drop:Nat->ar->ar
 |0,ts=>ts
 |_+1,.nil=>.nil
 |n+1,.cons _ ts=>ar.drop n ts
def uz(P:Program)(g:TypeId->ar->Bool):List Field->Nat->ar->Bool
 |[],_,.nil=>true
 |[],_,.cons _ _=>false
 |F:: b, o, a=>(F.name != "_")&&(Nat.beq F.offset o&&(match P.info? F.type with
  |some I=>Nat.ble 1 I.size&&(Nat.ble I.size a.len&&(g F.type (a.take I.size)&&uz P g b (o+I.size) (a.drop I.size)))
  |none=>false))
def oy(P:Program):Nat->TypeId->ar->Bool
 |0,_,_=>false
 |f+1,t,a=>match P.underlying t with
  |some (.int _)=>(match a with |.cons (.int _) .nil=>true|_=>false)
  |some .bool=>(match a with |.cons .bool .nil=>true|_=>false)
  |some (.struct b)=>!P.stoodInHeld t&&uz P (oy P f) b.toList 0 a
  |_=>false
def fG(P:Program)(t:TypeId):Bool:=match P.underlying t with|some (.struct _)=>true|_=>false
def F5:TypeDesc->Bool
 |.struct _ |.int _ |.bool=>true
 |_=>false
theorem Typed.len:∀ {a:ar} {b:List Value},Typed a b->b.length=a.len
 |.nil,[],_=>rfl
 |.cons _ _,_::_,h=>by simp[ar.len,Typed.len h.2]
 |.nil,_::_,h=>h.elim
 |.cons _ _,[],h=>h.elim
def Typed.take:∀(n:Nat) {a:ar} {b:List Value},Typed a b->Typed (a.take n) (b.take n)
 |0,_,_,_=>trivial
 |_+1,.nil,[],_=>trivial
 |n+1,.cons _ _,_::_,h=>⟨h.1,Typed.take n h.2⟩
 |_+1,.nil,_::_,h=>h.elim
 |_+1,.cons _ _,[],h=>h.elim
theorem Typed.drop:∀(n:Nat) {a:ar} {b:List Value},Typed a b->Typed (a.drop n) (b.drop n)
 |0,_,_,h=>h
 |_+1,.nil,[],_=>trivial
 |n+1,.cons _ _,_::_,h=>Typed.drop n h.2
 |_+1,.nil,_::_,h=>h.elim
 |_+1,.cons _ _,[],h=>h.elim
def nI:∀(n:Nat) {g:ar} {e f:List Value},Typed g e->Typed g f->cW e f=(cW (e.take n) (f.take n)&&cW (e.drop n) (f.drop n))
 |0,g,e,f,_,_=>by simp[cW]
 |n+1,.nil,[],[],_,_=>rfl
 |n+1,.cons t ts,u::e,v::f,c,d=>by
  have h:=nI n c.2 d.2;cases t with
  |int k=>
   obtain⟨a,rfl⟩:=c.1;obtain⟨b,rfl⟩:=d.1
   grind[cW]
  |bool=>
   obtain⟨a,rfl⟩:=c.1;obtain⟨b,rfl⟩:=d.1
   grind[cW]
  |str=>exact c.1.elim
  |map _=>exact c.1.elim
  |sl _ _=>exact c.1.elim
 |n+1,.nil,_::_,_,c,_=>c.elim
 |n+1,.nil,[],_::_,_,d=>d.elim
 |n+1,.cons _ _,[],_,c,_=>c.elim
 |n+1,.cons _ _,_::_,[],_,d=>d.elim
def Ea{a b:List Value}:cW a b=true->a.length=b.length:=by
 fun_induction cW a b <;> simp_all
def Ak{T:TypeId}{d:TypeDesc}(h:P.underlying T=some d)(hd:F5 d=true)(w:World):(isAgg T).run P w=.ok (fG P T) w:=by unfold isAgg fG;rw[Sem.run_bind,run_underlying h w,h];cases d <;> first|rfl|cases hd
def wT{T:TypeId}{I:TypeInfo}{d:TypeDesc}(h:P.underlying T=some d)(hd:F5 d=true)(f:P.info? T=some I)(b:List Value)(a:Nat)(g:a+I.size<=b.length)(c:fG P T=false->I.size=1)(w:World):
  (part T b.toArray a).run P w=.ok (fO (fG P T) ((b.drop a).take I.size)) w:=by
 unfold part;rw[Sem.run_bind,Ak h hd];cases i:fG P T with
 |true=>simp[sizeOf,typeInfo,f,fO]
 |false=>
  have c:=c i;have e:a<b.length:=by omega
  rw[c];simp[fO,cL e]
  grind[List.drop_eq_getElem_cons]
def Ab{f:Nat}{t:TypeId}{a:ar}(h:oy P f t a=true):∃d,P.underlying t=some d/\F5 d=true/\(fG P t=false->a.len=1):=by
 cases f with
 |zero=>cases h
 |succ f=>
  unfold oy at h;unfold fG;cases b:P.underlying t with
  |none=>rw[b]at h;cases h
  |some d=>
   rw[b]at h;cases d with
   |int k=>
    simp only at h;split at h
    .exact⟨_,rfl,rfl,λ_=>rfl⟩
    .cases h
   |bool=>
    simp only at h;split at h
    .exact⟨_,rfl,rfl,λ_=>rfl⟩
    .cases h
   |struct c=>exact⟨_,rfl,rfl,λh=>by cases h⟩
   |_=>cases h
theorem xf:∀(n:Nat) (a:ar),n<=a.len->(a.take n).len=n
 |0,_,_=>rfl
 |n+1,.nil,h=>by simp[ar.len]at h
 |n+1,.cons _ ts,h=>by simp only[ar.len,ar.take]at h⊢;rw[xf n ts (by omega)]
def pz (f:Nat) (x:∀(t:TypeId) (a:ar),oy P f t a=true->∀(d:Nat) (b c:List Value) (w:World),Typed a b->Typed a c->(Op.equalIn (d+f) t (fO (fG P t) b) (fO (fG P t) c)).run P w=.ok (cW b c) w)
  (d:Nat) (b c:List Value) (w:World):∀(m:List Field) (o:Nat) (a:ar),uz P (oy P f) m o a=true->Typed a (b.drop o)->Typed a (c.drop o)->(Op.eqFields (d+f) b.toArray c.toArray m).run P w=.ok (cW (b.drop o) (c.drop o)) w
 |[],o,.nil,_,k,l=>by have C:b.drop o=[]:=cK.1 k.len;have D:c.drop o=[]:=cK.1 l.len;rw[C,D];rfl
 |[],o,.cons _ _,h,_,_=>by cases h
 |F::m,o,a,h,k,l=>by
  simp only[uz,aQ]at h;obtain⟨p,q,g⟩:=h;have p:F.name ≠ "_" := by simpa using p
  have q:=bc q;cases n:P.info? F.type with
  |none=>rw[n]at g;cases g
  |some I=>
   rw[n]at g;simp only[aQ]at g;obtain⟨g,y,z,E⟩:=g;have g:=bn g;have y:=bn y;obtain⟨K,A,B,L⟩:=Ab z;have s:(b.drop o).length=a.len:=k.len;have v:(c.drop o).length=a.len:=l.len;rw[List.length_drop]at s v;have i:fG P F.type=false->I.size=1:=λe=>by grind[xf]
   have H:=wT A B n b o (by omega) i w;have J:=wT A B n c o (by omega) i w;have G:=x F.type _ z d _ _ w (k.take I.size) (l.take I.size);have r:Typed (a.drop I.size) (b.drop (o+I.size)):=by have:=k.drop I.size;rwa[mZ]at this
   have u:Typed (a.drop I.size) (c.drop (o+I.size)):=by have:=l.drop I.size;rwa[mZ]at this
   have j:=pz f x d b c w m (o+I.size) (a.drop I.size) E r u;rw[nI I.size k l,mZ,mZ];simp only[Op.eqFields,p,ne_eq,not_false_eq_true,if_true,q,Sem.run_bind,H,J,Result.andThen_ok,G];cases cW ((b.drop o).take I.size) ((c.drop o).take I.size)with
   |false=>simp
   |true=>simpa using j
def qU:∀(f:Nat) (t:TypeId) (l:ar),oy P f t l=true->∀(d:Nat) (g i:List Value) (w:World),Typed l g->Typed l i->(Op.equalIn (d+f) t (fO (fG P t) g) (fO (fG P t) i)).run P w=.ok (cW g i) w
 |0,t,l,h,_,_,_,_,_,_=>by cases h
 |f+1,t,l,h,d,g,i,w,c,e=>by
  unfold oy at h;unfold fG;cases j:P.underlying t with
  |none=>rw[j]at h;cases h
  |some o=>
   rw[j]at h;cases o with
   |int k=>
    simp only at h;split at h
    .rename_i p;match g,i,c,e with
     |[u],[v],c,e=>
      obtain⟨a,rfl⟩:=c.1;obtain⟨b,rfl⟩:=e.1
      grind[run_equalIn_int,fO,cW]
     |_::_::_,_,c,_=>exact c.2.elim
     |[_],_::_::_,_,e=>exact e.2.elim
     |[],_,c,_=>exact c.elim
     |[_],[],_,e=>exact e.elim
    .cases h
   |bool=>
    simp only at h;split at h
    .match g,i,c,e with
     |[u],[v],c,e=>
      obtain⟨a,rfl⟩:=c.1;obtain⟨b,rfl⟩:=e.1
      grind[run_equalIn_bool',fO,cW]
     |_::_::_,_,c,_=>exact c.2.elim
     |[_],_::_::_,_,e=>exact e.2.elim
     |[],_,c,_=>exact c.elim
     |[_],[],_,e=>exact e.elim
    .cases h
   |struct m=>
    simp only[aQ,jw]at h;have n:P.fieldsOf t=m:=by simp[Program.fieldsOf,j]
    simp only[fO];rw[show d+(f+1)=(d+f)+1 from rfl,run_equalIn_struct w (d+f) t g.toArray i.toArray (by rw[n];exact j) h.1,n];have:=pz f (λt l h d g i w=>qU f t l h d g i w) d g i w m.toList 0 l h.2 (by simpa using c) (by simpa using e);simpa using this
   |_=>cases h
def yc(P:Program)(a:Nat->Option TI)(t:Nat):Bool:=match a t with
 |some i=>oy P 20 t i.cs&&(fG P t && !P.eqGuardType P.depth t)
 |none=>false
def D9{P:Program}{d:Nat->Option TI}{t:Nat}{i:TI}(h:yc P d t=true)(f:d t=some i)(c:BinOp)(x y:Operand)(a b:List Value)(w:World)(n:c=.eql\/c=.neq)(g:Typed i.cs a)(j:Typed i.cs b):
  (do eqGuard c t x y (.agg a.toArray) (.agg b.toArray);binOp c t (.agg a.toArray) (.agg b.toArray):Sem Value).run P w=.ok (.bool (match c with |.eql=>cW a b|_=>!cW a b)) w:=by
 unfold yc at h;rw[f]at h;simp only[aQ,jw]at h;obtain⟨e,k,l⟩:=h;have m:=qU 20 t i.cs e 9980 a b w g j
 grind[fO,Sem.run_bind,run_eqGuard_agg,Result.andThen_ok,run_eql_struct,run_neq_struct]
end
def yW:Ty->Value->Bool
 |.int k,.int a n=>decide (k=a)&&decide (n=0)
 |.bool,.bool b=>!b
 |.str,.string s=>Nat.beq s.size 0
 |.sl _ _,.slice none 0 0=>true
 |.map _,.map none=>true
 |_,_=>false
def qz:ar->List Value->Bool
 |.nil,[]=>true
 |.cons t ts,v::a=>yW t v&&qz ts a
 |_,_=>false
def AV:∀(t:Ty) (v:Value),yW t v=true->v=zeroOf t:=by
 intro t v h;unfold yW at h;split at h
 .rw[aQ]at h;rw[bR h.1,bR h.2];rfl
 .rename_i b;cases b with
  |true=>cases h
  |false=>rfl
 .rename_i s;have a:s.size=0:=bc h;show Value.string s=Value.string ByteArray.empty;simp_all
 .rfl
 .rfl
 .cases h
theorem sx:∀(ts:ar) (a:List Value),qz ts a=true->a=gR ts
 |.nil,[],_=>rfl
 |.nil,_::_,h=>by cases h
 |.cons _ _,[],h=>by cases h
 |.cons t ts,v::a,h=>by simp only[qz,aQ]at h;rw[AV t v h.1,sx ts a h.2];rfl
def qo(P:Program):List Field->List (Nat×Nat×Bool)->Bool
 |[],[]=>true
 |F::c,q::d=>Nat.beq F.offset q.1&&(match P.info? F.type,P.underlying F.type with
  |some a,some b=>Nat.beq a.size q.2.1&&Nat.ble 1 a.size&&(b.isRow==q.2.2)&&(q.2.2||Nat.beq q.2.1 1)
  |_,_=>false)&&qo P c d
 |_,_=>false
def qO{P:Program}:∀(c:List Field) (d:List (Nat×Nat×Bool)),qo P c d=true->c.length=d.length/\∀(f:Nat) (q:Nat×Nat×Bool),d[f]? = some q->∃(F:Field) (b:TypeInfo) (g:TypeDesc),c[f]? = some F/\F.offset=q.1/\P.info? F.type=some b/\b.size=q.2.1/\0<b.size/\P.underlying F.type=some g/\g.isRow=q.2.2/\(q.2.2=false->q.2.1=1)
 |[],[],_=>⟨rfl,by simp⟩
 |[],_::_,h=>by cases h
 |_::_,[],h=>by cases h
 |F::c,q::d,h=>by
  simp only[qo,aQ]at h;obtain⟨⟨o,a⟩,p⟩:=h;obtain⟨r,u⟩:=qO c d p;refine⟨by simp[r],λf t k=>?_⟩;cases f with
  |zero=>
   simp at k;subst k;cases i:P.info? F.type with
   |none=>rw[i]at a;cases a
   |some b=>
    cases j:P.underlying F.type with
    |none=>rw[i,j]at a;cases a
    |some g=>
     rw[i,j]at a;simp only[aQ]at a;obtain⟨⟨⟨l,m⟩,n⟩,s⟩:=a;refine⟨F,b,g,rfl,bc o,i,bc l,bn m,j,eq_of_beq n,λe=>?_⟩
     grind[Nat.eq_of_beq_eq_true]
  |succ f=>grind
def jo:ar->TypeDesc->Bool
 |.cons (.int k) .nil,.int b=>decide (k=b)
 |.cons (.int _) .nil,_=>false
 |.cons .bool .nil,.bool=>true
 |.cons .bool .nil,_=>false
 |.cons .str .nil,.string=>true
 |.cons .str .nil,_=>false
 |.cons (.sl e _) .nil,.slice a=>Nat.beq e a
 |.cons (.sl _ _) .nil,_=>false
 |_,_=>true
def BJ(P:Program)(t:Nat)(i:TI):Bool:=
 match P.info? t,P.underlying t with
 |some I,some d=>
  Nat.beq I.size i.cs.len&&(Nat.beq I.bytes i.bytes&&(Nat.ble 1 i.bytes&&Nat.ble i.bytes 65536)) &&
  (match I.zero with|some z=>qz i.cs z.cells.toList|none=>false) &&
  ((d.isRow==i.agg)&&(i.agg||Nat.beq i.cs.len 1)) &&
  (match d with |.struct b=>!i.agg||qo P b.toList i.mh|_=>!i.agg) &&
  (match i.el with|none=>true|some e=>(match d with |.slice a=>Nat.beq a e|_=>false)) &&
  (i.agg||jo i.cs d)
 |_,_=>false
def j3{a:ar}{d:TypeDesc}(h:jo a d=true):(∀k,a=.cons (.int k) .nil->d=.int k)/\(a=.cons .bool .nil->d=.bool)/\(a=.cons .str .nil->d=.string)/\(∀e b,a=.cons (.sl e b) .nil->d=.slice e):=by
 refine⟨λk e=>?_,λe=>?_,λe=>?_,λc b e=>?_⟩
 .subst e;cases d <;> simp only[jo]at h <;> first|cases h|skip
  rw[bR h]
 .grind[jo]
 .grind[jo]
 .subst e;cases d <;> simp only[jo]at h <;> first|cases h|skip
  rw[bc h]
def BK{P:Program}{t:Nat}{i:TI}(h:BJ P t i=true):∃I d,vu P t i I d:=by
 unfold BJ at h;cases g:P.info? t with
 |none=>rw[g]at h;cases h
 |some I=>
  cases l:P.underlying t with
  |none=>rw[g,l]at h;cases h
  |some d=>
   rw[g,l]at h;simp only[aQ]at h;obtain⟨⟨⟨⟨⟨⟨o,r,s,u⟩,z⟩,v,A⟩,c⟩,B⟩,p⟩:=h;refine⟨I,d,?_⟩;have j:i.agg=false->jo i.cs d=true:=λe=>by grind
   exact
   {info:=g
    zO:=l
    size:=bc o
    bytes:=bc r
    bpos:=⟨bn s,bn u⟩
    zero:=by
     grind[sx]
    row:=eq_of_beq v
    one:=λe=>by grind[Nat.eq_of_beq_eq_true]
    mh:=λe=>by
     cases d with
     |struct n=>simp only[e,l7,Bool.false_or]at c;obtain⟨x,y⟩:=qO _ _ c;exact⟨n,rfl,by simpa using x,λf q w=>by simpa using y f q w⟩
     |_=>rw[e]at c;cases c
    el:=λe C=>by
     grind[Nat.eq_of_beq_eq_true]
    El:=λk a b=>(j3 (j b)).1 k a
    DD:=λa b=>(j3 (j b)).2.1 a
    ED:=λa b=>(j3 (j b)).2.2.1 a
    IG:=λe m a b=>(j3 (j b)).2.2.2 e m a }
def wM:List (Nat×TI)->Nat->Option TI
 |[],_=>none
 |(t,i)::r,n=>bif Nat.beq t n then some i else wM r n
def tG:∀ {l:List (Nat×TI)} {n:Nat} {i:TI},wM l n=some i->(n,i)∈l
 |[],_,_,h=>by cases h
 |(t,j)::r,n,i,h=>by
  simp only[wM]at h;cases a:Nat.beq t n with
  |true=>grind[Nat.eq_of_beq_eq_true]
  |false=>rw[a]at h;exact eJ _ (tG h)
def D2(P:Program)(l:List (Nat×TI)):Bool:=l.all λp=>BJ P p.1 p.2
def zA:List (Nat×IntKind)->Nat->Option IntKind
 |[],_=>none
 |(t,i)::r,n=>bif Nat.beq t n then some i else zA r n
def D4(P:Program)(t:Nat)(k:IntKind):Bool:=
 match P.underlying t with
 |some (.map d a)=>(match P.underlying d with|some (.int c)=>decide (c=k)|_=>false)&&(match P.info? a with|some I=>(match I.zero with|some (.bool b)=>!b|_=>false)|none=>false)
 |_=>false
def zm{P:Program}:∀ {l:List (Nat×IntKind)} {t:Nat} {k:IntKind},(l.all λp=>D4 P p.1 p.2)=true->zA l t=some k->∃c a I,P.underlying t=some (.map c a)/\P.underlying c=some (.int k)/\P.info? a=some I/\I.zero=some (.bool false)
 |[],_,_,_,h=>by cases h
 |(e,f)::r,t,k,b,h=>by
  rw[gL,aQ]at b;simp only[zA]at h;cases d:Nat.beq e t with
  |false=>rw[d]at h;exact zm b.2 h
  |true=>grind[Nat.eq_of_beq_eq_true,D4]
def E3{P:Program}{l:List (Nat×TI)}(n:P.follows .mixedOrders=true)(h:D2 P l=true){f:List Nat}(c:(f.all λt=>yc P (wM l) t)=true){g:List (Nat×IntKind)}(e:(g.all λp=>D4 P p.1 p.2)=true)(E:Env)(a:E.ti=wM l)(b:∀t,E.Fx t=f.any (Nat.beq t))(d:E.mp=zA g):bD P E where
 mo:=n
 GH t k ht:=by rw[d]at ht;exact zm e ht
 ti t i hi:=by rw[a]at hi;exact BK (cg.1 h (t,i) (tG hi))
 eqs t i hi ht op x y us vs w:=by
  rw[b t]at ht;obtain⟨s,j,m⟩:=oq.1 ht;have:=bc m;subst this;rw[a]at hi;intro o q r;have:=D9 (cg.1 c _ j) hi op x y us vs w o q r
  grind
def ar.iP:ar->ar->ar
 |.nil,d=>d
 |.cons t ts,d=>.cons t (ts.iP d)
def nu:(c d:ar)->c.T->d.T->(c.iP d).T
 |.nil,_,_,y=>y
 |.cons _ ts,d,x,y=>kZ (kp x) (nu ts d (jP x) y)
def Bv:∀(c d:ar),(c.iP d).len=c.len+d.len
 |.nil,d=>by simp[ar.iP,ar.len]
 |.cons _ ts,d=>by simp[ar.iP,ar.len,Bv ts d];omega
mutual
def Ty.wf:(t:Ty)->t.T->Prop
 |.int k,x=>(Lit.int k x).wf=true
 |.bool,_=>True
 |.str,x=>ByteArray.size x<=maxLen
 |.map _,_=>True
 |.sl _ a,x=>List.length x<=maxLen/\∀y,List.Mem y x->ar.wf a y
def ar.wf:(a:ar)->a.T->Prop
 |.nil,_=>True
 |.cons t ts,x=>Ty.wf t (kp x)/\ar.wf ts (jP x)
end
def CP:∀(c d:ar) (x:c.T) (y:d.T),c.wf x->d.wf y->(c.iP d).wf (nu c d x y)
 |.nil,_,_,_,_,h=>h
 |.cons t ts,d,x,y,h,a=>by
  have b:kp (kZ (t:=t) (ts:=ts.iP d) (kp x) (nu ts d (jP x) y))=kp x:=kI _ _;have e:jP (kZ (t:=t) (ts:=ts.iP d) (kp x) (nu ts d (jP x) y))=nu ts d (jP x) y:=kK _ _;refine⟨?_,?_⟩
  .show t.wf (kp (kZ (kp x) (nu ts d (jP x) y)));rw[b];exact h.1
  .show(ts.iP d).wf (jP (kZ (kp x) (nu ts d (jP x) y)));rw[e];exact CP ts d _ y h.2 a
section
variable {P:Program}{w:World}{ω:aq}
def DA{a:Nat->Md}{g:Nat->Option Value}:∀(c d:ar) (j:Nat) (x:c.T) (y:d.T),c.R w ω a g j x->d.R w ω a g (j+c.len) y->(c.iP d).R w ω a g j (nu c d x y)
 |.nil,_,_,_,_,_,h=>h
 |.cons t ts,d,j,x,y,h,i=>by
  have k:kp (kZ (t:=t) (ts:=ts.iP d) (kp x) (nu ts d (jP x) y))=kp x:=kI _ _;have b:jP (kZ (t:=t) (ts:=ts.iP d) (kp x) (nu ts d (jP x) y))=nu ts d (jP x) y:=kK _ _;obtain⟨⟨v,e,l⟩,f⟩:=h;refine⟨⟨v,e,?_⟩,?_⟩
  .grind[nu]
  .show(ts.iP d).R w ω a g (j+1) (jP (kZ (kp x) (nu ts d (jP x) y)));rw[b];refine DA ts d (j+1) _ y f ?_
   grind[ar.len]
theorem ul{g b:Nat->Option Value}:∀(c:ar) (j a:Nat) (x:c.T),(∀k,k<c.len->g (j+k)=b (a+k))->c.R w ω (λ_=>.bQ) b a x->c.R w ω (λ_=>.bQ) g j x
 |.nil,_,_,_,_,_=>trivial
 |.cons t ts,j,a,x,d,h=>by
  obtain⟨⟨v,f,i⟩,l⟩:=h;refine⟨⟨v,(d 0 (by simp[ar.len])).trans f,i⟩,ul ts (j+1) (a+1) _ (λk e=>?_) l⟩;have:=d (k+1) (by simp[ar.len,e])
  grind
mutual
def Bg(P:Program):Nat->Nat->Option ar
 |0,_=>none
 |n+1,t=>
  match P.underlying t with
  |some (.int k)=>bif Nat.beq (P.cellsOf t) 1 then some (.cons (.int k) .nil)else none
  |some .bool=>bif Nat.beq (P.cellsOf t) 1 then some (.cons .bool .nil)else none
  |some .string=>bif Nat.beq (P.cellsOf t) 1 then some (.cons .str .nil)else none
  |some (.slice e)=>match Bg P n e with
   |some a=>bif Nat.beq (P.cellsOf t) 1&&(Nat.ble 1 a.len&&Nat.beq (P.cellsOf e) a.len)then some (.cons (.sl e a) .nil)else none
   |none=>none
  |some (.struct b)=>match qh P n b.toList 0 with
   |some a=>bif Nat.beq (P.cellsOf t) a.len then some a else none
   |none=>none
  |_=>none
def qh(P:Program):Nat->List Field->Nat->Option ar
 |_,[],_=>some .nil
 |0,_::_,_=>none
 |n+1,F::b,a=>bif Nat.beq F.offset a then
   match Bg P n F.type with
   |some c=>bif Nat.beq (P.cellsOf F.type) c.len then(qh P n b (a+c.len)).map (c.iP ·)else none
   |none=>none
  else none
end
def mapM_some{α e:Type}{f:α->Option e}:∀ {l:List α} {r:List e},l.mapM f=some r->r.length=l.length/\∀(i:Nat) (x:α),l[i]? = some x->∃y,r[i]? = some y/\f x=some y
 |[],r,h=>by grind
 |a::l,r,h=>by
  rw[ow]at h;cases d:f a with
  |none=>rw[d]at h;cases h
  |some b=>
   rw[d]at h;cases c:l.mapM f with
   |none=>simp[c]at h
   |some g=>
    simp[c]at h;subst h;obtain⟨j,k⟩:=mapM_some c
    grind
def cells?_some{a:Nat}{A:Addr}{n:Nat}{b:List Value}(h:w.cells? a A n=some b):b.length=n/\∀j,j<n->w.cell? (A.add j)=b[j]?:=by
 unfold World.cells? at h;split at h
 .obtain⟨c,d⟩:=mapM_some h;refine⟨by simpa using c,λj e=>?_⟩;obtain⟨y,f,g⟩:=d j j (by rw[List.getElem?_range e]);rw[f];exact g
 .cases h
def pq{α:Type}{p:Nat->α->Prop}:∀(n:Nat),(∀i,i<n->∃x,p i x)->∃l:List α,l.length=n/\∀i x,l[i]? = some x->p i x
 |0,_=>⟨[],rfl,by simp⟩
 |n+1,h=>by
  obtain⟨l,a,b⟩:=pq n (λi c=>h i (by omega));obtain⟨x,d⟩:=h n (by omega);refine⟨l++[x],by simp[a],λi y e=>?_⟩
  grind
variable {H:Type}{enc:TypeId×Value->H}{base:Nat}{spare:Nat->Bool}{held:Bool}
mutual
def yV:∀(n t:Nat) (p:ar) (o:Nat) (J:List Value) (x:DataW H×List MemPlace),Bg P n t=some p->DataW.trod enc P w base spare held o t J=some x ->
  P.cellsOf t=p.len/\J.length=p.len/\∃X:p.T,p.R w aq.ig (λ_=>.bQ) (λj=>J[j]?) 0 X/\p.wf X
 |0,_,_,_,_,_,h,_=>by simp[Bg]at h
 |n+1,t,p,o,J,x,h,G=>by
  unfold Bg at h;cases v:P.underlying t with
  |none=>rw[v]at h;cases h
  |some d=>
   rw[v]at h;cases d with
   |int k=>
    simp only at h;cases a:Nat.beq (P.cellsOf t) 1 with
    |false=>rw[a]at h;cases h
    |true=>rw[a]at h;have h:=aG h;subst h;obtain⟨m,g,Z,M⟩:=DataW.trod_int v G;subst g;exact⟨bc a,rfl,(m:Int),⟨⟨_,rfl,rfl⟩,trivial⟩,M,trivial⟩
   |bool=>
    simp only at h;cases a:Nat.beq (P.cellsOf t) 1 with
    |false=>rw[a]at h;cases h
    |true=>rw[a]at h;have h:=aG h;subst h;obtain⟨m,g,Z⟩:=DataW.trod_bool v G;subst g;exact⟨bc a,rfl,(m:Bool),⟨⟨_,rfl,rfl⟩,trivial⟩,trivial,trivial⟩
   |string=>
    simp only at h;cases a:Nat.beq (P.cellsOf t) 1 with
    |false=>rw[a]at h;cases h
    |true=>rw[a]at h;have h:=aG h;subst h;obtain⟨m,g,Z,M⟩:=DataW.trod_string v G;subst g;exact⟨bc a,rfl,(m:ByteArray),⟨⟨_,rfl,rfl⟩,trivial⟩,M,trivial⟩
   |slice e=>
    simp only at h;cases Q:Bg P n e with
    |none=>rw[Q]at h;cases h
    |some ce=>
     rw[Q]at h;simp only at h;cases a:(Nat.beq (P.cellsOf t) 1&&(Nat.ble 1 ce.len&&Nat.beq (P.cellsOf e) ce.len))with
     |false=>rw[a]at h;cases h
     |true=>
      rw[a]at h;have h:=aG h;subst h;rw[aQ,aQ]at a;have hce:=bc a.2.2;have hpos:1<=ce.len:=bn a.2.1;refine⟨bc a.1,?_⟩;rcases DataW.trod_slice v G with ⟨g,_⟩|⟨A,len,cap,r,rest,m,_,g,_,_,S,H8,hel,T,_⟩
      .subst g;refine⟨rfl,([]:List ce.T),⟨⟨_,rfl,none,0,0,rfl,rfl,az _,λhn=>absurd hn (by omega),λi _ F=>absurd F (by omega)⟩,trivial⟩,⟨kR _,λy I=>by cases I⟩,trivial⟩
      .subst g;refine⟨rfl,?_⟩;have s:∀i,i<len->∃X:ce.T,∃b:List Value,w.cells? base (A.add (i*P.cellsOf e)) (P.cellsOf e)=some b/\ce.R w aq.ig (λ_=>.bQ) (λj=>b[j]?) 0 X/\ce.wf X:=by
        intro i F;have D:=T i F;obtain⟨y,I⟩:=jB (l:=r) (i:=i) (by omega);rw[I]at D;cases hc:w.cells? base (A.add (i*P.cellsOf e)) (P.cellsOf e)with
        |none=>rw[hc]at D;cases D
        |some b=>
         rw[hc]at D;obtain⟨_,_,X,N,hW⟩:=yV n e ce m b y Q D
         grind
       obtain⟨l,l1,l2⟩:=pq len s;have U:0<len->A.spot=none:=by
        intro L;obtain⟨X,b,C,_⟩:=s 0 L;obtain⟨Y,K⟩:=cells?_some C;obtain⟨u,z⟩:=jB (l:=b) (i:=0) (by omega);have:=K 0 (by omega);rw[z]at this;cases hs:A.spot with
        |none=>rfl
        |some q=>grind[World.cell?,Addr.add]
       refine⟨l,⟨⟨_,rfl,some A,len,cap,rfl,l1,S,λL=>?_,λi ad F O=>?_⟩,trivial⟩,⟨?_,λy I=>?_⟩,trivial⟩
       .obtain⟨X,b,C,_⟩:=s 0 L;obtain⟨Y,K⟩:=cells?_some C;obtain⟨u,z⟩:=jB (l:=b) (i:=0) (by omega);have:=K 0 (by omega);rw[z]at this;obtain⟨V,W,B⟩:=A;have hs:B=none:=U L;subst hs;refine⟨V,W,rfl,rfl,?_⟩
        grind[Addr.add_mid,World.cell?]
       .injection O with O
        subst O;obtain⟨X,N⟩:=jB (l:=l) (i:=i) (by omega);obtain⟨b,C,c4,_⟩:=l2 i X N;obtain⟨Y,K⟩:=cells?_some C;show ce.R w aq.ig (λ_=>.bQ) (λj=>w.cell? ⟨A.block,A.off+i*ce.len+j,none⟩) 0 (List.getD l i (jk ce));rw[getD_some N];obtain⟨V,W,B⟩:=A
        grind[ul,Addr.add_mid]
       .show l.length<=maxLen;rw[l1];omega
       .obtain⟨i,F⟩:=List.getElem?_of_mem (show y∈l from I)
        grind
   |struct fs=>
    simp only at h;cases R:qh P n fs.toList 0 with
    |none=>rw[R]at h;cases h
    |some c=>
     rw[R]at h;simp only at h;cases a:Nat.beq (P.cellsOf t) c.len with
     |false=>rw[a]at h;cases h
     |true=>
      rw[a]at h;have h:=aG h;subst h;have E:=bc a;obtain⟨xs,m,_,_,hl,hlen,hfd⟩:=DataW.trod_struct v G;refine⟨E,hl.trans E,?_⟩;refine xh n fs.toList 0 c m J R (λf hm=>?_)
      grind[List.getElem?_of_mem]
   |_=>cases h
def xh:∀(n:Nat) (g:List Field) (a:Nat) (e:ar) (b:Nat) (i:List Value),qh P n g a=some e->(∀f∈g,∃x:DataW H×List MemPlace,DataW.trod enc P w base spare held b f.type ((i.drop f.offset).take (P.cellsOf f.type))=some x) ->
  ∃X:e.T,e.R w aq.ig (λ_=>.bQ) (λj=>i[j]?) a X/\e.wf X
 |n,[],a,e,b,i,h,_=>by
  have h:some ar.nil=some e:=by cases n <;> exact h
  injection h with h
  subst h;exact⟨(),trivial,trivial⟩
 |0,_::_,_,_,_,_,h,_=>by simp[qh]at h
 |n+1,F::g,a,e,b,i,h,r=>by
  unfold qh at h;cases o:Nat.beq F.offset a with
  |false=>rw[o]at h;cases h
  |true=>
   rw[o]at h;simp only[aJ]at h;have u:=bc o;cases m:Bg P n F.type with
   |none=>rw[m]at h;cases h
   |some c=>
    rw[m]at h;simp only at h;cases l:Nat.beq (P.cellsOf F.type) c.len with
    |false=>rw[l]at h;cases h
    |true=>
     rw[l]at h;simp only[aJ]at h;have s:=bc l;cases p:qh P n g (a+c.len)with
     |none=>rw[p]at h;cases h
     |some d=>rw[p]at h;have h:=aG h;subst h;obtain⟨x,q⟩:=r F (by simp);obtain⟨_,C,X,v,z⟩:=yV n F.type c b _ x m q;obtain⟨Y,y,A⟩:=xh n g (a+c.len) d b i p (λf t=>r f (by simp[t]));refine⟨nu c d X Y,DA c d a X Y (ul c a 0 X (λk B=>?_) v) y,CP c d X Y z A⟩;simp_all
end
end
end Go.R
namespace Go.R
open Go.WideShapes Go.ChangeShapes
def zG(P:Program)(t:Nat):Option Sh:=
 match Bg P 40 t with
 |some a=>match P.underlying t with
  |some (.struct _)=>some (.agg a.ks)
  |_=>match a with
   |.cons b .nil=>some (.one (.val b))
   |_=>none
 |none=>none
def Fq:KV real->Prop
 |⟨.val t,x⟩=>t.wf x
 |⟨.arr ..,_⟩=>True
 |⟨.mp _,_⟩=>True
def fE.wf(ks:List K)(x:fE real ks):Prop:=∀v∈bJ ks x,Fq v
section
variable {P:Program}{w:World}{ω:aq}
def wY:∀(d:ar) (x:d.T) (g:Nat->Option Value) (j b:Nat) (a:List Value),d.R w ω (λ_=>.bQ) g j x->(∀k,k<d.len->g (j+k)=a[k]?)->a.length=d.len->fp w ω b (Bf (A:=real) d x) a
 |.nil,_,_,_,_,a,_,_,c=>by have:a=[]:=cK.1 c;subst this;trivial
 |.cons t ts,x,g,j,b,a,h,i,c=>by
  match a,c with
  |u::a,c=>
   obtain⟨⟨v,e,m⟩,n⟩:=h;have f:=i 0 (by simp[ar.len]);simp at f;rw[f]at e;injection e with e
   subst e;refine⟨m,wY ts _ g (j+1) (b+1) a n (λk l=>?_) (by simpa[ar.len] using c)⟩;have:=i (k+1) (by simp[ar.len,l])
   grind
  |[],c=>simp[ar.len]at c
def yo:∀(a:ar) (x:a.T),a.wf x->∀v∈Bf (A:=real) a x,Fq v
 |.nil,_,_,v,b=>by cases b
 |.cons t ts,x,h,v,b=>by
  cases b with
  |head=>exact h.1
  |tail _ c=>exact yo ts _ h.2 v c
def xg:∀(ks:List K) (a:List (KV real)),a.map (·.1)=ks->∃x:fE real ks,bJ ks x=a
 |[],[],_=>⟨(),rfl⟩
 |[],_::_,h=>by cases h
 |_::_,[],h=>by cases h
 |k::ks,⟨e,y⟩::a,h=>by simp only[cR,sB]at h;obtain⟨b,c⟩:=h;subst b;obtain⟨x,d⟩:=xg ks a c;exact⟨(y,x),by simp only[bJ];rw[d]⟩
variable {H:Type}{enc:TypeId×Value->H}{base:Nat}{spare:Nat->Bool}{held:Bool}{r:Reach}
def Bw{t F:Nat}{v:Value}{d:DataW H}{p:List MemPlace}{l:Sh}(b:Nat)(a:zG P t=some l)(u:Value.okWide P w r F t v)(h:DataW.Trod enc P w base spare held t v d p):
  ∃m:List (KV real),AX w aq.ig b l m v/\m.map (·.1)=l.ks/\∀x∈m,Fq x:=by
 unfold zG at a;obtain⟨s,J⟩:=h;cases C:Bg P 40 t with
 |none=>rw[C]at a;cases a
 |some i=>
  rw[C]at a;obtain⟨L,G,X,I,E⟩:=yV 40 t i s v.cells.toList _ C J;have g:fp w aq.ig b (Bf (A:=real) i X) v.cells.toList:=wY i X _ 0 b _ I (λk _=>by rw[bC]) G;have single:∀f,i=.cons f .nil->(v.cells = #[v])->Sh.one (.val f)=l->∃m:List (KV real),AX w aq.ig b l m v/\m.map (·.1)=l.ks/\∀x∈m,Fq x:=by intro f q z B;subst q;subst B;rw[z]at g;exact⟨_,⟨_,rfl,g.1⟩,rfl,yo _ X E⟩
  cases o:P.underlying t with
  |none=>grind[Bg]
  |some D=>
   rw[o]at a;have j:(∃y,D=.struct y)\/(∃f,i=.cons f .nil/\Sh.one (.val f)=l/\v.cells = #[v]):=by
    cases D with
    |struct y=>exact .inl ⟨y,rfl⟩
    |int k=>
     obtain⟨n,rfl⟩:=okWide_int o u;match i,a with
     |.cons f .nil,a=>exact .inr ⟨f,rfl,aG a,rfl⟩
    |bool=>
     obtain⟨n,rfl⟩:=okWide_bool o u;match i,a with
     |.cons f .nil,a=>exact .inr ⟨f,rfl,aG a,rfl⟩
    |string=>
     obtain⟨n,rfl⟩:=okWide_string o u;match i,a with
     |.cons f .nil,a=>exact .inr ⟨f,rfl,aG a,rfl⟩
    |slice e=>
     obtain⟨K,n,c,rfl⟩:=okWide_slice o u;match i,a with
     |.cons f .nil,a=>exact .inr ⟨f,rfl,aG a,rfl⟩
    |_=>grind[Bg]
   rcases j with ⟨y,rfl⟩|⟨f,q,z,B⟩
   .have a:=aG a;subst a;obtain⟨arr,q,_⟩:=okWide_struct o u;subst q;refine⟨Bf (A:=real) i X,⟨arr.toList,by simp,?_⟩,uL _ _,yo _ X E⟩;exact g
   .exact single f q B z
def rN(P:Program):List Nat->Option (List Sh)
 |[]=>some []
 |t::ts=>match zG P t,rN P ts with
  |some s,some r=>some (s::r)
  |_,_=>none
def sW:∀(ts:List Nat) (g:List Value) (l:List (DataW H)) (y:List MemPlace) (c:List Sh) (b i:Nat),rN P ts=some c->(∀(j:Nat) t v,ts[j]? = some t->g[j]? = some v->Value.okWide P w r i t v)->DataW.TrodAll enc P w base spare held ts g l y ->
  ∃s:List (KV real),fI w aq.ig b c s g/\s.map (·.1)=(c.map Sh.ks).flatten/\∀x∈s,Fq x
 |[],g,l,y,c,b,i,a,_,h=>by have a:=aG a;subst a;obtain⟨rfl,rfl,rfl⟩:=trodAll_nil h;exact⟨[],⟨rfl,rfl⟩,rfl,λx C=>by cases C⟩
 |t::ts,g,l,y,c,b,i,a,B,h=>by
  simp only[rN]at a;cases k:zG P t with
  |none=>rw[k]at a;cases a
  |some E=>
   cases n:rN P ts with
   |none=>rw[k,n]at a;cases a
   |some f=>
    rw[k,n]at a;have a:=aG a;subst a;obtain⟨v,z,d,m,p,q,rfl,rfl,rfl,hd,G⟩:=trodAll_cons h;obtain⟨e,L,D,N⟩:=Bw b k (B 0 t v rfl rfl) hd;obtain⟨u,M,I,O⟩:=sW ts z m q f (b+E.width) i n (λj J K F o=>B (j+1) J K (by simpa using F) (by simpa using o)) G;have A:e.length=E.ks.length:=by rw[<-D];simp
    refine⟨e++u,⟨by grind,by grind,by grind⟩,by simp[D,I],λx C=>?_⟩
    grind
def mD{j:World}(f:RowKit.Below w.heap.size w j):∀ {ts:List Nat} {i:List Value} {c:List (DataW H)} {g:List MemPlace},DataW.TrodAll enc P w base spare held ts i c g->DataW.TrodAll enc P j base spare held ts i c g
 |[],[],[],_,h=>h
 |_::_,_::_,_::_,_,⟨a,b,⟨n,d⟩,k,e⟩=>⟨a,b,⟨n,DataW.trod_carry n _ _ _ d (λp l=>f.same (DataW.trod_lt n _ _ _ d p l))⟩,mD f k,e⟩
def DY {g:World} (j:laidOutB P=true) (k:mapsRowed P=true) (n:((List.range P.types.size).all λt=>match P.underlying t with|some (.slice e)=>decide (0<P.cellsOf e)|_=>true)=true) {ts:List Nat} (a:(ts.all λt=>decide (t<P.types.size))=true) {f:List Value} {c:List (DataW H)} {d:List MemPlace}
  (i:RowKit.Below w.heap.size w g) (h:DataW.TrodAll enc P w base (λ_=>true) true ts f c d):DataW.TrodAll enc P g base (λb=>decide (b<w.heap.size)) true ts f c d:=
 (mD i h).respare (T:=(· < P.types.size)) (kids_rows j k) (slices_full_of P n) (λt m=>bR (cg.1 a t m)) (λp l=>decide_eq_true (h.lt p l))
def EQ {f:FuncId} {F:hJ} {ts:List Nat} {n:List Value} {p:List (DataW H)} {u:List MemPlace} {b0:Nat} (B:ec P f F) (i:zQ w aq.ig) (I:rN P ts=some F.args) (S:F.args.all Sh.eG=true) (s:F.bf=[.one (.val .bool)])
  (c:∀x,fE.wf _ x->∃y,F.fn x=some y/\(bJ _ y).head? = some ⟨.val .bool,(true:Bool)⟩) (J:∀(j:Nat) t v,ts[j]? = some t->n[j]? = some v->Value.okWide P w r b0 t v) (h:DataW.TrodAll enc P w base spare held ts n p u):
  Calls P f n.toArray w λe z=>e=.returned (.bool true)/\RowKit.Below w.heap.size w z:=by
 obtain⟨N,O,M,T⟩:=sW ts n p u F.args 1 b0 I J h;obtain⟨x,K⟩:=xg _ N M;obtain⟨y,L,q⟩:=c x (by grind[fE.wf]);have C:=B.calls w aq.ig n x y i (λ_ _ _ h=>nomatch h) (λ_ _ h=>nomatch h) (by rw[K];exact O) L;refine C.mono λe z D=>?_;obtain⟨v,R,rfl,g,_,_,b,_⟩:=D;refine⟨?_,g.os,g.tape,g.output.1,g.size,λk E=>(g.block k E (.inl rfl)).1⟩;have m:(F.bf.map Sh.ks).flatten.length=1:=by rw[s];rfl
 have o:(bJ _ y).take (F.bf.map Sh.ks).flatten.length=[⟨.val .bool,(true:Bool)⟩]:=by
  rw[m];cases G:bJ _ y with
  |nil=>rw[G]at q;cases q
  |cons a l=>grind
 rw[o,s]at b;obtain⟨_,Q,d,A⟩:=b;have d:[(⟨.val .bool,(true:Bool)⟩:KV real)]=[Q]:=d;injection d with d _
 subst d;have:v=.bool true:=A;rw[this]
end
end Go.R
namespace Go.R
def big:Nat:=4611686018427387904
def body(fn:Func):Code:=fn.body.getD .skip
def vl:List (bA×hJ)->bA->Option hJ
 |[],_=>none
 |(f,F)::r,n=>bif bA.beq f n then some F else vl r n
def qc:List (Nat×dR)->Nat->Option dR
 |[],_=>none
 |(f,F)::r,n=>bif Nat.beq f n then some F else qc r n
def vf(P:Program):List (bA×hJ)->Prop
 |[]=>True
 |p::r=>ec P p.1.1 p.2/\vf P r
def rD{P:Program}:∀ {l:List (bA×hJ)},vf P l->∀f F,vl l f=some F->ec P f.1 F
 |[],_,_,_,h=>by cases h
 |(g,G)::l,b,f,F,h=>by
  simp only[vl]at h;cases a:bA.beq g f with
  |true=>
   rw[a]at h;have h:=aG h;subst h;have:=b.1
   grind[bA.eq_of_beq]
  |false=>rw[a]at h;exact rD b.2 f F h
def lp(n:Nat)(c:Code)(i:Nat):Code:=((bY n c).getD i (0,.skip)).2
def ER{P:Program}{E:Env}{b:Nat->Option dR}{l:List (Nat×Code)}(h:l=[]):e8 P E b l:=by subst h;exact λp a=>nomatch a
def yu{P:Program}{E:Env}{a:Nat->Option dR}{n:Nat}{c:Code}{l:List (Nat×Code)}{L:dR}(g:a n=some L)(h:nB P E c L)(b:e8 P E a l):e8 P E a ((n,c)::l):=by
 intro p e q f;cases e with
 |head=>grind
 |tail _ d=>exact b p d q f
def loops_eq{P:Program}{E:Env}{b:Nat->Option dR}{l a:List (Nat×Code)}(h:l=a)(c:e8 P E b a):e8 P E b l:=by rw[h];exact c
def Cf {P:Program} {E:Env} {h:bA->Option hJ} {g:Nat->Option dR} (k:bD P E) (i:∀f F,h f=some F->ec P f.1 F) {n:Nat} {c:Code} {d b:bp} {a:sL} (l:e8 P E g (bY n c))
  (B:fE real (bp.ks d)->fE real (bp.ks b)->Option (fE real (bp.ks b)⊕jX real a)) (j:∀e x,p8 E h g n c d b a e x=B e x):
  nB P E c ⟨d,b,a,λe x=>iter (B e) big x,none⟩:=
 Dl k (uc i) rfl l (λ_ _=>big) (λe x=>by show iter (B e) big x=iter (p8 E h g n c d b a e) big x;have:p8 E h g n c d b a e=B e:=funext (j e);rw[this])
def DE {P:Program} {f:FuncId} {F:hJ} {fn:Func} {c:Code} (b:P.funcs[f]? = some fn) (d:(fn.name == "runtime.NumGoroutine") = false) (e:fn.body = some c) (g:∀x, F.fn x = none):ec P f F:=⟨⟨fn,c,b,d,e⟩,λw i h x y _ _ _ _ a=>by rw[g]at a;cases a⟩
def EA{P:Program}{f:FuncId}{F:Nat->hJ}(a:ec P f (F 0))(b:∀n,ec P f (F n)->ec P f (F (n+1))):∀n,ec P f (F n)
 |0=>a
 |n+1=>b n (EA a b n)
def lets{α a:Type}(x:α)(k:α->a):a:=k x
def FL{α a:Type}{x y:α}{k:α->a}(h:x=y):lets x k=k y:=by rw[h];rfl
theorem cJ{α a:Type}{f:α->Option (α⊕a)}{n:Nat}{x:α}{b:a}(h:f x=some (.inr b)):iter f (n+1) x=some b:=by simp[iter,h]
def fz{α a:Type}{f:α->Option (α⊕a)}{n:Nat}{x y:α}(h:f x=some (.inl y)):iter f (n+1) x=iter f n y:=by simp[iter,h]
def gP{α d:Type}{f:α->Option (α⊕d)}:∀ {n m:Nat} {x:α} {b:d},iter f n x=some b->n<=m->iter f m x=some b
 |0,_,_,_,h,_=>by cases h
 |n+1,0,_,_,_,a=>absurd a (by omega)
 |n+1,m+1,x,b,h,a=>by
  simp only[iter]at h⊢;cases c:f x with
  |none=>rw[c]at h;cases h
  |some q=>
   rw[c]at h;cases q with
   |inl y=>exact gP (n:=n) (m:=m) h (by omega)
   |inr e=>exact h
def ES(P:Program)(E:Env)(n:Nat)(c:Code):List (Nat×dR)->Nat->Prop
 |[],_=>True
 |p::r,i=>nB P E (lp n c i) p.2/\ES P E n c r (i+1)
def oz:List (Nat×Code)->List (Nat×dR)->Bool
 |[],[]=>true
 |p::l,q::m=>Nat.beq p.1 q.1&&(m.all λr=>!Nat.beq q.1 r.1)&&oz l m
 |_,_=>false
def rE:∀ {l:List (Nat×Code)} {m:List (Nat×dR)},oz l m=true->∀q∈m,qc m q.1=some q.2
 |[],[],_,_,h=>nomatch h
 |[],_::_,h,_,_=>nomatch h
 |_::_,[],h,_,_=>nomatch h
 |p::l,r::m,h,q,e=>by
  simp only[oz,aQ,cg]at h;obtain⟨⟨_,b⟩,c⟩:=h;cases e with
  |head=>grind[qc,Nat.beq_refl]
  |tail _ a=>
   show(bif Nat.beq r.1 q.1 then some r.2 else qc m q.1)=_;have:=b q a;cases d:Nat.beq r.1 q.1 with
   |true=>rw[d]at this;cases this
   |false=>exact rE c q a
def Cg{P:Program}{E:Env}{n:Nat}{c:Code}{g:Nat->Option dR}:∀(l:List (Nat×Code)) (m:List (Nat×dR)) (i:Nat),(∀j p,l[j]? = some p->(bY n c).getD (i+j) (0,.skip)=p)->oz l m=true->ES P E n c m i->(∀q∈m,g q.1=some q.2)->e8 P E g l
 |[],_,_,_,_,_,_=>λp b=>nomatch b
 |_::_,[],_,_,h,_,_=>nomatch h
 |p::l,r::m,i,d,h,f,a=>by
  simp only[oz,aQ]at h;have e:p.1=r.1:=bc h.1.1;obtain⟨k,s⟩:=p;simp only at e;subst e;refine yu (a r (.head _)) ?_ (Cg l m (i+1) (λj p b=>?_) h.2 f.2 λq o=>a q (.tail _ o))
  .have:=d 0 _ rfl;have t:=f.1
   grind[lp]
  .have:=d (j+1) p (by simpa using b)
   grind
def zC{P:Program}{E:Env}{n:Nat}{c:Code}{m:List (Nat×dR)}(h:oz (bY n c) m=true)(a:ES P E n c m 0):e8 P E (qc m) (bY n c):=Cg _ m 0 (λj p b=>by grind) h a (rE h)
def E1(fn:Func)(a b:Nat)(m:List (Nat×dR)):Bool:=!(fn.name == "runtime.NumGoroutine")&&(fn.body.isSome&&(Nat.beq fn.ntmps a&&(Nat.ble b a&&oz (bY 0 (body fn)) m)))
def fk {P:Program} {E:Env} (n:bD P E) {T:List (bA×hJ)} (d:vf P T) (m:List (Nat×dR)) {f:FuncId} {ks:List Nat} {fn:Func} {F:hJ} (p:ES P E 0 (body fn) m 0) (l:P.funcs[f]? = some fn)
  (e:E1 fn E.nt F.args.length m=true)
  (a:∀x,F.fn x=exec E (av _) (tab (vl T) _) (Am (qc m) FN FR _) 0 (body fn) (uD F.args (bJ _ x)) λk s=>bif k.done then finish E (body fn) F.look F.args F.bf _ fn.results.toList s else none):vf P (((f,ks),F)::T):=by
 simp only[E1,aQ,jw]at e;obtain⟨g,b,i,j,c5⟩:=e;have o:fn.body=some (body fn):=by
  unfold body;cases h:fn.body with
  |none=>rw[h]at b;cases b
  |some c=>rfl
 exact⟨Dg n (rD d) l g o (bc i) (bn j) (zC c5 p) a,d⟩
def lk {P:Program} {E:Env} (g:bD P E) {T:List (bA×hJ)} (h:vf P T) {n:Nat} {c:Code} {d b:bp} {a:sL} (m:List (Nat×dR)) (j:ES P E n c m 0) (i:oz (bY n c) m=true)
  {B:fE real (bp.ks d)->fE real (bp.ks b)->Option (fE real (bp.ks b)⊕jX real a)} (f:∀e x,p8 E (vl T) (qc m) n c d b a e x=B e x):
  nB P E c ⟨d,b,a,λe x=>iter (B e) big x,none⟩:=
 Cf g (rD h) (zC i j) B f
def FT{n:Int}(a:-9223372036854775808<=n)(b:n<=9223372036854775807):IntKind.i64.wrap n=n:=IntWalk.i64_in n ⟨a,b⟩
def sO{a b:Int}(c:-9223372036854775808<=a+b)(d:a+b<=9223372036854775807):aa .add .i64 a b=a+b:=FT c d
def vm{a b:Int}(c:-9223372036854775808<=a-b)(d:a-b<=9223372036854775807):aa .sub .i64 a b=a-b:=FT c d
def Fh{a b:Int}(c:-9223372036854775808<=a*b)(d:a*b<=9223372036854775807):aa .mul .i64 a b=a*b:=FT c d
def eW{n:Nat}(h:n<1099511627776):aa .add .i64 (n:Int) 1=((n+1:Nat):Int):=by rw[sO] <;> omega
def Fj{n:Nat}(h:n<1099511627776):aa .sub .i64 ((n+1:Nat):Int) 1=(n:Int):=by rw[vm] <;> omega
def EG(a b:Nat):ak .lss (a:Int) (b:Int)=decide (a<b):=by simp[ak]
def bP{α:Type}(a:Nat)(l:List α):ak .lss (a:Int) (bw l)=decide (a<l.length):=by simp[ak,bw]
theorem dX{α:Type}(l:List α)(n:Nat):aZ l (n:Int)=decide (n<l.length):=by simp[aZ]
def Di{α:Type}{l:List α}{n:Nat}(h:n<l.length):aZ l (n:Int)=true:=by grind[dX]
def cw{α:Type}(z:α)(l:List α)(n:Nat):ae z l (n:Int)=l.getD n z:=by simp[ae]
def jt{α:Type}(l:List α)(n:Nat)(y:α):cS l (n:Int) y=l.set n y:=by simp[cS]
def EH{α:Type}(n:Nat)(y:α):nw (n:Int) y=List.replicate n y:=by simp[nw]
def C3{α:Type}{l:List α}(h:l.length<=1073741824):lu (bw l)=true:=by
 grind[lu,bw,limit]
def i7{n:Nat}(h:n<1099511627776):n<big:=by
 grind[big]
section
variable {X Y:Type}{body:X->Option (X⊕Y)}
def tH(b:Nat->X)(len:Nat)(g:Nat->Y)(a:∀n,n<len->(body (b n)=some (.inl (b (n+1)))/\g n=g (n+1))\/body (b n)=some (.inr (g n)))(c:body (b len)=some (.inr (g len))):
  ∀(k n:Nat),n+k=len->iter body (k+1) (b n)=some (g n)
 |0,n,h=>by
  grind[cJ]
 |k+1,n,h=>by
  rcases a n (by omega)with ⟨d,e⟩|d
  .rw[fz d,e];exact tH b len g a c k (n+1) (by omega)
  .exact cJ d
def xw(b:Nat->X)(len:Nat)(d:len<1099511627776)(g:Nat->Y)(a:∀n,n<len->(body (b n)=some (.inl (b (n+1)))/\g n=g (n+1))\/body (b n)=some (.inr (g n)))(c:body (b len)=some (.inr (g len))):iter body big (b 0)=some (g 0):=gP (tH b len g a c len 0 (by omega)) (i7 d)
def lc(d:Nat->X)(len:Nat)(c:len<1099511627776)(y:Y)(a:∀n,n<len->body (d n)=some (.inl (d (n+1))))(b:body (d len)=some (.inr y)):iter body big (d 0)=some y:=xw d len c (λ_=>y) (λn e=>.inl ⟨a n e,rfl⟩) b
def bO(ok:Nat->Bool):Nat->Nat->Bool
 |_,0=>true
 |n,k+1=>ok n&&bO ok (n+1) k
def wN(c:Nat->X)(len:Nat)(b:len<1099511627776)(ok:Nat->Bool)(yes no:Y)(d:∀n,n<len->body (c n)=some (bif ok n then .inl (c (n+1))else .inr no))(a:body (c len)=some (.inr yes)):
  iter body big (c 0)=some (bif bO ok 0 len then yes else no):=by
 have:=xw c len b (λn=>bif bO ok n (len-n)then yes else no) (λn f=>?_) (by simpa[bO] using a)
 .simpa using this
 .have e:len-n=(len-(n+1))+1:=by omega
  grind[bO]
end
def sD{ok ok':Nat->Bool}:∀(k n:Nat),(∀m,n<=m->m<n+k->ok m=ok' m)->bO ok n k=bO ok' n k
 |0,_,_=>rfl
 |k+1,n,h=>by simp only[bO];rw[h n (by omega) (by omega),sD k (n+1) λm a b=>h m (by omega) (by omega)]
def iW{ok:Nat->Bool}:∀(k n:Nat),bO ok n k=true↔∀m,n<=m->m<n+k->ok m=true
 |0,n=>⟨λ_ m b a=>absurd a (by omega),λ_=>rfl⟩
 |k+1,n=>by
  simp only[bO,aQ];rw[iW k (n+1)]
  grind
def DP{α:Type}(l:List α)(z:α){n:Nat}(h:n<l.length):(l.take n++List.replicate (l.length-n) z).set n (l.getD n z)=l.take (n+1)++List.replicate (l.length-(n+1)) z:=by
 have a:(l.take n).length=n:=by rw[jS];omega
 have e:l.length-n=(l.length-(n+1))+1:=by omega
 rw[List.set_append,dS (by omega),a,sA,e,List.replicate_succ,List.set_cons_zero,List.take_add_one,je]
 grind
def DF{α:Type}(l:List α)(z:α){n:Nat}(h:n<=l.length):(l.take n++List.replicate (l.length-n) z).length=l.length:=by
 grind
def EE{α:Type}{l:List α}{n:Nat}(h:n<l.length)(z z':α):l.getD n z=l.getD n z':=by
 grind
def jE{α a:Type}(x:α)(k:α->a):lets x k=k x:=rfl
def cP{α:Type}{l:List α}{n:Nat}(h:n<l.length)(y z:α):(l.set n y).getD n z=y:=by
 grind
def getD_set_ne{α:Type}{l:List α}{n m:Nat}(h:n≠m)(y z:α):(l.set n y).getD m z=l.getD m z:=by
 grind
def uI{α:Type}(l:List α)(n:Nat)(y:α)(m:Nat):aZ (l.set n y) (m:Int)=decide (m<l.length):=by rw[dX,gf]
def qA {α β X Y:Type} {body:X->Option (X⊕Y)} (l:List α) (z:α) (g:l.length<1099511627776) (f:β->α->β) (h:β->Nat->X) (b:Nat->β->Prop) (fin:β->Y)
  (i:∀n a,n<l.length->b n a->body (h a n)=some (.inl (h (f a (l.getD n z)) (n+1)))/\b (n+1) (f a (l.getD n z))) (k:∀a,b l.length a->body (h a l.length)=some (.inr (fin a))) (c:β) (m:b 0 c):
  iter body big (h c 0)=some (fin (l.foldl f c))/\b l.length (l.foldl f c):=by
 have j:∀n,n<l.length->(l.take (n+1)).foldl f c=f ((l.take n).foldl f c) (l.getD n z):=by
  grind[List.take_add_one]
 have e:∀n,n<=l.length->b n ((l.take n).foldl f c):=by
  intro n;induction n with
  |zero=>intro _;simpa using m
  |succ n p=>grind
 have d:=e l.length (az _);rw[List.take_length]at d;refine⟨?_,d⟩;have:=lc (body:=body) (λn=>h ((l.take n).foldl f c) n) l.length g (fin (l.foldl f c)) (λn o=>by
  grind) (by
  grind)
 simpa using this
def Bc{α β Y:Type}(step:β->α->β⊕Y)(fin:β->Y):List α->β->Y
 |[],b=>fin b
 |a::l,b=>match step b a with
  |.inl c=>Bc step fin l c
  |.inr y=>y
def xu{α:Type}{l:List α}{n:Nat}(h:n<l.length)(z:α):l.drop n=l.getD n z::l.drop (n+1):=by
 grind[List.drop_eq_getElem_cons]
def mA {α β X Y:Type} {body:X->Option (X⊕Y)} (l:List α) (z:α) (f:β->Nat->X) (step:β->α->β⊕Y) (fin:β->Y) (c:Nat->β->Prop)
  (d:∀n a,n<l.length->c n a->body (f a n)=some (match step a (l.getD n z)with |.inl b=>.inl (f b (n+1)) |.inr y=>.inr y)/\∀b,step a (l.getD n z)=.inl b->c (n+1) b)
  (e:∀a,c l.length a->body (f a l.length)=some (.inr (fin a))):∀(k n:Nat) (b:β),n+k=l.length->c n b->iter body (k+1) (f b n)=some (Bc step fin (l.drop n) b)
 |0,n,b,p,g=>by
  have:n=l.length:=by omega
  subst this;rw[List.drop_length];exact cJ (e b g)
 |k+1,n,b,p,g=>by
  have j:n<l.length:=by omega
  obtain⟨i,o⟩:=d n b j g;rw[xu j z];simp only[Bc];cases m:step b (l.getD n z)with
  |inl h=>rw[m]at i;rw[fz i];exact mA l z f step fin c d e k (n+1) h (by omega) (o h m)
  |inr y=>grind[cJ]
def DK {α β X Y:Type} {body:X->Option (X⊕Y)} (l:List α) (z:α) (f:l.length<1099511627776) (g:β->Nat->X) (step:β->α->β⊕Y) (fin:β->Y) (c:Nat->β->Prop)
  (d:∀n a,n<l.length->c n a->body (g a n)=some (match step a (l.getD n z)with |.inl b=>.inl (g b (n+1)) |.inr y=>.inr y)/\∀b,step a (l.getD n z)=.inl b->c (n+1) b)
  (e:∀a,c l.length a->body (g a l.length)=some (.inr (fin a))) (h:β) (i:c 0 h):iter body big (g h 0)=some (Bc step fin l h):=
 gP (mA l z g step fin c d e l.length 0 h (by omega) i) (i7 f)
def C2{X Y:Type}{body:X->Option (X⊕Y)}(d:Nat->X)(len:Nat)(c:len<1099511627776)(ok:Nat->Bool)(yes:Y)(no:Nat->Y)(a:∀n,n<len->body (d n)=some (bif ok n then .inl (d (n+1))else .inr (no n)))(b:body (d len)=some (.inr yes)):
  ∃y,iter body big (d 0)=some y/\((bO ok 0 len=true/\y=yes)\/(bO ok 0 len=false/\∃n,n<len/\y=no n/\ok n=false)):=by
 have g:∀(k n:Nat),n+k=len->∃y,iter body (k+1) (d n)=some y/\((bO ok n k=true/\y=yes)\/(bO ok n k=false/\∃m,m<len/\y=no m/\ok m=false)):=by
  intro k;induction k with
  |zero=>
   intro n j;have:n=len:=by omega
   subst this;exact⟨yes,cJ b,.inl ⟨rfl,rfl⟩⟩
  |succ k l=>
   intro n j;have f:=a n (by omega);cases e:ok n with
   |true=>rw[e]at f;obtain⟨y,h,i⟩:=l (n+1) (by omega);simp_all[fz,bO]
   |false=>rw[e]at f;exact⟨no n,cJ f,.inr ⟨by grind[bO],n,by omega,rfl,e⟩⟩
 obtain⟨y,h,i⟩:=g len 0 (by omega);exact⟨y,gP h (i7 c),i⟩
end Go.R

