import Derived.Test.YtdbcclejeoljoaaGreatDoorRD
import Derived.OpenShut
import Derived.ChangeArms
import Derived.Below
import Derived.ChangeOld
import Derived.WideShapes
import Derived.ChangeShapes
import Derived.ReadAgain
import Derived.IntWalk
/- An abstract interpreter over the code of Go functions, proved sound once: what it answers, the code computes. Conditions: none. -/
set_option linter.all false
set_option maxRecDepth 4000
namespace Go.R
def yW:Ty->Value->Bool
 |.int k,.int a n=>decide (k=a)&&decide (n=0)
 |.bool,.bool b=>!b
 |.str,.string s=>Nat.beq s.size 0
 |.sl _ _,.slice none 0 0=>true
 |.map _,.map none=>true
 |_,_=>false
def qz:ar->List Value->Bool
 |.nil,[]=>true
 |.cons t ts,v::a=>yW t v&&qz ts a
 |_,_=>false
def AV:∀(t:Ty) (v:Value),yW t v=true->v=zeroOf t:=by
 intro t v h;unfold yW at h;split at h
 .rw[aQ]at h;rw[ck h.1,ck h.2];rfl
 .rename_i b;cases b with
  |true=>cases h
  |false=>rfl
 .rename_i s;have a:s.size=0:=bn h;show Value.string s=Value.string ByteArray.empty;congr 1;obtain⟨d⟩:=s;have:d = #[]:=za a;subst this;rfl
 .rfl
 .rfl
 .cases h
def sx:∀(ts:ar) (a:List Value),qz ts a=true->a=gR ts
 |.nil,[],_=>rfl
 |.nil,_::_,h=>by cases h
 |.cons _ _,[],h=>by cases h
 |.cons t ts,v::a,h=>by simp only[qz,aQ]at h;rw[AV t v h.1,sx ts a h.2];rfl
def qo(P:Program):List Field->List (Nat×Nat×Bool)->Bool
 |[],[]=>true
 |F::c,q::d=>Nat.beq F.offset q.1&&(match P.info? F.type,P.underlying F.type with
  |some a,some b=>Nat.beq a.size q.2.1&&Nat.ble 1 a.size&&(b.isRow==q.2.2)&&(q.2.2||Nat.beq q.2.1 1)
  |_,_=>false)&&qo P c d
 |_,_=>false
def qO{P:Program}:∀(c:List Field) (d:List (Nat×Nat×Bool)),qo P c d=true->c.length=d.length/\∀(f:Nat) (q:Nat×Nat×Bool),d[f]? = some q->∃(F:Field) (b:TypeInfo) (g:TypeDesc),c[f]? = some F/\F.offset=q.1/\P.info? F.type=some b/\b.size=q.2.1/\0<b.size/\P.underlying F.type=some g/\g.isRow=q.2.2/\(q.2.2=false->q.2.1=1)
 |[],[],_=>⟨rfl,by simp⟩
 |[],_::_,h=>by cases h
 |_::_,[],h=>by cases h
 |F::c,q::d,h=>by
  simp only[qo,aQ]at h;obtain⟨⟨p,a⟩,r⟩:=h;obtain⟨t,u⟩:=qO c d r;refine⟨by simp[t],λf s j=>?_⟩;cases f with
  |zero=>
   simp at j;subst j;cases i:P.info? F.type with
   |none=>rw[i]at a;cases a
   |some b=>
    cases k:P.underlying F.type with
    |none=>rw[i,k]at a;cases a
    |some g=>rw[i,k]at a;simp only[aQ]at a;obtain⟨⟨⟨m,n⟩,o⟩,l⟩:=a;refine⟨F,b,g,rfl,bn p,i,bn m,dS n,k,eq_of_beq o,λe=>?_⟩;rw[e,xC]at l;exact bn l
  |succ f=>simpa using u f s (by simpa using j)
def jo:ar->TypeDesc->Bool
 |.cons (.int k) .nil,.int b=>decide (k=b)
 |.cons (.int _) .nil,_=>false
 |.cons .bool .nil,.bool=>true
 |.cons .bool .nil,_=>false
 |.cons .str .nil,.string=>true
 |.cons .str .nil,_=>false
 |.cons (.sl e _) .nil,.slice a=>Nat.beq e a
 |.cons (.sl _ _) .nil,_=>false
 |_,_=>true
def BJ(P:Program)(t:Nat)(i:TI):Bool:=
 match P.info? t,P.underlying t with
 |some I,some d=>
  Nat.beq I.size i.cs.len&&(Nat.beq I.bytes i.bytes&&(Nat.ble 1 i.bytes&&Nat.ble i.bytes 65536)) &&
  (match I.zero with|some z=>qz i.cs z.cells.toList|none=>false) &&
  ((d.isRow==i.agg)&&(i.agg||Nat.beq i.cs.len 1)) &&
  (match d with |.struct b=>!i.agg||qo P b.toList i.mh|_=>!i.agg) &&
  (match i.el with|none=>true|some e=>(match d with |.slice a=>Nat.beq a e|_=>false)) &&
  (i.agg||jo i.cs d)
 |_,_=>false
def j3{a:ar}{d:TypeDesc}(h:jo a d=true):(∀k,a=.cons (.int k) .nil->d=.int k)/\(a=.cons .bool .nil->d=.bool)/\(a=.cons .str .nil->d=.string)/\(∀e b,a=.cons (.sl e b) .nil->d=.slice e):=by
 refine⟨λk e=>?_,λe=>?_,λe=>?_,λc b e=>?_⟩
 .subst e;cases d <;> simp only[jo]at h <;> first|cases h|skip
  rw[ck h]
 .subst e;cases d <;> simp only[jo]at h <;> first|rfl|cases h
 .subst e;cases d <;> simp only[jo]at h <;> first|rfl|cases h
 .subst e;cases d <;> simp only[jo]at h <;> first|cases h|skip
  rw[bn h]
def BK{P:Program}{t:Nat}{i:TI}(h:BJ P t i=true):∃I d,vu P t i I d:=by
 unfold BJ at h;cases m:P.info? t with
 |none=>rw[m]at h;cases h
 |some I=>
  cases o:P.underlying t with
  |none=>rw[m,o]at h;cases h
  |some d=>
   rw[m,o]at h;simp only[aQ]at h;obtain⟨⟨⟨⟨⟨⟨v,w,x,y⟩,g⟩,A,p⟩,j⟩,l⟩,c⟩:=h;refine⟨I,d,?_⟩;have n:i.agg=false->jo i.cs d=true:=λe=>by rw[e,xC]at c;exact c
   exact
   {info:=m
    zO:=o
    size:=bn v
    bytes:=bn w
    bpos:=⟨dS x,dS y⟩
    zero:=by
     cases r:I.zero with
     |none=>rw[r]at g;cases g
     |some z=>rw[r]at g;exact⟨z,rfl,sx _ _ g⟩
    row:=eq_of_beq A
    one:=λe=>by rw[e,xC]at p;exact bn p
    mh:=λe=>by
     cases d with
     |struct u=>simp only[e,fu,xC]at j;obtain⟨D,E⟩:=qO _ _ j;exact⟨u,rfl,by simpa using D,λf q C=>by simpa using E f q C⟩
     |_=>rw[e]at j;cases j
    el:=λe B=>by
     rw[B]at l;cases d <;> simp only at l <;> first|cases l|skip
     rw[bn l]
    El:=λk a b=>(j3 (n b)).1 k a
    DD:=λa b=>(j3 (n b)).2.1 a
    ED:=λa b=>(j3 (n b)).2.2.1 a
    IG:=λe s a b=>(j3 (n b)).2.2.2 e s a }
def wM:List (Nat×TI)->Nat->Option TI
 |[],_=>none
 |(t,i)::r,n=>bif Nat.beq t n then some i else wM r n
def tG:∀ {l:List (Nat×TI)} {n:Nat} {i:TI},wM l n=some i->(n,i)∈l
 |[],_,_,h=>by cases h
 |(t,j)::r,n,i,h=>by
  simp only[wM]at h;cases a:Nat.beq t n with
  |true=>rw[a]at h;have h:=aG h;subst h;rw[bn a];simp
  |false=>rw[a]at h;exact gL _ (tG h)
def D2(P:Program)(l:List (Nat×TI)):Bool:=l.all λp=>BJ P p.1 p.2
def zA:List (Nat×IntKind)->Nat->Option IntKind
 |[],_=>none
 |(t,i)::r,n=>bif Nat.beq t n then some i else zA r n
def D4(P:Program)(t:Nat)(k:IntKind):Bool:=
 match P.underlying t with
 |some (.map d a)=>(match P.underlying d with|some (.int c)=>decide (c=k)|_=>false)&&(match P.info? a with|some I=>(match I.zero with|some (.bool b)=>!b|_=>false)|none=>false)
 |_=>false
def zm{P:Program}:∀ {l:List (Nat×IntKind)} {t:Nat} {k:IntKind},(l.all λp=>D4 P p.1 p.2)=true->zA l t=some k->∃e d I,P.underlying t=some (.map e d)/\P.underlying e=some (.int k)/\P.info? d=some I/\I.zero=some (.bool false)
 |[],_,_,_,h=>by cases h
 |(q,s)::r,t,k,g,h=>by
  rw[oo,aQ]at g;simp only[zA]at h;cases i:Nat.beq q t with
  |false=>rw[i]at h;exact zm g.2 h
  |true=>
   rw[i]at h;have h:=aG h;subst h;obtain rfl:=bn i;have c:=g.1;unfold D4 at c;split at c
   .rename_i e d n;rw[aQ]at c;obtain⟨f,a⟩:=c;split at f
    .rename_i u m;obtain rfl:=ck f;split at a
     .rename_i I j;split at a
      .rename_i b o;cases b with
       |true=>cases a
       |false=>exact⟨e,d,I,n,m,j,o⟩
      .cases a
     .cases a
    .cases f
   .cases c
def E3{P:Program}{l:List (Nat×TI)}(o:P.follows .mixedOrders=true)(h:D2 P l=true){f:List Nat}(c:(f.all λt=>yc P (wM l) t)=true){j:List (Nat×IntKind)}(e:(j.all λp=>D4 P p.1 p.2)=true)(E:Env)(a:E.ti=wM l)(b:∀t,E.Fx t=f.any (Nat.beq t))(d:E.mp=zA j):bD P E where
 mo:=o
 GH t k ht:=by rw[d]at ht;exact zm e ht
 ti t i hi:=by rw[a]at hi;exact BK (ed.1 h (t,i) (tG hi))
 eqs t i hi ht op x y us vs w:=by rw[b t]at ht;obtain⟨s,m,n⟩:=qF.1 ht;have:=bn n;subst this;rw[a]at hi;intro g q r;have:=D9 (ed.1 c _ m) hi op x y us vs w g q r;rcases g with rfl|rfl <;> exact this
def ar.iP:ar->ar->ar
 |.nil,d=>d
 |.cons t ts,d=>.cons t (ts.iP d)
def nu:(c d:ar)->c.T->d.T->(c.iP d).T
 |.nil,_,_,y=>y
 |.cons _ ts,d,x,y=>kZ (kp x) (nu ts d (jP x) y)
def Bv:∀(c d:ar),(c.iP d).len=c.len+d.len
 |.nil,d=>by simp[ar.iP,ar.len]
 |.cons _ ts,d=>by simp[ar.iP,ar.len,Bv ts d];omega
mutual
def Ty.wf:(t:Ty)->t.T->Prop
 |.int k,x=>(Lit.int k x).wf=true
 |.bool,_=>True
 |.str,x=>ByteArray.size x<=maxLen
 |.map _,_=>True
 |.sl _ a,x=>List.length x<=maxLen/\∀y,List.Mem y x->ar.wf a y
def ar.wf:(a:ar)->a.T->Prop
 |.nil,_=>True
 |.cons t ts,x=>Ty.wf t (kp x)/\ar.wf ts (jP x)
end
def CP:∀(c d:ar) (x:c.T) (y:d.T),c.wf x->d.wf y->(c.iP d).wf (nu c d x y)
 |.nil,_,_,_,_,h=>h
 |.cons t ts,d,x,y,h,a=>by
  have b:kp (kZ (t:=t) (ts:=ts.iP d) (kp x) (nu ts d (jP x) y))=kp x:=kI _ _;have e:jP (kZ (t:=t) (ts:=ts.iP d) (kp x) (nu ts d (jP x) y))=nu ts d (jP x) y:=kK _ _;refine⟨?_,?_⟩
  .show t.wf (kp (kZ (kp x) (nu ts d (jP x) y)));rw[b];exact h.1
  .show(ts.iP d).wf (jP (kZ (kp x) (nu ts d (jP x) y)));rw[e];exact CP ts d _ y h.2 a
section
variable {P:Program}{w:World}{ω:aq}
def DA{a:Nat->Md}{g:Nat->Option Value}:∀(c d:ar) (j:Nat) (x:c.T) (y:d.T),c.R w ω a g j x->d.R w ω a g (j+c.len) y->(c.iP d).R w ω a g j (nu c d x y)
 |.nil,_,_,_,_,_,h=>h
 |.cons t ts,d,j,x,y,h,b=>by
  have e:kp (kZ (t:=t) (ts:=ts.iP d) (kp x) (nu ts d (jP x) y))=kp x:=kI _ _;have f:jP (kZ (t:=t) (ts:=ts.iP d) (kp x) (nu ts d (jP x) y))=nu ts d (jP x) y:=kK _ _;obtain⟨⟨v,i,k⟩,l⟩:=h;refine⟨⟨v,i,?_⟩,?_⟩
  .show t.R w ω (a j) v (kp (kZ (kp x) (nu ts d (jP x) y)));rw[e];exact k
  .show(ts.iP d).R w ω a g (j+1) (jP (kZ (kp x) (nu ts d (jP x) y)));rw[f];refine DA ts d (j+1) _ y l ?_;have:j+(ar.cons t ts).len=j+1+ts.len:=by simp[ar.len];omega
   rw[<-this];exact b
def ul{g b:Nat->Option Value}:∀(c:ar) (j a:Nat) (x:c.T),(∀k,k<c.len->g (j+k)=b (a+k))->c.R w ω (λ_=>.bQ) b a x->c.R w ω (λ_=>.bQ) g j x
 |.nil,_,_,_,_,_=>trivial
 |.cons t ts,j,a,x,d,h=>by obtain⟨⟨v,f,i⟩,l⟩:=h;refine⟨⟨v,(d 0 (by simp[ar.len])).trans f,i⟩,ul ts (j+1) (a+1) _ (λk e=>?_) l⟩;have:=d (k+1) (by simp[ar.len,e]);rwa[show j+(k+1)=j+1+k by omega,show a+(k+1)=a+1+k by omega]at this
mutual
def Bg(P:Program):Nat->Nat->Option ar
 |0,_=>none
 |n+1,t=>
  match P.underlying t with
  |some (.int k)=>bif Nat.beq (P.cellsOf t) 1 then some (.cons (.int k) .nil)else none
  |some .bool=>bif Nat.beq (P.cellsOf t) 1 then some (.cons .bool .nil)else none
  |some .string=>bif Nat.beq (P.cellsOf t) 1 then some (.cons .str .nil)else none
  |some (.slice e)=>match Bg P n e with
   |some a=>bif Nat.beq (P.cellsOf t) 1&&(Nat.ble 1 a.len&&Nat.beq (P.cellsOf e) a.len)then some (.cons (.sl e a) .nil)else none
   |none=>none
  |some (.struct b)=>match qh P n b.toList 0 with
   |some a=>bif Nat.beq (P.cellsOf t) a.len then some a else none
   |none=>none
  |_=>none
def qh(P:Program):Nat->List Field->Nat->Option ar
 |_,[],_=>some .nil
 |0,_::_,_=>none
 |n+1,F::b,a=>bif Nat.beq F.offset a then
   match Bg P n F.type with
   |some c=>bif Nat.beq (P.cellsOf F.type) c.len then(qh P n b (a+c.len)).map (c.iP ·)else none
   |none=>none
  else none
end
def mapM_some{α g:Type}{f:α->Option g}:∀ {l:List α} {r:List g},l.mapM f=some r->r.length=l.length/\∀(i:Nat) (x:α),l[i]? = some x->∃y,r[i]? = some y/\f x=some y
 |[],r,h=>by simp at h;subst h;exact⟨rfl,by simp⟩
 |a::l,r,h=>by
  rw[vO]at h;cases c:f a with
  |none=>rw[c]at h;cases h
  |some b=>
   rw[c]at h;cases d:l.mapM f with
   |none=>simp[d]at h
   |some m=>
    simp[d]at h;subst h;obtain⟨j,k⟩:=mapM_some d;refine⟨by simp[j],λi x e=>?_⟩;cases i with
    |zero=>simp at e;subst e;exact⟨b,rfl,c⟩
    |succ i=>simpa using k i x (by simpa using e)
def cells?_some{a:Nat}{A:Addr}{n:Nat}{b:List Value}(h:w.cells? a A n=some b):b.length=n/\∀j,j<n->w.cell? (A.add j)=b[j]?:=by
 unfold World.cells? at h;split at h
 .obtain⟨c,d⟩:=mapM_some h;refine⟨by simpa using c,λj e=>?_⟩;obtain⟨y,f,g⟩:=d j j (by rw[xM e]);rw[f];exact g
 .cases h
def pq{α:Type}{p:Nat->α->Prop}:∀(n:Nat),(∀i,i<n->∃x,p i x)->∃l:List α,l.length=n/\∀i x,l[i]? = some x->p i x
 |0,_=>⟨[],rfl,by simp⟩
 |n+1,h=>by
  obtain⟨l,c,d⟩:=pq n (λi b=>h i (by omega));obtain⟨x,e⟩:=h n (by omega);refine⟨l++[x],by simp[c],λi y a=>?_⟩;by_cases b:i<l.length
  .rw[iV b]at a;exact d i y a
  .rw[kH (by omega)]at a;have:i-l.length=0:=by have:=(l6.1 a).1;simp at this;omega
   rw[this]at a;simp at a;subst a;have:i=n:=by omega
   rw[this];exact e
variable {H:Type}{enc:TypeId×Value->H}{base:Nat}{spare:Nat->Bool}{held:Bool}
mutual
def yV:∀(n t:Nat) (s:ar) (p:Nat) (N:List Value) (x:DataW H×List MemPlace),Bg P n t=some s->DataW.trod enc P w base spare held p t N=some x ->
  P.cellsOf t=s.len/\N.length=s.len/\∃X:s.T,s.R w aq.ig (λ_=>.bQ) (λj=>N[j]?) 0 X/\s.wf X
 |0,_,_,_,_,_,h,_=>by simp[Bg]at h
 |n+1,t,s,p,N,x,h,M=>by
  unfold Bg at h;cases C:P.underlying t with
  |none=>rw[C]at h;cases h
  |some d=>
   rw[C]at h;cases d with
   |int k=>
    simp only at h;cases a:Nat.beq (P.cellsOf t) 1 with
    |false=>rw[a]at h;cases h
    |true=>rw[a]at h;have h:=aG h;subst h;obtain⟨m,g,e2,S⟩:=DataW.trod_int C M;subst g;exact⟨bn a,rfl,(m:Int),⟨⟨_,rfl,rfl⟩,trivial⟩,S,trivial⟩
   |bool=>
    simp only at h;cases a:Nat.beq (P.cellsOf t) 1 with
    |false=>rw[a]at h;cases h
    |true=>rw[a]at h;have h:=aG h;subst h;obtain⟨m,g,e2⟩:=DataW.trod_bool C M;subst g;exact⟨bn a,rfl,(m:Bool),⟨⟨_,rfl,rfl⟩,trivial⟩,trivial,trivial⟩
   |string=>
    simp only at h;cases a:Nat.beq (P.cellsOf t) 1 with
    |false=>rw[a]at h;cases h
    |true=>rw[a]at h;have h:=aG h;subst h;obtain⟨m,g,e2,S⟩:=DataW.trod_string C M;subst g;exact⟨bn a,rfl,(m:ByteArray),⟨⟨_,rfl,rfl⟩,trivial⟩,S,trivial⟩
   |slice e=>
    simp only at h;cases V:Bg P n e with
    |none=>rw[V]at h;cases h
    |some ce=>
     rw[V]at h;simp only at h;cases a:(Nat.beq (P.cellsOf t) 1&&(Nat.ble 1 ce.len&&Nat.beq (P.cellsOf e) ce.len))with
     |false=>rw[a]at h;cases h
     |true=>
      rw[a]at h;have h:=aG h;subst h;rw[aQ,aQ]at a;have U:=bn a.2.2;have hpos:1<=ce.len:=dS a.2.1;refine⟨bn a.1,?_⟩;rcases DataW.trod_slice C M with ⟨g,_⟩|⟨A,len,cap,v,rest,m,_,g,_,_,Z,H8,hel,hrd,_⟩
      .subst g;refine⟨rfl,([]:List ce.T),⟨⟨_,rfl,none,0,0,rfl,rfl,aJ _,λhn=>absurd hn (by omega),λi _ o=>absurd o (by omega)⟩,trivial⟩,⟨kU _,λy E=>by cases E⟩,trivial⟩
      .subst g;refine⟨rfl,?_⟩;have B:∀i,i<len->∃X:ce.T,∃b:List Value,w.cells? base (A.add (i*P.cellsOf e)) (P.cellsOf e)=some b/\ce.R w aq.ig (λ_=>.bQ) (λj=>b[j]?) 0 X/\ce.wf X:=by
        intro i o;have z:=hrd i o;obtain⟨y,E⟩:=jB (l:=v) (i:=i) (by omega);rw[E]at z;cases hc:w.cells? base (A.add (i*P.cellsOf e)) (P.cellsOf e)with
        |none=>rw[hc]at z;cases z
        |some b=>rw[hc]at z;obtain⟨_,_,X,Q,hW⟩:=yV n e ce m b y V z;exact⟨X,b,rfl,Q,hW⟩
       obtain⟨l,l1,l2⟩:=pq len B;have L:0<len->A.spot=none:=by
        intro O;obtain⟨X,b,F,_⟩:=B 0 O;obtain⟨c2,G⟩:=cells?_some F;obtain⟨u,D⟩:=jB (l:=b) (i:=0) (by omega);have:=G 0 (by omega);rw[D]at this;cases K:A.spot with
        |none=>rfl
        |some q=>exfalso;unfold World.cell? at this;unfold Addr.add at this;simp[K]at this;split at this <;> simp at this
       refine⟨l,⟨⟨_,rfl,some A,len,cap,rfl,l1,Z,λO=>?_,λi ad o T=>?_⟩,trivial⟩,⟨?_,λy E=>?_⟩,trivial⟩
       .obtain⟨X,b,F,_⟩:=B 0 O;obtain⟨c2,G⟩:=cells?_some F;obtain⟨u,D⟩:=jB (l:=b) (i:=0) (by omega);have:=G 0 (by omega);rw[D]at this;obtain⟨R,ao,r⟩:=A;have K:r=none:=L O;subst K;refine⟨R,ao,rfl,rfl,?_⟩;rw[Addr.add_mid,Addr.add_mid]at this;unfold World.cell? at this;cases hh:w.heap[R]? with
        |none=>rw[hh]at this;cases this
        |some _=>exact aM hh
       .injection T with T
        subst T;obtain⟨X,Q⟩:=jB (l:=l) (i:=i) (by omega);obtain⟨b,F,c4,_⟩:=l2 i X Q;obtain⟨c2,G⟩:=cells?_some F;show ce.R w aq.ig (λ_=>.bQ) (λj=>w.cell? ⟨A.block,A.off+i*ce.len+j,none⟩) 0 (List.getD l i (jk ce));rw[getD_some Q];obtain⟨R,ao,r⟩:=A;have K:r=none:=L (by omega);subst K;refine ul ce 0 0 X (λk hk=>?_) c4;have:=G k (by omega);rw[Addr.add_mid,Addr.add_mid,U]at this;rw[bC];exact this
       .show l.length<=maxLen;rw[l1];omega
       .obtain⟨i,o⟩:=List.getElem?_of_mem (show y∈l from E);obtain⟨_,_,_,hw⟩:=l2 i y o;exact hw
   |struct fs=>
    simp only at h;cases W:qh P n fs.toList 0 with
    |none=>rw[W]at h;cases h
    |some c=>
     rw[W]at h;simp only at h;cases a:Nat.beq (P.cellsOf t) c.len with
     |false=>rw[a]at h;cases h
     |true=>
      rw[a]at h;have h:=aG h;subst h;have I:=bn a;obtain⟨xs,m,_,_,hl,J,Y⟩:=DataW.trod_struct C M;refine⟨I,hl.trans I,?_⟩;refine xh n fs.toList 0 c m N W (λf hm=>?_);obtain⟨i,o⟩:=List.getElem?_of_mem hm;have z:=Y i f (by simpa using o);have hlt:i<xs.length:=by rw[J];have:=(l6.1 o).1;simpa using this
      obtain⟨y,E⟩:=jB hlt;exact⟨y,z.trans E⟩
   |_=>cases h
def xh:∀(n:Nat) (g:List Field) (a:Nat) (e:ar) (b:Nat) (i:List Value),qh P n g a=some e->(∀f∈g,∃x:DataW H×List MemPlace,DataW.trod enc P w base spare held b f.type ((i.drop f.offset).take (P.cellsOf f.type))=some x) ->
  ∃X:e.T,e.R w aq.ig (λ_=>.bQ) (λj=>i[j]?) a X/\e.wf X
 |n,[],a,e,b,i,h,_=>by
  have h:some ar.nil=some e:=by cases n <;> exact h
  injection h with h
  subst h;exact⟨(),trivial,trivial⟩
 |0,_::_,_,_,_,_,h,_=>by simp[qh]at h
 |n+1,F::g,a,e,b,i,h,t=>by
  unfold qh at h;cases p:Nat.beq F.offset a with
  |false=>rw[p]at h;cases h
  |true=>
   rw[p]at h;simp only[az]at h;have q:=bn p;cases m:Bg P n F.type with
   |none=>rw[m]at h;cases h
   |some c=>
    rw[m]at h;simp only at h;cases l:Nat.beq (P.cellsOf F.type) c.len with
    |false=>rw[l]at h;cases h
    |true=>
     rw[l]at h;simp only[az]at h;have o:=bn l;cases r:qh P n g (a+c.len)with
     |none=>rw[r]at h;cases h
     |some d=>rw[r]at h;have h:=aG h;subst h;obtain⟨x,s⟩:=t F (by simp);obtain⟨_,C,X,y,A⟩:=yV n F.type c b _ x m s;obtain⟨Y,z,B⟩:=xh n g (a+c.len) d b i r (λf u=>t f (by simp[u]));refine⟨nu c d X Y,DA c d a X Y (ul c a 0 X (λk v=>?_) y) z,CP c d X Y A B⟩;rw[bC,o,jv v,pZ,q]
end
end
end Go.R
namespace Go.R
open Go.WideShapes Go.ChangeShapes
def zG(P:Program)(t:Nat):Option Sh:=
 match Bg P 40 t with
 |some a=>match P.underlying t with
  |some (.struct _)=>some (.agg a.ks)
  |_=>match a with
   |.cons b .nil=>some (.one (.val b))
   |_=>none
 |none=>none
def Fq:KV real->Prop
 |⟨.val t,x⟩=>t.wf x
 |⟨.arr ..,_⟩=>True
 |⟨.mp _,_⟩=>True
def fE.wf(ks:List K)(x:fE real ks):Prop:=∀v∈bJ ks x,Fq v
section
variable {P:Program}{w:World}{ω:aq}
def wY:∀(d:ar) (x:d.T) (g:Nat->Option Value) (j b:Nat) (a:List Value),d.R w ω (λ_=>.bQ) g j x->(∀k,k<d.len->g (j+k)=a[k]?)->a.length=d.len->fp w ω b (Bf (A:=real) d x) a
 |.nil,_,_,_,_,a,_,_,c=>by have:a=[]:=e9.1 c;subst this;trivial
 |.cons t ts,x,g,j,b,a,h,i,c=>by
  match a,c with
  |u::a,c=>
   obtain⟨⟨v,e,m⟩,n⟩:=h;have f:=i 0 (by simp[ar.len]);simp at f;rw[f]at e;injection e with e
   subst e;refine⟨m,wY ts _ g (j+1) (b+1) a n (λk l=>?_) (by simpa[ar.len] using c)⟩;have:=i (k+1) (by simp[ar.len,l]);rwa[show j+(k+1)=j+1+k by omega,List.getElem?_cons_succ]at this
  |[],c=>simp[ar.len]at c
def yo:∀(a:ar) (x:a.T),a.wf x->∀v∈Bf (A:=real) a x,Fq v
 |.nil,_,_,v,b=>by cases b
 |.cons t ts,x,h,v,b=>by
  cases b with
  |head=>exact h.1
  |tail _ c=>exact yo ts _ h.2 v c
def xg:∀(ks:List K) (a:List (KV real)),a.map (·.1)=ks->∃x:fE real ks,bJ ks x=a
 |[],[],_=>⟨(),rfl⟩
 |[],_::_,h=>by cases h
 |_::_,[],h=>by cases h
 |k::ks,⟨e,y⟩::a,h=>by simp only[fm,sQ]at h;obtain⟨b,c⟩:=h;subst b;obtain⟨x,d⟩:=xg ks a c;exact⟨(y,x),by simp only[bJ];rw[d]⟩
variable {H:Type}{enc:TypeId×Value->H}{base:Nat}{spare:Nat->Bool}{held:Bool}{r:Reach}
def Bw{t F:Nat}{v:Value}{d:DataW H}{p:List MemPlace}{o:Sh}(b:Nat)(a:zG P t=some o)(y:Value.okWide P w r F t v)(h:DataW.Trod enc P w base spare held t v d p):
  ∃q:List (KV real),AX w aq.ig b o q v/\q.map (·.1)=o.ks/\∀x∈q,Fq x:=by
 unfold zG at a;obtain⟨u,J⟩:=h;cases j:Bg P 40 t with
 |none=>rw[j]at a;cases a
 |some i=>
  rw[j]at a;obtain⟨L,G,X,I,E⟩:=yV 40 t i u v.cells.toList _ j J;have g:fp w aq.ig b (Bf (A:=real) i X) v.cells.toList:=wY i X _ 0 b _ I (λk _=>by rw[bC]) G;have single:∀f,i=.cons f .nil->(v.cells = #[v])->Sh.one (.val f)=o->∃q:List (KV real),AX w aq.ig b o q v/\q.map (·.1)=o.ks/\∀x∈q,Fq x:=by intro f s B C;subst s;subst C;rw[B]at g;exact⟨_,⟨_,rfl,g.1⟩,rfl,yo _ X E⟩
  cases l:P.underlying t with
  |none=>exfalso;unfold Bg at j;rw[l]at j;cases j
  |some D=>
   rw[l]at a;have m:(∃z,D=.struct z)\/(∃f,i=.cons f .nil/\Sh.one (.val f)=o/\v.cells = #[v]):=by
    cases D with
    |struct z=>exact .inl ⟨z,rfl⟩
    |int k=>
     obtain⟨n,rfl⟩:=okWide_int l y;match i,a with
     |.cons f .nil,a=>exact .inr ⟨f,rfl,aG a,rfl⟩
    |bool=>
     obtain⟨n,rfl⟩:=okWide_bool l y;match i,a with
     |.cons f .nil,a=>exact .inr ⟨f,rfl,aG a,rfl⟩
    |string=>
     obtain⟨n,rfl⟩:=okWide_string l y;match i,a with
     |.cons f .nil,a=>exact .inr ⟨f,rfl,aG a,rfl⟩
    |slice e=>
     obtain⟨K,n,c,rfl⟩:=okWide_slice l y;match i,a with
     |.cons f .nil,a=>exact .inr ⟨f,rfl,aG a,rfl⟩
    |_=>exfalso;unfold Bg at j;rw[l]at j;cases j
   rcases m with ⟨z,rfl⟩|⟨f,s,B,C⟩
   .have a:=aG a;subst a;obtain⟨arr,s,_⟩:=okWide_struct l y;subst s;refine⟨Bf (A:=real) i X,⟨arr.toList,by simp,?_⟩,uL _ _,yo _ X E⟩;exact g
   .exact single f s C B
def rN(P:Program):List Nat->Option (List Sh)
 |[]=>some []
 |t::ts=>match zG P t,rN P ts with
  |some s,some r=>some (s::r)
  |_,_=>none
def sW:∀(ts:List Nat) (k:List Value) (n:List (DataW H)) (A:List MemPlace) (e:List Sh) (b l:Nat),rN P ts=some e->(∀(j:Nat) t v,ts[j]? = some t->k[j]? = some v->Value.okWide P w r l t v)->DataW.TrodAll enc P w base spare held ts k n A ->
  ∃y:List (KV real),fI w aq.ig b e y k/\y.map (·.1)=(e.map Sh.ks).flatten/\∀x∈y,Fq x
 |[],k,n,A,e,b,l,c,_,h=>by have c:=aG c;subst c;obtain⟨rfl,rfl,rfl⟩:=trodAll_nil h;exact⟨[],⟨rfl,rfl⟩,rfl,λx f=>by cases f⟩
 |t::ts,k,n,A,e,b,l,c,C,h=>by
  simp only[rN]at c;cases m:zG P t with
  |none=>rw[m]at c;cases c
  |some E=>
   cases s:rN P ts with
   |none=>rw[m,s]at c;cases c
   |some i=>
    rw[m,s]at c;have c:=aG c;subst c;obtain⟨v,B,d,o,p,q,rfl,rfl,rfl,hd,G⟩:=trodAll_cons h;obtain⟨g,J,D,N⟩:=Bw b m (C 0 t v rfl rfl) hd;obtain⟨z,K,I,O⟩:=sW ts B o q i (b+E.width) l s (λj L M F u=>C (j+1) L M (by simpa using F) (by simpa using u)) G;have a:g.length=E.ks.length:=by rw[<-D];simp
    refine⟨g++z,⟨by rw[gV a];exact a,by rw[gV a];exact J,by rw[lY a];exact K⟩,by simp[D,I],λx f=>?_⟩;rcases cg.1 f with f|f
    .exact N x f
    .exact O x f
def mD{j:World}(f:RowKit.Below w.heap.size w j):∀ {ts:List Nat} {i:List Value} {c:List (DataW H)} {g:List MemPlace},DataW.TrodAll enc P w base spare held ts i c g->DataW.TrodAll enc P j base spare held ts i c g
 |[],[],[],_,h=>h
 |_::_,_::_,_::_,_,⟨a,b,⟨n,d⟩,k,e⟩=>⟨a,b,⟨n,DataW.trod_carry n _ _ _ d (λp l=>f.same (DataW.trod_lt n _ _ _ d p l))⟩,mD f k,e⟩
def DY {g:World} (j:laidOutB P=true) (k:mapsRowed P=true) (n:((List.range P.types.size).all λt=>match P.underlying t with|some (.slice e)=>decide (0<P.cellsOf e)|_=>true)=true) {ts:List Nat} (a:(ts.all λt=>decide (t<P.types.size))=true) {f:List Value} {c:List (DataW H)} {d:List MemPlace}
  (i:RowKit.Below w.heap.size w g) (h:DataW.TrodAll enc P w base (λ_=>true) true ts f c d):DataW.TrodAll enc P g base (λb=>decide (b<w.heap.size)) true ts f c d:=
 (mD i h).respare (T:=(· < P.types.size)) (kids_rows j k) (slices_full_of P n) (λt m=>ck (ed.1 a t m)) (λp l=>iO (h.lt p l))
def EQ {f:FuncId} {F:hJ} {ts:List Nat} {o:List Value} {q:List (DataW H)} {A:List MemPlace} {b0:Nat} (D:ec P f F) (i:zQ w aq.ig) (J:rN P ts=some F.args) (T:F.args.all Sh.eG=true) (u:F.bf=[.one (.val .bool)])
  (c:∀x,fE.wf _ x->∃y,F.fn x=some y/\(bJ _ y).head? = some ⟨.val .bool,(true:Bool)⟩) (K:∀(j:Nat) t v,ts[j]? = some t->o[j]? = some v->Value.okWide P w r b0 t v) (h:DataW.TrodAll enc P w base spare held ts o q A):
  Calls P f o.toArray w λe B=>e=.returned (.bool true)/\RowKit.Below w.heap.size w B:=by
 obtain⟨N,O,M,R⟩:=sW ts o q A F.args 1 b0 J K h;obtain⟨x,z⟩:=xg _ N M;obtain⟨y,L,m⟩:=c x (by unfold fE.wf;rw[z];exact R);have E:=D.calls w aq.ig o x y i (λ_ _ _ h=>nomatch h) (λ_ _ h=>nomatch h) (by rw[z];exact O) L;refine E.mono λe B G=>?_;obtain⟨v,S,rfl,g,_,_,b,_⟩:=G;refine⟨?_,g.os,g.tape,g.output.1,g.size,λk I=>(g.block k I (.inl rfl)).1⟩;have n:(F.bf.map Sh.ks).flatten.length=1:=by rw[u];rfl
 have p:(bJ _ y).take (F.bf.map Sh.ks).flatten.length=[⟨.val .bool,(true:Bool)⟩]:=by
  rw[n];cases s:bJ _ y with
  |nil=>rw[s]at m;cases m
  |cons a l=>rw[s]at m;simp at m;subst m;rfl
 rw[p,u]at b;obtain⟨_,Q,d,C⟩:=b;have d:[(⟨.val .bool,(true:Bool)⟩:KV real)]=[Q]:=d;injection d with d _
 subst d;have:v=.bool true:=C;rw[this]
end
end Go.R
namespace Go.R
def big:Nat:=4611686018427387904
def body(fn:Func):Code:=fn.body.getD .skip
def vl:List (bA×hJ)->bA->Option hJ
 |[],_=>none
 |(f,F)::r,n=>bif bA.beq f n then some F else vl r n
def qc:List (Nat×dR)->Nat->Option dR
 |[],_=>none
 |(f,F)::r,n=>bif Nat.beq f n then some F else qc r n
def vf(P:Program):List (bA×hJ)->Prop
 |[]=>True
 |p::r=>ec P p.1.1 p.2/\vf P r
def rD{P:Program}:∀ {l:List (bA×hJ)},vf P l->∀f F,vl l f=some F->ec P f.1 F
 |[],_,_,_,h=>by cases h
 |(g,G)::l,b,f,F,h=>by
  simp only[vl]at h;cases a:bA.beq g f with
  |true=>rw[a]at h;have h:=aG h;subst h;have:=b.1;rw[bA.eq_of_beq a]at this;exact this
  |false=>rw[a]at h;exact rD b.2 f F h
def lp(n:Nat)(c:Code)(i:Nat):Code:=((bY n c).getD i (0,.skip)).2
def ER{P:Program}{E:Env}{b:Nat->Option dR}{l:List (Nat×Code)}(h:l=[]):e8 P E b l:=by subst h;exact λp a=>nomatch a
def yu{P:Program}{E:Env}{a:Nat->Option dR}{n:Nat}{c:Code}{l:List (Nat×Code)}{L:dR}(f:a n=some L)(h:nB P E c L)(d:e8 P E a l):e8 P E a ((n,c)::l):=by
 intro p g q b;cases g with
 |head=>
  have:some L=some q:=f.symm.trans b;injection this with this
  subst this;exact h
 |tail _ e=>exact d p e q b
def loops_eq{P:Program}{E:Env}{b:Nat->Option dR}{l a:List (Nat×Code)}(h:l=a)(c:e8 P E b a):e8 P E b l:=by rw[h];exact c
def Cf {P:Program} {E:Env} {h:bA->Option hJ} {g:Nat->Option dR} (k:bD P E) (i:∀f F,h f=some F->ec P f.1 F) {n:Nat} {c:Code} {d b:bp} {a:sL} (l:e8 P E g (bY n c))
  (B:fE real (bp.ks d)->fE real (bp.ks b)->Option (fE real (bp.ks b)⊕jX real a)) (j:∀e x,p8 E h g n c d b a e x=B e x):
  nB P E c ⟨d,b,a,λe x=>iter (B e) big x,none⟩:=
 Dl k (uc i) rfl l (λ_ _=>big) (λe x=>by show iter (B e) big x=iter (p8 E h g n c d b a e) big x;have:p8 E h g n c d b a e=B e:=funext (j e);rw[this])
def DE {P:Program} {f:FuncId} {F:hJ} {fn:Func} {c:Code} (b:P.funcs[f]? = some fn) (d:(fn.name == "runtime.NumGoroutine") = false) (e:fn.body = some c) (g:∀x, F.fn x = none):ec P f F:=⟨⟨fn,c,b,d,e⟩,λw i h x y _ _ _ _ a=>by rw[g]at a;cases a⟩
def EA{P:Program}{f:FuncId}{F:Nat->hJ}(a:ec P f (F 0))(b:∀n,ec P f (F n)->ec P f (F (n+1))):∀n,ec P f (F n)
 |0=>a
 |n+1=>b n (EA a b n)
def lets{α a:Type}(x:α)(k:α->a):a:=k x
def FL{α a:Type}{x y:α}{k:α->a}(h:x=y):lets x k=k y:=by rw[h];rfl
def cJ{α a:Type}{f:α->Option (α⊕a)}{n:Nat}{x:α}{b:a}(h:f x=some (.inr b)):iter f (n+1) x=some b:=by simp[iter,h]
def fz{α a:Type}{f:α->Option (α⊕a)}{n:Nat}{x y:α}(h:f x=some (.inl y)):iter f (n+1) x=iter f n y:=by simp[iter,h]
def gP{α d:Type}{f:α->Option (α⊕d)}:∀ {n m:Nat} {x:α} {b:d},iter f n x=some b->n<=m->iter f m x=some b
 |0,_,_,_,h,_=>by cases h
 |n+1,0,_,_,_,a=>absurd a (by omega)
 |n+1,m+1,x,b,h,a=>by
  simp only[iter]at h⊢;cases c:f x with
  |none=>rw[c]at h;cases h
  |some q=>
   rw[c]at h;cases q with
   |inl y=>exact gP (n:=n) (m:=m) h (by omega)
   |inr e=>exact h
def ES(P:Program)(E:Env)(n:Nat)(c:Code):List (Nat×dR)->Nat->Prop
 |[],_=>True
 |p::r,i=>nB P E (lp n c i) p.2/\ES P E n c r (i+1)
def oz:List (Nat×Code)->List (Nat×dR)->Bool
 |[],[]=>true
 |p::l,q::m=>Nat.beq p.1 q.1&&(m.all λr=>!Nat.beq q.1 r.1)&&oz l m
 |_,_=>false
def rE:∀ {l:List (Nat×Code)} {m:List (Nat×dR)},oz l m=true->∀q∈m,qc m q.1=some q.2
 |[],[],_,_,h=>nomatch h
 |[],_::_,h,_,_=>nomatch h
 |_::_,[],h,_,_=>nomatch h
 |p::l,r::m,h,q,e=>by
  simp only[oz,aQ,ed]at h;obtain⟨⟨_,b⟩,c⟩:=h;cases e with
  |head=>show(bif Nat.beq r.1 r.1 then some r.2 else qc m r.1)=_;rw[kF];rfl
  |tail _ a=>
   show(bif Nat.beq r.1 q.1 then some r.2 else qc m q.1)=_;have:=b q a;cases d:Nat.beq r.1 q.1 with
   |true=>rw[d]at this;cases this
   |false=>exact rE c q a
def Cg{P:Program}{E:Env}{n:Nat}{c:Code}{o:Nat->Option dR}:∀(l:List (Nat×Code)) (m:List (Nat×dR)) (i:Nat),(∀j p,l[j]? = some p->(bY n c).getD (i+j) (0,.skip)=p)->oz l m=true->ES P E n c m i->(∀q∈m,o q.1=some q.2)->e8 P E o l
 |[],_,_,_,_,_,_=>λp d=>nomatch d
 |_::_,[],_,_,h,_,_=>nomatch h
 |p::l,r::m,i,f,h,g,a=>by
  simp only[oz,aQ]at h;have e:p.1=r.1:=bn h.1.1;obtain⟨k,t⟩:=p;simp only at e;subst e;refine yu (a r (.head _)) ?_ (Cg l m (i+1) (λj p d=>?_) h.2 g.2 λq s=>a q (.tail _ s))
  .have:=f 0 _ rfl;have b:=g.1;unfold lp at b;rw[kE]at this;rw[this]at b;exact b
  .have:=f (j+1) p (by simpa using d);rwa[show i+1+j=i+(j+1)by omega]
def zC{P:Program}{E:Env}{n:Nat}{c:Code}{m:List (Nat×dR)}(h:oz (bY n c) m=true)(a:ES P E n c m 0):e8 P E (qc m) (bY n c):=Cg _ m 0 (λj p b=>by rw[bC,dG,b];rfl) h a (rE h)
def E1(fn:Func)(a b:Nat)(m:List (Nat×dR)):Bool:=!(fn.name == "runtime.NumGoroutine")&&(fn.body.isSome&&(Nat.beq fn.ntmps a&&(Nat.ble b a&&oz (bY 0 (body fn)) m)))
def fk {P:Program} {E:Env} (n:bD P E) {T:List (bA×hJ)} (d:vf P T) (m:List (Nat×dR)) {f:FuncId} {ks:List Nat} {fn:Func} {F:hJ} (p:ES P E 0 (body fn) m 0) (l:P.funcs[f]? = some fn)
  (e:E1 fn E.nt F.args.length m=true)
  (a:∀x,F.fn x=exec E (av _) (tab (vl T) _) (Am (qc m) FN FR _) 0 (body fn) (uD F.args (bJ _ x)) λk s=>bif k.done then finish E (body fn) F.look F.args F.bf _ fn.results.toList s else none):vf P (((f,ks),F)::T):=by
 simp only[E1,aQ,sC]at e;obtain⟨g,b,i,j,c5⟩:=e;have o:fn.body=some (body fn):=by
  unfold body;cases h:fn.body with
  |none=>rw[h]at b;cases b
  |some c=>rfl
 exact⟨Dg n (rD d) l g o (bn i) (dS j) (zC c5 p) a,d⟩
def lk {P:Program} {E:Env} (g:bD P E) {T:List (bA×hJ)} (h:vf P T) {n:Nat} {c:Code} {d b:bp} {a:sL} (m:List (Nat×dR)) (j:ES P E n c m 0) (i:oz (bY n c) m=true)
  {B:fE real (bp.ks d)->fE real (bp.ks b)->Option (fE real (bp.ks b)⊕jX real a)} (f:∀e x,p8 E (vl T) (qc m) n c d b a e x=B e x):
  nB P E c ⟨d,b,a,λe x=>iter (B e) big x,none⟩:=
 Cf g (rD h) (zC i j) B f
def FT{n:Int}(a:-9223372036854775808<=n)(b:n<=9223372036854775807):IntKind.i64.wrap n=n:=IntWalk.i64_in n ⟨a,b⟩
def sO{a b:Int}(c:-9223372036854775808<=a+b)(d:a+b<=9223372036854775807):aa .add .i64 a b=a+b:=FT c d
def vm{a b:Int}(c:-9223372036854775808<=a-b)(d:a-b<=9223372036854775807):aa .sub .i64 a b=a-b:=FT c d
def Fh{a b:Int}(c:-9223372036854775808<=a*b)(d:a*b<=9223372036854775807):aa .mul .i64 a b=a*b:=FT c d
def eW{n:Nat}(h:n<1099511627776):aa .add .i64 (n:Int) 1=((n+1:Nat):Int):=by rw[sO] <;> omega
def Fj{n:Nat}(h:n<1099511627776):aa .sub .i64 ((n+1:Nat):Int) 1=(n:Int):=by rw[vm] <;> omega
def EG(a b:Nat):ak .lss (a:Int) (b:Int)=decide (a<b):=by simp[ak]
def bP{α:Type}(a:Nat)(l:List α):ak .lss (a:Int) (bw l)=decide (a<l.length):=by simp[ak,bw]
def dX{α:Type}(l:List α)(n:Nat):aZ l (n:Int)=decide (n<l.length):=by simp[aZ]
def Di{α:Type}{l:List α}{n:Nat}(h:n<l.length):aZ l (n:Int)=true:=by rw[dX];exact iO h
def cw{α:Type}(z:α)(l:List α)(n:Nat):ae z l (n:Int)=l.getD n z:=by simp[ae]
def jt{α:Type}(l:List α)(n:Nat)(y:α):cS l (n:Int) y=l.set n y:=by simp[cS]
def EH{α:Type}(n:Nat)(y:α):nw (n:Int) y=List.replicate n y:=by simp[nw]
def C3{α:Type}{l:List α}(h:l.length<=1073741824):lu (bw l)=true:=by unfold lu bw limit;rw[aQ];exact⟨iO (by omega),iO (by omega)⟩
def i7{n:Nat}(h:n<1099511627776):n<big:=by
 have:big=4611686018427387904:=by unfold big;rfl
 omega
section
variable {X Y:Type}{body:X->Option (X⊕Y)}
def tH(c:Nat->X)(len:Nat)(g:Nat->Y)(a:∀n,n<len->(body (c n)=some (.inl (c (n+1)))/\g n=g (n+1))\/body (c n)=some (.inr (g n)))(b:body (c len)=some (.inr (g len))):
  ∀(k n:Nat),n+k=len->iter body (k+1) (c n)=some (g n)
 |0,n,h=>by
  have:n=len:=by omega
  subst this;exact cJ b
 |k+1,n,h=>by
  rcases a n (by omega)with ⟨d,e⟩|d
  .rw[fz d,e];exact tH c len g a b k (n+1) (by omega)
  .exact cJ d
def xw(b:Nat->X)(len:Nat)(d:len<1099511627776)(g:Nat->Y)(a:∀n,n<len->(body (b n)=some (.inl (b (n+1)))/\g n=g (n+1))\/body (b n)=some (.inr (g n)))(c:body (b len)=some (.inr (g len))):iter body big (b 0)=some (g 0):=gP (tH b len g a c len 0 (by omega)) (i7 d)
def lc(d:Nat->X)(len:Nat)(c:len<1099511627776)(y:Y)(a:∀n,n<len->body (d n)=some (.inl (d (n+1))))(b:body (d len)=some (.inr y)):iter body big (d 0)=some y:=xw d len c (λ_=>y) (λn e=>.inl ⟨a n e,rfl⟩) b
def bO(ok:Nat->Bool):Nat->Nat->Bool
 |_,0=>true
 |n,k+1=>ok n&&bO ok (n+1) k
def wN(d:Nat->X)(len:Nat)(c:len<1099511627776)(ok:Nat->Bool)(yes no:Y)(a:∀n,n<len->body (d n)=some (bif ok n then .inl (d (n+1))else .inr no))(b:body (d len)=some (.inr yes)):
  iter body big (d 0)=some (bif bO ok 0 len then yes else no):=by
 have:=xw d len c (λn=>bif bO ok n (len-n)then yes else no) (λn g=>?_) (by simpa[bO] using b)
 .simpa using this
 .have e:len-n=(len-(n+1))+1:=by omega
  cases f:ok n with
  |true=>exact .inl ⟨by rw[a n g,f];rfl,by simp only[e,bO,f,ow]⟩
  |false=>exact .inr (by rw[a n g,f];simp only[e,bO,f,Bool.false_and];rfl)
end
def sD{ok ok':Nat->Bool}:∀(k n:Nat),(∀m,n<=m->m<n+k->ok m=ok' m)->bO ok n k=bO ok' n k
 |0,_,_=>rfl
 |k+1,n,h=>by simp only[bO];rw[h n (by omega) (by omega),sD k (n+1) λm a b=>h m (by omega) (by omega)]
def iW{ok:Nat->Bool}:∀(k n:Nat),bO ok n k=true↔∀m,n<=m->m<n+k->ok m=true
 |0,n=>⟨λ_ m b a=>absurd a (by omega),λ_=>rfl⟩
 |k+1,n=>by
  simp only[bO,aQ];rw[iW k (n+1)];constructor
  .intro ⟨b,a⟩ m c d;rcases iA n m with h|h
   .exact a m (by omega) (by omega)
   .have:m=n:=by omega
    subst this;exact b
  .intro h;exact⟨h n (by omega) (by omega),λm b a=>h m (by omega) (by omega)⟩
def DP{α:Type}(l:List α)(z:α){n:Nat}(h:n<l.length):(l.take n++List.replicate (l.length-n) z).set n (l.getD n z)=l.take (n+1)++List.replicate (l.length-(n+1)) z:=by
 have a:(l.take n).length=n:=by rw[dB];omega
 have e:l.length-n=(l.length-(n+1))+1:=by omega
 rw[List.set_append,bc (by omega),a,pg,e,List.replicate_succ,List.set_cons_zero,List.take_add_one,iD];congr 1;rw[bR h,dG,bR h];rfl
def DF{α:Type}(l:List α)(z:α){n:Nat}(h:n<=l.length):(l.take n++List.replicate (l.length-n) z).length=l.length:=by rw[cR,dB,zd];omega
def EE{α:Type}{l:List α}{n:Nat}(h:n<l.length)(z z':α):l.getD n z=l.getD n z':=by rw[dG,dG,bR h];rfl
def jE{α a:Type}(x:α)(k:α->a):lets x k=k x:=rfl
def cP{α:Type}{l:List α}{n:Nat}(h:n<l.length)(y z:α):(l.set n y).getD n z=y:=by rw[dG,List.getElem?_set_self h];rfl
def getD_set_ne{α:Type}{l:List α}{n m:Nat}(h:n≠m)(y z:α):(l.set n y).getD m z=l.getD m z:=by rw[dG,List.getElem?_set_ne h,<-dG]
def uI{α:Type}(l:List α)(n:Nat)(y:α)(m:Nat):aZ (l.set n y) (m:Int)=decide (m<l.length):=by rw[dX,jw]
def qA {α β X Y:Type} {body:X->Option (X⊕Y)} (l:List α) (z:α) (k:l.length<1099511627776) (f:β->α->β) (m:β->Nat->X) (b:Nat->β->Prop) (fin:β->Y)
  (d:∀n a,n<l.length->b n a->body (m a n)=some (.inl (m (f a (l.getD n z)) (n+1)))/\b (n+1) (f a (l.getD n z))) (j:∀a,b l.length a->body (m a l.length)=some (.inr (fin a))) (h:β) (o:b 0 h):
  iter body big (m h 0)=some (fin (l.foldl f h))/\b l.length (l.foldl f h):=by
 have e:∀n,n<l.length->(l.take (n+1)).foldl f h=f ((l.take n).foldl f h) (l.getD n z):=by intro n g;rw[List.take_add_one,List.foldl_append,bR g,dG,bR g];rfl
 have i:∀n,n<=l.length->b n ((l.take n).foldl f h):=by
  intro n;induction n with
  |zero=>intro _;simpa using o
  |succ n p=>intro g;rw[e n g];exact(d n _ g (p (fc g))).2
 have c:=i l.length (aJ _);rw[List.take_length]at c;refine⟨?_,c⟩;have:=lc (body:=body) (λn=>m ((l.take n).foldl f h) n) l.length k (fin (l.foldl f h)) (λn g=>by
  have:=(d n _ g (i n (fc g))).1;rw[<-e n g]at this;exact this) (by
  have:=j _ c;rw[List.take_length];exact this)
 simpa using this
def Bc{α β Y:Type}(step:β->α->β⊕Y)(fin:β->Y):List α->β->Y
 |[],b=>fin b
 |a::l,b=>match step b a with
  |.inl c=>Bc step fin l c
  |.inr y=>y
def xu{α:Type}{l:List α}{n:Nat}(h:n<l.length)(z:α):l.drop n=l.getD n z::l.drop (n+1):=by rw[xD h,dG,bR h];rfl
def mA {α β X Y:Type} {body:X->Option (X⊕Y)} (l:List α) (z:α) (f:β->Nat->X) (step:β->α->β⊕Y) (fin:β->Y) (c:Nat->β->Prop)
  (d:∀n a,n<l.length->c n a->body (f a n)=some (match step a (l.getD n z)with |.inl b=>.inl (f b (n+1)) |.inr y=>.inr y)/\∀b,step a (l.getD n z)=.inl b->c (n+1) b)
  (e:∀a,c l.length a->body (f a l.length)=some (.inr (fin a))):∀(k n:Nat) (b:β),n+k=l.length->c n b->iter body (k+1) (f b n)=some (Bc step fin (l.drop n) b)
 |0,n,b,p,h=>by
  have:n=l.length:=by omega
  subst this;rw[List.drop_length];exact cJ (e b h)
 |k+1,n,b,p,h=>by
  have m:n<l.length:=by omega
  obtain⟨g,o⟩:=d n b m h;rw[xu m z];simp only[Bc];cases i:step b (l.getD n z)with
  |inl j=>rw[i]at g;rw[fz g];exact mA l z f step fin c d e k (n+1) j (by omega) (o j i)
  |inr y=>rw[i]at g;exact cJ g
def DK {α β X Y:Type} {body:X->Option (X⊕Y)} (l:List α) (z:α) (f:l.length<1099511627776) (g:β->Nat->X) (step:β->α->β⊕Y) (fin:β->Y) (c:Nat->β->Prop)
  (d:∀n a,n<l.length->c n a->body (g a n)=some (match step a (l.getD n z)with |.inl b=>.inl (g b (n+1)) |.inr y=>.inr y)/\∀b,step a (l.getD n z)=.inl b->c (n+1) b)
  (e:∀a,c l.length a->body (g a l.length)=some (.inr (fin a))) (h:β) (i:c 0 h):iter body big (g h 0)=some (Bc step fin l h):=
 gP (mA l z g step fin c d e l.length 0 h (by omega) i) (i7 f)
def C2{X Y:Type}{body:X->Option (X⊕Y)}(e:Nat->X)(len:Nat)(c:len<1099511627776)(ok:Nat->Bool)(yes:Y)(no:Nat->Y)(a:∀n,n<len->body (e n)=some (bif ok n then .inl (e (n+1))else .inr (no n)))(b:body (e len)=some (.inr yes)):
  ∃y,iter body big (e 0)=some y/\((bO ok 0 len=true/\y=yes)\/(bO ok 0 len=false/\∃n,n<len/\y=no n/\ok n=false)):=by
 have i:∀(k n:Nat),n+k=len->∃y,iter body (k+1) (e n)=some y/\((bO ok n k=true/\y=yes)\/(bO ok n k=false/\∃m,m<len/\y=no m/\ok m=false)):=by
  intro k;induction k with
  |zero=>
   intro n j;have:n=len:=by omega
   subst this;exact⟨yes,cJ b,.inl ⟨rfl,rfl⟩⟩
  |succ k l=>
   intro n j;have f:=a n (by omega);cases d:ok n with
   |true=>rw[d]at f;obtain⟨y,g,h⟩:=l (n+1) (by omega);refine⟨y,by rw[fz f];exact g,?_⟩;simp only[bO,d,ow];exact h
   |false=>rw[d]at f;exact⟨no n,cJ f,.inr ⟨by simp only[bO,d,Bool.false_and],n,by omega,rfl,d⟩⟩
 obtain⟨y,g,h⟩:=i len 0 (by omega);exact⟨y,gP g (i7 c),h⟩
end Go.R

