import Derived.Test.YtdbcclejeoljoaaGreatDoorApplyQC
/- Plain functions that stand for Go functions, and what they answer. Conditions: none. -/
set_option linter.all false
noncomputable section
namespace Go.Fn
open Go.R
def asj(x y:Int):aa .mul .i64 x y=aa .mul .i64 y x:=by show IntKind.wrap _ (x*y)=IntKind.wrap _ (y*x);rw[Int.mul_comm]
def Zy(x:Int):Int:=aa .rem .i64 (aa .mul .i64 x 48271) 2147483647
def ac7{x:Int}(a:0<=x)(b:x<=2147483647):0<=Zy x/\Zy x<=2147483646:=by unfold Zy;rw[Fh (by omega) (by omega)];show 0<=(x*48271).tmod 2147483647/\(x*48271).tmod 2147483647<=2147483646;rw[acH (by omega)];omega
def adk(x:Int)(n:Nat)(a:n<3):TS () (x,(n:Int),())=some (.inl (Zy x,((n+1:Nat):Int),())):=by unfold TS;rw[show ak .lss (n:Int) 3=true from iO (by omega)];show some _=_;rw[show aa .add .i64 (n:Int) 1=((n+1:Nat):Int)from eW (n:=n) (by omega)];rfl
def acY(x:Int)(n:Nat)(a:n<3):Ts () (x,(n:Int),())=some (.inl (Zy x,((n+1:Nat):Int),())):=by unfold Ts;rw[show ak .lss (n:Int) 3=true from iO (by omega)];show some (Sum.inl (aa .rem .i64 (aa .mul .i64 48271 x) 2147483647,_,()))=_;rw[show aa .add .i64 (n:Int) 1=((n+1:Nat):Int)from eW (n:=n) (by omega),asj];rfl
def aes:0+1+1+1+1<=big:=by have:=i7 (n:=4) (by omega);omega
def ao7(x:Int):Pp () (x, 0, ()) = some (.inl (Zy (Zy (Zy x)), ())) /\ Ow () (x, 0, ()) = some (.inl (Zy (Zy (Zy x)), ())):=
  ⟨gP ((fz (adk x 0 (by omega))).trans ((fz (adk _ 1 (by omega))).trans ((fz (adk _ 2 (by omega))).trans (cJ (n:=0) rfl)))) aes,
   gP ((fz (acY x 0 (by omega))).trans ((fz (acY _ 1 (by omega))).trans ((fz (acY _ 2 (by omega))).trans (cJ (n:=0) rfl)))) aes⟩
def akn(s:ByteArray):Sm Any (TT () (s,())) (Tt () (s,())):=by
 refine VR (λ_=>True) (λx=>6-x.1.size) (Q:=Any) (λx _=>?_) big (s,()) trivial (i7 (by show 6-s.size<_;omega));obtain⟨x,u⟩:=x;unfold XH Xj;cases h:ak .lss (ByteArray.size x:Int) 6 with
 |false=>exact .ret trivial
 |true=>
  have h:(ByteArray.size x:Int)<6:=ck h;have a:lz (ByteArray.mk #[48]) x=true:=by show decide ((ByteArray.mk #[48]).size+x.size<=1073741824)=true;have:(ByteArray.mk #[48]).size=1:=rfl;exact iO (by omega)
  refine .guard a a (.ret ⟨trivial,?_⟩);have:(ByteArray.append (ByteArray.mk #[48]) x).size=1+x.size:=by show(ByteArray.mk #[48]++x).size=_;rw[ajK];rfl
  show 6-(ByteArray.append (ByteArray.mk #[48]) x).size<6-x.size;omega
def nz1:eE 2147483647=false:=Gi (by omega)
def nz2:eE 1000000=false:=Gi (by omega)
def aiD(a n:Int):Sm Any (Ro a n) (UL a n):=by
 unfold Ro UL Js Jt OH;rw[rp,bS,rp,bS];cases d:Jh a 1 2147483646 with
 |false=>exact .ret trivial
 |true=>
 cases f:Jh n 0 1000000 with
 |false=>exact .ret trivial
 |true=>
 have d:=kW.1 d;have f:=kW.1 f;refine Sm.bind (P:=λr=>r.1=true) (.ret rfl) λr b=>.cond (λh=>by rw[b]at h;cases h) λ_=>?_;refine Sm.bind (P:=λr=>r.1=true) (.ret rfl) λr b=>.cond (λh=>by rw[b]at h;cases h) λ_=>?_;simp only[nz1,nz2,aW];show Sm Any (Option.bind (Pp () (aa .rem .i64 (aa .add .i64 a (aa .mul .i64 65537 n)) 2147483647,0,())) _) (Option.bind (Ow () (aa .rem .i64 (aa .add .i64 a (aa .mul .i64 65537 n)) 2147483647,0,())) _);have c:0<=aa .rem .i64 (aa .add .i64 a (aa .mul .i64 65537 n)) 2147483647/\aa .rem .i64 (aa .add .i64 a (aa .mul .i64 65537 n)) 2147483647<=2147483647:=by rw[Fh (by omega) (by omega),sO (by omega) (by omega)];show 0<=(a+65537*n).tmod 2147483647/\(a+65537*n).tmod 2147483647<=2147483647;rw[acH (by omega)];omega
 generalize aa .rem .i64 (aa .add .i64 a (aa .mul .i64 65537 n)) 2147483647=x at c;rw[(ao7 x).1,(ao7 x).2];obtain⟨g,s⟩:=ac7 c.1 c.2;obtain⟨i,t⟩:=ac7 g (by omega);obtain⟨j,k⟩:=ac7 i (by omega);generalize Zy (Zy (Zy x))=y at j k;show Sm Any (Option.bind (Ky (aa .rem .i64 y 1000000)) _) (Option.bind (Ku (aa .rem .i64 y 1000000)) _);have p:∃m:Nat,aa .rem .i64 y 1000000=(m:Int)/\m<=1000000:=by refine⟨(y % 1000000).toNat,?_,by omega⟩;show y.tmod 1000000=_;rw[acH (by omega)];omega
 obtain⟨m,l,o⟩:=p;rw[l,ai7 (by omega),aiN (by omega)];refine Sm.bind (P:=Any) (.ret trivial) λr _=>(akn r.1).bind λq _=>?_;cases q with
 |inl y=>exact .ret trivial
 |inr e=>exact e.elim
def lock_eq(a b c d e:Int):∃v,KQ a b c d e=some (v,())/\Kl a b c d e=some (v,())/\(v=true->(0<=b/\b<=1000001)/\(0<=d/\d<=6)):=by
 unfold KQ Kl Js Jt;simp only[rp,bS,aX];cases Jh a 1 2147483646 with
 |false=>exact⟨false,rfl,rfl,λh=>by cases h⟩
 |true=>
 cases f:Jh b 0 1000001 with
 |false=>exact⟨false,rfl,rfl,λh=>by cases h⟩
 |true=>
 cases Jh c 0 2 with
 |false=>exact⟨false,rfl,rfl,λh=>by cases h⟩
 |true=>
 cases hd:Jh d 0 6 with
 |false=>exact⟨false,rfl,rfl,λh=>by cases h⟩
 |true=>exact⟨_,rfl,rfl,λ_=>⟨kW.1 f,kW.1 hd⟩⟩
def ahV(a b c d e:Int)(s:ByteArray):Sm (λr=>r.1<=2000000) (SA a b c d e s) (Sa a b c d e s):=by
 obtain⟨v,g,l,m⟩:=lock_eq a b c d e;unfold SA Sa;rw[l];cases v with
 |false=>refine⟨(-1,()),?_,rfl,by show(-1:Int)<=2000000;omega⟩;have:RN (s,a,b,c,d,e,()) (b,())=some (.inr (.inl ())):=gP (cJ (n:=0) (by unfold NJ;rw[g];rfl)) (by have:=i7 (n:=1) (by omega);omega);rw[this];rfl
 |true=>
 obtain⟨⟨B,C⟩,_⟩:=m rfl;show Sm _ _ (Option.bind (Ru (s,a,b,c,d,e,()) (b,())) _);have o:aa .add .i64 b 5=b+5:=sO (by omega) (by omega);refine(VR (λx=>b<=x.1/\x.1<=b+5) (λx=>(b+5-x.1).toNat) (Q:=λy=>match y with |.inl y=>y.1<=2000000 |.inr _=>True) (body:=NJ (s,a,b,c,d,e,())) (body':=Rt (s,a,b,c,d,e,())) (λx i=>?_) big (b,()) ⟨LL _,by show b<=b+5;omega⟩ (i7 (by show(b+5-b).toNat<_;omega))).bind λq p=>?_
 .obtain⟨n,u⟩:=x;have t:b<=n:=i.1;have w:n<=b+5:=i.2;have f:(KQ a b c d e).bind (λz=>bif z.1 then(bif ak .leq n 1000000 then bif ak .lss n (aa .add .i64 b 5)then(Ro a n).bind λA=>bif wW .eql A.1 s then some (Sum.inr (Sum.inl (n,())))else some (Sum.inl (aa .add .i64 n 1,()))else some (Sum.inr (Sum.inr (Sum.inl ())))else some (Sum.inr (Sum.inr (Sum.inl ()))))else some (Sum.inr (Sum.inr (Sum.inl ()))))=NJ (s,a,b,c,d,e,()) (n,u):=rfl;rw[<-f,g];unfold Rt OH;show Sm _ (bif ak .leq n 1000000 then _ else _) (bif ak .lss n (aa .add .i64 b 5)then _ else _);rw[o,bS,aX];have k:Jh n 0 1000000=ak .leq n 1000000:=by have:decide (0<=n)=true:=iO (by omega);unfold Jh;rw[show ak .leq n 1000000=decide (n<=1000000)from rfl];simp[this]
  rw[k];cases h:ak .lss n (b+5)with
  |false=>cases ak .leq n 1000000 <;> exact .ret trivial
  |true=>
   have h:n<b+5:=ck h;cases D:ak .leq n 1000000 with
   |false=>exact .ret trivial
   |true=>refine(aiD a n).bind λr _=>.cond (λ_=>.ret (show n<=2000000 by omega)) λ_=>.ret ?_;have j:aa .add .i64 n 1=n+1:=sO (by omega) (by omega);show(b<=aa .add .i64 n 1/\aa .add .i64 n 1<=b+5)/\(b+5-aa .add .i64 n 1).toNat<(b+5-n).toNat;rw[j];omega
 .cases q with
  |inl y=>exact .ret p
  |inr q=>
   cases q with
   |inl y=>exact .ret (show(-1:Int)<=2000000 by omega)
   |inr e=>exact e.elim
def ah0(d:Nat)(h:d<=6):QZ (d:Int)=some (ej .shl .i64 1 (d:Int),()):=by
 have:∀d:Fin 7,Qq (((d.val:Nat):Int),()) (1,0,())=some (.inl (ej .shl .i64 1 ((d.val:Nat):Int),())):=by
  intro d;have hd:=d.isLt;have a:∀d:Fin 7,iter (VT (((d.val:Nat):Int),())) 8 (1,0,())=some (.inl (ej .shl .i64 1 ((d.val:Nat):Int),())):=by decide +kernel
  exact gP (a d) (by have:=i7 (n:=8) (by omega);omega)
 unfold QZ;rw[this ⟨d,by omega⟩];rfl
def akq(a b c d e n:Int)(s:ByteArray):Sm Any (ZE a b c d e s n) (Y9 a b c d e s n):=by
 unfold ZE Y9 Lo;obtain⟨v,l,m,o⟩:=lock_eq a b c d e;rw[l,m];cases v with
 |false=>exact .ret trivial
 |true=>
 obtain⟨_,p,t⟩:=o rfl;rw[rp,Lg];simp only[aX];cases Jh n 0 20000 with
 |false=>exact .ret trivial
 |true=>
 show Sm Any (bif ak .lss n e then _ else _) (Option.bind (bif ak .lss n e then _ else _) _);cases ak .lss n e with
 |true=>exact .ret trivial
 |false=>
 simp only[aW];unfold Yx;obtain⟨r,m1,m2,h⟩:=ahV a b c d e s;rw[m1,m2];simp only[aX];obtain⟨x,u⟩:=r;have h:x<=2000000:=h;have k:ak .geq x 0=Bool.not (ak .lss x 0):=by
  by_cases f:x<0
  .rw[show ak .lss x 0=true from iO f,show ak .geq x 0=false from Gi (by omega)];rfl
  .rw[show ak .lss x 0=false from Gi f,show ak .geq x 0=true from iO (by omega)];rfl
 rw[k];unfold QY;cases f:ak .lss x 0 with
 |false=>
  have f:¬x<0:=Jx f;have g:ak .geq (aa .add .i64 x 1) 0=true:=by rw[sO (by omega) (by omega)];exact iO (by omega)
  simp only[kx,az,aW,aX,g];exact .ret trivial
 |true=>
  have g:ak .geq (-1) 0=false:=rfl;simp only[fu,az,aW,aX,g];cases ak .lss c 2 with
  |true=>exact .ret trivial
  |false=>
   obtain⟨q,rfl⟩:∃q:Nat,d=(q:Int):=⟨d.toNat,by omega⟩
   have i:sG (q:Int)=false:=Gi (by omega);have j:nS false (6:Int) (aa .add .i64 (q:Int) 1)=nS false (aa .add .i64 (q:Int) 1) 6:=by unfold nS;simp only[aW];split <;> split <;> omega
   rw[ah0 q (by omega),i,j];exact .ret trivial
abbrev Rn:=Int×Int×Int×Int×Int
def agy(i:Int)(b:Bx):Rn:=(0,b.1,b.2.1,i,aa .add .i64 i 1)
def ai2(b:Bx)(r:Rn):Rn:=(r.1,r.2.1,aa .add .i64 r.2.2.1 b.2.1,r.2.2.2.1,aa .add .i64 r.2.2.2.2 1)
def Yt(b:Bx)(o:List Rn):List Rn:=o.set (o.length-1) (ai2 b (o.getD (o.length-1) Qt))
abbrev RS:=List Rn×Bool×Int
def M6(f:List Int)(s:RS)(b:Bx):RS:=bif opn b then(bif s.2.1&&Bool.not (ZS f b.1)then(Yt b s.1,true,aa .add .i64 s.2.2 1)else(s.1++[agy s.2.2 b],true,aa .add .i64 s.2.2 1))else(s.1,false,aa .add .i64 s.2.2 1)
def runs(f:List Int)(l:List Bx):List Rn:=(l.foldl (M6 f) ([],false,0)).1
def gp(r:Rn):Gp:=(r.1,r.2.1,r.2.2.1)
def ZT(b:Bx)(o:List Rn):(Yt b o).length=o.length:=by unfold Yt;rw[jw]
def agt(b:Bx):(ak .neq b.2.2.1 0=true/\opn b=false)\/(ak .neq b.2.2.1 0=false/\opn b=Bool.not b.2.2.2):=by
 unfold opn;have:ak .neq b.2.2.1 0=Bool.not (ak .eql b.2.2.1 0):=rfl;rw[this];cases ak .eql b.2.2.1 0 with
 |false=>exact .inl ⟨rfl,rfl⟩
 |true=>exact .inr ⟨rfl,rfl⟩
def acq(f:List Int)(s:RS)(b:Bx){n:Nat}(h:s.1.length<=n)(c:s.2.1=true->1<=s.1.length):(M6 f s b).1.length<=n+1/\((M6 f s b).2.1=true->1<=(M6 f s b).1.length)/\(M6 f s b).2.1=opn b:=by
 unfold M6;cases opn b with
 |false=>exact⟨by show s.1.length<=_;omega,λh=>(by cases h),rfl⟩
 |true=>
  simp only[az];cases a:(s.2.1&&Bool.not (ZS f b.1))with
  |true=>rw[aQ]at a;have:=c a.1;exact⟨by show(Yt b s.1).length<=_;rw[ZT];omega,λ_=>by show 1<=(Yt b s.1).length;rw[ZT];exact this,rfl⟩
  |false=>exact⟨by show(s.1++[_]).length<=_;simp;omega,λ_=>by show 1<=(s.1++[_]).length;simp,rfl⟩
def Rf{i:Int}{n:Nat}(h:i=(n:Int))(a:n<1073741824):aa .add .i64 i 1=((n+1:Nat):Int):=by rw[h];exact eW (n:=n) (by omega)
def afJ{α:Type}{o:List α}(h:1<=o.length)(a:o.length<=1073741824):aa .sub .i64 (bw o) 1=((o.length-1:Nat):Int):=by
 have:bw o=((o.length-1+1:Nat):Int):=by unfold bw;congr 1;omega
 rw[this];exact ZB (by omega)
def ZC(f:List Int)(l:List Bx):(runs f l).length<=l.length:=by
 have:∀(l:List Bx) (s:RS),(l.foldl (M6 f) s).1.length<=s.1.length+l.length:=by
  intro l;induction l with
  |nil=>intro s;exact aJ _
  |cons b l a=>
   intro s;have h:=a (M6 f s b);have c:(M6 f s b).1.length<=s.1.length+1:=by unfold M6;cases opn b <;> cases (s.2.1&&Bool.not (ZS f b.1)) <;> simp[ZT]
   rw[Xa,cK];omega
 have h:=this l ([],false,0);simpa[runs] using h
def aau(h:Int)(f:List Int)(l:List Bx)(r:f.length<=1073741824)(y:l.length<=1048576):Ri h f l=some (runs f l,()):=by
 unfold Ri;have:=(qA (body:=OL (h,f,l,l,bw l,())) l gI (by omega) (M6 f) (λs n=>(s.1,s.2.1,(n:Int),())) (λn s=>s.2.2=(n:Int)/\s.1.length<=n/\(s.2.1=true->1<=s.1.length)) (λs=>(Sum.inl (s.1,()):List Rn×Unit⊕Empty)) (λn s t o=>by
  obtain⟨j,v,q⟩:=o;have i:=acq f s (l.getD n gI) v q;have a:(M6 f s (l.getD n gI)).2.2=((n+1:Nat):Int):=by have e:=Rf j (by omega);unfold M6;cases opn (l.getD n gI) <;> cases (s.2.1&&Bool.not (ZS f (l.getD n gI).1)) <;> exact e
  refine⟨?_,a,i.1,i.2.1⟩;unfold OL;simp only[bP,dX,cw,t,bu,az,eW (n:=n) (by omega)];generalize l.getD n gI=b at a i;unfold M6;rcases agt b with ⟨k,m⟩|⟨k,m⟩
  .rw[k,m];rfl
  .rw[k,m];cases x:b.2.2.2 with
   |true=>rfl
   |false=>
    have p:dF (List.append s.1 (List.append [] [((0:Int),b.1,b.2.1,(n:Int),((n+1:Nat):Int))]))=true:=rm (by show(s.1++[_]).length<=_;simp;omega);have c:agy s.2.2 b=((0:Int),b.1,b.2.1,(n:Int),((n+1:Nat):Int)):=by unfold agy;rw[Rf j (by omega),j]
    simp only[aW,kx,az];cases g:s.2.1 with
    |false=>simp only[aW,Oh,p,az,jE,c];rfl
    |true=>
     rw[acN f b.1 r];simp only[az,aX,ow];cases w:ZS f b.1 with
     |true=>simp only[fu,aW,p,az,jE,c];rfl
     |false=>
      have u:=q g;have d:s.1.length-1<s.1.length:=by omega
      rw[afJ u (by omega)];simp only[kx,az,dX,d,bu,jE,jt,cw,cP d,qe];rfl) (λs o=>by
  unfold OL;simp only[bP,eL,ct,aW]) ([],false,0) ⟨rfl,aJ _,λh=>by cases h⟩).1
 have g:Tz (h,f,l,l,bw l,()) ([],false,(0:Int),())=_:=this;rw[g];rfl
def aen(h:Int)(f:List Int)(l:List Bx)(r:f.length<=1073741824)(G:l.length<=1048576)(y:Xd h f l=true):Vd h f l=some ((runs f l).map gp,()):=by
 unfold Vd;rw[Vp h f l r (by omega),y];have:=(qA (body:=Pq (h,f,l,())) l gI (by omega) (M6 f) (λs n=>(s.1.map gp,(n:Int),())) (λn s=>s.2.2=(n:Int)/\s.1.length<=n/\(s.2.1=true->1<=s.1.length)/\s.2.1=(decide (0<n)&&opn (l.getD (n-1) gI))) (λs=>(Sum.inl (s.1.map gp,()):List Gp×Unit⊕Empty)) (λn s B t=>by
  obtain⟨C,D,u,v⟩:=t;have i:=acq f s (l.getD n gI) D u;have c:(M6 f s (l.getD n gI)).2.2=((n+1:Nat):Int):=by have e:=Rf C (by omega);unfold M6;cases opn (l.getD n gI) <;> cases (s.2.1&&Bool.not (ZS f (l.getD n gI).1)) <;> exact e
  refine⟨?_,c,i.1,i.2.1,by rw[i.2.2];simp⟩;unfold Pq;simp only[bP,dX,cw,B,bu,az,eW (n:=n) (by omega),afO,aX];generalize F:l.getD n gI=b at c i;unfold M6;cases H:opn b with
  |false=>rfl
  |true=>
   have j:dF (List.append (s.1.map gp) (List.append [] [((0:Int),b.1,b.2.1)]))=true:=rm (by show(s.1.map gp++[_]).length<=_;simp;omega);have a:List.append (s.1.map gp) (List.append [] [((0:Int),b.1,b.2.1)])=(s.1++[agy s.2.2 b]).map gp:=by rw[Tj];rfl
   rw[a]at j;simp only[fu,aW,az];cases n with
   |zero=>
    have k:s.2.1=false:=by rw[v];rfl
    have w:ak .gtr ((0:Nat):Int) 0=false:=rfl;simp only[w,aW,k,Oh,a,j,az]
   |succ m=>
    have k:s.2.1=opn (l.getD m gI):=by rw[v];simp
    have A:m<l.length:=by omega
    simp only[gt1,az,ZB (n:=m) (by omega),dX,cw,A,bu,afO,aX,<-k];cases p:s.2.1 with
    |false=>simp only[aW,Oh,a,j,az]
    |true=>
     rw[afl f b.1 r];simp only[az,aX,ow];cases E:ZS f b.1 with
     |true=>simp only[fu,aW,a,j,az]
     |false=>
      have I:=u p;have g:(s.1.map gp).length=s.1.length:=mZ _;have q:s.1.length-1<(s.1.map gp).length:=by rw[g];omega
      have d:s.1.length-1<s.1.length:=by omega
      rw[afJ (o:=s.1.map gp) (by omega) (by omega),g];simp only[kx,az,dX,q,bu,jE,jt,cw];have z:(s.1.map gp).getD (s.1.length-1) Ud=gp (s.1.getD (s.1.length-1) Qt):=by rw[dG,p6,dG,bR d];rfl
      rw[z];have x:(Yt b s.1).map gp=(s.1.map gp).set (s.1.length-1) (gp (ai2 b (s.1.getD (s.1.length-1) Qt))):=by unfold Yt;rw[List.map_set]
      show some (Sum.inl ((s.1.map gp).set (s.1.length-1) _,_,()))=some (Sum.inl ((Yt b s.1).map gp,_,()));rw[x];rfl) (λs t=>by
  unfold Pq;simp only[bP,eL,ct,aW]) ([],false,0) ⟨rfl,aJ _,(λh=>by cases h),rfl⟩).1
 have p:Pr (h,f,l,()) ([],(0:Int),())=_:=this;show Option.bind (Pr (h,f,l,()) ([],(0:Int),())) _=_;rw[p];rfl
def bst(s:List Gp×Int)(c:LK):List Gp×Int:=(s.1++(runs c.2.1 c.2.2).map (λr=>(s.2,r.2.1,r.2.2.1)),aa .add .i64 s.2 1)
def WH(L:List LK):List Gp:=(L.foldl bst ([],0)).1
def Om{α b:Type}(g:α->b):∀(l:List α) (o:List b),l.foldl (λo a=>o++[g a]) o=o++l.map g
 |[],o=>by simp
 |a::l,o=>by rw[Xa,Om g l];simp
def agk(k:Int)(L:List LK)(a b:Int)(R:List Rn)(o:List Gp)(h:o.length+R.length<=1048576):Ms (k,L,a,b,bw R,()) (o,R,(0:Int),())=some (.inl (o++R.map (λr=>(k,r.2.1,r.2.2.1)),())):=by
 have:=(qA (body:=Mr (k,L,a,b,bw R,())) R Qt (by omega) (λ(o:List Gp) r=>o++[(k,r.2.1,r.2.2.1)]) (λo n=>(o,R,(n:Int),())) (λn s=>s.length=o.length+n) (λo=>(Sum.inl (o,()):List Gp×Unit⊕Empty)) (λn s e c=>by
  refine⟨?_,by simp[c];omega⟩;unfold Mr;have f:∀g:Gp,dF (List.append s (List.append [] [g]))=true:=λg=>rm (by show(s++[_]).length<=_;simp;omega);simp only[bP,dX,cw,e,bu,az,eW (n:=n) (by omega),f];rfl) (λs c=>by
  unfold Mr;simp only[bP,eL,ct,aW]) o rfl).1
 have d:Ms (k,L,a,b,bw R,()) (o,R,(0:Int),())=_:=this;rw[d,Om]
def agE(k:Int)(L:List LK)(R:List Rn)(o:List Gp)(f:o.length+R.length<=1048576):MQ (L,k,()) (o,R.map gp,(0:Int),())=some (.inl (o++R.map (λr=>(k,r.2.1,r.2.2.1)),())):=by
 have:=(qA (body:=MO (L,k,())) (R.map gp) Ud (by rw[mZ];omega) (λ(o:List Gp) r=>o++[(k,r.2.1,r.2.2)]) (λo n=>(o,R.map gp,(n:Int),())) (λn s=>s.length=o.length+n) (λo=>(Sum.inl (o,()):List Gp×Unit⊕Empty)) (λn s c b=>by
  refine⟨?_,by simp[b];omega⟩;unfold MO;rw[mZ]at c;have a:n<(R.map gp).length:=by rw[mZ];exact c
  have e:∀g:Gp,dF (List.append s (List.append [] [g]))=true:=λg=>rm (by show(s++[_]).length<=_;simp;omega);simp only[bP,dX,cw,a,bu,az,eW (n:=n) (by omega),e];rfl) (λs b=>by
  unfold MO;simp only[bP,eL,ct,aW]) o rfl).1
 have d:MQ (L,k,()) (o,R.map gp,(0:Int),())=_:=this;rw[d,Om,List.map_map];rfl
def adC{L:List LK}(h:Kb L=true):(1<=L.length/\L.length<=6)/\∀n,n<L.length->Xd (L.getD n br).1 (L.getD n br).2.1 (L.getD n br).2.2=true:=by unfold Kb at h;rw[aQ]at h;have a:=kW.1 h.1;unfold bw at a;refine⟨by omega,λn b=>?_⟩;have:=((iW _ _).1 h.2) n (kU _) (by omega);unfold NA at this;rw[aQ]at this;exact this.1
def aaL{L:List LK}(b:L6 L)(h:Kb L=true){n:Nat}(a:n<L.length):(L.getD n br).2.1.length<=1073741824/\(L.getD n br).2.2.length<=24:=⟨(b.at a).1,(af9 ((adC h).2 n a)).1.len⟩
def afA{L:List LK}(c:L6 L)(h:Kb L=true){n:Nat}(b:n<L.length){s:List Gp×Int}(a:s.2=(n:Int)/\s.1.length<=24*n):(bst s (L.getD n br)).2=((n+1:Nat):Int)/\(bst s (L.getD n br)).1.length<=24*(n+1):=by have d:=adC h;have e:=aaL c h b;have f:=ZC (L.getD n br).2.1 (L.getD n br).2.2;refine⟨Rf a.1 (by omega),?_⟩;show(s.1++_).length<=_;rw[cR,mZ];omega
def abR(L:List LK)(c:L6 L)(h:Kb L=true):Qx L=some (WH L,())/\QR L=some (WH L,())/\(WH L).length<=144:=by
 have i:=adC h;have f:=qA (body:=Mq (L,bw L,())) L br (by omega) bst (λs n=>(s.1,(n:Int),())) (λn s=>s.2=(n:Int)/\s.1.length<=24*n) (λs=>(Sum.inl (s.1,()):List Gp×Unit⊕Empty)) (λn s a b=>by
  have d:=aaL c h a;have j:=ZC (L.getD n br).2.1 (L.getD n br).2.2;refine⟨?_,afA c h a b⟩;unfold Mq;simp only[bP,dX,cw,a,bu,az,eW (n:=n) (by omega),aau _ _ _ d.1 (show(L.getD n br).2.2.length<=1048576 by omega),aX];rw[agk _ _ _ _ _ _ (by omega),<-b.1];rfl) (λs b=>by
  unfold Mq;simp only[bP,eL,ct,aW]) ([],0) ⟨rfl,aJ _⟩
 have g:=qA (body:=MN (L,())) L br (by omega) bst (λs n=>(s.1,(n:Int),())) (λn s=>s.2=(n:Int)/\s.1.length<=24*n) (λs=>(Sum.inl (s.1,()):List Gp×Unit⊕Empty)) (λn s a b=>by
  have d:=aaL c h a;have j:=ZC (L.getD n br).2.1 (L.getD n br).2.2;refine⟨?_,afA c h a b⟩;unfold MN;simp only[bP,dX,cw,a,bu,az,eW (n:=n) (by omega),aen _ _ _ d.1 (show(L.getD n br).2.2.length<=1048576 by omega) (i.2 n a),aX];rw[agE _ _ _ _ (by omega),<-b.1];rfl) (λs b=>by
  unfold MN;simp only[bP,eL,ct,aW]) ([],0) ⟨rfl,aJ _⟩
 refine⟨?_,?_,?_⟩
 .unfold Qx;have e:P4 (L,bw L,()) ([],(0:Int),())=_:=f.1;rw[e];rfl
 .unfold QR;rw[Vb L c,h];have e:MP (L,()) ([],(0:Int),())=_:=g.1;show Option.bind (MP (L,()) ([],(0:Int),())) _=_;rw[e];rfl
 .have:=f.2.2;unfold WH;omega
def lst(o:List Gp)(s:Int)(a:Int×Int)(g:Gp):Int×Int:=(bif ak .geq g.2.2 s&&(ak .lss a.1 0||ak .lss g.2.2 (ae Ud o a.1).2.2)then a.2 else a.1,aa .add .i64 a.2 1)
def Yk(o:List Gp)(s:Int):Int:=(o.foldl (lst o s) (-1,0)).1
def aip(n:Nat)(a:Int×Int):Prop:=a.2=(n:Int) /\ -1<=a.1/\a.1<(n:Int)
def afL{o:List Gp}{s:Int}{n:Nat}(d:n<1048576){a:Int×Int}(b:aip n a)(g:Gp):aip (n+1) (lst o s a g):=by obtain⟨c,e,f⟩:=b;refine⟨Rf c (by omega),?_⟩;unfold lst;cases (ak .geq g.2.2 s&&(ak .lss a.1 0||ak .lss g.2.2 (ae Ud o a.1).2.2)) <;> simp only[az,aW] <;> omega
def adj(o:List Gp)(s:Int)(i:o.length<=1000):QX o s=some (Yk o s,()) /\ -1<=Yk o s/\Yk o s<(o.length:Int):=by
 have b:=qA (body:=MW (o,s,())) o Ud (by omega) (lst o s) (λa n=>(a.1,(n:Int),())) aip (λa=>(Sum.inl (a.1,()):Int×Unit⊕Empty)) (λn a g c=>by
  refine⟨?_,afL (by omega) c _⟩;obtain⟨f,j,k⟩:=c;unfold MW;simp only[bP,dX,cw,g,bu,az,eW (n:=n) (by omega)];unfold lst;cases ak .geq (o.getD n Ud).2.2 s with
  |false=>rfl
  |true=>
   simp only[az,ow];cases d:ak .lss a.1 0 with
   |true=>simp only[az,Bool.true_or,f]
   |false=>have d:¬a.1<0:=Jx d;have h:aZ o a.1=true:=Sj (by omega) (by omega);simp only[aW,xC,h,az,f];cases ak .lss (o.getD n Ud).2.2 (ae Ud o a.1).2.2 <;> rfl) (λs c=>by
  unfold MW;simp only[bP,eL,ct,aW]) (-1,0) ⟨rfl,by show(-1:Int) <= -1;omega,by show(-1:Int)<0;omega⟩
 refine⟨?_,b.2.2.1,b.2.2.2⟩;unfold QX;have e:Qp (o,s,()) ((-1:Int),(0:Int),())=_:=b.1;rw[e];rfl
def ahU(n:Nat):ak .lss (n:Int) 0=false:=Gi (p:=(n:Int)<0) (by omega)
def atG(o:List Gp)(i:Int):Gp:=bif ak .lss i 0 then(0,0,0)else ae Ud o i
def acX(o:List Gp)(s:Int)(k:o.length<=1000)(l:1<=s):Tv o s=some ((atG o (Yk o s)).1,(atG o (Yk o s)).2.1,(atG o (Yk o s)).2.2,Bool.not (ak .lss (Yk o s) 0),()):=by
 have i:=qA (body:=QC (s,o,bw o,())) o Ud (by omega) (lst o s) (λa n=>((0:Int),(0:Int),(0:Int),(atG o a.1).1,(atG o a.1).2.1,(atG o a.1).2.2,Bool.not (ak .lss a.1 0),(n:Int),())) aip (λa=>(Sum.inl ((0:Int),(0:Int),(0:Int),(atG o a.1).1,(atG o a.1).2.1,(atG o a.1).2.2,Bool.not (ak .lss a.1 0),()):Int×Int×Int×Int×Int×Int×Bool×Unit⊕Empty)) (λn a j c=>by
  refine⟨?_,afL (by omega) c _⟩;obtain⟨h,m,p⟩:=c;unfold QC;simp only[bP,dX,cw,j,bu,az,eW (n:=n) (by omega)];have f:atG o (n:Int)=o.getD n Ud:=by unfold atG;rw[ahU,aW,cw]
  have b:ak .lss (n:Int) 0=false:=ahU n;unfold lst;cases ak .geq (o.getD n Ud).2.2 s with
  |false=>rfl
  |true=>
   simp only[az,ow,Bool.not_not];cases g:ak .lss a.1 0 with
   |true=>simp only[az,Bool.true_or,h,f,b,kx]
   |false=>
    have d:atG o a.1=ae Ud o a.1:=by unfold atG;rw[g];rfl
    simp only[aW,xC,d];cases ak .lss (o.getD n Ud).2.2 (ae Ud o a.1).2.2 with
    |true=>simp only[az,h,f,b,kx]
    |false=>simp only[aW,d,g]) (λs c=>by
  unfold QC;simp only[bP,eL,ct,aW]) (-1,0) ⟨rfl,by show(-1:Int) <= -1;omega,by show(-1:Int)<0;omega⟩
 unfold Tv;rw[show ak .lss s 1=false from Gi (by omega)];have e:QD (s,o,bw o,()) ((0:Int),(0:Int),(0:Int),(0:Int),(0:Int),(0:Int),false,(0:Int),())=_:=i.1;show Option.bind (QD (s,o,bw o,()) ((0:Int),(0:Int),(0:Int),(0:Int),(0:Int),(0:Int),false,(0:Int),())) _=_;rw[e];rfl
def aeO(L:List LK)(s:Int)(c:L6 L)(h:Kb L=true):Sm (λr=>r.2.2.2.1=true->(r.1,r.2.1,r.2.2.1)∈WH L) (Sx L s) (R7 L s):=by
 obtain⟨f,g,k⟩:=abR L c h;obtain⟨j,l,d⟩:=adj (WH L) s (by omega);have no:∀ {Q:Prop},(false:Bool)=true->Q:=λh=>by cases h
 unfold Sx R7 Vm;rw[g,UJ L c,h];simp only[aX,fu,aW,f,j];by_cases b:s<1
 .have e:ak .lss s 1=true:=iO b;unfold Tv;simp only[e,az,aX];exact .ret no
 .have e:ak .lss s 1=false:=Gi b;rw[acX (WH L) s (by omega) (by omega)];simp only[e,aW,aX];unfold atG;cases a:ak .lss (Yk (WH L) s) 0 with
  |true=>exact .ret no
  |false=>have a:¬Yk (WH L) s<0:=Jx a;have i:aZ (WH L) (Yk (WH L) s)=true:=Sj (by omega) d;simp only[aW,i,az];exact .ret λ_=>get_mem (by omega) d
structure afw (l:List Bx) (n:Nat) (s:RS):Prop where
 idx:s.2.2=(n:Int)
 is:∀r,r∈s.1->∃a e:Nat,a<e/\e<=n/\r=(0,mS l a,mS l e-mS l a,(a:Int),(e:Int))
 pw:s.1.Pairwise λr r'=>r.2.2.2.2<=r'.2.2.2.1
 last:s.2.1=true->∃o r,s.1=o++[r]/\r.2.2.2.2=(n:Int)
def agq(b:Bx)(o:List Rn)(r:Rn):Yt b (o++[r])=o++[ai2 b r]:=by
 unfold Yt;have e:(o++[r]).length-1=o.length:=by simp
 rw[e];have g:(o++[r]).getD o.length Qt=r:=by rw[dG,kH (aJ _)];simp
 rw[g,xS _ _ (aJ _)];simp
def afg{l:List Bx}(g:aaA l)(f:List Int){n:Nat}(z:n<l.length){s:RS}(h:afw l n s):afw l (n+1) (M6 f s (l.getD n gI)):=by
 have E:=g.len;have t:=Rf h.idx (by omega);have k:=g.low n z;have p:=g.step n z;have J:=g.size n z;have G:=g.sum n (by omega);have d:∀r,r∈s.1->∃a e:Nat,a<e/\e<=n+1/\r=(0,mS l a,mS l e-mS l a,(a:Int),(e:Int)):=λr A=>by obtain⟨a,e,w,D,i⟩:=h.is r A;exact⟨a,e,w,by omega,i⟩
 unfold M6;cases I:opn (l.getD n gI)with
 |false=>exact⟨t,d,h.pw,λu=>by cases u⟩
 |true=>
  simp only[az];cases u:(s.2.1&&Bool.not (ZS f (l.getD n gI).1))with
  |true=>
   rw[aQ]at u;obtain⟨o,r,v,A⟩:=h.last u.1;simp only[az];rw[v,agq];have c:=h.pw;rw[v,Ti]at c;obtain⟨a,e,w,D,i⟩:=h.is r (by rw[v];simp);subst i;have F:e=n:=by have:(e:Int)=(n:Int):=A;omega
   subst F;have j:ai2 (l.getD e gI) (0,mS l a,mS l e-mS l a,(a:Int),(e:Int))=(0,mS l a,mS l (e+1)-mS l a,(a:Int),((e+1:Nat):Int)):=by have H:=g.sum a (by omega);show(0,mS l a,aa .add .i64 (mS l e-mS l a) (l.getD e gI).2.1,(a:Int),aa .add .i64 (e:Int) 1)=_;rw[sO (by omega) (by omega),Rf rfl (by omega),p,show mS l e-mS l a+(l.getD e gI).2.1=mS l e+(l.getD e gI).2.1-mS l a by omega]
   rw[j];refine⟨t,λC b=>?_,?_,λ_=>⟨o,_,rfl,rfl⟩⟩
   .rcases cg.1 b with b|b
    .exact d C (by rw[v];exact aeG _ b)
    .rw[eK]at b;exact⟨a,e+1,by omega,aJ _,b⟩
   .rw[Ti];refine⟨c.1,aaX _ _,λx B y q=>?_⟩;rw[eK]at q;subst q;have:=c.2.2 x B _ (eK.2 rfl);exact this
  |false=>
   simp only[aW];have m:agy s.2.2 (l.getD n gI)=(0,mS l n,mS l (n+1)-mS l n,(n:Int),((n+1:Nat):Int)):=by unfold agy;rw[t,h.idx,k,p,show mS l n+(l.getD n gI).2.1-mS l n=(l.getD n gI).2.1 by omega]
   rw[m];refine⟨t,λC b=>?_,?_,λ_=>⟨s.1,_,rfl,rfl⟩⟩
   .rcases cg.1 b with b|b
    .exact d C b
    .rw[eK]at b;exact⟨n,n+1,by omega,aJ _,b⟩
   .rw[Ti];refine⟨h.pw,aaX _ _,λx B y q=>?_⟩;rw[eK]at q;subst q;obtain⟨a,e,w,D,i⟩:=h.is x B;subst i;show(e:Int)<=(n:Int)
    omega
def ajt{l:List Bx}(b:aaA l)(f:List Int):∃s,runs f l=s.1/\afw l l.length s:=by
 refine⟨l.foldl (M6 f) ([],false,0),rfl,?_⟩;have a:∀n,n<=l.length->afw l n ((l.take n).foldl (M6 f) ([],false,0)):=by
  intro n;induction n with
  |zero=>intro _;exact⟨rfl,(λr c=>absurd c KD),List.Pairwise.nil,λh=>by cases h⟩
  |succ n d=>intro e;rw[Le (show n<l.length by omega) gI,ZK];exact afg b f (by omega) (d (by omega))
 have:=a l.length (aJ _);rwa[Kj]at this
def ah3{l:List Bx}(w:aaA l)(f:List Int){r v:Rn}(x:r∈runs f l)(g:v∈runs f l)(e:v.2.1=r.2.1):v=r:=by
 obtain⟨s,B,q⟩:=ajt w f;rw[B]at x g;obtain⟨i,c,rfl⟩:=uv x;obtain⟨j,d,rfl⟩:=uv g;have k:∀ {i j:Nat} (c:i<s.1.length) (d:j<s.1.length),s.1[j].2.1=s.1[i].2.1 -> ¬i<j:=fun {i j} c d e t=>by have u:=(aeI.1 q.pw) i j c d t;obtain⟨a,b,D,E,A⟩:=q.is _ (ZJ c);obtain⟨o,C,y,z,p⟩:=q.is _ (ZJ d);rw[A,p]at e u;have e:mS l o=mS l a:=e;have u:(b:Int)<=(o:Int):=u;have:=w.mono (n:=a) (m:=o) (by omega) (by omega);omega
 have:i=j:=by
  rcases Nat.lt_trichotomy i j with h|h|h
  .exact absurd h (k c d e)
  .exact h
  .exact absurd h (k d c e.symm)
 subst this;rfl
def agb(b:List (List Bx))(r:b.length<=100)(j:∀x,x∈b->x.length<=1048576):Jm b=some (b.foldl (λo x=>o++x) [],()):=by
 have f:∀n,n<b.length->(b.getD n SP).length<=1048576:=λn c=>j _ (J4 c _);have g:=qA (body:=Ji (b,b,bw b,())) b SP (by omega) (λ(a:Int) x=>aa .add .i64 a (bw x)) (λa n=>(a,(n:Int),())) (λn a=>0<=a/\a<=1048576*(n:Int)) (λa=>(Sum.inl (a,()):Int×Unit⊕Empty)) (λn a c d=>by
  have k:=f n c;have e:aa .add .i64 a (bw (b.getD n SP))=a+((b.getD n SP).length:Int):=sO (by unfold bw;omega) (by unfold bw;omega);refine⟨?_,by rw[e];omega⟩;unfold Ji;have p:ak .lss (aa .add .i64 a (bw (b.getD n SP))) 0=false:=by rw[e];exact Gi (by omega)
  simp only[bP,dX,cw,c,bu,az,eW (n:=n) (by omega),p,aW]) (λa d=>by
  unfold Ji;simp only[bP,eL,ct,aW]) 0 ⟨LL _,by show(0:Int)<=1048576*0;omega⟩
 have m:=qA (body:=Jj (b,bw b,())) b SP (by omega) (λ(o:List Bx) x=>o++x) (λo n=>(o,(n:Int),())) (λn o=>o.length<=1048576*n) (λo=>(Sum.inl (o,()):List Bx×Unit⊕Empty)) (λn o c d=>by
  have k:=f n c;refine⟨?_,by rw[cR];omega⟩;unfold Jj;have q:dF (List.append o (b.getD n SP))=true:=rm (by show(o++_).length<=_;rw[cR];omega);simp only[bP,dX,cw,c,bu,az,eW (n:=n) (by omega),q];rfl) (λa d=>by
  unfold Jj;simp only[bP,eL,ct,aW]) [] (kU _)
 unfold Jm;have h:Ju (b,b,bw b,()) ((0:Int),(0:Int),())=_:=g.1;have i:Jv (b,bw b,()) ([],(0:Int),())=_:=m.1;rw[h];show(bif lu (b.foldl (λ(a:Int) x=>aa .add .i64 a (bw x)) 0)then _ else _)=_;have l:lu (b.foldl (λ(a:Int) x=>aa .add .i64 a (bw x)) 0)=true:=by have:=g.2;unfold lu limit;rw[iO this.1,iO (by omega)];rfl
 rw[l,az,i];rfl
def abX(gl gs p s:Int):List Bx:=bif ak .lss s gs then [(gl,s,p,false),(aa .add .i64 gl s,aa .sub .i64 gs s,0,false)]else [(gl,s,p,false)]
def WI(l:List Bx)(a e:Nat)(new:List Bx):List Bx:=l.take a++(new++l.drop e)
def ab9{α d:Type}(p:α->Bool)(F:d):∀(R:List α) (b:d),(b=F\/∃r,r∈R/\p r=true)->R.foldl (λo r=>bif p r then F else o) b=F
 |[],b,h=>by
  rcases h with h|⟨r,g,_⟩
  .exact h
  .exact absurd g KD
 |r::R,b,h=>by
  rw[Xa];refine ab9 p F R _ ?_;cases f:p r with
  |true=>exact .inl rfl
  |false=>
   rcases h with h|⟨i,c,a⟩
   .exact .inl h
   .rcases cL.1 c with e|c
    .subst e;rw[f]at a;cases a
    .exact .inr ⟨i,c,a⟩
def Yp(h:Int)(f:List Int)(l new:List Bx)(k:f.length<=1073741824)(j:aaA l)(C:new.length<=100){a e:Nat}(t:a<e/\e<=l.length){g:Rn}(d:g∈runs f l)(i:g=(0,mS l a,mS l e-mS l a,(a:Int),(e:Int))):
  L9 h f l (mS l a) new=some (h,f,WI l a e new,()):=by
 have m:=j.len;have B:=ZC f l;unfold L9;rw[Vl h f l k (by omega),aau h f l k (by omega)];simp only[aX];have y:=qA (body:=OI (mS l a,new,h,f,l,bw (runs f l),())) (runs f l) Qt (by omega) (λ(o:List Bx) r=>bif ak .eql r.2.1 (mS l a)then WI l a e new else o) (λo n=>((0:Int),([]:List Int),([]:List Bx),h,f,o,runs f l,(n:Int),())) (λ_ _=>True) (λo=>(Sum.inl ((0:Int),([]:List Int),([]:List Bx),h,f,o,()):Int×List Int×List Bx×Int×List Int×List Bx×Unit⊕Empty)) (λn o c _=>by
  refine⟨?_,trivial⟩;have v:=J4 c Qt;unfold OI;simp only[bP,dX,cw,c,bu,az,eW (n:=n) (by omega)];cases w:ak .eql ((runs f l).getD n Qt).2.1 (mS l a)with
  |false=>rfl
  |true=>
   have u:(runs f l).getD n Qt=g:=ah3 j f d v (by rw[i];exact LM.1 w);rw[u,i];have z:mT l 0 (a:Int)=true:=by unfold mT;rw[iO (LL _),iO (by omega),iO (by omega)];rfl
   have A:mT l (e:Int) (bw l)=true:=by unfold mT bw;rw[iO (by omega),iO (by omega),iO (by omega)];rfl
   have p:yD l 0 (a:Int)=l.take a:=by unfold yD;simp
   have q:yD l (e:Int) (bw l)=l.drop e:=by unfold yD bw;simp only[aaU];exact zX (by rw[kg];omega)
   simp only[az,z,A,p,q,jE];rw[agb _ (by show 3<=100;omega) (λx b=>by
    rcases cL.1 b with e|b
    .subst e;rw[dB];omega
    rcases cL.1 b with e|b
    .subst e;omega
    rcases cL.1 b with e|b
    .subst e;rw[kg];omega
    .exact absurd b KD)]
   simp only[aX];have:List.foldl (λo x=>o++x) [] (((([]:List (List Bx)).append [l.take a]).append [new]).append [l.drop e])=WI l a e new:=by show([]++l.take a++new)++l.drop e=_;unfold WI;rw[l7,iD]
   rw[this]) (λo _=>by
  unfold OI;simp only[bP,eL,ct,aW]) l trivial
 have s:Tu (mS l a,new,h,f,l,bw (runs f l),()) ((0:Int),[],[],h,f,l,runs f l,(0:Int),())=_:=y.1;rw[s,ab9 (λr:Rn=>ak .eql r.2.1 (mS l a)) (WI l a e new) (runs f l) l (.inr ⟨g,d,by rw[i];exact LM.2 rfl⟩)];rfl
def agw(h:Int)(f:List Int)(l:List Bx)(gc gs p s:Int)(g:f.length<=1073741824)(d:aaA l){a e:Nat}(b:a<e/\e<=l.length){j:Rn}(c:j∈runs f l)(i:j=(0,mS l a,mS l e-mS l a,(a:Int),(e:Int))):
  UR h f l gc (mS l a) gs p s=some (h,f,WI l a e (abX (mS l a) gs p s),()):=by
 unfold UR;have k:ak .gtr gs s=ak .lss s gs:=rfl;rw[k];unfold abX;cases ak .lss s gs with
 |true=>have m:dF (List.append (α:=Bx) (List.append [] [(mS l a,s,p,false)]) (List.append [] [(aa .add .i64 (mS l a) s,aa .sub .i64 gs s,(0:Int),false)]))=true:=rm (by show 2<=_;omega);simp only[az,m,jE];have:=Yp h f l [(mS l a,s,p,false),(aa .add .i64 (mS l a) s,aa .sub .i64 gs s,0,false)] g d (by show 2<=100;omega) b c i;show Option.bind (L9 h f l (mS l a) [(mS l a,s,p,false),(aa .add .i64 (mS l a) s,aa .sub .i64 gs s,0,false)]) _=_;rw[this];rfl
 |false=>have:=Yp h f l [(mS l a,s,p,false)] g d (by show 1<=100;omega) b c i;show Option.bind (L9 h f l (mS l a) [(mS l a,s,p,false)]) _=_;rw[this];rfl
def afD(gl gs p s:Int)(o:List Bx)(b:Bx):List Bx:=bif ak .lss b.1 gl||ak .geq b.1 (aa .add .i64 gl gs)then(bif ak .eql b.1 gl then o++abX gl gs p s else o)++[b]else(bif ak .eql b.1 gl then o++abX gl gs p s else o)
def ad8(gl gs p s:Int):(abX gl gs p s).length<=2:=by unfold abX;cases ak .lss s gs <;> simp
def akF(l new:List Bx)(a e n:Nat)(o:List Bx):Prop:=(n<=a/\o=l.take n)\/(a<n/\n<=e/\o=l.take a++new)\/(e<n/\o=l.take a++(new++(l.take n).drop e))
def ahz(h:Int)(f:List Int)(l:List Bx)(gc p s:Int)(K:f.length<=1073741824)(d:aaA l){a e:Nat}(J:a<e/\e<=l.length):
  SH h f l gc (mS l a) (mS l e-mS l a) p s=some (h,f,WI l a e (abX (mS l a) (mS l e-mS l a) p s),()):=by
 have C:=d.len;have x:aa .add .i64 (mS l a) (mS l e-mS l a)=mS l e:=by have g:=d.sum a (by omega);have q:=d.sum e (by omega);rw[sO (by omega) (by omega)];omega
 generalize L:mS l e-mS l a=gs at x;generalize i:abX (mS l a) gs p s=new;have M:new.length<=2:=by rw[<-i];exact ad8 ..
 have z:∀n,n<l.length->(ak .lss (l.getD n gI).1 (mS l a)=decide (n<a))/\(ak .eql (l.getD n gI).1 (mS l a)=decide (n=a))/\(ak .geq (l.getD n gI).1 (mS l e)=decide (e<=n)):=λn r=>by
  rw[d.low n r];refine⟨?_,?_,?_⟩
  .by_cases c:n<a
   .have:=d.mono (n:=n) (m:=a) (by omega) (by omega);rw[iO c];exact iO (by omega)
   .have:=d.mono (n:=a) (m:=n) (by omega) (by omega);rw[Gi c];exact Gi (by omega)
  .by_cases c:n=a
   .subst c;rw[iO rfl];exact LM.2 rfl
   .rw[Gi c];rcases Nat.lt_or_gt_of_ne c with h|h
    .have:=d.mono (n:=n) (m:=a) (by omega) (by omega);exact Gi (by omega)
    .have:=d.mono (n:=a) (m:=n) (by omega) (by omega);exact Gi (by omega)
  .by_cases c:e<=n
   .have:=d.mono (n:=e) (m:=n) (by omega) (by omega);rw[iO c];exact iO (by omega)
   .have:=d.mono (n:=n) (m:=e) (by omega) (by omega);rw[Gi c];exact Gi (by omega)
 have B:∀n o,n<=l.length->akF l new a e n o->o.length<=26:=λn o r y=>by
  rcases y with ⟨g,rfl⟩|⟨g,q,rfl⟩|⟨g,rfl⟩
  .rw[dB];omega
  .rw[cR,dB];omega
  .rw[cR,cR,dB,kg,dB];omega
 have D:=qA (body:=NK (p,s,h,f,l,gc,mS l a,gs,())) l gI (by omega) (afD (mS l a) gs p s) (λo n=>((0:Int),([]:List Int),([]:List Bx),h,f,o,(n:Int),())) (akF l new a e) (λo=>(Sum.inl ((0:Int),([]:List Int),([]:List Bx),h,f,o,()):Int×List Int×List Bx×Int×List Int×List Bx×Unit⊕Empty)) (λn o r y=>by
  have R:=B n o (by omega) y;obtain⟨E,F,G⟩:=z n r;refine⟨?_,?_⟩
  .unfold NK;have k:∀(o:List Bx) (v:Bx),(List.append o (List.append [] [v])).length=o.length+1:=λo v=>by simp
   have N:∀v,dF (List.append o (List.append [] [v]))=true:=λv=>rm (by rw[k];omega);have O:∀u v,dF (List.append (List.append o (List.append [] [u])) (List.append [] [v]))=true:=λu v=>rm (by rw[k,k];omega);have P:∀u v w,dF (List.append (List.append (List.append o (List.append [] [u])) (List.append [] [v])) (List.append [] [w]))=true:=λu v w=>rm (by rw[k,k,k];omega);simp only[bP,dX,cw,r,bu,az,eW (n:=n) (by omega),jE,N,O,P];unfold afD abX;generalize l.getD n gI=b;cases ak .eql b.1 (mS l a) <;> cases ak .lss s gs <;> cases ak .lss b.1 (mS l a) <;> cases ak .geq b.1 (aa .add .i64 (mS l a) gs) <;> simp
  .unfold afD;rw[i,x,E,F,G];have j:=Le r gI;rcases y with ⟨g,rfl⟩|⟨g,q,rfl⟩|⟨g,rfl⟩
   .by_cases c:n=a
    .subst c;rw[Gi (eL _),iO rfl,Gi (show ¬e<=n by omega)];exact .inr (.inl ⟨by omega,by omega,rfl⟩)
    .rw[iO (show n<a by omega),Gi c];exact .inl ⟨by omega,by rw[j];rfl⟩
   .rw[Gi (show ¬n<a by omega),Gi (show ¬n=a by omega)];by_cases A:n=e
    .subst A;rw[iO (aJ _)];refine .inr (.inr ⟨by omega,?_⟩);show(l.take a++new)++[l.getD n gI]=_;rw[j,aeL (by rw[dB];omega),Bq (by rw[dB];omega),iD];rfl
    .rw[Gi (show ¬e<=n by omega)];exact .inr (.inl ⟨by omega,by omega,rfl⟩)
   .rw[Gi (show ¬n<a by omega),Gi (show ¬n=a by omega),iO (show e<=n by omega)];refine .inr (.inr ⟨by omega,?_⟩);show(l.take a++(new++(l.take n).drop e))++[l.getD n gI]=_;rw[j,aeL (by rw[dB];omega),iD,iD]) (λo _=>by
  unfold NK;simp only[bP,eL,ct,aW]) [] (.inl ⟨kU _,by simp⟩)
 have t:l.foldl (afD (mS l a) gs p s) []=WI l a e new:=by
  unfold WI;rcases D.2 with ⟨g,q⟩|⟨g,q,I⟩|⟨g,q⟩
  .omega
  .rw[I,Bq (by omega),fa]
  .rw[q,Kj]
 unfold SH;have Q:dF (List.append [] f)=true:=rm K;rw[Q,az];have H:RQ (p,s,h,f,l,gc,mS l a,gs,()) ((0:Int),[],[],h,List.append [] f,[],(0:Int),())=_:=D.1;rw[H,t];rfl
def af5{L:List LK}{g:Gp}(m:L.length<=1000)(h:g∈WH L):∃i:Nat,i<L.length/\g.1=(i:Int)/\∃r,r∈runs (L.getD i br).2.1 (L.getD i br).2.2/\g.2.1=r.2.1/\g.2.2=r.2.2.1:=by
 have b:∀n,n<=L.length->((L.take n).foldl bst ([],0)).2=(n:Int)/\∀g,g∈((L.take n).foldl bst ([],0)).1->∃i:Nat,i<n/\g.1=(i:Int)/\∃r,r∈runs (L.getD i br).2.1 (L.getD i br).2.2/\g.2.1=r.2.1/\g.2.2=r.2.2.1:=by
  intro n;induction n with
  |zero=>intro _;exact⟨rfl,λg a=>absurd a KD⟩
  |succ n k=>
   intro o;obtain⟨c,j⟩:=k (by omega);rw[Le (show n<L.length by omega) br,ZK];refine⟨Rf c (by omega),λg a=>?_⟩;rcases cg.1 (show g∈_++_ from a)with a|a
   .obtain⟨i,l,d⟩:=j g a;exact⟨i,by omega,d⟩
   .obtain⟨r,f,e⟩:=eJ.1 a;subst e;exact⟨n,by omega,c,r,f,rfl,rfl⟩
 have:=(b L.length (aJ _)).2 g;rw[Kj]at this;exact this h
def agi(l new:List Bx)(a e:Nat):(WI l a e new).length<=l.length+new.length+l.length:=by unfold WI;rw[cR,cR,dB,kg];omega
def BkR(L L':List LK):Prop:=L'.length=L.length/\∀n,n<L.length->(L'.getD n JL).2.1.length=(L.getD n JL).2.1.length/\(L'.getD n JL).2.2.length<=2*(L.getD n JL).2.2.length+2
def BkR.refl(L:List LK):BkR L L:=⟨rfl,λn _=>⟨rfl,by omega⟩⟩
def BkR.set{L:List LK}{k:Nat}(c:LK)(a:c.2.1.length=(L.getD k JL).2.1.length)(b:c.2.2.length<=2*(L.getD k JL).2.2.length+2):BkR L (L.set k c):=by
 refine⟨jw,λn d=>?_⟩;by_cases e:k=n
 .subst e;rw[cP d];exact⟨a,b⟩
 .rw[Go.R.getD_set_ne e];exact⟨rfl,by omega⟩
def aeP{L:List LK}(p s:Int)(d:L6 L)(v:ain L)(h:Kb L=true)(z:1<=p):Sm (λr=>BkR L r.1) (Pm L p s) (Ou L p s):=by
 have y:=adC h;unfold Pm Ou;rw[TC L v,Xf L v,Wb L d z,UJ L d,Xe L p d,h];simp only[aX,fu,aW];refine(aeO L s d h).bind λr A=>?_;have b:ak .geq (aeR L p).1 0=ak .geq (Yi (aaE L p)) 0:=by
  unfold aeR;rw[h];cases t:aaE L p with
  |none=>rfl
  |some i=>rfl
 rw[rp,bS,b];simp only[aX];cases u:r.2.2.2.1 with
 |false=>
  cases Jh p 1 999 with
  |false=>exact .ret (BkR.refl L)
  |true=>cases ak .geq (Yi (aaE L p)) 0 <;> exact .ret (BkR.refl L)
 |true=>
  cases Jh p 1 999 with
  |false=>exact .ret (BkR.refl L)
  |true=>
  cases ak .geq (Yi (aaE L p)) 0 with
  |true=>exact .ret (BkR.refl L)
  |false=>
  obtain⟨i,m,f,q,w,g,j⟩:=af5 (by omega) (A u);have t:=y.2 i m;have l:=(af9 t).1;have c:(L.getD i br).2.1.length<=1073741824:=(d.at m).1;obtain⟨D,B,x⟩:=ajt l (L.getD i br).2.1;obtain⟨a,e,n,o,k⟩:=x.is q (by rw[<-B];exact w);have f:r.1=(i:Int):=f;have g:r.2.1=mS (L.getD i br).2.2 a:=by rw[show r.2.1=q.2.1 from g,k]
  have j:r.2.2.1=mS (L.getD i br).2.2 e-mS (L.getD i br).2.2 a:=by rw[show r.2.2.1=q.2.2.1 from j,k]
  simp only[fu,aW,f,g,j,dX,m,bu,az,cw];rw[ahz _ _ _ _ _ _ c l ⟨n,o⟩,agw _ _ _ _ _ _ _ c l ⟨n,o⟩ w k];simp only[aX,jt];refine .ret (BkR.set _ rfl ?_);have C:=ad8 (mS (L.getD i br).2.2 a) (mS (L.getD i br).2.2 e-mS (L.getD i br).2.2 a) p s;have u:=agi (L.getD i br).2.2 (abX (mS (L.getD i br).2.2 a) (mS (L.getD i br).2.2 e-mS (L.getD i br).2.2 a) p s) a e;show(WI _ a e _).length<=2*(L.getD i br).2.2.length+2;omega
def afp(h:Int)(f:List Int)(l:List Bx){p:Int}(b:f.length<=1073741824)(a:l.length<=1073741824)(g:1<=p):Sm (λr=>r.2.1=f/\r.2.2.1.length=l.length) (SE h f l p) (Sd h f l p):=by
 unfold SE Sd;rw[abn h f l b a,Vl h f l b a,abE h f l a g,Yw h f l p a,Vp h f l b a,Yo h f l b a,<-aeS h f l a];simp only[aX];have c:ak .lss p 1=false:=Gi (by omega);cases Xd h f l with
 |false=>exact .ret ⟨rfl,rfl⟩
 |true=>
  simp only[fu,aW,c];cases d:WZ l p with
  |none=>exact .ret ⟨rfl,rfl⟩
  |some n=>have e:=ade d;simp only[Yi,ahU,aW,dX,e,bu,az,cw,jt];exact .cond (λ_=>.ret ⟨rfl,rfl⟩) λ_=>.ret ⟨rfl,jw⟩
def adD{L:List LK}{p:Int}(a:L6 L)(c:ain L)(h:Kb L=true)(d:1<=p):Sm (λr=>BkR L r.1) (QS L p) (Ns L p):=by
 unfold QS Ns;rw[TC L c,Xf L c,Wb L a d,UJ L a,Xe L p a,h];simp only[aX,fu,aW];unfold aeR;rw[h];cases f:aaE L p with
 |none=>exact .ret (BkR.refl L)
 |some i=>obtain⟨b,_⟩:=ab3 f;simp only[az,Yi,ahU,aW,dX,b,bu,cw];refine(afp _ _ _ (a.at b).1 (a.at b).2 d).bind λr e=>?_;simp only[jt];exact .ret (BkR.set _ (by rw[e.1];rfl) (by rw[e.2];show(L.getD i br).2.2.length<=2*(L.getD i br).2.2.length+2;omega))
def af8(l:List Oc)(b:l.length<=1073741824):Ja l=some (l,()):=by
 unfold Ja;have a:dF (List.append (α:=Oc) ([]:List Oc) l)=true:=rm b;rw[a];cases l with
 |nil=>exact CZ _
 |cons x l=>rw[show ak .gtr (bw (x::l)) (0:Int)=true from gt0 l.length];rfl
def ZP(l:List PM)(b:l.length<=1073741824):vn l=some (l,()):=by
 unfold vn;have a:dF (List.append (α:=PM) ([]:List PM) l)=true:=rm b;rw[a];cases l with
 |nil=>exact CZ _
 |cons x l=>rw[show ak .gtr (bw (x::l)) (0:Int)=true from gt0 l.length];rfl
section
variable (a0 a1 a2 a3 a4 a5 a6 a7 a8 a9 a10:Int)(s:List Site)(p:List Oc)(g:List PM)(j:List Ev)
def adX(h:TJ s p g j):Mv a0 a1 a2 a3 a4 a5 a6 a7 a8 a9 a10 s p g j=some (a0,a1,a2,a3,a4,a5,a6,a7,a8,a9,a10,s,p,g,j,()):=by
 have k:=h.ls;have i:=h.lp;have e:=h.lg;have f:=h.lj;have m:=(qA (body:=K1 (a0,a1,a2,a3,a4,a5,a6,a7,a8,a9,a10,s,p,g,j,s,bw s,())) s bl (by omega) (λ(o:List Site) x=>o++[x])
  (λo n=>((0:Int),(0:Int),(0:Int),(0:Int),(0:Int),(0:Int),(0:Int),(0:Int),(0:Int),(0:Int),(0:Int),([]:List Site),([]:List Oc),([]:List PM),([]:List Ev),a0,a1,a2,a3,a4,a5,a6,a7,a8,a9,a10,o,p,g,j,(n:Int),())) (λn o=>o.length=n)
  (λo=>(Sum.inl ((0:Int),(0:Int),(0:Int),(0:Int),(0:Int),(0:Int),(0:Int),(0:Int),(0:Int),(0:Int),(0:Int),([]:List Site),([]:List Oc),([]:List PM),([]:List Ev),a0,a1,a2,a3,a4,a5,a6,a7,a8,a9,a10,o,p,g,j,()))) (λn o c b=>by
   have a:=h.ss n c;refine⟨?_,by rw[cR,b];rfl⟩;unfold K1;have q:∀x:Site,dF (List.append o (List.append [] [x]))=true:=λx=>rm (by show(o++[x]).length<=_;rw[cR,b];show n+1<=_;omega);have l:ax=bl:=rfl;simp only[bP,dX,cw,c,bu,az,eW (n:=n) (by omega),jE,l];generalize s.getD n bl=x at a;rw[adF x.1 x.2.1 a.o a.c];simp only[aX];rw[Xf x.2.2.1 ⟨a.b,a.bs⟩];simp only[aX];rw[SQ x.2.2.2.2.2.2.2.2.2.2 a.j];simp only[aX,q,az];rfl) (λo _=>by
   unfold K1;simp only[bP,eL,ct,aW]) [] rfl).1
 unfold Mv;have d:Nb (a0,a1,a2,a3,a4,a5,a6,a7,a8,a9,a10,s,p,g,j,s,bw s,()) ((0:Int),(0:Int),(0:Int),(0:Int),(0:Int),(0:Int),(0:Int),(0:Int),(0:Int),(0:Int),(0:Int),[],[],[],[],a0,a1,a2,a3,a4,a5,a6,a7,a8,a9,a10,[],p,g,j,(0:Int),())=_:=m;rw[d,Om (λx:Site=>x),l7,List.map_id',af8 p (by omega),ZP g (by omega),SQ j (by omega)];rfl
def ael(h:TJ s p g j):SJ a0 a1 a2 a3 a4 a5 a6 a7 a8 a9 a10 s p g j=some (a0,a1,a2,a3,a4,a5,a6,a7,a8,a9,a10,s,p,g,j,()):=by
 have l:=h.ls;have k:=h.lp;have f:=h.lg;have i:=h.lj;have q:=(qA (body:=NM (a0,a1,a2,a3,a4,a5,a6,a7,a8,a9,a10,s,p,g,j,())) s bl (by omega) (λ(o:List Site) x=>o++[x])
  (λo n=>((0:Int),(0:Int),(0:Int),(0:Int),(0:Int),(0:Int),(0:Int),(0:Int),(0:Int),(0:Int),(0:Int),([]:List Site),([]:List Oc),([]:List PM),([]:List Ev),a0,a1,a2,a3,a4,a5,a6,a7,a8,a9,a10,o,p,g,j,(n:Int),())) (λn o=>o.length=n)
  (λo=>(Sum.inl ((0:Int),(0:Int),(0:Int),(0:Int),(0:Int),(0:Int),(0:Int),(0:Int),(0:Int),(0:Int),(0:Int),([]:List Site),([]:List Oc),([]:List PM),([]:List Ev),a0,a1,a2,a3,a4,a5,a6,a7,a8,a9,a10,o,p,g,j,()))) (λn o d c=>by
   have a:=h.ss n d;refine⟨?_,by rw[cR,c];rfl⟩;unfold NM;have t:∀x:Site,dF (List.append o (List.append [] [x]))=true:=λx=>rm (by show(o++[x]).length<=_;rw[cR,c];show n+1<=_;omega);have m:ax=bl:=rfl;simp only[bP,dX,cw,d,bu,az,eW (n:=n) (by omega),jE,m];generalize s.getD n bl=x at a;rw[ae6 x.1 x.2.1 a.o a.c];simp only[aX];rw[TC x.2.2.1 ⟨a.b,a.bs⟩];simp only[aX];have b:dF (List.append (α:=Ev) [] x.2.2.2.2.2.2.2.2.2.2)=true:=rm a.j;simp only[b,t,az];rfl) (λo _=>by
   unfold NM;simp only[bP,eL,ct,aW]) [] rfl).1
 unfold SJ;have e:RR (a0,a1,a2,a3,a4,a5,a6,a7,a8,a9,a10,s,p,g,j,()) ((0:Int),(0:Int),(0:Int),(0:Int),(0:Int),(0:Int),(0:Int),(0:Int),(0:Int),(0:Int),(0:Int),[],[],[],[],a0,a1,a2,a3,a4,a5,a6,a7,a8,a9,a10,[],List.append [] p,List.append [] g,List.append [] j,(0:Int),())=_:=q;have u:dF (List.append (α:=Oc) [] p)=true:=rm (by show p.length<=_;omega);have r:dF (List.append (α:=PM) [] g)=true:=rm (by show g.length<=_;omega);have b:dF (List.append (α:=Ev) [] j)=true:=rm (by show j.length<=_;omega);simp only[u,r,b,az,jE];rw[e,Om (λx:Site=>x),l7,List.map_id'];rfl
end
def apB(p t:Int)(x:PM):Bool:=grV x&&(Bool.not x.2.2.2.2.2.2&&((ak .eql x.2.2.1 0||ak .eql x.2.2.1 p)&&(ak .leq x.2.2.2.2.1 t&&ak .lss t x.2.2.2.2.2.1)))
def afy(p t:Int)(x:PM):Pk x.1 x.2.1 x.2.2.1 x.2.2.2.1 x.2.2.2.2.1 x.2.2.2.2.2.1 x.2.2.2.2.2.2 p t=some (apB p t x,())/\Oq x.1 x.2.1 x.2.2.1 x.2.2.2.1 x.2.2.2.2.1 x.2.2.2.2.2.1 x.2.2.2.2.2.2 p t=some (apB p t x,()):=by unfold Pk Oq apB;rw[(abe x).1,(abe x).2];have e:ak .geq t x.2.2.2.2.1=ak .leq x.2.2.2.2.1 t:=rfl;rw[e];cases grV x <;> cases x.2.2.2.2.2.2 <;> cases ak .eql x.2.2.1 0 <;> cases ak .eql x.2.2.1 p <;> cases ak .leq x.2.2.2.2.1 t <;> cases ak .lss t x.2.2.2.2.2.1 <;> exact⟨rfl,rfl⟩
def grF{x:PM}(h:grV x=true):(1<=x.1/\x.1<=40)/\(1<=x.2.1/\x.2.1<=40):=by
 have e:=(abe x).2;rw[h]at e;unfold JY Is at e;simp only[bS,aX]at e;cases a:Jh x.1 1 40 with
 |false=>rw[a]at e;cases e
 |true=>
  cases b:Jh x.2.1 1 40 with
  |false=>rw[a,b]at e;cases e
  |true=>exact⟨kW.1 a,kW.1 b⟩
def aeM{p t:Int}{x:PM}(h:apB p t x=true):grV x=true:=by unfold apB at h;rw[aQ]at h;exact h.1
section
variable (g:List PM)(who p t owner:Int)
def chC(n:Nat)(v:Bool)(x:PM):Bool:=apB p t x&&(ak .geq x.2.2.2.1 (n:Int)&&v)
def chM(m:List (Int×Bool))(n:Nat)(a:List (Int×Bool))(x:PM):List (Int×Bool):=bif chC p t n (jK m x.2.1) x then qf a x.1 true else a
def lvM:Nat->List (Int×Bool)
 |0=>qf [] who true
 |n+1=>g.foldl (chM p t (lvM n) n) []
def chR(r:List Bool)(n:Nat)(a:List Bool)(x:PM):List Bool:=bif chC p t n (ae zB r x.2.1) x then cS a x.1 true else a
def XR:Nat->List Bool
 |0=>cS (nw 41 false) who true
 |n+1=>g.foldl (chR p t (XR n) n) (nw 41 false)
def Rl(m:List (Int×Bool))(r:List Bool):Prop:=r.length=41/\∀k:Int,0<=k->k<=40->jK m k=ae zB r k
def Rl.put{m:List (Int×Bool)}{r:List Bool}(h:Rl m r){x:Int}(f:0<=x)(g:x<=40):Rl (qf m x true) (cS r x true):=by
 refine⟨by unfold cS;rw[jw];exact h.1,λk c d=>?_⟩;rw[ad7];obtain⟨a,rfl⟩:∃a:Nat,x=(a:Int):=⟨x.toNat,by omega⟩
 obtain⟨b,rfl⟩:∃b:Nat,k=(b:Int):=⟨k.toNat,by omega⟩
 have i:=h.1;rw[jt,cw];by_cases e:b=a
 .subst e;rw[cP (by omega)];simp
 .rw[Go.R.getD_set_ne (c6 e),<-cw,<-h.2 _ c d];have:((b:Int)==(a:Int))=false:=by rw[beq_eq_false_iff_ne];intro h;exact e (by omega)
  rw[this];rfl
def Rl.nil:Rl [] (nw 41 false):=by
 refine⟨rfl,λk a c=>?_⟩;obtain⟨b,rfl⟩:∃b:Nat,k=(b:Int):=⟨k.toNat,by omega⟩
 rw[cw];unfold nw;rw[dG];have:b<(List.replicate (Int.toNat 41) false).length:=by rw[zd];show b<41;omega
 rw[bR this,List.getElem_replicate];rfl
def Rl.fold{m:List (Int×Bool)}{r:List Bool}(h:Rl m r)(n:Nat):∀(l:List PM) (a:List (Int×Bool)) (b:List Bool),Rl a b->Rl (l.foldl (chM p t m n) a) (l.foldl (chR p t r n) b)
 |[],_,_,h=>h
 |x::l,a,b,c=>by
  rw[Xa,Xa];refine Rl.fold h n l _ _ ?_;unfold chM chR chC;cases d:apB p t x with
  |false=>exact c
  |true=>
   have e:=grF (aeM d);rw[h.2 x.2.1 (by omega) (by omega)];cases (true&&(ak .geq x.2.2.2.1 (n:Int)&&ae zB r x.2.1))with
   |false=>exact c
   |true=>exact c.put (by omega) (by omega)
def ae7(a:1<=who/\who<=40):∀n,Rl (lvM g who p t n) (XR g who p t n)
 |0=>Rl.nil.put (by omega) (by omega)
 |n+1=>Rl.fold p t (ae7 a n) n g [] _ Rl.nil
def aiL(n:Nat):Bool:=jK (lvM g who p t n) owner
def ae8:Bool:=(List.range 7).any (aiL g who p t owner)
def XS{α:Type}(f:Nat->α){n k:Nat}(h:k<n)(z:α):((List.range n).map f).getD k z=f k:=by rw[dG,p6,xM h];rfl
def XT{α:Type}(f:Nat->α)(n:Nat):((List.range n).map f).length=n:=by simp
def abC{α:Type}(f:Nat->α)(n:Nat):(List.range n).map f++[f n]=(List.range (n+1)).map f:=by rw[acF,Tj];rfl
def anY{n:Nat}(h:n<=100):aa .add .i64 (n:Int) 0=(n:Int):=by rw[sO (by omega) (by omega)];omega
def ahN(e:g.length<=1048576){n:Nat}(f:n<=6)(R:List (List (Int×Bool)))(b:R.getD n zM=lvM g who p t n)(d:n<R.length):Vn (g,owner,p,t,0,(n:Int),g,bw g,()) (R,[],0,())=some (.inl (R,lvM g who p t (n+1),())):=by
 have:=(qA (body:=Qy (g,owner,p,t,0,(n:Int),g,bw g,())) g kC (by omega) (chM p t (lvM g who p t n) n) (λa i=>(R,a,(i:Int),())) (λ_ _=>True) (λa=>(Sum.inl (R,a,()):List (List (Int×Bool))×List (Int×Bool)×Unit⊕Empty)) (λi a c _=>by
  refine⟨?_,trivial⟩;unfold Qy;simp only[bP,dX,cw,c,d,b,bu,az,eW (n:=i) (by omega),(afy p t (g.getD i kC)).2,aX,anY (n:=n) (by omega)];unfold chM chC;cases apB p t (g.getD i kC)with
  |false=>rfl
  |true=>
   simp only[az,ow];cases ak .geq (g.getD i kC).2.2.2.1 (n:Int)with
   |false=>rfl
   |true=>simp only[az,ow];cases jK (lvM g who p t n) (g.getD i kC).2.1 <;> rfl) (λa _=>by
  unfold Qy;simp only[bP,eL,ct,aW]) [] trivial).1
 exact this
def agm(i:g.length<=1048576){k:Nat}(j:1<=k)(R:List (List (Int×Bool)))(l:k<=R.length)(f:k<=100)(out:List Int)(n:out.length<=1000)(a:Int):Yl (QA (g,p,t,0,(k:Int),g,bw g,()) (R,out,a,0,())) λq=>match q with |.inl y=>y.1=R/\y.2.1.length<=out.length+1 |.inr _=>True:=by
 have d:aa .sub .i64 (k:Int) 1=((k-1:Nat):Int):=by
  obtain⟨m,rfl⟩:∃m,k=m+1:=⟨k-1,by omega⟩
  exact ZB (by omega)
 unfold QA;refine Yl.loop (λx=>x.1=R/\x.2.1=out/\0<=x.2.2.2.1/\x.2.2.2.1<=(g.length:Int)) (λx=>g.length-x.2.2.2.1.toNat) (λx h=>?_) big _ ⟨rfl,rfl,LL _,by show(0:Int)<=(g.length:Int);omega⟩ (i7 (by show g.length-0<_;omega));obtain⟨x1,x2,x3,o⟩:=h;unfold Ys;refine .cond (λc=>?_) λ_=>.ret ⟨x1,by rw[x2];omega⟩;have c:x.2.2.2.1<(g.length:Int):=ck c;have e:aa .add .i64 x.2.2.2.1 1=x.2.2.2.1+1:=sO (by omega) (by omega);have b:(x.1=R/\x.2.1=out/\0<=aa .add .i64 x.2.2.2.1 1/\aa .add .i64 x.2.2.2.1 1<=(g.length:Int))/\g.length-(aa .add .i64 x.2.2.2.1 1).toNat<g.length-x.2.2.2.1.toNat:=by rw[e];exact⟨⟨x1,x2,by omega,by omega⟩,by omega⟩
 have ap:=(afy p t (ae kC g x.2.2.2.1)).2;refine .guard (Sj x3 c) (.cond (λ_=>?_) λ_=>.ret b);refine Yl.bind (P:=λ_=>True) ⟨_,ap,trivial⟩ λr _=>.cond (λ_=>.cond (λ_=>.guard ?_ (.cond (λ_=>.guard ?_ (.ret ?_)) λ_=>.ret b)) λ_=>.ret b) λ_=>.ret b
 .show aZ x.1 (aa .sub .i64 (k:Int) 1)=true;rw[d,x1,dX];exact iO (by omega)
 .refine rm ?_;show(x.2.1++[_]).length<=_;rw[x2,cR];show out.length+1<=_;omega
 .refine⟨x1,?_⟩;show(x.2.1++[_]).length<=_;rw[x2,cR];exact aJ _
def ahO(h:g.length<=1048576){n:Nat}(l:n<=6)(R:List (List (Int×Bool)))(j:n<R.length)(a:Int):Yl (Qz (g,p,t,0,()) (R,[],a,(n:Int),())) λq=>match q with |.inl _=>True |.inr _=>True:=by
 unfold Qz;refine Yl.loop (λx=>x.1=R/\0<=x.2.2.2.1/\x.2.2.2.1<=(n:Int)/\(x.2.1.length:Int)+x.2.2.2.1<=(n:Int)) (λx=>x.2.2.2.1.toNat) (λx i=>?_) big _ ⟨rfl,by show(0:Int)<=(n:Int);omega,LL _,by show(0:Int)+(n:Int)<=(n:Int);omega⟩ (i7 (by show((n:Int)).toNat<_;omega));obtain⟨x1,x2,x3,m⟩:=i;unfold Yr;refine .cond (λc=>?_) λ_=>.ret trivial;have c:0<x.2.2.2.1:=ck c;obtain⟨k,d⟩:∃k:Nat,x.2.2.2.1=((k+1:Nat):Int):=⟨(x.2.2.2.1-1).toNat,by omega⟩
 have f:=agm g p t h (k:=k+1) (by omega) x.1 (by rw[x1];omega) (by omega) x.2.1 (by omega) x.2.2.1;rw[<-d]at f;refine Yl.bind f λq b=>?_;match q,b with
 |.inl y,b=>
  have e:aa .sub .i64 x.2.2.2.1 1=(k:Int):=by rw[d];exact ZB (by omega)
  refine .ret ⟨⟨b.1.trans x1,?_,?_,?_⟩,?_⟩
  .show 0<=aa .sub .i64 x.2.2.2.1 1;rw[e];omega
  .show aa .sub .i64 x.2.2.2.1 1<=_;rw[e];omega
  .show(y.2.1.length:Int)+aa .sub .i64 x.2.2.2.1 1<=_;rw[e];have:=b.2;omega
  .show(aa .sub .i64 x.2.2.2.1 1).toNat<x.2.2.2.1.toNat;rw[e];omega
 |.inr q,_=>exact nomatch q
def any_true{f:Nat->Bool}{n m:Nat}(h:n<m)(a:f n=true):(List.range m).any f=true:=qF.2 ⟨n,acA.2 h,a⟩
def any_false{f:Nat->Bool}{m:Nat}(h:∀n,n<m->f n=false):(List.range m).any f=false:=by rw[List.any_eq_false];intro x a;rw[h x (acA.1 a)];exact λh=>by cases h
def acV(o:g.length<=1048576):Yl (V5 g owner who p t 0) λr=>r.2.1=ae8 g who p t owner:=by
 unfold V5;refine .guard (rm (by show 1<=_;omega)) ?_;have j:Yl (LF (g,owner,p,t,0,()) ((List.range (0+1)).map (lvM g who p t),((0:Nat):Int),())) λq=>match q with |.inl y=>y.2.1=true/\ae8 g who p t owner=true |.inr _=>ae8 g who p t owner=false:=by
  unfold LF;refine Yl.loop (λx=>∃n:Nat,n<=7/\x=((List.range (n+1)).map (lvM g who p t),(n:Int),())/\∀m,m<n->aiL g who p t owner m=false) (λx=>7-x.2.1.toNat) (λx v=>?_) big _ ⟨0,by omega,rfl,λm k=>absurd k (vI _)⟩ (i7 (by show 7-0<_;omega));obtain⟨n,w,rfl,f⟩:=v;unfold Yq;refine .cond (λd=>?_) λd=>.ret (any_false λm k=>f m (by have d:¬(n:Int)<=6:=Jx d;omega));have d:(n:Int)<=6:=ck d;have a:((List.range (n+1)).map (lvM g who p t)).length=n+1:=XT _ _;have c:((List.range (n+1)).map (lvM g who p t)).getD n zM=lvM g who p t n:=XS _ (by omega) _;refine .guard (by rw[dX,a];exact iO (by omega)) ?_;have u:jK (ae zM ((List.range (n+1)).map (lvM g who p t)) (n:Int)) owner=aiL g who p t owner n:=by rw[cw,c];rfl
  show Yl (bif jK (ae zM ((List.range (n+1)).map (lvM g who p t)) (n:Int)) owner then _ else _) _;rw[u];refine .cond (λi=>?_) λi=>?_
  .refine Yl.bind (ahO g p t o (n:=n) (by omega) _ (by rw[a];omega) owner) λq b=>?_;match q,b with
   |.inl y,b=>exact .ret ⟨rfl,any_true (by omega) i⟩
   |.inr q,_=>exact nomatch q
  .rw[ahN g who p t owner o (n:=n) (by omega) _ c (by rw[a];omega)];refine .guard (rm (by show(_++[_]).length<=_;rw[cR,a];show n+1+1<=_;omega)) (.ret ?_);have l:aa .add .i64 (n:Int) 1=((n+1:Nat):Int):=eW (n:=n) (by omega);refine⟨⟨n+1,by omega,?_,λm k=>?_⟩,?_⟩
   .show((List.range (n+1)).map (lvM g who p t)++[lvM g who p t (n+1)],aa .add .i64 (n:Int) 1,())=_;rw[l,abC]
   .rcases iA m n with h|h
    .exact f m h
    .rw[show m=n by omega];exact i
   .show 7-(aa .add .i64 (n:Int) 1).toNat<7-((n:Int)).toNat;rw[l];omega
 have s:LF (g,owner,p,t,0,()) ((List.range (0+1)).map (lvM g who p t),((0:Nat):Int),())=LF (g,owner,p,t,0,()) (List.append [] (List.append [] [qf [] who true]),0,()):=rfl;rw[<-s];refine j.bind λq b=>?_;match q,b with
 |.inl y,b=>exact .ret (b.1.trans b.2.symm)
 |.inr (.inl y),b=>exact .ret (Eq.symm b)
 |.inr (.inr e),_=>exact nomatch e
def ac5(a:1<=who/\who<=40)(n:Nat):(XR g who p t n).length=41:=(ae7 g who p t a n).1
def aiz(r:List Bool)(n:Nat)(a:List Bool)(x:PM):(chR p t r n a x).length=a.length:=by
 unfold chR;cases chC p t n (ae zB r x.2.1) x with
 |false=>rfl
 |true=>exact jw
def ah7(k:1<=who/\who<=40)(o:g.length<=1048576){n:Nat}(q:n<=6)(R:List (List Bool))(c:R.getD n ZH=XR g who p t n)(h:n<R.length):Qs (g,p,t,0,((n+1:Nat):Int),()) (R,nw 41 false,0,())=some (.inl (R,XR g who p t (n+1),())):=by
 have j:=ac5 g who p t k n;have:=(qA (body:=MY (g,p,t,0,((n+1:Nat):Int),())) g kC (by omega) (chR p t (XR g who p t n) n) (λa i=>(R,a,(i:Int),())) (λ_ a=>a.length=41) (λa=>(Sum.inl (R,a,()):List (List Bool)×List Bool×Unit⊕Empty)) (λi a f d=>by
  refine⟨?_,by rw[aiz];exact d⟩;unfold MY;simp only[bP,dX,cw,f,h,c,bu,az,eW (n:=i) (by omega),(afy p t (g.getD i kC)).1,aX,ZB (n:=n) (by omega),anY (n:=n) (by omega)];unfold chR chC;cases b:apB p t (g.getD i kC)with
  |false=>rfl
  |true=>
   have e:=grF (aeM b);have l:aZ (XR g who p t n) (g.getD i kC).2.1=true:=Sj (by omega) (by omega);have m:aZ a (g.getD i kC).1=true:=Sj (by omega) (by omega);simp only[az,ow,l,m];cases ak .geq (g.getD i kC).2.2.2.1 (n:Int)with
   |false=>rfl
   |true=>simp only[az,ow];cases ae zB (XR g who p t n) (g.getD i kC).2.1 <;> rfl) (λa _=>by
  unfold MY;simp only[bP,eL,ct,aW]) (nw 41 false) rfl).1
 exact this
def adl(h:1<=who/\who<=40)(f:g.length<=1048576):Q0 g who p t 0=some ((List.range 7).map (XR g who p t),()):=by have:=lc (body:=Qr (g,p,t,0,())) (λn=>((List.range (n+1)).map (XR g who p t),((n+1:Nat):Int),())) 6 (by omega) (Sum.inl ((List.range 7).map (XR g who p t),()):List (List Bool)×Unit⊕Empty) (λn k=>by unfold Qr;have a:((List.range (n+1)).map (XR g who p t)).length=n+1:=XT _ _;have b:((List.range (n+1)).map (XR g who p t)).getD n ZH=XR g who p t n:=XS _ (by omega) _;have c:ak .leq ((n+1:Nat):Int) 6=true:=iO (by omega);have d:lu 41=true:=rfl;have j:dF (List.append ((List.range (n+1)).map (XR g who p t)) (List.append [] [XR g who p t (n+1)]))=true:=rm (by show(_++[_]).length<=_;rw[cR,a];show n+1+1<=_;omega);simp only[c,d,az];rw[ah7 g who p t h f (n:=n) (by omega) _ b (by rw[a];omega)];simp only[aX,NQ,j,az,eW (n:=n+1) (by omega)];show some (Sum.inl ((List.range (n+1)).map (XR g who p t)++[XR g who p t (n+1)],_,()))=_;rw[abC]) rfl;unfold Q0;have i:aZ (ae ZH (List.append (α:=List Bool) [] [nw 41 false]) 0) who=true:=Sj (l:=nw 41 false) (by omega) (by show who<((List.replicate (Int.toNat 41) false).length:Int);rw[zd];show who<41;omega);rw[show lu 41=true from rfl,show aZ (List.append (α:=List Bool) [] [nw 41 false]) 0=true from rfl,i];show Option.bind (MZ (g,p,t,0,()) ((List.range (0+1)).map (XR g who p t),((0+1:Nat):Int),())) _=_;have e:MZ (g,p,t,0,()) ((List.range (0+1)).map (XR g who p t),((0+1:Nat):Int),())=_:=this;rw[e];rfl
def agG(s:1<=who/\who<=40)(v:g.length<=1048576){k:Nat}(w:1<=k)(n:k<=7)(out:List Int)(z:out.length<=1000)(a:Int):Yl (NI (g,p,t,(k:Int),()) ((List.range 7).map (XR g who p t),out,a,0,())) λq=>match q with |.inl y=>y.1=(List.range 7).map (XR g who p t)/\y.2.1.length<=out.length+1 |.inr _=>True:=by
 generalize f:(List.range 7).map (XR g who p t)=R;have j:R.length=7:=by rw[<-f];exact XT _ _
 have e:R.getD (k-1) ZH=XR g who p t (k-1):=by rw[<-f];exact XS _ (by omega) _
 have b:aa .sub .i64 (k:Int) 1=((k-1:Nat):Int):=by
  obtain⟨m,rfl⟩:∃m,k=m+1:=⟨k-1,by omega⟩
  exact ZB (by omega)
 unfold NI;refine Yl.loop (λx=>x.1=R/\x.2.1=out/\0<=x.2.2.2.1/\x.2.2.2.1<=(g.length:Int)) (λx=>g.length-x.2.2.2.1.toNat) (λx u=>?_) big _ ⟨rfl,rfl,LL _,by show(0:Int)<=(g.length:Int);omega⟩ (i7 (by show g.length-0<_;omega));obtain⟨x1,x2,x3,A⟩:=u;unfold WO;refine .cond (λd=>?_) λ_=>.ret ⟨x1,by rw[x2];omega⟩;have d:x.2.2.2.1<(g.length:Int):=ck d;have h:aa .add .i64 x.2.2.2.1 1=x.2.2.2.1+1:=sO (by omega) (by omega);have c:(x.1=R/\x.2.1=out/\0<=aa .add .i64 x.2.2.2.1 1/\aa .add .i64 x.2.2.2.1 1<=(g.length:Int))/\g.length-(aa .add .i64 x.2.2.2.1 1).toNat<g.length-x.2.2.2.1.toNat:=by rw[h];exact⟨⟨x1,x2,by omega,by omega⟩,by omega⟩
 have ap:=(afy p t (ae kC g x.2.2.2.1)).1;refine .guard (Sj x3 d) (.cond (λ_=>?_) λ_=>.ret c);refine Yl.bind (P:=λr=>r.1=apB p t (ae kC g x.2.2.2.1)) ⟨_,ap,rfl⟩ λr o=>.cond (λi=>.cond (λ_=>.guard ?_ (.guard ?_ (.cond (λ_=>.guard ?_ (.ret ?_)) λ_=>.ret c))) λ_=>.ret c) λ_=>.ret c
 .show aZ x.1 (aa .sub .i64 (k:Int) 1)=true;rw[b,x1,dX];exact iO (by omega)
 .have l:=grF (aeM (o.symm.trans i));show aZ (ae ZH x.1 (aa .sub .i64 (k:Int) 1)) (ae kC g x.2.2.2.1).2.1=true;rw[b,x1,cw,e];have:=ac5 g who p t s (k-1);exact Sj (by omega) (by omega)
 .refine rm ?_;show(x.2.1++[_]).length<=_;rw[x2,cR];show out.length+1<=_;omega
 .refine⟨x1,?_⟩;show(x.2.1++[_]).length<=_;rw[x2,cR];exact aJ _
def ah8(i:1<=who/\who<=40)(h:g.length<=1048576){n:Nat}(l:n<=6)(a:Int):Yl (NH (g,p,t,()) ((List.range 7).map (XR g who p t),[],a,(n:Int),())) λq=>match q with |.inl _=>True |.inr _=>True:=by
 unfold NH;refine Yl.loop (λx=>x.1=(List.range 7).map (XR g who p t)/\0<=x.2.2.2.1/\x.2.2.2.1<=(n:Int)/\(x.2.1.length:Int)+x.2.2.2.1<=(n:Int)) (λx=>x.2.2.2.1.toNat) (λx j=>?_) big _ ⟨rfl,by show(0:Int)<=(n:Int);omega,LL _,by show(0:Int)+(n:Int)<=(n:Int);omega⟩ (i7 (by show((n:Int)).toNat<_;omega));obtain⟨x1,x2,x3,m⟩:=j;unfold WN;refine .cond (λc=>?_) λ_=>.ret trivial;have c:0<x.2.2.2.1:=ck c;obtain⟨k,d⟩:∃k:Nat,x.2.2.2.1=((k+1:Nat):Int):=⟨(x.2.2.2.1-1).toNat,by omega⟩
 have f:=agG g who p t i h (k:=k+1) (by omega) (by omega) x.2.1 (by omega) x.2.2.1;rw[<-d,<-x1]at f;refine Yl.bind f λq b=>?_;match q,b with
 |.inl y,b=>
  have e:aa .sub .i64 x.2.2.2.1 1=(k:Int):=by rw[d];exact ZB (by omega)
  refine .ret ⟨⟨b.1.trans x1,?_,?_,?_⟩,?_⟩
  .show 0<=aa .sub .i64 x.2.2.2.1 1;rw[e];omega
  .show aa .sub .i64 x.2.2.2.1 1<=_;rw[e];omega
  .show(y.2.1.length:Int)+aa .sub .i64 x.2.2.2.1 1<=_;rw[e];have:=b.2;omega
  .show(aa .sub .i64 x.2.2.2.1 1).toNat<x.2.2.2.1.toNat;rw[e];omega
 |.inr q,_=>exact nomatch q
def adm(s:1<=who/\who<=40)(z:1<=owner/\owner<=40):Yl (Q1 ((List.range 7).map (XR g who p t)) owner) λr=>(ae8 g who p t owner=true/\∃n:Nat,n<=6/\r.1=(n:Int))\/(ae8 g who p t owner=false/\r.1 = -1):=by
 unfold Q1;have k:Yl (M0 ((List.range 7).map (XR g who p t),owner,()) (((0:Nat):Int),())) λq=>match q with |.inl y=>ae8 g who p t owner=true/\∃n:Nat,n<=6/\y.1=(n:Int) |.inr _=>ae8 g who p t owner=false:=by
  unfold M0;refine Yl.loop (λx=>∃n:Nat,n<=7/\x=((n:Int),())/\∀m,m<n->aiL g who p t owner m=false) (λx=>7-x.1.toNat) (λx v=>?_) big _ ⟨0,by omega,rfl,λm l=>absurd l (vI _)⟩ (i7 (by show 7-0<_;omega));obtain⟨n,w,rfl,d⟩:=v;have c:((List.range 7).map (XR g who p t)).length=7:=XT _ _;unfold VU;show Yl (bif ak .lss (n:Int) (bw ((List.range 7).map (XR g who p t)))then _ else _) _;rw[bP,c];refine .cond (λa=>?_) λa=>.ret (any_false λm l=>d m (by have a:¬n<7:=Jx a;omega));have a:n<7:=ck a;have b:((List.range 7).map (XR g who p t)).getD n ZH=XR g who p t n:=XS _ a _;have u:=ac5 g who p t s n;have i:=(ae7 g who p t s n).2 owner (by omega) (by omega);refine .guard (by rw[dX,c];exact iO a) (.guard (by show aZ (ae ZH ((List.range 7).map (XR g who p t)) (n:Int)) owner=true;rw[cw,b];exact Sj (by omega) (by omega)) ?_);show Yl (bif ae zB (ae ZH ((List.range 7).map (XR g who p t)) (n:Int)) owner then _ else _) _;rw[cw,b,<-i];refine .cond (λj=>.ret ⟨any_true a j,n,by omega,rfl⟩) λj=>.ret ?_;have o:aa .add .i64 (n:Int) 1=((n+1:Nat):Int):=eW (n:=n) (by omega);refine⟨⟨n+1,by omega,?_,λm l=>?_⟩,?_⟩
  .rw[o]
  .rcases iA m n with h|h
   .exact d m h
   .rw[show m=n by omega];exact j
  .show 7-(aa .add .i64 (n:Int) 1).toNat<7-((n:Int)).toNat;rw[o];omega
 refine Yl.bind k λq f=>?_;match q,f with
 |.inl y,f=>exact .ret (.inl f)
 |.inr (.inl y),f=>exact .ret (.inr ⟨f,rfl⟩)
 |.inr (.inr e),_=>exact nomatch e
def aiI(c:g.length<=1073741824):Sm (λr=>r.1=true->(1<=owner/\owner<=40)/\(1<=who/\who<=40)) (SI g owner who p t) (V3 g owner who p t):=by
 unfold SI V3 Jf Is M1;have no:(false:Bool)=true->(1<=owner/\owner<=40)/\(1<=who/\who<=40):=λh=>by cases h
 refine(ace g c).bind λr _=>.cond (λ_=>?_) λ_=>.ret no;simp only[rp,bS,Lg,aX];cases a:Jh owner 1 40 with
 |false=>exact .ret no
 |true=>
 cases b:Jh who 1 40 with
 |false=>exact .ret no
 |true=>
 cases Jh p 1 999 with
 |false=>exact .ret no
 |true=>exact .ret λ_=>⟨kW.1 a,kW.1 b⟩
def abr(a:g.length<=1048576):Sm Any (Pu g owner who p t) (Oz g owner who p t):=by
 unfold Pu Oz We V1;obtain⟨r,f,h,i⟩:=aiI g who p t owner (by omega);rw[f,h];simp only[aX];obtain⟨v,u⟩:=r;cases v with
 |false=>exact .ret trivial
 |true=>
  obtain⟨k,b⟩:=i rfl;obtain⟨y,l,d⟩:=acV g who p t owner a;rw[l,adl g who p t b a];simp only[aX,fu,aW];obtain⟨z,o,s⟩:=adm g who p t owner b k;rw[o];simp only[aX];rcases s with ⟨m1,n,j,c⟩|⟨m1,c⟩
  .rw[c,ahU,aW];obtain⟨q,m,_⟩:=ah8 g who p t b a j owner;rw[m];cases q with
   |inl w=>exact⟨(true,()),rfl,by rw[d,m1],trivial⟩
   |inr e=>exact e.elim
  .rw[c];exact⟨(false,()),rfl,by rw[d,m1],trivial⟩
end
def acM(o c:List M8)(a0 a1 a2 a3 a4 a5 a6 a7 t now x:Int):Sm Any (Po o c a0 a1 a2 a3 a4 a5 a6 a7 t now x) (Ov o c a0 a1 a2 a3 a4 a5 a6 a7 t now x):=by
 unfold Po Ov Wf;obtain⟨r,h,d,a⟩:=Xg o c a0 a1 a2 a3 a4 a5 a6 a7 t x;obtain⟨q,i,f,_⟩:=Xg o c a0 a1 a2 a3 a4 a5 a6 a7 t (aa .add .i64 x 1);obtain⟨z,j,g,_⟩:=abw o c a0 a1 a2 a3 a4 a5 a6 a7 t now x;rw[h,d,i,f,j,g,rp,Lg];simp only[aX];cases b:r.2.1 with
 |false=>exact .ret trivial
 |true=>
  obtain⟨k,_,_⟩:=a b;cases q.2.1 with
  |false=>exact .ret trivial
  |true=>
   have e:Jh now t 20000=(Jh now 0 20000&&ak .geq now t):=by rw[PT,aQ,kW,kW,show ak .geq now t=decide (now>=t)from rfl,decide_eq_true_iff];omega
   rw[e];cases Jh now 0 20000 with
   |false=>exact .ret trivial
   |true=>cases ak .geq now t <;> exact .ret trivial
def R3(x:Site):List Ev:=x.2.2.2.2.2.2.2.2.2.2
def Nd(j:List Ev):List (List Ev)->List Ev×Bool
 |[]=>(j,true)
 |x::r=>bif (JN j x).2 then Nd (JN j x).1 r else([],false)
def ahS(r:List Ev×Bool):List Ev×Bool×Unit⊕(List Ev×Unit⊕Empty):=bif r.2 then .inr (.inl (r.1,()))else .inl (r.1,false,())
def abm:∀(s:List Site) (j:List Ev),Bc (λ(l:List Ev) x=>bif (JN l (R3 x)).2 then .inl (JN l (R3 x)).1 else .inr (Sum.inl ([],false,()):List Ev×Bool×Unit⊕(List Ev×Unit⊕Empty))) (λl=>.inr (.inl (l,()))) s j=ahS (Nd j (s.map R3))
 |[],_=>rfl
 |x::s,j=>by
  have a:=abm s (JN j (R3 x)).1;simp only[Bc,fm,Nd];cases b:(JN j (R3 x)).2 with
  |true=>exact a
  |false=>rfl
section
variable (a0 a1 a2 a3 a4 a5 a6 a7 a8 a9 a10:Int)(s:List Site)(p:List Oc)(g:List PM)(j:List Ev)
def UW(e:j.length<=1048576)(f:s.length<=1048576):M2 a0 a1 a2 a3 a4 a5 a6 a7 a8 a9 a10 s p g j=some ((Nd j (s.map R3)).1,(Nd j (s.map R3)).2,())/\Ko a0 a1 a2 a3 a4 a5 a6 a7 a8 a9 a10 s p g j=some ((Nd j (s.map R3)).1,(Nd j (s.map R3)).2,()):=by
 have c:K4 (a0,a1,a2,a3,a4,a5,a6,a7,a8,a9,a10,s,p,g,j,()) (j,(0:Int),())=some (ahS (Nd j (s.map R3))):=by
  rw[<-abm];exact DK s bl (by omega) (λl n=>(l,(n:Int),())) _ _ (λ_ _=>True) (λn l a _=>⟨by
   unfold Nq;have b:ax=bl:=rfl;simp only[bP,dX,cw,a,bu,az,eW (n:=n) (by omega),Wc,aX,b];show(bif Bool.not (JN l (R3 (s.getD n bl))).2 then _ else some (Sum.inl ((JN l (R3 (s.getD n bl))).1,_,())))=_;cases (JN l (R3 (s.getD n bl))).2 <;> rfl,λ_ _=>trivial⟩) (λl _=>by
   unfold Nq;simp only[bP,eL,ct,aW]) j trivial
 have d:OK (s,bw s,()) (j,(0:Int),())=some (ahS (Nd j (s.map R3))):=by
  rw[<-abm];exact DK s bl (by omega) (λl n=>(l,(n:Int),())) _ _ (λ_ _=>True) (λn l a _=>⟨by
   unfold Tx;have b:ax=bl:=rfl;simp only[bP,dX,cw,a,bu,az,eW (n:=n) (by omega),VZ,aX,b];show(bif Bool.not (JN l (R3 (s.getD n bl))).2 then _ else some (Sum.inl ((JN l (R3 (s.getD n bl))).1,_,())))=_;cases (JN l (R3 (s.getD n bl))).2 <;> rfl,λ_ _=>trivial⟩) (λl _=>by
   unfold Tx;simp only[bP,eL,ct,aW]) j trivial
 constructor
 .unfold M2;rw[show dF (List.append (α:=Ev) ([]:List Ev) j)=true from rm (by show j.length<=_;omega),az];show Option.bind (K4 (a0,a1,a2,a3,a4,a5,a6,a7,a8,a9,a10,s,p,g,j,()) (j,(0:Int),())) _=_;rw[c];unfold ahS;cases (Nd j (s.map R3)).2 <;> rfl
 .unfold Ko;rw[SQ j (by omega)];show Option.bind (OK (s,bw s,()) (j,(0:Int),())) _=_;rw[d];unfold ahS;cases (Nd j (s.map R3)).2 <;> rfl
end
noncomputable abbrev ajg:Oc:=aS
def wrS(s:List Site)(j:List Ev)(k:Nat)(kd pc a b:Int):List Site×Bool:=
 bif (Nd j (s.map R3)).2&&Bool.not (ak .geq (bw (Nd j (s.map R3)).1) 60)then
  (s.set k ((s.getD k bl).1,(s.getD k bl).2.1,(s.getD k bl).2.2.1,(s.getD k bl).2.2.2.1,(s.getD k bl).2.2.2.2.1,(s.getD k bl).2.2.2.2.2.1,(s.getD k bl).2.2.2.2.2.2.1,(s.getD k bl).2.2.2.2.2.2.2.1,(s.getD k bl).2.2.2.2.2.2.2.2.1,(s.getD k bl).2.2.2.2.2.2.2.2.2.1,(Ll (R3 (s.getD k bl)) k kd pc a b).1),(Ll (R3 (s.getD k bl)) k kd pc a b).2)
 else(s,false)
def afI{s:List Site}{k:Nat}{x:Site}(h:R3 x=R3 (s.getD k bl)):(s.set k x).map R3=s.map R3:=by
 apply List.ext_getElem?;intro i;rw[p6,p6,List.getElem?_set];split
 .rename_i e;subst e;split
  .rename_i a;rw[bR a,cj,cj,h,dG,bR a];rfl
  .rename_i a;rw[oq (by omega)]
 .rfl
section
variable (a0 a1 a2 a3 a4 a5 a6 a7 a8 a9 a10:Int)(s:List Site)(p:List Oc)(g:List PM)(j:List Ev)
def ZD(c:TJ s p g j){k:Nat}(d:k<s.length)(kd pc a b:Int):JE a0 a1 a2 a3 a4 a5 a6 a7 a8 a9 a10 s p g j k kd pc a b=some (a0,a1,a2,a3,a4,a5,a6,a7,a8,a9,a10,(wrS s j k kd pc a b).1,p,g,j,(wrS s j k kd pc a b).2,()):=by
 unfold JE;refine(Ym (UW a0 a1 a2 a3 a4 a5 a6 a7 a8 a9 a10 s p g j c.lj c.ls).1).trans ?_;unfold wrS;cases (Nd j (s.map R3)).2 with
 |false=>rfl
 |true=>
  simp only[fu,aW,ow];cases ak .geq (bw (Nd j (s.map R3)).1) 60 with
  |true=>rfl
  |false=>refine(cT (J1 d)).trans ((Ym (afj _ k kd pc a b (by rw[cw];exact(c.ss k d).j))).trans ((cT (J1 d)).trans ((JT (jt _ _ _)).trans ?_)));simp only[cw];rfl
end
def KP{α a:Type}(x:α)(k:α->a):lets x k=k x:=Eq.trans rfl rfl
def aa4{α:Type}{b c:Bool}{x y:α}(h:b=c):(bif b then x else y)=(bif c then x else y):=by rw[h]
def aa2{α a:Type}{x y:Option α}{f:α->Option a}(h:x=y):x.bind f=y.bind f:=by rw[h]
attribute [local congr] aa4 aa2
def Tk(s:List Site):List Nat:=s.map λx=>x.2.2.1.length
def af4{s:List Site}{k:Nat}{x:Site}(a:k<s.length)(h:x.2.2.1.length=(s.getD k bl).2.2.1.length):Tk (s.set k x)=Tk s:=by
 unfold Tk;rw[List.map_set,h,dG,bR a];exact List.ext_getElem (by rw[jw]) λn b c=>by
  by_cases e:k=n
  .subst e;rw[List.getElem_set_self,List.getElem_map];rfl
  .rw[List.getElem_set_ne e]
structure K0 (M:List Nat) (s:List Site) (p:List Oc) (g:List PM) (j:List Ev):Prop where
 ls:s.length<=1048576
 ss:∀n,n<s.length->Np 1073741824 (s.getD n bl)
 lp:p.length<=1048576
 lg:g.length<=1048576
 lj:j.length<=1048576
 bk:Tk s=M
def K0.le{M:List Nat}{s:List Site}{p:List Oc}{g:List PM}{j:List Ev}(h:K0 M s p g j):TJ s p g j:=⟨h.ls,h.ss,h.lp,h.lg,h.lj⟩
def MK{M:List Nat}{s:List Site}{p:List Oc}{g:List PM}{j:List Ev}(h:K0 M s p g j){k m:Nat}{x y:Site}{q:Oc}(b:k<s.length)(c:s.getD k bl=y)(d:Np 1073741824 x)(a:x.2.2.1.length=y.2.2.1.length):K0 M (s.set k x) (p.set m q) g j where
 ls:=by rw[jw];exact h.ls
 ss n hn:=by
  rw[jw]at hn;by_cases e:k=n
  .subst e;rw[cP hn];exact d
  .rw[Go.R.getD_set_ne e];exact h.ss n hn
 lp:=by rw[jw];exact h.lp
 lg:=h.lg
 lj:=h.lj
 bk:=by rw[af4 b (by rw[c];exact a)];exact h.bk
def ahj{L L':List LK}(h:BkR L L')(f:L6 L)(e:Kb L=true):∀n,n<L'.length->VK 1073741824 (L'.getD n JL):=λn a=>by rw[h.1]at a;have c:=h.2 n a;have b:=aaL f e a;have d:(L.getD n br)=L.getD n JL:=rfl;rw[d]at b;exact⟨by rw[c.1];exact b.1,by omega⟩
def ab2(l:List Ev)(n kd pc a b:Int):(Ll l n kd pc a b).1.length<=l.length+1:=by
 unfold Ll R4;cases SR l with
 |false=>exact ot _
 |true=>
  simp only[az];cases SR (l.take (L7 l n).2.2.1++[adb l n kd pc a b]++l.drop (L7 l n).2.2.1)with
  |false=>exact ot _
  |true=>simp only[az,cR,dB,kg,List.length_singleton];omega
def ajf{s:List Site}{j:List Ev}{k:Nat}(l:k<s.length){o c:List M8}{b:List LK}{kd i:Int}{f g h:Bool}{a d:Int}{e:List Ev}(m:R3 (s.getD k bl)=e)(kk pc x y:Int):
  wrS (s.set k (o,c,b,kd,i,f,g,h,a,d,e)) j k kk pc x y=bif (Nd j (s.map R3)).2&&Bool.not (ak .geq (bw (Nd j (s.map R3)).1) 60)then(s.set k (o,c,b,kd,i,f,g,h,a,d,(Ll e k kk pc x y).1),(Ll e k kk pc x y).2)else(s.set k (o,c,b,kd,i,f,g,h,a,d,e),false):=by
 unfold wrS;rw[afI (k:=k) (x:=(o,c,b,kd,i,f,g,h,a,d,e)) (by rw[m];rfl),cP l,qe];rfl
def ah4(a n:Int):Int:=aa .add .i64 (aa .rem .i64 (aa .add .i64 a (aa .mul .i64 7919 n)) 2147483646) 1
def ai3{a n:Int}(f:1<=a/\a<=2147483646)(g:1<=n/\n<=12):1<=ah4 a n/\ah4 a n<=2147483646:=by unfold ah4;have b:aa .mul .i64 7919 n=7919*n:=Fh (by omega) (by omega);have c:aa .add .i64 a (7919*n)=a+7919*n:=sO (by omega) (by omega);rw[b,c];have h:aa .rem .i64 (a+7919*n) 2147483646=(a+7919*n) % 2147483646:=acH (by omega);rw[h];have d:=Int.emod_nonneg (a+7919*n) (show(2147483646:Int)≠0 by decide);have e:=Int.emod_lt_of_pos (a+7919*n) (show(0:Int)<2147483646 by decide);rw[sO (by omega) (by omega)];omega
def afa{y:Int}(h:1<=y/\y<=2147483646):Sb y=some (y,0,0,0,0,true,()):=by unfold Sb Kl Jt;simp only[bS,aX,kW.2 h];rfl
section
variable (M:List Nat)(a0 a1 a2 a3 a4 a5 a6 a7 a8 a9 a10:Int)(s:List Site)(p:List Oc)(g:List PM)(j:List Ev)
def akI(x:Option (Int×Int×Int×Int×Int×Int×Int×Int×Int×Int×Int×List Site×List Oc×List PM×List Ev×Int×Unit))(y:Option (Bool×Int×Int×Int×Int×Int×Int×Int×Int×Int×Int×Int×List Site×List Oc×List PM×List Ev×Unit)):Prop:=∃code ok b a d c,x=some (a0,a1,a2,a3,a4,a5,a6,a7,a8,a9,a10,b,a,g,j,code,())/\y=some (ok,a0,a1,a2,a3,a4,a5,a6,a7,a8,a9,a10,d,c,g,j,())/\((code=0/\ok=true/\b=d/\a=c/\K0 M b a g j)\/(code=10/\ok=false))
def afR(a:1<=a9/\a9<=2147483646){n:Int}(b:1<=n/\n<=12):J0 a0 a1 a2 a3 a4 a5 a6 a7 a8 a9 a10 s p g j n=some (ah4 a9 n,())/\Km a0 a1 a2 a3 a4 a5 a6 a7 a8 a9 a10 s p g j n=some (ah4 a9 n,()):=by unfold J0 Km Js Jt;simp only[rp,bS,aX,kW.2 a,kW.2 b];exact⟨rfl,rfl⟩
def agC (e:K0 M s p g j) {k m:Nat} (l:k<s.length) (f:m<p.length) {o c:List M8} {b:List LK} {kd st:Int} {d1 d2 d3:Bool} {a i:Int} {w:List Ev} (Q:s.getD k ax=(o,c,b,kd,st,d1,d2,d3,a,i,w))
  {q1 q2 q3 q4 q5 q6 l1 l2 l3 l4 l5 q7 q8:Int} (hp:p.getD m aS=(q1,q2,q3,q4,q5,q6,l1,l2,l3,l4,l5,q7,q8)) (J:a=(m:Int)+1) (t:a<=12) (hb:Kb b=true) (av0:0<=i) (D:1<=a9/\a9<=2147483646) {A:Int} (O:A=1\/A=2) (r:Int) (I0:w.length<=1048576):
  akI M a0 a1 a2 a3 a4 a5 a6 a7 a8 a9 a10 g j (Jg a0 a1 a2 a3 a4 a5 a6 a7 a8 a9 a10 s p g j k A r) (Jk a0 a1 a2 a3 a4 a5 a6 a7 a8 a9 a10 s p g j k A r):=by
 have v:aa .sub .i64 a 1=(m:Int):=by rw[J];have:=e.lp;rw[vm (by omega) (by omega)];omega
 have u:aa .add .i64 (m:Int) 1=a:=by rw[J];have:=e.lp;exact sO (by omega) (by omega)
 have F:=e.ss k l;have hz:s.getD k bl=(o,c,b,kd,st,d1,d2,d3,a,i,w):=Q;rw[hz]at F;have hjx:R3 (s.getD k bl)=w:=by rw[hz];rfl
 obtain⟨bt,Y,Z,N⟩:=adD (p:=a) (PU F) ⟨F.b,F.bs⟩ hb (by omega);have V:∀ {d:List LK},(d=b\/d=bt.1)->d.length=b.length:=λh=>by rcases h with rfl|rfl;rfl;exact N.1
 have jl:w.length<=1073741824:=by omega
 have E:∀ {d z Zb XI x1 x2 x3 abx abM},(d=b\/d=bt.1)->z.length<=1073741824->Np 1073741824 (o,c,d,Zb,XI,x1,x2,x3,abx,abM,z):=fun {d z _ _ _ _ _ _ _} G h2=>⟨F.o,F.c,by rcases G with rfl|rfl;exact F.b;rw[show(o,c,bt.1,_,_,_,_,_,_,_,z).2.2.1=bt.1 from rfl,N.1];exact F.b,by
  rcases G with rfl|rfl
  .exact F.bs
  .exact ahj N (PU F) hb,h2⟩
 have C:∀H I x y,(Ll w k H I x y).1.length<=1073741824:=λH I x y=>by have:=ab2 w k H I x y;omega
 have wr:∀ {d Zb XI x1 x2 x3 abx abM} (G:d=b\/d=bt.1) (B:List Oc) (hp':B.length=p.length) H I x y,JE a0 a1 a2 a3 a4 a5 a6 a7 a8 a9 a10 (s.set k (o,c,d,Zb,XI,x1,x2,x3,abx,abM,w)) B g j k H I x y=_:=fun {d Zb XI x1 x2 x3 abx abM} G B hp' H I x y=>by
  have hl:K0 M (s.set k (o,c,d,Zb,XI,x1,x2,x3,abx,abM,w)) B g j:=by have:=MK (m:=p.length) (q:=ajg) e (k:=k) l hz (E (Zb:=Zb) (XI:=XI) (x1:=x1) (x2:=x2) (x3:=x3) (abx:=abx) (abM:=abM) G jl) (V G);exact⟨this.ls,this.ss,by rw[hp'];exact e.lp,this.lg,this.lj,this.bk⟩
  exact(ZD a0 a1 a2 a3 a4 a5 a6 a7 a8 a9 a10 _ B g j hl.le (by rw[jw];exact l) H I x y).trans (by rw[ajf l hjx])
 have mg:∀d Zb XI x1 x2 x3 abx abM (B:List Oc),Ko a0 a1 a2 a3 a4 a5 a6 a7 a8 a9 a10 (s.set k (o,c,d,Zb,XI,x1,x2,x3,abx,abM,w)) B g j=some ((Nd j (s.map R3)).1,(Nd j (s.map R3)).2,()):=λd Zb XI x1 x2 x3 abx abM B=>by have:=(UW a0 a1 a2 a3 a4 a5 a6 a7 a8 a9 a10 (s.set k (o,c,d,Zb,XI,x1,x2,x3,abx,abM,w)) B g j e.lj (by rw[jw];exact e.ls)).2;rw[afI (by rw[hjx];rfl)]at this;exact this
 have mg0:∀(B:List Oc),Ko a0 a1 a2 a3 a4 a5 a6 a7 a8 a9 a10 s B g j=some ((Nd j (s.map R3)).1,(Nd j (s.map R3)).2,()):=λB=>(UW a0 a1 a2 a3 a4 a5 a6 a7 a8 a9 a10 s B g j e.lj e.ls).2;have ad:=λH I x y=>abj w k H I x y jl;have se:=λs p=>(afR a0 a1 a2 a3 a4 a5 a6 a7 a8 a9 a10 s p g j D (n:=a) ⟨by omega,t⟩).1;have si:=λs p=>(afR a0 a1 a2 a3 a4 a5 a6 a7 a8 a9 a10 s p g j D (n:=a) ⟨by omega,t⟩).2;have nl:=afa (ai3 D (n:=a) ⟨by omega,t⟩);have fin:∀ {d z q},(d=b\/d=bt.1)->z.length<=1073741824->K0 M (s.set k (o,c,d,0,0,false,false,false,0,0,z)) (p.set m q) g j:=λG h2=>MK e l hz (E G h2) (V G);have X:ak .eql (1:Int) 2=false:=rfl;have W:ak .eql (1:Int) 1=true:=rfl;have L:ak .eql (2:Int) 2=true:=rfl;have K:ak .eql (2:Int) 1=false:=rfl;have R:pI false false=true:=rfl;have S:pI true true=true:=rfl;have T:pI false true=false:=rfl;have U:pI true false=false:=rfl;rcases O with rfl|rfl
 .cases P:ak .eql r 3 with
  |true=>unfold Jg Jk;simp only[l,f,bu,J1 l,J1 f,uI,jt,cw,Q,v,u,hp,↓jE,az,aW,cP l,cP f,qe,Y,Z,aX,X,W,P,R,S,T,U,fu,kx,se,si,nl,wr (Or.inl rfl) _ rfl,mg,mg0,ad,Vj,Vk,ow,Oh];cases hj:(Nd j (s.map R3)).2 <;> cases hg:ak .geq (bw (Nd j (s.map R3)).1) 60 <;> cases ha:(Ll w k 1 a k a10).2 <;> simp only[hj,hg,ha,az,aW,fu,kx,Vj,Vk,ow,Oh,J1 f,uI,jt,↓jE,f,bu] <;> first|exact⟨_,_,_,_,_,_,rfl,rfl,.inr ⟨rfl,rfl⟩⟩|exact⟨_,_,_,_,_,_,rfl,rfl,.inl ⟨rfl,rfl,rfl,rfl,fin (.inl rfl) (C _ _ _ _)⟩⟩
  |false=>unfold Jg Jk;simp only[l,f,bu,J1 l,J1 f,uI,jt,cw,Q,v,u,hp,↓jE,az,aW,cP l,cP f,qe,Y,Z,aX,X,W,P,R,S,T,U,fu,kx];exact⟨_,_,_,_,_,_,rfl,rfl,.inl ⟨rfl,rfl,rfl,rfl,fin (.inr rfl) jl⟩⟩
 .cases P:ak .eql r 3 with
  |false=>unfold Jg Jk;simp only[l,f,bu,J1 l,J1 f,uI,jt,cw,Q,v,u,hp,↓jE,az,aW,cP l,cP f,qe,Y,Z,aX,L,K,P,R,S,T,U,fu,kx];exact⟨_,_,_,_,_,_,rfl,rfl,.inl ⟨rfl,rfl,rfl,rfl,fin (.inl rfl) jl⟩⟩
  |true=>
   by_cases hw:i=0
   .have w1:ak .gtr i 0=false:=by rw[hw];rfl
    have w2:ak .eql i 0=true:=LM.2 hw;unfold Jg Jk;simp only[l,f,bu,J1 l,J1 f,uI,jt,cw,Q,v,u,hp,↓jE,az,aW,cP l,cP f,qe,Y,Z,aX,L,K,P,R,S,T,U,fu,kx,wr (Or.inr rfl) _ rfl,mg,ad,Vj,Vk,ow,Oh,w1,w2];cases hj:(Nd j (s.map R3)).2 <;> cases hg:ak .geq (bw (Nd j (s.map R3)).1) 60 <;> cases ha:(Ll w k 4 a 0 a10).2 <;> simp only[hj,hg,ha,az,aW,fu,kx,Vj,Vk,ow,Oh,J1 f,uI,jt,↓jE,f,bu] <;> first|exact⟨_,_,_,_,_,_,rfl,rfl,.inr ⟨rfl,rfl⟩⟩|exact⟨_,_,_,_,_,_,rfl,rfl,.inl ⟨rfl,rfl,rfl,rfl,fin (.inr rfl) (C _ _ _ _)⟩⟩
   .have w1:ak .gtr i 0=true:=iO (by omega);have w2:ak .eql i 0=false:=by cases h:ak .eql i 0 with|false=>rfl|true=>exact absurd (LM.1 h) hw
    unfold Jg Jk;simp only[l,f,bu,J1 l,J1 f,uI,jt,cw,Q,v,u,hp,↓jE,az,aW,cP l,cP f,qe,Y,Z,aX,L,K,P,R,S,T,U,fu,kx,wr (Or.inr rfl) _ rfl,mg,ad,Vj,Vk,ow,Oh,w1,w2,afk,aeZ];cases hj:(Nd j (s.map R3)).2 <;> cases hg:ak .geq (bw (Nd j (s.map R3)).1) 60 <;> cases ha:(Ll w k 3 a i a10).2 <;> simp only[hj,hg,ha,az,aW,fu,kx,Vj,Vk,ow,Oh,J1 f,uI,jt,↓jE,f,bu] <;> first|exact⟨_,_,_,_,_,_,rfl,rfl,.inr ⟨rfl,rfl⟩⟩|exact⟨_,_,_,_,_,_,rfl,rfl,.inl ⟨rfl,rfl,rfl,rfl,fin (.inr rfl) (C _ _ _ _)⟩⟩
end
end Go.Fn
namespace Go.Fn
open Go.R
def eqN(m n:Nat):ak .eql (@OfNat.ofNat Int m instOfNat) (@OfNat.ofNat Int n instOfNat)=(m==n):=by show decide ((m:Int)=(n:Int))=_;rw[PT,decide_eq_true_iff,beq_iff_eq];omega
def akm{x:Int}(h:x=0):ak .neq x 0=false:=by rw[h];rfl
def ahW{x:Int}(h:x≠0):ak .neq x 0=true:=by rw[neD,Gi h];rfl
def aj2{x:Int}(h:x=0):ak .eql x 0=true:=LM.2 h
def aeV{x:Int}(h:x≠0):ak .eql x 0=false:=by rw[eqD,Gi h]
attribute [local congr] aa4 aa2
def Kh(x y:Int):ak .eql x y=decide (x=y):=rfl
def ahv(r c:Int):Q2 r c=some (if r=1 then c else 0,if r=2 then c else 0,if r=3 then c else 0,if r=4 then c else 0,()):=by
 unfold Q2;simp only[Kh];by_cases h1:r=1
 .subst h1;rfl
 .by_cases h2:r=2
  .subst h2;rfl
  .by_cases h3:r=3
   .subst h3;rfl
   .by_cases h4:r=4
    .subst h4;rfl
    .simp only[h1,h2,h3,h4,ct,aW,reduceIte]
section
variable (M:List Nat)(a0 a1 a2 a3 a4 a5 a6 a7 a8 a9 a10:Int)(s:List Site)(p:List Oc)(g:List PM)(j:List Ev)
def CmR(x:Option (Int×Int×Int×Int×Int×Int×Int×Int×Int×Int×Int×List Site×List Oc×List PM×List Ev×Int×Unit))(y:Option (Int×Int×Int×Int×Int×Int×Int×Int×Int×Int×Int×Int×List Site×List Oc×List PM×List Ev×Unit)):Prop:=
 ∃code t d c a b i h g e f,x=some (a0,a1,a2,a3,a4,a5,a6,a7,a8,a9,t,d,c,a,b,code,())/\y=some (code,a0,a1,a2,a3,a4,a5,a6,a7,a8,a9,i,h,g,e,f,()) /\
  (code=0\/code=9->(t=i/\d=h/\c=g/\a=e/\b=f)/\K0 M d c a b)
variable {M a0 a1 a2 a3 a4 a5 a6 a7 a8 a9} in
def CmR.no{code t s1 p1 g1 j1 t2 s2 p2 g2 j2}(a:code≠0)(b:code≠9):CmR M a0 a1 a2 a3 a4 a5 a6 a7 a8 a9 (some (a0,a1,a2,a3,a4,a5,a6,a7,a8,a9,t,s1,p1,g1,j1,code,())) (some (code,a0,a1,a2,a3,a4,a5,a6,a7,a8,a9,t2,s2,p2,g2,j2,())):=⟨_,_,_,_,_,_,_,_,_,_,_,rfl,rfl,λh=>absurd h (λh=>h.elim a b)⟩
variable {M a0 a1 a2 a3 a4 a5 a6 a7 a8 a9} in
def CmR.yes{code t s1 p1 g1 j1}(h:K0 M s1 p1 g1 j1):CmR M a0 a1 a2 a3 a4 a5 a6 a7 a8 a9 (some (a0,a1,a2,a3,a4,a5,a6,a7,a8,a9,t,s1,p1,g1,j1,code,())) (some (code,a0,a1,a2,a3,a4,a5,a6,a7,a8,a9,t,s1,p1,g1,j1,())):=⟨_,_,_,_,_,_,_,_,_,_,_,rfl,rfl,λ_=>⟨⟨rfl,rfl,rfl,rfl,rfl⟩,h⟩⟩
def VS(f:K0 M s p g j)(B:p.length<=12)(n:1<=a9/\a9<=2147483646){k:Nat}(t:k<s.length){o c:List M8}{b:List LK}{kd D:Int}{w y z:Bool}{a d:Int}{e:List Ev}(C:s.getD k ax=(o,c,b,kd,D,w,y,z,a,d,e))(r:aaq p (o,c,b,kd,D,w,y,z,a,d,e))(u:kd≠0)(Zb XI:Int)(x1 x2 x3:Bool)(v:Int):
  akI M a0 a1 a2 a3 a4 a5 a6 a7 a8 a9 a10 g j (Jg a0 a1 a2 a3 a4 a5 a6 a7 a8 a9 a10 (s.set k (o,c,b,Zb,XI,x1,x2,x3,a,d,e)) p g j k kd v) (Jk a0 a1 a2 a3 a4 a5 a6 a7 a8 a9 a10 (s.set k (o,c,b,Zb,XI,x1,x2,x3,a,d,e)) p g j k kd v)/\K0 M (s.set k (o,c,b,Zb,XI,x1,x2,x3,a,d,e)) p g j:=by
 have l:a≠0:=λh=>u (r.idle h);obtain⟨⟨h1,h2⟩,h3,h4⟩:=r.busy l;have h1:1<=a:=h1;have h2:a<=p.length:=h2;have i:=f.ss k t;rw[show s.getD k bl=_ from C]at i;have A:K0 M (s.set k (o,c,b,Zb,XI,x1,x2,x3,a,d,e)) p g j:=by have:=MK (m:=p.length) (q:=ajg) f (k:=k) t C (x:=(o,c,b,Zb,XI,x1,x2,x3,a,d,e)) ⟨i.o,i.c,i.b,i.bs,i.j⟩ rfl;exact⟨this.ls,this.ss,f.lp,this.lg,this.lj,this.bk⟩
 obtain⟨m,E⟩:∃m:Nat,a=(m:Int)+1:=⟨(a-1).toNat,by omega⟩
 exact⟨agC M a0 a1 a2 a3 a4 a5 a6 a7 a8 a9 a10 _ p g j A (k:=k) (m:=m) (by rw[jw];exact t) (by omega) (cP t _ _) rfl E (by omega) r.ZM h4 n h3 v (by have:=Lp r.jr;have this:e.length<=60:=this;omega),A⟩
def UT(a:s.length<=1048576){k:Nat}(b:k<s.length):Jh (k:Int) 0 (aa .sub .i64 (bw s) 1)=true:=by rw[show aa .sub .i64 (bw s) 1=(s.length:Int)-1 from vm (by unfold bw;omega) (by unfold bw;omega)];exact kW.2 ⟨by omega,by omega⟩
variable (hle:K0 M s p g j)(aeW:p.length<=12)(aeX:1<=a9/\a9<=2147483646){k:Nat}(hk:k<s.length)(hF:aaq p (s.getD k bl))(cB cC:Int)(cd:ByteArray)(h1 h2 h3 h4 h5 h6:Int)(h7:Bool)
include hle aeW aeX hk hF
theorem an2:CmR M a0 a1 a2 a3 a4 a5 a6 a7 a8 a9 (E2 a0 a1 a2 a3 a4 a5 a6 a7 a8 a9 a10 s p g j 6 k cB cC cd h1 h2 h3 h4 h5 h6 h7) (qB a0 a1 a2 a3 a4 a5 a6 a7 a8 a9 a10 s p g j 6 k cB cC cd h1 h2 h3 h4 h5 h6 h7):=by
 have l:=UT s hle.ls hk;generalize m:s.getD k bl=x at hF;obtain⟨o,c,b,kd,r,e,f,i,n,t,K⟩:=x;have u:s.getD k ax=(o,c,b,kd,r,e,f,i,n,t,K):=m;have B:=λa Zb XI x1 x2 x3 v=>VS M a0 a1 a2 a3 a4 a5 a6 a7 a8 a9 a10 s p g j hle aeW aeX hk u hF a Zb XI x1 x2 x3 v;obtain⟨⟨q,w,y,z,A,ok,_⟩,C,D,J⟩:=aeE kd r e f i;obtain⟨⟨v,_⟩,E,F,_⟩:=VV kd r e f i;unfold E2 Wg qB;simp only[eqN,Nat.reduceBEq,bS,l,hk,bu,J1 hk,uI,jt,cw,u,↓jE,az,aW,cP hk,C,D,E,F,aX,fu,kx];cases ok with
 |false=>simp only[az,aW,fu,kx,aX];exact .no (by decide) (by decide)
 |true=>
  have a:kd≠0:=J rfl;by_cases d:q=0
  .obtain⟨⟨code,L,P,N,Q,O,G,H,h⟩,_⟩:=B a q w y z A v;simp only[akm d,aj2 d,G,H,az,aW,fu,kx,aX];rcases h with ⟨rfl,rfl,rfl,rfl,I⟩|⟨rfl,rfl⟩
   .exact .yes I
   .exact .no (by decide) (by decide)
  .simp only[ahW d,aeV d,az,aW,fu,kx,aX];exact .yes (B a q w y z A v).2
theorem an3:CmR M a0 a1 a2 a3 a4 a5 a6 a7 a8 a9 (E2 a0 a1 a2 a3 a4 a5 a6 a7 a8 a9 a10 s p g j 7 k cB cC cd h1 h2 h3 h4 h5 h6 h7) (qB a0 a1 a2 a3 a4 a5 a6 a7 a8 a9 a10 s p g j 7 k cB cC cd h1 h2 h3 h4 h5 h6 h7):=by
 have i:=UT s hle.ls hk;generalize l:s.getD k bl=x at hF;obtain⟨o,c,b,kd,q,e,f,h,m,r,B⟩:=x;have t:s.getD k ax=(o,c,b,kd,q,e,f,h,m,r,B):=l;have G:=λa Zb XI x1 x2 x3 v=>VS M a0 a1 a2 a3 a4 a5 a6 a7 a8 a9 a10 s p g j hle aeW aeX hk t hF a Zb XI x1 x2 x3 v;obtain⟨⟨n,C,D,E,F,ok,_⟩,u,w,A⟩:=agx kd q e f h;obtain⟨⟨v,_⟩,y,z,_⟩:=VV kd q e f h;unfold E2 qB;simp only[eqN,Nat.reduceBEq,bS,i,hk,bu,J1 hk,uI,jt,cw,t,↓jE,az,aW,cP hk,u,w,y,z,aX,fu,kx];cases ok with
 |false=>simp only[az,aW,fu,kx,aX];exact .no (by decide) (by decide)
 |true=>obtain⟨a,d⟩:=A rfl;have d:n=kd:=d;simp only[aeV (x:=n) (by rw[d];exact a),az,aW,fu,kx,aX];exact .yes (G a n C D E F v).2
theorem an5:CmR M a0 a1 a2 a3 a4 a5 a6 a7 a8 a9 (E2 a0 a1 a2 a3 a4 a5 a6 a7 a8 a9 a10 s p g j 9 k cB cC cd h1 h2 h3 h4 h5 h6 h7) (qB a0 a1 a2 a3 a4 a5 a6 a7 a8 a9 a10 s p g j 9 k cB cC cd h1 h2 h3 h4 h5 h6 h7):=by
 have i:=UT s hle.ls hk;generalize l:s.getD k bl=x at hF;obtain⟨o,c,b,kd,q,e,f,h,m,r,B⟩:=x;have t:s.getD k ax=(o,c,b,kd,q,e,f,h,m,r,B):=l;have G:=λa Zb XI x1 x2 x3 v=>VS M a0 a1 a2 a3 a4 a5 a6 a7 a8 a9 a10 s p g j hle aeW aeX hk t hF a Zb XI x1 x2 x3 v;obtain⟨⟨n,C,D,E,F,ok,_⟩,u,w,A⟩:=aiK kd q e f h cB;obtain⟨⟨v,_⟩,y,z,_⟩:=VV kd q e f h;unfold E2 qB;simp only[eqN,Nat.reduceBEq,bS,i,hk,bu,J1 hk,uI,jt,cw,t,↓jE,az,aW,cP hk,u,w,y,z,aX,fu,kx];cases ok with
 |false=>simp only[az,aW,fu,kx,aX];exact .no (by decide) (by decide)
 |true=>obtain⟨a,d⟩:=A rfl;have d:n=kd:=d;simp only[aeV (x:=n) (by rw[d];exact a),az,aW,fu,kx,aX];exact .yes (G a n C D E F v).2
theorem an4:CmR M a0 a1 a2 a3 a4 a5 a6 a7 a8 a9 (E2 a0 a1 a2 a3 a4 a5 a6 a7 a8 a9 a10 s p g j 8 k cB cC cd h1 h2 h3 h4 h5 h6 h7) (qB a0 a1 a2 a3 a4 a5 a6 a7 a8 a9 a10 s p g j 8 k cB cC cd h1 h2 h3 h4 h5 h6 h7):=by
 have l:=UT s hle.ls hk;generalize n:s.getD k bl=x at hF;obtain⟨o,c,b,kd,d,e,f,h,q,t,B⟩:=x;have u:s.getD k ax=(o,c,b,kd,d,e,f,h,q,t,B):=n;have G:=λa Zb XI x1 x2 x3 v=>VS M a0 a1 a2 a3 a4 a5 a6 a7 a8 a9 a10 s p g j hle aeW aeX hk u hF a Zb XI x1 x2 x3 v;obtain⟨⟨r,C,D,E,F,_⟩,w,y,m⟩:=ajY kd d e f h;obtain⟨⟨v,_⟩,z,A,_⟩:=VV kd d e f h;have m:r=kd:=m;unfold E2 qB;simp only[eqN,Nat.reduceBEq,bS,l,hk,bu,J1 hk,uI,jt,cw,u,↓jE,az,aW,cP hk,w,y,z,A,aX,fu,kx];by_cases i:d=0
 .simp only[akm i,az,aW,fu,kx,aX];exact .no (by decide) (by decide)
 .have a:kd≠0:=agd kd d e f h (by
   have:=hF.door;unfold Rc;rw[show Gn kd d e f h=_ from this]) i
  simp only[ahW i,aeV (x:=r) (by rw[m];exact a),az,aW,fu,kx,aX];exact .yes (G a r C D E F v).2
theorem aj0:CmR M a0 a1 a2 a3 a4 a5 a6 a7 a8 a9 (E2 a0 a1 a2 a3 a4 a5 a6 a7 a8 a9 a10 s p g j 11 k cB cC cd h1 h2 h3 h4 h5 h6 h7) (qB a0 a1 a2 a3 a4 a5 a6 a7 a8 a9 a10 s p g j 11 k cB cC cd h1 h2 h3 h4 h5 h6 h7):=by
 have n:=UT s hle.ls hk;generalize r:s.getD k bl=x at hF;obtain⟨o,c,b,kd,u,i,l,m,e,f,w⟩:=x;have q:s.getD k ax=(o,c,b,kd,u,i,l,m,e,f,w):=r;have O:=λa Zb XI x1 x2 x3 v=>VS M a0 a1 a2 a3 a4 a5 a6 a7 a8 a9 a10 s p g j hle aeW aeX hk q hF a Zb XI x1 x2 x3 v;obtain⟨⟨t,y,z,A,B,v,ok,_⟩,E,F,L⟩:=ae2 kd u i l m;obtain⟨⟨U,_⟩,G,H,_⟩:=VV kd u i l m;have P:∀x1 x2 x3 C D v,Jg a0 a1 a2 a3 a4 a5 a6 a7 a8 a9 a10 s p g j k kd v=Jg a0 a1 a2 a3 a4 a5 a6 a7 a8 a9 a10 (s.set k (o,c,b,x1,x2,x3,C,D,e,f,w)) p g j k kd v:=λx1 x2 x3 C D v=>by unfold Jg;simp only[hk,bu,J1 hk,uI,jt,cw,q,↓jE,az,cP hk,qe]
 unfold E2 qB;simp only[eqN,Nat.reduceBEq,bS,n,hk,bu,J1 hk,uI,jt,cw,q,↓jE,az,aW,cP hk,E,F,G,H,aX,fu,kx];cases ok with
 |false=>simp only[az,aW,fu,kx,aX];exact .no (by decide) (by decide)
 |true=>
  obtain⟨a,d⟩:=L rfl;have d:t=0:=d;obtain⟨⟨code,N,S,Q,T,R,I,J,h⟩,_⟩:=O a t y z A B v;simp only[P t y z A B,aj2 d,I,J,az,aW,fu,kx,aX];rcases h with ⟨rfl,rfl,rfl,rfl,K⟩|⟨rfl,rfl⟩
  .exact .yes K
  .exact .no (by decide) (by decide)
theorem ajZ:CmR M a0 a1 a2 a3 a4 a5 a6 a7 a8 a9 (E2 a0 a1 a2 a3 a4 a5 a6 a7 a8 a9 a10 s p g j 10 k cB cC cd h1 h2 h3 h4 h5 h6 h7) (qB a0 a1 a2 a3 a4 a5 a6 a7 a8 a9 a10 s p g j 10 k cB cC cd h1 h2 h3 h4 h5 h6 h7):=by
 have f:=UT s hle.ls hk;generalize w:s.getD k bl=x at hF;obtain⟨o,c,b,kd,A,q,r,t,y,B,U⟩:=x;have u:s.getD k ax=(o,c,b,kd,A,q,r,t,y,B,U):=w;have N:=λa Zb XI x1 x2 x3 v=>VS M a0 a1 a2 a3 a4 a5 a6 a7 a8 a9 a10 s p g j hle aeW aeX hk u hF a Zb XI x1 x2 x3 v;obtain⟨⟨H,I,J,K,L,O,ok,_⟩,C,D,T⟩:=aff kd A q r t (if cB=1 then cC else 0) (if cB=2 then cC else 0) (if cB=3 then cC else 0) (if cB=4 then cC else 0);obtain⟨⟨v,_⟩,E,F,_⟩:=VV kd A q r t;have main:(cB=0/\cC=0)\/(Jh cB 1 4=true/\Jh cC 1 2=true)\/((cB≠0\/cC≠0)/\(Jh cB 1 4=false\/Jh cC 1 2=false)):=by
  by_cases i:cB=0/\cC=0
  .exact .inl i
  .cases l:Jh cB 1 4 with
   |false=>exact .inr (.inr ⟨by omega,.inl rfl⟩)
   |true=>cases m:Jh cC 1 2 with
    |false=>exact .inr (.inr ⟨by omega,.inr rfl⟩)
    |true=>exact .inr (.inl ⟨rfl,rfl⟩)
 have d:(cB=0/\cC=0)\/(Jh cB 1 4=true/\Jh cC 1 2=true)->(cB=0/\cC=0)\/(cB=1\/cB=2\/cB=3\/cB=4)/\Jh cC 1 2=true:=λh=>h.imp id λ⟨i,z⟩=>⟨by have:=kW.1 i;omega,z⟩
 have stop:(cB≠0\/cC≠0)/\(Jh cB 1 4=false\/Jh cC 1 2=false)->CmR M a0 a1 a2 a3 a4 a5 a6 a7 a8 a9 (E2 a0 a1 a2 a3 a4 a5 a6 a7 a8 a9 a10 s p g j 10 k cB cC cd h1 h2 h3 h4 h5 h6 h7) (qB a0 a1 a2 a3 a4 a5 a6 a7 a8 a9 a10 s p g j 10 k cB cC cd h1 h2 h3 h4 h5 h6 h7):=by
  intro ⟨i,z⟩;unfold E2 NN qB;simp only[eqN,Nat.reduceBEq,rp,bS,f,hk,bu,J1 hk,u,az,aW,E,F,aX,cw];by_cases e:cB=0
  .have n:cC≠0:=i.resolve_left λh=>h e;have l:Jh cB 1 4=false:=by rw[e];rfl
   simp only[akm e,ahW n,aj2 e,aeV n,l,az,aW,fu,kx,aX];exact .no (by decide) (by decide)
  .cases l:Jh cB 1 4 with
   |false=>simp only[ahW e,aeV e,az,aW,fu,kx,aX];exact .no (by decide) (by decide)
   |true=>
    have m:Jh cC 1 2=false:=z.resolve_left λh=>by rw[l]at h;cases h
    simp only[ahW e,aeV e,m,az,aW,fu,kx,aX];exact .no (by decide) (by decide)
 rcases main with h|h|h
 rotate_left 2
 .exact stop h
 all_goals
  have R:=d (by first|exact .inl h|exact .inr h);clear d stop h;have n:Jh 1 1 4=true:=rfl;have W:Jh 2 1 4=true:=rfl;have X:Jh 3 1 4=true:=rfl;have Y:Jh 4 1 4=true:=rfl;rcases R with ⟨rfl,rfl⟩|⟨rfl|rfl|rfl|rfl,m⟩
  all_goals
   simp only[Int.reduceEq,reduceIte]at C D;unfold E2 NN qB;simp only[Kh,neD,ct,rp,bS,f,hk,bu,J1 hk,uI,jt,cw,u,↓jE,az,aW,cP hk,C,D,E,F,aX,fu,kx,ahv,Int.reduceEq,reduceIte,n,W,X,Y];try simp only[m,fu,aW,aX]
   cases ok with
   |false=>simp only[az,aW,fu,kx,aX];exact .no (by decide) (by decide)
   |true=>
    have a:kd≠0:=T rfl;by_cases G:H=0
    .subst G;obtain⟨⟨code,V,s1,Z,s2,p2,P,Q,h⟩,_⟩:=N a 0 I J K L O;simp only[bu,P,Q,az,aW,fu,kx,aX];rcases h with ⟨rfl,rfl,rfl,rfl,S⟩|⟨rfl,rfl⟩
     .exact .yes S
     .exact .no (by decide) (by decide)
    .simp only[G,ct,az,aW,fu,kx,aX];exact .yes (N a H I J K L O).2
end
end Go.Fn
namespace Go.Fn
open Go.R
def Re{ok:Nat->Bool}:∀(k i:Nat),KE ok i k=none->∀n,i<=n->n<i+k->ok n=true
 |0,_,_,_,b,c=>by omega
 |k+1,i,h,n,b,c=>by
  unfold KE at h;cases a:ok i with
  |false=>rw[a]at h;cases h
  |true=>
   rw[a]at h;by_cases e:n=i
   .rw[e];exact a
   .exact Re k (i+1) h n (by omega) (by omega)
def acj{α:Type}[DecidableEq α]:∀(l m:List α),l.Nodup->(∀x,x∈l->x∈m)->m.length<=l.length->∀x,x∈m->x∈l
 |[],m,_,_,h,x,b=>by have:m=[]:=e9.1 (by simpa using h);rw[this]at b;cases b
 |a::l,m,o,f,n,x,b=>by
  obtain⟨i,j⟩:=List.nodup_cons.1 o;by_cases e:x=a
  .subst e;exact VX
  .have k:a∈m:=f a VX;have c:=List.length_erase_of_mem k;refine gL _ (acj l (m.erase a) j (λy g=>?_) (by rw[c];simp at n;omega) x ((List.mem_erase_of_ne e).2 b));have d:y≠a:=λe=>by subst e;exact i g
   exact(List.mem_erase_of_ne d).2 (f y (gL _ g))
def Zw{l:List Bx}{x:Int}:x∈Nr l↔∃n,n<l.length/\(l.getD n gI).2.2.1=x/\x≠0:=by
 unfold Nr;rw[List.mem_filterMap];constructor
 .rintro⟨b,f,h⟩;obtain⟨n,a,rfl⟩:=uv f;split at h
  .cases h
  .rename_i d;injection h with h
   exact⟨n,a,by rw[dG,bR a];exact h,h▸d⟩
 .rintro⟨n,a,c,e⟩;have g:l.getD n gI=l[n]:=by rw[dG,bR a];rfl
  rw[g]at c;refine⟨l[n],ZJ a,?_⟩;rw[c,bc e]
def afc{α:Type}{l:List α}{x:α}(c:l.Nodup)(d:x∉l):(l++[x]).Nodup:=by
 rw[List.nodup_append];refine⟨c,by simp,λa f b g=>?_⟩;have:b=x:=by simpa using g
 subst this;exact λe=>d (e▸f)
def aga{h:Int}{f:List Int}{l:List Bx}(e:Xd h f l=true):(Nr l).Nodup:=by
 unfold Xd at e;simp only[aQ]at e;have a:∀n,n<l.length->okS l n=true:=λn d=>((iW _ _).1 e.2.1.1) n (kU _) (by omega);have i:∀n,n<=l.length->(Nr (l.take n)).Nodup:=by
  intro n;induction n with
  |zero=>intro _;rw[Rr];exact List.nodup_nil
  |succ n o=>
   intro d;have d:n<l.length:=by omega
   have b:Nr (l.take (n+1))=Nr (l.take n)++Nr [l.getD n gI]:=by rw[take_at d gI];exact List.filterMap_append
   rw[b];by_cases j:(l.getD n gI).2.2.1=0
   .rw[show Nr [l.getD n gI]=[]by simp only[Nr,List.filterMap_cons,j,if_true,List.filterMap_nil],fa];exact o (by omega)
   .rw[show Nr [l.getD n gI]=[(l.getD n gI).2.2.1]by simp only[Nr,List.filterMap_cons,j,if_false,List.filterMap_nil]];refine afc (o (by omega)) λc=>?_;obtain⟨m,c,g,_⟩:=Zw.1 c;have c:m<n:=by rw[dB]at c;omega
    have g:(l.getD m gI).2.2.1=(l.getD n gI).2.2.1:=by rw[<-g,dG,dG,jv c]
    have a:=a n d;unfold okS at a;simp only[aQ]at a;have k:=(kW.1 a.1.1.2).1;have hd:=(iW _ _).1 a.1.2 m (kU _) (by omega);unfold Y6 at hd;rw[sC,VY]at hd;rcases hd with hd|hd
    .have:¬(Jd l n).2.2.1>0:=Jx hd;exact this (by have k:0<=(l.getD n gI).2.2.1:=k;show(l.getD n gI).2.2.1>0;omega)
    .rw[show ak .eql (Jd l m).2.2.1 (Jd l n).2.2.1=true from LM.2 g]at hd;cases hd
 have:=i l.length (aJ _);rwa[Kj]at this
def ad6{L:List LK}{x:Int}:x∈Ol L↔∃i,i<L.length/\x∈Nr (pu L i).2.2:=by
 unfold Ol pu;rw[xQ];constructor
 .rintro⟨m,e,b⟩;obtain⟨c,d,rfl⟩:=eJ.1 e;obtain⟨i,a,rfl⟩:=uv d;exact⟨i,a,by rw[dG,bR a];exact b⟩
 .rintro⟨i,a,b⟩;exact⟨_,eJ.2 ⟨L.getD i br,J4 a _,rfl⟩,b⟩
def aeQ{L:List LK}(f:Kb L=true):(Ol L).Nodup:=by
 unfold Kb at f;rw[aQ]at f;have o:∀n,n<L.length->NA L n=true:=λn e=>(iW _ _).1 f.2 n (kU _) (by omega);have i:∀n,n<=L.length->(Ol (L.take n)).Nodup:=by
  intro n;induction n with
  |zero=>intro _;rw[Rr];exact List.nodup_nil
  |succ n u=>
   intro e;have e:n<L.length:=by omega
   have c:Ol (L.take (n+1))=Ol (L.take n)++Nr (pu L n).2.2:=by rw[take_at e br];unfold Ol;rw[Tj,aaY];simp only[fm,sB,lZ,acK,fa];rfl
   have a:=o n e;unfold NA at a;rw[aQ]at a;rw[c,List.nodup_append];refine⟨u (by omega),aga a.1,λx s y t=>?_⟩;rintro rfl;obtain⟨k,h,d⟩:=ad6.1 s;have h:k<n:=by rw[dB]at h;omega
   have g:pu (L.take n) k=pu L k:=by unfold pu;rw[dG,dG,jv h]
   rw[g]at d;obtain⟨m,p,j,v⟩:=Zw.1 t;obtain⟨q,r,l,_⟩:=Zw.1 d;have b:=(iW _ _).1 ((iW _ _).1 a.2 k (kU _) (by omega)) m (kU _) (by omega);unfold R5 at b;rw[sC,VY]at b;have w:=((af9 a.1).1.par m p).1;rcases b with b|b
   .have:¬(Jd (pu L n).2.2 m).2.2.1>0:=Jx b;exact this (by show((pu L n).2.2.getD m gI).2.2.1>0;omega)
   .have:adT (pu L k).2.2 (Jd (pu L n).2.2 m).2.2.1=true:=by
     unfold adT;rw[qF];exact⟨_,J4 r gI,LM.2 (by show _=((pu L n).2.2.getD m gI).2.2.1;rw[j,l])⟩
    rw[this]at b;cases b
 have:=i L.length (aJ _);rwa[Kj]at this
def aag{s:List Site}{x:Int}:x∈M7 s↔∃k,k<s.length/\x∈Ol (s.getD k bl).2.2.1:=by
 unfold M7;rw[xQ];constructor
 .rintro⟨m,e,b⟩;obtain⟨c,d,rfl⟩:=eJ.1 e;obtain⟨i,a,rfl⟩:=uv d;exact⟨i,a,by rw[dG,bR a];exact b⟩
 .rintro⟨i,a,b⟩;exact⟨_,eJ.2 ⟨s.getD i bl,J4 a _,rfl⟩,b⟩
def afh{s:List Site}{p:List Oc}(h:∀k,k<s.length->Kb (s.getD k bl).2.2.1=true)(g:∀k,k<s.length->∀x,x∈Ol (s.getD k bl).2.2.1->FB p k x):(M7 s).Nodup:=by
 have f:∀n,n<=s.length->(M7 (s.take n)).Nodup:=by
  intro n;induction n with
  |zero=>intro _;rw[Rr];exact List.nodup_nil
  |succ n l=>
   intro c;have c:n<s.length:=by omega
   have a:M7 (s.take (n+1))=M7 (s.take n)++Ol (s.getD n bl).2.2.1:=by rw[take_at c bl];unfold M7;rw[Tj,aaY];simp only[fm,sB,lZ,acK,fa]
   rw[a,List.nodup_append];refine⟨l (by omega),aeQ (h n c),λx i y j=>?_⟩;rintro rfl;obtain⟨k,e,b⟩:=aag.1 i;have e:k<n:=by rw[dB]at e;omega
   have d:(s.take n).getD k bl=s.getD k bl:=by rw[dG,dG,jv e]
   rw[d]at b;have m:=(g k (by omega) x b).2.1;have o:=(g n c x j).2.1;omega
 have:=f s.length (aJ _);rwa[Kj]at this
def ahM(p:List Oc)(n:Nat):List Int:=((List.range n).filter λm=>OM (p.getD m aS)).map λ(m:Nat)=>(m:Int)+1
def aiM(p:List Oc):∀n,n<=p.length->(ahM p n).length=((p.take n).filter OM).length:=by
 intro n;induction n with
 |zero=>intro _;rw[Rr];rfl
 |succ n a=>intro b;have a:=a (by omega);unfold ahM at a⊢;rw[mZ]at a⊢;rw[acF,aeK,cR,a,take_at (show n<p.length by omega) aS,aeK,cR];congr 1;rw[aaV,aaV];split <;> rfl
def aiP{s:List Site}{p:List Oc}(f:∀k,k<s.length->Kb (s.getD k bl).2.2.1=true)(b:aio s p){m:Nat}(g:m<p.length)(h:OM (p.getD m aS)=true):∃k,k<s.length/\((k:Int)=(p.getD m aS).2.2.1)/\((m:Int)+1)∈Ol (s.getD k bl).2.2.1:=by
 have e:=acj (M7 s) (ahM p p.length) (afh f b.fb) (λx a=>by
  obtain⟨k,c,a⟩:=aag.1 a;obtain⟨⟨j,l⟩,d,i⟩:=b.fb k c x a;unfold ahM;refine eJ.2 ⟨(x-1).toNat,acB.2 ⟨acA.2 (by omega),i⟩,by omega⟩) (by rw[aiM p _ (aJ _),Kj,b.cnt];exact aJ _) ((m:Int)+1) (by
  unfold ahM;exact eJ.2 ⟨m,acB.2 ⟨acA.2 g,h⟩,rfl⟩)
 obtain⟨k,c,a⟩:=aag.1 e;obtain⟨_,d,_⟩:=b.fb k c _ a;rw[show((m:Int)+1-1).toNat=m by omega]at d;exact⟨k,c,d.symm,a⟩
def aiA{L:List LK}{x:Int}(h:x∈Ol L):∃i,aaE L x=some i:=by
 cases a:aaE L x with
 |some i=>exact⟨i,rfl⟩
 |none=>
  exfalso;obtain⟨i,d,c⟩:=ad6.1 h;obtain⟨m,f,e,_⟩:=Zw.1 c;have:=Re _ _ a i (kU _) (by omega);have b:WZ (L.getD i br).2.2 x=none:=by simpa using this
  have:=Re _ _ b m (kU _) (by show m<0+(pu L i).2.2.length;omega);unfold FR at this;rw[show ak .eql (((L.getD i br).2.2).getD m gI).2.2.1 x=true from LM.2 e]at this;cases this
attribute [local congr] aa4 aa2
def aiX{l:List Bx}(h:aaA l){n m:Nat}(f:n<l.length)(d:m<l.length)(e:(l.getD n gI).1=(l.getD m gI).1):n=m:=by
 rw[h.low n f,h.low m d]at e;rcases Nat.lt_trichotomy n m with c|a|b
 .have:=h.mono (n:=n) (m:=m) (by omega) (by omega);omega
 .exact a
 .have:=h.mono (n:=m) (m:=n) (by omega) (by omega);omega
section
variable (a0 a1 a2 a3 a4 a5 a6 a7 a8 a9 a10:Int)(s:List Site)(p:List Oc)(g:List PM)(j:List Ev)
def ach(e:TJ s p g j)(u:∀k,k<s.length->Kb (s.getD k bl).2.2.1=true)(D:aio s p){k m:Nat}(r:k<s.length)(w:m<p.length)(A:(p.getD m aS).2.2.1=(k:Int))(t:(p.getD m aS).2.2.2.1=3):
  Sm Any (Mj a0 a1 a2 a3 a4 a5 a6 a7 a8 a9 a10 s p g j ((m:Int)+1)) (LI (s.getD k bl).2.2.1 ((m:Int)+1)):=by
 have H:=e.lp;have f:aa .sub .i64 ((m:Int)+1) 1=(m:Int):=by rw[vm (by omega) (by omega)];omega
 obtain⟨b,F,C,I⟩:=aiP u D w (by unfold OM;rw[t];rfl);have:b=k:=by rw[A]at C;omega
 subst this;obtain⟨i,o⟩:=aiA I;obtain⟨h,n,y,x⟩:=ab3 o;have B:=PU (e.ss b r);have c:=u b r;have J:s.getD b ax=s.getD b bl:=rfl;generalize L:s.getD b bl=X at *;have a:=af9 ((adC c).2 i h);have E:(X.2.2.1.getD i br).2.2.length<=24:=a.1.len;refine⟨(((X.2.2.1.getD i br).2.2.getD n gI).2.2.2,()),?_,?_,trivial⟩
 .unfold Mj;have d:NW X.2.2.1 ((m:Int)+1)=some ((i:Int),((X.2.2.1.getD i br).2.2.getD n gI).1,()):=by rw[Wb X.2.2.1 B (by omega)];unfold aeR;rw[c,o];simp only[az,y,aeH]
  have G:PJ ((i:Int),((X.2.2.1.getD i br).2.2.getD n gI).1,()) (X.1,X.2.1,X.2.2.1,X.2.2.2.1,X.2.2.2.2.1,X.2.2.2.2.2.1,X.2.2.2.2.2.2.1,X.2.2.2.2.2.2.2.1,X.2.2.2.2.2.2.2.2.1,X.2.2.2.2.2.2.2.2.2.1,X.2.2.2.2.2.2.2.2.2.2,(0:Int),())=some (.inl (((X.2.2.1.getD i br).2.2.getD n gI).2.2.2,())):=by
   have:=NV (body:=L2 ((i:Int),((X.2.2.1.getD i br).2.2.getD n gI).1,())) (λq=>(X.1,X.2.1,X.2.2.1,X.2.2.2.1,X.2.2.2.2.1,X.2.2.2.2.2.1,X.2.2.2.2.2.2.1,X.2.2.2.2.2.2.2.1,X.2.2.2.2.2.2.2.2.1,X.2.2.2.2.2.2.2.2.2.1,X.2.2.2.2.2.2.2.2.2.2,(q:Int),())) (X.2.2.1.getD i br).2.2.length (by omega) (λq=>Bool.not (ak .eql ((X.2.2.1.getD i br).2.2.getD q gI).1 ((X.2.2.1.getD i br).2.2.getD n gI).1)) (Sum.inr (Sum.inl ())) (λq=>Sum.inl (((X.2.2.1.getD i br).2.2.getD q gI).2.2.2,())) (λq z=>by
    unfold L2;simp only[J1 h,cw,bP,z,bu,az,J1 z,eW (n:=q) (by omega)];cases ak .eql ((X.2.2.1.getD i br).2.2.getD q gI).1 ((X.2.2.1.getD i br).2.2.getD n gI).1 <;> rfl) (by
    unfold L2;simp only[J1 h,cw,bP,eL,ct,az,aW])
   refine this.trans ?_;cases v:KE (λq=>Bool.not (ak .eql ((X.2.2.1.getD i br).2.2.getD q gI).1 ((X.2.2.1.getD i br).2.2.getD n gI).1)) 0 (X.2.2.1.getD i br).2.2.length with
   |none=>have:=Re _ _ v n (kU _) (by omega);rw[show ak .eql ((X.2.2.1.getD i br).2.2.getD n gI).1 ((X.2.2.1.getD i br).2.2.getD n gI).1=true from LM.2 rfl]at this;cases this
   |some q=>
    obtain⟨_,K,l⟩:=N4 _ _ _ v;have l:ak .eql ((X.2.2.1.getD i br).2.2.getD q gI).1 ((X.2.2.1.getD i br).2.2.getD n gI).1=true:=by simpa using l
    have:=aiX a.1 (n:=q) (m:=n) (by omega) x (LM.1 l);subst this;rfl
  simp only[f,J1 w,az,cw,A,J1 r,J,d,aX,G];rfl
 .unfold LI;rw[Xe X.2.2.1 _ B,o];simp only[Yi,aX,J1 h,az,cw];rw[show ak .geq (i:Int) 0=true from iO (p:=(i:Int)>=0) (by omega)];simp only[az,Yw _ _ _ _ (show(X.2.2.1.getD i br).2.2.length<=1073741824 by omega),y,Yi,aX,J1 x,cw]
end
end Go.Fn
namespace Go.Fn
open Go.R
attribute [local congr] aa4 aa2
def LO(x y:Int):ak .neq x y=Bool.not (decide (x=y)):=by show(x != y)=_;unfold bne;rfl
def apR(x y:Int):aa .add .i64 x y=aa .add .i64 y x:=by show IntKind.wrap _ (x+y)=IntKind.wrap _ (y+x);rw[Int.add_comm]
section
variable (M:List Nat)(a0 a1 a2 a3 a4 a5 a6 a7 a8 a9 a10:Int)(s:List Site)(p:List Oc)(g:List PM)(j:List Ev)
variable {M} in
def aai{s:List Site}{p:List Oc}{g:List PM}{j:List Ev}(h:K0 M s p g j){m:Nat}{q:Oc}:K0 M s (p.set m q) g j:=⟨h.ls,h.ss,by rw[jw];exact h.lp,h.lg,h.lj,h.bk⟩
variable (hle:K0 M s p g j)(hN:afY a0 a1 a2 a3 a4 a5 a6 a7 a8 a9 a10 s p g j){m:Nat}(hm:m<p.length)(cB cC:Int)(cd:ByteArray)(h1 h2 h3 h4 h5 h6:Int)(h7:Bool)
include hle hN hm
theorem asq:CmR M a0 a1 a2 a3 a4 a5 a6 a7 a8 a9 (qW a0 a1 a2 a3 a4 a5 a6 a7 a8 a9 a10 s p g j 2 ((m:Int)+1) cB cC cd h1 h2 h3 h4 h5 h6 h7) (ee a0 a1 a2 a3 a4 a5 a6 a7 a8 a9 a10 s p g j 2 ((m:Int)+1) cB cC cd h1 h2 h3 h4 h5 h6 h7):=by
 have B:=hN.Lu;have C:Jh ((m:Int)+1) 1 (bw p)=true:=kW.2 ⟨by omega,by unfold bw;omega⟩;have d:aa .sub .i64 ((m:Int)+1) 1=(m:Int):=by rw[vm (by omega) (by omega)];omega
 obtain⟨k,e,a⟩:∃k:Nat,k<s.length/\(p.getD m aS).2.2.1=(k:Int):=⟨(p.getD m aS).2.2.1.toNat,by have:=hN.oh m hm;omega,by have:=hN.oh m hm;omega⟩
 have A:=hN.aak k e;generalize f:p.getD m aS=y at a;obtain⟨r,O,F,G,P,Q,I,J,K,L,N,R,S⟩:=y;have a:F=(k:Int):=a;subst a;generalize i:s.getD k bl=x at A;obtain⟨o,c,b,kd,H,t,u,v,l,n,E⟩:=x;have D:s.getD k ax=(o,c,b,kd,H,t,u,v,l,n,E):=i;obtain⟨⟨q,_⟩,w,z,_⟩:=afK a0 a1 a2 a3 a4 a5 a6 a7 a8 a9 a10 s p g j hle.lp hN.oh;unfold qW Ua ee;simp only[Kh,LO,Int.reduceEq,bu,ct,rp,bS,C,d,J1 hm,J1 e,uI,hm,e,jt,cw,f,D,↓KP,az,aW,cP e,cP hm,qe,aX,fu,kx,w,z,apR r q];by_cases h:G=0
 .subst h;simp only[bu,fu,aW];cases ak .gtr (aa .add .i64 q r) a8 with
  |true=>simp only[az,aX];exact .no (by decide) (by decide)
  |false=>simp only[aW,aX];exact .yes (aai hle)
 .simp only[h,ct,kx,az,aX];exact .no (by decide) (by decide)
theorem asr:CmR M a0 a1 a2 a3 a4 a5 a6 a7 a8 a9 (qW a0 a1 a2 a3 a4 a5 a6 a7 a8 a9 a10 s p g j 3 ((m:Int)+1) cB cC cd h1 h2 h3 h4 h5 h6 h7) (ee a0 a1 a2 a3 a4 a5 a6 a7 a8 a9 a10 s p g j 3 ((m:Int)+1) cB cC cd h1 h2 h3 h4 h5 h6 h7):=by
 have N:=hN.Lu;have u:Jh ((m:Int)+1) 1 (bw p)=true:=kW.2 ⟨by omega,by unfold bw;omega⟩;have d:aa .sub .i64 ((m:Int)+1) 1=(m:Int):=by rw[vm (by omega) (by omega)];omega
 obtain⟨k,a,l⟩:∃k:Nat,k<s.length/\(p.getD m aS).2.2.1=(k:Int):=⟨(p.getD m aS).2.2.1.toNat,by have:=hN.oh m hm;omega,by have:=hN.oh m hm;omega⟩
 have D:=hN.aak k a;generalize e:p.getD m aS=y at l;obtain⟨F,Y,P,Q,Z,q6,T,U,V,W,X,q7,q8⟩:=y;have l:P=(k:Int):=l;subst l;generalize v:s.getD k bl=x at D;obtain⟨o,c,b,kd,B,H,I,J,f,n,G⟩:=x;have r:s.getD k ax=(o,c,b,kd,B,H,I,J,f,n,G):=v;have i:=hle.ss k a;rw[v]at i;obtain⟨⟨C,gc,R,S,ok,_⟩,w,z,t⟩:=aeP ((m:Int)+1) F (PU i) ⟨i.b,i.bs⟩ D.ZM (by omega);have w:Pm b ((m:Int)+1) F=_:=w;have z:Ou b ((m:Int)+1) F=_:=z;obtain⟨⟨r1,r2,r3,r4,r5,O,_⟩,K,L,_⟩:=aa1 0 0 false false false 1;have t:BkR b C:=t;have fin:∀kd B x1 x2 x3 f n q,K0 M (s.set k (o,c,C,kd,B,x1,x2,x3,f,n,G)) (p.set m q) g j:=λkd B x1 x2 x3 f n q=>MK hle a r ⟨i.o,i.c,by show C.length<=_;rw[t.1];exact i.b,ahj t (PU i) D.ZM,i.j⟩ t.1;by_cases h:Q=1
 rotate_left
 .unfold qW KZ tW ee;simp only[Kh,LO,Int.reduceEq,bu,ct,rp,bS,u,d,J1 hm,J1 a,uI,hm,a,jt,cw,e,r,↓KP,az,aW,cP a,cP hm,qe,jw,aX,fu,kx,h];exact .no (by decide) (by decide)
 subst h;by_cases A:f=0
 rotate_left
 .unfold qW KZ tW ee;simp only[Kh,LO,Int.reduceEq,bu,ct,rp,bS,u,d,J1 hm,J1 a,uI,hm,a,jt,cw,e,r,↓KP,az,aW,cP a,cP hm,qe,jw,aX,fu,kx,A,Kr,Kq];exact .no (by decide) (by decide)
 cases E:ae3 o c a10
 .unfold qW KZ tW ee;simp only[Kh,LO,Int.reduceEq,bu,ct,rp,bS,u,d,J1 hm,J1 a,uI,hm,a,jt,cw,e,r,↓KP,az,aW,cP a,cP hm,qe,jw,aX,fu,kx,A,E,Kr,Kq];exact .no (by decide) (by decide)
 cases ok
 .unfold qW KZ tW ee;simp only[Kh,LO,Int.reduceEq,bu,ct,rp,bS,u,d,J1 hm,J1 a,uI,hm,a,jt,cw,e,r,↓KP,az,aW,cP a,cP hm,qe,jw,aX,fu,kx,A,E,Kr,Kq,w,z];exact .no (by decide) (by decide)
 unfold qW KZ tW ee;simp only[Kh,LO,Int.reduceEq,bu,ct,rp,bS,u,d,J1 hm,J1 a,uI,hm,a,jt,cw,e,r,↓KP,az,aW,cP a,cP hm,qe,jw,aX,fu,kx,A,E,Kr,Kq,w,z,K,L];exact .yes (fin _ _ _ _ _ _ _ _)
theorem ass:CmR M a0 a1 a2 a3 a4 a5 a6 a7 a8 a9 (qW a0 a1 a2 a3 a4 a5 a6 a7 a8 a9 a10 s p g j 4 ((m:Int)+1) cB cC cd h1 h2 h3 h4 h5 h6 h7) (ee a0 a1 a2 a3 a4 a5 a6 a7 a8 a9 a10 s p g j 4 ((m:Int)+1) cB cC cd h1 h2 h3 h4 h5 h6 h7):=by
 have R:=hN.Lu;have r:Jh ((m:Int)+1) 1 (bw p)=true:=kW.2 ⟨by omega,by unfold bw;omega⟩;have d:aa .sub .i64 ((m:Int)+1) 1=(m:Int):=by rw[vm (by omega) (by omega)];omega
 obtain⟨k,a,i⟩:∃k:Nat,k<s.length/\(p.getD m aS).2.2.1=(k:Int):=⟨(p.getD m aS).2.2.1.toNat,by have:=hN.oh m hm;omega,by have:=hN.oh m hm;omega⟩
 have Q:=hN.aak k a;generalize e:p.getD m aS=y at i;obtain⟨q1,q2,q3,q4,q5,q6,T,U,V,W,X,q7,q8⟩:=y;have i:q3=(k:Int):=i;subst i;generalize t:s.getD k bl=x at Q;obtain⟨o,c,b,kd,C,N,O,P,f,l,J⟩:=x;have n:s.getD k ax=(o,c,b,kd,C,N,O,P,f,l,J):=t;have u:=hle.ss k a;rw[t]at u;have D:=hle.lg;obtain⟨⟨Y,_⟩,A,B,_⟩:=abr g cB ((m:Int)+1) a10 q2 D;obtain⟨⟨t1,t2,t3,t4,t5,F,_⟩,G,H,_⟩:=akq T U V W X a10 cd;obtain⟨⟨r1,r2,r3,r4,r5,Z,_⟩,K,L,_⟩:=aa1 0 0 false false true 2;have fin:∀kd C x1 x2 x3 f l q,K0 M (s.set k (o,c,b,kd,C,x1,x2,x3,f,l,J)) (p.set m q) g j:=λkd C x1 x2 x3 f l q=>MK hle a n ⟨u.o,u.c,u.b,u.bs,u.j⟩ rfl;by_cases h:q4=3
 rotate_left
 .unfold qW Kk tW ee;simp only[Kh,LO,Int.reduceEq,bu,ct,rp,bS,r,d,J1 hm,J1 a,uI,hm,a,jt,cw,e,n,↓KP,az,aW,cP a,cP hm,qe,jw,aX,fu,kx,h];exact .no (by decide) (by decide)
 subst h;obtain⟨⟨S,_⟩,E,w,_⟩:=ach a0 a1 a2 a3 a4 a5 a6 a7 a8 a9 a10 s p g j hle.le hN.ZM hN.box a hm (by rw[e]) (by rw[e]);rw[t]at w;have w:LI b ((m:Int)+1)=_:=w;by_cases v:f=0
 rotate_left
 .unfold qW Kk tW ee;simp only[Kh,LO,Int.reduceEq,bu,ct,rp,bS,r,d,J1 hm,J1 a,uI,hm,a,jt,cw,e,n,↓KP,az,aW,cP a,cP hm,qe,jw,aX,fu,kx,v];exact .no (by decide) (by decide)
 cases z:ae3 o c a10
 .unfold qW Kk tW ee;simp only[Kh,LO,Int.reduceEq,bu,ct,rp,bS,r,d,J1 hm,J1 a,uI,hm,a,jt,cw,e,n,↓KP,az,aW,cP a,cP hm,qe,jw,aX,fu,kx,v,z,Kr,Kq];exact .no (by decide) (by decide)
 cases Y
 .unfold qW Kk tW ee;simp only[Kh,LO,Int.reduceEq,bu,ct,rp,bS,r,d,J1 hm,J1 a,uI,hm,a,jt,cw,e,n,↓KP,az,aW,cP a,cP hm,qe,jw,aX,fu,kx,v,z,Kr,Kq,A,B];exact .no (by decide) (by decide)
 cases S
 rotate_left
 .unfold qW Kk tW ee;simp only[Kh,LO,Int.reduceEq,bu,ct,rp,bS,r,d,J1 hm,J1 a,uI,hm,a,jt,cw,e,n,↓KP,az,aW,cP a,cP hm,qe,jw,aX,fu,kx,v,z,Kr,Kq,A,B,E,w];exact .no (by decide) (by decide)
 by_cases I:F=0
 rotate_left
 .unfold qW Kk tW ee;simp only[Kh,LO,Int.reduceEq,bu,ct,rp,bS,r,d,J1 hm,J1 a,uI,hm,a,jt,cw,e,n,↓KP,az,aW,cP a,cP hm,qe,jw,aX,fu,kx,v,z,Kr,Kq,A,B,E,w,G,H,I];exact .yes (aai hle)
 unfold qW Kk tW ee;simp only[Kh,LO,Int.reduceEq,bu,ct,rp,bS,r,d,J1 hm,J1 a,uI,hm,a,jt,cw,e,n,↓KP,az,aW,cP a,cP hm,qe,jw,aX,fu,kx,v,z,Kr,Kq,A,B,E,w,G,H,I,K,L];exact .yes (fin _ _ _ _ _ _ _ _)
theorem ast:CmR M a0 a1 a2 a3 a4 a5 a6 a7 a8 a9 (qW a0 a1 a2 a3 a4 a5 a6 a7 a8 a9 a10 s p g j 5 ((m:Int)+1) cB cC cd h1 h2 h3 h4 h5 h6 h7) (ee a0 a1 a2 a3 a4 a5 a6 a7 a8 a9 a10 s p g j 5 ((m:Int)+1) cB cC cd h1 h2 h3 h4 h5 h6 h7):=by
 have L:=hN.Lu;have u:Jh ((m:Int)+1) 1 (bw p)=true:=kW.2 ⟨by omega,by unfold bw;omega⟩;have d:aa .sub .i64 ((m:Int)+1) 1=(m:Int):=by rw[vm (by omega) (by omega)];omega
 obtain⟨k,a,i⟩:∃k:Nat,k<s.length/\(p.getD m aS).2.2.1=(k:Int):=⟨(p.getD m aS).2.2.1.toNat,by have:=hN.oh m hm;omega,by have:=hN.oh m hm;omega⟩
 have K:=hN.aak k a;generalize e:p.getD m aS=y at i;obtain⟨Z,q2,Q,R,S,T,U,V,W,X,Y,q7,q8⟩:=y;have i:Q=(k:Int):=i;subst i;generalize r:s.getD k bl=x at K;obtain⟨o,c,b,kd,A,H,I,J,f,l,E⟩:=x;have n:s.getD k ax=(o,c,b,kd,A,H,I,J,f,l,E):=r;have t:=hle.ss k a;rw[r]at t;obtain⟨⟨P,_⟩,B,C,_⟩:=abw o c a0 a1 a2 a3 a4 a5 a6 a7 S a10 T;obtain⟨⟨r1,r2,r3,r4,r5,O,_⟩,F,G,_⟩:=aa1 0 0 false false true 2;have fin:∀kd A x1 x2 x3 f l q,K0 M (s.set k (o,c,b,kd,A,x1,x2,x3,f,l,E)) (p.set m q) g j:=λkd A x1 x2 x3 f l q=>MK hle a n ⟨t.o,t.c,t.b,t.bs,t.j⟩ rfl;by_cases h:R=3
 rotate_left
 .unfold qW Kp tW ee;simp only[Kh,LO,Int.reduceEq,bu,ct,rp,bS,u,d,J1 hm,J1 a,uI,hm,a,jt,cw,e,n,↓KP,az,aW,cP a,cP hm,qe,jw,aX,fu,kx,h];exact .no (by decide) (by decide)
 subst h;obtain⟨⟨N,_⟩,D,w,_⟩:=ach a0 a1 a2 a3 a4 a5 a6 a7 a8 a9 a10 s p g j hle.le hN.ZM hN.box a hm (by rw[e]) (by rw[e]);rw[r]at w;have w:LI b ((m:Int)+1)=_:=w;by_cases v:f=0
 rotate_left
 .unfold qW Kp tW ee;simp only[Kh,LO,Int.reduceEq,bu,ct,rp,bS,u,d,J1 hm,J1 a,uI,hm,a,jt,cw,e,n,↓KP,az,aW,cP a,cP hm,qe,jw,aX,fu,kx,v];exact .no (by decide) (by decide)
 cases z:ae3 o c a10
 .unfold qW Kp tW ee;simp only[Kh,LO,Int.reduceEq,bu,ct,rp,bS,u,d,J1 hm,J1 a,uI,hm,a,jt,cw,e,n,↓KP,az,aW,cP a,cP hm,qe,jw,aX,fu,kx,v,z,Kr,Kq];exact .no (by decide) (by decide)
 cases P
 .unfold qW Kp tW ee;simp only[Kh,LO,Int.reduceEq,bu,ct,rp,bS,u,d,J1 hm,J1 a,uI,hm,a,jt,cw,e,n,↓KP,az,aW,cP a,cP hm,qe,jw,aX,fu,kx,v,z,Kr,Kq,B,C];exact .no (by decide) (by decide)
 cases N
 rotate_left
 .unfold qW Kp tW ee;simp only[Kh,LO,Int.reduceEq,bu,ct,rp,bS,u,d,J1 hm,J1 a,uI,hm,a,jt,cw,e,n,↓KP,az,aW,cP a,cP hm,qe,jw,aX,fu,kx,v,z,Kr,Kq,B,C,D,w];exact .no (by decide) (by decide)
 unfold qW Kp tW ee;simp only[Kh,LO,Int.reduceEq,bu,ct,rp,bS,u,d,J1 hm,J1 a,uI,hm,a,jt,cw,e,n,↓KP,az,aW,cP a,cP hm,qe,jw,aX,fu,kx,v,z,Kr,Kq,B,C,D,w,F,G];exact .yes (fin _ _ _ _ _ _ _ _)
theorem apf:CmR M a0 a1 a2 a3 a4 a5 a6 a7 a8 a9 (qW a0 a1 a2 a3 a4 a5 a6 a7 a8 a9 a10 s p g j 12 ((m:Int)+1) cB cC cd h1 h2 h3 h4 h5 h6 h7) (ee a0 a1 a2 a3 a4 a5 a6 a7 a8 a9 a10 s p g j 12 ((m:Int)+1) cB cC cd h1 h2 h3 h4 h5 h6 h7):=by
 have V:=hN.Lu;have w:Jh ((m:Int)+1) 1 (bw p)=true:=kW.2 ⟨by omega,by unfold bw;omega⟩;have d:aa .sub .i64 ((m:Int)+1) 1=(m:Int):=by rw[vm (by omega) (by omega)];omega
 obtain⟨k,a,n⟩:∃k:Nat,k<s.length/\(p.getD m aS).2.2.1=(k:Int):=⟨(p.getD m aS).2.2.1.toNat,by have:=hN.oh m hm;omega,by have:=hN.oh m hm;omega⟩
 have T:=hN.aak k a;generalize e:p.getD m aS=y at n;obtain⟨q1,Y,Z,q4,q5,q6,l1,l2,l3,l4,l5,q7,q8⟩:=y;have n:Z=(k:Int):=n;subst n;generalize r:s.getD k bl=x at T;obtain⟨o,c,b,kd,R,J,K,L,z,A,l⟩:=x;have v:s.getD k ax=(o,c,b,kd,R,J,K,L,z,A,l):=r;have D:=hle.ss k a;rw[r]at D;have P:=hle.lg;have O:R3 (s.getD k bl)=l:=by rw[r];rfl
 have W:l.length<=1073741824:=D.j;obtain⟨⟨X,_⟩,B,C,_⟩:=abr g cB ((m:Int)+1) a10 Y P;obtain⟨⟨ce,_⟩,E,F,_⟩:=acM o c a0 a1 a2 a3 a4 a5 a6 a7 q5 a10 q6;have S:=λf i x y=>abj l k f i x y W;have t:∀(Q:List Oc),Ko a0 a1 a2 a3 a4 a5 a6 a7 a8 a9 a10 s Q g j=some ((Nd j (s.map R3)).1,(Nd j (s.map R3)).2,()):=λQ=>(UW a0 a1 a2 a3 a4 a5 a6 a7 a8 a9 a10 s Q g j hle.lj hle.ls).2;have I:=λq f i x y=>ZD a0 a1 a2 a3 a4 a5 a6 a7 a8 a9 a10 s (p.set m q) g j (aai hle).le a f i x y;have H:∀f i x y,wrS s j k f i x y=bif (Nd j (s.map R3)).2&&Bool.not (ak .geq (bw (Nd j (s.map R3)).1) 60)then(s.set k (o,c,b,kd,R,J,K,L,z,A,(Ll l k f i x y).1),(Ll l k f i x y).2)else(s,false):=λf i x y=>by unfold wrS;rw[O,r]
 have u:=Lp T.jr;have u:l.length<=60:=u;have fin:∀f i x y q,K0 M (s.set k (o,c,b,kd,R,J,K,L,z,A,(Ll l k f i x y).1)) (p.set m q) g j:=λf i x y q=>MK hle a v ⟨D.o,D.c,D.b,D.bs,by have:=ab2 l k f i x y;show(Ll l k f i x y).1.length<=_;omega⟩ rfl;by_cases h:q4=3
 rotate_left
 .unfold qW JR ee;simp only[Kh,LO,Int.reduceEq,bu,ct,rp,bS,w,d,J1 hm,J1 a,uI,hm,a,jt,cw,e,v,↓KP,az,aW,cP a,cP hm,qe,jw,aX,fu,kx,h];exact .no (by decide) (by decide)
 subst h;cases X
 .unfold qW JR ee;simp only[Kh,LO,Int.reduceEq,bu,ct,rp,bS,w,d,J1 hm,J1 a,uI,hm,a,jt,cw,e,v,↓KP,az,aW,cP a,cP hm,qe,jw,aX,fu,kx,B,C];exact .no (by decide) (by decide)
 cases ce
 .unfold qW JR ee;simp only[Kh,LO,Int.reduceEq,bu,ct,rp,bS,w,d,J1 hm,J1 a,uI,hm,a,jt,cw,e,v,↓KP,az,aW,cP a,cP hm,qe,jw,aX,fu,kx,B,C,E,F];exact .no (by decide) (by decide)
 cases G:(Nd j (s.map R3)).2
 .unfold qW JR ee;simp only[Kh,LO,Int.reduceEq,bu,ct,rp,bS,w,d,J1 hm,J1 a,uI,hm,a,jt,cw,e,v,↓KP,az,aW,cP a,cP hm,qe,jw,aX,fu,kx,B,C,E,F,t,I,H,Vj,Vk,ow,Oh,G];exact .no (by decide) (by decide)
 cases N:ak .geq (bw (Nd j (s.map R3)).1) 60
 rotate_left
 .unfold qW JR ee;simp only[Kh,LO,Int.reduceEq,bu,ct,rp,bS,w,d,J1 hm,J1 a,uI,hm,a,jt,cw,e,v,↓KP,az,aW,cP a,cP hm,qe,jw,aX,fu,kx,B,C,E,F,t,I,H,Vj,Vk,ow,Oh,G,N];exact .no (by decide) (by decide)
 cases U:(Ll l k 2 ((m:Int)+1) 0 0).2
 .unfold qW JR ee;simp only[Kh,LO,Int.reduceEq,bu,ct,rp,bS,w,d,J1 hm,J1 a,uI,hm,a,jt,cw,e,v,↓KP,az,aW,cP a,cP hm,qe,jw,aX,fu,kx,B,C,E,F,t,I,H,Vj,Vk,ow,Oh,S,G,N,U];exact .no (by decide) (by decide)
 unfold qW JR ee;simp only[Kh,LO,Int.reduceEq,bu,ct,rp,bS,w,d,J1 hm,J1 a,uI,hm,a,jt,cw,e,v,↓KP,az,aW,cP a,cP hm,qe,jw,aX,fu,kx,B,C,E,F,t,I,H,Vj,Vk,ow,Oh,S,G,N,U];exact .yes (fin _ _ _ _ _)
end
end Go.Fn
namespace Go.Fn
open Go.R
attribute [local congr] aa4 aa2
section
variable (M:List Nat)(a0 a1 a2 a3 a4 a5 a6 a7 a8 a9 a10:Int)(s:List Site)(p:List Oc)(g:List PM)(j:List Ev)
variable (hle:K0 M s p g j)(hN:afY a0 a1 a2 a3 a4 a5 a6 a7 a8 a9 a10 s p g j)(cA cB cC:Int)(cd:ByteArray)(h1 h2 h3 h4 h5 h6:Int)(h7:Bool)
include hle hN
theorem asp:CmR M a0 a1 a2 a3 a4 a5 a6 a7 a8 a9 (Jw a0 a1 a2 a3 a4 a5 a6 a7 a8 a9 a10 s p g j 1 cA cB cC cd h1 h2 h3 h4 h5 h6 h7) (gA a0 a1 a2 a3 a4 a5 a6 a7 a8 a9 a10 s p g j 1 cA cB cC cd h1 h2 h3 h4 h5 h6 h7):=by
 have k:=hN.Lu;have l:∀x:Oc,dF (List.append p (List.append [] [x]))=true:=λx=>rm (by show(p++[x]).length<=_;rw[cR];show p.length+1<=_;omega);have a:Jf cA=some (Jh cA 1 40,()):=by unfold Jf;rw[rp];rfl
 have b:Is cA=some (Jh cA 1 40,()):=by unfold Is;rw[bS];rfl
 have c:ak .geq (bw p) 12=ak .eql (bw p) 12:=by rw[PT,LM];show decide (bw p>=12)=true↔_;rw[decide_eq_true_iff];unfold bw;omega
 cases d:Jh cC 0 (aa .sub .i64 (bw s) 1)
 .unfold Jw gA;simp only[Kh,Int.reduceEq,bu,rp,bS,aX,az,aW,fu,kx,d];exact .no (by decide) (by decide)
 cases e:Jh cA 1 40
 .unfold Jw gA;simp only[Kh,Int.reduceEq,bu,rp,bS,aX,az,aW,fu,kx,d,a,b,e];exact .no (by decide) (by decide)
 cases f:Jh cB 1 24
 .unfold Jw gA;simp only[Kh,Int.reduceEq,bu,rp,bS,aX,az,aW,fu,kx,d,a,b,e,f];exact .no (by decide) (by decide)
 cases i:ak .eql (bw p) 12
 .have h:decide (bw p=12)=false:=i;unfold Jw gA;simp only[c,Kh,Int.reduceEq,bu,rp,bS,aX,az,aW,fu,kx,d,a,b,e,f,h,l,↓jE];exact .yes ⟨hle.ls,hle.ss,by show(p++[_]).length<=_;rw[cR];show p.length+1<=_;omega,hle.lg,hle.lj,hle.bk⟩
 .have h:decide (bw p=12)=true:=i;unfold Jw gA;simp only[c,Kh,Int.reduceEq,bu,rp,bS,aX,az,aW,fu,kx,d,a,b,e,f,h];exact .no (by decide) (by decide)
omit hle in
theorem acd:g.length<=30:=by
 have h:=hN.gr;unfold JZ at h;cases a:ak .leq (bw g) 30 with
 |true=>have:=ck (p:=bw g<=30) a;unfold bw at this;omega
 |false=>rw[a]at h;cases h
theorem apa:CmR M a0 a1 a2 a3 a4 a5 a6 a7 a8 a9 (Jl a0 a1 a2 a3 a4 a5 a6 a7 a8 a9 a10 s p g j 13 cA cB cC cd h1 h2 h3 h4 h5 h6 h7) (gA a0 a1 a2 a3 a4 a5 a6 a7 a8 a9 a10 s p g j 13 cA cB cC cd h1 h2 h3 h4 h5 h6 h7):=by
 have e:=acd a0 a1 a2 a3 a4 a5 a6 a7 a8 a9 a10 s p g j hN;have b:=hN.gr;have a:=ZP g (by omega);have h:∀x:PM,dF (List.append g (List.append [] [x]))=true:=λx=>rm (by show(g++[x]).length<=_;rw[cR];show g.length+1<=_;omega);obtain⟨⟨i,_⟩,c,d,_⟩:=adR h1 h2 h3 h4 h5 h6 h7;cases i
 .unfold Jl gA LC;simp only[Kh,Int.reduceEq,bu,ct,c,d,aX,az,aW,fu,kx];exact .no (by decide) (by decide)
 cases h7
 .cases f:decide (bw g=30)
  .unfold Jl gA LC;simp only[Kh,Int.reduceEq,bu,ct,c,d,aX,az,aW,fu,kx,b,a,f,h,↓jE];exact .yes ⟨hle.ls,hle.ss,hle.lp,by show(g++[_]).length<=_;rw[cR];show g.length+1<=_;omega,hle.lj,hle.bk⟩
  .unfold Jl gA LC;simp only[Kh,Int.reduceEq,bu,ct,c,d,aX,az,aW,fu,kx,b,a,f];exact .no (by decide) (by decide)
 .unfold Jl gA LC;simp only[Kh,Int.reduceEq,bu,ct,c,d,aX,az,aW,fu,kx];exact .no (by decide) (by decide)
theorem apb:CmR M a0 a1 a2 a3 a4 a5 a6 a7 a8 a9 (Jl a0 a1 a2 a3 a4 a5 a6 a7 a8 a9 a10 s p g j 14 cA cB cC cd h1 h2 h3 h4 h5 h6 h7) (gA a0 a1 a2 a3 a4 a5 a6 a7 a8 a9 a10 s p g j 14 cA cB cC cd h1 h2 h3 h4 h5 h6 h7):=by
 have d:=acd a0 a1 a2 a3 a4 a5 a6 a7 a8 a9 a10 s p g j hN;have b:=hN.gr;have a:=ZP g (by omega);cases c:Jh cA 0 (aa .sub .i64 (bw g) 1)
 .unfold Jl gA Rg;simp only[Kh,Int.reduceEq,bu,ct,rp,bS,aX,az,aW,fu,kx,c];exact .no (by decide) (by decide)
 obtain⟨i,h⟩:=kW.1 c;rw[show aa .sub .i64 (bw g) 1=(g.length:Int)-1 from vm (by unfold bw;omega) (by unfold bw;omega)]at h;obtain⟨n,rfl⟩:∃n:Nat,cA=(n:Int):=⟨cA.toNat,by omega⟩
 have e:n<g.length:=by omega
 cases f:(g.getD n kC).2.2.2.2.2.2
 .unfold Jl gA Rg;simp only[Kh,Int.reduceEq,bu,ct,rp,bS,aX,az,aW,fu,kx,c,b,a,J1 e,cw,jt,f,↓jE];exact .yes ⟨hle.ls,hle.ss,hle.lp,by rw[jw];exact hle.lg,hle.lj,hle.bk⟩
 .unfold Jl gA Rg;simp only[Kh,Int.reduceEq,bu,ct,rp,bS,aX,az,aW,fu,kx,c,b,a,J1 e,cw,f];exact .no (by decide) (by decide)
omit hN in
theorem apc:CmR M a0 a1 a2 a3 a4 a5 a6 a7 a8 a9 (Jl a0 a1 a2 a3 a4 a5 a6 a7 a8 a9 a10 s p g j 15 cA cB cC cd h1 h2 h3 h4 h5 h6 h7) (gA a0 a1 a2 a3 a4 a5 a6 a7 a8 a9 a10 s p g j 15 cA cB cC cd h1 h2 h3 h4 h5 h6 h7):=by
 unfold Jl gA;simp only[Kh,Int.reduceEq,bu,ct,az,aW];cases ak .lss cA 1
 .simp only[aW];cases ak .gtr cA (aa .sub .i64 20000 a10)
  .exact .yes hle
  .exact .no (by decide) (by decide)
 .exact .no (by decide) (by decide)
omit hN in
theorem apd{k:Nat}(f:k<s.length):CmR M a0 a1 a2 a3 a4 a5 a6 a7 a8 a9 (E2 a0 a1 a2 a3 a4 a5 a6 a7 a8 a9 a10 s p g j 16 k cB cC cd h1 h2 h3 h4 h5 h6 h7) (gA a0 a1 a2 a3 a4 a5 a6 a7 a8 a9 a10 s p g j 16 k cB cC cd h1 h2 h3 h4 h5 h6 h7):=by
 have e:=UT s hle.ls f;have d:=hle.ss k f;generalize u:s.getD k bl=x at d;obtain⟨o,c,b,kd,C,w,y,z,h,i,a⟩:=x;have t:s.getD k ax=(o,c,b,kd,C,w,y,z,h,i,a):=u;have r:=ae9 j a;have n:=SQ (JN j a).1 (by omega);have B:dF (List.append [] (JN j a).1)=true:=rm (by show(JN j a).1.length<=_;omega);have v:dF (JN j a).1=true:=B;have l:List.append [] (JN j a).1=(JN j a).1:=rfl;cases A:(JN j a).2
 .unfold E2 SK gA;simp only[Kh,Int.reduceEq,bu,ct,rp,bS,aX,az,aW,fu,kx,e,J1 f,cw,t,Wc,VZ,A];exact .no (by decide) (by decide)
 .unfold E2 SK gA;simp only[Kh,Int.reduceEq,bu,ct,rp,bS,aX,az,aW,fu,kx,e,J1 f,cw,jt,t,Wc,VZ,A,B,v,l,n,↓jE];have:=MK (m:=p.length) (q:=ajg) hle (k:=k) f t (x:=(o,c,b,kd,C,w,y,z,h,i,(JN j a).1)) ⟨d.o,d.c,d.b,d.bs,by show(JN j a).1.length<=_;omega⟩ rfl;exact .yes ⟨this.ls,this.ss,hle.lp,hle.lg,iN r (by decide),this.bk⟩
end
end Go.Fn
namespace Go.Fn
open Go.R
attribute [local congr] aa4 aa2
def aat:∀(k i:Nat),KE (λ_=>true) i k=none
 |0,_=>rfl
 |k+1,i=>by unfold KE;exact aat k (i+1)
def xw{X Y:Type}{body:X->Option (X⊕Y)}(b:Nat->X)(len:Nat)(a:len<1099511627776){r:Y}(e:∀n,n<len->body (b n)=some (.inl (b (n+1))))(c:body (b len)=some (.inr r)):iter body big (b 0)=some r:=by have:=NV b len a (λ_=>true) r (λ_=>r) (λn d=>e n d) c;rwa[aat]at this
def acp{l:List Bx}{c:Int}(a:0<=c):∀n,n<=l.length->c<mS l n->∃i,i<n/\mS l i<=c/\c<mS l (i+1)
 |0,_,h=>absurd h (by show ¬c<0;omega)
 |n+1,d,h=>by
  by_cases b:c<mS l n
  .obtain⟨i,h1,h2⟩:=acp a n (by omega) b;exact⟨i,by omega,h2⟩
  .exact⟨n,by omega,by omega,h⟩
section
variable (a0 a1 a2 a3 a4 a5 a6 a7 a8 a9 a10:Int)(s:List Site)(p:List Oc)(g:List PM)(j:List Ev)
variable (k:Nat)(cB cC:Int)(cd:ByteArray)(h1 h2 h3 h4 h5 h6:Int)(h7:Bool)(kd st:Int)(d1 d2 d3:Bool)(par who:Int)
abbrev jT(n:Int)(a:List Site):=(a0,a1,a2,a3,a4,a5,a6,a7,a8,a9,a10,n,a,p,g,j,a0,a1,a2,a3,a4,a5,a6,a7,a8,a9,a10,(17:Int),(k:Int),cB,cC,cd,h1,h2,h3,h4,h5,h6,h7,(0:Int),(0:Int),(0:Int),(0:Int),(0:Int),(0:Int),(0:Int),(0:Int),(0:Int),(0:Int),(0:Int),(k:Int),(k:Int),(k:Int),kd,st,d1,d2,d3,par,who,(k:Int),())
variable {o c:List M8}{jr:List Ev}{b':List LK}{hh:Int}{ff:List Int}{l':List Bx}{cb n:Nat}{s':List Site}
theorem afH (h:k<s'.length) (f:s'.getD k ax=(o,c,b',kd,st,d1,d2,d3,par,who,jr)) (a:cb<b'.length) (d:b'.getD cb br=(hh,ff,l')) (b:n<l'.length) (i:l'.length<=24)
  (e:Jh cC (l'.getD n gI).1 (aa .sub .i64 (aa .add .i64 (l'.getD n gI).1 (l'.getD n gI).2.1) 1)=false):
  J9 (jT a0 a1 a2 a3 a4 a5 a6 a7 a8 a9 a10 p g j k cb cC cd h1 h2 h3 h4 h5 h6 h7 kd st d1 d2 d3 par who n s')=some (.inl (jT a0 a1 a2 a3 a4 a5 a6 a7 a8 a9 a10 p g j k cb cC cd h1 h2 h3 h4 h5 h6 h7 kd st d1 d2 d3 par who (n+1:Nat) s')):=by
 unfold J9;simp only[cw,f,d,J1 a,J1 b,bP,b,bu,az,↓jE,rp,aX,e,kx,eW (n:=n) (by omega)]
theorem akg{a e b:Int}{h:Bool}(l:k<s'.length)(r:s'.getD k ax=(o,c,b',kd,st,d1,d2,d3,par,who,jr))(d:cb<b'.length)(i:b'.getD cb br=(hh,ff,l'))(f:n<l'.length)(s:l'.length<=24)(m:l'.getD n gI=(a,e,b,h))(q:Jh cC a (aa .sub .i64 (aa .add .i64 a e) 1)=true):
  J9 (jT a0 a1 a2 a3 a4 a5 a6 a7 a8 a9 a10 p g j k cb cC cd h1 h2 h3 h4 h5 h6 h7 kd st d1 d2 d3 par who n s')=some (bif Bool.not (decide (par=0))&&decide (b=par)then .inr (.inl (a0,a1,a2,a3,a4,a5,a6,a7,a8,a9,a10,4,s',p,g,j,a0,a1,a2,a3,a4,a5,a6,a7,a8,a9,a10,()))else .inl (jT a0 a1 a2 a3 a4 a5 a6 a7 a8 a9 a10 p g j k cb cC cd h1 h2 h3 h4 h5 h6 h7 kd st d1 d2 d3 par who (n+1:Nat) (s'.set k (o,c,b'.set cb (hh,ff,l'.set n (a,e,b,Bool.not h)),kd,st,d1,d2,d3,par,who,jr)))):=by
 unfold J9;simp only[cw,jt,r,i,m,J1 l,J1 d,J1 f,bP,f,bu,az,↓jE,rp,aX,q,fu,aW,eW (n:=n) (by omega),Kh,LO];cases decide (par=0)with
 |true=>rfl
 |false=>cases decide (b=par) <;> rfl
theorem akf(e:k<s'.length)(d:s'.getD k ax=(o,c,b',kd,st,d1,d2,d3,par,who,jr))(a:cb<b'.length)(b:b'.getD cb br=(hh,ff,l')):
  ∃r,J9 (jT a0 a1 a2 a3 a4 a5 a6 a7 a8 a9 a10 p g j k cb cC cd h1 h2 h3 h4 h5 h6 h7 kd st d1 d2 d3 par who l'.length s')=some (.inr (.inr (.inl r)))/\r=(a0,a1,a2,a3,a4,a5,a6,a7,a8,a9,a10,s',p,g,j,a0,a1,a2,a3,a4,a5,a6,a7,a8,a9,a10,r.2.2.2.2.2.2.2.2.2.2.2.2.2.2.2.2.2.2.2.2.2.2.2.2.2.2):=by
 unfold J9;simp only[cw,d,b,J1 a,bP,eL,ct,az,aW,↓jE];exact⟨_,rfl,rfl⟩
theorem aj6(l:List Bx)(o:l.length<=1048576)(x1 x2 x3 a:Int)(b:ByteArray)(c d e f g i:Int)(j:Bool)(t:Nat->Bool)(m:∀n,n<l.length->(ak .geq a (l.getD n gI).1&&ak .lss a (aa .add .i64 (l.getD n gI).1 (l.getD n gI).2.1))=t n):
  qS l x1 x2 x3 a b c d e f g i j=some (Yi (KE (λn=>Bool.not (t n)) 0 l.length),()):=by
 unfold qS;have:=NV (body:=py (l,x1,x2,x3,a,b,c,d,e,f,g,i,j,bw l,())) (λn=>((n:Int),())) l.length (by omega) (λn=>Bool.not (t n)) (Sum.inr (Sum.inl ())) (λn=>Sum.inl ((n:Int),())) (λn k=>by
  have h:=m n k;unfold py Nc;simp only[bP,dX,k,bu,az,cw,eW (n:=n) (by omega)];cases h1:ak .geq a (l.getD n gI).1 with
  |true=>rw[h1,ow]at h;rw[az,h,aX];cases t n <;> rfl
  |false=>rw[h1,Oh]at h;rw[<-h];rfl) (by
  unfold py;simp only[bP,eL,ct,aW])
 have h1:xp (l,x1,x2,x3,a,b,c,d,e,f,g,i,j,bw l,()) ((0:Int),())=_:=this;rw[h1];cases KE (λn=>Bool.not (t n)) 0 l.length <;> rfl
variable (M:List Nat)(hle:K0 M s p g j)(hN:afY a0 a1 a2 a3 a4 a5 a6 a7 a8 a9 a10 s p g j)
include hle hN
theorem ape(v:k<s.length):CmR M a0 a1 a2 a3 a4 a5 a6 a7 a8 a9 (E2 a0 a1 a2 a3 a4 a5 a6 a7 a8 a9 a10 s p g j 17 k cB cC cd h1 h2 h3 h4 h5 h6 h7) (gA a0 a1 a2 a3 a4 a5 a6 a7 a8 a9 a10 s p g j 17 k cB cC cd h1 h2 h3 h4 h5 h6 h7):=by
 have y:=UT s hle.ls v;have hF:=hN.aak k v;have P:=hle.ss k v;generalize hx0:s.getD k bl=x at hF P;obtain⟨o,c,b,kd,st,d1,d2,d3,par,who,jr⟩:=x;have K:s.getD k ax=(o,c,b,kd,st,d1,d2,d3,par,who,jr):=hx0;have w:Kb b=true:=hF.ZM;have hb6:=ZO w;cases V:Jh cB 0 (aa .sub .i64 (bw b) 1)
 .unfold E2 Oa gA;simp only[Kh,Int.reduceEq,bu,ct,rp,bS,aX,az,aW,fu,kx,y,J1 v,cw,K,V];exact .no (by decide) (by decide)
 obtain⟨i2,i3⟩:=kW.1 V;rw[show aa .sub .i64 (bw b) 1=(b.length:Int)-1 from vm (by unfold bw;omega) (by unfold bw;omega)]at i3;obtain⟨cb,rfl⟩:∃n:Nat,cB=(n:Int):=⟨cB.toNat,by omega⟩
 have a:cb<b.length:=by omega
 have d:=ZN w a;have I:Xd (pu b cb).1 (pu b cb).2.1 (pu b cb).2.2=true:=by unfold Kb at w;rw[aQ]at w;have:=(iW _ _).1 w.2 cb (kU _) (by omega);unfold NA at this;rw[aQ]at this;exact this.1
 generalize hc0:pu b cb=col at d I;obtain⟨hh,ff,l⟩:=col;have Q:b.getD cb br=(hh,ff,l):=hc0;have d:l.length<=24:=d;obtain⟨G,hsum⟩:=af9 (h:=hh) (f:=ff) (l:=l) I;have hH:=G.sum l.length (aJ _);have D:∀n,n<l.length->(l.getD n gI).1=mS l n/\aa .add .i64 (l.getD n gI).1 (l.getD n gI).2.1=mS l (n+1)/\aa .sub .i64 (aa .add .i64 (l.getD n gI).1 (l.getD n gI).2.1) 1=mS l (n+1)-1:=λn u=>by
  have e1:=G.low n u;have e2:=G.step n u;have e3:=G.sum (n+1) u;have e4:aa .add .i64 (l.getD n gI).1 (l.getD n gI).2.1=mS l (n+1):=by rw[e1,e2];exact sO (by omega) (by omega)
  exact⟨e1,e4,by rw[e4];exact vm (by omega) (by omega)⟩
 have ht:∀n,n<l.length->(ak .geq cC (l.getD n gI).1&&ak .lss cC (aa .add .i64 (l.getD n gI).1 (l.getD n gI).2.1))=decide (mS l n<=cC/\cC<mS l (n+1)):=λn u=>by rw[(D n u).2.1,(D n u).1,Bool.decide_and];rfl
 have S:∀n,n<l.length->Jh cC (l.getD n gI).1 (aa .sub .i64 (aa .add .i64 (l.getD n gI).1 (l.getD n gI).2.1) 1)=decide (mS l n<=cC/\cC<mS l (n+1)):=λn u=>by rw[(D n u).2.2,(D n u).1,PT,kW,decide_eq_true_iff];omega
 have fi:=aj6 l (by omega) 17 k cb cC cd h1 h2 h3 h4 h5 h6 h7 _ ht;cases T:Jh cC 0 (aa .sub .i64 hh 1)
 .cases R:KE (λn=>Bool.not (decide (mS l n<=cC/\cC<mS l (n+1)))) 0 l.length with
  |some n=>
   obtain⟨_,U,q3⟩:=N4 _ _ _ R;have q4:decide (mS l n<=cC/\cC<mS l (n+1))=true:=by rw[<-acE];exact q3
   have q4:=ck q4;have q5:=G.mono (n:=n+1) (m:=l.length) (by omega) (aJ _);have q6:=G.sum n (by omega);have:Jh cC 0 (aa .sub .i64 hh 1)=true:=kW.2 ⟨by omega,by rw[vm (by omega) (by omega)];omega⟩;rw[this]at T;cases T
  |none=>rw[R]at fi;unfold E2 Oa gA;simp only[Kh,Int.reduceEq,bu,ct,rp,bS,aX,az,aW,fu,kx,y,J1 v,J1 a,cw,K,Q,V,T,fi,show ak .lss (Yi none) 0=true from rfl];exact .no (by decide) (by decide)
 .obtain⟨i4,i5⟩:=kW.1 T;rw[vm (by omega) (by omega)]at i5;obtain⟨n,R⟩:∃n,KE (λn=>Bool.not (decide (mS l n<=cC/\cC<mS l (n+1)))) 0 l.length=some n:=by
   cases R:KE (λn=>Bool.not (decide (mS l n<=cC/\cC<mS l (n+1)))) 0 l.length with
   |some n=>exact⟨n,rfl⟩
   |none=>obtain⟨i,W,U⟩:=acp i4 l.length (aJ _) (by omega);have:=Re _ _ R i (kU _) (by omega);rw[iO U]at this;cases this
  obtain⟨_,U,q3⟩:=N4 _ _ _ R;have q4:decide (mS l n<=cC/\cC<mS l (n+1))=true:=by rw[<-acE];exact q3
  have q5:=ck q4;have u:n<l.length:=by omega
  have un:∀m,m<l.length->m≠n->decide (mS l m<=cC/\cC<mS l (m+1))=false:=λm E he=>by
   apply Gi;by_cases h:m<n
   .have:=G.mono (n:=m+1) (m:=n) h (by omega);omega
   .have:=G.mono (n:=n+1) (m:=m) (by omega) (by omega);omega
  have tn:=S n u;rw[q4]at tn;rw[R]at fi;have fi:_=some ((n:Int),()):=fi;have nl:ak .lss (n:Int) 0=false:=Gi (p:=(n:Int)<0) (by omega);generalize C:l.getD n gI=bx at tn;obtain⟨N,O,F,L⟩:=bx;have A:=akg a0 a1 a2 a3 a4 a5 a6 a7 a8 a9 a10 p g j k cC cd h1 h2 h3 h4 h5 h6 h7 kd st d1 d2 d3 par who v K a Q u d C tn;have before:∀m,m<n->J9 (jT a0 a1 a2 a3 a4 a5 a6 a7 a8 a9 a10 p g j k cb cC cd h1 h2 h3 h4 h5 h6 h7 kd st d1 d2 d3 par who m s)=_:=λm E=>afH a0 a1 a2 a3 a4 a5 a6 a7 a8 a9 a10 p g j k cC cd h1 h2 h3 h4 h5 h6 h7 kd st d1 d2 d3 par who v K a Q (n:=m) (by omega) d ((S m (by omega)).trans (un m (by omega) (by omega)));cases t:Bool.not (decide (par=0))&&decide (F=par)
  .rw[t]at A;generalize B:s.set k (o,c,b.set cb (hh,ff,l.set n (N,O,F,Bool.not L)),kd,st,d1,d2,d3,par,who,jr)=s' at A;have Y:k<s'.length:=by rw[<-B,jw];exact v
   have Z:s'.getD k ax=(o,c,b.set cb (hh,ff,l.set n (N,O,F,Bool.not L)),kd,st,d1,d2,d3,par,who,jr):=by rw[<-B];exact cP v _ _
   have H:cb<(b.set cb (hh,ff,l.set n (N,O,F,Bool.not L))).length:=by rw[jw];exact a
   have X:(b.set cb (hh,ff,l.set n (N,O,F,Bool.not L))).getD cb br=(hh,ff,l.set n (N,O,F,Bool.not L)):=cP a _ _;have hl':(l.set n (N,O,F,Bool.not L)).length=l.length:=jw;obtain⟨r,he,hr⟩:=akf a0 a1 a2 a3 a4 a5 a6 a7 a8 a9 a10 p g j k cC cd h1 h2 h3 h4 h5 h6 h7 kd st d1 d2 d3 par who Y Z H X;rw[hl']at he;generalize r.2.2.2.2.2.2.2.2.2.2.2.2.2.2.2.2.2.2.2.2.2.2.2.2.2.2=z at hr;subst hr;have e:PI (jT a0 a1 a2 a3 a4 a5 a6 a7 a8 a9 a10 p g j k cb cC cd h1 h2 h3 h4 h5 h6 h7 kd st d1 d2 d3 par who 0 s)=_:=xw (λm=>jT a0 a1 a2 a3 a4 a5 a6 a7 a8 a9 a10 p g j k cb cC cd h1 h2 h3 h4 h5 h6 h7 kd st d1 d2 d3 par who m (if m<=n then s else s')) l.length (by omega) (λm E=>by
    by_cases W:m<n
    .rw[cz (by omega),cz (by omega)];exact before m W
    .by_cases U:m=n
     .subst U;rw[cz (aJ _),bc (by omega)];exact A
     .rw[bc (by omega),bc (by omega)];have hg:(l.set n (N,O,F,Bool.not L)).getD m gI=l.getD m gI:=Go.R.getD_set_ne (λh=>U h.symm) _ _;exact afH a0 a1 a2 a3 a4 a5 a6 a7 a8 a9 a10 p g j k cC cd h1 h2 h3 h4 h5 h6 h7 kd st d1 d2 d3 par who Y Z H X (n:=m) (by omega) (by omega) (by rw[hg];exact(S m E).trans (un m E U))) (by
    rw[bc (by omega)];exact he)
   have J:K0 M s' p g j:=by
    have:=MK (m:=p.length) (q:=ajg) hle (k:=k) v K (x:=(o,c,b.set cb (hh,ff,l.set n (N,O,F,Bool.not L)),kd,st,d1,d2,d3,par,who,jr)) ⟨P.o,P.c,by rw[jw];exact P.b,λm E=>by
     rw[jw]at E;by_cases q:cb=m
     .subst q;have:VK 1073741824 (b.getD cb br):=P.bs cb E;rw[Q]at this;rw[cP E];exact⟨this.1,by rw[jw];exact this.2⟩
     .rw[Go.R.getD_set_ne q];exact P.bs m E,P.j⟩ jw
    rw[B]at this;exact⟨this.ls,this.ss,hle.lp,hle.lg,hle.lj,this.bk⟩
   unfold E2 Oa gA;cases W:decide (par=0)
   .rw[W,kx,ow]at t;simp only[Kh,LO,Int.reduceEq,bu,ct,rp,bS,aX,az,aW,fu,kx,y,J1 v,J1 a,J1 u,cw,jt,K,Q,C,V,T,fi,nl,e,W,t,B,↓KP,NQ,VW];exact .yes J
   .simp only[Kh,LO,Int.reduceEq,bu,ct,rp,bS,aX,az,aW,fu,kx,y,J1 v,J1 a,J1 u,cw,jt,K,Q,C,V,T,fi,nl,e,W,B,↓KP,NQ,VW];exact .yes J
  .rw[t]at A;have e:PI (jT a0 a1 a2 a3 a4 a5 a6 a7 a8 a9 a10 p g j k cb cC cd h1 h2 h3 h4 h5 h6 h7 kd st d1 d2 d3 par who 0 s)=_:=xw (λm=>jT a0 a1 a2 a3 a4 a5 a6 a7 a8 a9 a10 p g j k cb cC cd h1 h2 h3 h4 h5 h6 h7 kd st d1 d2 d3 par who m s) n (by omega) before A;rw[aQ,sC]at t;unfold E2 Oa gA;simp only[Kh,LO,Int.reduceEq,bu,ct,rp,bS,aX,az,aW,fu,kx,y,J1 v,J1 a,J1 u,cw,K,Q,C,V,T,fi,nl,e,t.1,t.2,↓KP,NQ];exact .no (by decide) (by decide)
end
end Go.Fn
namespace Go.Fn
open Go.R
attribute [local congr] aa4 aa2
def eqP(x y:Int):ak .eql x y=decide (x=y):=Eq.trans rfl rfl
def cTP{α:Type}(a b:α):(bif true then a else b)=a:=Eq.trans rfl rfl
def cFP{α:Type}(a b:α):(bif false then a else b)=b:=Eq.trans rfl rfl
def bsP{α b:Type}(a:α)(f:α->Option b):(some a).bind f=f a:=Eq.trans rfl rfl
def aa5{α:Type}(a:α->Nat)(z:α)(C:Nat):∀(l:List α),(∀n,n<l.length->a (l.getD n z)<=C)->JG a l<=l.length*C
 |[],_=>kU _
 |x::xs,h=>by have c:a x<=C:=h 0 (by simp);have d:=aa5 a z C xs λn b=>h (n+1) (by simpa using b);show a x+JG a xs<=(xs.length+1)*C;rw[gh];omega
def ahw{M:List Nat}{s:List Site}{p:List Oc}{g:List PM}{j:List Ev}(h:K0 M s p g j)(b:M.length<=3)(i:∀x,x∈M->x<=6):QN s p g j<=137438953471:=by
 have l:s.length<=3:=by rw[<-h.bk]at b;unfold Tk at b;rwa[mZ]at b
 have r:=aa5 J6 bl 44023414797 s λn e=>by
  have a:=h.ss n e;have k:(s.getD n bl).2.2.1.length<=6:=i _ (by rw[<-h.bk];unfold Tk;exact eJ.2 ⟨s.getD n bl,J4 e _,rfl⟩);have q:=aa5 Ml JL 5368709121 (s.getD n bl).2.2.1 λm o=>by have:=a.bs m o;unfold Ml;have c:=this.1;have d:=this.2;omega
  have c:=a.o;have d:=a.c;have f:=a.j;have:(s.getD n bl).2.2.1.length*5368709121<=6*5368709121:=iM _ k;unfold J6;omega
 have:s.length*44023414797<=3*44023414797:=iM _ l;have c:=h.lp;have d:=h.lg;have f:=h.lj;unfold QN;omega
def tl{α:Type}{P:α->Prop}{a b:Bool}{A B B':Option α}(d:∃r,A=some r/\P r)(c:(a&&b)=false->∃r,B=some r/\B'=some r/\P r):Sm P (bif a then bif b then A else B else B) (bif a then bif b then A else B' else B'):=by
 obtain⟨r,rfl,h⟩:=d;cases a
 .exact c rfl
 .cases b
  .exact c rfl
  .exact⟨r,rfl,rfl,h⟩
section
variable (a0 a1 a2 a3 a4 a5 a6 a7 a8 a9 a10:Int)(s:List Site)(p:List Oc)(g:List PM)(j:List Ev)
def ApF(r:Int×Int×Int×Int×Int×Int×Int×Int×Int×Int×Int×List Site×List Oc×List PM×List Ev×Int×Unit):Prop:=∃t d c a b code,r=(a0,a1,a2,a3,a4,a5,a6,a7,a8,a9,t,d,c,a,b,code,())/\TJ d c a b/\QN d c a b<=137438953471
def ahg(u:TJ s p g j)(Y:QN s p g j<=137438953471)(a w b c:Int)(d:ByteArray)(e f i k l o:Int)(q:Bool):
  Sm (ApF a0 a1 a2 a3 a4 a5 a6 a7 a8 a9) (Ke a0 a1 a2 a3 a4 a5 a6 a7 a8 a9 a10 s p g j a w b c d e f i k l o q) (JW a0 a1 a2 a3 a4 a5 a6 a7 a8 a9 a10 s p g j a w b c d e f i k l o q):=by
 have J:=ael a0 a1 a2 a3 a4 a5 a6 a7 a8 a9 a10 s p g j u;have I:=adX a0 a1 a2 a3 a4 a5 a6 a7 a8 a9 a10 s p g j u;obtain⟨⟨v,_⟩,L,M,U⟩:=ags a0 a1 a2 a3 a4 a5 a6 a7 a8 a9 a10 s p g j u;have same:∀code:Int,ApF a0 a1 a2 a3 a4 a5 a6 a7 a8 a9 (a0,a1,a2,a3,a4,a5,a6,a7,a8,a9,a10,s,p,g,j,code,()):=λcode=>⟨_,_,_,_,_,_,rfl,u,Y⟩
 cases v
 .unfold Ke JW;simp only[L,M,J,I,aX,kx,az];exact .ret (same _)
 have r:=U rfl;cases ik:Jh a 1 17
 .unfold Ke JW;simp only[L,M,J,I,rp,bS,ik,aX,kx,fu,az,aW];exact .ret (same _)
 have A:K0 (Tk s) s p g j:=⟨u.ls,u.ss,u.lp,u.lg,u.lj,rfl⟩
 have fin:∀ {t:Int} {G F D E} {code:Int},K0 (Tk s) G F D E->ApF a0 a1 a2 a3 a4 a5 a6 a7 a8 a9 (a0,a1,a2,a3,a4,a5,a6,a7,a8,a9,t,G,F,D,E,code,()):=λh=>⟨_,_,_,_,_,_,rfl,h.le,ahw h (by unfold Tk;rw[mZ];exact r.sites.2) λx X=>by unfold Tk at X;obtain⟨y,hy,rfl⟩:=eJ.1 X;obtain⟨n,U,rfl⟩:=acC.1 hy;have:=ZO (r.ZM n U);rwa[dG,bR U]at this⟩
 obtain⟨i1,i2⟩:=kW.1 ik;have B:(a=1\/a=13\/a=14\/a=15)\/(a=2\/a=3\/a=4\/a=5\/a=12)\/(a=6\/a=7\/a=8\/a=9\/a=10\/a=11)\/(a=16\/a=17):=by omega
 have T:∀ {code t:Int} {G F D E} {S:Int} {R Q O P},(code=0\/code=9->(t=S/\G=R/\F=Q/\D=O/\E=P)/\K0 (Tk s) G F D E)->Sm (ApF a0 a1 a2 a3 a4 a5 a6 a7 a8 a9)
   (bif Bool.not (decide (code=0))then bif Bool.not (decide (code=9))then some (a0,a1,a2,a3,a4,a5,a6,a7,a8,a9,a10,s,p,g,j,code,())else some (a0,a1,a2,a3,a4,a5,a6,a7,a8,a9,t,G,F,D,E,code,())else some (a0,a1,a2,a3,a4,a5,a6,a7,a8,a9,t,G,F,D,E,code,()))
   (bif Bool.not (decide (code=0))then bif Bool.not (decide (code=9))then some (a0,a1,a2,a3,a4,a5,a6,a7,a8,a9,a10,s,p,g,j,code,())else some (a0,a1,a2,a3,a4,a5,a6,a7,a8,a9,S,R,Q,O,P,code,())else some (a0,a1,a2,a3,a4,a5,a6,a7,a8,a9,S,R,Q,O,P,code,())):=fun {code t G F D E S R Q O P} h=>tl ⟨_,rfl,same _⟩ λH=>by
  have Z:code=0\/code=9:=by rw[VY,acE,acE,decide_eq_true_iff,decide_eq_true_iff]at H;exact H
  obtain⟨⟨rfl,rfl,rfl,rfl,rfl⟩,W⟩:=h Z;exact⟨_,rfl,rfl,fin W⟩
 rcases B with B|B|B|B
 .have H:CmR (Tk s) a0 a1 a2 a3 a4 a5 a6 a7 a8 a9 (bif decide (a=1)then Jw a0 a1 a2 a3 a4 a5 a6 a7 a8 a9 a10 s p g j a w b c d e f i k l o q else Jl a0 a1 a2 a3 a4 a5 a6 a7 a8 a9 a10 s p g j a w b c d e f i k l o q) (gA a0 a1 a2 a3 a4 a5 a6 a7 a8 a9 a10 s p g j a w b c d e f i k l o q):=by
   rcases B with rfl|rfl|rfl|rfl
   .exact asp _ a0 a1 a2 a3 a4 a5 a6 a7 a8 a9 a10 s p g j A r w b c d e f i k l o q
   .exact apa _ a0 a1 a2 a3 a4 a5 a6 a7 a8 a9 a10 s p g j A r w b c d e f i k l o q
   .exact apb _ a0 a1 a2 a3 a4 a5 a6 a7 a8 a9 a10 s p g j A r w b c d e f i k l o q
   .exact apc _ a0 a1 a2 a3 a4 a5 a6 a7 a8 a9 a10 s p g j A w b c d e f i k l o q
  obtain⟨code,t,G,F,D,E,S,R,Q,O,P,N,C,h⟩:=H;rcases B with rfl|rfl|rfl|rfl
  all_goals
   simp only[Int.reduceEq,bu,ct,az,aW]at N;unfold Ke JW;simp only[L,M,J,I,rp,bS,ik,eqP,LO,Int.reduceEq,bu,ct,bsP,kx,fu,cTP,cFP,N,C];exact T h
 .cases V:Jh w 1 (bw p)
  .have C:ee a0 a1 a2 a3 a4 a5 a6 a7 a8 a9 a10 s p g j a w b c d e f i k l o q=some (2,a0,a1,a2,a3,a4,a5,a6,a7,a8,a9,a10,s,p,g,j,()):=by
    unfold ee;simp only[bS,V,aX,kx,az]
   rcases B with rfl|rfl|rfl|rfl|rfl
   all_goals
    unfold Ke JW;simp only[L,M,J,I,rp,bS,ik,eqP,LO,Int.reduceEq,bu,ct,bsP,kx,fu,cTP,cFP,C,V];exact .ret (same _)
  .obtain⟨m1,m2⟩:=kW.1 V;unfold bw at m2;obtain⟨m,rfl⟩:∃m:Nat,w=(m:Int)+1:=⟨(w-1).toNat,by omega⟩
   have z:m<p.length:=by omega
   have H:CmR (Tk s) a0 a1 a2 a3 a4 a5 a6 a7 a8 a9 (qW a0 a1 a2 a3 a4 a5 a6 a7 a8 a9 a10 s p g j a (m+1) b c d e f i k l o q) (ee a0 a1 a2 a3 a4 a5 a6 a7 a8 a9 a10 s p g j a (m+1) b c d e f i k l o q):=by
    rcases B with rfl|rfl|rfl|rfl|rfl
    .exact asq _ a0 a1 a2 a3 a4 a5 a6 a7 a8 a9 a10 s p g j A r z b c d e f i k l o q
    .exact asr _ a0 a1 a2 a3 a4 a5 a6 a7 a8 a9 a10 s p g j A r z b c d e f i k l o q
    .exact ass _ a0 a1 a2 a3 a4 a5 a6 a7 a8 a9 a10 s p g j A r z b c d e f i k l o q
    .exact ast _ a0 a1 a2 a3 a4 a5 a6 a7 a8 a9 a10 s p g j A r z b c d e f i k l o q
    .exact apf _ a0 a1 a2 a3 a4 a5 a6 a7 a8 a9 a10 s p g j A r z b c d e f i k l o q
   obtain⟨code,t,G,F,D,E,S,R,Q,O,P,N,C,h⟩:=H;rcases B with rfl|rfl|rfl|rfl|rfl
   all_goals
    unfold Ke JW;simp only[L,M,J,I,rp,bS,ik,eqP,LO,Int.reduceEq,bu,ct,bsP,kx,fu,cTP,cFP,N,C,V];exact T h
 .cases K:Jh w 0 (aa .sub .i64 (bw s) 1)
  .have C:qB a0 a1 a2 a3 a4 a5 a6 a7 a8 a9 a10 s p g j a w b c d e f i k l o q=some (2,a0,a1,a2,a3,a4,a5,a6,a7,a8,a9,a10,s,p,g,j,()):=by
    unfold qB;simp only[bS,K,aX,kx,az]
   rcases B with rfl|rfl|rfl|rfl|rfl|rfl
   all_goals
    unfold Ke JW;simp only[L,M,J,I,rp,bS,ik,eqP,LO,Int.reduceEq,bu,ct,bsP,kx,fu,cTP,cFP,C,K];exact .ret (same _)
  .obtain⟨m1,m2⟩:=kW.1 K;rw[show aa .sub .i64 (bw s) 1=(s.length:Int)-1 from vm (by unfold bw;omega) (by have:=u.ls;unfold bw;omega)]at m2;obtain⟨m,rfl⟩:∃m:Nat,w=(m:Int):=⟨w.toNat,by omega⟩
   have z:m<s.length:=by omega
   have H:CmR (Tk s) a0 a1 a2 a3 a4 a5 a6 a7 a8 a9 (E2 a0 a1 a2 a3 a4 a5 a6 a7 a8 a9 a10 s p g j a m b c d e f i k l o q) (qB a0 a1 a2 a3 a4 a5 a6 a7 a8 a9 a10 s p g j a m b c d e f i k l o q):=by
    rcases B with rfl|rfl|rfl|rfl|rfl|rfl
    .exact an2 _ a0 a1 a2 a3 a4 a5 a6 a7 a8 a9 a10 s p g j A r.Lu r.aaj z (r.aak m z) b c d e f i k l o q
    .exact an3 _ a0 a1 a2 a3 a4 a5 a6 a7 a8 a9 a10 s p g j A r.Lu r.aaj z (r.aak m z) b c d e f i k l o q
    .exact an4 _ a0 a1 a2 a3 a4 a5 a6 a7 a8 a9 a10 s p g j A r.Lu r.aaj z (r.aak m z) b c d e f i k l o q
    .exact an5 _ a0 a1 a2 a3 a4 a5 a6 a7 a8 a9 a10 s p g j A r.Lu r.aaj z (r.aak m z) b c d e f i k l o q
    .exact ajZ _ a0 a1 a2 a3 a4 a5 a6 a7 a8 a9 a10 s p g j A r.Lu r.aaj z (r.aak m z) b c d e f i k l o q
    .exact aj0 _ a0 a1 a2 a3 a4 a5 a6 a7 a8 a9 a10 s p g j A r.Lu r.aaj z (r.aak m z) b c d e f i k l o q
   obtain⟨code,t,G,F,D,E,S,R,Q,O,P,N,C,h⟩:=H;rcases B with rfl|rfl|rfl|rfl|rfl|rfl
   all_goals
    unfold Ke JW;simp only[L,M,J,I,rp,bS,ik,eqP,LO,Int.reduceEq,bu,ct,bsP,kx,fu,cTP,cFP,N,C,K];exact T h
 .cases K:Jh w 0 (aa .sub .i64 (bw s) 1)
  .have C:gA a0 a1 a2 a3 a4 a5 a6 a7 a8 a9 a10 s p g j a w b c d e f i k l o q=some (2,a0,a1,a2,a3,a4,a5,a6,a7,a8,a9,a10,s,p,g,j,()):=by
    unfold gA;rcases B with rfl|rfl
    all_goals simp only[Kh,Int.reduceEq,bu,ct,aW,bS,K,aX,kx,az]
   rcases B with rfl|rfl
   all_goals
    unfold Ke JW;simp only[L,M,J,I,rp,bS,ik,eqP,LO,Int.reduceEq,bu,ct,bsP,kx,fu,cTP,cFP,C,K];exact .ret (same _)
  .obtain⟨m1,m2⟩:=kW.1 K;rw[show aa .sub .i64 (bw s) 1=(s.length:Int)-1 from vm (by unfold bw;omega) (by have:=u.ls;unfold bw;omega)]at m2;obtain⟨m,rfl⟩:∃m:Nat,w=(m:Int):=⟨w.toNat,by omega⟩
   have z:m<s.length:=by omega
   have H:CmR (Tk s) a0 a1 a2 a3 a4 a5 a6 a7 a8 a9 (E2 a0 a1 a2 a3 a4 a5 a6 a7 a8 a9 a10 s p g j a m b c d e f i k l o q) (gA a0 a1 a2 a3 a4 a5 a6 a7 a8 a9 a10 s p g j a m b c d e f i k l o q):=by
    rcases B with rfl|rfl
    .exact apd _ a0 a1 a2 a3 a4 a5 a6 a7 a8 a9 a10 s p g j A b c d e f i k l o q z
    .exact ape a0 a1 a2 a3 a4 a5 a6 a7 a8 a9 a10 s p g j m b c d e f i k l o q _ A r z
   obtain⟨code,t,G,F,D,E,S,R,Q,O,P,N,C,h⟩:=H;rcases B with rfl|rfl
   all_goals
    unfold Ke JW;simp only[L,M,J,I,rp,bS,ik,eqP,LO,Int.reduceEq,bu,ct,bsP,kx,fu,cTP,cFP,N,C,K];exact T h
end
end Go.Fn
namespace Go.Fn
open Go.R
section
variable (a0 a1 a2 a3 a4 a5 a6 a7 a8 a9 a10:Int)(s:List Site)(p:List Oc)(g:List PM)(j:List Ev)
def aeN(a f i l:Int)(d:ByteArray)(m n o q v w:Int)(x:Bool)(h:ahX s p g j):ON a0 a1 a2 a3 a4 a5 a6 a7 a8 a9 a10 s p g j a f i l d m n o q v w x=some (true,()):=by
 unfold ON;obtain⟨b,D,F⟩:=adq a0 a1 a2 a3 a4 a5 a6 a7 a8 a9 a10 s p g j 1048576 h (by decide) (by decide);refine(Ym D).trans ?_;rcases F with rfl|⟨C,O,c⟩
 .rfl
 refine(cF (Jp C)).trans ?_;obtain⟨z,H⟩:∃z,O5 a f i l d m n o q v w x b=some (z,()):=by
  unfold O5;cases ak .lss (aa .sub .i64 b (ByteArray.size d:Int)) 0
  .exact⟨_,rfl⟩
  .exact⟨_,rfl⟩
 refine(Ym H).trans ?_;cases T:ak .lss z 0
 .refine(cF rfl).trans ?_;have Q:=ai8 a0 a1 a2 a3 a4 a5 a6 a7 a8 a9 a10 s p g j 1048576 b h (by decide) (by decide) D C c;have t:=adt a0 a1 a2 a3 a4 a5 a6 a7 a8 a9 a10 s p g j c;have u:TH a f i l d m n o q v w x=some (a,f,i,l,d,m,n,o,q,v,w,x,()):=rfl;have e:=Xh a0 a1 a2 a3 a4 a5 a6 a7 a8 a9 a10 s p g j c;have k:=Xz a0 a1 a2 a3 a4 a5 a6 a7 a8 a9 a10 s p g j 1 c (by decide) (by omega);have L:=Jp (abv s p g j 1 (by decide));obtain⟨r,N,I,B,S,P,G,J,code,rfl,y,R⟩:=ahg a0 a1 a2 a3 a4 a5 a6 a7 a8 a9 a10 s p g j c (by omega) a f i l d m n o q v w x;have E:=Xh a0 a1 a2 a3 a4 a5 a6 a7 a8 a9 B S P G J y;have K:=Xz a0 a1 a2 a3 a4 a5 a6 a7 a8 a9 B S P G J 1 y (by decide) (by omega);have M:=abg a0 a1 a2 a3 a4 a5 a6 a7 a8 a9 B S P G J 1 y (by decide) (by omega);have A:=Jp (abv S P G J 1 (by decide));simp only[t,u,N,I,e,E,k,K,L,A,M,aX,ML,I9,fu,aW]
 .rfl
end
def Ex{α:Type}(P:α->Prop)(x:Option α):Prop:=∃r,x=some r/\P r
end Go.Fn

