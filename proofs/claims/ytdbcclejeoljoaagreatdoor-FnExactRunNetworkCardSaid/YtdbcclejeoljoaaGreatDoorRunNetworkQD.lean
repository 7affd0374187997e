import Derived.Test.YtdbcclejeoljoaaGreatDoorRunNetworkQC
/- Plain functions that stand for Go functions, and what they answer. Conditions: none. -/
set_option linter.all false
noncomputable section
namespace Go.Fn
open Go.R
def ate(x y:Int):aa .mul .i64 x y=aa .mul .i64 y x:=by show IntKind.wrap _ (x*y)=IntKind.wrap _ (y*x);rw[Int.mul_comm]
def ZP(x:Int):Int:=aa .rem .i64 (aa .mul .i64 x 48271) 2147483647
def adA{x:Int}(a:0<=x)(b:x<=2147483647):0<=ZP x/\ZP x<=2147483646:=by unfold ZP;rw[Fh (by omega) (by omega)];show 0<=(x*48271).tmod 2147483647/\(x*48271).tmod 2147483647<=2147483646;rw[ac6 (by omega)];omega
def adM(x:Int)(n:Nat)(a:n<3):Ug () (x,(n:Int),())=some (.inl (ZP x,((n+1:Nat):Int),())):=by unfold Ug;rw[show ak .lss (n:Int) 3=true from xD (by omega)];show some _=_;rw[show aa .add .i64 (n:Int) 1=((n+1:Nat):Int)from eW (n:=n) (by omega)];rfl
def adq(x:Int)(n:Nat)(a:n<3):TF () (x,(n:Int),())=some (.inl (ZP x,((n+1:Nat):Int),())):=by unfold TF;rw[show ak .lss (n:Int) 3=true from xD (by omega)];show some (Sum.inl (aa .rem .i64 (aa .mul .i64 48271 x) 2147483647,_,()))=_;rw[show aa .add .i64 (n:Int) 1=((n+1:Nat):Int)from eW (n:=n) (by omega),ate];rfl
def aeS:0+1+1+1+1<=big:=by have:=i7 (n:=4) (by omega);omega
def apY(x:Int):PB () (x, 0, ()) = some (.inl (ZP (ZP (ZP x)), ())) /\ OJ () (x, 0, ()) = some (.inl (ZP (ZP (ZP x)), ())):=
  ⟨gP ((fz (adM x 0 (by omega))).trans ((fz (adM _ 1 (by omega))).trans ((fz (adM _ 2 (by omega))).trans (cJ (n:=0) rfl)))) aeS,
   gP ((fz (adq x 0 (by omega))).trans ((fz (adq _ 1 (by omega))).trans ((fz (adq _ 2 (by omega))).trans (cJ (n:=0) rfl)))) aeS⟩
def akW(s:ByteArray):Sm Any (Uh () (s,())) (TG () (s,())):=by
 refine S8 (λ_=>True) (λx=>6-x.1.size) (Q:=Any) (λx _=>?_) big (s,()) trivial (i7 (by show 6-s.size<_;omega));obtain⟨x,u⟩:=x;unfold XV Xu;cases h:ak .lss (ByteArray.size x:Int) 6 with
 |false=>exact .ret trivial
 |true=>
  have h:(ByteArray.size x:Int)<6:=bR h;have a:lz (ByteArray.mk #[48]) x=true:=by show decide ((ByteArray.mk #[48]).size+x.size<=1073741824)=true;have:(ByteArray.mk #[48]).size=1:=rfl;exact xD (by omega)
  refine .guard a a (.ret ⟨trivial,?_⟩);have:(ByteArray.append (ByteArray.mk #[48]) x).size=1+x.size:=by show(ByteArray.mk #[48]++x).size=_;rw[ahD];rfl
  show 6-(ByteArray.append (ByteArray.mk #[48]) x).size<6-x.size;omega
def nz1:eE 2147483647=false:=zb (by omega)
def nz2:eE 1000000=false:=zb (by omega)
def aja(a n:Int):Sm Any (RA a n) (U1 a n):=by
 unfold RA U1 Jn Jo OS;rw[qB,bu,qB,bu];cases d:Jc a 1 2147483646 with
 |false=>exact .ret trivial
 |true=>
 cases f:Jc n 0 1000000 with
 |false=>exact .ret trivial
 |true=>
 have d:=kx.1 d;have f:=kx.1 f;refine Sm.bind (P:=λr=>r.1=true) (.ret rfl) λr b=>.cond (λh=>by rw[b]at h;cases h) λ_=>?_;refine Sm.bind (P:=λr=>r.1=true) (.ret rfl) λr b=>.cond (λh=>by rw[b]at h;cases h) λ_=>?_;simp only[nz1,nz2,cz];show Sm Any (Option.bind (PB () (aa .rem .i64 (aa .add .i64 a (aa .mul .i64 65537 n)) 2147483647,0,())) _) (Option.bind (OJ () (aa .rem .i64 (aa .add .i64 a (aa .mul .i64 65537 n)) 2147483647,0,())) _);have c:0<=aa .rem .i64 (aa .add .i64 a (aa .mul .i64 65537 n)) 2147483647/\aa .rem .i64 (aa .add .i64 a (aa .mul .i64 65537 n)) 2147483647<=2147483647:=by rw[Fh (by omega) (by omega),sO (by omega) (by omega)];show 0<=(a+65537*n).tmod 2147483647/\(a+65537*n).tmod 2147483647<=2147483647;rw[ac6 (by omega)];omega
 generalize aa .rem .i64 (aa .add .i64 a (aa .mul .i64 65537 n)) 2147483647=x at c;rw[(apY x).1,(apY x).2];obtain⟨g,s⟩:=adA c.1 c.2;obtain⟨i,t⟩:=adA g (by omega);obtain⟨j,k⟩:=adA i (by omega);generalize ZP (ZP (ZP x))=y at j k;show Sm Any (Option.bind (Ku (aa .rem .i64 y 1000000)) _) (Option.bind (Ko (aa .rem .i64 y 1000000)) _);have p:∃m:Nat,aa .rem .i64 y 1000000=(m:Int)/\m<=1000000:=by refine⟨(y % 1000000).toNat,?_,by omega⟩;show y.tmod 1000000=_;rw[ac6 (by omega)];omega
 obtain⟨m,l,o⟩:=p;rw[l,ajF (by omega),ajk (by omega)];refine Sm.bind (P:=Any) (.ret trivial) λr _=>(akW r.1).bind λq _=>?_;cases q with
 |inl y=>exact .ret trivial
 |inr e=>exact e.elim
def lock_eq(a b c d e:Int):∃v,KO a b c d e=some (v,())/\Ke a b c d e=some (v,())/\(v=true->(0<=b/\b<=1000001)/\(0<=d/\d<=6)):=by
 unfold KO Ke Jn Jo;simp only[qB,bu,vP];cases Jc a 1 2147483646 with
 |false=>exact⟨false,rfl,rfl,λh=>by cases h⟩
 |true=>
 cases f:Jc b 0 1000001 with
 |false=>exact⟨false,rfl,rfl,λh=>by cases h⟩
 |true=>
 cases Jc c 0 2 with
 |false=>exact⟨false,rfl,rfl,λh=>by cases h⟩
 |true=>
 cases hd:Jc d 0 6 with
 |false=>exact⟨false,rfl,rfl,λh=>by cases h⟩
 |true=>exact⟨_,rfl,rfl,λ_=>⟨kx.1 f,kx.1 hd⟩⟩
def ail(a b c d e:Int)(s:ByteArray):Sm (λr=>r.1<=2000000) (SR a b c d e s) (Sw a b c d e s):=by
 obtain⟨v,g,l,m⟩:=lock_eq a b c d e;unfold SR Sw;rw[l];cases v with
 |false=>refine⟨(-1,()),?_,rfl,by show(-1:Int)<=2000000;omega⟩;have:RZ (s,a,b,c,d,e,()) (b,())=some (.inr (.inl ())):=gP (cJ (n:=0) (by unfold NR;rw[g];rfl)) (by have:=i7 (n:=1) (by omega);omega);rw[this];rfl
 |true=>
 obtain⟨⟨B,C⟩,_⟩:=m rfl;show Sm _ _ (Option.bind (RF (s,a,b,c,d,e,()) (b,())) _);have o:aa .add .i64 b 5=b+5:=sO (by omega) (by omega);refine(S8 (λx=>b<=x.1/\x.1<=b+5) (λx=>(b+5-x.1).toNat) (Q:=λy=>match y with |.inl y=>y.1<=2000000 |.inr _=>True) (body:=NR (s,a,b,c,d,e,())) (body':=RE (s,a,b,c,d,e,())) (λx i=>?_) big (b,()) ⟨uq _,by show b<=b+5;omega⟩ (i7 (by show(b+5-b).toNat<_;omega))).bind λq p=>?_
 .obtain⟨n,u⟩:=x;have t:b<=n:=i.1;have w:n<=b+5:=i.2;have f:(KO a b c d e).bind (λz=>bif z.1 then(bif ak .leq n 1000000 then bif ak .lss n (aa .add .i64 b 5)then(RA a n).bind λA=>bif wW .eql A.1 s then some (Sum.inr (Sum.inl (n,())))else some (Sum.inl (aa .add .i64 n 1,()))else some (Sum.inr (Sum.inr (Sum.inl ())))else some (Sum.inr (Sum.inr (Sum.inl ()))))else some (Sum.inr (Sum.inr (Sum.inl ()))))=NR (s,a,b,c,d,e,()) (n,u):=rfl;rw[<-f,g];unfold RE OS;show Sm _ (bif ak .leq n 1000000 then _ else _) (bif ak .lss n (aa .add .i64 b 5)then _ else _);rw[o,bu,vP];have k:Jc n 0 1000000=ak .leq n 1000000:=by have:decide (0<=n)=true:=xD (by omega);unfold Jc;rw[show ak .leq n 1000000=decide (n<=1000000)from rfl];simp[this]
  rw[k];cases h:ak .lss n (b+5)with
  |false=>cases ak .leq n 1000000 <;> exact .ret trivial
  |true=>
   have h:n<b+5:=bR h;cases D:ak .leq n 1000000 with
   |false=>exact .ret trivial
   |true=>refine(aja a n).bind λr _=>.cond (λ_=>.ret (show n<=2000000 by omega)) λ_=>.ret ?_;have j:aa .add .i64 n 1=n+1:=sO (by omega) (by omega);show(b<=aa .add .i64 n 1/\aa .add .i64 n 1<=b+5)/\(b+5-aa .add .i64 n 1).toNat<(b+5-n).toNat;rw[j];omega
 .cases q with
  |inl y=>exact .ret p
  |inr q=>
   cases q with
   |inl y=>exact .ret (show(-1:Int)<=2000000 by omega)
   |inr e=>exact e.elim
def aiq(d:Nat)(h:d<=6):Q7 (d:Int)=some (ej .shl .i64 1 (d:Int),()):=by
 have:∀d:Fin 7,QA (((d.val:Nat):Int),()) (1,0,())=some (.inl (ej .shl .i64 1 ((d.val:Nat):Int),())):=by
  intro d;have hd:=d.isLt;have a:∀d:Fin 7,iter (V7 (((d.val:Nat):Int),())) 8 (1,0,())=some (.inl (ej .shl .i64 1 ((d.val:Nat):Int),())):=by decide +kernel
  exact gP (a d) (by have:=i7 (n:=8) (by omega);omega)
 unfold Q7;rw[this ⟨d,by omega⟩];rfl
def ak0(a b c d e n:Int)(s:ByteArray):Sm Any (ZW a b c d e s n) (Zq a b c d e s n):=by
 unfold ZW Zq Ll;obtain⟨v,l,m,o⟩:=lock_eq a b c d e;rw[l,m];cases v with
 |false=>exact .ret trivial
 |true=>
 obtain⟨_,p,t⟩:=o rfl;rw[qB,Le];simp only[vP];cases Jc n 0 20000 with
 |false=>exact .ret trivial
 |true=>
 show Sm Any (bif ak .lss n e then _ else _) (Option.bind (bif ak .lss n e then _ else _) _);cases ak .lss n e with
 |true=>exact .ret trivial
 |false=>
 simp only[cz];unfold YM;obtain⟨r,m1,m2,h⟩:=ail a b c d e s;rw[m1,m2];simp only[vP];obtain⟨x,u⟩:=r;have h:x<=2000000:=h;have k:ak .geq x 0=Bool.not (ak .lss x 0):=by
  by_cases f:x<0
  .rw[show ak .lss x 0=true from xD f,show ak .geq x 0=false from zb (by omega)];rfl
  .rw[show ak .lss x 0=false from zb f,show ak .geq x 0=true from xD (by omega)];rfl
 rw[k];unfold Q6;cases f:ak .lss x 0 with
 |false=>
  have f:¬x<0:=zc f;have g:ak .geq (aa .add .i64 x 1) 0=true:=by rw[sO (by omega) (by omega)];exact xD (by omega)
  simp only[fu,aJ,cz,vP,g];exact .ret trivial
 |true=>
  have g:ak .geq (-1) 0=false:=rfl;simp only[l7,aJ,cz,vP,g];cases ak .lss c 2 with
  |true=>exact .ret trivial
  |false=>
   obtain⟨q,rfl⟩:∃q:Nat,d=(q:Int):=⟨d.toNat,by omega⟩
   have i:sG (q:Int)=false:=zb (by omega);have j:nS false (6:Int) (aa .add .i64 (q:Int) 1)=nS false (aa .add .i64 (q:Int) 1) 6:=by unfold nS;simp only[cz];split <;> split <;> omega
   rw[aiq q (by omega),i,j];exact .ret trivial
abbrev Rn:=Int×Int×Int×Int×Int
def agW(i:Int)(b:Bx):Rn:=(0,b.1,b.2.1,i,aa .add .i64 i 1)
def ajz(b:Bx)(r:Rn):Rn:=(r.1,r.2.1,aa .add .i64 r.2.2.1 b.2.1,r.2.2.2.1,aa .add .i64 r.2.2.2.2 1)
def YH(b:Bx)(o:List Rn):List Rn:=o.set (o.length-1) (ajz b (o.getD (o.length-1) QD))
abbrev RS:=List Rn×Bool×Int
def M8(f:List Int)(s:RS)(b:Bx):RS:=bif opn b then(bif s.2.1&&Bool.not (Z7 f b.1)then(YH b s.1,true,aa .add .i64 s.2.2 1)else(s.1++[agW s.2.2 b],true,aa .add .i64 s.2.2 1))else(s.1,false,aa .add .i64 s.2.2 1)
def runs(f:List Int)(l:List Bx):List Rn:=(l.foldl (M8 f) ([],false,0)).1
def gp(r:Rn):Gp:=(r.1,r.2.1,r.2.2.1)
def Z8(b:Bx)(o:List Rn):(YH b o).length=o.length:=by unfold YH;rw[gf]
def agR(b:Bx):(ak .neq b.2.2.1 0=true/\opn b=false)\/(ak .neq b.2.2.1 0=false/\opn b=Bool.not b.2.2.2):=by
 unfold opn;have:ak .neq b.2.2.1 0=Bool.not (ak .eql b.2.2.1 0):=rfl;rw[this];cases ak .eql b.2.2.1 0 with
 |false=>exact .inl ⟨rfl,rfl⟩
 |true=>exact .inr ⟨rfl,rfl⟩
def acR(f:List Int)(s:RS)(b:Bx){n:Nat}(h:s.1.length<=n)(c:s.2.1=true->1<=s.1.length):(M8 f s b).1.length<=n+1/\((M8 f s b).2.1=true->1<=(M8 f s b).1.length)/\(M8 f s b).2.1=opn b:=by
 unfold M8;cases opn b with
 |false=>exact⟨by show s.1.length<=_;omega,λh=>(by cases h),rfl⟩
 |true=>
  simp only[aJ];cases a:(s.2.1&&Bool.not (Z7 f b.1))with
  |true=>rw[aQ]at a;have:=c a.1;exact⟨by show(YH b s.1).length<=_;rw[Z8];omega,λ_=>by show 1<=(YH b s.1).length;rw[Z8];exact this,rfl⟩
  |false=>exact⟨by show(s.1++[_]).length<=_;simp;omega,λ_=>by show 1<=(s.1++[_]).length;simp,rfl⟩
def Rr{i:Int}{n:Nat}(h:i=(n:Int))(a:n<1073741824):aa .add .i64 i 1=((n+1:Nat):Int):=by rw[h];exact eW (n:=n) (by omega)
def af8{α:Type}{o:List α}(h:1<=o.length)(a:o.length<=1073741824):aa .sub .i64 (bw o) 1=((o.length-1:Nat):Int):=by
 have:bw o=((o.length-1+1:Nat):Int):=by unfold bw;congr 1;omega
 rw[this];exact ZS (by omega)
def ZU(f:List Int)(l:List Bx):(runs f l).length<=l.length:=by
 have:∀(l:List Bx) (s:RS),(l.foldl (M8 f) s).1.length<=s.1.length+l.length:=by
  intro l;induction l with
  |nil=>intro s;exact az _
  |cons b l a=>
   intro s;have h:=a (M8 f s b);have c:(M8 f s b).1.length<=s.1.length+1:=by unfold M8;cases opn b <;> cases (s.2.1&&Bool.not (Z7 f b.1)) <;> simp[Z8]
   rw[vJ,gB];omega
 have h:=this l ([],false,0);simpa[runs] using h
def aaN(h:Int)(f:List Int)(l:List Bx)(r:f.length<=1073741824)(y:l.length<=1048576):Ru h f l=some (runs f l,()):=by
 unfold Ru;have:=(qA (body:=OW (h,f,l,l,bw l,())) l fe (by omega) (M8 f) (λs n=>(s.1,s.2.1,(n:Int),())) (λn s=>s.2.2=(n:Int)/\s.1.length<=n/\(s.2.1=true->1<=s.1.length)) (λs=>(Sum.inl (s.1,()):List Rn×Unit⊕Empty)) (λn s t o=>by
  obtain⟨j,v,q⟩:=o;have i:=acR f s (l.getD n fe) v q;have a:(M8 f s (l.getD n fe)).2.2=((n+1:Nat):Int):=by have e:=Rr j (by omega);unfold M8;cases opn (l.getD n fe) <;> cases (s.2.1&&Bool.not (Z7 f (l.getD n fe).1)) <;> exact e
  refine⟨?_,a,i.1,i.2.1⟩;unfold OW;simp only[bP,dX,cw,t,xC,aJ,eW (n:=n) (by omega)];generalize l.getD n fe=b at a i;unfold M8;rcases agR b with ⟨k,m⟩|⟨k,m⟩
  .rw[k,m];rfl
  .rw[k,m];cases x:b.2.2.2 with
   |true=>rfl
   |false=>
    have p:dF (List.append s.1 (List.append [] [((0:Int),b.1,b.2.1,(n:Int),((n+1:Nat):Int))]))=true:=qe (by show(s.1++[_]).length<=_;simp;omega);have c:agW s.2.2 b=((0:Int),b.1,b.2.1,(n:Int),((n+1:Nat):Int)):=by unfold agW;rw[Rr j (by omega),j]
    simp only[cz,fu,aJ];cases g:s.2.1 with
    |false=>simp only[cz,vI,p,aJ,jE,c];rfl
    |true=>
     rw[adg f b.1 r];simp only[aJ,vP,uu];cases w:Z7 f b.1 with
     |true=>simp only[l7,cz,p,aJ,jE,c];rfl
     |false=>
      have u:=q g;have d:s.1.length-1<s.1.length:=by omega
      rw[af8 u (by omega)];simp only[fu,aJ,dX,d,xC,jE,jt,cw,cP d,um];rfl) (λs o=>by
  unfold OW;simp only[bP,iO,sC,cz]) ([],false,0) ⟨rfl,az _,λh=>by cases h⟩).1
 have g:TM (h,f,l,l,bw l,()) ([],false,(0:Int),())=_:=this;rw[g];rfl
def aeN(h:Int)(f:List Int)(l:List Bx)(r:f.length<=1073741824)(G:l.length<=1048576)(y:Xo h f l=true):Vr h f l=some ((runs f l).map gp,()):=by
 unfold Vr;rw[VC h f l r (by omega),y];have:=(qA (body:=PC (h,f,l,())) l fe (by omega) (M8 f) (λs n=>(s.1.map gp,(n:Int),())) (λn s=>s.2.2=(n:Int)/\s.1.length<=n/\(s.2.1=true->1<=s.1.length)/\s.2.1=(decide (0<n)&&opn (l.getD (n-1) fe))) (λs=>(Sum.inl (s.1.map gp,()):List Gp×Unit⊕Empty)) (λn s B t=>by
  obtain⟨C,D,u,v⟩:=t;have i:=acR f s (l.getD n fe) D u;have c:(M8 f s (l.getD n fe)).2.2=((n+1:Nat):Int):=by have e:=Rr C (by omega);unfold M8;cases opn (l.getD n fe) <;> cases (s.2.1&&Bool.not (Z7 f (l.getD n fe).1)) <;> exact e
  refine⟨?_,c,i.1,i.2.1,by rw[i.2.2];simp⟩;unfold PC;simp only[bP,dX,cw,B,xC,aJ,eW (n:=n) (by omega),agd,vP];generalize F:l.getD n fe=b at c i;unfold M8;cases H:opn b with
  |false=>rfl
  |true=>
   have j:dF (List.append (s.1.map gp) (List.append [] [((0:Int),b.1,b.2.1)]))=true:=qe (by show(s.1.map gp++[_]).length<=_;simp;omega);have a:List.append (s.1.map gp) (List.append [] [((0:Int),b.1,b.2.1)])=(s.1++[agW s.2.2 b]).map gp:=by rw[zX];rfl
   rw[a]at j;simp only[l7,cz,aJ];cases n with
   |zero=>
    have k:s.2.1=false:=by rw[v];rfl
    have w:ak .gtr ((0:Nat):Int) 0=false:=rfl;simp only[w,cz,k,vI,a,j,aJ]
   |succ m=>
    have k:s.2.1=opn (l.getD m fe):=by rw[v];simp
    have A:m<l.length:=by omega
    simp only[gt1,aJ,ZS (n:=m) (by omega),dX,cw,A,xC,agd,vP,<-k];cases p:s.2.1 with
    |false=>simp only[cz,vI,a,j,aJ]
    |true=>
     rw[afJ f b.1 r];simp only[aJ,vP,uu];cases E:Z7 f b.1 with
     |true=>simp only[l7,cz,a,j,aJ]
     |false=>
      have I:=u p;have g:(s.1.map gp).length=s.1.length:=vh _;have q:s.1.length-1<(s.1.map gp).length:=by rw[g];omega
      have d:s.1.length-1<s.1.length:=by omega
      rw[af8 (o:=s.1.map gp) (by omega) (by omega),g];simp only[fu,aJ,dX,q,xC,jE,jt,cw];have z:(s.1.map gp).getD (s.1.length-1) Ur=gp (s.1.getD (s.1.length-1) QD):=by rw[uo,kU,uo,cL d];rfl
      rw[z];have x:(YH b s.1).map gp=(s.1.map gp).set (s.1.length-1) (gp (ajz b (s.1.getD (s.1.length-1) QD))):=by unfold YH;rw[List.map_set]
      show some (Sum.inl ((s.1.map gp).set (s.1.length-1) _,_,()))=some (Sum.inl ((YH b s.1).map gp,_,()));rw[x];rfl) (λs t=>by
  unfold PC;simp only[bP,iO,sC,cz]) ([],false,0) ⟨rfl,az _,(λh=>by cases h),rfl⟩).1
 have p:PD (h,f,l,()) ([],(0:Int),())=_:=this;show Option.bind (PD (h,f,l,()) ([],(0:Int),())) _=_;rw[p];rfl
def bst(s:List Gp×Int)(c:LM):List Gp×Int:=(s.1++(runs c.2.1 c.2.2).map (λr=>(s.2,r.2.1,r.2.2.1)),aa .add .i64 s.2 1)
def WV(L:List LM):List Gp:=(L.foldl bst ([],0)).1
def OC{α b:Type}(g:α->b):∀(l:List α) (o:List b),l.foldl (λo a=>o++[g a]) o=o++l.map g
 |[],o=>by simp
 |a::l,o=>by rw[vJ,OC g l];simp
def agJ(k:Int)(L:List LM)(a b:Int)(R:List Rn)(o:List Gp)(h:o.length+R.length<=1048576):Mw (k,L,a,b,bw R,()) (o,R,(0:Int),())=some (.inl (o++R.map (λr=>(k,r.2.1,r.2.2.1)),())):=by
 have:=(qA (body:=Mv (k,L,a,b,bw R,())) R QD (by omega) (λ(o:List Gp) r=>o++[(k,r.2.1,r.2.2.1)]) (λo n=>(o,R,(n:Int),())) (λn s=>s.length=o.length+n) (λo=>(Sum.inl (o,()):List Gp×Unit⊕Empty)) (λn s e c=>by
  refine⟨?_,by simp[c];omega⟩;unfold Mv;have f:∀g:Gp,dF (List.append s (List.append [] [g]))=true:=λg=>qe (by show(s++[_]).length<=_;simp;omega);simp only[bP,dX,cw,e,xC,aJ,eW (n:=n) (by omega),f];rfl) (λs c=>by
  unfold Mv;simp only[bP,iO,sC,cz]) o rfl).1
 have d:Mw (k,L,a,b,bw R,()) (o,R,(0:Int),())=_:=this;rw[d,OC]
def ag2(k:Int)(L:List LM)(R:List Rn)(o:List Gp)(f:o.length+R.length<=1048576):MS (L,k,()) (o,R.map gp,(0:Int),())=some (.inl (o++R.map (λr=>(k,r.2.1,r.2.2.1)),())):=by
 have:=(qA (body:=MQ (L,k,())) (R.map gp) Ur (by rw[vh];omega) (λ(o:List Gp) r=>o++[(k,r.2.1,r.2.2)]) (λo n=>(o,R.map gp,(n:Int),())) (λn s=>s.length=o.length+n) (λo=>(Sum.inl (o,()):List Gp×Unit⊕Empty)) (λn s c b=>by
  refine⟨?_,by simp[b];omega⟩;unfold MQ;rw[vh]at c;have a:n<(R.map gp).length:=by rw[vh];exact c
  have e:∀g:Gp,dF (List.append s (List.append [] [g]))=true:=λg=>qe (by show(s++[_]).length<=_;simp;omega);simp only[bP,dX,cw,a,xC,aJ,eW (n:=n) (by omega),e];rfl) (λs b=>by
  unfold MQ;simp only[bP,iO,sC,cz]) o rfl).1
 have d:MS (L,k,()) (o,R.map gp,(0:Int),())=_:=this;rw[d,OC,List.map_map];rfl
def ad5{L:List LM}(h:J5 L=true):(1<=L.length/\L.length<=6)/\∀n,n<L.length->Xo (L.getD n br).1 (L.getD n br).2.1 (L.getD n br).2.2=true:=by unfold J5 at h;rw[aQ]at h;have a:=kx.1 h.1;unfold bw at a;refine⟨by omega,λn b=>?_⟩;have:=((iW _ _).1 h.2) n (kR _) (by omega);unfold NF at this;rw[aQ]at this;exact this.1
def aa7{L:List LM}(b:L9 L)(h:J5 L=true){n:Nat}(a:n<L.length):(L.getD n br).2.1.length<=1073741824/\(L.getD n br).2.2.length<=24:=⟨(b.at a).1,(agz ((ad5 h).2 n a)).1.len⟩
def afY{L:List LM}(c:L9 L)(h:J5 L=true){n:Nat}(b:n<L.length){s:List Gp×Int}(a:s.2=(n:Int)/\s.1.length<=24*n):(bst s (L.getD n br)).2=((n+1:Nat):Int)/\(bst s (L.getD n br)).1.length<=24*(n+1):=by have d:=ad5 h;have e:=aa7 c h b;have f:=ZU (L.getD n br).2.1 (L.getD n br).2.2;refine⟨Rr a.1 (by omega),?_⟩;show(s.1++_).length<=_;rw[jv,vh];omega
def acf(L:List LM)(c:L9 L)(h:J5 L=true):QH L=some (WV L,())/\QZ L=some (WV L,())/\(WV L).length<=144:=by
 have i:=ad5 h;have f:=qA (body:=Mu (L,bw L,())) L br (by omega) bst (λs n=>(s.1,(n:Int),())) (λn s=>s.2=(n:Int)/\s.1.length<=24*n) (λs=>(Sum.inl (s.1,()):List Gp×Unit⊕Empty)) (λn s a b=>by
  have d:=aa7 c h a;have j:=ZU (L.getD n br).2.1 (L.getD n br).2.2;refine⟨?_,afY c h a b⟩;unfold Mu;simp only[bP,dX,cw,a,xC,aJ,eW (n:=n) (by omega),aaN _ _ _ d.1 (show(L.getD n br).2.2.length<=1048576 by omega),vP];rw[agJ _ _ _ _ _ _ (by omega),<-b.1];rfl) (λs b=>by
  unfold Mu;simp only[bP,iO,sC,cz]) ([],0) ⟨rfl,az _⟩
 have g:=qA (body:=MP (L,())) L br (by omega) bst (λs n=>(s.1,(n:Int),())) (λn s=>s.2=(n:Int)/\s.1.length<=24*n) (λs=>(Sum.inl (s.1,()):List Gp×Unit⊕Empty)) (λn s a b=>by
  have d:=aa7 c h a;have j:=ZU (L.getD n br).2.1 (L.getD n br).2.2;refine⟨?_,afY c h a b⟩;unfold MP;simp only[bP,dX,cw,a,xC,aJ,eW (n:=n) (by omega),aeN _ _ _ d.1 (show(L.getD n br).2.2.length<=1048576 by omega) (i.2 n a),vP];rw[ag2 _ _ _ _ (by omega),<-b.1];rfl) (λs b=>by
  unfold MP;simp only[bP,iO,sC,cz]) ([],0) ⟨rfl,az _⟩
 refine⟨?_,?_,?_⟩
 .unfold QH;have e:Qd (L,bw L,()) ([],(0:Int),())=_:=f.1;rw[e];rfl
 .unfold QZ;rw[Vp L c,h];have e:MR (L,()) ([],(0:Int),())=_:=g.1;show Option.bind (MR (L,()) ([],(0:Int),())) _=_;rw[e];rfl
 .have:=f.2.2;unfold WV;omega
def lst(o:List Gp)(s:Int)(a:Int×Int)(g:Gp):Int×Int:=(bif ak .geq g.2.2 s&&(ak .lss a.1 0||ak .lss g.2.2 (ae Ur o a.1).2.2)then a.2 else a.1,aa .add .i64 a.2 1)
def Yz(o:List Gp)(s:Int):Int:=(o.foldl (lst o s) (-1,0)).1
def aiV(n:Nat)(a:Int×Int):Prop:=a.2=(n:Int) /\ -1<=a.1/\a.1<(n:Int)
def aga{o:List Gp}{s:Int}{n:Nat}(d:n<1048576){a:Int×Int}(b:aiV n a)(g:Gp):aiV (n+1) (lst o s a g):=by obtain⟨c,e,f⟩:=b;refine⟨Rr c (by omega),?_⟩;unfold lst;cases (ak .geq g.2.2 s&&(ak .lss a.1 0||ak .lss g.2.2 (ae Ur o a.1).2.2)) <;> simp only[aJ,cz] <;> omega
def adL(o:List Gp)(s:Int)(i:o.length<=1000):Q5 o s=some (Yz o s,()) /\ -1<=Yz o s/\Yz o s<(o.length:Int):=by
 have b:=qA (body:=MY (o,s,())) o Ur (by omega) (lst o s) (λa n=>(a.1,(n:Int),())) aiV (λa=>(Sum.inl (a.1,()):Int×Unit⊕Empty)) (λn a g c=>by
  refine⟨?_,aga (by omega) c _⟩;obtain⟨f,j,k⟩:=c;unfold MY;simp only[bP,dX,cw,g,xC,aJ,eW (n:=n) (by omega)];unfold lst;cases ak .geq (o.getD n Ur).2.2 s with
  |false=>rfl
  |true=>
   simp only[aJ,uu];cases d:ak .lss a.1 0 with
   |true=>simp only[aJ,Bool.true_or,f]
   |false=>have d:¬a.1<0:=zc d;have h:aZ o a.1=true:=SF (by omega) (by omega);simp only[cz,ac5,h,aJ,f];cases ak .lss (o.getD n Ur).2.2 (ae Ur o a.1).2.2 <;> rfl) (λs c=>by
  unfold MY;simp only[bP,iO,sC,cz]) (-1,0) ⟨rfl,by show(-1:Int) <= -1;omega,by show(-1:Int)<0;omega⟩
 refine⟨?_,b.2.2.1,b.2.2.2⟩;unfold Q5;have e:Qz (o,s,()) ((-1:Int),(0:Int),())=_:=b.1;rw[e];rfl
def aik(n:Nat):ak .lss (n:Int) 0=false:=zb (p:=(n:Int)<0) (by omega)
def atG(o:List Gp)(i:Int):Gp:=bif ak .lss i 0 then(0,0,0)else ae Ur o i
def adp(o:List Gp)(s:Int)(k:o.length<=1000)(l:1<=s):TJ o s=some ((atG o (Yz o s)).1,(atG o (Yz o s)).2.1,(atG o (Yz o s)).2.2,Bool.not (ak .lss (Yz o s) 0),()):=by
 have i:=qA (body:=QM (s,o,bw o,())) o Ur (by omega) (lst o s) (λa n=>((0:Int),(0:Int),(0:Int),(atG o a.1).1,(atG o a.1).2.1,(atG o a.1).2.2,Bool.not (ak .lss a.1 0),(n:Int),())) aiV (λa=>(Sum.inl ((0:Int),(0:Int),(0:Int),(atG o a.1).1,(atG o a.1).2.1,(atG o a.1).2.2,Bool.not (ak .lss a.1 0),()):Int×Int×Int×Int×Int×Int×Bool×Unit⊕Empty)) (λn a j c=>by
  refine⟨?_,aga (by omega) c _⟩;obtain⟨h,m,p⟩:=c;unfold QM;simp only[bP,dX,cw,j,xC,aJ,eW (n:=n) (by omega)];have f:atG o (n:Int)=o.getD n Ur:=by unfold atG;rw[aik,cz,cw]
  have b:ak .lss (n:Int) 0=false:=aik n;unfold lst;cases ak .geq (o.getD n Ur).2.2 s with
  |false=>rfl
  |true=>
   simp only[aJ,uu,Bool.not_not];cases g:ak .lss a.1 0 with
   |true=>simp only[aJ,Bool.true_or,h,f,b,fu]
   |false=>
    have d:atG o a.1=ae Ur o a.1:=by unfold atG;rw[g];rfl
    simp only[cz,ac5,d];cases ak .lss (o.getD n Ur).2.2 (ae Ur o a.1).2.2 with
    |true=>simp only[aJ,h,f,b,fu]
    |false=>simp only[cz,d,g]) (λs c=>by
  unfold QM;simp only[bP,iO,sC,cz]) (-1,0) ⟨rfl,by show(-1:Int) <= -1;omega,by show(-1:Int)<0;omega⟩
 unfold TJ;rw[show ak .lss s 1=false from zb (by omega)];have e:QN (s,o,bw o,()) ((0:Int),(0:Int),(0:Int),(0:Int),(0:Int),(0:Int),false,(0:Int),())=_:=i.1;show Option.bind (QN (s,o,bw o,()) ((0:Int),(0:Int),(0:Int),(0:Int),(0:Int),(0:Int),false,(0:Int),())) _=_;rw[e];rfl
def afc(L:List LM)(s:Int)(c:L9 L)(h:J5 L=true):Sm (λr=>r.2.2.2.1=true->(r.1,r.2.1,r.2.2.1)∈WV L) (SN L s) (Ss L s):=by
 obtain⟨f,g,k⟩:=acf L c h;obtain⟨j,l,d⟩:=adL (WV L) s (by omega);have no:∀ {Q:Prop},(false:Bool)=true->Q:=λh=>by cases h
 unfold SN Ss Vz;rw[g,UZ L c,h];simp only[vP,l7,cz,f,j];by_cases b:s<1
 .have e:ak .lss s 1=true:=xD b;unfold TJ;simp only[e,aJ,vP];exact .ret no
 .have e:ak .lss s 1=false:=zb b;rw[adp (WV L) s (by omega) (by omega)];simp only[e,cz,vP];unfold atG;cases a:ak .lss (Yz (WV L) s) 0 with
  |true=>exact .ret no
  |false=>have a:¬Yz (WV L) s<0:=zc a;have i:aZ (WV L) (Yz (WV L) s)=true:=SF (by omega) d;simp only[cz,i,aJ];exact .ret λ_=>get_mem (by omega) d
structure afU (l:List Bx) (n:Nat) (s:RS):Prop where
 idx:s.2.2=(n:Int)
 is:∀r,r∈s.1->∃a e:Nat,a<e/\e<=n/\r=(0,k7 l a,k7 l e-k7 l a,(a:Int),(e:Int))
 pw:s.1.Pairwise λr r'=>r.2.2.2.2<=r'.2.2.2.1
 last:s.2.1=true->∃o r,s.1=o++[r]/\r.2.2.2.2=(n:Int)
def agP(b:Bx)(o:List Rn)(r:Rn):YH b (o++[r])=o++[ajz b r]:=by
 unfold YH;have e:(o++[r]).length-1=o.length:=by simp
 rw[e];have g:(o++[r]).getD o.length QD=r:=by rw[uo,iM (az _)];simp
 rw[g,List.set_append_right _ _ (az _)];simp
def afD{l:List Bx}(g:aaV l)(f:List Int){n:Nat}(z:n<l.length){s:RS}(h:afU l n s):afU l (n+1) (M8 f s (l.getD n fe)):=by
 have E:=g.len;have t:=Rr h.idx (by omega);have k:=g.low n z;have p:=g.step n z;have J:=g.size n z;have G:=g.sum n (by omega);have d:∀r,r∈s.1->∃a e:Nat,a<e/\e<=n+1/\r=(0,k7 l a,k7 l e-k7 l a,(a:Int),(e:Int)):=λr A=>by obtain⟨a,e,w,D,i⟩:=h.is r A;exact⟨a,e,w,by omega,i⟩
 unfold M8;cases I:opn (l.getD n fe)with
 |false=>exact⟨t,d,h.pw,λu=>by cases u⟩
 |true=>
  simp only[aJ];cases u:(s.2.1&&Bool.not (Z7 f (l.getD n fe).1))with
  |true=>
   rw[aQ]at u;obtain⟨o,r,v,A⟩:=h.last u.1;simp only[aJ];rw[v,agP];have c:=h.pw;rw[v,uv]at c;obtain⟨a,e,w,D,i⟩:=h.is r (by rw[v];simp);subst i;have F:e=n:=by have:(e:Int)=(n:Int):=A;omega
   subst F;have j:ajz (l.getD e fe) (0,k7 l a,k7 l e-k7 l a,(a:Int),(e:Int))=(0,k7 l a,k7 l (e+1)-k7 l a,(a:Int),((e+1:Nat):Int)):=by have H:=g.sum a (by omega);show(0,k7 l a,aa .add .i64 (k7 l e-k7 l a) (l.getD e fe).2.1,(a:Int),aa .add .i64 (e:Int) 1)=_;rw[sO (by omega) (by omega),Rr rfl (by omega),p,show k7 l e-k7 l a+(l.getD e fe).2.1=k7 l e+(l.getD e fe).2.1-k7 l a by omega]
   rw[j];refine⟨t,λC b=>?_,?_,λ_=>⟨o,_,rfl,rfl⟩⟩
   .rcases aW.1 b with b|b
    .exact d C (by rw[v];exact aX _ b)
    .rw[kH]at b;exact⟨a,e+1,by omega,az _,b⟩
   .rw[uv];refine⟨c.1,abi _ _,λx B y q=>?_⟩;rw[kH]at q;subst q;have:=c.2.2 x B _ (kH.2 rfl);exact this
  |false=>
   simp only[cz];have m:agW s.2.2 (l.getD n fe)=(0,k7 l n,k7 l (n+1)-k7 l n,(n:Int),((n+1:Nat):Int)):=by unfold agW;rw[t,h.idx,k,p,show k7 l n+(l.getD n fe).2.1-k7 l n=(l.getD n fe).2.1 by omega]
   rw[m];refine⟨t,λC b=>?_,?_,λ_=>⟨s.1,_,rfl,rfl⟩⟩
   .rcases aW.1 b with b|b
    .exact d C b
    .rw[kH]at b;exact⟨n,n+1,by omega,az _,b⟩
   .rw[uv];refine⟨h.pw,abi _ _,λx B y q=>?_⟩;rw[kH]at q;subst q;obtain⟨a,e,w,D,i⟩:=h.is x B;subst i;show(e:Int)<=(n:Int)
    omega
def aj0{l:List Bx}(b:aaV l)(f:List Int):∃s,runs f l=s.1/\afU l l.length s:=by
 refine⟨l.foldl (M8 f) ([],false,0),rfl,?_⟩;have a:∀n,n<=l.length->afU l n ((l.take n).foldl (M8 f) ([],false,0)):=by
  intro n;induction n with
  |zero=>intro _;exact⟨rfl,(λr c=>absurd c ur),List.Pairwise.nil,λh=>by cases h⟩
  |succ n d=>intro e;rw[Ld (show n<l.length by omega) fe,Br];exact afD b f (by omega) (d (by omega))
 have:=a l.length (az _);rwa[eL]at this
def aiv{l:List Bx}(w:aaV l)(f:List Int){r v:Rn}(x:r∈runs f l)(g:v∈runs f l)(e:v.2.1=r.2.1):v=r:=by
 obtain⟨s,B,q⟩:=aj0 w f;rw[B]at x g;obtain⟨i,c,rfl⟩:=vL x;obtain⟨j,d,rfl⟩:=vL g;have k:∀ {i j:Nat} (c:i<s.1.length) (d:j<s.1.length),s.1[j].2.1=s.1[i].2.1 -> ¬i<j:=fun {i j} c d e t=>by have u:=(ae6.1 q.pw) i j c d t;obtain⟨a,b,D,E,A⟩:=q.is _ (xV c);obtain⟨o,C,y,z,p⟩:=q.is _ (xV d);rw[A,p]at e u;have e:k7 l o=k7 l a:=e;have u:(b:Int)<=(o:Int):=u;have:=w.mono (n:=a) (m:=o) (by omega) (by omega);omega
 have:i=j:=by
  rcases Nat.lt_trichotomy i j with h|h|h
  .exact absurd h (k c d e)
  .exact h
  .exact absurd h (k d c e.symm)
 subst this;rfl
def agB(b:List (List Bx))(r:b.length<=100)(j:∀x,x∈b->x.length<=1048576):Jh b=some (b.foldl (λo x=>o++x) [],()):=by
 have f:∀n,n<b.length->(b.getD n S5).length<=1048576:=λn c=>j _ (JY c _);have g:=qA (body:=Jd (b,b,bw b,())) b S5 (by omega) (λ(a:Int) x=>aa .add .i64 a (bw x)) (λa n=>(a,(n:Int),())) (λn a=>0<=a/\a<=1048576*(n:Int)) (λa=>(Sum.inl (a,()):Int×Unit⊕Empty)) (λn a c d=>by
  have k:=f n c;have e:aa .add .i64 a (bw (b.getD n S5))=a+((b.getD n S5).length:Int):=sO (by unfold bw;omega) (by unfold bw;omega);refine⟨?_,by rw[e];omega⟩;unfold Jd;have p:ak .lss (aa .add .i64 a (bw (b.getD n S5))) 0=false:=by rw[e];exact zb (by omega)
  simp only[bP,dX,cw,c,xC,aJ,eW (n:=n) (by omega),p,cz]) (λa d=>by
  unfold Jd;simp only[bP,iO,sC,cz]) 0 ⟨uq _,by show(0:Int)<=1048576*0;omega⟩
 have m:=qA (body:=Je (b,bw b,())) b S5 (by omega) (λ(o:List Bx) x=>o++x) (λo n=>(o,(n:Int),())) (λn o=>o.length<=1048576*n) (λo=>(Sum.inl (o,()):List Bx×Unit⊕Empty)) (λn o c d=>by
  have k:=f n c;refine⟨?_,by rw[jv];omega⟩;unfold Je;have q:dF (List.append o (b.getD n S5))=true:=qe (by show(o++_).length<=_;rw[jv];omega);simp only[bP,dX,cw,c,xC,aJ,eW (n:=n) (by omega),q];rfl) (λa d=>by
  unfold Je;simp only[bP,iO,sC,cz]) [] (kR _)
 unfold Jh;have h:Jp (b,b,bw b,()) ((0:Int),(0:Int),())=_:=g.1;have i:Jq (b,bw b,()) ([],(0:Int),())=_:=m.1;rw[h];show(bif lu (b.foldl (λ(a:Int) x=>aa .add .i64 a (bw x)) 0)then _ else _)=_;have l:lu (b.foldl (λ(a:Int) x=>aa .add .i64 a (bw x)) 0)=true:=by have:=g.2;unfold lu limit;rw[xD this.1,xD (by omega)];rfl
 rw[l,aJ,i];rfl
def acm(gl gs p s:Int):List Bx:=bif ak .lss s gs then [(gl,s,p,false),(aa .add .i64 gl s,aa .sub .i64 gs s,0,false)]else [(gl,s,p,false)]
def WW(l:List Bx)(a e:Nat)(new:List Bx):List Bx:=l.take a++(new++l.drop e)
def acC{α d:Type}(p:α->Bool)(F:d):∀(R:List α) (b:d),(b=F\/∃r,r∈R/\p r=true)->R.foldl (λo r=>bif p r then F else o) b=F
 |[],b,h=>by
  rcases h with h|⟨r,g,_⟩
  .exact h
  .exact absurd g ur
 |r::R,b,h=>by
  rw[vJ];refine acC p F R _ ?_;cases f:p r with
  |true=>exact .inl rfl
  |false=>
   rcases h with h|⟨i,c,a⟩
   .exact .inl h
   .rcases ck.1 c with e|c
    .subst e;rw[f]at a;cases a
    .exact .inr ⟨i,c,a⟩
def YD(h:Int)(f:List Int)(l new:List Bx)(k:f.length<=1073741824)(j:aaV l)(C:new.length<=100){a e:Nat}(t:a<e/\e<=l.length){g:Rn}(d:g∈runs f l)(i:g=(0,k7 l a,k7 l e-k7 l a,(a:Int),(e:Int))):
  Me h f l (k7 l a) new=some (h,f,WW l a e new,()):=by
 have m:=j.len;have B:=ZU f l;unfold Me;rw[Vy h f l k (by omega),aaN h f l k (by omega)];simp only[vP];have y:=qA (body:=OT (k7 l a,new,h,f,l,bw (runs f l),())) (runs f l) QD (by omega) (λ(o:List Bx) r=>bif ak .eql r.2.1 (k7 l a)then WW l a e new else o) (λo n=>((0:Int),([]:List Int),([]:List Bx),h,f,o,runs f l,(n:Int),())) (λ_ _=>True) (λo=>(Sum.inl ((0:Int),([]:List Int),([]:List Bx),h,f,o,()):Int×List Int×List Bx×Int×List Int×List Bx×Unit⊕Empty)) (λn o c _=>by
  refine⟨?_,trivial⟩;have v:=JY c QD;unfold OT;simp only[bP,dX,cw,c,xC,aJ,eW (n:=n) (by omega)];cases w:ak .eql ((runs f l).getD n QD).2.1 (k7 l a)with
  |false=>rfl
  |true=>
   have u:(runs f l).getD n QD=g:=aiv j f d v (by rw[i];exact LO.1 w);rw[u,i];have z:mT l 0 (a:Int)=true:=by unfold mT;rw[xD (uq _),xD (by omega),xD (by omega)];rfl
   have A:mT l (e:Int) (bw l)=true:=by unfold mT bw;rw[xD (by omega),xD (by omega),xD (by omega)];rfl
   have p:yD l 0 (a:Int)=l.take a:=by unfold yD;simp
   have q:yD l (e:Int) (bw l)=l.drop e:=by unfold yD bw;simp only[xQ];exact ac4 (by rw[Bt];omega)
   simp only[aJ,z,A,p,q,jE];rw[agB _ (by show 3<=100;omega) (λx b=>by
    rcases ck.1 b with e|b
    .subst e;rw[jS];omega
    rcases ck.1 b with e|b
    .subst e;omega
    rcases ck.1 b with e|b
    .subst e;rw[Bt];omega
    .exact absurd b ur)]
   simp only[vP];have:List.foldl (λo x=>o++x) [] (((([]:List (List Bx)).append [l.take a]).append [new]).append [l.drop e])=WW l a e new:=by show([]++l.take a++new)++l.drop e=_;unfold WW;rw[gi,je]
   rw[this]) (λo _=>by
  unfold OT;simp only[bP,iO,sC,cz]) l trivial
 have s:TH (k7 l a,new,h,f,l,bw (runs f l),()) ((0:Int),[],[],h,f,l,runs f l,(0:Int),())=_:=y.1;rw[s,acC (λr:Rn=>ak .eql r.2.1 (k7 l a)) (WW l a e new) (runs f l) l (.inr ⟨g,d,by rw[i];exact LO.2 rfl⟩)];rfl
def agU(h:Int)(f:List Int)(l:List Bx)(gc gs p s:Int)(g:f.length<=1073741824)(d:aaV l){a e:Nat}(b:a<e/\e<=l.length){j:Rn}(c:j∈runs f l)(i:j=(0,k7 l a,k7 l e-k7 l a,(a:Int),(e:Int))):
  U7 h f l gc (k7 l a) gs p s=some (h,f,WW l a e (acm (k7 l a) gs p s),()):=by
 unfold U7;have k:ak .gtr gs s=ak .lss s gs:=rfl;rw[k];unfold acm;cases ak .lss s gs with
 |true=>have m:dF (List.append (α:=Bx) (List.append [] [(k7 l a,s,p,false)]) (List.append [] [(aa .add .i64 (k7 l a) s,aa .sub .i64 gs s,(0:Int),false)]))=true:=qe (by show 2<=_;omega);simp only[aJ,m,jE];have:=YD h f l [(k7 l a,s,p,false),(aa .add .i64 (k7 l a) s,aa .sub .i64 gs s,0,false)] g d (by show 2<=100;omega) b c i;show Option.bind (Me h f l (k7 l a) [(k7 l a,s,p,false),(aa .add .i64 (k7 l a) s,aa .sub .i64 gs s,0,false)]) _=_;rw[this];rfl
 |false=>have:=YD h f l [(k7 l a,s,p,false)] g d (by show 1<=100;omega) b c i;show Option.bind (Me h f l (k7 l a) [(k7 l a,s,p,false)]) _=_;rw[this];rfl
def af2(gl gs p s:Int)(o:List Bx)(b:Bx):List Bx:=bif ak .lss b.1 gl||ak .geq b.1 (aa .add .i64 gl gs)then(bif ak .eql b.1 gl then o++acm gl gs p s else o)++[b]else(bif ak .eql b.1 gl then o++acm gl gs p s else o)
def aex(gl gs p s:Int):(acm gl gs p s).length<=2:=by unfold acm;cases ak .lss s gs <;> simp
def alh(l new:List Bx)(a e n:Nat)(o:List Bx):Prop:=(n<=a/\o=l.take n)\/(a<n/\n<=e/\o=l.take a++new)\/(e<n/\o=l.take a++(new++(l.take n).drop e))
def ahY(h:Int)(f:List Int)(l:List Bx)(gc p s:Int)(K:f.length<=1073741824)(d:aaV l){a e:Nat}(J:a<e/\e<=l.length):
  SZ h f l gc (k7 l a) (k7 l e-k7 l a) p s=some (h,f,WW l a e (acm (k7 l a) (k7 l e-k7 l a) p s),()):=by
 have C:=d.len;have x:aa .add .i64 (k7 l a) (k7 l e-k7 l a)=k7 l e:=by have g:=d.sum a (by omega);have q:=d.sum e (by omega);rw[sO (by omega) (by omega)];omega
 generalize L:k7 l e-k7 l a=gs at x;generalize i:acm (k7 l a) gs p s=new;have M:new.length<=2:=by rw[<-i];exact aex ..
 have z:∀n,n<l.length->(ak .lss (l.getD n fe).1 (k7 l a)=decide (n<a))/\(ak .eql (l.getD n fe).1 (k7 l a)=decide (n=a))/\(ak .geq (l.getD n fe).1 (k7 l e)=decide (e<=n)):=λn r=>by
  rw[d.low n r];refine⟨?_,?_,?_⟩
  .by_cases c:n<a
   .have:=d.mono (n:=n) (m:=a) (by omega) (by omega);rw[xD c];exact xD (by omega)
   .have:=d.mono (n:=a) (m:=n) (by omega) (by omega);rw[zb c];exact zb (by omega)
  .by_cases c:n=a
   .subst c;rw[xD rfl];exact LO.2 rfl
   .rw[zb c];rcases Nat.lt_or_gt_of_ne c with h|h
    .have:=d.mono (n:=n) (m:=a) (by omega) (by omega);exact zb (by omega)
    .have:=d.mono (n:=a) (m:=n) (by omega) (by omega);exact zb (by omega)
  .by_cases c:e<=n
   .have:=d.mono (n:=e) (m:=n) (by omega) (by omega);rw[xD c];exact xD (by omega)
   .have:=d.mono (n:=n) (m:=e) (by omega) (by omega);rw[zb c];exact zb (by omega)
 have B:∀n o,n<=l.length->alh l new a e n o->o.length<=26:=λn o r y=>by
  rcases y with ⟨g,rfl⟩|⟨g,q,rfl⟩|⟨g,rfl⟩
  .rw[jS];omega
  .rw[jv,jS];omega
  .rw[jv,jv,jS,Bt,jS];omega
 have D:=qA (body:=NT (p,s,h,f,l,gc,k7 l a,gs,())) l fe (by omega) (af2 (k7 l a) gs p s) (λo n=>((0:Int),([]:List Int),([]:List Bx),h,f,o,(n:Int),())) (alh l new a e) (λo=>(Sum.inl ((0:Int),([]:List Int),([]:List Bx),h,f,o,()):Int×List Int×List Bx×Int×List Int×List Bx×Unit⊕Empty)) (λn o r y=>by
  have R:=B n o (by omega) y;obtain⟨E,F,G⟩:=z n r;refine⟨?_,?_⟩
  .unfold NT;have k:∀(o:List Bx) (v:Bx),(List.append o (List.append [] [v])).length=o.length+1:=λo v=>by simp
   have N:∀v,dF (List.append o (List.append [] [v]))=true:=λv=>qe (by rw[k];omega);have O:∀u v,dF (List.append (List.append o (List.append [] [u])) (List.append [] [v]))=true:=λu v=>qe (by rw[k,k];omega);have P:∀u v w,dF (List.append (List.append (List.append o (List.append [] [u])) (List.append [] [v])) (List.append [] [w]))=true:=λu v w=>qe (by rw[k,k,k];omega);simp only[bP,dX,cw,r,xC,aJ,eW (n:=n) (by omega),jE,N,O,P];unfold af2 acm;generalize l.getD n fe=b;cases ak .eql b.1 (k7 l a) <;> cases ak .lss s gs <;> cases ak .lss b.1 (k7 l a) <;> cases ak .geq b.1 (aa .add .i64 (k7 l a) gs) <;> simp
  .unfold af2;rw[i,x,E,F,G];have j:=Ld r fe;rcases y with ⟨g,rfl⟩|⟨g,q,rfl⟩|⟨g,rfl⟩
   .by_cases c:n=a
    .subst c;rw[zb (iO _),xD rfl,zb (show ¬e<=n by omega)];exact .inr (.inl ⟨by omega,by omega,rfl⟩)
    .rw[xD (show n<a by omega),zb c];exact .inl ⟨by omega,by rw[j];rfl⟩
   .rw[zb (show ¬n<a by omega),zb (show ¬n=a by omega)];by_cases A:n=e
    .subst A;rw[xD (az _)];refine .inr (.inr ⟨by omega,?_⟩);show(l.take a++new)++[l.getD n fe]=_;rw[j,ae9 (by rw[jS];omega),afa (by rw[jS];omega),je];rfl
    .rw[zb (show ¬e<=n by omega)];exact .inr (.inl ⟨by omega,by omega,rfl⟩)
   .rw[zb (show ¬n<a by omega),zb (show ¬n=a by omega),xD (show e<=n by omega)];refine .inr (.inr ⟨by omega,?_⟩);show(l.take a++(new++(l.take n).drop e))++[l.getD n fe]=_;rw[j,ae9 (by rw[jS];omega),je,je]) (λo _=>by
  unfold NT;simp only[bP,iO,sC,cz]) [] (.inl ⟨kR _,by simp⟩)
 have t:l.foldl (af2 (k7 l a) gs p s) []=WW l a e new:=by
  unfold WW;rcases D.2 with ⟨g,q⟩|⟨g,q,I⟩|⟨g,q⟩
  .omega
  .rw[I,afa (by omega),e9]
  .rw[q,eL]
 unfold SZ;have Q:dF (List.append [] f)=true:=qe K;rw[Q,aJ];have H:R2 (p,s,h,f,l,gc,k7 l a,gs,()) ((0:Int),[],[],h,List.append [] f,[],(0:Int),())=_:=D.1;rw[H,t];rfl
def agv{L:List LM}{g:Gp}(m:L.length<=1000)(h:g∈WV L):∃i:Nat,i<L.length/\g.1=(i:Int)/\∃r,r∈runs (L.getD i br).2.1 (L.getD i br).2.2/\g.2.1=r.2.1/\g.2.2=r.2.2.1:=by
 have b:∀n,n<=L.length->((L.take n).foldl bst ([],0)).2=(n:Int)/\∀g,g∈((L.take n).foldl bst ([],0)).1->∃i:Nat,i<n/\g.1=(i:Int)/\∃r,r∈runs (L.getD i br).2.1 (L.getD i br).2.2/\g.2.1=r.2.1/\g.2.2=r.2.2.1:=by
  intro n;induction n with
  |zero=>intro _;exact⟨rfl,λg a=>absurd a ur⟩
  |succ n k=>
   intro o;obtain⟨c,j⟩:=k (by omega);rw[Ld (show n<L.length by omega) br,Br];refine⟨Rr c (by omega),λg a=>?_⟩;rcases aW.1 (show g∈_++_ from a)with a|a
   .obtain⟨i,l,d⟩:=j g a;exact⟨i,by omega,d⟩
   .obtain⟨r,f,e⟩:=fa.1 a;subst e;exact⟨n,by omega,c,r,f,rfl,rfl⟩
 have:=(b L.length (az _)).2 g;rw[eL]at this;exact this h
def agH(l new:List Bx)(a e:Nat):(WW l a e new).length<=l.length+new.length+l.length:=by unfold WW;rw[jv,jv,jS,Bt];omega
def BkR(L L':List LM):Prop:=L'.length=L.length/\∀n,n<L.length->(L'.getD n JG).2.1.length=(L.getD n JG).2.1.length/\(L'.getD n JG).2.2.length<=2*(L.getD n JG).2.2.length+2
theorem BkR.refl(L:List LM):BkR L L:=⟨rfl,λn _=>⟨rfl,by omega⟩⟩
def BkR.set{L:List LM}{k:Nat}(c:LM)(a:c.2.1.length=(L.getD k JG).2.1.length)(b:c.2.2.length<=2*(L.getD k JG).2.2.length+2):BkR L (L.set k c):=by
 refine⟨gf,λn d=>?_⟩;by_cases e:k=n
 .subst e;rw[cP d];exact⟨a,b⟩
 .rw[Go.R.getD_set_ne e];exact⟨rfl,by omega⟩
def afd{L:List LM}(p s:Int)(d:L9 L)(v:aiT L)(h:J5 L=true)(z:1<=p):Sm (λr=>BkR L r.1) (Py L p s) (OH L p s):=by
 have y:=ad5 h;unfold Py OH;rw[TP L v,Xq L v,Wp L d z,UZ L d,Xp L p d,h];simp only[vP,l7,cz];refine(afc L s d h).bind λr A=>?_;have b:ak .geq (aff L p).1 0=ak .geq (Yx (aaY L p)) 0:=by
  unfold aff;rw[h];cases t:aaY L p with
  |none=>rfl
  |some i=>rfl
 rw[qB,bu,b];simp only[vP];cases u:r.2.2.2.1 with
 |false=>
  cases Jc p 1 999 with
  |false=>exact .ret (BkR.refl L)
  |true=>cases ak .geq (Yx (aaY L p)) 0 <;> exact .ret (BkR.refl L)
 |true=>
  cases Jc p 1 999 with
  |false=>exact .ret (BkR.refl L)
  |true=>
  cases ak .geq (Yx (aaY L p)) 0 with
  |true=>exact .ret (BkR.refl L)
  |false=>
  obtain⟨i,m,f,q,w,g,j⟩:=agv (by omega) (A u);have t:=y.2 i m;have l:=(agz t).1;have c:(L.getD i br).2.1.length<=1073741824:=(d.at m).1;obtain⟨D,B,x⟩:=aj0 l (L.getD i br).2.1;obtain⟨a,e,n,o,k⟩:=x.is q (by rw[<-B];exact w);have f:r.1=(i:Int):=f;have g:r.2.1=k7 (L.getD i br).2.2 a:=by rw[show r.2.1=q.2.1 from g,k]
  have j:r.2.2.1=k7 (L.getD i br).2.2 e-k7 (L.getD i br).2.2 a:=by rw[show r.2.2.1=q.2.2.1 from j,k]
  simp only[l7,cz,f,g,j,dX,m,xC,aJ,cw];rw[ahY _ _ _ _ _ _ c l ⟨n,o⟩,agU _ _ _ _ _ _ _ c l ⟨n,o⟩ w k];simp only[vP,jt];refine .ret (BkR.set _ rfl ?_);have C:=aex (k7 (L.getD i br).2.2 a) (k7 (L.getD i br).2.2 e-k7 (L.getD i br).2.2 a) p s;have u:=agH (L.getD i br).2.2 (acm (k7 (L.getD i br).2.2 a) (k7 (L.getD i br).2.2 e-k7 (L.getD i br).2.2 a) p s) a e;show(WW _ a e _).length<=2*(L.getD i br).2.2.length+2;omega
def afN(h:Int)(f:List Int)(l:List Bx){p:Int}(b:f.length<=1073741824)(a:l.length<=1073741824)(g:1<=p):Sm (λr=>r.2.1=f/\r.2.2.1.length=l.length) (SV h f l p) (Sz h f l p):=by
 unfold SV Sz;rw[abJ h f l b a,Vy h f l b a,abZ h f l a g,YL h f l p a,VC h f l b a,YC h f l b a,<-afg h f l a];simp only[vP];have c:ak .lss p 1=false:=zb (by omega);cases Xo h f l with
 |false=>exact .ret ⟨rfl,rfl⟩
 |true=>
  simp only[l7,cz,c];cases d:Xc l p with
  |none=>exact .ret ⟨rfl,rfl⟩
  |some n=>have e:=adG d;simp only[Yx,aik,cz,dX,e,xC,aJ,cw,jt];exact .cond (λ_=>.ret ⟨rfl,rfl⟩) λ_=>.ret ⟨rfl,gf⟩
def ad6{L:List LM}{p:Int}(a:L9 L)(c:aiT L)(h:J5 L=true)(d:1<=p):Sm (λr=>BkR L r.1) (Q0 L p) (Nv L p):=by
 unfold Q0 Nv;rw[TP L c,Xq L c,Wp L a d,UZ L a,Xp L p a,h];simp only[vP,l7,cz];unfold aff;rw[h];cases f:aaY L p with
 |none=>exact .ret (BkR.refl L)
 |some i=>obtain⟨b,_⟩:=acv f;simp only[aJ,Yx,aik,cz,dX,b,xC,cw];refine(afN _ _ _ (a.at b).1 (a.at b).2 d).bind λr e=>?_;simp only[jt];exact .ret (BkR.set _ (by rw[e.1];rfl) (by rw[e.2];show(L.getD i br).2.2.length<=2*(L.getD i br).2.2.length+2;omega))
def agy(l:List NE)(b:l.length<=1073741824):I5 l=some (l,()):=by
 unfold I5;have a:dF (List.append (α:=NE) ([]:List NE) l)=true:=qe b;rw[a];cases l with
 |nil=>exact CZ _
 |cons x l=>rw[show ak .gtr (bw (x::l)) (0:Int)=true from gt0 l.length];rfl
def Z4(l:List Ou)(b:l.length<=1073741824):sS l=some (l,()):=by
 unfold sS;have a:dF (List.append (α:=Ou) ([]:List Ou) l)=true:=qe b;rw[a];cases l with
 |nil=>exact CZ _
 |cons x l=>rw[show ak .gtr (bw (x::l)) (0:Int)=true from gt0 l.length];rfl
section
variable (a0 a1 a2 a3 a4 a5 a6 a7 a8 a9 a10:Int)(s:List Site)(p:List NE)(g:List Ou)(j:List Ev)
def aaM(h:Pw s p g j):K6 a0 a1 a2 a3 a4 a5 a6 a7 a8 a9 a10 s p g j=some (a0,a1,a2,a3,a4,a5,a6,a7,a8,a9,a10,s,p,g,j,()):=by
 have k:=h.ls;have i:=h.lp;have e:=h.lg;have f:=h.lj;have m:=(qA (body:=KY (a0,a1,a2,a3,a4,a5,a6,a7,a8,a9,a10,s,p,g,j,s,bw s,())) s bl (by omega) (λ(o:List Site) x=>o++[x])
  (λo n=>((0:Int),(0:Int),(0:Int),(0:Int),(0:Int),(0:Int),(0:Int),(0:Int),(0:Int),(0:Int),(0:Int),([]:List Site),([]:List NE),([]:List Ou),([]:List Ev),a0,a1,a2,a3,a4,a5,a6,a7,a8,a9,a10,o,p,g,j,(n:Int),())) (λn o=>o.length=n)
  (λo=>(Sum.inl ((0:Int),(0:Int),(0:Int),(0:Int),(0:Int),(0:Int),(0:Int),(0:Int),(0:Int),(0:Int),(0:Int),([]:List Site),([]:List NE),([]:List Ou),([]:List Ev),a0,a1,a2,a3,a4,a5,a6,a7,a8,a9,a10,o,p,g,j,()))) (λn o c b=>by
   have a:=h.ss n c;refine⟨?_,by rw[jv,b];rfl⟩;unfold KY;have q:∀x:Site,dF (List.append o (List.append [] [x]))=true:=λx=>qe (by show(o++[x]).length<=_;rw[jv,b];show n+1<=_;omega);have l:ax=bl:=rfl;simp only[bP,dX,cw,c,xC,aJ,eW (n:=n) (by omega),jE,l];generalize s.getD n bl=x at a;rw[ad8 x.1 x.2.1 a.o a.c];simp only[vP];rw[Xq x.2.2.1 ⟨a.b,a.bs⟩];simp only[vP];rw[S6 x.2.2.2.2.2.2.2.2.2.2 a.j];simp only[vP,q,aJ];rfl) (λo _=>by
   unfold KY;simp only[bP,iO,sC,cz]) [] rfl).1
 unfold K6;have d:Nd (a0,a1,a2,a3,a4,a5,a6,a7,a8,a9,a10,s,p,g,j,s,bw s,()) ((0:Int),(0:Int),(0:Int),(0:Int),(0:Int),(0:Int),(0:Int),(0:Int),(0:Int),(0:Int),(0:Int),[],[],[],[],a0,a1,a2,a3,a4,a5,a6,a7,a8,a9,a10,[],p,g,j,(0:Int),())=_:=m;rw[d,OC (λx:Site=>x),gi,List.map_id',agy p (by omega),Z4 g (by omega),S6 j (by omega)];rfl
def aaT(h:Pw s p g j):PV a0 a1 a2 a3 a4 a5 a6 a7 a8 a9 a10 s p g j=some (a0,a1,a2,a3,a4,a5,a6,a7,a8,a9,a10,s,p,g,j,()):=by
 have l:=h.ls;have k:=h.lp;have f:=h.lg;have i:=h.lj;have q:=(qA (body:=NV (a0,a1,a2,a3,a4,a5,a6,a7,a8,a9,a10,s,p,g,j,())) s bl (by omega) (λ(o:List Site) x=>o++[x])
  (λo n=>((0:Int),(0:Int),(0:Int),(0:Int),(0:Int),(0:Int),(0:Int),(0:Int),(0:Int),(0:Int),(0:Int),([]:List Site),([]:List NE),([]:List Ou),([]:List Ev),a0,a1,a2,a3,a4,a5,a6,a7,a8,a9,a10,o,p,g,j,(n:Int),())) (λn o=>o.length=n)
  (λo=>(Sum.inl ((0:Int),(0:Int),(0:Int),(0:Int),(0:Int),(0:Int),(0:Int),(0:Int),(0:Int),(0:Int),(0:Int),([]:List Site),([]:List NE),([]:List Ou),([]:List Ev),a0,a1,a2,a3,a4,a5,a6,a7,a8,a9,a10,o,p,g,j,()))) (λn o d c=>by
   have a:=h.ss n d;refine⟨?_,by rw[jv,c];rfl⟩;unfold NV;have t:∀x:Site,dF (List.append o (List.append [] [x]))=true:=λx=>qe (by show(o++[x]).length<=_;rw[jv,c];show n+1<=_;omega);have m:ax=bl:=rfl;simp only[bP,dX,cw,d,xC,aJ,eW (n:=n) (by omega),jE,m];generalize s.getD n bl=x at a;rw[afu x.1 x.2.1 a.o a.c];simp only[vP];rw[TP x.2.2.1 ⟨a.b,a.bs⟩];simp only[vP];have b:dF (List.append (α:=Ev) [] x.2.2.2.2.2.2.2.2.2.2)=true:=qe a.j;simp only[b,t,aJ];rfl) (λo _=>by
   unfold NV;simp only[bP,iO,sC,cz]) [] rfl).1
 unfold PV;have e:R3 (a0,a1,a2,a3,a4,a5,a6,a7,a8,a9,a10,s,p,g,j,()) ((0:Int),(0:Int),(0:Int),(0:Int),(0:Int),(0:Int),(0:Int),(0:Int),(0:Int),(0:Int),(0:Int),[],[],[],[],a0,a1,a2,a3,a4,a5,a6,a7,a8,a9,a10,[],List.append [] p,List.append [] g,List.append [] j,(0:Int),())=_:=q;have u:dF (List.append (α:=NE) [] p)=true:=qe (by show p.length<=_;omega);have r:dF (List.append (α:=Ou) [] g)=true:=qe (by show g.length<=_;omega);have b:dF (List.append (α:=Ev) [] j)=true:=qe (by show j.length<=_;omega);simp only[u,r,b,aJ,jE];rw[e,OC (λx:Site=>x),gi,List.map_id'];rfl
end
def apB(p t:Int)(x:Ou):Bool:=grV x&&(Bool.not x.2.2.2.2.2.2&&((ak .eql x.2.2.1 0||ak .eql x.2.2.1 p)&&(ak .leq x.2.2.2.2.1 t&&ak .lss t x.2.2.2.2.2.1)))
def afW(p t:Int)(x:Ou):Px x.1 x.2.1 x.2.2.1 x.2.2.2.1 x.2.2.2.2.1 x.2.2.2.2.2.1 x.2.2.2.2.2.2 p t=some (apB p t x,())/\OE x.1 x.2.1 x.2.2.1 x.2.2.2.1 x.2.2.2.2.1 x.2.2.2.2.2.1 x.2.2.2.2.2.2 p t=some (apB p t x,()):=by unfold Px OE apB;rw[(abA x).1,(abA x).2];have e:ak .geq t x.2.2.2.2.1=ak .leq x.2.2.2.2.1 t:=rfl;rw[e];cases grV x <;> cases x.2.2.2.2.2.2 <;> cases ak .eql x.2.2.1 0 <;> cases ak .eql x.2.2.1 p <;> cases ak .leq x.2.2.2.2.1 t <;> cases ak .lss t x.2.2.2.2.2.1 <;> exact⟨rfl,rfl⟩
def grF{x:Ou}(h:grV x=true):(1<=x.1/\x.1<=40)/\(1<=x.2.1/\x.2.1<=40):=by
 have e:=(abA x).2;rw[h]at e;unfold JS Fv at e;simp only[bu,vP]at e;cases a:Jc x.1 1 40 with
 |false=>rw[a]at e;cases e
 |true=>
  cases b:Jc x.2.1 1 40 with
  |false=>rw[a,b]at e;cases e
  |true=>exact⟨kx.1 a,kx.1 b⟩
def afb{p t:Int}{x:Ou}(h:apB p t x=true):grV x=true:=by unfold apB at h;rw[aQ]at h;exact h.1
section
variable (g:List Ou)(who p t owner:Int)
def chC(n:Nat)(v:Bool)(x:Ou):Bool:=apB p t x&&(ak .geq x.2.2.2.1 (n:Int)&&v)
def chM(m:List (Int×Bool))(n:Nat)(a:List (Int×Bool))(x:Ou):List (Int×Bool):=bif chC p t n (jK m x.2.1) x then qf a x.1 true else a
def lvM:Nat->List (Int×Bool)
 |0=>qf [] who true
 |n+1=>g.foldl (chM p t (lvM n) n) []
def chR(r:List Bool)(n:Nat)(a:List Bool)(x:Ou):List Bool:=bif chC p t n (ae zB r x.2.1) x then cS a x.1 true else a
def X5:Nat->List Bool
 |0=>cS (nw 41 false) who true
 |n+1=>g.foldl (chR p t (X5 n) n) (nw 41 false)
def Rl(m:List (Int×Bool))(r:List Bool):Prop:=r.length=41/\∀k:Int,0<=k->k<=40->jK m k=ae zB r k
def Rl.put{m:List (Int×Bool)}{r:List Bool}(h:Rl m r){x:Int}(f:0<=x)(g:x<=40):Rl (qf m x true) (cS r x true):=by
 refine⟨by unfold cS;rw[gf];exact h.1,λk c d=>?_⟩;rw[aew];obtain⟨a,rfl⟩:∃a:Nat,x=(a:Int):=⟨x.toNat,by omega⟩
 obtain⟨b,rfl⟩:∃b:Nat,k=(b:Int):=⟨k.toNat,by omega⟩
 have i:=h.1;rw[jt,cw];by_cases e:b=a
 .subst e;rw[cP (by omega)];simp
 .rw[Go.R.getD_set_ne (dG e),<-cw,<-h.2 _ c d];have:((b:Int)==(a:Int))=false:=by rw[beq_eq_false_iff_ne];intro h;exact e (by omega)
  rw[this];rfl
def Rl.nil:Rl [] (nw 41 false):=by
 refine⟨rfl,λk a c=>?_⟩;obtain⟨b,rfl⟩:∃b:Nat,k=(b:Int):=⟨k.toNat,by omega⟩
 rw[cw];unfold nw;rw[uo];have:b<(List.replicate (Int.toNat 41) false).length:=by rw[List.length_replicate];show b<41;omega
 rw[cL this,List.getElem_replicate];rfl
def Rl.fold{m:List (Int×Bool)}{r:List Bool}(h:Rl m r)(n:Nat):∀(l:List Ou) (a:List (Int×Bool)) (b:List Bool),Rl a b->Rl (l.foldl (chM p t m n) a) (l.foldl (chR p t r n) b)
 |[],_,_,h=>h
 |x::l,a,b,c=>by
  rw[vJ,vJ];refine Rl.fold h n l _ _ ?_;unfold chM chR chC;cases d:apB p t x with
  |false=>exact c
  |true=>
   have e:=grF (afb d);rw[h.2 x.2.1 (by omega) (by omega)];cases (true&&(ak .geq x.2.2.2.1 (n:Int)&&ae zB r x.2.1))with
   |false=>exact c
   |true=>exact c.put (by omega) (by omega)
def afv(a:1<=who/\who<=40):∀n,Rl (lvM g who p t n) (X5 g who p t n)
 |0=>Rl.nil.put (by omega) (by omega)
 |n+1=>Rl.fold p t (afv a n) n g [] _ Rl.nil
def aji(n:Nat):Bool:=jK (lvM g who p t n) owner
def afw:Bool:=(List.range 7).any (aji g who p t owner)
def X6{α:Type}(f:Nat->α){n k:Nat}(h:k<n)(z:α):((List.range n).map f).getD k z=f k:=by rw[uo,kU,ahE h];rfl
def X7{α:Type}(f:Nat->α)(n:Nat):((List.range n).map f).length=n:=by simp
def abX{α:Type}(f:Nat->α)(n:Nat):(List.range n).map f++[f n]=(List.range (n+1)).map f:=by rw[ac2,zX];rfl
def aoI{n:Nat}(h:n<=100):aa .add .i64 (n:Int) 0=(n:Int):=by rw[sO (by omega) (by omega)];omega
def aic(e:g.length<=1048576){n:Nat}(f:n<=6)(R:List (List (Int×Bool)))(b:R.getD n zM=lvM g who p t n)(d:n<R.length):VA (g,owner,p,t,0,(n:Int),g,bw g,()) (R,[],0,())=some (.inl (R,lvM g who p t (n+1),())):=by
 have:=(qA (body:=QI (g,owner,p,t,0,(n:Int),g,bw g,())) g gI (by omega) (chM p t (lvM g who p t n) n) (λa i=>(R,a,(i:Int),())) (λ_ _=>True) (λa=>(Sum.inl (R,a,()):List (List (Int×Bool))×List (Int×Bool)×Unit⊕Empty)) (λi a c _=>by
  refine⟨?_,trivial⟩;unfold QI;simp only[bP,dX,cw,c,d,b,xC,aJ,eW (n:=i) (by omega),(afW p t (g.getD i gI)).2,vP,aoI (n:=n) (by omega)];unfold chM chC;cases apB p t (g.getD i gI)with
  |false=>rfl
  |true=>
   simp only[aJ,uu];cases ak .geq (g.getD i gI).2.2.2.1 (n:Int)with
   |false=>rfl
   |true=>simp only[aJ,uu];cases jK (lvM g who p t n) (g.getD i gI).2.1 <;> rfl) (λa _=>by
  unfold QI;simp only[bP,iO,sC,cz]) [] trivial).1
 exact this
def agL(i:g.length<=1048576){k:Nat}(j:1<=k)(R:List (List (Int×Bool)))(l:k<=R.length)(f:k<=100)(out:List Int)(n:out.length<=1000)(a:Int):Yl (QK (g,p,t,0,(k:Int),g,bw g,()) (R,out,a,0,())) λq=>match q with |.inl y=>y.1=R/\y.2.1.length<=out.length+1 |.inr _=>True:=by
 have d:aa .sub .i64 (k:Int) 1=((k-1:Nat):Int):=by
  obtain⟨m,rfl⟩:∃m,k=m+1:=⟨k-1,by omega⟩
  exact ZS (by omega)
 unfold QK;refine Yl.loop (λx=>x.1=R/\x.2.1=out/\0<=x.2.2.2.1/\x.2.2.2.1<=(g.length:Int)) (λx=>g.length-x.2.2.2.1.toNat) (λx h=>?_) big _ ⟨rfl,rfl,uq _,by show(0:Int)<=(g.length:Int);omega⟩ (i7 (by show g.length-0<_;omega));obtain⟨x1,x2,x3,o⟩:=h;unfold YG;refine .cond (λc=>?_) λ_=>.ret ⟨x1,by rw[x2];omega⟩;have c:x.2.2.2.1<(g.length:Int):=bR c;have e:aa .add .i64 x.2.2.2.1 1=x.2.2.2.1+1:=sO (by omega) (by omega);have b:(x.1=R/\x.2.1=out/\0<=aa .add .i64 x.2.2.2.1 1/\aa .add .i64 x.2.2.2.1 1<=(g.length:Int))/\g.length-(aa .add .i64 x.2.2.2.1 1).toNat<g.length-x.2.2.2.1.toNat:=by rw[e];exact⟨⟨x1,x2,by omega,by omega⟩,by omega⟩
 have ap:=(afW p t (ae gI g x.2.2.2.1)).2;refine .guard (SF x3 c) (.cond (λ_=>?_) λ_=>.ret b);refine Yl.bind (P:=λ_=>True) ⟨_,ap,trivial⟩ λr _=>.cond (λ_=>.cond (λ_=>.guard ?_ (.cond (λ_=>.guard ?_ (.ret ?_)) λ_=>.ret b)) λ_=>.ret b) λ_=>.ret b
 .show aZ x.1 (aa .sub .i64 (k:Int) 1)=true;rw[d,x1,dX];exact xD (by omega)
 .refine qe ?_;show(x.2.1++[_]).length<=_;rw[x2,jv];show out.length+1<=_;omega
 .refine⟨x1,?_⟩;show(x.2.1++[_]).length<=_;rw[x2,jv];exact az _
def aid(h:g.length<=1048576){n:Nat}(l:n<=6)(R:List (List (Int×Bool)))(j:n<R.length)(a:Int):Yl (QJ (g,p,t,0,()) (R,[],a,(n:Int),())) λq=>match q with |.inl _=>True |.inr _=>True:=by
 unfold QJ;refine Yl.loop (λx=>x.1=R/\0<=x.2.2.2.1/\x.2.2.2.1<=(n:Int)/\(x.2.1.length:Int)+x.2.2.2.1<=(n:Int)) (λx=>x.2.2.2.1.toNat) (λx i=>?_) big _ ⟨rfl,by show(0:Int)<=(n:Int);omega,uq _,by show(0:Int)+(n:Int)<=(n:Int);omega⟩ (i7 (by show((n:Int)).toNat<_;omega));obtain⟨x1,x2,x3,m⟩:=i;unfold YF;refine .cond (λc=>?_) λ_=>.ret trivial;have c:0<x.2.2.2.1:=bR c;obtain⟨k,d⟩:∃k:Nat,x.2.2.2.1=((k+1:Nat):Int):=⟨(x.2.2.2.1-1).toNat,by omega⟩
 have f:=agL g p t h (k:=k+1) (by omega) x.1 (by rw[x1];omega) (by omega) x.2.1 (by omega) x.2.2.1;rw[<-d]at f;refine Yl.bind f λq b=>?_;match q,b with
 |.inl y,b=>
  have e:aa .sub .i64 x.2.2.2.1 1=(k:Int):=by rw[d];exact ZS (by omega)
  refine .ret ⟨⟨b.1.trans x1,?_,?_,?_⟩,?_⟩
  .show 0<=aa .sub .i64 x.2.2.2.1 1;rw[e];omega
  .show aa .sub .i64 x.2.2.2.1 1<=_;rw[e];omega
  .show(y.2.1.length:Int)+aa .sub .i64 x.2.2.2.1 1<=_;rw[e];have:=b.2;omega
  .show(aa .sub .i64 x.2.2.2.1 1).toNat<x.2.2.2.1.toNat;rw[e];omega
 |.inr q,_=>exact nomatch q
def any_true{f:Nat->Bool}{n m:Nat}(h:n<m)(a:f n=true):(List.range m).any f=true:=oq.2 ⟨n,xP.2 h,a⟩
def any_false{f:Nat->Bool}{m:Nat}(h:∀n,n<m->f n=false):(List.range m).any f=false:=by rw[List.any_eq_false];intro x a;rw[h x (xP.1 a)];exact λh=>by cases h
def adn(o:g.length<=1048576):Yl (Wh g owner who p t 0) λr=>r.2.1=afw g who p t owner:=by
 unfold Wh;refine .guard (qe (by show 1<=_;omega)) ?_;have j:Yl (LG (g,owner,p,t,0,()) ((List.range (0+1)).map (lvM g who p t),((0:Nat):Int),())) λq=>match q with |.inl y=>y.2.1=true/\afw g who p t owner=true |.inr _=>afw g who p t owner=false:=by
  unfold LG;refine Yl.loop (λx=>∃n:Nat,n<=7/\x=((List.range (n+1)).map (lvM g who p t),(n:Int),())/\∀m,m<n->aji g who p t owner m=false) (λx=>7-x.2.1.toNat) (λx v=>?_) big _ ⟨0,by omega,rfl,λm k=>absurd k (vi _)⟩ (i7 (by show 7-0<_;omega));obtain⟨n,w,rfl,f⟩:=v;unfold YE;refine .cond (λd=>?_) λd=>.ret (any_false λm k=>f m (by have d:¬(n:Int)<=6:=zc d;omega));have d:(n:Int)<=6:=bR d;have a:((List.range (n+1)).map (lvM g who p t)).length=n+1:=X7 _ _;have c:((List.range (n+1)).map (lvM g who p t)).getD n zM=lvM g who p t n:=X6 _ (by omega) _;refine .guard (by rw[dX,a];exact xD (by omega)) ?_;have u:jK (ae zM ((List.range (n+1)).map (lvM g who p t)) (n:Int)) owner=aji g who p t owner n:=by rw[cw,c];rfl
  show Yl (bif jK (ae zM ((List.range (n+1)).map (lvM g who p t)) (n:Int)) owner then _ else _) _;rw[u];refine .cond (λi=>?_) λi=>?_
  .refine Yl.bind (aid g p t o (n:=n) (by omega) _ (by rw[a];omega) owner) λq b=>?_;match q,b with
   |.inl y,b=>exact .ret ⟨rfl,any_true (by omega) i⟩
   |.inr q,_=>exact nomatch q
  .rw[aic g who p t owner o (n:=n) (by omega) _ c (by rw[a];omega)];refine .guard (qe (by show(_++[_]).length<=_;rw[jv,a];show n+1+1<=_;omega)) (.ret ?_);have l:aa .add .i64 (n:Int) 1=((n+1:Nat):Int):=eW (n:=n) (by omega);refine⟨⟨n+1,by omega,?_,λm k=>?_⟩,?_⟩
   .show((List.range (n+1)).map (lvM g who p t)++[lvM g who p t (n+1)],aa .add .i64 (n:Int) 1,())=_;rw[l,abX]
   .rcases vg m n with h|h
    .exact f m h
    .rw[show m=n by omega];exact i
   .show 7-(aa .add .i64 (n:Int) 1).toNat<7-((n:Int)).toNat;rw[l];omega
 have s:LG (g,owner,p,t,0,()) ((List.range (0+1)).map (lvM g who p t),((0:Nat):Int),())=LG (g,owner,p,t,0,()) (List.append [] (List.append [] [qf [] who true]),0,()):=rfl;rw[<-s];refine j.bind λq b=>?_;match q,b with
 |.inl y,b=>exact .ret (b.1.trans b.2.symm)
 |.inr (.inl y),b=>exact .ret (Eq.symm b)
 |.inr (.inr e),_=>exact nomatch e
def adx(a:1<=who/\who<=40)(n:Nat):(X5 g who p t n).length=41:=(afv g who p t a n).1
def ai6(r:List Bool)(n:Nat)(a:List Bool)(x:Ou):(chR p t r n a x).length=a.length:=by
 unfold chR;cases chC p t n (ae zB r x.2.1) x with
 |false=>rfl
 |true=>exact gf
def aiA(k:1<=who/\who<=40)(o:g.length<=1048576){n:Nat}(q:n<=6)(R:List (List Bool))(c:R.getD n ZZ=X5 g who p t n)(h:n<R.length):QC (g,p,t,0,((n+1:Nat):Int),()) (R,nw 41 false,0,())=some (.inl (R,X5 g who p t (n+1),())):=by
 have j:=adx g who p t k n;have:=(qA (body:=M0 (g,p,t,0,((n+1:Nat):Int),())) g gI (by omega) (chR p t (X5 g who p t n) n) (λa i=>(R,a,(i:Int),())) (λ_ a=>a.length=41) (λa=>(Sum.inl (R,a,()):List (List Bool)×List Bool×Unit⊕Empty)) (λi a f d=>by
  refine⟨?_,by rw[ai6];exact d⟩;unfold M0;simp only[bP,dX,cw,f,h,c,xC,aJ,eW (n:=i) (by omega),(afW p t (g.getD i gI)).1,vP,ZS (n:=n) (by omega),aoI (n:=n) (by omega)];unfold chR chC;cases b:apB p t (g.getD i gI)with
  |false=>rfl
  |true=>
   have e:=grF (afb b);have l:aZ (X5 g who p t n) (g.getD i gI).2.1=true:=SF (by omega) (by omega);have m:aZ a (g.getD i gI).1=true:=SF (by omega) (by omega);simp only[aJ,uu,l,m];cases ak .geq (g.getD i gI).2.2.2.1 (n:Int)with
   |false=>rfl
   |true=>simp only[aJ,uu];cases ae zB (X5 g who p t n) (g.getD i gI).2.1 <;> rfl) (λa _=>by
  unfold M0;simp only[bP,iO,sC,cz]) (nw 41 false) rfl).1
 exact this
def adN(h:1<=who/\who<=40)(f:g.length<=1048576):Q8 g who p t 0=some ((List.range 7).map (X5 g who p t),()):=by have:=lc (body:=QB (g,p,t,0,())) (λn=>((List.range (n+1)).map (X5 g who p t),((n+1:Nat):Int),())) 6 (by omega) (Sum.inl ((List.range 7).map (X5 g who p t),()):List (List Bool)×Unit⊕Empty) (λn k=>by unfold QB;have a:((List.range (n+1)).map (X5 g who p t)).length=n+1:=X7 _ _;have b:((List.range (n+1)).map (X5 g who p t)).getD n ZZ=X5 g who p t n:=X6 _ (by omega) _;have c:ak .leq ((n+1:Nat):Int) 6=true:=xD (by omega);have d:lu 41=true:=rfl;have j:dF (List.append ((List.range (n+1)).map (X5 g who p t)) (List.append [] [X5 g who p t (n+1)]))=true:=qe (by show(_++[_]).length<=_;rw[jv,a];show n+1+1<=_;omega);simp only[c,d,aJ];rw[aiA g who p t h f (n:=n) (by omega) _ b (by rw[a];omega)];simp only[vP,zd,j,aJ,eW (n:=n+1) (by omega)];show some (Sum.inl ((List.range (n+1)).map (X5 g who p t)++[X5 g who p t (n+1)],_,()))=_;rw[abX]) rfl;unfold Q8;have i:aZ (ae ZZ (List.append (α:=List Bool) [] [nw 41 false]) 0) who=true:=SF (l:=nw 41 false) (by omega) (by show who<((List.replicate (Int.toNat 41) false).length:Int);rw[List.length_replicate];show who<41;omega);rw[show lu 41=true from rfl,show aZ (List.append (α:=List Bool) [] [nw 41 false]) 0=true from rfl,i];show Option.bind (M1 (g,p,t,0,()) ((List.range (0+1)).map (X5 g who p t),((0+1:Nat):Int),())) _=_;have e:M1 (g,p,t,0,()) ((List.range (0+1)).map (X5 g who p t),((0+1:Nat):Int),())=_:=this;rw[e];rfl
def ag4(s:1<=who/\who<=40)(v:g.length<=1048576){k:Nat}(w:1<=k)(n:k<=7)(out:List Int)(z:out.length<=1000)(a:Int):Yl (NQ (g,p,t,(k:Int),()) ((List.range 7).map (X5 g who p t),out,a,0,())) λq=>match q with |.inl y=>y.1=(List.range 7).map (X5 g who p t)/\y.2.1.length<=out.length+1 |.inr _=>True:=by
 generalize f:(List.range 7).map (X5 g who p t)=R;have j:R.length=7:=by rw[<-f];exact X7 _ _
 have e:R.getD (k-1) ZZ=X5 g who p t (k-1):=by rw[<-f];exact X6 _ (by omega) _
 have b:aa .sub .i64 (k:Int) 1=((k-1:Nat):Int):=by
  obtain⟨m,rfl⟩:∃m,k=m+1:=⟨k-1,by omega⟩
  exact ZS (by omega)
 unfold NQ;refine Yl.loop (λx=>x.1=R/\x.2.1=out/\0<=x.2.2.2.1/\x.2.2.2.1<=(g.length:Int)) (λx=>g.length-x.2.2.2.1.toNat) (λx u=>?_) big _ ⟨rfl,rfl,uq _,by show(0:Int)<=(g.length:Int);omega⟩ (i7 (by show g.length-0<_;omega));obtain⟨x1,x2,x3,A⟩:=u;unfold W2;refine .cond (λd=>?_) λ_=>.ret ⟨x1,by rw[x2];omega⟩;have d:x.2.2.2.1<(g.length:Int):=bR d;have h:aa .add .i64 x.2.2.2.1 1=x.2.2.2.1+1:=sO (by omega) (by omega);have c:(x.1=R/\x.2.1=out/\0<=aa .add .i64 x.2.2.2.1 1/\aa .add .i64 x.2.2.2.1 1<=(g.length:Int))/\g.length-(aa .add .i64 x.2.2.2.1 1).toNat<g.length-x.2.2.2.1.toNat:=by rw[h];exact⟨⟨x1,x2,by omega,by omega⟩,by omega⟩
 have ap:=(afW p t (ae gI g x.2.2.2.1)).1;refine .guard (SF x3 d) (.cond (λ_=>?_) λ_=>.ret c);refine Yl.bind (P:=λr=>r.1=apB p t (ae gI g x.2.2.2.1)) ⟨_,ap,rfl⟩ λr o=>.cond (λi=>.cond (λ_=>.guard ?_ (.guard ?_ (.cond (λ_=>.guard ?_ (.ret ?_)) λ_=>.ret c))) λ_=>.ret c) λ_=>.ret c
 .show aZ x.1 (aa .sub .i64 (k:Int) 1)=true;rw[b,x1,dX];exact xD (by omega)
 .have l:=grF (afb (o.symm.trans i));show aZ (ae ZZ x.1 (aa .sub .i64 (k:Int) 1)) (ae gI g x.2.2.2.1).2.1=true;rw[b,x1,cw,e];have:=adx g who p t s (k-1);exact SF (by omega) (by omega)
 .refine qe ?_;show(x.2.1++[_]).length<=_;rw[x2,jv];show out.length+1<=_;omega
 .refine⟨x1,?_⟩;show(x.2.1++[_]).length<=_;rw[x2,jv];exact az _
def aiB(i:1<=who/\who<=40)(h:g.length<=1048576){n:Nat}(l:n<=6)(a:Int):Yl (NP (g,p,t,()) ((List.range 7).map (X5 g who p t),[],a,(n:Int),())) λq=>match q with |.inl _=>True |.inr _=>True:=by
 unfold NP;refine Yl.loop (λx=>x.1=(List.range 7).map (X5 g who p t)/\0<=x.2.2.2.1/\x.2.2.2.1<=(n:Int)/\(x.2.1.length:Int)+x.2.2.2.1<=(n:Int)) (λx=>x.2.2.2.1.toNat) (λx j=>?_) big _ ⟨rfl,by show(0:Int)<=(n:Int);omega,uq _,by show(0:Int)+(n:Int)<=(n:Int);omega⟩ (i7 (by show((n:Int)).toNat<_;omega));obtain⟨x1,x2,x3,m⟩:=j;unfold W1;refine .cond (λc=>?_) λ_=>.ret trivial;have c:0<x.2.2.2.1:=bR c;obtain⟨k,d⟩:∃k:Nat,x.2.2.2.1=((k+1:Nat):Int):=⟨(x.2.2.2.1-1).toNat,by omega⟩
 have f:=ag4 g who p t i h (k:=k+1) (by omega) (by omega) x.2.1 (by omega) x.2.2.1;rw[<-d,<-x1]at f;refine Yl.bind f λq b=>?_;match q,b with
 |.inl y,b=>
  have e:aa .sub .i64 x.2.2.2.1 1=(k:Int):=by rw[d];exact ZS (by omega)
  refine .ret ⟨⟨b.1.trans x1,?_,?_,?_⟩,?_⟩
  .show 0<=aa .sub .i64 x.2.2.2.1 1;rw[e];omega
  .show aa .sub .i64 x.2.2.2.1 1<=_;rw[e];omega
  .show(y.2.1.length:Int)+aa .sub .i64 x.2.2.2.1 1<=_;rw[e];have:=b.2;omega
  .show(aa .sub .i64 x.2.2.2.1 1).toNat<x.2.2.2.1.toNat;rw[e];omega
 |.inr q,_=>exact nomatch q
def adO(s:1<=who/\who<=40)(z:1<=owner/\owner<=40):Yl (Q9 ((List.range 7).map (X5 g who p t)) owner) λr=>(afw g who p t owner=true/\∃n:Nat,n<=6/\r.1=(n:Int))\/(afw g who p t owner=false/\r.1 = -1):=by
 unfold Q9;have k:Yl (M2 ((List.range 7).map (X5 g who p t),owner,()) (((0:Nat):Int),())) λq=>match q with |.inl y=>afw g who p t owner=true/\∃n:Nat,n<=6/\y.1=(n:Int) |.inr _=>afw g who p t owner=false:=by
  unfold M2;refine Yl.loop (λx=>∃n:Nat,n<=7/\x=((n:Int),())/\∀m,m<n->aji g who p t owner m=false) (λx=>7-x.1.toNat) (λx v=>?_) big _ ⟨0,by omega,rfl,λm l=>absurd l (vi _)⟩ (i7 (by show 7-0<_;omega));obtain⟨n,w,rfl,d⟩:=v;have c:((List.range 7).map (X5 g who p t)).length=7:=X7 _ _;unfold V8;show Yl (bif ak .lss (n:Int) (bw ((List.range 7).map (X5 g who p t)))then _ else _) _;rw[bP,c];refine .cond (λa=>?_) λa=>.ret (any_false λm l=>d m (by have a:¬n<7:=zc a;omega));have a:n<7:=bR a;have b:((List.range 7).map (X5 g who p t)).getD n ZZ=X5 g who p t n:=X6 _ a _;have u:=adx g who p t s n;have i:=(afv g who p t s n).2 owner (by omega) (by omega);refine .guard (by rw[dX,c];exact xD a) (.guard (by show aZ (ae ZZ ((List.range 7).map (X5 g who p t)) (n:Int)) owner=true;rw[cw,b];exact SF (by omega) (by omega)) ?_);show Yl (bif ae zB (ae ZZ ((List.range 7).map (X5 g who p t)) (n:Int)) owner then _ else _) _;rw[cw,b,<-i];refine .cond (λj=>.ret ⟨any_true a j,n,by omega,rfl⟩) λj=>.ret ?_;have o:aa .add .i64 (n:Int) 1=((n+1:Nat):Int):=eW (n:=n) (by omega);refine⟨⟨n+1,by omega,?_,λm l=>?_⟩,?_⟩
  .rw[o]
  .rcases vg m n with h|h
   .exact d m h
   .rw[show m=n by omega];exact j
  .show 7-(aa .add .i64 (n:Int) 1).toNat<7-((n:Int)).toNat;rw[o];omega
 refine Yl.bind k λq f=>?_;match q,f with
 |.inl y,f=>exact .ret (.inl f)
 |.inr (.inl y),f=>exact .ret (.inr ⟨f,rfl⟩)
 |.inr (.inr e),_=>exact nomatch e
def ajf(c:g.length<=1073741824):Sm (λr=>r.1=true->(1<=owner/\owner<=40)/\(1<=who/\who<=40)) (S0 g owner who p t) (Wf g owner who p t):=by
 unfold S0 Wf Ja Fv M3;have no:(false:Bool)=true->(1<=owner/\owner<=40)/\(1<=who/\who<=40):=λh=>by cases h
 refine(acE g c).bind λr _=>.cond (λ_=>?_) λ_=>.ret no;simp only[qB,bu,Le,vP];cases a:Jc owner 1 40 with
 |false=>exact .ret no
 |true=>
 cases b:Jc who 1 40 with
 |false=>exact .ret no
 |true=>
 cases Jc p 1 999 with
 |false=>exact .ret no
 |true=>exact .ret λ_=>⟨kx.1 a,kx.1 b⟩
def abN(a:g.length<=1048576):Sm Any (PG g owner who p t) (OM g owner who p t):=by
 unfold PG OM Ws Wd;obtain⟨r,f,h,i⟩:=ajf g who p t owner (by omega);rw[f,h];simp only[vP];obtain⟨v,u⟩:=r;cases v with
 |false=>exact .ret trivial
 |true=>
  obtain⟨k,b⟩:=i rfl;obtain⟨y,l,d⟩:=adn g who p t owner a;rw[l,adN g who p t b a];simp only[vP,l7,cz];obtain⟨z,o,s⟩:=adO g who p t owner b k;rw[o];simp only[vP];rcases s with ⟨m1,n,j,c⟩|⟨m1,c⟩
  .rw[c,aik,cz];obtain⟨q,m,_⟩:=aiB g who p t b a j owner;rw[m];cases q with
   |inl w=>exact⟨(true,()),rfl,by rw[d,m1],trivial⟩
   |inr e=>exact e.elim
  .rw[c];exact⟨(false,()),rfl,by rw[d,m1],trivial⟩
end
def adf(o c:List Na)(a0 a1 a2 a3 a4 a5 a6 a7 t now x:Int):Sm Any (PA o c a0 a1 a2 a3 a4 a5 a6 a7 t now x) (OI o c a0 a1 a2 a3 a4 a5 a6 a7 t now x):=by
 unfold PA OI Wt;obtain⟨r,h,d,a⟩:=Xr o c a0 a1 a2 a3 a4 a5 a6 a7 t x;obtain⟨q,i,f,_⟩:=Xr o c a0 a1 a2 a3 a4 a5 a6 a7 t (aa .add .i64 x 1);obtain⟨z,j,g,_⟩:=abR o c a0 a1 a2 a3 a4 a5 a6 a7 t now x;rw[h,d,i,f,j,g,qB,Le];simp only[vP];cases b:r.2.1 with
 |false=>exact .ret trivial
 |true=>
  obtain⟨k,_,_⟩:=a b;cases q.2.1 with
  |false=>exact .ret trivial
  |true=>
   have e:Jc now t 20000=(Jc now 0 20000&&ak .geq now t):=by rw[xT,aQ,kx,kx,show ak .geq now t=decide (now>=t)from rfl,decide_eq_true_iff];omega
   rw[e];cases Jc now 0 20000 with
   |false=>exact .ret trivial
   |true=>cases ak .geq now t <;> exact .ret trivial
def Sn(x:Site):List Ev:=x.2.2.2.2.2.2.2.2.2.2
def Ng(j:List Ev):List (List Ev)->List Ev×Bool
 |[]=>(j,true)
 |x::r=>bif (JJ j x).2 then Ng (JJ j x).1 r else([],false)
def aii(r:List Ev×Bool):List Ev×Bool×Unit⊕(List Ev×Unit⊕Empty):=bif r.2 then .inr (.inl (r.1,()))else .inl (r.1,false,())
def abI:∀(s:List Site) (j:List Ev),Bc (λ(l:List Ev) x=>bif (JJ l (Sn x)).2 then .inl (JJ l (Sn x)).1 else .inr (Sum.inl ([],false,()):List Ev×Bool×Unit⊕(List Ev×Unit⊕Empty))) (λl=>.inr (.inl (l,()))) s j=aii (Ng j (s.map Sn))
 |[],_=>rfl
 |x::s,j=>by
  have a:=abI s (JJ j (Sn x)).1;simp only[Bc,cR,Ng];cases b:(JJ j (Sn x)).2 with
  |true=>exact a
  |false=>rfl
section
variable (a0 a1 a2 a3 a4 a5 a6 a7 a8 a9 a10:Int)(s:List Site)(p:List NE)(g:List Ou)(j:List Ev)
def Vb(e:j.length<=1048576)(f:s.length<=1048576):M4 a0 a1 a2 a3 a4 a5 a6 a7 a8 a9 a10 s p g j=some ((Ng j (s.map Sn)).1,(Ng j (s.map Sn)).2,())/\Kh a0 a1 a2 a3 a4 a5 a6 a7 a8 a9 a10 s p g j=some ((Ng j (s.map Sn)).1,(Ng j (s.map Sn)).2,()):=by
 have c:K2 (a0,a1,a2,a3,a4,a5,a6,a7,a8,a9,a10,s,p,g,j,()) (j,(0:Int),())=some (aii (Ng j (s.map Sn))):=by
  rw[<-abI];exact DK s bl (by omega) (λl n=>(l,(n:Int),())) _ _ (λ_ _=>True) (λn l a _=>⟨by
   unfold Ns;have b:ax=bl:=rfl;simp only[bP,dX,cw,a,xC,aJ,eW (n:=n) (by omega),Wq,vP,b];show(bif Bool.not (JJ l (Sn (s.getD n bl))).2 then _ else some (Sum.inl ((JJ l (Sn (s.getD n bl))).1,_,())))=_;cases (JJ l (Sn (s.getD n bl))).2 <;> rfl,λ_ _=>trivial⟩) (λl _=>by
   unfold Ns;simp only[bP,iO,sC,cz]) j trivial
 have d:OV (s,bw s,()) (j,(0:Int),())=some (aii (Ng j (s.map Sn))):=by
  rw[<-abI];exact DK s bl (by omega) (λl n=>(l,(n:Int),())) _ _ (λ_ _=>True) (λn l a _=>⟨by
   unfold TL;have b:ax=bl:=rfl;simp only[bP,dX,cw,a,xC,aJ,eW (n:=n) (by omega),Wb,vP,b];show(bif Bool.not (JJ l (Sn (s.getD n bl))).2 then _ else some (Sum.inl ((JJ l (Sn (s.getD n bl))).1,_,())))=_;cases (JJ l (Sn (s.getD n bl))).2 <;> rfl,λ_ _=>trivial⟩) (λl _=>by
   unfold TL;simp only[bP,iO,sC,cz]) j trivial
 constructor
 .unfold M4;rw[show dF (List.append (α:=Ev) ([]:List Ev) j)=true from qe (by show j.length<=_;omega),aJ];show Option.bind (K2 (a0,a1,a2,a3,a4,a5,a6,a7,a8,a9,a10,s,p,g,j,()) (j,(0:Int),())) _=_;rw[c];unfold aii;cases (Ng j (s.map Sn)).2 <;> rfl
 .unfold Kh;rw[S6 j (by omega)];show Option.bind (OV (s,bw s,()) (j,(0:Int),())) _=_;rw[d];unfold aii;cases (Ng j (s.map Sn)).2 <;> rfl
end
noncomputable abbrev ajO:NE:=aS
def wrS(s:List Site)(j:List Ev)(k:Nat)(kd pc a b:Int):List Site×Bool:=
 bif (Ng j (s.map Sn)).2&&Bool.not (ak .geq (bw (Ng j (s.map Sn)).1) 60)then
  (s.set k ((s.getD k bl).1,(s.getD k bl).2.1,(s.getD k bl).2.2.1,(s.getD k bl).2.2.2.1,(s.getD k bl).2.2.2.2.1,(s.getD k bl).2.2.2.2.2.1,(s.getD k bl).2.2.2.2.2.2.1,(s.getD k bl).2.2.2.2.2.2.2.1,(s.getD k bl).2.2.2.2.2.2.2.2.1,(s.getD k bl).2.2.2.2.2.2.2.2.2.1,(Lh (Sn (s.getD k bl)) k kd pc a b).1),(Lh (Sn (s.getD k bl)) k kd pc a b).2)
 else(s,false)
def af7{s:List Site}{k:Nat}{x:Site}(h:Sn x=Sn (s.getD k bl)):(s.set k x).map Sn=s.map Sn:=by
 apply List.ext_getElem?;intro i;rw[kU,kU,List.getElem?_set];split
 .rename_i e;subst e;split
  .rename_i a;rw[cL a,cZ,cZ,h,uo,cL a];rfl
  .rename_i a;rw[List.getElem?_eq_none (by omega)]
 .rfl
section
variable (a0 a1 a2 a3 a4 a5 a6 a7 a8 a9 a10:Int)(s:List Site)(p:List NE)(g:List Ou)(j:List Ev)
def ZV(c:Pw s p g j){k:Nat}(d:k<s.length)(kd pc a b:Int):JA a0 a1 a2 a3 a4 a5 a6 a7 a8 a9 a10 s p g j k kd pc a b=some (a0,a1,a2,a3,a4,a5,a6,a7,a8,a9,a10,(wrS s j k kd pc a b).1,p,g,j,(wrS s j k kd pc a b).2,()):=by
 unfold JA;refine(YA (Vb a0 a1 a2 a3 a4 a5 a6 a7 a8 a9 a10 s p g j c.lj c.ls).1).trans ?_;unfold wrS;cases (Ng j (s.map Sn)).2 with
 |false=>rfl
 |true=>
  simp only[l7,cz,uu];cases ak .geq (bw (Ng j (s.map Sn)).1) 60 with
  |true=>rfl
  |false=>refine(cT (JV d)).trans ((YA (afH _ k kd pc a b (by rw[cw];exact(c.ss k d).j))).trans ((cT (JV d)).trans ((JP (jt _ _ _)).trans ?_)));simp only[cw];rfl
end
def KN{α a:Type}(x:α)(k:α->a):lets x k=k x:=Eq.trans rfl rfl
def abp{α:Type}{b c:Bool}{x y:α}(h:b=c):(bif b then x else y)=(bif c then x else y):=by rw[h]
def abn{α a:Type}{x y:Option α}{f:α->Option a}(h:x=y):x.bind f=y.bind f:=by rw[h]
attribute [local congr] abp abn
def Tx(s:List Site):List Nat:=s.map λx=>x.2.2.1.length
def agu{s:List Site}{k:Nat}{x:Site}(a:k<s.length)(h:x.2.2.1.length=(s.getD k bl).2.2.1.length):Tx (s.set k x)=Tx s:=by
 unfold Tx;rw[List.map_set,h,uo,cL a];exact List.ext_getElem (by rw[gf]) λn b c=>by
  by_cases e:k=n
  .subst e;rw[List.getElem_set_self,List.getElem_map];rfl
  .rw[List.getElem_set_ne e]
structure KX (M:List Nat) (s:List Site) (p:List NE) (g:List Ou) (j:List Ev):Prop where
 ls:s.length<=1048576
 ss:∀n,n<s.length->Nr 1073741824 (s.getD n bl)
 lp:p.length<=1048576
 lg:g.length<=1048576
 lj:j.length<=1048576
 bk:Tx s=M
def KX.le{M:List Nat}{s:List Site}{p:List NE}{g:List Ou}{j:List Ev}(h:KX M s p g j):Pw s p g j:=⟨h.ls,h.ss,h.lp,h.lg,h.lj⟩
def MN{M:List Nat}{s:List Site}{p:List NE}{g:List Ou}{j:List Ev}(h:KX M s p g j){k m:Nat}{x y:Site}{q:NE}(b:k<s.length)(c:s.getD k bl=y)(d:Nr 1073741824 x)(a:x.2.2.1.length=y.2.2.1.length):KX M (s.set k x) (p.set m q) g j where
 ls:=by rw[gf];exact h.ls
 ss n hn:=by
  rw[gf]at hn;by_cases e:k=n
  .subst e;rw[cP hn];exact d
  .rw[Go.R.getD_set_ne e];exact h.ss n hn
 lp:=by rw[gf];exact h.lp
 lg:=h.lg
 lj:=h.lj
 bk:=by rw[agu b (by rw[c];exact a)];exact h.bk
def ahI{L L':List LM}(h:BkR L L')(f:L9 L)(e:J5 L=true):∀n,n<L'.length->VX 1073741824 (L'.getD n JG):=λn a=>by rw[h.1]at a;have c:=h.2 n a;have b:=aa7 f e a;have d:(L.getD n br)=L.getD n JG:=rfl;rw[d]at b;exact⟨by rw[c.1];exact b.1,by omega⟩
def acu(l:List Ev)(n kd pc a b:Int):(Lh l n kd pc a b).1.length<=l.length+1:=by
 unfold Lh Sp;cases S7 l with
 |false=>exact kE _
 |true=>
  simp only[aJ];cases S7 (l.take (Ma l n).2.2.1++[adE l n kd pc a b]++l.drop (Ma l n).2.2.1)with
  |false=>exact kE _
  |true=>simp only[aJ,jv,jS,Bt,List.length_singleton];omega
def ajN{s:List Site}{j:List Ev}{k:Nat}(l:k<s.length){o c:List Na}{b:List LM}{kd i:Int}{f g h:Bool}{a d:Int}{e:List Ev}(m:Sn (s.getD k bl)=e)(kk pc x y:Int):
  wrS (s.set k (o,c,b,kd,i,f,g,h,a,d,e)) j k kk pc x y=bif (Ng j (s.map Sn)).2&&Bool.not (ak .geq (bw (Ng j (s.map Sn)).1) 60)then(s.set k (o,c,b,kd,i,f,g,h,a,d,(Lh e k kk pc x y).1),(Lh e k kk pc x y).2)else(s.set k (o,c,b,kd,i,f,g,h,a,d,e),false):=by
 unfold wrS;rw[af7 (k:=k) (x:=(o,c,b,kd,i,f,g,h,a,d,e)) (by rw[m];rfl),cP l,um];rfl
def aiw(a n:Int):Int:=aa .add .i64 (aa .rem .i64 (aa .add .i64 a (aa .mul .i64 7919 n)) 2147483646) 1
def ajB{a n:Int}(f:1<=a/\a<=2147483646)(g:1<=n/\n<=12):1<=aiw a n/\aiw a n<=2147483646:=by unfold aiw;have b:aa .mul .i64 7919 n=7919*n:=Fh (by omega) (by omega);have c:aa .add .i64 a (7919*n)=a+7919*n:=sO (by omega) (by omega);rw[b,c];have h:aa .rem .i64 (a+7919*n) 2147483646=(a+7919*n) % 2147483646:=ac6 (by omega);rw[h];have d:=Int.emod_nonneg (a+7919*n) (show(2147483646:Int)≠0 by decide);have e:=Int.emod_lt_of_pos (a+7919*n) (show(0:Int)<2147483646 by decide);rw[sO (by omega) (by omega)];omega
def afy{y:Int}(h:1<=y/\y<=2147483646):Sx y=some (y,0,0,0,0,true,()):=by unfold Sx Ke Jo;simp only[bu,vP,kx.2 h];rfl
section
variable (M:List Nat)(a0 a1 a2 a3 a4 a5 a6 a7 a8 a9 a10:Int)(s:List Site)(p:List NE)(g:List Ou)(j:List Ev)
def aln(x:Option (Int×Int×Int×Int×Int×Int×Int×Int×Int×Int×Int×List Site×List NE×List Ou×List Ev×Int×Unit))(y:Option (Bool×Int×Int×Int×Int×Int×Int×Int×Int×Int×Int×Int×List Site×List NE×List Ou×List Ev×Unit)):Prop:=∃code ok b a d c,x=some (a0,a1,a2,a3,a4,a5,a6,a7,a8,a9,a10,b,a,g,j,code,())/\y=some (ok,a0,a1,a2,a3,a4,a5,a6,a7,a8,a9,a10,d,c,g,j,())/\((code=0/\ok=true/\b=d/\a=c/\KX M b a g j)\/(code=10/\ok=false))
def agh(a:1<=a9/\a9<=2147483646){n:Int}(b:1<=n/\n<=12):JU a0 a1 a2 a3 a4 a5 a6 a7 a8 a9 a10 s p g j n=some (aiw a9 n,())/\Kf a0 a1 a2 a3 a4 a5 a6 a7 a8 a9 a10 s p g j n=some (aiw a9 n,()):=by unfold JU Kf Jn Jo;simp only[qB,bu,vP,kx.2 a,kx.2 b];exact⟨rfl,rfl⟩
def ag0 (e:KX M s p g j) {k m:Nat} (l:k<s.length) (f:m<p.length) {o c:List Na} {b:List LM} {kd st:Int} {d1 d2 d3:Bool} {a i:Int} {w:List Ev} (Q:s.getD k ax=(o,c,b,kd,st,d1,d2,d3,a,i,w))
  {q1 q2 q3 q4 q5 q6 l1 l2 l3 l4 l5 q7 q8:Int} (hp:p.getD m aS=(q1,q2,q3,q4,q5,q6,l1,l2,l3,l4,l5,q7,q8)) (J:a=(m:Int)+1) (t:a<=12) (hb:J5 b=true) (awW:0<=i) (D:1<=a9/\a9<=2147483646) {A:Int} (O:A=1\/A=2) (r:Int) (I0:w.length<=1048576):
  aln M a0 a1 a2 a3 a4 a5 a6 a7 a8 a9 a10 g j (Jb a0 a1 a2 a3 a4 a5 a6 a7 a8 a9 a10 s p g j k A r) (Jf a0 a1 a2 a3 a4 a5 a6 a7 a8 a9 a10 s p g j k A r):=by
 have v:aa .sub .i64 a 1=(m:Int):=by rw[J];have:=e.lp;rw[vm (by omega) (by omega)];omega
 have u:aa .add .i64 (m:Int) 1=a:=by rw[J];have:=e.lp;exact sO (by omega) (by omega)
 have F:=e.ss k l;have hz:s.getD k bl=(o,c,b,kd,st,d1,d2,d3,a,i,w):=Q;rw[hz]at F;have hjx:Sn (s.getD k bl)=w:=by rw[hz];rfl
 obtain⟨bt,Y,Z,N⟩:=ad6 (p:=a) (P6 F) ⟨F.b,F.bs⟩ hb (by omega);have V:∀ {d:List LM},(d=b\/d=bt.1)->d.length=b.length:=λh=>by rcases h with rfl|rfl;rfl;exact N.1
 have jl:w.length<=1073741824:=by omega
 have E:∀ {d z Zs XW x1 x2 x3 abS ab7},(d=b\/d=bt.1)->z.length<=1073741824->Nr 1073741824 (o,c,d,Zs,XW,x1,x2,x3,abS,ab7,z):=fun {d z _ _ _ _ _ _ _} G h2=>⟨F.o,F.c,by rcases G with rfl|rfl;exact F.b;rw[show(o,c,bt.1,_,_,_,_,_,_,_,z).2.2.1=bt.1 from rfl,N.1];exact F.b,by
  rcases G with rfl|rfl
  .exact F.bs
  .exact ahI N (P6 F) hb,h2⟩
 have C:∀H I x y,(Lh w k H I x y).1.length<=1073741824:=λH I x y=>by have:=acu w k H I x y;omega
 have wr:∀ {d Zs XW x1 x2 x3 abS ab7} (G:d=b\/d=bt.1) (B:List NE) (hp':B.length=p.length) H I x y,JA a0 a1 a2 a3 a4 a5 a6 a7 a8 a9 a10 (s.set k (o,c,d,Zs,XW,x1,x2,x3,abS,ab7,w)) B g j k H I x y=_:=fun {d Zs XW x1 x2 x3 abS ab7} G B hp' H I x y=>by
  have hl:KX M (s.set k (o,c,d,Zs,XW,x1,x2,x3,abS,ab7,w)) B g j:=by have:=MN (m:=p.length) (q:=ajO) e (k:=k) l hz (E (Zs:=Zs) (XW:=XW) (x1:=x1) (x2:=x2) (x3:=x3) (abS:=abS) (ab7:=ab7) G jl) (V G);exact⟨this.ls,this.ss,by rw[hp'];exact e.lp,this.lg,this.lj,this.bk⟩
  exact(ZV a0 a1 a2 a3 a4 a5 a6 a7 a8 a9 a10 _ B g j hl.le (by rw[gf];exact l) H I x y).trans (by rw[ajN l hjx])
 have mg:∀d Zs XW x1 x2 x3 abS ab7 (B:List NE),Kh a0 a1 a2 a3 a4 a5 a6 a7 a8 a9 a10 (s.set k (o,c,d,Zs,XW,x1,x2,x3,abS,ab7,w)) B g j=some ((Ng j (s.map Sn)).1,(Ng j (s.map Sn)).2,()):=λd Zs XW x1 x2 x3 abS ab7 B=>by have:=(Vb a0 a1 a2 a3 a4 a5 a6 a7 a8 a9 a10 (s.set k (o,c,d,Zs,XW,x1,x2,x3,abS,ab7,w)) B g j e.lj (by rw[gf];exact e.ls)).2;rw[af7 (by rw[hjx];rfl)]at this;exact this
 have mg0:∀(B:List NE),Kh a0 a1 a2 a3 a4 a5 a6 a7 a8 a9 a10 s B g j=some ((Ng j (s.map Sn)).1,(Ng j (s.map Sn)).2,()):=λB=>(Vb a0 a1 a2 a3 a4 a5 a6 a7 a8 a9 a10 s B g j e.lj e.ls).2;have ad:=λH I x y=>abF w k H I x y jl;have se:=λs p=>(agh a0 a1 a2 a3 a4 a5 a6 a7 a8 a9 a10 s p g j D (n:=a) ⟨by omega,t⟩).1;have si:=λs p=>(agh a0 a1 a2 a3 a4 a5 a6 a7 a8 a9 a10 s p g j D (n:=a) ⟨by omega,t⟩).2;have nl:=afy (ajB D (n:=a) ⟨by omega,t⟩);have fin:∀ {d z q},(d=b\/d=bt.1)->z.length<=1073741824->KX M (s.set k (o,c,d,0,0,false,false,false,0,0,z)) (p.set m q) g j:=λG h2=>MN e l hz (E G h2) (V G);have X:ak .eql (1:Int) 2=false:=rfl;have W:ak .eql (1:Int) 1=true:=rfl;have L:ak .eql (2:Int) 2=true:=rfl;have K:ak .eql (2:Int) 1=false:=rfl;have R:pI false false=true:=rfl;have S:pI true true=true:=rfl;have T:pI false true=false:=rfl;have U:pI true false=false:=rfl;rcases O with rfl|rfl
 .cases P:ak .eql r 3 with
  |true=>unfold Jb Jf;simp only[l,f,xC,JV l,JV f,uI,jt,cw,Q,v,u,hp,↓jE,aJ,cz,cP l,cP f,um,Y,Z,vP,X,W,P,R,S,T,U,l7,fu,se,si,nl,wr (Or.inl rfl) _ rfl,mg,mg0,ad,xO,xU,uu,vI];cases hj:(Ng j (s.map Sn)).2 <;> cases hg:ak .geq (bw (Ng j (s.map Sn)).1) 60 <;> cases ha:(Lh w k 1 a k a10).2 <;> simp only[hj,hg,ha,aJ,cz,l7,fu,xO,xU,uu,vI,JV f,uI,jt,↓jE,f,xC] <;> first|exact⟨_,_,_,_,_,_,rfl,rfl,.inr ⟨rfl,rfl⟩⟩|exact⟨_,_,_,_,_,_,rfl,rfl,.inl ⟨rfl,rfl,rfl,rfl,fin (.inl rfl) (C _ _ _ _)⟩⟩
  |false=>unfold Jb Jf;simp only[l,f,xC,JV l,JV f,uI,jt,cw,Q,v,u,hp,↓jE,aJ,cz,cP l,cP f,um,Y,Z,vP,X,W,P,R,S,T,U,l7,fu];exact⟨_,_,_,_,_,_,rfl,rfl,.inl ⟨rfl,rfl,rfl,rfl,fin (.inr rfl) jl⟩⟩
 .cases P:ak .eql r 3 with
  |false=>unfold Jb Jf;simp only[l,f,xC,JV l,JV f,uI,jt,cw,Q,v,u,hp,↓jE,aJ,cz,cP l,cP f,um,Y,Z,vP,L,K,P,R,S,T,U,l7,fu];exact⟨_,_,_,_,_,_,rfl,rfl,.inl ⟨rfl,rfl,rfl,rfl,fin (.inl rfl) jl⟩⟩
  |true=>
   by_cases hw:i=0
   .have w1:ak .gtr i 0=false:=by rw[hw];rfl
    have w2:ak .eql i 0=true:=LO.2 hw;unfold Jb Jf;simp only[l,f,xC,JV l,JV f,uI,jt,cw,Q,v,u,hp,↓jE,aJ,cz,cP l,cP f,um,Y,Z,vP,L,K,P,R,S,T,U,l7,fu,wr (Or.inr rfl) _ rfl,mg,ad,xO,xU,uu,vI,w1,w2];cases hj:(Ng j (s.map Sn)).2 <;> cases hg:ak .geq (bw (Ng j (s.map Sn)).1) 60 <;> cases ha:(Lh w k 4 a 0 a10).2 <;> simp only[hj,hg,ha,aJ,cz,l7,fu,xO,xU,uu,vI,JV f,uI,jt,↓jE,f,xC] <;> first|exact⟨_,_,_,_,_,_,rfl,rfl,.inr ⟨rfl,rfl⟩⟩|exact⟨_,_,_,_,_,_,rfl,rfl,.inl ⟨rfl,rfl,rfl,rfl,fin (.inr rfl) (C _ _ _ _)⟩⟩
   .have w1:ak .gtr i 0=true:=xD (by omega);have w2:ak .eql i 0=false:=by cases h:ak .eql i 0 with|false=>rfl|true=>exact absurd (LO.1 h) hw
    unfold Jb Jf;simp only[l,f,xC,JV l,JV f,uI,jt,cw,Q,v,u,hp,↓jE,aJ,cz,cP l,cP f,um,Y,Z,vP,L,K,P,R,S,T,U,l7,fu,wr (Or.inr rfl) _ rfl,mg,ad,xO,xU,uu,vI,w1,w2,afI,afn];cases hj:(Ng j (s.map Sn)).2 <;> cases hg:ak .geq (bw (Ng j (s.map Sn)).1) 60 <;> cases ha:(Lh w k 3 a i a10).2 <;> simp only[hj,hg,ha,aJ,cz,l7,fu,xO,xU,uu,vI,JV f,uI,jt,↓jE,f,xC] <;> first|exact⟨_,_,_,_,_,_,rfl,rfl,.inr ⟨rfl,rfl⟩⟩|exact⟨_,_,_,_,_,_,rfl,rfl,.inl ⟨rfl,rfl,rfl,rfl,fin (.inr rfl) (C _ _ _ _)⟩⟩
end
end Go.Fn
namespace Go.Fn
open Go.R
def eqN(m n:Nat):ak .eql (@OfNat.ofNat Int m instOfNat) (@OfNat.ofNat Int n instOfNat)=(m==n):=by show decide ((m:Int)=(n:Int))=_;rw[xT,decide_eq_true_iff,beq_iff_eq];omega
def akV{x:Int}(h:x=0):ak .neq x 0=false:=by rw[h];rfl
def aim{x:Int}(h:x≠0):ak .neq x 0=true:=by rw[neD,zb h];rfl
def akA{x:Int}(h:x=0):ak .eql x 0=true:=LO.2 h
def afj{x:Int}(h:x≠0):ak .eql x 0=false:=by rw[eqD,zb h]
attribute [local congr] abp abn
def Kb(x y:Int):ak .eql x y=decide (x=y):=rfl
def ahU(r c:Int):Ra r c=some (if r=1 then c else 0,if r=2 then c else 0,if r=3 then c else 0,if r=4 then c else 0,()):=by
 unfold Ra;simp only[Kb];by_cases h1:r=1
 .subst h1;rfl
 .by_cases h2:r=2
  .subst h2;rfl
  .by_cases h3:r=3
   .subst h3;rfl
   .by_cases h4:r=4
    .subst h4;rfl
    .simp only[h1,h2,h3,h4,sC,cz,reduceIte]
section
variable (M:List Nat)(a0 a1 a2 a3 a4 a5 a6 a7 a8 a9 a10:Int)(s:List Site)(p:List NE)(g:List Ou)(j:List Ev)
def CmR(x:Option (Int×Int×Int×Int×Int×Int×Int×Int×Int×Int×Int×List Site×List NE×List Ou×List Ev×Int×Unit))(y:Option (Int×Int×Int×Int×Int×Int×Int×Int×Int×Int×Int×Int×List Site×List NE×List Ou×List Ev×Unit)):Prop:=
 ∃code t d c a b i h g e f,x=some (a0,a1,a2,a3,a4,a5,a6,a7,a8,a9,t,d,c,a,b,code,())/\y=some (code,a0,a1,a2,a3,a4,a5,a6,a7,a8,a9,i,h,g,e,f,()) /\
  (code=0\/code=9->(t=i/\d=h/\c=g/\a=e/\b=f)/\KX M d c a b)
variable {M a0 a1 a2 a3 a4 a5 a6 a7 a8 a9} in
def CmR.no{code t s1 p1 g1 j1 t2 s2 p2 g2 j2}(a:code≠0)(b:code≠9):CmR M a0 a1 a2 a3 a4 a5 a6 a7 a8 a9 (some (a0,a1,a2,a3,a4,a5,a6,a7,a8,a9,t,s1,p1,g1,j1,code,())) (some (code,a0,a1,a2,a3,a4,a5,a6,a7,a8,a9,t2,s2,p2,g2,j2,())):=⟨_,_,_,_,_,_,_,_,_,_,_,rfl,rfl,λh=>absurd h (λh=>h.elim a b)⟩
variable {M a0 a1 a2 a3 a4 a5 a6 a7 a8 a9} in
def CmR.yes{code t s1 p1 g1 j1}(h:KX M s1 p1 g1 j1):CmR M a0 a1 a2 a3 a4 a5 a6 a7 a8 a9 (some (a0,a1,a2,a3,a4,a5,a6,a7,a8,a9,t,s1,p1,g1,j1,code,())) (some (code,a0,a1,a2,a3,a4,a5,a6,a7,a8,a9,t,s1,p1,g1,j1,())):=⟨_,_,_,_,_,_,_,_,_,_,_,rfl,rfl,λ_=>⟨⟨rfl,rfl,rfl,rfl,rfl⟩,h⟩⟩
def V6(f:KX M s p g j)(B:p.length<=12)(n:1<=a9/\a9<=2147483646){k:Nat}(t:k<s.length){o c:List Na}{b:List LM}{kd D:Int}{w y z:Bool}{a d:Int}{e:List Ev}(C:s.getD k ax=(o,c,b,kd,D,w,y,z,a,d,e))(r:aaF p (o,c,b,kd,D,w,y,z,a,d,e))(u:kd≠0)(Zs XW:Int)(x1 x2 x3:Bool)(v:Int):
  aln M a0 a1 a2 a3 a4 a5 a6 a7 a8 a9 a10 g j (Jb a0 a1 a2 a3 a4 a5 a6 a7 a8 a9 a10 (s.set k (o,c,b,Zs,XW,x1,x2,x3,a,d,e)) p g j k kd v) (Jf a0 a1 a2 a3 a4 a5 a6 a7 a8 a9 a10 (s.set k (o,c,b,Zs,XW,x1,x2,x3,a,d,e)) p g j k kd v)/\KX M (s.set k (o,c,b,Zs,XW,x1,x2,x3,a,d,e)) p g j:=by
 have l:a≠0:=λh=>u (r.idle h);obtain⟨⟨h1,h2⟩,h3,h4⟩:=r.busy l;have h1:1<=a:=h1;have h2:a<=p.length:=h2;have i:=f.ss k t;rw[show s.getD k bl=_ from C]at i;have A:KX M (s.set k (o,c,b,Zs,XW,x1,x2,x3,a,d,e)) p g j:=by have:=MN (m:=p.length) (q:=ajO) f (k:=k) t C (x:=(o,c,b,Zs,XW,x1,x2,x3,a,d,e)) ⟨i.o,i.c,i.b,i.bs,i.j⟩ rfl;exact⟨this.ls,this.ss,f.lp,this.lg,this.lj,this.bk⟩
 obtain⟨m,E⟩:∃m:Nat,a=(m:Int)+1:=⟨(a-1).toNat,by omega⟩
 exact⟨ag0 M a0 a1 a2 a3 a4 a5 a6 a7 a8 a9 a10 _ p g j A (k:=k) (m:=m) (by rw[gf];exact t) (by omega) (cP t _ _) rfl E (by omega) r.Z1 h4 n h3 v (by have:=Lm r.jr;have this:e.length<=60:=this;omega),A⟩
def U9(a:s.length<=1048576){k:Nat}(b:k<s.length):Jc (k:Int) 0 (aa .sub .i64 (bw s) 1)=true:=by rw[show aa .sub .i64 (bw s) 1=(s.length:Int)-1 from vm (by unfold bw;omega) (by unfold bw;omega)];exact kx.2 ⟨by omega,by omega⟩
variable (hle:KX M s p g j)(afk:p.length<=12)(afl:1<=a9/\a9<=2147483646){k:Nat}(hk:k<s.length)(hF:aaF p (s.getD k bl))(cB cC:Int)(cd:ByteArray)(h1 h2 h3 h4 h5 h6:Int)(h7:Bool)
include hle afk afl hk hF
theorem aoM:CmR M a0 a1 a2 a3 a4 a5 a6 a7 a8 a9 (zg a0 a1 a2 a3 a4 a5 a6 a7 a8 a9 a10 s p g j 6 k cB cC cd h1 h2 h3 h4 h5 h6 h7) (py a0 a1 a2 a3 a4 a5 a6 a7 a8 a9 a10 s p g j 6 k cB cC cd h1 h2 h3 h4 h5 h6 h7):=by
 have l:=U9 s hle.ls hk;generalize m:s.getD k bl=x at hF;obtain⟨o,c,b,kd,r,e,f,i,n,t,K⟩:=x;have u:s.getD k ax=(o,c,b,kd,r,e,f,i,n,t,K):=m;have B:=λa Zs XW x1 x2 x3 v=>V6 M a0 a1 a2 a3 a4 a5 a6 a7 a8 a9 a10 s p g j hle afk afl hk u hF a Zs XW x1 x2 x3 v;obtain⟨⟨q,w,y,z,A,ok,_⟩,C,D,J⟩:=ae4 kd r e f i;obtain⟨⟨v,_⟩,E,F,_⟩:=V9 kd r e f i;unfold zg Wu py;simp only[eqN,Nat.reduceBEq,bu,l,hk,xC,JV hk,uI,jt,cw,u,↓jE,aJ,cz,cP hk,C,D,E,F,vP,l7,fu];cases ok with
 |false=>simp only[aJ,cz,l7,fu,vP];exact .no (by decide) (by decide)
 |true=>
  have a:kd≠0:=J rfl;by_cases d:q=0
  .obtain⟨⟨code,L,P,N,Q,O,G,H,h⟩,_⟩:=B a q w y z A v;simp only[akV d,akA d,G,H,aJ,cz,l7,fu,vP];rcases h with ⟨rfl,rfl,rfl,rfl,I⟩|⟨rfl,rfl⟩
   .exact .yes I
   .exact .no (by decide) (by decide)
  .simp only[aim d,afj d,aJ,cz,l7,fu,vP];exact .yes (B a q w y z A v).2
theorem aoN:CmR M a0 a1 a2 a3 a4 a5 a6 a7 a8 a9 (zg a0 a1 a2 a3 a4 a5 a6 a7 a8 a9 a10 s p g j 7 k cB cC cd h1 h2 h3 h4 h5 h6 h7) (py a0 a1 a2 a3 a4 a5 a6 a7 a8 a9 a10 s p g j 7 k cB cC cd h1 h2 h3 h4 h5 h6 h7):=by
 have i:=U9 s hle.ls hk;generalize l:s.getD k bl=x at hF;obtain⟨o,c,b,kd,q,e,f,h,m,r,B⟩:=x;have t:s.getD k ax=(o,c,b,kd,q,e,f,h,m,r,B):=l;have G:=λa Zs XW x1 x2 x3 v=>V6 M a0 a1 a2 a3 a4 a5 a6 a7 a8 a9 a10 s p g j hle afk afl hk t hF a Zs XW x1 x2 x3 v;obtain⟨⟨n,C,D,E,F,ok,_⟩,u,w,A⟩:=agV kd q e f h;obtain⟨⟨v,_⟩,y,z,_⟩:=V9 kd q e f h;unfold zg py;simp only[eqN,Nat.reduceBEq,bu,i,hk,xC,JV hk,uI,jt,cw,t,↓jE,aJ,cz,cP hk,u,w,y,z,vP,l7,fu];cases ok with
 |false=>simp only[aJ,cz,l7,fu,vP];exact .no (by decide) (by decide)
 |true=>obtain⟨a,d⟩:=A rfl;have d:n=kd:=d;simp only[afj (x:=n) (by rw[d];exact a),aJ,cz,l7,fu,vP];exact .yes (G a n C D E F v).2
theorem aoP:CmR M a0 a1 a2 a3 a4 a5 a6 a7 a8 a9 (zg a0 a1 a2 a3 a4 a5 a6 a7 a8 a9 a10 s p g j 9 k cB cC cd h1 h2 h3 h4 h5 h6 h7) (py a0 a1 a2 a3 a4 a5 a6 a7 a8 a9 a10 s p g j 9 k cB cC cd h1 h2 h3 h4 h5 h6 h7):=by
 have i:=U9 s hle.ls hk;generalize l:s.getD k bl=x at hF;obtain⟨o,c,b,kd,q,e,f,h,m,r,B⟩:=x;have t:s.getD k ax=(o,c,b,kd,q,e,f,h,m,r,B):=l;have G:=λa Zs XW x1 x2 x3 v=>V6 M a0 a1 a2 a3 a4 a5 a6 a7 a8 a9 a10 s p g j hle afk afl hk t hF a Zs XW x1 x2 x3 v;obtain⟨⟨n,C,D,E,F,ok,_⟩,u,w,A⟩:=ajh kd q e f h cB;obtain⟨⟨v,_⟩,y,z,_⟩:=V9 kd q e f h;unfold zg py;simp only[eqN,Nat.reduceBEq,bu,i,hk,xC,JV hk,uI,jt,cw,t,↓jE,aJ,cz,cP hk,u,w,y,z,vP,l7,fu];cases ok with
 |false=>simp only[aJ,cz,l7,fu,vP];exact .no (by decide) (by decide)
 |true=>obtain⟨a,d⟩:=A rfl;have d:n=kd:=d;simp only[afj (x:=n) (by rw[d];exact a),aJ,cz,l7,fu,vP];exact .yes (G a n C D E F v).2
theorem aoO:CmR M a0 a1 a2 a3 a4 a5 a6 a7 a8 a9 (zg a0 a1 a2 a3 a4 a5 a6 a7 a8 a9 a10 s p g j 8 k cB cC cd h1 h2 h3 h4 h5 h6 h7) (py a0 a1 a2 a3 a4 a5 a6 a7 a8 a9 a10 s p g j 8 k cB cC cd h1 h2 h3 h4 h5 h6 h7):=by
 have l:=U9 s hle.ls hk;generalize n:s.getD k bl=x at hF;obtain⟨o,c,b,kd,d,e,f,h,q,t,B⟩:=x;have u:s.getD k ax=(o,c,b,kd,d,e,f,h,q,t,B):=n;have G:=λa Zs XW x1 x2 x3 v=>V6 M a0 a1 a2 a3 a4 a5 a6 a7 a8 a9 a10 s p g j hle afk afl hk u hF a Zs XW x1 x2 x3 v;obtain⟨⟨r,C,D,E,F,_⟩,w,y,m⟩:=akw kd d e f h;obtain⟨⟨v,_⟩,z,A,_⟩:=V9 kd d e f h;have m:r=kd:=m;unfold zg py;simp only[eqN,Nat.reduceBEq,bu,l,hk,xC,JV hk,uI,jt,cw,u,↓jE,aJ,cz,cP hk,w,y,z,A,vP,l7,fu];by_cases i:d=0
 .simp only[akV i,aJ,cz,l7,fu,vP];exact .no (by decide) (by decide)
 .have a:kd≠0:=agD kd d e f h (by
   have:=hF.door;unfold Ro;rw[show E2 kd d e f h=_ from this]) i
  simp only[aim i,afj (x:=r) (by rw[m];exact a),aJ,cz,l7,fu,vP];exact .yes (G a r C D E F v).2
theorem aky:CmR M a0 a1 a2 a3 a4 a5 a6 a7 a8 a9 (zg a0 a1 a2 a3 a4 a5 a6 a7 a8 a9 a10 s p g j 11 k cB cC cd h1 h2 h3 h4 h5 h6 h7) (py a0 a1 a2 a3 a4 a5 a6 a7 a8 a9 a10 s p g j 11 k cB cC cd h1 h2 h3 h4 h5 h6 h7):=by
 have n:=U9 s hle.ls hk;generalize r:s.getD k bl=x at hF;obtain⟨o,c,b,kd,u,i,l,m,e,f,w⟩:=x;have q:s.getD k ax=(o,c,b,kd,u,i,l,m,e,f,w):=r;have O:=λa Zs XW x1 x2 x3 v=>V6 M a0 a1 a2 a3 a4 a5 a6 a7 a8 a9 a10 s p g j hle afk afl hk q hF a Zs XW x1 x2 x3 v;obtain⟨⟨t,y,z,A,B,v,ok,_⟩,E,F,L⟩:=afq kd u i l m;obtain⟨⟨U,_⟩,G,H,_⟩:=V9 kd u i l m;have P:∀x1 x2 x3 C D v,Jb a0 a1 a2 a3 a4 a5 a6 a7 a8 a9 a10 s p g j k kd v=Jb a0 a1 a2 a3 a4 a5 a6 a7 a8 a9 a10 (s.set k (o,c,b,x1,x2,x3,C,D,e,f,w)) p g j k kd v:=λx1 x2 x3 C D v=>by unfold Jb;simp only[hk,xC,JV hk,uI,jt,cw,q,↓jE,aJ,cP hk,um]
 unfold zg py;simp only[eqN,Nat.reduceBEq,bu,n,hk,xC,JV hk,uI,jt,cw,q,↓jE,aJ,cz,cP hk,E,F,G,H,vP,l7,fu];cases ok with
 |false=>simp only[aJ,cz,l7,fu,vP];exact .no (by decide) (by decide)
 |true=>
  obtain⟨a,d⟩:=L rfl;have d:t=0:=d;obtain⟨⟨code,N,S,Q,T,R,I,J,h⟩,_⟩:=O a t y z A B v;simp only[P t y z A B,akA d,I,J,aJ,cz,l7,fu,vP];rcases h with ⟨rfl,rfl,rfl,rfl,K⟩|⟨rfl,rfl⟩
  .exact .yes K
  .exact .no (by decide) (by decide)
theorem akx:CmR M a0 a1 a2 a3 a4 a5 a6 a7 a8 a9 (zg a0 a1 a2 a3 a4 a5 a6 a7 a8 a9 a10 s p g j 10 k cB cC cd h1 h2 h3 h4 h5 h6 h7) (py a0 a1 a2 a3 a4 a5 a6 a7 a8 a9 a10 s p g j 10 k cB cC cd h1 h2 h3 h4 h5 h6 h7):=by
 have f:=U9 s hle.ls hk;generalize w:s.getD k bl=x at hF;obtain⟨o,c,b,kd,A,q,r,t,y,B,U⟩:=x;have u:s.getD k ax=(o,c,b,kd,A,q,r,t,y,B,U):=w;have N:=λa Zs XW x1 x2 x3 v=>V6 M a0 a1 a2 a3 a4 a5 a6 a7 a8 a9 a10 s p g j hle afk afl hk u hF a Zs XW x1 x2 x3 v;obtain⟨⟨H,I,J,K,L,O,ok,_⟩,C,D,T⟩:=afC kd A q r t (if cB=1 then cC else 0) (if cB=2 then cC else 0) (if cB=3 then cC else 0) (if cB=4 then cC else 0);obtain⟨⟨v,_⟩,E,F,_⟩:=V9 kd A q r t;have main:(cB=0/\cC=0)\/(Jc cB 1 4=true/\Jc cC 1 2=true)\/((cB≠0\/cC≠0)/\(Jc cB 1 4=false\/Jc cC 1 2=false)):=by
  by_cases i:cB=0/\cC=0
  .exact .inl i
  .cases l:Jc cB 1 4 with
   |false=>exact .inr (.inr ⟨by omega,.inl rfl⟩)
   |true=>cases m:Jc cC 1 2 with
    |false=>exact .inr (.inr ⟨by omega,.inr rfl⟩)
    |true=>exact .inr (.inl ⟨rfl,rfl⟩)
 have d:(cB=0/\cC=0)\/(Jc cB 1 4=true/\Jc cC 1 2=true)->(cB=0/\cC=0)\/(cB=1\/cB=2\/cB=3\/cB=4)/\Jc cC 1 2=true:=λh=>h.imp id λ⟨i,z⟩=>⟨by have:=kx.1 i;omega,z⟩
 have stop:(cB≠0\/cC≠0)/\(Jc cB 1 4=false\/Jc cC 1 2=false)->CmR M a0 a1 a2 a3 a4 a5 a6 a7 a8 a9 (zg a0 a1 a2 a3 a4 a5 a6 a7 a8 a9 a10 s p g j 10 k cB cC cd h1 h2 h3 h4 h5 h6 h7) (py a0 a1 a2 a3 a4 a5 a6 a7 a8 a9 a10 s p g j 10 k cB cC cd h1 h2 h3 h4 h5 h6 h7):=by
  intro ⟨i,z⟩;unfold zg NW py;simp only[eqN,Nat.reduceBEq,qB,bu,f,hk,xC,JV hk,u,aJ,cz,E,F,vP,cw];by_cases e:cB=0
  .have n:cC≠0:=i.resolve_left λh=>h e;have l:Jc cB 1 4=false:=by rw[e];rfl
   simp only[akV e,aim n,akA e,afj n,l,aJ,cz,l7,fu,vP];exact .no (by decide) (by decide)
  .cases l:Jc cB 1 4 with
   |false=>simp only[aim e,afj e,aJ,cz,l7,fu,vP];exact .no (by decide) (by decide)
   |true=>
    have m:Jc cC 1 2=false:=z.resolve_left λh=>by rw[l]at h;cases h
    simp only[aim e,afj e,m,aJ,cz,l7,fu,vP];exact .no (by decide) (by decide)
 rcases main with h|h|h
 rotate_left 2
 .exact stop h
 all_goals
  have R:=d (by first|exact .inl h|exact .inr h);clear d stop h;have n:Jc 1 1 4=true:=rfl;have W:Jc 2 1 4=true:=rfl;have X:Jc 3 1 4=true:=rfl;have Y:Jc 4 1 4=true:=rfl;rcases R with ⟨rfl,rfl⟩|⟨rfl|rfl|rfl|rfl,m⟩
  all_goals
   simp only[Int.reduceEq,reduceIte]at C D;unfold zg NW py;simp only[Kb,neD,sC,qB,bu,f,hk,xC,JV hk,uI,jt,cw,u,↓jE,aJ,cz,cP hk,C,D,E,F,vP,l7,fu,ahU,Int.reduceEq,reduceIte,n,W,X,Y];try simp only[m,l7,cz,vP]
   cases ok with
   |false=>simp only[aJ,cz,l7,fu,vP];exact .no (by decide) (by decide)
   |true=>
    have a:kd≠0:=T rfl;by_cases G:H=0
    .subst G;obtain⟨⟨code,V,s1,Z,s2,p2,P,Q,h⟩,_⟩:=N a 0 I J K L O;simp only[xC,P,Q,aJ,cz,l7,fu,vP];rcases h with ⟨rfl,rfl,rfl,rfl,S⟩|⟨rfl,rfl⟩
     .exact .yes S
     .exact .no (by decide) (by decide)
    .simp only[G,sC,aJ,cz,l7,fu,vP];exact .yes (N a H I J K L O).2
end
end Go.Fn
namespace Go.Fn
open Go.R
def Rq{ok:Nat->Bool}:∀(k i:Nat),KC ok i k=none->∀n,i<=n->n<i+k->ok n=true
 |0,_,_,_,b,c=>by omega
 |k+1,i,h,n,b,c=>by
  unfold KC at h;cases a:ok i with
  |false=>rw[a]at h;cases h
  |true=>
   rw[a]at h;by_cases e:n=i
   .rw[e];exact a
   .exact Rq k (i+1) h n (by omega) (by omega)
def acL{α:Type}[DecidableEq α]:∀(l m:List α),l.Nodup->(∀x,x∈l->x∈m)->m.length<=l.length->∀x,x∈m->x∈l
 |[],m,_,_,h,x,b=>by have:m=[]:=cK.1 (by simpa using h);rw[this]at b;cases b
 |a::l,m,o,f,n,x,b=>by
  obtain⟨i,j⟩:=List.nodup_cons.1 o;by_cases e:x=a
  .subst e;exact xR
  .have k:a∈m:=f a xR;have c:=List.length_erase_of_mem k;refine eJ _ (acL l (m.erase a) j (λy g=>?_) (by rw[c];simp at n;omega) x ((List.mem_erase_of_ne e).2 b));have d:y≠a:=λe=>by subst e;exact i g
   exact(List.mem_erase_of_ne d).2 (f y (eJ _ g))
def ZN{l:List Bx}{x:Int}:x∈Nu l↔∃n,n<l.length/\(l.getD n fe).2.2.1=x/\x≠0:=by
 unfold Nu;rw[List.mem_filterMap];constructor
 .rintro⟨b,f,h⟩;obtain⟨n,a,rfl⟩:=vL f;split at h
  .cases h
  .rename_i d;injection h with h
   exact⟨n,a,by rw[uo,cL a];exact h,h▸d⟩
 .rintro⟨n,a,c,e⟩;have g:l.getD n fe=l[n]:=by rw[uo,cL a];rfl
  rw[g]at c;refine⟨l[n],xV a,?_⟩;rw[c,dS e]
def afz{α:Type}{l:List α}{x:α}(c:l.Nodup)(d:x∉l):(l++[x]).Nodup:=by
 rw[List.nodup_append];refine⟨c,by simp,λa f b g=>?_⟩;have:b=x:=by simpa using g
 subst this;exact λe=>d (e▸f)
def agA{h:Int}{f:List Int}{l:List Bx}(e:Xo h f l=true):(Nu l).Nodup:=by
 unfold Xo at e;simp only[aQ]at e;have a:∀n,n<l.length->okS l n=true:=λn d=>((iW _ _).1 e.2.1.1) n (kR _) (by omega);have i:∀n,n<=l.length->(Nu (l.take n)).Nodup:=by
  intro n;induction n with
  |zero=>intro _;rw[Bs];exact List.nodup_nil
  |succ n o=>
   intro d;have d:n<l.length:=by omega
   have b:Nu (l.take (n+1))=Nu (l.take n)++Nu [l.getD n fe]:=by rw[take_at d fe];exact List.filterMap_append
   rw[b];by_cases j:(l.getD n fe).2.2.1=0
   .rw[show Nu [l.getD n fe]=[]by simp only[Nu,List.filterMap_cons,j,if_true,List.filterMap_nil],e9];exact o (by omega)
   .rw[show Nu [l.getD n fe]=[(l.getD n fe).2.2.1]by simp only[Nu,List.filterMap_cons,j,if_false,List.filterMap_nil]];refine afz (o (by omega)) λc=>?_;obtain⟨m,c,g,_⟩:=ZN.1 c;have c:m<n:=by rw[jS]at c;omega
    have g:(l.getD m fe).2.2.1=(l.getD n fe).2.2.1:=by rw[<-g,uo,uo,pY c]
    have a:=a n d;unfold okS at a;simp only[aQ]at a;have k:=(kx.1 a.1.1.2).1;have hd:=(iW _ _).1 a.1.2 m (kR _) (by omega);unfold Zm at hd;rw[jw,Wa]at hd;rcases hd with hd|hd
    .have:¬(I8 l n).2.2.1>0:=zc hd;exact this (by have k:0<=(l.getD n fe).2.2.1:=k;show(l.getD n fe).2.2.1>0;omega)
    .rw[show ak .eql (I8 l m).2.2.1 (I8 l n).2.2.1=true from LO.2 g]at hd;cases hd
 have:=i l.length (az _);rwa[eL]at this
def aev{L:List LM}{x:Int}:x∈OB L↔∃i,i<L.length/\x∈Nu (nf L i).2.2:=by
 unfold OB nf;rw[List.mem_flatten];constructor
 .rintro⟨m,e,b⟩;obtain⟨c,d,rfl⟩:=fa.1 e;obtain⟨i,a,rfl⟩:=vL d;exact⟨i,a,by rw[uo,cL a];exact b⟩
 .rintro⟨i,a,b⟩;exact⟨_,fa.2 ⟨L.getD i br,JY a _,rfl⟩,b⟩
def afe{L:List LM}(f:J5 L=true):(OB L).Nodup:=by
 unfold J5 at f;rw[aQ]at f;have o:∀n,n<L.length->NF L n=true:=λn e=>(iW _ _).1 f.2 n (kR _) (by omega);have i:∀n,n<=L.length->(OB (L.take n)).Nodup:=by
  intro n;induction n with
  |zero=>intro _;rw[Bs];exact List.nodup_nil
  |succ n u=>
   intro e;have e:n<L.length:=by omega
   have c:OB (L.take (n+1))=OB (L.take n)++Nu (nf L n).2.2:=by rw[take_at e br];unfold OB;rw[zX,abj];simp only[cR,lY,iV,adb,e9];rfl
   have a:=o n e;unfold NF at a;rw[aQ]at a;rw[c,List.nodup_append];refine⟨u (by omega),agA a.1,λx s y t=>?_⟩;rintro rfl;obtain⟨k,h,d⟩:=aev.1 s;have h:k<n:=by rw[jS]at h;omega
   have g:nf (L.take n) k=nf L k:=by unfold nf;rw[uo,uo,pY h]
   rw[g]at d;obtain⟨m,p,j,v⟩:=ZN.1 t;obtain⟨q,r,l,_⟩:=ZN.1 d;have b:=(iW _ _).1 ((iW _ _).1 a.2 k (kR _) (by omega)) m (kR _) (by omega);unfold Sq at b;rw[jw,Wa]at b;have w:=((agz a.1).1.par m p).1;rcases b with b|b
   .have:¬(I8 (nf L n).2.2 m).2.2.1>0:=zc b;exact this (by show((nf L n).2.2.getD m fe).2.2.1>0;omega)
   .have:ael (nf L k).2.2 (I8 (nf L n).2.2 m).2.2.1=true:=by
     unfold ael;rw[oq];exact⟨_,JY r fe,LO.2 (by show _=((nf L n).2.2.getD m fe).2.2.1;rw[j,l])⟩
    rw[this]at b;cases b
 have:=i L.length (az _);rwa[eL]at this
def aav{s:List Site}{x:Int}:x∈M9 s↔∃k,k<s.length/\x∈OB (s.getD k bl).2.2.1:=by
 unfold M9;rw[List.mem_flatten];constructor
 .rintro⟨m,e,b⟩;obtain⟨c,d,rfl⟩:=fa.1 e;obtain⟨i,a,rfl⟩:=vL d;exact⟨i,a,by rw[uo,cL a];exact b⟩
 .rintro⟨i,a,b⟩;exact⟨_,fa.2 ⟨s.getD i bl,JY a _,rfl⟩,b⟩
def afE{s:List Site}{p:List NE}(h:∀k,k<s.length->J5 (s.getD k bl).2.2.1=true)(g:∀k,k<s.length->∀x,x∈OB (s.getD k bl).2.2.1->FB p k x):(M9 s).Nodup:=by
 have f:∀n,n<=s.length->(M9 (s.take n)).Nodup:=by
  intro n;induction n with
  |zero=>intro _;rw[Bs];exact List.nodup_nil
  |succ n l=>
   intro c;have c:n<s.length:=by omega
   have a:M9 (s.take (n+1))=M9 (s.take n)++OB (s.getD n bl).2.2.1:=by rw[take_at c bl];unfold M9;rw[zX,abj];simp only[cR,lY,iV,adb,e9]
   rw[a,List.nodup_append];refine⟨l (by omega),afe (h n c),λx i y j=>?_⟩;rintro rfl;obtain⟨k,e,b⟩:=aav.1 i;have e:k<n:=by rw[jS]at e;omega
   have d:(s.take n).getD k bl=s.getD k bl:=by rw[uo,uo,pY e]
   rw[d]at b;have m:=(g k (by omega) x b).2.1;have o:=(g n c x j).2.1;omega
 have:=f s.length (az _);rwa[eL]at this
def aib(p:List NE)(n:Nat):List Int:=((List.range n).filter λm=>OX (p.getD m aS)).map λ(m:Nat)=>(m:Int)+1
def ajj(p:List NE):∀n,n<=p.length->(aib p n).length=((p.take n).filter OX).length:=by
 intro n;induction n with
 |zero=>intro _;rw[Bs];rfl
 |succ n a=>intro b;have a:=a (by omega);unfold aib at a⊢;rw[vh]at a⊢;rw[ac2,ae8,jv,a,take_at (show n<p.length by omega) aS,ae8,jv];congr 1;rw[Bq,Bq];split <;> rfl
def ajm{s:List Site}{p:List NE}(f:∀k,k<s.length->J5 (s.getD k bl).2.2.1=true)(b:aiU s p){m:Nat}(g:m<p.length)(h:OX (p.getD m aS)=true):∃k,k<s.length/\((k:Int)=(p.getD m aS).2.2.1)/\((m:Int)+1)∈OB (s.getD k bl).2.2.1:=by
 have e:=acL (M9 s) (aib p p.length) (afE f b.fb) (λx a=>by
  obtain⟨k,c,a⟩:=aav.1 a;obtain⟨⟨j,l⟩,d,i⟩:=b.fb k c x a;unfold aib;refine fa.2 ⟨(x-1).toNat,vK.2 ⟨xP.2 (by omega),i⟩,by omega⟩) (by rw[ajj p _ (az _),eL,b.cnt];exact az _) ((m:Int)+1) (by
  unfold aib;exact fa.2 ⟨m,vK.2 ⟨xP.2 g,h⟩,rfl⟩)
 obtain⟨k,c,a⟩:=aav.1 e;obtain⟨_,d,_⟩:=b.fb k c _ a;rw[show((m:Int)+1-1).toNat=m by omega]at d;exact⟨k,c,d.symm,a⟩
def ai7{L:List LM}{x:Int}(h:x∈OB L):∃i,aaY L x=some i:=by
 cases a:aaY L x with
 |some i=>exact⟨i,rfl⟩
 |none=>
  exfalso;obtain⟨i,d,c⟩:=aev.1 h;obtain⟨m,f,e,_⟩:=ZN.1 c;have:=Rq _ _ a i (kR _) (by omega);have b:Xc (L.getD i br).2.2 x=none:=by simpa using this
  have:=Rq _ _ b m (kR _) (by show m<0+(nf L i).2.2.length;omega);unfold FR at this;rw[show ak .eql (((L.getD i br).2.2).getD m fe).2.2.1 x=true from LO.2 e]at this;cases this
attribute [local congr] abp abn
def aju{l:List Bx}(h:aaV l){n m:Nat}(f:n<l.length)(d:m<l.length)(e:(l.getD n fe).1=(l.getD m fe).1):n=m:=by
 rw[h.low n f,h.low m d]at e;rcases Nat.lt_trichotomy n m with c|a|b
 .have:=h.mono (n:=n) (m:=m) (by omega) (by omega);omega
 .exact a
 .have:=h.mono (n:=m) (m:=n) (by omega) (by omega);omega
section
variable (a0 a1 a2 a3 a4 a5 a6 a7 a8 a9 a10:Int)(s:List Site)(p:List NE)(g:List Ou)(j:List Ev)
def acH(e:Pw s p g j)(u:∀k,k<s.length->J5 (s.getD k bl).2.2.1=true)(D:aiU s p){k m:Nat}(r:k<s.length)(w:m<p.length)(A:(p.getD m aS).2.2.1=(k:Int))(t:(p.getD m aS).2.2.2.1=3):
  Sm Any (Mo a0 a1 a2 a3 a4 a5 a6 a7 a8 a9 a10 s p g j ((m:Int)+1)) (LK (s.getD k bl).2.2.1 ((m:Int)+1)):=by
 have H:=e.lp;have f:aa .sub .i64 ((m:Int)+1) 1=(m:Int):=by rw[vm (by omega) (by omega)];omega
 obtain⟨b,F,C,I⟩:=ajm u D w (by unfold OX;rw[t];rfl);have:b=k:=by rw[A]at C;omega
 subst this;obtain⟨i,o⟩:=ai7 I;obtain⟨h,n,y,x⟩:=acv o;have B:=P6 (e.ss b r);have c:=u b r;have J:s.getD b ax=s.getD b bl:=rfl;generalize L:s.getD b bl=X at *;have a:=agz ((ad5 c).2 i h);have E:(X.2.2.1.getD i br).2.2.length<=24:=a.1.len;refine⟨(((X.2.2.1.getD i br).2.2.getD n fe).2.2.2,()),?_,?_,trivial⟩
 .unfold Mo;have d:N6 X.2.2.1 ((m:Int)+1)=some ((i:Int),((X.2.2.1.getD i br).2.2.getD n fe).1,()):=by rw[Wp X.2.2.1 B (by omega)];unfold aff;rw[c,o];simp only[aJ,y,ae5]
  have G:PX ((i:Int),((X.2.2.1.getD i br).2.2.getD n fe).1,()) (X.1,X.2.1,X.2.2.1,X.2.2.2.1,X.2.2.2.2.1,X.2.2.2.2.2.1,X.2.2.2.2.2.2.1,X.2.2.2.2.2.2.2.1,X.2.2.2.2.2.2.2.2.1,X.2.2.2.2.2.2.2.2.2.1,X.2.2.2.2.2.2.2.2.2.2,(0:Int),())=some (.inl (((X.2.2.1.getD i br).2.2.getD n fe).2.2.2,())):=by
   have:=N5 (body:=L5 ((i:Int),((X.2.2.1.getD i br).2.2.getD n fe).1,())) (λq=>(X.1,X.2.1,X.2.2.1,X.2.2.2.1,X.2.2.2.2.1,X.2.2.2.2.2.1,X.2.2.2.2.2.2.1,X.2.2.2.2.2.2.2.1,X.2.2.2.2.2.2.2.2.1,X.2.2.2.2.2.2.2.2.2.1,X.2.2.2.2.2.2.2.2.2.2,(q:Int),())) (X.2.2.1.getD i br).2.2.length (by omega) (λq=>Bool.not (ak .eql ((X.2.2.1.getD i br).2.2.getD q fe).1 ((X.2.2.1.getD i br).2.2.getD n fe).1)) (Sum.inr (Sum.inl ())) (λq=>Sum.inl (((X.2.2.1.getD i br).2.2.getD q fe).2.2.2,())) (λq z=>by
    unfold L5;simp only[JV h,cw,bP,z,xC,aJ,JV z,eW (n:=q) (by omega)];cases ak .eql ((X.2.2.1.getD i br).2.2.getD q fe).1 ((X.2.2.1.getD i br).2.2.getD n fe).1 <;> rfl) (by
    unfold L5;simp only[JV h,cw,bP,iO,sC,aJ,cz])
   refine this.trans ?_;cases v:KC (λq=>Bool.not (ak .eql ((X.2.2.1.getD i br).2.2.getD q fe).1 ((X.2.2.1.getD i br).2.2.getD n fe).1)) 0 (X.2.2.1.getD i br).2.2.length with
   |none=>have:=Rq _ _ v n (kR _) (by omega);rw[show ak .eql ((X.2.2.1.getD i br).2.2.getD n fe).1 ((X.2.2.1.getD i br).2.2.getD n fe).1=true from LO.2 rfl]at this;cases this
   |some q=>
    obtain⟨_,K,l⟩:=Og _ _ _ v;have l:ak .eql ((X.2.2.1.getD i br).2.2.getD q fe).1 ((X.2.2.1.getD i br).2.2.getD n fe).1=true:=by simpa using l
    have:=aju a.1 (n:=q) (m:=n) (by omega) x (LO.1 l);subst this;rfl
  simp only[f,JV w,aJ,cw,A,JV r,J,d,vP,G];rfl
 .unfold LK;rw[Xp X.2.2.1 _ B,o];simp only[Yx,vP,JV h,aJ,cw];rw[show ak .geq (i:Int) 0=true from xD (p:=(i:Int)>=0) (by omega)];simp only[aJ,YL _ _ _ _ (show(X.2.2.1.getD i br).2.2.length<=1073741824 by omega),y,Yx,vP,JV x,cw]
end
end Go.Fn
namespace Go.Fn
open Go.R
attribute [local congr] abp abn
def LQ(x y:Int):ak .neq x y=Bool.not (decide (x=y)):=by show(x != y)=_;unfold bne;rfl
def aqI(x y:Int):aa .add .i64 x y=aa .add .i64 y x:=by show IntKind.wrap _ (x+y)=IntKind.wrap _ (y+x);rw[Int.add_comm]
section
variable (M:List Nat)(a0 a1 a2 a3 a4 a5 a6 a7 a8 a9 a10:Int)(s:List Site)(p:List NE)(g:List Ou)(j:List Ev)
variable {M} in
def aax{s:List Site}{p:List NE}{g:List Ou}{j:List Ev}(h:KX M s p g j){m:Nat}{q:NE}:KX M s (p.set m q) g j:=⟨h.ls,h.ss,by rw[gf];exact h.lp,h.lg,h.lj,h.bk⟩
variable (hle:KX M s p g j)(hN:ago a0 a1 a2 a3 a4 a5 a6 a7 a8 a9 a10 s p g j){m:Nat}(hm:m<p.length)(cB cC:Int)(cd:ByteArray)(h1 h2 h3 h4 h5 h6:Int)(h7:Bool)
include hle hN hm
theorem atj:CmR M a0 a1 a2 a3 a4 a5 a6 a7 a8 a9 (qb a0 a1 a2 a3 a4 a5 a6 a7 a8 a9 a10 s p g j 2 ((m:Int)+1) cB cC cd h1 h2 h3 h4 h5 h6 h7) (dr a0 a1 a2 a3 a4 a5 a6 a7 a8 a9 a10 s p g j 2 ((m:Int)+1) cB cC cd h1 h2 h3 h4 h5 h6 h7):=by
 have B:=hN.Lu;have C:Jc ((m:Int)+1) 1 (bw p)=true:=kx.2 ⟨by omega,by unfold bw;omega⟩;have d:aa .sub .i64 ((m:Int)+1) 1=(m:Int):=by rw[vm (by omega) (by omega)];omega
 obtain⟨k,e,a⟩:∃k:Nat,k<s.length/\(p.getD m aS).2.2.1=(k:Int):=⟨(p.getD m aS).2.2.1.toNat,by have:=hN.oh m hm;omega,by have:=hN.oh m hm;omega⟩
 have A:=hN.aaz k e;generalize f:p.getD m aS=y at a;obtain⟨r,O,F,G,P,Q,I,J,K,L,N,R,S⟩:=y;have a:F=(k:Int):=a;subst a;generalize i:s.getD k bl=x at A;obtain⟨o,c,b,kd,H,t,u,v,l,n,E⟩:=x;have D:s.getD k ax=(o,c,b,kd,H,t,u,v,l,n,E):=i;obtain⟨⟨q,_⟩,w,z,_⟩:=af9 a0 a1 a2 a3 a4 a5 a6 a7 a8 a9 a10 s p g j hle.lp hN.oh;unfold qb Un dr;simp only[Kb,LQ,Int.reduceEq,xC,sC,qB,bu,C,d,JV hm,JV e,uI,hm,e,jt,cw,f,D,↓KN,aJ,cz,cP e,cP hm,um,vP,l7,fu,w,z,aqI r q];by_cases h:G=0
 .subst h;simp only[xC,l7,cz];cases ak .gtr (aa .add .i64 q r) a8 with
  |true=>simp only[aJ,vP];exact .no (by decide) (by decide)
  |false=>simp only[cz,vP];exact .yes (aax hle)
 .simp only[h,sC,fu,aJ,vP];exact .no (by decide) (by decide)
theorem atk:CmR M a0 a1 a2 a3 a4 a5 a6 a7 a8 a9 (qb a0 a1 a2 a3 a4 a5 a6 a7 a8 a9 a10 s p g j 3 ((m:Int)+1) cB cC cd h1 h2 h3 h4 h5 h6 h7) (dr a0 a1 a2 a3 a4 a5 a6 a7 a8 a9 a10 s p g j 3 ((m:Int)+1) cB cC cd h1 h2 h3 h4 h5 h6 h7):=by
 have N:=hN.Lu;have u:Jc ((m:Int)+1) 1 (bw p)=true:=kx.2 ⟨by omega,by unfold bw;omega⟩;have d:aa .sub .i64 ((m:Int)+1) 1=(m:Int):=by rw[vm (by omega) (by omega)];omega
 obtain⟨k,a,l⟩:∃k:Nat,k<s.length/\(p.getD m aS).2.2.1=(k:Int):=⟨(p.getD m aS).2.2.1.toNat,by have:=hN.oh m hm;omega,by have:=hN.oh m hm;omega⟩
 have D:=hN.aaz k a;generalize e:p.getD m aS=y at l;obtain⟨F,Y,P,Q,Z,q6,T,U,V,W,X,q7,q8⟩:=y;have l:P=(k:Int):=l;subst l;generalize v:s.getD k bl=x at D;obtain⟨o,c,b,kd,B,H,I,J,f,n,G⟩:=x;have r:s.getD k ax=(o,c,b,kd,B,H,I,J,f,n,G):=v;have i:=hle.ss k a;rw[v]at i;obtain⟨⟨C,gc,R,S,ok,_⟩,w,z,t⟩:=afd ((m:Int)+1) F (P6 i) ⟨i.b,i.bs⟩ D.Z1 (by omega);have w:Py b ((m:Int)+1) F=_:=w;have z:OH b ((m:Int)+1) F=_:=z;obtain⟨⟨r1,r2,r3,r4,r5,O,_⟩,K,L,_⟩:=abm 0 0 false false false 1;have t:BkR b C:=t;have fin:∀kd B x1 x2 x3 f n q,KX M (s.set k (o,c,C,kd,B,x1,x2,x3,f,n,G)) (p.set m q) g j:=λkd B x1 x2 x3 f n q=>MN hle a r ⟨i.o,i.c,by show C.length<=_;rw[t.1];exact i.b,ahI t (P6 i) D.Z1,i.j⟩ t.1;by_cases h:Q=1
 rotate_left
 .unfold qb KW rm dr;simp only[Kb,LQ,Int.reduceEq,xC,sC,qB,bu,u,d,JV hm,JV a,uI,hm,a,jt,cw,e,r,↓KN,aJ,cz,cP a,cP hm,um,gf,vP,l7,fu,h];exact .no (by decide) (by decide)
 subst h;by_cases A:f=0
 rotate_left
 .unfold qb KW rm dr;simp only[Kb,LQ,Int.reduceEq,xC,sC,qB,bu,u,d,JV hm,JV a,uI,hm,a,jt,cw,e,r,↓KN,aJ,cz,cP a,cP hm,um,gf,vP,l7,fu,A,Kl,Kk];exact .no (by decide) (by decide)
 cases E:afr o c a10
 .unfold qb KW rm dr;simp only[Kb,LQ,Int.reduceEq,xC,sC,qB,bu,u,d,JV hm,JV a,uI,hm,a,jt,cw,e,r,↓KN,aJ,cz,cP a,cP hm,um,gf,vP,l7,fu,A,E,Kl,Kk];exact .no (by decide) (by decide)
 cases ok
 .unfold qb KW rm dr;simp only[Kb,LQ,Int.reduceEq,xC,sC,qB,bu,u,d,JV hm,JV a,uI,hm,a,jt,cw,e,r,↓KN,aJ,cz,cP a,cP hm,um,gf,vP,l7,fu,A,E,Kl,Kk,w,z];exact .no (by decide) (by decide)
 unfold qb KW rm dr;simp only[Kb,LQ,Int.reduceEq,xC,sC,qB,bu,u,d,JV hm,JV a,uI,hm,a,jt,cw,e,r,↓KN,aJ,cz,cP a,cP hm,um,gf,vP,l7,fu,A,E,Kl,Kk,w,z,K,L];exact .yes (fin _ _ _ _ _ _ _ _)
theorem atl:CmR M a0 a1 a2 a3 a4 a5 a6 a7 a8 a9 (qb a0 a1 a2 a3 a4 a5 a6 a7 a8 a9 a10 s p g j 4 ((m:Int)+1) cB cC cd h1 h2 h3 h4 h5 h6 h7) (dr a0 a1 a2 a3 a4 a5 a6 a7 a8 a9 a10 s p g j 4 ((m:Int)+1) cB cC cd h1 h2 h3 h4 h5 h6 h7):=by
 have R:=hN.Lu;have r:Jc ((m:Int)+1) 1 (bw p)=true:=kx.2 ⟨by omega,by unfold bw;omega⟩;have d:aa .sub .i64 ((m:Int)+1) 1=(m:Int):=by rw[vm (by omega) (by omega)];omega
 obtain⟨k,a,i⟩:∃k:Nat,k<s.length/\(p.getD m aS).2.2.1=(k:Int):=⟨(p.getD m aS).2.2.1.toNat,by have:=hN.oh m hm;omega,by have:=hN.oh m hm;omega⟩
 have Q:=hN.aaz k a;generalize e:p.getD m aS=y at i;obtain⟨q1,q2,q3,q4,q5,q6,T,U,V,W,X,q7,q8⟩:=y;have i:q3=(k:Int):=i;subst i;generalize t:s.getD k bl=x at Q;obtain⟨o,c,b,kd,C,N,O,P,f,l,J⟩:=x;have n:s.getD k ax=(o,c,b,kd,C,N,O,P,f,l,J):=t;have u:=hle.ss k a;rw[t]at u;have D:=hle.lg;obtain⟨⟨Y,_⟩,A,B,_⟩:=abN g cB ((m:Int)+1) a10 q2 D;obtain⟨⟨t1,t2,t3,t4,t5,F,_⟩,G,H,_⟩:=ak0 T U V W X a10 cd;obtain⟨⟨r1,r2,r3,r4,r5,Z,_⟩,K,L,_⟩:=abm 0 0 false false true 2;have fin:∀kd C x1 x2 x3 f l q,KX M (s.set k (o,c,b,kd,C,x1,x2,x3,f,l,J)) (p.set m q) g j:=λkd C x1 x2 x3 f l q=>MN hle a n ⟨u.o,u.c,u.b,u.bs,u.j⟩ rfl;by_cases h:q4=3
 rotate_left
 .unfold qb Kd rm dr;simp only[Kb,LQ,Int.reduceEq,xC,sC,qB,bu,r,d,JV hm,JV a,uI,hm,a,jt,cw,e,n,↓KN,aJ,cz,cP a,cP hm,um,gf,vP,l7,fu,h];exact .no (by decide) (by decide)
 subst h;obtain⟨⟨S,_⟩,E,w,_⟩:=acH a0 a1 a2 a3 a4 a5 a6 a7 a8 a9 a10 s p g j hle.le hN.Z1 hN.box a hm (by rw[e]) (by rw[e]);rw[t]at w;have w:LK b ((m:Int)+1)=_:=w;by_cases v:f=0
 rotate_left
 .unfold qb Kd rm dr;simp only[Kb,LQ,Int.reduceEq,xC,sC,qB,bu,r,d,JV hm,JV a,uI,hm,a,jt,cw,e,n,↓KN,aJ,cz,cP a,cP hm,um,gf,vP,l7,fu,v];exact .no (by decide) (by decide)
 cases z:afr o c a10
 .unfold qb Kd rm dr;simp only[Kb,LQ,Int.reduceEq,xC,sC,qB,bu,r,d,JV hm,JV a,uI,hm,a,jt,cw,e,n,↓KN,aJ,cz,cP a,cP hm,um,gf,vP,l7,fu,v,z,Kl,Kk];exact .no (by decide) (by decide)
 cases Y
 .unfold qb Kd rm dr;simp only[Kb,LQ,Int.reduceEq,xC,sC,qB,bu,r,d,JV hm,JV a,uI,hm,a,jt,cw,e,n,↓KN,aJ,cz,cP a,cP hm,um,gf,vP,l7,fu,v,z,Kl,Kk,A,B];exact .no (by decide) (by decide)
 cases S
 rotate_left
 .unfold qb Kd rm dr;simp only[Kb,LQ,Int.reduceEq,xC,sC,qB,bu,r,d,JV hm,JV a,uI,hm,a,jt,cw,e,n,↓KN,aJ,cz,cP a,cP hm,um,gf,vP,l7,fu,v,z,Kl,Kk,A,B,E,w];exact .no (by decide) (by decide)
 by_cases I:F=0
 rotate_left
 .unfold qb Kd rm dr;simp only[Kb,LQ,Int.reduceEq,xC,sC,qB,bu,r,d,JV hm,JV a,uI,hm,a,jt,cw,e,n,↓KN,aJ,cz,cP a,cP hm,um,gf,vP,l7,fu,v,z,Kl,Kk,A,B,E,w,G,H,I];exact .yes (aax hle)
 unfold qb Kd rm dr;simp only[Kb,LQ,Int.reduceEq,xC,sC,qB,bu,r,d,JV hm,JV a,uI,hm,a,jt,cw,e,n,↓KN,aJ,cz,cP a,cP hm,um,gf,vP,l7,fu,v,z,Kl,Kk,A,B,E,w,G,H,I,K,L];exact .yes (fin _ _ _ _ _ _ _ _)
theorem atm:CmR M a0 a1 a2 a3 a4 a5 a6 a7 a8 a9 (qb a0 a1 a2 a3 a4 a5 a6 a7 a8 a9 a10 s p g j 5 ((m:Int)+1) cB cC cd h1 h2 h3 h4 h5 h6 h7) (dr a0 a1 a2 a3 a4 a5 a6 a7 a8 a9 a10 s p g j 5 ((m:Int)+1) cB cC cd h1 h2 h3 h4 h5 h6 h7):=by
 have L:=hN.Lu;have u:Jc ((m:Int)+1) 1 (bw p)=true:=kx.2 ⟨by omega,by unfold bw;omega⟩;have d:aa .sub .i64 ((m:Int)+1) 1=(m:Int):=by rw[vm (by omega) (by omega)];omega
 obtain⟨k,a,i⟩:∃k:Nat,k<s.length/\(p.getD m aS).2.2.1=(k:Int):=⟨(p.getD m aS).2.2.1.toNat,by have:=hN.oh m hm;omega,by have:=hN.oh m hm;omega⟩
 have K:=hN.aaz k a;generalize e:p.getD m aS=y at i;obtain⟨Z,q2,Q,R,S,T,U,V,W,X,Y,q7,q8⟩:=y;have i:Q=(k:Int):=i;subst i;generalize r:s.getD k bl=x at K;obtain⟨o,c,b,kd,A,H,I,J,f,l,E⟩:=x;have n:s.getD k ax=(o,c,b,kd,A,H,I,J,f,l,E):=r;have t:=hle.ss k a;rw[r]at t;obtain⟨⟨P,_⟩,B,C,_⟩:=abR o c a0 a1 a2 a3 a4 a5 a6 a7 S a10 T;obtain⟨⟨r1,r2,r3,r4,r5,O,_⟩,F,G,_⟩:=abm 0 0 false false true 2;have fin:∀kd A x1 x2 x3 f l q,KX M (s.set k (o,c,b,kd,A,x1,x2,x3,f,l,E)) (p.set m q) g j:=λkd A x1 x2 x3 f l q=>MN hle a n ⟨t.o,t.c,t.b,t.bs,t.j⟩ rfl;by_cases h:R=3
 rotate_left
 .unfold qb Ki rm dr;simp only[Kb,LQ,Int.reduceEq,xC,sC,qB,bu,u,d,JV hm,JV a,uI,hm,a,jt,cw,e,n,↓KN,aJ,cz,cP a,cP hm,um,gf,vP,l7,fu,h];exact .no (by decide) (by decide)
 subst h;obtain⟨⟨N,_⟩,D,w,_⟩:=acH a0 a1 a2 a3 a4 a5 a6 a7 a8 a9 a10 s p g j hle.le hN.Z1 hN.box a hm (by rw[e]) (by rw[e]);rw[r]at w;have w:LK b ((m:Int)+1)=_:=w;by_cases v:f=0
 rotate_left
 .unfold qb Ki rm dr;simp only[Kb,LQ,Int.reduceEq,xC,sC,qB,bu,u,d,JV hm,JV a,uI,hm,a,jt,cw,e,n,↓KN,aJ,cz,cP a,cP hm,um,gf,vP,l7,fu,v];exact .no (by decide) (by decide)
 cases z:afr o c a10
 .unfold qb Ki rm dr;simp only[Kb,LQ,Int.reduceEq,xC,sC,qB,bu,u,d,JV hm,JV a,uI,hm,a,jt,cw,e,n,↓KN,aJ,cz,cP a,cP hm,um,gf,vP,l7,fu,v,z,Kl,Kk];exact .no (by decide) (by decide)
 cases P
 .unfold qb Ki rm dr;simp only[Kb,LQ,Int.reduceEq,xC,sC,qB,bu,u,d,JV hm,JV a,uI,hm,a,jt,cw,e,n,↓KN,aJ,cz,cP a,cP hm,um,gf,vP,l7,fu,v,z,Kl,Kk,B,C];exact .no (by decide) (by decide)
 cases N
 rotate_left
 .unfold qb Ki rm dr;simp only[Kb,LQ,Int.reduceEq,xC,sC,qB,bu,u,d,JV hm,JV a,uI,hm,a,jt,cw,e,n,↓KN,aJ,cz,cP a,cP hm,um,gf,vP,l7,fu,v,z,Kl,Kk,B,C,D,w];exact .no (by decide) (by decide)
 unfold qb Ki rm dr;simp only[Kb,LQ,Int.reduceEq,xC,sC,qB,bu,u,d,JV hm,JV a,uI,hm,a,jt,cw,e,n,↓KN,aJ,cz,cP a,cP hm,um,gf,vP,l7,fu,v,z,Kl,Kk,B,C,D,w,F,G];exact .yes (fin _ _ _ _ _ _ _ _)
theorem ap6:CmR M a0 a1 a2 a3 a4 a5 a6 a7 a8 a9 (qb a0 a1 a2 a3 a4 a5 a6 a7 a8 a9 a10 s p g j 12 ((m:Int)+1) cB cC cd h1 h2 h3 h4 h5 h6 h7) (dr a0 a1 a2 a3 a4 a5 a6 a7 a8 a9 a10 s p g j 12 ((m:Int)+1) cB cC cd h1 h2 h3 h4 h5 h6 h7):=by
 have V:=hN.Lu;have w:Jc ((m:Int)+1) 1 (bw p)=true:=kx.2 ⟨by omega,by unfold bw;omega⟩;have d:aa .sub .i64 ((m:Int)+1) 1=(m:Int):=by rw[vm (by omega) (by omega)];omega
 obtain⟨k,a,n⟩:∃k:Nat,k<s.length/\(p.getD m aS).2.2.1=(k:Int):=⟨(p.getD m aS).2.2.1.toNat,by have:=hN.oh m hm;omega,by have:=hN.oh m hm;omega⟩
 have T:=hN.aaz k a;generalize e:p.getD m aS=y at n;obtain⟨q1,Y,Z,q4,q5,q6,l1,l2,l3,l4,l5,q7,q8⟩:=y;have n:Z=(k:Int):=n;subst n;generalize r:s.getD k bl=x at T;obtain⟨o,c,b,kd,R,J,K,L,z,A,l⟩:=x;have v:s.getD k ax=(o,c,b,kd,R,J,K,L,z,A,l):=r;have D:=hle.ss k a;rw[r]at D;have P:=hle.lg;have O:Sn (s.getD k bl)=l:=by rw[r];rfl
 have W:l.length<=1073741824:=D.j;obtain⟨⟨X,_⟩,B,C,_⟩:=abN g cB ((m:Int)+1) a10 Y P;obtain⟨⟨ce,_⟩,E,F,_⟩:=adf o c a0 a1 a2 a3 a4 a5 a6 a7 q5 a10 q6;have S:=λf i x y=>abF l k f i x y W;have t:∀(Q:List NE),Kh a0 a1 a2 a3 a4 a5 a6 a7 a8 a9 a10 s Q g j=some ((Ng j (s.map Sn)).1,(Ng j (s.map Sn)).2,()):=λQ=>(Vb a0 a1 a2 a3 a4 a5 a6 a7 a8 a9 a10 s Q g j hle.lj hle.ls).2;have I:=λq f i x y=>ZV a0 a1 a2 a3 a4 a5 a6 a7 a8 a9 a10 s (p.set m q) g j (aax hle).le a f i x y;have H:∀f i x y,wrS s j k f i x y=bif (Ng j (s.map Sn)).2&&Bool.not (ak .geq (bw (Ng j (s.map Sn)).1) 60)then(s.set k (o,c,b,kd,R,J,K,L,z,A,(Lh l k f i x y).1),(Lh l k f i x y).2)else(s,false):=λf i x y=>by unfold wrS;rw[O,r]
 have u:=Lm T.jr;have u:l.length<=60:=u;have fin:∀f i x y q,KX M (s.set k (o,c,b,kd,R,J,K,L,z,A,(Lh l k f i x y).1)) (p.set m q) g j:=λf i x y q=>MN hle a v ⟨D.o,D.c,D.b,D.bs,by have:=acu l k f i x y;show(Lh l k f i x y).1.length<=_;omega⟩ rfl;by_cases h:q4=3
 rotate_left
 .unfold qb JN dr;simp only[Kb,LQ,Int.reduceEq,xC,sC,qB,bu,w,d,JV hm,JV a,uI,hm,a,jt,cw,e,v,↓KN,aJ,cz,cP a,cP hm,um,gf,vP,l7,fu,h];exact .no (by decide) (by decide)
 subst h;cases X
 .unfold qb JN dr;simp only[Kb,LQ,Int.reduceEq,xC,sC,qB,bu,w,d,JV hm,JV a,uI,hm,a,jt,cw,e,v,↓KN,aJ,cz,cP a,cP hm,um,gf,vP,l7,fu,B,C];exact .no (by decide) (by decide)
 cases ce
 .unfold qb JN dr;simp only[Kb,LQ,Int.reduceEq,xC,sC,qB,bu,w,d,JV hm,JV a,uI,hm,a,jt,cw,e,v,↓KN,aJ,cz,cP a,cP hm,um,gf,vP,l7,fu,B,C,E,F];exact .no (by decide) (by decide)
 cases G:(Ng j (s.map Sn)).2
 .unfold qb JN dr;simp only[Kb,LQ,Int.reduceEq,xC,sC,qB,bu,w,d,JV hm,JV a,uI,hm,a,jt,cw,e,v,↓KN,aJ,cz,cP a,cP hm,um,gf,vP,l7,fu,B,C,E,F,t,I,H,xO,xU,uu,vI,G];exact .no (by decide) (by decide)
 cases N:ak .geq (bw (Ng j (s.map Sn)).1) 60
 rotate_left
 .unfold qb JN dr;simp only[Kb,LQ,Int.reduceEq,xC,sC,qB,bu,w,d,JV hm,JV a,uI,hm,a,jt,cw,e,v,↓KN,aJ,cz,cP a,cP hm,um,gf,vP,l7,fu,B,C,E,F,t,I,H,xO,xU,uu,vI,G,N];exact .no (by decide) (by decide)
 cases U:(Lh l k 2 ((m:Int)+1) 0 0).2
 .unfold qb JN dr;simp only[Kb,LQ,Int.reduceEq,xC,sC,qB,bu,w,d,JV hm,JV a,uI,hm,a,jt,cw,e,v,↓KN,aJ,cz,cP a,cP hm,um,gf,vP,l7,fu,B,C,E,F,t,I,H,xO,xU,uu,vI,S,G,N,U];exact .no (by decide) (by decide)
 unfold qb JN dr;simp only[Kb,LQ,Int.reduceEq,xC,sC,qB,bu,w,d,JV hm,JV a,uI,hm,a,jt,cw,e,v,↓KN,aJ,cz,cP a,cP hm,um,gf,vP,l7,fu,B,C,E,F,t,I,H,xO,xU,uu,vI,S,G,N,U];exact .yes (fin _ _ _ _ _)
end
end Go.Fn
namespace Go.Fn
open Go.R
attribute [local congr] abp abn
section
variable (M:List Nat)(a0 a1 a2 a3 a4 a5 a6 a7 a8 a9 a10:Int)(s:List Site)(p:List NE)(g:List Ou)(j:List Ev)
variable (hle:KX M s p g j)(hN:ago a0 a1 a2 a3 a4 a5 a6 a7 a8 a9 a10 s p g j)(cA cB cC:Int)(cd:ByteArray)(h1 h2 h3 h4 h5 h6:Int)(h7:Bool)
include hle hN
theorem ati:CmR M a0 a1 a2 a3 a4 a5 a6 a7 a8 a9 (Jr a0 a1 a2 a3 a4 a5 a6 a7 a8 a9 a10 s p g j 1 cA cB cC cd h1 h2 h3 h4 h5 h6 h7) (ee a0 a1 a2 a3 a4 a5 a6 a7 a8 a9 a10 s p g j 1 cA cB cC cd h1 h2 h3 h4 h5 h6 h7):=by
 have k:=hN.Lu;have l:∀x:NE,dF (List.append p (List.append [] [x]))=true:=λx=>qe (by show(p++[x]).length<=_;rw[jv];show p.length+1<=_;omega);have a:Ja cA=some (Jc cA 1 40,()):=by unfold Ja;rw[qB];rfl
 have b:Fv cA=some (Jc cA 1 40,()):=by unfold Fv;rw[bu];rfl
 have c:ak .geq (bw p) 12=ak .eql (bw p) 12:=by rw[xT,LO];show decide (bw p>=12)=true↔_;rw[decide_eq_true_iff];unfold bw;omega
 cases d:Jc cC 0 (aa .sub .i64 (bw s) 1)
 .unfold Jr ee;simp only[Kb,Int.reduceEq,xC,qB,bu,vP,aJ,cz,l7,fu,d];exact .no (by decide) (by decide)
 cases e:Jc cA 1 40
 .unfold Jr ee;simp only[Kb,Int.reduceEq,xC,qB,bu,vP,aJ,cz,l7,fu,d,a,b,e];exact .no (by decide) (by decide)
 cases f:Jc cB 1 24
 .unfold Jr ee;simp only[Kb,Int.reduceEq,xC,qB,bu,vP,aJ,cz,l7,fu,d,a,b,e,f];exact .no (by decide) (by decide)
 cases i:ak .eql (bw p) 12
 .have h:decide (bw p=12)=false:=i;unfold Jr ee;simp only[c,Kb,Int.reduceEq,xC,qB,bu,vP,aJ,cz,l7,fu,d,a,b,e,f,h,l,↓jE];exact .yes ⟨hle.ls,hle.ss,by show(p++[_]).length<=_;rw[jv];show p.length+1<=_;omega,hle.lg,hle.lj,hle.bk⟩
 .have h:decide (bw p=12)=true:=i;unfold Jr ee;simp only[c,Kb,Int.reduceEq,xC,qB,bu,vP,aJ,cz,l7,fu,d,a,b,e,f,h];exact .no (by decide) (by decide)
omit hle in
theorem acD:g.length<=30:=by
 have h:=hN.gr;unfold JT at h;cases a:ak .leq (bw g) 30 with
 |true=>have:=bR (p:=bw g<=30) a;unfold bw at this;omega
 |false=>rw[a]at h;cases h
theorem ap1:CmR M a0 a1 a2 a3 a4 a5 a6 a7 a8 a9 (Jg a0 a1 a2 a3 a4 a5 a6 a7 a8 a9 a10 s p g j 13 cA cB cC cd h1 h2 h3 h4 h5 h6 h7) (ee a0 a1 a2 a3 a4 a5 a6 a7 a8 a9 a10 s p g j 13 cA cB cC cd h1 h2 h3 h4 h5 h6 h7):=by
 have e:=acD a0 a1 a2 a3 a4 a5 a6 a7 a8 a9 a10 s p g j hN;have b:=hN.gr;have a:=Z4 g (by omega);have h:∀x:Ou,dF (List.append g (List.append [] [x]))=true:=λx=>qe (by show(g++[x]).length<=_;rw[jv];show g.length+1<=_;omega);obtain⟨⟨i,_⟩,c,d,_⟩:=aej h1 h2 h3 h4 h5 h6 h7;cases i
 .unfold Jg ee LD;simp only[Kb,Int.reduceEq,xC,sC,c,d,vP,aJ,cz,l7,fu];exact .no (by decide) (by decide)
 cases h7
 .cases f:decide (bw g=30)
  .unfold Jg ee LD;simp only[Kb,Int.reduceEq,xC,sC,c,d,vP,aJ,cz,l7,fu,b,a,f,h,↓jE];exact .yes ⟨hle.ls,hle.ss,hle.lp,by show(g++[_]).length<=_;rw[jv];show g.length+1<=_;omega,hle.lj,hle.bk⟩
  .unfold Jg ee LD;simp only[Kb,Int.reduceEq,xC,sC,c,d,vP,aJ,cz,l7,fu,b,a,f];exact .no (by decide) (by decide)
 .unfold Jg ee LD;simp only[Kb,Int.reduceEq,xC,sC,c,d,vP,aJ,cz,l7,fu];exact .no (by decide) (by decide)
theorem ap2:CmR M a0 a1 a2 a3 a4 a5 a6 a7 a8 a9 (Jg a0 a1 a2 a3 a4 a5 a6 a7 a8 a9 a10 s p g j 14 cA cB cC cd h1 h2 h3 h4 h5 h6 h7) (ee a0 a1 a2 a3 a4 a5 a6 a7 a8 a9 a10 s p g j 14 cA cB cC cd h1 h2 h3 h4 h5 h6 h7):=by
 have d:=acD a0 a1 a2 a3 a4 a5 a6 a7 a8 a9 a10 s p g j hN;have b:=hN.gr;have a:=Z4 g (by omega);cases c:Jc cA 0 (aa .sub .i64 (bw g) 1)
 .unfold Jg ee Rs;simp only[Kb,Int.reduceEq,xC,sC,qB,bu,vP,aJ,cz,l7,fu,c];exact .no (by decide) (by decide)
 obtain⟨i,h⟩:=kx.1 c;rw[show aa .sub .i64 (bw g) 1=(g.length:Int)-1 from vm (by unfold bw;omega) (by unfold bw;omega)]at h;obtain⟨n,rfl⟩:∃n:Nat,cA=(n:Int):=⟨cA.toNat,by omega⟩
 have e:n<g.length:=by omega
 cases f:(g.getD n gI).2.2.2.2.2.2
 .unfold Jg ee Rs;simp only[Kb,Int.reduceEq,xC,sC,qB,bu,vP,aJ,cz,l7,fu,c,b,a,JV e,cw,jt,f,↓jE];exact .yes ⟨hle.ls,hle.ss,hle.lp,by rw[gf];exact hle.lg,hle.lj,hle.bk⟩
 .unfold Jg ee Rs;simp only[Kb,Int.reduceEq,xC,sC,qB,bu,vP,aJ,cz,l7,fu,c,b,a,JV e,cw,f];exact .no (by decide) (by decide)
omit hN in
theorem ap3:CmR M a0 a1 a2 a3 a4 a5 a6 a7 a8 a9 (Jg a0 a1 a2 a3 a4 a5 a6 a7 a8 a9 a10 s p g j 15 cA cB cC cd h1 h2 h3 h4 h5 h6 h7) (ee a0 a1 a2 a3 a4 a5 a6 a7 a8 a9 a10 s p g j 15 cA cB cC cd h1 h2 h3 h4 h5 h6 h7):=by
 unfold Jg ee;simp only[Kb,Int.reduceEq,xC,sC,aJ,cz];cases ak .lss cA 1
 .simp only[cz];cases ak .gtr cA (aa .sub .i64 20000 a10)
  .exact .yes hle
  .exact .no (by decide) (by decide)
 .exact .no (by decide) (by decide)
omit hN in
theorem ap4{k:Nat}(f:k<s.length):CmR M a0 a1 a2 a3 a4 a5 a6 a7 a8 a9 (zg a0 a1 a2 a3 a4 a5 a6 a7 a8 a9 a10 s p g j 16 k cB cC cd h1 h2 h3 h4 h5 h6 h7) (ee a0 a1 a2 a3 a4 a5 a6 a7 a8 a9 a10 s p g j 16 k cB cC cd h1 h2 h3 h4 h5 h6 h7):=by
 have e:=U9 s hle.ls f;have d:=hle.ss k f;generalize u:s.getD k bl=x at d;obtain⟨o,c,b,kd,C,w,y,z,h,i,a⟩:=x;have t:s.getD k ax=(o,c,b,kd,C,w,y,z,h,i,a):=u;have r:=afx j a;have n:=S6 (JJ j a).1 (by omega);have B:dF (List.append [] (JJ j a).1)=true:=qe (by show(JJ j a).1.length<=_;omega);have v:dF (JJ j a).1=true:=B;have l:List.append [] (JJ j a).1=(JJ j a).1:=rfl;cases A:(JJ j a).2
 .unfold zg S2 ee;simp only[Kb,Int.reduceEq,xC,sC,qB,bu,vP,aJ,cz,l7,fu,e,JV f,cw,t,Wq,Wb,A];exact .no (by decide) (by decide)
 .unfold zg S2 ee;simp only[Kb,Int.reduceEq,xC,sC,qB,bu,vP,aJ,cz,l7,fu,e,JV f,cw,jt,t,Wq,Wb,A,B,v,l,n,↓jE];have:=MN (m:=p.length) (q:=ajO) hle (k:=k) f t (x:=(o,c,b,kd,C,w,y,z,h,i,(JJ j a).1)) ⟨d.o,d.c,d.b,d.bs,by show(JJ j a).1.length<=_;omega⟩ rfl;exact .yes ⟨this.ls,this.ss,hle.lp,hle.lg,eK r (by decide),this.bk⟩
end
end Go.Fn
namespace Go.Fn
open Go.R
attribute [local congr] abp abn
def aaK:∀(k i:Nat),KC (λ_=>true) i k=none
 |0,_=>rfl
 |k+1,i=>by unfold KC;exact aaK k (i+1)
def xw{X Y:Type}{body:X->Option (X⊕Y)}(b:Nat->X)(len:Nat)(a:len<1099511627776){r:Y}(e:∀n,n<len->body (b n)=some (.inl (b (n+1))))(c:body (b len)=some (.inr r)):iter body big (b 0)=some r:=by have:=N5 b len a (λ_=>true) r (λ_=>r) (λn d=>e n d) c;rwa[aaK]at this
def acQ{l:List Bx}{c:Int}(a:0<=c):∀n,n<=l.length->c<k7 l n->∃i,i<n/\k7 l i<=c/\c<k7 l (i+1)
 |0,_,h=>absurd h (by show ¬c<0;omega)
 |n+1,d,h=>by
  by_cases b:c<k7 l n
  .obtain⟨i,h1,h2⟩:=acQ a n (by omega) b;exact⟨i,by omega,h2⟩
  .exact⟨n,by omega,by omega,h⟩
section
variable (a0 a1 a2 a3 a4 a5 a6 a7 a8 a9 a10:Int)(s:List Site)(p:List NE)(g:List Ou)(j:List Ev)
variable (k:Nat)(cB cC:Int)(cd:ByteArray)(h1 h2 h3 h4 h5 h6:Int)(h7:Bool)(kd st:Int)(d1 d2 d3:Bool)(par who:Int)
abbrev jT(n:Int)(a:List Site):=(a0,a1,a2,a3,a4,a5,a6,a7,a8,a9,a10,n,a,p,g,j,a0,a1,a2,a3,a4,a5,a6,a7,a8,a9,a10,(17:Int),(k:Int),cB,cC,cd,h1,h2,h3,h4,h5,h6,h7,(0:Int),(0:Int),(0:Int),(0:Int),(0:Int),(0:Int),(0:Int),(0:Int),(0:Int),(0:Int),(0:Int),(k:Int),(k:Int),(k:Int),kd,st,d1,d2,d3,par,who,(k:Int),())
variable {o c:List Na}{jr:List Ev}{b':List LM}{hh:Int}{ff:List Int}{l':List Bx}{cb n:Nat}{s':List Site}
theorem af6 (h:k<s'.length) (f:s'.getD k ax=(o,c,b',kd,st,d1,d2,d3,par,who,jr)) (a:cb<b'.length) (d:b'.getD cb br=(hh,ff,l')) (b:n<l'.length) (i:l'.length<=24)
  (e:Jc cC (l'.getD n fe).1 (aa .sub .i64 (aa .add .i64 (l'.getD n fe).1 (l'.getD n fe).2.1) 1)=false):
  J3 (jT a0 a1 a2 a3 a4 a5 a6 a7 a8 a9 a10 p g j k cb cC cd h1 h2 h3 h4 h5 h6 h7 kd st d1 d2 d3 par who n s')=some (.inl (jT a0 a1 a2 a3 a4 a5 a6 a7 a8 a9 a10 p g j k cb cC cd h1 h2 h3 h4 h5 h6 h7 kd st d1 d2 d3 par who (n+1:Nat) s')):=by
 unfold J3;simp only[cw,f,d,JV a,JV b,bP,b,xC,aJ,↓jE,qB,vP,e,fu,eW (n:=n) (by omega)]
theorem akP{a e b:Int}{h:Bool}(l:k<s'.length)(r:s'.getD k ax=(o,c,b',kd,st,d1,d2,d3,par,who,jr))(d:cb<b'.length)(i:b'.getD cb br=(hh,ff,l'))(f:n<l'.length)(s:l'.length<=24)(m:l'.getD n fe=(a,e,b,h))(q:Jc cC a (aa .sub .i64 (aa .add .i64 a e) 1)=true):
  J3 (jT a0 a1 a2 a3 a4 a5 a6 a7 a8 a9 a10 p g j k cb cC cd h1 h2 h3 h4 h5 h6 h7 kd st d1 d2 d3 par who n s')=some (bif Bool.not (decide (par=0))&&decide (b=par)then .inr (.inl (a0,a1,a2,a3,a4,a5,a6,a7,a8,a9,a10,4,s',p,g,j,a0,a1,a2,a3,a4,a5,a6,a7,a8,a9,a10,()))else .inl (jT a0 a1 a2 a3 a4 a5 a6 a7 a8 a9 a10 p g j k cb cC cd h1 h2 h3 h4 h5 h6 h7 kd st d1 d2 d3 par who (n+1:Nat) (s'.set k (o,c,b'.set cb (hh,ff,l'.set n (a,e,b,Bool.not h)),kd,st,d1,d2,d3,par,who,jr)))):=by
 unfold J3;simp only[cw,jt,r,i,m,JV l,JV d,JV f,bP,f,xC,aJ,↓jE,qB,vP,q,l7,cz,eW (n:=n) (by omega),Kb,LQ];cases decide (par=0)with
 |true=>rfl
 |false=>cases decide (b=par) <;> rfl
theorem akO(e:k<s'.length)(d:s'.getD k ax=(o,c,b',kd,st,d1,d2,d3,par,who,jr))(a:cb<b'.length)(b:b'.getD cb br=(hh,ff,l')):
  ∃r,J3 (jT a0 a1 a2 a3 a4 a5 a6 a7 a8 a9 a10 p g j k cb cC cd h1 h2 h3 h4 h5 h6 h7 kd st d1 d2 d3 par who l'.length s')=some (.inr (.inr (.inl r)))/\r=(a0,a1,a2,a3,a4,a5,a6,a7,a8,a9,a10,s',p,g,j,a0,a1,a2,a3,a4,a5,a6,a7,a8,a9,a10,r.2.2.2.2.2.2.2.2.2.2.2.2.2.2.2.2.2.2.2.2.2.2.2.2.2.2):=by
 unfold J3;simp only[cw,d,b,JV a,bP,iO,sC,aJ,cz,↓jE];exact⟨_,rfl,rfl⟩
theorem akF(l:List Bx)(o:l.length<=1048576)(x1 x2 x3 a:Int)(b:ByteArray)(c d e f g i:Int)(j:Bool)(t:Nat->Bool)(m:∀n,n<l.length->(ak .geq a (l.getD n fe).1&&ak .lss a (aa .add .i64 (l.getD n fe).1 (l.getD n fe).2.1))=t n):
  p5 l x1 x2 x3 a b c d e f g i j=some (Yx (KC (λn=>Bool.not (t n)) 0 l.length),()):=by
 unfold p5;have:=N5 (body:=nh (l,x1,x2,x3,a,b,c,d,e,f,g,i,j,bw l,())) (λn=>((n:Int),())) l.length (by omega) (λn=>Bool.not (t n)) (Sum.inr (Sum.inl ())) (λn=>Sum.inl ((n:Int),())) (λn k=>by
  have h:=m n k;unfold nh Nf;simp only[bP,dX,k,xC,aJ,cw,eW (n:=n) (by omega)];cases h1:ak .geq a (l.getD n fe).1 with
  |true=>rw[h1,uu]at h;rw[aJ,h,vP];cases t n <;> rfl
  |false=>rw[h1,vI]at h;rw[<-h];rfl) (by
  unfold nh;simp only[bP,iO,sC,cz])
 have h1:vn (l,x1,x2,x3,a,b,c,d,e,f,g,i,j,bw l,()) ((0:Int),())=_:=this;rw[h1];cases KC (λn=>Bool.not (t n)) 0 l.length <;> rfl
variable (M:List Nat)(hle:KX M s p g j)(hN:ago a0 a1 a2 a3 a4 a5 a6 a7 a8 a9 a10 s p g j)
include hle hN
theorem ap5(v:k<s.length):CmR M a0 a1 a2 a3 a4 a5 a6 a7 a8 a9 (zg a0 a1 a2 a3 a4 a5 a6 a7 a8 a9 a10 s p g j 17 k cB cC cd h1 h2 h3 h4 h5 h6 h7) (ee a0 a1 a2 a3 a4 a5 a6 a7 a8 a9 a10 s p g j 17 k cB cC cd h1 h2 h3 h4 h5 h6 h7):=by
 have y:=U9 s hle.ls v;have hF:=hN.aaz k v;have P:=hle.ss k v;generalize hx0:s.getD k bl=x at hF P;obtain⟨o,c,b,kd,st,d1,d2,d3,par,who,jr⟩:=x;have K:s.getD k ax=(o,c,b,kd,st,d1,d2,d3,par,who,jr):=hx0;have w:J5 b=true:=hF.Z1;have hb6:=Z3 w;cases V:Jc cB 0 (aa .sub .i64 (bw b) 1)
 .unfold zg Ot ee;simp only[Kb,Int.reduceEq,xC,sC,qB,bu,vP,aJ,cz,l7,fu,y,JV v,cw,K,V];exact .no (by decide) (by decide)
 obtain⟨i2,i3⟩:=kx.1 V;rw[show aa .sub .i64 (bw b) 1=(b.length:Int)-1 from vm (by unfold bw;omega) (by unfold bw;omega)]at i3;obtain⟨cb,rfl⟩:∃n:Nat,cB=(n:Int):=⟨cB.toNat,by omega⟩
 have a:cb<b.length:=by omega
 have d:=Z2 w a;have I:Xo (nf b cb).1 (nf b cb).2.1 (nf b cb).2.2=true:=by unfold J5 at w;rw[aQ]at w;have:=(iW _ _).1 w.2 cb (kR _) (by omega);unfold NF at this;rw[aQ]at this;exact this.1
 generalize hc0:nf b cb=col at d I;obtain⟨hh,ff,l⟩:=col;have Q:b.getD cb br=(hh,ff,l):=hc0;have d:l.length<=24:=d;obtain⟨G,hsum⟩:=agz (h:=hh) (f:=ff) (l:=l) I;have hH:=G.sum l.length (az _);have D:∀n,n<l.length->(l.getD n fe).1=k7 l n/\aa .add .i64 (l.getD n fe).1 (l.getD n fe).2.1=k7 l (n+1)/\aa .sub .i64 (aa .add .i64 (l.getD n fe).1 (l.getD n fe).2.1) 1=k7 l (n+1)-1:=λn u=>by
  have e1:=G.low n u;have e2:=G.step n u;have e3:=G.sum (n+1) u;have e4:aa .add .i64 (l.getD n fe).1 (l.getD n fe).2.1=k7 l (n+1):=by rw[e1,e2];exact sO (by omega) (by omega)
  exact⟨e1,e4,by rw[e4];exact vm (by omega) (by omega)⟩
 have ht:∀n,n<l.length->(ak .geq cC (l.getD n fe).1&&ak .lss cC (aa .add .i64 (l.getD n fe).1 (l.getD n fe).2.1))=decide (k7 l n<=cC/\cC<k7 l (n+1)):=λn u=>by rw[(D n u).2.1,(D n u).1,Bool.decide_and];rfl
 have S:∀n,n<l.length->Jc cC (l.getD n fe).1 (aa .sub .i64 (aa .add .i64 (l.getD n fe).1 (l.getD n fe).2.1) 1)=decide (k7 l n<=cC/\cC<k7 l (n+1)):=λn u=>by rw[(D n u).2.2,(D n u).1,xT,kx,decide_eq_true_iff];omega
 have fi:=akF l (by omega) 17 k cb cC cd h1 h2 h3 h4 h5 h6 h7 _ ht;cases T:Jc cC 0 (aa .sub .i64 hh 1)
 .cases R:KC (λn=>Bool.not (decide (k7 l n<=cC/\cC<k7 l (n+1)))) 0 l.length with
  |some n=>
   obtain⟨_,U,q3⟩:=Og _ _ _ R;have q4:decide (k7 l n<=cC/\cC<k7 l (n+1))=true:=by rw[<-ac1];exact q3
   have q4:=bR q4;have q5:=G.mono (n:=n+1) (m:=l.length) (by omega) (az _);have q6:=G.sum n (by omega);have:Jc cC 0 (aa .sub .i64 hh 1)=true:=kx.2 ⟨by omega,by rw[vm (by omega) (by omega)];omega⟩;rw[this]at T;cases T
  |none=>rw[R]at fi;unfold zg Ot ee;simp only[Kb,Int.reduceEq,xC,sC,qB,bu,vP,aJ,cz,l7,fu,y,JV v,JV a,cw,K,Q,V,T,fi,show ak .lss (Yx none) 0=true from rfl];exact .no (by decide) (by decide)
 .obtain⟨i4,i5⟩:=kx.1 T;rw[vm (by omega) (by omega)]at i5;obtain⟨n,R⟩:∃n,KC (λn=>Bool.not (decide (k7 l n<=cC/\cC<k7 l (n+1)))) 0 l.length=some n:=by
   cases R:KC (λn=>Bool.not (decide (k7 l n<=cC/\cC<k7 l (n+1)))) 0 l.length with
   |some n=>exact⟨n,rfl⟩
   |none=>obtain⟨i,W,U⟩:=acQ i4 l.length (az _) (by omega);have:=Rq _ _ R i (kR _) (by omega);rw[xD U]at this;cases this
  obtain⟨_,U,q3⟩:=Og _ _ _ R;have q4:decide (k7 l n<=cC/\cC<k7 l (n+1))=true:=by rw[<-ac1];exact q3
  have q5:=bR q4;have u:n<l.length:=by omega
  have un:∀m,m<l.length->m≠n->decide (k7 l m<=cC/\cC<k7 l (m+1))=false:=λm E he=>by
   apply zb;by_cases h:m<n
   .have:=G.mono (n:=m+1) (m:=n) h (by omega);omega
   .have:=G.mono (n:=n+1) (m:=m) (by omega) (by omega);omega
  have tn:=S n u;rw[q4]at tn;rw[R]at fi;have fi:_=some ((n:Int),()):=fi;have nl:ak .lss (n:Int) 0=false:=zb (p:=(n:Int)<0) (by omega);generalize C:l.getD n fe=bx at tn;obtain⟨N,O,F,L⟩:=bx;have A:=akP a0 a1 a2 a3 a4 a5 a6 a7 a8 a9 a10 p g j k cC cd h1 h2 h3 h4 h5 h6 h7 kd st d1 d2 d3 par who v K a Q u d C tn;have before:∀m,m<n->J3 (jT a0 a1 a2 a3 a4 a5 a6 a7 a8 a9 a10 p g j k cb cC cd h1 h2 h3 h4 h5 h6 h7 kd st d1 d2 d3 par who m s)=_:=λm E=>af6 a0 a1 a2 a3 a4 a5 a6 a7 a8 a9 a10 p g j k cC cd h1 h2 h3 h4 h5 h6 h7 kd st d1 d2 d3 par who v K a Q (n:=m) (by omega) d ((S m (by omega)).trans (un m (by omega) (by omega)));cases t:Bool.not (decide (par=0))&&decide (F=par)
  .rw[t]at A;generalize B:s.set k (o,c,b.set cb (hh,ff,l.set n (N,O,F,Bool.not L)),kd,st,d1,d2,d3,par,who,jr)=s' at A;have Y:k<s'.length:=by rw[<-B,gf];exact v
   have Z:s'.getD k ax=(o,c,b.set cb (hh,ff,l.set n (N,O,F,Bool.not L)),kd,st,d1,d2,d3,par,who,jr):=by rw[<-B];exact cP v _ _
   have H:cb<(b.set cb (hh,ff,l.set n (N,O,F,Bool.not L))).length:=by rw[gf];exact a
   have X:(b.set cb (hh,ff,l.set n (N,O,F,Bool.not L))).getD cb br=(hh,ff,l.set n (N,O,F,Bool.not L)):=cP a _ _;have hl':(l.set n (N,O,F,Bool.not L)).length=l.length:=gf;obtain⟨r,he,hr⟩:=akO a0 a1 a2 a3 a4 a5 a6 a7 a8 a9 a10 p g j k cC cd h1 h2 h3 h4 h5 h6 h7 kd st d1 d2 d3 par who Y Z H X;rw[hl']at he;generalize r.2.2.2.2.2.2.2.2.2.2.2.2.2.2.2.2.2.2.2.2.2.2.2.2.2.2=z at hr;subst hr;have e:PW (jT a0 a1 a2 a3 a4 a5 a6 a7 a8 a9 a10 p g j k cb cC cd h1 h2 h3 h4 h5 h6 h7 kd st d1 d2 d3 par who 0 s)=_:=xw (λm=>jT a0 a1 a2 a3 a4 a5 a6 a7 a8 a9 a10 p g j k cb cC cd h1 h2 h3 h4 h5 h6 h7 kd st d1 d2 d3 par who m (if m<=n then s else s')) l.length (by omega) (λm E=>by
    by_cases W:m<n
    .rw[cj (by omega),cj (by omega)];exact before m W
    .by_cases U:m=n
     .subst U;rw[cj (az _),dS (by omega)];exact A
     .rw[dS (by omega),dS (by omega)];have hg:(l.set n (N,O,F,Bool.not L)).getD m fe=l.getD m fe:=Go.R.getD_set_ne (λh=>U h.symm) _ _;exact af6 a0 a1 a2 a3 a4 a5 a6 a7 a8 a9 a10 p g j k cC cd h1 h2 h3 h4 h5 h6 h7 kd st d1 d2 d3 par who Y Z H X (n:=m) (by omega) (by omega) (by rw[hg];exact(S m E).trans (un m E U))) (by
    rw[dS (by omega)];exact he)
   have J:KX M s' p g j:=by
    have:=MN (m:=p.length) (q:=ajO) hle (k:=k) v K (x:=(o,c,b.set cb (hh,ff,l.set n (N,O,F,Bool.not L)),kd,st,d1,d2,d3,par,who,jr)) ⟨P.o,P.c,by rw[gf];exact P.b,λm E=>by
     rw[gf]at E;by_cases q:cb=m
     .subst q;have:VX 1073741824 (b.getD cb br):=P.bs cb E;rw[Q]at this;rw[cP E];exact⟨this.1,by rw[gf];exact this.2⟩
     .rw[Go.R.getD_set_ne q];exact P.bs m E,P.j⟩ gf
    rw[B]at this;exact⟨this.ls,this.ss,hle.lp,hle.lg,hle.lj,this.bk⟩
   unfold zg Ot ee;cases W:decide (par=0)
   .rw[W,fu,uu]at t;simp only[Kb,LQ,Int.reduceEq,xC,sC,qB,bu,vP,aJ,cz,l7,fu,y,JV v,JV a,JV u,cw,jt,K,Q,C,V,T,fi,nl,e,W,t,B,↓KN,zd,xL];exact .yes J
   .simp only[Kb,LQ,Int.reduceEq,xC,sC,qB,bu,vP,aJ,cz,l7,fu,y,JV v,JV a,JV u,cw,jt,K,Q,C,V,T,fi,nl,e,W,B,↓KN,zd,xL];exact .yes J
  .rw[t]at A;have e:PW (jT a0 a1 a2 a3 a4 a5 a6 a7 a8 a9 a10 p g j k cb cC cd h1 h2 h3 h4 h5 h6 h7 kd st d1 d2 d3 par who 0 s)=_:=xw (λm=>jT a0 a1 a2 a3 a4 a5 a6 a7 a8 a9 a10 p g j k cb cC cd h1 h2 h3 h4 h5 h6 h7 kd st d1 d2 d3 par who m s) n (by omega) before A;rw[aQ,jw]at t;unfold zg Ot ee;simp only[Kb,LQ,Int.reduceEq,xC,sC,qB,bu,vP,aJ,cz,l7,fu,y,JV v,JV a,JV u,cw,K,Q,C,V,T,fi,nl,e,t.1,t.2,↓KN,zd];exact .no (by decide) (by decide)
end
end Go.Fn
namespace Go.Fn
open Go.R
attribute [local congr] abp abn
def eqP(x y:Int):ak .eql x y=decide (x=y):=Eq.trans rfl rfl
def cTP{α:Type}(a b:α):(bif true then a else b)=a:=Eq.trans rfl rfl
def cFP{α:Type}(a b:α):(bif false then a else b)=b:=Eq.trans rfl rfl
def bsP{α b:Type}(a:α)(f:α->Option b):(some a).bind f=f a:=Eq.trans rfl rfl
def abq{α:Type}(a:α->Nat)(z:α)(C:Nat):∀(l:List α),(∀n,n<l.length->a (l.getD n z)<=C)->JC a l<=l.length*C
 |[],_=>kR _
 |x::xs,h=>by have c:a x<=C:=h 0 (by simp);have d:=abq a z C xs λn b=>h (n+1) (by simpa using b);show a x+JC a xs<=(xs.length+1)*C;rw[vO];omega
def ahV{M:List Nat}{s:List Site}{p:List NE}{g:List Ou}{j:List Ev}(h:KX M s p g j)(b:M.length<=3)(i:∀x,x∈M->x<=6):KZ s p g j<=137438953471:=by
 have l:s.length<=3:=by rw[<-h.bk]at b;unfold Tx at b;rwa[vh]at b
 have r:=abq J0 bl 44023414797 s λn e=>by
  have a:=h.ss n e;have k:(s.getD n bl).2.2.1.length<=6:=i _ (by rw[<-h.bk];unfold Tx;exact fa.2 ⟨s.getD n bl,JY e _,rfl⟩);have q:=abq Mp JG 5368709121 (s.getD n bl).2.2.1 λm o=>by have:=a.bs m o;unfold Mp;have c:=this.1;have d:=this.2;omega
  have c:=a.o;have d:=a.c;have f:=a.j;have:(s.getD n bl).2.2.1.length*5368709121<=6*5368709121:=dB _ k;unfold J0;omega
 have:s.length*44023414797<=3*44023414797:=dB _ l;have c:=h.lp;have d:=h.lg;have f:=h.lj;unfold KZ;omega
def tl{α:Type}{P:α->Prop}{a b:Bool}{A B B':Option α}(d:∃r,A=some r/\P r)(c:(a&&b)=false->∃r,B=some r/\B'=some r/\P r):Sm P (bif a then bif b then A else B else B) (bif a then bif b then A else B' else B'):=by
 obtain⟨r,rfl,h⟩:=d;cases a
 .exact c rfl
 .cases b
  .exact c rfl
  .exact⟨r,rfl,rfl,h⟩
section
variable (a0 a1 a2 a3 a4 a5 a6 a7 a8 a9 a10:Int)(s:List Site)(p:List NE)(g:List Ou)(j:List Ev)
def ApF(r:Int×Int×Int×Int×Int×Int×Int×Int×Int×Int×Int×List Site×List NE×List Ou×List Ev×Int×Unit):Prop:=∃t d c a b code,r=(a0,a1,a2,a3,a4,a5,a6,a7,a8,a9,t,d,c,a,b,code,())/\Pw d c a b/\KZ d c a b<=137438953471
def ahF(u:Pw s p g j)(Y:KZ s p g j<=137438953471)(a w b c:Int)(d:ByteArray)(e f i k l o:Int)(q:Bool):
  Sm (ApF a0 a1 a2 a3 a4 a5 a6 a7 a8 a9) (Ka a0 a1 a2 a3 a4 a5 a6 a7 a8 a9 a10 s p g j a w b c d e f i k l o q) (J9 a0 a1 a2 a3 a4 a5 a6 a7 a8 a9 a10 s p g j a w b c d e f i k l o q):=by
 have J:=aaT a0 a1 a2 a3 a4 a5 a6 a7 a8 a9 a10 s p g j u;have I:=aaM a0 a1 a2 a3 a4 a5 a6 a7 a8 a9 a10 s p g j u;obtain⟨⟨v,_⟩,L,M,U⟩:=acK a0 a1 a2 a3 a4 a5 a6 a7 a8 a9 a10 s p g j u;have same:∀code:Int,ApF a0 a1 a2 a3 a4 a5 a6 a7 a8 a9 (a0,a1,a2,a3,a4,a5,a6,a7,a8,a9,a10,s,p,g,j,code,()):=λcode=>⟨_,_,_,_,_,_,rfl,u,Y⟩
 cases v
 .unfold Ka J9;simp only[L,M,J,I,vP,fu,aJ];exact .ret (same _)
 have r:=U rfl;cases ik:Jc a 1 17
 .unfold Ka J9;simp only[L,M,J,I,qB,bu,ik,vP,fu,l7,aJ,cz];exact .ret (same _)
 have A:KX (Tx s) s p g j:=⟨u.ls,u.ss,u.lp,u.lg,u.lj,rfl⟩
 have fin:∀ {t:Int} {G F D E} {code:Int},KX (Tx s) G F D E->ApF a0 a1 a2 a3 a4 a5 a6 a7 a8 a9 (a0,a1,a2,a3,a4,a5,a6,a7,a8,a9,t,G,F,D,E,code,()):=λh=>⟨_,_,_,_,_,_,rfl,h.le,ahV h (by unfold Tx;rw[vh];exact r.sites.2) λx X=>by unfold Tx at X;obtain⟨y,hy,rfl⟩:=fa.1 X;obtain⟨n,U,rfl⟩:=acZ.1 hy;have:=Z3 (r.Z1 n U);rwa[uo,cL U]at this⟩
 obtain⟨i1,i2⟩:=kx.1 ik;have B:(a=1\/a=13\/a=14\/a=15)\/(a=2\/a=3\/a=4\/a=5\/a=12)\/(a=6\/a=7\/a=8\/a=9\/a=10\/a=11)\/(a=16\/a=17):=by omega
 have T:∀ {code t:Int} {G F D E} {S:Int} {R Q O P},(code=0\/code=9->(t=S/\G=R/\F=Q/\D=O/\E=P)/\KX (Tx s) G F D E)->Sm (ApF a0 a1 a2 a3 a4 a5 a6 a7 a8 a9)
   (bif Bool.not (decide (code=0))then bif Bool.not (decide (code=9))then some (a0,a1,a2,a3,a4,a5,a6,a7,a8,a9,a10,s,p,g,j,code,())else some (a0,a1,a2,a3,a4,a5,a6,a7,a8,a9,t,G,F,D,E,code,())else some (a0,a1,a2,a3,a4,a5,a6,a7,a8,a9,t,G,F,D,E,code,()))
   (bif Bool.not (decide (code=0))then bif Bool.not (decide (code=9))then some (a0,a1,a2,a3,a4,a5,a6,a7,a8,a9,a10,s,p,g,j,code,())else some (a0,a1,a2,a3,a4,a5,a6,a7,a8,a9,S,R,Q,O,P,code,())else some (a0,a1,a2,a3,a4,a5,a6,a7,a8,a9,S,R,Q,O,P,code,())):=fun {code t G F D E S R Q O P} h=>tl ⟨_,rfl,same _⟩ λH=>by
  have Z:code=0\/code=9:=by rw[Wa,ac1,ac1,decide_eq_true_iff,decide_eq_true_iff]at H;exact H
  obtain⟨⟨rfl,rfl,rfl,rfl,rfl⟩,W⟩:=h Z;exact⟨_,rfl,rfl,fin W⟩
 rcases B with B|B|B|B
 .have H:CmR (Tx s) a0 a1 a2 a3 a4 a5 a6 a7 a8 a9 (bif decide (a=1)then Jr a0 a1 a2 a3 a4 a5 a6 a7 a8 a9 a10 s p g j a w b c d e f i k l o q else Jg a0 a1 a2 a3 a4 a5 a6 a7 a8 a9 a10 s p g j a w b c d e f i k l o q) (ee a0 a1 a2 a3 a4 a5 a6 a7 a8 a9 a10 s p g j a w b c d e f i k l o q):=by
   rcases B with rfl|rfl|rfl|rfl
   .exact ati _ a0 a1 a2 a3 a4 a5 a6 a7 a8 a9 a10 s p g j A r w b c d e f i k l o q
   .exact ap1 _ a0 a1 a2 a3 a4 a5 a6 a7 a8 a9 a10 s p g j A r w b c d e f i k l o q
   .exact ap2 _ a0 a1 a2 a3 a4 a5 a6 a7 a8 a9 a10 s p g j A r w b c d e f i k l o q
   .exact ap3 _ a0 a1 a2 a3 a4 a5 a6 a7 a8 a9 a10 s p g j A w b c d e f i k l o q
  obtain⟨code,t,G,F,D,E,S,R,Q,O,P,N,C,h⟩:=H;rcases B with rfl|rfl|rfl|rfl
  all_goals
   simp only[Int.reduceEq,xC,sC,aJ,cz]at N;unfold Ka J9;simp only[L,M,J,I,qB,bu,ik,eqP,LQ,Int.reduceEq,xC,sC,bsP,fu,l7,cTP,cFP,N,C];exact T h
 .cases V:Jc w 1 (bw p)
  .have C:dr a0 a1 a2 a3 a4 a5 a6 a7 a8 a9 a10 s p g j a w b c d e f i k l o q=some (2,a0,a1,a2,a3,a4,a5,a6,a7,a8,a9,a10,s,p,g,j,()):=by
    unfold dr;simp only[bu,V,vP,fu,aJ]
   rcases B with rfl|rfl|rfl|rfl|rfl
   all_goals
    unfold Ka J9;simp only[L,M,J,I,qB,bu,ik,eqP,LQ,Int.reduceEq,xC,sC,bsP,fu,l7,cTP,cFP,C,V];exact .ret (same _)
  .obtain⟨m1,m2⟩:=kx.1 V;unfold bw at m2;obtain⟨m,rfl⟩:∃m:Nat,w=(m:Int)+1:=⟨(w-1).toNat,by omega⟩
   have z:m<p.length:=by omega
   have H:CmR (Tx s) a0 a1 a2 a3 a4 a5 a6 a7 a8 a9 (qb a0 a1 a2 a3 a4 a5 a6 a7 a8 a9 a10 s p g j a (m+1) b c d e f i k l o q) (dr a0 a1 a2 a3 a4 a5 a6 a7 a8 a9 a10 s p g j a (m+1) b c d e f i k l o q):=by
    rcases B with rfl|rfl|rfl|rfl|rfl
    .exact atj _ a0 a1 a2 a3 a4 a5 a6 a7 a8 a9 a10 s p g j A r z b c d e f i k l o q
    .exact atk _ a0 a1 a2 a3 a4 a5 a6 a7 a8 a9 a10 s p g j A r z b c d e f i k l o q
    .exact atl _ a0 a1 a2 a3 a4 a5 a6 a7 a8 a9 a10 s p g j A r z b c d e f i k l o q
    .exact atm _ a0 a1 a2 a3 a4 a5 a6 a7 a8 a9 a10 s p g j A r z b c d e f i k l o q
    .exact ap6 _ a0 a1 a2 a3 a4 a5 a6 a7 a8 a9 a10 s p g j A r z b c d e f i k l o q
   obtain⟨code,t,G,F,D,E,S,R,Q,O,P,N,C,h⟩:=H;rcases B with rfl|rfl|rfl|rfl|rfl
   all_goals
    unfold Ka J9;simp only[L,M,J,I,qB,bu,ik,eqP,LQ,Int.reduceEq,xC,sC,bsP,fu,l7,cTP,cFP,N,C,V];exact T h
 .cases K:Jc w 0 (aa .sub .i64 (bw s) 1)
  .have C:py a0 a1 a2 a3 a4 a5 a6 a7 a8 a9 a10 s p g j a w b c d e f i k l o q=some (2,a0,a1,a2,a3,a4,a5,a6,a7,a8,a9,a10,s,p,g,j,()):=by
    unfold py;simp only[bu,K,vP,fu,aJ]
   rcases B with rfl|rfl|rfl|rfl|rfl|rfl
   all_goals
    unfold Ka J9;simp only[L,M,J,I,qB,bu,ik,eqP,LQ,Int.reduceEq,xC,sC,bsP,fu,l7,cTP,cFP,C,K];exact .ret (same _)
  .obtain⟨m1,m2⟩:=kx.1 K;rw[show aa .sub .i64 (bw s) 1=(s.length:Int)-1 from vm (by unfold bw;omega) (by have:=u.ls;unfold bw;omega)]at m2;obtain⟨m,rfl⟩:∃m:Nat,w=(m:Int):=⟨w.toNat,by omega⟩
   have z:m<s.length:=by omega
   have H:CmR (Tx s) a0 a1 a2 a3 a4 a5 a6 a7 a8 a9 (zg a0 a1 a2 a3 a4 a5 a6 a7 a8 a9 a10 s p g j a m b c d e f i k l o q) (py a0 a1 a2 a3 a4 a5 a6 a7 a8 a9 a10 s p g j a m b c d e f i k l o q):=by
    rcases B with rfl|rfl|rfl|rfl|rfl|rfl
    .exact aoM _ a0 a1 a2 a3 a4 a5 a6 a7 a8 a9 a10 s p g j A r.Lu r.aay z (r.aaz m z) b c d e f i k l o q
    .exact aoN _ a0 a1 a2 a3 a4 a5 a6 a7 a8 a9 a10 s p g j A r.Lu r.aay z (r.aaz m z) b c d e f i k l o q
    .exact aoO _ a0 a1 a2 a3 a4 a5 a6 a7 a8 a9 a10 s p g j A r.Lu r.aay z (r.aaz m z) b c d e f i k l o q
    .exact aoP _ a0 a1 a2 a3 a4 a5 a6 a7 a8 a9 a10 s p g j A r.Lu r.aay z (r.aaz m z) b c d e f i k l o q
    .exact akx _ a0 a1 a2 a3 a4 a5 a6 a7 a8 a9 a10 s p g j A r.Lu r.aay z (r.aaz m z) b c d e f i k l o q
    .exact aky _ a0 a1 a2 a3 a4 a5 a6 a7 a8 a9 a10 s p g j A r.Lu r.aay z (r.aaz m z) b c d e f i k l o q
   obtain⟨code,t,G,F,D,E,S,R,Q,O,P,N,C,h⟩:=H;rcases B with rfl|rfl|rfl|rfl|rfl|rfl
   all_goals
    unfold Ka J9;simp only[L,M,J,I,qB,bu,ik,eqP,LQ,Int.reduceEq,xC,sC,bsP,fu,l7,cTP,cFP,N,C,K];exact T h
 .cases K:Jc w 0 (aa .sub .i64 (bw s) 1)
  .have C:ee a0 a1 a2 a3 a4 a5 a6 a7 a8 a9 a10 s p g j a w b c d e f i k l o q=some (2,a0,a1,a2,a3,a4,a5,a6,a7,a8,a9,a10,s,p,g,j,()):=by
    unfold ee;rcases B with rfl|rfl
    all_goals simp only[Kb,Int.reduceEq,xC,sC,cz,bu,K,vP,fu,aJ]
   rcases B with rfl|rfl
   all_goals
    unfold Ka J9;simp only[L,M,J,I,qB,bu,ik,eqP,LQ,Int.reduceEq,xC,sC,bsP,fu,l7,cTP,cFP,C,K];exact .ret (same _)
  .obtain⟨m1,m2⟩:=kx.1 K;rw[show aa .sub .i64 (bw s) 1=(s.length:Int)-1 from vm (by unfold bw;omega) (by have:=u.ls;unfold bw;omega)]at m2;obtain⟨m,rfl⟩:∃m:Nat,w=(m:Int):=⟨w.toNat,by omega⟩
   have z:m<s.length:=by omega
   have H:CmR (Tx s) a0 a1 a2 a3 a4 a5 a6 a7 a8 a9 (zg a0 a1 a2 a3 a4 a5 a6 a7 a8 a9 a10 s p g j a m b c d e f i k l o q) (ee a0 a1 a2 a3 a4 a5 a6 a7 a8 a9 a10 s p g j a m b c d e f i k l o q):=by
    rcases B with rfl|rfl
    .exact ap4 _ a0 a1 a2 a3 a4 a5 a6 a7 a8 a9 a10 s p g j A b c d e f i k l o q z
    .exact ap5 a0 a1 a2 a3 a4 a5 a6 a7 a8 a9 a10 s p g j m b c d e f i k l o q _ A r z
   obtain⟨code,t,G,F,D,E,S,R,Q,O,P,N,C,h⟩:=H;rcases B with rfl|rfl
   all_goals
    unfold Ka J9;simp only[L,M,J,I,qB,bu,ik,eqP,LQ,Int.reduceEq,xC,sC,bsP,fu,l7,cTP,cFP,N,C,K];exact T h
end
end Go.Fn
namespace Go.Fn
open Go.R
abbrev Cmd:=Int×Int×Int×Int×ByteArray×Int×Int×Int×Int×Int×Int×Bool
abbrev aiJ:Cmd:=kC
def Ex{α:Type}(P:α->Prop)(x:Option α):Prop:=∃r,x=some r/\P r
def exT{α:Type}{P:α->Prop}{b:Bool}{x y:Option α}(a:b=true)(h:Ex P x):Ex P (bif b then x else y):=by rw[a];exact h
def exF{α:Type}{P:α->Prop}{b:Bool}{x y:Option α}(a:b=false)(h:Ex P y):Ex P (bif b then x else y):=by rw[a];exact h
def exL{α a:Type}{P:α->Prop}{v:List a}{f:List a->Option α}{m:Nat}(b:v.length=m)(h:∀v:List a,v.length=m->Ex P (f v)):Ex P (lets v f):=h v b
def exV{α a:Type}{P:α->Prop}{v:a}{f:a->Option α}(h:Ex P (f v)):Ex P (lets v f):=h
def exW{α a:Type}{P:α->Prop}{v w:a}{f:a->Option α}(b:v=w)(h:Ex P (f w)):Ex P (lets v f):=by rw[b];exact h
def exB{α a:Type}{P:α->Prop}{Q:a->Prop}{x:Option a}{f:a->Option α}(c:Ex Q x)(h:∀r,Q r->Ex P (f r)):Ex P (x.bind f):=by obtain⟨r,rfl,b⟩:=c;exact h r b
def af1{X Y:Type}{body:X->Option (X⊕Y)}(c:X->Prop)(m:X->Nat){Q:Y->Prop}(h:∀x,c x->Ex (λr=>match r with |.inl a=>c a/\m a<m x |.inr b=>Q b) (body x))(d:Nat)(x:X)(g:c x)(i:m x<d):Ex Q (iter body d x):=by obtain⟨r,e,_,f⟩:=S8 (body:=body) (body':=body) c m (Q:=Q) (λx j=>by obtain⟨r,e,f⟩:=h x j;exact⟨r,e,e,f⟩) d x g i;exact⟨r,e,f⟩
def aeu(q:Int)(l:q<=1000000000000000):Ex (λ_=>True) (QV q):=by
 unfold QV;cases g:ak .leq q 0
 .refine exF rfl (exB (Q:=λy=>match y with |.inl y=>y.1.size<=20 |.inr _=>True) ?_ λr h=>?_)
  .have g:¬q<=0:=zc g;refine af1 (λx=>0<=x.1/\x.1<=1000000000000000/\∃j,x.1<10 ^ j/\x.2.1.size+j<=20) (λx=>x.1.toNat) (λx o=>?_) big _ ⟨by show 0<=q;omega,l,16,by show q<_;omega,by show 0+16<=20;omega⟩ (by rw[show big=4611686018427387904 from rfl];show q.toNat<_;omega);obtain⟨n,t,u⟩:=x;obtain⟨b,d,j,a,i⟩:=o;have b:0<=n:=b;have d:n<=1000000000000000:=d;have i:t.size+j<=20:=i;have a:n<10 ^ j:=a;unfold V1;cases f:ak .gtr n 0
   .refine exF rfl ⟨_,rfl,?_⟩;show t.size<=20;omega
   .refine exT rfl (exF rfl ?_);have f:n>0:=bR f;obtain⟨m,rfl⟩:∃m:Nat,n=(m:Int):=⟨n.toNat,by omega⟩
    have k:∀c:Int,(nT (List.append (α:=Int) ([]:List Int) [c])).size=1:=λc=>rfl;refine exT (by unfold lz;rw[k];exact xD (by omega)) (exF rfl ⟨_,rfl,?_⟩);rw[ajZ (by omega)];cases j with
    |zero=>simp at a;omega
    |succ j=>
     refine⟨⟨by show(0:Int)<=((m / 10:Nat):Int);omega,by show((m / 10:Nat):Int)<=_;omega,j,?_,?_⟩,?_⟩
     .show((m / 10:Nat):Int)<10 ^ j;rw[Int.pow_succ]at a;omega
     .show(ByteArray.append (nT _) t).size+j<=20;have:(ByteArray.append (nT (List.append (α:=Int) ([]:List (Int)) [(eo .u8 (aa .add .i64 (48:Int) (aa .rem .i64 (m:Int) (10:Int))))])) t).size=1+t.size:=by rw[<-k (eo .u8 (aa .add .i64 (48:Int) (aa .rem .i64 (m:Int) (10:Int))))];exact ahD
      rw[this];omega
     .show((m / 10:Nat):Int).toNat<((m:Nat):Int).toNat;omega
  .cases r with
   |inr e=>exact e.elim
   |inl y=>exact exT (by unfold lz;exact xD (by have:(ByteArray.mk #[109]).size=1:=rfl;rw[this];have h:y.1.size<=20:=h;omega)) ⟨_,rfl,trivial⟩
 .exact exT rfl ⟨_,rfl,trivial⟩
def acp(l:List Cmd)(c:l.length<=1073741824):NL l=some (l,()):=by
 unfold NL;rw[C3 c];have e:nw (bw l) ((0:Int),(0:Int),(0:Int),(0:Int),(ByteArray.mk #[]),(0:Int),(0:Int),(0:Int),(0:Int),(0:Int),(0:Int),false)=List.replicate l.length aiJ:=EH _ _;rw[e];have a:Lt (l,()) (List.replicate l.length aiJ,(0:Int),())=some (Sum.inl (l,())):=by
  have:=lc (body:=Ls (l,())) (λn=>(l.take n++List.replicate (l.length-n) aiJ,(n:Int),())) l.length (by omega) (Sum.inl (l,())) (λn b=>?_) ?_
  .unfold Lt;simpa using this
  .unfold Ls TY Pp;have d:n<(l.take n++List.replicate (l.length-n) aiJ).length:=by rw[DF _ _ (ed b)];exact b
   simp only[bP,dX,b,d,xC,aJ,cw,vP,jE,eW (n:=n) (by omega),jt];rw[<-DP l aiJ b]
  .unfold Ls;simp only[bP,iO,sC,cz,sA,YK,e9,eL]
 rw[aJ,a];rfl
def aiy(x:ByteArray):wW .neq x x=false:=by simp[wW]
def aaZ(l:List Cmd)(c:l.length<=1073741824):NG l l=some (true,()):=by
 unfold NG;rw[F0];have a:N0 (l,l,()) ((0:Int),())=some (Sum.inr (Sum.inl ())):=by
  refine lc (λn=>((n:Int),())) l.length (by omega) _ (λn b=>?_) ?_
  .unfold NZ TS;simp only[bP,dX,b,xC,aJ,cz,F0,aiy,Zn,vP,l7,eW (n:=n) (by omega)]
  .unfold NZ;simp only[bP,iO,sC,cz]
 simp only[cz];rw[a];rfl
def aco(l:List Cmd)(b:Int)(g:l.length<=9223372036854775807)(d:0<=b)(f:b<=1048576):Ex (λr=>ak .lss r.1 0=false->(l.length:Int)<=b) (NJ l b):=by
 unfold NJ;have e:aa .sub .i64 b (bw l)=b-(l.length:Int):=vm (by unfold bw;omega) (by unfold bw;omega);rw[e];cases a:ak .lss (b-(l.length:Int)) 0
 .have a:¬b-(l.length:Int)<0:=zc a;refine exF rfl (exB (Q:=λ_=>True) ?_ λr _=>?_)
  .obtain⟨r,e,_,_⟩:=Qp (body:=Ks (l,())) (body':=Ks (l,())) l.length (by omega) (Q:=λ_=>True) (λ_ _=>True) (λb n c _=>by
    unfold Ks TW;simp only[bP,dX,c,xC,aJ,eW (n:=n) (by omega)];cases ak .lss (aa .sub .i64 b (ByteArray.size (ae kC l (n:Int)).2.2.2.2.1:Int)) 0
    .simp only[cz,vP];cases ak .lss (aa .sub .i64 b (ByteArray.size (ae kC l (n:Int)).2.2.2.2.1:Int)) 0
     .exact .ret ⟨trivial,rfl⟩
     .exact .ret trivial
    .exact .ret trivial) (λb _=>by
    unfold Ks;simp only[bP,iO,sC,cz];exact .ret trivial) (b-(l.length:Int)) trivial
   exact⟨r,e,trivial⟩
  .rcases r with r|r|r
   .exact⟨_,rfl,λ_=>by omega⟩
   .exact⟨_,rfl,λ_=>by omega⟩
   .exact r.elim
 .exact exT rfl ⟨_,rfl,λh=>by cases h⟩
def ZT{α:Type}{l:List α}{m:Nat}(h:l.length=m)(i:Int)(y:α):(cS l i y).length=m:=by unfold cS;rw[gf];exact h
def inQ{α:Type}{l:List α}{n m:Nat}(h:l.length=m)(a:n<m):aZ l (n:Int)=true:=by rw[dX,h];exact xD a
def acJ{m n:Nat}{k q:Int}(b:n<m)(a:m<=1048576)(c:0<=q)(d:q<=k+12*(n:Int)):(0<=aa .add .i64 (n:Int) 1/\aa .add .i64 (n:Int) 1<=(m:Int)/\0<=q+12/\q+12<=k+12*aa .add .i64 (n:Int) 1)/\((m:Int)-aa .add .i64 (n:Int) 1).toNat<((m:Int)-(n:Int)).toNat:=by rw[eW (n:=n) (by omega)];exact⟨⟨by omega,by omega,by omega,by omega⟩,by omega⟩
def aa6(l:List Cmd)(k:Int)(t:l.length<=1048576)(J:0<=k)(N:k<=500000000000000):Ex (λr=>ak .lss r.1 0=false) (LW l k):=by
 unfold LW;refine exB (Q:=λy=>match y with |.inl y=>0<=y.2.1 |.inr _=>True) ?_ λr v=>?_
 .refine af1 (λx:List Cmd×Int×Int×Unit=>x.1.length=l.length/\0<=x.2.2.1/\x.2.2.1<=(l.length:Int)/\0<=x.2.1/\x.2.1<=k+12*x.2.2.1) (λx=>((l.length:Int)-x.2.2.1).toNat) (λx K=>?_) big _ ⟨rfl,uq _,by show(0:Int)<=(l.length:Int);omega,J,by show k<=k+12*0;omega⟩ (i7 (by show((l.length:Int)-0).toNat<_;omega));obtain⟨L,q,i,u⟩:=x;obtain⟨b,z,A,d,f⟩:=K;have b:L.length=l.length:=b;have z:0<=i:=z;have A:i<=(l.length:Int):=A;have d:0<=q:=d;have f:q<=k+12*i:=f;obtain⟨n,rfl⟩:∃n:Nat,i=(n:Int):=⟨i.toNat,by omega⟩
  unfold Rv;by_cases c:n<l.length
  .have a:∀(p m:Int),0<=p->p<=1000000000000000->m=p+1->aa .add .i64 p 1=m:=λp m h M e=>(sO (by omega) (by omega)).trans e.symm;have g:=a q (q+1) (by omega) (by omega) rfl;have j:=a (q+1) (q+2) (by omega) (by omega) (by omega);have o:=a (q+2) (q+3) (by omega) (by omega) (by omega);have s:=a (q+3) (q+4) (by omega) (by omega) (by omega);have B:=a (q+4) (q+5) (by omega) (by omega) (by omega);have C:=a (q+5) (q+6) (by omega) (by omega) (by omega);have D:=a (q+6) (q+7) (by omega) (by omega) (by omega);have E:=a (q+7) (q+8) (by omega) (by omega) (by omega);have F:=a (q+8) (q+9) (by omega) (by omega) (by omega);have G:=a (q+9) (q+10) (by omega) (by omega) (by omega);have H:=a (q+10) (q+11) (by omega) (by omega) (by omega);have I:=a (q+11) (q+12) (by omega) (by omega) (by omega);refine exT (by show ak .lss (n:Int) (bw L)=true;rw[bP,b];exact xD c) ?_;iterate 4 (refine exT (inQ b c) (exL (ZT b _ _) λL b=>?_))
   refine exB (aeu _ (by dsimp only;rw[g,j,o,s];omega)) λy _=>?_;iterate 2 (refine exT (inQ b c) (exL (ZT b _ _) λL b=>?_))
   refine exW (w:=q+6) (by dsimp only;rw[g,j,o,s,B,C]) ?_;iterate 5 (refine exT (inQ b c) (exL (ZT b _ _) λL b=>?_))
   refine exF rfl (exV ?_);refine exT (inQ b c) (exL (ZT b _ _) λL b=>?_);refine exW (w:=q+12) (by rw[D,E,F,G,H,I]) ⟨_,rfl,?_⟩;show(L.length=l.length/\0<=aa .add .i64 (n:Int) 1/\aa .add .i64 (n:Int) 1<=(l.length:Int)/\0<=q+12/\q+12<=k+12*aa .add .i64 (n:Int) 1)/\((l.length:Int)-aa .add .i64 (n:Int) 1).toNat<((l.length:Int)-(n:Int)).toNat;exact⟨⟨b,(acJ c t d f).1⟩,(acJ c t d f).2⟩
  .have:n=l.length:=by omega
   subst this;refine exF (by show ak .lss (l.length:Int) (bw L)=false;rw[bP,b];exact zb (iO _)) ⟨_,rfl,d⟩
 .rcases r with r|r
  .exact⟨_,rfl,zb (by have v:0<=r.2.1:=v;show ¬r.2.1<0;omega)⟩
  .exact r.elim
abbrev Rk(T:Type):=Int×Int×Int×Int×Int×Int×Int×Int×Int×Int×Int×List Site×List NE×List Ou×List Ev×T
def aeH{X X' Y Y':Type}{b:X->Option (X⊕Y)}{d:X'->Option (X'⊕Y')}(R:Nat->X->X'->Prop)(Q:Y->Y'->Prop)(m:Nat)(i:∀n x a,n<m->R n x a->∃y c,b x=some (.inl y)/\d a=some (.inl c)/\R (n+1) y c)(g:∀x a,R m x a->∃y c,b x=some (.inr y)/\d a=some (.inr c)/\Q y c):
  ∀(k n:Nat) (x:X) (a:X'),n+k=m->R n x a->∃y c,iter b (k+1) x=some y/\iter d (k+1) a=some c/\Q y c
 |0,n,x,a,h,r=>by obtain rfl:n=m:=h;obtain⟨y,c,e,f,q⟩:=g x a r;exact⟨y,c,cJ e,cJ f,q⟩
 |k+1,n,x,a,h,r=>by obtain⟨y,c,e,f,q⟩:=i n x a (by omega) r;rw[fz e,fz f];exact aeH R Q m i g k (n+1) y c (by omega) q
def afF{l:List Int}(h:l.length<=1000)(c:Int):dF (List.append (α:=Int) l (List.append (α:=Int) ([]:List Int) [c]))=true:=by unfold dF limit;have:(List.append (α:=Int) l (List.append (α:=Int) ([]:List Int) [c])).length=l.length+1:=jv;rw[this];exact xD (by omega)
section
variable (a0 a1 a2 a3 a4 a5 a6 a7 a8 a9:Int)
def aiX(n:Nat)(x:Rk (List Int×Rk (Int×Unit)))(y:Rk (Rk (List Int×Int×Unit))):Prop:=∃t S P G J a,x.2.2.2.2.2.2.2.2.2.2.2.2.2.2.2=(a,a0,a1,a2,a3,a4,a5,a6,a7,a8,a9,t,S,P,G,J,(n:Int),())/\y.2.2.2.2.2.2.2.2.2.2.2.2.2.2.2=(a0,a1,a2,a3,a4,a5,a6,a7,a8,a9,t,S,P,G,J,a,(n:Int),())/\Pw S P G J/\KZ S P G J<=137438953471/\a.length=n
def alm(x:Rk (List Int×Rk Unit)⊕Empty)(y:Rk (Rk (List Int×Unit))⊕Empty):Prop:=∃u v t S P G J a,x=.inl u/\y=.inl v/\u.2.2.2.2.2.2.2.2.2.2.2.2.2.2.2=(a,a0,a1,a2,a3,a4,a5,a6,a7,a8,a9,t,S,P,G,J,())/\v.2.2.2.2.2.2.2.2.2.2.2.2.2.2.2=(a0,a1,a2,a3,a4,a5,a6,a7,a8,a9,t,S,P,G,J,a,())/\Pw S P G J/\KZ S P G J<=137438953471/\a.length<=100
def ait(l:List Cmd)(B:l.length<=100)(n:Nat)(x:Rk (List Int×Rk (Int×Unit)))(y:Rk (Rk (List Int×Int×Unit)))(m:n<l.length)(h:aiX a0 a1 a2 a3 a4 a5 a6 a7 a8 a9 n x y):
  ∃p q,Kw (l,()) x=some (.inl p)/\Kq (l,bw l,()) y=some (.inl q)/\aiX a0 a1 a2 a3 a4 a5 a6 a7 a8 a9 (n+1) p q:=by
 obtain⟨t,S,P,G,J,a,w,z,j,v,A⟩:=h;obtain⟨r,s,u,k,g,f,d,e,code,rfl,b,i⟩:=ahF a0 a1 a2 a3 a4 a5 a6 a7 a8 a9 t S P G J j v (ae kC l (n:Int)).1 (ae kC l (n:Int)).2.1 (ae kC l (n:Int)).2.2.1 (ae kC l (n:Int)).2.2.2.1 (ae kC l (n:Int)).2.2.2.2.1 (ae kC l (n:Int)).2.2.2.2.2.1 (ae kC l (n:Int)).2.2.2.2.2.2.1 (ae kC l (n:Int)).2.2.2.2.2.2.2.1 (ae kC l (n:Int)).2.2.2.2.2.2.2.2.1 (ae kC l (n:Int)).2.2.2.2.2.2.2.2.2.1 (ae kC l (n:Int)).2.2.2.2.2.2.2.2.2.2.1 (ae kC l (n:Int)).2.2.2.2.2.2.2.2.2.2.2;have o:=afF (l:=a) (by omega) code;have c:(List.append (α:=Int) a (List.append (α:=Int) ([]:List Int) [code])).length=n+1:=by have:(List.append (α:=Int) a (List.append (α:=Int) ([]:List Int) [code])).length=a.length+1:=jv;omega
 refine⟨(x.1,x.2.1,x.2.2.1,x.2.2.2.1,x.2.2.2.2.1,x.2.2.2.2.2.1,x.2.2.2.2.2.2.1,x.2.2.2.2.2.2.2.1,x.2.2.2.2.2.2.2.2.1,x.2.2.2.2.2.2.2.2.2.1,x.2.2.2.2.2.2.2.2.2.2.1,x.2.2.2.2.2.2.2.2.2.2.2.1,x.2.2.2.2.2.2.2.2.2.2.2.2.1,x.2.2.2.2.2.2.2.2.2.2.2.2.2.1,x.2.2.2.2.2.2.2.2.2.2.2.2.2.2.1,List.append (α:=Int) a (List.append (α:=Int) ([]:List Int) [code]),a0,a1,a2,a3,a4,a5,a6,a7,a8,a9,k,g,f,d,e,((n+1:Nat):Int),()),(y.1,y.2.1,y.2.2.1,y.2.2.2.1,y.2.2.2.2.1,y.2.2.2.2.2.1,y.2.2.2.2.2.2.1,y.2.2.2.2.2.2.2.1,y.2.2.2.2.2.2.2.2.1,y.2.2.2.2.2.2.2.2.2.1,y.2.2.2.2.2.2.2.2.2.2.1,y.2.2.2.2.2.2.2.2.2.2.2.1,y.2.2.2.2.2.2.2.2.2.2.2.2.1,y.2.2.2.2.2.2.2.2.2.2.2.2.2.1,y.2.2.2.2.2.2.2.2.2.2.2.2.2.2.1,a0,a1,a2,a3,a4,a5,a6,a7,a8,a9,k,g,f,d,e,List.append (α:=Int) a (List.append (α:=Int) ([]:List Int) [code]),((n+1:Nat):Int),()),?_,?_,k,g,f,d,e,_,rfl,rfl,b,i,c⟩
 .unfold Kw;simp only[w,bP,dX,m,xC,aJ,s,vP,o,eW (n:=n) (by omega)]
 .unfold Kq;simp only[z,bP,dX,m,xC,aJ,u,vP,o,eW (n:=n) (by omega)]
def ajA(l:List Cmd)(j:l.length<=100)(x:Rk (List Int×Rk (Int×Unit)))(y:Rk (Rk (List Int×Int×Unit)))(h:aiX a0 a1 a2 a3 a4 a5 a6 a7 a8 a9 l.length x y):
  ∃c d,Kw (l,()) x=some (.inr c)/\Kq (l,bw l,()) y=some (.inr d)/\alm a0 a1 a2 a3 a4 a5 a6 a7 a8 a9 c d:=by
 obtain⟨t,S,P,G,J,a,f,g,b,e,i⟩:=h;refine⟨.inl (x.1,x.2.1,x.2.2.1,x.2.2.2.1,x.2.2.2.2.1,x.2.2.2.2.2.1,x.2.2.2.2.2.2.1,x.2.2.2.2.2.2.2.1,x.2.2.2.2.2.2.2.2.1,x.2.2.2.2.2.2.2.2.2.1,x.2.2.2.2.2.2.2.2.2.2.1,x.2.2.2.2.2.2.2.2.2.2.2.1,x.2.2.2.2.2.2.2.2.2.2.2.2.1,x.2.2.2.2.2.2.2.2.2.2.2.2.2.1,x.2.2.2.2.2.2.2.2.2.2.2.2.2.2.1,a,a0,a1,a2,a3,a4,a5,a6,a7,a8,a9,t,S,P,G,J,()),.inl (y.1,y.2.1,y.2.2.1,y.2.2.2.1,y.2.2.2.2.1,y.2.2.2.2.2.1,y.2.2.2.2.2.2.1,y.2.2.2.2.2.2.2.1,y.2.2.2.2.2.2.2.2.1,y.2.2.2.2.2.2.2.2.2.1,y.2.2.2.2.2.2.2.2.2.2.1,y.2.2.2.2.2.2.2.2.2.2.2.1,y.2.2.2.2.2.2.2.2.2.2.2.2.1,y.2.2.2.2.2.2.2.2.2.2.2.2.2.1,y.2.2.2.2.2.2.2.2.2.2.2.2.2.2.1,a0,a1,a2,a3,a4,a5,a6,a7,a8,a9,t,S,P,G,J,a,()),?_,?_,_,_,t,S,P,G,J,a,rfl,rfl,rfl,rfl,b,e,by omega⟩
 .unfold Kw;simp only[f,bP,iO,sC,cz]
 .unfold Kq;simp only[g,bP,iO,sC,cz]
def alk(r:Rk (List Int×Unit)):Prop:=∃t S P G J a,r=(a0,a1,a2,a3,a4,a5,a6,a7,a8,a9,t,S,P,G,J,a,())/\Pw S P G J/\KZ S P G J<=137438953471/\a.length<=100
def akX(a:Int)(s:List Site)(p:List NE)(g:List Ou)(j:List Ev)(b:Pw s p g j)(k:KZ s p g j<=137438953471)(l:List Cmd)(H:l.length<=1048576):Sm (alk a0 a1 a2 a3 a4 a5 a6 a7 a8 a9) (NS a0 a1 a2 a3 a4 a5 a6 a7 a8 a9 a s p g j l) (Lx a0 a1 a2 a3 a4 a5 a6 a7 a8 a9 a s p g j l):=by
 have i:=aaT a0 a1 a2 a3 a4 a5 a6 a7 a8 a9 a s p g j b;have f:=aaM a0 a1 a2 a3 a4 a5 a6 a7 a8 a9 a s p g j b;obtain⟨⟨v,_⟩,o,q,m⟩:=acK a0 a1 a2 a3 a4 a5 a6 a7 a8 a9 a s p g j b;have same:alk a0 a1 a2 a3 a4 a5 a6 a7 a8 a9 (a0,a1,a2,a3,a4,a5,a6,a7,a8,a9,a,s,p,g,j,[],()):=⟨_,_,_,_,_,_,rfl,b,k,kR _⟩
 unfold NS Lx;cases v
 .simp only[o,q,i,f,vP,fu,aJ];exact .ret same
 simp only[o,q,i,f,vP,l7,cz];cases c:ak .gtr (bw l) 100
 .have d:l.length<=100:=by
   have:=zc c;unfold bw at this;omega
  obtain⟨x,y,r,w,u,v,t,S,P,G,J,e,rfl,rfl,E,F,B,C,D⟩:=aeH (aiX a0 a1 a2 a3 a4 a5 a6 a7 a8 a9) (alm a0 a1 a2 a3 a4 a5 a6 a7 a8 a9) l.length (λn x y m h=>ait a0 a1 a2 a3 a4 a5 a6 a7 a8 a9 l d n x y m h) (λx y h=>ajA a0 a1 a2 a3 a4 a5 a6 a7 a8 a9 l d x y h) l.length 0
   (0,0,0,0,0,0,0,0,0,0,0,[],[],[],[],[],a0,a1,a2,a3,a4,a5,a6,a7,a8,a9,a,s,p,g,j,0,()) (0,0,0,0,0,0,0,0,0,0,0,[],[],[],[],a0,a1,a2,a3,a4,a5,a6,a7,a8,a9,a,s,p,g,j,[],0,()) (by omega) ⟨a,s,p,g,j,[],rfl,rfl,b,k,rfl⟩
  have z:N7 (l,()) (0,0,0,0,0,0,0,0,0,0,0,[],[],[],[],[],a0,a1,a2,a3,a4,a5,a6,a7,a8,a9,a,s,p,g,j,0,())=_:=gP r (i7 (by omega));have A:NY (l,bw l,()) (0,0,0,0,0,0,0,0,0,0,0,[],[],[],[],a0,a1,a2,a3,a4,a5,a6,a7,a8,a9,a,s,p,g,j,[],0,())=_:=gP w (i7 (by omega));simp only[z,A,cz,vP,zd,E,F];exact .ret ⟨_,_,_,_,_,_,rfl,B,C,D⟩
 .simp only[aJ];exact .ret same
def aey(s:List Site)(p:List NE)(g:List Ou)(j:List Ev)(k:Int):nmE k s p g j<=k+KZ s p g j:=by obtain⟨a,b,c⟩:=adF s p g k;unfold nmE KZ;omega
def aiu(c:Int)(s:List Site)(p:List NE)(g:List Ou)(j:List Ev)(l:List Cmd)(h:ain s p g j)(E:l.length<=9223372036854775807):Ln a0 a1 a2 a3 a4 a5 a6 a7 a8 a9 c s p g j l=some (true,()):=by
 unfold Ln;obtain⟨b,o,x⟩:=adS a0 a1 a2 a3 a4 a5 a6 a7 a8 a9 c s p g j 1048576 h (by decide) (by decide);refine(YA o).trans ?_;rcases x with rfl|⟨i,v,d⟩
 .rfl
 refine(cF (Jk i)).trans ?_;obtain⟨⟨z,_⟩,B,C⟩:=aco l b E i v;refine(YA B).trans ?_;cases F:ak .lss z 0
 .have q:l.length<=1048576:=by have:=C F;omega
  refine(cF rfl).trans ?_;have U:=ajG a0 a1 a2 a3 a4 a5 a6 a7 a8 a9 c s p g j 1048576 b h (by decide) (by decide) o i d;have t:=adV a0 a1 a2 a3 a4 a5 a6 a7 a8 a9 c s p g j d;have u:=acp l (by omega);have e:=Xs a0 a1 a2 a3 a4 a5 a6 a7 a8 a9 c s p g j d;have y:=aaZ l (by omega);have k:=XO a0 a1 a2 a3 a4 a5 a6 a7 a8 a9 c s p g j 1 d (by decide) (by omega);have X:=abQ s p g j 1 (by decide);have W:=aey s p g j 1;obtain⟨⟨M,Y⟩,m1,m2⟩:=aa6 l (nmE 1 s p g j) q (by omega) (by omega);obtain⟨r,T,H,n,S,P,G,J,a,rfl,f,V,D⟩:=akX a0 a1 a2 a3 a4 a5 a6 a7 a8 a9 c s p g j d (by omega) l q;have w:=Xs a0 a1 a2 a3 a4 a5 a6 a7 a8 a9 n S P G J f;have I:=XO a0 a1 a2 a3 a4 a5 a6 a7 a8 a9 n S P G J 1 f (by decide) (by omega);have N:=abC a0 a1 a2 a3 a4 a5 a6 a7 a8 a9 n S P G J 1 f (by decide) (by omega);have m:=abQ S P G J 1 (by decide);have K:=aey S P G J 1;have A:=aaJ a (by omega);have L:=aaP a (nmE 1 S P G J) (by omega) (by omega) (by omega);have O:=aaL a.length (nmE 1 S P G J) (by omega) (by omega) (by omega);have m2:ak .lss M 0=false:=m2;have Q:=Jk m;have R:ak .lss ((nmE 1 S P G J)+(a.length:Int)) 0=false:=Jk (by omega);simp only[t,u,T,H,e,w,y,k,I,N,A,L,O,m1,m2,Q,R,vP,F0,l7,cz]
 .rfl
end
end Go.Fn

