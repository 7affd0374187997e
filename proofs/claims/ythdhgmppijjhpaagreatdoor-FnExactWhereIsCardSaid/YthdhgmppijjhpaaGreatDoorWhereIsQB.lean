import Derived.Test.YthdhgmppijjhpaaGreatDoorWhereIsQA
/- Plain functions that stand for Go functions, and what they answer. Conditions: none. -/
set_option autoImplicit false
set_option linter.unusedVariables false
set_option linter.unusedSimpArgs false
set_option linter.unusedVariables false
set_option linter.unusedSimpArgs false
namespace Go.Fn
open Go.R
noncomputable def Jj(ok:Nat->Bool):Nat->Nat->Option Nat
 |_,0=>none
 |i,k+1=>bif ok i then Jj ok (i+1) k else some i
theorem LQ{ok:Nat->Bool}:∀(k i n:Nat),Jj ok i k=some n->i<=n/\n<i+k/\ok n=false
 |0,_,_,h=>by cases h
 |k+1,i,n,h=>by
  unfold Jj at h;cases hi:ok i with
  |true=>rw[hi]at h;obtain⟨h1,h2,h3⟩:=LQ k (i+1) n h;exact⟨by omega,by omega,h3⟩
  |false=>
   rw[hi]at h;injection h with h
   subst h;exact⟨Nat.le_refl _,by omega,hi⟩
theorem Lt{X Y:Type}{body:X->Option (X⊕Y)}(st:Nat->X)(len:Nat)(hlen:len<1099511627776)(ok:Nat->Bool)(yes:Y)(no:Nat->Y)(hstep:∀n,n<len->body (st n)=some (bif ok n then .inl (st (n+1))else .inr (no n)))(hend:body (st len)=some (.inr yes)):
  iter body big (st 0)=some (match Jj ok 0 len with|some n=>no n|none=>yes):=by
 have key:∀(k n:Nat),n+k=len->iter body (k+1) (st n)=some (match Jj ok n k with|some n=>no n|none=>yes):=by
  intro k;induction k with
  |zero=>
   intro n hn;have:n=len:=by omega
   subst this;exact av hend
  |succ k ih=>
   intro n hn;have h:=hstep n (by omega);unfold Jj;cases hk:ok n with
   |true=>rw[hk]at h;rw[aF h];exact ih (n+1) (by omega)
   |false=>rw[hk]at h;exact av h
 have h:=key len 0 (Nat.zero_add _);exact bh h (by have:len<big:=aN hlen;omega)
noncomputable def QO(l:List Bx)(p:Int)(n:Nat):Bool:=Bool.not (af .eql (l.getD n fe).2.2.1 p)
noncomputable def Mi(l:List Bx)(p:Int):Option Nat:=Jj (QO l p) 0 l.length
noncomputable def NG:Option Nat->Int
 |some n=>(n:Int)
 |none=>-1
theorem OV(h:Int)(f:List Int)(l:List Bx){p:Int}(hl:l.length<=1073741824)(hp:1<=p):j0 h f l p=some (NG (Mi l p),()):=by
 unfold j0;have e:af .gtr p 0=true:=by simp only[af,gt_iff_lt,decide_eq_true_eq];omega
 have:=Lt (body:=hD (p,h,f,l,())) (fun n=>((n:Int),())) l.length (by omega) (QO l p) (Sum.inr (Sum.inl ())) (fun n=>Sum.inl ((n:Int),())) (fun n hn=>by
  unfold hD QO;simp only[aj,ax,hn,decide_true,cond_true,ak,au (n:=n) (by omega),e];cases af .eql (l.getD n fe).2.2.1 p <;> rfl) (by
  unfold hD;simp only[aj,Nat.lt_irrefl,decide_false,cond_false])
 have h1:IC (p,h,f,l,()) ((0:Int),())=_:=this;rw[h1];unfold Mi;cases Jj (QO l p) 0 l.length <;> rfl
theorem Nv(h:Int)(f:List Int)(l:List Bx)(p:Int)(hl:l.length<=1073741824):Kc h f l p=some (NG (Mi l p),()):=by
 unfold Kc ec;have:=Lt (body:=b8 (l,p,ai l,())) (fun n=>((n:Int),())) l.length (by omega) (QO l p) (Sum.inr (Sum.inl ())) (fun n=>Sum.inl ((n:Int),())) (fun n hn=>by
  unfold b8 Lo QO;simp only[aj,ax,hn,decide_true,cond_true,ak,au (n:=n) (by omega),Option.bind_some];cases af .eql (l.getD n fe).2.2.1 p <;> rfl) (by
  unfold b8;simp only[aj,Nat.lt_irrefl,decide_false,cond_false])
 have h1:ea (l,p,ai l,()) ((0:Int),())=_:=this;rw[h1];unfold Mi;cases Jj (QO l p) 0 l.length <;> rfl
theorem OA(o:Option Nat):af .geq (NG o) 0=o.isSome:=by
 cases o with
 |none=>rfl
 |some n=>show decide ((n:Int)>=0)=true;exact decide_eq_true (by omega)
theorem O5{l:List Bx}(h:∀n,n<l.length->OP l n=true):∀n,n<=l.length->0<=hU l n/\hU l n<=24
 |0,_=>⟨Int.le_refl _,by show(0:Int)<=24;decide⟩
 |n+1,hn=>by
  have ih:=O5 h n (by omega);have ho:=h n (by omega);unfold OP at ho;simp only[Bool.and_eq_true]at ho;have hs:=gg.1 ho.1.1.1.2;have e:=IR l (show n<l.length by omega);rw[bU (by omega) (by omega)]at e;have hg:¬(hU l (n+1)>24):=by have:=ho.2;rw[Bool.not_eq_true']at this;exact of_decide_eq_false this
  omega
theorem QM{l:List Bx}(h:∀n,n<l.length->OP l n=true){n:Nat}(hn:n<l.length):0<=(l.getD n fe).1/\(l.getD n fe).1<=24:=by
 have ho:=h n hn;have hp:=O5 h n (by omega);unfold OP at ho;simp only[Bool.and_eq_true]at ho;have he:=ho.1.1.1.1;rw[Bool.not_eq_true']at he;have:(ej l n).1=hU l n:=by have:((ej l n).1 != hU l n)=false:=he;simpa using this
 have hb:ej l n=l.getD n fe:=rfl;rw[<-hb];omega
noncomputable def OQ(L:List Mj)(p:Int):Option Nat:=Jj (fun i=>(Mi (L.getD i bn).2.2 p).isNone) 0 L.length
noncomputable def MC(L:List Mj)(p:Int):Int×Int:=bif tW L then(match OQ L p with
 |some i=>((i:Int),((L.getD i bn).2.2.getD ((Mi (L.getD i bn).2.2 p).getD 0) fe).1)
 |none=>(-1,-1))else(-1,-1)
theorem O4{l:List Bx}{p:Int}{n:Nat}(h:Mi l p=some n):n<l.length:=by have:=(LQ _ _ _ h).2.1;omega
theorem NZ(L:List Mj){p:Int}(hw:Ji L)(hp:1<=p):Lw L p=some ((MC L p).1,(MC L p).2,()):=by
 have hL:=hw.1;unfold Lw MC;cases hb:tW L with
 |false=>
  have:I9 (L,p,()) (0,())=some (.inr (.inl ())):=by refine bh (n:=1) (av ?_) (Nat.le_of_lt (aN (by omega)));unfold qB;rw[L0 L hw,hb];cases af .lss (0:Int) (ai L) <;> rfl
  rw[this];rfl
 |true=>
  have:=Lt (body:=qB (L,p,())) (fun n=>((n:Int),())) L.length (by omega) (fun i=>(Mi (L.getD i bn).2.2 p).isNone) (Sum.inr (Sum.inl ())) (fun i=>Sum.inl ((i:Int),((L.getD i bn).2.2.getD ((Mi (L.getD i bn).2.2 p).getD 0) fe).1,())) (fun n hn=>by
   have hc:=hw.at hn;unfold qB;have hx:=OV (L.getD n bn).1 (L.getD n bn).2.1 (L.getD n bn).2.2 (p:=p) hc.2 hp;simp only[aj,ax,hn,decide_true,cond_true,ak,au (n:=n) (by omega),L0 L hw,hb,hx,Option.bind_some,OA];cases hi:Mi (L.getD n bn).2.2 p with
   |none=>rfl
   |some m=>
    have hm:=O4 hi;have hin:ah (L.getD n bn).2.2 (NG (some m))=true:=by unfold NG;rw[ax];exact decide_eq_true hm
    simp only[Option.isSome_some,Option.isNone_some,cond_true,cond_false,hin];unfold NG;rw[ak];rfl) (by
   unfold qB;simp only[aj,Nat.lt_irrefl,decide_false,cond_false])
  have h1:I9 (L,p,()) ((0:Int),())=_:=this;rw[h1];unfold OQ;cases Jj (fun i=>(Mi (L.getD i bn).2.2 p).isNone) 0 L.length <;> rfl
theorem Oi(L:List Mj)(p:Int)(hw:Ji L):I3 L p=some (NG (OQ L p),()):=by
 have hL:=hw.1;unfold I3 cx;have:=Lt (body:=bu (L,p,ai L,())) (fun n=>((n:Int),())) L.length (by omega) (fun i=>(Mi (L.getD i bn).2.2 p).isNone) (Sum.inr (Sum.inl ())) (fun n=>Sum.inl ((n:Int),())) (fun n hn=>by
  have hc:=hw.at hn;have hx:=Nv (L.getD n bn).1 (L.getD n bn).2.1 (L.getD n bn).2.2 p hc.2;unfold bu Jt;simp only[aj,ax,hn,decide_true,cond_true,ak,au (n:=n) (by omega),hx,Option.bind_some,OA];cases Mi (L.getD n bn).2.2 p <;> rfl) (by
  unfold bu;simp only[aj,Nat.lt_irrefl,decide_false,cond_false])
 have h1:cc (L,p,ai L,()) ((0:Int),())=_:=this;rw[h1];unfold OQ;cases Jj (fun i=>(Mi (L.getD i bn).2.2 p).isNone) 0 L.length <;> rfl
theorem NJ{L:List Mj}{p:Int}{i:Nat}(h:OQ L p=some i):i<L.length/\∃m,Mi (L.getD i bn).2.2 p=some m/\m<(L.getD i bn).2.2.length:=by
 obtain⟨_,h2,h3⟩:=LQ _ _ _ h;refine⟨by omega,?_⟩;cases hp:Mi (L.getD i bn).2.2 p with
 |none=>simp only[hp]at h3;cases h3
 |some m=>exact⟨m,rfl,O4 hp⟩
theorem NU(L:List Mj){p:Int}(hw:Ji L)(hp:1<=p):Ln L p=some ((MC L p).1,(MC L p).2,()):=by
 unfold Ln MC;rw[Oi L p hw,Nb L hw];have e:af .lss p 1=false:=by simp only[af,decide_eq_false_iff_not];omega
 cases hb:tW L with
 |false=>rfl
 |true=>
  simp only[Option.bind_some,Bool.not_true,cond_false,cond_true,e];cases hc:OQ L p with
  |none=>rfl
  |some i=>obtain⟨hi,m,hm,hml⟩:=NJ hc;have VD:=hw.at hi;have hx:=Nv (L.getD i bn).1 (L.getD i bn).2.1 (L.getD i bn).2.2 p VD.2;have e2:af .lss (NG (some i)) 0=false:=k6 (by show(0:Int)<=(i:Int);omega);rw[e2];unfold NG;simp only[cond_false,ax,hi,decide_true,cond_true,ak,hx,hm,Option.bind_some];unfold NG;simp only[ax,hml,decide_true,cond_true,ak,Option.getD_some]
theorem P3{L:List Mj}(p:Int):((MC L p).1 = -1/\(MC L p).2 = -1)\/(0<=(MC L p).1/\(MC L p).1<=1000/\0<=(MC L p).2/\(MC L p).2<=24):=by
 unfold MC;cases hb:tW L with
 |false=>exact .inl ⟨rfl,rfl⟩
 |true=>
  simp only[cond_true];cases hc:OQ L p with
  |none=>exact .inl ⟨rfl,rfl⟩
  |some i=>obtain⟨hi,m,hm,hml⟩:=NJ hc;unfold tW at hb;rw[Bool.and_eq_true]at hb;have hl:=gg.1 hb.1;unfold ai at hl;have Sn:=(aO _ _).1 hb.2 i (Nat.zero_le _) (by omega);refine .inr ⟨by show(0:Int)<=(i:Int);omega,by show(i:Int)<=1000;omega,?_⟩;simp only[hm,Option.getD_some];refine QM (fun n hn=>?_) hml;unfold KF NB at Sn;simp only[Bool.and_eq_true]at Sn;exact(aO _ _).1 Sn.1.2.1.1 n (Nat.zero_le _) (by have hn:n<(L.getD i bn).2.2.length:=hn;show n<0+(b9 L i).2.2.length;unfold b9;omega)
theorem m1:ev (-1)=some (ByteArray.mk #[45,49],()):=by
 unfold ev;have h:iter (gI (true,())) 2 (-1,ByteArray.mk #[],())=some (.inl (ByteArray.mk #[49],())):=by rfl
 have hl:k3 (true,()) (-1,ByteArray.mk #[],())=_:=bh h (Nat.le_of_lt (aN (by omega)));rw[show af .eql (-1:Int) 0=false from rfl,show af .lss (-1:Int) 0=true from rfl,hl];rfl
theorem m2:er (-1)=some (ByteArray.mk #[45,49],()):=by
 unfold er strconv_Itoa;have:Lib.itoa (-1)=[45,49]:=by have h:=Lib.itoa_neg 1 (Nat.le_refl _);rw[Lib.decDigits_one (by decide)]at h;exact h
 rw[this];rfl
theorem Nu{n:Int}(h:-1<=n)(h1:n<=1000000000000000000):Sm (fun r=>r.1.size<=30) (ev n) (er n):=by
 by_cases h0:n = -1
 ·subst h0;exact⟨_,m1,m2,by show(ByteArray.mk #[45,49]).size<=30;decide⟩
 ·obtain⟨k,rfl⟩:∃k:Nat,n=(k:Int):=⟨n.toNat,by omega⟩
  refine⟨_,Qi (by omega),P7 (by omega),?_⟩;have:=PY (n:=k) (by omega);show(Q0 k).size<=30;omega
section
variable (a0 a1 a2 a3 a4 a5 a6 a7 a8 a9 a10:Int) (s:List Site) (p:List QT) (g:List Qp) (j:List Ev)
theorem PZ(n:Int)(hle:NK s p g j):Sm Any (JS a0 a1 a2 a3 a4 a5 a6 a7 a8 a9 a10 s p g j n) (JJ a0 a1 a2 a3 a4 a5 a6 a7 a8 a9 a10 s p g j n):=by
 unfold JS JJ;refine(Pg a0 a1 a2 a3 a4 a5 a6 a7 a8 a9 a10 s p g j hle).bind fun r hr=>.cond (fun _=>.ret trivial) fun hb=>?_;have hb:r.1=true:=by cases h:r.1 with|true=>rfl|false=>rw[h]at hb;cases hb
 have hn:=hr hb;refine(Mk n 1 (ai p)).bind fun r hr=>.cond (fun _=>.ret trivial) fun hin=>?_;subst hr;have hin:ko n 1 (ai p)=true:=by cases h:ko n 1 (ai p)with|true=>rfl|false=>rw[h]at hin;cases hin
 obtain⟨i1,i2⟩:=gg.1 hin;unfold ai at i2;obtain⟨k,rfl⟩:∃k:Nat,n=((k+1:Nat):Int):=⟨(n-1).toNat,by omega⟩
 have hk:k<p.length:=by omega
 have RE:=hle.lp;have hsub:aa .sub .i64 ((k+1:Nat):Int) 1=(k:Int):=by rw[bM (by omega) (by omega)];omega
 obtain⟨g0,g1⟩:=hn.mQ k hk;have g2:=hn.who k hk;have hls:=hle.ls;have p1:(ByteArray.mk #[100,111,111,114,32]).size=5:=rfl;have p2:(ByteArray.mk #[98,111,120,32]).size=4:=rfl;have p3:(ByteArray.mk #[32]).size=1:=rfl;have p4:(ByteArray.mk #[116,97,107,101,110,32]).size=6:=rfl;rw[hsub];simp only[cK hk,ak,cond_true];generalize hx:p.getD k bg=x at g0 g1 g2;refine .cond (fun _=>.ret trivial) fun _=>.cond (fun _=>.ret trivial) fun _=>.cond (fun _=>?_) fun _=>.cond (fun _=>?_) fun _=>.cond (fun h4=>?_) fun _=>.ret trivial
 ·refine(Nu (n:=x.2.2.1) (by omega) (by omega)).bind fun r hr=>.guard (fits (by rw[p1];omega)) (fits (by rw[p1];omega)) (.ret trivial)
 ·obtain⟨m,hm⟩:∃m:Nat,x.2.2.1=(m:Int):=⟨x.2.2.1.toNat,by omega⟩
  have hml:m<s.length:=by omega
  refine .guard (by rw[hm];exact cK hml) (by rw[hm];exact cK hml) ?_;have hw:Ji (s.getD m e6).2.2.1:=MT (hle.ss m hml);rw[hm];simp only[ak];have hz:s.getD m aS=s.getD m e6:=rfl;rw[hz,NZ _ hw (p:=((k+1:Nat):Int)) (by omega),NU _ hw (p:=((k+1:Nat):Int)) (by omega)];have hbd:=P3 (L:=(s.getD m e6).2.2.1) ((k+1:Nat):Int);simp only[Option.bind_some];generalize MC (s.getD m e6).2.2.1 ((k+1:Nat):Int)=b at hbd;refine(Nu (n:=(m:Int)) (by omega) (by omega)).bind fun r1 h1=>.guard (fits (by rw[p2];omega)) (fits (by rw[p2];omega)) (.guard (fits (by rw[Jc,p2,p3];omega)) (fits (by rw[Jc,p2,p3];omega)) ?_);refine(Nu (n:=b.1) (by omega) (by omega)).bind fun r2 h2=>.guard (fits (by simp only[Jc,p2,p3];omega)) (fits (by simp only[Jc,p2,p3];omega)) (.guard (fits (by simp only[Jc,p2,p3];omega)) (fits (by simp only[Jc,p2,p3];omega)) ?_);simp only[aR];refine(Nu (n:=b.2) (by omega) (by omega)).bind fun r3 h3=>.guard (fits (by simp only[Jc,p2,p3];omega)) (fits (by simp only[Jc,p2,p3];omega)) (.ret trivial)
 ·have:=g2 (Ml.1 h4);refine(Nu (n:=x.2.2.2.2.2.2.2.2.2.2.2.1) (by omega) (by omega)).bind fun r hr=>.guard (fits (by rw[p4];omega)) (fits (by rw[p4];omega)) (.ret trivial)
theorem Ob(n:Int)(h:Qw s p g j):n2 a0 a1 a2 a3 a4 a5 a6 a7 a8 a9 a10 s p g j n=some (true,()):=by
 unfold n2;obtain⟨b,h1,h2⟩:=N5 a0 a1 a2 a3 a4 a5 a6 a7 a8 a9 a10 s p g j 1048576 h (by decide) (by decide);refine(Rr h1).trans ?_;rcases h2 with rfl|⟨b0,b1,hle⟩
 ·rfl
 refine(cF (k6 b0)).trans ?_;have t:=N8 a0 a1 a2 a3 a4 a5 a6 a7 a8 a9 a10 s p g j hle;have e:=Ns a0 a1 a2 a3 a4 a5 a6 a7 a8 a9 a10 s p g j hle;obtain⟨⟨y,u⟩,y1,y2,_⟩:=PZ a0 a1 a2 a3 a4 a5 a6 a7 a8 a9 a10 s p g j n hle;have hs:sA .neq y y=false:=by unfold sA;simp
 simp only[t,e,y1,y2,hs,Option.bind_some,Bool.not_true,cond_false]
end
end Go.Fn

