import Derived.Test.YtajokmncfidfjaaFnContradictionsQB
/- Plain functions that stand for Go functions, and what they answer. Conditions: none. -/
set_option autoImplicit false
set_option linter.unusedVariables false
set_option linter.unusedSimpArgs false
set_option linter.unusedSimpArgs false
set_option linter.unusedVariables false
namespace Go.Fn
open Go.R Go.Sort
noncomputable def Lq(h:Int):Int:=aa .add .i64 (aa .mul .i64 h (6364136223846793005:Int)) (1442695040888963407:Int)
noncomputable def byteOf(h:Int):Int:=aa .and .i64 (aa .xor .i64 (ay .shr .i64 h (33:Int)) (ay .shr .i64 h (45:Int))) (255:Int)
noncomputable def MI(b:List Int)(i:Int):Int:=bif decide (i<(b.length:Int))then i+1 else i
theorem SC(b:List Int)(hb:b.length<=1048576)(i h:Int)(hi:0<=i):∃y,KR b i h=some (y,b,MI b i,Lq h,())/\0<=y/\((b.length:Int)<=i->y=byteOf (Lq h)):=by
 obtain⟨y,e,y1,_⟩:=N2 b hb i h hi;by_cases hlt:i<(b.length:Int)
 ·refine⟨y.1,?_,y1,fun h=>absurd h (by omega)⟩;have e':=e;unfold KR at e;have c1:af .lss i (ai b)=true:=by rw[N3];exact decide_eq_true hlt
  rw[c1,NG hi hlt]at e;have e:=Option.some.inj (show some _=some y from e);rw[e'];have e2:aa .add .i64 i (1:Int)=i+1:=bU (by omega) (by omega);rw[<-e,e2];unfold MI;rw[decide_eq_true hlt];rfl
 ·refine⟨byteOf (Lq h),?_,?_,fun _=>rfl⟩
  ·unfold KR MI;have c1:af .lss i (ai b)=false:=by rw[N3];exact decide_eq_false hlt
   rw[c1,decide_eq_false hlt];rfl
  ·exact(QN _ (c:=255) (by omega)).1
theorem MC(b:List Int)(i:Int):i<=MI b i:=by
 unfold MI;cases decide (i<(b.length:Int))with
 |true=>show i<=i+1;omega
 |false=>exact Int.le_refl _
theorem OQ(b:List Int)(hb:b.length<=1048576)(i h n:Int)(hi:0<=i)(h1:0<n)(h2:n<=256):∃y,cF b i h n=some (y,b,MI b i,Lq h,())/\0<=y/\y<=n-1/\((b.length:Int)<=i->y=(byteOf (Lq h)).tmod n):=by obtain⟨y,e,y1,y2⟩:=SC b hb i h hi;have m1:=Int.tmod_nonneg n y1;have m2:=Int.tmod_lt_of_pos y h1;refine⟨y.tmod n,?_,m1,by omega,fun hl=>by rw[y2 hl]⟩;unfold cF;rw[OL,OL,decide_eq_false (by omega),decide_eq_true h2,e];show(bif az n then none else some _)=_;rw[show az n=false from decide_eq_false (by omega)];rfl
theorem PO(x:Int):(IntKind.i64.wrap x) % 9007199254740992=x % 9007199254740992:=by
 have e:IntKind.i64.wrap x=if x % 18446744073709551616>=9223372036854775808 then x % 18446744073709551616-18446744073709551616 else x % 18446744073709551616:=by unfold IntKind.wrap;simp only[IntKind.bits,IntKind.signed,Bool.true_and,decide_eq_true_eq,show(2:Int) ^ 64=18446744073709551616 by decide,show(2:Int) ^ (64-1)=9223372036854775808 by decide]
 rw[e];split <;> omega
theorem Nh(h:Int):Lq h % 9007199254740992=(6364136223846793005*h+1442695040888963407) % 9007199254740992:=by show IntKind.i64.wrap (IntKind.i64.wrap (h*6364136223846793005)+1442695040888963407) % _=_;rw[PO,Int.add_emod,PO,<-Int.add_emod,Int.mul_comm]
noncomputable def it{α:Type}(f:α->α):Nat->α->α
 |0,x=>x
 |n+1,x=>it f n (f x)
theorem Ph{α:Type}(f:α->α):∀(m n:Nat) (x:α),it f (m+n) x=it f m (it f n x)
 |m,0,x=>rfl
 |m,n+1,x=>by rw[<-Nat.add_assoc];exact Ph f m n (f x)
theorem OM{α:Type}(f:α->α)(n:Nat)(x:α):it f (n+1) x=f (it f n x):=by rw[Nat.add_comm,Ph];rfl
theorem mm(a b c M:Int):(a*(b % M)+c) % M=(a*b+c) % M:=by rw[Int.add_emod,Int.mul_emod,Int.emod_emod,<-Int.mul_emod,<-Int.add_emod]
theorem am(a b c M:Int):((a % M)*b+c % M) % M=(a*b+c) % M:=by rw[Int.add_emod,Int.mul_emod,Int.emod_emod,Int.emod_emod,<-Int.mul_emod,<-Int.add_emod]
theorem QM{f g:Int->Int}{a c a' c' M:Int}(hf:∀u,f u % M=(a*u+c) % M)(hg:∀u,g u % M=(a'*u+c') % M)(u:Int):f (g u) % M=((a*a') % M*u+(a*c'+c) % M) % M:=by rw[hf,<-mm,hg,mm,am];congr 1;rw[Int.mul_add,Int.mul_assoc,Int.add_assoc]
noncomputable def Tp(q:Int×Int):Int×Int:=((q.1*q.1) % 9007199254740992,(q.1*q.2+q.2) % 9007199254740992)
theorem PX{f:Int->Int}{q:Int×Int}(hf:∀u,f u % 9007199254740992=(q.1*u+q.2) % 9007199254740992):∀(k:Nat) (u:Int),it f (2 ^ k) u % 9007199254740992=((it Tp k q).1*u+(it Tp k q).2) % 9007199254740992
 |0,u=>hf u
 |k+1,u=>by rw[show 2 ^ (k+1)=2 ^ k+2 ^ k by rw[Nat.pow_succ];omega,Ph,OM];exact QM (PX hf k) (PX hf k) u
noncomputable def MP(h:Int):Int:=Lq (Lq (Lq (Lq (Lq h))))
noncomputable def c5:Int×Int:=((6364136223846793005*((6364136223846793005*((6364136223846793005*((6364136223846793005*6364136223846793005) % 9007199254740992)) % 9007199254740992)) % 9007199254740992)) % 9007199254740992,(6364136223846793005*((6364136223846793005*((6364136223846793005*((6364136223846793005*1442695040888963407+1442695040888963407) % 9007199254740992)+1442695040888963407) % 9007199254740992)+1442695040888963407) % 9007199254740992)+1442695040888963407) % 9007199254740992)
theorem QE(h:Int):MP h % 9007199254740992=(c5.1*h+c5.2) % 9007199254740992:=QM Nh (fun u=>QM Nh (fun u=>QM Nh (fun u=>QM Nh Nh u) u) u) h
theorem SE:it Tp 52 c5=(1,4503599627370496):=by decide +kernel
theorem half(h:Int):it MP 4503599627370496 h % 9007199254740992=(h+4503599627370496) % 9007199254740992:=by have:=PX QE 52 h;rw[SE,show(2:Nat) ^ 52=4503599627370496 by decide]at this;rw[this,Int.one_mul]
noncomputable def pb(h:Int):Nat:=(h / 8589934592 % 256).toNat
noncomputable def qb(h:Int):Nat:=(h / 35184372088832 % 256).toNat
theorem P4(x:Int):BitVec.ofInt 64 (IntKind.i64.wrap x)=BitVec.ofInt 64 x:=by
 have e:IntKind.i64.wrap x=if x % 18446744073709551616>=9223372036854775808 then x % 18446744073709551616-18446744073709551616 else x % 18446744073709551616:=by unfold IntKind.wrap;simp only[IntKind.bits,IntKind.signed,Bool.true_and,decide_eq_true_eq,show(2:Int) ^ 64=18446744073709551616 by decide,show(2:Int) ^ (64-1)=9223372036854775808 by decide]
 apply BitVec.eq_of_toNat_eq;rw[BitVec.toNat_ofInt,BitVec.toNat_ofInt,e];congr 1;split <;> omega
theorem Qr(h:Int):byteOf h=((pb h ^^^ qb h:Nat):Int):=by
 have s1:ay .shr .i64 h (33:Int)=h / 8589934592:=by show h.fdiv (2 ^ (min (33:Int).toNat 64))=_;rw[show(2:Int) ^ (min (33:Int).toNat 64)=8589934592 by decide];exact Int.fdiv_eq_ediv_of_nonneg _ (by decide)
 have s2:ay .shr .i64 h (45:Int)=h / 35184372088832:=by show h.fdiv (2 ^ (min (45:Int).toNat 64))=_;rw[show(2:Int) ^ (min (45:Int).toNat 64)=35184372088832 by decide];exact Int.fdiv_eq_ediv_of_nonneg _ (by decide)
 unfold byteOf;rw[s1,s2];show IntKind.i64.wrap ((BitVec.ofInt 64 (IntKind.i64.wrap ((BitVec.ofInt 64 (h / 8589934592) ^^^ BitVec.ofInt 64 (h / 35184372088832)).toNat:Nat)) &&& BitVec.ofInt 64 255).toNat:Nat)=_;rw[P4,BitVec.toNat_and];have k1:(BitVec.ofInt 64 ((BitVec.ofInt 64 (h / 8589934592) ^^^ BitVec.ofInt 64 (h / 35184372088832)).toNat:Nat)).toNat=(BitVec.ofInt 64 (h / 8589934592)).toNat ^^^ (BitVec.ofInt 64 (h / 35184372088832)).toNat:=by rw[BitVec.toNat_ofInt,<-BitVec.toNat_xor];have:=(BitVec.ofInt 64 (h / 8589934592) ^^^ BitVec.ofInt 64 (h / 35184372088832)).isLt;omega
 rw[k1,show(BitVec.ofInt 64 255).toNat=2 ^ 8-1 by decide,Nat.and_two_pow_sub_one_eq_mod,Nat.xor_mod_two_pow];have k2:∀x:Int,(BitVec.ofInt 64 x).toNat % 2 ^ 8=(x % 256).toNat:=fun x=>by rw[BitVec.toNat_ofInt];omega
 rw[k2,k2];have hlt:pb h ^^^ qb h<2 ^ 8:=Nat.xor_lt_two_pow (by unfold pb;omega) (by unfold qb;omega);show IntKind.i64.wrap ((pb h ^^^ qb h:Nat):Int)=_;exact zx (by omega) (by omega)
theorem SF:(List.range 256).all (fun q=>(q+128) % 256==q ^^^ 128)=true:=by decide +kernel
theorem SG:(List.range 256).all (fun t=>!(t % 3==2) || !((t ^^^ 128) % 3==2))=true:=by decide +kernel
theorem SH{h h':Int}(he:h' % 9007199254740992=(h+4503599627370496) % 9007199254740992)(h2:(byteOf h).tmod 3=2):(byteOf h').tmod 3≠2:=by
 have hp:pb h'=pb h:=by unfold pb;omega
 have hq:qb h'=(qb h+128) % 256:=by unfold qb;omega
 have q1:qb h<256:=by unfold qb;omega
 have q2:=List.all_eq_true.1 SF (qb h) (List.mem_range.2 q1);have q2:(qb h+128) % 256=qb h ^^^ 128:=by simpa using q2
 have hlt:pb h ^^^ qb h<256:=Nat.xor_lt_two_pow (n:=8) (by unfold pb;omega) (by unfold qb;omega);rw[Qr]at h2⊢;rw[hp,hq,q2,<-Nat.xor_assoc];have q3:=List.all_eq_true.1 SG (pb h ^^^ qb h) (List.mem_range.2 hlt);have m1:∀n:Nat,((n:Nat):Int).tmod 3=((n % 3:Nat):Int):=fun n=>by rw[Int.tmod_eq_emod_of_nonneg (by omega)];omega
 rw[m1]at h2⊢;have h2':(pb h ^^^ qb h) % 3=2:=by omega
 rw[h2']at q3;intro h3;have h3':(pb h ^^^ qb h ^^^ 128) % 3=2:=by omega
 rw[h3']at q3;exact absurd q3 (by decide)
end Go.Fn
set_option linter.unusedSimpArgs false
set_option linter.unusedVariables false
namespace Go.Fn
open Go.R Go.Sort
theorem Px{X Y:Type}{body:X->Option (X⊕Y)}:∀(n m:Nat) (st:Nat->X) (y:Y),(∀k,k<n->body (st k)=some (.inl (st (k+1))))->body (st n)=some (.inr y)->iter body (n+1+m) (st 0)=some y
 |0,m,st,y,_,he=>by rw[show 0+1+m=m+1 by omega];simp only[iter,he]
 |n+1,m,st,y,hs,he=>by rw[show n+1+1+m=(n+1+m)+1 by omega];simp only[iter,hs 0 (by omega)];exact Px n m (fun k=>st (k+1)) y (fun k hk=>hs (k+1) (by omega)) he
theorem PU{l:List Ev}(hj:MA l=true)(hl:l.length=60)(node kind Jl a b:Int):(M3 l node kind Jl a b).1=l:=by
 unfold M3;rw[hj];have:MA (NE l node kind Jl a b)=false:=by unfold MA;rw[N6 (MX hj),hl];rfl
 rw[this];rfl
structure Ra (n:Nat) (l:List Ev):Prop where
 j:MA l=true
 st:∀x,x∈l->x.2.2.1<=(n:Int)
 sq:∀x,x∈l->x.1=4->x.2.1<=(n:Int)
theorem Ra.add{n:Nat}(hn:n<=200){l:List Ev}(h:Ra n l)(hl:l.length<60){kind Jl a b:Int}(h1:1<=kind/\kind<=4)(h2:1<=Jl/\Jl<=3)(h3:0<=a/\a<=3)(h4:0<=b/\b<=39):Ra (n+1) (M3 l 4 kind Jl a b).1/\(M3 l 4 kind Jl a b).1.length=l.length+1:=by
 have hs:=MX h.j;have hi:=NA 4 hs;have s1:1<=(MB l 4).1/\(MB l 4).1<=(n:Int)+1:=by
  rcases hi.s2 with p|⟨x,hx,q,p⟩
  ·rw[p];omega
  ·have:=h.sq x hx q;have:=(Od.1 (Pj h.j x hx)).2.1;omega
 have p1:1<=(MB l 4).2.1/\(MB l 4).2.1<=(n:Int)+1:=by
  rcases hi.p2 with p|⟨x,hx,p⟩
  ·rw[p];omega
  ·have:=h.st x hx;have:=(Od.1 (Pj h.j x hx)).2.2.1;omega
 have he:NB (P3 l 4 kind Jl a b)=true:=Od.2 ⟨by show(0:Int)<=4/\(4:Int)<=5;omega,by show 1<=(MB l 4).1/\(MB l 4).1<=999;omega,by show 1<=(MB l 4).2.1/\(MB l 4).2.1<=100000;omega,by show 1<=kind/\kind<=4;omega,by show 1<=Jl/\Jl<=999;omega,by show 0<=a/\a<=20000;omega,by show 0<=b/\b<=20000;omega⟩;have hw:=QG h.j (node:=4) (kind:=kind) (Jl:=Jl) (a:=a) (b:=b) (by omega) he;unfold M3;rw[h.j,hw];simp only[cond_true];refine⟨⟨hw,fun x hx=>?_,fun x hx hq=>?_⟩,N6 hs _ _ _ _ _⟩
 ·rcases(Ly x).1 hx with e|e
  ·rw[e];show(MB l 4).2.1<=_;omega
  ·have:=h.st x e;omega
 ·rcases(Ly x).1 hx with e|e
  ·rw[e];show(MB l 4).1<=_;omega
  ·have:=h.sq x e hq;omega
noncomputable def MQ(b:List Int)(i:Int):Int:=MI b (MI b (MI b (MI b (MI b i))))
theorem Tn(b:List Int)(hb:b.length<=1048576)(i h:Int)(hi:0<=i)(l:List Ev)(hl:l.length<=60)(node:Int):∃kind Jl a c,(1<=kind/\kind<=4)/\(1<=Jl/\Jl<=3)/\(0<=a/\a<=3)/\(0<=c/\c<=39) /\
  KW b i h l node=some ((M3 l node kind Jl a c).1,b,MI b (MI b (MI b (MI b i))),Lq (Lq (Lq (Lq h))),()):=by
 have g0:=MC b i;have g1:=MC b (MI b i);have g2:=MC b (MI b (MI b i));obtain⟨y0,e0,a0,b0,_⟩:=OQ b hb i h 4 hi (by omega) (by omega);obtain⟨y1,e1,a1,b1,_⟩:=OQ b hb (MI b i) (Lq h) 4 (by omega) (by omega) (by omega);obtain⟨y2,e2,a2,b2,_⟩:=OQ b hb (MI b (MI b i)) (Lq (Lq h)) 3 (by omega) (by omega) (by omega);obtain⟨y3,e3,a3,b3,_⟩:=OQ b hb (MI b (MI b (MI b i))) (Lq (Lq (Lq h))) 40 (by omega) (by omega) (by omega);have k0:aa .add .i64 (1:Int) y0=1+y0:=bU (by omega) (by omega);have k2:aa .add .i64 (1:Int) y2=1+y2:=bU (by omega) (by omega);refine⟨1+y0,1+y2,bif af .eql (1+y0) (2:Int)then 0 else y1,y3,by omega,by omega,?_,by omega,?_⟩
 ·cases af .eql (1+y0) (2:Int)with
  |true=>show(0:Int)<=0/\(0:Int)<=3;omega
  |false=>show 0<=y1/\y1<=3;omega
 ·unfold KW;simp only[e0,e1,e2,e3,Option.bind_some,k0,k2,Ng l _ _ _ _ _ (show l.length<=1073741824 by omega)];cases af .eql (1+y0) (2:Int) <;> rfl
abbrev RP:=(List Int)×Int×Int×(List Ev)×Unit
abbrev Rd:=RP⊕(RP⊕Empty)
noncomputable def PT(b:List Int)(y:Rd):Prop:=match y with
 | .inl z=>z.1=b/\0<=z.2.1/\z.2.2.2.1.length<=60
 | .inr (.inl z)=>z.1=b/\0<=z.2.1/\z.2.2.2.1.length<=60
 | .inr (.inr _)=>False
theorem Q1(b:List Int)(hb:b.length<=1048576)(i h:Int)(hi:0<=i)(l:List Ev)(hj:MA l=true):
  (∃y,PT b y/\Kd () (b,i,h,l,())=some (.inr y)) \/
  ((l.length:Int)<61/\((b.length:Int)<=i->l.length=60->(byteOf (Lq h)).tmod 3=2)/\∃kind Jl a c,(1<=kind/\kind<=4)/\(1<=Jl/\Jl<=3)/\(0<=a/\a<=3)/\(0<=c/\c<=39) /\
   Kd () (b,i,h,l,())=some (bif MA (M3 l 4 kind Jl a c).1 then .inl (b,MQ b i,MP h,(M3 l 4 kind Jl a c).1,())else .inr (.inl (b,MQ b i,MP h,(M3 l 4 kind Jl a c).1,())))):=by
 have hl:=L4 hj;obtain⟨y0,e0,a0,b0,c0⟩:=OQ b hb i h 3 hi (by omega) (by omega);have g0:=MC b i;have k0:aa .add .i64 (59:Int) y0=59+y0:=bU (by omega) (by omega);unfold Kd;simp only[e0,Option.bind_some,k0];by_cases hlt:(l.length:Int)<59+y0
 ·right;have hg:af .lss (ai l) (59+y0)=true:=by rw[N3];exact decide_eq_true hlt
  refine⟨by omega,fun h1 h2=>?_,?_⟩
  ·have:=c0 h1;omega
  ·obtain⟨kind,Jl,a,c,q1,q2,q3,q4,q5⟩:=Tn b hb (MI b i) (Lq h) (by omega) l hl 4;refine⟨kind,Jl,a,c,q1,q2,q3,q4,?_⟩;rw[hg,q5];simp only[cond_true,Option.bind_some,NW];cases MA (M3 l 4 kind Jl a c).1 <;> rfl
 ·left;have hg:af .lss (ai l) (59+y0)=false:=by rw[N3];exact decide_eq_false hlt
  refine⟨.inr (.inl (b,MI b i,Lq h,l,())),⟨rfl,by show 0<=MI b i;omega,hl⟩,?_⟩;rw[hg];rfl
theorem Qb(b:List Int)(i:Int):i<=MQ b i:=by have g0:=MC b i;have g1:=MC b (MI b i);have g2:=MC b (MI b (MI b i));have g3:=MC b (MI b (MI b (MI b i)));have g4:=MC b (MI b (MI b (MI b (MI b i))));unfold MQ;omega
theorem OK(b:List Int)(i:Int)(hi:0<=i):∀k:Nat,0<=it (MQ b) k i/\((k:Int)<=it (MQ b) k i\/(b.length:Int)<=it (MQ b) k i)
 |0=>⟨hi,.inl hi⟩
 |k+1=>by
  obtain⟨h1,h2⟩:=OK b i hi k;rw[OM];have g:=Qb b (it (MQ b) k i);refine⟨by omega,?_⟩;rcases h2 with h2|h2
  ·by_cases hlt:it (MQ b) k i<(b.length:Int)
   ·left;have e:MI b (it (MQ b) k i)=it (MQ b) k i+1:=by unfold MI;rw[decide_eq_true hlt];rfl
    have g1:=MC b (MI b (it (MQ b) k i));have g2:=MC b (MI b (MI b (it (MQ b) k i)));have g3:=MC b (MI b (MI b (MI b (it (MQ b) k i))));have g4:=MC b (MI b (MI b (MI b (MI b (it (MQ b) k i)))));have e5:MQ b (it (MQ b) k i)=MI b (MI b (MI b (MI b (MI b (it (MQ b) k i))))):=rfl;omega
   ·right;omega
  ·right;omega
theorem SJ(K B:Nat)(hK:K=4503599627370496)(hB:B=1048576)(hT:∀u:Int,it MP K u % 9007199254740992=(u+4503599627370496) % 9007199254740992)(b:List Int)(hb:b.length<=1048576)(i h:Int)(hi:0<=i)(l:List Ev)(hj:MA l=true)(hl:l.length=60):∃(N:Nat) (y:Rd),N<=4503599628419074/\PT b y/\∀m,iter (Kd ()) (N+m) (b,i,h,l,())=some y:=by
 let st:Nat->RP:=fun k=>(b,it (MQ b) k i,it MP k h,l,())
 have hst:∀k,(∃y,PT b y/\Kd () (st k)=some (.inr y))\/(Kd () (st k)=some (.inl (st (k+1)))/\((b.length:Int)<=it (MQ b) k i->(byteOf (Lq (it MP k h))).tmod 3=2)):=fun k=>by
  rcases Q1 b hb (it (MQ b) k i) (it MP k h) (OK b i hi k).1 l hj with h1|⟨_,h2,kind,Jl,a,c,q1,q2,q3,q4,q5⟩
  ·exact .inl h1
  ·refine .inr ⟨?_,fun hb=>h2 hb hl⟩;rw[PU hj hl]at q5;rw[hj]at q5;show Kd () (b,it (MQ b) k i,it MP k h,l,())=some (.inl (b,it (MQ b) (k+1) i,it MP (k+1) h,l,()));rw[q5,OM,OM];rfl
 have hex:∃k,k<=K+B/\∃y,PT b y/\Kd () (st k)=some (.inr y):=by
  refine Classical.byContradiction fun hno=>?_;have hall:∀k,k<=K+B->(b.length:Int)<=it (MQ b) k i->(byteOf (Lq (it MP k h))).tmod 3=2:=fun k hk CD=>by
   rcases hst k with h1|h2
   ·exact absurd ⟨k,hk,h1⟩ hno
   ·exact h2.2 CD
  have r1:=(OK b i hi B).2;have r2:=(OK b i hi (K+B)).2;have u1:=hall B (by omega) (by omega);have u2:=hall (K+B) (by omega) (by omega);rw[Ph]at u2;have hm:=hT (it MP B h);refine SH (h:=Lq (it MP B h)) (h':=Lq (it MP K (it MP B h))) ?_ u1 u2;rw[Nh,<-mm,hm,mm];have:=Nh (it MP B h);omega
 obtain⟨n,hn,hle⟩:=AP (p:=fun k=>∃y,PT b y/\Kd () (st k)=some (.inr y)) hex.choose hex.choose_spec.2;obtain⟨y,hy,he⟩:=hn;refine⟨n+1,y,?_,hy,fun m=>Px n m st y (fun k hk=>?_) he⟩
 ·have:=hle _ hex.choose_spec.2;have:=hex.choose_spec.1;omega
 ·rcases hst k with h1|h2
  ·have:=hle k h1;omega
  ·exact h2.1
theorem SI(b:List Int)(hb:b.length<=1048576)(i h:Int)(hi:0<=i)(l:List Ev)(hj:MA l=true)(hl:l.length=60):∃(N:Nat) (y:Rd),N<=4503599628419074/\PT b y/\∀m,iter (Kd ()) (N+m) (b,i,h,l,())=some y:=SJ _ _ rfl rfl half b hb i h hi l hj hl
theorem RL(b:List Int)(hb:b.length<=1048576):∀(d:Nat) (i h:Int) (l:List Ev) (n:Nat),0<=i->Ra n l->n+d<=200->l.length+d=60->∃(N:Nat) (y:Rd),N<=4503599628419074+d/\PT b y/\∀m,iter (Kd ()) (N+m) (b,i,h,l,())=some y
 |0,i,h,l,n,hi,hf,_,hl=>SI b hb i h hi l hf.j hl
 |d+1,i,h,l,n,hi,hf,hn,hl=>by
  rcases Q1 b hb i h hi l hf.j with ⟨y,hy,he⟩|⟨_,_,kind,Jl,a,c,q1,q2,q3,q4,q5⟩
  ·exact⟨1,y,by omega,hy,fun m=>by rw[Nat.add_comm];simp only[iter,he]⟩
  ·obtain⟨f1,f2⟩:=hf.add (by omega) (by omega) q1 q2 q3 q4;have g:=Qb b i;rw[f1.j]at q5;obtain⟨N,y,h1,h2,h3⟩:=RL b hb d (MQ b i) (MP h) _ (n+1) (by omega) f1 (by omega) (by omega);refine⟨N+1,y,by omega,h2,fun m=>?_⟩;rw[show N+1+m=(N+m)+1 by omega];simp only[iter,q5,cond_true];exact h3 m
theorem Qy(b:List Int)(hb:b.length<=1048576)(i h:Int)(hi:0<=i):Yl (Nr b i h) fun y=>y.1.length<=60/\y.2.1=b/\0<=y.2.2.1:=by
 unfold Nr;refine(P0 b hb i h hi).bind fun y0 ⟨⟨a1,a2⟩,a3,a4⟩=>?_;have hl:=L4 a1;rw[a3];refine .cond (fun _=>.ret ⟨hl,rfl,a4⟩) fun hne=>?_;have hpos:0<y0.1.length:=by
  cases h:y0.1 with
  |nil=>rw[h]at hne;cases hne
  |cons _ _=>simp
 refine(Ka b hb _ _ (ai y0.1) a4 (by unfold ai;omega)).bind fun y1 ⟨b1,b2,b3,b4⟩=>?_;have b2:y1.1<=max 0 ((y0.1.length:Int)-1):=b2;rw[b3];refine(Ka b hb _ _ 16 b4 (by omega)).bind fun y2 ⟨c1,c2,c3,c4⟩=>?_;rw[c3];have hin:ah y0.1 y1.1=true:=NG b1 (by omega);refine .cond (fun _=>?_) fun _=>.cond (fun _=>?_) fun _=>.cond (fun _=>?_) fun _=>.cond (fun _=>?_) fun _=>.cond (fun _=>?_) fun _=>.ret ⟨hl,rfl,c4⟩;all_goals first
  |(refine(Mj b hb _ _ _ c4 (by simp) (by simp)).bind fun y3 ⟨_,d2,d3⟩=>.guard hin (.lets (.ret ⟨?_,d2,d3⟩));show(aC y0.1 y1.1 _).length<=60;unfold aC;rw[List.length_set];exact hl)
  |skip
 obtain⟨N,y,n1,n2,n3⟩:=RL b hb (60-y0.1.length) y2.2.2.1 y2.2.2.2.1 y0.1 16 c4 ⟨a1,fun x hx=>(a2 x hx).1,fun x hx hq=>absurd hq (a2 x hx).2⟩ (by omega) (by omega);have zq:Mz () (b,y2.2.2.1,y2.2.2.2.1,y0.1,())=some y:=by unfold Mz;have:=n3 (big-N);rw[show N+(big-N)=big by have:big=4611686018427387904:=rfl;omega]at this;exact this
 rw[zq];match y,n2 with
 | .inl z,⟨z1,z2,z3⟩=>exact .ret ⟨z3,z1,z2⟩
 | .inr (.inl z),⟨z1,z2,z3⟩=>exact .ret ⟨z3,z1,z2⟩
end Go.Fn
set_option linter.unusedSimpArgs false
set_option linter.unusedVariables false
namespace Go.Fn
open Go.R Go.Sort
noncomputable def Qu(x e:Ev):Bool:=Bool.and (af .eql x.1 e.1) (Bool.and (af .eql x.2.1 e.2.1) (Bool.and (af .eql x.2.2.1 e.2.2.1) (Bool.and (af .eql x.2.2.2.1 e.2.2.2.1) (Bool.and (af .eql x.2.2.2.2.1 e.2.2.2.2.1) (Bool.and (af .eql x.2.2.2.2.2.1 e.2.2.2.2.2.1) (Bool.and (af .eql x.2.2.2.2.2.2 e.2.2.2.2.2.2) true))))))
theorem Pv{x e:Ev}:Qu x e=true↔x=e:=by obtain⟨x0,x1,x2,x3,x4,x5,x6⟩:=x;obtain⟨e0,e1,e2,e3,e4,e5,e6⟩:=e;simp[Qu,af]
theorem Of(l:List Ev)(e:Ev)(hl:l.length<=1073741824):laws_holds l e.1 e.2.1 e.2.2.1 e.2.2.2.1 e.2.2.2.2.1 e.2.2.2.2.2.1 e.2.2.2.2.2.2=some (decide (e∈l),()):=by
 unfold laws_holds;obtain⟨y,e1,c1⟩:=eL (body:=MM (l,e.1,e.2.1,e.2.2.1,e.2.2.2.1,e.2.2.2.2.1,e.2.2.2.2.2.1,e.2.2.2.2.2.2,())) (fun n=>((n:Int),())) l.length (by omega) (fun n=>Bool.not (Qu (l.getD n bf) e)) (.inr (.inl ())) (fun _=>.inl (true,())) (fun n hn=>by
  unfold MM;simp only[aj,ax,hn,decide_true,cond_true,ak,au (n:=n) (by omega)];show(lets (Qu (l.getD n bf) e) _)=_;rw[aR];cases Qu (l.getD n bf) e <;> rfl) (by
  unfold MM;simp only[aj,Nat.lt_irrefl,decide_false,cond_false])
 have e1:Nt (l,e.1,e.2.1,e.2.2.1,e.2.2.2.1,e.2.2.2.2.1,e.2.2.2.2.2.1,e.2.2.2.2.2.2,()) (0,())=some y:=e1;rw[e1];rcases c1 with ⟨t1,rfl⟩|⟨t1,n1,l1,rfl,f1⟩
 ·have:¬e∈l:=fun hm=>by
   obtain⟨n,hn,rfl⟩:=List.mem_iff_getElem.1 hm;have:=(aO _ _).1 t1 n (Nat.zero_le _) (by omega);rw[getD_eq hn,Pv.2 rfl]at this;cases this
  rw[decide_eq_false this];rfl
 ·have:e∈l:=by
   have h:Qu (l.getD n1 bf) e=true:=by simpa using f1
   rw[<-Pv.1 h];exact LK l1 _
  rw[decide_eq_true this];rfl
theorem Pt(b:List Int)(hb:b.length<=1048576)(i h:Int)(hi:0<=i):Yl (MZ b i h) fun y=>y.1.length<=60/\y.2.1.length<=60/\y.2.2.1=b/\0<=y.2.2.2.1:=by
 unfold MZ;refine(Ka b hb i h 6 hi (by omega)).bind fun y0 ⟨a1,a2,a3,a4⟩=>?_;have a2:y0.1<=5:=a2;rw[a3];have start:NP 0 [] (fun n=>0<=n/\n<=2) []:=⟨rfl,Nat.le_refl _,fun x hx=>absurd hx List.not_mem_nil,fun x hx=>absurd hx List.not_mem_nil,fun x hx=>absurd hx List.not_mem_nil,fun x hx=>absurd hx List.not_mem_nil⟩
 refine(OJ b hb (body:=Mf ()) 0 (by omega) (fun i h Pd l n hi hn hl hp=>?_) (fun i h Pd l hp=>?_) y0.2.2.1 y0.2.2.2.1 y0.1 [] a4 a1 a2 start).bind fun q hq=>?_
 ·unfold Mf;rw[Pw,decide_eq_true hp];refine(Ka b hb i h 3 hi (by omega)).bind fun z ⟨c1,c2,c3,c4⟩=>?_;have c2:z.1<=2:=c2;simp only[c3];exact(Oq b hb _ _ c4 (by omega) hl (node:=z.1) ⟨c1,c2⟩).bind fun w ⟨d1,d2,d3⟩=>.ret ⟨d2,d3,d1,rfl⟩
 ·unfold Mf;rw[Pw,decide_eq_false hp];rfl
 match q,hq with
 | .inl y2,⟨h1,h2,h3⟩=>
  simp only[Sum.elim_inl];rw[h1];have hbase:∀x,x∈y2.2.2.2.1->0<=x.1/\x.1<=2:=fun x hx=>(h3.new x hx).resolve_left List.not_mem_nil;refine(Ka b hb _ _ 6 h2 (by omega)).bind fun y3 ⟨e1,e2,e3,e4⟩=>?_;have e2:y3.1<=5:=e2;rw[e3];have Sc:NP 5 y2.2.2.2.1 (fun n=>n=0\/n=1) y2.2.2.2.1:=⟨h3.j,h3.len,h3.st,h3.SL,fun x hx=>hx,fun x hx=>.inl hx⟩
  have Sd:NP 5 y2.2.2.2.1 (fun n=>n=2\/n=3\/n=5) y2.2.2.2.1:=⟨h3.j,h3.len,h3.st,h3.SL,fun x hx=>hx,fun x hx=>.inl hx⟩
  refine(OJ b hb (body:=Mg (y2.2.2.2.1,())) 5 (by omega) (fun i h Pd l n hi hn hl hp=>?_) (fun i h Pd l hp=>?_) y3.2.2.1 y3.2.2.2.1 y3.1 y2.2.2.2.1 e4 e1 e2 Sc).bind fun q hq=>?_
  ·unfold Mg;rw[Pw,decide_eq_true hp];refine(Mj b hb i h [0,1,1] hi (by simp) (by simp)).bind fun z ⟨c1,c3,c4⟩=>?_;have c1:z.1=0\/z.1=1:=by simpa using c1
   simp only[c3];exact(Oq b hb _ _ c4 (by omega) hl (node:=z.1) c1).bind fun w ⟨d1,d2,d3⟩=>.ret ⟨d2,d3,d1,rfl⟩
  ·unfold Mg;rw[Pw,decide_eq_false hp];rfl
  match q,hq with
  | .inl y5,⟨k1,k2,k3⟩=>
   simp only[Sum.elim_inl];rw[k1];refine(Ka b hb _ _ 6 k2 (by omega)).bind fun y6 ⟨f1,f2,f3,f4⟩=>?_;have f2:y6.1<=5:=f2;rw[f3];refine(OJ b hb (body:=Mh (y5.2.2.2.1,())) 5 (by omega) (fun i h Pd l n hi hn hl hp=>?_) (fun i h Pd l hp=>?_) y6.2.2.1 y6.2.2.2.1 y6.1 y2.2.2.2.1 f4 f1 f2 Sd).bind fun q hq=>?_
   ·unfold Mh;rw[Pw,decide_eq_true hp];refine(Mj b hb i h [2,3,5] hi (by simp) (by simp)).bind fun z ⟨c1,c3,c4⟩=>?_;have c1:z.1=2\/z.1=3\/z.1=5:=by simpa using c1
    simp only[c3];exact(Oq b hb _ _ c4 (by omega) hl (node:=z.1) c1).bind fun w ⟨d1,d2,d3⟩=>.ret ⟨d2,d3,d1,rfl⟩
   ·unfold Mh;rw[Pw,decide_eq_false hp];rfl
   match q,hq with
   | .inl y8,⟨m1,m2,m3⟩=>exact .ret ⟨by have:=k3.len;show y5.2.2.2.1.length<=60;omega,by have:=m3.len;show y8.2.2.2.1.length<=60;omega,m1,m2⟩
theorem Pe(code:List Int)(hb:code.length<=1048576):Yl (Ld code) fun y=>y.1.length<=60/\y.2.1.length<=60:=by unfold Ld;refine(R9 code hb).bind fun y0 ⟨h1,h2⟩=>?_;rw[h1];refine(Pt code hb _ _ (by rw[h2];exact Int.le_refl _)).bind fun y1 ⟨a1,a2,a3,a4⟩=>?_;rw[a3];refine(Ka code hb _ _ 8 a4 (by omega)).bind fun y2 ⟨_,_,b3,b4⟩=>?_;rw[b3];refine .cond (fun _=>(Qy code hb _ _ b4).bind fun y3 ⟨c1,_,_⟩=>.ret ⟨a1,c1⟩) fun _=>.cond (fun _=>.cond (fun hg=>?_) fun _=>.ret ⟨a1,a2⟩) fun _=>.ret ⟨a1,a2⟩;have hg:(0:Int)<(y1.2.1.length:Int):=of_decide_eq_true hg;have e:(List.append (α:=Ev) ([]:List Ev) y1.2.1)=y1.2.1:=rfl;refine .guard (L0 (by rw[e];omega)) (.guard (NG (by omega) hg) (.lets (.guard (NG (by omega) hg) (.lets (.ret ⟨a1,?_⟩)))));show(aC y1.2.1 0 _).length<=60;unfold aC;rw[List.length_set];exact a2
theorem Pu(code:List Int):LS code=some (true,()):=by
 unfold LS OT;simp only[Option.bind_some];cases hbig:af .gtr (ai code) 1048576 with
 |true=>rfl
 |false=>
  have hb:code.length<=1048576:=by have:¬((1048576:Int)<(code.length:Int)):=of_decide_eq_false hbig;omega
  simp only[cond_false];obtain⟨⟨a,b,u⟩,he,ha,hb'⟩:=Pe code hb;have ha:a.length<=60:=ha;have hb':b.length<=60:=hb';have SP:=OV a b;have hout:∀m:List Ev,Lm (a,b,(Kj a b).2,()) (m,(Kj a b).1,(0:Int),())=some (.inr (.inl (m,(Kj a b).1,()))):=fun m=>by
   refine aU (body:=K3 (a,b,(Kj a b).2,())) (fun n=>(m,(Kj a b).1,(n:Int),())) a.length (by omega) (.inr (.inl (m,(Kj a b).1,()))) (fun n hn=>?_) ?_
   ·have hin:Ln (a,b,(Kj a b).2,(n:Int),()) (m,(Kj a b).1,(0:Int),())=some (.inr (.inl (m,(Kj a b).1,()))):=by
     refine aU (body:=K4 (a,b,(Kj a b).2,(n:Int),())) (fun k=>(m,(Kj a b).1,(k:Int),())) b.length (by omega) (.inr (.inl (m,(Kj a b).1,()))) (fun k hk=>?_) ?_
     ·unfold K4;simp only[aj,hk,hn,decide_true,cond_true,ax,ak,au (n:=k) (show k<1099511627776 by omega)];cases hM:(Kj a b).2 with
      |false=>rfl
      |true=>
       simp only[cond_true];cases h1:af .eql (a.getD n bf).1 (b.getD k bf).1 with
       |false=>rfl
       |true=>
        simp only[cond_true];cases h2:af .eql (a.getD n bf).2.1 (b.getD k bf).2.1 with
        |false=>rfl
        |true=>have hxy:=(NT hM).2.2.2.2.2 _ (LK hn bf) _ (LK hk bf) (by simpa[af] using h1) (by simpa[af] using h2);rw[hxy];simp[af,aR]
     ·unfold K4;simp only[aj,Nat.lt_irrefl,decide_false,cond_false]
    unfold K3;simp only[aj,hn,decide_true,cond_true,hin,Option.bind_some,Sum.elim_inr,Sum.elim_inl,au (n:=n) (show n<1099511627776 by omega)]
   ·unfold K3;simp only[aj,Nat.lt_irrefl,decide_false,cond_false]
  simp only[he,Option.bind_some,Pg,Om,QC,Bool.not_true,cond_false,PJ (Kj a b).1 (by omega),NW,OS,hout,Sum.elim_inr,Sum.elim_inl];cases hM:(Kj a b).2 with
  |false=>rw[Pz hM];rfl
  |true=>
   obtain⟨_,_,_,hm,_,_⟩:=NT hM;revert hm SP;generalize (Kj a b).1=m;intro SP hm;simp only[Bool.not_true,cond_false];have l4:Lo (a,b,()) (m,(0:Int),())=some (.inr (.inl (m,()))):=by
    refine aU (body:=K5 (a,b,())) (fun n=>(m,(n:Int),())) m.length (by omega) (.inr (.inl (m,()))) (fun n hn=>?_) ?_
    ·unfold K5;simp only[aj,hn,decide_true,cond_true,ax,ak,au (n:=n) (show n<1099511627776 by omega),Of a _ (show a.length<=1073741824 by omega),Of b _ (show b.length<=1073741824 by omega),Option.bind_some];have hx:=(hm _).1 (LK hn bf);by_cases h1:m.getD n bf∈a
     ·simp only[decide_eq_true h1,Bool.not_true,cond_false]
     ·simp only[decide_eq_false h1,decide_eq_true (hx.resolve_left h1),Bool.not_false,Bool.not_true,cond_true,cond_false]
    ·unfold K5;simp only[aj,Nat.lt_irrefl,decide_false,cond_false]
   have l6:Lp (a,b,()) (m,(0:Int),())=some (.inr (.inl ())):=by
    have hlen:aa .add .i64 (ai a) (ai b)=((a.length+b.length:Nat):Int):=by unfold ai;rw[bU (by omega) (by omega)];omega
    refine aU (body:=K6 (a,b,())) (fun n=>(m,(n:Int),())) (a.length+b.length) (by omega) (.inr (.inl ())) (fun n hn=>?_) ?_
    ·unfold K6;simp only[hlen,eM,hn,decide_true,cond_true,aj,ax,ak,au (n:=n) (show n<1099511627776 by omega)];have hge:af .geq (n:Int) (ai a)=decide (a.length<=n):=by simp only[af,ai,ge_iff_le,decide_eq_decide];omega
     rw[hge];by_cases h1:n<a.length
     ·simp only[decide_eq_true h1,decide_eq_false (show ¬a.length<=n by omega),cond_true,cond_false,Of m _ (show m.length<=1073741824 by omega),Option.bind_some,decide_eq_true ((hm _).2 (.inl (LK h1 bf))),Bool.not_true]
     ·have hs:aa .sub .i64 (n:Int) (ai a)=((n-a.length:Nat):Int):=by
       unfold ai;rw[bM (by omega) (by omega)];omega
      have h2:n-a.length<b.length:=by omega
      simp only[decide_eq_false h1,decide_eq_true (show a.length<=n by omega),cond_true,cond_false,hs,ax,h2,decide_true,ak,Of m _ (show m.length<=1073741824 by omega),Option.bind_some,decide_eq_true ((hm _).2 (.inr (LK h2 bf))),Bool.not_true]
    ·unfold K6;simp only[hlen,eM,Nat.lt_irrefl,decide_false,cond_false]
   simp only[l4,l6,Option.bind_some,Sum.elim_inr,Sum.elim_inl]
end Go.Fn

