import Derived.Test.YthdhgmppijjhpaaGreatRoundForQA
/- Plain functions that stand for Go functions, and what they answer. Conditions: none. -/
set_option autoImplicit false
set_option linter.unusedVariables false
set_option linter.unusedSimpArgs false
set_option linter.unusedVariables false
set_option linter.unusedSimpArgs false
namespace Go.Fn
open Go.R
noncomputable def Sm{α:Type}(P:α->Prop)(x y:Option α):Prop:=∃r,x=some r/\y=some r/\P r
section
variable {α β:Type} {P:α->Prop} {Q:β->Prop}
theorem Sm.ret{a:α}(h:P a):Sm P (some a) (some a):=⟨a,rfl,rfl,h⟩
theorem Sm.bind{x y:Option α}{f g:α->Option β}(hx:Sm P x y)(h:∀r,P r->Sm Q (f r) (g r)):Sm Q (x.bind f) (y.bind g):=by obtain⟨r,rfl,rfl,hr⟩:=hx;exact h r hr
theorem Sm.cond{b:Bool}{x y x' y':Option α}(hx:b=true->Sm P x x')(hy:b=false->Sm P y y'):Sm P (bif b then x else y) (bif b then x' else y'):=by
 cases b
 ·exact hy rfl
 ·exact hx rfl
theorem Sm.guard{b c:Bool}{x y:Option α}(hb:b=true)(hc:c=true)(h:Sm P x y):Sm P (bif b then x else none) (bif c then y else none):=by subst hb hc;exact h
theorem Sm.mono{P':α->Prop}{x y:Option α}(h:Sm P x y)(hp:∀r,P r->P' r):Sm P' x y:=by obtain⟨r,e1,e2,hr⟩:=h;exact⟨r,e1,e2,hp r hr⟩
theorem Sm.symm{x y:Option α}(h:Sm P x y):Sm P y x:=by obtain⟨r,e1,e2,hr⟩:=h;exact⟨r,e2,e1,hr⟩
theorem QG{X Y:Type}{body body':X->Option (X⊕Y)}(Inv:X->Prop)(m:X->Nat){Q:Y->Prop}(h:∀x,Inv x->Sm (fun r=>match r with| .inl a=>Inv a/\m a<m x| .inr b=>Q b) (body x) (body' x)):∀(fu:Nat) (x:X),Inv x->m x<fu->Sm Q (iter body fu x) (iter body' fu x)
 |0,x,_,hm=>absurd hm (Nat.not_lt_zero _)
 |fu+1,x,hi,hm=>by
  obtain⟨r,e1,e2,hr⟩:=h x hi;cases r with
  |inl a=>rw[aH e1,aH e2];exact QG Inv m h fu a hr.1 (by have:=hr.2;omega)
  |inr b=>exact⟨b,ay e1,ay e2,hr⟩
end
theorem NW {B Y:Type} {body body':B×Int×Unit->Option ((B×Int×Unit)⊕Y)} (len:Nat) (hlen:len<=1073741824) {Q:Y->Prop} (I:B->Prop)
  (hs:∀b n,n<len->I b->Sm (fun r=>match r with| .inl a=>I a.1/\a.2.1=((n+1:Nat):Int)| .inr y=>Q y) (body (b,(n:Int),())) (body' (b,(n:Int),()))) (he:∀b,I b->Sm (fun r=>match r with| .inl a=>False| .inr y=>Q y) (body (b,(len:Int),())) (body' (b,(len:Int),()))) (b:B) (hb:I b):Sm Q (iter body big (b,0,())) (iter body' big (b,0,())):=by
 refine QG (fun x=>I x.1/\0<=x.2.1/\x.2.1<=(len:Int)) (fun x=>((len:Int)-x.2.1).toNat) (fun x hx=>?_) big (b,0,()) ⟨hb,Int.le_refl _,by show(0:Int)<=(len:Int);omega⟩ (aT (by show((len:Int)-0).toNat<_;omega));obtain⟨b,i,u⟩:=x;obtain⟨h0,h1,h2⟩:=hx;have h1:0<=i:=h1;have h2:i<=(len:Int):=h2;obtain⟨n,rfl⟩:∃n:Nat,i=(n:Int):=⟨i.toNat,by omega⟩
 by_cases h:n<len
 ·refine(hs b n h h0).mono fun r hr=>?_;cases r with
  |inr y=>exact hr
  |inl a=>obtain⟨q1,q2⟩:=hr;refine⟨⟨q1,by rw[q2];omega,by rw[q2];omega⟩,?_⟩;show((len:Int)-a.2.1).toNat<((len:Int)-(n:Int)).toNat;rw[q2];omega
 ·have hn:n=len:=by omega
  subst hn;refine(he b h0).mono fun r hr=>?_;cases r with
  |inl a=>exact hr.elim
  |inr y=>exact hr
theorem SQ {Y:Type} {body body':Int×Unit->Option ((Int×Unit)⊕Y)} (len:Nat) (hlen:len<=1073741824) (F:Nat->Prop) {Q:Y->Prop}
  (hs:∀n,n<len->Sm (fun r=>match r with| .inl a=>a.1=((n+1:Nat):Int)/\F n| .inr y=>Q y) (body ((n:Int),())) (body' ((n:Int),()))) (he:(∀n,n<len->F n)->Sm (fun r=>match r with| .inl a=>False| .inr y=>Q y) (body ((len:Int),())) (body' ((len:Int),()))):Sm Q (iter body big (0,())) (iter body' big (0,())):=by
 refine QG (fun x=>0<=x.1/\x.1<=(len:Int)/\∀m:Nat,(m:Int)<x.1->F m) (fun x=>((len:Int)-x.1).toNat) (fun x hx=>?_) big (0,()) ⟨Int.le_refl _,by show(0:Int)<=(len:Int);omega,fun m hm=>by have hm:(m:Int)<0:=hm;omega⟩ (aT (by show((len:Int)-0).toNat<_;omega));obtain⟨i,u⟩:=x;obtain⟨h1,h2,h3⟩:=hx;have h1:0<=i:=h1;have h2:i<=(len:Int):=h2;have h3:∀m:Nat,(m:Int)<i->F m:=h3;obtain⟨n,rfl⟩:∃n:Nat,i=(n:Int):=⟨i.toNat,by omega⟩
 by_cases h:n<len
 ·refine(hs n h).mono fun r hr=>?_;cases r with
  |inr y=>exact hr
  |inl a=>
   obtain⟨q2,q3⟩:a.1=((n+1:Nat):Int)/\F n:=hr;refine⟨⟨by rw[q2];omega,by rw[q2];omega,fun m hm=>?_⟩,?_⟩
   ·rw[q2]at hm;rcases Nat.lt_or_ge m n with hmn|hmn
    ·exact h3 m (by omega)
    ·rw[show m=n by omega];exact q3
   ·show((len:Int)-a.1).toNat<((len:Int)-(n:Int)).toNat;rw[q2];omega
 ·have hn:n=len:=by omega
  subst hn;refine(he fun m hm=>h3 m (by omega)).mono fun r hr=>?_;cases r with
  |inl a=>exact hr.elim
  |inr y=>exact hr
abbrev Any{α:Type}:α->Prop:=fun _=>True
theorem Xs{α:Type}{x y:Option α}{a:α}(h1:x=some a)(h2:y=some a):Sm (fun r=>r=a) x y:=⟨a,h1,h2,rfl⟩
theorem PV(a lo hi:Int):Sm (fun r=>r=(g6 a lo hi,())) (bt a lo hi) (bu a lo hi):=Xs (mS a lo hi) (ev a lo hi)
theorem Um:∀(k:Fin 3) (t:Fin 7) (a b c:Bool),IG ((k.val:Nat):Int) ((t.val:Nat):Int) a b c=qW ((k.val:Nat):Int) ((t.val:Nat):Int) a b c/\(qW ((k.val:Nat):Int) ((t.val:Nat):Int) a b c).isSome=true:=by decide +kernel
theorem UL(k t:Int)(a b c:Bool):Sm (fun r=>r.1=true->0<=k/\k<=2) (IG k t a b c) (qW k t a b c):=by
 cases hk:g6 k 0 2 with
 |false=>
  refine⟨(false,()),?_,?_,fun h=>by cases h⟩
  ·unfold IG;rw[mS,hk];rfl
  ·unfold qW;rw[ev,hk];rfl
 |true=>
  obtain⟨h1,h2⟩:=gb.1 hk;cases ht:g6 t 0 6 with
  |false=>
   refine⟨(false,()),?_,?_,fun h=>by cases h⟩
   ·unfold IG;rw[mS,hk,mS,ht];rfl
   ·unfold qW;rw[ev,hk,ev,ht];rfl
  |true=>obtain⟨h3,h4⟩:=gb.1 ht;have:=Um ⟨k.toNat,by omega⟩ ⟨t.toNat,by omega⟩ a b c;simp only[Int.toNat_of_nonneg h1,Int.toNat_of_nonneg h3]at this;obtain⟨r,hr⟩:=Option.isSome_iff_exists.1 this.2;exact⟨r,this.1.trans hr,hr,fun _=>⟨h1,h2⟩⟩
theorem UY(a b c d e:Int):Sm Any (Nq a b c d e) (M6 a b c d e):=by unfold Nq M6 ii hD;simp only[mS,ev,Option.bind_some];cases g6 a 1 2147483646 <;> cases g6 b 0 1000001 <;> cases g6 c 0 2 <;> cases g6 d 0 6 <;> exact .ret trivial
theorem Up(a b c d e f:Int)(o:Bool):Sm Any (JB a b c d e f o) (tb a b c d e f o):=by unfold JB tb hM g4 LP gg;simp only[mS,ev,Option.bind_some];cases g6 a 1 40 <;> cases g6 b 1 40 <;> cases af .neq a b <;> cases g6 c 0 999 <;> cases g6 d 0 5 <;> cases g6 e 0 20000 <;> cases g6 f 0 20000 <;> exact .ret trivial
noncomputable def Vl(x:Rx):Bool:=match tb x.1 x.2.1 x.2.2.1 x.2.2.2.1 x.2.2.2.2.1 x.2.2.2.2.2.1 x.2.2.2.2.2.2 with|some r=>r.1|none=>false
theorem Uo(x:Rx):JB x.1 x.2.1 x.2.2.1 x.2.2.2.1 x.2.2.2.2.1 x.2.2.2.2.2.1 x.2.2.2.2.2.2=some (Vl x,())/\tb x.1 x.2.1 x.2.2.1 x.2.2.2.1 x.2.2.2.2.1 x.2.2.2.2.2.1 x.2.2.2.2.2.2=some (Vl x,()):=by
 obtain⟨r,e1,e2,_⟩:=Up x.1 x.2.1 x.2.2.1 x.2.2.2.1 x.2.2.2.2.1 x.2.2.2.2.2.1 x.2.2.2.2.2.2;have:Vl x=r.1:=by unfold Vl;rw[e2]
 rw[this];exact⟨e1,e2⟩
theorem TB(g:List Rx)(hg:g.length<=1073741824):Sm Any (Kx g) (Kq g):=by
 unfold Kx Kq ea ei;have hs:Ke (g,()) (0,())=some (bif aB (fun n=>Vl (g.getD n cx)) 0 g.length then(Sum.inr (Sum.inl ()):Bool×Unit⊕(Unit⊕Empty))else .inl (false,())):=by
  refine bp (fun n=>((n:Int),())) g.length (by omega) _ _ _ (fun n hn=>?_) ?_
  ·unfold Kd;simp only[aj,az,hn,decide_true,cond_true,aq,(Uo _).1,Option.bind_some,av (n:=n) (by omega)];cases Vl (g.getD n cx) <;> rfl
  ·unfold Kd;simp only[aj,Nat.lt_irrefl,decide_false,cond_false]
 obtain⟨y,h1,h2⟩:=fP (body:=cv (g,ai g,())) (fun n=>((n:Int),())) g.length (by omega) (fun n=>Vl (g.getD n cx)) (Sum.inr (Sum.inl ())) (fun n=>Sum.inl ((n:Int),())) (fun n hn=>by
  unfold cv KS;simp only[aj,az,hn,decide_true,cond_true,aq,(Uo _).2,Option.bind_some,av (n:=n) (by omega)];cases Vl (g.getD n cx) <;> rfl) (by
  unfold cv;simp only[aj,Nat.lt_irrefl,decide_false,cond_false])
 have h1':ec (g,ai g,()) ((0:Int),())=some y:=h1;rw[hs,h1'];have hle:af .leq (ai g) (30:Int)=Bool.not (af .gtr (ai g) 30):=UW _ _;rw[hle];cases af .gtr (ai g) (30:Int)with
 |true=>exact .ret trivial
 |false=>
  simp only[Bool.not_false,cond_true,cond_false];rcases h2 with ⟨e1,rfl⟩|⟨e1,n,hn,rfl,_⟩
  ·rw[e1];exact⟨(true,()),rfl,rfl,trivial⟩
  ·rw[e1];have h0:af .geq (n:Int) 0=true:=by simp[af]
   refine⟨(false,()),rfl,?_,trivial⟩;show some (Bool.not (af .geq (n:Int) 0),())=_;rw[h0];rfl
section
variable (a0 a1 a2 a3 a4 a5 a6 a7 a8 a9 a10:Int) (s:List Site) (p:List Q0) (g:List Rx) (j:List Ev)
theorem RJ{x:Site}(h:Lh 1073741824 x):Ot x.2.2.1:=⟨h.b,fun c hc=>by obtain⟨n,hn,rfl⟩:=List.mem_iff_getElem.1 hc;have:=h.bs n hn;rw[List.getD_eq_getElem?_getD,List.getElem?_eq_getElem hn]at this;exact this⟩
theorem Va(o c:List LR):Sm Any (sS o c) (mu o c):=⟨_,IF o c,IC o c,trivial⟩
theorem UJ{L:List OO}(h:Ot L):Sm (fun r=>r.1=true->NS L=true) (KO L) (ID L):=⟨_,SU L h,SK L h,fun h=>h⟩
theorem Ri(l:List Ev):Sm Any (lm l) (ko l):=⟨_,UA l,Us l,trivial⟩
theorem U5(k:Nat)(hk:k<s.length)(hs:Lh 1073741824 (s.getD k bg))(hp:p.length<=1048576):Sm (fun r=>r.1=true->NS (s.getD k bg).2.2.1=true) (JO a0 a1 a2 a3 a4 a5 a6 a7 a8 a9 a10 s p g j (k:Int)) (Na a0 a1 a2 a3 a4 a5 a6 a7 a8 a9 a10 s p g j (k:Int)):=by
 unfold JO Na;refine .guard (cV hk) (cV hk) ?_;simp only[aq];have hz:s.getD k aS=s.getD k bg:=rfl;rw[hz];generalize s.getD k bg=x at hs;have no:∀ {Q:Prop},((false:Bool),()).1=true->Q:=fun h=>by cases h
 refine(Va x.1 x.2.1).bind fun r _=>.cond (fun _=>.ret no) fun _=>?_;refine(UJ (RJ hs)).bind fun r hr=>.cond (fun _=>.ret no) fun hb=>?_;have B8:NS x.2.2.1=true:=hr (by cases h:r.1 with|true=>rfl|false=>rw[h]at hb;cases hb);refine(UL x.2.2.2.1 x.2.2.2.2.1 x.2.2.2.2.2.1 x.2.2.2.2.2.2.1 x.2.2.2.2.2.2.2.1).bind fun r hr=>.cond (fun _=>.ret no) fun hb=>?_;have Xm:=hr (by cases h:r.1 with|true=>rfl|false=>rw[h]at hb;cases hb);refine(Ri x.2.2.2.2.2.2.2.2.2.2).bind fun r _=>.cond (fun _=>.ret no) fun _=>?_;refine .cond (fun _=>?_) fun _=>?_
 ·simp only[aV];exact .cond (fun _=>.ret fun _=>B8) fun _=>.ret no
 ·refine(PV x.2.2.2.2.2.2.2.2.1 1 (ai p)).bind fun r hr=>.cond (fun _=>.ret no) fun hb=>?_;subst hr;have hin:g6 x.2.2.2.2.2.2.2.2.1 1 (ai p)=true:=by cases h:g6 x.2.2.2.2.2.2.2.2.1 1 (ai p)with|true=>rfl|false=>rw[h]at hb;cases hb
  obtain⟨i1,i2⟩:=gb.1 hin;unfold ai at i2;have hsub:aa .sub .i64 x.2.2.2.2.2.2.2.2.1 1=x.2.2.2.2.2.2.2.2.1-1:=bO (by omega) (by omega);rw[hsub];have hr:ah p (x.2.2.2.2.2.2.2.2.1-1)=true:=OR (by omega) (by omega);rw[hr];simp only[cond_true];refine .cond (fun _=>.ret no) fun _=>.cond (fun _=>.ret no) fun _=>?_;obtain⟨k1,k2⟩:=Xm;unfold bt g4;simp only[ev];have hc:x.2.2.2.1=0\/x.2.2.2.1=1\/x.2.2.2.1=2:=by omega
  rcases hc with hc|hc|hc <;> rw[hc]
  ·exact .ret no
  ·show Sm _ (bif af .eql x.2.2.2.2.2.2.2.2.2.1 0 then _ else _) (bif af .eql x.2.2.2.2.2.2.2.2.2.1 0 then _ else _);cases af .eql x.2.2.2.2.2.2.2.2.2.1 0 with
   |true=>exact .ret fun _=>B8
   |false=>exact .ret no
  ·show Sm _ (bt x.2.2.2.2.2.2.2.2.2.1 0 40 |>.bind _) (bif af .eql x.2.2.2.2.2.2.2.2.2.1 0 then _ else(some (g6 x.2.2.2.2.2.2.2.2.2.1 1 40,())).bind fun y=>some (y.1,()));rw[mS];cases hq:af .eql x.2.2.2.2.2.2.2.2.2.1 0 with
   |true=>have:x.2.2.2.2.2.2.2.2.2.1=0:=RB.1 hq;rw[this];exact⟨(true,()),rfl,rfl,fun _=>B8⟩
   |false=>
    have h0:x.2.2.2.2.2.2.2.2.2.1≠0:=fun e=>by rw[RB.2 e]at hq;cases hq
    have:g6 x.2.2.2.2.2.2.2.2.2.1 0 40=g6 x.2.2.2.2.2.2.2.2.2.1 1 40:=by rw[Bool.eq_iff_iff,gb,gb];omega
    rw[this];exact⟨_,rfl,rfl,fun _=>B8⟩
theorem RQ(a:Int):Sm Any (hM a) (g4 a):=by unfold hM g4;rw[mS,ev];exact .ret trivial
theorem TN(n:Int):Sm Any (Ia a0 a1 a2 a3 a4 a5 a6 a7 a8 a9 a10 s p g j n) (FI a0 a1 a2 a3 a4 a5 a6 a7 a8 a9 a10 s p g j n):=by obtain⟨y,e1,e2⟩:=TM a0 a1 a2 a3 a4 a5 a6 a7 a8 a9 a10 s p g j n;exact⟨_,e1,e2,trivial⟩
theorem QW(x:Q0)(k:Nat)(hk:k<p.length)(hx:p.getD k bf=x)(h0:0<=x.2.2.1)(h1:x.2.2.1<s.length):Sm Any (mm a0 a1 a2 a3 a4 a5 a6 a7 a8 a9 a10 s p g j (k:Int)) (n3 a0 a1 a2 a3 a4 a5 a6 a7 a8 a9 a10 s p g j x.1 x.2.1 x.2.2.1 x.2.2.2.1 x.2.2.2.2.1 x.2.2.2.2.2.1 x.2.2.2.2.2.2.1 x.2.2.2.2.2.2.2.1 x.2.2.2.2.2.2.2.2.1 x.2.2.2.2.2.2.2.2.2.1 x.2.2.2.2.2.2.2.2.2.2.1 x.2.2.2.2.2.2.2.2.2.2.2.1 x.2.2.2.2.2.2.2.2.2.2.2.2):=by unfold mm n3;rw[cV hk,aq,hx,OR h0 h1];simp only[cond_true];exact .cond (fun _=>.ret trivial) fun _=>.cond (fun _=>.ret trivial) fun _=>.cond (fun _=>.ret trivial) fun _=>.ret trivial
theorem TJ(k:Nat)(hk:k<p.length)(hs:s.length<=1048576):Sm (fun r=>r.1=true->0<=(p.getD k bf).2.2.1/\(p.getD k bf).2.2.1<s.length) (yx a0 a1 a2 a3 a4 a5 a6 a7 a8 a9 a10 s p g j (k:Int)) (Kr a0 a1 a2 a3 a4 a5 a6 a7 a8 a9 a10 s p g j (k:Int)):=by
 unfold yx Kr;refine .guard (cV hk) (cV hk) ?_;simp only[aq];generalize hx:p.getD k bf=x;have no:∀ {Q:Prop},((false:Bool),()).1=true->Q:=fun h=>by cases h
 refine(PV x.1 1 24).bind fun r _=>.cond (fun _=>.ret no) fun _=>?_;refine(RQ x.2.1).bind fun r _=>.cond (fun _=>.ret no) fun _=>?_;refine(PV x.2.2.1 0 (aa .sub .i64 (ai s) 1)).bind fun r hr=>.cond (fun _=>.ret no) fun hb=>?_;subst hr;have hin:g6 x.2.2.1 0 (aa .sub .i64 (ai s) 1)=true:=by cases h:g6 x.2.2.1 0 (aa .sub .i64 (ai s) 1)with|true=>rfl|false=>rw[h]at hb;cases hb
 obtain⟨i1,i2⟩:=gb.1 hin;rw[bO (by unfold ai;omega) (by unfold ai;omega)]at i2;have i2:x.2.2.1<s.length:=by unfold ai at i2;omega
 have yes:∀ {b:Bool},b=true->0<=x.2.2.1/\x.2.2.1<s.length:=fun _=>⟨i1,i2⟩
 refine(PV x.2.2.2.1 0 5).bind fun r _=>.cond (fun _=>.ret no) fun _=>?_;refine .cond (fun _=>.guard (OR i1 i2) (OR i1 i2) (.cond (fun _=>.ret no) fun _=>?_)) fun _=>?_;all_goals
  refine(QW a0 a1 a2 a3 a4 a5 a6 a7 a8 a9 a10 s p g j x k hk hx i1 i2).bind fun r _=>.cond (fun _=>?_) fun _=>?_
  ·refine .cond (fun _=>.cond (fun _=>.cond (fun _=>.cond (fun _=>?_) fun _=>.ret no) fun _=>.ret no) fun _=>.ret no) fun _=>.ret no;simp only[aV];exact .ret yes
  ·refine(PV x.2.2.2.2.1 0 a10).bind fun r _=>.cond (fun _=>.ret no) fun _=>?_;refine(PV x.2.2.2.2.2.1 0 a7).bind fun r _=>.cond (fun _=>.ret no) fun _=>?_;refine(UY x.2.2.2.2.2.2.1 x.2.2.2.2.2.2.2.1 x.2.2.2.2.2.2.2.2.1 x.2.2.2.2.2.2.2.2.2.1 x.2.2.2.2.2.2.2.2.2.2.1).bind fun r _=>.cond (fun _=>.ret no) fun _=>?_;refine(TN a0 a1 a2 a3 a4 a5 a6 a7 a8 a9 a10 s p g j (aa .add .i64 (k:Int) 1)).bind fun r _=>.cond (fun _=>.ret no) fun _=>?_;refine .cond (fun _=>?_) fun _=>?_
   ·refine(RQ x.2.2.2.2.2.2.2.2.2.2.2.1).bind fun r _=>.cond (fun _=>?_) fun _=>.ret no;exact(PV x.2.2.2.2.2.2.2.2.2.2.2.2 0 (aa .add .i64 a4 (aa .mul .i64 a6 a7))).bind fun r _=>.ret yes
   ·exact .cond (fun _=>.ret yes) fun _=>.ret no
theorem UX(hp:p.length<=1048576)(hs:∀k,k<p.length->0<=(p.getD k bf).2.2.1/\(p.getD k bf).2.2.1<s.length):Sm Any (LQ a0 a1 a2 a3 a4 a5 a6 a7 a8 a9 a10 s p g j) (M9 a0 a1 a2 a3 a4 a5 a6 a7 a8 a9 a10 s p g j):=by
 unfold LQ M9;refine(NW (B:=Int) (Q:=Any) p.length (by omega) (fun _=>True) (fun b n hn _=>?_) (fun b _=>?_) (0:Int) trivial).bind fun q _=>?_
 ·unfold Lq Mn;simp only[aj,az,hn,decide_true,cond_true,aq,av (n:=n) (by omega)];obtain⟨h0,h1⟩:=hs n hn;refine .cond (fun _=>?_) fun _=>.ret ⟨trivial,rfl⟩;refine(QW a0 a1 a2 a3 a4 a5 a6 a7 a8 a9 a10 s p g j (p.getD n bf) n hn rfl h0 h1).bind fun r _=>.cond (fun _=>.ret ⟨trivial,rfl⟩) fun _=>.ret ⟨trivial,rfl⟩
 ·unfold Lq Mn;simp only[aj,Nat.lt_irrefl,decide_false,cond_false];exact .ret trivial
 ·cases q with
  |inl y=>exact .ret trivial
  |inr e=>exact e.elim
theorem VA(k i:Int)(WS:List OO)(l:List Bx)(hl:l.length<=1073741824)(xP:∀n,n<l.length->0<=(l.getD n hU).2.2.1/\(l.getD n hU).2.2.1<=999)(hp:p.length<=1048576)(c:Int):
  Sm Any (Iz (a0,a1,a2,a3,a4,a5,a6,a7,a8,a9,a10,s,p,g,j,k,i,l,()) (c,0,())) (K4 (a0,a1,a2,a3,a4,a5,a6,a7,a8,a9,a10,s,p,g,j,k,s,ai s,k,WS,ai WS,i,l,ai l,()) (c,0,())):=by
 refine NW (B:=Int) (Q:=Any) l.length (by omega) (fun _=>True) (fun b n hn _=>?_) (fun b _=>?_) c trivial
 ·unfold Iw K1;obtain⟨h0,h9⟩:=xP n hn;revert h0 h9;simp only[aj,az,hn,decide_true,cond_true,aq,av (n:=n) (by omega),ev,Option.bind_some,aV];generalize l.getD n hU=x;intro h0 h9;refine .cond (fun _=>.ret ⟨trivial,rfl⟩) fun hz=>?_;have hz:¬x.2.2.1=0:=fun e=>by rw[RB.2 e]at hz;cases hz
  have hb:Bool.not (g6 x.2.2.1 1 (ai p))=af .gtr x.2.2.1 (ai p):=by
   cases hq:af .gtr x.2.2.1 (ai p)with
   |true=>
    have:=WV.1 hq;have:g6 x.2.2.1 1 (ai p)=false:=by rw[Bool.eq_false_iff,ne_eq,gb];omega
    rw[this];rfl
   |false=>have:=Uq.1 hq;have:g6 x.2.2.1 1 (ai p)=true:=gb.2 ⟨by omega,by omega⟩;rw[this];rfl
  rw[hb];refine .cond (fun _=>.ret trivial) fun hg=>?_;have hg:=Uq.1 hg;unfold ai at hg;rw[bO (by omega) (by omega)];refine .guard (OR (by omega) (by omega)) (OR (by omega) (by omega)) ?_;generalize ae bf p (x.2.2.1-1)=y;cases af .neq y.2.2.1 k <;> cases af .neq y.1 x.2.1 <;> cases af .neq y.2.2.2.1 2 <;> cases af .neq y.2.2.2.1 3 <;> cases af .eql y.2.2.2.1 2 <;> cases x.2.2.2 <;> first|exact .ret trivial|exact .ret ⟨trivial,rfl⟩
 ·unfold Iw K1;simp only[aj,Nat.lt_irrefl,decide_false,cond_false];exact .ret trivial
theorem Vz(k:Nat)(hk:k<s.length)(hs:Lh 1073741824 (s.getD k bg))(hb:NS (s.getD k bg).2.2.1=true)(hp:p.length<=1048576)(c:Int):
  Sm Any (Iy (a0,a1,a2,a3,a4,a5,a6,a7,a8,a9,a10,s,p,g,j,(k:Int),()) (c,0,())) (K3 (a0,a1,a2,a3,a4,a5,a6,a7,a8,a9,a10,s,p,g,j,(k:Int),s,ai s,(k:Int),(s.getD k bg).2.2.1,ai (s.getD k bg).2.2.1,()) (c,0,())):=by
 have hw:=RJ hs;refine NW (B:=Int) (Q:=Any) (s.getD k bg).2.2.1.length (by have:=hw.1;omega) (fun _=>True) (fun b n hn _=>?_) (fun b _=>?_) c trivial
 ·unfold Iv K0;have hz:s.getD k aS=s.getD k bg:=rfl;simp only[az,hk,decide_true,cond_true,aq,hz,aj,hn,av (n:=n) (by have:=hw.1;omega)];refine(VA a0 a1 a2 a3 a4 a5 a6 a7 a8 a9 a10 s p g j (k:Int) (n:Int) (s.getD k bg).2.2.1 (c6 (s.getD k bg).2.2.1 n).2.2 (hw.at hn).2 (fun m hm=>?_) hp b).bind fun q _=>?_
  ·unfold NS at hb;rw[Bool.and_eq_true]at hb;have:=(aQ _ _).1 hb.2 n (Nat.zero_le _) (by omega);unfold NX RW at this;simp only[Bool.and_eq_true]at this;have:=(aQ _ _).1 this.1.2.1.1 m (Nat.zero_le _) (by omega);unfold TZ at this;simp only[Bool.and_eq_true]at this;exact gb.1 this.1.1.2
  ·cases q with
   |inl y=>exact .ret trivial
   |inr q=>
    cases q with
    |inl y=>exact .ret ⟨trivial,rfl⟩
    |inr e=>exact e.elim
 ·unfold Iv K0;have hz:s.getD k aS=s.getD k bg:=rfl;simp only[az,hk,decide_true,cond_true,aq,hz,aj,Nat.lt_irrefl,decide_false,cond_false];exact .ret trivial
theorem Uj(hle:QS s p g j)(hb:∀k,k<s.length->NS (s.getD k bg).2.2.1=true):Sm Any (Io a0 a1 a2 a3 a4 a5 a6 a7 a8 a9 a10 s p g j) (LC a0 a1 a2 a3 a4 a5 a6 a7 a8 a9 a10 s p g j):=by
 have hls:=hle.ls;have XF:=hle.lp;unfold Io LC;refine(NW (B:=Int) (Q:=Any) s.length (by omega) (fun _=>True) (fun b n hn _=>?_) (fun b _=>?_) (0:Int) trivial).bind fun q _=>?_
 ·unfold Iu KZ;have hz:∀n,s.getD n aS=s.getD n bg:=fun _=>rfl;simp only[aj,az,hn,decide_true,cond_true,aq,av (n:=n) (by omega),hz];refine(Vz a0 a1 a2 a3 a4 a5 a6 a7 a8 a9 a10 s p g j n hn (hle.ss n hn) (hb n hn) XF b).bind fun q _=>?_;cases q with
  |inl y=>exact .ret trivial
  |inr q=>
   cases q with
   |inl y=>exact .ret ⟨trivial,rfl⟩
   |inr e=>exact e.elim
 ·unfold Iu KZ;simp only[aj,Nat.lt_irrefl,decide_false,cond_false];exact .ret trivial
 ·cases q with
  |inl y=>exact .ret trivial
  |inr q=>
   cases q with
   |inr e=>exact e.elim
   |inl y=>
    refine(NW (B:=Int) (Q:=Any) p.length (by omega) (fun _=>True) (fun b n hn _=>?_) (fun b _=>?_) y.1 trivial).bind fun q _=>?_
    ·unfold Ix K2;simp only[aj,az,hn,decide_true,cond_true,aq,av (n:=n) (by omega)];exact .cond (fun _=>.ret ⟨trivial,rfl⟩) fun _=>.cond (fun _=>.ret ⟨trivial,rfl⟩) fun _=>.ret ⟨trivial,rfl⟩
    ·unfold Ix K2;simp only[aj,Nat.lt_irrefl,decide_false,cond_false];exact .ret trivial
    ·cases q with
     |inl y=>exact .ret trivial
     |inr e=>exact e.elim
theorem S9(hle:QS s p g j):Sm Any (JE a0 a1 a2 a3 a4 a5 a6 a7 a8 a9 a10 s p g j) (ia a0 a1 a2 a3 a4 a5 a6 a7 a8 a9 a10 s p g j):=by
 have hls:=hle.ls;have XF:=hle.lp;have hlg:=hle.lg;unfold JE ia;refine Sm.bind (P:=Any) ⟨_,Qs ..,NZ ..,trivial⟩ fun r _=>.cond (fun _=>.ret trivial) fun _=>?_;refine(PV a8 0 1000).bind fun r _=>.cond (fun _=>.ret trivial) fun _=>?_;refine Sm.bind (P:=Any) (by unfold ii hD;rw[mS,ev];exact .ret trivial) fun r _=>.cond (fun _=>.ret trivial) fun _=>?_;refine Sm.bind (P:=Any) (by rw[mS,zT];exact .ret trivial) fun r _=>.cond (fun _=>.ret trivial) fun _=>?_;refine(PV (ai s) 1 3).bind fun r _=>.cond (fun _=>.ret trivial) fun _=>.cond (fun _=>.ret trivial) fun _=>?_;refine(TB g (by omega)).bind fun r _=>.cond (fun _=>.ret trivial) fun _=>?_;refine(Ri j).bind fun r _=>.cond (fun _=>.ret trivial) fun _=>?_;refine(SQ s.length (by omega) (fun n=>NS (s.getD n bg).2.2.1=true) (Q:=fun y=>match y with| .inl _=>True| .inr _=>∀n,n<s.length->NS (s.getD n bg).2.2.1=true) (fun n hn=>?_) (fun hF=>?_)).bind fun q hq=>?_
 ·unfold JF IM;simp only[aj,hn,decide_true,cond_true,av (n:=n) (by omega)];refine(U5 a0 a1 a2 a3 a4 a5 a6 a7 a8 a9 a10 s p g j n hn (hle.ss n hn) XF).bind fun r hr=>.cond (fun _=>.ret trivial) fun hb=>.ret ⟨rfl,hr ?_⟩;cases h:r.1 with|true=>rfl|false=>rw[h]at hb;cases hb
 ·unfold JF IM;simp only[aj,Nat.lt_irrefl,decide_false,cond_false];exact .ret hF
 ·cases q with
  |inl y=>exact .ret trivial
  |inr q=>
   cases q with
   |inr e=>exact e.elim
   |inl y=>
    have Xl:∀n,n<s.length->NS (s.getD n bg).2.2.1=true:=hq;refine(SQ p.length (by omega) (fun n=>0<=(p.getD n bf).2.2.1/\(p.getD n bf).2.2.1<s.length) (Q:=fun y=>match y with| .inl _=>True| .inr _=>∀n,n<p.length->0<=(p.getD n bf).2.2.1/\(p.getD n bf).2.2.1<s.length) (fun n hn=>?_) (fun hF=>?_)).bind fun q hq=>?_
    ·unfold JG IP;simp only[aj,hn,decide_true,cond_true,av (n:=n) (by omega)];refine(TJ a0 a1 a2 a3 a4 a5 a6 a7 a8 a9 a10 s p g j n hn hls).bind fun r hr=>.cond (fun _=>.ret trivial) fun hb=>.ret ⟨rfl,hr ?_⟩;cases h:r.1 with|true=>rfl|false=>rw[h]at hb;cases hb
    ·unfold JG IP;simp only[aj,Nat.lt_irrefl,decide_false,cond_false];exact .ret hF
    ·cases q with
     |inl y=>exact .ret trivial
     |inr q=>
      cases q with
      |inr e=>exact e.elim
      |inl y=>refine(Uj a0 a1 a2 a3 a4 a5 a6 a7 a8 a9 a10 s p g j hle Xl).bind fun r _=>.cond (fun _=>?_) fun _=>.ret trivial;exact(UX a0 a1 a2 a3 a4 a5 a6 a7 a8 a9 a10 s p g j XF hq).bind fun r _=>.ret trivial
end
end Go.Fn
set_option linter.unusedVariables false
namespace Go.Fn
open Go.R
noncomputable def Jk(a:Unit)(b:Lz×Kp):Option (Lz×Kp⊕Vw⊕Empty):=letI c:=b.2.2.1;letI d:=aa .add .i64 b.2.1 1;letI e:=aC b.1 c (b.2.1,(ae MC b.1 c).2);cond (af .lss c (ai b.1)) (cond (ah b.1 c) (cond (ah e c) (lets (aC e c ((ae MC e c).1,d)) fun f=>some (.inl (f,aa .add .i64 d 1,aa .add .i64 c 1,()))) none) none) (some (.inr (.inl (b.1,b.2.1,()))))
noncomputable def Jl k x:=iter (Jk k) big x
noncomputable def r6(a:Lz)(b:Int):Option (Int×Vj):=(Jl () (a,b,0,())).bind fun c=>Sum.elim (fun d=>some (d.2.1,d.1,())) (fun d=>Empty.elim d) c
noncomputable def J7(a:Unit)(b:QX×Kp):Option (QX×Kp⊕Vx⊕Empty):=letI c:=b.2.2.1;letI d:=aa .add .i64 b.2.1 1;letI e:=(ae hU b.1 c).2;letI f:=aC b.1 c (b.2.1,e.1,e.2.1,e.2.2);letI g:=ae hU f c;cond (af .lss c (ai b.1)) (cond (ah b.1 c) (cond (ah f c) (lets (aC f c (g.1,d,g.2.2.1,g.2.2.2)) fun h=>letI i:=ae hU h c;letI j:=aa .add .i64 d 1;cond (ah h c) (lets (aC h c (i.1,i.2.1,j,i.2.2.2)) fun k=>letI l:=ae hU k c;letI m:=aa .add .i64 j 1;cond (ax 3) none (cond (ah k c) (lets (aC k c (l.1,l.2.1,l.2.2.1,af .eql (aa .rem .i64 m 3) 0)) fun n=>some (.inl (n,aa .add .i64 m 1,aa .add .i64 c 1,()))) none)) none) none) none) (some (.inr (.inl (b.1,b.2.1,()))))
noncomputable def J8 k x:=iter (J7 k) big x
noncomputable def Ku(a:QX)(b:Int):Option (Int×Vt):=(J8 () (a,b,0,())).bind fun c=>Sum.elim (fun d=>some (d.2.1,d.1,())) (fun d=>Empty.elim d) c
noncomputable def Bd(a:Unit)(b:QY×Kp):Option (QY×Kp⊕VU⊕Empty):=letI c:=b.2.2.1;letI d:=(ae cn b.1 c).2;letI e:=aC b.1 c (b.2.1,d.1,d.2);letI f:=ae cn e c;cond (af .lss c (ai b.1)) (cond (ah b.1 c) (cond (ah e c) ((n6 f.2.1 (aa .add .i64 b.2.1 1)).bind fun g=>lets (aC e c (f.1,g.2.1,f.2.2)) fun h=>letI i:=ae cn h c;cond (ah h c) ((Ku i.2.2 g.1).bind fun j=>some (.inl (aC h c (i.1,i.2.1,j.2.1),j.1,aa .add .i64 c 1,()))) none) none) none) (some (.inr (.inl (b.1,b.2.1,()))))
noncomputable def BE k x:=iter (Bd k) big x
noncomputable def ve(a:QY)(b:Int):Option (Int×Vu):=(BE () (a,b,0,())).bind fun c=>Sum.elim (fun d=>some (d.2.1,d.1,())) (fun d=>Empty.elim d) c
noncomputable def Ji(a:Unit)(b:KQ×Kp):Option (KQ×Kp⊕KQ×DM⊕Empty):=letI c:=b.2.2.1;letI d:=ae aS b.1 c;cond (af .lss c (ai b.1)) (cond (ah b.1 c) ((r6 d.1 b.2.1).bind fun e=>letI f:=d.2.2;letI g:=f.2.2.2.2;lets (aC b.1 c (e.2.1,d.2.1,f.1,f.2.1,f.2.2.1,f.2.2.2.1,g.1,g.2.1,g.2.2.1,g.2.2.2.1,g.2.2.2.2)) fun h=>letI i:=ae aS h c;cond (ah h c) ((r6 i.2.1 e.1).bind fun j=>letI k:=i.2.2.2;letI l:=k.2.2.2.2;lets (aC h c (i.1,j.2.1,i.2.2.1,k.1,k.2.1,k.2.2.1,k.2.2.2.1,l.1,l.2.1,l.2.2.1,l.2.2.2)) fun m=>letI n:=ae aS m c;cond (ah m c) ((ve n.2.2.1 j.1).bind fun o=>letI p:=n.2.2.2;letI q:=p.2.2.2.2;lets (aC m c (n.1,n.2.1,o.2.1,p.1,p.2.1,p.2.2.1,p.2.2.2.1,q.1,q.2.1,q.2.2.1,q.2.2.2)) fun r=>letI s:=ae aS r c;letI t:=s.2.2.2.2;letI u:=t.2.2.2;cond (ah r c) (lets (aC r c (s.1,s.2.1,s.2.2.1,o.1,t.1,t.2.1,t.2.2.1,u.1,u.2.1,u.2.2.1,u.2.2.2)) fun v=>letI w:=(1:Int);letI x:=aa .add .i64 o.1 w;letI y:=ae aS v c;letI z:=y.2.2.2.2.2;cond (ah v c) (lets (aC v c (y.1,y.2.1,y.2.2.1,y.2.2.2.1,x,z.1,z.2.1,z.2.2.1,z.2.2.2.1,z.2.2.2.2.1,z.2.2.2.2.2)) fun A=>letI B:=ax 3;letI C:=ae aS A c;letI D:=C.2.2;letI E:=D.2.2.2.2;letI F:=aa .add .i64 x w;cond B none (cond (ah A c) (lets (aC A c (C.1,C.2.1,D.1,D.2.1,D.2.2.1,af .eql (aa .rem .i64 F 3) 0,E.1,E.2.1,E.2.2.1,E.2.2.2.1,E.2.2.2.2)) fun G=>letI H:=ae aS G c;letI I:=H.2.2;letI J:=I.2.2.2.2.2;letI K:=aa .add .i64 F w;cond B none (cond (ah G c) (lets (aC G c (H.1,H.2.1,I.1,I.2.1,I.2.2.1,I.2.2.2.1,af .eql (aa .rem .i64 K 3) 0,J.1,J.2.1,J.2.2.1,J.2.2.2)) fun L=>letI M:=aa .add .i64 K w;cond B none (lets (af .eql (aa .rem .i64 M 3) 0) fun N=>letI O:=ae aS L c;letI P:=O.2.2;letI Q:=P.2.2.2.2.2.2;cond (ah L c) (lets (aC L c (O.1,O.2.1,P.1,P.2.1,P.2.2.1,P.2.2.2.1,P.2.2.2.2.1,N,Q.1,Q.2.1,Q.2.2)) fun R=>letI S:=ae aS R c;letI T:=S.2.2;letI U:=T.2.2.2.2;letI V:=aa .add .i64 M w;cond (ah R c) (lets (aC R c (S.1,S.2.1,T.1,T.2.1,T.2.2.1,T.2.2.2.1,U.1,U.2.1,V,U.2.2.2.1,U.2.2.2.2)) fun W=>lets (aa .add .i64 V w) fun X=>letI Y:=ae aS W c;letI Z:=Y.2.2;letI a0:=Z.2.2.2.2;cond (ah W c) (lets (aC W c (Y.1,Y.2.1,Z.1,Z.2.1,Z.2.2.1,Z.2.2.2.1,a0.1,a0.2.1,a0.2.2.1,X,a0.2.2.2.2)) fun a1=>letI a2:=ae aS a1 c;letI a3:=a2.2.2.2;letI a4:=a3.2.2.2.2;cond (ah a1 c) ((n4 a4.2.2.2 (aa .add .i64 X w)).bind fun a5=>lets (aC a1 c (a2.1,a2.2.1,a2.2.2.1,a3.1,a3.2.1,a3.2.2.1,a3.2.2.2.1,a4.1,a4.2.1,a4.2.2.1,a5.2.1)) fun a6=>some (.inl (a6,a5.1,aa .add .i64 c w,()))) none) none) none) none)) none)) none)) none) none) none) none) none) (some (.inr (.inl (b.1,b.2.1,()))))
noncomputable def Jj k x:=iter (Ji k) big x
noncomputable def Jh(a:KQ)(b:Int):Option (Int×VQ):=(Jj () (a,b,0,())).bind fun c=>Sum.elim (fun d=>some (d.2.1,d.1,())) (fun d=>Empty.elim d) c
noncomputable def B1(a:Unit)(b:M3×Kp):Option (M3×Kp⊕VV⊕Empty):=letI c:=b.2.2.1;letI d:=(ae bf b.1 c).2;letI e:=d.2.2;letI f:=e.2.2.2.2.2;cond (af .lss c (ai b.1)) (cond (ah b.1 c) (lets (aC b.1 c (b.2.1,d.1,d.2.1,e.1,e.2.1,e.2.2.1,e.2.2.2.1,e.2.2.2.2.1,f.1,f.2.1,f.2.2.1,f.2.2.2.1,f.2.2.2.2)) fun g=>letI h:=(1:Int);letI i:=ae bf g c;letI j:=aa .add .i64 b.2.1 h;letI k:=i.2.2.2.2;letI l:=k.2.2.2.2;cond (ah g c) (lets (aC g c (i.1,j,i.2.2.1,i.2.2.2.1,k.1,k.2.1,k.2.2.1,k.2.2.2.1,l.1,l.2.1,l.2.2.1,l.2.2.2.1,l.2.2.2.2)) fun m=>letI n:=ae bf m c;letI o:=n.2.2.2.2;letI p:=aa .add .i64 j h;letI q:=o.2.2.2.2;cond (ah m c) (lets (aC m c (n.1,n.2.1,p,n.2.2.2.1,o.1,o.2.1,o.2.2.1,o.2.2.2.1,q.1,q.2.1,q.2.2.1,q.2.2.2.1,q.2.2.2.2)) fun r=>letI s:=ae bf r c;letI t:=s.2.2.2.2;letI u:=t.2.2.2.2;letI v:=aa .add .i64 p h;cond (ah r c) (lets (aC r c (s.1,s.2.1,s.2.2.1,v,t.1,t.2.1,t.2.2.1,t.2.2.2.1,u.1,u.2.1,u.2.2.1,u.2.2.2.1,u.2.2.2.2)) fun w=>letI x:=ae bf w c;letI y:=x.2.2.2.2.2;letI z:=y.2.2.2.2;letI A:=aa .add .i64 v h;cond (ah w c) (lets (aC w c (x.1,x.2.1,x.2.2.1,x.2.2.2.1,A,y.1,y.2.1,y.2.2.1,y.2.2.2.1,z.1,z.2.1,z.2.2.1,z.2.2.2)) fun B=>letI C:=ae bf B c;letI D:=C.2.2.2.2.2.2;letI E:=D.2.2.2;letI F:=aa .add .i64 A h;cond (ah B c) (lets (aC B c (C.1,C.2.1,C.2.2.1,C.2.2.2.1,C.2.2.2.2.1,F,D.1,D.2.1,D.2.2.1,E.1,E.2.1,E.2.2.1,E.2.2.2)) fun G=>lets (aa .add .i64 F h) fun H=>letI I:=ae bf G c;letI J:=I.2.2.2;letI K:=J.2.2.2.2.2;cond (ah G c) (lets (aC G c (I.1,I.2.1,I.2.2.1,J.1,J.2.1,J.2.2.1,H,J.2.2.2.2.1,K.1,K.2.1,K.2.2.1,K.2.2.2.1,K.2.2.2.2)) fun L=>letI M:=aa .add .i64 H h;letI N:=ae bf L c;letI O:=N.2.2.2;letI P:=O.2.2.2.2.2;cond (ah L c) (lets (aC L c (N.1,N.2.1,N.2.2.1,O.1,O.2.1,O.2.2.1,O.2.2.2.1,M,P.1,P.2.1,P.2.2.1,P.2.2.2.1,P.2.2.2.2)) fun Q=>letI R:=ae bf Q c;letI S:=R.2.2.2;letI T:=aa .add .i64 M h;letI U:=S.2.2.2.2.2.2;cond (ah Q c) (lets (aC Q c (R.1,R.2.1,R.2.2.1,S.1,S.2.1,S.2.2.1,S.2.2.2.1,S.2.2.2.2.1,T,U.1,U.2.1,U.2.2.1,U.2.2.2)) fun V=>letI W:=ae bf V c;letI X:=W.2.2.2;letI Y:=X.2.2.2.2;letI Z:=aa .add .i64 T h;cond (ah V c) (lets (aC V c (W.1,W.2.1,W.2.2.1,X.1,X.2.1,X.2.2.1,X.2.2.2.1,Y.1,Y.2.1,Z,Y.2.2.2.1,Y.2.2.2.2.1,Y.2.2.2.2.2)) fun a0=>letI a1:=ae bf a0 c;letI a2:=a1.2.2.2;letI a3:=a2.2.2.2.2;letI a4:=aa .add .i64 Z h;cond (ah a0 c) (lets (aC a0 c (a1.1,a1.2.1,a1.2.2.1,a2.1,a2.2.1,a2.2.2.1,a2.2.2.2.1,a3.1,a3.2.1,a3.2.2.1,a4,a3.2.2.2.2.1,a3.2.2.2.2.2)) fun a5=>letI a6:=ae bf a5 c;letI a7:=a6.2.2.2;letI a8:=a7.2.2.2.2;letI a9:=aa .add .i64 a4 h;cond (ah a5 c) (lets (aC a5 c (a6.1,a6.2.1,a6.2.2.1,a7.1,a7.2.1,a7.2.2.1,a7.2.2.2.1,a8.1,a8.2.1,a8.2.2.1,a8.2.2.2.1,a9,a8.2.2.2.2.2)) fun b0=>lets (aa .add .i64 a9 h) fun b1=>letI b2:=ae bf b0 c;letI b3:=b2.2.2.2;letI b4:=b3.2.2.2.2;cond (ah b0 c) (lets (aC b0 c (b2.1,b2.2.1,b2.2.2.1,b3.1,b3.2.1,b3.2.2.1,b3.2.2.2.1,b4.1,b4.2.1,b4.2.2.1,b4.2.2.2.1,b4.2.2.2.2.1,b1)) fun b5=>some (.inl (b5,aa .add .i64 b1 h,aa .add .i64 c h,()))) none) none) none) none) none) none) none) none) none) none) none) none) none) (some (.inr (.inl (b.1,b.2.1,()))))
noncomputable def Cp k x:=iter (B1 k) big x
noncomputable def vv(a:M3)(b:Int):Option (Int×WQ):=(Cp () (a,b,0,())).bind fun c=>Sum.elim (fun d=>some (d.2.1,d.1,())) (fun d=>Empty.elim d) c
noncomputable def Is(a:Unit)(b:KR×Kp):Option (KR×Kp⊕KR×DM⊕Empty):=letI c:=b.2.2.1;letI d:=(ae cx b.1 c).2;cond (af .lss c (ai b.1)) (cond (ah b.1 c) (lets (aC b.1 c (b.2.1,d.1,d.2.1,d.2.2.1,d.2.2.2.1,d.2.2.2.2.1,d.2.2.2.2.2)) fun e=>letI f:=(1:Int);letI g:=aa .add .i64 b.2.1 f;letI h:=(ae cx e c).2.2;cond (ah e c) (lets (aC e c ((ae cx e c).1,g,h.1,h.2.1,h.2.2.1,h.2.2.2.1,h.2.2.2.2)) fun i=>letI j:=ae cx i c;letI k:=j.2.2.2;letI l:=aa .add .i64 g f;cond (ah i c) (lets (aC i c (j.1,j.2.1,l,k.1,k.2.1,k.2.2.1,k.2.2.2)) fun m=>letI n:=ae cx m c;letI o:=n.2.2.2.2;letI p:=aa .add .i64 l f;cond (ah m c) (lets (aC m c (n.1,n.2.1,n.2.2.1,p,o.1,o.2.1,o.2.2)) fun q=>letI r:=ae cx q c;letI s:=aa .add .i64 p f;cond (ah q c) (lets (aC q c (r.1,r.2.1,r.2.2.1,r.2.2.2.1,s,r.2.2.2.2.2.1,r.2.2.2.2.2.2)) fun t=>letI u:=ae cx t c;letI v:=aa .add .i64 s f;cond (ah t c) (lets (aC t c (u.1,u.2.1,u.2.2.1,u.2.2.2.1,u.2.2.2.2.1,v,u.2.2.2.2.2.2)) fun w=>lets (aa .add .i64 v f) fun x=>letI y:=ae cx w c;cond (ax 3) none (cond (ah w c) (lets (aC w c (y.1,y.2.1,y.2.2.1,y.2.2.2.1,y.2.2.2.2.1,y.2.2.2.2.2.1,af .eql (aa .rem .i64 x 3) 0)) fun z=>some (.inl (z,aa .add .i64 x f,aa .add .i64 c f,()))) none)) none) none) none) none) none) none) (some (.inr (.inl (b.1,b.2.1,()))))
noncomputable def It k x:=iter (Is k) big x
noncomputable def Ic(a:KR)(b:Int):Option (Int×VR):=(It () (a,b,0,())).bind fun c=>Sum.elim (fun d=>some (d.2.1,d.1,())) (fun d=>Empty.elim d) c
noncomputable def vp(a b c d e f g h i j k:Int)(l:KQ)(m:M3)(n:KR)(o:Ko)(p:Int):Option YcP:=(Jh l p).bind fun q=>(vv m q.1).bind fun r=>(Ic n r.1).bind fun s=>(n4 o s.1).bind fun t=>some (t.1,q.2.1,r.2.1,s.2.1,t.2.1,())
end Go.Fn
set_option linter.unusedVariables false
set_option linter.unusedSimpArgs false
namespace Go.Fn
open Go.R
theorem VX:ax (3:Int)=false:=by decide
noncomputable def k3(k:Int):Bool:=af .eql (aa .rem .i64 k 3) 0
theorem At{a b:Int}(h0:0<=a)(h1:a<=4611686018427387904)(h:b=a+1):aa .add .i64 a 1=b:=(JR h0 h1).trans h.symm
theorem cT{β:Type}{b:Bool}{x y:β}(h:b=true):(bif b then x else y)=x:=by rw[h];rfl
theorem cF{β:Type}{b:Bool}{x y:β}(h:b=false):(bif b then x else y)=y:=by rw[h];rfl
theorem g7{α β:Type}{a b:α}{f:α->β}(h:a=b):lets a f=f b:=by rw[aV,h]
theorem Oi{α β:Type}{x:Option α}{r:α}{f:α->Option β}(h:x=some r):x.bind f=f r:=by rw[h];rfl
theorem XH{α:Type}{L:List α}{n:Nat}(h:n<L.length):af .lss (n:Int) (ai L)=true:=by rw[aj];exact decide_eq_true h
theorem XG{α:Type}{L:List α}{n:Nat}(h:n<L.length):ah L (n:Int)=true:=by rw[az];exact decide_eq_true h
theorem PP{α:Type}{L:List α}{n:Nat}{a:α}(h:n<L.length):ah (L.set n a) (n:Int)=true:=by rw[je];exact decide_eq_true h
noncomputable def b9(k:Int)(x:LR):LR×Int:=((k,k+1),k+2)
theorem To(k:Int)(x:LR):k<=(b9 k x).2/\(b9 k x).2<=k+(2:Nat):=⟨by show k<=k+2;omega,by show k+2<=k+2;omega⟩
theorem Qm(l:List LR)(k:Int)(hl:l.length<=1073741824)(h0:0<=k)(h1:k+2*(l.length:Int)<=1125899906842624):r6 l k=some ((cc b9 l k).2,(cc b9 l k).1,()):=by
 unfold r6;have:Jl () (l,k,0,())=some (.inl ((cc b9 l k).1,(cc b9 l k).2,())):=by
  refine KJ (cost:=fun _=>2) MC l k hl h0 To (fun L q n hx hL hg lA cQ=>?_) (fun L k'=>?_)
  ·rw[hG]at cQ;unfold b9;have a1:aa .add .i64 (q) 1=q+1:=At (by omega) (by omega) (by omega);have a2:aa .add .i64 (q+1) 1=q+2:=At (by omega) (by omega) (by omega);unfold Jk;simp only[aj,az,hx,decide_true,cond_true,av (n:=n) (by omega),aN,aq,a1,a2];repeat (first|rw[aV]|simp only[je,List.length_set,hx,decide_true,cond_true,aN,aq,aF hx,List.set_set,a2])
  ·unfold Jk;simp only[aj,Nat.lt_irrefl,decide_false,cond_false]
 rw[this];rfl
noncomputable def Rm(k:Int)(x:Bx):Bx×Int:=((k,k+1,k+2,k3 (k+3)),k+4)
theorem Tn(k:Int)(x:Bx):k<=(Rm k x).2/\(Rm k x).2<=k+(4:Nat):=⟨by show k<=k+4;omega,by show k+4<=k+4;omega⟩
theorem SL(l:List Bx)(k:Int)(hl:l.length<=1073741824)(h0:0<=k)(h1:k+4*(l.length:Int)<=1125899906842624):Ku l k=some ((cc Rm l k).2,(cc Rm l k).1,()):=by
 unfold Ku;have:J8 () (l,k,0,())=some (.inl ((cc Rm l k).1,(cc Rm l k).2,())):=by
  refine KJ (cost:=fun _=>4) hU l k hl h0 Tn (fun L q n hx hL hg lA cQ=>?_) (fun L k'=>?_)
  ·rw[hG]at cQ;unfold Rm k3;have a1:aa .add .i64 (q) 1=q+1:=At (by omega) (by omega) (by omega);have a2:aa .add .i64 (q+1) 1=q+2:=At (by omega) (by omega) (by omega);have a3:aa .add .i64 (q+2) 1=q+3:=At (by omega) (by omega) (by omega);have a4:aa .add .i64 (q+3) 1=q+4:=At (by omega) (by omega) (by omega);unfold J7;simp only[aj,az,hx,decide_true,cond_true,av (n:=n) (by omega),aN,aq,a1,a2,a3,a4,VX,cond_false];repeat (first|rw[aV]|simp only[je,List.length_set,hx,decide_true,cond_true,aN,aq,aF hx,List.set_set,a4,VX,cond_false])
  ·unfold J7;simp only[aj,Nat.lt_irrefl,decide_false,cond_false]
 rw[this];rfl
noncomputable def Qp(k:Int)(x:Q0):Q0×Int:=((k,k+1,k+2,k+3,k+4,k+5,k+6,k+7,k+8,k+9,k+10,k+11,k+12),k+13)
theorem SN(k:Int)(x:Q0):k<=(Qp k x).2/\(Qp k x).2<=k+(13:Nat):=⟨by show k<=k+13;omega,by show k+13<=k+13;omega⟩
theorem Rl(l:List Q0)(k:Int)(hl:l.length<=1073741824)(h0:0<=k)(h1:k+13*(l.length:Int)<=1125899906842624):vv l k=some ((cc Qp l k).2,(cc Qp l k).1,()):=by
 unfold vv;have:Cp () (l,k,0,())=some (.inl ((cc Qp l k).1,(cc Qp l k).2,())):=by
  refine KJ (cost:=fun _=>13) bf l k hl h0 SN (fun L q n hx hL hg lA cQ=>?_) (fun L k'=>?_)
  ·rw[hG]at cQ;unfold Qp;have a1:aa .add .i64 (q) 1=q+1:=At (by omega) (by omega) (by omega);have a2:aa .add .i64 (q+1) 1=q+2:=At (by omega) (by omega) (by omega);have a3:aa .add .i64 (q+2) 1=q+3:=At (by omega) (by omega) (by omega);have a4:aa .add .i64 (q+3) 1=q+4:=At (by omega) (by omega) (by omega);have a5:aa .add .i64 (q+4) 1=q+5:=At (by omega) (by omega) (by omega);have a6:aa .add .i64 (q+5) 1=q+6:=At (by omega) (by omega) (by omega);have a7:aa .add .i64 (q+6) 1=q+7:=At (by omega) (by omega) (by omega);have a8:aa .add .i64 (q+7) 1=q+8:=At (by omega) (by omega) (by omega);have a9:aa .add .i64 (q+8) 1=q+9:=At (by omega) (by omega) (by omega);have a10:aa .add .i64 (q+9) 1=q+10:=At (by omega) (by omega) (by omega);have a11:aa .add .i64 (q+10) 1=q+11:=At (by omega) (by omega) (by omega);have a12:aa .add .i64 (q+11) 1=q+12:=At (by omega) (by omega) (by omega);have a13:aa .add .i64 (q+12) 1=q+13:=At (by omega) (by omega) (by omega);unfold B1;dsimp only;refine(cT (XH hx)).trans ?_;refine(cT (XG hx)).trans ?_;refine(g7 (b:=L.set n (q,(L.getD n bf).2.1,(L.getD n bf).2.2.1,(L.getD n bf).2.2.2.1,(L.getD n bf).2.2.2.2.1,(L.getD n bf).2.2.2.2.2.1,(L.getD n bf).2.2.2.2.2.2.1,(L.getD n bf).2.2.2.2.2.2.2.1,(L.getD n bf).2.2.2.2.2.2.2.2.1,(L.getD n bf).2.2.2.2.2.2.2.2.2.1,(L.getD n bf).2.2.2.2.2.2.2.2.2.2.1,(L.getD n bf).2.2.2.2.2.2.2.2.2.2.2.1,(L.getD n bf).2.2.2.2.2.2.2.2.2.2.2.2)) (by simp only[aq,aN,aF hx,List.set_set,a1,a2,a3,a4,a5,a6,a7,a8,a9,a10,a11,a12,a13])).trans ?_;refine(cT (PP hx)).trans ?_;refine(g7 (b:=L.set n (q,q+1,(L.getD n bf).2.2.1,(L.getD n bf).2.2.2.1,(L.getD n bf).2.2.2.2.1,(L.getD n bf).2.2.2.2.2.1,(L.getD n bf).2.2.2.2.2.2.1,(L.getD n bf).2.2.2.2.2.2.2.1,(L.getD n bf).2.2.2.2.2.2.2.2.1,(L.getD n bf).2.2.2.2.2.2.2.2.2.1,(L.getD n bf).2.2.2.2.2.2.2.2.2.2.1,(L.getD n bf).2.2.2.2.2.2.2.2.2.2.2.1,(L.getD n bf).2.2.2.2.2.2.2.2.2.2.2.2)) (by simp only[aq,aN,aF hx,List.set_set,a1,a2,a3,a4,a5,a6,a7,a8,a9,a10,a11,a12,a13])).trans ?_;refine(cT (PP hx)).trans ?_;refine(g7 (b:=L.set n (q,q+1,q+2,(L.getD n bf).2.2.2.1,(L.getD n bf).2.2.2.2.1,(L.getD n bf).2.2.2.2.2.1,(L.getD n bf).2.2.2.2.2.2.1,(L.getD n bf).2.2.2.2.2.2.2.1,(L.getD n bf).2.2.2.2.2.2.2.2.1,(L.getD n bf).2.2.2.2.2.2.2.2.2.1,(L.getD n bf).2.2.2.2.2.2.2.2.2.2.1,(L.getD n bf).2.2.2.2.2.2.2.2.2.2.2.1,(L.getD n bf).2.2.2.2.2.2.2.2.2.2.2.2)) (by simp only[aq,aN,aF hx,List.set_set,a1,a2,a3,a4,a5,a6,a7,a8,a9,a10,a11,a12,a13])).trans ?_;refine(cT (PP hx)).trans ?_;refine(g7 (b:=L.set n (q,q+1,q+2,q+3,(L.getD n bf).2.2.2.2.1,(L.getD n bf).2.2.2.2.2.1,(L.getD n bf).2.2.2.2.2.2.1,(L.getD n bf).2.2.2.2.2.2.2.1,(L.getD n bf).2.2.2.2.2.2.2.2.1,(L.getD n bf).2.2.2.2.2.2.2.2.2.1,(L.getD n bf).2.2.2.2.2.2.2.2.2.2.1,(L.getD n bf).2.2.2.2.2.2.2.2.2.2.2.1,(L.getD n bf).2.2.2.2.2.2.2.2.2.2.2.2)) (by simp only[aq,aN,aF hx,List.set_set,a1,a2,a3,a4,a5,a6,a7,a8,a9,a10,a11,a12,a13])).trans ?_;refine(cT (PP hx)).trans ?_;refine(g7 (b:=L.set n (q,q+1,q+2,q+3,q+4,(L.getD n bf).2.2.2.2.2.1,(L.getD n bf).2.2.2.2.2.2.1,(L.getD n bf).2.2.2.2.2.2.2.1,(L.getD n bf).2.2.2.2.2.2.2.2.1,(L.getD n bf).2.2.2.2.2.2.2.2.2.1,(L.getD n bf).2.2.2.2.2.2.2.2.2.2.1,(L.getD n bf).2.2.2.2.2.2.2.2.2.2.2.1,(L.getD n bf).2.2.2.2.2.2.2.2.2.2.2.2)) (by simp only[aq,aN,aF hx,List.set_set,a1,a2,a3,a4,a5,a6,a7,a8,a9,a10,a11,a12,a13])).trans ?_;refine(cT (PP hx)).trans ?_;refine(g7 (b:=L.set n (q,q+1,q+2,q+3,q+4,q+5,(L.getD n bf).2.2.2.2.2.2.1,(L.getD n bf).2.2.2.2.2.2.2.1,(L.getD n bf).2.2.2.2.2.2.2.2.1,(L.getD n bf).2.2.2.2.2.2.2.2.2.1,(L.getD n bf).2.2.2.2.2.2.2.2.2.2.1,(L.getD n bf).2.2.2.2.2.2.2.2.2.2.2.1,(L.getD n bf).2.2.2.2.2.2.2.2.2.2.2.2)) (by simp only[aq,aN,aF hx,List.set_set,a1,a2,a3,a4,a5,a6,a7,a8,a9,a10,a11,a12,a13])).trans ?_;refine(g7 (b:=q+6) (by simp only[a1,a2,a3,a4,a5,a6,a7,a8,a9,a10,a11,a12,a13])).trans ?_;refine(cT (PP hx)).trans ?_;refine(g7 (b:=L.set n (q,q+1,q+2,q+3,q+4,q+5,q+6,(L.getD n bf).2.2.2.2.2.2.2.1,(L.getD n bf).2.2.2.2.2.2.2.2.1,(L.getD n bf).2.2.2.2.2.2.2.2.2.1,(L.getD n bf).2.2.2.2.2.2.2.2.2.2.1,(L.getD n bf).2.2.2.2.2.2.2.2.2.2.2.1,(L.getD n bf).2.2.2.2.2.2.2.2.2.2.2.2)) (by simp only[aq,aN,aF hx,List.set_set,a1,a2,a3,a4,a5,a6,a7,a8,a9,a10,a11,a12,a13])).trans ?_;refine(cT (PP hx)).trans ?_;refine(g7 (b:=L.set n (q,q+1,q+2,q+3,q+4,q+5,q+6,q+7,(L.getD n bf).2.2.2.2.2.2.2.2.1,(L.getD n bf).2.2.2.2.2.2.2.2.2.1,(L.getD n bf).2.2.2.2.2.2.2.2.2.2.1,(L.getD n bf).2.2.2.2.2.2.2.2.2.2.2.1,(L.getD n bf).2.2.2.2.2.2.2.2.2.2.2.2)) (by simp only[aq,aN,aF hx,List.set_set,a1,a2,a3,a4,a5,a6,a7,a8,a9,a10,a11,a12,a13])).trans ?_;refine(cT (PP hx)).trans ?_;refine(g7 (b:=L.set n (q,q+1,q+2,q+3,q+4,q+5,q+6,q+7,q+8,(L.getD n bf).2.2.2.2.2.2.2.2.2.1,(L.getD n bf).2.2.2.2.2.2.2.2.2.2.1,(L.getD n bf).2.2.2.2.2.2.2.2.2.2.2.1,(L.getD n bf).2.2.2.2.2.2.2.2.2.2.2.2)) (by simp only[aq,aN,aF hx,List.set_set,a1,a2,a3,a4,a5,a6,a7,a8,a9,a10,a11,a12,a13])).trans ?_;refine(cT (PP hx)).trans ?_;refine(g7 (b:=L.set n (q,q+1,q+2,q+3,q+4,q+5,q+6,q+7,q+8,q+9,(L.getD n bf).2.2.2.2.2.2.2.2.2.2.1,(L.getD n bf).2.2.2.2.2.2.2.2.2.2.2.1,(L.getD n bf).2.2.2.2.2.2.2.2.2.2.2.2)) (by simp only[aq,aN,aF hx,List.set_set,a1,a2,a3,a4,a5,a6,a7,a8,a9,a10,a11,a12,a13])).trans ?_;refine(cT (PP hx)).trans ?_;refine(g7 (b:=L.set n (q,q+1,q+2,q+3,q+4,q+5,q+6,q+7,q+8,q+9,q+10,(L.getD n bf).2.2.2.2.2.2.2.2.2.2.2.1,(L.getD n bf).2.2.2.2.2.2.2.2.2.2.2.2)) (by simp only[aq,aN,aF hx,List.set_set,a1,a2,a3,a4,a5,a6,a7,a8,a9,a10,a11,a12,a13])).trans ?_;refine(cT (PP hx)).trans ?_;refine(g7 (b:=L.set n (q,q+1,q+2,q+3,q+4,q+5,q+6,q+7,q+8,q+9,q+10,q+11,(L.getD n bf).2.2.2.2.2.2.2.2.2.2.2.2)) (by simp only[aq,aN,aF hx,List.set_set,a1,a2,a3,a4,a5,a6,a7,a8,a9,a10,a11,a12,a13])).trans ?_;refine(g7 (b:=q+12) (by simp only[a1,a2,a3,a4,a5,a6,a7,a8,a9,a10,a11,a12,a13])).trans ?_;refine(cT (PP hx)).trans ?_;refine(g7 (b:=L.set n (q,q+1,q+2,q+3,q+4,q+5,q+6,q+7,q+8,q+9,q+10,q+11,q+12)) (by simp only[aq,aN,aF hx,List.set_set,a1,a2,a3,a4,a5,a6,a7,a8,a9,a10,a11,a12,a13])).trans ?_;simp only[a13,av (n:=n) (by omega)]
  ·unfold B1;simp only[aj,Nat.lt_irrefl,decide_false,cond_false]
 rw[this];rfl
noncomputable def Qo(k:Int)(x:Rx):Rx×Int:=((k,k+1,k+2,k+3,k+4,k+5,k3 (k+6)),k+7)
theorem SM(k:Int)(x:Rx):k<=(Qo k x).2/\(Qo k x).2<=k+(7:Nat):=⟨by show k<=k+7;omega,by show k+7<=k+7;omega⟩
theorem RD(l:List Rx)(k:Int)(hl:l.length<=1073741824)(h0:0<=k)(h1:k+7*(l.length:Int)<=1125899906842624):Ic l k=some ((cc Qo l k).2,(cc Qo l k).1,()):=by
 unfold Ic;have:It () (l,k,0,())=some (.inl ((cc Qo l k).1,(cc Qo l k).2,())):=by
  refine KJ (cost:=fun _=>7) cx l k hl h0 SM (fun L q n hx hL hg lA cQ=>?_) (fun L k'=>?_)
  ·rw[hG]at cQ;unfold Qo k3;have a1:aa .add .i64 (q) 1=q+1:=At (by omega) (by omega) (by omega);have a2:aa .add .i64 (q+1) 1=q+2:=At (by omega) (by omega) (by omega);have a3:aa .add .i64 (q+2) 1=q+3:=At (by omega) (by omega) (by omega);have a4:aa .add .i64 (q+3) 1=q+4:=At (by omega) (by omega) (by omega);have a5:aa .add .i64 (q+4) 1=q+5:=At (by omega) (by omega) (by omega);have a6:aa .add .i64 (q+5) 1=q+6:=At (by omega) (by omega) (by omega);have a7:aa .add .i64 (q+6) 1=q+7:=At (by omega) (by omega) (by omega);unfold Is;dsimp only;refine(cT (XH hx)).trans ?_;refine(cT (XG hx)).trans ?_;refine(g7 (b:=L.set n (q,(L.getD n cx).2.1,(L.getD n cx).2.2.1,(L.getD n cx).2.2.2.1,(L.getD n cx).2.2.2.2.1,(L.getD n cx).2.2.2.2.2.1,(L.getD n cx).2.2.2.2.2.2)) (by simp only[aq,aN,aF hx,List.set_set,a1,a2,a3,a4,a5,a6,a7])).trans ?_;refine(cT (PP hx)).trans ?_;refine(g7 (b:=L.set n (q,q+1,(L.getD n cx).2.2.1,(L.getD n cx).2.2.2.1,(L.getD n cx).2.2.2.2.1,(L.getD n cx).2.2.2.2.2.1,(L.getD n cx).2.2.2.2.2.2)) (by simp only[aq,aN,aF hx,List.set_set,a1,a2,a3,a4,a5,a6,a7])).trans ?_;refine(cT (PP hx)).trans ?_;refine(g7 (b:=L.set n (q,q+1,q+2,(L.getD n cx).2.2.2.1,(L.getD n cx).2.2.2.2.1,(L.getD n cx).2.2.2.2.2.1,(L.getD n cx).2.2.2.2.2.2)) (by simp only[aq,aN,aF hx,List.set_set,a1,a2,a3,a4,a5,a6,a7])).trans ?_;refine(cT (PP hx)).trans ?_;refine(g7 (b:=L.set n (q,q+1,q+2,q+3,(L.getD n cx).2.2.2.2.1,(L.getD n cx).2.2.2.2.2.1,(L.getD n cx).2.2.2.2.2.2)) (by simp only[aq,aN,aF hx,List.set_set,a1,a2,a3,a4,a5,a6,a7])).trans ?_;refine(cT (PP hx)).trans ?_;refine(g7 (b:=L.set n (q,q+1,q+2,q+3,q+4,(L.getD n cx).2.2.2.2.2.1,(L.getD n cx).2.2.2.2.2.2)) (by simp only[aq,aN,aF hx,List.set_set,a1,a2,a3,a4,a5,a6,a7])).trans ?_;refine(cT (PP hx)).trans ?_;refine(g7 (b:=L.set n (q,q+1,q+2,q+3,q+4,q+5,(L.getD n cx).2.2.2.2.2.2)) (by simp only[aq,aN,aF hx,List.set_set,a1,a2,a3,a4,a5,a6,a7])).trans ?_;refine(g7 (b:=q+6) (by simp only[a1,a2,a3,a4,a5,a6,a7])).trans ?_;refine(cF VX).trans ?_;refine(cT (PP hx)).trans ?_;refine(g7 (b:=L.set n (q,q+1,q+2,q+3,q+4,q+5,af .eql (aa .rem .i64 (q+6) 3) 0)) (by simp only[aq,aN,aF hx,List.set_set,a1,a2,a3,a4,a5,a6,a7])).trans ?_;simp only[a7,av (n:=n) (by omega)]
  ·unfold Is;simp only[aj,Nat.lt_irrefl,decide_false,cond_false]
 rw[this];rfl
end Go.Fn
set_option linter.unusedVariables false
set_option linter.unusedSimpArgs false
namespace Go.Fn
open Go.R
theorem RL{α:Type}(cost:α->Nat)(z:α):∀ {l:List α} {n:Nat},n<l.length->cost (l.getD n z)<=gI cost l
 |x::xs,0,_=>by simp only[List.getD_cons_zero,gI];omega
 |x::xs,n+1,h=>by have:=RL cost z (l:=xs) (n:=n) (by simpa using h);simp only[List.getD_cons_succ,gI];omega
theorem Ts(l:List LR)(k:Int):k<=(cc b9 l k).2/\(cc b9 l k).2<=k+2*(l.length:Int):=by have:=JS To l k;rw[hG]at this;omega
theorem WT(l:List Bx)(k:Int):k<=(cc Rm l k).2/\(cc Rm l k).2<=k+4*(l.length:Int):=by have:=JS Tn l k;rw[hG]at this;omega
noncomputable def M4(c:OO):Nat:=1+c.2.1.length+4*c.2.2.length
noncomputable def cy(k:Int)(c:OO):OO×Int:=((k,J9 (k+1) c.2.1.length,(cc Rm c.2.2 (k+1+(c.2.1.length:Int))).1),(cc Rm c.2.2 (k+1+(c.2.1.length:Int))).2)
theorem Rn(k:Int)(c:OO):k<=(cy k c).2/\(cy k c).2<=k+(M4 c:Nat):=by have:=WT c.2.2 (k+1+(c.2.1.length:Int));unfold cy M4;dsimp only;omega
theorem Rj(l:List OO)(k:Int)(hl:l.length<=1073741824)(hc:∀n,n<l.length->PS 1073741824 (l.getD n JP))(h0:0<=k)(h1:k+(gI M4 l:Nat)<=1099511627776):ve l k=some ((cc cy l k).2,(cc cy l k).1,()):=by
 unfold ve;have:BE () (l,k,0,())=some (.inl ((cc cy l k).1,(cc cy l k).2,())):=by
  refine KJ (cost:=M4) JP l k hl h0 Rn (fun L q n hx hL hg lA cQ=>?_) (fun L k'=>?_)
  ·have hn:n<l.length:=by omega
   obtain⟨c1,c2⟩:=hc n hn;rw[<-hg]at c1 c2⊢;unfold cy;have a1:aa .add .i64 q 1=q+1:=JR (by omega) (by omega);have m1:=OJ (L.getD n JP).2.1 (q+1) c1 (by omega) (by omega);have m2:=SL (L.getD n JP).2.2 (q+1+((L.getD n JP).2.1.length:Int)) c2 (by omega) (by omega);unfold Bd;dsimp only;refine(cT (XH hx)).trans ?_;refine(cT (XG hx)).trans ?_;rw[aN,aq];refine(cT (PP hx)).trans ?_;rw[a1,aq];refine(Oi (r:=_) (by rw[aF hx];exact m1)).trans ?_;refine(g7 (b:=L.set n (q,J9 (q+1) (L.getD n JP).2.1.length,(L.getD n JP).2.2)) (by rw[aF hx,aN,List.set_set];rfl)).trans ?_;refine(cT (PP hx)).trans ?_;rw[aq];refine(Oi (r:=_) (by rw[aF hx];exact m2)).trans ?_;rw[aF hx,aN,List.set_set,av (n:=n) (by omega)]
  ·unfold Bd;simp only[aj,Nat.lt_irrefl,decide_false,cond_false]
 rw[this];rfl
noncomputable def sL(x:Site):Nat:=2*x.1.length+2*x.2.1.length+gI M4 x.2.2.1+7+7*x.2.2.2.2.2.2.2.2.2.2.length
noncomputable def Nv(q:Int)(x:Site):Site×Int:=(((cc b9 x.1 q).1,(cc b9 x.2.1 (cc b9 x.1 q).2).1,(cc cy x.2.2.1 (cc b9 x.2.1 (cc b9 x.1 q).2).2).1,(cc cy x.2.2.1 (cc b9 x.2.1 (cc b9 x.1 q).2).2).2,(cc cy x.2.2.1 (cc b9 x.2.1 (cc b9 x.1 q).2).2).2+1,k3 ((cc cy x.2.2.1 (cc b9 x.2.1 (cc b9 x.1 q).2).2).2+2),k3 ((cc cy x.2.2.1 (cc b9 x.2.1 (cc b9 x.1 q).2).2).2+3),k3 ((cc cy x.2.2.1 (cc b9 x.2.1 (cc b9 x.1 q).2).2).2+4),(cc cy x.2.2.1 (cc b9 x.2.1 (cc b9 x.1 q).2).2).2+5,(cc cy x.2.2.1 (cc b9 x.2.1 (cc b9 x.1 q).2).2).2+6,PN ((cc cy x.2.2.1 (cc b9 x.2.1 (cc b9 x.1 q).2).2).2+7) x.2.2.2.2.2.2.2.2.2.2.length),(cc cy x.2.2.1 (cc b9 x.2.1 (cc b9 x.1 q).2).2).2+7+7*(x.2.2.2.2.2.2.2.2.2.2.length:Int))
theorem RP(q:Int)(x:Site):q<=(Nv q x).2/\(Nv q x).2<=q+(sL x:Nat):=by have b1:=Ts x.1 q;have b2:=Ts x.2.1 (cc b9 x.1 q).2;have b3:=JS Rn x.2.2.1 (cc b9 x.2.1 (cc b9 x.1 q).2).2;unfold Nv sL;dsimp only;omega
theorem Sb(l:List Site)(k:Int)(hl:l.length<=1073741824)(hc:∀n,n<l.length->Lh 1073741824 (l.getD n bg))(h0:0<=k)(h1:k+(gI sL l:Nat)<=274877906944):Jh l k=some ((cc Nv l k).2,(cc Nv l k).1,()):=by
 unfold Jh;have:Jj () (l,k,0,())=some (.inl ((cc Nv l k).1,(cc Nv l k).2,())):=by
  refine KJ (cost:=sL) bg l k hl h0 RP (fun L q n hx hL hg lA cQ=>?_) (fun L k'=>?_)
  ·have hn:n<l.length:=by omega
   obtain⟨c1,c2,c3,c4,c5⟩:=hc n hn;rw[<-hg]at c1 c2 c3 c4 c5⊢;have Ur:2*(l.getD n bg).1.length+2*(l.getD n bg).2.1.length+gI M4 (l.getD n bg).2.2.1+7+7*(l.getD n bg).2.2.2.2.2.2.2.2.2.2.length<=gI sL l:=RL sL bg hn;rw[<-hg]at Ur;have b1:=Ts (L.getD n bg).1 q;have b2:=Ts (L.getD n bg).2.1 (cc b9 (L.getD n bg).1 q).2;have b3:=JS Rn (L.getD n bg).2.2.1 (cc b9 (L.getD n bg).2.1 (cc b9 (L.getD n bg).1 q).2).2;unfold Nv k3;have a1:aa .add .i64 ((cc cy (L.getD n bg).2.2.1 (cc b9 (L.getD n bg).2.1 (cc b9 (L.getD n bg).1 q).2).2).2) 1=(cc cy (L.getD n bg).2.2.1 (cc b9 (L.getD n bg).2.1 (cc b9 (L.getD n bg).1 q).2).2).2+1:=At (by omega) (by omega) (by omega);have a2:aa .add .i64 ((cc cy (L.getD n bg).2.2.1 (cc b9 (L.getD n bg).2.1 (cc b9 (L.getD n bg).1 q).2).2).2+1) 1=(cc cy (L.getD n bg).2.2.1 (cc b9 (L.getD n bg).2.1 (cc b9 (L.getD n bg).1 q).2).2).2+2:=At (by omega) (by omega) (by omega);have a3:aa .add .i64 ((cc cy (L.getD n bg).2.2.1 (cc b9 (L.getD n bg).2.1 (cc b9 (L.getD n bg).1 q).2).2).2+2) 1=(cc cy (L.getD n bg).2.2.1 (cc b9 (L.getD n bg).2.1 (cc b9 (L.getD n bg).1 q).2).2).2+3:=At (by omega) (by omega) (by omega);have a4:aa .add .i64 ((cc cy (L.getD n bg).2.2.1 (cc b9 (L.getD n bg).2.1 (cc b9 (L.getD n bg).1 q).2).2).2+3) 1=(cc cy (L.getD n bg).2.2.1 (cc b9 (L.getD n bg).2.1 (cc b9 (L.getD n bg).1 q).2).2).2+4:=At (by omega) (by omega) (by omega);have a5:aa .add .i64 ((cc cy (L.getD n bg).2.2.1 (cc b9 (L.getD n bg).2.1 (cc b9 (L.getD n bg).1 q).2).2).2+4) 1=(cc cy (L.getD n bg).2.2.1 (cc b9 (L.getD n bg).2.1 (cc b9 (L.getD n bg).1 q).2).2).2+5:=At (by omega) (by omega) (by omega);have a6:aa .add .i64 ((cc cy (L.getD n bg).2.2.1 (cc b9 (L.getD n bg).2.1 (cc b9 (L.getD n bg).1 q).2).2).2+5) 1=(cc cy (L.getD n bg).2.2.1 (cc b9 (L.getD n bg).2.1 (cc b9 (L.getD n bg).1 q).2).2).2+6:=At (by omega) (by omega) (by omega);have a7:aa .add .i64 ((cc cy (L.getD n bg).2.2.1 (cc b9 (L.getD n bg).2.1 (cc b9 (L.getD n bg).1 q).2).2).2+6) 1=(cc cy (L.getD n bg).2.2.1 (cc b9 (L.getD n bg).2.1 (cc b9 (L.getD n bg).1 q).2).2).2+7:=At (by omega) (by omega) (by omega);have m1:=Qm (L.getD n bg).1 q c1 (by omega) (by omega);have m2:=Qm (L.getD n bg).2.1 (cc b9 (L.getD n bg).1 q).2 c2 (by omega) (by omega);have m3:=Rj (L.getD n bg).2.2.1 (cc b9 (L.getD n bg).2.1 (cc b9 (L.getD n bg).1 q).2).2 c3 c4 (by omega) (by omega);have m4:=Ph (L.getD n bg).2.2.2.2.2.2.2.2.2.2 ((cc cy (L.getD n bg).2.2.1 (cc b9 (L.getD n bg).2.1 (cc b9 (L.getD n bg).1 q).2).2).2+7) c5 (by omega) (by omega);unfold Ji;dsimp only;rw[show aS=bg from rfl];refine(cT (XH hx)).trans ?_;refine(cT (XG hx)).trans ?_;refine(Oi (r:=_) (by simp only[aq,aF hx,a1,a2,a3,a4,a5,a6,a7];exact m1)).trans ?_;refine(g7 (b:=L.set n ((cc b9 (L.getD n bg).1 q).1,(L.getD n bg).2.1,(L.getD n bg).2.2.1,(L.getD n bg).2.2.2.1,(L.getD n bg).2.2.2.2.1,(L.getD n bg).2.2.2.2.2.1,(L.getD n bg).2.2.2.2.2.2.1,(L.getD n bg).2.2.2.2.2.2.2.1,(L.getD n bg).2.2.2.2.2.2.2.2.1,(L.getD n bg).2.2.2.2.2.2.2.2.2.1,(L.getD n bg).2.2.2.2.2.2.2.2.2.2)) (by simp only[aq,aN,aF hx,List.set_set])).trans ?_;refine(cT (PP hx)).trans ?_;refine(Oi (r:=_) (by simp only[aq,aF hx,a1,a2,a3,a4,a5,a6,a7];exact m2)).trans ?_;refine(g7 (b:=L.set n ((cc b9 (L.getD n bg).1 q).1,(cc b9 (L.getD n bg).2.1 (cc b9 (L.getD n bg).1 q).2).1,(L.getD n bg).2.2.1,(L.getD n bg).2.2.2.1,(L.getD n bg).2.2.2.2.1,(L.getD n bg).2.2.2.2.2.1,(L.getD n bg).2.2.2.2.2.2.1,(L.getD n bg).2.2.2.2.2.2.2.1,(L.getD n bg).2.2.2.2.2.2.2.2.1,(L.getD n bg).2.2.2.2.2.2.2.2.2.1,(L.getD n bg).2.2.2.2.2.2.2.2.2.2)) (by simp only[aq,aN,aF hx,List.set_set])).trans ?_;refine(cT (PP hx)).trans ?_;refine(Oi (r:=_) (by simp only[aq,aF hx,a1,a2,a3,a4,a5,a6,a7];exact m3)).trans ?_;refine(g7 (b:=L.set n ((cc b9 (L.getD n bg).1 q).1,(cc b9 (L.getD n bg).2.1 (cc b9 (L.getD n bg).1 q).2).1,(cc cy (L.getD n bg).2.2.1 (cc b9 (L.getD n bg).2.1 (cc b9 (L.getD n bg).1 q).2).2).1,(L.getD n bg).2.2.2.1,(L.getD n bg).2.2.2.2.1,(L.getD n bg).2.2.2.2.2.1,(L.getD n bg).2.2.2.2.2.2.1,(L.getD n bg).2.2.2.2.2.2.2.1,(L.getD n bg).2.2.2.2.2.2.2.2.1,(L.getD n bg).2.2.2.2.2.2.2.2.2.1,(L.getD n bg).2.2.2.2.2.2.2.2.2.2)) (by simp only[aq,aN,aF hx,List.set_set])).trans ?_;refine(cT (PP hx)).trans ?_;refine(g7 (b:=L.set n ((cc b9 (L.getD n bg).1 q).1,(cc b9 (L.getD n bg).2.1 (cc b9 (L.getD n bg).1 q).2).1,(cc cy (L.getD n bg).2.2.1 (cc b9 (L.getD n bg).2.1 (cc b9 (L.getD n bg).1 q).2).2).1,(cc cy (L.getD n bg).2.2.1 (cc b9 (L.getD n bg).2.1 (cc b9 (L.getD n bg).1 q).2).2).2,(L.getD n bg).2.2.2.2.1,(L.getD n bg).2.2.2.2.2.1,(L.getD n bg).2.2.2.2.2.2.1,(L.getD n bg).2.2.2.2.2.2.2.1,(L.getD n bg).2.2.2.2.2.2.2.2.1,(L.getD n bg).2.2.2.2.2.2.2.2.2.1,(L.getD n bg).2.2.2.2.2.2.2.2.2.2)) (by simp only[aq,aN,aF hx,List.set_set,a1,a2,a3,a4,a5,a6,a7])).trans ?_;refine(cT (PP hx)).trans ?_;refine(g7 (b:=L.set n ((cc b9 (L.getD n bg).1 q).1,(cc b9 (L.getD n bg).2.1 (cc b9 (L.getD n bg).1 q).2).1,(cc cy (L.getD n bg).2.2.1 (cc b9 (L.getD n bg).2.1 (cc b9 (L.getD n bg).1 q).2).2).1,(cc cy (L.getD n bg).2.2.1 (cc b9 (L.getD n bg).2.1 (cc b9 (L.getD n bg).1 q).2).2).2,(cc cy (L.getD n bg).2.2.1 (cc b9 (L.getD n bg).2.1 (cc b9 (L.getD n bg).1 q).2).2).2+1,(L.getD n bg).2.2.2.2.2.1,(L.getD n bg).2.2.2.2.2.2.1,(L.getD n bg).2.2.2.2.2.2.2.1,(L.getD n bg).2.2.2.2.2.2.2.2.1,(L.getD n bg).2.2.2.2.2.2.2.2.2.1,(L.getD n bg).2.2.2.2.2.2.2.2.2.2)) (by simp only[aq,aN,aF hx,List.set_set,a1,a2,a3,a4,a5,a6,a7])).trans ?_;refine(cF VX).trans ?_;refine(cT (PP hx)).trans ?_;refine(g7 (b:=L.set n ((cc b9 (L.getD n bg).1 q).1,(cc b9 (L.getD n bg).2.1 (cc b9 (L.getD n bg).1 q).2).1,(cc cy (L.getD n bg).2.2.1 (cc b9 (L.getD n bg).2.1 (cc b9 (L.getD n bg).1 q).2).2).1,(cc cy (L.getD n bg).2.2.1 (cc b9 (L.getD n bg).2.1 (cc b9 (L.getD n bg).1 q).2).2).2,(cc cy (L.getD n bg).2.2.1 (cc b9 (L.getD n bg).2.1 (cc b9 (L.getD n bg).1 q).2).2).2+1,af .eql (aa .rem .i64 ((cc cy (L.getD n bg).2.2.1 (cc b9 (L.getD n bg).2.1 (cc b9 (L.getD n bg).1 q).2).2).2+2) 3) 0,(L.getD n bg).2.2.2.2.2.2.1,(L.getD n bg).2.2.2.2.2.2.2.1,(L.getD n bg).2.2.2.2.2.2.2.2.1,(L.getD n bg).2.2.2.2.2.2.2.2.2.1,(L.getD n bg).2.2.2.2.2.2.2.2.2.2)) (by simp only[aq,aN,aF hx,List.set_set,a1,a2,a3,a4,a5,a6,a7])).trans ?_;refine(cF VX).trans ?_;refine(cT (PP hx)).trans ?_;refine(g7 (b:=L.set n ((cc b9 (L.getD n bg).1 q).1,(cc b9 (L.getD n bg).2.1 (cc b9 (L.getD n bg).1 q).2).1,(cc cy (L.getD n bg).2.2.1 (cc b9 (L.getD n bg).2.1 (cc b9 (L.getD n bg).1 q).2).2).1,(cc cy (L.getD n bg).2.2.1 (cc b9 (L.getD n bg).2.1 (cc b9 (L.getD n bg).1 q).2).2).2,(cc cy (L.getD n bg).2.2.1 (cc b9 (L.getD n bg).2.1 (cc b9 (L.getD n bg).1 q).2).2).2+1,af .eql (aa .rem .i64 ((cc cy (L.getD n bg).2.2.1 (cc b9 (L.getD n bg).2.1 (cc b9 (L.getD n bg).1 q).2).2).2+2) 3) 0,af .eql (aa .rem .i64 ((cc cy (L.getD n bg).2.2.1 (cc b9 (L.getD n bg).2.1 (cc b9 (L.getD n bg).1 q).2).2).2+3) 3) 0,(L.getD n bg).2.2.2.2.2.2.2.1,(L.getD n bg).2.2.2.2.2.2.2.2.1,(L.getD n bg).2.2.2.2.2.2.2.2.2.1,(L.getD n bg).2.2.2.2.2.2.2.2.2.2)) (by simp only[aq,aN,aF hx,List.set_set,a1,a2,a3,a4,a5,a6,a7])).trans ?_;refine(cF VX).trans ?_;refine(g7 (b:=af .eql (aa .rem .i64 ((cc cy (L.getD n bg).2.2.1 (cc b9 (L.getD n bg).2.1 (cc b9 (L.getD n bg).1 q).2).2).2+4) 3) 0) (by simp only[a1,a2,a3,a4])).trans ?_;refine(cT (PP hx)).trans ?_;refine(g7 (b:=L.set n ((cc b9 (L.getD n bg).1 q).1,(cc b9 (L.getD n bg).2.1 (cc b9 (L.getD n bg).1 q).2).1,(cc cy (L.getD n bg).2.2.1 (cc b9 (L.getD n bg).2.1 (cc b9 (L.getD n bg).1 q).2).2).1,(cc cy (L.getD n bg).2.2.1 (cc b9 (L.getD n bg).2.1 (cc b9 (L.getD n bg).1 q).2).2).2,(cc cy (L.getD n bg).2.2.1 (cc b9 (L.getD n bg).2.1 (cc b9 (L.getD n bg).1 q).2).2).2+1,af .eql (aa .rem .i64 ((cc cy (L.getD n bg).2.2.1 (cc b9 (L.getD n bg).2.1 (cc b9 (L.getD n bg).1 q).2).2).2+2) 3) 0,af .eql (aa .rem .i64 ((cc cy (L.getD n bg).2.2.1 (cc b9 (L.getD n bg).2.1 (cc b9 (L.getD n bg).1 q).2).2).2+3) 3) 0,af .eql (aa .rem .i64 ((cc cy (L.getD n bg).2.2.1 (cc b9 (L.getD n bg).2.1 (cc b9 (L.getD n bg).1 q).2).2).2+4) 3) 0,(L.getD n bg).2.2.2.2.2.2.2.2.1,(L.getD n bg).2.2.2.2.2.2.2.2.2.1,(L.getD n bg).2.2.2.2.2.2.2.2.2.2)) (by simp only[aq,aN,aF hx,List.set_set])).trans ?_;refine(cT (PP hx)).trans ?_;refine(g7 (b:=L.set n ((cc b9 (L.getD n bg).1 q).1,(cc b9 (L.getD n bg).2.1 (cc b9 (L.getD n bg).1 q).2).1,(cc cy (L.getD n bg).2.2.1 (cc b9 (L.getD n bg).2.1 (cc b9 (L.getD n bg).1 q).2).2).1,(cc cy (L.getD n bg).2.2.1 (cc b9 (L.getD n bg).2.1 (cc b9 (L.getD n bg).1 q).2).2).2,(cc cy (L.getD n bg).2.2.1 (cc b9 (L.getD n bg).2.1 (cc b9 (L.getD n bg).1 q).2).2).2+1,af .eql (aa .rem .i64 ((cc cy (L.getD n bg).2.2.1 (cc b9 (L.getD n bg).2.1 (cc b9 (L.getD n bg).1 q).2).2).2+2) 3) 0,af .eql (aa .rem .i64 ((cc cy (L.getD n bg).2.2.1 (cc b9 (L.getD n bg).2.1 (cc b9 (L.getD n bg).1 q).2).2).2+3) 3) 0,af .eql (aa .rem .i64 ((cc cy (L.getD n bg).2.2.1 (cc b9 (L.getD n bg).2.1 (cc b9 (L.getD n bg).1 q).2).2).2+4) 3) 0,(cc cy (L.getD n bg).2.2.1 (cc b9 (L.getD n bg).2.1 (cc b9 (L.getD n bg).1 q).2).2).2+5,(L.getD n bg).2.2.2.2.2.2.2.2.2.1,(L.getD n bg).2.2.2.2.2.2.2.2.2.2)) (by simp only[aq,aN,aF hx,List.set_set,a1,a2,a3,a4,a5,a6,a7])).trans ?_;refine(g7 (b:=(cc cy (L.getD n bg).2.2.1 (cc b9 (L.getD n bg).2.1 (cc b9 (L.getD n bg).1 q).2).2).2+6) (by simp only[a1,a2,a3,a4,a5,a6])).trans ?_;refine(cT (PP hx)).trans ?_;refine(g7 (b:=L.set n ((cc b9 (L.getD n bg).1 q).1,(cc b9 (L.getD n bg).2.1 (cc b9 (L.getD n bg).1 q).2).1,(cc cy (L.getD n bg).2.2.1 (cc b9 (L.getD n bg).2.1 (cc b9 (L.getD n bg).1 q).2).2).1,(cc cy (L.getD n bg).2.2.1 (cc b9 (L.getD n bg).2.1 (cc b9 (L.getD n bg).1 q).2).2).2,(cc cy (L.getD n bg).2.2.1 (cc b9 (L.getD n bg).2.1 (cc b9 (L.getD n bg).1 q).2).2).2+1,af .eql (aa .rem .i64 ((cc cy (L.getD n bg).2.2.1 (cc b9 (L.getD n bg).2.1 (cc b9 (L.getD n bg).1 q).2).2).2+2) 3) 0,af .eql (aa .rem .i64 ((cc cy (L.getD n bg).2.2.1 (cc b9 (L.getD n bg).2.1 (cc b9 (L.getD n bg).1 q).2).2).2+3) 3) 0,af .eql (aa .rem .i64 ((cc cy (L.getD n bg).2.2.1 (cc b9 (L.getD n bg).2.1 (cc b9 (L.getD n bg).1 q).2).2).2+4) 3) 0,(cc cy (L.getD n bg).2.2.1 (cc b9 (L.getD n bg).2.1 (cc b9 (L.getD n bg).1 q).2).2).2+5,(cc cy (L.getD n bg).2.2.1 (cc b9 (L.getD n bg).2.1 (cc b9 (L.getD n bg).1 q).2).2).2+6,(L.getD n bg).2.2.2.2.2.2.2.2.2.2)) (by simp only[aq,aN,aF hx,List.set_set])).trans ?_;refine(cT (PP hx)).trans ?_;refine(Oi (r:=_) (by simp only[aq,aF hx,a1,a2,a3,a4,a5,a6,a7];exact m4)).trans ?_;refine(g7 (b:=L.set n ((cc b9 (L.getD n bg).1 q).1,(cc b9 (L.getD n bg).2.1 (cc b9 (L.getD n bg).1 q).2).1,(cc cy (L.getD n bg).2.2.1 (cc b9 (L.getD n bg).2.1 (cc b9 (L.getD n bg).1 q).2).2).1,(cc cy (L.getD n bg).2.2.1 (cc b9 (L.getD n bg).2.1 (cc b9 (L.getD n bg).1 q).2).2).2,(cc cy (L.getD n bg).2.2.1 (cc b9 (L.getD n bg).2.1 (cc b9 (L.getD n bg).1 q).2).2).2+1,af .eql (aa .rem .i64 ((cc cy (L.getD n bg).2.2.1 (cc b9 (L.getD n bg).2.1 (cc b9 (L.getD n bg).1 q).2).2).2+2) 3) 0,af .eql (aa .rem .i64 ((cc cy (L.getD n bg).2.2.1 (cc b9 (L.getD n bg).2.1 (cc b9 (L.getD n bg).1 q).2).2).2+3) 3) 0,af .eql (aa .rem .i64 ((cc cy (L.getD n bg).2.2.1 (cc b9 (L.getD n bg).2.1 (cc b9 (L.getD n bg).1 q).2).2).2+4) 3) 0,(cc cy (L.getD n bg).2.2.1 (cc b9 (L.getD n bg).2.1 (cc b9 (L.getD n bg).1 q).2).2).2+5,(cc cy (L.getD n bg).2.2.1 (cc b9 (L.getD n bg).2.1 (cc b9 (L.getD n bg).1 q).2).2).2+6,PN ((cc cy (L.getD n bg).2.2.1 (cc b9 (L.getD n bg).2.1 (cc b9 (L.getD n bg).1 q).2).2).2+7) (L.getD n bg).2.2.2.2.2.2.2.2.2.2.length)) (by simp only[aq,aN,aF hx,List.set_set])).trans ?_;simp only[av (n:=n) (by omega)]
  ·unfold Ji;simp only[aj,Nat.lt_irrefl,decide_false,cond_false]
 rw[this];rfl
end Go.Fn
set_option linter.unusedVariables false
set_option linter.unusedSimpArgs false
namespace Go.Fn
open Go.R
noncomputable def Qq(s:List Site)(p:List Q0)(g:List Rx)(j:List Ev):Nat:=gI sL s+13*p.length+7*g.length+7*j.length
noncomputable def UH(k:Int)(s:List Site):List Site×Int:=cc Nv s k
noncomputable def UG(k:Int)(s:List Site)(p:List Q0):List Q0×Int:=cc Qp p (UH k s).2
noncomputable def VJ(k:Int)(s:List Site)(p:List Q0)(g:List Rx):List Rx×Int:=cc Qo g (UG k s p).2
noncomputable def U2(k:Int)(s:List Site)(p:List Q0)(g:List Rx)(j:List Ev):Int:=(VJ k s p g).2+7*(j.length:Int)
section
variable (a0 a1 a2 a3 a4 a5 a6 a7 a8 a9 a10:Int) (s:List Site) (p:List Q0) (g:List Rx) (j:List Ev) (k:Int)
theorem Ta:(k<=(UH k s).2/\(UH k s).2<=k+(gI sL s:Nat))/\((UH k s).2<=(UG k s p).2/\(UG k s p).2<=(UH k s).2+(13*p.length:Nat))/\((UG k s p).2<=(VJ k s p g).2/\(VJ k s p g).2<=(UG k s p).2+(7*g.length:Nat)):=by have b1:=JS RP s k;have b2:=JS SN p (UH k s).2;have b3:=JS SM g (UG k s p).2;rw[hG]at b2 b3;exact⟨b1,b2,b3⟩
theorem Rk(h:QS s p g j)(h0:0<=k)(h1:k+(Qq s p g j:Nat)<=137438953472):
  vp a0 a1 a2 a3 a4 a5 a6 a7 a8 a9 a10 s p g j k=some (U2 k s p g j,(UH k s).1,(UG k s p).1,(VJ k s p g).1,PN (VJ k s p g).2 j.length,()):=by
 have e1:=h.ls;have e2:=h.lp;have e3:=h.lg;have e4:=h.lj;obtain⟨b1,b2,b3⟩:=Ta s p g k;unfold Qq at h1;unfold vp;rw[Sb s k (by omega) h.ss h0 (by omega)];simp only[Option.bind_some];rw[show(cc Nv s k).2=(UH k s).2 from rfl,Rl p (UH k s).2 (by omega) (by omega) (by omega)];simp only[Option.bind_some];rw[show(cc Qp p (UH k s).2).2=(UG k s p).2 from rfl,RD g (UG k s p).2 (by omega) (by omega) (by omega)];simp only[Option.bind_some];rw[show(cc Qo g (UG k s p).2).2=(VJ k s p g).2 from rfl,Ph j (VJ k s p g).2 (by omega) (by omega) (by omega)];rfl
theorem Ro(h0:0<=k):0<=U2 k s p g j:=by obtain⟨b1,b2,b3⟩:=Ta s p g k;unfold U2;omega
end
abbrev Wk:=List LR×List LR
end Go.Fn
set_option linter.unusedVariables false
set_option linter.unusedSimpArgs false
namespace Go.Fn
open Go.R
theorem SS {α:Type} {body:Int×Int×Unit->Option ((Int×Int×Unit)⊕(Int×Unit⊕(Int×Unit⊕Empty)))} (z:α) (cost:α->Nat) (l:List α) (hl:l.length<=1073741824)
  (h:∀(n:Nat) (a:Int),n<l.length->0<=a->a<=1048576->body (a,(n:Int),())=some (.inr (.inl (-1,())))\/∃b,body (a,(n:Int),())=some (.inl (b,((n+1:Nat):Int),()))/\0<=b/\b+(cost (l.getD n z):Nat)<=a)
  (hend:∀a,body (a,(l.length:Int),())=some (.inr (.inr (.inl (a,()))))) (a:Int) (ha:0<=a) (PO:a<=1048576):
  ∃y,iter body big (a,0,())=some y/\(y=.inl (-1,())\/∃b,y=.inr (.inl (b,()))/\0<=b/\b+(gI cost l:Nat)<=a):=by
 have key:∀(k n:Nat) (a:Int),n+k=l.length->0<=a->a<=1048576->∃y,iter body (k+1) (a,(n:Int),())=some y/\(y=.inl (-1,())\/∃b,y=.inr (.inl (b,()))/\0<=b/\b+(gI cost (l.drop n):Nat)<=a):=by
  intro k;induction k with
  |zero=>
   intro n a hn h0 h1;have:n=l.length:=by omega
   subst this;refine⟨_,ay (hend a),.inr ⟨a,rfl,h0,?_⟩⟩;rw[List.drop_length];show a+(0:Int)<=a;omega
  |succ k ih=>
   intro n a hn h0 h1;have hlt:n<l.length:=by omega
   rcases h n a hlt h0 h1 with h|⟨b,h,b0,b1⟩
   ·exact⟨_,ay h,.inl rfl⟩
   ·obtain⟨y,q1,q2⟩:=ih (n+1) b (by omega) b0 (by omega);refine⟨y,by rw[aH h];exact q1,q2.imp id fun⟨c,c1,c2,c3⟩=>⟨c,c1,c2,?_⟩⟩;have hd:l.drop n=l.getD n z::l.drop (n+1):=by rw[List.drop_eq_getElem_cons hlt,List.getD_eq_getElem?_getD,List.getElem?_eq_getElem hlt];rfl
    rw[hd];simp only[gI];omega
 obtain⟨y,h1,h2⟩:=key l.length 0 a (by omega) ha PO;exact⟨y,bF h1 (aT (by omega)),h2⟩
noncomputable def Uk(c:OO):Nat:=c.2.1.length+c.2.2.length
noncomputable def Q6(l:List OO):Nat:=l.length+gI Uk l
theorem Sk(a0:Int)(a1:List Int)(a2:List Bx)(a:Int)(h1:a1.length<=9223372036854775807)(h2:a2.length<=9223372036854775807)(ha:0<=a)(PO:a<=1048576):
  ∃b,jn a0 a1 a2 a=some (b,())/\(b = -1\/(0<=b/\b+(a1.length+a2.length:Nat)<=a)):=by
 unfold jn;rw[QI a1 a h1 ha PO];simp only[Option.bind_some];cases hd:decide (a<(a1.length:Int))with
 |true=>exact⟨-1,rfl,.inl rfl⟩
 |false=>
  have hd:=of_decide_eq_false hd;simp only[cond_false];rw[g2 (by omega)];simp only[cond_false];rw[RS a2 _ h2 (by omega) (by omega)];simp only[Option.bind_some];cases mP:decide (a-(a1.length:Int)<(a2.length:Int))with
  |true=>exact⟨-1,rfl,.inl rfl⟩
  |false=>have mP:=of_decide_eq_false mP;simp only[cond_false];rw[g2 (by omega)];exact⟨_,rfl,.inr ⟨by omega,by omega⟩⟩
theorem RH(l:List OO)(a:Int)(hl:l.length<=9223372036854775807)(hw:∀c∈l,PS 9223372036854775807 c)(ha:0<=a)(PO:a<=1048576):
  ∃b,kB l a=some (b,())/\(b = -1\/(0<=b/\b+(Q6 l:Nat)<=a)):=by
 unfold kB;have h1:aa .sub .i64 a (ai l)=a-(l.length:Int):=bO (by unfold ai;omega) (by unfold ai;omega);have h2:af .lss (a-(l.length:Int)) 0=decide (a<(l.length:Int)):=by simp only[af,decide_eq_decide];omega
 rw[h1,h2];cases hd:decide (a<(l.length:Int))with
 |true=>exact⟨-1,rfl,.inl rfl⟩
 |false=>
  have hd:=of_decide_eq_false hd;have R5:l.length<=1073741824:=by omega
  obtain⟨y,q1,q2⟩:=SS (body:=gy (l,())) cn Uk l R5 (fun n a hn h0 h1=>by
   obtain⟨c1,c2⟩:=hw _ (qS hn cn);obtain⟨b,e1,e2⟩:=Sk (l.getD n cn).1 (l.getD n cn).2.1 (l.getD n cn).2.2 a c1 c2 h0 h1;unfold gy;simp only[aj,az,hn,decide_true,cond_true,aq,aV,av (n:=n) (show n<1099511627776 by omega),e1,Option.bind_some];rcases e2 with rfl|⟨b0,b1⟩
   ·exact .inl rfl
   ·rw[g2 b0];exact .inr ⟨b,rfl,b0,b1⟩) (fun a=>by
   unfold gy;simp only[aj,Nat.lt_irrefl,decide_false,cond_false]) (a-(l.length:Int)) (by omega) (by omega)
  simp only[cond_false];unfold qe;rw[q1];rcases q2 with rfl|⟨b,rfl,b1,b2⟩
  ·exact⟨-1,rfl,.inl rfl⟩
  ·exact⟨b,rfl,.inr ⟨b1,by unfold Q6;omega⟩⟩
end Go.Fn
set_option linter.unusedVariables false
set_option linter.unusedSimpArgs false
namespace Go.Fn
open Go.R
theorem TH(a:Int):∃b,hD a=some (b,()):=by unfold hD;rw[ev];exact⟨_,rfl⟩
end Go.Fn
set_option linter.unusedVariables false
set_option linter.unusedSimpArgs false
namespace Go.Fn
open Go.R
theorem Q7:∀l:List OO,gI M4 l<=4*Q6 l
 | []=>Nat.zero_le _
 |c::l=>by have:=Q7 l;unfold Q6 at this⊢;simp only[gI,M4,Uk,List.length_cons]at this⊢;omega
end Go.Fn
set_option linter.unusedVariables false
set_option linter.unusedSimpArgs false
namespace Go.Fn
open Go.R
noncomputable def QH(x:Site):Nat:=x.1.length+x.2.1.length+Q6 x.2.2.1+x.2.2.2.2.2.2.2.2.2.2.length
theorem Tg(x:Site)(a:Int)(h:Rq x)(ha:0<=a)(PO:a<=1048576):
  ∃b,IE x.1 x.2.1 x.2.2.1 x.2.2.2.1 x.2.2.2.2.1 x.2.2.2.2.2.1 x.2.2.2.2.2.2.1 x.2.2.2.2.2.2.2.1 x.2.2.2.2.2.2.2.2.1 x.2.2.2.2.2.2.2.2.2.1 x.2.2.2.2.2.2.2.2.2.2 a=some (b,())/\(b = -1\/(0<=b/\b+(QH x:Nat)<=a)):=by
 unfold IE;rw[RT _ _ a h.o h.c ha PO];simp only[Option.bind_some];cases hd:decide (a<(x.1.length:Int)+(x.2.1.length:Int))with
 |true=>exact⟨-1,rfl,.inl rfl⟩
 |false=>
  have hd:=of_decide_eq_false hd;simp only[cond_false];rw[g2 (by omega)];simp only[cond_false];obtain⟨b,e1,e2⟩:=RH x.2.2.1 (a-(x.1.length:Int)-(x.2.1.length:Int)) h.b h.bs (by omega) (by omega);rw[e1];simp only[Option.bind_some];rcases e2 with rfl|⟨b0,b1⟩
  ·exact⟨-1,rfl,.inl rfl⟩
  ·rw[g2 b0];simp only[cond_false];rw[Rs _ b h.j b0 (by omega)];simp only[Option.bind_some];cases mP:decide (b<(x.2.2.2.2.2.2.2.2.2.2.length:Int))with
   |true=>exact⟨-1,rfl,.inl rfl⟩
   |false=>have mP:=of_decide_eq_false mP;simp only[cond_false];rw[g2 (by omega)];exact⟨_,rfl,.inr ⟨by omega,by unfold QH;omega⟩⟩
theorem SY(l:List Site)(a:Int)(hl:l.length<=9223372036854775807)(hw:∀c∈l,Rq c)(ha:0<=a)(PO:a<=1048576):
  ∃b,i4 l a=some (b,())/\(b = -1\/(0<=b/\b+(l.length+gI QH l:Nat)<=a)):=by
 unfold i4;have h1:aa .sub .i64 a (ai l)=a-(l.length:Int):=bO (by unfold ai;omega) (by unfold ai;omega);have h2:af .lss (a-(l.length:Int)) 0=decide (a<(l.length:Int)):=by simp only[af,decide_eq_decide];omega
 rw[h1,h2];cases hd:decide (a<(l.length:Int))with
 |true=>exact⟨-1,rfl,.inl rfl⟩
 |false=>
  have hd:=of_decide_eq_false hd;have R5:l.length<=1073741824:=by omega
  obtain⟨y,q1,q2⟩:=SS (body:=gA (l,())) bg QH l R5 (fun n a hn h0 h1=>by
   obtain⟨b,e1,e2⟩:=Tg (l.getD n bg) a (hw _ (qS hn bg)) h0 h1;have hb:gA (l,()) (a,(n:Int),())=(bif af .lss b 0 then some (.inr (.inl (-1,())))else some (.inl (b,((n+1:Nat):Int),()))):=by unfold gA;simp only[aj,az,hn,decide_true,cond_true,aq,aV,av (n:=n) (show n<1099511627776 by omega)];have hs':=congrArg (fun q=>q.bind fun(y0:Int×Unit)=>(bif (af .lss y0.1 (0:Int))then some (.inr (.inl ((-1:Int),())))else some (.inl (y0.1,((n+1:Nat):Int),())):Option ((Int×Int×Unit)⊕(Int×Unit⊕(Int×Unit⊕Empty))))) e1;exact hs'
   rw[hb];rcases e2 with rfl|⟨b0,b1⟩
   ·exact .inl rfl
   ·rw[g2 b0];exact .inr ⟨b,rfl,b0,b1⟩) (fun a=>by
   unfold gA;simp only[aj,Nat.lt_irrefl,decide_false,cond_false]) (a-(l.length:Int)) (by omega) (by omega)
  simp only[cond_false];unfold Ig;rw[q1];rcases q2 with rfl|⟨b,rfl,b1,b2⟩
  ·exact⟨-1,rfl,.inl rfl⟩
  ·exact⟨b,rfl,.inr ⟨b1,by omega⟩⟩
theorem QU:∀l:List Site,gI sL l<=7*(l.length+gI QH l)
 | []=>Nat.zero_le _
 |x::l=>by have h1:=QU l;have h2:=Q7 x.2.2.1;simp only[gI,sL,QH,List.length_cons];omega
section
variable (a0 a1 a2 a3 a4 a5 a6 a7 a8 a9 a10:Int) (s:List Site) (p:List Q0) (g:List Rx) (j:List Ev)
theorem U8(a b:Int)(h:Uw s p g j)(ha:0<=a)(PO:a<=1048576)(hz:kW a0 a1 a2 a3 a4 a5 a6 a7 a8 a9 a10 s p g j a=some (b,()))(hb:0<=b)(hle:QS s p g j):Qq s p g j<=68719476736:=by
 have hs:gI sL s<=7340032:=by
  obtain⟨y,e1,e2⟩:=SY s a h.ls h.ss ha PO;unfold kW at hz;rw[e1]at hz;rcases e2 with rfl|⟨y0,y1⟩
  ·have:some ((-1:Int),())=some (b,()):=hz;injection this with this
   injection this with this
   omega
  ·have:=QU s;omega
 have h2:=hle.lp;have h3:=hle.lg;have h4:=hle.lj;unfold Qq;omega
end
end Go.Fn
set_option linter.unusedVariables false
namespace Go.Fn
open Go.R
noncomputable def nl(a:Int×UE)(b:Kp):VP:=letI c:=aa .add .i64 b.2.1 1;letI d:=a.2.2.2.2.2.2.2.2.2.2.2.2.2.1;letI e:=ah d b.2.1;letI f:=ae bf d b.2.1;cond (af .lss b.2.1 (ai d)) (cond e (cond (af .eql f.2.2.2.1 1) (cond e (cond (af .eql f.2.2.1 a.1) (cond e (some (.inl (aa .add .i64 b.1 f.1,c,()))) none) (some (.inl (b.1,c,())))) none) (some (.inl (b.1,c,())))) none) (some (.inr (.inl (b.1,()))))
noncomputable def IA k x:=iter (nl k) big x
noncomputable def Ip(a b c d e f g h i j k:Int)(l:KQ)(m:M3)(n:KR)(o:Ko)(p:Int):QK:=(IA (p,a,b,c,d,e,f,g,h,i,j,k,l,m,n,o,()) (0,0,())).bind fun q=>Sum.elim (fun r=>some (r.1,())) (fun r=>Empty.elim r) q
noncomputable def eg(a:Lz×Vj)(b:Kp):Option (Kp⊕Kp⊕Empty):=letI c:=b.2.1;cond (af .gtr b.1 0) (cond (af .lss c 20000) ((JK a.1 a.2.1 c).bind fun d=>letI e:=aa .add .i64 c 1;cond d.1 (some (.inl (aa .sub .i64 b.1 1,e,()))) (some (.inl (b.1,e,())))) (some (.inr (.inl (b.1,c,()))))) (some (.inr (.inl (b.1,c,()))))
noncomputable def jj k x:=iter (eg k) big x
noncomputable def gm(a b:Lz)(c d:Int):Xz:=(sS a b).bind fun e=>letI f:=some ((0:Int),false,());cond (Bool.not e.1) f ((bt c 0 20000).bind fun g=>cond (Bool.not g.1) f ((jj (a,b,()) (d,c,())).bind fun h=>Sum.elim (fun i=>cond (af .neq i.1 0) f (some (i.2.1,true,()))) (fun i=>Empty.elim i) h))
noncomputable def Im(a b:Lz)(c d e f g h i j k l:Int):Xz:=(JJ c d e f g h i j).bind fun m=>letI n:=some ((0:Int),false,());cond (Bool.not m.1) n ((bt l 0 j).bind fun o=>cond (Bool.not o.1) n ((gm a b k (aa .add .i64 c (aa .mul .i64 h l))).bind fun p=>some (p.1,p.2.1,())))
noncomputable def JH(a b:Lz)(c d e f g h i j k l m:Int):mo:=(Im a b c d e f g h i j k m).bind fun n=>cond n.2.1 ((bt l (aa .add .i64 n.1 1) 20000).bind fun o=>some (o.1,())) (some (false,()))
noncomputable def nn(a:Int×UE)(b:Kp):VP:=letI c:=a.2.2.2.2.2;letI d:=aa .add .i64 b.2.1 1;letI e:=c.2.2.2.2.2.2;letI f:=(b.1,d,());letI g:=ae aS e.2.1 a.1;letI h:=ae bf e.2.2.1 b.2.1;cond (af .lss b.2.1 (ai e.2.2.1)) (cond (ah e.2.2.1 b.2.1) (cond (af .eql h.2.2.2.1 3) (cond (af .eql h.2.2.1 a.1) (cond (ah e.2.1 a.1) ((JH g.1 g.2.1 a.2.1 a.2.2.1 a.2.2.2.1 a.2.2.2.2.1 c.1 c.2.1 c.2.2.1 c.2.2.2.1 h.2.2.2.2.1 e.1 h.2.2.2.2.2.1).bind fun i=>cond i.1 (some (.inl (aa .add .i64 b.1 h.1,d,()))) (some (.inl f))) none) (some (.inl f))) (some (.inl f))) none) (some (.inr (.inl (b.1,()))))
noncomputable def IB k x:=iter (nn k) big x
noncomputable def Iq(a b c d e f g h i j k:Int)(l:KQ)(m:M3)(n:KR)(o:Ko)(p:Int):QK:=(IB (p,a,b,c,d,e,f,g,h,i,j,k,l,m,n,o,()) (0,0,())).bind fun q=>Sum.elim (fun r=>some (r.1,())) (fun r=>Empty.elim r) q
noncomputable def Np(a b:Lz)(c:Int):mo:=(sS a b).bind fun d=>letI e:=some (false,());cond d.1 ((bt c 0 19999).bind fun f=>cond f.1 ((JK a b c).bind fun g=>some (g.1,())) e) e
noncomputable def Kf(a:z2×Int×UE)(b:Xw):Z8:=letI c:=b.2.2;letI d:=c.2.2.1;cond (af .lss d (ai a.1)) (cond (ah a.1 d) (cond (af .neq (ai (ae g8 a.1 d)) (ai a.1)) (some (.inr (.inl (0,0,([]:z2),([]:Ir),([]:nw),false,())))) (some (.inl (b.1,b.2.1,c.1,c.2.1,aa .add .i64 d 1,())))) none) (some (.inr (.inr (.inl (b.1,b.2.1,c.1,c.2.1,())))))
noncomputable def Kh k x:=iter (Kf k) big x
noncomputable def Kg(a:z2×Int×Xu)(b:XJ):Option (XJ⊕XJ⊕Empty):=letI c:=b.2.2;letI d:=c.2.2;letI e:=d.2.2;letI f:=e.2.2;letI g:=f.2.2.2;letI h:=a.2.2.2.2.2.2.2.2.2.2.2.2.2;letI i:=aa .add .i64 g.1 1;letI j:=ae aS h.1 h.2.2.2.2.1;cond (ah h.1 h.2.2.2.2.1) ((Np j.1 j.2.1 i).bind fun k=>cond k.1 (some (.inl (b.1,b.2.1,c.1,c.2.1,d.1,d.2.1,e.1,e.2.1,f.1,f.2.1,f.2.2.1,i,g.2.1,g.2.2.1,g.2.2.2.1,()))) (some (.inr (.inl (b.1,b.2.1,c.1,c.2.1,d.1,d.2.1,e.1,e.2.1,f.1,f.2.1,f.2.2.1,g.1,g.2.1,g.2.2.1,g.2.2.2.1,()))))) none
noncomputable def me k x:=iter (Kg k) big x
noncomputable def l5(a:z2×Int×UE)(b:Vf):YcM:=letI c:=b.2.2;letI d:=a.2.2.2;letI e:=c.2.2;letI f:=d.2.2;letI g:=e.2.2;letI h:=g.2.2;letI i:=f.2.2.2;letI j:=i.2.2;letI k:=h.2.2.1;letI l:=j.2.2.2;letI m:=j.2.2.1;letI n:=l.1;letI o:=l.2.2;cond (af .lss k (ai n)) ((Ip a.2.2.1 d.1 d.2.1 f.1 f.2.1 f.2.2.1 i.1 i.2.1 j.1 j.2.1 m n l.2.1 o.1 o.2.1 k).bind fun p=>(Iq a.2.2.1 d.1 d.2.1 f.1 f.2.1 f.2.2.1 i.1 i.2.1 j.1 j.2.1 m n l.2.1 o.1 o.2.1 k).bind fun q=>letI r:=([]:nw);letI s:=((0:Int),(0:Int),([]:z2),([]:Ir),r,false,());letI t:=aa .add .i64 k 1;letI u:=gm (ae aS n k).1 (ae aS n k).2.1 m 1;letI v:=(a.1,a.2.1,a.2.2.1,d.1,d.2.1,f.1,f.2.1,f.2.2.1,i.1,i.2.1,j.1,j.2.1,m,n,l.2.1,o.1,o.2.1,k,());cond (af .eql p.1 0) (cond (af .eql q.1 0) (some (.inl (b.1,b.2.1,c.1,c.2.1,e.1,e.2.1,g.1,g.2.1,h.1,h.2.1,t,()))) (cond (ah n k) (u.bind fun w=>letI x:=aa .sub .i64 w.1 1;cond (Bool.not w.2.1) (some (.inr (.inl s))) ((me v (b.1,b.2.1,c.1,c.2.1,e.1,e.2.1,g.1,g.2.1,h.1,h.2.1,x,x,a.2.1,p.1,q.1,())).bind fun y=>Sum.elim (fun z=>letI A:=z.2.2.2.2;letI B:=A.2.2.2;letI C:=B.2.2.2.2;letI D:=(B.2.2.2.1,C.1,C.2.1,C.2.2.1,C.2.2.2.1);cond (aE (List.append (α:=Q4) B.1 (List.append (α:=Q4) ([]:Ir) [D]))) (lets (List.append (α:=Q4) ([]:Ir) [D]) fun _=>lets (List.append (α:=Q4) B.1 (List.append (α:=Q4) ([]:Ir) [D])) fun E=>cond (aE (List.append (α:=Int) B.2.1 (List.append (α:=Int) r [k]))) (cond (aE (List.append (α:=Int) B.2.2.1 (List.append (α:=Int) r [t]))) (some (.inl (z.1,z.2.1,z.2.2.1,z.2.2.2.1,A.1,A.2.1,A.2.2.1,E,List.append (α:=Int) B.2.1 (List.append (α:=Int) r [k]),List.append (α:=Int) B.2.2.1 (List.append (α:=Int) r [t]),t,()))) none) none) none) (fun z=>Empty.elim z) y)) none)) (cond (ah n k) (u.bind fun w=>letI x:=aa .sub .i64 w.1 1;cond (Bool.not w.2.1) (some (.inr (.inl s))) ((me v (b.1,b.2.1,c.1,c.2.1,e.1,e.2.1,g.1,g.2.1,h.1,h.2.1,x,x,a.2.1,p.1,q.1,())).bind fun y=>Sum.elim (fun z=>letI A:=z.2.2.2.2;letI B:=A.2.2.2;letI C:=B.2.2.2.2;letI D:=(B.2.2.2.1,C.1,C.2.1,C.2.2.1,C.2.2.2.1);cond (aE (List.append (α:=Q4) B.1 (List.append (α:=Q4) ([]:Ir) [D]))) (lets (List.append (α:=Q4) ([]:Ir) [D]) fun _=>lets (List.append (α:=Q4) B.1 (List.append (α:=Q4) ([]:Ir) [D])) fun E=>cond (aE (List.append (α:=Int) B.2.1 (List.append (α:=Int) r [k]))) (cond (aE (List.append (α:=Int) B.2.2.1 (List.append (α:=Int) r [t]))) (some (.inl (z.1,z.2.1,z.2.2.1,z.2.2.2.1,A.1,A.2.1,A.2.2.1,E,List.append (α:=Int) B.2.1 (List.append (α:=Int) r [k]),List.append (α:=Int) B.2.2.1 (List.append (α:=Int) r [t]),t,()))) none) none) none) (fun z=>Empty.elim z) y)) none)) (some (.inr (.inr (.inl (b.1,b.2.1,c.1,c.2.1,e.1,e.2.1,g.1,g.2.1,h.1,h.2.1,())))))
noncomputable def Ki k x:=iter (l5 k) big x
noncomputable def ye(a:VT)(b:Z4):Option (Z4⊕Int×Int×z2×Ir×Int×Int×z2×Ir×nw×nw×UI⊕Empty):=letI c:=b.2.2.2;letI d:=c.2.2;letI e:=d.2.2;letI f:=e.2.2;letI g:=f.1;letI h:=f.2.2.1;letI i:=ae zI g a.2.1;letI j:=ae zI (ae g8 a.1 i) (ae zI g h);cond (af .lss h (ai g)) (cond (ah g a.2.1) (cond (ah a.1 i) (cond (ah g h) (cond (ah (ae g8 a.1 i) (ae zI g h)) (cond (aE (List.append (α:=Int) f.2.1 (List.append (α:=Int) ([]:nw) [j]))) (lets (List.append (α:=Int) ([]:nw) [j]) fun _=>some (.inl (b.1,b.2.1,b.2.2.1,c.1,c.2.1,d.1,d.2.1,e.1,e.2.1,g,List.append (α:=Int) f.2.1 (List.append (α:=Int) ([]:nw) [j]),aa .add .i64 h 1,()))) none) none) none) none) none) (some (.inr (.inl (b.1,b.2.1,b.2.2.1,c.1,c.2.1,d.1,d.2.1,e.1,e.2.1,g,f.2.1,()))))
noncomputable def Kk k x:=iter (ye k) big x
noncomputable def xx(a:Vi)(b:Vf):Option (Vf⊕Z5):=letI c:=b.2.2.2;letI d:=c.2.2.2;letI e:=d.2.2.2;cond (af .lss e.2.1 (ai e.1)) ((Kk (a.1,e.2.1,()) (b.1,b.2.1,b.2.2.1,c.1,c.2.1,c.2.2.1,d.1,d.2.1,d.2.2.1,e.1,([]:nw),0,())).bind fun f=>Sum.elim (fun g=>letI h:=g.2.2.2;letI i:=h.2.2.2;cond (aE (List.append (α:=nw) i.1 (List.append (α:=nw) ([]:z2) [i.2.2.2.2.1]))) (some (.inl (g.1,g.2.1,g.2.2.1,h.1,h.2.1,h.2.2.1,List.append (α:=nw) i.1 (List.append (α:=nw) ([]:z2) [i.2.2.2.2.1]),i.2.1,i.2.2.1,i.2.2.2.1,aa .add .i64 e.2.1 1,()))) none) (fun g=>Empty.elim g) f) (some (.inr (.inl (b.1,b.2.1,b.2.2.1,c.1,c.2.1,c.2.2.1,d.1,d.2.1,d.2.2.1,()))))
noncomputable def Kj k x:=iter (xx k) big x
noncomputable def Ky(a b c d e f g h i j k:Int)(l:KQ)(m:M3)(n:KR)(o:Ko)(p:z2)(q:Int):Option Xv:=(JE a b c d e f g h i j k l m n o).bind fun r=>letI s:=(0:Int);letI t:=some (s,s,([]:z2),([]:Ir),([]:nw),false,());letI u:=(p,q,a,b,c,d,e,f,g,h,i,j,k,l,m,n,o,());cond (Bool.not r.1) t (cond (af .neq (ai p) (aa .add .i64 (ai l) 1)) t ((Kh u (s,s,([]:z2),([]:Ir),s,())).bind fun v=>Sum.elim (fun w=>some (w.1,w.2.1,w.2.2.1,w.2.2.2.1,w.2.2.2.2.1,w.2.2.2.2.2.1,())) (fun w=>Sum.elim (fun x=>(Ki u (x.1,x.2.1,x.2.2.1,x.2.2.2.1,k,i,([]:z2),([]:Ir),([]:nw),List.append (α:=Int) ([]:nw) [s],s,())).bind fun y=>Sum.elim (fun z=>some (z.1,z.2.1,z.2.2.1,z.2.2.2.1,z.2.2.2.2.1,z.2.2.2.2.2.1,())) (fun z=>Sum.elim (fun A=>letI B:=A.2.2.2.2.2;(Kj (p,()) (A.1,A.2.1,A.2.2.1,A.2.2.2.1,A.2.2.2.2.1,B.1,B.2.1,B.2.2.1,B.2.2.2.1,B.2.2.2.2.1,s,())).bind fun C=>Sum.elim (fun D=>letI E:=D.2.2.2.2;letI F:=E.2.2;(LO E.1 E.2.1 F.1 F.2.1).bind fun G=>cond (Bool.not G.1) t (some (E.1,E.2.1,F.1,F.2.1,F.2.2.1,true,()))) (fun D=>Empty.elim D) C) (fun A=>Empty.elim A) z) y) (fun x=>Empty.elim x) w) v))
noncomputable def gw(a:Lz×Vj)(b:Kp):Option (Kp⊕Int×Tv⊕XA):=letI c:=b.2.1;letI d:=aa .add .i64 c 1;cond (af .leq c 20000) (cond (af .eql b.1 0) (some (.inr (.inl (c,true,())))) (cond (af .lss c 20000) ((KF a.1 a.2.1 c).bind fun e=>cond e.1 (some (.inl (aa .sub .i64 b.1 1,d,()))) (some (.inl (b.1,d,())))) (some (.inl (b.1,d,()))))) (some (.inr (.inr (.inl ()))))
noncomputable def II k x:=iter (gw k) big x
noncomputable def kk(a b:Lz)(c d:Int):Xz:=letI e:=some ((0:Int),false,());cond (af .lss d 0) e ((mu a b).bind fun f=>cond (Bool.not f.1) e ((gg c).bind fun g=>cond (Bool.not g.1) e ((II (a,b,()) (d,c,())).bind fun h=>Sum.elim (fun i=>some (i.1,i.2.1,())) (fun i=>Sum.elim (fun _=>e) (fun j=>Empty.elim j) i) h)))
noncomputable def Ib(a b:Lz)(c d e f g h i j k l:Int):Xz:=(mu a b).bind fun m=>letI n:=some ((0:Int),false,());cond (Bool.not m.1) n ((IV c d e f g h i j).bind fun o=>cond (Bool.not o.1) n ((gg k).bind fun p=>cond (Bool.not p.1) n ((bu l 0 j).bind fun q=>cond (Bool.not q.1) n ((kk a b k (aa .add .i64 c (aa .mul .i64 h l))).bind fun r=>some (r.1,r.2.1,())))))
noncomputable def tt(a b:Lz)(c d e f g h i j k l m:Int):mo:=(Ib a b c d e f g h i j k m).bind fun n=>letI o:=some (false,());cond n.2.1 ((gg l).bind fun p=>cond p.1 (some (af .gtr l n.1,())) o) o
noncomputable def KE(a b:Lz)(c:Int):mo:=(mu a b).bind fun d=>letI e:=some (false,());cond d.1 ((bu c 0 19999).bind fun f=>cond f.1 ((KF a b c).bind fun g=>some (g.1,())) e) e
noncomputable def JY(a:z2×Int×Int×Int×Int×Int×Int×Int×Int×Int×Int×Int×Int×KQ×M3×KR×Ko×VT)(b:Xw):Z8:=letI c:=b.2.2;letI d:=c.2.2.1;letI e:=a.2.2.2.2.2.2.2.2.2.2.2.2.2.2.2.2.2;cond (af .lss d e.2.1) (cond (ah e.1 d) (cond (af .neq (ai (ae g8 e.1 d)) (ai a.1)) (some (.inr (.inl (0,0,([]:z2),([]:Ir),([]:nw),false,())))) (some (.inl (b.1,b.2.1,c.1,c.2.1,aa .add .i64 d 1,())))) none) (some (.inr (.inr (.inl (b.1,b.2.1,c.1,c.2.1,())))))
noncomputable def J0 k x:=iter (JY k) big x
noncomputable def tv(a:z2×Int×Int×Int×Int×Int×Int×Int×Int×Int×Int×Int×Int×KQ×M3×KR×Ko×Int×KQ×Int×Int×VV)(b:Z1):Option (Z1⊕Int×Int×z2×Ir×Int×Int×z2×Ir×nw×nw×Lz×Lz×QY×Int×Int×Bool×Bool×Bool×Int×Int×Ko×Kp⊕Empty):=letI c:=b.2.2;letI d:=a.2.2.2;letI e:=c.2.2;letI f:=d.2.2.2;letI g:=e.2.2.2;letI h:=e.2.2.1;letI i:=g.2.2.2;letI j:=g.2.2.1;letI k:=i.2.1;letI l:=i.2.2.2;letI m:=i.2.2.1;letI n:=l.2.2.2;letI o:=l.2.2.1;letI p:=f.2.2.2.2.2.2.2.2.2.2.2;letI q:=n.2.2.2;letI r:=n.2.2.1;letI s:=q.2.2;letI t:=p.2.2.2.2;letI u:=s.2.2.1;letI v:=ae bf t.1 u;cond (af .lss u t.2.1) (cond (ah t.1 u) (lets (af .neq v.2.2.1 p.1) fun w=>letI x:=aa .add .i64 u 1;letI y:=v.2.2.2;letI z:=(b.1,b.2.1,c.1,c.2.1,e.1,e.2.1,h,g.1,g.2.1,j,i.1,k,m,l.1,l.2.1,o,n.1,n.2.1,r,q.1,q.2.1,s.1,s.2.1,x,());cond w (some (.inl z)) (cond (af .eql y.1 1) (lets (aa .add .i64 s.1 v.1) fun A=>some (.inl (b.1,b.2.1,c.1,c.2.1,e.1,e.2.1,h,g.1,g.2.1,j,i.1,k,m,l.1,l.2.1,o,n.1,n.2.1,r,q.1,q.2.1,A,s.2.1,x,()))) (cond (af .eql y.1 3) ((tt i.1 k a.2.2.1 d.1 d.2.1 d.2.2.1 f.1 f.2.1 f.2.2.1 f.2.2.2.1 y.2.1 f.2.2.2.2.2.2.1 y.2.2.1).bind fun A=>cond A.1 (lets (aa .add .i64 s.2.1 v.1) fun B=>some (.inl (b.1,b.2.1,c.1,c.2.1,e.1,e.2.1,h,g.1,g.2.1,j,i.1,k,m,l.1,l.2.1,o,n.1,n.2.1,r,q.1,q.2.1,s.1,B,x,()))) (some (.inl z))) (some (.inl z))))) none) (some (.inr (.inl (b.1,b.2.1,c.1,c.2.1,e.1,e.2.1,h,g.1,g.2.1,j,i.1,k,m,l.1,l.2.1,o,n.1,n.2.1,r,q.1,q.2.1,s.1,s.2.1,()))))
noncomputable def J2 k x:=iter (tv k) big x
noncomputable def tB(a:z2×Int×Int×Int×Int×Int×Int×Int×Int×Int×Int×Int×Int×KQ×M3×KR×Ko×YcQ)(b:WO):Option (WO⊕WO⊕Empty):=letI c:=b.2.2.2;letI d:=c.2.2;letI e:=d.2.2.2;letI f:=e.2.2;letI g:=f.2.2.2;letI h:=g.2.2.2;letI i:=h.2.2.2;letI j:=i.2.2.1;letI k:=(b.1,b.2.1,b.2.2.1,c.1,c.2.1,d.1,d.2.1,d.2.2.1,e.1,e.2.1,f.1,f.2.1,f.2.2.1,g.1,g.2.1,g.2.2.1,h.1,h.2.1,h.2.2.1,i.1,i.2.1,j,());cond (af .lss j 20000) ((KE f.1 f.2.1 j).bind fun l=>cond (Bool.not l.1) (some (.inl (b.1,b.2.1,b.2.2.1,c.1,c.2.1,d.1,d.2.1,d.2.2.1,e.1,e.2.1,f.1,f.2.1,f.2.2.1,g.1,g.2.1,g.2.2.1,h.1,h.2.1,h.2.2.1,i.1,i.2.1,aa .add .i64 j 1,()))) (some (.inr (.inl k)))) (some (.inr (.inl k)))
noncomputable def tW k x:=iter (tB k) big x
noncomputable def JZ(a:z2×Int×Int×Int×Int×Int×Int×Int×Int×Int×Int×Int×Int×KQ×M3×KR×Ko×Int×YcQ)(b:WO):Option (WO⊕Vf⊕Empty):=letI c:=b.2.2.2;letI d:=c.2.2;letI e:=d.2.2;letI f:=e.2.2;letI g:=f.2.2.2.2;letI h:=g.2.2.2;letI i:=h.2.2.2;letI j:=aa .add .i64 i.2.2.1 1;(KE f.2.1 f.2.2.1 j).bind fun k=>cond k.1 (some (.inl (b.1,b.2.1,b.2.2.1,c.1,c.2.1,d.1,d.2.1,e.1,e.2.1,f.1,f.2.1,f.2.2.1,f.2.2.2.1,g.1,g.2.1,g.2.2.1,h.1,h.2.1,h.2.2.1,i.1,i.2.1,j,()))) (some (.inr (.inl (b.1,b.2.1,b.2.2.1,c.1,c.2.1,d.1,d.2.1,e.1,e.2.1,f.1,i.2.2.1,()))))
noncomputable def kx k x:=iter (JZ k) big x
noncomputable def kv(a:z2×Int×Z2)(b:Vf):YcM:=letI c:=a.2.1;letI d:=a.2.2.2;letI e:=b.2.2.2;letI f:=a.2.2.1;letI g:=e.2.2;letI h:=d.2.2.2;letI i:=d.2.2.1;letI j:=g.2.2.2;letI k:=h.2.2.2;letI l:=h.2.2.1;letI m:=k.2.2;letI n:=j.2.2.1;letI o:=m.2.2;letI p:=m.2.1;letI q:=o.2.2;letI r:=o.2.1;letI s:=q.2.2;letI t:=s.2.1;letI u:=ae aS s.1 n;letI v:=u.2.2.2.2.2;cond (af .lss n t) (cond (ah s.1 n) ((J2 (a.1,c,f,d.1,d.2.1,i,h.1,h.2.1,l,k.1,k.2.1,m.1,p,o.1,r,q.1,q.2.1,n,s.1,t,n,r,ai r,()) (b.1,b.2.1,b.2.2.1,e.1,e.2.1,g.1,g.2.1,g.2.2.1,j.1,j.2.1,u.1,u.2.1,u.2.2.1,u.2.2.2.1,u.2.2.2.2.1,v.1,v.2.1,v.2.2.1,v.2.2.2.1,v.2.2.2.2.1,v.2.2.2.2.2,0,0,0,())).bind fun w=>Sum.elim (fun x=>letI y:=([]:nw);letI z:=x.2.2;letI A:=z.2.2;letI B:=A.2.2.2;letI C:=B.2.2;letI D:=C.2.2.2;letI E:=((0:Int),(0:Int),([]:z2),([]:Ir),y,false,());letI F:=D.2.2.2.2;letI G:=aa .add .i64 n 1;letI H:=F.2.2.2.2.2;letI I:=H.2.1;letI J:=tW (a.1,c,f,d.1,d.2.1,i,h.1,h.2.1,l,k.1,k.2.1,m.1,p,o.1,r,q.1,q.2.1,n,H.1,I,s.1,t,n,()) (x.1,x.2.1,z.1,z.2.1,A.1,A.2.1,A.2.2.1,B.1,B.2.1,C.1,C.2.1,C.2.2.1,D.1,D.2.1,D.2.2.1,D.2.2.2.1,F.1,F.2.1,F.2.2.1,F.2.2.2.1,F.2.2.2.2.1,p,());cond (af .eql H.1 0) (cond (af .eql I 0) (some (.inl (x.1,x.2.1,z.1,z.2.1,A.1,A.2.1,A.2.2.1,B.1,B.2.1,C.1,G,()))) (J.bind fun K=>Sum.elim (fun L=>letI M:=L.2.2.2.2;letI N:=M.2.2.2;letI O:=N.2.2.2;letI P:=O.2.2.2;letI Q:=P.2.2.2;letI R:=Q.2.2.2;letI S:=R.2.2.1;cond (af .eql S 20000) (some (.inr (.inl E))) ((kx (a.1,c,f,d.1,d.2.1,i,h.1,h.2.1,l,k.1,k.2.1,m.1,p,o.1,r,q.1,q.2.1,n,H.1,I,S,s.1,t,n,()) (L.1,L.2.1,L.2.2.1,L.2.2.2.1,M.1,M.2.1,M.2.2.1,N.1,N.2.1,N.2.2.1,O.1,O.2.1,O.2.2.1,P.1,P.2.1,P.2.2.1,Q.1,Q.2.1,Q.2.2.1,R.1,R.2.1,S,())).bind fun T=>Sum.elim (fun U=>letI V:=U.2.2.2.2;letI W:=V.2.2.2;letI X:=(S,W.2.2.2.1,c,H.1,I);cond (aE (List.append (α:=Q4) W.1 (List.append (α:=Q4) ([]:Ir) [X]))) (lets (List.append (α:=Q4) ([]:Ir) [X]) fun _=>lets (List.append (α:=Q4) W.1 (List.append (α:=Q4) ([]:Ir) [X])) fun Y=>cond (aE (List.append (α:=Int) W.2.1 (List.append (α:=Int) y [n]))) (cond (aE (List.append (α:=Int) W.2.2.1 (List.append (α:=Int) y [G]))) (some (.inl (U.1,U.2.1,U.2.2.1,U.2.2.2.1,V.1,V.2.1,V.2.2.1,Y,List.append (α:=Int) W.2.1 (List.append (α:=Int) y [n]),List.append (α:=Int) W.2.2.1 (List.append (α:=Int) y [G]),G,()))) none) none) none) (fun U=>Empty.elim U) T)) (fun L=>Empty.elim L) K)) (J.bind fun K=>Sum.elim (fun L=>letI M:=L.2.2.2.2;letI N:=M.2.2.2;letI O:=N.2.2.2;letI P:=O.2.2.2;letI Q:=P.2.2.2;letI R:=Q.2.2.2;letI S:=R.2.2.1;cond (af .eql S 20000) (some (.inr (.inl E))) ((kx (a.1,c,f,d.1,d.2.1,i,h.1,h.2.1,l,k.1,k.2.1,m.1,p,o.1,r,q.1,q.2.1,n,H.1,I,S,s.1,t,n,()) (L.1,L.2.1,L.2.2.1,L.2.2.2.1,M.1,M.2.1,M.2.2.1,N.1,N.2.1,N.2.2.1,O.1,O.2.1,O.2.2.1,P.1,P.2.1,P.2.2.1,Q.1,Q.2.1,Q.2.2.1,R.1,R.2.1,S,())).bind fun T=>Sum.elim (fun U=>letI V:=U.2.2.2.2;letI W:=V.2.2.2;letI X:=(S,W.2.2.2.1,c,H.1,I);cond (aE (List.append (α:=Q4) W.1 (List.append (α:=Q4) ([]:Ir) [X]))) (lets (List.append (α:=Q4) ([]:Ir) [X]) fun _=>lets (List.append (α:=Q4) W.1 (List.append (α:=Q4) ([]:Ir) [X])) fun Y=>cond (aE (List.append (α:=Int) W.2.1 (List.append (α:=Int) y [n]))) (cond (aE (List.append (α:=Int) W.2.2.1 (List.append (α:=Int) y [G]))) (some (.inl (U.1,U.2.1,U.2.2.1,U.2.2.2.1,V.1,V.2.1,V.2.2.1,Y,List.append (α:=Int) W.2.1 (List.append (α:=Int) y [n]),List.append (α:=Int) W.2.2.1 (List.append (α:=Int) y [G]),G,()))) none) none) none) (fun U=>Empty.elim U) T)) (fun L=>Empty.elim L) K)) (fun x=>Empty.elim x) w) none) (some (.inr (.inr (.inl (b.1,b.2.1,b.2.2.1,e.1,e.2.1,g.1,g.2.1,g.2.2.1,j.1,j.2.1,())))))
noncomputable def J1 k x:=iter (kv k) big x
noncomputable def p4(a:z2×nw×Int×nw×Int×Int×Ug)(b:Vf):Option (Vf⊕Z0):=letI c:=b.2.2;letI d:=c.2.2;letI e:=a.2.2.2.2.2.2;letI f:=d.2.2.2;letI g:=ae g8 a.1 a.2.2.1;letI h:=f.2.2.2.1;letI i:=ae zI e.1 h;cond (af .lss h e.2.1) (cond (ah e.1 h) (cond (ah a.1 a.2.2.1) (cond (ah g i) (cond (aE (List.append (α:=Int) f.2.2.1 (List.append (α:=Int) ([]:nw) [ae zI g i]))) (some (.inl (b.1,b.2.1,c.1,c.2.1,d.1,d.2.1,d.2.2.1,f.1,f.2.1,List.append (α:=Int) f.2.2.1 (List.append (α:=Int) ([]:nw) [ae zI g i]),aa .add .i64 h 1,()))) none) none) none) none) (some (.inr (.inl (b.1,b.2.1,c.1,c.2.1,d.1,d.2.1,d.2.2.1,f.1,f.2.1,f.2.2.1,()))))
noncomputable def IR k x:=iter (p4 k) big x
noncomputable def oa(a:z2×nw×Ug)(b:Z7):Option (Z7⊕Z5):=letI c:=a.2.2;letI d:=b.2.2.2;letI e:=d.2.2.2;letI f:=e.2.2.2.1;cond (af .lss f c.2.1) (cond (ah c.1 f) ((IR (a.1,a.2.1,ae zI c.1 f,c.1,c.2.1,f,a.2.1,ai a.2.1,()) (b.1,b.2.1,b.2.2.1,d.1,d.2.1,d.2.2.1,e.1,e.2.1,e.2.2.1,([]:nw),0,())).bind fun g=>Sum.elim (fun h=>letI i:=h.2.2.2;letI j:=i.2.2.2;cond (aE (List.append (α:=nw) j.1 (List.append (α:=nw) ([]:z2) [j.2.2.2.1]))) (some (.inl (h.1,h.2.1,h.2.2.1,i.1,i.2.1,i.2.2.1,List.append (α:=nw) j.1 (List.append (α:=nw) ([]:z2) [j.2.2.2.1]),j.2.1,j.2.2.1,aa .add .i64 f 1,()))) none) (fun h=>Empty.elim h) g) none) (some (.inr (.inl (b.1,b.2.1,b.2.2.1,d.1,d.2.1,d.2.2.1,e.1,e.2.1,e.2.2.1,()))))
noncomputable def IQ k x:=iter (oa k) big x
noncomputable def Ex(a b c d e f g h i j k:Int)(l:KQ)(m:M3)(n:KR)(o:Ko)(p:z2)(q:Int):Option Xv:=(ia a b c d e f g h i j k l m n o).bind fun r=>letI s:=(0:Int);letI t:=some (s,s,([]:z2),([]:Ir),([]:nw),false,());cond (Bool.not r.1) t (cond (af .neq (ai p) (aa .add .i64 (ai l) 1)) t ((J0 (p,q,a,b,c,d,e,f,g,h,i,j,k,l,m,n,o,p,ai p,()) (s,s,([]:z2),([]:Ir),s,())).bind fun u=>Sum.elim (fun v=>some (v.1,v.2.1,v.2.2.1,v.2.2.2.1,v.2.2.2.2.1,v.2.2.2.2.2.1,())) (fun v=>Sum.elim (fun w=>(J1 (p,q,a,b,c,d,e,f,g,h,i,j,k,l,m,n,o,l,ai l,()) (w.1,w.2.1,w.2.2.1,w.2.2.2.1,k,i,([]:z2),([]:Ir),([]:nw),List.append (α:=Int) ([]:nw) [s],s,())).bind fun x=>Sum.elim (fun y=>some (y.1,y.2.1,y.2.2.1,y.2.2.2.1,y.2.2.2.2.1,y.2.2.2.2.2.1,())) (fun y=>Sum.elim (fun z=>letI A:=z.2.2.2;letI B:=A.2.2.2;letI C:=B.2.2.2.1;(IQ (p,C,C,ai C,()) (z.1,z.2.1,z.2.2.1,A.1,A.2.1,A.2.2.1,B.1,B.2.1,B.2.2.1,s,())).bind fun D=>Sum.elim (fun E=>letI F:=E.2.2.2.2;letI G:=F.2.2;(LB F.1 F.2.1 G.1 G.2.1).bind fun H=>cond (Bool.not H.1) t (some (F.1,F.2.1,G.1,G.2.1,G.2.2.1,true,()))) (fun E=>Empty.elim E) D) (fun z=>Empty.elim z) y) x) (fun w=>Empty.elim w) v) u))
noncomputable def I8(a:Vi)(b:Kp):VO:=cond (af .lss b.2.1 (ai a.1)) (cond (ah a.1 b.2.1) ((n5 (ae g8 a.1 b.2.1) b.1).bind fun c=>cond (af .lss c.1 0) (some (.inr (.inl (-1,())))) (some (.inl (c.1,aa .add .i64 b.2.1 1,())))) none) (some (.inr (.inr (.inl (b.1,())))))
noncomputable def I9 k x:=iter (I8 k) big x
noncomputable def I7(a:z2)(b:Int):QK:=(I9 (a,()) (b,0,())).bind fun c=>Sum.elim (fun d=>some (d.1,())) (fun d=>Sum.elim (fun e=>some (e.1,())) (fun e=>Empty.elim e) d) c
noncomputable def Jc(a:Ir×Unit)(b:Kp):VO:=letI c:=((-1:Int),());letI d:=ah a.1 b.2.1;letI e:=ae j0 a.1 b.2.1;letI f:=aa .add .i64 b.1 1;letI g:=aa .add .i64 f 1;letI h:=aa .add .i64 g 1;letI i:=aa .add .i64 h 1;cond (af .lss b.2.1 (ai a.1)) (cond d (cond (af .neq e.1 b.1) (some (.inr (.inl c))) (cond d (cond (af .neq e.2.1 f) (some (.inr (.inl c))) (cond d (cond (af .neq e.2.2.1 g) (some (.inr (.inl c))) (cond d (cond (af .neq e.2.2.2.1 h) (some (.inr (.inl c))) (cond d (lets (af .neq e.2.2.2.2 i) fun j=>cond j (some (.inr (.inl c))) (some (.inl (aa .add .i64 i 1,aa .add .i64 b.2.1 1,())))) none)) none)) none)) none)) none) (some (.inr (.inr (.inl (b.1,())))))
noncomputable def Jd k x:=iter (Jc k) big x
noncomputable def Jb(a:Ir)(b:Int):QK:=(Jd (a,()) (b,0,())).bind fun c=>Sum.elim (fun d=>some (d.1,())) (fun d=>Sum.elim (fun e=>some (e.1,())) (fun e=>Empty.elim e) d) c
noncomputable def Ja(a b:Int)(c:z2)(d:Ir)(e:Int):QK:=(I7 c e).bind fun f=>letI g:=some ((-1:Int),());cond (af .lss f.1 0) g ((Jb d f.1).bind fun h=>cond (af .lss h.1 0) g (some (h.1,())))
noncomputable def rm(a b c d e f g h i j k:Int)(l:KQ)(m:M3)(n:KR)(o:Ko)(p:z2)(q:Int):mo:=(kW a b c d e f g h i j k l m n o 1048576).bind fun r=>letI s:=some (true,());cond (af .lss r.1 0) s ((LJ p r.1).bind fun t=>letI u:=Jx a b c d e f g h i j k l m n o;cond (af .lss t.1 0) s (u.bind fun v=>letI w:=LK p;w.bind fun x=>letI y:=v.2.2.2.2;letI z:=y.2.2.2;letI A:=z.2.2.2.2;(Ky v.1 v.2.1 v.2.2.1 v.2.2.2.1 y.1 y.2.1 y.2.2.1 z.1 z.2.1 z.2.2.1 z.2.2.2.1 A.1 A.2.1 A.2.2.1 A.2.2.2.1 x.1 q).bind fun B=>u.bind fun C=>w.bind fun D=>letI E:=C.2.2;letI F:=E.2.2;letI G:=F.2.2.2;letI H:=G.2.2;letI I:=H.2.2;letI J:=I.2.2;(Ex C.1 C.2.1 E.1 E.2.1 F.1 F.2.1 F.2.2.1 G.1 G.2.1 H.1 H.2.1 I.1 I.2.1 J.1 J.2.1 D.1 q).bind fun K=>letI L:=B.2.2.2;letI M:=K.2.2.2;letI N:=I5 K.1 K.2.1 K.2.2.1 M.1 B.1 B.2.1 B.2.2.1 L.1;N.bind fun O=>letI P:=some (false,());letI Q:=rp M.2.1 L.2.1;cond (Bool.not O.1) P (Q.bind fun R=>letI S:=Bool.not (bQ M.2.2.1 L.2.2.1);cond (Bool.not R.1) P (cond S P (u.bind fun T=>letI U:=T.2.2.2.2;letI V:=U.2.2.2;letI W:=V.2.2.2.2;(I1 C.1 C.2.1 E.1 E.2.1 F.1 F.2.1 F.2.2.1 G.1 G.2.1 H.1 H.2.1 I.1 I.2.1 J.1 J.2.1 T.1 T.2.1 T.2.2.1 T.2.2.2.1 U.1 U.2.1 U.2.2.1 V.1 V.2.1 V.2.2.1 V.2.2.2.1 W.1 W.2.1 W.2.2.1 W.2.2.2.1).bind fun X=>cond (Bool.not X.1) P (w.bind fun Y=>(I0 D.1 Y.1).bind fun Z=>cond (Bool.not Z.1) P ((vp C.1 C.2.1 E.1 E.2.1 F.1 F.2.1 F.2.2.1 G.1 G.2.1 H.1 H.2.1 I.1 I.2.1 J.1 J.2.1 1).bind fun a0=>(r5 D.1 a0.1).bind fun a1=>cond (af .lss a1.1 0) P (N.bind fun a2=>cond (Bool.not a2.1) P (Q.bind fun a3=>cond (Bool.not a3.1) P (cond S P ((Jg K.1 K.2.1 K.2.2.1 M.1 1).bind fun a4=>(n6 M.2.1 a4.1).bind fun a5=>letI a6:=Ja K.1 K.2.1 a4.2.1 a4.2.2.1 1;a6.bind fun a7=>cond (af .lss a7.1 0) P ((n5 a5.2.1 a7.1).bind fun a8=>cond (af .lss a8.1 0) P (cond (af .neq a8.1 a5.1) P (u.bind fun a9=>w.bind fun b0=>letI b1:=a9.2.2.2.2;letI b2:=b1.2.2.2;letI b3:=b2.2.2.2.2;(Ex a9.1 a9.2.1 a9.2.2.1 a9.2.2.2.1 b1.1 b1.2.1 b1.2.2.1 b2.1 b2.2.1 b2.2.2.1 b2.2.2.2.1 b3.1 b3.2.1 b3.2.2.1 b3.2.2.2.1 b0.1 q).bind fun b4=>(I5 b4.1 b4.2.1 b4.2.2.1 b4.2.2.2.1 B.1 B.2.1 B.2.2.1 L.1).bind fun b5=>cond (Bool.not b5.1) P ((rp b4.2.2.2.2.1 L.2.1).bind fun b6=>cond (Bool.not b6.1) P (cond (Bool.not (bQ b4.2.2.2.2.2.1 L.2.2.1)) P (a6.bind fun b7=>cond (af .lss b7.1 0) P ((n5 a5.2.1 b7.1).bind fun b8=>cond (af .lss b8.1 0) P (cond (af .neq b8.1 a5.1) P s)))))))))))))))))))
end Go.Fn
set_option linter.unusedVariables false
set_option linter.unusedSimpArgs false
namespace Go.Fn
open Go.R
theorem Qt(o c:List LR)(ho:o.length<=20)(hc:c.length<=20):∀(k:Nat) (n t:Int),t+(k:Int)=20000->0<=t->0<=n->n<=1125899906842624 ->
  ∃n' t' y,iter (eg (o,c,())) (k+1) (n,t,())=some (.inl (n',t',()))/\iter (gw (o,c,())) (k+2) (n,t,())=some y/\((n'=0/\t<=t'/\t'<=20000/\y=.inl (t',true,()))\/(n'≠0/\y=.inr (.inl ())))
 |k,n,t,hk,h0,hn,hn'=>by
  have e1:af .leq t (20000:Int)=true:=by simp only[af,decide_eq_true_eq];omega
  by_cases hz:n=0
  ·subst hz;refine⟨0,t,.inl (t,true,()),ay ?_,ay ?_,.inl ⟨rfl,Int.le_refl _,by omega,rfl⟩⟩
   ·unfold eg;rfl
   ·unfold gw;refine(cT e1).trans ?_;rfl
  ·have g:af .gtr n (0:Int)=true:=by simp only[af,gt_iff_lt,decide_eq_true_eq];omega
   have z:af .eql n (0:Int)=false:=by simp only[af,decide_eq_false_iff_not,beq_eq_false_iff_ne,ne_eq];exact hz
   cases k with
   |zero=>
    have:t=20000:=by omega
    subst this;refine⟨n,20000,.inr (.inl ()),ay ?_,?_,.inr ⟨hz,rfl⟩⟩
    ·unfold eg;refine(cT g).trans ?_;rfl
    ·have s1:gw (o,c,()) (n,20000,())=some (.inl (n,20001,())):=by
      unfold gw;refine(cT e1).trans ((cF z).trans ?_);rfl
     rw[aH s1];exact ay (by unfold gw;rfl)
   |succ k=>
    have l:af .lss t (20000:Int)=true:=by simp only[af,decide_eq_true_eq];omega
    have a:aa .add .i64 t 1=t+1:=JR h0 (by omega);have b:aa .sub .i64 n 1=n-1:=bO (by omega) (by omega);cases hop:OK o c t with
    |true=>
     obtain⟨n',t',y,q1,q2,q3⟩:=Qt o c ho hc k (n-1) (t+1) (by omega) (by omega) (by omega) (by omega);refine⟨n',t',y,?_,?_,q3.imp (fun q=>⟨q.1,by omega,q.2.2⟩) id⟩
     ·rw[aH (by unfold eg;simp only[g,l,cond_true,KN t ho hc,hop,Option.bind_some,a,b];rfl)];exact q1
     ·rw[aH (by unfold gw;simp only[e1,z,l,cond_true,cond_false,Ow t ho hc,hop,Option.bind_some,a,b];rfl)];exact q2
    |false=>
     obtain⟨n',t',y,q1,q2,q3⟩:=Qt o c ho hc k n (t+1) (by omega) (by omega) (by omega) (by omega);refine⟨n',t',y,?_,?_,q3.imp (fun q=>⟨q.1,by omega,q.2.2⟩) id⟩
     ·rw[aH (by unfold eg;simp only[g,l,cond_true,KN t ho hc,hop,Option.bind_some,a,b];rfl)];exact q1
     ·rw[aH (by unfold gw;simp only[e1,z,l,cond_true,cond_false,Ow t ho hc,hop,Option.bind_some,a,b];rfl)];exact q2
end Go.Fn
set_option linter.unusedVariables false
set_option linter.unusedSimpArgs false
namespace Go.Fn
open Go.R
theorem Ms{o c:List LR}(t n:Int)(h:n7 o c=false):gm o c t n=some (0,false,()):=by unfold gm;simp only[IF,h,Option.bind_some];rfl
theorem OM{o c:List LR}(t n:Int)(h:g6 t 0 20000=false):gm o c t n=some (0,false,()):=by unfold gm;simp only[IF,mS,h,Option.bind_some];cases n7 o c <;> rfl
theorem Ui(o c:List LR)(t n:Int)(hn:n<=1125899906842624):Sm (fun r=>r.2.1=true->0<=t/\t<=r.1/\r.1<=20000) (gm o c t n) (kk o c t n):=by
 cases hw:n7 o c with
 |false=>rw[Ms t n hw];unfold kk;simp only[IC,hw,Option.bind_some];cases af .lss n 0 <;> exact .ret fun h=>by cases h
 |true=>
  cases ht:g6 t 0 20000 with
  |false=>rw[OM t n ht];unfold kk;simp only[IC,hw,zT,ht,Option.bind_some];cases af .lss n 0 <;> exact .ret fun h=>by cases h
  |true=>
   obtain⟨h0,h1⟩:=gb.1 ht;obtain⟨ho,hc⟩:=N6 hw;unfold gm kk;simp only[IF,IC,mS,zT,hw,ht,Option.bind_some,Bool.not_true,cond_false];cases hl:af .lss n 0 with
   |true=>
    have hneg:n<0:=by simpa[af] using hl
    have:jj (o,c,()) (n,t,())=some (.inl (n,t,())):=by refine bF (n:=1) (ay ?_) (Nat.le_of_lt (aT (by omega)));unfold eg;exact cF (by simp only[af,gt_iff_lt,decide_eq_false_iff_not];omega)
    rw[this];have z:af .neq n (0:Int)=true:=by simp only[af,bne_iff_ne,ne_eq];omega
    simp only[Option.bind_some,Sum.elim_inl,z,cond_true];exact .ret fun h=>by cases h
   |false=>
    have hpos:0<=n:=by
     have:¬n<0:=by simpa[af] using hl
     omega
    obtain⟨n',t',y,q1,q2,q3⟩:=Qt o c ho hc (20000-t).toNat n t (by omega) h0 hpos hn;have e1:jj (o,c,()) (n,t,())=some (.inl (n',t',())):=bF q1 (Nat.le_of_lt (aT (by omega)));have e2:II (o,c,()) (n,t,())=some y:=bF q2 (Nat.le_of_lt (aT (by omega)));rw[e1,e2];rcases q3 with ⟨rfl,b1,b2,rfl⟩|⟨hz,rfl⟩
    ·exact .ret fun _=>⟨h0,b1,b2⟩
    ·have z:af .neq n' (0:Int)=true:=by simp only[af,bne_iff_ne,ne_eq];exact hz
     simp only[cond_false,Option.bind_some,Sum.elim_inl,Sum.elim_inr,z,cond_true];exact .ret fun h=>by cases h
theorem Th{a0 a1 a2 a3 a4 a5 a6 a7:Int}(h:Nt a0 a1 a2 a3 a4 a5 a6 a7=true):(1<=a0/\a0<=2000)/\(1<=a5/\a5<=2000)/\a7<=20:=by unfold Nt at h;simp only[UK,gb]at h;exact⟨h.1,h.2.2.1,h.2.2.2.2.2.2.2.2⟩
theorem Sy(o c:List LR)(a0 a1 a2 a3 a4 a5 a6 a7 t x:Int):Sm (fun r=>r.2.1=true->0<=t/\t<=r.1/\r.1<=20000) (Im o c a0 a1 a2 a3 a4 a5 a6 a7 t x) (Ib o c a0 a1 a2 a3 a4 a5 a6 a7 t x):=by
 unfold Im Ib;simp only[Qs,NZ,IC,mS,ev,zT,Option.bind_some];cases hT:Nt a0 a1 a2 a3 a4 a5 a6 a7 with
 |false=>cases n7 o c <;> exact .ret fun h=>by cases h
 |true=>
  cases hx:g6 x 0 a7 with
  |false=>cases n7 o c <;> cases g6 t 0 20000 <;> exact .ret fun h=>by cases h
  |true=>
   cases hw:n7 o c with
   |false=>rw[Ms _ _ hw];exact .ret fun h=>by cases h
   |true=>
    cases ht:g6 t 0 20000 with
    |false=>rw[OM _ _ ht];exact .ret fun h=>by cases h
    |true=>obtain⟨⟨k1,k2⟩,⟨l1,l2⟩,m2⟩:=Th hT;obtain⟨x1,x2⟩:=gb.1 hx;have CL:0<=a5*x:=Int.mul_nonneg (by omega) x1;have CM:a5*x<=2000*20:=Int.mul_le_mul l2 (by omega) x1 (by omega);have e1:aa .mul .i64 a5 x=a5*x:=jw (by omega) (by omega);have e2:aa .add .i64 a0 (a5*x)=a0+a5*x:=bV (by omega) (by omega);simp only[Bool.not_true,cond_false,e1,e2];exact(Ui o c t (a0+a5*x) (by omega)).bind fun r hr=>.ret hr
theorem Tb(o c:List LR)(a0 a1 a2 a3 a4 a5 a6 a7 t now x:Int):Sm Any (JH o c a0 a1 a2 a3 a4 a5 a6 a7 t now x) (tt o c a0 a1 a2 a3 a4 a5 a6 a7 t now x):=by
 unfold JH tt;refine(Sy o c a0 a1 a2 a3 a4 a5 a6 a7 t x).bind fun r hr=>?_;cases hb:r.2.1 with
 |false=>exact .ret trivial
 |true=>
  obtain⟨h1,h2,h3⟩:=hr hb;have e:aa .add .i64 r.1 1=r.1+1:=JR (by omega) (by omega);simp only[cond_true,mS,zT,Option.bind_some,e];cases hn:g6 now 0 20000 with
  |true=>
   obtain⟨n1,n2⟩:=gb.1 hn;refine⟨(af .gtr now r.1,()),?_,rfl,trivial⟩;have:g6 now (r.1+1) 20000=af .gtr now r.1:=by rw[Bool.eq_iff_iff,gb];simp only[af,gt_iff_lt,decide_eq_true_eq];omega
   rw[this]
  |false=>
   refine⟨(false,()),?_,rfl,trivial⟩;have:g6 now (r.1+1) 20000=false:=by
    cases hq:g6 now (r.1+1) 20000 with
    |false=>rfl
    |true=>have:=gb.1 hq;have:g6 now 0 20000=true:=gb.2 ⟨by omega,by omega⟩;rw[this]at hn;cases hn
   rw[this]
noncomputable def MD(o c:List LR)(x:Int):Bool:=bif n7 o c then bif g6 x 0 19999 then OK o c x else false else false
theorem TP(o c:List LR)(x:Int):Np o c x=some (MD o c x,()):=by
 unfold Np MD;simp only[IF,mS,Option.bind_some];cases hw:n7 o c with
 |false=>rfl
 |true=>obtain⟨ho,hc⟩:=N6 hw;simp only[KN x ho hc,Option.bind_some,cond_true];cases g6 x 0 19999 <;> rfl
theorem RO(o c:List LR)(x:Int):KE o c x=some (MD o c x,()):=by
 unfold KE MD;simp only[IC,ev,Option.bind_some];cases hw:n7 o c with
 |false=>rfl
 |true=>obtain⟨ho,hc⟩:=N6 hw;simp only[Ow x ho hc,Option.bind_some,cond_true];cases g6 x 0 19999 <;> rfl
noncomputable def ik(o c:List LR):Nat->Int->Int
 |0,t=>t
 |k+1,t=>bif MD o c t then t else ik o c k (t+1)
theorem Rf(o c:List LR):∀(k:Nat) (t:Int),t<=ik o c k t/\ik o c k t<=t+(k:Int)
 |0,t=>⟨Int.le_refl _,by simp[ik]⟩
 |k+1,t=>by have:=Rf o c k (t+1);unfold ik;cases MD o c t <;> simp only[cond_true,cond_false] <;> omega
noncomputable def Qu(o c:List LR):Nat->Int->Int
 |0,e=>e
 |k+1,e=>bif MD o c (e+1)then Qu o c k (e+1)else e
theorem UR{o c:List LR}{x:Int}(h:MD o c x=true):x<=19999:=by
 unfold MD at h;cases hw:n7 o c with
 |false=>rw[hw]at h;cases h
 |true=>
  rw[hw]at h;cases hx:g6 x 0 19999 with
  |false=>rw[hx]at h;cases h
  |true=>exact(gb.1 hx).2
theorem Rr{X Y:Type}{body:X->Option (X⊕Y)}(o c:List LR)(st:Int->X)(fin:Int->Y)(hs:∀t,0<=t->t<20000->body (st t)=some (bif MD o c t then .inr (fin t)else .inl (st (t+1))))(he:body (st 20000)=some (.inr (fin 20000))):∀(k:Nat) (t:Int),t+(k:Int)=20000->0<=t->iter body (k+1) (st t)=some (fin (ik o c k t))
 |0,t,hk,h0=>by
  obtain rfl:t=20000:=by omega
  exact ay he
 |k+1,t,hk,h0=>by
  have h:=hs t h0 (by omega);unfold ik;cases hop:MD o c t with
  |true=>rw[hop]at h;exact ay h
  |false=>rw[hop]at h;rw[aH h];exact Rr o c st fin hs he k (t+1) (by omega) (by omega)
theorem Ra{X Y:Type}{body:X->Option (X⊕Y)}(o c:List LR)(st:Int->X)(fin:Int->Y)(hs:∀t,0<=t->t<=20000->body (st t)=some (bif MD o c (t+1)then .inl (st (t+1))else .inr (fin t))):∀(k:Nat) (t:Int),t+(k:Int)=20000->0<=t->iter body (k+1) (st t)=some (fin (Qu o c k t))
 |0,t,hk,h0=>by
  have h:=hs t h0 (by omega);have:MD o c (t+1)=false:=by
   cases hq:MD o c (t+1)with
   |false=>rfl
   |true=>have:=UR hq;omega
  rw[this]at h;exact ay h
 |k+1,t,hk,h0=>by
  have h:=hs t h0 (by omega);unfold Qu;cases hop:MD o c (t+1)with
  |false=>rw[hop]at h;exact ay h
  |true=>rw[hop]at h;rw[aH h];exact Ra o c st fin hs k (t+1) (by omega) (by omega)
theorem Uh(o c:List LR)(ho:o.length<=20)(hc:c.length<=20)(hw:n7 o c=true):∀(k:Nat) (t:Int),t+(k:Int)=20000->0<=t ->
  iter (eg (o,c,())) (k+2) (1,t,())=some (.inl (bif decide (ik o c k t<20000)then(0,ik o c k t+1,())else(1,20000,())))
 |0,t,hk,h0=>by
  obtain rfl:t=20000:=by omega
  exact ay (by unfold eg;rfl)
 |k+1,t,hk,h0=>by
  have l:af .lss t (20000:Int)=true:=by simp only[af,decide_eq_true_eq];omega
  have a:aa .add .i64 t 1=t+1:=JR h0 (by omega);have e:MD o c t=OK o c t:=by unfold MD;rw[hw,gb.2 ⟨h0,by omega⟩];rfl
  unfold ik;rw[e];cases hop:OK o c t with
  |true=>
   have s1:eg (o,c,()) (1,t,())=some (.inl (0,t+1,())):=by unfold eg;simp only[l,cond_true,KN t ho hc,hop,Option.bind_some,a];rfl
   rw[aH s1,cond_true,show decide (t<20000)=true from decide_eq_true (by omega)];exact ay (by unfold eg;rfl)
  |false=>
   have s1:eg (o,c,()) (1,t,())=some (.inl (1,t+1,())):=by unfold eg;simp only[l,cond_true,KN t ho hc,hop,Option.bind_some,a,cond_false];rfl
   rw[aH s1,cond_false];exact Uh o c ho hc hw k (t+1) (by omega) (by omega)
theorem Td(o c:List LR){t:Int}(h0:0<=t)(h1:t<=20000):gm o c t 1=some (bif decide (ik o c (20000-t).toNat t<20000)then(ik o c (20000-t).toNat t+1,true,())else(0,false,())):=by
 cases hw:n7 o c with
 |false=>
  rw[Ms t 1 hw];have:∀(k:Nat) (t:Int),ik o c k t=t+(k:Int):=by
   intro k;induction k with
   |zero=>intro t;simp[ik]
   |succ k ih=>
    intro t;have e:MD o c t=false:=by unfold MD;rw[hw];rfl
    simp only[ik,e,cond_false,ih];omega
  rw[this,decide_eq_false (by omega)];rfl
 |true=>obtain⟨ho,hc⟩:=N6 hw;unfold gm;simp only[IF,mS,hw,gb.2 ⟨h0,h1⟩,Option.bind_some,Bool.not_true,cond_false];have e1:jj (o,c,()) (1,t,())=_:=bF (Uh o c ho hc hw (20000-t).toNat t (by omega) h0) (Nat.le_of_lt (aT (by omega)));rw[e1];cases decide (ik o c (20000-t).toNat t<20000) <;> rfl
end Go.Fn
set_option linter.unusedVariables false
set_option linter.unusedSimpArgs false
namespace Go.Fn
open Go.R
section
variable (a0 a1 a2 a3 a4 a5 a6 a7 a8 a9 a10:Int) (s:List Site) (p:List Q0) (g:List Rx) (j:List Ev)
noncomputable def VL(x:Site)(q:Q0):Bool:=match tt x.1 x.2.1 a0 a1 a2 a3 a4 a5 a6 a7 q.2.2.2.2.1 a10 q.2.2.2.2.2.1 with|some r=>r.1|none=>false
theorem Ux(x:Site)(q:Q0):JH x.1 x.2.1 a0 a1 a2 a3 a4 a5 a6 a7 q.2.2.2.2.1 a10 q.2.2.2.2.2.1=some (VL a0 a1 a2 a3 a4 a5 a6 a7 a10 x q,())/\tt x.1 x.2.1 a0 a1 a2 a3 a4 a5 a6 a7 q.2.2.2.2.1 a10 q.2.2.2.2.2.1=some (VL a0 a1 a2 a3 a4 a5 a6 a7 a10 x q,()):=by
 obtain⟨r,e1,e2,_⟩:=Tb x.1 x.2.1 a0 a1 a2 a3 a4 a5 a6 a7 q.2.2.2.2.1 a10 q.2.2.2.2.2.1;have:VL a0 a1 a2 a3 a4 a5 a6 a7 a10 x q=r.1:=by unfold VL;rw[e2]
 rw[this];exact⟨e1,e2⟩
noncomputable def VB(i:Int)(acc:Int)(q:Q0):Int:=bif af .eql q.2.2.2.1 1 then bif af .eql q.2.2.1 i then aa .add .i64 acc q.1 else acc else acc
noncomputable def VD(x:Site)(i:Int)(acc:Int)(q:Q0):Int:=bif af .eql q.2.2.2.1 3 then bif af .eql q.2.2.1 i then bif VL a0 a1 a2 a3 a4 a5 a6 a7 a10 x q then aa .add .i64 acc q.1 else acc else acc else acc
theorem S3(i:Int)(hp:p.length<=1048576):Ip a0 a1 a2 a3 a4 a5 a6 a7 a8 a9 a10 s p g j i=some (p.foldl (VB i) 0,()):=by
 unfold Ip;have:=(cL (body:=nl (i,a0,a1,a2,a3,a4,a5,a6,a7,a8,a9,a10,s,p,g,j,())) p bf (by omega) (VB i) (fun acc n=>(acc,(n:Int),())) (fun _ _=>True) (fun acc=>.inl (acc,())) (fun n acc hn _=>⟨?_,trivial⟩) (fun acc _=>?_) 0 trivial).1
 ·have e:IA (i,a0,a1,a2,a3,a4,a5,a6,a7,a8,a9,a10,s,p,g,j,()) (0,0,())=_:=this;rw[e];rfl
 ·unfold nl VB;simp only[aj,az,hn,decide_true,cond_true,aq,av (n:=n) (by omega)];cases af .eql (p.getD n bf).2.2.2.1 1 <;> cases af .eql (p.getD n bf).2.2.1 i <;> rfl
 ·unfold nl;simp only[aj,Nat.lt_irrefl,decide_false,cond_false]
theorem S5{i:Nat}(hi:i<s.length)(hp:p.length<=1048576):Iq a0 a1 a2 a3 a4 a5 a6 a7 a8 a9 a10 s p g j (i:Int)=some (p.foldl (VD a0 a1 a2 a3 a4 a5 a6 a7 a10 (s.getD i aS) (i:Int)) 0,()):=by
 unfold Iq;have:=(cL (body:=nn ((i:Int),a0,a1,a2,a3,a4,a5,a6,a7,a8,a9,a10,s,p,g,j,())) p bf (by omega) (VD a0 a1 a2 a3 a4 a5 a6 a7 a10 (s.getD i aS) (i:Int)) (fun acc n=>(acc,(n:Int),())) (fun _ _=>True) (fun acc=>.inl (acc,())) (fun n acc hn _=>⟨?_,trivial⟩) (fun acc _=>?_) 0 trivial).1
 ·have e:IB ((i:Int),a0,a1,a2,a3,a4,a5,a6,a7,a8,a9,a10,s,p,g,j,()) (0,0,())=_:=this;rw[e];rfl
 ·unfold nn VD;have hv:=(Ux a0 a1 a2 a3 a4 a5 a6 a7 a10 (s.getD i aS) (p.getD n bf)).1;simp only[aj,az,hn,hi,decide_true,cond_true,aq,av (n:=n) (by omega),hv,Option.bind_some];cases af .eql (p.getD n bf).2.2.2.1 3 <;> cases af .eql (p.getD n bf).2.2.1 (i:Int) <;> cases VL a0 a1 a2 a3 a4 a5 a6 a7 a10 (s.getD i aS) (p.getD n bf) <;> rfl
 ·unfold nn;simp only[aj,Nat.lt_irrefl,decide_false,cond_false]
variable (lg:List (List Int)) (wk:Int) (z0 z1:Int) (zg:List (List Int)) (zs:List Ou) (b r:Int) (L:List (List Int)) (S:List Ou) (I Pl:List Int)
theorem Rg{α:Type}(f h:Int->α->Int):∀(l:List α) (a b:Int),l.foldl (fun(q:Int×Int) x=>(f q.1 x,h q.2 x)) (a,b)=(l.foldl f a,l.foldl h b)
 | [],_,_=>rfl
 |x::l,a,b=>Rg f h l (f a x) (h b x)
theorem VG{i:Nat}(x:Site)(hp:p.length<=1048576):
  J2 (lg,wk,a0,a1,a2,a3,a4,a5,a6,a7,a8,a9,a10,s,p,g,j,(i:Int),s,ai s,(i:Int),p,ai p,()) (z0,z1,zg,zs,b,r,L,S,I,Pl,x.1,x.2.1,x.2.2.1,x.2.2.2.1,x.2.2.2.2.1,x.2.2.2.2.2.1,x.2.2.2.2.2.2.1,x.2.2.2.2.2.2.2.1,x.2.2.2.2.2.2.2.2.1,x.2.2.2.2.2.2.2.2.2.1,x.2.2.2.2.2.2.2.2.2.2,0,0,0,())
   = some (.inl (z0,z1,zg,zs,b,r,L,S,I,Pl,x.1,x.2.1,x.2.2.1,x.2.2.2.1,x.2.2.2.2.1,x.2.2.2.2.2.1,x.2.2.2.2.2.2.1,x.2.2.2.2.2.2.2.1,x.2.2.2.2.2.2.2.2.1,x.2.2.2.2.2.2.2.2.2.1,x.2.2.2.2.2.2.2.2.2.2,p.foldl (VB (i:Int)) 0,p.foldl (VD a0 a1 a2 a3 a4 a5 a6 a7 a10 x (i:Int)) 0,())):=by
 have:=(cL (body:=tv (lg,wk,a0,a1,a2,a3,a4,a5,a6,a7,a8,a9,a10,s,p,g,j,(i:Int),s,ai s,(i:Int),p,ai p,())) p bf (by omega) (fun(q:Int×Int) c=>(VB (i:Int) q.1 c,VD a0 a1 a2 a3 a4 a5 a6 a7 a10 x (i:Int) q.2 c)) (fun acc n=>(z0,z1,zg,zs,b,r,L,S,I,Pl,x.1,x.2.1,x.2.2.1,x.2.2.2.1,x.2.2.2.2.1,x.2.2.2.2.2.1,x.2.2.2.2.2.2.1,x.2.2.2.2.2.2.2.1,x.2.2.2.2.2.2.2.2.1,x.2.2.2.2.2.2.2.2.2.1,x.2.2.2.2.2.2.2.2.2.2,acc.1,acc.2,(n:Int),())) (fun _ _=>True) (fun acc=>.inl (z0,z1,zg,zs,b,r,L,S,I,Pl,x.1,x.2.1,x.2.2.1,x.2.2.2.1,x.2.2.2.2.1,x.2.2.2.2.2.1,x.2.2.2.2.2.2.1,x.2.2.2.2.2.2.2.1,x.2.2.2.2.2.2.2.2.1,x.2.2.2.2.2.2.2.2.2.1,x.2.2.2.2.2.2.2.2.2.2,acc.1,acc.2,())) (fun n acc hn _=>⟨?_,trivial⟩) (fun acc _=>?_) (0,0) trivial).1
 ·rw[Rg]at this;exact this
 ·unfold tv;have hv:=(Ux a0 a1 a2 a3 a4 a5 a6 a7 a10 x (p.getD n bf)).2;dsimp only;simp only[aj,az,hn,decide_true,cond_true,aq,av (n:=n) (by omega),hv,Option.bind_some,aV];have en:af .neq (p.getD n bf).2.2.1 (i:Int)=Bool.not (af .eql (p.getD n bf).2.2.1 (i:Int)):=rfl;rw[en];unfold VB VD;cases h1:af .eql (p.getD n bf).2.2.1 (i:Int)with
  |false=>cases af .eql (p.getD n bf).2.2.2.1 1 <;> cases af .eql (p.getD n bf).2.2.2.1 3 <;> rfl
  |true=>
   cases h2:af .eql (p.getD n bf).2.2.2.1 1 with
   |false=>cases af .eql (p.getD n bf).2.2.2.1 3 <;> cases VL a0 a1 a2 a3 a4 a5 a6 a7 a10 x (p.getD n bf) <;> rfl
   |true=>
    have h3:af .eql (p.getD n bf).2.2.2.1 3=false:=by simp only[af,beq_iff_eq]at h2;simp only[af,h2];rfl
    rw[h3];rfl
 ·unfold tv;simp only[aj,Nat.lt_irrefl,decide_false,cond_false]
theorem TE{i:Nat}(x:Site)(br fe t:Int)(h0:0<=t)(h1:t<=20000):
  tW (lg,wk,a0,a1,a2,a3,a4,a5,a6,a7,a8,a9,a10,s,p,g,j,(i:Int),br,fe,s,ai s,(i:Int),()) (z0,z1,zg,zs,b,r,L,S,I,Pl,x.1,x.2.1,x.2.2.1,x.2.2.2.1,x.2.2.2.2.1,x.2.2.2.2.2.1,x.2.2.2.2.2.2.1,x.2.2.2.2.2.2.2.1,x.2.2.2.2.2.2.2.2.1,x.2.2.2.2.2.2.2.2.2.1,x.2.2.2.2.2.2.2.2.2.2,t,())
   = some (.inl (z0,z1,zg,zs,b,r,L,S,I,Pl,x.1,x.2.1,x.2.2.1,x.2.2.2.1,x.2.2.2.2.1,x.2.2.2.2.2.1,x.2.2.2.2.2.2.1,x.2.2.2.2.2.2.2.1,x.2.2.2.2.2.2.2.2.1,x.2.2.2.2.2.2.2.2.2.1,x.2.2.2.2.2.2.2.2.2.2,ik x.1 x.2.1 (20000-t).toNat t,())):=by
 unfold tW;refine bF (Rr (body:=tB (lg,wk,a0,a1,a2,a3,a4,a5,a6,a7,a8,a9,a10,s,p,g,j,(i:Int),br,fe,s,ai s,(i:Int),())) x.1 x.2.1 (fun t=>(z0,z1,zg,zs,b,r,L,S,I,Pl,x.1,x.2.1,x.2.2.1,x.2.2.2.1,x.2.2.2.2.1,x.2.2.2.2.2.1,x.2.2.2.2.2.2.1,x.2.2.2.2.2.2.2.1,x.2.2.2.2.2.2.2.2.1,x.2.2.2.2.2.2.2.2.2.1,x.2.2.2.2.2.2.2.2.2.2,t,())) (fun t=>.inl (z0,z1,zg,zs,b,r,L,S,I,Pl,x.1,x.2.1,x.2.2.1,x.2.2.2.1,x.2.2.2.2.1,x.2.2.2.2.2.1,x.2.2.2.2.2.2.1,x.2.2.2.2.2.2.2.1,x.2.2.2.2.2.2.2.2.1,x.2.2.2.2.2.2.2.2.2.1,x.2.2.2.2.2.2.2.2.2.2,t,())) (fun t t0 t1=>?_) ?_ (20000-t).toNat t (by omega) h0) (Nat.le_of_lt (aT (by omega)))
 ·unfold tB;dsimp only;rw[show af .lss t 20000=true by simp only[af,decide_eq_true_eq];omega,RO,JR t0 (by omega)];cases MD x.1 x.2.1 t <;> rfl
 ·unfold tB;rfl
theorem UP{i:Nat}(x:Site)(br fe st t:Int)(h0:0<=t)(h1:t<=20000):
  kx (lg,wk,a0,a1,a2,a3,a4,a5,a6,a7,a8,a9,a10,s,p,g,j,(i:Int),br,fe,st,s,ai s,(i:Int),()) (z0,z1,zg,zs,b,r,L,S,I,Pl,x.1,x.2.1,x.2.2.1,x.2.2.2.1,x.2.2.2.2.1,x.2.2.2.2.2.1,x.2.2.2.2.2.2.1,x.2.2.2.2.2.2.2.1,x.2.2.2.2.2.2.2.2.1,x.2.2.2.2.2.2.2.2.2.1,x.2.2.2.2.2.2.2.2.2.2,t,())
   = some (.inl (z0,z1,zg,zs,b,r,L,S,I,Pl,Qu x.1 x.2.1 (20000-t).toNat t,())):=by
 unfold kx;refine bF (Ra (body:=JZ (lg,wk,a0,a1,a2,a3,a4,a5,a6,a7,a8,a9,a10,s,p,g,j,(i:Int),br,fe,st,s,ai s,(i:Int),())) x.1 x.2.1 (fun t=>(z0,z1,zg,zs,b,r,L,S,I,Pl,x.1,x.2.1,x.2.2.1,x.2.2.2.1,x.2.2.2.2.1,x.2.2.2.2.2.1,x.2.2.2.2.2.2.1,x.2.2.2.2.2.2.2.1,x.2.2.2.2.2.2.2.2.1,x.2.2.2.2.2.2.2.2.2.1,x.2.2.2.2.2.2.2.2.2.2,t,())) (fun t=>.inl (z0,z1,zg,zs,b,r,L,S,I,Pl,t,())) (fun t t0 t1=>?_) (20000-t).toNat t (by omega) h0) (Nat.le_of_lt (aT (by omega)));unfold JZ;dsimp only;rw[RO,JR t0 (by omega)];cases MD x.1 x.2.1 (t+1) <;> rfl
theorem U6{i:Nat}(hi:i<s.length)(br fe st t w:Int)(h0:0<=t)(h1:t<=20000):
  me (lg,wk,a0,a1,a2,a3,a4,a5,a6,a7,a8,a9,a10,s,p,g,j,(i:Int),()) (z0,z1,zg,zs,b,r,L,S,I,Pl,st,t,w,br,fe,())
   = some (.inl (z0,z1,zg,zs,b,r,L,S,I,Pl,st,Qu (s.getD i aS).1 (s.getD i aS).2.1 (20000-t).toNat t,w,br,fe,())):=by
 unfold me;refine bF (Ra (body:=Kg (lg,wk,a0,a1,a2,a3,a4,a5,a6,a7,a8,a9,a10,s,p,g,j,(i:Int),())) (s.getD i aS).1 (s.getD i aS).2.1 (fun t=>(z0,z1,zg,zs,b,r,L,S,I,Pl,st,t,w,br,fe,())) (fun t=>.inl (z0,z1,zg,zs,b,r,L,S,I,Pl,st,t,w,br,fe,())) (fun t t0 t1=>?_) (20000-t).toNat t (by omega) h0) (Nat.le_of_lt (aT (by omega)));unfold Kg;dsimp only;rw[az,aq,TP,JR t0 (by omega),decide_eq_true hi];cases MD (s.getD i aS).1 (s.getD i aS).2.1 (t+1) <;> rfl
end
end Go.Fn
set_option linter.unusedVariables false
set_option linter.unusedSimpArgs false
namespace Go.Fn
open Go.R
section
variable (a0 a1 a2 a3 a4 a5 a6 a7 a8 a9 a10:Int) (s:List Site) (p:List Q0) (g:List Rx) (j:List Ev)
variable (lg:List (List Int)) (wk:Int)
abbrev RfX:=Int×Int×List (List Int)×List Ou×Int×Int×List (List Int)×List Ou×List Int×List Int×Int×Unit
noncomputable def RE(n:Nat)(S:List Ou)(I Pl:List Int):Prop:=S.length<=n/\I.length<=n/\1<=Pl.length/\Pl.length<=n+1/\(∀q∈Pl,0<=q/\q<=(n:Int))/\I.length=S.length
theorem TK{n:Nat}{S:List Ou}{I Pl:List Int}(h:RE n S I Pl):RE (n+1) S I Pl:=⟨by have:=h.1;omega,by have:=h.2.1;omega,h.2.2.1,by have:=h.2.2.2.1;omega,fun q hq=>by have:=h.2.2.2.2.1 q hq;omega,h.2.2.2.2.2⟩
theorem TL{n:Nat}{S:List Ou}{I Pl:List Int}(h:RE n S I Pl)(x:Ou):RE (n+1) (S++[x]) (I++[(n:Int)]) (Pl++[((n+1:Nat):Int)]):=by
 obtain⟨h1,h2,h3,h4,h5,h6⟩:=h;refine⟨by simp;omega,by simp;omega,by simp,by simp;omega,fun q hq=>?_,by simp;omega⟩;rcases List.mem_append.1 hq with hq|hq
 ·have:=h5 q hq;omega
 ·rw[List.mem_singleton]at hq;omega
theorem TO(z0 z1:Int)(zg:List (List Int))(zs:List Ou)(b r:Int)(L:List (List Int))(S:List Ou)(I Pl:List Int){n:Nat}(hn:n<s.length)(hs:s.length<=1048576)(hp:p.length<=1048576)(ht:0<=a10/\a10<=20000)(hok:RE n S I Pl):
  Sm (fun y=>match y with| .inl y=>∃S' I' Vr,y=(z0,z1,zg,zs,b,r,L,S',I',Vr,((n+1:Nat):Int),())/\RE (n+1) S' I' Vr| .inr (.inl y)=>y=(0,0,[],[],[],false,())| .inr (.inr _)=>False)
   (l5 (lg,wk,a0,a1,a2,a3,a4,a5,a6,a7,a8,a9,a10,s,p,g,j,()) (z0,z1,zg,zs,b,r,L,S,I,Pl,(n:Int),()))
   (kv (lg,wk,a0,a1,a2,a3,a4,a5,a6,a7,a8,a9,a10,s,p,g,j,s,ai s,()) (z0,z1,zg,zs,b,r,L,S,I,Pl,(n:Int),())):=by
 obtain⟨q1,q2,q3,q4,q5⟩:=hok;have hok:RE n S I Pl:=⟨q1,q2,q3,q4,q5⟩
 have hB:=S3 a0 a1 a2 a3 a4 a5 a6 a7 a8 a9 a10 s p g j (n:Int) hp;have hF:=S5 a0 a1 a2 a3 a4 a5 a6 a7 a8 a9 a10 s p g j hn hp;have hL:=VG a0 a1 a2 a3 a4 a5 a6 a7 a8 a9 a10 s p g j lg wk z0 z1 zg zs b r L S I Pl (i:=n) (s.getD n aS) hp;have XE:=fun br fe=>TE a0 a1 a2 a3 a4 a5 a6 a7 a8 a9 a10 s p g j lg wk z0 z1 zg zs b r L S I Pl (i:=n) (s.getD n aS) br fe a10 ht.1 ht.2;have hA:=Td (s.getD n aS).1 (s.getD n aS).2.1 ht.1 ht.2;have hbd:=Rf (s.getD n aS).1 (s.getD n aS).2.1 (20000-a10).toNat a10;generalize p.foldl (VB (n:Int)) 0=br at hB hL;generalize p.foldl (VD a0 a1 a2 a3 a4 a5 a6 a7 a10 (s.getD n aS) (n:Int)) 0=fe at hF hL;have XE:=XE br fe;generalize ik (s.getD n aS).1 (s.getD n aS).2.1 (20000-a10).toNat a10=t at hA XE hbd;have ht0:0<=t:=by omega
 have ht1:t<=20000:=by omega
 have Ga:=U6 a0 a1 a2 a3 a4 a5 a6 a7 a8 a9 a10 s p g j lg wk z0 z1 zg zs b r L S I Pl hn br fe t t wk ht0 ht1;have hE2:=UP a0 a1 a2 a3 a4 a5 a6 a7 a8 a9 a10 s p g j lg wk z0 z1 zg zs b r L S I Pl (i:=n) (s.getD n aS) br fe t t ht0 ht1;generalize Qu (s.getD n aS).1 (s.getD n aS).2.1 (20000-t).toNat t=e at Ga hE2;have m1:aE (S++[(t,e,wk,br,fe)])=true:=KM (by simp;omega);have m2:aE (I++[(n:Int)])=true:=KM (by simp;omega);have m3:aE (Pl++[((n+1:Nat):Int)])=true:=KM (by simp;omega);have e1:aa .sub .i64 (t+1) 1=t:=by rw[bO (by omega) (by omega)];omega
 have e2:af .eql t (20000:Int)=Bool.not (decide (t<20000)):=by
  cases hd:decide (t<20000)with
  |true=>simp only[af,Bool.not_true,beq_eq_false_iff_ne,ne_eq];have:=of_decide_eq_true hd;omega
  |false=>have:=of_decide_eq_false hd;simp only[af,Bool.not_false,beq_iff_eq];omega
 have ap:∀ {α:Type} (l m:List α),List.append l m=l++m:=fun _ _=>rfl;unfold l5 kv;dsimp only;simp only[aj,az,hn,decide_true,cond_true,aq,av (n:=n) (by omega),hB,hF,hL,hA,Option.bind_some,Sum.elim_inl,XE,e2,ap,List.nil_append];have key:Sm (fun(y:RfX⊕((Int×Int×List (List Int)×List Ou×List Int×Bool×Unit)⊕((Int×Int×List (List Int)×List Ou×Int×Int×List (List Int)×List Ou×List Int×List Int×Unit)⊕Empty)))=>match y with| .inl y=>∃S' I' Vr,y=(z0,z1,zg,zs,b,r,L,S',I',Vr,((n+1:Nat):Int),())/\RE (n+1) S' I' Vr| .inr (.inl y)=>y=(0,0,[],[],[],false,())| .inr (.inr _)=>False) (some (.inl (z0,z1,zg,zs,b,r,L,S++[(t,e,wk,br,fe)],I++[(n:Int)],Pl++[((n+1:Nat):Int)],((n+1:Nat):Int),()))) (some (.inl (z0,z1,zg,zs,b,r,L,S++[(t,e,wk,br,fe)],I++[(n:Int)],Pl++[((n+1:Nat):Int)],((n+1:Nat):Int),()))):=.ret ⟨_,_,_,rfl,TL hok _⟩;refine .cond (fun _=>.cond (fun _=>.ret ⟨_,_,_,rfl,TK hok⟩) fun _=>?_) fun _=>?_;all_goals
  cases hd:decide (t<20000)with
  |false=>exact .ret rfl
  |true=>simp only[cond_true,cond_false,Bool.not_true,e1,Ga,hE2,Option.bind_some,Sum.elim_inl,m1,m2,m3,aV];exact key
end
end Go.Fn
set_option linter.unusedVariables false
set_option linter.unusedSimpArgs false
namespace Go.Fn
open Go.R
theorem Tr {B X Y:Type} {body body':X->Option (X⊕Y)} (st:B->Nat->X) (len:Nat) (hlen:len<=1073741824) {Q:Y->Prop} (I:Nat->B->Prop)
  (hs:∀n b,n<len->I n b->Sm (fun r=>match r with| .inl a=>∃b',a=st b' (n+1)/\I (n+1) b'| .inr y=>Q y) (body (st b n)) (body' (st b n)))
  (he:∀b,I len b->Sm (fun r=>match r with| .inl a=>False| .inr y=>Q y) (body (st b len)) (body' (st b len))) (b:B) (hb:I 0 b):Sm Q (iter body big (st b 0)) (iter body' big (st b 0)):=by
 have key:∀(k n:Nat) (b:B),n+k=len->I n b->Sm Q (iter body (k+1) (st b n)) (iter body' (k+1) (st b n)):=by
  intro k;induction k with
  |zero=>
   intro n b hn hI;have:n=len:=by omega
   subst this;obtain⟨r,e1,e2,hr⟩:=he b hI;cases r with
   |inl a=>exact hr.elim
   |inr y=>exact⟨y,ay e1,ay e2,hr⟩
  |succ k ih=>
   intro n b hn hI;obtain⟨r,e1,e2,hr⟩:=hs n b (by omega) hI;cases r with
   |inl a=>obtain⟨b',rfl,hI'⟩:=hr;rw[aH e1,aH e2];exact ih (n+1) b' (by omega) hI'
   |inr y=>exact⟨y,ay e1,ay e2,hr⟩
 obtain⟨y,e1,e2,hy⟩:=key len 0 b (by omega) hb;exact⟨y,bF e1 (Nat.le_of_lt (aT (by omega))),bF e2 (Nat.le_of_lt (aT (by omega))),hy⟩
theorem Mi{α β:Type}(h:β->α):∀(l:List β) (acc:List α),l.foldl (fun acc b=>acc++[h b]) acc=acc++l.map h
 | [],acc=>by simp
 |x::l,acc=>by simp only[List.foldl_cons,Mi h l,List.map_cons,List.append_assoc,List.singleton_append]
theorem Q5{α:Type}(l m:List α):List.append l m=l++m:=rfl
theorem Sa{α:Type}{l:List α}{q:Int}(h0:0<=q)(h1:q<l.length):ah l q=true:=by
 obtain⟨n,rfl⟩:∃n:Nat,q=(n:Int):=⟨q.toNat,by omega⟩
 rw[az];exact decide_eq_true (by omega)
section
variable (a0 a1 a2 a3 a4 a5 a6 a7 a8 a9 a10:Int) (s:List Site) (p:List Q0) (g:List Rx) (j:List Ev)
variable (lg:List (List Int)) (wk:Int)
theorem U4(hl:lg.length<=1048576):Sm (fun y=>match y with| .inl y=>y=(0,0,[],[],[],false,())| .inr (.inl y)=>y=(0,0,[],[],())/\∀n,n<lg.length->(lg.getD n g8).length=lg.length| .inr (.inr _)=>False)
  (Kh (lg,wk,a0,a1,a2,a3,a4,a5,a6,a7,a8,a9,a10,s,p,g,j,()) (0,0,[],[],0,())) (J0 (lg,wk,a0,a1,a2,a3,a4,a5,a6,a7,a8,a9,a10,s,p,g,j,lg,ai lg,()) (0,0,[],[],0,())):=by
 refine Tr (B:=Unit) (Y:=(Int×Int×List (List Int)×List Ou×List Int×Bool×Unit)⊕((Int×Int×List (List Int)×List Ou×Unit)⊕Empty)) (fun _ n=>(0,0,[],[],(n:Int),())) lg.length (by omega) (fun n _=>∀m,m<n->(lg.getD m g8).length=lg.length) (fun n _ hn hI=>?_) (fun _ hI=>?_) () (fun m hm=>absurd hm (Nat.not_lt_zero _))
 ·unfold Kf JY;simp only[aj,az,hn,decide_true,cond_true,aq,av (n:=n) (by omega)];refine .cond (fun _=>.ret rfl) fun h=>.ret ⟨(),rfl,fun m hm=>?_⟩;rcases Nat.lt_or_ge m n with h1|h1
  ·exact hI m h1
  ·obtain rfl:m=n:=by omega
   have:(ai (lg.getD m g8) != ai lg)=false:=h;simp only[bne_eq_false_iff_eq]at this;unfold ai at this;omega
 ·unfold Kf JY;simp only[aj,Nat.lt_irrefl,decide_false,cond_false];exact .ret ⟨rfl,hI⟩
noncomputable def rowOf(Pl:List Int)(a:Int):List Int:=Pl.map fun q=>ae zI (ae g8 lg a) q
variable (z0 z1:Int) (zg:List (List Int)) (zs:List Ou) (b r:Int) (L:List (List Int)) (S:List Ou) (I Pl:List Int)
theorem Uz(hrow:∀n,n<lg.length->(lg.getD n g8).length=lg.length){x:Int}(h:0<=x/\x<lg.length):(ae g8 lg x).length=lg.length:=by
 obtain⟨n,rfl⟩:∃n:Nat,x=(n:Int):=⟨x.toNat,by omega⟩
 rw[aq];exact hrow n (by omega)
theorem U7(TY:∀q∈Pl,0<=q/\q<lg.length)(hP:Pl.length<=1048576)(hrow:∀n,n<lg.length->(lg.getD n g8).length=lg.length){n:Nat}(hn:n<Pl.length):
  Kk (lg,(n:Int),()) (z0,z1,zg,zs,b,r,L,S,I,Pl,[],0,())=some (.inl (z0,z1,zg,zs,b,r,L,S,I,Pl,rowOf lg Pl (Pl.getD n zI),())):=by
 have hx:=TY _ (qS hn zI);have:=(cL (body:=ye (lg,(n:Int),())) Pl zI (by omega) (fun acc q=>acc++[ae zI (ae g8 lg (Pl.getD n zI)) q]) (fun acc m=>(z0,z1,zg,zs,b,r,L,S,I,Pl,acc,(m:Int),())) (fun m acc=>acc.length=m) (fun acc=>.inl (z0,z1,zg,zs,b,r,L,S,I,Pl,acc,())) (fun m acc hm hI=>?_) (fun acc hI=>?_) [] rfl).1
 ·rw[Mi]at this;exact this
 ·have hy:=TY _ (qS hm zI);refine⟨?_,by simp[hI]⟩;unfold ye;simp only[aj,az,hm,hn,decide_true,cond_true,aq,av (n:=m) (by omega),Sa hx.1 hx.2,Sa hy.1 (by rw[Uz lg hrow hx];exact hy.2),Q5,List.nil_append,aV];rw[KM (by simp;omega)];rfl
 ·unfold ye;simp only[aj,Nat.lt_irrefl,decide_false,cond_false]
theorem UQ(TY:∀q∈Pl,0<=q/\q<lg.length)(hP:Pl.length<=1048576)(hrow:∀n,n<lg.length->(lg.getD n g8).length=lg.length)(x:Int)(hx:0<=x/\x<lg.length)(n:Nat):
  IR (lg,Pl,x,Pl,ai Pl,(n:Int),Pl,ai Pl,()) (z0,z1,zg,zs,b,r,L,S,I,[],0,())=some (.inl (z0,z1,zg,zs,b,r,L,S,I,rowOf lg Pl x,())):=by
 have:=(cL (body:=p4 (lg,Pl,x,Pl,ai Pl,(n:Int),Pl,ai Pl,())) Pl zI (by omega) (fun acc q=>acc++[ae zI (ae g8 lg x) q]) (fun acc m=>(z0,z1,zg,zs,b,r,L,S,I,acc,(m:Int),())) (fun m acc=>acc.length=m) (fun acc=>.inl (z0,z1,zg,zs,b,r,L,S,I,acc,())) (fun m acc hm hI=>?_) (fun acc hI=>?_) [] rfl).1
 ·rw[Mi]at this;exact this
 ·have hy:=TY _ (qS hm zI);refine⟨?_,by simp[hI]⟩;unfold p4;simp only[aj,az,hm,decide_true,cond_true,aq,av (n:=m) (by omega),Sa hx.1 hx.2,Sa hy.1 (by rw[Uz lg hrow hx];exact hy.2),Q5,List.nil_append,aV];rw[KM (by simp;omega)];rfl
 ·unfold p4;simp only[aj,Nat.lt_irrefl,decide_false,cond_false]
theorem UB(TY:∀q∈Pl,0<=q/\q<lg.length)(hP:Pl.length<=1048576)(hrow:∀n,n<lg.length->(lg.getD n g8).length=lg.length):
  Kj (lg,()) (z0,z1,zg,zs,b,r,[],S,I,Pl,0,())=some (.inl (z0,z1,zg,zs,b,r,Pl.map (rowOf lg Pl),S,I,())):=by
 have:=(cL (body:=xx (lg,())) Pl zI (by omega) (fun acc q=>acc++[rowOf lg Pl q]) (fun acc m=>(z0,z1,zg,zs,b,r,acc,S,I,Pl,(m:Int),())) (fun m acc=>acc.length=m) (fun acc=>.inl (z0,z1,zg,zs,b,r,acc,S,I,())) (fun m acc hm hI=>?_) (fun acc hI=>?_) [] rfl).1
 ·rw[Mi]at this;exact this
 ·refine⟨?_,by simp[hI]⟩;have:=U7 lg z0 z1 zg zs b r acc S I Pl TY hP hrow hm;unfold xx;simp only[aj,hm,decide_true,cond_true,av (n:=m) (by omega),this,Option.bind_some,Sum.elim_inl,Q5,List.nil_append];rw[KM (by simp;omega)];rfl
 ·unfold xx;simp only[aj,Nat.lt_irrefl,decide_false,cond_false]
theorem Ut(TY:∀q∈Pl,0<=q/\q<lg.length)(hP:Pl.length<=1048576)(hrow:∀n,n<lg.length->(lg.getD n g8).length=lg.length):
  IQ (lg,Pl,Pl,ai Pl,()) (z0,z1,zg,zs,b,r,[],S,I,0,())=some (.inl (z0,z1,zg,zs,b,r,Pl.map (rowOf lg Pl),S,I,())):=by
 have:=(cL (body:=oa (lg,Pl,Pl,ai Pl,())) Pl zI (by omega) (fun acc q=>acc++[rowOf lg Pl q]) (fun acc m=>(z0,z1,zg,zs,b,r,acc,S,I,(m:Int),())) (fun m acc=>acc.length=m) (fun acc=>.inl (z0,z1,zg,zs,b,r,acc,S,I,())) (fun m acc hm hI=>?_) (fun acc hI=>?_) [] rfl).1
 ·rw[Mi]at this;exact this
 ·refine⟨?_,by simp[hI]⟩;have:=UQ lg z0 z1 zg zs b r acc S I Pl TY hP hrow (Pl.getD m zI) (TY _ (qS hm zI)) m;unfold oa;simp only[aj,az,aq,hm,decide_true,cond_true,av (n:=m) (by omega),this,Option.bind_some,Sum.elim_inl,Q5,List.nil_append];rw[KM (by simp;omega)];rfl
 ·unfold oa;simp only[aj,Nat.lt_irrefl,decide_false,cond_false]
noncomputable def Vp(y:Int×Int×List (List Int)×List Ou×List Int×Bool×Unit):Prop:=y.2.2.1.length<=1048576/\(∀x∈y.2.2.1,x.length<=1048576)/\y.2.2.2.1.length<=1048576/\y.2.2.2.2.1.length<=1048576/\y.2.2.2.2.1.length=y.2.2.2.1.length
theorem NV:Vp (0,0,[],[],[],false,()):=⟨Nat.zero_le _,fun x hx=>(nomatch hx),Nat.zero_le _,Nat.zero_le _,rfl⟩
theorem VK{b:Bool}(h:ia a0 a1 a2 a3 a4 a5 a6 a7 a8 a9 a10 s p g j=some (b,()))(hb:b=true):g6 a10 0 20000=true:=by
 subst hb;cases hn:g6 a10 0 20000 with
 |true=>rfl
 |false=>
  have:ia a0 a1 a2 a3 a4 a5 a6 a7 a8 a9 a10 s p g j=some (false,()):=by
   obtain⟨b,hb⟩:=TH a9;unfold ia;refine(Oi (NZ a0 a1 a2 a3 a4 a5 a6 a7)).trans ?_;cases Nt a0 a1 a2 a3 a4 a5 a6 a7 with
   |false=>rfl
   |true=>
   refine(cF rfl).trans ?_;refine(Oi (ev a8 0 1000)).trans ?_;cases g6 a8 0 1000 with
   |false=>rfl
   |true=>
   refine(cF rfl).trans ?_;refine(Oi hb).trans ?_;cases b with
   |false=>rfl
   |true=>
   refine(cF rfl).trans ?_;refine(Oi (zT a10)).trans ?_;rw[hn];exact cT rfl
  rw[this]at h;injection h with h
  injection h with h
theorem Uy(hle:QS s p g j)(hl:lg.length<=1048576):Sm Vp (Ky a0 a1 a2 a3 a4 a5 a6 a7 a8 a9 a10 s p g j lg wk) (Ex a0 a1 a2 a3 a4 a5 a6 a7 a8 a9 a10 s p g j lg wk):=by
 have hls:=hle.ls;obtain⟨⟨ok,u⟩,e1,e2,_⟩:=S9 a0 a1 a2 a3 a4 a5 a6 a7 a8 a9 a10 s p g j hle;unfold Ky Ex;simp only[e1,e2,Option.bind_some];refine .cond (fun _=>.ret NV) fun hok=>?_;have hok:ok=true:=by cases ok with|true=>rfl|false=>cases hok
 have Yr:=gb.1 (VK a0 a1 a2 a3 a4 a5 a6 a7 a8 a9 a10 s p g j e2 hok);refine .cond (fun _=>.ret NV) fun hlen=>?_;have hlen:lg.length=s.length+1:=by have h1:aa .add .i64 (ai s) 1=((s.length+1:Nat):Int):=av (n:=s.length) (by omega);rw[h1]at hlen;have:(ai lg != ((s.length+1:Nat):Int))=false:=hlen;simp only[bne_eq_false_iff_eq]at this;unfold ai at this;omega
 refine(U4 a0 a1 a2 a3 a4 a5 a6 a7 a8 a9 a10 s p g j lg wk hl).bind fun y hy=>?_;cases y with
 |inl y=>have hy:y=(0,0,[],[],[],false,()):=hy;subst hy;exact .ret NV
 |inr y=>
  cases y with
  |inr e=>exact hy.elim
  |inl y=>
   obtain⟨rfl,hrow⟩:=hy;simp only[Sum.elim_inr,Sum.elim_inl,Q5,List.nil_append];have e8:Sm (fun(y:(Int×Int×List (List Int)×List Ou×List Int×Bool×Unit)⊕((Int×Int×List (List Int)×List Ou×Int×Int×List (List Int)×List Ou×List Int×List Int×Unit)⊕Empty))=>match y with| .inl y=>y=(0,0,[],[],[],false,())| .inr (.inl y)=>∃S I Pl,y=(0,0,[],[],a10,a8,[],S,I,Pl,())/\RE s.length S I Pl| .inr (.inr _)=>False) (Ki (lg,wk,a0,a1,a2,a3,a4,a5,a6,a7,a8,a9,a10,s,p,g,j,()) (0,0,[],[],a10,a8,[],[],[],[0],0,())) (J1 (lg,wk,a0,a1,a2,a3,a4,a5,a6,a7,a8,a9,a10,s,p,g,j,s,ai s,()) (0,0,[],[],a10,a8,[],[],[],[0],0,())):=by
    refine Tr (body:=l5 (lg,wk,a0,a1,a2,a3,a4,a5,a6,a7,a8,a9,a10,s,p,g,j,())) (body':=kv (lg,wk,a0,a1,a2,a3,a4,a5,a6,a7,a8,a9,a10,s,p,g,j,s,ai s,())) (fun(q:List Ou×List Int×List Int) n=>(0,0,[],[],a10,a8,[],q.1,q.2.1,q.2.2,(n:Int),())) s.length (by omega) (fun n q=>RE n q.1 q.2.1 q.2.2) (fun n q hn hI=>?_) (fun q hI=>?_) ([],[],[0]) ⟨Nat.le_refl _,Nat.le_refl _,Nat.le_refl _,Nat.le_refl _,fun q hq=>by rw[List.mem_singleton]at hq;omega,rfl⟩
    ·refine(TO a0 a1 a2 a3 a4 a5 a6 a7 a8 a9 a10 s p g j lg wk 0 0 [] [] a10 a8 [] q.1 q.2.1 q.2.2 hn hls hle.lp Yr hI).mono fun y hy=>?_;cases y with
     |inl y=>obtain⟨S',I',Vr,rfl,hk⟩:=hy;exact⟨(S',I',Vr),rfl,hk⟩
     |inr y=>
      cases y with
      |inl y=>exact hy
      |inr y=>exact hy.elim
    ·unfold l5 kv;simp only[aj,Nat.lt_irrefl,decide_false,cond_false];exact .ret ⟨_,_,_,rfl,hI⟩
   refine e8.bind fun y hy=>?_
   ·cases y with
    |inl y=>have hy:y=(0,0,[],[],[],false,()):=hy;subst hy;exact .ret NV
    |inr y=>
     cases y with
     |inr e=>exact hy.elim
     |inl y=>
      obtain⟨S,I,Pl,rfl,k1,k2,k3,k4,k5,k6⟩:=hy;have TY:∀q∈Pl,0<=q/\q<lg.length:=fun q hq=>by have:=k5 q hq;omega
      have r1:=UB lg 0 0 [] [] a10 a8 S I Pl TY (by omega) hrow;have r2:=Ut lg 0 0 [] [] a10 a8 S I Pl TY (by omega) hrow;have hr:∀x∈Pl.map (rowOf lg Pl),x.length<=1048576:=fun x hx=>by obtain⟨q,_,rfl⟩:=List.mem_map.1 hx;unfold rowOf;rw[List.length_map];omega
      simp only[Sum.elim_inr,Sum.elim_inl,r1,r2,Option.bind_some,Sg,R8 a10 a8 (Pl.map (rowOf lg Pl)) S (fun x hx=>by have:=hr x hx;omega)];refine .cond (fun _=>.ret NV) fun _=>.ret ⟨?_,hr,?_,?_,k6⟩
      ·show(Pl.map (rowOf lg Pl)).length<=_;rw[List.length_map];omega
      ·show S.length<=_;omega
      ·show I.length<=_;omega
end
end Go.Fn
set_option linter.unusedVariables false
set_option linter.unusedSimpArgs false
namespace Go.Fn
open Go.R
theorem Sd:∀(k:Int) (x:List Int),k<=(Pf k x).2/\(Pf k x).2<=k+(x.length:Int):=fun k x=>⟨by show k<=k+(x.length:Int);omega,Int.le_refl _⟩
theorem SO:∀(k:Int) (x:Ou),k<=(Nn k x).2/\(Nn k x).2<=k+((5:Nat):Int):=fun k x=>⟨by show k<=k+1+1+1+1+1;omega,by show k+1+1+1+1+1<=k+5;omega⟩
theorem R3(l:List (List Int))(k:Int)(hl:l.length<=1073741824)(hr:∀r∈l,r.length<=1073741824)(h0:0<=k)(h1:k+gI List.length l<=1125899906842624):I7 (cc Pf l k).1 k=some ((cc Pf l k).2,()):=by
 unfold I7;have UF:(cc Pf l k).1.length=l.length:=NY _ _ _;have:I9 ((cc Pf l k).1,()) (k,0,())=some (.inr (.inl ((cc Pf l k).2,()))):=by
  refine SJ (cost:=List.length) g8 l k hl h0 Sd (fun k' n hn lA cQ hg=>?_) (fun k'=>?_)
  ·have hrow:(l.getD n g8).length<=1073741824:=hr _ (qS hn g8);unfold I8;simp only[aj,UF,az,hn,decide_true,cond_true,aq,hg,av (n:=n) (by omega)];unfold Pf;simp only[QM (l.getD n g8).length k' hrow lA (by omega),Option.bind_some];rw[g2 (by omega)];rfl
  ·unfold I8;simp only[aj,UF,Nat.lt_irrefl,decide_false,cond_false]
 rw[this];rfl
theorem R4(l:List Ou)(k:Int)(hl:l.length<=1073741824)(h0:0<=k)(h1:k+5*(l.length:Int)<=1125899906842624):Jb (cc Nn l k).1 k=some ((cc Nn l k).2,()):=by
 unfold Jb;have UF:(cc Nn l k).1.length=l.length:=NY _ _ _;have:Jd ((cc Nn l k).1,()) (k,0,())=some (.inr (.inl ((cc Nn l k).2,()))):=by
  refine SJ (cost:=fun _=>5) j0 l k hl h0 SO (fun q n hn lA cQ hg=>?_) (fun k'=>?_)
  ·rw[hG]at cQ;have a1:aa .add .i64 q 1=q+1:=JR (by omega) (by omega);have a2:aa .add .i64 (q+1) 1=q+1+1:=JR (by omega) (by omega);have a3:aa .add .i64 (q+1+1) 1=q+1+1+1:=JR (by omega) (by omega);have a4:aa .add .i64 (q+1+1+1) 1=q+1+1+1+1:=JR (by omega) (by omega);have a5:aa .add .i64 (q+1+1+1+1) 1=q+1+1+1+1+1:=JR (by omega) (by omega);unfold Jc;simp only[aj,UF,az,hn,decide_true,cond_true,aq,hg,av (n:=n) (by omega)];unfold Nn;simp only[a1,a2,a3,a4,a5,e6,cond_false,aV]
  ·unfold Jc;simp only[aj,UF,Nat.lt_irrefl,decide_false,cond_false]
 rw[this];rfl
theorem S8(a0 a1:Int)(g:List (List Int))(s:List Ou)(k:Int)(hg:g.length<=1048576)(hr:∀r∈g,r.length<=1048576)(hs:s.length<=1048576)(h0:0<=k)(h1:k<=1048576):
  ∃g' s' k',Jg a0 a1 g s k=some (k',g',s',())/\Ja a0 a1 g' s' k=some (k',())/\0<=k'/\k'<=1099520000000:=by
 have hc:=Q8 hr;have CD:g.length*1048576<=1048576*1048576:=Nat.mul_le_mul_right _ hg;unfold Jg Ja;have b1:=JS (mk:=Pf) (cost:=List.length) Sd g k;rw[Ql g k (by omega) (fun r h=>by have:=hr r h;omega) h0 (by omega)];simp only[Option.bind_some];have b2:=JS (mk:=Nn) (cost:=fun _=>5) SO s (cc Pf g k).2;rw[hG]at b2;rw[Sc s _ (by omega) (by omega) (by omega)];refine⟨_,_,_,rfl,?_,by omega,by omega⟩;rw[R3 g k (by omega) (fun r h=>by have:=hr r h;omega) h0 (by omega)];simp only[Option.bind_some];rw[g2 (by omega),R4 s _ (by omega) (by omega) (by omega)];simp only[Option.bind_some,cond_false];rw[g2 (by omega)];rfl
section
variable (a0 a1 a2 a3 a4 a5 a6 a7 a8 a9 a10:Int) (s:List Site) (p:List Q0) (g:List Rx) (j:List Ev)
theorem RF(lg:List (List Int))(wk:Int)(h:Uw s p g j)(hlg:lg.length<=9223372036854775807)(hrw:∀r∈lg,r.length<=9223372036854775807):rm a0 a1 a2 a3 a4 a5 a6 a7 a8 a9 a10 s p g j lg wk=some (true,()):=by
 unfold rm;obtain⟨b,h1,h2⟩:=Sl a0 a1 a2 a3 a4 a5 a6 a7 a8 a9 a10 s p g j 1048576 h (by decide) (by decide);refine(Oi h1).trans ?_;rcases h2 with rfl|⟨b0,b1,hle⟩
 ·rfl
 refine(cF (g2 b0)).trans ?_;obtain⟨c,h3,h4⟩:=Te lg b hlg hrw b0 (by omega);refine(Oi h3).trans ?_;rcases h4 with rfl|⟨c0,c1,c2,c3⟩
 ·rfl
 refine(cF (g2 c0)).trans ?_;have Ur:=U8 a0 a1 a2 a3 a4 a5 a6 a7 a8 a9 a10 s p g j 1048576 b h (by decide) (by decide) h1 b0 hle;have t:=Sq a0 a1 a2 a3 a4 a5 a6 a7 a8 a9 a10 s p g j hle;have e:=Rd a0 a1 a2 a3 a4 a5 a6 a7 a8 a9 a10 s p g j hle;have k:=Rk a0 a1 a2 a3 a4 a5 a6 a7 a8 a9 a10 s p g j 1 hle (by decide) (by omega);have kn:af .lss (U2 1 s p g j) 0=false:=g2 (Ro s p g j 1 (by decide));have Xn:lg.length<=1048576:=by omega
 have UO:∀r∈lg,r.length<=1048576:=fun r hr=>by have:=c3 r hr;omega
 have t2:=Tj lg (by omega) (fun r hr=>by have:=UO r hr;omega);have e2:=PT lg (by omega) (fun r hr=>by have:=UO r hr;omega);have hrc:=Q8 UO;have abH:lg.length*1048576<=1048576*1048576:=Nat.mul_le_mul_right _ Xn;have kn0:=Ro s p g j 1 (by decide);have knb:U2 1 s p g j<=137438953472:=by obtain⟨b1,b2,b3⟩:=Ta s p g 1;unfold Qq at Ur;unfold U2;omega
 have k2:=Ql lg (U2 1 s p g j) (by omega) (fun r hr=>by have:=UO r hr;omega) kn0 (by omega);have k2n:af .lss (cc Pf lg (U2 1 s p g j)).2 0=false:=g2 (by have:=JS (mk:=Pf) (cost:=List.length) Sd lg (U2 1 s p g j);omega);obtain⟨⟨r0,r1,r2,r3,r4,ok,u⟩,y1,y2,l1,l2,l3,l4,_⟩:=Uy a0 a1 a2 a3 a4 a5 a6 a7 a8 a9 a10 s p g j lg wk hle Xn;have l1:r2.length<=1048576:=l1;have l2:∀x∈r2,x.length<=1048576:=l2;have l3:r3.length<=1048576:=l3;have l4:r4.length<=1048576:=l4;have e3:=RZ r0 r1 r2 r3 (by omega) (fun x hx=>by have:=l2 x hx;omega) (by omega);have e4:=Ov r4 (by omega);obtain⟨g',s',k',m1,m2,m3,m4⟩:=S8 r0 r1 r2 r3 1 l1 l2 l3 (by decide) (by decide);have m5:=OJ r4 k' (by omega) m3 (by omega);have m6:=QM r4.length k' (by omega) m3 (by omega);have m7:af .lss k' 0=false:=g2 m3;have m8:af .lss (k'+(r4.length:Int)) 0=false:=g2 (by omega);simp only[t,e,k,kn,t2,e2,k2,k2n,y1,y2,e3,e4,m1,m2,m5,m6,m7,m8,Option.bind_some,OS,e6,Bool.not_true,cond_false]
end
end Go.Fn

