import Derived.Test.YtajokmncfidfjaaGreatFnNewNetworksQA
/- Plain functions that stand for Go functions, and what they answer. Conditions: none. -/
set_option autoImplicit false
set_option linter.unusedVariables false
set_option linter.unusedSimpArgs false
set_option linter.unusedSimpArgs false
namespace Go.Fn
open Go.R
abbrev YQ:=Int×Int
noncomputable def VC(l:List YQ)(most:Int)(n:Nat):Bool:=
 bif af .lss (l.getD n WM).1 0 then false else bif af .geq (l.getD n WM).1 (l.getD n WM).2 then false else bif af .gtr (l.getD n WM).2 most then false else
  match n with
  |0=>true
  |m+1=>bif af .leq (l.getD (m+1) WM).1 (l.getD m WM).2 then false else true
noncomputable def WJ(l:List YQ)(most:Int):Bool:=bif decide (20<l.length)then false else aB (VC l most) 0 l.length
theorem ac7{α:Type}(l:List α):af .gtr (ai l) (20:Int)=decide (20<l.length):=by simp only[af,ai,gt_iff_lt,decide_eq_decide];omega
theorem afa:af .gtr ((0:Nat):Int) 0=false:=rfl
theorem Zt(l:List YQ)(most:Int):R2 l most=some (WJ l most,()):=by
 unfold R2 WJ;rw[ac7];cases hl:decide (20<l.length)with
 |true=>rfl
 |false=>
  have hl:l.length<=20:=by have:=of_decide_eq_false hl;omega
  have Ti:S6 (l,most,()) ((0:Int),())=some (bif aB (VC l most) 0 l.length then(Sum.inr (Sum.inl ()):Bool×Unit⊕(Unit⊕Empty))else Sum.inl (false,())):=by
   refine bq (fun n=>((n:Int),())) l.length (by omega) (VC l most) _ _ (fun n hn=>?_) ?_
   ·unfold S5 VC;simp only[aj,ax,ak,hn,decide_true,cond_true];cases n with
    |zero=>simp only[afa,cond_false];cases af .lss (l.getD 0 WM).1 0 <;> cases af .geq (l.getD 0 WM).1 (l.getD 0 WM).2 <;> cases af .gtr (l.getD 0 WM).2 most <;> rfl
    |succ n=>
     have hn':n<l.length:=by omega
     simp only[gt0,au (n:=n+1) (by omega),iD (n:=n) (by omega),cK hn',ak,cond_true];cases af .lss (l.getD (n+1) WM).1 0 <;> cases af .geq (l.getD (n+1) WM).1 (l.getD (n+1) WM).2 <;> cases af .gtr (l.getD (n+1) WM).2 most <;> cases af .leq (l.getD (n+1) WM).1 (l.getD n WM).2 <;> rfl
   ·unfold S5;simp only[aj,Nat.lt_irrefl,decide_false,cond_false]
  rw[Ti];cases aB (VC l most) 0 l.length <;> rfl
theorem Zl(l:List YQ)(most:Int):RH l most=some (WJ l most,()):=by
 unfold RH WJ;rw[ac7];cases hl:decide (20<l.length)with
 |true=>rfl
 |false=>
  have hl:l.length<=20:=by have:=of_decide_eq_false hl;omega
  have Ti:SX (l,most,l,ai l,()) ((0:Int),())=some (bif aB (VC l most) 0 l.length then(Sum.inr (Sum.inl ()):Bool×Unit⊕(Unit⊕Empty))else Sum.inl (false,())):=by
   refine bq (fun n=>((n:Int),())) l.length (by omega) (VC l most) _ _ (fun n hn=>?_) ?_
   ·unfold SW VC;simp only[aj,ax,ak,hn,decide_true,cond_true];cases n with
    |zero=>simp only[afa,cond_false];cases af .lss (l.getD 0 WM).1 0 <;> cases af .geq (l.getD 0 WM).1 (l.getD 0 WM).2 <;> cases af .gtr (l.getD 0 WM).2 most <;> rfl
    |succ n=>
     have hn':n<l.length:=by omega
     simp only[gt0,au (n:=n+1) (by omega),iD (n:=n) (by omega),cK hn',ak,cond_true];cases af .lss (l.getD (n+1) WM).1 0 <;> cases af .geq (l.getD (n+1) WM).1 (l.getD (n+1) WM).2 <;> cases af .gtr (l.getD (n+1) WM).2 most <;> cases af .leq (l.getD (n+1) WM).1 (l.getD n WM).2 <;> rfl
   ·unfold SW;simp only[aj,Nat.lt_irrefl,decide_false,cond_false]
  rw[Ti];cases aB (VC l most) 0 l.length <;> rfl
noncomputable def Zx(o c:List YQ):Bool:=bif WJ o 168 then WJ c 20000 else false
theorem ZZ(o c:List YQ):SR o c=some (Zx o c,()):=by unfold SR Zx;simp only[Zt,Option.bind_some,Vk,Vj]
theorem ZM(o c:List YQ):Qo o c=some (Zx o c,()):=by unfold Qo Zx;simp only[Zl,Option.bind_some,Vk,Vj]
noncomputable def WL(a0 a1 a2 a3 a4 a5 a6 a7:Int):Bool:=bif PL a0 1 2000 then bif PL a2 1 2000 then bif PL a5 1 2000 then bif PL a1 0 2000 then bif PL a3 0 10000 then bif PL a4 0 1000000 then bif PL a6 0 100000 then PL a7 0 20 else false else false else false else false else false else false else false
theorem Zu(a0 a1 a2 a3 a4 a5 a6 a7:Int):Ts a0 a1 a2 a3 a4 a5 a6 a7=some (WL a0 a1 a2 a3 a4 a5 a6 a7,()):=by unfold Ts WL;simp only[RL,Option.bind_some,Vk,Vj]
theorem Xp(a0 a1 a2 a3 a4 a5 a6 a7:Int):RI a0 a1 a2 a3 a4 a5 a6 a7=some (WL a0 a1 a2 a3 a4 a5 a6 a7,()):=by unfold RI WL;simp only[LN,Option.bind_some,Vk,Vj]
theorem aci(a b:Int):af .gtr a b=Bool.not (af .leq a b):=by
 simp only[af,gt_iff_lt];by_cases h:a<=b
 ·rw[decide_eq_true h,decide_eq_false (by omega)];rfl
 ·rw[decide_eq_false h,decide_eq_true (by omega)];rfl
abbrev Sty:=Int×Int×Int×Int
theorem WI(b:Bool):bT b b=true:=by unfold bT;simp
theorem agO:af .lss (-1:Int) 0=true:=rfl
end Go.Fn
set_option linter.unusedSimpArgs false
namespace Go.Fn
open Go.R
abbrev Stp:=Int×Int×Int×Int×Int
end Go.Fn
set_option linter.unusedSimpArgs false
namespace Go.Fn
open Go.R
noncomputable def leg(g:List (List Int))(i j:Nat):Int:=(g.getD i afG).getD j zI
noncomputable def nat(l:List Int)(x:Int)(n:Nat):Bool:=!af .eql (l.getD n zI) x
noncomputable def afw(l:List Int)(x:Int):Bool:=!aB (nat l x) 0 l.length
theorem aam(l:List Int)(x:Int)(hl:l.length<=1073741824):U2 l x=some (afw l x,()):=by
 unfold U2 afw;have Ti:Um (l,x,()) ((0:Int),())=some (bif aB (nat l x) 0 l.length then(Sum.inr (Sum.inl ()):Bool×Unit⊕(Unit⊕Empty))else Sum.inl (true,())):=by
  refine bq (fun n=>((n:Int),())) l.length (by omega) (nat l x) _ _ (fun n hn=>?_) ?_
  ·unfold Ul nat;simp only[aj,ax,ak,hn,decide_true,cond_true,au (n:=n) (by omega)];cases af .eql (l.getD n zI) x <;> rfl
  ·unfold Ul;simp only[aj,Nat.lt_irrefl,decide_false,cond_false]
 rw[Ti];cases aB (nat l x) 0 l.length <;> rfl
end Go.Fn
set_option linter.unusedSimpArgs false
namespace Go.Fn
open Go.R
abbrev RSt:=Int×List Int×Int×Int×Int×Int
noncomputable def arr(g:List (List Int))(st:RSt)(i:Int):Int:=aa .add .i64 st.2.2.1 (ae zI (ae afG g st.2.2.2.2.2) (aa .add .i64 i 1))
theorem acv(a b:Int):af .leq a b=Bool.not (af .gtr a b):=by rw[aci,Bool.not_not]
end Go.Fn
set_option linter.unusedSimpArgs false
namespace Go.Fn
open Go.R
abbrev Trm:=Int×Int×Int×Int×Int×Int×Int×Int
end Go.Fn
set_option linter.unusedSimpArgs false
namespace Go.Fn
open Go.R
abbrev Bx:=Int×Int×Int×Bool
abbrev V6:=Int×List Int×List Bx
abbrev Site:=List YQ×List YQ×List V6×Int×Int×Bool×Bool×Bool×Int×Int×List Ev
noncomputable def X5:V6:=Ji
noncomputable def Qx:Site:=b8
noncomputable def ac0(m:Nat)(c:V6):Prop:=c.2.1.length<=m/\c.2.2.length<=m
theorem Qj{α:Type}{l:List α}{n:Nat}(h:n<l.length)(z:α):l.getD n z∈l:=by rw[List.getD_eq_getElem?_getD,List.getElem?_eq_getElem h];exact List.getElem_mem h
structure Zp (m:Nat) (x:Site):Prop where
 o:x.1.length<=m
 c:x.2.1.length<=m
 b:x.2.2.1.length<=m
 bs:∀n,n<x.2.2.1.length->ac0 m (x.2.2.1.getD n X5)
 j:x.2.2.2.2.2.2.2.2.2.2.length<=m
end Go.Fn
set_option linter.unusedSimpArgs false
namespace Go.Fn
open Go.R
abbrev Prc:=Int×Int×Int×Int×Int×Int×Int×Int×Int×Int×Int×Int×Int
abbrev Grt:=Int×Int×Int×Int×Int×Int×Bool
structure aax (s:List Site) (p:List Prc) (g:List Grt) (j:List Ev):Prop where
 ls:s.length<=1048576
 ss:∀n,n<s.length->Zp 1073741824 (s.getD n Qx)
 lp:p.length<=1048576
 lg:g.length<=1048576
 lj:j.length<=1048576
section
variable (a0 a1 a2 a3 a4 a5 a6 a7 a8 a9 a10:Int) (s:List Site) (p:List Prc) (g:List Grt) (j:List Ev)
theorem aa4(n:Int):∃y,Q2 a0 a1 a2 a3 a4 a5 a6 a7 a8 a9 a10 s p g j n=some (y,())/\QZ a0 a1 a2 a3 a4 a5 a6 a7 a8 a9 a10 s p g j n=some (y,()):=by
 unfold Q2 QZ Oz NR;simp only[RL,LN,Option.bind_some];have hz:az (2147483646:Int)=false:=rfl;cases PL a9 1 2147483646 with
 |false=>exact⟨_,rfl,rfl⟩
 |true=>
  cases PL n 1 12 with
  |false=>exact⟨_,rfl,rfl⟩
  |true=>simp only[hz];exact⟨_,rfl,rfl⟩
end
end Go.Fn
namespace Go.R
def Yl{α:Type}(x:Option α)(P:α->Prop):Prop:=∃a,x=some a/\P a
section
variable {α β:Type} {P:α->Prop} {Q:β->Prop}
theorem Yl.ret{a:α}(h:P a):Yl (some a) P:=⟨a,rfl,h⟩
theorem Yl.bind{x:Option α}{f:α->Option β}(hx:Yl x P)(hf:∀a,P a->Yl (f a) Q):Yl (x.bind f) Q:=by obtain⟨a,rfl,ha⟩:=hx;exact hf a ha
theorem Yl.mono{P':α->Prop}{x:Option α}(hx:Yl x P)(h:∀a,P a->P' a):Yl x P':=by obtain⟨a,e,ha⟩:=hx;exact⟨a,e,h a ha⟩
theorem Yl.cond{b:Bool}{x y:Option α}(hx:b=true->Yl x P)(hy:b=false->Yl y P):Yl (bif b then x else y) P:=by
 cases b
 ·exact hy rfl
 ·exact hx rfl
theorem Yl.guard{b:Bool}{x:Option α}(hb:b=true)(hx:Yl x P):Yl (bif b then x else none) P:=by subst hb;exact hx
theorem Yl.Zn{b:Bool}{x:Option α}(hb:b=false)(hx:Yl x P):Yl (bif b then none else x) P:=by subst hb;exact hx
theorem Yl.lets{γ:Type}{v:γ}{k:γ->Option α}(h:Yl (k v) P):Yl (lets v k) P:=h
theorem Yl.loop{X Y:Type}{body:X->Option (X⊕Y)}(Inv:X->Prop)(m:X->Nat){R:Y->Prop}(hb:∀x,Inv x->Yl (body x) fun r=>match r with| .inl y=>Inv y/\m y<m x| .inr b=>R b):
  ∀(n:Nat) (x:X),Inv x->m x<n->Yl (iter body n x) R
 |0,_,_,h=>absurd h (Nat.not_lt_zero _)
 |n+1,x,hi,hm=>by
  obtain⟨r,e,hr⟩:=hb x hi;cases r with
  |inl y=>rw[aF e];exact Yl.loop Inv m hb n y hr.1 (by omega)
  |inr b=>exact⟨b,av e,hr⟩
end
theorem ab9{a b:Int}:af .gtr a b=decide (b<a):=rfl
theorem Yt{a b:Int}:af .lss a b=decide (a<b):=rfl
theorem aat{a b:Int}:af .leq a b=decide (a<=b):=rfl
theorem Pc{α:Type}{l:List α}{i:Int}(h0:0<=i)(h1:i<(l.length:Int)):ah l i=true:=by unfold ah;rw[Bool.and_eq_true];exact⟨decide_eq_true h0,decide_eq_true h1⟩
theorem KP{α:Type}{l:List α}(h:l.length<=1073741824):aE l=true:=by unfold aE limit;exact decide_eq_true (by omega)
theorem acZ(x:Int){c:Nat}(hc:c<9223372036854775808):0<=aa .and .i64 x (c:Int)/\aa .and .i64 x (c:Int)<=(c:Int):=by
 have h1:(BitVec.ofInt 64 (c:Int)).toNat=c:=by rw[BitVec.toNat_ofInt];have:((c:Int) % ((2 ^ 64:Nat):Int))=c:=Int.emod_eq_of_lt (by omega) (by omega);rw[this];rfl
 have h2:(BitVec.ofInt 64 x &&& BitVec.ofInt 64 (c:Int)).toNat<=c:=by rw[BitVec.toNat_and,h1];exact Nat.and_le_right
 have e:aa .and .i64 x (c:Int)=IntKind.i64.wrap (((BitVec.ofInt 64 x &&& BitVec.ofInt 64 (c:Int)).toNat:Nat):Int):=rfl;rw[e,zx (by omega) (by omega)];exact⟨by omega,by omega⟩
open Go.Fn
def acS(b:List Int)(lo hi:Int)(y:Int×List Int×Int×Int×Unit):Prop:=lo<=y.1/\y.1<=hi/\y.2.1=b/\0<=y.2.2.1
theorem Xm(b:List Int)(hb:b.length<=1048576)(i h:Int)(hi:0<=i):Yl (OU b i h) (acS b 0 255):=by
 unfold OU;refine .Zn rfl (.Zn rfl (.lets (.cond (fun h1=>?_) fun _=>?_)))
 ·rw[Yt]at h1;have h1:i<(b.length:Int):=of_decide_eq_true h1;refine .guard (Pc hi h1) (.ret ?_);have:=acZ (aa .add .i64 (aa .and .i64 (aa .xor .i64 (ay .shr .i64 (aa .add .i64 (aa .mul .i64 h 6364136223846793005) 1442695040888963407) 33) (ay .shr .i64 (aa .add .i64 (aa .mul .i64 h 6364136223846793005) 1442695040888963407) 45)) 255) (aq .i64 (ae zI b i))) (c:=255) (by omega);refine⟨this.1,this.2,rfl,?_⟩;show 0<=aa .add .i64 i 1;rw[bU (by omega) (by omega)];omega
 ·have:=acZ (aa .xor .i64 (ay .shr .i64 (aa .add .i64 (aa .mul .i64 h 6364136223846793005) 1442695040888963407) 33) (ay .shr .i64 (aa .add .i64 (aa .mul .i64 h 6364136223846793005) 1442695040888963407) 45)) (c:=255) (by omega);exact .ret ⟨this.1,this.2,rfl,hi⟩
theorem K6(b:List Int)(hb:b.length<=1048576)(i h n:Int)(hi:0<=i)(hn:n<=1073741824):Yl (Jc b i h n) (acS b 0 (max 0 (n-1))):=by
 unfold Jc;have mod:∀(x:Int),0<=x->0<n->0<=aa .rem .i64 x n/\aa .rem .i64 x n<=max 0 (n-1):=by intro x hx hn;have e:aa .rem .i64 x n=x.tmod n:=rfl;have h1:=Int.tmod_nonneg n hx;have h2:=Int.tmod_lt_of_pos x hn;rw[e];omega
 refine .cond (fun _=>.ret ⟨Int.le_refl _,by show(0:Int)<=max 0 (n-1);omega,rfl,hi⟩) fun h0=>.cond (fun _=>?_) fun h1=>?_
 ·rw[aat]at h0;have h0:=of_decide_eq_false h0;refine(Xm b hb i h hi).bind fun y hy=>.Zn (decide_eq_false (by omega)) (.ret ?_);have:=mod y.1 hy.1 (by omega);exact⟨this.1,this.2,hy.2.2.1,hy.2.2.2⟩
 ·rw[aat]at h0;have h0:=of_decide_eq_false h0;refine(Xm b hb i h hi).bind fun y hy=>?_;obtain⟨y1,y2,y3,y4⟩:=hy;rw[y3];refine(Xm b hb _ _ y4).bind fun z hz=>?_;obtain⟨z1,z2,z3,z4⟩:=hz;rw[z3];refine(Xm b hb _ _ z4).bind fun u hu=>?_;obtain⟨u1,u2,u3,u4⟩:=hu;rw[u3];refine(Xm b hb _ _ u4).bind fun v hv=>.lets (.Zn (decide_eq_false (by omega)) (.ret ?_));obtain⟨v1,v2,v3,v4⟩:=hv;have e:aa .add .i64 (aa .add .i64 (aa .add .i64 (aa .mul .i64 y.1 16777216) (aa .mul .i64 z.1 65536)) (aa .mul .i64 u.1 256)) v.1=y.1*16777216+z.1*65536+u.1*256+v.1:=by rw[iY (a:=y.1) (by omega) (by omega),iY (a:=z.1) (by omega) (by omega),iY (a:=u.1) (by omega) (by omega),bU (a:=y.1*16777216) (by omega) (by omega),bU (a:=y.1*16777216+z.1*65536) (by omega) (by omega),bU (a:=y.1*16777216+z.1*65536+u.1*256) (by omega) (by omega)]
  have:=mod (y.1*16777216+z.1*65536+u.1*256+v.1) (by omega) (by omega);rw[e];exact⟨this.1,this.2,v3,v4⟩
theorem Yv(b:List Int)(hb:b.length<=1048576)(i h n:Int)(hi:0<=i)(hn:n<=1073741824):Yl (OV b i h n) fun y=>y.2.1=b/\0<=y.2.2.1:=by unfold OV;exact(K6 b hb i h n hi hn).bind fun y hy=>.ret ⟨hy.2.2.1,hy.2.2.2⟩
theorem M4(b:List Int)(hb:b.length<=1048576)(i h:Int)(l:List Int)(hi:0<=i)(h1:1<=l.length)(h2:l.length<=1048576):Yl (Kh b i h l) fun y=>y.1∈l/\y.2.1=b/\0<=y.2.2.1:=by
 unfold Kh;refine(K6 b hb i h (ai l) hi (by unfold ai;omega)).bind fun y hy=>?_;obtain⟨y1,y2,y3,y4⟩:=hy;have y2:y.1<=max 0 ((l.length:Int)-1):=y2;refine .guard (Pc y1 (by omega)) (.ret ⟨?_,y3,y4⟩);show l.getD y.1.toNat zI∈l;have hlt:y.1.toNat<l.length:=by omega
 rw[List.getD_eq_getElem?_getD,List.getElem?_eq_getElem hlt];exact List.getElem_mem hlt
theorem adL(b:List Int)(hb:b.length<=1048576):Yl (U0 b) fun y=>y.1=b/\y.2.1=0:=by
 unfold U0;have hl:Yl (R4 (b,()) (aa .add .i64 33183 (ai b),0,())) fun _=>True:=by unfold R4;refine Yl.loop (fun x=>0<=x.2.1) (fun x=>b.length+1-x.2.1.toNat) (fun x hx=>?_) big _ (by show(0:Int)<=0;omega) (aN (by show b.length+1-(0:Int).toNat<_;omega));unfold WA;refine .cond (fun h1=>.cond (fun _=>?_) fun _=>.ret trivial) fun _=>.ret trivial;rw[Yt]at h1;have h1:x.2.1<(b.length:Int):=of_decide_eq_true h1;refine .guard (Pc hx h1) (.ret ?_);have e:aa .add .i64 x.2.1 1=x.2.1+1:=bU (by omega) (by omega);show 0<=aa .add .i64 x.2.1 1/\b.length+1-(aa .add .i64 x.2.1 1).toNat<b.length+1-x.2.1.toNat;rw[e];omega
 refine hl.bind fun q _=>?_;cases q with
 |inl y=>exact .ret ⟨rfl,rfl⟩
 |inr q=>exact nomatch q
end Go.R
namespace Go.R
open Go.Fn
theorem ZX(b:List Int)(hb:b.length<=1048576)(i h most step:Int)(hi:0<=i)(hs:step<=1073741824):Yl (P3 b i h most step) fun y=>y.1.length<=4/\y.2.1=b/\0<=y.2.2.1:=by
 unfold P3;refine(K6 b hb i h step hi hs).bind fun y0 ⟨_,_,a3,a4⟩=>?_;rw[a3];refine(K6 b hb _ _ 5 a4 (by omega)).bind fun y1 ⟨b1,b2,b3,b4⟩=>?_;have b2:y1.1<=4:=b2;rw[b3];have hl:Yl (QM (most,step,()) (b,y1.2.2.1,y1.2.2.2.1,[],y0.1,y1.1,())) fun q=>match q with
   | .inl y=>y.1=b/\0<=y.2.1/\y.2.2.2.1.length<=4
   | .inr (.inl y)=>y.1=b/\0<=y.2.1/\y.2.2.2.1.length<=4
   | .inr (.inr _)=>True:=by
  unfold QM;refine Yl.loop (fun x=>x.1=b/\0<=x.2.1/\(x.2.2.2.1.length:Int)+x.2.2.2.2.2.1<=4/\0<=x.2.2.2.2.2.1) (fun x=>x.2.2.2.2.2.1.toNat) (fun x hx=>?_) big _ ⟨rfl,b4,by show((0:Nat):Int)+y1.1<=4;omega,b1⟩ (aN (by show y1.1.toNat<_;omega));obtain⟨x1,x2,x3,x4⟩:=hx;unfold Vu;rw[x1];refine .cond (fun h1=>?_) fun _=>.ret ⟨rfl,x2,by show x.2.2.2.1.length<=4;omega⟩;rw[ab9]at h1;have h1:=of_decide_eq_true h1;refine(K6 b hb _ _ step x2 hs).bind fun z ⟨_,_,c3,c4⟩=>?_;rw[c3];refine .cond (fun _=>.ret ⟨rfl,c4,by show x.2.2.2.1.length<=4;omega⟩) fun _=>?_;refine .guard (KP (by simp;omega)) ((K6 b hb _ _ step c4 hs).bind fun u ⟨_,_,d3,d4⟩=>.ret ?_);have e:aa .sub .i64 x.2.2.2.2.2.1 1=x.2.2.2.2.2.1-1:=bM (by omega) (by omega);refine⟨⟨d3,d4,?_,?_⟩,?_⟩
  ·show((List.append x.2.2.2.1 (List.append [] _)).length:Int)+aa .sub .i64 x.2.2.2.2.2.1 1<=4;rw[e];simp;omega
  ·show 0<=aa .sub .i64 x.2.2.2.2.2.1 1;rw[e];omega
  ·show(aa .sub .i64 x.2.2.2.2.2.1 1).toNat<x.2.2.2.2.2.1.toNat;rw[e];omega
 refine hl.bind fun q hq=>?_;match q,hq with
 | .inl y,hq=>exact .ret ⟨hq.2.2,hq.1,hq.2.1⟩
 | .inr (.inl y),hq=>exact .ret ⟨hq.2.2,hq.1,hq.2.1⟩
 | .inr (.inr q),_=>exact nomatch q
theorem acL(b:List Int)(hb:b.length<=1048576)(i h:Int)(hi:0<=i):Yl (Tt b i h) fun y=>y.1.length<=4/\y.2.1.length<=4/\y.2.2.1=b/\0<=y.2.2.2.1:=by
 unfold Tt;refine(ZX b hb i h 168 40 hi (by omega)).bind fun y0 ⟨a1,a3,a4⟩=>?_;rw[a3];refine(K6 b hb _ _ 6 a4 (by omega)).bind fun y1 ⟨_,_,b3,b4⟩=>?_;rw[b3];have nothing:y0.1.length<=4/\([]:List (Int×Int)).length<=4/\b=b/\0<=y1.2.2.1:=⟨a1,by simp,rfl,b4⟩
 have closed:Yl ((P3 b y1.2.2.1 y1.2.2.2.1 20000 150).bind fun y2=>some (y0.1,y2.1,y2.2.1,y2.2.2.1,y2.2.2.2.1,())) fun y=>y.1.length<=4/\y.2.1.length<=4/\y.2.2.1=b/\0<=y.2.2.2.1:=(ZX b hb _ _ 20000 150 b4 (by omega)).bind fun y2 ⟨c1,c3,c4⟩=>.ret ⟨a1,c1,c3,c4⟩;exact .cond (fun _=>.ret ⟨by simp,by simp,rfl,b4⟩) fun _=>.cond (fun _=>.cond (fun _=>closed) fun _=>.cond (fun _=>.ret ⟨by simp,by simp,rfl,b4⟩) fun _=>.ret nothing) fun _=>.cond (fun _=>closed) fun _=>.cond (fun _=>.ret ⟨by simp,by simp,rfl,b4⟩) fun _=>.ret nothing
theorem Tp{α:Type}(l:List α)(i:Int)(x:α):(aC l i x).length=l.length:=List.length_set
theorem Z5(b:List Int)(hb:b.length<=1048576)(i h:Int)(hi:0<=i):Yl (Q8 b i h) fun y=>y.1.length<=30/\y.2.1.length<=30/\y.2.2.1=b/\0<=y.2.2.2.1:=by
 unfold Q8;refine(acL b hb i h hi).bind fun y0 ⟨a1',a2',a3,a4⟩=>?_;have a1:y0.1.length<=30:=by omega
 have a2:y0.2.1.length<=30:=by omega
 refine .cond (fun _=>.ret ⟨a1,a2,a3,a4⟩) fun h0=>?_;have hne:1<=y0.1.length:=by
  have:decide ((y0.1.length:Int)=0)=false:=by have h0:((y0.1.length:Int)==0)=false:=h0;simpa using h0
  have:=of_decide_eq_false this;omega
 rw[a3];refine(K6 b hb _ _ (ai y0.1) a4 (by unfold ai;omega)).bind fun y1 ⟨b1,b2,b3,b4⟩=>?_;have b2:y1.1<=max 0 ((y0.1.length:Int)-1):=b2;have hin:ah y0.1 y1.1=true:=Pc b1 (by omega);rw[b3];refine(K6 b hb _ _ 12 b4 (by omega)).bind fun y2 ⟨_,_,c3,c4⟩=>?_;rw[c3];refine .cond (fun _=>.guard hin ((M4 b hb _ _ _ c4 (by simp) (by simp)).bind fun y3 ⟨_,d2,d3⟩=>.guard hin (.ret ⟨Nat.le_trans (Nat.le_of_eq (Tp _ _ _)) a1,a2,d2,d3⟩))) fun _=>?_;refine .cond (fun _=>(M4 b hb _ _ _ c4 (by simp) (by simp)).bind fun y3 ⟨_,d2,d3⟩=>.guard hin (.ret ⟨Nat.le_trans (Nat.le_of_eq (Tp _ _ _)) a1,a2,d2,d3⟩)) fun _=>?_;refine .cond (fun _=>(K6 b hb _ _ 3 c4 (by omega)).bind fun y3 ⟨_,_,d3,d4⟩=>.guard (KP (by simp;omega)) (.ret ⟨a1,by show(List.append y0.2.1 (List.append [] _)).length<=30;simp;omega,d3,d4⟩)) fun _=>?_;refine .cond (fun _=>?_) fun _=>.ret ⟨a1,a2,rfl,c4⟩;have hl:Yl (PS () (b,y2.2.2.1,y2.2.2.2.1,[],[],y0.1,y0.2.1,())) fun q=>match q with
   | .inl y=>y.1=b/\0<=y.2.1/\y.2.2.2.2.2.1.length<=30/\y.2.2.2.2.2.2.1.length<=30
   | .inr _=>True:=by
  unfold PS;refine Yl.loop (fun x=>x.1=b/\0<=x.2.1/\x.2.2.2.2.2.1.length<=30/\x.2.2.2.2.2.2.1.length<=30) (fun x=>30-x.2.2.2.2.2.2.1.length) (fun x hx=>?_) big _ ⟨rfl,c4,by show y0.1.length<=30;omega,by show y0.2.1.length<=30;omega⟩ (aN (by show 30-y0.2.1.length<_;omega));obtain⟨x1,x2,x3,x4⟩:=hx;unfold Uj;refine .cond (fun h1=>.guard (KP (by simp;omega)) (.ret ⟨⟨x1,x2,x3,?_⟩,?_⟩)) fun _=>.ret ⟨x1,x2,x3,x4⟩
  ·rw[Yt]at h1;have h1:((x.2.2.2.2.2.2.1.length:Nat):Int)<21:=of_decide_eq_true h1;show(List.append x.2.2.2.2.2.2.1 (List.append [] _)).length<=30;simp;omega
  ·rw[Yt]at h1;have h1:((x.2.2.2.2.2.2.1.length:Nat):Int)<21:=of_decide_eq_true h1;show 30-(List.append x.2.2.2.2.2.2.1 (List.append [] _)).length<30-x.2.2.2.2.2.2.1.length;simp;omega
 refine hl.bind fun q hq=>?_;match q,hq with
 | .inl y,hq=>exact .ret ⟨hq.2.2.1,hq.2.2.2,hq.1,hq.2.1⟩
 | .inr q,_=>exact nomatch q
theorem abV(b:List Int)(hb:b.length<=1048576)(i h:Int)(hi:0<=i):Yl (SK b i h) fun y=>y.2.2.2.2.2.2.2.2.1=b/\0<=y.2.2.2.2.2.2.2.2.2.1:=by unfold SK;refine(K6 b hb i h 40 hi (by omega)).bind fun y0 ⟨_,_,a3,a4⟩=>?_;rw[a3];refine(K6 b hb _ _ 30 a4 (by omega)).bind fun y1 ⟨_,_,b3,b4⟩=>?_;rw[b3];refine(K6 b hb _ _ 10 b4 (by omega)).bind fun y2 ⟨_,_,c3,c4⟩=>?_;rw[c3];refine(M4 b hb _ _ _ c4 (by simp) (by simp)).bind fun y3 ⟨_,d3,d4⟩=>?_;rw[d3];refine(M4 b hb _ _ _ d4 (by simp) (by simp)).bind fun y4 ⟨_,e3,e4⟩=>?_;rw[e3];refine(K6 b hb _ _ 30 e4 (by omega)).bind fun y5 ⟨_,_,f3,f4⟩=>?_;rw[f3];refine(M4 b hb _ _ _ f4 (by simp) (by simp)).bind fun y6 ⟨_,g3,g4⟩=>?_;rw[g3];exact(K6 b hb _ _ 5 g4 (by omega)).bind fun y7 ⟨_,_,h3,h4⟩=>.ret ⟨h3,h4⟩
theorem ab4(b:List Int)(hb:b.length<=1048576)(i h:Int)(hi:0<=i):Yl (U3 b i h) fun y=>y.2.2.2.2.2.2.2.2.1=b/\0<=y.2.2.2.2.2.2.2.2.2.1:=by unfold U3;refine(abV b hb i h hi).bind fun y0 ⟨a3,a4⟩=>?_;rw[a3];refine(K6 b hb _ _ 16 a4 (by omega)).bind fun y1 ⟨_,_,b3,b4⟩=>?_;rw[b3];refine .cond (fun _=>(M4 b hb _ _ _ b4 (by simp) (by simp)).bind fun y2 ⟨_,c3,c4⟩=>.ret ⟨c3,c4⟩) fun _=>?_;refine .cond (fun _=>(M4 b hb _ _ _ b4 (by simp) (by simp)).bind fun y2 ⟨_,c3,c4⟩=>.ret ⟨c3,c4⟩) fun _=>?_;refine .cond (fun _=>(M4 b hb _ _ _ b4 (by simp) (by simp)).bind fun y2 ⟨_,c3,c4⟩=>.ret ⟨c3,c4⟩) fun _=>?_;refine .cond (fun _=>(M4 b hb _ _ _ b4 (by simp) (by simp)).bind fun y2 ⟨_,c3,c4⟩=>.ret ⟨c3,c4⟩) fun _=>?_;exact .cond (fun _=>(M4 b hb _ _ _ b4 (by simp) (by simp)).bind fun y2 ⟨_,c3,c4⟩=>.ret ⟨c3,c4⟩) fun _=>.ret ⟨rfl,b4⟩
end Go.R
set_option linter.unusedVariables false
namespace Go.Fn
open Go.R
noncomputable def Ll{α:Type}[Inhabited α](lt:α->α->Bool)(k:Int×Int×Int×Unit)(x:(List α)×Int×Unit):Option (((List α)×Int×Unit)⊕((List α)×Unit⊕Empty)):=(bif (af .gtr x.2.1 k.1)then(bif (ah x.1 x.2.1)then(bif (ah x.1 (aa .sub .i64 x.2.1 (1:Int)))then((some (lt (ae default x.1 x.2.1) (ae default x.1 (aa .sub .i64 x.2.1 (1:Int))),())).bind fun y0=>(bif y0.1 then(bif (ah x.1 (aa .sub .i64 x.2.1 (1:Int)))then(bif (ah x.1 x.2.1)then(bif (ah x.1 x.2.1)then(bif (ah (aC x.1 x.2.1 (ae default x.1 (aa .sub .i64 x.2.1 (1:Int)))) (aa .sub .i64 x.2.1 (1:Int)))then some (.inl ((aC (aC x.1 x.2.1 (ae default x.1 (aa .sub .i64 x.2.1 (1:Int)))) (aa .sub .i64 x.2.1 (1:Int)) (ae default x.1 x.2.1)),(aa .sub .i64 x.2.1 (1:Int)),()))else none)else none)else none)else none)else some (.inr (.inl (x.1,())))))else none)else none)else some (.inr (.inl (x.1,()))))
noncomputable def NM{α:Type}[Inhabited α](lt:α->α->Bool)(k:Int×Int×Int×Unit)(x:(List α)×Int×Unit):Option ((List α)×Unit⊕Empty):=iter (Ll lt k) big x
noncomputable def LO{α:Type}[Inhabited α](lt:α->α->Bool)(k:Int×Int×Unit)(x:(List α)×Int×Unit):Option (((List α)×Int×Unit)⊕((List α)×Unit⊕Empty)):=(bif (af .lss x.2.1 k.2.1)then((NM lt (k.1,k.2.1,x.2.1,()) (x.1,x.2.1,())).bind fun q0=>(Sum.elim (fun y1=>some (.inl (y1.1,(aa .add .i64 x.2.1 (1:Int)),()))) (fun q2=>(Empty.elim q2)) q0))else some (.inr (.inl (x.1,()))))
noncomputable def NL{α:Type}[Inhabited α](lt:α->α->Bool)(k:Int×Int×Unit)(x:(List α)×Int×Unit):Option ((List α)×Unit⊕Empty):=iter (LO lt k) big x
noncomputable def N6{α:Type}[Inhabited α](lt:α->α->Bool)(a0:(List α))(a1:Int)(a2:Int):Option ((List α)×Unit):=((NL lt (a1,a2,()) (a0,(aa .add .i64 a1 (1:Int)),())).bind fun q0=>(Sum.elim (fun y1=>some (y1.1,())) (fun q2=>(Empty.elim q2)) q0))
noncomputable def LC{α:Type}[Inhabited α](lt:α->α->Bool)(k:Int×Int×Unit)(x:(List α)×Int×Unit):Option (((List α)×Int×Unit)⊕((List α)×Unit⊕((List α)×Unit⊕Empty))):=(bif (af .geq (aa .add .i64 (aa .mul .i64 (2:Int) x.2.1) (1:Int)) k.1)then some (.inr (.inl (x.1,())))else(bif (af .lss (aa .add .i64 (aa .add .i64 (aa .mul .i64 (2:Int) x.2.1) (1:Int)) (1:Int)) k.1)then(bif (ah x.1 (aa .add .i64 k.2.1 (aa .add .i64 (aa .mul .i64 (2:Int) x.2.1) (1:Int))))then(bif (ah x.1 (aa .add .i64 (aa .add .i64 k.2.1 (aa .add .i64 (aa .mul .i64 (2:Int) x.2.1) (1:Int))) (1:Int)))then((some (lt (ae default x.1 (aa .add .i64 k.2.1 (aa .add .i64 (aa .mul .i64 (2:Int) x.2.1) (1:Int)))) (ae default x.1 (aa .add .i64 (aa .add .i64 k.2.1 (aa .add .i64 (aa .mul .i64 (2:Int) x.2.1) (1:Int))) (1:Int))),())).bind fun y0=>(bif y0.1 then(bif (ah x.1 (aa .add .i64 k.2.1 x.2.1))then(bif (ah x.1 (aa .add .i64 k.2.1 (aa .add .i64 (aa .add .i64 (aa .mul .i64 (2:Int) x.2.1) (1:Int)) (1:Int))))then((some (lt (ae default x.1 (aa .add .i64 k.2.1 x.2.1)) (ae default x.1 (aa .add .i64 k.2.1 (aa .add .i64 (aa .add .i64 (aa .mul .i64 (2:Int) x.2.1) (1:Int)) (1:Int)))),())).bind fun y1=>(bif (Bool.not y1.1)then some (.inr (.inr (.inl (x.1,()))))else(bif (ah x.1 (aa .add .i64 k.2.1 (aa .add .i64 (aa .add .i64 (aa .mul .i64 (2:Int) x.2.1) (1:Int)) (1:Int))))then(bif (ah x.1 (aa .add .i64 k.2.1 x.2.1))then(bif (ah x.1 (aa .add .i64 k.2.1 x.2.1))then(lets (aC x.1 (aa .add .i64 k.2.1 x.2.1) (ae default x.1 (aa .add .i64 k.2.1 (aa .add .i64 (aa .add .i64 (aa .mul .i64 (2:Int) x.2.1) (1:Int)) (1:Int))))) fun v2=>(bif (ah v2 (aa .add .i64 k.2.1 (aa .add .i64 (aa .add .i64 (aa .mul .i64 (2:Int) x.2.1) (1:Int)) (1:Int))))then(lets (aC v2 (aa .add .i64 k.2.1 (aa .add .i64 (aa .add .i64 (aa .mul .i64 (2:Int) x.2.1) (1:Int)) (1:Int))) (ae default x.1 (aa .add .i64 k.2.1 x.2.1))) fun v3=>some (.inl (v3,(aa .add .i64 (aa .add .i64 (aa .mul .i64 (2:Int) x.2.1) (1:Int)) (1:Int)),())))else none))else none)else none)else none)))else none)else none)else(bif (ah x.1 (aa .add .i64 k.2.1 x.2.1))then(bif (ah x.1 (aa .add .i64 k.2.1 (aa .add .i64 (aa .mul .i64 (2:Int) x.2.1) (1:Int))))then((some (lt (ae default x.1 (aa .add .i64 k.2.1 x.2.1)) (ae default x.1 (aa .add .i64 k.2.1 (aa .add .i64 (aa .mul .i64 (2:Int) x.2.1) (1:Int)))),())).bind fun y1=>(bif (Bool.not y1.1)then some (.inr (.inr (.inl (x.1,()))))else(bif (ah x.1 (aa .add .i64 k.2.1 (aa .add .i64 (aa .mul .i64 (2:Int) x.2.1) (1:Int))))then(bif (ah x.1 (aa .add .i64 k.2.1 x.2.1))then(bif (ah x.1 (aa .add .i64 k.2.1 x.2.1))then(bif (ah (aC x.1 (aa .add .i64 k.2.1 x.2.1) (ae default x.1 (aa .add .i64 k.2.1 (aa .add .i64 (aa .mul .i64 (2:Int) x.2.1) (1:Int))))) (aa .add .i64 k.2.1 (aa .add .i64 (aa .mul .i64 (2:Int) x.2.1) (1:Int))))then(lets (aC (aC x.1 (aa .add .i64 k.2.1 x.2.1) (ae default x.1 (aa .add .i64 k.2.1 (aa .add .i64 (aa .mul .i64 (2:Int) x.2.1) (1:Int))))) (aa .add .i64 k.2.1 (aa .add .i64 (aa .mul .i64 (2:Int) x.2.1) (1:Int))) (ae default x.1 (aa .add .i64 k.2.1 x.2.1))) fun v2=>some (.inl (v2,(aa .add .i64 (aa .mul .i64 (2:Int) x.2.1) (1:Int)),())))else none)else none)else none)else none)))else none)else none)))else none)else none)else(bif (ah x.1 (aa .add .i64 k.2.1 x.2.1))then(bif (ah x.1 (aa .add .i64 k.2.1 (aa .add .i64 (aa .mul .i64 (2:Int) x.2.1) (1:Int))))then((some (lt (ae default x.1 (aa .add .i64 k.2.1 x.2.1)) (ae default x.1 (aa .add .i64 k.2.1 (aa .add .i64 (aa .mul .i64 (2:Int) x.2.1) (1:Int)))),())).bind fun y0=>(bif (Bool.not y0.1)then some (.inr (.inr (.inl (x.1,()))))else(bif (ah x.1 (aa .add .i64 k.2.1 (aa .add .i64 (aa .mul .i64 (2:Int) x.2.1) (1:Int))))then(bif (ah x.1 (aa .add .i64 k.2.1 x.2.1))then(bif (ah x.1 (aa .add .i64 k.2.1 x.2.1))then(bif (ah (aC x.1 (aa .add .i64 k.2.1 x.2.1) (ae default x.1 (aa .add .i64 k.2.1 (aa .add .i64 (aa .mul .i64 (2:Int) x.2.1) (1:Int))))) (aa .add .i64 k.2.1 (aa .add .i64 (aa .mul .i64 (2:Int) x.2.1) (1:Int))))then(lets (aC (aC x.1 (aa .add .i64 k.2.1 x.2.1) (ae default x.1 (aa .add .i64 k.2.1 (aa .add .i64 (aa .mul .i64 (2:Int) x.2.1) (1:Int))))) (aa .add .i64 k.2.1 (aa .add .i64 (aa .mul .i64 (2:Int) x.2.1) (1:Int))) (ae default x.1 (aa .add .i64 k.2.1 x.2.1))) fun v1=>some (.inl (v1,(aa .add .i64 (aa .mul .i64 (2:Int) x.2.1) (1:Int)),())))else none)else none)else none)else none)))else none)else none)))
noncomputable def PY{α:Type}[Inhabited α](lt:α->α->Bool)(k:Int×Int×Unit)(x:(List α)×Int×Unit):Option ((List α)×Unit⊕((List α)×Unit⊕Empty)):=iter (LC lt k) big x
noncomputable def Qi{α:Type}[Inhabited α](lt:α->α->Bool)(a0:(List α))(a1:Int)(a2:Int)(a3:Int):Option ((List α)×Unit):=((PY lt (a2,a3,()) (a0,a1,())).bind fun q0=>(Sum.elim (fun y1=>some (y1.1,())) (fun q2=>(Sum.elim (fun y3=>some (y3.1,())) (fun q4=>(Empty.elim q4)) q2)) q0))
noncomputable def Oi{α:Type}[Inhabited α](lt:α->α->Bool)(k:Int×Int×Int×Unit)(x:(List α)×Int×Unit):Option (((List α)×Int×Unit)⊕((List α)×Unit⊕Empty)):=(bif (af .geq x.2.1 (0:Int))then((Qi lt x.1 x.2.1 k.2.2.1 k.1).bind fun y0=>some (.inl (y0.1,(aa .sub .i64 x.2.1 (1:Int)),())))else some (.inr (.inl (x.1,()))))
noncomputable def PW{α:Type}[Inhabited α](lt:α->α->Bool)(k:Int×Int×Int×Unit)(x:(List α)×Int×Unit):Option ((List α)×Unit⊕Empty):=iter (Oi lt k) big x
noncomputable def Oj{α:Type}[Inhabited α](lt:α->α->Bool)(k:Int×Int×Unit)(x:(List α)×Int×Unit):Option (((List α)×Int×Unit)⊕((List α)×Unit⊕Empty)):=(bif (af .geq x.2.1 (0:Int))then(bif (ah x.1 (aa .add .i64 k.1 x.2.1))then(bif (ah x.1 k.1)then(bif (ah x.1 k.1)then(bif (ah (aC x.1 k.1 (ae default x.1 (aa .add .i64 k.1 x.2.1))) (aa .add .i64 k.1 x.2.1))then((Qi lt (aC (aC x.1 k.1 (ae default x.1 (aa .add .i64 k.1 x.2.1))) (aa .add .i64 k.1 x.2.1) (ae default x.1 k.1)) k.2.1 x.2.1 k.1).bind fun y0=>some (.inl (y0.1,(aa .sub .i64 x.2.1 (1:Int)),())))else none)else none)else none)else none)else some (.inr (.inl (x.1,()))))
noncomputable def PX{α:Type}[Inhabited α](lt:α->α->Bool)(k:Int×Int×Unit)(x:(List α)×Int×Unit):Option ((List α)×Unit⊕Empty):=iter (Oj lt k) big x
noncomputable def Rd{α:Type}[Inhabited α](lt:α->α->Bool)(a0:(List α))(a1:Int)(a2:Int):Option ((List α)×Unit):=(bif (az (2:Int))then none else((PW lt (a1,(0:Int),(aa .sub .i64 a2 a1),()) (a0,(aa .quo .i64 (aa .sub .i64 (aa .sub .i64 a2 a1) (1:Int)) (2:Int)),())).bind fun q0=>(Sum.elim (fun y1=>((PX lt (a1,(0:Int),()) (y1.1,(aa .sub .i64 (aa .sub .i64 a2 a1) (1:Int)),())).bind fun q2=>(Sum.elim (fun y3=>some (y3.1,())) (fun q4=>(Empty.elim q4)) q2))) (fun q2=>(Empty.elim q2)) q0)))
noncomputable def Lj{α:Type}[Inhabited α](lt:α->α->Bool)(k:Int×Int×Int×Unit)(x:(List α)×Int×Int×Unit):Option (((List α)×Int×Int×Unit)⊕((List α)×Unit⊕Empty)):=(bif (az (4:Int))then none else(bif (af .leq x.2.2.1 (aa .add .i64 (aa .add .i64 k.1 (aa .mul .i64 (aa .quo .i64 k.2.1 (4:Int)) (2:Int))) (1:Int)))then((__slices_xorshift__Next x.2.1).bind fun y0=>(bif (af .geq (aq .i64 (aa .and .u64 y0.1 (aa .sub .u64 k.2.2.1 (1:Int)))) k.2.1)then(bif (ah x.1 (aa .add .i64 k.1 (aa .sub .i64 (aq .i64 (aa .and .u64 y0.1 (aa .sub .u64 k.2.2.1 (1:Int)))) k.2.1)))then(bif (ah x.1 x.2.2.1)then(bif (ah x.1 x.2.2.1)then(bif (ah (aC x.1 x.2.2.1 (ae default x.1 (aa .add .i64 k.1 (aa .sub .i64 (aq .i64 (aa .and .u64 y0.1 (aa .sub .u64 k.2.2.1 (1:Int)))) k.2.1)))) (aa .add .i64 k.1 (aa .sub .i64 (aq .i64 (aa .and .u64 y0.1 (aa .sub .u64 k.2.2.1 (1:Int)))) k.2.1)))then(lets (aC (aC x.1 x.2.2.1 (ae default x.1 (aa .add .i64 k.1 (aa .sub .i64 (aq .i64 (aa .and .u64 y0.1 (aa .sub .u64 k.2.2.1 (1:Int)))) k.2.1)))) (aa .add .i64 k.1 (aa .sub .i64 (aq .i64 (aa .and .u64 y0.1 (aa .sub .u64 k.2.2.1 (1:Int)))) k.2.1)) (ae default x.1 x.2.2.1)) fun v1=>some (.inl (v1,y0.2.1,(aa .add .i64 x.2.2.1 (1:Int)),())))else none)else none)else none)else none)else(bif (ah x.1 (aa .add .i64 k.1 (aq .i64 (aa .and .u64 y0.1 (aa .sub .u64 k.2.2.1 (1:Int))))))then(bif (ah x.1 x.2.2.1)then(bif (ah x.1 x.2.2.1)then(bif (ah (aC x.1 x.2.2.1 (ae default x.1 (aa .add .i64 k.1 (aq .i64 (aa .and .u64 y0.1 (aa .sub .u64 k.2.2.1 (1:Int))))))) (aa .add .i64 k.1 (aq .i64 (aa .and .u64 y0.1 (aa .sub .u64 k.2.2.1 (1:Int))))))then(lets (aC (aC x.1 x.2.2.1 (ae default x.1 (aa .add .i64 k.1 (aq .i64 (aa .and .u64 y0.1 (aa .sub .u64 k.2.2.1 (1:Int))))))) (aa .add .i64 k.1 (aq .i64 (aa .and .u64 y0.1 (aa .sub .u64 k.2.2.1 (1:Int))))) (ae default x.1 x.2.2.1)) fun v1=>some (.inl (v1,y0.2.1,(aa .add .i64 x.2.2.1 (1:Int)),())))else none)else none)else none)else none)))else some (.inr (.inl (x.1,())))))
noncomputable def NK{α:Type}[Inhabited α](lt:α->α->Bool)(k:Int×Int×Int×Unit)(x:(List α)×Int×Int×Unit):Option ((List α)×Unit⊕Empty):=iter (Lj lt k) big x
noncomputable def N5{α:Type}[Inhabited α](lt:α->α->Bool)(a0:(List α))(a1:Int)(a2:Int):Option ((List α)×Unit):=(bif (af .geq (aa .sub .i64 a2 a1) (8:Int))then((L2 (aa .sub .i64 a2 a1)).bind fun y0=>(bif (az (4:Int))then none else((NK lt (a1,(aa .sub .i64 a2 a1),y0.1,()) (a0,(aq .u64 (aa .sub .i64 a2 a1)),(aa .sub .i64 (aa .add .i64 a1 (aa .mul .i64 (aa .quo .i64 (aa .sub .i64 a2 a1) (4:Int)) (2:Int))) (1:Int)),())).bind fun q1=>(Sum.elim (fun y2=>some (y2.1,())) (fun q3=>(Empty.elim q3)) q1))))else some (a0,()))
noncomputable def QX{α:Type}[Inhabited α](lt:α->α->Bool)(a0:(List α))(a1:Int)(a2:Int)(a3:Int):Option (Int×Int×Int×Unit):=(bif (ah a0 a2)then(bif (ah a0 a1)then((some (lt (ae default a0 a2) (ae default a0 a1),())).bind fun y0=>(bif y0.1 then some (a2,a1,(aa .add .i64 a3 (1:Int)),())else some (a1,a2,a3,())))else none)else none)
noncomputable def RA{α:Type}[Inhabited α](lt:α->α->Bool)(a0:(List α))(a1:Int)(a2:Int)(a3:Int)(a4:Int):Option (Int×Int×Unit):=((QX lt a0 a1 a2 a4).bind fun y0=>((QX lt a0 y0.2.1 a3 y0.2.2.1).bind fun y1=>((QX lt a0 y0.1 y1.1 y1.2.2.1).bind fun y2=>some (y2.2.1,y2.2.2.1,()))))
noncomputable def Mp{α:Type}[Inhabited α](lt:α->α->Bool)(a0:(List α))(a1:Int)(a2:Int):Option (Int×Int×Unit):=((RA lt a0 (aa .sub .i64 a1 (1:Int)) a1 (aa .add .i64 a1 (1:Int)) a2).bind fun y0=>some (y0.1,y0.2.1,()))
noncomputable def Oh{α:Type}[Inhabited α](lt:α->α->Bool)(a0:(List α))(a1:Int)(a2:Int):Option (Int×Int×Unit):=(bif (az (4:Int))then none else(bif (az (4:Int))then none else(bif (az (4:Int))then none else(bif (af .geq (aa .sub .i64 a2 a1) (8:Int))then(bif (af .geq (aa .sub .i64 a2 a1) (50:Int))then((Mp lt a0 (aa .add .i64 a1 (aa .mul .i64 (aa .quo .i64 (aa .sub .i64 a2 a1) (4:Int)) (1:Int))) (0:Int)).bind fun y0=>((Mp lt a0 (aa .add .i64 a1 (aa .mul .i64 (aa .quo .i64 (aa .sub .i64 a2 a1) (4:Int)) (2:Int))) y0.2.1).bind fun y1=>((Mp lt a0 (aa .add .i64 a1 (aa .mul .i64 (aa .quo .i64 (aa .sub .i64 a2 a1) (4:Int)) (3:Int))) y1.2.1).bind fun y2=>((RA lt a0 y0.1 y1.1 y2.1 y2.2.1).bind fun y3=>(bif (af .eql y3.2.1 (0:Int))then some (y3.1,(1:Int),())else(bif (af .eql y3.2.1 (12:Int))then some (y3.1,(2:Int),())else some (y3.1,(0:Int),())))))))else((RA lt a0 (aa .add .i64 a1 (aa .mul .i64 (aa .quo .i64 (aa .sub .i64 a2 a1) (4:Int)) (1:Int))) (aa .add .i64 a1 (aa .mul .i64 (aa .quo .i64 (aa .sub .i64 a2 a1) (4:Int)) (2:Int))) (aa .add .i64 a1 (aa .mul .i64 (aa .quo .i64 (aa .sub .i64 a2 a1) (4:Int)) (3:Int))) (0:Int)).bind fun y0=>(bif (af .eql y0.2.1 (0:Int))then some (y0.1,(1:Int),())else(bif (af .eql y0.2.1 (12:Int))then some (y0.1,(2:Int),())else some (y0.1,(0:Int),())))))else(bif (af .eql (0:Int) (0:Int))then some ((aa .add .i64 a1 (aa .mul .i64 (aa .quo .i64 (aa .sub .i64 a2 a1) (4:Int)) (2:Int))),(1:Int),())else(bif (af .eql (0:Int) (12:Int))then some ((aa .add .i64 a1 (aa .mul .i64 (aa .quo .i64 (aa .sub .i64 a2 a1) (4:Int)) (2:Int))),(2:Int),())else some ((aa .add .i64 a1 (aa .mul .i64 (aa .quo .i64 (aa .sub .i64 a2 a1) (4:Int)) (2:Int))),(0:Int),())))))))
noncomputable def L5{α:Type}[Inhabited α](lt:α->α->Bool)(k:Unit)(x:(List α)×Int×Int×Unit):Option (((List α)×Int×Int×Unit)⊕((List α)×Unit⊕Empty)):=(bif (af .lss x.2.1 x.2.2.1)then(bif (ah x.1 x.2.2.1)then(bif (ah x.1 x.2.1)then(bif (ah x.1 x.2.1)then(bif (ah (aC x.1 x.2.1 (ae default x.1 x.2.2.1)) x.2.2.1)then some (.inl ((aC (aC x.1 x.2.1 (ae default x.1 x.2.2.1)) x.2.2.1 (ae default x.1 x.2.1)),(aa .add .i64 x.2.1 (1:Int)),(aa .sub .i64 x.2.2.1 (1:Int)),()))else none)else none)else none)else none)else some (.inr (.inl (x.1,()))))
noncomputable def N3{α:Type}[Inhabited α](lt:α->α->Bool)(k:Unit)(x:(List α)×Int×Int×Unit):Option ((List α)×Unit⊕Empty):=iter (L5 lt k) big x
noncomputable def NV{α:Type}[Inhabited α](lt:α->α->Bool)(a0:(List α))(a1:Int)(a2:Int):Option ((List α)×Unit):=((N3 lt (()) (a0,a1,(aa .sub .i64 a2 (1:Int)),())).bind fun q0=>(Sum.elim (fun y1=>some (y1.1,())) (fun q2=>(Empty.elim q2)) q0))
noncomputable def J9{α:Type}[Inhabited α](lt:α->α->Bool)(k:Int×Int×Int×Unit)(x:(List α)×Int×Unit):Option (((List α)×Int×Unit)⊕((List α)×Int×Unit⊕Empty)):=(bif (af .lss x.2.1 k.2.1)then(bif (ah x.1 x.2.1)then(bif (ah x.1 (aa .sub .i64 x.2.1 (1:Int)))then((some (lt (ae default x.1 x.2.1) (ae default x.1 (aa .sub .i64 x.2.1 (1:Int))),())).bind fun y0=>(bif (Bool.not y0.1)then some (.inl (x.1,(aa .add .i64 x.2.1 (1:Int)),()))else some (.inr (.inl (x.1,x.2.1,())))))else none)else none)else some (.inr (.inl (x.1,x.2.1,()))))
noncomputable def LJ{α:Type}[Inhabited α](lt:α->α->Bool)(k:Int×Int×Int×Unit)(x:(List α)×Int×Unit):Option ((List α)×Int×Unit⊕Empty):=iter (J9 lt k) big x
noncomputable def KQ{α:Type}[Inhabited α](lt:α->α->Bool)(k:Int×Int×Int×Int×Unit)(x:(List α)×Int×Unit):Option (((List α)×Int×Unit)⊕((List α)×Unit⊕Empty)):=(bif (af .geq x.2.1 (1:Int))then(bif (ah x.1 x.2.1)then(bif (ah x.1 (aa .sub .i64 x.2.1 (1:Int)))then((some (lt (ae default x.1 x.2.1) (ae default x.1 (aa .sub .i64 x.2.1 (1:Int))),())).bind fun y0=>(bif (Bool.not y0.1)then some (.inr (.inl (x.1,())))else(bif (ah x.1 (aa .sub .i64 x.2.1 (1:Int)))then(bif (ah x.1 x.2.1)then(bif (ah x.1 x.2.1)then(bif (ah (aC x.1 x.2.1 (ae default x.1 (aa .sub .i64 x.2.1 (1:Int)))) (aa .sub .i64 x.2.1 (1:Int)))then some (.inl ((aC (aC x.1 x.2.1 (ae default x.1 (aa .sub .i64 x.2.1 (1:Int)))) (aa .sub .i64 x.2.1 (1:Int)) (ae default x.1 x.2.1)),(aa .sub .i64 x.2.1 (1:Int)),()))else none)else none)else none)else none)))else none)else none)else some (.inr (.inl (x.1,()))))
noncomputable def LK{α:Type}[Inhabited α](lt:α->α->Bool)(k:Int×Int×Int×Int×Unit)(x:(List α)×Int×Unit):Option ((List α)×Unit⊕Empty):=iter (KQ lt k) big x
noncomputable def Ka{α:Type}[Inhabited α](lt:α->α->Bool)(k:Int×Int×Int×Int×Unit)(x:(List α)×Int×Unit):Option (((List α)×Int×Unit)⊕((List α)×Unit⊕Empty)):=(bif (af .lss x.2.1 k.2.1)then(bif (ah x.1 x.2.1)then(bif (ah x.1 (aa .sub .i64 x.2.1 (1:Int)))then((some (lt (ae default x.1 x.2.1) (ae default x.1 (aa .sub .i64 x.2.1 (1:Int))),())).bind fun y0=>(bif (Bool.not y0.1)then some (.inr (.inl (x.1,())))else(bif (ah x.1 (aa .sub .i64 x.2.1 (1:Int)))then(bif (ah x.1 x.2.1)then(bif (ah x.1 x.2.1)then(bif (ah (aC x.1 x.2.1 (ae default x.1 (aa .sub .i64 x.2.1 (1:Int)))) (aa .sub .i64 x.2.1 (1:Int)))then some (.inl ((aC (aC x.1 x.2.1 (ae default x.1 (aa .sub .i64 x.2.1 (1:Int)))) (aa .sub .i64 x.2.1 (1:Int)) (ae default x.1 x.2.1)),(aa .add .i64 x.2.1 (1:Int)),()))else none)else none)else none)else none)))else none)else none)else some (.inr (.inl (x.1,()))))
noncomputable def K7{α:Type}[Inhabited α](lt:α->α->Bool)(k:Int×Int×Int×Int×Unit)(x:(List α)×Int×Unit):Option ((List α)×Unit⊕Empty):=iter (Ka lt k) big x
noncomputable def JJ{α:Type}[Inhabited α](lt:α->α->Bool)(k:Int×Int×Unit)(x:(List α)×Int×Int×Unit):Option (((List α)×Int×Int×Unit)⊕((List α)×Bool×Unit⊕((List α)×Unit⊕Empty))):=(bif (af .lss x.2.2.1 (5:Int))then((LJ lt (k.1,k.2.1,x.2.2.1,()) (x.1,x.2.1,())).bind fun q0=>(Sum.elim (fun y1=>(bif (af .eql y1.2.1 k.2.1)then some (.inr (.inl (y1.1,true,())))else(bif (af .lss (aa .sub .i64 k.2.1 k.1) (50:Int))then some (.inr (.inl (y1.1,false,())))else(bif (ah y1.1 (aa .sub .i64 y1.2.1 (1:Int)))then(bif (ah y1.1 y1.2.1)then(bif (ah y1.1 y1.2.1)then(bif (ah (aC y1.1 y1.2.1 (ae default y1.1 (aa .sub .i64 y1.2.1 (1:Int)))) (aa .sub .i64 y1.2.1 (1:Int)))then(bif (af .geq (aa .sub .i64 y1.2.1 k.1) (2:Int))then((LK lt (k.1,k.2.1,y1.2.1,x.2.2.1,()) ((aC (aC y1.1 y1.2.1 (ae default y1.1 (aa .sub .i64 y1.2.1 (1:Int)))) (aa .sub .i64 y1.2.1 (1:Int)) (ae default y1.1 y1.2.1)),(aa .sub .i64 y1.2.1 (1:Int)),())).bind fun q2=>(Sum.elim (fun y3=>(bif (af .geq (aa .sub .i64 k.2.1 y1.2.1) (2:Int))then((K7 lt (k.1,k.2.1,y1.2.1,x.2.2.1,()) (y3.1,(aa .add .i64 y1.2.1 (1:Int)),())).bind fun q4=>(Sum.elim (fun y5=>some (.inl (y5.1,y1.2.1,(aa .add .i64 x.2.2.1 (1:Int)),()))) (fun q6=>(Empty.elim q6)) q4))else some (.inl (y3.1,y1.2.1,(aa .add .i64 x.2.2.1 (1:Int)),())))) (fun q4=>(Empty.elim q4)) q2))else(bif (af .geq (aa .sub .i64 k.2.1 y1.2.1) (2:Int))then((K7 lt (k.1,k.2.1,y1.2.1,x.2.2.1,()) ((aC (aC y1.1 y1.2.1 (ae default y1.1 (aa .sub .i64 y1.2.1 (1:Int)))) (aa .sub .i64 y1.2.1 (1:Int)) (ae default y1.1 y1.2.1)),(aa .add .i64 y1.2.1 (1:Int)),())).bind fun q2=>(Sum.elim (fun y3=>some (.inl (y3.1,y1.2.1,(aa .add .i64 x.2.2.1 (1:Int)),()))) (fun q4=>(Empty.elim q4)) q2))else some (.inl ((aC (aC y1.1 y1.2.1 (ae default y1.1 (aa .sub .i64 y1.2.1 (1:Int)))) (aa .sub .i64 y1.2.1 (1:Int)) (ae default y1.1 y1.2.1)),y1.2.1,(aa .add .i64 x.2.2.1 (1:Int)),()))))else none)else none)else none)else none)))) (fun q2=>(Empty.elim q2)) q0))else some (.inr (.inr (.inl (x.1,())))))
noncomputable def LI{α:Type}[Inhabited α](lt:α->α->Bool)(k:Int×Int×Unit)(x:(List α)×Int×Int×Unit):Option ((List α)×Bool×Unit⊕((List α)×Unit⊕Empty)):=iter (JJ lt k) big x
noncomputable def Kk{α:Type}[Inhabited α](lt:α->α->Bool)(a0:(List α))(a1:Int)(a2:Int):Option (Bool×(List α)×Unit):=((LI lt (a1,a2,()) (a0,(aa .add .i64 a1 (1:Int)),(0:Int),())).bind fun q0=>(Sum.elim (fun y1=>some (y1.2.1,y1.1,())) (fun q2=>(Sum.elim (fun y3=>some (false,y3.1,())) (fun q4=>(Empty.elim q4)) q2)) q0))
noncomputable def Mv{α:Type}[Inhabited α](lt:α->α->Bool)(k:Int×Int×Unit)(x:(List α)×Int×Unit):Option (((List α)×Int×Unit)⊕((List α)×Int×Unit⊕Empty)):=(bif (af .leq x.2.1 k.2.1)then(bif (ah x.1 k.1)then(bif (ah x.1 x.2.1)then((some (lt (ae default x.1 k.1) (ae default x.1 x.2.1),())).bind fun y0=>(bif (Bool.not y0.1)then some (.inl (x.1,(aa .add .i64 x.2.1 (1:Int)),()))else some (.inr (.inl (x.1,x.2.1,())))))else none)else none)else some (.inr (.inl (x.1,x.2.1,()))))
noncomputable def Nw{α:Type}[Inhabited α](lt:α->α->Bool)(k:Int×Int×Unit)(x:(List α)×Int×Unit):Option ((List α)×Int×Unit⊕Empty):=iter (Mv lt k) big x
noncomputable def Mw{α:Type}[Inhabited α](lt:α->α->Bool)(k:Int×Int×Unit)(x:(List α)×Int×Unit):Option (((List α)×Int×Unit)⊕((List α)×Int×Unit⊕Empty)):=(bif (af .leq k.2.1 x.2.1)then(bif (ah x.1 k.1)then(bif (ah x.1 x.2.1)then((some (lt (ae default x.1 k.1) (ae default x.1 x.2.1),())).bind fun y0=>(bif y0.1 then some (.inl (x.1,(aa .sub .i64 x.2.1 (1:Int)),()))else some (.inr (.inl (x.1,x.2.1,())))))else none)else none)else some (.inr (.inl (x.1,x.2.1,()))))
noncomputable def Nx{α:Type}[Inhabited α](lt:α->α->Bool)(k:Int×Int×Unit)(x:(List α)×Int×Unit):Option ((List α)×Int×Unit⊕Empty):=iter (Mw lt k) big x
noncomputable def Ls{α:Type}[Inhabited α](lt:α->α->Bool)(k:Int×Unit)(x:(List α)×Int×Int×Unit):Option (((List α)×Int×Int×Unit)⊕((List α)×Int×Unit⊕Empty)):=((Nw lt (k.1,x.2.2.1,()) (x.1,x.2.1,())).bind fun q0=>(Sum.elim (fun y1=>((Nx lt (k.1,y1.2.1,()) (y1.1,x.2.2.1,())).bind fun q2=>(Sum.elim (fun y3=>(bif (af .gtr y1.2.1 y3.2.1)then some (.inr (.inl (y3.1,y1.2.1,())))else(bif (ah y3.1 y3.2.1)then(bif (ah y3.1 y1.2.1)then(bif (ah y3.1 y1.2.1)then(bif (ah (aC y3.1 y1.2.1 (ae default y3.1 y3.2.1)) y3.2.1)then some (.inl ((aC (aC y3.1 y1.2.1 (ae default y3.1 y3.2.1)) y3.2.1 (ae default y3.1 y1.2.1)),(aa .add .i64 y1.2.1 (1:Int)),(aa .sub .i64 y3.2.1 (1:Int)),()))else none)else none)else none)else none))) (fun q4=>(Empty.elim q4)) q2))) (fun q2=>(Empty.elim q2)) q0))
noncomputable def Nv{α:Type}[Inhabited α](lt:α->α->Bool)(k:Int×Unit)(x:(List α)×Int×Int×Unit):Option ((List α)×Int×Unit⊕Empty):=iter (Ls lt k) big x
noncomputable def Jq{α:Type}[Inhabited α](lt:α->α->Bool)(a0:(List α))(a1:Int)(a2:Int)(a3:Int):Option (Int×(List α)×Unit):=(bif (ah a0 a3)then(bif (ah a0 a1)then(bif (ah a0 a1)then(bif (ah (aC a0 a1 (ae default a0 a3)) a3)then((Nv lt (a1,()) ((aC (aC a0 a1 (ae default a0 a3)) a3 (ae default a0 a1)),(aa .add .i64 a1 (1:Int)),(aa .sub .i64 a2 (1:Int)),())).bind fun q0=>(Sum.elim (fun y1=>some (y1.2.1,y1.1,())) (fun q2=>(Empty.elim q2)) q0))else none)else none)else none)else none)
noncomputable def Ot{α:Type}[Inhabited α](lt:α->α->Bool)(k:Int×Int×Unit)(x:(List α)×Int×Unit):Option (((List α)×Int×Unit)⊕((List α)×Int×Unit⊕Empty)):=(bif (af .leq x.2.1 k.2.1)then(bif (ah x.1 x.2.1)then(bif (ah x.1 k.1)then((some (lt (ae default x.1 x.2.1) (ae default x.1 k.1),())).bind fun y0=>(bif y0.1 then some (.inl (x.1,(aa .add .i64 x.2.1 (1:Int)),()))else some (.inr (.inl (x.1,x.2.1,())))))else none)else none)else some (.inr (.inl (x.1,x.2.1,()))))
noncomputable def Pk{α:Type}[Inhabited α](lt:α->α->Bool)(k:Int×Int×Unit)(x:(List α)×Int×Unit):Option ((List α)×Int×Unit⊕Empty):=iter (Ot lt k) big x
noncomputable def Ou{α:Type}[Inhabited α](lt:α->α->Bool)(k:Int×Int×Unit)(x:(List α)×Int×Unit):Option (((List α)×Int×Unit)⊕((List α)×Int×Unit⊕Empty)):=(bif (af .leq k.2.1 x.2.1)then(bif (ah x.1 x.2.1)then(bif (ah x.1 k.1)then((some (lt (ae default x.1 x.2.1) (ae default x.1 k.1),())).bind fun y0=>(bif (Bool.not y0.1)then some (.inl (x.1,(aa .sub .i64 x.2.1 (1:Int)),()))else some (.inr (.inl (x.1,x.2.1,())))))else none)else none)else some (.inr (.inl (x.1,x.2.1,()))))
noncomputable def Pm{α:Type}[Inhabited α](lt:α->α->Bool)(k:Int×Int×Unit)(x:(List α)×Int×Unit):Option ((List α)×Int×Unit⊕Empty):=iter (Ou lt k) big x
noncomputable def Qg{α:Type}[Inhabited α](lt:α->α->Bool)(k:Int×Int×Unit)(x:(List α)×Int×Unit):Option (((List α)×Int×Unit)⊕((List α)×Int×Unit⊕Empty)):=(bif (af .leq x.2.1 k.2.1)then(bif (ah x.1 x.2.1)then(bif (ah x.1 k.1)then((some (lt (ae default x.1 x.2.1) (ae default x.1 k.1),())).bind fun y0=>(bif y0.1 then some (.inl (x.1,(aa .add .i64 x.2.1 (1:Int)),()))else some (.inr (.inl (x.1,x.2.1,())))))else none)else none)else some (.inr (.inl (x.1,x.2.1,()))))
noncomputable def Po{α:Type}[Inhabited α](lt:α->α->Bool)(k:Int×Int×Unit)(x:(List α)×Int×Unit):Option ((List α)×Int×Unit⊕Empty):=iter (Qg lt k) big x
noncomputable def Qh{α:Type}[Inhabited α](lt:α->α->Bool)(k:Int×Int×Unit)(x:(List α)×Int×Unit):Option (((List α)×Int×Unit)⊕((List α)×Int×Unit⊕Empty)):=(bif (af .leq k.2.1 x.2.1)then(bif (ah x.1 x.2.1)then(bif (ah x.1 k.1)then((some (lt (ae default x.1 x.2.1) (ae default x.1 k.1),())).bind fun y0=>(bif (Bool.not y0.1)then some (.inl (x.1,(aa .sub .i64 x.2.1 (1:Int)),()))else some (.inr (.inl (x.1,x.2.1,())))))else none)else none)else some (.inr (.inl (x.1,x.2.1,()))))
noncomputable def Pp{α:Type}[Inhabited α](lt:α->α->Bool)(k:Int×Int×Unit)(x:(List α)×Int×Unit):Option ((List α)×Int×Unit⊕Empty):=iter (Qh lt k) big x
noncomputable def Mh{α:Type}[Inhabited α](lt:α->α->Bool)(k:Int×Unit)(x:(List α)×Int×Int×Unit):Option (((List α)×Int×Int×Unit)⊕((List α)×Int×Unit⊕Empty)):=((Po lt (k.1,x.2.2.1,()) (x.1,x.2.1,())).bind fun q0=>(Sum.elim (fun y1=>((Pp lt (k.1,y1.2.1,()) (y1.1,x.2.2.1,())).bind fun q2=>(Sum.elim (fun y3=>(bif (af .gtr y1.2.1 y3.2.1)then some (.inr (.inl (y3.1,y3.2.1,())))else(bif (ah y3.1 y3.2.1)then(bif (ah y3.1 y1.2.1)then(bif (ah y3.1 y1.2.1)then(bif (ah (aC y3.1 y1.2.1 (ae default y3.1 y3.2.1)) y3.2.1)then some (.inl ((aC (aC y3.1 y1.2.1 (ae default y3.1 y3.2.1)) y3.2.1 (ae default y3.1 y1.2.1)),(aa .add .i64 y1.2.1 (1:Int)),(aa .sub .i64 y3.2.1 (1:Int)),()))else none)else none)else none)else none))) (fun q4=>(Empty.elim q4)) q2))) (fun q2=>(Empty.elim q2)) q0))
noncomputable def Pn{α:Type}[Inhabited α](lt:α->α->Bool)(k:Int×Unit)(x:(List α)×Int×Int×Unit):Option ((List α)×Int×Unit⊕Empty):=iter (Mh lt k) big x
noncomputable def Jf{α:Type}[Inhabited α](lt:α->α->Bool)(a0:(List α))(a1:Int)(a2:Int)(a3:Int):Option (Int×Bool×(List α)×Unit):=(bif (ah a0 a3)then(bif (ah a0 a1)then(bif (ah a0 a1)then(bif (ah (aC a0 a1 (ae default a0 a3)) a3)then((Pk lt (a1,(aa .sub .i64 a2 (1:Int)),()) ((aC (aC a0 a1 (ae default a0 a3)) a3 (ae default a0 a1)),(aa .add .i64 a1 (1:Int)),())).bind fun q0=>(Sum.elim (fun y1=>((Pm lt (a1,y1.2.1,()) (y1.1,(aa .sub .i64 a2 (1:Int)),())).bind fun q2=>(Sum.elim (fun y3=>(bif (af .gtr y1.2.1 y3.2.1)then(bif (ah y3.1 a1)then(bif (ah y3.1 y3.2.1)then(bif (ah y3.1 y3.2.1)then(bif (ah (aC y3.1 y3.2.1 (ae default y3.1 a1)) a1)then some (y3.2.1,true,(aC (aC y3.1 y3.2.1 (ae default y3.1 a1)) a1 (ae default y3.1 y3.2.1)),())else none)else none)else none)else none)else(bif (ah y3.1 y3.2.1)then(bif (ah y3.1 y1.2.1)then(bif (ah y3.1 y1.2.1)then(bif (ah (aC y3.1 y1.2.1 (ae default y3.1 y3.2.1)) y3.2.1)then((Pn lt (a1,()) ((aC (aC y3.1 y1.2.1 (ae default y3.1 y3.2.1)) y3.2.1 (ae default y3.1 y1.2.1)),(aa .add .i64 y1.2.1 (1:Int)),(aa .sub .i64 y3.2.1 (1:Int)),())).bind fun q4=>(Sum.elim (fun y5=>(bif (ah y5.1 a1)then(bif (ah y5.1 y5.2.1)then(bif (ah y5.1 y5.2.1)then(bif (ah (aC y5.1 y5.2.1 (ae default y5.1 a1)) a1)then some (y5.2.1,false,(aC (aC y5.1 y5.2.1 (ae default y5.1 a1)) a1 (ae default y5.1 y5.2.1)),())else none)else none)else none)else none)) (fun q6=>(Empty.elim q6)) q4))else none)else none)else none)else none))) (fun q4=>(Empty.elim q4)) q2))) (fun q2=>(Empty.elim q2)) q0))else none)else none)else none)else none)
noncomputable def Lt{α:Type}[Inhabited α](lt:α->α->Bool)(rec:(List α)->Int->Int->Int->Option ((List α)×Unit))(k:Unit)(x:(List α)×Int×Int×Int×Bool×Bool×Unit):Option (((List α)×Int×Int×Int×Bool×Bool×Unit)⊕((List α)×Unit⊕Empty)):=(bif (af .leq (aa .sub .i64 x.2.2.1 x.2.1) (12:Int))then((N6 lt x.1 x.2.1 x.2.2.1).bind fun y0=>some (.inr (.inl (y0.1,()))))else(bif (af .eql x.2.2.2.1 (0:Int))then((Rd lt x.1 x.2.1 x.2.2.1).bind fun y0=>some (.inr (.inl (y0.1,()))))else(bif (Bool.not x.2.2.2.2.1)then((N5 lt x.1 x.2.1 x.2.2.1).bind fun y0=>((Oh lt y0.1 x.2.1 x.2.2.1).bind fun y1=>(bif (af .eql y1.2.1 (2:Int))then((NV lt y0.1 x.2.1 x.2.2.1).bind fun y2=>(bif x.2.2.2.2.1 then(bif x.2.2.2.2.2.1 then(bif (af .eql (1:Int) (1:Int))then((Kk lt y2.1 x.2.1 x.2.2.1).bind fun y3=>(bif y3.1 then some (.inr (.inl (y3.2.1,())))else(bif (af .gtr x.2.1 (0:Int))then(bif (ah y3.2.1 (aa .sub .i64 x.2.1 (1:Int)))then(bif (ah y3.2.1 (aa .sub .i64 (aa .sub .i64 x.2.2.1 (1:Int)) (aa .sub .i64 y1.1 x.2.1)))then((some (lt (ae default y3.2.1 (aa .sub .i64 x.2.1 (1:Int))) (ae default y3.2.1 (aa .sub .i64 (aa .sub .i64 x.2.2.1 (1:Int)) (aa .sub .i64 y1.1 x.2.1))),())).bind fun y4=>(bif (Bool.not y4.1)then((Jq lt y3.2.1 x.2.1 x.2.2.1 (aa .sub .i64 (aa .sub .i64 x.2.2.1 (1:Int)) (aa .sub .i64 y1.1 x.2.1))).bind fun y5=>some (.inl (y5.2.1,y5.1,x.2.2.1,(aa .sub .i64 x.2.2.2.1 (1:Int)),x.2.2.2.2.1,x.2.2.2.2.2.1,())))else((Jf lt y3.2.1 x.2.1 x.2.2.1 (aa .sub .i64 (aa .sub .i64 x.2.2.1 (1:Int)) (aa .sub .i64 y1.1 x.2.1))).bind fun y5=>(bif (az (8:Int))then none else(bif (af .lss (aa .sub .i64 y5.1 x.2.1) (aa .sub .i64 x.2.2.1 y5.1))then((rec y5.2.2.1 x.2.1 y5.1 (aa .sub .i64 x.2.2.2.1 (1:Int))).bind fun y6=>some (.inl (y6.1,(aa .add .i64 y5.1 (1:Int)),x.2.2.1,(aa .sub .i64 x.2.2.2.1 (1:Int)),(af .geq (aa .sub .i64 y5.1 x.2.1) (aa .quo .i64 (aa .sub .i64 x.2.2.1 x.2.1) (8:Int))),y5.2.1,())))else((rec y5.2.2.1 (aa .add .i64 y5.1 (1:Int)) x.2.2.1 (aa .sub .i64 x.2.2.2.1 (1:Int))).bind fun y6=>some (.inl (y6.1,x.2.1,y5.1,(aa .sub .i64 x.2.2.2.1 (1:Int)),(af .geq (aa .sub .i64 x.2.2.1 y5.1) (aa .quo .i64 (aa .sub .i64 x.2.2.1 x.2.1) (8:Int))),y5.2.1,()))))))))else none)else none)else((Jf lt y3.2.1 x.2.1 x.2.2.1 (aa .sub .i64 (aa .sub .i64 x.2.2.1 (1:Int)) (aa .sub .i64 y1.1 x.2.1))).bind fun y4=>(bif (az (8:Int))then none else(bif (af .lss (aa .sub .i64 y4.1 x.2.1) (aa .sub .i64 x.2.2.1 y4.1))then((rec y4.2.2.1 x.2.1 y4.1 (aa .sub .i64 x.2.2.2.1 (1:Int))).bind fun y5=>some (.inl (y5.1,(aa .add .i64 y4.1 (1:Int)),x.2.2.1,(aa .sub .i64 x.2.2.2.1 (1:Int)),(af .geq (aa .sub .i64 y4.1 x.2.1) (aa .quo .i64 (aa .sub .i64 x.2.2.1 x.2.1) (8:Int))),y4.2.1,())))else((rec y4.2.2.1 (aa .add .i64 y4.1 (1:Int)) x.2.2.1 (aa .sub .i64 x.2.2.2.1 (1:Int))).bind fun y5=>some (.inl (y5.1,x.2.1,y4.1,(aa .sub .i64 x.2.2.2.1 (1:Int)),(af .geq (aa .sub .i64 x.2.2.1 y4.1) (aa .quo .i64 (aa .sub .i64 x.2.2.1 x.2.1) (8:Int))),y4.2.1,())))))))))else(bif (af .gtr x.2.1 (0:Int))then(bif (ah y2.1 (aa .sub .i64 x.2.1 (1:Int)))then(bif (ah y2.1 (aa .sub .i64 (aa .sub .i64 x.2.2.1 (1:Int)) (aa .sub .i64 y1.1 x.2.1)))then((some (lt (ae default y2.1 (aa .sub .i64 x.2.1 (1:Int))) (ae default y2.1 (aa .sub .i64 (aa .sub .i64 x.2.2.1 (1:Int)) (aa .sub .i64 y1.1 x.2.1))),())).bind fun y3=>(bif (Bool.not y3.1)then((Jq lt y2.1 x.2.1 x.2.2.1 (aa .sub .i64 (aa .sub .i64 x.2.2.1 (1:Int)) (aa .sub .i64 y1.1 x.2.1))).bind fun y4=>some (.inl (y4.2.1,y4.1,x.2.2.1,(aa .sub .i64 x.2.2.2.1 (1:Int)),x.2.2.2.2.1,x.2.2.2.2.2.1,())))else((Jf lt y2.1 x.2.1 x.2.2.1 (aa .sub .i64 (aa .sub .i64 x.2.2.1 (1:Int)) (aa .sub .i64 y1.1 x.2.1))).bind fun y4=>(bif (az (8:Int))then none else(bif (af .lss (aa .sub .i64 y4.1 x.2.1) (aa .sub .i64 x.2.2.1 y4.1))then((rec y4.2.2.1 x.2.1 y4.1 (aa .sub .i64 x.2.2.2.1 (1:Int))).bind fun y5=>some (.inl (y5.1,(aa .add .i64 y4.1 (1:Int)),x.2.2.1,(aa .sub .i64 x.2.2.2.1 (1:Int)),(af .geq (aa .sub .i64 y4.1 x.2.1) (aa .quo .i64 (aa .sub .i64 x.2.2.1 x.2.1) (8:Int))),y4.2.1,())))else((rec y4.2.2.1 (aa .add .i64 y4.1 (1:Int)) x.2.2.1 (aa .sub .i64 x.2.2.2.1 (1:Int))).bind fun y5=>some (.inl (y5.1,x.2.1,y4.1,(aa .sub .i64 x.2.2.2.1 (1:Int)),(af .geq (aa .sub .i64 x.2.2.1 y4.1) (aa .quo .i64 (aa .sub .i64 x.2.2.1 x.2.1) (8:Int))),y4.2.1,()))))))))else none)else none)else((Jf lt y2.1 x.2.1 x.2.2.1 (aa .sub .i64 (aa .sub .i64 x.2.2.1 (1:Int)) (aa .sub .i64 y1.1 x.2.1))).bind fun y3=>(bif (az (8:Int))then none else(bif (af .lss (aa .sub .i64 y3.1 x.2.1) (aa .sub .i64 x.2.2.1 y3.1))then((rec y3.2.2.1 x.2.1 y3.1 (aa .sub .i64 x.2.2.2.1 (1:Int))).bind fun y4=>some (.inl (y4.1,(aa .add .i64 y3.1 (1:Int)),x.2.2.1,(aa .sub .i64 x.2.2.2.1 (1:Int)),(af .geq (aa .sub .i64 y3.1 x.2.1) (aa .quo .i64 (aa .sub .i64 x.2.2.1 x.2.1) (8:Int))),y3.2.1,())))else((rec y3.2.2.1 (aa .add .i64 y3.1 (1:Int)) x.2.2.1 (aa .sub .i64 x.2.2.2.1 (1:Int))).bind fun y4=>some (.inl (y4.1,x.2.1,y3.1,(aa .sub .i64 x.2.2.2.1 (1:Int)),(af .geq (aa .sub .i64 x.2.2.1 y3.1) (aa .quo .i64 (aa .sub .i64 x.2.2.1 x.2.1) (8:Int))),y3.2.1,()))))))))else(bif (af .gtr x.2.1 (0:Int))then(bif (ah y2.1 (aa .sub .i64 x.2.1 (1:Int)))then(bif (ah y2.1 (aa .sub .i64 (aa .sub .i64 x.2.2.1 (1:Int)) (aa .sub .i64 y1.1 x.2.1)))then((some (lt (ae default y2.1 (aa .sub .i64 x.2.1 (1:Int))) (ae default y2.1 (aa .sub .i64 (aa .sub .i64 x.2.2.1 (1:Int)) (aa .sub .i64 y1.1 x.2.1))),())).bind fun y3=>(bif (Bool.not y3.1)then((Jq lt y2.1 x.2.1 x.2.2.1 (aa .sub .i64 (aa .sub .i64 x.2.2.1 (1:Int)) (aa .sub .i64 y1.1 x.2.1))).bind fun y4=>some (.inl (y4.2.1,y4.1,x.2.2.1,(aa .sub .i64 x.2.2.2.1 (1:Int)),x.2.2.2.2.1,x.2.2.2.2.2.1,())))else((Jf lt y2.1 x.2.1 x.2.2.1 (aa .sub .i64 (aa .sub .i64 x.2.2.1 (1:Int)) (aa .sub .i64 y1.1 x.2.1))).bind fun y4=>(bif (az (8:Int))then none else(bif (af .lss (aa .sub .i64 y4.1 x.2.1) (aa .sub .i64 x.2.2.1 y4.1))then((rec y4.2.2.1 x.2.1 y4.1 (aa .sub .i64 x.2.2.2.1 (1:Int))).bind fun y5=>some (.inl (y5.1,(aa .add .i64 y4.1 (1:Int)),x.2.2.1,(aa .sub .i64 x.2.2.2.1 (1:Int)),(af .geq (aa .sub .i64 y4.1 x.2.1) (aa .quo .i64 (aa .sub .i64 x.2.2.1 x.2.1) (8:Int))),y4.2.1,())))else((rec y4.2.2.1 (aa .add .i64 y4.1 (1:Int)) x.2.2.1 (aa .sub .i64 x.2.2.2.1 (1:Int))).bind fun y5=>some (.inl (y5.1,x.2.1,y4.1,(aa .sub .i64 x.2.2.2.1 (1:Int)),(af .geq (aa .sub .i64 x.2.2.1 y4.1) (aa .quo .i64 (aa .sub .i64 x.2.2.1 x.2.1) (8:Int))),y4.2.1,()))))))))else none)else none)else((Jf lt y2.1 x.2.1 x.2.2.1 (aa .sub .i64 (aa .sub .i64 x.2.2.1 (1:Int)) (aa .sub .i64 y1.1 x.2.1))).bind fun y3=>(bif (az (8:Int))then none else(bif (af .lss (aa .sub .i64 y3.1 x.2.1) (aa .sub .i64 x.2.2.1 y3.1))then((rec y3.2.2.1 x.2.1 y3.1 (aa .sub .i64 x.2.2.2.1 (1:Int))).bind fun y4=>some (.inl (y4.1,(aa .add .i64 y3.1 (1:Int)),x.2.2.1,(aa .sub .i64 x.2.2.2.1 (1:Int)),(af .geq (aa .sub .i64 y3.1 x.2.1) (aa .quo .i64 (aa .sub .i64 x.2.2.1 x.2.1) (8:Int))),y3.2.1,())))else((rec y3.2.2.1 (aa .add .i64 y3.1 (1:Int)) x.2.2.1 (aa .sub .i64 x.2.2.2.1 (1:Int))).bind fun y4=>some (.inl (y4.1,x.2.1,y3.1,(aa .sub .i64 x.2.2.2.1 (1:Int)),(af .geq (aa .sub .i64 x.2.2.1 y3.1) (aa .quo .i64 (aa .sub .i64 x.2.2.1 x.2.1) (8:Int))),y3.2.1,()))))))))else(bif (af .gtr x.2.1 (0:Int))then(bif (ah y2.1 (aa .sub .i64 x.2.1 (1:Int)))then(bif (ah y2.1 (aa .sub .i64 (aa .sub .i64 x.2.2.1 (1:Int)) (aa .sub .i64 y1.1 x.2.1)))then((some (lt (ae default y2.1 (aa .sub .i64 x.2.1 (1:Int))) (ae default y2.1 (aa .sub .i64 (aa .sub .i64 x.2.2.1 (1:Int)) (aa .sub .i64 y1.1 x.2.1))),())).bind fun y3=>(bif (Bool.not y3.1)then((Jq lt y2.1 x.2.1 x.2.2.1 (aa .sub .i64 (aa .sub .i64 x.2.2.1 (1:Int)) (aa .sub .i64 y1.1 x.2.1))).bind fun y4=>some (.inl (y4.2.1,y4.1,x.2.2.1,(aa .sub .i64 x.2.2.2.1 (1:Int)),x.2.2.2.2.1,x.2.2.2.2.2.1,())))else((Jf lt y2.1 x.2.1 x.2.2.1 (aa .sub .i64 (aa .sub .i64 x.2.2.1 (1:Int)) (aa .sub .i64 y1.1 x.2.1))).bind fun y4=>(bif (az (8:Int))then none else(bif (af .lss (aa .sub .i64 y4.1 x.2.1) (aa .sub .i64 x.2.2.1 y4.1))then((rec y4.2.2.1 x.2.1 y4.1 (aa .sub .i64 x.2.2.2.1 (1:Int))).bind fun y5=>some (.inl (y5.1,(aa .add .i64 y4.1 (1:Int)),x.2.2.1,(aa .sub .i64 x.2.2.2.1 (1:Int)),(af .geq (aa .sub .i64 y4.1 x.2.1) (aa .quo .i64 (aa .sub .i64 x.2.2.1 x.2.1) (8:Int))),y4.2.1,())))else((rec y4.2.2.1 (aa .add .i64 y4.1 (1:Int)) x.2.2.1 (aa .sub .i64 x.2.2.2.1 (1:Int))).bind fun y5=>some (.inl (y5.1,x.2.1,y4.1,(aa .sub .i64 x.2.2.2.1 (1:Int)),(af .geq (aa .sub .i64 x.2.2.1 y4.1) (aa .quo .i64 (aa .sub .i64 x.2.2.1 x.2.1) (8:Int))),y4.2.1,()))))))))else none)else none)else((Jf lt y2.1 x.2.1 x.2.2.1 (aa .sub .i64 (aa .sub .i64 x.2.2.1 (1:Int)) (aa .sub .i64 y1.1 x.2.1))).bind fun y3=>(bif (az (8:Int))then none else(bif (af .lss (aa .sub .i64 y3.1 x.2.1) (aa .sub .i64 x.2.2.1 y3.1))then((rec y3.2.2.1 x.2.1 y3.1 (aa .sub .i64 x.2.2.2.1 (1:Int))).bind fun y4=>some (.inl (y4.1,(aa .add .i64 y3.1 (1:Int)),x.2.2.1,(aa .sub .i64 x.2.2.2.1 (1:Int)),(af .geq (aa .sub .i64 y3.1 x.2.1) (aa .quo .i64 (aa .sub .i64 x.2.2.1 x.2.1) (8:Int))),y3.2.1,())))else((rec y3.2.2.1 (aa .add .i64 y3.1 (1:Int)) x.2.2.1 (aa .sub .i64 x.2.2.2.1 (1:Int))).bind fun y4=>some (.inl (y4.1,x.2.1,y3.1,(aa .sub .i64 x.2.2.2.1 (1:Int)),(af .geq (aa .sub .i64 x.2.2.1 y3.1) (aa .quo .i64 (aa .sub .i64 x.2.2.1 x.2.1) (8:Int))),y3.2.1,())))))))))else(bif x.2.2.2.2.1 then(bif x.2.2.2.2.2.1 then(bif (af .eql y1.2.1 (1:Int))then((Kk lt y0.1 x.2.1 x.2.2.1).bind fun y2=>(bif y2.1 then some (.inr (.inl (y2.2.1,())))else(bif (af .gtr x.2.1 (0:Int))then(bif (ah y2.2.1 (aa .sub .i64 x.2.1 (1:Int)))then(bif (ah y2.2.1 y1.1)then((some (lt (ae default y2.2.1 (aa .sub .i64 x.2.1 (1:Int))) (ae default y2.2.1 y1.1),())).bind fun y3=>(bif (Bool.not y3.1)then((Jq lt y2.2.1 x.2.1 x.2.2.1 y1.1).bind fun y4=>some (.inl (y4.2.1,y4.1,x.2.2.1,(aa .sub .i64 x.2.2.2.1 (1:Int)),x.2.2.2.2.1,x.2.2.2.2.2.1,())))else((Jf lt y2.2.1 x.2.1 x.2.2.1 y1.1).bind fun y4=>(bif (az (8:Int))then none else(bif (af .lss (aa .sub .i64 y4.1 x.2.1) (aa .sub .i64 x.2.2.1 y4.1))then((rec y4.2.2.1 x.2.1 y4.1 (aa .sub .i64 x.2.2.2.1 (1:Int))).bind fun y5=>some (.inl (y5.1,(aa .add .i64 y4.1 (1:Int)),x.2.2.1,(aa .sub .i64 x.2.2.2.1 (1:Int)),(af .geq (aa .sub .i64 y4.1 x.2.1) (aa .quo .i64 (aa .sub .i64 x.2.2.1 x.2.1) (8:Int))),y4.2.1,())))else((rec y4.2.2.1 (aa .add .i64 y4.1 (1:Int)) x.2.2.1 (aa .sub .i64 x.2.2.2.1 (1:Int))).bind fun y5=>some (.inl (y5.1,x.2.1,y4.1,(aa .sub .i64 x.2.2.2.1 (1:Int)),(af .geq (aa .sub .i64 x.2.2.1 y4.1) (aa .quo .i64 (aa .sub .i64 x.2.2.1 x.2.1) (8:Int))),y4.2.1,()))))))))else none)else none)else((Jf lt y2.2.1 x.2.1 x.2.2.1 y1.1).bind fun y3=>(bif (az (8:Int))then none else(bif (af .lss (aa .sub .i64 y3.1 x.2.1) (aa .sub .i64 x.2.2.1 y3.1))then((rec y3.2.2.1 x.2.1 y3.1 (aa .sub .i64 x.2.2.2.1 (1:Int))).bind fun y4=>some (.inl (y4.1,(aa .add .i64 y3.1 (1:Int)),x.2.2.1,(aa .sub .i64 x.2.2.2.1 (1:Int)),(af .geq (aa .sub .i64 y3.1 x.2.1) (aa .quo .i64 (aa .sub .i64 x.2.2.1 x.2.1) (8:Int))),y3.2.1,())))else((rec y3.2.2.1 (aa .add .i64 y3.1 (1:Int)) x.2.2.1 (aa .sub .i64 x.2.2.2.1 (1:Int))).bind fun y4=>some (.inl (y4.1,x.2.1,y3.1,(aa .sub .i64 x.2.2.2.1 (1:Int)),(af .geq (aa .sub .i64 x.2.2.1 y3.1) (aa .quo .i64 (aa .sub .i64 x.2.2.1 x.2.1) (8:Int))),y3.2.1,())))))))))else(bif (af .gtr x.2.1 (0:Int))then(bif (ah y0.1 (aa .sub .i64 x.2.1 (1:Int)))then(bif (ah y0.1 y1.1)then((some (lt (ae default y0.1 (aa .sub .i64 x.2.1 (1:Int))) (ae default y0.1 y1.1),())).bind fun y2=>(bif (Bool.not y2.1)then((Jq lt y0.1 x.2.1 x.2.2.1 y1.1).bind fun y3=>some (.inl (y3.2.1,y3.1,x.2.2.1,(aa .sub .i64 x.2.2.2.1 (1:Int)),x.2.2.2.2.1,x.2.2.2.2.2.1,())))else((Jf lt y0.1 x.2.1 x.2.2.1 y1.1).bind fun y3=>(bif (az (8:Int))then none else(bif (af .lss (aa .sub .i64 y3.1 x.2.1) (aa .sub .i64 x.2.2.1 y3.1))then((rec y3.2.2.1 x.2.1 y3.1 (aa .sub .i64 x.2.2.2.1 (1:Int))).bind fun y4=>some (.inl (y4.1,(aa .add .i64 y3.1 (1:Int)),x.2.2.1,(aa .sub .i64 x.2.2.2.1 (1:Int)),(af .geq (aa .sub .i64 y3.1 x.2.1) (aa .quo .i64 (aa .sub .i64 x.2.2.1 x.2.1) (8:Int))),y3.2.1,())))else((rec y3.2.2.1 (aa .add .i64 y3.1 (1:Int)) x.2.2.1 (aa .sub .i64 x.2.2.2.1 (1:Int))).bind fun y4=>some (.inl (y4.1,x.2.1,y3.1,(aa .sub .i64 x.2.2.2.1 (1:Int)),(af .geq (aa .sub .i64 x.2.2.1 y3.1) (aa .quo .i64 (aa .sub .i64 x.2.2.1 x.2.1) (8:Int))),y3.2.1,()))))))))else none)else none)else((Jf lt y0.1 x.2.1 x.2.2.1 y1.1).bind fun y2=>(bif (az (8:Int))then none else(bif (af .lss (aa .sub .i64 y2.1 x.2.1) (aa .sub .i64 x.2.2.1 y2.1))then((rec y2.2.2.1 x.2.1 y2.1 (aa .sub .i64 x.2.2.2.1 (1:Int))).bind fun y3=>some (.inl (y3.1,(aa .add .i64 y2.1 (1:Int)),x.2.2.1,(aa .sub .i64 x.2.2.2.1 (1:Int)),(af .geq (aa .sub .i64 y2.1 x.2.1) (aa .quo .i64 (aa .sub .i64 x.2.2.1 x.2.1) (8:Int))),y2.2.1,())))else((rec y2.2.2.1 (aa .add .i64 y2.1 (1:Int)) x.2.2.1 (aa .sub .i64 x.2.2.2.1 (1:Int))).bind fun y3=>some (.inl (y3.1,x.2.1,y2.1,(aa .sub .i64 x.2.2.2.1 (1:Int)),(af .geq (aa .sub .i64 x.2.2.1 y2.1) (aa .quo .i64 (aa .sub .i64 x.2.2.1 x.2.1) (8:Int))),y2.2.1,()))))))))else(bif (af .gtr x.2.1 (0:Int))then(bif (ah y0.1 (aa .sub .i64 x.2.1 (1:Int)))then(bif (ah y0.1 y1.1)then((some (lt (ae default y0.1 (aa .sub .i64 x.2.1 (1:Int))) (ae default y0.1 y1.1),())).bind fun y2=>(bif (Bool.not y2.1)then((Jq lt y0.1 x.2.1 x.2.2.1 y1.1).bind fun y3=>some (.inl (y3.2.1,y3.1,x.2.2.1,(aa .sub .i64 x.2.2.2.1 (1:Int)),x.2.2.2.2.1,x.2.2.2.2.2.1,())))else((Jf lt y0.1 x.2.1 x.2.2.1 y1.1).bind fun y3=>(bif (az (8:Int))then none else(bif (af .lss (aa .sub .i64 y3.1 x.2.1) (aa .sub .i64 x.2.2.1 y3.1))then((rec y3.2.2.1 x.2.1 y3.1 (aa .sub .i64 x.2.2.2.1 (1:Int))).bind fun y4=>some (.inl (y4.1,(aa .add .i64 y3.1 (1:Int)),x.2.2.1,(aa .sub .i64 x.2.2.2.1 (1:Int)),(af .geq (aa .sub .i64 y3.1 x.2.1) (aa .quo .i64 (aa .sub .i64 x.2.2.1 x.2.1) (8:Int))),y3.2.1,())))else((rec y3.2.2.1 (aa .add .i64 y3.1 (1:Int)) x.2.2.1 (aa .sub .i64 x.2.2.2.1 (1:Int))).bind fun y4=>some (.inl (y4.1,x.2.1,y3.1,(aa .sub .i64 x.2.2.2.1 (1:Int)),(af .geq (aa .sub .i64 x.2.2.1 y3.1) (aa .quo .i64 (aa .sub .i64 x.2.2.1 x.2.1) (8:Int))),y3.2.1,()))))))))else none)else none)else((Jf lt y0.1 x.2.1 x.2.2.1 y1.1).bind fun y2=>(bif (az (8:Int))then none else(bif (af .lss (aa .sub .i64 y2.1 x.2.1) (aa .sub .i64 x.2.2.1 y2.1))then((rec y2.2.2.1 x.2.1 y2.1 (aa .sub .i64 x.2.2.2.1 (1:Int))).bind fun y3=>some (.inl (y3.1,(aa .add .i64 y2.1 (1:Int)),x.2.2.1,(aa .sub .i64 x.2.2.2.1 (1:Int)),(af .geq (aa .sub .i64 y2.1 x.2.1) (aa .quo .i64 (aa .sub .i64 x.2.2.1 x.2.1) (8:Int))),y2.2.1,())))else((rec y2.2.2.1 (aa .add .i64 y2.1 (1:Int)) x.2.2.1 (aa .sub .i64 x.2.2.2.1 (1:Int))).bind fun y3=>some (.inl (y3.1,x.2.1,y2.1,(aa .sub .i64 x.2.2.2.1 (1:Int)),(af .geq (aa .sub .i64 x.2.2.1 y2.1) (aa .quo .i64 (aa .sub .i64 x.2.2.1 x.2.1) (8:Int))),y2.2.1,()))))))))else(bif (af .gtr x.2.1 (0:Int))then(bif (ah y0.1 (aa .sub .i64 x.2.1 (1:Int)))then(bif (ah y0.1 y1.1)then((some (lt (ae default y0.1 (aa .sub .i64 x.2.1 (1:Int))) (ae default y0.1 y1.1),())).bind fun y2=>(bif (Bool.not y2.1)then((Jq lt y0.1 x.2.1 x.2.2.1 y1.1).bind fun y3=>some (.inl (y3.2.1,y3.1,x.2.2.1,(aa .sub .i64 x.2.2.2.1 (1:Int)),x.2.2.2.2.1,x.2.2.2.2.2.1,())))else((Jf lt y0.1 x.2.1 x.2.2.1 y1.1).bind fun y3=>(bif (az (8:Int))then none else(bif (af .lss (aa .sub .i64 y3.1 x.2.1) (aa .sub .i64 x.2.2.1 y3.1))then((rec y3.2.2.1 x.2.1 y3.1 (aa .sub .i64 x.2.2.2.1 (1:Int))).bind fun y4=>some (.inl (y4.1,(aa .add .i64 y3.1 (1:Int)),x.2.2.1,(aa .sub .i64 x.2.2.2.1 (1:Int)),(af .geq (aa .sub .i64 y3.1 x.2.1) (aa .quo .i64 (aa .sub .i64 x.2.2.1 x.2.1) (8:Int))),y3.2.1,())))else((rec y3.2.2.1 (aa .add .i64 y3.1 (1:Int)) x.2.2.1 (aa .sub .i64 x.2.2.2.1 (1:Int))).bind fun y4=>some (.inl (y4.1,x.2.1,y3.1,(aa .sub .i64 x.2.2.2.1 (1:Int)),(af .geq (aa .sub .i64 x.2.2.1 y3.1) (aa .quo .i64 (aa .sub .i64 x.2.2.1 x.2.1) (8:Int))),y3.2.1,()))))))))else none)else none)else((Jf lt y0.1 x.2.1 x.2.2.1 y1.1).bind fun y2=>(bif (az (8:Int))then none else(bif (af .lss (aa .sub .i64 y2.1 x.2.1) (aa .sub .i64 x.2.2.1 y2.1))then((rec y2.2.2.1 x.2.1 y2.1 (aa .sub .i64 x.2.2.2.1 (1:Int))).bind fun y3=>some (.inl (y3.1,(aa .add .i64 y2.1 (1:Int)),x.2.2.1,(aa .sub .i64 x.2.2.2.1 (1:Int)),(af .geq (aa .sub .i64 y2.1 x.2.1) (aa .quo .i64 (aa .sub .i64 x.2.2.1 x.2.1) (8:Int))),y2.2.1,())))else((rec y2.2.2.1 (aa .add .i64 y2.1 (1:Int)) x.2.2.1 (aa .sub .i64 x.2.2.2.1 (1:Int))).bind fun y3=>some (.inl (y3.1,x.2.1,y2.1,(aa .sub .i64 x.2.2.2.1 (1:Int)),(af .geq (aa .sub .i64 x.2.2.1 y2.1) (aa .quo .i64 (aa .sub .i64 x.2.2.1 x.2.1) (8:Int))),y2.2.1,())))))))))))else((Oh lt x.1 x.2.1 x.2.2.1).bind fun y0=>(bif (af .eql y0.2.1 (2:Int))then((NV lt x.1 x.2.1 x.2.2.1).bind fun y1=>(bif x.2.2.2.2.1 then(bif x.2.2.2.2.2.1 then(bif (af .eql (1:Int) (1:Int))then((Kk lt y1.1 x.2.1 x.2.2.1).bind fun y2=>(bif y2.1 then some (.inr (.inl (y2.2.1,())))else(bif (af .gtr x.2.1 (0:Int))then(bif (ah y2.2.1 (aa .sub .i64 x.2.1 (1:Int)))then(bif (ah y2.2.1 (aa .sub .i64 (aa .sub .i64 x.2.2.1 (1:Int)) (aa .sub .i64 y0.1 x.2.1)))then((some (lt (ae default y2.2.1 (aa .sub .i64 x.2.1 (1:Int))) (ae default y2.2.1 (aa .sub .i64 (aa .sub .i64 x.2.2.1 (1:Int)) (aa .sub .i64 y0.1 x.2.1))),())).bind fun y3=>(bif (Bool.not y3.1)then((Jq lt y2.2.1 x.2.1 x.2.2.1 (aa .sub .i64 (aa .sub .i64 x.2.2.1 (1:Int)) (aa .sub .i64 y0.1 x.2.1))).bind fun y4=>some (.inl (y4.2.1,y4.1,x.2.2.1,x.2.2.2.1,x.2.2.2.2.1,x.2.2.2.2.2.1,())))else((Jf lt y2.2.1 x.2.1 x.2.2.1 (aa .sub .i64 (aa .sub .i64 x.2.2.1 (1:Int)) (aa .sub .i64 y0.1 x.2.1))).bind fun y4=>(bif (az (8:Int))then none else(bif (af .lss (aa .sub .i64 y4.1 x.2.1) (aa .sub .i64 x.2.2.1 y4.1))then((rec y4.2.2.1 x.2.1 y4.1 x.2.2.2.1).bind fun y5=>some (.inl (y5.1,(aa .add .i64 y4.1 (1:Int)),x.2.2.1,x.2.2.2.1,(af .geq (aa .sub .i64 y4.1 x.2.1) (aa .quo .i64 (aa .sub .i64 x.2.2.1 x.2.1) (8:Int))),y4.2.1,())))else((rec y4.2.2.1 (aa .add .i64 y4.1 (1:Int)) x.2.2.1 x.2.2.2.1).bind fun y5=>some (.inl (y5.1,x.2.1,y4.1,x.2.2.2.1,(af .geq (aa .sub .i64 x.2.2.1 y4.1) (aa .quo .i64 (aa .sub .i64 x.2.2.1 x.2.1) (8:Int))),y4.2.1,()))))))))else none)else none)else((Jf lt y2.2.1 x.2.1 x.2.2.1 (aa .sub .i64 (aa .sub .i64 x.2.2.1 (1:Int)) (aa .sub .i64 y0.1 x.2.1))).bind fun y3=>(bif (az (8:Int))then none else(bif (af .lss (aa .sub .i64 y3.1 x.2.1) (aa .sub .i64 x.2.2.1 y3.1))then((rec y3.2.2.1 x.2.1 y3.1 x.2.2.2.1).bind fun y4=>some (.inl (y4.1,(aa .add .i64 y3.1 (1:Int)),x.2.2.1,x.2.2.2.1,(af .geq (aa .sub .i64 y3.1 x.2.1) (aa .quo .i64 (aa .sub .i64 x.2.2.1 x.2.1) (8:Int))),y3.2.1,())))else((rec y3.2.2.1 (aa .add .i64 y3.1 (1:Int)) x.2.2.1 x.2.2.2.1).bind fun y4=>some (.inl (y4.1,x.2.1,y3.1,x.2.2.2.1,(af .geq (aa .sub .i64 x.2.2.1 y3.1) (aa .quo .i64 (aa .sub .i64 x.2.2.1 x.2.1) (8:Int))),y3.2.1,())))))))))else(bif (af .gtr x.2.1 (0:Int))then(bif (ah y1.1 (aa .sub .i64 x.2.1 (1:Int)))then(bif (ah y1.1 (aa .sub .i64 (aa .sub .i64 x.2.2.1 (1:Int)) (aa .sub .i64 y0.1 x.2.1)))then((some (lt (ae default y1.1 (aa .sub .i64 x.2.1 (1:Int))) (ae default y1.1 (aa .sub .i64 (aa .sub .i64 x.2.2.1 (1:Int)) (aa .sub .i64 y0.1 x.2.1))),())).bind fun y2=>(bif (Bool.not y2.1)then((Jq lt y1.1 x.2.1 x.2.2.1 (aa .sub .i64 (aa .sub .i64 x.2.2.1 (1:Int)) (aa .sub .i64 y0.1 x.2.1))).bind fun y3=>some (.inl (y3.2.1,y3.1,x.2.2.1,x.2.2.2.1,x.2.2.2.2.1,x.2.2.2.2.2.1,())))else((Jf lt y1.1 x.2.1 x.2.2.1 (aa .sub .i64 (aa .sub .i64 x.2.2.1 (1:Int)) (aa .sub .i64 y0.1 x.2.1))).bind fun y3=>(bif (az (8:Int))then none else(bif (af .lss (aa .sub .i64 y3.1 x.2.1) (aa .sub .i64 x.2.2.1 y3.1))then((rec y3.2.2.1 x.2.1 y3.1 x.2.2.2.1).bind fun y4=>some (.inl (y4.1,(aa .add .i64 y3.1 (1:Int)),x.2.2.1,x.2.2.2.1,(af .geq (aa .sub .i64 y3.1 x.2.1) (aa .quo .i64 (aa .sub .i64 x.2.2.1 x.2.1) (8:Int))),y3.2.1,())))else((rec y3.2.2.1 (aa .add .i64 y3.1 (1:Int)) x.2.2.1 x.2.2.2.1).bind fun y4=>some (.inl (y4.1,x.2.1,y3.1,x.2.2.2.1,(af .geq (aa .sub .i64 x.2.2.1 y3.1) (aa .quo .i64 (aa .sub .i64 x.2.2.1 x.2.1) (8:Int))),y3.2.1,()))))))))else none)else none)else((Jf lt y1.1 x.2.1 x.2.2.1 (aa .sub .i64 (aa .sub .i64 x.2.2.1 (1:Int)) (aa .sub .i64 y0.1 x.2.1))).bind fun y2=>(bif (az (8:Int))then none else(bif (af .lss (aa .sub .i64 y2.1 x.2.1) (aa .sub .i64 x.2.2.1 y2.1))then((rec y2.2.2.1 x.2.1 y2.1 x.2.2.2.1).bind fun y3=>some (.inl (y3.1,(aa .add .i64 y2.1 (1:Int)),x.2.2.1,x.2.2.2.1,(af .geq (aa .sub .i64 y2.1 x.2.1) (aa .quo .i64 (aa .sub .i64 x.2.2.1 x.2.1) (8:Int))),y2.2.1,())))else((rec y2.2.2.1 (aa .add .i64 y2.1 (1:Int)) x.2.2.1 x.2.2.2.1).bind fun y3=>some (.inl (y3.1,x.2.1,y2.1,x.2.2.2.1,(af .geq (aa .sub .i64 x.2.2.1 y2.1) (aa .quo .i64 (aa .sub .i64 x.2.2.1 x.2.1) (8:Int))),y2.2.1,()))))))))else(bif (af .gtr x.2.1 (0:Int))then(bif (ah y1.1 (aa .sub .i64 x.2.1 (1:Int)))then(bif (ah y1.1 (aa .sub .i64 (aa .sub .i64 x.2.2.1 (1:Int)) (aa .sub .i64 y0.1 x.2.1)))then((some (lt (ae default y1.1 (aa .sub .i64 x.2.1 (1:Int))) (ae default y1.1 (aa .sub .i64 (aa .sub .i64 x.2.2.1 (1:Int)) (aa .sub .i64 y0.1 x.2.1))),())).bind fun y2=>(bif (Bool.not y2.1)then((Jq lt y1.1 x.2.1 x.2.2.1 (aa .sub .i64 (aa .sub .i64 x.2.2.1 (1:Int)) (aa .sub .i64 y0.1 x.2.1))).bind fun y3=>some (.inl (y3.2.1,y3.1,x.2.2.1,x.2.2.2.1,x.2.2.2.2.1,x.2.2.2.2.2.1,())))else((Jf lt y1.1 x.2.1 x.2.2.1 (aa .sub .i64 (aa .sub .i64 x.2.2.1 (1:Int)) (aa .sub .i64 y0.1 x.2.1))).bind fun y3=>(bif (az (8:Int))then none else(bif (af .lss (aa .sub .i64 y3.1 x.2.1) (aa .sub .i64 x.2.2.1 y3.1))then((rec y3.2.2.1 x.2.1 y3.1 x.2.2.2.1).bind fun y4=>some (.inl (y4.1,(aa .add .i64 y3.1 (1:Int)),x.2.2.1,x.2.2.2.1,(af .geq (aa .sub .i64 y3.1 x.2.1) (aa .quo .i64 (aa .sub .i64 x.2.2.1 x.2.1) (8:Int))),y3.2.1,())))else((rec y3.2.2.1 (aa .add .i64 y3.1 (1:Int)) x.2.2.1 x.2.2.2.1).bind fun y4=>some (.inl (y4.1,x.2.1,y3.1,x.2.2.2.1,(af .geq (aa .sub .i64 x.2.2.1 y3.1) (aa .quo .i64 (aa .sub .i64 x.2.2.1 x.2.1) (8:Int))),y3.2.1,()))))))))else none)else none)else((Jf lt y1.1 x.2.1 x.2.2.1 (aa .sub .i64 (aa .sub .i64 x.2.2.1 (1:Int)) (aa .sub .i64 y0.1 x.2.1))).bind fun y2=>(bif (az (8:Int))then none else(bif (af .lss (aa .sub .i64 y2.1 x.2.1) (aa .sub .i64 x.2.2.1 y2.1))then((rec y2.2.2.1 x.2.1 y2.1 x.2.2.2.1).bind fun y3=>some (.inl (y3.1,(aa .add .i64 y2.1 (1:Int)),x.2.2.1,x.2.2.2.1,(af .geq (aa .sub .i64 y2.1 x.2.1) (aa .quo .i64 (aa .sub .i64 x.2.2.1 x.2.1) (8:Int))),y2.2.1,())))else((rec y2.2.2.1 (aa .add .i64 y2.1 (1:Int)) x.2.2.1 x.2.2.2.1).bind fun y3=>some (.inl (y3.1,x.2.1,y2.1,x.2.2.2.1,(af .geq (aa .sub .i64 x.2.2.1 y2.1) (aa .quo .i64 (aa .sub .i64 x.2.2.1 x.2.1) (8:Int))),y2.2.1,()))))))))else(bif (af .gtr x.2.1 (0:Int))then(bif (ah y1.1 (aa .sub .i64 x.2.1 (1:Int)))then(bif (ah y1.1 (aa .sub .i64 (aa .sub .i64 x.2.2.1 (1:Int)) (aa .sub .i64 y0.1 x.2.1)))then((some (lt (ae default y1.1 (aa .sub .i64 x.2.1 (1:Int))) (ae default y1.1 (aa .sub .i64 (aa .sub .i64 x.2.2.1 (1:Int)) (aa .sub .i64 y0.1 x.2.1))),())).bind fun y2=>(bif (Bool.not y2.1)then((Jq lt y1.1 x.2.1 x.2.2.1 (aa .sub .i64 (aa .sub .i64 x.2.2.1 (1:Int)) (aa .sub .i64 y0.1 x.2.1))).bind fun y3=>some (.inl (y3.2.1,y3.1,x.2.2.1,x.2.2.2.1,x.2.2.2.2.1,x.2.2.2.2.2.1,())))else((Jf lt y1.1 x.2.1 x.2.2.1 (aa .sub .i64 (aa .sub .i64 x.2.2.1 (1:Int)) (aa .sub .i64 y0.1 x.2.1))).bind fun y3=>(bif (az (8:Int))then none else(bif (af .lss (aa .sub .i64 y3.1 x.2.1) (aa .sub .i64 x.2.2.1 y3.1))then((rec y3.2.2.1 x.2.1 y3.1 x.2.2.2.1).bind fun y4=>some (.inl (y4.1,(aa .add .i64 y3.1 (1:Int)),x.2.2.1,x.2.2.2.1,(af .geq (aa .sub .i64 y3.1 x.2.1) (aa .quo .i64 (aa .sub .i64 x.2.2.1 x.2.1) (8:Int))),y3.2.1,())))else((rec y3.2.2.1 (aa .add .i64 y3.1 (1:Int)) x.2.2.1 x.2.2.2.1).bind fun y4=>some (.inl (y4.1,x.2.1,y3.1,x.2.2.2.1,(af .geq (aa .sub .i64 x.2.2.1 y3.1) (aa .quo .i64 (aa .sub .i64 x.2.2.1 x.2.1) (8:Int))),y3.2.1,()))))))))else none)else none)else((Jf lt y1.1 x.2.1 x.2.2.1 (aa .sub .i64 (aa .sub .i64 x.2.2.1 (1:Int)) (aa .sub .i64 y0.1 x.2.1))).bind fun y2=>(bif (az (8:Int))then none else(bif (af .lss (aa .sub .i64 y2.1 x.2.1) (aa .sub .i64 x.2.2.1 y2.1))then((rec y2.2.2.1 x.2.1 y2.1 x.2.2.2.1).bind fun y3=>some (.inl (y3.1,(aa .add .i64 y2.1 (1:Int)),x.2.2.1,x.2.2.2.1,(af .geq (aa .sub .i64 y2.1 x.2.1) (aa .quo .i64 (aa .sub .i64 x.2.2.1 x.2.1) (8:Int))),y2.2.1,())))else((rec y2.2.2.1 (aa .add .i64 y2.1 (1:Int)) x.2.2.1 x.2.2.2.1).bind fun y3=>some (.inl (y3.1,x.2.1,y2.1,x.2.2.2.1,(af .geq (aa .sub .i64 x.2.2.1 y2.1) (aa .quo .i64 (aa .sub .i64 x.2.2.1 x.2.1) (8:Int))),y2.2.1,())))))))))else(bif x.2.2.2.2.1 then(bif x.2.2.2.2.2.1 then(bif (af .eql y0.2.1 (1:Int))then((Kk lt x.1 x.2.1 x.2.2.1).bind fun y1=>(bif y1.1 then some (.inr (.inl (y1.2.1,())))else(bif (af .gtr x.2.1 (0:Int))then(bif (ah y1.2.1 (aa .sub .i64 x.2.1 (1:Int)))then(bif (ah y1.2.1 y0.1)then((some (lt (ae default y1.2.1 (aa .sub .i64 x.2.1 (1:Int))) (ae default y1.2.1 y0.1),())).bind fun y2=>(bif (Bool.not y2.1)then((Jq lt y1.2.1 x.2.1 x.2.2.1 y0.1).bind fun y3=>some (.inl (y3.2.1,y3.1,x.2.2.1,x.2.2.2.1,x.2.2.2.2.1,x.2.2.2.2.2.1,())))else((Jf lt y1.2.1 x.2.1 x.2.2.1 y0.1).bind fun y3=>(bif (az (8:Int))then none else(bif (af .lss (aa .sub .i64 y3.1 x.2.1) (aa .sub .i64 x.2.2.1 y3.1))then((rec y3.2.2.1 x.2.1 y3.1 x.2.2.2.1).bind fun y4=>some (.inl (y4.1,(aa .add .i64 y3.1 (1:Int)),x.2.2.1,x.2.2.2.1,(af .geq (aa .sub .i64 y3.1 x.2.1) (aa .quo .i64 (aa .sub .i64 x.2.2.1 x.2.1) (8:Int))),y3.2.1,())))else((rec y3.2.2.1 (aa .add .i64 y3.1 (1:Int)) x.2.2.1 x.2.2.2.1).bind fun y4=>some (.inl (y4.1,x.2.1,y3.1,x.2.2.2.1,(af .geq (aa .sub .i64 x.2.2.1 y3.1) (aa .quo .i64 (aa .sub .i64 x.2.2.1 x.2.1) (8:Int))),y3.2.1,()))))))))else none)else none)else((Jf lt y1.2.1 x.2.1 x.2.2.1 y0.1).bind fun y2=>(bif (az (8:Int))then none else(bif (af .lss (aa .sub .i64 y2.1 x.2.1) (aa .sub .i64 x.2.2.1 y2.1))then((rec y2.2.2.1 x.2.1 y2.1 x.2.2.2.1).bind fun y3=>some (.inl (y3.1,(aa .add .i64 y2.1 (1:Int)),x.2.2.1,x.2.2.2.1,(af .geq (aa .sub .i64 y2.1 x.2.1) (aa .quo .i64 (aa .sub .i64 x.2.2.1 x.2.1) (8:Int))),y2.2.1,())))else((rec y2.2.2.1 (aa .add .i64 y2.1 (1:Int)) x.2.2.1 x.2.2.2.1).bind fun y3=>some (.inl (y3.1,x.2.1,y2.1,x.2.2.2.1,(af .geq (aa .sub .i64 x.2.2.1 y2.1) (aa .quo .i64 (aa .sub .i64 x.2.2.1 x.2.1) (8:Int))),y2.2.1,())))))))))else(bif (af .gtr x.2.1 (0:Int))then(bif (ah x.1 (aa .sub .i64 x.2.1 (1:Int)))then(bif (ah x.1 y0.1)then((some (lt (ae default x.1 (aa .sub .i64 x.2.1 (1:Int))) (ae default x.1 y0.1),())).bind fun y1=>(bif (Bool.not y1.1)then((Jq lt x.1 x.2.1 x.2.2.1 y0.1).bind fun y2=>some (.inl (y2.2.1,y2.1,x.2.2.1,x.2.2.2.1,x.2.2.2.2.1,x.2.2.2.2.2.1,())))else((Jf lt x.1 x.2.1 x.2.2.1 y0.1).bind fun y2=>(bif (az (8:Int))then none else(bif (af .lss (aa .sub .i64 y2.1 x.2.1) (aa .sub .i64 x.2.2.1 y2.1))then((rec y2.2.2.1 x.2.1 y2.1 x.2.2.2.1).bind fun y3=>some (.inl (y3.1,(aa .add .i64 y2.1 (1:Int)),x.2.2.1,x.2.2.2.1,(af .geq (aa .sub .i64 y2.1 x.2.1) (aa .quo .i64 (aa .sub .i64 x.2.2.1 x.2.1) (8:Int))),y2.2.1,())))else((rec y2.2.2.1 (aa .add .i64 y2.1 (1:Int)) x.2.2.1 x.2.2.2.1).bind fun y3=>some (.inl (y3.1,x.2.1,y2.1,x.2.2.2.1,(af .geq (aa .sub .i64 x.2.2.1 y2.1) (aa .quo .i64 (aa .sub .i64 x.2.2.1 x.2.1) (8:Int))),y2.2.1,()))))))))else none)else none)else((Jf lt x.1 x.2.1 x.2.2.1 y0.1).bind fun y1=>(bif (az (8:Int))then none else(bif (af .lss (aa .sub .i64 y1.1 x.2.1) (aa .sub .i64 x.2.2.1 y1.1))then((rec y1.2.2.1 x.2.1 y1.1 x.2.2.2.1).bind fun y2=>some (.inl (y2.1,(aa .add .i64 y1.1 (1:Int)),x.2.2.1,x.2.2.2.1,(af .geq (aa .sub .i64 y1.1 x.2.1) (aa .quo .i64 (aa .sub .i64 x.2.2.1 x.2.1) (8:Int))),y1.2.1,())))else((rec y1.2.2.1 (aa .add .i64 y1.1 (1:Int)) x.2.2.1 x.2.2.2.1).bind fun y2=>some (.inl (y2.1,x.2.1,y1.1,x.2.2.2.1,(af .geq (aa .sub .i64 x.2.2.1 y1.1) (aa .quo .i64 (aa .sub .i64 x.2.2.1 x.2.1) (8:Int))),y1.2.1,()))))))))else(bif (af .gtr x.2.1 (0:Int))then(bif (ah x.1 (aa .sub .i64 x.2.1 (1:Int)))then(bif (ah x.1 y0.1)then((some (lt (ae default x.1 (aa .sub .i64 x.2.1 (1:Int))) (ae default x.1 y0.1),())).bind fun y1=>(bif (Bool.not y1.1)then((Jq lt x.1 x.2.1 x.2.2.1 y0.1).bind fun y2=>some (.inl (y2.2.1,y2.1,x.2.2.1,x.2.2.2.1,x.2.2.2.2.1,x.2.2.2.2.2.1,())))else((Jf lt x.1 x.2.1 x.2.2.1 y0.1).bind fun y2=>(bif (az (8:Int))then none else(bif (af .lss (aa .sub .i64 y2.1 x.2.1) (aa .sub .i64 x.2.2.1 y2.1))then((rec y2.2.2.1 x.2.1 y2.1 x.2.2.2.1).bind fun y3=>some (.inl (y3.1,(aa .add .i64 y2.1 (1:Int)),x.2.2.1,x.2.2.2.1,(af .geq (aa .sub .i64 y2.1 x.2.1) (aa .quo .i64 (aa .sub .i64 x.2.2.1 x.2.1) (8:Int))),y2.2.1,())))else((rec y2.2.2.1 (aa .add .i64 y2.1 (1:Int)) x.2.2.1 x.2.2.2.1).bind fun y3=>some (.inl (y3.1,x.2.1,y2.1,x.2.2.2.1,(af .geq (aa .sub .i64 x.2.2.1 y2.1) (aa .quo .i64 (aa .sub .i64 x.2.2.1 x.2.1) (8:Int))),y2.2.1,()))))))))else none)else none)else((Jf lt x.1 x.2.1 x.2.2.1 y0.1).bind fun y1=>(bif (az (8:Int))then none else(bif (af .lss (aa .sub .i64 y1.1 x.2.1) (aa .sub .i64 x.2.2.1 y1.1))then((rec y1.2.2.1 x.2.1 y1.1 x.2.2.2.1).bind fun y2=>some (.inl (y2.1,(aa .add .i64 y1.1 (1:Int)),x.2.2.1,x.2.2.2.1,(af .geq (aa .sub .i64 y1.1 x.2.1) (aa .quo .i64 (aa .sub .i64 x.2.2.1 x.2.1) (8:Int))),y1.2.1,())))else((rec y1.2.2.1 (aa .add .i64 y1.1 (1:Int)) x.2.2.1 x.2.2.2.1).bind fun y2=>some (.inl (y2.1,x.2.1,y1.1,x.2.2.2.1,(af .geq (aa .sub .i64 x.2.2.1 y1.1) (aa .quo .i64 (aa .sub .i64 x.2.2.1 x.2.1) (8:Int))),y1.2.1,()))))))))else(bif (af .gtr x.2.1 (0:Int))then(bif (ah x.1 (aa .sub .i64 x.2.1 (1:Int)))then(bif (ah x.1 y0.1)then((some (lt (ae default x.1 (aa .sub .i64 x.2.1 (1:Int))) (ae default x.1 y0.1),())).bind fun y1=>(bif (Bool.not y1.1)then((Jq lt x.1 x.2.1 x.2.2.1 y0.1).bind fun y2=>some (.inl (y2.2.1,y2.1,x.2.2.1,x.2.2.2.1,x.2.2.2.2.1,x.2.2.2.2.2.1,())))else((Jf lt x.1 x.2.1 x.2.2.1 y0.1).bind fun y2=>(bif (az (8:Int))then none else(bif (af .lss (aa .sub .i64 y2.1 x.2.1) (aa .sub .i64 x.2.2.1 y2.1))then((rec y2.2.2.1 x.2.1 y2.1 x.2.2.2.1).bind fun y3=>some (.inl (y3.1,(aa .add .i64 y2.1 (1:Int)),x.2.2.1,x.2.2.2.1,(af .geq (aa .sub .i64 y2.1 x.2.1) (aa .quo .i64 (aa .sub .i64 x.2.2.1 x.2.1) (8:Int))),y2.2.1,())))else((rec y2.2.2.1 (aa .add .i64 y2.1 (1:Int)) x.2.2.1 x.2.2.2.1).bind fun y3=>some (.inl (y3.1,x.2.1,y2.1,x.2.2.2.1,(af .geq (aa .sub .i64 x.2.2.1 y2.1) (aa .quo .i64 (aa .sub .i64 x.2.2.1 x.2.1) (8:Int))),y2.2.1,()))))))))else none)else none)else((Jf lt x.1 x.2.1 x.2.2.1 y0.1).bind fun y1=>(bif (az (8:Int))then none else(bif (af .lss (aa .sub .i64 y1.1 x.2.1) (aa .sub .i64 x.2.2.1 y1.1))then((rec y1.2.2.1 x.2.1 y1.1 x.2.2.2.1).bind fun y2=>some (.inl (y2.1,(aa .add .i64 y1.1 (1:Int)),x.2.2.1,x.2.2.2.1,(af .geq (aa .sub .i64 y1.1 x.2.1) (aa .quo .i64 (aa .sub .i64 x.2.2.1 x.2.1) (8:Int))),y1.2.1,())))else((rec y1.2.2.1 (aa .add .i64 y1.1 (1:Int)) x.2.2.1 x.2.2.2.1).bind fun y2=>some (.inl (y2.1,x.2.1,y1.1,x.2.2.2.1,(af .geq (aa .sub .i64 x.2.2.1 y1.1) (aa .quo .i64 (aa .sub .i64 x.2.2.1 x.2.1) (8:Int))),y1.2.1,())))))))))))))
noncomputable def Qy{α:Type}[Inhabited α](lt:α->α->Bool)(rec:(List α)->Int->Int->Int->Option ((List α)×Unit))(k:Unit)(x:(List α)×Int×Int×Int×Bool×Bool×Unit):Option ((List α)×Unit⊕Empty):=iter (Lt lt rec k) big x
noncomputable def Ro{α:Type}[Inhabited α](lt:α->α->Bool)(rec:(List α)->Int->Int->Int->Option ((List α)×Unit))(a0:(List α))(a1:Int)(a2:Int)(a3:Int):Option ((List α)×Unit):=((Qy lt rec (()) (a0,a1,a2,a3,true,true,())).bind fun q0=>(Sum.elim (fun y1=>some (y1.1,())) (fun q2=>(Empty.elim q2)) q0))
noncomputable def PG{α:Type}[Inhabited α](lt:α->α->Bool):Nat->(List α)->Int->Int->Int->Option ((List α)×Unit)|0=>fun _ _ _ _=>none|n+1=>Ro lt (PG lt n)
noncomputable def Vm{α:Type}[Inhabited α](lt:α->α->Bool)(a0:(List α))(a1:Int)(a2:Int)(a3:Int):Option ((List α)×Unit):=PG lt big a0 a1 a2 a3
end Go.Fn
set_option linter.unusedSimpArgs false
set_option linter.unusedVariables false
namespace Go.Fn
open Go.R Go.Sort
theorem WE{α:Type}(d:Array α)(i:Nat):ah d.toList (i:Int)=decide (i<d.size):=by rw[ax,Array.length_toList]
theorem YO{α:Type}(d:Array α)(i j:Nat)(x:α):ah (aC d.toList (i:Int) x) (j:Int)=decide (j<d.size):=by rw[aQ,jt,Array.length_toList]
section
variable {α:Type} [Inhabited α] {lt:α->α->Bool}
theorem gA(d:Array α)(i:Nat):ae default d.toList (i:Int)=d[i]!:=by rw[ak,List.getD_eq_getElem?_getD,getElem!_def,<-Array.getElem?_toList];cases d.toList[i]? <;> rfl
theorem Zb(d:Array α)(i j:Nat):aC (aC d.toList (i:Int) d[j]!) (j:Int) d[i]! = (swp d i j).toList:=by rw[aQ,aQ];unfold swp;rw[Array.toList_setIfInBounds,Array.toList_setIfInBounds]
theorem aS{n m:Nat}(h:n+m<1099511627776):aa .add .i64 (n:Int) (m:Int)=((n+m:Nat):Int):=by rw[bU] <;> omega
theorem sS{n m:Nat}(h:m<=n)(h2:n<1099511627776):aa .sub .i64 (n:Int) (m:Int)=((n-m:Nat):Int):=by rw[bM] <;> omega
theorem mS{n m:Nat}(h:n*m<1099511627776):aa .mul .i64 (n:Int) (m:Int)=((n*m:Nat):Int):=by
 rw[iY]
 ·rw[Int.natCast_mul]
 ·rw[<-Int.natCast_mul];omega
 ·rw[<-Int.natCast_mul];omega
theorem qS(n m:Nat)(h:n<1099511627776):aa .quo .i64 (n:Int) (m:Int)=((n / m:Nat):Int):=by have h2:n / m<=n:=Nat.div_le_self n m;have e:aa .quo .i64 (n:Int) (m:Int)=IntKind.i64.wrap ((n:Int).tdiv (m:Int)):=rfl;rw[e,show((n:Int).tdiv (m:Int))=((n / m:Nat):Int)from rfl];generalize n / m=c at h2⊢;exact zx (by omega) (by omega)
theorem gtS(n m:Nat):af .gtr (n:Int) (m:Int)=decide (n>m):=by simp[af]
theorem Yu(n m:Nat):af .lss (n:Int) (m:Int)=decide (n<m):=by simp[af]
theorem Zh(n m:Nat):af .geq (n:Int) (m:Int)=decide (n>=m):=by simp[af]
theorem leS(n m:Nat):af .leq (n:Int) (m:Int)=decide (n<=m):=by simp[af]
theorem eqS(n m:Nat):af .eql (n:Int) (m:Int)=decide (n=m):=by
 simp only[af];by_cases h:n=m
 ·subst h;simp
 ·rw[decide_eq_false h];simp;omega
theorem U7(lt:α->α->Bool)(a:Nat):∀j (d:Array α),(insInner lt a j d).size=d.size
 |0,_=>rfl
 |j+1,d=>by
  unfold insInner;split
  ·rw[U7 lt a j,size_swp]
  ·rfl
theorem one:(1:Int)=((1:Nat):Int):=rfl
theorem adG(a b i:Nat):∀(j:Nat) (d:Array α) (n:Nat),j<d.size->d.size<=255->j<n->iter (Ll lt ((a:Int),(b:Int),(i:Int),())) n (d.toList,(j:Int),())=some (.inl ((insInner lt a j d).toList,())):=by
 intro j;induction j with
 |zero=>
  intro d n hj hd hn;obtain⟨n,rfl⟩:∃m,n=m+1:=⟨n-1,by omega⟩
  refine av ?_;unfold Ll insInner;simp only[gtS,show ¬(0>a)by omega,decide_false,cond_false]
 |succ j ih=>
  intro d n hj hd hn;obtain⟨n,rfl⟩:∃m,n=m+1:=⟨n-1,by omega⟩
  have e1:aa .sub .i64 ((j+1:Nat):Int) (1:Int)=(j:Int):=iD (by omega);unfold insInner;by_cases h:j+1>a
  ·cases hl:lt d[j+1]! d[j]! with
   |true=>simp only[h,decide_true,Bool.true_and,if_true];rw[<-ih (swp d (j+1) j) n (by rw[size_swp];omega) (by rw[size_swp];omega) (by omega)];refine aF ?_;unfold Ll;simp only[gtS,h,decide_true,cond_true,e1,WE,gA,YO,hj,show j<d.size by omega,Option.bind_some,hl,Zb]
   |false=>simp only[Bool.and_false,Bool.false_eq_true,if_false];refine av ?_;unfold Ll;simp only[gtS,h,decide_true,cond_true,e1,WE,gA,hj,show j<d.size by omega,Option.bind_some,hl,cond_false]
  ·simp only[h,decide_false,Bool.false_and,Bool.false_eq_true,if_false];refine av ?_;unfold Ll;simp only[gtS,h,decide_false,cond_false]
theorem aco(a b:Nat)(hb:b<=255):∀(k i:Nat) (d:Array α) (n:Nat),b-i<=k->b<=d.size->d.size<=255->i<=256->k<n->iter (LO lt ((a:Int),(b:Int),())) n (d.toList,(i:Int),())=some (.inl ((insOuter lt a b i d).toList,())):=by
 intro k;induction k with
 |zero=>
  intro i d n hk hbd hd hi hn;obtain⟨n,rfl⟩:∃m,n=m+1:=⟨n-1,by omega⟩
  refine av ?_;unfold LO insOuter;simp only[Yu,show ¬(i<b)by omega,decide_false,cond_false,if_false]
 |succ k ih=>
  intro i d n hk hbd hd hi hn;obtain⟨n,rfl⟩:∃m,n=m+1:=⟨n-1,by omega⟩
  unfold insOuter;by_cases h:i<b
  ·simp only[h,if_true];rw[<-ih (i+1) (insInner lt a i d) n (by omega) (by rw[U7];omega) (by rw[U7];omega) (by omega) (by omega)];refine aF ?_;unfold LO NM;simp only[Yu,h,decide_true,cond_true,adG a b i i d big (by omega) hd (aN (by omega)),Option.bind_some,Sum.elim_inl,au (n:=i) (by omega)]
  ·simp only[h,if_false];refine av ?_;unfold LO;simp only[Yu,h,decide_false,cond_false]
theorem acI(d:Array α)(a b:Nat)(hab:a<=b)(hb:b<=d.size)(hd:d.size<=255):N6 lt d.toList (a:Int) (b:Int)=some ((insertionSort lt d a b).toList,()):=by unfold N6 NL insertionSort;simp only[au (n:=a) (by omega),aco (lt:=lt) a b (by omega) 256 (a+1) d big (by omega) hb hd (by omega) (aN (by omega)),Option.bind_some,Sum.elim_inl]
theorem YX(lt:α->α->Bool)(hi first:Nat):∀(k root:Nat) (d:Array α),hi-root<=k->(siftDown lt hi first root d).size=d.size:=by
 intro k;induction k with
 |zero=>intro root d hk;unfold siftDown;rw[dif_pos (by omega)]
 |succ k ih=>
  intro root d hk;unfold siftDown;repeat' split
  all_goals first|rfl|(rw[ih _ _ (by omega),size_swp])
theorem acH(hi first:Nat):∀(k root:Nat) (d:Array α) (n:Nat),hi-root<=k->first+hi<=d.size->first+root<=255->d.size<=255->k<n->∃q,iter (LC lt ((hi:Int),(first:Int),())) n (d.toList,(root:Int),())=some q/\(q=.inl ((siftDown lt hi first root d).toList,())\/q=.inr (.inl ((siftDown lt hi first root d).toList,()))):=by
 intro k;induction k with
 |zero=>
  intro root d n hk hf hr hd hn;obtain⟨n,rfl⟩:∃m,n=m+1:=⟨n-1,by omega⟩
  refine⟨_,av ?_,.inl rfl⟩;unfold LC siftDown;rw[dif_pos (by omega)];have e1:aa .mul .i64 (2:Int) (root:Int)=((2*root:Nat):Int):=mS (n:=2) (by omega);simp only[e1,au (n:=2*root) (by omega),Zh,show 2*root+1>=hi by omega,decide_true,cond_true]
 |succ k ih=>
  intro root d n hk hf hr hd hn;obtain⟨n,rfl⟩:∃m,n=m+1:=⟨n-1,by omega⟩
  have e1:aa .mul .i64 (2:Int) (root:Int)=((2*root:Nat):Int):=mS (n:=2) (by omega);have e2:aa .add .i64 (first:Int) (root:Int)=((first+root:Nat):Int):=aS (by omega);have e3:aa .add .i64 ((2*root:Nat):Int) (1:Int)=((2*root+1:Nat):Int):=au (by omega);have e4:aa .add .i64 ((2*root+1:Nat):Int) (1:Int)=((2*root+2:Nat):Int):=au (by omega);have e5:aa .add .i64 (first:Int) ((2*root+1:Nat):Int)=((first+(2*root+1):Nat):Int):=aS (by omega);have e6:aa .add .i64 (first:Int) ((2*root+2:Nat):Int)=((first+(2*root+2):Nat):Int):=aS (by omega);have e7:aa .add .i64 ((first+(2*root+1):Nat):Int) (1:Int)=((first+(2*root+1)+1:Nat):Int):=au (by omega);by_cases h1:2*root+1>=hi
  ·refine⟨_,av ?_,.inl rfl⟩;unfold LC siftDown;rw[dif_pos h1];simp only[e1,e3,Zh,h1,decide_true,cond_true]
  ·have i1:first+(2*root+1)<d.size:=by omega
   have i2:first+root<d.size:=by omega
   unfold siftDown;rw[dif_neg h1];by_cases h2:2*root+2<hi
   ·have i3:first+(2*root+2)<d.size:=by omega
    have i4:first+(2*root+1)+1<d.size:=by omega
    cases h3:lt d[first+(2*root+1)]! d[first+(2*root+1)+1]! with
    |true=>
     cases h4:lt d[first+root]! d[first+(2*root+2)]! with
     |false=>refine⟨_,av ?_,.inr rfl⟩;unfold LC;simp only[e1,e2,e3,e4,e5,e6,e7,Zh,Yu,h1,h2,decide_true,decide_false,cond_true,cond_false,WE,gA,i1,i2,i3,i4,Option.bind_some,h3,h4,Bool.not_false,Bool.true_and,if_true]
     |true=>
      obtain⟨q,hq,l7⟩:=ih (2*root+2) (swp d (first+root) (first+(2*root+2))) n (by omega) (by rw[size_swp];omega) (by omega) (by rw[size_swp];omega) (by omega);refine⟨q,?_,?_⟩
      ·rw[<-hq];refine aF ?_;unfold LC;simp only[e1,e2,e3,e4,e5,e6,e7,Zh,Yu,h1,h2,decide_true,decide_false,cond_true,cond_false,WE,gA,YO,i1,i2,i3,i4,Option.bind_some,h3,h4,Bool.not_true,Zb,aR]
      ·simp only[h2,decide_true,Bool.true_and,if_true,Bool.not_true,Bool.false_eq_true,if_false,dite_true];exact l7
    |false=>
     simp only[Bool.and_false,Bool.false_eq_true,if_false];cases h4:lt d[first+root]! d[first+(2*root+1)]! with
     |false=>refine⟨_,av ?_,.inr rfl⟩;unfold LC;simp only[e1,e2,e3,e4,e5,e6,e7,Zh,Yu,h1,h2,decide_true,decide_false,cond_true,cond_false,WE,gA,i1,i2,i3,i4,Option.bind_some,h3,h4,Bool.not_false,if_true]
     |true=>
      obtain⟨q,hq,l7⟩:=ih (2*root+1) (swp d (first+root) (first+(2*root+1))) n (by omega) (by rw[size_swp];omega) (by omega) (by rw[size_swp];omega) (by omega);refine⟨q,?_,?_⟩
      ·rw[<-hq];refine aF ?_;unfold LC;simp only[e1,e2,e3,e4,e5,e6,e7,Zh,Yu,h1,h2,decide_true,decide_false,cond_true,cond_false,WE,gA,YO,i1,i2,i3,i4,Option.bind_some,h3,h4,Bool.not_true,Zb,aR]
      ·simp only[Bool.not_true,Bool.false_eq_true,if_false];exact l7
   ·simp only[show ¬(2*root+1+1<hi)from h2,decide_false,Bool.false_and,Bool.false_eq_true,if_false];cases h4:lt d[first+root]! d[first+(2*root+1)]! with
    |false=>refine⟨_,av ?_,.inr rfl⟩;unfold LC;simp only[e1,e2,e3,e4,e5,e6,e7,Zh,Yu,h1,h2,decide_true,decide_false,cond_true,cond_false,WE,gA,i1,i2,Option.bind_some,h4,Bool.not_false,if_true]
    |true=>
     obtain⟨q,hq,l7⟩:=ih (2*root+1) (swp d (first+root) (first+(2*root+1))) n (by omega) (by rw[size_swp];omega) (by omega) (by rw[size_swp];omega) (by omega);refine⟨q,?_,?_⟩
     ·rw[<-hq];refine aF ?_;unfold LC;simp only[e1,e2,e3,e4,e5,e6,e7,Zh,Yu,h1,h2,decide_true,decide_false,cond_true,cond_false,WE,gA,YO,i1,i2,Option.bind_some,h4,Bool.not_true,Zb,aR]
     ·simp only[Bool.not_true,Bool.false_eq_true,if_false];exact l7
theorem ZW(d:Array α)(root hi first:Nat)(hf:first+hi<=d.size)(hr:first+root<=255)(hd:d.size<=255):Qi lt d.toList (root:Int) (hi:Int) (first:Int)=some ((siftDown lt hi first root d).toList,()):=by unfold Qi PY;obtain⟨q,hq,rfl|rfl⟩:=acH (lt:=lt) hi first 256 root d big (by omega) hf hr hd (aN (by omega)) <;> rw[hq] <;> rfl
end
end Go.Fn
set_option linter.unusedSimpArgs false
set_option linter.unusedVariables false
namespace Go.Fn
open Go.R Go.Sort
section
variable {α:Type} [Inhabited α] {lt:α->α->Bool}
theorem X3(lt:α->α->Bool)(hi first root:Nat)(d:Array α):(siftDown lt hi first root d).size=d.size:=YX lt hi first (hi-root) root d (Nat.le_refl _)
theorem ge0(n:Nat):af .geq (n:Int) (0:Int)=true:=by simp[af]
theorem ae9:af .geq (-1:Int) (0:Int)=false:=rfl
theorem Yz {X Y S:Type} {body:X->Option (X⊕Y)} (st:S->Int->X) (fin:S->Y) (f:Nat->S->S) (Inv:S->Prop) (top:Nat) (akn:top<=1000)
  (hs:∀i s,i<top->Inv s->body (st s (i:Int))=some (.inl (st (f i s) (aa .sub .i64 (i:Int) 1)))/\Inv (f i s)) (he:∀s,body (st s (-1))=some (.inr (fin s))):
  ∀(k:Nat) (s:S) (n:Nat),k<=top->k<n->Inv s->iter body n (st s ((k:Int)-1))=some (fin (k.rec (motive:=fun _=>S->S) (fun s=>s) (fun k r s=>r (f k s)) s)):=by
 intro k;induction k with
 |zero=>
  intro s n _ hn _;obtain⟨n,rfl⟩:∃m,n=m+1:=⟨n-1,by omega⟩
  exact av (he s)
 |succ k ih=>
  intro s n hk hn hi;obtain⟨n,rfl⟩:∃m,n=m+1:=⟨n-1,by omega⟩
  obtain⟨h1,h2⟩:=hs k s (by omega) hi;rw[show((k+1:Nat):Int)-1=(k:Int)by omega,aF h1];have e:aa .sub .i64 (k:Int) 1=(k:Int)-1:=bM (by omega) (by omega);rw[e];exact ih (f k s) n (by omega) (by omega) h2
theorem W2(hi first:Nat):∀k (d:Array α),heapBuild lt hi first k d=k.rec (motive:=fun _=>Array α->Array α) (fun s=>s) (fun k r s=>r (siftDown lt hi first k s)) d
 |0,_=>rfl
 |k+1,d=>by rw[heapBuild,W2 hi first k]
theorem X8(first:Nat):∀k (d:Array α),heapPop lt first k d=k.rec (motive:=fun _=>Array α->Array α) (fun s=>s) (fun k r s=>r (siftDown lt k first 0 (swp s first (first+k)))) d
 |0,_=>rfl
 |k+1,d=>by rw[heapPop,X8 first k]
theorem Wu(hi first:Nat):∀k (d:Array α),(heapBuild lt hi first k d).size=d.size
 |0,_=>rfl
 |k+1,d=>by rw[heapBuild,Wu hi first k,X3]
theorem abO(d:Array α)(a b:Nat)(hab:a<b)(hb:b<=d.size)(hd:d.size<=255):Rd lt d.toList (a:Int) (b:Int)=some ((heapSort lt d a b).toList,()):=by
 unfold Rd PW PX heapSort;have z:az (2:Int)=false:=rfl;have e1:aa .sub .i64 (b:Int) (a:Int)=((b-a:Nat):Int):=sS (by omega) (by omega);have e2:aa .sub .i64 ((b-a:Nat):Int) 1=((b-a-1:Nat):Int):=sS (m:=1) (by omega) (by omega);have e3:aa .quo .i64 ((b-a-1:Nat):Int) (2:Int)=(((b-a-1) / 2:Nat):Int):=qS _ 2 (by omega);have hq:(b-a-1) / 2<=255:=by omega
 have l0:=Yz (body:=Oi lt ((a:Int),(0:Int),((b-a:Nat):Int),())) (fun(s:Array α) (i:Int)=>(s.toList,i,())) (fun s=>.inl (s.toList,())) (fun i s=>siftDown lt (b-a) a i s) (fun s=>s.size=d.size) ((b-a-1) / 2+1) (by omega) (fun i s hi hs=>⟨by
  unfold Oi;simp only[ge0,cond_true,ZW (lt:=lt) s i (b-a) a (by omega) (by omega) (by omega),Option.bind_some],by rw[X3];exact hs⟩) (fun s=>by
  unfold Oi;simp only[ae9,cond_false]) ((b-a-1) / 2+1) d big (by omega) (aN (by omega)) rfl
 rw[<-W2,show(((b-a-1) / 2+1:Nat):Int)-1=(((b-a-1) / 2:Nat):Int)by omega]at l0;have l2:=Yz (body:=Oj lt ((a:Int),(0:Int),())) (fun(s:Array α) (i:Int)=>(s.toList,i,())) (fun s=>.inl (s.toList,())) (fun i s=>siftDown lt i a 0 (swp s a (a+i))) (fun s=>s.size=d.size) (b-a) (by omega) (fun i s hi hs=>⟨by
  unfold Oj;have e4:aa .add .i64 (a:Int) (i:Int)=((a+i:Nat):Int):=aS (by omega);have e5:=ZW (lt:=lt) (swp s a (a+i)) 0 i a (by rw[size_swp];omega) (by omega) (by rw[size_swp];omega);simp only[ge0,cond_true,e4,WE,gA,YO,Zb,show a+i<s.size by omega,show a<s.size by omega,decide_true];rw[show(0:Int)=((0:Nat):Int)from rfl,e5];rfl,by rw[X3,size_swp];exact hs⟩) (fun s=>by
  unfold Oj;simp only[ae9,cond_false]) (b-a) (heapBuild lt (b-a) a ((b-a-1) / 2+1) d) big (Nat.le_refl _) (aN (by omega)) (Wu _ _ _ _)
 rw[<-X8,show((b-a:Nat):Int)-1=((b-a-1:Nat):Int)by omega]at l2;have hbd:heapBuild lt (b-a) a ((b-a-1) / 2) (siftDown lt (b-a) a ((b-a-1) / 2) d)=heapBuild lt (b-a) a ((b-a-1) / 2+1) d:=rfl;simp only[z,cond_false,e1,e2,e3,l0,Option.bind_some,Sum.elim_inl,hbd,l2]
theorem aaB{X Y:Type}{body:X->Option (X⊕Y)}(st:Nat->X)(fin:Nat->Y)(p:α->Bool)(d:Array α)(j:Nat)(hs:∀i,i<=256->body (st i)=some (bif decide (i<=j)&&p d[i]! then .inl (st (i+1))else .inr (fin i)))(hj:j<=255):
  ∀(k i n:Nat),j+1-i<=k->i<=256->k<n->iter body n (st i)=some (fin (scanUp p d j i)):=by
 intro k;induction k with
 |zero=>
  intro i n hk hi hn;obtain⟨n,rfl⟩:∃m,n=m+1:=⟨n-1,by omega⟩
  have h:¬(i<=j):=by omega
  unfold scanUp;simp only[h,decide_false,Bool.false_and,Bool.false_eq_true,if_false];refine av ?_;rw[hs i hi];simp only[h,decide_false,Bool.false_and,cond_false]
 |succ k ih=>
  intro i n hk hi hn;obtain⟨n,rfl⟩:∃m,n=m+1:=⟨n-1,by omega⟩
  unfold scanUp;have h1:=hs i hi;cases hc:(decide (i<=j)&&p d[i]!)with
  |true=>rw[hc]at h1;have:i<=j:=of_decide_eq_true (Bool.and_eq_true _ _▸hc).1;simp only[if_true];rw[aF h1];exact ih (i+1) n (by omega) (by omega) (by omega)
  |false=>rw[hc]at h1;simp only[Bool.false_eq_true,if_false];exact av h1
theorem Za{X Y:Type}{body:X->Option (X⊕Y)}(st:Nat->X)(fin:Nat->Y)(p:α->Bool)(d:Array α)(i:Nat)(hi:0<i)(hs:∀j,j<=255->j<d.size->body (st j)=some (bif decide (i<=j)&&p d[j]! then .inl (st (j-1))else .inr (fin j))):
  ∀(j n:Nat),j<d.size->j<=255->j<n->iter body n (st j)=some (fin (scanDown p d i j)):=by
 intro j;induction j with
 |zero=>
  intro n hj hj2 hn;obtain⟨n,rfl⟩:∃m,n=m+1:=⟨n-1,by omega⟩
  refine av ?_;rw[hs 0 (by omega) hj];simp only[show ¬(i<=0)by omega,decide_false,Bool.false_and,cond_false,scanDown]
 |succ j ih=>
  intro n hj hj2 hn;obtain⟨n,rfl⟩:∃m,n=m+1:=⟨n-1,by omega⟩
  unfold scanDown;have h1:=hs (j+1) hj2 hj;cases hc:(decide (i<=j+1)&&p d[j+1]!)with
  |true=>rw[hc]at h1;simp only[if_true];rw[aF h1];exact ih n (by omega) (by omega) (by omega)
  |false=>rw[hc]at h1;simp only[Bool.false_eq_true,if_false];exact av h1
section
variable (d:Array α) (a:Nat) (hd:d.size<=255) (ha:a<d.size)
include hd ha
theorem pq0(j i:Nat)(hj:j<d.size)(hi:i<=256):Pk lt ((a:Int),(j:Int),()) (d.toList,(i:Int),())=some (.inl (d.toList,((scanUp (fun x=>lt x d[a]!) d j i:Nat):Int),())):=by
 refine aaB (body:=Ot lt ((a:Int),(j:Int),())) (fun i=>(d.toList,(i:Int),())) (fun i=>Sum.inl (d.toList,(i:Int),())) (fun x=>lt x d[a]!) d j (fun i hi=>?_) (by omega) 256 i big (by omega) hi (aN (by omega));unfold Ot;by_cases h:i<=j
 ·simp only[leS,h,decide_true,cond_true,WE,gA,show i<d.size by omega,ha,Option.bind_some,Bool.true_and,au (n:=i) (by omega)];cases lt d[i]! d[a]! <;> rfl
 ·simp only[leS,h,decide_false,cond_false,Bool.false_and]
theorem pq6(j i:Nat)(hj:j<d.size)(hi:i<=256):Po lt ((a:Int),(j:Int),()) (d.toList,(i:Int),())=some (.inl (d.toList,((scanUp (fun x=>lt x d[a]!) d j i:Nat):Int),())):=pq0 d a hd ha j i hj hi
theorem pq2(i j:Nat)(hi:0<i)(hj:j<d.size):Pm lt ((a:Int),(i:Int),()) (d.toList,(j:Int),())=some (.inl (d.toList,((scanDown (fun x=>!lt x d[a]!) d i j:Nat):Int),())):=by
 refine Za (body:=Ou lt ((a:Int),(i:Int),())) (fun i=>(d.toList,(i:Int),())) (fun i=>Sum.inl (d.toList,(i:Int),())) (fun x=>!lt x d[a]!) d i hi (fun j hj hj2=>?_) j big hj (by omega) (aN (by omega));unfold Ou;by_cases h:i<=j
 ·have e:aa .sub .i64 (j:Int) 1=((j-1:Nat):Int):=sS (m:=1) (by omega) (by omega);simp only[leS,h,decide_true,cond_true,WE,gA,hj2,ha,Option.bind_some,Bool.true_and,e];cases lt d[j]! d[a]! <;> rfl
 ·simp only[leS,h,decide_false,cond_false,Bool.false_and]
theorem pq8(i j:Nat)(hi:0<i)(hj:j<d.size):Pp lt ((a:Int),(i:Int),()) (d.toList,(j:Int),())=some (.inl (d.toList,((scanDown (fun x=>!lt x d[a]!) d i j:Nat):Int),())):=pq2 d a hd ha i j hi hj
theorem pe2(j i:Nat)(hj:j<d.size)(hi:i<=256):Nw lt ((a:Int),(j:Int),()) (d.toList,(i:Int),())=some (.inl (d.toList,((scanUp (fun x=>!lt d[a]! x) d j i:Nat):Int),())):=by
 refine aaB (body:=Mv lt ((a:Int),(j:Int),())) (fun i=>(d.toList,(i:Int),())) (fun i=>Sum.inl (d.toList,(i:Int),())) (fun x=>!lt d[a]! x) d j (fun i hi=>?_) (by omega) 256 i big (by omega) hi (aN (by omega));unfold Mv;by_cases h:i<=j
 ·simp only[leS,h,decide_true,cond_true,WE,gA,show i<d.size by omega,ha,Option.bind_some,Bool.true_and,au (n:=i) (by omega)];cases lt d[a]! d[i]! <;> rfl
 ·simp only[leS,h,decide_false,cond_false,Bool.false_and]
theorem pe4(i j:Nat)(hi:0<i)(hj:j<d.size):Nx lt ((a:Int),(i:Int),()) (d.toList,(j:Int),())=some (.inl (d.toList,((scanDown (fun x=>lt d[a]! x) d i j:Nat):Int),())):=by
 refine Za (body:=Mw lt ((a:Int),(i:Int),())) (fun i=>(d.toList,(i:Int),())) (fun i=>Sum.inl (d.toList,(i:Int),())) (fun x=>lt d[a]! x) d i hi (fun j hj hj2=>?_) j big hj (by omega) (aN (by omega));unfold Mw;by_cases h:i<=j
 ·have e:aa .sub .i64 (j:Int) 1=((j-1:Nat):Int):=sS (m:=1) (by omega) (by omega);simp only[leS,h,decide_true,cond_true,WE,gA,hj2,ha,Option.bind_some,Bool.true_and,e];cases lt d[a]! d[j]! <;> rfl
 ·simp only[leS,h,decide_false,cond_false,Bool.false_and]
end
theorem aa3(a:Nat):∀(k i j:Nat) (d:Array α) (n:Nat),j+1-i<=k->d.size<=255->a<d.size->0<i->i<=256->j<d.size->k<n->iter (Mh lt ((a:Int),())) n (d.toList,(i:Int),(j:Int),())=some (.inl ((partLoop lt a i j d).2.toList,(((partLoop lt a i j d).1:Nat):Int),())):=by
 intro k;induction k with
 |zero=>
  intro i j d n hk hd ha hi lI hj hn;obtain⟨n,rfl⟩:∃m,n=m+1:=⟨n-1,by omega⟩
  rw[partLoop_eq];have h1:=scanUp_ge (fun x=>lt x d[a]!) d j i;have h2:=scanDown_le (fun x=>!lt x d[a]!) d (scanUp (fun x=>lt x d[a]!) d j i) j;have h:scanUp (fun x=>lt x d[a]!) d j i>scanDown (fun x=>!lt x d[a]!) d (scanUp (fun x=>lt x d[a]!) d j i) j:=by omega
  rw[if_pos h];refine av ?_;unfold Mh;simp only[pq6 (lt:=lt) d a hd ha j i hj lI,Option.bind_some,Sum.elim_inl,pq8 (lt:=lt) d a hd ha (scanUp (fun x=>lt x d[a]!) d j i) j (by omega) hj,gtS,h,decide_true,cond_true]
 |succ k ih=>
  intro i j d n hk hd ha hi lI hj hn;obtain⟨n,rfl⟩:∃m,n=m+1:=⟨n-1,by omega⟩
  rw[partLoop_eq];have h1:=scanUp_ge (fun x=>lt x d[a]!) d j i;have h2:=scanDown_le (fun x=>!lt x d[a]!) d (scanUp (fun x=>lt x d[a]!) d j i) j;have hr:iter (Mh lt ((a:Int),())) (n+1) (d.toList,(i:Int),(j:Int),())=iter (Mh lt ((a:Int),())) (n+1) (d.toList,(i:Int),(j:Int),()):=rfl;by_cases h:scanUp (fun x=>lt x d[a]!) d j i>scanDown (fun x=>!lt x d[a]!) d (scanUp (fun x=>lt x d[a]!) d j i) j
  ·rw[if_pos h];refine av ?_;unfold Mh;simp only[pq6 (lt:=lt) d a hd ha j i hj lI,Option.bind_some,Sum.elim_inl,pq8 (lt:=lt) d a hd ha (scanUp (fun x=>lt x d[a]!) d j i) j (by omega) hj,gtS,h,decide_true,cond_true]
  ·rw[if_neg h];have e6:=pq6 (lt:=lt) d a hd ha j i hj lI;have e8:=pq8 (lt:=lt) d a hd ha (scanUp (fun x=>lt x d[a]!) d j i) j (by omega) hj;generalize scanDown (fun x=>!lt x d[a]!) d (scanUp (fun x=>lt x d[a]!) d j i) j=j2 at h h2 e8⊢;generalize scanUp (fun x=>lt x d[a]!) d j i=i2 at h h1 e6 e8⊢;rw[<-ih (i2+1) (j2-1) (swp d i2 j2) n (by omega) (by rw[size_swp];omega) (by rw[size_swp];omega) (by omega) (by omega) (by rw[size_swp];omega) (by omega)];refine aF ?_;have e:aa .sub .i64 (j2:Int) 1=((j2-1:Nat):Int):=sS (m:=1) (by omega) (by omega);unfold Mh;simp only[e6,Option.bind_some,Sum.elim_inl,e8,gtS,h,decide_false,cond_false,WE,gA,YO,show i2<d.size by omega,show j2<d.size by omega,decide_true,cond_true,Zb,e,au (n:=i2) (by omega)]
theorem ZS(a:Nat):∀(k i j:Nat) (d:Array α) (n:Nat),j+1-i<=k->d.size<=255->a<d.size->0<i->i<=256->j<d.size->k<n->iter (Ls lt ((a:Int),())) n (d.toList,(i:Int),(j:Int),())=some (.inl ((partEqLoop lt a i j d).2.toList,(((partEqLoop lt a i j d).1:Nat):Int),())):=by
 intro k;induction k with
 |zero=>
  intro i j d n hk hd ha hi lI hj hn;obtain⟨n,rfl⟩:∃m,n=m+1:=⟨n-1,by omega⟩
  rw[partEqLoop_eq];have h1:=scanUp_ge (fun x=>!lt d[a]! x) d j i;have h2:=scanDown_le (fun x=>lt d[a]! x) d (scanUp (fun x=>!lt d[a]! x) d j i) j;have h:scanUp (fun x=>!lt d[a]! x) d j i>scanDown (fun x=>lt d[a]! x) d (scanUp (fun x=>!lt d[a]! x) d j i) j:=by omega
  rw[if_pos h];refine av ?_;unfold Ls;simp only[pe2 (lt:=lt) d a hd ha j i hj lI,Option.bind_some,Sum.elim_inl,pe4 (lt:=lt) d a hd ha (scanUp (fun x=>!lt d[a]! x) d j i) j (by omega) hj,gtS,h,decide_true,cond_true]
 |succ k ih=>
  intro i j d n hk hd ha hi lI hj hn;obtain⟨n,rfl⟩:∃m,n=m+1:=⟨n-1,by omega⟩
  rw[partEqLoop_eq];have h1:=scanUp_ge (fun x=>!lt d[a]! x) d j i;have h2:=scanDown_le (fun x=>lt d[a]! x) d (scanUp (fun x=>!lt d[a]! x) d j i) j;by_cases h:scanUp (fun x=>!lt d[a]! x) d j i>scanDown (fun x=>lt d[a]! x) d (scanUp (fun x=>!lt d[a]! x) d j i) j
  ·rw[if_pos h];refine av ?_;unfold Ls;simp only[pe2 (lt:=lt) d a hd ha j i hj lI,Option.bind_some,Sum.elim_inl,pe4 (lt:=lt) d a hd ha (scanUp (fun x=>!lt d[a]! x) d j i) j (by omega) hj,gtS,h,decide_true,cond_true]
  ·rw[if_neg h];have e6:=pe2 (lt:=lt) d a hd ha j i hj lI;have e8:=pe4 (lt:=lt) d a hd ha (scanUp (fun x=>!lt d[a]! x) d j i) j (by omega) hj;generalize scanDown (fun x=>lt d[a]! x) d (scanUp (fun x=>!lt d[a]! x) d j i) j=j2 at h h2 e8⊢;generalize scanUp (fun x=>!lt d[a]! x) d j i=i2 at h h1 e6 e8⊢;rw[<-ih (i2+1) (j2-1) (swp d i2 j2) n (by omega) (by rw[size_swp];omega) (by rw[size_swp];omega) (by omega) (by omega) (by rw[size_swp];omega) (by omega)];refine aF ?_;have e:aa .sub .i64 (j2:Int) 1=((j2-1:Nat):Int):=sS (m:=1) (by omega) (by omega);unfold Ls;simp only[e6,Option.bind_some,Sum.elim_inl,e8,gtS,h,decide_false,cond_false,WE,gA,YO,show i2<d.size by omega,show j2<d.size by omega,decide_true,cond_true,Zb,e,au (n:=i2) (by omega)]
theorem aal(d:Array α)(a b p:Nat)(hab:a<b)(hb:b<=d.size)(hd:d.size<=255)(hp:p<d.size):Jq lt d.toList (a:Int) (b:Int) (p:Int)=some ((((partitionEqual lt d a b p).1:Nat):Int),(partitionEqual lt d a b p).2.toList,()):=by unfold Jq Nv partitionEqual;have e:aa .sub .i64 (b:Int) 1=((b-1:Nat):Int):=sS (m:=1) (by omega) (by omega);simp only[WE,gA,YO,show a<d.size by omega,hp,decide_true,cond_true,Zb,e,au (n:=a) (by omega),ZS (lt:=lt) a 256 (a+1) (b-1) (swp d a p) big (by omega) (by rw[size_swp];omega) (by rw[size_swp];omega) (by omega) (by omega) (by rw[size_swp];omega) (aN (by omega)),Option.bind_some,Sum.elim_inl]
theorem YU(a:Nat):∀(k i j:Nat) (d:Array α),j+1-i<=k->(partLoop lt a i j d).2.size=d.size/\(partLoop lt a i j d).1<=j:=by
 intro k;induction k with
 |zero=>intro i j d hk;rw[partLoop_eq];have h1:=scanUp_ge (fun x=>lt x d[a]!) d j i;have h2:=scanDown_le (fun x=>!lt x d[a]!) d (scanUp (fun x=>lt x d[a]!) d j i) j;rw[if_pos (by omega)];exact⟨rfl,h2⟩
 |succ k ih=>
  intro i j d hk;rw[partLoop_eq];have h1:=scanUp_ge (fun x=>lt x d[a]!) d j i;have h2:=scanDown_le (fun x=>!lt x d[a]!) d (scanUp (fun x=>lt x d[a]!) d j i) j;split
  ·exact⟨rfl,h2⟩
  ·obtain⟨h3,h4⟩:=ih (scanUp (fun x=>lt x d[a]!) d j i+1) (scanDown (fun x=>!lt x d[a]!) d (scanUp (fun x=>lt x d[a]!) d j i) j-1) (swp d (scanUp (fun x=>lt x d[a]!) d j i) (scanDown (fun x=>!lt x d[a]!) d (scanUp (fun x=>lt x d[a]!) d j i) j)) (by omega);exact⟨by rw[h3,size_swp],by omega⟩
theorem abP(d:Array α)(a b p:Nat)(hab:a<b)(hb:b<=d.size)(hd:d.size<=255)(hp:p<d.size):Jf lt d.toList (a:Int) (b:Int) (p:Int)=some ((((partition lt d a b p).1:Nat):Int),(partition lt d a b p).2.1,(partition lt d a b p).2.2.toList,()):=by
 unfold Jf Pn partition;have e:aa .sub .i64 (b:Int) 1=((b-1:Nat):Int):=sS (m:=1) (by omega) (by omega);have hs:(swp d a p).size=d.size:=size_swp _ _ _;have e0:=pq0 (lt:=lt) (swp d a p) a (by omega) (by omega) (b-1) (a+1) (by omega) (by omega);have h1:=scanUp_ge (fun x=>lt x (swp d a p)[a]!) (swp d a p) (b-1) (a+1);have e2:=pq2 (lt:=lt) (swp d a p) a (by omega) (by omega) (scanUp (fun x=>lt x (swp d a p)[a]!) (swp d a p) (b-1) (a+1)) (b-1) (by omega) (by omega);have h2:=scanDown_le (fun x=>!lt x (swp d a p)[a]!) (swp d a p) (scanUp (fun x=>lt x (swp d a p)[a]!) (swp d a p) (b-1) (a+1)) (b-1);simp only[WE,gA,YO,show a<d.size by omega,hp,decide_true,cond_true,Zb,e,au (n:=a) (by omega),e0,e2,Option.bind_some,Sum.elim_inl];generalize scanDown (fun x=>!lt x (swp d a p)[a]!) (swp d a p) (scanUp (fun x=>lt x (swp d a p)[a]!) (swp d a p) (b-1) (a+1)) (b-1)=j2 at h2 e2⊢;generalize scanUp (fun x=>lt x (swp d a p)[a]!) (swp d a p) (b-1) (a+1)=i2 at h1 e0 e2⊢;by_cases h:i2>j2
 ·simp only[gtS,h,decide_true,cond_true,if_true,WE,gA,YO,hs,show a<d.size by omega,show j2<d.size by omega,Zb]
 ·have e3:aa .sub .i64 (j2:Int) 1=((j2-1:Nat):Int):=sS (m:=1) (by omega) (by omega);have tR:(swp (swp d a p) i2 j2).size=d.size:=by rw[size_swp,hs]
  have e4:=aa3 (lt:=lt) a 256 (i2+1) (j2-1) (swp (swp d a p) i2 j2) big (by omega) (by omega) (by omega) (by omega) (by omega) (by omega) (aN (by omega));obtain⟨h3,h4⟩:=YU (lt:=lt) a 256 (i2+1) (j2-1) (swp (swp d a p) i2 j2) (by omega);simp only[gtS,h,decide_false,cond_false,if_false,WE,gA,YO,hs,show i2<d.size by omega,show j2<d.size by omega,Zb,decide_true,cond_true,e3,au (n:=i2) (by omega),e4,Option.bind_some,Sum.elim_inl,h3,tR,show a<d.size by omega,show(partLoop lt a (i2+1) (j2-1) (swp (swp d a p) i2 j2)).1<d.size by omega]
end
end Go.Fn
set_option linter.unusedSimpArgs false
set_option linter.unusedVariables false
namespace Go.Fn
open Go.R Go.Sort
section
variable {α:Type} [Inhabited α] {lt:α->α->Bool}
theorem Wv:∀j (d:Array α),(shiftDown lt j d).size=d.size
 |0,_=>rfl
 |j+1,d=>by
  unfold shiftDown;split
  ·rfl
  ·rw[Wv j,size_swp]
theorem Zq(b:Nat):∀(k j:Nat) (d:Array α),b-j<=k->(shiftUp lt b j d).size=d.size:=by
 intro k;induction k with
 |zero=>intro j d h;unfold shiftUp;rw[if_neg (by omega)]
 |succ k ih=>
  intro j d h;unfold shiftUp;split
  ·split
   ·rfl
   ·rw[ih (j+1) _ (by omega),size_swp]
  ·rfl
theorem YW(d:Array α)(b:Nat):∀(k i:Nat),b-i<=k->i<=scanSorted lt d b i/\(i<=b->scanSorted lt d b i<=b):=by
 intro k;induction k with
 |zero=>
  intro i h;unfold scanSorted;have:¬(i<b):=by omega
  simp only[this,decide_false,Bool.false_and,Bool.false_eq_true,if_false];exact⟨Nat.le_refl _,fun h=>h⟩
 |succ k ih=>
  intro i h;unfold scanSorted;split
  ·rename_i hc;simp only[Bool.and_eq_true,decide_eq_true_eq]at hc;have:=ih (i+1) (by omega);exact⟨by omega,fun _=>this.2 (by omega)⟩
  ·exact⟨Nat.le_refl _,fun h=>h⟩
theorem pi2(d:Array α)(hd:d.size<=255)(a b j:Int)(bn:Nat)(hb:bn<=d.size):∀(k i n:Nat),bn-i<=k->0<i->i<=256->k<n->iter (J9 lt (a,(bn:Int),j,())) n (d.toList,(i:Int),())=some (.inl (d.toList,((scanSorted lt d bn i:Nat):Int),())):=by
 intro k;induction k with
 |zero=>
  intro i n hk h0 hi hn;obtain⟨n,rfl⟩:∃m,n=m+1:=⟨n-1,by omega⟩
  refine av ?_;have h:¬(i<bn):=by omega
  unfold J9 scanSorted;simp only[Yu,h,decide_false,cond_false,Bool.false_and,Bool.false_eq_true,if_false]
 |succ k ih=>
  intro i n hk h0 hi hn;obtain⟨n,rfl⟩:∃m,n=m+1:=⟨n-1,by omega⟩
  unfold scanSorted;by_cases h:i<bn
  ·have e:aa .sub .i64 (i:Int) 1=((i-1:Nat):Int):=sS (m:=1) (by omega) (by omega);cases hl:lt d[i]! d[i-1]! with
   |true=>simp only[Bool.not_true,Bool.and_false,Bool.false_eq_true,if_false];refine av ?_;unfold J9;simp only[Yu,h,decide_true,cond_true,e,WE,gA,show i<d.size by omega,show i-1<d.size by omega,Option.bind_some,hl,Bool.not_true,cond_false]
   |false=>simp only[h,Bool.not_false,Bool.and_true,decide_true,if_true];rw[<-ih (i+1) n (by omega) (by omega) (by omega) (by omega)];refine aF ?_;unfold J9;simp only[Yu,h,decide_true,cond_true,e,WE,gA,show i<d.size by omega,show i-1<d.size by omega,Option.bind_some,hl,Bool.not_false,au (n:=i) (by omega)]
  ·simp only[h,decide_false,Bool.false_and,Bool.false_eq_true,if_false];refine av ?_;unfold J9;simp only[Yu,h,decide_false,cond_false]
theorem pi4(k:Int×Int×Int×Int×Unit):∀(j:Nat) (d:Array α) (n:Nat),j<d.size->d.size<=255->j<n->iter (KQ lt k) n (d.toList,(j:Int),())=some (.inl ((shiftDown lt j d).toList,())):=by
 intro j;induction j with
 |zero=>
  intro d n hj hd hn;obtain⟨n,rfl⟩:∃m,n=m+1:=⟨n-1,by omega⟩
  exact av rfl
 |succ j ih=>
  intro d n hj hd hn;obtain⟨n,rfl⟩:∃m,n=m+1:=⟨n-1,by omega⟩
  have e1:aa .sub .i64 ((j+1:Nat):Int) (1:Int)=(j:Int):=iD (by omega);have g:af .geq ((j+1:Nat):Int) (1:Int)=true:=(Zh (j+1) 1).trans (decide_eq_true (by omega));unfold shiftDown;cases hl:lt d[j+1]! d[j]! with
  |true=>simp only[Bool.not_true,Bool.false_eq_true,if_false];rw[<-ih (swp d (j+1) j) n (by rw[size_swp];omega) (by rw[size_swp];omega) (by omega)];refine aF ?_;unfold KQ;simp only[g,cond_true,e1,WE,gA,YO,hj,show j<d.size by omega,decide_true,Option.bind_some,hl,Bool.not_true,cond_false,Zb]
  |false=>simp only[Bool.not_false,if_true];refine av ?_;unfold KQ;simp only[g,cond_true,e1,WE,gA,YO,hj,show j<d.size by omega,decide_true,Option.bind_some,hl,Bool.not_false]
theorem pi6(a b i j:Int)(bn:Nat):∀(k jn:Nat) (d:Array α) (n:Nat),bn-jn<=k->0<jn->jn<=256->bn<=d.size->d.size<=255->k<n->iter (Ka lt (a,(bn:Int),i,j,())) n (d.toList,(jn:Int),())=some (.inl ((shiftUp lt bn jn d).toList,())):=by
 intro k;induction k with
 |zero=>
  intro jn d n hk h0 h1 hb hd hn;obtain⟨n,rfl⟩:∃m,n=m+1:=⟨n-1,by omega⟩
  have h:¬(jn<bn):=by omega
  unfold shiftUp;rw[if_neg h];refine av ?_;unfold Ka;simp only[Yu,h,decide_false,cond_false]
 |succ k ih=>
  intro jn d n hk h0 h1 hb hd hn;obtain⟨n,rfl⟩:∃m,n=m+1:=⟨n-1,by omega⟩
  unfold shiftUp;by_cases h:jn<bn
  ·have e:aa .sub .i64 (jn:Int) 1=((jn-1:Nat):Int):=sS (m:=1) (by omega) (by omega);simp only[h,if_true];cases hl:lt d[jn]! d[jn-1]! with
   |true=>simp only[Bool.not_true,Bool.false_eq_true,if_false];rw[<-ih (jn+1) (swp d jn (jn-1)) n (by omega) (by omega) (by omega) (by rw[size_swp];omega) (by rw[size_swp];omega) (by omega)];refine aF ?_;unfold Ka;simp only[Yu,h,decide_true,cond_true,e,WE,gA,YO,show jn<d.size by omega,show jn-1<d.size by omega,Option.bind_some,hl,Bool.not_true,cond_false,Zb,au (n:=jn) (by omega)]
   |false=>simp only[Bool.not_false,if_true];refine av ?_;unfold Ka;simp only[Yu,h,decide_true,cond_true,e,WE,gA,YO,show jn<d.size by omega,show jn-1<d.size by omega,Option.bind_some,hl,Bool.not_false]
  ·simp only[h,if_false];refine av ?_;unfold Ka;simp only[Yu,h,decide_false,cond_false]
theorem pi0(a b:Nat)(hab:a<b):∀(s:Nat),s<=5->∀(i:Nat) (d:Array α) (n:Nat),a<i->i<=b->b<=d.size->d.size<=255->s<n ->
  ∃q,iter (JJ lt ((a:Int),(b:Int),())) n (d.toList,(i:Int),((5-s:Nat):Int),())=some q/\(q=.inl ((partialIns lt a b s i d).1.toList,(partialIns lt a b s i d).2,())\/((partialIns lt a b s i d).2=false/\q=.inr (.inl ((partialIns lt a b s i d).1.toList,())))):=by
 intro s;induction s with
 |zero=>
  intro hs i d n ha hi hb hd hn;obtain⟨n,rfl⟩:∃m,n=m+1:=⟨n-1,by omega⟩
  exact⟨_,av rfl,.inr ⟨rfl,rfl⟩⟩
 |succ s ih=>
  intro hs i d n ha hi hb hd hn;obtain⟨n,rfl⟩:∃m,n=m+1:=⟨n-1,by omega⟩
  have g5:af .lss ((5-(s+1):Nat):Int) (5:Int)=true:=(Yu (5-(s+1)) 5).trans (decide_eq_true (by omega));have e2:LJ lt ((a:Int),(b:Int),((5-(s+1):Nat):Int),()) (d.toList,(i:Int),())=_:=pi2 (lt:=lt) d hd (a:Int) (b:Int) ((5-(s+1):Nat):Int) b hb 256 i big (by omega) (by omega) (by omega) (aN (by omega));have eb:aa .sub .i64 (b:Int) (a:Int)=((b-a:Nat):Int):=sS (by omega) (by omega);have es:aa .add .i64 ((5-(s+1):Nat):Int) 1=((5-s:Nat):Int):=by rw[au (by omega)];congr 1;omega
  obtain⟨h1,h2⟩:=YW (lt:=lt) d b (b-i) i (Nat.le_refl _);have h2:=h2 hi;unfold partialIns;simp only[];generalize scanSorted lt d b i=i2 at e2 h1 h2⊢;by_cases hbi:i2=b
  ·subst hbi;rw[if_pos rfl];refine⟨_,av ?_,.inl rfl⟩;unfold JJ;simp only[g5,cond_true,e2,Option.bind_some,Sum.elim_inl,eqS,decide_true]
  ·rw[if_neg hbi];by_cases h50:b-a<50
   ·rw[if_pos h50];refine⟨_,av ?_,.inl rfl⟩;unfold JJ;simp only[g5,cond_true,e2,Option.bind_some,Sum.elim_inl,eqS,hbi,decide_false,cond_false,eb,show af .lss ((b-a:Nat):Int) (50:Int)=true from(Yu (b-a) 50).trans (decide_eq_true h50)]
   ·rw[if_neg h50];have e50:af .lss ((b-a:Nat):Int) (50:Int)=false:=(Yu (b-a) 50).trans (decide_eq_false h50);have em:aa .sub .i64 (i2:Int) 1=((i2-1:Nat):Int):=sS (m:=1) (by omega) (by omega);have ea:aa .sub .i64 (i2:Int) (a:Int)=((i2-a:Nat):Int):=sS (by omega) (by omega);have ebi:aa .sub .i64 (b:Int) (i2:Int)=((b-i2:Nat):Int):=sS (by omega) (by omega);have hsz:(swp d i2 (i2-1)).size=d.size:=size_swp _ _ _;have e4:LK lt ((a:Int),(b:Int),(i2:Int),((5-(s+1):Nat):Int),()) ((swp d i2 (i2-1)).toList,((i2-1:Nat):Int),())=_:=pi4 (lt:=lt) ((a:Int),(b:Int),(i2:Int),((5-(s+1):Nat):Int),()) (i2-1) (swp d i2 (i2-1)) big (by omega) (by omega) (aN (by omega));have e6:∀d':Array α,d'.size=d.size->K7 lt ((a:Int),(b:Int),(i2:Int),((5-(s+1):Nat):Int),()) (d'.toList,((i2+1:Nat):Int),())=some (.inl ((shiftUp lt b (i2+1) d').toList,())):=fun d' Db=>pi6 (lt:=lt) (a:Int) (b:Int) (i2:Int) ((5-(s+1):Nat):Int) b 256 (i2+1) d' big (by omega) (by omega) (by omega) (by omega) (by omega) (aN (by omega));have hd4:(shiftDown lt (i2-1) (swp d i2 (i2-1))).size=d.size:=by rw[Wv,hsz]
    have hf:∀d':Array α,d'.size=d.size->(shiftUp lt b (i2+1) d').size=d.size:=fun d' h=>by rw[Zq b b _ _ (by omega),h]
    by_cases hA:i2-a>=2
    ·have gA2:af .geq ((i2-a:Nat):Int) (2:Int)=true:=(Zh (i2-a) 2).trans (decide_eq_true hA);by_cases hB:b-i2>=2
     ·have gB2:af .geq ((b-i2:Nat):Int) (2:Int)=true:=(Zh (b-i2) 2).trans (decide_eq_true hB);simp only[hA,hB,if_true];obtain⟨q,hq,l7⟩:=ih (by omega) i2 (shiftUp lt b (i2+1) (shiftDown lt (i2-1) (swp d i2 (i2-1)))) n (by omega) (by omega) (by rw[hf _ hd4];omega) (by rw[hf _ hd4];omega) (by omega);refine⟨q,?_,l7⟩;rw[<-hq];refine aF ?_;unfold JJ;simp only[g5,cond_true,e2,Option.bind_some,Sum.elim_inl,eqS,hbi,decide_false,cond_false,eb,e50,em,WE,gA,YO,show i2<d.size by omega,show i2-1<d.size by omega,decide_true,Zb,ea,gA2,e4,ebi,gB2,au (n:=i2) (by omega),e6 _ hd4,es]
     ·have gB2:af .geq ((b-i2:Nat):Int) (2:Int)=false:=(Zh (b-i2) 2).trans (decide_eq_false hB);simp only[hA,hB,if_true,if_false];obtain⟨q,hq,l7⟩:=ih (by omega) i2 (shiftDown lt (i2-1) (swp d i2 (i2-1))) n (by omega) (by omega) (by rw[hd4];omega) (by rw[hd4];omega) (by omega);refine⟨q,?_,l7⟩;rw[<-hq];refine aF ?_;unfold JJ;simp only[g5,cond_true,e2,Option.bind_some,Sum.elim_inl,eqS,hbi,decide_false,cond_false,eb,e50,em,WE,gA,YO,show i2<d.size by omega,show i2-1<d.size by omega,decide_true,Zb,ea,gA2,e4,ebi,gB2,es]
    ·have gA2:af .geq ((i2-a:Nat):Int) (2:Int)=false:=(Zh (i2-a) 2).trans (decide_eq_false hA);by_cases hB:b-i2>=2
     ·have gB2:af .geq ((b-i2:Nat):Int) (2:Int)=true:=(Zh (b-i2) 2).trans (decide_eq_true hB);simp only[hA,hB,if_true,if_false];obtain⟨q,hq,l7⟩:=ih (by omega) i2 (shiftUp lt b (i2+1) (swp d i2 (i2-1))) n (by omega) (by omega) (by rw[hf _ hsz];omega) (by rw[hf _ hsz];omega) (by omega);refine⟨q,?_,l7⟩;rw[<-hq];refine aF ?_;unfold JJ;simp only[g5,cond_true,e2,Option.bind_some,Sum.elim_inl,eqS,hbi,decide_false,cond_false,eb,e50,em,WE,gA,YO,show i2<d.size by omega,show i2-1<d.size by omega,decide_true,Zb,ea,gA2,ebi,gB2,au (n:=i2) (by omega),e6 _ hsz,es]
     ·have gB2:af .geq ((b-i2:Nat):Int) (2:Int)=false:=(Zh (b-i2) 2).trans (decide_eq_false hB);simp only[hA,hB,if_false];obtain⟨q,hq,l7⟩:=ih (by omega) i2 (swp d i2 (i2-1)) n (by omega) (by omega) (by rw[hsz];omega) (by rw[hsz];omega) (by omega);refine⟨q,?_,l7⟩;rw[<-hq];refine aF ?_;unfold JJ;simp only[g5,cond_true,e2,Option.bind_some,Sum.elim_inl,eqS,hbi,decide_false,cond_false,eb,e50,em,WE,gA,YO,show i2<d.size by omega,show i2-1<d.size by omega,decide_true,Zb,ea,gA2,ebi,gB2,es]
theorem ZV(d:Array α)(a b:Nat)(hab:a<b)(hb:b<=d.size)(hd:d.size<=255):Kk lt d.toList (a:Int) (b:Int)=some ((partialInsertionSort lt d a b).2,(partialInsertionSort lt d a b).1.toList,()):=by
 unfold Kk LI partialInsertionSort;obtain⟨q,hq,rfl|⟨h2,rfl⟩⟩:=pi0 (lt:=lt) a b hab 5 (Nat.le_refl _) (a+1) d big (by omega) (by omega) hb hd (aN (by omega))
 ·rw[au (n:=a) (by omega)];rw[show(0:Int)=((5-5:Nat):Int)from rfl,hq];rfl
 ·rw[au (n:=a) (by omega)];rw[show(0:Int)=((5-5:Nat):Int)from rfl,hq,h2];rfl
theorem abN(a b:Nat):∀(k i j:Nat) (d:Array α) (n:Nat),j-i<=k->a<=i->j<b->b<=d.size->d.size<=255->i<=300->k<n->∃d',iter (L5 lt ()) n (d.toList,(i:Int),(j:Int),())=some (.inl (d'.toList,()))/\PermIn a b d d':=by
 intro k;induction k with
 |zero=>
  intro i j d n hk ha hj hb hd hi hn;obtain⟨n,rfl⟩:∃m,n=m+1:=⟨n-1,by omega⟩
  refine⟨d,av ?_,permIn_refl d a b⟩;unfold L5;simp only[Yu,show ¬(i<j)by omega,decide_false,cond_false]
 |succ k ih=>
  intro i j d n hk ha hj hb hd hi hn;obtain⟨n,rfl⟩:∃m,n=m+1:=⟨n-1,by omega⟩
  by_cases h:i<j
  ·obtain⟨d',h1,h2⟩:=ih (i+1) (j-1) (swp d i j) n (by omega) (by omega) (by omega) (by rw[size_swp];omega) (by rw[size_swp];omega) (by omega) (by omega);refine⟨d',?_,permIn_trans _ _ _ a b (swp_permIn d a b i j ha (by omega) (by omega) hj hb) h2⟩;rw[<-h1];refine aF ?_;have e:aa .sub .i64 (j:Int) 1=((j-1:Nat):Int):=sS (m:=1) (by omega) (by omega);unfold L5;simp only[Yu,h,decide_true,cond_true,WE,gA,YO,show i<d.size by omega,show j<d.size by omega,Zb,e,au (n:=i) (by omega)]
  ·refine⟨d,av ?_,permIn_refl d a b⟩;unfold L5;simp only[Yu,h,decide_false,cond_false]
theorem Z0(d:Array α)(a b:Nat)(hab:a<b)(hb:b<=d.size)(hd:d.size<=255):∃d',NV lt d.toList (a:Int) (b:Int)=some (d'.toList,())/\PermIn a b d d':=by obtain⟨d',h1,h2⟩:=abN (lt:=lt) a b 256 a (b-1) d big (by omega) (Nat.le_refl _) (by omega) hb hd (by omega) (aN (by omega));refine⟨d',?_,h2⟩;have e:aa .sub .i64 (b:Int) 1=((b-1:Nat):Int):=sS (m:=1) (by omega) (by omega);unfold NV N3;rw[e,h1];rfl
theorem Qw(d:Array α)(a b:Nat)(s:Int)(ha:a<d.size)(hb:b<d.size):∃s',QX lt d.toList (a:Int) (b:Int) s=some ((a:Int),(b:Int),s',())\/QX lt d.toList (a:Int) (b:Int) s=some ((b:Int),(a:Int),s',()):=by
 unfold QX;simp only[WE,gA,ha,hb,decide_true,cond_true,Option.bind_some];cases lt d[b]! d[a]!
 ·exact⟨_,.inl rfl⟩
 ·exact⟨_,.inr rfl⟩
theorem WC(d:Array α)(a b c:Nat)(s:Int)(ha:a<d.size)(hb:b<d.size)(hc:c<d.size):∃(m:Nat) (s':Int),RA lt d.toList (a:Int) (b:Int) (c:Int) s=some ((m:Int),s',())/\(m=a\/m=b\/m=c):=by
 unfold RA;obtain⟨s1,h1|h1⟩:=Qw (lt:=lt) d a b s ha hb
 ·obtain⟨s2,h2|h2⟩:=Qw (lt:=lt) d b c s1 hb hc
  ·obtain⟨s3,h3|h3⟩:=Qw (lt:=lt) d a b s2 ha hb
   ·exact⟨b,s3,by simp only[h1,h2,h3,Option.bind_some],.inr (.inl rfl)⟩
   ·exact⟨a,s3,by simp only[h1,h2,h3,Option.bind_some],.inl rfl⟩
  ·obtain⟨s3,h3|h3⟩:=Qw (lt:=lt) d a c s2 ha hc
   ·exact⟨c,s3,by simp only[h1,h2,h3,Option.bind_some],.inr (.inr rfl)⟩
   ·exact⟨a,s3,by simp only[h1,h2,h3,Option.bind_some],.inl rfl⟩
 ·obtain⟨s2,h2|h2⟩:=Qw (lt:=lt) d a c s1 ha hc
  ·obtain⟨s3,h3|h3⟩:=Qw (lt:=lt) d b a s2 hb ha
   ·exact⟨a,s3,by simp only[h1,h2,h3,Option.bind_some],.inl rfl⟩
   ·exact⟨b,s3,by simp only[h1,h2,h3,Option.bind_some],.inr (.inl rfl)⟩
  ·obtain⟨s3,h3|h3⟩:=Qw (lt:=lt) d b c s2 hb hc
   ·exact⟨c,s3,by simp only[h1,h2,h3,Option.bind_some],.inr (.inr rfl)⟩
   ·exact⟨b,s3,by simp only[h1,h2,h3,Option.bind_some],.inr (.inl rfl)⟩
theorem YL(d:Array α)(a:Nat)(s:Int)(ha:0<a)(ha2:a+1<d.size)(hd:d.size<=255):∃(m:Nat) (s':Int),Mp lt d.toList (a:Int) s=some ((m:Int),s',())/\(m=a-1\/m=a\/m=a+1):=by have e:aa .sub .i64 (a:Int) 1=((a-1:Nat):Int):=sS (m:=1) (by omega) (by omega);obtain⟨m,s',h1,h2⟩:=WC (lt:=lt) d (a-1) a (a+1) s (by omega) (by omega) (by omega);refine⟨m,s',?_,h2⟩;unfold Mp;rw[e,au (n:=a) (by omega),h1];rfl
theorem Y5(p c:Int):∃h:Int,(bif (af .eql c (0:Int))then some (p,(1:Int),())else(bif (af .eql c (12:Int))then some (p,(2:Int),())else some (p,(0:Int),())))=some (p,h,()):=by
 cases af .eql c (0:Int)
 ·cases af .eql c (12:Int) <;> exact⟨_,rfl⟩
 ·exact⟨_,rfl⟩
theorem Yi(d:Array α)(a b:Nat)(hab:a+12<b)(hb:b<=d.size)(hd:d.size<=255):∃(p:Nat) (h:Int),Oh lt d.toList (a:Int) (b:Int)=some ((p:Int),h,())/\a<=p/\p<b:=by
 have z:az (4:Int)=false:=rfl;have e1:aa .sub .i64 (b:Int) (a:Int)=((b-a:Nat):Int):=sS (by omega) (by omega);have g8:af .geq ((b-a:Nat):Int) (8:Int)=true:=(Zh (b-a) 8).trans (decide_eq_true (by omega));have eq:aa .quo .i64 ((b-a:Nat):Int) (4:Int)=(((b-a) / 4:Nat):Int):=qS _ 4 (by omega);have m1:aa .mul .i64 (((b-a) / 4:Nat):Int) (1:Int)=(((b-a) / 4*1:Nat):Int):=mS (m:=1) (by omega);have m2:aa .mul .i64 (((b-a) / 4:Nat):Int) (2:Int)=(((b-a) / 4*2:Nat):Int):=mS (m:=2) (by omega);have m3:aa .mul .i64 (((b-a) / 4:Nat):Int) (3:Int)=(((b-a) / 4*3:Nat):Int):=mS (m:=3) (by omega);have a1:aa .add .i64 (a:Int) (((b-a) / 4*1:Nat):Int)=((a+(b-a) / 4*1:Nat):Int):=aS (by omega);have a2:aa .add .i64 (a:Int) (((b-a) / 4*2:Nat):Int)=((a+(b-a) / 4*2:Nat):Int):=aS (by omega);have a3:aa .add .i64 (a:Int) (((b-a) / 4*3:Nat):Int)=((a+(b-a) / 4*3:Nat):Int):=aS (by omega);unfold Oh;simp only[z,cond_false,e1,g8,cond_true,eq,m1,m2,m3,a1,a2,a3];clear e1 g8 eq m1 m2 m3 a1 a2 a3 z;generalize hc:af .geq ((b-a:Nat):Int) (50:Int)=c;clear hc;cases c with
 |true=>obtain⟨x1,s1,h1,k1⟩:=YL (lt:=lt) d (a+(b-a) / 4*1) (0:Int) (by omega) (by omega) hd;obtain⟨x2,s2,h2,k2⟩:=YL (lt:=lt) d (a+(b-a) / 4*2) s1 (by omega) (by omega) hd;obtain⟨x3,s3,h3,k3⟩:=YL (lt:=lt) d (a+(b-a) / 4*3) s2 (by omega) (by omega) hd;obtain⟨x4,s4,h4,k4⟩:=WC (lt:=lt) d x1 x2 x3 s3 (by omega) (by omega) (by omega);obtain⟨h,hh⟩:=Y5 (x4:Int) s4;refine⟨x4,h,?_,by omega,by omega⟩;simp only[cond_true,h1,h2,h3,h4,Option.bind_some];exact hh
 |false=>obtain⟨x4,s4,h4,k4⟩:=WC (lt:=lt) d (a+(b-a) / 4*1) (a+(b-a) / 4*2) (a+(b-a) / 4*3) 0 (by omega) (by omega) (by omega);obtain⟨h,hh⟩:=Y5 (x4:Int) s4;refine⟨x4,h,?_,by omega,by omega⟩;simp only[cond_false,h4,Option.bind_some];exact hh
end
end Go.Fn
set_option linter.unusedSimpArgs false
set_option linter.unusedVariables false
namespace Go.Fn
open Go.R Go.Sort
theorem adM:(List.range 256).all (fun n=>decide (n<8)||(match L2 (n:Int)with|some (m,())=>decide (1<=m/\m<=2*(n:Int))|none=>false))=true:=by decide +kernel
theorem afB{n:Nat}(h8:8<=n)(h:n<=255):∃m:Nat,L2 (n:Int)=some ((m:Int),())/\1<=m/\m<=2*n:=by
 have h1:=List.all_eq_true.1 adM n (List.mem_range.2 (by omega));rw[decide_eq_false (by omega:¬n<8),Bool.false_or]at h1;cases hq:L2 (n:Int)with
 |none=>rw[hq]at h1;cases h1
 |some p=>obtain⟨m,u⟩:=p;cases u;rw[hq]at h1;have h2:1<=m/\m<=2*(n:Int):=of_decide_eq_true h1;exact⟨m.toNat,by rw[Int.toNat_of_nonneg (by omega)],by omega,by omega⟩
theorem acC(x:Int):∃v,__slices_xorshift__Next x=some (v,v,()):=⟨_,rfl⟩
theorem adO{n:Int}(h1:0<=n)(h2:n<18446744073709551616):IntKind.u64.wrap n=n:=IntWalk.u64_in n ⟨h1,by omega⟩
theorem af5(x:Int){c:Nat}(hc:c<9223372036854775808):∃r:Nat,aa .and .u64 x (c:Int)=(r:Int)/\r<=c:=by
 have h1:(BitVec.ofInt 64 (c:Int)).toNat=c:=by rw[BitVec.toNat_ofInt];have:((c:Int) % ((2 ^ 64:Nat):Int))=c:=Int.emod_eq_of_lt (by omega) (by omega);rw[this];rfl
 have h2:(BitVec.ofInt 64 x &&& BitVec.ofInt 64 (c:Int)).toNat<=c:=by rw[BitVec.toNat_and,h1];exact Nat.and_le_right
 have e:aa .and .u64 x (c:Int)=IntKind.u64.wrap (((BitVec.ofInt 64 x &&& BitVec.ofInt 64 (c:Int)).toNat:Nat):Int):=rfl;rw[e,adO (by omega) (by omega)];exact⟨_,rfl,h2⟩
theorem afF{n:Nat}(h:1<=n)(h2:n<1099511627776):aa .sub .u64 (n:Int) 1=((n-1:Nat):Int):=by have e:aa .sub .u64 (n:Int) 1=IntKind.u64.wrap ((n:Int)-1):=rfl;rw[e,adO (by omega) (by omega)];omega
theorem ac1{n:Nat}(h:n<1099511627776):aq .i64 (n:Int)=(n:Int):=zx (by omega) (by omega)
section
variable {α:Type} [Inhabited α] {lt:α->α->Bool}
theorem abo(a len m last:Nat)(b:Nat)(hlen:b=a+len)(h8:8<=len)(CI:1<=m)(CJ:m<=2*len)(aaw:last=a+len / 4*2+1):
  ∀(k idx:Nat) (r:Int) (d:Array α) (n:Nat),last+1-idx<=k->a<=idx->b<=d.size->d.size<=255->idx<=300->k<n->∃d',iter (Lj lt ((a:Int),(len:Int),(m:Int),())) n (d.toList,r,(idx:Int),())=some (.inl (d'.toList,()))/\PermIn a b d d':=by
 have z:az (4:Int)=false:=rfl;intro k;induction k with
 |zero=>
  intro idx r d n hk ha hb hd hi hn;obtain⟨n,rfl⟩:∃m,n=m+1:=⟨n-1,by omega⟩
  refine⟨d,av ?_,permIn_refl d a b⟩;have e1:aa .quo .i64 (len:Int) (4:Int)=((len / 4:Nat):Int):=qS _ 4 (by omega);have e2:aa .mul .i64 ((len / 4:Nat):Int) (2:Int)=((len / 4*2:Nat):Int):=mS (m:=2) (by omega);have e3:aa .add .i64 (a:Int) ((len / 4*2:Nat):Int)=((a+len / 4*2:Nat):Int):=aS (by omega);unfold Lj;simp only[z,cond_false,e1,e2,e3,au (n:=a+len / 4*2) (by omega),leS,<-aaw];rw[decide_eq_false (by omega:¬idx<=last)];rfl
 |succ k ih=>
  intro idx r d n hk ha hb hd hi hn;obtain⟨n,rfl⟩:∃m,n=m+1:=⟨n-1,by omega⟩
  have e1:aa .quo .i64 (len:Int) (4:Int)=((len / 4:Nat):Int):=qS _ 4 (by omega);have e2:aa .mul .i64 ((len / 4:Nat):Int) (2:Int)=((len / 4*2:Nat):Int):=mS (m:=2) (by omega);have e3:aa .add .i64 (a:Int) ((len / 4*2:Nat):Int)=((a+len / 4*2:Nat):Int):=aS (by omega);by_cases h:idx<=last
  ·obtain⟨v,hv⟩:=acC r;obtain⟨w,hw,DP⟩:=af5 v (c:=m-1) (by omega);have hib:idx<b:=by omega
   by_cases hg:w>=len
   ·have e4:aa .sub .i64 (w:Int) (len:Int)=((w-len:Nat):Int):=sS (by omega) (by omega);have e5:aa .add .i64 (a:Int) ((w-len:Nat):Int)=((a+(w-len):Nat):Int):=aS (by omega);obtain⟨d',h1,h2⟩:=ih (idx+1) v (swp d idx (a+(w-len))) n (by omega) (by omega) (by rw[size_swp];omega) (by rw[size_swp];omega) (by omega) (by omega);refine⟨d',?_,permIn_trans _ _ _ a b (swp_permIn d a b idx (a+(w-len)) ha hib (by omega) (by omega) hb) h2⟩;rw[<-h1];refine aF ?_;unfold Lj;simp only[z,cond_false,e1,e2,e3,au (n:=a+len / 4*2) (by omega),leS,<-aaw,h,decide_true,cond_true,hv,Option.bind_some,afF CI (by omega),hw,ac1 (n:=w) (by omega),Zh,hg,e4,e5,WE,gA,YO,show a+(w-len)<d.size by omega,show idx<d.size by omega,Zb,aR,au (n:=idx) (by omega)]
   ·have e5:aa .add .i64 (a:Int) (w:Int)=((a+w:Nat):Int):=aS (by omega);obtain⟨d',h1,h2⟩:=ih (idx+1) v (swp d idx (a+w)) n (by omega) (by omega) (by rw[size_swp];omega) (by rw[size_swp];omega) (by omega) (by omega);refine⟨d',?_,permIn_trans _ _ _ a b (swp_permIn d a b idx (a+w) ha hib (by omega) (by omega) hb) h2⟩;rw[<-h1];refine aF ?_;unfold Lj;simp only[z,cond_false,e1,e2,e3,au (n:=a+len / 4*2) (by omega),leS,<-aaw,h,decide_true,cond_true,hv,Option.bind_some,afF CI (by omega),hw,ac1 (n:=w) (by omega),Zh,hg,decide_false,e5,WE,gA,YO,show a+w<d.size by omega,show idx<d.size by omega,Zb,aR,au (n:=idx) (by omega)]
  ·refine⟨d,av ?_,permIn_refl d a b⟩;unfold Lj;simp only[z,cond_false,e1,e2,e3,au (n:=a+len / 4*2) (by omega),leS,<-aaw];rw[decide_eq_false h];rfl
theorem abr{n:Nat}(h:n<1099511627776):aq .u64 (n:Int)=(n:Int):=adO (by omega) (by omega)
theorem aao(d:Array α)(a b:Nat)(hab:a+12<b)(hb:b<=d.size)(hd:d.size<=255):∃d',N5 lt d.toList (a:Int) (b:Int)=some (d'.toList,())/\PermIn a b d d':=by have z:az (4:Int)=false:=rfl;obtain⟨m,hm,CI,CJ⟩:=afB (n:=b-a) (by omega) (by omega);obtain⟨d',h1,h2⟩:=abo (lt:=lt) a (b-a) m (a+(b-a) / 4*2+1) b (by omega) (by omega) CI CJ rfl 256 (a+(b-a) / 4*2-1) ((b-a:Nat):Int) d big (by omega) (by omega) hb hd (by omega) (aN (by omega));refine⟨d',?_,h2⟩;have e1:aa .sub .i64 (b:Int) (a:Int)=((b-a:Nat):Int):=sS (by omega) (by omega);have g8:af .geq ((b-a:Nat):Int) (8:Int)=true:=(Zh (b-a) 8).trans (decide_eq_true (by omega));have eq:aa .quo .i64 ((b-a:Nat):Int) (4:Int)=(((b-a) / 4:Nat):Int):=qS _ 4 (by omega);have m2:aa .mul .i64 (((b-a) / 4:Nat):Int) (2:Int)=(((b-a) / 4*2:Nat):Int):=mS (m:=2) (by omega);have a2:aa .add .i64 (a:Int) (((b-a) / 4*2:Nat):Int)=((a+(b-a) / 4*2:Nat):Int):=aS (by omega);have s2:aa .sub .i64 ((a+(b-a) / 4*2:Nat):Int) 1=((a+(b-a) / 4*2-1:Nat):Int):=sS (m:=1) (by omega) (by omega);unfold N5 NK;simp only[e1,g8,cond_true,hm,Option.bind_some,z,cond_false,eq,m2,a2,s2,abr (n:=b-a) (by omega),h1,Sum.elim_inl]
abbrev abi(α:Type):=Option (((List α)×Int×Int×Int×Bool×Bool×Unit)⊕((List α)×Unit⊕Empty))
noncomputable def Y0(lt:α->α->Bool)(rec:(List α)->Int->Int->Int->Option ((List α)×Unit))(M:Nat):Prop:=∀(d:Array α) (a b:Nat) (L:Int),b-a<M->a<=b->b<=d.size->d.size<=255->Below lt a b d->∃d',rec d.toList (a:Int) (b:Int) L=some (d'.toList,())/\PermIn a b d d'/\SortedIn lt a b d'
noncomputable def Next(lt:α->α->Bool)(q:abi α)(d:Array α)(a b:Nat):Prop:=
 (∃R,q=some (.inr (.inl (R.toList,())))/\PermIn a b d R/\SortedIn lt a b R) \/
 (∃(E:Array α) (a' b':Nat) (L:Int) (wb wp:Bool),q=some (.inl (E.toList,(a':Int),(b':Int),L,wb,wp,()))/\E.size=d.size/\a'<=b'/\b'<=b/\b'-a'<b-a/\Below lt a' b' E/\∀R,PermIn a' b' E R->SortedIn lt a' b' R->PermIn a b d R/\SortedIn lt a b R)
theorem Next.mono{q:abi α}{d D:Array α}{a b:Nat}(h:Next lt q D a b)(p:PermIn a b d D):Next lt q d a b:=by
 rcases h with ⟨R,h1,h2,h3⟩|⟨E,a',b',L,wb,wp,h1,h2,h3,h4,h5,h6,h7⟩
 ·exact .inl ⟨R,h1,permIn_trans _ _ _ a b p h2,h3⟩
 ·refine .inr ⟨E,a',b',L,wb,wp,h1,by rw[h2,p.1],h3,h4,h5,h6,fun R hR hs=>?_⟩;obtain⟨k1,k2⟩:=h7 R hR hs;exact⟨permIn_trans _ _ _ a b p k1,k2⟩
noncomputable def TT(lt:α->α->Bool)(rec:(List α)->Int->Int->Int->Option ((List α)×Unit))(a b L:Int)(D:List α)(P:Int):abi α:=((Jf lt D a b P).bind fun y1=>(bif (az (8:Int))then none else(bif (af .lss (aa .sub .i64 y1.1 a) (aa .sub .i64 b y1.1))then((rec y1.2.2.1 a y1.1 L).bind fun y2=>some (.inl (y2.1,(aa .add .i64 y1.1 (1:Int)),b,L,(af .geq (aa .sub .i64 y1.1 a) (aa .quo .i64 (aa .sub .i64 b a) (8:Int))),y1.2.1,())))else((rec y1.2.2.1 (aa .add .i64 y1.1 (1:Int)) b L).bind fun y2=>some (.inl (y2.1,a,y1.1,L,(af .geq (aa .sub .i64 b y1.1) (aa .quo .i64 (aa .sub .i64 b a) (8:Int))),y1.2.1,()))))))
noncomputable def U5(lt:α->α->Bool)(rec:(List α)->Int->Int->Int->Option ((List α)×Unit))(a b L:Int)(wb wp:Bool)(D:List α)(P:Int):abi α:=(bif (af .gtr a (0:Int))then(bif (ah D (aa .sub .i64 a (1:Int)))then(bif (ah D P)then((some (lt (ae default D (aa .sub .i64 a (1:Int))) (ae default D P),())).bind fun y1=>(bif (Bool.not y1.1)then((Jq lt D a b P).bind fun y2=>some (.inl (y2.2.1,y2.1,b,L,wb,wp,())))else TT lt rec a b L D P))else none)else none)else TT lt rec a b L D P)
theorem acF(h:SWO lt){rec:(List α)->Int->Int->Int->Option ((List α)×Unit)}{M:Nat}(gf:Y0 lt rec M)(D:Array α)(a b p:Nat)(L:Int)(hab:a<b)(hb:b<=D.size)(hd:D.size<=255)(hB:Below lt a b D)(hp1:a<=p)(hp2:p<b)(hM:b-a<=M):
  Next lt (TT lt rec (a:Int) (b:Int) L D.toList (p:Int)) D a b:=by
 have z:az (8:Int)=false:=rfl;have Ym:=abP (lt:=lt) D a b p hab hb hd (by omega);have hrp:=round_part h (partition_holds lt) hp1 hp2 hb hB (mid:=(partition lt D a b p).1) (ap:=(partition lt D a b p).2.1) (d4:=(partition lt D a b p).2.2) rfl;generalize (partition lt D a b p).1=mid at Ym hrp;generalize (partition lt D a b p).2.1=ap at Ym hrp;generalize (partition lt D a b p).2.2=d4 at Ym hrp;obtain⟨g1,g2,hs4,hBa,hBr,hleft,hright⟩:=hrp;unfold TT;have e1:aa .sub .i64 (mid:Int) (a:Int)=((mid-a:Nat):Int):=sS (by omega) (by omega);have e2:aa .sub .i64 (b:Int) (mid:Int)=((b-mid:Nat):Int):=sS (by omega) (by omega);have e3:aa .add .i64 (mid:Int) 1=((mid+1:Nat):Int):=au (by omega);simp only[Ym,Option.bind_some,z,cond_false,e1,e2,e3,Yu];by_cases hlt:mid-a<b-mid
 ·obtain⟨L1,hL,l1,l2⟩:=gf d4 a mid L (by omega) g1 (by omega) (by omega) hBa;obtain⟨hBL,gV⟩:=hleft L1 l1 l2;simp only[hlt,decide_true,cond_true,hL,Option.bind_some];exact .inr ⟨L1,mid+1,b,_,_,_,rfl,by rw[l1.1,hs4],by omega,Nat.le_refl _,by omega,hBL,gV⟩
 ·obtain⟨L1,hL,l1,l2⟩:=gf d4 (mid+1) b L (by omega) (by omega) (by omega) (by omega) hBr;obtain⟨hBL,gV⟩:=hright L1 l1 l2;simp only[hlt,decide_false,cond_false,hL,Option.bind_some];exact .inr ⟨L1,a,mid,_,_,_,rfl,by rw[l1.1,hs4],by omega,by omega,by omega,hBL,gV⟩
theorem WK(h:SWO lt){rec:(List α)->Int->Int->Int->Option ((List α)×Unit)}{M:Nat}(gf:Y0 lt rec M)(D:Array α)(a b p:Nat)(L:Int)(wb wp:Bool)(hab:a<b)(hb:b<=D.size)(hd:D.size<=255)(hB:Below lt a b D)(hp1:a<=p)(hp2:p<b)(hM:b-a<=M):
  Next lt (U5 lt rec (a:Int) (b:Int) L wb wp D.toList (p:Int)) D a b:=by
 have pT:=acF h gf D a b p L hab hb hd hB hp1 hp2 hM;unfold U5;by_cases h0:a>0
 ·have g0:af .gtr (a:Int) (0:Int)=true:=(gtS a 0).trans (decide_eq_true h0);have e1:aa .sub .i64 (a:Int) 1=((a-1:Nat):Int):=sS (m:=1) (by omega) (by omega);simp only[g0,cond_true,e1,WE,gA,show a-1<D.size by omega,show p<D.size by omega,decide_true,Option.bind_some];cases hl:lt D[a-1]! D[p]! with
  |true=>exact pT
  |false=>have Ym:=aal (lt:=lt) D a b p hab hb hd (by omega);have hrp:=round_eq h (partitionEqual_holds lt) h0 hp1 hp2 hb hB hl (mid:=(partitionEqual lt D a b p).1) (d4:=(partitionEqual lt D a b p).2) rfl;generalize (partitionEqual lt D a b p).1=mid at Ym hrp;generalize (partitionEqual lt D a b p).2=d4 at Ym hrp;obtain⟨CI,CJ,hs4,hB4,gV⟩:=hrp;simp only[Bool.not_false,cond_true,Ym,Option.bind_some];exact .inr ⟨d4,mid,b,_,_,_,rfl,hs4,CJ,Nat.le_refl _,by omega,hB4,gV⟩
 ·have g0:af .gtr (a:Int) (0:Int)=false:=(gtS a 0).trans (decide_eq_false h0);simp only[g0,cond_false];exact pT
noncomputable def aau(lt:α->α->Bool)(rec:(List α)->Int->Int->Int->Option ((List α)×Unit))(a b L:Int)(wb wp:Bool)(D:List α)(P:Int):abi α:=((Kk lt D a b).bind fun y3=>(bif y3.1 then some (.inr (.inl (y3.2.1,())))else U5 lt rec a b L wb wp y3.2.1 P))
theorem abH(h:SWO lt){rec:(List α)->Int->Int->Int->Option ((List α)×Unit)}{M:Nat}(gf:Y0 lt rec M)(D:Array α)(a b p:Nat)(L:Int)(wb wp:Bool)(hab:a<b)(hb:b<=D.size)(hd:D.size<=255)(hB:Below lt a b D)(hp1:a<=p)(hp2:p<b)(hM:b-a<=M):
  Next lt (aau lt rec (a:Int) (b:Int) L wb wp D.toList (p:Int)) D a b:=by
 have Ym:=ZV (lt:=lt) D a b hab hb hd;obtain⟨k1,k2⟩:=partialInsertionSort_holds h D a b hab hb hB;unfold aau;generalize (partialInsertionSort lt D a b).1=D3 at Ym k1 k2;generalize (partialInsertionSort lt D a b).2=fl at Ym k1 k2;simp only[Ym,Option.bind_some];cases fl with
 |true=>exact .inl ⟨D3,rfl,k1,k2 rfl⟩
 |false=>exact(WK h gf D3 a b p L wb wp hab (by rw[k1.1];exact hb) (by rw[k1.1];exact hd) (hB.perm hb k1) hp1 hp2 hM).mono k1
theorem ZT(h:SWO lt){rec:(List α)->Int->Int->Int->Option ((List α)×Unit)}{M:Nat}(gf:Y0 lt rec M)(d:Array α)(a b:Nat)(L:Int)(wb wp:Bool)(hab:a<=b)(hb:b<=d.size)(hd:d.size<=255)(hB:Below lt a b d)(hM:b-a<=M):
  Next lt (Lt lt rec () (d.toList,(a:Int),(b:Int),L,wb,wp,())) d a b:=by
 have e1:aa .sub .i64 (b:Int) (a:Int)=((b-a:Nat):Int):=sS (by omega) (by omega);have eb:aa .sub .i64 (b:Int) 1=((b-1:Nat):Int)\/b=0:=by
  by_cases h0:b=0
  ·exact .inr h0
  ·exact .inl (sS (m:=1) (by omega) (by omega))
 by_cases h12:b-a<=12
 ·have g:af .leq ((b-a:Nat):Int) (12:Int)=true:=(leS (b-a) 12).trans (decide_eq_true h12);unfold Lt;simp only[e1,g,cond_true,acI (lt:=lt) d a b hab hb hd,Option.bind_some];have:=insertionSort_holds h d a b hab hb;exact .inl ⟨_,rfl,this.1,this.2⟩
 ·have g:af .leq ((b-a:Nat):Int) (12:Int)=false:=(leS (b-a) 12).trans (decide_eq_false h12);cases hL:af .eql L (0:Int)with
  |true=>unfold Lt;simp only[e1,g,cond_false,hL,cond_true,abO (lt:=lt) d a b (by omega) hb hd,Option.bind_some];have:=heapSort_holds h d a b hab hb;exact .inl ⟨_,rfl,this.1,this.2⟩
  |false=>
   have eb:=eb.resolve_right (by omega);have ePv:∀p:Nat,a<=p->p<b->aa .sub .i64 ((b-1:Nat):Int) (aa .sub .i64 (p:Int) (a:Int))=(((b-1)-(p-a):Nat):Int):=by intro p h1 h2;rw[sS (n:=p) (m:=a) h1 (by omega),sS (by omega) (by omega)]
   cases wb with
   |false=>
    obtain⟨d1,hbr,p1⟩:=aao (lt:=lt) d a b (by omega) hb hd;have b1:b<=d1.size:=by rw[p1.1];exact hb
    have s1:d1.size<=255:=by rw[p1.1];exact hd
    have B1:=hB.perm hb p1;obtain⟨p,hh,hch,hp1,hp2⟩:=Yi (lt:=lt) d1 a b (by omega) b1 s1;cases pU:af .eql hh (2:Int)with
    |true=>obtain⟨d2,B7,p2⟩:=Z0 (lt:=lt) d1 a b (by omega) b1 s1;have:=(WK h gf d2 a b ((b-1)-(p-a)) (aa .sub .i64 L 1) false wp (by omega) (by rw[p2.1];exact b1) (by rw[p2.1];exact s1) (B1.perm b1 p2) (by omega) (by omega) hM).mono (permIn_trans _ _ _ a b p1 p2);unfold Lt;simp only[e1,g,cond_false,hL,Bool.not_false,cond_true,hbr,Option.bind_some,hch,pU,B7,eb,ePv p hp1 hp2];simp only[U5,TT,e1,Option.bind_some]at this;exact this
    |false=>have:=(WK h gf d1 a b p (aa .sub .i64 L 1) false wp (by omega) b1 s1 B1 hp1 hp2 hM).mono p1;unfold Lt;simp only[e1,g,cond_false,hL,Bool.not_false,cond_true,hbr,Option.bind_some,hch,pU];simp only[U5,TT,e1,Option.bind_some]at this;exact this
   |true=>
    obtain⟨p,hh,hch,hp1,hp2⟩:=Yi (lt:=lt) d a b (by omega) hb hd;cases pU:af .eql hh (2:Int)with
    |true=>
     obtain⟨d2,B7,p2⟩:=Z0 (lt:=lt) d a b (by omega) hb hd;have zq:b<=d2.size:=by rw[p2.1];exact hb
     have tR:d2.size<=255:=by rw[p2.1];exact hd
     cases wp with
     |true=>have:=(abH h gf d2 a b ((b-1)-(p-a)) L true true (by omega) zq tR (hB.perm hb p2) (by omega) (by omega) hM).mono p2;unfold Lt;simp only[e1,g,cond_false,hL,Bool.not_true,cond_true,Option.bind_some,hch,pU,B7,eb,ePv p hp1 hp2,show af .eql (1:Int) (1:Int)=true from rfl];simp only[aau,U5,TT,e1,Option.bind_some]at this;exact this
     |false=>have:=(WK h gf d2 a b ((b-1)-(p-a)) L true false (by omega) zq tR (hB.perm hb p2) (by omega) (by omega) hM).mono p2;unfold Lt;simp only[e1,g,cond_false,hL,Bool.not_true,cond_true,Option.bind_some,hch,pU,B7,eb,ePv p hp1 hp2];simp only[U5,TT,e1,Option.bind_some]at this;exact this
    |false=>
     cases wp with
     |true=>
      cases B6:af .eql hh (1:Int)with
      |true=>have:=abH h gf d a b p L true true (by omega) hb hd hB hp1 hp2 hM;unfold Lt;simp only[e1,g,cond_false,hL,Bool.not_true,cond_true,Option.bind_some,hch,pU,B6];simp only[aau,U5,TT,e1,Option.bind_some]at this;exact this
      |false=>have:=WK h gf d a b p L true true (by omega) hb hd hB hp1 hp2 hM;unfold Lt;simp only[e1,g,cond_false,hL,Bool.not_true,cond_true,Option.bind_some,hch,pU,B6];simp only[U5,TT,e1,Option.bind_some]at this;exact this
     |false=>have:=WK h gf d a b p L true false (by omega) hb hd hB hp1 hp2 hM;unfold Lt;simp only[e1,g,cond_false,hL,Bool.not_true,cond_true,Option.bind_some,hch,pU];simp only[U5,TT,e1,Option.bind_some]at this;exact this
theorem abK(h:SWO lt){rec:(List α)->Int->Int->Int->Option ((List α)×Unit)}{M:Nat}(gf:Y0 lt rec M):∀(k:Nat) (d:Array α) (a b:Nat) (L:Int) (wb wp:Bool) (n:Nat),b-a<=k->b-a<=M->k<n->a<=b->b<=d.size->d.size<=255->Below lt a b d ->
  ∃d',iter (Lt lt rec ()) n (d.toList,(a:Int),(b:Int),L,wb,wp,())=some (.inl (d'.toList,()))/\PermIn a b d d'/\SortedIn lt a b d':=by
 intro k;induction k with
 |zero=>
  intro d a b L wb wp n hk hM hn hab hb hd hB;obtain⟨n,rfl⟩:∃m,n=m+1:=⟨n-1,by omega⟩
  rcases ZT h gf d a b L wb wp hab hb hd hB hM with ⟨R,h1,h2,h3⟩|⟨E,a',b',L',wb',wp',h1,h2,h3,h4,h5,h6,h7⟩
  ·exact⟨R,av h1,h2,h3⟩
  ·omega
 |succ k ih=>
  intro d a b L wb wp n hk hM hn hab hb hd hB;obtain⟨n,rfl⟩:∃m,n=m+1:=⟨n-1,by omega⟩
  rcases ZT h gf d a b L wb wp hab hb hd hB hM with ⟨R,h1,h2,h3⟩|⟨E,a',b',L',wb',wp',h1,h2,h3,h4,h5,h6,h7⟩
  ·exact⟨R,av h1,h2,h3⟩
  ·obtain⟨d',k1,k2,k3⟩:=ih E a' b' L' wb' wp' n (by omega) (by omega) (by omega) h3 (by omega) (by omega) h6;exact⟨d',by rw[aF h1];exact k1,h7 d' k2 k3⟩
theorem afE(h:SWO lt):∀F,Y0 lt (PG lt F) F:=by
 intro F;induction F with
 |zero=>intro d a b L hF;omega
 |succ F ih=>intro d a b L hF hab hb hd hB;obtain⟨d',h1,h2,h3⟩:=abK h ih 256 d a b L true true big (by omega) (by omega) (aN (by omega)) hab hb hd hB;refine⟨d',?_,h2,h3⟩;unfold PG Ro Qy;rw[h1];rfl
theorem aaA(h:SWO lt)(l:List α)(L:Int)(hl:l.length<=255):∃r:List α,Vm lt l (0:Int) (l.length:Int) L=some (r,())/\r.Perm l/\∀i j,i<j->j<r.length->lt (r.getD j default) (r.getD i default)=false:=by
 obtain⟨d',h1,h2,h3⟩:=afE h big l.toArray 0 l.length L (aN (by omega)) (by omega) (by simp) (by simpa using hl) (.inl rfl);have hsz:d'.size=l.length:=by rw[h2.1];simp
 refine⟨d'.toList,h1,?_,fun i j hij hj=>?_⟩
 ·have:=h2.2.2;rw[show d'.extract 0 l.length=d' by rw[<-hsz];exact Array.extract_size,show l.toArray.extract 0 l.length=l.toArray by rw[show l.length=l.toArray.size by simp];exact Array.extract_size]at this;exact this
 ·have:=h3 i j (by omega) hij (by rw[Array.length_toList]at hj;omega);rw[<-gA,<-gA,ak,ak]at this;exact this
end
end Go.Fn
set_option linter.unusedSimpArgs false
set_option linter.unusedVariables false
namespace Go.Fn
open Go.R Go.Sort
noncomputable def Pw(x y:Ev):Bool:=decide (x.1<y.1)||(decide (x.1=y.1)&&decide (x.2.1<y.2.1))
noncomputable def ab8(x y:Ev):Int:=bif Pw x y then -1 else bif Pw y x then 1 else 0
theorem J3(x y:Ev):af .lss (ab8 x y) (0:Int)=Pw x y:=by unfold ab8;cases Pw x y <;> cases Pw y x <;> rfl
noncomputable def sgn(a b:Int):Int:=bif decide (a<b)then -1 else bif decide (b<a)then 1 else 0
theorem compare_eq(a b:Int):NJ a b=some (sgn a b,()):=by unfold NJ Oq sgn;simp only[Py,Option.bind_some,cond_false];simp only[af,gt_iff_lt];cases decide (a<b) <;> cases decide (b<a) <;> rfl
theorem or_eq(a b:Int):SN [a,b]=some ((bif decide (a=0)then b else a),()):=by
 unfold SN TS;have hb:∀n:Nat,n<2->Pj ((0:Int),[a,b],ai [a,b],()) ((n:Int),())=some (bif decide (([a,b].getD n 0)=0)then .inl (((n+1:Nat):Int),())else .inr (.inl ([a,b].getD n 0,()))):=by
  intro n hn;unfold Pj;simp only[aj,ax,ak,show n < [a,b].length from hn,decide_true,cond_true,au (n:=n) (by omega),zI];by_cases h:[a,b].getD n 0=0
  ·rw[h];rfl
  ·rw[show af .neq ([a,b].getD n 0) (0:Int)=true from by simpa[af] using h,decide_eq_false h];rfl
 by_cases ha:a=0
 ·by_cases hb0:b=0
  ·have e:iter (Pj ((0:Int),[a,b],ai [a,b],())) 3 ((0:Int),())=some (.inr (.inl ())):=by
    rw[aF (y:=(((1:Nat):Int),())) (by simpa[ha] using hb 0 (by omega)),aF (y:=(((2:Nat):Int),())) (by simpa[hb0] using hb 1 (by omega))];exact av rfl
   rw[bh e (by unfold big;omega),ha,hb0];rfl
  ·have e:iter (Pj ((0:Int),[a,b],ai [a,b],())) 2 ((0:Int),())=some (.inl (b,())):=by
    rw[aF (y:=(((1:Nat):Int),())) (by simpa[ha] using hb 0 (by omega))];exact av (by simpa[hb0] using hb 1 (by omega))
   rw[bh e (by unfold big;omega),ha];rfl
 ·have e:iter (Pj ((0:Int),[a,b],ai [a,b],())) 1 ((0:Int),())=some (.inl (a,())):=av (by simpa[ha] using hb 0 (by omega));rw[bh e (by unfold big;omega)];simp[ha]
theorem KE(x y:Ev):vw x.1 x.2.1 x.2.2.1 x.2.2.2.1 x.2.2.2.2.1 x.2.2.2.2.2.1 x.2.2.2.2.2.2 y.1 y.2.1 y.2.2.1 y.2.2.2.1 y.2.2.2.2.1 y.2.2.2.2.2.1 y.2.2.2.2.2.2=some (ab8 x y,()):=by
 unfold vw;simp only[compare_eq,Option.bind_some];rw[show(List.append (α:=Int) (List.append (α:=Int) ([]:List Int) [sgn x.1 y.1]) [sgn x.2.1 y.2.1])=[sgn x.1 y.1,sgn x.2.1 y.2.1]from rfl,or_eq];simp only[Option.bind_some];congr 2;unfold ab8 Pw sgn;by_cases h1:x.1<y.1
 ·simp[h1]
 ·by_cases h2:y.1<x.1
  ·have h3:¬(x.1=y.1):=by omega
   simp[h1,h2,h3]
  ·have h3:x.1=y.1:=by omega
   by_cases h4:x.2.1<y.2.1
   ·simp[h3,h4]
   ·by_cases h5:y.2.1<x.2.1
    ·simp[h3,h4,h5]
    ·simp[h3,h4,h5]
theorem b9:Kg=Ll (Pw):=by
 funext;unfold Kg Ll;try simp only[KE,J3,Option.bind_some]
 try rfl
theorem ek:JD=NM (Pw):=by
 funext;unfold JD NM;try simp only[KE,J3,Option.bind_some,b9]
 try rfl
theorem fq:Kf=LO (Pw):=by
 funext;unfold Kf LO;try simp only[KE,J3,Option.bind_some,b9,ek]
 try rfl
theorem gm:JC=NL (Pw):=by
 funext;unfold JC NL;try simp only[KE,J3,Option.bind_some,b9,ek,fq]
 try rfl
theorem rm:JN=N6 (Pw):=by
 funext;unfold JN N6;try simp only[KE,J3,Option.bind_some,b9,ek,fq,gm]
 try rfl
theorem zc:Kx=LC (Pw):=by
 funext;unfold Kx LC;try simp only[KE,J3,Option.bind_some,b9,ek,fq,gm,rm]
 try rfl
theorem zf:JX=PY (Pw):=by
 funext;unfold JX PY;try simp only[KE,J3,Option.bind_some,b9,ek,fq,gm,rm,zc]
 try rfl
theorem I8:Jt=Qi (Pw):=by
 funext;unfold Jt Qi;try simp only[KE,J3,Option.bind_some,b9,ek,fq,gm,rm,zc,zf]
 try rfl
theorem ID:Kv=Oi (Pw):=by
 funext;unfold Kv Oi;try simp only[KE,J3,Option.bind_some,b9,ek,fq,gm,rm,zc,zf,I8]
 try rfl
theorem II:JV=PW (Pw):=by
 funext;unfold JV PW;try simp only[KE,J3,Option.bind_some,b9,ek,fq,gm,rm,zc,zf,I8,ID]
 try rfl
theorem IM:Kw=Oj (Pw):=by
 funext;unfold Kw Oj;try simp only[KE,J3,Option.bind_some,b9,ek,fq,gm,rm,zc,zf,I8,ID,II]
 try rfl
theorem IQ:JW=PX (Pw):=by
 funext;unfold JW PX;try simp only[KE,J3,Option.bind_some,b9,ek,fq,gm,rm,zc,zf,I8,ID,II,IM]
 try rfl
theorem Jr:J6=Rd (Pw):=by
 funext;unfold J6 Rd;try simp only[KE,J3,Option.bind_some,b9,ek,fq,gm,rm,zc,zf,I8,ID,II,IM,IQ]
 try rfl
theorem qB:Ke=Lj (Pw):=by
 funext;unfold Ke Lj;try simp only[KE,J3,Option.bind_some,b9,ek,fq,gm,rm,zc,zf,I8,ID,II,IM,IQ,Jr]
 try rfl
theorem tW:JB=NK (Pw):=by
 funext;unfold JB NK;try simp only[KE,J3,Option.bind_some,b9,ek,fq,gm,rm,zc,zf,I8,ID,II,IM,IQ,Jr,qB]
 try rfl
theorem IB:JM=N5 (Pw):=by
 funext;unfold JM N5;try simp only[KE,J3,Option.bind_some,b9,ek,fq,gm,rm,zc,zf,I8,ID,II,IM,IQ,Jr,qB,tW]
 try rfl
theorem Kt:Je=QX (Pw):=by
 funext;unfold Je QX;try simp only[KE,J3,Option.bind_some,b9,ek,fq,gm,rm,zc,zf,I8,ID,II,IM,IQ,Jr,qB,tW,IB]
 try rfl
theorem KC:Jd=RA (Pw):=by
 funext;unfold Jd RA;try simp only[KE,J3,Option.bind_some,b9,ek,fq,gm,rm,zc,zf,I8,ID,II,IM,IQ,Jr,qB,tW,IB,Kt]
 try rfl
theorem IF:IZ=Mp (Pw):=by
 funext;unfold IZ Mp;try simp only[KE,J3,Option.bind_some,b9,ek,fq,gm,rm,zc,zf,I8,ID,II,IM,IQ,Jr,qB,tW,IB,Kt,KC]
 try rfl
theorem I3:Jn=Oh (Pw):=by
 funext;unfold Jn Oh;try simp only[KE,J3,Option.bind_some,b9,ek,fq,gm,rm,zc,zf,I8,ID,II,IM,IQ,Jr,qB,tW,IB,Kt,KC,IF]
 try rfl
theorem Bd:Ki=L5 (Pw):=by
 funext;unfold Ki L5;try simp only[KE,J3,Option.bind_some,b9,ek,fq,gm,rm,zc,zf,I8,ID,II,IM,IQ,Jr,qB,tW,IB,Kt,KC,IF,I3]
 try rfl
theorem IJ:JH=N3 (Pw):=by
 funext;unfold JH N3;try simp only[KE,J3,Option.bind_some,b9,ek,fq,gm,rm,zc,zf,I8,ID,II,IM,IQ,Jr,qB,tW,IB,Kt,KC,IF,I3,Bd]
 try rfl
theorem I6:Jj=NV (Pw):=by
 funext;unfold Jj NV;try simp only[KE,J3,Option.bind_some,b9,ek,fq,gm,rm,zc,zf,I8,ID,II,IM,IQ,Jr,qB,tW,IB,Kt,KC,IF,I3,Bd,IJ]
 try rfl
theorem ia:J0=J9 (Pw):=by
 funext;unfold J0 J9;try simp only[KE,J3,Option.bind_some,b9,ek,fq,gm,rm,zc,zf,I8,ID,II,IM,IQ,Jr,qB,tW,IB,Kt,KC,IF,I3,Bd,IJ,I6]
 try rfl
theorem lc:Jl=LJ (Pw):=by
 funext;unfold Jl LJ;try simp only[KE,J3,Option.bind_some,b9,ek,fq,gm,rm,zc,zf,I8,ID,II,IM,IQ,Jr,qB,tW,IB,Kt,KC,IF,I3,Bd,IJ,I6,ia]
 try rfl
theorem me:J1=KQ (Pw):=by
 funext;unfold J1 KQ;try simp only[KE,J3,Option.bind_some,b9,ek,fq,gm,rm,zc,zf,I8,ID,II,IM,IQ,Jr,qB,tW,IB,Kt,KC,IF,I3,Bd,IJ,I6,ia,lc]
 try rfl
theorem r6:Jm=LK (Pw):=by
 funext;unfold Jm LK;try simp only[KE,J3,Option.bind_some,b9,ek,fq,gm,rm,zc,zf,I8,ID,II,IM,IQ,Jr,qB,tW,IB,Kt,KC,IF,I3,Bd,IJ,I6,ia,lc,me]
 try rfl
theorem vm:J2=Ka (Pw):=by
 funext;unfold J2 Ka;try simp only[KE,J3,Option.bind_some,b9,ek,fq,gm,rm,zc,zf,I8,ID,II,IM,IQ,Jr,qB,tW,IB,Kt,KC,IF,I3,Bd,IJ,I6,ia,lc,me,r6]
 try rfl
theorem wk:I0=K7 (Pw):=by
 funext;unfold I0 K7;try simp only[KE,J3,Option.bind_some,b9,ek,fq,gm,rm,zc,zf,I8,ID,II,IM,IQ,Jr,qB,tW,IB,Kt,KC,IF,I3,Bd,IJ,I6,ia,lc,me,r6,vm]
 try rfl
theorem xh:JZ=JJ (Pw):=by
 funext;unfold JZ JJ;try simp only[KE,J3,Option.bind_some,b9,ek,fq,gm,rm,zc,zf,I8,ID,II,IM,IQ,Jr,qB,tW,IB,Kt,KC,IF,I3,Bd,IJ,I6,ia,lc,me,r6,vm,wk]
 try rfl
theorem za:Jk=LI (Pw):=by
 funext;unfold Jk LI;try simp only[KE,J3,Option.bind_some,b9,ek,fq,gm,rm,zc,zf,I8,ID,II,IM,IQ,Jr,qB,tW,IB,Kt,KC,IF,I3,Bd,IJ,I6,ia,lc,me,r6,vm,wk,xh]
 try rfl
theorem IU:zS=Kk (Pw):=by
 funext;unfold zS Kk;try simp only[KE,J3,Option.bind_some,b9,ek,fq,gm,rm,zc,zf,I8,ID,II,IM,IQ,Jr,qB,tW,IB,Kt,KC,IF,I3,Bd,IJ,I6,ia,lc,me,r6,vm,wk,xh,za]
 try rfl
theorem Ja:Kc=Mv (Pw):=by
 funext;unfold Kc Mv;try simp only[KE,J3,Option.bind_some,b9,ek,fq,gm,rm,zc,zf,I8,ID,II,IM,IQ,Jr,qB,tW,IB,Kt,KC,IF,I3,Bd,IJ,I6,ia,lc,me,r6,vm,wk,xh,za,IU]
 try rfl
theorem Jg:Jz=Nw (Pw):=by
 funext;unfold Jz Nw;try simp only[KE,J3,Option.bind_some,b9,ek,fq,gm,rm,zc,zf,I8,ID,II,IM,IQ,Jr,qB,tW,IB,Kt,KC,IF,I3,Bd,IJ,I6,ia,lc,me,r6,vm,wk,xh,za,IU,Ja]
 try rfl
theorem Jo:Kd=Mw (Pw):=by
 funext;unfold Kd Mw;try simp only[KE,J3,Option.bind_some,b9,ek,fq,gm,rm,zc,zf,I8,ID,II,IM,IQ,Jr,qB,tW,IB,Kt,KC,IF,I3,Bd,IJ,I6,ia,lc,me,r6,vm,wk,xh,za,IU,Ja,Jg]
 try rfl
theorem Ju:JA=Nx (Pw):=by
 funext;unfold JA Nx;try simp only[KE,J3,Option.bind_some,b9,ek,fq,gm,rm,zc,zf,I8,ID,II,IM,IQ,Jr,qB,tW,IB,Kt,KC,IF,I3,Bd,IJ,I6,ia,lc,me,r6,vm,wk,xh,za,IU,Ja,Jg,Jo]
 try rfl
theorem JE:Kb=Ls (Pw):=by
 funext;unfold Kb Ls;try simp only[KE,J3,Option.bind_some,b9,ek,fq,gm,rm,zc,zf,I8,ID,II,IM,IQ,Jr,qB,tW,IB,Kt,KC,IF,I3,Bd,IJ,I6,ia,lc,me,r6,vm,wk,xh,za,IU,Ja,Jg,Jo,Ju]
 try rfl
theorem JT:Jy=Nv (Pw):=by
 funext;unfold Jy Nv;try simp only[KE,J3,Option.bind_some,b9,ek,fq,gm,rm,zc,zf,I8,ID,II,IM,IQ,Jr,qB,tW,IB,Kt,KC,IF,I3,Bd,IJ,I6,ia,lc,me,r6,vm,wk,xh,za,IU,Ja,Jg,Jo,Ju,JE]
 try rfl
theorem Ky:br=Jq (Pw):=by
 funext;unfold br Jq;try simp only[KE,J3,Option.bind_some,b9,ek,fq,gm,rm,zc,zf,I8,ID,II,IM,IQ,Jr,qB,tW,IB,Kt,KC,IF,I3,Bd,IJ,I6,ia,lc,me,r6,vm,wk,xh,za,IU,Ja,Jg,Jo,Ju,JE,JT]
 try rfl
theorem Lb:Ko=Ot (Pw):=by
 funext;unfold Ko Ot;try simp only[KE,J3,Option.bind_some,b9,ek,fq,gm,rm,zc,zf,I8,ID,II,IM,IQ,Jr,qB,tW,IB,Kt,KC,IF,I3,Bd,IJ,I6,ia,lc,me,r6,vm,wk,xh,za,IU,Ja,Jg,Jo,Ju,JE,JT,Ky]
 try rfl
theorem Lx:JO=Pk (Pw):=by
 funext;unfold JO Pk;try simp only[KE,J3,Option.bind_some,b9,ek,fq,gm,rm,zc,zf,I8,ID,II,IM,IQ,Jr,qB,tW,IB,Kt,KC,IF,I3,Bd,IJ,I6,ia,lc,me,r6,vm,wk,xh,za,IU,Ja,Jg,Jo,Ju,JE,JT,Ky,Lb]
 try rfl
theorem LV:Kp=Ou (Pw):=by
 funext;unfold Kp Ou;try simp only[KE,J3,Option.bind_some,b9,ek,fq,gm,rm,zc,zf,I8,ID,II,IM,IQ,Jr,qB,tW,IB,Kt,KC,IF,I3,Bd,IJ,I6,ia,lc,me,r6,vm,wk,xh,za,IU,Ja,Jg,Jo,Ju,JE,JT,Ky,Lb,Lx]
 try rfl
theorem Mi:JP=Pm (Pw):=by
 funext;unfold JP Pm;try simp only[KE,J3,Option.bind_some,b9,ek,fq,gm,rm,zc,zf,I8,ID,II,IM,IQ,Jr,qB,tW,IB,Kt,KC,IF,I3,Bd,IJ,I6,ia,lc,me,r6,vm,wk,xh,za,IU,Ja,Jg,Jo,Ju,JE,JT,Ky,Lb,Lx,LV]
 try rfl
theorem MH:Kr=Qg (Pw):=by
 funext;unfold Kr Qg;try simp only[KE,J3,Option.bind_some,b9,ek,fq,gm,rm,zc,zf,I8,ID,II,IM,IQ,Jr,qB,tW,IB,Kt,KC,IF,I3,Bd,IJ,I6,ia,lc,me,r6,vm,wk,xh,za,IU,Ja,Jg,Jo,Ju,JE,JT,Ky,Lb,Lx,LV,Mi]
 try rfl
theorem Nk:JR=Po (Pw):=by
 funext;unfold JR Po;try simp only[KE,J3,Option.bind_some,b9,ek,fq,gm,rm,zc,zf,I8,ID,II,IM,IQ,Jr,qB,tW,IB,Kt,KC,IF,I3,Bd,IJ,I6,ia,lc,me,r6,vm,wk,xh,za,IU,Ja,Jg,Jo,Ju,JE,JT,Ky,Lb,Lx,LV,Mi,MH]
 try rfl
theorem NW:Ks=Qh (Pw):=by
 funext;unfold Ks Qh;try simp only[KE,J3,Option.bind_some,b9,ek,fq,gm,rm,zc,zf,I8,ID,II,IM,IQ,Jr,qB,tW,IB,Kt,KC,IF,I3,Bd,IJ,I6,ia,lc,me,r6,vm,wk,xh,za,IU,Ja,Jg,Jo,Ju,JE,JT,Ky,Lb,Lx,LV,Mi,MH,Nk]
 try rfl
theorem Ov:JS=Pp (Pw):=by
 funext;unfold JS Pp;try simp only[KE,J3,Option.bind_some,b9,ek,fq,gm,rm,zc,zf,I8,ID,II,IM,IQ,Jr,qB,tW,IB,Kt,KC,IF,I3,Bd,IJ,I6,ia,lc,me,r6,vm,wk,xh,za,IU,Ja,Jg,Jo,Ju,JE,JT,Ky,Lb,Lx,LV,Mi,MH,Nk,NW]
 try rfl
theorem Pq:Kq=Mh (Pw):=by
 funext;unfold Kq Mh;try simp only[KE,J3,Option.bind_some,b9,ek,fq,gm,rm,zc,zf,I8,ID,II,IM,IQ,Jr,qB,tW,IB,Kt,KC,IF,I3,Bd,IJ,I6,ia,lc,me,r6,vm,wk,xh,za,IU,Ja,Jg,Jo,Ju,JE,JT,Ky,Lb,Lx,LV,Mi,MH,Nk,NW,Ov]
 try rfl
theorem Qk:JQ=Pn (Pw):=by
 funext;unfold JQ Pn;try simp only[KE,J3,Option.bind_some,b9,ek,fq,gm,rm,zc,zf,I8,ID,II,IM,IQ,Jr,qB,tW,IB,Kt,KC,IF,I3,Bd,IJ,I6,ia,lc,me,r6,vm,wk,xh,za,IU,Ja,Jg,Jo,Ju,JE,JT,Ky,Lb,Lx,LV,Mi,MH,Nk,NW,Ov,Pq]
 try rfl
theorem UI:bf=Jf (Pw):=by
 funext;unfold bf Jf;try simp only[KE,J3,Option.bind_some,b9,ek,fq,gm,rm,zc,zf,I8,ID,II,IM,IQ,Jr,qB,tW,IB,Kt,KC,IF,I3,Bd,IJ,I6,ia,lc,me,r6,vm,wk,xh,za,IU,Ja,Jg,Jo,Ju,JE,JT,Ky,Lb,Lx,LV,Mi,MH,Nk,NW,Ov,Pq,Qk]
 try rfl
theorem Vx:KB=Lt (Pw):=by
 funext;unfold KB Lt;try simp only[KE,J3,Option.bind_some,b9,ek,fq,gm,rm,zc,zf,I8,ID,II,IM,IQ,Jr,qB,tW,IB,Kt,KC,IF,I3,Bd,IJ,I6,ia,lc,me,r6,vm,wk,xh,za,IU,Ja,Jg,Jo,Ju,JE,JT,Ky,Lb,Lx,LV,Mi,MH,Nk,NW,Ov,Pq,Qk,UI]
 try rfl
theorem Xo:JY=Qy (Pw):=by
 funext;unfold JY Qy;try simp only[KE,J3,Option.bind_some,b9,ek,fq,gm,rm,zc,zf,I8,ID,II,IM,IQ,Jr,qB,tW,IB,Kt,KC,IF,I3,Bd,IJ,I6,ia,lc,me,r6,vm,wk,xh,za,IU,Ja,Jg,Jo,Ju,JE,JT,Ky,Lb,Lx,LV,Mi,MH,Nk,NW,Ov,Pq,Qk,UI,Vx]
 try rfl
theorem Ya:J5=Ro (Pw):=by
 funext;unfold J5 Ro;try simp only[KE,J3,Option.bind_some,b9,ek,fq,gm,rm,zc,zf,I8,ID,II,IM,IQ,Jr,qB,tW,IB,Kt,KC,IF,I3,Bd,IJ,I6,ia,lc,me,r6,vm,wk,xh,za,IU,Ja,Jg,Jo,Ju,JE,JT,Ky,Lb,Lx,LV,Mi,MH,Nk,NW,Ov,Pq,Qk,UI,Vx,Xo]
 try rfl
theorem X9:∀n,I5 n=PG (Pw) n
 |0=>rfl
 |n+1=>by unfold I5 PG;rw[X9 n,Ya]
theorem aaS:J7=Vm (Pw):=by
 funext;unfold J7 Vm;try simp only[KE,J3,Option.bind_some,b9,ek,fq,gm,rm,zc,zf,I8,ID,II,IM,IQ,Jr,qB,tW,IB,Kt,KC,IF,I3,Bd,IJ,I6,ia,lc,me,r6,vm,wk,xh,za,IU,Ja,Jg,Jo,Ju,JE,JT,Ky,Lb,Lx,LV,Mi,MH,Nk,NW,Ov,Pq,Qk,UI,Vx,Xo,Ya,X9]
 try rfl
end Go.Fn

