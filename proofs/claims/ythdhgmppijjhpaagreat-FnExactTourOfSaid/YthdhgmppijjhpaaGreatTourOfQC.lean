import Derived.Test.YthdhgmppijjhpaaGreatTourOfQB
/- Plain functions that stand for Go functions, and what they answer. Conditions: none. -/
set_option autoImplicit false
set_option linter.unusedVariables false
set_option linter.unusedSimpArgs false
set_option linter.unusedVariables false
set_option linter.unusedSimpArgs false
namespace Go.Fn
open Go.R
theorem Vs {B X Y:Type} {body body':X->Option (X⊕Y)} (st:B->Nat->X) (len:Nat) (hlen:len<=1073741824) {Q:Y->Prop} (I:Nat->B->Prop)
  (hs:∀n b,n<len->I n b->Sm (fun r=>match r with| .inl a=>∃b',a=st b' (n+1)/\I (n+1) b'| .inr y=>Q y) (body (st b n)) (body' (st b n)))
  (he:∀b,I len b->Sm (fun r=>match r with| .inl a=>False| .inr y=>Q y) (body (st b len)) (body' (st b len))) (b:B) (hb:I 0 b):Sm Q (iter body big (st b 0)) (iter body' big (st b 0)):=by
 have key:∀(k n:Nat) (b:B),n+k=len->I n b->Sm Q (iter body (k+1) (st b n)) (iter body' (k+1) (st b n)):=by
  intro k;induction k with
  |zero=>
   intro n b hn hI;have:n=len:=by omega
   subst this;obtain⟨r,e1,e2,hr⟩:=he b hI;cases r with
   |inl a=>exact hr.elim
   |inr y=>exact⟨y,ay e1,ay e2,hr⟩
  |succ k ih=>
   intro n b hn hI;obtain⟨r,e1,e2,hr⟩:=hs n b (by omega) hI;cases r with
   |inl a=>obtain⟨b',rfl,hI'⟩:=hr;rw[aH e1,aH e2];exact ih (n+1) b' (by omega) hI'
   |inr y=>exact⟨y,ay e1,ay e2,hr⟩
 obtain⟨y,e1,e2,hy⟩:=key len 0 b (by omega) hb;exact⟨y,bF e1 (Nat.le_of_lt (aT (by omega))),bF e2 (Nat.le_of_lt (aT (by omega))),hy⟩
theorem I6{α β:Type}(h:β->α):∀(l:List β) (acc:List α),l.foldl (fun acc b=>acc++[h b]) acc=acc++l.map h
 | [],acc=>by simp
 |x::l,acc=>by simp only[List.foldl_cons,I6 h l,List.map_cons,List.append_assoc,List.singleton_append]
theorem Qq{α:Type}(l m:List α):List.append l m=l++m:=rfl
theorem RI{α:Type}{l:List α}{q:Int}(h0:0<=q)(h1:q<l.length):ah l q=true:=by
 obtain⟨n,rfl⟩:∃n:Nat,q=(n:Int):=⟨q.toNat,by omega⟩
 rw[az];exact decide_eq_true (by omega)
section
variable (a0 a1 a2 a3 a4 a5 a6 a7 a8 a9 a10:Int) (s:List Site) (p:List Si) (g:List SX) (j:List Ev)
variable (lg:List (List Int)) (wk:Int)
theorem Xe(hl:lg.length<=1048576):Sm (fun y=>match y with| .inl y=>y=(0,0,[],[],[],false,())| .inr (.inl y)=>y=(0,0,[],[],())/\∀n,n<lg.length->(lg.getD n gb).length=lg.length| .inr (.inr _)=>False)
  (KN (lg,wk,a0,a1,a2,a3,a4,a5,a6,a7,a8,a9,a10,s,p,g,j,()) (0,0,[],[],0,())) (Kv (lg,wk,a0,a1,a2,a3,a4,a5,a6,a7,a8,a9,a10,s,p,g,j,lg,ai lg,()) (0,0,[],[],0,())):=by
 refine Vs (B:=Unit) (Y:=(Int×Int×List (List Int)×List Mg×List Int×Bool×Unit)⊕((Int×Int×List (List Int)×List Mg×Unit)⊕Empty)) (fun _ n=>(0,0,[],[],(n:Int),())) lg.length (by omega) (fun n _=>∀m,m<n->(lg.getD m gb).length=lg.length) (fun n _ hn hI=>?_) (fun _ hI=>?_) () (fun m hm=>absurd hm (Nat.not_lt_zero _))
 ·unfold KL Kt;simp only[aj,az,hn,decide_true,cond_true,aq,av (n:=n) (by omega)];refine .cond (fun _=>.ret rfl) fun h=>.ret ⟨(),rfl,fun m hm=>?_⟩;rcases Nat.lt_or_ge m n with h1|h1
  ·exact hI m h1
  ·obtain rfl:m=n:=by omega
   have:(ai (lg.getD m gb) != ai lg)=false:=h;simp only[bne_eq_false_iff_eq]at this;unfold ai at this;omega
 ·unfold KL Kt;simp only[aj,Nat.lt_irrefl,decide_false,cond_false];exact .ret ⟨rfl,hI⟩
noncomputable def rowOf(Pl:List Int)(a:Int):List Int:=Pl.map fun q=>ae zI (ae gb lg a) q
variable (z0 z1:Int) (zg:List (List Int)) (zs:List Mg) (b r:Int) (L:List (List Int)) (S:List Mg) (I Pl:List Int)
theorem WC(hrow:∀n,n<lg.length->(lg.getD n gb).length=lg.length){x:Int}(h:0<=x/\x<lg.length):(ae gb lg x).length=lg.length:=by
 obtain⟨n,rfl⟩:∃n:Nat,x=(n:Int):=⟨x.toNat,by omega⟩
 rw[aq];exact hrow n (by omega)
theorem Xi(V5:∀q∈Pl,0<=q/\q<lg.length)(hP:Pl.length<=1048576)(hrow:∀n,n<lg.length->(lg.getD n gb).length=lg.length){n:Nat}(hn:n<Pl.length):
  KQ (lg,(n:Int),()) (z0,z1,zg,zs,b,r,L,S,I,Pl,[],0,())=some (.inl (z0,z1,zg,zs,b,r,L,S,I,Pl,rowOf lg Pl (Pl.getD n zI),())):=by
 have hx:=V5 _ (mo hn zI);have:=(cL (body:=Io (lg,(n:Int),())) Pl zI (by omega) (fun acc q=>acc++[ae zI (ae gb lg (Pl.getD n zI)) q]) (fun acc m=>(z0,z1,zg,zs,b,r,L,S,I,Pl,acc,(m:Int),())) (fun m acc=>acc.length=m) (fun acc=>.inl (z0,z1,zg,zs,b,r,L,S,I,Pl,acc,())) (fun m acc hm hI=>?_) (fun acc hI=>?_) [] rfl).1
 ·rw[I6]at this;exact this
 ·have hy:=V5 _ (mo hm zI);refine⟨?_,by simp[hI]⟩;unfold Io;simp only[aj,az,hm,hn,decide_true,cond_true,aq,av (n:=m) (by omega),RI hx.1 hx.2,RI hy.1 (by rw[WC lg hrow hx];exact hy.2),Qq,List.nil_append,aV];rw[kx (by simp;omega)];rfl
 ·unfold Io;simp only[aj,Nat.lt_irrefl,decide_false,cond_false]
theorem WZ(V5:∀q∈Pl,0<=q/\q<lg.length)(hP:Pl.length<=1048576)(hrow:∀n,n<lg.length->(lg.getD n gb).length=lg.length)(x:Int)(hx:0<=x/\x<lg.length)(n:Nat):
  Jy (lg,Pl,x,Pl,ai Pl,(n:Int),Pl,ai Pl,()) (z0,z1,zg,zs,b,r,L,S,I,[],0,())=some (.inl (z0,z1,zg,zs,b,r,L,S,I,rowOf lg Pl x,())):=by
 have:=(cL (body:=xl (lg,Pl,x,Pl,ai Pl,(n:Int),Pl,ai Pl,())) Pl zI (by omega) (fun acc q=>acc++[ae zI (ae gb lg x) q]) (fun acc m=>(z0,z1,zg,zs,b,r,L,S,I,acc,(m:Int),())) (fun m acc=>acc.length=m) (fun acc=>.inl (z0,z1,zg,zs,b,r,L,S,I,acc,())) (fun m acc hm hI=>?_) (fun acc hI=>?_) [] rfl).1
 ·rw[I6]at this;exact this
 ·have hy:=V5 _ (mo hm zI);refine⟨?_,by simp[hI]⟩;unfold xl;simp only[aj,az,hm,decide_true,cond_true,aq,av (n:=m) (by omega),RI hx.1 hx.2,RI hy.1 (by rw[WC lg hrow hx];exact hy.2),Qq,List.nil_append,aV];rw[kx (by simp;omega)];rfl
 ·unfold xl;simp only[aj,Nat.lt_irrefl,decide_false,cond_false]
theorem WH(V5:∀q∈Pl,0<=q/\q<lg.length)(hP:Pl.length<=1048576)(hrow:∀n,n<lg.length->(lg.getD n gb).length=lg.length):
  KP (lg,()) (z0,z1,zg,zs,b,r,[],S,I,Pl,0,())=some (.inl (z0,z1,zg,zs,b,r,Pl.map (rowOf lg Pl),S,I,())):=by
 have:=(cL (body:=Im (lg,())) Pl zI (by omega) (fun acc q=>acc++[rowOf lg Pl q]) (fun acc m=>(z0,z1,zg,zs,b,r,acc,S,I,Pl,(m:Int),())) (fun m acc=>acc.length=m) (fun acc=>.inl (z0,z1,zg,zs,b,r,acc,S,I,())) (fun m acc hm hI=>?_) (fun acc hI=>?_) [] rfl).1
 ·rw[I6]at this;exact this
 ·refine⟨?_,by simp[hI]⟩;have:=Xi lg z0 z1 zg zs b r acc S I Pl V5 hP hrow hm;unfold Im;simp only[aj,hm,decide_true,cond_true,av (n:=m) (by omega),this,Option.bind_some,Sum.elim_inl,Qq,List.nil_append];rw[kx (by simp;omega)];rfl
 ·unfold Im;simp only[aj,Nat.lt_irrefl,decide_false,cond_false]
theorem Wu(V5:∀q∈Pl,0<=q/\q<lg.length)(hP:Pl.length<=1048576)(hrow:∀n,n<lg.length->(lg.getD n gb).length=lg.length):
  Jx (lg,Pl,Pl,ai Pl,()) (z0,z1,zg,zs,b,r,[],S,I,0,())=some (.inl (z0,z1,zg,zs,b,r,Pl.map (rowOf lg Pl),S,I,())):=by
 have:=(cL (body:=xh (lg,Pl,Pl,ai Pl,())) Pl zI (by omega) (fun acc q=>acc++[rowOf lg Pl q]) (fun acc m=>(z0,z1,zg,zs,b,r,acc,S,I,(m:Int),())) (fun m acc=>acc.length=m) (fun acc=>.inl (z0,z1,zg,zs,b,r,acc,S,I,())) (fun m acc hm hI=>?_) (fun acc hI=>?_) [] rfl).1
 ·rw[I6]at this;exact this
 ·refine⟨?_,by simp[hI]⟩;have:=WZ lg z0 z1 zg zs b r acc S I Pl V5 hP hrow (Pl.getD m zI) (V5 _ (mo hm zI)) m;unfold xh;simp only[aj,az,aq,hm,decide_true,cond_true,av (n:=m) (by omega),this,Option.bind_some,Sum.elim_inl,Qq,List.nil_append];rw[kx (by simp;omega)];rfl
 ·unfold xh;simp only[aj,Nat.lt_irrefl,decide_false,cond_false]
noncomputable def XF(y:Int×Int×List (List Int)×List Mg×List Int×Bool×Unit):Prop:=y.2.2.1.length<=1048576/\(∀x∈y.2.2.1,x.length<=1048576)/\y.2.2.2.1.length<=1048576/\y.2.2.2.2.1.length<=1048576/\y.2.2.2.2.1.length=y.2.2.2.1.length
theorem OS:XF (0,0,[],[],[],false,()):=⟨Nat.zero_le _,fun x hx=>(nomatch hx),Nat.zero_le _,Nat.zero_le _,rfl⟩
theorem X9{b:Bool}(h:mS a0 a1 a2 a3 a4 a5 a6 a7 a8 a9 a10 s p g j=some (b,()))(hb:b=true):hG a10 0 20000=true:=by
 subst hb;cases hn:hG a10 0 20000 with
 |true=>rfl
 |false=>
  have:mS a0 a1 a2 a3 a4 a5 a6 a7 a8 a9 a10 s p g j=some (false,()):=by
   obtain⟨b,hb⟩:=VM a9;unfold mS;refine(Pn (OW a0 a1 a2 a3 a4 a5 a6 a7)).trans ?_;cases Oh a0 a1 a2 a3 a4 a5 a6 a7 with
   |false=>rfl
   |true=>
   refine(cF rfl).trans ?_;refine(Pn (ev a8 0 1000)).trans ?_;cases hG a8 0 1000 with
   |false=>rfl
   |true=>
   refine(cF rfl).trans ?_;refine(Pn hb).trans ?_;cases b with
   |false=>rfl
   |true=>
   refine(cF rfl).trans ?_;refine(Pn (Iv a10)).trans ?_;rw[hn];exact cT rfl
  rw[this]at h;injection h with h
  injection h with h
theorem WB(hle:RE s p g j)(hl:lg.length<=1048576):Sm XF (K7 a0 a1 a2 a3 a4 a5 a6 a7 a8 a9 a10 s p g j lg wk) (KY a0 a1 a2 a3 a4 a5 a6 a7 a8 a9 a10 s p g j lg wk):=by
 have hls:=hle.ls;obtain⟨⟨ok,u⟩,e1,e2,_⟩:=U5 a0 a1 a2 a3 a4 a5 a6 a7 a8 a9 a10 s p g j hle;unfold K7 KY;simp only[e1,e2,Option.bind_some];refine .cond (fun _=>.ret OS) fun hok=>?_;have hok:ok=true:=by cases ok with|true=>rfl|false=>cases hok
 have abg:=e7.1 (X9 a0 a1 a2 a3 a4 a5 a6 a7 a8 a9 a10 s p g j e2 hok);refine .cond (fun _=>.ret OS) fun hlen=>?_;have hlen:lg.length=s.length+1:=by have h1:aa .add .i64 (ai s) 1=((s.length+1:Nat):Int):=av (n:=s.length) (by omega);rw[h1]at hlen;have:(ai lg != ((s.length+1:Nat):Int))=false:=hlen;simp only[bne_eq_false_iff_eq]at this;unfold ai at this;omega
 refine(Xe a0 a1 a2 a3 a4 a5 a6 a7 a8 a9 a10 s p g j lg wk hl).bind fun y hy=>?_;cases y with
 |inl y=>have hy:y=(0,0,[],[],[],false,()):=hy;subst hy;exact .ret OS
 |inr y=>
  cases y with
  |inr e=>exact hy.elim
  |inl y=>
   obtain⟨rfl,hrow⟩:=hy;simp only[Sum.elim_inr,Sum.elim_inl,Qq,List.nil_append];have e8:Sm (fun(y:(Int×Int×List (List Int)×List Mg×List Int×Bool×Unit)⊕((Int×Int×List (List Int)×List Mg×Int×Int×List (List Int)×List Mg×List Int×List Int×Unit)⊕Empty))=>match y with| .inl y=>y=(0,0,[],[],[],false,())| .inr (.inl y)=>∃S I Pl,y=(0,0,[],[],a10,a8,[],S,I,Pl,())/\S4 s.length S I Pl| .inr (.inr _)=>False) (KO (lg,wk,a0,a1,a2,a3,a4,a5,a6,a7,a8,a9,a10,s,p,g,j,()) (0,0,[],[],a10,a8,[],[],[],[0],0,())) (Kw (lg,wk,a0,a1,a2,a3,a4,a5,a6,a7,a8,a9,a10,s,p,g,j,s,ai s,()) (0,0,[],[],a10,a8,[],[],[],[0],0,())):=by
    refine Vs (body:=r4 (lg,wk,a0,a1,a2,a3,a4,a5,a6,a7,a8,a9,a10,s,p,g,j,())) (body':=qk (lg,wk,a0,a1,a2,a3,a4,a5,a6,a7,a8,a9,a10,s,p,g,j,s,ai s,())) (fun(q:List Mg×List Int×List Int) n=>(0,0,[],[],a10,a8,[],q.1,q.2.1,q.2.2,(n:Int),())) s.length (by omega) (fun n q=>S4 n q.1 q.2.1 q.2.2) (fun n q hn hI=>?_) (fun q hI=>?_) ([],[],[0]) ⟨Nat.le_refl _,Nat.le_refl _,Nat.le_refl _,Nat.le_refl _,fun q hq=>by rw[List.mem_singleton]at hq;omega,rfl⟩
    ·refine(VS a0 a1 a2 a3 a4 a5 a6 a7 a8 a9 a10 s p g j lg wk 0 0 [] [] a10 a8 [] q.1 q.2.1 q.2.2 hn hls hle.lp abg hI).mono fun y hy=>?_;cases y with
     |inl y=>obtain⟨S',I',XH,rfl,hk⟩:=hy;exact⟨(S',I',XH),rfl,hk⟩
     |inr y=>
      cases y with
      |inl y=>exact hy
      |inr y=>exact hy.elim
    ·unfold r4 qk;simp only[aj,Nat.lt_irrefl,decide_false,cond_false];exact .ret ⟨_,_,_,rfl,hI⟩
   refine e8.bind fun y hy=>?_
   ·cases y with
    |inl y=>have hy:y=(0,0,[],[],[],false,()):=hy;subst hy;exact .ret OS
    |inr y=>
     cases y with
     |inr e=>exact hy.elim
     |inl y=>
      obtain⟨S,I,Pl,rfl,k1,k2,k3,k4,k5,k6⟩:=hy;have V5:∀q∈Pl,0<=q/\q<lg.length:=fun q hq=>by have:=k5 q hq;omega
      have r1:=WH lg 0 0 [] [] a10 a8 S I Pl V5 (by omega) hrow;have r2:=Wu lg 0 0 [] [] a10 a8 S I Pl V5 (by omega) hrow;have hr:∀x∈Pl.map (rowOf lg Pl),x.length<=1048576:=fun x hx=>by obtain⟨q,_,rfl⟩:=List.mem_map.1 hx;unfold rowOf;rw[List.length_map];omega
      simp only[Sum.elim_inr,Sum.elim_inl,r1,r2,Option.bind_some,Mv,OV a10 a8 (Pl.map (rowOf lg Pl)) S (fun x hx=>by have:=hr x hx;omega)];refine .cond (fun _=>.ret OS) fun _=>.ret ⟨?_,hr,?_,?_,k6⟩
      ·show(Pl.map (rowOf lg Pl)).length<=_;rw[List.length_map];omega
      ·show S.length<=_;omega
      ·show I.length<=_;omega
end
end Go.Fn
set_option linter.unusedVariables false
set_option linter.unusedSimpArgs false
namespace Go.Fn
open Go.R
theorem W9:∀(k:Int) (x:List Int),k<=(Uz k x).2/\(Uz k x).2<=k+(x.length:Int):=fun k x=>⟨by show k<=k+(x.length:Int);omega,Int.le_refl _⟩
end Go.Fn
set_option linter.unusedVariables false
set_option linter.unusedSimpArgs false
namespace Go.Fn
open Go.R
section
variable (a0 a1:Int) (g:List (List Int)) (s:List Mg)
theorem Xd{o:List Int}{v:List Int×Int×Int×Int}(h:RY a0 a1 g s o=some v):∀x∈o,0<=x/\x<(s.length:Int):=by
 unfold RY at h;cases ho:ik a0 a1 g s o with
 |false=>rw[ho]at h;cases h
 |true=>exact(UD.1 ho).2.1
theorem VV(st:SM)(o:List Int)(h:∀x∈st.2.1,0<=x/\x<(s.length:Int)):∀x∈(n6 a0 a1 g s st o).2.1,0<=x/\x<(s.length:Int):=by
 unfold n6;cases hr:RY a0 a1 g s o with
 |none=>exact h
 |some v=>have ho:=Xd a0 a1 g s hr;simp only;cases st.1 <;> cases decide (st.2.1.length<o.length) <;> cases decide (o.length=st.2.1.length) <;> cases af .lss v.2.1 st.2.2.1 <;> cases af .eql v.2.1 st.2.2.1 <;> cases af .lss (TD o st.2.1) 0 <;> first|exact ho|exact h
theorem UC:∀(L:List (List Int)) (st:SM),(∀x∈st.2.1,0<=x/\x<(s.length:Int))->∀x∈(L.foldl (n6 a0 a1 g s) st).2.1,0<=x/\x<(s.length:Int)
 | [],st,h=>h
 |o::L,st,h=>UC L _ (VV a0 a1 g s st o h)
theorem VL:∀x∈(RC a0 a1 g s).1,0<=x/\x<(s.length:Int):=by
 unfold RC;cases n3 a0 a1 g s with
 |false=>exact fun x hx=>nomatch hx
 |true=>exact UC a0 a1 g s _ _ fun x hx=>nomatch hx
end
section
variable (a0 a1 a2 a3 a4 a5 a6 a7 a8 a9 a10:Int) (s:List Site) (p:List Si) (g:List SX) (j:List Ev)
theorem Xh(I o:List Int)(h:∀x∈o,0<=x/\x<(I.length:Int))(ho:o.length<=1048576):Nh (o,()) (I,[],0,())=some (.inl (o.map (ae zI I),())):=by
 have:=(cL (body:=Kf (o,())) o zI (by omega) (fun acc q=>acc++[ae zI I q]) (fun acc m=>(I,acc,(m:Int),())) (fun m acc=>acc.length=m) (fun acc=>.inl (acc,())) (fun m acc hm hI=>?_) (fun acc hI=>?_) [] rfl).1
 ·rw[I6]at this;exact this
 ·have hx:=h _ (mo hm zI);refine⟨?_,by simp[hI]⟩;unfold Kf;simp only[aj,az,hm,decide_true,cond_true,aq,av (n:=m) (by omega),RI hx.1 hx.2,Qq,List.nil_append];rw[kx (by simp;omega)];rfl
 ·unfold Kf;simp only[aj,Nat.lt_irrefl,decide_false,cond_false]
theorem WY(I o:List Int)(h:∀x∈o,0<=x/\x<(I.length:Int))(ho:o.length<=1048576):M2 (ai o,()) (I,[],o,0,())=some (.inl (o.map (ae zI I),())):=by
 have:=(cL (body:=JB (ai o,())) o zI (by omega) (fun acc q=>acc++[ae zI I q]) (fun acc m=>(I,acc,o,(m:Int),())) (fun m acc=>acc.length=m) (fun acc=>.inl (acc,())) (fun m acc hm hI=>?_) (fun acc hI=>?_) [] rfl).1
 ·rw[I6]at this;exact this
 ·have hx:=h _ (mo hm zI);refine⟨?_,by simp[hI]⟩;unfold JB;simp only[aj,az,hm,decide_true,cond_true,aq,av (n:=m) (by omega),RI hx.1 hx.2,Qq,List.nil_append];rw[kx (by simp;omega)];rfl
 ·unfold JB;simp only[aj,Nat.lt_irrefl,decide_false,cond_false]
variable (lg:List (List Int)) (wk:Int)
theorem Xn(hle:RE s p g j)(hl:lg.length<=1048576):Sm (fun y=>y.1.length<=1048576) (Og a0 a1 a2 a3 a4 a5 a6 a7 a8 a9 a10 s p g j lg wk) (Lh a0 a1 a2 a3 a4 a5 a6 a7 a8 a9 a10 s p g j lg wk):=by
 unfold Og Lh;refine(WB a0 a1 a2 a3 a4 a5 a6 a7 a8 a9 a10 s p g j lg wk hle hl).bind fun y hy=>?_;obtain⟨l1,l2,l3,l4,l5⟩:=hy;have hx:=Wt y.1 y.2.1 y.2.2.1 y.2.2.2.1 (fun r hr=>by have:=l2 r hr;omega);have hz:=WG y.1 y.2.1 y.2.2.1 y.2.2.2.1;have hlen:=VK y.1 y.2.1 y.2.2.1 y.2.2.2.1;have X4:=VL y.1 y.2.1 y.2.2.1 y.2.2.2.1;revert hlen X4 hx hz;generalize RC y.1 y.2.1 y.2.2.1 y.2.2.2.1=r;intro hx hz hlen X4;have rM:∀x∈r.1,0<=x/\x<(y.2.2.2.2.1.length:Int):=fun x hm=>by have:=X4 x hm;omega
 rw[hz];simp only[Option.bind_some];refine .cond (fun _=>.ret (Nat.zero_le _)) fun _=>?_;rw[hx];simp only[Option.bind_some,Xh y.2.2.2.2.1 r.1 rM (by omega),WY y.2.2.2.2.1 r.1 rM (by omega),Sum.elim_inl];refine .ret ?_;show(r.1.map _).length<=_;rw[List.length_map];omega
theorem UU(h:Wz s p g j)(hlg:lg.length<=9223372036854775807)(hrw:∀r∈lg,r.length<=9223372036854775807):I7 a0 a1 a2 a3 a4 a5 a6 a7 a8 a9 a10 s p g j lg wk=some (true,()):=by
 unfold I7;obtain⟨b,h1,h2⟩:=TP a0 a1 a2 a3 a4 a5 a6 a7 a8 a9 a10 s p g j 1048576 h (by decide) (by decide);refine(Pn h1).trans ?_;rcases h2 with rfl|⟨b0,b1,hle⟩
 ·rfl
 refine(cF (kv b0)).trans ?_;obtain⟨c,h3,h4⟩:=Vb lg b hlg hrw b0 (by omega);refine(Pn h3).trans ?_;rcases h4 with rfl|⟨c0,c1,c2,c3⟩
 ·rfl
 refine(cF (kv c0)).trans ?_;have Wq:=Xl a0 a1 a2 a3 a4 a5 a6 a7 a8 a9 a10 s p g j 1048576 b h (by decide) (by decide) h1 b0 hle;have t:=TS a0 a1 a2 a3 a4 a5 a6 a7 a8 a9 a10 s p g j hle;have e:=Sv a0 a1 a2 a3 a4 a5 a6 a7 a8 a9 a10 s p g j hle;have k:=SF a0 a1 a2 a3 a4 a5 a6 a7 a8 a9 a10 s p g j 1 hle (by decide) (by omega);have kn:af .lss (Xa 1 s p g j) 0=false:=kv (SJ s p g j 1 (by decide));have Z1:lg.length<=1048576:=by omega
 have WW:∀r∈lg,r.length<=1048576:=fun r hr=>by have:=c3 r hr;omega
 have t2:=Vh lg (by omega) (fun r hr=>by have:=WW r hr;omega);have e2:=Tt lg (by omega) (fun r hr=>by have:=WW r hr;omega);have hrc:=UX WW;have aeG:lg.length*1048576<=1048576*1048576:=Nat.mul_le_mul_right _ Z1;have kn0:=SJ s p g j 1 (by decide);have knb:Xa 1 s p g j<=137438953472:=by obtain⟨b1,b2,b3⟩:=U6 s p g 1;unfold RD at Wq;unfold Xa;omega
 have k2:=TE lg (Xa 1 s p g j) (by omega) (fun r hr=>by have:=WW r hr;omega) kn0 (by omega);have k2n:af .lss (b8 Uz lg (Xa 1 s p g j)).2 0=false:=kv (by have:=Oi (mk:=Uz) (cost:=List.length) W9 lg (Xa 1 s p g j);omega);obtain⟨⟨r,ok,u⟩,y1,y2,l1⟩:=Xn a0 a1 a2 a3 a4 a5 a6 a7 a8 a9 a10 s p g j lg wk hle Z1;have l1:r.length<=1048576:=l1;have e4:=Py r (by omega);have m5:=PN r 1 (by omega) (by decide) (by decide);have m6:=Ut r.length 1 (by omega) (by decide) (by decide);have m8:af .lss (1+(r.length:Int)) 0=false:=kv (by omega);simp only[t,e,k,kn,t2,e2,k2,k2n,y1,y2,e4,m5,m6,m8,Option.bind_some,PX,gm,Bool.not_true,cond_false]
end
end Go.Fn

