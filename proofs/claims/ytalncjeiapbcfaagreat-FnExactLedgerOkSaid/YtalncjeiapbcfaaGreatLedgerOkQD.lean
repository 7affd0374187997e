import Derived.Test.YtalncjeiapbcfaaGreatLedgerOkQC
/- Plain functions that stand for Go functions, and what they answer. Conditions: none. -/
set_option autoImplicit false
set_option linter.unusedVariables false
set_option linter.unusedSimpArgs false
set_option linter.unusedSimpArgs false
set_option linter.unusedVariables false
namespace Go.Fn
open Go.R Go.Sort
noncomputable def Yx(l:List Ev)(x:Int):Int:=(l.getD x.toNat bf).2.2.1
theorem ac4(P T:List Int)(a:Int):(P++a::T).getD P.length 0=a:=by induction P <;> simp_all
theorem ac5(P T:List Int)(a x:Int):(P++a::x::T).getD (P.length+1) 0=x:=by simp
theorem ac6(P T:List Int)(a x:Int):(P++a::T).set P.length x=P++x::T:=by induction P <;> simp_all
theorem ac7(P T:List Int)(a b x:Int):(P++a::b::T).set (P.length+1) x=P++a::x::T:=by simp
theorem aba(l:List Ev)(i:Int)(x:Int)(hx:0<=x/\x<l.length):∀(k:Nat) (P S:List Int) (n:Nat),P.length=k->P.length+S.length<=1000->(∀y,y∈P++S->0<=y/\y<l.length)->(∀y,y∈S->Yx l x<Yx l y)->k<n ->
  ∃A B,iter (Pm (l,i,())) n (P++x::S,(k:Int),())=some (.inl (A++x::B,()))/\A++B=P++S/\(∀y,y∈B->Yx l x<Yx l y)/\(∀A' a,A=A'++[a]->Yx l a<=Yx l x):=by
 intro k;induction k with
 |zero=>
  intro P S n hP _ _ hS hn;obtain⟨n,rfl⟩:∃m,n=m+1:=⟨n-1,by omega⟩
  have:P=[]:=List.length_eq_zero_iff.1 hP;subst this;refine⟨[],S,ay rfl,rfl,hS,fun A' a h=>?_⟩;have:=congrArg List.length h;simp at this
 |succ p ih=>
  intro P S n hP hlen hv hS hn;obtain⟨n,rfl⟩:∃m,n=m+1:=⟨n-1,by omega⟩
  obtain⟨P',a,rfl⟩:∃P' a,P=P'++[a]:=by
   have hne:P≠[]:=fun h=>by rw[h]at hP;cases hP
   exact⟨P.dropLast,P.getLast hne,(List.dropLast_concat_getLast hne).symm⟩
  have hp:P'.length=p:=by simpa using hP
  subst hp;have ha:=hv a (by simp);obtain⟨an,rfl⟩:∃q:Nat,a=(q:Int):=⟨a.toNat,by omega⟩
  obtain⟨xn,rfl⟩:∃q:Nat,x=(q:Int):=⟨x.toNat,by omega⟩
  have e1:aa .sub .i64 ((P'.length+1:Nat):Int) 1=(P'.length:Int):=iw (by simp at hlen;omega);have hL:(P'++[(an:Int)])++(xn:Int)::S=P'++(an:Int)::(xn:Int)::S:=by simp
  rw[hL];have i0:P'.length<(P'++(an:Int)::(xn:Int)::S).length:=by simp
  have i1:P'.length+1<(P'++(an:Int)::(xn:Int)::S).length:=by simp
  have g0:ae zI (P'++(an:Int)::(xn:Int)::S) (P'.length:Int)=(an:Int):=by rw[aq];exact ac4 _ _ _
  have g1:ae zI (P'++(an:Int)::(xn:Int)::S) ((P'.length+1:Nat):Int)=(xn:Int):=by rw[aq];exact ac5 _ _ _ _
  have ia:ah l (an:Int)=true:=cV (by omega);have ix:ah l (xn:Int)=true:=cV (by omega);by_cases hc:Yx l (xn:Int)<Yx l (an:Int)
  ·obtain⟨A,B,k1,k2,k3,k4⟩:=ih P' ((an:Int)::S) n rfl (by simp at hlen⊢;omega) (fun y hy=>hv y (by simpa using hy)) (fun y hy=>by
    rcases List.mem_cons.1 hy with rfl|hy
    ·exact hc
    ·exact hS y hy) (by omega)
   refine⟨A,B,?_,by rw[k2];simp,k3,k4⟩;rw[<-k1];refine aH ?_;have hgt:af .gtr (ae bf l (an:Int)).2.2.1 (ae bf l (xn:Int)).2.2.1=true:=by rw[aq,aq];exact decide_eq_true (by unfold Yx at hc;rw[Int.toNat_natCast,Int.toNat_natCast]at hc;exact hc)
   unfold Pm;simp only[gt0,cond_true,e1,cV i0,cV i1,g0,g1,ia,ix,hgt];have s1:aC (P'++(an:Int)::(xn:Int)::S) ((P'.length+1:Nat):Int) (an:Int)=P'++(an:Int)::(an:Int)::S:=by rw[aN];exact ac7 _ _ _ _ _
   have s2:aC (P'++(an:Int)::(an:Int)::S) ((P'.length:Nat):Int) (xn:Int)=P'++(xn:Int)::(an:Int)::S:=by rw[aN];exact ac6 _ _ _ _
   have i2:P'.length<(P'++(an:Int)::(an:Int)::S).length:=by simp
   rw[s1,s2,cV i2];rfl
  ·refine⟨P'++[(an:Int)],S,?_,rfl,hS,fun A' a h=>?_⟩
   ·rw[hL];refine ay ?_;have hgt:af .gtr (ae bf l (an:Int)).2.2.1 (ae bf l (xn:Int)).2.2.1=false:=by rw[aq,aq];exact decide_eq_false (by unfold Yx at hc;rw[Int.toNat_natCast,Int.toNat_natCast]at hc;exact hc)
    unfold Pm;simp only[gt0,cond_true,e1,cV i0,cV i1,g0,g1,ia,ix,hgt,cond_false]
   ·have:=List.append_inj_right' h rfl;injection this with h1 _
    rw[<-h1];omega
theorem ZG(l:List Ev)(hj:QH l=true):∀(s i:Nat) (out:List Int) (n:Nat),l.length-i<=s->i<=l.length->out.length=i->(∀x,x∈out↔0<=x/\x<i)->out.Pairwise (fun x y=>NY l x y=true)->s<n ->
  ∃r,iter (MO (l,())) n (out,(i:Int),())=some (.inl (r,()))/\YE l r:=by
 have h60:=NT hj;intro s;induction s with
 |zero=>
  intro i out n hs hi hlen hm hp hn;obtain⟨n,rfl⟩:∃m,n=m+1:=⟨n-1,by omega⟩
  have:i=l.length:=by omega
  refine⟨out,ay ?_,fun x=>by rw[hm,this],hp⟩;unfold MO;simp only[aj,show ¬(i<l.length)by omega,decide_false,cond_false]
 |succ s ih=>
  intro i out n hs hi hlen hm hp hn;obtain⟨n,rfl⟩:∃m,n=m+1:=⟨n-1,by omega⟩
  by_cases h:i<l.length
  ·have hv:∀y,y∈out++[]->0<=y/\y<(l.length:Int):=fun y hy=>by
    have:=(hm y).1 (by simpa using hy);omega
   obtain⟨A,B,k1,k2,k3,k4⟩:=aba l (i:Int) (i:Int) (by omega) i out [] big hlen (by simp;omega) hv (fun y hy=>absurd hy List.not_mem_nil) (aT (by omega));rw[List.append_nil]at k2;have hout:out.Pairwise (fun x y=>NY l x y=true):=hp;rw[<-k2,List.pairwise_append]at hout;have hAi:∀a,a∈A->NY l a (i:Int)=true:=fun a ha=>by
    have hao:=(hm a).1 (by rw[<-k2];exact List.mem_append_left _ ha);have hne:A≠[]:=fun e=>by rw[e]at ha;cases ha
    have hl:=k4 _ _ (List.dropLast_concat_getLast hne).symm;have hle:Yx l a<=Yx l (i:Int):=by
     by_cases e:a=A.getLast hne
     ·rw[e];exact hl
     ·have BA:=hout.1;rw[<-List.dropLast_concat_getLast hne,List.pairwise_append]at BA;have ha2:a∈A.dropLast:=by
       have Wd:=ha;rw[<-List.dropLast_concat_getLast hne,List.mem_append]at Wd;rcases Wd with h|h
       ·exact h
       ·rw[List.mem_singleton]at h;exact absurd h e
      have:=BA.2.2 a ha2 (A.getLast hne) (List.mem_singleton.2 rfl);unfold NY at this;rw[Uz]at this;unfold Yx at hl⊢;omega
    obtain⟨an,rfl⟩:∃q:Nat,a=(q:Int):=⟨a.toNat,by omega⟩
    by_cases e:Yx l (an:Int)=Yx l (i:Int)
    ·exact Ye hj (by omega) h (by unfold Yx at e;rwa[Int.toNat_natCast,Int.toNat_natCast]at e)
    ·unfold NY;rw[Uz];unfold Yx at e hle;omega
   have hiB:∀y,y∈B->NY l (i:Int) y=true:=fun y hy=>by have:=k3 y hy;unfold NY;rw[Uz];unfold Yx at this;omega
   obtain⟨r,r1,r2⟩:=ih (i+1) (A++(i:Int)::B) n (by omega) h (by
    have:=congrArg List.length k2;simp only[List.length_append,List.length_cons]at this⊢;omega) (fun x=>by
    have:=hm x;rw[<-k2,List.mem_append]at this;rw[List.mem_append,List.mem_cons];constructor
    ·rintro(q|q|q)
     ·have:=this.1 (.inl q);omega
     ·omega
     ·have:=this.1 (.inr q);omega
    ·intro q;by_cases e:x=(i:Int)
     ·exact .inr (.inl e)
     ·rcases this.2 (by omega)with q|q
      ·exact .inl q
      ·exact .inr (.inr q)) (by
    rw[List.pairwise_append];refine⟨hout.1,List.Pairwise.cons hiB hout.2.1,fun a ha y hy=>?_⟩;rcases List.mem_cons.1 hy with rfl|hy
    ·exact hAi a ha
    ·exact hout.2.2 a ha y hy) (by omega)
   refine⟨r,?_,r2⟩;rw[<-r1];refine aH ?_;have lS:aE (out++[(i:Int)])=true:=Pc (by simp;omega);have hap:List.append (α:=Int) out (List.append (α:=Int) ([]:List Int) [(i:Int)])=out++[(i:Int)]:=rfl;unfold MO RK;simp only[aj,h,decide_true,cond_true,Rp,hj,Option.bind_some,hap,lS,k1,Sum.elim_inl,av (n:=i) (by omega)]
  ·have:i=l.length:=by omega
   refine⟨out,ay ?_,fun x=>by rw[hm,this],hp⟩;unfold MO;simp only[aj,h,decide_false,cond_false]
theorem Zs(l:List Ev)(h60:l.length<=60):Rt (ai l,()) (l,[],(0:Int),())=some (.inl (l,MF l.length,())):=by
 refine aR (body:=Pg (ai l,())) (fun n=>(l,MF n,(n:Int),())) l.length (by omega) _ (fun n hn=>?_) ?_
 ·have lS:aE (MF (n+1))=true:=Pc (by rw[Wa];omega);have hap:List.append (α:=Int) (MF n) (List.append (α:=Int) ([]:List Int) [(n:Int)])=MF (n+1):=(Y3 n).symm;unfold Pg;simp only[aj,hn,decide_true,cond_true,hap,lS,av (n:=n) (by omega)]
 ·unfold Pg;simp only[aj,Nat.lt_irrefl,decide_false,cond_false]
theorem Zz(l:List Ev):∃r,Qx l=some (r,())/\PS l=some (r,())/\r.length<=60/\(∀x,x∈r->0<=x/\x<l.length)/\(r≠[]->QH l=true)/\(QH l=true->YE l r):=by
 cases hj:QH l with
 |false=>
  refine⟨[],?_,?_,Nat.zero_le _,fun x hx=>absurd hx List.not_mem_nil,fun h=>absurd rfl h,fun h=>by cases h⟩
  ·have it:iter (MO (l,())) 1 ([],(0:Int),())=some (.inl ([],())):=by
    refine ay ?_;unfold MO;simp only[Rp,hj,Option.bind_some,cond_false];cases af .lss (0:Int) (ai l) <;> rfl
   unfold Qx Pn;rw[bF it (Nat.le_of_lt (aT (by omega)))];rfl
  ·unfold PS;rw[Rl,hj];rfl
 |true=>
  have h60:=NT hj;obtain⟨r,r1,r2⟩:=ZG l hj 60 0 [] big (by omega) (Nat.zero_le _) rfl (fun x=>⟨fun h=>absurd h List.not_mem_nil,fun h=>by omega⟩) List.Pairwise.nil (aT (by omega));obtain⟨r',q1,q2⟩:=YW l hj;have:r'=r:=aat q2 r2;subst this;have hlen:r'.length<=60:=by
   have hp:r'.Perm (MF l.length):=by
    refine(List.perm_ext_iff_of_nodup ?_ ?_).2 fun x=>by rw[r2.1,Wb]
    ·exact r2.2.imp fun {a b} h e=>by subst e;rw[(TH l).irrefl]at h;cases h
    ·unfold MF;rw[List.nodup_iff_pairwise_ne,List.pairwise_map];exact List.pairwise_lt_range.imp fun {a b} h=>by omega
   rw[hp.length_eq,Wa];exact h60
  refine⟨r',?_,?_,hlen,fun x hx=>(r2.1 x).1 hx,fun _=>rfl,fun _=>r2⟩
  ·unfold Qx Pn;rw[show(0:Int)=((0:Nat):Int)from rfl,r1];rfl
  ·unfold PS;simp only[Rl,hj,Option.bind_some,Bool.not_true,cond_false,Zs l h60,Sum.elim_inl,q1]
abbrev Fat:=Int×Int×Int×Int×Int×Int×Int
noncomputable def fst(r:List Int)(f:Fat)(n:Nat):Int×Int×Int×Int×Int×Int×Int×Int×Int×Int×Int×Int×Int×Int×(List Int)×Int×Unit:=(0,0,0,0,0,0,0,f.1,f.2.1,f.2.2.1,f.2.2.2.1,f.2.2.2.2.1,f.2.2.2.2.2.1,f.2.2.2.2.2.2,r,(n:Int),())
theorem aae(l:List Ev)(hj:QH l=true)(p:Int)(r:List Int)(hr:∀x,x∈r->0<=x/\x<l.length)(rM:r.length<=60)(f:Fat)(n:Nat)(hn:n<r.length):
  ∃g:Fat,NQ (l,p,()) (fst r f n)=some (.inl (fst r g (n+1)))/\NJ (l,p,ai r,()) (fst r f n)=some (.inl (fst r g (n+1))):=by
 have hx:=hr _ (NH hn zI);obtain⟨m,hm⟩:∃q:Nat,r.getD n zI=(q:Int):=⟨(r.getD n zI).toNat,by omega⟩
 rw[hm]at hx;have hml:m<l.length:=by omega
 have he:=Xs.1 (abb hj hml);obtain⟨f1,f2,f3,f4,f5,f6,f7⟩:=f;unfold NQ NJ UE fst;simp only[aj,hn,decide_true,cond_true,az,aq,hm,hml,av (n:=n) (by omega)];revert he;generalize l.getD m bf=e;intro he;have ne:∀x y:Int,af .neq x y = !af .eql x y:=fun x y=>rfl;simp only[ne];cases hp:af .eql e.2.2.2.2.1 p with
 |false=>exact⟨(_,_,_,_,_,_,_),rfl,rfl⟩
 |true=>
  have hk:e.2.2.2.1=1\/e.2.2.2.1=2\/e.2.2.2.1=3\/e.2.2.2.1=4:=by omega
  by_cases q0:f1=0
  ·subst q0;rcases hk with h|h|h|h <;> rw[h] <;> exact⟨(_,_,_,_,_,_,_),rfl,rfl⟩
  ·by_cases q1:f1=1
   ·subst q1;rcases hk with h|h|h|h <;> rw[h] <;> exact⟨(_,_,_,_,_,_,_),rfl,rfl⟩
   ·have c0:af .eql f1 (0:Int)=false:=by simpa[af] using q0
    have c1:af .eql f1 (1:Int)=false:=by simpa[af] using q1
    simp only[c0,c1];rcases hk with h|h|h|h <;> rw[h] <;> exact⟨(_,_,_,_,_,_,_),rfl,rfl⟩
theorem aad(l:List Ev)(p:Int)(r:List Int)(hj:r≠[]->QH l=true)(hr:∀x,x∈r->0<=x/\x<l.length)(rM:r.length<=60):∀(s n k:Nat) (f:Fat),r.length-n<=s->n<=r.length->s<k ->
  ∃g:Fat,iter (NQ (l,p,())) k (fst r f n)=some (.inl (0,0,0,0,0,0,0,g.1,g.2.1,g.2.2.1,g.2.2.2.1,g.2.2.2.2.1,g.2.2.2.2.2.1,g.2.2.2.2.2.2,()))/\iter (NJ (l,p,ai r,())) k (fst r f n)=some (.inl (0,0,0,0,0,0,0,g.1,g.2.1,g.2.2.1,g.2.2.2.1,g.2.2.2.2.1,g.2.2.2.2.2.1,g.2.2.2.2.2.2,())):=by
 have done:∀(n:Nat) (f:Fat),¬(n<r.length)->NQ (l,p,()) (fst r f n)=some (.inr (.inl (0,0,0,0,0,0,0,f.1,f.2.1,f.2.2.1,f.2.2.2.1,f.2.2.2.2.1,f.2.2.2.2.2.1,f.2.2.2.2.2.2,())))/\NJ (l,p,ai r,()) (fst r f n)=some (.inr (.inl (0,0,0,0,0,0,0,f.1,f.2.1,f.2.2.1,f.2.2.2.1,f.2.2.2.2.1,f.2.2.2.2.2.1,f.2.2.2.2.2.2,()))):=fun n f h=>by unfold NQ NJ fst;simp only[aj,h,decide_false,cond_false];exact⟨trivial,trivial⟩
 intro s;induction s with
 |zero=>
  intro n k f hs hn hk;obtain⟨k,rfl⟩:∃m,k=m+1:=⟨k-1,by omega⟩
  have:=done n f (by omega);exact⟨f,ay this.1,ay this.2⟩
 |succ s ih=>
  intro n k f hs hn hk;obtain⟨k,rfl⟩:∃m,k=m+1:=⟨k-1,by omega⟩
  by_cases h:n<r.length
  ·obtain⟨g,g1,g2⟩:=aae l (hj (fun e=>by rw[e]at h;cases h)) p r hr rM f n h;rw[aH g1,aH g2];exact ih (n+1) k g (by omega) h (by omega)
  ·have:=done n f h;exact⟨f,ay this.1,ay this.2⟩
theorem aac(l:List Ev)(p:Int):∃g:Fat,TK l p=some (g.1,g.2.1,g.2.2.1,g.2.2.2.1,g.2.2.2.2.1,g.2.2.2.2.2.1,g.2.2.2.2.2.2,())/\Tk l p=some (g.1,g.2.1,g.2.2.1,g.2.2.2.1,g.2.2.2.2.1,g.2.2.2.2.2.1,g.2.2.2.2.2.2,()):=by
 obtain⟨r,r1,r2,r3,r4,r5,_⟩:=Zz l;obtain⟨g,g1,g2⟩:=aad l p r r5 r4 r3 60 0 big (0,0,0,0,0,0,0) (by omega) (Nat.zero_le _) (aT (by omega));refine⟨g,?_,?_⟩
 ·unfold TK;rw[r1];simp only[Option.bind_some];have g1:SQ (l,p,()) (0,0,0,0,0,0,0,0,0,0,0,0,0,0,r,0,())=_:=g1;rw[g1];rfl
 ·unfold Tk;rw[r2];simp only[Option.bind_some];have g2:SC (l,p,ai r,()) (0,0,0,0,0,0,0,0,0,0,0,0,0,0,r,0,())=_:=g2;rw[g2];rfl
end Go.Fn
set_option linter.unusedSimpArgs false
set_option linter.unusedVariables false
namespace Go.Fn
open Go.R
section
variable {a0 a1:Int} {g:List (List Int)} {s:List Stp}
noncomputable def lg(g:List (List Int))(p q:Int):Int:=leg g p.toNat q.toNat
end
end Go.Fn
set_option linter.unusedSimpArgs false
set_option linter.unusedVariables false
namespace Go.Fn
open Go.R Go.Sort
noncomputable def QG(x y:Int):Bool:=decide (x<y)
theorem IU(x y:Int):rp x y=some (QG x y,()):=by unfold rp M0 QG;simp only[Lo,Option.bind_some,cond_false];rfl
theorem cc:LH=Ki (QG):=by
 funext;unfold LH Ki;try simp only[IU,Option.bind_some]
 try rfl
theorem cv:KH=Mw (QG):=by
 funext;unfold KH Mw;try simp only[IU,Option.bind_some,cc]
 try rfl
theorem cy:LG=KN (QG):=by
 funext;unfold LG KN;try simp only[IU,Option.bind_some,cc,cv]
 try rfl
theorem ec:KG=Mv (QG):=by
 funext;unfold KG Mv;try simp only[IU,Option.bind_some,cc,cv,cy]
 try rfl
theorem gn:K0=MN (QG):=by
 funext;unfold K0 MN;try simp only[IU,Option.bind_some,cc,cv,cy,ec]
 try rfl
theorem kn:Mz=KE (QG):=by
 funext;unfold Mz KE;try simp only[IU,Option.bind_some,cc,cv,cy,ec,gn]
 try rfl
theorem kv:Lm=N1 (QG):=by
 funext;unfold Lm N1;try simp only[IU,Option.bind_some,cc,cv,cy,ec,gn,kn]
 try rfl
theorem vb:K1=Og (QG):=by
 funext;unfold K1 Og;try simp only[IU,Option.bind_some,cc,cv,cy,ec,gn,kn,kv]
 try rfl
theorem mm:Mx=MX (QG):=by
 funext;unfold Mx MX;try simp only[IU,Option.bind_some,cc,cv,cy,ec,gn,kn,kv,vb]
 try rfl
theorem nn:Lk=NZ (QG):=by
 funext;unfold Lk NZ;try simp only[IU,Option.bind_some,cc,cv,cy,ec,gn,kn,kv,vb,mm]
 try rfl
theorem n4:My=MY (QG):=by
 funext;unfold My MY;try simp only[IU,Option.bind_some,cc,cv,cy,ec,gn,kn,kv,vb,mm,nn]
 try rfl
theorem n6:Ll=N0 (QG):=by
 funext;unfold Ll N0;try simp only[IU,Option.bind_some,cc,cv,cy,ec,gn,kn,kv,vb,mm,nn,n4]
 try rfl
theorem DM:LX=Pp (QG):=by
 funext;unfold LX Pp;try simp only[IU,Option.bind_some,cc,cv,cy,ec,gn,kn,kv,vb,mm,nn,n4,n6]
 try rfl
theorem gg:LF=Kh (QG):=by
 funext;unfold LF Kh;try simp only[IU,Option.bind_some,cc,cv,cy,ec,gn,kn,kv,vb,mm,nn,n4,n6,DM]
 try rfl
theorem g4:KF=Mu (QG):=by
 funext;unfold KF Mu;try simp only[IU,Option.bind_some,cc,cv,cy,ec,gn,kn,kv,vb,mm,nn,n4,n6,DM,gg]
 try rfl
theorem lm:KZ=MM (QG):=by
 funext;unfold KZ MM;try simp only[IU,Option.bind_some,cc,cv,cy,ec,gn,kn,kv,vb,mm,nn,n4,n6,DM,gg,g4]
 try rfl
theorem Jr:KM=O2 (QG):=by
 funext;unfold KM O2;try simp only[IU,Option.bind_some,cc,cv,cy,ec,gn,kn,kv,vb,mm,nn,n4,n6,DM,gg,g4,lm]
 try rfl
theorem JB:KL=PJ (QG):=by
 funext;unfold KL PJ;try simp only[IU,Option.bind_some,cc,cv,cy,ec,gn,kn,kv,vb,mm,nn,n4,n6,DM,gg,g4,lm,Jr]
 try rfl
theorem mu:JI=Lj (QG):=by
 funext;unfold JI Lj;try simp only[IU,Option.bind_some,cc,cv,cy,ec,gn,kn,kv,vb,mm,nn,n4,n6,DM,gg,g4,lm,Jr,JB]
 try rfl
theorem tb:Kz=MW (QG):=by
 funext;unfold Kz MW;try simp only[IU,Option.bind_some,cc,cv,cy,ec,gn,kn,kv,vb,mm,nn,n4,n6,DM,gg,g4,lm,Jr,JB,mu]
 try rfl
theorem kW:LU=KY (QG):=by
 funext;unfold LU KY;try simp only[IU,Option.bind_some,cc,cv,cy,ec,gn,kn,kv,vb,mm,nn,n4,n6,DM,gg,g4,lm,Jr,JB,mu,tb]
 try rfl
theorem nw:KS=ML (QG):=by
 funext;unfold KS ML;try simp only[IU,Option.bind_some,cc,cv,cy,ec,gn,kn,kv,vb,mm,nn,n4,n6,DM,gg,g4,lm,Jr,JB,mu,tb,kW]
 try rfl
theorem tB:Kq=MB (QG):=by
 funext;unfold Kq MB;try simp only[IU,Option.bind_some,cc,cv,cy,ec,gn,kn,kv,vb,mm,nn,n4,n6,DM,gg,g4,lm,Jr,JB,mu,tb,kW,nw]
 try rfl
theorem ei:KP=I1 (QG):=by
 funext;unfold KP I1;try simp only[IU,Option.bind_some,cc,cv,cy,ec,gn,kn,kv,vb,mm,nn,n4,n6,DM,gg,g4,lm,Jr,JB,mu,tb,kW,nw,tB]
 try rfl
theorem ev:JT=KJ (QG):=by
 funext;unfold JT KJ;try simp only[IU,Option.bind_some,cc,cv,cy,ec,gn,kn,kv,vb,mm,nn,n4,n6,DM,gg,g4,lm,Jr,JB,mu,tb,kW,nw,tB,ei]
 try rfl
theorem fq:KQ=JR (QG):=by
 funext;unfold KQ JR;try simp only[IU,Option.bind_some,cc,cv,cy,ec,gn,kn,kv,vb,mm,nn,n4,n6,DM,gg,g4,lm,Jr,JB,mu,tb,kW,nw,tB,ei,ev]
 try rfl
theorem gy:JU=KK (QG):=by
 funext;unfold JU KK;try simp only[IU,Option.bind_some,cc,cv,cy,ec,gn,kn,kv,vb,mm,nn,n4,n6,DM,gg,g4,lm,Jr,JB,mu,tb,kW,nw,tB,ei,ev,fq]
 try rfl
theorem g7:KR=I2 (QG):=by
 funext;unfold KR I2;try simp only[IU,Option.bind_some,cc,cv,cy,ec,gn,kn,kv,vb,mm,nn,n4,n6,DM,gg,g4,lm,Jr,JB,mu,tb,kW,nw,tB,ei,ev,fq,gy]
 try rfl
theorem ii:Jg=J6 (QG):=by
 funext;unfold Jg J6;try simp only[IU,Option.bind_some,cc,cv,cy,ec,gn,kn,kv,vb,mm,nn,n4,n6,DM,gg,g4,lm,Jr,JB,mu,tb,kW,nw,tB,ei,ev,fq,gy,g7]
 try rfl
theorem iL:KO=Ir (QG):=by
 funext;unfold KO Ir;try simp only[IU,Option.bind_some,cc,cv,cy,ec,gn,kn,kv,vb,mm,nn,n4,n6,DM,gg,g4,lm,Jr,JB,mu,tb,kW,nw,tB,ei,ev,fq,gy,g7,ii]
 try rfl
theorem j0:JS=KI (QG):=by
 funext;unfold JS KI;try simp only[IU,Option.bind_some,cc,cv,cy,ec,gn,kn,kv,vb,mm,nn,n4,n6,DM,gg,g4,lm,Jr,JB,mu,tb,kW,nw,tB,ei,ev,fq,gy,g7,ii,iL]
 try rfl
theorem oa:Is=Jf (QG):=by
 funext;unfold Is Jf;try simp only[IU,Option.bind_some,cc,cv,cy,ec,gn,kn,kv,vb,mm,nn,n4,n6,DM,gg,g4,lm,Jr,JB,mu,tb,kW,nw,tB,ei,ev,fq,gy,g7,ii,iL,j0]
 try rfl
theorem vm:Ls=Lp (QG):=by
 funext;unfold Ls Lp;try simp only[IU,Option.bind_some,cc,cv,cy,ec,gn,kn,kv,vb,mm,nn,n4,n6,DM,gg,g4,lm,Jr,JB,mu,tb,kW,nw,tB,ei,ev,fq,gy,g7,ii,iL,j0,oa]
 try rfl
theorem xb:Kv=Mh (QG):=by
 funext;unfold Kv Mh;try simp only[IU,Option.bind_some,cc,cv,cy,ec,gn,kn,kv,vb,mm,nn,n4,n6,DM,gg,g4,lm,Jr,JB,mu,tb,kW,nw,tB,ei,ev,fq,gy,g7,ii,iL,j0,oa,vm]
 try rfl
theorem Bd:Lt=Lq (QG):=by
 funext;unfold Lt Lq;try simp only[IU,Option.bind_some,cc,cv,cy,ec,gn,kn,kv,vb,mm,nn,n4,n6,DM,gg,g4,lm,Jr,JB,mu,tb,kW,nw,tB,ei,ev,fq,gy,g7,ii,iL,j0,oa,vm,xb]
 try rfl
theorem Ia:Kw=Mi (QG):=by
 funext;unfold Kw Mi;try simp only[IU,Option.bind_some,cc,cv,cy,ec,gn,kn,kv,vb,mm,nn,n4,n6,DM,gg,g4,lm,Jr,JB,mu,tb,kW,nw,tB,ei,ev,fq,gy,g7,ii,iL,j0,oa,vm,xb,Bd]
 try rfl
theorem Im:Lr=Ks (QG):=by
 funext;unfold Lr Ks;try simp only[IU,Option.bind_some,cc,cv,cy,ec,gn,kn,kv,vb,mm,nn,n4,n6,DM,gg,g4,lm,Jr,JB,mu,tb,kW,nw,tB,ei,ev,fq,gy,g7,ii,iL,j0,oa,vm,xb,Bd,Ia]
 try rfl
theorem IE:Ku=Mg (QG):=by
 funext;unfold Ku Mg;try simp only[IU,Option.bind_some,cc,cv,cy,ec,gn,kn,kv,vb,mm,nn,n4,n6,DM,gg,g4,lm,Jr,JB,mu,tb,kW,nw,tB,ei,ev,fq,gy,g7,ii,iL,j0,oa,vm,xb,Bd,Ia,Im]
 try rfl
theorem Jx:hD=BE (QG):=by
 funext;unfold hD BE;try simp only[IU,Option.bind_some,cc,cv,cy,ec,gn,kn,kv,vb,mm,nn,n4,n6,DM,gg,g4,lm,Jr,JB,mu,tb,kW,nw,tB,ei,ev,fq,gy,g7,ii,iL,j0,oa,vm,xb,Bd,Ia,Im,IE]
 try rfl
theorem Ka:Mn=M1 (QG):=by
 funext;unfold Mn M1;try simp only[IU,Option.bind_some,cc,cv,cy,ec,gn,kn,kv,vb,mm,nn,n4,n6,DM,gg,g4,lm,Jr,JB,mu,tb,kW,nw,tB,ei,ev,fq,gy,g7,ii,iL,j0,oa,vm,xb,Bd,Ia,Im,IE,Jx]
 try rfl
theorem Ky:K4=NC (QG):=by
 funext;unfold K4 NC;try simp only[IU,Option.bind_some,cc,cv,cy,ec,gn,kn,kv,vb,mm,nn,n4,n6,DM,gg,g4,lm,Jr,JB,mu,tb,kW,nw,tB,ei,ev,fq,gy,g7,ii,iL,j0,oa,vm,xb,Bd,Ia,Im,IE,Jx,Ka]
 try rfl
theorem KU:Mo=M2 (QG):=by
 funext;unfold Mo M2;try simp only[IU,Option.bind_some,cc,cv,cy,ec,gn,kn,kv,vb,mm,nn,n4,n6,DM,gg,g4,lm,Jr,JB,mu,tb,kW,nw,tB,ei,ev,fq,gy,g7,ii,iL,j0,oa,vm,xb,Bd,Ia,Im,IE,Jx,Ka,Ky]
 try rfl
theorem Lc:K5=ND (QG):=by
 funext;unfold K5 ND;try simp only[IU,Option.bind_some,cc,cv,cy,ec,gn,kn,kv,vb,mm,nn,n4,n6,DM,gg,g4,lm,Jr,JB,mu,tb,kW,nw,tB,ei,ev,fq,gy,g7,ii,iL,j0,oa,vm,xb,Bd,Ia,Im,IE,Jx,Ka,Ky,KU]
 try rfl
theorem LD:Mq=Oe (QG):=by
 funext;unfold Mq Oe;try simp only[IU,Option.bind_some,cc,cv,cy,ec,gn,kn,kv,vb,mm,nn,n4,n6,DM,gg,g4,lm,Jr,JB,mu,tb,kW,nw,tB,ei,ev,fq,gy,g7,ii,iL,j0,oa,vm,xb,Bd,Ia,Im,IE,Jx,Ka,Ky,KU,Lc]
 try rfl
theorem Md:K7=NF (QG):=by
 funext;unfold K7 NF;try simp only[IU,Option.bind_some,cc,cv,cy,ec,gn,kn,kv,vb,mm,nn,n4,n6,DM,gg,g4,lm,Jr,JB,mu,tb,kW,nw,tB,ei,ev,fq,gy,g7,ii,iL,j0,oa,vm,xb,Bd,Ia,Im,IE,Jx,Ka,Ky,KU,Lc,LD]
 try rfl
theorem ME:Mr=Of (QG):=by
 funext;unfold Mr Of;try simp only[IU,Option.bind_some,cc,cv,cy,ec,gn,kn,kv,vb,mm,nn,n4,n6,DM,gg,g4,lm,Jr,JB,mu,tb,kW,nw,tB,ei,ev,fq,gy,g7,ii,iL,j0,oa,vm,xb,Bd,Ia,Im,IE,Jx,Ka,Ky,KU,Lc,LD,Md]
 try rfl
theorem M5:K8=NG (QG):=by
 funext;unfold K8 NG;try simp only[IU,Option.bind_some,cc,cv,cy,ec,gn,kn,kv,vb,mm,nn,n4,n6,DM,gg,g4,lm,Jr,JB,mu,tb,kW,nw,tB,ei,ev,fq,gy,g7,ii,iL,j0,oa,vm,xb,Bd,Ia,Im,IE,Jx,Ka,Ky,KU,Lc,LD,Md,ME]
 try rfl
theorem NO:Mp=K9 (QG):=by
 funext;unfold Mp K9;try simp only[IU,Option.bind_some,cc,cv,cy,ec,gn,kn,kv,vb,mm,nn,n4,n6,DM,gg,g4,lm,Jr,JB,mu,tb,kW,nw,tB,ei,ev,fq,gy,g7,ii,iL,j0,oa,vm,xb,Bd,Ia,Im,IE,Jx,Ka,Ky,KU,Lc,LD,Md,ME,M5]
 try rfl
theorem Ot:K6=NE (QG):=by
 funext;unfold K6 NE;try simp only[IU,Option.bind_some,cc,cv,cy,ec,gn,kn,kv,vb,mm,nn,n4,n6,DM,gg,g4,lm,Jr,JB,mu,tb,kW,nw,tB,ei,ev,fq,gy,g7,ii,iL,j0,oa,vm,xb,Bd,Ia,Im,IE,Jx,Ka,Ky,KU,Lc,LD,Md,ME,M5,NO]
 try rfl
theorem TJ:b8=vv (QG):=by
 funext;unfold b8 vv;try simp only[IU,Option.bind_some,cc,cv,cy,ec,gn,kn,kv,vb,mm,nn,n4,n6,DM,gg,g4,lm,Jr,JB,mu,tb,kW,nw,tB,ei,ev,fq,gy,g7,ii,iL,j0,oa,vm,xb,Bd,Ia,Im,IE,Jx,Ka,Ky,KU,Lc,LD,Md,ME,M5,NO,Ot]
 try rfl
theorem UA:MG=Kt (QG):=by
 funext;unfold MG Kt;try simp only[IU,Option.bind_some,cc,cv,cy,ec,gn,kn,kv,vb,mm,nn,n4,n6,DM,gg,g4,lm,Jr,JB,mu,tb,kW,nw,tB,ei,ev,fq,gy,g7,ii,iL,j0,oa,vm,xb,Bd,Ia,Im,IE,Jx,Ka,Ky,KU,Lc,LD,Md,ME,M5,NO,Ot,TJ]
 try rfl
theorem WC:Lz=Oz (QG):=by
 funext;unfold Lz Oz;try simp only[IU,Option.bind_some,cc,cv,cy,ec,gn,kn,kv,vb,mm,nn,n4,n6,DM,gg,g4,lm,Jr,JB,mu,tb,kW,nw,tB,ei,ev,fq,gy,g7,ii,iL,j0,oa,vm,xb,Bd,Ia,Im,IE,Jx,Ka,Ky,KU,Lc,LD,Md,ME,M5,NO,Ot,TJ,UA]
 try rfl
theorem Xa:LL=Py (QG):=by
 funext;unfold LL Py;try simp only[IU,Option.bind_some,cc,cv,cy,ec,gn,kn,kv,vb,mm,nn,n4,n6,DM,gg,g4,lm,Jr,JB,mu,tb,kW,nw,tB,ei,ev,fq,gy,g7,ii,iL,j0,oa,vm,xb,Bd,Ia,Im,IE,Jx,Ka,Ky,KU,Lc,LD,Md,ME,M5,NO,Ot,TJ,UA,WC]
 try rfl
theorem W9:∀n,J7 n=NR (QG) n
 |0=>rfl
 |n+1=>by unfold J7 NR;rw[W9 n,Xa]
theorem aaq:Me=Uk (QG):=by
 funext;unfold Me Uk;try simp only[IU,Option.bind_some,cc,cv,cy,ec,gn,kn,kv,vb,mm,nn,n4,n6,DM,gg,g4,lm,Jr,JB,mu,tb,kW,nw,tB,ei,ev,fq,gy,g7,ii,iL,j0,oa,vm,xb,Bd,Ia,Im,IE,Jx,Ka,Ky,KU,Lc,LD,Md,ME,M5,NO,Ot,TJ,UA,WC,Xa,W9]
 try rfl
end Go.Fn
set_option linter.unusedSimpArgs false
set_option linter.unusedVariables false
namespace Go.Fn
open Go.R Go.Sort
theorem abW:SWO QG:=⟨fun x=>decide_eq_false (by omega),fun x y z h1 h2=>decide_eq_true (by have:=of_decide_eq_true h1;have:=of_decide_eq_true h2;omega),fun x y z h1 h2=>decide_eq_false (by have:=of_decide_eq_false h1;have:=of_decide_eq_false h2;omega)⟩
theorem abp(l:List Int)(hl:l.length<=255):∃r:List Int,MU l=some (r,())/\r.Perm l/\∀i j,i<j->j<r.length->r.getD i 0<=r.getD j 0:=by
 obtain⟨L,hL⟩:=abc hl;obtain⟨r,h1,h2,h3⟩:=ZX abW l L hl;refine⟨r,?_,h2,fun i j hij hj=>?_⟩
 ·unfold MU;rw[aaq,show ak .u64 (ai l)=(l.length:Int)from ZP (by omega),hL,show ai l=(l.length:Int)from rfl];simp only[Option.bind_some,h1]
 ·have:=of_decide_eq_false (h3 i j hij hj);have e1:r.getD i default=r.getD i 0:=rfl;have e2:r.getD j default=r.getD j 0:=rfl;rw[e1,e2]at this;omega
theorem YK(l:List Int)(x:Int):x∈Lib.compact l↔x∈l:=by
 have key:∀j,j<l.length->l.toArray[j]! ∈ Lib.compact l:=by
  intro j;induction j with
  |zero=>intro hj;unfold Lib.compact Lib.compactUpTo;exact List.mem_map.2 ⟨0,List.mem_filter.2 ⟨List.mem_range.2 hj,by simp[Lib.keeps]⟩,rfl⟩
  |succ j ih=>
   intro hj;by_cases h:l.toArray[j+1]! = l.toArray[j]!
   ·rw[h];exact ih (by omega)
   ·unfold Lib.compact Lib.compactUpTo;exact List.mem_map.2 ⟨j+1,List.mem_filter.2 ⟨List.mem_range.2 hj,Lib.keeps_pos h⟩,rfl⟩
 constructor
 ·intro h;unfold Lib.compact Lib.compactUpTo at h;obtain⟨j,hj,rfl⟩:=List.mem_map.1 h;have hj:=List.mem_range.1 (List.mem_filter.1 hj).1;show l.toArray[j]! ∈ l;rw[getElem!_pos _ j (by simpa using hj),List.getElem_toArray];exact List.getElem_mem _
 ·intro h;obtain⟨j,hj,rfl⟩:=List.getElem_of_mem h;have:=key j hj;rwa[getElem!_pos _ j (by simpa using hj),List.getElem_toArray]at this
theorem Zn(l:List Int)(hs:∀i j,i<j->j<l.length->l.getD i 0<=l.getD j 0):(Lib.compact l).Pairwise (fun x y=>x<y):=by
 have ga:∀i,i<l.length->l.toArray[i]! = l.getD i 0:=fun i hi=>by rw[getElem!_pos _ i (by simpa using hi),List.getElem_toArray,List.getD_eq_getElem?_getD,List.getElem?_eq_getElem hi];rfl
 unfold Lib.compact Lib.compactUpTo;rw[List.pairwise_map];refine List.Pairwise.imp_of_mem (fun {i j} hi hj h=>?_) (List.pairwise_lt_range.filter _);have hj1:=List.mem_range.1 (List.mem_filter.1 hj).1;have hj2:=(List.mem_filter.1 hj).2;have hk:l.toArray[j]! ≠ l.toArray[j-1]!:=by unfold Lib.keeps at hj2;have:=of_decide_eq_true hj2;exact this.resolve_left (by omega)
 show l.toArray[i]! < l.toArray[j]!;rw[ga j hj1,ga (j-1) (by omega)]at hk;rw[ga i (by omega),ga j hj1];have h1:=hs (j-1) j (by omega) hj1;by_cases e:i=j-1
 ·subst e;omega
 ·have h2:=hs i (j-1) (by omega) (by omega);omega
noncomputable def W0(l:List Ev)(b:Int)(r:List Int):Prop:=(∀x,x∈r↔(1<=x/\x<b/\∃e,e∈l/\e.2.2.2.2.1=x))/\r.Pairwise (fun x y=>x<y)
theorem aau{l:List Ev}{b:Int}{r s:List Int}(h1:W0 l b r)(h2:W0 l b s):r=s:=Wc (lt:=fun x y:Int=>x<y) (fun x h=>by omega) (fun x y h=>by omega) h1.2 h2.2 fun x=>by rw[h1.1,h2.1]
theorem abq(l:List Ev)(p:Int)(out:List Int)(hl:l.length<=60)(ho:out.length<=1000):∃o,Qz (l,p,()) (out,(0:Int),())=some (.inl (o,()))/\(((∃e,e∈l/\e.2.2.2.2.1=p)/\o=out++[p])\/((¬∃e,e∈l/\e.2.2.2.2.1=p)/\o=out)):=by
 have lS:aE (out++[p])=true:=Pc (by simp;omega);have hap:List.append (α:=Int) out (List.append (α:=Int) ([]:List Int) [p])=out++[p]:=rfl;obtain⟨y,hy,hc⟩:=fP (body:=Od (l,p,())) (fun n=>(out,(n:Int),())) l.length (by omega) (fun n=>!decide ((l.getD n bf).2.2.2.2.1=p)) (Sum.inl (out,())) (fun n=>Sum.inl (out++[p],())) (fun n hn=>by
   have he:af .eql (l.getD n bf).2.2.2.2.1 p=decide ((l.getD n bf).2.2.2.2.1=p):=by simp[af,Bool.beq_eq_decide_eq]
   unfold Od;simp only[aj,hn,decide_true,cond_true,az,aq,he,hap,lS,av (n:=n) (by omega)];cases decide ((l.getD n bf).2.2.2.2.1=p) <;> rfl) (by
   unfold Od;simp only[aj,Nat.lt_irrefl,decide_false,cond_false])
 unfold Qz;rw[show(0:Int)=((0:Nat):Int)from rfl,hy];rcases hc with ⟨hall,rfl⟩|⟨_,n,hn,rfl,hk⟩
 ·refine⟨out,rfl,.inr ⟨?_,rfl⟩⟩;rintro⟨e,he,hp⟩;obtain⟨m,hm,rfl⟩:=List.getElem_of_mem he;have:=(aQ _ _).1 hall m (Nat.zero_le _) (by omega);rw[List.getD_eq_getElem?_getD,List.getElem?_eq_getElem hm,Bool.not_eq_true']at this;exact of_decide_eq_false this hp
 ·refine⟨out++[p],rfl,.inl ⟨⟨_,NH hn bf,?_⟩,rfl⟩⟩;rw[Bool.not_eq_false']at hk;exact of_decide_eq_true hk
theorem ZH(l:List Ev)(hj:QH l=true):∀(s p:Nat) (out:List Int) (n:Nat),1000-p<=s->1<=p->p<=1000->out.length<=p->W0 l (p:Int) out->s<n ->
  ∃r,iter (Mf (l,())) n (out,(p:Int),())=some (.inl (r,()))/\W0 l 1000 r/\r.length<=1000:=by
 intro s;induction s with
 |zero=>
  intro p out n hs h1 hp hl hi hn;obtain⟨n,rfl⟩:∃m,n=m+1:=⟨n-1,by omega⟩
  have:p=1000:=by omega
  subst this;refine⟨out,ay ?_,hi,hl⟩;unfold Mf;simp only[show af .leq ((1000:Nat):Int) (999:Int)=false from rfl,cond_false]
 |succ s ih=>
  intro p out n hs h1 hp hl hi hn;obtain⟨n,rfl⟩:∃m,n=m+1:=⟨n-1,by omega⟩
  by_cases h:p<=999
  ·obtain⟨o,o1,o2⟩:=abq l (p:Int) out (NT hj) (by omega);have hle:af .leq (p:Int) (999:Int)=true:=(XC p 999).trans (decide_eq_true h);have hpi:W0 l ((p+1:Nat):Int) o/\o.length<=p+1:=by
    rcases o2 with ⟨he,rfl⟩|⟨he,rfl⟩
    ·refine⟨⟨fun x=>?_,?_⟩,by rw[List.length_append];simp;omega⟩
     ·rw[List.mem_append,List.mem_singleton,hi.1];constructor
      ·rintro(⟨q1,q2,q3⟩|rfl)
       ·exact⟨q1,by omega,q3⟩
       ·exact⟨by omega,by omega,he⟩
      ·rintro⟨q1,q2,q3⟩;by_cases e:x=(p:Int)
       ·exact .inr e
       ·exact .inl ⟨q1,by omega,q3⟩
     ·rw[List.pairwise_append];refine⟨hi.2,List.pairwise_singleton _ _,fun x hx y hy=>?_⟩;rw[List.mem_singleton]at hy;have:=((hi.1 x).1 hx).2.1;omega
    ·refine⟨⟨fun x=>?_,hi.2⟩,by omega⟩;rw[hi.1];constructor
     ·rintro⟨q1,q2,q3⟩;exact⟨q1,by omega,q3⟩
     ·rintro⟨q1,q2,q3⟩;by_cases e:x=(p:Int)
      ·subst e;exact absurd q3 he
      ·exact⟨q1,by omega,q3⟩
   obtain⟨r,r1,r2⟩:=ih (p+1) o n (by omega) (by omega) (by omega) hpi.2 hpi.1 (by omega);refine⟨r,?_,r2⟩;rw[<-r1];refine aH ?_;unfold Mf;simp only[hle,cond_true,Rp,hj,Option.bind_some,o1,Sum.elim_inl,av (n:=p) (by omega)]
  ·have:p=1000:=by omega
   subst this;refine⟨out,ay ?_,hi,hl⟩;unfold Mf;simp only[show af .leq ((1000:Nat):Int) (999:Int)=false from rfl,cond_false]
theorem Yh(l:List Ev):∃r,SR l=some (r,())/\Oj l=some (r,())/\r.length<=1000/\(QH l=true->W0 l 1000 r)/\(QH l=false->r=[]):=by
 cases hj:QH l with
 |false=>
  refine⟨[],?_,?_,Nat.zero_le _,(fun h=>by cases h),fun _=>rfl⟩
  ·have it:iter (Mf (l,())) 1 ([],(1:Int),())=some (.inl ([],())):=by
    refine ay ?_;unfold Mf;simp only[Rp,hj,Option.bind_some,cond_false];rfl
   unfold SR Qy;rw[bF it (Nat.le_of_lt (aT (by omega)))];rfl
  ·unfold Oj;rw[Rl,hj];rfl
 |true=>
  have h60:=NT hj;obtain⟨r,r1,r2,r3⟩:=ZH l hj 1000 1 [] big (by omega) (by omega) (by omega) (Nat.zero_le _) ⟨fun x=>⟨fun h=>absurd h List.not_mem_nil,fun h=>by omega⟩,List.Pairwise.nil⟩ (aT (by omega));have Li:PT (l,ai l,()) ([],(0:Int),())=some (.inl (l.foldl (fun out e=>out++[e.2.2.2.2.1]) [],())):=by
   refine(cL (body:=N7 (l,ai l,())) l bf (by omega) (fun out e=>out++[e.2.2.2.2.1]) (fun out n=>(out,(n:Int),())) (fun n out=>out.length<=n) (fun out=>Sum.inl (out,())) (fun n out hn ho=>⟨?_,by simp;omega⟩) (fun out ho=>?_) [] (Nat.le_refl _)).1
   ·have lS:aE (out++[(l.getD n bf).2.2.2.2.1])=true:=Pc (by simp;omega);have hap:List.append (α:=Int) out (List.append (α:=Int) ([]:List Int) [(l.getD n bf).2.2.2.2.1])=out++[(l.getD n bf).2.2.2.2.1]:=rfl;unfold N7;simp only[aj,hn,decide_true,cond_true,az,aq,hap,lS,av (n:=n) (by omega)]
   ·unfold N7;simp only[aj,Nat.lt_irrefl,decide_false,cond_false]
  have nQ:∀(m:List Ev) (out:List Int),m.foldl (fun out e=>out++[e.2.2.2.2.1]) out=out++m.map (fun e=>e.2.2.2.2.1):=by
   intro m;induction m with
   |nil=>intro out;simp
   |cons e m ih=>intro out;rw[List.foldl_cons,ih];simp
  rw[nQ,List.nil_append]at Li;obtain⟨z,z1,z2,z3⟩:=abp (l.map fun e=>e.2.2.2.2.1) (by rw[List.length_map];omega);have hzl:z.length<=60:=by rw[z2.length_eq,List.length_map];exact h60
  have hzs:aE z=true:=Pc (by omega);have xP:W0 l 1000 (Lib.compact z):=by
   refine⟨fun x=>?_,Zn z z3⟩;rw[YK,z2.mem_iff,List.mem_map];constructor
   ·rintro⟨e,he,rfl⟩;have:=(Xs.1 (ZU hj e he)).2.2.2.2.1;exact⟨by omega,by omega,e,he,rfl⟩
   ·rintro⟨_,_,e,he,h⟩;exact⟨e,he,h⟩
  have heq:Lib.compact z=r:=aau xP r2;refine⟨r,?_,?_,r3,fun _=>r2,fun h=>by cases h⟩
  ·unfold SR Qy;rw[show(1:Int)=((1:Nat):Int)from rfl,r1];rfl
  ·unfold Oj;simp only[Rl,hj,Option.bind_some,Bool.not_true,cond_false,Li,Sum.elim_inl,z1];unfold OX;rw[hzs,heq];rfl
end Go.Fn
set_option linter.unusedVariables false
set_option linter.unusedSimpArgs false
namespace Go.Fn
open Go.R
noncomputable def free(n:Nat)(p:List Int):Nat:=((List.range n).filter fun i:Nat=>Bool.not (agQ p (i:Int))).length
section
variable (a0 a1:Int) (g:List (List Int)) (s:List Stp)
abbrev SB:Type:=Bool×Int×List Int×Unit
end
end Go.Fn
set_option linter.unusedVariables false
namespace Go.Fn
open Go.R
noncomputable def MH(a:Int):NV:=(qe a 1 40).bind fun b=>some (b.1,())
noncomputable def R7(a:Int):NV:=(qe a 0 20000).bind fun b=>some (b.1,())
noncomputable def Qq(a b c d e f:Int)(g:Bool):NV:=(MH a).bind fun h=>letI i:=some (false,());cond h.1 ((MH b).bind fun j=>cond j.1 (cond (af .neq a b) ((qe c 0 999).bind fun k=>cond k.1 ((qe d 0 5).bind fun l=>cond l.1 ((R7 e).bind fun m=>cond m.1 ((R7 f).bind fun n=>cond n.1 (some (af .lss e f,())) i) i) i) i) i) i) i
noncomputable def Q0(a:YcI)(b:Px):Xi:=letI c:=ae Pf a.1 b.1;letI d:=c.2.2.2;cond (af .lss b.1 (ai a.1)) (cond (ah a.1 b.1) ((Qq c.1 c.2.1 c.2.2.1 d.1 d.2.1 d.2.2.1 d.2.2.2).bind fun e=>cond (Bool.not e.1) (some (.inr (.inl (false,())))) (some (.inl (aa .add .i64 b.1 1,())))) none) (some (.inr (.inr (.inl ()))))
noncomputable def Q1 k x:=iter (Q0 k) big x
noncomputable def Rd(a:SW):NV:=cond (af .gtr (ai a) 30) (some (false,())) ((Q1 (a,()) (0,())).bind fun b=>Sum.elim (fun c=>some (c.1,())) (fun c=>Sum.elim (fun _=>some (true,())) (fun d=>Empty.elim d) c) b)
noncomputable def Q4(a:Int×O1×XB×Tg)(b:YcO):Option (YcO⊕Zm⊕YcA⊕Empty):=letI c:=b.2.2;letI d:=c.2.2.1;letI e:=(b.1,b.2.1,c.1,c.2.1,aa .add .i64 d 1,());cond (af .lss d a.2.2.2.2.1) (cond (af .gtr c.1 0) (cond (ah a.2.2.1 d) (cond (af .eql (ae Na a.2.2.1 d).2.2.1 c.1) (some (.inr (.inl (false,())))) (some (.inl e))) none) (some (.inl e))) (some (.inr (.inr (.inl (b.1,b.2.1,c.1,c.2.1,())))))
noncomputable def OT k x:=iter (Q4 k) big x
noncomputable def Q3(a:YbZ)(b:Tg):YaZ:=letI c:=(false,());letI d:=b.2.1;letI e:=a.2.2.1;letI f:=ae Na e d;cond (af .lss d (ai e)) (cond (ah e d) (cond (af .neq f.1 b.1) (some (.inr (.inl c))) ((qe f.2.1 1 24).bind fun g=>cond (Bool.not g.1) (some (.inr (.inl c))) ((qe f.2.2.1 0 999).bind fun h=>cond (Bool.not h.1) (some (.inr (.inl c))) ((OT (a.1,a.2.1,e,b.1,d,()) (f.1,f.2.1,f.2.2.1,f.2.2.2,0,())).bind fun i=>Sum.elim (fun j=>some (.inr (.inl (j.1,())))) (fun j=>Sum.elim (fun k=>letI l:=aa .add .i64 b.1 k.2.1;cond (af .gtr l 24) (some (.inr (.inl c))) (some (.inl (l,aa .add .i64 d 1,())))) (fun k=>Empty.elim k) j) i)))) none) (some (.inr (.inr (.inl (b.1,())))))
noncomputable def Q5 k x:=iter (Q3 k) big x
noncomputable def Rf(a:Int)(b:O1)(c:XB):NV:=(Q5 (a,b,c,()) (0,0,())).bind fun d=>Sum.elim (fun e=>some (e.1,())) (fun e=>Sum.elim (fun f=>cond (af .gtr (ai c) 0) (some (af .eql f.1 a,())) (some (false,()))) (fun f=>Empty.elim f) e) d
noncomputable def OQ(a:Int×O1×YcF)(b:Bool×Px):Option (Bool×Px⊕Zm⊕Empty):=letI c:=a.2.2;letI d:=aa .add .i64 b.2.1 1;cond (af .lss b.2.1 (ai c.1)) (cond b.1 (some (.inl (true,d,()))) (cond (ah c.1 b.2.1) (cond (ah a.2.1 c.2.1) (some (.inl (af .eql (ae Na c.1 b.2.1).1 (ae zI a.2.1 c.2.1),d,()))) none) none)) (some (.inr (.inl (b.1,()))))
noncomputable def QZ k x:=iter (OQ k) big x
noncomputable def QX(a:YbZ)(b:Px):Xi:=letI c:=b.1;letI d:=a.2.1;cond (af .lss c (ai d)) (cond (ah d c) ((qe (ae zI d c) 1 (aa .sub .i64 a.1 1)).bind fun e=>letI f:=(false,());letI g:=aa .sub .i64 c 1;letI h:=(aa .add .i64 c 1,());letI i:=QZ (a.1,d,a.2.2.1,c,()) (false,0,());cond (Bool.not e.1) (some (.inr (.inl f))) (cond (af .gtr c 0) (cond (ah d c) (cond (ah d g) (cond (af .leq (ae zI d c) (ae zI d g)) (some (.inr (.inl f))) (i.bind fun j=>Sum.elim (fun k=>cond (Bool.not k.1) (some (.inr (.inl f))) (some (.inl h))) (fun k=>Empty.elim k) j)) none) none) (i.bind fun j=>Sum.elim (fun k=>cond (Bool.not k.1) (some (.inr (.inl f))) (some (.inl h))) (fun k=>Empty.elim k) j))) none) (some (.inr (.inr (.inl ()))))
noncomputable def QY k x:=iter (QX k) big x
noncomputable def Pd(a:Int)(b:O1)(c:XB):NV:=(qe a 1 24).bind fun d=>letI e:=some (false,());cond (Bool.not d.1) e ((Rf a b c).bind fun f=>cond (Bool.not f.1) e ((QY (a,b,c,()) (0,())).bind fun g=>Sum.elim (fun h=>some (h.1,())) (fun h=>Sum.elim (fun _=>some (true,())) (fun i=>Empty.elim i) h) g))
noncomputable def QE(a:Int×YbZ)(b:Px):YbF:=letI c:=a.2.2.2.1;letI d:=(aa .add .i64 b.1 1,());cond (af .lss b.1 (ai c)) (cond (ah c b.1) (cond (af .eql (ae Na c b.1).2.2.1 a.1) (cond (af .gtr a.1 0) (some (.inr (.inl (b.1,())))) (some (.inl d))) (some (.inl d))) none) (some (.inr (.inr (.inl ()))))
noncomputable def SS k x:=iter (QE k) big x
noncomputable def Rr(a:Int)(b:O1)(c:XB)(d:Int):Vx:=(SS (d,a,b,c,()) (0,())).bind fun e=>Sum.elim (fun f=>some (f.1,())) (fun f=>Sum.elim (fun _=>some (-1,())) (fun g=>Empty.elim g) f) e
noncomputable def SM(a:XY×Tg)(b:Px):Xi:=letI c:=ae I8 a.1 a.2.2.1;letI d:=(ae I8 a.1 a.2.1).2.2;cond (ah a.1 a.2.1) (cond (af .lss b.1 (ai d)) (cond (ah a.1 a.2.2.1) (cond (ah a.1 a.2.1) (cond (ah d b.1) ((Rr c.1 c.2.1 c.2.2 (ae Na d b.1).2.2.1).bind fun e=>cond (af .geq e.1 0) (some (.inr (.inl (false,())))) (some (.inl (aa .add .i64 b.1 1,())))) none) none) none) (some (.inr (.inr (.inl ()))))) none
noncomputable def SP k x:=iter (SM k) big x
noncomputable def SL(a:YcM)(b:Px):Xi:=cond (af .lss b.1 a.2.1) ((SP (a.1,a.2.1,b.1,()) (0,())).bind fun c=>Sum.elim (fun d=>some (.inr (.inl (d.1,())))) (fun d=>Sum.elim (fun _=>some (.inl (aa .add .i64 b.1 1,()))) (fun e=>Empty.elim e) d) c) (some (.inr (.inr (.inl ()))))
noncomputable def SO k x:=iter (SL k) big x
noncomputable def SK(a:YbY)(b:Px):Xi:=letI c:=ae I8 a.1 b.1;cond (af .lss b.1 (ai a.1)) (cond (ah a.1 b.1) ((Pd c.1 c.2.1 c.2.2).bind fun d=>cond (Bool.not d.1) (some (.inr (.inl (false,())))) ((SO (a.1,b.1,()) (0,())).bind fun e=>Sum.elim (fun f=>some (.inr (.inl (f.1,())))) (fun f=>Sum.elim (fun _=>some (.inl (aa .add .i64 b.1 1,()))) (fun g=>Empty.elim g) f) e)) none) (some (.inr (.inr (.inl ()))))
noncomputable def SN k x:=iter (SK k) big x
noncomputable def Rq(a:XY):NV:=(qe (ai a) 1 6).bind fun b=>cond (Bool.not b.1) (some (false,())) ((SN (a,()) (0,())).bind fun c=>Sum.elim (fun d=>some (d.1,())) (fun d=>Sum.elim (fun _=>some (true,())) (fun e=>Empty.elim e) d) c)
noncomputable def Vn(a b:Int)(c d e:Bool):NV:=some (bQ e (af .eql a 2),())
noncomputable def PA(a b:Int)(c d e:Bool):NV:=(qe a 0 2).bind fun f=>letI g:=some (false,());cond (Bool.not f.1) g ((qe b 0 6).bind fun h=>letI i:=some (Bool.not c,());letI j:=Vn a b c d e;letI k:=cond c (some (Bool.not d,())) g;letI l:=cond (af .eql a 0) (cond (af .eql b 0) i g) (cond (af .eql b 1) (j.bind fun l=>cond l.1 i g) (cond (af .eql b 2) (j.bind fun l=>cond l.1 k g) (cond (af .eql b 3) (j.bind fun l=>cond l.1 (some (d,())) g) (cond (af .eql b 4) (j.bind fun l=>cond (Bool.not l.1) (some (d,())) g) (cond (af .eql b 5) k (cond (af .eql b 6) i (some (true,()))))))));cond (Bool.not h.1) g (cond d (cond (Bool.not c) g l) l))
noncomputable def QF(a b c d e f g h i j k:Int)(l:SY)(m:SX)(n:SW)(o:MA)(p:Int):NV:=letI q:=ae b7 l p;cond (ah l p) ((Ov q.1 q.2.1).bind fun r=>letI s:=some (false,());cond (Bool.not r.1) s ((Rq q.2.2.1).bind fun t=>letI u:=q.2.2.2;letI v:=u.2.2.2;cond (Bool.not t.1) s ((PA u.1 u.2.1 u.2.2.1 v.1 v.2.1).bind fun w=>letI x:=v.2.2;cond (Bool.not w.1) s ((Ld x.2.2).bind fun y=>letI z:=af .eql x.2.1 0;cond (Bool.not y.1) s (cond (af .eql x.1 0) (lets (Bool.and (af .eql u.1 0) (Bool.and (af .eql u.2.1 0) (Bool.and (bQ u.2.2.1 false) (Bool.and (bQ v.1 false) (Bool.and (bQ v.2.1 false) true))))) fun A=>cond A (some (z,())) s) ((qe x.1 1 (ai m)).bind fun A=>letI B:=aa .sub .i64 x.1 1;letI C:=(ae qk m B).2.2;letI D:=cond (af .eql u.1 2) ((qe x.2.1 0 40).bind fun D=>some (D.1,())) s;cond (Bool.not A.1) s (cond (ah m B) (cond (af .neq C.1 p) s (cond (ah m B) (cond (af .neq C.2.1 2) s (cond (af .eql u.1 1) (cond z (some (true,())) D) D)) none)) none))))))) none
noncomputable def MZ(a b c d e f g h i j k:Int)(l:SY)(m:SX)(n:SW)(o:MA)(p:Int):NV:=letI q:=some (true,());letI r:=(ae qk m p).2.2;cond (ah m p) (cond (af .eql r.2.1 0) q (cond (af .eql r.2.1 1) q (cond (af .eql r.2.1 2) (cond (ah l r.1) (some (af .eql (ae b7 l r.1).2.2.2.1 1,())) none) (some (false,()))))) none
noncomputable def TL(a b c d e:Int):NV:=(M6 a).bind fun f=>letI g:=some (false,());cond f.1 ((qe b 0 1000001).bind fun h=>cond h.1 ((qe c 0 2).bind fun i=>cond i.1 ((qe d 0 6).bind fun j=>cond j.1 ((qe e 0 20064).bind fun k=>some (k.1,())) g) g) g) g
noncomputable def OV(a b c d e f g h i j k:Int)(l:SY)(m:SX)(n:SW)(o:MA)(p:Int):NV:=letI q:=ae qk m p;cond (ah m p) ((qe q.1 1 24).bind fun r=>letI s:=some (false,());cond (Bool.not r.1) s ((MH q.2.1).bind fun t=>letI u:=(0:Int);cond (Bool.not t.1) s ((qe q.2.2.1 u (aa .sub .i64 (ai l) 1)).bind fun v=>letI w:=q.2.2.2;cond (Bool.not v.1) s ((qe w.1 u 5).bind fun x=>letI y:=aa .add .i64 p 1;letI z:=(MZ a b c d e f g h i j k l m n o p).bind fun z=>letI A:=w.2.2.2;letI B:=A.2.2;letI C:=B.2.2.2;letI D:=af .eql C.1 u;letI E:=af .eql C.2 u;cond z.1 (cond (af .eql w.2.1 u) (cond (af .eql w.2.2.1 u) (cond D (cond E (lets (Bool.and (af .eql A.1 u) (Bool.and (af .eql A.2.1 u) (Bool.and (af .eql B.1 u) (Bool.and (af .eql B.2.1 u) (Bool.and (af .eql B.2.2.1 u) true))))) fun F=>some (F,())) s) s) s) s) ((qe w.2.1 u k).bind fun F=>cond (Bool.not F.1) s ((qe w.2.2.1 u h).bind fun G=>cond (Bool.not G.1) s ((TL A.1 A.2.1 B.1 B.2.1 B.2.2.1).bind fun H=>cond (Bool.not H.1) s ((Pe a b c d e f g h i j k l m n o y).bind fun I=>cond (af .neq A.1 I.1) s (cond (af .eql w.1 4) ((MH C.1).bind fun J=>cond J.1 ((qe C.2 u (aa .add .i64 e (aa .mul .i64 g h))).bind fun K=>some (K.1,())) s) (cond D (some (E,())) s))))));cond (Bool.not x.1) s (cond (af .eql w.1 2) (cond (ah l q.2.2.1) (cond (af .neq (ae b7 l q.2.2.1).2.2.2.2.2.2.2.2.1 y) s z) none) z))))) none
noncomputable def Pt(a:Int×Int×Int×Int×Int×Int×Int×Int×Int×Int×Int×SY×SX×SW×MA×Int×Int×YbS)(b:Tg):YaZ:=letI c:=(false,());letI d:=aa .add .i64 b.2.1 1;letI e:=a.2.2.2.2.2.2.2.2.2.2.2.2;letI f:=e.2.2.2.2.2.1;letI g:=ah f b.2.1;letI h:=(ae Na f b.2.1).2;letI i:=aa .sub .i64 h.2.1 1;letI j:=ae qk e.1 i;letI k:=j.2.2.2.2.2.2.2.2.2;cond (af .lss b.2.1 (ai f)) (cond g (cond (af .eql h.2.1 0) (some (.inl (b.1,d,()))) (cond (af .gtr h.2.1 (ai e.1)) (some (.inr (.inl c))) (cond (ah e.1 i) (lets k.1 fun _=>lets k.2.1 fun _=>lets k.2.2.1 fun _=>lets k.2.2.2 fun _=>lets (af .neq j.2.2.1 e.2.2.2.1) fun l=>cond l (some (.inr (.inl c))) (cond g (lets (af .neq j.1 h.1) fun m=>letI n:=j.2.2.2.1;cond m (some (.inr (.inl c))) (lets (af .neq n 2) fun o=>letI p:=(aa .add .i64 b.1 1,d,());letI q:=af .eql n 2;cond o (lets (af .neq n 3) fun r=>cond r (some (.inr (.inl c))) (lets q fun s=>cond s (cond g (cond h.2.2 (some (.inr (.inl c))) (some (.inl p))) none) (some (.inl p)))) (lets q fun r=>cond r (cond g (cond h.2.2 (some (.inr (.inl c))) (some (.inl p))) none) (some (.inl p))))) none)) none))) none) (some (.inr (.inr (.inl (b.1,())))))
noncomputable def Pw k x:=iter (Pt k) big x
noncomputable def Ps(a:YaW)(b:Tg):YaZ:=letI c:=b.2.1;letI d:=a.2.2.2;letI e:=d.2.2.2;letI f:=e.2.2.2.2.2;letI g:=f.2.2.2.2.1;letI h:=(ae b7 f.1 g).2.2.1;cond (ah f.1 g) (cond (af .lss c (ai h)) (cond (ah f.1 g) (cond (ah h c) ((Pw (a.1,a.2.1,a.2.2.1,d.1,d.2.1,d.2.2.1,e.1,e.2.1,e.2.2.1,e.2.2.2.1,e.2.2.2.2.1,f.1,f.2.1,f.2.2.1,f.2.2.2.1,g,c,(ae I8 h c).2.2,()) (b.1,0,())).bind fun i=>Sum.elim (fun j=>some (.inr (.inl (j.1,())))) (fun j=>Sum.elim (fun k=>some (.inl (k.1,aa .add .i64 c 1,()))) (fun k=>Empty.elim k) j) i) none) none) (some (.inr (.inr (.inl (b.1,())))))) none
noncomputable def Pv k x:=iter (Ps k) big x
noncomputable def Pr(a:YaM)(b:Tg):YaZ:=letI c:=a.2.2.2.2;letI d:=c.2.2.2.2;letI e:=d.2.2.2;cond (af .lss b.2.1 (ai e.1)) ((Pv (a.1,a.2.1,a.2.2.1,a.2.2.2.1,c.1,c.2.1,c.2.2.1,c.2.2.2.1,d.1,d.2.1,d.2.2.1,e.1,e.2.1,e.2.2.1,e.2.2.2.1,b.2.1,()) (b.1,0,())).bind fun f=>Sum.elim (fun g=>some (.inr (.inl (g.1,())))) (fun g=>Sum.elim (fun h=>some (.inl (h.1,aa .add .i64 b.2.1 1,()))) (fun h=>Empty.elim h) g) f) (some (.inr (.inr (.inl (b.1,())))))
noncomputable def SU k x:=iter (Pr k) big x
noncomputable def Pu(a:YaM)(b:Tg):YbD:=letI c:=b.2.1;letI d:=aa .add .i64 c 1;letI e:=a.2.2.2.2.2.2.2.2.2.2.2.2.1;letI f:=(aa .sub .i64 b.1 1,d,());letI g:=(ae qk e c).2.2.2.1;cond (af .lss c (ai e)) (cond (ah e c) (cond (af .eql g 2) (some (.inl f)) (cond (ah e c) (cond (af .eql g 3) (some (.inl f)) (some (.inl (b.1,d,())))) none)) none) (some (.inr (.inl (b.1,()))))
noncomputable def SV k x:=iter (Pu k) big x
noncomputable def Po(a b c d e f g h i j k:Int)(l:SY)(m:SX)(n:SW)(o:MA):NV:=letI p:=(a,b,c,d,e,f,g,h,i,j,k,l,m,n,o,());(SU p (0,0,())).bind fun q=>Sum.elim (fun r=>some (r.1,())) (fun r=>Sum.elim (fun s=>(SV p (s.1,0,())).bind fun t=>Sum.elim (fun u=>some (af .eql u.1 0,())) (fun u=>Empty.elim u) t) (fun s=>Empty.elim s) r) q
noncomputable def RN(a:YaM)(b:Tg):YbD:=letI c:=b.2.1;letI d:=a.2.2.2.2.2;letI e:=aa .add .i64 c 1;letI f:=d.2.2.2.2.2;letI g:=f.2.2.1;cond (af .lss c (ai g)) (cond (ah g c) (cond (af .neq (ae qk g c).2.2.2.1 0) ((MZ a.1 a.2.1 a.2.2.1 a.2.2.2.1 a.2.2.2.2.1 d.1 d.2.1 d.2.2.1 d.2.2.2.1 d.2.2.2.2.1 f.1 f.2.1 g f.2.2.2.1 f.2.2.2.2.1 c).bind fun h=>cond h.1 (cond (ah g c) (some (.inl (aa .add .i64 b.1 (ae qk g c).1,e,()))) none) (some (.inl (b.1,e,())))) (some (.inl (b.1,e,())))) none) (some (.inr (.inl (b.1,()))))
noncomputable def U0 k x:=iter (RN k) big x
noncomputable def R8(a b c d e f g h i j k:Int)(l:SY)(m:SX)(n:SW)(o:MA):Vx:=(U0 (a,b,c,d,e,f,g,h,i,j,k,l,m,n,o,()) (0,0,())).bind fun p=>Sum.elim (fun q=>some (q.1,())) (fun q=>Empty.elim q) p
noncomputable def Qu(a:YaM)(b:Px):Xi:=letI c:=a.2.2.2.2;letI d:=c.2.2.2.2;letI e:=d.2.2.2;cond (af .lss b.1 (ai e.1)) ((QF a.1 a.2.1 a.2.2.1 a.2.2.2.1 c.1 c.2.1 c.2.2.1 c.2.2.2.1 d.1 d.2.1 d.2.2.1 e.1 e.2.1 e.2.2.1 e.2.2.2.1 b.1).bind fun f=>cond (Bool.not f.1) (some (.inr (.inl (false,())))) (some (.inl (aa .add .i64 b.1 1,())))) (some (.inr (.inr (.inl ()))))
noncomputable def TM k x:=iter (Qu k) big x
noncomputable def Qv(a:YaM)(b:Px):Xi:=letI c:=a.2.2.2.2;letI d:=c.2.2.2.2;letI e:=d.2.2.2.2;cond (af .lss b.1 (ai e.1)) ((OV a.1 a.2.1 a.2.2.1 a.2.2.2.1 c.1 c.2.1 c.2.2.1 c.2.2.2.1 d.1 d.2.1 d.2.2.1 d.2.2.2.1 e.1 e.2.1 e.2.2.1 b.1).bind fun f=>cond (Bool.not f.1) (some (.inr (.inl (false,())))) (some (.inl (aa .add .i64 b.1 1,())))) (some (.inr (.inr (.inl ()))))
noncomputable def TN k x:=iter (Qv k) big x
noncomputable def Qt(a b c d e f g h i j k:Int)(l:SY)(m:SX)(n:SW)(o:MA):NV:=(QB a b c d e f g h).bind fun p=>letI q:=some (false,());cond (Bool.not p.1) q ((qe i 0 1000).bind fun r=>cond (Bool.not r.1) q ((M6 j).bind fun s=>cond (Bool.not s.1) q ((qe k 0 20000).bind fun t=>cond (Bool.not t.1) q ((qe (ai l) 1 3).bind fun u=>cond (Bool.not u.1) q (cond (af .gtr (ai m) 12) q ((Rd n).bind fun v=>cond (Bool.not v.1) q ((Ld o).bind fun w=>letI x:=(a,b,c,d,e,f,g,h,i,j,k,l,m,n,o,());cond (Bool.not w.1) q ((TM x (0,())).bind fun y=>Sum.elim (fun z=>some (z.1,())) (fun z=>Sum.elim (fun _=>(TN x (0,())).bind fun A=>Sum.elim (fun B=>some (B.1,())) (fun B=>Sum.elim (fun _=>(Po a b c d e f g h i j k l m n o).bind fun C=>cond C.1 ((R8 a b c d e f g h i j k l m n o).bind fun D=>some (af .leq D.1 i,())) q) (fun C=>Empty.elim C) B) A) (fun A=>Empty.elim A) z) y))))))))
noncomputable def L5(a:Int):NV:=(qx a 1 40).bind fun b=>some (b.1,())
noncomputable def OC(a b c d e f:Int)(g:Bool):NV:=(L5 a).bind fun h=>letI i:=some (false,());cond h.1 ((L5 b).bind fun j=>cond j.1 (cond (af .neq a b) ((qx c 0 999).bind fun k=>cond k.1 ((qx d 0 5).bind fun l=>cond l.1 ((LV e).bind fun m=>cond m.1 ((LV f).bind fun n=>cond n.1 (some (af .lss e f,())) i) i) i) i) i) i) i
noncomputable def Rs(a b c d e f:Int)(g:Bool):NV:=(OC a b c d e f g).bind fun h=>some (Bool.not h.1,())
noncomputable def It(a:SW×Px)(b:Px):YbF:=letI c:=ae Pf a.1 b.1;letI d:=c.2.2.2;cond (af .lss b.1 a.2.1) (cond (ah a.1 b.1) ((Rs c.1 c.2.1 c.2.2.1 d.1 d.2.1 d.2.2.1 d.2.2.2).bind fun e=>cond e.1 (some (.inr (.inl (b.1,())))) (some (.inl (aa .add .i64 b.1 1,())))) none) (some (.inr (.inr (.inl ()))))
noncomputable def Ji k x:=iter (It k) big x
noncomputable def Jy(a:SW):Vx:=(Ji (a,ai a,()) (0,())).bind fun b=>Sum.elim (fun c=>some (c.1,())) (fun c=>Sum.elim (fun _=>some (-1,())) (fun d=>Empty.elim d) c) b
noncomputable def Jh(a:SW):NV:=(Jy a).bind fun b=>some (af .geq b.1 0,())
noncomputable def Q6(a:SW):NV:=cond (af .leq (ai a) 30) ((Jh a).bind fun b=>some (Bool.not b.1,())) (some (false,()))
noncomputable def QJ(a:Int×O1×XB×U2)(b:Px):Xi:=letI c:=ae zI a.2.2.2.1 b.1;cond (af .lss b.1 a.2.2.2.2.1) (cond (ah a.2.2.2.1 b.1) ((qx c 1 (aa .sub .i64 a.1 1)).bind fun d=>letI e:=aa .sub .i64 b.1 1;letI f:=(aa .add .i64 b.1 1,());cond (Bool.not d.1) (some (.inr (.inl (false,())))) (cond (af .gtr b.1 0) (cond (ah a.2.1 e) (cond (af .leq c (ae zI a.2.1 e)) (some (.inr (.inl (false,())))) (some (.inl f))) none) (some (.inl f)))) none) (some (.inr (.inr (.inl ()))))
noncomputable def QL k x:=iter (QJ k) big x
noncomputable def OB(a:Int×O1×XB×YcF)(b:Int×YaY×YbW):Option (Int×YaY×YbW⊕Zm⊕Int×YaY×Unit⊕Empty):=letI c:=(false,());letI d:=b.2.2.2.1;letI e:=ae Na a.2.2.2.1 d;cond (af .lss d a.2.2.2.2.1) (cond (ah a.2.2.2.1 d) (cond (af .neq e.1 b.1) (some (.inr (.inl c))) ((qx e.2.1 1 (aa .sub .i64 a.1 b.1)).bind fun f=>letI g:=e.2.2.1;cond (Bool.not f.1) (some (.inr (.inl c))) ((qx g 0 999).bind fun h=>letI i:=(aa .add .i64 b.1 e.2.1,eT b.2.1 e.1 true,eT b.2.2.1 g true,aa .add .i64 d 1,());cond (Bool.not h.1) (some (.inr (.inl c))) (cond (af .gtr g 0) (cond (ct b.2.2.1 g) (some (.inr (.inl c))) (some (.inl i))) (some (.inl i)))))) none) (some (.inr (.inr (.inl (b.1,b.2.1,())))))
noncomputable def QM k x:=iter (OB k) big x
noncomputable def QK(a:Int×O1×XB×Int×U2)(b:YbW):Option (YbW⊕YbM):=letI c:=a.2.2.2.2;cond (af .lss b.2.1 c.2.1) (cond (ah c.1 b.2.1) (cond (Bool.not (ct b.1 (ae zI c.1 b.2.1))) (some (.inr (.inl (false,())))) (some (.inl (b.1,aa .add .i64 b.2.1 1,())))) none) (some (.inr (.inr (.inl ()))))
noncomputable def QN k x:=iter (QK k) big x
noncomputable def O3(a:Int)(b:O1)(c:XB):NV:=(qx a 1 24).bind fun d=>letI e:=some (false,());cond (Bool.not d.1) e (cond (af .eql (ai c) 0) e ((QL (a,b,c,b,ai b,()) (0,())).bind fun f=>Sum.elim (fun g=>some (g.1,())) (fun g=>Sum.elim (fun _=>(QM (a,b,c,c,ai c,()) (0,([]:YaY),([]:YaY),0,())).bind fun h=>Sum.elim (fun i=>some (i.1,())) (fun i=>Sum.elim (fun j=>(QN (a,b,c,j.1,b,ai b,()) (j.2.1,0,())).bind fun k=>Sum.elim (fun l=>some (l.1,())) (fun l=>Sum.elim (fun _=>some (af .eql j.1 a,())) (fun m=>Empty.elim m) l) k) (fun j=>Empty.elim j) i) h) (fun h=>Empty.elim h) g) f))
noncomputable def PK(a:XY×Int×Int×YcF)(b:YbW):Option (YbW⊕Zm⊕YaY×Unit⊕Empty):=letI c:=(ae Na a.2.2.2.1 b.2.1).2.2.1;letI d:=(eT b.1 c true,aa .add .i64 b.2.1 1,());cond (af .lss b.2.1 a.2.2.2.2.1) (cond (ah a.2.2.2.1 b.2.1) (cond (af .gtr c 0) (cond (ct b.1 c) (some (.inr (.inl (false,())))) (some (.inl d))) (some (.inl d))) none) (some (.inr (.inr (.inl (b.1,())))))
noncomputable def SA k x:=iter (PK k) big x
noncomputable def Sy(a:YcM)(b:YbW):Option (YbW⊕YbM):=letI c:=b.2.1;letI d:=ae I8 a.1 c;cond (af .lss c a.2.1) (cond (ah a.1 c) ((O3 d.1 d.2.1 d.2.2).bind fun e=>cond (Bool.not e.1) (some (.inr (.inl (false,())))) ((SA (a.1,a.2.1,c,d.2.2,ai d.2.2,()) (b.1,0,())).bind fun f=>Sum.elim (fun g=>some (.inr (.inl (g.1,())))) (fun g=>Sum.elim (fun h=>some (.inl (h.1,aa .add .i64 c 1,()))) (fun h=>Empty.elim h) g) f)) none) (some (.inr (.inr (.inl ()))))
noncomputable def Sz k x:=iter (Sy k) big x
noncomputable def Pz(a:XY):NV:=(qx (ai a) 1 6).bind fun b=>cond (Bool.not b.1) (some (false,())) ((Sz (a,ai a,()) (([]:YaY),0,())).bind fun c=>Sum.elim (fun d=>some (d.1,())) (fun d=>Sum.elim (fun _=>some (true,())) (fun e=>Empty.elim e) d) c)
noncomputable def W6(a b:Int)(c d e:Bool):NV:=some (bQ e (af .eql a 1),())
noncomputable def Oi(a b:Int)(c d e:Bool):NV:=(qx a 0 2).bind fun f=>letI g:=some (false,());cond (Bool.not f.1) g ((qx b 0 6).bind fun h=>letI i:=some (Bool.not c,());letI j:=W6 a b c d e;letI k:=cond c (some (Bool.not d,())) g;letI l:=cond (af .eql a 0) (cond (af .eql b 0) i g) (cond (af .eql b 1) (j.bind fun l=>cond (Bool.not l.1) i g) (cond (af .eql b 2) (j.bind fun l=>cond (Bool.not l.1) k g) (cond (af .eql b 3) (j.bind fun l=>cond (Bool.not l.1) (some (d,())) g) (cond (af .eql b 4) (j.bind fun l=>cond l.1 (some (d,())) g) (cond (af .eql b 5) k (cond (af .eql b 6) i (some (true,()))))))));cond (Bool.not h.1) g (cond d (cond (Bool.not c) g l) l))
noncomputable def Tr(a b c d e f g h i j k:Int)(l:SY)(m:SX)(n:SW)(o:MA)(p:Int):NV:=letI q:=ae b7 l p;cond (ah l p) ((Ol q.1 q.2.1).bind fun r=>letI s:=some (false,());cond (Bool.not r.1) s ((Pz q.2.2.1).bind fun t=>letI u:=q.2.2.2;letI v:=u.2.2.2;cond (Bool.not t.1) s ((Oi u.1 u.2.1 u.2.2.1 v.1 v.2.1).bind fun w=>letI x:=v.2.2;cond (Bool.not w.1) s ((Lb x.2.2).bind fun y=>letI z:=af .eql u.1 0;letI A:=af .eql x.2.1 0;cond (Bool.not y.1) s (cond (af .eql x.1 0) (lets (Bool.and z (Bool.and (af .eql u.2.1 0) (Bool.and (bQ u.2.2.1 false) (Bool.and (bQ v.1 false) (Bool.and (bQ v.2.1 false) true))))) fun B=>cond B (some (A,())) s) ((qx x.1 1 (ai m)).bind fun B=>letI C:=aa .sub .i64 x.1 1;letI D:=(ae qk m C).2.2;cond (Bool.not B.1) s (cond (ah m C) (cond (af .neq D.1 p) s (cond (af .neq D.2.1 2) s (cond z s (cond A (some (true,())) (cond (af .eql u.1 2) ((L5 x.2.1).bind fun E=>some (E.1,())) s))))) none))))))) none
noncomputable def Nh(a b c d e f g h i j k:Int)(l:SY)(m:SX)(n:SW)(o:MA)(p q r s t u v w x y z A B:Int):NV:=letI C:=some (true,());cond (af .eql s 0) C (cond (af .eql s 1) C (cond (af .eql s 2) (cond (ah l r) (some (af .eql (ae b7 l r).2.2.2.1 1,())) none) (some (false,()))))
noncomputable def Tl(a b c d e:Int):NV:=(Nr a).bind fun f=>letI g:=some (false,());cond f.1 ((qx b 0 1000001).bind fun h=>cond h.1 ((qx c 0 2).bind fun i=>cond i.1 ((qx d 0 6).bind fun j=>cond j.1 ((qx e 0 20064).bind fun k=>some (k.1,())) g) g) g) g
noncomputable def Q8(a b c d e f g h i j k:Int)(l:SY)(m:SX)(n:SW)(o:MA)(p:Int):NV:=letI q:=ae qk m p;cond (ah m p) ((qx q.1 1 24).bind fun r=>letI s:=some (false,());cond (Bool.not r.1) s ((L5 q.2.1).bind fun t=>letI u:=(0:Int);letI v:=q.2.2.1;cond (Bool.not t.1) s ((qx v u (aa .sub .i64 (ai l) 1)).bind fun w=>letI x:=q.2.2.2;cond (Bool.not w.1) s ((qx x.1 u 5).bind fun y=>letI z:=aa .add .i64 p 1;letI A:=x.2.2.2;letI B:=A.2.2;letI C:=B.2.2.2;letI D:=(Nh a b c d e f g h i j k l m n o q.1 q.2.1 v x.1 x.2.1 x.2.2.1 A.1 A.2.1 B.1 B.2.1 B.2.2.1 C.1 C.2).bind fun D=>letI E:=af .eql C.1 u;letI F:=af .eql C.2 u;cond D.1 (cond (af .eql x.2.1 u) (cond (af .eql x.2.2.1 u) (cond E (cond F (lets (Bool.and (af .eql A.1 u) (Bool.and (af .eql A.2.1 u) (Bool.and (af .eql B.1 u) (Bool.and (af .eql B.2.1 u) (Bool.and (af .eql B.2.2.1 u) true))))) fun G=>some (G,())) s) s) s) s) ((qx x.2.1 u k).bind fun G=>cond (Bool.not G.1) s ((qx x.2.2.1 u h).bind fun H=>cond (Bool.not H.1) s ((Tl A.1 A.2.1 B.1 B.2.1 B.2.2.1).bind fun I=>cond (Bool.not I.1) s ((O4 a b c d e f g h i j k l m n o z).bind fun J=>cond (af .neq A.1 J.1) s (cond (af .eql x.1 4) ((L5 C.1).bind fun K=>cond K.1 ((qx C.2 u (aa .add .i64 e (aa .mul .i64 g h))).bind fun L=>some (L.1,())) s) (cond E (some (F,())) s))))));cond (Bool.not y.1) s (cond (af .eql x.1 2) (cond (ah l v) (cond (af .neq (ae b7 l v).2.2.2.2.2.2.2.2.1 z) s D) none) D))))) none
noncomputable def Ry(a:Int×Int×Int×Int×Int×Int×Int×Int×Int×Int×Int×SY×SX×SW×MA×Int×SY×Int×Int×XY×Int×Int×YcF)(b:Tg):YaZ:=letI c:=aa .add .i64 b.2.1 1;letI d:=a.2.2.2.2.2.2.2.2.2.2.2.2;letI e:=d.2.2.2.2.2.2.2.2.2.2;letI f:=(ae Na e.1 b.2.1).2;cond (af .lss b.2.1 e.2.1) (cond (ah e.1 b.2.1) (cond (af .eql f.2.1 0) (some (.inl (b.1,c,()))) ((qx f.2.1 1 (ai d.1)).bind fun g=>letI h:=(false,());letI i:=aa .sub .i64 f.2.1 1;letI j:=ae qk d.1 i;letI k:=j.2.2.2;cond (Bool.not g.1) (some (.inr (.inl h))) (cond (ah d.1 i) (lets k.2.1 fun _=>lets k.2.2.1 fun _=>letI l:=k.2.2.2;lets l.1 fun _=>lets l.2.1 fun _=>lets l.2.2.1 fun _=>letI m:=l.2.2.2;lets m.1 fun _=>lets m.2.1 fun _=>lets m.2.2.1 fun _=>lets m.2.2.2 fun _=>lets (af .neq k.1 2) fun n=>letI o:=(aa .add .i64 b.1 1,c,());letI p:=af .eql k.1 2;letI q:=af .neq j.2.2.1 d.2.2.2.1;letI r:=af .neq j.1 f.1;cond n (lets (af .neq k.1 3) fun s=>cond s (some (.inr (.inl h))) (lets q fun t=>cond t (some (.inr (.inl h))) (lets r fun u=>cond u (some (.inr (.inl h))) (lets p fun v=>cond v (cond f.2.2 (some (.inr (.inl h))) (some (.inl o))) (some (.inl o)))))) (lets q fun s=>cond s (some (.inr (.inl h))) (lets r fun t=>cond t (some (.inr (.inl h))) (lets p fun u=>cond u (cond f.2.2 (some (.inr (.inl h))) (some (.inl o))) (some (.inl o)))))) none))) none) (some (.inr (.inr (.inl (b.1,())))))
noncomputable def RB k x:=iter (Ry k) big x
noncomputable def Rx(a:Int×Int×Int×Int×Int×Int×Int×Int×Int×Int×Int×SY×SX×SW×MA×Int×SY×Int×Int×YcM)(b:Tg):YaZ:=letI c:=b.2.1;letI d:=a.2.2.2;letI e:=d.2.2.2;letI f:=e.2.2.2;letI g:=f.2.2.2;letI h:=g.2.2.2;letI i:=h.2.2.2;letI j:=(ae I8 i.2.1 c).2.2;cond (af .lss c i.2.2.1) (cond (ah i.2.1 c) ((RB (a.1,a.2.1,a.2.2.1,d.1,d.2.1,d.2.2.1,e.1,e.2.1,e.2.2.1,f.1,f.2.1,f.2.2.1,g.1,g.2.1,g.2.2.1,h.1,h.2.1,h.2.2.1,i.1,i.2.1,i.2.2.1,c,j,ai j,()) (b.1,0,())).bind fun k=>Sum.elim (fun l=>some (.inr (.inl (l.1,())))) (fun l=>Sum.elim (fun m=>some (.inl (m.1,aa .add .i64 c 1,()))) (fun m=>Empty.elim m) l) k) none) (some (.inr (.inr (.inl (b.1,())))))
noncomputable def RA k x:=iter (Rx k) big x
noncomputable def Rw(a:Int×Int×Int×Int×Int×Int×Int×Int×Int×Int×Int×SY×SX×SW×MA×SY×Px)(b:Tg):YaZ:=letI c:=b.2.1;letI d:=a.2.2.2.2.2;letI e:=d.2.2.2.2.2;letI f:=e.2.2.2.2.2;letI g:=(ae b7 f.1 c).2.2.1;cond (af .lss c f.2.1) (cond (ah f.1 c) ((RA (a.1,a.2.1,a.2.2.1,a.2.2.2.1,a.2.2.2.2.1,d.1,d.2.1,d.2.2.1,d.2.2.2.1,d.2.2.2.2.1,e.1,e.2.1,e.2.2.1,e.2.2.2.1,e.2.2.2.2.1,c,f.1,f.2.1,c,g,ai g,()) (b.1,0,())).bind fun h=>Sum.elim (fun i=>some (.inr (.inl (i.1,())))) (fun i=>Sum.elim (fun j=>some (.inl (j.1,aa .add .i64 c 1,()))) (fun j=>Empty.elim j) i) h) none) (some (.inr (.inr (.inl (b.1,())))))
noncomputable def UW k x:=iter (Rw k) big x
noncomputable def Rz(a:SX×Px)(b:Tg):YbD:=letI c:=aa .add .i64 b.2.1 1;letI d:=(ae qk a.1 b.2.1).2.2.2.1;letI e:=(aa .sub .i64 b.1 1,c,());cond (af .lss b.2.1 a.2.1) (cond (ah a.1 b.2.1) (cond (af .eql d 2) (some (.inl e)) (cond (af .eql d 3) (some (.inl e)) (some (.inl (b.1,c,()))))) none) (some (.inr (.inl (b.1,()))))
noncomputable def UX k x:=iter (Rz k) big x
noncomputable def RX(a b c d e f g h i j k:Int)(l:SY)(m:SX)(n:SW)(o:MA):NV:=(UW (a,b,c,d,e,f,g,h,i,j,k,l,m,n,o,l,ai l,()) (0,0,())).bind fun p=>Sum.elim (fun q=>some (q.1,())) (fun q=>Sum.elim (fun r=>(UX (m,ai m,()) (r.1,0,())).bind fun s=>Sum.elim (fun t=>some (af .eql t.1 0,())) (fun t=>Empty.elim t) s) (fun r=>Empty.elim r) q) p
noncomputable def SD(a:YbI)(b:Tg):YbD:=letI c:=a.2.2.2.2.2;letI d:=aa .add .i64 b.2.1 1;letI e:=c.2.2.2.2;letI f:=e.2.2.2.2;letI g:=ae qk f.2.2.1 b.2.1;letI h:=g.2.2.2;letI i:=h.2.2.2;letI j:=i.2.2.2;cond (af .lss b.2.1 f.2.2.2.1) (cond (ah f.2.2.1 b.2.1) (cond (af .neq h.1 0) ((Nh a.1 a.2.1 a.2.2.1 a.2.2.2.1 a.2.2.2.2.1 c.1 c.2.1 c.2.2.1 c.2.2.2.1 e.1 e.2.1 e.2.2.1 e.2.2.2.1 f.1 f.2.1 g.1 g.2.1 g.2.2.1 h.1 h.2.1 h.2.2.1 i.1 i.2.1 i.2.2.1 j.1 j.2.1 j.2.2.1 j.2.2.2).bind fun k=>cond k.1 (some (.inl (aa .add .i64 b.1 g.1,d,()))) (some (.inl (b.1,d,())))) (some (.inl (b.1,d,())))) none) (some (.inr (.inl (b.1,()))))
noncomputable def Va k x:=iter (SD k) big x
noncomputable def Tp(a b c d e f g h i j k:Int)(l:SY)(m:SX)(n:SW)(o:MA):Vx:=(Va (a,b,c,d,e,f,g,h,i,j,k,l,m,n,o,m,ai m,()) (0,0,())).bind fun p=>Sum.elim (fun q=>some (q.1,())) (fun q=>Empty.elim q) p
noncomputable def PO(a:YaW)(b:Px):Xi:=letI c:=a.2.2.2.2;letI d:=c.2.2.2.2;letI e:=d.2.2.2.2;cond (af .lss b.1 e.2.2.2.1) ((Tr a.1 a.2.1 a.2.2.1 a.2.2.2.1 c.1 c.2.1 c.2.2.1 c.2.2.2.1 d.1 d.2.1 d.2.2.1 d.2.2.2.1 e.1 e.2.1 e.2.2.1 b.1).bind fun f=>cond (Bool.not f.1) (some (.inr (.inl (false,())))) (some (.inl (aa .add .i64 b.1 1,())))) (some (.inr (.inr (.inl ()))))
noncomputable def Tm k x:=iter (PO k) big x
noncomputable def PP(a:YaW)(b:Px):Xi:=letI c:=a.2.2.2.2;letI d:=c.2.2.2.2;letI e:=d.2.2.2.2;cond (af .lss b.1 e.2.2.2.1) ((Q8 a.1 a.2.1 a.2.2.1 a.2.2.2.1 c.1 c.2.1 c.2.2.1 c.2.2.2.1 d.1 d.2.1 d.2.2.1 d.2.2.2.1 e.1 e.2.1 e.2.2.1 b.1).bind fun f=>cond (Bool.not f.1) (some (.inr (.inl (false,())))) (some (.inl (aa .add .i64 b.1 1,())))) (some (.inr (.inr (.inl ()))))
noncomputable def Tn k x:=iter (PP k) big x
noncomputable def PN(a b c d e f g h i j k:Int)(l:SY)(m:SX)(n:SW)(o:MA):NV:=(PV a b c d e f g h).bind fun p=>letI q:=some (false,());cond (Bool.not p.1) q ((qx i 0 1000).bind fun r=>cond (Bool.not r.1) q ((Nr j).bind fun s=>cond (Bool.not s.1) q ((LV k).bind fun t=>cond (Bool.not t.1) q ((qx (ai l) 1 3).bind fun u=>cond (Bool.not u.1) q (cond (af .gtr (ai m) 12) q ((Q6 n).bind fun v=>cond (Bool.not v.1) q ((Lb o).bind fun w=>cond (Bool.not w.1) q ((Tm (a,b,c,d,e,f,g,h,i,j,k,l,m,n,o,ai l,()) (0,())).bind fun x=>Sum.elim (fun y=>some (y.1,())) (fun y=>Sum.elim (fun _=>(Tn (a,b,c,d,e,f,g,h,i,j,k,l,m,n,o,ai m,()) (0,())).bind fun z=>Sum.elim (fun A=>some (A.1,())) (fun A=>Sum.elim (fun _=>(RX a b c d e f g h i j k l m n o).bind fun B=>cond B.1 ((Tp a b c d e f g h i j k l m n o).bind fun C=>some (af .leq C.1 i,())) q) (fun B=>Empty.elim B) A) z) (fun z=>Empty.elim z) y) x))))))))
end Go.Fn
set_option linter.unusedVariables false
set_option linter.unusedSimpArgs false
namespace Go.Fn
open Go.R
theorem abd(m:List (Int×Bool))(k k':Int)(v:Bool):ct (eT m k v) k'=bif k'==k then v else ct m k':=by
 induction m with
 |nil=>simp only[eT,ct]
 |cons y r ih=>
  unfold eT;cases hb:k==y.1 with
  |true=>
   have hk:k=y.1:=by simpa using hb
   subst hk;simp only[cond_true,ct];cases k'==y.1 <;> rfl
  |false=>
   simp only[cond_false,ct,ih];cases h1:k'==y.1 with
   |false=>rfl
   |true=>
    have:k'=y.1:=by simpa using h1
    subst this;have:(y.1==k)=false:=by rw[Bool.eq_false_iff]at hb⊢;intro e;exact hb (by simpa using (beq_iff_eq.1 e).symm)
    rw[this];rfl
noncomputable def JK(m:List (Int×Bool))(l:List Int):List (Int×Bool):=l.foldl (fun m k=>eT m k true) m
theorem Rn(k:Int):∀(l:List Int) (m:List (Int×Bool)),ct (JK m l) k=true↔ct m k=true\/k∈l
 | [],m=>by simp[JK]
 |x::l,m=>by
  have:=Rn k l (eT m x true);unfold JK at this⊢;rw[List.foldl_cons,this,abd];cases hb:k==x with
  |true=>simp[beq_iff_eq.1 hb]
  |false=>
   have:k≠x:=by rintro rfl;simp at hb
   simp[this]
theorem Vj(m:List (Int×Bool))(l:List Int)(x:Int):JK m (l++[x])=eT (JK m l) x true:=by unfold JK;rw[List.foldl_append];rfl
theorem Sc{α:Type}{l:List α}{n:Nat}(h:n<l.length)(z:α):l.take (n+1)=l.take n++[l.getD n z]:=by rw[List.take_add_one,List.getElem?_eq_getElem h,List.getD_eq_getElem?_getD,List.getElem?_eq_getElem h];rfl
theorem WB{α:Type}{l:List α}{n:Nat}{x z:α}(hn:n<=l.length):x∈l.take n↔∃k,k<n/\l.getD k z=x:=by
 constructor
 ·intro h;obtain⟨k,hk,e⟩:=List.mem_iff_getElem.1 h;rw[List.length_take]at hk;rw[List.getElem_take]at e;exact⟨k,by omega,by rw[List.getD_eq_getElem?_getD,List.getElem?_eq_getElem (by omega)];exact e⟩
 ·rintro⟨k,hk,e⟩;rw[List.getD_eq_getElem?_getD,List.getElem?_eq_getElem (show k<l.length by omega)]at e;rw[<-e];have:(l.take n)[k]? = some l[k]:=by rw[List.getElem?_take_of_lt hk,List.getElem?_eq_getElem (by omega)]
  exact List.mem_of_getElem? this
noncomputable def KD(l:List Bx)(n:Nat):Bx:=l.getD n Na
noncomputable def NP(l:List Bx)(n:Nat):Int:=(l.take n).foldl (fun a b=>aa .add .i64 a b.2.1) 0
theorem Sa(l:List Bx){n:Nat}(h:n<l.length):NP l (n+1)=aa .add .i64 (NP l n) (KD l n).2.1:=by unfold NP KD;rw[Sc h Na,List.foldl_append];rfl
noncomputable def W1(l:List Bx)(n k:Nat):Bool:=Bool.not (af .gtr (KD l n).2.2.1 0&&af .eql (KD l k).2.2.1 (KD l n).2.2.1)
noncomputable def okS(l:List Bx)(n:Nat):Bool:=Bool.not (af .neq (KD l n).1 (NP l n))&&M4 (KD l n).2.1 1 24&&M4 (KD l n).2.2.1 0 999&&aB (W1 l n) 0 n&&Bool.not (af .gtr (NP l (n+1)) 24)
theorem Yj(h:Int)(f:List Int)(l:List Bx)(hl:l.length<=1073741824):Rf h f l=some (aB (okS l) 0 l.length&&(af .gtr (ai l) 0&&af .eql (NP l l.length) h),()):=by
 unfold Rf;have:Q5 (h,f,l,()) (0,0,())=some (bif aB (okS l) 0 l.length then(Sum.inr (Sum.inl (NP l l.length,())):Bool×Unit⊕(Int×Unit⊕Empty))else .inl (false,())):=by
  refine bp (fun n=>(NP l n,(n:Int),())) l.length (by omega) (okS l) _ _ (fun n hn=>?_) ?_
  ·have hin:OT (h,f,l,NP l n,(n:Int),()) ((KD l n).1,(KD l n).2.1,(KD l n).2.2.1,(KD l n).2.2.2,0,())=some (bif aB (W1 l n) 0 n then(Sum.inr (Sum.inl ((KD l n).1,(KD l n).2.1,(KD l n).2.2.1,(KD l n).2.2.2,())):Bool×Unit⊕(Int×Int×Int×Bool×Unit⊕Empty))else .inl (false,())):=by
    refine bp (fun k=>((KD l n).1,(KD l n).2.1,(KD l n).2.2.1,(KD l n).2.2.2,(k:Int),())) n (by omega) (W1 l n) _ _ (fun k hk=>?_) ?_
    ·unfold Q4 W1;have cJ:k<l.length:=by omega
     simp only[eH,hk,decide_true,cond_true,az,cJ,aq,av (n:=k) (by omega)];show(bif af .gtr (KD l n).2.2.1 0 then(bif af .eql (KD l k).2.2.1 (KD l n).2.2.1 then _ else _)else _)=_;cases af .gtr (KD l n).2.2.1 0 <;> cases af .eql (KD l k).2.2.1 (KD l n).2.2.1 <;> rfl
    ·unfold Q4;simp only[eH,Nat.lt_irrefl,decide_false,cond_false]
   unfold Q3 okS;simp only[aj,hn,decide_true,cond_true,az,aq,PX,Option.bind_some,av (n:=n) (by omega),Sa l hn];show(bif af .neq (KD l n).1 (NP l n)then _ else bif Bool.not (M4 (KD l n).2.1 1 24)then _ else bif Bool.not (M4 (KD l n).2.2.1 0 999)then _ else(OT (h,f,l,NP l n,(n:Int),()) ((KD l n).1,(KD l n).2.1,(KD l n).2.2.1,(KD l n).2.2.2,0,())).bind _)=_;rw[hin];cases af .neq (KD l n).1 (NP l n)with
   |true=>rfl
   |false=>
    cases M4 (KD l n).2.1 1 24 with
    |false=>rfl
    |true=>
     cases M4 (KD l n).2.2.1 0 999 with
     |false=>rfl
     |true=>
      cases aB (W1 l n) 0 n with
      |false=>rfl
      |true=>simp only[Bool.not_true,cond_false,cond_true,Option.bind_some,Sum.elim_inr,Sum.elim_inl,Bool.not_false,Bool.true_and];cases af .gtr (aa .add .i64 (NP l n) (KD l n).2.1) 24 <;> rfl
  ·unfold Q3;simp only[aj,Nat.lt_irrefl,decide_false,cond_false]
 rw[this];cases aB (okS l) 0 l.length with
 |false=>rfl
 |true=>simp only[cond_true,Option.bind_some,Sum.elim_inr,Sum.elim_inl,Bool.true_and];cases af .gtr (ai l) 0 <;> rfl
noncomputable def V7(l:List Bx):List Int:=l.map (·.1)
noncomputable def QW(l:List Bx):List Int:=l.map (·.2.2.1)
noncomputable def okI(h:Int)(l:List Bx)(n:Nat):Bool:=Bool.not (af .neq (KD l n).1 (NP l n))&&M4 (KD l n).2.1 1 (aa .sub .i64 h (NP l n))&&M4 (KD l n).2.2.1 0 999&&Bool.not (af .gtr (KD l n).2.2.1 0&&ct (JK [] (QW (l.take n))) (KD l n).2.2.1)
theorem X9(h:Int)(f:List Int)(l:List Bx)(hl:l.length<=1073741824):QM (h,f,l,l,ai l,()) (0,[],[],0,())=some (bif aB (okI h l) 0 l.length then(Sum.inr (Sum.inl (NP l l.length,JK [] (V7 l),())):Bool×Unit⊕(Int×(List (Int×Bool))×Unit⊕Empty))else .inl (false,())):=by
 have:=bp (body:=OB (h,f,l,l,ai l,())) (fun n=>(NP l n,JK [] (V7 (l.take n)),JK [] (QW (l.take n)),(n:Int),())) l.length (by omega) (okI h l) (.inr (.inl (NP l l.length,JK [] (V7 l),()))) (.inl (false,())) (fun n hn=>?_) ?_
 ·exact this
 ·unfold OB okI;have e1:JK [] (V7 (l.take (n+1)))=eT (JK [] (V7 (l.take n))) (KD l n).1 true:=by unfold V7 KD;rw[Sc hn Na,List.map_append];exact Vj _ _ _
  have e2:JK [] (QW (l.take (n+1)))=eT (JK [] (QW (l.take n))) (KD l n).2.2.1 true:=by unfold QW KD;rw[Sc hn Na,List.map_append];exact Vj _ _ _
  simp only[aj,hn,decide_true,cond_true,az,aq,K2,Option.bind_some,av (n:=n) (by omega),Sa l hn,e1,e2];show(bif af .neq (KD l n).1 (NP l n)then _ else bif Bool.not (M4 (KD l n).2.1 1 (aa .sub .i64 h (NP l n)))then _ else bif Bool.not (M4 (KD l n).2.2.1 0 999)then _ else bif af .gtr (KD l n).2.2.1 0 then(bif ct (JK [] (QW (l.take n))) (KD l n).2.2.1 then _ else _)else _)=_;cases af .neq (KD l n).1 (NP l n)with
  |true=>rfl
  |false=>
   cases M4 (KD l n).2.1 1 (aa .sub .i64 h (NP l n))with
   |false=>rfl
   |true=>
    cases M4 (KD l n).2.2.1 0 999 with
    |false=>rfl
    |true=>
     cases af .gtr (KD l n).2.2.1 0 with
     |false=>rfl
     |true=>cases ct (JK [] (QW (l.take n))) (KD l n).2.2.1 <;> rfl
 ·unfold OB;simp only[aj,Nat.lt_irrefl,decide_false,cond_false,List.take_length]
theorem abf{a b:Int}:af .neq a b=false↔a=b:=by simp[af]
theorem aa6{a b:Int}:af .gtr a b=false↔a<=b:=by simp[af]
theorem aeX{a b:Int}:af .gtr a b=true↔b<a:=by simp[af]
theorem XG{a b:Int}:af .eql a b=true↔a=b:=by simp[af]
theorem ZW{l:List Bx}{n:Nat}(hn:n<=l.length)(p:Int):ct (JK [] (QW (l.take n))) p=true↔∃k,k<n/\(KD l k).2.2.1=p:=by
 rw[Rn];simp only[ct,Bool.false_eq_true,false_or,QW,List.mem_map];constructor
 ·rintro⟨b,hb,e⟩;obtain⟨k,hk,rfl⟩:=(WB (z:=Na) hn).1 hb;exact⟨k,hk,e⟩
 ·rintro⟨k,hk,e⟩;exact⟨KD l k,(WB (z:=Na) hn).2 ⟨k,hk,rfl⟩,e⟩
theorem X3{l:List Bx}{n:Nat}(hn:n<=l.length):(Bool.not (af .gtr (KD l n).2.2.1 0&&ct (JK [] (QW (l.take n))) (KD l n).2.2.1))=aB (W1 l n) 0 n:=by
 rw[Bool.eq_iff_iff,aQ];simp only[W1,Bool.not_eq_true',Bool.and_eq_false_iff];cases h0:af .gtr (KD l n).2.2.1 0 with
 |false=>exact⟨fun _ _ _ _=>.inl rfl,fun _=>.inl rfl⟩
 |true=>
  constructor
  ·intro h m _ hm;refine .inr ?_;rcases h with h|h
   ·cases h
   ·cases he:af .eql (KD l m).2.2.1 (KD l n).2.2.1 with
    |false=>rfl
    |true=>have:=(ZW hn _).2 ⟨m,by omega,XG.1 he⟩;rw[h]at this;cases this
  ·intro h;refine .inr ?_;cases hm:ct (JK [] (QW (l.take n))) (KD l n).2.2.1 with
   |false=>rfl
   |true=>
    obtain⟨k,hk,e⟩:=(ZW hn _).1 hm;rcases h k (Nat.zero_le _) (by omega)with h|h
    ·cases h
    ·rw[XG.2 e]at h;cases h
theorem Z9{h:Int}(h1:1<=h)(h2:h<=24)(l:List Bx)(hl:l.length<=1073741824):(aB (okS l) 0 l.length=true/\NP l l.length=h)↔(aB (okI h l) 0 l.length=true/\NP l l.length=h):=by
 have mono:∀(hs:∀n,n<l.length->0<=NP l n/\NP l n<=NP l (n+1)) (m n:Nat),m<=n->n<=l.length->NP l m<=NP l n:=by
  intro hs m n hmn hn;induction n with
  |zero=>rw[show m=0 by omega];exact Int.le_refl _
  |succ n ih=>
   rcases Nat.lt_or_ge m (n+1)with h|h
   ·exact Int.le_trans (ih (by omega) (by omega)) (hs n (by omega)).2
   ·rw[show m=n+1 by omega];exact Int.le_refl _
 have p0:NP l 0=0:=rfl;constructor
 ·rintro⟨ha,he⟩;rw[aQ]at ha;simp only[okS,Bool.and_eq_true,Bool.not_eq_true',abf,aa6,K3]at ha;have hp:∀n,n<=l.length->0<=NP l n/\NP l n<=24:=by
   intro n;induction n with
   |zero=>intro _;rw[p0];omega
   |succ n ih=>intro hn;obtain⟨⟨⟨⟨_,c2⟩,_⟩,_⟩,c5⟩:=ha n (Nat.zero_le _) (by omega);have:=ih (by omega);refine⟨?_,c5⟩;rw[Sa l (by omega),bV (by omega) (by omega)];omega
  have hs:∀n,n<l.length->0<=NP l n/\NP l n<=NP l (n+1):=fun n hn=>by obtain⟨⟨⟨⟨_,c2⟩,_⟩,_⟩,c5⟩:=ha n (Nat.zero_le _) (by omega);have:=hp n (by omega);refine⟨this.1,?_⟩;rw[Sa l hn,bV (by omega) (by omega)];omega
  refine⟨?_,he⟩;rw[aQ];intro n _ hn;obtain⟨⟨⟨⟨c1,c2⟩,c3⟩,c4⟩,c5⟩:=ha n (Nat.zero_le _) (by omega);unfold okI;rw[X3 (by omega),c4];have:=hp n (by omega);have hm:=mono hs (n+1) l.length (by omega) (Nat.le_refl _);rw[he,Sa l (by omega),bV (by omega) (by omega)]at hm;rw[bO (by omega) (by omega)];simp only[Bool.and_eq_true,Bool.not_eq_true',abf,K3];exact⟨⟨⟨c1,by omega,by omega⟩,c3⟩,trivial⟩
 ·rintro⟨ha,he⟩;rw[aQ]at ha;have hp:∀n,n<=l.length->0<=NP l n/\NP l n<=h:=by
   intro n;induction n with
   |zero=>intro _;rw[p0];omega
   |succ n ih=>intro hn;have hi:=ih (by omega);have:=ha n (Nat.zero_le _) (by omega);unfold okI at this;rw[bO (by omega) (by omega)]at this;simp only[Bool.and_eq_true,Bool.not_eq_true',abf,K3]at this;obtain⟨⟨⟨_,c2⟩,_⟩,_⟩:=this;rw[Sa l (by omega),bV (by omega) (by omega)];omega
  refine⟨?_,he⟩;rw[aQ];intro n _ hn;have hi:=hp n (by omega);have hj:=hp (n+1) (by omega);have:=ha n (Nat.zero_le _) hn;unfold okI at this;rw[X3 (by omega),bO (by omega) (by omega)]at this;simp only[Bool.and_eq_true,Bool.not_eq_true',abf,K3]at this;obtain⟨⟨⟨c1,c2⟩,c3⟩,c4⟩:=this;unfold okS;simp only[Bool.and_eq_true,Bool.not_eq_true',abf,aa6,K3];exact⟨⟨⟨⟨c1,by omega,by omega⟩,c3⟩,c4⟩,by omega⟩
noncomputable def UU(h:Int)(f:List Int):Nat->Bool
 |0=>M4 (f.getD 0 zI) 1 (aa .sub .i64 h 1)
 |n+1=>M4 (f.getD (n+1) zI) 1 (aa .sub .i64 h 1)&&Bool.not (af .leq (f.getD (n+1) zI) (f.getD n zI))
noncomputable def foundAt(f:List Int)(l:List Bx)(n:Nat):Bool:=l.any fun b=>af .eql b.1 (f.getD n zI)
theorem Yk(h:Int)(f:List Int)(l:List Bx)(n:Nat)(hn:n<f.length)(hl:l.length<=1073741824):QZ (h,f,l,(n:Int),()) (false,0,())=some (.inl (foundAt f l n,())):=by
 have:=aR (body:=OQ (h,f,l,(n:Int),())) (fun k=>((l.take k).any fun b=>af .eql b.1 (f.getD n zI),(k:Int),())) l.length (by omega) (.inl (foundAt f l n,())) (fun k hk=>?_) ?_
 ·exact this
 ·unfold OQ;rw[Sc hk Na,List.any_append];simp only[aj,hk,hn,decide_true,cond_true,az,aq,av (n:=k) (by omega)];cases (l.take k).any fun b=>af .eql b.1 (f.getD n zI)with
  |true=>rfl
  |false=>simp[List.any]
 ·unfold OQ foundAt;simp only[aj,Nat.lt_irrefl,decide_false,cond_false,List.take_length]
theorem acA{n:Nat}(h:n<1099511627776):aa .sub .i64 ((n+1:Nat):Int) 1=(n:Int):=iw h
theorem gt1(n:Nat):af .gtr ((n+1:Nat):Int) 0=true:=by simp only[af,gt_iff_lt,decide_eq_true_eq];omega
noncomputable def X2(h:Int)(f:List Int)(l:List Bx):Bool:=M4 h 1 24&&((aB (okS l) 0 l.length&&(af .gtr (ai l) 0&&af .eql (NP l l.length) h))&&aB (fun n=>UU h f n&&foundAt f l n) 0 f.length)
theorem XM(h:Int)(f:List Int)(l:List Bx)(hf:f.length<=1073741824)(hl:l.length<=1073741824):Pd h f l=some (X2 h f l,()):=by
 unfold Pd X2;rw[PX,Yj h f l hl];simp only[Option.bind_some];have:QY (h,f,l,()) (0,())=some (bif aB (fun n=>UU h f n&&foundAt f l n) 0 f.length then(Sum.inr (Sum.inl ()):Bool×Unit⊕(Unit⊕Empty))else .inl (false,())):=by
  refine bp (fun n=>((n:Int),())) f.length (by omega) (fun n=>UU h f n&&foundAt f l n) _ _ (fun n hn=>?_) ?_
  ·unfold QX;simp only[aj,hn,decide_true,cond_true,az,aq,PX,Option.bind_some,av (n:=n) (by omega),Yk h f l n hn hl,Sum.elim_inl];cases n with
   |zero=>unfold UU;rw[show af .gtr ((0:Nat):Int) 0=false from rfl];cases M4 (f.getD 0 zI) 1 (aa .sub .i64 h 1) <;> cases foundAt f l 0 <;> rfl
   |succ m=>
    have hm:m<f.length:=by omega
    unfold UU;rw[gt1,acA (by omega)];simp only[az,aq,hm,decide_true,cond_true];cases M4 (f.getD (m+1) zI) 1 (aa .sub .i64 h 1) <;> cases af .leq (f.getD (m+1) zI) (f.getD m zI) <;> cases foundAt f l (m+1) <;> rfl
  ·unfold QX;simp only[aj,Nat.lt_irrefl,decide_false,cond_false]
 rw[this];cases M4 h 1 24 with
 |false=>rfl
 |true=>
  simp only[Bool.not_true,cond_false,Bool.true_and];cases (aB (okS l) 0 l.length&&(af .gtr (ai l) 0&&af .eql (NP l l.length) h))with
  |false=>rfl
  |true=>simp only[Bool.not_true,cond_false,Bool.true_and];cases aB (fun n=>UU h f n&&foundAt f l n) 0 f.length <;> rfl
noncomputable def YJ(h:Int)(f:List Int)(l:List Bx):Bool:=M4 h 1 24&&(Bool.not (af .eql (ai l) 0)&&(aB (UU h f) 0 f.length&&(aB (okI h l) 0 l.length&&(aB (fun n=>ct (JK [] (V7 l)) (f.getD n zI)) 0 f.length&&af .eql (NP l l.length) h))))
theorem XH(h:Int)(f:List Int)(l:List Bx)(hf:f.length<=1073741824)(hl:l.length<=1073741824):O3 h f l=some (YJ h f l,()):=by
 unfold O3 YJ;rw[K2];simp only[Option.bind_some];have h0:QL (h,f,l,f,ai f,()) (0,())=some (bif aB (UU h f) 0 f.length then(Sum.inr (Sum.inl ()):Bool×Unit⊕(Unit⊕Empty))else .inl (false,())):=by
  refine bp (fun n=>((n:Int),())) f.length (by omega) (UU h f) _ _ (fun n hn=>?_) ?_
  ·unfold QJ;simp only[aj,hn,decide_true,cond_true,az,aq,K2,Option.bind_some,av (n:=n) (by omega)];cases n with
   |zero=>unfold UU;rw[show af .gtr ((0:Nat):Int) 0=false from rfl];cases M4 (f.getD 0 zI) 1 (aa .sub .i64 h 1) <;> rfl
   |succ m=>
    have hm:m<f.length:=by omega
    unfold UU;rw[gt1,acA (by omega)];simp only[az,aq,hm,decide_true,cond_true];cases M4 (f.getD (m+1) zI) 1 (aa .sub .i64 h 1) <;> cases af .leq (f.getD (m+1) zI) (f.getD m zI) <;> rfl
  ·unfold QJ;simp only[aj,Nat.lt_irrefl,decide_false,cond_false]
 have h4:QN (h,f,l,NP l l.length,f,ai f,()) (JK [] (V7 l),0,())=some (bif aB (fun n=>ct (JK [] (V7 l)) (f.getD n zI)) 0 f.length then(Sum.inr (Sum.inl ()):Bool×Unit⊕(Unit⊕Empty))else .inl (false,())):=by
  refine bp (fun n=>(JK [] (V7 l),(n:Int),())) f.length (by omega) _ _ _ (fun n hn=>?_) ?_
  ·unfold QK;simp only[aj,hn,decide_true,cond_true,az,aq,av (n:=n) (by omega)];cases ct (JK [] (V7 l)) (f.getD n zI) <;> rfl
  ·unfold QK;simp only[aj,Nat.lt_irrefl,decide_false,cond_false]
 rw[h0,X9 h f l hl];cases M4 h 1 24 with
 |false=>rfl
 |true=>
  simp only[Bool.not_true,cond_false,Bool.true_and];cases af .eql (ai l) 0 with
  |true=>rfl
  |false=>
   simp only[cond_false,Bool.not_false,Bool.true_and];cases aB (UU h f) 0 f.length with
   |false=>rfl
   |true=>
    simp only[cond_true,Option.bind_some,Sum.elim_inr,Sum.elim_inl,Bool.true_and];cases aB (okI h l) 0 l.length with
    |false=>rfl
    |true=>simp only[cond_true,Option.bind_some,Sum.elim_inr,Sum.elim_inl,Bool.true_and,h4];cases aB (fun n=>ct (JK [] (V7 l)) (f.getD n zI)) 0 f.length <;> rfl
theorem aa2(f:List Int)(l:List Bx)(n:Nat):ct (JK [] (V7 l)) (f.getD n zI)=foundAt f l n:=by rw[Bool.eq_iff_iff,Rn];simp only[ct,Bool.false_eq_true,false_or,V7,foundAt,List.mem_map,List.any_eq_true,XG]
theorem aaZ(h:Int)(f:List Int)(l:List Bx)(hl:l.length<=1073741824):X2 h f l=YJ h f l:=by
 unfold X2 YJ;cases h1:M4 h 1 24 with
 |false=>rfl
 |true=>
  obtain⟨q1,q2⟩:=K3.1 h1;have hb:=Z9 q1 q2 l hl;have hne:Bool.not (af .eql (ai l) 0)=af .gtr (ai l) 0:=by
   cases hq:af .gtr (ai l) 0 with
   |true=>
    have:af .eql (ai l) 0=false:=by rw[Bool.eq_false_iff,ne_eq,XG];have:=aeX.1 hq;omega
    rw[this];rfl
   |false=>
    have:af .eql (ai l) 0=true:=by rw[XG];have:=aa6.1 hq;unfold ai at this⊢;omega
    rw[this];rfl
  rw[hne];have hfn:(fun n=>ct (JK [] (V7 l)) (f.getD n zI))=foundAt f l:=funext fun n=>aa2 f l n;rw[hfn,Bool.eq_iff_iff];simp only[Bool.and_eq_true,XG,aQ,Bool.true_and];simp only[aQ]at hb;constructor
  ·rintro⟨⟨c1,c2,c3⟩,c4⟩;obtain⟨d1,_⟩:=hb.1 ⟨c1,c3⟩;exact⟨c2,fun m x y=>(c4 m x y).1,d1,fun m x y=>(c4 m x y).2,c3⟩
  ·rintro⟨c2,c4,c1,c5,c3⟩;obtain⟨d1,_⟩:=hb.2 ⟨c1,c3⟩;exact⟨⟨d1,c2,c3⟩,fun m x y=>⟨c4 m x y,c5 m x y⟩⟩
noncomputable def Je(L:List Xe)(i:Nat):Xe:=L.getD i I8
noncomputable def aai(l:List Bx)(p:Int):Bool:=l.any fun b=>af .eql b.2.2.1 p
theorem acK(h:Int)(f:List Int)(l:List Bx)(p:Int)(hl:l.length<=1073741824):∃r,Rr h f l p=some (r,())/\af .geq r 0=(af .gtr p 0&&aai l p):=by
 unfold Rr;obtain⟨y,h1,h2⟩:=fP (body:=QE (p,h,f,l,())) (fun n=>((n:Int),())) l.length (by omega) (fun n=>Bool.not (af .eql (l.getD n Na).2.2.1 p&&af .gtr p 0)) (Sum.inr (Sum.inl ())) (fun n=>Sum.inl ((n:Int),())) (fun n hn=>by
  unfold QE;simp only[aj,az,hn,decide_true,cond_true,aq,av (n:=n) (by omega)];cases af .eql (l.getD n Na).2.2.1 p <;> cases af .gtr p 0 <;> rfl) (by
  unfold QE;simp only[aj,Nat.lt_irrefl,decide_false,cond_false])
 have h1':SS (p,h,f,l,()) ((0:Int),())=some y:=h1;rw[h1'];rcases h2 with ⟨e1,rfl⟩|⟨e1,n,hn,rfl,e3⟩
 ·refine⟨-1,rfl,?_⟩;rw[aQ]at e1;show false=_;symm;rw[Bool.and_eq_false_iff];cases hp:af .gtr p 0 with
  |false=>exact .inl rfl
  |true=>refine .inr ?_;rw[Bool.eq_false_iff];intro hh;obtain⟨b,hb,he⟩:=List.any_eq_true.1 hh;obtain⟨n,hn,rfl⟩:=List.mem_iff_getElem.1 hb;have:=e1 n (Nat.zero_le _) (by omega);rw[List.getD_eq_getElem?_getD,List.getElem?_eq_getElem hn,Option.getD_some,he,hp]at this;cases this
 ·refine⟨(n:Int),rfl,?_⟩;have h0:af .geq (n:Int) 0=true:=by simp[af]
  rw[h0];symm;have e3:(af .eql (l.getD n Na).2.2.1 p&&af .gtr p 0)=true:=by
   cases hq:(af .eql (l.getD n Na).2.2.1 p&&af .gtr p 0)with
   |true=>rfl
   |false=>rw[hq]at e3;first|cases e3|(simp at e3)
  rw[Bool.and_eq_true]at e3⊢;exact⟨e3.2,List.any_eq_true.2 ⟨_,NH hn Na,e3.1⟩⟩
noncomputable def Ti(L:List Xe)(i k n:Nat):Bool:=Bool.not (af .gtr (KD (Je L i).2.2 n).2.2.1 0&&aai (Je L k).2.2 (KD (Je L i).2.2 n).2.2.1)
noncomputable def Ur(L:List Xe)(i:Nat):Bool:=X2 (Je L i).1 (Je L i).2.1 (Je L i).2.2&&aB (fun k=>aB (Ti L i k) 0 (Je L i).2.2.length) 0 i
noncomputable def Th(L:List Xe):Bool:=M4 (ai L) 1 6&&aB (Ur L) 0 L.length
noncomputable def U5(L:List Xe):Prop:=L.length<=1073741824/\∀c,c∈L->c.2.1.length<=1073741824/\c.2.2.length<=1073741824
theorem U5.at{L:List Xe}(h:U5 L){i:Nat}(hi:i<L.length):(Je L i).2.1.length<=1073741824/\(Je L i).2.2.length<=1073741824:=h.2 _ (NH hi _)
theorem Y9(L:List Xe)(hw:U5 L):Rq L=some (Th L,()):=by
 have hL:=hw.1;unfold Rq Th;rw[PX];simp only[Option.bind_some];have h4:∀i k,i<L.length->k<i->SP (L,(i:Int),(k:Int),()) (0,())=some (bif aB (Ti L i k) 0 (Je L i).2.2.length then(Sum.inr (Sum.inl ()):Bool×Unit⊕(Unit⊕Empty))else .inl (false,())):=by
  intro i k hi hk;have hki:k<L.length:=by omega
  have hbi:=(hw.at hi).2;refine bp (fun n=>((n:Int),())) (Je L i).2.2.length (by omega) _ _ _ (fun n hn=>?_) ?_
  ·unfold SM;obtain⟨r,e1,e2⟩:=acK (Je L k).1 (Je L k).2.1 (Je L k).2.2 (KD (Je L i).2.2 n).2.2.1 (hw.at hki).2;have DC:Rr (L.getD k I8).1 (L.getD k I8).2.1 (L.getD k I8).2.2 ((L.getD i I8).2.2.getD n Na).2.2.1=some (r,()):=e1;have hn':n<(L.getD i I8).2.2.length:=hn;simp only[az,hi,hki,decide_true,cond_true,aq,aj,hn',DC,Option.bind_some,e2,av (n:=n) (by omega)];unfold Ti;cases (af .gtr (KD (Je L i).2.2 n).2.2.1 0&&aai (Je L k).2.2 (KD (Je L i).2.2 n).2.2.1) <;> rfl
  ·unfold SM;have:¬((Je L i).2.2.length<(L.getD i I8).2.2.length):=Nat.lt_irrefl _;simp only[az,hi,decide_true,cond_true,aq,aj,this,decide_false,cond_false]
 have h2:∀i,i<L.length->SO (L,(i:Int),()) (0,())=some (bif aB (fun k=>aB (Ti L i k) 0 (Je L i).2.2.length) 0 i then(Sum.inr (Sum.inl ()):Bool×Unit⊕(Unit⊕Empty))else .inl (false,())):=by
  intro i hi;refine bp (fun n=>((n:Int),())) i (by omega) _ _ _ (fun k hk=>?_) ?_
  ·unfold SL;simp only[eH,hk,decide_true,cond_true,h4 i k hi hk,Option.bind_some,av (n:=k) (by omega)];cases aB (Ti L i k) 0 (Je L i).2.2.length <;> rfl
  ·unfold SL;simp only[eH,Nat.lt_irrefl,decide_false,cond_false]
 have h0:SN (L,()) (0,())=some (bif aB (Ur L) 0 L.length then(Sum.inr (Sum.inl ()):Bool×Unit⊕(Unit⊕Empty))else .inl (false,())):=by
  refine bp (fun n=>((n:Int),())) L.length (by omega) _ _ _ (fun i hi=>?_) ?_
  ·unfold SK Ur;have hc:Pd (L.getD i I8).1 (L.getD i I8).2.1 (L.getD i I8).2.2=some (X2 (Je L i).1 (Je L i).2.1 (Je L i).2.2,()):=XM _ _ _ (hw.at hi).1 (hw.at hi).2;simp only[aj,az,hi,decide_true,cond_true,aq,hc,Option.bind_some,h2 i hi,av (n:=i) (by omega)];cases X2 (Je L i).1 (Je L i).2.1 (Je L i).2.2 with
   |false=>rfl
   |true=>cases aB (fun k=>aB (Ti L i k) 0 (Je L i).2.2.length) 0 i <;> rfl
  ·unfold SK;simp only[aj,Nat.lt_irrefl,decide_false,cond_false]
 rw[h0];cases M4 (ai L) 1 6 with
 |false=>rfl
 |true=>cases aB (Ur L) 0 L.length <;> rfl
noncomputable def Ou(L:List Xe)(i:Nat):List Int:=((L.take i).map fun c=>QW c.2.2).flatten
theorem Y1{L:List Xe}{i:Nat}(h:i<L.length):Ou L (i+1)=Ou L i++QW (Je L i).2.2:=by unfold Ou Je;rw[Sc h I8,List.map_append,List.flatten_append];simp
theorem ZA(m:List (Int×Bool))(a b:List Int):JK m (a++b)=JK (JK m a) b:=List.foldl_append
noncomputable def Xb(L:List Xe)(i n:Nat):Bool:=Bool.not (af .gtr (KD (Je L i).2.2 n).2.2.1 0&&ct (JK (JK [] (Ou L i)) (QW ((Je L i).2.2.take n))) (KD (Je L i).2.2 n).2.2.1)
noncomputable def Vq(L:List Xe)(i:Nat):Bool:=YJ (Je L i).1 (Je L i).2.1 (Je L i).2.2&&aB (Xb L i) 0 (Je L i).2.2.length
theorem X8(L:List Xe)(hw:U5 L):Pz L=some (M4 (ai L) 1 6&&aB (Vq L) 0 L.length,()):=by
 have hL:=hw.1;unfold Pz;rw[K2];simp only[Option.bind_some];have h2:∀i,i<L.length->SA (L,ai L,(i:Int),(Je L i).2.2,ai (Je L i).2.2,()) (JK [] (Ou L i),0,())=some (bif aB (Xb L i) 0 (Je L i).2.2.length then(Sum.inr (Sum.inl (JK [] (Ou L (i+1)),())):Bool×Unit⊕((List (Int×Bool))×Unit⊕Empty))else .inl (false,())):=by
  intro i hi;have hb:=(hw.at hi).2;have:=bp (body:=PK (L,ai L,(i:Int),(Je L i).2.2,ai (Je L i).2.2,())) (fun n=>(JK (JK [] (Ou L i)) (QW ((Je L i).2.2.take n)),(n:Int),())) (Je L i).2.2.length (by omega) (Xb L i) (Sum.inr (Sum.inl (JK [] (Ou L (i+1)),()))) (Sum.inl (false,())) (fun n hn=>?_) ?_
  ·exact this
  ·unfold PK Xb;have e2:JK (JK [] (Ou L i)) (QW ((Je L i).2.2.take (n+1)))=eT (JK (JK [] (Ou L i)) (QW ((Je L i).2.2.take n))) (KD (Je L i).2.2 n).2.2.1 true:=by unfold QW KD;rw[Sc hn Na,List.map_append];exact Vj _ _ _
   simp only[aj,az,hn,decide_true,cond_true,aq,av (n:=n) (by omega),e2];show(bif af .gtr (KD (Je L i).2.2 n).2.2.1 0 then(bif ct (JK (JK [] (Ou L i)) (QW ((Je L i).2.2.take n))) (KD (Je L i).2.2 n).2.2.1 then _ else _)else _)=_;cases af .gtr (KD (Je L i).2.2 n).2.2.1 0 with
   |false=>rfl
   |true=>cases ct (JK (JK [] (Ou L i)) (QW ((Je L i).2.2.take n))) (KD (Je L i).2.2 n).2.2.1 <;> rfl
  ·unfold PK;simp only[aj,Nat.lt_irrefl,decide_false,cond_false,List.take_length,Y1 hi,ZA]
 have h0:Sz (L,ai L,()) ([],0,())=some (bif aB (Vq L) 0 L.length then(Sum.inr (Sum.inl ()):Bool×Unit⊕(Unit⊕Empty))else .inl (false,())):=by
  refine bp (fun n=>(JK [] (Ou L n),(n:Int),())) L.length (by omega) _ _ _ (fun i hi=>?_) ?_
  ·unfold Sy Vq;have hc:O3 (L.getD i I8).1 (L.getD i I8).2.1 (L.getD i I8).2.2=some (YJ (Je L i).1 (Je L i).2.1 (Je L i).2.2,()):=XH _ _ _ (hw.at hi).1 (hw.at hi).2;have h2':=h2 i hi;unfold Je at h2';simp only[aj,az,hi,decide_true,cond_true,aq,hc,Option.bind_some,h2',av (n:=i) (by omega)];cases YJ (Je L i).1 (Je L i).2.1 (Je L i).2.2 with
   |false=>rfl
   |true=>show(bif Bool.not true then _ else(some (bif aB (Xb L i) 0 (Je L i).2.2.length then _ else _)).bind _)=_;cases aB (Xb L i) 0 (Je L i).2.2.length <;> rfl
  ·unfold Sy;simp only[aj,Nat.lt_irrefl,decide_false,cond_false]
 rw[h0];cases M4 (ai L) 1 6 with
 |false=>rfl
 |true=>cases aB (Vq L) 0 L.length <;> rfl
theorem YT{l:List Bx}{p:Int}:aai l p=true↔p∈QW l:=by simp only[aai,QW,List.any_eq_true,List.mem_map,XG]
theorem Xv{L:List Xe}{i:Nat}(hi:i<=L.length)(p:Int):p∈Ou L i↔∃k,k<i/\p∈QW (Je L k).2.2:=by
 unfold Ou;simp only[List.mem_flatten,List.mem_map];constructor
 ·rintro⟨l,⟨c,hc,rfl⟩,hp⟩;obtain⟨k,hk,rfl⟩:=(WB (z:=I8) hi).1 hc;exact⟨k,hk,hp⟩
 ·rintro⟨k,hk,hp⟩;exact⟨_,⟨Je L k,(WB (z:=I8) hi).2 ⟨k,hk,rfl⟩,rfl⟩,hp⟩
theorem Z8(L:List Xe)(hw:U5 L){i:Nat}(hi:i<L.length):Ur L i=Vq L i:=by
 unfold Ur Vq;rw[aaZ _ _ _ (hw.at hi).2];cases hc:YJ (Je L i).1 (Je L i).2.1 (Je L i).2.2 with
 |false=>rfl
 |true=>
  simp only[Bool.true_and];have hdup:∀n,n<(Je L i).2.2.length->aB (W1 (Je L i).2.2 n) 0 n=true:=by rw[<-aaZ _ _ _ (hw.at hi).2]at hc;unfold X2 at hc;simp only[Bool.and_eq_true]at hc;intro n hn;have:=(aQ _ _).1 hc.2.1.1 n (Nat.zero_le _) (by omega);unfold okS at this;simp only[Bool.and_eq_true]at this;exact this.1.2
  rw[Bool.eq_iff_iff,aQ,aQ];constructor
  ·intro h n _ hn;unfold Xb;rw[Bool.not_eq_true',Bool.and_eq_false_iff];cases hg:af .gtr (KD (Je L i).2.2 n).2.2.1 0 with
   |false=>exact .inl rfl
   |true=>
    refine .inr ?_;cases hm:ct (JK (JK [] (Ou L i)) (QW ((Je L i).2.2.take n))) (KD (Je L i).2.2 n).2.2.1 with
    |false=>rfl
    |true=>
     exfalso;rcases(Rn _ _ _).1 hm with hm|hm
     ·have:=(Rn _ _ _).1 hm;simp only[ct,Bool.false_eq_true,false_or]at this;obtain⟨k,hk,hp⟩:=(Xv (by omega) _).1 this;have:=h k (Nat.zero_le _) (by omega);have:=(aQ _ _).1 this n (Nat.zero_le _) hn;unfold Ti at this;rw[hg,YT.2 hp]at this;cases this
     ·have hd:=hdup n (by omega);rw[<-X3 (by omega),hg]at hd;have:ct (JK [] (QW ((Je L i).2.2.take n))) (KD (Je L i).2.2 n).2.2.1=true:=(Rn _ _ _).2 (.inr hm);rw[this]at hd;cases hd
  ·intro h k _ hk;rw[aQ];intro n _ hn;have:=h n (Nat.zero_le _) hn;unfold Xb at this;unfold Ti;rw[Bool.not_eq_true',Bool.and_eq_false_iff]at this⊢;rcases this with h1|h1
   ·exact .inl h1
   ·refine .inr ?_;cases hp:aai (Je L k).2.2 (KD (Je L i).2.2 n).2.2.1 with
    |false=>rfl
    |true=>have:ct (JK (JK [] (Ou L i)) (QW ((Je L i).2.2.take n))) (KD (Je L i).2.2 n).2.2.1=true:=(Rn _ _ _).2 (.inl ((Rn _ _ _).2 (.inr ((Xv (by omega) _).2 ⟨k,by omega,YT.1 hp⟩))));rw[this]at h1;cases h1
theorem YU(L:List Xe)(hw:U5 L):Pz L=some (Th L,()):=by rw[X8 L hw];unfold Th;rw[fR L.length 0 fun m _ hm=>Z8 L hw (by omega)]
end Go.Fn
set_option linter.unusedVariables false
set_option linter.unusedSimpArgs false
namespace Go.Fn
open Go.R
noncomputable def Sm{α:Type}(P:α->Prop)(x y:Option α):Prop:=∃r,x=some r/\y=some r/\P r
section
variable {α β:Type} {P:α->Prop} {Q:β->Prop}
theorem Sm.ret{a:α}(h:P a):Sm P (some a) (some a):=⟨a,rfl,rfl,h⟩
theorem Sm.bind{x y:Option α}{f g:α->Option β}(hx:Sm P x y)(h:∀r,P r->Sm Q (f r) (g r)):Sm Q (x.bind f) (y.bind g):=by obtain⟨r,rfl,rfl,hr⟩:=hx;exact h r hr
theorem Sm.cond{b:Bool}{x y x' y':Option α}(hx:b=true->Sm P x x')(hy:b=false->Sm P y y'):Sm P (bif b then x else y) (bif b then x' else y'):=by
 cases b
 ·exact hy rfl
 ·exact hx rfl
theorem Sm.guard{b c:Bool}{x y:Option α}(hb:b=true)(hc:c=true)(h:Sm P x y):Sm P (bif b then x else none) (bif c then y else none):=by subst hb hc;exact h
theorem Sm.mono{P':α->Prop}{x y:Option α}(h:Sm P x y)(hp:∀r,P r->P' r):Sm P' x y:=by obtain⟨r,e1,e2,hr⟩:=h;exact⟨r,e1,e2,hp r hr⟩
theorem Sm.symm{x y:Option α}(h:Sm P x y):Sm P y x:=by obtain⟨r,e1,e2,hr⟩:=h;exact⟨r,e2,e1,hr⟩
theorem WX{X Y:Type}{body body':X->Option (X⊕Y)}(Inv:X->Prop)(m:X->Nat){Q:Y->Prop}(h:∀x,Inv x->Sm (fun r=>match r with| .inl a=>Inv a/\m a<m x| .inr b=>Q b) (body x) (body' x)):∀(fu:Nat) (x:X),Inv x->m x<fu->Sm Q (iter body fu x) (iter body' fu x)
 |0,x,_,hm=>absurd hm (Nat.not_lt_zero _)
 |fu+1,x,hi,hm=>by
  obtain⟨r,e1,e2,hr⟩:=h x hi;cases r with
  |inl a=>rw[aH e1,aH e2];exact WX Inv m h fu a hr.1 (by have:=hr.2;omega)
  |inr b=>exact⟨b,ay e1,ay e2,hr⟩
end
theorem Sb {B Y:Type} {body body':B×Int×Unit->Option ((B×Int×Unit)⊕Y)} (len:Nat) (hlen:len<=1073741824) {Q:Y->Prop} (I:B->Prop)
  (hs:∀b n,n<len->I b->Sm (fun r=>match r with| .inl a=>I a.1/\a.2.1=((n+1:Nat):Int)| .inr y=>Q y) (body (b,(n:Int),())) (body' (b,(n:Int),()))) (he:∀b,I b->Sm (fun r=>match r with| .inl a=>False| .inr y=>Q y) (body (b,(len:Int),())) (body' (b,(len:Int),()))) (b:B) (hb:I b):Sm Q (iter body big (b,0,())) (iter body' big (b,0,())):=by
 refine WX (fun x=>I x.1/\0<=x.2.1/\x.2.1<=(len:Int)) (fun x=>((len:Int)-x.2.1).toNat) (fun x hx=>?_) big (b,0,()) ⟨hb,Int.le_refl _,by show(0:Int)<=(len:Int);omega⟩ (aT (by show((len:Int)-0).toNat<_;omega));obtain⟨b,i,u⟩:=x;obtain⟨h0,h1,h2⟩:=hx;have h1:0<=i:=h1;have h2:i<=(len:Int):=h2;obtain⟨n,rfl⟩:∃n:Nat,i=(n:Int):=⟨i.toNat,by omega⟩
 by_cases h:n<len
 ·refine(hs b n h h0).mono fun r hr=>?_;cases r with
  |inr y=>exact hr
  |inl a=>obtain⟨q1,q2⟩:=hr;refine⟨⟨q1,by rw[q2];omega,by rw[q2];omega⟩,?_⟩;show((len:Int)-a.2.1).toNat<((len:Int)-(n:Int)).toNat;rw[q2];omega
 ·have hn:n=len:=by omega
  subst hn;refine(he b h0).mono fun r hr=>?_;cases r with
  |inl a=>exact hr.elim
  |inr y=>exact hr
theorem Y5 {Y:Type} {body body':Int×Unit->Option ((Int×Unit)⊕Y)} (len:Nat) (hlen:len<=1073741824) (F:Nat->Prop) {Q:Y->Prop}
  (hs:∀n,n<len->Sm (fun r=>match r with| .inl a=>a.1=((n+1:Nat):Int)/\F n| .inr y=>Q y) (body ((n:Int),())) (body' ((n:Int),()))) (he:(∀n,n<len->F n)->Sm (fun r=>match r with| .inl a=>False| .inr y=>Q y) (body ((len:Int),())) (body' ((len:Int),()))):Sm Q (iter body big (0,())) (iter body' big (0,())):=by
 refine WX (fun x=>0<=x.1/\x.1<=(len:Int)/\∀m:Nat,(m:Int)<x.1->F m) (fun x=>((len:Int)-x.1).toNat) (fun x hx=>?_) big (0,()) ⟨Int.le_refl _,by show(0:Int)<=(len:Int);omega,fun m hm=>by have hm:(m:Int)<0:=hm;omega⟩ (aT (by show((len:Int)-0).toNat<_;omega));obtain⟨i,u⟩:=x;obtain⟨h1,h2,h3⟩:=hx;have h1:0<=i:=h1;have h2:i<=(len:Int):=h2;have h3:∀m:Nat,(m:Int)<i->F m:=h3;obtain⟨n,rfl⟩:∃n:Nat,i=(n:Int):=⟨i.toNat,by omega⟩
 by_cases h:n<len
 ·refine(hs n h).mono fun r hr=>?_;cases r with
  |inr y=>exact hr
  |inl a=>
   obtain⟨q2,q3⟩:a.1=((n+1:Nat):Int)/\F n:=hr;refine⟨⟨by rw[q2];omega,by rw[q2];omega,fun m hm=>?_⟩,?_⟩
   ·rw[q2]at hm;rcases Nat.lt_or_ge m n with hmn|hmn
    ·exact h3 m (by omega)
    ·rw[show m=n by omega];exact q3
   ·show((len:Int)-a.1).toNat<((len:Int)-(n:Int)).toNat;rw[q2];omega
 ·have hn:n=len:=by omega
  subst hn;refine(he fun m hm=>h3 m (by omega)).mono fun r hr=>?_;cases r with
  |inl a=>exact hr.elim
  |inr y=>exact hr
abbrev Any{α:Type}:α->Prop:=fun _=>True
theorem ZZ{α:Type}{x y:Option α}{a:α}(h1:x=some a)(h2:y=some a):Sm (fun r=>r=a) x y:=⟨a,h1,h2,rfl⟩
theorem Wi(a lo hi:Int):Sm (fun r=>r=(M4 a lo hi,())) (qe a lo hi) (qx a lo hi):=ZZ (PX a lo hi) (K2 a lo hi)
theorem aa1:∀(k:Fin 3) (t:Fin 7) (a b c:Bool),PA ((k.val:Nat):Int) ((t.val:Nat):Int) a b c=Oi ((k.val:Nat):Int) ((t.val:Nat):Int) a b c/\(Oi ((k.val:Nat):Int) ((t.val:Nat):Int) a b c).isSome=true:=by decide +kernel
theorem abG(k t:Int)(a b c:Bool):Sm (fun r=>r.1=true->0<=k/\k<=2) (PA k t a b c) (Oi k t a b c):=by
 cases hk:M4 k 0 2 with
 |false=>
  refine⟨(false,()),?_,?_,fun h=>by cases h⟩
  ·unfold PA;rw[PX,hk];rfl
  ·unfold Oi;rw[K2,hk];rfl
 |true=>
  obtain⟨h1,h2⟩:=K3.1 hk;cases ht:M4 t 0 6 with
  |false=>
   refine⟨(false,()),?_,?_,fun h=>by cases h⟩
   ·unfold PA;rw[PX,hk,PX,ht];rfl
   ·unfold Oi;rw[K2,hk,K2,ht];rfl
  |true=>obtain⟨h3,h4⟩:=K3.1 ht;have:=aa1 ⟨k.toNat,by omega⟩ ⟨t.toNat,by omega⟩ a b c;simp only[Int.toNat_of_nonneg h1,Int.toNat_of_nonneg h3]at this;obtain⟨r,hr⟩:=Option.isSome_iff_exists.1 this.2;exact⟨r,this.1.trans hr,hr,fun _=>⟨h1,h2⟩⟩
theorem abU(a b c d e:Int):Sm Any (TL a b c d e) (Tl a b c d e):=by unfold TL Tl M6 Nr;simp only[PX,K2,Option.bind_some];cases M4 a 1 2147483646 <;> cases M4 b 0 1000001 <;> cases M4 c 0 2 <;> cases M4 d 0 6 <;> exact .ret trivial
theorem aa5(a b c d e f:Int)(o:Bool):Sm Any (Qq a b c d e f o) (OC a b c d e f o):=by unfold Qq OC MH L5 R7 LV;simp only[PX,K2,Option.bind_some];cases M4 a 1 40 <;> cases M4 b 1 40 <;> cases af .neq a b <;> cases M4 c 0 999 <;> cases M4 d 0 5 <;> cases M4 e 0 20000 <;> cases M4 f 0 20000 <;> exact .ret trivial
noncomputable def grV(x:Grt):Bool:=match OC x.1 x.2.1 x.2.2.1 x.2.2.2.1 x.2.2.2.2.1 x.2.2.2.2.2.1 x.2.2.2.2.2.2 with|some r=>r.1|none=>false
theorem aa4(x:Grt):Qq x.1 x.2.1 x.2.2.1 x.2.2.2.1 x.2.2.2.2.1 x.2.2.2.2.2.1 x.2.2.2.2.2.2=some (grV x,())/\OC x.1 x.2.1 x.2.2.1 x.2.2.2.1 x.2.2.2.2.1 x.2.2.2.2.2.1 x.2.2.2.2.2.2=some (grV x,()):=by
 obtain⟨r,e1,e2,_⟩:=aa5 x.1 x.2.1 x.2.2.1 x.2.2.2.1 x.2.2.2.2.1 x.2.2.2.2.2.1 x.2.2.2.2.2.2;have:grV x=r.1:=by unfold grV;rw[e2]
 rw[this];exact⟨e1,e2⟩
theorem aaf(g:List Grt)(hg:g.length<=1073741824):Sm Any (Rd g) (Q6 g):=by
 unfold Rd Q6 Jh Jy;have hs:Q1 (g,()) (0,())=some (bif aB (fun n=>grV (g.getD n Pf)) 0 g.length then(Sum.inr (Sum.inl ()):Bool×Unit⊕(Unit⊕Empty))else .inl (false,())):=by
  refine bp (fun n=>((n:Int),())) g.length (by omega) _ _ _ (fun n hn=>?_) ?_
  ·unfold Q0;simp only[aj,az,hn,decide_true,cond_true,aq,(aa4 _).1,Option.bind_some,av (n:=n) (by omega)];cases grV (g.getD n Pf) <;> rfl
  ·unfold Q0;simp only[aj,Nat.lt_irrefl,decide_false,cond_false]
 obtain⟨y,h1,h2⟩:=fP (body:=It (g,ai g,())) (fun n=>((n:Int),())) g.length (by omega) (fun n=>grV (g.getD n Pf)) (Sum.inr (Sum.inl ())) (fun n=>Sum.inl ((n:Int),())) (fun n hn=>by
  unfold It Rs;simp only[aj,az,hn,decide_true,cond_true,aq,(aa4 _).2,Option.bind_some,av (n:=n) (by omega)];cases grV (g.getD n Pf) <;> rfl) (by
  unfold It;simp only[aj,Nat.lt_irrefl,decide_false,cond_false])
 have h1':Ji (g,ai g,()) ((0:Int),())=some y:=h1;rw[hs,h1'];have hle:af .leq (ai g) (30:Int)=Bool.not (af .gtr (ai g) 30):=abS _ _;rw[hle];cases af .gtr (ai g) (30:Int)with
 |true=>exact .ret trivial
 |false=>
  simp only[Bool.not_false,cond_true,cond_false];rcases h2 with ⟨e1,rfl⟩|⟨e1,n,hn,rfl,_⟩
  ·rw[e1];exact⟨(true,()),rfl,rfl,trivial⟩
  ·rw[e1];have h0:af .geq (n:Int) 0=true:=by simp[af]
   refine⟨(false,()),rfl,?_,trivial⟩;show some (Bool.not (af .geq (n:Int) 0),())=_;rw[h0];rfl
section
variable (a0 a1 a2 a3 a4 a5 a6 a7 a8 a9 a10:Int) (s:List Site) (p:List Prc) (g:List Grt) (j:List Ev)
theorem XP{x:Site}(h:SJ 1073741824 x):U5 x.2.2.1:=⟨h.b,fun c hc=>by obtain⟨n,hn,rfl⟩:=List.mem_iff_getElem.1 hc;have:=h.bs n hn;rw[List.getD_eq_getElem?_getD,List.getElem?_eq_getElem hn]at this;exact this⟩
theorem acg(o c:List U6):Sm Any (Ov o c) (Ol o c):=⟨_,Vm o c,U9 o c,trivial⟩
theorem abC{L:List Xe}(h:U5 L):Sm (fun r=>r.1=true->Th L=true) (Rq L) (Pz L):=⟨_,Y9 L h,YU L h,fun h=>h⟩
theorem Zu(l:List Ev):Sm Any (Ld l) (Lb l):=⟨_,Rp l,Rl l,trivial⟩
theorem ab8(k:Nat)(hk:k<s.length)(hs:SJ 1073741824 (s.getD k L3))(hp:p.length<=1048576):Sm (fun r=>r.1=true->Th (s.getD k L3).2.2.1=true) (QF a0 a1 a2 a3 a4 a5 a6 a7 a8 a9 a10 s p g j (k:Int)) (Tr a0 a1 a2 a3 a4 a5 a6 a7 a8 a9 a10 s p g j (k:Int)):=by
 unfold QF Tr;refine .guard (cV hk) (cV hk) ?_;simp only[aq];have hz:s.getD k b7=s.getD k L3:=rfl;rw[hz];generalize s.getD k L3=x at hs;have no:∀ {Q:Prop},((false:Bool),()).1=true->Q:=fun h=>by cases h
 refine(acg x.1 x.2.1).bind fun r _=>.cond (fun _=>.ret no) fun _=>?_;refine(abC (XP hs)).bind fun r hr=>.cond (fun _=>.ret no) fun hb=>?_;have B8:Th x.2.2.1=true:=hr (by cases h:r.1 with|true=>rfl|false=>rw[h]at hb;cases hb);refine(abG x.2.2.2.1 x.2.2.2.2.1 x.2.2.2.2.2.1 x.2.2.2.2.2.2.1 x.2.2.2.2.2.2.2.1).bind fun r hr=>.cond (fun _=>.ret no) fun hb=>?_;have afp:=hr (by cases h:r.1 with|true=>rfl|false=>rw[h]at hb;cases hb);refine(Zu x.2.2.2.2.2.2.2.2.2.2).bind fun r _=>.cond (fun _=>.ret no) fun _=>?_;refine .cond (fun _=>?_) fun _=>?_
 ·simp only[aV];exact .cond (fun _=>.ret fun _=>B8) fun _=>.ret no
 ·refine(Wi x.2.2.2.2.2.2.2.2.1 1 (ai p)).bind fun r hr=>.cond (fun _=>.ret no) fun hb=>?_;subst hr;have hin:M4 x.2.2.2.2.2.2.2.2.1 1 (ai p)=true:=by cases h:M4 x.2.2.2.2.2.2.2.2.1 1 (ai p)with|true=>rfl|false=>rw[h]at hb;cases hb
  obtain⟨i1,i2⟩:=K3.1 hin;unfold ai at i2;have hsub:aa .sub .i64 x.2.2.2.2.2.2.2.2.1 1=x.2.2.2.2.2.2.2.2.1-1:=bO (by omega) (by omega);rw[hsub];have hr:ah p (x.2.2.2.2.2.2.2.2.1-1)=true:=Uu (by omega) (by omega);rw[hr];simp only[cond_true];refine .cond (fun _=>.ret no) fun _=>.cond (fun _=>.ret no) fun _=>?_;obtain⟨k1,k2⟩:=afp;unfold qe L5;simp only[K2];have hc:x.2.2.2.1=0\/x.2.2.2.1=1\/x.2.2.2.1=2:=by omega
  rcases hc with hc|hc|hc <;> rw[hc]
  ·exact .ret no
  ·show Sm _ (bif af .eql x.2.2.2.2.2.2.2.2.2.1 0 then _ else _) (bif af .eql x.2.2.2.2.2.2.2.2.2.1 0 then _ else _);cases af .eql x.2.2.2.2.2.2.2.2.2.1 0 with
   |true=>exact .ret fun _=>B8
   |false=>exact .ret no
  ·show Sm _ (qe x.2.2.2.2.2.2.2.2.2.1 0 40 |>.bind _) (bif af .eql x.2.2.2.2.2.2.2.2.2.1 0 then _ else(some (M4 x.2.2.2.2.2.2.2.2.2.1 1 40,())).bind fun y=>some (y.1,()));rw[PX];cases hq:af .eql x.2.2.2.2.2.2.2.2.2.1 0 with
   |true=>have:x.2.2.2.2.2.2.2.2.2.1=0:=XG.1 hq;rw[this];exact⟨(true,()),rfl,rfl,fun _=>B8⟩
   |false=>
    have h0:x.2.2.2.2.2.2.2.2.2.1≠0:=fun e=>by rw[XG.2 e]at hq;cases hq
    have:M4 x.2.2.2.2.2.2.2.2.2.1 0 40=M4 x.2.2.2.2.2.2.2.2.2.1 1 40:=by rw[Bool.eq_iff_iff,K3,K3];omega
    rw[this];exact⟨_,rfl,rfl,fun _=>B8⟩
theorem XV(a:Int):Sm Any (MH a) (L5 a):=by unfold MH L5;rw[PX,K2];exact .ret trivial
theorem aay(n:Int):Sm Any (Pe a0 a1 a2 a3 a4 a5 a6 a7 a8 a9 a10 s p g j n) (O4 a0 a1 a2 a3 a4 a5 a6 a7 a8 a9 a10 s p g j n):=by obtain⟨y,e1,e2⟩:=aax a0 a1 a2 a3 a4 a5 a6 a7 a8 a9 a10 s p g j n;exact⟨_,e1,e2,trivial⟩
theorem Vp(x:Prc)(k:Nat)(hk:k<p.length)(hx:p.getD k qk=x)(h0:0<=x.2.2.1)(h1:x.2.2.1<s.length):Sm Any (MZ a0 a1 a2 a3 a4 a5 a6 a7 a8 a9 a10 s p g j (k:Int)) (Nh a0 a1 a2 a3 a4 a5 a6 a7 a8 a9 a10 s p g j x.1 x.2.1 x.2.2.1 x.2.2.2.1 x.2.2.2.2.1 x.2.2.2.2.2.1 x.2.2.2.2.2.2.1 x.2.2.2.2.2.2.2.1 x.2.2.2.2.2.2.2.2.1 x.2.2.2.2.2.2.2.2.2.1 x.2.2.2.2.2.2.2.2.2.2.1 x.2.2.2.2.2.2.2.2.2.2.2.1 x.2.2.2.2.2.2.2.2.2.2.2.2):=by unfold MZ Nh;rw[cV hk,aq,hx,Uu h0 h1];simp only[cond_true];exact .cond (fun _=>.ret trivial) fun _=>.cond (fun _=>.ret trivial) fun _=>.cond (fun _=>.ret trivial) fun _=>.ret trivial
theorem aav(k:Nat)(hk:k<p.length)(hs:s.length<=1048576):Sm (fun r=>r.1=true->0<=(p.getD k qk).2.2.1/\(p.getD k qk).2.2.1<s.length) (OV a0 a1 a2 a3 a4 a5 a6 a7 a8 a9 a10 s p g j (k:Int)) (Q8 a0 a1 a2 a3 a4 a5 a6 a7 a8 a9 a10 s p g j (k:Int)):=by
 unfold OV Q8;refine .guard (cV hk) (cV hk) ?_;simp only[aq];generalize hx:p.getD k qk=x;have no:∀ {Q:Prop},((false:Bool),()).1=true->Q:=fun h=>by cases h
 refine(Wi x.1 1 24).bind fun r _=>.cond (fun _=>.ret no) fun _=>?_;refine(XV x.2.1).bind fun r _=>.cond (fun _=>.ret no) fun _=>?_;refine(Wi x.2.2.1 0 (aa .sub .i64 (ai s) 1)).bind fun r hr=>.cond (fun _=>.ret no) fun hb=>?_;subst hr;have hin:M4 x.2.2.1 0 (aa .sub .i64 (ai s) 1)=true:=by cases h:M4 x.2.2.1 0 (aa .sub .i64 (ai s) 1)with|true=>rfl|false=>rw[h]at hb;cases hb
 obtain⟨i1,i2⟩:=K3.1 hin;rw[bO (by unfold ai;omega) (by unfold ai;omega)]at i2;have i2:x.2.2.1<s.length:=by unfold ai at i2;omega
 have yes:∀ {b:Bool},b=true->0<=x.2.2.1/\x.2.2.1<s.length:=fun _=>⟨i1,i2⟩
 refine(Wi x.2.2.2.1 0 5).bind fun r _=>.cond (fun _=>.ret no) fun _=>?_;refine .cond (fun _=>.guard (Uu i1 i2) (Uu i1 i2) (.cond (fun _=>.ret no) fun _=>?_)) fun _=>?_;all_goals
  refine(Vp a0 a1 a2 a3 a4 a5 a6 a7 a8 a9 a10 s p g j x k hk hx i1 i2).bind fun r _=>.cond (fun _=>?_) fun _=>?_
  ·refine .cond (fun _=>.cond (fun _=>.cond (fun _=>.cond (fun _=>?_) fun _=>.ret no) fun _=>.ret no) fun _=>.ret no) fun _=>.ret no;simp only[aV];exact .ret yes
  ·refine(Wi x.2.2.2.2.1 0 a10).bind fun r _=>.cond (fun _=>.ret no) fun _=>?_;refine(Wi x.2.2.2.2.2.1 0 a7).bind fun r _=>.cond (fun _=>.ret no) fun _=>?_;refine(abU x.2.2.2.2.2.2.1 x.2.2.2.2.2.2.2.1 x.2.2.2.2.2.2.2.2.1 x.2.2.2.2.2.2.2.2.2.1 x.2.2.2.2.2.2.2.2.2.2.1).bind fun r _=>.cond (fun _=>.ret no) fun _=>?_;refine(aay a0 a1 a2 a3 a4 a5 a6 a7 a8 a9 a10 s p g j (aa .add .i64 (k:Int) 1)).bind fun r _=>.cond (fun _=>.ret no) fun _=>?_;refine .cond (fun _=>?_) fun _=>?_
   ·refine(XV x.2.2.2.2.2.2.2.2.2.2.2.1).bind fun r _=>.cond (fun _=>?_) fun _=>.ret no;exact(Wi x.2.2.2.2.2.2.2.2.2.2.2.2 0 (aa .add .i64 a4 (aa .mul .i64 a6 a7))).bind fun r _=>.ret yes
   ·exact .cond (fun _=>.ret yes) fun _=>.ret no
theorem abT(hp:p.length<=1048576)(hs:∀k,k<p.length->0<=(p.getD k qk).2.2.1/\(p.getD k qk).2.2.1<s.length):Sm Any (R8 a0 a1 a2 a3 a4 a5 a6 a7 a8 a9 a10 s p g j) (Tp a0 a1 a2 a3 a4 a5 a6 a7 a8 a9 a10 s p g j):=by
 unfold R8 Tp;refine(Sb (B:=Int) (Q:=Any) p.length (by omega) (fun _=>True) (fun b n hn _=>?_) (fun b _=>?_) (0:Int) trivial).bind fun q _=>?_
 ·unfold RN SD;simp only[aj,az,hn,decide_true,cond_true,aq,av (n:=n) (by omega)];obtain⟨h0,h1⟩:=hs n hn;refine .cond (fun _=>?_) fun _=>.ret ⟨trivial,rfl⟩;refine(Vp a0 a1 a2 a3 a4 a5 a6 a7 a8 a9 a10 s p g j (p.getD n qk) n hn rfl h0 h1).bind fun r _=>.cond (fun _=>.ret ⟨trivial,rfl⟩) fun _=>.ret ⟨trivial,rfl⟩
 ·unfold RN SD;simp only[aj,Nat.lt_irrefl,decide_false,cond_false];exact .ret trivial
 ·cases q with
  |inl y=>exact .ret trivial
  |inr e=>exact e.elim
theorem acM(k i:Int)(acJ:List Xe)(l:List Bx)(hl:l.length<=1073741824)(xP:∀n,n<l.length->0<=(l.getD n Na).2.2.1/\(l.getD n Na).2.2.1<=999)(hp:p.length<=1048576)(c:Int):
  Sm Any (Pw (a0,a1,a2,a3,a4,a5,a6,a7,a8,a9,a10,s,p,g,j,k,i,l,()) (c,0,())) (RB (a0,a1,a2,a3,a4,a5,a6,a7,a8,a9,a10,s,p,g,j,k,s,ai s,k,acJ,ai acJ,i,l,ai l,()) (c,0,())):=by
 refine Sb (B:=Int) (Q:=Any) l.length (by omega) (fun _=>True) (fun b n hn _=>?_) (fun b _=>?_) c trivial
 ·unfold Pt Ry;obtain⟨h0,h9⟩:=xP n hn;revert h0 h9;simp only[aj,az,hn,decide_true,cond_true,aq,av (n:=n) (by omega),K2,Option.bind_some,aV];generalize l.getD n Na=x;intro h0 h9;refine .cond (fun _=>.ret ⟨trivial,rfl⟩) fun hz=>?_;have hz:¬x.2.2.1=0:=fun e=>by rw[XG.2 e]at hz;cases hz
  have hb:Bool.not (M4 x.2.2.1 1 (ai p))=af .gtr x.2.2.1 (ai p):=by
   cases hq:af .gtr x.2.2.1 (ai p)with
   |true=>
    have:=aeX.1 hq;have:M4 x.2.2.1 1 (ai p)=false:=by rw[Bool.eq_false_iff,ne_eq,K3];omega
    rw[this];rfl
   |false=>have:=aa6.1 hq;have:M4 x.2.2.1 1 (ai p)=true:=K3.2 ⟨by omega,by omega⟩;rw[this];rfl
  rw[hb];refine .cond (fun _=>.ret trivial) fun hg=>?_;have hg:=aa6.1 hg;unfold ai at hg;rw[bO (by omega) (by omega)];refine .guard (Uu (by omega) (by omega)) (Uu (by omega) (by omega)) ?_;generalize ae qk p (x.2.2.1-1)=y;cases af .neq y.2.2.1 k <;> cases af .neq y.1 x.2.1 <;> cases af .neq y.2.2.2.1 2 <;> cases af .neq y.2.2.2.1 3 <;> cases af .eql y.2.2.2.1 2 <;> cases x.2.2.2 <;> first|exact .ret trivial|exact .ret ⟨trivial,rfl⟩
 ·unfold Pt Ry;simp only[aj,Nat.lt_irrefl,decide_false,cond_false];exact .ret trivial
theorem acL(k:Nat)(hk:k<s.length)(hs:SJ 1073741824 (s.getD k L3))(hb:Th (s.getD k L3).2.2.1=true)(hp:p.length<=1048576)(c:Int):
  Sm Any (Pv (a0,a1,a2,a3,a4,a5,a6,a7,a8,a9,a10,s,p,g,j,(k:Int),()) (c,0,())) (RA (a0,a1,a2,a3,a4,a5,a6,a7,a8,a9,a10,s,p,g,j,(k:Int),s,ai s,(k:Int),(s.getD k L3).2.2.1,ai (s.getD k L3).2.2.1,()) (c,0,())):=by
 have hw:=XP hs;refine Sb (B:=Int) (Q:=Any) (s.getD k L3).2.2.1.length (by have:=hw.1;omega) (fun _=>True) (fun b n hn _=>?_) (fun b _=>?_) c trivial
 ·unfold Ps Rx;have hz:s.getD k b7=s.getD k L3:=rfl;simp only[az,hk,decide_true,cond_true,aq,hz,aj,hn,av (n:=n) (by have:=hw.1;omega)];refine(acM a0 a1 a2 a3 a4 a5 a6 a7 a8 a9 a10 s p g j (k:Int) (n:Int) (s.getD k L3).2.2.1 (Je (s.getD k L3).2.2.1 n).2.2 (hw.at hn).2 (fun m hm=>?_) hp b).bind fun q _=>?_
  ·unfold Th at hb;rw[Bool.and_eq_true]at hb;have:=(aQ _ _).1 hb.2 n (Nat.zero_le _) (by omega);unfold Ur X2 at this;simp only[Bool.and_eq_true]at this;have:=(aQ _ _).1 this.1.2.1.1 m (Nat.zero_le _) (by omega);unfold okS at this;simp only[Bool.and_eq_true]at this;exact K3.1 this.1.1.2
  ·cases q with
   |inl y=>exact .ret trivial
   |inr q=>
    cases q with
    |inl y=>exact .ret ⟨trivial,rfl⟩
    |inr e=>exact e.elim
 ·unfold Ps Rx;have hz:s.getD k b7=s.getD k L3:=rfl;simp only[az,hk,decide_true,cond_true,aq,hz,aj,Nat.lt_irrefl,decide_false,cond_false];exact .ret trivial
theorem aaV(hle:Xu s p g j)(hb:∀k,k<s.length->Th (s.getD k L3).2.2.1=true):Sm Any (Po a0 a1 a2 a3 a4 a5 a6 a7 a8 a9 a10 s p g j) (RX a0 a1 a2 a3 a4 a5 a6 a7 a8 a9 a10 s p g j):=by
 have hls:=hle.ls;have hlp:=hle.lp;unfold Po RX;refine(Sb (B:=Int) (Q:=Any) s.length (by omega) (fun _=>True) (fun b n hn _=>?_) (fun b _=>?_) (0:Int) trivial).bind fun q _=>?_
 ·unfold Pr Rw;have hz:∀n,s.getD n b7=s.getD n L3:=fun _=>rfl;simp only[aj,az,hn,decide_true,cond_true,aq,av (n:=n) (by omega),hz];refine(acL a0 a1 a2 a3 a4 a5 a6 a7 a8 a9 a10 s p g j n hn (hle.ss n hn) (hb n hn) hlp b).bind fun q _=>?_;cases q with
  |inl y=>exact .ret trivial
  |inr q=>
   cases q with
   |inl y=>exact .ret ⟨trivial,rfl⟩
   |inr e=>exact e.elim
 ·unfold Pr Rw;simp only[aj,Nat.lt_irrefl,decide_false,cond_false];exact .ret trivial
 ·cases q with
  |inl y=>exact .ret trivial
  |inr q=>
   cases q with
   |inr e=>exact e.elim
   |inl y=>
    refine(Sb (B:=Int) (Q:=Any) p.length (by omega) (fun _=>True) (fun b n hn _=>?_) (fun b _=>?_) y.1 trivial).bind fun q _=>?_
    ·unfold Pu Rz;simp only[aj,az,hn,decide_true,cond_true,aq,av (n:=n) (by omega)];exact .cond (fun _=>.ret ⟨trivial,rfl⟩) fun _=>.cond (fun _=>.ret ⟨trivial,rfl⟩) fun _=>.ret ⟨trivial,rfl⟩
    ·unfold Pu Rz;simp only[aj,Nat.lt_irrefl,decide_false,cond_false];exact .ret trivial
    ·cases q with
     |inl y=>exact .ret trivial
     |inr e=>exact e.elim
structure adt:Prop where
 ajm:Rg a0 a1 a2 a3 a4 a5 a6 a7=true
 room:0<=a8/\a8<=1000
 ag1:1<=a9/\a9<=2147483646
 now:0<=a10/\a10<=20000
 sites:1<=s.length/\s.length<=3
 QW:p.length<=12
 jr:QH j=true
 acJ:∀n,n<s.length->Th (s.getD n L3).2.2.1=true
 nY:∀n,n<p.length->0<=(p.getD n qk).2.2.1/\(p.getD n qk).2.2.1<s.length
theorem aar(hle:Xu s p g j):Sm (fun r=>r.1=true->adt a0 a1 a2 a3 a4 a5 a6 a7 a8 a9 a10 s p j) (Qt a0 a1 a2 a3 a4 a5 a6 a7 a8 a9 a10 s p g j) (PN a0 a1 a2 a3 a4 a5 a6 a7 a8 a9 a10 s p g j):=by
 have hls:=hle.ls;have hlp:=hle.lp;have hlg:=hle.lg;unfold Qt PN;have no:∀ {Q:Prop},((false:Bool),()).1=true->Q:=fun h=>by cases h
 have tr:∀ {b:Bool},Bool.not b=false->b=true:=fun {b} h=>by cases b with|true=>rfl|false=>cases h
 refine(ZZ (WE ..) (Wh ..)).bind fun r hr=>.cond (fun _=>.ret no) fun f1=>?_;subst hr;refine(Wi a8 0 1000).bind fun r hr=>.cond (fun _=>.ret no) fun f2=>?_;subst hr;refine Sm.bind (P:=fun r=>r=(M4 a9 1 2147483646,())) (by unfold M6 Nr;rw[PX,K2];exact .ret rfl) fun r hr=>.cond (fun _=>.ret no) fun f3=>?_;subst hr;refine(ZZ (PX a10 0 20000) (Vw a10)).bind fun r hr=>.cond (fun _=>.ret no) fun f4=>?_;subst hr;refine(Wi (ai s) 1 3).bind fun r hr=>.cond (fun _=>.ret no) fun f5=>.cond (fun _=>.ret no) fun f6=>?_;subst hr;refine(aaf g (by omega)).bind fun r _=>.cond (fun _=>.ret no) fun _=>?_;refine(ZZ (Rp j) (Rl j)).bind fun r hr=>.cond (fun _=>.ret no) fun f7=>?_;subst hr;refine(Y5 s.length (by omega) (fun n=>Th (s.getD n L3).2.2.1=true) (Q:=fun y=>match y with| .inl y=>y.1=false| .inr _=>∀n,n<s.length->Th (s.getD n L3).2.2.1=true) (fun n hn=>?_) (fun hF=>?_)).bind fun q hq=>?_
 ·unfold Qu PO;simp only[aj,hn,decide_true,cond_true,av (n:=n) (by omega)];refine(ab8 a0 a1 a2 a3 a4 a5 a6 a7 a8 a9 a10 s p g j n hn (hle.ss n hn) hlp).bind fun r hr=>.cond (fun _=>.ret rfl) fun hb=>.ret ⟨rfl,hr ?_⟩;cases h:r.1 with|true=>rfl|false=>rw[h]at hb;cases hb
 ·unfold Qu PO;simp only[aj,Nat.lt_irrefl,decide_false,cond_false];exact .ret hF
 ·cases q with
  |inl y=>exact .ret fun h=>by have hq:y.1=false:=hq;rw[hq]at h;cases h
  |inr q=>
   cases q with
   |inr e=>exact e.elim
   |inl y=>
    have acr:∀n,n<s.length->Th (s.getD n L3).2.2.1=true:=hq;refine(Y5 p.length (by omega) (fun n=>0<=(p.getD n qk).2.2.1/\(p.getD n qk).2.2.1<s.length) (Q:=fun y=>match y with| .inl y=>y.1=false| .inr _=>∀n,n<p.length->0<=(p.getD n qk).2.2.1/\(p.getD n qk).2.2.1<s.length) (fun n hn=>?_) (fun hF=>?_)).bind fun q hq=>?_
    ·unfold Qv PP;simp only[aj,hn,decide_true,cond_true,av (n:=n) (by omega)];refine(aav a0 a1 a2 a3 a4 a5 a6 a7 a8 a9 a10 s p g j n hn hls).bind fun r hr=>.cond (fun _=>.ret rfl) fun hb=>.ret ⟨rfl,hr ?_⟩;cases h:r.1 with|true=>rfl|false=>rw[h]at hb;cases hb
    ·unfold Qv PP;simp only[aj,Nat.lt_irrefl,decide_false,cond_false];exact .ret hF
    ·cases q with
     |inl y=>exact .ret fun h=>by have hq:y.1=false:=hq;rw[hq]at h;cases h
     |inr q=>
      cases q with
      |inr e=>exact e.elim
      |inl y=>
       refine(aaV a0 a1 a2 a3 a4 a5 a6 a7 a8 a9 a10 s p g j hle acr).bind fun r _=>.cond (fun _=>?_) fun _=>.ret no;have i5:=K3.1 (tr f5);have i6:¬(ai p>(12:Int)):=of_decide_eq_false f6;refine(abT a0 a1 a2 a3 a4 a5 a6 a7 a8 a9 a10 s p g j hlp hq).bind fun r _=>.ret fun _=>⟨tr f1,K3.1 (tr f2),K3.1 (tr f3),K3.1 (tr f4),?_,?_,tr f7,acr,hq⟩
       ·unfold ai at i5;omega
       ·unfold ai at i6;omega
end
end Go.Fn
set_option linter.unusedVariables false
set_option linter.unusedSimpArgs false
namespace Go.Fn
open Go.R
noncomputable def k3(k:Int):Bool:=af .eql (aa .rem .i64 k 3) 0
theorem cF{β:Type}{b:Bool}{x y:β}(h:b=false):(bif b then x else y)=y:=by rw[h];rfl
theorem aeT{α β:Type}{x:Option α}{r:α}{f:α->Option β}(h:x=some r):x.bind f=f r:=by rw[h];rfl
end Go.Fn
set_option linter.unusedVariables false
set_option linter.unusedSimpArgs false
namespace Go.Fn
open Go.R
abbrev Wk:=List U6×List U6
end Go.Fn
set_option linter.unusedVariables false
namespace Go.Fn
open Go.R
noncomputable def O0(a:YaM)(b:Uq):YbT:=letI c:=a.2.2.2.2.2.2.2.2.2.2.2.1;cond (af .lss b.2.1 (ai c)) (cond (ah c b.2.1) ((NU b.1 (ae b7 c b.2.1).2.2.2.2.2.2.2.2.2.2).bind fun d=>cond (Bool.not d.2.1) (some (.inr (.inl (([]:MA),false,())))) (some (.inl (d.1,aa .add .i64 b.2.1 1,())))) none) (some (.inr (.inr (.inl (b.1,())))))
noncomputable def RV k x:=iter (O0 k) big x
noncomputable def OU(a b c d e f g h i j k:Int)(l:SY)(m:SX)(n:SW)(o:MA):YbK:=cond (aE (List.append (α:=NW) ([]:MA) o)) ((RV (a,b,c,d,e,f,g,h,i,j,k,l,m,n,o,()) (List.append (α:=NW) ([]:MA) o,0,())).bind fun p=>Sum.elim (fun q=>some (q.1,q.2.1,())) (fun q=>Sum.elim (fun r=>some (r.1,true,())) (fun r=>Empty.elim r) q) p) none
noncomputable def OP(a b c d e f g h i j k:Int)(l:SY)(m:SX)(n:SW)(o:MA):YbK:=(Qt a b c d e f g h i j k l m n o).bind fun p=>cond (Bool.not p.1) (some (([]:MA),false,())) ((OU a b c d e f g h i j k l m n o).bind fun q=>some (q.1,q.2.1,()))
noncomputable def SE(a:SY×Px)(b:Uq):YbT:=cond (af .lss b.2.1 a.2.1) (cond (ah a.1 b.2.1) ((NS b.1 (ae b7 a.1 b.2.1).2.2.2.2.2.2.2.2.2.2).bind fun c=>cond (Bool.not c.2.1) (some (.inr (.inl (([]:MA),false,())))) (some (.inl (c.1,aa .add .i64 b.2.1 1,())))) none) (some (.inr (.inr (.inl (b.1,())))))
noncomputable def Vb k x:=iter (SE k) big x
noncomputable def Tq(a b c d e f g h i j k:Int)(l:SY)(m:SX)(n:SW)(o:MA):YbK:=(JP o).bind fun p=>(Vb (l,ai l,()) (p.1,0,())).bind fun q=>Sum.elim (fun r=>some (r.1,r.2.1,())) (fun r=>Sum.elim (fun s=>some (s.1,true,())) (fun s=>Empty.elim s) r) q
noncomputable def OA(a b c d e f g h i j k:Int)(l:SY)(m:SX)(n:SW)(o:MA):YbK:=(PN a b c d e f g h i j k l m n o).bind fun p=>cond (Bool.not p.1) (some (([]:MA),false,())) ((Tq a b c d e f g h i j k l m n o).bind fun q=>some (q.1,q.2.1,()))
end Go.Fn
set_option linter.unusedVariables false
set_option linter.unusedSimpArgs false
namespace Go.Fn
open Go.R
section
variable (a0 a1 a2 a3 a4 a5 a6 a7 a8 a9 a10:Int) (s:List Site) (p:List Prc) (g:List Grt) (j:List Ev)
theorem YY(hj:j.length<=1048576)(hs:s.length<=1048576):Sm (fun r=>r.1.length<=1048576/\(QH j=true->r.2.1=true->QH r.1=true)) (OU a0 a1 a2 a3 a4 a5 a6 a7 a8 a9 a10 s p g j) (Tq a0 a1 a2 a3 a4 a5 a6 a7 a8 a9 a10 s p g j):=by
 unfold OU Tq;rw[show aE (List.append (α:=Ev) ([]:List Ev) j)=true from Pc (by show j.length<=_;omega),XQ j (by omega)];refine(Sb (Y:=List Ev×Bool×Unit⊕(List Ev×Unit⊕Empty)) s.length (by omega) (Q:=fun y=>match y with| .inl y=>y.1.length<=1048576/\y.2.1=false| .inr (.inl y)=>y.1.length<=1048576/\(QH j=true->QH y.1=true)| .inr (.inr _)=>True) (fun l:List Ev=>l.length<=1048576/\(QH j=true->QH l=true)) (fun l n hn hI=>?_) (fun l hI=>?_) j ⟨hj,id⟩).bind fun q hq=>?_
 ·unfold O0 SE;simp only[aj,az,hn,decide_true,cond_true,av (n:=n) (by omega),Yn,Yb,Option.bind_some];refine .cond (fun _=>.ret ⟨Nat.zero_le _,rfl⟩) fun hb=>.ret ⟨⟨?_,fun _=>?_⟩,rfl⟩
  ·have:=Zx l (ae b7 s (n:Int)).2.2.2.2.2.2.2.2.2.2;show(OZ l _).1.length<=_;omega
  ·refine(YZ (?_:(OZ l (ae b7 s (n:Int)).2.2.2.2.2.2.2.2.2.2).2=true)).2.2.1;have hb:Bool.not (OZ l (ae b7 s (n:Int)).2.2.2.2.2.2.2.2.2.2).2=false:=hb;rwa[Bool.not_eq_false']at hb
 ·unfold O0 SE;simp only[aj,Nat.lt_irrefl,decide_false,cond_false];exact .ret hI
 ·cases q with
  |inl y=>obtain⟨h1,h2⟩:=hq;exact .ret ⟨h1,fun _ h=>by rw[h2]at h;cases h⟩
  |inr q=>
   cases q with
   |inr e=>exact e.elim
   |inl y=>exact .ret ⟨hq.1,fun h _=>hq.2 h⟩
theorem aeR(hle:Xu s p g j):Sm (fun r=>r.1.length<=1048576/\(r.2.1=true->adt a0 a1 a2 a3 a4 a5 a6 a7 a8 a9 a10 s p j/\QH r.1=true)) (OP a0 a1 a2 a3 a4 a5 a6 a7 a8 a9 a10 s p g j) (OA a0 a1 a2 a3 a4 a5 a6 a7 a8 a9 a10 s p g j):=by
 unfold OP OA;refine(aar a0 a1 a2 a3 a4 a5 a6 a7 a8 a9 a10 s p g j hle).bind fun r hr=>.cond (fun _=>.ret ⟨Nat.zero_le _,fun h=>by cases h⟩) fun hb=>?_;have hb:r.1=true:=by cases h:r.1 with|true=>rfl|false=>rw[h]at hb;cases hb
 have hn:=hr hb;exact(YY a0 a1 a2 a3 a4 a5 a6 a7 a8 a9 a10 s p g j hle.lj hle.ls).bind fun r hr=>.ret ⟨hr.1,fun h=>⟨hn,hr.2 hn.jr h⟩⟩
end
end Go.Fn
set_option linter.unusedVariables false
set_option linter.unusedSimpArgs false
namespace Go.Fn
open Go.R
theorem ab5 {B X Y:Type} {body body':X->Option (X⊕Y)} (st:B->Nat->X) (len:Nat) (hlen:len<=1073741824) {Q:Y->Prop} (I:Nat->B->Prop)
  (hs:∀n b,n<len->I n b->Sm (fun r=>match r with| .inl a=>∃b',a=st b' (n+1)/\I (n+1) b'| .inr y=>Q y) (body (st b n)) (body' (st b n)))
  (he:∀b,I len b->Sm (fun r=>match r with| .inl a=>False| .inr y=>Q y) (body (st b len)) (body' (st b len))) (b:B) (hb:I 0 b):Sm Q (iter body big (st b 0)) (iter body' big (st b 0)):=by
 have key:∀(k n:Nat) (b:B),n+k=len->I n b->Sm Q (iter body (k+1) (st b n)) (iter body' (k+1) (st b n)):=by
  intro k;induction k with
  |zero=>
   intro n b hn hI;have:n=len:=by omega
   subst this;obtain⟨r,e1,e2,hr⟩:=he b hI;cases r with
   |inl a=>exact hr.elim
   |inr y=>exact⟨y,ay e1,ay e2,hr⟩
  |succ k ih=>
   intro n b hn hI;obtain⟨r,e1,e2,hr⟩:=hs n b (by omega) hI;cases r with
   |inl a=>obtain⟨b',rfl,hI'⟩:=hr;rw[aH e1,aH e2];exact ih (n+1) b' (by omega) hI'
   |inr y=>exact⟨y,ay e1,ay e2,hr⟩
 obtain⟨y,e1,e2,hy⟩:=key len 0 b (by omega) hb;exact⟨y,bF e1 (Nat.le_of_lt (aT (by omega))),bF e2 (Nat.le_of_lt (aT (by omega))),hy⟩
end Go.Fn
set_option linter.unusedVariables false
namespace Go.Fn
open Go.R
noncomputable def R9(a b c d e f g h i j k:Int)(l:SY)(m:SX)(n:SW)(o:MA)(p q r s t u v w:Int):NV:=cond (ah m p) ((MZ a b c d e f g h i j k l m n o p).bind fun x=>letI y:=(0:Int);letI z:=some (false,());letI A:=(ae qk m p).2.2;letI B:=A.2.2;letI C:=B.2.2.2.2.2.2.2;cond x.1 (lets (Bool.and (af .eql q y) (Bool.and (af .eql r y) (Bool.and (af .eql s y) (Bool.and (af .eql t y) (Bool.and (af .eql u y) (Bool.and (af .eql v y) (Bool.and (af .eql w y) true))))))) fun D=>some (D,())) (cond (af .neq r A.1) z (cond (af .neq s B.1) z (cond (af .neq t B.2.1) z (cond (af .neq w y) z (cond (af .eql A.2.1 4) (cond (af .eql q 2) (cond (af .eql u C.1) (cond (ah l A.1) ((UD (ae b7 l A.1).1 (ae b7 l A.1).2.1 a b c d e f g h (ae qk m p).1 B.1 v B.2.1).bind fun D=>some (af .eql C.2 D.1,())) none) z) z) (cond (af .eql A.2.1 5) (some (af .eql q 3,())) (some (af .eql q 1,()))))))))) none
noncomputable def OR(a:YaM)(b:Uq):Option (Uq⊕Zm⊕YbH):=cond (af .lss b.2.1 (ai b.1)) (cond (ah b.1 b.2.1) (cond (af .gtr (ae bf b.1 b.2.1).2.2.2.2.1 (ai a.2.2.2.2.2.2.2.2.2.2.2.2.1)) (some (.inr (.inl (false,())))) (some (.inl (b.1,aa .add .i64 b.2.1 1,())))) none) (some (.inr (.inr (.inl (b.1,())))))
noncomputable def Q2 k x:=iter (OR k) big x
noncomputable def OS(a:YaM)(b:Uq):Option (Uq⊕YbM):=letI c:=a.2.2.2.2;letI d:=c.2.2.2.2;letI e:=aa .add .i64 b.2.1 1;letI f:=d.2.2.2.2;cond (af .lss b.2.1 (ai f.1)) ((TK b.1 e).bind fun g=>letI h:=g.2.2.2;(R9 a.1 a.2.1 a.2.2.1 a.2.2.2.1 c.1 c.2.1 c.2.2.1 c.2.2.2.1 d.1 d.2.1 d.2.2.1 d.2.2.2.1 f.1 f.2.1 f.2.2.1 b.2.1 g.1 g.2.1 g.2.2.1 h.1 h.2.1 h.2.2.1 h.2.2.2.1).bind fun i=>cond (Bool.not i.1) (some (.inr (.inl (false,())))) (some (.inl (b.1,e,())))) (some (.inr (.inr (.inl ()))))
noncomputable def Up k x:=iter (OS k) big x
noncomputable def Re(a b c d e f g h i j k:Int)(l:SY)(m:SX)(n:SW)(o:MA):NV:=(OP a b c d e f g h i j k l m n o).bind fun p=>letI q:=(a,b,c,d,e,f,g,h,i,j,k,l,m,n,o,());cond (Bool.not p.2.1) (some (false,())) ((Q2 q (p.1,0,())).bind fun r=>Sum.elim (fun s=>some (s.1,())) (fun s=>Sum.elim (fun t=>(Up q (t.1,0,())).bind fun u=>Sum.elim (fun v=>some (v.1,())) (fun v=>Sum.elim (fun _=>some (true,())) (fun w=>Empty.elim w) v) u) (fun t=>Empty.elim t) s) r)
noncomputable def Vt(a b c d e f g h i j k:Int)(l:SY)(m:SX)(n:SW)(o:MA)(p q r s t u v w x y z A B C D E F G H I:Int):NV:=(Nh a b c d e f g h i j k l m n o p q r s t u v w x y z A B).bind fun J=>letI K:=(0:Int);letI L:=some (false,());cond J.1 (lets (Bool.and (af .eql C K) (Bool.and (af .eql D K) (Bool.and (af .eql E K) (Bool.and (af .eql F K) (Bool.and (af .eql G K) (Bool.and (af .eql H K) (Bool.and (af .eql I K) true))))))) fun M=>some (M,())) (cond (af .neq D r) L (cond (af .neq E t) L (cond (af .neq F u) L (cond (af .neq I K) L (cond (af .eql s 4) (cond (af .eql C 2) (cond (af .eql G A) (cond (ah l r) ((Ut (ae b7 l r).1 (ae b7 l r).2.1 a b c d e f g h p t H u).bind fun M=>some (af .eql B M.1,())) none) L) L) (cond (af .eql s 5) (some (af .eql C 3,())) (some (af .eql C 1,()))))))))
noncomputable def OD(a:YaW)(b:MA×U2):Option (MA×U2⊕Zm⊕YbH):=letI c:=b.2.2.1;letI d:=a.2.2.2.2.2.2.2.2.2.2.2.2;cond (af .lss c d.2.2.2.1) (cond (ah b.2.1 c) (cond (af .gtr (ae zI b.2.1 c) (ai d.1)) (some (.inr (.inl (false,())))) (some (.inl (b.1,b.2.1,aa .add .i64 c 1,())))) none) (some (.inr (.inr (.inl (b.1,())))))
noncomputable def QO k x:=iter (OD k) big x
noncomputable def OE(a:YbI)(b:Uq):Option (Uq⊕YbM):=letI c:=a.2.2.2.2.2;letI d:=aa .add .i64 b.2.1 1;letI e:=c.2.2.2.2;letI f:=e.2.2.2.2;cond (af .lss b.2.1 f.2.2.2.1) (cond (ah f.2.2.1 b.2.1) ((Tk b.1 d).bind fun g=>letI h:=g.2.2.2;letI i:=ae qk f.2.2.1 b.2.1;letI j:=i.2.2.2;letI k:=j.2.2.2;letI l:=k.2.2.2;(Vt a.1 a.2.1 a.2.2.1 a.2.2.2.1 a.2.2.2.2.1 c.1 c.2.1 c.2.2.1 c.2.2.2.1 e.1 e.2.1 e.2.2.1 e.2.2.2.1 f.1 f.2.1 i.1 i.2.1 i.2.2.1 j.1 j.2.1 j.2.2.1 k.1 k.2.1 k.2.2.1 l.1 l.2.1 l.2.2.1 l.2.2.2 g.1 g.2.1 g.2.2.1 h.1 h.2.1 h.2.2.1 h.2.2.2.1).bind fun m=>cond (Bool.not m.1) (some (.inr (.inl (false,())))) (some (.inl (b.1,d,())))) none) (some (.inr (.inr (.inl ()))))
noncomputable def Ul k x:=iter (OE k) big x
noncomputable def Q7(a b c d e f g h i j k:Int)(l:SY)(m:SX)(n:SW)(o:MA):NV:=(OA a b c d e f g h i j k l m n o).bind fun p=>cond (Bool.not p.2.1) (some (false,())) ((Oj p.1).bind fun q=>(QO (a,b,c,d,e,f,g,h,i,j,k,l,m,n,o,ai q.1,()) (p.1,q.1,0,())).bind fun r=>Sum.elim (fun s=>some (s.1,())) (fun s=>Sum.elim (fun t=>(Ul (a,b,c,d,e,f,g,h,i,j,k,l,m,n,o,m,ai m,()) (t.1,0,())).bind fun u=>Sum.elim (fun v=>some (v.1,())) (fun v=>Sum.elim (fun _=>some (true,())) (fun w=>Empty.elim w) v) u) (fun t=>Empty.elim t) s) r)
noncomputable def Om(a b c d e f g h i j k:Int)(l:SY)(m:SX)(n:SW)(o:MA):NV:=(Qa a b c d e f g h i j k l m n o 1048576).bind fun p=>letI q:=some (true,());letI r:=Qj a b c d e f g h i j k l m n o;cond (af .lss p.1 0) q (r.bind fun s=>letI t:=s.2.2.2.2;letI u:=t.2.2.2;letI v:=u.2.2.2.2;(Re s.1 s.2.1 s.2.2.1 s.2.2.2.1 t.1 t.2.1 t.2.2.1 u.1 u.2.1 u.2.2.1 u.2.2.2.1 v.1 v.2.1 v.2.2.1 v.2.2.2.1).bind fun w=>r.bind fun x=>letI y:=x.2.2;letI z:=y.2.2;letI A:=z.2.2.2;letI B:=A.2.2;letI C:=B.2.2;(Q7 x.1 x.2.1 y.1 y.2.1 z.1 z.2.1 z.2.2.1 A.1 A.2.1 B.1 B.2.1 C.1 C.2.1 C.2.2.1 C.2.2.2.1).bind fun D=>letI E:=some (false,());cond (Bool.not (bQ D.1 w.1)) E (r.bind fun F=>letI G:=F.2.2.2.2;letI H:=G.2.2.2;letI I:=H.2.2.2.2;(P3 x.1 x.2.1 y.1 y.2.1 z.1 z.2.1 z.2.2.1 A.1 A.2.1 B.1 B.2.1 C.1 C.2.1 C.2.2.1 C.2.2.2.1 F.1 F.2.1 F.2.2.1 F.2.2.2.1 G.1 G.2.1 G.2.2.1 H.1 H.2.1 H.2.2.1 H.2.2.2.1 I.1 I.2.1 I.2.2.1 I.2.2.2.1).bind fun J=>cond (Bool.not J.1) E q))
end Go.Fn
set_option linter.unusedVariables false
set_option linter.unusedSimpArgs false
namespace Go.Fn
open Go.R
section
variable (a0 a1 a2 a3 a4 a5 a6 a7 a8 a9 a10:Int) (s:List Site) (p:List Prc) (g:List Grt) (j:List Ev)
theorem acf(x:Prc)(k:Nat)(hk:k<p.length)(hx:p.getD k qk=x)(h0:0<=x.2.2.1)(h1:x.2.2.1<s.length)(f0 f1 f2 f3 f4 f5 f6:Int):
  Sm Any (R9 a0 a1 a2 a3 a4 a5 a6 a7 a8 a9 a10 s p g j (k:Int) f0 f1 f2 f3 f4 f5 f6) (Vt a0 a1 a2 a3 a4 a5 a6 a7 a8 a9 a10 s p g j x.1 x.2.1 x.2.2.1 x.2.2.2.1 x.2.2.2.2.1 x.2.2.2.2.2.1 x.2.2.2.2.2.2.1 x.2.2.2.2.2.2.2.1 x.2.2.2.2.2.2.2.2.1 x.2.2.2.2.2.2.2.2.2.1 x.2.2.2.2.2.2.2.2.2.2.1 x.2.2.2.2.2.2.2.2.2.2.2.1 x.2.2.2.2.2.2.2.2.2.2.2.2 f0 f1 f2 f3 f4 f5 f6):=by
 unfold R9 Vt;rw[cV hk,aq,hx];simp only[cond_true];refine(Vp a0 a1 a2 a3 a4 a5 a6 a7 a8 a9 a10 s p g j x k hk hx h0 h1).bind fun r _=>.cond (fun _=>?_) fun _=>?_
 ·simp only[aV];exact .ret trivial
 ·refine .cond (fun _=>.ret trivial) fun _=>.cond (fun _=>.ret trivial) fun _=>.cond (fun _=>.ret trivial) fun _=>.cond (fun _=>.ret trivial) fun _=>.cond (fun _=>.cond (fun _=>.cond (fun _=>?_) fun _=>.ret trivial) fun _=>.ret trivial) fun _=>.cond (fun _=>.ret trivial) fun _=>.ret trivial;rw[Uu h0 h1];simp only[cond_true,ZE,Zq,Option.bind_some];exact .ret trivial
theorem ab2{l:List Ev}{ps:List Int}(hj:QH l=true)(hp:W0 l 1000 ps)(m:Int):(∀n,n<l.length->Bool.not (af .gtr (l.getD n bf).2.2.2.2.1 m)=true)↔∀n,n<ps.length->Bool.not (af .gtr (ps.getD n zI) m)=true:=by
 have gt:∀x:Int,(Bool.not (af .gtr x m)=true)↔x<=m:=fun x=>by simp only[af,gt_iff_lt,Bool.not_eq_true',decide_eq_false_iff_not];omega
 constructor
 ·intro h n hn;obtain⟨_,_,e,he,h3⟩:=(hp.1 _).1 (NH hn zI);obtain⟨k,hk,rfl⟩:=List.mem_iff_getElem.1 he;have:=h k hk;rw[List.getD_eq_getElem?_getD,List.getElem?_eq_getElem hk,Option.getD_some,h3]at this;exact this
 ·intro h n hn;have he:=NH hn bf;have hr:=(Xs.1 (ZU hj _ he)).2.2.2.2.1;have hm:=(hp.1 _).2 ⟨hr.1,by omega,_,he,rfl⟩;obtain⟨k,hk,hx⟩:=List.mem_iff_getElem.1 hm;have:=h k hk;rw[List.getD_eq_getElem?_getD,List.getElem?_eq_getElem hk,Option.getD_some,hx]at this;exact this
theorem aam(hle:Xu s p g j):Sm Any (Re a0 a1 a2 a3 a4 a5 a6 a7 a8 a9 a10 s p g j) (Q7 a0 a1 a2 a3 a4 a5 a6 a7 a8 a9 a10 s p g j):=by
 have hlp:=hle.lp;unfold Re Q7;refine(aeR a0 a1 a2 a3 a4 a5 a6 a7 a8 a9 a10 s p g j hle).bind fun r hr=>.cond (fun _=>.ret trivial) fun hb=>?_;have hb:r.2.1=true:=by cases h:r.2.1 with|true=>rfl|false=>rw[h]at hb;cases hb
 obtain⟨hlen,hok⟩:=hr;obtain⟨hn,hj⟩:=hok hb;obtain⟨ps,_,q2,q3,q4,_⟩:=Yh r.1;have xP:=q4 hj;have akq:=NT hj;rw[q2];simp only[Option.bind_some];obtain⟨y1,e1,c1⟩:=fP (body:=OR (a0,a1,a2,a3,a4,a5,a6,a7,a8,a9,a10,s,p,g,j,())) (fun n=>(r.1,(n:Int),())) r.1.length (by omega) (fun n=>Bool.not (af .gtr (r.1.getD n bf).2.2.2.2.1 (ai p))) (.inr (.inl (r.1,()))) (fun _=>.inl (false,())) (fun n hn=>by
  unfold OR;simp only[aj,az,hn,decide_true,cond_true,aq,av (n:=n) (by omega)];cases af .gtr (r.1.getD n bf).2.2.2.2.1 (ai p) <;> rfl) (by
  unfold OR;simp only[aj,Nat.lt_irrefl,decide_false,cond_false])
 obtain⟨y2,e2,c2⟩:=fP (body:=OD (a0,a1,a2,a3,a4,a5,a6,a7,a8,a9,a10,s,p,g,j,ai ps,())) (fun n=>(r.1,ps,(n:Int),())) ps.length (by omega) (fun n=>Bool.not (af .gtr (ps.getD n zI) (ai p))) (.inr (.inl (r.1,()))) (fun _=>.inl (false,())) (fun n hn=>by
  unfold OD;simp only[aj,az,hn,decide_true,cond_true,aq,av (n:=n) (by omega)];cases af .gtr (ps.getD n zI) (ai p) <;> rfl) (by
  unfold OD;simp only[aj,Nat.lt_irrefl,decide_false,cond_false])
 have e1:Q2 (a0,a1,a2,a3,a4,a5,a6,a7,a8,a9,a10,s,p,g,j,()) (r.1,0,())=some y1:=e1;have e2:QO (a0,a1,a2,a3,a4,a5,a6,a7,a8,a9,a10,s,p,g,j,ai ps,()) (r.1,ps,0,())=some y2:=e2;rw[e1,e2];have afo:=ab2 hj xP (ai p);rcases c1 with ⟨t1,rfl⟩|⟨t1,n1,l1,rfl,f1⟩ <;> rcases c2 with ⟨t2,rfl⟩|⟨t2,n2,l2,rfl,f2⟩
 ·simp only[Option.bind_some,Sum.elim_inr,Sum.elim_inl];refine(ab5 (B:=Unit) (Y:=(Bool×Unit)⊕(Unit⊕Empty)) (Q:=Any) (body:=OS (a0,a1,a2,a3,a4,a5,a6,a7,a8,a9,a10,s,p,g,j,())) (body':=OE (a0,a1,a2,a3,a4,a5,a6,a7,a8,a9,a10,s,p,g,j,p,ai p,())) (fun _ n=>(r.1,(n:Int),())) p.length (by omega) (fun _ _=>True) (fun n _ Hh _=>?_) (fun _ _=>?_) () trivial).bind fun y _=>?_
  ·unfold OS OE;obtain⟨f,g1,g2⟩:=aac r.1 ((n+1:Nat):Int);simp only[aj,az,Hh,decide_true,cond_true,aq,av (n:=n) (by omega),g1,g2,Option.bind_some];obtain⟨h0,h1⟩:=hn.nY n Hh;exact(acf a0 a1 a2 a3 a4 a5 a6 a7 a8 a9 a10 s p g j (p.getD n qk) n Hh rfl h0 h1 _ _ _ _ _ _ _).bind fun q _=>.cond (fun _=>.ret trivial) fun _=>.ret ⟨(),rfl,trivial⟩
  ·unfold OS OE;simp only[aj,Nat.lt_irrefl,decide_false,cond_false];exact .ret trivial
  ·cases y with
   |inl y=>exact .ret trivial
   |inr y=>
    cases y with
    |inl y=>exact .ret trivial
    |inr e=>exact e.elim
 ·have:=afo.1 (fun n hn=>(aQ _ _).1 t1 n (Nat.zero_le _) (by omega)) n2 l2;rw[f2]at this;cases this
 ·have:=afo.2 (fun n hn=>(aQ _ _).1 t2 n (Nat.zero_le _) (by omega)) n1 l1;rw[f1]at this;cases this
 ·exact .ret trivial
theorem XI(h:acy s p g j):Om a0 a1 a2 a3 a4 a5 a6 a7 a8 a9 a10 s p g j=some (true,()):=by
 unfold Om;obtain⟨b,h1,h2⟩:=Yq a0 a1 a2 a3 a4 a5 a6 a7 a8 a9 a10 s p g j 1048576 h (by decide) (by decide);refine(aeT h1).trans ?_;rcases h2 with rfl|⟨b0,b1,hle⟩
 ·rfl
 refine(cF (Pq b0)).trans ?_;have t:=Yt a0 a1 a2 a3 a4 a5 a6 a7 a8 a9 a10 s p g j hle;have e:=Xq a0 a1 a2 a3 a4 a5 a6 a7 a8 a9 a10 s p g j hle;obtain⟨y,y1,y2,_⟩:=aam a0 a1 a2 a3 a4 a5 a6 a7 a8 a9 a10 s p g j hle;simp only[t,e,y1,y2,Option.bind_some,Vu,Bool.not_true,cond_false]
end
end Go.Fn

