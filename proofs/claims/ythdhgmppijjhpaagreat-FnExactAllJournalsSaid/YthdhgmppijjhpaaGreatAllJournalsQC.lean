import Derived.Test.YthdhgmppijjhpaaGreatAllJournalsQB
/- Plain functions that stand for Go functions, and what they answer. Conditions: none. -/
set_option autoImplicit false
set_option linter.unusedVariables false
set_option linter.unusedSimpArgs false
set_option linter.unusedSimpArgs false
set_option linter.unusedVariables false
namespace Go.Fn
open Go.R Go.Sort
noncomputable def Ue(node:Int)(s:Int×Int×Nat×Nat)(x:Ev):Int×Int×Nat×Nat:=((bif decide (x.1=node)then x.2.1+1 else s.1),max s.2.1 (x.2.2.1+1),(bif decide (x.1<=node)then s.2.2.2+1 else s.2.2.1),s.2.2.2+1)
noncomputable def Tt(l:List Ev)(node:Int):Int×Int×Nat×Nat:=l.foldl (Ue node) (1,1,0,0)
noncomputable def Y9(l:List Ev)(node kind Mh a b:Int):Ev:=(node,(Tt l node).1,(Tt l node).2.1,kind,Mh,a,b)
noncomputable def SW(l:List Ev)(node kind Mh a b:Int):List Ev:=l.take (Tt l node).2.2.1++[Y9 l node kind Mh a b]++l.drop (Tt l node).2.2.1
noncomputable def WW(l:List Ev)(node kind Mh a b:Int):List Ev×Bool:=bif Sr l then bif Sr (SW l node kind Mh a b)then(SW l node kind Mh a b,true)else(l,false)else(l,false)
structure VV (node:Int) (p:List Ev) (s:Int×Int×Nat×Nat):Prop where
 c:s.2.2.2=p.length
 YB:s.2.2.1<=p.length
 s1:∀x,x∈p->x.1=node->x.2.1<s.1
 s2:s.1=1\/∃x,x∈p/\x.1=node/\s.1=x.2.1+1
 p1:∀x,x∈p->x.2.2.1<s.2.1
 p2:s.2.1=1\/∃x,x∈p/\s.2.1=x.2.2.1+1
 a1:∀x,x∈p.take s.2.2.1->x.1<=node
 a2:∀x,x∈p.drop s.2.2.1->node<x.1
theorem Vm{node:Int}{p:List Ev}{s:Int×Int×Nat×Nat}{x:Ev}(h:VV node p s)(hp:TZ (p++[x])):VV node (p++[x]) (Ue node s x):=by
 have hlt:∀y,y∈p->JV y x=true:=fun y hy=>(List.pairwise_append.1 hp).2.2 y hy x (List.mem_singleton.2 rfl);obtain⟨h1,h2,h3,h4,h5,h6,h7,h8⟩:=h;unfold Ue;refine⟨by simp[h1],?_,fun y hy hn=>?_,?_,fun y hy=>?_,?_,?_,?_⟩
 ·cases decide (x.1<=node) <;> simp <;> omega
 ·simp only[];rcases List.mem_append.1 hy with hy|hy
  ·by_cases hx:x.1=node
   ·rw[decide_eq_true hx];have:=hlt y hy;rw[Kj]at this;simp only[cond_true];omega
   ·rw[decide_eq_false hx];exact h3 y hy hn
  ·rw[List.mem_singleton]at hy;subst hy;rw[decide_eq_true hn];simp only[cond_true];omega
 ·simp only[];by_cases hx:x.1=node
  ·rw[decide_eq_true hx];exact .inr ⟨x,by simp,hx,rfl⟩
  ·rw[decide_eq_false hx];rcases h4 with h4|⟨y,hy,h4⟩
   ·exact .inl h4
   ·exact .inr ⟨y,List.mem_append_left _ hy,h4⟩
 ·simp only[];rcases List.mem_append.1 hy with hy|hy
  ·have:=h5 y hy;omega
  ·rw[List.mem_singleton]at hy;subst hy;omega
 ·simp only[];by_cases hm:s.2.1<=x.2.2.1+1
  ·exact .inr ⟨x,by simp,by omega⟩
  ·rcases h6 with h6|⟨y,hy,h6⟩
   ·exact .inl (by omega)
   ·exact .inr ⟨y,List.mem_append_left _ hy,by omega⟩
 ·simp only[];by_cases hx:x.1<=node
  ·rw[decide_eq_true hx];intro y hy;rw[cond_true,h1,List.take_of_length_le (by simp)]at hy;rcases List.mem_append.1 hy with hy|hy
   ·have:=hlt y hy;rw[Kj]at this;omega
   ·rw[List.mem_singleton]at hy;subst hy;exact hx
  ·rw[decide_eq_false hx];intro y hy;rw[cond_false,List.take_append_of_le_length h2]at hy;exact h7 y hy
 ·simp only[];by_cases hx:x.1<=node
  ·rw[decide_eq_true hx];intro y hy;rw[cond_true,h1,List.drop_of_length_le (by simp)]at hy;exact absurd hy List.not_mem_nil
  ·rw[decide_eq_false hx];intro y hy;rw[cond_false,List.drop_append_of_le_length h2]at hy;rcases List.mem_append.1 hy with hy|hy
   ·exact h8 y hy
   ·rw[List.mem_singleton]at hy;subst hy;omega
theorem Uc(node:Int):∀(l p:List Ev) (s:Int×Int×Nat×Nat),TZ (p++l)->VV node p s->VV node (p++l) (l.foldl (Ue node) s)
 | [],p,s,_,h=>by simpa using h
 |x::l,p,s,hp,h=>by
  have e:p++x::l=(p++[x])++l:=by simp
  rw[e]at hp⊢;exact Uc node l (p++[x]) (Ue node s x) hp (Vm h (List.pairwise_append.1 hp).1)
theorem Ud(node:Int){l:List Ev}(h:TZ l):VV node l (Tt l node):=by have:=Uc node l [] (1,1,0,0) (by simpa using h) ⟨rfl,Nat.le_refl _,fun x hx=>absurd hx List.not_mem_nil,.inl rfl,fun x hx=>absurd hx List.not_mem_nil,.inl rfl,fun x hx=>absurd (List.mem_of_mem_take hx) List.not_mem_nil,fun x hx=>absurd (List.mem_of_mem_drop hx) List.not_mem_nil⟩;exact this
theorem NW{l:List Ev}{node kind Mh a b:Int}(z:Ev):z∈SW l node kind Mh a b↔z=Y9 l node kind Mh a b\/z∈l:=by
 unfold SW;rw[List.mem_append,List.mem_append,List.mem_singleton];constructor
 ·rintro((h|h)|h)
  ·exact .inr (List.mem_of_mem_take h)
  ·exact .inl h
  ·exact .inr (List.mem_of_mem_drop h)
 ·rintro(h|h)
  ·exact .inl (.inr h)
  ·rw[<-List.take_append_drop (Tt l node).2.2.1 l,List.mem_append]at h;rcases h with h|h
   ·exact .inl (.inl h)
   ·exact .inr h
theorem VL{l:List Ev}(h:TZ l)(node kind Mh a b:Int):(SW l node kind Mh a b).length=l.length+1:=by have:=(Ud node h).YB;unfold SW;simp only[List.length_append,List.length_take,List.length_drop,List.length_singleton];omega
end Go.Fn
set_option linter.unusedSimpArgs false
set_option linter.unusedVariables false
namespace Go.Fn
open Go.R Go.Sort
structure Vl (n:Nat) (base:List Ev) (S:Int->Prop) (l:List Ev):Prop where
 j:Sr l=true
 len:l.length<=n
 st:∀x,x∈l->x.2.2.1<=(n:Int)
 ZJ:∀x,x∈l->∀s:Int,1<=s->s<=x.2.1->∃y,y∈l/\y.1=x.1/\y.2.1=s
 sub:∀x,x∈base->x∈l
 new:∀x,x∈l->x∈base\/S x.1
theorem Vl.mono{n m:Nat}{base:List Ev}{S:Int->Prop}{l:List Ev}(h:Vl n base S l)(hm:n<=m):Vl m base S l:=⟨h.j,by have:=h.len;omega,fun x hx=>by have:=h.st x hx;omega,h.ZJ,h.sub,h.new⟩
theorem Vl.add{n:Nat}{base:List Ev}{S:Int->Prop}{l:List Ev}(h:Vl n base S l){node:Int}(hS:S node)(kind Mh a b:Int):Vl (n+1) base S (WW l node kind Mh a b).1:=by
 unfold WW;rw[h.j];simp only[cond_true];cases hw:Sr (SW l node kind Mh a b)with
 |false=>exact h.mono (Nat.le_succ _)
 |true=>
  have hs:=TG h.j;have hi:=Ud node hs;simp only[cond_true];refine⟨hw,by rw[VL hs];have:=h.len;omega,fun x hx=>?_,fun x hx s h1 h2=>?_,fun x hx=>(NW x).2 (.inr (h.sub x hx)),fun x hx=>?_⟩
  ·rcases(NW x).1 hx with e|e
   ·rw[e];show(Tt l node).2.1<=_;rcases hi.p2 with p|⟨y,hy,p⟩
    ·rw[p];omega
    ·rw[p];have:=h.st y hy;omega
   ·have:=h.st x e;omega
  ·rcases(NW x).1 hx with e|e
   ·subst e;have h2:s<=(Tt l node).1:=h2;by_cases e:s=(Tt l node).1
    ·exact⟨_,hx,rfl,e.symm⟩
    ·rcases hi.s2 with p|⟨y,hy,q,p⟩
     ·omega
     ·obtain⟨z,hz,e1,e2⟩:=h.ZJ y hy s h1 (by omega);exact⟨z,(NW z).2 (.inr hz),by rw[e1,q];rfl,e2⟩
   ·obtain⟨z,hz,e1,e2⟩:=h.ZJ x e s h1 h2;exact⟨z,(NW z).2 (.inr hz),e1,e2⟩
  ·rcases(NW x).1 hx with e|e
   ·rw[e];exact .inr hS
   ·exact h.new x e
end Go.Fn
set_option linter.unusedSimpArgs false
set_option linter.unusedVariables false
namespace Go.Fn
open Go.R Go.Sort
abbrev Zy(l:List Ev)(d:Array Int):Prop:=∀k,k<d.size->0<=d[k]! /\ d[k]! < l.length
theorem Zy.perm{l:List Ev}{d d':Array Int}{a b:Nat}(h:Zy l d)(hb:b<=d.size)(hp:PermIn a b d d'):Zy l d':=by have h0:=permIn_mono d d' a b 0 d.size (Nat.zero_le _) hb (Nat.le_refl _) hp;have:=permIn_all d d' 0 d.size (fun x=>0<=x/\x<l.length) (Nat.le_refl _) h0 (fun i _ hi=>h i hi);exact fun k hk=>this k (Nat.zero_le _) (by rw[<-hp.1];exact hk)
end Go.Fn
set_option linter.unusedSimpArgs false
set_option linter.unusedVariables false
namespace Go.Fn
open Go.R
section
variable {a0 a1:Int} {g:List (List Int)} {s:List Stp}
noncomputable def lg(g:List (List Int))(p q:Int):Int:=leg g p.toNat q.toNat
end
end Go.Fn
set_option linter.unusedVariables false
set_option linter.unusedSimpArgs false
namespace Go.Fn
open Go.R
noncomputable def nh{α:Type}(mk:Int->α->α×Int):List α->Int->List α×Int
 | [],k=>([],k)
 |x::xs,k=>((mk k x).1::(nh mk xs (mk k x).2).1,(nh mk xs (mk k x).2).2)
theorem Uo{α:Type}(mk:Int->α->α×Int)(y:α):∀(l:List α) (k:Int),nh mk (l++[y]) k=((nh mk l k).1++[(mk (nh mk l k).2 y).1],(mk (nh mk l k).2 y).2)
 | [],k=>rfl
 |x::xs,k=>by simp only[List.cons_append,nh,Uo mk y xs]
theorem St{α:Type}(mk:Int->α->α×Int):∀(l:List α) (k:Int),(nh mk l k).1.length=l.length
 | [],k=>rfl
 |x::xs,k=>by simp only[nh,List.length_cons,St mk xs]
noncomputable def JD{α:Type}(cost:α->Nat):List α->Nat
 | []=>0
 |x::xs=>cost x+JD cost xs
theorem Th{α:Type}(cost:α->Nat):∀(l l':List α),JD cost (l++l')=JD cost l+JD cost l'
 | [],_=>by simp[JD]
 |x::xs,l'=>by simp only[List.cons_append,JD,Th cost xs];omega
theorem J9{α:Type}(c:Nat):∀l:List α,JD (fun _=>c) l=c*l.length
 | []=>rfl
 |x::xs=>by simp only[JD,J9 c xs,List.length_cons,Nat.mul_succ];omega
theorem UQ{α:Type}(cost:α->Nat)(l:List α)(n:Nat):JD cost (l.take n)<=JD cost l:=by have:=Th cost (l.take n) (l.drop n);rw[List.take_append_drop]at this;omega
theorem PR{α:Type}{mk:Int->α->α×Int}{cost:α->Nat}(hm:∀k x,k<=(mk k x).2/\(mk k x).2<=k+cost x):∀(l:List α) (k:Int),k<=(nh mk l k).2/\(nh mk l k).2<=k+JD cost l
 | [],k=>by simp[nh,JD]
 |x::xs,k=>by have h1:=hm k x;have h2:=PR hm xs (mk k x).2;simp only[nh,JD];omega
theorem PN {α:Type} {body:List α×Int×Int×Unit->Option ((List α×Int×Int×Unit)⊕(List α×Int×Unit⊕Empty))} {mk:Int->α->α×Int} {cost:α->Nat} (z:α) (l:List α) (k0:Int) (hl:l.length<=1073741824) (h0:0<=k0)
  (hm:∀k x,k<=(mk k x).2/\(mk k x).2<=k+cost x)
  (hs:∀(L:List α) (k:Int) (n:Nat),n<L.length->L.length=l.length->L.getD n z=l.getD n z->0<=k->k<=k0+JD cost l->body (L,k,(n:Int),())=some (.inl (L.set n (mk k (l.getD n z)).1,(mk k (l.getD n z)).2,((n+1:Nat):Int),())))
  (he:∀(L:List α) (k:Int),body (L,k,(L.length:Int),())=some (.inr (.inl (L,k,())))):iter body big (l,k0,0,())=some (.inl ((nh mk l k0).1,(nh mk l k0).2,())):=by
 have hst:∀n,n<=l.length->((nh mk (l.take n) k0).1++l.drop n).length=l.length:=by intro n hn;rw[List.length_append,St,List.length_take,List.length_drop];omega
 have:=aR (body:=body) (fun n=>((nh mk (l.take n) k0).1++l.drop n,(nh mk (l.take n) k0).2,(n:Int),())) l.length (by omega) (.inl ((nh mk l k0).1,(nh mk l k0).2,())) (fun n hn=>?_) ?_
 ·simpa[nh] using this
 ·have hb:=PR hm (l.take n) k0;have hc:=UQ cost l n;have hgl:(nh mk (l.take n) k0).1.length=n:=by rw[St,List.length_take];omega
  have om:((nh mk (l.take n) k0).1++l.drop n).getD n z=l.getD n z:=by rw[List.getD_eq_getElem?_getD,List.getElem?_append_right (by omega),hgl,Nat.sub_self,List.getElem?_drop,Nat.add_zero,<-List.getD_eq_getElem?_getD]
  rw[hs _ _ n (by rw[hst n (Nat.le_of_lt hn)];exact hn) (hst n (Nat.le_of_lt hn)) om (by omega) (by omega)];have jS:l.take (n+1)=l.take n++[l.getD n z]:=by rw[List.take_add_one,List.getElem?_eq_getElem hn,List.getD_eq_getElem?_getD,List.getElem?_eq_getElem hn];rfl
  rw[jS,Uo];congr 3;rw[List.set_append,if_neg (by omega),hgl,Nat.sub_self,List.drop_eq_getElem_cons hn,List.set_cons_zero,List.append_assoc];rfl
 ·have hlen:((nh mk l k0).1).length=l.length:=St _ _ _;have:=he (nh mk l k0).1 (nh mk l k0).2;rw[hlen]at this;simp only[List.take_length,List.drop_length,List.append_nil];exact this
end Go.Fn
set_option linter.unusedVariables false
set_option linter.unusedSimpArgs false
namespace Go.Fn
open Go.R
section
variable (a0 a1:Int) (g:List (List Int)) (s:List Stp)
abbrev SB:Type:=Bool×Int×List Int×Unit
end
end Go.Fn
set_option linter.unusedVariables false
namespace Go.Fn
open Go.R
noncomputable def JF(a:Int):KK:=(jj a 1 40).bind fun b=>some (b.1,())
noncomputable def NR(a:Int):KK:=(jj a 0 20000).bind fun b=>some (b.1,())
noncomputable def Mi(a b c d e f:Int)(g:Bool):KK:=(JF a).bind fun h=>letI i:=some (false,());cond h.1 ((JF b).bind fun j=>cond j.1 (cond (af .neq a b) ((jj c 0 999).bind fun k=>cond k.1 ((jj d 0 5).bind fun l=>cond l.1 ((NR e).bind fun m=>cond m.1 ((NR f).bind fun n=>cond n.1 (some (af .lss e f,())) i) i) i) i) i) i) i
noncomputable def MJ(a:XB)(b:Nd):SY:=letI c:=ae xx a.1 b.1;letI d:=c.2.2.2;cond (af .lss b.1 (ai a.1)) (cond (ah a.1 b.1) ((Mi c.1 c.2.1 c.2.2.1 d.1 d.2.1 d.2.2.1 d.2.2.2).bind fun e=>cond (Bool.not e.1) (some (.inr (.inl (false,())))) (some (.inl (aa .add .i64 b.1 1,())))) none) (some (.inr (.inr (.inl ()))))
noncomputable def MK k x:=iter (MJ k) big x
noncomputable def MZ(a:Oa):KK:=cond (af .gtr (ai a) 30) (some (false,())) ((MK (a,()) (0,())).bind fun b=>Sum.elim (fun c=>some (c.1,())) (fun c=>Sum.elim (fun _=>some (true,())) (fun d=>Empty.elim d) c) b)
noncomputable def MM(a:Int×Q8×Sn×OE)(b:YcE):Option (YcE⊕VX⊕ZE⊕Empty):=letI c:=b.2.2;letI d:=c.2.2.1;letI e:=(b.1,b.2.1,c.1,c.2.1,aa .add .i64 d 1,());cond (af .lss d a.2.2.2.2.1) (cond (af .gtr c.1 0) (cond (ah a.2.2.1 d) (cond (af .eql (ae JG a.2.2.1 d).2.2.1 c.1) (some (.inr (.inl (false,())))) (some (.inl e))) none) (some (.inl e))) (some (.inr (.inr (.inl (b.1,b.2.1,c.1,c.2.1,())))))
noncomputable def KZ k x:=iter (MM k) big x
noncomputable def ML(a:Zl)(b:OE):W9:=letI c:=(false,());letI d:=b.2.1;letI e:=a.2.2.1;letI f:=ae JG e d;cond (af .lss d (ai e)) (cond (ah e d) (cond (af .neq f.1 b.1) (some (.inr (.inl c))) ((jj f.2.1 1 24).bind fun g=>cond (Bool.not g.1) (some (.inr (.inl c))) ((jj f.2.2.1 0 999).bind fun h=>cond (Bool.not h.1) (some (.inr (.inl c))) ((KZ (a.1,a.2.1,e,b.1,d,()) (f.1,f.2.1,f.2.2.1,f.2.2.2,0,())).bind fun i=>Sum.elim (fun j=>some (.inr (.inl (j.1,())))) (fun j=>Sum.elim (fun k=>letI l:=aa .add .i64 b.1 k.2.1;cond (af .gtr l 24) (some (.inr (.inl c))) (some (.inl (l,aa .add .i64 d 1,())))) (fun k=>Empty.elim k) j) i)))) none) (some (.inr (.inr (.inl (b.1,())))))
noncomputable def MN k x:=iter (ML k) big x
noncomputable def M0(a:Int)(b:Q8)(c:Sn):KK:=(MN (a,b,c,()) (0,0,())).bind fun d=>Sum.elim (fun e=>some (e.1,())) (fun e=>Sum.elim (fun f=>cond (af .gtr (ai c) 0) (some (af .eql f.1 a,())) (some (false,()))) (fun f=>Empty.elim f) e) d
noncomputable def KY(a:Int×Q8×Xe)(b:Bool×Nd):Option (Bool×Nd⊕VX⊕Empty):=letI c:=a.2.2;letI d:=aa .add .i64 b.2.1 1;cond (af .lss b.2.1 (ai c.1)) (cond b.1 (some (.inl (true,d,()))) (cond (ah c.1 b.2.1) (cond (ah a.2.1 c.2.1) (some (.inl (af .eql (ae JG c.1 b.2.1).1 (ae zI a.2.1 c.2.1),d,()))) none) none)) (some (.inr (.inl (b.1,()))))
noncomputable def MI k x:=iter (KY k) big x
noncomputable def MG(a:Zl)(b:Nd):SY:=letI c:=b.1;letI d:=a.2.1;cond (af .lss c (ai d)) (cond (ah d c) ((jj (ae zI d c) 1 (aa .sub .i64 a.1 1)).bind fun e=>letI f:=(false,());letI g:=aa .sub .i64 c 1;letI h:=(aa .add .i64 c 1,());letI i:=MI (a.1,d,a.2.2.1,c,()) (false,0,());cond (Bool.not e.1) (some (.inr (.inl f))) (cond (af .gtr c 0) (cond (ah d c) (cond (ah d g) (cond (af .leq (ae zI d c) (ae zI d g)) (some (.inr (.inl f))) (i.bind fun j=>Sum.elim (fun k=>cond (Bool.not k.1) (some (.inr (.inl f))) (some (.inl h))) (fun k=>Empty.elim k) j)) none) none) (i.bind fun j=>Sum.elim (fun k=>cond (Bool.not k.1) (some (.inr (.inl f))) (some (.inl h))) (fun k=>Empty.elim k) j))) none) (some (.inr (.inr (.inl ()))))
noncomputable def MH k x:=iter (MG k) big x
noncomputable def Lg(a:Int)(b:Q8)(c:Sn):KK:=(jj a 1 24).bind fun d=>letI e:=some (false,());cond (Bool.not d.1) e ((M0 a b c).bind fun f=>cond (Bool.not f.1) e ((MH (a,b,c,()) (0,())).bind fun g=>Sum.elim (fun h=>some (h.1,())) (fun h=>Sum.elim (fun _=>some (true,())) (fun i=>Empty.elim i) h) g))
noncomputable def Mp(a:Int×Zl)(b:Nd):Zh:=letI c:=a.2.2.2.1;letI d:=(aa .add .i64 b.1 1,());cond (af .lss b.1 (ai c)) (cond (ah c b.1) (cond (af .eql (ae JG c b.1).2.2.1 a.1) (cond (af .gtr a.1 0) (some (.inr (.inl (b.1,())))) (some (.inl d))) (some (.inl d))) none) (some (.inr (.inr (.inl ()))))
noncomputable def OB k x:=iter (Mp k) big x
noncomputable def Nc(a:Int)(b:Q8)(c:Sn)(d:Int):RO:=(OB (d,a,b,c,()) (0,())).bind fun e=>Sum.elim (fun f=>some (f.1,())) (fun f=>Sum.elim (fun _=>some (-1,())) (fun g=>Empty.elim g) f) e
noncomputable def Ox(a:SZ×OE)(b:Nd):SY:=letI c:=ae m6 a.1 a.2.2.1;letI d:=(ae m6 a.1 a.2.1).2.2;cond (ah a.1 a.2.1) (cond (af .lss b.1 (ai d)) (cond (ah a.1 a.2.2.1) (cond (ah a.1 a.2.1) (cond (ah d b.1) ((Nc c.1 c.2.1 c.2.2 (ae JG d b.1).2.2.1).bind fun e=>cond (af .geq e.1 0) (some (.inr (.inl (false,())))) (some (.inl (aa .add .i64 b.1 1,())))) none) none) none) (some (.inr (.inr (.inl ()))))) none
noncomputable def OA k x:=iter (Ox k) big x
noncomputable def Ow(a:XD)(b:Nd):SY:=cond (af .lss b.1 a.2.1) ((OA (a.1,a.2.1,b.1,()) (0,())).bind fun c=>Sum.elim (fun d=>some (.inr (.inl (d.1,())))) (fun d=>Sum.elim (fun _=>some (.inl (aa .add .i64 b.1 1,()))) (fun e=>Empty.elim e) d) c) (some (.inr (.inr (.inl ()))))
noncomputable def Oz k x:=iter (Ow k) big x
noncomputable def Ov(a:Xd)(b:Nd):SY:=letI c:=ae m6 a.1 b.1;cond (af .lss b.1 (ai a.1)) (cond (ah a.1 b.1) ((Lg c.1 c.2.1 c.2.2).bind fun d=>cond (Bool.not d.1) (some (.inr (.inl (false,())))) ((Oz (a.1,b.1,()) (0,())).bind fun e=>Sum.elim (fun f=>some (.inr (.inl (f.1,())))) (fun f=>Sum.elim (fun _=>some (.inl (aa .add .i64 b.1 1,()))) (fun g=>Empty.elim g) f) e)) none) (some (.inr (.inr (.inl ()))))
noncomputable def Oy k x:=iter (Ov k) big x
noncomputable def Na(a:SZ):KK:=(jj (ai a) 1 6).bind fun b=>cond (Bool.not b.1) (some (false,())) ((Oy (a,()) (0,())).bind fun c=>Sum.elim (fun d=>some (d.1,())) (fun d=>Sum.elim (fun _=>some (true,())) (fun e=>Empty.elim e) d) c)
noncomputable def QG(a b:Int)(c d e:Bool):KK:=some (bQ e (af .eql a 2),())
noncomputable def Lz(a b:Int)(c d e:Bool):KK:=(jj a 0 2).bind fun f=>letI g:=some (false,());cond (Bool.not f.1) g ((jj b 0 6).bind fun h=>letI i:=some (Bool.not c,());letI j:=QG a b c d e;letI k:=cond c (some (Bool.not d,())) g;letI l:=cond (af .eql a 0) (cond (af .eql b 0) i g) (cond (af .eql b 1) (j.bind fun l=>cond l.1 i g) (cond (af .eql b 2) (j.bind fun l=>cond l.1 k g) (cond (af .eql b 3) (j.bind fun l=>cond l.1 (some (d,())) g) (cond (af .eql b 4) (j.bind fun l=>cond (Bool.not l.1) (some (d,())) g) (cond (af .eql b 5) k (cond (af .eql b 6) i (some (true,()))))))));cond (Bool.not h.1) g (cond d (cond (Bool.not c) g l) l))
noncomputable def Mq(a b c d e f g h i j k:Int)(l:Pt)(m:PO)(n:Oa)(o:JP)(p:Int):KK:=letI q:=ae b7 l p;cond (ah l p) ((Nb q.1 q.2.1).bind fun r=>letI s:=some (false,());cond (Bool.not r.1) s ((Na q.2.2.1).bind fun t=>letI u:=q.2.2.2;letI v:=u.2.2.2;cond (Bool.not t.1) s ((Lz u.1 u.2.1 u.2.2.1 v.1 v.2.1).bind fun w=>letI x:=v.2.2;cond (Bool.not w.1) s ((Js x.2.2).bind fun y=>letI z:=af .eql x.2.1 0;cond (Bool.not y.1) s (cond (af .eql x.1 0) (lets (Bool.and (af .eql u.1 0) (Bool.and (af .eql u.2.1 0) (Bool.and (bQ u.2.2.1 false) (Bool.and (bQ v.1 false) (Bool.and (bQ v.2.1 false) true))))) fun A=>cond A (some (z,())) s) ((jj x.1 1 (ai m)).bind fun A=>letI B:=aa .sub .i64 x.1 1;letI C:=(ae bt m B).2.2;letI D:=cond (af .eql u.1 2) ((jj x.2.1 0 40).bind fun D=>some (D.1,())) s;cond (Bool.not A.1) s (cond (ah m B) (cond (af .neq C.1 p) s (cond (ah m B) (cond (af .neq C.2.1 2) s (cond (af .eql u.1 1) (cond z (some (true,())) D) D)) none)) none))))))) none
noncomputable def J8(a b c d e f g h i j k:Int)(l:Pt)(m:PO)(n:Oa)(o:JP)(p:Int):KK:=letI q:=some (true,());letI r:=(ae bt m p).2.2;cond (ah m p) (cond (af .eql r.2.1 0) q (cond (af .eql r.2.1 1) q (cond (af .eql r.2.1 2) (cond (ah l r.1) (some (af .eql (ae b7 l r.1).2.2.2.1 1,())) none) (some (false,()))))) none
noncomputable def Pk(a b c d e:Int):KK:=(JM a).bind fun f=>letI g:=some (false,());cond f.1 ((jj b 0 1000001).bind fun h=>cond h.1 ((jj c 0 2).bind fun i=>cond i.1 ((jj d 0 6).bind fun j=>cond j.1 ((jj e 0 20064).bind fun k=>some (k.1,())) g) g) g) g
noncomputable def K1(a b c d e f g h i j k:Int)(l:Pt)(m:PO)(n:Oa)(o:JP)(p:Int):KK:=letI q:=ae bt m p;cond (ah m p) ((jj q.1 1 24).bind fun r=>letI s:=some (false,());cond (Bool.not r.1) s ((JF q.2.1).bind fun t=>letI u:=(0:Int);cond (Bool.not t.1) s ((jj q.2.2.1 u (aa .sub .i64 (ai l) 1)).bind fun v=>letI w:=q.2.2.2;cond (Bool.not v.1) s ((jj w.1 u 5).bind fun x=>letI y:=aa .add .i64 p 1;letI z:=(J8 a b c d e f g h i j k l m n o p).bind fun z=>letI A:=w.2.2.2;letI B:=A.2.2;letI C:=B.2.2.2;letI D:=af .eql C.1 u;letI E:=af .eql C.2 u;cond z.1 (cond (af .eql w.2.1 u) (cond (af .eql w.2.2.1 u) (cond D (cond E (lets (Bool.and (af .eql A.1 u) (Bool.and (af .eql A.2.1 u) (Bool.and (af .eql B.1 u) (Bool.and (af .eql B.2.1 u) (Bool.and (af .eql B.2.2.1 u) true))))) fun F=>some (F,())) s) s) s) s) ((jj w.2.1 u k).bind fun F=>cond (Bool.not F.1) s ((jj w.2.2.1 u h).bind fun G=>cond (Bool.not G.1) s ((Pk A.1 A.2.1 B.1 B.2.1 B.2.2.1).bind fun H=>cond (Bool.not H.1) s ((Lh a b c d e f g h i j k l m n o y).bind fun I=>cond (af .neq A.1 I.1) s (cond (af .eql w.1 4) ((JF C.1).bind fun J=>cond J.1 ((jj C.2 u (aa .add .i64 e (aa .mul .i64 g h))).bind fun K=>some (K.1,())) s) (cond D (some (E,())) s))))));cond (Bool.not x.1) s (cond (af .eql w.1 2) (cond (ah l q.2.2.1) (cond (af .neq (ae b7 l q.2.2.1).2.2.2.2.2.2.2.2.1 y) s z) none) z))))) none
noncomputable def Ls(a:Int×Int×Int×Int×Int×Int×Int×Int×Int×Int×Int×Pt×PO×Oa×JP×Int×Int×Xc)(b:OE):W9:=letI c:=(false,());letI d:=aa .add .i64 b.2.1 1;letI e:=a.2.2.2.2.2.2.2.2.2.2.2.2;letI f:=e.2.2.2.2.2.1;letI g:=ah f b.2.1;letI h:=(ae JG f b.2.1).2;letI i:=aa .sub .i64 h.2.1 1;letI j:=ae bt e.1 i;letI k:=j.2.2.2.2.2.2.2.2.2;cond (af .lss b.2.1 (ai f)) (cond g (cond (af .eql h.2.1 0) (some (.inl (b.1,d,()))) (cond (af .gtr h.2.1 (ai e.1)) (some (.inr (.inl c))) (cond (ah e.1 i) (lets k.1 fun _=>lets k.2.1 fun _=>lets k.2.2.1 fun _=>lets k.2.2.2 fun _=>lets (af .neq j.2.2.1 e.2.2.2.1) fun l=>cond l (some (.inr (.inl c))) (cond g (lets (af .neq j.1 h.1) fun m=>letI n:=j.2.2.2.1;cond m (some (.inr (.inl c))) (lets (af .neq n 2) fun o=>letI p:=(aa .add .i64 b.1 1,d,());letI q:=af .eql n 2;cond o (lets (af .neq n 3) fun r=>cond r (some (.inr (.inl c))) (lets q fun s=>cond s (cond g (cond h.2.2 (some (.inr (.inl c))) (some (.inl p))) none) (some (.inl p)))) (lets q fun r=>cond r (cond g (cond h.2.2 (some (.inr (.inl c))) (some (.inl p))) none) (some (.inl p))))) none)) none))) none) (some (.inr (.inr (.inl (b.1,())))))
noncomputable def Lv k x:=iter (Ls k) big x
noncomputable def Lr(a:ZA)(b:OE):W9:=letI c:=b.2.1;letI d:=a.2.2.2;letI e:=d.2.2.2;letI f:=e.2.2.2.2.2;letI g:=f.2.2.2.2.1;letI h:=(ae b7 f.1 g).2.2.1;cond (ah f.1 g) (cond (af .lss c (ai h)) (cond (ah f.1 g) (cond (ah h c) ((Lv (a.1,a.2.1,a.2.2.1,d.1,d.2.1,d.2.2.1,e.1,e.2.1,e.2.2.1,e.2.2.2.1,e.2.2.2.2.1,f.1,f.2.1,f.2.2.1,f.2.2.2.1,g,c,(ae m6 h c).2.2,()) (b.1,0,())).bind fun i=>Sum.elim (fun j=>some (.inr (.inl (j.1,())))) (fun j=>Sum.elim (fun k=>some (.inl (k.1,aa .add .i64 c 1,()))) (fun k=>Empty.elim k) j) i) none) none) (some (.inr (.inr (.inl (b.1,())))))) none
noncomputable def Lu k x:=iter (Lr k) big x
noncomputable def Lq(a:W8)(b:OE):W9:=letI c:=a.2.2.2.2;letI d:=c.2.2.2.2;letI e:=d.2.2.2;cond (af .lss b.2.1 (ai e.1)) ((Lu (a.1,a.2.1,a.2.2.1,a.2.2.2.1,c.1,c.2.1,c.2.2.1,c.2.2.2.1,d.1,d.2.1,d.2.2.1,e.1,e.2.1,e.2.2.1,e.2.2.2.1,b.2.1,()) (b.1,0,())).bind fun f=>Sum.elim (fun g=>some (.inr (.inl (g.1,())))) (fun g=>Sum.elim (fun h=>some (.inl (h.1,aa .add .i64 b.2.1 1,()))) (fun h=>Empty.elim h) g) f) (some (.inr (.inr (.inl (b.1,())))))
noncomputable def OC k x:=iter (Lq k) big x
noncomputable def Lt(a:W8)(b:OE):Zj:=letI c:=b.2.1;letI d:=aa .add .i64 c 1;letI e:=a.2.2.2.2.2.2.2.2.2.2.2.2.1;letI f:=(aa .sub .i64 b.1 1,d,());letI g:=(ae bt e c).2.2.2.1;cond (af .lss c (ai e)) (cond (ah e c) (cond (af .eql g 2) (some (.inl f)) (cond (ah e c) (cond (af .eql g 3) (some (.inl f)) (some (.inl (b.1,d,())))) none)) none) (some (.inr (.inl (b.1,()))))
noncomputable def OD k x:=iter (Lt k) big x
noncomputable def Ln(a b c d e f g h i j k:Int)(l:Pt)(m:PO)(n:Oa)(o:JP):KK:=letI p:=(a,b,c,d,e,f,g,h,i,j,k,l,m,n,o,());(OC p (0,0,())).bind fun q=>Sum.elim (fun r=>some (r.1,())) (fun r=>Sum.elim (fun s=>(OD p (s.1,0,())).bind fun t=>Sum.elim (fun u=>some (af .eql u.1 0,())) (fun u=>Empty.elim u) t) (fun s=>Empty.elim s) r) q
noncomputable def Nx(a:W8)(b:OE):Zj:=letI c:=b.2.1;letI d:=a.2.2.2.2.2;letI e:=aa .add .i64 c 1;letI f:=d.2.2.2.2.2;letI g:=f.2.2.1;cond (af .lss c (ai g)) (cond (ah g c) (cond (af .neq (ae bt g c).2.2.2.1 0) ((J8 a.1 a.2.1 a.2.2.1 a.2.2.2.1 a.2.2.2.2.1 d.1 d.2.1 d.2.2.1 d.2.2.2.1 d.2.2.2.2.1 f.1 f.2.1 g f.2.2.2.1 f.2.2.2.2.1 c).bind fun h=>cond h.1 (cond (ah g c) (some (.inl (aa .add .i64 b.1 (ae bt g c).1,e,()))) none) (some (.inl (b.1,e,())))) (some (.inl (b.1,e,())))) none) (some (.inr (.inl (b.1,()))))
noncomputable def Qj k x:=iter (Nx k) big x
noncomputable def NS(a b c d e f g h i j k:Int)(l:Pt)(m:PO)(n:Oa)(o:JP):RO:=(Qj (a,b,c,d,e,f,g,h,i,j,k,l,m,n,o,()) (0,0,())).bind fun p=>Sum.elim (fun q=>some (q.1,())) (fun q=>Empty.elim q) p
noncomputable def Mm(a:W8)(b:Nd):SY:=letI c:=a.2.2.2.2;letI d:=c.2.2.2.2;letI e:=d.2.2.2;cond (af .lss b.1 (ai e.1)) ((Mq a.1 a.2.1 a.2.2.1 a.2.2.2.1 c.1 c.2.1 c.2.2.1 c.2.2.2.1 d.1 d.2.1 d.2.2.1 e.1 e.2.1 e.2.2.1 e.2.2.2.1 b.1).bind fun f=>cond (Bool.not f.1) (some (.inr (.inl (false,())))) (some (.inl (aa .add .i64 b.1 1,())))) (some (.inr (.inr (.inl ()))))
noncomputable def Pm k x:=iter (Mm k) big x
noncomputable def Mn(a:W8)(b:Nd):SY:=letI c:=a.2.2.2.2;letI d:=c.2.2.2.2;letI e:=d.2.2.2.2;cond (af .lss b.1 (ai e.1)) ((K1 a.1 a.2.1 a.2.2.1 a.2.2.2.1 c.1 c.2.1 c.2.2.1 c.2.2.2.1 d.1 d.2.1 d.2.2.1 d.2.2.2.1 e.1 e.2.1 e.2.2.1 b.1).bind fun f=>cond (Bool.not f.1) (some (.inr (.inl (false,())))) (some (.inl (aa .add .i64 b.1 1,())))) (some (.inr (.inr (.inl ()))))
noncomputable def Pn k x:=iter (Mn k) big x
noncomputable def Ml(a b c d e f g h i j k:Int)(l:Pt)(m:PO)(n:Oa)(o:JP):KK:=(NQ a b c d e f g h).bind fun p=>letI q:=some (false,());cond (Bool.not p.1) q ((jj i 0 1000).bind fun r=>cond (Bool.not r.1) q ((JM j).bind fun s=>cond (Bool.not s.1) q ((jj k 0 20000).bind fun t=>cond (Bool.not t.1) q ((jj (ai l) 1 3).bind fun u=>cond (Bool.not u.1) q (cond (af .gtr (ai m) 12) q ((MZ n).bind fun v=>cond (Bool.not v.1) q ((Js o).bind fun w=>letI x:=(a,b,c,d,e,f,g,h,i,j,k,l,m,n,o,());cond (Bool.not w.1) q ((Pm x (0,())).bind fun y=>Sum.elim (fun z=>some (z.1,())) (fun z=>Sum.elim (fun _=>(Pn x (0,())).bind fun A=>Sum.elim (fun B=>some (B.1,())) (fun B=>Sum.elim (fun _=>(Ln a b c d e f g h i j k l m n o).bind fun C=>cond C.1 ((NS a b c d e f g h i j k l m n o).bind fun D=>some (af .leq D.1 i,())) q) (fun C=>Empty.elim C) B) A) (fun A=>Empty.elim A) z) y))))))))
noncomputable def Ji(a:Int):KK:=(ik a 1 40).bind fun b=>some (b.1,())
noncomputable def KM(a b c d e f:Int)(g:Bool):KK:=(Ji a).bind fun h=>letI i:=some (false,());cond h.1 ((Ji b).bind fun j=>cond j.1 (cond (af .neq a b) ((ik c 0 999).bind fun k=>cond k.1 ((ik d 0 5).bind fun l=>cond l.1 ((JR e).bind fun m=>cond m.1 ((JR f).bind fun n=>cond n.1 (some (af .lss e f,())) i) i) i) i) i) i) i
noncomputable def Nf(a b c d e f:Int)(g:Bool):KK:=(KM a b c d e f g).bind fun h=>some (Bool.not h.1,())
noncomputable def qk(a:Oa×Nd)(b:Nd):Zh:=letI c:=ae xx a.1 b.1;letI d:=c.2.2.2;cond (af .lss b.1 a.2.1) (cond (ah a.1 b.1) ((Nf c.1 c.2.1 c.2.2.1 d.1 d.2.1 d.2.2.1 d.2.2.2).bind fun e=>cond e.1 (some (.inr (.inl (b.1,())))) (some (.inl (aa .add .i64 b.1 1,())))) none) (some (.inr (.inr (.inl ()))))
noncomputable def z1 k x:=iter (qk k) big x
noncomputable def H6(a:Oa):RO:=(z1 (a,ai a,()) (0,())).bind fun b=>Sum.elim (fun c=>some (c.1,())) (fun c=>Sum.elim (fun _=>some (-1,())) (fun d=>Empty.elim d) c) b
noncomputable def zT(a:Oa):KK:=(H6 a).bind fun b=>some (af .geq b.1 0,())
noncomputable def MR(a:Oa):KK:=cond (af .leq (ai a) 30) ((zT a).bind fun b=>some (Bool.not b.1,())) (some (false,()))
noncomputable def Mu(a:Int×Q8×Sn×XC)(b:Nd):SY:=letI c:=ae zI a.2.2.2.1 b.1;cond (af .lss b.1 a.2.2.2.2.1) (cond (ah a.2.2.2.1 b.1) ((ik c 1 (aa .sub .i64 a.1 1)).bind fun d=>letI e:=aa .sub .i64 b.1 1;letI f:=(aa .add .i64 b.1 1,());cond (Bool.not d.1) (some (.inr (.inl (false,())))) (cond (af .gtr b.1 0) (cond (ah a.2.1 e) (cond (af .leq c (ae zI a.2.1 e)) (some (.inr (.inl (false,())))) (some (.inl f))) none) (some (.inl f)))) none) (some (.inr (.inr (.inl ()))))
noncomputable def Mw k x:=iter (Mu k) big x
noncomputable def KL(a:Int×Q8×Sn×Xe)(b:Int×WU×WV):Option (Int×WU×WV⊕VX⊕Int×WU×Unit⊕Empty):=letI c:=(false,());letI d:=b.2.2.2.1;letI e:=ae JG a.2.2.2.1 d;cond (af .lss d a.2.2.2.2.1) (cond (ah a.2.2.2.1 d) (cond (af .neq e.1 b.1) (some (.inr (.inl c))) ((ik e.2.1 1 (aa .sub .i64 a.1 b.1)).bind fun f=>letI g:=e.2.2.1;cond (Bool.not f.1) (some (.inr (.inl c))) ((ik g 0 999).bind fun h=>letI i:=(aa .add .i64 b.1 e.2.1,eT b.2.1 e.1 true,eT b.2.2.1 g true,aa .add .i64 d 1,());cond (Bool.not h.1) (some (.inr (.inl c))) (cond (af .gtr g 0) (cond (ct b.2.2.1 g) (some (.inr (.inl c))) (some (.inl i))) (some (.inl i)))))) none) (some (.inr (.inr (.inl (b.1,b.2.1,())))))
noncomputable def Mx k x:=iter (KL k) big x
noncomputable def Mv(a:Int×Q8×Sn×Int×XC)(b:WV):Option (WV⊕ZG):=letI c:=a.2.2.2.2;cond (af .lss b.2.1 c.2.1) (cond (ah c.1 b.2.1) (cond (Bool.not (ct b.1 (ae zI c.1 b.2.1))) (some (.inr (.inl (false,())))) (some (.inl (b.1,aa .add .i64 b.2.1 1,())))) none) (some (.inr (.inr (.inl ()))))
noncomputable def My k x:=iter (Mv k) big x
noncomputable def K9(a:Int)(b:Q8)(c:Sn):KK:=(ik a 1 24).bind fun d=>letI e:=some (false,());cond (Bool.not d.1) e (cond (af .eql (ai c) 0) e ((Mw (a,b,c,b,ai b,()) (0,())).bind fun f=>Sum.elim (fun g=>some (g.1,())) (fun g=>Sum.elim (fun _=>(Mx (a,b,c,c,ai c,()) (0,([]:WU),([]:WU),0,())).bind fun h=>Sum.elim (fun i=>some (i.1,())) (fun i=>Sum.elim (fun j=>(My (a,b,c,j.1,b,ai b,()) (j.2.1,0,())).bind fun k=>Sum.elim (fun l=>some (l.1,())) (fun l=>Sum.elim (fun _=>some (af .eql j.1 a,())) (fun m=>Empty.elim m) l) k) (fun j=>Empty.elim j) i) h) (fun h=>Empty.elim h) g) f))
noncomputable def LK(a:SZ×Int×Int×Xe)(b:WV):Option (WV⊕VX⊕WU×Unit⊕Empty):=letI c:=(ae JG a.2.2.2.1 b.2.1).2.2.1;letI d:=(eT b.1 c true,aa .add .i64 b.2.1 1,());cond (af .lss b.2.1 a.2.2.2.2.1) (cond (ah a.2.2.2.1 b.2.1) (cond (af .gtr c 0) (cond (ct b.1 c) (some (.inr (.inl (false,())))) (some (.inl d))) (some (.inl d))) none) (some (.inr (.inr (.inl (b.1,())))))
noncomputable def Oj k x:=iter (LK k) big x
noncomputable def Oh(a:XD)(b:WV):Option (WV⊕ZG):=letI c:=b.2.1;letI d:=ae m6 a.1 c;cond (af .lss c a.2.1) (cond (ah a.1 c) ((K9 d.1 d.2.1 d.2.2).bind fun e=>cond (Bool.not e.1) (some (.inr (.inl (false,())))) ((Oj (a.1,a.2.1,c,d.2.2,ai d.2.2,()) (b.1,0,())).bind fun f=>Sum.elim (fun g=>some (.inr (.inl (g.1,())))) (fun g=>Sum.elim (fun h=>some (.inl (h.1,aa .add .i64 c 1,()))) (fun h=>Empty.elim h) g) f)) none) (some (.inr (.inr (.inl ()))))
noncomputable def Oi k x:=iter (Oh k) big x
noncomputable def Lx(a:SZ):KK:=(ik (ai a) 1 6).bind fun b=>cond (Bool.not b.1) (some (false,())) ((Oi (a,ai a,()) (([]:WU),0,())).bind fun c=>Sum.elim (fun d=>some (d.1,())) (fun d=>Sum.elim (fun _=>some (true,())) (fun e=>Empty.elim e) d) c)
noncomputable def Se(a b:Int)(c d e:Bool):KK:=some (bQ e (af .eql a 1),())
noncomputable def KE(a b:Int)(c d e:Bool):KK:=(ik a 0 2).bind fun f=>letI g:=some (false,());cond (Bool.not f.1) g ((ik b 0 6).bind fun h=>letI i:=some (Bool.not c,());letI j:=Se a b c d e;letI k:=cond c (some (Bool.not d,())) g;letI l:=cond (af .eql a 0) (cond (af .eql b 0) i g) (cond (af .eql b 1) (j.bind fun l=>cond (Bool.not l.1) i g) (cond (af .eql b 2) (j.bind fun l=>cond (Bool.not l.1) k g) (cond (af .eql b 3) (j.bind fun l=>cond (Bool.not l.1) (some (d,())) g) (cond (af .eql b 4) (j.bind fun l=>cond l.1 (some (d,())) g) (cond (af .eql b 5) k (cond (af .eql b 6) i (some (true,()))))))));cond (Bool.not h.1) g (cond d (cond (Bool.not c) g l) l))
noncomputable def O4(a b c d e f g h i j k:Int)(l:Pt)(m:PO)(n:Oa)(o:JP)(p:Int):KK:=letI q:=ae b7 l p;cond (ah l p) ((M5 q.1 q.2.1).bind fun r=>letI s:=some (false,());cond (Bool.not r.1) s ((Lx q.2.2.1).bind fun t=>letI u:=q.2.2.2;letI v:=u.2.2.2;cond (Bool.not t.1) s ((KE u.1 u.2.1 u.2.2.1 v.1 v.2.1).bind fun w=>letI x:=v.2.2;cond (Bool.not w.1) s ((Jm x.2.2).bind fun y=>letI z:=af .eql u.1 0;letI A:=af .eql x.2.1 0;cond (Bool.not y.1) s (cond (af .eql x.1 0) (lets (Bool.and z (Bool.and (af .eql u.2.1 0) (Bool.and (bQ u.2.2.1 false) (Bool.and (bQ v.1 false) (Bool.and (bQ v.2.1 false) true))))) fun B=>cond B (some (A,())) s) ((ik x.1 1 (ai m)).bind fun B=>letI C:=aa .sub .i64 x.1 1;letI D:=(ae bt m C).2.2;cond (Bool.not B.1) s (cond (ah m C) (cond (af .neq D.1 p) s (cond (af .neq D.2.1 2) s (cond z s (cond A (some (true,())) (cond (af .eql u.1 2) ((Ji x.2.1).bind fun E=>some (E.1,())) s))))) none))))))) none
noncomputable def Ko(a b c d e f g h i j k:Int)(l:Pt)(m:PO)(n:Oa)(o:JP)(p q r s t u v w x y z A B:Int):KK:=letI C:=some (true,());cond (af .eql s 0) C (cond (af .eql s 1) C (cond (af .eql s 2) (cond (ah l r) (some (af .eql (ae b7 l r).2.2.2.1 1,())) none) (some (false,()))))
noncomputable def OZ(a b c d e:Int):KK:=(JT a).bind fun f=>letI g:=some (false,());cond f.1 ((ik b 0 1000001).bind fun h=>cond h.1 ((ik c 0 2).bind fun i=>cond i.1 ((ik d 0 6).bind fun j=>cond j.1 ((ik e 0 20064).bind fun k=>some (k.1,())) g) g) g) g
noncomputable def MS(a b c d e f g h i j k:Int)(l:Pt)(m:PO)(n:Oa)(o:JP)(p:Int):KK:=letI q:=ae bt m p;cond (ah m p) ((ik q.1 1 24).bind fun r=>letI s:=some (false,());cond (Bool.not r.1) s ((Ji q.2.1).bind fun t=>letI u:=(0:Int);letI v:=q.2.2.1;cond (Bool.not t.1) s ((ik v u (aa .sub .i64 (ai l) 1)).bind fun w=>letI x:=q.2.2.2;cond (Bool.not w.1) s ((ik x.1 u 5).bind fun y=>letI z:=aa .add .i64 p 1;letI A:=x.2.2.2;letI B:=A.2.2;letI C:=B.2.2.2;letI D:=(Ko a b c d e f g h i j k l m n o q.1 q.2.1 v x.1 x.2.1 x.2.2.1 A.1 A.2.1 B.1 B.2.1 B.2.2.1 C.1 C.2).bind fun D=>letI E:=af .eql C.1 u;letI F:=af .eql C.2 u;cond D.1 (cond (af .eql x.2.1 u) (cond (af .eql x.2.2.1 u) (cond E (cond F (lets (Bool.and (af .eql A.1 u) (Bool.and (af .eql A.2.1 u) (Bool.and (af .eql B.1 u) (Bool.and (af .eql B.2.1 u) (Bool.and (af .eql B.2.2.1 u) true))))) fun G=>some (G,())) s) s) s) s) ((ik x.2.1 u k).bind fun G=>cond (Bool.not G.1) s ((ik x.2.2.1 u h).bind fun H=>cond (Bool.not H.1) s ((OZ A.1 A.2.1 B.1 B.2.1 B.2.2.1).bind fun I=>cond (Bool.not I.1) s ((La a b c d e f g h i j k l m n o z).bind fun J=>cond (af .neq A.1 J.1) s (cond (af .eql x.1 4) ((Ji C.1).bind fun K=>cond K.1 ((ik C.2 u (aa .add .i64 e (aa .mul .i64 g h))).bind fun L=>some (L.1,())) s) (cond E (some (F,())) s))))));cond (Bool.not y.1) s (cond (af .eql x.1 2) (cond (ah l v) (cond (af .neq (ae b7 l v).2.2.2.2.2.2.2.2.1 z) s D) none) D))))) none
noncomputable def Nk(a:Int×Int×Int×Int×Int×Int×Int×Int×Int×Int×Int×Pt×PO×Oa×JP×Int×Pt×Int×Int×SZ×Int×Int×Xe)(b:OE):W9:=letI c:=aa .add .i64 b.2.1 1;letI d:=a.2.2.2.2.2.2.2.2.2.2.2.2;letI e:=d.2.2.2.2.2.2.2.2.2.2;letI f:=(ae JG e.1 b.2.1).2;cond (af .lss b.2.1 e.2.1) (cond (ah e.1 b.2.1) (cond (af .eql f.2.1 0) (some (.inl (b.1,c,()))) ((ik f.2.1 1 (ai d.1)).bind fun g=>letI h:=(false,());letI i:=aa .sub .i64 f.2.1 1;letI j:=ae bt d.1 i;letI k:=j.2.2.2;cond (Bool.not g.1) (some (.inr (.inl h))) (cond (ah d.1 i) (lets k.2.1 fun _=>lets k.2.2.1 fun _=>letI l:=k.2.2.2;lets l.1 fun _=>lets l.2.1 fun _=>lets l.2.2.1 fun _=>letI m:=l.2.2.2;lets m.1 fun _=>lets m.2.1 fun _=>lets m.2.2.1 fun _=>lets m.2.2.2 fun _=>lets (af .neq k.1 2) fun n=>letI o:=(aa .add .i64 b.1 1,c,());letI p:=af .eql k.1 2;letI q:=af .neq j.2.2.1 d.2.2.2.1;letI r:=af .neq j.1 f.1;cond n (lets (af .neq k.1 3) fun s=>cond s (some (.inr (.inl h))) (lets q fun t=>cond t (some (.inr (.inl h))) (lets r fun u=>cond u (some (.inr (.inl h))) (lets p fun v=>cond v (cond f.2.2 (some (.inr (.inl h))) (some (.inl o))) (some (.inl o)))))) (lets q fun s=>cond s (some (.inr (.inl h))) (lets r fun t=>cond t (some (.inr (.inl h))) (lets p fun u=>cond u (cond f.2.2 (some (.inr (.inl h))) (some (.inl o))) (some (.inl o)))))) none))) none) (some (.inr (.inr (.inl (b.1,())))))
noncomputable def Nn k x:=iter (Nk k) big x
noncomputable def Nj(a:Int×Int×Int×Int×Int×Int×Int×Int×Int×Int×Int×Pt×PO×Oa×JP×Int×Pt×Int×Int×XD)(b:OE):W9:=letI c:=b.2.1;letI d:=a.2.2.2;letI e:=d.2.2.2;letI f:=e.2.2.2;letI g:=f.2.2.2;letI h:=g.2.2.2;letI i:=h.2.2.2;letI j:=(ae m6 i.2.1 c).2.2;cond (af .lss c i.2.2.1) (cond (ah i.2.1 c) ((Nn (a.1,a.2.1,a.2.2.1,d.1,d.2.1,d.2.2.1,e.1,e.2.1,e.2.2.1,f.1,f.2.1,f.2.2.1,g.1,g.2.1,g.2.2.1,h.1,h.2.1,h.2.2.1,i.1,i.2.1,i.2.2.1,c,j,ai j,()) (b.1,0,())).bind fun k=>Sum.elim (fun l=>some (.inr (.inl (l.1,())))) (fun l=>Sum.elim (fun m=>some (.inl (m.1,aa .add .i64 c 1,()))) (fun m=>Empty.elim m) l) k) none) (some (.inr (.inr (.inl (b.1,())))))
noncomputable def Nm k x:=iter (Nj k) big x
noncomputable def Ni(a:Int×Int×Int×Int×Int×Int×Int×Int×Int×Int×Int×Pt×PO×Oa×JP×Yz)(b:OE):W9:=letI c:=b.2.1;letI d:=a.2.2.2.2.2;letI e:=d.2.2.2.2.2;letI f:=e.2.2.2.2.2;letI g:=(ae b7 f.1 c).2.2.1;cond (af .lss c f.2.1) (cond (ah f.1 c) ((Nm (a.1,a.2.1,a.2.2.1,a.2.2.2.1,a.2.2.2.2.1,d.1,d.2.1,d.2.2.1,d.2.2.2.1,d.2.2.2.2.1,e.1,e.2.1,e.2.2.1,e.2.2.2.1,e.2.2.2.2.1,c,f.1,f.2.1,c,g,ai g,()) (b.1,0,())).bind fun h=>Sum.elim (fun i=>some (.inr (.inl (i.1,())))) (fun i=>Sum.elim (fun j=>some (.inl (j.1,aa .add .i64 c 1,()))) (fun j=>Empty.elim j) i) h) none) (some (.inr (.inr (.inl (b.1,())))))
noncomputable def Qf k x:=iter (Ni k) big x
noncomputable def Nl(a:YA)(b:OE):Zj:=letI c:=aa .add .i64 b.2.1 1;letI d:=(ae bt a.1 b.2.1).2.2.2.1;letI e:=(aa .sub .i64 b.1 1,c,());cond (af .lss b.2.1 a.2.1) (cond (ah a.1 b.2.1) (cond (af .eql d 2) (some (.inl e)) (cond (af .eql d 3) (some (.inl e)) (some (.inl (b.1,c,()))))) none) (some (.inr (.inl (b.1,()))))
noncomputable def Qg k x:=iter (Nl k) big x
noncomputable def NJ(a b c d e f g h i j k:Int)(l:Pt)(m:PO)(n:Oa)(o:JP):KK:=(Qf (a,b,c,d,e,f,g,h,i,j,k,l,m,n,o,l,ai l,()) (0,0,())).bind fun p=>Sum.elim (fun q=>some (q.1,())) (fun q=>Sum.elim (fun r=>(Qg (m,ai m,()) (r.1,0,())).bind fun s=>Sum.elim (fun t=>some (af .eql t.1 0,())) (fun t=>Empty.elim t) s) (fun r=>Empty.elim r) q) p
noncomputable def Ol(a:Int×Int×Int×Int×Int×Int×Int×Int×Int×Int×Int×Pt×PO×Oa×JP×YA)(b:OE):Zj:=letI c:=a.2.2.2.2.2;letI d:=aa .add .i64 b.2.1 1;letI e:=c.2.2.2.2;letI f:=e.2.2.2.2;letI g:=ae bt f.2.2.1 b.2.1;letI h:=g.2.2.2;letI i:=h.2.2.2;letI j:=i.2.2.2;cond (af .lss b.2.1 f.2.2.2.1) (cond (ah f.2.2.1 b.2.1) (cond (af .neq h.1 0) ((Ko a.1 a.2.1 a.2.2.1 a.2.2.2.1 a.2.2.2.2.1 c.1 c.2.1 c.2.2.1 c.2.2.2.1 e.1 e.2.1 e.2.2.1 e.2.2.2.1 f.1 f.2.1 g.1 g.2.1 g.2.2.1 h.1 h.2.1 h.2.2.1 i.1 i.2.1 i.2.2.1 j.1 j.2.1 j.2.2.1 j.2.2.2).bind fun k=>cond k.1 (some (.inl (aa .add .i64 b.1 g.1,d,()))) (some (.inl (b.1,d,())))) (some (.inl (b.1,d,())))) none) (some (.inr (.inl (b.1,()))))
noncomputable def Qr k x:=iter (Ol k) big x
noncomputable def O2(a b c d e f g h i j k:Int)(l:Pt)(m:PO)(n:Oa)(o:JP):RO:=(Qr (a,b,c,d,e,f,g,h,i,j,k,l,m,n,o,m,ai m,()) (0,0,())).bind fun p=>Sum.elim (fun q=>some (q.1,())) (fun q=>Empty.elim q) p
noncomputable def LO(a:ZA)(b:Nd):SY:=letI c:=a.2.2.2.2;letI d:=c.2.2.2.2;letI e:=d.2.2.2.2;cond (af .lss b.1 e.2.2.2.1) ((O4 a.1 a.2.1 a.2.2.1 a.2.2.2.1 c.1 c.2.1 c.2.2.1 c.2.2.2.1 d.1 d.2.1 d.2.2.1 d.2.2.2.1 e.1 e.2.1 e.2.2.1 b.1).bind fun f=>cond (Bool.not f.1) (some (.inr (.inl (false,())))) (some (.inl (aa .add .i64 b.1 1,())))) (some (.inr (.inr (.inl ()))))
noncomputable def O0 k x:=iter (LO k) big x
noncomputable def LP(a:ZA)(b:Nd):SY:=letI c:=a.2.2.2.2;letI d:=c.2.2.2.2;letI e:=d.2.2.2.2;cond (af .lss b.1 e.2.2.2.1) ((MS a.1 a.2.1 a.2.2.1 a.2.2.2.1 c.1 c.2.1 c.2.2.1 c.2.2.2.1 d.1 d.2.1 d.2.2.1 d.2.2.2.1 e.1 e.2.1 e.2.2.1 b.1).bind fun f=>cond (Bool.not f.1) (some (.inr (.inl (false,())))) (some (.inl (aa .add .i64 b.1 1,())))) (some (.inr (.inr (.inl ()))))
noncomputable def O1 k x:=iter (LP k) big x
noncomputable def LN(a b c d e f g h i j k:Int)(l:Pt)(m:PO)(n:Oa)(o:JP):KK:=(NI a b c d e f g h).bind fun p=>letI q:=some (false,());cond (Bool.not p.1) q ((ik i 0 1000).bind fun r=>cond (Bool.not r.1) q ((JT j).bind fun s=>cond (Bool.not s.1) q ((JR k).bind fun t=>cond (Bool.not t.1) q ((ik (ai l) 1 3).bind fun u=>cond (Bool.not u.1) q (cond (af .gtr (ai m) 12) q ((MR n).bind fun v=>cond (Bool.not v.1) q ((Jm o).bind fun w=>cond (Bool.not w.1) q ((O0 (a,b,c,d,e,f,g,h,i,j,k,l,m,n,o,ai l,()) (0,())).bind fun x=>Sum.elim (fun y=>some (y.1,())) (fun y=>Sum.elim (fun _=>(O1 (a,b,c,d,e,f,g,h,i,j,k,l,m,n,o,ai m,()) (0,())).bind fun z=>Sum.elim (fun A=>some (A.1,())) (fun A=>Sum.elim (fun _=>(NJ a b c d e f g h i j k l m n o).bind fun B=>cond B.1 ((O2 a b c d e f g h i j k l m n o).bind fun C=>some (af .leq C.1 i,())) q) (fun B=>Empty.elim B) A) z) (fun z=>Empty.elim z) y) x))))))))
end Go.Fn
set_option linter.unusedVariables false
set_option linter.unusedSimpArgs false
namespace Go.Fn
open Go.R
theorem V8(m:List (Int×Bool))(k k':Int)(v:Bool):ct (eT m k v) k'=bif k'==k then v else ct m k':=by
 induction m with
 |nil=>simp only[eT,ct]
 |cons y r ih=>
  unfold eT;cases hb:k==y.1 with
  |true=>
   have hk:k=y.1:=by simpa using hb
   subst hk;simp only[cond_true,ct];cases k'==y.1 <;> rfl
  |false=>
   simp only[cond_false,ct,ih];cases h1:k'==y.1 with
   |false=>rfl
   |true=>
    have:k'=y.1:=by simpa using h1
    subst this;have:(y.1==k)=false:=by rw[Bool.eq_false_iff]at hb⊢;intro e;exact hb (by simpa using (beq_iff_eq.1 e).symm)
    rw[this];rfl
noncomputable def Ia(m:List (Int×Bool))(l:List Int):List (Int×Bool):=l.foldl (fun m k=>eT m k true) m
theorem M8(k:Int):∀(l:List Int) (m:List (Int×Bool)),ct (Ia m l) k=true↔ct m k=true\/k∈l
 | [],m=>by simp[Ia]
 |x::l,m=>by
  have:=M8 k l (eT m x true);unfold Ia at this⊢;rw[List.foldl_cons,this,V8];cases hb:k==x with
  |true=>simp[beq_iff_eq.1 hb]
  |false=>
   have:k≠x:=by rintro rfl;simp at hb
   simp[this]
theorem QC(m:List (Int×Bool))(l:List Int)(x:Int):Ia m (l++[x])=eT (Ia m l) x true:=by unfold Ia;rw[List.foldl_append];rfl
theorem NV{α:Type}{l:List α}{n:Nat}(h:n<l.length)(z:α):l.take (n+1)=l.take n++[l.getD n z]:=by rw[List.take_add_one,List.getElem?_eq_getElem h,List.getD_eq_getElem?_getD,List.getElem?_eq_getElem h];rfl
theorem RK{α:Type}{l:List α}{n:Nat}{x z:α}(hn:n<=l.length):x∈l.take n↔∃k,k<n/\l.getD k z=x:=by
 constructor
 ·intro h;obtain⟨k,hk,e⟩:=List.mem_iff_getElem.1 h;rw[List.length_take]at hk;rw[List.getElem_take]at e;exact⟨k,by omega,by rw[List.getD_eq_getElem?_getD,List.getElem?_eq_getElem (by omega)];exact e⟩
 ·rintro⟨k,hk,e⟩;rw[List.getD_eq_getElem?_getD,List.getElem?_eq_getElem (show k<l.length by omega)]at e;rw[<-e];have:(l.take n)[k]? = some l[k]:=by rw[List.getElem?_take_of_lt hk,List.getElem?_eq_getElem (by omega)]
  exact List.mem_of_getElem? this
noncomputable def II(l:List Bx)(n:Nat):Bx:=l.getD n JG
noncomputable def J7(l:List Bx)(n:Nat):Int:=(l.take n).foldl (fun a b=>aa .add .i64 a b.2.1) 0
theorem NT(l:List Bx){n:Nat}(h:n<l.length):J7 l (n+1)=aa .add .i64 (J7 l n) (II l n).2.1:=by unfold J7 II;rw[NV h JG,List.foldl_append];rfl
noncomputable def Sa(l:List Bx)(n k:Nat):Bool:=Bool.not (af .gtr (II l n).2.2.1 0&&af .eql (II l k).2.2.1 (II l n).2.2.1)
noncomputable def VN(l:List Bx)(n:Nat):Bool:=Bool.not (af .neq (II l n).1 (J7 l n))&&KA (II l n).2.1 1 24&&KA (II l n).2.2.1 0 999&&aB (Sa l n) 0 n&&Bool.not (af .gtr (J7 l (n+1)) 24)
theorem TL(h:Int)(f:List Int)(l:List Bx)(hl:l.length<=1073741824):M0 h f l=some (aB (VN l) 0 l.length&&(af .gtr (ai l) 0&&af .eql (J7 l l.length) h),()):=by
 unfold M0;have:MN (h,f,l,()) (0,0,())=some (bif aB (VN l) 0 l.length then(Sum.inr (Sum.inl (J7 l l.length,())):Bool×Unit⊕(Int×Unit⊕Empty))else .inl (false,())):=by
  refine bp (fun n=>(J7 l n,(n:Int),())) l.length (by omega) (VN l) _ _ (fun n hn=>?_) ?_
  ·have hin:KZ (h,f,l,J7 l n,(n:Int),()) ((II l n).1,(II l n).2.1,(II l n).2.2.1,(II l n).2.2.2,0,())=some (bif aB (Sa l n) 0 n then(Sum.inr (Sum.inl ((II l n).1,(II l n).2.1,(II l n).2.2.1,(II l n).2.2.2,())):Bool×Unit⊕(Int×Int×Int×Bool×Unit⊕Empty))else .inl (false,())):=by
    refine bp (fun k=>((II l n).1,(II l n).2.1,(II l n).2.2.1,(II l n).2.2.2,(k:Int),())) n (by omega) (Sa l n) _ _ (fun k hk=>?_) ?_
    ·unfold MM Sa;have cJ:k<l.length:=by omega
     simp only[eH,hk,decide_true,cond_true,az,cJ,aq,av (n:=k) (by omega)];show(bif af .gtr (II l n).2.2.1 0 then(bif af .eql (II l k).2.2.1 (II l n).2.2.1 then _ else _)else _)=_;cases af .gtr (II l n).2.2.1 0 <;> cases af .eql (II l k).2.2.1 (II l n).2.2.1 <;> rfl
    ·unfold MM;simp only[eH,Nat.lt_irrefl,decide_false,cond_false]
   unfold ML VN;simp only[aj,hn,decide_true,cond_true,az,aq,M6,Option.bind_some,av (n:=n) (by omega),NT l hn];show(bif af .neq (II l n).1 (J7 l n)then _ else bif Bool.not (KA (II l n).2.1 1 24)then _ else bif Bool.not (KA (II l n).2.2.1 0 999)then _ else(KZ (h,f,l,J7 l n,(n:Int),()) ((II l n).1,(II l n).2.1,(II l n).2.2.1,(II l n).2.2.2,0,())).bind _)=_;rw[hin];cases af .neq (II l n).1 (J7 l n)with
   |true=>rfl
   |false=>
    cases KA (II l n).2.1 1 24 with
    |false=>rfl
    |true=>
     cases KA (II l n).2.2.1 0 999 with
     |false=>rfl
     |true=>
      cases aB (Sa l n) 0 n with
      |false=>rfl
      |true=>simp only[Bool.not_true,cond_false,cond_true,Option.bind_some,Sum.elim_inr,Sum.elim_inl,Bool.not_false,Bool.true_and];cases af .gtr (aa .add .i64 (J7 l n) (II l n).2.1) 24 <;> rfl
  ·unfold ML;simp only[aj,Nat.lt_irrefl,decide_false,cond_false]
 rw[this];cases aB (VN l) 0 l.length with
 |false=>rfl
 |true=>simp only[cond_true,Option.bind_some,Sum.elim_inr,Sum.elim_inl,Bool.true_and];cases af .gtr (ai l) 0 <;> rfl
noncomputable def Rp(l:List Bx):List Int:=l.map (·.1)
noncomputable def M9(l:List Bx):List Int:=l.map (·.2.2.1)
noncomputable def WG(h:Int)(l:List Bx)(n:Nat):Bool:=Bool.not (af .neq (II l n).1 (J7 l n))&&KA (II l n).2.1 1 (aa .sub .i64 h (J7 l n))&&KA (II l n).2.2.1 0 999&&Bool.not (af .gtr (II l n).2.2.1 0&&ct (Ia [] (M9 (l.take n))) (II l n).2.2.1)
theorem TC(h:Int)(f:List Int)(l:List Bx)(hl:l.length<=1073741824):Mx (h,f,l,l,ai l,()) (0,[],[],0,())=some (bif aB (WG h l) 0 l.length then(Sum.inr (Sum.inl (J7 l l.length,Ia [] (Rp l),())):Bool×Unit⊕(Int×(List (Int×Bool))×Unit⊕Empty))else .inl (false,())):=by
 have:=bp (body:=KL (h,f,l,l,ai l,())) (fun n=>(J7 l n,Ia [] (Rp (l.take n)),Ia [] (M9 (l.take n)),(n:Int),())) l.length (by omega) (WG h l) (.inr (.inl (J7 l l.length,Ia [] (Rp l),()))) (.inl (false,())) (fun n hn=>?_) ?_
 ·exact this
 ·unfold KL WG;have e1:Ia [] (Rp (l.take (n+1)))=eT (Ia [] (Rp (l.take n))) (II l n).1 true:=by unfold Rp II;rw[NV hn JG,List.map_append];exact QC _ _ _
  have e2:Ia [] (M9 (l.take (n+1)))=eT (Ia [] (M9 (l.take n))) (II l n).2.2.1 true:=by unfold M9 II;rw[NV hn JG,List.map_append];exact QC _ _ _
  simp only[aj,hn,decide_true,cond_true,az,aq,IZ,Option.bind_some,av (n:=n) (by omega),NT l hn,e1,e2];show(bif af .neq (II l n).1 (J7 l n)then _ else bif Bool.not (KA (II l n).2.1 1 (aa .sub .i64 h (J7 l n)))then _ else bif Bool.not (KA (II l n).2.2.1 0 999)then _ else bif af .gtr (II l n).2.2.1 0 then(bif ct (Ia [] (M9 (l.take n))) (II l n).2.2.1 then _ else _)else _)=_;cases af .neq (II l n).1 (J7 l n)with
  |true=>rfl
  |false=>
   cases KA (II l n).2.1 1 (aa .sub .i64 h (J7 l n))with
   |false=>rfl
   |true=>
    cases KA (II l n).2.2.1 0 999 with
    |false=>rfl
    |true=>
     cases af .gtr (II l n).2.2.1 0 with
     |false=>rfl
     |true=>cases ct (Ia [] (M9 (l.take n))) (II l n).2.2.1 <;> rfl
 ·unfold KL;simp only[aj,Nat.lt_irrefl,decide_false,cond_false,List.take_length]
theorem Wa{a b:Int}:af .neq a b=false↔a=b:=by simp[af]
theorem V6{a b:Int}:af .gtr a b=false↔a<=b:=by simp[af]
theorem YH{a b:Int}:af .gtr a b=true↔b<a:=by simp[af]
theorem S4{a b:Int}:af .eql a b=true↔a=b:=by simp[af]
theorem Vf{l:List Bx}{n:Nat}(hn:n<=l.length)(p:Int):ct (Ia [] (M9 (l.take n))) p=true↔∃k,k<n/\(II l k).2.2.1=p:=by
 rw[M8];simp only[ct,Bool.false_eq_true,false_or,M9,List.mem_map];constructor
 ·rintro⟨b,hb,e⟩;obtain⟨k,hk,rfl⟩:=(RK (z:=JG) hn).1 hb;exact⟨k,hk,e⟩
 ·rintro⟨k,hk,e⟩;exact⟨II l k,(RK (z:=JG) hn).2 ⟨k,hk,rfl⟩,e⟩
theorem Tv{l:List Bx}{n:Nat}(hn:n<=l.length):(Bool.not (af .gtr (II l n).2.2.1 0&&ct (Ia [] (M9 (l.take n))) (II l n).2.2.1))=aB (Sa l n) 0 n:=by
 rw[Bool.eq_iff_iff,aQ];simp only[Sa,Bool.not_eq_true',Bool.and_eq_false_iff];cases h0:af .gtr (II l n).2.2.1 0 with
 |false=>exact⟨fun _ _ _ _=>.inl rfl,fun _=>.inl rfl⟩
 |true=>
  constructor
  ·intro h m _ hm;refine .inr ?_;rcases h with h|h
   ·cases h
   ·cases he:af .eql (II l m).2.2.1 (II l n).2.2.1 with
    |false=>rfl
    |true=>have:=(Vf hn _).2 ⟨m,by omega,S4.1 he⟩;rw[h]at this;cases this
  ·intro h;refine .inr ?_;cases hm:ct (Ia [] (M9 (l.take n))) (II l n).2.2.1 with
   |false=>rfl
   |true=>
    obtain⟨k,hk,e⟩:=(Vf hn _).1 hm;rcases h k (Nat.zero_le _) (by omega)with h|h
    ·cases h
    ·rw[S4.2 e]at h;cases h
theorem Vp{h:Int}(h1:1<=h)(h2:h<=24)(l:List Bx)(hl:l.length<=1073741824):(aB (VN l) 0 l.length=true/\J7 l l.length=h)↔(aB (WG h l) 0 l.length=true/\J7 l l.length=h):=by
 have mono:∀(hs:∀n,n<l.length->0<=J7 l n/\J7 l n<=J7 l (n+1)) (m n:Nat),m<=n->n<=l.length->J7 l m<=J7 l n:=by
  intro hs m n hmn hn;induction n with
  |zero=>rw[show m=0 by omega];exact Int.le_refl _
  |succ n ih=>
   rcases Nat.lt_or_ge m (n+1)with h|h
   ·exact Int.le_trans (ih (by omega) (by omega)) (hs n (by omega)).2
   ·rw[show m=n+1 by omega];exact Int.le_refl _
 have p0:J7 l 0=0:=rfl;constructor
 ·rintro⟨ha,he⟩;rw[aQ]at ha;simp only[VN,Bool.and_eq_true,Bool.not_eq_true',Wa,V6,Ke]at ha;have hp:∀n,n<=l.length->0<=J7 l n/\J7 l n<=24:=by
   intro n;induction n with
   |zero=>intro _;rw[p0];omega
   |succ n ih=>intro hn;obtain⟨⟨⟨⟨_,c2⟩,_⟩,_⟩,c5⟩:=ha n (Nat.zero_le _) (by omega);have:=ih (by omega);refine⟨?_,c5⟩;rw[NT l (by omega),bV (by omega) (by omega)];omega
  have hs:∀n,n<l.length->0<=J7 l n/\J7 l n<=J7 l (n+1):=fun n hn=>by obtain⟨⟨⟨⟨_,c2⟩,_⟩,_⟩,c5⟩:=ha n (Nat.zero_le _) (by omega);have:=hp n (by omega);refine⟨this.1,?_⟩;rw[NT l hn,bV (by omega) (by omega)];omega
  refine⟨?_,he⟩;rw[aQ];intro n _ hn;obtain⟨⟨⟨⟨c1,c2⟩,c3⟩,c4⟩,c5⟩:=ha n (Nat.zero_le _) (by omega);unfold WG;rw[Tv (by omega),c4];have:=hp n (by omega);have hm:=mono hs (n+1) l.length (by omega) (Nat.le_refl _);rw[he,NT l (by omega),bV (by omega) (by omega)]at hm;rw[bO (by omega) (by omega)];simp only[Bool.and_eq_true,Bool.not_eq_true',Wa,Ke];exact⟨⟨⟨c1,by omega,by omega⟩,c3⟩,trivial⟩
 ·rintro⟨ha,he⟩;rw[aQ]at ha;have hp:∀n,n<=l.length->0<=J7 l n/\J7 l n<=h:=by
   intro n;induction n with
   |zero=>intro _;rw[p0];omega
   |succ n ih=>intro hn;have hi:=ih (by omega);have:=ha n (Nat.zero_le _) (by omega);unfold WG at this;rw[bO (by omega) (by omega)]at this;simp only[Bool.and_eq_true,Bool.not_eq_true',Wa,Ke]at this;obtain⟨⟨⟨_,c2⟩,_⟩,_⟩:=this;rw[NT l (by omega),bV (by omega) (by omega)];omega
  refine⟨?_,he⟩;rw[aQ];intro n _ hn;have hi:=hp n (by omega);have hj:=hp (n+1) (by omega);have:=ha n (Nat.zero_le _) hn;unfold WG at this;rw[Tv (by omega),bO (by omega) (by omega)]at this;simp only[Bool.and_eq_true,Bool.not_eq_true',Wa,Ke]at this;obtain⟨⟨⟨c1,c2⟩,c3⟩,c4⟩:=this;unfold VN;simp only[Bool.and_eq_true,Bool.not_eq_true',Wa,V6,Ke];exact⟨⟨⟨⟨c1,by omega,by omega⟩,c3⟩,c4⟩,by omega⟩
noncomputable def Qe(h:Int)(f:List Int):Nat->Bool
 |0=>KA (f.getD 0 zI) 1 (aa .sub .i64 h 1)
 |n+1=>KA (f.getD (n+1) zI) 1 (aa .sub .i64 h 1)&&Bool.not (af .leq (f.getD (n+1) zI) (f.getD n zI))
noncomputable def foundAt(f:List Int)(l:List Bx)(n:Nat):Bool:=l.any fun b=>af .eql b.1 (f.getD n zI)
theorem TM(h:Int)(f:List Int)(l:List Bx)(n:Nat)(hn:n<f.length)(hl:l.length<=1073741824):MI (h,f,l,(n:Int),()) (false,0,())=some (.inl (foundAt f l n,())):=by
 have:=aR (body:=KY (h,f,l,(n:Int),())) (fun k=>((l.take k).any fun b=>af .eql b.1 (f.getD n zI),(k:Int),())) l.length (by omega) (.inl (foundAt f l n,())) (fun k hk=>?_) ?_
 ·exact this
 ·unfold KY;rw[NV hk JG,List.any_append];simp only[aj,hk,hn,decide_true,cond_true,az,aq,av (n:=k) (by omega)];cases (l.take k).any fun b=>af .eql b.1 (f.getD n zI)with
  |true=>rfl
  |false=>simp[List.any]
 ·unfold KY foundAt;simp only[aj,Nat.lt_irrefl,decide_false,cond_false,List.take_length]
theorem W6{n:Nat}(h:n<1099511627776):aa .sub .i64 ((n+1:Nat):Int) 1=(n:Int):=iw h
theorem gt1(n:Nat):af .gtr ((n+1:Nat):Int) 0=true:=by simp only[af,gt_iff_lt,decide_eq_true_eq];omega
noncomputable def Tu(h:Int)(f:List Int)(l:List Bx):Bool:=KA h 1 24&&((aB (VN l) 0 l.length&&(af .gtr (ai l) 0&&af .eql (J7 l l.length) h))&&aB (fun n=>Qe h f n&&foundAt f l n) 0 f.length)
theorem Tb(h:Int)(f:List Int)(l:List Bx)(hf:f.length<=1073741824)(hl:l.length<=1073741824):Lg h f l=some (Tu h f l,()):=by
 unfold Lg Tu;rw[M6,TL h f l hl];simp only[Option.bind_some];have:MH (h,f,l,()) (0,())=some (bif aB (fun n=>Qe h f n&&foundAt f l n) 0 f.length then(Sum.inr (Sum.inl ()):Bool×Unit⊕(Unit⊕Empty))else .inl (false,())):=by
  refine bp (fun n=>((n:Int),())) f.length (by omega) (fun n=>Qe h f n&&foundAt f l n) _ _ (fun n hn=>?_) ?_
  ·unfold MG;simp only[aj,hn,decide_true,cond_true,az,aq,M6,Option.bind_some,av (n:=n) (by omega),TM h f l n hn hl,Sum.elim_inl];cases n with
   |zero=>unfold Qe;rw[show af .gtr ((0:Nat):Int) 0=false from rfl];cases KA (f.getD 0 zI) 1 (aa .sub .i64 h 1) <;> cases foundAt f l 0 <;> rfl
   |succ m=>
    have hm:m<f.length:=by omega
    unfold Qe;rw[gt1,W6 (by omega)];simp only[az,aq,hm,decide_true,cond_true];cases KA (f.getD (m+1) zI) 1 (aa .sub .i64 h 1) <;> cases af .leq (f.getD (m+1) zI) (f.getD m zI) <;> cases foundAt f l (m+1) <;> rfl
  ·unfold MG;simp only[aj,Nat.lt_irrefl,decide_false,cond_false]
 rw[this];cases KA h 1 24 with
 |false=>rfl
 |true=>
  simp only[Bool.not_true,cond_false,Bool.true_and];cases (aB (VN l) 0 l.length&&(af .gtr (ai l) 0&&af .eql (J7 l l.length) h))with
  |false=>rfl
  |true=>simp only[Bool.not_true,cond_false,Bool.true_and];cases aB (fun n=>Qe h f n&&foundAt f l n) 0 f.length <;> rfl
noncomputable def Uf(h:Int)(f:List Int)(l:List Bx):Bool:=KA h 1 24&&(Bool.not (af .eql (ai l) 0)&&(aB (Qe h f) 0 f.length&&(aB (WG h l) 0 l.length&&(aB (fun n=>ct (Ia [] (Rp l)) (f.getD n zI)) 0 f.length&&af .eql (J7 l l.length) h))))
theorem S6(h:Int)(f:List Int)(l:List Bx)(hf:f.length<=1073741824)(hl:l.length<=1073741824):K9 h f l=some (Uf h f l,()):=by
 unfold K9 Uf;rw[IZ];simp only[Option.bind_some];have h0:Mw (h,f,l,f,ai f,()) (0,())=some (bif aB (Qe h f) 0 f.length then(Sum.inr (Sum.inl ()):Bool×Unit⊕(Unit⊕Empty))else .inl (false,())):=by
  refine bp (fun n=>((n:Int),())) f.length (by omega) (Qe h f) _ _ (fun n hn=>?_) ?_
  ·unfold Mu;simp only[aj,hn,decide_true,cond_true,az,aq,IZ,Option.bind_some,av (n:=n) (by omega)];cases n with
   |zero=>unfold Qe;rw[show af .gtr ((0:Nat):Int) 0=false from rfl];cases KA (f.getD 0 zI) 1 (aa .sub .i64 h 1) <;> rfl
   |succ m=>
    have hm:m<f.length:=by omega
    unfold Qe;rw[gt1,W6 (by omega)];simp only[az,aq,hm,decide_true,cond_true];cases KA (f.getD (m+1) zI) 1 (aa .sub .i64 h 1) <;> cases af .leq (f.getD (m+1) zI) (f.getD m zI) <;> rfl
  ·unfold Mu;simp only[aj,Nat.lt_irrefl,decide_false,cond_false]
 have h4:My (h,f,l,J7 l l.length,f,ai f,()) (Ia [] (Rp l),0,())=some (bif aB (fun n=>ct (Ia [] (Rp l)) (f.getD n zI)) 0 f.length then(Sum.inr (Sum.inl ()):Bool×Unit⊕(Unit⊕Empty))else .inl (false,())):=by
  refine bp (fun n=>(Ia [] (Rp l),(n:Int),())) f.length (by omega) _ _ _ (fun n hn=>?_) ?_
  ·unfold Mv;simp only[aj,hn,decide_true,cond_true,az,aq,av (n:=n) (by omega)];cases ct (Ia [] (Rp l)) (f.getD n zI) <;> rfl
  ·unfold Mv;simp only[aj,Nat.lt_irrefl,decide_false,cond_false]
 rw[h0,TC h f l hl];cases KA h 1 24 with
 |false=>rfl
 |true=>
  simp only[Bool.not_true,cond_false,Bool.true_and];cases af .eql (ai l) 0 with
  |true=>rfl
  |false=>
   simp only[cond_false,Bool.not_false,Bool.true_and];cases aB (Qe h f) 0 f.length with
   |false=>rfl
   |true=>
    simp only[cond_true,Option.bind_some,Sum.elim_inr,Sum.elim_inl,Bool.true_and];cases aB (WG h l) 0 l.length with
    |false=>rfl
    |true=>simp only[cond_true,Option.bind_some,Sum.elim_inr,Sum.elim_inl,Bool.true_and,h4];cases aB (fun n=>ct (Ia [] (Rp l)) (f.getD n zI)) 0 f.length <;> rfl
theorem V3(f:List Int)(l:List Bx)(n:Nat):ct (Ia [] (Rp l)) (f.getD n zI)=foundAt f l n:=by rw[Bool.eq_iff_iff,M8];simp only[ct,Bool.false_eq_true,false_or,Rp,foundAt,List.mem_map,List.any_eq_true,S4]
theorem V1(h:Int)(f:List Int)(l:List Bx)(hl:l.length<=1073741824):Tu h f l=Uf h f l:=by
 unfold Tu Uf;cases h1:KA h 1 24 with
 |false=>rfl
 |true=>
  obtain⟨q1,q2⟩:=Ke.1 h1;have hb:=Vp q1 q2 l hl;have hne:Bool.not (af .eql (ai l) 0)=af .gtr (ai l) 0:=by
   cases hq:af .gtr (ai l) 0 with
   |true=>
    have:af .eql (ai l) 0=false:=by rw[Bool.eq_false_iff,ne_eq,S4];have:=YH.1 hq;omega
    rw[this];rfl
   |false=>
    have:af .eql (ai l) 0=true:=by rw[S4];have:=V6.1 hq;unfold ai at this⊢;omega
    rw[this];rfl
  rw[hne];have hfn:(fun n=>ct (Ia [] (Rp l)) (f.getD n zI))=foundAt f l:=funext fun n=>V3 f l n;rw[hfn,Bool.eq_iff_iff];simp only[Bool.and_eq_true,S4,aQ,Bool.true_and];simp only[aQ]at hb;constructor
  ·rintro⟨⟨c1,c2,c3⟩,c4⟩;obtain⟨d1,_⟩:=hb.1 ⟨c1,c3⟩;exact⟨c2,fun m x y=>(c4 m x y).1,d1,fun m x y=>(c4 m x y).2,c3⟩
  ·rintro⟨c2,c4,c1,c5,c3⟩;obtain⟨d1,_⟩:=hb.2 ⟨c1,c3⟩;exact⟨⟨d1,c2,c3⟩,fun m x y=>⟨c4 m x y,c5 m x y⟩⟩
noncomputable def yx(L:List QI)(i:Nat):QI:=L.getD i m6
noncomputable def Vv(l:List Bx)(p:Int):Bool:=l.any fun b=>af .eql b.2.2.1 p
theorem Xg(h:Int)(f:List Int)(l:List Bx)(p:Int)(hl:l.length<=1073741824):∃r,Nc h f l p=some (r,())/\af .geq r 0=(af .gtr p 0&&Vv l p):=by
 unfold Nc;obtain⟨y,h1,h2⟩:=fP (body:=Mp (p,h,f,l,())) (fun n=>((n:Int),())) l.length (by omega) (fun n=>Bool.not (af .eql (l.getD n JG).2.2.1 p&&af .gtr p 0)) (Sum.inr (Sum.inl ())) (fun n=>Sum.inl ((n:Int),())) (fun n hn=>by
  unfold Mp;simp only[aj,az,hn,decide_true,cond_true,aq,av (n:=n) (by omega)];cases af .eql (l.getD n JG).2.2.1 p <;> cases af .gtr p 0 <;> rfl) (by
  unfold Mp;simp only[aj,Nat.lt_irrefl,decide_false,cond_false])
 have h1':OB (p,h,f,l,()) ((0:Int),())=some y:=h1;rw[h1'];rcases h2 with ⟨e1,rfl⟩|⟨e1,n,hn,rfl,e3⟩
 ·refine⟨-1,rfl,?_⟩;rw[aQ]at e1;show false=_;symm;rw[Bool.and_eq_false_iff];cases hp:af .gtr p 0 with
  |false=>exact .inl rfl
  |true=>refine .inr ?_;rw[Bool.eq_false_iff];intro hh;obtain⟨b,hb,he⟩:=List.any_eq_true.1 hh;obtain⟨n,hn,rfl⟩:=List.mem_iff_getElem.1 hb;have:=e1 n (Nat.zero_le _) (by omega);rw[List.getD_eq_getElem?_getD,List.getElem?_eq_getElem hn,Option.getD_some,he,hp]at this;cases this
 ·refine⟨(n:Int),rfl,?_⟩;have h0:af .geq (n:Int) 0=true:=by simp[af]
  rw[h0];symm;have e3:(af .eql (l.getD n JG).2.2.1 p&&af .gtr p 0)=true:=by
   cases hq:(af .eql (l.getD n JG).2.2.1 p&&af .gtr p 0)with
   |true=>rfl
   |false=>rw[hq]at e3;first|cases e3|(simp at e3)
  rw[Bool.and_eq_true]at e3⊢;exact⟨e3.2,List.any_eq_true.2 ⟨_,LJ hn JG,e3.1⟩⟩
noncomputable def OW(L:List QI)(i k n:Nat):Bool:=Bool.not (af .gtr (II (yx L i).2.2 n).2.2.1 0&&Vv (yx L k).2.2 (II (yx L i).2.2 n).2.2.1)
noncomputable def PP(L:List QI)(i:Nat):Bool:=Tu (yx L i).1 (yx L i).2.1 (yx L i).2.2&&aB (fun k=>aB (OW L i k) 0 (yx L i).2.2.length) 0 i
noncomputable def PG(L:List QI):Bool:=KA (ai L) 1 6&&aB (PP L) 0 L.length
noncomputable def Qp(L:List QI):Prop:=L.length<=1073741824/\∀c,c∈L->c.2.1.length<=1073741824/\c.2.2.length<=1073741824
theorem Qp.at{L:List QI}(h:Qp L){i:Nat}(hi:i<L.length):(yx L i).2.1.length<=1073741824/\(yx L i).2.2.length<=1073741824:=h.2 _ (LJ hi _)
theorem UF(L:List QI)(hw:Qp L):Na L=some (PG L,()):=by
 have hL:=hw.1;unfold Na PG;rw[M6];simp only[Option.bind_some];have h4:∀i k,i<L.length->k<i->OA (L,(i:Int),(k:Int),()) (0,())=some (bif aB (OW L i k) 0 (yx L i).2.2.length then(Sum.inr (Sum.inl ()):Bool×Unit⊕(Unit⊕Empty))else .inl (false,())):=by
  intro i k hi hk;have hki:k<L.length:=by omega
  have W1:=(hw.at hi).2;refine bp (fun n=>((n:Int),())) (yx L i).2.2.length (by omega) _ _ _ (fun n hn=>?_) ?_
  ·unfold Ox;obtain⟨r,e1,e2⟩:=Xg (yx L k).1 (yx L k).2.1 (yx L k).2.2 (II (yx L i).2.2 n).2.2.1 (hw.at hki).2;have DC:Nc (L.getD k m6).1 (L.getD k m6).2.1 (L.getD k m6).2.2 ((L.getD i m6).2.2.getD n JG).2.2.1=some (r,()):=e1;have hn':n<(L.getD i m6).2.2.length:=hn;simp only[az,hi,hki,decide_true,cond_true,aq,aj,hn',DC,Option.bind_some,e2,av (n:=n) (by omega)];unfold OW;cases (af .gtr (II (yx L i).2.2 n).2.2.1 0&&Vv (yx L k).2.2 (II (yx L i).2.2 n).2.2.1) <;> rfl
  ·unfold Ox;have:¬((yx L i).2.2.length<(L.getD i m6).2.2.length):=Nat.lt_irrefl _;simp only[az,hi,decide_true,cond_true,aq,aj,this,decide_false,cond_false]
 have h2:∀i,i<L.length->Oz (L,(i:Int),()) (0,())=some (bif aB (fun k=>aB (OW L i k) 0 (yx L i).2.2.length) 0 i then(Sum.inr (Sum.inl ()):Bool×Unit⊕(Unit⊕Empty))else .inl (false,())):=by
  intro i hi;refine bp (fun n=>((n:Int),())) i (by omega) _ _ _ (fun k hk=>?_) ?_
  ·unfold Ow;simp only[eH,hk,decide_true,cond_true,h4 i k hi hk,Option.bind_some,av (n:=k) (by omega)];cases aB (OW L i k) 0 (yx L i).2.2.length <;> rfl
  ·unfold Ow;simp only[eH,Nat.lt_irrefl,decide_false,cond_false]
 have h0:Oy (L,()) (0,())=some (bif aB (PP L) 0 L.length then(Sum.inr (Sum.inl ()):Bool×Unit⊕(Unit⊕Empty))else .inl (false,())):=by
  refine bp (fun n=>((n:Int),())) L.length (by omega) _ _ _ (fun i hi=>?_) ?_
  ·unfold Ov PP;have hc:Lg (L.getD i m6).1 (L.getD i m6).2.1 (L.getD i m6).2.2=some (Tu (yx L i).1 (yx L i).2.1 (yx L i).2.2,()):=Tb _ _ _ (hw.at hi).1 (hw.at hi).2;simp only[aj,az,hi,decide_true,cond_true,aq,hc,Option.bind_some,h2 i hi,av (n:=i) (by omega)];cases Tu (yx L i).1 (yx L i).2.1 (yx L i).2.2 with
   |false=>rfl
   |true=>cases aB (fun k=>aB (OW L i k) 0 (yx L i).2.2.length) 0 i <;> rfl
  ·unfold Ov;simp only[aj,Nat.lt_irrefl,decide_false,cond_false]
 rw[h0];cases KA (ai L) 1 6 with
 |false=>rfl
 |true=>cases aB (PP L) 0 L.length <;> rfl
noncomputable def KG(L:List QI)(i:Nat):List Int:=((L.take i).map fun c=>M9 c.2.2).flatten
theorem Ux{L:List QI}{i:Nat}(h:i<L.length):KG L (i+1)=KG L i++M9 (yx L i).2.2:=by unfold KG yx;rw[NV h m6,List.map_append,List.flatten_append];simp
theorem UX(m:List (Int×Bool))(a b:List Int):Ia m (a++b)=Ia (Ia m a) b:=List.foldl_append
noncomputable def Si(L:List QI)(i n:Nat):Bool:=Bool.not (af .gtr (II (yx L i).2.2 n).2.2.1 0&&ct (Ia (Ia [] (KG L i)) (M9 ((yx L i).2.2.take n))) (II (yx L i).2.2 n).2.2.1)
noncomputable def QJ(L:List QI)(i:Nat):Bool:=Uf (yx L i).1 (yx L i).2.1 (yx L i).2.2&&aB (Si L i) 0 (yx L i).2.2.length
theorem TB(L:List QI)(hw:Qp L):Lx L=some (KA (ai L) 1 6&&aB (QJ L) 0 L.length,()):=by
 have hL:=hw.1;unfold Lx;rw[IZ];simp only[Option.bind_some];have h2:∀i,i<L.length->Oj (L,ai L,(i:Int),(yx L i).2.2,ai (yx L i).2.2,()) (Ia [] (KG L i),0,())=some (bif aB (Si L i) 0 (yx L i).2.2.length then(Sum.inr (Sum.inl (Ia [] (KG L (i+1)),())):Bool×Unit⊕((List (Int×Bool))×Unit⊕Empty))else .inl (false,())):=by
  intro i hi;have hb:=(hw.at hi).2;have:=bp (body:=LK (L,ai L,(i:Int),(yx L i).2.2,ai (yx L i).2.2,())) (fun n=>(Ia (Ia [] (KG L i)) (M9 ((yx L i).2.2.take n)),(n:Int),())) (yx L i).2.2.length (by omega) (Si L i) (Sum.inr (Sum.inl (Ia [] (KG L (i+1)),()))) (Sum.inl (false,())) (fun n hn=>?_) ?_
  ·exact this
  ·unfold LK Si;have e2:Ia (Ia [] (KG L i)) (M9 ((yx L i).2.2.take (n+1)))=eT (Ia (Ia [] (KG L i)) (M9 ((yx L i).2.2.take n))) (II (yx L i).2.2 n).2.2.1 true:=by unfold M9 II;rw[NV hn JG,List.map_append];exact QC _ _ _
   simp only[aj,az,hn,decide_true,cond_true,aq,av (n:=n) (by omega),e2];show(bif af .gtr (II (yx L i).2.2 n).2.2.1 0 then(bif ct (Ia (Ia [] (KG L i)) (M9 ((yx L i).2.2.take n))) (II (yx L i).2.2 n).2.2.1 then _ else _)else _)=_;cases af .gtr (II (yx L i).2.2 n).2.2.1 0 with
   |false=>rfl
   |true=>cases ct (Ia (Ia [] (KG L i)) (M9 ((yx L i).2.2.take n))) (II (yx L i).2.2 n).2.2.1 <;> rfl
  ·unfold LK;simp only[aj,Nat.lt_irrefl,decide_false,cond_false,List.take_length,Ux hi,UX]
 have h0:Oi (L,ai L,()) ([],0,())=some (bif aB (QJ L) 0 L.length then(Sum.inr (Sum.inl ()):Bool×Unit⊕(Unit⊕Empty))else .inl (false,())):=by
  refine bp (fun n=>(Ia [] (KG L n),(n:Int),())) L.length (by omega) _ _ _ (fun i hi=>?_) ?_
  ·unfold Oh QJ;have hc:K9 (L.getD i m6).1 (L.getD i m6).2.1 (L.getD i m6).2.2=some (Uf (yx L i).1 (yx L i).2.1 (yx L i).2.2,()):=S6 _ _ _ (hw.at hi).1 (hw.at hi).2;have h2':=h2 i hi;unfold yx at h2';simp only[aj,az,hi,decide_true,cond_true,aq,hc,Option.bind_some,h2',av (n:=i) (by omega)];cases Uf (yx L i).1 (yx L i).2.1 (yx L i).2.2 with
   |false=>rfl
   |true=>show(bif Bool.not true then _ else(some (bif aB (Si L i) 0 (yx L i).2.2.length then _ else _)).bind _)=_;cases aB (Si L i) 0 (yx L i).2.2.length <;> rfl
  ·unfold Oh;simp only[aj,Nat.lt_irrefl,decide_false,cond_false]
 rw[h0];cases KA (ai L) 1 6 with
 |false=>rfl
 |true=>cases aB (QJ L) 0 L.length <;> rfl
theorem Up{l:List Bx}{p:Int}:Vv l p=true↔p∈M9 l:=by simp only[Vv,M9,List.any_eq_true,List.mem_map,S4]
theorem SO{L:List QI}{i:Nat}(hi:i<=L.length)(p:Int):p∈KG L i↔∃k,k<i/\p∈M9 (yx L k).2.2:=by
 unfold KG;simp only[List.mem_flatten,List.mem_map];constructor
 ·rintro⟨l,⟨c,hc,rfl⟩,hp⟩;obtain⟨k,hk,rfl⟩:=(RK (z:=m6) hi).1 hc;exact⟨k,hk,hp⟩
 ·rintro⟨k,hk,hp⟩;exact⟨_,⟨yx L k,(RK (z:=m6) hi).2 ⟨k,hk,rfl⟩,rfl⟩,hp⟩
theorem Vo(L:List QI)(hw:Qp L){i:Nat}(hi:i<L.length):PP L i=QJ L i:=by
 unfold PP QJ;rw[V1 _ _ _ (hw.at hi).2];cases hc:Uf (yx L i).1 (yx L i).2.1 (yx L i).2.2 with
 |false=>rfl
 |true=>
  simp only[Bool.true_and];have hdup:∀n,n<(yx L i).2.2.length->aB (Sa (yx L i).2.2 n) 0 n=true:=by rw[<-V1 _ _ _ (hw.at hi).2]at hc;unfold Tu at hc;simp only[Bool.and_eq_true]at hc;intro n hn;have:=(aQ _ _).1 hc.2.1.1 n (Nat.zero_le _) (by omega);unfold VN at this;simp only[Bool.and_eq_true]at this;exact this.1.2
  rw[Bool.eq_iff_iff,aQ,aQ];constructor
  ·intro h n _ hn;unfold Si;rw[Bool.not_eq_true',Bool.and_eq_false_iff];cases hg:af .gtr (II (yx L i).2.2 n).2.2.1 0 with
   |false=>exact .inl rfl
   |true=>
    refine .inr ?_;cases hm:ct (Ia (Ia [] (KG L i)) (M9 ((yx L i).2.2.take n))) (II (yx L i).2.2 n).2.2.1 with
    |false=>rfl
    |true=>
     exfalso;rcases(M8 _ _ _).1 hm with hm|hm
     ·have:=(M8 _ _ _).1 hm;simp only[ct,Bool.false_eq_true,false_or]at this;obtain⟨k,hk,hp⟩:=(SO (by omega) _).1 this;have:=h k (Nat.zero_le _) (by omega);have:=(aQ _ _).1 this n (Nat.zero_le _) hn;unfold OW at this;rw[hg,Up.2 hp]at this;cases this
     ·have hd:=hdup n (by omega);rw[<-Tv (by omega),hg]at hd;have:ct (Ia [] (M9 ((yx L i).2.2.take n))) (II (yx L i).2.2 n).2.2.1=true:=(M8 _ _ _).2 (.inr hm);rw[this]at hd;cases hd
  ·intro h k _ hk;rw[aQ];intro n _ hn;have:=h n (Nat.zero_le _) hn;unfold Si at this;unfold OW;rw[Bool.not_eq_true',Bool.and_eq_false_iff]at this⊢;rcases this with h1|h1
   ·exact .inl h1
   ·refine .inr ?_;cases hp:Vv (yx L k).2.2 (II (yx L i).2.2 n).2.2.1 with
    |false=>rfl
    |true=>have:ct (Ia (Ia [] (KG L i)) (M9 ((yx L i).2.2.take n))) (II (yx L i).2.2 n).2.2.1=true:=(M8 _ _ _).2 (.inl ((M8 _ _ _).2 (.inr ((SO (by omega) _).2 ⟨k,by omega,Up.1 hp⟩))));rw[this]at h1;cases h1
theorem Uq(L:List QI)(hw:Qp L):Lx L=some (PG L,()):=by rw[TB L hw];unfold PG;rw[fR L.length 0 fun m _ hm=>Vo L hw (by omega)]
end Go.Fn
set_option linter.unusedVariables false
set_option linter.unusedSimpArgs false
namespace Go.Fn
open Go.R
noncomputable def Sm{α:Type}(P:α->Prop)(x y:Option α):Prop:=∃r,x=some r/\y=some r/\P r
section
variable {α β:Type} {P:α->Prop} {Q:β->Prop}
theorem Sm.ret{a:α}(h:P a):Sm P (some a) (some a):=⟨a,rfl,rfl,h⟩
theorem Sm.bind{x y:Option α}{f g:α->Option β}(hx:Sm P x y)(h:∀r,P r->Sm Q (f r) (g r)):Sm Q (x.bind f) (y.bind g):=by obtain⟨r,rfl,rfl,hr⟩:=hx;exact h r hr
theorem Sm.cond{b:Bool}{x y x' y':Option α}(hx:b=true->Sm P x x')(hy:b=false->Sm P y y'):Sm P (bif b then x else y) (bif b then x' else y'):=by
 cases b
 ·exact hy rfl
 ·exact hx rfl
theorem Sm.guard{b c:Bool}{x y:Option α}(hb:b=true)(hc:c=true)(h:Sm P x y):Sm P (bif b then x else none) (bif c then y else none):=by subst hb hc;exact h
theorem Sm.mono{P':α->Prop}{x y:Option α}(h:Sm P x y)(hp:∀r,P r->P' r):Sm P' x y:=by obtain⟨r,e1,e2,hr⟩:=h;exact⟨r,e1,e2,hp r hr⟩
theorem Sm.symm{x y:Option α}(h:Sm P x y):Sm P y x:=by obtain⟨r,e1,e2,hr⟩:=h;exact⟨r,e2,e1,hr⟩
theorem R6{X Y:Type}{body body':X->Option (X⊕Y)}(Inv:X->Prop)(m:X->Nat){Q:Y->Prop}(h:∀x,Inv x->Sm (fun r=>match r with| .inl a=>Inv a/\m a<m x| .inr b=>Q b) (body x) (body' x)):∀(fu:Nat) (x:X),Inv x->m x<fu->Sm Q (iter body fu x) (iter body' fu x)
 |0,x,_,hm=>absurd hm (Nat.not_lt_zero _)
 |fu+1,x,hi,hm=>by
  obtain⟨r,e1,e2,hr⟩:=h x hi;cases r with
  |inl a=>rw[aH e1,aH e2];exact R6 Inv m h fu a hr.1 (by have:=hr.2;omega)
  |inr b=>exact⟨b,ay e1,ay e2,hr⟩
end
theorem NU {B Y:Type} {body body':B×Int×Unit->Option ((B×Int×Unit)⊕Y)} (len:Nat) (hlen:len<=1073741824) {Q:Y->Prop} (I:B->Prop)
  (hs:∀b n,n<len->I b->Sm (fun r=>match r with| .inl a=>I a.1/\a.2.1=((n+1:Nat):Int)| .inr y=>Q y) (body (b,(n:Int),())) (body' (b,(n:Int),()))) (he:∀b,I b->Sm (fun r=>match r with| .inl a=>False| .inr y=>Q y) (body (b,(len:Int),())) (body' (b,(len:Int),()))) (b:B) (hb:I b):Sm Q (iter body big (b,0,())) (iter body' big (b,0,())):=by
 refine R6 (fun x=>I x.1/\0<=x.2.1/\x.2.1<=(len:Int)) (fun x=>((len:Int)-x.2.1).toNat) (fun x hx=>?_) big (b,0,()) ⟨hb,Int.le_refl _,by show(0:Int)<=(len:Int);omega⟩ (aT (by show((len:Int)-0).toNat<_;omega));obtain⟨b,i,u⟩:=x;obtain⟨h0,h1,h2⟩:=hx;have h1:0<=i:=h1;have h2:i<=(len:Int):=h2;obtain⟨n,rfl⟩:∃n:Nat,i=(n:Int):=⟨i.toNat,by omega⟩
 by_cases h:n<len
 ·refine(hs b n h h0).mono fun r hr=>?_;cases r with
  |inr y=>exact hr
  |inl a=>obtain⟨q1,q2⟩:=hr;refine⟨⟨q1,by rw[q2];omega,by rw[q2];omega⟩,?_⟩;show((len:Int)-a.2.1).toNat<((len:Int)-(n:Int)).toNat;rw[q2];omega
 ·have hn:n=len:=by omega
  subst hn;refine(he b h0).mono fun r hr=>?_;cases r with
  |inl a=>exact hr.elim
  |inr y=>exact hr
theorem UA {Y:Type} {body body':Int×Unit->Option ((Int×Unit)⊕Y)} (len:Nat) (hlen:len<=1073741824) (F:Nat->Prop) {Q:Y->Prop}
  (hs:∀n,n<len->Sm (fun r=>match r with| .inl a=>a.1=((n+1:Nat):Int)/\F n| .inr y=>Q y) (body ((n:Int),())) (body' ((n:Int),()))) (he:(∀n,n<len->F n)->Sm (fun r=>match r with| .inl a=>False| .inr y=>Q y) (body ((len:Int),())) (body' ((len:Int),()))):Sm Q (iter body big (0,())) (iter body' big (0,())):=by
 refine R6 (fun x=>0<=x.1/\x.1<=(len:Int)/\∀m:Nat,(m:Int)<x.1->F m) (fun x=>((len:Int)-x.1).toNat) (fun x hx=>?_) big (0,()) ⟨Int.le_refl _,by show(0:Int)<=(len:Int);omega,fun m hm=>by have hm:(m:Int)<0:=hm;omega⟩ (aT (by show((len:Int)-0).toNat<_;omega));obtain⟨i,u⟩:=x;obtain⟨h1,h2,h3⟩:=hx;have h1:0<=i:=h1;have h2:i<=(len:Int):=h2;have h3:∀m:Nat,(m:Int)<i->F m:=h3;obtain⟨n,rfl⟩:∃n:Nat,i=(n:Int):=⟨i.toNat,by omega⟩
 by_cases h:n<len
 ·refine(hs n h).mono fun r hr=>?_;cases r with
  |inr y=>exact hr
  |inl a=>
   obtain⟨q2,q3⟩:a.1=((n+1:Nat):Int)/\F n:=hr;refine⟨⟨by rw[q2];omega,by rw[q2];omega,fun m hm=>?_⟩,?_⟩
   ·rw[q2]at hm;rcases Nat.lt_or_ge m n with hmn|hmn
    ·exact h3 m (by omega)
    ·rw[show m=n by omega];exact q3
   ·show((len:Int)-a.1).toNat<((len:Int)-(n:Int)).toNat;rw[q2];omega
 ·have hn:n=len:=by omega
  subst hn;refine(he fun m hm=>h3 m (by omega)).mono fun r hr=>?_;cases r with
  |inl a=>exact hr.elim
  |inr y=>exact hr
abbrev Any{α:Type}:α->Prop:=fun _=>True
theorem Zd{α:Type}{x y:Option α}{a:α}(h1:x=some a)(h2:y=some a):Sm (fun r=>r=a) x y:=⟨a,h1,h2,rfl⟩
theorem Rw(a lo hi:Int):Sm (fun r=>r=(KA a lo hi,())) (jj a lo hi) (ik a lo hi):=Zd (M6 a lo hi) (IZ a lo hi)
theorem V2:∀(k:Fin 3) (t:Fin 7) (a b c:Bool),Lz ((k.val:Nat):Int) ((t.val:Nat):Int) a b c=KE ((k.val:Nat):Int) ((t.val:Nat):Int) a b c/\(KE ((k.val:Nat):Int) ((t.val:Nat):Int) a b c).isSome=true:=by decide +kernel
theorem Ws(k t:Int)(a b c:Bool):Sm (fun r=>r.1=true->0<=k/\k<=2) (Lz k t a b c) (KE k t a b c):=by
 cases hk:KA k 0 2 with
 |false=>
  refine⟨(false,()),?_,?_,fun h=>by cases h⟩
  ·unfold Lz;rw[M6,hk];rfl
  ·unfold KE;rw[IZ,hk];rfl
 |true=>
  obtain⟨h1,h2⟩:=Ke.1 hk;cases ht:KA t 0 6 with
  |false=>
   refine⟨(false,()),?_,?_,fun h=>by cases h⟩
   ·unfold Lz;rw[M6,hk,M6,ht];rfl
   ·unfold KE;rw[IZ,hk,IZ,ht];rfl
  |true=>obtain⟨h3,h4⟩:=Ke.1 ht;have:=V2 ⟨k.toNat,by omega⟩ ⟨t.toNat,by omega⟩ a b c;simp only[Int.toNat_of_nonneg h1,Int.toNat_of_nonneg h3]at this;obtain⟨r,hr⟩:=Option.isSome_iff_exists.1 this.2;exact⟨r,this.1.trans hr,hr,fun _=>⟨h1,h2⟩⟩
theorem WB(a b c d e:Int):Sm Any (Pk a b c d e) (OZ a b c d e):=by unfold Pk OZ JM JT;simp only[M6,IZ,Option.bind_some];cases KA a 1 2147483646 <;> cases KA b 0 1000001 <;> cases KA c 0 2 <;> cases KA d 0 6 <;> exact .ret trivial
theorem V5(a b c d e f:Int)(o:Bool):Sm Any (Mi a b c d e f o) (KM a b c d e f o):=by unfold Mi KM JF Ji NR JR;simp only[M6,IZ,Option.bind_some];cases KA a 1 40 <;> cases KA b 1 40 <;> cases af .neq a b <;> cases KA c 0 999 <;> cases KA d 0 5 <;> cases KA e 0 20000 <;> cases KA f 0 20000 <;> exact .ret trivial
noncomputable def W0(x:TY):Bool:=match KM x.1 x.2.1 x.2.2.1 x.2.2.2.1 x.2.2.2.2.1 x.2.2.2.2.2.1 x.2.2.2.2.2.2 with|some r=>r.1|none=>false
theorem V4(x:TY):Mi x.1 x.2.1 x.2.2.1 x.2.2.2.1 x.2.2.2.2.1 x.2.2.2.2.2.1 x.2.2.2.2.2.2=some (W0 x,())/\KM x.1 x.2.1 x.2.2.1 x.2.2.2.1 x.2.2.2.2.1 x.2.2.2.2.2.1 x.2.2.2.2.2.2=some (W0 x,()):=by
 obtain⟨r,e1,e2,_⟩:=V5 x.1 x.2.1 x.2.2.1 x.2.2.2.1 x.2.2.2.2.1 x.2.2.2.2.2.1 x.2.2.2.2.2.2;have:W0 x=r.1:=by unfold W0;rw[e2]
 rw[this];exact⟨e1,e2⟩
theorem Vt(g:List TY)(hg:g.length<=1073741824):Sm Any (MZ g) (MR g):=by
 unfold MZ MR zT H6;have hs:MK (g,()) (0,())=some (bif aB (fun n=>W0 (g.getD n xx)) 0 g.length then(Sum.inr (Sum.inl ()):Bool×Unit⊕(Unit⊕Empty))else .inl (false,())):=by
  refine bp (fun n=>((n:Int),())) g.length (by omega) _ _ _ (fun n hn=>?_) ?_
  ·unfold MJ;simp only[aj,az,hn,decide_true,cond_true,aq,(V4 _).1,Option.bind_some,av (n:=n) (by omega)];cases W0 (g.getD n xx) <;> rfl
  ·unfold MJ;simp only[aj,Nat.lt_irrefl,decide_false,cond_false]
 obtain⟨y,h1,h2⟩:=fP (body:=qk (g,ai g,())) (fun n=>((n:Int),())) g.length (by omega) (fun n=>W0 (g.getD n xx)) (Sum.inr (Sum.inl ())) (fun n=>Sum.inl ((n:Int),())) (fun n hn=>by
  unfold qk Nf;simp only[aj,az,hn,decide_true,cond_true,aq,(V4 _).2,Option.bind_some,av (n:=n) (by omega)];cases W0 (g.getD n xx) <;> rfl) (by
  unfold qk;simp only[aj,Nat.lt_irrefl,decide_false,cond_false])
 have h1':z1 (g,ai g,()) ((0:Int),())=some y:=h1;rw[hs,h1'];have hle:af .leq (ai g) (30:Int)=Bool.not (af .gtr (ai g) 30):=Wz _ _;rw[hle];cases af .gtr (ai g) (30:Int)with
 |true=>exact .ret trivial
 |false=>
  simp only[Bool.not_false,cond_true,cond_false];rcases h2 with ⟨e1,rfl⟩|⟨e1,n,hn,rfl,_⟩
  ·rw[e1];exact⟨(true,()),rfl,rfl,trivial⟩
  ·rw[e1];have h0:af .geq (n:Int) 0=true:=by simp[af]
   refine⟨(false,()),rfl,?_,trivial⟩;show some (Bool.not (af .geq (n:Int) 0),())=_;rw[h0];rfl
section
variable (a0 a1 a2 a3 a4 a5 a6 a7 a8 a9 a10:Int) (s:List Site) (p:List Ub) (g:List TY) (j:List Ev)
theorem Tf{x:Site}(h:Nu 1073741824 x):Qp x.2.2.1:=⟨h.b,fun c hc=>by obtain⟨n,hn,rfl⟩:=List.mem_iff_getElem.1 hc;have:=h.bs n hn;rw[List.getD_eq_getElem?_getD,List.getElem?_eq_getElem hn]at this;exact this⟩
theorem WO(o c:List SX):Sm Any (Nb o c) (M5 o c):=⟨_,UG o c,Ur o c,trivial⟩
theorem Wq{L:List QI}(h:Qp L):Sm (fun r=>r.1=true->PG L=true) (Na L) (Lx L):=⟨_,UF L h,Uq L h,fun h=>h⟩
theorem SH(l:List Ev):Sm Any (Js l) (Jm l):=⟨_,SQ l,SG l,trivial⟩
theorem WL(k:Nat)(hk:k<s.length)(hs:Nu 1073741824 (s.getD k b8))(hp:p.length<=1048576):Sm (fun r=>r.1=true->PG (s.getD k b8).2.2.1=true) (Mq a0 a1 a2 a3 a4 a5 a6 a7 a8 a9 a10 s p g j (k:Int)) (O4 a0 a1 a2 a3 a4 a5 a6 a7 a8 a9 a10 s p g j (k:Int)):=by
 unfold Mq O4;refine .guard (cV hk) (cV hk) ?_;simp only[aq];have hz:s.getD k b7=s.getD k b8:=rfl;rw[hz];generalize s.getD k b8=x at hs;have no:∀ {Q:Prop},((false:Bool),()).1=true->Q:=fun h=>by cases h
 refine(WO x.1 x.2.1).bind fun r _=>.cond (fun _=>.ret no) fun _=>?_;refine(Wq (Tf hs)).bind fun r hr=>.cond (fun _=>.ret no) fun hb=>?_;have B8:PG x.2.2.1=true:=hr (by cases h:r.1 with|true=>rfl|false=>rw[h]at hb;cases hb);refine(Ws x.2.2.2.1 x.2.2.2.2.1 x.2.2.2.2.2.1 x.2.2.2.2.2.2.1 x.2.2.2.2.2.2.2.1).bind fun r hr=>.cond (fun _=>.ret no) fun hb=>?_;have Y7:=hr (by cases h:r.1 with|true=>rfl|false=>rw[h]at hb;cases hb);refine(SH x.2.2.2.2.2.2.2.2.2.2).bind fun r _=>.cond (fun _=>.ret no) fun _=>?_;refine .cond (fun _=>?_) fun _=>?_
 ·simp only[aV];exact .cond (fun _=>.ret fun _=>B8) fun _=>.ret no
 ·refine(Rw x.2.2.2.2.2.2.2.2.1 1 (ai p)).bind fun r hr=>.cond (fun _=>.ret no) fun hb=>?_;subst hr;have hin:KA x.2.2.2.2.2.2.2.2.1 1 (ai p)=true:=by cases h:KA x.2.2.2.2.2.2.2.2.1 1 (ai p)with|true=>rfl|false=>rw[h]at hb;cases hb
  obtain⟨i1,i2⟩:=Ke.1 hin;unfold ai at i2;have hsub:aa .sub .i64 x.2.2.2.2.2.2.2.2.1 1=x.2.2.2.2.2.2.2.2.1-1:=bO (by omega) (by omega);rw[hsub];have hr:ah p (x.2.2.2.2.2.2.2.2.1-1)=true:=QN (by omega) (by omega);rw[hr];simp only[cond_true];refine .cond (fun _=>.ret no) fun _=>.cond (fun _=>.ret no) fun _=>?_;obtain⟨k1,k2⟩:=Y7;unfold jj Ji;simp only[IZ];have hc:x.2.2.2.1=0\/x.2.2.2.1=1\/x.2.2.2.1=2:=by omega
  rcases hc with hc|hc|hc <;> rw[hc]
  ·exact .ret no
  ·show Sm _ (bif af .eql x.2.2.2.2.2.2.2.2.2.1 0 then _ else _) (bif af .eql x.2.2.2.2.2.2.2.2.2.1 0 then _ else _);cases af .eql x.2.2.2.2.2.2.2.2.2.1 0 with
   |true=>exact .ret fun _=>B8
   |false=>exact .ret no
  ·show Sm _ (jj x.2.2.2.2.2.2.2.2.2.1 0 40 |>.bind _) (bif af .eql x.2.2.2.2.2.2.2.2.2.1 0 then _ else(some (KA x.2.2.2.2.2.2.2.2.2.1 1 40,())).bind fun y=>some (y.1,()));rw[M6];cases hq:af .eql x.2.2.2.2.2.2.2.2.2.1 0 with
   |true=>have:x.2.2.2.2.2.2.2.2.2.1=0:=S4.1 hq;rw[this];exact⟨(true,()),rfl,rfl,fun _=>B8⟩
   |false=>
    have h0:x.2.2.2.2.2.2.2.2.2.1≠0:=fun e=>by rw[S4.2 e]at hq;cases hq
    have:KA x.2.2.2.2.2.2.2.2.2.1 0 40=KA x.2.2.2.2.2.2.2.2.2.1 1 40:=by rw[Bool.eq_iff_iff,Ke,Ke];omega
    rw[this];exact⟨_,rfl,rfl,fun _=>B8⟩
theorem Tm(a:Int):Sm Any (JF a) (Ji a):=by unfold JF Ji;rw[M6,IZ];exact .ret trivial
theorem VC(n:Int):Sm Any (Lh a0 a1 a2 a3 a4 a5 a6 a7 a8 a9 a10 s p g j n) (La a0 a1 a2 a3 a4 a5 a6 a7 a8 a9 a10 s p g j n):=by obtain⟨y,e1,e2⟩:=VB a0 a1 a2 a3 a4 a5 a6 a7 a8 a9 a10 s p g j n;exact⟨_,e1,e2,trivial⟩
theorem Sl(x:Ub)(k:Nat)(hk:k<p.length)(hx:p.getD k bt=x)(h0:0<=x.2.2.1)(h1:x.2.2.1<s.length):Sm Any (J8 a0 a1 a2 a3 a4 a5 a6 a7 a8 a9 a10 s p g j (k:Int)) (Ko a0 a1 a2 a3 a4 a5 a6 a7 a8 a9 a10 s p g j x.1 x.2.1 x.2.2.1 x.2.2.2.1 x.2.2.2.2.1 x.2.2.2.2.2.1 x.2.2.2.2.2.2.1 x.2.2.2.2.2.2.2.1 x.2.2.2.2.2.2.2.2.1 x.2.2.2.2.2.2.2.2.2.1 x.2.2.2.2.2.2.2.2.2.2.1 x.2.2.2.2.2.2.2.2.2.2.2.1 x.2.2.2.2.2.2.2.2.2.2.2.2):=by unfold J8 Ko;rw[cV hk,aq,hx,QN h0 h1];simp only[cond_true];exact .cond (fun _=>.ret trivial) fun _=>.cond (fun _=>.ret trivial) fun _=>.cond (fun _=>.ret trivial) fun _=>.ret trivial
theorem Vz(k:Nat)(hk:k<p.length)(hs:s.length<=1048576):Sm (fun r=>r.1=true->0<=(p.getD k bt).2.2.1/\(p.getD k bt).2.2.1<s.length) (K1 a0 a1 a2 a3 a4 a5 a6 a7 a8 a9 a10 s p g j (k:Int)) (MS a0 a1 a2 a3 a4 a5 a6 a7 a8 a9 a10 s p g j (k:Int)):=by
 unfold K1 MS;refine .guard (cV hk) (cV hk) ?_;simp only[aq];generalize hx:p.getD k bt=x;have no:∀ {Q:Prop},((false:Bool),()).1=true->Q:=fun h=>by cases h
 refine(Rw x.1 1 24).bind fun r _=>.cond (fun _=>.ret no) fun _=>?_;refine(Tm x.2.1).bind fun r _=>.cond (fun _=>.ret no) fun _=>?_;refine(Rw x.2.2.1 0 (aa .sub .i64 (ai s) 1)).bind fun r hr=>.cond (fun _=>.ret no) fun hb=>?_;subst hr;have hin:KA x.2.2.1 0 (aa .sub .i64 (ai s) 1)=true:=by cases h:KA x.2.2.1 0 (aa .sub .i64 (ai s) 1)with|true=>rfl|false=>rw[h]at hb;cases hb
 obtain⟨i1,i2⟩:=Ke.1 hin;rw[bO (by unfold ai;omega) (by unfold ai;omega)]at i2;have i2:x.2.2.1<s.length:=by unfold ai at i2;omega
 have yes:∀ {b:Bool},b=true->0<=x.2.2.1/\x.2.2.1<s.length:=fun _=>⟨i1,i2⟩
 refine(Rw x.2.2.2.1 0 5).bind fun r _=>.cond (fun _=>.ret no) fun _=>?_;refine .cond (fun _=>.guard (QN i1 i2) (QN i1 i2) (.cond (fun _=>.ret no) fun _=>?_)) fun _=>?_;all_goals
  refine(Sl a0 a1 a2 a3 a4 a5 a6 a7 a8 a9 a10 s p g j x k hk hx i1 i2).bind fun r _=>.cond (fun _=>?_) fun _=>?_
  ·refine .cond (fun _=>.cond (fun _=>.cond (fun _=>.cond (fun _=>?_) fun _=>.ret no) fun _=>.ret no) fun _=>.ret no) fun _=>.ret no;simp only[aV];exact .ret yes
  ·refine(Rw x.2.2.2.2.1 0 a10).bind fun r _=>.cond (fun _=>.ret no) fun _=>?_;refine(Rw x.2.2.2.2.2.1 0 a7).bind fun r _=>.cond (fun _=>.ret no) fun _=>?_;refine(WB x.2.2.2.2.2.2.1 x.2.2.2.2.2.2.2.1 x.2.2.2.2.2.2.2.2.1 x.2.2.2.2.2.2.2.2.2.1 x.2.2.2.2.2.2.2.2.2.2.1).bind fun r _=>.cond (fun _=>.ret no) fun _=>?_;refine(VC a0 a1 a2 a3 a4 a5 a6 a7 a8 a9 a10 s p g j (aa .add .i64 (k:Int) 1)).bind fun r _=>.cond (fun _=>.ret no) fun _=>?_;refine .cond (fun _=>?_) fun _=>?_
   ·refine(Tm x.2.2.2.2.2.2.2.2.2.2.2.1).bind fun r _=>.cond (fun _=>?_) fun _=>.ret no;exact(Rw x.2.2.2.2.2.2.2.2.2.2.2.2 0 (aa .add .i64 a4 (aa .mul .i64 a6 a7))).bind fun r _=>.ret yes
   ·exact .cond (fun _=>.ret yes) fun _=>.ret no
theorem WA(hp:p.length<=1048576)(hs:∀k,k<p.length->0<=(p.getD k bt).2.2.1/\(p.getD k bt).2.2.1<s.length):Sm Any (NS a0 a1 a2 a3 a4 a5 a6 a7 a8 a9 a10 s p g j) (O2 a0 a1 a2 a3 a4 a5 a6 a7 a8 a9 a10 s p g j):=by
 unfold NS O2;refine(NU (B:=Int) (Q:=Any) p.length (by omega) (fun _=>True) (fun b n hn _=>?_) (fun b _=>?_) (0:Int) trivial).bind fun q _=>?_
 ·unfold Nx Ol;simp only[aj,az,hn,decide_true,cond_true,aq,av (n:=n) (by omega)];obtain⟨h0,h1⟩:=hs n hn;refine .cond (fun _=>?_) fun _=>.ret ⟨trivial,rfl⟩;refine(Sl a0 a1 a2 a3 a4 a5 a6 a7 a8 a9 a10 s p g j (p.getD n bt) n hn rfl h0 h1).bind fun r _=>.cond (fun _=>.ret ⟨trivial,rfl⟩) fun _=>.ret ⟨trivial,rfl⟩
 ·unfold Nx Ol;simp only[aj,Nat.lt_irrefl,decide_false,cond_false];exact .ret trivial
 ·cases q with
  |inl y=>exact .ret trivial
  |inr e=>exact e.elim
theorem Xi(k i:Int)(YC:List QI)(l:List Bx)(hl:l.length<=1073741824)(xP:∀n,n<l.length->0<=(l.getD n JG).2.2.1/\(l.getD n JG).2.2.1<=999)(hp:p.length<=1048576)(c:Int):
  Sm Any (Lv (a0,a1,a2,a3,a4,a5,a6,a7,a8,a9,a10,s,p,g,j,k,i,l,()) (c,0,())) (Nn (a0,a1,a2,a3,a4,a5,a6,a7,a8,a9,a10,s,p,g,j,k,s,ai s,k,YC,ai YC,i,l,ai l,()) (c,0,())):=by
 refine NU (B:=Int) (Q:=Any) l.length (by omega) (fun _=>True) (fun b n hn _=>?_) (fun b _=>?_) c trivial
 ·unfold Ls Nk;obtain⟨h0,h9⟩:=xP n hn;revert h0 h9;simp only[aj,az,hn,decide_true,cond_true,aq,av (n:=n) (by omega),IZ,Option.bind_some,aV];generalize l.getD n JG=x;intro h0 h9;refine .cond (fun _=>.ret ⟨trivial,rfl⟩) fun hz=>?_;have hz:¬x.2.2.1=0:=fun e=>by rw[S4.2 e]at hz;cases hz
  have hb:Bool.not (KA x.2.2.1 1 (ai p))=af .gtr x.2.2.1 (ai p):=by
   cases hq:af .gtr x.2.2.1 (ai p)with
   |true=>
    have:=YH.1 hq;have:KA x.2.2.1 1 (ai p)=false:=by rw[Bool.eq_false_iff,ne_eq,Ke];omega
    rw[this];rfl
   |false=>have:=V6.1 hq;have:KA x.2.2.1 1 (ai p)=true:=Ke.2 ⟨by omega,by omega⟩;rw[this];rfl
  rw[hb];refine .cond (fun _=>.ret trivial) fun hg=>?_;have hg:=V6.1 hg;unfold ai at hg;rw[bO (by omega) (by omega)];refine .guard (QN (by omega) (by omega)) (QN (by omega) (by omega)) ?_;generalize ae bt p (x.2.2.1-1)=y;cases af .neq y.2.2.1 k <;> cases af .neq y.1 x.2.1 <;> cases af .neq y.2.2.2.1 2 <;> cases af .neq y.2.2.2.1 3 <;> cases af .eql y.2.2.2.1 2 <;> cases x.2.2.2 <;> first|exact .ret trivial|exact .ret ⟨trivial,rfl⟩
 ·unfold Ls Nk;simp only[aj,Nat.lt_irrefl,decide_false,cond_false];exact .ret trivial
theorem Xh(k:Nat)(hk:k<s.length)(hs:Nu 1073741824 (s.getD k b8))(hb:PG (s.getD k b8).2.2.1=true)(hp:p.length<=1048576)(c:Int):
  Sm Any (Lu (a0,a1,a2,a3,a4,a5,a6,a7,a8,a9,a10,s,p,g,j,(k:Int),()) (c,0,())) (Nm (a0,a1,a2,a3,a4,a5,a6,a7,a8,a9,a10,s,p,g,j,(k:Int),s,ai s,(k:Int),(s.getD k b8).2.2.1,ai (s.getD k b8).2.2.1,()) (c,0,())):=by
 have hw:=Tf hs;refine NU (B:=Int) (Q:=Any) (s.getD k b8).2.2.1.length (by have:=hw.1;omega) (fun _=>True) (fun b n hn _=>?_) (fun b _=>?_) c trivial
 ·unfold Lr Nj;have hz:s.getD k b7=s.getD k b8:=rfl;simp only[az,hk,decide_true,cond_true,aq,hz,aj,hn,av (n:=n) (by have:=hw.1;omega)];refine(Xi a0 a1 a2 a3 a4 a5 a6 a7 a8 a9 a10 s p g j (k:Int) (n:Int) (s.getD k b8).2.2.1 (yx (s.getD k b8).2.2.1 n).2.2 (hw.at hn).2 (fun m hm=>?_) hp b).bind fun q _=>?_
  ·unfold PG at hb;rw[Bool.and_eq_true]at hb;have:=(aQ _ _).1 hb.2 n (Nat.zero_le _) (by omega);unfold PP Tu at this;simp only[Bool.and_eq_true]at this;have:=(aQ _ _).1 this.1.2.1.1 m (Nat.zero_le _) (by omega);unfold VN at this;simp only[Bool.and_eq_true]at this;exact Ke.1 this.1.1.2
  ·cases q with
   |inl y=>exact .ret trivial
   |inr q=>
    cases q with
    |inl y=>exact .ret ⟨trivial,rfl⟩
    |inr e=>exact e.elim
 ·unfold Lr Nj;have hz:s.getD k b7=s.getD k b8:=rfl;simp only[az,hk,decide_true,cond_true,aq,hz,aj,Nat.lt_irrefl,decide_false,cond_false];exact .ret trivial
theorem VY(hle:Sg s p g j)(hb:∀k,k<s.length->PG (s.getD k b8).2.2.1=true):Sm Any (Ln a0 a1 a2 a3 a4 a5 a6 a7 a8 a9 a10 s p g j) (NJ a0 a1 a2 a3 a4 a5 a6 a7 a8 a9 a10 s p g j):=by
 have hls:=hle.ls;have Zs:=hle.lp;unfold Ln NJ;refine(NU (B:=Int) (Q:=Any) s.length (by omega) (fun _=>True) (fun b n hn _=>?_) (fun b _=>?_) (0:Int) trivial).bind fun q _=>?_
 ·unfold Lq Ni;have hz:∀n,s.getD n b7=s.getD n b8:=fun _=>rfl;simp only[aj,az,hn,decide_true,cond_true,aq,av (n:=n) (by omega),hz];refine(Xh a0 a1 a2 a3 a4 a5 a6 a7 a8 a9 a10 s p g j n hn (hle.ss n hn) (hb n hn) Zs b).bind fun q _=>?_;cases q with
  |inl y=>exact .ret trivial
  |inr q=>
   cases q with
   |inl y=>exact .ret ⟨trivial,rfl⟩
   |inr e=>exact e.elim
 ·unfold Lq Ni;simp only[aj,Nat.lt_irrefl,decide_false,cond_false];exact .ret trivial
 ·cases q with
  |inl y=>exact .ret trivial
  |inr q=>
   cases q with
   |inr e=>exact e.elim
   |inl y=>
    refine(NU (B:=Int) (Q:=Any) p.length (by omega) (fun _=>True) (fun b n hn _=>?_) (fun b _=>?_) y.1 trivial).bind fun q _=>?_
    ·unfold Lt Nl;simp only[aj,az,hn,decide_true,cond_true,aq,av (n:=n) (by omega)];exact .cond (fun _=>.ret ⟨trivial,rfl⟩) fun _=>.cond (fun _=>.ret ⟨trivial,rfl⟩) fun _=>.ret ⟨trivial,rfl⟩
    ·unfold Lt Nl;simp only[aj,Nat.lt_irrefl,decide_false,cond_false];exact .ret trivial
    ·cases q with
     |inl y=>exact .ret trivial
     |inr e=>exact e.elim
theorem UU(hle:Sg s p g j):Sm Any (Ml a0 a1 a2 a3 a4 a5 a6 a7 a8 a9 a10 s p g j) (LN a0 a1 a2 a3 a4 a5 a6 a7 a8 a9 a10 s p g j):=by
 have hls:=hle.ls;have Zs:=hle.lp;have hlg:=hle.lg;unfold Ml LN;refine Sm.bind (P:=Any) ⟨_,TP ..,TF ..,trivial⟩ fun r _=>.cond (fun _=>.ret trivial) fun _=>?_;refine(Rw a8 0 1000).bind fun r _=>.cond (fun _=>.ret trivial) fun _=>?_;refine Sm.bind (P:=Any) (by unfold JM JT;rw[M6,IZ];exact .ret trivial) fun r _=>.cond (fun _=>.ret trivial) fun _=>?_;refine Sm.bind (P:=Any) (by rw[M6,Ts];exact .ret trivial) fun r _=>.cond (fun _=>.ret trivial) fun _=>?_;refine(Rw (ai s) 1 3).bind fun r _=>.cond (fun _=>.ret trivial) fun _=>.cond (fun _=>.ret trivial) fun _=>?_;refine(Vt g (by omega)).bind fun r _=>.cond (fun _=>.ret trivial) fun _=>?_;refine(SH j).bind fun r _=>.cond (fun _=>.ret trivial) fun _=>?_;refine(UA s.length (by omega) (fun n=>PG (s.getD n b8).2.2.1=true) (Q:=fun y=>match y with| .inl _=>True| .inr _=>∀n,n<s.length->PG (s.getD n b8).2.2.1=true) (fun n hn=>?_) (fun hF=>?_)).bind fun q hq=>?_
 ·unfold Mm LO;simp only[aj,hn,decide_true,cond_true,av (n:=n) (by omega)];refine(WL a0 a1 a2 a3 a4 a5 a6 a7 a8 a9 a10 s p g j n hn (hle.ss n hn) Zs).bind fun r hr=>.cond (fun _=>.ret trivial) fun hb=>.ret ⟨rfl,hr ?_⟩;cases h:r.1 with|true=>rfl|false=>rw[h]at hb;cases hb
 ·unfold Mm LO;simp only[aj,Nat.lt_irrefl,decide_false,cond_false];exact .ret hF
 ·cases q with
  |inl y=>exact .ret trivial
  |inr q=>
   cases q with
   |inr e=>exact e.elim
   |inl y=>
    have Y5:∀n,n<s.length->PG (s.getD n b8).2.2.1=true:=hq;refine(UA p.length (by omega) (fun n=>0<=(p.getD n bt).2.2.1/\(p.getD n bt).2.2.1<s.length) (Q:=fun y=>match y with| .inl _=>True| .inr _=>∀n,n<p.length->0<=(p.getD n bt).2.2.1/\(p.getD n bt).2.2.1<s.length) (fun n hn=>?_) (fun hF=>?_)).bind fun q hq=>?_
    ·unfold Mn LP;simp only[aj,hn,decide_true,cond_true,av (n:=n) (by omega)];refine(Vz a0 a1 a2 a3 a4 a5 a6 a7 a8 a9 a10 s p g j n hn hls).bind fun r hr=>.cond (fun _=>.ret trivial) fun hb=>.ret ⟨rfl,hr ?_⟩;cases h:r.1 with|true=>rfl|false=>rw[h]at hb;cases hb
    ·unfold Mn LP;simp only[aj,Nat.lt_irrefl,decide_false,cond_false];exact .ret hF
    ·cases q with
     |inl y=>exact .ret trivial
     |inr q=>
      cases q with
      |inr e=>exact e.elim
      |inl y=>refine(VY a0 a1 a2 a3 a4 a5 a6 a7 a8 a9 a10 s p g j hle Y5).bind fun r _=>.cond (fun _=>?_) fun _=>.ret trivial;exact(WA a0 a1 a2 a3 a4 a5 a6 a7 a8 a9 a10 s p g j Zs hq).bind fun r _=>.ret trivial
end
end Go.Fn
set_option linter.unusedVariables false
namespace Go.Fn
open Go.R
noncomputable def L4(a:Unit)(b:Rq×OE):Option (Rq×OE⊕Yy⊕Empty):=letI c:=b.2.2.1;letI d:=aa .add .i64 b.2.1 1;letI e:=aC b.1 c (b.2.1,(ae Qk b.1 c).2);cond (af .lss c (ai b.1)) (cond (ah b.1 c) (cond (ah e c) (lets (aC e c ((ae Qk e c).1,d)) fun f=>some (.inl (f,aa .add .i64 d 1,aa .add .i64 c 1,()))) none) none) (some (.inr (.inl (b.1,b.2.1,()))))
noncomputable def L5 k x:=iter (L4 k) big x
noncomputable def KF(a:Rq)(b:Int):Option (Int×Xz):=(L5 () (a,b,0,())).bind fun c=>Sum.elim (fun d=>some (d.2.1,d.1,())) (fun d=>Empty.elim d) c
noncomputable def MD(a:Unit)(b:Sn×OE):Option (Sn×OE⊕Xe⊕Empty):=letI c:=b.2.2.1;letI d:=aa .add .i64 b.2.1 1;letI e:=(ae JG b.1 c).2;letI f:=aC b.1 c (b.2.1,e.1,e.2.1,e.2.2);letI g:=ae JG f c;cond (af .lss c (ai b.1)) (cond (ah b.1 c) (cond (ah f c) (lets (aC f c (g.1,d,g.2.2.1,g.2.2.2)) fun h=>letI i:=ae JG h c;letI j:=aa .add .i64 d 1;cond (ah h c) (lets (aC h c (i.1,i.2.1,j,i.2.2.2)) fun k=>letI l:=ae JG k c;letI m:=aa .add .i64 j 1;cond (ax 3) none (cond (ah k c) (lets (aC k c (l.1,l.2.1,l.2.2.1,af .eql (aa .rem .i64 m 3) 0)) fun n=>some (.inl (n,aa .add .i64 m 1,aa .add .i64 c 1,()))) none)) none) none) none) (some (.inr (.inl (b.1,b.2.1,()))))
noncomputable def ME k x:=iter (MD k) big x
noncomputable def MV(a:Sn)(b:Int):Option (Int×Xc):=(ME () (a,b,0,())).bind fun c=>Sum.elim (fun d=>some (d.2.1,d.1,())) (fun d=>Empty.elim d) c
noncomputable def K4(a:Unit)(b:SZ×OE):Option (SZ×OE⊕XD⊕Empty):=letI c:=b.2.2.1;letI d:=(ae m6 b.1 c).2;letI e:=aC b.1 c (b.2.1,d.1,d.2);letI f:=ae m6 e c;cond (af .lss c (ai b.1)) (cond (ah b.1 c) (cond (ah e c) ((MW f.2.1 (aa .add .i64 b.2.1 1)).bind fun g=>lets (aC e c (f.1,g.2.1,f.2.2)) fun h=>letI i:=ae m6 h c;cond (ah h c) ((MV i.2.2 g.1).bind fun j=>some (.inl (aC h c (i.1,i.2.1,j.2.1),j.1,aa .add .i64 c 1,()))) none) none) none) (some (.inr (.inl (b.1,b.2.1,()))))
noncomputable def K5 k x:=iter (K4 k) big x
noncomputable def KO(a:SZ)(b:Int):Option (Int×Xd):=(K5 () (a,b,0,())).bind fun c=>Sum.elim (fun d=>some (d.2.1,d.1,())) (fun d=>Empty.elim d) c
noncomputable def L2(a:Unit)(b:Pt×OE):Option (Pt×OE⊕Yz⊕Empty):=letI c:=b.2.2.1;letI d:=ae b7 b.1 c;cond (af .lss c (ai b.1)) (cond (ah b.1 c) ((KF d.1 b.2.1).bind fun e=>letI f:=d.2.2;letI g:=f.2.2.2.2;lets (aC b.1 c (e.2.1,d.2.1,f.1,f.2.1,f.2.2.1,f.2.2.2.1,g.1,g.2.1,g.2.2.1,g.2.2.2.1,g.2.2.2.2)) fun h=>letI i:=ae b7 h c;cond (ah h c) ((KF i.2.1 e.1).bind fun j=>letI k:=i.2.2.2;letI l:=k.2.2.2.2;lets (aC h c (i.1,j.2.1,i.2.2.1,k.1,k.2.1,k.2.2.1,k.2.2.2.1,l.1,l.2.1,l.2.2.1,l.2.2.2)) fun m=>letI n:=ae b7 m c;cond (ah m c) ((KO n.2.2.1 j.1).bind fun o=>letI p:=n.2.2.2;letI q:=p.2.2.2.2;lets (aC m c (n.1,n.2.1,o.2.1,p.1,p.2.1,p.2.2.1,p.2.2.2.1,q.1,q.2.1,q.2.2.1,q.2.2.2)) fun r=>letI s:=ae b7 r c;letI t:=s.2.2.2.2;letI u:=t.2.2.2;cond (ah r c) (lets (aC r c (s.1,s.2.1,s.2.2.1,o.1,t.1,t.2.1,t.2.2.1,u.1,u.2.1,u.2.2.1,u.2.2.2)) fun v=>letI w:=(1:Int);letI x:=aa .add .i64 o.1 w;letI y:=ae b7 v c;letI z:=y.2.2.2.2.2;cond (ah v c) (lets (aC v c (y.1,y.2.1,y.2.2.1,y.2.2.2.1,x,z.1,z.2.1,z.2.2.1,z.2.2.2.1,z.2.2.2.2.1,z.2.2.2.2.2)) fun A=>letI B:=ax 3;letI C:=ae b7 A c;letI D:=C.2.2;letI E:=D.2.2.2.2;letI F:=aa .add .i64 x w;cond B none (cond (ah A c) (lets (aC A c (C.1,C.2.1,D.1,D.2.1,D.2.2.1,af .eql (aa .rem .i64 F 3) 0,E.1,E.2.1,E.2.2.1,E.2.2.2.1,E.2.2.2.2)) fun G=>letI H:=ae b7 G c;letI I:=H.2.2;letI J:=I.2.2.2.2.2;letI K:=aa .add .i64 F w;cond B none (cond (ah G c) (lets (aC G c (H.1,H.2.1,I.1,I.2.1,I.2.2.1,I.2.2.2.1,af .eql (aa .rem .i64 K 3) 0,J.1,J.2.1,J.2.2.1,J.2.2.2)) fun L=>letI M:=aa .add .i64 K w;cond B none (lets (af .eql (aa .rem .i64 M 3) 0) fun N=>letI O:=ae b7 L c;letI P:=O.2.2;letI Q:=P.2.2.2.2.2.2;cond (ah L c) (lets (aC L c (O.1,O.2.1,P.1,P.2.1,P.2.2.1,P.2.2.2.1,P.2.2.2.2.1,N,Q.1,Q.2.1,Q.2.2)) fun R=>letI S:=ae b7 R c;letI T:=S.2.2;letI U:=T.2.2.2.2;letI V:=aa .add .i64 M w;cond (ah R c) (lets (aC R c (S.1,S.2.1,T.1,T.2.1,T.2.2.1,T.2.2.2.1,U.1,U.2.1,V,U.2.2.2.1,U.2.2.2.2)) fun W=>lets (aa .add .i64 V w) fun X=>letI Y:=ae b7 W c;letI Z:=Y.2.2;letI a0:=Z.2.2.2.2;cond (ah W c) (lets (aC W c (Y.1,Y.2.1,Z.1,Z.2.1,Z.2.2.1,Z.2.2.2.1,a0.1,a0.2.1,a0.2.2.1,X,a0.2.2.2.2)) fun a1=>letI a2:=ae b7 a1 c;letI a3:=a2.2.2.2;letI a4:=a3.2.2.2.2;cond (ah a1 c) ((JO a4.2.2.2 (aa .add .i64 X w)).bind fun a5=>lets (aC a1 c (a2.1,a2.2.1,a2.2.2.1,a3.1,a3.2.1,a3.2.2.1,a3.2.2.2.1,a4.1,a4.2.1,a4.2.2.1,a5.2.1)) fun a6=>some (.inl (a6,a5.1,aa .add .i64 c w,()))) none) none) none) none)) none)) none)) none) none) none) none) none) (some (.inr (.inl (b.1,b.2.1,()))))
noncomputable def L3 k x:=iter (L2 k) big x
noncomputable def L0(a:Pt)(b:Int):Option (Int×XA):=(L3 () (a,b,0,())).bind fun c=>Sum.elim (fun d=>some (d.2.1,d.1,())) (fun d=>Empty.elim d) c
noncomputable def K6(a:Unit)(b:PO×OE):Option (PO×OE⊕YA⊕Empty):=letI c:=b.2.2.1;letI d:=(ae bt b.1 c).2;letI e:=d.2.2;letI f:=e.2.2.2.2.2;cond (af .lss c (ai b.1)) (cond (ah b.1 c) (lets (aC b.1 c (b.2.1,d.1,d.2.1,e.1,e.2.1,e.2.2.1,e.2.2.2.1,e.2.2.2.2.1,f.1,f.2.1,f.2.2.1,f.2.2.2.1,f.2.2.2.2)) fun g=>letI h:=(1:Int);letI i:=ae bt g c;letI j:=aa .add .i64 b.2.1 h;letI k:=i.2.2.2.2;letI l:=k.2.2.2.2;cond (ah g c) (lets (aC g c (i.1,j,i.2.2.1,i.2.2.2.1,k.1,k.2.1,k.2.2.1,k.2.2.2.1,l.1,l.2.1,l.2.2.1,l.2.2.2.1,l.2.2.2.2)) fun m=>letI n:=ae bt m c;letI o:=n.2.2.2.2;letI p:=aa .add .i64 j h;letI q:=o.2.2.2.2;cond (ah m c) (lets (aC m c (n.1,n.2.1,p,n.2.2.2.1,o.1,o.2.1,o.2.2.1,o.2.2.2.1,q.1,q.2.1,q.2.2.1,q.2.2.2.1,q.2.2.2.2)) fun r=>letI s:=ae bt r c;letI t:=s.2.2.2.2;letI u:=t.2.2.2.2;letI v:=aa .add .i64 p h;cond (ah r c) (lets (aC r c (s.1,s.2.1,s.2.2.1,v,t.1,t.2.1,t.2.2.1,t.2.2.2.1,u.1,u.2.1,u.2.2.1,u.2.2.2.1,u.2.2.2.2)) fun w=>letI x:=ae bt w c;letI y:=x.2.2.2.2.2;letI z:=y.2.2.2.2;letI A:=aa .add .i64 v h;cond (ah w c) (lets (aC w c (x.1,x.2.1,x.2.2.1,x.2.2.2.1,A,y.1,y.2.1,y.2.2.1,y.2.2.2.1,z.1,z.2.1,z.2.2.1,z.2.2.2)) fun B=>letI C:=ae bt B c;letI D:=C.2.2.2.2.2.2;letI E:=D.2.2.2;letI F:=aa .add .i64 A h;cond (ah B c) (lets (aC B c (C.1,C.2.1,C.2.2.1,C.2.2.2.1,C.2.2.2.2.1,F,D.1,D.2.1,D.2.2.1,E.1,E.2.1,E.2.2.1,E.2.2.2)) fun G=>lets (aa .add .i64 F h) fun H=>letI I:=ae bt G c;letI J:=I.2.2.2;letI K:=J.2.2.2.2.2;cond (ah G c) (lets (aC G c (I.1,I.2.1,I.2.2.1,J.1,J.2.1,J.2.2.1,H,J.2.2.2.2.1,K.1,K.2.1,K.2.2.1,K.2.2.2.1,K.2.2.2.2)) fun L=>letI M:=aa .add .i64 H h;letI N:=ae bt L c;letI O:=N.2.2.2;letI P:=O.2.2.2.2.2;cond (ah L c) (lets (aC L c (N.1,N.2.1,N.2.2.1,O.1,O.2.1,O.2.2.1,O.2.2.2.1,M,P.1,P.2.1,P.2.2.1,P.2.2.2.1,P.2.2.2.2)) fun Q=>letI R:=ae bt Q c;letI S:=R.2.2.2;letI T:=aa .add .i64 M h;letI U:=S.2.2.2.2.2.2;cond (ah Q c) (lets (aC Q c (R.1,R.2.1,R.2.2.1,S.1,S.2.1,S.2.2.1,S.2.2.2.1,S.2.2.2.2.1,T,U.1,U.2.1,U.2.2.1,U.2.2.2)) fun V=>letI W:=ae bt V c;letI X:=W.2.2.2;letI Y:=X.2.2.2.2;letI Z:=aa .add .i64 T h;cond (ah V c) (lets (aC V c (W.1,W.2.1,W.2.2.1,X.1,X.2.1,X.2.2.1,X.2.2.2.1,Y.1,Y.2.1,Z,Y.2.2.2.1,Y.2.2.2.2.1,Y.2.2.2.2.2)) fun a0=>letI a1:=ae bt a0 c;letI a2:=a1.2.2.2;letI a3:=a2.2.2.2.2;letI a4:=aa .add .i64 Z h;cond (ah a0 c) (lets (aC a0 c (a1.1,a1.2.1,a1.2.2.1,a2.1,a2.2.1,a2.2.2.1,a2.2.2.2.1,a3.1,a3.2.1,a3.2.2.1,a4,a3.2.2.2.2.1,a3.2.2.2.2.2)) fun a5=>letI a6:=ae bt a5 c;letI a7:=a6.2.2.2;letI a8:=a7.2.2.2.2;letI a9:=aa .add .i64 a4 h;cond (ah a5 c) (lets (aC a5 c (a6.1,a6.2.1,a6.2.2.1,a7.1,a7.2.1,a7.2.2.1,a7.2.2.2.1,a8.1,a8.2.1,a8.2.2.1,a8.2.2.2.1,a9,a8.2.2.2.2.2)) fun b0=>lets (aa .add .i64 a9 h) fun b1=>letI b2:=ae bt b0 c;letI b3:=b2.2.2.2;letI b4:=b3.2.2.2.2;cond (ah b0 c) (lets (aC b0 c (b2.1,b2.2.1,b2.2.2.1,b3.1,b3.2.1,b3.2.2.1,b3.2.2.2.1,b4.1,b4.2.1,b4.2.2.1,b4.2.2.2.1,b4.2.2.2.2.1,b1)) fun b5=>some (.inl (b5,aa .add .i64 b1 h,aa .add .i64 c h,()))) none) none) none) none) none) none) none) none) none) none) none) none) none) (some (.inr (.inl (b.1,b.2.1,()))))
noncomputable def K7 k x:=iter (K6 k) big x
noncomputable def KS(a:PO)(b:Int):Option (Int×Yx):=(K7 () (a,b,0,())).bind fun c=>Sum.elim (fun d=>some (d.2.1,d.1,())) (fun d=>Empty.elim d) c
noncomputable def Lo(a:Unit)(b:Oa×OE):Option (Oa×OE⊕Oa×Nd⊕Empty):=letI c:=b.2.2.1;letI d:=(ae xx b.1 c).2;cond (af .lss c (ai b.1)) (cond (ah b.1 c) (lets (aC b.1 c (b.2.1,d.1,d.2.1,d.2.2.1,d.2.2.2.1,d.2.2.2.2.1,d.2.2.2.2.2)) fun e=>letI f:=(1:Int);letI g:=aa .add .i64 b.2.1 f;letI h:=(ae xx e c).2.2;cond (ah e c) (lets (aC e c ((ae xx e c).1,g,h.1,h.2.1,h.2.2.1,h.2.2.2.1,h.2.2.2.2)) fun i=>letI j:=ae xx i c;letI k:=j.2.2.2;letI l:=aa .add .i64 g f;cond (ah i c) (lets (aC i c (j.1,j.2.1,l,k.1,k.2.1,k.2.2.1,k.2.2.2)) fun m=>letI n:=ae xx m c;letI o:=n.2.2.2.2;letI p:=aa .add .i64 l f;cond (ah m c) (lets (aC m c (n.1,n.2.1,n.2.2.1,p,o.1,o.2.1,o.2.2)) fun q=>letI r:=ae xx q c;letI s:=aa .add .i64 p f;cond (ah q c) (lets (aC q c (r.1,r.2.1,r.2.2.1,r.2.2.2.1,s,r.2.2.2.2.2.1,r.2.2.2.2.2.2)) fun t=>letI u:=ae xx t c;letI v:=aa .add .i64 s f;cond (ah t c) (lets (aC t c (u.1,u.2.1,u.2.2.1,u.2.2.2.1,u.2.2.2.2.1,v,u.2.2.2.2.2.2)) fun w=>lets (aa .add .i64 v f) fun x=>letI y:=ae xx w c;cond (ax 3) none (cond (ah w c) (lets (aC w c (y.1,y.2.1,y.2.2.1,y.2.2.2.1,y.2.2.2.2.1,y.2.2.2.2.2.1,af .eql (aa .rem .i64 x 3) 0)) fun z=>some (.inl (z,aa .add .i64 x f,aa .add .i64 c f,()))) none)) none) none) none) none) none) none) (some (.inr (.inl (b.1,b.2.1,()))))
noncomputable def Lp k x:=iter (Lo k) big x
noncomputable def Li(a:Oa)(b:Int):Option (Int×XB):=(Lp () (a,b,0,())).bind fun c=>Sum.elim (fun d=>some (d.2.1,d.1,())) (fun d=>Empty.elim d) c
noncomputable def KR(a b c d e f g h i j k:Int)(l:Pt)(m:PO)(n:Oa)(o:JP)(p:Int):Option YcF:=(L0 l p).bind fun q=>(KS m q.1).bind fun r=>(Li n r.1).bind fun s=>(JO o s.1).bind fun t=>some (t.1,q.2.1,r.2.1,s.2.1,t.2.1,())
end Go.Fn
set_option linter.unusedVariables false
set_option linter.unusedSimpArgs false
namespace Go.Fn
open Go.R
theorem XG:ax (3:Int)=false:=by decide
noncomputable def k3(k:Int):Bool:=af .eql (aa .rem .i64 k 3) 0
theorem K3{a b:Int}(h0:0<=a)(h1:a<=4611686018427387904)(h:b=a+1):aa .add .i64 a 1=b:=(Qq h0 h1).trans h.symm
theorem cT{β:Type}{b:Bool}{x y:β}(h:b=true):(bif b then x else y)=x:=by rw[h];rfl
theorem cF{β:Type}{b:Bool}{x y:β}(h:b=false):(bif b then x else y)=y:=by rw[h];rfl
theorem JA{α β:Type}{a b:α}{f:α->β}(h:a=b):lets a f=f b:=by rw[aV,h]
theorem Sz{α β:Type}{x:Option α}{r:α}{f:α->Option β}(h:x=some r):x.bind f=f r:=by rw[h];rfl
theorem Zw{α:Type}{L:List α}{n:Nat}(h:n<L.length):af .lss (n:Int) (ai L)=true:=by rw[aj];exact decide_eq_true h
theorem Zv{α:Type}{L:List α}{n:Nat}(h:n<L.length):ah L (n:Int)=true:=by rw[az];exact decide_eq_true h
theorem Rr{α:Type}{L:List α}{n:Nat}{a:α}(h:n<L.length):ah (L.set n a) (n:Int)=true:=by rw[je];exact decide_eq_true h
noncomputable def iL(k:Int)(x:SX):SX×Int:=((k,k+1),k+2)
theorem Vd(k:Int)(x:SX):k<=(iL k x).2/\(iL k x).2<=k+(2:Nat):=⟨by show k<=k+2;omega,by show k+2<=k+2;omega⟩
theorem RJ(l:List SX)(k:Int)(hl:l.length<=1073741824)(h0:0<=k)(h1:k+2*(l.length:Int)<=1125899906842624):KF l k=some ((nh iL l k).2,(nh iL l k).1,()):=by
 unfold KF;have:L5 () (l,k,0,())=some (.inl ((nh iL l k).1,(nh iL l k).2,())):=by
  refine PN (cost:=fun _=>2) Qk l k hl h0 Vd (fun L q n hx hL hg lA cQ=>?_) (fun L k'=>?_)
  ·rw[J9]at cQ;unfold iL;have a1:aa .add .i64 (q) 1=q+1:=K3 (by omega) (by omega) (by omega);have a2:aa .add .i64 (q+1) 1=q+2:=K3 (by omega) (by omega) (by omega);unfold L4;simp only[aj,az,hx,decide_true,cond_true,av (n:=n) (by omega),aN,aq,a1,a2];repeat (first|rw[aV]|simp only[je,List.length_set,hx,decide_true,cond_true,aN,aq,aF hx,List.set_set,a2])
  ·unfold L4;simp only[aj,Nat.lt_irrefl,decide_false,cond_false]
 rw[this];rfl
noncomputable def SM(k:Int)(x:Bx):Bx×Int:=((k,k+1,k+2,k3 (k+3)),k+4)
theorem Vc(k:Int)(x:Bx):k<=(SM k x).2/\(SM k x).2<=k+(4:Nat):=⟨by show k<=k+4;omega,by show k+4<=k+4;omega⟩
theorem Ut(l:List Bx)(k:Int)(hl:l.length<=1073741824)(h0:0<=k)(h1:k+4*(l.length:Int)<=1125899906842624):MV l k=some ((nh SM l k).2,(nh SM l k).1,()):=by
 unfold MV;have:ME () (l,k,0,())=some (.inl ((nh SM l k).1,(nh SM l k).2,())):=by
  refine PN (cost:=fun _=>4) JG l k hl h0 Vc (fun L q n hx hL hg lA cQ=>?_) (fun L k'=>?_)
  ·rw[J9]at cQ;unfold SM k3;have a1:aa .add .i64 (q) 1=q+1:=K3 (by omega) (by omega) (by omega);have a2:aa .add .i64 (q+1) 1=q+2:=K3 (by omega) (by omega) (by omega);have a3:aa .add .i64 (q+2) 1=q+3:=K3 (by omega) (by omega) (by omega);have a4:aa .add .i64 (q+3) 1=q+4:=K3 (by omega) (by omega) (by omega);unfold MD;simp only[aj,az,hx,decide_true,cond_true,av (n:=n) (by omega),aN,aq,a1,a2,a3,a4,XG,cond_false];repeat (first|rw[aV]|simp only[je,List.length_set,hx,decide_true,cond_true,aN,aq,aF hx,List.set_set,a4,XG,cond_false])
  ·unfold MD;simp only[aj,Nat.lt_irrefl,decide_false,cond_false]
 rw[this];rfl
noncomputable def RM(k:Int)(x:Ub):Ub×Int:=((k,k+1,k+2,k+3,k+4,k+5,k+6,k+7,k+8,k+9,k+10,k+11,k+12),k+13)
theorem Uw(k:Int)(x:Ub):k<=(RM k x).2/\(RM k x).2<=k+(13:Nat):=⟨by show k<=k+13;omega,by show k+13<=k+13;omega⟩
theorem SL(l:List Ub)(k:Int)(hl:l.length<=1073741824)(h0:0<=k)(h1:k+13*(l.length:Int)<=1125899906842624):KS l k=some ((nh RM l k).2,(nh RM l k).1,()):=by
 unfold KS;have:K7 () (l,k,0,())=some (.inl ((nh RM l k).1,(nh RM l k).2,())):=by
  refine PN (cost:=fun _=>13) bt l k hl h0 Uw (fun L q n hx hL hg lA cQ=>?_) (fun L k'=>?_)
  ·rw[J9]at cQ;unfold RM;have a1:aa .add .i64 (q) 1=q+1:=K3 (by omega) (by omega) (by omega);have a2:aa .add .i64 (q+1) 1=q+2:=K3 (by omega) (by omega) (by omega);have a3:aa .add .i64 (q+2) 1=q+3:=K3 (by omega) (by omega) (by omega);have a4:aa .add .i64 (q+3) 1=q+4:=K3 (by omega) (by omega) (by omega);have a5:aa .add .i64 (q+4) 1=q+5:=K3 (by omega) (by omega) (by omega);have a6:aa .add .i64 (q+5) 1=q+6:=K3 (by omega) (by omega) (by omega);have a7:aa .add .i64 (q+6) 1=q+7:=K3 (by omega) (by omega) (by omega);have a8:aa .add .i64 (q+7) 1=q+8:=K3 (by omega) (by omega) (by omega);have a9:aa .add .i64 (q+8) 1=q+9:=K3 (by omega) (by omega) (by omega);have a10:aa .add .i64 (q+9) 1=q+10:=K3 (by omega) (by omega) (by omega);have a11:aa .add .i64 (q+10) 1=q+11:=K3 (by omega) (by omega) (by omega);have a12:aa .add .i64 (q+11) 1=q+12:=K3 (by omega) (by omega) (by omega);have a13:aa .add .i64 (q+12) 1=q+13:=K3 (by omega) (by omega) (by omega);unfold K6;dsimp only;refine(cT (Zw hx)).trans ?_;refine(cT (Zv hx)).trans ?_;refine(JA (b:=L.set n (q,(L.getD n bt).2.1,(L.getD n bt).2.2.1,(L.getD n bt).2.2.2.1,(L.getD n bt).2.2.2.2.1,(L.getD n bt).2.2.2.2.2.1,(L.getD n bt).2.2.2.2.2.2.1,(L.getD n bt).2.2.2.2.2.2.2.1,(L.getD n bt).2.2.2.2.2.2.2.2.1,(L.getD n bt).2.2.2.2.2.2.2.2.2.1,(L.getD n bt).2.2.2.2.2.2.2.2.2.2.1,(L.getD n bt).2.2.2.2.2.2.2.2.2.2.2.1,(L.getD n bt).2.2.2.2.2.2.2.2.2.2.2.2)) (by simp only[aq,aN,aF hx,List.set_set,a1,a2,a3,a4,a5,a6,a7,a8,a9,a10,a11,a12,a13])).trans ?_;refine(cT (Rr hx)).trans ?_;refine(JA (b:=L.set n (q,q+1,(L.getD n bt).2.2.1,(L.getD n bt).2.2.2.1,(L.getD n bt).2.2.2.2.1,(L.getD n bt).2.2.2.2.2.1,(L.getD n bt).2.2.2.2.2.2.1,(L.getD n bt).2.2.2.2.2.2.2.1,(L.getD n bt).2.2.2.2.2.2.2.2.1,(L.getD n bt).2.2.2.2.2.2.2.2.2.1,(L.getD n bt).2.2.2.2.2.2.2.2.2.2.1,(L.getD n bt).2.2.2.2.2.2.2.2.2.2.2.1,(L.getD n bt).2.2.2.2.2.2.2.2.2.2.2.2)) (by simp only[aq,aN,aF hx,List.set_set,a1,a2,a3,a4,a5,a6,a7,a8,a9,a10,a11,a12,a13])).trans ?_;refine(cT (Rr hx)).trans ?_;refine(JA (b:=L.set n (q,q+1,q+2,(L.getD n bt).2.2.2.1,(L.getD n bt).2.2.2.2.1,(L.getD n bt).2.2.2.2.2.1,(L.getD n bt).2.2.2.2.2.2.1,(L.getD n bt).2.2.2.2.2.2.2.1,(L.getD n bt).2.2.2.2.2.2.2.2.1,(L.getD n bt).2.2.2.2.2.2.2.2.2.1,(L.getD n bt).2.2.2.2.2.2.2.2.2.2.1,(L.getD n bt).2.2.2.2.2.2.2.2.2.2.2.1,(L.getD n bt).2.2.2.2.2.2.2.2.2.2.2.2)) (by simp only[aq,aN,aF hx,List.set_set,a1,a2,a3,a4,a5,a6,a7,a8,a9,a10,a11,a12,a13])).trans ?_;refine(cT (Rr hx)).trans ?_;refine(JA (b:=L.set n (q,q+1,q+2,q+3,(L.getD n bt).2.2.2.2.1,(L.getD n bt).2.2.2.2.2.1,(L.getD n bt).2.2.2.2.2.2.1,(L.getD n bt).2.2.2.2.2.2.2.1,(L.getD n bt).2.2.2.2.2.2.2.2.1,(L.getD n bt).2.2.2.2.2.2.2.2.2.1,(L.getD n bt).2.2.2.2.2.2.2.2.2.2.1,(L.getD n bt).2.2.2.2.2.2.2.2.2.2.2.1,(L.getD n bt).2.2.2.2.2.2.2.2.2.2.2.2)) (by simp only[aq,aN,aF hx,List.set_set,a1,a2,a3,a4,a5,a6,a7,a8,a9,a10,a11,a12,a13])).trans ?_;refine(cT (Rr hx)).trans ?_;refine(JA (b:=L.set n (q,q+1,q+2,q+3,q+4,(L.getD n bt).2.2.2.2.2.1,(L.getD n bt).2.2.2.2.2.2.1,(L.getD n bt).2.2.2.2.2.2.2.1,(L.getD n bt).2.2.2.2.2.2.2.2.1,(L.getD n bt).2.2.2.2.2.2.2.2.2.1,(L.getD n bt).2.2.2.2.2.2.2.2.2.2.1,(L.getD n bt).2.2.2.2.2.2.2.2.2.2.2.1,(L.getD n bt).2.2.2.2.2.2.2.2.2.2.2.2)) (by simp only[aq,aN,aF hx,List.set_set,a1,a2,a3,a4,a5,a6,a7,a8,a9,a10,a11,a12,a13])).trans ?_;refine(cT (Rr hx)).trans ?_;refine(JA (b:=L.set n (q,q+1,q+2,q+3,q+4,q+5,(L.getD n bt).2.2.2.2.2.2.1,(L.getD n bt).2.2.2.2.2.2.2.1,(L.getD n bt).2.2.2.2.2.2.2.2.1,(L.getD n bt).2.2.2.2.2.2.2.2.2.1,(L.getD n bt).2.2.2.2.2.2.2.2.2.2.1,(L.getD n bt).2.2.2.2.2.2.2.2.2.2.2.1,(L.getD n bt).2.2.2.2.2.2.2.2.2.2.2.2)) (by simp only[aq,aN,aF hx,List.set_set,a1,a2,a3,a4,a5,a6,a7,a8,a9,a10,a11,a12,a13])).trans ?_;refine(JA (b:=q+6) (by simp only[a1,a2,a3,a4,a5,a6,a7,a8,a9,a10,a11,a12,a13])).trans ?_;refine(cT (Rr hx)).trans ?_;refine(JA (b:=L.set n (q,q+1,q+2,q+3,q+4,q+5,q+6,(L.getD n bt).2.2.2.2.2.2.2.1,(L.getD n bt).2.2.2.2.2.2.2.2.1,(L.getD n bt).2.2.2.2.2.2.2.2.2.1,(L.getD n bt).2.2.2.2.2.2.2.2.2.2.1,(L.getD n bt).2.2.2.2.2.2.2.2.2.2.2.1,(L.getD n bt).2.2.2.2.2.2.2.2.2.2.2.2)) (by simp only[aq,aN,aF hx,List.set_set,a1,a2,a3,a4,a5,a6,a7,a8,a9,a10,a11,a12,a13])).trans ?_;refine(cT (Rr hx)).trans ?_;refine(JA (b:=L.set n (q,q+1,q+2,q+3,q+4,q+5,q+6,q+7,(L.getD n bt).2.2.2.2.2.2.2.2.1,(L.getD n bt).2.2.2.2.2.2.2.2.2.1,(L.getD n bt).2.2.2.2.2.2.2.2.2.2.1,(L.getD n bt).2.2.2.2.2.2.2.2.2.2.2.1,(L.getD n bt).2.2.2.2.2.2.2.2.2.2.2.2)) (by simp only[aq,aN,aF hx,List.set_set,a1,a2,a3,a4,a5,a6,a7,a8,a9,a10,a11,a12,a13])).trans ?_;refine(cT (Rr hx)).trans ?_;refine(JA (b:=L.set n (q,q+1,q+2,q+3,q+4,q+5,q+6,q+7,q+8,(L.getD n bt).2.2.2.2.2.2.2.2.2.1,(L.getD n bt).2.2.2.2.2.2.2.2.2.2.1,(L.getD n bt).2.2.2.2.2.2.2.2.2.2.2.1,(L.getD n bt).2.2.2.2.2.2.2.2.2.2.2.2)) (by simp only[aq,aN,aF hx,List.set_set,a1,a2,a3,a4,a5,a6,a7,a8,a9,a10,a11,a12,a13])).trans ?_;refine(cT (Rr hx)).trans ?_;refine(JA (b:=L.set n (q,q+1,q+2,q+3,q+4,q+5,q+6,q+7,q+8,q+9,(L.getD n bt).2.2.2.2.2.2.2.2.2.2.1,(L.getD n bt).2.2.2.2.2.2.2.2.2.2.2.1,(L.getD n bt).2.2.2.2.2.2.2.2.2.2.2.2)) (by simp only[aq,aN,aF hx,List.set_set,a1,a2,a3,a4,a5,a6,a7,a8,a9,a10,a11,a12,a13])).trans ?_;refine(cT (Rr hx)).trans ?_;refine(JA (b:=L.set n (q,q+1,q+2,q+3,q+4,q+5,q+6,q+7,q+8,q+9,q+10,(L.getD n bt).2.2.2.2.2.2.2.2.2.2.2.1,(L.getD n bt).2.2.2.2.2.2.2.2.2.2.2.2)) (by simp only[aq,aN,aF hx,List.set_set,a1,a2,a3,a4,a5,a6,a7,a8,a9,a10,a11,a12,a13])).trans ?_;refine(cT (Rr hx)).trans ?_;refine(JA (b:=L.set n (q,q+1,q+2,q+3,q+4,q+5,q+6,q+7,q+8,q+9,q+10,q+11,(L.getD n bt).2.2.2.2.2.2.2.2.2.2.2.2)) (by simp only[aq,aN,aF hx,List.set_set,a1,a2,a3,a4,a5,a6,a7,a8,a9,a10,a11,a12,a13])).trans ?_;refine(JA (b:=q+12) (by simp only[a1,a2,a3,a4,a5,a6,a7,a8,a9,a10,a11,a12,a13])).trans ?_;refine(cT (Rr hx)).trans ?_;refine(JA (b:=L.set n (q,q+1,q+2,q+3,q+4,q+5,q+6,q+7,q+8,q+9,q+10,q+11,q+12)) (by simp only[aq,aN,aF hx,List.set_set,a1,a2,a3,a4,a5,a6,a7,a8,a9,a10,a11,a12,a13])).trans ?_;simp only[a13,av (n:=n) (by omega)]
  ·unfold K6;simp only[aj,Nat.lt_irrefl,decide_false,cond_false]
 rw[this];rfl
noncomputable def RL(k:Int)(x:TY):TY×Int:=((k,k+1,k+2,k+3,k+4,k+5,k3 (k+6)),k+7)
theorem Uv(k:Int)(x:TY):k<=(RL k x).2/\(RL k x).2<=k+(7:Nat):=⟨by show k<=k+7;omega,by show k+7<=k+7;omega⟩
theorem S7(l:List TY)(k:Int)(hl:l.length<=1073741824)(h0:0<=k)(h1:k+7*(l.length:Int)<=1125899906842624):Li l k=some ((nh RL l k).2,(nh RL l k).1,()):=by
 unfold Li;have:Lp () (l,k,0,())=some (.inl ((nh RL l k).1,(nh RL l k).2,())):=by
  refine PN (cost:=fun _=>7) xx l k hl h0 Uv (fun L q n hx hL hg lA cQ=>?_) (fun L k'=>?_)
  ·rw[J9]at cQ;unfold RL k3;have a1:aa .add .i64 (q) 1=q+1:=K3 (by omega) (by omega) (by omega);have a2:aa .add .i64 (q+1) 1=q+2:=K3 (by omega) (by omega) (by omega);have a3:aa .add .i64 (q+2) 1=q+3:=K3 (by omega) (by omega) (by omega);have a4:aa .add .i64 (q+3) 1=q+4:=K3 (by omega) (by omega) (by omega);have a5:aa .add .i64 (q+4) 1=q+5:=K3 (by omega) (by omega) (by omega);have a6:aa .add .i64 (q+5) 1=q+6:=K3 (by omega) (by omega) (by omega);have a7:aa .add .i64 (q+6) 1=q+7:=K3 (by omega) (by omega) (by omega);unfold Lo;dsimp only;refine(cT (Zw hx)).trans ?_;refine(cT (Zv hx)).trans ?_;refine(JA (b:=L.set n (q,(L.getD n xx).2.1,(L.getD n xx).2.2.1,(L.getD n xx).2.2.2.1,(L.getD n xx).2.2.2.2.1,(L.getD n xx).2.2.2.2.2.1,(L.getD n xx).2.2.2.2.2.2)) (by simp only[aq,aN,aF hx,List.set_set,a1,a2,a3,a4,a5,a6,a7])).trans ?_;refine(cT (Rr hx)).trans ?_;refine(JA (b:=L.set n (q,q+1,(L.getD n xx).2.2.1,(L.getD n xx).2.2.2.1,(L.getD n xx).2.2.2.2.1,(L.getD n xx).2.2.2.2.2.1,(L.getD n xx).2.2.2.2.2.2)) (by simp only[aq,aN,aF hx,List.set_set,a1,a2,a3,a4,a5,a6,a7])).trans ?_;refine(cT (Rr hx)).trans ?_;refine(JA (b:=L.set n (q,q+1,q+2,(L.getD n xx).2.2.2.1,(L.getD n xx).2.2.2.2.1,(L.getD n xx).2.2.2.2.2.1,(L.getD n xx).2.2.2.2.2.2)) (by simp only[aq,aN,aF hx,List.set_set,a1,a2,a3,a4,a5,a6,a7])).trans ?_;refine(cT (Rr hx)).trans ?_;refine(JA (b:=L.set n (q,q+1,q+2,q+3,(L.getD n xx).2.2.2.2.1,(L.getD n xx).2.2.2.2.2.1,(L.getD n xx).2.2.2.2.2.2)) (by simp only[aq,aN,aF hx,List.set_set,a1,a2,a3,a4,a5,a6,a7])).trans ?_;refine(cT (Rr hx)).trans ?_;refine(JA (b:=L.set n (q,q+1,q+2,q+3,q+4,(L.getD n xx).2.2.2.2.2.1,(L.getD n xx).2.2.2.2.2.2)) (by simp only[aq,aN,aF hx,List.set_set,a1,a2,a3,a4,a5,a6,a7])).trans ?_;refine(cT (Rr hx)).trans ?_;refine(JA (b:=L.set n (q,q+1,q+2,q+3,q+4,q+5,(L.getD n xx).2.2.2.2.2.2)) (by simp only[aq,aN,aF hx,List.set_set,a1,a2,a3,a4,a5,a6,a7])).trans ?_;refine(JA (b:=q+6) (by simp only[a1,a2,a3,a4,a5,a6,a7])).trans ?_;refine(cF XG).trans ?_;refine(cT (Rr hx)).trans ?_;refine(JA (b:=L.set n (q,q+1,q+2,q+3,q+4,q+5,af .eql (aa .rem .i64 (q+6) 3) 0)) (by simp only[aq,aN,aF hx,List.set_set,a1,a2,a3,a4,a5,a6,a7])).trans ?_;simp only[a7,av (n:=n) (by omega)]
  ·unfold Lo;simp only[aj,Nat.lt_irrefl,decide_false,cond_false]
 rw[this];rfl
end Go.Fn
set_option linter.unusedVariables false
set_option linter.unusedSimpArgs false
namespace Go.Fn
open Go.R
theorem Ti{α:Type}(cost:α->Nat)(z:α):∀ {l:List α} {n:Nat},n<l.length->cost (l.getD n z)<=JD cost l
 |x::xs,0,_=>by simp only[List.getD_cons_zero,JD];omega
 |x::xs,n+1,h=>by have:=Ti cost z (l:=xs) (n:=n) (by simpa using h);simp only[List.getD_cons_succ,JD];omega
theorem Vh(l:List SX)(k:Int):k<=(nh iL l k).2/\(nh iL l k).2<=k+2*(l.length:Int):=by have:=PR Vd l k;rw[J9]at this;omega
theorem YD(l:List Bx)(k:Int):k<=(nh SM l k).2/\(nh SM l k).2<=k+4*(l.length:Int):=by have:=PR Vc l k;rw[J9]at this;omega
noncomputable def OV(c:QI):Nat:=1+c.2.1.length+4*c.2.2.length
noncomputable def yt(k:Int)(c:QI):QI×Int:=((k,R5 (k+1) c.2.1.length,(nh SM c.2.2 (k+1+(c.2.1.length:Int))).1),(nh SM c.2.2 (k+1+(c.2.1.length:Int))).2)
theorem SN(k:Int)(c:QI):k<=(yt k c).2/\(yt k c).2<=k+(OV c:Nat):=by have:=YD c.2.2 (k+1+(c.2.1.length:Int));unfold yt OV;dsimp only;omega
theorem SJ(l:List QI)(k:Int)(hl:l.length<=1073741824)(hc:∀n,n<l.length->Rt 1073741824 (l.getD n Mr))(h0:0<=k)(h1:k+(JD OV l:Nat)<=1099511627776):KO l k=some ((nh yt l k).2,(nh yt l k).1,()):=by
 unfold KO;have:K5 () (l,k,0,())=some (.inl ((nh yt l k).1,(nh yt l k).2,())):=by
  refine PN (cost:=OV) Mr l k hl h0 SN (fun L q n hx hL hg lA cQ=>?_) (fun L k'=>?_)
  ·have hn:n<l.length:=by omega
   obtain⟨c1,c2⟩:=hc n hn;rw[<-hg]at c1 c2⊢;unfold yt;have a1:aa .add .i64 q 1=q+1:=Qq (by omega) (by omega);have m1:=Uu (L.getD n Mr).2.1 (q+1) c1 (by omega) (by omega);have m2:=Ut (L.getD n Mr).2.2 (q+1+((L.getD n Mr).2.1.length:Int)) c2 (by omega) (by omega);unfold K4;dsimp only;refine(cT (Zw hx)).trans ?_;refine(cT (Zv hx)).trans ?_;rw[aN,aq];refine(cT (Rr hx)).trans ?_;rw[a1,aq];refine(Sz (r:=_) (by rw[aF hx];exact m1)).trans ?_;refine(JA (b:=L.set n (q,R5 (q+1) (L.getD n Mr).2.1.length,(L.getD n Mr).2.2)) (by rw[aF hx,aN,List.set_set];rfl)).trans ?_;refine(cT (Rr hx)).trans ?_;rw[aq];refine(Sz (r:=_) (by rw[aF hx];exact m2)).trans ?_;rw[aF hx,aN,List.set_set,av (n:=n) (by omega)]
  ·unfold K4;simp only[aj,Nat.lt_irrefl,decide_false,cond_false]
 rw[this];rfl
noncomputable def KH(x:Site):Nat:=2*x.1.length+2*x.2.1.length+JD OV x.2.2.1+7+7*x.2.2.2.2.2.2.2.2.2.2.length
noncomputable def Pr(q:Int)(x:Site):Site×Int:=(((nh iL x.1 q).1,(nh iL x.2.1 (nh iL x.1 q).2).1,(nh yt x.2.2.1 (nh iL x.2.1 (nh iL x.1 q).2).2).1,(nh yt x.2.2.1 (nh iL x.2.1 (nh iL x.1 q).2).2).2,(nh yt x.2.2.1 (nh iL x.2.1 (nh iL x.1 q).2).2).2+1,k3 ((nh yt x.2.2.1 (nh iL x.2.1 (nh iL x.1 q).2).2).2+2),k3 ((nh yt x.2.2.1 (nh iL x.2.1 (nh iL x.1 q).2).2).2+3),k3 ((nh yt x.2.2.1 (nh iL x.2.1 (nh iL x.1 q).2).2).2+4),(nh yt x.2.2.1 (nh iL x.2.1 (nh iL x.1 q).2).2).2+5,(nh yt x.2.2.1 (nh iL x.2.1 (nh iL x.1 q).2).2).2+6,MF ((nh yt x.2.2.1 (nh iL x.2.1 (nh iL x.1 q).2).2).2+7) x.2.2.2.2.2.2.2.2.2.2.length),(nh yt x.2.2.1 (nh iL x.2.1 (nh iL x.1 q).2).2).2+7+7*(x.2.2.2.2.2.2.2.2.2.2.length:Int))
theorem Tl(q:Int)(x:Site):q<=(Pr q x).2/\(Pr q x).2<=q+(KH x:Nat):=by have b1:=Vh x.1 q;have b2:=Vh x.2.1 (nh iL x.1 q).2;have b3:=PR SN x.2.2.1 (nh iL x.2.1 (nh iL x.1 q).2).2;unfold Pr KH;dsimp only;omega
theorem TJ(l:List Site)(k:Int)(hl:l.length<=1073741824)(hc:∀n,n<l.length->Nu 1073741824 (l.getD n b8))(h0:0<=k)(h1:k+(JD KH l:Nat)<=274877906944):L0 l k=some ((nh Pr l k).2,(nh Pr l k).1,()):=by
 unfold L0;have:L3 () (l,k,0,())=some (.inl ((nh Pr l k).1,(nh Pr l k).2,())):=by
  refine PN (cost:=KH) b8 l k hl h0 Tl (fun L q n hx hL hg lA cQ=>?_) (fun L k'=>?_)
  ·have hn:n<l.length:=by omega
   obtain⟨c1,c2,c3,c4,c5⟩:=hc n hn;rw[<-hg]at c1 c2 c3 c4 c5⊢;have W2:2*(l.getD n b8).1.length+2*(l.getD n b8).2.1.length+JD OV (l.getD n b8).2.2.1+7+7*(l.getD n b8).2.2.2.2.2.2.2.2.2.2.length<=JD KH l:=Ti KH b8 hn;rw[<-hg]at W2;have b1:=Vh (L.getD n b8).1 q;have b2:=Vh (L.getD n b8).2.1 (nh iL (L.getD n b8).1 q).2;have b3:=PR SN (L.getD n b8).2.2.1 (nh iL (L.getD n b8).2.1 (nh iL (L.getD n b8).1 q).2).2;unfold Pr k3;have a1:aa .add .i64 ((nh yt (L.getD n b8).2.2.1 (nh iL (L.getD n b8).2.1 (nh iL (L.getD n b8).1 q).2).2).2) 1=(nh yt (L.getD n b8).2.2.1 (nh iL (L.getD n b8).2.1 (nh iL (L.getD n b8).1 q).2).2).2+1:=K3 (by omega) (by omega) (by omega);have a2:aa .add .i64 ((nh yt (L.getD n b8).2.2.1 (nh iL (L.getD n b8).2.1 (nh iL (L.getD n b8).1 q).2).2).2+1) 1=(nh yt (L.getD n b8).2.2.1 (nh iL (L.getD n b8).2.1 (nh iL (L.getD n b8).1 q).2).2).2+2:=K3 (by omega) (by omega) (by omega);have a3:aa .add .i64 ((nh yt (L.getD n b8).2.2.1 (nh iL (L.getD n b8).2.1 (nh iL (L.getD n b8).1 q).2).2).2+2) 1=(nh yt (L.getD n b8).2.2.1 (nh iL (L.getD n b8).2.1 (nh iL (L.getD n b8).1 q).2).2).2+3:=K3 (by omega) (by omega) (by omega);have a4:aa .add .i64 ((nh yt (L.getD n b8).2.2.1 (nh iL (L.getD n b8).2.1 (nh iL (L.getD n b8).1 q).2).2).2+3) 1=(nh yt (L.getD n b8).2.2.1 (nh iL (L.getD n b8).2.1 (nh iL (L.getD n b8).1 q).2).2).2+4:=K3 (by omega) (by omega) (by omega);have a5:aa .add .i64 ((nh yt (L.getD n b8).2.2.1 (nh iL (L.getD n b8).2.1 (nh iL (L.getD n b8).1 q).2).2).2+4) 1=(nh yt (L.getD n b8).2.2.1 (nh iL (L.getD n b8).2.1 (nh iL (L.getD n b8).1 q).2).2).2+5:=K3 (by omega) (by omega) (by omega);have a6:aa .add .i64 ((nh yt (L.getD n b8).2.2.1 (nh iL (L.getD n b8).2.1 (nh iL (L.getD n b8).1 q).2).2).2+5) 1=(nh yt (L.getD n b8).2.2.1 (nh iL (L.getD n b8).2.1 (nh iL (L.getD n b8).1 q).2).2).2+6:=K3 (by omega) (by omega) (by omega);have a7:aa .add .i64 ((nh yt (L.getD n b8).2.2.1 (nh iL (L.getD n b8).2.1 (nh iL (L.getD n b8).1 q).2).2).2+6) 1=(nh yt (L.getD n b8).2.2.1 (nh iL (L.getD n b8).2.1 (nh iL (L.getD n b8).1 q).2).2).2+7:=K3 (by omega) (by omega) (by omega);have m1:=RJ (L.getD n b8).1 q c1 (by omega) (by omega);have m2:=RJ (L.getD n b8).2.1 (nh iL (L.getD n b8).1 q).2 c2 (by omega) (by omega);have m3:=SJ (L.getD n b8).2.2.1 (nh iL (L.getD n b8).2.1 (nh iL (L.getD n b8).1 q).2).2 c3 c4 (by omega) (by omega);have m4:=Pq (L.getD n b8).2.2.2.2.2.2.2.2.2.2 ((nh yt (L.getD n b8).2.2.1 (nh iL (L.getD n b8).2.1 (nh iL (L.getD n b8).1 q).2).2).2+7) c5 (by omega) (by omega);unfold L2;dsimp only;rw[show b7=b8 from rfl];refine(cT (Zw hx)).trans ?_;refine(cT (Zv hx)).trans ?_;refine(Sz (r:=_) (by simp only[aq,aF hx,a1,a2,a3,a4,a5,a6,a7];exact m1)).trans ?_;refine(JA (b:=L.set n ((nh iL (L.getD n b8).1 q).1,(L.getD n b8).2.1,(L.getD n b8).2.2.1,(L.getD n b8).2.2.2.1,(L.getD n b8).2.2.2.2.1,(L.getD n b8).2.2.2.2.2.1,(L.getD n b8).2.2.2.2.2.2.1,(L.getD n b8).2.2.2.2.2.2.2.1,(L.getD n b8).2.2.2.2.2.2.2.2.1,(L.getD n b8).2.2.2.2.2.2.2.2.2.1,(L.getD n b8).2.2.2.2.2.2.2.2.2.2)) (by simp only[aq,aN,aF hx,List.set_set])).trans ?_;refine(cT (Rr hx)).trans ?_;refine(Sz (r:=_) (by simp only[aq,aF hx,a1,a2,a3,a4,a5,a6,a7];exact m2)).trans ?_;refine(JA (b:=L.set n ((nh iL (L.getD n b8).1 q).1,(nh iL (L.getD n b8).2.1 (nh iL (L.getD n b8).1 q).2).1,(L.getD n b8).2.2.1,(L.getD n b8).2.2.2.1,(L.getD n b8).2.2.2.2.1,(L.getD n b8).2.2.2.2.2.1,(L.getD n b8).2.2.2.2.2.2.1,(L.getD n b8).2.2.2.2.2.2.2.1,(L.getD n b8).2.2.2.2.2.2.2.2.1,(L.getD n b8).2.2.2.2.2.2.2.2.2.1,(L.getD n b8).2.2.2.2.2.2.2.2.2.2)) (by simp only[aq,aN,aF hx,List.set_set])).trans ?_;refine(cT (Rr hx)).trans ?_;refine(Sz (r:=_) (by simp only[aq,aF hx,a1,a2,a3,a4,a5,a6,a7];exact m3)).trans ?_;refine(JA (b:=L.set n ((nh iL (L.getD n b8).1 q).1,(nh iL (L.getD n b8).2.1 (nh iL (L.getD n b8).1 q).2).1,(nh yt (L.getD n b8).2.2.1 (nh iL (L.getD n b8).2.1 (nh iL (L.getD n b8).1 q).2).2).1,(L.getD n b8).2.2.2.1,(L.getD n b8).2.2.2.2.1,(L.getD n b8).2.2.2.2.2.1,(L.getD n b8).2.2.2.2.2.2.1,(L.getD n b8).2.2.2.2.2.2.2.1,(L.getD n b8).2.2.2.2.2.2.2.2.1,(L.getD n b8).2.2.2.2.2.2.2.2.2.1,(L.getD n b8).2.2.2.2.2.2.2.2.2.2)) (by simp only[aq,aN,aF hx,List.set_set])).trans ?_;refine(cT (Rr hx)).trans ?_;refine(JA (b:=L.set n ((nh iL (L.getD n b8).1 q).1,(nh iL (L.getD n b8).2.1 (nh iL (L.getD n b8).1 q).2).1,(nh yt (L.getD n b8).2.2.1 (nh iL (L.getD n b8).2.1 (nh iL (L.getD n b8).1 q).2).2).1,(nh yt (L.getD n b8).2.2.1 (nh iL (L.getD n b8).2.1 (nh iL (L.getD n b8).1 q).2).2).2,(L.getD n b8).2.2.2.2.1,(L.getD n b8).2.2.2.2.2.1,(L.getD n b8).2.2.2.2.2.2.1,(L.getD n b8).2.2.2.2.2.2.2.1,(L.getD n b8).2.2.2.2.2.2.2.2.1,(L.getD n b8).2.2.2.2.2.2.2.2.2.1,(L.getD n b8).2.2.2.2.2.2.2.2.2.2)) (by simp only[aq,aN,aF hx,List.set_set,a1,a2,a3,a4,a5,a6,a7])).trans ?_;refine(cT (Rr hx)).trans ?_;refine(JA (b:=L.set n ((nh iL (L.getD n b8).1 q).1,(nh iL (L.getD n b8).2.1 (nh iL (L.getD n b8).1 q).2).1,(nh yt (L.getD n b8).2.2.1 (nh iL (L.getD n b8).2.1 (nh iL (L.getD n b8).1 q).2).2).1,(nh yt (L.getD n b8).2.2.1 (nh iL (L.getD n b8).2.1 (nh iL (L.getD n b8).1 q).2).2).2,(nh yt (L.getD n b8).2.2.1 (nh iL (L.getD n b8).2.1 (nh iL (L.getD n b8).1 q).2).2).2+1,(L.getD n b8).2.2.2.2.2.1,(L.getD n b8).2.2.2.2.2.2.1,(L.getD n b8).2.2.2.2.2.2.2.1,(L.getD n b8).2.2.2.2.2.2.2.2.1,(L.getD n b8).2.2.2.2.2.2.2.2.2.1,(L.getD n b8).2.2.2.2.2.2.2.2.2.2)) (by simp only[aq,aN,aF hx,List.set_set,a1,a2,a3,a4,a5,a6,a7])).trans ?_;refine(cF XG).trans ?_;refine(cT (Rr hx)).trans ?_;refine(JA (b:=L.set n ((nh iL (L.getD n b8).1 q).1,(nh iL (L.getD n b8).2.1 (nh iL (L.getD n b8).1 q).2).1,(nh yt (L.getD n b8).2.2.1 (nh iL (L.getD n b8).2.1 (nh iL (L.getD n b8).1 q).2).2).1,(nh yt (L.getD n b8).2.2.1 (nh iL (L.getD n b8).2.1 (nh iL (L.getD n b8).1 q).2).2).2,(nh yt (L.getD n b8).2.2.1 (nh iL (L.getD n b8).2.1 (nh iL (L.getD n b8).1 q).2).2).2+1,af .eql (aa .rem .i64 ((nh yt (L.getD n b8).2.2.1 (nh iL (L.getD n b8).2.1 (nh iL (L.getD n b8).1 q).2).2).2+2) 3) 0,(L.getD n b8).2.2.2.2.2.2.1,(L.getD n b8).2.2.2.2.2.2.2.1,(L.getD n b8).2.2.2.2.2.2.2.2.1,(L.getD n b8).2.2.2.2.2.2.2.2.2.1,(L.getD n b8).2.2.2.2.2.2.2.2.2.2)) (by simp only[aq,aN,aF hx,List.set_set,a1,a2,a3,a4,a5,a6,a7])).trans ?_;refine(cF XG).trans ?_;refine(cT (Rr hx)).trans ?_;refine(JA (b:=L.set n ((nh iL (L.getD n b8).1 q).1,(nh iL (L.getD n b8).2.1 (nh iL (L.getD n b8).1 q).2).1,(nh yt (L.getD n b8).2.2.1 (nh iL (L.getD n b8).2.1 (nh iL (L.getD n b8).1 q).2).2).1,(nh yt (L.getD n b8).2.2.1 (nh iL (L.getD n b8).2.1 (nh iL (L.getD n b8).1 q).2).2).2,(nh yt (L.getD n b8).2.2.1 (nh iL (L.getD n b8).2.1 (nh iL (L.getD n b8).1 q).2).2).2+1,af .eql (aa .rem .i64 ((nh yt (L.getD n b8).2.2.1 (nh iL (L.getD n b8).2.1 (nh iL (L.getD n b8).1 q).2).2).2+2) 3) 0,af .eql (aa .rem .i64 ((nh yt (L.getD n b8).2.2.1 (nh iL (L.getD n b8).2.1 (nh iL (L.getD n b8).1 q).2).2).2+3) 3) 0,(L.getD n b8).2.2.2.2.2.2.2.1,(L.getD n b8).2.2.2.2.2.2.2.2.1,(L.getD n b8).2.2.2.2.2.2.2.2.2.1,(L.getD n b8).2.2.2.2.2.2.2.2.2.2)) (by simp only[aq,aN,aF hx,List.set_set,a1,a2,a3,a4,a5,a6,a7])).trans ?_;refine(cF XG).trans ?_;refine(JA (b:=af .eql (aa .rem .i64 ((nh yt (L.getD n b8).2.2.1 (nh iL (L.getD n b8).2.1 (nh iL (L.getD n b8).1 q).2).2).2+4) 3) 0) (by simp only[a1,a2,a3,a4])).trans ?_;refine(cT (Rr hx)).trans ?_;refine(JA (b:=L.set n ((nh iL (L.getD n b8).1 q).1,(nh iL (L.getD n b8).2.1 (nh iL (L.getD n b8).1 q).2).1,(nh yt (L.getD n b8).2.2.1 (nh iL (L.getD n b8).2.1 (nh iL (L.getD n b8).1 q).2).2).1,(nh yt (L.getD n b8).2.2.1 (nh iL (L.getD n b8).2.1 (nh iL (L.getD n b8).1 q).2).2).2,(nh yt (L.getD n b8).2.2.1 (nh iL (L.getD n b8).2.1 (nh iL (L.getD n b8).1 q).2).2).2+1,af .eql (aa .rem .i64 ((nh yt (L.getD n b8).2.2.1 (nh iL (L.getD n b8).2.1 (nh iL (L.getD n b8).1 q).2).2).2+2) 3) 0,af .eql (aa .rem .i64 ((nh yt (L.getD n b8).2.2.1 (nh iL (L.getD n b8).2.1 (nh iL (L.getD n b8).1 q).2).2).2+3) 3) 0,af .eql (aa .rem .i64 ((nh yt (L.getD n b8).2.2.1 (nh iL (L.getD n b8).2.1 (nh iL (L.getD n b8).1 q).2).2).2+4) 3) 0,(L.getD n b8).2.2.2.2.2.2.2.2.1,(L.getD n b8).2.2.2.2.2.2.2.2.2.1,(L.getD n b8).2.2.2.2.2.2.2.2.2.2)) (by simp only[aq,aN,aF hx,List.set_set])).trans ?_;refine(cT (Rr hx)).trans ?_;refine(JA (b:=L.set n ((nh iL (L.getD n b8).1 q).1,(nh iL (L.getD n b8).2.1 (nh iL (L.getD n b8).1 q).2).1,(nh yt (L.getD n b8).2.2.1 (nh iL (L.getD n b8).2.1 (nh iL (L.getD n b8).1 q).2).2).1,(nh yt (L.getD n b8).2.2.1 (nh iL (L.getD n b8).2.1 (nh iL (L.getD n b8).1 q).2).2).2,(nh yt (L.getD n b8).2.2.1 (nh iL (L.getD n b8).2.1 (nh iL (L.getD n b8).1 q).2).2).2+1,af .eql (aa .rem .i64 ((nh yt (L.getD n b8).2.2.1 (nh iL (L.getD n b8).2.1 (nh iL (L.getD n b8).1 q).2).2).2+2) 3) 0,af .eql (aa .rem .i64 ((nh yt (L.getD n b8).2.2.1 (nh iL (L.getD n b8).2.1 (nh iL (L.getD n b8).1 q).2).2).2+3) 3) 0,af .eql (aa .rem .i64 ((nh yt (L.getD n b8).2.2.1 (nh iL (L.getD n b8).2.1 (nh iL (L.getD n b8).1 q).2).2).2+4) 3) 0,(nh yt (L.getD n b8).2.2.1 (nh iL (L.getD n b8).2.1 (nh iL (L.getD n b8).1 q).2).2).2+5,(L.getD n b8).2.2.2.2.2.2.2.2.2.1,(L.getD n b8).2.2.2.2.2.2.2.2.2.2)) (by simp only[aq,aN,aF hx,List.set_set,a1,a2,a3,a4,a5,a6,a7])).trans ?_;refine(JA (b:=(nh yt (L.getD n b8).2.2.1 (nh iL (L.getD n b8).2.1 (nh iL (L.getD n b8).1 q).2).2).2+6) (by simp only[a1,a2,a3,a4,a5,a6])).trans ?_;refine(cT (Rr hx)).trans ?_;refine(JA (b:=L.set n ((nh iL (L.getD n b8).1 q).1,(nh iL (L.getD n b8).2.1 (nh iL (L.getD n b8).1 q).2).1,(nh yt (L.getD n b8).2.2.1 (nh iL (L.getD n b8).2.1 (nh iL (L.getD n b8).1 q).2).2).1,(nh yt (L.getD n b8).2.2.1 (nh iL (L.getD n b8).2.1 (nh iL (L.getD n b8).1 q).2).2).2,(nh yt (L.getD n b8).2.2.1 (nh iL (L.getD n b8).2.1 (nh iL (L.getD n b8).1 q).2).2).2+1,af .eql (aa .rem .i64 ((nh yt (L.getD n b8).2.2.1 (nh iL (L.getD n b8).2.1 (nh iL (L.getD n b8).1 q).2).2).2+2) 3) 0,af .eql (aa .rem .i64 ((nh yt (L.getD n b8).2.2.1 (nh iL (L.getD n b8).2.1 (nh iL (L.getD n b8).1 q).2).2).2+3) 3) 0,af .eql (aa .rem .i64 ((nh yt (L.getD n b8).2.2.1 (nh iL (L.getD n b8).2.1 (nh iL (L.getD n b8).1 q).2).2).2+4) 3) 0,(nh yt (L.getD n b8).2.2.1 (nh iL (L.getD n b8).2.1 (nh iL (L.getD n b8).1 q).2).2).2+5,(nh yt (L.getD n b8).2.2.1 (nh iL (L.getD n b8).2.1 (nh iL (L.getD n b8).1 q).2).2).2+6,(L.getD n b8).2.2.2.2.2.2.2.2.2.2)) (by simp only[aq,aN,aF hx,List.set_set])).trans ?_;refine(cT (Rr hx)).trans ?_;refine(Sz (r:=_) (by simp only[aq,aF hx,a1,a2,a3,a4,a5,a6,a7];exact m4)).trans ?_;refine(JA (b:=L.set n ((nh iL (L.getD n b8).1 q).1,(nh iL (L.getD n b8).2.1 (nh iL (L.getD n b8).1 q).2).1,(nh yt (L.getD n b8).2.2.1 (nh iL (L.getD n b8).2.1 (nh iL (L.getD n b8).1 q).2).2).1,(nh yt (L.getD n b8).2.2.1 (nh iL (L.getD n b8).2.1 (nh iL (L.getD n b8).1 q).2).2).2,(nh yt (L.getD n b8).2.2.1 (nh iL (L.getD n b8).2.1 (nh iL (L.getD n b8).1 q).2).2).2+1,af .eql (aa .rem .i64 ((nh yt (L.getD n b8).2.2.1 (nh iL (L.getD n b8).2.1 (nh iL (L.getD n b8).1 q).2).2).2+2) 3) 0,af .eql (aa .rem .i64 ((nh yt (L.getD n b8).2.2.1 (nh iL (L.getD n b8).2.1 (nh iL (L.getD n b8).1 q).2).2).2+3) 3) 0,af .eql (aa .rem .i64 ((nh yt (L.getD n b8).2.2.1 (nh iL (L.getD n b8).2.1 (nh iL (L.getD n b8).1 q).2).2).2+4) 3) 0,(nh yt (L.getD n b8).2.2.1 (nh iL (L.getD n b8).2.1 (nh iL (L.getD n b8).1 q).2).2).2+5,(nh yt (L.getD n b8).2.2.1 (nh iL (L.getD n b8).2.1 (nh iL (L.getD n b8).1 q).2).2).2+6,MF ((nh yt (L.getD n b8).2.2.1 (nh iL (L.getD n b8).2.1 (nh iL (L.getD n b8).1 q).2).2).2+7) (L.getD n b8).2.2.2.2.2.2.2.2.2.2.length)) (by simp only[aq,aN,aF hx,List.set_set])).trans ?_;simp only[av (n:=n) (by omega)]
  ·unfold L2;simp only[aj,Nat.lt_irrefl,decide_false,cond_false]
 rw[this];rfl
end Go.Fn
set_option linter.unusedVariables false
set_option linter.unusedSimpArgs false
namespace Go.Fn
open Go.R
noncomputable def Sv(s:List Site)(p:List Ub)(g:List TY)(j:List Ev):Nat:=JD KH s+13*p.length+7*g.length+7*j.length
noncomputable def Wm(k:Int)(s:List Site):List Site×Int:=nh Pr s k
noncomputable def Wl(k:Int)(s:List Site)(p:List Ub):List Ub×Int:=nh RM p (Wm k s).2
noncomputable def Xu(k:Int)(s:List Site)(p:List Ub)(g:List TY):List TY×Int:=nh RL g (Wl k s p).2
noncomputable def Zx(k:Int)(s:List Site)(p:List Ub)(g:List TY)(j:List Ev):Int:=(Xu k s p g).2+7*(j.length:Int)
section
variable (a0 a1 a2 a3 a4 a5 a6 a7 a8 a9 a10:Int) (s:List Site) (p:List Ub) (g:List TY) (j:List Ev) (k:Int)
theorem Wc:(k<=(Wm k s).2/\(Wm k s).2<=k+(JD KH s:Nat))/\((Wm k s).2<=(Wl k s p).2/\(Wl k s p).2<=(Wm k s).2+(13*p.length:Nat))/\((Wl k s p).2<=(Xu k s p g).2/\(Xu k s p g).2<=(Wl k s p).2+(7*g.length:Nat)):=by have b1:=PR Tl s k;have b2:=PR Uw p (Wm k s).2;have b3:=PR Uv g (Wl k s p).2;rw[J9]at b2 b3;exact⟨b1,b2,b3⟩
theorem SK(h:Sg s p g j)(h0:0<=k)(h1:k+(Sv s p g j:Nat)<=137438953472):
  KR a0 a1 a2 a3 a4 a5 a6 a7 a8 a9 a10 s p g j k=some (Zx k s p g j,(Wm k s).1,(Wl k s p).1,(Xu k s p g).1,MF (Xu k s p g).2 j.length,()):=by
 have e1:=h.ls;have e2:=h.lp;have e3:=h.lg;have e4:=h.lj;obtain⟨b1,b2,b3⟩:=Wc s p g k;unfold Sv at h1;unfold KR;rw[TJ s k (by omega) h.ss h0 (by omega)];simp only[Option.bind_some];rw[show(nh Pr s k).2=(Wm k s).2 from rfl,SL p (Wm k s).2 (by omega) (by omega) (by omega)];simp only[Option.bind_some];rw[show(nh RM p (Wm k s).2).2=(Wl k s p).2 from rfl,S7 g (Wl k s p).2 (by omega) (by omega) (by omega)];simp only[Option.bind_some];rw[show(nh RL g (Wl k s p).2).2=(Xu k s p g).2 from rfl,Pq j (Xu k s p g).2 (by omega) (by omega) (by omega)];rfl
theorem UW(h0:0<=k):0<=Zx k s p g j:=by obtain⟨b1,b2,b3⟩:=Wc s p g k;unfold Zx;omega
end
abbrev Wk:=List SX×List SX
end Go.Fn
set_option linter.unusedVariables false
set_option linter.unusedSimpArgs false
namespace Go.Fn
open Go.R
theorem UE {α:Type} {body:Int×Int×Unit->Option ((Int×Int×Unit)⊕(Int×Unit⊕(Int×Unit⊕Empty)))} (z:α) (cost:α->Nat) (l:List α) (hl:l.length<=1073741824)
  (h:∀(n:Nat) (a:Int),n<l.length->0<=a->a<=1048576->body (a,(n:Int),())=some (.inr (.inl (-1,())))\/∃b,body (a,(n:Int),())=some (.inl (b,((n+1:Nat):Int),()))/\0<=b/\b+(cost (l.getD n z):Nat)<=a)
  (hend:∀a,body (a,(l.length:Int),())=some (.inr (.inr (.inl (a,()))))) (a:Int) (ha:0<=a) (Ql:a<=1048576):
  ∃y,iter body big (a,0,())=some y/\(y=.inl (-1,())\/∃b,y=.inr (.inl (b,()))/\0<=b/\b+(JD cost l:Nat)<=a):=by
 have key:∀(k n:Nat) (a:Int),n+k=l.length->0<=a->a<=1048576->∃y,iter body (k+1) (a,(n:Int),())=some y/\(y=.inl (-1,())\/∃b,y=.inr (.inl (b,()))/\0<=b/\b+(JD cost (l.drop n):Nat)<=a):=by
  intro k;induction k with
  |zero=>
   intro n a hn h0 h1;have:n=l.length:=by omega
   subst this;refine⟨_,ay (hend a),.inr ⟨a,rfl,h0,?_⟩⟩;rw[List.drop_length];show a+(0:Int)<=a;omega
  |succ k ih=>
   intro n a hn h0 h1;have hlt:n<l.length:=by omega
   rcases h n a hlt h0 h1 with h|⟨b,h,b0,b1⟩
   ·exact⟨_,ay h,.inl rfl⟩
   ·obtain⟨y,q1,q2⟩:=ih (n+1) b (by omega) b0 (by omega);refine⟨y,by rw[aH h];exact q1,q2.imp id fun⟨c,c1,c2,c3⟩=>⟨c,c1,c2,?_⟩⟩;have hd:l.drop n=l.getD n z::l.drop (n+1):=by rw[List.drop_eq_getElem_cons hlt,List.getD_eq_getElem?_getD,List.getElem?_eq_getElem hlt];rfl
    rw[hd];simp only[JD];omega
 obtain⟨y,h1,h2⟩:=key l.length 0 a (by omega) ha Ql;exact⟨y,bF h1 (aT (by omega)),h2⟩
noncomputable def V0(c:QI):Nat:=c.2.1.length+c.2.2.length
noncomputable def Sy(l:List QI):Nat:=l.length+JD V0 l
theorem TR(a0:Int)(a1:List Int)(a2:List Bx)(a:Int)(h1:a1.length<=9223372036854775807)(h2:a2.length<=9223372036854775807)(ha:0<=a)(Ql:a<=1048576):
  ∃b,JU a0 a1 a2 a=some (b,())/\(b = -1\/(0<=b/\b+(a1.length+a2.length:Nat)<=a)):=by
 unfold JU;rw[Tq a1 a h1 ha Ql];simp only[Option.bind_some];cases hd:decide (a<(a1.length:Int))with
 |true=>exact⟨-1,rfl,.inl rfl⟩
 |false=>
  have hd:=of_decide_eq_false hd;simp only[cond_false];rw[JJ (by omega)];simp only[cond_false];rw[Tp a2 _ h2 (by omega) (by omega)];simp only[Option.bind_some];cases mP:decide (a-(a1.length:Int)<(a2.length:Int))with
  |true=>exact⟨-1,rfl,.inl rfl⟩
  |false=>have mP:=of_decide_eq_false mP;simp only[cond_false];rw[JJ (by omega)];exact⟨_,rfl,.inr ⟨by omega,by omega⟩⟩
theorem Tc(l:List QI)(a:Int)(hl:l.length<=9223372036854775807)(hw:∀c∈l,Rt 9223372036854775807 c)(ha:0<=a)(Ql:a<=1048576):
  ∃b,J5 l a=some (b,())/\(b = -1\/(0<=b/\b+(Sy l:Nat)<=a)):=by
 unfold J5;have h1:aa .sub .i64 a (ai l)=a-(l.length:Int):=bO (by unfold ai;omega) (by unfold ai;omega);have h2:af .lss (a-(l.length:Int)) 0=decide (a<(l.length:Int)):=by simp only[af,decide_eq_decide];omega
 rw[h1,h2];cases hd:decide (a<(l.length:Int))with
 |true=>exact⟨-1,rfl,.inl rfl⟩
 |false=>
  have hd:=of_decide_eq_false hd;have TA:l.length<=1073741824:=by omega
  obtain⟨y,q1,q2⟩:=UE (body:=I3 (l,())) m6 V0 l TA (fun n a hn h0 h1=>by
   obtain⟨c1,c2⟩:=hw _ (LJ hn m6);obtain⟨b,e1,e2⟩:=TR (l.getD n m6).1 (l.getD n m6).2.1 (l.getD n m6).2.2 a c1 c2 h0 h1;unfold I3;simp only[aj,az,hn,decide_true,cond_true,aq,aV,av (n:=n) (show n<1099511627776 by omega),e1,Option.bind_some];rcases e2 with rfl|⟨b0,b1⟩
   ·exact .inl rfl
   ·rw[JJ b0];exact .inr ⟨b,rfl,b0,b1⟩) (fun a=>by
   unfold I3;simp only[aj,Nat.lt_irrefl,decide_false,cond_false]) (a-(l.length:Int)) (by omega) (by omega)
  simp only[cond_false];unfold Kw;rw[q1];rcases q2 with rfl|⟨b,rfl,b1,b2⟩
  ·exact⟨-1,rfl,.inl rfl⟩
  ·exact⟨b,rfl,.inr ⟨b1,by unfold Sy;omega⟩⟩
end Go.Fn
set_option linter.unusedVariables false
set_option linter.unusedSimpArgs false
namespace Go.Fn
open Go.R
theorem SA:∀l:List QI,JD OV l<=4*Sy l
 | []=>Nat.zero_le _
 |c::l=>by have:=SA l;unfold Sy at this⊢;simp only[JD,OV,V0,List.length_cons]at this⊢;omega
end Go.Fn
set_option linter.unusedVariables false
namespace Go.Fn
open Go.R
noncomputable def K8(a:W8)(b:RN):ZF:=letI c:=a.2.2.2.2.2.2.2.2.2.2.2.1;cond (af .lss b.2.1 (ai c)) (cond (ah c b.2.1) ((Kk b.1 (ae b7 c b.2.1).2.2.2.2.2.2.2.2.2.2).bind fun d=>cond (Bool.not d.2.1) (some (.inr (.inl (([]:JP),false,())))) (some (.inl (d.1,aa .add .i64 b.2.1 1,())))) none) (some (.inr (.inr (.inl (b.1,())))))
noncomputable def NF k x:=iter (K8 k) big x
noncomputable def K0(a b c d e f g h i j k:Int)(l:Pt)(m:PO)(n:Oa)(o:JP):Xy:=cond (aE (List.append (α:=Kl) ([]:JP) o)) ((NF (a,b,c,d,e,f,g,h,i,j,k,l,m,n,o,()) (List.append (α:=Kl) ([]:JP) o,0,())).bind fun p=>Sum.elim (fun q=>some (q.1,q.2.1,())) (fun q=>Sum.elim (fun r=>some (r.1,true,())) (fun r=>Empty.elim r) q) p) none
noncomputable def KX(a b c d e f g h i j k:Int)(l:Pt)(m:PO)(n:Oa)(o:JP):Xy:=(Ml a b c d e f g h i j k l m n o).bind fun p=>cond (Bool.not p.1) (some (([]:JP),false,())) ((K0 a b c d e f g h i j k l m n o).bind fun q=>some (q.1,q.2.1,()))
noncomputable def Om(a:Yz)(b:RN):ZF:=cond (af .lss b.2.1 a.2.1) (cond (ah a.1 b.2.1) ((Kd b.1 (ae b7 a.1 b.2.1).2.2.2.2.2.2.2.2.2.2).bind fun c=>cond (Bool.not c.2.1) (some (.inr (.inl (([]:JP),false,())))) (some (.inl (c.1,aa .add .i64 b.2.1 1,())))) none) (some (.inr (.inr (.inl (b.1,())))))
noncomputable def Qs k x:=iter (Om k) big x
noncomputable def O3(a b c d e f g h i j k:Int)(l:Pt)(m:PO)(n:Oa)(o:JP):Xy:=(Ih o).bind fun p=>(Qs (l,ai l,()) (p.1,0,())).bind fun q=>Sum.elim (fun r=>some (r.1,r.2.1,())) (fun r=>Sum.elim (fun s=>some (s.1,true,())) (fun s=>Empty.elim s) r) q
noncomputable def J3(a b c d e f g h i j k:Int)(l:Pt)(m:PO)(n:Oa)(o:JP):Xy:=(LN a b c d e f g h i j k l m n o).bind fun p=>cond (Bool.not p.1) (some (([]:JP),false,())) ((O3 a b c d e f g h i j k l m n o).bind fun q=>some (q.1,q.2.1,()))
noncomputable def J4(a b c d e f g h i j k:Int)(l:Pt)(m:PO)(n:Oa)(o:JP):KK:=(J6 a b c d e f g h i j k l m n o 1048576).bind fun p=>letI q:=some (true,());letI r:=Me a b c d e f g h i j k l m n o;cond (af .lss p.1 0) q (r.bind fun s=>letI t:=s.2.2.2.2;letI u:=t.2.2.2;letI v:=u.2.2.2.2;(KX s.1 s.2.1 s.2.2.1 s.2.2.2.1 t.1 t.2.1 t.2.2.1 u.1 u.2.1 u.2.2.1 u.2.2.2.1 v.1 v.2.1 v.2.2.1 v.2.2.2.1).bind fun w=>r.bind fun x=>letI y:=x.2.2;letI z:=y.2.2;letI A:=z.2.2.2;letI B:=A.2.2;letI C:=B.2.2;letI D:=C.2.2;(J3 x.1 x.2.1 y.1 y.2.1 z.1 z.2.1 z.2.2.1 A.1 A.2.1 B.1 B.2.1 C.1 C.2.1 D.1 D.2.1).bind fun E=>(JK E.1 w.1).bind fun F=>letI G:=some (false,());letI H:=Bool.not (bQ E.2.1 w.2.1);cond (Bool.not F.1) G (cond H G (r.bind fun I=>letI J:=I.2.2.2.2;letI K:=J.2.2.2;letI L:=K.2.2.2.2;(LV x.1 x.2.1 y.1 y.2.1 z.1 z.2.1 z.2.2.1 A.1 A.2.1 B.1 B.2.1 C.1 C.2.1 D.1 D.2.1 I.1 I.2.1 I.2.2.1 I.2.2.2.1 J.1 J.2.1 J.2.2.1 K.1 K.2.1 K.2.2.1 K.2.2.2.1 L.1 L.2.1 L.2.2.1 L.2.2.2.1).bind fun M=>cond (Bool.not M.1) G ((KR x.1 x.2.1 y.1 y.2.1 z.1 z.2.1 z.2.2.1 A.1 A.2.1 B.1 B.2.1 C.1 C.2.1 D.1 D.2.1 1).bind fun N=>cond (af .lss N.1 0) G ((JK E.1 w.1).bind fun O=>cond (Bool.not O.1) G (cond H G ((JO E.1 1).bind fun P=>(Kp P.2.1 1).bind fun Q=>cond (af .lss Q.1 0) G (cond (af .neq Q.1 P.1) G (r.bind fun R=>letI S:=R.2.2.2.2;letI T:=S.2.2.2;letI U:=T.2.2.2.2;(J3 R.1 R.2.1 R.2.2.1 R.2.2.2.1 S.1 S.2.1 S.2.2.1 T.1 T.2.1 T.2.2.1 T.2.2.2.1 U.1 U.2.1 U.2.2.1 U.2.2.2.1).bind fun V=>(JK V.1 w.1).bind fun W=>cond (Bool.not W.1) G (cond (Bool.not (bQ V.2.1 w.2.1)) G ((Kp P.2.1 1).bind fun X=>cond (af .lss X.1 0) G (cond (af .neq X.1 P.1) G q))))))))))))
end Go.Fn
set_option linter.unusedVariables false
set_option linter.unusedSimpArgs false
namespace Go.Fn
open Go.R
noncomputable def R8(x:Site):Nat:=x.1.length+x.2.1.length+Sy x.2.2.1+x.2.2.2.2.2.2.2.2.2.2.length
theorem U2(x:Site)(a:Int)(h:SP x)(ha:0<=a)(Ql:a<=1048576):
  ∃b,Ly x.1 x.2.1 x.2.2.1 x.2.2.2.1 x.2.2.2.2.1 x.2.2.2.2.2.1 x.2.2.2.2.2.2.1 x.2.2.2.2.2.2.2.1 x.2.2.2.2.2.2.2.2.1 x.2.2.2.2.2.2.2.2.2.1 x.2.2.2.2.2.2.2.2.2.2 a=some (b,())/\(b = -1\/(0<=b/\b+(R8 x:Nat)<=a)):=by
 unfold Ly;rw[Tr _ _ a h.o h.c ha Ql];simp only[Option.bind_some];cases hd:decide (a<(x.1.length:Int)+(x.2.1.length:Int))with
 |true=>exact⟨-1,rfl,.inl rfl⟩
 |false=>
  have hd:=of_decide_eq_false hd;simp only[cond_false];rw[JJ (by omega)];simp only[cond_false];obtain⟨b,e1,e2⟩:=Tc x.2.2.1 (a-(x.1.length:Int)-(x.2.1.length:Int)) h.b h.bs (by omega) (by omega);rw[e1];simp only[Option.bind_some];rcases e2 with rfl|⟨b0,b1⟩
  ·exact⟨-1,rfl,.inl rfl⟩
  ·rw[JJ b0];simp only[cond_false];rw[SS _ b h.j b0 (by omega)];simp only[Option.bind_some];cases mP:decide (b<(x.2.2.2.2.2.2.2.2.2.2.length:Int))with
   |true=>exact⟨-1,rfl,.inl rfl⟩
   |false=>have mP:=of_decide_eq_false mP;simp only[cond_false];rw[JJ (by omega)];exact⟨_,rfl,.inr ⟨by omega,by unfold R8;omega⟩⟩
theorem UL(l:List Site)(a:Int)(hl:l.length<=9223372036854775807)(hw:∀c∈l,SP c)(ha:0<=a)(Ql:a<=1048576):
  ∃b,JS l a=some (b,())/\(b = -1\/(0<=b/\b+(l.length+JD R8 l:Nat)<=a)):=by
 unfold JS;have h1:aa .sub .i64 a (ai l)=a-(l.length:Int):=bO (by unfold ai;omega) (by unfold ai;omega);have h2:af .lss (a-(l.length:Int)) 0=decide (a<(l.length:Int)):=by simp only[af,decide_eq_decide];omega
 rw[h1,h2];cases hd:decide (a<(l.length:Int))with
 |true=>exact⟨-1,rfl,.inl rfl⟩
 |false=>
  have hd:=of_decide_eq_false hd;have TA:l.length<=1073741824:=by omega
  obtain⟨y,q1,q2⟩:=UE (body:=I7 (l,())) b8 R8 l TA (fun n a hn h0 h1=>by
   obtain⟨b,e1,e2⟩:=U2 (l.getD n b8) a (hw _ (LJ hn b8)) h0 h1;have hb:I7 (l,()) (a,(n:Int),())=(bif af .lss b 0 then some (.inr (.inl (-1,())))else some (.inl (b,((n+1:Nat):Int),()))):=by unfold I7;simp only[aj,az,hn,decide_true,cond_true,aq,aV,av (n:=n) (show n<1099511627776 by omega)];have hs':=congrArg (fun q=>q.bind fun(y0:Int×Unit)=>(bif (af .lss y0.1 (0:Int))then some (.inr (.inl ((-1:Int),())))else some (.inl (y0.1,((n+1:Nat):Int),())):Option ((Int×Int×Unit)⊕(Int×Unit⊕(Int×Unit⊕Empty))))) e1;exact hs'
   rw[hb];rcases e2 with rfl|⟨b0,b1⟩
   ·exact .inl rfl
   ·rw[JJ b0];exact .inr ⟨b,rfl,b0,b1⟩) (fun a=>by
   unfold I7;simp only[aj,Nat.lt_irrefl,decide_false,cond_false]) (a-(l.length:Int)) (by omega) (by omega)
  simp only[cond_false];unfold Lj;rw[q1];rcases q2 with rfl|⟨b,rfl,b1,b2⟩
  ·exact⟨-1,rfl,.inl rfl⟩
  ·exact⟨b,rfl,.inr ⟨b1,by omega⟩⟩
theorem Sj:∀l:List Site,JD KH l<=7*(l.length+JD R8 l)
 | []=>Nat.zero_le _
 |x::l=>by have h1:=Sj l;have h2:=SA x.2.2.1;simp only[JD,KH,R8,List.length_cons];omega
section
variable (a0 a1 a2 a3 a4 a5 a6 a7 a8 a9 a10:Int) (s:List Site) (p:List Ub) (g:List TY) (j:List Ev)
theorem WM(a b:Int)(h:Wb s p g j)(ha:0<=a)(Ql:a<=1048576)(hz:J6 a0 a1 a2 a3 a4 a5 a6 a7 a8 a9 a10 s p g j a=some (b,()))(hb:0<=b)(hle:Sg s p g j):Sv s p g j<=68719476736:=by
 have hs:JD KH s<=7340032:=by
  obtain⟨y,e1,e2⟩:=UL s a h.ls h.ss ha Ql;unfold J6 at hz;rw[e1]at hz;rcases e2 with rfl|⟨y0,y1⟩
  ·have:some ((-1:Int),())=some (b,()):=hz;injection this with this
   injection this with this
   omega
  ·have:=Sj s;omega
 have h2:=hle.lp;have h3:=hle.lg;have h4:=hle.lj;unfold Sv;omega
end
end Go.Fn
set_option linter.unusedVariables false
set_option linter.unusedSimpArgs false
namespace Go.Fn
open Go.R
section
variable (a0 a1 a2 a3 a4 a5 a6 a7 a8 a9 a10:Int) (s:List Site) (p:List Ub) (g:List TY) (j:List Ev)
theorem Us(hj:j.length<=1048576)(hs:s.length<=1048576):Sm (fun r=>r.1.length<=1048576) (K0 a0 a1 a2 a3 a4 a5 a6 a7 a8 a9 a10 s p g j) (O3 a0 a1 a2 a3 a4 a5 a6 a7 a8 a9 a10 s p g j):=by
 unfold K0 O3;rw[show aE (List.append (α:=Ev) ([]:List Ev) j)=true from QF (by show j.length<=_;omega),Tg j (by omega)];refine(NU (Y:=List Ev×Bool×Unit⊕(List Ev×Unit⊕Empty)) s.length (by omega) (Q:=fun y=>match y with| .inl y=>y.1.length<=1048576| .inr (.inl y)=>y.1.length<=1048576| .inr (.inr _)=>True) (fun l:List Ev=>l.length<=1048576) (fun l n hn hI=>?_) (fun l hI=>?_) j hj).bind fun q hq=>?_
 ·unfold K8 Om;simp only[aj,az,hn,decide_true,cond_true,av (n:=n) (by omega),TN,TD,Option.bind_some];refine .cond (fun _=>.ret (Nat.zero_le _)) fun _=>.ret ⟨?_,rfl⟩;have:=UT l (ae b7 s (n:Int)).2.2.2.2.2.2.2.2.2.2;show(PX l _).1.length<=_;omega
 ·unfold K8 Om;simp only[aj,Nat.lt_irrefl,decide_false,cond_false];exact .ret hI
 ·cases q with
  |inl y=>exact .ret hq
  |inr q=>
   cases q with
   |inr e=>exact e.elim
   |inl y=>exact .ret hq
theorem Xf(hle:Sg s p g j):Sm (fun r=>r.1.length<=1048576) (KX a0 a1 a2 a3 a4 a5 a6 a7 a8 a9 a10 s p g j) (J3 a0 a1 a2 a3 a4 a5 a6 a7 a8 a9 a10 s p g j):=by unfold KX J3;refine(UU a0 a1 a2 a3 a4 a5 a6 a7 a8 a9 a10 s p g j hle).bind fun r _=>.cond (fun _=>.ret (Nat.zero_le _)) fun _=>?_;exact(Us a0 a1 a2 a3 a4 a5 a6 a7 a8 a9 a10 s p g j hle.lj hle.ls).bind fun r hr=>.ret hr
theorem RP(h:Wb s p g j):J4 a0 a1 a2 a3 a4 a5 a6 a7 a8 a9 a10 s p g j=some (true,()):=by
 unfold J4;obtain⟨b,h1,h2⟩:=TS a0 a1 a2 a3 a4 a5 a6 a7 a8 a9 a10 s p g j 1048576 h (by decide) (by decide);refine(Sz h1).trans ?_;rcases h2 with rfl|⟨b0,b1,hle⟩
 ·rfl
 refine(cF (JJ b0)).trans ?_;have W2:=WM a0 a1 a2 a3 a4 a5 a6 a7 a8 a9 a10 s p g j 1048576 b h (by decide) (by decide) h1 b0 hle;have t:=TV a0 a1 a2 a3 a4 a5 a6 a7 a8 a9 a10 s p g j hle;have e:=SE a0 a1 a2 a3 a4 a5 a6 a7 a8 a9 a10 s p g j hle;have k:=SK a0 a1 a2 a3 a4 a5 a6 a7 a8 a9 a10 s p g j 1 hle (by decide) (by omega);have kn:af .lss (Zx 1 s p g j) 0=false:=JJ (UW s p g j 1 (by decide));obtain⟨⟨r,ok,u⟩,y1,y2,hr⟩:=Xf a0 a1 a2 a3 a4 a5 a6 a7 a8 a9 a10 s p g j hle;have hr:r.length<=1048576:=hr;have m3:=Pq r 1 (by omega) (by decide) (by decide);have m4:=S5 r.length 1 (by omega) (by decide) (by decide);have m5:af .lss (1+7*(r.length:Int)) 0=false:=JJ (by omega);simp only[t,e,k,kn,y1,y2,Q9 r (by omega),m3,m4,m5,Option.bind_some,QO,IR,Bool.not_true,cond_false]
end
end Go.Fn

