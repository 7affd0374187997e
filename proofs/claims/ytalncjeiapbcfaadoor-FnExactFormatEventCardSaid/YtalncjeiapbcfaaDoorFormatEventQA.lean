import Derived.Test.YtalncjeiapbcfaaDoorRE
import Derived.Lib.SlicesCompact
import Derived.Sort.AssemblyPlain
import Derived.Shelf.LaysM
import Derived.Shelf.Strconv.Itoa3
import Derived.Lib.AppendIntMem
import Derived.Lib.LaidTab
import Derived.Lib.ItoaLen
import Derived.Lib.ItoaMem
/- Plain functions that stand for Go functions, and what they answer. Conditions: none. -/
set_option autoImplicit false
set_option linter.unusedVariables false
set_option linter.unusedSimpArgs false
set_option linter.unusedVariables false
namespace Go.Fn
open Go.R
abbrev vb:=ByteArray×Unit
abbrev r4:=Option (Bool×Unit)
abbrev n3:=List Int
abbrev ve:=List ByteArray
abbrev r7:=Option vb
abbrev xx:=List (Int×Int×Int×Bool)
noncomputable def ei:Int×Int×Int×Int×Int×Int×Int:=(0,0,0,0,0,0,0)
noncomputable def ej(a b c d e f g:Int):Option (Int×Int×Int×Int×Int×Int×Int×Unit):=some (a,b,c,d,e,f,g,())
noncomputable def b9(a b c:Int):r4:=cond (af .geq a b) (some (af .leq a c,())) (some (false,()))
noncomputable def c6(a b c d e f g:Int):r4:=(b9 a 0 5).bind fun h=>letI i:=some (false,());cond h.1 ((b9 b 1 999).bind fun j=>cond j.1 ((b9 c 1 100000).bind fun k=>cond k.1 ((b9 d 1 4).bind fun l=>cond l.1 ((b9 e 1 999).bind fun m=>cond m.1 ((b9 f 0 20000).bind fun n=>cond n.1 ((b9 g 0 20000).bind fun o=>some (o.1,())) i) i) i) i) i) i
noncomputable def bu(a b c:Int):r4:=cond (af .geq a b) (some (af .leq a c,())) (some (false,()))
noncomputable def c4(a:Int):r4:=(bu a 0 20000).bind fun b=>some (b.1,())
noncomputable def c5(a b c d e f g:Int):r4:=(bu a 0 5).bind fun h=>letI i:=some (false,());cond h.1 ((bu b 1 999).bind fun j=>cond j.1 ((bu c 1 100000).bind fun k=>cond k.1 ((bu d 1 4).bind fun l=>cond l.1 ((bu e 1 999).bind fun m=>cond m.1 ((c4 f).bind fun n=>cond n.1 ((c4 g).bind fun o=>some (o.1,())) i) i) i) i) i) i
end Go.Fn
set_option linter.unusedVariables false
namespace Go.Fn
open Go.R
noncomputable def zI:Int:=0
end Go.Fn
set_option linter.unusedVariables false
namespace Go.Fn
open Go.R
noncomputable def wk:n3:=([]:n3)
end Go.Fn
set_option linter.unusedVariables false
namespace Go.Fn
open Go.R
noncomputable def ii:Int×n3×xx:=(0,([]:n3),([]:xx))
end Go.Fn
namespace Go.Fn
open Go.R
abbrev Ev:=Int×Int×Int×Int×Int×Int×Int
noncomputable def kn(a lo hi:Int):Bool:=bif decide (a>=lo)then decide (a<=hi)else false
theorem e6(a lo hi:Int):bu a lo hi=some (kn a lo hi,()):=by unfold bu kn;simp only[af];cases decide (a>=lo) <;> rfl
theorem s4(a lo hi:Int):b9 a lo hi=some (kn a lo hi,()):=e6 a lo hi
theorem ko(a:Int):c4 a=some (kn a 0 20000,()):=by unfold c4;rw[e6];rfl
noncomputable def fe(e:Ev):Bool:=bif kn e.1 0 5 then bif kn e.2.1 1 999 then bif kn e.2.2.1 1 100000 then bif kn e.2.2.2.1 1 4 then bif kn e.2.2.2.2.1 1 999 then bif kn e.2.2.2.2.2.1 0 20000 then kn e.2.2.2.2.2.2 0 20000 else false else false else false else false else false else false
theorem gI{α:Type}(b:Bool)(x y:α):(bif b then some x else some y)=some (bif b then x else y):=by cases b <;> rfl
theorem gA(b x y:Bool):(bif b then(x,())else(y,()))=((bif b then x else y),()):=by cases b <;> rfl
theorem ga(a b c d e f g:Int):c6 a b c d e f g=some (fe (a,b,c,d,e,f,g),()):=by unfold c6 fe;simp only[s4,Option.bind_some,gI,gA]
theorem fq(a b c d e f g:Int):c5 a b c d e f g=some (fe (a,b,c,d,e,f,g),()):=by unfold c5 fe;simp only[e6,ko,Option.bind_some,gI,gA]
noncomputable def n6(p e:Ev):Bool:=!(decide (e.1<p.1)||(decide (e.1=p.1)&&(decide (e.2.1<=p.2.1)||decide (e.2.2.1<=p.2.2.1))))
noncomputable def lj(l:List Ev):Nat->Bool
 |0=>fe (l.getD 0 ei)
 |n+1=>fe (l.getD (n+1) ei)&&n6 (l.getD n ei) (l.getD (n+1) ei)
noncomputable def mS(l:List Ev):Bool:=bif decide (60<l.length)then false else aB (lj l) 0 l.length
end Go.Fn
set_option linter.unusedSimpArgs false
namespace Go.Fn
open Go.R
theorem nh{l:List Ev}(h:mS l=true):l.length<=60:=by
 unfold mS at h;cases hd:decide (60<l.length)with
 |true=>rw[hd]at h;cases h
 |false=>have:=of_decide_eq_false hd;omega
theorem qB{l:List Ev}(h:mS l=true){n:Nat}(hn:n<l.length):lj l n=true:=by have Ex:=nh h;unfold mS at h;rw[decide_eq_false (by omega)]at h;exact(aO _ _).1 h n (Nat.zero_le _) (by omega)
theorem mu{a lo hi:Int}:kn a lo hi=true↔lo<=a/\a<=hi:=by
 unfold kn;by_cases h:lo<=a
 ·rw[decide_eq_true (show a>=lo from h)];simp[h]
 ·rw[decide_eq_false (show ¬a>=lo from h)];simp[h]
theorem mm{a b:Bool}:(bif a then b else false)=true↔a=true/\b=true:=by cases a <;> simp
theorem hD{e:Ev}:fe e=true↔(0<=e.1/\e.1<=5)/\(1<=e.2.1/\e.2.1<=999)/\(1<=e.2.2.1/\e.2.2.1<=100000)/\(1<=e.2.2.2.1/\e.2.2.2.1<=4)/\(1<=e.2.2.2.2.1/\e.2.2.2.2.1<=999)/\(0<=e.2.2.2.2.2.1/\e.2.2.2.2.2.1<=20000)/\(0<=e.2.2.2.2.2.2/\e.2.2.2.2.2.2<=20000):=by unfold fe;simp only[mm,mu]
theorem lm{a:Int}(h:0<=a):af .lss a 0=false:=by simp only[af,decide_eq_false_iff_not];omega
end Go.Fn
set_option linter.unusedSimpArgs false
namespace Go.Fn
open Go.R
abbrev u4:=Int×Int
abbrev Cp:=Int×Int×Int×Int
end Go.Fn
set_option linter.unusedSimpArgs false
namespace Go.Fn
open Go.R
abbrev xb:=Int×Int×Int×Int×Int
end Go.Fn
set_option linter.unusedSimpArgs false
namespace Go.Fn
open Go.R
noncomputable def Bd(g:List (List Int))(i j:Nat):Int:=(g.getD i wk).getD j zI
end Go.Fn
set_option linter.unusedSimpArgs false
namespace Go.Fn
open Go.R
abbrev DM:=Int×Int×Int×Int×Int×Int×Int×Int
end Go.Fn
set_option linter.unusedSimpArgs false
namespace Go.Fn
open Go.R
abbrev Bx:=Int×Int×Int×Bool
abbrev r5:=Int×List Int×List Bx
abbrev Site:=List u4×List u4×List r5×Int×Int×Bool×Bool×Bool×Int×Int×List Ev
theorem k5{α:Type}{l:List α}{n:Nat}(h:n<l.length)(z:α):l.getD n z∈l:=by rw[List.getD_eq_getElem?_getD,List.getElem?_eq_getElem h];exact List.getElem_mem h
end Go.Fn
set_option linter.unusedSimpArgs false
namespace Go.Fn
open Go.R
abbrev B1:=Int×Int×Int×Int×Int×Int×Int×Int×Int×Int×Int×Int×Int
abbrev BE:=Int×Int×Int×Int×Int×Int×Bool
end Go.Fn
namespace Go.R
def Yl{α:Type}(x:Option α)(P:α->Prop):Prop:=∃a,x=some a/\P a
section
variable {α β:Type} {P:α->Prop} {Q:β->Prop}
theorem Yl.ret{a:α}(h:P a):Yl (some a) P:=⟨a,rfl,h⟩
theorem Yl.bind{x:Option α}{f:α->Option β}(hx:Yl x P)(hf:∀a,P a->Yl (f a) Q):Yl (x.bind f) Q:=by obtain⟨a,rfl,ha⟩:=hx;exact hf a ha
theorem Yl.mono{P':α->Prop}{x:Option α}(hx:Yl x P)(h:∀a,P a->P' a):Yl x P':=by obtain⟨a,e,ha⟩:=hx;exact⟨a,e,h a ha⟩
theorem Yl.lets{γ:Type}{v:γ}{k:γ->Option α}(h:Yl (k v) P):Yl (lets v k) P:=h
end
open Go.Fn
end Go.R
set_option linter.unusedSimpArgs false
set_option linter.unusedVariables false
namespace Go.Fn
open Go.R Go.Sort
section
variable {α:Type} [Inhabited α] {lt:α->α->Bool}
theorem one:(1:Int)=((1:Nat):Int):=rfl
end
end Go.Fn
set_option linter.unusedSimpArgs false
set_option linter.unusedVariables false
namespace Go.Fn
open Go.R Go.Sort
section
variable {α:Type} [Inhabited α] {lt:α->α->Bool}
abbrev r6(α:Type):=Option (((List α)×Int×Int×Int×Bool×Bool×Unit)⊕((List α)×Unit⊕Empty))
noncomputable def Next(lt:α->α->Bool)(q:r6 α)(d:Array α)(a b:Nat):Prop:=
 (∃R,q=some (.inr (.inl (R.toList,())))/\PermIn a b d R/\SortedIn lt a b R) \/
 (∃(E:Array α) (a' b':Nat) (L:Int) (wb wp:Bool),q=some (.inl (E.toList,(a':Int),(b':Int),L,wb,wp,()))/\E.size=d.size/\a'<=b'/\b'<=b/\b'-a'<b-a/\Below lt a' b' E/\∀R,PermIn a' b' E R->SortedIn lt a' b' R->PermIn a b d R/\SortedIn lt a b R)
theorem Next.mono{q:r6 α}{d D:Array α}{a b:Nat}(h:Next lt q D a b)(p:PermIn a b d D):Next lt q d a b:=by
 rcases h with ⟨R,h1,h2,h3⟩|⟨E,a',b',L,wb,wp,h1,h2,h3,h4,h5,h6,h7⟩
 ·exact .inl ⟨R,h1,permIn_trans _ _ _ a b p h2,h3⟩
 ·refine .inr ⟨E,a',b',L,wb,wp,h1,by rw[h2,p.1],h3,h4,h5,h6,fun R hR hs=>?_⟩;obtain⟨k1,k2⟩:=h7 R hR hs;exact⟨permIn_trans _ _ _ a b p k1,k2⟩
end
end Go.Fn
set_option linter.unusedSimpArgs false
set_option linter.unusedVariables false
namespace Go.Fn
open Go.R Go.Sort
noncomputable def nw(x y:Ev):Bool:=decide (x.1<y.1)||(decide (x.1=y.1)&&decide (x.2.1<y.2.1))
end Go.Fn
set_option linter.unusedSimpArgs false
set_option linter.unusedVariables false
namespace Go.Fn
open Go.R Go.Sort
theorem e7{x y:Ev}:nw x y=true↔x.1<y.1\/(x.1=y.1/\x.2.1<y.2.1):=by unfold nw;simp
theorem qS{x y z:Ev}(h1:nw x y=true)(h2:nw y z=true):nw x z=true:=by rw[e7]at *;omega
abbrev rp(l:List Ev):Prop:=l.Pairwise fun x y=>nw x y=true
theorem i6:∀(l:List Ev),(∀n,n+1<l.length->nw (l.getD n ei) (l.getD (n+1) ei)=true)->rp l
 | [],_=>List.Pairwise.nil
 | [x],_=>List.pairwise_singleton _ _
 |x::y::l,h=>by
  have ih:=i6 (y::l) (fun n hn=>h (n+1) (by simpa using hn));have hxy:nw x y=true:=h 0 (by simp);refine List.Pairwise.cons (fun z hz=>?_) ih;rcases List.mem_cons.1 hz with rfl|hz
  ·exact hxy
  ·exact qS hxy ((List.pairwise_cons.1 ih).1 z hz)
theorem nl{l:List Ev}(h:mS l=true):rp l:=by refine i6 l fun n hn=>?_;have:=qB h hn;simp only[lj,Bool.and_eq_true,n6,Bool.not_eq_true',Bool.or_eq_false_iff,Bool.and_eq_false_iff,decide_eq_false_iff_not]at this;rw[e7];omega
end Go.Fn
set_option linter.unusedSimpArgs false
set_option linter.unusedVariables false
namespace Go.Fn
open Go.R Go.Sort
noncomputable def gy(node:Int)(s:Int×Int×Nat×Nat)(x:Ev):Int×Int×Nat×Nat:=((bif decide (x.1=node)then x.2.1+1 else s.1),max s.2.1 (x.2.2.1+1),(bif decide (x.1<=node)then s.2.2.2+1 else s.2.2.1),s.2.2.2+1)
noncomputable def gb(l:List Ev)(node:Int):Int×Int×Nat×Nat:=l.foldl (gy node) (1,1,0,0)
noncomputable def tt(l:List Ev)(node kind cv a b:Int):Ev:=(node,(gb l node).1,(gb l node).2.1,kind,cv,a,b)
noncomputable def e8(l:List Ev)(node kind cv a b:Int):List Ev:=l.take (gb l node).2.2.1++[tt l node kind cv a b]++l.drop (gb l node).2.2.1
noncomputable def n4(l:List Ev)(node kind cv a b:Int):List Ev×Bool:=bif mS l then bif mS (e8 l node kind cv a b)then(e8 l node kind cv a b,true)else(l,false)else(l,false)
structure kx (node:Int) (p:List Ev) (s:Int×Int×Nat×Nat):Prop where
 c:s.2.2.2=p.length
 sL:s.2.2.1<=p.length
 s1:∀x,x∈p->x.1=node->x.2.1<s.1
 s2:s.1=1\/∃x,x∈p/\x.1=node/\s.1=x.2.1+1
 p1:∀x,x∈p->x.2.2.1<s.2.1
 p2:s.2.1=1\/∃x,x∈p/\s.2.1=x.2.2.1+1
 a1:∀x,x∈p.take s.2.2.1->x.1<=node
 a2:∀x,x∈p.drop s.2.2.1->node<x.1
theorem jr{node:Int}{p:List Ev}{s:Int×Int×Nat×Nat}{x:Ev}(h:kx node p s)(hp:rp (p++[x])):kx node (p++[x]) (gy node s x):=by
 have hlt:∀y,y∈p->nw y x=true:=fun y hy=>(List.pairwise_append.1 hp).2.2 y hy x (List.mem_singleton.2 rfl);obtain⟨h1,h2,h3,h4,h5,h6,h7,h8⟩:=h;unfold gy;refine⟨by simp[h1],?_,fun y hy hn=>?_,?_,fun y hy=>?_,?_,?_,?_⟩
 ·cases decide (x.1<=node) <;> simp <;> omega
 ·simp only[];rcases List.mem_append.1 hy with hy|hy
  ·by_cases hx:x.1=node
   ·rw[decide_eq_true hx];have:=hlt y hy;rw[e7]at this;simp only[cond_true];omega
   ·rw[decide_eq_false hx];exact h3 y hy hn
  ·rw[List.mem_singleton]at hy;subst hy;rw[decide_eq_true hn];simp only[cond_true];omega
 ·simp only[];by_cases hx:x.1=node
  ·rw[decide_eq_true hx];exact .inr ⟨x,by simp,hx,rfl⟩
  ·rw[decide_eq_false hx];rcases h4 with h4|⟨y,hy,h4⟩
   ·exact .inl h4
   ·exact .inr ⟨y,List.mem_append_left _ hy,h4⟩
 ·simp only[];rcases List.mem_append.1 hy with hy|hy
  ·have:=h5 y hy;omega
  ·rw[List.mem_singleton]at hy;subst hy;omega
 ·simp only[];by_cases hm:s.2.1<=x.2.2.1+1
  ·exact .inr ⟨x,by simp,by omega⟩
  ·rcases h6 with h6|⟨y,hy,h6⟩
   ·exact .inl (by omega)
   ·exact .inr ⟨y,List.mem_append_left _ hy,by omega⟩
 ·simp only[];by_cases hx:x.1<=node
  ·rw[decide_eq_true hx];intro y hy;rw[cond_true,h1,List.take_of_length_le (by simp)]at hy;rcases List.mem_append.1 hy with hy|hy
   ·have:=hlt y hy;rw[e7]at this;omega
   ·rw[List.mem_singleton]at hy;subst hy;exact hx
  ·rw[decide_eq_false hx];intro y hy;rw[cond_false,List.take_append_of_le_length h2]at hy;exact h7 y hy
 ·simp only[];by_cases hx:x.1<=node
  ·rw[decide_eq_true hx];intro y hy;rw[cond_true,h1,List.drop_of_length_le (by simp)]at hy;exact absurd hy List.not_mem_nil
  ·rw[decide_eq_false hx];intro y hy;rw[cond_false,List.drop_append_of_le_length h2]at hy;rcases List.mem_append.1 hy with hy|hy
   ·exact h8 y hy
   ·rw[List.mem_singleton]at hy;subst hy;omega
theorem gm(node:Int):∀(l p:List Ev) (s:Int×Int×Nat×Nat),rp (p++l)->kx node p s->kx node (p++l) (l.foldl (gy node) s)
 | [],p,s,_,h=>by simpa using h
 |x::l,p,s,hp,h=>by
  have e:p++x::l=(p++[x])++l:=by simp
  rw[e]at hp⊢;exact gm node l (p++[x]) (gy node s x) hp (jr h (List.pairwise_append.1 hp).1)
theorem gw(node:Int){l:List Ev}(h:rp l):kx node l (gb l node):=by have:=gm node l [] (1,1,0,0) (by simpa using h) ⟨rfl,Nat.le_refl _,fun x hx=>absurd hx List.not_mem_nil,.inl rfl,fun x hx=>absurd hx List.not_mem_nil,.inl rfl,fun x hx=>absurd (List.mem_of_mem_take hx) List.not_mem_nil,fun x hx=>absurd (List.mem_of_mem_drop hx) List.not_mem_nil⟩;exact this
theorem ea{l:List Ev}{node kind cv a b:Int}(z:Ev):z∈e8 l node kind cv a b↔z=tt l node kind cv a b\/z∈l:=by
 unfold e8;rw[List.mem_append,List.mem_append,List.mem_singleton];constructor
 ·rintro((h|h)|h)
  ·exact .inr (List.mem_of_mem_take h)
  ·exact .inl h
  ·exact .inr (List.mem_of_mem_drop h)
 ·rintro(h|h)
  ·exact .inl (.inr h)
  ·rw[<-List.take_append_drop (gb l node).2.2.1 l,List.mem_append]at h;rcases h with h|h
   ·exact .inl (.inl h)
   ·exact .inr h
theorem kv{l:List Ev}(h:rp l)(node kind cv a b:Int):(e8 l node kind cv a b).length=l.length+1:=by have:=(gw node h).sL;unfold e8;simp only[List.length_append,List.length_take,List.length_drop,List.length_singleton];omega
end Go.Fn
set_option linter.unusedSimpArgs false
set_option linter.unusedVariables false
namespace Go.Fn
open Go.R Go.Sort
structure jn (n:Nat) (base:List Ev) (S:Int->Prop) (l:List Ev):Prop where
 j:mS l=true
 len:l.length<=n
 st:∀x,x∈l->x.2.2.1<=(n:Int)
 vm:∀x,x∈l->∀s:Int,1<=s->s<=x.2.1->∃y,y∈l/\y.1=x.1/\y.2.1=s
 sub:∀x,x∈base->x∈l
 new:∀x,x∈l->x∈base\/S x.1
theorem jn.mono{n m:Nat}{base:List Ev}{S:Int->Prop}{l:List Ev}(h:jn n base S l)(hm:n<=m):jn m base S l:=⟨h.j,by have:=h.len;omega,fun x hx=>by have:=h.st x hx;omega,h.vm,h.sub,h.new⟩
theorem jn.add{n:Nat}{base:List Ev}{S:Int->Prop}{l:List Ev}(h:jn n base S l){node:Int}(hS:S node)(kind cv a b:Int):jn (n+1) base S (n4 l node kind cv a b).1:=by
 unfold n4;rw[h.j];simp only[cond_true];cases hw:mS (e8 l node kind cv a b)with
 |false=>exact h.mono (Nat.le_succ _)
 |true=>
  have hs:=nl h.j;have hi:=gw node hs;simp only[cond_true];refine⟨hw,by rw[kv hs];have:=h.len;omega,fun x hx=>?_,fun x hx s h1 h2=>?_,fun x hx=>(ea x).2 (.inr (h.sub x hx)),fun x hx=>?_⟩
  ·rcases(ea x).1 hx with e|e
   ·rw[e];show(gb l node).2.1<=_;rcases hi.p2 with p|⟨y,hy,p⟩
    ·rw[p];omega
    ·rw[p];have:=h.st y hy;omega
   ·have:=h.st x e;omega
  ·rcases(ea x).1 hx with e|e
   ·subst e;have h2:s<=(gb l node).1:=h2;by_cases e:s=(gb l node).1
    ·exact⟨_,hx,rfl,e.symm⟩
    ·rcases hi.s2 with p|⟨y,hy,q,p⟩
     ·omega
     ·obtain⟨z,hz,e1,e2⟩:=h.vm y hy s h1 (by omega);exact⟨z,(ea z).2 (.inr hz),by rw[e1,q];rfl,e2⟩
   ·obtain⟨z,hz,e1,e2⟩:=h.vm x e s h1 h2;exact⟨z,(ea z).2 (.inr hz),e1,e2⟩
  ·rcases(ea x).1 hx with e|e
   ·rw[e];exact .inr hS
   ·exact h.new x e
end Go.Fn
set_option linter.unusedSimpArgs false
set_option linter.unusedVariables false
namespace Go.Fn
open Go.R
section
variable {a0 a1:Int} {g:List (List Int)} {s:List xb}
noncomputable def lg(g:List (List Int))(p q:Int):Int:=Bd g p.toNat q.toNat
end
end Go.Fn
set_option linter.unusedVariables false
set_option linter.unusedSimpArgs false
namespace Go.Fn
open Go.R
section
variable (a0 a1:Int) (g:List (List Int)) (s:List xb)
abbrev SB:Type:=Bool×Int×List Int×Unit
end
end Go.Fn
set_option linter.unusedVariables false
set_option linter.unusedSimpArgs false
namespace Go.Fn
open Go.R
noncomputable def n5(L:List r5)(i:Nat):r5:=L.getD i ii
noncomputable def kB(L:List r5):Prop:=L.length<=1073741824/\∀c,c∈L->c.2.1.length<=1073741824/\c.2.2.length<=1073741824
theorem kB.at{L:List r5}(h:kB L){i:Nat}(hi:i<L.length):(n5 L i).2.1.length<=1073741824/\(n5 L i).2.2.length<=1073741824:=h.2 _ (k5 hi _)
end Go.Fn
set_option linter.unusedVariables false
set_option linter.unusedSimpArgs false
namespace Go.Fn
open Go.R
noncomputable def Sm{α:Type}(P:α->Prop)(x y:Option α):Prop:=∃r,x=some r/\y=some r/\P r
section
variable {α β:Type} {P:α->Prop} {Q:β->Prop}
theorem Sm.ret{a:α}(h:P a):Sm P (some a) (some a):=⟨a,rfl,rfl,h⟩
theorem Sm.bind{x y:Option α}{f g:α->Option β}(hx:Sm P x y)(h:∀r,P r->Sm Q (f r) (g r)):Sm Q (x.bind f) (y.bind g):=by obtain⟨r,rfl,rfl,hr⟩:=hx;exact h r hr
theorem Sm.mono{P':α->Prop}{x y:Option α}(h:Sm P x y)(hp:∀r,P r->P' r):Sm P' x y:=by obtain⟨r,e1,e2,hr⟩:=h;exact⟨r,e1,e2,hp r hr⟩
theorem Sm.symm{x y:Option α}(h:Sm P x y):Sm P y x:=by obtain⟨r,e1,e2,hr⟩:=h;exact⟨r,e2,e1,hr⟩
end
abbrev Any{α:Type}:α->Prop:=fun _=>True
end Go.Fn
set_option linter.unusedVariables false
set_option linter.unusedSimpArgs false
namespace Go.Fn
open Go.R
theorem cT{β:Type}{b:Bool}{x y:β}(h:b=true):(bif b then x else y)=x:=by rw[h];rfl
theorem cF{β:Type}{b:Bool}{x y:β}(h:b=false):(bif b then x else y)=y:=by rw[h];rfl
theorem fu{α β:Type}{a b:α}{f:α->β}(h:a=b):lets a f=f b:=by rw[aR,h]
theorem eg{α β:Type}{x:Option α}{r:α}{f:α->Option β}(h:x=some r):x.bind f=f r:=by rw[h];rfl
end Go.Fn
set_option linter.unusedVariables false
set_option linter.unusedSimpArgs false
namespace Go.Fn
open Go.R
abbrev Wk:=List u4×List u4
end Go.Fn
set_option linter.unusedVariables false
set_option linter.unusedSimpArgs false
namespace Go.Fn
open Go.R
theorem n7{α:Type}(l m:List α):List.append l m=l++m:=rfl
end Go.Fn
namespace Go.R
open Go.Shelf Go.Proofs
def rZ(n:Int):Bool:=decide (-9223372036854775808<=n)&&decide (n<=9223372036854775807)
theorem r8{n:Int}:rZ n=true ↔ -9223372036854775808<=n/\n<=9223372036854775807:=by unfold rZ;rw[Bool.and_eq_true,decide_eq_true_iff,decide_eq_true_iff]
def wK:Array Value:=(Lib.pow10Tab.map fun z=>Value.int .u64 z).toArray
def CS:ij:=⟨true,[.one (.val (.int .i64))],[.one (.val .str)],fun x=>bif rZ x.1 then some (ByteArray.mk (Lib.itoa x.1).toArray,())else none⟩
theorem Fm {P:Program} {ρ:Ren} (L:LaysM.n171 P ρ) {g:Nat} (hg:P.globalNamed "internal/strconv.uint64pow10" = some g) (hT:(g, wK) ∈ Co):eA P (ρ.f 171) CS:=by
 refine⟨⟨_,_,L.f171,rfl,rfl⟩,?_⟩;intro w ω us x y ry hinj hdom hsh hfn;obtain⟨n,u0⟩:=x;have hfn:(bif rZ n then some (ByteArray.mk (Lib.itoa n).toArray,())else none)=some y:=hfn;cases hi:rZ n with
 |false=>rw[hi]at hfn;cases hfn
 |true=>
  rw[hi]at hfn;injection hfn with hfn
  subst hfn;have hi:=r8.1 hi;match us,hsh with
  | [u],hsh=>
  obtain⟨_,⟨v0,zu,hr⟩,_⟩:=hsh;injection zu with zu _
  subst zu;have hr:u=.int .i64 n:=hr;subst hr;obtain⟨_,_,T,m,h3⟩:=ry _ hT;have htab:Lib.TabIs P w "internal/strconv.uint64pow10" .u64 Lib.pow10Tab:=by unfold Lib.TabIs World.var?;rw[hg];show(match w.heap[g]? with|some (.cells cs _ _)=>some cs|_=>none)=_;rw[h3];rfl
  refine(Any.strconv_Itoa L n hi.1 hi.2 w htab).mono ?_;rintro ex w' ⟨rfl,k,os,rfl⟩;have hb:=Lib.below_grow w.heap.size w (Nat.le_refl _) k os;exact⟨_,ω,rfl,⟨hb.os,hb.tape,hb.output,hb.size,fun b hlt _=>⟨hb.block b hlt,rfl⟩⟩,hinj,fun b k hk=>Nat.lt_of_lt_of_le (hdom b k hk) hb.size,⟨rfl,⟨_,rfl,rfl⟩⟩,⟨fun _=>trivial,rfl,rfl⟩⟩
theorem Fb {P:Program} {w:World} {g:Nat} (hg:P.globalNamed "internal/strconv.uint64pow10" = some g) (hG:Co = [(g, wK)]) (h:Lib.TabIs P w "internal/strconv.uint64pow10" .u64 Lib.pow10Tab):xQ w aJ.gx:=fun q hq=>by
 rw[hG,List.mem_singleton]at hq;subst hq;unfold Lib.TabIs World.var? at h;rw[hg]at h;have h:(match w.heap[g]? with|some (.cells cs _ _)=>some cs|_=>none)=some wK:=h;split at h
 ·rename_i cs T m e;injection h with h
  subst h;exact⟨(Array.getElem?_eq_some_iff.1 e).1,rfl,T,m,e⟩
 ·cases h
end Go.R
set_option linter.unusedVariables false
namespace Go.Fn
open Go.R
noncomputable def zS:ByteArray:=ByteArray.empty
noncomputable def cn(a:Int):Option (Int×Unit):=cond (af .lss a 10) (some (aq .u8 (aa .add .i64 48 a),())) (some (aq .u8 (aa .sub .i64 (aa .add .i64 97 a) 10),()))
noncomputable def b7(a:Bool×Unit)(b:Int×vb):Option (Int×vb⊕vb⊕Empty):=letI c:=b.2.1;letI d:=az 10;letI e:=aa .rem .i64 b.1 10;letI f:=aa .quo .i64 b.1 10;cond (af .neq b.1 0) (cond d none (cond (af .lss e 0) ((cn (DA .i64 e)).bind fun g=>cond (nL (lU (List.append (α:=Int) ([]:n3) [g.1])) c) (cond d none (some (.inl (f,ByteArray.append (lU (List.append (α:=Int) ([]:n3) [g.1])) c,())))) none) ((cn e).bind fun g=>cond (nL (lU (List.append (α:=Int) ([]:n3) [g.1])) c) (cond d none (some (.inl (f,ByteArray.append (lU (List.append (α:=Int) ([]:n3) [g.1])) c,())))) none))) (some (.inr (.inl (c,()))))
noncomputable def cx k x:=iter (b7 k) big x
noncomputable def bn(a:Int):r7:=letI b:=af .lss a 0;cond (af .eql a 0) (some (ByteArray.mk #[48],())) ((cx (b,()) (a,ByteArray.mk #[],())).bind fun c=>Sum.elim (fun d=>cond b (cond (nL (ByteArray.mk #[45]) d.1) (some (ByteArray.append (ByteArray.mk #[45]) d.1,())) none) (some (d.1,()))) (fun d=>Empty.elim d) c)
noncomputable def bt(a b c d e f g:Int):r7:=(c6 a b c d e f g).bind fun h=>cond (Bool.not h.1) (some (ByteArray.mk #[],())) ((bn a).bind fun i=>cond (nL i.1 (ByteArray.mk #[46])) ((bn b).bind fun j=>cond (nL (ByteArray.append i.1 (ByteArray.mk #[46])) j.1) (cond (nL (ByteArray.append (ByteArray.append i.1 (ByteArray.mk #[46])) j.1) (ByteArray.mk #[64])) ((bn c).bind fun k=>cond (nL (ByteArray.append (ByteArray.append (ByteArray.append i.1 (ByteArray.mk #[46])) j.1) (ByteArray.mk #[64])) k.1) (cond (nL (ByteArray.append (ByteArray.append (ByteArray.append (ByteArray.append i.1 (ByteArray.mk #[46])) j.1) (ByteArray.mk #[64])) k.1) (ByteArray.mk #[32])) (lets (ByteArray.append (ByteArray.append (ByteArray.append (ByteArray.append (ByteArray.append i.1 (ByteArray.mk #[46])) j.1) (ByteArray.mk #[64])) k.1) (ByteArray.mk #[32])) fun l=>letI m:=aa .sub .i64 d 1;cond (ah (List.append (α:=ByteArray) (List.append (α:=ByteArray) (List.append (α:=ByteArray) (List.append (α:=ByteArray) ([]:ve) [ByteArray.mk #[112,108,97,99,101,100]]) [ByteArray.mk #[101,120,116,101,110,100,101,100]]) [ByteArray.mk #[116,97,107,101,110]]) [ByteArray.mk #[102,101,116,99,104,101,100]]) m) (lets (ae zS (List.append (α:=ByteArray) (List.append (α:=ByteArray) (List.append (α:=ByteArray) (List.append (α:=ByteArray) ([]:ve) [ByteArray.mk #[112,108,97,99,101,100]]) [ByteArray.mk #[101,120,116,101,110,100,101,100]]) [ByteArray.mk #[116,97,107,101,110]]) [ByteArray.mk #[102,101,116,99,104,101,100]]) m) fun n=>cond (nL l n) (cond (nL (ByteArray.append l n) (ByteArray.mk #[32])) ((bn e).bind fun o=>cond (nL (ByteArray.append (ByteArray.append l n) (ByteArray.mk #[32])) o.1) (cond (af .eql d 2) (some (ByteArray.append (ByteArray.append (ByteArray.append l n) (ByteArray.mk #[32])) o.1,())) (cond (nL (ByteArray.append (ByteArray.append (ByteArray.append l n) (ByteArray.mk #[32])) o.1) (ByteArray.mk #[32])) ((bn f).bind fun p=>cond (nL (ByteArray.append (ByteArray.append (ByteArray.append (ByteArray.append l n) (ByteArray.mk #[32])) o.1) (ByteArray.mk #[32])) p.1) (cond (nL (ByteArray.append (ByteArray.append (ByteArray.append (ByteArray.append (ByteArray.append l n) (ByteArray.mk #[32])) o.1) (ByteArray.mk #[32])) p.1) (ByteArray.mk #[32])) (lets (ByteArray.append (ByteArray.append (ByteArray.append (ByteArray.append (ByteArray.append (ByteArray.append l n) (ByteArray.mk #[32])) o.1) (ByteArray.mk #[32])) p.1) (ByteArray.mk #[32])) fun q=>(bn g).bind fun r=>cond (nL q r.1) (some (ByteArray.append q r.1,())) none) none) none) none)) none) none) none) none) none) none) none) none) none)
noncomputable def strconv_Itoa(a:Int):r7:=cond (rZ a) (some (ByteArray.mk (Lib.itoa a).toArray,())) none
noncomputable def bg(a:Int):r7:=(strconv_Itoa a).bind fun b=>some (b.1,())
noncomputable def br(a b c d e f g:Int):r7:=(c5 a b c d e f g).bind fun h=>letI i:=aa .sub .i64 d 1;cond (Bool.not h.1) (some (ByteArray.mk #[],())) (cond (ah (List.append (α:=ByteArray) (List.append (α:=ByteArray) (List.append (α:=ByteArray) (List.append (α:=ByteArray) ([]:ve) [ByteArray.mk #[112,108,97,99,101,100]]) [ByteArray.mk #[101,120,116,101,110,100,101,100]]) [ByteArray.mk #[116,97,107,101,110]]) [ByteArray.mk #[102,101,116,99,104,101,100]]) i) (lets (ae zS (List.append (α:=ByteArray) (List.append (α:=ByteArray) (List.append (α:=ByteArray) (List.append (α:=ByteArray) ([]:ve) [ByteArray.mk #[112,108,97,99,101,100]]) [ByteArray.mk #[101,120,116,101,110,100,101,100]]) [ByteArray.mk #[116,97,107,101,110]]) [ByteArray.mk #[102,101,116,99,104,101,100]]) i) fun j=>(bg a).bind fun k=>cond (nL k.1 (ByteArray.mk #[46])) ((bg b).bind fun l=>cond (nL (ByteArray.append k.1 (ByteArray.mk #[46])) l.1) (cond (nL (ByteArray.append (ByteArray.append k.1 (ByteArray.mk #[46])) l.1) (ByteArray.mk #[64])) ((bg c).bind fun m=>cond (nL (ByteArray.append (ByteArray.append (ByteArray.append k.1 (ByteArray.mk #[46])) l.1) (ByteArray.mk #[64])) m.1) (cond (nL (ByteArray.append (ByteArray.append (ByteArray.append (ByteArray.append k.1 (ByteArray.mk #[46])) l.1) (ByteArray.mk #[64])) m.1) (ByteArray.mk #[32])) (lets (ByteArray.append (ByteArray.append (ByteArray.append (ByteArray.append (ByteArray.append k.1 (ByteArray.mk #[46])) l.1) (ByteArray.mk #[64])) m.1) (ByteArray.mk #[32])) fun n=>cond (nL n j) (cond (nL (ByteArray.append n j) (ByteArray.mk #[32])) ((bg e).bind fun o=>cond (nL (ByteArray.append (ByteArray.append n j) (ByteArray.mk #[32])) o.1) (cond (af .neq d 2) ((bg f).bind fun p=>cond (nL (ByteArray.mk #[32]) p.1) (cond (nL (ByteArray.append (ByteArray.mk #[32]) p.1) (ByteArray.mk #[32])) ((bg g).bind fun q=>cond (nL (ByteArray.append (ByteArray.append (ByteArray.mk #[32]) p.1) (ByteArray.mk #[32])) q.1) (cond (nL (ByteArray.append (ByteArray.append (ByteArray.append n j) (ByteArray.mk #[32])) o.1) (ByteArray.append (ByteArray.append (ByteArray.append (ByteArray.mk #[32]) p.1) (ByteArray.mk #[32])) q.1)) (lets (ByteArray.append (ByteArray.append (ByteArray.append (ByteArray.append n j) (ByteArray.mk #[32])) o.1) (ByteArray.append (ByteArray.append (ByteArray.append (ByteArray.mk #[32]) p.1) (ByteArray.mk #[32])) q.1)) fun r=>some (r,())) none) none) none) none) (some (ByteArray.append (ByteArray.append (ByteArray.append n j) (ByteArray.mk #[32])) o.1,()))) none) none) none) none) none) none) none) none) none)
noncomputable def b8(a b c d e f g:Int):r4:=letI h:=ej a b c d e f g;h.bind fun i=>letI j:=i.2.2.2;(bt i.1 i.2.1 i.2.2.1 j.1 j.2.1 j.2.2.1 j.2.2.2.1).bind fun k=>h.bind fun l=>letI m:=l.2.2.2;(br l.1 l.2.1 l.2.2.1 m.1 m.2.1 m.2.2.1 m.2.2.2.1).bind fun n=>cond (sA .neq n.1 k.1) (some (false,())) (some (true,()))
end Go.Fn
set_option linter.unusedVariables false
set_option linter.unusedSimpArgs false
namespace Go.Fn
open Go.R
noncomputable def ik(n:Nat):ByteArray:=ByteArray.mk (Lib.decDigits n).toArray
theorem kW(a b:ByteArray):ByteArray.append a b=a++b:=rfl
theorem oa(a b:List UInt8):ByteArray.append (ByteArray.mk a.toArray) (ByteArray.mk b.toArray)=ByteArray.mk (a++b).toArray:=by rw[kW];apply ByteArray.ext;simp
theorem l5(x:Int):lU [x]=ByteArray.mk [UInt8.ofNat x.toNat].toArray:=by apply ByteArray.ext;rfl
theorem fits{x y:ByteArray}(h:x.size+y.size<=1073741824):nL x y=true:=decide_eq_true (by omega)
theorem gg(l:List UInt8):(ByteArray.mk l.toArray).size=l.length:=by show l.toArray.size=_;simp
theorem qe{d:Nat}(h:d<10):cn (d:Int)=some (((48+d:Nat):Int),()):=by
 unfold cn;rw[show af .lss (d:Int) 10=true by simp only[af,decide_eq_true_eq];omega];have:aa .add .i64 48 (d:Int)=((48+d:Nat):Int):=by rw[bU (by omega) (by omega)];omega
 rw[this];have:∀d:Fin 10,aq .u8 ((48+d.val:Nat):Int)=((48+d.val:Nat):Int):=by decide +kernel
 rw[this ⟨d,h⟩];rfl
theorem tW(n:Nat):aa .rem .i64 (n:Int) 10=((n % 10:Nat):Int):=rfl
theorem tB{n:Nat}(h:n<=1000000000000000000):aa .quo .i64 (n:Int) 10=((n / 10:Nat):Int):=by have:aa .quo .i64 (n:Int) 10=IntKind.i64.wrap ((n / 10:Nat):Int):=rfl;rw[this];exact zx (by omega) (by omega)
theorem k4{n:Nat}(h0:0<n)(h1:n<=1000000000000000000)(s:List UInt8)(hs:s.length<=1000000):
  b7 (false,()) ((n:Int),ByteArray.mk s.toArray,())=some (.inl (((n / 10:Nat):Int),ByteArray.mk (UInt8.ofNat (48+n % 10)::s).toArray,())):=by
 unfold b7;have e1:af .neq (n:Int) 0=true:=by simp only[af,bne_iff_ne,ne_eq];omega
 have e2:af .lss ((n % 10:Nat):Int) 0=false:=lm (by omega);have e3:az (10:Int)=false:=rfl;simp only[e1,e2,e3,tW,tB h1,qe (Nat.mod_lt n (by decide:0<10)),cond_true,cond_false,Option.bind_some,n7,List.nil_append,l5];rw[fits (by rw[gg,gg];simp only[List.length_cons,List.length_nil];omega),oa];rfl
theorem mo{n:Nat}(h:0<n)(s:List UInt8):(if n / 10=0 then []else Lib.decDigits (n / 10))++(UInt8.ofNat (48+n % 10)::s)=Lib.decDigits n++s:=by
 by_cases h1:n<10
 ·rw[if_pos (by omega),Lib.decDigits_one h1,show n % 10=n by omega];rfl
 ·rw[if_neg (by omega)];have:Lib.decDigits n=Lib.decDigits (n / 10)++[UInt8.ofNat (48+n % 10)]:=by conv=>lhs;rw[Lib.decDigits,dif_neg h1]
  rw[this,List.append_assoc];rfl
theorem hM:∀(k n:Nat) (s:List UInt8) (f:Nat),n<=1000000000000000000->s.length+k<=60->n<10 ^ k->k<f ->
  iter (b7 (false,())) f ((n:Int),ByteArray.mk s.toArray,())=some (.inl (ByteArray.mk ((if n=0 then []else Lib.decDigits n)++s).toArray,()))
 |k,n,s,0,_,_,_,hf=>absurd hf (Nat.not_lt_zero _)
 |k,n,s,f+1,hn,hs,hk,hf=>by
  by_cases h0:n=0
  ·subst h0;exact av (by unfold b7;rfl)
  ·cases k with
   |zero=>simp at hk;exact absurd hk h0
   |succ k=>rw[aF (k4 (by omega) hn s (by omega)),hM k (n / 10) _ f (by omega) (by simp only[List.length_cons];omega) (by rw[Nat.pow_succ]at hk;omega) (by omega),mo (by omega),if_neg h0]
theorem er{n:Nat}(h:n<=1000000000000000000):bn (n:Int)=some (ik n,()):=by
 unfold bn;have e2:af .lss (n:Int) 0=false:=lm (by omega);by_cases h0:n=0
 ·subst h0;rw[show af .eql ((0:Nat):Int) 0=true from rfl,cond_true];unfold ik;rw[Lib.decDigits_one (by decide)];rfl
 ·have e1:af .eql (n:Int) 0=false:=by simp only[af,beq_eq_false_iff_ne,ne_eq];omega
  rw[e1,e2];have:=hM 19 n [] big h (by decide) (by omega) (aN (by decide));have hl:cx (false,()) ((n:Int),ByteArray.mk #[],())=_:=this;rw[hl,if_neg h0,List.append_nil];rfl
theorem ek{n:Nat}(h:n<=1000000000000000000):bg (n:Int)=some (ik n,()):=by unfold bg strconv_Itoa;rw[show rZ (n:Int)=true from r8.2 ⟨by omega,by omega⟩,Lib.itoa_nonneg];rfl
theorem cc{n:Nat}(h:n<=1000000000000000000):(ik n).size<=21:=by unfold ik;rw[gg,<-Lib.itoa_nonneg];exact Lib.itoa_length_le _ (by omega) (by omega)
theorem j0(a b c:ByteArray):ByteArray.append (ByteArray.append a b) c=ByteArray.append a (ByteArray.append b c):=by simp only[kW];exact ByteArray.append_assoc
theorem aS(a b:ByteArray):(ByteArray.append a b).size=a.size+b.size:=ByteArray.size_append
noncomputable def words:List ByteArray:=[ByteArray.mk #[112,108,97,99,101,100],ByteArray.mk #[101,120,116,101,110,100,101,100],ByteArray.mk #[116,97,107,101,110],ByteArray.mk #[102,101,116,99,104,101,100]]
theorem jj{d:Int}(h:1<=d/\d<=4):∃W:ByteArray,W.size<=8/\ah words (d-1)=true/\ae zS words (d-1)=W:=by
 have hc:d=1\/d=2\/d=3\/d=4:=by omega
 rcases hc with rfl|rfl|rfl|rfl
 ·exact⟨ByteArray.mk #[112,108,97,99,101,100],Nat.le_of_ble_eq_true rfl,rfl,rfl⟩
 ·exact⟨ByteArray.mk #[101,120,116,101,110,100,101,100],Nat.le_of_ble_eq_true rfl,rfl,rfl⟩
 ·exact⟨ByteArray.mk #[116,97,107,101,110],Nat.le_of_ble_eq_true rfl,rfl,rfl⟩
 ·exact⟨ByteArray.mk #[102,101,116,99,104,101,100],Nat.le_of_ble_eq_true rfl,rfl,rfl⟩
theorem words_eq:List.append (α:=ByteArray) (List.append (α:=ByteArray) (List.append (α:=ByteArray) (List.append (α:=ByteArray) ([]:List ByteArray) [ByteArray.mk #[112,108,97,99,101,100]]) [ByteArray.mk #[101,120,116,101,110,100,101,100]]) [ByteArray.mk #[116,97,107,101,110]]) [ByteArray.mk #[102,101,116,99,104,101,100]]=words:=rfl
noncomputable def iL(d:Int)(a b c e f g:Nat):ByteArray:=
 bif af .eql d 2 then ByteArray.append (ByteArray.append (ByteArray.append (ByteArray.append (ByteArray.append (ByteArray.append (ByteArray.append (ByteArray.append (ik a) (ByteArray.mk #[46])) (ik b)) (ByteArray.mk #[64])) (ik c)) (ByteArray.mk #[32])) (ae zS words (d-1))) (ByteArray.mk #[32])) (ik e)
 else ByteArray.append (ByteArray.append (ByteArray.append (ByteArray.append (ByteArray.append (ByteArray.append (ByteArray.append (ByteArray.append (ByteArray.append (ByteArray.append (ByteArray.append (ByteArray.append (ik a) (ByteArray.mk #[46])) (ik b)) (ByteArray.mk #[64])) (ik c)) (ByteArray.mk #[32])) (ae zS words (d-1))) (ByteArray.mk #[32])) (ik e)) (ByteArray.mk #[32])) (ik f)) (ByteArray.mk #[32])) (ik g)
section
variable {d:Int} {a b c e f g:Nat} (hok:fe ((a:Int),(b:Int),(c:Int),d,(e:Int),(f:Int),(g:Int))=true)
include hok
theorem yt:(1<=d/\d<=4)/\a<=1000000/\b<=1000000/\c<=1000000/\e<=1000000/\f<=1000000/\g<=1000000:=by obtain⟨h1,h2,h3,h4,h5,h6,h7⟩:=hD.1 hok;simp only at h1 h2 h3 h4 h5 h6 h7;omega
theorem qW:bt (a:Int) (b:Int) (c:Int) d (e:Int) (f:Int) (g:Int)=some (iL d a b c e f g,()):=by
 obtain⟨h4,la,lb,lc,le,lf,lg⟩:=yt hok;have za:=cc (n:=a) (by omega);have zb:=cc (n:=b) (by omega);have zc:=cc (n:=c) (by omega);have ze:=cc (n:=e) (by omega);have zf:=cc (n:=f) (by omega);have zg:=cc (n:=g) (by omega);have p1:(ByteArray.mk #[46]).size=1:=rfl;have p2:(ByteArray.mk #[64]).size=1:=rfl;have p3:(ByteArray.mk #[32]).size=1:=rfl;have hsub:aa .sub .i64 d 1=d-1:=bM (by omega) (by omega);obtain⟨W,zW,vp,sS⟩:=jj h4;unfold bt;refine(eg (ga _ _ _ _ _ _ _)).trans ?_;rw[hok];refine(cF rfl).trans ?_;refine(eg (er (n:=a) (by omega))).trans ?_;dsimp only;refine(cT (fits (by simp only[aS,p1,p2,p3];omega))).trans ?_;refine(eg (er (n:=b) (by omega))).trans ?_;dsimp only;refine(cT (fits (by simp only[aS,p1,p2,p3];omega))).trans ?_;refine(cT (fits (by simp only[aS,p1,p2,p3];omega))).trans ?_;refine(eg (er (n:=c) (by omega))).trans ?_;dsimp only;refine(cT (fits (by simp only[aS,p1,p2,p3];omega))).trans ?_;refine(cT (fits (by simp only[aS,p1,p2,p3];omega))).trans ?_;refine(fu rfl).trans ?_;rw[hsub,words_eq];refine(cT vp).trans ?_;refine(fu sS).trans ?_;refine(cT (fits (by simp only[aS,p1,p2,p3];omega))).trans ?_;refine(cT (fits (by simp only[aS,p1,p2,p3];omega))).trans ?_;refine(eg (er (n:=e) (by omega))).trans ?_;dsimp only;refine(cT (fits (by simp only[aS,p1,p2,p3];omega))).trans ?_;unfold iL;rw[sS];cases af .eql d 2 with
 |true=>rfl
 |false=>
 refine(cF rfl).trans ?_;refine(cT (fits (by simp only[aS,p1,p2,p3];omega))).trans ?_;refine(eg (er (n:=f) (by omega))).trans ?_;dsimp only;refine(cT (fits (by simp only[aS,p1,p2,p3];omega))).trans ?_;refine(cT (fits (by simp only[aS,p1,p2,p3];omega))).trans ?_;refine(fu rfl).trans ?_;refine(eg (er (n:=g) (by omega))).trans ?_;dsimp only;refine(cT (fits (by simp only[aS,p1,p2,p3];omega))).trans ?_;rfl
theorem qx:br (a:Int) (b:Int) (c:Int) d (e:Int) (f:Int) (g:Int)=some (iL d a b c e f g,()):=by
 obtain⟨h4,la,lb,lc,le,lf,lg⟩:=yt hok;have za:=cc (n:=a) (by omega);have zb:=cc (n:=b) (by omega);have zc:=cc (n:=c) (by omega);have ze:=cc (n:=e) (by omega);have zf:=cc (n:=f) (by omega);have zg:=cc (n:=g) (by omega);have p1:(ByteArray.mk #[46]).size=1:=rfl;have p2:(ByteArray.mk #[64]).size=1:=rfl;have p3:(ByteArray.mk #[32]).size=1:=rfl;have hsub:aa .sub .i64 d 1=d-1:=bM (by omega) (by omega);obtain⟨W,zW,vp,sS⟩:=jj h4;unfold br;refine(eg (fq _ _ _ _ _ _ _)).trans ?_;rw[hok];refine(cF rfl).trans ?_;rw[hsub,words_eq];refine(cT vp).trans ?_;refine(fu sS).trans ?_;refine(eg (ek (n:=a) (by omega))).trans ?_;dsimp only;refine(cT (fits (by simp only[aS,p1,p2,p3];omega))).trans ?_;refine(eg (ek (n:=b) (by omega))).trans ?_;dsimp only;refine(cT (fits (by simp only[aS,p1,p2,p3];omega))).trans ?_;refine(cT (fits (by simp only[aS,p1,p2,p3];omega))).trans ?_;refine(eg (ek (n:=c) (by omega))).trans ?_;dsimp only;refine(cT (fits (by simp only[aS,p1,p2,p3];omega))).trans ?_;refine(cT (fits (by simp only[aS,p1,p2,p3];omega))).trans ?_;refine(fu rfl).trans ?_;refine(cT (fits (by simp only[aS,p1,p2,p3];omega))).trans ?_;refine(cT (fits (by simp only[aS,p1,p2,p3];omega))).trans ?_;refine(eg (ek (n:=e) (by omega))).trans ?_;dsimp only;refine(cT (fits (by simp only[aS,p1,p2,p3];omega))).trans ?_;unfold iL;rw[sS,show af .neq d 2=Bool.not (af .eql d 2)from rfl];cases af .eql d 2 with
 |true=>rfl
 |false=>
 refine(cT rfl).trans ?_;refine(eg (ek (n:=f) (by omega))).trans ?_;dsimp only;refine(cT (fits (by simp only[aS,p1,p2,p3];omega))).trans ?_;refine(cT (fits (by simp only[aS,p1,p2,p3];omega))).trans ?_;refine(eg (ek (n:=g) (by omega))).trans ?_;dsimp only;refine(cT (fits (by simp only[aS,p1,p2,p3];omega))).trans ?_;refine(cT (fits (by simp only[aS,p1,p2,p3];omega))).trans ?_;refine(fu rfl).trans ?_;simp only[cond_false,j0]
end
theorem hU(a b c d e f g:Int):Sm Any (bt a b c d e f g) (br a b c d e f g):=by
 cases hok:fe (a,b,c,d,e,f,g)with
 |false=>unfold bt br;rw[ga,fq,hok];exact .ret trivial
 |true=>
  obtain⟨h1,h2,h3,h4,h5,h6,h7⟩:=hD.1 hok;simp only at h1 h2 h3 h4 h5 h6 h7;obtain⟨a,rfl⟩:∃n:Nat,a=(n:Int):=⟨a.toNat,by omega⟩
  obtain⟨b,rfl⟩:∃n:Nat,b=(n:Int):=⟨b.toNat,by omega⟩
  obtain⟨c,rfl⟩:∃n:Nat,c=(n:Int):=⟨c.toNat,by omega⟩
  obtain⟨e,rfl⟩:∃n:Nat,e=(n:Int):=⟨e.toNat,by omega⟩
  obtain⟨f,rfl⟩:∃n:Nat,f=(n:Int):=⟨f.toNat,by omega⟩
  obtain⟨g,rfl⟩:∃n:Nat,g=(n:Int):=⟨g.toNat,by omega⟩
  exact⟨_,qW hok,qx hok,trivial⟩
theorem ey(a b c d e f g:Int):b8 a b c d e f g=some (true,()):=by
 unfold b8 ej;obtain⟨⟨y,u⟩,y1,y2,_⟩:=hU a b c d e f g;simp only[y1,y2,Option.bind_some];have:sA .neq y y=false:=by unfold sA;simp
 rw[this];rfl
end Go.Fn

