import Derived.Test.YtdbcclejeoljoaaGreatDoorRD
import Derived.Shelf.SlSortCmp.NoneTotal
import Derived.Lib.SlicesCompact
import Derived.Sort.AssemblyPlain
import Derived.Shelf.LaysM
import Derived.Shelf.Strconv.Itoa3
import Derived.Lib.AppendIntMem
import Derived.Lib.LaidTab
import Derived.Lib.ItoaLen
import Derived.Lib.ItoaMem
import Derived.Shelf.Spec.SlicesInsertGrow
import Derived.Shelf.Spec.SlicesGrow
/- Plain functions that stand for Go functions, and what they answer. Conditions: none. -/
set_option linter.all false
noncomputable section
namespace Go.R
def xC:=@decide_true
def sC:=@decide_false
def fu:=@Bool.not_false
def zb:=@decide_eq_false
def xD:=@decide_eq_true
def zc:=@of_decide_eq_false
def zd:=@Sum.elim_inl
def um:=@List.set_set
def uo:=@List.getD_eq_getElem?_getD
def uq:=@Int.le_refl
def ur:=@List.not_mem_nil
def uu:=@Bool.true_and
def eL:=@List.take_length
def vI:=@Bool.false_and
def xL:=@Sum.elim_inr
def xM:=@Bool.false_eq_true
def uv:=@List.pairwise_append
def xN:=@decide_eq_decide
def xO:=@Bool.and_true
def xP:=@List.mem_range
def xQ:=@Int.toNat_natCast
def vJ:=@List.foldl_cons
def xR:=@List.mem_cons_self
def xS:=@decide_eq_false_iff_not
def xT:=@Bool.eq_iff_iff
def xU:=@Bool.and_false
def xV:=@List.getElem_mem
def aX:=@List.mem_append_left
def vK:=@List.mem_filter
def Bp:=@Bool.not_eq_true
def Bq:=@List.filter_cons
def Br:=@List.foldl_append
def zX:=@List.map_append
def Bs:=@List.take_zero
def Bt:=@List.length_drop
def YK:=@List.replicate_zero
def ae5:=@Option.getD_some
def Wa:=@Bool.and_eq_false_iff
def abh:=@List.drop_length
def acZ:=@List.mem_iff_getElem
def abi:=@List.pairwise_singleton
def akf:=@List.length_nil
def ac0:=@List.take_append_drop
def ac1:=@Bool.not_eq_false'
def ahy:=@List.length_filter_le
def ae6:=@List.pairwise_iff_getElem
def ac2:=@List.range_succ
def ahz:=@Prod.mk.injEq
def ahA:=@Int.add_emod
def ac3:=@List.mem_of_mem_take
def ac4:=@List.take_of_length_le
def akg:=@Option.some.injEq
def ahB:=@Array.extract_size
def ac5:=@Bool.false_or
def ac6:=@Int.tmod_eq_emod_of_nonneg
def ac7:=@Int.toNat_of_nonneg
def ac8:=@List.drop_eq_getElem_cons
def ahC:=@List.drop_zero
def abj:=@List.flatten_append
def abk:=@List.mem_of_mem_drop
def ac9:=@List.take_add_one
def ae7:=@Bool.beq_eq_decide_eq
def ada:=@Bool.eq_false_iff
def ae8:=@List.filter_append
def adb:=@List.flatten_nil
def akh:=@List.length_range
def ahD:=@ByteArray.size_append
def ae9:=@List.drop_append_of_le_length
def afa:=@List.drop_of_length_le
def ahE:=@List.getElem?_range
def aki:=@List.mem_or_eq_of_mem_set
open Go.Shelf Go.Proofs Go.Sort
abbrev E7:=Int×Int×Int×Int×Int×Int×Int
abbrev KI:K:=.val (.int .i64)
abbrev Cs7:ar:=.cons (.int .i64) (.cons (.int .i64) (.cons (.int .i64) (.cons (.int .i64) (.cons (.int .i64) (.cons (.int .i64) (.cons (.int .i64) .nil))))))
def Vo(a:E7->E7->Int)(l:List E7):List E7:=(pdq (ltOf a) l.toArray 0 l.toArray.size (Lib.bitLen l.toArray.size) true true).toList
def ahp(e g:Nat)(a:E7->E7->Int):hJ:=⟨true,[.one (.arr e Cs7 false),.fn g []],[],λx=>bif dF (α:=E7) x.1 then some (Vo a x.1,())else none⟩
def Rp(x:E7):List Value:=[.int .i64 x.1,.int .i64 x.2.1,.int .i64 x.2.2.1,.int .i64 x.2.2.2.1,.int .i64 x.2.2.2.2.1,.int .i64 x.2.2.2.2.2.1,.int .i64 x.2.2.2.2.2.2]
def ahR(x:E7):(Rp x).length=7:=rfl
def ahS(x:E7):∀v∈Rp x,v.oneCell'=true:=by intro v a;simp only[Rp,ck,ur,or_false]at a;rcases a with rfl|rfl|rfl|rfl|rfl|rfl|rfl <;> rfl
def ap8{w:World}{s:aq}{r:Nat->Md}{get:Nat->Option Value}{x:E7}:Cs7.R w s r get 0 x↔∀j,j<7->get j=some (Rp x)[j]!:=by
 constructor
 .rintro⟨⟨t,i,a⟩,⟨u,k,b⟩,⟨v,l,c⟩,⟨y,m,d⟩,⟨v4,n,e⟩,⟨z,o,f⟩,⟨v6,p,g⟩,_⟩ j q;match j,q with
  |0,_=>exact i.trans (fK some a)
  |1,_=>exact k.trans (fK some b)
  |2,_=>exact l.trans (fK some c)
  |3,_=>exact m.trans (fK some d)
  |4,_=>exact n.trans (fK some e)
  |5,_=>exact o.trans (fK some f)
  |6,_=>exact p.trans (fK some g)
 .intro h;exact⟨⟨_,h 0 (by decide),rfl⟩,⟨_,h 1 (by decide),rfl⟩,⟨_,h 2 (by decide),rfl⟩,⟨_,h 3 (by decide),rfl⟩,⟨_,h 4 (by decide),rfl⟩,⟨_,h 5 (by decide),rfl⟩,⟨_,h 6 (by decide),rfl⟩,trivial⟩
def toK(a:Nat)(c:aq):aq:=λb=>match c b with
 |some (0,q)=>some (0,q)
 |some (1,[])=>some (a,[])
 |_=>none
def acX{c:Nat}{a:aq}{b:Nat}(h:my a b):toK c a b=a b:=by unfold toK;rcases h with h|⟨q,h⟩ <;> simp only[h]
def ab3{c:Nat}{a:aq}{b:Nat}{k:Key}(h:toK c a b=some k):(∃q,k=(0,q)/\a b=some (0,q))\/(k=(c,[])/\a b=some (1,[])):=by
 grind[toK]
def ajI{f:Nat}(l:f≠0){d:aq}(c:∀b a k,d b=some k->d a=some k->b=a):∀b a k,toK f d b=some k->toK f d a=some k->b=a:=by
 intro b a k i j;rcases ab3 i with ⟨q,e,o⟩|⟨e,o⟩ <;> rcases ab3 j with ⟨m,h,g⟩|⟨h,g⟩
 .grind
 .grind
 .grind
 .exact c b a _ o g
def aby{α:Type}[Inhabited α](d:Array α)(z:α){i:Nat}(h:i<d.size):d.toList.getD i z=d[i]!:=by
 grind
def ahM {P:Program} {g:Nat} {k:E7->E7->Int} {fn:fE real (([Sh.agg (List.replicate 7 KI),Sh.agg (List.replicate 7 KI)].map Sh.ks).flatten)->Option (fE real (([Sh.one KI].map Sh.ks).flatten++(dY true [Sh.agg (List.replicate 7 KI),Sh.agg (List.replicate 7 KI)]++(eC [Sh.agg (List.replicate 7 KI),Sh.agg (List.replicate 7 KI)]).flatten)))}
  (C:ec P g ⟨true,[.agg (List.replicate 7 KI),.agg (List.replicate 7 KI)],[.one KI],fn⟩)
  (l:∀x y:E7,fn (x.1,x.2.1,x.2.2.1,x.2.2.2.1,x.2.2.2.2.1,x.2.2.2.2.2.1,x.2.2.2.2.2.2,y.1,y.2.1,y.2.2.1,y.2.2.2.1,y.2.2.2.2.1,y.2.2.2.2.2.1,y.2.2.2.2.2.2,())=some (k x y,()))
  {w:World} {t:aq} (A:zQ w t) {b:Nat} (B:t b=some (1,[])) (size:Nat):CmpLays P g #[] Rp 7 k b 0 size w:=by
 intro m os f _ x y;have n:zQ (sortWorldK Rp 7 w b 0 m f os) aq.ig:=λq G=>by
  obtain⟨u,r,T,mm,z⟩:=A q G;have o:q.1≠b:=λe=>by rw[e,B]at r;cases r
  have p:(putRowK Rp 7 (Sort.ahead w m) b 0 f).heap.size=w.heap.size:=by rw[size_putRowK];rfl
  refine⟨?_,rfl,T,mm,?_⟩
  .show q.1<((putRowK Rp 7 (Sort.ahead w m) b 0 f).heap++os).size
   grind
  .show((putRowK Rp 7 (Sort.ahead w m) b 0 f).heap++os)[q.1]? = _;rw[sR (by rw[p];exact u)];show((Sort.ahead w m).heap.modify b _)[q.1]? = _;rw[Array.getElem?_modify,dS (dG o)];exact z
 have h:=C.calls (sortWorldK Rp 7 w b 0 m f os) aq.ig [.agg (Rp x).toArray,.agg (Rp y).toArray] (x.1,x.2.1,x.2.2.1,x.2.2.2.1,x.2.2.2.2.1,x.2.2.2.2.2.1,x.2.2.2.2.2.2,y.1,y.2.1,y.2.2.1,y.2.2.2.1,y.2.2.2.2.1,y.2.2.2.2.2.1,y.2.2.2.2.2.2,()) (k x y,()) n
  (λ_ _ _ h=>nomatch h) (λ_ _ h=>nomatch h) ⟨rfl,⟨_,rfl,rfl,rfl,rfl,rfl,rfl,rfl,rfl,trivial⟩,rfl,⟨_,rfl,rfl,rfl,rfl,rfl,rfl,rfl,rfl,trivial⟩,rfl,rfl⟩ (l x y)
 refine h.mono λe a F=>?_;obtain⟨v,H,rfl,c,_,_,j,_⟩:=F;obtain⟨_,J,d,j⟩:=j;injection d with d _
 subst d;have j:v=.int .i64 (k x y):=j;refine⟨by rw[j],?_⟩;generalize sortWorldK Rp 7 w b 0 m f os=W at c;refine⟨a.drawn-W.drawn,a.heap.extract W.heap.size a.heap.size,?_⟩;have hd:W.drawn+(a.drawn-W.drawn)=a.drawn:=by have:=c.output.2;omega
 have D:W.heap++a.heap.extract W.heap.size a.heap.size=a.heap:=by
  apply Array.ext_getElem?;intro i;by_cases s:i<W.heap.size
  .rw[sR s];exact(c.block i s (.inl rfl)).1.symm
  .rw[Array.getElem?_append_right (by omega),Array.getElem?_extract];have I:=c.size;by_cases E:i<a.heap.size
   .rw[cj (by omega)];congr 1;omega
   .rw[dS (by omega),Array.getElem?_eq_none (by omega)]
 show a={ W.drewN (a.drawn-W.drawn)with heap:=W.heap++a.heap.extract W.heap.size a.heap.size }
 rw[D];show a={ heap:=a.heap,tape:=W.tape,drawn:=W.drawn+(a.drawn-W.drawn),os:=W.os,output:=W.output }
 rw[hd,<-c.tape,<-c.os,<-c.output.1]
def ag1 {P:Program} {T:Ren} (L:SlLaysF0.n6 P T) (G:∀w,(isAgg (T.t 24)).run P w=.ok true w) (N:∀w,(Go.sizeOf (T.t 24)).run P w=.ok 7 w) (e:Nat) {l:E7->E7->Int} (hO:SWO (ltOf l)) {g:Nat} (eg:∀args w,(callFunc g args).run P w=.ok (.enter g args) w)
  {w:World} {v:aq} (r:∀b k,v b=some k->b<w.heap.size) (H:∀b size,v b=some (1,[])->CmpLays P g #[] Rp 7 l b 0 size w) (R:Nat) (x:List E7) (X:x.length<=1073741824) (u:Value) (hr:(Ty.sl e Cs7).R w v (.flat (1,[])) u x):
  Calls P (T.f 6) #[u,.func (.func g) #[] #[]] w λU Q=>U=.returned (.tuple #[])/\cH v w (toK R v) Q/\(∀b k,toK R v b=some k->b<Q.heap.size)/\(Ty.sl e Cs7).R Q (toK R v) (.flat (R,[])) u (Vo l x:List E7):=by
 obtain⟨a,n,c,rfl,f,Y,I,E⟩:=hr;have f:x.length=n:=f;have p:∀b k,toK R v b=some k->b<w.heap.size:=λb k h=>by rcases ab3 h with ⟨q,_,o⟩|⟨_,o⟩ <;> exact r b _ o
 have s:(Vo l x).length=x.length:=by
  have h:=pdq_sorts (ltOf l) hO x.toArray 0 x.toArray.size (Lib.bitLen x.toArray.size) true true (kR _) (az _) (Or.inl rfl);have h:=h.1.1
  grind[Vo]
 by_cases hn:n=0
 .subst hn;have hx0:x=[]:=cK.1 f;refine(AnyF.slices_SortFunc_none L a c (.func (.func g) #[] #[]) w).mono ?_;rintro U Q ⟨rfl,rfl⟩;refine⟨rfl,⟨rfl,rfl,⟨rfl,az _⟩,az _,λb _ hb=>⟨rfl,acX hb⟩⟩,p,?_⟩;refine⟨a,0,c,rfl,s.trans (by rw[hx0];rfl),kR _,?_,λi _ B=>absurd B (vi _)⟩;rcases I with h|⟨b,arr,h1,V,h3,A⟩
  .exact .inl h
  .exact .inr ⟨b,arr,h1,V,h3,by unfold toK;simp only[A]⟩
 .rcases I with ⟨_,h⟩|⟨b,arr,rfl,V,h3,A⟩
  .exact absurd h hn
  .subst f;have hH:HoldsK Rp 7 w b 0 x.toArray:=by
    intro t S;rw[size_flatK]at S;have S:t<x.length*7:=S;have B:t / 7<x.length:=by omega
    have hj:t % 7<7:=Nat.mod_lt _ (by decide);refine⟨?_,?_⟩
    .have:=ap8.1 (E (t / 7) ⟨b,0,none⟩ B rfl) (t % 7) hj;have this:w.cell? ⟨b,0+t / 7*7+t % 7,none⟩=some (Rp (x.getD (t / 7) (jk Cs7)))[t % 7]!:=this;rw[get_flatK _ _ _ _ S,getElem!_pos x.toArray (t / 7) B,show 0+t=0+t / 7*7+t % 7 by omega,this]
     grind
    grind[World.frozen?]
   refine(AnyQ.slices_SortFunc_eq L 7 G N Rp ahR ahS l hO g #[] b 0 c x.toArray w eg (H b _ A) hH (r b _ A) (Nat.lt_of_le_of_lt (show x.toArray.size<=1073741824 from X) (by decide))).mono ?_;rintro U Q ⟨rfl,q,O,rfl⟩;have Ba:(pdq (ltOf l) x.toArray 0 x.toArray.size (Lib.bitLen x.toArray.size) true true).size=x.toArray.size:=by
    grind[Vo]
   have C:=holdsK_sortWorldK Rp 7 w b 0 q x.toArray (pdq (ltOf l) x.toArray 0 x.toArray.size (Lib.bitLen x.toArray.size) true true) O (r b _ A) hH Ba;have F:∀i,i<x.length->(Vo l x).getD i (jk Cs7)=(pdq (ltOf l) x.toArray 0 x.toArray.size (Lib.bitLen x.toArray.size) true true)[i]!:=λi B=>aby (α:=E7) _ (jk Cs7) (by rw[Ba];exact B);revert s C F Ba;generalize Vo l x=z;generalize pdq (ltOf l) x.toArray 0 x.toArray.size (Lib.bitLen x.toArray.size) true true=d2;intro s Ba C F;have Z:∀d,my v d->d≠b:=λd m he=>by subst he;exact m.ne A (by decide)
   have hsz:(putRowK Rp 7 (Sort.ahead w q) b 0 d2).heap.size=w.heap.size:=by rw[size_putRowK];rfl
   have W:=r b _ A;have hold:∀d,d<w.heap.size->(sortWorldK Rp 7 w b 0 q d2 O).heap[d]? = (putRowK Rp 7 (Sort.ahead w q) b 0 d2).heap[d]?:=λd m=>by
    show((putRowK Rp 7 (Sort.ahead w q) b 0 d2).heap++O)[d]? = _
    grind
   have K:w.heap.size<=(sortWorldK Rp 7 w b 0 q d2 O).heap.size:=by
    grind
   refine⟨rfl,⟨rfl,rfl,⟨rfl,fm _ _⟩,K,λd M m=>⟨?_,acX m⟩⟩,λd k hk=>c6 (p d k hk) K,?_⟩
   .rw[hold d M];show((Sort.ahead w q).heap.modify b _)[d]? = _;rw[Array.getElem?_modify,dS (dG (Z d m))];rfl
   .refine⟨some ⟨b,0,none⟩,x.length,c,rfl,s,Y,?_,λi ad B D=>?_⟩
    .refine .inr ⟨b,putCells id 0 (flatK Rp 7 d2) arr,rfl,?_,?_,by unfold toK;simp only[A]⟩
     .rw[hold b W];show((Sort.ahead w q).heap.modify b _)[b]? = _;rw[Array.getElem?_modify,cj rfl];show Option.map _ w.heap[b]? = _;rw[V];rfl
     grind[putCells]
    .injection D with D
     subst D;refine ap8.2 λj hj=>?_;show(sortWorldK Rp 7 w b 0 q d2 O).cell? ⟨b,0+i*7+j,none⟩=_;have hd3:d2.size=x.length:=Ba;have J:i*7+j<d2.size*7:=by omega
     have:=(C (i*7+j) (by rw[size_flatK];exact J)).1;rw[get_flatK _ _ _ _ J,show(i*7+j) / 7=i by omega,show(i*7+j) % 7=j by omega]at this;rw[show 0+i*7+j=0+(i*7+j)by omega,this];exact fK (λy:E7=>some (Rp y)[j]!) (F i B).symm
def ajE {P:Program} {l:Ren} (L:SlLaysF0.n6 P l) (h:∀w,(isAgg (l.t 24)).run P w=.ok true w) (j:∀w,(Go.sizeOf (l.t 24)).run P w=.ok 7 w) (e:Nat) {k:E7->E7->Int} (H:SWO (ltOf k)) {g:Nat} {fn}
  (r:ec P g ⟨true,[.agg (List.replicate 7 KI),.agg (List.replicate 7 KI)],[.one KI],fn⟩)
  (m:∀x y:E7,fn (x.1,x.2.1,x.2.2.1,x.2.2.2.1,x.2.2.2.2.1,x.2.2.2.2.2.1,x.2.2.2.2.2.2,y.1,y.2.1,y.2.2.1,y.2.2.2.1,y.2.2.2.2.1,y.2.2.2.2.2.1,y.2.2.2.2.2.2,())=some (k x y,())):ec P (l.f 6) (ahp e g k):=by
 obtain⟨R,J,E⟩:=L.f6;refine⟨⟨_,_,E,J,rfl⟩,?_⟩;intro w N M x y G i p c a;obtain⟨x,S⟩:=x;have a:(bif dF (α:=E7) x then some (Vo k x,())else none)=some y:=a;cases d:dF (α:=E7) x with
 |false=>rw[d]at a;cases a
 |true=>
  rw[d]at a;injection a with a
  subst a;match M,c with
  |[u,v],c=>
  obtain⟨_,⟨T,f,K⟩,_,⟨s,n,F,_⟩,_⟩:=c;injection f with f _
  subst f;cases s with
  |cons _ _=>exact F.elim
  |nil=>
  subst n;have o:List.length (α:=E7) x<=1073741824:=by
   have q:decide (((List.length (α:=E7) x:Nat):Int)<=limit)=true:=d
   grind[limit]
  obtain⟨t,O,z,A,B⟩:=r.there;refine(ag1 L h j e H (enters_of z A B) p (λb size I=>ahM r m G I size) 2 x o u K).mono ?_;rintro Q U ⟨rfl,q,C,D⟩;exact⟨_,toK 2 N,rfl,q,ajI (by decide) i,C,⟨[],rfl,rfl,rfl⟩,⟨λ_=>⟨D,trivial⟩,rfl,rfl⟩⟩
end Go.R
namespace Go.Fn
open Go.R
abbrev YcP:=Int×Int
abbrev NX:=List YcP
abbrev Kz:=List Int
abbrev QE:=Int×Int×Int×Bool
abbrev Lj:=List QE
abbrev YbU:=Int×Kz×Lj
abbrev RB:=List YbU
abbrev YaO:=Int×YcP
abbrev YbB:=Int×Int×YaO
abbrev J4:=Int×Int×YbB
abbrev Js:=List J4
abbrev YaA:=NX×NX×RB×Int×Int×Bool×Bool×Bool×Int×Int×Js
abbrev YaW:=Int×Int×Int×Int×Int×Int×J4
abbrev Kj:=List YaW
abbrev YbC:=Int×Int×Int×QE
abbrev JI:=List YbC
abbrev LN:=Int×Unit
abbrev KB:=List YaA
abbrev YbY:=Js×LN
abbrev YaH:=Int×Int×Int×Int×Int×Int×Int×Int×Int×Int×Int×KB×Kj×JI×YbY
abbrev YaV:=Bool×Unit
abbrev J8:=Option YaV
abbrev YbS:=Js×Unit
abbrev YeI:=Int×KB×Kj×JI×YbS
abbrev YaK:=Int×Int×Int×Int×Int×Int×Int×Int×Int×Int×YeI
abbrev YdL:=Int×Int×Int×Int×ByteArray×YbC
abbrev YaL:=List YdL
abbrev YcJ:=Unit⊕Empty
abbrev YaN:=Option (LN⊕YaV⊕YcJ)
abbrev Nt:=Int×LN
abbrev YaT:=List (Int×Bool)
abbrev YcS:=Int×Nt
abbrev YaU:=Int×Int×Int×Int×Int×Int×Int×Int×Int×Int×Int×Int×KB×Kj×JI×Js×Int×Int×Int×Int×Int×Int×Int×Int×Int×Int×Int×Int×Int×Int×Int×ByteArray×Int×Int×Int×Int×Int×Int×Bool×Int×Int×Int×Int×Int×Int×Int×Int×Int×Int×Int×Int×Int×Int×Int×Int×Bool×Bool×Bool×YcS
abbrev Oz:=Option LN
abbrev YbQ:=Int×Int×YcS
abbrev YaY:=Int×Int×Int×YbQ
abbrev YaZ:=Option (LN⊕LN⊕YcJ)
abbrev YdV:=LN⊕Empty
abbrev YbA:=Option (Nt⊕LN⊕YdV)
abbrev YcL:=Bool×Bool×YaV
abbrev YbD:=Option (Int×Int×Bool×YcL)
abbrev YdM:=Int×Int×Int×YaY
abbrev YbE:=Int×Int×Int×Int×Int×Int×Int×Int×Int×Int×Int×Int×KB×Kj×JI×Js×YdM⊕Int×Int×Int×Int×Int×Int×Int×Int×Int×Int×Int×KB×Kj×JI×Js×Int×Int×Int×Int×Int×Int×Int×Int×Int×Int×Int×YdM⊕Empty
abbrev YcC:=List Bool
abbrev YbF:=List YcC
abbrev YbG:=Option (Nt⊕YdV)
abbrev YbH:=List YaO
abbrev YbI:=Int×Int×Int×Int×Int×Int×Int×Int×Int×Int×Int×KB×Kj×JI×Js×YaH
abbrev YbJ:=ByteArray×Unit
abbrev YcK:=Lj×Unit
abbrev YbK:=Int×Kz×YcK
abbrev YbL:=Option (Nt⊕YaV⊕YdV)
abbrev YcN:=Kz×Unit
abbrev YbM:=Int×Int×Int×Int×Int×Int×Int×Int×Int×Int×Int×KB×Kj×JI×Js×YcN
abbrev YbN:=Int×Int×Int×YaV
abbrev YcM:=Kz×LN
abbrev YbO:=Int×Int×Int×Int×Int×Int×Int×Int×Int×Int×Int×KB×Kj×JI×Js×Int×Int×Int×Int×Int×Int×Int×Int×Int×Int×Int×KB×Kj×JI×Js×YcM
abbrev YbP:=Option (Int×Int×Bool×Bool×Bool×Int×YaV)
abbrev YbR:=Option YaH
abbrev YbT:=Option (YbI⊕Int×Int×Int×Int×Int×Int×Int×Int×Int×Int×Int×KB×Kj×JI×Js×YaK⊕Empty)
abbrev YbV:=NX×Unit
abbrev YbW:=RB×Unit
abbrev YdU:=Bool×LN
abbrev YbX:=Int×Int×Int×YdU
abbrev YbZ:=List YaT
abbrev YeD:=KB×LN
abbrev YcA:=Int×Int×Int×Int×Int×Int×Int×Int×Int×Int×Int×KB×Kj×JI×Js×YeD
abbrev YcB:=Int×Int×Int×Int×Int×Int×Int×Int×Int×Int×Int×KB×Kj×JI×Js×Kz×YaH
abbrev YcD:=List YbB
abbrev YcE:=RB×LN
abbrev YcF:=Option (Js×YaV)
abbrev YcG:=Option (YbY⊕Js×YaV⊕YbS⊕Empty)
abbrev YdC:=YbH×LN
abbrev YdO:=YbH×Unit⊕Empty
abbrev YcH:=Option (YdC⊕YdO)
abbrev YcI:=Lj×LN
abbrev YcO:=Kz×Nt
abbrev YcQ:=NX×NX×RB×Int×Int×Bool×Bool×Bool×Int×Int×YbY
abbrev YcR:=YaT×LN
abbrev YcT:=Option (YcE⊕YbW⊕Empty)
abbrev YcU:=Option (YbH×Unit)
abbrev YcV:=JI×Unit
abbrev YcW:=Option (Int×YaV)
abbrev YcX:=Option (Int×YbQ)
abbrev YcY:=KB×Unit
abbrev YcZ:=Kj×Unit
abbrev YdA:=YaL×Unit
abbrev YdB:=NX×YbV
abbrev YdD:=Option (Int×Int×YcL)
abbrev YeH:=Js×Int×YaY
abbrev YdE:=Option (YeH⊕Js×YaY⊕Empty)
abbrev YdF:=Option YbK
abbrev YdG:=Option YbJ
abbrev YdH:=Int×Kz×Lj×Int×Kz×Lj×YcD×LN
abbrev YdI:=NX×LN
abbrev YdJ:=Int×Int×YbN
abbrev YdK:=Int×Kz×YcI
abbrev YdN:=Int×Int×Int×YbX
abbrev YdP:=Option (Kz×YaV)
abbrev YdQ:=Option (Int×YaK)
abbrev YdR:=Option (Int×YbJ⊕YbJ⊕Empty)
abbrev YdS:=JI×LN
abbrev YdT:=List Lj
abbrev YdW:=Option (Int×Kz×Lj×YaV)
abbrev YdX:=Option (YcI⊕YcK⊕Empty)
abbrev YdY:=Int×Kz×Lj×YbK⊕Empty
abbrev YdZ:=Option (YbJ⊕YbJ⊕Empty)
abbrev YeA:=Option YbS
abbrev YeB:=Option YbN
abbrev YeC:=Option YaK
abbrev YeE:=Kj×LN
abbrev YeF:=Option (YcR⊕YaV⊕YcJ)
abbrev YeG:=Option (Bool×Bool×YcL)
abbrev YeJ:=Int×Int×Int×Int×YdS
def kS:J4:=(0,0,0,0,0,0,0)
def Wj(a b c d e f g:Int):Option (Int×Int×YbQ):=some (a,b,c,d,e,f,g,())
def bS(a b c:Int):J8:=cond (ak .geq a b) (some (ak .leq a c,())) (some (false,()))
def SP(a b c d e f g:Int):J8:=(bS a 0 5).bind λh=>letI i:=some (false,());cond h.1 ((bS b 1 999).bind λj=>cond j.1 ((bS c 1 100000).bind λk=>cond k.1 ((bS d 1 4).bind λl=>cond l.1 ((bS e 1 999).bind λm=>cond m.1 ((bS f 0 20000).bind λn=>cond n.1 ((bS g 0 20000).bind λo=>some (o.1,())) i) i) i) i) i) i
def ct(a b c:Int):J8:=cond (ak .geq a b) (some (ak .leq a c,())) (some (false,()))
def I9(a:Int):J8:=(ct a 0 20000).bind λb=>some (b.1,())
def Su(a b c d e f g:Int):J8:=(ct a 0 5).bind λh=>letI i:=some (false,());cond h.1 ((ct b 1 999).bind λj=>cond j.1 ((ct c 1 100000).bind λk=>cond k.1 ((ct d 1 4).bind λl=>cond l.1 ((ct e 1 999).bind λm=>cond m.1 ((I9 f).bind λn=>cond n.1 ((I9 g).bind λo=>some (o.1,())) i) i) i) i) i) i
def Nz(a:Js)(b:Int):Oz:=letI c:=aa .sub .i64 b (bw a);cond (ak .lss c 0) (some (-1,())) (some (c,()))
def MJ(a:YbS)(b:YbY):Option (YbY⊕YbS⊕Empty):=letI c:=b.2.1;letI d:=ae kS a.1 c;letI e:=d.2.2.2;cond (ak .lss c (bw a.1)) (cond (aZ a.1 c) ((Wj d.1 d.2.1 d.2.2.1 e.1 e.2.1 e.2.2.1 e.2.2.2).bind λf=>letI g:=f.2.2.2;cond (aZ b.1 c) (some (.inl (cS b.1 c (f.1,f.2.1,f.2.2.1,g.1,g.2.1,g.2.2.1,g.2.2.2.1),aa .add .i64 c 1,()))) none) none) (some (.inr (.inl (b.1,()))))
def MK k x:=iter (MJ k) big x
def NB(a:Js):YeA:=letI b:=(0:Int);cond (lu (bw a)) ((MK (a,()) (nw (bw a) (b,b,b,b,b,b,b),b,())).bind λc=>Sum.elim (λd=>some (d.1,())) (λd=>Empty.elim d) c) none
def PE(a:YbS)(b:LN):YaN:=letI c:=ae kS a.1 b.1;letI d:=c.2.2;cond (ak .lss b.1 (bw a.1)) (cond (aZ a.1 b.1) ((SP c.1 c.2.1 d.1 d.2.1 d.2.2.1 d.2.2.2.1 d.2.2.2.2).bind λe=>letI f:=(false,());letI g:=ak .gtr b.1 0;letI h:=aa .sub .i64 b.1 1;letI i:=(aa .add .i64 b.1 1,());letI j:=aZ a.1 h;letI k:=ae kS a.1 h;letI l:=ak .eql c.1 k.1;letI m:=ak .leq c.2.1 k.2.1;letI n:=ak .leq d.1 k.2.2.1;cond (Bool.not e.1) (some (.inr (.inl f))) (cond g (cond j (cond (ak .lss c.1 k.1) (some (.inr (.inl f))) (cond g (cond j (cond l (cond j (cond m (some (.inr (.inl f))) (cond j (cond n (some (.inr (.inl f))) (some (.inl i))) none)) none) (some (.inl i))) none) (some (.inl i)))) none) (cond g (cond j (cond l (cond j (cond m (some (.inr (.inl f))) (cond j (cond n (some (.inr (.inl f))) (some (.inl i))) none)) none) (some (.inl i))) none) (some (.inl i))))) none) (some (.inr (.inr (.inl ()))))
def PF k x:=iter (PE k) big x
def Jz(a:Js):J8:=cond (ak .gtr (bw a) 60) (some (false,())) ((PF (a,()) (0,())).bind λb=>Sum.elim (λc=>some (c.1,())) (λc=>Sum.elim (λ_=>some (true,())) (λd=>Empty.elim d) c) b)
def OK(a:Js×YbY)(b:LN):YaN:=letI c:=ae kS a.2.1 b.1;letI d:=c.2.2;cond (ak .lss b.1 a.2.2.1) (cond (aZ a.2.1 b.1) ((Su c.1 c.2.1 d.1 d.2.1 d.2.2.1 d.2.2.2.1 d.2.2.2.2).bind λe=>letI f:=(false,());letI g:=aa .sub .i64 b.1 1;letI h:=(aa .add .i64 b.1 1,());letI i:=ae kS a.1 g;cond (Bool.not e.1) (some (.inr (.inl f))) (cond (ak .eql b.1 0) (some (.inl h)) (cond (aZ a.1 g) (cond (ak .lss c.1 i.1) (some (.inr (.inl f))) (cond (ak .eql c.1 i.1) (cond (ak .leq c.2.1 i.2.1) (some (.inr (.inl f))) (cond (ak .leq d.1 i.2.2.1) (some (.inr (.inl f))) (some (.inl h)))) (some (.inl h)))) none))) none) (some (.inr (.inr (.inl ()))))
def OL k x:=iter (OK k) big x
def Jx(a:Js):J8:=cond (ak .gtr (bw a) 60) (some (false,())) ((OL (a,a,bw a,()) (0,())).bind λb=>Sum.elim (λc=>some (c.1,())) (λc=>Sum.elim (λ_=>some (true,())) (λd=>Empty.elim d) c) b)
def SG(a b c d e f g h i j k l m n:Int):J8:=letI o:=some (false,());cond (ak .neq a h) o (cond (ak .neq b i) o (cond (ak .neq c j) o (cond (ak .neq d k) o (cond (ak .neq e l) o (cond (ak .neq f m) o (cond (ak .neq g n) o (some (true,()))))))))
def Qg(a:Js×YbS)(b:LN):YaN:=letI c:=ae kS a.1 b.1;letI d:=ae kS a.2.1 b.1;letI e:=c.2.2.2;letI f:=d.2.2.2;cond (ak .lss b.1 (bw a.1)) (cond (aZ a.1 b.1) (cond (aZ a.2.1 b.1) ((SG c.1 c.2.1 c.2.2.1 e.1 e.2.1 e.2.2.1 e.2.2.2 d.1 d.2.1 d.2.2.1 f.1 f.2.1 f.2.2.1 f.2.2.2).bind λg=>cond (Bool.not g.1) (some (.inr (.inl (false,())))) (some (.inl (aa .add .i64 b.1 1,())))) none) none) (some (.inr (.inr (.inl ()))))
def Qh k x:=iter (Qg k) big x
def Nx(a b:Js):J8:=cond (ak .neq (bw a) (bw b)) (some (false,())) ((Qh (a,b,()) (0,())).bind λc=>Sum.elim (λd=>some (d.1,())) (λd=>Sum.elim (λ_=>some (true,())) (λe=>Empty.elim e) d) c)
def zI:Int:=0
def TT(a:Kz×YcN)(b:LN):YaN:=cond (ak .lss b.1 (bw a.1)) (cond (aZ a.1 b.1) (cond (aZ a.2.1 b.1) (cond (ak .neq (ae zI a.1 b.1) (ae zI a.2.1 b.1)) (some (.inr (.inl (false,())))) (some (.inl (aa .add .i64 b.1 1,())))) none) none) (some (.inr (.inr (.inl ()))))
def TU k x:=iter (TT k) big x
def Oi(a b:Kz):J8:=cond (ak .neq (bw a) (bw b)) (some (false,())) ((TU (a,b,()) (0,())).bind λc=>Sum.elim (λd=>some (d.1,())) (λd=>Sum.elim (λ_=>some (true,())) (λe=>Empty.elim e) d) c)
def Lq(a:Unit)(b:Js×Nt):Option (Js×Nt⊕YbY⊕Empty):=letI c:=b.2.2.1;letI d:=(ae kS b.1 c).2;cond (ak .lss c (bw b.1)) (cond (aZ b.1 c) (lets (cS b.1 c (b.2.1,d.1,d.2.1,d.2.2.1,d.2.2.2.1,d.2.2.2.2.1,d.2.2.2.2.2)) λe=>letI f:=(1:Int);letI g:=aa .add .i64 b.2.1 f;letI h:=(ae kS e c).2.2;cond (aZ e c) (lets (cS e c ((ae kS e c).1,g,h.1,h.2.1,h.2.2.1,h.2.2.2.1,h.2.2.2.2)) λi=>letI j:=ae kS i c;letI k:=j.2.2.2;letI l:=aa .add .i64 g f;cond (aZ i c) (lets (cS i c (j.1,j.2.1,l,k.1,k.2.1,k.2.2.1,k.2.2.2)) λm=>letI n:=ae kS m c;letI o:=n.2.2.2.2;letI p:=aa .add .i64 l f;cond (aZ m c) (lets (cS m c (n.1,n.2.1,n.2.2.1,p,o.1,o.2.1,o.2.2)) λq=>letI r:=ae kS q c;letI s:=aa .add .i64 p f;cond (aZ q c) (lets (cS q c (r.1,r.2.1,r.2.2.1,r.2.2.2.1,s,r.2.2.2.2.2.1,r.2.2.2.2.2.2)) λt=>letI u:=ae kS t c;letI v:=aa .add .i64 s f;cond (aZ t c) (lets (cS t c (u.1,u.2.1,u.2.2.1,u.2.2.2.1,u.2.2.2.2.1,v,u.2.2.2.2.2.2)) λw=>lets (aa .add .i64 v f) λx=>letI y:=ae kS w c;cond (aZ w c) (lets (cS w c (y.1,y.2.1,y.2.2.1,y.2.2.2.1,y.2.2.2.2.1,y.2.2.2.2.2.1,x)) λz=>some (.inl (z,aa .add .i64 x f,aa .add .i64 c f,()))) none) none) none) none) none) none) none) (some (.inr (.inl (b.1,b.2.1,()))))
def Lr k x:=iter (Lq k) big x
def LC(a:Js)(b:Int):Option (Int×YbS):=(Lr () (a,b,0,())).bind λc=>Sum.elim (λd=>some (d.2.1,d.1,())) (λd=>Empty.elim d) c
def MG(a:Unit)(b:YcO):Option (YcO⊕YcM⊕Empty):=letI c:=b.2.2.1;cond (ak .lss c (bw b.1)) (cond (aZ b.1 c) (some (.inl (cS b.1 c b.2.1,aa .add .i64 b.2.1 1,aa .add .i64 c 1,()))) none) (some (.inr (.inl (b.1,b.2.1,()))))
def MH k x:=iter (MG k) big x
def Ny(a:Kz)(b:Int):Option (Int×YcN):=(MH () (a,b,0,())).bind λc=>Sum.elim (λd=>some (d.2.1,d.1,())) (λd=>Empty.elim d) c
def MB(a:YcN)(b:Nt):YbA:=cond (ak .lss b.2.1 (bw a.1)) (cond (aZ a.1 b.2.1) (cond (ak .neq (ae zI a.1 b.2.1) b.1) (some (.inr (.inl (-1,())))) (some (.inl (aa .add .i64 b.1 1,aa .add .i64 b.2.1 1,())))) none) (some (.inr (.inr (.inl (b.1,())))))
def MC k x:=iter (MB k) big x
def LL(a:Kz)(b:Int):Oz:=(MC (a,()) (b,0,())).bind λc=>Sum.elim (λd=>some (d.1,())) (λd=>Sum.elim (λe=>some (e.1,())) (λe=>Empty.elim e) d) c
def Pq(a:YcN)(b:YcM):Option (YcM⊕YcN⊕Empty):=letI c:=b.2.1;cond (ak .lss c (bw a.1)) (cond (aZ a.1 c) (cond (aZ b.1 c) (some (.inl (cS b.1 c (ae zI a.1 c),aa .add .i64 c 1,()))) none) none) (some (.inr (.inl (b.1,()))))
def Pr k x:=iter (Pq k) big x
def Vm(a:Kz):Option YcN:=cond (lu (bw a)) ((Pr (a,()) (nw (bw a) (0:Int),0,())).bind λb=>Sum.elim (λc=>some (c.1,())) (λc=>Empty.elim c) b) none
def Lo(a:YbS)(b:Nt):YbA:=letI c:=(1:Int);letI d:=((-1:Int),());letI e:=aZ a.1 b.2.1;letI f:=ae kS a.1 b.2.1;letI g:=aa .add .i64 b.1 c;letI h:=f.2.2.2;letI i:=aa .add .i64 g c;letI j:=aa .add .i64 i c;letI k:=aa .add .i64 j c;cond (ak .lss b.2.1 (bw a.1)) (cond e (cond (ak .neq f.1 b.1) (some (.inr (.inl d))) (cond e (cond (ak .neq f.2.1 g) (some (.inr (.inl d))) (cond e (cond (ak .neq f.2.2.1 i) (some (.inr (.inl d))) (cond e (cond (ak .neq h.1 j) (some (.inr (.inl d))) (cond e (lets (ak .neq h.2.1 k) λl=>letI m:=aa .add .i64 k c;cond l (some (.inr (.inl d))) (cond e (lets (ak .neq h.2.2.1 m) λn=>cond n (some (.inr (.inl d))) (lets (aa .add .i64 m c) λo=>cond e (cond (ak .neq h.2.2.2 o) (some (.inr (.inl d))) (some (.inl (aa .add .i64 o c,aa .add .i64 b.2.1 c,())))) none)) none)) none)) none)) none)) none)) none) (some (.inr (.inr (.inl (b.1,())))))
def Lp k x:=iter (Lo k) big x
def LB(a:Js)(b:Int):Oz:=(Lp (a,()) (b,0,())).bind λc=>Sum.elim (λd=>some (d.1,())) (λd=>Sum.elim (λe=>some (e.1,())) (λe=>Empty.elim e) d) c
def ap9:Kz:=([]:Kz)
def QD:YbB:=(0,0,0,0,0)
def Vj(a:Kz)(b:Int):Oz:=letI c:=aa .sub .i64 b (bw a);cond (ak .lss c 0) (some (-1,())) (some (c,()))
def S4:YcP:=(0,0)
def Pj(a:NX)(b:Int):Oz:=letI c:=aa .sub .i64 b (bw a);cond (ak .lss c 0) (some (-1,())) (some (c,()))
def Vk(a b:NX)(c:Int):Oz:=(Pj a c).bind λd=>letI e:=some ((-1:Int),());cond (ak .lss d.1 0) e ((Pj b d.1).bind λf=>cond (ak .lss f.1 0) e (some (f.1,())))
def XA(a b:Int):Option Nt:=some (a,b,())
def NN(a:YbV)(b:YdI):Option (YdI⊕YbV⊕Empty):=letI c:=b.2.1;cond (ak .lss c (bw a.1)) (cond (aZ a.1 c) ((XA (ae S4 a.1 c).1 (ae S4 a.1 c).2).bind λd=>cond (aZ b.1 c) (some (.inl (cS b.1 c (d.1,d.2.1),aa .add .i64 c 1,()))) none) none) (some (.inr (.inl (b.1,()))))
def NO k x:=iter (NN k) big x
def Pu(a:NX):Option YbV:=cond (lu (bw a)) ((NO (a,()) (nw (bw a) ((0:Int),(0:Int)),0,())).bind λb=>Sum.elim (λc=>some (c.1,())) (λc=>Empty.elim c) b) none
def Vn(a b:NX):Option YdB:=(Pu a).bind λc=>(Pu b).bind λd=>some (c.1,d.1,())
def Wl(a b c d e f g h:Int):Option YaY:=some (a,b,c,d,e,f,g,h,())
def R0(a:YdI)(b:LN):YaN:=letI c:=(false,());letI d:=ae S4 a.1 b.1;letI e:=aa .sub .i64 b.1 1;letI f:=(aa .add .i64 b.1 1,());cond (ak .lss b.1 (bw a.1)) (cond (aZ a.1 b.1) (cond (ak .lss d.1 0) (some (.inr (.inl c))) (cond (ak .geq d.1 d.2) (some (.inr (.inl c))) (cond (ak .gtr d.2 a.2.1) (some (.inr (.inl c))) (cond (ak .gtr b.1 0) (cond (aZ a.1 e) (cond (ak .leq d.1 (ae S4 a.1 e).2) (some (.inr (.inl c))) (some (.inl f))) none) (some (.inl f)))))) none) (some (.inr (.inr (.inl ()))))
def R1 k x:=iter (R0 k) big x
def PM(a:NX)(b:Int):J8:=cond (ak .gtr (bw a) 20) (some (false,())) ((R1 (a,b,()) (0,())).bind λc=>Sum.elim (λd=>some (d.1,())) (λd=>Sum.elim (λ_=>some (true,())) (λe=>Empty.elim e) d) c)
def KP(a b:NX):J8:=(PM a 168).bind λc=>cond c.1 ((PM b 20000).bind λd=>some (d.1,())) (some (false,()))
def MV(a b c d e f g h:Int):J8:=letI i:=(2000:Int);(bS a 1 i).bind λj=>letI k:=some (false,());cond j.1 ((bS c 1 i).bind λl=>cond l.1 ((bS f 1 i).bind λm=>cond m.1 ((bS b 0 i).bind λn=>cond n.1 ((bS d 0 10000).bind λo=>cond o.1 ((bS e 0 1000000).bind λp=>cond p.1 ((bS g 0 100000).bind λq=>cond q.1 ((bS h 0 20).bind λr=>some (r.1,())) k) k) k) k) k) k) k
def PN(a:YdI)(b:LN):YaN:=letI c:=ae S4 a.1 b.1;letI d:=(aa .add .i64 b.1 1,());cond (ak .lss b.1 (bw a.1)) (cond (aZ a.1 b.1) (cond (ak .leq c.1 a.2.1) (cond (aZ a.1 b.1) (cond (ak .lss a.2.1 c.2) (some (.inr (.inl (true,())))) (some (.inl d))) none) (some (.inl d))) none) (some (.inr (.inr (.inl ()))))
def PO k x:=iter (PN k) big x
def Mm(a:NX)(b:Int):J8:=(PO (a,b,()) (0,())).bind λc=>Sum.elim (λd=>some (d.1,())) (λd=>Sum.elim (λ_=>some (false,())) (λe=>Empty.elim e) d) c
def MW(a b:NX)(c:Int):J8:=cond (eE 168) none ((Mm a (aa .rem .i64 c 168)).bind λd=>cond d.1 ((Mm b c).bind λe=>some (Bool.not e.1,())) (some (false,())))
def L3(a:Int×YdB)(b:Nt):YbG:=cond (ak .lss b.2.1 a.1) ((MW a.2.1 a.2.2.1 b.2.1).bind λc=>letI d:=aa .add .i64 b.2.1 1;cond c.1 (some (.inl (aa .add .i64 b.1 1,d,()))) (some (.inl (b.1,d,())))) (some (.inr (.inl (b.1,()))))
def L4 k x:=iter (L3 k) big x
def PK(a b:NX)(c d:Int):Oz:=(KP a b).bind λe=>letI f:=some ((0:Int),());cond (Bool.not e.1) f ((bS c 0 20000).bind λg=>cond (Bool.not g.1) f ((bS d 0 20000).bind λh=>cond (Bool.not h.1) f ((L4 (d,a,b,()) (0,c,())).bind λi=>Sum.elim (λj=>some (j.1,())) (λj=>Empty.elim j) i)))
def Vx(a b c d e f g h i j k:Int):Oz:=letI l:=aa .sub .i64 j b;letI m:=aa .mul .i64 g k;cond (ak .gtr l 0) (cond (eE c) none (lets (aa .add .i64 (nS false e (aa .mul .i64 (aa .mul .i64 (aa .quo .i64 (aa .sub .i64 (aa .add .i64 l c) 1) c) d) i)) m) λn=>some (n,()))) (some (aa .add .i64 0 m,()))
def Ui(a b:NX)(c d e f g h i j k l m n:Int):Oz:=(KP a b).bind λo=>letI p:=some ((-1:Int),());cond (Bool.not o.1) p ((MV c d e f g h i j).bind λq=>cond (Bool.not q.1) p ((bS k 1 24).bind λr=>cond (Bool.not r.1) p ((bS m 0 20000).bind λs=>cond (Bool.not s.1) p ((bS l 0 m).bind λt=>cond (Bool.not t.1) p ((bS n 0 j).bind λu=>cond (Bool.not u.1) p ((PK a b l m).bind λv=>(Vx c d e f g h i j k v.1 n).bind λw=>some (w.1,())))))))
def RG(a:NX×Int×YdI)(b:LN):YaN:=letI c:=(false,());letI d:=aa .sub .i64 b.1 1;letI e:=ae S4 a.2.2.1 b.1;letI f:=(aa .add .i64 b.1 1,());cond (ak .lss b.1 a.2.2.2.1) (cond (aZ a.2.2.1 b.1) (cond (ak .lss e.1 0) (some (.inr (.inl c))) (cond (ak .geq e.1 e.2) (some (.inr (.inl c))) (cond (ak .gtr e.2 a.2.1) (some (.inr (.inl c))) (cond (ak .gtr b.1 0) (cond (aZ a.1 d) (cond (ak .leq e.1 (ae S4 a.1 d).2) (some (.inr (.inl c))) (some (.inl f))) none) (some (.inl f)))))) none) (some (.inr (.inr (.inl ()))))
def RH k x:=iter (RG k) big x
def OR(a:NX)(b:Int):J8:=cond (ak .gtr (bw a) 20) (some (false,())) ((RH (a,b,a,bw a,()) (0,())).bind λc=>Sum.elim (λd=>some (d.1,())) (λd=>Sum.elim (λ_=>some (true,())) (λe=>Empty.elim e) d) c)
def Kg(a b:NX):J8:=(OR a 168).bind λc=>cond c.1 ((OR b 20000).bind λd=>some (d.1,())) (some (false,()))
def Mt(a b c d e f g h:Int):J8:=letI i:=(2000:Int);(ct a 1 i).bind λj=>letI k:=some (false,());cond j.1 ((ct c 1 i).bind λl=>cond l.1 ((ct f 1 i).bind λm=>cond m.1 ((ct b 0 i).bind λn=>cond n.1 ((ct d 0 10000).bind λo=>cond o.1 ((ct e 0 1000000).bind λp=>cond p.1 ((ct g 0 100000).bind λq=>cond q.1 ((ct h 0 20).bind λr=>some (r.1,())) k) k) k) k) k) k) k
def RP(a:Int×YdI)(b:LN):YaN:=letI c:=ae S4 a.2.1 b.1;letI d:=(aa .add .i64 b.1 1,());cond (ak .lss b.1 a.2.2.1) (cond (aZ a.2.1 b.1) (cond (ak .geq a.1 c.1) (cond (ak .lss a.1 c.2) (some (.inr (.inl (true,())))) (some (.inl d))) (some (.inl d))) none) (some (.inr (.inr (.inl ()))))
def RQ k x:=iter (RP k) big x
def OU(a:NX)(b:Int):J8:=(RQ (b,a,bw a,()) (0,())).bind λc=>Sum.elim (λd=>some (d.1,())) (λd=>Sum.elim (λ_=>some (false,())) (λe=>Empty.elim e) d) c
def Oh(a b:NX)(c:Int):J8:=cond (eE 168) none ((OU a (aa .rem .i64 c 168)).bind λd=>cond d.1 ((OU b c).bind λe=>some (Bool.not e.1,())) (some (false,())))
def LU(a:Int×YdB)(b:Nt):YbG:=cond (ak .lss b.2.1 a.1) ((Oh a.2.1 a.2.2.1 b.2.1).bind λc=>letI d:=aa .add .i64 b.2.1 1;cond c.1 (some (.inl (aa .add .i64 b.1 1,d,()))) (some (.inl (b.1,d,())))) (some (.inr (.inl (b.1,()))))
def LV k x:=iter (LU k) big x
def OP(a b:NX)(c d:Int):Oz:=(Kg a b).bind λe=>letI f:=some ((0:Int),());cond (Bool.not e.1) f ((I9 c).bind λg=>cond (Bool.not g.1) f ((I9 d).bind λh=>cond (Bool.not h.1) f ((LV (d,a,b,()) (0,c,())).bind λi=>Sum.elim (λj=>some (j.1,())) (λj=>Empty.elim j) i)))
def SE(a b c d e f g h i j:Int):Oz:=letI k:=aa .sub .i64 j b;cond (ak .leq k 0) (some (0,())) (cond (eE c) none (some (nS false e (aa .mul .i64 (aa .mul .i64 (aa .quo .i64 (aa .sub .i64 (aa .add .i64 k c) 1) c) d) i),())))
def We(a b:NX)(c d e f g h i j k l m n:Int):Oz:=(Kg a b).bind λo=>letI p:=some ((-1:Int),());cond (Bool.not o.1) p ((Mt c d e f g h i j).bind λq=>cond (Bool.not q.1) p ((ct k 1 24).bind λr=>cond (Bool.not r.1) p ((I9 l).bind λs=>cond (Bool.not s.1) p ((I9 m).bind λt=>cond (Bool.not t.1) p (cond (ak .lss m l) p ((ct n 0 j).bind λu=>cond (Bool.not u.1) p ((OP a b l m).bind λv=>(SE c d e f g h i j k v.1).bind λw=>some (aa .add .i64 w.1 (aa .mul .i64 i n),()))))))))
def Vg(a b c d:Int):J8:=letI e:=some (false,());cond (ak .neq a c) e (cond (ak .neq b d) e (some (true,())))
def RU(a:YdB)(b:LN):YaN:=letI c:=ae S4 a.1 b.1;letI d:=ae S4 a.2.1 b.1;cond (ak .lss b.1 (bw a.1)) (cond (aZ a.1 b.1) (cond (aZ a.2.1 b.1) ((Vg c.1 c.2 d.1 d.2).bind λe=>cond (Bool.not e.1) (some (.inr (.inl (false,())))) (some (.inl (aa .add .i64 b.1 1,())))) none) none) (some (.inr (.inr (.inl ()))))
def RV k x:=iter (RU k) big x
def O5(a b:NX):J8:=cond (ak .neq (bw a) (bw b)) (some (false,())) ((RV (a,b,()) (0,())).bind λc=>Sum.elim (λd=>some (d.1,())) (λd=>Sum.elim (λ_=>some (true,())) (λe=>Empty.elim e) d) c)
def Vh(a b c d:NX):J8:=(O5 a c).bind λe=>letI f:=some (false,());cond (Bool.not e.1) f ((O5 b d).bind λg=>cond (Bool.not g.1) f (some (true,())))
def Uj(a:YcM)(b:LN):YaN:=cond (ak .lss b.1 (bw a.1)) (cond (aZ a.1 b.1) (cond (ak .eql (ae zI a.1 b.1) a.2.1) (some (.inr (.inl (true,())))) (some (.inl (aa .add .i64 b.1 1,())))) none) (some (.inr (.inr (.inl ()))))
def Uk k x:=iter (Uj k) big x
def Vw(a:Kz)(b:Int):J8:=(Uk (a,b,()) (0,())).bind λc=>Sum.elim (λd=>some (d.1,())) (λd=>Sum.elim (λ_=>some (false,())) (λe=>Empty.elim e) d) c
def JL(a:YcO)(b:LN):YaZ:=cond (ak .lss b.1 a.2.2.1) (cond (aZ a.1 b.1) (cond (ak .eql a.2.1 (ae zI a.1 b.1)) (some (.inr (.inl (b.1,())))) (some (.inl (aa .add .i64 b.1 1,())))) none) (some (.inr (.inr (.inl ()))))
def Kt k x:=iter (JL k) big x
def Lb(a:Kz)(b:Int):Oz:=(Kt (a,b,bw a,()) (0,())).bind λc=>Sum.elim (λd=>some (d.1,())) (λd=>Sum.elim (λ_=>some (-1,())) (λe=>Empty.elim e) d) c
def JK(a:Kz)(b:Int):J8:=(Lb a b).bind λc=>some (ak .geq c.1 0,())
def ahg:Int×J4:=letI a:=(0:Int);(a,a,a,a,a,a,a,a)
def SI(a b c d e f g h i j k l m n o p:Int):J8:=letI q:=some (false,());cond (ak .neq a i) q (cond (ak .neq b j) q (cond (ak .neq c k) q (cond (ak .neq d l) q (cond (ak .neq e m) q (cond (ak .neq f n) q (cond (ak .neq g o) q (cond (ak .neq h p) q (some (true,())))))))))
def ax:YaA:=(([]:NX),([]:NX),([]:RB),0,0,false,false,false,0,0,([]:Js))
def aS:YaW:=letI a:=(0:Int);(a,a,a,a,a,a,a,a,a,a,a,a,a)
def gI:YbC:=(0,0,0,0,0,0,false)
def br:YbU:=(0,([]:Kz),([]:Lj))
def fe:QE:=(0,0,0,false)
def Vi(a:Lj)(b:Int):Oz:=letI c:=aa .sub .i64 b (bw a);cond (ak .lss c 0) (some (-1,())) (some (c,()))
def KS(a:Int)(b:Kz)(c:Lj)(d:Int):Oz:=(Vj b d).bind λe=>letI f:=some ((-1:Int),());cond (ak .lss e.1 0) f ((Vi c e.1).bind λg=>cond (ak .lss g.1 0) f (some (g.1,())))
def Ju(a:YbW)(b:Nt):YbA:=letI c:=ae br a.1 b.2.1;cond (ak .lss b.2.1 (bw a.1)) (cond (aZ a.1 b.2.1) ((KS c.1 c.2.1 c.2.2 b.1).bind λd=>cond (ak .lss d.1 0) (some (.inr (.inl (-1,())))) (some (.inl (d.1,aa .add .i64 b.2.1 1,())))) none) (some (.inr (.inr (.inl (b.1,())))))
def LX k x:=iter (Ju k) big x
def K9(a:RB)(b:Int):Oz:=letI c:=aa .sub .i64 b (bw a);cond (ak .lss c 0) (some (-1,())) ((LX (a,()) (c,0,())).bind λd=>Sum.elim (λe=>some (e.1,())) (λe=>Sum.elim (λf=>some (f.1,())) (λf=>Empty.elim f) e) d)
def Oj(a b:NX)(c:RB)(d e:Int)(f g h:Bool)(i j:Int)(k:Js)(l:Int):Oz:=(Vk a b l).bind λm=>letI n:=some ((-1:Int),());cond (ak .lss m.1 0) n ((K9 c m.1).bind λo=>cond (ak .lss o.1 0) n ((Nz k o.1).bind λp=>cond (ak .lss p.1 0) n (some (p.1,()))))
def JB(a:YcY)(b:Nt):YbA:=letI c:=ae ax a.1 b.2.1;letI d:=c.2;letI e:=d.2.2.2.2.2;cond (ak .lss b.2.1 (bw a.1)) (cond (aZ a.1 b.2.1) ((Oj c.1 d.1 d.2.1 d.2.2.1 d.2.2.2.1 d.2.2.2.2.1 e.1 e.2.1 e.2.2.1 e.2.2.2.1 e.2.2.2.2 b.1).bind λf=>cond (ak .lss f.1 0) (some (.inr (.inl (-1,())))) (some (.inl (f.1,aa .add .i64 b.2.1 1,())))) none) (some (.inr (.inr (.inl (b.1,())))))
def NK k x:=iter (JB k) big x
def KM(a:KB)(b:Int):Oz:=letI c:=aa .sub .i64 b (bw a);cond (ak .lss c 0) (some (-1,())) ((NK (a,()) (c,0,())).bind λd=>Sum.elim (λe=>some (e.1,())) (λe=>Sum.elim (λf=>some (f.1,())) (λf=>Empty.elim f) e) d)
def Ph(a:Kj)(b:Int):Oz:=letI c:=aa .sub .i64 b (bw a);cond (ak .lss c 0) (some (-1,())) (some (c,()))
def QW(a:JI)(b:Int):Oz:=letI c:=aa .sub .i64 b (bw a);cond (ak .lss c 0) (some (-1,())) (some (c,()))
def La(a b c d e f g h i j k:Int)(l:KB)(m:Kj)(n:JI)(o:Js)(p:Int):Oz:=(KM l p).bind λq=>letI r:=some ((-1:Int),());cond (ak .lss q.1 0) r ((Ph m q.1).bind λs=>cond (ak .lss s.1 0) r ((QW n s.1).bind λt=>cond (ak .lss t.1 0) r ((Nz o t.1).bind λu=>cond (ak .lss u.1 0) r (some (u.1,())))))
def YN(a b c:Int)(d:Bool):YeB:=some (a,b,c,d,())
def Pk(a:YcK)(b:YcI):YdX:=letI c:=b.2.1;letI d:=ae fe a.1 c;cond (ak .lss c (bw a.1)) (cond (aZ a.1 c) ((YN d.1 d.2.1 d.2.2.1 d.2.2.2).bind λe=>cond (aZ b.1 c) (some (.inl (cS b.1 c (e.1,e.2.1,e.2.2.1,e.2.2.2.1),aa .add .i64 c 1,()))) none) none) (some (.inr (.inl (b.1,()))))
def Pm k x:=iter (Pk k) big x
def Vl(a:Lj):Option YcK:=cond (lu (bw a)) ((Pm (a,()) (nw (bw a) ((0:Int),(0:Int),(0:Int),false),0,())).bind λb=>Sum.elim (λc=>some (c.1,())) (λc=>Empty.elim c) b) none
def NA(a:Int)(b:Kz)(c:Lj):YdF:=(Vm b).bind λd=>(Vl c).bind λe=>some (a,d.1,e.1,())
def LY(a:YbW)(b:YcE):YcT:=letI c:=b.2.1;letI d:=ae br a.1 c;cond (ak .lss c (bw a.1)) (cond (aZ a.1 c) ((NA d.1 d.2.1 d.2.2).bind λe=>cond (aZ b.1 c) (some (.inl (cS b.1 c (e.1,e.2.1,e.2.2.1),aa .add .i64 c 1,()))) none) none) (some (.inr (.inl (b.1,()))))
def Po k x:=iter (LY k) big x
def Pn(a:RB):Option YbW:=cond (lu (bw a)) ((Po (a,()) (nw (bw a) ((0:Int),([]:Kz),([]:Lj)),0,())).bind λb=>Sum.elim (λc=>some (c.1,())) (λc=>Empty.elim c) b) none
def Xz(a b:Int)(c d e:Bool):YdD:=some (a,b,c,d,e,())
def Rx(a b:NX)(c:RB)(d e:Int)(f g h:Bool)(i j:Int)(k:Js):Option (NX×NX×RB×Int×Int×Bool×Bool×Bool×Int×Int×YbS):=(Vn a b).bind λl=>(Pn c).bind λm=>(Xz d e f g h).bind λn=>(NB k).bind λo=>some (l.1,l.2.1,m.1,n.1,n.2.1,n.2.2.1,n.2.2.2.1,n.2.2.2.2.1,i,j,o.1,())
def NM(a:YcY)(b:YeD):Option (YeD⊕YcY⊕Empty):=letI c:=b.2.1;letI d:=(ae ax a.1 c).2;letI e:=d.2.2.2.2.2;cond (ak .lss c (bw a.1)) (cond (aZ a.1 c) ((Rx (ae ax a.1 c).1 d.1 d.2.1 d.2.2.1 d.2.2.2.1 d.2.2.2.2.1 e.1 e.2.1 e.2.2.1 e.2.2.2.1 e.2.2.2.2).bind λf=>letI g:=f.2.2.2.2.2;cond (aZ b.1 c) (lets (cS b.1 c (f.1,f.2.1,f.2.2.1,f.2.2.2.1,f.2.2.2.2.1,g.1,g.2.1,g.2.2.1,g.2.2.2.1,g.2.2.2.2.1,g.2.2.2.2.2.1)) λh=>some (.inl (h,aa .add .i64 c 1,()))) none) none) (some (.inr (.inl (b.1,()))))
def RW k x:=iter (NM k) big x
def SJ(a:KB):Option YcY:=cond (lu (bw a)) ((RW (a,()) (nw (bw a) (([]:NX),([]:NX),([]:RB),(0:Int),(0:Int),false,false,false,(0:Int),(0:Int),([]:Js)),0,())).bind λb=>Sum.elim (λc=>some (c.1,())) (λc=>Empty.elim c) b) none
def aaO(a b c d e:Int):Option YbQ:=some (a,b,c,d,e,())
def VB(a b c d e f g h i j k l m:Int):Option (Int×Int×YdM):=(aaO g h i j k).bind λn=>some (a,b,c,d,e,f,n.1,n.2.1,n.2.2.1,n.2.2.2.1,n.2.2.2.2.1,l,m,())
def LZ(a:YcZ)(b:YeE):Option (YeE⊕YcZ⊕Empty):=letI c:=b.2.1;letI d:=ae aS a.1 c;letI e:=d.2.2;letI f:=e.2.2.2.2.2;cond (ak .lss c (bw a.1)) (cond (aZ a.1 c) ((VB d.1 d.2.1 e.1 e.2.1 e.2.2.1 e.2.2.2.1 e.2.2.2.2.1 f.1 f.2.1 f.2.2.1 f.2.2.2.1 f.2.2.2.2.1 f.2.2.2.2.2).bind λg=>letI h:=g.2.2.2;letI i:=h.2.2.2;letI j:=i.2.2.2;cond (aZ b.1 c) (lets (cS b.1 c (g.1,g.2.1,g.2.2.1,h.1,h.2.1,h.2.2.1,i.1,i.2.1,i.2.2.1,j.1,j.2.1,j.2.2.1,j.2.2.2.1)) λk=>some (.inl (k,aa .add .i64 c 1,()))) none) none) (some (.inr (.inl (b.1,()))))
def L0 k x:=iter (LZ k) big x
def Pt(a:Kj):Option YcZ:=letI b:=(0:Int);cond (lu (bw a)) ((L0 (a,()) (nw (bw a) (b,b,b,b,b,b,b,b,b,b,b,b,b),b,())).bind λc=>Sum.elim (λd=>some (d.1,())) (λd=>Empty.elim d) c) none
def Pp(a b c d e f:Int)(g:Bool):Option (Int×YdJ):=some (a,b,c,d,e,f,g,())
def ML(a:YcV)(b:YdS):Option (YdS⊕YcV⊕Empty):=letI c:=b.2.1;letI d:=ae gI a.1 c;letI e:=d.2.2.2;cond (ak .lss c (bw a.1)) (cond (aZ a.1 c) ((Pp d.1 d.2.1 d.2.2.1 e.1 e.2.1 e.2.2.1 e.2.2.2).bind λf=>letI g:=f.2.2.2;cond (aZ b.1 c) (some (.inl (cS b.1 c (f.1,f.2.1,f.2.2.1,g.1,g.2.1,g.2.2.1,g.2.2.2.1),aa .add .i64 c 1,()))) none) none) (some (.inr (.inl (b.1,()))))
def MM k x:=iter (ML k) big x
def QX(a:JI):Option YcV:=cond (lu (bw a)) ((MM (a,()) (nw (bw a) ((0:Int),(0:Int),(0:Int),(0:Int),(0:Int),(0:Int),false),0,())).bind λb=>Sum.elim (λc=>some (c.1,())) (λc=>Empty.elim c) b) none
def Ps(a b c d e f g h i j k:Int)(l:KB)(m:Kj)(n:JI)(o:Js):YeC:=(Wl a b c d e f g h).bind λp=>(SJ l).bind λq=>(Pt m).bind λr=>(QX n).bind λs=>(NB o).bind λt=>letI u:=p.2.2.2.2;some (p.1,p.2.1,p.2.2.1,p.2.2.2.1,u.1,u.2.1,u.2.2.1,u.2.2.2.1,i,j,k,q.1,r.1,s.1,t.1,())
def Jn(a:Int):J8:=(bS a 1 2147483646).bind λb=>some (b.1,())
def JU(a b c d e f g h i j k:Int)(l:KB)(m:Kj)(n:JI)(o:Js)(p:Int):Oz:=(Jn j).bind λq=>letI r:=some ((0:Int),());cond (Bool.not q.1) r ((bS p 1 12).bind λs=>cond (Bool.not s.1) r (cond (eE 2147483646) none (some (aa .add .i64 (aa .rem .i64 (aa .add .i64 j (aa .mul .i64 7919 p)) 2147483646) 1,()))))
def Jo(a:Int):J8:=(ct a 1 2147483646).bind λb=>some (b.1,())
def Kf(a b c d e f g h i j k:Int)(l:KB)(m:Kj)(n:JI)(o:Js)(p:Int):Oz:=(Jo j).bind λq=>letI r:=some ((0:Int),());cond (Bool.not q.1) r ((ct p 1 12).bind λs=>cond (Bool.not s.1) r (cond (eE 2147483646) none (some (aa .add .i64 (aa .rem .i64 (aa .add .i64 j (aa .mul .i64 7919 p)) 2147483646) 1,()))))
def Wi(a b c:Int)(d:Bool)(e f g:Int)(h:Bool):J8:=letI i:=some (false,());cond (ak .neq a e) i (cond (ak .neq b f) i (cond (ak .neq c g) i (cond (Bool.not (pI d h)) i (some (true,())))))
def TQ(a:Lj×YcK)(b:LN):YaN:=letI c:=ae fe a.1 b.1;letI d:=ae fe a.2.1 b.1;cond (ak .lss b.1 (bw a.1)) (cond (aZ a.1 b.1) (cond (aZ a.2.1 b.1) ((Wi c.1 c.2.1 c.2.2.1 c.2.2.2 d.1 d.2.1 d.2.2.1 d.2.2.2).bind λe=>cond (Bool.not e.1) (some (.inr (.inl (false,())))) (some (.inl (aa .add .i64 b.1 1,())))) none) none) (some (.inr (.inr (.inl ()))))
def TR k x:=iter (TQ k) big x
def Vc(a b:Lj):J8:=cond (ak .neq (bw a) (bw b)) (some (false,())) ((TR (a,b,()) (0,())).bind λc=>Sum.elim (λd=>some (d.1,())) (λd=>Sum.elim (λ_=>some (true,())) (λe=>Empty.elim e) d) c)
def Nw(a:Int)(b:Kz)(c:Lj)(d:Int)(e:Kz)(f:Lj):J8:=letI g:=some (false,());cond (ak .neq a d) g ((Oi b e).bind λh=>cond (Bool.not h.1) g ((Vc c f).bind λi=>cond (Bool.not i.1) g (some (true,()))))
def OZ(a:RB×YbW)(b:LN):YaN:=letI c:=ae br a.1 b.1;letI d:=ae br a.2.1 b.1;cond (ak .lss b.1 (bw a.1)) (cond (aZ a.1 b.1) (cond (aZ a.2.1 b.1) ((Nw c.1 c.2.1 c.2.2 d.1 d.2.1 d.2.2).bind λe=>cond (Bool.not e.1) (some (.inr (.inl (false,())))) (some (.inl (aa .add .i64 b.1 1,())))) none) none) (some (.inr (.inr (.inl ()))))
def O0 k x:=iter (OZ k) big x
def OY(a b:RB):J8:=cond (ak .neq (bw a) (bw b)) (some (false,())) ((O0 (a,b,()) (0,())).bind λc=>Sum.elim (λd=>some (d.1,())) (λd=>Sum.elim (λ_=>some (true,())) (λe=>Empty.elim e) d) c)
def Vd(a b:Int)(c d e:Bool)(f g:Int)(h i j:Bool):J8:=letI k:=some (false,());cond (ak .neq a f) k (cond (ak .neq b g) k (cond (Bool.not (pI c h)) k (cond (Bool.not (pI d i)) k (cond (Bool.not (pI e j)) k (some (true,()))))))
def Vf(a b:NX)(c:RB)(d e:Int)(f g h:Bool)(i j:Int)(k:Js)(l m:NX)(n:RB)(o p:Int)(q r s:Bool)(t u:Int)(v:Js):J8:=(Vh a b l m).bind λw=>letI x:=some (false,());cond (Bool.not w.1) x ((OY c n).bind λy=>cond (Bool.not y.1) x ((Vd d e f g h o p q r s).bind λz=>cond (Bool.not z.1) x (cond (ak .neq i t) x (cond (ak .neq j u) x ((Nx k v).bind λA=>cond (Bool.not A.1) x (some (true,())))))))
def RR(a:KB×YcY)(b:LN):YaN:=letI c:=ae ax a.1 b.1;letI d:=ae ax a.2.1 b.1;letI e:=d.2;letI f:=c.2.2;letI g:=f.2.2.2.2;letI h:=e.2.2.2.2.2;cond (ak .lss b.1 (bw a.1)) (cond (aZ a.1 b.1) (cond (aZ a.2.1 b.1) ((Vf c.1 c.2.1 f.1 f.2.1 f.2.2.1 f.2.2.2.1 g.1 g.2.1 g.2.2.1 g.2.2.2.1 g.2.2.2.2 d.1 e.1 e.2.1 e.2.2.1 e.2.2.2.1 e.2.2.2.2.1 h.1 h.2.1 h.2.2.1 h.2.2.2.1 h.2.2.2.2).bind λi=>cond (Bool.not i.1) (some (.inr (.inl (false,())))) (some (.inl (aa .add .i64 b.1 1,())))) none) none) (some (.inr (.inr (.inl ()))))
def RT k x:=iter (RR k) big x
def SH(a b:KB):J8:=cond (ak .neq (bw a) (bw b)) (some (false,())) ((RT (a,b,()) (0,())).bind λc=>Sum.elim (λd=>some (d.1,())) (λd=>Sum.elim (λ_=>some (true,())) (λe=>Empty.elim e) d) c)
def Ve(a b c d e f g h i j:Int):J8:=letI k:=some (false,());cond (ak .neq a f) k (cond (ak .neq b g) k (cond (ak .neq c h) k (cond (ak .neq d i) k (cond (ak .neq e j) k (some (true,()))))))
def QS(a b c d e f g h i j k l m n o p q r s t u v w x y z:Int):J8:=letI A:=some (false,());cond (ak .neq a n) A (cond (ak .neq b o) A (cond (ak .neq c p) A (cond (ak .neq d q) A (cond (ak .neq e r) A (cond (ak .neq f s) A ((Ve g h i j k t u v w x).bind λB=>cond (Bool.not B.1) A (cond (ak .neq l y) A (cond (ak .neq m z) A (some (true,()))))))))))
def O3(a:Kj×YcZ)(b:LN):YaN:=letI c:=ae aS a.1 b.1;letI d:=ae aS a.2.1 b.1;letI e:=d.2.2;letI f:=c.2.2.2;letI g:=e.2.2.2.2.2;letI h:=f.2.2.2.2.2;cond (ak .lss b.1 (bw a.1)) (cond (aZ a.1 b.1) (cond (aZ a.2.1 b.1) ((QS c.1 c.2.1 c.2.2.1 f.1 f.2.1 f.2.2.1 f.2.2.2.1 f.2.2.2.2.1 h.1 h.2.1 h.2.2.1 h.2.2.2.1 h.2.2.2.2 d.1 d.2.1 e.1 e.2.1 e.2.2.1 e.2.2.2.1 e.2.2.2.2.1 g.1 g.2.1 g.2.2.1 g.2.2.2.1 g.2.2.2.2.1 g.2.2.2.2.2).bind λi=>cond (Bool.not i.1) (some (.inr (.inl (false,())))) (some (.inl (aa .add .i64 b.1 1,())))) none) none) (some (.inr (.inr (.inl ()))))
def O4 k x:=iter (O3 k) big x
def O2(a b:Kj):J8:=cond (ak .neq (bw a) (bw b)) (some (false,())) ((O4 (a,b,()) (0,())).bind λc=>Sum.elim (λd=>some (d.1,())) (λd=>Sum.elim (λ_=>some (true,())) (λe=>Empty.elim e) d) c)
def O1(a b c d e f:Int)(g:Bool)(h i j k l m:Int)(n:Bool):J8:=letI o:=some (false,());cond (ak .neq a h) o (cond (ak .neq b i) o (cond (ak .neq c j) o (cond (ak .neq d k) o (cond (ak .neq e l) o (cond (ak .neq f m) o (cond (Bool.not (pI g n)) o (some (true,()))))))))
def Qi(a:JI×YcV)(b:LN):YaN:=letI c:=ae gI a.1 b.1;letI d:=ae gI a.2.1 b.1;letI e:=c.2.2.2;letI f:=d.2.2.2;cond (ak .lss b.1 (bw a.1)) (cond (aZ a.1 b.1) (cond (aZ a.2.1 b.1) ((O1 c.1 c.2.1 c.2.2.1 e.1 e.2.1 e.2.2.1 e.2.2.2 d.1 d.2.1 d.2.2.1 f.1 f.2.1 f.2.2.1 f.2.2.2).bind λg=>cond (Bool.not g.1) (some (.inr (.inl (false,())))) (some (.inl (aa .add .i64 b.1 1,())))) none) none) (some (.inr (.inr (.inl ()))))
def Qj k x:=iter (Qi k) big x
def QR(a b:JI):J8:=cond (ak .neq (bw a) (bw b)) (some (false,())) ((Qj (a,b,()) (0,())).bind λc=>Sum.elim (λd=>some (d.1,())) (λd=>Sum.elim (λ_=>some (true,())) (λe=>Empty.elim e) d) c)
def K7(a b c d e f g h i j k:Int)(l:KB)(m:Kj)(n:JI)(o:Js)(p q r s t u v w x y z:Int)(A:KB)(B:Kj)(C:JI)(D:Js):J8:=(SI a b c d e f g h p q r s t u v w).bind λE=>letI F:=some (false,());cond (Bool.not E.1) F (cond (ak .neq i x) F (cond (ak .neq j y) F (cond (ak .neq k z) F ((SH l A).bind λG=>cond (Bool.not G.1) F ((O2 m B).bind λH=>cond (Bool.not H.1) F ((QR n C).bind λI=>cond (Bool.not I.1) F ((Nx o D).bind λJ=>cond (Bool.not J.1) F (some (true,())))))))))
def Mn(a b c d e f g h i j k l m n:Int):J8:=cond (ak .lss a h) (some (true,())) (cond (ak .eql a h) (some (ak .lss b i,())) (some (false,())))
def Is(a:Js×YbS)(b:Js×Nt):Option (Js×Nt⊕Js×YaV⊕YbS⊕Empty):=letI c:=([]:Js);letI d:=b.1;letI e:=b.2.1;letI f:=b.2.2.1;letI g:=(c,false,());letI h:=aZ a.1 e;letI i:=ae kS a.1 e;letI j:=aZ a.2.1 f;letI k:=aa .add .i64 e 1;letI l:=ae kS a.2.1 f;letI m:=aa .add .i64 f 1;letI n:=ak .eql e (bw a.1);letI o:=ak .lss e (bw a.1);letI p:=i.2.2.2;letI q:=ak .eql f (bw a.2.1);letI r:=l.2.2.2;letI s:=p.2.2;letI t:=r.2.2;letI u:=Mn l.1 l.2.1 l.2.2.1 r.1 r.2.1 t.1 t.2 i.1 i.2.1 i.2.2.1 p.1 p.2.1 s.1 s.2;letI v:=Mn i.1 i.2.1 i.2.2.1 p.1 p.2.1 s.1 s.2 l.1 l.2.1 l.2.2.1 r.1 r.2.1 t.1 t.2;letI w:=Bool.not (Bool.and (ak .eql i.1 l.1) (Bool.and (ak .eql i.2.1 l.2.1) (Bool.and (ak .eql i.2.2.1 l.2.2.1) (Bool.and (ak .eql p.1 r.1) (Bool.and (ak .eql p.2.1 r.2.1) (Bool.and (ak .eql s.1 t.1) (Bool.and (ak .eql s.2 t.2) true)))))));cond o (cond q (cond h (cond (dF (List.append (α:=J4) d (List.append (α:=J4) c [i]))) (some (.inl (List.append (α:=J4) d (List.append (α:=J4) c [i]),k,f,()))) none) none) (cond o (cond h (cond j (v.bind λx=>cond x.1 (cond h (cond (dF (List.append (α:=J4) d (List.append (α:=J4) c [i]))) (some (.inl (List.append (α:=J4) d (List.append (α:=J4) c [i]),k,f,()))) none) none) (cond n (cond j (cond (dF (List.append (α:=J4) d (List.append (α:=J4) c [l]))) (some (.inl (List.append (α:=J4) d (List.append (α:=J4) c [l]),e,m,()))) none) none) (cond j (cond h (u.bind λy=>cond y.1 (cond j (cond (dF (List.append (α:=J4) d (List.append (α:=J4) c [l]))) (some (.inl (List.append (α:=J4) d (List.append (α:=J4) c [l]),e,m,()))) none) none) (cond h (cond j (lets w λz=>cond z (some (.inr (.inl g))) (cond h (cond (dF (List.append (α:=J4) d (List.append (α:=J4) c [i]))) (some (.inl (List.append (α:=J4) d (List.append (α:=J4) c [i]),k,m,()))) none) none)) none) none)) none) none))) none) none) (cond n (cond j (cond (dF (List.append (α:=J4) d (List.append (α:=J4) c [l]))) (some (.inl (List.append (α:=J4) d (List.append (α:=J4) c [l]),e,m,()))) none) none) (cond j (cond h (u.bind λx=>cond x.1 (cond j (cond (dF (List.append (α:=J4) d (List.append (α:=J4) c [l]))) (some (.inl (List.append (α:=J4) d (List.append (α:=J4) c [l]),e,m,()))) none) none) (cond h (cond j (lets w λy=>cond y (some (.inr (.inl g))) (cond h (cond (dF (List.append (α:=J4) d (List.append (α:=J4) c [i]))) (some (.inl (List.append (α:=J4) d (List.append (α:=J4) c [i]),k,m,()))) none) none)) none) none)) none) none)))) (cond (ak .lss f (bw a.2.1)) (cond q (cond h (cond (dF (List.append (α:=J4) d (List.append (α:=J4) c [i]))) (some (.inl (List.append (α:=J4) d (List.append (α:=J4) c [i]),k,f,()))) none) none) (cond o (cond h (cond j (v.bind λx=>cond x.1 (cond h (cond (dF (List.append (α:=J4) d (List.append (α:=J4) c [i]))) (some (.inl (List.append (α:=J4) d (List.append (α:=J4) c [i]),k,f,()))) none) none) (cond n (cond j (cond (dF (List.append (α:=J4) d (List.append (α:=J4) c [l]))) (some (.inl (List.append (α:=J4) d (List.append (α:=J4) c [l]),e,m,()))) none) none) (cond j (cond h (u.bind λy=>cond y.1 (cond j (cond (dF (List.append (α:=J4) d (List.append (α:=J4) c [l]))) (some (.inl (List.append (α:=J4) d (List.append (α:=J4) c [l]),e,m,()))) none) none) (cond h (cond j (lets w λz=>cond z (some (.inr (.inl g))) (cond h (cond (dF (List.append (α:=J4) d (List.append (α:=J4) c [i]))) (some (.inl (List.append (α:=J4) d (List.append (α:=J4) c [i]),k,m,()))) none) none)) none) none)) none) none))) none) none) (cond n (cond j (cond (dF (List.append (α:=J4) d (List.append (α:=J4) c [l]))) (some (.inl (List.append (α:=J4) d (List.append (α:=J4) c [l]),e,m,()))) none) none) (cond j (cond h (u.bind λx=>cond x.1 (cond j (cond (dF (List.append (α:=J4) d (List.append (α:=J4) c [l]))) (some (.inl (List.append (α:=J4) d (List.append (α:=J4) c [l]),e,m,()))) none) none) (cond h (cond j (lets w λy=>cond y (some (.inr (.inl g))) (cond h (cond (dF (List.append (α:=J4) d (List.append (α:=J4) c [i]))) (some (.inl (List.append (α:=J4) d (List.append (α:=J4) c [i]),k,m,()))) none) none)) none) none)) none) none)))) (some (.inr (.inr (.inl (d,()))))))
def LR k x:=iter (Is k) big x
def Kv(a b:Js):YcF:=(Jz a).bind λc=>letI d:=some (([]:Js),false,());cond (Bool.not c.1) d ((Jz b).bind λe=>cond (Bool.not e.1) d ((LR (a,b,()) (([]:Js),0,0,())).bind λf=>Sum.elim (λg=>some (g.1,g.2.1,())) (λg=>Sum.elim (λh=>(Jz h.1).bind λi=>cond (Bool.not i.1) d (some (h.1,true,()))) (λh=>Empty.elim h) g) f))
def js(a:Js):YeA:=cond (ak .gtr (bw a) 0) (cond (dF (List.append (α:=J4) ([]:Js) a)) (some (List.append (α:=J4) ([]:Js) a,())) none) (both (some (([]:Js),())) (cond (dF (List.append (α:=J4) ([]:Js) a)) (some (List.append (α:=J4) ([]:Js) a,())) none))
def KK(a b c d e f g h i j k l m n:Int):J8:=cond (ak .eql a h) (some (ak .eql b i,())) (some (false,()))
def k5(a:Js×YaY)(b:LN):YaZ:=letI c:=a.2.2.2.2;letI d:=ae kS a.1 b.1;letI e:=d.2.2.2;cond (ak .lss b.1 c.2.2.2.2.1) (cond (aZ a.1 b.1) ((KK d.1 d.2.1 d.2.2.1 e.1 e.2.1 e.2.2.1 e.2.2.2 a.2.1 a.2.2.1 a.2.2.2.1 c.1 c.2.1 c.2.2.1 c.2.2.2.1).bind λf=>cond f.1 (some (.inr (.inl (b.1,())))) (some (.inl (aa .add .i64 b.1 1,())))) none) (some (.inr (.inr (.inl ()))))
def qW k x:=iter (k5 k) big x
def mS(a:Js)(b c d e f g h:Int):Oz:=(qW (a,b,c,d,e,f,g,h,bw a,()) (0,())).bind λi=>Sum.elim (λj=>some (j.1,())) (λj=>Sum.elim (λ_=>some (-1,())) (λk=>Empty.elim k) j) i
def OA(a:Int):J8:=some (ak .neq a a,())
def K3(a b:Int):Oz:=(OA a).bind λc=>(OA b).bind λd=>letI e:=some ((0:Int),());letI f:=some ((1:Int),());letI g:=some ((-1:Int),());cond c.1 (cond d.1 e g) (cond d.1 f (cond (ak .lss a b) g (cond (ak .gtr a b) f e)))
def K4(a:Int×YcM)(b:LN):YaZ:=letI c:=ae zI a.2.1 b.1;cond (ak .lss b.1 a.2.2.1) (cond (aZ a.2.1 b.1) (cond (ak .neq c a.1) (some (.inr (.inl (c,())))) (some (.inl (aa .add .i64 b.1 1,())))) none) (some (.inr (.inr (.inl ()))))
def Tz k x:=iter (K4 k) big x
def UY(a:Kz):Oz:=(Tz ((0:Int),a,bw a,()) ((0:Int),())).bind λb=>Sum.elim (λc=>some (c.1,())) (λc=>Sum.elim (λ_=>some (0,())) (λd=>Empty.elim d) c) b
def Jl(a b c d e f g h i j k l m n:Int):Oz:=(K3 a h).bind λo=>(K3 b i).bind λp=>(UY (List.append (α:=Int) (List.append (α:=Int) ([]:Kz) [o.1]) [p.1])).bind λq=>some (q.1,())
def rp(x y:Int×Int×Int×Int×Int×Int×Int):Int:=match Jl x.1 x.2.1 x.2.2.1 x.2.2.2.1 x.2.2.2.2.1 x.2.2.2.2.2.1 x.2.2.2.2.2.2 y.1 y.2.1 y.2.2.1 y.2.2.2.1 y.2.2.2.2.1 y.2.2.2.2.2.1 y.2.2.2.2.2.2 with|some r=>r.1|none=>0
def tW(a:Js):YeA:=cond (dF a) (some (Vo rp a,())) none
def Ky(a:Js×YbY)(b:YbY):YcG:=letI c:=ae kS a.2.1 b.2.1;letI d:=c.2.2.2;cond (ak .lss b.2.1 a.2.2.1) (cond (aZ a.2.1 b.2.1) ((mS a.1 c.1 c.2.1 c.2.2.1 d.1 d.2.1 d.2.2.1 d.2.2.2).bind λe=>letI f:=ae kS a.1 e.1;letI g:=aa .add .i64 b.2.1 1;letI h:=f.2.2.2;cond (ak .lss e.1 0) (cond (dF (List.append (α:=J4) b.1 (List.append (α:=J4) ([]:Js) [c]))) (some (.inl (List.append (α:=J4) b.1 (List.append (α:=J4) ([]:Js) [c]),g,()))) none) (cond (aZ a.1 e.1) (lets (Bool.not (Bool.and (ak .eql f.1 c.1) (Bool.and (ak .eql f.2.1 c.2.1) (Bool.and (ak .eql f.2.2.1 c.2.2.1) (Bool.and (ak .eql h.1 d.1) (Bool.and (ak .eql h.2.1 d.2.1) (Bool.and (ak .eql h.2.2.1 d.2.2.1) (Bool.and (ak .eql h.2.2.2 d.2.2.2) true)))))))) λi=>cond i (some (.inr (.inl (([]:Js),false,())))) (some (.inl (b.1,g,())))) none)) none) (some (.inr (.inr (.inl (b.1,())))))
def LP k x:=iter (Ky k) big x
def Kp(a b:Js):YcF:=(Jx a).bind λc=>letI d:=some (([]:Js),false,());cond (Bool.not c.1) d ((Jx b).bind λe=>cond (Bool.not e.1) d ((js a).bind λf=>(LP (a,b,bw b,()) (f.1,0,())).bind λg=>Sum.elim (λh=>some (h.1,h.2.1,())) (λh=>Sum.elim (λi=>(tW i.1).bind λj=>(Jx j.1).bind λk=>cond (Bool.not k.1) d (some (j.1,true,()))) (λi=>Empty.elim i) h) g))
def MO(a:YbY)(b:YeH):YdE:=letI c:=b.2;letI d:=c.2.2.2;letI e:=c.2.2.1;letI f:=d.2.2;letI g:=d.2.1;letI h:=f.2.1;letI i:=f.2.2.2.1;letI j:=aZ a.1 i;letI k:=ae kS a.1 i;letI l:=aa .add .i64 i 1;letI m:=ak .leq k.1 a.2.1;letI n:=aa .add .i64 k.2.1 1;letI o:=aa .add .i64 k.2.2.1 1;cond (ak .lss i (bw a.1)) (cond j (cond (ak .eql k.1 a.2.1) (cond j (cond j (cond m (cond j (some (.inl (b.1,c.1,n,nS true e o,d.1,g,f.1,h,l,l,()))) none) (cond j (some (.inl (b.1,c.1,n,nS true e o,d.1,g,f.1,h,f.2.2.1,l,()))) none)) none) none) (cond j (cond m (cond j (some (.inl (b.1,c.1,c.2.1,nS true e o,d.1,g,f.1,h,l,l,()))) none) (cond j (some (.inl (b.1,c.1,c.2.1,nS true e o,d.1,g,f.1,h,f.2.2.1,l,()))) none)) none)) none) (some (.inr (.inl (b.1,c.1,c.2.1,e,d.1,g,f.1,h,f.2.2.1,()))))
def Qq k x:=iter (MO k) big x
def QY(a:Js)(b c d e f:Int):YcF:=letI g:=([]:Js);cond (dF (List.append (α:=J4) g a)) ((Jz a).bind λh=>cond (Bool.not h.1) (some (List.append (α:=J4) g a,false,())) ((Qq (a,b,()) (List.append (α:=J4) g a,b,1,1,c,d,e,f,0,0,())).bind λi=>Sum.elim (λj=>letI k:=j.2.2.2.2;letI l:=k.2.2.2.2.1;letI m:=yD a 0 l;letI n:=yD a l (bw a);letI o:=(j.2.1,j.2.2.1,j.2.2.2.1,k.1,k.2.1,k.2.2.1,k.2.2.2.1);cond (mT a (0:Int) l) (cond (dF (List.append (α:=J4) g m)) (cond (dF (List.append (α:=J4) (List.append (α:=J4) g m) (List.append (α:=J4) g [o]))) (cond (mT a l (bw a)) (cond (dF (List.append (α:=J4) (List.append (α:=J4) (List.append (α:=J4) g m) (List.append (α:=J4) g [o])) n)) ((Jz (List.append (α:=J4) (List.append (α:=J4) (List.append (α:=J4) g m) (List.append (α:=J4) g [o])) n)).bind λp=>cond (Bool.not p.1) (some (j.1,false,())) (some (List.append (α:=J4) (List.append (α:=J4) (List.append (α:=J4) g m) (List.append (α:=J4) g [o])) n,true,()))) none) none) none) none) none) (λj=>Empty.elim j) i)) none
abbrev Ev:=Int×Int×Int×Int×Int×Int×Int
def Jc(a lo hi:Int):Bool:=bif decide (a>=lo)then decide (a<=hi)else false
def bu(a lo hi:Int):ct a lo hi=some (Jc a lo hi,()):=by unfold ct Jc;simp only[ak];cases decide (a>=lo) <;> rfl
def qB(a lo hi:Int):bS a lo hi=some (Jc a lo hi,()):=bu a lo hi
def Le(a:Int):I9 a=some (Jc a 0 20000,()):=by unfold I9;rw[bu];rfl
def Us(e:Ev):Bool:=bif Jc e.1 0 5 then bif Jc e.2.1 1 999 then bif Jc e.2.2.1 1 100000 then bif Jc e.2.2.2.1 1 4 then bif Jc e.2.2.2.2.1 1 999 then bif Jc e.2.2.2.2.2.1 0 20000 then Jc e.2.2.2.2.2.2 0 20000 else false else false else false else false else false else false
def JR{α:Type}(b:Bool)(x y:α):(bif b then some x else some y)=some (bif b then x else y):=by cases b <;> rfl
def Rm(b x y:Bool):(bif b then(x,())else(y,()))=((bif b then x else y),()):=by cases b <;> rfl
def ag3(a b c d e f g:Int):SP a b c d e f g=some (Us (a,b,c,d,e,f,g),()):=by unfold SP Us;simp only[qB,vP,JR,Rm]
def agK(a b c d e f g:Int):Su a b c d e f g=some (Us (a,b,c,d,e,f,g),()):=by unfold Su Us;simp only[bu,Le,vP,JR,Rm]
def acN(p e:Ev):Bool:=!(decide (e.1<p.1)||(decide (e.1=p.1)&&(decide (e.2.1<=p.2.1)||decide (e.2.2.1<=p.2.2.1))))
def Sj(l:List Ev):Nat->Bool
 |0=>Us (l.getD 0 kS)
 |n+1=>Us (l.getD (n+1) kS)&&acN (l.getD n kS) (l.getD (n+1) kS)
def S7(l:List Ev):Bool:=bif decide (60<l.length)then false else bO (Sj l) 0 l.length
def ajY(l:List Ev):ak .gtr (bw l) (60:Int)=decide (60<l.length):=by simp only[ak,bw,gt_iff_lt,xN];omega
def Xt(l:List Ev):Jx l=some (S7 l,()):=by
 unfold Jx S7;rw[ajY];cases c:decide (60<l.length)with
 |true=>rfl
 |false=>
  have c:l.length<=60:=by have:=zc c;omega
  have a:OL (l,l,(bw l),()) ((0:Int),())=some (bif bO (Sj l) 0 l.length then(Sum.inr (Sum.inl ()):Bool×Unit⊕(Unit⊕Empty))else Sum.inl (false,())):=by
   refine wN (λn=>((n:Int),())) l.length (by omega) (Sj l) _ _ (λn g=>?_) ?_
   .unfold OK;simp only[bP,dX,cw,agK,g,xC,aJ,vP];cases n with
    |zero=>simp only[Sj];cases Us (l.getD 0 kS) <;> rfl
    |succ n=>
     have b:n<l.length:=by omega
     simp only[Sj,eW (n:=n+1) (by omega),Fj (n:=n) (by omega),Di b,cw,acN,ak];have d:((((n+1:Nat):Int))==0)=false:=by rw[beq_eq_false_iff_ne];omega
     rw[d];simp only[cz,aJ];generalize l.getD (n+1) kS=e;generalize l.getD n kS=p;show(bif !(Us e)then _ else _)=_;cases Us e with
     |false=>rfl
     |true=>
      simp only[l7,cz,uu];cases decide (e.1<p.1)with
      |true=>rfl
      |false=>
       simp only[cz,ac5];have f:(e.1==p.1)=decide (e.1=p.1):=rfl;rw[f];cases decide (e.1=p.1)with
       |false=>rfl
       |true=>
        simp only[aJ,uu];cases decide (e.2.1<=p.2.1)with
        |true=>rfl
        |false=>cases decide (e.2.2.1<=p.2.2.1) <;> rfl
   .unfold OK;simp only[bP,iO,sC,cz]
  rw[a];cases bO (Sj l) 0 l.length <;> rfl
def gt0(n:Nat):ak .gtr ((n+1:Nat):Int) 0=true:=by simp only[ak,gt_iff_lt,qF];omega
def XU(l:List Ev):Jz l=some (S7 l,()):=by
 unfold Jz S7;rw[ajY];cases c:decide (60<l.length)with
 |true=>rfl
 |false=>
  have c:l.length<=60:=by have:=zc c;omega
  have a:PF (l,()) ((0:Int),())=some (bif bO (Sj l) 0 l.length then(Sum.inr (Sum.inl ()):Bool×Unit⊕(Unit⊕Empty))else Sum.inl (false,())):=by
   refine wN (λn=>((n:Int),())) l.length (by omega) (Sj l) _ _ (λn f=>?_) ?_
   .unfold PE;simp only[bP,dX,cw,ag3,f,xC,aJ,vP];cases n with
    |zero=>simp only[Sj];cases Us (l.getD 0 kS) <;> rfl
    |succ n=>
     have b:n<l.length:=by omega
     simp only[Sj,gt0,eW (n:=n+1) (by omega),Fj (n:=n) (by omega),Di b,cw,acN,aJ];simp only[ak];generalize l.getD (n+1) kS=e;generalize l.getD n kS=p;show(bif !(Us e)then _ else _)=_;cases Us e with
     |false=>rfl
     |true=>
      simp only[l7,cz,uu];cases decide (e.1<p.1)with
      |true=>rfl
      |false=>
       simp only[cz,ac5];have d:(e.1==p.1)=decide (e.1=p.1):=rfl;rw[d];cases decide (e.1=p.1)with
       |false=>rfl
       |true=>
        simp only[aJ,uu];cases decide (e.2.1<=p.2.1)with
        |true=>rfl
        |false=>cases decide (e.2.2.1<=p.2.2.1) <;> rfl
   .unfold PE;simp only[bP,iO,sC,cz]
  rw[a];cases bO (Sj l) 0 l.length <;> rfl
def ajH(a b c d e f g:Int):Wj a b c d e f g=some (a,b,c,d,e,f,g,()):=rfl
def aeU(l:List Ev)(c:l.length<=1073741824):NB l=some (l,()):=by
 unfold NB;rw[C3 c];have a:MK (l,()) (List.replicate l.length (0,0,0,0,0,0,0),(0:Int),())=some (Sum.inl (l,())):=by
  have:=lc (body:=MJ (l,())) (λn=>(l.take n++List.replicate (l.length-n) (0,0,0,0,0,0,0),(n:Int),())) l.length (by omega) (Sum.inl (l,())) (λn b=>?_) ?_
  .unfold MK;simpa using this
  .unfold MJ;have e:n<(l.take n++List.replicate (l.length-n) ((0,0,0,0,0,0,0):Ev)).length:=by rw[DF _ _ (ed b)];exact b
   simp only[bP,dX,b,e,xC,aJ,cw,ajH,vP,eW (n:=n) (by omega),jt];rw[<-DP l (0,0,0,0,0,0,0) b,EE b kS (0,0,0,0,0,0,0)]
  .unfold MJ;simp only[bP,iO,sC,cz,sA,YK,e9,eL]
 have d:nw (bw l) ((0:Int),(0:Int),(0:Int),(0:Int),(0:Int),(0:Int),(0:Int))=List.replicate l.length (0,0,0,0,0,0,0):=EH _ _;rw[d];simp only[aJ];rw[a];rfl
def F0(a:Int):ak .neq a a=false:=by simp[ak]
def agF(a b c d e f g:Int):SG a b c d e f g a b c d e f g=some (true,()):=by unfold SG;simp only[F0,cz]
def abw(l:List Ev)(c:l.length<=1073741824):Nx l l=some (true,()):=by
 unfold Nx;rw[F0];have a:Qh (l,l,()) ((0:Int),())=some (Sum.inr (Sum.inl ())):=by
  refine lc (λn=>((n:Int),())) l.length (by omega) _ (λn b=>?_) ?_
  .unfold Qg;simp only[bP,dX,b,xC,aJ,agF,vP,eW (n:=n) (by omega)];rfl
  .unfold Qg;simp only[bP,iO,sC,cz]
 simp only[cz];rw[a];rfl
def ab1(l:List Ev)(a:Int)(f:l.length<=9223372036854775807)(e:0<=a)(d:a<=1048576):Nz l a=some (bif decide (a<(l.length:Int))then -1 else a-(l.length:Int),()):=by
 unfold Nz;have b:aa .sub .i64 a (bw l)=a-(l.length:Int):=vm (by unfold bw;omega) (by unfold bw;omega);rw[b];have c:ak .lss (a-(l.length:Int)) 0=decide (a<(l.length:Int)):=by simp only[ak,xN];omega
 rw[c];cases decide (a<(l.length:Int)) <;> rfl
def ag9(l:List Int)(c:l.length<=1073741824):Vm l=some (l,()):=by
 unfold Vm;rw[C3 c];have a:Pr (l,()) (List.replicate l.length 0,(0:Int),())=some (Sum.inl (l,())):=by
  have:=lc (body:=Pq (l,())) (λn=>(l.take n++List.replicate (l.length-n) 0,(n:Int),())) l.length (by omega) (Sum.inl (l,())) (λn b=>?_) ?_
  .unfold Pr;simpa using this
  .unfold Pq;have e:n<(l.take n++List.replicate (l.length-n) (0:Int)).length:=by rw[DF _ _ (ed b)];exact b
   simp only[bP,dX,b,e,xC,aJ,cw,eW (n:=n) (by omega),jt];rw[<-DP l 0 b,EE b zI 0]
  .unfold Pq;simp only[bP,iO,sC,cz,sA,YK,e9,eL]
 have d:nw (bw l) (0:Int)=List.replicate l.length 0:=EH _ _;rw[d];simp only[aJ];rw[a];rfl
def aaJ(l:List Int)(c:l.length<=1073741824):Oi l l=some (true,()):=by
 unfold Oi;rw[F0];have a:TU (l,l,()) ((0:Int),())=some (Sum.inr (Sum.inl ())):=by
  refine lc (λn=>((n:Int),())) l.length (by omega) _ (λn b=>?_) ?_
  .unfold TT;simp only[bP,dX,b,xC,aJ,F0,eW (n:=n) (by omega)];rfl
  .unfold TT;simp only[bP,iO,sC,cz]
 simp only[cz];rw[a];rfl
def RC{a:Int}(b:0<=a)(c:a<=4611686018427387904):aa .add .i64 a 1=a+1:=sO (by omega) (by omega)
def P3{α:Type}(l:List α)(f:Nat->α)(n:Nat):List α:=(List.range n).map f++l.drop n
def X1{α:Type}(l:List α)(f:Nat->α){n:Nat}(h:n<=l.length):(P3 l f n).length=l.length:=by simp only[P3,jv,vh,akh,Bt];omega
def acA{α:Type}(l:List α)(f:Nat->α){n:Nat}(h:n<l.length):(P3 l f n).set n (f n)=P3 l f (n+1):=by
 unfold P3;have a:((List.range n).map f).length=n:=by simp
 rw[List.set_append,dS (by omega),a,sA,ac2,zX,je];congr 1;rw[ac8 h];rfl
def acz{α:Type}(f:Nat->α)(k:Nat){n:Nat}(h:n<k)(z:α):((List.range k).map f).getD n z=f n:=by rw[uo,kU,ahE h];rfl
def RY(k:Int)(n:Nat):List Int:=(List.range n).map λi:Nat=>k+(i:Int)
def aaP(l:List Int)(k:Int)(g:l.length<=1073741824)(e:0<=k)(f:k<=1125899906842624):Ny l k=some (k+(l.length:Int),RY k l.length,()):=by
 unfold Ny;have a:MH () (l,k,(0:Int),())=some (Sum.inl (RY k l.length,k+(l.length:Int),())):=by
  have:=lc (body:=MG ()) (λn=>(P3 l (λi=>k+(i:Int)) n,k+(n:Int),(n:Int),())) l.length (by omega) (Sum.inl (RY k l.length,k+(l.length:Int),())) (λn b=>?_) ?_
  .unfold MH;have d:P3 l (λi=>k+(i:Int)) 0=l:=by simp[P3]
   simp only[d]at this;simpa using this
  .unfold MG;have c:n<(P3 l (λi=>k+(i:Int)) n).length:=by rw[X1 _ _ (ed b)];exact b
   simp only[bP,dX,c,xC,aJ,eW (n:=n) (by omega),jt];rw[RC (by omega) (by omega),<-acA _ _ b];have:k+(n:Int)+1=k+((n+1:Nat):Int):=by omega
   rw[this]
  .unfold MG;have c:(P3 l (λi=>k+(i:Int)) l.length).length=l.length:=X1 _ _ (az _);simp only[bP,c,iO,sC,cz];simp[P3,RY]
 rw[a];rfl
def aaL(n:Nat)(k:Int)(g:n<=1073741824)(e:0<=k)(f:k<=1125899906842624):LL (RY k n) k=some (k+(n:Int),()):=by
 unfold LL;have a:(RY k n).length=n:=by simp[RY]
 have b:MC (RY k n,()) (k,(0:Int),())=some (Sum.inr (Sum.inl (k+(n:Int),()))):=by
  have:=lc (body:=MB (RY k n,())) (λm=>(k+(m:Int),(m:Int),())) n (by omega) (Sum.inr (Sum.inl (k+(n:Int),()))) (λm c=>?_) ?_
  .unfold MC;simpa using this
  .unfold MB;have d:(RY k n).getD m zI=k+(m:Int):=acz _ _ c _;simp only[bP,a,dX,c,xC,aJ,cw,d,F0,cz,eW (n:=m) (by omega)];rw[RC (by omega) (by omega)];have:k+(m:Int)+1=k+((m+1:Nat):Int):=by omega
   rw[this]
  .unfold MB;simp only[bP,a,iO,sC,cz]
 rw[b];rfl
def YI(k:Int)(i:Nat):Ev:=(k+7*(i:Int),k+7*(i:Int)+1,k+7*(i:Int)+1+1,k+7*(i:Int)+1+1+1,k+7*(i:Int)+1+1+1+1,k+7*(i:Int)+1+1+1+1+1,k+7*(i:Int)+1+1+1+1+1+1)
def Pv(k:Int)(n:Nat):List Ev:=(List.range n).map (YI k)
def YJ(l:List Ev)(k:Int)(v:l.length<=1073741824)(s:0<=k)(t:k<=1099511627776):LC l k=some (k+7*(l.length:Int),Pv k l.length,()):=by
 unfold LC;have a:Lr () (l,k,(0:Int),())=some (Sum.inl (Pv k l.length,k+7*(l.length:Int),())):=by
  have:=lc (body:=Lq ()) (λn=>(P3 l (YI k) n,k+7*(n:Int),(n:Int),())) l.length (by omega) (Sum.inl (Pv k l.length,k+7*(l.length:Int),())) (λn c=>?_) ?_
  .unfold Lr;have p:P3 l (YI k) 0=l:=by simp[P3]
   simp only[p]at this;simpa using this
  .have b:n<(P3 l (YI k) n).length:=by rw[X1 _ _ (ed c)];exact c
   rw[<-acA l (YI k) c];generalize u:P3 l (YI k) n=L at b;have r:k+7*((n+1:Nat):Int)=k+7*(n:Int)+1+1+1+1+1+1+1:=by omega
   rw[r];unfold YI;have e:0<=k+7*(n:Int):=by omega
   have f:k+7*(n:Int)<=1125899906842624:=by omega
   revert e f;generalize k+7*(n:Int)=q;intro e f;have g:aa .add .i64 q 1=q+1:=RC (by omega) (by omega);have h:aa .add .i64 (q+1) 1=q+1+1:=RC (by omega) (by omega);have i:aa .add .i64 (q+1+1) 1=q+1+1+1:=RC (by omega) (by omega);have j:aa .add .i64 (q+1+1+1) 1=q+1+1+1+1:=RC (by omega) (by omega);have m:aa .add .i64 (q+1+1+1+1) 1=q+1+1+1+1+1:=RC (by omega) (by omega);have o:aa .add .i64 (q+1+1+1+1+1) 1=q+1+1+1+1+1+1:=RC (by omega) (by omega);have d:aa .add .i64 (q+1+1+1+1+1+1) 1=q+1+1+1+1+1+1+1:=RC (by omega) (by omega);unfold Lq;simp only[bP,dX,b,xC,aJ,eW (n:=n) (by omega),jt,cw,g,h,i,j,m,o,d];iterate 8 (rw[jE];try simp only[uI,gf,b,xC,aJ,jt,cw,cP b,um,d])
  .unfold Lq;have b:(P3 l (YI k) l.length).length=l.length:=X1 _ _ (az _);simp only[bP,b,iO,sC,cz];simp[P3,Pv]
 rw[a];rfl
def YB(n:Nat)(k:Int)(u:n<=1073741824)(s:0<=k)(t:k<=1099511627776):LB (Pv k n) k=some (k+7*(n:Int),()):=by
 unfold LB;have a:(Pv k n).length=n:=by simp[Pv]
 have b:Lp (Pv k n,()) (k,(0:Int),())=some (Sum.inr (Sum.inl (k+7*(n:Int),()))):=by
  have:=lc (body:=Lo (Pv k n,())) (λm=>(k+7*(m:Int),(m:Int),())) n (by omega) (Sum.inr (Sum.inl (k+7*(n:Int),()))) (λm f=>?_) ?_
  .unfold Lp;simpa using this
  .have c:(Pv k n).getD m kS=YI k m:=acz _ _ f _;have r:k+7*((m+1:Nat):Int)=k+7*(m:Int)+1+1+1+1+1+1+1:=by omega
   rw[r];unfold YI at c;have d:0<=k+7*(m:Int):=by omega
   have e:k+7*(m:Int)<=1125899906842624:=by omega
   revert d e c;generalize k+7*(m:Int)=q;intro c d e;have g:aa .add .i64 q 1=q+1:=RC (by omega) (by omega);have h:aa .add .i64 (q+1) 1=q+1+1:=RC (by omega) (by omega);have i:aa .add .i64 (q+1+1) 1=q+1+1+1:=RC (by omega) (by omega);have j:aa .add .i64 (q+1+1+1) 1=q+1+1+1+1:=RC (by omega) (by omega);have l:aa .add .i64 (q+1+1+1+1) 1=q+1+1+1+1+1:=RC (by omega) (by omega);have o:aa .add .i64 (q+1+1+1+1+1) 1=q+1+1+1+1+1+1:=RC (by omega) (by omega);have p:aa .add .i64 (q+1+1+1+1+1+1) 1=q+1+1+1+1+1+1+1:=RC (by omega) (by omega);unfold Lo;simp only[bP,a,dX,f,xC,aJ,cw,c,F0,cz,eW (n:=m) (by omega),g,h,i,j,l,o,p,jE]
  .unfold Lo;simp only[bP,a,iO,sC,cz]
 rw[b];rfl
def Lm{l:List Ev}(h:S7 l=true):l.length<=60:=by
 unfold S7 at h;cases hd:decide (60<l.length)with
 |true=>rw[hd]at h;cases h
 |false=>have:=zc hd;omega
def afs{l:List Ev}(h:S7 l=true){n:Nat}(b:n<l.length):Sj l n=true:=by have a:=Lm h;unfold S7 at h;rw[zb (by omega)]at h;exact(iW _ _).1 h n (kR _) (by omega)
def aft{l:List Ev}(h:S7 l=true){n:Nat}(a:n<l.length):Us (l.getD n kS)=true:=by
 have:=afs h a;cases n with
 |zero=>exact this
 |succ n=>simp only[Sj,aQ]at this;exact this.1
def kx{a lo hi:Int}:Jc a lo hi=true↔lo<=a/\a<=hi:=by
 unfold Jc;by_cases h:lo<=a
 .rw[xD (show a>=lo from h)];simp[h]
 .rw[zb (show ¬a>=lo from h)];simp[h]
def ade{a b:Bool}:(bif a then b else false)=true↔a=true/\b=true:=by cases a <;> simp
def VZ{e:Ev}:Us e=true↔(0<=e.1/\e.1<=5)/\(1<=e.2.1/\e.2.1<=999)/\(1<=e.2.2.1/\e.2.2.1<=100000)/\(1<=e.2.2.2.1/\e.2.2.2.1<=4)/\(1<=e.2.2.2.2.1/\e.2.2.2.2.1<=999)/\(0<=e.2.2.2.2.2.1/\e.2.2.2.2.2.1<=20000)/\(0<=e.2.2.2.2.2.2/\e.2.2.2.2.2.2<=20000):=by unfold Us;simp only[ade,kx]
def X3{α:Type}{l:List α}{i:Int}(a:0<=i)(b:i<(l.length:Int)):aZ l i=true:=by unfold aZ;rw[aQ];exact⟨xD a,xD b⟩
def Jk{a:Int}(h:0<=a):ak .lss a 0=false:=by simp only[ak,xS];omega
def qe{α:Type}{l:List α}(h:l.length<=1073741824):dF l=true:=by unfold dF limit;exact xD (by omega)
def ahc(a b:Int):XA a b=some (a,b,()):=rfl
def ab4(l:List (Int×Int))(c:l.length<=1073741824):Pu l=some (l,()):=by
 unfold Pu;rw[C3 c];have a:NO (l,()) (List.replicate l.length (0,0),(0:Int),())=some (Sum.inl (l,())):=by
  have:=lc (body:=NN (l,())) (λn=>(l.take n++List.replicate (l.length-n) (0,0),(n:Int),())) l.length (by omega) (Sum.inl (l,())) (λn b=>?_) ?_
  .unfold NO;simpa using this
  .unfold NN;have e:n<(l.take n++List.replicate (l.length-n) ((0,0):Int×Int)).length:=by rw[DF _ _ (ed b)];exact b
   simp only[bP,dX,b,e,xC,aJ,cw,ahc,vP,eW (n:=n) (by omega),jt];rw[<-DP l (0,0) b,EE b S4 (0,0)]
  .unfold NN;simp only[bP,iO,sC,cz,sA,YK,e9,eL]
 have d:nw (bw l) (((0:Int),(0:Int)))=List.replicate l.length (0,0):=EH _ _;rw[d];simp only[aJ];rw[a];rfl
def aeg(a b:Int):Vg a b a b=some (true,()):=by unfold Vg;simp only[F0,cz]
def Zo(l:List (Int×Int))(c:l.length<=1073741824):O5 l l=some (true,()):=by
 unfold O5;rw[F0];have a:RV (l,l,()) ((0:Int),())=some (Sum.inr (Sum.inl ())):=by
  refine lc (λn=>((n:Int),())) l.length (by omega) _ (λn b=>?_) ?_
  .unfold RU;simp only[bP,dX,b,xC,aJ,aeg,vP,eW (n:=n) (by omega)];rfl
  .unfold RU;simp only[bP,iO,sC,cz]
 simp only[cz];rw[a];rfl
def ab2(l:List (Int×Int))(a:Int)(f:l.length<=9223372036854775807)(e:0<=a)(d:a<=1048576):Pj l a=some (bif decide (a<(l.length:Int))then -1 else a-(l.length:Int),()):=by
 unfold Pj;have b:aa .sub .i64 a (bw l)=a-(l.length:Int):=vm (by unfold bw;omega) (by unfold bw;omega);rw[b];have c:ak .lss (a-(l.length:Int)) 0=decide (a<(l.length:Int)):=by simp only[ak,xN];omega
 rw[c];cases decide (a<(l.length:Int)) <;> rfl
abbrev Na:=Int×Int
def Wo(l:List Na)(a:Int)(n:Nat):Bool:=
 bif ak .lss (l.getD n S4).1 0 then false else bif ak .geq (l.getD n S4).1 (l.getD n S4).2 then false else bif ak .gtr (l.getD n S4).2 a then false else
  match n with
  |0=>true
  |m+1=>bif ak .leq (l.getD (m+1) S4).1 (l.getD m S4).2 then false else true
def SK(l:List Na)(a:Int):Bool:=bif decide (20<l.length)then false else bO (Wo l a) 0 l.length
def ajX{α:Type}(l:List α):ak .gtr (bw l) (20:Int)=decide (20<l.length):=by simp only[ak,bw,gt_iff_lt,xN];omega
def aoT:ak .gtr ((0:Nat):Int) 0=false:=rfl
def adP(l:List Na)(a:Int):PM l a=some (SK l a,()):=by
 unfold PM SK;rw[ajX];cases d:decide (20<l.length)with
 |true=>rfl
 |false=>
  have d:l.length<=20:=by have:=zc d;omega
  have b:R1 (l,a,()) ((0:Int),())=some (bif bO (Wo l a) 0 l.length then(Sum.inr (Sum.inl ()):Bool×Unit⊕(Unit⊕Empty))else Sum.inl (false,())):=by
   refine wN (λn=>((n:Int),())) l.length (by omega) (Wo l a) _ _ (λn e=>?_) ?_
   .unfold R0 Wo;simp only[bP,dX,cw,e,xC,aJ];cases n with
    |zero=>simp only[aoT,cz];cases ak .lss (l.getD 0 S4).1 0 <;> cases ak .geq (l.getD 0 S4).1 (l.getD 0 S4).2 <;> cases ak .gtr (l.getD 0 S4).2 a <;> rfl
    |succ n=>
     have c:n<l.length:=by omega
     simp only[gt0,eW (n:=n+1) (by omega),Fj (n:=n) (by omega),Di c,cw,aJ];cases ak .lss (l.getD (n+1) S4).1 0 <;> cases ak .geq (l.getD (n+1) S4).1 (l.getD (n+1) S4).2 <;> cases ak .gtr (l.getD (n+1) S4).2 a <;> cases ak .leq (l.getD (n+1) S4).1 (l.getD n S4).2 <;> rfl
   .unfold R0;simp only[bP,iO,sC,cz]
  rw[b];cases bO (Wo l a) 0 l.length <;> rfl
def adr(l:List Na)(a:Int):OR l a=some (SK l a,()):=by
 unfold OR SK;rw[ajX];cases d:decide (20<l.length)with
 |true=>rfl
 |false=>
  have d:l.length<=20:=by have:=zc d;omega
  have b:RH (l,a,l,bw l,()) ((0:Int),())=some (bif bO (Wo l a) 0 l.length then(Sum.inr (Sum.inl ()):Bool×Unit⊕(Unit⊕Empty))else Sum.inl (false,())):=by
   refine wN (λn=>((n:Int),())) l.length (by omega) (Wo l a) _ _ (λn e=>?_) ?_
   .unfold RG Wo;simp only[bP,dX,cw,e,xC,aJ];cases n with
    |zero=>simp only[aoT,cz];cases ak .lss (l.getD 0 S4).1 0 <;> cases ak .geq (l.getD 0 S4).1 (l.getD 0 S4).2 <;> cases ak .gtr (l.getD 0 S4).2 a <;> rfl
    |succ n=>
     have c:n<l.length:=by omega
     simp only[gt0,eW (n:=n+1) (by omega),Fj (n:=n) (by omega),Di c,cw,aJ];cases ak .lss (l.getD (n+1) S4).1 0 <;> cases ak .geq (l.getD (n+1) S4).1 (l.getD (n+1) S4).2 <;> cases ak .gtr (l.getD (n+1) S4).2 a <;> cases ak .leq (l.getD (n+1) S4).1 (l.getD n S4).2 <;> rfl
   .unfold RG;simp only[bP,iO,sC,cz]
  rw[b];cases bO (Wo l a) 0 l.length <;> rfl
def KD(o c:List Na):Bool:=bif SK o 168 then SK c 20000 else false
def Mi(o c:List Na):KP o c=some (KD o c,()):=by unfold KP KD;simp only[adP,vP,JR,Rm]
def Li(o c:List Na):Kg o c=some (KD o c,()):=by unfold Kg KD;simp only[adr,vP,JR,Rm]
def aaS{l:List Na}{a:Int}(h:SK l a=true):l.length<=20:=by
 unfold SK at h;cases hd:decide (20<l.length)with
 |true=>rw[hd]at h;cases h
 |false=>have:=zc hd;omega
def Uo{o c:List Na}(h:KD o c=true):o.length<=20/\c.length<=20:=by
 unfold KD at h;cases a:SK o 168 with
 |true=>rw[a]at h;exact⟨aaS a,aaS h⟩
 |false=>rw[a]at h;cases h
def ZQ(l:List Na)(x:Int)(n:Nat):Bool:=bif ak .leq (l.getD n S4).1 x then !ak .lss x (l.getD n S4).2 else true
def agM(l:List Na)(x:Int):Bool:=!bO (ZQ l x) 0 l.length
def ajc(a b:Int):ak .geq a b=ak .leq b a:=rfl
def acT(l:List Na)(x:Int)(c:l.length<=1073741824):Mm l x=some (agM l x,()):=by
 unfold Mm agM;have a:PO (l,x,()) ((0:Int),())=some (bif bO (ZQ l x) 0 l.length then(Sum.inr (Sum.inl ()):Bool×Unit⊕(Unit⊕Empty))else Sum.inl (true,())):=by
  refine wN (λn=>((n:Int),())) l.length (by omega) (ZQ l x) _ _ (λn b=>?_) ?_
  .unfold PN ZQ;simp only[bP,dX,cw,b,xC,aJ,eW (n:=n) (by omega)];cases ak .leq (l.getD n S4).1 x <;> cases ak .lss x (l.getD n S4).2 <;> rfl
  .unfold PN;simp only[bP,iO,sC,cz]
 rw[a];cases bO (ZQ l x) 0 l.length <;> rfl
def acF(l:List Na)(x:Int)(c:l.length<=1073741824):OU l x=some (agM l x,()):=by
 unfold OU agM;have a:RQ (x,l,bw l,()) ((0:Int),())=some (bif bO (ZQ l x) 0 l.length then(Sum.inr (Sum.inl ()):Bool×Unit⊕(Unit⊕Empty))else Sum.inl (true,())):=by
  refine wN (λn=>((n:Int),())) l.length (by omega) (ZQ l x) _ _ (λn b=>?_) ?_
  .unfold RP ZQ;simp only[bP,dX,cw,b,xC,aJ,eW (n:=n) (by omega),ajc];cases ak .leq (l.getD n S4).1 x <;> cases ak .lss x (l.getD n S4).2 <;> rfl
  .unfold RP;simp only[bP,iO,sC,cz]
 rw[a];cases bO (ZQ l x) 0 l.length <;> rfl
def TZ(o c:List Na)(x:Int):Bool:=bif agM o (aa .rem .i64 x 168)then Bool.not (agM c x)else false
def z168:eE (168:Int)=false:=rfl
def Vq{o c:List Na}(x:Int)(b:o.length<=20)(a:c.length<=20):MW o c x=some (TZ o c x,()):=by unfold MW TZ;simp only[z168,cz,acT o _ (by omega),acT c _ (by omega),vP,JR,Rm]
def U0{o c:List Na}(x:Int)(b:o.length<=20)(a:c.length<=20):Oh o c x=some (TZ o c x,()):=by unfold Oh TZ;simp only[z168,cz,acF o _ (by omega),acF c _ (by omega),vP,JR,Rm]
def Rz(o c:List Na)(a:Int)(k:Nat):Int:=(List.range k).foldl (λ(n:Int) (i:Nat)=>bif TZ o c (a+(i:Int))then n+1 else n) 0
def hours(o c:List Na)(a b:Int):Int:=bif KD o c then bif Jc a 0 20000 then bif Jc b 0 20000 then Rz o c a (b-a).toNat else 0 else 0 else 0
def Zj(o c:List Na)(a:Int)(k:Nat):Rz o c a (k+1)=bif TZ o c (a+(k:Int))then Rz o c a k+1 else Rz o c a k:=by unfold Rz;rw[ac2,Br];rfl
def XQ(o c:List Na)(a:Int):∀k:Nat,0<=Rz o c a k/\Rz o c a k<=(k:Int)
 |0=>⟨uq 0,uq 0⟩
 |k+1=>by
  have:=XQ o c a k;rw[Zj];cases TZ o c (a+(k:Int))with
  |true=>simp only[aJ];omega
  |false=>simp only[cz];omega
def adK(o c:List Na)(a b:Int):PK o c a b=some (hours o c a b,()):=by
 unfold PK hours;simp only[Mi,qB,vP];cases l:KD o c with
 |false=>rfl
 |true=>
  obtain⟨k,j⟩:=Uo l;simp only[l7,cz,aJ];cases f:Jc a 0 20000 with
  |false=>rfl
  |true=>
   simp only[l7,cz,aJ];cases g:Jc b 0 20000 with
   |false=>rfl
   |true=>
    have f:=kx.1 f;have g:=kx.1 g;simp only[l7,cz,aJ];have d:L4 (b,o,c,()) ((0:Int),a,())=some (Sum.inl (Rz o c a (b-a).toNat,())):=by
     have:=lc (body:=L3 (b,o,c,())) (λn=>(Rz o c a n,a+(n:Int),())) (b-a).toNat (by omega) (Sum.inl (Rz o c a (b-a).toNat,())) (λn m=>?_) ?_
     .unfold L4;simpa[Rz] using this
     .have i:=XQ o c a n;unfold L3;have e:ak .lss (a+(n:Int)) b=true:=by simp only[ak,qF];omega
      simp only[e,aJ,Vq _ k j,vP];rw[Zj,RC (a:=a+(n:Int)) (by omega) (by omega),RC (a:=Rz o c a n) (by omega) (by omega)];have h:a+(n:Int)+1=a+((n+1:Nat):Int):=by omega
      rw[h];cases TZ o c (a+(n:Int)) <;> rfl
     .unfold L3;have e:ak .lss (a+((b-a).toNat:Int)) b=false:=by simp only[ak,xS];omega
      simp only[e,cz]
    rw[d];rfl
def ado(o c:List Na)(a b:Int):OP o c a b=some (hours o c a b,()):=by
 unfold OP hours;simp only[Li,Le,vP];cases l:KD o c with
 |false=>rfl
 |true=>
  obtain⟨k,j⟩:=Uo l;simp only[l7,cz,aJ];cases f:Jc a 0 20000 with
  |false=>rfl
  |true=>
   simp only[l7,cz,aJ];cases g:Jc b 0 20000 with
   |false=>rfl
   |true=>
    have f:=kx.1 f;have g:=kx.1 g;simp only[l7,cz,aJ];have d:LV (b,o,c,()) ((0:Int),a,())=some (Sum.inl (Rz o c a (b-a).toNat,())):=by
     have:=lc (body:=LU (b,o,c,())) (λn=>(Rz o c a n,a+(n:Int),())) (b-a).toNat (by omega) (Sum.inl (Rz o c a (b-a).toNat,())) (λn m=>?_) ?_
     .unfold LV;simpa[Rz] using this
     .have i:=XQ o c a n;unfold LU;have e:ak .lss (a+(n:Int)) b=true:=by simp only[ak,qF];omega
      simp only[e,aJ,U0 _ k j,vP];rw[Zj,RC (a:=a+(n:Int)) (by omega) (by omega),RC (a:=Rz o c a n) (by omega) (by omega)];have h:a+(n:Int)+1=a+((n+1:Nat):Int):=by omega
      rw[h];cases TZ o c (a+(n:Int)) <;> rfl
     .unfold LU;have e:ak .lss (a+((b-a).toNat:Int)) b=false:=by simp only[ak,xS];omega
      simp only[e,cz]
    rw[d];rfl
def L6(a b c d e f g h:Int):Bool:=bif Jc a 1 2000 then bif Jc c 1 2000 then bif Jc f 1 2000 then bif Jc b 0 2000 then bif Jc d 0 10000 then bif Jc e 0 1000000 then bif Jc g 0 100000 then Jc h 0 20 else false else false else false else false else false else false else false
def Wr(a b c d e f g h:Int):MV a b c d e f g h=some (L6 a b c d e f g h,()):=by unfold MV L6;simp only[qB,vP,JR,Rm]
def Wc(a b c d e f g h:Int):Mt a b c d e f g h=some (L6 a b c d e f g h,()):=by unfold Mt L6;simp only[bu,vP,JR,Rm]
def ZX{b c a d e f g i:Int}(h:L6 b c a d e f g i=true):1<=a:=by unfold L6 at h;simp only[ade,kx]at h;exact h.2.1.1
def over(free step rate cap size open_:Int):Int:=nS false cap (aa .mul .i64 (aa .mul .i64 (aa .quo .i64 (aa .sub .i64 (aa .add .i64 (aa .sub .i64 open_ free) step) 1) step) rate) size)
def aiD(free step rate cap size open_:Int):Int:=bif ak .leq (aa .sub .i64 open_ free) 0 then 0 else over free step rate cap size open_
def aeo{a:Int}(h:1<=a)(g b d e i j k f c:Int):SE g b a d e i j k f c=some (aiD b a d e f c,()):=by
 unfold SE aiD;have l:eE a=false:=by unfold eE;exact zb (by omega)
 rw[l];cases ak .leq (aa .sub .i64 c b) 0 <;> rfl
def af3(a b:Int):ak .gtr a b=Bool.not (ak .leq a b):=by
 simp only[ak,gt_iff_lt];by_cases h:a<=b
 .rw[xD h,zb (by omega)];rfl
 .rw[zb h,xD (by omega)];rfl
def aeM{b:Int}(h:1<=b)(j c e f k g l i d a:Int):Vx j c b e f k g l i d a=some (aa .add .i64 (aiD c b e f i d) (aa .mul .i64 g a),()):=by
 unfold Vx aiD;have m:eE b=false:=by unfold eE;exact zb (by omega)
 rw[m,af3];cases ak .leq (aa .sub .i64 d c) 0 <;> rfl
def fee(o c:List Na)(a0 a1 a2 a3 a4 a5 a6 d size a b ext:Int):Int:=bif KD o c&&(L6 a0 a1 a2 a3 a4 a5 a6 d&&(Jc size 1 24&&(Jc a 0 20000&&(Jc b 0 20000&&(!ak .lss b a&&Jc ext 0 d)))))then aa .add .i64 (aiD a1 a2 a3 a4 size (hours o c a b)) (aa .mul .i64 a6 ext)else -1
def afn(o c:List Na)(e f g h i j k d size a b ext:Int):We o c e f g h i j k d size a b ext=some (fee o c e f g h i j k d size a b ext,()):=by
 unfold We fee;simp only[Li,Wc,bu,Le,ado,vP];cases KD o c with
 |false=>rfl
 |true=>
  cases l:L6 e f g h i j k d with
  |false=>rfl
  |true=>
   rw[aeo (ZX l)];cases Jc size 1 24 with
   |false=>rfl
   |true=>
    cases Jc a 0 20000 with
    |false=>rfl
    |true=>
     cases Jc b 0 20000 with
     |false=>rfl
     |true=>
      cases ak .lss b a with
      |true=>rfl
      |false=>cases Jc ext 0 d <;> rfl
def afI(o c:List Na)(e f g h i j k d size a b ext:Int):Ui o c e f g h i j k d size a b ext=some (fee o c e f g h i j k d size a b ext,()):=by
 unfold Ui fee;simp only[Mi,Wr,qB,adK,vP];cases KD o c with
 |false=>rfl
 |true=>
  cases n:L6 e f g h i j k d with
  |false=>rfl
  |true=>
   rw[aeM (ZX n)];cases Jc size 1 24 with
   |false=>rfl
   |true=>
    cases m:Jc b 0 20000 with
    |false=>cases Jc a 0 20000 <;> rfl
    |true=>
     have m:=kx.1 m;have l:Jc a 0 b=(Jc a 0 20000 && !ak .lss b a):=by rw[xT,aQ,kx,kx];simp only[ak,jw,xS];omega
     rw[l];cases Jc a 0 20000 with
     |false=>rfl
     |true=>
      cases ak .lss b a with
      |true=>rfl
      |false=>cases Jc ext 0 d <;> rfl
abbrev Sty:=Int×Int×Int×Int
def ahH(f:Sty->Int)(a:Int)(s:Sty):Int⊕(Int×Bool×Unit⊕(Int×Unit⊕Empty)):=bif ak .lss (f s) 0 then .inr (.inl (0,false,()))else .inl (aa .add .i64 a (f s))
def ai5(f:Sty->Int)(l:List Sty):Int×Bool×Unit⊕(Int×Unit⊕Empty):=Bc (ahH f) (λa=>.inr (.inl (a,()))) l 0
def ai4:Int×Bool×Unit⊕(Int×Unit⊕Empty)->Int×Bool
 |.inl y=>(y.1,y.2.1)
 |.inr (.inl y)=>(y.1,true)
def aqJ(o c:List Na)(a b d e f g h i:Int)(l:List Sty):Int×Bool:=bif KD o c then bif L6 a b d e f g h i then bif decide (20<l.length)then(0,false)else ai4 (ai5 (λs=>fee o c a b d e f g h i s.1 s.2.1 s.2.2.1 s.2.2.2) l)else(0,false)else(0,false)
def ahd(o c:List Na)(b:o.length<=1073741824)(a:c.length<=1073741824):Vn o c=some (o,c,()):=by unfold Vn;rw[ab4 o b];simp only[vP];rw[ab4 c a];rfl
def aeh(o c:List Na)(b:o.length<=1073741824)(a:c.length<=1073741824):Vh o c o c=some (true,()):=by unfold Vh;rw[Zo o b];simp only[vP,l7,cz];rw[Zo c a];rfl
def afR(a b c d e f g h:Int):Wl a b c d e f g h=some (a,b,c,d,e,f,g,h,()):=rfl
def Om(b:Bool):pI b b=true:=by unfold pI;simp
def akU:ak .lss (-1:Int) 0=true:=rfl
def acW(o c:List Na)(a:Int)(i:o.length<=9223372036854775807)(h:c.length<=9223372036854775807)(g:0<=a)(d:a<=1048576):
  Vk o c a=some (bif decide (a<(o.length:Int)+(c.length:Int))then -1 else a-(o.length:Int)-(c.length:Int),()):=by
 unfold Vk;rw[ab2 o a i g d];simp only[vP];cases b:decide (a<(o.length:Int))with
 |true=>have b:=bR b;rw[xD (show a<(o.length:Int)+(c.length:Int)by omega)];simp only[aJ,akU]
 |false=>
  have b:=zc b;simp only[cz];rw[Jk (by omega)];simp only[cz];rw[ab2 c _ h (by omega) (by omega)];simp only[vP];have f:decide (a-(o.length:Int)<(c.length:Int))=decide (a<(o.length:Int)+(c.length:Int)):=by rw[xN];omega
  rw[f];cases e:decide (a<(o.length:Int)+(c.length:Int))with
  |true=>simp only[aJ,akU]
  |false=>have e:=zc e;simp only[cz];rw[Jk (by omega)];rfl
abbrev Stp:=Int×Int×Int×Int×Int
def acV(l:List Int)(a:Int)(f:l.length<=9223372036854775807)(e:0<=a)(d:a<=1048576):Vj l a=some (bif decide (a<(l.length:Int))then -1 else a-(l.length:Int),()):=by
 unfold Vj;have b:aa .sub .i64 a (bw l)=a-(l.length:Int):=vm (by unfold bw;omega) (by unfold bw;omega);rw[b];have c:ak .lss (a-(l.length:Int)) 0=decide (a<(l.length:Int)):=by simp only[ak,xN];omega
 rw[c];cases decide (a<(l.length:Int)) <;> rfl
def leg(g:List (List Int))(i j:Nat):Int:=(g.getD i ap9).getD j zI
def nat(l:List Int)(x:Int)(n:Nat):Bool:=!ak .eql (l.getD n zI) x
def Z7(l:List Int)(x:Int):Bool:=!bO (nat l x) 0 l.length
def ahT(a b:Int):ak .eql a b=ak .eql b a:=by simp only[ak];rw[xT,beq_iff_eq,beq_iff_eq];exact eq_comm
def afJ(l:List Int)(x:Int)(c:l.length<=1073741824):Vw l x=some (Z7 l x,()):=by
 unfold Vw Z7;have a:Uk (l,x,()) ((0:Int),())=some (bif bO (nat l x) 0 l.length then(Sum.inr (Sum.inl ()):Bool×Unit⊕(Unit⊕Empty))else Sum.inl (true,())):=by
  refine wN (λn=>((n:Int),())) l.length (by omega) (nat l x) _ _ (λn b=>?_) ?_
  .unfold Uj nat;simp only[bP,dX,cw,b,xC,aJ,eW (n:=n) (by omega)];cases ak .eql (l.getD n zI) x <;> rfl
  .unfold Uj;simp only[bP,iO,sC,cz]
 rw[a];cases bO (nat l x) 0 l.length <;> rfl
def adg(l:List Int)(x:Int)(f:l.length<=1073741824):JK l x=some (Z7 l x,()):=by
 unfold JK Lb Z7;obtain⟨y,d,e⟩:=C2 (body:=JL (l,x,bw l,())) (λn=>((n:Int),())) l.length (by omega) (nat l x) (Sum.inr (Sum.inl ())) (λn=>Sum.inl ((n:Int),())) (λn c=>by
  unfold JL nat;simp only[bP,dX,c,xC,aJ,cw,eW (n:=n) (by omega),ahT x];cases ak .eql (l.getD n zI) x <;> rfl) (by
  unfold JL;simp only[bP,iO,sC,cz])
 have b:Kt (l,x,bw l,()) ((0:Int),())=some y:=d;rw[b];rcases e with ⟨a,rfl⟩|⟨a,n,c,rfl,_⟩
 .rw[a];rfl
 .rw[a];show some (ak .geq ((n:Nat):Int) 0,())=some (Bool.not false,());have:ak .geq ((n:Nat):Int) 0=true:=by simp[ak]
  rw[this];rfl
abbrev RSt:=Int×List Int×Int×Int×Int×Int
def arr(g:List (List Int))(a:RSt)(i:Int):Int:=aa .add .i64 a.2.2.1 (ae zI (ae ap9 g a.2.2.2.2.2) (aa .add .i64 i 1))
def ajs(a b:Int):ak .leq a b=Bool.not (ak .gtr a b):=by rw[af3,Bool.not_not]
def adj(a b c d e f g h:Int):SI a b c d e f g h a b c d e f g h=some (true,()):=by unfold SI;simp only[F0,cz]
abbrev Trm:=Int×Int×Int×Int×Int×Int×Int×Int
def aoJ(o c:List Na)(t:Trm)(l:List Sty):Int×Bool:=aqJ o c t.1 t.2.1 t.2.2.1 t.2.2.2.1 t.2.2.2.2.1 t.2.2.2.2.2.1 t.2.2.2.2.2.2.1 t.2.2.2.2.2.2.2 l
def aeW(d e f g h i j k l m a b c:Int):VB d e f g h i j k l m a b c=some (d,e,f,g,h,i,j,k,l,m,a,b,c,()):=rfl
def aee(a b c d e:Int):Ve a b c d e a b c d e=some (true,()):=by unfold Ve;simp only[F0,cz]
def aci(d e f g h i j k l m a b c:Int):QS d e f g h i j k l m a b c d e f g h i j k l m a b c=some (true,()):=by unfold QS;simp only[F0,cz,aee,vP,l7]
def aiF(a:Int)(b:Int)(c:Int)(d:Bool):YN a b c d=some (a,b,c,d,()):=rfl
def ag7(l:List (Int×Int×Int×Bool))(c:l.length<=1073741824):Vl l=some (l,()):=by
 unfold Vl;rw[C3 c];have a:Pm (l,()) (List.replicate l.length (0,0,0,false),(0:Int),())=some (Sum.inl (l,())):=by
  have:=lc (body:=Pk (l,())) (λn=>(l.take n++List.replicate (l.length-n) (0,0,0,false),(n:Int),())) l.length (by omega) (Sum.inl (l,())) (λn b=>?_) ?_
  .unfold Pm;simpa using this
  .unfold Pk;have e:n<(l.take n++List.replicate (l.length-n) ((0,0,0,false):Int×Int×Int×Bool)).length:=by rw[DF _ _ (ed b)];exact b
   simp only[bP,dX,b,e,xC,aJ,cw,aiF,vP,jE,eW (n:=n) (by omega),jt];rw[<-DP l (0,0,0,false) b,EE b fe (0,0,0,false)]
  .unfold Pk;simp only[bP,iO,sC,cz,sA,YK,e9,eL]
 have d:nw (bw l) (((0:Int),(0:Int),(0:Int),false))=List.replicate l.length (0,0,0,false):=EH _ _;rw[d];simp only[aJ];rw[a];rfl
def afh(a:Int)(b:Int)(c:Int)(d:Bool):Wi a b c d a b c d=some (true,()):=by unfold Wi;simp only[F0,Om,l7,cz]
def aec(l:List (Int×Int×Int×Bool))(c:l.length<=1073741824):Vc l l=some (true,()):=by
 unfold Vc;rw[F0];have a:TR (l,l,()) ((0:Int),())=some (Sum.inr (Sum.inl ())):=by
  refine lc (λn=>((n:Int),())) l.length (by omega) _ (λn b=>?_) ?_
  .unfold TQ;simp only[bP,dX,b,xC,aJ,afh,vP,eW (n:=n) (by omega)];rfl
  .unfold TQ;simp only[bP,iO,sC,cz]
 simp only[cz];rw[a];rfl
def acU(l:List (Int×Int×Int×Bool))(a:Int)(f:l.length<=9223372036854775807)(e:0<=a)(d:a<=1048576):Vi l a=some (bif decide (a<(l.length:Int))then -1 else a-(l.length:Int),()):=by
 unfold Vi;have b:aa .sub .i64 a (bw l)=a-(l.length:Int):=vm (by unfold bw;omega) (by unfold bw;omega);rw[b];have c:ak .lss (a-(l.length:Int)) 0=decide (a<(l.length:Int)):=by simp only[ak,xN];omega
 rw[c];cases decide (a<(l.length:Int)) <;> rfl
def adW(l:List (Int×Int×Int×Int×Int×Int×Int×Int×Int×Int×Int×Int×Int))(c:l.length<=1073741824):Pt l=some (l,()):=by
 unfold Pt;rw[C3 c];have a:L0 (l,()) (List.replicate l.length (0,0,0,0,0,0,0,0,0,0,0,0,0),(0:Int),())=some (Sum.inl (l,())):=by
  have:=lc (body:=LZ (l,())) (λn=>(l.take n++List.replicate (l.length-n) (0,0,0,0,0,0,0,0,0,0,0,0,0),(n:Int),())) l.length (by omega) (Sum.inl (l,())) (λn b=>?_) ?_
  .unfold L0;simpa using this
  .unfold LZ;have e:n<(l.take n++List.replicate (l.length-n) ((0,0,0,0,0,0,0,0,0,0,0,0,0):Int×Int×Int×Int×Int×Int×Int×Int×Int×Int×Int×Int×Int)).length:=by rw[DF _ _ (ed b)];exact b
   simp only[bP,dX,b,e,xC,aJ,cw,aeW,vP,jE,eW (n:=n) (by omega),jt];rw[<-DP l (0,0,0,0,0,0,0,0,0,0,0,0,0) b,EE b aS (0,0,0,0,0,0,0,0,0,0,0,0,0)]
  .unfold LZ;simp only[bP,iO,sC,cz,sA,YK,e9,eL]
 have d:nw (bw l) (((0:Int),(0:Int),(0:Int),(0:Int),(0:Int),(0:Int),(0:Int),(0:Int),(0:Int),(0:Int),(0:Int),(0:Int),(0:Int)))=List.replicate l.length (0,0,0,0,0,0,0,0,0,0,0,0,0):=EH _ _;rw[d];simp only[aJ];rw[a];rfl
def abx(l:List (Int×Int×Int×Int×Int×Int×Int×Int×Int×Int×Int×Int×Int))(c:l.length<=1073741824):O2 l l=some (true,()):=by
 unfold O2;rw[F0];have a:O4 (l,l,()) ((0:Int),())=some (Sum.inr (Sum.inl ())):=by
  refine lc (λn=>((n:Int),())) l.length (by omega) _ (λn b=>?_) ?_
  .unfold O3;simp only[bP,dX,b,xC,aJ,aci,vP,eW (n:=n) (by omega)];rfl
  .unfold O3;simp only[bP,iO,sC,cz]
 simp only[cz];rw[a];rfl
def adT(l:List (Int×Int×Int×Int×Int×Int×Int×Int×Int×Int×Int×Int×Int))(a:Int)(f:l.length<=9223372036854775807)(e:0<=a)(d:a<=1048576):Ph l a=some (bif decide (a<(l.length:Int))then -1 else a-(l.length:Int),()):=by
 unfold Ph;have b:aa .sub .i64 a (bw l)=a-(l.length:Int):=vm (by unfold bw;omega) (by unfold bw;omega);rw[b];have c:ak .lss (a-(l.length:Int)) 0=decide (a<(l.length:Int)):=by simp only[ak,xN];omega
 rw[c];cases decide (a<(l.length:Int)) <;> rfl
def afP(a:Int)(b:Int)(c:Int)(d:Int)(e:Int)(f:Int)(g:Bool):Pp a b c d e f g=some (a,b,c,d,e,f,g,()):=rfl
def aeV(l:List (Int×Int×Int×Int×Int×Int×Bool))(c:l.length<=1073741824):QX l=some (l,()):=by
 unfold QX;rw[C3 c];have a:MM (l,()) (List.replicate l.length (0,0,0,0,0,0,false),(0:Int),())=some (Sum.inl (l,())):=by
  have:=lc (body:=ML (l,())) (λn=>(l.take n++List.replicate (l.length-n) (0,0,0,0,0,0,false),(n:Int),())) l.length (by omega) (Sum.inl (l,())) (λn b=>?_) ?_
  .unfold MM;simpa using this
  .unfold ML;have e:n<(l.take n++List.replicate (l.length-n) ((0,0,0,0,0,0,false):Int×Int×Int×Int×Int×Int×Bool)).length:=by rw[DF _ _ (ed b)];exact b
   simp only[bP,dX,b,e,xC,aJ,cw,afP,vP,jE,eW (n:=n) (by omega),jt];rw[<-DP l (0,0,0,0,0,0,false) b,EE b gI (0,0,0,0,0,0,false)]
  .unfold ML;simp only[bP,iO,sC,cz,sA,YK,e9,eL]
 have d:nw (bw l) (((0:Int),(0:Int),(0:Int),(0:Int),(0:Int),(0:Int),false))=List.replicate l.length (0,0,0,0,0,0,false):=EH _ _;rw[d];simp only[aJ];rw[a];rfl
def Zn(a:Int)(b:Int)(c:Int)(d:Int)(e:Int)(f:Int)(g:Bool):O1 a b c d e f g a b c d e f g=some (true,()):=by unfold O1;simp only[F0,Om,l7,cz]
def ach(l:List (Int×Int×Int×Int×Int×Int×Bool))(c:l.length<=1073741824):QR l l=some (true,()):=by
 unfold QR;rw[F0];have a:Qj (l,l,()) ((0:Int),())=some (Sum.inr (Sum.inl ())):=by
  refine lc (λn=>((n:Int),())) l.length (by omega) _ (λn b=>?_) ?_
  .unfold Qi;simp only[bP,dX,b,xC,aJ,Zn,vP,eW (n:=n) (by omega)];rfl
  .unfold Qi;simp only[bP,iO,sC,cz]
 simp only[cz];rw[a];rfl
def aeP(l:List (Int×Int×Int×Int×Int×Int×Bool))(a:Int)(f:l.length<=9223372036854775807)(e:0<=a)(d:a<=1048576):QW l a=some (bif decide (a<(l.length:Int))then -1 else a-(l.length:Int),()):=by
 unfold QW;have b:aa .sub .i64 a (bw l)=a-(l.length:Int):=vm (by unfold bw;omega) (by unfold bw;omega);rw[b];have c:ak .lss (a-(l.length:Int)) 0=decide (a<(l.length:Int)):=by simp only[ak,xN];omega
 rw[c];cases decide (a<(l.length:Int)) <;> rfl
def ad9 {α:Type} {body:List α×Int×Unit->Option ((List α×Int×Unit)⊕(List α×Unit⊕Empty))} (l:List α) (zr z:α) (d:l.length<=1073741824)
  (h:∀(n:Nat) (a:List α),n<l.length->a.length=l.length->body (a,(n:Int),())=some (.inl (a.set n (l.getD n z),((n+1:Nat):Int),())))
  (b:∀a:List α,a.length=l.length->body (a,(l.length:Int),())=some (.inr (.inl (a,())))):iter body big (List.replicate l.length zr,0,())=some (Sum.inl (l,())):=by
 have:=lc (body:=body) (λn=>(l.take n++List.replicate (l.length-n) zr,(n:Int),())) l.length (by omega) (Sum.inl (l,())) (λn c=>?_) ?_
 .simpa using this
 .show body (l.take n++List.replicate (l.length-n) zr,(n:Int),())=_;rw[h n _ c (DF _ _ (ed c)),EE c z zr,DP l zr c]
 .show body (l.take l.length++List.replicate (l.length-l.length) zr,(l.length:Int),())=_;rw[b _ (DF _ _ (az _))];simp
def aeJ {α:Type} {body:Int×Int×Unit->Option ((Int×Int×Unit)⊕(Int×Unit⊕(Int×Unit⊕Empty)))} (l:List α) (H:l.length<=1073741824) (d:Nat->Prop)
  (h:∀(n:Nat) (a:Int),n<l.length->0<=a->a<=1048576->body (a,(n:Int),())=some (.inr (.inl (-1,())))\/∃b,body (a,(n:Int),())=some (.inl (b,((n+1:Nat):Int),()))/\0<=b/\b<=a/\d n)
  (e:∀a,body (a,(l.length:Int),())=some (.inr (.inr (.inl (a,()))))) (a:Int) (B:0<=a) (o:a<=1048576):
  ∃y,iter body big (a,0,())=some y/\(y=.inl (-1,())\/∃b,y=.inr (.inl (b,()))/\0<=b/\b<=a/\∀n,n<l.length->d n):=by
 have q:∀(k n:Nat) (a:Int),n+k=l.length->0<=a->a<=1048576->∃y,iter body (k+1) (a,(n:Int),())=some y/\(y=.inl (-1,())\/∃b,y=.inr (.inl (b,()))/\0<=b/\b<=a/\∀m,n<=m->m<l.length->d m):=by
  intro k;induction k with
  |zero=>
   intro n a p g f;have:n=l.length:=by omega
   subst this;exact⟨_,cJ (e a),.inr ⟨a,rfl,g,uq _,λm i j=>absurd j (by omega)⟩⟩
  |succ k D=>
   intro n a p g f;rcases h n a (by omega) g f with h|⟨b,h,s,r,C⟩
   .exact⟨_,cJ h,.inl rfl⟩
   .obtain⟨y,E,F⟩:=D (n+1) b (by omega) s (by omega);refine⟨y,by rw[fz h];exact E,F.imp id λ⟨c,w,x,G,z⟩=>⟨c,w,x,by omega,λm i j=>?_⟩⟩;rcases vg n m with A|A
    .exact z m (by omega) j
    .have:m=n:=by omega
     subst this;exact C
 obtain⟨y,f,i⟩:=q l.length 0 a (by omega) B o;exact⟨y,gP f (i7 (by omega)),i.imp id λ⟨b,r,t,u,v⟩=>⟨b,r,t,u,λn p=>v n (kR _) p⟩⟩
abbrev Bx:=Int×Int×Int×Bool
abbrev LM:=Int×List Int×List Bx
abbrev Site:=List Na×List Na×List LM×Int×Int×Bool×Bool×Bool×Int×Int×List Ev
def JG:LM:=br
def bl:Site:=ax
def VX(m:Nat)(c:LM):Prop:=c.2.1.length<=m/\c.2.2.length<=m
def aeT(c:Int)(a:List Int)(b:List Bx)(d:a.length<=1073741824)(e:b.length<=1073741824):NA c a b=some (c,a,b,()):=by unfold NA;rw[ag9 a d];simp only[vP];rw[ag7 b e];rfl
def acg(c:Int)(a:List Int)(b:List Bx)(d:a.length<=1073741824)(e:b.length<=1073741824):Nw c a b c a b=some (true,()):=by unfold Nw;simp only[F0,cz,aaJ a d,vP,l7,aec b e]
def aeO(f:Int)(c:List Int)(d:List Bx)(a:Int)(g:c.length<=9223372036854775807)(h:d.length<=9223372036854775807)(i:0<=a)(e:a<=1048576):
  ∃b,KS f c d a=some (b,())/\(b = -1\/(0<=b/\b<=a/\c.length<=1073741824/\d.length<=1073741824)):=by
 unfold KS;rw[acV c a g i e];simp only[vP];cases hd:decide (a<(c.length:Int))with
 |true=>exact⟨-1,rfl,.inl rfl⟩
 |false=>
  have hd:=zc hd;simp only[cz];rw[Jk (by omega)];simp only[cz];rw[acU d _ h (by omega) (by omega)];simp only[vP];cases Ba:decide (a-(c.length:Int)<(d.length:Int))with
  |true=>exact⟨-1,rfl,.inl rfl⟩
  |false=>have Ba:=zc Ba;simp only[cz];rw[Jk (by omega)];exact⟨_,rfl,.inr ⟨by omega,by omega,by show _<=1073741824;omega,by show _<=1073741824;omega⟩⟩
def JY{α:Type}{l:List α}{n:Nat}(h:n<l.length)(z:α):l.getD n z∈l:=by rw[uo,cL h];exact xV h
def adU(l:List LM)(b:l.length<=1073741824)(g:∀n,n<l.length->VX 1073741824 (l.getD n JG)):Pn l=some (l,()):=by
 unfold Pn;rw[C3 b];have h:nw (bw l) (((0:Int),([]:List Int),([]:List Bx)))=List.replicate l.length (0,[],[]):=EH _ _;rw[h];have:=ad9 (body:=LY (l,())) l (0,[],[]) JG b (λn a c f=>by
  obtain⟨d,e⟩:=g n c;unfold LY;simp only[bP,dX,c,f,xC,aJ,cw,jE,eW (n:=n) (show n<1099511627776 by omega),jt];show((NA (l.getD n JG).1 (l.getD n JG).2.1 (l.getD n JG).2.2).bind _)=_;rw[aeT _ _ _ d e];rfl) (λa _=>by
  unfold LY;simp only[bP,iO,sC,cz])
 simp only[aJ];unfold Po;rw[this];rfl
def abv(l:List LM)(f:l.length<=1073741824)(e:∀n,n<l.length->VX 1073741824 (l.getD n JG)):OY l l=some (true,()):=by
 unfold OY;rw[F0];have a:O0 (l,l,()) ((0:Int),())=some (Sum.inr (Sum.inl ())):=by
  refine lc (λn=>((n:Int),())) l.length (by show _<_;omega) _ (λn b=>?_) ?_
  .obtain⟨c,d⟩:=e n b;unfold OZ;simp only[bP,dX,b,xC,aJ,cw,jE,eW (n:=n) (show n<1099511627776 by omega)];show((Nw (l.getD n JG).1 (l.getD n JG).2.1 (l.getD n JG).2.2 (l.getD n JG).1 (l.getD n JG).2.1 (l.getD n JG).2.2).bind _)=_;rw[acg _ _ _ c d];rfl
  .unfold OZ;simp only[bP,iO,sC,cz]
 simp only[cz];rw[a];rfl
def adQ(l:List LM)(a:Int)(u:l.length<=9223372036854775807)(v:∀c∈l,VX 9223372036854775807 c)(z:0<=a)(s:a<=1048576):
  ∃b,K9 l a=some (b,())/\(b = -1\/(0<=b/\b<=a/\l.length<=1073741824/\∀n,n<l.length->VX 1073741824 (l.getD n JG))):=by
 unfold K9;have g:aa .sub .i64 a (bw l)=a-(l.length:Int):=vm (by unfold bw;have:l.length<=9223372036854775807:=u;omega) (by unfold bw;omega);have r:ak .lss (a-(l.length:Int)) 0=decide (a<(l.length:Int)):=by simp only[ak,xN];omega
 rw[g,r];cases hd:decide (a<(l.length:Int))with
 |true=>exact⟨-1,rfl,.inl rfl⟩
 |false=>
  have hd:=zc hd;have d:l.length<=1073741824:=by omega
  obtain⟨y,w,x⟩:=aeJ (body:=Ju (l,())) l d (λn=>VX 1073741824 (l.getD n JG)) (λn a j q g=>by
   obtain⟨k,m⟩:=v _ (JY j JG);obtain⟨b,o,p⟩:=aeO (l.getD n JG).1 (l.getD n JG).2.1 (l.getD n JG).2.2 a k m q g;have t:Ju (l,()) (a,(n:Int),())=(bif ak .lss b 0 then some (.inr (.inl (-1,())))else some (.inl (b,((n+1:Nat):Int),()))):=by unfold Ju;simp only[bP,dX,j,xC,aJ,cw,jE,eW (n:=n) (show n<1099511627776 by omega)];show((KS (l.getD n JG).1 (l.getD n JG).2.1 (l.getD n JG).2.2 a).bind _)=_;rw[o];rfl
   rw[t];rcases p with rfl|⟨h,e,i,f⟩
   .exact .inl rfl
   .rw[Jk h];exact .inr ⟨b,rfl,h,e,i,f⟩) (λa=>by
   unfold Ju;simp only[bP,iO,sC,cz]) (a-(l.length:Int)) (by omega) (by omega)
  simp only[cz];unfold LX;rw[w];rcases x with rfl|⟨b,rfl,e,i,f⟩
  .exact⟨-1,rfl,.inl rfl⟩
  .exact⟨b,rfl,.inr ⟨e,by omega,d,f⟩⟩
structure Nr (m:Nat) (x:Site):Prop where
 o:x.1.length<=m
 c:x.2.1.length<=m
 b:x.2.2.1.length<=m
 bs:∀n,n<x.2.2.1.length->VX m (x.2.2.1.getD n JG)
 j:x.2.2.2.2.2.2.2.2.2.2.length<=m
def ag8(a b:Int)(c d e:Bool):Xz a b c d e=some (a,b,c,d,e,()):=rfl
def aed(a b:Int)(c d e:Bool):Vd a b c d e a b c d e=some (true,()):=by unfold Vd;simp only[F0,Om,l7,cz]
def ahb(x:Site)(h:Nr 1073741824 x):Rx x.1 x.2.1 x.2.2.1 x.2.2.2.1 x.2.2.2.2.1 x.2.2.2.2.2.1 x.2.2.2.2.2.2.1 x.2.2.2.2.2.2.2.1 x.2.2.2.2.2.2.2.2.1 x.2.2.2.2.2.2.2.2.2.1 x.2.2.2.2.2.2.2.2.2.2 =
  some (x.1,x.2.1,x.2.2.1,x.2.2.2.1,x.2.2.2.2.1,x.2.2.2.2.2.1,x.2.2.2.2.2.2.1,x.2.2.2.2.2.2.2.1,x.2.2.2.2.2.2.2.2.1,x.2.2.2.2.2.2.2.2.2.1,x.2.2.2.2.2.2.2.2.2.2,()):=by
 unfold Rx;simp only[ahd _ _ h.o h.c,adU _ h.b h.bs,ag8,aeU _ h.j,vP]
def aef(x:Site)(h:Nr 1073741824 x):Vf x.1 x.2.1 x.2.2.1 x.2.2.2.1 x.2.2.2.2.1 x.2.2.2.2.2.1 x.2.2.2.2.2.2.1 x.2.2.2.2.2.2.2.1 x.2.2.2.2.2.2.2.2.1 x.2.2.2.2.2.2.2.2.2.1 x.2.2.2.2.2.2.2.2.2.2 x.1 x.2.1 x.2.2.1 x.2.2.2.1 x.2.2.2.2.1 x.2.2.2.2.2.1 x.2.2.2.2.2.2.1 x.2.2.2.2.2.2.2.1 x.2.2.2.2.2.2.2.2.1 x.2.2.2.2.2.2.2.2.2.1 x.2.2.2.2.2.2.2.2.2.2=some (true,()):=by unfold Vf;simp only[aeh _ _ h.o h.c,abv _ h.b h.bs,aed,abw _ h.j,vP,F0,l7,cz]
structure abY (x:Site):Prop where
 o:x.1.length<=9223372036854775807
 c:x.2.1.length<=9223372036854775807
 b:x.2.2.1.length<=9223372036854775807
 bs:∀y∈x.2.2.1,VX 9223372036854775807 y
 j:x.2.2.2.2.2.2.2.2.2.2.length<=9223372036854775807
def ag5(x:Site)(a:Int)(h:abY x)(j:0<=a)(c:a<=1048576):
  ∃b,Oj x.1 x.2.1 x.2.2.1 x.2.2.2.1 x.2.2.2.2.1 x.2.2.2.2.2.1 x.2.2.2.2.2.2.1 x.2.2.2.2.2.2.2.1 x.2.2.2.2.2.2.2.2.1 x.2.2.2.2.2.2.2.2.2.1 x.2.2.2.2.2.2.2.2.2.2 a=some (b,())/\(b = -1\/(0<=b/\b<=a/\Nr 1073741824 x)):=by
 unfold Oj;rw[acW _ _ a h.o h.c j c];simp only[vP];cases hd:decide (a<(x.1.length:Int)+(x.2.1.length:Int))with
 |true=>exact⟨-1,rfl,.inl rfl⟩
 |false=>
  have hd:=zc hd;simp only[cz];rw[Jk (by omega)];simp only[cz];obtain⟨b,g,i⟩:=adQ x.2.2.1 (a-(x.1.length:Int)-(x.2.1.length:Int)) h.b h.bs (by omega) (by omega);rw[g];simp only[vP];rcases i with rfl|⟨d,k,e,f⟩
  .exact⟨-1,rfl,.inl rfl⟩
  .rw[Jk d];simp only[cz];rw[ab1 _ b h.j d (by omega)];simp only[vP];cases Ba:decide (b<(x.2.2.2.2.2.2.2.2.2.2.length:Int))with
   |true=>exact⟨-1,rfl,.inl rfl⟩
   |false=>have Ba:=zc Ba;simp only[cz];rw[Jk (by omega)];exact⟨_,rfl,.inr ⟨by omega,by omega,⟨by show _<=1073741824;omega,by show _<=1073741824;omega,e,f,by show _<=1073741824;omega⟩⟩⟩
def afQ(l:List Site)(b:l.length<=1073741824)(e:∀n,n<l.length->Nr 1073741824 (l.getD n bl)):SJ l=some (l,()):=by
 unfold SJ;rw[C3 b];have f:nw (bw l) ((([]:List Na),([]:List Na),([]:List LM),(0:Int),(0:Int),false,false,false,(0:Int),(0:Int),([]:List Ev)):Site)=List.replicate l.length ([],[],[],0,0,false,false,false,0,0,[]):=EH _ _;rw[f];have:=ad9 (body:=NM (l,())) l ([],[],[],0,0,false,false,false,0,0,[]) bl b (λn a c d=>by
  have g:=ahb (l.getD n bl) (e n c);unfold NM;simp only[bP,dX,c,d,xC,aJ,cw,jE,eW (n:=n) (show n<1099511627776 by omega),jt];show((Rx (l.getD n bl).1 (l.getD n bl).2.1 (l.getD n bl).2.2.1 (l.getD n bl).2.2.2.1 (l.getD n bl).2.2.2.2.1 (l.getD n bl).2.2.2.2.2.1 (l.getD n bl).2.2.2.2.2.2.1 (l.getD n bl).2.2.2.2.2.2.2.1 (l.getD n bl).2.2.2.2.2.2.2.2.1 (l.getD n bl).2.2.2.2.2.2.2.2.2.1 (l.getD n bl).2.2.2.2.2.2.2.2.2.2).bind _)=_;rw[g];rfl) (λa _=>by
  unfold NM;simp only[bP,iO,sC,cz])
 simp only[aJ];unfold RW;rw[this];rfl
def adi(l:List Site)(g:l.length<=1073741824)(d:∀n,n<l.length->Nr 1073741824 (l.getD n bl)):SH l l=some (true,()):=by
 unfold SH;rw[F0];have a:RT (l,l,()) ((0:Int),())=some (Sum.inr (Sum.inl ())):=by
  refine lc (λn=>((n:Int),())) l.length (by show _<_;omega) _ (λn c=>?_) ?_
  .have e:=aef (l.getD n bl) (d n c);unfold RR;simp only[bP,dX,c,xC,aJ,cw,jE,eW (n:=n) (show n<1099511627776 by omega)];have b:=fK (λq=>q.bind λ(f:Bool×Unit)=>(bif (Bool.not f.1)then some (Sum.inr (Sum.inl (false,())))else some (Sum.inl (((n+1:Nat):Int),())):Option ((Int×Unit)⊕(Bool×Unit⊕(Unit⊕Empty))))) e;exact b
  .unfold RR;simp only[bP,iO,sC,cz]
 simp only[cz];rw[a];rfl
def afL(l:List Site)(a:Int)(v:l.length<=9223372036854775807)(w:∀c∈l,abY c)(A:0<=a)(t:a<=1048576):
  ∃b,KM l a=some (b,())/\(b = -1\/(0<=b/\b<=a/\l.length<=1073741824/\∀n,n<l.length->Nr 1073741824 (l.getD n bl))):=by
 unfold KM;have f:aa .sub .i64 a (bw l)=a-(l.length:Int):=vm (by unfold bw;have:l.length<=9223372036854775807:=v;omega) (by unfold bw;omega);have s:ak .lss (a-(l.length:Int)) 0=decide (a<(l.length:Int)):=by simp only[ak,xN];omega
 rw[f,s];cases hd:decide (a<(l.length:Int))with
 |true=>exact⟨-1,rfl,.inl rfl⟩
 |false=>
  have hd:=zc hd;have d:l.length<=1073741824:=by omega
  obtain⟨y,x,z⟩:=aeJ (body:=JB (l,())) l d (λn=>Nr 1073741824 (l.getD n bl)) (λn a j r f=>by
   obtain⟨b,o,p⟩:=ag5 (l.getD n bl) a (w _ (JY j bl)) r f;have u:JB (l,()) (a,(n:Int),())=(bif ak .lss b 0 then some (.inr (.inl (-1,())))else some (.inl (b,((n+1:Nat):Int),()))):=by unfold JB;simp only[bP,dX,j,xC,aJ,cw,jE,eW (n:=n) (show n<1099511627776 by omega)];have g:=fK (λq=>q.bind λ(k:Int×Unit)=>(bif (ak .lss k.1 (0:Int))then some (.inr (.inl ((-1:Int),())))else some (.inl (k.1,((n+1:Nat):Int),())):Option ((Int×Int×Unit)⊕(Int×Unit⊕(Int×Unit⊕Empty))))) o;exact g
   rw[u];rcases p with rfl|⟨h,e,i⟩
   .exact .inl rfl
   .rw[Jk h];exact .inr ⟨b,rfl,h,e,i⟩) (λa=>by
   unfold JB;simp only[bP,iO,sC,cz]) (a-(l.length:Int)) (by omega) (by omega)
  simp only[cz];unfold NK;rw[x];rcases z with rfl|⟨b,rfl,e,i,m⟩
  .exact⟨-1,rfl,.inl rfl⟩
  .exact⟨b,rfl,.inr ⟨e,by omega,d,m⟩⟩
abbrev NE:=Int×Int×Int×Int×Int×Int×Int×Int×Int×Int×Int×Int×Int
abbrev Ou:=Int×Int×Int×Int×Int×Int×Bool
structure ain (s:List Site) (p:List NE) (g:List Ou) (j:List Ev):Prop where
 ls:s.length<=9223372036854775807
 ss:∀x∈s,abY x
 lp:p.length<=9223372036854775807
 lg:g.length<=9223372036854775807
 lj:j.length<=9223372036854775807
structure Pw (s:List Site) (p:List NE) (g:List Ou) (j:List Ev):Prop where
 ls:s.length<=1048576
 ss:∀n,n<s.length->Nr 1073741824 (s.getD n bl)
 lp:p.length<=1048576
 lg:g.length<=1048576
 lj:j.length<=1048576
def aeQ(s:List Site)(a b:Int)(i:s.length<=9223372036854775807)(f:0<=a)(e:a<=1048576)(h:KM s a=some (b,()))(g:0<=b):s.length<=1048576:=by
 unfold KM at h;have c:aa .sub .i64 a (bw s)=a-(s.length:Int):=vm (by unfold bw;omega) (by unfold bw;omega);have d:ak .lss (a-(s.length:Int)) 0=decide (a<(s.length:Int)):=by simp only[ak,xN];omega
 rw[c,d]at h;cases hd:decide (a<(s.length:Int))with
 |true=>rw[hd]at h;simp only[aJ,akg,ahz]at h;omega
 |false=>have hd:=zc hd;omega
section
variable (a0 a1 a2 a3 a4 a5 a6 a7 a8 a9 a10:Int)(s:List Site)(p:List NE)(g:List Ou)(j:List Ev)
def adV(h:Pw s p g j):Ps a0 a1 a2 a3 a4 a5 a6 a7 a8 a9 a10 s p g j=some (a0,a1,a2,a3,a4,a5,a6,a7,a8,a9,a10,s,p,g,j,()):=by have a:=h.ls;have b:=h.lp;have c:=h.lg;have d:=h.lj;unfold Ps;simp only[afR,afQ s (by omega) h.ss,adW p (by omega),aeV g (by omega),aeU j (by omega),vP]
def Xs(h:Pw s p g j):K7 a0 a1 a2 a3 a4 a5 a6 a7 a8 a9 a10 s p g j a0 a1 a2 a3 a4 a5 a6 a7 a8 a9 a10 s p g j=some (true,()):=by have a:=h.ls;have b:=h.lp;have c:=h.lg;have d:=h.lj;unfold K7;simp only[adj,F0,adi s (by omega) h.ss,abx p (by omega),ach g (by omega),abw j (by omega),vP,l7,cz]
def adS(a:Int)(h:ain s p g j)(i:0<=a)(c:a<=1048576):
  ∃b,La a0 a1 a2 a3 a4 a5 a6 a7 a8 a9 a10 s p g j a=some (b,())/\(b = -1\/(0<=b/\b<=a/\Pw s p g j)):=by
 unfold La;obtain⟨b,f,l⟩:=afL s a h.ls h.ss i c;rw[f];simp only[vP];rcases l with rfl|⟨e,m,n,k⟩
 .exact⟨-1,rfl,.inl rfl⟩
 .rw[Jk e];simp only[cz];rw[adT p b h.lp e (by omega)];simp only[vP];cases hd:decide (b<(p.length:Int))with
  |true=>exact⟨-1,rfl,.inl rfl⟩
  |false=>
   have hd:=zc hd;simp only[cz];rw[Jk (by omega)];simp only[cz];rw[aeP g _ h.lg (by omega) (by omega)];simp only[vP];cases Ba:decide (b-(p.length:Int)<(g.length:Int))with
   |true=>exact⟨-1,rfl,.inl rfl⟩
   |false=>
    have Ba:=zc Ba;simp only[cz];rw[Jk (by omega)];simp only[cz];rw[ab1 j _ h.lj (by omega) (by omega)];simp only[vP];cases d:decide (b-(p.length:Int)-(g.length:Int)<(j.length:Int))with
    |true=>exact⟨-1,rfl,.inl rfl⟩
    |false=>have d:=zc d;simp only[cz];rw[Jk (by omega)];refine⟨_,rfl,.inr ⟨by omega,by omega,⟨?_,k,by omega,by omega,by omega⟩⟩⟩;exact aeQ s a b h.ls i c f e
def agY(n:Int):∃y,JU a0 a1 a2 a3 a4 a5 a6 a7 a8 a9 a10 s p g j n=some (y,())/\Kf a0 a1 a2 a3 a4 a5 a6 a7 a8 a9 a10 s p g j n=some (y,()):=by
 unfold JU Kf Jn Jo;simp only[qB,bu,vP];have a:eE (2147483646:Int)=false:=rfl;cases Jc a9 1 2147483646 with
 |false=>exact⟨_,rfl,rfl⟩
 |true=>
  cases Jc n 1 12 with
  |false=>exact⟨_,rfl,rfl⟩
  |true=>simp only[a];exact⟨_,rfl,rfl⟩
end
end Go.Fn
namespace Go.R
def Yl{α:Type}(x:Option α)(P:α->Prop):Prop:=∃a,x=some a/\P a
section
variable {α β:Type}{P:α->Prop}{Q:β->Prop}
def Yl.ret{a:α}(h:P a):Yl (some a) P:=⟨a,rfl,h⟩
def Yl.bind{x:Option α}{f:α->Option β}(d:Yl x P)(c:∀a,P a->Yl (f a) Q):Yl (x.bind f) Q:=by obtain⟨a,rfl,b⟩:=d;exact c a b
def Yl.mono{b:α->Prop}{x:Option α}(d:Yl x P)(h:∀a,P a->b a):Yl x b:=by obtain⟨a,e,c⟩:=d;exact⟨a,e,h a c⟩
def Yl.cond{b:Bool}{x y:Option α}(a:b=true->Yl x P)(c:b=false->Yl y P):Yl (bif b then x else y) P:=by
 cases b
 .exact c rfl
 .exact a rfl
def Yl.guard{b:Bool}{x:Option α}(a:b=true)(c:Yl x P):Yl (bif b then x else none) P:=by subst a;exact c
def Yl.lets{a:Type}{v:a}{k:a->Option α}(h:Yl (k v) P):Yl (lets v k) P:=h
def Yl.loop{X Y:Type}{body:X->Option (X⊕Y)}(a:X->Prop)(m:X->Nat){R:Y->Prop}(c:∀x,a x->Yl (body x) λr=>match r with |.inl y=>a y/\m y<m x |.inr b=>R b):
  ∀(n:Nat) (x:X),a x->m x<n->Yl (iter body n x) R
 |0,_,_,h=>absurd h (vi _)
 |n+1,x,f,g=>by
  obtain⟨r,e,d⟩:=c x f;cases r with
  |inl y=>rw[fz e];exact Yl.loop a m c n y d.1 (by omega)
  |inr b=>exact⟨b,cJ e,d⟩
end
def SF{α:Type}{l:List α}{i:Int}(a:0<=i)(b:i<(l.length:Int)):aZ l i=true:=by unfold aZ;rw[aQ];exact⟨xD a,xD b⟩
def qe{α:Type}{l:List α}(h:l.length<=1073741824):dF l=true:=by unfold dF limit;exact xD (by omega)
open Go.Fn
section
variable (o c:List Na)(ts:List Trm)(l:List Sty)
noncomputable abbrev bt(i:Nat):Int×Bool:=aoJ o c (ts.getD i ahg) l
end
end Go.R
namespace Go.Fn
open Go.R Go.Sort
section
variable {α:Type}[Inhabited α]{lt:α->α->Bool}
def one:(1:Int)=((1:Nat):Int):=rfl
abbrev alj(α:Type):=Option (((List α)×Int×Int×Int×Bool×Bool×Unit)⊕((List α)×Unit⊕Empty))
def Next(lt:α->α->Bool)(q:alj α)(d:Array α)(a b:Nat):Prop:=
 (∃R,q=some (.inr (.inl (R.toList,())))/\PermIn a b d R/\SortedIn lt a b R) \/
 (∃(E:Array α) (e c:Nat) (L:Int) (f g:Bool),q=some (.inl (E.toList,(e:Int),(c:Int),L,f,g,()))/\E.size=d.size/\e<=c/\c<=b/\c-e<b-a/\Below lt e c E/\∀R,PermIn e c E R->SortedIn lt e c R->PermIn a b d R/\SortedIn lt a b R)
def Next.mono{q:alj α}{d D:Array α}{a b:Nat}(h:Next lt q D a b)(p:PermIn a b d D):Next lt q d a b:=by
 rcases h with ⟨R,c,e,f⟩|⟨E,g,i,L,t,u,c,e,f,j,k,l,m⟩
 .exact .inl ⟨R,c,permIn_trans _ _ _ a b p e,f⟩
 .refine .inr ⟨E,g,i,L,t,u,c,by rw[e,p.1],f,j,k,l,λR n o=>?_⟩;obtain⟨r,s⟩:=m R n o;exact⟨permIn_trans _ _ _ a b p r,s⟩
end
end Go.Fn
namespace Go.Fn
open Go.R Go.Sort Go.Proofs
def X4(x y:Ev):Bool:=decide (x.1<y.1)||(decide (x.1=y.1)&&decide (x.2.1<y.2.1))
def ai8(x y:Ev):Int:=bif X4 x y then -1 else bif X4 y x then 1 else 0
def ai9(x y:Ev):ak .lss (ai8 x y) (0:Int)=X4 x y:=by unfold ai8;cases X4 x y <;> cases X4 y x <;> rfl
def sgn(a b:Int):Int:=bif decide (a<b)then -1 else bif decide (b<a)then 1 else 0
def compare_eq(a b:Int):K3 a b=some (sgn a b,()):=by unfold K3 OA sgn;simp only[F0,vP,cz];simp only[ak,gt_iff_lt];cases decide (a<b) <;> cases decide (b<a) <;> rfl
def or_eq(a b:Int):UY [a,b]=some ((bif decide (a=0)then b else a),()):=by
 unfold UY Tz;have f:∀n:Nat,n<2->K4 ((0:Int),[a,b],bw [a,b],()) ((n:Int),())=some (bif decide (([a,b].getD n 0)=0)then .inl (((n+1:Nat):Int),())else .inr (.inl ([a,b].getD n 0,()))):=by
  intro n g;unfold K4;simp only[bP,dX,cw,show n < [a,b].length from g,xC,aJ,eW (n:=n) (by omega),zI];by_cases h:[a,b].getD n 0=0
  .rw[h];rfl
  .rw[show ak .neq ([a,b].getD n 0) (0:Int)=true from by simpa[ak] using h,zb h];rfl
 by_cases d:a=0
 .by_cases c:b=0
  .have e:iter (K4 ((0:Int),[a,b],bw [a,b],())) 3 ((0:Int),())=some (.inr (.inl ())):=by
    rw[fz (y:=(((1:Nat):Int),())) (by simpa[d] using f 0 (by omega)),fz (y:=(((2:Nat):Int),())) (by simpa[c] using f 1 (by omega))];exact cJ rfl
   rw[gP e (by unfold big;omega),d,c];rfl
  .have e:iter (K4 ((0:Int),[a,b],bw [a,b],())) 2 ((0:Int),())=some (.inl (b,())):=by
    rw[fz (y:=(((1:Nat):Int),())) (by simpa[d] using f 0 (by omega))];exact cJ (by simpa[c] using f 1 (by omega))
   rw[gP e (by unfold big;omega),d];rfl
 .have e:iter (K4 ((0:Int),[a,b],bw [a,b],())) 1 ((0:Int),())=some (.inl (a,())):=cJ (by simpa[d] using f 0 (by omega));rw[gP e (by unfold big;omega)];simp[d]
def ahL(x y:Ev):Jl x.1 x.2.1 x.2.2.1 x.2.2.2.1 x.2.2.2.2.1 x.2.2.2.2.2.1 x.2.2.2.2.2.2 y.1 y.2.1 y.2.2.1 y.2.2.2.1 y.2.2.2.2.1 y.2.2.2.2.2.1 y.2.2.2.2.2.2=some (ai8 x y,()):=by
 unfold Jl;simp only[compare_eq,vP];rw[show(List.append (α:=Int) (List.append (α:=Int) ([]:List Int) [sgn x.1 y.1]) [sgn x.2.1 y.2.1])=[sgn x.1 y.1,sgn x.2.1 y.2.1]from rfl,or_eq];simp only[vP];congr 2;unfold ai8 X4 sgn;by_cases c:x.1<y.1
 .simp[c]
 .by_cases e:y.1<x.1
  .have a:¬(x.1=y.1):=by omega
   simp[c,e,a]
  .have a:x.1=y.1:=by omega
   by_cases b:x.2.1<y.2.1
   .simp[a,b]
   .by_cases d:y.2.1<x.2.1
    .simp[a,b,d]
    .simp[a,b,d]
def VY(x y:E7):Jl x.1 x.2.1 x.2.2.1 x.2.2.2.1 x.2.2.2.2.1 x.2.2.2.2.2.1 x.2.2.2.2.2.2 y.1 y.2.1 y.2.2.1 y.2.2.2.1 y.2.2.2.2.1 y.2.2.2.2.2.1 y.2.2.2.2.2.2=some (rp x y,()):=by unfold rp;rw[ahL x y]
def agb(x y:Ev):ltOf rp x y=X4 x y:=by unfold ltOf rp;rw[ahL x y];exact ai9 x y
def JQ{x y:Ev}:X4 x y=true↔x.1<y.1\/(x.1=y.1/\x.2.1<y.2.1):=by unfold X4;simp
def abK{x y:Ev}:X4 x y=false↔y.1<x.1\/(x.1=y.1/\y.2.1<=x.2.1):=by rw[<-Bp,JQ];omega
def adw(x:Ev):X4 x x=false:=by rw[abK];omega
def Zi{x y z:Ev}(a:X4 x y=true)(b:X4 y z=true):X4 x z=true:=by rw[JQ]at *;omega
def akS{x y:Ev}(a:X4 x y=true):X4 y x=false:=by rw[JQ]at a;rw[abK];omega
def aoQ(n m:Nat):ak .eql (n:Int) (m:Int)=decide (n=m):=by
 simp only[ak];by_cases h:n=m
 .subst h;simp
 .rw[zb h];simp;omega
def Of:SWO (ltOf rp):=⟨λx=>by rw[agb];exact adw x,λx y z a b=>by rw[agb]at *;exact Zi a b,λx y z a b=>by rw[agb,abK]at *;omega⟩
abbrev Srt(l:List Ev):Prop:=l.Pairwise λx y=>X4 x y=true
def agi:∀(l:List Ev),(∀n,n+1<l.length->X4 (l.getD n kS) (l.getD (n+1) kS)=true)->Srt l
 |[],_=>List.Pairwise.nil
 |[x],_=>abi _ _
 |x::y::l,h=>by
  have c:=agi (y::l) (λn d=>h (n+1) (by simpa using d));have a:X4 x y=true:=h 0 (by simp);refine List.Pairwise.cons (λz b=>?_) c;rcases ck.1 b with rfl|b
  .exact a
  .exact Zi a ((vM.1 c).1 z b)
def Va{l:List Ev}(h:S7 l=true):Srt l:=by refine agi l λn a=>?_;have:=afs h a;simp only[Sj,aQ,acN,jw,Bool.or_eq_false_iff,Wa,xS]at this;rw[JQ];omega
def agj:∀ {l m:List Ev},Srt l->Srt m->(∀x,x∈l↔x∈m)->l=m
 |[],[],_,_,_=>rfl
 |[],y::m,_,_,h=>absurd ((h y).2 (xR ..)) (ur)
 |x::l,[],_,_,h=>absurd ((h x).1 (xR ..)) (ur)
 |x::l,y::m,k,n,h=>by
  have a:=vM.1 k;have b:=vM.1 n;have f:x=y:=by
   rcases ck.1 ((h x).1 (xR ..))with e|c
   .exact e
   .rcases ck.1 ((h y).2 (xR ..))with e|j
    .exact e.symm
    .have i:=b.1 x c;have g:=a.1 y j;rw[akS i]at g;cases g
  subst f;congr 1;refine agj a.2 b.2 λz=>⟨λd=>?_,λd=>?_⟩
  .rcases ck.1 ((h z).1 (eJ _ d))with e|c
   .subst e;have:=a.1 z d;rw[adw]at this;cases this
   .exact c
  .rcases ck.1 ((h z).2 (eJ _ d))with e|c
   .subst e;have:=b.1 z d;rw[adw]at this;cases this
   .exact c
def agC(o:Option (List Ev))(x:Ev):Option (List Ev):=o.map (x:: ·)
def merge:List Ev->List Ev->Option (List Ev)
 |[],b=>some b
 |x::a,[]=>some (x::a)
 |x::a,y::b=>bif X4 x y then agC (merge a (y::b)) x else bif X4 y x then agC (merge (x::a) b) y else bif decide (x=y)then agC (merge a b) x else none
termination_by a b=>a.length+b.length
def agQ:∀(n:Nat) (a b:List Ev),a.length+b.length=n->Srt a->Srt b ->
  match merge a b with
  |some m=>Srt m/\(∀z,z∈m↔z∈a\/z∈b)/\m.length<=a.length+b.length/\(∀x,x∈a->∀y,y∈b->x.1=y.1->x.2.1=y.2.1->x=y)
  |none=>∃x,x∈a/\∃y,y∈b/\x.1=y.1/\x.2.1=y.2.1/\x≠y:=by
 intro n;induction n using Nat.strongRecOn with
 |ind n o=>
 intro a b D;rcases a with _|⟨x,a⟩
 .rw[merge];intro _ B;exact⟨B,λz=>by simp,by simp,λx K=>absurd K ur⟩
 rcases b with _|⟨y,b⟩
 .rw[merge];intro A _;exact⟨A,λz=>by simp,by simp,λx _ y L=>absurd L ur⟩
 .have E:=o _ (by simp only[gB]at D⊢;omega) a (y::b) rfl;have F:=o _ (by simp only[gB]at D⊢;omega) (x::a) b rfl;have G:=o _ (by simp only[gB]at D⊢;omega) a b rfl;rw[merge];intro A B;have e:=vM.1 A;have f:=vM.1 B;cases p:X4 x y with
  |true=>
   have g:=E e.2 B;simp only[aJ];cases k:merge a (y::b)with
   |none=>rw[k]at g;obtain⟨u,c,v,d,h⟩:=g;exact⟨u,eJ _ c,v,d,h⟩
   |some m=>
    rw[k]at g;obtain⟨s,l,t,w⟩:=g;refine⟨List.Pairwise.cons (λz r=>?_) s,λz=>?_,?_,λu c v d=>?_⟩
    .rcases(l z).1 r with h|h
     .exact e.1 z h
     .rcases ck.1 h with rfl|h
      .exact p
      .exact Zi p (f.1 z h)
    .simp only[ck,l z,or_assoc]
    .simp only[gB]at t⊢;omega
    .rcases ck.1 c with rfl|c
     .intro H I;have:X4 u v=true:=by
       rcases ck.1 d with rfl|d
       .exact p
       .exact Zi p (f.1 v d)
      rw[JQ]at this;omega
     .exact w u c v d
  |false=>
   cases q:X4 y x with
   |true=>
    have g:=F A f.2;simp only[aJ,cz];cases k:merge (x::a) b with
    |none=>rw[k]at g;obtain⟨u,c,v,d,h⟩:=g;exact⟨u,c,v,eJ _ d,h⟩
    |some m=>
     rw[k]at g;obtain⟨s,l,t,w⟩:=g;refine⟨List.Pairwise.cons (λz r=>?_) s,λz=>?_,?_,λu c v d=>?_⟩
     .rcases(l z).1 r with h|h
      .rcases ck.1 h with rfl|h
       .exact q
       .exact Zi q (e.1 z h)
      .exact f.1 z h
     .rw[ck,l z,ck,ck];constructor
      .rintro(h|h|h)
       .exact .inr (.inl h)
       .exact .inl h
       .exact .inr (.inr h)
      .rintro(h|h|h)
       .exact .inr (.inl h)
       .exact .inl h
       .exact .inr (.inr h)
     .simp only[gB]at t⊢;omega
     .rcases ck.1 d with rfl|d
      .intro H I;have:X4 v u=true:=by
        rcases ck.1 c with rfl|c
        .exact q
        .exact Zi q (e.1 u c)
       rw[JQ]at this;omega
      .exact w u c v d
   |false=>
    have J:x.1=y.1/\x.2.1=y.2.1:=by rw[abK]at p q;omega
    by_cases C:x=y
    .subst C;have g:=G e.2 f.2;simp only[aJ,cz,xC];cases k:merge a b with
     |none=>rw[k]at g;obtain⟨u,c,v,d,h⟩:=g;exact⟨u,eJ _ c,v,eJ _ d,h⟩
     |some m=>
      rw[k]at g;obtain⟨s,l,t,w⟩:=g;refine⟨List.Pairwise.cons (λz r=>?_) s,λz=>?_,?_,λu c v d H I=>?_⟩
      .rcases(l z).1 r with h|h
       .exact e.1 z h
       .exact f.1 z h
      .rw[ck,l z,ck,ck];constructor
       .rintro(h|h|h)
        .exact .inl (.inl h)
        .exact .inl (.inr h)
        .exact .inr (.inr h)
       .rintro((h|h)|(h|h))
        .exact .inl h
        .exact .inr (.inl h)
        .exact .inl h
        .exact .inr (.inr h)
      .simp only[gB]at t⊢;omega
      .rcases ck.1 c with i|i <;> rcases ck.1 d with j|j
       .rw[i,j]
       .have:=f.1 v j;rw[JQ,<-i]at this;omega
       .have:=e.1 u i;rw[JQ,<-j]at this;omega
       .exact w u i v j H I
    .simp only[cz,zb C];exact⟨x,xR ..,y,xR ..,J.1,J.2,C⟩
def Ci{a b:List Ev}(c:Srt a)(d:Srt b):
  match merge a b with
  |some m=>Srt m/\(∀z,z∈m↔z∈a\/z∈b)/\m.length<=a.length+b.length/\(∀x,x∈a->∀y,y∈b->x.1=y.1->x.2.1=y.2.1->x=y)
  |none=>∃x,x∈a/\∃y,y∈b/\x.1=y.1/\x.2.1=y.2.1/\x≠y:=agQ _ a b rfl c d
def JJ(a b:List Ev):List Ev×Bool:=bif S7 a then bif S7 b then(match merge a b with|none=>([],false)|some m=>bif S7 m then(m,true)else([],false))else([],false)else([],false)
def afx(a b:List Ev):(JJ a b).1.length<=60:=by
 unfold JJ;cases S7 a with
 |false=>exact kR _
 |true=>
  cases S7 b with
  |false=>exact kR _
  |true=>
   simp only[aJ];cases merge a b with
   |none=>exact kR _
   |some m=>
    simp only[];cases h:S7 m with
    |false=>exact kR _
    |true=>exact Lm h
def XZ(x y:Ev):Mn x.1 x.2.1 x.2.2.1 x.2.2.2.1 x.2.2.2.2.1 x.2.2.2.2.2.1 x.2.2.2.2.2.2 y.1 y.2.1 y.2.2.1 y.2.2.2.1 y.2.2.2.2.1 y.2.2.2.2.2.1 y.2.2.2.2.2.2=some (X4 x y,()):=by
 unfold Mn X4;simp only[ak];by_cases h:x.1=y.1
 .rw[h];cases decide (y.1<y.1) <;> simp
 .rw[zb h,show(x.1==y.1)=false from by simpa using h];cases decide (x.1<y.1) <;> rfl
def akC(x y:Ev):(Bool.and (ak .eql x.1 y.1) (Bool.and (ak .eql x.2.1 y.2.1) (Bool.and (ak .eql x.2.2.1 y.2.2.1) (Bool.and (ak .eql x.2.2.2.1 y.2.2.2.1) (Bool.and (ak .eql x.2.2.2.2.1 y.2.2.2.2.1) (Bool.and (ak .eql x.2.2.2.2.2.1 y.2.2.2.2.2.1) (Bool.and (ak .eql x.2.2.2.2.2.2 y.2.2.2.2.2.2) true)))))))=decide (x=y):=by obtain⟨x1,x2,x3,a,b,c,d⟩:=x;obtain⟨e,f,g,h,i,j,k⟩:=y;rw[xT];simp[ak,ahz]
def ags(l:List Ev)(x:Ev):List.append (α:=Ev) l (List.append (α:=Ev) ([]:List Ev) [x])=l++[x]:=rfl
def afK(a b:List Ev)(F:a.length<=60)(G:b.length<=60):∀(s i k:Nat) (out:List Ev) (n:Nat),(a.length-i)+(b.length-k)=s->i<=a.length->k<=b.length->out.length<=i+k->s<n ->
  iter (Is (a,b,())) n (out,(i:Int),(k:Int),())=some (match merge (a.drop i) (b.drop k)with|none=>.inl ([],false,())|some m=>.inr (.inl (out++m,()))):=by
 intro s;induction s using Nat.strongRecOn with
 |ind s w=>
  intro i k out n J D E I H;obtain⟨n,rfl⟩:∃m,n=m+1:=⟨n-1,by omega⟩
  have c:∀x:Ev,dF (out++[x])=true:=λx=>qe (by simp;omega);have p:ak .lss (i:Int) (bw a)=decide (i<a.length):=bP i a;have lk:ak .lss (k:Int) (bw b)=decide (k<b.length):=bP k b;have l:ak .eql (i:Int) (bw a)=decide (i=a.length):=aoQ i a.length;have j:ak .eql (k:Int) (bw b)=decide (k=b.length):=aoQ k b.length;by_cases h:i<a.length
  .have A:=xu h kS;by_cases d:k<b.length
   .have t:=xu d kS;rw[A,t,merge];generalize e:a.getD i kS=x at A⊢;generalize f:b.getD k kS=y at t⊢;cases z:X4 x y with
    |true=>
     rw[fz (y:=(out++[x],((i+1:Nat):Int),(k:Int),())) (by unfold Is;simp only[p,lk,l,j,h,d,show ¬(k=b.length)by omega,show ¬(i=a.length)by omega,xC,sC,aJ,cz,dX,cw,e,f,XZ,z,vP,ags,c,eW (n:=i) (by omega)])];rw[w (s-1) (by omega) (i+1) k (out++[x]) n (by omega) (by omega) E (by simp;omega) (by omega),<-t];cases merge (List.drop (i+1) a) (List.drop k b)with
     |none=>rfl
     |some m=>simp[agC]
    |false=>
     cases B:X4 y x with
     |true=>
      rw[fz (y:=(out++[y],(i:Int),((k+1:Nat):Int),())) (by unfold Is;simp only[p,lk,l,j,h,d,show ¬(k=b.length)by omega,show ¬(i=a.length)by omega,xC,sC,aJ,cz,dX,cw,e,f,XZ,z,B,vP,ags,c,eW (n:=k) (by omega)])];rw[w (s-1) (by omega) i (k+1) (out++[y]) n (by omega) D (by omega) (by simp;omega) (by omega),<-A];cases merge (List.drop i a) (List.drop (k+1) b)with
      |none=>rfl
      |some m=>simp[agC]
     |false=>
      by_cases C:x=y
      .subst C;rw[fz (y:=(out++[x],((i+1:Nat):Int),((k+1:Nat):Int),())) (by unfold Is;simp only[p,lk,l,j,h,d,show ¬(k=b.length)by omega,show ¬(i=a.length)by omega,xC,sC,aJ,cz,dX,cw,e,f,XZ,z,B,vP,ags,c,akC,xC,l7,jE,eW (n:=i) (by omega),eW (n:=k) (by omega)])];rw[w (s-2) (by omega) (i+1) (k+1) (out++[x]) n (by omega) (by omega) (by omega) (by simp;omega) (by omega)];simp only[xC,aJ,cz];cases merge (List.drop (i+1) a) (List.drop (k+1) b)with
       |none=>rfl
       |some m=>simp[agC]
      .rw[cJ (b:=.inl ([],false,())) (by
        unfold Is;simp only[p,lk,l,j,h,d,show ¬(k=b.length)by omega,show ¬(i=a.length)by omega,xC,sC,aJ,cz,dX,cw,e,f,XZ,z,B,vP,akC,C,fu,jE])]
       simp only[C,sC,cz]
   .have g:k=b.length:=by omega
    have o:b.drop k=[]:=by rw[g,abh]
    rw[fz (y:=(out++[a.getD i kS],((i+1:Nat):Int),(k:Int),())) (by unfold Is;simp only[p,lk,l,j,h,xD g,xC,aJ,dX,cw,ags,c,eW (n:=i) (by omega)])];rw[w (s-1) (by omega) (i+1) k _ n (by omega) (by omega) E (by simp;omega) (by omega),A,o,merge];cases hd:List.drop (i+1) a with
    |nil=>simp[merge]
    |cons u v=>simp[merge]
  .have r:i=a.length:=by omega
   have q:a.drop i=[]:=by rw[r,abh]
   by_cases d:k<b.length
   .have t:=xu d kS;rw[fz (y:=(out++[b.getD k kS],(i:Int),((k+1:Nat):Int),())) (by unfold Is;simp only[p,lk,l,j,h,d,xD r,show ¬(k=b.length)by omega,xC,sC,aJ,cz,dX,cw,ags,c,eW (n:=k) (by omega)])];rw[w (s-1) (by omega) i (k+1) _ n (by omega) D (by omega) (by simp;omega) (by omega),q,merge,merge,t];simp
   .have g:k=b.length:=by omega
    have o:b.drop k=[]:=by rw[g,abh]
    rw[cJ (b:=.inr (.inl (out,()))) (by unfold Is;simp only[p,lk,l,j,h,d,sC,cz])];rw[q,o,merge];simp
def Wq(a b:List Ev):Kv a b=some ((JJ a b).1,(JJ a b).2,()):=by
 unfold Kv JJ;simp only[XU,vP];cases c:S7 a with
 |false=>rfl
 |true=>
  cases d:S7 b with
  |false=>rfl
  |true=>
   have e:=afK a b (Lm c) (Lm d) (a.length+b.length) 0 0 [] big (by omega) (by omega) (by omega) (by simp) (i7 (by have:=Lm c;have:=Lm d;omega));simp only[l7,cz,aJ];unfold LR;rw[show(0:Int)=((0:Nat):Int)from rfl,e,ahC,ahC];cases merge a b with
   |none=>rfl
   |some m=>simp only[vP,xL,zd,gi,XU];cases S7 m <;> rfl
def CZ{R:Type}(x:Option R):both x x=x:=by unfold both;simp
def S6(l:List Ev)(b:l.length<=1073741824):js l=some (l,()):=by
 unfold js;have a:dF (List.append (α:=Ev) ([]:List Ev) l)=true:=qe b;rw[a];cases l with
 |nil=>exact CZ _
 |cons x l=>rw[show ak .gtr (bw (x::l)) (0:Int)=true from gt0 l.length];rfl
def M7(x e:Ev):Bool:=decide (x.1=e.1)&&decide (x.2.1=e.2.1)
def Mz{x e:Ev}:M7 x e=true↔x.1=e.1/\x.2.1=e.2.1:=by unfold M7;simp
def ajq(x e:Ev):KK x.1 x.2.1 x.2.2.1 x.2.2.2.1 x.2.2.2.2.1 x.2.2.2.2.2.1 x.2.2.2.2.2.2 e.1 e.2.1 e.2.2.1 e.2.2.2.1 e.2.2.2.2.1 e.2.2.2.2.2.1 e.2.2.2.2.2.2=some (M7 x e,()):=by
 unfold KK M7;simp only[ak];by_cases h:x.1=e.1
 .rw[h];simp[ae7]
 .rw[zb h,show(x.1==e.1)=false from by simpa using h];rfl
def index_eq(a:List Ev)(e:Ev)(j:a.length<=1073741824):∃r:Int,mS a e.1 e.2.1 e.2.2.1 e.2.2.2.1 e.2.2.2.2.1 e.2.2.2.2.2.1 e.2.2.2.2.2.2=some (r,()) /\
  ((r = -1/\∀x,x∈a->M7 x e=false)\/∃n:Nat,n<a.length/\r=(n:Int)/\M7 (a.getD n kS) e=true):=by
 obtain⟨y,i,d⟩:=C2 (body:=k5 (a,e.1,e.2.1,e.2.2.1,e.2.2.2.1,e.2.2.2.2.1,e.2.2.2.2.2.1,e.2.2.2.2.2.2,bw a,())) (λn=>((n:Int),())) a.length (by omega) (λn=>!M7 (a.getD n kS) e) (Sum.inr (Sum.inl ())) (λn=>Sum.inl ((n:Int),())) (λn c=>by
   unfold k5;simp only[bP,c,xC,aJ,dX,cw,ajq,vP,eW (n:=n) (by omega)];cases M7 (a.getD n kS) e <;> rfl) (by
   unfold k5;simp only[bP,iO,sC,cz])
 unfold mS qW;rw[show(0:Int)=((0:Nat):Int)from rfl,i];rcases d with ⟨b,rfl⟩|⟨_,n,c,rfl,f⟩
 .refine⟨-1,rfl,.inl ⟨rfl,λx h=>?_⟩⟩;obtain⟨m,g,rfl⟩:=vL h;have:=(iW _ _).1 b m (kR _) (by omega);simp only[jw]at this;rw[uo,cL g]at this;exact this
 .exact⟨(n:Int),rfl,.inr ⟨n,c,rfl,by simpa using f⟩⟩
def agk{l:List Ev}(h:Srt l):∀x,x∈l->∀y,y∈l->M7 x y=true->x=y:=by
 induction l with
 |nil=>intro x d;exact absurd d ur
 |cons u l j=>
  have c:=vM.1 h;intro x d y i g;rw[Mz]at g;rcases ck.1 d with e|a <;> rcases ck.1 i with f|b
  .rw[e,f]
  .have:=c.1 y b;rw[JQ,<-e]at this;omega
  .have:=c.1 x a;rw[JQ,<-f]at this;omega
  .exact j c.2 x a y b (Mz.2 g)
abbrev aj5:=List Ev×Bool×Unit⊕(List Ev×Unit⊕Empty)
open Classical in
def W0(a:List Ev)(out:List Ev)(e:Ev):List Ev⊕aj5:=if a.any (λx=>M7 x e)=true then(if e∈a then .inl out else .inr (.inl ([],false,())))else .inl (out++[e])
def akT(a:List Ev):∀(l out:List Ev),(∃e,e∈l/\a.any (λx=>M7 x e)=true/\e∉a/\Bc (W0 a) (λout=>(.inr (.inl (out,())):aj5)) l out=.inl ([],false,()))\/((∀e,e∈l->a.any (λx=>M7 x e)=true->e∈a)/\Bc (W0 a) (λout=>(.inr (.inl (out,())):aj5)) l out=.inr (.inl (out++l.filter (λe=>!a.any (λx=>M7 x e)),())))
 |[],out=>.inr ⟨λe b=>absurd b ur,by simp[Bc]⟩
 |y::l,out=>by
  by_cases c:a.any (λx=>M7 x y)=true
  .by_cases i:y∈a
   .have h:W0 a out y=.inl out:=by unfold W0;rw[cj c,cj i]
    rcases akT a l out with ⟨e,b,d,f,k3⟩|⟨d,f⟩
    .exact .inl ⟨e,eJ _ b,d,f,by simp only[Bc,h,k3]⟩
    .refine .inr ⟨λe b g=>?_,by simp only[Bc,h,f,Bq,c,l7];rfl⟩;rcases ck.1 b with rfl|b
     .exact i
     .exact d e b g
   .exact .inl ⟨y,xR ..,c,i,by unfold Bc W0;rw[cj c,dS i]⟩
  .have h:W0 a out y=.inl (out++[y]):=by unfold W0;rw[dS c]
   rw[Bp]at c;rcases akT a l (out++[y])with ⟨e,b,d,f,k3⟩|⟨d,f⟩
   .exact .inl ⟨e,eJ _ b,d,f,by simp only[Bc,h,k3]⟩
   .refine .inr ⟨λe b g=>?_,by simp only[Bc,h,f,Bq,c,fu,if_true,je,List.singleton_append]⟩;rcases ck.1 b with rfl|b
    .rw[c]at g;cases g
    .exact d e b g
def afo(a b:List Ev)(v:a.length<=60)(w:b.length<=60)(t:Srt a):LP (a,b,bw b,()) (a,(0:Int),())=some (Bc (W0 a) (λout=>.inr (.inl (out,()))) b a):=by
 refine DK (body:=Ky (a,b,bw b,())) b kS (by omega) (λout n=>(out,(n:Int),())) (W0 a) (λout=>.inr (.inl (out,()))) (λn out=>out.length<=a.length+n) (λn out q s=>⟨?_,λo c=>?_⟩) (λout s=>?_) a (by omega)
 .unfold Ky;simp only[bP,q,xC,aJ,dX,cw];generalize b.getD n kS=e;obtain⟨r,p,⟨rfl,k⟩|⟨m,i,rfl,f⟩⟩:=index_eq a e (by omega)
  .have d:¬(a.any (λx=>M7 x e)=true):=by
    rw[oq];rintro⟨x,u,f⟩;rw[k x u]at f;cases f
   have l:dF (out++[e])=true:=qe (by simp;omega);unfold W0;rw[dS d];simp only[p,vP,akU,aJ,ags,l,eW (n:=n) (by omega)]
  .have d:a.any (λx=>M7 x e)=true:=oq.2 ⟨_,JY i kS,f⟩;unfold W0;rw[cj d];have g:ak .lss (m:Int) (0:Int)=false:=Jk (by omega);simp only[p,vP,g,cz,dX,i,xC,aJ,cw,akC,jE,eW (n:=n) (by omega)];by_cases c:a.getD m kS=e
   .rw[cj (c▸JY i kS),xD c];rfl
   .have j:e∉a:=λh=>c (agk t _ (JY i kS) e h f);rw[dS j,zb c];rfl
 .unfold W0 at c;split at c
  .split at c
   .injection c with c;rw[<-c];omega
   .cases c
  .injection c with c
   rw[<-c];simp;omega
 .unfold Ky;simp only[bP,iO,sC,cz]
def aiz(l:List Ev)(h:l.length<=255):∃r:List Ev,tW l=some (r,())/\r.Perm l/\∀i j,i<j->j<r.length->X4 (r.getD j default) (r.getD i default)=false:=by
 obtain⟨⟨a,_,b⟩,g⟩:=Go.Sort.pdq_sorts (ltOf rp) Of l.toArray 0 l.toArray.size (Lib.bitLen l.toArray.size) true true (kR _) (az _) (Or.inl rfl);refine⟨Vo rp l,?_,?_,?_⟩
 .unfold tW;rw[show dF l=true from qe (by omega)];rfl
 .unfold Vo;revert a b;generalize Go.Sort.pdq (ltOf rp) l.toArray 0 l.toArray.size (Lib.bitLen l.toArray.size) true true=d;intro a b;rw[<-a,ahB,a,ahB]at b;exact b
 .intro i j c f;have e:(Vo rp l).length=l.toArray.size:=by unfold Vo;rw[gv,a]
  have:=g i j (kR _) c (by rw[<-e];exact f);rw[agb]at this;unfold Vo;rw[aby _ _ (by rw[a,<-e];exact f),aby _ _ (by rw[a,<-e];omega)];exact this
def Wb(a b:List Ev):Kp a b=some ((JJ a b).1,(JJ a b).2,()):=by
 unfold Kp JJ;simp only[Xt,vP];cases E:S7 a with
 |false=>rfl
 |true=>
  cases F:S7 b with
  |false=>rfl
  |true=>
   have N:=Lm E;have O:=Lm F;have q:=Va E;have J:=Va F;simp only[l7,cz,aJ,S6 a (by omega),vP,afo a b N O q];have f:=Ci q J;rcases akT a b a with ⟨e,K,p,A,k3⟩|⟨p,A⟩
   .rw[k3];cases c:merge a b with
    |none=>rfl
    |some m=>rw[c]at f;obtain⟨x,g,l⟩:=oq.1 p;rw[Mz]at l;exact absurd (f.2.2.2 x g e K l.1 l.2▸g) A
   .rw[A];have L:(b.filter (λe=>!a.any (λx=>M7 x e))).length<=b.length:=ahy _ _;obtain⟨r,M,H,v⟩:=aiz (a++b.filter (λe=>!a.any (λx=>M7 x e))) (by rw[jv];omega);simp only[vP,xL,zd,M];have d:(a++b.filter (λe=>!a.any (λx=>M7 x e))).Pairwise (λx y=>M7 x y=false):=by
     rw[uv];refine⟨q.imp fun {x y} h=>?_,(J.filter _).imp fun {x y} h=>?_,λx g y w=>?_⟩
     .rw[<-Bp,Mz];rw[JQ]at h;omega
     .rw[<-Bp,Mz];rw[JQ]at h;omega
     .have o:=(vK.1 w).2;rw[jw,<-Bp,oq]at o;rw[<-Bp];exact λl=>o ⟨x,g,l⟩
    have n:r.Pairwise (λx y=>M7 x y=false):=(H.pairwise_iff (fun {x y} h=>by rw[<-Bp,Mz]at *;omega)).2 d;have B:Srt r:=by unfold Srt;rw[ae6]at n⊢;intro i j G t k;have o:=n i j G t k;have s:=v i j k t;rw[uo,uo,cL t,cL G]at s;simp only[ae5]at s;rw[<-Bp,Mz]at o;rw[abK]at s;rw[JQ];omega
    cases c:merge a b with
    |none=>rw[c]at f;obtain⟨x,g,y,w,C,D,u⟩:=f;have:y∈a:=p y w (oq.2 ⟨x,g,Mz.2 ⟨C,D⟩⟩);exact absurd (agk q x g y this (Mz.2 ⟨C,D⟩)) u
    |some m=>
     rw[c]at f;have:r=m:=agj B f.1 λz=>by
      rw[H.mem_iff,aW,vK,f.2.1 z];constructor
      .rintro(h|h)
       .exact .inl h
       .exact .inr h.1
      .rintro(h|h)
       .exact .inl h
       .by_cases I:a.any (λx=>M7 x z)=true
        .exact .inl (p z h I)
        .exact .inr ⟨h,by simpa using I⟩
     rw[this];simp only[Xt,vP];cases S7 m <;> rfl
end Go.Fn
namespace Go.Fn
open Go.R Go.Sort
def aeC(x y:Ev):Prop:=X4 x y=true/\(x.1=y.1->x.2.2.1<y.2.2.1)
def ajy{x y z:Ev}(e:aeC x y)(f:aeC y z):aeC x z:=by obtain⟨a,c⟩:=e;obtain⟨b,d⟩:=f;refine⟨Zi a b,λh=>?_⟩;rw[JQ]at a b;have:=c (by omega);have:=d (by omega);omega
def acO{x y:Ev}:acN x y=true↔aeC x y:=by unfold aeC;simp only[acN,jw,Bool.or_eq_false_iff,Wa,xS,JQ];omega
def aeD{R:Ev->Ev->Prop}(tr:∀x y z,R x y->R y z->R x z):∀(l:List Ev),(∀n,n+1<l.length->R (l.getD n kS) (l.getD (n+1) kS))->l.Pairwise R
 |[],_=>List.Pairwise.nil
 |[x],_=>abi _ _
 |x::y::l,h=>by
  have c:=aeD tr (y::l) (λn d=>h (n+1) (by simpa using d));have a:R x y:=h 0 (by simp);refine List.Pairwise.cons (λz b=>?_) c;rcases ck.1 b with rfl|b
  .exact a
  .exact tr _ _ _ a ((vM.1 c).1 z b)
def getD_eq{α:Type}{l:List α}{n:Nat}(h:n<l.length)(z:α):l.getD n z=l[n]:=by rw[uo,cL h];rfl
def adv{l:List Ev}:S7 l=true↔l.length<=60/\(∀x,x∈l->Us x=true)/\l.Pairwise aeC:=by
 constructor
 .intro h;refine⟨Lm h,λx f=>?_,aeD (R:=aeC) (λ_ _ _ d b=>ajy d b) l λn c=>?_⟩
  .obtain⟨n,c,rfl⟩:=vL f;have:=aft h c;rwa[getD_eq c]at this
  .have:=afs h c;simp only[Sj,aQ]at this;exact acO.1 this.2
 .intro ⟨d,b,e⟩;unfold S7;rw[zb (by omega)];refine(iW _ _).2 λm _ a=>?_;rw[bC]at a;cases m with
  |zero=>exact b _ (JY a _)
  |succ m=>simp only[Sj,aQ];refine⟨b _ (JY a _),acO.2 ?_⟩;rw[getD_eq a,getD_eq (show m<l.length by omega)];exact ae6.1 e m (m+1) (by omega) a (by omega)
def aiC{l:List Ev}(h:l.Pairwise aeC):∀x,x∈l->∀y,y∈l->x.1=y.1->x.2.1<y.2.1->x.2.2.1<y.2.2.1:=by
 induction l with
 |nil=>intro x d;exact absurd d ur
 |cons u l i=>
  have c:=vM.1 h;intro x d y g e f;rcases ck.1 d with a|a <;> rcases ck.1 g with b|b
  .rw[a,b]at f;omega
  .subst a;exact(c.1 y b).2 e
  .have:=(c.1 x a).1;rw[JQ,<-b]at this;omega
  .exact i c.2 x a y b e f
def akQ{l:List Ev}(a:l.length<=60)(b:∀x,x∈l->Us x=true)(c:Srt l)(d:∀x,x∈l->∀y,y∈l->x.1=y.1->x.2.1<y.2.1->x.2.2.1<y.2.2.1):S7 l=true:=by refine adv.2 ⟨a,b,?_⟩;refine List.Pairwise.imp_of_mem (fun {x y} f g h=>⟨h,λe=>d x f y g e ?_⟩) c;rw[JQ]at h;omega
def aij{l:List Ev}(h:S7 l=true):∀x,x∈l->∀y,y∈l->x.1=y.1->x.2.1<y.2.1->x.2.2.1<y.2.2.1:=aiC (adv.1 h).2.2
def abb{l:List Ev}(h:S7 l=true):∀x,x∈l->Us x=true:=(adv.1 h).2.1
def WU(a:Int)(s:Int×Int×Nat×Nat)(x:Ev):Int×Int×Nat×Nat:=((bif decide (x.1=a)then x.2.1+1 else s.1),max s.2.1 (x.2.2.1+1),(bif decide (x.1<=a)then s.2.2.2+1 else s.2.2.1),s.2.2.2+1)
def Ma(l:List Ev)(a:Int):Int×Int×Nat×Nat:=l.foldl (WU a) (1,1,0,0)
def adE(l:List Ev)(node kind xo a b:Int):Ev:=(node,(Ma l node).1,(Ma l node).2.1,kind,xo,a,b)
def Sp(l:List Ev)(node kind xo a b:Int):List Ev:=l.take (Ma l node).2.2.1++[adE l node kind xo a b]++l.drop (Ma l node).2.2.1
def Lh(l:List Ev)(node kind xo a b:Int):List Ev×Bool:=bif S7 l then bif S7 (Sp l node kind xo a b)then(Sp l node kind xo a b,true)else(l,false)else(l,false)
structure ae0 (node:Int) (p:List Ev) (s:Int×Int×Nat×Nat):Prop where
 c:s.2.2.2=p.length
 ahG:s.2.2.1<=p.length
 s1:∀x,x∈p->x.1=node->x.2.1<s.1
 s2:s.1=1\/∃x,x∈p/\x.1=node/\s.1=x.2.1+1
 p1:∀x,x∈p->x.2.2.1<s.2.1
 p2:s.2.1=1\/∃x,x∈p/\s.2.1=x.2.2.1+1
 a1:∀x,x∈p.take s.2.2.1->x.1<=node
 a2:∀x,x∈p.drop s.2.2.1->node<x.1
def acs{b:Int}{p:List Ev}{s:Int×Int×Nat×Nat}{x:Ev}(h:ae0 b p s)(o:Srt (p++[x])):ae0 b (p++[x]) (WU b s x):=by
 have e:∀y,y∈p->X4 y x=true:=λy a=>(uv.1 o).2.2 y a x (kH.2 rfl);obtain⟨f,i,k,d,l,g,m,n⟩:=h;unfold WU;refine⟨by simp[f],?_,λy a j=>?_,?_,λy a=>?_,?_,?_,?_⟩
 .cases decide (x.1<=b) <;> simp <;> omega
 .simp only[];rcases aW.1 a with a|a
  .by_cases c:x.1=b
   .rw[xD c];have:=e y a;rw[JQ]at this;simp only[aJ];omega
   .rw[zb c];exact k y a j
  .rw[kH]at a;subst a;rw[xD j];simp only[aJ];omega
 .simp only[];by_cases c:x.1=b
  .rw[xD c];exact .inr ⟨x,by simp,c,rfl⟩
  .rw[zb c];rcases d with d|⟨y,a,d⟩
   .exact .inl d
   .exact .inr ⟨y,aX _ a,d⟩
 .simp only[];rcases aW.1 a with a|a
  .have:=l y a;omega
  .rw[kH]at a;subst a;omega
 .simp only[];by_cases q:s.2.1<=x.2.2.1+1
  .exact .inr ⟨x,by simp,by omega⟩
  .rcases g with g|⟨y,a,g⟩
   .exact .inl (by omega)
   .exact .inr ⟨y,aX _ a,by omega⟩
 .simp only[];by_cases c:x.1<=b
  .rw[xD c];intro y a;rw[aJ,f,ac4 (by simp)]at a;rcases aW.1 a with a|a
   .have:=e y a;rw[JQ]at this;omega
   .rw[kH]at a;subst a;exact c
  .rw[zb c];intro y a;rw[cz,List.take_append_of_le_length i]at a;exact m y a
 .simp only[];by_cases c:x.1<=b
  .rw[xD c];intro y a;rw[aJ,f,afa (by simp)]at a;exact absurd a ur
  .rw[zb c];intro y a;rw[cz,ae9 i]at a;rcases aW.1 a with a|a
   .exact n y a
   .rw[kH]at a;subst a;omega
def ad4(a:Int):∀(l p:List Ev) (s:Int×Int×Nat×Nat),Srt (p++l)->ae0 a p s->ae0 a (p++l) (l.foldl (WU a) s)
 |[],p,s,_,h=>by simpa using h
 |x::l,p,s,b,h=>by
  have e:p++x::l=(p++[x])++l:=by simp
  rw[e]at b⊢;exact ad4 a l (p++[x]) (WU a s x) b (acs h (uv.1 b).1)
def Tw(a:Int){l:List Ev}(h:Srt l):ae0 a l (Ma l a):=by have:=ad4 a l [] (1,1,0,0) (by simpa using h) ⟨rfl,az _,λx b=>absurd b ur,.inl rfl,λx b=>absurd b ur,.inl rfl,λx b=>absurd (ac3 b) ur,λx b=>absurd (abk b) ur⟩;exact this
def Lg{l:List Ev}{node kind xo a b:Int}(z:Ev):z∈Sp l node kind xo a b↔z=adE l node kind xo a b\/z∈l:=by
 unfold Sp;rw[aW,aW,kH];constructor
 .rintro((h|h)|h)
  .exact .inr (ac3 h)
  .exact .inl h
  .exact .inr (abk h)
 .rintro(h|h)
  .exact .inl (.inr h)
  .rw[<-ac0 (Ma l node).2.2.1 l,aW]at h;rcases h with h|h
   .exact .inl (.inl h)
   .exact .inr h
def aaB{l:List Ev}(h:Srt l)(node kind xo a b:Int):(Sp l node kind xo a b).length=l.length+1:=by have:=(Tw node h).ahG;unfold Sp;simp only[jv,jS,Bt,List.length_singleton];omega
def ahf{l:List Ev}(h:Srt l)(node kind xo a b:Int):Srt (Sp l node kind xo a b):=by
 have g:=Tw node h;have j:∀y,y∈l.take (Ma l node).2.2.1->X4 y (adE l node kind xo a b)=true:=λy c=>by
  rw[JQ];have k:=g.a1 y c;have i:=g.s1 y (ac3 c);show y.1<node\/y.1=node/\y.2.1<(Ma l node).1;by_cases e:y.1=node
  .exact .inr ⟨e,i e⟩
  .exact .inl (by omega)
 have hd:∀y,y∈l.drop (Ma l node).2.2.1->X4 (adE l node kind xo a b) y=true:=λy c=>by rw[JQ];exact .inl (g.a2 y c)
 have f:=h;rw[<-ac0 (Ma l node).2.2.1 l,Srt,uv]at f;unfold Sp Srt;rw[uv,uv];refine⟨⟨f.1,abi _ _,λx d y c=>?_⟩,f.2.1,λx d y c=>?_⟩
 .rw[kH]at c;subst c;exact j x d
 .rcases aW.1 d with d|d
  .exact f.2.2 x d y c
  .rw[kH]at d;subst d;exact hd y c
def ahe{l:List Ev}(h:S7 l=true){node kind xo a b:Int}(m:l.length+1<=60)(k:Us (adE l node kind xo a b)=true):S7 (Sp l node kind xo a b)=true:=by
 have f:=Va h;have j:=Tw node f;refine akQ (by rw[aaB f];exact m) (λx g=>?_) (ahf f _ _ _ _ _) λx g y n i e=>?_
 .rcases(Lg x).1 g with c|c
  .rw[c];exact k
  .exact abb h x c
 .rcases(Lg x).1 g with c|c <;> rcases(Lg y).1 n with d|d
  .rw[c,d]at e;omega
  .have:=j.s1 y d (by rw[<-i,c];rfl);rw[c]at e;have e:(Ma l node).1<y.2.1:=e;omega
  .rw[d];exact j.p1 x c
  .exact aij h x c y d i e
def akk(l m:List Ev):List.append (α:=Ev) l m=l++m:=rfl
def afG(l:List Ev)(f:S7 l=true)(node kind xo a b:Int)(same:List Ev):Qq (l,node,()) (same,node,(1:Int),(1:Int),kind,xo,a,b,(0:Int),(0:Int),())=some (.inl (same,node,(Ma l node).1,(Ma l node).2.1,kind,xo,a,b,(((Ma l node).2.2.1:Nat):Int),())):=by
 have o:=Lm f;refine(qA (body:=MO (l,node,())) l kS (by omega) (WU node) (λ(s:Int×Int×Nat×Nat) n=>(same,node,s.1,s.2.1,kind,xo,a,b,((s.2.2.1:Nat):Int),(n:Int),())) (λn s=>s.2.2.2=n) (λs=>Sum.inl (same,node,s.1,s.2.1,kind,xo,a,b,((s.2.2.1:Nat):Int),())) (λn s g c=>⟨?_,by unfold WU;simp[c]⟩) (λs c=>?_) (1,1,0,0) rfl).1
 .have d:=VZ.1 (aft f g);unfold MO WU;simp only[bP,g,xC,aJ,dX,cw];revert d;generalize l.getD n kS=e;intro d;have h:aa .add .i64 e.2.1 1=e.2.1+1:=sO (by omega) (by omega);have i:aa .add .i64 e.2.2.1 1=e.2.2.1+1:=sO (by omega) (by omega);have j:nS true s.2.1 (e.2.2.1+1)=max s.2.1 (e.2.2.1+1):=by unfold nS;simp <;> omega
  have k:ak .eql e.1 node=decide (e.1=node):=by simp[ak,ae7]
  have m:ak .leq e.1 node=decide (e.1<=node):=rfl;simp only[h,i,j,k,m,eW (n:=n) (by omega),c];cases decide (e.1=node) <;> cases decide (e.1<=node) <;> rfl
 .unfold MO;simp only[bP,iO,sC,cz]
def afH(l:List Ev)(node kind xo a b:Int)(i:l.length<=1073741824):QY l node kind xo a b=some ((Lh l node kind xo a b).1,(Lh l node kind xo a b).2,()):=by
 unfold QY Lh;have e:dF l=true:=qe i;simp only[XU,vP,akk,gi,e,aJ];cases d:S7 l with
 |false=>rfl
 |true=>
  have f:=Lm d;have h:=Tw node (Va d);have c:=h.ahG;simp only[l7,cz,aJ,afG l d,vP,zd,akk,gi];generalize g:Ma l node=A at c;have n:mT l (0:Int) ((A.2.2.1:Nat):Int)=true:=by unfold mT;simp <;> omega
  have o:mT l ((A.2.2.1:Nat):Int) (bw l)=true:=by unfold mT bw;simp <;> omega
  have p:yD l (0:Int) ((A.2.2.1:Nat):Int)=l.take A.2.2.1:=by unfold yD;simp
  have q:yD l ((A.2.2.1:Nat):Int) (bw l)=l.drop A.2.2.1:=by unfold yD bw;rw[xQ,xQ];exact ac4 (by simp)
  have k:dF (l.take A.2.2.1)=true:=qe (by simp;omega);have m:∀x:Ev,dF (l.take A.2.2.1++[x])=true:=λx=>qe (by simp;omega);have k3:∀x:Ev,dF (l.take A.2.2.1++[x]++l.drop A.2.2.1)=true:=λx=>qe (by simp;omega);simp only[n,o,p,q,k,m,k3,aJ];have j:Sp l node kind xo a b=l.take A.2.2.1++[(node,A.1,A.2.1,kind,xo,a,b)]++l.drop A.2.2.1:=by unfold Sp adE;rw[g]
  rw[j];cases S7 (l.take A.2.2.1++[(node,A.1,A.2.1,kind,xo,a,b)]++l.drop A.2.2.1) <;> rfl
structure ae2 (n:Nat) (base:List Ev) (S:Int->Prop) (l:List Ev):Prop where
 j:S7 l=true
 len:l.length<=n
 st:∀x,x∈l->x.2.2.1<=(n:Int)
 gap:∀x,x∈l->∀s:Int,1<=s->s<=x.2.1->∃y,y∈l/\y.1=x.1/\y.2.1=s
 sub:∀x,x∈base->x∈l
 new:∀x,x∈l->x∈base\/S x.1
def ae2.mono{n m:Nat}{a:List Ev}{S:Int->Prop}{l:List Ev}(h:ae2 n a S l)(c:n<=m):ae2 m a S l:=⟨h.j,by have:=h.len;omega,λx b=>by have:=h.st x b;omega,h.gap,h.sub,h.new⟩
theorem ae2.add{n:Nat}{d:List Ev}{S:Int->Prop}{l:List Ev}(h:ae2 n d S l){c:Int}(u:S c)(kind xo a b:Int):ae2 (n+1) d S (Lh l c kind xo a b).1:=by
 unfold Lh;rw[h.j];simp only[aJ];cases v:S7 (Sp l c kind xo a b)with
 |false=>exact h.mono (kE _)
 |true=>
  have t:=Va h.j;have r:=Tw c t;simp only[aJ];refine⟨v,by rw[aaB t];have:=h.len;omega,λx f=>?_,λx f s o j=>?_,λx f=>(Lg x).2 (.inr (h.sub x f)),λx f=>?_⟩
  .rcases(Lg x).1 f with e|e
   .rw[e];show(Ma l c).2.1<=_;rcases r.p2 with p|⟨y,k,p⟩
    .rw[p];omega
    .rw[p];have:=h.st y k;omega
   .have:=h.st x e;omega
  .rcases(Lg x).1 f with e|e
   .subst e;have j:s<=(Ma l c).1:=j;by_cases e:s=(Ma l c).1
    .exact⟨_,f,rfl,e.symm⟩
    .rcases r.s2 with p|⟨y,k,q,p⟩
     .omega
     .obtain⟨z,m,g,i⟩:=h.gap y k s o (by omega);exact⟨z,(Lg z).2 (.inr m),by rw[g,q];rfl,i⟩
   .obtain⟨z,m,g,i⟩:=h.gap x e s o j;exact⟨z,(Lg z).2 (.inr m),g,i⟩
  .rcases(Lg x).1 f with e|e
   .rw[e];exact .inr u
   .exact h.new x e
abbrev Fat:=Int×Int×Int×Int×Int×Int×Int
def fst(r:List Int)(f:Fat)(n:Nat):Int×Int×Int×Int×Int×Int×Int×Int×Int×Int×Int×Int×Int×Int×(List Int)×Int×Unit:=(0,0,0,0,0,0,0,f.1,f.2.1,f.2.2.1,f.2.2.2.1,f.2.2.2.2.1,f.2.2.2.2.2.1,f.2.2.2.2.2.2,r,(n:Int),())
end Go.Fn
namespace Go.Fn
open Go.R
section
variable {a0 a1:Int}{g:List (List Int)}{s:List Stp}
def lg(g:List (List Int))(p q:Int):Int:=leg g p.toNat q.toNat
structure Bd (s:List Stp) (k:Int) (st:RSt):Prop where
 e0:0<=st.2.2.1
 e1:st.2.2.1<=20200
 p0:0<=st.2.2.2.2.2
 p1:st.2.2.2.2.2<=s.length
 l0:-(1000*k)<=st.1
 l1:st.1<=1000*k
structure Rel (g:List (List Int)) (s:List Stp) (k c:Int) (XW st:RSt):Prop where
 b':Bd s k XW
 b:Bd s k st
 t:∀q:Int,0<=q->q<=s.length->XW.2.2.1+lg g XW.2.2.2.2.2 q<=st.2.2.1+lg g st.2.2.2.2.2 q
 l:XW.1<=st.1-c
 p:XW.2.2.2.1<=st.2.2.2.1
end
def gA{α:Type}(mk:Int->α->α×Int):List α->Int->List α×Int
 |[],k=>([],k)
 |x::xs,k=>((mk k x).1::(gA mk xs (mk k x).2).1,(gA mk xs (mk k x).2).2)
def abz{α:Type}(mk:Int->α->α×Int)(y:α):∀(l:List α) (k:Int),gA mk (l++[y]) k=((gA mk l k).1++[(mk (gA mk l k).2 y).1],(mk (gA mk l k).2 y).2)
 |[],k=>rfl
 |x::xs,k=>by simp only[gV,gA,abz mk y xs]
def KH{α:Type}(mk:Int->α->α×Int):∀(l:List α) (k:Int),(gA mk l k).1.length=l.length
 |[],k=>rfl
 |x::xs,k=>by simp only[gA,gB,KH mk xs]
def JC{α:Type}(a:α->Nat):List α->Nat
 |[]=>0
 |x::xs=>a x+JC a xs
def acy{α:Type}(a:α->Nat):∀(l b:List α),JC a (l++b)=JC a l+JC a b
 |[],_=>by simp[JC]
 |x::xs,b=>by simp only[gV,JC,acy a xs];omega
def JO{α:Type}(c:Nat):∀l:List α,JC (λ_=>c) l=c*l.length
 |[]=>rfl
 |x::xs=>by simp only[JC,JO c xs,gB,Nat.mul_succ];omega
def abr{α:Type}(a:α->Nat)(l:List α)(n:Nat):JC a (l.take n)<=JC a l:=by have:=acy a (l.take n) (l.drop n);rw[ac0]at this;omega
def TA{α:Type}{mk:Int->α->α×Int}{cost:α->Nat}(a:∀k x,k<=(mk k x).2/\(mk k x).2<=k+cost x):∀(l:List α) (k:Int),k<=(gA mk l k).2/\(gA mk l k).2<=k+JC cost l
 |[],k=>by simp[gA,JC]
 |x::xs,k=>by have b:=a k x;have c:=TA a xs (mk k x).2;simp only[gA,JC];omega
def V5 {α:Type} {body:List α×Int×Int×Unit->Option ((List α×Int×Int×Unit)⊕(List α×Int×Unit⊕Empty))} {mk:Int->α->α×Int} {cost:α->Nat} (z:α) (l:List α) (a:Int) (q:l.length<=1073741824) (m:0<=a)
  (i:∀k x,k<=(mk k x).2/\(mk k x).2<=k+cost x)
  (j:∀(L:List α) (k:Int) (n:Nat),n<L.length->L.length=l.length->L.getD n z=l.getD n z->0<=k->k<=a+JC cost l->body (L,k,(n:Int),())=some (.inl (L.set n (mk k (l.getD n z)).1,(mk k (l.getD n z)).2,((n+1:Nat):Int),())))
  (h:∀(L:List α) (k:Int),body (L,k,(L.length:Int),())=some (.inr (.inl (L,k,())))):iter body big (l,a,0,())=some (.inl ((gA mk l a).1,(gA mk l a).2,())):=by
 have g:∀n,n<=l.length->((gA mk (l.take n) a).1++l.drop n).length=l.length:=by intro n b;rw[jv,KH,jS,Bt];omega
 have:=lc (body:=body) (λn=>((gA mk (l.take n) a).1++l.drop n,(gA mk (l.take n) a).2,(n:Int),())) l.length (by omega) (.inl ((gA mk l a).1,(gA mk l a).2,())) (λn b=>?_) ?_
 .simpa[gA] using this
 .have o:=TA i (l.take n) a;have p:=abr cost l n;have e:(gA mk (l.take n) a).1.length=n:=by rw[KH,jS];omega
  have d:((gA mk (l.take n) a).1++l.drop n).getD n z=l.getD n z:=by rw[uo,iM (by omega),e,sA,pX,iD,<-uo]
  rw[j _ _ n (by rw[g n (ed b)];exact b) (g n (ed b)) d (by omega) (by omega)];have c:l.take (n+1)=l.take n++[l.getD n z]:=by rw[ac9,cL b,uo,cL b];rfl
  rw[c,abz];congr 3;rw[List.set_append,dS (by omega),e,sA,ac8 b,List.set_cons_zero,je];rfl
 .have f:((gA mk l a).1).length=l.length:=KH _ _ _;have:=h (gA mk l a).1 (gA mk l a).2;rw[f]at this;simp only[eL,abh,e9];exact this
def V0 {α:Type} {mk:Int->α->α×Int} {cost:α->Nat} {Y:Type} {body:Int×Int×Unit->Option ((Int×Int×Unit)⊕(Y⊕(Int×Unit⊕Empty)))} (z:α) (l:List α) (c:Int) (t:l.length<=1073741824) (q:0<=c)
  (m:∀k x,k<=(mk k x).2/\(mk k x).2<=k+cost x)
  (o:∀(k:Int) (n:Nat),n<l.length->0<=k->k<=c+JC cost l->(gA mk l c).1.getD n z=(mk k (l.getD n z)).1->body (k,(n:Int),())=some (.inl ((mk k (l.getD n z)).2,((n+1:Nat):Int),())))
  (j:∀k:Int,body (k,(l.length:Int),())=some (.inr (.inr (.inl (k,()))))):iter body big (c,0,())=some (.inr (.inl ((gA mk l c).2,()))):=by
 have:=lc (body:=body) (λn=>((gA mk (l.take n) c).2,(n:Int),())) l.length (by omega) (.inr (.inl ((gA mk l c).2,()))) (λn g=>?_) (by rw[eL];exact j _)
 .simpa[gA] using this
 .have r:=TA m (l.take n) c;have s:=abr cost l n;have d:l.take (n+1)=l.take n++[l.getD n z]:=by rw[ac9,cL g,uo,cL g];rfl
  have f:(gA mk l c).1.getD n z=(mk (gA mk (l.take n) c).2 (l.getD n z)).1:=by
   have e:∀(a b:List α) (k:Int),(gA mk (a++b) k).1=(gA mk a k).1++(gA mk b (gA mk a k).2).1:=by
    intro a;induction a with
    |nil=>intro b k;rfl
    |cons x a p=>intro b k;simp only[gV,gA,p]
   have hd:l.drop n=l.getD n z::l.drop (n+1):=by rw[ac8 g,uo,cL g];rfl
   have i:=e (l.take n) (l.drop n) c;rw[ac0]at i;have h:(gA mk (l.take n) c).1.length=n:=by rw[KH,jS];omega
   rw[i,uo,iM (by omega),h,sA,hd];rfl
  rw[o _ n g (by omega) (by omega) f,d,abz]
def J6(a:Kz):Option YcN:=cond (ak .gtr (bw a) 0) (cond (dF (List.append (α:=Int) ([]:Kz) a)) (some (List.append (α:=Int) ([]:Kz) a,())) none) (both (some (([]:Kz),())) (cond (dF (List.append (α:=Int) ([]:Kz) a)) (some (List.append (α:=Int) ([]:Kz) a,())) none))
def free(n:Nat)(p:List Int):Nat:=((List.range n).filter λi:Nat=>Bool.not (Z7 p (i:Int))).length
def ahK(l:List Int)(h:l.length<=1073741824):J6 l=some (l,()):=by
 unfold J6;have a:dF (List.append (α:=Int) [] l)=true:=qe h;cases l with
 |nil=>simp only[a,aJ];rw[show ak .gtr (bw ([]:List Int)) 0=false from rfl];exact CZ _
 |cons x l=>rw[show ak .gtr (bw (x::l)) 0=true from by simp[ak,bw]];simp only[a,aJ];rfl
section
variable (a0 a1:Int)(g:List (List Int))(s:List Stp)
abbrev SB:Type:=Bool×Int×List Int×Unit
end
end Go.Fn

