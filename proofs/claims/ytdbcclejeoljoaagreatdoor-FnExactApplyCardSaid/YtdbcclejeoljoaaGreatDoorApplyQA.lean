import Derived.Test.YtdbcclejeoljoaaGreatDoorRE
import Derived.Shelf.SlSortCmp.NoneTotal
import Derived.Lib.SlicesCompact
import Derived.Sort.AssemblyPlain
import Derived.Shelf.LaysM
import Derived.Shelf.Strconv.Itoa3
import Derived.Lib.AppendIntMem
import Derived.Lib.LaidTab
import Derived.Lib.ItoaLen
import Derived.Lib.ItoaMem
import Derived.Shelf.Spec.SlicesInsertGrow
import Derived.Shelf.Spec.SlicesGrow
/- Plain functions that stand for Go functions, and what they answer. Conditions: none. -/
set_option linter.all false
noncomputable section
namespace Go.R
def bu:=@decide_true
def ct:=@decide_false
def kx:=@Bool.not_false
def Gi:=@decide_eq_false
def Jx:=@of_decide_eq_false
def NQ:=@Sum.elim_inl
def qe:=@List.set_set
def LL:=@Int.le_refl
def KD:=@List.not_mem_nil
def Kj:=@List.take_length
def Oh:=@Bool.false_and
def VW:=@Sum.elim_inr
def aeF:=@Bool.false_eq_true
def Ti:=@List.pairwise_append
def Oi:=@decide_eq_decide
def Vj:=@Bool.and_true
def acA:=@List.mem_range
def aaU:=@Int.toNat_natCast
def Xa:=@List.foldl_cons
def VX:=@List.mem_cons_self
def Xb:=@decide_eq_false_iff_not
def PT:=@Bool.eq_iff_iff
def Vk:=@Bool.and_false
def ZJ:=@List.getElem_mem
def aeG:=@List.mem_append_left
def acB:=@List.mem_filter
def Xc:=@Bool.not_eq_true
def aaV:=@List.filter_cons
def ZK:=@List.foldl_append
def Tj:=@List.map_append
def Rr:=@List.take_zero
def ZL:=@List.replicate_zero
def aeH:=@Option.getD_some
def VY:=@Bool.and_eq_false_iff
def aaW:=@List.drop_length
def acC:=@List.mem_iff_getElem
def aaX:=@List.pairwise_singleton
def ajH:=@List.length_nil
def acD:=@List.take_append_drop
def acE:=@Bool.not_eq_false'
def ahb:=@List.length_filter_le
def aeI:=@List.pairwise_iff_getElem
def acF:=@List.range_succ
def ahc:=@Prod.mk.injEq
def ahd:=@Int.add_emod
def acG:=@List.mem_of_mem_take
def ajI:=@Option.some.injEq
def ahe:=@Array.extract_size
def acH:=@Int.tmod_eq_emod_of_nonneg
def acI:=@Int.toNat_of_nonneg
def ahf:=@List.drop_zero
def aaY:=@List.flatten_append
def aaZ:=@List.mem_of_mem_drop
def acJ:=@List.take_add_one
def aeJ:=@Bool.beq_eq_decide_eq
def aeK:=@List.filter_append
def acK:=@List.flatten_nil
def ajJ:=@List.length_range
def ajK:=@ByteArray.size_append
def aeL:=@List.drop_append_of_le_length
def ajL:=@List.mem_or_eq_of_mem_set
open Go.Shelf Go.Proofs Go.Sort
abbrev E7:=Int×Int×Int×Int×Int×Int×Int
abbrev KI:K:=.val (.int .i64)
abbrev Cs7:ar:=.cons (.int .i64) (.cons (.int .i64) (.cons (.int .i64) (.cons (.int .i64) (.cons (.int .i64) (.cons (.int .i64) (.cons (.int .i64) .nil))))))
def Va(a:E7->E7->Int)(l:List E7):List E7:=(pdq (ltOf a) l.toArray 0 l.toArray.size (Lib.bitLen l.toArray.size) true true).toList
def ag1(e g:Nat)(a:E7->E7->Int):hJ:=⟨true,[.one (.arr e Cs7 false),.fn g []],[],λx=>bif dF (α:=E7) x.1 then some (Va a x.1,())else none⟩
def PV(x:E7):List Value:=[.int .i64 x.1,.int .i64 x.2.1,.int .i64 x.2.2.1,.int .i64 x.2.2.2.1,.int .i64 x.2.2.2.2.1,.int .i64 x.2.2.2.2.2.1,.int .i64 x.2.2.2.2.2.2]
def ahs(x:E7):(PV x).length=7:=rfl
def aht(x:E7):∀v∈PV x,v.oneCell'=true:=by intro v a;simp only[PV,cL,KD,or_false]at a;rcases a with rfl|rfl|rfl|rfl|rfl|rfl|rfl <;> rfl
def api{w:World}{s:aq}{r:Nat->Md}{get:Nat->Option Value}{x:E7}:Cs7.R w s r get 0 x↔∀j,j<7->get j=some (PV x)[j]!:=by
 constructor
 .rintro⟨⟨t,i,a⟩,⟨u,k,b⟩,⟨v,l,c⟩,⟨y,m,d⟩,⟨v4,n,e⟩,⟨z,o,f⟩,⟨v6,p,g⟩,_⟩ j q;match j,q with
  |0,_=>exact i.trans (gi some a)
  |1,_=>exact k.trans (gi some b)
  |2,_=>exact l.trans (gi some c)
  |3,_=>exact m.trans (gi some d)
  |4,_=>exact n.trans (gi some e)
  |5,_=>exact o.trans (gi some f)
  |6,_=>exact p.trans (gi some g)
 .intro h;exact⟨⟨_,h 0 (by decide),rfl⟩,⟨_,h 1 (by decide),rfl⟩,⟨_,h 2 (by decide),rfl⟩,⟨_,h 3 (by decide),rfl⟩,⟨_,h 4 (by decide),rfl⟩,⟨_,h 5 (by decide),rfl⟩,⟨_,h 6 (by decide),rfl⟩,trivial⟩
def toK(a:Nat)(c:aq):aq:=λb=>match c b with
 |some (0,q)=>some (0,q)
 |some (1,[])=>some (a,[])
 |_=>none
def acy{c:Nat}{a:aq}{b:Nat}(h:my a b):toK c a b=a b:=by unfold toK;rcases h with h|⟨q,h⟩ <;> simp only[h]
def abI{c:Nat}{a:aq}{b:Nat}{k:Key}(h:toK c a b=some k):(∃q,k=(0,q)/\a b=some (0,q))\/(k=(c,[])/\a b=some (1,[])):=by
 unfold toK at h;split at h
 .rename_i q e;injection h with h;exact .inl ⟨q,h.symm,e⟩
 .rename_i e;injection h with h;exact .inr ⟨h.symm,e⟩
 .cases h
def aja{i:Nat}(f:i≠0){g:aq}(d:∀b c k,g b=some k->g c=some k->b=c):∀b c k,toK i g b=some k->toK i g c=some k->b=c:=by
 intro b c k j l;rcases abI j with ⟨q,e,o⟩|⟨e,o⟩ <;> rcases abI l with ⟨m,a,h⟩|⟨a,h⟩
 .rw[e]at a;injection a with _ a;subst a;exact d b c _ o h
 .rw[e]at a;injection a with a _;exact absurd a.symm f
 .rw[e]at a;injection a with a _;exact absurd a f
 .exact d b c _ o h
def getD_at{α:Type}(x:List α)(z:α){i:Nat}(h:i<x.length):x.getD i z=x[i]:=by rw[dG,bR h];rfl
def abc{α:Type}[Inhabited α](d:Array α)(z:α){i:Nat}(h:i<d.size):d.toList.getD i z=d[i]!:=by rw[getD_at d.toList z (by rw[gv];exact h),getElem!_pos d i h];rfl
def ahn {P:Program} {g:Nat} {l:E7->E7->Int} {fn:fE real (([Sh.agg (List.replicate 7 KI),Sh.agg (List.replicate 7 KI)].map Sh.ks).flatten)->Option (fE real (([Sh.one KI].map Sh.ks).flatten++(dY true [Sh.agg (List.replicate 7 KI),Sh.agg (List.replicate 7 KI)]++(eC [Sh.agg (List.replicate 7 KI),Sh.agg (List.replicate 7 KI)]).flatten)))}
  (C:ec P g ⟨true,[.agg (List.replicate 7 KI),.agg (List.replicate 7 KI)],[.one KI],fn⟩)
  (n:∀x y:E7,fn (x.1,x.2.1,x.2.2.1,x.2.2.2.1,x.2.2.2.2.1,x.2.2.2.2.2.1,x.2.2.2.2.2.2,y.1,y.2.1,y.2.2.1,y.2.2.2.1,y.2.2.2.2.1,y.2.2.2.2.2.1,y.2.2.2.2.2.2,())=some (l x y,()))
  {w:World} {t:aq} (A:zQ w t) {b:Nat} (B:t b=some (1,[])) (size:Nat):CmpLays P g #[] PV 7 l b 0 size w:=by
 intro m os f _ x y;have o:zQ (sortWorldK PV 7 w b 0 m f os) aq.ig:=λq G=>by
  obtain⟨u,r,T,mm,z⟩:=A q G;have p:q.1≠b:=λe=>by rw[e,B]at r;cases r
  have k:(putRowK PV 7 (Sort.ahead w m) b 0 f).heap.size=w.heap.size:=by rw[size_putRowK];rfl
  refine⟨?_,rfl,T,mm,?_⟩
  .show q.1<((putRowK PV 7 (Sort.ahead w m) b 0 f).heap++os).size;rw[CY,k];omega
  .show((putRowK PV 7 (Sort.ahead w m) b 0 f).heap++os)[q.1]? = _;rw[xB (by rw[k];exact u)];show((Sort.ahead w m).heap.modify b _)[q.1]? = _;rw[Array.getElem?_modify,bc (c6 p)];exact z
 have h:=C.calls (sortWorldK PV 7 w b 0 m f os) aq.ig [.agg (PV x).toArray,.agg (PV y).toArray] (x.1,x.2.1,x.2.2.1,x.2.2.2.1,x.2.2.2.2.1,x.2.2.2.2.2.1,x.2.2.2.2.2.2,y.1,y.2.1,y.2.2.1,y.2.2.2.1,y.2.2.2.2.1,y.2.2.2.2.2.1,y.2.2.2.2.2.2,()) (l x y,()) o
  (λ_ _ _ h=>nomatch h) (λ_ _ h=>nomatch h) ⟨rfl,⟨_,rfl,rfl,rfl,rfl,rfl,rfl,rfl,rfl,trivial⟩,rfl,⟨_,rfl,rfl,rfl,rfl,rfl,rfl,rfl,rfl,trivial⟩,rfl,rfl⟩ (n x y)
 refine h.mono λe a F=>?_;obtain⟨v,H,rfl,c,_,_,j,_⟩:=F;obtain⟨_,J,d,j⟩:=j;injection d with d _
 subst d;have j:v=.int .i64 (l x y):=j;refine⟨by rw[j],?_⟩;generalize sortWorldK PV 7 w b 0 m f os=W at c;refine⟨a.drawn-W.drawn,a.heap.extract W.heap.size a.heap.size,?_⟩;have hd:W.drawn+(a.drawn-W.drawn)=a.drawn:=by have:=c.output.2;omega
 have D:W.heap++a.heap.extract W.heap.size a.heap.size=a.heap:=by
  apply Array.ext_getElem?;intro i;by_cases s:i<W.heap.size
  .rw[xB s];exact(c.block i s (.inl rfl)).1.symm
  .rw[Array.getElem?_append_right (by omega),Array.getElem?_extract];have I:=c.size;by_cases E:i<a.heap.size
   .rw[cz (by omega)];congr 1;omega
   .rw[bc (by omega),Bp (by omega)]
 show a={ W.drewN (a.drawn-W.drawn)with heap:=W.heap++a.heap.extract W.heap.size a.heap.size }
 rw[D];show a={ heap:=a.heap,tape:=W.tape,drawn:=W.drawn+(a.drawn-W.drawn),os:=W.os,output:=W.output }
 rw[hd,<-c.tape,<-c.os,<-c.output.1]
def agD {P:Program} {V:Ren} (L:SlLaysF0.n6 P V) (H:∀w,(isAgg (V.t 24)).run P w=.ok true w) (Q:∀w,(Go.sizeOf (V.t 24)).run P w=.ok 7 w) (e:Nat) {m:E7->E7->Int} (hO:SWO (ltOf m)) {g:Nat} (eg:∀args w,(callFunc g args).run P w=.ok (.enter g args) w)
  {w:World} {A:aq} (v:∀b k,A b=some k->b<w.heap.size) (I:∀b size,A b=some (1,[])->CmpLays P g #[] PV 7 m b 0 size w) (S:Nat) (x:List E7) (Z:x.length<=1073741824) (u:Value) (hr:(Ty.sl e Cs7).R w A (.flat (1,[])) u x):
  Calls P (V.f 6) #[u,.func (.func g) #[] #[]] w λW R=>W=.returned (.tuple #[])/\cH A w (toK S A) R/\(∀b k,toK S A b=some k->b<R.heap.size)/\(Ty.sl e Cs7).R R (toK S A) (.flat (S,[])) u (Va m x:List E7):=by
 obtain⟨a,n,c,rfl,f,hnc,J,E⟩:=hr;have f:x.length=n:=f;have p:∀b k,toK S A b=some k->b<w.heap.size:=λb k h=>by rcases abI h with ⟨q,_,o⟩|⟨_,o⟩ <;> exact v b _ o
 have r:(Va m x).length=x.length:=by have h:=pdq_sorts (ltOf m) hO x.toArray 0 x.toArray.size (Lib.bitLen x.toArray.size) true true (kU _) (aJ _) (Or.inl rfl);have h:=h.1.1;unfold Va;rw[gv,h];rfl
 by_cases hn:n=0
 .subst hn;have hx0:x=[]:=e9.1 f;refine(AnyF.slices_SortFunc_none L a c (.func (.func g) #[] #[]) w).mono ?_;rintro W R ⟨rfl,rfl⟩;refine⟨rfl,⟨rfl,rfl,⟨rfl,aJ _⟩,aJ _,λb _ hb=>⟨rfl,acy hb⟩⟩,p,?_⟩;refine⟨a,0,c,rfl,r.trans (by rw[hx0];rfl),kU _,?_,λi _ s=>absurd s (vI _)⟩;rcases J with h|⟨b,arr,h1,T,X,B⟩
  .exact .inl h
  .exact .inr ⟨b,arr,h1,T,X,by unfold toK;simp only[B]⟩
 .rcases J with ⟨_,h⟩|⟨b,arr,rfl,T,X,B⟩
  .exact absurd h hn
  .subst f;have hH:HoldsK PV 7 w b 0 x.toArray:=by
    intro t U;rw[size_flatK]at U;have U:t<x.length*7:=U;have s:t / 7<x.length:=by omega
    have hj:t % 7<7:=Nat.mod_lt _ (by decide);refine⟨?_,?_⟩
    .have:=api.1 (E (t / 7) ⟨b,0,none⟩ s rfl) (t % 7) hj;have this:w.cell? ⟨b,0+t / 7*7+t % 7,none⟩=some (PV (x.getD (t / 7) (jk Cs7)))[t % 7]!:=this;rw[get_flatK _ _ _ _ U,getElem!_pos x.toArray (t / 7) s,show 0+t=0+t / 7*7+t % 7 by omega,this];congr 3;exact getD_at (α:=E7) x (jk Cs7) s
    .unfold World.frozen?;simp only[T];simp
   refine(AnyQ.slices_SortFunc_eq L 7 H Q PV ahs aht m hO g #[] b 0 c x.toArray w eg (I b _ B) hH (v b _ B) (Nat.lt_of_le_of_lt (show x.toArray.size<=1073741824 from Z) (by decide))).mono ?_;rintro W R ⟨rfl,q,G,rfl⟩;have Ba:(pdq (ltOf m) x.toArray 0 x.toArray.size (Lib.bitLen x.toArray.size) true true).size=x.toArray.size:=by have:=r;unfold Va at this;rwa[gv]at this
   have C:=holdsK_sortWorldK PV 7 w b 0 q x.toArray (pdq (ltOf m) x.toArray 0 x.toArray.size (Lib.bitLen x.toArray.size) true true) G (v b _ B) hH Ba;have F:∀i,i<x.length->(Va m x).getD i (jk Cs7)=(pdq (ltOf m) x.toArray 0 x.toArray.size (Lib.bitLen x.toArray.size) true true)[i]!:=λi s=>abc (α:=E7) _ (jk Cs7) (by rw[Ba];exact s);revert r C F Ba;generalize Va m x=z;generalize pdq (ltOf m) x.toArray 0 x.toArray.size (Lib.bitLen x.toArray.size) true true=d2;intro r Ba C F;have hne:∀d,my A d->d≠b:=λd l he=>by subst he;exact l.ne B (by decide)
   have O:(putRowK PV 7 (Sort.ahead w q) b 0 d2).heap.size=w.heap.size:=by rw[size_putRowK];rfl
   have Y:=v b _ B;have hold:∀d,d<w.heap.size->(sortWorldK PV 7 w b 0 q d2 G).heap[d]? = (putRowK PV 7 (Sort.ahead w q) b 0 d2).heap[d]?:=λd l=>by show((putRowK PV 7 (Sort.ahead w q) b 0 d2).heap++G)[d]? = _;rw[xB (by rw[O];exact l)]
   have M:w.heap.size<=(sortWorldK PV 7 w b 0 q d2 G).heap.size:=by show _<=((putRowK PV 7 (Sort.ahead w q) b 0 d2).heap++G).size;rw[CY,O];omega
   refine⟨rfl,⟨rfl,rfl,⟨rfl,kG _ _⟩,M,λd N l=>⟨?_,acy l⟩⟩,λd k hk=>gf (p d k hk) M,?_⟩
   .rw[hold d N];show((Sort.ahead w q).heap.modify b _)[d]? = _;rw[Array.getElem?_modify,bc (c6 (hne d l))];rfl
   .refine⟨some ⟨b,0,none⟩,x.length,c,rfl,r,hnc,?_,λi ad s D=>?_⟩
    .refine .inr ⟨b,putCells id 0 (flatK PV 7 d2) arr,rfl,?_,?_,by unfold toK;simp only[B]⟩
     .rw[hold b Y];show((Sort.ahead w q).heap.modify b _)[b]? = _;rw[Array.getElem?_modify,cz rfl];show Option.map _ w.heap[b]? = _;rw[T];rfl
     .unfold putCells;rw[Array.size_mapIdx];exact X
    .injection D with D
     subst D;refine api.2 λj hj=>?_;show(sortWorldK PV 7 w b 0 q d2 G).cell? ⟨b,0+i*7+j,none⟩=_;have hd3:d2.size=x.length:=Ba;have K:i*7+j<d2.size*7:=by omega
     have:=(C (i*7+j) (by rw[size_flatK];exact K)).1;rw[get_flatK _ _ _ _ K,show(i*7+j) / 7=i by omega,show(i*7+j) % 7=j by omega]at this;rw[show 0+i*7+j=0+(i*7+j)by omega,this];exact gi (λy:E7=>some (PV y)[j]!) (F i s).symm
def ai6 {P:Program} {m:Ren} (L:SlLaysF0.n6 P m) (i:∀w,(isAgg (m.t 24)).run P w=.ok true w) (k:∀w,(Go.sizeOf (m.t 24)).run P w=.ok 7 w) (e:Nat) {l:E7->E7->Int} (H:SWO (ltOf l)) {g:Nat} {fn}
  (s:ec P g ⟨true,[.agg (List.replicate 7 KI),.agg (List.replicate 7 KI)],[.one KI],fn⟩)
  (o:∀x y:E7,fn (x.1,x.2.1,x.2.2.1,x.2.2.2.1,x.2.2.2.2.1,x.2.2.2.2.2.1,x.2.2.2.2.2.2,y.1,y.2.1,y.2.2.1,y.2.2.2.1,y.2.2.2.2.1,y.2.2.2.2.2.1,y.2.2.2.2.2.2,())=some (l x y,())):ec P (m.f 6) (ag1 e g l):=by
 obtain⟨R,J,E⟩:=L.f6;refine⟨⟨_,_,E,J,rfl⟩,?_⟩;intro w N M x y G j r c a;obtain⟨x,S⟩:=x;have a:(bif dF (α:=E7) x then some (Va l x,())else none)=some y:=a;cases d:dF (α:=E7) x with
 |false=>rw[d]at a;cases a
 |true=>
  rw[d]at a;injection a with a
  subst a;match M,c with
  |[u,v],c=>
  obtain⟨_,⟨T,f,K⟩,_,⟨t,p,F,_⟩,_⟩:=c;injection f with f _
  subst f;cases t with
  |cons _ _=>exact F.elim
  |nil=>
  subst p;have q:List.length (α:=E7) x<=1073741824:=by have h:decide (((List.length (α:=E7) x:Nat):Int)<=limit)=true:=d;have h:=ck h;have n:limit=1073741824:=rfl;rw[n]at h;exact Int.ofNat_le.1 (show((List.length (α:=E7) x:Nat):Int)<=((1073741824:Nat):Int)from h)
  obtain⟨z,O,A,B,C⟩:=s.there;refine(agD L i k e H (enters_of A B C) r (λb size I=>ahn s o G I size) 2 x q u K).mono ?_;rintro Q U ⟨rfl,h,n,D⟩;exact⟨_,toK 2 N,rfl,h,aja (by decide) j,n,⟨[],rfl,rfl,rfl⟩,⟨λ_=>⟨D,trivial⟩,rfl,rfl⟩⟩
end Go.R
namespace Go.Fn
open Go.R
abbrev YcK:=Int×Int
abbrev NO:=List YcK
abbrev Li:=List Int
abbrev Qu:=Int×Int×Int×Bool
abbrev Ln:=List Qu
abbrev YbR:=Int×Li×Ln
abbrev Rp:=List YbR
abbrev YaM:=Int×YcK
abbrev YaZ:=Int×Int×YaM
abbrev Ka:=Int×Int×YaZ
abbrev JH:=List Ka
abbrev YaA:=NO×NO×Rp×Int×Int×Bool×Bool×Bool×Int×Int×JH
abbrev YaV:=Int×Int×Int×Int×Int×Int×Ka
abbrev KT:=List YaV
abbrev YbF:=Int×Int×Int×Qu
abbrev JX:=List YbF
abbrev Mk:=Int×Unit
abbrev Lj:=List YaA
abbrev YbV:=JH×Mk
abbrev YaH:=Int×Int×Int×Int×Int×Int×Int×Int×Int×Int×Int×Lj×KT×JX×YbV
abbrev YaU:=Bool×Unit
abbrev Kg:=Option YaU
abbrev YbP:=JH×Unit
abbrev YeB:=Int×Lj×KT×JX×YbP
abbrev YaK:=Int×Int×Int×Int×Int×Int×Int×Int×Int×Int×YeB
abbrev YcF:=Unit⊕Empty
abbrev YaN:=Option (Mk⊕YaU⊕YcF)
abbrev NP:=Int×Mk
abbrev YcO:=Int×NP
abbrev YaR:=Int×Int×Int×Int×Int×Int×Int×Int×Int×Int×Int×Int×Lj×KT×JX×JH×Int×Int×Int×Int×Int×Int×Int×Int×Int×Int×Int×Int×Int×Int×Int×ByteArray×Int×Int×Int×Int×Int×Int×Bool×Int×Int×Int×Int×Int×Int×Int×Int×Int×Int×Int×Int×Int×Int×Int×Int×Bool×Bool×Bool×YcO
abbrev YaS:=List (Int×Bool)
abbrev PN:=Option Mk
abbrev YbN:=Int×Int×YcO
abbrev YaX:=Int×Int×Int×YbN
abbrev YaY:=Option (Mk⊕Mk⊕YcF)
abbrev YdO:=Mk⊕Empty
abbrev YbA:=Option (NP⊕Mk⊕YdO)
abbrev YcH:=Bool×Bool×YaU
abbrev YbB:=Option (Int×Int×Bool×YcH)
abbrev YdF:=Int×Int×Int×YaX
abbrev YbC:=Int×Int×Int×Int×Int×Int×Int×Int×Int×Int×Int×Int×Lj×KT×JX×JH×YdF⊕Int×Int×Int×Int×Int×Int×Int×Int×Int×Int×Int×Lj×KT×JX×JH×Int×Int×Int×Int×Int×Int×Int×Int×Int×Int×Int×YdF⊕Empty
abbrev YbY:=List Bool
abbrev YbD:=List YbY
abbrev YbE:=Option (NP⊕YdO)
abbrev YbG:=List YaM
abbrev YbH:=Int×Int×Int×Int×Int×Int×Int×Int×Int×Int×Int×Lj×KT×JX×JH×YaH
abbrev YcG:=Ln×Unit
abbrev YbI:=Int×Li×YcG
abbrev YbJ:=Option (NP⊕YaU⊕YdO)
abbrev YbK:=ByteArray×Unit
abbrev YbL:=Int×Int×Int×YaU
abbrev YbM:=Option (Int×Int×Bool×Bool×Bool×Int×YaU)
abbrev YbO:=Option YaH
abbrev YbQ:=Option (YbH⊕Int×Int×Int×Int×Int×Int×Int×Int×Int×Int×Int×Lj×KT×JX×JH×YaK⊕Empty)
abbrev YbS:=NO×Unit
abbrev YbT:=Rp×Unit
abbrev YdN:=Bool×Mk
abbrev YbU:=Int×Int×Int×YdN
abbrev YbW:=List YaS
abbrev YdW:=Lj×Mk
abbrev YbX:=Int×Int×Int×Int×Int×Int×Int×Int×Int×Int×Int×Lj×KT×JX×JH×YdW
abbrev YbZ:=List YaZ
abbrev YcA:=Rp×Mk
abbrev YcB:=Option (JH×YaU)
abbrev YcC:=Option (YbV⊕JH×YaU⊕YbP⊕Empty)
abbrev YcX:=YbG×Mk
abbrev YdI:=YbG×Unit⊕Empty
abbrev YcD:=Option (YcX⊕YdI)
abbrev YcE:=Ln×Mk
abbrev YcI:=Li×NP
abbrev YcJ:=Li×Mk
abbrev YcL:=NO×NO×Rp×Int×Int×Bool×Bool×Bool×Int×Int×YbV
abbrev YcM:=Li×Unit
abbrev YcN:=YaS×Mk
abbrev YcP:=Option (YcA⊕YbT⊕Empty)
abbrev YcQ:=Option (YbG×Unit)
abbrev YcR:=JX×Unit
abbrev YcS:=Option (Int×YaU)
abbrev YcT:=Option (Int×YbN)
abbrev YcU:=Lj×Unit
abbrev YcV:=KT×Unit
abbrev YcW:=NO×YbS
abbrev YcY:=Option (Int×Int×YcH)
abbrev YeA:=JH×Int×YaX
abbrev YcZ:=Option (YeA⊕JH×YaX⊕Empty)
abbrev YdA:=Option YbI
abbrev YdB:=Int×Li×Ln×Int×Li×Ln×YbZ×Mk
abbrev YdC:=NO×Mk
abbrev YdD:=Int×Int×YbL
abbrev YdE:=Int×Li×YcE
abbrev YdG:=Int×Int×Int×YbU
abbrev YdH:=Option YbK
abbrev YdJ:=Option (Li×YaU)
abbrev YdK:=Option (Int×YaK)
abbrev YdL:=JX×Mk
abbrev YdM:=List Ln
abbrev YdP:=Option (Int×Li×Ln×YaU)
abbrev YdQ:=Option (YcE⊕YcG⊕Empty)
abbrev YdR:=Int×Li×Ln×YbI⊕Empty
abbrev YdS:=Option (YbK⊕YbK⊕Empty)
abbrev YdT:=Option YbP
abbrev YdU:=Option YbL
abbrev YdV:=Option YaK
abbrev YdX:=KT×Mk
abbrev YdY:=Option (YcN⊕YaU⊕YcF)
abbrev YdZ:=Option (Bool×Bool×YcH)
abbrev YeC:=Int×Int×Int×Int×YdL
def k5:Ka:=(0,0,0,0,0,0,0)
def V7(a b c d e f g:Int):Option (Int×Int×YbN):=some (a,b,c,d,e,f,g,())
def dr(a b c:Int):Kg:=cond (ak .geq a b) (some (ak .leq a c,())) (some (false,()))
def Sy(a b c d e f g:Int):Kg:=(dr a 0 5).bind λh=>letI i:=some (false,());cond h.1 ((dr b 1 999).bind λj=>cond j.1 ((dr c 1 100000).bind λk=>cond k.1 ((dr d 1 4).bind λl=>cond l.1 ((dr e 1 999).bind λm=>cond m.1 ((dr f 0 20000).bind λn=>cond n.1 ((dr g 0 20000).bind λo=>some (o.1,())) i) i) i) i) i) i
def eb(a b c:Int):Kg:=cond (ak .geq a b) (some (ak .leq a c,())) (some (false,()))
def Je(a:Int):Kg:=(eb a 0 20000).bind λb=>some (b.1,())
def R8(a b c d e f g:Int):Kg:=(eb a 0 5).bind λh=>letI i:=some (false,());cond h.1 ((eb b 1 999).bind λj=>cond j.1 ((eb c 1 100000).bind λk=>cond k.1 ((eb d 1 4).bind λl=>cond l.1 ((eb e 1 999).bind λm=>cond m.1 ((Je f).bind λn=>cond n.1 ((Je g).bind λo=>some (o.1,())) i) i) i) i) i) i
def Nv(a:JH)(b:Int):PN:=letI c:=aa .sub .i64 b (bw a);cond (ak .lss c 0) (some (-1,())) (some (c,()))
def MG(a:YbP)(b:YbV):Option (YbV⊕YbP⊕Empty):=letI c:=b.2.1;letI d:=ae k5 a.1 c;letI e:=d.2.2.2;cond (ak .lss c (bw a.1)) (cond (aZ a.1 c) ((V7 d.1 d.2.1 d.2.2.1 e.1 e.2.1 e.2.2.1 e.2.2.2).bind λf=>letI g:=f.2.2.2;cond (aZ b.1 c) (some (.inl (cS b.1 c (f.1,f.2.1,f.2.2.1,g.1,g.2.1,g.2.2.1,g.2.2.2.1),aa .add .i64 c 1,()))) none) none) (some (.inr (.inl (b.1,()))))
def MH k x:=iter (MG k) big x
def Nx(a:JH):YdT:=letI b:=(0:Int);cond (lu (bw a)) ((MH (a,()) (nw (bw a) (b,b,b,b,b,b,b),b,())).bind λc=>Sum.elim (λd=>some (d.1,())) (λd=>Empty.elim d) c) none
def Ps(a:YbP)(b:Mk):YaN:=letI c:=ae k5 a.1 b.1;letI d:=c.2.2;cond (ak .lss b.1 (bw a.1)) (cond (aZ a.1 b.1) ((Sy c.1 c.2.1 d.1 d.2.1 d.2.2.1 d.2.2.2.1 d.2.2.2.2).bind λe=>letI f:=(false,());letI g:=ak .gtr b.1 0;letI h:=aa .sub .i64 b.1 1;letI i:=(aa .add .i64 b.1 1,());letI j:=aZ a.1 h;letI k:=ae k5 a.1 h;letI l:=ak .eql c.1 k.1;letI m:=ak .leq c.2.1 k.2.1;letI n:=ak .leq d.1 k.2.2.1;cond (Bool.not e.1) (some (.inr (.inl f))) (cond g (cond j (cond (ak .lss c.1 k.1) (some (.inr (.inl f))) (cond g (cond j (cond l (cond j (cond m (some (.inr (.inl f))) (cond j (cond n (some (.inr (.inl f))) (some (.inl i))) none)) none) (some (.inl i))) none) (some (.inl i)))) none) (cond g (cond j (cond l (cond j (cond m (some (.inr (.inl f))) (cond j (cond n (some (.inr (.inl f))) (some (.inl i))) none)) none) (some (.inl i))) none) (some (.inl i))))) none) (some (.inr (.inr (.inl ()))))
def Pt k x:=iter (Ps k) big x
def JD(a:JH):Kg:=cond (ak .gtr (bw a) 60) (some (false,())) ((Pt (a,()) (0,())).bind λb=>Sum.elim (λc=>some (c.1,())) (λc=>Sum.elim (λ_=>some (true,())) (λd=>Empty.elim d) c) b)
def Ox(a:JH×YbV)(b:Mk):YaN:=letI c:=ae k5 a.2.1 b.1;letI d:=c.2.2;cond (ak .lss b.1 a.2.2.1) (cond (aZ a.2.1 b.1) ((R8 c.1 c.2.1 d.1 d.2.1 d.2.2.1 d.2.2.2.1 d.2.2.2.2).bind λe=>letI f:=(false,());letI g:=aa .sub .i64 b.1 1;letI h:=(aa .add .i64 b.1 1,());letI i:=ae k5 a.1 g;cond (Bool.not e.1) (some (.inr (.inl f))) (cond (ak .eql b.1 0) (some (.inl h)) (cond (aZ a.1 g) (cond (ak .lss c.1 i.1) (some (.inr (.inl f))) (cond (ak .eql c.1 i.1) (cond (ak .leq c.2.1 i.2.1) (some (.inr (.inl f))) (cond (ak .leq d.1 i.2.2.1) (some (.inr (.inl f))) (some (.inl h)))) (some (.inl h)))) none))) none) (some (.inr (.inr (.inl ()))))
def Oy k x:=iter (Ox k) big x
def JB(a:JH):Kg:=cond (ak .gtr (bw a) 60) (some (false,())) ((Oy (a,a,bw a,()) (0,())).bind λb=>Sum.elim (λc=>some (c.1,())) (λc=>Sum.elim (λ_=>some (true,())) (λd=>Empty.elim d) c) b)
def Sn(a b c d e f g h i j k l m n:Int):Kg:=letI o:=some (false,());cond (ak .neq a h) o (cond (ak .neq b i) o (cond (ak .neq c j) o (cond (ak .neq d k) o (cond (ak .neq e l) o (cond (ak .neq f m) o (cond (ak .neq g n) o (some (true,()))))))))
def P7(a:JH×YbP)(b:Mk):YaN:=letI c:=ae k5 a.1 b.1;letI d:=ae k5 a.2.1 b.1;letI e:=c.2.2.2;letI f:=d.2.2.2;cond (ak .lss b.1 (bw a.1)) (cond (aZ a.1 b.1) (cond (aZ a.2.1 b.1) ((Sn c.1 c.2.1 c.2.2.1 e.1 e.2.1 e.2.2.1 e.2.2.2 d.1 d.2.1 d.2.2.1 f.1 f.2.1 f.2.2.1 f.2.2.2).bind λg=>cond (Bool.not g.1) (some (.inr (.inl (false,())))) (some (.inl (aa .add .i64 b.1 1,())))) none) none) (some (.inr (.inr (.inl ()))))
def P8 k x:=iter (P7 k) big x
def Nu(a b:JH):Kg:=cond (ak .neq (bw a) (bw b)) (some (false,())) ((P8 (a,b,()) (0,())).bind λc=>Sum.elim (λd=>some (d.1,())) (λd=>Sum.elim (λ_=>some (true,())) (λe=>Empty.elim e) d) c)
def zI:Int:=0
def TF(a:Li×YcM)(b:Mk):YaN:=cond (ak .lss b.1 (bw a.1)) (cond (aZ a.1 b.1) (cond (aZ a.2.1 b.1) (cond (ak .neq (ae zI a.1 b.1) (ae zI a.2.1 b.1)) (some (.inr (.inl (false,())))) (some (.inl (aa .add .i64 b.1 1,())))) none) none) (some (.inr (.inr (.inl ()))))
def TG k x:=iter (TF k) big x
def UZ(a b:Li):Kg:=cond (ak .neq (bw a) (bw b)) (some (false,())) ((TG (a,b,()) (0,())).bind λc=>Sum.elim (λd=>some (d.1,())) (λd=>Sum.elim (λ_=>some (true,())) (λe=>Empty.elim e) d) c)
def Ls(a:Unit)(b:JH×NP):Option (JH×NP⊕YbV⊕Empty):=letI c:=b.2.2.1;letI d:=(ae k5 b.1 c).2;cond (ak .lss c (bw b.1)) (cond (aZ b.1 c) (lets (cS b.1 c (b.2.1,d.1,d.2.1,d.2.2.1,d.2.2.2.1,d.2.2.2.2.1,d.2.2.2.2.2)) λe=>letI f:=(1:Int);letI g:=aa .add .i64 b.2.1 f;letI h:=(ae k5 e c).2.2;cond (aZ e c) (lets (cS e c ((ae k5 e c).1,g,h.1,h.2.1,h.2.2.1,h.2.2.2.1,h.2.2.2.2)) λi=>letI j:=ae k5 i c;letI k:=j.2.2.2;letI l:=aa .add .i64 g f;cond (aZ i c) (lets (cS i c (j.1,j.2.1,l,k.1,k.2.1,k.2.2.1,k.2.2.2)) λm=>letI n:=ae k5 m c;letI o:=n.2.2.2.2;letI p:=aa .add .i64 l f;cond (aZ m c) (lets (cS m c (n.1,n.2.1,n.2.2.1,p,o.1,o.2.1,o.2.2)) λq=>letI r:=ae k5 q c;letI s:=aa .add .i64 p f;cond (aZ q c) (lets (cS q c (r.1,r.2.1,r.2.2.1,r.2.2.2.1,s,r.2.2.2.2.2.1,r.2.2.2.2.2.2)) λt=>letI u:=ae k5 t c;letI v:=aa .add .i64 s f;cond (aZ t c) (lets (cS t c (u.1,u.2.1,u.2.2.1,u.2.2.2.1,u.2.2.2.2.1,v,u.2.2.2.2.2.2)) λw=>lets (aa .add .i64 v f) λx=>letI y:=ae k5 w c;cond (aZ w c) (lets (cS w c (y.1,y.2.1,y.2.2.1,y.2.2.2.1,y.2.2.2.2.1,y.2.2.2.2.2.1,x)) λz=>some (.inl (z,aa .add .i64 x f,aa .add .i64 c f,()))) none) none) none) none) none) none) none) (some (.inr (.inl (b.1,b.2.1,()))))
def Lt k x:=iter (Ls k) big x
def LB(a:JH)(b:Int):Option (Int×YbP):=(Lt () (a,b,0,())).bind λc=>Sum.elim (λd=>some (d.2.1,d.1,())) (λd=>Empty.elim d) c
def MD(a:Unit)(b:YcI):Option (YcI⊕YcJ⊕Empty):=letI c:=b.2.2.1;cond (ak .lss c (bw b.1)) (cond (aZ b.1 c) (some (.inl (cS b.1 c b.2.1,aa .add .i64 b.2.1 1,aa .add .i64 c 1,()))) none) (some (.inr (.inl (b.1,b.2.1,()))))
def ME k x:=iter (MD k) big x
def QK(a:Li)(b:Int):Option (Int×YcM):=(ME () (a,b,0,())).bind λc=>Sum.elim (λd=>some (d.2.1,d.1,())) (λd=>Empty.elim d) c
def My(a:YcM)(b:NP):YbA:=cond (ak .lss b.2.1 (bw a.1)) (cond (aZ a.1 b.2.1) (cond (ak .neq (ae zI a.1 b.2.1) b.1) (some (.inr (.inl (-1,())))) (some (.inl (aa .add .i64 b.1 1,aa .add .i64 b.2.1 1,())))) none) (some (.inr (.inr (.inl (b.1,())))))
def Mz k x:=iter (My k) big x
def QI(a:Li)(b:Int):PN:=(Mz (a,()) (b,0,())).bind λc=>Sum.elim (λd=>some (d.1,())) (λd=>Sum.elim (λe=>some (e.1,())) (λe=>Empty.elim e) d) c
def Pd(a:YcM)(b:YcJ):Option (YcJ⊕YcM⊕Empty):=letI c:=b.2.1;cond (ak .lss c (bw a.1)) (cond (aZ a.1 c) (cond (aZ b.1 c) (some (.inl (cS b.1 c (ae zI a.1 c),aa .add .i64 c 1,()))) none) none) (some (.inr (.inl (b.1,()))))
def Pe k x:=iter (Pd k) big x
def U8(a:Li):Option YcM:=cond (lu (bw a)) ((Pe (a,()) (nw (bw a) (0:Int),0,())).bind λb=>Sum.elim (λc=>some (c.1,())) (λc=>Empty.elim c) b) none
def Lq(a:YbP)(b:NP):YbA:=letI c:=(1:Int);letI d:=((-1:Int),());letI e:=aZ a.1 b.2.1;letI f:=ae k5 a.1 b.2.1;letI g:=aa .add .i64 b.1 c;letI h:=f.2.2.2;letI i:=aa .add .i64 g c;letI j:=aa .add .i64 i c;letI k:=aa .add .i64 j c;cond (ak .lss b.2.1 (bw a.1)) (cond e (cond (ak .neq f.1 b.1) (some (.inr (.inl d))) (cond e (cond (ak .neq f.2.1 g) (some (.inr (.inl d))) (cond e (cond (ak .neq f.2.2.1 i) (some (.inr (.inl d))) (cond e (cond (ak .neq h.1 j) (some (.inr (.inl d))) (cond e (lets (ak .neq h.2.1 k) λl=>letI m:=aa .add .i64 k c;cond l (some (.inr (.inl d))) (cond e (lets (ak .neq h.2.2.1 m) λn=>cond n (some (.inr (.inl d))) (lets (aa .add .i64 m c) λo=>cond e (cond (ak .neq h.2.2.2 o) (some (.inr (.inl d))) (some (.inl (aa .add .i64 o c,aa .add .i64 b.2.1 c,())))) none)) none)) none)) none)) none)) none)) none) (some (.inr (.inr (.inl (b.1,())))))
def Lr k x:=iter (Lq k) big x
def LA(a:JH)(b:Int):PN:=(Lr (a,()) (b,0,())).bind λc=>Sum.elim (λd=>some (d.1,())) (λd=>Sum.elim (λe=>some (e.1,())) (λe=>Empty.elim e) d) c
def apj:Li:=([]:Li)
def Qt:YaZ:=(0,0,0,0,0)
def U5(a:Li)(b:Int):PN:=letI c:=aa .sub .i64 b (bw a);cond (ak .lss c 0) (some (-1,())) (some (c,()))
def SN:YcK:=(0,0)
def O7(a:NO)(b:Int):PN:=letI c:=aa .sub .i64 b (bw a);cond (ak .lss c 0) (some (-1,())) (some (c,()))
def U6(a b:NO)(c:Int):PN:=(O7 a c).bind λd=>letI e:=some ((-1:Int),());cond (ak .lss d.1 0) e ((O7 b d.1).bind λf=>cond (ak .lss f.1 0) e (some (f.1,())))
def Xq(a b:Int):Option NP:=some (a,b,())
def NF(a:YbS)(b:YdC):Option (YdC⊕YbS⊕Empty):=letI c:=b.2.1;cond (ak .lss c (bw a.1)) (cond (aZ a.1 c) ((Xq (ae SN a.1 c).1 (ae SN a.1 c).2).bind λd=>cond (aZ b.1 c) (some (.inl (cS b.1 c (d.1,d.2.1),aa .add .i64 c 1,()))) none) none) (some (.inr (.inl (b.1,()))))
def NG k x:=iter (NF k) big x
def Ph(a:NO):Option YbS:=cond (lu (bw a)) ((NG (a,()) (nw (bw a) ((0:Int),(0:Int)),0,())).bind λb=>Sum.elim (λc=>some (c.1,())) (λc=>Empty.elim c) b) none
def U9(a b:NO):Option YcW:=(Ph a).bind λc=>(Ph b).bind λd=>some (c.1,d.1,())
def V8(a b c d e f g h:Int):Option YaX:=some (a,b,c,d,e,f,g,h,())
def RO(a:YdC)(b:Mk):YaN:=letI c:=(false,());letI d:=ae SN a.1 b.1;letI e:=aa .sub .i64 b.1 1;letI f:=(aa .add .i64 b.1 1,());cond (ak .lss b.1 (bw a.1)) (cond (aZ a.1 b.1) (cond (ak .lss d.1 0) (some (.inr (.inl c))) (cond (ak .geq d.1 d.2) (some (.inr (.inl c))) (cond (ak .gtr d.2 a.2.1) (some (.inr (.inl c))) (cond (ak .gtr b.1 0) (cond (aZ a.1 e) (cond (ak .leq d.1 (ae SN a.1 e).2) (some (.inr (.inl c))) (some (.inl f))) none) (some (.inl f)))))) none) (some (.inr (.inr (.inl ()))))
def RP k x:=iter (RO k) big x
def PA(a:NO)(b:Int):Kg:=cond (ak .gtr (bw a) 20) (some (false,())) ((RP (a,b,()) (0,())).bind λc=>Sum.elim (λd=>some (d.1,())) (λd=>Sum.elim (λ_=>some (true,())) (λe=>Empty.elim e) d) c)
def KR(a b:NO):Kg:=(PA a 168).bind λc=>cond c.1 ((PA b 20000).bind λd=>some (d.1,())) (some (false,()))
def MT(a b c d e f g h:Int):Kg:=letI i:=(2000:Int);(dr a 1 i).bind λj=>letI k:=some (false,());cond j.1 ((dr c 1 i).bind λl=>cond l.1 ((dr f 1 i).bind λm=>cond m.1 ((dr b 0 i).bind λn=>cond n.1 ((dr d 0 10000).bind λo=>cond o.1 ((dr e 0 1000000).bind λp=>cond p.1 ((dr g 0 100000).bind λq=>cond q.1 ((dr h 0 20).bind λr=>some (r.1,())) k) k) k) k) k) k) k
def PB(a:YdC)(b:Mk):YaN:=letI c:=ae SN a.1 b.1;letI d:=(aa .add .i64 b.1 1,());cond (ak .lss b.1 (bw a.1)) (cond (aZ a.1 b.1) (cond (ak .leq c.1 a.2.1) (cond (aZ a.1 b.1) (cond (ak .lss a.2.1 c.2) (some (.inr (.inl (true,())))) (some (.inl d))) none) (some (.inl d))) none) (some (.inr (.inr (.inl ()))))
def PC k x:=iter (PB k) big x
def Mh(a:NO)(b:Int):Kg:=(PC (a,b,()) (0,())).bind λc=>Sum.elim (λd=>some (d.1,())) (λd=>Sum.elim (λ_=>some (false,())) (λe=>Empty.elim e) d) c
def MU(a b:NO)(c:Int):Kg:=cond (eE 168) none ((Mh a (aa .rem .i64 c 168)).bind λd=>cond d.1 ((Mh b c).bind λe=>some (Bool.not e.1,())) (some (false,())))
def L0(a:Int×YcW)(b:NP):YbE:=cond (ak .lss b.2.1 a.1) ((MU a.2.1 a.2.2.1 b.2.1).bind λc=>letI d:=aa .add .i64 b.2.1 1;cond c.1 (some (.inl (aa .add .i64 b.1 1,d,()))) (some (.inl (b.1,d,())))) (some (.inr (.inl (b.1,()))))
def L1 k x:=iter (L0 k) big x
def Py(a b:NO)(c d:Int):PN:=(KR a b).bind λe=>letI f:=some ((0:Int),());cond (Bool.not e.1) f ((dr c 0 20000).bind λg=>cond (Bool.not g.1) f ((dr d 0 20000).bind λh=>cond (Bool.not h.1) f ((L1 (d,a,b,()) (0,c,())).bind λi=>Sum.elim (λj=>some (j.1,())) (λj=>Empty.elim j) i)))
def Vi(a b c d e f g h i j k:Int):PN:=letI l:=aa .sub .i64 j b;letI m:=aa .mul .i64 g k;cond (ak .gtr l 0) (cond (eE c) none (lets (aa .add .i64 (nS false e (aa .mul .i64 (aa .mul .i64 (aa .quo .i64 (aa .sub .i64 (aa .add .i64 l c) 1) c) d) i)) m) λn=>some (n,()))) (some (aa .add .i64 0 m,()))
def TU(a b:NO)(c d e f g h i j k l m n:Int):PN:=(KR a b).bind λo=>letI p:=some ((-1:Int),());cond (Bool.not o.1) p ((MT c d e f g h i j).bind λq=>cond (Bool.not q.1) p ((dr k 1 24).bind λr=>cond (Bool.not r.1) p ((dr m 0 20000).bind λs=>cond (Bool.not s.1) p ((dr l 0 m).bind λt=>cond (Bool.not t.1) p ((dr n 0 j).bind λu=>cond (Bool.not u.1) p ((Py a b l m).bind λv=>(Vi c d e f g h i j k v.1 n).bind λw=>some (w.1,())))))))
def Rv(a:NO×Int×YdC)(b:Mk):YaN:=letI c:=(false,());letI d:=aa .sub .i64 b.1 1;letI e:=ae SN a.2.2.1 b.1;letI f:=(aa .add .i64 b.1 1,());cond (ak .lss b.1 a.2.2.2.1) (cond (aZ a.2.2.1 b.1) (cond (ak .lss e.1 0) (some (.inr (.inl c))) (cond (ak .geq e.1 e.2) (some (.inr (.inl c))) (cond (ak .gtr e.2 a.2.1) (some (.inr (.inl c))) (cond (ak .gtr b.1 0) (cond (aZ a.1 d) (cond (ak .leq e.1 (ae SN a.1 d).2) (some (.inr (.inl c))) (some (.inl f))) none) (some (.inl f)))))) none) (some (.inr (.inr (.inl ()))))
def Rw k x:=iter (Rv k) big x
def OG(a:NO)(b:Int):Kg:=cond (ak .gtr (bw a) 20) (some (false,())) ((Rw (a,b,a,bw a,()) (0,())).bind λc=>Sum.elim (λd=>some (d.1,())) (λd=>Sum.elim (λ_=>some (true,())) (λe=>Empty.elim e) d) c)
def Kn(a b:NO):Kg:=(OG a 168).bind λc=>cond c.1 ((OG b 20000).bind λd=>some (d.1,())) (some (false,()))
def Mp(a b c d e f g h:Int):Kg:=letI i:=(2000:Int);(eb a 1 i).bind λj=>letI k:=some (false,());cond j.1 ((eb c 1 i).bind λl=>cond l.1 ((eb f 1 i).bind λm=>cond m.1 ((eb b 0 i).bind λn=>cond n.1 ((eb d 0 10000).bind λo=>cond o.1 ((eb e 0 1000000).bind λp=>cond p.1 ((eb g 0 100000).bind λq=>cond q.1 ((eb h 0 20).bind λr=>some (r.1,())) k) k) k) k) k) k) k
def RE(a:Int×YdC)(b:Mk):YaN:=letI c:=ae SN a.2.1 b.1;letI d:=(aa .add .i64 b.1 1,());cond (ak .lss b.1 a.2.2.1) (cond (aZ a.2.1 b.1) (cond (ak .geq a.1 c.1) (cond (ak .lss a.1 c.2) (some (.inr (.inl (true,())))) (some (.inl d))) (some (.inl d))) none) (some (.inr (.inr (.inl ()))))
def RF k x:=iter (RE k) big x
def OJ(a:NO)(b:Int):Kg:=(RF (b,a,bw a,()) (0,())).bind λc=>Sum.elim (λd=>some (d.1,())) (λd=>Sum.elim (λ_=>some (false,())) (λe=>Empty.elim e) d) c
def N5(a b:NO)(c:Int):Kg:=cond (eE 168) none ((OJ a (aa .rem .i64 c 168)).bind λd=>cond d.1 ((OJ b c).bind λe=>some (Bool.not e.1,())) (some (false,())))
def LR(a:Int×YcW)(b:NP):YbE:=cond (ak .lss b.2.1 a.1) ((N5 a.2.1 a.2.2.1 b.2.1).bind λc=>letI d:=aa .add .i64 b.2.1 1;cond c.1 (some (.inl (aa .add .i64 b.1 1,d,()))) (some (.inl (b.1,d,())))) (some (.inr (.inl (b.1,()))))
def LS k x:=iter (LR k) big x
def OD(a b:NO)(c d:Int):PN:=(Kn a b).bind λe=>letI f:=some ((0:Int),());cond (Bool.not e.1) f ((Je c).bind λg=>cond (Bool.not g.1) f ((Je d).bind λh=>cond (Bool.not h.1) f ((LS (d,a,b,()) (0,c,())).bind λi=>Sum.elim (λj=>some (j.1,())) (λj=>Empty.elim j) i)))
def Si(a b c d e f g h i j:Int):PN:=letI k:=aa .sub .i64 j b;cond (ak .leq k 0) (some (0,())) (cond (eE c) none (some (nS false e (aa .mul .i64 (aa .mul .i64 (aa .quo .i64 (aa .sub .i64 (aa .add .i64 k c) 1) c) d) i),())))
def V2(a b:NO)(c d e f g h i j k l m n:Int):PN:=(Kn a b).bind λo=>letI p:=some ((-1:Int),());cond (Bool.not o.1) p ((Mp c d e f g h i j).bind λq=>cond (Bool.not q.1) p ((eb k 1 24).bind λr=>cond (Bool.not r.1) p ((Je l).bind λs=>cond (Bool.not s.1) p ((Je m).bind λt=>cond (Bool.not t.1) p (cond (ak .lss m l) p ((eb n 0 j).bind λu=>cond (Bool.not u.1) p ((OD a b l m).bind λv=>(Si c d e f g h i j k v.1).bind λw=>some (aa .add .i64 w.1 (aa .mul .i64 i n),()))))))))
def U2(a b c d:Int):Kg:=letI e:=some (false,());cond (ak .neq a c) e (cond (ak .neq b d) e (some (true,())))
def RI(a:YcW)(b:Mk):YaN:=letI c:=ae SN a.1 b.1;letI d:=ae SN a.2.1 b.1;cond (ak .lss b.1 (bw a.1)) (cond (aZ a.1 b.1) (cond (aZ a.2.1 b.1) ((U2 c.1 c.2 d.1 d.2).bind λe=>cond (Bool.not e.1) (some (.inr (.inl (false,())))) (some (.inl (aa .add .i64 b.1 1,())))) none) none) (some (.inr (.inr (.inl ()))))
def RJ k x:=iter (RI k) big x
def OU(a b:NO):Kg:=cond (ak .neq (bw a) (bw b)) (some (false,())) ((RJ (a,b,()) (0,())).bind λc=>Sum.elim (λd=>some (d.1,())) (λd=>Sum.elim (λ_=>some (true,())) (λe=>Empty.elim e) d) c)
def U3(a b c d:NO):Kg:=(OU a c).bind λe=>letI f:=some (false,());cond (Bool.not e.1) f ((OU b d).bind λg=>cond (Bool.not g.1) f (some (true,())))
def TW(a:YcJ)(b:Mk):YaN:=cond (ak .lss b.1 (bw a.1)) (cond (aZ a.1 b.1) (cond (ak .eql (ae zI a.1 b.1) a.2.1) (some (.inr (.inl (true,())))) (some (.inl (aa .add .i64 b.1 1,())))) none) (some (.inr (.inr (.inl ()))))
def TX k x:=iter (TW k) big x
def Vh(a:Li)(b:Int):Kg:=(TX (a,b,()) (0,())).bind λc=>Sum.elim (λd=>some (d.1,())) (λd=>Sum.elim (λ_=>some (false,())) (λe=>Empty.elim e) d) c
def JP(a:YcI)(b:Mk):YaY:=cond (ak .lss b.1 a.2.2.1) (cond (aZ a.1 b.1) (cond (ak .eql a.2.1 (ae zI a.1 b.1)) (some (.inr (.inl (b.1,())))) (some (.inl (aa .add .i64 b.1 1,())))) none) (some (.inr (.inr (.inl ()))))
def Kx k x:=iter (JP k) big x
def Lc(a:Li)(b:Int):PN:=(Kx (a,b,bw a,()) (0,())).bind λc=>Sum.elim (λd=>some (d.1,())) (λd=>Sum.elim (λ_=>some (-1,())) (λe=>Empty.elim e) d) c
def JO(a:Li)(b:Int):Kg:=(Lc a b).bind λc=>some (ak .geq c.1 0,())
def agS:Int×Ka:=letI a:=(0:Int);(a,a,a,a,a,a,a,a)
def Sr(a b c d e f g h i j k l m n o p:Int):Kg:=letI q:=some (false,());cond (ak .neq a i) q (cond (ak .neq b j) q (cond (ak .neq c k) q (cond (ak .neq d l) q (cond (ak .neq e m) q (cond (ak .neq f n) q (cond (ak .neq g o) q (cond (ak .neq h p) q (some (true,())))))))))
def ax:YaA:=(([]:NO),([]:NO),([]:Rp),0,0,false,false,false,0,0,([]:JH))
def aS:YaV:=letI a:=(0:Int);(a,a,a,a,a,a,a,a,a,a,a,a,a)
def kC:YbF:=(0,0,0,0,0,0,false)
def br:YbR:=(0,([]:Li),([]:Ln))
def gI:Qu:=(0,0,0,false)
def U4(a:Ln)(b:Int):PN:=letI c:=aa .sub .i64 b (bw a);cond (ak .lss c 0) (some (-1,())) (some (c,()))
def KW(a:Int)(b:Li)(c:Ln)(d:Int):PN:=(U5 b d).bind λe=>letI f:=some ((-1:Int),());cond (ak .lss e.1 0) f ((U4 c e.1).bind λg=>cond (ak .lss g.1 0) f (some (g.1,())))
def Jz(a:YbT)(b:NP):YbA:=letI c:=ae br a.1 b.2.1;cond (ak .lss b.2.1 (bw a.1)) (cond (aZ a.1 b.2.1) ((KW c.1 c.2.1 c.2.2 b.1).bind λd=>cond (ak .lss d.1 0) (some (.inr (.inl (-1,())))) (some (.inl (d.1,aa .add .i64 b.2.1 1,())))) none) (some (.inr (.inr (.inl (b.1,())))))
def LU k x:=iter (Jz k) big x
def La(a:Rp)(b:Int):PN:=letI c:=aa .sub .i64 b (bw a);cond (ak .lss c 0) (some (-1,())) ((LU (a,()) (c,0,())).bind λd=>Sum.elim (λe=>some (e.1,())) (λe=>Sum.elim (λf=>some (f.1,())) (λf=>Empty.elim f) e) d)
def N6(a b:NO)(c:Rp)(d e:Int)(f g h:Bool)(i j:Int)(k:JH)(l:Int):PN:=(U6 a b l).bind λm=>letI n:=some ((-1:Int),());cond (ak .lss m.1 0) n ((La c m.1).bind λo=>cond (ak .lss o.1 0) n ((Nv k o.1).bind λp=>cond (ak .lss p.1 0) n (some (p.1,()))))
def JF(a:YcU)(b:NP):YbA:=letI c:=ae ax a.1 b.2.1;letI d:=c.2;letI e:=d.2.2.2.2.2;cond (ak .lss b.2.1 (bw a.1)) (cond (aZ a.1 b.2.1) ((N6 c.1 d.1 d.2.1 d.2.2.1 d.2.2.2.1 d.2.2.2.2.1 e.1 e.2.1 e.2.2.1 e.2.2.2.1 e.2.2.2.2 b.1).bind λf=>cond (ak .lss f.1 0) (some (.inr (.inl (-1,())))) (some (.inl (f.1,aa .add .i64 b.2.1 1,())))) none) (some (.inr (.inr (.inl (b.1,())))))
def ND k x:=iter (JF k) big x
def KO(a:Lj)(b:Int):PN:=letI c:=aa .sub .i64 b (bw a);cond (ak .lss c 0) (some (-1,())) ((ND (a,()) (c,0,())).bind λd=>Sum.elim (λe=>some (e.1,())) (λe=>Sum.elim (λf=>some (f.1,())) (λf=>Empty.elim f) e) d)
def O6(a:KT)(b:Int):PN:=letI c:=aa .sub .i64 b (bw a);cond (ak .lss c 0) (some (-1,())) (some (c,()))
def QL(a:JX)(b:Int):PN:=letI c:=aa .sub .i64 b (bw a);cond (ak .lss c 0) (some (-1,())) (some (c,()))
def Lb(a b c d e f g h i j k:Int)(l:Lj)(m:KT)(n:JX)(o:JH)(p:Int):PN:=(KO l p).bind λq=>letI r:=some ((-1:Int),());cond (ak .lss q.1 0) r ((O6 m q.1).bind λs=>cond (ak .lss s.1 0) r ((QL n s.1).bind λt=>cond (ak .lss t.1 0) r ((Nv o t.1).bind λu=>cond (ak .lss u.1 0) r (some (u.1,())))))
def Yy(a b c:Int)(d:Bool):YdU:=some (a,b,c,d,())
def O8(a:YcG)(b:YcE):YdQ:=letI c:=b.2.1;letI d:=ae gI a.1 c;cond (ak .lss c (bw a.1)) (cond (aZ a.1 c) ((Yy d.1 d.2.1 d.2.2.1 d.2.2.2).bind λe=>cond (aZ b.1 c) (some (.inl (cS b.1 c (e.1,e.2.1,e.2.2.1,e.2.2.2.1),aa .add .i64 c 1,()))) none) none) (some (.inr (.inl (b.1,()))))
def O9 k x:=iter (O8 k) big x
def U7(a:Ln):Option YcG:=cond (lu (bw a)) ((O9 (a,()) (nw (bw a) ((0:Int),(0:Int),(0:Int),false),0,())).bind λb=>Sum.elim (λc=>some (c.1,())) (λc=>Empty.elim c) b) none
def Nw(a:Int)(b:Li)(c:Ln):YdA:=(U8 b).bind λd=>(U7 c).bind λe=>some (a,d.1,e.1,())
def LV(a:YbT)(b:YcA):YcP:=letI c:=b.2.1;letI d:=ae br a.1 c;cond (ak .lss c (bw a.1)) (cond (aZ a.1 c) ((Nw d.1 d.2.1 d.2.2).bind λe=>cond (aZ b.1 c) (some (.inl (cS b.1 c (e.1,e.2.1,e.2.2.1),aa .add .i64 c 1,()))) none) none) (some (.inr (.inl (b.1,()))))
def Pc k x:=iter (LV k) big x
def Pb(a:Rp):Option YbT:=cond (lu (bw a)) ((Pc (a,()) (nw (bw a) ((0:Int),([]:Li),([]:Ln)),0,())).bind λb=>Sum.elim (λc=>some (c.1,())) (λc=>Empty.elim c) b) none
def Xp(a b:Int)(c d e:Bool):YcY:=some (a,b,c,d,e,())
def Rj(a b:NO)(c:Rp)(d e:Int)(f g h:Bool)(i j:Int)(k:JH):Option (NO×NO×Rp×Int×Int×Bool×Bool×Bool×Int×Int×YbP):=(U9 a b).bind λl=>(Pb c).bind λm=>(Xp d e f g h).bind λn=>(Nx k).bind λo=>some (l.1,l.2.1,m.1,n.1,n.2.1,n.2.2.1,n.2.2.2.1,n.2.2.2.2.1,i,j,o.1,())
def NE(a:YcU)(b:YdW):Option (YdW⊕YcU⊕Empty):=letI c:=b.2.1;letI d:=(ae ax a.1 c).2;letI e:=d.2.2.2.2.2;cond (ak .lss c (bw a.1)) (cond (aZ a.1 c) ((Rj (ae ax a.1 c).1 d.1 d.2.1 d.2.2.1 d.2.2.2.1 d.2.2.2.2.1 e.1 e.2.1 e.2.2.1 e.2.2.2.1 e.2.2.2.2).bind λf=>letI g:=f.2.2.2.2.2;cond (aZ b.1 c) (lets (cS b.1 c (f.1,f.2.1,f.2.2.1,f.2.2.2.1,f.2.2.2.2.1,g.1,g.2.1,g.2.2.1,g.2.2.2.1,g.2.2.2.2.1,g.2.2.2.2.2.1)) λh=>some (.inl (h,aa .add .i64 c 1,()))) none) none) (some (.inr (.inl (b.1,()))))
def RK k x:=iter (NE k) big x
def Su(a:Lj):Option YcU:=cond (lu (bw a)) ((RK (a,()) (nw (bw a) (([]:NO),([]:NO),([]:Rp),(0:Int),(0:Int),false,false,false,(0:Int),(0:Int),([]:JH)),0,())).bind λb=>Sum.elim (λc=>some (c.1,())) (λc=>Empty.elim c) b) none
def aav(a b c d e:Int):Option YbN:=some (a,b,c,d,e,())
def Vo(a b c d e f g h i j k l m:Int):Option (Int×Int×YdF):=(aav g h i j k).bind λn=>some (a,b,c,d,e,f,n.1,n.2.1,n.2.2.1,n.2.2.2.1,n.2.2.2.2.1,l,m,())
def LW(a:YcV)(b:YdX):Option (YdX⊕YcV⊕Empty):=letI c:=b.2.1;letI d:=ae aS a.1 c;letI e:=d.2.2;letI f:=e.2.2.2.2.2;cond (ak .lss c (bw a.1)) (cond (aZ a.1 c) ((Vo d.1 d.2.1 e.1 e.2.1 e.2.2.1 e.2.2.2.1 e.2.2.2.2.1 f.1 f.2.1 f.2.2.1 f.2.2.2.1 f.2.2.2.2.1 f.2.2.2.2.2).bind λg=>letI h:=g.2.2.2;letI i:=h.2.2.2;letI j:=i.2.2.2;cond (aZ b.1 c) (lets (cS b.1 c (g.1,g.2.1,g.2.2.1,h.1,h.2.1,h.2.2.1,i.1,i.2.1,i.2.2.1,j.1,j.2.1,j.2.2.1,j.2.2.2.1)) λk=>some (.inl (k,aa .add .i64 c 1,()))) none) none) (some (.inr (.inl (b.1,()))))
def LX k x:=iter (LW k) big x
def Pg(a:KT):Option YcV:=letI b:=(0:Int);cond (lu (bw a)) ((LX (a,()) (nw (bw a) (b,b,b,b,b,b,b,b,b,b,b,b,b),b,())).bind λc=>Sum.elim (λd=>some (d.1,())) (λd=>Empty.elim d) c) none
def Ss(a b c d e f:Int)(g:Bool):Option (Int×YdD):=some (a,b,c,d,e,f,g,())
def MI(a:YcR)(b:YdL):Option (YdL⊕YcR⊕Empty):=letI c:=b.2.1;letI d:=ae kC a.1 c;letI e:=d.2.2.2;cond (ak .lss c (bw a.1)) (cond (aZ a.1 c) ((Ss d.1 d.2.1 d.2.2.1 e.1 e.2.1 e.2.2.1 e.2.2.2).bind λf=>letI g:=f.2.2.2;cond (aZ b.1 c) (some (.inl (cS b.1 c (f.1,f.2.1,f.2.2.1,g.1,g.2.1,g.2.2.1,g.2.2.2.1),aa .add .i64 c 1,()))) none) none) (some (.inr (.inl (b.1,()))))
def MJ k x:=iter (MI k) big x
def QM(a:JX):Option YcR:=cond (lu (bw a)) ((MJ (a,()) (nw (bw a) ((0:Int),(0:Int),(0:Int),(0:Int),(0:Int),(0:Int),false),0,())).bind λb=>Sum.elim (λc=>some (c.1,())) (λc=>Empty.elim c) b) none
def Pf(a b c d e f g h i j k:Int)(l:Lj)(m:KT)(n:JX)(o:JH):YdV:=(V8 a b c d e f g h).bind λp=>(Su l).bind λq=>(Pg m).bind λr=>(QM n).bind λs=>(Nx o).bind λt=>letI u:=p.2.2.2.2;some (p.1,p.2.1,p.2.2.1,p.2.2.2.1,u.1,u.2.1,u.2.2.1,u.2.2.2.1,i,j,k,q.1,r.1,s.1,t.1,())
def Js(a:Int):Kg:=(dr a 1 2147483646).bind λb=>some (b.1,())
def J0(a b c d e f g h i j k:Int)(l:Lj)(m:KT)(n:JX)(o:JH)(p:Int):PN:=(Js j).bind λq=>letI r:=some ((0:Int),());cond (Bool.not q.1) r ((dr p 1 12).bind λs=>cond (Bool.not s.1) r (cond (eE 2147483646) none (some (aa .add .i64 (aa .rem .i64 (aa .add .i64 j (aa .mul .i64 7919 p)) 2147483646) 1,()))))
def Jt(a:Int):Kg:=(eb a 1 2147483646).bind λb=>some (b.1,())
def Km(a b c d e f g h i j k:Int)(l:Lj)(m:KT)(n:JX)(o:JH)(p:Int):PN:=(Jt j).bind λq=>letI r:=some ((0:Int),());cond (Bool.not q.1) r ((eb p 1 12).bind λs=>cond (Bool.not s.1) r (cond (eE 2147483646) none (some (aa .add .i64 (aa .rem .i64 (aa .add .i64 j (aa .mul .i64 7919 p)) 2147483646) 1,()))))
def V6(a b c:Int)(d:Bool)(e f g:Int)(h:Bool):Kg:=letI i:=some (false,());cond (ak .neq a e) i (cond (ak .neq b f) i (cond (ak .neq c g) i (cond (Bool.not (pI d h)) i (some (true,())))))
def TD(a:Ln×YcG)(b:Mk):YaN:=letI c:=ae gI a.1 b.1;letI d:=ae gI a.2.1 b.1;cond (ak .lss b.1 (bw a.1)) (cond (aZ a.1 b.1) (cond (aZ a.2.1 b.1) ((V6 c.1 c.2.1 c.2.2.1 c.2.2.2 d.1 d.2.1 d.2.2.1 d.2.2.2).bind λe=>cond (Bool.not e.1) (some (.inr (.inl (false,())))) (some (.inl (aa .add .i64 b.1 1,())))) none) none) (some (.inr (.inr (.inl ()))))
def TE k x:=iter (TD k) big x
def UX(a b:Ln):Kg:=cond (ak .neq (bw a) (bw b)) (some (false,())) ((TE (a,b,()) (0,())).bind λc=>Sum.elim (λd=>some (d.1,())) (λd=>Sum.elim (λ_=>some (true,())) (λe=>Empty.elim e) d) c)
def Nt(a:Int)(b:Li)(c:Ln)(d:Int)(e:Li)(f:Ln):Kg:=letI g:=some (false,());cond (ak .neq a d) g ((UZ b e).bind λh=>cond (Bool.not h.1) g ((UX c f).bind λi=>cond (Bool.not i.1) g (some (true,()))))
def OP(a:Rp×YbT)(b:Mk):YaN:=letI c:=ae br a.1 b.1;letI d:=ae br a.2.1 b.1;cond (ak .lss b.1 (bw a.1)) (cond (aZ a.1 b.1) (cond (aZ a.2.1 b.1) ((Nt c.1 c.2.1 c.2.2 d.1 d.2.1 d.2.2).bind λe=>cond (Bool.not e.1) (some (.inr (.inl (false,())))) (some (.inl (aa .add .i64 b.1 1,())))) none) none) (some (.inr (.inr (.inl ()))))
def OQ k x:=iter (OP k) big x
def OO(a b:Rp):Kg:=cond (ak .neq (bw a) (bw b)) (some (false,())) ((OQ (a,b,()) (0,())).bind λc=>Sum.elim (λd=>some (d.1,())) (λd=>Sum.elim (λ_=>some (true,())) (λe=>Empty.elim e) d) c)
def UY(a b:Int)(c d e:Bool)(f g:Int)(h i j:Bool):Kg:=letI k:=some (false,());cond (ak .neq a f) k (cond (ak .neq b g) k (cond (Bool.not (pI c h)) k (cond (Bool.not (pI d i)) k (cond (Bool.not (pI e j)) k (some (true,()))))))
def U1(a b:NO)(c:Rp)(d e:Int)(f g h:Bool)(i j:Int)(k:JH)(l m:NO)(n:Rp)(o p:Int)(q r s:Bool)(t u:Int)(v:JH):Kg:=(U3 a b l m).bind λw=>letI x:=some (false,());cond (Bool.not w.1) x ((OO c n).bind λy=>cond (Bool.not y.1) x ((UY d e f g h o p q r s).bind λz=>cond (Bool.not z.1) x (cond (ak .neq i t) x (cond (ak .neq j u) x ((Nu k v).bind λA=>cond (Bool.not A.1) x (some (true,())))))))
def RG(a:Lj×YcU)(b:Mk):YaN:=letI c:=ae ax a.1 b.1;letI d:=ae ax a.2.1 b.1;letI e:=d.2;letI f:=c.2.2;letI g:=f.2.2.2.2;letI h:=e.2.2.2.2.2;cond (ak .lss b.1 (bw a.1)) (cond (aZ a.1 b.1) (cond (aZ a.2.1 b.1) ((U1 c.1 c.2.1 f.1 f.2.1 f.2.2.1 f.2.2.2.1 g.1 g.2.1 g.2.2.1 g.2.2.2.1 g.2.2.2.2 d.1 e.1 e.2.1 e.2.2.1 e.2.2.2.1 e.2.2.2.2.1 h.1 h.2.1 h.2.2.1 h.2.2.2.1 h.2.2.2.2).bind λi=>cond (Bool.not i.1) (some (.inr (.inl (false,())))) (some (.inl (aa .add .i64 b.1 1,())))) none) none) (some (.inr (.inr (.inl ()))))
def RH k x:=iter (RG k) big x
def Sq(a b:Lj):Kg:=cond (ak .neq (bw a) (bw b)) (some (false,())) ((RH (a,b,()) (0,())).bind λc=>Sum.elim (λd=>some (d.1,())) (λd=>Sum.elim (λ_=>some (true,())) (λe=>Empty.elim e) d) c)
def U0(a b c d e f g h i j:Int):Kg:=letI k:=some (false,());cond (ak .neq a f) k (cond (ak .neq b g) k (cond (ak .neq c h) k (cond (ak .neq d i) k (cond (ak .neq e j) k (some (true,()))))))
def QG(a b c d e f g h i j k l m n o p q r s t u v w x y z:Int):Kg:=letI A:=some (false,());cond (ak .neq a n) A (cond (ak .neq b o) A (cond (ak .neq c p) A (cond (ak .neq d q) A (cond (ak .neq e r) A (cond (ak .neq f s) A ((U0 g h i j k t u v w x).bind λB=>cond (Bool.not B.1) A (cond (ak .neq l y) A (cond (ak .neq m z) A (some (true,()))))))))))
def OS(a:KT×YcV)(b:Mk):YaN:=letI c:=ae aS a.1 b.1;letI d:=ae aS a.2.1 b.1;letI e:=d.2.2;letI f:=c.2.2.2;letI g:=e.2.2.2.2.2;letI h:=f.2.2.2.2.2;cond (ak .lss b.1 (bw a.1)) (cond (aZ a.1 b.1) (cond (aZ a.2.1 b.1) ((QG c.1 c.2.1 c.2.2.1 f.1 f.2.1 f.2.2.1 f.2.2.2.1 f.2.2.2.2.1 h.1 h.2.1 h.2.2.1 h.2.2.2.1 h.2.2.2.2 d.1 d.2.1 e.1 e.2.1 e.2.2.1 e.2.2.2.1 e.2.2.2.2.1 g.1 g.2.1 g.2.2.1 g.2.2.2.1 g.2.2.2.2.1 g.2.2.2.2.2).bind λi=>cond (Bool.not i.1) (some (.inr (.inl (false,())))) (some (.inl (aa .add .i64 b.1 1,())))) none) none) (some (.inr (.inr (.inl ()))))
def OT k x:=iter (OS k) big x
def OR(a b:KT):Kg:=cond (ak .neq (bw a) (bw b)) (some (false,())) ((OT (a,b,()) (0,())).bind λc=>Sum.elim (λd=>some (d.1,())) (λd=>Sum.elim (λ_=>some (true,())) (λe=>Empty.elim e) d) c)
def Sp(a b c d e f:Int)(g:Bool)(h i j k l m:Int)(n:Bool):Kg:=letI o:=some (false,());cond (ak .neq a h) o (cond (ak .neq b i) o (cond (ak .neq c j) o (cond (ak .neq d k) o (cond (ak .neq e l) o (cond (ak .neq f m) o (cond (Bool.not (pI g n)) o (some (true,()))))))))
def P9(a:JX×YcR)(b:Mk):YaN:=letI c:=ae kC a.1 b.1;letI d:=ae kC a.2.1 b.1;letI e:=c.2.2.2;letI f:=d.2.2.2;cond (ak .lss b.1 (bw a.1)) (cond (aZ a.1 b.1) (cond (aZ a.2.1 b.1) ((Sp c.1 c.2.1 c.2.2.1 e.1 e.2.1 e.2.2.1 e.2.2.2 d.1 d.2.1 d.2.2.1 f.1 f.2.1 f.2.2.1 f.2.2.2).bind λg=>cond (Bool.not g.1) (some (.inr (.inl (false,())))) (some (.inl (aa .add .i64 b.1 1,())))) none) none) (some (.inr (.inr (.inl ()))))
def Qa k x:=iter (P9 k) big x
def QF(a b:JX):Kg:=cond (ak .neq (bw a) (bw b)) (some (false,())) ((Qa (a,b,()) (0,())).bind λc=>Sum.elim (λd=>some (d.1,())) (λd=>Sum.elim (λ_=>some (true,())) (λe=>Empty.elim e) d) c)
def K8(a b c d e f g h i j k:Int)(l:Lj)(m:KT)(n:JX)(o:JH)(p q r s t u v w x y z:Int)(A:Lj)(B:KT)(C:JX)(D:JH):Kg:=(Sr a b c d e f g h p q r s t u v w).bind λE=>letI F:=some (false,());cond (Bool.not E.1) F (cond (ak .neq i x) F (cond (ak .neq j y) F (cond (ak .neq k z) F ((Sq l A).bind λG=>cond (Bool.not G.1) F ((OR m B).bind λH=>cond (Bool.not H.1) F ((QF n C).bind λI=>cond (Bool.not I.1) F ((Nu o D).bind λJ=>cond (Bool.not J.1) F (some (true,())))))))))
def Mi(a b c d e f g h i j k l m n:Int):Kg:=cond (ak .lss a h) (some (true,())) (cond (ak .eql a h) (some (ak .lss b i,())) (some (false,())))
def I7(a:JH×YbP)(b:JH×NP):Option (JH×NP⊕JH×YaU⊕YbP⊕Empty):=letI c:=([]:JH);letI d:=b.1;letI e:=b.2.1;letI f:=b.2.2.1;letI g:=(c,false,());letI h:=aZ a.1 e;letI i:=ae k5 a.1 e;letI j:=aZ a.2.1 f;letI k:=aa .add .i64 e 1;letI l:=ae k5 a.2.1 f;letI m:=aa .add .i64 f 1;letI n:=ak .eql e (bw a.1);letI o:=ak .lss e (bw a.1);letI p:=i.2.2.2;letI q:=ak .eql f (bw a.2.1);letI r:=l.2.2.2;letI s:=p.2.2;letI t:=r.2.2;letI u:=Mi l.1 l.2.1 l.2.2.1 r.1 r.2.1 t.1 t.2 i.1 i.2.1 i.2.2.1 p.1 p.2.1 s.1 s.2;letI v:=Mi i.1 i.2.1 i.2.2.1 p.1 p.2.1 s.1 s.2 l.1 l.2.1 l.2.2.1 r.1 r.2.1 t.1 t.2;letI w:=Bool.not (Bool.and (ak .eql i.1 l.1) (Bool.and (ak .eql i.2.1 l.2.1) (Bool.and (ak .eql i.2.2.1 l.2.2.1) (Bool.and (ak .eql p.1 r.1) (Bool.and (ak .eql p.2.1 r.2.1) (Bool.and (ak .eql s.1 t.1) (Bool.and (ak .eql s.2 t.2) true)))))));cond o (cond q (cond h (cond (dF (List.append (α:=Ka) d (List.append (α:=Ka) c [i]))) (some (.inl (List.append (α:=Ka) d (List.append (α:=Ka) c [i]),k,f,()))) none) none) (cond o (cond h (cond j (v.bind λx=>cond x.1 (cond h (cond (dF (List.append (α:=Ka) d (List.append (α:=Ka) c [i]))) (some (.inl (List.append (α:=Ka) d (List.append (α:=Ka) c [i]),k,f,()))) none) none) (cond n (cond j (cond (dF (List.append (α:=Ka) d (List.append (α:=Ka) c [l]))) (some (.inl (List.append (α:=Ka) d (List.append (α:=Ka) c [l]),e,m,()))) none) none) (cond j (cond h (u.bind λy=>cond y.1 (cond j (cond (dF (List.append (α:=Ka) d (List.append (α:=Ka) c [l]))) (some (.inl (List.append (α:=Ka) d (List.append (α:=Ka) c [l]),e,m,()))) none) none) (cond h (cond j (lets w λz=>cond z (some (.inr (.inl g))) (cond h (cond (dF (List.append (α:=Ka) d (List.append (α:=Ka) c [i]))) (some (.inl (List.append (α:=Ka) d (List.append (α:=Ka) c [i]),k,m,()))) none) none)) none) none)) none) none))) none) none) (cond n (cond j (cond (dF (List.append (α:=Ka) d (List.append (α:=Ka) c [l]))) (some (.inl (List.append (α:=Ka) d (List.append (α:=Ka) c [l]),e,m,()))) none) none) (cond j (cond h (u.bind λx=>cond x.1 (cond j (cond (dF (List.append (α:=Ka) d (List.append (α:=Ka) c [l]))) (some (.inl (List.append (α:=Ka) d (List.append (α:=Ka) c [l]),e,m,()))) none) none) (cond h (cond j (lets w λy=>cond y (some (.inr (.inl g))) (cond h (cond (dF (List.append (α:=Ka) d (List.append (α:=Ka) c [i]))) (some (.inl (List.append (α:=Ka) d (List.append (α:=Ka) c [i]),k,m,()))) none) none)) none) none)) none) none)))) (cond (ak .lss f (bw a.2.1)) (cond q (cond h (cond (dF (List.append (α:=Ka) d (List.append (α:=Ka) c [i]))) (some (.inl (List.append (α:=Ka) d (List.append (α:=Ka) c [i]),k,f,()))) none) none) (cond o (cond h (cond j (v.bind λx=>cond x.1 (cond h (cond (dF (List.append (α:=Ka) d (List.append (α:=Ka) c [i]))) (some (.inl (List.append (α:=Ka) d (List.append (α:=Ka) c [i]),k,f,()))) none) none) (cond n (cond j (cond (dF (List.append (α:=Ka) d (List.append (α:=Ka) c [l]))) (some (.inl (List.append (α:=Ka) d (List.append (α:=Ka) c [l]),e,m,()))) none) none) (cond j (cond h (u.bind λy=>cond y.1 (cond j (cond (dF (List.append (α:=Ka) d (List.append (α:=Ka) c [l]))) (some (.inl (List.append (α:=Ka) d (List.append (α:=Ka) c [l]),e,m,()))) none) none) (cond h (cond j (lets w λz=>cond z (some (.inr (.inl g))) (cond h (cond (dF (List.append (α:=Ka) d (List.append (α:=Ka) c [i]))) (some (.inl (List.append (α:=Ka) d (List.append (α:=Ka) c [i]),k,m,()))) none) none)) none) none)) none) none))) none) none) (cond n (cond j (cond (dF (List.append (α:=Ka) d (List.append (α:=Ka) c [l]))) (some (.inl (List.append (α:=Ka) d (List.append (α:=Ka) c [l]),e,m,()))) none) none) (cond j (cond h (u.bind λx=>cond x.1 (cond j (cond (dF (List.append (α:=Ka) d (List.append (α:=Ka) c [l]))) (some (.inl (List.append (α:=Ka) d (List.append (α:=Ka) c [l]),e,m,()))) none) none) (cond h (cond j (lets w λy=>cond y (some (.inr (.inl g))) (cond h (cond (dF (List.append (α:=Ka) d (List.append (α:=Ka) c [i]))) (some (.inl (List.append (α:=Ka) d (List.append (α:=Ka) c [i]),k,m,()))) none) none)) none) none)) none) none)))) (some (.inr (.inr (.inl (d,()))))))
def LP k x:=iter (I7 k) big x
def Kz(a b:JH):YcB:=(JD a).bind λc=>letI d:=some (([]:JH),false,());cond (Bool.not c.1) d ((JD b).bind λe=>cond (Bool.not e.1) d ((LP (a,b,()) (([]:JH),0,0,())).bind λf=>Sum.elim (λg=>some (g.1,g.2.1,())) (λg=>Sum.elim (λh=>(JD h.1).bind λi=>cond (Bool.not i.1) d (some (h.1,true,()))) (λh=>Empty.elim h) g) f))
def kS(a:JH):YdT:=cond (ak .gtr (bw a) 0) (cond (dF (List.append (α:=Ka) ([]:JH) a)) (some (List.append (α:=Ka) ([]:JH) a,())) none) (both (some (([]:JH),())) (cond (dF (List.append (α:=Ka) ([]:JH) a)) (some (List.append (α:=Ka) ([]:JH) a,())) none))
def KM(a b c d e f g h i j k l m n:Int):Kg:=cond (ak .eql a h) (some (ak .eql b i,())) (some (false,()))
def me(a:JH×YaX)(b:Mk):YaY:=letI c:=a.2.2.2.2;letI d:=ae k5 a.1 b.1;letI e:=d.2.2.2;cond (ak .lss b.1 c.2.2.2.2.1) (cond (aZ a.1 b.1) ((KM d.1 d.2.1 d.2.2.1 e.1 e.2.1 e.2.2.1 e.2.2.2 a.2.1 a.2.2.1 a.2.2.2.1 c.1 c.2.1 c.2.2.1 c.2.2.2.1).bind λf=>cond f.1 (some (.inr (.inl (b.1,())))) (some (.inl (aa .add .i64 b.1 1,())))) none) (some (.inr (.inr (.inl ()))))
def tf k x:=iter (me k) big x
def nh(a:JH)(b c d e f g h:Int):PN:=(tf (a,b,c,d,e,f,g,h,bw a,()) (0,())).bind λi=>Sum.elim (λj=>some (j.1,())) (λj=>Sum.elim (λ_=>some (-1,())) (λk=>Empty.elim k) j) i
def Oj(a:Int):Kg:=some (ak .neq a a,())
def K5(a b:Int):PN:=(Oj a).bind λc=>(Oj b).bind λd=>letI e:=some ((0:Int),());letI f:=some ((1:Int),());letI g:=some ((-1:Int),());cond c.1 (cond d.1 e g) (cond d.1 f (cond (ak .lss a b) g (cond (ak .gtr a b) f e)))
def K6(a:Int×YcJ)(b:Mk):YaY:=letI c:=ae zI a.2.1 b.1;cond (ak .lss b.1 a.2.2.1) (cond (aZ a.2.1 b.1) (cond (ak .neq c a.1) (some (.inr (.inl (c,())))) (some (.inl (aa .add .i64 b.1 1,())))) none) (some (.inr (.inr (.inl ()))))
def Tl k x:=iter (K6 k) big x
def UI(a:Li):PN:=(Tl ((0:Int),a,bw a,()) ((0:Int),())).bind λb=>Sum.elim (λc=>some (c.1,())) (λc=>Sum.elim (λ_=>some (0,())) (λd=>Empty.elim d) c) b
def Jq(a b c d e f g h i j k l m n:Int):PN:=(K5 a h).bind λo=>(K5 b i).bind λp=>(UI (List.append (α:=Int) (List.append (α:=Int) ([]:Li) [o.1]) [p.1])).bind λq=>some (q.1,())
def ve(x y:Int×Int×Int×Int×Int×Int×Int):Int:=match Jq x.1 x.2.1 x.2.2.1 x.2.2.2.1 x.2.2.2.2.1 x.2.2.2.2.2.1 x.2.2.2.2.2.2 y.1 y.2.1 y.2.2.1 y.2.2.2.1 y.2.2.2.2.1 y.2.2.2.2.2.1 y.2.2.2.2.2.2 with|some r=>r.1|none=>0
def vw(a:JH):YdT:=cond (dF a) (some (Va ve a,())) none
def KB(a:JH×YbV)(b:YbV):YcC:=letI c:=ae k5 a.2.1 b.2.1;letI d:=c.2.2.2;cond (ak .lss b.2.1 a.2.2.1) (cond (aZ a.2.1 b.2.1) ((nh a.1 c.1 c.2.1 c.2.2.1 d.1 d.2.1 d.2.2.1 d.2.2.2).bind λe=>letI f:=ae k5 a.1 e.1;letI g:=aa .add .i64 b.2.1 1;letI h:=f.2.2.2;cond (ak .lss e.1 0) (cond (dF (List.append (α:=Ka) b.1 (List.append (α:=Ka) ([]:JH) [c]))) (some (.inl (List.append (α:=Ka) b.1 (List.append (α:=Ka) ([]:JH) [c]),g,()))) none) (cond (aZ a.1 e.1) (lets (Bool.not (Bool.and (ak .eql f.1 c.1) (Bool.and (ak .eql f.2.1 c.2.1) (Bool.and (ak .eql f.2.2.1 c.2.2.1) (Bool.and (ak .eql h.1 d.1) (Bool.and (ak .eql h.2.1 d.2.1) (Bool.and (ak .eql h.2.2.1 d.2.2.1) (Bool.and (ak .eql h.2.2.2 d.2.2.2) true)))))))) λi=>cond i (some (.inr (.inl (([]:JH),false,())))) (some (.inl (b.1,g,())))) none)) none) (some (.inr (.inr (.inl (b.1,())))))
def LN k x:=iter (KB k) big x
def Kv(a b:JH):YcB:=(JB a).bind λc=>letI d:=some (([]:JH),false,());cond (Bool.not c.1) d ((JB b).bind λe=>cond (Bool.not e.1) d ((kS a).bind λf=>(LN (a,b,bw b,()) (f.1,0,())).bind λg=>Sum.elim (λh=>some (h.1,h.2.1,())) (λh=>Sum.elim (λi=>(vw i.1).bind λj=>(JB j.1).bind λk=>cond (Bool.not k.1) d (some (j.1,true,()))) (λi=>Empty.elim i) h) g))
def MM(a:YbV)(b:YeA):YcZ:=letI c:=b.2;letI d:=c.2.2.2;letI e:=c.2.2.1;letI f:=d.2.2;letI g:=d.2.1;letI h:=f.2.1;letI i:=f.2.2.2.1;letI j:=aZ a.1 i;letI k:=ae k5 a.1 i;letI l:=aa .add .i64 i 1;letI m:=ak .leq k.1 a.2.1;letI n:=aa .add .i64 k.2.1 1;letI o:=aa .add .i64 k.2.2.1 1;cond (ak .lss i (bw a.1)) (cond j (cond (ak .eql k.1 a.2.1) (cond j (cond j (cond m (cond j (some (.inl (b.1,c.1,n,nS true e o,d.1,g,f.1,h,l,l,()))) none) (cond j (some (.inl (b.1,c.1,n,nS true e o,d.1,g,f.1,h,f.2.2.1,l,()))) none)) none) none) (cond j (cond m (cond j (some (.inl (b.1,c.1,c.2.1,nS true e o,d.1,g,f.1,h,l,l,()))) none) (cond j (some (.inl (b.1,c.1,c.2.1,nS true e o,d.1,g,f.1,h,f.2.2.1,l,()))) none)) none)) none) (some (.inr (.inl (b.1,c.1,c.2.1,e,d.1,g,f.1,h,f.2.2.1,()))))
def Qf k x:=iter (MM k) big x
def QO(a:JH)(b c d e f:Int):YcB:=letI g:=([]:JH);cond (dF (List.append (α:=Ka) g a)) ((JD a).bind λh=>cond (Bool.not h.1) (some (List.append (α:=Ka) g a,false,())) ((Qf (a,b,()) (List.append (α:=Ka) g a,b,1,1,c,d,e,f,0,0,())).bind λi=>Sum.elim (λj=>letI k:=j.2.2.2.2;letI l:=k.2.2.2.2.1;letI m:=yD a 0 l;letI n:=yD a l (bw a);letI o:=(j.2.1,j.2.2.1,j.2.2.2.1,k.1,k.2.1,k.2.2.1,k.2.2.2.1);cond (mT a (0:Int) l) (cond (dF (List.append (α:=Ka) g m)) (cond (dF (List.append (α:=Ka) (List.append (α:=Ka) g m) (List.append (α:=Ka) g [o]))) (cond (mT a l (bw a)) (cond (dF (List.append (α:=Ka) (List.append (α:=Ka) (List.append (α:=Ka) g m) (List.append (α:=Ka) g [o])) n)) ((JD (List.append (α:=Ka) (List.append (α:=Ka) (List.append (α:=Ka) g m) (List.append (α:=Ka) g [o])) n)).bind λp=>cond (Bool.not p.1) (some (j.1,false,())) (some (List.append (α:=Ka) (List.append (α:=Ka) (List.append (α:=Ka) g m) (List.append (α:=Ka) g [o])) n,true,()))) none) none) none) none) none) (λj=>Empty.elim j) i)) none
abbrev Ev:=Int×Int×Int×Int×Int×Int×Int
def Jh(a lo hi:Int):Bool:=bif decide (a>=lo)then decide (a<=hi)else false
def bS(a lo hi:Int):eb a lo hi=some (Jh a lo hi,()):=by unfold eb Jh;simp only[ak];cases decide (a>=lo) <;> rfl
def rp(a lo hi:Int):dr a lo hi=some (Jh a lo hi,()):=bS a lo hi
def Lg(a:Int):Je a=some (Jh a 0 20000,()):=by unfold Je;rw[bS];rfl
def Ue(e:Ev):Bool:=bif Jh e.1 0 5 then bif Jh e.2.1 1 999 then bif Jh e.2.2.1 1 100000 then bif Jh e.2.2.2.1 1 4 then bif Jh e.2.2.2.2.1 1 999 then bif Jh e.2.2.2.2.2.1 0 20000 then Jh e.2.2.2.2.2.2 0 20000 else false else false else false else false else false else false
def JV{α:Type}(b:Bool)(x y:α):(bif b then some x else some y)=some (bif b then x else y):=by cases b <;> rfl
def Rb(b x y:Bool):(bif b then(x,())else(y,()))=((bif b then x else y),()):=by cases b <;> rfl
def agF(a b c d e f g:Int):Sy a b c d e f g=some (Ue (a,b,c,d,e,f,g),()):=by unfold Sy Ue;simp only[rp,aX,JV,Rb]
def agl(a b c d e f g:Int):R8 a b c d e f g=some (Ue (a,b,c,d,e,f,g),()):=by unfold R8 Ue;simp only[bS,Lg,aX,JV,Rb]
def acm(p e:Ev):Bool:=!(decide (e.1<p.1)||(decide (e.1=p.1)&&(decide (e.2.1<=p.2.1)||decide (e.2.2.1<=p.2.2.1))))
def R2(l:List Ev):Nat->Bool
 |0=>Ue (l.getD 0 k5)
 |n+1=>Ue (l.getD (n+1) k5)&&acm (l.getD n k5) (l.getD (n+1) k5)
def SR(l:List Ev):Bool:=bif decide (60<l.length)then false else bO (R2 l) 0 l.length
def ajs(l:List Ev):ak .gtr (bw l) (60:Int)=decide (60<l.length):=by simp only[ak,bw,gt_iff_lt,Oi];omega
def Xi(l:List Ev):JB l=some (SR l,()):=by
 unfold JB SR;rw[ajs];cases c:decide (60<l.length)with
 |true=>rfl
 |false=>
  have c:l.length<=60:=by have:=Jx c;omega
  have a:Oy (l,l,(bw l),()) ((0:Int),())=some (bif bO (R2 l) 0 l.length then(Sum.inr (Sum.inl ()):Bool×Unit⊕(Unit⊕Empty))else Sum.inl (false,())):=by
   refine wN (λn=>((n:Int),())) l.length (by omega) (R2 l) _ _ (λn g=>?_) ?_
   .unfold Ox;simp only[bP,dX,cw,agl,g,bu,az,aX];cases n with
    |zero=>simp only[R2];cases Ue (l.getD 0 k5) <;> rfl
    |succ n=>
     have b:n<l.length:=by omega
     simp only[R2,eW (n:=n+1) (by omega),Fj (n:=n) (by omega),Di b,cw,acm,ak];have d:((((n+1:Nat):Int))==0)=false:=by rw[beq_eq_false_iff_ne];omega
     rw[d];simp only[aW,az];generalize l.getD (n+1) k5=e;generalize l.getD n k5=p;show(bif !(Ue e)then _ else _)=_;cases Ue e with
     |false=>rfl
     |true=>
      simp only[fu,aW,ow];cases decide (e.1<p.1)with
      |true=>rfl
      |false=>
       simp only[aW,xC];have f:(e.1==p.1)=decide (e.1=p.1):=rfl;rw[f];cases decide (e.1=p.1)with
       |false=>rfl
       |true=>
        simp only[az,ow];cases decide (e.2.1<=p.2.1)with
        |true=>rfl
        |false=>cases decide (e.2.2.1<=p.2.2.1) <;> rfl
   .unfold Ox;simp only[bP,eL,ct,aW]
  rw[a];cases bO (R2 l) 0 l.length <;> rfl
def gt0(n:Nat):ak .gtr ((n+1:Nat):Int) 0=true:=by simp only[ak,gt_iff_lt,sR];omega
def XG(l:List Ev):JD l=some (SR l,()):=by
 unfold JD SR;rw[ajs];cases c:decide (60<l.length)with
 |true=>rfl
 |false=>
  have c:l.length<=60:=by have:=Jx c;omega
  have a:Pt (l,()) ((0:Int),())=some (bif bO (R2 l) 0 l.length then(Sum.inr (Sum.inl ()):Bool×Unit⊕(Unit⊕Empty))else Sum.inl (false,())):=by
   refine wN (λn=>((n:Int),())) l.length (by omega) (R2 l) _ _ (λn f=>?_) ?_
   .unfold Ps;simp only[bP,dX,cw,agF,f,bu,az,aX];cases n with
    |zero=>simp only[R2];cases Ue (l.getD 0 k5) <;> rfl
    |succ n=>
     have b:n<l.length:=by omega
     simp only[R2,gt0,eW (n:=n+1) (by omega),Fj (n:=n) (by omega),Di b,cw,acm,az];simp only[ak];generalize l.getD (n+1) k5=e;generalize l.getD n k5=p;show(bif !(Ue e)then _ else _)=_;cases Ue e with
     |false=>rfl
     |true=>
      simp only[fu,aW,ow];cases decide (e.1<p.1)with
      |true=>rfl
      |false=>
       simp only[aW,xC];have d:(e.1==p.1)=decide (e.1=p.1):=rfl;rw[d];cases decide (e.1=p.1)with
       |false=>rfl
       |true=>
        simp only[az,ow];cases decide (e.2.1<=p.2.1)with
        |true=>rfl
        |false=>cases decide (e.2.2.1<=p.2.2.1) <;> rfl
   .unfold Ps;simp only[bP,eL,ct,aW]
  rw[a];cases bO (R2 l) 0 l.length <;> rfl
def ai9(a b c d e f g:Int):V7 a b c d e f g=some (a,b,c,d,e,f,g,()):=rfl
def aeu(l:List Ev)(c:l.length<=1073741824):Nx l=some (l,()):=by
 unfold Nx;rw[C3 c];have a:MH (l,()) (List.replicate l.length (0,0,0,0,0,0,0),(0:Int),())=some (Sum.inl (l,())):=by
  have:=lc (body:=MG (l,())) (λn=>(l.take n++List.replicate (l.length-n) (0,0,0,0,0,0,0),(n:Int),())) l.length (by omega) (Sum.inl (l,())) (λn b=>?_) ?_
  .unfold MH;simpa using this
  .unfold MG;have e:n<(l.take n++List.replicate (l.length-n) ((0,0,0,0,0,0,0):Ev)).length:=by rw[DF _ _ (fc b)];exact b
   simp only[bP,dX,b,e,bu,az,cw,ai9,aX,eW (n:=n) (by omega),jt];rw[<-DP l (0,0,0,0,0,0,0) b,EE b k5 (0,0,0,0,0,0,0)]
  .unfold MG;simp only[bP,eL,ct,aW,pg,ZL,fa,Kj]
 have d:nw (bw l) ((0:Int),(0:Int),(0:Int),(0:Int),(0:Int),(0:Int),(0:Int))=List.replicate l.length (0,0,0,0,0,0,0):=EH _ _;rw[d];simp only[az];rw[a];rfl
def I9(a:Int):ak .neq a a=false:=by simp[ak]
def agf(a b c d e f g:Int):Sn a b c d e f g a b c d e f g=some (true,()):=by unfold Sn;simp only[I9,aW]
def aba(l:List Ev)(c:l.length<=1073741824):Nu l l=some (true,()):=by
 unfold Nu;rw[I9];have a:P8 (l,l,()) ((0:Int),())=some (Sum.inr (Sum.inl ())):=by
  refine lc (λn=>((n:Int),())) l.length (by omega) _ (λn b=>?_) ?_
  .unfold P7;simp only[bP,dX,b,bu,az,agf,aX,eW (n:=n) (by omega)];rfl
  .unfold P7;simp only[bP,eL,ct,aW]
 simp only[aW];rw[a];rfl
def abG(l:List Ev)(a:Int)(f:l.length<=9223372036854775807)(e:0<=a)(d:a<=1048576):Nv l a=some (bif decide (a<(l.length:Int))then -1 else a-(l.length:Int),()):=by
 unfold Nv;have b:aa .sub .i64 a (bw l)=a-(l.length:Int):=vm (by unfold bw;omega) (by unfold bw;omega);rw[b];have c:ak .lss (a-(l.length:Int)) 0=decide (a<(l.length:Int)):=by simp only[ak,Oi];omega
 rw[c];cases decide (a<(l.length:Int)) <;> rfl
def agL(l:List Int)(c:l.length<=1073741824):U8 l=some (l,()):=by
 unfold U8;rw[C3 c];have a:Pe (l,()) (List.replicate l.length 0,(0:Int),())=some (Sum.inl (l,())):=by
  have:=lc (body:=Pd (l,())) (λn=>(l.take n++List.replicate (l.length-n) 0,(n:Int),())) l.length (by omega) (Sum.inl (l,())) (λn b=>?_) ?_
  .unfold Pe;simpa using this
  .unfold Pd;have e:n<(l.take n++List.replicate (l.length-n) (0:Int)).length:=by rw[DF _ _ (fc b)];exact b
   simp only[bP,dX,b,e,bu,az,cw,eW (n:=n) (by omega),jt];rw[<-DP l 0 b,EE b zI 0]
  .unfold Pd;simp only[bP,eL,ct,aW,pg,ZL,fa,Kj]
 have d:nw (bw l) (0:Int)=List.replicate l.length 0:=EH _ _;rw[d];simp only[az];rw[a];rfl
def adL(l:List Int)(c:l.length<=1073741824):UZ l l=some (true,()):=by
 unfold UZ;rw[I9];have a:TG (l,l,()) ((0:Int),())=some (Sum.inr (Sum.inl ())):=by
  refine lc (λn=>((n:Int),())) l.length (by omega) _ (λn b=>?_) ?_
  .unfold TF;simp only[bP,dX,b,bu,az,I9,eW (n:=n) (by omega)];rfl
  .unfold TF;simp only[bP,eL,ct,aW]
 simp only[aW];rw[a];rfl
def Rq{a:Int}(b:0<=a)(c:a<=4611686018427387904):aa .add .i64 a 1=a+1:=sO (by omega) (by omega)
def PO{α:Type}(l:List α)(f:Nat->α)(n:Nat):List α:=(List.range n).map f++l.drop n
def XN{α:Type}(l:List α)(f:Nat->α){n:Nat}(h:n<=l.length):(PO l f n).length=l.length:=by simp only[PO,cR,mZ,ajJ,kg];omega
def ab7{α:Type}(l:List α)(f:Nat->α){n:Nat}(h:n<l.length):(PO l f n).set n (f n)=PO l f (n+1):=by
 unfold PO;have a:((List.range n).map f).length=n:=by simp
 rw[List.set_append,bc (by omega),a,pg,acF,Tj,iD];congr 1;rw[xD h];rfl
def ab6{α:Type}(f:Nat->α)(k:Nat){n:Nat}(h:n<k)(z:α):((List.range k).map f).getD n z=f n:=by rw[dG,p6,xM h];rfl
def RM(k:Int)(n:Nat):List Int:=(List.range n).map λi:Nat=>k+(i:Int)
def ad5(l:List Int)(k:Int)(g:l.length<=1073741824)(e:0<=k)(f:k<=1125899906842624):QK l k=some (k+(l.length:Int),RM k l.length,()):=by
 unfold QK;have a:ME () (l,k,(0:Int),())=some (Sum.inl (RM k l.length,k+(l.length:Int),())):=by
  have:=lc (body:=MD ()) (λn=>(PO l (λi=>k+(i:Int)) n,k+(n:Int),(n:Int),())) l.length (by omega) (Sum.inl (RM k l.length,k+(l.length:Int),())) (λn b=>?_) ?_
  .unfold ME;have d:PO l (λi=>k+(i:Int)) 0=l:=by simp[PO]
   simp only[d]at this;simpa using this
  .unfold MD;have c:n<(PO l (λi=>k+(i:Int)) n).length:=by rw[XN _ _ (fc b)];exact b
   simp only[bP,dX,c,bu,az,eW (n:=n) (by omega),jt];rw[Rq (by omega) (by omega),<-ab7 _ _ b];have:k+(n:Int)+1=k+((n+1:Nat):Int):=by omega
   rw[this]
  .unfold MD;have c:(PO l (λi=>k+(i:Int)) l.length).length=l.length:=XN _ _ (aJ _);simp only[bP,c,eL,ct,aW];simp[PO,RM]
 rw[a];rfl
def adW(n:Nat)(k:Int)(g:n<=1073741824)(e:0<=k)(f:k<=1125899906842624):QI (RM k n) k=some (k+(n:Int),()):=by
 unfold QI;have a:(RM k n).length=n:=by simp[RM]
 have b:Mz (RM k n,()) (k,(0:Int),())=some (Sum.inr (Sum.inl (k+(n:Int),()))):=by
  have:=lc (body:=My (RM k n,())) (λm=>(k+(m:Int),(m:Int),())) n (by omega) (Sum.inr (Sum.inl (k+(n:Int),()))) (λm c=>?_) ?_
  .unfold Mz;simpa using this
  .unfold My;have d:(RM k n).getD m zI=k+(m:Int):=ab6 _ _ c _;simp only[bP,a,dX,c,bu,az,cw,d,I9,aW,eW (n:=m) (by omega)];rw[Rq (by omega) (by omega)];have:k+(m:Int)+1=k+((m+1:Nat):Int):=by omega
   rw[this]
  .unfold My;simp only[bP,a,eL,ct,aW]
 rw[b];rfl
def Yu(k:Int)(i:Nat):Ev:=(k+7*(i:Int),k+7*(i:Int)+1,k+7*(i:Int)+1+1,k+7*(i:Int)+1+1+1,k+7*(i:Int)+1+1+1+1,k+7*(i:Int)+1+1+1+1+1,k+7*(i:Int)+1+1+1+1+1+1)
def Pj(k:Int)(n:Nat):List Ev:=(List.range n).map (Yu k)
def Yv(l:List Ev)(k:Int)(v:l.length<=1073741824)(s:0<=k)(t:k<=1099511627776):LB l k=some (k+7*(l.length:Int),Pj k l.length,()):=by
 unfold LB;have a:Lt () (l,k,(0:Int),())=some (Sum.inl (Pj k l.length,k+7*(l.length:Int),())):=by
  have:=lc (body:=Ls ()) (λn=>(PO l (Yu k) n,k+7*(n:Int),(n:Int),())) l.length (by omega) (Sum.inl (Pj k l.length,k+7*(l.length:Int),())) (λn c=>?_) ?_
  .unfold Lt;have p:PO l (Yu k) 0=l:=by simp[PO]
   simp only[p]at this;simpa using this
  .have b:n<(PO l (Yu k) n).length:=by rw[XN _ _ (fc c)];exact c
   rw[<-ab7 l (Yu k) c];generalize u:PO l (Yu k) n=L at b;have r:k+7*((n+1:Nat):Int)=k+7*(n:Int)+1+1+1+1+1+1+1:=by omega
   rw[r];unfold Yu;have e:0<=k+7*(n:Int):=by omega
   have f:k+7*(n:Int)<=1125899906842624:=by omega
   revert e f;generalize k+7*(n:Int)=q;intro e f;have g:aa .add .i64 q 1=q+1:=Rq (by omega) (by omega);have h:aa .add .i64 (q+1) 1=q+1+1:=Rq (by omega) (by omega);have i:aa .add .i64 (q+1+1) 1=q+1+1+1:=Rq (by omega) (by omega);have j:aa .add .i64 (q+1+1+1) 1=q+1+1+1+1:=Rq (by omega) (by omega);have m:aa .add .i64 (q+1+1+1+1) 1=q+1+1+1+1+1:=Rq (by omega) (by omega);have o:aa .add .i64 (q+1+1+1+1+1) 1=q+1+1+1+1+1+1:=Rq (by omega) (by omega);have d:aa .add .i64 (q+1+1+1+1+1+1) 1=q+1+1+1+1+1+1+1:=Rq (by omega) (by omega);unfold Ls;simp only[bP,dX,b,bu,az,eW (n:=n) (by omega),jt,cw,g,h,i,j,m,o,d];iterate 8 (rw[jE];try simp only[uI,jw,b,bu,az,jt,cw,cP b,qe,d])
  .unfold Ls;have b:(PO l (Yu k) l.length).length=l.length:=XN _ _ (aJ _);simp only[bP,b,eL,ct,aW];simp[PO,Pj]
 rw[a];rfl
def Yn(n:Nat)(k:Int)(u:n<=1073741824)(s:0<=k)(t:k<=1099511627776):LA (Pj k n) k=some (k+7*(n:Int),()):=by
 unfold LA;have a:(Pj k n).length=n:=by simp[Pj]
 have b:Lr (Pj k n,()) (k,(0:Int),())=some (Sum.inr (Sum.inl (k+7*(n:Int),()))):=by
  have:=lc (body:=Lq (Pj k n,())) (λm=>(k+7*(m:Int),(m:Int),())) n (by omega) (Sum.inr (Sum.inl (k+7*(n:Int),()))) (λm f=>?_) ?_
  .unfold Lr;simpa using this
  .have c:(Pj k n).getD m k5=Yu k m:=ab6 _ _ f _;have r:k+7*((m+1:Nat):Int)=k+7*(m:Int)+1+1+1+1+1+1+1:=by omega
   rw[r];unfold Yu at c;have d:0<=k+7*(m:Int):=by omega
   have e:k+7*(m:Int)<=1125899906842624:=by omega
   revert d e c;generalize k+7*(m:Int)=q;intro c d e;have g:aa .add .i64 q 1=q+1:=Rq (by omega) (by omega);have h:aa .add .i64 (q+1) 1=q+1+1:=Rq (by omega) (by omega);have i:aa .add .i64 (q+1+1) 1=q+1+1+1:=Rq (by omega) (by omega);have j:aa .add .i64 (q+1+1+1) 1=q+1+1+1+1:=Rq (by omega) (by omega);have l:aa .add .i64 (q+1+1+1+1) 1=q+1+1+1+1+1:=Rq (by omega) (by omega);have o:aa .add .i64 (q+1+1+1+1+1) 1=q+1+1+1+1+1+1:=Rq (by omega) (by omega);have p:aa .add .i64 (q+1+1+1+1+1+1) 1=q+1+1+1+1+1+1+1:=Rq (by omega) (by omega);unfold Lq;simp only[bP,a,dX,f,bu,az,cw,c,I9,aW,eW (n:=m) (by omega),g,h,i,j,l,o,p,jE]
  .unfold Lq;simp only[bP,a,eL,ct,aW]
 rw[b];rfl
def Lp{l:List Ev}(h:SR l=true):l.length<=60:=by
 unfold SR at h;cases hd:decide (60<l.length)with
 |true=>rw[hd]at h;cases h
 |false=>have:=Jx hd;omega
def ae4{l:List Ev}(h:SR l=true){n:Nat}(b:n<l.length):R2 l n=true:=by have a:=Lp h;unfold SR at h;rw[Gi (by omega)]at h;exact(iW _ _).1 h n (kU _) (by omega)
def ae5{l:List Ev}(h:SR l=true){n:Nat}(a:n<l.length):Ue (l.getD n k5)=true:=by
 have:=ae4 h a;cases n with
 |zero=>exact this
 |succ n=>simp only[R2,aQ]at this;exact this.1
def kW{a lo hi:Int}:Jh a lo hi=true↔lo<=a/\a<=hi:=by
 unfold Jh;by_cases h:lo<=a
 .rw[iO (show a>=lo from h)];simp[h]
 .rw[Gi (show ¬a>=lo from h)];simp[h]
def acL{a b:Bool}:(bif a then b else false)=true↔a=true/\b=true:=by cases a <;> simp
def VM{e:Ev}:Ue e=true↔(0<=e.1/\e.1<=5)/\(1<=e.2.1/\e.2.1<=999)/\(1<=e.2.2.1/\e.2.2.1<=100000)/\(1<=e.2.2.2.1/\e.2.2.2.1<=4)/\(1<=e.2.2.2.2.1/\e.2.2.2.2.1<=999)/\(0<=e.2.2.2.2.2.1/\e.2.2.2.2.2.1<=20000)/\(0<=e.2.2.2.2.2.2/\e.2.2.2.2.2.2<=20000):=by unfold Ue;simp only[acL,kW]
def XP{α:Type}{l:List α}{i:Int}(a:0<=i)(b:i<(l.length:Int)):aZ l i=true:=by unfold aZ;rw[aQ];exact⟨iO a,iO b⟩
def Jp{a:Int}(h:0<=a):ak .lss a 0=false:=by simp only[ak,Xb];omega
def rm{α:Type}{l:List α}(h:l.length<=1073741824):dF l=true:=by unfold dF limit;exact iO (by omega)
def agO(a b:Int):Xq a b=some (a,b,()):=rfl
def abJ(l:List (Int×Int))(c:l.length<=1073741824):Ph l=some (l,()):=by
 unfold Ph;rw[C3 c];have a:NG (l,()) (List.replicate l.length (0,0),(0:Int),())=some (Sum.inl (l,())):=by
  have:=lc (body:=NF (l,())) (λn=>(l.take n++List.replicate (l.length-n) (0,0),(n:Int),())) l.length (by omega) (Sum.inl (l,())) (λn b=>?_) ?_
  .unfold NG;simpa using this
  .unfold NF;have e:n<(l.take n++List.replicate (l.length-n) ((0,0):Int×Int)).length:=by rw[DF _ _ (fc b)];exact b
   simp only[bP,dX,b,e,bu,az,cw,agO,aX,eW (n:=n) (by omega),jt];rw[<-DP l (0,0) b,EE b SN (0,0)]
  .unfold NF;simp only[bP,eL,ct,aW,pg,ZL,fa,Kj]
 have d:nw (bw l) (((0:Int),(0:Int)))=List.replicate l.length (0,0):=EH _ _;rw[d];simp only[az];rw[a];rfl
def adO(a b:Int):U2 a b a b=some (true,()):=by unfold U2;simp only[I9,aW]
def Y7(l:List (Int×Int))(c:l.length<=1073741824):OU l l=some (true,()):=by
 unfold OU;rw[I9];have a:RJ (l,l,()) ((0:Int),())=some (Sum.inr (Sum.inl ())):=by
  refine lc (λn=>((n:Int),())) l.length (by omega) _ (λn b=>?_) ?_
  .unfold RI;simp only[bP,dX,b,bu,az,adO,aX,eW (n:=n) (by omega)];rfl
  .unfold RI;simp only[bP,eL,ct,aW]
 simp only[aW];rw[a];rfl
def abH(l:List (Int×Int))(a:Int)(f:l.length<=9223372036854775807)(e:0<=a)(d:a<=1048576):O7 l a=some (bif decide (a<(l.length:Int))then -1 else a-(l.length:Int),()):=by
 unfold O7;have b:aa .sub .i64 a (bw l)=a-(l.length:Int):=vm (by unfold bw;omega) (by unfold bw;omega);rw[b];have c:ak .lss (a-(l.length:Int)) 0=decide (a<(l.length:Int)):=by simp only[ak,Oi];omega
 rw[c];cases decide (a<(l.length:Int)) <;> rfl
abbrev M8:=Int×Int
def Wa(l:List M8)(a:Int)(n:Nat):Bool:=
 bif ak .lss (l.getD n SN).1 0 then false else bif ak .geq (l.getD n SN).1 (l.getD n SN).2 then false else bif ak .gtr (l.getD n SN).2 a then false else
  match n with
  |0=>true
  |m+1=>bif ak .leq (l.getD (m+1) SN).1 (l.getD m SN).2 then false else true
def Sv(l:List M8)(a:Int):Bool:=bif decide (20<l.length)then false else bO (Wa l a) 0 l.length
def ajr{α:Type}(l:List α):ak .gtr (bw l) (20:Int)=decide (20<l.length):=by simp only[ak,bw,gt_iff_lt,Oi];omega
def an9:ak .gtr ((0:Nat):Int) 0=false:=rfl
def adn(l:List M8)(a:Int):PA l a=some (Sv l a,()):=by
 unfold PA Sv;rw[ajr];cases d:decide (20<l.length)with
 |true=>rfl
 |false=>
  have d:l.length<=20:=by have:=Jx d;omega
  have b:RP (l,a,()) ((0:Int),())=some (bif bO (Wa l a) 0 l.length then(Sum.inr (Sum.inl ()):Bool×Unit⊕(Unit⊕Empty))else Sum.inl (false,())):=by
   refine wN (λn=>((n:Int),())) l.length (by omega) (Wa l a) _ _ (λn e=>?_) ?_
   .unfold RO Wa;simp only[bP,dX,cw,e,bu,az];cases n with
    |zero=>simp only[an9,aW];cases ak .lss (l.getD 0 SN).1 0 <;> cases ak .geq (l.getD 0 SN).1 (l.getD 0 SN).2 <;> cases ak .gtr (l.getD 0 SN).2 a <;> rfl
    |succ n=>
     have c:n<l.length:=by omega
     simp only[gt0,eW (n:=n+1) (by omega),Fj (n:=n) (by omega),Di c,cw,az];cases ak .lss (l.getD (n+1) SN).1 0 <;> cases ak .geq (l.getD (n+1) SN).1 (l.getD (n+1) SN).2 <;> cases ak .gtr (l.getD (n+1) SN).2 a <;> cases ak .leq (l.getD (n+1) SN).1 (l.getD n SN).2 <;> rfl
   .unfold RO;simp only[bP,eL,ct,aW]
  rw[b];cases bO (Wa l a) 0 l.length <;> rfl
def acZ(l:List M8)(a:Int):OG l a=some (Sv l a,()):=by
 unfold OG Sv;rw[ajr];cases d:decide (20<l.length)with
 |true=>rfl
 |false=>
  have d:l.length<=20:=by have:=Jx d;omega
  have b:Rw (l,a,l,bw l,()) ((0:Int),())=some (bif bO (Wa l a) 0 l.length then(Sum.inr (Sum.inl ()):Bool×Unit⊕(Unit⊕Empty))else Sum.inl (false,())):=by
   refine wN (λn=>((n:Int),())) l.length (by omega) (Wa l a) _ _ (λn e=>?_) ?_
   .unfold Rv Wa;simp only[bP,dX,cw,e,bu,az];cases n with
    |zero=>simp only[an9,aW];cases ak .lss (l.getD 0 SN).1 0 <;> cases ak .geq (l.getD 0 SN).1 (l.getD 0 SN).2 <;> cases ak .gtr (l.getD 0 SN).2 a <;> rfl
    |succ n=>
     have c:n<l.length:=by omega
     simp only[gt0,eW (n:=n+1) (by omega),Fj (n:=n) (by omega),Di c,cw,az];cases ak .lss (l.getD (n+1) SN).1 0 <;> cases ak .geq (l.getD (n+1) SN).1 (l.getD (n+1) SN).2 <;> cases ak .gtr (l.getD (n+1) SN).2 a <;> cases ak .leq (l.getD (n+1) SN).1 (l.getD n SN).2 <;> rfl
   .unfold Rv;simp only[bP,eL,ct,aW]
  rw[b];cases bO (Wa l a) 0 l.length <;> rfl
def KF(o c:List M8):Bool:=bif Sv o 168 then Sv c 20000 else false
def Me(o c:List M8):KR o c=some (KF o c,()):=by unfold KR KF;simp only[adn,aX,JV,Rb]
def Lm(o c:List M8):Kn o c=some (KF o c,()):=by unfold Kn KF;simp only[acZ,aX,JV,Rb]
def aay{l:List M8}{a:Int}(h:Sv l a=true):l.length<=20:=by
 unfold Sv at h;cases hd:decide (20<l.length)with
 |true=>rw[hd]at h;cases h
 |false=>have:=Jx hd;omega
def Ub{o c:List M8}(h:KF o c=true):o.length<=20/\c.length<=20:=by
 unfold KF at h;cases a:Sv o 168 with
 |true=>rw[a]at h;exact⟨aay a,aay h⟩
 |false=>rw[a]at h;cases h
def Zz(l:List M8)(x:Int)(n:Nat):Bool:=bif ak .leq (l.getD n SN).1 x then !ak .lss x (l.getD n SN).2 else true
def agn(l:List M8)(x:Int):Bool:=!bO (Zz l x) 0 l.length
def aiF(a b:Int):ak .geq a b=ak .leq b a:=rfl
def acs(l:List M8)(x:Int)(c:l.length<=1073741824):Mh l x=some (agn l x,()):=by
 unfold Mh agn;have a:PC (l,x,()) ((0:Int),())=some (bif bO (Zz l x) 0 l.length then(Sum.inr (Sum.inl ()):Bool×Unit⊕(Unit⊕Empty))else Sum.inl (true,())):=by
  refine wN (λn=>((n:Int),())) l.length (by omega) (Zz l x) _ _ (λn b=>?_) ?_
  .unfold PB Zz;simp only[bP,dX,cw,b,bu,az,eW (n:=n) (by omega)];cases ak .leq (l.getD n SN).1 x <;> cases ak .lss x (l.getD n SN).2 <;> rfl
  .unfold PB;simp only[bP,eL,ct,aW]
 rw[a];cases bO (Zz l x) 0 l.length <;> rfl
def acf(l:List M8)(x:Int)(c:l.length<=1073741824):OJ l x=some (agn l x,()):=by
 unfold OJ agn;have a:RF (x,l,bw l,()) ((0:Int),())=some (bif bO (Zz l x) 0 l.length then(Sum.inr (Sum.inl ()):Bool×Unit⊕(Unit⊕Empty))else Sum.inl (true,())):=by
  refine wN (λn=>((n:Int),())) l.length (by omega) (Zz l x) _ _ (λn b=>?_) ?_
  .unfold RE Zz;simp only[bP,dX,cw,b,bu,az,eW (n:=n) (by omega),aiF];cases ak .leq (l.getD n SN).1 x <;> cases ak .lss x (l.getD n SN).2 <;> rfl
  .unfold RE;simp only[bP,eL,ct,aW]
 rw[a];cases bO (Zz l x) 0 l.length <;> rfl
def TK(o c:List M8)(x:Int):Bool:=bif agn o (aa .rem .i64 x 168)then Bool.not (agn c x)else false
def z168:eE (168:Int)=false:=rfl
def Vc{o c:List M8}(x:Int)(b:o.length<=20)(a:c.length<=20):MU o c x=some (TK o c x,()):=by unfold MU TK;simp only[z168,aW,acs o _ (by omega),acs c _ (by omega),aX,JV,Rb]
def UK{o c:List M8}(x:Int)(b:o.length<=20)(a:c.length<=20):N5 o c x=some (TK o c x,()):=by unfold N5 TK;simp only[z168,aW,acf o _ (by omega),acf c _ (by omega),aX,JV,Rb]
def Rm(o c:List M8)(a:Int)(k:Nat):Int:=(List.range k).foldl (λ(n:Int) (i:Nat)=>bif TK o c (a+(i:Int))then n+1 else n) 0
def hours(o c:List M8)(a b:Int):Int:=bif KF o c then bif Jh a 0 20000 then bif Jh b 0 20000 then Rm o c a (b-a).toNat else 0 else 0 else 0
def Y3(o c:List M8)(a:Int)(k:Nat):Rm o c a (k+1)=bif TK o c (a+(k:Int))then Rm o c a k+1 else Rm o c a k:=by unfold Rm;rw[acF,ZK];rfl
def XC(o c:List M8)(a:Int):∀k:Nat,0<=Rm o c a k/\Rm o c a k<=(k:Int)
 |0=>⟨LL 0,LL 0⟩
 |k+1=>by
  have:=XC o c a k;rw[Y3];cases TK o c (a+(k:Int))with
  |true=>simp only[az];omega
  |false=>simp only[aW];omega
def adi(o c:List M8)(a b:Int):Py o c a b=some (hours o c a b,()):=by
 unfold Py hours;simp only[Me,rp,aX];cases l:KF o c with
 |false=>rfl
 |true=>
  obtain⟨k,j⟩:=Ub l;simp only[fu,aW,az];cases f:Jh a 0 20000 with
  |false=>rfl
  |true=>
   simp only[fu,aW,az];cases g:Jh b 0 20000 with
   |false=>rfl
   |true=>
    have f:=kW.1 f;have g:=kW.1 g;simp only[fu,aW,az];have d:L1 (b,o,c,()) ((0:Int),a,())=some (Sum.inl (Rm o c a (b-a).toNat,())):=by
     have:=lc (body:=L0 (b,o,c,())) (λn=>(Rm o c a n,a+(n:Int),())) (b-a).toNat (by omega) (Sum.inl (Rm o c a (b-a).toNat,())) (λn m=>?_) ?_
     .unfold L1;simpa[Rm] using this
     .have i:=XC o c a n;unfold L0;have e:ak .lss (a+(n:Int)) b=true:=by simp only[ak,sR];omega
      simp only[e,az,Vc _ k j,aX];rw[Y3,Rq (a:=a+(n:Int)) (by omega) (by omega),Rq (a:=Rm o c a n) (by omega) (by omega)];have h:a+(n:Int)+1=a+((n+1:Nat):Int):=by omega
      rw[h];cases TK o c (a+(n:Int)) <;> rfl
     .unfold L0;have e:ak .lss (a+((b-a).toNat:Int)) b=false:=by simp only[ak,Xb];omega
      simp only[e,aW]
    rw[d];rfl
def acW(o c:List M8)(a b:Int):OD o c a b=some (hours o c a b,()):=by
 unfold OD hours;simp only[Lm,Lg,aX];cases l:KF o c with
 |false=>rfl
 |true=>
  obtain⟨k,j⟩:=Ub l;simp only[fu,aW,az];cases f:Jh a 0 20000 with
  |false=>rfl
  |true=>
   simp only[fu,aW,az];cases g:Jh b 0 20000 with
   |false=>rfl
   |true=>
    have f:=kW.1 f;have g:=kW.1 g;simp only[fu,aW,az];have d:LS (b,o,c,()) ((0:Int),a,())=some (Sum.inl (Rm o c a (b-a).toNat,())):=by
     have:=lc (body:=LR (b,o,c,())) (λn=>(Rm o c a n,a+(n:Int),())) (b-a).toNat (by omega) (Sum.inl (Rm o c a (b-a).toNat,())) (λn m=>?_) ?_
     .unfold LS;simpa[Rm] using this
     .have i:=XC o c a n;unfold LR;have e:ak .lss (a+(n:Int)) b=true:=by simp only[ak,sR];omega
      simp only[e,az,UK _ k j,aX];rw[Y3,Rq (a:=a+(n:Int)) (by omega) (by omega),Rq (a:=Rm o c a n) (by omega) (by omega)];have h:a+(n:Int)+1=a+((n+1:Nat):Int):=by omega
      rw[h];cases TK o c (a+(n:Int)) <;> rfl
     .unfold LR;have e:ak .lss (a+((b-a).toNat:Int)) b=false:=by simp only[ak,Xb];omega
      simp only[e,aW]
    rw[d];rfl
def L3(a b c d e f g h:Int):Bool:=bif Jh a 1 2000 then bif Jh c 1 2000 then bif Jh f 1 2000 then bif Jh b 0 2000 then bif Jh d 0 10000 then bif Jh e 0 1000000 then bif Jh g 0 100000 then Jh h 0 20 else false else false else false else false else false else false else false
def Wd(a b c d e f g h:Int):MT a b c d e f g h=some (L3 a b c d e f g h,()):=by unfold MT L3;simp only[rp,aX,JV,Rb]
def V0(a b c d e f g h:Int):Mp a b c d e f g h=some (L3 a b c d e f g h,()):=by unfold Mp L3;simp only[bS,aX,JV,Rb]
def ZF{b c a d e f g i:Int}(h:L3 b c a d e f g i=true):1<=a:=by unfold L3 at h;simp only[acL,kW]at h;exact h.2.1.1
def over(free step rate cap size open_:Int):Int:=nS false cap (aa .mul .i64 (aa .mul .i64 (aa .quo .i64 (aa .sub .i64 (aa .add .i64 (aa .sub .i64 open_ free) step) 1) step) rate) size)
def aia(free step rate cap size open_:Int):Int:=bif ak .leq (aa .sub .i64 open_ free) 0 then 0 else over free step rate cap size open_
def adY{a:Int}(h:1<=a)(g b d e i j k f c:Int):Si g b a d e i j k f c=some (aia b a d e f c,()):=by
 unfold Si aia;have l:eE a=false:=by unfold eE;exact Gi (by omega)
 rw[l];cases ak .leq (aa .sub .i64 c b) 0 <;> rfl
def afE(a b:Int):ak .gtr a b=Bool.not (ak .leq a b):=by
 simp only[ak,gt_iff_lt];by_cases h:a<=b
 .rw[iO h,Gi (by omega)];rfl
 .rw[Gi h,iO (by omega)];rfl
def aem{b:Int}(h:1<=b)(j c e f k g l i d a:Int):Vi j c b e f k g l i d a=some (aa .add .i64 (aia c b e f i d) (aa .mul .i64 g a),()):=by
 unfold Vi aia;have m:eE b=false:=by unfold eE;exact Gi (by omega)
 rw[m,afE];cases ak .leq (aa .sub .i64 d c) 0 <;> rfl
def fee(o c:List M8)(a0 a1 a2 a3 a4 a5 a6 d size a b ext:Int):Int:=bif KF o c&&(L3 a0 a1 a2 a3 a4 a5 a6 d&&(Jh size 1 24&&(Jh a 0 20000&&(Jh b 0 20000&&(!ak .lss b a&&Jh ext 0 d)))))then aa .add .i64 (aia a1 a2 a3 a4 size (hours o c a b)) (aa .mul .i64 a6 ext)else -1
def aeZ(o c:List M8)(e f g h i j k d size a b ext:Int):V2 o c e f g h i j k d size a b ext=some (fee o c e f g h i j k d size a b ext,()):=by
 unfold V2 fee;simp only[Lm,V0,bS,Lg,acW,aX];cases KF o c with
 |false=>rfl
 |true=>
  cases l:L3 e f g h i j k d with
  |false=>rfl
  |true=>
   rw[adY (ZF l)];cases Jh size 1 24 with
   |false=>rfl
   |true=>
    cases Jh a 0 20000 with
    |false=>rfl
    |true=>
     cases Jh b 0 20000 with
     |false=>rfl
     |true=>
      cases ak .lss b a with
      |true=>rfl
      |false=>cases Jh ext 0 d <;> rfl
def afk(o c:List M8)(e f g h i j k d size a b ext:Int):TU o c e f g h i j k d size a b ext=some (fee o c e f g h i j k d size a b ext,()):=by
 unfold TU fee;simp only[Me,Wd,rp,adi,aX];cases KF o c with
 |false=>rfl
 |true=>
  cases n:L3 e f g h i j k d with
  |false=>rfl
  |true=>
   rw[aem (ZF n)];cases Jh size 1 24 with
   |false=>rfl
   |true=>
    cases m:Jh b 0 20000 with
    |false=>cases Jh a 0 20000 <;> rfl
    |true=>
     have m:=kW.1 m;have l:Jh a 0 b=(Jh a 0 20000 && !ak .lss b a):=by rw[PT,aQ,kW,kW];simp only[ak,sC,Xb];omega
     rw[l];cases Jh a 0 20000 with
     |false=>rfl
     |true=>
      cases ak .lss b a with
      |true=>rfl
      |false=>cases Jh ext 0 d <;> rfl
abbrev Sty:=Int×Int×Int×Int
def ahi(f:Sty->Int)(a:Int)(s:Sty):Int⊕(Int×Bool×Unit⊕(Int×Unit⊕Empty)):=bif ak .lss (f s) 0 then .inr (.inl (0,false,()))else .inl (aa .add .i64 a (f s))
def aiy(f:Sty->Int)(l:List Sty):Int×Bool×Unit⊕(Int×Unit⊕Empty):=Bc (ahi f) (λa=>.inr (.inl (a,()))) l 0
def aix:Int×Bool×Unit⊕(Int×Unit⊕Empty)->Int×Bool
 |.inl y=>(y.1,y.2.1)
 |.inr (.inl y)=>(y.1,true)
def apS(o c:List M8)(a b d e f g h i:Int)(l:List Sty):Int×Bool:=bif KF o c then bif L3 a b d e f g h i then bif decide (20<l.length)then(0,false)else aix (aiy (λs=>fee o c a b d e f g h i s.1 s.2.1 s.2.2.1 s.2.2.2) l)else(0,false)else(0,false)
def agP(o c:List M8)(b:o.length<=1073741824)(a:c.length<=1073741824):U9 o c=some (o,c,()):=by unfold U9;rw[abJ o b];simp only[aX];rw[abJ c a];rfl
def adP(o c:List M8)(b:o.length<=1073741824)(a:c.length<=1073741824):U3 o c o c=some (true,()):=by unfold U3;rw[Y7 o b];simp only[aX,fu,aW];rw[Y7 c a];rfl
def aft(a b c d e f g h:Int):V8 a b c d e f g h=some (a,b,c,d,e,f,g,h,()):=rfl
def ML(b:Bool):pI b b=true:=by unfold pI;simp
def akl:ak .lss (-1:Int) 0=true:=rfl
def acw(o c:List M8)(a:Int)(i:o.length<=9223372036854775807)(h:c.length<=9223372036854775807)(g:0<=a)(d:a<=1048576):
  U6 o c a=some (bif decide (a<(o.length:Int)+(c.length:Int))then -1 else a-(o.length:Int)-(c.length:Int),()):=by
 unfold U6;rw[abH o a i g d];simp only[aX];cases b:decide (a<(o.length:Int))with
 |true=>have b:=ck b;rw[iO (show a<(o.length:Int)+(c.length:Int)by omega)];simp only[az,akl]
 |false=>
  have b:=Jx b;simp only[aW];rw[Jp (by omega)];simp only[aW];rw[abH c _ h (by omega) (by omega)];simp only[aX];have f:decide (a-(o.length:Int)<(c.length:Int))=decide (a<(o.length:Int)+(c.length:Int)):=by rw[Oi];omega
  rw[f];cases e:decide (a<(o.length:Int)+(c.length:Int))with
  |true=>simp only[az,akl]
  |false=>have e:=Jx e;simp only[aW];rw[Jp (by omega)];rfl
abbrev Stp:=Int×Int×Int×Int×Int
def acv(l:List Int)(a:Int)(f:l.length<=9223372036854775807)(e:0<=a)(d:a<=1048576):U5 l a=some (bif decide (a<(l.length:Int))then -1 else a-(l.length:Int),()):=by
 unfold U5;have b:aa .sub .i64 a (bw l)=a-(l.length:Int):=vm (by unfold bw;omega) (by unfold bw;omega);rw[b];have c:ak .lss (a-(l.length:Int)) 0=decide (a<(l.length:Int)):=by simp only[ak,Oi];omega
 rw[c];cases decide (a<(l.length:Int)) <;> rfl
def leg(g:List (List Int))(i j:Nat):Int:=(g.getD i apj).getD j zI
def nat(l:List Int)(x:Int)(n:Nat):Bool:=!ak .eql (l.getD n zI) x
def ZS(l:List Int)(x:Int):Bool:=!bO (nat l x) 0 l.length
def ahu(a b:Int):ak .eql a b=ak .eql b a:=by simp only[ak];rw[PT,beq_iff_eq,beq_iff_eq];exact eq_comm
def afl(l:List Int)(x:Int)(c:l.length<=1073741824):Vh l x=some (ZS l x,()):=by
 unfold Vh ZS;have a:TX (l,x,()) ((0:Int),())=some (bif bO (nat l x) 0 l.length then(Sum.inr (Sum.inl ()):Bool×Unit⊕(Unit⊕Empty))else Sum.inl (true,())):=by
  refine wN (λn=>((n:Int),())) l.length (by omega) (nat l x) _ _ (λn b=>?_) ?_
  .unfold TW nat;simp only[bP,dX,cw,b,bu,az,eW (n:=n) (by omega)];cases ak .eql (l.getD n zI) x <;> rfl
  .unfold TW;simp only[bP,eL,ct,aW]
 rw[a];cases bO (nat l x) 0 l.length <;> rfl
def acN(l:List Int)(x:Int)(f:l.length<=1073741824):JO l x=some (ZS l x,()):=by
 unfold JO Lc ZS;obtain⟨y,d,e⟩:=C2 (body:=JP (l,x,bw l,())) (λn=>((n:Int),())) l.length (by omega) (nat l x) (Sum.inr (Sum.inl ())) (λn=>Sum.inl ((n:Int),())) (λn c=>by
  unfold JP nat;simp only[bP,dX,c,bu,az,cw,eW (n:=n) (by omega),ahu x];cases ak .eql (l.getD n zI) x <;> rfl) (by
  unfold JP;simp only[bP,eL,ct,aW])
 have b:Kx (l,x,bw l,()) ((0:Int),())=some y:=d;rw[b];rcases e with ⟨a,rfl⟩|⟨a,n,c,rfl,_⟩
 .rw[a];rfl
 .rw[a];show some (ak .geq ((n:Nat):Int) 0,())=some (Bool.not false,());have:ak .geq ((n:Nat):Int) 0=true:=by simp[ak]
  rw[this];rfl
abbrev RSt:=Int×List Int×Int×Int×Int×Int
def arr(g:List (List Int))(a:RSt)(i:Int):Int:=aa .add .i64 a.2.2.1 (ae zI (ae apj g a.2.2.2.2.2) (aa .add .i64 i 1))
def aiV(a b:Int):ak .leq a b=Bool.not (ak .gtr a b):=by rw[afE,Bool.not_not]
def acR(a b c d e f g h:Int):Sr a b c d e f g h a b c d e f g h=some (true,()):=by unfold Sr;simp only[I9,aW]
abbrev Trm:=Int×Int×Int×Int×Int×Int×Int×Int
def anZ(o c:List M8)(t:Trm)(l:List Sty):Int×Bool:=apS o c t.1 t.2.1 t.2.2.1 t.2.2.2.1 t.2.2.2.2.1 t.2.2.2.2.2.1 t.2.2.2.2.2.2.1 t.2.2.2.2.2.2.2 l
def aew(d e f g h i j k l m a b c:Int):Vo d e f g h i j k l m a b c=some (d,e,f,g,h,i,j,k,l,m,a,b,c,()):=rfl
def adM(a b c d e:Int):U0 a b c d e a b c d e=some (true,()):=by unfold U0;simp only[I9,aW]
def abU(d e f g h i j k l m a b c:Int):QG d e f g h i j k l m a b c d e f g h i j k l m a b c=some (true,()):=by unfold QG;simp only[I9,aW,adM,aX,fu]
def aic(a:Int)(b:Int)(c:Int)(d:Bool):Yy a b c d=some (a,b,c,d,()):=rfl
def agJ(l:List (Int×Int×Int×Bool))(c:l.length<=1073741824):U7 l=some (l,()):=by
 unfold U7;rw[C3 c];have a:O9 (l,()) (List.replicate l.length (0,0,0,false),(0:Int),())=some (Sum.inl (l,())):=by
  have:=lc (body:=O8 (l,())) (λn=>(l.take n++List.replicate (l.length-n) (0,0,0,false),(n:Int),())) l.length (by omega) (Sum.inl (l,())) (λn b=>?_) ?_
  .unfold O9;simpa using this
  .unfold O8;have e:n<(l.take n++List.replicate (l.length-n) ((0,0,0,false):Int×Int×Int×Bool)).length:=by rw[DF _ _ (fc b)];exact b
   simp only[bP,dX,b,e,bu,az,cw,aic,aX,jE,eW (n:=n) (by omega),jt];rw[<-DP l (0,0,0,false) b,EE b gI (0,0,0,false)]
  .unfold O8;simp only[bP,eL,ct,aW,pg,ZL,fa,Kj]
 have d:nw (bw l) (((0:Int),(0:Int),(0:Int),false))=List.replicate l.length (0,0,0,false):=EH _ _;rw[d];simp only[az];rw[a];rfl
def aeT(a:Int)(b:Int)(c:Int)(d:Bool):V6 a b c d a b c d=some (true,()):=by unfold V6;simp only[I9,ML,fu,aW]
def adJ(l:List (Int×Int×Int×Bool))(c:l.length<=1073741824):UX l l=some (true,()):=by
 unfold UX;rw[I9];have a:TE (l,l,()) ((0:Int),())=some (Sum.inr (Sum.inl ())):=by
  refine lc (λn=>((n:Int),())) l.length (by omega) _ (λn b=>?_) ?_
  .unfold TD;simp only[bP,dX,b,bu,az,aeT,aX,eW (n:=n) (by omega)];rfl
  .unfold TD;simp only[bP,eL,ct,aW]
 simp only[aW];rw[a];rfl
def acu(l:List (Int×Int×Int×Bool))(a:Int)(f:l.length<=9223372036854775807)(e:0<=a)(d:a<=1048576):U4 l a=some (bif decide (a<(l.length:Int))then -1 else a-(l.length:Int),()):=by
 unfold U4;have b:aa .sub .i64 a (bw l)=a-(l.length:Int):=vm (by unfold bw;omega) (by unfold bw;omega);rw[b];have c:ak .lss (a-(l.length:Int)) 0=decide (a<(l.length:Int)):=by simp only[ak,Oi];omega
 rw[c];cases decide (a<(l.length:Int)) <;> rfl
def adu(l:List (Int×Int×Int×Int×Int×Int×Int×Int×Int×Int×Int×Int×Int))(c:l.length<=1073741824):Pg l=some (l,()):=by
 unfold Pg;rw[C3 c];have a:LX (l,()) (List.replicate l.length (0,0,0,0,0,0,0,0,0,0,0,0,0),(0:Int),())=some (Sum.inl (l,())):=by
  have:=lc (body:=LW (l,())) (λn=>(l.take n++List.replicate (l.length-n) (0,0,0,0,0,0,0,0,0,0,0,0,0),(n:Int),())) l.length (by omega) (Sum.inl (l,())) (λn b=>?_) ?_
  .unfold LX;simpa using this
  .unfold LW;have e:n<(l.take n++List.replicate (l.length-n) ((0,0,0,0,0,0,0,0,0,0,0,0,0):Int×Int×Int×Int×Int×Int×Int×Int×Int×Int×Int×Int×Int)).length:=by rw[DF _ _ (fc b)];exact b
   simp only[bP,dX,b,e,bu,az,cw,aew,aX,jE,eW (n:=n) (by omega),jt];rw[<-DP l (0,0,0,0,0,0,0,0,0,0,0,0,0) b,EE b aS (0,0,0,0,0,0,0,0,0,0,0,0,0)]
  .unfold LW;simp only[bP,eL,ct,aW,pg,ZL,fa,Kj]
 have d:nw (bw l) (((0:Int),(0:Int),(0:Int),(0:Int),(0:Int),(0:Int),(0:Int),(0:Int),(0:Int),(0:Int),(0:Int),(0:Int),(0:Int)))=List.replicate l.length (0,0,0,0,0,0,0,0,0,0,0,0,0):=EH _ _;rw[d];simp only[az];rw[a];rfl
def abb(l:List (Int×Int×Int×Int×Int×Int×Int×Int×Int×Int×Int×Int×Int))(c:l.length<=1073741824):OR l l=some (true,()):=by
 unfold OR;rw[I9];have a:OT (l,l,()) ((0:Int),())=some (Sum.inr (Sum.inl ())):=by
  refine lc (λn=>((n:Int),())) l.length (by omega) _ (λn b=>?_) ?_
  .unfold OS;simp only[bP,dX,b,bu,az,abU,aX,eW (n:=n) (by omega)];rfl
  .unfold OS;simp only[bP,eL,ct,aW]
 simp only[aW];rw[a];rfl
def adr(l:List (Int×Int×Int×Int×Int×Int×Int×Int×Int×Int×Int×Int×Int))(a:Int)(f:l.length<=9223372036854775807)(e:0<=a)(d:a<=1048576):O6 l a=some (bif decide (a<(l.length:Int))then -1 else a-(l.length:Int),()):=by
 unfold O6;have b:aa .sub .i64 a (bw l)=a-(l.length:Int):=vm (by unfold bw;omega) (by unfold bw;omega);rw[b];have c:ak .lss (a-(l.length:Int)) 0=decide (a<(l.length:Int)):=by simp only[ak,Oi];omega
 rw[c];cases decide (a<(l.length:Int)) <;> rfl
def afr(a:Int)(b:Int)(c:Int)(d:Int)(e:Int)(f:Int)(g:Bool):Ss a b c d e f g=some (a,b,c,d,e,f,g,()):=rfl
def aev(l:List (Int×Int×Int×Int×Int×Int×Bool))(c:l.length<=1073741824):QM l=some (l,()):=by
 unfold QM;rw[C3 c];have a:MJ (l,()) (List.replicate l.length (0,0,0,0,0,0,false),(0:Int),())=some (Sum.inl (l,())):=by
  have:=lc (body:=MI (l,())) (λn=>(l.take n++List.replicate (l.length-n) (0,0,0,0,0,0,false),(n:Int),())) l.length (by omega) (Sum.inl (l,())) (λn b=>?_) ?_
  .unfold MJ;simpa using this
  .unfold MI;have e:n<(l.take n++List.replicate (l.length-n) ((0,0,0,0,0,0,false):Int×Int×Int×Int×Int×Int×Bool)).length:=by rw[DF _ _ (fc b)];exact b
   simp only[bP,dX,b,e,bu,az,cw,afr,aX,jE,eW (n:=n) (by omega),jt];rw[<-DP l (0,0,0,0,0,0,false) b,EE b kC (0,0,0,0,0,0,false)]
  .unfold MI;simp only[bP,eL,ct,aW,pg,ZL,fa,Kj]
 have d:nw (bw l) (((0:Int),(0:Int),(0:Int),(0:Int),(0:Int),(0:Int),false))=List.replicate l.length (0,0,0,0,0,0,false):=EH _ _;rw[d];simp only[az];rw[a];rfl
def acP(a:Int)(b:Int)(c:Int)(d:Int)(e:Int)(f:Int)(g:Bool):Sp a b c d e f g a b c d e f g=some (true,()):=by unfold Sp;simp only[I9,ML,fu,aW]
def abT(l:List (Int×Int×Int×Int×Int×Int×Bool))(c:l.length<=1073741824):QF l l=some (true,()):=by
 unfold QF;rw[I9];have a:Qa (l,l,()) ((0:Int),())=some (Sum.inr (Sum.inl ())):=by
  refine lc (λn=>((n:Int),())) l.length (by omega) _ (λn b=>?_) ?_
  .unfold P9;simp only[bP,dX,b,bu,az,acP,aX,eW (n:=n) (by omega)];rfl
  .unfold P9;simp only[bP,eL,ct,aW]
 simp only[aW];rw[a];rfl
def aep(l:List (Int×Int×Int×Int×Int×Int×Bool))(a:Int)(f:l.length<=9223372036854775807)(e:0<=a)(d:a<=1048576):QL l a=some (bif decide (a<(l.length:Int))then -1 else a-(l.length:Int),()):=by
 unfold QL;have b:aa .sub .i64 a (bw l)=a-(l.length:Int):=vm (by unfold bw;omega) (by unfold bw;omega);rw[b];have c:ak .lss (a-(l.length:Int)) 0=decide (a<(l.length:Int)):=by simp only[ak,Oi];omega
 rw[c];cases decide (a<(l.length:Int)) <;> rfl
def adG {α:Type} {body:List α×Int×Unit->Option ((List α×Int×Unit)⊕(List α×Unit⊕Empty))} (l:List α) (zr z:α) (d:l.length<=1073741824)
  (h:∀(n:Nat) (a:List α),n<l.length->a.length=l.length->body (a,(n:Int),())=some (.inl (a.set n (l.getD n z),((n+1:Nat):Int),())))
  (b:∀a:List α,a.length=l.length->body (a,(l.length:Int),())=some (.inr (.inl (a,())))):iter body big (List.replicate l.length zr,0,())=some (Sum.inl (l,())):=by
 have:=lc (body:=body) (λn=>(l.take n++List.replicate (l.length-n) zr,(n:Int),())) l.length (by omega) (Sum.inl (l,())) (λn c=>?_) ?_
 .simpa using this
 .show body (l.take n++List.replicate (l.length-n) zr,(n:Int),())=_;rw[h n _ c (DF _ _ (fc c)),EE c z zr,DP l zr c]
 .show body (l.take l.length++List.replicate (l.length-l.length) zr,(l.length:Int),())=_;rw[b _ (DF _ _ (aJ _))];simp
def aei {α:Type} {body:Int×Int×Unit->Option ((Int×Int×Unit)⊕(Int×Unit⊕(Int×Unit⊕Empty)))} (l:List α) (H:l.length<=1073741824) (d:Nat->Prop)
  (h:∀(n:Nat) (a:Int),n<l.length->0<=a->a<=1048576->body (a,(n:Int),())=some (.inr (.inl (-1,())))\/∃b,body (a,(n:Int),())=some (.inl (b,((n+1:Nat):Int),()))/\0<=b/\b<=a/\d n)
  (e:∀a,body (a,(l.length:Int),())=some (.inr (.inr (.inl (a,()))))) (a:Int) (B:0<=a) (o:a<=1048576):
  ∃y,iter body big (a,0,())=some y/\(y=.inl (-1,())\/∃b,y=.inr (.inl (b,()))/\0<=b/\b<=a/\∀n,n<l.length->d n):=by
 have q:∀(k n:Nat) (a:Int),n+k=l.length->0<=a->a<=1048576->∃y,iter body (k+1) (a,(n:Int),())=some y/\(y=.inl (-1,())\/∃b,y=.inr (.inl (b,()))/\0<=b/\b<=a/\∀m,n<=m->m<l.length->d m):=by
  intro k;induction k with
  |zero=>
   intro n a p g f;have:n=l.length:=by omega
   subst this;exact⟨_,cJ (e a),.inr ⟨a,rfl,g,LL _,λm i j=>absurd j (by omega)⟩⟩
  |succ k D=>
   intro n a p g f;rcases h n a (by omega) g f with h|⟨b,h,s,r,C⟩
   .exact⟨_,cJ h,.inl rfl⟩
   .obtain⟨y,E,F⟩:=D (n+1) b (by omega) s (by omega);refine⟨y,by rw[fz h];exact E,F.imp id λ⟨c,w,x,G,z⟩=>⟨c,w,x,by omega,λm i j=>?_⟩⟩;rcases iA n m with A|A
    .exact z m (by omega) j
    .have:m=n:=by omega
     subst this;exact C
 obtain⟨y,f,i⟩:=q l.length 0 a (by omega) B o;exact⟨y,gP f (i7 (by omega)),i.imp id λ⟨b,r,t,u,v⟩=>⟨b,r,t,u,λn p=>v n (kU _) p⟩⟩
abbrev Bx:=Int×Int×Int×Bool
abbrev LK:=Int×List Int×List Bx
abbrev Site:=List M8×List M8×List LK×Int×Int×Bool×Bool×Bool×Int×Int×List Ev
def JL:LK:=br
def bl:Site:=ax
def VK(m:Nat)(c:LK):Prop:=c.2.1.length<=m/\c.2.2.length<=m
def aet(c:Int)(a:List Int)(b:List Bx)(d:a.length<=1073741824)(e:b.length<=1073741824):Nw c a b=some (c,a,b,()):=by unfold Nw;rw[agL a d];simp only[aX];rw[agJ b e];rfl
def abS(c:Int)(a:List Int)(b:List Bx)(d:a.length<=1073741824)(e:b.length<=1073741824):Nt c a b c a b=some (true,()):=by unfold Nt;simp only[I9,aW,adL a d,aX,fu,adJ b e]
def aeo(f:Int)(c:List Int)(d:List Bx)(a:Int)(g:c.length<=9223372036854775807)(h:d.length<=9223372036854775807)(i:0<=a)(e:a<=1048576):
  ∃b,KW f c d a=some (b,())/\(b = -1\/(0<=b/\b<=a/\c.length<=1073741824/\d.length<=1073741824)):=by
 unfold KW;rw[acv c a g i e];simp only[aX];cases hd:decide (a<(c.length:Int))with
 |true=>exact⟨-1,rfl,.inl rfl⟩
 |false=>
  have hd:=Jx hd;simp only[aW];rw[Jp (by omega)];simp only[aW];rw[acu d _ h (by omega) (by omega)];simp only[aX];cases Ba:decide (a-(c.length:Int)<(d.length:Int))with
  |true=>exact⟨-1,rfl,.inl rfl⟩
  |false=>have Ba:=Jx Ba;simp only[aW];rw[Jp (by omega)];exact⟨_,rfl,.inr ⟨by omega,by omega,by show _<=1073741824;omega,by show _<=1073741824;omega⟩⟩
def J4{α:Type}{l:List α}{n:Nat}(h:n<l.length)(z:α):l.getD n z∈l:=by rw[dG,bR h];exact ZJ h
def ads(l:List LK)(b:l.length<=1073741824)(g:∀n,n<l.length->VK 1073741824 (l.getD n JL)):Pb l=some (l,()):=by
 unfold Pb;rw[C3 b];have h:nw (bw l) (((0:Int),([]:List Int),([]:List Bx)))=List.replicate l.length (0,[],[]):=EH _ _;rw[h];have:=adG (body:=LV (l,())) l (0,[],[]) JL b (λn a c f=>by
  obtain⟨d,e⟩:=g n c;unfold LV;simp only[bP,dX,c,f,bu,az,cw,jE,eW (n:=n) (show n<1099511627776 by omega),jt];show((Nw (l.getD n JL).1 (l.getD n JL).2.1 (l.getD n JL).2.2).bind _)=_;rw[aet _ _ _ d e];rfl) (λa _=>by
  unfold LV;simp only[bP,eL,ct,aW])
 simp only[az];unfold Pc;rw[this];rfl
def aa9(l:List LK)(f:l.length<=1073741824)(e:∀n,n<l.length->VK 1073741824 (l.getD n JL)):OO l l=some (true,()):=by
 unfold OO;rw[I9];have a:OQ (l,l,()) ((0:Int),())=some (Sum.inr (Sum.inl ())):=by
  refine lc (λn=>((n:Int),())) l.length (by show _<_;omega) _ (λn b=>?_) ?_
  .obtain⟨c,d⟩:=e n b;unfold OP;simp only[bP,dX,b,bu,az,cw,jE,eW (n:=n) (show n<1099511627776 by omega)];show((Nt (l.getD n JL).1 (l.getD n JL).2.1 (l.getD n JL).2.2 (l.getD n JL).1 (l.getD n JL).2.1 (l.getD n JL).2.2).bind _)=_;rw[abS _ _ _ c d];rfl
  .unfold OP;simp only[bP,eL,ct,aW]
 simp only[aW];rw[a];rfl
def ado(l:List LK)(a:Int)(u:l.length<=9223372036854775807)(v:∀c∈l,VK 9223372036854775807 c)(z:0<=a)(s:a<=1048576):
  ∃b,La l a=some (b,())/\(b = -1\/(0<=b/\b<=a/\l.length<=1073741824/\∀n,n<l.length->VK 1073741824 (l.getD n JL))):=by
 unfold La;have g:aa .sub .i64 a (bw l)=a-(l.length:Int):=vm (by unfold bw;have:l.length<=9223372036854775807:=u;omega) (by unfold bw;omega);have r:ak .lss (a-(l.length:Int)) 0=decide (a<(l.length:Int)):=by simp only[ak,Oi];omega
 rw[g,r];cases hd:decide (a<(l.length:Int))with
 |true=>exact⟨-1,rfl,.inl rfl⟩
 |false=>
  have hd:=Jx hd;have d:l.length<=1073741824:=by omega
  obtain⟨y,w,x⟩:=aei (body:=Jz (l,())) l d (λn=>VK 1073741824 (l.getD n JL)) (λn a j q g=>by
   obtain⟨k,m⟩:=v _ (J4 j JL);obtain⟨b,o,p⟩:=aeo (l.getD n JL).1 (l.getD n JL).2.1 (l.getD n JL).2.2 a k m q g;have t:Jz (l,()) (a,(n:Int),())=(bif ak .lss b 0 then some (.inr (.inl (-1,())))else some (.inl (b,((n+1:Nat):Int),()))):=by unfold Jz;simp only[bP,dX,j,bu,az,cw,jE,eW (n:=n) (show n<1099511627776 by omega)];show((KW (l.getD n JL).1 (l.getD n JL).2.1 (l.getD n JL).2.2 a).bind _)=_;rw[o];rfl
   rw[t];rcases p with rfl|⟨h,e,i,f⟩
   .exact .inl rfl
   .rw[Jp h];exact .inr ⟨b,rfl,h,e,i,f⟩) (λa=>by
   unfold Jz;simp only[bP,eL,ct,aW]) (a-(l.length:Int)) (by omega) (by omega)
  simp only[aW];unfold LU;rw[w];rcases x with rfl|⟨b,rfl,e,i,f⟩
  .exact⟨-1,rfl,.inl rfl⟩
  .exact⟨b,rfl,.inr ⟨e,by omega,d,f⟩⟩
structure Np (m:Nat) (x:Site):Prop where
 o:x.1.length<=m
 c:x.2.1.length<=m
 b:x.2.2.1.length<=m
 bs:∀n,n<x.2.2.1.length->VK m (x.2.2.1.getD n JL)
 j:x.2.2.2.2.2.2.2.2.2.2.length<=m
def agK(a b:Int)(c d e:Bool):Xp a b c d e=some (a,b,c,d,e,()):=rfl
def adK(a b:Int)(c d e:Bool):UY a b c d e a b c d e=some (true,()):=by unfold UY;simp only[I9,ML,fu,aW]
def agN(x:Site)(h:Np 1073741824 x):Rj x.1 x.2.1 x.2.2.1 x.2.2.2.1 x.2.2.2.2.1 x.2.2.2.2.2.1 x.2.2.2.2.2.2.1 x.2.2.2.2.2.2.2.1 x.2.2.2.2.2.2.2.2.1 x.2.2.2.2.2.2.2.2.2.1 x.2.2.2.2.2.2.2.2.2.2 =
  some (x.1,x.2.1,x.2.2.1,x.2.2.2.1,x.2.2.2.2.1,x.2.2.2.2.2.1,x.2.2.2.2.2.2.1,x.2.2.2.2.2.2.2.1,x.2.2.2.2.2.2.2.2.1,x.2.2.2.2.2.2.2.2.2.1,x.2.2.2.2.2.2.2.2.2.2,()):=by
 unfold Rj;simp only[agP _ _ h.o h.c,ads _ h.b h.bs,agK,aeu _ h.j,aX]
def adN(x:Site)(h:Np 1073741824 x):U1 x.1 x.2.1 x.2.2.1 x.2.2.2.1 x.2.2.2.2.1 x.2.2.2.2.2.1 x.2.2.2.2.2.2.1 x.2.2.2.2.2.2.2.1 x.2.2.2.2.2.2.2.2.1 x.2.2.2.2.2.2.2.2.2.1 x.2.2.2.2.2.2.2.2.2.2 x.1 x.2.1 x.2.2.1 x.2.2.2.1 x.2.2.2.2.1 x.2.2.2.2.2.1 x.2.2.2.2.2.2.1 x.2.2.2.2.2.2.2.1 x.2.2.2.2.2.2.2.2.1 x.2.2.2.2.2.2.2.2.2.1 x.2.2.2.2.2.2.2.2.2.2=some (true,()):=by unfold U1;simp only[adP _ _ h.o h.c,aa9 _ h.b h.bs,adK,aba _ h.j,aX,I9,fu,aW]
structure abD (x:Site):Prop where
 o:x.1.length<=9223372036854775807
 c:x.2.1.length<=9223372036854775807
 b:x.2.2.1.length<=9223372036854775807
 bs:∀y∈x.2.2.1,VK 9223372036854775807 y
 j:x.2.2.2.2.2.2.2.2.2.2.length<=9223372036854775807
def agH(x:Site)(a:Int)(h:abD x)(j:0<=a)(c:a<=1048576):
  ∃b,N6 x.1 x.2.1 x.2.2.1 x.2.2.2.1 x.2.2.2.2.1 x.2.2.2.2.2.1 x.2.2.2.2.2.2.1 x.2.2.2.2.2.2.2.1 x.2.2.2.2.2.2.2.2.1 x.2.2.2.2.2.2.2.2.2.1 x.2.2.2.2.2.2.2.2.2.2 a=some (b,())/\(b = -1\/(0<=b/\b<=a/\Np 1073741824 x)):=by
 unfold N6;rw[acw _ _ a h.o h.c j c];simp only[aX];cases hd:decide (a<(x.1.length:Int)+(x.2.1.length:Int))with
 |true=>exact⟨-1,rfl,.inl rfl⟩
 |false=>
  have hd:=Jx hd;simp only[aW];rw[Jp (by omega)];simp only[aW];obtain⟨b,g,i⟩:=ado x.2.2.1 (a-(x.1.length:Int)-(x.2.1.length:Int)) h.b h.bs (by omega) (by omega);rw[g];simp only[aX];rcases i with rfl|⟨d,k,e,f⟩
  .exact⟨-1,rfl,.inl rfl⟩
  .rw[Jp d];simp only[aW];rw[abG _ b h.j d (by omega)];simp only[aX];cases Ba:decide (b<(x.2.2.2.2.2.2.2.2.2.2.length:Int))with
   |true=>exact⟨-1,rfl,.inl rfl⟩
   |false=>have Ba:=Jx Ba;simp only[aW];rw[Jp (by omega)];exact⟨_,rfl,.inr ⟨by omega,by omega,⟨by show _<=1073741824;omega,by show _<=1073741824;omega,e,f,by show _<=1073741824;omega⟩⟩⟩
def afs(l:List Site)(b:l.length<=1073741824)(e:∀n,n<l.length->Np 1073741824 (l.getD n bl)):Su l=some (l,()):=by
 unfold Su;rw[C3 b];have f:nw (bw l) ((([]:List M8),([]:List M8),([]:List LK),(0:Int),(0:Int),false,false,false,(0:Int),(0:Int),([]:List Ev)):Site)=List.replicate l.length ([],[],[],0,0,false,false,false,0,0,[]):=EH _ _;rw[f];have:=adG (body:=NE (l,())) l ([],[],[],0,0,false,false,false,0,0,[]) bl b (λn a c d=>by
  have g:=agN (l.getD n bl) (e n c);unfold NE;simp only[bP,dX,c,d,bu,az,cw,jE,eW (n:=n) (show n<1099511627776 by omega),jt];show((Rj (l.getD n bl).1 (l.getD n bl).2.1 (l.getD n bl).2.2.1 (l.getD n bl).2.2.2.1 (l.getD n bl).2.2.2.2.1 (l.getD n bl).2.2.2.2.2.1 (l.getD n bl).2.2.2.2.2.2.1 (l.getD n bl).2.2.2.2.2.2.2.1 (l.getD n bl).2.2.2.2.2.2.2.2.1 (l.getD n bl).2.2.2.2.2.2.2.2.2.1 (l.getD n bl).2.2.2.2.2.2.2.2.2.2).bind _)=_;rw[g];rfl) (λa _=>by
  unfold NE;simp only[bP,eL,ct,aW])
 simp only[az];unfold RK;rw[this];rfl
def acQ(l:List Site)(g:l.length<=1073741824)(d:∀n,n<l.length->Np 1073741824 (l.getD n bl)):Sq l l=some (true,()):=by
 unfold Sq;rw[I9];have a:RH (l,l,()) ((0:Int),())=some (Sum.inr (Sum.inl ())):=by
  refine lc (λn=>((n:Int),())) l.length (by show _<_;omega) _ (λn c=>?_) ?_
  .have e:=adN (l.getD n bl) (d n c);unfold RG;simp only[bP,dX,c,bu,az,cw,jE,eW (n:=n) (show n<1099511627776 by omega)];have b:=gi (λq=>q.bind λ(f:Bool×Unit)=>(bif (Bool.not f.1)then some (Sum.inr (Sum.inl (false,())))else some (Sum.inl (((n+1:Nat):Int),())):Option ((Int×Unit)⊕(Bool×Unit⊕(Unit⊕Empty))))) e;exact b
  .unfold RG;simp only[bP,eL,ct,aW]
 simp only[aW];rw[a];rfl
def afn(l:List Site)(a:Int)(v:l.length<=9223372036854775807)(w:∀c∈l,abD c)(A:0<=a)(t:a<=1048576):
  ∃b,KO l a=some (b,())/\(b = -1\/(0<=b/\b<=a/\l.length<=1073741824/\∀n,n<l.length->Np 1073741824 (l.getD n bl))):=by
 unfold KO;have f:aa .sub .i64 a (bw l)=a-(l.length:Int):=vm (by unfold bw;have:l.length<=9223372036854775807:=v;omega) (by unfold bw;omega);have s:ak .lss (a-(l.length:Int)) 0=decide (a<(l.length:Int)):=by simp only[ak,Oi];omega
 rw[f,s];cases hd:decide (a<(l.length:Int))with
 |true=>exact⟨-1,rfl,.inl rfl⟩
 |false=>
  have hd:=Jx hd;have d:l.length<=1073741824:=by omega
  obtain⟨y,x,z⟩:=aei (body:=JF (l,())) l d (λn=>Np 1073741824 (l.getD n bl)) (λn a j r f=>by
   obtain⟨b,o,p⟩:=agH (l.getD n bl) a (w _ (J4 j bl)) r f;have u:JF (l,()) (a,(n:Int),())=(bif ak .lss b 0 then some (.inr (.inl (-1,())))else some (.inl (b,((n+1:Nat):Int),()))):=by unfold JF;simp only[bP,dX,j,bu,az,cw,jE,eW (n:=n) (show n<1099511627776 by omega)];have g:=gi (λq=>q.bind λ(k:Int×Unit)=>(bif (ak .lss k.1 (0:Int))then some (.inr (.inl ((-1:Int),())))else some (.inl (k.1,((n+1:Nat):Int),())):Option ((Int×Int×Unit)⊕(Int×Unit⊕(Int×Unit⊕Empty))))) o;exact g
   rw[u];rcases p with rfl|⟨h,e,i⟩
   .exact .inl rfl
   .rw[Jp h];exact .inr ⟨b,rfl,h,e,i⟩) (λa=>by
   unfold JF;simp only[bP,eL,ct,aW]) (a-(l.length:Int)) (by omega) (by omega)
  simp only[aW];unfold ND;rw[x];rcases z with rfl|⟨b,rfl,e,i,m⟩
  .exact⟨-1,rfl,.inl rfl⟩
  .exact⟨b,rfl,.inr ⟨e,by omega,d,m⟩⟩
abbrev Oc:=Int×Int×Int×Int×Int×Int×Int×Int×Int×Int×Int×Int×Int
abbrev PM:=Int×Int×Int×Int×Int×Int×Bool
structure ahX (s:List Site) (p:List Oc) (g:List PM) (j:List Ev):Prop where
 ls:s.length<=9223372036854775807
 ss:∀x∈s,abD x
 lp:p.length<=9223372036854775807
 lg:g.length<=9223372036854775807
 lj:j.length<=9223372036854775807
structure TJ (s:List Site) (p:List Oc) (g:List PM) (j:List Ev):Prop where
 ls:s.length<=1048576
 ss:∀n,n<s.length->Np 1073741824 (s.getD n bl)
 lp:p.length<=1048576
 lg:g.length<=1048576
 lj:j.length<=1048576
def aeq(s:List Site)(a b:Int)(i:s.length<=9223372036854775807)(f:0<=a)(e:a<=1048576)(h:KO s a=some (b,()))(g:0<=b):s.length<=1048576:=by
 unfold KO at h;have c:aa .sub .i64 a (bw s)=a-(s.length:Int):=vm (by unfold bw;omega) (by unfold bw;omega);have d:ak .lss (a-(s.length:Int)) 0=decide (a<(s.length:Int)):=by simp only[ak,Oi];omega
 rw[c,d]at h;cases hd:decide (a<(s.length:Int))with
 |true=>rw[hd]at h;simp only[az,ajI,ahc]at h;omega
 |false=>have hd:=Jx hd;omega
section
variable (a0 a1 a2 a3 a4 a5 a6 a7 a8 a9 a10:Int)(s:List Site)(p:List Oc)(g:List PM)(j:List Ev)
def adt(h:TJ s p g j):Pf a0 a1 a2 a3 a4 a5 a6 a7 a8 a9 a10 s p g j=some (a0,a1,a2,a3,a4,a5,a6,a7,a8,a9,a10,s,p,g,j,()):=by have a:=h.ls;have b:=h.lp;have c:=h.lg;have d:=h.lj;unfold Pf;simp only[aft,afs s (by omega) h.ss,adu p (by omega),aev g (by omega),aeu j (by omega),aX]
def Xh(h:TJ s p g j):K8 a0 a1 a2 a3 a4 a5 a6 a7 a8 a9 a10 s p g j a0 a1 a2 a3 a4 a5 a6 a7 a8 a9 a10 s p g j=some (true,()):=by have a:=h.ls;have b:=h.lp;have c:=h.lg;have d:=h.lj;unfold K8;simp only[acR,I9,acQ s (by omega) h.ss,abb p (by omega),abT g (by omega),aba j (by omega),aX,fu,aW]
def adq(a:Int)(h:ahX s p g j)(i:0<=a)(c:a<=1048576):
  ∃b,Lb a0 a1 a2 a3 a4 a5 a6 a7 a8 a9 a10 s p g j a=some (b,())/\(b = -1\/(0<=b/\b<=a/\TJ s p g j)):=by
 unfold Lb;obtain⟨b,f,l⟩:=afn s a h.ls h.ss i c;rw[f];simp only[aX];rcases l with rfl|⟨e,m,n,k⟩
 .exact⟨-1,rfl,.inl rfl⟩
 .rw[Jp e];simp only[aW];rw[adr p b h.lp e (by omega)];simp only[aX];cases hd:decide (b<(p.length:Int))with
  |true=>exact⟨-1,rfl,.inl rfl⟩
  |false=>
   have hd:=Jx hd;simp only[aW];rw[Jp (by omega)];simp only[aW];rw[aep g _ h.lg (by omega) (by omega)];simp only[aX];cases Ba:decide (b-(p.length:Int)<(g.length:Int))with
   |true=>exact⟨-1,rfl,.inl rfl⟩
   |false=>
    have Ba:=Jx Ba;simp only[aW];rw[Jp (by omega)];simp only[aW];rw[abG j _ h.lj (by omega) (by omega)];simp only[aX];cases d:decide (b-(p.length:Int)-(g.length:Int)<(j.length:Int))with
    |true=>exact⟨-1,rfl,.inl rfl⟩
    |false=>have d:=Jx d;simp only[aW];rw[Jp (by omega)];refine⟨_,rfl,.inr ⟨by omega,by omega,⟨?_,k,by omega,by omega,by omega⟩⟩⟩;exact aeq s a b h.ls i c f e
def agA(n:Int):∃y,J0 a0 a1 a2 a3 a4 a5 a6 a7 a8 a9 a10 s p g j n=some (y,())/\Km a0 a1 a2 a3 a4 a5 a6 a7 a8 a9 a10 s p g j n=some (y,()):=by
 unfold J0 Km Js Jt;simp only[rp,bS,aX];have a:eE (2147483646:Int)=false:=rfl;cases Jh a9 1 2147483646 with
 |false=>exact⟨_,rfl,rfl⟩
 |true=>
  cases Jh n 1 12 with
  |false=>exact⟨_,rfl,rfl⟩
  |true=>simp only[a];exact⟨_,rfl,rfl⟩
end
end Go.Fn
namespace Go.R
def Yl{α:Type}(x:Option α)(P:α->Prop):Prop:=∃a,x=some a/\P a
section
variable {α β:Type}{P:α->Prop}{Q:β->Prop}
def Yl.ret{a:α}(h:P a):Yl (some a) P:=⟨a,rfl,h⟩
def Yl.bind{x:Option α}{f:α->Option β}(d:Yl x P)(c:∀a,P a->Yl (f a) Q):Yl (x.bind f) Q:=by obtain⟨a,rfl,b⟩:=d;exact c a b
def Yl.mono{b:α->Prop}{x:Option α}(d:Yl x P)(h:∀a,P a->b a):Yl x b:=by obtain⟨a,e,c⟩:=d;exact⟨a,e,h a c⟩
def Yl.cond{b:Bool}{x y:Option α}(a:b=true->Yl x P)(c:b=false->Yl y P):Yl (bif b then x else y) P:=by
 cases b
 .exact c rfl
 .exact a rfl
def Yl.guard{b:Bool}{x:Option α}(a:b=true)(c:Yl x P):Yl (bif b then x else none) P:=by subst a;exact c
def Yl.lets{a:Type}{v:a}{k:a->Option α}(h:Yl (k v) P):Yl (lets v k) P:=h
def Yl.loop{X Y:Type}{body:X->Option (X⊕Y)}(a:X->Prop)(m:X->Nat){R:Y->Prop}(c:∀x,a x->Yl (body x) λr=>match r with |.inl y=>a y/\m y<m x |.inr b=>R b):
  ∀(n:Nat) (x:X),a x->m x<n->Yl (iter body n x) R
 |0,_,_,h=>absurd h (vI _)
 |n+1,x,f,g=>by
  obtain⟨r,e,d⟩:=c x f;cases r with
  |inl y=>rw[fz e];exact Yl.loop a m c n y d.1 (by omega)
  |inr b=>exact⟨b,cJ e,d⟩
end
def Sj{α:Type}{l:List α}{i:Int}(a:0<=i)(b:i<(l.length:Int)):aZ l i=true:=by unfold aZ;rw[aQ];exact⟨iO a,iO b⟩
def rm{α:Type}{l:List α}(h:l.length<=1073741824):dF l=true:=by unfold dF limit;exact iO (by omega)
open Go.Fn
section
variable (o c:List M8)(ts:List Trm)(l:List Sty)
noncomputable abbrev bt(i:Nat):Int×Bool:=anZ o c (ts.getD i agS) l
end
end Go.R
namespace Go.Fn
open Go.R Go.Sort
section
variable {α:Type}[Inhabited α]{lt:α->α->Bool}
def one:(1:Int)=((1:Nat):Int):=rfl
abbrev akH(α:Type):=Option (((List α)×Int×Int×Int×Bool×Bool×Unit)⊕((List α)×Unit⊕Empty))
def Next(lt:α->α->Bool)(q:akH α)(d:Array α)(a b:Nat):Prop:=
 (∃R,q=some (.inr (.inl (R.toList,())))/\PermIn a b d R/\SortedIn lt a b R) \/
 (∃(E:Array α) (e c:Nat) (L:Int) (f g:Bool),q=some (.inl (E.toList,(e:Int),(c:Int),L,f,g,()))/\E.size=d.size/\e<=c/\c<=b/\c-e<b-a/\Below lt e c E/\∀R,PermIn e c E R->SortedIn lt e c R->PermIn a b d R/\SortedIn lt a b R)
def Next.mono{q:akH α}{d D:Array α}{a b:Nat}(h:Next lt q D a b)(p:PermIn a b d D):Next lt q d a b:=by
 rcases h with ⟨R,c,e,f⟩|⟨E,g,i,L,t,u,c,e,f,j,k,l,m⟩
 .exact .inl ⟨R,c,permIn_trans _ _ _ a b p e,f⟩
 .refine .inr ⟨E,g,i,L,t,u,c,by rw[e,p.1],f,j,k,l,λR n o=>?_⟩;obtain⟨r,s⟩:=m R n o;exact⟨permIn_trans _ _ _ a b p r,s⟩
end
end Go.Fn
namespace Go.Fn
open Go.R Go.Sort Go.Proofs
def XQ(x y:Ev):Bool:=decide (x.1<y.1)||(decide (x.1=y.1)&&decide (x.2.1<y.2.1))
def aiB(x y:Ev):Int:=bif XQ x y then -1 else bif XQ y x then 1 else 0
def aiC(x y:Ev):ak .lss (aiB x y) (0:Int)=XQ x y:=by unfold aiB;cases XQ x y <;> cases XQ y x <;> rfl
def sgn(a b:Int):Int:=bif decide (a<b)then -1 else bif decide (b<a)then 1 else 0
def compare_eq(a b:Int):K5 a b=some (sgn a b,()):=by unfold K5 Oj sgn;simp only[I9,aX,aW];simp only[ak,gt_iff_lt];cases decide (a<b) <;> cases decide (b<a) <;> rfl
def or_eq(a b:Int):UI [a,b]=some ((bif decide (a=0)then b else a),()):=by
 unfold UI Tl;have f:∀n:Nat,n<2->K6 ((0:Int),[a,b],bw [a,b],()) ((n:Int),())=some (bif decide (([a,b].getD n 0)=0)then .inl (((n+1:Nat):Int),())else .inr (.inl ([a,b].getD n 0,()))):=by
  intro n g;unfold K6;simp only[bP,dX,cw,show n < [a,b].length from g,bu,az,eW (n:=n) (by omega),zI];by_cases h:[a,b].getD n 0=0
  .rw[h];rfl
  .rw[show ak .neq ([a,b].getD n 0) (0:Int)=true from by simpa[ak] using h,Gi h];rfl
 by_cases d:a=0
 .by_cases c:b=0
  .have e:iter (K6 ((0:Int),[a,b],bw [a,b],())) 3 ((0:Int),())=some (.inr (.inl ())):=by
    rw[fz (y:=(((1:Nat):Int),())) (by simpa[d] using f 0 (by omega)),fz (y:=(((2:Nat):Int),())) (by simpa[c] using f 1 (by omega))];exact cJ rfl
   rw[gP e (by unfold big;omega),d,c];rfl
  .have e:iter (K6 ((0:Int),[a,b],bw [a,b],())) 2 ((0:Int),())=some (.inl (b,())):=by
    rw[fz (y:=(((1:Nat):Int),())) (by simpa[d] using f 0 (by omega))];exact cJ (by simpa[c] using f 1 (by omega))
   rw[gP e (by unfold big;omega),d];rfl
 .have e:iter (K6 ((0:Int),[a,b],bw [a,b],())) 1 ((0:Int),())=some (.inl (a,())):=cJ (by simpa[d] using f 0 (by omega));rw[gP e (by unfold big;omega)];simp[d]
def ahm(x y:Ev):Jq x.1 x.2.1 x.2.2.1 x.2.2.2.1 x.2.2.2.2.1 x.2.2.2.2.2.1 x.2.2.2.2.2.2 y.1 y.2.1 y.2.2.1 y.2.2.2.1 y.2.2.2.2.1 y.2.2.2.2.2.1 y.2.2.2.2.2.2=some (aiB x y,()):=by
 unfold Jq;simp only[compare_eq,aX];rw[show(List.append (α:=Int) (List.append (α:=Int) ([]:List Int) [sgn x.1 y.1]) [sgn x.2.1 y.2.1])=[sgn x.1 y.1,sgn x.2.1 y.2.1]from rfl,or_eq];simp only[aX];congr 2;unfold aiB XQ sgn;by_cases c:x.1<y.1
 .simp[c]
 .by_cases e:y.1<x.1
  .have a:¬(x.1=y.1):=by omega
   simp[c,e,a]
  .have a:x.1=y.1:=by omega
   by_cases b:x.2.1<y.2.1
   .simp[a,b]
   .by_cases d:y.2.1<x.2.1
    .simp[a,b,d]
    .simp[a,b,d]
def VL(x y:E7):Jq x.1 x.2.1 x.2.2.1 x.2.2.2.1 x.2.2.2.2.1 x.2.2.2.2.2.1 x.2.2.2.2.2.2 y.1 y.2.1 y.2.2.1 y.2.2.2.1 y.2.2.2.2.1 y.2.2.2.2.2.1 y.2.2.2.2.2.2=some (ve x y,()):=by unfold ve;rw[ahm x y]
def afM(x y:Ev):ltOf ve x y=XQ x y:=by unfold ltOf ve;rw[ahm x y];exact aiC x y
def JU{x y:Ev}:XQ x y=true↔x.1<y.1\/(x.1=y.1/\x.2.1<y.2.1):=by unfold XQ;simp
def abo{x y:Ev}:XQ x y=false↔y.1<x.1\/(x.1=y.1/\y.2.1<=x.2.1):=by rw[<-Xc,JU];omega
def ac4(x:Ev):XQ x x=false:=by rw[abo];omega
def Y2{x y z:Ev}(a:XQ x y=true)(b:XQ y z=true):XQ x z=true:=by rw[JU]at *;omega
def akj{x y:Ev}(a:XQ x y=true):XQ y x=false:=by rw[JU]at a;rw[abo];omega
def an6(n m:Nat):ak .eql (n:Int) (m:Int)=decide (n=m):=by
 simp only[ak];by_cases h:n=m
 .subst h;simp
 .rw[Gi h];simp;omega
def N3:SWO (ltOf ve):=⟨λx=>by rw[afM];exact ac4 x,λx y z a b=>by rw[afM]at *;exact Y2 a b,λx y z a b=>by rw[afM,abo]at *;omega⟩
abbrev Srt(l:List Ev):Prop:=l.Pairwise λx y=>XQ x y=true
def afS:∀(l:List Ev),(∀n,n+1<l.length->XQ (l.getD n k5) (l.getD (n+1) k5)=true)->Srt l
 |[],_=>List.Pairwise.nil
 |[x],_=>aaX _ _
 |x::y::l,h=>by
  have c:=afS (y::l) (λn d=>h (n+1) (by simpa using d));have a:XQ x y=true:=h 0 (by simp);refine List.Pairwise.cons (λz b=>?_) c;rcases cL.1 b with rfl|b
  .exact a
  .exact Y2 a ((vJ.1 c).1 z b)
def UU{l:List Ev}(h:SR l=true):Srt l:=by refine afS l λn a=>?_;have:=ae4 h a;simp only[R2,aQ,acm,sC,Bool.or_eq_false_iff,VY,Xb]at this;rw[JU];omega
def afT:∀ {l m:List Ev},Srt l->Srt m->(∀x,x∈l↔x∈m)->l=m
 |[],[],_,_,_=>rfl
 |[],y::m,_,_,h=>absurd ((h y).2 (VX ..)) (KD)
 |x::l,[],_,_,h=>absurd ((h x).1 (VX ..)) (KD)
 |x::l,y::m,k,n,h=>by
  have a:=vJ.1 k;have b:=vJ.1 n;have f:x=y:=by
   rcases cL.1 ((h x).1 (VX ..))with e|c
   .exact e
   .rcases cL.1 ((h y).2 (VX ..))with e|j
    .exact e.symm
    .have i:=b.1 x c;have g:=a.1 y j;rw[akj i]at g;cases g
  subst f;congr 1;refine afT a.2 b.2 λz=>⟨λd=>?_,λd=>?_⟩
  .rcases cL.1 ((h z).1 (gL _ d))with e|c
   .subst e;have:=a.1 z d;rw[ac4]at this;cases this
   .exact c
  .rcases cL.1 ((h z).2 (gL _ d))with e|c
   .subst e;have:=b.1 z d;rw[ac4]at this;cases this
   .exact c
def agc(o:Option (List Ev))(x:Ev):Option (List Ev):=o.map (x:: ·)
def merge:List Ev->List Ev->Option (List Ev)
 |[],b=>some b
 |x::a,[]=>some (x::a)
 |x::a,y::b=>bif XQ x y then agc (merge a (y::b)) x else bif XQ y x then agc (merge (x::a) b) y else bif decide (x=y)then agc (merge a b) x else none
termination_by a b=>a.length+b.length
def agr:∀(n:Nat) (a b:List Ev),a.length+b.length=n->Srt a->Srt b ->
  match merge a b with
  |some m=>Srt m/\(∀z,z∈m↔z∈a\/z∈b)/\m.length<=a.length+b.length/\(∀x,x∈a->∀y,y∈b->x.1=y.1->x.2.1=y.2.1->x=y)
  |none=>∃x,x∈a/\∃y,y∈b/\x.1=y.1/\x.2.1=y.2.1/\x≠y:=by
 intro n;induction n using Nat.strongRecOn with
 |ind n o=>
 intro a b D;rcases a with _|⟨x,a⟩
 .rw[merge];intro _ B;exact⟨B,λz=>by simp,by simp,λx K=>absurd K KD⟩
 rcases b with _|⟨y,b⟩
 .rw[merge];intro A _;exact⟨A,λz=>by simp,by simp,λx _ y L=>absurd L KD⟩
 .have E:=o _ (by simp only[cK]at D⊢;omega) a (y::b) rfl;have F:=o _ (by simp only[cK]at D⊢;omega) (x::a) b rfl;have G:=o _ (by simp only[cK]at D⊢;omega) a b rfl;rw[merge];intro A B;have e:=vJ.1 A;have f:=vJ.1 B;cases p:XQ x y with
  |true=>
   have g:=E e.2 B;simp only[az];cases k:merge a (y::b)with
   |none=>rw[k]at g;obtain⟨u,c,v,d,h⟩:=g;exact⟨u,gL _ c,v,d,h⟩
   |some m=>
    rw[k]at g;obtain⟨s,l,t,w⟩:=g;refine⟨List.Pairwise.cons (λz r=>?_) s,λz=>?_,?_,λu c v d=>?_⟩
    .rcases(l z).1 r with h|h
     .exact e.1 z h
     .rcases cL.1 h with rfl|h
      .exact p
      .exact Y2 p (f.1 z h)
    .simp only[cL,l z,or_assoc]
    .simp only[cK]at t⊢;omega
    .rcases cL.1 c with rfl|c
     .intro H I;have:XQ u v=true:=by
       rcases cL.1 d with rfl|d
       .exact p
       .exact Y2 p (f.1 v d)
      rw[JU]at this;omega
     .exact w u c v d
  |false=>
   cases q:XQ y x with
   |true=>
    have g:=F A f.2;simp only[az,aW];cases k:merge (x::a) b with
    |none=>rw[k]at g;obtain⟨u,c,v,d,h⟩:=g;exact⟨u,c,v,gL _ d,h⟩
    |some m=>
     rw[k]at g;obtain⟨s,l,t,w⟩:=g;refine⟨List.Pairwise.cons (λz r=>?_) s,λz=>?_,?_,λu c v d=>?_⟩
     .rcases(l z).1 r with h|h
      .rcases cL.1 h with rfl|h
       .exact q
       .exact Y2 q (e.1 z h)
      .exact f.1 z h
     .rw[cL,l z,cL,cL];constructor
      .rintro(h|h|h)
       .exact .inr (.inl h)
       .exact .inl h
       .exact .inr (.inr h)
      .rintro(h|h|h)
       .exact .inr (.inl h)
       .exact .inl h
       .exact .inr (.inr h)
     .simp only[cK]at t⊢;omega
     .rcases cL.1 d with rfl|d
      .intro H I;have:XQ v u=true:=by
        rcases cL.1 c with rfl|c
        .exact q
        .exact Y2 q (e.1 u c)
       rw[JU]at this;omega
      .exact w u c v d
   |false=>
    have J:x.1=y.1/\x.2.1=y.2.1:=by rw[abo]at p q;omega
    by_cases C:x=y
    .subst C;have g:=G e.2 f.2;simp only[az,aW,bu];cases k:merge a b with
     |none=>rw[k]at g;obtain⟨u,c,v,d,h⟩:=g;exact⟨u,gL _ c,v,gL _ d,h⟩
     |some m=>
      rw[k]at g;obtain⟨s,l,t,w⟩:=g;refine⟨List.Pairwise.cons (λz r=>?_) s,λz=>?_,?_,λu c v d H I=>?_⟩
      .rcases(l z).1 r with h|h
       .exact e.1 z h
       .exact f.1 z h
      .rw[cL,l z,cL,cL];constructor
       .rintro(h|h|h)
        .exact .inl (.inl h)
        .exact .inl (.inr h)
        .exact .inr (.inr h)
       .rintro((h|h)|(h|h))
        .exact .inl h
        .exact .inr (.inl h)
        .exact .inl h
        .exact .inr (.inr h)
      .simp only[cK]at t⊢;omega
      .rcases cL.1 c with i|i <;> rcases cL.1 d with j|j
       .rw[i,j]
       .have:=f.1 v j;rw[JU,<-i]at this;omega
       .have:=e.1 u i;rw[JU,<-j]at this;omega
       .exact w u i v j H I
    .simp only[aW,Gi C];exact⟨x,VX ..,y,VX ..,J.1,J.2,C⟩
def Ci{a b:List Ev}(c:Srt a)(d:Srt b):
  match merge a b with
  |some m=>Srt m/\(∀z,z∈m↔z∈a\/z∈b)/\m.length<=a.length+b.length/\(∀x,x∈a->∀y,y∈b->x.1=y.1->x.2.1=y.2.1->x=y)
  |none=>∃x,x∈a/\∃y,y∈b/\x.1=y.1/\x.2.1=y.2.1/\x≠y:=agr _ a b rfl c d
def JN(a b:List Ev):List Ev×Bool:=bif SR a then bif SR b then(match merge a b with|none=>([],false)|some m=>bif SR m then(m,true)else([],false))else([],false)else([],false)
def ae9(a b:List Ev):(JN a b).1.length<=60:=by
 unfold JN;cases SR a with
 |false=>exact kU _
 |true=>
  cases SR b with
  |false=>exact kU _
  |true=>
   simp only[az];cases merge a b with
   |none=>exact kU _
   |some m=>
    simp only[];cases h:SR m with
    |false=>exact kU _
    |true=>exact Lp h
def XL(x y:Ev):Mi x.1 x.2.1 x.2.2.1 x.2.2.2.1 x.2.2.2.2.1 x.2.2.2.2.2.1 x.2.2.2.2.2.2 y.1 y.2.1 y.2.2.1 y.2.2.2.1 y.2.2.2.2.1 y.2.2.2.2.2.1 y.2.2.2.2.2.2=some (XQ x y,()):=by
 unfold Mi XQ;simp only[ak];by_cases h:x.1=y.1
 .rw[h];cases decide (y.1<y.1) <;> simp
 .rw[Gi h,show(x.1==y.1)=false from by simpa using h];cases decide (x.1<y.1) <;> rfl
def aj4(x y:Ev):(Bool.and (ak .eql x.1 y.1) (Bool.and (ak .eql x.2.1 y.2.1) (Bool.and (ak .eql x.2.2.1 y.2.2.1) (Bool.and (ak .eql x.2.2.2.1 y.2.2.2.1) (Bool.and (ak .eql x.2.2.2.2.1 y.2.2.2.2.1) (Bool.and (ak .eql x.2.2.2.2.2.1 y.2.2.2.2.2.1) (Bool.and (ak .eql x.2.2.2.2.2.2 y.2.2.2.2.2.2) true)))))))=decide (x=y):=by obtain⟨x1,x2,x3,a,b,c,d⟩:=x;obtain⟨e,f,g,h,i,j,k⟩:=y;rw[PT];simp[ak,ahc]
def af2(l:List Ev)(x:Ev):List.append (α:=Ev) l (List.append (α:=Ev) ([]:List Ev) [x])=l++[x]:=rfl
def afm(a b:List Ev)(F:a.length<=60)(G:b.length<=60):∀(s i k:Nat) (out:List Ev) (n:Nat),(a.length-i)+(b.length-k)=s->i<=a.length->k<=b.length->out.length<=i+k->s<n ->
  iter (I7 (a,b,())) n (out,(i:Int),(k:Int),())=some (match merge (a.drop i) (b.drop k)with|none=>.inl ([],false,())|some m=>.inr (.inl (out++m,()))):=by
 intro s;induction s using Nat.strongRecOn with
 |ind s w=>
  intro i k out n J D E I H;obtain⟨n,rfl⟩:∃m,n=m+1:=⟨n-1,by omega⟩
  have c:∀x:Ev,dF (out++[x])=true:=λx=>rm (by simp;omega);have p:ak .lss (i:Int) (bw a)=decide (i<a.length):=bP i a;have lk:ak .lss (k:Int) (bw b)=decide (k<b.length):=bP k b;have l:ak .eql (i:Int) (bw a)=decide (i=a.length):=an6 i a.length;have j:ak .eql (k:Int) (bw b)=decide (k=b.length):=an6 k b.length;by_cases h:i<a.length
  .have A:=xu h k5;by_cases d:k<b.length
   .have t:=xu d k5;rw[A,t,merge];generalize e:a.getD i k5=x at A⊢;generalize f:b.getD k k5=y at t⊢;cases z:XQ x y with
    |true=>
     rw[fz (y:=(out++[x],((i+1:Nat):Int),(k:Int),())) (by unfold I7;simp only[p,lk,l,j,h,d,show ¬(k=b.length)by omega,show ¬(i=a.length)by omega,bu,ct,az,aW,dX,cw,e,f,XL,z,aX,af2,c,eW (n:=i) (by omega)])];rw[w (s-1) (by omega) (i+1) k (out++[x]) n (by omega) (by omega) E (by simp;omega) (by omega),<-t];cases merge (List.drop (i+1) a) (List.drop k b)with
     |none=>rfl
     |some m=>simp[agc]
    |false=>
     cases B:XQ y x with
     |true=>
      rw[fz (y:=(out++[y],(i:Int),((k+1:Nat):Int),())) (by unfold I7;simp only[p,lk,l,j,h,d,show ¬(k=b.length)by omega,show ¬(i=a.length)by omega,bu,ct,az,aW,dX,cw,e,f,XL,z,B,aX,af2,c,eW (n:=k) (by omega)])];rw[w (s-1) (by omega) i (k+1) (out++[y]) n (by omega) D (by omega) (by simp;omega) (by omega),<-A];cases merge (List.drop i a) (List.drop (k+1) b)with
      |none=>rfl
      |some m=>simp[agc]
     |false=>
      by_cases C:x=y
      .subst C;rw[fz (y:=(out++[x],((i+1:Nat):Int),((k+1:Nat):Int),())) (by unfold I7;simp only[p,lk,l,j,h,d,show ¬(k=b.length)by omega,show ¬(i=a.length)by omega,bu,ct,az,aW,dX,cw,e,f,XL,z,B,aX,af2,c,aj4,bu,fu,jE,eW (n:=i) (by omega),eW (n:=k) (by omega)])];rw[w (s-2) (by omega) (i+1) (k+1) (out++[x]) n (by omega) (by omega) (by omega) (by simp;omega) (by omega)];simp only[bu,az,aW];cases merge (List.drop (i+1) a) (List.drop (k+1) b)with
       |none=>rfl
       |some m=>simp[agc]
      .rw[cJ (b:=.inl ([],false,())) (by
        unfold I7;simp only[p,lk,l,j,h,d,show ¬(k=b.length)by omega,show ¬(i=a.length)by omega,bu,ct,az,aW,dX,cw,e,f,XL,z,B,aX,aj4,C,kx,jE])]
       simp only[C,ct,aW]
   .have g:k=b.length:=by omega
    have o:b.drop k=[]:=by rw[g,aaW]
    rw[fz (y:=(out++[a.getD i k5],((i+1:Nat):Int),(k:Int),())) (by unfold I7;simp only[p,lk,l,j,h,iO g,bu,az,dX,cw,af2,c,eW (n:=i) (by omega)])];rw[w (s-1) (by omega) (i+1) k _ n (by omega) (by omega) E (by simp;omega) (by omega),A,o,merge];cases hd:List.drop (i+1) a with
    |nil=>simp[merge]
    |cons u v=>simp[merge]
  .have r:i=a.length:=by omega
   have q:a.drop i=[]:=by rw[r,aaW]
   by_cases d:k<b.length
   .have t:=xu d k5;rw[fz (y:=(out++[b.getD k k5],(i:Int),((k+1:Nat):Int),())) (by unfold I7;simp only[p,lk,l,j,h,d,iO r,show ¬(k=b.length)by omega,bu,ct,az,aW,dX,cw,af2,c,eW (n:=k) (by omega)])];rw[w (s-1) (by omega) i (k+1) _ n (by omega) D (by omega) (by simp;omega) (by omega),q,merge,merge,t];simp
   .have g:k=b.length:=by omega
    have o:b.drop k=[]:=by rw[g,aaW]
    rw[cJ (b:=.inr (.inl (out,()))) (by unfold I7;simp only[p,lk,l,j,h,d,ct,aW])];rw[q,o,merge];simp
def Wc(a b:List Ev):Kz a b=some ((JN a b).1,(JN a b).2,()):=by
 unfold Kz JN;simp only[XG,aX];cases c:SR a with
 |false=>rfl
 |true=>
  cases d:SR b with
  |false=>rfl
  |true=>
   have e:=afm a b (Lp c) (Lp d) (a.length+b.length) 0 0 [] big (by omega) (by omega) (by omega) (by simp) (i7 (by have:=Lp c;have:=Lp d;omega));simp only[fu,aW,az];unfold LP;rw[show(0:Int)=((0:Nat):Int)from rfl,e,ahf,ahf];cases merge a b with
   |none=>rfl
   |some m=>simp only[aX,VW,NQ,l7,XG];cases SR m <;> rfl
def CZ{R:Type}(x:Option R):both x x=x:=by unfold both;simp
def SQ(l:List Ev)(b:l.length<=1073741824):kS l=some (l,()):=by
 unfold kS;have a:dF (List.append (α:=Ev) ([]:List Ev) l)=true:=rm b;rw[a];cases l with
 |nil=>exact CZ _
 |cons x l=>rw[show ak .gtr (bw (x::l)) (0:Int)=true from gt0 l.length];rfl
def M5(x e:Ev):Bool:=decide (x.1=e.1)&&decide (x.2.1=e.2.1)
def Mw{x e:Ev}:M5 x e=true↔x.1=e.1/\x.2.1=e.2.1:=by unfold M5;simp
def aiT(x e:Ev):KM x.1 x.2.1 x.2.2.1 x.2.2.2.1 x.2.2.2.2.1 x.2.2.2.2.2.1 x.2.2.2.2.2.2 e.1 e.2.1 e.2.2.1 e.2.2.2.1 e.2.2.2.2.1 e.2.2.2.2.2.1 e.2.2.2.2.2.2=some (M5 x e,()):=by
 unfold KM M5;simp only[ak];by_cases h:x.1=e.1
 .rw[h];simp[aeJ]
 .rw[Gi h,show(x.1==e.1)=false from by simpa using h];rfl
def index_eq(a:List Ev)(e:Ev)(j:a.length<=1073741824):∃r:Int,nh a e.1 e.2.1 e.2.2.1 e.2.2.2.1 e.2.2.2.2.1 e.2.2.2.2.2.1 e.2.2.2.2.2.2=some (r,()) /\
  ((r = -1/\∀x,x∈a->M5 x e=false)\/∃n:Nat,n<a.length/\r=(n:Int)/\M5 (a.getD n k5) e=true):=by
 obtain⟨y,i,d⟩:=C2 (body:=me (a,e.1,e.2.1,e.2.2.1,e.2.2.2.1,e.2.2.2.2.1,e.2.2.2.2.2.1,e.2.2.2.2.2.2,bw a,())) (λn=>((n:Int),())) a.length (by omega) (λn=>!M5 (a.getD n k5) e) (Sum.inr (Sum.inl ())) (λn=>Sum.inl ((n:Int),())) (λn c=>by
   unfold me;simp only[bP,c,bu,az,dX,cw,aiT,aX,eW (n:=n) (by omega)];cases M5 (a.getD n k5) e <;> rfl) (by
   unfold me;simp only[bP,eL,ct,aW])
 unfold nh tf;rw[show(0:Int)=((0:Nat):Int)from rfl,i];rcases d with ⟨b,rfl⟩|⟨_,n,c,rfl,f⟩
 .refine⟨-1,rfl,.inl ⟨rfl,λx h=>?_⟩⟩;obtain⟨m,g,rfl⟩:=uv h;have:=(iW _ _).1 b m (kU _) (by omega);simp only[sC]at this;rw[dG,bR g]at this;exact this
 .exact⟨(n:Int),rfl,.inr ⟨n,c,rfl,by simpa using f⟩⟩
def afU{l:List Ev}(h:Srt l):∀x,x∈l->∀y,y∈l->M5 x y=true->x=y:=by
 induction l with
 |nil=>intro x d;exact absurd d KD
 |cons u l j=>
  have c:=vJ.1 h;intro x d y i g;rw[Mw]at g;rcases cL.1 d with e|a <;> rcases cL.1 i with f|b
  .rw[e,f]
  .have:=c.1 y b;rw[JU,<-e]at this;omega
  .have:=c.1 x a;rw[JU,<-f]at this;omega
  .exact j c.2 x a y b (Mw.2 g)
abbrev ajx:=List Ev×Bool×Unit⊕(List Ev×Unit⊕Empty)
open Classical in
def WM(a:List Ev)(out:List Ev)(e:Ev):List Ev⊕ajx:=if a.any (λx=>M5 x e)=true then(if e∈a then .inl out else .inr (.inl ([],false,())))else .inl (out++[e])
def akk(a:List Ev):∀(l out:List Ev),(∃e,e∈l/\a.any (λx=>M5 x e)=true/\e∉a/\Bc (WM a) (λout=>(.inr (.inl (out,())):ajx)) l out=.inl ([],false,()))\/((∀e,e∈l->a.any (λx=>M5 x e)=true->e∈a)/\Bc (WM a) (λout=>(.inr (.inl (out,())):ajx)) l out=.inr (.inl (out++l.filter (λe=>!a.any (λx=>M5 x e)),())))
 |[],out=>.inr ⟨λe b=>absurd b KD,by simp[Bc]⟩
 |y::l,out=>by
  by_cases c:a.any (λx=>M5 x y)=true
  .by_cases i:y∈a
   .have h:WM a out y=.inl out:=by unfold WM;rw[cz c,cz i]
    rcases akk a l out with ⟨e,b,d,f,k3⟩|⟨d,f⟩
    .exact .inl ⟨e,gL _ b,d,f,by simp only[Bc,h,k3]⟩
    .refine .inr ⟨λe b g=>?_,by simp only[Bc,h,f,aaV,c,fu];rfl⟩;rcases cL.1 b with rfl|b
     .exact i
     .exact d e b g
   .exact .inl ⟨y,VX ..,c,i,by unfold Bc WM;rw[cz c,bc i]⟩
  .have h:WM a out y=.inl (out++[y]):=by unfold WM;rw[bc c]
   rw[Xc]at c;rcases akk a l (out++[y])with ⟨e,b,d,f,k3⟩|⟨d,f⟩
   .exact .inl ⟨e,gL _ b,d,f,by simp only[Bc,h,k3]⟩
   .refine .inr ⟨λe b g=>?_,by simp only[Bc,h,f,aaV,c,kx,if_true,iD,List.singleton_append]⟩;rcases cL.1 b with rfl|b
    .rw[c]at g;cases g
    .exact d e b g
def ae0(a b:List Ev)(v:a.length<=60)(w:b.length<=60)(t:Srt a):LN (a,b,bw b,()) (a,(0:Int),())=some (Bc (WM a) (λout=>.inr (.inl (out,()))) b a):=by
 refine DK (body:=KB (a,b,bw b,())) b k5 (by omega) (λout n=>(out,(n:Int),())) (WM a) (λout=>.inr (.inl (out,()))) (λn out=>out.length<=a.length+n) (λn out q s=>⟨?_,λo c=>?_⟩) (λout s=>?_) a (by omega)
 .unfold KB;simp only[bP,q,bu,az,dX,cw];generalize b.getD n k5=e;obtain⟨r,p,⟨rfl,k⟩|⟨m,i,rfl,f⟩⟩:=index_eq a e (by omega)
  .have d:¬(a.any (λx=>M5 x e)=true):=by
    rw[qF];rintro⟨x,u,f⟩;rw[k x u]at f;cases f
   have l:dF (out++[e])=true:=rm (by simp;omega);unfold WM;rw[bc d];simp only[p,aX,akl,az,af2,l,eW (n:=n) (by omega)]
  .have d:a.any (λx=>M5 x e)=true:=qF.2 ⟨_,J4 i k5,f⟩;unfold WM;rw[cz d];have g:ak .lss (m:Int) (0:Int)=false:=Jp (by omega);simp only[p,aX,g,aW,dX,i,bu,az,cw,aj4,jE,eW (n:=n) (by omega)];by_cases c:a.getD m k5=e
   .rw[cz (c▸J4 i k5),iO c];rfl
   .have j:e∉a:=λh=>c (afU t _ (J4 i k5) e h f);rw[bc j,Gi c];rfl
 .unfold WM at c;split at c
  .split at c
   .injection c with c;rw[<-c];omega
   .cases c
  .injection c with c
   rw[<-c];simp;omega
 .unfold KB;simp only[bP,eL,ct,aW]
def ah6(l:List Ev)(h:l.length<=255):∃r:List Ev,vw l=some (r,())/\r.Perm l/\∀i j,i<j->j<r.length->XQ (r.getD j default) (r.getD i default)=false:=by
 obtain⟨⟨a,_,b⟩,g⟩:=Go.Sort.pdq_sorts (ltOf ve) N3 l.toArray 0 l.toArray.size (Lib.bitLen l.toArray.size) true true (kU _) (aJ _) (Or.inl rfl);refine⟨Va ve l,?_,?_,?_⟩
 .unfold vw;rw[show dF l=true from rm (by omega)];rfl
 .unfold Va;revert a b;generalize Go.Sort.pdq (ltOf ve) l.toArray 0 l.toArray.size (Lib.bitLen l.toArray.size) true true=d;intro a b;rw[<-a,ahe,a,ahe]at b;exact b
 .intro i j c f;have e:(Va ve l).length=l.toArray.size:=by unfold Va;rw[gv,a]
  have:=g i j (kU _) c (by rw[<-e];exact f);rw[afM]at this;unfold Va;rw[abc _ _ (by rw[a,<-e];exact f),abc _ _ (by rw[a,<-e];omega)];exact this
def VZ(a b:List Ev):Kv a b=some ((JN a b).1,(JN a b).2,()):=by
 unfold Kv JN;simp only[Xi,aX];cases E:SR a with
 |false=>rfl
 |true=>
  cases F:SR b with
  |false=>rfl
  |true=>
   have N:=Lp E;have O:=Lp F;have q:=UU E;have J:=UU F;simp only[fu,aW,az,SQ a (by omega),aX,ae0 a b N O q];have f:=Ci q J;rcases akk a b a with ⟨e,K,p,A,k3⟩|⟨p,A⟩
   .rw[k3];cases c:merge a b with
    |none=>rfl
    |some m=>rw[c]at f;obtain⟨x,g,l⟩:=qF.1 p;rw[Mw]at l;exact absurd (f.2.2.2 x g e K l.1 l.2▸g) A
   .rw[A];have L:(b.filter (λe=>!a.any (λx=>M5 x e))).length<=b.length:=ahb _ _;obtain⟨r,M,H,v⟩:=ah6 (a++b.filter (λe=>!a.any (λx=>M5 x e))) (by rw[cR];omega);simp only[aX,VW,NQ,M];have d:(a++b.filter (λe=>!a.any (λx=>M5 x e))).Pairwise (λx y=>M5 x y=false):=by
     rw[Ti];refine⟨q.imp fun {x y} h=>?_,(J.filter _).imp fun {x y} h=>?_,λx g y w=>?_⟩
     .rw[<-Xc,Mw];rw[JU]at h;omega
     .rw[<-Xc,Mw];rw[JU]at h;omega
     .have o:=(acB.1 w).2;rw[sC,<-Xc,qF]at o;rw[<-Xc];exact λl=>o ⟨x,g,l⟩
    have n:r.Pairwise (λx y=>M5 x y=false):=(H.pairwise_iff (fun {x y} h=>by rw[<-Xc,Mw]at *;omega)).2 d;have B:Srt r:=by unfold Srt;rw[aeI]at n⊢;intro i j G t k;have o:=n i j G t k;have s:=v i j k t;rw[dG,dG,bR t,bR G]at s;simp only[aeH]at s;rw[<-Xc,Mw]at o;rw[abo]at s;rw[JU];omega
    cases c:merge a b with
    |none=>rw[c]at f;obtain⟨x,g,y,w,C,D,u⟩:=f;have:y∈a:=p y w (qF.2 ⟨x,g,Mw.2 ⟨C,D⟩⟩);exact absurd (afU q x g y this (Mw.2 ⟨C,D⟩)) u
    |some m=>
     rw[c]at f;have:r=m:=afT B f.1 λz=>by
      rw[H.mem_iff,cg,acB,f.2.1 z];constructor
      .rintro(h|h)
       .exact .inl h
       .exact .inr h.1
      .rintro(h|h)
       .exact .inl h
       .by_cases I:a.any (λx=>M5 x z)=true
        .exact .inl (p z h I)
        .exact .inr ⟨h,by simpa using I⟩
     rw[this];simp only[Xi,aX];cases SR m <;> rfl
end Go.Fn
namespace Go.Fn
open Go.R Go.Sort
def aec(x y:Ev):Prop:=XQ x y=true/\(x.1=y.1->x.2.2.1<y.2.2.1)
def ai1{x y z:Ev}(e:aec x y)(f:aec y z):aec x z:=by obtain⟨a,c⟩:=e;obtain⟨b,d⟩:=f;refine⟨Y2 a b,λh=>?_⟩;rw[JU]at a b;have:=c (by omega);have:=d (by omega);omega
def acn{x y:Ev}:acm x y=true↔aec x y:=by unfold aec;simp only[acm,sC,Bool.or_eq_false_iff,VY,Xb,JU];omega
def aed{R:Ev->Ev->Prop}(tr:∀x y z,R x y->R y z->R x z):∀(l:List Ev),(∀n,n+1<l.length->R (l.getD n k5) (l.getD (n+1) k5))->l.Pairwise R
 |[],_=>List.Pairwise.nil
 |[x],_=>aaX _ _
 |x::y::l,h=>by
  have c:=aed tr (y::l) (λn d=>h (n+1) (by simpa using d));have a:R x y:=h 0 (by simp);refine List.Pairwise.cons (λz b=>?_) c;rcases cL.1 b with rfl|b
  .exact a
  .exact tr _ _ _ a ((vJ.1 c).1 z b)
def getD_eq{α:Type}{l:List α}{n:Nat}(h:n<l.length)(z:α):l.getD n z=l[n]:=by rw[dG,bR h];rfl
def ac3{l:List Ev}:SR l=true↔l.length<=60/\(∀x,x∈l->Ue x=true)/\l.Pairwise aec:=by
 constructor
 .intro h;refine⟨Lp h,λx f=>?_,aed (R:=aec) (λ_ _ _ d b=>ai1 d b) l λn c=>?_⟩
  .obtain⟨n,c,rfl⟩:=uv f;have:=ae5 h c;rwa[getD_eq c]at this
  .have:=ae4 h c;simp only[R2,aQ]at this;exact acn.1 this.2
 .intro ⟨d,b,e⟩;unfold SR;rw[Gi (by omega)];refine(iW _ _).2 λm _ a=>?_;rw[bC]at a;cases m with
  |zero=>exact b _ (J4 a _)
  |succ m=>simp only[R2,aQ];refine⟨b _ (J4 a _),acn.2 ?_⟩;rw[getD_eq a,getD_eq (show m<l.length by omega)];exact aeI.1 e m (m+1) (by omega) a (by omega)
def ah9{l:List Ev}(h:l.Pairwise aec):∀x,x∈l->∀y,y∈l->x.1=y.1->x.2.1<y.2.1->x.2.2.1<y.2.2.1:=by
 induction l with
 |nil=>intro x d;exact absurd d KD
 |cons u l i=>
  have c:=vJ.1 h;intro x d y g e f;rcases cL.1 d with a|a <;> rcases cL.1 g with b|b
  .rw[a,b]at f;omega
  .subst a;exact(c.1 y b).2 e
  .have:=(c.1 x a).1;rw[JU,<-b]at this;omega
  .exact i c.2 x a y b e f
def akh{l:List Ev}(a:l.length<=60)(b:∀x,x∈l->Ue x=true)(c:Srt l)(d:∀x,x∈l->∀y,y∈l->x.1=y.1->x.2.1<y.2.1->x.2.2.1<y.2.2.1):SR l=true:=by refine ac3.2 ⟨a,b,?_⟩;refine List.Pairwise.imp_of_mem (fun {x y} f g h=>⟨h,λe=>d x f y g e ?_⟩) c;rw[JU]at h;omega
def ahT{l:List Ev}(h:SR l=true):∀x,x∈l->∀y,y∈l->x.1=y.1->x.2.1<y.2.1->x.2.2.1<y.2.2.1:=ah9 (ac3.1 h).2.2
def aaP{l:List Ev}(h:SR l=true):∀x,x∈l->Ue x=true:=(ac3.1 h).2.1
def WG(a:Int)(s:Int×Int×Nat×Nat)(x:Ev):Int×Int×Nat×Nat:=((bif decide (x.1=a)then x.2.1+1 else s.1),max s.2.1 (x.2.2.1+1),(bif decide (x.1<=a)then s.2.2.2+1 else s.2.2.1),s.2.2.2+1)
def L7(l:List Ev)(a:Int):Int×Int×Nat×Nat:=l.foldl (WG a) (1,1,0,0)
def adb(l:List Ev)(node kind z7 a b:Int):Ev:=(node,(L7 l node).1,(L7 l node).2.1,kind,z7,a,b)
def R4(l:List Ev)(node kind z7 a b:Int):List Ev:=l.take (L7 l node).2.2.1++[adb l node kind z7 a b]++l.drop (L7 l node).2.2.1
def Ll(l:List Ev)(node kind z7 a b:Int):List Ev×Bool:=bif SR l then bif SR (R4 l node kind z7 a b)then(R4 l node kind z7 a b,true)else(l,false)else(l,false)
structure aeB (node:Int) (p:List Ev) (s:Int×Int×Nat×Nat):Prop where
 c:s.2.2.2=p.length
 ahh:s.2.2.1<=p.length
 s1:∀x,x∈p->x.1=node->x.2.1<s.1
 s2:s.1=1\/∃x,x∈p/\x.1=node/\s.1=x.2.1+1
 p1:∀x,x∈p->x.2.2.1<s.2.1
 p2:s.2.1=1\/∃x,x∈p/\s.2.1=x.2.2.1+1
 a1:∀x,x∈p.take s.2.2.1->x.1<=node
 a2:∀x,x∈p.drop s.2.2.1->node<x.1
def ab1{b:Int}{p:List Ev}{s:Int×Int×Nat×Nat}{x:Ev}(h:aeB b p s)(o:Srt (p++[x])):aeB b (p++[x]) (WG b s x):=by
 have e:∀y,y∈p->XQ y x=true:=λy a=>(Ti.1 o).2.2 y a x (eK.2 rfl);obtain⟨f,i,k,d,l,g,m,n⟩:=h;unfold WG;refine⟨by simp[f],?_,λy a j=>?_,?_,λy a=>?_,?_,?_,?_⟩
 .cases decide (x.1<=b) <;> simp <;> omega
 .simp only[];rcases cg.1 a with a|a
  .by_cases c:x.1=b
   .rw[iO c];have:=e y a;rw[JU]at this;simp only[az];omega
   .rw[Gi c];exact k y a j
  .rw[eK]at a;subst a;rw[iO j];simp only[az];omega
 .simp only[];by_cases c:x.1=b
  .rw[iO c];exact .inr ⟨x,by simp,c,rfl⟩
  .rw[Gi c];rcases d with d|⟨y,a,d⟩
   .exact .inl d
   .exact .inr ⟨y,aeG _ a,d⟩
 .simp only[];rcases cg.1 a with a|a
  .have:=l y a;omega
  .rw[eK]at a;subst a;omega
 .simp only[];by_cases q:s.2.1<=x.2.2.1+1
  .exact .inr ⟨x,by simp,by omega⟩
  .rcases g with g|⟨y,a,g⟩
   .exact .inl (by omega)
   .exact .inr ⟨y,aeG _ a,by omega⟩
 .simp only[];by_cases c:x.1<=b
  .rw[iO c];intro y a;rw[az,f,zX (by simp)]at a;rcases cg.1 a with a|a
   .have:=e y a;rw[JU]at this;omega
   .rw[eK]at a;subst a;exact c
  .rw[Gi c];intro y a;rw[aW,List.take_append_of_le_length i]at a;exact m y a
 .simp only[];by_cases c:x.1<=b
  .rw[iO c];intro y a;rw[az,f,Bq (by simp)]at a;exact absurd a KD
  .rw[Gi c];intro y a;rw[aW,aeL i]at a;rcases cg.1 a with a|a
   .exact n y a
   .rw[eK]at a;subst a;omega
def adB(a:Int):∀(l p:List Ev) (s:Int×Int×Nat×Nat),Srt (p++l)->aeB a p s->aeB a (p++l) (l.foldl (WG a) s)
 |[],p,s,_,h=>by simpa using h
 |x::l,p,s,b,h=>by
  have e:p++x::l=(p++[x])++l:=by simp
  rw[e]at b⊢;exact adB a l (p++[x]) (WG a s x) b (ab1 h (Ti.1 b).1)
def Th(a:Int){l:List Ev}(h:Srt l):aeB a l (L7 l a):=by have:=adB a l [] (1,1,0,0) (by simpa using h) ⟨rfl,aJ _,λx b=>absurd b KD,.inl rfl,λx b=>absurd b KD,.inl rfl,λx b=>absurd (acG b) KD,λx b=>absurd (aaZ b) KD⟩;exact this
def Lh{l:List Ev}{node kind z7 a b:Int}(z:Ev):z∈R4 l node kind z7 a b↔z=adb l node kind z7 a b\/z∈l:=by
 unfold R4;rw[cg,cg,eK];constructor
 .rintro((h|h)|h)
  .exact .inr (acG h)
  .exact .inl h
  .exact .inr (aaZ h)
 .rintro(h|h)
  .exact .inl (.inr h)
  .rw[<-acD (L7 l node).2.2.1 l,cg]at h;rcases h with h|h
   .exact .inl (.inl h)
   .exact .inr h
def aam{l:List Ev}(h:Srt l)(node kind z7 a b:Int):(R4 l node kind z7 a b).length=l.length+1:=by have:=(Th node h).ahh;unfold R4;simp only[cR,dB,kg,List.length_singleton];omega
def agR{l:List Ev}(h:Srt l)(node kind z7 a b:Int):Srt (R4 l node kind z7 a b):=by
 have g:=Th node h;have j:∀y,y∈l.take (L7 l node).2.2.1->XQ y (adb l node kind z7 a b)=true:=λy c=>by
  rw[JU];have k:=g.a1 y c;have i:=g.s1 y (acG c);show y.1<node\/y.1=node/\y.2.1<(L7 l node).1;by_cases e:y.1=node
  .exact .inr ⟨e,i e⟩
  .exact .inl (by omega)
 have hd:∀y,y∈l.drop (L7 l node).2.2.1->XQ (adb l node kind z7 a b) y=true:=λy c=>by rw[JU];exact .inl (g.a2 y c)
 have f:=h;rw[<-acD (L7 l node).2.2.1 l,Srt,Ti]at f;unfold R4 Srt;rw[Ti,Ti];refine⟨⟨f.1,aaX _ _,λx d y c=>?_⟩,f.2.1,λx d y c=>?_⟩
 .rw[eK]at c;subst c;exact j x d
 .rcases cg.1 d with d|d
  .exact f.2.2 x d y c
  .rw[eK]at d;subst d;exact hd y c
def agQ{l:List Ev}(h:SR l=true){node kind z7 a b:Int}(m:l.length+1<=60)(k:Ue (adb l node kind z7 a b)=true):SR (R4 l node kind z7 a b)=true:=by
 have f:=UU h;have j:=Th node f;refine akh (by rw[aam f];exact m) (λx g=>?_) (agR f _ _ _ _ _) λx g y n i e=>?_
 .rcases(Lh x).1 g with c|c
  .rw[c];exact k
  .exact aaP h x c
 .rcases(Lh x).1 g with c|c <;> rcases(Lh y).1 n with d|d
  .rw[c,d]at e;omega
  .have:=j.s1 y d (by rw[<-i,c];rfl);rw[c]at e;have e:(L7 l node).1<y.2.1:=e;omega
  .rw[d];exact j.p1 x c
  .exact ahT h x c y d i e
def ajN(l m:List Ev):List.append (α:=Ev) l m=l++m:=rfl
def afi(l:List Ev)(f:SR l=true)(node kind z7 a b:Int)(same:List Ev):Qf (l,node,()) (same,node,(1:Int),(1:Int),kind,z7,a,b,(0:Int),(0:Int),())=some (.inl (same,node,(L7 l node).1,(L7 l node).2.1,kind,z7,a,b,(((L7 l node).2.2.1:Nat):Int),())):=by
 have o:=Lp f;refine(qA (body:=MM (l,node,())) l k5 (by omega) (WG node) (λ(s:Int×Int×Nat×Nat) n=>(same,node,s.1,s.2.1,kind,z7,a,b,((s.2.2.1:Nat):Int),(n:Int),())) (λn s=>s.2.2.2=n) (λs=>Sum.inl (same,node,s.1,s.2.1,kind,z7,a,b,((s.2.2.1:Nat):Int),())) (λn s g c=>⟨?_,by unfold WG;simp[c]⟩) (λs c=>?_) (1,1,0,0) rfl).1
 .have d:=VM.1 (ae5 f g);unfold MM WG;simp only[bP,g,bu,az,dX,cw];revert d;generalize l.getD n k5=e;intro d;have h:aa .add .i64 e.2.1 1=e.2.1+1:=sO (by omega) (by omega);have i:aa .add .i64 e.2.2.1 1=e.2.2.1+1:=sO (by omega) (by omega);have j:nS true s.2.1 (e.2.2.1+1)=max s.2.1 (e.2.2.1+1):=by unfold nS;simp <;> omega
  have k:ak .eql e.1 node=decide (e.1=node):=by simp[ak,aeJ]
  have m:ak .leq e.1 node=decide (e.1<=node):=rfl;simp only[h,i,j,k,m,eW (n:=n) (by omega),c];cases decide (e.1=node) <;> cases decide (e.1<=node) <;> rfl
 .unfold MM;simp only[bP,eL,ct,aW]
def afj(l:List Ev)(node kind z7 a b:Int)(i:l.length<=1073741824):QO l node kind z7 a b=some ((Ll l node kind z7 a b).1,(Ll l node kind z7 a b).2,()):=by
 unfold QO Ll;have e:dF l=true:=rm i;simp only[XG,aX,ajN,l7,e,az];cases d:SR l with
 |false=>rfl
 |true=>
  have f:=Lp d;have h:=Th node (UU d);have c:=h.ahh;simp only[fu,aW,az,afi l d,aX,NQ,ajN,l7];generalize g:L7 l node=A at c;have n:mT l (0:Int) ((A.2.2.1:Nat):Int)=true:=by unfold mT;simp <;> omega
  have o:mT l ((A.2.2.1:Nat):Int) (bw l)=true:=by unfold mT bw;simp <;> omega
  have p:yD l (0:Int) ((A.2.2.1:Nat):Int)=l.take A.2.2.1:=by unfold yD;simp
  have q:yD l ((A.2.2.1:Nat):Int) (bw l)=l.drop A.2.2.1:=by unfold yD bw;rw[aaU,aaU];exact zX (by simp)
  have k:dF (l.take A.2.2.1)=true:=rm (by simp;omega);have m:∀x:Ev,dF (l.take A.2.2.1++[x])=true:=λx=>rm (by simp;omega);have k3:∀x:Ev,dF (l.take A.2.2.1++[x]++l.drop A.2.2.1)=true:=λx=>rm (by simp;omega);simp only[n,o,p,q,k,m,k3,az];have j:R4 l node kind z7 a b=l.take A.2.2.1++[(node,A.1,A.2.1,kind,z7,a,b)]++l.drop A.2.2.1:=by unfold R4 adb;rw[g]
  rw[j];cases SR (l.take A.2.2.1++[(node,A.1,A.2.1,kind,z7,a,b)]++l.drop A.2.2.1) <;> rfl
structure aeD (n:Nat) (base:List Ev) (S:Int->Prop) (l:List Ev):Prop where
 j:SR l=true
 len:l.length<=n
 st:∀x,x∈l->x.2.2.1<=(n:Int)
 gap:∀x,x∈l->∀s:Int,1<=s->s<=x.2.1->∃y,y∈l/\y.1=x.1/\y.2.1=s
 sub:∀x,x∈base->x∈l
 new:∀x,x∈l->x∈base\/S x.1
def aeD.mono{n m:Nat}{a:List Ev}{S:Int->Prop}{l:List Ev}(h:aeD n a S l)(c:n<=m):aeD m a S l:=⟨h.j,by have:=h.len;omega,λx b=>by have:=h.st x b;omega,h.gap,h.sub,h.new⟩
def aeD.add{n:Nat}{d:List Ev}{S:Int->Prop}{l:List Ev}(h:aeD n d S l){c:Int}(u:S c)(kind z7 a b:Int):aeD (n+1) d S (Ll l c kind z7 a b).1:=by
 unfold Ll;rw[h.j];simp only[az];cases v:SR (R4 l c kind z7 a b)with
 |false=>exact h.mono (ot _)
 |true=>
  have t:=UU h.j;have r:=Th c t;simp only[az];refine⟨v,by rw[aam t];have:=h.len;omega,λx f=>?_,λx f s o j=>?_,λx f=>(Lh x).2 (.inr (h.sub x f)),λx f=>?_⟩
  .rcases(Lh x).1 f with e|e
   .rw[e];show(L7 l c).2.1<=_;rcases r.p2 with p|⟨y,k,p⟩
    .rw[p];omega
    .rw[p];have:=h.st y k;omega
   .have:=h.st x e;omega
  .rcases(Lh x).1 f with e|e
   .subst e;have j:s<=(L7 l c).1:=j;by_cases e:s=(L7 l c).1
    .exact⟨_,f,rfl,e.symm⟩
    .rcases r.s2 with p|⟨y,k,q,p⟩
     .omega
     .obtain⟨z,m,g,i⟩:=h.gap y k s o (by omega);exact⟨z,(Lh z).2 (.inr m),by rw[g,q];rfl,i⟩
   .obtain⟨z,m,g,i⟩:=h.gap x e s o j;exact⟨z,(Lh z).2 (.inr m),g,i⟩
  .rcases(Lh x).1 f with e|e
   .rw[e];exact .inr u
   .exact h.new x e
abbrev Fat:=Int×Int×Int×Int×Int×Int×Int
def fst(r:List Int)(f:Fat)(n:Nat):Int×Int×Int×Int×Int×Int×Int×Int×Int×Int×Int×Int×Int×Int×(List Int)×Int×Unit:=(0,0,0,0,0,0,0,f.1,f.2.1,f.2.2.1,f.2.2.2.1,f.2.2.2.2.1,f.2.2.2.2.2.1,f.2.2.2.2.2.2,r,(n:Int),())
end Go.Fn
namespace Go.Fn
open Go.R
section
variable {a0 a1:Int}{g:List (List Int)}{s:List Stp}
def lg(g:List (List Int))(p q:Int):Int:=leg g p.toNat q.toNat
structure Bd (s:List Stp) (k:Int) (st:RSt):Prop where
 e0:0<=st.2.2.1
 e1:st.2.2.1<=20200
 p0:0<=st.2.2.2.2.2
 p1:st.2.2.2.2.2<=s.length
 l0:-(1000*k)<=st.1
 l1:st.1<=1000*k
structure Rel (g:List (List Int)) (s:List Stp) (k c:Int) (XI st:RSt):Prop where
 b':Bd s k XI
 b:Bd s k st
 t:∀q:Int,0<=q->q<=s.length->XI.2.2.1+lg g XI.2.2.2.2.2 q<=st.2.2.1+lg g st.2.2.2.2.2 q
 l:XI.1<=st.1-c
 p:XI.2.2.2.1<=st.2.2.2.1
end
def js{α:Type}(mk:Int->α->α×Int):List α->Int->List α×Int
 |[],k=>([],k)
 |x::xs,k=>((mk k x).1::(js mk xs (mk k x).2).1,(js mk xs (mk k x).2).2)
def abd{α:Type}(mk:Int->α->α×Int)(y:α):∀(l:List α) (k:Int),js mk (l++[y]) k=((js mk l k).1++[(mk (js mk l k).2 y).1],(mk (js mk l k).2 y).2)
 |[],k=>rfl
 |x::xs,k=>by simp only[kR,js,abd mk y xs]
def KK{α:Type}(mk:Int->α->α×Int):∀(l:List α) (k:Int),(js mk l k).1.length=l.length
 |[],k=>rfl
 |x::xs,k=>by simp only[js,cK,KK mk xs]
def JG{α:Type}(a:α->Nat):List α->Nat
 |[]=>0
 |x::xs=>a x+JG a xs
def ab5{α:Type}(a:α->Nat):∀(l b:List α),JG a (l++b)=JG a l+JG a b
 |[],_=>by simp[JG]
 |x::xs,b=>by simp only[kR,JG,ab5 a xs];omega
def JS{α:Type}(c:Nat):∀l:List α,JG (λ_=>c) l=c*l.length
 |[]=>rfl
 |x::xs=>by simp only[JG,JS c xs,cK,Nat.mul_succ];omega
def aa6{α:Type}(a:α->Nat)(l:List α)(n:Nat):JG a (l.take n)<=JG a l:=by have:=ab5 a (l.take n) (l.drop n);rw[acD]at this;omega
def Tm{α:Type}{mk:Int->α->α×Int}{cost:α->Nat}(a:∀k x,k<=(mk k x).2/\(mk k x).2<=k+cost x):∀(l:List α) (k:Int),k<=(js mk l k).2/\(js mk l k).2<=k+JG cost l
 |[],k=>by simp[js,JG]
 |x::xs,k=>by have b:=a k x;have c:=Tm a xs (mk k x).2;simp only[js,JG];omega
def VQ {α:Type} {body:List α×Int×Int×Unit->Option ((List α×Int×Int×Unit)⊕(List α×Int×Unit⊕Empty))} {mk:Int->α->α×Int} {cost:α->Nat} (z:α) (l:List α) (a:Int) (q:l.length<=1073741824) (m:0<=a)
  (i:∀k x,k<=(mk k x).2/\(mk k x).2<=k+cost x)
  (j:∀(L:List α) (k:Int) (n:Nat),n<L.length->L.length=l.length->L.getD n z=l.getD n z->0<=k->k<=a+JG cost l->body (L,k,(n:Int),())=some (.inl (L.set n (mk k (l.getD n z)).1,(mk k (l.getD n z)).2,((n+1:Nat):Int),())))
  (h:∀(L:List α) (k:Int),body (L,k,(L.length:Int),())=some (.inr (.inl (L,k,())))):iter body big (l,a,0,())=some (.inl ((js mk l a).1,(js mk l a).2,())):=by
 have g:∀n,n<=l.length->((js mk (l.take n) a).1++l.drop n).length=l.length:=by intro n b;rw[cR,KK,dB,kg];omega
 have:=lc (body:=body) (λn=>((js mk (l.take n) a).1++l.drop n,(js mk (l.take n) a).2,(n:Int),())) l.length (by omega) (.inl ((js mk l a).1,(js mk l a).2,())) (λn b=>?_) ?_
 .simpa[js] using this
 .have o:=Tm i (l.take n) a;have p:=aa6 cost l n;have e:(js mk (l.take n) a).1.length=n:=by rw[KK,dB];omega
  have d:((js mk (l.take n) a).1++l.drop n).getD n z=l.getD n z:=by rw[dG,kH (by omega),e,pg,pZ,kE,<-dG]
  rw[j _ _ n (by rw[g n (fc b)];exact b) (g n (fc b)) d (by omega) (by omega)];have c:l.take (n+1)=l.take n++[l.getD n z]:=by rw[acJ,bR b,dG,bR b];rfl
  rw[c,abd];congr 3;rw[List.set_append,bc (by omega),e,pg,xD b,List.set_cons_zero,iD];rfl
 .have f:((js mk l a).1).length=l.length:=KK _ _ _;have:=h (js mk l a).1 (js mk l a).2;rw[f]at this;simp only[Kj,aaW,fa];exact this
def VN {α:Type} {mk:Int->α->α×Int} {cost:α->Nat} {Y:Type} {body:Int×Int×Unit->Option ((Int×Int×Unit)⊕(Y⊕(Int×Unit⊕Empty)))} (z:α) (l:List α) (c:Int) (t:l.length<=1073741824) (q:0<=c)
  (m:∀k x,k<=(mk k x).2/\(mk k x).2<=k+cost x)
  (o:∀(k:Int) (n:Nat),n<l.length->0<=k->k<=c+JG cost l->(js mk l c).1.getD n z=(mk k (l.getD n z)).1->body (k,(n:Int),())=some (.inl ((mk k (l.getD n z)).2,((n+1:Nat):Int),())))
  (j:∀k:Int,body (k,(l.length:Int),())=some (.inr (.inr (.inl (k,()))))):iter body big (c,0,())=some (.inr (.inl ((js mk l c).2,()))):=by
 have:=lc (body:=body) (λn=>((js mk (l.take n) c).2,(n:Int),())) l.length (by omega) (.inr (.inl ((js mk l c).2,()))) (λn g=>?_) (by rw[Kj];exact j _)
 .simpa[js] using this
 .have r:=Tm m (l.take n) c;have s:=aa6 cost l n;have d:l.take (n+1)=l.take n++[l.getD n z]:=by rw[acJ,bR g,dG,bR g];rfl
  have f:(js mk l c).1.getD n z=(mk (js mk (l.take n) c).2 (l.getD n z)).1:=by
   have e:∀(a b:List α) (k:Int),(js mk (a++b) k).1=(js mk a k).1++(js mk b (js mk a k).2).1:=by
    intro a;induction a with
    |nil=>intro b k;rfl
    |cons x a p=>intro b k;simp only[kR,js,p]
   have hd:l.drop n=l.getD n z::l.drop (n+1):=by rw[xD g,dG,bR g];rfl
   have i:=e (l.take n) (l.drop n) c;rw[acD]at i;have h:(js mk (l.take n) c).1.length=n:=by rw[KK,dB];omega
   rw[i,dG,kH (by omega),h,pg,hd];rfl
  rw[o _ n g (by omega) (by omega) f,d,abd]
def Kc(a:Li):Option YcM:=cond (ak .gtr (bw a) 0) (cond (dF (List.append (α:=Int) ([]:Li) a)) (some (List.append (α:=Int) ([]:Li) a,())) none) (both (some (([]:Li),())) (cond (dF (List.append (α:=Int) ([]:Li) a)) (some (List.append (α:=Int) ([]:Li) a,())) none))
def free(n:Nat)(p:List Int):Nat:=((List.range n).filter λi:Nat=>Bool.not (ZS p (i:Int))).length
def ahl(l:List Int)(h:l.length<=1073741824):Kc l=some (l,()):=by
 unfold Kc;have a:dF (List.append (α:=Int) [] l)=true:=rm h;cases l with
 |nil=>simp only[a,az];rw[show ak .gtr (bw ([]:List Int)) 0=false from rfl];exact CZ _
 |cons x l=>rw[show ak .gtr (bw (x::l)) 0=true from by simp[ak,bw]];simp only[a,az];rfl
section
variable (a0 a1:Int)(g:List (List Int))(s:List Stp)
abbrev SB:Type:=Bool×Int×List Int×Unit
end
end Go.Fn

