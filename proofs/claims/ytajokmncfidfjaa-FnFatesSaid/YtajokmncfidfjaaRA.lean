import GoSem.Core.Code
import GoSem.Core.Region
import Derived.WalkKit
import Derived.Deep.Draws
import Derived.Deep.MidRow
import Derived.Deep.AppendSrc
import Derived.OwnWalk
import Derived.Great.BuildSlice
import Derived.Laws.MakeOwn
/- An abstract interpreter over the code of Go functions, proved sound once: what it answers, the code computes. Conditions: none. -/
set_option autoImplicit false
set_option linter.unusedVariables false
set_option linter.unusedSimpArgs false
set_option maxRecDepth 4000
namespace Go.R
def Co:List (Nat×Array Value):=[]
end Go.R
namespace Go.R
mutual
inductive Ty where
 |int (k:IntKind)
 |bool
 |str
 |sl (e:Nat) (cs:aK)
inductive aK where
 |nil
 |cons (t:Ty) (ts:aK)
end
mutual
def Ty.beq:Ty->Ty->Bool
 | .int a,.int b=>decide (a=b)
 | .bool,.bool=>true
 | .str,.str=>true
 | .sl e cs,.sl e' cs'=>Nat.beq e e'&&aK.beq cs cs'
 |_,_=>false
def aK.beq:aK->aK->Bool
 | .nil,.nil=>true
 | .cons t ts,.cons u us=>Ty.beq t u&&aK.beq ts us
 |_,_=>false
end
mutual
theorem Ty.eq_of_beq:∀ {a b:Ty},Ty.beq a b=true->a=b
 | .int a,.int b,h=>by simp only[Ty.beq,decide_eq_true_eq]at h;rw[h]
 | .bool,.bool,_=>rfl
 | .str,.str,_=>rfl
 | .sl e cs,.sl e' cs',h=>by simp only[Ty.beq,Bool.and_eq_true]at h;rw[Nat.eq_of_beq_eq_true h.1,aK.eq_of_beq h.2]
 | .int _,.bool,h=>by simp[Ty.beq]at h
 | .int _,.str,h=>by simp[Ty.beq]at h
 | .int _,.sl ..,h=>by simp[Ty.beq]at h
 | .bool,.int _,h=>by simp[Ty.beq]at h
 | .bool,.str,h=>by simp[Ty.beq]at h
 | .bool,.sl ..,h=>by simp[Ty.beq]at h
 | .str,.int _,h=>by simp[Ty.beq]at h
 | .str,.bool,h=>by simp[Ty.beq]at h
 | .str,.sl ..,h=>by simp[Ty.beq]at h
 | .sl ..,.int _,h=>by simp[Ty.beq]at h
 | .sl ..,.bool,h=>by simp[Ty.beq]at h
 | .sl ..,.str,h=>by simp[Ty.beq]at h
theorem aK.eq_of_beq:∀ {a b:aK},aK.beq a b=true->a=b
 | .nil,.nil,_=>rfl
 | .cons t ts,.cons u us,h=>by simp only[aK.beq,Bool.and_eq_true]at h;rw[Ty.eq_of_beq h.1,aK.eq_of_beq h.2]
 | .nil,.cons ..,h=>by simp[aK.beq]at h
 | .cons ..,.nil,h=>by simp[aK.beq]at h
end
def aK.len:aK->Nat
 | .nil=>0
 | .cons _ ts=>ts.len+1
abbrev aK.mp(k:IntKind):aK:=.cons (.int k) (.cons .bool .nil)
def aK.plain:aK->Bool
 | .nil=>true
 | .cons (.sl ..) _=>false
 | .cons _ ts=>ts.plain
structure oC where
 V:Ty->Type
 Vs:aK->Type
 yu:(k:IntKind)->Int->V (.int k)
 lN:Bool->V .bool
 Dr:ByteArray->V .str
 arith:BinOp->(k:IntKind)->V (.int k)->V (.int k)->V (.int k)
 shift:BinOp->(k j:IntKind)->V (.int k)->V (.int j)->V (.int k)
 isZero:(k:IntKind)->V (.int k)->V .bool
 CK:(k:IntKind)->V (.int k)->V .bool
 cmp:BinOp->(k:IntKind)->V (.int k)->V (.int k)->V .bool
 BK:V .bool->V .bool->V .bool
 A6:V .bool->V .bool
 D0:V .bool->V .bool->V .bool
 neg:(k:IntKind)->V (.int k)->V (.int k)
 conv:(k j:IntKind)->V (.int k)->V (.int j)
 A5:Bool->(k:IntKind)->V (.int k)->V (.int k)->V (.int k)
 EW:BinOp->V .str->V .str->V .bool
 EV:V .str->V .str->V .str
 CP:V .str->V .str->V .bool
 DD:V .str->V (.int .i64)
 G6:(e:Nat)->V (.sl e (.cons (.int .u8) .nil))->V .str
 sin:(k:IntKind)->V .str->V (.int k)->V .bool
 EY:(k:IntKind)->V .str->V (.int k)->V (.int .u8)
 kX:(e:Nat)->(cs:aK)->V (.sl e cs)
 len:{e:Nat}->{cs:aK}->V (.sl e cs)->V (.int .i64)
 small:{e:Nat}->{cs:aK}->V (.sl e cs)->V .bool
 Gd:{e:Nat}->{cs:aK}->V (.sl e cs)->V (.int .i64)->V .bool
 get:{e:Nat}->{cs:aK}->V (.sl e cs)->V (.int .i64)->Vs cs
 put:{e:Nat}->{cs:aK}->V (.sl e cs)->V (.int .i64)->Vs cs->V (.sl e cs)
 push:{e:Nat}->{cs:aK}->V (.sl e cs)->Vs cs->V (.sl e cs)
 cat:{e:Nat}->{cs:aK}->V (.sl e cs)->V (.sl e cs)->V (.sl e cs)
 sub:{e:Nat}->{cs:aK}->V (.sl e cs)->V (.int .i64)->V (.int .i64)->V (.sl e cs)
 CQ:{e:Nat}->{cs:aK}->V (.sl e cs)->V (.int .i64)->V (.int .i64)->V .bool
 Gn:(e:Nat)->{cs:aK}->V (.int .i64)->Vs cs->V (.sl e cs)
 CO:V (.int .i64)->V .bool
 Ds:(k:IntKind)->V (.sl 0 (aK.mp k))->V (.int k)->V .bool
 Dw:(k:IntKind)->V (.sl 0 (aK.mp k))->V (.int k)->V .bool->V (.sl 0 (aK.mp k))
 nl:Vs .nil
 cn:{t:Ty}->{ts:aK}->V t->Vs ts->Vs (.cons t ts)
 hd:{t:Ty}->{ts:aK}->Vs (.cons t ts)->V t
 tl:{t:Ty}->{ts:aK}->Vs (.cons t ts)->Vs ts
structure xO (A:oC) (M:Type) where
 cond:A.V .bool->M->M->M
 both:M->M->M
 fail:M
section
variable (A:oC)
inductive df where
 |ptr (id g:Nat)
 |ro (cs:aK) (x:A.Vs cs)
inductive Lf where
 |val (t:Ty) (x:A.V t)
 |eU (e:Nat) (cs:aK)
 |ref (id g h:Nat) (path:List (A.V (.int .i64)×Nat))
 |ptr (id g off:Nat)
 |cj (id g h:Nat) (path:List (A.V (.int .i64)×Nat)) (i:A.V (.int .i64)) (off:Nat)
 |ez (cs:aK) (x:A.Vs cs) (off:Nat)
 |fn (f:FuncId) (aM:List (df A))
 |cV (id g:Nat)
 |Cq (x:A.V .bool) (y:Bool)
 |undef
 |dead
inductive TV where
 |one (l:Lf A)
 |agg (ls:List (Lf A))
 |nR (cs:List (Bool×List (Lf A)))
 |GR (i:Nat) (c:Bool×List (Lf A))      -- what the caller's slot i holds,for the while that the callee is walked within it
inductive Ob where
 |blk (cs:List (Lf A))
 |arr (e:Nat) (cs:aK) (deep:Bool) (x:A.V (.sl e cs))
 |cB (e:Nat) (cs:aK) (x:A.V (.sl e cs))
 |mp (k:IntKind) (x:A.V (.sl 0 (aK.mp k)))
 |gone
structure fX where
 g:Nat
 h:Nat
 o:Ob A
structure St where
 sl:Nat->TV A
 ob:Nat->fX A
end
variable {A:oC}
def oC.cast(A:oC){a b:Ty}(h:Ty.beq a b=true)(x:A.V a):A.V b:=(Ty.eq_of_beq h)▸x
def oC.zV(A:oC){a b:aK}(h:aK.beq a b=true)(x:A.Vs a):A.Vs b:=(aK.eq_of_beq h)▸x
def TV.dead:TV A:=.one .dead
def TV.undef:TV A:=.one .undef
def TV.mk(isAgg:Bool)(ls:List (Lf A)):TV A:=
 match isAgg,ls with
 |true,ls=>.agg ls
 |false,[l]=>.one l
 |false,_=>.dead
def TV.cells:TV A->List (Lf A)
 | .one l=>[l]
 | .agg ls=>ls
 | .nR _| .GR ..=>[]
def St.set(s:St A)(d:Nat)(v:TV A):St A:={ s with sl:=fun i=>bif Nat.beq i d then v else s.sl i }
def St.ck(s:St A)(d:Option Nat)(v:TV A):St A:=match d with|some d=>s.set d v|none=>s
def St.zm(s:St A)(id:Nat)(o:fX A):St A:={ s with ob:=fun i=>bif Nat.beq i id then o else s.ob i }
def St.new(s:St A)(id:Nat)(o:Ob A):St A:=s.zm id ⟨(s.ob id).g+1,0,o⟩
def St.gen(s:St A)(id:Nat):Nat:=(s.ob id).g
def St.bQ(s:St A)(id:Nat)(nh:Bool)(o:Ob A):St A:=s.zm id ⟨(s.ob id).g,bif nh then(s.ob id).h+1 else(s.ob id).h,o⟩
def aZ(d c j:Nat):Nat:=((d*32+c)*64+j).succ
structure TI where
 cs:aK
 agg:Bool
 bytes:Nat
 fQ:List (Nat×Nat×Bool)     -- offset,cells,struct?
 el:Option Nat                    -- of a slice type: its element's type
structure Env where
 ti:Nat->Option TI
 deep:Nat->Bool
 trunc:Nat->Bool
 ro:Nat->Bool
 E9:Nat->Bool                   -- '==' at this struct type is asked for
 mp:Nat->Option IntKind          -- a map of whole numbers of this kind to bools
 nt:Nat                           -- so many slots
def Env.mT(E:Env)(t:Nat):Option (Nat×aK):=
 match E.ti t with
 |some i=>match i.el with
  |some e=>match E.ti e with
   |some j=>some (e,j.cs)
   |none=>none
  |none=>none
 |none=>none
def zeroV(A:oC):(t:Ty)->A.V t
 | .int k=>A.yu k 0
 | .bool=>A.lN false
 | .str=>A.Dr ByteArray.empty
 | .sl e cs=>A.kX e cs
def fm(A:oC):(cs:aK)->A.Vs cs
 | .nil=>A.nl
 | .cons t ts=>A.cn (zeroV A t) (fm A ts)
def Bw(A:oC):Ty->Lf A
 | .sl e cs=>.eU e cs
 |t=>.val t (zeroV A t)
def mZ(A:oC):aK->List (Lf A)
 | .nil=>[]
 | .cons t ts=>Bw A t::mZ A ts
def gF(E:Env)(ty:Nat):Value->TV A
 | .int k n=>.one (.val (.int k) (A.yu k n))
 | .bool b=>.one (.val .bool (A.lN b))
 | .string b=>.one (.val .str (A.Dr b))
 | .slice none 0 0=>match E.mT ty with
  |some (e,cs)=>.one (.eU e cs)
  |none=>.dead
 |_=>.dead
def ev(E:Env)(s:St A)(ty:Nat):Operand->TV A
 | .tmp t=>s.sl t
 | .const v=>gF E ty v
 | .func f=>.one (.fn f [])
 | .global _=>.dead
def unpack(mk:Nat->(t:Ty)->A.V t->Lf A):(cs:aK)->A.Vs cs->Nat->List (Lf A)
 | .nil,_,_=>[]
 | .cons t ts,x,j=>mk j t (A.hd x)::unpack mk ts (A.tl x) (j+1)
def u5(_:Nat)(t:Ty)(x:A.V t):Lf A:=.val t x
def EQ(id g h:Nat)(path:List (A.V (.int .i64)×Nat))(i:A.V (.int .i64))(j:Nat)(t:Ty)(x:A.V t):Lf A:=
 match t with
 | .sl _ _=>.ref id g h (path++[(i,j)])
 |t=>.val t x
def cellAt:(cs:aK)->A.Vs cs->Nat->Option (Sigma A.V)
 | .nil,_,_=>none
 | .cons t _,x,0=>some ⟨t,A.hd x⟩
 | .cons _ ts,x,j+1=>cellAt ts (A.tl x) j
def setCell:(cs:aK)->A.Vs cs->Nat->Sigma A.V->Option (A.Vs cs)
 | .nil,_,_,_=>none
 | .cons t ts,x,0,⟨u,v⟩=>if h:Ty.beq u t=true then some (A.cn (A.cast h v) (A.tl x))else none
 | .cons t ts,x,j+1,v=>(setCell ts (A.tl x) j v).map fun y=>A.cn (A.hd x) y
structure Cont (A:oC) where
 e:Nat
 cs:aK
 x:A.V (.sl e cs)
 md:Nat
def follow(md:Nat):(e:Nat)->(cs:aK)->A.V (.sl e cs)->List (A.V (.int .i64)×Nat)->Option (Cont A)
 |e,cs,x,[]=>some ⟨e,cs,x,md⟩
 |_,cs,x,(i,j)::p=>
  match cellAt cs (A.get x i) j with
  |some ⟨.sl e' cs',y⟩=>follow md e' cs' y p
  |_=>none
def fX.cont(q:fX A)(h:Nat)(path:List (A.V (.int .i64)×Nat)):Option (Cont A):=
 match q.o with
 | .arr e cs deep x=>match path with
  | []=>some ⟨e,cs,x,bif deep then 2 else 1⟩
  |st::p=>bif deep&&Nat.beq q.h h then follow 2 e cs x (st::p)else none
 | .cB e cs x=>match path with
  | []=>some ⟨e,cs,x,0⟩
  |_::_=>none
 |_=>none
def St.cont(s:St A)(id g h:Nat)(path:List (A.V (.int .i64)×Nat)):Option (Cont A):=bif Nat.beq (s.ob id).g g then(s.ob id).cont h path else none
def qg(f:(e:Nat)->(cs:aK)->A.V (.sl e cs)->Option (A.V (.sl e cs))):(e:Nat)->(cs:aK)->A.V (.sl e cs)->List (A.V (.int .i64)×Nat)->Option (A.V (.sl e cs))
 |e,cs,x,[]=>f e cs x
 |_,cs,x,(i,j)::p=>
  match cellAt cs (A.get x i) j with
  |some ⟨.sl e' cs',y⟩=>
   match qg f e' cs' y p with
   |some y'=>match setCell cs (A.get x i) j ⟨.sl e' cs',y'⟩with
    |some el=>some (A.put x i el)
    |none=>none
   |none=>none
  |_=>none
def bY(deep:Bool)(t:Ty)(l:Lf A)(s:St A):Option (A.V t×St A):=
 match l,t with
 | .val (.sl e cs) x,t=>bif deep then none else if h:Ty.beq (.sl e cs) t=true then some (A.cast h x,s)else none
 | .val u x,t=>if h:Ty.beq u t=true then some (A.cast h x,s)else none
 | .eU e cs,.sl e' cs'=>if h:Ty.beq (.sl e cs) (.sl e' cs')=true then some (A.cast h (A.kX e cs),s)else none
 | .ref id g _ [],t=>
  bif Nat.beq (s.ob id).g g then
   match(s.ob id).o with
   | .arr e cs _ x=>
    if h:Ty.beq (.sl e cs) t=true then
     bif deep then none
     else some (A.cast h x,s.bQ id true (.cB e cs x))
    else none
   | .cB e cs x=>bif deep then none else if h:Ty.beq (.sl e cs) t=true then some (A.cast h x,s)else none
   |_=>none
  else none
 |_,_=>none
def eV(deep:Bool):(cs:aK)->List (Lf A)->St A->Option (A.Vs cs×St A)
 | .nil,[],s=>some (A.nl,s)
 | .cons t ts,l::ls,s=>
  match bY deep t l s with
  |some (x,s1)=>match eV deep ts ls s1 with
   |some (xs,s2)=>some (A.cn x xs,s2)
   |none=>none
  |none=>none
 |_,_,_=>none
def mH(t:Ty)(l:Lf A)(s:St A):Option (A.V t):=
 match l,t with
 | .val u x,t=>if h:Ty.beq u t=true then some (A.cast h x)else none
 | .eU e cs,t=>if h:Ty.beq (.sl e cs) t=true then some (A.cast h (A.kX e cs))else none
 | .ref id g h p,t=>
  match s.cont id g h p with
  |some c=>if hh:Ty.beq (.sl c.e c.cs) t=true then some (A.cast hh c.x)else none
  |none=>none
 |_,_=>none
inductive K where
 |val (t:Ty)
 |arr (e:Nat) (cs:aK) (deep:Bool)
 |mp (k:IntKind)
def K.T(A:oC):K->Type
 | .val t=>A.V t
 | .arr e cs _=>A.V (.sl e cs)
 | .mp k=>A.V (.sl 0 (aK.mp k))
def fI(A:oC):List K->Type
 | []=>Unit
 |k::ks=>K.T A k×fI A ks
inductive Cp where
 |ro (cs:aK)
 |mu (ks:List K)
inductive Sh where
 |one (k:K)
 |agg (ks:List K)
 |blk (ks:List K)
 |ro (cs:aK)
 |fn (f:FuncId) (aM:List aK)
 |pL (f:FuncId) (aM:List Cp)
def aK.ks:aK->List K
 | .nil=>[]
 | .cons t ts=>.val t::ts.ks
def Cp.ks:Cp->List K
 | .ro cs=>cs.ks
 | .mu ks=>ks
def Sh.ks:Sh->List K
 | .one k=>[k]
 | .agg ks| .blk ks=>ks
 | .ro cs=>cs.ks
 | .fn _ aM=>(aM.map aK.ks).flatten
 | .pL _ aM=>(aM.map Cp.ks).flatten
end Go.R
namespace Go.R
variable {A:oC} {M:Type}
def K.beq:K->K->Bool
 | .val t,.val u=>Ty.beq t u
 | .arr e cs d,.arr e' cs' d'=>Nat.beq e e'&&aK.beq cs cs'&&(d==d')
 | .mp k,.mp k'=>decide (k=k')
 |_,_=>false
theorem K.eq_of_beq:∀ {a b:K},K.beq a b=true->a=b
 | .val t,.val u,h=>by rw[Ty.eq_of_beq h]
 | .arr e cs d,.arr e' cs' d',h=>by simp only[K.beq,Bool.and_eq_true,beq_iff_eq]at h;rw[Nat.eq_of_beq_eq_true h.1.1,aK.eq_of_beq h.1.2,h.2]
 | .mp k,.mp k',h=>by simp only[K.beq,decide_eq_true_eq]at h;rw[h]
 | .val _,.arr ..,h=>by simp[K.beq]at h
 | .arr ..,.val _,h=>by simp[K.beq]at h
 | .mp _,.arr ..,h=>by simp[K.beq]at h
 | .mp _,.val _,h=>by simp[K.beq]at h
 | .val _,.mp _,h=>by simp[K.beq]at h
 | .arr ..,.mp _,h=>by simp[K.beq]at h
def K.k9:K->Bool
 | .arr ..=>true
 |_=>false
def K.mD:K->Bool
 | .val _=>true
 |_=>false
abbrev KV(A:oC):=Sigma (K.T A)
def kE:(ks:List K)->List (KV A)->Option (fI A ks)
 | [],[]=>some ()
 |k::ks,⟨k',x⟩::xs=>if h:K.beq k' k=true then(kE ks xs).map fun r=>(K.eq_of_beq h▸x,r)else none
 |_,_=>none
def co:(ks:List K)->fI A ks->List (KV A)
 | [],_=>[]
 |k::ks,(x,r)=>⟨k,x⟩::co ks r
def eJ(e:Nat)(cs:aK)(deep:Bool)(l:Lf A)(s:St A):Option (A.V (.sl e cs)×St A):=
 match l with
 | .eU e' cs'=>if h:Ty.beq (.sl e' cs') (.sl e cs)=true then some (A.cast h (A.kX e' cs'),s)else none
 | .ref id g _ []=>
  bif Nat.beq (s.ob id).g g then
   match(s.ob id).o with
   | .arr e' cs' dp x=>
    bif (dp==deep)||cs'.plain then
     if h:Ty.beq (.sl e' cs') (.sl e cs)=true then some (A.cast h x,s.bQ id true .gone)else none
    else none
   |_=>none
  else none
 |_=>none
def tS(k:IntKind)(l:Lf A)(s:St A):Option (A.V (.sl 0 (aK.mp k))×St A):=
 match l with
 | .cV id g=>
  bif Nat.beq (s.ob id).g g then
   match(s.ob id).o with
   | .mp k' x=>if h:Ty.beq (.sl 0 (aK.mp k')) (.sl 0 (aK.mp k))=true then some (A.cast h x,s.bQ id true .gone)else none
   |_=>none
  else none
 |_=>none
def cW(k:K)(l:Lf A)(s:St A):Option (KV A×St A):=
 match k with
 | .val t=>(bY false t l s).map fun r=>(⟨.val t,r.1⟩,r.2)
 | .arr e cs deep=>(eJ e cs deep l s).map fun r=>(⟨.arr e cs deep,r.1⟩,r.2)
 | .mp k=>(tS k l s).map fun r=>(⟨.mp k,r.1⟩,r.2)
def takes:List K->List (Lf A)->St A->Option (List (KV A)×St A)
 | [],[],s=>some ([],s)
 |k::ks,l::ls,s=>
  match cW k l s with
  |some (x,s1)=>match takes ks ls s1 with
   |some (xs,s2)=>some (x::xs,s2)
   |none=>none
  |none=>none
 |_,_,_=>none
def aK.kd:aK->List K
 | .nil=>[]
 | .cons t ts=>(match t with| .sl e cs=>.arr e cs true|t=>.val t)::ts.kd
def KV.sig(v:KV A):Sigma A.V:=
 match v with
 |⟨.val t,x⟩=>⟨t,x⟩
 |⟨.arr e cs _,x⟩=>⟨.sl e cs,x⟩
 |⟨.mp k,x⟩=>⟨.sl 0 (aK.mp k),x⟩
def qU:(cs:aK)->List (KV A)->Option (A.Vs cs)
 | .nil,[]=>some A.nl
 | .cons t ts,v::r=>if h:Ty.beq v.sig.1 t=true then(qU ts r).map fun y=>A.cn (A.cast h v.sig.2) y else none
 |_,_=>none
def setRow(cs:aK)(x:A.Vs cs)(j:Nat):List (KV A)->Option (A.Vs cs)
 | []=>some x
 |v::r=>match setCell cs x j v.sig with
  |some y=>setRow cs y (j+1) r
  |none=>none
def Cf(e:Nat)(cs:aK):Nat->List (KV A)->A.V (.sl e cs)->Option (A.V (.sl e cs))
 |0,[],x=>some x
 |0,_::_,_=>none
 |n+1,vs,x=>match qU cs (vs.take cs.len)with
  |some el=>Cf e cs n (vs.drop cs.len) (A.push x el)
  |none=>none
def putAt(c:Cont A)(y:A.V (.sl c.e c.cs))(e:Nat)(cs:aK)(x:A.V (.sl e cs))(p:List (A.V (.int .i64)×Nat)):Option (A.V (.sl e cs)):=qg (fun e' cs' _=>if h:Ty.beq (.sl c.e c.cs) (.sl e' cs')=true then some (A.cast h y)else none) e cs x p
def dA(s:St A)(id g:Nat):Option (List (Lf A)):=bif Nat.beq (s.ob id).g g then match(s.ob id).o with| .blk cs=>some cs|_=>none else none
def AM:(cs:aK)->A.Vs cs->List (KV A)
 | .nil,_=>[]
 | .cons t ts,x=>⟨.val t,A.hd x⟩::AM ts (A.tl x)
def cr(cs:aK)(c:df A)(s:St A):Option (List (KV A)×St A):=
 match c with
 | .ptr id g=>match dA s id g with
  |some ls=>match takes cs.ks ls s with
   |some (vs,s1)=>match(s1.ob id).o with
    | .blk _=>some (vs,s1.bQ id true .gone)
    |_=>none
   |none=>none
  |none=>none
 | .ro cs' x=>if h:aK.beq cs' cs=true then some (AM cs (A.zV h x),s)else none
def cz:List aK->List (df A)->St A->Option (List (KV A)×St A)
 | [],[],s=>some ([],s)
 |cs::nc,c::cc,s=>match cr cs c s with
  |some (x,s1)=>match cz nc cc s1 with
   |some (r,s2)=>some (x++r,s2)
   |none=>none
  |none=>none
 |_,_,_=>none
def ff(c:Cp)(v:df A)(s:St A):Option (List (KV A)×St A):=
 match c,v with
 | .ro cs,v=>cr cs v s
 | .mu ks,.ptr id g=>match dA s id g with
  |some ls=>match takes ks ls (s.bQ id true .gone)with
   |some r=>some r
   |none=>none
  |none=>none
 |_,_=>none
def cH:List Cp->List (df A)->St A->Option (List (KV A)×St A)
 | [],[],s=>some ([],s)
 |c::cs,v::vs,s=>match ff c v s with
  |some (x,s1)=>match cH cs vs s1 with
   |some (r,s2)=>some (x++r,s2)
   |none=>none
  |none=>none
 |_,_,_=>none
def cl(sh:Sh)(v:TV A)(s:St A):Option (List (KV A)×St A):=
 match sh,v with
 | .ro cs,.one (.ptr id g 0)=>cr cs (.ptr id g) s
 | .ro cs,.one (.ez cs' x 0)=>cr cs (.ro cs' x) s
 | .fn f aM,.one (.fn f' cc)=>bif Nat.beq f f' then cz aM cc s else none
 | .pL f aM,.one (.fn f' cc)=>bif Nat.beq f f' then cH aM cc s else none
 | .one k,.one l=>takes [k] [l] s
 | .agg ks,.agg ls=>takes ks ls s
 | .blk ks,.one (.ptr id g 0)=>match dA s id g with
  |some ls=>match takes ks ls (s.bQ id true .gone)with
   |some r=>some r
   |none=>none
  |none=>none
 |_,_=>none
def bO:List Sh->List (TV A)->St A->Option (List (KV A)×St A)
 | [],[],s=>some ([],s)
 |sh::aW,v::vs,s=>match cl sh v s with
  |some (x,s1)=>match bO aW vs s1 with
   |some (r,s2)=>some (x++r,s2)
   |none=>none
  |none=>none
 |_,_,_=>none
def Sh.sW:Sh->List K
 | .one k=>[k]
 | .agg ks=>ks
 |_=>[]
def Sh.cells(sh:Sh)(v:TV A):List (Lf A):=
 match sh,v with
 | .one _,.one l=>[l]
 | .one _,_=>[.dead]
 | .agg ks,.agg ls=>bif Nat.beq ls.length ks.length then ls else ks.map fun _=>.dead
 | .agg ks,_=>ks.map fun _=>.dead
 |_,_=>[]
def bH:List Sh->List (TV A)->List (Lf A)
 |sh::aW,v::vs=>sh.cells v++bH aW vs
 |_,_=>[]
def pick{α:Type}:List K->List α->List α
 |k::ks,x::xs=>bif k.k9 then x::pick ks xs else pick ks xs
 |_,_=>[]
def j9(k:K)(l:Lf A)(s:St A):Option (St A):=
  match k with
  | .val _=>some s
  | .arr e cs deep=>bif Nat.ble 1 cs.len then(eJ e cs deep l s).map (·.2)else none
  | .mp _=>none
def jI:List K->List (Lf A)->St A->Option (St A)
 | [],[],s=>some s
 |k::ks,l::ls,s=>
  match j9 k l s with
  |some s1=>jI ks ls s1
  |none=>none
 |_,_,_=>none
def oO(aW:List Sh)(cg:List (TV A))(s:St A):Option (St A):=jI (aW.map Sh.sW).flatten (bH aW cg) s
def ju(k:K)(l:Lf A)(s0 s:St A):Option (KV A):=
 match k with
 | .val t=>(mH t l s).map fun x=>⟨.val t,x⟩
 | .arr e cs deep=>(eJ e cs deep l s0).map fun r=>⟨.arr e cs deep,r.1⟩
 | .mp _=>none
def looks:List K->List (Lf A)->St A->St A->Option (List (KV A))
 | [],[],_,_=>some []
 |k::ks,l::ls,s0,s=>match ju k l s0 s,looks ks ls s0 s with
  |some x,some xs=>some (x::xs)
  |_,_=>none
 |_,_,_,_=>none
def fV(cs:aK)(c:df A)(s:St A):Option (List (KV A)):=
 match c with
 | .ptr id g=>match dA s id g with
  |some ls=>looks cs.ks ls s s
  |none=>none
 | .ro cs' x=>if h:aK.beq cs' cs=true then some (AM cs (A.zV h x))else none
def gh:List aK->List (df A)->St A->Option (List (KV A))
 | [],[],_=>some []
 |cs::nc,c::cc,s=>match fV cs c s,gh nc cc s with
  |some x,some r=>some (x++r)
  |_,_=>none
 |_,_,_=>none
def iC(sh:Sh)(v:TV A)(s0 s:St A):Option (List (KV A)):=
 match sh,v with
 | .ro cs,.one (.ptr id g 0)=>fV cs (.ptr id g) s
 | .ro cs,.one (.ez cs' x 0)=>fV cs (.ro cs' x) s
 | .fn f aM,.one (.fn f' cc)=>bif Nat.beq f f' then gh aM cc s else none
 | .one k,.one l=>looks [k] [l] s0 s
 | .agg ks,.agg ls=>looks ks ls s0 s
 |_,_=>none
def dQ:List Sh->List (TV A)->St A->St A->Option (List (KV A))
 | [],[],_,_=>some []
 |sh::aW,v::vs,s0,s=>match iC sh v s0 s,dQ aW vs s0 s with
  |some x,some r=>some (x++r)
  |_,_=>none
 |_,_,_,_=>none
def K.closed:K->Bool
 | .val t=>(match t with| .sl ..=>false|_=>true)
 | .arr _ cs d=>cs.plain||d
 | .mp _=>false
def Sh.flat:Sh->Bool
 | .one _| .agg _=>true
 |_=>false
def Sh.outs(sh:Sh):List K:=sh.sW.filter K.k9
def iJ:List K->List (Lf A)->List (KV A)->St A->Option (St A)
 | [],[],[],s=>some s
 | .val _::ks,_::ls,vs,s=>iJ ks ls vs s
 | .arr _ _ _::ks,.eU _ _::ls,_::vs,s=>iJ ks ls vs s
 | .arr _ _ _::ks,.ref id _ _ []::ls,⟨.arr e cs deep,x⟩::vs,s=>iJ ks ls vs (s.bQ id true (.arr e cs deep x))
 |_,_,_,_=>none
def jh(aW:List Sh)(cg:List (TV A))(vs:List (KV A))(s:St A):Option (St A):=iJ (aW.map Sh.sW).flatten (bH aW cg) vs s
def dK(id:Nat)(v:KV A)(s:St A):Lf A×St A:=
 match v with
 |⟨.val t,x⟩=>(.val t x,s.new id .gone)
 |⟨.arr e cs deep,x⟩=>(.ref id ((s.ob id).g+1) 0 [],s.new id (.arr e cs deep x))
 |⟨.mp k,x⟩=>(.cV id ((s.ob id).g+1),s.new id (.mp k x))
def eE(id:Nat):List (KV A)->St A->List (Lf A)×St A
 | [],s=>([],s)
 |v::vs,s=>let r:=dK id v s;let q:=eE (id+1) vs r.2;(r.1::q.1,q.2)
def jQ:(cs:aK)->List (KV A)->Option (A.Vs cs)
 | .nil,[]=>some A.nl
 | .cons t ts,⟨.val u,x⟩::r=>if h:Ty.beq u t=true then(jQ ts r).map fun y=>A.cn (A.cast h x) y else none
 |_,_=>none
def dj:List aK->List (KV A)->List (df A)
 | [],_=>[]
 |cs::nc,vs=>match jQ cs (vs.take cs.len)with
  |some x=>.ro cs x::dj nc (vs.drop cs.len)
  |none=>[]
def dL(b:Nat):List Cp->List (KV A)->St A->List (df A)×St A
 | [],_,s=>([],s)
 | .ro cs::r,vs,s=>match jQ cs (vs.take cs.len)with
  |some x=>let q:=dL b r (vs.drop cs.len) s;(.ro cs x::q.1,q.2)
  |none=>([],s)
 | .mu ks::r,vs,s=>
  let a:=eE (b+1) (vs.take ks.length) s;let q:=dL (b+(ks.length+1)) r (vs.drop ks.length) (a.2.new b (.blk a.1))
  (.ptr b ((a.2.ob b).g+1)::q.1,q.2)
def cN(b:Nat)(sh:Sh)(vs:List (KV A))(s:St A):TV A×St A:=
 match sh with
 | .one _=>match vs with
  | [v]=>let r:=dK b v s;(.one r.1,r.2)
  |_=>(.dead,s)
 | .agg _=>let r:=eE b vs s;(.agg r.1,r.2)
 | .blk _=>let r:=eE (b+1) vs s;(.one (.ptr b ((r.2.ob b).g+1) 0),r.2.new b (.blk r.1))
 | .ro cs=>match jQ cs vs with
  |some x=>(.one (.ez cs x 0),s)
  |none=>(.dead,s)
 | .fn f aM=>(.one (.fn f (dj aM vs)),s)
 | .pL f aM=>let q:=dL b aM vs s;(.one (.fn f q.1),q.2)
def Cp.width:Cp->Nat
 | .ro _=>0
 | .mu ks=>ks.length+1
def s9:List Cp->Nat
 | []=>0
 |c::r=>c.width+s9 r
def Sh.width:Sh->Nat
 | .one _=>1
 | .agg ks=>ks.length
 | .blk ks=>ks.length+1
 | .pL _ aM=>s9 aM
 |_=>0
def bE(b:Nat):List Sh->List (KV A)->St A->List (TV A)×St A
 | [],_,s=>([],s)
 |sh::aW,vs,s=>let r:=cN b sh (vs.take sh.ks.length) s;let q:=bE (b+sh.width) aW (vs.drop sh.ks.length) r.2;(r.1::q.1,q.2)
def Bz:List Cp->List (List K)
 | []=>[]
 | .ro _::r=>Bz r
 | .mu ks::r=>ks::Bz r
def ri:List Cp->List (df A)->List (Lf A)
 | .ro _::r,_::cc=>ri r cc
 | .mu _::r,.ptr id g::cc=>.ptr id g 0::ri r cc
 | .mu _::r,.ro _ _::cc=>.dead::ri r cc
 | .ro _::r,[]=>ri r []
 | .mu _::r,[]=>.dead::ri r []
 | [],_=>[]
def Sh.CV:Sh->List (List K)
 | .blk ks=>[ks]
 | .pL _ aM=>Bz aM
 |_=>[]
def eI(aW:List Sh):List (List K):=(aW.map Sh.CV).flatten
def Sh.CW(sh:Sh)(v:TV A):List (Lf A):=
 match sh,v with
 | .blk _,.one l=>[l]
 | .blk _,_=>[.dead]
 | .pL _ aM,.one (.fn _ cc)=>ri aM cc
 | .pL _ aM,_=>ri aM []
 |_,_=>[]
def ct:List Sh->List (TV A)->List (Lf A)
 |sh::aW,v::vs=>sh.CW v++ct aW vs
 |_,_=>[]
def c7:Nat:=1099511627776
def bC(id:Nat):Nat:=c7+id*64
def ir:List (List K)->List (Lf A)->List (KV A)->St A->Option (St A)
 | [],[],[],s=>some s
 |ks::gH,.ptr id _ 0::ls,vs,s=>
  bif Nat.ble (id+1) c7&&(Nat.ble ks.length 64&&Nat.ble ks.length vs.length)then
   ir gH ls (vs.drop ks.length) ((eE (bC id) (vs.take ks.length) s).2.bQ id true (.blk (eE (bC id) (vs.take ks.length) s).1))
  else none
 |_,_,_,_=>none
def apart(b W:Nat):List (Lf A)->Bool
 | []=>true
 | .ptr id _ _::ls=>(Nat.ble (id+1) b||Nat.ble (b+W) id)&&apart b W ls
 |_::_=>false
def ep(look:Bool)(args:List Sh):List K:=bif look then(args.map Sh.outs).flatten else []
def eu:List Sh->Nat
 | []=>0
 |sh::aW=>sh.width+eu aW
abbrev bN:=List (Nat×Sh)
def bN.ks(t:bN):List K:=(t.map (·.2.ks)).flatten
def jc(t:bN)(s:St A):Option (fI A (bN.ks t) × St A):=
  match bO (t.map (·.2)) (t.map fun p=>s.sl p.1) s with
  |some (vs, s1)=>(kE _ vs).map fun x=>(x, s1)
  |none=>none
def hO:List Nat->List (TV A)->St A->St A
 |d::ds,v::vs,s=>hO ds vs (s.set d v)
 |_,_,s=>s
def wB(t:bN)(x:fI A (bN.ks t))(s:St A):St A:=
  let q:=bE 1 (t.map (·.2)) (co _ x) s
  hO (t.map (·.1)) q.1 q.2
def St.start:St A:={ sl:=fun _=>.dead,ob:=fun _=>⟨0,0,.gone⟩ }
def Sh.eN:Sh->Bool
 | .one k=>k.mD
 | .agg ks=>ks.all K.mD
 | .ro _| .fn _ _=>true
 |_=>false
def Sh.qy:Sh->Bool
 | .one _| .agg _| .blk _=>true
 |_=>false
def oP:List Nat->List Nat->Bool
 | [],[]=>true
 |a::as,b::bs=>Nat.beq a b&&oP as bs
 |_,_=>false
theorem qi:∀ {a b:List Nat},oP a b=true->a=b
 | [],[],_=>rfl
 |a::as,b::bs,h=>by simp only[oP,Bool.and_eq_true]at h;rw[Nat.eq_of_beq_eq_true h.1,qi h.2]
 | [],_::_,h=>by cases h
 |_::_,[],h=>by cases h
abbrev bV:=FuncId×List FuncId
def uG(args:List (TV A)):List FuncId:=args.filterMap fun v=>match v with| .one (.fn f _)=>some f|_=>none
def bV.beq(a b:bV):Bool:=Nat.beq a.1 b.1&&oP a.2 b.2
theorem bV.eq_of_beq{a b:bV}(h:bV.beq a b=true):a=b:=by simp only[bV.beq,Bool.and_eq_true]at h;exact Prod.ext (Nat.eq_of_beq_eq_true h.1) (qi h.2)
structure Callee (A:oC) (M:Type) where
 look:Bool
 args:List Sh
 aT:List Sh
 run:fI A ((args.map Sh.ks).flatten)->(fI A ((aT.map Sh.ks).flatten++(ep look args++(eI args).flatten))->M)->M
inductive Ex where
 |normal
 |exit (id:Nat)
 |ret
 deriving DecidableEq
def jL(A:oC):List (Ex×bN)->Type
 | []=>Empty
 |e::es=>fI A (bN.ks e.2)⊕jL A es
def jL.elim{M:Type}:(es:List (Ex×bN))->jL A es->(Ex->(t:bN)->fI A (bN.ks t)->M)->M
 | [],q,_=>Empty.elim q
 |e::es,q,k=>Sum.elim (fun y=>k e.1 e.2 y) (fun q=>jL.elim es q k) q
structure zA (A:oC) (M:Type) where
 keep:bN
 cY:bN
 cI:List (Ex×bN)
 run:fI A (bN.ks keep)->fI A (bN.ks cY)->(Ex->(t:bN)->fI A (bN.ks t)->M)->M
def TV.comp:TV A->Bool×List (Lf A)
 | .one l=>(false,[l])
 | .agg ls=>(true,ls)
 | .nR _| .GR ..=>(false,[.dead])
def TV.mL:List (TV A)->TV A
 | [v]=>v
 |vs=>.nR (vs.map TV.comp)
end Go.R
namespace Go.R
variable {A:oC} {M:Type}
def limit:Int:=1073741824
def kU(C:xO A M)(tb:Bool)(op:BinOp)(x y:Lf A)(k:Lf A->M):M:=
 match x,y with
 | .val (.int a) x,.val (.int b) y=>
  match op with
  | .shl| .shr=>C.cond (A.CK b y) C.fail (k (.val (.int a) (A.shift op a b x y)))
  |op=>
   if h:Ty.beq (.int b) (.int a)=true then
    match op with
    | .add| .sub| .mul| .and| .or| .xor| .andNot=>k (.val (.int a) (A.arith op a x (A.cast h y)))
    | .quo| .rem=>C.cond (A.isZero a (A.cast h y)) C.fail (k (.val (.int a) (A.arith op a x (A.cast h y))))
    |_=>k (.val .bool (A.cmp op a x (A.cast h y)))
   else C.fail
 | .val .bool x,.val .bool y=>
  bif tb then
   match op with
   | .eql=>k (.val .bool (A.BK x y))
   | .neq=>k (.val .bool (A.A6 (A.BK x y)))
   |_=>C.fail
  else C.fail
 | .val .str x,.val .str y=>
  match op with
  | .add=>C.cond (A.CP x y) (k (.val .str (A.EV x y))) C.fail
  | .eql| .neq| .lss| .leq| .gtr| .geq=>k (.val .bool (A.EW op x y))
  |_=>C.fail
 |_,_=>C.fail
def fB(E:Env)(t:Nat):Bool:=
 match E.ti t with
 |some i=>(match i.cs with| .cons .bool .nil=>true|_=>false) && !i.agg
 |none=>false
def kN(E:Env)(t:Nat):Bool:=
 match E.ti t with
 |some i=>(match i.cs with| .cons .str .nil=>true|_=>false) && !i.agg
 |none=>false
def FC:(t:Ty)->A.V t->A.V t->Option (A.V .bool)
 | .int k,x,y=>some (A.cmp .eql k x y)
 | .bool,x,y=>some (A.BK x y)
 |_,_,_=>none
def kJ:aK->List (Lf A)->List (Lf A)->Option (A.V .bool)
 | .nil,[],[]=>some (A.lN true)
 | .cons t ts,.val u x::xs,.val v y::ys=>
  if hu:Ty.beq u t=true then if hv:Ty.beq v t=true then
   match FC t (A.cast hu x) (A.cast hv y),kJ ts xs ys with
   |some b,some r=>some (A.D0 b r)
   |_,_=>none
  else none else none
 |_,_,_=>none
def tD(s:St A)(id g:Nat):Option (Sigma fun k=>A.V (.sl 0 (aK.mp k))):=bif Nat.beq (s.ob id).g g then match(s.ob id).o with| .mp k x=>some ⟨k,x⟩|_=>none else none
def eZ(s:St A):Lf A->Bool
 | .val .. | .eU .. | .ez .. | .fn ..=>true
 | .ref id g h p=>(s.cont id g h p).isSome
 | .ptr id g _=>(dA s id g).isSome
 | .cV id g=>(tD s id g).isSome
 | .cj id g h p _ _=>match s.cont id g h p with
  |some c=>!Nat.beq c.md 0
  |none=>false
 | .Cq .. | .undef| .dead=>false
def cells?(s:St A)(v:TV A):Option (List (Lf A)):=
 match v with
 | .one l=>bif eZ s l then some [l]else none
 | .agg ls=>bif ls.all (eZ s)then some ls else none
 | .nR _| .GR ..=>none
def fP(fQ:List (Nat×Nat×Bool))(E:Env)(s:St A):List (Nat×Operand)->List (Lf A)->Option (List (Lf A))
 | [],cs=>some cs
 |(i,x)::r,cs=>
  match fQ[i]? with
  |some (off,n,_)=>
   match cells? s (ev E s 0 x)with
   |some v=>bif Nat.beq v.length n&&Nat.ble (off+n) cs.length then fP fQ E s r (cs.take off++v++cs.drop (off+n))else none
   |none=>none
  |none=>none
def gv(E:Env)(s0:St A)(e:Nat)(cs:aK):List Operand->A.V (.sl e cs)->St A->Option (A.V (.sl e cs)×St A)
 | [],x,s=>some (x,s)
 |o::os,x,s=>
  match cells? s0 (ev E s0 0 o)with
  |some ls=>match eV false cs ls s with
   |some (el,s1)=>gv E s0 e cs os (A.push x el) s1
   |none=>none
  |none=>none
def fD(E:Env)(s:St A)(n:Nat):List Operand->Option (List (List (Lf A)))
 | []=>some []
 |o::os=>match cells? s (ev E s 0 o),fD E s n os with
  |some ls,some r=>bif Nat.beq ls.length n then some (ls::r)else none
  |_,_=>none
def iw:Nat->List Nat->Bool
 |_,[]=>true
 |m,n::r=>Nat.beq m n&&iw (m+1) r
def wG(s:St A)(id g:Nat)(path:List (A.V (.int .i64)×Nat))(i:A.V (.int .i64))(md:Nat):Nat->(t:Ty)->A.V t->Lf A:=bif Nat.beq md 2 then EQ id g (s.ob id).h path i else u5
def iU(s:St A)(isAgg:Bool)(n:Nat)(p:Lf A):Option (TV A):=
 match p with
 | .ptr id g off=>match dA s id g with
  |some cs=>if off+n<=cs.length then some (TV.mk isAgg ((cs.drop off).take n))else none
  |none=>none
 | .cj id g h path i off=>match s.cont id g h path with
  |some c=>
   bif Nat.beq c.md 0 then none else
   let cells:=unpack (wG s id g path i c.md) c.cs (A.get c.x i) 0;if off+n<=cells.length then some (TV.mk isAgg ((cells.drop off).take n))else none
  |none=>none
 | .ez cs x off=>let cells:=unpack u5 cs x 0;if off+n<=cells.length then some (TV.mk isAgg ((cells.drop off).take n))else none
 |_=>none
def bw(deep:Bool):(cs:aK)->A.Vs cs->Nat->List (Lf A)->St A->Option (A.Vs cs×St A)
 |_,x,_,[],s=>some (x,s)
 |cs,x,j,l::ls,s=>
  match cellAt cs x j with
  |some ⟨t,_⟩=>match bY deep t l s with
   |some (v,s1)=>match setCell cs x j ⟨t,v⟩with
    |some y=>bw deep cs y (j+1) ls s1
    |none=>none
   |none=>none
  |none=>none
def Cy:(cs:aK)->Nat->Nat->Bool
 | .nil,_,_=>false
 | .cons t ts,off,n=>match off,n with
  |0,0=>false
  |0,n+1=>(match t with| .sl ..=>true|_=>false)||Cy ts 0 n
  |off+1,n=>Cy ts off n
def kz(s:St A)(id h e:Nat)(cs:aK)(x:A.V (.sl e cs))(p:List (A.V (.int .i64)×Nat))(i:A.V (.int .i64))(off:Nat)(v:List (Lf A)):Option (St A):=
 bif p.isEmpty||Nat.beq (s.ob id).h h then
  match follow 2 e cs x p with
  |some c=>match takes ((c.cs.kd.drop off).take v.length) v s with
   |some (vs,s1)=>match setRow c.cs (A.get c.x i) off vs with
    |some el=>match putAt c (A.put c.x i el) e cs x p with
     |some x'=>match(s1.ob id).o with
      | .arr ..=>some (s1.bQ id true (.arr e cs true x'))
      |_=>none
     |none=>none
    |none=>none
   |none=>none
  |none=>none
 else none
def hY(s:St A)(p:Lf A)(v:List (Lf A)):Option (St A):=
 match p with
 | .ptr id g off=>match dA s id g with
  |some cs=>if off+v.length<=cs.length then some (s.bQ id true (.blk (cs.take off++v++cs.drop (off+v.length))))else none
  |none=>none
 | .cj id g h p i off=>
  bif Nat.beq (s.ob id).g g then
   match(s.ob id).o with
   | .arr e cs deep x=>
    bif deep then kz s id h e cs x p i off v
    else match p with
     | []=>match bw false cs (A.get x i) off v s with
      |some (el,s1)=>
       match(s1.ob id).o with
       | .arr ..=>some (s1.bQ id true (.arr e cs false (A.put x i el)))
       |_=>none
      |none=>none
     |_::_=>none
   |_=>none
  else none
 |_=>none
def mC:TV A->Option (A.V (.int .i64))
 | .one (.val t x)=>if h:Ty.beq t (.int .i64)=true then some (A.cast h x)else none
 |_=>none
def AG:TV A->Option (Sigma fun k=>A.V (.int k))
 | .one (.val (.int k) x)=>some ⟨k,x⟩
 |_=>none
def pA:TV A->Option (A.V .bool)
 | .one (.val t x)=>if h:Ty.beq t .bool=true then some (A.cast h x)else none
 |_=>none
def Cn:TV A->Option (A.V .str)
 | .one (.val t x)=>if h:Ty.beq t .str=true then some (A.cast h x)else none
 |_=>none
def gz(s:St A):TV A->Option (Cont A)
 | .one (.val (.sl e cs) x)=>some ⟨e,cs,x,0⟩
 | .one (.eU e cs)=>some ⟨e,cs,A.kX e cs,1⟩
 | .one (.ref id g h p)=>s.cont id g h p
 |_=>none
def ar(C:xO A M){α:Type}(o:Option α)(k:α->M):M:=match o with|some x=>k x|none=>C.fail
def gW:Option Operand->Bool
 |some (.const (.int _ n))=>decide (n=0)
 |_=>false
def eY(E:Env)(C:xO A M)(d:Nat)(s:St A)(x:TV A)(c:Cont A)(yl:Bool)(l h:A.V (.int .i64))(k:TV A->St A->M):M:=
 match x with
 | .one (.ref id _ _ [])=>
  bif Nat.beq c.md 0 then k (.one (.val (.sl c.e c.cs) (A.sub c.x l h))) s
  else bif E.trunc d&&yl then
   bif Nat.beq c.md 2 && !c.cs.plain then C.fail else
   let s1:=(s.bQ id true .gone).new (aZ d 0 0) (.arr c.e c.cs (Nat.beq c.md 2) (A.sub c.x l h));k (.one (.ref (aZ d 0 0) ((s1.ob (aZ d 0 0)).g) 0 [])) s1
  else k (.one (.val (.sl c.e c.cs) (A.sub c.x l h))) (s.bQ id true (.cB c.e c.cs c.x))
 | .one (.ref ..)=>C.fail
 |_=>k (.one (.val (.sl c.e c.cs) (A.sub c.x l h))) s
def CL:Option Operand->Bool
 |none=>true
 |x=>gW x
def jy(E:Env)(C:xO A M)(d t:Nat)(s:St A)(x:TV A)(lo hi mx:Option Operand)(k:TV A->St A->M):M:=
 ar C (E.mT t) fun q=>
 ar C (gz s x) fun c=>
 bif Nat.beq q.1 c.e&&aK.beq q.2 c.cs then
  bif gW mx&&(gW hi&&CL lo)then k (.one (.eU c.e c.cs)) s else
  match mx with
  |some _=>C.fail
  |none=>
   ar C (match lo with|some o=>mC (ev E s 0 o)|none=>some (A.yu .i64 0)) fun l=>
   ar C (match hi with|some o=>mC (ev E s 0 o)|none=>some (A.len c.x)) fun h=>C.cond (A.CQ c.x l h) (eY E C d s x c lo.isNone l h k) C.fail
 else C.fail
def gT(s:St A):TV A->Option Nat
 | .one (.ref id g _ [])=>bif Nat.beq (s.ob id).g g then(match(s.ob id).o with| .arr _ _ dp _=>bif dp then some id else none|_=>none)else none
 |_=>none
def tw:TV A->Bool
 | .one (.eU ..)=>true
 |_=>false
def dD(E:Env)(C:xO A M)(d:Nat)(b:Builtin)(fG:List Nat)(args:List (TV A))(s:St A)(k:TV A->St A->M):M:=
 match b,args,fG with
 | .len,[x],[t]=>
  bif kN E t then ar C (Cn x) fun x=>k (.one (.val (.int .i64) (A.DD x))) s
  else ar C (E.mT t) fun _=>ar C (gz s x) fun c=>k (.one (.val (.int .i64) (A.len c.x))) s
 | .min,[x,y],_=>ar C (mC x) fun x=>ar C (mC y) fun y=>k (.one (.val (.int .i64) (A.A5 false .i64 x y))) s
 | .max,[x,y],_=>ar C (mC x) fun x=>ar C (mC y) fun y=>k (.one (.val (.int .i64) (A.A5 true .i64 x y))) s
 | .append,[x,y],[t,t']=>
  ar C (E.mT t) fun q=>
  ar C (E.mT t') fun _=>
  ar C (gz s x) fun cx=>
  ar C (gz s y) fun cy=>
  bif !(Nat.beq q.1 cx.e&&aK.beq q.2 cx.cs)then C.fail else
  match(match x with
    | .one (.eU ..)=>some (s,false)
    | .one (.ref id _ _ [])=>(match cx.md with|0=>none|md=>some (s.bQ id true .gone,Nat.beq md 2))
    |_=>none)with
  |none=>C.fail
  |some (s1,dp)=>
   bif (dp||Nat.beq cy.md 2) && !cx.cs.plain then
    match gT s1 y with
    |some iR=>
     bif dp||tw x then
      if h:Ty.beq (.sl cy.e cy.cs) (.sl cx.e cx.cs)=true then
       let z:=A.cat cx.x (A.cast h cy.x)
       C.cond (A.small z) (let s3:=(s1.bQ iR true .gone).new (aZ d 0 0) (.arr cx.e cx.cs true z);k (.one (.ref (aZ d 0 0) ((s3.ob (aZ d 0 0)).g) 0 [])) s3) C.fail
      else C.fail
     else C.fail
    |none=>C.fail
   else
    let s2:=s1;if h:Ty.beq (.sl cy.e cy.cs) (.sl cx.e cx.cs)=true then
     let z:=A.cat cx.x (A.cast h cy.x)
     C.cond (A.small z) (let s3:=s2.new (aZ d 0 0) (.arr cx.e cx.cs dp z);k (.one (.ref (aZ d 0 0) ((s3.ob (aZ d 0 0)).g) 0 [])) s3) C.fail
    else C.fail
 |_,_,_=>C.fail
def fW(E:Env)(s:St A)(op:BinOp)(t:Nat)(x y:Operand):Option (Lf A):=
 match y with
 | .const (.slice none 0 0)=>
  match E.mT t,gz s (ev E s t x)with
  |some _,some c=>match op with
   | .eql=>some (.Cq (A.cmp .gtr .i64 (A.len c.x) (A.yu .i64 0)) false)
   | .neq=>some (.Cq (A.cmp .gtr .i64 (A.len c.x) (A.yu .i64 0)) true)
   |_=>none
  |_,_=>none
 |_=>none
def oQ:Operand->Operand->Bool
 | .tmp a,.tmp b=>Nat.beq a b
 | .const (.int k a),.const (.int j b)=>decide (k=j)&&decide (a=b)
 |_,_=>false
def uy:TV A->Option (df A)
 | .one (.ptr id g 0)=>some (.ptr id g)
 | .one (.ez cs x 0)=>some (.ro cs x)
 |_=>none
def df.tv:df A->TV A
 | .ptr id g=>.one (.ptr id g 0)
 | .ro cs x=>.one (.ez cs x 0)
def oJ(f:Callee A M):Bool:=Nat.ble (eu f.aT) 2047&&bif f.look then f.aT.all Sh.flat&&((f.args.all fun sh=>sh.eN||sh.flat)&&((f.aT.all fun sh=>sh.ks.all K.closed)&&f.args.all fun sh=>sh.outs.all K.closed))else f.aT.all Sh.qy
def jG(C:xO A M)(f:Callee A M)(d:Nat)(args:List (TV A))(s:St A)(k:TV A->St A->M):M:=
  ar C (oO f.args args s) fun s1=>
  ar C (dQ f.args args s s1) fun vs=>
  ar C (kE _ vs) fun x=>
  f.run x fun y=>
   let n:=(f.aT.map Sh.ks).flatten.length
   ar C (jh f.args args ((co _ y).drop n) s1) fun s2=>
   let q:=bE (aZ d 0 0) f.aT ((co _ y).take n) s2
   k (TV.mL q.1) q.2
structure sQ (A:oC) where
 nb:Nat
 gn:Nat
 id:Nat
 g:Nat
 e:Nat
 cs:aK
 x:A.V (.sl e cs)
 c:Cont A
 path:List (A.V (.int .i64)×Nat)
def iE(nb:Nat)(id g h:Nat)(p:List (A.V (.int .i64)×Nat))(s:St A):Option (TV A×St A×sQ A):=
 match s.cont id g h p with
 |some c=>match(s.ob id).o with
  | .arr e cs true x=>
   bif Nat.beq id nb then none else
   let s1:=(s.bQ id true .gone).new nb (.arr c.e c.cs true c.x)
   some (.one (.ref nb (s1.ob nb).g 0 []),s1,⟨nb,(s1.ob nb).g,id,g,e,cs,x,c,p⟩)
  |_=>none
 |none=>none
def dW(nb:Nat):List Sh->List (TV A)->St A->Option (List (TV A)×St A×sQ A)
 | .one (.arr ..)::_,.one (.ref id g h (st::p))::cg,s=>(iE nb id g h (st::p) s).map fun r=>(r.1::cg,r.2)
 |_::aW,v::cg,s=>(dW nb aW cg s).map fun r=>(v::r.1,r.2)
 |_,_,_=>none
def jw(q:sQ A)(s:St A):Option (St A):=
 match(s.ob q.nb).o with
 | .arr e cs dp y=>
  bif (Nat.beq (s.ob q.id).g q.g&&Nat.beq (s.ob q.nb).g q.gn)&&(Nat.ble 1 q.g&&(dp||cs.plain))then
   if hc:Ty.beq (.sl e cs) (.sl q.c.e q.c.cs)=true then
    match putAt q.c (A.cast hc y) q.e q.cs q.x q.path with
    |some x'=>some ((s.bQ q.nb true .gone).bQ q.id true (.arr q.e q.cs true x'))
    |none=>none
   else none
  else none
 |_=>none
def mj(C:xO A M)(f:Callee A M)(d:Nat)(args:List (TV A))(s:St A)(k:TV A->St A->M):M:=
 bif oJ f then
 bif f.look then
  match dW (aZ d 0 0+2047) f.args args s with
  |some (args',s',q)=>jG C f d args' s' fun v s2=>ar C (jw q s2) fun s3=>k v s3
  |none=>jG C f d args s k
 else
  bif Nat.ble (aZ d 0 0+eu f.aT) c7&&apart (aZ d 0 0) (eu f.aT) (ct f.args args)then
  ar C (bO f.args args s) fun r=>
  ar C (kE _ r.1) fun x=>
  f.run x fun y=>
   let n:=(f.aT.map Sh.ks).flatten.length
   ar C (ir (eI f.args) (ct f.args args) ((co _ y).drop n) r.2) fun s2=>
   let q:=bE (aZ d 0 0) f.aT ((co _ y).take n) s2
   k (TV.mL q.1) q.2
  else C.fail
 else C.fail
def bp(E:Env)(C:xO A M)(Φ:bV -> Option (Callee A M))(o:Oper)(s:St A)(k:St A -> M):M:=
  let d:=o.dst.getD 0;let put (v:TV A) (s:St A):M:=k (s.ck o.dst v);match o.op with
  | .move x| .assign x=>put (ev E s o.type x) s
  | .pick c a b=>ar C (pA (ev E s 4 c)) fun c=>C.cond c (put (ev E s o.type a) s) (put (ev E s o.type b) s)
  | .alloc t=>ar C (E.ti t) fun i=>let s1:=s.new (aZ d 0 0) (.blk (mZ A i.cs)); put (.one (.ptr (aZ d 0 0) (s1.ob (aZ d 0 0)).g 0)) s1
  | .box t x=>ar C (E.ti t) fun i=>ar C (cells? s (ev E s t x)) fun v=>
      bif Nat.beq v.length i.cs.len then
        bif E.ro d then ar C (eV false i.cs v s) fun r=>put (.one (.ez i.cs r.1 0)) r.2
        else let s1:=s.new (aZ d 0 0) (.blk v); put (.one (.ptr (aZ d 0 0) (s1.ob (aZ d 0 0)).g 0)) s1
      else C.fail
  | .build t parts=>ar C (E.ti t) fun i=>bif i.agg then ar C (fP i.fQ E s parts.toList (mZ A i.cs)) fun cs=>put (.agg cs) s else C.fail
  | .buildSlice t n parts=>ar C (E.mT t) fun r=>
      bif Nat.beq parts.toList.length n&&iw 0 (parts.toList.map (·.1))&&decide (n * r.2.len <= 16777216)then
      bif E.deep d then
        ar C (fD E s r.2.len (parts.toList.map (·.2))) fun lss=>
        ar C (takes (lss.map fun _=>r.2.kd).flatten lss.flatten s) fun q=>
        ar C (Cf r.1 r.2 n q.1 (A.kX r.1 r.2)) fun x=>let s1:=q.2.new (aZ d 0 0) (.arr r.1 r.2 true x); put (.one (.ref (aZ d 0 0) (s1.ob (aZ d 0 0)).g 0 [])) s1
      else
      ar C (gv E s r.1 r.2 (parts.toList.map (·.2)) (A.kX r.1 r.2) s) fun q=>let s1:=q.2.new (aZ d 0 0) (.arr r.1 r.2 false q.1); put (.one (.ref (aZ d 0 0) (s1.ob (aZ d 0 0)).g 0 [])) s1
      else C.fail
  | .load t p=>ar C (E.ti t) fun i=>
      match ev E s 0 p with
      | .one l=>ar C (iU s i.agg i.cs.len l) fun v=>put v s
      |_=>C.fail
  | .store t p v=>ar C (E.ti t) fun i=>ar C (cells? s (ev E s t v)) fun v=>
      bif Nat.beq v.length i.cs.len then
        match ev E s 0 p with
        | .one l=>ar C (hY s l v) fun s1=>put .undef s1
        |_=>C.fail
      else C.fail
  | .nilCheck x=>match ev E s 0 x with
      | .one (.ptr id g off)=>ar C (dA s id g) fun _=>put (.one (.ptr id g off)) s
      | .one (.cj id g h p j off)=>ar C (s.cont id g h p) fun c=>bif Nat.beq c.md 0 then C.fail else put (.one (.cj id g h p j off)) s
      | .one (.ez cs y off)=>put (.one (.ez cs y off)) s
      |_=>C.fail
  | .binOp op t x y _=>
      match fW E s op t x y with
      |some l=>put (.one l) s
      |none=>
      match ev E s t x, ev E s t y with
      | .one x, .one y=>kU C (fB E t) op x y fun l=>put (.one l) s
      | .agg xs, .agg ys=>ar C (E.ti t) fun i=>ar C (bif E.E9 t then kJ i.cs xs ys else none) fun b=>
          match op with
          | .eql=>put (.one (.val .bool b)) s
          | .neq=>put (.one (.val .bool (A.A6 b))) s
          |_=>C.fail
      |_, _=>C.fail
  | .unOp op t x=>
      match op, ev E s t x with
      | .not, .one (.val .bool b)=>put (.one (.val .bool (A.A6 b))) s
      | .neg, .one (.val (.int k) x)=>put (.one (.val (.int k) (A.neg k x))) s
      |_, _=>C.fail
  | .convert src dst x=>ar C (E.ti src) fun _=>ar C (E.ti dst) fun i=>
      bif i.agg then C.fail else
      match i.cs, ev E s src x with
      | .cons (.int j) .nil, .one (.val (.int k) x)=>put (.one (.val (.int j) (A.conv k j x))) s
      | .cons .str .nil, y=>ar C (E.mT src) fun q=>ar C (E.ti q.1) fun j=>bif j.agg then C.fail else ar C (gz s y) fun c=>
          bif Nat.beq q.1 c.e&&aK.beq q.2 c.cs then
            if h:Ty.beq (.sl c.e c.cs) (.sl c.e (.cons (.int .u8) .nil)) = true then put (.one (.val .str (A.G6 c.e (A.cast h c.x)))) s else C.fail
          else C.fail
      |_, _=>C.fail
  | .makeFunc (.func f) first captured=>
      bif Nat.beq first.size 0 then
        ar C (captured.toList.mapM fun c=>uy (ev E s 0 c)) fun cc=>put (.one (.fn f cc)) s
      else C.fail
  | .makeMap t r=>ar C (E.mp t) fun k=>
      bif r.isNone then
        let s1:=s.new (aZ d 0 0) (.mp k (A.kX 0 (aK.mp k))); put (.one (.cV (aZ d 0 0) (s1.ob (aZ d 0 0)).g)) s1
      else C.fail
  | .lookup t m x ok=>ar C (E.mp t) fun k=>
      bif ok then C.fail else
      match ev E s t m, ev E s 0 x with
      | .one (.cV id g), .one (.val u x)=>ar C (tD s id g) fun q=>bif decide (q.1 = k)then if h:Ty.beq u (.int q.1) = true then put (.one (.val .bool (A.Ds q.1 q.2 (A.cast h x)))) s else C.fail else C.fail
      |_, _=>C.fail
  | .mapUpdate t m x v=>ar C (E.mp t) fun k=>
      match ev E s t m, ev E s 0 x, pA (ev E s 4 v)with
      | .one (.cV id g), .one (.val u x), some v=>ar C (tD s id g) fun q=>bif decide (q.1 = k)then if h:Ty.beq u (.int q.1) = true then put .undef (s.bQ id true (.mp q.1 (A.Dw q.1 q.2 (A.cast h x) v)))else C.fail else C.fail
      |_, _, _=>C.fail
  | .makeSlice t n c=>ar C (E.mT t) fun r=>
      ar C (mC (ev E s 3 n)) fun n'=>
      bif oQ n c then
        C.cond (A.CO n') (let s1:=s.new (aZ d 0 0) (.arr r.1 r.2 (E.deep d) (A.Gn r.1 n' (fm A r.2))); put (.one (.ref (aZ d 0 0) (s1.ob (aZ d 0 0)).g 0 [])) s1) C.fail
      else C.fail
  | .slice t x lo hi mx=>jy E C d t s (ev E s t x) lo hi mx put
  | .fieldAddr t x f=>ar C (E.ti t) fun i=>ar C (i.fQ[f]?) fun q=>
      bif !i.agg then C.fail else
      match ev E s 0 x with
      | .one (.ptr id g off)=>ar C (dA s id g) fun _=>put (.one (.ptr id g (off + q.1))) s
      | .one (.cj id g h p j off)=>ar C (s.cont id g h p) fun c=>bif Nat.beq c.md 0 then C.fail else put (.one (.cj id g h p j (off + q.1))) s
      | .one (.ez cs y off)=>put (.one (.ez cs y (off + q.1))) s
      |_=>C.fail
  | .field t x f=>ar C (E.ti t) fun i=>ar C (i.fQ[f]?) fun q=>
      bif !i.agg then C.fail else
      match ev E s t x with
      | .agg ls=>bif Nat.ble (q.1 + q.2.1) ls.length then put (TV.mk q.2.2 ((ls.drop q.1).take q.2.1)) s else C.fail
      |_=>C.fail
  | .indexAddr t x i=>
      ar C (mC (ev E s 3 i)) fun i=>ar C (E.mT t) fun q=>
      match ev E s t x with
      | .one (.val (.sl _ cs) x)=>bif aK.beq q.2 cs then C.cond (A.Gd x i) (put (.one (.ez cs (A.get x i) 0)) s) C.fail else C.fail
      | .one (.ref id g h p)=>ar C (s.cont id g h p) fun c=>bif aK.beq q.2 c.cs then C.cond (A.Gd c.x i)
          (bif Nat.beq c.md 0 then put (.one (.ez c.cs (A.get c.x i) 0)) s
            else put (.one (.cj id g h p i 0)) s) C.fail else C.fail
      |_=>C.fail
  | .index t x i=>
      bif kN E t then
      ar C (AG (ev E s 3 i)) fun i=>ar C (Cn (ev E s t x)) fun x=>C.cond (A.sin i.1 x i.2) (put (.one (.val (.int .u8) (A.EY i.1 x i.2))) s) C.fail
      else C.fail
  | .extract t i=>
      match ev E s 0 t with
      | .nR cs=>ar C (cs[i]?) fun c=>put (TV.mk c.1 c.2) s
      |_=>C.fail
  | .call c=>bif Nat.beq c.args.size c.argTypes.size then
      let args:=(c.args.toList.zip c.argTypes.toList).map fun p=>ev E s p.2 p.1;match c.callee with
      | .builtin b=>dD E C d b c.argTypes.toList args s put
      | .value f=>match ev E s 0 f with
        | .one (.fn f cc)=>ar C (Φ (f, uG args)) fun g=>mj C g d (args ++ cc.map df.tv) s put
        |_=>C.fail
      |_=>C.fail
      else C.fail
  |_=>C.fail
def sr(E:Env):Option Nat->Bool
 |none=>true
 |some d=>Nat.ble (d+1) E.nt
abbrev Inl(A:oC)(M:Type):=List (TV A)->St A->(TV A->St A->M)->M
structure Lk (A:oC) (M:Type) where
 lo:Nat->Option (zA A M)
 inl:FuncId->Option (Inl A M)
 peel:Nat->Bool
def stepI(E:Env)(C:xO A M)(Φ:bV->Option (Callee A M))(I:FuncId->Option (Inl A M))(o:Oper)(s:St A)(k:St A->M):M:=
 match o.op with
 | .call c=>match c.callee with
  | .value (.func f)=>match I f with
   |some t=>bif Nat.beq c.args.size c.argTypes.size then t ((c.args.toList.zip c.argTypes.toList).map fun p=>ev E s p.2 p.1) s fun v s1=>k (s1.ck o.dst v)else C.fail
   |none=>bp E C Φ o s k
  |_=>bp E C Φ o s k
 |_=>bp E C Φ o s k
def nJ(E:Env)(C:xO A M)(Φ:bV -> Option (Callee A M))(I:FuncId -> Option (Inl A M))(ops:Array Oper):List Oper -> St A -> (St A -> M) -> M
  | [], s, k=>k s
  |o:: r, s, k=>
    bif sr E o.dst then
    match o.guard with
    |none=>stepI E C Φ I o s fun s1=>nJ E C Φ I ops r s1 k
    |some (j, want)=>
      match(ops[j]?).bind (·.dst)with
      |none=>C.fail
      |some t=>
        match s.sl t with
        | .one (.val .bool b)=>
          let yes (s:St A):M:=stepI E C Φ I o s fun s1=>nJ E C Φ I ops r s1 k;let no (s:St A):M:=nJ E C Φ I ops r (s.ck o.dst .undef) k
          C.cond b
            (let s1:=s.set t (.one (.val .bool (A.lN true))); bif want then yes s1 else no s1)
            (let s1:=s.set t (.one (.val .bool (A.lN false))); bif want then no s1 else yes s1)
        | .one .undef=>nJ E C Φ I ops r (s.ck o.dst .undef) k
        |_=>C.fail
    else C.fail
def ca:Op -> List Operand
  | .move x| .assign x| .box _ x| .load _ x| .nilCheck x| .unOp _ _ x| .convert _ _ x| .fieldAddr _ x _| .field _ x _| .extract x _=>[x]
  | .pick c a b=>[c, a, b]
  | .build _ ps| .buildSlice _ _ ps=>ps.toList.map (·.2)
  | .store _ a v| .binOp _ _ a v _| .makeSlice _ a v| .indexAddr _ a v| .index _ a v=>[a, v]
  | .makeFunc _ _ captured=>captured.toList
  | .lookup _ m x _=>[m, x]
  | .mapUpdate _ m x v=>[m, x, v]
  | .slice _ x l h m=>x:: (l.toList ++ (h.toList ++ m.toList))
  | .call c=>(match c.callee with| .value f=>[f]|_=>[]) ++ c.args.toList
  |_=>[]
def df.bl:df A->List Nat
 | .ptr id _=>[id]
 | .ro _ _=>[]
def Lf.bl:Lf A->List Nat
 | .ref id _ _ _| .ptr id _ _| .cj id _ _ _ _ _| .cV id _=>[id]
 | .fn _ aM=>aM.flatMap df.bl
 |_=>[]
def TV.gB:TV A -> List (Lf A)
  | .one l=>[l]
  | .agg ls=>ls
  | .nR cs=>cs.flatMap (·.2)
  | .GR _ c=>c.2
def TV.bl(v:TV A):List Nat:=v.gB.flatMap Lf.bl
def reach(s:St A)(id:Nat):List Nat:=id::(match(s.ob id).o with| .blk ls=>ls.flatMap Lf.bl|_=>[])
def mN(s:St A):Operand->List Nat
 | .tmp t=>(s.sl t).bl
 |_=>[]
def wv:Op->Bool
 | .move _| .assign _| .pick .. | .extract .. | .field .. | .makeFunc ..=>true
 |_=>false
def l6(s:St A)(o:Oper):List Nat:=bif wv o.op then []else(ca o.op).flatMap fun x=>(mN s x).flatMap (reach s)
def makes:Op->Bool
 | .alloc _| .box _ _| .buildSlice .. | .makeSlice .. | .makeMap .. | .slice ..=>true
 | .call c=>match c.callee with
  | .builtin b=>(match b with| .len| .min| .max=>false|_=>true)
  |_=>true
 |_=>false
def j6(o:Oper)(id:Nat):Bool:=makes o.op&&(Nat.ble (aZ (o.dst.getD 0) 0 0) id&&Nat.ble (id+1) (aZ (o.dst.getD 0) 0 0+2048))
def df.AI:df A->Bool
 | .ptr ..=>true
 | .ro ..=>false
def mX(s:St A)(o:Oper):Bool:=
 match o.op with
 | .call c=>(c.args.toList.any fun x=>match x with
  | .tmp t=>(match s.sl t with| .one (.ptr ..)=>true| .one (.fn _ cc)=>cc.any df.AI|_=>false)
  |_=>false)||(match c.callee with
  | .value (.tmp t)=>(match s.sl t with| .one (.fn _ cc)=>cc.any df.AI|_=>false)
  |_=>false)
 |_=>false
def iZ(acc:List Nat):List Edge->Nat
 | []=>0
 |e::es=>bif Region.binds .any e then Nat.lor (Nat.lor (acc.getD e.on 0) (Nat.shiftLeft 1 e.on)) (iZ acc es)else iZ acc es
def gZ:List Oper->List Nat->List Nat
 | [],acc=>acc
 |o::r,acc=>gZ r (acc++[iZ acc o.after.toList])
def ef(P:List Nat)(i j:Nat):Bool:=Nat.testBit (P.getD i 0) j
def isDst(t:Nat):Option Nat->Bool
 |some d=>Nat.beq d t
 |none=>false
def GB(ops:Array Oper)(o:Oper):Option Nat:=
  match o.guard with
  |some (j, _)=>(ops[j]?).bind (·.dst)
  |none=>none
def kS(ops:Array Oper)(o:Oper):List Nat:=(GB ops o).toList++(ca o.op).filterMap fun| .tmp t=>some t|_=>none
def wrote(P:List Nat)(i t:Nat):Nat->List Oper->Bool
 |_,[]=>true
 |j,o::r=>(!isDst t o.dst||(ef P i j||ef P j i))&&wrote P i t (j+1) r
def alone(i:Nat)(d:Option Nat):Nat->List Oper->Bool
 |_,[]=>true
 |j,o::r=>(Nat.beq i j||(match d with|some t=>!isDst t o.dst|none=>true))&&alone i d (j+1) r
def lW(P:List Nat)(ops:Array Oper):Nat->List Oper->Bool
 |_,[]=>true
 |i,o::r=>(o.after.toList.all fun e=>!Region.binds .any e||Nat.ble (e.on+1) i)&&((kS ops o).all fun t=>wrote P i t 0 ops.toList)&&alone i o.dst 0 ops.toList&&(!makes o.op||o.dst.isSome)&&lW P ops (i+1) r
structure vJ (A:oC) where
 i:Nat
 o:Oper
 s:St A
 s':St A
def xI(s s':St A)(id:Nat):Bool:=Nat.beq (s.ob id).g (s'.ob id).g&&Nat.beq (s.ob id).h (s'.ob id).h
def xJ(a b:vJ A):Bool:=((l6 a.s a.o).all fun id=>xI b.s b.s' id&&(!j6 b.o id&&(!mX b.s b.o||Nat.ble (id+1) c7)))&&Nat.ble (aZ (a.o.dst.getD 0) 0 0+2048) c7
def s6(P:List Nat)(rs:List (vJ A)):Bool:=rs.all fun a=>rs.all fun b=>Nat.beq a.i b.i||(ef P a.i b.i||(ef P b.i a.i||(!(mX a.s a.o&&mX b.s b.o)&&(xJ a b&&xJ b a))))
def k7(E:Env)(C:xO A M)(Φ:bV -> Option (Callee A M))(ops:Array Oper)(P:List Nat):Nat -> List Oper -> List (vJ A) -> St A -> (St A -> M) -> M
  |_, [], rs, s, k=>bif s6 P rs then k s else C.fail
  |i, o:: r, rs, s, k=>
    bif sr E o.dst then
    match o.guard with
    |none=>bp E C Φ o s fun s1=>k7 E C Φ ops P (i + 1) r (⟨i, o, s, s1⟩:: rs) s1 k
    |some (j, want)=>
      match(ops[j]?).bind (·.dst)with
      |none=>C.fail
      |some t=>
        match s.sl t with
        | .one (.val .bool b)=>
          let yes (s:St A):M:=bp E C Φ o s fun s1=>k7 E C Φ ops P (i + 1) r (⟨i, o, s, s1⟩:: rs) s1 k;let no (s:St A):M:=k7 E C Φ ops P (i + 1) r rs (s.ck o.dst .undef) k
          C.cond b
            (let s1:=s.set t (.one (.val .bool (A.lN true))); bif want then yes s1 else no s1)
            (let s1:=s.set t (.one (.val .bool (A.lN false))); bif want then no s1 else yes s1)
        | .one .undef=>k7 E C Φ ops P (i + 1) r rs (s.ck o.dst .undef) k
        |_=>C.fail
    else C.fail
def tI(E:Env)(C:xO A M)(Φ:bV->Option (Callee A M))(ops:Array Oper)(s:St A)(k:St A->M):M:=bif lW (gZ ops.toList []) ops 0 ops.toList then k7 E C Φ ops (gZ ops.toList []) 0 ops.toList [] s k else C.fail
def rootOf(ops:List Oper)(x:Nat):Nat:=
 match ops.find? fun o=>isDst x o.dst with
 |some o=>(match o.op with| .move (.tmp v)| .assign (.tmp v)=>v|_=>x)
 |none=>x
def slicedOf(ops:List Oper):List Nat:=ops.filterMap fun o=>match o.op with
 | .slice _ (.tmp x) _ _ _=>some (rootOf ops x)
 |_=>none
def twiceIn:List Nat->List Nat
 | []=>[]
 |x::r=>bif r.any (Nat.beq x)then x::twiceIn r else twiceIn r
def frz1(s:St A)(t:Nat):St A:=
 match s.sl t with
 | .one (.ref id g _ [])=>bif Nat.beq (s.ob id).g g then(match(s.ob id).o with| .arr e cs _ x=>s.bQ id true (.cB e cs x)|_=>s)else s
 |_=>s
def frz(ops:Array Oper)(s:St A):St A:=(twiceIn (slicedOf ops.toList)).foldl frz1 s
def cP(ds:List Nat):Code->Bool
 | .skip| .exit _| .ret=>true
 | .region _ ops _=>ops.toList.all fun o=>match o.dst with|none=>true|some d=>!ds.any (Nat.beq d)
 | .seq a b| .cond _ a b=>cP ds a&&cP ds b
 | .block _ b| .loop b=>cP ds b
 |_=>false
def noLoop:Code->Bool
 | .loop _=>false
 | .seq a b| .cond _ a b=>noLoop a&&noLoop b
 | .block _ b=>noLoop b
 |_=>true
def exec(E:Env)(C:xO A M)(Φ:bV -> Option (Callee A M))(L:Lk A M):Nat -> Code -> St A -> (Ex -> St A -> M) -> M
  |_, .skip, s, k=>k .normal s
  |_, .region _ ops d, s, k=>bif d then tI E C Φ ops (frz ops s) (k .normal)else nJ E C Φ L.inl ops ops.toList s (k .normal)
  |n, .seq a b, s, k=>exec E C Φ L n a s fun e s1=>match e with
    | .normal=>exec E C Φ L n b s1 k
    |e=>k e s1
  |n, .cond c a b, s, k=>match ev E s 4 c with
    | .one (.Cq x y)=>C.cond x (bif y then exec E C Φ L n a s k else exec E C Φ L n b s k) (C.both (exec E C Φ L n a s k) (exec E C Φ L n b s k))
    |v=>ar C (pA v) fun c=>C.cond c (exec E C Φ L n a s k) (exec E C Φ L n b s k)
  |_, .block i b, s, k=>exec E C Φ L i b s fun e s1=>match e with
    | .exit j=>bif Nat.beq j i then k .normal s1 else k (.exit j) s1
    |e=>k e s1
  |n, .loop c, s, k=>ar C (L.lo n) fun l=>
    bif l.keep.all (fun p=>p.2.eN)&&cP (l.keep.map (·.1)) c then
      let go (s:St A):M:=ar C (jc l.keep s) fun kx=>ar C (jc l.cY kx.2) fun x=>l.run kx.1 x.1 fun e t y=>k e (wB t y (wB _ kx.1 St.start))
      bif L.peel n&&noLoop c then exec E C Φ L n c s fun e s1=>match e with
        | .normal=>go s1
        |e=>k e s1
      else go s
    else C.fail
  |_, .exit i, s, k=>k (.exit i) s
  |_, .ret, s, k=>k .ret s
  |_, _, _, _=>C.fail
end Go.R
namespace Go.R
mutual
def Ty.T:Ty->Type
 | .int _=>Int
 | .bool=>Bool
 | .str=>ByteArray
 | .sl _ cs=>List cs.T
def aK.T:aK->Type
 | .nil=>Unit
 | .cons t ts=>match ts with
  | .nil=>t.T
  | .cons _ _=>t.T×ts.T
end
def kL:{t:Ty}->{ts:aK}->(aK.cons t ts).T->t.T
 |_,.nil,x=>x
 |_,.cons _ _,x=>x.1
def jP:{t:Ty}->{ts:aK}->(aK.cons t ts).T->ts.T
 |_,.nil,_=>()
 |_,.cons _ _,x=>x.2
def kV:{t:Ty}->{ts:aK}->t.T->ts.T->(aK.cons t ts).T
 |_,.nil,x,_=>x
 |_,.cons _ _,x,y=>(x,y)
theorem k8{t:Ty}{ts:aK}(x:t.T)(y:ts.T):kL (kV x y)=x:=by cases ts <;> rfl
theorem lu{t:Ty}{ts:aK}(x:t.T)(y:ts.T):jP (kV x y)=y:=by cases ts <;> rfl
theorem C0{t:Ty}{ts:aK}(x:(aK.cons t ts).T):kV (kL x) (jP x)=x:=by cases ts <;> rfl
mutual
def zT:(t:Ty)->t.T
 | .int _=>(0:Int)
 | .bool=>false
 | .str=>ByteArray.empty
 | .sl _ _=>[]
def lB:(cs:aK)->cs.T
 | .nil=>()
 | .cons t ts=>kV (zT t) (lB ts)
end
def aa(op:BinOp)(k:IntKind)(x y:Int):Int:=
 match op with
 | .add=>k.wrap (x+y)
 | .sub=>k.wrap (x-y)
 | .mul=>k.wrap (x*y)
 | .quo=>k.wrap (x.tdiv y)
 | .rem=>x.tmod y
 | .and=>k.wrap (BitVec.ofInt k.bits x &&& BitVec.ofInt k.bits y).toNat
 | .or=>k.wrap (BitVec.ofInt k.bits x |||BitVec.ofInt k.bits y).toNat
 | .xor=>k.wrap (BitVec.ofInt k.bits x ^^^ BitVec.ofInt k.bits y).toNat
 | .andNot=>k.wrap (BitVec.ofInt k.bits x &&& ~~~BitVec.ofInt k.bits y).toNat
 |_=>0
def ay(op:BinOp)(k:IntKind)(x y:Int):Int:=
 match op with
 | .shl=>k.wrap (x*2 ^ (min y.toNat k.bits))
 |_=>x.fdiv (2 ^ (min y.toNat k.bits))
def af(op:BinOp)(x y:Int):Bool:=
 match op with
 | .eql=>x==y
 | .neq=>x != y
 | .lss=>decide (x<y)
 | .leq=>decide (x<=y)
 | .gtr=>decide (x>y)
 | .geq=>decide (x>=y)
 |_=>false
def sA(op:BinOp)(x y:ByteArray):Bool:=
 match op with
 | .eql=>x.toList==y.toList
 | .neq=>!(x.toList==y.toList)
 | .lss=>Op.bytesLess x.toList y.toList
 | .leq=>Op.bytesLess x.toList y.toList||x.toList==y.toList
 | .gtr=>!(Op.bytesLess x.toList y.toList||x.toList==y.toList)
 | .geq=>!Op.bytesLess x.toList y.toList
 |_=>false
def gk(s:ByteArray)(i:Int):Int:=if h:i.toNat<s.size then((s[i.toNat]'h).toNat:Int)else 0
def az(x:Int):Bool:=decide (x=0)
def cD(x:Int):Bool:=decide (x<0)
def bT(x y:Bool):Bool:=x==y
def DA(k:IntKind)(x:Int):Int:=k.wrap (0-x)
def aq(j:IntKind)(x:Int):Int:=j.wrap x
def bK(b:Bool)(x y:Int):Int:=bif b then(if y>x then y else x)else(if y<x then y else x)
def lU(x:List Int):ByteArray:=x.foldl (fun r n=>r.push (UInt8.ofNat n.toNat)) ByteArray.empty
def nL(x y:ByteArray):Bool:=decide (x.size+y.size<=1073741824)
def kY(x:ByteArray)(i:Int):Bool:=decide (0<=i)&&decide (i<(x.size:Int))
def ai{α:Type}(x:List α):Int:=(x.length:Int)
def aE{α:Type}(x:List α):Bool:=decide ((x.length:Int)<=limit)
def ah{α:Type}(x:List α)(i:Int):Bool:=decide (0<=i)&&decide (i<(x.length:Int))
def ae{α:Type}(z:α)(x:List α)(i:Int):α:=x.getD i.toNat z
def aC{α:Type}(x:List α)(i:Int)(y:α):List α:=x.set i.toNat y
def eR{α:Type}(x:List α)(l h:Int):List α:=(x.drop l.toNat).take (h.toNat-l.toNat)
def cS{α:Type}(x:List α)(l h:Int):Bool:=decide (0<=l)&&(decide (l<=h)&&decide (h<=(x.length:Int)))
def cX{α:Type}(n:Int)(y:α):List α:=List.replicate n.toNat y
def cL(n:Int):Bool:=decide (0<=n)&&decide (n<=limit)
def cw:List (Int×Bool)->Int->Bool
 | [],_=>false
 |y::r,k=>bif k==y.1 then y.2 else cw r k
def eW:List (Int×Bool)->Int->Bool->List (Int×Bool)
 | [],k,v=>[(k,v)]
 |y::r,k,v=>bif k==y.1 then(k,v)::r else y::eW r k v
def real:oC where
 V:=Ty.T
 Vs:=aK.T
 yu _ n:=n
 lN b:=b
 Dr s:=s
 arith op k x y:=aa op k x y
 shift op k _ x y:=ay op k x y
 isZero _ x:=az x
 CK _ x:=cD x
 cmp op _ x y:=af op x y
 BK x y:=bT x y
 A6 x:=Bool.not x
 D0 x y:=Bool.and x y
 neg k x:=DA k x
 conv _ j x:=aq j x
 A5 b _ x y:=bK b x y
 EW op x y:=sA op x y
 EV x y:=ByteArray.append x y
 CP x y:=nL x y
 DD x:=(ByteArray.size x:Int)
 G6 _ x:=lU x
 sin _ x i:=kY x i
 EY _ x i:=gk x i
 kX _ _:=[]
 len x:=ai x
 small x:=aE x
 Gd x i:=ah x i
 get {_ cs} x i:=ae (lB cs) x i
 put x i y:=aC x i y
 push x y:=List.append x [y]
 cat x y:=List.append x y
 sub x l h:=eR x l h
 CQ x l h:=cS x l h
 Gn _ _ n y:=cX n y
 CO n:=cL n
 Ds _ x i:=cw x i
 Dw _ x i v:=eW x i v
 nl:=()
 cn x y:=kV x y
 hd x:=kL x
 tl x:=jP x
noncomputable def both{R:Type}(x y:Option R):Option R:=by classical exact if x=y then x else none
theorem xY{R:Type}{x y:Option R}{r:R}(h:both x y=some r):x=some r/\y=some r:=by
 unfold both at h;split at h
 ·rename_i e;exact⟨h,e▸h⟩
 ·cases h
theorem iK{R:Type}(x:Option R):both x x=x:=by simp[both]
noncomputable def aP(R:Type):xO real (Option R) where
 cond b x y:=bif b then x else y
 both x y:=Go.R.both x y
 fail:=none
abbrev Key:=Nat×List (Nat×Nat)
abbrev aJ:=Nat->Option Key
inductive Md where
 |cB
 |flat (k:Key)
 |deep (k:Key)
def Md.inner:Md->Nat->Nat->Md
 | .deep k,i,j=>.deep (k.1,k.2++[(i,j)])
 |_,_,_=>.cB
def Md.has:Md->Key->Prop
 | .cB,_=>False
 | .flat k,k'=>k'=k
 | .deep k,k'=>k'.1=k.1/\k.2 <+: k'.2
theorem Md.rW{md:Md}{i j:Nat}{k:Key}(h:(md.inner i j).has k):md.has k:=by
 cases md with
 |cB=>exact h
 |flat _=>exact h.elim
 |deep k'=>exact⟨h.1,(List.prefix_append _ _).trans h.2⟩
def Hd(w:World)(ω:aJ)(e:Nat)(sz:Nat)(md:Md)(a:Option Addr)(n c:Nat):Prop:=
 match md with
 | .cB=>0<n->∃b off,a=some ⟨b,off,none⟩/\ω b=none/\b<w.heap.size
 | .flat k| .deep k=>(c=0/\n=0)\/∃b arr,a=some ⟨b,0,none⟩/\w.heap[b]? = some (.cells arr e (0,0))/\arr.size=c*sz/\ω b=some k
mutual
def Ty.R(w:World)(ω:aJ):(t:Ty)->Md->Value->t.T->Prop
 | .int k,_,v,x=>v=.int k x
 | .bool,_,v,x=>v=.bool x
 | .str,_,v,x=>v=.string x
 | .sl e cs,md,v,x=>∃a n c,v=.slice a n c/\List.length x=n/\n<=c/\Hd w ω e cs.len md a n c /\
   ∀(i:Nat) (ad:Addr),i<n->a=some ad->aK.R w ω cs (md.inner i) (fun j=>w.cell? ⟨ad.block,ad.off+i*cs.len+j,none⟩) 0 (List.getD x i (lB cs))
def aK.R(w:World)(ω:aJ):(cs:aK)->(Nat->Md)->(Nat->Option Value)->Nat->cs.T->Prop
 | .nil,_,_,_,_=>True
 | .cons t ts,md,get,j,x=>(∃v,get j=some v/\t.R w ω (md j) v (kL x))/\aK.R w ω ts md get (j+1) (jP x)
end
theorem bB{w:World}{b:Nat}{o:Obj}(h:w.heap[b]? = some o):b<w.heap.size:=(Array.getElem?_eq_some_iff.1 h).1
theorem fz{w w':World}{a:Addr}(h:w'.heap[a.block]? = w.heap[a.block]?):w'.cell? a=w.cell? a:=by unfold World.cell?;rw[h]
def mc(w:World)(ω:aJ)(w':World)(aI:aJ)(md:Md):Prop:=∀b,b<w.heap.size->(ω b=none\/∃k,ω b=some k/\md.has k)->w'.heap[b]? = w.heap[b]? /\ aI b=ω b
theorem mc.inner{w w':World}{ω aI:aJ}{md:Md}(h:mc w ω w' aI md)(i j:Nat):mc w ω w' aI (md.inner i j):=fun b hb hk=>h b hb (hk.imp id fun⟨k,h1,h2⟩=>⟨k,h1,Md.rW h2⟩)
theorem Hd.frame{w w':World}{ω aI:aJ}{e sz:Nat}{md:Md}{a:Option Addr}{n c:Nat}(hs:w.heap.size<=w'.heap.size)(H:mc w ω w' aI md)(h:Hd w ω e sz md a n c):Hd w' aI e sz md a n c:=by
 cases md with
 |cB=>intro hn;obtain⟨b,off,h1,h2,h3⟩:=h hn;exact⟨b,off,h1,(H b h3 (.inl h2)).2.trans h2,Nat.lt_of_lt_of_le h3 hs⟩
 |flat k=>
  rcases h with h|⟨b,arr,h1,h2,h3,h4⟩
  ·exact .inl h
  ·have:=H b (bB h2) (.inr ⟨k,h4,rfl⟩);exact .inr ⟨b,arr,h1,this.1.trans h2,h3,this.2.trans h4⟩
 |deep k=>
  rcases h with h|⟨b,arr,h1,h2,h3,h4⟩
  ·exact .inl h
  ·have:=H b (bB h2) (.inr ⟨k,h4,rfl,List.prefix_refl _⟩);exact .inr ⟨b,arr,h1,this.1.trans h2,h3,this.2.trans h4⟩
theorem Hd.block{w:World}{ω:aJ}{e sz:Nat}{md:Md}{a:Option Addr}{n c:Nat}(h:Hd w ω e sz md a n c)(hn:0<n):
  ∃b off,a=some ⟨b,off,none⟩/\b<w.heap.size/\(ω b=none\/∃k,ω b=some k/\md.has k):=by
 cases md with
 |cB=>obtain⟨b,off,h1,h2,h3⟩:=h hn;exact⟨b,off,h1,h3,.inl h2⟩
 |flat k=>
  rcases h with h|⟨b,arr,h1,h2,h3,h4⟩
  ·omega
  ·exact⟨b,0,h1,bB h2,.inr ⟨k,h4,rfl⟩⟩
 |deep k=>
  rcases h with h|⟨b,arr,h1,h2,h3,h4⟩
  ·omega
  ·exact⟨b,0,h1,bB h2,.inr ⟨k,h4,rfl,List.prefix_refl _⟩⟩
mutual
theorem Ty.cG{w w':World}{ω aI:aJ}(hs:w.heap.size<=w'.heap.size):∀(t:Ty) (md:Md) (v:Value) (x:t.T),mc w ω w' aI md->t.R w ω md v x->t.R w' aI md v x
 | .int _,_,_,_,_,h=>h
 | .bool,_,_,_,_,h=>h
 | .str,_,_,_,_,h=>h
 | .sl e cs,md,v,x,H,h=>by
  obtain⟨a,n,c,h1,h2,h3,h4,h5⟩:=h;refine⟨a,n,c,h1,h2,h3,h4.frame hs H,fun i ad hi ha=>?_⟩;obtain⟨b,off,e1,e2,e3⟩:=h4.block (by omega);have hb:ad.block=b:=by rw[e1]at ha;injection ha with ha;rw[<-ha]
  exact aK.cG hs cs _ _ _ 0 _ (fun j=>H.inner i j) (fun j=>by have:=(H b e2 e3).1;exact fz (a:=⟨ad.block,_,none⟩) (by simpa[hb] using this)) (h5 i ad hi ha)
theorem aK.cG{w w':World}{ω aI:aJ}(hs:w.heap.size<=w'.heap.size):∀(cs:aK) (md:Nat->Md) (g g':Nat->Option Value) (j:Nat) (x:cs.T),(∀j,mc w ω w' aI (md j))->(∀j,g' j=g j)->cs.R w ω md g j x->cs.R w' aI md g' j x
 | .nil,_,_,_,_,_,_,_,_=>trivial
 | .cons t ts,md,g,g',j,x,H,hg,h=>by obtain⟨⟨v,h1,h2⟩,h3⟩:=h;exact⟨⟨v,(hg j).trans h1,Ty.cG hs t (md j) v _ (H j) h2⟩,aK.cG hs ts md g g' (j+1) _ H hg h3⟩
end
end Go.R
namespace Go.R
variable {H:Nat->Value}
def bj{α β:Type}(r:α->β->Prop):List α->List β->Prop
 | [],[]=>True
 |a::as,b::bs=>r a b/\bj r as bs
 |_,_=>False
theorem bj.length{α β:Type}{r:α->β->Prop}:∀ {as:List α} {bs:List β},bj r as bs->as.length=bs.length
 | [],[],_=>rfl
 |_::_,_::_,h=>by simp[bj.length h.2]
 | [],_::_,h=>h.elim
 |_::_,[],h=>h.elim
theorem bj.mono{α β:Type}{r r':α->β->Prop}(hr:∀a b,r a b->r' a b):∀ {as:List α} {bs:List β},bj r as bs->bj r' as bs
 | [],[],_=>trivial
 |_::_,_::_,h=>⟨hr _ _ h.1,bj.mono hr h.2⟩
 | [],_::_,h=>h.elim
 |_::_,[],h=>h.elim
theorem bj.get{α β:Type}{r:α->β->Prop}:∀ {as:List α} {bs:List β},bj r as bs->∀(i:Nat) (b:β),bs[i]? = some b->∃a,as[i]? = some a/\r a b
 | [],[],_,i,b,hi=>by simp at hi
 |a::_,b::_,h,0,_,hi=>by simp at hi;subst hi;exact⟨a,rfl,h.1⟩
 |_::_,_::_,h,i+1,b,hi=>by simpa using bj.get h.2 i b (by simpa using hi)
 | [],_::_,h,_,_,_=>h.elim
 |_::_,[],h,_,_,_=>h.elim
theorem bj.iB{α β:Type}{r:α->β->Prop}:∀ {as:List α} {bs:List β} {cs:List α} {ds:List β},bj r as bs->bj r cs ds->bj r (as++cs) (bs++ds)
 | [],[],_,_,_,h=>h
 |_::_,_::_,_,_,h,h'=>⟨h.1,bj.iB h.2 h'⟩
 | [],_::_,_,_,h,_=>h.elim
 |_::_,[],_,_,h,_=>h.elim
theorem bj.take{α β:Type}{r:α->β->Prop}:∀ {as:List α} {bs:List β} (n:Nat),bj r as bs->bj r (as.take n) (bs.take n)
 | [],[],n,_=>by simp[bj]
 |_::_,_::_,0,_=>trivial
 |_::_,_::_,n+1,h=>⟨h.1,bj.take n h.2⟩
 | [],_::_,_,h=>h.elim
 |_::_,[],_,h=>h.elim
theorem bj.drop{α β:Type}{r:α->β->Prop}:∀ {as:List α} {bs:List β} (n:Nat),bj r as bs->bj r (as.drop n) (bs.drop n)
 | [],[],n,_=>by simp[bj]
 |_::_,_::_,0,h=>h
 |_::_,_::_,n+1,h=>bj.drop n h.2
 | [],_::_,_,h=>h.elim
 |_::_,[],_,h=>h.elim
theorem bj.Ge{α β γ:Type}{r:α->β->Prop}(f:γ->β):∀ {as:List α} {cs:List γ},bj r as (cs.map f)↔bj (fun a c=>r a (f c)) as cs
 | [],[]=>Iff.rfl
 |_::_,_::_=>and_congr Iff.rfl (bj.Ge f)
 | [],_::_=>Iff.rfl
 |_::_,[]=>Iff.rfl
abbrev L:=Lf real
abbrev S:=St real
abbrev cm:=TV real
abbrev IV:=real.V (.int .i64)
def IV.i(x:IV):Int:=x
abbrev jR:=List (IV×Nat)
def bG(p:jR):List (Nat×Nat):=p.map fun q=>(q.1.i.toNat,q.2)
def bk(md id:Nat)(p:jR):Md:=
 match md with
 |0=>.cB
 |1=>.flat (id,[])
 |_=>.deep (id,bG p)
def iH(w:World)(ω:aJ)(v:Value)(cs:aK)(x:cs.T)(off:Nat):Prop:=∃b o,ω b=none/\b<w.heap.size/\v=.pointer (some ⟨b,o+off,none⟩)/\cs.R w ω (fun _=>.cB) (fun j=>w.cell? ⟨b,o+j,none⟩) 0 x
def xR(ω:aJ)(s:S)(v:Value)(id g off:Nat):Prop:=g<=(s.ob id).g/\((s.ob id).g=g->∀cells,(s.ob id).o=.blk cells->∃b,ω b=some (id,[])/\v=.pointer (some ⟨b,off,none⟩))
def gC(w:World)(ω:aJ)(s:S)(v:Value):df real->Prop
 | .ptr id g=>xR ω s v id g 0
 | .ro cs x=>iH w ω v cs x 0
def zD(k:IntKind)(es:List MapEntry)(x:List (Int×Bool)):Prop:=bj (fun(e:MapEntry) (y:Int×Bool)=>e.key=.int k y.1/\e.val=.bool y.2) es x
def rG(w:World)(ω:aJ)(s:S)(v:Value)(id g:Nat):Prop:=g<=(s.ob id).g/\((s.ob id).g=g->∀k x,(s.ob id).o=.mp k x->∃b es c,ω b=some (id,[])/\v=.map (some b)/\w.heap[b]? = some (.map es c)/\zD k es.toList x)
def cA(w:World)(ω:aJ)(s:S)(v:Value):L->Prop
 | .val t x=>t.R w ω .cB v x
 | .eU _ _=>∃a,v=.slice a 0 0
 | .ref id g h p=>g<=(s.ob id).g/\h<=(s.ob id).h+(if g=(s.ob id).g then 0 else h) /\
   ∀c,s.cont id g h p=some c->(Ty.sl c.e c.cs).R w ω (bk c.md id p) v c.x
 | .ptr id g off=>xR ω s v id g off
 | .cj id g h p i off=>g<=(s.ob id).g/\h<=(s.ob id).h+(if g=(s.ob id).g then 0 else h) /\
   ∀c,s.cont id g h p=some c->c.md≠0->0<=IV.i i/\IV.i i<(List.length c.x:Int)/\(∃b,ω b=some (id,bG p)/\v=.pointer (some ⟨b,(IV.i i).toNat*c.cs.len+off,none⟩)) /\
   ∃v',(Ty.sl c.e c.cs).R w ω (bk c.md id p) v' c.x
 | .ez cs x off=>iH w ω v cs x off
 | .cV id g=>rG w ω s v id g
 | .fn f aM=>∃cv:List Value,v=.func (.func f) #[] cv.toArray/\bj (fun v c=>gC w ω s v c) cv aM
 | .Cq x y=>∃b:Bool,v=.bool b/\((x:Bool)=true->b=y)
 | .undef=>v=undef
 | .dead=>True
def nV(w:World)(ω:aJ)(s:S)(v:Value)(c:Bool×List L):Prop:=
 match c with
 |(true,ls)=>∃us:List Value,v=.agg us.toArray/\bj (cA w ω s) us ls
 |(false,ls)=>∀l,ls=[l]->cA w ω s v l
def dh(H:Nat->Value)(w:World)(ω:aJ)(s:S)(v:Value):cm->Prop
 | .one l=>cA w ω s v l
 | .agg ls=>∃us:List Value,v=.agg us.toArray/\bj (cA w ω s) us ls
 | .nR cs=>∃us:List Value,v=.tuple us.toArray/\bj (nV w ω s) us cs
 | .GR i c=>nV w ω s (H i) c
def xQ(w:World)(ω:aJ):Prop:=∀q∈Co,q.1<w.heap.size/\ω q.1=none/\∃T m,w.heap[q.1]? = some (.cells q.2 T m)
structure Rel (H:Nat->Value) (ω:aJ) (a:Act) (w:World) (s:S):Prop where
 dP:xQ w ω
 inj:∀b b' k,ω b=some k->ω b'=some k->b=b'
 dom:∀b k,ω b=some k->b<w.heap.size
 defers:a.defers=[]
 slots:∀i,dh H w ω s (a.tmps.getD i undef) (s.sl i)
 dR:(s.ob 0).o=.gone
 dB:∀id cells,(s.ob id).o=.blk cells->∃b arr T,ω b=some (id,[])/\w.heap[b]? = some (.cells arr T (0,0))/\bj (cA w ω s) arr.toList cells
def jV(ω:aJ)(b:Nat):Prop:=ω b=none\/∃q,ω b=some (0,q)
theorem jV.ne{ω:aJ}{b id:Nat}{q:List (Nat×Nat)}(h:jV ω b)(hb:ω b=some (id,q))(h0:id≠0):False:=by
 rcases h with h|⟨q',h⟩
 ·rw[hb]at h;cases h
 ·rw[hb]at h;injection h with h;injection h with h _;exact h0 h
structure dr (ω:aJ) (w:World) (aI:aJ) (w':World):Prop where
 os:w'.os=w.os
 tape:w'.tape=w.tape
 output:w'.output=w.output
 size:w.heap.size<=w'.heap.size
 block:∀b,b<w.heap.size->jV ω b->w'.heap[b]? = w.heap[b]? /\ aI b=ω b
theorem dr.refl(ω:aJ)(w:World):dr ω w ω w:=⟨rfl,rfl,rfl,Nat.le_refl _,fun _ _ _=>⟨rfl,rfl⟩⟩
theorem dr.trans{ω aI bR:aJ}{w w' w'':World}(h:dr ω w aI w')(h':dr aI w' bR w''):dr ω w bR w'':=
 ⟨h'.os.trans h.os,h'.tape.trans h.tape,h'.output.trans h.output,Nat.le_trans h.size h'.size,fun b hb hn=>
  have h1:=h.block b hb hn;have h2:=h'.block b (Nat.lt_of_lt_of_le hb h.size) (by unfold jV at hn⊢;rw[h1.2];exact hn)
  ⟨h2.1.trans h1.1,h2.2.trans h1.2⟩⟩
theorem xQ.ext{ω aI:aJ}{w w':World}(h:xQ w ω)(he:dr ω w aI w'):xQ w' aI:=fun q hq=>by obtain⟨h1,h2,T,m,h3⟩:=h q hq;obtain⟨e1,e2⟩:=he.block q.1 h1 (.inl h2);exact⟨Nat.lt_of_lt_of_le h1 he.size,e2.trans h2,T,m,e1.trans h3⟩
theorem Fa{ω:aJ}{w:World}(h:Co=[]):xQ w ω:=fun q hq=>by rw[h]at hq;cases hq
theorem xQ.own{ω aI:aJ}{w:World}(h:xQ w ω)(he:∀b,ω b=none->aI b=none):xQ w aI:=fun q hq=>⟨(h q hq).1,he _ (h q hq).2.1,(h q hq).2.2⟩
theorem dr.keeps{ω aI:aJ}{w w':World}(h:dr ω w aI w'):mc w ω w' aI .cB:=by
 intro b hb hk;rcases hk with hk|⟨k,_,hk⟩
 ·exact h.block b hb (.inl hk)
 ·exact hk.elim
theorem iH.ext{ω aI:aJ}{w w':World}(h:dr ω w aI w'){v:Value}{cs:aK}{x:cs.T}{off:Nat}(hr:iH w ω v cs x off):iH w' aI v cs x off:=by obtain⟨b,o,h1,h2,h3,h4⟩:=hr;have hb:=h.block b h2 (.inl h1);exact⟨b,o,hb.2.trans h1,Nat.lt_of_lt_of_le h2 h.size,h3,aK.cG h.size cs _ _ _ 0 _ (fun _=>h.keeps) (fun j=>fz (a:=⟨b,o+j,none⟩) hb.1) h4⟩
structure gq (w:World) (ω:aJ) (s:S) (w':World) (aI:aJ) (s':S) (id:Nat):Prop where
 ob:s'.ob id=s.ob id
 block:∀b k,b<w.heap.size->ω b=some k->k.1=id->w'.heap[b]? = w.heap[b]? /\ aI b=ω b
def dx(s s':S)(id:Nat):Prop:=(s.ob id).g<(s'.ob id).g
theorem gq.cont{w w':World}{ω aI:aJ}{s s':S}{id:Nat}(h:gq w ω s w' aI s' id)(g hh:Nat)(p:jR):s'.cont id g hh p=s.cont id g hh p:=by unfold St.cont;rw[h.ob]
theorem wy(md id:Nat)(p:jR)(k:Key)(h:(bk md id p).has k):k.1=id:=by
 unfold bk at h;split at h
 ·exact h.elim
 ·have:k=(id,[]):=h;rw[this]
 ·exact h.1
theorem gq.keeps{w w':World}{ω aI:aJ}{s s':S}{id:Nat}(h:gq w ω s w' aI s' id)(he:dr ω w aI w')(md:Nat)(p:jR):mc w ω w' aI (bk md id p):=by
 intro b hb hk;rcases hk with hk|⟨k,h1,h2⟩
 ·exact he.block b hb (.inl hk)
 ·exact h.block b k hb h1 (wy _ _ _ _ h2)
structure Tr (w:World) (ω:aJ) (s:S) (w':World) (aI:aJ) (s':S) (id:Nat):Prop where
 ref:∀v g h p,cA w ω s v (.ref id g h p)->cA w' aI s' v (.ref id g h p)
 ptr:∀v g off,xR ω s v id g off->xR aI s' v id g off
 cj:∀v g h p i off,cA w ω s v (.cj id g h p i off)->cA w' aI s' v (.cj id g h p i off)
 cV:∀v g,rG w ω s v id g->rG w' aI s' v id g
theorem St.pF{s s':S}{id:Nat}(hn:dx s s' id){g:Nat}(hg:g<=(s.ob id).g)(h:Nat)(p:jR):s'.cont id g h p=none:=by
 unfold St.cont;have:Nat.beq (s'.ob id).g g=false:=by rw[Bool.eq_false_iff];intro e;have:=Nat.eq_of_beq_eq_true e;unfold dx at hn;omega
 rw[this];rfl
theorem gq.tr{w w':World}{ω aI:aJ}{s s':S}{id:Nat}(hi:gq w ω s w' aI s' id)(he:dr ω w aI w')(hd:∀b k,ω b=some k->b<w.heap.size):Tr w ω s w' aI s' id where
 ref v g hh p h:=by refine⟨by rw[hi.ob];exact h.1,by rw[hi.ob];exact h.2.1,fun c hc=>?_⟩;rw[hi.cont]at hc;exact Ty.cG he.size _ _ _ _ (hi.keeps he _ _) (h.2.2 c hc)
 ptr v g off h:=by refine⟨by rw[hi.ob];exact h.1,fun hg cells hc=>?_⟩;rw[hi.ob]at hg hc;obtain⟨b,h1,h2⟩:=h.2 hg cells hc;exact⟨b,(hi.block b _ (hd b _ h1) h1 rfl).2.trans h1,h2⟩
 cj v g hh p i off h:=by refine⟨by rw[hi.ob];exact h.1,by rw[hi.ob];exact h.2.1,fun c hc hm=>?_⟩;rw[hi.cont]at hc;obtain⟨h1,h2,⟨b,h3,h4⟩,v',h5⟩:=h.2.2 c hc hm;exact⟨h1,h2,⟨b,(hi.block b _ (hd b _ h3) h3 rfl).2.trans h3,h4⟩,v',Ty.cG he.size _ _ _ _ (hi.keeps he _ _) h5⟩
 cV v g h:=by refine⟨by rw[hi.ob];exact h.1,fun hg k x hc=>?_⟩;rw[hi.ob]at hg hc;obtain⟨b,es,c,h1,h2,h3,h4⟩:=h.2 hg k x hc;have hb:=hi.block b _ (hd b _ h1) h1 rfl;exact⟨b,es,c,hb.2.trans h1,h2,hb.1.trans h3,h4⟩
theorem rG.shut{w w':World}{ω aI:aJ}{s s':S}{v:Value}{id g:Nat}(h:rG w ω s v id g)(hg:(s'.ob id).g=(s.ob id).g)(ho:∀k x,(s'.ob id).o≠.mp k x):rG w' aI s' v id g:=⟨by rw[hg];exact h.1,fun _ k x hc=>absurd hc (ho k x)⟩
theorem dx.tr{w w':World}{ω aI:aJ}{s s':S}{id:Nat}(hi:dx s s' id):Tr w ω s w' aI s' id where
 ref v g hh p h:=by have h1:=h.1;have hi':=hi;unfold dx at hi';refine⟨by omega,by split <;> omega,fun c hc=>?_⟩;rw[St.pF hi h1]at hc;cases hc
 ptr v g off h:=by have:=h.1;have hi':=hi;unfold dx at hi';exact⟨by omega,fun hg=>by omega⟩
 cj v g hh p i off h:=by have h1:=h.1;have hi':=hi;unfold dx at hi';refine⟨by omega,by split <;> omega,fun c hc=>?_⟩;rw[St.pF hi h1]at hc;cases hc
 cV v g h:=by have:=h.1;have hi':=hi;unfold dx at hi';exact⟨by omega,fun hg=>by omega⟩
section
variable {w w':World} {ω aI:aJ} {s s':S} (he:dr ω w aI w') (ht:∀id,Tr w ω s w' aI s' id)
include he ht
theorem gC.frame{v:Value}:∀ {c:df real},gC w ω s v c->gC w' aI s' v c
 | .ptr id _,h=>(ht id).ptr _ _ _ h
 | .ro _ _,h=>iH.ext he h
theorem cA.frame{v:Value}:∀ {l:L},cA w ω s v l->cA w' aI s' v l
 | .val t x,h=>Ty.cG he.size t .cB v x he.keeps h
 | .eU _ _,h=>h
 | .ref id _ _ _,h=>(ht id).ref _ _ _ _ h
 | .ptr id _ _,h=>(ht id).ptr _ _ _ h
 | .cj id _ _ _ _ _,h=>(ht id).cj _ _ _ _ _ _ h
 | .ez _ _ _,h=>iH.ext he h
 | .cV id _,h=>(ht id).cV _ _ h
 | .fn _ _,h=>by obtain⟨cv,h1,h2⟩:=h;exact⟨cv,h1,h2.mono fun _ _ hc=>gC.frame he ht hc⟩
 | .Cq _ _,h=>h
 | .undef,h=>h
 | .dead,_=>trivial
theorem nV.frame{v:Value}:∀ {c:Bool×List L},nV w ω s v c->nV w' aI s' v c
 |(true,_),⟨us,h1,h2⟩=>⟨us,h1,h2.mono fun _ _ hc=>cA.frame he ht hc⟩
 |(false,_),h=>fun l hl=>cA.frame he ht (h l hl)
theorem dh.frame{v:Value}:∀ {t:cm},dh H w ω s v t->dh H w' aI s' v t
 | .one _,h=>cA.frame he ht h
 | .agg _,⟨us,h1,h2⟩=>⟨us,h1,h2.mono fun _ _ hc=>cA.frame he ht hc⟩
 | .nR _,⟨us,h1,h2⟩=>⟨us,h1,h2.mono fun _ _ hc=>nV.frame he ht hc⟩
 | .GR _ _,h=>nV.frame he ht h
end
end Go.R
namespace Go.R
variable {H:Nat->Value}
theorem dm(d c j:Nat):aZ d c j≠0:=Nat.succ_ne_zero _
theorem Rel.qj{ω:aJ}{a:Act}{w:World}{s:S}(h:Rel H ω a w s){id:Nat}(ho:(s.ob id).o≠.gone):id≠0:=fun e=>ho (by rw[e];exact h.dR)
theorem fY(n:Nat):Nat.beq n n=true:=Nat.beq_refl n
theorem lD{m n:Nat}(h:m≠n):Nat.beq m n=false:=by rw[Bool.eq_false_iff];exact fun e=>h (Nat.eq_of_beq_eq_true e)
theorem St.aY(s:S)(id:Nat)(o:fX real):(s.zm id o).ob id=o:=by simp[St.zm]
theorem St.bD(s:S){id j:Nat}(o:fX real)(h:j≠id):(s.zm id o).ob j=s.ob j:=by simp[St.zm,lD h]
theorem St.iz(s:S)(d:Nat)(v:cm):(s.set d v).sl d=v:=by simp[St.set]
theorem St.kT(s:S){d j:Nat}(v:cm)(h:j≠d):(s.set d v).sl j=s.sl j:=by simp[St.set,lD h]
theorem Tr.mM{w:World}{ω:aJ}{s s':S}{id:Nat}(hd:∀b k,ω b=some k->b<w.heap.size)(h:s'.ob id=s.ob id):Tr w ω s w ω s' id:=gq.tr ⟨h,fun _ _ _ _ _=>⟨rfl,rfl⟩⟩ (dr.refl _ _) hd
theorem Rel.set{ω:aJ}{a:Act}{w:World}{s:S}(h:Rel H ω a w s){d:Nat}(hd:d<a.tmps.size){v:Value}{t:cm}(ht:dh H w ω s v t):Rel H ω (a.put (some d) v) w (s.set d t) where
 dP:=h.dP
 inj:=h.inj
 dom:=h.dom
 defers:=h.defers
 dR:=h.dR
 slots i:=by
  have tr:∀id,Tr w ω s w ω (s.set d t) id:=fun id=>Tr.mM h.dom rfl;by_cases e:i=d
  ·subst e;rw[St.iz];have:(a.put (some i) v).tmps.getD i undef=v:=by simp[Act.put,Array.getD_eq_getD_getElem?,hd]
   rw[this];exact dh.frame (dr.refl _ _) tr ht
  ·rw[St.kT _ _ e];have:(a.put (some d) v).tmps.getD i undef=a.tmps.getD i undef:=by simp[Act.put,Array.getD_eq_getD_getElem?,Array.getElem?_setIfInBounds_ne (Ne.symm e)]
   rw[this];exact dh.frame (dr.refl _ _) tr (h.slots i)
 dB id cells hc:=by obtain⟨b,arr,T,h1,h2,h3⟩:=h.dB id cells hc;exact⟨b,arr,T,h1,h2,h3.mono fun _ _ hl=>cA.frame (dr.refl _ _) (fun id=>Tr.mM h.dom rfl) hl⟩
theorem Rel.world{ω:aJ}{a:Act}{w w':World}{s:S}(h:Rel H ω a w s)(he:dr ω w ω w')(hb:∀b,b<w.heap.size->w'.heap[b]? = w.heap[b]?):Rel H ω a w' s:=by
 have tr:∀id,Tr w ω s w' ω s id:=fun id=>gq.tr ⟨rfl,fun b k hb' _ _=>⟨hb b hb',rfl⟩⟩ he h.dom;exact
 {dP:=h.dP.ext he
  inj:=h.inj
  dom:=fun b k hk=>Nat.lt_of_lt_of_le (h.dom b k hk) he.size
  defers:=h.defers
  dR:=h.dR
  slots:=fun i=>dh.frame he tr (h.slots i)
  dB:=fun id cells hc=>by obtain⟨b,arr,T,h1,h2,h3⟩:=h.dB id cells hc;exact⟨b,arr,T,h1,(hb b (h.dom b _ h1)).trans h2,h3.mono fun _ _ hl=>cA.frame he tr hl⟩ }
def aJ.fresh(ω:aJ)(id b0:Nat):aJ:=fun b=>if b=b0 then some (id,[])else match ω b with
 |some k=>if k.1=id then none else some k
 |none=>none
theorem aJ.fc(ω:aJ)(id b0:Nat):ω.fresh id b0 b0=some (id,[]):=by simp[aJ.fresh]
theorem aJ.wg{ω:aJ}{id b0 b:Nat}(h:b≠b0)(hn:ω b=none):ω.fresh id b0 b=none:=by simp[aJ.fresh,h,hn]
theorem aJ.gd{ω:aJ}{id b0 b:Nat}{k:Key}(h:b≠b0)(hk:ω b=some k)(hi:k.1≠id):ω.fresh id b0 b=some k:=by simp[aJ.fresh,h,hk,hi]
theorem aJ.fR{ω:aJ}{id b0 b:Nat}{k:Key}(h:ω.fresh id b0 b=some k):(b=b0/\k=(id,[]))\/(b≠b0/\ω b=some k/\k.1≠id):=by
 unfold aJ.fresh at h;split at h
 ·rename_i e;exact .inl ⟨e,by injection h with h;exact h.symm⟩
 ·rename_i e;refine .inr ⟨e,?_⟩;split at h
  ·rename_i k' hk;split at h
   ·cases h
   ·rename_i hne;injection h with h
    subst h;exact⟨hk,hne⟩
  ·cases h
structure eO (w w':World):Prop where
 os:w'.os=w.os
 tape:w'.tape=w.tape
 output:w'.output=w.output
 size:w.heap.size<=w'.heap.size
 block:∀b,b<w.heap.size->w'.heap[b]? = w.heap[b]?
theorem eO.refl(w:World):eO w w:=⟨rfl,rfl,rfl,Nat.le_refl _,fun _ _=>rfl⟩
theorem eO.trans{w w' w'':World}(h:eO w w')(h':eO w' w''):eO w w'':=⟨h'.os.trans h.os,h'.tape.trans h.tape,h'.output.trans h.output,Nat.le_trans h.size h'.size,fun b hb=>(h'.block b (Nat.lt_of_lt_of_le hb h.size)).trans (h.block b hb)⟩
theorem eO.ext{w w':World}(h:eO w w')(ω:aJ):dr ω w ω w':=⟨h.os,h.tape,h.output,h.size,fun b hb _=>⟨h.block b hb,rfl⟩⟩
theorem eO.drew(w:World):eO w w.drew:=⟨rfl,rfl,rfl,Nat.le_refl _,fun _ _=>rfl⟩
theorem eO.drewN(w:World)(n:Nat):eO w (w.drewN n):=⟨rfl,rfl,rfl,Nat.le_refl _,fun _ _=>rfl⟩
theorem eO.push(w:World)(o:Obj):eO w { w with heap:=w.heap.push o }:=⟨rfl,rfl,rfl,by simp,fun b hb=>by simp only[Array.getElem?_push];rw[if_neg (by omega)]⟩
theorem Ap(w:World)(o:Obj):({ w with heap:=w.heap.push o }:World).heap[w.heap.size]? = some o:=by simp
section
variable {ω:aJ} {a:Act} {w w':World} {s:S} {id b0:Nat}
theorem n9(h0:id≠0){b:Nat}(hb:b≠b0)(h:jV ω b):ω.fresh id b0 b=ω b:=by
 rcases h with h|⟨q,h⟩
 ·rw[h];exact aJ.wg hb h
 ·rw[h];exact aJ.gd hb h (Ne.symm h0)
theorem ed(h0:id≠0)(hg:eO w w')(hb:w.heap.size<=b0):dr ω w (ω.fresh id b0) w':=⟨hg.os,hg.tape,hg.output,hg.size,fun b hb' hn=>⟨hg.block b hb',n9 h0 (by omega) hn⟩⟩
theorem pM(h0:id≠0)(hd:∀b k,ω b=some k->b<w.heap.size)(hg:eO w w')(hb:w.heap.size<=b0)(o:Ob real)(j:Nat):Tr w ω s w' (ω.fresh id b0) (s.new id o) j:=by
 by_cases e:j=id
 ·subst e;exact dx.tr (by unfold dx St.new;rw[St.aY];exact Nat.lt_succ_self _)
 ·exact gq.tr ⟨by unfold St.new;exact St.bD _ _ e,fun b k hb' hk hj=>⟨hg.block b hb',by rw[hk];exact aJ.gd (by omega) hk (by rw[hj];exact e)⟩⟩ (ed h0 hg hb) hd
theorem Rel.fresh (h:Rel H ω a w s) (h0:id≠0) (hg:eO w w') (hb:w.heap.size<=b0) (hb':b0<w'.heap.size) (o:Ob real)
  (ho:∀cells,o=.blk cells->∃arr T,w'.heap[b0]? = some (.cells arr T (0,0))/\bj (cA w ω s) arr.toList cells):
  Rel H (ω.fresh id b0) a w' (s.new id o) where
 dP:=h.dP.ext (ed h0 hg hb)
 inj b b' k h1 h2:=by
  rcases aJ.fR h1 with ⟨e1,e2⟩|⟨e1,e2,e3⟩ <;> rcases aJ.fR h2 with ⟨e4,e5⟩|⟨e4,e5,e6⟩
  ·rw[e1,e4]
  ·rw[e2]at e6;exact absurd rfl e6
  ·rw[e5]at e3;exact absurd rfl e3
  ·exact h.inj b b' k e2 e5
 dom b k h1:=by
  rcases aJ.fR h1 with ⟨e1,_⟩|⟨_,e2,_⟩
  ·rw[e1];exact hb'
  ·exact Nat.lt_of_lt_of_le (h.dom b k e2) hg.size
 defers:=h.defers
 dR:=by
  have:(s.new id o).ob 0=s.ob 0:=by unfold St.new;exact St.bD _ _ (Ne.symm h0)
  rw[this];exact h.dR
 slots i:=dh.frame (ed h0 hg hb) (pM h0 h.dom hg hb o) (h.slots i)
 dB j cells hc:=by
  by_cases e:j=id
  ·subst e;have:o=.blk cells:=by simpa[St.new,St.aY] using hc
   obtain⟨arr,T,h1,h2⟩:=ho cells this;exact⟨b0,arr,T,aJ.fc _ _ _,h1,h2.mono fun _ _ hl=>cA.frame (ed h0 hg hb) (pM h0 h.dom hg hb o) hl⟩
  ·have eo:(s.ob j).o=.blk cells:=by rw[<-hc];unfold St.new;rw[St.bD _ _ e]
   obtain⟨b,arr,T,h1,h2,h3⟩:=h.dB j cells eo;have hlt:=h.dom b _ h1;exact⟨b,arr,T,aJ.gd (by omega) h1 e,(hg.block b hlt).trans h2,h3.mono fun _ _ hl=>cA.frame (ed h0 hg hb) (pM h0 h.dom hg hb o) hl⟩
end
theorem St.aV(s:S)(id:Nat)(nh:Bool)(o:Ob real):(s.bQ id nh o).ob id=⟨(s.ob id).g,bif nh then(s.ob id).h+1 else(s.ob id).h,o⟩:=by unfold St.bQ;exact St.aY _ _ _
theorem St.bz(s:S){id j:Nat}(nh:Bool)(o:Ob real)(h:j≠id):(s.bQ id nh o).ob j=s.ob j:=by unfold St.bQ;exact St.bD _ _ h
theorem gr{g h G H:Nat}(nh:Bool)(h1:h<=H+(if g=G then 0 else h)):h<=(bif nh then H+1 else H)+(if g=G then 0 else h):=by cases nh <;> simp only[cond_true,cond_false] <;> split at h1 <;> split <;> omega
def Ob.shut:Ob real->Prop
 | .gone=>True
 |_=>False
theorem iP{s:S}{id g h:Nat}{p:jR}(hs:(s.ob id).o=.gone):s.cont id g h p=none:=by unfold St.cont fX.cont;rw[hs];cases Nat.beq (s.ob id).g g <;> rfl
theorem tg{w:World}{ω:aJ}{s:S}{id:Nat}(hd:∀b k,ω b=some k->b<w.heap.size)(nh:Bool)(j:Nat):Tr w ω s w ω (s.bQ id nh .gone) j:=by
 by_cases e:j=id
 ·subst e;have ho:((s.bQ j nh .gone).ob j).o=.gone:=by rw[St.aV]
  have hg:((s.bQ j nh .gone).ob j).g=(s.ob j).g:=by rw[St.aV]
  have hh:((s.bQ j nh .gone).ob j).h=bif nh then(s.ob j).h+1 else(s.ob j).h:=by rw[St.aV]
  exact
  {ref:=fun v g h p hr=>⟨by rw[hg];exact hr.1,by rw[hg,hh];exact gr nh hr.2.1,fun c hc=>by rw[iP ho]at hc;cases hc⟩
   ptr:=fun v g off hr=>⟨by rw[hg];exact hr.1,fun _ cells hc=>by rw[ho]at hc;cases hc⟩
   cj:=fun v g h p i off hr=>⟨by rw[hg];exact hr.1,by rw[hg,hh];exact gr nh hr.2.1,fun c hc=>by rw[iP ho]at hc;cases hc⟩
   cV:=fun v g hr=>hr.shut hg fun k x e=>by rw[ho]at e;cases e }
 ·exact Tr.mM hd (St.bz _ _ _ e)
theorem Rel.gone{ω:aJ}{a:Act}{w:World}{s:S}(h:Rel H ω a w s)(id:Nat)(nh:Bool):Rel H ω a w (s.bQ id nh .gone) where
 dP:=h.dP
 inj:=h.inj
 dom:=h.dom
 defers:=h.defers
 dR:=by
  by_cases e:0=id
  ·subst e;rw[St.aV]
  ·rw[St.bz _ _ _ e];exact h.dR
 slots i:=dh.frame (dr.refl _ _) (tg h.dom nh) (h.slots i)
 dB j cells hc:=by
  by_cases e:j=id
  ·subst e;rw[St.aV]at hc;cases hc
  ·rw[St.bz _ _ _ e]at hc;obtain⟨b,arr,T,h1,h2,h3⟩:=h.dB j cells hc;exact⟨b,arr,T,h1,h2,h3.mono fun _ _ hl=>cA.frame (dr.refl _ _) (tg h.dom nh) hl⟩
def aJ.drop(ω:aJ)(id:Nat):aJ:=fun b=>match ω b with
 |some k=>if k.1=id then none else some k
 |none=>none
theorem aJ.nA{ω:aJ}{id b:Nat}(h:ω b=none):ω.drop id b=none:=by simp[aJ.drop,h]
theorem aJ.rV{ω:aJ}{id b:Nat}{k:Key}(h:ω b=some k)(hk:k.1=id):ω.drop id b=none:=by simp[aJ.drop,h,hk]
theorem aJ.dO{ω:aJ}{id b:Nat}{k:Key}(h:ω b=some k)(hk:k.1≠id):ω.drop id b=some k:=by simp[aJ.drop,h,hk]
theorem aJ.dH{ω:aJ}{id b:Nat}{k:Key}(h:ω.drop id b=some k):ω b=some k/\k.1≠id:=by
 unfold aJ.drop at h;split at h
 ·rename_i k' hk;split at h
  ·cases h
  ·rename_i hne;injection h with h;subst h;exact⟨hk,hne⟩
 ·cases h
def w8(w:World)(ω aI:aJ)(md:Md):Prop:=∀b,b<w.heap.size->(ω b=none\/∃k,ω b=some k/\md.has k)->aI b=none
mutual
theorem Ty.gP{w:World}{ω aI:aJ}:∀(t:Ty) (md:Md) (v:Value) (x:t.T),w8 w ω aI md->t.R w ω md v x->t.R w aI .cB v x
 | .int _,_,_,_,_,h=>h
 | .bool,_,_,_,_,h=>h
 | .str,_,_,_,_,h=>h
 | .sl e cs,md,v,x,H,h=>by
  obtain⟨a,n,c,h1,h2,h3,h4,h5⟩:=h;refine⟨a,n,c,h1,h2,h3,fun hn=>?_,fun i ad hi ha=>?_⟩
  ·obtain⟨b,off,e1,e2,e3⟩:=h4.block hn;exact⟨b,off,e1,H b e2 e3,e2⟩
  ·exact aK.gP cs _ _ 0 _ (fun j b hb hk=>H b hb (hk.imp id fun⟨k,h1,h2⟩=>⟨k,h1,Md.rW h2⟩)) (h5 i ad hi ha)
theorem aK.gP{w:World}{ω aI:aJ}:∀(cs:aK) (md:Nat->Md) (g:Nat->Option Value) (j:Nat) (x:cs.T),(∀j,w8 w ω aI (md j))->cs.R w ω md g j x->cs.R w aI (fun _=>.cB) g j x
 | .nil,_,_,_,_,_,_=>trivial
 | .cons t ts,md,g,j,x,H,h=>by obtain⟨⟨v,h1,h2⟩,h3⟩:=h;exact⟨⟨v,h1,Ty.gP t (md j) v _ (H j) h2⟩,aK.gP ts md g (j+1) _ H h3⟩
end
theorem cu{s:S}{id:Nat}{e:Nat}{cs:aK}{dp:Bool}{x:real.V (.sl e cs)}(ho:(s.ob id).o=.arr e cs dp x){g h:Nat}(hg:g=(s.ob id).g):
  s.cont id g h []=some ⟨e,cs,x,bif dp then 2 else 1⟩:=by
 unfold St.cont fX.cont;rw[hg,fY,ho];rfl
theorem uC{s:S}{id:Nat}{e:Nat}{cs:aK}{x:real.V (.sl e cs)}(ho:(s.ob id).o=.cB e cs x){g h:Nat}{p:jR}{c:Cont real}(hc:s.cont id g h p=some c):
  g=(s.ob id).g/\p=[]/\c=⟨e,cs,x,0⟩:=by
 unfold St.cont fX.cont at hc;by_cases hb:Nat.beq (s.ob id).g g=true
 ·rw[hb,ho]at hc;simp only[cond_true]at hc;cases p with
  |nil=>exact⟨(Nat.eq_of_beq_eq_true hb).symm,rfl,by injection hc with hc;exact hc.symm⟩
  |cons q p=>cases hc
 ·rw[Bool.not_eq_true]at hb;rw[hb]at hc;cases hc
theorem vZ{ω:aJ}{id b:Nat}(h0:id≠0)(h:jV ω b):ω.drop id b=ω b:=by
 rcases h with h|⟨q,h⟩
 ·rw[h];exact aJ.nA h
 ·rw[h];exact aJ.dO h (Ne.symm h0)
theorem bP(ω:aJ)(w:World)(id:Nat)(h0:id≠0):dr ω w (ω.drop id) w:=⟨rfl,rfl,rfl,Nat.le_refl _,fun _ _ h=>⟨rfl,vZ h0 h⟩⟩
theorem kK{w:World}{ω:aJ}{s:S}{id e:Nat}{cs:aK}{dp:Bool}{x:real.V (.sl e cs)}(h0:id≠0)(hd:∀b k,ω b=some k->b<w.heap.size)(ho:(s.ob id).o=.arr e cs dp x)(nh:Bool)(j:Nat):
  Tr w ω s w (ω.drop id) (s.bQ id nh (.cB e cs x)) j:=by
 by_cases ej:j=id
 ·subst ej;have cU:((s.bQ j nh (.cB e cs x)).ob j).o=.cB e cs x:=by rw[St.aV]
  have hg:((s.bQ j nh (.cB e cs x)).ob j).g=(s.ob j).g:=by rw[St.aV]
  have hh:((s.bQ j nh (.cB e cs x)).ob j).h=bif nh then(s.ob j).h+1 else(s.ob j).h:=by rw[St.aV]
  exact
  {ref:=fun v g h p hr=>⟨by rw[hg];exact hr.1,by rw[hg,hh];exact gr nh hr.2.1,fun c hc=>by
    obtain⟨e1,e2,e3⟩:=uC cU hc;subst e2;subst e3;rw[hg]at e1;have hx:=hr.2.2 _ (cu (h:=h) ho e1);refine Ty.gP _ _ _ _ (fun b hb hk=>?_) hx;rcases hk with hk|⟨k,h1,h2⟩
    ·exact aJ.nA hk
    ·exact aJ.rV h1 (wy _ _ _ _ h2)⟩
   ptr:=fun v g off hr=>⟨by rw[hg];exact hr.1,fun _ cells hc=>by rw[cU]at hc;cases hc⟩
   cj:=fun v g h p i off hr=>⟨by rw[hg];exact hr.1,by rw[hg,hh];exact gr nh hr.2.1,fun c hc hm=>by obtain⟨_,_,e3⟩:=uC cU hc;rw[e3]at hm;exact absurd rfl hm⟩
   cV:=fun v g hr=>hr.shut hg fun k x e=>by rw[cU]at e;cases e }
 ·exact gq.tr ⟨St.bz _ _ _ ej,fun b k hb hk hj=>⟨rfl,by rw[hk];exact aJ.dO hk (by rw[hj];exact ej)⟩⟩ (bP _ _ _ h0) hd
theorem Rel.freeze{ω:aJ}{a:Act}{w:World}{s:S}(h:Rel H ω a w s){id e:Nat}{cs:aK}{dp:Bool}{x:real.V (.sl e cs)}(ho:(s.ob id).o=.arr e cs dp x)(nh:Bool):Rel H (ω.drop id) a w (s.bQ id nh (.cB e cs x)) where
 dP:=h.dP.ext (bP _ _ _ (h.qj (by rw[ho];exact fun e=>by cases e)))
 inj b b' k h1 h2:=h.inj b b' k (aJ.dH h1).1 (aJ.dH h2).1
 dom b k h1:=h.dom b k (aJ.dH h1).1
 defers:=h.defers
 dR:=by rw[St.bz _ _ _ (Ne.symm (h.qj (by rw[ho];exact fun e=>by cases e)))];exact h.dR
 slots i:=dh.frame (bP _ _ _ (h.qj (by rw[ho];exact fun e=>by cases e))) (kK (h.qj (by rw[ho];exact fun e=>by cases e)) h.dom ho nh) (h.slots i)
 dB j cells hc:=by
  by_cases ej:j=id
  ·subst ej;rw[St.aV]at hc;cases hc
  ·rw[St.bz _ _ _ ej]at hc;obtain⟨b,arr,T,h1,h2,h3⟩:=h.dB j cells hc;exact⟨b,arr,T,aJ.dO h1 ej,h2,h3.mono fun _ _ hl=>cA.frame (bP _ _ _ (h.qj (by rw[ho];exact fun e=>by cases e))) (kK (h.qj (by rw[ho];exact fun e=>by cases e)) h.dom ho nh) hl⟩
end Go.R
namespace Go.R
variable {H:Nat->Value}
def zeroOf:Ty->Value
 | .int k=>.int k 0
 | .bool=>.bool false
 | .str=>.string ByteArray.empty
 | .sl _ _=>.slice none 0 0
def gN:aK->List Value
 | .nil=>[]
 | .cons t ts=>zeroOf t::gN ts
theorem fH:∀cs:aK,(gN cs).length=cs.len
 | .nil=>rfl
 | .cons _ ts=>by simp[gN,aK.len,fH ts]
structure ud (P:Program) (t:Nat) (i:TI) (I:TypeInfo) (d:TypeDesc):Prop where
 info:P.info? t=some I
 zl:P.underlying t=some d
 size:I.size=i.cs.len
 bytes:I.bytes=i.bytes
 bpos:0<i.bytes/\i.bytes<=65536
 zero:∃z,I.zero=some z/\z.cells.toList=gN i.cs
 row:d.isRow=i.agg
 one:i.agg=false->i.cs.len=1
 fQ:i.agg=true->∃fs,d=.struct fs/\fs.size=i.fQ.length/\∀(f:Nat) (q:Nat×Nat×Bool),i.fQ[f]? = some q->∃(F:Field) (FI:TypeInfo) (Fd:TypeDesc),fs[f]? = some F/\F.offset=q.1/\P.info? F.type=some FI/\FI.size=q.2.1/\0<FI.size/\P.underlying F.type=some Fd/\Fd.isRow=q.2.2/\(q.2.2=false->q.2.1=1)
 el:∀e,i.el=some e->d=.slice e
 Dn:∀k,i.cs=.cons (.int k) .nil->i.agg=false->d=.int k
 Cz:i.cs=.cons .bool .nil->i.agg=false->d=.bool
 DE:i.cs=.cons .str .nil->i.agg=false->d=.string
 Ig:∀e cs,i.cs=.cons (.sl e cs) .nil->i.agg=false->d=.slice e
def DV(u:Value):Ty->Prop
 | .int k=>∃n,u=.int k n
 | .bool=>∃b,u=.bool b
 |_=>False
def Typed:aK->List Value->Prop
 | .nil,[]=>True
 | .cons t ts,u::us=>DV u t/\Typed ts us
 |_,_=>False
def dc:List Value->List Value->Bool
 | [],[]=>true
 | .int _ a::us,.int _ b::vs=>(a==b)&&dc us vs
 | .bool a::us,.bool b::vs=>(a==b)&&dc us vs
 |_,_=>false
structure cq (P:Program) (E:Env):Prop where
 mo:P.follows .mixedOrders=true
 Gf:∀t k,E.mp t=some k->∃kt et I,P.underlying t=some (.map kt et)/\P.underlying kt=some (.int k)/\P.info? et=some I/\I.zero=some (.bool false)
 ti:∀t i,E.ti t=some i->∃I d,ud P t i I d
 eqs:∀t i,E.ti t=some i->E.E9 t=true->∀(op:BinOp) (x y:Operand) (us vs:List Value) (w:World),op=.eql\/op=.neq->Typed i.cs us->Typed i.cs vs ->
  (do eqGuard op t x y (.agg us.toArray) (.agg vs.toArray);binOp op t (.agg us.toArray) (.agg vs.toArray):Sem Value).run P w=.ok (.bool (match op with| .eql=>dc us vs|_=>!dc us vs)) w
theorem gJ{P:Program}{E:Env}(hE:cq P E){t e:Nat}{cs:aK}(h:E.mT t=some (e,cs)):
  P.underlying t=some (.slice e)/\∃j I d,E.ti e=some j/\j.cs=cs/\ud P e j I d:=by
 unfold Env.mT at h;split at h
 ·rename_i i hi;split at h
  ·rename_i e' he;split at h
   ·rename_i j hj;injection h with h
    injection h with h1 h2
    subst h1;obtain⟨I,d,ok⟩:=hE.ti _ _ hi;obtain⟨I',d',ok'⟩:=hE.ti _ _ hj;exact⟨by rw[ok.zl,ok.el _ he],j,I',d',hj,h2,ok'⟩
   ·cases h
  ·cases h
 ·cases h
theorem xT{w:World}{ω:aJ}{s:S}(E:Env)(ty:Nat)(v:Value):dh H w ω s v (gF E ty v):=by
 unfold gF;split
 ·exact rfl
 ·exact rfl
 ·exact rfl
 ·split
  ·exact⟨none,rfl⟩
  ·trivial
 ·trivial
theorem bX{ω:aJ}{a:Act}{w:World}{s:S}(h:Rel H ω a w s)(E:Env)(ty:Nat)(x:Operand):dh H w ω s (a.eval x) (ev E s ty x):=by
 cases x with
 |tmp t=>exact h.slots t
 |const v=>exact xT E ty v
 |global g=>trivial
 |func f=>exact⟨[],rfl,trivial⟩
def Ends(H:Nat->Value){R:Type}(ω:aJ)(a:Act)(w:World)(dst:Option Nat)(k:S->Option R)(r:R)(a':Act)(w':World):Prop:=∃aI s',Rel H aI a' w' s'/\dr ω w aI w'/\k s'=some r/\a'.tmps.size=a.tmps.size/\∀j,dst≠some j->a'.tmps.getD j undef=a.tmps.getD j undef
theorem kR(a:Act)(dst:Option Nat)(v:Value){j:Nat}(h:dst≠some j):(a.put dst v).tmps.getD j undef=a.tmps.getD j undef:=by
 cases dst with
 |none=>rfl
 |some d=>have:d≠j:=fun e=>h (by rw[e]);simp[Act.put,Array.getD_eq_getD_getElem?,Array.getElem?_setIfInBounds_ne this]
theorem i7(a:Act)(dst:Option Nat)(v:Value):(a.put dst v).tmps.size=a.tmps.size:=by cases dst <;> simp[Act.put]
theorem Rel.ck{ω:aJ}{a:Act}{w:World}{s:S}(h:Rel H ω a w s){dst:Option Nat}(hd:∀d,dst=some d->d<a.tmps.size){v:Value}{t:cm}(ht:dh H w ω s v t):Rel H ω (a.put dst v) w (s.ck dst t):=by
 cases dst with
 |none=>exact h
 |some d=>exact h.set (hd d rfl) ht
theorem fg {P:Program} {o:Oper} {a:Act} {w w':World} {v:Value} {K:Act->World->Prop} {Q:Exit->Act->World->Prop}
  (hr:(execOp a.eval o).run P w=.ok (.value v) w') (h:K (a.put o.dst v) w'):o.wp P a w K Q:=by
 unfold Oper.wp;rw[hr];exact h
theorem vG {P:Program} {o:Oper} {a:Act} {w w':World} {K:Act->World->Prop} {Q:Exit->Act->World->Prop}
  (hr:(execOp a.eval o).run P w=.ok .skip w') (h:K (a.put o.dst undef) w'):o.wp P a w K Q:=by
 unfold Oper.wp;rw[hr];exact h
section
variable {R:Type} {P:Program} {E:Env} {ω:aJ} {a:Act} {w:World} {s:S} {k:S->Option R} {r:R} {o:Oper} {Q:Exit->Act->World->Prop}
theorem mq(h:Rel H ω a w s)(hd:∀d,o.dst=some d->d<a.tmps.size){v:Value}{t:cm}(ht:dh H w ω s v t)(hk:k (s.ck o.dst t)=some r):
  Ends H ω a w o.dst k r (a.put o.dst v) w:=
 ⟨ω,_,h.ck hd ht,dr.refl _ _,hk,i7 _ _ _,fun _ hj=>kR _ _ _ hj⟩
theorem dZ{bi:aJ}{w1:World}{s1:S}(h:Rel H bi a w1 s1)(he:dr ω w bi w1)(hd:∀d,o.dst=some d->d<a.tmps.size){v:Value}{t:cm}(ht:dh H w1 bi s1 v t)(hk:k (s1.ck o.dst t)=some r):
  Ends H ω a w o.dst k r (a.put o.dst v) w1:=
 ⟨bi,_,h.ck hd ht,he,hk,i7 _ _ _,fun _ hj=>kR _ _ _ hj⟩
theorem aA{α:Type}{o:Option α}{f:α->Option R}(h:ar (aP R) o f=some r):∃x,o=some x/\f x=some r:=by
 unfold ar at h;cases o with
 |none=>cases h
 |some x=>exact⟨x,rfl,h⟩
theorem yc{b:Bool}{x y:Option R}:(aP R).cond b x y=bif b then x else y:=rfl
theorem DH:(aP R).fail=none:=rfl
theorem pB{t:cm}{b:Bool}{v:Value}(h:pA t=some b)(hr:dh H w ω s v t):v=.bool b:=by
 unfold pA at h;split at h
 ·rename_i u x;split at h
  ·rename_i hb;obtain rfl:=Ty.eq_of_beq hb;injection h with h
   have:x=b:=h;subst this;exact hr
  ·cases h
 ·cases h
theorem iv{t:cm}{b:Int}{v:Value}(h:mC t=some b)(hr:dh H w ω s v t):v=.int .i64 b:=by
 unfold mC at h;split at h
 ·rename_i u x;split at h
  ·rename_i hb;obtain rfl:=Ty.eq_of_beq hb;injection h with h
   have:x=b:=h;subst this;exact hr
  ·cases h
 ·cases h
theorem xM{t:cm}{b:ByteArray}{v:Value}(h:Cn t=some b)(hr:dh H w ω s v t):v=.string b:=by
 unfold Cn at h;split at h
 ·rename_i u x;split at h
  ·rename_i hb;obtain rfl:=Ty.eq_of_beq hb;injection h with h
   have:x=b:=h;subst this;exact hr
  ·cases h
 ·cases h
theorem sJ{x:Operand}(ho:o.op=.move x\/o.op=.assign x)(h:Rel H ω a w s)(hd:∀d,o.dst=some d->d<a.tmps.size)(hk:k (s.ck o.dst (ev E s o.type x))=some r):
  o.wp P a w (Ends H ω a w o.dst k r) Q:=by
 refine fg (v:=a.eval x) (w':=w) ?_ (mq h hd (bX h E o.type x) hk);unfold execOp;rcases ho with ho|ho <;> rw[ho] <;> rfl
theorem yS {c x y:Operand} (ho:o.op=.pick c x y) (h:Rel H ω a w s) (hd:∀d,o.dst=some d->d<a.tmps.size)
  (hk:(ar (aP R) (pA (ev E s 4 c)) fun c=>(aP R).cond c (k (s.ck o.dst (ev E s o.type x))) (k (s.ck o.dst (ev E s o.type y))))=some r):
  o.wp P a w (Ends H ω a w o.dst k r) Q:=by
 obtain⟨(b:Bool),h1,h2⟩:=aA hk;have hv:=pB h1 (bX h E 4 c);rw[yc]at h2;cases b with
 |true=>refine fg (v:=a.eval x) (w':=w) ?_ (mq h hd (bX h E o.type x) h2);unfold execOp;simp[ho,hv,asBool]
 |false=>refine fg (v:=a.eval y) (w':=w) ?_ (mq h hd (bX h E o.type y) h2);unfold execOp;simp[ho,hv,asBool]
end
end Go.R
namespace Go.R
variable {H:Nat->Value}
section
variable {R:Type} {P:Program} {E:Env} {ω:aJ} {a:Act} {w:World} {s:S} {k:S->Option R} {r:R} {o:Oper} {Q:Exit->Act->World->Prop}
theorem bF(h:Rel H ω a w s)(hd:∀d,o.dst=some d->d<a.tmps.size){t:cm}{v:Value}(hr:(execOp a.eval o).run P w=.ok (.value v) w)(ht:dh H w ω s v t)(hk:k (s.ck o.dst t)=some r):
  o.wp P a w (Ends H ω a w o.dst k r) Q:=
 fg hr (mq h hd ht hk)
def zQ(op:BinOp)(k:IntKind)(m n:Int):Value:=
 match op with
 | .add| .sub| .mul| .quo| .rem| .and| .or| .xor| .andNot=>.int k (aa op k m n)
 |_=>.bool (af op m n)
theorem qz(op:BinOp)(t:Nat)(x y:Operand)(kk:IntKind)(m n:Int)(ho:op≠.shl/\op≠.shr)(hz:(op=.quo\/op=.rem)->n≠0):
  (do eqGuard op t x y (.int kk m) (.int kk n);binOp op t (.int kk m) (.int kk n):Sem Value).run P w =
   .ok (zQ op kk m n) w:=by
 cases op <;> simp[eqGuard,binOp,Op.intArith,Op.intDiv,Op.intBits,Op.intCmp,zQ,aa,af]at ho hz⊢<;> simp[hz]
theorem yK(op:BinOp)(t:Nat)(x y:Operand)(kk jj:IntKind)(m n:Int)(ho:op=.shl\/op=.shr)(hz:0<=n):
  (do eqGuard op t x y (.int kk m) (.int jj n);binOp op t (.int kk m) (.int jj n):Sem Value).run P w=.ok (.int kk (ay op kk m n)) w:=by
 have:¬n<0:=by omega
 rcases ho with rfl|rfl <;> simp[eqGuard,binOp,Op.shift,ay,this]
theorem run_equal_bool(t:Nat)(hu:P.underlying t=some .bool)(m n:Bool):(Op.equal t (.bool m) (.bool n)).run P w=.ok (m==n) w:=by have e:Op.equal t (.bool m) (.bool n)=Op.equalIn (9999+1) t (.bool m) (.bool n):=rfl;rw[e,Op.equalIn,Sem.run_bind,run_underlying hu];rfl
theorem ou(op:BinOp)(t:Nat)(x y:Operand)(hu:P.underlying t=some .bool)(m n:Bool)(ho:op=.eql\/op=.neq):
  (do eqGuard op t x y (.bool m) (.bool n);binOp op t (.bool m) (.bool n):Sem Value).run P w=.ok (.bool (match op with| .eql=>bT m n|_=>!bT m n)) w:=by
 rcases ho with rfl|rfl <;> simp[eqGuard,binOp,bT,run_equal_bool t hu]
theorem wO(op:BinOp)(t:Nat)(x y:Operand)(m n:ByteArray)(ho:op=.eql\/op=.neq\/op=.lss\/op=.leq\/op=.gtr\/op=.geq):
  (do eqGuard op t x y (.string m) (.string n);binOp op t (.string m) (.string n):Sem Value).run P w=.ok (.bool (sA op m n)) w:=by
 rcases ho with rfl|rfl|rfl|rfl|rfl|rfl <;> simp[eqGuard,binOp,Op.stringOp,sA]
theorem wP(t:Nat)(x y:Operand)(m n:ByteArray)(hf:nL m n=true):
  (do eqGuard .add t x y (.string m) (.string n);binOp .add t (.string m) (.string n):Sem Value).run P w=.ok (.string (m++n)) w:=by
 have:¬(((m.size+n.size:Nat):Int)>IntKind.i64.max):=by
  unfold nL at hf;have:=of_decide_eq_true hf;have e:IntKind.i64.max=9223372036854775807:=by decide
  rw[e];omega
 simp only[eqGuard,binOp,Op.stringOp,Sem.run_bind];rw[if_neg this];simp
theorem uT(hE:cq P E){t:Nat}(h:fB E t=true):P.underlying t=some .bool:=by
 unfold fB at h;split at h
 ·rename_i i hi;obtain⟨I,d,ok⟩:=hE.ti _ _ hi;rw[Bool.and_eq_true]at h;obtain⟨h1,h2⟩:=h;have hc:i.cs=.cons .bool .nil:=by
   split at h1
   ·rename_i e;exact e
   ·cases h1
  rw[ok.zl,ok.Cz hc (by simpa using h2)]
 ·cases h
theorem DG{A:oC}{t:Ty}(h:Ty.beq t t=true)(x:A.V t):A.cast h x=x:=rfl
theorem CX{A:oC}{t:aK}(h:aK.beq t t=true)(x:A.Vs t):A.zV h x=x:=rfl
abbrev bin(op:BinOp)(t:Nat)(x y:Operand)(u v:Value):Sem Value:=do eqGuard op t x y u v;binOp op t u v
theorem xW {op:BinOp} {t:Nat} {x y:Operand} {ka kb:IntKind} {m n:Int} {tb:Bool} {kk:L->Option R}
  (h:kU (aP R) tb op (.val (.int ka) m) (.val (.int kb) n) kk=some r):∃l z,(bin op t x y (.int ka m) (.int kb n)).run P w=.ok z w/\cA w ω s z l/\kk l=some r:=by
 by_cases hsh:op=.shl\/op=.shr
 ·have h':(bif cD n then none else kk (.val (.int ka) (ay op ka m n)))=some r:=by
   rcases hsh with rfl|rfl <;> exact h
  cases hn:cD n with
  |true=>rw[hn]at h';cases h'
  |false=>rw[hn]at h';exact⟨.val (.int ka) (ay op ka m n),.int ka (ay op ka m n),yK op t x y ka kb m n hsh (Int.not_lt.1 (of_decide_eq_false hn)),rfl,h'⟩
 ·have hk:ka=kb:=by
   by_cases hb:Ty.beq (.int kb) (.int ka)=true
   ·have:=Ty.eq_of_beq hb;injection this with e;exact e.symm
   ·exfalso;cases op <;> simp only[kU,dif_neg hb]at h <;> first|(cases h;done)|exact hsh (.inl rfl)|exact hsh (.inr rfl)
  subst hk;have hb:Ty.beq (.int ka) (.int ka)=true:=by simp[Ty.beq]
  by_cases hq:op=.quo\/op=.rem
  ·have h':(bif az n then none else kk (.val (.int ka) (aa op ka m n)))=some r:=by
    rcases hq with rfl|rfl <;> (simp only[kU,dif_pos hb]at h;exact h)
   cases hn:az n with
   |true=>rw[hn]at h';cases h'
   |false=>rw[hn]at h';refine⟨.val (.int ka) (aa op ka m n),.int ka (aa op ka m n),?_,rfl,h'⟩;have:=qz (P:=P) (w:=w) op t x y ka m n ⟨fun e=>hsh (.inl e),fun e=>hsh (.inr e)⟩ (fun _=>of_decide_eq_false hn);rcases hq with rfl|rfl <;> exact this
  ·have hr:=qz (P:=P) (w:=w) op t x y ka m n ⟨fun e=>hsh (.inl e),fun e=>hsh (.inr e)⟩ (fun e=>absurd e hq);cases op <;> simp only[kU,dif_pos hb]at h <;>
    first
     |exact absurd (.inl rfl) hsh
     |exact absurd (.inr rfl) hsh
     |exact absurd (.inl rfl) hq
     |exact absurd (.inr rfl) hq
     |exact⟨.val (.int ka) (aa _ ka m n),_,hr,rfl,h⟩
     |exact⟨.val .bool (af _ m n),_,hr,rfl,h⟩
theorem vU (hE:cq P E) {op:BinOp} {t:Nat} {x y:Operand} {m n:Bool} {kk:L->Option R}
  (h:kU (aP R) (fB E t) op (.val .bool m) (.val .bool n) kk=some r):∃l z,(bin op t x y (.bool m) (.bool n)).run P w=.ok z w/\cA w ω s z l/\kk l=some r:=by
 cases hb:fB E t with
 |false=>rw[hb]at h;cases h
 |true=>
  rw[hb]at h;have hu:=uT hE hb;cases op <;> first
   |(cases h;done)
   |exact⟨.val .bool (bT m n),_,ou .eql t x y hu m n (.inl rfl),rfl,h⟩
   |exact⟨.val .bool (!bT m n),_,ou .neq t x y hu m n (.inr rfl),rfl,h⟩
theorem xX {op:BinOp} {t:Nat} {x y:Operand} {m n:ByteArray} {tb:Bool} {kk:L->Option R}
  (h:kU (aP R) tb op (.val .str m) (.val .str n) kk=some r):∃l z,(bin op t x y (.string m) (.string n)).run P w=.ok z w/\cA w ω s z l/\kk l=some r:=by
 by_cases ha:op=.add
 ·subst ha;have h':(bif nL m n then kk (.val .str (m++n))else none)=some r:=h;cases hn:nL m n with
  |false=>rw[hn]at h';cases h'
  |true=>rw[hn]at h';exact⟨.val .str (m++n),_,wP t x y m n hn,rfl,h'⟩
 ·cases op <;> first
   |exact absurd rfl ha
   |(cases h;done)
   |exact⟨.val .bool (sA _ m n),_,wO _ t x y m n (by simp),rfl,h⟩
theorem BL (hE:cq P E) {op:BinOp} {t:Nat} {x y:Operand} {u v:Value} {lx ly:L} {kk:L->Option R} (hx:cA w ω s u lx) (hy:cA w ω s v ly)
  (h:kU (aP R) (fB E t) op lx ly kk=some r):∃l z,(bin op t x y u v).run P w=.ok z w/\cA w ω s z l/\kk l=some r:=by
 cases lx with
 |val tx x'=>
  cases ly with
  |val ty y'=>
   cases tx <;> cases ty <;> first
    |(cases h;done)
    |(have hu:u=.int _ x':=hx;have hv:v=.int _ y':=hy;subst hu;subst hv;exact xW h)
    |(have hu:u=.bool x':=hx;have hv:v=.bool y':=hy;subst hu;subst hv;exact vU hE h)
    |(have hu:u=.string x':=hx;have hv:v=.string y':=hy;subst hu;subst hv;exact xX h)
  |_=>cases tx <;> cases h
 |_=>cases h
theorem lH:∀(cs:aK) (xs ys:List L) (us vs:List Value) (b:Bool),kJ (A:=real) cs xs ys=some b->bj (cA w ω s) us xs->bj (cA w ω s) vs ys->Typed cs us/\Typed cs vs/\b=dc us vs
 | .nil,[],[],us,vs,b,h,hu,hv=>by
  cases us with
  |cons _ _=>exact hu.elim
  |nil=>
   cases vs with
   |cons _ _=>exact hv.elim
   |nil=>have h:=Option.some.inj h;subst h;exact⟨trivial,trivial,rfl⟩
 | .cons t ts,x::xs,y::ys,[],vs,b,h,hu,hv=>hu.elim
 | .cons t ts,x::xs,y::ys,u::us,[],b,h,hu,hv=>hv.elim
 | .cons t ts,x::xs,y::ys,u::us,v::vs,b,h,hu,hv=>by
  cases x with
  |val tx x'=>
   cases y with
   |val ty y'=>
    simp only[kJ]at h;split at h
    ·rename_i h1;split at h
     ·rename_i h2;have e1:=Ty.eq_of_beq h1;have e2:=Ty.eq_of_beq h2;subst e1;subst e2;cases ty with
      |int k=>
       simp only[FC]at h;cases hr:kJ (A:=real) ts xs ys with
       |none=>rw[hr]at h;cases h
       |some r=>rw[hr]at h;have h:=Option.some.inj h;obtain⟨q1,q2,q3⟩:=lH ts xs ys us vs r hr hu.2 hv.2;have AD:u=.int k x':=hu.1;have xw:v=.int k y':=hv.1;subst AD;subst xw;refine⟨⟨⟨_,rfl⟩,q1⟩,⟨⟨_,rfl⟩,q2⟩,?_⟩;subst h;subst q3;rfl
      |bool=>
       simp only[FC]at h;cases hr:kJ (A:=real) ts xs ys with
       |none=>rw[hr]at h;cases h
       |some r=>rw[hr]at h;have h:=Option.some.inj h;obtain⟨q1,q2,q3⟩:=lH ts xs ys us vs r hr hu.2 hv.2;have AD:u=.bool x':=hu.1;have xw:v=.bool y':=hv.1;subst AD;subst xw;refine⟨⟨⟨_,rfl⟩,q1⟩,⟨⟨_,rfl⟩,q2⟩,?_⟩;subst h;subst q3;rfl
      |str=>cases h
      |sl _ _=>cases h
     ·cases h
    ·cases h
   |_=>cases h
  |_=>cases h
 | .nil,_::_,_,_,_,_,h,_,_=>by cases h
 | .nil,[],_::_,_,_,_,h,_,_=>by cases h
 | .cons _ _,[],_,_,_,_,h,_,_=>by cases h
 | .cons _ _,x::_,[],_,_,_,h,_,_=>by exfalso;cases x <;> cases h
theorem rC{x:cm}{v:Value}{c:Cont real}(hx:dh H w ω s v x)(hc:gz s x=some c):∃ad n cap,v=.slice ad n cap/\n=List.length c.x/\(ad=none->n=0):=by
 have key:∀(e:Nat) (cs:aK) (md:Md) (z:List cs.T),(Ty.sl e cs).R w ω md v z->∃ad n cap,v=.slice ad n cap/\n=List.length z/\(ad=none->n=0):=by
  intro e cs md z h;obtain⟨ad,n,c,e1,e2,e3,e4,e5⟩:=h;refine⟨ad,n,c,e1,e2.symm,fun e=>?_⟩;subst e;cases md with
  |cB=>
   by_cases hn:0<n
   ·obtain⟨_,_,q,_⟩:=e4 hn;cases q
   ·omega
  |flat k=>
   rcases e4 with ⟨_,q⟩|⟨_,_,q,_⟩
   ·exact q
   ·cases q
  |deep k=>
   rcases e4 with ⟨_,q⟩|⟨_,_,q,_⟩
   ·exact q
   ·cases q
 cases x with
 |one l=>
  cases l with
  |val t y=>
   cases t with
   |sl e cs=>have hc:=Option.some.inj hc;subst hc;exact key e cs .cB y hx
   |_=>cases hc
  |eU e cs=>have hc:=Option.some.inj hc;subst hc;obtain⟨a',e1⟩:=hx;exact⟨a',0,0,e1,rfl,fun _=>rfl⟩
  |ref id g h p=>exact key _ _ _ _ (hx.2.2 c hc)
  |_=>cases hc
 |_=>cases hc
theorem sC{t e:Nat}(hu:P.underlying t=some (.slice e))(ad:Option Addr)(n c:Nat)(x y:Operand)(op:BinOp)(ho:op=.eql\/op=.neq):
  (bin op t x y (.slice ad n c) (.slice none 0 0)).run P w=.ok (.bool (match op with| .eql=>ad.isNone|_=>!ad.isNone)) w:=by
 have h1:∀d,(Op.equalIn (d+1) t (.slice ad n c) (.slice none 0 0)).run P w=.ok ad.isNone w:=by intro d;cases ad <;> simp[Op.equalIn,run_underlying hu]
 have h2:(Op.equal t (.slice ad n c) (.slice none 0 0)).run P w=.ok ad.isNone w:=h1 9999;rcases ho with rfl|rfl <;> simp[bin,eqGuard,binOp,h2]
theorem wH(hE:cq P E){op:BinOp}{t:Nat}{x y:Operand}{l:L}(h:Rel H ω a w s)(hn:fW E s op t x y=some l):∃z,(bin op t x y (a.eval x) (a.eval y)).run P w=.ok z w/\cA w ω s z l:=by
 have hx:=bX h E t x;unfold fW at hn;split at hn
 ·split at hn
  ·rename_i q c h1 h2;obtain⟨u1,_⟩:=gJ hE (e:=q.1) (cs:=q.2) h1;obtain⟨ad,n,cap,e1,e2,e3⟩:=rC hx h2;have hy:a.eval (.const (.slice none 0 0))=.slice none 0 0:=rfl;split at hn
   ·have hn:=Option.some.inj hn;subst hn;refine⟨_,by rw[e1,hy];exact sC u1 ad n cap x _ .eql (.inl rfl),_,rfl,fun hp=>?_⟩;cases ad with
    |some _=>rfl
    |none=>exfalso;have h0:n=0:=e3 rfl;have hp:af .gtr ((List.length c.x:Nat):Int) 0=true:=hp;rw[<-e2,h0]at hp;exact absurd hp (by decide)
   ·have hn:=Option.some.inj hn;subst hn;refine⟨_,by rw[e1,hy];exact sC u1 ad n cap x _ .neq (.inr rfl),_,rfl,fun hp=>?_⟩;cases ad with
    |some _=>rfl
    |none=>exfalso;have h0:n=0:=e3 rfl;have hp:af .gtr ((List.length c.x:Nat):Int) 0=true:=hp;rw[<-e2,h0]at hp;exact absurd hp (by decide)
   ·cases hn
  ·cases hn
 ·cases hn
theorem mw{op:BinOp}{t yt:Nat}{x y:Operand}(ho:o.op=.binOp op t x y yt){z:Value}(h:(bin op t x y (a.eval x) (a.eval y)).run P w=.ok z w):(execOp a.eval o).run P w=.ok (.value z) w:=by unfold execOp;simp only[ho];unfold bin at h;rw[Sem.run_bind,h];rfl
theorem Bm (hE:cq P E) {op:BinOp} {t yt:Nat} {x y:Operand} (ho:o.op=.binOp op t x y yt) (h:Rel H ω a w s) (hd:∀d,o.dst=some d->d<a.tmps.size) {Φ:bV->Option (Callee real (Option R))}
  (hk:bp E (aP R) Φ o s k=some r):o.wp P a w (Ends H ω a w o.dst k r) Q:=by
 have hx:=bX h E t x;have hy:=bX h E t y;unfold bp at hk;simp only[ho]at hk;cases hnt:fW E s op t x y with
 |some l=>rw[hnt]at hk;obtain⟨z,h1,h2⟩:=wH hE h hnt;exact bF h hd (mw ho h1) (t:=.one l) h2 hk
 |none=>
 rw[hnt]at hk;simp only at hk;generalize ev E s t x=tx at hx hk;generalize ev E s t y=ty at hy hk;split at hk
 ·obtain⟨l,z,h1,h2,h3⟩:=BL (x:=x) (y:=y) hE hx hy hk;exact bF h hd (mw ho h1) (t:=.one l) h2 h3
 ·rename_i xs ys;obtain⟨i,hi,hk⟩:=aA hk;obtain⟨(b:Bool),h1,h2⟩:=aA hk;obtain⟨us,e1,hu⟩:=hx;obtain⟨vs,e2,hv⟩:=hy;cases hq:E.E9 t with
  |false=>rw[hq]at h1;cases h1
  |true=>
   rw[hq]at h1;obtain⟨k1,k2,k3⟩:=lH i.cs xs ys us vs b h1 hu hv;split at h2
   ·have:=hE.eqs t i hi hq .eql x y us vs w (.inl rfl) k1 k2;exact bF h hd (mw ho (by rw[e1,e2];exact this)) (t:=.one (.val .bool b)) (congrArg Value.bool k3.symm) h2
   ·have:=hE.eqs t i hi hq .neq x y us vs w (.inr rfl) k1 k2;exact bF h hd (mw ho (by rw[e1,e2];exact this)) (t:=.one (.val .bool (!b))) (congrArg (fun b=>Value.bool (!b)) k3.symm) h2
   ·cases h2
 ·cases hk
theorem Cm {op:UnOp} {t:Nat} {x:Operand} (ho:o.op=.unOp op t x) (h:Rel H ω a w s) (hd:∀d,o.dst=some d->d<a.tmps.size) {Φ:bV->Option (Callee real (Option R))}
  (hk:bp E (aP R) Φ o s k=some r):o.wp P a w (Ends H ω a w o.dst k r) Q:=by
 have hx:=bX h E t x;unfold bp at hk;simp only[ho]at hk;generalize ev E s t x=tx at hx hk;split at hk
 ·rename_i b;have hv:a.eval x=.bool b:=hx;exact bF h hd (v:=.bool (!b)) (by unfold execOp;simp[ho,hv,Op.unary]) (t:=.one (.val .bool (real.A6 b))) rfl hk
 ·rename_i kk n;have hv:a.eval x=.int kk n:=hx;exact bF h hd (v:=.int kk (DA kk n)) (by unfold execOp;simp[ho,hv,Op.unary,Op.intArith,DA]) (t:=.one (.val (.int kk) (real.neg kk n))) rfl hk
 ·cases hk
theorem zB{v:Value}{c:Bool×List L}(h:nV w ω s v c):dh H w ω s v (TV.mk c.1 c.2):=by
 obtain⟨b,ls⟩:=c;cases b with
 |true=>exact h
 |false=>
  cases ls with
  |nil=>trivial
  |cons l ls=>
   cases ls with
   |nil=>exact h l rfl
   |cons _ _=>trivial
theorem tN {t:Operand} {i:Nat} (ho:o.op=.extract t i) (h:Rel H ω a w s) (hd:∀d,o.dst=some d->d<a.tmps.size) {Φ:bV->Option (Callee real (Option R))}
  (hk:bp E (aP R) Φ o s k=some r):o.wp P a w (Ends H ω a w o.dst k r) Q:=by
 have hx:=bX h E 0 t;unfold bp at hk;simp only[ho]at hk;generalize ev E s 0 t=tx at hx hk;split at hk
 ·rename_i cs;obtain⟨c,h1,h2⟩:=aA hk;obtain⟨us,e1,hu⟩:=hx;obtain⟨v,h3,h4⟩:=hu.get i c h1;exact bF h hd (v:=v) (by unfold execOp;simp[ho,e1,Instr.extract,h3]) (zB h4) h2
 ·cases hk
end
end Go.R
namespace Go.R
variable {H:Nat->Value}
def fM(agg:Bool)(us:List Value):Value:=match agg with
 |true=>.agg us.toArray
 |false=>us.headD undef
theorem Fq{d:TypeDesc}(h:d.isRow=false):(∀fs,d≠.struct fs)/\(∀n e,d≠.array n e):=by
 constructor
 ·intro fs e;subst e;cases h
 ·intro n e' e;subst e;cases h
section
variable {R:Type} {P:Program} {E:Env} {ω:aJ} {a:Act} {w:World} {s:S} {k:S->Option R} {r:R} {o:Oper} {Q:Exit->Act->World->Prop}
theorem yJ{t:Nat}{i:TI}{I:TypeInfo}{d:TypeDesc}(ok:ud P t i I d)(w:World):(isAgg t).run P w=.ok i.agg w:=by unfold isAgg;rw[Sem.run_bind,run_underlying ok.zl w,<-ok.row];cases d <;> rfl
theorem kr{t:Nat}{i:TI}{I:TypeInfo}{d:TypeDesc}(ok:ud P t i I d){b off:Nat}{us:List Value}(hr:w.rangeAt b off us)(hl:us.length=i.cs.len):
  (Instr.loadAt t (.pointer (some ⟨b,off,none⟩))).run P w=.ok (fM i.agg us) w:=by
 cases hg:i.agg with
 |true=>exact run_loadAt_mid w b off t us d hr ok.zl (by rw[ok.row,hg]) (by rw[ok.info];simp[ok.size,hl])
 |false=>
  have h1:=ok.one hg;rw[h1]at hl;match us,hl with
  | [u],_=>have hc:=hr 0 u rfl;simp only[Nat.add_zero]at hc;have ha:=yJ ok w;rw[hg]at ha;simp[Instr.loadAt,Instr.sureAddr,loadVar,Sem.run_bind,ha,fM,run_load,hc]
theorem yg{t:Nat}{x:Operand}(ho:o.op=.load t x){z:Value}(h:(Instr.loadAt t (a.eval x)).run P w=.ok z w):(execOp a.eval o).run P w=.ok (.value z) w:=by unfold execOp;simp only[ho];rw[Sem.run_bind,h];rfl
theorem sR{us:List Value}{ls:List L}(h:bj (cA w ω s) us ls)(agg:Bool):dh H w ω s (fM agg us) (TV.mk agg ls):=by
 cases agg with
 |true=>exact⟨us,rfl,h⟩
 |false=>
  match us,ls,h with
  | [],[],_=>trivial
  | [u],[l],h=>exact h.1
  |_::_::_,_::_::_,_=>trivial
theorem jg{w':World}(mk:Nat->(t:Ty)->real.V t->L):∀(cs:aK) (md:Nat->Md) (g:Nat->Option Value) (j:Nat) (x:cs.T),cs.R w ω md g j x ->
  (∀(k:Nat) (t:Ty) (y:t.T),cellAt (A:=real) cs x k=some ⟨t,y⟩->∀v,t.R w ω (md (j+k)) v y->cA w' ω s v (mk (j+k) t y)) ->
  ∃us:List Value,us.length=cs.len/\(∀k u,us[k]? = some u->g (j+k)=some u)/\bj (cA w' ω s) us (unpack (A:=real) mk cs x j)
 | .nil,_,_,_,_,_,_=>⟨[],rfl,fun k u h=>by simp at h,trivial⟩
 | .cons t ts,md,g,j,x,h,hm=>by
  obtain⟨⟨v,h1,h2⟩,h3⟩:=h;obtain⟨us,e1,e2,e3⟩:=jg mk ts md g (j+1) _ h3 (fun k t' y hc v' hv=>by have:=hm (k+1) t' y hc v' (by rw[show j+(k+1)=j+1+k by omega];exact hv);rwa[show j+(k+1)=j+1+k by omega]at this);refine⟨v::us,by simp[aK.len,e1],fun k u hu=>?_,⟨hm 0 t _ rfl v h2,e3⟩⟩;cases k with
  |zero=>simp at hu;rw[<-hu];exact h1
  |succ k=>have:=e2 k u (by simpa using hu);rwa[show j+1+k=j+(k+1)by omega]at this
theorem iF(mk:Nat->(t:Ty)->real.V t->L):∀(cs:aK) (x:cs.T) (j:Nat),(unpack (A:=real) mk cs x j).length=cs.len
 | .nil,_,_=>rfl
 | .cons t ts,x,j=>by have:=iF mk ts (real.tl x) (j+1);simp only[unpack,aK.len,List.length_cons];rw[this]
theorem lV{b off:Nat}{us:List Value}(h:w.rangeAt b off us)(m n:Nat):w.rangeAt b (off+m) ((us.drop m).take n):=by
 intro j v hv;have hj:j<n:=by have:=(List.getElem?_eq_some_iff.1 hv).1;simp at this;omega
 rw[List.getElem?_take_of_lt hj,List.getElem?_drop]at hv;have:=h (m+j) v hv;rwa[<-Nat.add_assoc]at this
theorem n8(md:Nat)(i:IV)(j:Nat):∀(p:jR) (e:Nat) (cs:aK) (x:real.V (.sl e cs)) (c:Cont real),follow md e cs x p=some c ->
  ∀(e':Nat) (cs':aK) (y:real.V (.sl e' cs')),cellAt c.cs (real.get c.x i) j=some ⟨.sl e' cs',y⟩->follow md e cs x (p++[(i,j)])=some ⟨e',cs',y,md⟩
 | [],e,cs,x,c,h,e',cs',y,hc=>by
  injection h with h
  subst h;simp only[List.nil_append,follow];have eo:cellAt cs (real.get x i) j=some ⟨.sl e' cs',y⟩:=hc;rw[eo]
 |(i',j')::p,e,cs,x,c,h,e',cs',y,hc=>by
  simp only[follow,List.cons_append]at h⊢;cases hq:cellAt cs (real.get x i') j' with
  |none=>rw[hq]at h;cases h
  |some z=>
   obtain⟨t,z⟩:=z;rw[hq]at h;cases t with
   |sl e1 Iq=>exact n8 md i j p _ _ z c h e' cs' y hc
   |_=>cases h
theorem iQ(md:Nat):∀(p:jR) (e:Nat) (cs:aK) (x:real.V (.sl e cs)) (c:Cont real),follow md e cs x p=some c->c.md=md
 | [],e,cs,x,c,h=>by injection h with h;rw[<-h]
 |(i',j')::p,e,cs,x,c,h=>by
  simp only[follow]at h;split at h
  ·exact iQ md p _ _ _ c h
  ·cases h
theorem dF{id g h:Nat}{p:jR}{c:Cont real}(hc:s.cont id g h p = some c):(s.ob id).g = g /\
    ((∃dp, (s.ob id).o = .arr c.e c.cs dp c.x /\ p = [] /\ c.md = bif dp then 2 else 1) \/
     (∃e cs x, (s.ob id).o = .arr e cs true x /\ p ≠ [] /\ (s.ob id).h = h /\ follow 2 e cs x p = some c) \/
     ((s.ob id).o = .cB c.e c.cs c.x /\ p = [] /\ c.md = 0)):=by
  unfold St.cont at hc;cases hb:Nat.beq (s.ob id).g g with
  |false=>rw[hb]at hc; cases hc
  |true=>
    rw[hb]at hc;simp only[cond_true]at hc;refine⟨Nat.eq_of_beq_eq_true hb, ?_⟩;unfold fX.cont at hc;cases ho:(s.ob id).o with
    |blk _=>rw[ho]at hc; cases hc
    |gone=>rw[ho]at hc; cases hc
    |mp _ _=>rw[ho]at hc; cases hc
    |arr e cs dp x=>
      rw[ho]at hc;cases p with
      |nil=>injection hc with hc; subst hc; exact .inl ⟨dp, rfl, rfl, rfl⟩
      |cons st p=>
        simp only at hc;cases hd:dp&&Nat.beq (s.ob id).h h with
        |false=>rw[hd]at hc; cases hc
        |true=>rw[hd]at hc;rw[Bool.and_eq_true]at hd;obtain⟨rfl, hh⟩:=hd;exact .inr (.inl ⟨e, cs, x, rfl, by simp, Nat.eq_of_beq_eq_true hh, hc⟩)
    |cB e cs x=>
      rw[ho]at hc;cases p with
      |nil=>injection hc with hc; subst hc; exact .inr (.inr ⟨rfl, rfl, rfl⟩)
      |cons st p=>cases hc
theorem yd {id g h:Nat} {p:jR} {c:Cont real} (hc:s.cont id g h p=some c) (hm:c.md=2) (i:IV) (j:Nat) {e':Nat} {cs':aK} {y:real.V (.sl e' cs')}
  (hy:cellAt c.cs (real.get c.x i) j=some ⟨.sl e' cs',y⟩):s.cont id g (s.ob id).h (p++[(i,j)])=some ⟨e',cs',y,2⟩:=by
 obtain⟨hg,h3⟩:=dF hc;have go:∀(e:Nat) (cs:aK) (x:real.V (.sl e cs)),(s.ob id).o=.arr e cs true x->follow 2 e cs x p=some c->s.cont id g (s.ob id).h (p++[(i,j)])=some ⟨e',cs',y,2⟩:=by
  intro e cs x ho hf;have hs:=n8 2 i j p e cs x c hf e' cs' y hy;unfold St.cont fX.cont;rw[hg,fY,ho];simp only[cond_true];cases hp:p++[(i,j)]with
  |nil=>simp at hp
  |cons st q=>rw[hp]at hs;simp only[fY,Bool.and_self,cond_true];exact hs
 rcases h3 with ⟨dp,ho,hp,jT⟩|⟨e,cs,x,ho,hp,hh,hf⟩|⟨ho,hp,jT⟩
 ·have xq:dp=true:=by cases dp with|true=>rfl|false=>rw[hm]at jT;cases jT
  subst xq;subst hp;refine go c.e c.cs c.x ho ?_;obtain⟨ce,FB,cx,cmd⟩:=c;simp only at hm;subst hm;rfl
 ·exact go e cs x ho hf
 ·rw[hm]at jT;cases jT
end
end Go.R
namespace Go.R
variable {H:Nat->Value}
section
variable {R:Type} {P:Program} {E:Env} {ω:aJ} {a:Act} {w:World} {s:S} {k:S->Option R} {r:R} {o:Oper} {Q:Exit->Act->World->Prop}
theorem wu{b o':Nat}{cs:aK}{x:cs.T}(h:cs.R w ω (fun _=>.cB) (fun j=>w.cell? ⟨b,o'+j,none⟩) 0 x):
  ∃us:List Value,us.length=cs.len/\w.rangeAt b o' us/\bj (cA w ω s) us (unpack (A:=real) u5 cs x 0):=by
 obtain⟨us,h1,h2,h3⟩:=jg (w':=w) (s:=s) (u5 (A:=real)) cs (fun _=>.cB) _ 0 x h (fun k t y _ v hv=>hv);exact⟨us,h1,fun j u hu=>by have:=h2 j u hu;simpa using this,h3⟩
theorem yG{id md:Nat}{p:jR}{e:Nat}{cs:aK}{v:Value}{x:List cs.T}(hm:md≠0)(hp:md=1->p=[])(h:(Ty.sl e cs).R w ω (bk md id p) v x)(hx:0<x.length):
  ∃b arr c,v=.slice (some ⟨b,0,none⟩) x.length c/\x.length<=c/\w.heap[b]? = some (.cells arr e (0,0))/\arr.size=c*cs.len/\ω b=some (id,bG p):=by
 obtain⟨ad,n,c,h1,h2,h3,h4,_⟩:=h;subst h2;have key:Hd w ω e cs.len (.flat (id,bG p)) ad x.length c:=by
  unfold bk at h4;match md,hm,hp,h4 with
  |1,_,hp,h4=>rw[hp rfl];exact h4
  |n+2,_,_,h4=>exact h4
 rcases key with ⟨e1,e2⟩|⟨b,arr,e1,e2,e3,e4⟩
 ·omega
 ·subst e1;exact⟨b,arr,c,h1,h3,e2,e3,e4⟩
theorem kQ{id g h:Nat}{p:jR}{c:Cont real}(hc:s.cont id g h p=some c):(c.md=1->p=[])/\(c.md=0\/c.md=1\/c.md=2):=by
 obtain⟨_,h3⟩:=dF hc;rcases h3 with ⟨dp,ho,hp,jT⟩|⟨e,cs,x,ho,hp,hh,hf⟩|⟨ho,hp,jT⟩
 ·exact⟨fun _=>hp,by cases dp with|true=>exact .inr (.inr jT)|false=>exact .inr (.inl jT)⟩
 ·have:=iQ 2 p e cs x c hf;exact⟨fun h=>(by rw[this]at h;cases h),.inr (.inr this)⟩
 ·exact⟨fun _=>hp,.inl jT⟩
theorem cZ{id g:Nat}{cells:List L}(hb:dA s id g=some cells):(s.ob id).g=g/\(s.ob id).o=.blk cells:=by
 unfold dA at hb;cases hg:Nat.beq (s.ob id).g g with
 |false=>rw[hg]at hb;cases hb
 |true=>
  rw[hg]at hb;simp only[cond_true]at hb;refine⟨Nat.eq_of_beq_eq_true hg,?_⟩;cases ho:(s.ob id).o with
  |blk cs=>rw[ho]at hb;injection hb with hb;rw[hb]
  |_=>rw[ho]at hb;cases hb
theorem yH{b:Nat}{arr:Array Value}{T:Nat}(hh:w.heap[b]? = some (.cells arr T (0,0))):w.rangeAt b 0 arr.toList:=by intro j v hv;rw[Nat.zero_add,cell_of_row w b j arr T (0,0) hh];simpa using hv
theorem ql{id g h:Nat}{p:jR}{c:Cont real}(hc:s.cont id g h p=some c)(hm:c.md≠0){v:Value}(hr:(Ty.sl c.e c.cs).R w ω (bk c.md id p) v c.x)(i:IV)(h0:0<=IV.i i)(h1:IV.i i<(List.length c.x:Int)):
  ∃b arr cp,ω b=some (id,bG p)/\w.heap[b]? = some (.cells arr c.e (0,0))/\arr.size=cp*c.cs.len/\List.length c.x<=cp/\v=.slice (some ⟨b,0,none⟩) (List.length c.x) cp /\
   ∃us:List Value,us.length=c.cs.len/\w.rangeAt b ((IV.i i).toNat*c.cs.len) us /\
    bj (cA w ω s) us (unpack (A:=real) (wG s id g p i c.md) c.cs (real.get c.x i) 0):=by
 have hx:0<List.length c.x:=by omega
 obtain⟨b,arr,cp,e1,e2,e3,e4,e5⟩:=yG hm (kQ hc).1 hr hx;obtain⟨ad,n,c',f1,f2,f3,f4,f5⟩:=hr;rw[e1]at f1;injection f1 with g1 g2 g3
 have hel:=f5 (IV.i i).toNat ⟨b,0,none⟩ (by omega) g1.symm;refine⟨b,arr,cp,e5,e3,e4,e2,e1,?_⟩;have hg:real.get c.x i=List.getD c.x (IV.i i).toNat (lB c.cs):=rfl;rw[hg];obtain⟨us,h1',h2',h3'⟩:=jg (w':=w) (s:=s) (wG s id g p i c.md) c.cs _ _ 0 _ hel (fun k t y hcell v hv=>by
  rcases(kQ hc).2 with Az|CI|CJ
  ·exact absurd Az hm
  ·rw[CI]at hv⊢;exact hv
  ·rw[CJ]at hv⊢;simp only[Nat.zero_add]at hv⊢;cases t with
   |sl e' cs'=>
    have hcs:=yd hc CJ i k (e':=e') (cs':=cs') (y:=y) hcell;refine⟨by rw[(dF hc).1];exact Nat.le_refl _,by simp,fun FA BS=>?_⟩;rw[hcs]at BS;injection BS with BS
    subst BS;have:bk 2 id (p++[(i,k)])=(bk 2 id p).inner (IV.i i).toNat k:=by simp[bk,Md.inner,bG]
    rw[this];exact hv
   |int _=>exact hv
   |bool=>exact hv
   |str=>exact hv)
 exact⟨us,h1',fun j u hu=>by have:=h2' j u hu;simpa using this,h3'⟩
theorem uW(h:Rel H ω a w s){t:Nat}{i:TI}{I:TypeInfo}{d:TypeDesc}(ok:ud P t i I d){v:Value}{l:L}(hl:cA w ω s v l){z:cm}(hz:iU s i.agg i.cs.len l=some z):
  ∃u,(Instr.loadAt t v).run P w=.ok u w/\dh H w ω s u z:=by
 cases l with
 |ptr id g off=>
  simp only[iU]at hz;cases hb:dA s id g with
  |none=>rw[hb]at hz;cases hz
  |some cells=>
   rw[hb]at hz;simp only at hz;split at hz
   ·rename_i hle;injection hz with hz
    subst hz;obtain⟨e1,e2⟩:=cZ hb;obtain⟨b,f1,f2⟩:=hl.2 e1 cells e2;obtain⟨b',arr,T,g1,g2,g3⟩:=h.dB id cells e2;obtain rfl:=h.inj _ _ _ f1 g1;subst f2;have hlen:=g3.length;refine⟨_,kr ok (us:=(arr.toList.drop off).take i.cs.len) (by have:=lV (yH g2) off i.cs.len;simpa using this) (by simp at hlen⊢;omega),sR ((g3.drop off).take _) i.agg⟩
   ·cases hz
 |cj id g hh p j off=>
  simp only[iU]at hz;cases hc:s.cont id g hh p with
  |none=>rw[hc]at hz;cases hz
  |some c=>
   rw[hc]at hz;simp only at hz;have hm:c.md≠0:=by intro e;rw[e]at hz;cases hz
   rw[lD hm]at hz;simp only[cond_false]at hz;split at hz
   ·rename_i hle;injection hz with hz
    subst hz;obtain⟨h0,h1,⟨b,f1,f2⟩,v',f3⟩:=hl.2.2 c hc hm;obtain⟨b',arr,cp,g1,g2,g3,g4,g5,us,u1,u2,u3⟩:=ql hc hm f3 j h0 h1;obtain rfl:=h.inj _ _ _ f1 g1;subst f2;have hlen:=iF (wG s id g p j c.md) c.cs (real.get c.x j) 0;rw[hlen]at hle;refine⟨_,kr ok (us:=(us.drop off).take i.cs.len) (lV u2 off i.cs.len) (by simp;omega),sR ((u3.drop off).take _) i.agg⟩
   ·cases hz
 |ez cs x off=>
  simp only[iU]at hz;split at hz
  ·rename_i hle;injection hz with hz
   subst hz;obtain⟨b,o',f1,f2,f3,f4⟩:=hl;subst f3;obtain⟨us,u1,u2,u3⟩:=wu (s:=s) f4;have hlen:=iF (u5 (A:=real)) cs x 0;rw[hlen]at hle;exact⟨_,kr ok (us:=(us.drop off).take i.cs.len) (lV u2 off i.cs.len) (by simp;omega),sR ((u3.drop off).take _) i.agg⟩
  ·cases hz
 |_=>cases hz
theorem yR (hE:cq P E) {t:Nat} {x:Operand} (ho:o.op=.load t x) (h:Rel H ω a w s) (hd:∀d,o.dst=some d->d<a.tmps.size) {Φ:bV->Option (Callee real (Option R))}
  (hk:bp E (aP R) Φ o s k=some r):o.wp P a w (Ends H ω a w o.dst k r) Q:=by
 have hx:=bX h E 0 x;unfold bp at hk;simp only[ho]at hk;obtain⟨i,h1,hk⟩:=aA hk;obtain⟨I,d,ok⟩:=hE.ti _ _ h1;generalize ev E s 0 x=tx at hx hk;split at hk
 ·obtain⟨z,h2,hk⟩:=aA hk;obtain⟨u,h3,h4⟩:=uW h ok hx h2;exact bF h hd (yg ho h3) h4 hk
 ·cases hk
theorem sq(h:Rel H ω a w s):∀(xs:List Operand) (cc:List (df real)),(xs.mapM fun c=>uy (ev E s 0 c))=some cc->bj (fun v c=>gC w ω s v c) (xs.map a.eval) cc
 | [],cc,hc=>by
  have:cc=[]:=by simpa using hc.symm
  subst this;trivial
 |x::xs,cc,hc=>by
  rw[List.mapM_cons]at hc;obtain⟨c,h1,hc⟩:=Option.bind_eq_some_iff.1 hc;obtain⟨cs,h2,hc⟩:=Option.bind_eq_some_iff.1 hc;have:cc=c::cs:=by simpa using hc.symm
  subst this;refine⟨?_,sq h xs cs h2⟩;have hx:=bX h E 0 x;unfold uy at h1;split at h1
  ·rename_i id g e;rw[e]at hx;injection h1 with h1;subst h1;exact hx
  ·rename_i cs x e;rw[e]at hx;injection h1 with h1;subst h1;exact hx
  ·cases h1
theorem rD {f:FuncId} {first captured:Array Operand} (ho:o.op=.makeFunc (.func f) first captured) (h:Rel H ω a w s) (hd:∀d,o.dst=some d->d<a.tmps.size) {Φ:bV->Option (Callee real (Option R))}
  (hk:bp E (aP R) Φ o s k=some r):o.wp P a w (Ends H ω a w o.dst k r) Q:=by
 unfold bp at hk;simp only[ho]at hk;cases hs:Nat.beq first.size 0 with
 |false=>rw[hs]at hk;cases hk
 |true=>
  rw[hs]at hk;obtain⟨cc,h1,h2⟩:=aA hk;have hf:first = #[]:=Array.eq_empty_of_size_eq_zero (Nat.eq_of_beq_eq_true hs)
  subst hf;refine bF h hd (v:=.func (.func f) #[] (captured.map a.eval)) ?_ (t:=.one (.fn f cc)) ⟨captured.toList.map a.eval,?_,sq h _ _ h1⟩ h2
  ·unfold execOp;simp[ho,Instr.makeFunc]
  ·congr 1;apply Array.ext';simp
theorem wV (hE:cq P E) {t f:Nat} {x:Operand} (ho:o.op=.field t x f) (h:Rel H ω a w s) (hd:∀d,o.dst=some d->d<a.tmps.size) {Φ:bV->Option (Callee real (Option R))}
  (hk:bp E (aP R) Φ o s k=some r):o.wp P a w (Ends H ω a w o.dst k r) Q:=by
 have hx:=bX h E t x;unfold bp at hk;simp only[ho]at hk;obtain⟨i,h1,hk⟩:=aA hk;obtain⟨q,h2,hk⟩:=aA hk;obtain⟨I,d,ok⟩:=hE.ti _ _ h1;have Ah:i.agg=true:=by
  cases hg:i.agg with
  |true=>rfl
  |false=>rw[hg]at hk;cases hk
 rw[Ah]at hk;simp only[Bool.not_true,cond_false]at hk;obtain⟨fs,g1,g2,g3⟩:=ok.fQ Ah;obtain⟨F,FI,Fd,f1,f2,f3,f4,f5,f6,f7,GA⟩:=g3 f q h2;subst g1;generalize ev E s t x=tx at hx hk;split at hk
 ·rename_i ls;obtain⟨us,e1,hu⟩:=hx;cases hb:Nat.ble (q.1+q.2.1) ls.length with
  |false=>rw[hb]at hk;cases hk
  |true=>
   rw[hb]at hk;simp only[cond_true]at hk;have hle:=Nat.le_of_ble_eq_true hb;have hlen:=hu.length;refine bF h hd (v:=fM q.2.2 ((us.drop q.1).take q.2.1)) ?_ (sR ((hu.drop q.1).take q.2.1) q.2.2) hk;have pT:(part F.type us.toArray F.offset).run P w=.ok (fM q.2.2 ((us.drop q.1).take q.2.1)) w:=by
    have ha:(isAgg F.type).run P w=.ok q.2.2 w:=by unfold isAgg;rw[Sem.run_bind,run_underlying f6 w,<-f7];cases Fd <;> rfl
    unfold part;rw[Sem.run_bind,ha];cases hq:q.2.2 with
    |true=>simp[sizeOf,typeInfo,f3,f4,f2,fM]
    |false=>
     have h1:=GA hq;have hlt:q.1<us.length:=by omega
     rw[h1];simp[f2,fM,List.getElem?_eq_getElem hlt];rw[List.drop_eq_getElem_cons hlt];rfl
   unfold execOp;simp only[ho,e1];simp[Instr.field,run_underlying ok.zl,f1,asAgg,pT]
 ·cases hk
theorem qI (hE:cq P E) {t f:Nat} {x:Operand} (ho:o.op=.fieldAddr t x f) (h:Rel H ω a w s) (hd:∀d,o.dst=some d->d<a.tmps.size) {Φ:bV->Option (Callee real (Option R))}
  (hk:bp E (aP R) Φ o s k=some r):o.wp P a w (Ends H ω a w o.dst k r) Q:=by
 have hx:=bX h E 0 x;unfold bp at hk;simp only[ho]at hk;obtain⟨i,h1,hk⟩:=aA hk;obtain⟨q,h2,hk⟩:=aA hk;obtain⟨I,d,ok⟩:=hE.ti _ _ h1;have Ah:i.agg=true:=by
  cases hg:i.agg with
  |true=>rfl
  |false=>rw[hg]at hk;cases hk
 rw[Ah]at hk;simp only[Bool.not_true,cond_false]at hk;obtain⟨fs,g1,g2,g3⟩:=ok.fQ Ah;obtain⟨F,FI,Fd,f1,f2,f3,f4,f5,f6,f7,GA⟩:=g3 f q h2;subst g1;have hrun:∀b off,(Instr.fieldAt t (.pointer (some ⟨b,off,none⟩)) f).run P w=.ok (.pointer (some ⟨b,off+q.1,none⟩)) w:=by
  intro b off;have hn:FI.size≠0:=by omega
  simp[Instr.fieldAt,run_underlying ok.zl,f1,Instr.sureAddr,fieldPlace,sizeOf,typeInfo,f3,hn,Addr.add_mid,f2]
 have hex:∀z,(Instr.fieldAt t (a.eval x) f).run P w=.ok z w->(execOp a.eval o).run P w=.ok (.value z) w:=by intro z hz;unfold execOp;simp only[ho];rw[Sem.run_bind,hz];rfl
 generalize ev E s 0 x=tx at hx hk;generalize hv:a.eval x=v at hx hex;split at hk
 ·rename_i id g off;obtain⟨cells,h3,hk⟩:=aA hk;obtain⟨e1,e2⟩:=cZ h3;obtain⟨b,f8,f9⟩:=hx.2 e1 cells e2;subst f9;exact bF h hd (hex _ (hrun b off)) (t:=.one (.ptr id g (off+q.1))) ⟨hx.1,fun hg cells' hc=>⟨b,f8,rfl⟩⟩ hk
 ·rename_i id g hh p j off;obtain⟨c,h3,hk⟩:=aA hk;have hm:c.md≠0:=by intro e;rw[e]at hk;cases hk
  rw[lD hm]at hk;obtain⟨u1,u2,⟨b,f8,f9⟩,u3⟩:=hx.2.2 c h3 hm;subst f9;refine bF h hd (hex _ (hrun b _)) (t:=.one (.cj id g hh p j (off+q.1))) ⟨hx.1,hx.2.1,fun c' eo hm'=>?_⟩ hk;rw[h3]at eo;injection eo with eo
  subst eo;exact⟨u1,u2,⟨b,f8,by rw[Nat.add_assoc]⟩,u3⟩
 ·rename_i cs y off;obtain⟨b,o',u1,u2,u3,u4⟩:=hx;subst u3;exact bF h hd (hex _ (hrun b _)) (t:=.one (.ez cs y (off+q.1))) ⟨b,o',u1,u2,by rw[Nat.add_assoc],u4⟩ hk
 ·cases hk
theorem rE {x:Operand} (ho:o.op=.nilCheck x) (h:Rel H ω a w s) (hd:∀d,o.dst=some d->d<a.tmps.size) {Φ:bV->Option (Callee real (Option R))}
  (hk:bp E (aP R) Φ o s k=some r):o.wp P a w (Ends H ω a w o.dst k r) Q:=by
 have hx:=bX h E 0 x;unfold bp at hk;simp only[ho]at hk;have hex:∀ad,a.eval x=.pointer (some ad)->(execOp a.eval o).run P w=.ok (.value (.pointer (some ad))) w:=by intro ad hz;unfold execOp;simp[ho,hz]
 generalize ev E s 0 x=tx at hx hk;generalize hv:a.eval x=v at hx hex;split at hk
 ·rename_i id g off;obtain⟨cells,h3,hk⟩:=aA hk;obtain⟨e1,e2⟩:=cZ h3;obtain⟨b,f8,f9⟩:=hx.2 e1 cells e2;exact bF h hd (by rw[hex _ f9,<-f9]) hx hk
 ·rename_i id g hh p j off;obtain⟨c,h3,hk⟩:=aA hk;have hm:c.md≠0:=by intro e;rw[e]at hk;cases hk
  rw[lD hm]at hk;obtain⟨u1,u2,⟨b,f8,f9⟩,u3⟩:=hx.2.2 c h3 hm;exact bF h hd (by rw[hex _ f9,<-f9]) hx hk
 ·rename_i cs y off;obtain⟨b,o',u1,u2,u3,u4⟩:=hx;exact bF h hd (by rw[hex _ u3,<-u3]) (t:=.one (.ez cs y off)) ⟨b,o',u1,u2,u3,u4⟩ hk
 ·cases hk
end
end Go.R
namespace Go.R
variable {H:Nat->Value}
section
variable {R:Type} {P:Program} {E:Env} {ω:aJ} {a:Act} {w:World} {s:S} {k:S->Option R} {r:R} {o:Oper} {Q:Exit->Act->World->Prop}
theorem kq(hE:cq P E){t e:Nat}{cs:aK}(hs:E.mT t=some (e,cs))(b off n c:Nat)(i:Int)(h0:0<=i)(h1:i<(n:Int)):
  (Instr.indexAt t (.slice (some ⟨b,off,none⟩) n c) (.int .i64 i)).run P w=.ok (.pointer (some ⟨b,off+i.toNat*cs.len,none⟩)) w:=by
 obtain⟨hu,j,I,d,hj,hcs,ok⟩:=gJ hE hs;have hsz:I.size=cs.len:=by rw[ok.size,hcs]
 simp[Instr.indexAt,asIntOf,run_underlying hu,h0,h1,sizeOf,typeInfo,ok.info,hsz,Addr.add_mid]
theorem AF{α:Type}{x:List α}{i:Int}(h:ah x i=true):0<=i/\i<(x.length:Int):=by unfold ah at h;rw[Bool.and_eq_true]at h;exact⟨of_decide_eq_true h.1,of_decide_eq_true h.2⟩
theorem uS{e:Nat}{cs:aK}{v:Value}{x:List cs.T}(h:(Ty.sl e cs).R w ω .cB v x){i:Int}(h0:0<=i)(h1:i<(x.length:Int)):
  ∃b off c,v=.slice (some ⟨b,off,none⟩) x.length c/\ω b=none/\b<w.heap.size/\cs.R w ω (fun _=>.cB) (fun j=>w.cell? ⟨b,off+i.toNat*cs.len+j,none⟩) 0 (ae (lB cs) x i):=by
 obtain⟨ad,n,c,e1,e2,e3,e4,e5⟩:=h;subst e2;obtain⟨b,off,f1,f2,f3⟩:=e4 (by omega);subst f1;exact⟨b,off,c,e1,f2,f3,e5 i.toNat _ (by omega) rfl⟩
theorem qJ (hE:cq P E) {t:Nat} {x ix:Operand} (ho:o.op=.indexAddr t x ix) (h:Rel H ω a w s) (hd:∀d,o.dst=some d->d<a.tmps.size) {Φ:bV->Option (Callee real (Option R))}
  (hk:bp E (aP R) Φ o s k=some r):o.wp P a w (Ends H ω a w o.dst k r) Q:=by
 have hx:=bX h E t x;have hi:=bX h E 3 ix;unfold bp at hk;simp only[ho]at hk;obtain⟨(i:Int),h1,hk⟩:=aA hk;obtain⟨⟨e,cs⟩,h2,hk⟩:=aA hk;have FT:=iv h1 hi;have hex:∀z,(Instr.indexAt t (a.eval x) (.int .i64 i)).run P w=.ok z w->(execOp a.eval o).run P w=.ok (.value z) w:=by intro z hz;unfold execOp;simp only[ho,FT];rw[Sem.run_bind,hz];rfl
 generalize ev E s t x=tx at hx hk;generalize hv:a.eval x=v at hx hex;split at hk
 ·rename_i e' cs' y;cases hb:aK.beq cs cs' with
  |false=>simp only[hb]at hk;cases hk
  |true=>
   simp only[hb,cond_true]at hk;obtain rfl:=aK.eq_of_beq hb;have hk':(bif ah y i then k (s.ck o.dst (.one (.ez cs (real.get (e:=e') y i) 0)))else none)=some r:=hk;cases hr:ah y i with
   |false=>rw[hr]at hk';cases hk'
   |true=>rw[hr]at hk';obtain⟨h0,h1'⟩:=AF hr;obtain⟨b,off,c,f1,f2,f3,f4⟩:=uS hx h0 h1';subst f1;exact bF h hd (hex _ (kq hE h2 b off _ c i h0 h1')) (t:=.one (.ez cs (real.get (e:=e') y i) 0)) ⟨b,_,f2,f3,rfl,f4⟩ hk'
 ·rename_i id g hh p;obtain⟨c,h3,cM⟩:=aA hk;clear hk;cases hb:aK.beq cs c.cs with
  |false=>simp only[hb]at cM;cases cM
  |true=>
   simp only[hb,cond_true]at cM;obtain rfl:=aK.eq_of_beq hb;have hk':(bif ah c.x i then(bif Nat.beq c.md 0 then k (s.ck o.dst (.one (.ez c.cs (real.get c.x i) 0)))else k (s.ck o.dst (.one (.cj id g hh p i 0))))else none)=some r:=cM;cases hr:ah c.x i with
   |false=>rw[hr]at hk';cases hk'
   |true=>
    rw[hr]at hk';simp only[cond_true]at hk';obtain⟨h0,h1'⟩:=AF hr;have hR:=hx.2.2 c h3;by_cases hm:c.md=0
    ·rw[hm]at hk' hR;obtain⟨b,off,cp,f1,f2,f3,f4⟩:=uS hR h0 h1';subst f1;exact bF h hd (hex _ (kq hE h2 b off _ cp i h0 h1')) (t:=.one (.ez c.cs (real.get c.x i) 0)) ⟨b,_,f2,f3,rfl,f4⟩ hk'
    ·rw[lD hm]at hk';obtain⟨b,arr,cp,g1,g2,g3,g4,g5,us,u1,u2,u3⟩:=ql h3 hm hR i h0 h1';subst g5;refine bF h hd (hex _ (kq hE h2 b 0 _ cp i h0 h1')) (t:=.one (.cj id g hh p i 0)) ⟨hx.1,hx.2.1,fun c' eo hm'=>?_⟩ hk';rw[h3]at eo;injection eo with eo
     subst eo;exact⟨h0,h1',⟨b,g1,by simp;rfl⟩,_,hR⟩
 ·cases hk
theorem pX(hE:cq P E){t:Nat}(h:kN E t=true):P.underlying t=some .string:=by
 unfold kN at h;split at h
 ·rename_i i hi;obtain⟨I,d,ok⟩:=hE.ti _ _ hi;rw[Bool.and_eq_true]at h;obtain⟨h1,h2⟩:=h;have hc:i.cs=.cons .str .nil:=by
   split at h1
   ·rename_i e;exact e
   ·cases h1
  rw[ok.zl,ok.DE hc (by simpa using h2)]
 ·cases h
theorem AH{t:cm}{kk:IntKind}{i:Int}{v:Value}(h:AG t=some (⟨kk,i⟩:Sigma fun k=>real.V (.int k)))(hr:dh H w ω s v t):v=.int kk i:=by
 unfold AG at h;split at h
 ·injection h with h
  injection h with e1 e2
  subst e1;subst e2;exact hr
 ·cases h
theorem wW (hE:cq P E) {t:Nat} {x ix:Operand} (ho:o.op=.index t x ix) (h:Rel H ω a w s) (hd:∀d,o.dst=some d->d<a.tmps.size) {Φ:bV->Option (Callee real (Option R))}
  (hk:bp E (aP R) Φ o s k=some r):o.wp P a w (Ends H ω a w o.dst k r) Q:=by
 have hx:=bX h E t x;have hi:=bX h E 3 ix;unfold bp at hk;simp only[ho]at hk;cases hb:kN E t with
 |false=>rw[hb]at hk;cases hk
 |true=>
  rw[hb]at hk;simp only[cond_true]at hk;obtain⟨⟨ik,(i:Int)⟩,h1,hk⟩:=aA hk;obtain⟨(y:ByteArray),h2,hk⟩:=aA hk;have FT:=AH h1 hi;have zv:=xM h2 hx;have hu:=pX hE hb;have hk':(bif kY y i then k (s.ck o.dst (.one (.val (.int .u8) (gk y i))))else none)=some r:=hk;cases hr:kY y i with
  |false=>rw[hr]at hk';cases hk'
  |true=>
   rw[hr]at hk';unfold kY at hr;rw[Bool.and_eq_true]at hr;have h0:=of_decide_eq_true hr.1;have h3:=of_decide_eq_true hr.2;have hlt:i.toNat<y.size:=by omega
   refine bF h hd (v:=.int .u8 (gk y i)) ?_ (t:=.one (.val (.int .u8) (gk y i))) rfl hk';unfold execOp;simp[ho,zv,FT,Instr.index,asIntOf,run_underlying hu,h0,gk,hlt]
theorem uA{t:cm}{v:Value}{c:Cont real}(h:gz s t=some c)(hr:dh H w ω s v t):∃ad cp,v=.slice ad (List.length c.x) cp/\List.length c.x<=cp:=by
 unfold gz at h;split at h
 ·injection h with h
  subst h;obtain⟨ad,n,cp,e1,e2,e3,_⟩:=hr;subst e2;exact⟨ad,cp,e1,e3⟩
 ·injection h with h
  subst h;obtain⟨ad,e1⟩:=hr;exact⟨ad,0,e1,Nat.le_refl _⟩
 ·obtain⟨ad,n,cp,e1,e2,e3,_⟩:=hr.2.2 c h;subst e2;exact⟨ad,cp,e1,e3⟩
 ·cases h
theorem eK {b:Builtin} {args:Array Operand} {fG:Array Nat} (ho:o.op=.call ⟨.builtin b,args,fG⟩) {z:Next} {w':World}
  (h:(builtin b fG o.type (args.map fun| .const _=>true|_=>false) (args.map a.eval)).run P w=.ok z w'):(execOp a.eval o).run P w=.ok z w':=by
 unfold execOp;simp only[ho,resolve];rw[Sem.run_bind];exact h
theorem Ik{α β:Type}(xs:Array α)(ys:Array β){γ:Type}(f:α×β->γ){l:List γ}(h:(xs.toList.zip ys.toList).map f=l):True:=trivial
theorem wY (hE:cq P E) {b:Builtin} {args:Array Operand} {fG:Array Nat} (ho:o.op=.call ⟨.builtin b,args,fG⟩) (hb:b=.len\/b=.min\/b=.max) (hsz:args.size=fG.size) (h:Rel H ω a w s) (hd:∀d,o.dst=some d->d<a.tmps.size) {Φ:bV->Option (Callee real (Option R))}
  (hk:bp E (aP R) Φ o s k=some r):o.wp P a w (Ends H ω a w o.dst k r) Q:=by
 unfold bp at hk;have AC:Nat.beq args.size fG.size=true:=by rw[hsz];exact Nat.beq_refl _
 simp only[ho,AC,cond_true]at hk;obtain⟨args⟩:=args;obtain⟨fG⟩:=fG;simp only at hk hsz;have pV:args.length=fG.length:=by simpa using hsz
 rcases hb with rfl|rfl|rfl
 ·match args,fG,pV with
  | [x],[t],_=>
   have hx:=bX h E t x;simp only[List.zip_cons_cons,List.zip_nil_right,List.map_cons,List.map_nil,dD]at hk;cases hb:kN E t with
   |true=>rw[hb]at hk;simp only[cond_true]at hk;obtain⟨(y:ByteArray),h2,hk⟩:=aA hk;have zv:=xM h2 hx;refine bF h hd (v:=.int .i64 (y.size:Int)) ?_ (t:=.one (.val (.int .i64) (real.DD y))) rfl hk;refine eK ho ?_;simp[builtin,Builtin.len_,run_underlying (pX hE hb),zv,goInt]
   |false=>rw[hb]at hk;simp only[cond_false]at hk;obtain⟨⟨e,cs⟩,h1,hk⟩:=aA hk;obtain⟨c,h2,hk⟩:=aA hk;obtain⟨ad,cp,e1,_⟩:=uA h2 hx;refine bF h hd (v:=.int .i64 (List.length c.x:Int)) ?_ (t:=.one (.val (.int .i64) (real.len c.x))) rfl hk;refine eK ho ?_;simp[builtin,Builtin.len_,run_underlying (gJ hE h1).1,e1,goInt]
  | [],[],_=>cases hk
  |_::_::_,_::_::_,_=>cases hk
 ·match args,fG,pV with
  | [x,y],[t,t'],_=>have hx:=bX h E t x;have hy:=bX h E t' y;simp only[List.zip_cons_cons,List.zip_nil_right,List.map_cons,List.map_nil,dD]at hk;obtain⟨(m:Int),h1,hk⟩:=aA hk;obtain⟨(n:Int),h2,hk⟩:=aA hk;have zv:=iv h1 hx;have Gb:=iv h2 hy;refine bF h hd (v:=.int .i64 (bK false m n)) ?_ (t:=.one (.val (.int .i64) (real.A5 false .i64 m n))) rfl hk;refine eK ho ?_;simp[builtin,Builtin.min_,Builtin.min2,zv,Gb,bK]
  | [],[],_=>cases hk
  | [_],[_],_=>cases hk
  |_::_::_::_,_::_::_::_,_=>cases hk
 ·match args,fG,pV with
  | [x,y],[t,t'],_=>have hx:=bX h E t x;have hy:=bX h E t' y;simp only[List.zip_cons_cons,List.zip_nil_right,List.map_cons,List.map_nil,dD]at hk;obtain⟨(m:Int),h1,hk⟩:=aA hk;obtain⟨(n:Int),h2,hk⟩:=aA hk;have zv:=iv h1 hx;have Gb:=iv h2 hy;refine bF h hd (v:=.int .i64 (bK true m n)) ?_ (t:=.one (.val (.int .i64) (real.A5 true .i64 m n))) rfl hk;refine eK ho ?_;simp[builtin,Builtin.max_,Builtin.max2,zv,Gb,bK]
  | [],[],_=>cases hk
  | [_],[_],_=>cases hk
  |_::_::_::_,_::_::_::_,_=>cases hk
end
end Go.R
namespace Go.R
variable {H:Nat->Value}
section
variable {R:Type} {P:Program} {E:Env} {ω:aJ} {a:Act} {w:World} {s:S} {k:S->Option R} {r:R} {o:Oper} {Q:Exit->Act->World->Prop}
theorem xF{id g:Nat}{q:Sigma fun k=>real.V (.sl 0 (aK.mp k))}(h:tD s id g=some q):(s.ob id).g=g/\(s.ob id).o=.mp q.1 q.2:=by
 unfold tD at h;cases hb:Nat.beq (s.ob id).g g with
 |false=>rw[hb]at h;cases h
 |true=>
  rw[hb]at h;simp only[cond_true]at h;refine⟨Nat.eq_of_beq_eq_true hb,?_⟩;split at h
  ·rename_i k x ho;injection h with h
   subst h;exact ho
  ·cases h
theorem sH{v:Value}{l:L}(h:cA w ω s v l)(hs:eZ s l=true):v.oneCell'=true/\v.cells = #[v]:=by
 cases l with
 |val t x=>
  cases t with
  |sl e cs=>obtain⟨ad,n,c,e1,_⟩:=h;subst e1;exact⟨rfl,rfl⟩
  |int k=>have:v=.int k x:=h;subst this;exact⟨rfl,rfl⟩
  |bool=>have:v=.bool x:=h;subst this;exact⟨rfl,rfl⟩
  |str=>have:v=.string x:=h;subst this;exact⟨rfl,rfl⟩
 |eU e cs=>obtain⟨ad,e1⟩:=h;subst e1;exact⟨rfl,rfl⟩
 |ref id g hh p=>unfold eZ at hs;obtain⟨c,hc⟩:=Option.isSome_iff_exists.1 hs;obtain⟨ad,n,cp,e1,_⟩:=h.2.2 c hc;subst e1;exact⟨rfl,rfl⟩
 |ptr id g off=>unfold eZ at hs;obtain⟨cells,hc⟩:=Option.isSome_iff_exists.1 hs;obtain⟨e1,e2⟩:=cZ hc;obtain⟨b,_,e3⟩:=h.2 e1 cells e2;subst e3;exact⟨rfl,rfl⟩
 |cj id g hh p i off=>
  simp only[eZ]at hs;cases hc:s.cont id g hh p with
  |none=>rw[hc]at hs;cases hs
  |some c=>
   rw[hc]at hs;have hm:c.md≠0:=by intro e;simp only[e]at hs;cases hs
   obtain⟨_,_,⟨b,_,e3⟩,_⟩:=h.2.2 c hc hm;subst e3;exact⟨rfl,rfl⟩
 |ez cs x off=>obtain⟨b,o',_,_,e3,_⟩:=h;subst e3;exact⟨rfl,rfl⟩
 |fn f aM=>obtain⟨cv,e1,_⟩:=h;subst e1;exact⟨rfl,rfl⟩
 |cV id g=>simp only[eZ]at hs;obtain⟨q,hc⟩:=Option.isSome_iff_exists.1 hs;obtain⟨e1,e2⟩:=xF hc;obtain⟨b,es,c,_,e3,_⟩:=h.2 e1 q.1 q.2 e2;subst e3;exact⟨rfl,rfl⟩
 |Cq _ _=>cases hs
 |undef=>cases hs
 |dead=>cases hs
theorem iN{v:Value}{t:cm}{ls:List L}(h:dh H w ω s v t)(hc:cells? s t=some ls):
  bj (cA w ω s) v.cells.toList ls/\(∀u∈v.cells.toList,u.oneCell'=true)/\(∀l∈ls,eZ s l=true):=by
 unfold cells? at hc;cases t with
 |one l=>
  cases hs:eZ s l with
  |false=>simp only[hs]at hc;cases hc
  |true=>
   simp only[hs,cond_true]at hc;injection hc with hc
   subst hc;obtain⟨h1,h2⟩:=sH h hs;rw[h2];exact⟨⟨h,trivial⟩,by simpa using h1,by simpa using hs⟩
 |agg Ch=>
  simp only at hc;cases hs:Ch.all (eZ s)with
  |false=>rw[hs]at hc;cases hc
  |true=>
   rw[hs]at hc;injection hc with hc
   subst hc;obtain⟨us,e1,hu⟩:=h;subst e1;have hall:=List.all_eq_true.1 hs;refine⟨by simpa[Value.cells] using hu,?_,hall⟩;have key:∀(us:List Value) (ls:List L),bj (cA w ω s) us ls->(∀l∈ls,eZ s l=true)->∀u∈us,u.oneCell'=true:=by
    intro us;induction us with
    |nil=>intro ls _ _ u hu;cases hu
    |cons v vs ih=>
     intro ls h2 hall u hu;cases ls with
     |nil=>exact h2.elim
     |cons l ls=>
      cases hu with
      |head=>exact(sH h2.1 (hall l (by simp))).1
      |tail _ hm=>exact ih ls h2.2 (fun l' hl'=>hall l' (by simp[hl'])) u hm
   simpa[Value.cells] using key us Ch hu hall
 |nR _=>cases hc
 |GR _ _=>cases hc
theorem zC:∀(t:Ty),cA w ω s (zeroOf t) (Bw real t)
 | .int _=>rfl
 | .bool=>rfl
 | .str=>rfl
 | .sl _ _=>⟨none,rfl⟩
theorem nq:∀(cs:aK),bj (cA w ω s) (gN cs) (mZ real cs)
 | .nil=>trivial
 | .cons t ts=>⟨zC t,nq ts⟩
theorem foldl_set(vs:List Value):∀(off m:Nat) (cs:Array Value),off+m+vs.length<=cs.size ->
  ((vs.zipIdx m).foldl (fun cs (c,j)=>cs.setIfInBounds (off+j) c) cs).toList=cs.toList.take (off+m)++vs++cs.toList.drop (off+m+vs.length):=by
 induction vs with
 |nil=>intro off m cs _;simp
 |cons v vs ih=>
  intro off m cs hle;simp only[List.length_cons]at hle;simp only[List.zipIdx_cons,List.foldl_cons];rw[ih off (m+1) _ (by simp;omega)];have hlt:off+m<cs.toList.length:=by simp;omega
  simp only[Array.toList_setIfInBounds];rw[List.take_set,List.drop_set_of_lt (by omega)];have e1:(cs.toList.take (off+(m+1))).set (off+m) v=cs.toList.take (off+m)++[v]:=by
   rw[show off+(m+1)=off+m+1 by omega,List.take_succ_eq_append_getElem hlt];rw[List.set_append_right _ _ (by simp;omega)];simp;have:off+m-min (off+m) cs.size=0:=by omega
   rw[this];rfl
  rw[e1];simp only[List.length_cons,List.append_assoc,List.cons_append,List.nil_append];congr 3;rw[show off+(m+1)+vs.length=off+m+(vs.length+1)by omega]
theorem xm(h:Rel H ω a w s){fQ:List (Nat×Nat×Bool)}(places:Nat->Option (Nat×Nat))(hp:∀(i:Nat) q,fQ[i]? = some q->places i=some (q.1,q.2.1)):
  ∀(parts:List (Nat×Operand)) (cs:List L) (arr:Array Value) (ls:List L),bj (cA w ω s) arr.toList cs->fP fQ E s parts cs=some ls ->
   ∃bW,Instr.fill places arr (parts.map fun p=>(p.1,a.eval p.2))=some bW/\bj (cA w ω s) bW.toList ls
 | [],cs,arr,ls,h2,hf=>by
  injection hf with hf
  subst hf;exact⟨arr,rfl,h2⟩
 |(i,x)::parts,cs,arr,ls,h2,hf=>by
  simp only[fP]at hf;cases hq:fQ[i]? with
  |none=>rw[hq]at hf;cases hf
  |some q=>
   obtain⟨off,n,ag⟩:=q;rw[hq]at hf;simp only at hf;cases hc:cells? s (ev E s 0 x)with
   |none=>rw[hc]at hf;cases hf
   |some v=>
    rw[hc]at hf;simp only at hf;cases hb:Nat.beq v.length n&&Nat.ble (off+n) cs.length with
    |false=>rw[hb]at hf;cases hf
    |true=>
     rw[hb]at hf;simp only[cond_true]at hf;rw[Bool.and_eq_true]at hb;have hn:=Nat.eq_of_beq_eq_true hb.1;have hle:=Nat.le_of_ble_eq_true hb.2;obtain⟨hv,_,_⟩:=iN (bX h E 0 x) hc;have pQ:=hv.length;have wl:=h2.length;have hsz:(a.eval x).cells.size=n:=by rw[<-hn,<-pQ];simp
     have hle':off+(a.eval x).cells.toList.length<=arr.size:=by
      have:arr.size=cs.length:=by rw[<-wl];simp
      rw[this,pQ,hn];exact hle
     have oe:=foldl_set (a.eval x).cells.toList off 0 arr (by simpa using hle');have Dl:(a.eval x).cells.zipIdx.foldl (fun cs (c,j)=>cs.setIfInBounds (off+j) c) arr=((a.eval x).cells.toList.zipIdx 0).foldl (fun cs (c,j)=>cs.setIfInBounds (off+j) c) arr:=by rw[<-Array.foldl_toList];congr 1;simp
     obtain⟨bW,g1,g2⟩:=xm h places hp parts _ (((a.eval x).cells.toList.zipIdx 0).foldl (fun cs (c,j)=>cs.setIfInBounds (off+j) c) arr) ls (by rw[oe];simp only[Nat.add_zero];rw[pQ,hn];exact((h2.take off).iB hv).iB (h2.drop (off+n))) hf;refine⟨bW,?_,g2⟩;simp only[List.map_cons,Instr.fill];rw[hp i _ hq];simp only[hsz];have GJ:¬(off+n>arr.size):=by
      have:(a.eval x).cells.toList.length=n:=by rw[pQ,hn]
      omega
     rw[if_neg (by simp;omega)];rw[Dl];exact g1
theorem sY {t:Nat} {i:TI} {I:TypeInfo} {d:TypeDesc} (ok:ud P t i I d) (hg:i.agg=true) (parts:List (Nat×Value)) {arr:Array Value}
  (hf:∀z:Value,I.zero=some z->Instr.fill ((i.fQ.map fun q=>(q.1,q.2.1)).toArray[·]?) z.cells parts=some arr):P.built t parts=some arr:=by
 obtain⟨fs,g1,g2,g3⟩:=ok.fQ hg;obtain⟨z,hz,_⟩:=ok.zero;have B5:fs.toList.mapM (fun f=>(P.info? f.type).map fun i=>(f.offset,i.size))=some (i.fQ.map fun q=>(q.1,q.2.1)):=by
  have key:∀(l:List Field) (q:List (Nat×Nat×Bool)),l.length=q.length->(∀(f:Nat) p,q[f]? = some p->∃F FI,l[f]? = some F/\F.offset=p.1/\P.info? F.type=some FI/\FI.size=p.2.1) ->
    l.mapM (fun f=>(P.info? f.type).map fun i=>(f.offset,i.size))=some (q.map fun p=>(p.1,p.2.1)):=by
   intro l;induction l with
   |nil=>intro q hl _;cases q with|nil=>simp|cons _ _=>cases hl
   |cons F l ih=>
    intro q hl hq;cases q with
    |nil=>cases hl
    |cons p q=>obtain⟨F',FI,e1,e2,e3,e4⟩:=hq 0 p rfl;simp at e1;subst e1;have:=ih q (by simpa using hl) (fun f p' hp'=>by simpa using hq (f+1) p' (by simpa using hp'));simp[List.mapM_cons,e3,this,e2,e4]
  refine key fs.toList i.fQ (by simpa using g2) (fun f p hp=>?_);obtain⟨F,FI,Fd,f1,f2,f3,f4,_⟩:=g3 f p hp;exact⟨F,FI,by simpa using f1,f2,f3,f4⟩
 unfold Program.built;subst g1;rw[ok.info,ok.zl];simp only[hz,B5];exact hf z hz
theorem wU (hE:cq P E) {t:Nat} {parts:Array (Nat×Operand)} (ho:o.op=.build t parts) (h:Rel H ω a w s) (hd:∀d,o.dst=some d->d<a.tmps.size) {Φ:bV->Option (Callee real (Option R))}
  (hk:bp E (aP R) Φ o s k=some r):o.wp P a w (Ends H ω a w o.dst k r) Q:=by
 unfold bp at hk;simp only[ho]at hk;obtain⟨i,h1,hk⟩:=aA hk;obtain⟨I,d,ok⟩:=hE.ti _ _ h1;cases hg:i.agg with
 |false=>rw[hg]at hk;cases hk
 |true=>
  rw[hg]at hk;simp only[cond_true]at hk;obtain⟨ls,h2,hk⟩:=aA hk;obtain⟨z,hz,Cb⟩:=ok.zero;obtain⟨bW,g1,g2⟩:=xm h ((i.fQ.map fun q=>(q.1,q.2.1)).toArray[·]?) (fun j q hq=>by simp[hq]) parts.toList _ z.cells ls (by rw[Cb];exact nq i.cs) h2;have hb:P.built t (parts.map fun(i,x)=>(i,a.eval x)).toList=some bW:=sY ok hg _ (fun z' BG=>by
   rw[hz]at BG;injection BG with BG
   subst BG;rw[<-g1];congr 1;simp)
  refine bF h hd (v:=.agg bW) ?_ (t:=.agg ls) ⟨bW.toList,by simp,g2⟩ hk;unfold execOp;simp only[ho];rw[Sem.run_bind,run_build w t _ bW hb];rfl
end
end Go.R
namespace Go.R
variable {H:Nat->Value}
section
variable {R:Type} {P:Program} {E:Env} {ω:aJ} {a:Act} {w:World} {s:S} {k:S->Option R} {r:R} {o:Oper} {Q:Exit->Act->World->Prop}
structure Passes (H:Nat->Value) (ω:aJ) (a:Act) (w:World) (s:S) (aI:aJ) (s':S):Prop where
 rel:Rel H aI a w s'
 ext:dr ω w aI w
 tr:∀id,Tr w ω s w aI s' id
theorem Passes.refl(h:Rel H ω a w s):Passes H ω a w s ω s:=⟨h,dr.refl _ _,fun _=>Tr.mM h.dom rfl⟩
theorem Tr.trans{w1 w2:World}{bi bZ:aJ}{s1 s2:S}{id:Nat}(h:Tr w ω s w1 bi s1 id)(h':Tr w1 bi s1 w2 bZ s2 id):Tr w ω s w2 bZ s2 id where
 ref v g hh p x:=h'.ref v g hh p (h.ref v g hh p x)
 ptr v g off x:=h'.ptr v g off (h.ptr v g off x)
 cj v g hh p i off x:=h'.cj v g hh p i off (h.cj v g hh p i off x)
 cV v g x:=h'.cV v g (h.cV v g x)
theorem Passes.trans{bi bZ:aJ}{s1 s2:S}(h:Passes H ω a w s bi s1)(h':Passes H bi a w s1 bZ s2):Passes H ω a w s bZ s2:=⟨h'.rel,h.ext.trans h'.ext,fun id=>(h.tr id).trans (h'.tr id)⟩
theorem qm(h:Rel H ω a w s){t:Ty}{l:L}{v:Value}{x:t.T}{s':S}(hl:cA w ω s v l)(hp:bY (A:=real) false t l s=some (x,s')):
  ∃aI,Passes H ω a w s aI s'/\t.R w aI .cB v x/\((s'=s/\aI=ω)\/∃id e cs dp y,(s.ob id).o=.arr e cs dp y/\s'=s.bQ id true (.cB e cs y)/\aI=ω.drop id):=by
 cases l with
 |val u y=>
  have key:∃hb:Ty.beq u t=true,x=real.cast hb y/\s'=s:=by cases u <;> simp only[bY,cond_false]at hp <;> split at hp <;> first|(cases hp;done)|(rename_i hb;injection hp with hp;injection hp with h1 h2;exact⟨hb,h1.symm,h2.symm⟩)
  obtain⟨hb,rfl,rfl⟩:=key;obtain rfl:=Ty.eq_of_beq hb;exact⟨ω,Passes.refl h,hl,.inl ⟨rfl,rfl⟩⟩
 |eU e cs=>
  cases t with
  |sl e' cs'=>
   simp only[bY]at hp;split at hp
   ·rename_i hb;injection hp with hp
    injection hp with h1 h2
    subst h1;subst h2;have:=Ty.eq_of_beq hb;injection this with e1 e2
    subst e1;subst e2;obtain⟨ad,e1⟩:=hl;exact⟨ω,Passes.refl h,⟨ad,0,0,e1,rfl,Nat.le_refl _,fun hn=>absurd hn (by omega),fun i xU hi=>absurd hi (by omega)⟩,.inl ⟨rfl,rfl⟩⟩
   ·cases hp
  |_=>cases hp
 |ref id g hh p=>
  cases p with
  |cons _ _=>cases t <;> cases hp
  |nil=>
   simp only[bY]at hp;cases hg:Nat.beq (s.ob id).g g with
   |false=>rw[hg]at hp;cases hp
   |true=>
    rw[hg]at hp;simp only[cond_true]at hp;have hge:=Nat.eq_of_beq_eq_true hg;cases cf:(s.ob id).o with
    |arr e cs dp y=>
     rw[cf]at hp;simp only[cond_false]at hp;split at hp
     ·rename_i hb;injection hp with hp
      injection hp with h1 h2
      subst h1;subst h2;obtain rfl:=Ty.eq_of_beq hb;have hne:id≠0:=h.qj (by rw[cf];exact fun e=>by cases e);have tr:=kK (s:=s) hne h.dom cf true;refine⟨ω.drop id,⟨h.freeze cf true,bP _ _ _ hne,tr⟩,?_,.inr ⟨id,e,cs,dp,y,cf,rfl,rfl⟩⟩;have hl':=(tr id).ref v g hh [] hl;have hc:(s.bQ id true (.cB e cs y)).cont id g hh []=some ⟨e,cs,y,0⟩:=by unfold St.cont fX.cont;rw[St.aV];simp only;rw[hge,fY];rfl
      exact hl'.2.2 _ hc
     ·cases hp
    |cB e cs y=>
     rw[cf]at hp;simp only[cond_false]at hp;split at hp
     ·rename_i hb;injection hp with hp
      injection hp with h1 h2
      subst h1;subst h2;obtain rfl:=Ty.eq_of_beq hb;have hc:s.cont id g hh []=some ⟨e,cs,y,0⟩:=by unfold St.cont fX.cont;rw[hge,fY,cf];rfl
      exact⟨ω,Passes.refl h,hl.2.2 _ hc,.inl ⟨rfl,rfl⟩⟩
     ·cases hp
    |blk _=>rw[cf]at hp;cases hp
    |gone=>rw[cf]at hp;cases hp
    |mp _ _=>rw[cf]at hp;cases hp
 |_=>cases t <;> cases hp
theorem u9(h:Rel H ω a w s){t:Ty}{l:L}{v:Value}{x:t.T}{s':S}(hl:cA w ω s v l)(hp:bY (A:=real) false t l s=some (x,s')):
  ∃aI,Passes H ω a w s aI s'/\t.R w aI .cB v x:=
 let ⟨aI,h1,h2,_⟩:=qm h hl hp
 ⟨aI,h1,h2⟩
theorem qq:∀(cs:aK) (ls:List L) (us:List Value) (ω:aJ) (s:S) (x:cs.T) (s':S),Rel H ω a w s->bj (cA w ω s) us ls->eV (A:=real) false cs ls s=some (x,s') ->
  ∃aI,Passes H ω a w s aI s'/\∀(j:Nat) (g:Nat->Option Value),(∀k u,us[k]? = some u->g (j+k)=some u)->cs.R w aI (fun _=>.cB) g j x
 | .nil,[],us,ω,s,x,s',h,_,hp=>by
  injection hp with hp
  injection hp with _ h2
  subst h2;exact⟨ω,Passes.refl h,fun _ _ _=>trivial⟩
 | .cons t ts,l::ls,[],_,_,_,_,_,h2,_=>h2.elim
 | .cons t ts,l::ls,u::us,ω,s,x,s',h,h2,hp=>by
  simp only[eV]at hp;cases h1:bY (A:=real) false t l s with
  |none=>rw[h1]at hp;cases hp
  |some q=>
   obtain⟨y,s1⟩:=q;rw[h1]at hp;simp only at hp;cases h3:eV (A:=real) false ts ls s1 with
   |none=>rw[h3]at hp;cases hp
   |some q2=>
    obtain⟨ys,s2⟩:=q2;rw[h3]at hp;simp only at hp;injection hp with hp
    injection hp with e1 e2
    subst e1;subst e2;obtain⟨bi,p1,r1⟩:=u9 h h2.1 h1;obtain⟨bZ,p2,r2⟩:=qq ts ls us bi s1 ys s2 p1.rel (h2.2.mono fun _ _ hl=>cA.frame p1.ext p1.tr hl) h3;refine⟨bZ,p1.trans p2,fun j g hg=>?_⟩;have hh:kL (kV (t:=t) (ts:=ts) y ys)=y:=k8 _ _;have ht:jP (kV (t:=t) (ts:=ts) y ys)=ys:=lu _ _;refine⟨⟨u,by simpa using hg 0 u rfl,?_⟩,?_⟩
    ·show t.R w bZ .cB u (kL (kV y ys));rw[hh];exact Ty.cG (Nat.le_refl _) t .cB u y p2.ext.keeps r1
    ·show ts.R w bZ _ g (j+1) (jP (kV y ys));rw[ht];exact r2 (j+1) g (fun k u' oF=>by have:=hg (k+1) u' (by simpa using oF);rwa[show j+(k+1)=j+1+k by omega]at this)
 | .nil,_::_,_,_,_,_,_,_,_,hp=>by cases hp
 | .cons _ _,[],_,_,_,_,_,_,_,hp=>by cases hp
theorem eO.alloc(w:World)(o:Obj):eO w (w.alloc o):=eO.push w o
theorem fO(w:World)(o:Obj):(w.alloc o).heap.size=w.heap.size+1:=by show(w.heap.push o).size=_;simp
theorem DC(t:Nat)(v:Value):(newVar t v).run P w=.ok ⟨w.heap.size,0,none⟩ (w.alloc (.cells v.cells t)):=rfl
theorem yI{t:Nat}{i:TI}{I:TypeInfo}{d:TypeDesc}(ok:ud P t i I d){z:Value}(hz:I.zero=some z)(old:Value):
  (Instr.alloc t true old).run P w=.ok (.pointer (some ⟨w.heap.size,0,none⟩)) (w.alloc (.cells z.cells t)):=by
 have Gc:(zeroValue t).run P w=.ok z w:=by simp[zeroValue,typeInfo,ok.info,hz]
 unfold Instr.alloc;rw[Sem.run_bind,Gc];cases old with
 |pointer p=>cases p <;> rfl
 |_=>rfl
theorem uE (h:Rel H ω a w s) (hd:∀d,o.dst=some d->d<a.tmps.size) {arr:Array Value} {T:Nat} {cells:List L} {id:Nat} (h0:id≠0) (hc:bj (cA w ω s) arr.toList cells)
  (hk:k ((s.new id (.blk cells)).ck o.dst (.one (.ptr id ((s.new id (.blk cells)).ob id).g 0)))=some r):
  Ends H ω a w o.dst k r (a.put o.dst (.pointer (some ⟨w.heap.size,0,none⟩))) (w.alloc (.cells arr T)):=by
 have hsz:w.heap.size<(w.alloc (.cells arr T)).heap.size:=by rw[fO];omega
 have hR:=h.fresh (id:=id) h0 (eO.alloc w (.cells arr T)) (Nat.le_refl _) hsz (.blk cells) (fun cells' eo=>⟨arr,T,heap_alloc_new w _,by injection eo with eo;subst eo;exact hc⟩);refine dZ hR (ed h0 (eO.alloc w _) (Nat.le_refl _)) hd (t:=.one (.ptr id ((s.new id (.blk cells)).ob id).g 0)) ⟨Nat.le_refl _,fun _ cells' _=>⟨w.heap.size,aJ.fc _ _ _,rfl⟩⟩ hk
theorem wT (hE:cq P E) {t:Nat} (ho:o.op=.alloc t) (h:Rel H ω a w s) (hd:∀d,o.dst=some d->d<a.tmps.size) {Φ:bV->Option (Callee real (Option R))}
  (hk:bp E (aP R) Φ o s k=some r):o.wp P a w (Ends H ω a w o.dst k r) Q:=by
 unfold bp at hk;simp only[ho]at hk;obtain⟨i,h1,hk⟩:=aA hk;obtain⟨I,d,ok⟩:=hE.ti _ _ h1;obtain⟨z,hz,Cb⟩:=ok.zero;refine fg (v:=.pointer (some ⟨w.heap.size,0,none⟩)) (w':=w.alloc (.cells z.cells t)) ?_ (uE h hd (dm _ _ _) (arr:=z.cells) (T:=t) (by rw[Cb];exact nq i.cs) hk);unfold execOp;simp only[ho];rw[Sem.run_bind,yI ok hz];rfl
theorem Bn (hE:cq P E) {t:Nat} {x:Operand} (ho:o.op=.box t x) (h:Rel H ω a w s) (hd:∀d,o.dst=some d->d<a.tmps.size) {Φ:bV->Option (Callee real (Option R))}
  (hk:bp E (aP R) Φ o s k=some r):o.wp P a w (Ends H ω a w o.dst k r) Q:=by
 have hx:=bX h E t x;unfold bp at hk;simp only[ho]at hk;obtain⟨i,h1,hk⟩:=aA hk;obtain⟨ls,h2,hk⟩:=aA hk;obtain⟨hc,_,_⟩:=iN hx h2;have hrun:(execOp a.eval o).run P w=.ok (.value (.pointer (some ⟨w.heap.size,0,none⟩))) (w.alloc (.cells (a.eval x).cells t)):=by unfold execOp;simp only[ho];rfl
 cases hb:Nat.beq ls.length i.cs.len with
 |false=>rw[hb]at hk;cases hk
 |true=>
  rw[hb]at hk;simp only[cond_true]at hk;cases hro:E.ro (o.dst.getD 0)with
  |false=>rw[hro]at hk;exact fg hrun (uE h hd (dm _ _ _) hc hk)
  |true=>
   rw[hro]at hk;simp only[cond_true]at hk;obtain⟨⟨y,s1⟩,h3,hk⟩:=aA hk;obtain⟨bi,p1,r1⟩:=qq i.cs ls _ ω s y s1 h hc h3;have hg:=eO.alloc w (.cells (a.eval x).cells t);have he:=hg.ext bi;have hnone:bi w.heap.size=none:=by
    cases hq:bi w.heap.size with
    |none=>rfl
    |some kk=>exact absurd (p1.rel.dom _ _ hq) (by omega)
   refine fg hrun (dZ (p1.rel.world he hg.block) (p1.ext.trans he) hd (t:=.one (.ez i.cs y 0)) ⟨w.heap.size,0,hnone,by rw[fO];omega,rfl,?_⟩ hk);refine aK.cG he.size i.cs _ _ _ 0 _ (fun _=>he.keeps) (fun _=>rfl) (r1 0 _ (fun j u hu=>?_));rw[Nat.zero_add,Nat.zero_add,cell_of_row _ _ _ _ t (0,0) (heap_alloc_new w _)];simpa using hu
end
end Go.R
namespace Go.R
variable {H:Nat->Value}
section
variable {R:Type} {P:Program} {E:Env} {ω:aJ} {a:Act} {w:World} {s:S} {k:S->Option R} {r:R} {o:Oper} {Q:Exit->Act->World->Prop}
theorem AZ(z:Array Value)(n i j:Nat)(hi:i<n)(hj:j<z.size):(madeCells z (n*z.size))[i*z.size+j]? = z[j]?:=by
 have hlt:i*z.size+j<n*z.size:=by have:(i+1)*z.size<=n*z.size:=Nat.mul_le_mul_right _ hi;rw[Nat.succ_mul]at this;omega
 unfold madeCells;rw[Array.getElem?_map,Array.getElem?_range];rw[if_pos hlt];have hm:(i*z.size+j) % z.size=j:=by rw[Nat.mul_comm,Nat.mul_add_mod];exact Nat.mod_eq_of_lt hj
 simp[hm,hj]
theorem Cs:∀(t:Ty) (md:Md),t.R w ω md (zeroOf t) (zeroV real t)
 | .int _,_=>rfl
 | .bool,_=>rfl
 | .str,_=>rfl
 | .sl e cs,md=>⟨none,0,0,rfl,rfl,Nat.le_refl _,(by
   cases md with
   |cB=>exact fun h=>absurd h (by omega)
   |flat _=>exact .inl ⟨rfl,rfl⟩
   |deep _=>exact .inl ⟨rfl,rfl⟩),fun i ad hi=>absurd hi (by omega)⟩
theorem vH:∀(cs:aK) (md:Nat->Md) (j:Nat) (g:Nat->Option Value),(∀k u,(gN cs)[k]? = some u->g (j+k)=some u)->cs.R w ω md g j (fm real cs)
 | .nil,_,_,_,_=>trivial
 | .cons t ts,md,j,g,hg=>by
  have hh:kL (kV (t:=t) (ts:=ts) (zeroV real t) (fm real ts))=zeroV real t:=k8 _ _;have ht:jP (kV (t:=t) (ts:=ts) (zeroV real t) (fm real ts))=fm real ts:=lu _ _;refine⟨⟨zeroOf t,by simpa[gN] using hg 0 _ rfl,?_⟩,?_⟩
  ·show t.R w ω _ _ (kL (kV (zeroV real t) (fm real ts)));rw[hh];exact Cs t _
  ·show ts.R w ω _ g (j+1) (jP (kV (zeroV real t) (fm real ts)));rw[ht];exact vH ts md (j+1) g (fun k u hu=>by have:=hg (k+1) u (by simpa[gN] using hu);rwa[show j+(k+1)=j+1+k by omega]at this)
theorem tF {w1:World} {bi:aJ} {s1:S} (h:Rel H bi a w1 s1) (he:dr ω w bi w1) (hd:∀d,o.dst=some d->d<a.tmps.size) {e:Nat} {cs:aK} {dp:Bool} {x:List cs.T} {arr:Array Value} {id c:Nat} (h0:id≠0) (hn:x.length<=c) (hsz:arr.size=c*cs.len)
  (hel:∀(i:Nat),i<x.length->cs.R (w1.alloc (.cells arr e)) (bi.fresh id w1.heap.size) ((bk (bif dp then 2 else 1) id []).inner i) (fun j=>arr[i*cs.len+j]?) 0 (x.getD i (lB cs)))
  (hk:k ((s1.new id (.arr e cs dp x)).ck o.dst (.one (.ref id ((s1.new id (.arr e cs dp x)).ob id).g 0 [])))=some r):
  Ends H ω a w o.dst k r (a.put o.dst (.slice (some ⟨w1.heap.size,0,none⟩) x.length c)) (w1.alloc (.cells arr e)):=by
 have hg:=eO.alloc w1 (.cells arr e);have hlt:w1.heap.size<(w1.alloc (.cells arr e)).heap.size:=by rw[fO];omega
 have hR:=h.fresh (id:=id) h0 hg (Nat.le_refl _) hlt (.arr e cs dp x) (fun cells' eo=>by cases eo);refine dZ hR (he.trans (ed h0 hg (Nat.le_refl _))) hd (t:=.one (.ref id ((s1.new id (.arr e cs dp x)).ob id).g 0 [])) ⟨Nat.le_refl _,by simp,fun c' eo=>?_⟩ hk;have ho:((s1.new id (.arr e cs dp x)).ob id).o=.arr e cs dp x:=by unfold St.new;rw[St.aY]
 rw[cu ho rfl]at eo;injection eo with eo
 subst eo;refine⟨some ⟨w1.heap.size,0,none⟩,x.length,c,rfl,rfl,hn,?_,fun i ad hi had=>?_⟩
 ·have:(w1.alloc (.cells arr e)).heap[w1.heap.size]? = some (.cells arr e (0,0)):=heap_alloc_new w1 _;cases dp with
  |true=>exact .inr ⟨w1.heap.size,arr,rfl,this,hsz,aJ.fc _ _ _⟩
  |false=>exact .inr ⟨w1.heap.size,arr,rfl,this,hsz,aJ.fc _ _ _⟩
 ·injection had with had
  subst had;have:=hel i hi;refine aK.cG (Nat.le_refl _) cs _ _ _ 0 _ (fun j b hb hk=>⟨rfl,rfl⟩) (fun j=>?_) this;rw[Nat.zero_add];exact cell_of_row _ _ _ arr e (0,0) (heap_alloc_new w1 _)
theorem Bg{α:Type}(n:Int)(y z:α)(i:Nat)(h:i<n.toNat):(cX n y).getD i z=y:=by unfold cX;rw[List.getD_eq_getElem?_getD,List.getElem?_replicate,if_pos h];rfl
theorem DR{n:Int}(h:0<=n):((n.toNat:Nat):Int)=n:=Int.toNat_of_nonneg h
theorem qK (hE:cq P E) {t:Nat} {n c:Operand} (ho:o.op=.makeSlice t n c) (h:Rel H ω a w s) (hd:∀d,o.dst=some d->d<a.tmps.size) {Φ:bV->Option (Callee real (Option R))}
  (hk:bp E (aP R) Φ o s k=some r):o.wp P a w (Ends H ω a w o.dst k r) Q:=by
 have hn:=bX h E 3 n;unfold bp at hk;simp only[ho]at hk;obtain⟨⟨e,cs⟩,h1,hk⟩:=aA hk;obtain⟨(m:Int),h2,hk⟩:=aA hk;have GS:=iv h2 hn;have hsame:oQ n c=true:=by
  cases hb:oQ n c with
  |true=>rfl
  |false=>simp only[hb]at hk;cases hk
 simp only[hsame,cond_true]at hk;have Hw:a.eval c=.int .i64 m:=by
  rw[<-GS];unfold oQ at hsame;split at hsame
  ·rw[Nat.eq_of_beq_eq_true hsame]
  ·rw[Bool.and_eq_true]at hsame;rw[of_decide_eq_true hsame.1,of_decide_eq_true hsame.2]
  ·cases hsame
 have hk':(bif cL m then k ((s.new (aZ (o.dst.getD 0) 0 0) (.arr e cs (E.deep (o.dst.getD 0)) (cX m (fm real cs)))).ck o.dst (.one (.ref (aZ (o.dst.getD 0) 0 0) ((s.new (aZ (o.dst.getD 0) 0 0) (.arr e cs (E.deep (o.dst.getD 0)) (cX m (fm real cs)))).ob (aZ (o.dst.getD 0) 0 0)).g 0 [])))else none)=some r:=hk;cases hr:cL m with
 |false=>rw[hr]at hk';cases hk'
 |true=>
  rw[hr]at hk';simp only[cond_true]at hk';unfold cL limit at hr;rw[Bool.and_eq_true]at hr;have h0:0<=m:=of_decide_eq_true hr.1;have hle:m<=1073741824:=of_decide_eq_true hr.2;obtain⟨hu,j,I,d,hj,hcs,ok⟩:=gJ hE h1;obtain⟨z,hz,Cb⟩:=ok.zero;have hzs:z.cells.size=cs.len:=by rw[<-Array.length_toList,Cb,fH,hcs]
  have hsz:I.size=cs.len:=by rw[ok.size,hcs]
  have hb:=ok.bpos;have hbytes:=ok.bytes;have hmul:(I.bytes:Int)*m<=281474976710656:=by
   have h1:(I.bytes:Int)<=65536:=by rw[hbytes];exact Int.ofNat_le.2 hb.2
   have h2:(I.bytes:Int)*m<=65536*m:=Int.mul_le_mul_of_nonneg_right h1 h0;omega
  have hrun:=run_make (P:=P) w t e I z hu ok.info hz .i64 .i64 m m h0 (Int.le_refl _) hmul (by omega);rw[hsz]at hrun;have hlen:(cX m (fm real cs):List cs.T).length=m.toNat:=by unfold cX;exact List.length_replicate
  refine fg (v:=.slice (some ⟨w.heap.size,0,none⟩) m.toNat m.toNat) (w':=w.alloc (.cells (madeCells z.cells (m.toNat*cs.len)) e)) ?_ ?_
  ·unfold execOp;simp only[ho,GS,Hw];rw[Sem.run_bind,hrun];rfl
  ·have:=tF (ω:=ω) (w:=w) (arr:=madeCells z.cells (m.toNat*cs.len)) (x:=(cX m (fm real cs):List cs.T)) (c:=m.toNat) h (dr.refl _ _) hd (dm _ _ _) (by rw[hlen];exact Nat.le_refl _) (size_madeCells _ _) (fun i hi=>?_) hk'
   ·rw[hlen]at this;exact this
   ·have hg:(cX m (fm real cs):List cs.T).getD i (lB cs)=fm real cs:=by
     rw[hlen]at hi;exact Bg _ _ _ _ hi
    rw[hg];refine vH cs _ 0 _ (fun j u hj=>?_);rw[hlen]at hi;have hlt:j<z.cells.size:=by have:=(List.getElem?_eq_some_iff.1 hj).1;rw[fH]at this;omega
    have hm:=AZ z.cells m.toNat i j hi hlt;rw[hzs]at hm;rw[Nat.zero_add,hm];rw[<-hcs]at hj;rw[<-Cb]at hj;simpa using hj
end
end Go.R
namespace Go.R
variable {H:Nat->Value}
section
variable {R:Type} {P:Program} {E:Env} {ω:aJ} {a:Act} {w:World} {s:S} {k:S->Option R} {r:R} {o:Oper} {Q:Exit->Act->World->Prop}
theorem flat_get{α:Type}(n:Nat):∀(ls:List (List α)),(∀l∈ls,l.length=n)->∀(i j:Nat) (l:List α),ls[i]? = some l->j<n->ls.flatten[i*n+j]? = l[j]?
 | [],_,i,j,l,hi,_=>by simp at hi
 |l0::ls,hl,0,j,l,hi,hj=>by simp at hi;subst hi;have:l0.length=n:=hl l0 (by simp);simp only[Nat.zero_mul,Nat.zero_add,List.flatten_cons];rw[List.getElem?_append_left (by omega)]
 |l0::ls,hl,i+1,j,l,hi,hj=>by
  have h0:l0.length=n:=hl l0 (by simp);simp only[List.flatten_cons];have e:(i+1)*n+j=n+(i*n+j):=by rw[Nat.succ_mul];omega
  rw[List.getElem?_append_right (by rw[h0,e];omega),h0,e,Nat.add_sub_cancel_left];exact flat_get n ls (fun l hl'=>hl l (by simp[hl'])) i j l (by simpa using hi) hj
theorem nZ{α:Type}(n:Nat):∀(ls:List (List α)),(∀l∈ls,l.length=n)->ls.flatten.length=ls.length*n
 | [],_=>by simp
 |l0::ls,hl=>by simp only[List.flatten_cons,List.length_append,List.length_cons];rw[nZ n ls (fun l hl'=>hl l (by simp[hl'])),hl l0 (by simp),Nat.succ_mul];omega
theorem sv:∀(cs:aK) (ls:List L) (s1 s2:S) (el:cs.T),eV (A:=real) false cs ls s1=some (el,s2)->ls.length=cs.len
 | .nil,[],_,_,_,_=>rfl
 | .nil,_::_,_,_,_,h=>by cases h
 | .cons _ _,[],_,_,_,h=>by cases h
 | .cons t ts,l::ls,s1,s2,el,h=>by
  simp only[eV]at h;cases h1:bY (A:=real) false t l s1 with
  |none=>rw[h1]at h;cases h
  |some q=>
   obtain⟨y,s3⟩:=q;rw[h1]at h;simp only at h;cases h2:eV (A:=real) false ts ls s3 with
   |none=>rw[h2]at h;cases h
   |some q2=>obtain⟨ys,s4⟩:=q2;simp only[List.length_cons,aK.len];rw[sv ts ls s3 s4 ys h2]
theorem sn{e:Nat}{cs:aK}:∀(os:List Operand) (x0:List cs.T) (bi:aJ) (s1:S) (x:List cs.T) (s2:S),Rel H ω a w s->Passes H ω a w s bi s1->gv (A:=real) E s e cs os x0 s1=some (x,s2) ->
  ∃bZ,Passes H bi a w s1 bZ s2/\∃els:List cs.T,x=x0++els/\els.length=os.length/\(∀o∈os,(a.eval o).cells.toList.length=cs.len) /\
   ∀(i:Nat) (el:cs.T) (o:Operand),els[i]? = some el->os[i]? = some o->cs.R w bZ (fun _=>.cB) (fun j=>(a.eval o).cells.toList[j]?) 0 el
 | [],x0,bi,s1,x,s2,_,p,h=>by
  injection h with h
  injection h with h1 h2
  subst h1;subst h2;exact⟨bi,Passes.refl p.rel,[],by simp,rfl,by simp,by simp⟩
 |q::os,x0,bi,s1,x,s2,h0,p,h=>by
  simp only[gv]at h;cases hc:cells? s (ev E s 0 q)with
  |none=>rw[hc]at h;cases h
  |some ls=>
   rw[hc]at h;simp only at h;cases hp:eV (A:=real) false cs ls s1 with
   |none=>rw[hp]at h;cases h
   |some z=>
    obtain⟨el,s1'⟩:=z;rw[hp]at h;simp only at h;obtain⟨hv,_,_⟩:=iN (bX h0 E 0 q) hc;obtain⟨Gw,p1,r1⟩:=qq cs ls _ bi s1 el s1' p.rel (hv.mono fun _ _ hl=>cA.frame p.ext p.tr hl) hp;obtain⟨bZ,p2,els,e1,e2,e3,e4⟩:=sn os (List.append (α:=cs.T) x0 [el]) Gw s1' x s2 h0 (p.trans p1) h;have hlen:ls.length=cs.len:=by exact sv cs ls _ _ _ hp
    refine⟨bZ,p1.trans p2,el::els,by rw[e1];exact List.append_assoc x0 [el] els,by show els.length+1=os.length+1;rw[e2],?_,?_⟩
    ·intro q' l7;cases l7 with
     |head=>rw[hv.length,hlen]
     |tail _ hm=>exact e3 q' hm
    ·intro i E8 q' hi l7;cases i with
     |zero=>have hi':el=E8:=Option.some.inj hi;have F2:q=q':=Option.some.inj l7;subst hi';subst F2;exact aK.cG (Nat.le_refl _) cs _ _ _ 0 _ (fun _=>p2.ext.keeps) (fun _=>rfl) (r1 0 _ (fun k u hu=>by rw[Nat.zero_add];exact hu))
     |succ i=>exact e4 i E8 q' hi l7
theorem ww:∀(m:Nat) (l:List Nat),iw m l=true->∀(i n:Nat),l[i]? = some n->n=m+i
 |_,[],_,i,n,h=>by simp at h
 |m,x::r,hr,i,n,h=>by
  simp only[iw,Bool.and_eq_true]at hr;cases i with
  |zero=>simp at h;rw[<-h,<-Nat.eq_of_beq_eq_true hr.1];rfl
  |succ i=>have:=ww (m+1) r hr.2 i n (by simpa using h);omega
theorem pJ(n:Nat)(arr:Array Value):∀(parts:List (Nat × Value)) (m:Nat) (done:List Value) (cur:Array Value), iw m (parts.map (·.1)) = true -> (∀p ∈ parts, p.2.cells.toList.length = n) ->
    done.length = m * n -> cur.size = (m + parts.length) * n -> cur.toList = done ++ cur.toList.drop (m * n) ->
    ∃c8, Instr.fill (fun i=>some (i * n, n)) cur parts = some c8 /\ c8.toList = done ++ (parts.map fun p=>p.2.cells.toList).flatten
  | [], m, done, cur, _, _, hd, hs, hc=>by
    refine⟨cur, rfl, ?_⟩;have:cur.toList.length = m * n:=by simpa using hs
    rw[hc, List.drop_of_length_le (by omega)];simp
  |(j, v):: parts, m, done, cur, hr, hn, hd, hs, hc=>by
    simp only[List.map_cons, iw, Bool.and_eq_true]at hr;obtain rfl:=Nat.eq_of_beq_eq_true hr.1;have hv:v.cells.toList.length = n:=hn (m, v) (by simp);have hvs:v.cells.size = n:=by simpa using hv
    simp only[List.length_cons]at hs;have hsz:cur.size = m * n + n + parts.length * n:=by rw[hs, Nat.add_mul, Nat.add_mul, Nat.one_mul]; omega
    have oe:=foldl_set v.cells.toList (m * n) 0 cur (by rw[hv]; omega);simp only[Nat.add_zero]at oe;have Em:cur.toList.take (m * n) = done:=by rw[hc, List.take_append_of_le_length (by omega), List.take_of_length_le (by omega)]
    rw[Em, hv]at oe;have Dl:v.cells.zipIdx.foldl (fun cs (c, j)=>cs.setIfInBounds (m * n + j) c) cur = (v.cells.toList.zipIdx 0).foldl (fun cs (c, j)=>cs.setIfInBounds (m * n + j) c) cur:=by rw[<- Array.foldl_toList];congr 1;simp
    have hlen':((v.cells.toList.zipIdx 0).foldl (fun cs (c, j)=>cs.setIfInBounds (m * n + j) c) cur).size = cur.size:=by rw[<- Array.length_toList, oe];simp only[List.length_append, List.length_drop, Array.length_toList, hd, hvs];omega
    obtain⟨c8, g1, g2⟩:=pJ n arr parts (m + 1) (done ++ v.cells.toList) ((v.cells.toList.zipIdx 0).foldl (fun cs (c, j)=>cs.setIfInBounds (m * n + j) c) cur) hr.2 (fun p hp=>hn p (by simp[hp]))
      (by rw[List.length_append, hd, hv, Nat.succ_mul]) (by rw[hlen', hsz, Nat.add_mul, Nat.succ_mul]) (by
        rw[oe];have El:(done ++ v.cells.toList).length = (m + 1) * n:=by rw[List.length_append, hd, hv, Nat.succ_mul]
        rw[<- El, List.drop_left])
    refine⟨c8, ?_, by rw[g2]; simp⟩;simp only[Instr.fill];rw[if_neg (by simp[hvs]; omega), Dl];exact g1
theorem aK.fy:∀(cs:aK) (md:Nat->Md) (g g':Nat->Option Value) (j:Nat) (x:cs.T),(∀k,k<cs.len->g' (j+k)=g (j+k))->cs.R w ω md g j x->cs.R w ω md g' j x
 | .nil,_,_,_,_,_,_,_=>trivial
 | .cons t ts,md,g,g',j,x,hg,h=>by obtain⟨⟨v,h1,h2⟩,h3⟩:=h;refine⟨⟨v,(hg 0 (by simp[aK.len])).trans h1,h2⟩,aK.fy ts md g g' (j+1) _ (fun k hk=>?_) h3⟩;have:=hg (k+1) (by simp[aK.len,hk]);rwa[show j+(k+1)=j+1+k by omega]at this
theorem oH (w:World) (t e:TypeId) (len:Nat) (parts:Array (Nat×Value)) (cells:Array Value) (ie:TypeInfo)
  (hu:P.underlying t=some (.slice e)) (hie:P.info? e=some ie) (h0:len*ie.size=0)
  (h:Instr.fill (fun i=>some (i*ie.size,ie.size)) #[] parts.toList=some cells):
  (Instr.buildSlice t len parts).run P w=.ok (.slice (some ⟨w.heap.size,0,none⟩) len len) (w.alloc (.cells cells e)):=by
 have he:(Array.map (fun _:Nat=>(default:Value)) (Array.range 0)) = #[]:=by apply Array.eq_empty_of_size_eq_zero;simp
 simp[Instr.buildSlice,run_underlying hu,sizeOf,typeInfo,hie,h0,newRow,he,h]
theorem getD_some{α:Type}{l:List α}{i:Nat}{z y:α}(h:l[i]? = some y):l.getD i z=y:=by rw[List.getD_eq_getElem?_getD,h];rfl
theorem js{α:Type}{l:List α}{i:Nat}(h:i<l.length):∃y,l[i]? = some y:=⟨l[i],List.getElem?_eq_getElem h⟩
end
end Go.R

