import GoSem.Core.Code
import GoSem.Core.Region
import Derived.WalkKit
import Derived.Deep.Draws
import Derived.Deep.MidRow
import Derived.Deep.AppendSrc
import Derived.OwnWalk
import Derived.Great.BuildSlice
import Derived.Laws.MakeOwn
/- An abstract interpreter over the code of Go functions, proved sound once: what it answers, the code computes. Conditions: none. -/
set_option autoImplicit false
set_option linter.unusedVariables false
set_option linter.unusedSimpArgs false
set_option maxRecDepth 4000
namespace Go.R
def H7:List (Nat×Array Value):=[]
end Go.R
namespace Go.R
mutual
inductive Ty where
 |int (k:IntKind)
 |bool
 |str
 |sl (e:Nat) (cs:aJ)
inductive aJ where
 |nil
 |cons (t:Ty) (ts:aJ)
end
mutual
def Ty.beq:Ty->Ty->Bool
 | .int a,.int b=>decide (a=b)
 | .bool,.bool=>true
 | .str,.str=>true
 | .sl e cs,.sl e' cs'=>Nat.beq e e'&&aJ.beq cs cs'
 |_,_=>false
def aJ.beq:aJ->aJ->Bool
 | .nil,.nil=>true
 | .cons t ts,.cons u us=>Ty.beq t u&&aJ.beq ts us
 |_,_=>false
end
mutual
theorem Ty.eq_of_beq:∀ {a b:Ty},Ty.beq a b=true->a=b
 | .int a,.int b,h=>by simp only[Ty.beq,decide_eq_true_eq]at h;rw[h]
 | .bool,.bool,_=>rfl
 | .str,.str,_=>rfl
 | .sl e cs,.sl e' cs',h=>by simp only[Ty.beq,Bool.and_eq_true]at h;rw[Nat.eq_of_beq_eq_true h.1,aJ.eq_of_beq h.2]
 | .int _,.bool,h=>by simp[Ty.beq]at h
 | .int _,.str,h=>by simp[Ty.beq]at h
 | .int _,.sl ..,h=>by simp[Ty.beq]at h
 | .bool,.int _,h=>by simp[Ty.beq]at h
 | .bool,.str,h=>by simp[Ty.beq]at h
 | .bool,.sl ..,h=>by simp[Ty.beq]at h
 | .str,.int _,h=>by simp[Ty.beq]at h
 | .str,.bool,h=>by simp[Ty.beq]at h
 | .str,.sl ..,h=>by simp[Ty.beq]at h
 | .sl ..,.int _,h=>by simp[Ty.beq]at h
 | .sl ..,.bool,h=>by simp[Ty.beq]at h
 | .sl ..,.str,h=>by simp[Ty.beq]at h
theorem aJ.eq_of_beq:∀ {a b:aJ},aJ.beq a b=true->a=b
 | .nil,.nil,_=>rfl
 | .cons t ts,.cons u us,h=>by simp only[aJ.beq,Bool.and_eq_true]at h;rw[Ty.eq_of_beq h.1,aJ.eq_of_beq h.2]
 | .nil,.cons ..,h=>by simp[aJ.beq]at h
 | .cons ..,.nil,h=>by simp[aJ.beq]at h
end
def aJ.len:aJ->Nat
 | .nil=>0
 | .cons _ ts=>ts.len+1
abbrev aJ.mp(k:IntKind):aJ:=.cons (.int k) (.cons .bool .nil)
def aJ.plain:aJ->Bool
 | .nil=>true
 | .cons (.sl ..) _=>false
 | .cons _ ts=>ts.plain
structure ol where
 V:Ty->Type
 Vs:aJ->Type
 xT:(k:IntKind)->Int->V (.int k)
 lD:Bool->V .bool
 CY:ByteArray->V .str
 arith:BinOp->(k:IntKind)->V (.int k)->V (.int k)->V (.int k)
 shift:BinOp->(k j:IntKind)->V (.int k)->V (.int j)->V (.int k)
 isZero:(k:IntKind)->V (.int k)->V .bool
 Cd:(k:IntKind)->V (.int k)->V .bool
 cmp:BinOp->(k:IntKind)->V (.int k)->V (.int k)->V .bool
 Bh:V .bool->V .bool->V .bool
 AC:V .bool->V .bool
 Dx:V .bool->V .bool->V .bool
 neg:(k:IntKind)->V (.int k)->V (.int k)
 conv:(k j:IntKind)->V (.int k)->V (.int j)
 AB:Bool->(k:IntKind)->V (.int k)->V (.int k)->V (.int k)
 Et:BinOp->V .str->V .str->V .bool
 Es:V .str->V .str->V .str
 Cj:V .str->V .str->V .bool
 Db:V .str->V (.int .i64)
 sin:(k:IntKind)->V .str->V (.int k)->V .bool
 Ew:(k:IntKind)->V .str->V (.int k)->V (.int .u8)
 kN:(e:Nat)->(cs:aJ)->V (.sl e cs)
 len:{e:Nat}->{cs:aJ}->V (.sl e cs)->V (.int .i64)
 small:{e:Nat}->{cs:aJ}->V (.sl e cs)->V .bool
 FG:{e:Nat}->{cs:aJ}->V (.sl e cs)->V (.int .i64)->V .bool
 get:{e:Nat}->{cs:aJ}->V (.sl e cs)->V (.int .i64)->Vs cs
 put:{e:Nat}->{cs:aJ}->V (.sl e cs)->V (.int .i64)->Vs cs->V (.sl e cs)
 push:{e:Nat}->{cs:aJ}->V (.sl e cs)->Vs cs->V (.sl e cs)
 cat:{e:Nat}->{cs:aJ}->V (.sl e cs)->V (.sl e cs)->V (.sl e cs)
 sub:{e:Nat}->{cs:aJ}->V (.sl e cs)->V (.int .i64)->V (.int .i64)->V (.sl e cs)
 Ck:{e:Nat}->{cs:aJ}->V (.sl e cs)->V (.int .i64)->V (.int .i64)->V .bool
 FR:(e:Nat)->{cs:aJ}->V (.int .i64)->Vs cs->V (.sl e cs)
 Ci:V (.int .i64)->V .bool
 CZ:(k:IntKind)->V (.sl 0 (aJ.mp k))->V (.int k)->V .bool
 C3:(k:IntKind)->V (.sl 0 (aJ.mp k))->V (.int k)->V .bool->V (.sl 0 (aJ.mp k))
 nl:Vs .nil
 cn:{t:Ty}->{ts:aJ}->V t->Vs ts->Vs (.cons t ts)
 hd:{t:Ty}->{ts:aJ}->Vs (.cons t ts)->V t
 tl:{t:Ty}->{ts:aJ}->Vs (.cons t ts)->Vs ts
structure xm (A:ol) (M:Type) where
 cond:A.V .bool->M->M->M
 both:M->M->M
 fail:M
section
variable (A:ol)
inductive dc where
 |ptr (id g:Nat)
 |ro (cs:aJ) (x:A.Vs cs)
inductive Lf where
 |val (t:Ty) (x:A.V t)
 |eR (e:Nat) (cs:aJ)
 |ref (id g h:Nat) (path:List (A.V (.int .i64)×Nat))
 |ptr (id g off:Nat)
 |cf (id g h:Nat) (path:List (A.V (.int .i64)×Nat)) (i:A.V (.int .i64)) (off:Nat)
 |eo (cs:aJ) (x:A.Vs cs) (off:Nat)
 |fn (f:FuncId) (aM:List (dc A))
 |cS (id g:Nat)
 |BU (x:A.V .bool) (y:Bool)
 |undef
 |dead
inductive TV where
 |one (l:Lf A)
 |agg (ls:List (Lf A))
 |nE (cs:List (Bool×List (Lf A)))
inductive Ob where
 |blk (cs:List (Lf A))
 |arr (e:Nat) (cs:aJ) (deep:Bool) (x:A.V (.sl e cs))
 |cz (e:Nat) (cs:aJ) (x:A.V (.sl e cs))
 |mp (k:IntKind) (x:A.V (.sl 0 (aJ.mp k)))
 |gone
structure fU where
 g:Nat
 h:Nat
 o:Ob A
structure St where
 sl:Nat->TV A
 ob:Nat->fU A
end
variable {A:ol}
def ol.cast(A:ol){a b:Ty}(h:Ty.beq a b=true)(x:A.V a):A.V b:=(Ty.eq_of_beq h)▸x
def ol.zm(A:ol){a b:aJ}(h:aJ.beq a b=true)(x:A.Vs a):A.Vs b:=(aJ.eq_of_beq h)▸x
def TV.dead:TV A:=.one .dead
def TV.undef:TV A:=.one .undef
def TV.mk(isAgg:Bool)(ls:List (Lf A)):TV A:=
 match isAgg,ls with
 |true,ls=>.agg ls
 |false,[l]=>.one l
 |false,_=>.dead
def TV.cells:TV A->List (Lf A)
 | .one l=>[l]
 | .agg ls=>ls
 | .nE _=>[]
def St.set(s:St A)(d:Nat)(v:TV A):St A:={ s with sl:=fun i=>bif Nat.beq i d then v else s.sl i }
def St.cg(s:St A)(d:Option Nat)(v:TV A):St A:=match d with|some d=>s.set d v|none=>s
def St.yL(s:St A)(id:Nat)(o:fU A):St A:={ s with ob:=fun i=>bif Nat.beq i id then o else s.ob i }
def St.new(s:St A)(id:Nat)(o:Ob A):St A:=s.yL id ⟨(s.ob id).g+1,0,o⟩
def St.gen(s:St A)(id:Nat):Nat:=(s.ob id).g
def St.bM(s:St A)(id:Nat)(nh:Bool)(o:Ob A):St A:=s.yL id ⟨(s.ob id).g,bif nh then(s.ob id).h+1 else(s.ob id).h,o⟩
def aZ(d c j:Nat):Nat:=((d*32+c)*64+j).succ
structure TI where
 cs:aJ
 agg:Bool
 bytes:Nat
 fM:List (Nat×Nat×Bool)     -- offset,cells,struct?
 el:Option Nat                    -- of a slice type: its element's type
structure Env where
 ti:Nat->Option TI
 deep:Nat->Bool
 trunc:Nat->Bool
 ro:Nat->Bool
 EJ:Nat->Bool                   -- '==' at this struct type is asked for
 mp:Nat->Option IntKind          -- a map of whole numbers of this kind to bools
 nt:Nat                           -- so many slots
def Env.nB(E:Env)(t:Nat):Option (Nat×aJ):=
 match E.ti t with
 |some i=>match i.el with
  |some e=>match E.ti e with
   |some j=>some (e,j.cs)
   |none=>none
  |none=>none
 |none=>none
def zeroV(A:ol):(t:Ty)->A.V t
 | .int k=>A.xT k 0
 | .bool=>A.lD false
 | .str=>A.CY ByteArray.empty
 | .sl e cs=>A.kN e cs
def fc(A:ol):(cs:aJ)->A.Vs cs
 | .nil=>A.nl
 | .cons t ts=>A.cn (zeroV A t) (fc A ts)
def A3(A:ol):Ty->Lf A
 | .sl e cs=>.eR e cs
 |t=>.val t (zeroV A t)
def mN(A:ol):aJ->List (Lf A)
 | .nil=>[]
 | .cons t ts=>A3 A t::mN A ts
def gx(E:Env)(ty:Nat):Value->TV A
 | .int k n=>.one (.val (.int k) (A.xT k n))
 | .bool b=>.one (.val .bool (A.lD b))
 | .string b=>.one (.val .str (A.CY b))
 | .slice none 0 0=>match E.nB ty with
  |some (e,cs)=>.one (.eR e cs)
  |none=>.dead
 |_=>.dead
def ev(E:Env)(s:St A)(ty:Nat):Operand->TV A
 | .tmp t=>s.sl t
 | .const v=>gx E ty v
 | .func f=>.one (.fn f [])
 | .global _=>.dead
def unpack(mk:Nat->(t:Ty)->A.V t->Lf A):(cs:aJ)->A.Vs cs->Nat->List (Lf A)
 | .nil,_,_=>[]
 | .cons t ts,x,j=>mk j t (A.hd x)::unpack mk ts (A.tl x) (j+1)
def uG(_:Nat)(t:Ty)(x:A.V t):Lf A:=.val t x
def Em(id g h:Nat)(path:List (A.V (.int .i64)×Nat))(i:A.V (.int .i64))(j:Nat)(t:Ty)(x:A.V t):Lf A:=
 match t with
 | .sl _ _=>.ref id g h (path++[(i,j)])
 |t=>.val t x
def cellAt:(cs:aJ)->A.Vs cs->Nat->Option (Sigma A.V)
 | .nil,_,_=>none
 | .cons t _,x,0=>some ⟨t,A.hd x⟩
 | .cons _ ts,x,j+1=>cellAt ts (A.tl x) j
def setCell:(cs:aJ)->A.Vs cs->Nat->Sigma A.V->Option (A.Vs cs)
 | .nil,_,_,_=>none
 | .cons t ts,x,0,⟨u,v⟩=>if h:Ty.beq u t=true then some (A.cn (A.cast h v) (A.tl x))else none
 | .cons t ts,x,j+1,v=>(setCell ts (A.tl x) j v).map fun y=>A.cn (A.hd x) y
structure Cont (A:ol) where
 e:Nat
 cs:aJ
 x:A.V (.sl e cs)
 md:Nat
def follow(md:Nat):(e:Nat)->(cs:aJ)->A.V (.sl e cs)->List (A.V (.int .i64)×Nat)->Option (Cont A)
 |e,cs,x,[]=>some ⟨e,cs,x,md⟩
 |_,cs,x,(i,j)::p=>
  match cellAt cs (A.get x i) j with
  |some ⟨.sl e' cs',y⟩=>follow md e' cs' y p
  |_=>none
def fU.cont(q:fU A)(h:Nat)(path:List (A.V (.int .i64)×Nat)):Option (Cont A):=
 match q.o with
 | .arr e cs deep x=>match path with
  | []=>some ⟨e,cs,x,bif deep then 2 else 1⟩
  |st::p=>bif deep&&Nat.beq q.h h then follow 2 e cs x (st::p)else none
 | .cz e cs x=>match path with
  | []=>some ⟨e,cs,x,0⟩
  |_::_=>none
 |_=>none
def St.cont(s:St A)(id g h:Nat)(path:List (A.V (.int .i64)×Nat)):Option (Cont A):=bif Nat.beq (s.ob id).g g then(s.ob id).cont h path else none
def pY(f:(e:Nat)->(cs:aJ)->A.V (.sl e cs)->Option (A.V (.sl e cs))):(e:Nat)->(cs:aJ)->A.V (.sl e cs)->List (A.V (.int .i64)×Nat)->Option (A.V (.sl e cs))
 |e,cs,x,[]=>f e cs x
 |_,cs,x,(i,j)::p=>
  match cellAt cs (A.get x i) j with
  |some ⟨.sl e' cs',y⟩=>
   match pY f e' cs' y p with
   |some y'=>match setCell cs (A.get x i) j ⟨.sl e' cs',y'⟩with
    |some el=>some (A.put x i el)
    |none=>none
   |none=>none
  |_=>none
def bU(deep:Bool)(t:Ty)(l:Lf A)(s:St A):Option (A.V t×St A):=
 match l,t with
 | .val (.sl e cs) x,t=>bif deep then none else if h:Ty.beq (.sl e cs) t=true then some (A.cast h x,s)else none
 | .val u x,t=>if h:Ty.beq u t=true then some (A.cast h x,s)else none
 | .eR e cs,.sl e' cs'=>if h:Ty.beq (.sl e cs) (.sl e' cs')=true then some (A.cast h (A.kN e cs),s)else none
 | .ref id g _ [],t=>
  bif Nat.beq (s.ob id).g g then
   match(s.ob id).o with
   | .arr e cs _ x=>
    if h:Ty.beq (.sl e cs) t=true then
     bif deep then none
     else some (A.cast h x,s.bM id true (.cz e cs x))
    else none
   | .cz e cs x=>bif deep then none else if h:Ty.beq (.sl e cs) t=true then some (A.cast h x,s)else none
   |_=>none
  else none
 |_,_=>none
def eS(deep:Bool):(cs:aJ)->List (Lf A)->St A->Option (A.Vs cs×St A)
 | .nil,[],s=>some (A.nl,s)
 | .cons t ts,l::ls,s=>
  match bU deep t l s with
  |some (x,s1)=>match eS deep ts ls s1 with
   |some (xs,s2)=>some (A.cn x xs,s2)
   |none=>none
  |none=>none
 |_,_,_=>none
def my(t:Ty)(l:Lf A)(s:St A):Option (A.V t):=
 match l,t with
 | .val u x,t=>if h:Ty.beq u t=true then some (A.cast h x)else none
 | .eR e cs,t=>if h:Ty.beq (.sl e cs) t=true then some (A.cast h (A.kN e cs))else none
 | .ref id g h p,t=>
  match s.cont id g h p with
  |some c=>if hh:Ty.beq (.sl c.e c.cs) t=true then some (A.cast hh c.x)else none
  |none=>none
 |_,_=>none
inductive K where
 |val (t:Ty)
 |arr (e:Nat) (cs:aJ) (deep:Bool)
 |mp (k:IntKind)
def K.T(A:ol):K->Type
 | .val t=>A.V t
 | .arr e cs _=>A.V (.sl e cs)
 | .mp k=>A.V (.sl 0 (aJ.mp k))
def fE(A:ol):List K->Type
 | []=>Unit
 |k::ks=>K.T A k×fE A ks
inductive Cp where
 |ro (cs:aJ)
 |mu (ks:List K)
inductive Sh where
 |one (k:K)
 |agg (ks:List K)
 |blk (ks:List K)
 |ro (cs:aJ)
 |fn (f:FuncId) (aM:List aJ)
 |py (f:FuncId) (aM:List Cp)
def aJ.ks:aJ->List K
 | .nil=>[]
 | .cons t ts=>.val t::ts.ks
def Cp.ks:Cp->List K
 | .ro cs=>cs.ks
 | .mu ks=>ks
def Sh.ks:Sh->List K
 | .one k=>[k]
 | .agg ks| .blk ks=>ks
 | .ro cs=>cs.ks
 | .fn _ aM=>(aM.map aJ.ks).flatten
 | .py _ aM=>(aM.map Cp.ks).flatten
end Go.R
namespace Go.R
variable {A:ol} {M:Type}
def K.beq:K->K->Bool
 | .val t,.val u=>Ty.beq t u
 | .arr e cs d,.arr e' cs' d'=>Nat.beq e e'&&aJ.beq cs cs'&&(d==d')
 | .mp k,.mp k'=>decide (k=k')
 |_,_=>false
theorem K.eq_of_beq:∀ {a b:K},K.beq a b=true->a=b
 | .val t,.val u,h=>by rw[Ty.eq_of_beq h]
 | .arr e cs d,.arr e' cs' d',h=>by simp only[K.beq,Bool.and_eq_true,beq_iff_eq]at h;rw[Nat.eq_of_beq_eq_true h.1.1,aJ.eq_of_beq h.1.2,h.2]
 | .mp k,.mp k',h=>by simp only[K.beq,decide_eq_true_eq]at h;rw[h]
 | .val _,.arr ..,h=>by simp[K.beq]at h
 | .arr ..,.val _,h=>by simp[K.beq]at h
 | .mp _,.arr ..,h=>by simp[K.beq]at h
 | .mp _,.val _,h=>by simp[K.beq]at h
 | .val _,.mp _,h=>by simp[K.beq]at h
 | .arr ..,.mp _,h=>by simp[K.beq]at h
def K.kS:K->Bool
 | .arr ..=>true
 |_=>false
def K.mj:K->Bool
 | .val _=>true
 |_=>false
abbrev KV(A:ol):=Sigma (K.T A)
def kp:(ks:List K)->List (KV A)->Option (fE A ks)
 | [],[]=>some ()
 |k::ks,⟨k',x⟩::xs=>if h:K.beq k' k=true then(kp ks xs).map fun r=>(K.eq_of_beq h▸x,r)else none
 |_,_=>none
def cl:(ks:List K)->fE A ks->List (KV A)
 | [],_=>[]
 |k::ks,(x,r)=>⟨k,x⟩::cl ks r
def eE(e:Nat)(cs:aJ)(deep:Bool)(l:Lf A)(s:St A):Option (A.V (.sl e cs)×St A):=
 match l with
 | .eR e' cs'=>if h:Ty.beq (.sl e' cs') (.sl e cs)=true then some (A.cast h (A.kN e' cs'),s)else none
 | .ref id g _ []=>
  bif Nat.beq (s.ob id).g g then
   match(s.ob id).o with
   | .arr e' cs' dp x=>
    bif (dp==deep)||cs'.plain then
     if h:Ty.beq (.sl e' cs') (.sl e cs)=true then some (A.cast h x,s.bM id true .gone)else none
    else none
   |_=>none
  else none
 |_=>none
def tu(k:IntKind)(l:Lf A)(s:St A):Option (A.V (.sl 0 (aJ.mp k))×St A):=
 match l with
 | .cS id g=>
  bif Nat.beq (s.ob id).g g then
   match(s.ob id).o with
   | .mp k' x=>if h:Ty.beq (.sl 0 (aJ.mp k')) (.sl 0 (aJ.mp k))=true then some (A.cast h x,s.bM id true .gone)else none
   |_=>none
  else none
 |_=>none
def cU(k:K)(l:Lf A)(s:St A):Option (KV A×St A):=
 match k with
 | .val t=>(bU false t l s).map fun r=>(⟨.val t,r.1⟩,r.2)
 | .arr e cs deep=>(eE e cs deep l s).map fun r=>(⟨.arr e cs deep,r.1⟩,r.2)
 | .mp k=>(tu k l s).map fun r=>(⟨.mp k,r.1⟩,r.2)
def takes:List K->List (Lf A)->St A->Option (List (KV A)×St A)
 | [],[],s=>some ([],s)
 |k::ks,l::ls,s=>
  match cU k l s with
  |some (x,s1)=>match takes ks ls s1 with
   |some (xs,s2)=>some (x::xs,s2)
   |none=>none
  |none=>none
 |_,_,_=>none
def aJ.kd:aJ->List K
 | .nil=>[]
 | .cons t ts=>(match t with| .sl e cs=>.arr e cs true|t=>.val t)::ts.kd
def KV.sig(v:KV A):Sigma A.V:=
 match v with
 |⟨.val t,x⟩=>⟨t,x⟩
 |⟨.arr e cs _,x⟩=>⟨.sl e cs,x⟩
 |⟨.mp k,x⟩=>⟨.sl 0 (aJ.mp k),x⟩
def qH:(cs:aJ)->List (KV A)->Option (A.Vs cs)
 | .nil,[]=>some A.nl
 | .cons t ts,v::r=>if h:Ty.beq v.sig.1 t=true then(qH ts r).map fun y=>A.cn (A.cast h v.sig.2) y else none
 |_,_=>none
def setRow(cs:aJ)(x:A.Vs cs)(j:Nat):List (KV A)->Option (A.Vs cs)
 | []=>some x
 |v::r=>match setCell cs x j v.sig with
  |some y=>setRow cs y (j+1) r
  |none=>none
def BL(e:Nat)(cs:aJ):Nat->List (KV A)->A.V (.sl e cs)->Option (A.V (.sl e cs))
 |0,[],x=>some x
 |0,_::_,_=>none
 |n+1,vs,x=>match qH cs (vs.take cs.len)with
  |some el=>BL e cs n (vs.drop cs.len) (A.push x el)
  |none=>none
def putAt(c:Cont A)(y:A.V (.sl c.e c.cs))(e:Nat)(cs:aJ)(x:A.V (.sl e cs))(p:List (A.V (.int .i64)×Nat)):Option (A.V (.sl e cs)):=pY (fun e' cs' _=>if h:Ty.beq (.sl c.e c.cs) (.sl e' cs')=true then some (A.cast h y)else none) e cs x p
def dw(s:St A)(id g:Nat):Option (List (Lf A)):=bif Nat.beq (s.ob id).g g then match(s.ob id).o with| .blk cs=>some cs|_=>none else none
def Ah:(cs:aJ)->A.Vs cs->List (KV A)
 | .nil,_=>[]
 | .cons t ts,x=>⟨.val t,A.hd x⟩::Ah ts (A.tl x)
def co(cs:aJ)(c:dc A)(s:St A):Option (List (KV A)×St A):=
 match c with
 | .ptr id g=>match dw s id g with
  |some ls=>match takes cs.ks ls s with
   |some (vs,s1)=>match(s1.ob id).o with
    | .blk _=>some (vs,s1.bM id true .gone)
    |_=>none
   |none=>none
  |none=>none
 | .ro cs' x=>if h:aJ.beq cs' cs=true then some (Ah cs (A.zm h x),s)else none
def cu:List aJ->List (dc A)->St A->Option (List (KV A)×St A)
 | [],[],s=>some ([],s)
 |cs::mO,c::cc,s=>match co cs c s with
  |some (x,s1)=>match cu mO cc s1 with
   |some (r,s2)=>some (x++r,s2)
   |none=>none
  |none=>none
 |_,_,_=>none
def e9(c:Cp)(v:dc A)(s:St A):Option (List (KV A)×St A):=
 match c,v with
 | .ro cs,v=>co cs v s
 | .mu ks,.ptr id g=>match dw s id g with
  |some ls=>match takes ks ls (s.bM id true .gone)with
   |some r=>some r
   |none=>none
  |none=>none
 |_,_=>none
def cE:List Cp->List (dc A)->St A->Option (List (KV A)×St A)
 | [],[],s=>some ([],s)
 |c::cs,v::vs,s=>match e9 c v s with
  |some (x,s1)=>match cE cs vs s1 with
   |some (r,s2)=>some (x++r,s2)
   |none=>none
  |none=>none
 |_,_,_=>none
def cj(sh:Sh)(v:TV A)(s:St A):Option (List (KV A)×St A):=
 match sh,v with
 | .ro cs,.one (.ptr id g 0)=>co cs (.ptr id g) s
 | .ro cs,.one (.eo cs' x 0)=>co cs (.ro cs' x) s
 | .fn f aM,.one (.fn f' cc)=>bif Nat.beq f f' then cu aM cc s else none
 | .py f aM,.one (.fn f' cc)=>bif Nat.beq f f' then cE aM cc s else none
 | .one k,.one l=>takes [k] [l] s
 | .agg ks,.agg ls=>takes ks ls s
 | .blk ks,.one (.ptr id g 0)=>match dw s id g with
  |some ls=>match takes ks ls (s.bM id true .gone)with
   |some r=>some r
   |none=>none
  |none=>none
 |_,_=>none
def bL:List Sh->List (TV A)->St A->Option (List (KV A)×St A)
 | [],[],s=>some ([],s)
 |sh::aW,v::vs,s=>match cj sh v s with
  |some (x,s1)=>match bL aW vs s1 with
   |some (r,s2)=>some (x++r,s2)
   |none=>none
  |none=>none
 |_,_,_=>none
def Sh.sB:Sh->List K
 | .one k=>[k]
 | .agg ks=>ks
 |_=>[]
def Sh.cells(sh:Sh)(v:TV A):List (Lf A):=
 match sh,v with
 | .one _,.one l=>[l]
 | .one _,_=>[.dead]
 | .agg ks,.agg ls=>bif Nat.beq ls.length ks.length then ls else ks.map fun _=>.dead
 | .agg ks,_=>ks.map fun _=>.dead
 |_,_=>[]
def bG:List Sh->List (TV A)->List (Lf A)
 |sh::aW,v::vs=>sh.cells v++bG aW vs
 |_,_=>[]
def pick{α:Type}:List K->List α->List α
 |k::ks,x::xs=>bif k.kS then x::pick ks xs else pick ks xs
 |_,_=>[]
def jW(k:K)(l:Lf A)(s:St A):Option (St A):=
  match k with
  | .val _=>some s
  | .arr e cs deep=>bif Nat.ble 1 cs.len then(eE e cs deep l s).map (·.2)else none
  | .mp _=>none
def jv:List K->List (Lf A)->St A->Option (St A)
 | [],[],s=>some s
 |k::ks,l::ls,s=>
  match jW k l s with
  |some s1=>jv ks ls s1
  |none=>none
 |_,_,_=>none
def oA(aW:List Sh)(bY:List (TV A))(s:St A):Option (St A):=jv (aW.map Sh.sB).flatten (bG aW bY) s
def jf(k:K)(l:Lf A)(s0 s:St A):Option (KV A):=
 match k with
 | .val t=>(my t l s).map fun x=>⟨.val t,x⟩
 | .arr e cs deep=>(eE e cs deep l s0).map fun r=>⟨.arr e cs deep,r.1⟩
 | .mp _=>none
def looks:List K->List (Lf A)->St A->St A->Option (List (KV A))
 | [],[],_,_=>some []
 |k::ks,l::ls,s0,s=>match jf k l s0 s,looks ks ls s0 s with
  |some x,some xs=>some (x::xs)
  |_,_=>none
 |_,_,_,_=>none
def fS(cs:aJ)(c:dc A)(s:St A):Option (List (KV A)):=
 match c with
 | .ptr id g=>match dw s id g with
  |some ls=>looks cs.ks ls s s
  |none=>none
 | .ro cs' x=>if h:aJ.beq cs' cs=true then some (Ah cs (A.zm h x))else none
def fZ:List aJ->List (dc A)->St A->Option (List (KV A))
 | [],[],_=>some []
 |cs::mO,c::cc,s=>match fS cs c s,fZ mO cc s with
  |some x,some r=>some (x++r)
  |_,_=>none
 |_,_,_=>none
def iu(sh:Sh)(v:TV A)(s0 s:St A):Option (List (KV A)):=
 match sh,v with
 | .ro cs,.one (.ptr id g 0)=>fS cs (.ptr id g) s
 | .ro cs,.one (.eo cs' x 0)=>fS cs (.ro cs' x) s
 | .fn f aM,.one (.fn f' cc)=>bif Nat.beq f f' then fZ aM cc s else none
 | .one k,.one l=>looks [k] [l] s0 s
 | .agg ks,.agg ls=>looks ks ls s0 s
 |_,_=>none
def dM:List Sh->List (TV A)->St A->St A->Option (List (KV A))
 | [],[],_,_=>some []
 |sh::aW,v::vs,s0,s=>match iu sh v s0 s,dM aW vs s0 s with
  |some x,some r=>some (x++r)
  |_,_=>none
 |_,_,_,_=>none
def K.closed:K->Bool
 | .val t=>(match t with| .sl ..=>false|_=>true)
 | .arr _ cs d=>cs.plain||d
 | .mp _=>false
def Sh.flat:Sh->Bool
 | .one _| .agg _=>true
 |_=>false
def Sh.outs(sh:Sh):List K:=sh.sB.filter K.kS
def iD:List K->List (Lf A)->List (KV A)->St A->Option (St A)
 | [],[],[],s=>some s
 | .val _::ks,_::ls,vs,s=>iD ks ls vs s
 | .arr _ _ _::ks,.eR _ _::ls,_::vs,s=>iD ks ls vs s
 | .arr _ _ _::ks,.ref id _ _ []::ls,⟨.arr e cs deep,x⟩::vs,s=>iD ks ls vs (s.bM id true (.arr e cs deep x))
 |_,_,_,_=>none
def iZ(aW:List Sh)(bY:List (TV A))(vs:List (KV A))(s:St A):Option (St A):=iD (aW.map Sh.sB).flatten (bG aW bY) vs s
def dG(id:Nat)(v:KV A)(s:St A):Lf A×St A:=
 match v with
 |⟨.val t,x⟩=>(.val t x,s.new id .gone)
 |⟨.arr e cs deep,x⟩=>(.ref id ((s.ob id).g+1) 0 [],s.new id (.arr e cs deep x))
 |⟨.mp k,x⟩=>(.cS id ((s.ob id).g+1),s.new id (.mp k x))
def ez(id:Nat):List (KV A)->St A->List (Lf A)×St A
 | [],s=>([],s)
 |v::vs,s=>let r:=dG id v s;let q:=ez (id+1) vs r.2;(r.1::q.1,q.2)
def jE:(cs:aJ)->List (KV A)->Option (A.Vs cs)
 | .nil,[]=>some A.nl
 | .cons t ts,⟨.val u,x⟩::r=>if h:Ty.beq u t=true then(jE ts r).map fun y=>A.cn (A.cast h x) y else none
 |_,_=>none
def dh:List aJ->List (KV A)->List (dc A)
 | [],_=>[]
 |cs::mO,vs=>match jE cs (vs.take cs.len)with
  |some x=>.ro cs x::dh mO (vs.drop cs.len)
  |none=>[]
def dH(b:Nat):List Cp->List (KV A)->St A->List (dc A)×St A
 | [],_,s=>([],s)
 | .ro cs::r,vs,s=>match jE cs (vs.take cs.len)with
  |some x=>let q:=dH b r (vs.drop cs.len) s;(.ro cs x::q.1,q.2)
  |none=>([],s)
 | .mu ks::r,vs,s=>
  let a:=ez (b+1) (vs.take ks.length) s;let q:=dH (b+(ks.length+1)) r (vs.drop ks.length) (a.2.new b (.blk a.1))
  (.ptr b ((a.2.ob b).g+1)::q.1,q.2)
def cK(b:Nat)(sh:Sh)(vs:List (KV A))(s:St A):TV A×St A:=
 match sh with
 | .one _=>match vs with
  | [v]=>let r:=dG b v s;(.one r.1,r.2)
  |_=>(.dead,s)
 | .agg _=>let r:=ez b vs s;(.agg r.1,r.2)
 | .blk _=>let r:=ez (b+1) vs s;(.one (.ptr b ((r.2.ob b).g+1) 0),r.2.new b (.blk r.1))
 | .ro cs=>match jE cs vs with
  |some x=>(.one (.eo cs x 0),s)
  |none=>(.dead,s)
 | .fn f aM=>(.one (.fn f (dh aM vs)),s)
 | .py f aM=>let q:=dH b aM vs s;(.one (.fn f q.1),q.2)
def Cp.width:Cp->Nat
 | .ro _=>0
 | .mu ks=>ks.length+1
def sJ:List Cp->Nat
 | []=>0
 |c::r=>c.width+sJ r
def Sh.width:Sh->Nat
 | .one _=>1
 | .agg ks=>ks.length
 | .blk ks=>ks.length+1
 | .py _ aM=>sJ aM
 |_=>0
def bC(b:Nat):List Sh->List (KV A)->St A->List (TV A)×St A
 | [],_,s=>([],s)
 |sh::aW,vs,s=>let r:=cK b sh (vs.take sh.ks.length) s;let q:=bC (b+sh.width) aW (vs.drop sh.ks.length) r.2;(r.1::q.1,q.2)
def A5:List Cp->List (List K)
 | []=>[]
 | .ro _::r=>A5 r
 | .mu ks::r=>ks::A5 r
def qN:List Cp->List (dc A)->List (Lf A)
 | .ro _::r,_::cc=>qN r cc
 | .mu _::r,.ptr id g::cc=>.ptr id g 0::qN r cc
 | .mu _::r,.ro _ _::cc=>.dead::qN r cc
 | .ro _::r,[]=>qN r []
 | .mu _::r,[]=>.dead::qN r []
 | [],_=>[]
def Sh.Co:Sh->List (List K)
 | .blk ks=>[ks]
 | .py _ aM=>A5 aM
 |_=>[]
def eD(aW:List Sh):List (List K):=(aW.map Sh.Co).flatten
def Sh.Cq(sh:Sh)(v:TV A):List (Lf A):=
 match sh,v with
 | .blk _,.one l=>[l]
 | .blk _,_=>[.dead]
 | .py _ aM,.one (.fn _ cc)=>qN aM cc
 | .py _ aM,_=>qN aM []
 |_,_=>[]
def cq:List Sh->List (TV A)->List (Lf A)
 |sh::aW,v::vs=>sh.Cq v++cq aW vs
 |_,_=>[]
def cZ:Nat:=1099511627776
def bA(id:Nat):Nat:=cZ+id*64
def g9:List (List K)->List (Lf A)->List (KV A)->St A->Option (St A)
 | [],[],[],s=>some s
 |ks::gB,.ptr id _ 0::ls,vs,s=>
  bif Nat.ble (id+1) cZ&&(Nat.ble ks.length 64&&Nat.ble ks.length vs.length)then
   g9 gB ls (vs.drop ks.length) ((ez (bA id) (vs.take ks.length) s).2.bM id true (.blk (ez (bA id) (vs.take ks.length) s).1))
  else none
 |_,_,_,_=>none
def apart(b W:Nat):List (Lf A)->Bool
 | []=>true
 | .ptr id _ _::ls=>(Nat.ble (id+1) b||Nat.ble (b+W) id)&&apart b W ls
 |_::_=>false
def dZ(look:Bool)(args:List Sh):List K:=bif look then(args.map Sh.outs).flatten else []
def ed:List Sh->Nat
 | []=>0
 |sh::aW=>sh.width+ed aW
abbrev bK:=List (Nat×Sh)
def bK.ks(t:bK):List K:=(t.map (·.2.ks)).flatten
def iU(t:bK)(s:St A):Option (fE A (bK.ks t) × St A):=
  match bL (t.map (·.2)) (t.map fun p=>s.sl p.1) s with
  |some (vs, s1)=>(kp _ vs).map fun x=>(x, s1)
  |none=>none
def gU:List Nat->List (TV A)->St A->St A
 |d::ds,v::vs,s=>gU ds vs (s.set d v)
 |_,_,s=>s
def vW(t:bK)(x:fE A (bK.ks t))(s:St A):St A:=
  let q:=bC 1 (t.map (·.2)) (cl _ x) s
  gU (t.map (·.1)) q.1 q.2
def St.start:St A:={ sl:=fun _=>.dead,ob:=fun _=>⟨0,0,.gone⟩ }
def Sh.eJ:Sh->Bool
 | .one k=>k.mj
 | .agg ks=>ks.all K.mj
 | .ro _| .fn _ _=>true
 |_=>false
def Sh.qi:Sh->Bool
 | .one _| .agg _| .blk _=>true
 |_=>false
def oB:List Nat->List Nat->Bool
 | [],[]=>true
 |a::as,b::bs=>Nat.beq a b&&oB as bs
 |_,_=>false
theorem p5:∀ {a b:List Nat},oB a b=true->a=b
 | [],[],_=>rfl
 |a::as,b::bs,h=>by simp only[oB,Bool.and_eq_true]at h;rw[Nat.eq_of_beq_eq_true h.1,p5 h.2]
 | [],_::_,h=>by cases h
 |_::_,[],h=>by cases h
abbrev bR:=FuncId×List FuncId
def uj(args:List (TV A)):List FuncId:=args.filterMap fun v=>match v with| .one (.fn f _)=>some f|_=>none
def bR.beq(a b:bR):Bool:=Nat.beq a.1 b.1&&oB a.2 b.2
theorem bR.eq_of_beq{a b:bR}(h:bR.beq a b=true):a=b:=by simp only[bR.beq,Bool.and_eq_true]at h;exact Prod.ext (Nat.eq_of_beq_eq_true h.1) (p5 h.2)
structure Callee (A:ol) (M:Type) where
 look:Bool
 args:List Sh
 aP:List Sh
 run:fE A ((args.map Sh.ks).flatten)->(fE A ((aP.map Sh.ks).flatten++(dZ look args++(eD args).flatten))->M)->M
inductive Ex where
 |normal
 |exit (id:Nat)
 |ret
 deriving DecidableEq
def jz(A:ol):List (Ex×bK)->Type
 | []=>Empty
 |e::es=>fE A (bK.ks e.2)⊕jz A es
def jz.elim{M:Type}:(es:List (Ex×bK))->jz A es->(Ex->(t:bK)->fE A (bK.ks t)->M)->M
 | [],q,_=>Empty.elim q
 |e::es,q,k=>Sum.elim (fun y=>k e.1 e.2 y) (fun q=>jz.elim es q k) q
structure yU (A:ol) (M:Type) where
 keep:bK
 cX:bK
 cG:List (Ex×bK)
 run:fE A (bK.ks keep)->fE A (bK.ks cX)->(Ex->(t:bK)->fE A (bK.ks t)->M)->M
def TV.comp:TV A->Bool×List (Lf A)
 | .one l=>(false,[l])
 | .agg ls=>(true,ls)
 | .nE _=>(false,[.dead])
def TV.mC:List (TV A)->TV A
 | [v]=>v
 |vs=>.nE (vs.map TV.comp)
end Go.R
namespace Go.R
variable {A:ol} {M:Type}
def limit:Int:=1073741824
def kL(C:xm A M)(tb:Bool)(op:BinOp)(x y:Lf A)(k:Lf A->M):M:=
 match x,y with
 | .val (.int a) x,.val (.int b) y=>
  match op with
  | .shl| .shr=>C.cond (A.Cd b y) C.fail (k (.val (.int a) (A.shift op a b x y)))
  |op=>
   if h:Ty.beq (.int b) (.int a)=true then
    match op with
    | .add| .sub| .mul| .and| .or| .xor| .andNot=>k (.val (.int a) (A.arith op a x (A.cast h y)))
    | .quo| .rem=>C.cond (A.isZero a (A.cast h y)) C.fail (k (.val (.int a) (A.arith op a x (A.cast h y))))
    |_=>k (.val .bool (A.cmp op a x (A.cast h y)))
   else C.fail
 | .val .bool x,.val .bool y=>
  bif tb then
   match op with
   | .eql=>k (.val .bool (A.Bh x y))
   | .neq=>k (.val .bool (A.AC (A.Bh x y)))
   |_=>C.fail
  else C.fail
 | .val .str x,.val .str y=>
  match op with
  | .add=>C.cond (A.Cj x y) (k (.val .str (A.Es x y))) C.fail
  | .eql| .neq| .lss| .leq| .gtr| .geq=>k (.val .bool (A.Et op x y))
  |_=>C.fail
 |_,_=>C.fail
def fw(E:Env)(t:Nat):Bool:=
 match E.ti t with
 |some i=>(match i.cs with| .cons .bool .nil=>true|_=>false) && !i.agg
 |none=>false
def kD(E:Env)(t:Nat):Bool:=
 match E.ti t with
 |some i=>(match i.cs with| .cons .str .nil=>true|_=>false) && !i.agg
 |none=>false
def E6:(t:Ty)->A.V t->A.V t->Option (A.V .bool)
 | .int k,x,y=>some (A.cmp .eql k x y)
 | .bool,x,y=>some (A.Bh x y)
 |_,_,_=>none
def kz:aJ->List (Lf A)->List (Lf A)->Option (A.V .bool)
 | .nil,[],[]=>some (A.lD true)
 | .cons t ts,.val u x::xs,.val v y::ys=>
  if hu:Ty.beq u t=true then if hv:Ty.beq v t=true then
   match E6 t (A.cast hu x) (A.cast hv y),kz ts xs ys with
   |some b,some r=>some (A.Dx b r)
   |_,_=>none
  else none else none
 |_,_,_=>none
def sX(s:St A)(id g:Nat):Option (Sigma fun k=>A.V (.sl 0 (aJ.mp k))):=bif Nat.beq (s.ob id).g g then match(s.ob id).o with| .mp k x=>some ⟨k,x⟩|_=>none else none
def eW(s:St A):Lf A->Bool
 | .val .. | .eR .. | .eo .. | .fn ..=>true
 | .ref id g h p=>(s.cont id g h p).isSome
 | .ptr id g _=>(dw s id g).isSome
 | .cS id g=>(sX s id g).isSome
 | .cf id g h p _ _=>match s.cont id g h p with
  |some c=>!Nat.beq c.md 0
  |none=>false
 | .BU .. | .undef| .dead=>false
def cells?(s:St A)(v:TV A):Option (List (Lf A)):=
 match v with
 | .one l=>bif eW s l then some [l]else none
 | .agg ls=>bif ls.all (eW s)then some ls else none
 | .nE _=>none
def fL(fM:List (Nat×Nat×Bool))(E:Env)(s:St A):List (Nat×Operand)->List (Lf A)->Option (List (Lf A))
 | [],cs=>some cs
 |(i,x)::r,cs=>
  match fM[i]? with
  |some (off,n,_)=>
   match cells? s (ev E s 0 x)with
   |some v=>bif Nat.beq v.length n&&Nat.ble (off+n) cs.length then fL fM E s r (cs.take off++v++cs.drop (off+n))else none
   |none=>none
  |none=>none
def gp(E:Env)(s0:St A)(e:Nat)(cs:aJ):List Operand->A.V (.sl e cs)->St A->Option (A.V (.sl e cs)×St A)
 | [],x,s=>some (x,s)
 |o::os,x,s=>
  match cells? s0 (ev E s0 0 o)with
  |some ls=>match eS false cs ls s with
   |some (el,s1)=>gp E s0 e cs os (A.push x el) s1
   |none=>none
  |none=>none
def fz(E:Env)(s:St A)(n:Nat):List Operand->Option (List (List (Lf A)))
 | []=>some []
 |o::os=>match cells? s (ev E s 0 o),fz E s n os with
  |some ls,some r=>bif Nat.beq ls.length n then some (ls::r)else none
  |_,_=>none
def hY:Nat->List Nat->Bool
 |_,[]=>true
 |m,n::r=>Nat.beq m n&&hY (m+1) r
def we(s:St A)(id g:Nat)(path:List (A.V (.int .i64)×Nat))(i:A.V (.int .i64))(md:Nat):Nat->(t:Ty)->A.V t->Lf A:=bif Nat.beq md 2 then Em id g (s.ob id).h path i else uG
def iN(s:St A)(isAgg:Bool)(n:Nat)(p:Lf A):Option (TV A):=
 match p with
 | .ptr id g off=>match dw s id g with
  |some cs=>if off+n<=cs.length then some (TV.mk isAgg ((cs.drop off).take n))else none
  |none=>none
 | .cf id g h path i off=>match s.cont id g h path with
  |some c=>
   bif Nat.beq c.md 0 then none else
   let cells:=unpack (we s id g path i c.md) c.cs (A.get c.x i) 0;if off+n<=cells.length then some (TV.mk isAgg ((cells.drop off).take n))else none
  |none=>none
 | .eo cs x off=>let cells:=unpack uG cs x 0;if off+n<=cells.length then some (TV.mk isAgg ((cells.drop off).take n))else none
 |_=>none
def bq(deep:Bool):(cs:aJ)->A.Vs cs->Nat->List (Lf A)->St A->Option (A.Vs cs×St A)
 |_,x,_,[],s=>some (x,s)
 |cs,x,j,l::ls,s=>
  match cellAt cs x j with
  |some ⟨t,_⟩=>match bU deep t l s with
   |some (v,s1)=>match setCell cs x j ⟨t,v⟩with
    |some y=>bq deep cs y (j+1) ls s1
    |none=>none
   |none=>none
  |none=>none
def B3:(cs:aJ)->Nat->Nat->Bool
 | .nil,_,_=>false
 | .cons t ts,off,n=>match off,n with
  |0,0=>false
  |0,n+1=>(match t with| .sl ..=>true|_=>false)||B3 ts 0 n
  |off+1,n=>B3 ts off n
def ke(s:St A)(id h e:Nat)(cs:aJ)(x:A.V (.sl e cs))(p:List (A.V (.int .i64)×Nat))(i:A.V (.int .i64))(off:Nat)(v:List (Lf A)):Option (St A):=
 bif p.isEmpty||Nat.beq (s.ob id).h h then
  match follow 2 e cs x p with
  |some c=>match takes ((c.cs.kd.drop off).take v.length) v s with
   |some (vs,s1)=>match setRow c.cs (A.get c.x i) off vs with
    |some el=>match putAt c (A.put c.x i el) e cs x p with
     |some x'=>match(s1.ob id).o with
      | .arr ..=>some (s1.bM id true (.arr e cs true x'))
      |_=>none
     |none=>none
    |none=>none
   |none=>none
  |none=>none
 else none
def gV(s:St A)(p:Lf A)(v:List (Lf A)):Option (St A):=
 match p with
 | .ptr id g off=>match dw s id g with
  |some cs=>if off+v.length<=cs.length then some (s.bM id true (.blk (cs.take off++v++cs.drop (off+v.length))))else none
  |none=>none
 | .cf id g h p i off=>
  bif Nat.beq (s.ob id).g g then
   match(s.ob id).o with
   | .arr e cs deep x=>
    bif deep then ke s id h e cs x p i off v
    else match p with
     | []=>match bq false cs (A.get x i) off v s with
      |some (el,s1)=>
       match(s1.ob id).o with
       | .arr ..=>some (s1.bM id true (.arr e cs false (A.put x i el)))
       |_=>none
      |none=>none
     |_::_=>none
   |_=>none
  else none
 |_=>none
def mi:TV A->Option (A.V (.int .i64))
 | .one (.val t x)=>if h:Ty.beq t (.int .i64)=true then some (A.cast h x)else none
 |_=>none
def Ab:TV A->Option (Sigma fun k=>A.V (.int k))
 | .one (.val (.int k) x)=>some ⟨k,x⟩
 |_=>none
def oU:TV A->Option (A.V .bool)
 | .one (.val t x)=>if h:Ty.beq t .bool=true then some (A.cast h x)else none
 |_=>none
def BT:TV A->Option (A.V .str)
 | .one (.val t x)=>if h:Ty.beq t .str=true then some (A.cast h x)else none
 |_=>none
def hJ(s:St A):TV A->Option (Cont A)
 | .one (.val (.sl e cs) x)=>some ⟨e,cs,x,0⟩
 | .one (.eR e cs)=>some ⟨e,cs,A.kN e cs,1⟩
 | .one (.ref id g h p)=>s.cont id g h p
 |_=>none
def ar(C:xm A M){α:Type}(o:Option α)(k:α->M):M:=match o with|some x=>k x|none=>C.fail
def gP:Option Operand->Bool
 |some (.const (.int _ n))=>decide (n=0)
 |_=>false
def eV(E:Env)(C:xm A M)(d:Nat)(s:St A)(x:TV A)(c:Cont A)(xL:Bool)(l h:A.V (.int .i64))(k:TV A->St A->M):M:=
 match x with
 | .one (.ref id _ _ [])=>
  bif Nat.beq c.md 0 then k (.one (.val (.sl c.e c.cs) (A.sub c.x l h))) s
  else bif E.trunc d&&xL then
   bif Nat.beq c.md 2 && !c.cs.plain then C.fail else
   let s1:=(s.bM id true .gone).new (aZ d 0 0) (.arr c.e c.cs (Nat.beq c.md 2) (A.sub c.x l h));k (.one (.ref (aZ d 0 0) ((s1.ob (aZ d 0 0)).g) 0 [])) s1
  else k (.one (.val (.sl c.e c.cs) (A.sub c.x l h))) (s.bM id true (.cz c.e c.cs c.x))
 | .one (.ref ..)=>C.fail
 |_=>k (.one (.val (.sl c.e c.cs) (A.sub c.x l h))) s
def Ce:Option Operand->Bool
 |none=>true
 |x=>gP x
def jk(E:Env)(C:xm A M)(d t:Nat)(s:St A)(x:TV A)(lo hi mx:Option Operand)(k:TV A->St A->M):M:=
 ar C (E.nB t) fun q=>
 ar C (hJ s x) fun c=>
 bif Nat.beq q.1 c.e&&aJ.beq q.2 c.cs then
  bif gP mx&&(gP hi&&Ce lo)then k (.one (.eR c.e c.cs)) s else
  match mx with
  |some _=>C.fail
  |none=>
   ar C (match lo with|some o=>mi (ev E s 0 o)|none=>some (A.xT .i64 0)) fun l=>
   ar C (match hi with|some o=>mi (ev E s 0 o)|none=>some (A.len c.x)) fun h=>C.cond (A.Ck c.x l h) (eV E C d s x c lo.isNone l h k) C.fail
 else C.fail
def gM(s:St A):TV A->Option Nat
 | .one (.ref id g _ [])=>bif Nat.beq (s.ob id).g g then(match(s.ob id).o with| .arr _ _ dp _=>bif dp then some id else none|_=>none)else none
 |_=>none
def sU:TV A->Bool
 | .one (.eR ..)=>true
 |_=>false
def dy(E:Env)(C:xm A M)(d:Nat)(b:Builtin)(fC:List Nat)(args:List (TV A))(s:St A)(k:TV A->St A->M):M:=
 match b,args,fC with
 | .len,[x],[t]=>
  bif kD E t then ar C (BT x) fun x=>k (.one (.val (.int .i64) (A.Db x))) s
  else ar C (E.nB t) fun _=>ar C (hJ s x) fun c=>k (.one (.val (.int .i64) (A.len c.x))) s
 | .min,[x,y],_=>ar C (mi x) fun x=>ar C (mi y) fun y=>k (.one (.val (.int .i64) (A.AB false .i64 x y))) s
 | .max,[x,y],_=>ar C (mi x) fun x=>ar C (mi y) fun y=>k (.one (.val (.int .i64) (A.AB true .i64 x y))) s
 | .append,[x,y],[t,t']=>
  ar C (E.nB t) fun q=>
  ar C (E.nB t') fun _=>
  ar C (hJ s x) fun cx=>
  ar C (hJ s y) fun cy=>
  bif !(Nat.beq q.1 cx.e&&aJ.beq q.2 cx.cs)then C.fail else
  match(match x with
    | .one (.eR ..)=>some (s,false)
    | .one (.ref id _ _ [])=>(match cx.md with|0=>none|md=>some (s.bM id true .gone,Nat.beq md 2))
    |_=>none)with
  |none=>C.fail
  |some (s1,dp)=>
   bif (dp||Nat.beq cy.md 2) && !cx.cs.plain then
    match gM s1 y with
    |some iJ=>
     bif dp||sU x then
      if h:Ty.beq (.sl cy.e cy.cs) (.sl cx.e cx.cs)=true then
       let z:=A.cat cx.x (A.cast h cy.x)
       C.cond (A.small z) (let s3:=(s1.bM iJ true .gone).new (aZ d 0 0) (.arr cx.e cx.cs true z);k (.one (.ref (aZ d 0 0) ((s3.ob (aZ d 0 0)).g) 0 [])) s3) C.fail
      else C.fail
     else C.fail
    |none=>C.fail
   else
    let s2:=s1;if h:Ty.beq (.sl cy.e cy.cs) (.sl cx.e cx.cs)=true then
     let z:=A.cat cx.x (A.cast h cy.x)
     C.cond (A.small z) (let s3:=s2.new (aZ d 0 0) (.arr cx.e cx.cs dp z);k (.one (.ref (aZ d 0 0) ((s3.ob (aZ d 0 0)).g) 0 [])) s3) C.fail
    else C.fail
 |_,_,_=>C.fail
def fT(E:Env)(s:St A)(op:BinOp)(t:Nat)(x y:Operand):Option (Lf A):=
 match y with
 | .const (.slice none 0 0)=>
  match E.nB t,hJ s (ev E s t x)with
  |some _,some c=>match op with
   | .eql=>some (.BU (A.cmp .gtr .i64 (A.len c.x) (A.xT .i64 0)) false)
   | .neq=>some (.BU (A.cmp .gtr .i64 (A.len c.x) (A.xT .i64 0)) true)
   |_=>none
  |_,_=>none
 |_=>none
def oC:Operand->Operand->Bool
 | .tmp a,.tmp b=>Nat.beq a b
 | .const (.int k a),.const (.int j b)=>decide (k=j)&&decide (a=b)
 |_,_=>false
def tZ:TV A->Option (dc A)
 | .one (.ptr id g 0)=>some (.ptr id g)
 | .one (.eo cs x 0)=>some (.ro cs x)
 |_=>none
def dc.tv:dc A->TV A
 | .ptr id g=>.one (.ptr id g 0)
 | .ro cs x=>.one (.eo cs x 0)
def ow(f:Callee A M):Bool:=Nat.ble (ed f.aP) 2047&&bif f.look then f.aP.all Sh.flat&&((f.args.all fun sh=>sh.eJ||sh.flat)&&((f.aP.all fun sh=>sh.ks.all K.closed)&&f.args.all fun sh=>sh.outs.all K.closed))else f.aP.all Sh.qi
def jt(C:xm A M)(f:Callee A M)(d:Nat)(args:List (TV A))(s:St A)(k:TV A->St A->M):M:=
  ar C (oA f.args args s) fun s1=>
  ar C (dM f.args args s s1) fun vs=>
  ar C (kp _ vs) fun x=>
  f.run x fun y=>
   let n:=(f.aP.map Sh.ks).flatten.length
   ar C (iZ f.args args ((cl _ y).drop n) s1) fun s2=>
   let q:=bC (aZ d 0 0) f.aP ((cl _ y).take n) s2
   k (TV.mC q.1) q.2
structure sw (A:ol) where
 nb:Nat
 gn:Nat
 id:Nat
 g:Nat
 e:Nat
 cs:aJ
 x:A.V (.sl e cs)
 c:Cont A
 path:List (A.V (.int .i64)×Nat)
def iy(nb:Nat)(id g h:Nat)(p:List (A.V (.int .i64)×Nat))(s:St A):Option (TV A×St A×sw A):=
 match s.cont id g h p with
 |some c=>match(s.ob id).o with
  | .arr e cs true x=>
   bif Nat.beq id nb then none else
   let s1:=(s.bM id true .gone).new nb (.arr c.e c.cs true c.x)
   some (.one (.ref nb (s1.ob nb).g 0 []),s1,⟨nb,(s1.ob nb).g,id,g,e,cs,x,c,p⟩)
  |_=>none
 |none=>none
def dR(nb:Nat):List Sh->List (TV A)->St A->Option (List (TV A)×St A×sw A)
 | .one (.arr ..)::_,.one (.ref id g h (st::p))::bY,s=>(iy nb id g h (st::p) s).map fun r=>(r.1::bY,r.2)
 |_::aW,v::bY,s=>(dR nb aW bY s).map fun r=>(v::r.1,r.2)
 |_,_,_=>none
def jh(q:sw A)(s:St A):Option (St A):=
 match(s.ob q.nb).o with
 | .arr e cs dp y=>
  bif (Nat.beq (s.ob q.id).g q.g&&Nat.beq (s.ob q.nb).g q.gn)&&(Nat.ble 1 q.g&&(dp||cs.plain))then
   if hc:Ty.beq (.sl e cs) (.sl q.c.e q.c.cs)=true then
    match putAt q.c (A.cast hc y) q.e q.cs q.x q.path with
    |some x'=>some ((s.bM q.nb true .gone).bM q.id true (.arr q.e q.cs true x'))
    |none=>none
   else none
  else none
 |_=>none
def lY(C:xm A M)(f:Callee A M)(d:Nat)(args:List (TV A))(s:St A)(k:TV A->St A->M):M:=
 bif ow f then
 bif f.look then
  match dR (aZ d 0 0+2047) f.args args s with
  |some (args',s',q)=>jt C f d args' s' fun v s2=>ar C (jh q s2) fun s3=>k v s3
  |none=>jt C f d args s k
 else
  bif Nat.ble (aZ d 0 0+ed f.aP) cZ&&apart (aZ d 0 0) (ed f.aP) (cq f.args args)then
  ar C (bL f.args args s) fun r=>
  ar C (kp _ r.1) fun x=>
  f.run x fun y=>
   let n:=(f.aP.map Sh.ks).flatten.length
   ar C (g9 (eD f.args) (cq f.args args) ((cl _ y).drop n) r.2) fun s2=>
   let q:=bC (aZ d 0 0) f.aP ((cl _ y).take n) s2
   k (TV.mC q.1) q.2
  else C.fail
 else C.fail
def bl(E:Env)(C:xm A M)(Φ:bR -> Option (Callee A M))(o:Oper)(s:St A)(k:St A -> M):M:=
  let d:=o.dst.getD 0;let put (v:TV A) (s:St A):M:=k (s.cg o.dst v);match o.op with
  | .move x| .assign x=>put (ev E s o.type x) s
  | .pick c a b=>ar C (oU (ev E s 4 c)) fun c=>C.cond c (put (ev E s o.type a) s) (put (ev E s o.type b) s)
  | .alloc t=>ar C (E.ti t) fun i=>let s1:=s.new (aZ d 0 0) (.blk (mN A i.cs)); put (.one (.ptr (aZ d 0 0) (s1.ob (aZ d 0 0)).g 0)) s1
  | .box t x=>ar C (E.ti t) fun i=>ar C (cells? s (ev E s t x)) fun v=>
      bif Nat.beq v.length i.cs.len then
        bif E.ro d then ar C (eS false i.cs v s) fun r=>put (.one (.eo i.cs r.1 0)) r.2
        else let s1:=s.new (aZ d 0 0) (.blk v); put (.one (.ptr (aZ d 0 0) (s1.ob (aZ d 0 0)).g 0)) s1
      else C.fail
  | .build t parts=>ar C (E.ti t) fun i=>bif i.agg then ar C (fL i.fM E s parts.toList (mN A i.cs)) fun cs=>put (.agg cs) s else C.fail
  | .buildSlice t n parts=>ar C (E.nB t) fun r=>
      bif Nat.beq parts.toList.length n&&hY 0 (parts.toList.map (·.1))&&decide (n * r.2.len <= 16777216)then
      bif E.deep d then
        ar C (fz E s r.2.len (parts.toList.map (·.2))) fun lss=>
        ar C (takes (lss.map fun _=>r.2.kd).flatten lss.flatten s) fun q=>
        ar C (BL r.1 r.2 n q.1 (A.kN r.1 r.2)) fun x=>let s1:=q.2.new (aZ d 0 0) (.arr r.1 r.2 true x); put (.one (.ref (aZ d 0 0) (s1.ob (aZ d 0 0)).g 0 [])) s1
      else
      ar C (gp E s r.1 r.2 (parts.toList.map (·.2)) (A.kN r.1 r.2) s) fun q=>let s1:=q.2.new (aZ d 0 0) (.arr r.1 r.2 false q.1); put (.one (.ref (aZ d 0 0) (s1.ob (aZ d 0 0)).g 0 [])) s1
      else C.fail
  | .load t p=>ar C (E.ti t) fun i=>
      match ev E s 0 p with
      | .one l=>ar C (iN s i.agg i.cs.len l) fun v=>put v s
      |_=>C.fail
  | .store t p v=>ar C (E.ti t) fun i=>ar C (cells? s (ev E s t v)) fun v=>
      bif Nat.beq v.length i.cs.len then
        match ev E s 0 p with
        | .one l=>ar C (gV s l v) fun s1=>put .undef s1
        |_=>C.fail
      else C.fail
  | .nilCheck x=>match ev E s 0 x with
      | .one (.ptr id g off)=>ar C (dw s id g) fun _=>put (.one (.ptr id g off)) s
      | .one (.cf id g h p j off)=>ar C (s.cont id g h p) fun c=>bif Nat.beq c.md 0 then C.fail else put (.one (.cf id g h p j off)) s
      | .one (.eo cs y off)=>put (.one (.eo cs y off)) s
      |_=>C.fail
  | .binOp op t x y _=>
      match fT E s op t x y with
      |some l=>put (.one l) s
      |none=>
      match ev E s t x, ev E s t y with
      | .one x, .one y=>kL C (fw E t) op x y fun l=>put (.one l) s
      | .agg xs, .agg ys=>ar C (E.ti t) fun i=>ar C (bif E.EJ t then kz i.cs xs ys else none) fun b=>
          match op with
          | .eql=>put (.one (.val .bool b)) s
          | .neq=>put (.one (.val .bool (A.AC b))) s
          |_=>C.fail
      |_, _=>C.fail
  | .unOp op t x=>
      match op, ev E s t x with
      | .not, .one (.val .bool b)=>put (.one (.val .bool (A.AC b))) s
      | .neg, .one (.val (.int k) x)=>put (.one (.val (.int k) (A.neg k x))) s
      |_, _=>C.fail
  | .convert src dst x=>ar C (E.ti src) fun _=>ar C (E.ti dst) fun i=>
      bif i.agg then C.fail else
      match i.cs, ev E s src x with
      | .cons (.int j) .nil, .one (.val (.int k) x)=>put (.one (.val (.int j) (A.conv k j x))) s
      |_, _=>C.fail
  | .makeFunc (.func f) first captured=>
      bif Nat.beq first.size 0 then
        ar C (captured.toList.mapM fun c=>tZ (ev E s 0 c)) fun cc=>put (.one (.fn f cc)) s
      else C.fail
  | .makeMap t r=>ar C (E.mp t) fun k=>
      bif r.isNone then
        let s1:=s.new (aZ d 0 0) (.mp k (A.kN 0 (aJ.mp k))); put (.one (.cS (aZ d 0 0) (s1.ob (aZ d 0 0)).g)) s1
      else C.fail
  | .lookup t m x ok=>ar C (E.mp t) fun k=>
      bif ok then C.fail else
      match ev E s t m, ev E s 0 x with
      | .one (.cS id g), .one (.val u x)=>ar C (sX s id g) fun q=>bif decide (q.1 = k)then if h:Ty.beq u (.int q.1) = true then put (.one (.val .bool (A.CZ q.1 q.2 (A.cast h x)))) s else C.fail else C.fail
      |_, _=>C.fail
  | .mapUpdate t m x v=>ar C (E.mp t) fun k=>
      match ev E s t m, ev E s 0 x, oU (ev E s 4 v)with
      | .one (.cS id g), .one (.val u x), some v=>ar C (sX s id g) fun q=>bif decide (q.1 = k)then if h:Ty.beq u (.int q.1) = true then put .undef (s.bM id true (.mp q.1 (A.C3 q.1 q.2 (A.cast h x) v)))else C.fail else C.fail
      |_, _, _=>C.fail
  | .makeSlice t n c=>ar C (E.nB t) fun r=>
      ar C (mi (ev E s 3 n)) fun n'=>
      bif oC n c then
        C.cond (A.Ci n') (let s1:=s.new (aZ d 0 0) (.arr r.1 r.2 (E.deep d) (A.FR r.1 n' (fc A r.2))); put (.one (.ref (aZ d 0 0) (s1.ob (aZ d 0 0)).g 0 [])) s1) C.fail
      else C.fail
  | .slice t x lo hi mx=>jk E C d t s (ev E s t x) lo hi mx put
  | .fieldAddr t x f=>ar C (E.ti t) fun i=>ar C (i.fM[f]?) fun q=>
      bif !i.agg then C.fail else
      match ev E s 0 x with
      | .one (.ptr id g off)=>ar C (dw s id g) fun _=>put (.one (.ptr id g (off + q.1))) s
      | .one (.cf id g h p j off)=>ar C (s.cont id g h p) fun c=>bif Nat.beq c.md 0 then C.fail else put (.one (.cf id g h p j (off + q.1))) s
      | .one (.eo cs y off)=>put (.one (.eo cs y (off + q.1))) s
      |_=>C.fail
  | .field t x f=>ar C (E.ti t) fun i=>ar C (i.fM[f]?) fun q=>
      bif !i.agg then C.fail else
      match ev E s t x with
      | .agg ls=>bif Nat.ble (q.1 + q.2.1) ls.length then put (TV.mk q.2.2 ((ls.drop q.1).take q.2.1)) s else C.fail
      |_=>C.fail
  | .indexAddr t x i=>
      ar C (mi (ev E s 3 i)) fun i=>ar C (E.nB t) fun q=>
      match ev E s t x with
      | .one (.val (.sl _ cs) x)=>bif aJ.beq q.2 cs then C.cond (A.FG x i) (put (.one (.eo cs (A.get x i) 0)) s) C.fail else C.fail
      | .one (.ref id g h p)=>ar C (s.cont id g h p) fun c=>bif aJ.beq q.2 c.cs then C.cond (A.FG c.x i)
          (bif Nat.beq c.md 0 then put (.one (.eo c.cs (A.get c.x i) 0)) s
            else put (.one (.cf id g h p i 0)) s) C.fail else C.fail
      |_=>C.fail
  | .index t x i=>
      bif kD E t then
      ar C (Ab (ev E s 3 i)) fun i=>ar C (BT (ev E s t x)) fun x=>C.cond (A.sin i.1 x i.2) (put (.one (.val (.int .u8) (A.Ew i.1 x i.2))) s) C.fail
      else C.fail
  | .extract t i=>
      match ev E s 0 t with
      | .nE cs=>ar C (cs[i]?) fun c=>put (TV.mk c.1 c.2) s
      |_=>C.fail
  | .call c=>bif Nat.beq c.args.size c.argTypes.size then
      let args:=(c.args.toList.zip c.argTypes.toList).map fun p=>ev E s p.2 p.1;match c.callee with
      | .builtin b=>dy E C d b c.argTypes.toList args s put
      | .value f=>match ev E s 0 f with
        | .one (.fn f cc)=>ar C (Φ (f, uj args)) fun g=>lY C g d (args ++ cc.map dc.tv) s put
        |_=>C.fail
      |_=>C.fail
      else C.fail
  |_=>C.fail
def rV(E:Env):Option Nat->Bool
 |none=>true
 |some d=>Nat.ble (d+1) E.nt
def nu(E:Env)(C:xm A M)(Φ:bR -> Option (Callee A M))(ops:Array Oper):List Oper -> St A -> (St A -> M) -> M
  | [], s, k=>k s
  |o:: r, s, k=>
    bif rV E o.dst then
    match o.guard with
    |none=>bl E C Φ o s fun s1=>nu E C Φ ops r s1 k
    |some (j, want)=>
      match(ops[j]?).bind (·.dst)with
      |none=>C.fail
      |some t=>
        match s.sl t with
        | .one (.val .bool b)=>
          let yes (s:St A):M:=bl E C Φ o s fun s1=>nu E C Φ ops r s1 k;let no (s:St A):M:=nu E C Φ ops r (s.cg o.dst .undef) k
          C.cond b
            (let s1:=s.set t (.one (.val .bool (A.lD true))); bif want then yes s1 else no s1)
            (let s1:=s.set t (.one (.val .bool (A.lD false))); bif want then no s1 else yes s1)
        | .one .undef=>nu E C Φ ops r (s.cg o.dst .undef) k
        |_=>C.fail
    else C.fail
def ca:Op -> List Operand
  | .move x| .assign x| .box _ x| .load _ x| .nilCheck x| .unOp _ _ x| .convert _ _ x| .fieldAddr _ x _| .field _ x _| .extract x _=>[x]
  | .pick c a b=>[c, a, b]
  | .build _ ps| .buildSlice _ _ ps=>ps.toList.map (·.2)
  | .store _ a v| .binOp _ _ a v _| .makeSlice _ a v| .indexAddr _ a v| .index _ a v=>[a, v]
  | .makeFunc _ _ captured=>captured.toList
  | .lookup _ m x _=>[m, x]
  | .mapUpdate _ m x v=>[m, x, v]
  | .slice _ x l h m=>x:: (l.toList ++ (h.toList ++ m.toList))
  | .call c=>(match c.callee with| .value f=>[f]|_=>[]) ++ c.args.toList
  |_=>[]
def dc.bk:dc A->List Nat
 | .ptr id _=>[id]
 | .ro _ _=>[]
def Lf.bk:Lf A->List Nat
 | .ref id _ _ _| .ptr id _ _| .cf id _ _ _ _ _| .cS id _=>[id]
 | .fn _ aM=>aM.flatMap dc.bk
 |_=>[]
def TV.gq:TV A -> List (Lf A)
  | .one l=>[l]
  | .agg ls=>ls
  | .nE cs=>cs.flatMap (·.2)
def TV.bk(v:TV A):List Nat:=v.gq.flatMap Lf.bk
def reach(s:St A)(id:Nat):List Nat:=id::(match(s.ob id).o with| .blk ls=>ls.flatMap Lf.bk|_=>[])
def mE(s:St A):Operand->List Nat
 | .tmp t=>(s.sl t).bk
 |_=>[]
def vQ:Op->Bool
 | .move _| .assign _| .pick .. | .extract .. | .field .. | .makeFunc ..=>true
 |_=>false
def lQ(s:St A)(o:Oper):List Nat:=bif vQ o.op then []else(ca o.op).flatMap fun x=>(mE s x).flatMap (reach s)
def makes:Op->Bool
 | .alloc _| .box _ _| .buildSlice .. | .makeSlice .. | .makeMap .. | .slice ..=>true
 | .call c=>match c.callee with
  | .builtin b=>(match b with| .len| .min| .max=>false|_=>true)
  |_=>true
 |_=>false
def jT(o:Oper)(id:Nat):Bool:=makes o.op&&(Nat.ble (aZ (o.dst.getD 0) 0 0) id&&Nat.ble (id+1) (aZ (o.dst.getD 0) 0 0+2048))
def dc.Ad:dc A->Bool
 | .ptr ..=>true
 | .ro ..=>false
def mL(s:St A)(o:Oper):Bool:=
 match o.op with
 | .call c=>(c.args.toList.any fun x=>match x with
  | .tmp t=>(match s.sl t with| .one (.ptr ..)=>true| .one (.fn _ cc)=>cc.any dc.Ad|_=>false)
  |_=>false)||(match c.callee with
  | .value (.tmp t)=>(match s.sl t with| .one (.fn _ cc)=>cc.any dc.Ad|_=>false)
  |_=>false)
 |_=>false
def iQ(acc:List Nat):List Edge->Nat
 | []=>0
 |e::es=>bif Region.binds .any e then Nat.lor (Nat.lor (acc.getD e.on 0) (Nat.shiftLeft 1 e.on)) (iQ acc es)else iQ acc es
def gS:List Oper->List Nat->List Nat
 | [],acc=>acc
 |o::r,acc=>gS r (acc++[iQ acc o.after.toList])
def dX(P:List Nat)(i j:Nat):Bool:=Nat.testBit (P.getD i 0) j
def isDst(t:Nat):Option Nat->Bool
 |some d=>Nat.beq d t
 |none=>false
def F6(ops:Array Oper)(o:Oper):Option Nat:=
  match o.guard with
  |some (j, _)=>(ops[j]?).bind (·.dst)
  |none=>none
def kJ(ops:Array Oper)(o:Oper):List Nat:=(F6 ops o).toList++(ca o.op).filterMap fun| .tmp t=>some t|_=>none
def wrote(P:List Nat)(i t:Nat):Nat->List Oper->Bool
 |_,[]=>true
 |j,o::r=>(!isDst t o.dst||(dX P i j||dX P j i))&&wrote P i t (j+1) r
def alone(i:Nat)(d:Option Nat):Nat->List Oper->Bool
 |_,[]=>true
 |j,o::r=>(Nat.beq i j||(match d with|some t=>!isDst t o.dst|none=>true))&&alone i d (j+1) r
def lM(P:List Nat)(ops:Array Oper):Nat->List Oper->Bool
 |_,[]=>true
 |i,o::r=>(o.after.toList.all fun e=>!Region.binds .any e||Nat.ble (e.on+1) i)&&((kJ ops o).all fun t=>wrote P i t 0 ops.toList)&&alone i o.dst 0 ops.toList&&(!makes o.op||o.dst.isSome)&&lM P ops (i+1) r
structure vc (A:ol) where
 i:Nat
 o:Oper
 s:St A
 s':St A
def xd(s s':St A)(id:Nat):Bool:=Nat.beq (s.ob id).g (s'.ob id).g&&Nat.beq (s.ob id).h (s'.ob id).h
def xe(a b:vc A):Bool:=((lQ a.s a.o).all fun id=>xd b.s b.s' id&&(!jT b.o id&&(!mL b.s b.o||Nat.ble (id+1) cZ)))&&Nat.ble (aZ (a.o.dst.getD 0) 0 0+2048) cZ
def sG(P:List Nat)(rs:List (vc A)):Bool:=rs.all fun a=>rs.all fun b=>Nat.beq a.i b.i||(dX P a.i b.i||(dX P b.i a.i||(!(mL a.s a.o&&mL b.s b.o)&&(xe a b&&xe b a))))
def kQ(E:Env)(C:xm A M)(Φ:bR -> Option (Callee A M))(ops:Array Oper)(P:List Nat):Nat -> List Oper -> List (vc A) -> St A -> (St A -> M) -> M
  |_, [], rs, s, k=>bif sG P rs then k s else C.fail
  |i, o:: r, rs, s, k=>
    bif rV E o.dst then
    match o.guard with
    |none=>bl E C Φ o s fun s1=>kQ E C Φ ops P (i + 1) r (⟨i, o, s, s1⟩:: rs) s1 k
    |some (j, want)=>
      match(ops[j]?).bind (·.dst)with
      |none=>C.fail
      |some t=>
        match s.sl t with
        | .one (.val .bool b)=>
          let yes (s:St A):M:=bl E C Φ o s fun s1=>kQ E C Φ ops P (i + 1) r (⟨i, o, s, s1⟩:: rs) s1 k;let no (s:St A):M:=kQ E C Φ ops P (i + 1) r rs (s.cg o.dst .undef) k
          C.cond b
            (let s1:=s.set t (.one (.val .bool (A.lD true))); bif want then yes s1 else no s1)
            (let s1:=s.set t (.one (.val .bool (A.lD false))); bif want then no s1 else yes s1)
        | .one .undef=>kQ E C Φ ops P (i + 1) r rs (s.cg o.dst .undef) k
        |_=>C.fail
    else C.fail
def s7(E:Env)(C:xm A M)(Φ:bR->Option (Callee A M))(ops:Array Oper)(s:St A)(k:St A->M):M:=bif lM (gS ops.toList []) ops 0 ops.toList then kQ E C Φ ops (gS ops.toList []) 0 ops.toList [] s k else C.fail
def cN(ds:List Nat):Code->Bool
 | .skip| .exit _| .ret=>true
 | .region _ ops _=>ops.toList.all fun o=>match o.dst with|none=>true|some d=>!ds.any (Nat.beq d)
 | .seq a b| .cond _ a b=>cN ds a&&cN ds b
 | .block _ b| .loop b=>cN ds b
 |_=>false
def exec(E:Env)(C:xm A M)(Φ:bR -> Option (Callee A M))(L:Nat -> Option (yU A M)):Nat -> Code -> St A -> (Ex -> St A -> M) -> M
  |_, .skip, s, k=>k .normal s
  |_, .region _ ops d, s, k=>bif d then s7 E C Φ ops s (k .normal)else nu E C Φ ops ops.toList s (k .normal)
  |n, .seq a b, s, k=>exec E C Φ L n a s fun e s1=>match e with
    | .normal=>exec E C Φ L n b s1 k
    |e=>k e s1
  |n, .cond c a b, s, k=>match ev E s 4 c with
    | .one (.BU x y)=>C.cond x (bif y then exec E C Φ L n a s k else exec E C Φ L n b s k) (C.both (exec E C Φ L n a s k) (exec E C Φ L n b s k))
    |v=>ar C (oU v) fun c=>C.cond c (exec E C Φ L n a s k) (exec E C Φ L n b s k)
  |_, .block i b, s, k=>exec E C Φ L i b s fun e s1=>match e with
    | .exit j=>bif Nat.beq j i then k .normal s1 else k (.exit j) s1
    |e=>k e s1
  |n, .loop c, s, k=>ar C (L n) fun l=>
    bif l.keep.all (fun p=>p.2.eJ)&&cN (l.keep.map (·.1)) c then
      ar C (iU l.keep s) fun kx=>ar C (iU l.cX kx.2) fun x=>
      l.run kx.1 x.1 fun e t y=>k e (vW t y (vW _ kx.1 St.start))
    else C.fail
  |_, .exit i, s, k=>k (.exit i) s
  |_, .ret, s, k=>k .ret s
  |_, _, _, _=>C.fail
end Go.R
namespace Go.R
mutual
def Ty.T:Ty->Type
 | .int _=>Int
 | .bool=>Bool
 | .str=>ByteArray
 | .sl _ cs=>List cs.T
def aJ.T:aJ->Type
 | .nil=>Unit
 | .cons t ts=>match ts with
  | .nil=>t.T
  | .cons _ _=>t.T×ts.T
end
def kC:{t:Ty}->{ts:aJ}->(aJ.cons t ts).T->t.T
 |_,.nil,x=>x
 |_,.cons _ _,x=>x.1
def jD:{t:Ty}->{ts:aJ}->(aJ.cons t ts).T->ts.T
 |_,.nil,_=>()
 |_,.cons _ _,x=>x.2
def kM:{t:Ty}->{ts:aJ}->t.T->ts.T->(aJ.cons t ts).T
 |_,.nil,x,_=>x
 |_,.cons _ _,x,y=>(x,y)
theorem kR{t:Ty}{ts:aJ}(x:t.T)(y:ts.T):kC (kM x y)=x:=by cases ts <;> rfl
theorem kX{t:Ty}{ts:aJ}(x:t.T)(y:ts.T):jD (kM x y)=y:=by cases ts <;> rfl
theorem Cu{t:Ty}{ts:aJ}(x:(aJ.cons t ts).T):kM (kC x) (jD x)=x:=by cases ts <;> rfl
mutual
def zT:(t:Ty)->t.T
 | .int _=>(0:Int)
 | .bool=>false
 | .str=>ByteArray.empty
 | .sl _ _=>[]
def k7:(cs:aJ)->cs.T
 | .nil=>()
 | .cons t ts=>kM (zT t) (k7 ts)
end
def aa(op:BinOp)(k:IntKind)(x y:Int):Int:=
 match op with
 | .add=>k.wrap (x+y)
 | .sub=>k.wrap (x-y)
 | .mul=>k.wrap (x*y)
 | .quo=>k.wrap (x.tdiv y)
 | .rem=>x.tmod y
 | .and=>k.wrap (BitVec.ofInt k.bits x &&& BitVec.ofInt k.bits y).toNat
 | .or=>k.wrap (BitVec.ofInt k.bits x |||BitVec.ofInt k.bits y).toNat
 | .xor=>k.wrap (BitVec.ofInt k.bits x ^^^ BitVec.ofInt k.bits y).toNat
 | .andNot=>k.wrap (BitVec.ofInt k.bits x &&& ~~~BitVec.ofInt k.bits y).toNat
 |_=>0
def au(op:BinOp)(k:IntKind)(x y:Int):Int:=
 match op with
 | .shl=>k.wrap (x*2 ^ (min y.toNat k.bits))
 |_=>x.fdiv (2 ^ (min y.toNat k.bits))
def af(op:BinOp)(x y:Int):Bool:=
 match op with
 | .eql=>x==y
 | .neq=>x != y
 | .lss=>decide (x<y)
 | .leq=>decide (x<=y)
 | .gtr=>decide (x>y)
 | .geq=>decide (x>=y)
 |_=>false
def xa(op:BinOp)(x y:ByteArray):Bool:=
 match op with
 | .eql=>x.toList==y.toList
 | .neq=>!(x.toList==y.toList)
 | .lss=>Op.bytesLess x.toList y.toList
 | .leq=>Op.bytesLess x.toList y.toList||x.toList==y.toList
 | .gtr=>!(Op.bytesLess x.toList y.toList||x.toList==y.toList)
 | .geq=>!Op.bytesLess x.toList y.toList
 |_=>false
def gh(s:ByteArray)(i:Int):Int:=if h:i.toNat<s.size then((s[i.toNat]'h).toNat:Int)else 0
def ax(x:Int):Bool:=decide (x=0)
def cB(x:Int):Bool:=decide (x<0)
def bQ(x y:Bool):Bool:=x==y
def C8(k:IntKind)(x:Int):Int:=k.wrap (0-x)
def ak(j:IntKind)(x:Int):Int:=j.wrap x
def bI(b:Bool)(x y:Int):Int:=bif b then(if y>x then y else x)else(if y<x then y else x)
def qh(x y:ByteArray):Bool:=decide (((x.size+y.size:Nat):Int)<=1073741824)
def kO(x:ByteArray)(i:Int):Bool:=decide (0<=i)&&decide (i<(x.size:Int))
def ai{α:Type}(x:List α):Int:=(x.length:Int)
def aE{α:Type}(x:List α):Bool:=decide ((x.length:Int)<=limit)
def ah{α:Type}(x:List α)(i:Int):Bool:=decide (0<=i)&&decide (i<(x.length:Int))
def ae{α:Type}(z:α)(x:List α)(i:Int):α:=x.getD i.toNat z
def aC{α:Type}(x:List α)(i:Int)(y:α):List α:=x.set i.toNat y
def eN{α:Type}(x:List α)(l h:Int):List α:=(x.drop l.toNat).take (h.toNat-l.toNat)
def cP{α:Type}(x:List α)(l h:Int):Bool:=decide (0<=l)&&(decide (l<=h)&&decide (h<=(x.length:Int)))
def cW{α:Type}(n:Int)(y:α):List α:=List.replicate n.toNat y
def cI(n:Int):Bool:=decide (0<=n)&&decide (n<=limit)
def ct:List (Int×Bool)->Int->Bool
 | [],_=>false
 |y::r,k=>bif k==y.1 then y.2 else ct r k
def eT:List (Int×Bool)->Int->Bool->List (Int×Bool)
 | [],k,v=>[(k,v)]
 |y::r,k,v=>bif k==y.1 then(k,v)::r else y::eT r k v
def real:ol where
 V:=Ty.T
 Vs:=aJ.T
 xT _ n:=n
 lD b:=b
 CY s:=s
 arith op k x y:=aa op k x y
 shift op k _ x y:=au op k x y
 isZero _ x:=ax x
 Cd _ x:=cB x
 cmp op _ x y:=af op x y
 Bh x y:=bQ x y
 AC x:=Bool.not x
 Dx x y:=Bool.and x y
 neg k x:=C8 k x
 conv _ j x:=ak j x
 AB b _ x y:=bI b x y
 Et op x y:=xa op x y
 Es x y:=ByteArray.append x y
 Cj x y:=qh x y
 Db x:=(ByteArray.size x:Int)
 sin _ x i:=kO x i
 Ew _ x i:=gh x i
 kN _ _:=[]
 len x:=ai x
 small x:=aE x
 FG x i:=ah x i
 get {_ cs} x i:=ae (k7 cs) x i
 put x i y:=aC x i y
 push x y:=List.append x [y]
 cat x y:=List.append x y
 sub x l h:=eN x l h
 Ck x l h:=cP x l h
 FR _ _ n y:=cW n y
 Ci n:=cI n
 CZ _ x i:=ct x i
 C3 _ x i v:=eT x i v
 nl:=()
 cn x y:=kM x y
 hd x:=kC x
 tl x:=jD x
noncomputable def both{R:Type}(x y:Option R):Option R:=by classical exact if x=y then x else none
theorem xB{R:Type}{x y:Option R}{r:R}(h:both x y=some r):x=some r/\y=some r:=by
 unfold both at h;split at h
 ·rename_i e;exact⟨h,e▸h⟩
 ·cases h
theorem iE{R:Type}(x:Option R):both x x=x:=by simp[both]
noncomputable def aO(R:Type):xm real (Option R) where
 cond b x y:=bif b then x else y
 both x y:=Go.R.both x y
 fail:=none
abbrev Key:=Nat×List (Nat×Nat)
abbrev aK:=Nat->Option Key
inductive Md where
 |cz
 |flat (k:Key)
 |deep (k:Key)
def Md.inner:Md->Nat->Nat->Md
 | .deep k,i,j=>.deep (k.1,k.2++[(i,j)])
 |_,_,_=>.cz
def Md.has:Md->Key->Prop
 | .cz,_=>False
 | .flat k,k'=>k'=k
 | .deep k,k'=>k'.1=k.1/\k.2 <+: k'.2
theorem Md.rK{md:Md}{i j:Nat}{k:Key}(h:(md.inner i j).has k):md.has k:=by
 cases md with
 |cz=>exact h
 |flat _=>exact h.elim
 |deep k'=>exact⟨h.1,(List.prefix_append _ _).trans h.2⟩
def Hd(w:World)(ω:aK)(e:Nat)(sz:Nat)(md:Md)(a:Option Addr)(n c:Nat):Prop:=
 match md with
 | .cz=>0<n->∃b off,a=some ⟨b,off,none⟩/\ω b=none/\b<w.heap.size
 | .flat k| .deep k=>(c=0/\n=0)\/∃b arr,a=some ⟨b,0,none⟩/\w.heap[b]? = some (.cells arr e (0,0))/\arr.size=c*sz/\ω b=some k
mutual
def Ty.R(w:World)(ω:aK):(t:Ty)->Md->Value->t.T->Prop
 | .int k,_,v,x=>v=.int k x
 | .bool,_,v,x=>v=.bool x
 | .str,_,v,x=>v=.string x
 | .sl e cs,md,v,x=>∃a n c,v=.slice a n c/\List.length x=n/\n<=c/\Hd w ω e cs.len md a n c /\
   ∀(i:Nat) (ad:Addr),i<n->a=some ad->aJ.R w ω cs (md.inner i) (fun j=>w.cell? ⟨ad.block,ad.off+i*cs.len+j,none⟩) 0 (List.getD x i (k7 cs))
def aJ.R(w:World)(ω:aK):(cs:aJ)->(Nat->Md)->(Nat->Option Value)->Nat->cs.T->Prop
 | .nil,_,_,_,_=>True
 | .cons t ts,md,get,j,x=>(∃v,get j=some v/\t.R w ω (md j) v (kC x))/\aJ.R w ω ts md get (j+1) (jD x)
end
theorem bz{w:World}{b:Nat}{o:Obj}(h:w.heap[b]? = some o):b<w.heap.size:=(Array.getElem?_eq_some_iff.1 h).1
theorem fo{w w':World}{a:Addr}(h:w'.heap[a.block]? = w.heap[a.block]?):w'.cell? a=w.cell? a:=by unfold World.cell?;rw[h]
def lU(w:World)(ω:aK)(w':World)(aI:aK)(md:Md):Prop:=∀b,b<w.heap.size->(ω b=none\/∃k,ω b=some k/\md.has k)->w'.heap[b]? = w.heap[b]? /\ aI b=ω b
theorem lU.inner{w w':World}{ω aI:aK}{md:Md}(h:lU w ω w' aI md)(i j:Nat):lU w ω w' aI (md.inner i j):=fun b hb hk=>h b hb (hk.imp id fun⟨k,h1,h2⟩=>⟨k,h1,Md.rK h2⟩)
theorem Hd.frame{w w':World}{ω aI:aK}{e sz:Nat}{md:Md}{a:Option Addr}{n c:Nat}(hs:w.heap.size<=w'.heap.size)(H:lU w ω w' aI md)(h:Hd w ω e sz md a n c):Hd w' aI e sz md a n c:=by
 cases md with
 |cz=>intro hn;obtain⟨b,off,h1,h2,h3⟩:=h hn;exact⟨b,off,h1,(H b h3 (.inl h2)).2.trans h2,Nat.lt_of_lt_of_le h3 hs⟩
 |flat k=>
  rcases h with h|⟨b,arr,h1,h2,h3,h4⟩
  ·exact .inl h
  ·have:=H b (bz h2) (.inr ⟨k,h4,rfl⟩);exact .inr ⟨b,arr,h1,this.1.trans h2,h3,this.2.trans h4⟩
 |deep k=>
  rcases h with h|⟨b,arr,h1,h2,h3,h4⟩
  ·exact .inl h
  ·have:=H b (bz h2) (.inr ⟨k,h4,rfl,List.prefix_refl _⟩);exact .inr ⟨b,arr,h1,this.1.trans h2,h3,this.2.trans h4⟩
theorem Hd.block{w:World}{ω:aK}{e sz:Nat}{md:Md}{a:Option Addr}{n c:Nat}(h:Hd w ω e sz md a n c)(hn:0<n):
  ∃b off,a=some ⟨b,off,none⟩/\b<w.heap.size/\(ω b=none\/∃k,ω b=some k/\md.has k):=by
 cases md with
 |cz=>obtain⟨b,off,h1,h2,h3⟩:=h hn;exact⟨b,off,h1,h3,.inl h2⟩
 |flat k=>
  rcases h with h|⟨b,arr,h1,h2,h3,h4⟩
  ·omega
  ·exact⟨b,0,h1,bz h2,.inr ⟨k,h4,rfl⟩⟩
 |deep k=>
  rcases h with h|⟨b,arr,h1,h2,h3,h4⟩
  ·omega
  ·exact⟨b,0,h1,bz h2,.inr ⟨k,h4,rfl,List.prefix_refl _⟩⟩
mutual
theorem Ty.cD{w w':World}{ω aI:aK}(hs:w.heap.size<=w'.heap.size):∀(t:Ty) (md:Md) (v:Value) (x:t.T),lU w ω w' aI md->t.R w ω md v x->t.R w' aI md v x
 | .int _,_,_,_,_,h=>h
 | .bool,_,_,_,_,h=>h
 | .str,_,_,_,_,h=>h
 | .sl e cs,md,v,x,H,h=>by
  obtain⟨a,n,c,h1,h2,h3,h4,h5⟩:=h;refine⟨a,n,c,h1,h2,h3,h4.frame hs H,fun i ad hi ha=>?_⟩;obtain⟨b,off,e1,e2,e3⟩:=h4.block (by omega);have hb:ad.block=b:=by rw[e1]at ha;injection ha with ha;rw[<-ha]
  exact aJ.cD hs cs _ _ _ 0 _ (fun j=>H.inner i j) (fun j=>by have:=(H b e2 e3).1;exact fo (a:=⟨ad.block,_,none⟩) (by simpa[hb] using this)) (h5 i ad hi ha)
theorem aJ.cD{w w':World}{ω aI:aK}(hs:w.heap.size<=w'.heap.size):∀(cs:aJ) (md:Nat->Md) (g g':Nat->Option Value) (j:Nat) (x:cs.T),(∀j,lU w ω w' aI (md j))->(∀j,g' j=g j)->cs.R w ω md g j x->cs.R w' aI md g' j x
 | .nil,_,_,_,_,_,_,_,_=>trivial
 | .cons t ts,md,g,g',j,x,H,hg,h=>by obtain⟨⟨v,h1,h2⟩,h3⟩:=h;exact⟨⟨v,(hg j).trans h1,Ty.cD hs t (md j) v _ (H j) h2⟩,aJ.cD hs ts md g g' (j+1) _ H hg h3⟩
end
end Go.R
namespace Go.R
def bi{α β:Type}(r:α->β->Prop):List α->List β->Prop
 | [],[]=>True
 |a::as,b::bs=>r a b/\bi r as bs
 |_,_=>False
theorem bi.length{α β:Type}{r:α->β->Prop}:∀ {as:List α} {bs:List β},bi r as bs->as.length=bs.length
 | [],[],_=>rfl
 |_::_,_::_,h=>by simp[bi.length h.2]
 | [],_::_,h=>h.elim
 |_::_,[],h=>h.elim
theorem bi.mono{α β:Type}{r r':α->β->Prop}(hr:∀a b,r a b->r' a b):∀ {as:List α} {bs:List β},bi r as bs->bi r' as bs
 | [],[],_=>trivial
 |_::_,_::_,h=>⟨hr _ _ h.1,bi.mono hr h.2⟩
 | [],_::_,h=>h.elim
 |_::_,[],h=>h.elim
theorem bi.get{α β:Type}{r:α->β->Prop}:∀ {as:List α} {bs:List β},bi r as bs->∀(i:Nat) (b:β),bs[i]? = some b->∃a,as[i]? = some a/\r a b
 | [],[],_,i,b,hi=>by simp at hi
 |a::_,b::_,h,0,_,hi=>by simp at hi;subst hi;exact⟨a,rfl,h.1⟩
 |_::_,_::_,h,i+1,b,hi=>by simpa using bi.get h.2 i b (by simpa using hi)
 | [],_::_,h,_,_,_=>h.elim
 |_::_,[],h,_,_,_=>h.elim
theorem bi.ir{α β:Type}{r:α->β->Prop}:∀ {as:List α} {bs:List β} {cs:List α} {ds:List β},bi r as bs->bi r cs ds->bi r (as++cs) (bs++ds)
 | [],[],_,_,_,h=>h
 |_::_,_::_,_,_,h,h'=>⟨h.1,bi.ir h.2 h'⟩
 | [],_::_,_,_,h,_=>h.elim
 |_::_,[],_,_,h,_=>h.elim
theorem bi.take{α β:Type}{r:α->β->Prop}:∀ {as:List α} {bs:List β} (n:Nat),bi r as bs->bi r (as.take n) (bs.take n)
 | [],[],n,_=>by simp[bi]
 |_::_,_::_,0,_=>trivial
 |_::_,_::_,n+1,h=>⟨h.1,bi.take n h.2⟩
 | [],_::_,_,h=>h.elim
 |_::_,[],_,h=>h.elim
theorem bi.drop{α β:Type}{r:α->β->Prop}:∀ {as:List α} {bs:List β} (n:Nat),bi r as bs->bi r (as.drop n) (bs.drop n)
 | [],[],n,_=>by simp[bi]
 |_::_,_::_,0,h=>h
 |_::_,_::_,n+1,h=>bi.drop n h.2
 | [],_::_,_,h=>h.elim
 |_::_,[],_,h=>h.elim
theorem bi.FH{α β γ:Type}{r:α->β->Prop}(f:γ->β):∀ {as:List α} {cs:List γ},bi r as (cs.map f)↔bi (fun a c=>r a (f c)) as cs
 | [],[]=>Iff.rfl
 |_::_,_::_=>and_congr Iff.rfl (bi.FH f)
 | [],_::_=>Iff.rfl
 |_::_,[]=>Iff.rfl
abbrev L:=Lf real
abbrev S:=St real
abbrev ck:=TV real
abbrev IV:=real.V (.int .i64)
def IV.i(x:IV):Int:=x
abbrev jF:=List (IV×Nat)
def bD(p:jF):List (Nat×Nat):=p.map fun q=>(q.1.i.toNat,q.2)
def bj(md id:Nat)(p:jF):Md:=
 match md with
 |0=>.cz
 |1=>.flat (id,[])
 |_=>.deep (id,bD p)
def iB(w:World)(ω:aK)(v:Value)(cs:aJ)(x:cs.T)(off:Nat):Prop:=∃b o,ω b=none/\b<w.heap.size/\v=.pointer (some ⟨b,o+off,none⟩)/\cs.R w ω (fun _=>.cz) (fun j=>w.cell? ⟨b,o+j,none⟩) 0 x
def xp(ω:aK)(s:S)(v:Value)(id g off:Nat):Prop:=g<=(s.ob id).g/\((s.ob id).g=g->∀cells,(s.ob id).o=.blk cells->∃b,ω b=some (id,[])/\v=.pointer (some ⟨b,off,none⟩))
def gr(w:World)(ω:aK)(s:S)(v:Value):dc real->Prop
 | .ptr id g=>xp ω s v id g 0
 | .ro cs x=>iB w ω v cs x 0
def yX(k:IntKind)(es:List MapEntry)(x:List (Int×Bool)):Prop:=bi (fun(e:MapEntry) (y:Int×Bool)=>e.key=.int k y.1/\e.val=.bool y.2) es x
def ri(w:World)(ω:aK)(s:S)(v:Value)(id g:Nat):Prop:=g<=(s.ob id).g/\((s.ob id).g=g->∀k x,(s.ob id).o=.mp k x->∃b es c,ω b=some (id,[])/\v=.map (some b)/\w.heap[b]? = some (.map es c)/\yX k es.toList x)
def cw(w:World)(ω:aK)(s:S)(v:Value):L->Prop
 | .val t x=>t.R w ω .cz v x
 | .eR _ _=>∃a,v=.slice a 0 0
 | .ref id g h p=>g<=(s.ob id).g/\h<=(s.ob id).h+(if g=(s.ob id).g then 0 else h) /\
   ∀c,s.cont id g h p=some c->(Ty.sl c.e c.cs).R w ω (bj c.md id p) v c.x
 | .ptr id g off=>xp ω s v id g off
 | .cf id g h p i off=>g<=(s.ob id).g/\h<=(s.ob id).h+(if g=(s.ob id).g then 0 else h) /\
   ∀c,s.cont id g h p=some c->c.md≠0->0<=IV.i i/\IV.i i<(List.length c.x:Int)/\(∃b,ω b=some (id,bD p)/\v=.pointer (some ⟨b,(IV.i i).toNat*c.cs.len+off,none⟩)) /\
   ∃v',(Ty.sl c.e c.cs).R w ω (bj c.md id p) v' c.x
 | .eo cs x off=>iB w ω v cs x off
 | .cS id g=>ri w ω s v id g
 | .fn f aM=>∃cv:List Value,v=.func (.func f) #[] cv.toArray/\bi (fun v c=>gr w ω s v c) cv aM
 | .BU x y=>∃b:Bool,v=.bool b/\((x:Bool)=true->b=y)
 | .undef=>v=undef
 | .dead=>True
def nI(w:World)(ω:aK)(s:S)(v:Value)(c:Bool×List L):Prop:=
 match c with
 |(true,ls)=>∃us:List Value,v=.agg us.toArray/\bi (cw w ω s) us ls
 |(false,ls)=>∀l,ls=[l]->cw w ω s v l
def df(w:World)(ω:aK)(s:S)(v:Value):ck->Prop
 | .one l=>cw w ω s v l
 | .agg ls=>∃us:List Value,v=.agg us.toArray/\bi (cw w ω s) us ls
 | .nE cs=>∃us:List Value,v=.tuple us.toArray/\bi (nI w ω s) us cs
def H6(w:World)(ω:aK):Prop:=∀q∈H7,q.1<w.heap.size/\ω q.1=none/\∃T m,w.heap[q.1]? = some (.cells q.2 T m)
structure Rel (ω:aK) (a:Act) (w:World) (s:S):Prop where
 HY:H6 w ω
 inj:∀b b' k,ω b=some k->ω b'=some k->b=b'
 dom:∀b k,ω b=some k->b<w.heap.size
 defers:a.defers=[]
 slots:∀i,df w ω s (a.tmps.getD i undef) (s.sl i)
 dN:(s.ob 0).o=.gone
 dx:∀id cells,(s.ob id).o=.blk cells->∃b arr T,ω b=some (id,[])/\w.heap[b]? = some (.cells arr T (0,0))/\bi (cw w ω s) arr.toList cells
def jJ(ω:aK)(b:Nat):Prop:=ω b=none\/∃q,ω b=some (0,q)
theorem jJ.ne{ω:aK}{b id:Nat}{q:List (Nat×Nat)}(h:jJ ω b)(hb:ω b=some (id,q))(h0:id≠0):False:=by
 rcases h with h|⟨q',h⟩
 ·rw[hb]at h;cases h
 ·rw[hb]at h;injection h with h;injection h with h _;exact h0 h
structure dK (ω:aK) (w:World) (aI:aK) (w':World):Prop where
 os:w'.os=w.os
 tape:w'.tape=w.tape
 output:w'.output=w.output
 size:w.heap.size<=w'.heap.size
 block:∀b,b<w.heap.size->jJ ω b->w'.heap[b]? = w.heap[b]? /\ aI b=ω b
theorem dK.refl(ω:aK)(w:World):dK ω w ω w:=⟨rfl,rfl,rfl,Nat.le_refl _,fun _ _ _=>⟨rfl,rfl⟩⟩
theorem dK.trans{ω aI bN:aK}{w w' w'':World}(h:dK ω w aI w')(h':dK aI w' bN w''):dK ω w bN w'':=
 ⟨h'.os.trans h.os,h'.tape.trans h.tape,h'.output.trans h.output,Nat.le_trans h.size h'.size,fun b hb hn=>
  have h1:=h.block b hb hn;have h2:=h'.block b (Nat.lt_of_lt_of_le hb h.size) (by unfold jJ at hn⊢;rw[h1.2];exact hn)
  ⟨h2.1.trans h1.1,h2.2.trans h1.2⟩⟩
theorem H6.ext{ω aI:aK}{w w':World}(h:H6 w ω)(he:dK ω w aI w'):H6 w' aI:=fun q hq=>by obtain⟨h1,h2,T,m,h3⟩:=h q hq;obtain⟨e1,e2⟩:=he.block q.1 h1 (.inl h2);exact⟨Nat.lt_of_lt_of_le h1 he.size,e2.trans h2,T,m,e1.trans h3⟩
theorem H8{ω:aK}{w:World}(h:H7=[]):H6 w ω:=fun q hq=>by rw[h]at hq;cases hq
theorem H6.own{ω aI:aK}{w:World}(h:H6 w ω)(he:∀b,ω b=none->aI b=none):H6 w aI:=fun q hq=>⟨(h q hq).1,he _ (h q hq).2.1,(h q hq).2.2⟩
theorem dK.keeps{ω aI:aK}{w w':World}(h:dK ω w aI w'):lU w ω w' aI .cz:=by
 intro b hb hk;rcases hk with hk|⟨k,_,hk⟩
 ·exact h.block b hb (.inl hk)
 ·exact hk.elim
theorem iB.ext{ω aI:aK}{w w':World}(h:dK ω w aI w'){v:Value}{cs:aJ}{x:cs.T}{off:Nat}(hr:iB w ω v cs x off):iB w' aI v cs x off:=by obtain⟨b,o,h1,h2,h3,h4⟩:=hr;have hb:=h.block b h2 (.inl h1);exact⟨b,o,hb.2.trans h1,Nat.lt_of_lt_of_le h2 h.size,h3,aJ.cD h.size cs _ _ _ 0 _ (fun _=>h.keeps) (fun j=>fo (a:=⟨b,o+j,none⟩) hb.1) h4⟩
structure gk (w:World) (ω:aK) (s:S) (w':World) (aI:aK) (s':S) (id:Nat):Prop where
 ob:s'.ob id=s.ob id
 block:∀b k,b<w.heap.size->ω b=some k->k.1=id->w'.heap[b]? = w.heap[b]? /\ aI b=ω b
def dm(s s':S)(id:Nat):Prop:=(s.ob id).g<(s'.ob id).g
theorem gk.cont{w w':World}{ω aI:aK}{s s':S}{id:Nat}(h:gk w ω s w' aI s' id)(g hh:Nat)(p:jF):s'.cont id g hh p=s.cont id g hh p:=by unfold St.cont;rw[h.ob]
theorem vT(md id:Nat)(p:jF)(k:Key)(h:(bj md id p).has k):k.1=id:=by
 unfold bj at h;split at h
 ·exact h.elim
 ·have:k=(id,[]):=h;rw[this]
 ·exact h.1
theorem gk.keeps{w w':World}{ω aI:aK}{s s':S}{id:Nat}(h:gk w ω s w' aI s' id)(he:dK ω w aI w')(md:Nat)(p:jF):lU w ω w' aI (bj md id p):=by
 intro b hb hk;rcases hk with hk|⟨k,h1,h2⟩
 ·exact he.block b hb (.inl hk)
 ·exact h.block b k hb h1 (vT _ _ _ _ h2)
structure Tr (w:World) (ω:aK) (s:S) (w':World) (aI:aK) (s':S) (id:Nat):Prop where
 ref:∀v g h p,cw w ω s v (.ref id g h p)->cw w' aI s' v (.ref id g h p)
 ptr:∀v g off,xp ω s v id g off->xp aI s' v id g off
 cf:∀v g h p i off,cw w ω s v (.cf id g h p i off)->cw w' aI s' v (.cf id g h p i off)
 cS:∀v g,ri w ω s v id g->ri w' aI s' v id g
theorem St.oZ{s s':S}{id:Nat}(hn:dm s s' id){g:Nat}(hg:g<=(s.ob id).g)(h:Nat)(p:jF):s'.cont id g h p=none:=by
 unfold St.cont;have:Nat.beq (s'.ob id).g g=false:=by rw[Bool.eq_false_iff];intro e;have:=Nat.eq_of_beq_eq_true e;unfold dm at hn;omega
 rw[this];rfl
theorem gk.tr{w w':World}{ω aI:aK}{s s':S}{id:Nat}(hi:gk w ω s w' aI s' id)(he:dK ω w aI w')(hd:∀b k,ω b=some k->b<w.heap.size):Tr w ω s w' aI s' id where
 ref v g hh p h:=by refine⟨by rw[hi.ob];exact h.1,by rw[hi.ob];exact h.2.1,fun c hc=>?_⟩;rw[hi.cont]at hc;exact Ty.cD he.size _ _ _ _ (hi.keeps he _ _) (h.2.2 c hc)
 ptr v g off h:=by refine⟨by rw[hi.ob];exact h.1,fun hg cells hc=>?_⟩;rw[hi.ob]at hg hc;obtain⟨b,h1,h2⟩:=h.2 hg cells hc;exact⟨b,(hi.block b _ (hd b _ h1) h1 rfl).2.trans h1,h2⟩
 cf v g hh p i off h:=by refine⟨by rw[hi.ob];exact h.1,by rw[hi.ob];exact h.2.1,fun c hc hm=>?_⟩;rw[hi.cont]at hc;obtain⟨h1,h2,⟨b,h3,h4⟩,v',h5⟩:=h.2.2 c hc hm;exact⟨h1,h2,⟨b,(hi.block b _ (hd b _ h3) h3 rfl).2.trans h3,h4⟩,v',Ty.cD he.size _ _ _ _ (hi.keeps he _ _) h5⟩
 cS v g h:=by refine⟨by rw[hi.ob];exact h.1,fun hg k x hc=>?_⟩;rw[hi.ob]at hg hc;obtain⟨b,es,c,h1,h2,h3,h4⟩:=h.2 hg k x hc;have hb:=hi.block b _ (hd b _ h1) h1 rfl;exact⟨b,es,c,hb.2.trans h1,h2,hb.1.trans h3,h4⟩
theorem ri.shut{w w':World}{ω aI:aK}{s s':S}{v:Value}{id g:Nat}(h:ri w ω s v id g)(hg:(s'.ob id).g=(s.ob id).g)(ho:∀k x,(s'.ob id).o≠.mp k x):ri w' aI s' v id g:=⟨by rw[hg];exact h.1,fun _ k x hc=>absurd hc (ho k x)⟩
theorem dm.tr{w w':World}{ω aI:aK}{s s':S}{id:Nat}(hi:dm s s' id):Tr w ω s w' aI s' id where
 ref v g hh p h:=by have h1:=h.1;have hi':=hi;unfold dm at hi';refine⟨by omega,by split <;> omega,fun c hc=>?_⟩;rw[St.oZ hi h1]at hc;cases hc
 ptr v g off h:=by have:=h.1;have hi':=hi;unfold dm at hi';exact⟨by omega,fun hg=>by omega⟩
 cf v g hh p i off h:=by have h1:=h.1;have hi':=hi;unfold dm at hi';refine⟨by omega,by split <;> omega,fun c hc=>?_⟩;rw[St.oZ hi h1]at hc;cases hc
 cS v g h:=by have:=h.1;have hi':=hi;unfold dm at hi';exact⟨by omega,fun hg=>by omega⟩
section
variable {w w':World} {ω aI:aK} {s s':S} (he:dK ω w aI w') (ht:∀id,Tr w ω s w' aI s' id)
include he ht
theorem gr.frame{v:Value}:∀ {c:dc real},gr w ω s v c->gr w' aI s' v c
 | .ptr id _,h=>(ht id).ptr _ _ _ h
 | .ro _ _,h=>iB.ext he h
theorem cw.frame{v:Value}:∀ {l:L},cw w ω s v l->cw w' aI s' v l
 | .val t x,h=>Ty.cD he.size t .cz v x he.keeps h
 | .eR _ _,h=>h
 | .ref id _ _ _,h=>(ht id).ref _ _ _ _ h
 | .ptr id _ _,h=>(ht id).ptr _ _ _ h
 | .cf id _ _ _ _ _,h=>(ht id).cf _ _ _ _ _ _ h
 | .eo _ _ _,h=>iB.ext he h
 | .cS id _,h=>(ht id).cS _ _ h
 | .fn _ _,h=>by obtain⟨cv,h1,h2⟩:=h;exact⟨cv,h1,h2.mono fun _ _ hc=>gr.frame he ht hc⟩
 | .BU _ _,h=>h
 | .undef,h=>h
 | .dead,_=>trivial
theorem nI.frame{v:Value}:∀ {c:Bool×List L},nI w ω s v c->nI w' aI s' v c
 |(true,_),⟨us,h1,h2⟩=>⟨us,h1,h2.mono fun _ _ hc=>cw.frame he ht hc⟩
 |(false,_),h=>fun l hl=>cw.frame he ht (h l hl)
theorem df.frame{v:Value}:∀ {t:ck},df w ω s v t->df w' aI s' v t
 | .one _,h=>cw.frame he ht h
 | .agg _,⟨us,h1,h2⟩=>⟨us,h1,h2.mono fun _ _ hc=>cw.frame he ht hc⟩
 | .nE _,⟨us,h1,h2⟩=>⟨us,h1,h2.mono fun _ _ hc=>nI.frame he ht hc⟩
end
end Go.R
namespace Go.R
theorem dj(d c j:Nat):aZ d c j≠0:=Nat.succ_ne_zero _
theorem Rel.qO{ω:aK}{a:Act}{w:World}{s:S}(h:Rel ω a w s){id:Nat}(ho:(s.ob id).o≠.gone):id≠0:=fun e=>ho (by rw[e];exact h.dN)
theorem fV(n:Nat):Nat.beq n n=true:=Nat.beq_refl n
theorem k9{m n:Nat}(h:m≠n):Nat.beq m n=false:=by rw[Bool.eq_false_iff];exact fun e=>h (Nat.eq_of_beq_eq_true e)
theorem St.aX(s:S)(id:Nat)(o:fU real):(s.yL id o).ob id=o:=by simp[St.yL]
theorem St.bB(s:S){id j:Nat}(o:fU real)(h:j≠id):(s.yL id o).ob j=s.ob j:=by simp[St.yL,k9 h]
theorem St.ig(s:S)(d:Nat)(v:ck):(s.set d v).sl d=v:=by simp[St.set]
theorem St.kK(s:S){d j:Nat}(v:ck)(h:j≠d):(s.set d v).sl j=s.sl j:=by simp[St.set,k9 h]
theorem Tr.mD{w:World}{ω:aK}{s s':S}{id:Nat}(hd:∀b k,ω b=some k->b<w.heap.size)(h:s'.ob id=s.ob id):Tr w ω s w ω s' id:=gk.tr ⟨h,fun _ _ _ _ _=>⟨rfl,rfl⟩⟩ (dK.refl _ _) hd
theorem Rel.set{ω:aK}{a:Act}{w:World}{s:S}(h:Rel ω a w s){d:Nat}(hd:d<a.tmps.size){v:Value}{t:ck}(ht:df w ω s v t):Rel ω (a.put (some d) v) w (s.set d t) where
 HY:=h.HY
 inj:=h.inj
 dom:=h.dom
 defers:=h.defers
 dN:=h.dN
 slots i:=by
  have tr:∀id,Tr w ω s w ω (s.set d t) id:=fun id=>Tr.mD h.dom rfl;by_cases e:i=d
  ·subst e;rw[St.ig];have:(a.put (some i) v).tmps.getD i undef=v:=by simp[Act.put,Array.getD_eq_getD_getElem?,hd]
   rw[this];exact df.frame (dK.refl _ _) tr ht
  ·rw[St.kK _ _ e];have:(a.put (some d) v).tmps.getD i undef=a.tmps.getD i undef:=by simp[Act.put,Array.getD_eq_getD_getElem?,Array.getElem?_setIfInBounds_ne (Ne.symm e)]
   rw[this];exact df.frame (dK.refl _ _) tr (h.slots i)
 dx id cells hc:=by obtain⟨b,arr,T,h1,h2,h3⟩:=h.dx id cells hc;exact⟨b,arr,T,h1,h2,h3.mono fun _ _ hl=>cw.frame (dK.refl _ _) (fun id=>Tr.mD h.dom rfl) hl⟩
theorem Rel.world{ω:aK}{a:Act}{w w':World}{s:S}(h:Rel ω a w s)(he:dK ω w ω w')(hb:∀b,b<w.heap.size->w'.heap[b]? = w.heap[b]?):Rel ω a w' s:=by
 have tr:∀id,Tr w ω s w' ω s id:=fun id=>gk.tr ⟨rfl,fun b k hb' _ _=>⟨hb b hb',rfl⟩⟩ he h.dom;exact
 {HY:=h.HY.ext he
  inj:=h.inj
  dom:=fun b k hk=>Nat.lt_of_lt_of_le (h.dom b k hk) he.size
  defers:=h.defers
  dN:=h.dN
  slots:=fun i=>df.frame he tr (h.slots i)
  dx:=fun id cells hc=>by obtain⟨b,arr,T,h1,h2,h3⟩:=h.dx id cells hc;exact⟨b,arr,T,h1,(hb b (h.dom b _ h1)).trans h2,h3.mono fun _ _ hl=>cw.frame he tr hl⟩ }
def aK.fresh(ω:aK)(id b0:Nat):aK:=fun b=>if b=b0 then some (id,[])else match ω b with
 |some k=>if k.1=id then none else some k
 |none=>none
theorem aK.eZ(ω:aK)(id b0:Nat):ω.fresh id b0 b0=some (id,[]):=by simp[aK.fresh]
theorem aK.vH{ω:aK}{id b0 b:Nat}(h:b≠b0)(hn:ω b=none):ω.fresh id b0 b=none:=by simp[aK.fresh,h,hn]
theorem aK.fX{ω:aK}{id b0 b:Nat}{k:Key}(h:b≠b0)(hk:ω b=some k)(hi:k.1≠id):ω.fresh id b0 b=some k:=by simp[aK.fresh,h,hk,hi]
theorem aK.fN{ω:aK}{id b0 b:Nat}{k:Key}(h:ω.fresh id b0 b=some k):(b=b0/\k=(id,[]))\/(b≠b0/\ω b=some k/\k.1≠id):=by
 unfold aK.fresh at h;split at h
 ·rename_i e;exact .inl ⟨e,by injection h with h;exact h.symm⟩
 ·rename_i e;refine .inr ⟨e,?_⟩;split at h
  ·rename_i k' hk;split at h
   ·cases h
   ·rename_i hne;injection h with h
    subst h;exact⟨hk,hne⟩
  ·cases h
structure eL (w w':World):Prop where
 os:w'.os=w.os
 tape:w'.tape=w.tape
 output:w'.output=w.output
 size:w.heap.size<=w'.heap.size
 block:∀b,b<w.heap.size->w'.heap[b]? = w.heap[b]?
theorem eL.refl(w:World):eL w w:=⟨rfl,rfl,rfl,Nat.le_refl _,fun _ _=>rfl⟩
theorem eL.trans{w w' w'':World}(h:eL w w')(h':eL w' w''):eL w w'':=⟨h'.os.trans h.os,h'.tape.trans h.tape,h'.output.trans h.output,Nat.le_trans h.size h'.size,fun b hb=>(h'.block b (Nat.lt_of_lt_of_le hb h.size)).trans (h.block b hb)⟩
theorem eL.ext{w w':World}(h:eL w w')(ω:aK):dK ω w ω w':=⟨h.os,h.tape,h.output,h.size,fun b hb _=>⟨h.block b hb,rfl⟩⟩
theorem eL.drew(w:World):eL w w.drew:=⟨rfl,rfl,rfl,Nat.le_refl _,fun _ _=>rfl⟩
theorem eL.drewN(w:World)(n:Nat):eL w (w.drewN n):=⟨rfl,rfl,rfl,Nat.le_refl _,fun _ _=>rfl⟩
theorem eL.push(w:World)(o:Obj):eL w { w with heap:=w.heap.push o }:=⟨rfl,rfl,rfl,by simp,fun b hb=>by simp only[Array.getElem?_push];rw[if_neg (by omega)]⟩
theorem zM(w:World)(o:Obj):({ w with heap:=w.heap.push o }:World).heap[w.heap.size]? = some o:=by simp
section
variable {ω:aK} {a:Act} {w w':World} {s:S} {id b0:Nat}
theorem nO(h0:id≠0){b:Nat}(hb:b≠b0)(h:jJ ω b):ω.fresh id b0 b=ω b:=by
 rcases h with h|⟨q,h⟩
 ·rw[h];exact aK.vH hb h
 ·rw[h];exact aK.fX hb h (Ne.symm h0)
theorem eG(h0:id≠0)(hg:eL w w')(hb:w.heap.size<=b0):dK ω w (ω.fresh id b0) w':=⟨hg.os,hg.tape,hg.output,hg.size,fun b hb' hn=>⟨hg.block b hb',nO h0 (by omega) hn⟩⟩
theorem pz(h0:id≠0)(hd:∀b k,ω b=some k->b<w.heap.size)(hg:eL w w')(hb:w.heap.size<=b0)(o:Ob real)(j:Nat):Tr w ω s w' (ω.fresh id b0) (s.new id o) j:=by
 by_cases e:j=id
 ·subst e;exact dm.tr (by unfold dm St.new;rw[St.aX];exact Nat.lt_succ_self _)
 ·exact gk.tr ⟨by unfold St.new;exact St.bB _ _ e,fun b k hb' hk hj=>⟨hg.block b hb',by rw[hk];exact aK.fX (by omega) hk (by rw[hj];exact e)⟩⟩ (eG h0 hg hb) hd
theorem Rel.fresh (h:Rel ω a w s) (h0:id≠0) (hg:eL w w') (hb:w.heap.size<=b0) (hb':b0<w'.heap.size) (o:Ob real)
  (ho:∀cells,o=.blk cells->∃arr T,w'.heap[b0]? = some (.cells arr T (0,0))/\bi (cw w ω s) arr.toList cells):
  Rel (ω.fresh id b0) a w' (s.new id o) where
 HY:=h.HY.ext (eG h0 hg hb)
 inj b b' k h1 h2:=by
  rcases aK.fN h1 with ⟨e1,e2⟩|⟨e1,e2,e3⟩ <;> rcases aK.fN h2 with ⟨e4,e5⟩|⟨e4,e5,e6⟩
  ·rw[e1,e4]
  ·rw[e2]at e6;exact absurd rfl e6
  ·rw[e5]at e3;exact absurd rfl e3
  ·exact h.inj b b' k e2 e5
 dom b k h1:=by
  rcases aK.fN h1 with ⟨e1,_⟩|⟨_,e2,_⟩
  ·rw[e1];exact hb'
  ·exact Nat.lt_of_lt_of_le (h.dom b k e2) hg.size
 defers:=h.defers
 dN:=by
  have:(s.new id o).ob 0=s.ob 0:=by unfold St.new;exact St.bB _ _ (Ne.symm h0)
  rw[this];exact h.dN
 slots i:=df.frame (eG h0 hg hb) (pz h0 h.dom hg hb o) (h.slots i)
 dx j cells hc:=by
  by_cases e:j=id
  ·subst e;have:o=.blk cells:=by simpa[St.new,St.aX] using hc
   obtain⟨arr,T,h1,h2⟩:=ho cells this;exact⟨b0,arr,T,aK.eZ _ _ _,h1,h2.mono fun _ _ hl=>cw.frame (eG h0 hg hb) (pz h0 h.dom hg hb o) hl⟩
  ·have dY:(s.ob j).o=.blk cells:=by rw[<-hc];unfold St.new;rw[St.bB _ _ e]
   obtain⟨b,arr,T,h1,h2,h3⟩:=h.dx j cells dY;have hlt:=h.dom b _ h1;exact⟨b,arr,T,aK.fX (by omega) h1 e,(hg.block b hlt).trans h2,h3.mono fun _ _ hl=>cw.frame (eG h0 hg hb) (pz h0 h.dom hg hb o) hl⟩
end
theorem St.aU(s:S)(id:Nat)(nh:Bool)(o:Ob real):(s.bM id nh o).ob id=⟨(s.ob id).g,bif nh then(s.ob id).h+1 else(s.ob id).h,o⟩:=by unfold St.bM;exact St.aX _ _ _
theorem St.br(s:S){id j:Nat}(nh:Bool)(o:Ob real)(h:j≠id):(s.bM id nh o).ob j=s.ob j:=by unfold St.bM;exact St.bB _ _ h
theorem gl{g h G H:Nat}(nh:Bool)(h1:h<=H+(if g=G then 0 else h)):h<=(bif nh then H+1 else H)+(if g=G then 0 else h):=by cases nh <;> simp only[cond_true,cond_false] <;> split at h1 <;> split <;> omega
def Ob.shut:Ob real->Prop
 | .gone=>True
 |_=>False
theorem iH{s:S}{id g h:Nat}{p:jF}(hs:(s.ob id).o=.gone):s.cont id g h p=none:=by unfold St.cont fU.cont;rw[hs];cases Nat.beq (s.ob id).g g <;> rfl
theorem sN{w:World}{ω:aK}{s:S}{id:Nat}(hd:∀b k,ω b=some k->b<w.heap.size)(nh:Bool)(j:Nat):Tr w ω s w ω (s.bM id nh .gone) j:=by
 by_cases e:j=id
 ·subst e;have ho:((s.bM j nh .gone).ob j).o=.gone:=by rw[St.aU]
  have hg:((s.bM j nh .gone).ob j).g=(s.ob j).g:=by rw[St.aU]
  have hh:((s.bM j nh .gone).ob j).h=bif nh then(s.ob j).h+1 else(s.ob j).h:=by rw[St.aU]
  exact
  {ref:=fun v g h p hr=>⟨by rw[hg];exact hr.1,by rw[hg,hh];exact gl nh hr.2.1,fun c hc=>by rw[iH ho]at hc;cases hc⟩
   ptr:=fun v g off hr=>⟨by rw[hg];exact hr.1,fun _ cells hc=>by rw[ho]at hc;cases hc⟩
   cf:=fun v g h p i off hr=>⟨by rw[hg];exact hr.1,by rw[hg,hh];exact gl nh hr.2.1,fun c hc=>by rw[iH ho]at hc;cases hc⟩
   cS:=fun v g hr=>hr.shut hg fun k x e=>by rw[ho]at e;cases e }
 ·exact Tr.mD hd (St.br _ _ _ e)
theorem Rel.gone{ω:aK}{a:Act}{w:World}{s:S}(h:Rel ω a w s)(id:Nat)(nh:Bool):Rel ω a w (s.bM id nh .gone) where
 HY:=h.HY
 inj:=h.inj
 dom:=h.dom
 defers:=h.defers
 dN:=by
  by_cases e:0=id
  ·subst e;rw[St.aU]
  ·rw[St.br _ _ _ e];exact h.dN
 slots i:=df.frame (dK.refl _ _) (sN h.dom nh) (h.slots i)
 dx j cells hc:=by
  by_cases e:j=id
  ·subst e;rw[St.aU]at hc;cases hc
  ·rw[St.br _ _ _ e]at hc;obtain⟨b,arr,T,h1,h2,h3⟩:=h.dx j cells hc;exact⟨b,arr,T,h1,h2,h3.mono fun _ _ hl=>cw.frame (dK.refl _ _) (sN h.dom nh) hl⟩
def aK.drop(ω:aK)(id:Nat):aK:=fun b=>match ω b with
 |some k=>if k.1=id then none else some k
 |none=>none
theorem aK.m9{ω:aK}{id b:Nat}(h:ω b=none):ω.drop id b=none:=by simp[aK.drop,h]
theorem aK.rJ{ω:aK}{id b:Nat}{k:Key}(h:ω b=some k)(hk:k.1=id):ω.drop id b=none:=by simp[aK.drop,h,hk]
theorem aK.dL{ω:aK}{id b:Nat}{k:Key}(h:ω b=some k)(hk:k.1≠id):ω.drop id b=some k:=by simp[aK.drop,h,hk]
theorem aK.dB{ω:aK}{id b:Nat}{k:Key}(h:ω.drop id b=some k):ω b=some k/\k.1≠id:=by
 unfold aK.drop at h;split at h
 ·rename_i k' hk;split at h
  ·cases h
  ·rename_i hne;injection h with h;subst h;exact⟨hk,hne⟩
 ·cases h
def wH(w:World)(ω aI:aK)(md:Md):Prop:=∀b,b<w.heap.size->(ω b=none\/∃k,ω b=some k/\md.has k)->aI b=none
mutual
theorem Ty.gH{w:World}{ω aI:aK}:∀(t:Ty) (md:Md) (v:Value) (x:t.T),wH w ω aI md->t.R w ω md v x->t.R w aI .cz v x
 | .int _,_,_,_,_,h=>h
 | .bool,_,_,_,_,h=>h
 | .str,_,_,_,_,h=>h
 | .sl e cs,md,v,x,H,h=>by
  obtain⟨a,n,c,h1,h2,h3,h4,h5⟩:=h;refine⟨a,n,c,h1,h2,h3,fun hn=>?_,fun i ad hi ha=>?_⟩
  ·obtain⟨b,off,e1,e2,e3⟩:=h4.block hn;exact⟨b,off,e1,H b e2 e3,e2⟩
  ·exact aJ.gH cs _ _ 0 _ (fun j b hb hk=>H b hb (hk.imp id fun⟨k,h1,h2⟩=>⟨k,h1,Md.rK h2⟩)) (h5 i ad hi ha)
theorem aJ.gH{w:World}{ω aI:aK}:∀(cs:aJ) (md:Nat->Md) (g:Nat->Option Value) (j:Nat) (x:cs.T),(∀j,wH w ω aI (md j))->cs.R w ω md g j x->cs.R w aI (fun _=>.cz) g j x
 | .nil,_,_,_,_,_,_=>trivial
 | .cons t ts,md,g,j,x,H,h=>by obtain⟨⟨v,h1,h2⟩,h3⟩:=h;exact⟨⟨v,h1,Ty.gH t (md j) v _ (H j) h2⟩,aJ.gH ts md g (j+1) _ H h3⟩
end
theorem cr{s:S}{id:Nat}{e:Nat}{cs:aJ}{dp:Bool}{x:real.V (.sl e cs)}(ho:(s.ob id).o=.arr e cs dp x){g h:Nat}(hg:g=(s.ob id).g):
  s.cont id g h []=some ⟨e,cs,x,bif dp then 2 else 1⟩:=by
 unfold St.cont fU.cont;rw[hg,fV,ho];rfl
theorem ue{s:S}{id:Nat}{e:Nat}{cs:aJ}{x:real.V (.sl e cs)}(ho:(s.ob id).o=.cz e cs x){g h:Nat}{p:jF}{c:Cont real}(hc:s.cont id g h p=some c):
  g=(s.ob id).g/\p=[]/\c=⟨e,cs,x,0⟩:=by
 unfold St.cont fU.cont at hc;by_cases hb:Nat.beq (s.ob id).g g=true
 ·rw[hb,ho]at hc;simp only[cond_true]at hc;cases p with
  |nil=>exact⟨(Nat.eq_of_beq_eq_true hb).symm,rfl,by injection hc with hc;exact hc.symm⟩
  |cons q p=>cases hc
 ·rw[Bool.not_eq_true]at hb;rw[hb]at hc;cases hc
theorem vE{ω:aK}{id b:Nat}(h0:id≠0)(h:jJ ω b):ω.drop id b=ω b:=by
 rcases h with h|⟨q,h⟩
 ·rw[h];exact aK.m9 h
 ·rw[h];exact aK.dL h (Ne.symm h0)
theorem bZ(ω:aK)(w:World)(id:Nat)(h0:id≠0):dK ω w (ω.drop id) w:=⟨rfl,rfl,rfl,Nat.le_refl _,fun _ _ h=>⟨rfl,vE h0 h⟩⟩
theorem kA{w:World}{ω:aK}{s:S}{id e:Nat}{cs:aJ}{dp:Bool}{x:real.V (.sl e cs)}(h0:id≠0)(hd:∀b k,ω b=some k->b<w.heap.size)(ho:(s.ob id).o=.arr e cs dp x)(nh:Bool)(j:Nat):
  Tr w ω s w (ω.drop id) (s.bM id nh (.cz e cs x)) j:=by
 by_cases ej:j=id
 ·subst ej;have cR:((s.bM j nh (.cz e cs x)).ob j).o=.cz e cs x:=by rw[St.aU]
  have hg:((s.bM j nh (.cz e cs x)).ob j).g=(s.ob j).g:=by rw[St.aU]
  have hh:((s.bM j nh (.cz e cs x)).ob j).h=bif nh then(s.ob j).h+1 else(s.ob j).h:=by rw[St.aU]
  exact
  {ref:=fun v g h p hr=>⟨by rw[hg];exact hr.1,by rw[hg,hh];exact gl nh hr.2.1,fun c hc=>by
    obtain⟨e1,e2,e3⟩:=ue cR hc;subst e2;subst e3;rw[hg]at e1;have hx:=hr.2.2 _ (cr (h:=h) ho e1);refine Ty.gH _ _ _ _ (fun b hb hk=>?_) hx;rcases hk with hk|⟨k,h1,h2⟩
    ·exact aK.m9 hk
    ·exact aK.rJ h1 (vT _ _ _ _ h2)⟩
   ptr:=fun v g off hr=>⟨by rw[hg];exact hr.1,fun _ cells hc=>by rw[cR]at hc;cases hc⟩
   cf:=fun v g h p i off hr=>⟨by rw[hg];exact hr.1,by rw[hg,hh];exact gl nh hr.2.1,fun c hc hm=>by obtain⟨_,_,e3⟩:=ue cR hc;rw[e3]at hm;exact absurd rfl hm⟩
   cS:=fun v g hr=>hr.shut hg fun k x e=>by rw[cR]at e;cases e }
 ·exact gk.tr ⟨St.br _ _ _ ej,fun b k hb hk hj=>⟨rfl,by rw[hk];exact aK.dL hk (by rw[hj];exact ej)⟩⟩ (bZ _ _ _ h0) hd
theorem Rel.freeze{ω:aK}{a:Act}{w:World}{s:S}(h:Rel ω a w s){id e:Nat}{cs:aJ}{dp:Bool}{x:real.V (.sl e cs)}(ho:(s.ob id).o=.arr e cs dp x)(nh:Bool):Rel (ω.drop id) a w (s.bM id nh (.cz e cs x)) where
 HY:=h.HY.ext (bZ _ _ _ (h.qO (by rw[ho];exact fun e=>by cases e)))
 inj b b' k h1 h2:=h.inj b b' k (aK.dB h1).1 (aK.dB h2).1
 dom b k h1:=h.dom b k (aK.dB h1).1
 defers:=h.defers
 dN:=by rw[St.br _ _ _ (Ne.symm (h.qO (by rw[ho];exact fun e=>by cases e)))];exact h.dN
 slots i:=df.frame (bZ _ _ _ (h.qO (by rw[ho];exact fun e=>by cases e))) (kA (h.qO (by rw[ho];exact fun e=>by cases e)) h.dom ho nh) (h.slots i)
 dx j cells hc:=by
  by_cases ej:j=id
  ·subst ej;rw[St.aU]at hc;cases hc
  ·rw[St.br _ _ _ ej]at hc;obtain⟨b,arr,T,h1,h2,h3⟩:=h.dx j cells hc;exact⟨b,arr,T,aK.dL h1 ej,h2,h3.mono fun _ _ hl=>cw.frame (bZ _ _ _ (h.qO (by rw[ho];exact fun e=>by cases e))) (kA (h.qO (by rw[ho];exact fun e=>by cases e)) h.dom ho nh) hl⟩
end Go.R
namespace Go.R
def zeroOf:Ty->Value
 | .int k=>.int k 0
 | .bool=>.bool false
 | .str=>.string ByteArray.empty
 | .sl _ _=>.slice none 0 0
def gG:aJ->List Value
 | .nil=>[]
 | .cons t ts=>zeroOf t::gG ts
theorem fD:∀cs:aJ,(gG cs).length=cs.len
 | .nil=>rfl
 | .cons _ ts=>by simp[gG,aJ.len,fD ts]
structure tI (P:Program) (t:Nat) (i:TI) (I:TypeInfo) (d:TypeDesc):Prop where
 info:P.info? t=some I
 AY:P.underlying t=some d
 size:I.size=i.cs.len
 bytes:I.bytes=i.bytes
 bpos:0<i.bytes/\i.bytes<=65536
 zero:∃z,I.zero=some z/\z.cells.toList=gG i.cs
 row:d.isRow=i.agg
 one:i.agg=false->i.cs.len=1
 fM:i.agg=true->∃fs,d=.struct fs/\fs.size=i.fM.length/\∀(f:Nat) (q:Nat×Nat×Bool),i.fM[f]? = some q->∃(F:Field) (FI:TypeInfo) (Fd:TypeDesc),fs[f]? = some F/\F.offset=q.1/\P.info? F.type=some FI/\FI.size=q.2.1/\0<FI.size/\P.underlying F.type=some Fd/\Fd.isRow=q.2.2/\(q.2.2=false->q.2.1=1)
 el:∀e,i.el=some e->d=.slice e
 El:∀k,i.cs=.cons (.int k) .nil->i.agg=false->d=.int k
 B4:i.cs=.cons .bool .nil->i.agg=false->d=.bool
 Ey:i.cs=.cons .str .nil->i.agg=false->d=.string
 HE:∀e cs,i.cs=.cons (.sl e cs) .nil->i.agg=false->d=.slice e
def Ds(u:Value):Ty->Prop
 | .int k=>∃n,u=.int k n
 | .bool=>∃b,u=.bool b
 |_=>False
def Typed:aJ->List Value->Prop
 | .nil,[]=>True
 | .cons t ts,u::us=>Ds u t/\Typed ts us
 |_,_=>False
def da:List Value->List Value->Bool
 | [],[]=>true
 | .int _ a::us,.int _ b::vs=>(a==b)&&da us vs
 | .bool a::us,.bool b::vs=>(a==b)&&da us vs
 |_,_=>false
structure cm (P:Program) (E:Env):Prop where
 mo:P.follows .mixedOrders=true
 FJ:∀t k,E.mp t=some k->∃kt et I,P.underlying t=some (.map kt et)/\P.underlying kt=some (.int k)/\P.info? et=some I/\I.zero=some (.bool false)
 ti:∀t i,E.ti t=some i->∃I d,tI P t i I d
 E8:∀t i,E.ti t=some i->E.EJ t=true->∀(op:BinOp) (x y:Operand) (us vs:List Value) (w:World),op=.eql\/op=.neq->Typed i.cs us->Typed i.cs vs ->
  (do eqGuard op t x y (.agg us.toArray) (.agg vs.toArray);binOp op t (.agg us.toArray) (.agg vs.toArray):Sem Value).run P w=.ok (.bool (match op with| .eql=>da us vs|_=>!da us vs)) w
theorem ij{P:Program}{E:Env}(hE:cm P E){t e:Nat}{cs:aJ}(h:E.nB t=some (e,cs)):
  P.underlying t=some (.slice e)/\∃j I d,E.ti e=some j/\j.cs=cs/\tI P e j I d:=by
 unfold Env.nB at h;split at h
 ·rename_i i hi;split at h
  ·rename_i e' he;split at h
   ·rename_i j hj;injection h with h
    injection h with h1 h2
    subst h1;obtain⟨I,d,ok⟩:=hE.ti _ _ hi;obtain⟨I',d',C6⟩:=hE.ti _ _ hj;exact⟨by rw[ok.AY,ok.el _ he],j,I',d',hj,h2,C6⟩
   ·cases h
  ·cases h
 ·cases h
theorem xu{w:World}{ω:aK}{s:S}(E:Env)(ty:Nat)(v:Value):df w ω s v (gx E ty v):=by
 unfold gx;split
 ·exact rfl
 ·exact rfl
 ·exact rfl
 ·split
  ·exact⟨none,rfl⟩
  ·trivial
 ·trivial
theorem bT{ω:aK}{a:Act}{w:World}{s:S}(h:Rel ω a w s)(E:Env)(ty:Nat)(x:Operand):df w ω s (a.eval x) (ev E s ty x):=by
 cases x with
 |tmp t=>exact h.slots t
 |const v=>exact xu E ty v
 |global g=>trivial
 |func f=>exact⟨[],rfl,trivial⟩
def Ends{R:Type}(ω:aK)(a:Act)(w:World)(dst:Option Nat)(k:S->Option R)(r:R)(a':Act)(w':World):Prop:=∃aI s',Rel aI a' w' s'/\dK ω w aI w'/\k s'=some r/\a'.tmps.size=a.tmps.size/\∀j,dst≠some j->a'.tmps.getD j undef=a.tmps.getD j undef
theorem kI(a:Act)(dst:Option Nat)(v:Value){j:Nat}(h:dst≠some j):(a.put dst v).tmps.getD j undef=a.tmps.getD j undef:=by
 cases dst with
 |none=>rfl
 |some d=>have:d≠j:=fun e=>h (by rw[e]);simp[Act.put,Array.getD_eq_getD_getElem?,Array.getElem?_setIfInBounds_ne this]
theorem iR(a:Act)(dst:Option Nat)(v:Value):(a.put dst v).tmps.size=a.tmps.size:=by cases dst <;> simp[Act.put]
theorem Rel.cg{ω:aK}{a:Act}{w:World}{s:S}(h:Rel ω a w s){dst:Option Nat}(hd:∀d,dst=some d->d<a.tmps.size){v:Value}{t:ck}(ht:df w ω s v t):Rel ω (a.put dst v) w (s.cg dst t):=by
 cases dst with
 |none=>exact h
 |some d=>exact h.set (hd d rfl) ht
theorem fa {P:Program} {o:Oper} {a:Act} {w w':World} {v:Value} {K:Act->World->Prop} {Q:Exit->Act->World->Prop}
  (hr:(execOp a.eval o).run P w=.ok (.value v) w') (h:K (a.put o.dst v) w'):o.wp P a w K Q:=by
 unfold Oper.wp;rw[hr];exact h
theorem u7 {P:Program} {o:Oper} {a:Act} {w w':World} {K:Act->World->Prop} {Q:Exit->Act->World->Prop}
  (hr:(execOp a.eval o).run P w=.ok .skip w') (h:K (a.put o.dst undef) w'):o.wp P a w K Q:=by
 unfold Oper.wp;rw[hr];exact h
section
variable {R:Type} {P:Program} {E:Env} {ω:aK} {a:Act} {w:World} {s:S} {k:S->Option R} {r:R} {o:Oper} {Q:Exit->Act->World->Prop}
theorem l6(h:Rel ω a w s)(hd:∀d,o.dst=some d->d<a.tmps.size){v:Value}{t:ck}(ht:df w ω s v t)(hk:k (s.cg o.dst t)=some r):
  Ends ω a w o.dst k r (a.put o.dst v) w:=
 ⟨ω,_,h.cg hd ht,dK.refl _ _,hk,iR _ _ _,fun _ hj=>kI _ _ _ hj⟩
theorem dV{bc:aK}{w1:World}{s1:S}(h:Rel bc a w1 s1)(he:dK ω w bc w1)(hd:∀d,o.dst=some d->d<a.tmps.size){v:Value}{t:ck}(ht:df w1 bc s1 v t)(hk:k (s1.cg o.dst t)=some r):
  Ends ω a w o.dst k r (a.put o.dst v) w1:=
 ⟨bc,_,h.cg hd ht,he,hk,iR _ _ _,fun _ hj=>kI _ _ _ hj⟩
theorem aA{α:Type}{o:Option α}{f:α->Option R}(h:ar (aO R) o f=some r):∃x,o=some x/\f x=some r:=by
 unfold ar at h;cases o with
 |none=>cases h
 |some x=>exact⟨x,rfl,h⟩
theorem xF{b:Bool}{x y:Option R}:(aO R).cond b x y=bif b then x else y:=rfl
theorem De:(aO R).fail=none:=rfl
theorem oV{t:ck}{b:Bool}{v:Value}(h:oU t=some b)(hr:df w ω s v t):v=.bool b:=by
 unfold oU at h;split at h
 ·rename_i u x;split at h
  ·rename_i hb;obtain rfl:=Ty.eq_of_beq hb;injection h with h
   have:x=b:=h;subst this;exact hr
  ·cases h
 ·cases h
theorem hO{t:ck}{b:Int}{v:Value}(h:mi t=some b)(hr:df w ω s v t):v=.int .i64 b:=by
 unfold mi at h;split at h
 ·rename_i u x;split at h
  ·rename_i hb;obtain rfl:=Ty.eq_of_beq hb;injection h with h
   have:x=b:=h;subst this;exact hr
  ·cases h
 ·cases h
theorem xj{t:ck}{b:ByteArray}{v:Value}(h:BT t=some b)(hr:df w ω s v t):v=.string b:=by
 unfold BT at h;split at h
 ·rename_i u x;split at h
  ·rename_i hb;obtain rfl:=Ty.eq_of_beq hb;injection h with h
   have:x=b:=h;subst this;exact hr
  ·cases h
 ·cases h
theorem sn{x:Operand}(ho:o.op=.move x\/o.op=.assign x)(h:Rel ω a w s)(hd:∀d,o.dst=some d->d<a.tmps.size)(hk:k (s.cg o.dst (ev E s o.type x))=some r):
  o.wp P a w (Ends ω a w o.dst k r) Q:=by
 refine fa (v:=a.eval x) (w':=w) ?_ (l6 h hd (bT h E o.type x) hk);unfold execOp;rcases ho with ho|ho <;> rw[ho] <;> rfl
theorem yy {c x y:Operand} (ho:o.op=.pick c x y) (h:Rel ω a w s) (hd:∀d,o.dst=some d->d<a.tmps.size)
  (hk:(ar (aO R) (oU (ev E s 4 c)) fun c=>(aO R).cond c (k (s.cg o.dst (ev E s o.type x))) (k (s.cg o.dst (ev E s o.type y))))=some r):
  o.wp P a w (Ends ω a w o.dst k r) Q:=by
 obtain⟨(b:Bool),h1,h2⟩:=aA hk;have hv:=oV h1 (bT h E 4 c);rw[xF]at h2;cases b with
 |true=>refine fa (v:=a.eval x) (w':=w) ?_ (l6 h hd (bT h E o.type x) h2);unfold execOp;simp[ho,hv,asBool]
 |false=>refine fa (v:=a.eval y) (w':=w) ?_ (l6 h hd (bT h E o.type y) h2);unfold execOp;simp[ho,hv,asBool]
end
end Go.R
namespace Go.R
section
variable {R:Type} {P:Program} {E:Env} {ω:aK} {a:Act} {w:World} {s:S} {k:S->Option R} {r:R} {o:Oper} {Q:Exit->Act->World->Prop}
theorem bE(h:Rel ω a w s)(hd:∀d,o.dst=some d->d<a.tmps.size){t:ck}{v:Value}(hr:(execOp a.eval o).run P w=.ok (.value v) w)(ht:df w ω s v t)(hk:k (s.cg o.dst t)=some r):
  o.wp P a w (Ends ω a w o.dst k r) Q:=
 fa hr (l6 h hd ht hk)
def zj(op:BinOp)(k:IntKind)(m n:Int):Value:=
 match op with
 | .add| .sub| .mul| .quo| .rem| .and| .or| .xor| .andNot=>.int k (aa op k m n)
 |_=>.bool (af op m n)
theorem qj(op:BinOp)(t:Nat)(x y:Operand)(kk:IntKind)(m n:Int)(ho:op≠.shl/\op≠.shr)(hz:(op=.quo\/op=.rem)->n≠0):
  (do eqGuard op t x y (.int kk m) (.int kk n);binOp op t (.int kk m) (.int kk n):Sem Value).run P w =
   .ok (zj op kk m n) w:=by
 cases op <;> simp[eqGuard,binOp,Op.intArith,Op.intDiv,Op.intBits,Op.intCmp,zj,aa,af]at ho hz⊢<;> simp[hz]
theorem yj(op:BinOp)(t:Nat)(x y:Operand)(kk jj:IntKind)(m n:Int)(ho:op=.shl\/op=.shr)(hz:0<=n):
  (do eqGuard op t x y (.int kk m) (.int jj n);binOp op t (.int kk m) (.int jj n):Sem Value).run P w=.ok (.int kk (au op kk m n)) w:=by
 have:¬n<0:=by omega
 rcases ho with rfl|rfl <;> simp[eqGuard,binOp,Op.shift,au,this]
theorem run_equal_bool(t:Nat)(hu:P.underlying t=some .bool)(m n:Bool):(Op.equal t (.bool m) (.bool n)).run P w=.ok (m==n) w:=by have e:Op.equal t (.bool m) (.bool n)=Op.equalIn (9999+1) t (.bool m) (.bool n):=rfl;rw[e,Op.equalIn,Sem.run_bind,run_underlying hu];rfl
theorem nZ(op:BinOp)(t:Nat)(x y:Operand)(hu:P.underlying t=some .bool)(m n:Bool)(ho:op=.eql\/op=.neq):
  (do eqGuard op t x y (.bool m) (.bool n);binOp op t (.bool m) (.bool n):Sem Value).run P w=.ok (.bool (match op with| .eql=>bQ m n|_=>!bQ m n)) w:=by
 rcases ho with rfl|rfl <;> simp[eqGuard,binOp,bQ,run_equal_bool t hu]
theorem wm(op:BinOp)(t:Nat)(x y:Operand)(m n:ByteArray)(ho:op=.eql\/op=.neq\/op=.lss\/op=.leq\/op=.gtr\/op=.geq):
  (do eqGuard op t x y (.string m) (.string n);binOp op t (.string m) (.string n):Sem Value).run P w=.ok (.bool (xa op m n)) w:=by
 rcases ho with rfl|rfl|rfl|rfl|rfl|rfl <;> simp[eqGuard,binOp,Op.stringOp,xa]
theorem wo(t:Nat)(x y:Operand)(m n:ByteArray)(hf:qh m n=true):
  (do eqGuard .add t x y (.string m) (.string n);binOp .add t (.string m) (.string n):Sem Value).run P w=.ok (.string (m++n)) w:=by
 have:¬(((m.size+n.size:Nat):Int)>IntKind.i64.max):=by
  unfold qh at hf;have:=of_decide_eq_true hf;have e:IntKind.i64.max=9223372036854775807:=by decide
  rw[e];omega
 simp only[eqGuard,binOp,Op.stringOp,Sem.run_bind];rw[if_neg this];simp
theorem uz(hE:cm P E){t:Nat}(h:fw E t=true):P.underlying t=some .bool:=by
 unfold fw at h;split at h
 ·rename_i i hi;obtain⟨I,d,ok⟩:=hE.ti _ _ hi;rw[Bool.and_eq_true]at h;obtain⟨h1,h2⟩:=h;have hc:i.cs=.cons .bool .nil:=by
   split at h1
   ·rename_i e;exact e
   ·cases h1
  rw[ok.AY,ok.B4 hc (by simpa using h2)]
 ·cases h
theorem Dd{A:ol}{t:Ty}(h:Ty.beq t t=true)(x:A.V t):A.cast h x=x:=rfl
theorem Cr{A:ol}{t:aJ}(h:aJ.beq t t=true)(x:A.Vs t):A.zm h x=x:=rfl
abbrev bin(op:BinOp)(t:Nat)(x y:Operand)(u v:Value):Sem Value:=do eqGuard op t x y u v;binOp op t u v
theorem xz {op:BinOp} {t:Nat} {x y:Operand} {ka kb:IntKind} {m n:Int} {tb:Bool} {kk:L->Option R}
  (h:kL (aO R) tb op (.val (.int ka) m) (.val (.int kb) n) kk=some r):∃l z,(bin op t x y (.int ka m) (.int kb n)).run P w=.ok z w/\cw w ω s z l/\kk l=some r:=by
 by_cases hsh:op=.shl\/op=.shr
 ·have h':(bif cB n then none else kk (.val (.int ka) (au op ka m n)))=some r:=by
   rcases hsh with rfl|rfl <;> exact h
  cases hn:cB n with
  |true=>rw[hn]at h';cases h'
  |false=>rw[hn]at h';exact⟨.val (.int ka) (au op ka m n),.int ka (au op ka m n),yj op t x y ka kb m n hsh (Int.not_lt.1 (of_decide_eq_false hn)),rfl,h'⟩
 ·have hk:ka=kb:=by
   by_cases hb:Ty.beq (.int kb) (.int ka)=true
   ·have:=Ty.eq_of_beq hb;injection this with e;exact e.symm
   ·exfalso;cases op <;> simp only[kL,dif_neg hb]at h <;> first|(cases h;done)|exact hsh (.inl rfl)|exact hsh (.inr rfl)
  subst hk;have hb:Ty.beq (.int ka) (.int ka)=true:=by simp[Ty.beq]
  by_cases hq:op=.quo\/op=.rem
  ·have h':(bif ax n then none else kk (.val (.int ka) (aa op ka m n)))=some r:=by
    rcases hq with rfl|rfl <;> (simp only[kL,dif_pos hb]at h;exact h)
   cases hn:ax n with
   |true=>rw[hn]at h';cases h'
   |false=>rw[hn]at h';refine⟨.val (.int ka) (aa op ka m n),.int ka (aa op ka m n),?_,rfl,h'⟩;have:=qj (P:=P) (w:=w) op t x y ka m n ⟨fun e=>hsh (.inl e),fun e=>hsh (.inr e)⟩ (fun _=>of_decide_eq_false hn);rcases hq with rfl|rfl <;> exact this
  ·have hr:=qj (P:=P) (w:=w) op t x y ka m n ⟨fun e=>hsh (.inl e),fun e=>hsh (.inr e)⟩ (fun e=>absurd e hq);cases op <;> simp only[kL,dif_pos hb]at h <;>
    first
     |exact absurd (.inl rfl) hsh
     |exact absurd (.inr rfl) hsh
     |exact absurd (.inl rfl) hq
     |exact absurd (.inr rfl) hq
     |exact⟨.val (.int ka) (aa _ ka m n),_,hr,rfl,h⟩
     |exact⟨.val .bool (af _ m n),_,hr,rfl,h⟩
theorem vz (hE:cm P E) {op:BinOp} {t:Nat} {x y:Operand} {m n:Bool} {kk:L->Option R}
  (h:kL (aO R) (fw E t) op (.val .bool m) (.val .bool n) kk=some r):∃l z,(bin op t x y (.bool m) (.bool n)).run P w=.ok z w/\cw w ω s z l/\kk l=some r:=by
 cases hb:fw E t with
 |false=>rw[hb]at h;cases h
 |true=>
  rw[hb]at h;have hu:=uz hE hb;cases op <;> first
   |(cases h;done)
   |exact⟨.val .bool (bQ m n),_,nZ .eql t x y hu m n (.inl rfl),rfl,h⟩
   |exact⟨.val .bool (!bQ m n),_,nZ .neq t x y hu m n (.inr rfl),rfl,h⟩
theorem xA {op:BinOp} {t:Nat} {x y:Operand} {m n:ByteArray} {tb:Bool} {kk:L->Option R}
  (h:kL (aO R) tb op (.val .str m) (.val .str n) kk=some r):∃l z,(bin op t x y (.string m) (.string n)).run P w=.ok z w/\cw w ω s z l/\kk l=some r:=by
 by_cases ha:op=.add
 ·subst ha;have h':(bif qh m n then kk (.val .str (m++n))else none)=some r:=h;cases hn:qh m n with
  |false=>rw[hn]at h';cases h'
  |true=>rw[hn]at h';exact⟨.val .str (m++n),_,wo t x y m n hn,rfl,h'⟩
 ·cases op <;> first
   |exact absurd rfl ha
   |(cases h;done)
   |exact⟨.val .bool (xa _ m n),_,wm _ t x y m n (by simp),rfl,h⟩
theorem Bi (hE:cm P E) {op:BinOp} {t:Nat} {x y:Operand} {u v:Value} {lx ly:L} {kk:L->Option R} (hx:cw w ω s u lx) (hy:cw w ω s v ly)
  (h:kL (aO R) (fw E t) op lx ly kk=some r):∃l z,(bin op t x y u v).run P w=.ok z w/\cw w ω s z l/\kk l=some r:=by
 cases lx with
 |val tx x'=>
  cases ly with
  |val ty y'=>
   cases tx <;> cases ty <;> first
    |(cases h;done)
    |(have hu:u=.int _ x':=hx;have hv:v=.int _ y':=hy;subst hu;subst hv;exact xz h)
    |(have hu:u=.bool x':=hx;have hv:v=.bool y':=hy;subst hu;subst hv;exact vz hE h)
    |(have hu:u=.string x':=hx;have hv:v=.string y':=hy;subst hu;subst hv;exact xA h)
  |_=>cases tx <;> cases h
 |_=>cases h
theorem lq:∀(cs:aJ) (xs ys:List L) (us vs:List Value) (b:Bool),kz (A:=real) cs xs ys=some b->bi (cw w ω s) us xs->bi (cw w ω s) vs ys->Typed cs us/\Typed cs vs/\b=da us vs
 | .nil,[],[],us,vs,b,h,hu,hv=>by
  cases us with
  |cons _ _=>exact hu.elim
  |nil=>
   cases vs with
   |cons _ _=>exact hv.elim
   |nil=>have h:=Option.some.inj h;subst h;exact⟨trivial,trivial,rfl⟩
 | .cons t ts,x::xs,y::ys,[],vs,b,h,hu,hv=>hu.elim
 | .cons t ts,x::xs,y::ys,u::us,[],b,h,hu,hv=>hv.elim
 | .cons t ts,x::xs,y::ys,u::us,v::vs,b,h,hu,hv=>by
  cases x with
  |val tx x'=>
   cases y with
   |val ty y'=>
    simp only[kz]at h;split at h
    ·rename_i h1;split at h
     ·rename_i h2;have e1:=Ty.eq_of_beq h1;have e2:=Ty.eq_of_beq h2;subst e1;subst e2;cases ty with
      |int k=>
       simp only[E6]at h;cases hr:kz (A:=real) ts xs ys with
       |none=>rw[hr]at h;cases h
       |some r=>rw[hr]at h;have h:=Option.some.inj h;obtain⟨q1,q2,q3⟩:=lq ts xs ys us vs r hr hu.2 hv.2;have z7:u=.int k x':=hu.1;have wV:v=.int k y':=hv.1;subst z7;subst wV;refine⟨⟨⟨_,rfl⟩,q1⟩,⟨⟨_,rfl⟩,q2⟩,?_⟩;subst h;subst q3;rfl
      |bool=>
       simp only[E6]at h;cases hr:kz (A:=real) ts xs ys with
       |none=>rw[hr]at h;cases h
       |some r=>rw[hr]at h;have h:=Option.some.inj h;obtain⟨q1,q2,q3⟩:=lq ts xs ys us vs r hr hu.2 hv.2;have z7:u=.bool x':=hu.1;have wV:v=.bool y':=hv.1;subst z7;subst wV;refine⟨⟨⟨_,rfl⟩,q1⟩,⟨⟨_,rfl⟩,q2⟩,?_⟩;subst h;subst q3;rfl
      |str=>cases h
      |sl _ _=>cases h
     ·cases h
    ·cases h
   |_=>cases h
  |_=>cases h
 | .nil,_::_,_,_,_,_,h,_,_=>by cases h
 | .nil,[],_::_,_,_,_,h,_,_=>by cases h
 | .cons _ _,[],_,_,_,_,h,_,_=>by cases h
 | .cons _ _,x::_,[],_,_,_,h,_,_=>by exfalso;cases x <;> cases h
theorem qX{x:ck}{v:Value}{c:Cont real}(hx:df w ω s v x)(hc:hJ s x=some c):∃ad n cap,v=.slice ad n cap/\n=List.length c.x/\(ad=none->n=0):=by
 have key:∀(e:Nat) (cs:aJ) (md:Md) (z:List cs.T),(Ty.sl e cs).R w ω md v z->∃ad n cap,v=.slice ad n cap/\n=List.length z/\(ad=none->n=0):=by
  intro e cs md z h;obtain⟨ad,n,c,e1,e2,e3,e4,e5⟩:=h;refine⟨ad,n,c,e1,e2.symm,fun e=>?_⟩;subst e;cases md with
  |cz=>
   by_cases hn:0<n
   ·obtain⟨_,_,q,_⟩:=e4 hn;cases q
   ·omega
  |flat k=>
   rcases e4 with ⟨_,q⟩|⟨_,_,q,_⟩
   ·exact q
   ·cases q
  |deep k=>
   rcases e4 with ⟨_,q⟩|⟨_,_,q,_⟩
   ·exact q
   ·cases q
 cases x with
 |one l=>
  cases l with
  |val t y=>
   cases t with
   |sl e cs=>have hc:=Option.some.inj hc;subst hc;exact key e cs .cz y hx
   |_=>cases hc
  |eR e cs=>have hc:=Option.some.inj hc;subst hc;obtain⟨a',e1⟩:=hx;exact⟨a',0,0,e1,rfl,fun _=>rfl⟩
  |ref id g h p=>exact key _ _ _ _ (hx.2.2 c hc)
  |_=>cases hc
 |_=>cases hc
theorem r9{t e:Nat}(hu:P.underlying t=some (.slice e))(ad:Option Addr)(n c:Nat)(x y:Operand)(op:BinOp)(ho:op=.eql\/op=.neq):
  (bin op t x y (.slice ad n c) (.slice none 0 0)).run P w=.ok (.bool (match op with| .eql=>ad.isNone|_=>!ad.isNone)) w:=by
 have h1:∀d,(Op.equalIn (d+1) t (.slice ad n c) (.slice none 0 0)).run P w=.ok ad.isNone w:=by intro d;cases ad <;> simp[Op.equalIn,run_underlying hu]
 have h2:(Op.equal t (.slice ad n c) (.slice none 0 0)).run P w=.ok ad.isNone w:=h1 9999;rcases ho with rfl|rfl <;> simp[bin,eqGuard,binOp,h2]
theorem wg(hE:cm P E){op:BinOp}{t:Nat}{x y:Operand}{l:L}(h:Rel ω a w s)(hn:fT E s op t x y=some l):∃z,(bin op t x y (a.eval x) (a.eval y)).run P w=.ok z w/\cw w ω s z l:=by
 have hx:=bT h E t x;unfold fT at hn;split at hn
 ·split at hn
  ·rename_i q c h1 h2;obtain⟨u1,_⟩:=ij hE (e:=q.1) (cs:=q.2) h1;obtain⟨ad,n,cap,e1,e2,e3⟩:=qX hx h2;have hy:a.eval (.const (.slice none 0 0))=.slice none 0 0:=rfl;split at hn
   ·have hn:=Option.some.inj hn;subst hn;refine⟨_,by rw[e1,hy];exact r9 u1 ad n cap x _ .eql (.inl rfl),_,rfl,fun hp=>?_⟩;cases ad with
    |some _=>rfl
    |none=>exfalso;have h0:n=0:=e3 rfl;have hp:af .gtr ((List.length c.x:Nat):Int) 0=true:=hp;rw[<-e2,h0]at hp;exact absurd hp (by decide)
   ·have hn:=Option.some.inj hn;subst hn;refine⟨_,by rw[e1,hy];exact r9 u1 ad n cap x _ .neq (.inr rfl),_,rfl,fun hp=>?_⟩;cases ad with
    |some _=>rfl
    |none=>exfalso;have h0:n=0:=e3 rfl;have hp:af .gtr ((List.length c.x:Nat):Int) 0=true:=hp;rw[<-e2,h0]at hp;exact absurd hp (by decide)
   ·cases hn
  ·cases hn
 ·cases hn
theorem l8{op:BinOp}{t yt:Nat}{x y:Operand}(ho:o.op=.binOp op t x y yt){z:Value}(h:(bin op t x y (a.eval x) (a.eval y)).run P w=.ok z w):(execOp a.eval o).run P w=.ok (.value z) w:=by unfold execOp;simp only[ho];unfold bin at h;rw[Sem.run_bind,h];rfl
theorem AR (hE:cm P E) {op:BinOp} {t yt:Nat} {x y:Operand} (ho:o.op=.binOp op t x y yt) (h:Rel ω a w s) (hd:∀d,o.dst=some d->d<a.tmps.size) {Φ:bR->Option (Callee real (Option R))}
  (hk:bl E (aO R) Φ o s k=some r):o.wp P a w (Ends ω a w o.dst k r) Q:=by
 have hx:=bT h E t x;have hy:=bT h E t y;unfold bl at hk;simp only[ho]at hk;cases hnt:fT E s op t x y with
 |some l=>rw[hnt]at hk;obtain⟨z,h1,h2⟩:=wg hE h hnt;exact bE h hd (l8 ho h1) (t:=.one l) h2 hk
 |none=>
 rw[hnt]at hk;simp only at hk;generalize ev E s t x=tx at hx hk;generalize ev E s t y=ty at hy hk;split at hk
 ·obtain⟨l,z,h1,h2,h3⟩:=Bi (x:=x) (y:=y) hE hx hy hk;exact bE h hd (l8 ho h1) (t:=.one l) h2 h3
 ·rename_i xs ys;obtain⟨i,hi,hk⟩:=aA hk;obtain⟨(b:Bool),h1,h2⟩:=aA hk;obtain⟨us,e1,hu⟩:=hx;obtain⟨vs,e2,hv⟩:=hy;cases hq:E.EJ t with
  |false=>rw[hq]at h1;cases h1
  |true=>
   rw[hq]at h1;obtain⟨k1,k2,k3⟩:=lq i.cs xs ys us vs b h1 hu hv;split at h2
   ·have:=hE.E8 t i hi hq .eql x y us vs w (.inl rfl) k1 k2;exact bE h hd (l8 ho (by rw[e1,e2];exact this)) (t:=.one (.val .bool b)) (congrArg Value.bool k3.symm) h2
   ·have:=hE.E8 t i hi hq .neq x y us vs w (.inr rfl) k1 k2;exact bE h hd (l8 ho (by rw[e1,e2];exact this)) (t:=.one (.val .bool (!b))) (congrArg (fun b=>Value.bool (!b)) k3.symm) h2
   ·cases h2
 ·cases hk
theorem BS {op:UnOp} {t:Nat} {x:Operand} (ho:o.op=.unOp op t x) (h:Rel ω a w s) (hd:∀d,o.dst=some d->d<a.tmps.size) {Φ:bR->Option (Callee real (Option R))}
  (hk:bl E (aO R) Φ o s k=some r):o.wp P a w (Ends ω a w o.dst k r) Q:=by
 have hx:=bT h E t x;unfold bl at hk;simp only[ho]at hk;generalize ev E s t x=tx at hx hk;split at hk
 ·rename_i b;have hv:a.eval x=.bool b:=hx;exact bE h hd (v:=.bool (!b)) (by unfold execOp;simp[ho,hv,Op.unary]) (t:=.one (.val .bool (real.AC b))) rfl hk
 ·rename_i kk n;have hv:a.eval x=.int kk n:=hx;exact bE h hd (v:=.int kk (C8 kk n)) (by unfold execOp;simp[ho,hv,Op.unary,Op.intArith,C8]) (t:=.one (.val (.int kk) (real.neg kk n))) rfl hk
 ·cases hk
theorem td (hE:cm P E) {src dst:Nat} {x:Operand} (ho:o.op=.convert src dst x) (h:Rel ω a w s) (hd:∀d,o.dst=some d->d<a.tmps.size) {Φ:bR->Option (Callee real (Option R))}
  (hk:bl E (aO R) Φ o s k=some r):o.wp P a w (Ends ω a w o.dst k r) Q:=by
 have hx:=bT h E src x;unfold bl at hk;simp only[ho]at hk;obtain⟨i0,h0,hk⟩:=aA hk;obtain⟨i,h1,hk⟩:=aA hk;obtain⟨_,_,HA⟩:=hE.ti _ _ h0;obtain⟨_,_,ok⟩:=hE.ti _ _ h1;cases hg:i.agg with
 |true=>rw[hg]at hk;cases hk
 |false=>
  rw[hg]at hk;simp only[cond_false]at hk;generalize ev E s src x=tx at hx hk;split at hk
  ·rename_i j kk n hc;have hv:a.eval x=.int kk n:=hx;have hu:P.underlying dst=some (.int j):=by rw[ok.AY,ok.El j hc hg]
   refine bE h hd (v:=.int j (ak j n)) ?_ (t:=.one (.val (.int j) (real.conv kk j n))) rfl hk;unfold execOp;simp[ho,hv,convert,run_underlying HA.AY,run_underlying hu,Conv.intToInt,ak]
  ·cases hk
theorem yV{v:Value}{c:Bool×List L}(h:nI w ω s v c):df w ω s v (TV.mk c.1 c.2):=by
 obtain⟨b,ls⟩:=c;cases b with
 |true=>exact h
 |false=>
  cases ls with
  |nil=>trivial
  |cons l ls=>
   cases ls with
   |nil=>exact h l rfl
   |cons _ _=>trivial
theorem tf {t:Operand} {i:Nat} (ho:o.op=.extract t i) (h:Rel ω a w s) (hd:∀d,o.dst=some d->d<a.tmps.size) {Φ:bR->Option (Callee real (Option R))}
  (hk:bl E (aO R) Φ o s k=some r):o.wp P a w (Ends ω a w o.dst k r) Q:=by
 have hx:=bT h E 0 t;unfold bl at hk;simp only[ho]at hk;generalize ev E s 0 t=tx at hx hk;split at hk
 ·rename_i cs;obtain⟨c,h1,h2⟩:=aA hk;obtain⟨us,e1,hu⟩:=hx;obtain⟨v,h3,h4⟩:=hu.get i c h1;exact bE h hd (v:=v) (by unfold execOp;simp[ho,e1,Instr.extract,h3]) (yV h4) h2
 ·cases hk
end
end Go.R
namespace Go.R
def fI(agg:Bool)(us:List Value):Value:=match agg with
 |true=>.agg us.toArray
 |false=>us.headD undef
theorem EW{d:TypeDesc}(h:d.isRow=false):(∀fs,d≠.struct fs)/\(∀n e,d≠.array n e):=by
 constructor
 ·intro fs e;subst e;cases h
 ·intro n e' e;subst e;cases h
section
variable {R:Type} {P:Program} {E:Env} {ω:aK} {a:Act} {w:World} {s:S} {k:S->Option R} {r:R} {o:Oper} {Q:Exit->Act->World->Prop}
theorem yh{t:Nat}{i:TI}{I:TypeInfo}{d:TypeDesc}(ok:tI P t i I d)(w:World):(isAgg t).run P w=.ok i.agg w:=by unfold isAgg;rw[Sem.run_bind,run_underlying ok.AY w,<-ok.row];cases d <;> rfl
theorem j6{t:Nat}{i:TI}{I:TypeInfo}{d:TypeDesc}(ok:tI P t i I d){b off:Nat}{us:List Value}(hr:w.rangeAt b off us)(hl:us.length=i.cs.len):
  (Instr.loadAt t (.pointer (some ⟨b,off,none⟩))).run P w=.ok (fI i.agg us) w:=by
 cases hg:i.agg with
 |true=>exact run_loadAt_mid w b off t us d hr ok.AY (by rw[ok.row,hg]) (by rw[ok.info];simp[ok.size,hl])
 |false=>
  have h1:=ok.one hg;rw[h1]at hl;match us,hl with
  | [u],_=>have hc:=hr 0 u rfl;simp only[Nat.add_zero]at hc;have ha:=yh ok w;rw[hg]at ha;simp[Instr.loadAt,Instr.sureAddr,loadVar,Sem.run_bind,ha,fI,run_load,hc]
theorem xI{t:Nat}{x:Operand}(ho:o.op=.load t x){z:Value}(h:(Instr.loadAt t (a.eval x)).run P w=.ok z w):(execOp a.eval o).run P w=.ok (.value z) w:=by unfold execOp;simp only[ho];rw[Sem.run_bind,h];rfl
theorem sx{us:List Value}{ls:List L}(h:bi (cw w ω s) us ls)(agg:Bool):df w ω s (fI agg us) (TV.mk agg ls):=by
 cases agg with
 |true=>exact⟨us,rfl,h⟩
 |false=>
  match us,ls,h with
  | [],[],_=>trivial
  | [u],[l],h=>exact h.1
  |_::_::_,_::_::_,_=>trivial
theorem iY{w':World}(mk:Nat->(t:Ty)->real.V t->L):∀(cs:aJ) (md:Nat->Md) (g:Nat->Option Value) (j:Nat) (x:cs.T),cs.R w ω md g j x ->
  (∀(k:Nat) (t:Ty) (y:t.T),cellAt (A:=real) cs x k=some ⟨t,y⟩->∀v,t.R w ω (md (j+k)) v y->cw w' ω s v (mk (j+k) t y)) ->
  ∃us:List Value,us.length=cs.len/\(∀k u,us[k]? = some u->g (j+k)=some u)/\bi (cw w' ω s) us (unpack (A:=real) mk cs x j)
 | .nil,_,_,_,_,_,_=>⟨[],rfl,fun k u h=>by simp at h,trivial⟩
 | .cons t ts,md,g,j,x,h,hm=>by
  obtain⟨⟨v,h1,h2⟩,h3⟩:=h;obtain⟨us,e1,e2,e3⟩:=iY mk ts md g (j+1) _ h3 (fun k t' y hc v' hv=>by have:=hm (k+1) t' y hc v' (by rw[show j+(k+1)=j+1+k by omega];exact hv);rwa[show j+(k+1)=j+1+k by omega]at this);refine⟨v::us,by simp[aJ.len,e1],fun k u hu=>?_,⟨hm 0 t _ rfl v h2,e3⟩⟩;cases k with
  |zero=>simp at hu;rw[<-hu];exact h1
  |succ k=>have:=e2 k u (by simpa using hu);rwa[show j+1+k=j+(k+1)by omega]at this
theorem iz(mk:Nat->(t:Ty)->real.V t->L):∀(cs:aJ) (x:cs.T) (j:Nat),(unpack (A:=real) mk cs x j).length=cs.len
 | .nil,_,_=>rfl
 | .cons t ts,x,j=>by have:=iz mk ts (real.tl x) (j+1);simp only[unpack,aJ.len,List.length_cons];rw[this]
theorem lK{b off:Nat}{us:List Value}(h:w.rangeAt b off us)(m n:Nat):w.rangeAt b (off+m) ((us.drop m).take n):=by
 intro j v hv;have hj:j<n:=by have:=(List.getElem?_eq_some_iff.1 hv).1;simp at this;omega
 rw[List.getElem?_take_of_lt hj,List.getElem?_drop]at hv;have:=h (m+j) v hv;rwa[<-Nat.add_assoc]at this
theorem nN(md:Nat)(i:IV)(j:Nat):∀(p:jF) (e:Nat) (cs:aJ) (x:real.V (.sl e cs)) (c:Cont real),follow md e cs x p=some c ->
  ∀(e':Nat) (cs':aJ) (y:real.V (.sl e' cs')),cellAt c.cs (real.get c.x i) j=some ⟨.sl e' cs',y⟩->follow md e cs x (p++[(i,j)])=some ⟨e',cs',y,md⟩
 | [],e,cs,x,c,h,e',cs',y,hc=>by
  injection h with h
  subst h;simp only[List.nil_append,follow];have dY:cellAt cs (real.get x i) j=some ⟨.sl e' cs',y⟩:=hc;rw[dY]
 |(i',j')::p,e,cs,x,c,h,e',cs',y,hc=>by
  simp only[follow,List.cons_append]at h⊢;cases hq:cellAt cs (real.get x i') j' with
  |none=>rw[hq]at h;cases h
  |some z=>
   obtain⟨t,z⟩:=z;rw[hq]at h;cases t with
   |sl e1 HN=>exact nN md i j p _ _ z c h e' cs' y hc
   |_=>cases h
theorem iI(md:Nat):∀(p:jF) (e:Nat) (cs:aJ) (x:real.V (.sl e cs)) (c:Cont real),follow md e cs x p=some c->c.md=md
 | [],e,cs,x,c,h=>by injection h with h;rw[<-h]
 |(i',j')::p,e,cs,x,c,h=>by
  simp only[follow]at h;split at h
  ·exact iI md p _ _ _ c h
  ·cases h
theorem dz{id g h:Nat}{p:jF}{c:Cont real}(hc:s.cont id g h p = some c):(s.ob id).g = g /\
    ((∃dp, (s.ob id).o = .arr c.e c.cs dp c.x /\ p = [] /\ c.md = bif dp then 2 else 1) \/
     (∃e cs x, (s.ob id).o = .arr e cs true x /\ p ≠ [] /\ (s.ob id).h = h /\ follow 2 e cs x p = some c) \/
     ((s.ob id).o = .cz c.e c.cs c.x /\ p = [] /\ c.md = 0)):=by
  unfold St.cont at hc;cases hb:Nat.beq (s.ob id).g g with
  |false=>rw[hb]at hc; cases hc
  |true=>
    rw[hb]at hc;simp only[cond_true]at hc;refine⟨Nat.eq_of_beq_eq_true hb, ?_⟩;unfold fU.cont at hc;cases ho:(s.ob id).o with
    |blk _=>rw[ho]at hc; cases hc
    |gone=>rw[ho]at hc; cases hc
    |mp _ _=>rw[ho]at hc; cases hc
    |arr e cs dp x=>
      rw[ho]at hc;cases p with
      |nil=>injection hc with hc; subst hc; exact .inl ⟨dp, rfl, rfl, rfl⟩
      |cons st p=>
        simp only at hc;cases hd:dp&&Nat.beq (s.ob id).h h with
        |false=>rw[hd]at hc; cases hc
        |true=>rw[hd]at hc;rw[Bool.and_eq_true]at hd;obtain⟨rfl, hh⟩:=hd;exact .inr (.inl ⟨e, cs, x, rfl, by simp, Nat.eq_of_beq_eq_true hh, hc⟩)
    |cz e cs x=>
      rw[ho]at hc;cases p with
      |nil=>injection hc with hc; subst hc; exact .inr (.inr ⟨rfl, rfl, rfl⟩)
      |cons st p=>cases hc
theorem xG {id g h:Nat} {p:jF} {c:Cont real} (hc:s.cont id g h p=some c) (hm:c.md=2) (i:IV) (j:Nat) {e':Nat} {cs':aJ} {y:real.V (.sl e' cs')}
  (hy:cellAt c.cs (real.get c.x i) j=some ⟨.sl e' cs',y⟩):s.cont id g (s.ob id).h (p++[(i,j)])=some ⟨e',cs',y,2⟩:=by
 obtain⟨hg,h3⟩:=dz hc;have go:∀(e:Nat) (cs:aJ) (x:real.V (.sl e cs)),(s.ob id).o=.arr e cs true x->follow 2 e cs x p=some c->s.cont id g (s.ob id).h (p++[(i,j)])=some ⟨e',cs',y,2⟩:=by
  intro e cs x ho hf;have hs:=nN 2 i j p e cs x c hf e' cs' y hy;unfold St.cont fU.cont;rw[hg,fV,ho];simp only[cond_true];cases hp:p++[(i,j)]with
  |nil=>simp at hp
  |cons st q=>rw[hp]at hs;simp only[fV,Bool.and_self,cond_true];exact hs
 rcases h3 with ⟨dp,ho,hp,jH⟩|⟨e,cs,x,ho,hp,hh,hf⟩|⟨ho,hp,jH⟩
 ·have wT:dp=true:=by cases dp with|true=>rfl|false=>rw[hm]at jH;cases jH
  subst wT;subst hp;refine go c.e c.cs c.x ho ?_;obtain⟨ce,F3,cx,cmd⟩:=c;simp only at hm;subst hm;rfl
 ·exact go e cs x ho hf
 ·rw[hm]at jH;cases jH
end
end Go.R
namespace Go.R
section
variable {R:Type} {P:Program} {E:Env} {ω:aK} {a:Act} {w:World} {s:S} {k:S->Option R} {r:R} {o:Oper} {Q:Exit->Act->World->Prop}
theorem vP{b o':Nat}{cs:aJ}{x:cs.T}(h:cs.R w ω (fun _=>.cz) (fun j=>w.cell? ⟨b,o'+j,none⟩) 0 x):
  ∃us:List Value,us.length=cs.len/\w.rangeAt b o' us/\bi (cw w ω s) us (unpack (A:=real) uG cs x 0):=by
 obtain⟨us,h1,h2,h3⟩:=iY (w':=w) (s:=s) (uG (A:=real)) cs (fun _=>.cz) _ 0 x h (fun k t y _ v hv=>hv);exact⟨us,h1,fun j u hu=>by have:=h2 j u hu;simpa using this,h3⟩
theorem yd{id md:Nat}{p:jF}{e:Nat}{cs:aJ}{v:Value}{x:List cs.T}(hm:md≠0)(hp:md=1->p=[])(h:(Ty.sl e cs).R w ω (bj md id p) v x)(hx:0<x.length):
  ∃b arr c,v=.slice (some ⟨b,0,none⟩) x.length c/\x.length<=c/\w.heap[b]? = some (.cells arr e (0,0))/\arr.size=c*cs.len/\ω b=some (id,bD p):=by
 obtain⟨ad,n,c,h1,h2,h3,h4,_⟩:=h;subst h2;have key:Hd w ω e cs.len (.flat (id,bD p)) ad x.length c:=by
  unfold bj at h4;match md,hm,hp,h4 with
  |1,_,hp,h4=>rw[hp rfl];exact h4
  |n+2,_,_,h4=>exact h4
 rcases key with ⟨e1,e2⟩|⟨b,arr,e1,e2,e3,e4⟩
 ·omega
 ·subst e1;exact⟨b,arr,c,h1,h3,e2,e3,e4⟩
theorem kG{id g h:Nat}{p:jF}{c:Cont real}(hc:s.cont id g h p=some c):(c.md=1->p=[])/\(c.md=0\/c.md=1\/c.md=2):=by
 obtain⟨_,h3⟩:=dz hc;rcases h3 with ⟨dp,ho,hp,jH⟩|⟨e,cs,x,ho,hp,hh,hf⟩|⟨ho,hp,jH⟩
 ·exact⟨fun _=>hp,by cases dp with|true=>exact .inr (.inr jH)|false=>exact .inr (.inl jH)⟩
 ·have:=iI 2 p e cs x c hf;exact⟨fun h=>(by rw[this]at h;cases h),.inr (.inr this)⟩
 ·exact⟨fun _=>hp,.inl jH⟩
theorem cY{id g:Nat}{cells:List L}(hb:dw s id g=some cells):(s.ob id).g=g/\(s.ob id).o=.blk cells:=by
 unfold dw at hb;cases hg:Nat.beq (s.ob id).g g with
 |false=>rw[hg]at hb;cases hb
 |true=>
  rw[hg]at hb;simp only[cond_true]at hb;refine⟨Nat.eq_of_beq_eq_true hg,?_⟩;cases ho:(s.ob id).o with
  |blk cs=>rw[ho]at hb;injection hb with hb;rw[hb]
  |_=>rw[ho]at hb;cases hb
theorem yf{b:Nat}{arr:Array Value}{T:Nat}(hh:w.heap[b]? = some (.cells arr T (0,0))):w.rangeAt b 0 arr.toList:=by intro j v hv;rw[Nat.zero_add,cell_of_row w b j arr T (0,0) hh];simpa using hv
theorem p6{id g h:Nat}{p:jF}{c:Cont real}(hc:s.cont id g h p=some c)(hm:c.md≠0){v:Value}(hr:(Ty.sl c.e c.cs).R w ω (bj c.md id p) v c.x)(i:IV)(h0:0<=IV.i i)(h1:IV.i i<(List.length c.x:Int)):
  ∃b arr cp,ω b=some (id,bD p)/\w.heap[b]? = some (.cells arr c.e (0,0))/\arr.size=cp*c.cs.len/\List.length c.x<=cp/\v=.slice (some ⟨b,0,none⟩) (List.length c.x) cp /\
   ∃us:List Value,us.length=c.cs.len/\w.rangeAt b ((IV.i i).toNat*c.cs.len) us /\
    bi (cw w ω s) us (unpack (A:=real) (we s id g p i c.md) c.cs (real.get c.x i) 0):=by
 have hx:0<List.length c.x:=by omega
 obtain⟨b,arr,cp,e1,e2,e3,e4,e5⟩:=yd hm (kG hc).1 hr hx;obtain⟨ad,n,c',f1,f2,f3,f4,f5⟩:=hr;rw[e1]at f1;injection f1 with g1 g2 g3
 have hel:=f5 (IV.i i).toNat ⟨b,0,none⟩ (by omega) g1.symm;refine⟨b,arr,cp,e5,e3,e4,e2,e1,?_⟩;have hg:real.get c.x i=List.getD c.x (IV.i i).toNat (k7 c.cs):=rfl;rw[hg];obtain⟨us,h1',h2',h3'⟩:=iY (w':=w) (s:=s) (we s id g p i c.md) c.cs _ _ 0 _ hel (fun k t y hcell v hv=>by
  rcases(kG hc).2 with zW|CL|CM
  ·exact absurd zW hm
  ·rw[CL]at hv⊢;exact hv
  ·rw[CM]at hv⊢;simp only[Nat.zero_add]at hv⊢;cases t with
   |sl e' cs'=>
    have hcs:=xG hc CM i k (e':=e') (cs':=cs') (y:=y) hcell;refine⟨by rw[(dz hc).1];exact Nat.le_refl _,by simp,fun E5 Bo=>?_⟩;rw[hcs]at Bo;injection Bo with Bo
    subst Bo;have:bj 2 id (p++[(i,k)])=(bj 2 id p).inner (IV.i i).toNat k:=by simp[bj,Md.inner,bD]
    rw[this];exact hv
   |int _=>exact hv
   |bool=>exact hv
   |str=>exact hv)
 exact⟨us,h1',fun j u hu=>by have:=h2' j u hu;simpa using this,h3'⟩
theorem uC(h:Rel ω a w s){t:Nat}{i:TI}{I:TypeInfo}{d:TypeDesc}(ok:tI P t i I d){v:Value}{l:L}(hl:cw w ω s v l){z:ck}(hz:iN s i.agg i.cs.len l=some z):
  ∃u,(Instr.loadAt t v).run P w=.ok u w/\df w ω s u z:=by
 cases l with
 |ptr id g off=>
  simp only[iN]at hz;cases hb:dw s id g with
  |none=>rw[hb]at hz;cases hz
  |some cells=>
   rw[hb]at hz;simp only at hz;split at hz
   ·rename_i hle;injection hz with hz
    subst hz;obtain⟨e1,e2⟩:=cY hb;obtain⟨b,f1,f2⟩:=hl.2 e1 cells e2;obtain⟨b',arr,T,g1,g2,g3⟩:=h.dx id cells e2;obtain rfl:=h.inj _ _ _ f1 g1;subst f2;have hlen:=g3.length;refine⟨_,j6 ok (us:=(arr.toList.drop off).take i.cs.len) (by have:=lK (yf g2) off i.cs.len;simpa using this) (by simp at hlen⊢;omega),sx ((g3.drop off).take _) i.agg⟩
   ·cases hz
 |cf id g hh p j off=>
  simp only[iN]at hz;cases hc:s.cont id g hh p with
  |none=>rw[hc]at hz;cases hz
  |some c=>
   rw[hc]at hz;simp only at hz;have hm:c.md≠0:=by intro e;rw[e]at hz;cases hz
   rw[k9 hm]at hz;simp only[cond_false]at hz;split at hz
   ·rename_i hle;injection hz with hz
    subst hz;obtain⟨h0,h1,⟨b,f1,f2⟩,v',f3⟩:=hl.2.2 c hc hm;obtain⟨b',arr,cp,g1,g2,g3,g4,g5,us,u1,u2,u3⟩:=p6 hc hm f3 j h0 h1;obtain rfl:=h.inj _ _ _ f1 g1;subst f2;have hlen:=iz (we s id g p j c.md) c.cs (real.get c.x j) 0;rw[hlen]at hle;refine⟨_,j6 ok (us:=(us.drop off).take i.cs.len) (lK u2 off i.cs.len) (by simp;omega),sx ((u3.drop off).take _) i.agg⟩
   ·cases hz
 |eo cs x off=>
  simp only[iN]at hz;split at hz
  ·rename_i hle;injection hz with hz
   subst hz;obtain⟨b,o',f1,f2,f3,f4⟩:=hl;subst f3;obtain⟨us,u1,u2,u3⟩:=vP (s:=s) f4;have hlen:=iz (uG (A:=real)) cs x 0;rw[hlen]at hle;exact⟨_,j6 ok (us:=(us.drop off).take i.cs.len) (lK u2 off i.cs.len) (by simp;omega),sx ((u3.drop off).take _) i.agg⟩
  ·cases hz
 |_=>cases hz
theorem yw (hE:cm P E) {t:Nat} {x:Operand} (ho:o.op=.load t x) (h:Rel ω a w s) (hd:∀d,o.dst=some d->d<a.tmps.size) {Φ:bR->Option (Callee real (Option R))}
  (hk:bl E (aO R) Φ o s k=some r):o.wp P a w (Ends ω a w o.dst k r) Q:=by
 have hx:=bT h E 0 x;unfold bl at hk;simp only[ho]at hk;obtain⟨i,h1,hk⟩:=aA hk;obtain⟨I,d,ok⟩:=hE.ti _ _ h1;generalize ev E s 0 x=tx at hx hk;split at hk
 ·obtain⟨z,h2,hk⟩:=aA hk;obtain⟨u,h3,h4⟩:=uC h ok hx h2;exact bE h hd (xI ho h3) h4 hk
 ·cases hk
theorem rU(h:Rel ω a w s):∀(xs:List Operand) (cc:List (dc real)),(xs.mapM fun c=>tZ (ev E s 0 c))=some cc->bi (fun v c=>gr w ω s v c) (xs.map a.eval) cc
 | [],cc,hc=>by
  have:cc=[]:=by simpa using hc.symm
  subst this;trivial
 |x::xs,cc,hc=>by
  rw[List.mapM_cons]at hc;obtain⟨c,h1,hc⟩:=Option.bind_eq_some_iff.1 hc;obtain⟨cs,h2,hc⟩:=Option.bind_eq_some_iff.1 hc;have:cc=c::cs:=by simpa using hc.symm
  subst this;refine⟨?_,rU h xs cs h2⟩;have hx:=bT h E 0 x;unfold tZ at h1;split at h1
  ·rename_i id g e;rw[e]at hx;injection h1 with h1;subst h1;exact hx
  ·rename_i cs x e;rw[e]at hx;injection h1 with h1;subst h1;exact hx
  ·cases h1
theorem qY {f:FuncId} {first captured:Array Operand} (ho:o.op=.makeFunc (.func f) first captured) (h:Rel ω a w s) (hd:∀d,o.dst=some d->d<a.tmps.size) {Φ:bR->Option (Callee real (Option R))}
  (hk:bl E (aO R) Φ o s k=some r):o.wp P a w (Ends ω a w o.dst k r) Q:=by
 unfold bl at hk;simp only[ho]at hk;cases hs:Nat.beq first.size 0 with
 |false=>rw[hs]at hk;cases hk
 |true=>
  rw[hs]at hk;obtain⟨cc,h1,h2⟩:=aA hk;have hf:first = #[]:=Array.eq_empty_of_size_eq_zero (Nat.eq_of_beq_eq_true hs)
  subst hf;refine bE h hd (v:=.func (.func f) #[] (captured.map a.eval)) ?_ (t:=.one (.fn f cc)) ⟨captured.toList.map a.eval,?_,rU h _ _ h1⟩ h2
  ·unfold execOp;simp[ho,Instr.makeFunc]
  ·congr 1;apply Array.ext';simp
theorem wy (hE:cm P E) {t f:Nat} {x:Operand} (ho:o.op=.field t x f) (h:Rel ω a w s) (hd:∀d,o.dst=some d->d<a.tmps.size) {Φ:bR->Option (Callee real (Option R))}
  (hk:bl E (aO R) Φ o s k=some r):o.wp P a w (Ends ω a w o.dst k r) Q:=by
 have hx:=bT h E t x;unfold bl at hk;simp only[ho]at hk;obtain⟨i,h1,hk⟩:=aA hk;obtain⟨q,h2,hk⟩:=aA hk;obtain⟨I,d,ok⟩:=hE.ti _ _ h1;have zD:i.agg=true:=by
  cases hg:i.agg with
  |true=>rfl
  |false=>rw[hg]at hk;cases hk
 rw[zD]at hk;simp only[Bool.not_true,cond_false]at hk;obtain⟨fs,g1,g2,g3⟩:=ok.fM zD;obtain⟨F,FI,Fd,f1,f2,f3,f4,f5,f6,f7,F5⟩:=g3 f q h2;subst g1;generalize ev E s t x=tx at hx hk;split at hk
 ·rename_i ls;obtain⟨us,e1,hu⟩:=hx;cases hb:Nat.ble (q.1+q.2.1) ls.length with
  |false=>rw[hb]at hk;cases hk
  |true=>
   rw[hb]at hk;simp only[cond_true]at hk;have hle:=Nat.le_of_ble_eq_true hb;have hlen:=hu.length;refine bE h hd (v:=fI q.2.2 ((us.drop q.1).take q.2.1)) ?_ (sx ((hu.drop q.1).take q.2.1) q.2.2) hk;have pI:(part F.type us.toArray F.offset).run P w=.ok (fI q.2.2 ((us.drop q.1).take q.2.1)) w:=by
    have ha:(isAgg F.type).run P w=.ok q.2.2 w:=by unfold isAgg;rw[Sem.run_bind,run_underlying f6 w,<-f7];cases Fd <;> rfl
    unfold part;rw[Sem.run_bind,ha];cases hq:q.2.2 with
    |true=>simp[sizeOf,typeInfo,f3,f4,f2,fI]
    |false=>
     have h1:=F5 hq;have hlt:q.1<us.length:=by omega
     rw[h1];simp[f2,fI,List.getElem?_eq_getElem hlt];rw[List.drop_eq_getElem_cons hlt];rfl
   unfold execOp;simp only[ho,e1];simp[Instr.field,run_underlying ok.AY,f1,asAgg,pI]
 ·cases hk
theorem qu (hE:cm P E) {t f:Nat} {x:Operand} (ho:o.op=.fieldAddr t x f) (h:Rel ω a w s) (hd:∀d,o.dst=some d->d<a.tmps.size) {Φ:bR->Option (Callee real (Option R))}
  (hk:bl E (aO R) Φ o s k=some r):o.wp P a w (Ends ω a w o.dst k r) Q:=by
 have hx:=bT h E 0 x;unfold bl at hk;simp only[ho]at hk;obtain⟨i,h1,hk⟩:=aA hk;obtain⟨q,h2,hk⟩:=aA hk;obtain⟨I,d,ok⟩:=hE.ti _ _ h1;have zD:i.agg=true:=by
  cases hg:i.agg with
  |true=>rfl
  |false=>rw[hg]at hk;cases hk
 rw[zD]at hk;simp only[Bool.not_true,cond_false]at hk;obtain⟨fs,g1,g2,g3⟩:=ok.fM zD;obtain⟨F,FI,Fd,f1,f2,f3,f4,f5,f6,f7,F5⟩:=g3 f q h2;subst g1;have hrun:∀b off,(Instr.fieldAt t (.pointer (some ⟨b,off,none⟩)) f).run P w=.ok (.pointer (some ⟨b,off+q.1,none⟩)) w:=by
  intro b off;have hn:FI.size≠0:=by omega
  simp[Instr.fieldAt,run_underlying ok.AY,f1,Instr.sureAddr,fieldPlace,sizeOf,typeInfo,f3,hn,Addr.add_mid,f2]
 have hex:∀z,(Instr.fieldAt t (a.eval x) f).run P w=.ok z w->(execOp a.eval o).run P w=.ok (.value z) w:=by intro z hz;unfold execOp;simp only[ho];rw[Sem.run_bind,hz];rfl
 generalize ev E s 0 x=tx at hx hk;generalize hv:a.eval x=v at hx hex;split at hk
 ·rename_i id g off;obtain⟨cells,h3,hk⟩:=aA hk;obtain⟨e1,e2⟩:=cY h3;obtain⟨b,f8,f9⟩:=hx.2 e1 cells e2;subst f9;exact bE h hd (hex _ (hrun b off)) (t:=.one (.ptr id g (off+q.1))) ⟨hx.1,fun hg cells' hc=>⟨b,f8,rfl⟩⟩ hk
 ·rename_i id g hh p j off;obtain⟨c,h3,hk⟩:=aA hk;have hm:c.md≠0:=by intro e;rw[e]at hk;cases hk
  rw[k9 hm]at hk;obtain⟨u1,u2,⟨b,f8,f9⟩,u3⟩:=hx.2.2 c h3 hm;subst f9;refine bE h hd (hex _ (hrun b _)) (t:=.one (.cf id g hh p j (off+q.1))) ⟨hx.1,hx.2.1,fun c' dY hm'=>?_⟩ hk;rw[h3]at dY;injection dY with dY
  subst dY;exact⟨u1,u2,⟨b,f8,by rw[Nat.add_assoc]⟩,u3⟩
 ·rename_i cs y off;obtain⟨b,o',u1,u2,u3,u4⟩:=hx;subst u3;exact bE h hd (hex _ (hrun b _)) (t:=.one (.eo cs y (off+q.1))) ⟨b,o',u1,u2,by rw[Nat.add_assoc],u4⟩ hk
 ·cases hk
theorem qZ {x:Operand} (ho:o.op=.nilCheck x) (h:Rel ω a w s) (hd:∀d,o.dst=some d->d<a.tmps.size) {Φ:bR->Option (Callee real (Option R))}
  (hk:bl E (aO R) Φ o s k=some r):o.wp P a w (Ends ω a w o.dst k r) Q:=by
 have hx:=bT h E 0 x;unfold bl at hk;simp only[ho]at hk;have hex:∀ad,a.eval x=.pointer (some ad)->(execOp a.eval o).run P w=.ok (.value (.pointer (some ad))) w:=by intro ad hz;unfold execOp;simp[ho,hz]
 generalize ev E s 0 x=tx at hx hk;generalize hv:a.eval x=v at hx hex;split at hk
 ·rename_i id g off;obtain⟨cells,h3,hk⟩:=aA hk;obtain⟨e1,e2⟩:=cY h3;obtain⟨b,f8,f9⟩:=hx.2 e1 cells e2;exact bE h hd (by rw[hex _ f9,<-f9]) hx hk
 ·rename_i id g hh p j off;obtain⟨c,h3,hk⟩:=aA hk;have hm:c.md≠0:=by intro e;rw[e]at hk;cases hk
  rw[k9 hm]at hk;obtain⟨u1,u2,⟨b,f8,f9⟩,u3⟩:=hx.2.2 c h3 hm;exact bE h hd (by rw[hex _ f9,<-f9]) hx hk
 ·rename_i cs y off;obtain⟨b,o',u1,u2,u3,u4⟩:=hx;exact bE h hd (by rw[hex _ u3,<-u3]) (t:=.one (.eo cs y off)) ⟨b,o',u1,u2,u3,u4⟩ hk
 ·cases hk
end
end Go.R
namespace Go.R
section
variable {R:Type} {P:Program} {E:Env} {ω:aK} {a:Act} {w:World} {s:S} {k:S->Option R} {r:R} {o:Oper} {Q:Exit->Act->World->Prop}
theorem j5(hE:cm P E){t e:Nat}{cs:aJ}(hs:E.nB t=some (e,cs))(b off n c:Nat)(i:Int)(h0:0<=i)(h1:i<(n:Int)):
  (Instr.indexAt t (.slice (some ⟨b,off,none⟩) n c) (.int .i64 i)).run P w=.ok (.pointer (some ⟨b,off+i.toNat*cs.len,none⟩)) w:=by
 obtain⟨hu,j,I,d,hj,hcs,ok⟩:=ij hE hs;have hsz:I.size=cs.len:=by rw[ok.size,hcs]
 simp[Instr.indexAt,asIntOf,run_underlying hu,h0,h1,sizeOf,typeInfo,ok.info,hsz,Addr.add_mid]
theorem Aa{α:Type}{x:List α}{i:Int}(h:ah x i=true):0<=i/\i<(x.length:Int):=by unfold ah at h;rw[Bool.and_eq_true]at h;exact⟨of_decide_eq_true h.1,of_decide_eq_true h.2⟩
theorem uy{e:Nat}{cs:aJ}{v:Value}{x:List cs.T}(h:(Ty.sl e cs).R w ω .cz v x){i:Int}(h0:0<=i)(h1:i<(x.length:Int)):
  ∃b off c,v=.slice (some ⟨b,off,none⟩) x.length c/\ω b=none/\b<w.heap.size/\cs.R w ω (fun _=>.cz) (fun j=>w.cell? ⟨b,off+i.toNat*cs.len+j,none⟩) 0 (ae (k7 cs) x i):=by
 obtain⟨ad,n,c,e1,e2,e3,e4,e5⟩:=h;subst e2;obtain⟨b,off,f1,f2,f3⟩:=e4 (by omega);subst f1;exact⟨b,off,c,e1,f2,f3,e5 i.toNat _ (by omega) rfl⟩
theorem qv (hE:cm P E) {t:Nat} {x ix:Operand} (ho:o.op=.indexAddr t x ix) (h:Rel ω a w s) (hd:∀d,o.dst=some d->d<a.tmps.size) {Φ:bR->Option (Callee real (Option R))}
  (hk:bl E (aO R) Φ o s k=some r):o.wp P a w (Ends ω a w o.dst k r) Q:=by
 have hx:=bT h E t x;have hi:=bT h E 3 ix;unfold bl at hk;simp only[ho]at hk;obtain⟨(i:Int),h1,hk⟩:=aA hk;obtain⟨⟨e,cs⟩,h2,hk⟩:=aA hk;have Fm:=hO h1 hi;have hex:∀z,(Instr.indexAt t (a.eval x) (.int .i64 i)).run P w=.ok z w->(execOp a.eval o).run P w=.ok (.value z) w:=by intro z hz;unfold execOp;simp only[ho,Fm];rw[Sem.run_bind,hz];rfl
 generalize ev E s t x=tx at hx hk;generalize hv:a.eval x=v at hx hex;split at hk
 ·rename_i e' cs' y;cases hb:aJ.beq cs cs' with
  |false=>simp only[hb]at hk;cases hk
  |true=>
   simp only[hb,cond_true]at hk;obtain rfl:=aJ.eq_of_beq hb;have hk':(bif ah y i then k (s.cg o.dst (.one (.eo cs (real.get (e:=e') y i) 0)))else none)=some r:=hk;cases hr:ah y i with
   |false=>rw[hr]at hk';cases hk'
   |true=>rw[hr]at hk';obtain⟨h0,h1'⟩:=Aa hr;obtain⟨b,off,c,f1,f2,f3,f4⟩:=uy hx h0 h1';subst f1;exact bE h hd (hex _ (j5 hE h2 b off _ c i h0 h1')) (t:=.one (.eo cs (real.get (e:=e') y i) 0)) ⟨b,_,f2,f3,rfl,f4⟩ hk'
 ·rename_i id g hh p;obtain⟨c,h3,cJ⟩:=aA hk;clear hk;cases hb:aJ.beq cs c.cs with
  |false=>simp only[hb]at cJ;cases cJ
  |true=>
   simp only[hb,cond_true]at cJ;obtain rfl:=aJ.eq_of_beq hb;have hk':(bif ah c.x i then(bif Nat.beq c.md 0 then k (s.cg o.dst (.one (.eo c.cs (real.get c.x i) 0)))else k (s.cg o.dst (.one (.cf id g hh p i 0))))else none)=some r:=cJ;cases hr:ah c.x i with
   |false=>rw[hr]at hk';cases hk'
   |true=>
    rw[hr]at hk';simp only[cond_true]at hk';obtain⟨h0,h1'⟩:=Aa hr;have hR:=hx.2.2 c h3;by_cases hm:c.md=0
    ·rw[hm]at hk' hR;obtain⟨b,off,cp,f1,f2,f3,f4⟩:=uy hR h0 h1';subst f1;exact bE h hd (hex _ (j5 hE h2 b off _ cp i h0 h1')) (t:=.one (.eo c.cs (real.get c.x i) 0)) ⟨b,_,f2,f3,rfl,f4⟩ hk'
    ·rw[k9 hm]at hk';obtain⟨b,arr,cp,g1,g2,g3,g4,g5,us,u1,u2,u3⟩:=p6 h3 hm hR i h0 h1';subst g5;refine bE h hd (hex _ (j5 hE h2 b 0 _ cp i h0 h1')) (t:=.one (.cf id g hh p i 0)) ⟨hx.1,hx.2.1,fun c' dY hm'=>?_⟩ hk';rw[h3]at dY;injection dY with dY
     subst dY;exact⟨h0,h1',⟨b,g1,by simp;rfl⟩,_,hR⟩
 ·cases hk
theorem pL(hE:cm P E){t:Nat}(h:kD E t=true):P.underlying t=some .string:=by
 unfold kD at h;split at h
 ·rename_i i hi;obtain⟨I,d,ok⟩:=hE.ti _ _ hi;rw[Bool.and_eq_true]at h;obtain⟨h1,h2⟩:=h;have hc:i.cs=.cons .str .nil:=by
   split at h1
   ·rename_i e;exact e
   ·cases h1
  rw[ok.AY,ok.Ey hc (by simpa using h2)]
 ·cases h
theorem Ac{t:ck}{kk:IntKind}{i:Int}{v:Value}(h:Ab t=some (⟨kk,i⟩:Sigma fun k=>real.V (.int k)))(hr:df w ω s v t):v=.int kk i:=by
 unfold Ab at h;split at h
 ·injection h with h
  injection h with e1 e2
  subst e1;subst e2;exact hr
 ·cases h
theorem wz (hE:cm P E) {t:Nat} {x ix:Operand} (ho:o.op=.index t x ix) (h:Rel ω a w s) (hd:∀d,o.dst=some d->d<a.tmps.size) {Φ:bR->Option (Callee real (Option R))}
  (hk:bl E (aO R) Φ o s k=some r):o.wp P a w (Ends ω a w o.dst k r) Q:=by
 have hx:=bT h E t x;have hi:=bT h E 3 ix;unfold bl at hk;simp only[ho]at hk;cases hb:kD E t with
 |false=>rw[hb]at hk;cases hk
 |true=>
  rw[hb]at hk;simp only[cond_true]at hk;obtain⟨⟨ik,(i:Int)⟩,h1,hk⟩:=aA hk;obtain⟨(y:ByteArray),h2,hk⟩:=aA hk;have Fm:=Ac h1 hi;have yQ:=xj h2 hx;have hu:=pL hE hb;have hk':(bif kO y i then k (s.cg o.dst (.one (.val (.int .u8) (gh y i))))else none)=some r:=hk;cases hr:kO y i with
  |false=>rw[hr]at hk';cases hk'
  |true=>
   rw[hr]at hk';unfold kO at hr;rw[Bool.and_eq_true]at hr;have h0:=of_decide_eq_true hr.1;have h3:=of_decide_eq_true hr.2;have hlt:i.toNat<y.size:=by omega
   refine bE h hd (v:=.int .u8 (gh y i)) ?_ (t:=.one (.val (.int .u8) (gh y i))) rfl hk';unfold execOp;simp[ho,yQ,Fm,Instr.index,asIntOf,run_underlying hu,h0,gh,hlt]
theorem uc{t:ck}{v:Value}{c:Cont real}(h:hJ s t=some c)(hr:df w ω s v t):∃ad cp,v=.slice ad (List.length c.x) cp/\List.length c.x<=cp:=by
 unfold hJ at h;split at h
 ·injection h with h
  subst h;obtain⟨ad,n,cp,e1,e2,e3,_⟩:=hr;subst e2;exact⟨ad,cp,e1,e3⟩
 ·injection h with h
  subst h;obtain⟨ad,e1⟩:=hr;exact⟨ad,0,e1,Nat.le_refl _⟩
 ·obtain⟨ad,n,cp,e1,e2,e3,_⟩:=hr.2.2 c h;subst e2;exact⟨ad,cp,e1,e3⟩
 ·cases h
theorem eF {b:Builtin} {args:Array Operand} {fC:Array Nat} (ho:o.op=.call ⟨.builtin b,args,fC⟩) {z:Next} {w':World}
  (h:(builtin b fC o.type (args.map fun| .const _=>true|_=>false) (args.map a.eval)).run P w=.ok z w'):(execOp a.eval o).run P w=.ok z w':=by
 unfold execOp;simp only[ho,resolve];rw[Sem.run_bind];exact h
theorem HI{α β:Type}(xs:Array α)(ys:Array β){γ:Type}(f:α×β->γ){l:List γ}(h:(xs.toList.zip ys.toList).map f=l):True:=trivial
theorem wB (hE:cm P E) {b:Builtin} {args:Array Operand} {fC:Array Nat} (ho:o.op=.call ⟨.builtin b,args,fC⟩) (hb:b=.len\/b=.min\/b=.max) (hsz:args.size=fC.size) (h:Rel ω a w s) (hd:∀d,o.dst=some d->d<a.tmps.size) {Φ:bR->Option (Callee real (Option R))}
  (hk:bl E (aO R) Φ o s k=some r):o.wp P a w (Ends ω a w o.dst k r) Q:=by
 unfold bl at hk;have z6:Nat.beq args.size fC.size=true:=by rw[hsz];exact Nat.beq_refl _
 simp only[ho,z6,cond_true]at hk;obtain⟨args⟩:=args;obtain⟨fC⟩:=fC;simp only at hk hsz;have pJ:args.length=fC.length:=by simpa using hsz
 rcases hb with rfl|rfl|rfl
 ·match args,fC,pJ with
  | [x],[t],_=>
   have hx:=bT h E t x;simp only[List.zip_cons_cons,List.zip_nil_right,List.map_cons,List.map_nil,dy]at hk;cases hb:kD E t with
   |true=>rw[hb]at hk;simp only[cond_true]at hk;obtain⟨(y:ByteArray),h2,hk⟩:=aA hk;have yQ:=xj h2 hx;refine bE h hd (v:=.int .i64 (y.size:Int)) ?_ (t:=.one (.val (.int .i64) (real.Db y))) rfl hk;refine eF ho ?_;simp[builtin,Builtin.len_,run_underlying (pL hE hb),yQ,goInt]
   |false=>rw[hb]at hk;simp only[cond_false]at hk;obtain⟨⟨e,cs⟩,h1,hk⟩:=aA hk;obtain⟨c,h2,hk⟩:=aA hk;obtain⟨ad,cp,e1,_⟩:=uc h2 hx;refine bE h hd (v:=.int .i64 (List.length c.x:Int)) ?_ (t:=.one (.val (.int .i64) (real.len c.x))) rfl hk;refine eF ho ?_;simp[builtin,Builtin.len_,run_underlying (ij hE h1).1,e1,goInt]
  | [],[],_=>cases hk
  |_::_::_,_::_::_,_=>cases hk
 ·match args,fC,pJ with
  | [x,y],[t,t'],_=>have hx:=bT h E t x;have hy:=bT h E t' y;simp only[List.zip_cons_cons,List.zip_nil_right,List.map_cons,List.map_nil,dy]at hk;obtain⟨(m:Int),h1,hk⟩:=aA hk;obtain⟨(n:Int),h2,hk⟩:=aA hk;have yQ:=hO h1 hx;have FE:=hO h2 hy;refine bE h hd (v:=.int .i64 (bI false m n)) ?_ (t:=.one (.val (.int .i64) (real.AB false .i64 m n))) rfl hk;refine eF ho ?_;simp[builtin,Builtin.min_,Builtin.min2,yQ,FE,bI]
  | [],[],_=>cases hk
  | [_],[_],_=>cases hk
  |_::_::_::_,_::_::_::_,_=>cases hk
 ·match args,fC,pJ with
  | [x,y],[t,t'],_=>have hx:=bT h E t x;have hy:=bT h E t' y;simp only[List.zip_cons_cons,List.zip_nil_right,List.map_cons,List.map_nil,dy]at hk;obtain⟨(m:Int),h1,hk⟩:=aA hk;obtain⟨(n:Int),h2,hk⟩:=aA hk;have yQ:=hO h1 hx;have FE:=hO h2 hy;refine bE h hd (v:=.int .i64 (bI true m n)) ?_ (t:=.one (.val (.int .i64) (real.AB true .i64 m n))) rfl hk;refine eF ho ?_;simp[builtin,Builtin.max_,Builtin.max2,yQ,FE,bI]
  | [],[],_=>cases hk
  | [_],[_],_=>cases hk
  |_::_::_::_,_::_::_::_,_=>cases hk
end
end Go.R
namespace Go.R
section
variable {R:Type} {P:Program} {E:Env} {ω:aK} {a:Act} {w:World} {s:S} {k:S->Option R} {r:R} {o:Oper} {Q:Exit->Act->World->Prop}
theorem w7{id g:Nat}{q:Sigma fun k=>real.V (.sl 0 (aJ.mp k))}(h:sX s id g=some q):(s.ob id).g=g/\(s.ob id).o=.mp q.1 q.2:=by
 unfold sX at h;cases hb:Nat.beq (s.ob id).g g with
 |false=>rw[hb]at h;cases h
 |true=>
  rw[hb]at h;simp only[cond_true]at h;refine⟨Nat.eq_of_beq_eq_true hb,?_⟩;split at h
  ·rename_i k x ho;injection h with h
   subst h;exact ho
  ·cases h
theorem sj{v:Value}{l:L}(h:cw w ω s v l)(hs:eW s l=true):v.oneCell'=true/\v.cells = #[v]:=by
 cases l with
 |val t x=>
  cases t with
  |sl e cs=>obtain⟨ad,n,c,e1,_⟩:=h;subst e1;exact⟨rfl,rfl⟩
  |int k=>have:v=.int k x:=h;subst this;exact⟨rfl,rfl⟩
  |bool=>have:v=.bool x:=h;subst this;exact⟨rfl,rfl⟩
  |str=>have:v=.string x:=h;subst this;exact⟨rfl,rfl⟩
 |eR e cs=>obtain⟨ad,e1⟩:=h;subst e1;exact⟨rfl,rfl⟩
 |ref id g hh p=>unfold eW at hs;obtain⟨c,hc⟩:=Option.isSome_iff_exists.1 hs;obtain⟨ad,n,cp,e1,_⟩:=h.2.2 c hc;subst e1;exact⟨rfl,rfl⟩
 |ptr id g off=>unfold eW at hs;obtain⟨cells,hc⟩:=Option.isSome_iff_exists.1 hs;obtain⟨e1,e2⟩:=cY hc;obtain⟨b,_,e3⟩:=h.2 e1 cells e2;subst e3;exact⟨rfl,rfl⟩
 |cf id g hh p i off=>
  simp only[eW]at hs;cases hc:s.cont id g hh p with
  |none=>rw[hc]at hs;cases hs
  |some c=>
   rw[hc]at hs;have hm:c.md≠0:=by intro e;simp only[e]at hs;cases hs
   obtain⟨_,_,⟨b,_,e3⟩,_⟩:=h.2.2 c hc hm;subst e3;exact⟨rfl,rfl⟩
 |eo cs x off=>obtain⟨b,o',_,_,e3,_⟩:=h;subst e3;exact⟨rfl,rfl⟩
 |fn f aM=>obtain⟨cv,e1,_⟩:=h;subst e1;exact⟨rfl,rfl⟩
 |cS id g=>simp only[eW]at hs;obtain⟨q,hc⟩:=Option.isSome_iff_exists.1 hs;obtain⟨e1,e2⟩:=w7 hc;obtain⟨b,es,c,_,e3,_⟩:=h.2 e1 q.1 q.2 e2;subst e3;exact⟨rfl,rfl⟩
 |BU _ _=>cases hs
 |undef=>cases hs
 |dead=>cases hs
theorem iG{v:Value}{t:ck}{ls:List L}(h:df w ω s v t)(hc:cells? s t=some ls):
  bi (cw w ω s) v.cells.toList ls/\(∀u∈v.cells.toList,u.oneCell'=true)/\(∀l∈ls,eW s l=true):=by
 unfold cells? at hc;cases t with
 |one l=>
  cases hs:eW s l with
  |false=>simp only[hs]at hc;cases hc
  |true=>
   simp only[hs,cond_true]at hc;injection hc with hc
   subst hc;obtain⟨h1,h2⟩:=sj h hs;rw[h2];exact⟨⟨h,trivial⟩,by simpa using h1,by simpa using hs⟩
 |agg BN=>
  simp only at hc;cases hs:BN.all (eW s)with
  |false=>rw[hs]at hc;cases hc
  |true=>
   rw[hs]at hc;injection hc with hc
   subst hc;obtain⟨us,e1,hu⟩:=h;subst e1;have hall:=List.all_eq_true.1 hs;refine⟨by simpa[Value.cells] using hu,?_,hall⟩;have key:∀(us:List Value) (ls:List L),bi (cw w ω s) us ls->(∀l∈ls,eW s l=true)->∀u∈us,u.oneCell'=true:=by
    intro us;induction us with
    |nil=>intro ls _ _ u hu;cases hu
    |cons v vs ih=>
     intro ls h2 hall u hu;cases ls with
     |nil=>exact h2.elim
     |cons l ls=>
      cases hu with
      |head=>exact(sj h2.1 (hall l (by simp))).1
      |tail _ hm=>exact ih ls h2.2 (fun l' hl'=>hall l' (by simp[hl'])) u hm
   simpa[Value.cells] using key us BN hu hall
 |nE _=>cases hc
theorem yW:∀(t:Ty),cw w ω s (zeroOf t) (A3 real t)
 | .int _=>rfl
 | .bool=>rfl
 | .str=>rfl
 | .sl _ _=>⟨none,rfl⟩
theorem mV:∀(cs:aJ),bi (cw w ω s) (gG cs) (mN real cs)
 | .nil=>trivial
 | .cons t ts=>⟨yW t,mV ts⟩
theorem foldl_set(vs:List Value):∀(off m:Nat) (cs:Array Value),off+m+vs.length<=cs.size ->
  ((vs.zipIdx m).foldl (fun cs (c,j)=>cs.setIfInBounds (off+j) c) cs).toList=cs.toList.take (off+m)++vs++cs.toList.drop (off+m+vs.length):=by
 induction vs with
 |nil=>intro off m cs _;simp
 |cons v vs ih=>
  intro off m cs hle;simp only[List.length_cons]at hle;simp only[List.zipIdx_cons,List.foldl_cons];rw[ih off (m+1) _ (by simp;omega)];have hlt:off+m<cs.toList.length:=by simp;omega
  simp only[Array.toList_setIfInBounds];rw[List.take_set,List.drop_set_of_lt (by omega)];have e1:(cs.toList.take (off+(m+1))).set (off+m) v=cs.toList.take (off+m)++[v]:=by
   rw[show off+(m+1)=off+m+1 by omega,List.take_succ_eq_append_getElem hlt];rw[List.set_append_right _ _ (by simp;omega)];simp;have:off+m-min (off+m) cs.size=0:=by omega
   rw[this];rfl
  rw[e1];simp only[List.length_cons,List.append_assoc,List.cons_append,List.nil_append];congr 3;rw[show off+(m+1)+vs.length=off+m+(vs.length+1)by omega]
theorem wQ(h:Rel ω a w s){fM:List (Nat×Nat×Bool)}(places:Nat->Option (Nat×Nat))(hp:∀(i:Nat) q,fM[i]? = some q->places i=some (q.1,q.2.1)):
  ∀(parts:List (Nat×Operand)) (cs:List L) (arr:Array Value) (ls:List L),bi (cw w ω s) arr.toList cs->fL fM E s parts cs=some ls ->
   ∃bS,Instr.fill places arr (parts.map fun p=>(p.1,a.eval p.2))=some bS/\bi (cw w ω s) bS.toList ls
 | [],cs,arr,ls,h2,hf=>by
  injection hf with hf
  subst hf;exact⟨arr,rfl,h2⟩
 |(i,x)::parts,cs,arr,ls,h2,hf=>by
  simp only[fL]at hf;cases hq:fM[i]? with
  |none=>rw[hq]at hf;cases hf
  |some q=>
   obtain⟨off,n,ag⟩:=q;rw[hq]at hf;simp only at hf;cases hc:cells? s (ev E s 0 x)with
   |none=>rw[hc]at hf;cases hf
   |some v=>
    rw[hc]at hf;simp only at hf;cases hb:Nat.beq v.length n&&Nat.ble (off+n) cs.length with
    |false=>rw[hb]at hf;cases hf
    |true=>
     rw[hb]at hf;simp only[cond_true]at hf;rw[Bool.and_eq_true]at hb;have hn:=Nat.eq_of_beq_eq_true hb.1;have hle:=Nat.le_of_ble_eq_true hb.2;obtain⟨hv,_,_⟩:=iG (bT h E 0 x) hc;have pF:=hv.length;have vL:=h2.length;have hsz:(a.eval x).cells.size=n:=by rw[<-hn,<-pF];simp
     have hle':off+(a.eval x).cells.toList.length<=arr.size:=by
      have:arr.size=cs.length:=by rw[<-vL];simp
      rw[this,pF,hn];exact hle
     have nQ:=foldl_set (a.eval x).cells.toList off 0 arr (by simpa using hle');have CU:(a.eval x).cells.zipIdx.foldl (fun cs (c,j)=>cs.setIfInBounds (off+j) c) arr=((a.eval x).cells.toList.zipIdx 0).foldl (fun cs (c,j)=>cs.setIfInBounds (off+j) c) arr:=by rw[<-Array.foldl_toList];congr 1;simp
     obtain⟨bS,g1,g2⟩:=wQ h places hp parts _ (((a.eval x).cells.toList.zipIdx 0).foldl (fun cs (c,j)=>cs.setIfInBounds (off+j) c) arr) ls (by rw[nQ];simp only[Nat.add_zero];rw[pF,hn];exact((h2.take off).ir hv).ir (h2.drop (off+n))) hf;refine⟨bS,?_,g2⟩;simp only[List.map_cons,Instr.fill];rw[hp i _ hq];simp only[hsz];have Gf:¬(off+n>arr.size):=by
      have:(a.eval x).cells.toList.length=n:=by rw[pF,hn]
      omega
     rw[if_neg (by simp;omega)];rw[CU];exact g1
theorem sD {t:Nat} {i:TI} {I:TypeInfo} {d:TypeDesc} (ok:tI P t i I d) (hg:i.agg=true) (parts:List (Nat×Value)) {arr:Array Value}
  (hf:∀z:Value,I.zero=some z->Instr.fill ((i.fM.map fun q=>(q.1,q.2.1)).toArray[·]?) z.cells parts=some arr):P.built t parts=some arr:=by
 obtain⟨fs,g1,g2,g3⟩:=ok.fM hg;obtain⟨z,hz,_⟩:=ok.zero;have BB:fs.toList.mapM (fun f=>(P.info? f.type).map fun i=>(f.offset,i.size))=some (i.fM.map fun q=>(q.1,q.2.1)):=by
  have key:∀(l:List Field) (q:List (Nat×Nat×Bool)),l.length=q.length->(∀(f:Nat) p,q[f]? = some p->∃F FI,l[f]? = some F/\F.offset=p.1/\P.info? F.type=some FI/\FI.size=p.2.1) ->
    l.mapM (fun f=>(P.info? f.type).map fun i=>(f.offset,i.size))=some (q.map fun p=>(p.1,p.2.1)):=by
   intro l;induction l with
   |nil=>intro q hl _;cases q with|nil=>simp|cons _ _=>cases hl
   |cons F l ih=>
    intro q hl hq;cases q with
    |nil=>cases hl
    |cons p q=>obtain⟨F',FI,e1,e2,e3,e4⟩:=hq 0 p rfl;simp at e1;subst e1;have:=ih q (by simpa using hl) (fun f p' EP=>by simpa using hq (f+1) p' (by simpa using EP));simp[List.mapM_cons,e3,this,e2,e4]
  refine key fs.toList i.fM (by simpa using g2) (fun f p hp=>?_);obtain⟨F,FI,Fd,f1,f2,f3,f4,_⟩:=g3 f p hp;exact⟨F,FI,by simpa using f1,f2,f3,f4⟩
 unfold Program.built;subst g1;rw[ok.info,ok.AY];simp only[hz,BB];exact hf z hz
theorem wx (hE:cm P E) {t:Nat} {parts:Array (Nat×Operand)} (ho:o.op=.build t parts) (h:Rel ω a w s) (hd:∀d,o.dst=some d->d<a.tmps.size) {Φ:bR->Option (Callee real (Option R))}
  (hk:bl E (aO R) Φ o s k=some r):o.wp P a w (Ends ω a w o.dst k r) Q:=by
 unfold bl at hk;simp only[ho]at hk;obtain⟨i,h1,hk⟩:=aA hk;obtain⟨I,d,ok⟩:=hE.ti _ _ h1;cases hg:i.agg with
 |false=>rw[hg]at hk;cases hk
 |true=>
  rw[hg]at hk;simp only[cond_true]at hk;obtain⟨ls,h2,hk⟩:=aA hk;obtain⟨z,hz,BH⟩:=ok.zero;obtain⟨bS,g1,g2⟩:=wQ h ((i.fM.map fun q=>(q.1,q.2.1)).toArray[·]?) (fun j q hq=>by simp[hq]) parts.toList _ z.cells ls (by rw[BH];exact mV i.cs) h2;have hb:P.built t (parts.map fun(i,x)=>(i,a.eval x)).toList=some bS:=sD ok hg _ (fun z' Bc=>by
   rw[hz]at Bc;injection Bc with Bc
   subst Bc;rw[<-g1];congr 1;simp)
  refine bE h hd (v:=.agg bS) ?_ (t:=.agg ls) ⟨bS.toList,by simp,g2⟩ hk;unfold execOp;simp only[ho];rw[Sem.run_bind,run_build w t _ bS hb];rfl
end
end Go.R
namespace Go.R
section
variable {R:Type} {P:Program} {E:Env} {ω:aK} {a:Act} {w:World} {s:S} {k:S->Option R} {r:R} {o:Oper} {Q:Exit->Act->World->Prop}
structure Passes (ω:aK) (a:Act) (w:World) (s:S) (aI:aK) (s':S):Prop where
 rel:Rel aI a w s'
 ext:dK ω w aI w
 tr:∀id,Tr w ω s w aI s' id
theorem Passes.refl(h:Rel ω a w s):Passes ω a w s ω s:=⟨h,dK.refl _ _,fun _=>Tr.mD h.dom rfl⟩
theorem Tr.trans{w1 w2:World}{bc bW:aK}{s1 s2:S}{id:Nat}(h:Tr w ω s w1 bc s1 id)(h':Tr w1 bc s1 w2 bW s2 id):Tr w ω s w2 bW s2 id where
 ref v g hh p x:=h'.ref v g hh p (h.ref v g hh p x)
 ptr v g off x:=h'.ptr v g off (h.ptr v g off x)
 cf v g hh p i off x:=h'.cf v g hh p i off (h.cf v g hh p i off x)
 cS v g x:=h'.cS v g (h.cS v g x)
theorem Passes.trans{bc bW:aK}{s1 s2:S}(h:Passes ω a w s bc s1)(h':Passes bc a w s1 bW s2):Passes ω a w s bW s2:=⟨h'.rel,h.ext.trans h'.ext,fun id=>(h.tr id).trans (h'.tr id)⟩
theorem p7(h:Rel ω a w s){t:Ty}{l:L}{v:Value}{x:t.T}{s':S}(hl:cw w ω s v l)(hp:bU (A:=real) false t l s=some (x,s')):
  ∃aI,Passes ω a w s aI s'/\t.R w aI .cz v x/\((s'=s/\aI=ω)\/∃id e cs dp y,(s.ob id).o=.arr e cs dp y/\s'=s.bM id true (.cz e cs y)/\aI=ω.drop id):=by
 cases l with
 |val u y=>
  have key:∃hb:Ty.beq u t=true,x=real.cast hb y/\s'=s:=by cases u <;> simp only[bU,cond_false]at hp <;> split at hp <;> first|(cases hp;done)|(rename_i hb;injection hp with hp;injection hp with h1 h2;exact⟨hb,h1.symm,h2.symm⟩)
  obtain⟨hb,rfl,rfl⟩:=key;obtain rfl:=Ty.eq_of_beq hb;exact⟨ω,Passes.refl h,hl,.inl ⟨rfl,rfl⟩⟩
 |eR e cs=>
  cases t with
  |sl e' cs'=>
   simp only[bU]at hp;split at hp
   ·rename_i hb;injection hp with hp
    injection hp with h1 h2
    subst h1;subst h2;have:=Ty.eq_of_beq hb;injection this with e1 e2
    subst e1;subst e2;obtain⟨ad,e1⟩:=hl;exact⟨ω,Passes.refl h,⟨ad,0,0,e1,rfl,Nat.le_refl _,fun hn=>absurd hn (by omega),fun i xw hi=>absurd hi (by omega)⟩,.inl ⟨rfl,rfl⟩⟩
   ·cases hp
  |_=>cases hp
 |ref id g hh p=>
  cases p with
  |cons _ _=>cases t <;> cases hp
  |nil=>
   simp only[bU]at hp;cases hg:Nat.beq (s.ob id).g g with
   |false=>rw[hg]at hp;cases hp
   |true=>
    rw[hg]at hp;simp only[cond_true]at hp;have hge:=Nat.eq_of_beq_eq_true hg;cases bX:(s.ob id).o with
    |arr e cs dp y=>
     rw[bX]at hp;simp only[cond_false]at hp;split at hp
     ·rename_i hb;injection hp with hp
      injection hp with h1 h2
      subst h1;subst h2;obtain rfl:=Ty.eq_of_beq hb;have hne:id≠0:=h.qO (by rw[bX];exact fun e=>by cases e);have tr:=kA (s:=s) hne h.dom bX true;refine⟨ω.drop id,⟨h.freeze bX true,bZ _ _ _ hne,tr⟩,?_,.inr ⟨id,e,cs,dp,y,bX,rfl,rfl⟩⟩;have hl':=(tr id).ref v g hh [] hl;have hc:(s.bM id true (.cz e cs y)).cont id g hh []=some ⟨e,cs,y,0⟩:=by unfold St.cont fU.cont;rw[St.aU];simp only;rw[hge,fV];rfl
      exact hl'.2.2 _ hc
     ·cases hp
    |cz e cs y=>
     rw[bX]at hp;simp only[cond_false]at hp;split at hp
     ·rename_i hb;injection hp with hp
      injection hp with h1 h2
      subst h1;subst h2;obtain rfl:=Ty.eq_of_beq hb;have hc:s.cont id g hh []=some ⟨e,cs,y,0⟩:=by unfold St.cont fU.cont;rw[hge,fV,bX];rfl
      exact⟨ω,Passes.refl h,hl.2.2 _ hc,.inl ⟨rfl,rfl⟩⟩
     ·cases hp
    |blk _=>rw[bX]at hp;cases hp
    |gone=>rw[bX]at hp;cases hp
    |mp _ _=>rw[bX]at hp;cases hp
 |_=>cases t <;> cases hp
theorem uJ(h:Rel ω a w s){t:Ty}{l:L}{v:Value}{x:t.T}{s':S}(hl:cw w ω s v l)(hp:bU (A:=real) false t l s=some (x,s')):
  ∃aI,Passes ω a w s aI s'/\t.R w aI .cz v x:=
 let ⟨aI,h1,h2,_⟩:=p7 h hl hp
 ⟨aI,h1,h2⟩
theorem qb:∀(cs:aJ) (ls:List L) (us:List Value) (ω:aK) (s:S) (x:cs.T) (s':S),Rel ω a w s->bi (cw w ω s) us ls->eS (A:=real) false cs ls s=some (x,s') ->
  ∃aI,Passes ω a w s aI s'/\∀(j:Nat) (g:Nat->Option Value),(∀k u,us[k]? = some u->g (j+k)=some u)->cs.R w aI (fun _=>.cz) g j x
 | .nil,[],us,ω,s,x,s',h,_,hp=>by
  injection hp with hp
  injection hp with _ h2
  subst h2;exact⟨ω,Passes.refl h,fun _ _ _=>trivial⟩
 | .cons t ts,l::ls,[],_,_,_,_,_,h2,_=>h2.elim
 | .cons t ts,l::ls,u::us,ω,s,x,s',h,h2,hp=>by
  simp only[eS]at hp;cases h1:bU (A:=real) false t l s with
  |none=>rw[h1]at hp;cases hp
  |some q=>
   obtain⟨y,s1⟩:=q;rw[h1]at hp;simp only at hp;cases h3:eS (A:=real) false ts ls s1 with
   |none=>rw[h3]at hp;cases hp
   |some q2=>
    obtain⟨ys,s2⟩:=q2;rw[h3]at hp;simp only at hp;injection hp with hp
    injection hp with e1 e2
    subst e1;subst e2;obtain⟨bc,p1,r1⟩:=uJ h h2.1 h1;obtain⟨bW,p2,r2⟩:=qb ts ls us bc s1 ys s2 p1.rel (h2.2.mono fun _ _ hl=>cw.frame p1.ext p1.tr hl) h3;refine⟨bW,p1.trans p2,fun j g hg=>?_⟩;have hh:kC (kM (t:=t) (ts:=ts) y ys)=y:=kR _ _;have ht:jD (kM (t:=t) (ts:=ts) y ys)=ys:=kX _ _;refine⟨⟨u,by simpa using hg 0 u rfl,?_⟩,?_⟩
    ·show t.R w bW .cz u (kC (kM y ys));rw[hh];exact Ty.cD (Nat.le_refl _) t .cz u y p2.ext.keeps r1
    ·show ts.R w bW _ g (j+1) (jD (kM y ys));rw[ht];exact r2 (j+1) g (fun k u' oo=>by have:=hg (k+1) u' (by simpa using oo);rwa[show j+(k+1)=j+1+k by omega]at this)
 | .nil,_::_,_,_,_,_,_,_,_,hp=>by cases hp
 | .cons _ _,[],_,_,_,_,_,_,_,hp=>by cases hp
theorem eL.alloc(w:World)(o:Obj):eL w (w.alloc o):=eL.push w o
theorem fK(w:World)(o:Obj):(w.alloc o).heap.size=w.heap.size+1:=by show(w.heap.push o).size=_;simp
theorem Da(t:Nat)(v:Value):(newVar t v).run P w=.ok ⟨w.heap.size,0,none⟩ (w.alloc (.cells v.cells t)):=rfl
theorem yg{t:Nat}{i:TI}{I:TypeInfo}{d:TypeDesc}(ok:tI P t i I d){z:Value}(hz:I.zero=some z)(old:Value):
  (Instr.alloc t true old).run P w=.ok (.pointer (some ⟨w.heap.size,0,none⟩)) (w.alloc (.cells z.cells t)):=by
 have FF:(zeroValue t).run P w=.ok z w:=by simp[zeroValue,typeInfo,ok.info,hz]
 unfold Instr.alloc;rw[Sem.run_bind,FF];cases old with
 |pointer p=>cases p <;> rfl
 |_=>rfl
theorem ug (h:Rel ω a w s) (hd:∀d,o.dst=some d->d<a.tmps.size) {arr:Array Value} {T:Nat} {cells:List L} {id:Nat} (h0:id≠0) (hc:bi (cw w ω s) arr.toList cells)
  (hk:k ((s.new id (.blk cells)).cg o.dst (.one (.ptr id ((s.new id (.blk cells)).ob id).g 0)))=some r):
  Ends ω a w o.dst k r (a.put o.dst (.pointer (some ⟨w.heap.size,0,none⟩))) (w.alloc (.cells arr T)):=by
 have hsz:w.heap.size<(w.alloc (.cells arr T)).heap.size:=by rw[fK];omega
 have hR:=h.fresh (id:=id) h0 (eL.alloc w (.cells arr T)) (Nat.le_refl _) hsz (.blk cells) (fun cells' dY=>⟨arr,T,heap_alloc_new w _,by injection dY with dY;subst dY;exact hc⟩);refine dV hR (eG h0 (eL.alloc w _) (Nat.le_refl _)) hd (t:=.one (.ptr id ((s.new id (.blk cells)).ob id).g 0)) ⟨Nat.le_refl _,fun _ cells' _=>⟨w.heap.size,aK.eZ _ _ _,rfl⟩⟩ hk
theorem ww (hE:cm P E) {t:Nat} (ho:o.op=.alloc t) (h:Rel ω a w s) (hd:∀d,o.dst=some d->d<a.tmps.size) {Φ:bR->Option (Callee real (Option R))}
  (hk:bl E (aO R) Φ o s k=some r):o.wp P a w (Ends ω a w o.dst k r) Q:=by
 unfold bl at hk;simp only[ho]at hk;obtain⟨i,h1,hk⟩:=aA hk;obtain⟨I,d,ok⟩:=hE.ti _ _ h1;obtain⟨z,hz,BH⟩:=ok.zero;refine fa (v:=.pointer (some ⟨w.heap.size,0,none⟩)) (w':=w.alloc (.cells z.cells t)) ?_ (ug h hd (dj _ _ _) (arr:=z.cells) (T:=t) (by rw[BH];exact mV i.cs) hk);unfold execOp;simp only[ho];rw[Sem.run_bind,yg ok hz];rfl
theorem AS (hE:cm P E) {t:Nat} {x:Operand} (ho:o.op=.box t x) (h:Rel ω a w s) (hd:∀d,o.dst=some d->d<a.tmps.size) {Φ:bR->Option (Callee real (Option R))}
  (hk:bl E (aO R) Φ o s k=some r):o.wp P a w (Ends ω a w o.dst k r) Q:=by
 have hx:=bT h E t x;unfold bl at hk;simp only[ho]at hk;obtain⟨i,h1,hk⟩:=aA hk;obtain⟨ls,h2,hk⟩:=aA hk;obtain⟨hc,_,_⟩:=iG hx h2;have hrun:(execOp a.eval o).run P w=.ok (.value (.pointer (some ⟨w.heap.size,0,none⟩))) (w.alloc (.cells (a.eval x).cells t)):=by unfold execOp;simp only[ho];rfl
 cases hb:Nat.beq ls.length i.cs.len with
 |false=>rw[hb]at hk;cases hk
 |true=>
  rw[hb]at hk;simp only[cond_true]at hk;cases hro:E.ro (o.dst.getD 0)with
  |false=>rw[hro]at hk;exact fa hrun (ug h hd (dj _ _ _) hc hk)
  |true=>
   rw[hro]at hk;simp only[cond_true]at hk;obtain⟨⟨y,s1⟩,h3,hk⟩:=aA hk;obtain⟨bc,p1,r1⟩:=qb i.cs ls _ ω s y s1 h hc h3;have hg:=eL.alloc w (.cells (a.eval x).cells t);have he:=hg.ext bc;have hnone:bc w.heap.size=none:=by
    cases hq:bc w.heap.size with
    |none=>rfl
    |some kk=>exact absurd (p1.rel.dom _ _ hq) (by omega)
   refine fa hrun (dV (p1.rel.world he hg.block) (p1.ext.trans he) hd (t:=.one (.eo i.cs y 0)) ⟨w.heap.size,0,hnone,by rw[fK];omega,rfl,?_⟩ hk);refine aJ.cD he.size i.cs _ _ _ 0 _ (fun _=>he.keeps) (fun _=>rfl) (r1 0 _ (fun j u hu=>?_));rw[Nat.zero_add,Nat.zero_add,cell_of_row _ _ _ _ t (0,0) (heap_alloc_new w _)];simpa using hu
end
end Go.R
namespace Go.R
section
variable {R:Type} {P:Program} {E:Env} {ω:aK} {a:Act} {w:World} {s:S} {k:S->Option R} {r:R} {o:Oper} {Q:Exit->Act->World->Prop}
theorem Av(z:Array Value)(n i j:Nat)(hi:i<n)(hj:j<z.size):(madeCells z (n*z.size))[i*z.size+j]? = z[j]?:=by
 have hlt:i*z.size+j<n*z.size:=by have:(i+1)*z.size<=n*z.size:=Nat.mul_le_mul_right _ hi;rw[Nat.succ_mul]at this;omega
 unfold madeCells;rw[Array.getElem?_map,Array.getElem?_range];rw[if_pos hlt];have hm:(i*z.size+j) % z.size=j:=by rw[Nat.mul_comm,Nat.mul_add_mod];exact Nat.mod_eq_of_lt hj
 simp[hm,hj]
theorem BW:∀(t:Ty) (md:Md),t.R w ω md (zeroOf t) (zeroV real t)
 | .int _,_=>rfl
 | .bool,_=>rfl
 | .str,_=>rfl
 | .sl e cs,md=>⟨none,0,0,rfl,rfl,Nat.le_refl _,(by
   cases md with
   |cz=>exact fun h=>absurd h (by omega)
   |flat _=>exact .inl ⟨rfl,rfl⟩
   |deep _=>exact .inl ⟨rfl,rfl⟩),fun i ad hi=>absurd hi (by omega)⟩
theorem u9:∀(cs:aJ) (md:Nat->Md) (j:Nat) (g:Nat->Option Value),(∀k u,(gG cs)[k]? = some u->g (j+k)=some u)->cs.R w ω md g j (fc real cs)
 | .nil,_,_,_,_=>trivial
 | .cons t ts,md,j,g,hg=>by
  have hh:kC (kM (t:=t) (ts:=ts) (zeroV real t) (fc real ts))=zeroV real t:=kR _ _;have ht:jD (kM (t:=t) (ts:=ts) (zeroV real t) (fc real ts))=fc real ts:=kX _ _;refine⟨⟨zeroOf t,by simpa[gG] using hg 0 _ rfl,?_⟩,?_⟩
  ·show t.R w ω _ _ (kC (kM (zeroV real t) (fc real ts)));rw[hh];exact BW t _
  ·show ts.R w ω _ g (j+1) (jD (kM (zeroV real t) (fc real ts)));rw[ht];exact u9 ts md (j+1) g (fun k u hu=>by have:=hg (k+1) u (by simpa[gG] using hu);rwa[show j+(k+1)=j+1+k by omega]at this)
theorem sZ {w1:World} {bc:aK} {s1:S} (h:Rel bc a w1 s1) (he:dK ω w bc w1) (hd:∀d,o.dst=some d->d<a.tmps.size) {e:Nat} {cs:aJ} {dp:Bool} {x:List cs.T} {arr:Array Value} {id c:Nat} (h0:id≠0) (hn:x.length<=c) (hsz:arr.size=c*cs.len)
  (hel:∀(i:Nat),i<x.length->cs.R (w1.alloc (.cells arr e)) (bc.fresh id w1.heap.size) ((bj (bif dp then 2 else 1) id []).inner i) (fun j=>arr[i*cs.len+j]?) 0 (x.getD i (k7 cs)))
  (hk:k ((s1.new id (.arr e cs dp x)).cg o.dst (.one (.ref id ((s1.new id (.arr e cs dp x)).ob id).g 0 [])))=some r):
  Ends ω a w o.dst k r (a.put o.dst (.slice (some ⟨w1.heap.size,0,none⟩) x.length c)) (w1.alloc (.cells arr e)):=by
 have hg:=eL.alloc w1 (.cells arr e);have hlt:w1.heap.size<(w1.alloc (.cells arr e)).heap.size:=by rw[fK];omega
 have hR:=h.fresh (id:=id) h0 hg (Nat.le_refl _) hlt (.arr e cs dp x) (fun cells' dY=>by cases dY);refine dV hR (he.trans (eG h0 hg (Nat.le_refl _))) hd (t:=.one (.ref id ((s1.new id (.arr e cs dp x)).ob id).g 0 [])) ⟨Nat.le_refl _,by simp,fun c' dY=>?_⟩ hk;have ho:((s1.new id (.arr e cs dp x)).ob id).o=.arr e cs dp x:=by unfold St.new;rw[St.aX]
 rw[cr ho rfl]at dY;injection dY with dY
 subst dY;refine⟨some ⟨w1.heap.size,0,none⟩,x.length,c,rfl,rfl,hn,?_,fun i ad hi had=>?_⟩
 ·have:(w1.alloc (.cells arr e)).heap[w1.heap.size]? = some (.cells arr e (0,0)):=heap_alloc_new w1 _;cases dp with
  |true=>exact .inr ⟨w1.heap.size,arr,rfl,this,hsz,aK.eZ _ _ _⟩
  |false=>exact .inr ⟨w1.heap.size,arr,rfl,this,hsz,aK.eZ _ _ _⟩
 ·injection had with had
  subst had;have:=hel i hi;refine aJ.cD (Nat.le_refl _) cs _ _ _ 0 _ (fun j b hb hk=>⟨rfl,rfl⟩) (fun j=>?_) this;rw[Nat.zero_add];exact cell_of_row _ _ _ arr e (0,0) (heap_alloc_new w1 _)
theorem AL{α:Type}(n:Int)(y z:α)(i:Nat)(h:i<n.toNat):(cW n y).getD i z=y:=by unfold cW;rw[List.getD_eq_getElem?_getD,List.getElem?_replicate,if_pos h];rfl
theorem Dn{n:Int}(h:0<=n):((n.toNat:Nat):Int)=n:=Int.toNat_of_nonneg h
theorem qw (hE:cm P E) {t:Nat} {n c:Operand} (ho:o.op=.makeSlice t n c) (h:Rel ω a w s) (hd:∀d,o.dst=some d->d<a.tmps.size) {Φ:bR->Option (Callee real (Option R))}
  (hk:bl E (aO R) Φ o s k=some r):o.wp P a w (Ends ω a w o.dst k r) Q:=by
 have hn:=bT h E 3 n;unfold bl at hk;simp only[ho]at hk;obtain⟨⟨e,cs⟩,h1,hk⟩:=aA hk;obtain⟨(m:Int),h2,hk⟩:=aA hk;have Gn:=hO h2 hn;have hsame:oC n c=true:=by
  cases hb:oC n c with
  |true=>rfl
  |false=>simp only[hb]at hk;cases hk
 simp only[hsame,cond_true]at hk;have GX:a.eval c=.int .i64 m:=by
  rw[<-Gn];unfold oC at hsame;split at hsame
  ·rw[Nat.eq_of_beq_eq_true hsame]
  ·rw[Bool.and_eq_true]at hsame;rw[of_decide_eq_true hsame.1,of_decide_eq_true hsame.2]
  ·cases hsame
 have hk':(bif cI m then k ((s.new (aZ (o.dst.getD 0) 0 0) (.arr e cs (E.deep (o.dst.getD 0)) (cW m (fc real cs)))).cg o.dst (.one (.ref (aZ (o.dst.getD 0) 0 0) ((s.new (aZ (o.dst.getD 0) 0 0) (.arr e cs (E.deep (o.dst.getD 0)) (cW m (fc real cs)))).ob (aZ (o.dst.getD 0) 0 0)).g 0 [])))else none)=some r:=hk;cases hr:cI m with
 |false=>rw[hr]at hk';cases hk'
 |true=>
  rw[hr]at hk';simp only[cond_true]at hk';unfold cI limit at hr;rw[Bool.and_eq_true]at hr;have h0:0<=m:=of_decide_eq_true hr.1;have hle:m<=1073741824:=of_decide_eq_true hr.2;obtain⟨hu,j,I,d,hj,hcs,ok⟩:=ij hE h1;obtain⟨z,hz,BH⟩:=ok.zero;have hzs:z.cells.size=cs.len:=by rw[<-Array.length_toList,BH,fD,hcs]
  have hsz:I.size=cs.len:=by rw[ok.size,hcs]
  have hb:=ok.bpos;have hbytes:=ok.bytes;have hmul:(I.bytes:Int)*m<=281474976710656:=by
   have h1:(I.bytes:Int)<=65536:=by rw[hbytes];exact Int.ofNat_le.2 hb.2
   have h2:(I.bytes:Int)*m<=65536*m:=Int.mul_le_mul_of_nonneg_right h1 h0;omega
  have hrun:=run_make (P:=P) w t e I z hu ok.info hz .i64 .i64 m m h0 (Int.le_refl _) hmul (by omega);rw[hsz]at hrun;have hlen:(cW m (fc real cs):List cs.T).length=m.toNat:=by unfold cW;exact List.length_replicate
  refine fa (v:=.slice (some ⟨w.heap.size,0,none⟩) m.toNat m.toNat) (w':=w.alloc (.cells (madeCells z.cells (m.toNat*cs.len)) e)) ?_ ?_
  ·unfold execOp;simp only[ho,Gn,GX];rw[Sem.run_bind,hrun];rfl
  ·have:=sZ (ω:=ω) (w:=w) (arr:=madeCells z.cells (m.toNat*cs.len)) (x:=(cW m (fc real cs):List cs.T)) (c:=m.toNat) h (dK.refl _ _) hd (dj _ _ _) (by rw[hlen];exact Nat.le_refl _) (size_madeCells _ _) (fun i hi=>?_) hk'
   ·rw[hlen]at this;exact this
   ·have hg:(cW m (fc real cs):List cs.T).getD i (k7 cs)=fc real cs:=by
     rw[hlen]at hi;exact AL _ _ _ _ hi
    rw[hg];refine u9 cs _ 0 _ (fun j u hj=>?_);rw[hlen]at hi;have hlt:j<z.cells.size:=by have:=(List.getElem?_eq_some_iff.1 hj).1;rw[fD]at this;omega
    have hm:=Av z.cells m.toNat i j hi hlt;rw[hzs]at hm;rw[Nat.zero_add,hm];rw[<-hcs]at hj;rw[<-BH]at hj;simpa using hj
end
end Go.R
namespace Go.R
section
variable {R:Type} {P:Program} {E:Env} {ω:aK} {a:Act} {w:World} {s:S} {k:S->Option R} {r:R} {o:Oper} {Q:Exit->Act->World->Prop}
theorem flat_get{α:Type}(n:Nat):∀(ls:List (List α)),(∀l∈ls,l.length=n)->∀(i j:Nat) (l:List α),ls[i]? = some l->j<n->ls.flatten[i*n+j]? = l[j]?
 | [],_,i,j,l,hi,_=>by simp at hi
 |l0::ls,hl,0,j,l,hi,hj=>by simp at hi;subst hi;have:l0.length=n:=hl l0 (by simp);simp only[Nat.zero_mul,Nat.zero_add,List.flatten_cons];rw[List.getElem?_append_left (by omega)]
 |l0::ls,hl,i+1,j,l,hi,hj=>by
  have h0:l0.length=n:=hl l0 (by simp);simp only[List.flatten_cons];have e:(i+1)*n+j=n+(i*n+j):=by rw[Nat.succ_mul];omega
  rw[List.getElem?_append_right (by rw[h0,e];omega),h0,e,Nat.add_sub_cancel_left];exact flat_get n ls (fun l hl'=>hl l (by simp[hl'])) i j l (by simpa using hi) hj
theorem nM{α:Type}(n:Nat):∀(ls:List (List α)),(∀l∈ls,l.length=n)->ls.flatten.length=ls.length*n
 | [],_=>by simp
 |l0::ls,hl=>by simp only[List.flatten_cons,List.length_append,List.length_cons];rw[nM n ls (fun l hl'=>hl l (by simp[hl'])),hl l0 (by simp),Nat.succ_mul];omega
theorem rX:∀(cs:aJ) (ls:List L) (s1 s2:S) (el:cs.T),eS (A:=real) false cs ls s1=some (el,s2)->ls.length=cs.len
 | .nil,[],_,_,_,_=>rfl
 | .nil,_::_,_,_,_,h=>by cases h
 | .cons _ _,[],_,_,_,h=>by cases h
 | .cons t ts,l::ls,s1,s2,el,h=>by
  simp only[eS]at h;cases h1:bU (A:=real) false t l s1 with
  |none=>rw[h1]at h;cases h
  |some q=>
   obtain⟨y,s3⟩:=q;rw[h1]at h;simp only at h;cases h2:eS (A:=real) false ts ls s3 with
   |none=>rw[h2]at h;cases h
   |some q2=>obtain⟨ys,s4⟩:=q2;simp only[List.length_cons,aJ.len];rw[rX ts ls s3 s4 ys h2]
theorem rS{e:Nat}{cs:aJ}:∀(os:List Operand) (x0:List cs.T) (bc:aK) (s1:S) (x:List cs.T) (s2:S),Rel ω a w s->Passes ω a w s bc s1->gp (A:=real) E s e cs os x0 s1=some (x,s2) ->
  ∃bW,Passes bc a w s1 bW s2/\∃els:List cs.T,x=x0++els/\els.length=os.length/\(∀o∈os,(a.eval o).cells.toList.length=cs.len) /\
   ∀(i:Nat) (el:cs.T) (o:Operand),els[i]? = some el->os[i]? = some o->cs.R w bW (fun _=>.cz) (fun j=>(a.eval o).cells.toList[j]?) 0 el
 | [],x0,bc,s1,x,s2,_,p,h=>by
  injection h with h
  injection h with h1 h2
  subst h1;subst h2;exact⟨bc,Passes.refl p.rel,[],by simp,rfl,by simp,by simp⟩
 |q::os,x0,bc,s1,x,s2,h0,p,h=>by
  simp only[gp]at h;cases hc:cells? s (ev E s 0 q)with
  |none=>rw[hc]at h;cases h
  |some ls=>
   rw[hc]at h;simp only at h;cases hp:eS (A:=real) false cs ls s1 with
   |none=>rw[hp]at h;cases h
   |some z=>
    obtain⟨el,s1'⟩:=z;rw[hp]at h;simp only at h;obtain⟨hv,_,_⟩:=iG (bT h0 E 0 q) hc;obtain⟨F0,p1,r1⟩:=qb cs ls _ bc s1 el s1' p.rel (hv.mono fun _ _ hl=>cw.frame p.ext p.tr hl) hp;obtain⟨bW,p2,els,e1,e2,e3,e4⟩:=rS os (List.append (α:=cs.T) x0 [el]) F0 s1' x s2 h0 (p.trans p1) h;have hlen:ls.length=cs.len:=by exact rX cs ls _ _ _ hp
    refine⟨bW,p1.trans p2,el::els,by rw[e1];exact List.append_assoc x0 [el] els,by show els.length+1=os.length+1;rw[e2],?_,?_⟩
    ·intro q' lR;cases lR with
     |head=>rw[hv.length,hlen]
     |tail _ hm=>exact e3 q' hm
    ·intro i EI q' hi lR;cases i with
     |zero=>have hi':el=EI:=Option.some.inj hi;have Fv:q=q':=Option.some.inj lR;subst hi';subst Fv;exact aJ.cD (Nat.le_refl _) cs _ _ _ 0 _ (fun _=>p2.ext.keeps) (fun _=>rfl) (r1 0 _ (fun k u hu=>by rw[Nat.zero_add];exact hu))
     |succ i=>exact e4 i EI q' hi lR
theorem vR:∀(m:Nat) (l:List Nat),hY m l=true->∀(i n:Nat),l[i]? = some n->n=m+i
 |_,[],_,i,n,h=>by simp at h
 |m,x::r,hr,i,n,h=>by
  simp only[hY,Bool.and_eq_true]at hr;cases i with
  |zero=>simp at h;rw[<-h,<-Nat.eq_of_beq_eq_true hr.1];rfl
  |succ i=>have:=vR (m+1) r hr.2 i n (by simpa using h);omega
theorem pu(n:Nat)(arr:Array Value):∀(parts:List (Nat × Value)) (m:Nat) (done:List Value) (cur:Array Value), hY m (parts.map (·.1)) = true -> (∀p ∈ parts, p.2.cells.toList.length = n) ->
    done.length = m * n -> cur.size = (m + parts.length) * n -> cur.toList = done ++ cur.toList.drop (m * n) ->
    ∃c7, Instr.fill (fun i=>some (i * n, n)) cur parts = some c7 /\ c7.toList = done ++ (parts.map fun p=>p.2.cells.toList).flatten
  | [], m, done, cur, _, _, hd, hs, hc=>by
    refine⟨cur, rfl, ?_⟩;have:cur.toList.length = m * n:=by simpa using hs
    rw[hc, List.drop_of_length_le (by omega)];simp
  |(j, v):: parts, m, done, cur, hr, hn, hd, hs, hc=>by
    simp only[List.map_cons, hY, Bool.and_eq_true]at hr;obtain rfl:=Nat.eq_of_beq_eq_true hr.1;have hv:v.cells.toList.length = n:=hn (m, v) (by simp);have hvs:v.cells.size = n:=by simpa using hv
    simp only[List.length_cons]at hs;have hsz:cur.size = m * n + n + parts.length * n:=by rw[hs, Nat.add_mul, Nat.add_mul, Nat.one_mul]; omega
    have nQ:=foldl_set v.cells.toList (m * n) 0 cur (by rw[hv]; omega);simp only[Nat.add_zero]at nQ;have DS:cur.toList.take (m * n) = done:=by rw[hc, List.take_append_of_le_length (by omega), List.take_of_length_le (by omega)]
    rw[DS, hv]at nQ;have CU:v.cells.zipIdx.foldl (fun cs (c, j)=>cs.setIfInBounds (m * n + j) c) cur = (v.cells.toList.zipIdx 0).foldl (fun cs (c, j)=>cs.setIfInBounds (m * n + j) c) cur:=by rw[<- Array.foldl_toList];congr 1;simp
    have hlen':((v.cells.toList.zipIdx 0).foldl (fun cs (c, j)=>cs.setIfInBounds (m * n + j) c) cur).size = cur.size:=by rw[<- Array.length_toList, nQ];simp only[List.length_append, List.length_drop, Array.length_toList, hd, hvs];omega
    obtain⟨c7, g1, g2⟩:=pu n arr parts (m + 1) (done ++ v.cells.toList) ((v.cells.toList.zipIdx 0).foldl (fun cs (c, j)=>cs.setIfInBounds (m * n + j) c) cur) hr.2 (fun p hp=>hn p (by simp[hp]))
      (by rw[List.length_append, hd, hv, Nat.succ_mul]) (by rw[hlen', hsz, Nat.add_mul, Nat.succ_mul]) (by
        rw[nQ];have DR:(done ++ v.cells.toList).length = (m + 1) * n:=by rw[List.length_append, hd, hv, Nat.succ_mul]
        rw[<- DR, List.drop_left])
    refine⟨c7, ?_, by rw[g2]; simp⟩;simp only[Instr.fill];rw[if_neg (by simp[hvs]; omega), CU];exact g1
theorem aJ.fm:∀(cs:aJ) (md:Nat->Md) (g g':Nat->Option Value) (j:Nat) (x:cs.T),(∀k,k<cs.len->g' (j+k)=g (j+k))->cs.R w ω md g j x->cs.R w ω md g' j x
 | .nil,_,_,_,_,_,_,_=>trivial
 | .cons t ts,md,g,g',j,x,hg,h=>by obtain⟨⟨v,h1,h2⟩,h3⟩:=h;refine⟨⟨v,(hg 0 (by simp[aJ.len])).trans h1,h2⟩,aJ.fm ts md g g' (j+1) _ (fun k hk=>?_) h3⟩;have:=hg (k+1) (by simp[aJ.len,hk]);rwa[show j+(k+1)=j+1+k by omega]at this
theorem ot (w:World) (t e:TypeId) (len:Nat) (parts:Array (Nat×Value)) (cells:Array Value) (ie:TypeInfo)
  (hu:P.underlying t=some (.slice e)) (hie:P.info? e=some ie) (h0:len*ie.size=0)
  (h:Instr.fill (fun i=>some (i*ie.size,ie.size)) #[] parts.toList=some cells):
  (Instr.buildSlice t len parts).run P w=.ok (.slice (some ⟨w.heap.size,0,none⟩) len len) (w.alloc (.cells cells e)):=by
 have he:(Array.map (fun _:Nat=>(default:Value)) (Array.range 0)) = #[]:=by apply Array.eq_empty_of_size_eq_zero;simp
 simp[Instr.buildSlice,run_underlying hu,sizeOf,typeInfo,hie,h0,newRow,he,h]
theorem getD_some{α:Type}{l:List α}{i:Nat}{z y:α}(h:l[i]? = some y):l.getD i z=y:=by rw[List.getD_eq_getElem?_getD,h];rfl
theorem jd{α:Type}{l:List α}{i:Nat}(h:i<l.length):∃y,l[i]? = some y:=⟨l[i],List.getElem?_eq_getElem h⟩
end
end Go.R
namespace Go.R
section
variable {R:Type} {P:Program} {E:Env} {ω:aK} {a:Act} {w:World} {s:S} {k:S->Option R} {r:R} {o:Oper} {Q:Exit->Act->World->Prop}
structure mU (w w':World) (b:Nat):Prop where
 os:w'.os=w.os
 tape:w'.tape=w.tape
 output:w'.output=w.output
 size:w'.heap.size=w.heap.size
 block:∀c,c≠b->w'.heap[c]? = w.heap[c]?
theorem mU.refl(w:World)(b:Nat):mU w w b:=⟨rfl,rfl,rfl,rfl,fun _ _=>rfl⟩
theorem mU.trans{w w' w'':World}{b:Nat}(h:mU w w' b)(h':mU w' w'' b):mU w w'' b:=⟨h'.os.trans h.os,h'.tape.trans h.tape,h'.output.trans h.output,h'.size.trans h.size,fun c hc=>(h'.block c hc).trans (h.block c hc)⟩
theorem uQ{b o' T:Nat}{arr:Array Value}{z:Nat×Nat}{v:Value}(h:w.heap[b]? = some (.cells arr T z)):
  (w.setCell ⟨b,o',none⟩ v).heap[b]? = some (.cells (arr.setIfInBounds o' v) T z):=by
 simp[World.setCell,Array.getElem?_modify,h]
theorem uP(b o':Nat)(v:Value):mU w (w.setCell ⟨b,o',none⟩ v) b:=⟨rfl,rfl,rfl,by simp[World.setCell],fun c hc=>by simp[World.setCell,Array.getElem?_modify,Ne.symm hc]⟩
theorem dQ(b:Nat):∀(vs:List Value) (o':Nat) (w:World),mU w (w.setCells b o' vs) b
 | [],_,w=>mU.refl w b
 |v::vs,o',w=>(uP b o' v).trans (dQ b vs (o'+1) _)
theorem dW(b T:Nat)(z:Nat×Nat):∀(vs:List Value) (o':Nat) (w:World) (arr:Array Value),w.heap[b]? = some (.cells arr T z)->o'+vs.length<=arr.size ->
  ∃bS,(w.setCells b o' vs).heap[b]? = some (.cells bS T z)/\bS.toList=arr.toList.take o'++vs++arr.toList.drop (o'+vs.length)
 | [],o',w,arr,h,_=>⟨arr,h,by simp⟩
 |v::vs,o',w,arr,h,hle=>by
  simp only[List.length_cons]at hle;obtain⟨bS,h1,h2⟩:=dW b T z vs (o'+1) _ _ (uQ (v:=v) (o':=o') h) (by simp;omega);refine⟨bS,h1,?_⟩;rw[h2];have hlt:o'<arr.toList.length:=by simp;omega
  simp only[Array.toList_setIfInBounds];rw[List.take_set,List.drop_set_of_lt (by omega)];have e1:(arr.toList.take (o'+1)).set o' v=arr.toList.take o'++[v]:=by
   rw[List.take_succ_eq_append_getElem hlt,List.set_append_right _ _ (by simp;omega)];simp;have:o'-min o' arr.size=0:=by omega
   rw[this];rfl
  rw[e1];simp only[List.length_cons,List.append_assoc,List.cons_append,List.nil_append];congr 3;rw[show o'+1+vs.length=o'+(vs.length+1)by omega]
theorem jZ{w':World}{b id id':Nat}(h0:id≠0)(pB:id'≠0)(hb:ω b=some (id,[]))(hp:mU w w' b):dK ω w (ω.fresh id' b) w':=
 ⟨hp.os,hp.tape,hp.output,by rw[hp.size];exact Nat.le_refl _,fun c hc hn=>by
  have:c≠b:=fun e=>by subst e;exact hn.ne hb h0
  exact⟨hp.block c this,nO pB this hn⟩⟩
theorem fO{id:Nat}(ho:(s.ob id).o=.gone){g h:Nat}{p:jF}{c:Cont real}(hc:s.cont id g h p=some c):False:=by rw[iH ho]at hc;cases hc
theorem w6{w':World}{b id id':Nat}(h0:id≠0)(pB:id'≠0)(hd:∀b k,ω b=some k->b<w.heap.size)(hb:ω b=some (id,[]))(ho:(s.ob id).o=.gone)(hp:mU w w' b)(o:Ob real)(j:Nat):Tr w ω s w' (ω.fresh id' b) (s.new id' o) j:=by
 by_cases e:j=id'
 ·subst e;exact dm.tr (by unfold dm St.new;rw[St.aX];exact Nat.lt_succ_self _)
 ·have bX:(s.new id' o).ob j=s.ob j:=by unfold St.new;exact St.bB _ _ e
  by_cases e':j=id
  ·subst e';have cR:((s.new id' o).ob j).o=.gone:=by rw[bX];exact ho
   exact
   {ref:=fun v g h p hr=>⟨by rw[bX];exact hr.1,by rw[bX];exact hr.2.1,fun c hc=>(fO cR hc).elim⟩
    ptr:=fun v g off hr=>⟨by rw[bX];exact hr.1,fun _ cells hc=>by rw[cR]at hc;cases hc⟩
    cf:=fun v g h p i off hr=>⟨by rw[bX];exact hr.1,by rw[bX];exact hr.2.1,fun c hc=>(fO cR hc).elim⟩
    cS:=fun v g hr=>hr.shut (by rw[bX]) fun k x e=>by rw[cR]at e;cases e }
  ·refine gk.tr ⟨bX,fun c kk hc hk hj=>?_⟩ (jZ h0 pB hb hp) hd;have:c≠b:=fun ec=>by subst ec;rw[hb]at hk;injection hk with hk;subst hk;exact e' hj.symm
   exact⟨hp.block c this,by rw[hk];exact aK.fX this hk (by rw[hj];exact e)⟩
theorem Rel.Cg(h:Rel ω a w s){w':World}{b id id':Nat}(h0:id≠0)(pB:id'≠0)(hb:ω b=some (id,[]))(ho:(s.ob id).o=.gone)(hp:mU w w' b)(o:Ob real)(hno:∀cells,o≠.blk cells):
  Rel (ω.fresh id' b) a w' (s.new id' o) where
 HY:=h.HY.ext (jZ h0 pB hb hp)
 inj c c' kk h1 h2:=by
  rcases aK.fN h1 with ⟨e1,e2⟩|⟨e1,e2,e3⟩ <;> rcases aK.fN h2 with ⟨e4,e5⟩|⟨e4,e5,e6⟩
  ·rw[e1,e4]
  ·rw[e2]at e6;exact absurd rfl e6
  ·rw[e5]at e3;exact absurd rfl e3
  ·exact h.inj c c' kk e2 e5
 dom c kk h1:=by
  rw[hp.size];rcases aK.fN h1 with ⟨e1,_⟩|⟨_,e2,_⟩
  ·rw[e1];exact h.dom b _ hb
  ·exact h.dom c kk e2
 defers:=h.defers
 dN:=by
  have:(s.new id' o).ob 0=s.ob 0:=by unfold St.new;exact St.bB _ _ (Ne.symm pB)
  rw[this];exact h.dN
 slots i:=df.frame (jZ h0 pB hb hp) (w6 h0 pB h.dom hb ho hp o) (h.slots i)
 dx j cells hc:=by
  by_cases e:j=id'
  ·subst e;exact absurd (by simpa[St.new,St.aX] using hc) (hno cells)
  ·have bX:(s.new id' o).ob j=s.ob j:=by unfold St.new;exact St.bB _ _ e
   rw[bX]at hc;obtain⟨c,arr,T,h1,h2,h3⟩:=h.dx j cells hc;have hcb:c≠b:=fun ec=>by subst ec;rw[hb]at h1;injection h1 with h1;injection h1 with h1 _;subst h1;rw[ho]at hc;cases hc
   exact⟨c,arr,T,aK.fX hcb h1 e,(hp.block c hcb).trans h2,h3.mono fun _ _ hl=>cw.frame (jZ h0 pB hb hp) (w6 h0 pB h.dom hb ho hp o) hl⟩
theorem wK{id':Nat}(h0:id'≠0)(hd:∀b k,ω b=some k->b<w.heap.size)(o:Ob real)(j:Nat):Tr w ω s w (ω.drop id') (s.new id' o) j:=by
 by_cases e:j=id'
 ·subst e;exact dm.tr (by unfold dm St.new;rw[St.aX];exact Nat.lt_succ_self _)
 ·exact gk.tr ⟨by unfold St.new;exact St.bB _ _ e,fun b kk hb hk hj=>⟨rfl,by rw[hk];exact aK.dL hk (by rw[hj];exact e)⟩⟩ (bZ _ _ _ h0) hd
theorem Rel.bare(h:Rel ω a w s){id':Nat}(h0:id'≠0)(o:Ob real)(hno:∀cells,o≠.blk cells):Rel (ω.drop id') a w (s.new id' o) where
 HY:=h.HY.ext (bZ _ _ _ h0)
 inj b b' kk h1 h2:=h.inj b b' kk (aK.dB h1).1 (aK.dB h2).1
 dom b kk h1:=h.dom b kk (aK.dB h1).1
 defers:=h.defers
 dN:=by
  have:(s.new id' o).ob 0=s.ob 0:=by unfold St.new;exact St.bB _ _ (Ne.symm h0)
  rw[this];exact h.dN
 slots i:=df.frame (bZ _ _ _ h0) (wK h0 h.dom o) (h.slots i)
 dx j cells hc:=by
  by_cases e:j=id'
  ·subst e;exact absurd (by simpa[St.new,St.aX] using hc) (hno cells)
  ·have bX:(s.new id' o).ob j=s.ob j:=by unfold St.new;exact St.bB _ _ e
   rw[bX]at hc;obtain⟨c,arr,T,h1,h2,h3⟩:=h.dx j cells hc;exact⟨c,arr,T,aK.dL h1 e,h2,h3.mono fun _ _ hl=>cw.frame (bZ _ _ _ h0) (wK h0 h.dom o) hl⟩
theorem Ty.fQ{w':World}{aI:aK}{md md':Md}{v:Value}:∀ {t:Ty} {x:t.T},(∀e cs,t≠.sl e cs)->t.R w ω md v x->t.R w' aI md' v x
 | .int _,_,_,h=>h
 | .bool,_,_,h=>h
 | .str,_,_,h=>h
 | .sl e cs,_,hn,_=>absurd rfl (hn e cs)
theorem qg{t:Ty}{ts:aJ}(h:(aJ.cons t ts).plain=true):(∀e cs,t≠.sl e cs)/\ts.plain=true:=by
 cases t with
 |sl e cs=>cases h
 |_=>exact⟨fun _ _ e=>(by cases e),h⟩
theorem aJ.fQ{w':World}{aI:aK}:∀(cs:aJ) (md md':Nat->Md) (g:Nat->Option Value) (j:Nat) (x:cs.T),cs.plain=true->cs.R w ω md g j x->cs.R w' aI md' g j x
 | .nil,_,_,_,_,_,_,_=>trivial
 | .cons t ts,md,md',g,j,x,hp,h=>by obtain⟨⟨v,h1,h2⟩,h3⟩:=h;exact⟨⟨v,h1,Ty.fQ (qg hp).1 h2⟩,aJ.fQ ts md md' g (j+1) _ (qg hp).2 h3⟩
theorem Ty.Dv{md:Md}{v:Value}:∀ {t:Ty} {x:t.T},t.R w ω md v x->v.oneCell'=true
 | .int _,_,h=>by have:v=_:=h;subst this;rfl
 | .bool,_,h=>by have:v=_:=h;subst this;rfl
 | .str,_,h=>by have:v=_:=h;subst this;rfl
 | .sl _ _,_,h=>by obtain⟨_,_,_,h,_⟩:=h;subst h;rfl
theorem aJ.za:∀(cs:aJ) (md:Nat->Md) (g:Nat->Option Value) (j:Nat) (x:cs.T),cs.R w ω md g j x ->
  ∃us:List Value,us.length=cs.len/\∀k u,us[k]? = some u->g (j+k)=some u/\u.oneCell'=true
 | .nil,_,_,_,_,_=>⟨[],rfl,by simp⟩
 | .cons t ts,md,g,j,x,h=>by
  obtain⟨⟨v,h1,h2⟩,h3⟩:=h;obtain⟨us,e1,e2⟩:=aJ.za ts md g (j+1) _ h3;refine⟨v::us,by simp[aJ.len,e1],fun k u hu=>?_⟩;cases k with
  |zero=>simp at hu;subst hu;exact⟨h1,Ty.Dv h2⟩
  |succ k=>have:=e2 k u (by simpa using hu);rwa[show j+1+k=j+(k+1)by omega]at this
theorem ny{b off m:Nat}:∀(n:Nat),(∀i,i<n->∃us:List Value,us.length=m/\∀k u,us[k]? = some u->w.cell? ⟨b,off+i*m+k,none⟩=some u/\u.oneCell'=true) ->
  ∃news:List Value,news.length=n*m/\∀k u,news[k]? = some u->w.cell? ⟨b,off+k,none⟩=some u/\u.oneCell'=true
 |0,_=>⟨[],by simp,by simp⟩
 |n+1,h=>by
  obtain⟨news,h1,h2⟩:=ny n (fun i hi=>h i (by omega));obtain⟨us,h3,h4⟩:=h n (by omega);refine⟨news++us,by rw[List.length_append,h1,h3,Nat.succ_mul],fun k u hu=>?_⟩;by_cases hk:k<news.length
  ·rw[List.getElem?_append_left hk]at hu;exact h2 k u hu
  ·rw[List.getElem?_append_right (by omega)]at hu;have:=h4 _ u hu;rwa[show off+n*m+(k-news.length)=off+k by omega]at this
theorem yn{t:ck}{v:Value}{c:Cont real}(h:hJ s t=some c)(hr:df w ω s v t)(hok:c.md≠2\/c.cs.plain=true):
  ∃(ad:Option Addr) (cp:Nat) (news:List Value),v=.slice ad (List.length c.x) cp/\List.length c.x<=cp/\news.length=List.length c.x*c.cs.len/\(∀u∈news,u.oneCell'=true) /\
   (0<List.length c.x->∃b off,ad=some ⟨b,off,none⟩/\∀k u,news[k]? = some u->w.cell? ⟨b,off+k,none⟩=some u) /\
   ∀(i:Nat),i<List.length c.x->c.cs.R w ω (fun _=>.cz) (fun j=>news[i*c.cs.len+j]?) 0 (List.getD c.x i (k7 c.cs)):=by
 have key:∀(md:Md),(Ty.sl c.e c.cs).R w ω md v c.x->(∀i j,md.inner i j=.cz)\/c.cs.plain=true->∃(ad:Option Addr) (cp:Nat) (news:List Value),v=.slice ad (List.length c.x) cp/\List.length c.x<=cp/\news.length=List.length c.x*c.cs.len/\(∀u∈news,u.oneCell'=true) /\
   (0<List.length c.x->∃b off,ad=some ⟨b,off,none⟩/\∀k u,news[k]? = some u->w.cell? ⟨b,off+k,none⟩=some u) /\
   ∀(i:Nat),i<List.length c.x->c.cs.R w ω (fun _=>.cz) (fun j=>news[i*c.cs.len+j]?) 0 (List.getD c.x i (k7 c.cs)):=by
  intro md hR jH;obtain⟨ad,n,cp,e1,e2,e3,e4,e5⟩:=hR;subst e2;by_cases h0:List.length c.x=0
  ·refine⟨ad,cp,[],e1,e3,by rw[h0];simp,by simp,fun hp=>absurd hp (by omega),fun i hi=>absurd hi (by omega)⟩
  ·have hpos:0<List.length c.x:=Nat.pos_of_ne_zero h0;obtain⟨b,off,f1,f2,f3⟩:=e4.block hpos;obtain⟨news,g1,g2⟩:=ny (w:=w) (b:=b) (off:=off) (m:=c.cs.len) (List.length c.x) (fun i hi=>by obtain⟨us,u1,u2⟩:=aJ.za c.cs _ _ 0 _ (e5 i _ hi f1);exact⟨us,u1,fun k u hu=>by have:=u2 k u hu;simpa using this⟩);refine⟨ad,cp,news,e1,e3,g1,fun u hu=>?_,fun _=>⟨b,off,f1,fun k u hu=>(g2 k u hu).1⟩,fun i hi=>?_⟩
   ·obtain⟨k,hk,rfl⟩:=List.getElem_of_mem hu;exact(g2 k _ (List.getElem?_eq_getElem hk)).2
   ·have hrow:=e5 i _ hi f1;have Ea:c.cs.R w ω (fun _=>.cz) (fun j=>w.cell? ⟨b,off+i*c.cs.len+j,none⟩) 0 (List.getD c.x i (k7 c.cs)):=by
     rcases jH with jH|jH
     ·have:md.inner i=fun _=>.cz:=funext fun j=>jH i j;rw[this]at hrow;exact hrow
     ·exact aJ.fQ c.cs _ _ _ 0 _ jH hrow
    refine aJ.fm c.cs _ _ _ 0 _ (fun j hj=>?_) Ea;rw[Nat.zero_add];have hlt:i*c.cs.len+j<news.length:=by rw[g1];have:(i+1)*c.cs.len<=List.length c.x*c.cs.len:=Nat.mul_le_mul_right _ hi;rw[Nat.succ_mul]at this;omega
    have:=(g2 _ _ (List.getElem?_eq_getElem hlt)).1;rw[List.getElem?_eq_getElem hlt,<-this];rw[Nat.add_assoc]
 unfold hJ at h;split at h
 ·injection h with h
  subst h;exact key .cz hr (.inl fun _ _=>rfl)
 ·injection h with h
  subst h;obtain⟨ad,e1⟩:=hr;exact key .cz ⟨ad,0,0,e1,rfl,Nat.le_refl _,fun hn=>absurd hn (by omega),fun i _ hi=>absurd hi (by omega)⟩ (.inl fun _ _=>rfl)
 ·rename_i id g hh p;have hR:=hr.2.2 c h;refine key _ hR ?_;rcases hok with hok|hok
  ·rcases(kG h).2 with hm|hm|hm
   ·rw[hm];exact .inl fun _ _=>rfl
   ·rw[hm];exact .inl fun _ _=>rfl
   ·exact absurd hm hok
  ·exact .inr hok
 ·cases h
end
end Go.R

