import GoSem.Core.Code
import Derived.Lib.ItoaNum
import GoSem.Core.Region
import Derived.WalkKit
import Derived.Deep.Draws
import Derived.Deep.MidRow
import Derived.Deep.AppendSrc
import Derived.OwnWalk
import Derived.Great.BuildSlice
import Derived.Laws.MakeOwn
/- An abstract interpreter over the code of Go functions, proved sound once: what it answers, the code computes. Conditions: none. -/
set_option linter.all false
set_option maxRecDepth 4000
namespace Go.R
def aG:=@Option.some.inj
def aJ:=@cond_true
def az:=@Nat.le_refl
def aQ:=@Bool.and_eq_true
def bc:=@Nat.eq_of_beq_eq_true
def bn:=@Nat.le_of_ble_eq_true
def bC:=@Nat.zero_add
def cz:=@cond_false
def aW:=@List.mem_append
def dS:=@if_neg
def bR:=@of_decide_eq_true
def cj:=@if_pos
def cg:=@List.all_eq_true
def ck:=@List.mem_cons
def cZ:=@Option.map_some
def cK:=@List.length_eq_zero_iff
def cL:=@List.getElem?_eq_getElem
def c6:=@Nat.lt_of_lt_of_le
def cR:=@List.map_cons
def dB:=@Nat.mul_le_mul_right
def ed:=@Nat.le_of_lt
def dG:=@Ne.symm
def e9:=@List.append_nil
def eJ:=@List.mem_cons_of_mem
def fa:=@List.mem_map
def fm:=@Nat.le_add_right
def eK:=@Nat.le_trans
def fK:=@congrArg
def fL:=@Array.getElem?_toList
def fc:=@Array.getD_eq_getD_getElem?
def gd:=@Bool.or_eq_true
def gB:=@List.length_cons
def gf:=@List.length_set
def gh:=@Nat.add_mul
def gv:=@Array.length_toList
def gi:=@List.nil_append
def gL:=@List.all_cons
def gV:=@List.cons_append
def iA:=@List.find?_some
def iD:=@Nat.add_zero
def je:=@List.append_assoc
def iV:=@List.flatten_cons
def iM:=@List.getElem?_append_right
def jv:=@List.length_append
def jS:=@List.length_take
def iN:=@List.mem_of_find?_eq_some
def kE:=@Nat.le_succ
def kF:=@Nat.lt_succ_self
def kG:=@Nat.lt_trans
def kR:=@Nat.zero_le
def lY:=@List.map_nil
def lZ:=@List.mem_flatMap
def kH:=@List.mem_singleton
def l6:=@Nat.beq_refl
def kg:=@dif_pos
def kT:=@Array.getElem?_eq_some_iff
def mY:=@Array.size_append
def jw:=@Bool.not_eq_true'
def l7:=@Bool.not_true
def oo:=@Classical.byContradiction
def oq:=@List.any_eq_true
def mZ:=@List.drop_drop
def ot:=@List.drop_left'
def ou:=@List.flatMap_cons
def pW:=@List.getElem?_append_left
def pX:=@List.getElem?_drop
def pY:=@List.getElem?_take_of_lt
def pZ:=@List.mem_of_getElem?
def p6:=@List.take_left'
def pg:=@List.zip_cons_cons
def p7:=@List.zip_nil_right
def iO:=@Nat.lt_irrefl
def vg:=@Nat.lt_or_ge
def sA:=@Nat.sub_self
def qF:=@decide_eq_true_eq
def sQ:=@List.append_cancel_left
def sB:=@List.cons.injEq
def kU:=@List.getElem?_map
def vL:=@List.getElem_of_mem
def vh:=@List.length_map
def ow:=@List.mapM_cons
def vM:=@List.pairwise_cons
def vi:=@Nat.not_lt_zero
def vN:=@Nat.pos_of_ne_zero
def vO:=@Nat.succ_mul
def vP:=@Option.bind_some
def vQ:=@Option.isSome_iff_exists
def sR:=@Array.getElem?_append_left
def vk:=@Array.toList_setIfInBounds
def vR:=@List.getElem?_cons_zero
def za:=@List.getElem?_eq_some_iff
def xB:=@List.take_succ_eq_append_getElem
def CY:=@Option.bind_eq_some_iff
def Fp:List (Nat×Array Value):=[(0,(Lib.pow10Tab.map λz=>Value.int .u64 z).toArray)]
mutual
inductive Ty where
 |int (k:IntKind)
 |bool
 |str
 |map (k:IntKind)
 |sl (e:Nat) (cs:ar)
inductive ar where
 |nil
 |cons (t:Ty) (ts:ar)
end
mutual
def Ty.beq:Ty->Ty->Bool
 |.int a,.int b=>decide (a=b)
 |.bool,.bool=>true
 |.str,.str=>true
 |.map a,.map b=>decide (a=b)
 |.sl e d,.sl f c=>Nat.beq e f&&ar.beq d c
 |_,_=>false
def ar.beq:ar->ar->Bool
 |.nil,.nil=>true
 |.cons t ts,.cons u a=>Ty.beq t u&&ar.beq ts a
 |_,_=>false
end
mutual
theorem Ty.eq_of_beq:∀ {a b:Ty},Ty.beq a b=true->a=b
 |.int a,.int b,h=>by simp only[Ty.beq,qF]at h;rw[h]
 |.bool,.bool,_=>rfl
 |.str,.str,_=>rfl
 |.map a,.map b,h=>by simp only[Ty.beq,qF]at h;rw[h]
 |.sl e d,.sl f c,h=>by simp only[Ty.beq,aQ]at h;rw[bc h.1,ar.eq_of_beq h.2]
 |.int _,.bool,h=>by simp[Ty.beq]at h
 |.int _,.str,h=>by simp[Ty.beq]at h
 |.int _,.sl ..,h=>by simp[Ty.beq]at h
 |.bool,.int _,h=>by simp[Ty.beq]at h
 |.bool,.str,h=>by simp[Ty.beq]at h
 |.bool,.sl ..,h=>by simp[Ty.beq]at h
 |.str,.int _,h=>by simp[Ty.beq]at h
 |.str,.bool,h=>by simp[Ty.beq]at h
 |.str,.sl ..,h=>by simp[Ty.beq]at h
 |.sl ..,.int _,h=>by simp[Ty.beq]at h
 |.sl ..,.bool,h=>by simp[Ty.beq]at h
 |.sl ..,.str,h=>by simp[Ty.beq]at h
 |.map _,.int _,h=>by simp[Ty.beq]at h
 |.map _,.bool,h=>by simp[Ty.beq]at h
 |.map _,.str,h=>by simp[Ty.beq]at h
 |.map _,.sl ..,h=>by simp[Ty.beq]at h
 |.int _,.map _,h=>by simp[Ty.beq]at h
 |.bool,.map _,h=>by simp[Ty.beq]at h
 |.str,.map _,h=>by simp[Ty.beq]at h
 |.sl ..,.map _,h=>by simp[Ty.beq]at h
theorem ar.eq_of_beq:∀ {a b:ar},ar.beq a b=true->a=b
 |.nil,.nil,_=>rfl
 |.cons t ts,.cons u c,h=>by simp only[ar.beq,aQ]at h;rw[Ty.eq_of_beq h.1,ar.eq_of_beq h.2]
 |.nil,.cons ..,h=>by simp[ar.beq]at h
 |.cons ..,.nil,h=>by simp[ar.beq]at h
end
def ar.len:ar->Nat
 |.nil=>0
 |.cons _ ts=>ts.len+1
abbrev ar.mp(k:IntKind):ar:=.cons (.int k) (.cons .bool .nil)
def ar.plain:ar->Bool
 |.nil=>true
 |.cons (.sl ..) _=>false
 |.cons (.map _) _=>false
 |.cons _ ts=>ts.plain
structure nA where
 V:Ty->Type
 Vs:ar->Type
 zz:(k:IntKind)->Int->V (.int k)
 mj:Bool->V .bool
 Eo:ByteArray->V .str
 arith:BinOp->(k:IntKind)->V (.int k)->V (.int k)->V (.int k)
 shift:BinOp->(k j:IntKind)->V (.int k)->V (.int j)->V (.int k)
 isZero:(k:IntKind)->V (.int k)->V .bool
 DI:(k:IntKind)->V (.int k)->V .bool
 cmp:BinOp->(k:IntKind)->V (.int k)->V (.int k)->V .bool
 C9:V .bool->V .bool->V .bool
 Cq:V .bool->V .bool
 EY:V .bool->V .bool->V .bool
 neg:(k:IntKind)->V (.int k)->V (.int k)
 conv:(k j:IntKind)->V (.int k)->V (.int j)
 Co:Bool->(k:IntKind)->V (.int k)->V (.int k)->V (.int k)
 Fm:BinOp->V .str->V .str->V .bool
 Fl:V .str->V .str->V .str
 DQ:V .str->V .str->V .bool
 EC:V .str->V (.int .i64)
 Hu:(e:Nat)->V (.sl e (.cons (.int .u8) .nil))->V .str
 sin:(k:IntKind)->V .str->V (.int k)->V .bool
 Fo:(k:IntKind)->V .str->V (.int k)->V (.int .u8)
 kN:(e:Nat)->(cs:ar)->V (.sl e cs)
 len:{e:Nat}->{cs:ar}->V (.sl e cs)->V (.int .i64)
 small:{e:Nat}->{cs:ar}->V (.sl e cs)->V .bool
 GC:{e:Nat}->{cs:ar}->V (.sl e cs)->V (.int .i64)->V .bool
 get:{e:Nat}->{cs:ar}->V (.sl e cs)->V (.int .i64)->Vs cs
 put:{e:Nat}->{cs:ar}->V (.sl e cs)->V (.int .i64)->Vs cs->V (.sl e cs)
 push:{e:Nat}->{cs:ar}->V (.sl e cs)->Vs cs->V (.sl e cs)
 cat:{e:Nat}->{cs:ar}->V (.sl e cs)->V (.sl e cs)->V (.sl e cs)
 sub:{e:Nat}->{cs:ar}->V (.sl e cs)->V (.int .i64)->V (.int .i64)->V (.sl e cs)
 DR:{e:Nat}->{cs:ar}->V (.sl e cs)->V (.int .i64)->V (.int .i64)->V .bool
 GO:(e:Nat)->{cs:ar}->V (.int .i64)->Vs cs->V (.sl e cs)
 DO:V (.int .i64)->V .bool
 Ep:(k:IntKind)->V (.sl 0 (ar.mp k))->V (.int k)->V .bool
 Eu:(k:IntKind)->V (.sl 0 (ar.mp k))->V (.int k)->V .bool->V (.sl 0 (ar.mp k))
 Hr:(k:IntKind)->V (.sl 0 (ar.mp k))->V (.map k)
 GG:(k:IntKind)->V (.map k)->V (.int k)->V .bool
 Hs:(k:IntKind)->V (.map k)
 nl:Vs .nil
 cn:{t:Ty}->{ts:ar}->V t->Vs ts->Vs (.cons t ts)
 hd:{t:Ty}->{ts:ar}->Vs (.cons t ts)->V t
 tl:{t:Ty}->{ts:ar}->Vs (.cons t ts)->Vs ts
structure xy (A:nA) (M:Type) where
 cond:A.V .bool->M->M->M
 both:M->M->M
 fail:M
section
variable (A:nA)
inductive cU where
 |ptr (id g:Nat)
 |ro (cs:ar) (x:A.Vs cs)
inductive Lf where
 |val (t:Ty) (x:A.V t)
 |eI (e:Nat) (d:ar)
 |ref (id g h:Nat) (b:List (A.V (.int .i64)×Nat))
 |ptr (id g a:Nat)
 |bH (id g h:Nat) (b:List (A.V (.int .i64)×Nat)) (i:A.V (.int .i64)) (a:Nat)
 |ei (d:ar) (x:A.Vs d) (a:Nat)
 |fn (f:FuncId) (c:List (cU A))
 |cD (id g:Nat)
 |C4 (x:A.V .bool) (y:Bool)
 |undef
 |dead
inductive TV where
 |one (l:Lf A)
 |agg (ls:List (Lf A))
 |ol (cs:List (Bool×List (Lf A)))
 |pQ (i:Nat) (c:Bool×List (Lf A))      -- what the caller's slot i holds,for the while that the callee is walked within it
inductive Ob where
 |blk (cs:List (Lf A))
 |arr (e:Nat) (cs:ar) (deep:Bool) (x:A.V (.sl e cs))
 |bQ (e:Nat) (cs:ar) (x:A.V (.sl e cs))
 |mp (k:IntKind) (x:A.V (.sl 0 (ar.mp k)))
 |gone
structure fU where
 g:Nat
 h:Nat
 n:Nat
 o:Ob A
structure St where
 sl:Nat->TV A
 ob:Nat->fU A
end
variable {A:nA}
def nA.cast(A:nA){a b:Ty}(h:Ty.beq a b=true)(x:A.V a):A.V b:=(Ty.eq_of_beq h)▸x
def nA.BH(A:nA){a b:ar}(h:ar.beq a b=true)(x:A.Vs a):A.Vs b:=(ar.eq_of_beq h)▸x
def TV.dead:TV A:=.one .dead
def TV.undef:TV A:=.one .undef
def TV.mk(a:Bool)(ls:List (Lf A)):TV A:=
 match a,ls with
 |true,ls=>.agg ls
 |false,[l]=>.one l
 |false,_=>.dead
def TV.cells:TV A->List (Lf A)
 |.one l=>[l]
 |.agg ls=>ls
 |.ol _ |.pQ ..=>[]
def St.set(s:St A)(d:Nat)(v:TV A):St A:={ s with sl:=λi=>bif Nat.beq i d then v else s.sl i }
def St.bI(s:St A)(d:Option Nat)(v:TV A):St A:=match d with|some d=>s.set d v|none=>s
def St.zP(s:St A)(id:Nat)(o:fU A):St A:={ s with ob:=λi=>bif Nat.beq i id then o else s.ob i }
def St.new(s:St A)(id:Nat)(o:Ob A):St A:=s.zP id ⟨(s.ob id).g+1,0,0,o⟩
def St.gen(s:St A)(id:Nat):Nat:=(s.ob id).g
def St.bq(s:St A)(id:Nat)(a:Bool)(o:Ob A):St A:=s.zP id ⟨(s.ob id).g,bif a then(s.ob id).h+1 else(s.ob id).h,bif a then(s.ob id).n else(s.ob id).n+1,o⟩
def aD(d c j:Nat):Nat:=((d*32+c)*64+j).succ
structure TI where
 cs:ar
 agg:Bool
 bytes:Nat
 mh:List (Nat×Nat×Bool)     -- offset,cells,struct?
 el:Option Nat                    -- of a slice type: its element's type
structure Env where
 ti:Nat->Option TI
 deep:Nat->Bool
 trunc:Nat->Bool
 ro:Nat->Bool
 Fx:Nat->Bool                   -- '==' at this struct type is asked for
 mp:Nat->Option IntKind          -- a map of whole numbers of this kind to bools
 nt:Nat                           -- so many slots
def Env.nx(E:Env)(t:Nat):Option (Nat×ar):=
 match E.ti t with
 |some i=>match i.el with
  |some e=>match E.ti e with
   |some j=>some (e,j.cs)
   |none=>none
  |none=>none
 |none=>none
def zeroV(A:nA):(t:Ty)->A.V t
 |.int k=>A.zz k 0
 |.bool=>A.mj false
 |.str=>A.Eo ByteArray.empty
 |.map k=>A.Hs k
 |.sl e a=>A.kN e a
def eZ(A:nA):(a:ar)->A.Vs a
 |.nil=>A.nl
 |.cons t ts=>A.cn (zeroV A t) (eZ A ts)
def CT(A:nA):Ty->Lf A
 |.sl e a=>.eI e a
 |t=>.val t (zeroV A t)
def oe(A:nA):ar->List (Lf A)
 |.nil=>[]
 |.cons t ts=>CT A t::oe A ts
def gN(E:Env)(c:Nat):Value->TV A
 |.int k n=>.one (.val (.int k) (A.zz k n))
 |.bool b=>.one (.val .bool (A.mj b))
 |.string b=>.one (.val .str (A.Eo b))
 |.slice none 0 0=>match E.nx c with
  |some (e,a)=>.one (.eI e a)
  |none=>.dead
 |_=>.dead
def ev(E:Env)(s:St A)(a:Nat):Operand->TV A
 |.tmp t=>s.sl t
 |.const v=>gN E a v
 |.func f=>.one (.fn f [])
 |.global _=>.dead
def unpack(mk:Nat->(t:Ty)->A.V t->Lf A):(a:ar)->A.Vs a->Nat->List (Lf A)
 |.nil,_,_=>[]
 |.cons t ts,x,j=>mk j t (A.hd x)::unpack mk ts (A.tl x) (j+1)
def wP(_:Nat)(t:Ty)(x:A.V t):Lf A:=.val t x
def Fg(id g h:Nat)(a:List (A.V (.int .i64)×Nat))(i:A.V (.int .i64))(j:Nat)(t:Ty)(x:A.V t):Lf A:=
 match t with
 |.sl _ _=>.ref id g h (a++[(i,j)])
 |t=>.val t x
def cellAt:(a:ar)->A.Vs a->Nat->Option (Sigma A.V)
 |.nil,_,_=>none
 |.cons t _,x,0=>some ⟨t,A.hd x⟩
 |.cons _ ts,x,j+1=>cellAt ts (A.tl x) j
def setCell:(a:ar)->A.Vs a->Nat->Sigma A.V->Option (A.Vs a)
 |.nil,_,_,_=>none
 |.cons t ts,x,0,⟨u,v⟩=>if h:Ty.beq u t=true then some (A.cn (A.cast h v) (A.tl x))else none
 |.cons t ts,x,j+1,v=>(setCell ts (A.tl x) j v).map λy=>A.cn (A.hd x) y
structure Cont (A:nA) where
 e:Nat
 cs:ar
 x:A.V (.sl e cs)
 md:Nat
def follow(c:Nat):(e:Nat)->(a:ar)->A.V (.sl e a)->List (A.V (.int .i64)×Nat)->Option (Cont A)
 |e,a,x,[]=>some ⟨e,a,x,c⟩
 |_,a,x,(i,j)::p=>
  match cellAt a (A.get x i) j with
  |some ⟨.sl d b,y⟩=>follow c d b y p
  |_=>none
def fU.cont(q:fU A)(h:Nat)(a:List (A.V (.int .i64)×Nat)):Option (Cont A):=
 match q.o with
 |.arr e b deep x=>match a with
  |[]=>some ⟨e,b,x,bif deep then 2 else 1⟩
  |c::p=>bif deep&&Nat.beq q.h h then follow 2 e b x (c::p)else none
 |.bQ e b x=>match a with
  |[]=>some ⟨e,b,x,0⟩
  |_::_=>none
 |_=>none
def St.cont(s:St A)(id g h:Nat)(a:List (A.V (.int .i64)×Nat)):Option (Cont A):=bif Nat.beq (s.ob id).g g then(s.ob id).cont h a else none
def l9(f:(e:Nat)->(a:ar)->A.V (.sl e a)->Option (A.V (.sl e a))):(e:Nat)->(a:ar)->A.V (.sl e a)->List (A.V (.int .i64)×Nat)->Option (A.V (.sl e a))
 |e,a,x,[]=>f e a x
 |_,a,x,(i,j)::p=>
  match cellAt a (A.get x i) j with
  |some ⟨.sl c b,y⟩=>
   match l9 f c b y p with
   |some g=>match setCell a (A.get x i) j ⟨.sl c b,g⟩with
    |some d=>some (A.put x i d)
    |none=>none
   |none=>none
  |_=>none
def bF(deep:Bool)(t:Ty)(l:Lf A)(s:St A):Option (A.V t×St A):=
 match l,t with
 |.val (.sl e a) x,t=>bif deep then none else if h:Ty.beq (.sl e a) t=true then some (A.cast h x,s)else none
 |.val (.map k) x,t=>bif deep then none else if h:Ty.beq (.map k) t=true then some (A.cast h x,s)else none
 |.val u x,t=>if h:Ty.beq u t=true then some (A.cast h x,s)else none
 |.eI e a,.sl c b=>if h:Ty.beq (.sl e a) (.sl c b)=true then some (A.cast h (A.kN e a),s)else none
 |.ref id g _ [],t=>
  bif Nat.beq (s.ob id).g g then
   match(s.ob id).o with
   |.arr e a _ x=>
    if h:Ty.beq (.sl e a) t=true then
     bif deep then none
     else some (A.cast h x,s.bq id true (.bQ e a x))
    else none
   |.bQ e a x=>bif deep then none else if h:Ty.beq (.sl e a) t=true then some (A.cast h x,s)else none
   |_=>none
  else none
 |_,_=>none
def eR(deep:Bool):(a:ar)->List (Lf A)->St A->Option (A.Vs a×St A)
 |.nil,[],s=>some (A.nl,s)
 |.cons t ts,l::ls,s=>
  match bF deep t l s with
  |some (x,b)=>match eR deep ts ls b with
   |some (xs,c)=>some (A.cn x xs,c)
   |none=>none
  |none=>none
 |_,_,_=>none
def nj(t:Ty)(l:Lf A)(s:St A):Option (A.V t):=
 match l,t with
 |.val u x,t=>if h:Ty.beq u t=true then some (A.cast h x)else none
 |.eI e a,t=>if h:Ty.beq (.sl e a) t=true then some (A.cast h (A.kN e a))else none
 |.ref id g h p,t=>
  match s.cont id g h p with
  |some c=>if b:Ty.beq (.sl c.e c.cs) t=true then some (A.cast b c.x)else none
  |none=>none
 |_,_=>none
inductive K where
 |val (t:Ty)
 |arr (e:Nat) (cs:ar) (deep:Bool)
 |mp (k:IntKind)
def K.T(A:nA):K->Type
 |.val t=>A.V t
 |.arr e a _=>A.V (.sl e a)
 |.mp k=>A.V (.sl 0 (ar.mp k))
def fE(A:nA):List K->Type
 |[]=>Unit
 |k::ks=>K.T A k×fE A ks
inductive Cp where
 |ro (cs:ar)
 |mu (ks:List K)
inductive Sh where
 |one (k:K)
 |agg (ks:List K)
 |blk (ks:List K)
 |ro (cs:ar)
 |fn (f:FuncId) (F2:List ar)
 |qa (f:FuncId) (F2:List Cp)
def ar.ks:ar->List K
 |.nil=>[]
 |.cons t ts=>.val t::ts.ks
def Cp.ks:Cp->List K
 |.ro a=>a.ks
 |.mu ks=>ks
def Sh.ks:Sh->List K
 |.one k=>[k]
 |.agg ks |.blk ks=>ks
 |.ro b=>b.ks
 |.fn _ a=>(a.map ar.ks).flatten
 |.qa _ a=>(a.map Cp.ks).flatten
variable {A:nA}{M:Type}
def K.beq:K->K->Bool
 |.val t,.val u=>Ty.beq t u
 |.arr e b d,.arr f a c=>Nat.beq e f&&ar.beq b a&&(d==c)
 |.mp k,.mp g=>decide (k=g)
 |_,_=>false
theorem K.eq_of_beq:∀ {a b:K},K.beq a b=true->a=b
 |.val t,.val u,h=>by rw[Ty.eq_of_beq h]
 |.arr e f d,.arr i c g,h=>by simp only[K.beq,aQ,beq_iff_eq]at h;rw[bc h.1.1,ar.eq_of_beq h.1.2,h.2]
 |.mp k,.mp j,h=>by simp only[K.beq,qF]at h;rw[h]
 |.val _,.arr ..,h=>by simp[K.beq]at h
 |.arr ..,.val _,h=>by simp[K.beq]at h
 |.mp _,.arr ..,h=>by simp[K.beq]at h
 |.mp _,.val _,h=>by simp[K.beq]at h
 |.val _,.mp _,h=>by simp[K.beq]at h
 |.arr ..,.mp _,h=>by simp[K.beq]at h
def K.iR:K->Bool
 |.arr ..=>true
 |_=>false
def K.ni:K->Bool
 |.val _=>true
 |_=>false
abbrev KV(A:nA):=Sigma (K.T A)
def kL:(ks:List K)->List (KV A)->Option (fE A ks)
 |[],[]=>some ()
 |k::ks,⟨a,x⟩::xs=>if h:K.beq a k=true then(kL ks xs).map λr=>(K.eq_of_beq h▸x,r)else none
 |_,_=>none
def bJ:(ks:List K)->fE A ks->List (KV A)
 |[],_=>[]
 |k::ks,(x,r)=>⟨k,x⟩::bJ ks r
def eB(e:Nat)(c:ar)(deep:Bool)(l:Lf A)(s:St A):Option (A.V (.sl e c)×St A):=
 match l with
 |.eI b a=>if h:Ty.beq (.sl b a) (.sl e c)=true then some (A.cast h (A.kN b a),s)else none
 |.ref id g _ []=>
  bif Nat.beq (s.ob id).g g then
   match(s.ob id).o with
   |.arr b a d x=>
    bif (d==deep)||a.plain then
     if h:Ty.beq (.sl b a) (.sl e c)=true then some (A.cast h x,s.bq id true .gone)else none
    else none
   |_=>none
  else none
 |_=>none
def uM(k:IntKind)(l:Lf A)(s:St A):Option (A.V (.sl 0 (ar.mp k))×St A):=
 match l with
 |.cD id g=>
  bif Nat.beq (s.ob id).g g then
   match(s.ob id).o with
   |.mp a x=>if h:Ty.beq (.sl 0 (ar.mp a)) (.sl 0 (ar.mp k))=true then some (A.cast h x,s.bq id true .gone)else none
   |_=>none
  else none
 |_=>none
def cI(k:K)(l:Lf A)(s:St A):Option (KV A×St A):=
 match k with
 |.val t=>(bF false t l s).map λr=>(⟨.val t,r.1⟩,r.2)
 |.arr e a deep=>(eB e a deep l s).map λr=>(⟨.arr e a deep,r.1⟩,r.2)
 |.mp k=>(uM k l s).map λr=>(⟨.mp k,r.1⟩,r.2)
def takes:List K->List (Lf A)->St A->Option (List (KV A)×St A)
 |[],[],s=>some ([],s)
 |k::ks,l::ls,s=>
  match cI k l s with
  |some (x,a)=>match takes ks ls a with
   |some (xs,b)=>some (x::xs,b)
   |none=>none
  |none=>none
 |_,_,_=>none
def ar.kd:ar->List K
 |.nil=>[]
 |.cons t ts=>(match t with |.sl e a=>.arr e a true |.map k=>.arr 0 (ar.mp k) true|t=>.val t)::ts.kd
def KV.sig(v:KV A):Sigma A.V:=
 match v with
 |⟨.val t,x⟩=>⟨t,x⟩
 |⟨.arr e a _,x⟩=>⟨.sl e a,x⟩
 |⟨.mp k,x⟩=>⟨.sl 0 (ar.mp k),x⟩
def qj:(a:ar)->List (KV A)->Option (A.Vs a)
 |.nil,[]=>some A.nl
 |.cons t ts,v::r=>if h:Ty.beq v.sig.1 t=true then(qj ts r).map λy=>A.cn (A.cast h v.sig.2) y else none
 |_,_=>none
def setRow(a:ar)(x:A.Vs a)(j:Nat):List (KV A)->Option (A.Vs a)
 |[]=>some x
 |v::r=>match setCell a x j v.sig with
  |some y=>setRow a y (j+1) r
  |none=>none
def Dk(e:Nat)(a:ar):Nat->List (KV A)->A.V (.sl e a)->Option (A.V (.sl e a))
 |0,[],x=>some x
 |0,_::_,_=>none
 |n+1,b,x=>match qj a (b.take a.len)with
  |some c=>Dk e a n (b.drop a.len) (A.push x c)
  |none=>none
def putAt(c:Cont A)(y:A.V (.sl c.e c.cs))(e:Nat)(a:ar)(x:A.V (.sl e a))(p:List (A.V (.int .i64)×Nat)):Option (A.V (.sl e a)):=l9 (λd b _=>if h:Ty.beq (.sl c.e c.cs) (.sl d b)=true then some (A.cast h y)else none) e a x p
def dm(s:St A)(id g:Nat):Option (List (Lf A)):=bif Nat.beq (s.ob id).g g then match(s.ob id).o with |.blk a=>some a|_=>none else none
def Bf:(a:ar)->A.Vs a->List (KV A)
 |.nil,_=>[]
 |.cons t ts,x=>⟨.val t,A.hd x⟩::Bf ts (A.tl x)
def bM(a:ar)(c:cU A)(s:St A):Option (List (KV A)×St A):=
 match c with
 |.ptr id g=>match dm s id g with
  |some ls=>match takes a.ks ls s with
   |some (e,d)=>match(d.ob id).o with
    |.blk _=>some (e,d.bq id true .gone)
    |_=>none
   |none=>none
  |none=>none
 |.ro b x=>if h:ar.beq b a=true then some (Bf a (A.BH h x),s)else none
def bX:List ar->List (cU A)->St A->Option (List (KV A)×St A)
 |[],[],s=>some ([],s)
 |d::a,c::b,s=>match bM d c s with
  |some (x,e)=>match bX a b e with
   |some (r,f)=>some (x++r,f)
   |none=>none
  |none=>none
 |_,_,_=>none
def eX(c:Cp)(v:cU A)(s:St A):Option (List (KV A)×St A):=
 match c,v with
 |.ro a,v=>bM a v s
 |.mu ks,.ptr id g=>match dm s id g with
  |some ls=>match takes ks ls (s.bq id true .gone)with
   |some r=>some r
   |none=>none
  |none=>none
 |_,_=>none
def b7:List Cp->List (cU A)->St A->Option (List (KV A)×St A)
 |[],[],s=>some ([],s)
 |c::a,v::e,s=>match eX c v s with
  |some (x,b)=>match b7 a e b with
   |some (r,d)=>some (x++r,d)
   |none=>none
  |none=>none
 |_,_,_=>none
def bL(h:Sh)(v:TV A)(s:St A):Option (List (KV A)×St A):=
 match h,v with
 |.ro c,.one (.ptr id g 0)=>bM c (.ptr id g) s
 |.ro c,.one (.ei d x 0)=>bM c (.ro d x) s
 |.fn f a,.one (.fn e b)=>bif Nat.beq f e then bX a b s else none
 |.qa f a,.one (.fn e b)=>bif Nat.beq f e then b7 a b s else none
 |.one k,.one l=>takes [k] [l] s
 |.agg ks,.agg ls=>takes ks ls s
 |.blk ks,.one (.ptr id g 0)=>match dm s id g with
  |some ls=>match takes ks ls (s.bq id true .gone)with
   |some r=>some r
   |none=>none
  |none=>none
 |_,_=>none
def bz:List Sh->List (TV A)->St A->Option (List (KV A)×St A)
 |[],[],s=>some ([],s)
 |d::a,v::e,s=>match bL d v s with
  |some (x,b)=>match bz a e b with
   |some (r,c)=>some (x++r,c)
   |none=>none
  |none=>none
 |_,_,_=>none
def Sh.sP:Sh->List K
 |.one k=>[k]
 |.agg ks=>ks
 |_=>[]
def Sh.cells(a:Sh)(v:TV A):List (Lf A):=
 match a,v with
 |.one _,.one l=>[l]
 |.one _,_=>[.dead]
 |.agg ks,.agg ls=>bif Nat.beq ls.length ks.length then ls else ks.map λ_=>.dead
 |.agg ks,_=>ks.map λ_=>.dead
 |_,_=>[]
def aY:List Sh->List (TV A)->List (Lf A)
 |b::a,v::c=>b.cells v++aY a c
 |_,_=>[]
def pick{α:Type}:List K->List α->List α
 |k::ks,x::xs=>bif k.iR then x::pick ks xs else pick ks xs
 |_,_=>[]
def kJ(k:K)(l:Lf A)(s:St A):Option (St A):=
 match k with
 |.val _=>some s
 |.arr e a deep=>bif Nat.ble 1 a.len then(eB e a deep l s).map (·.2)else none
 |.mp _=>none
def jV:List K->List (Lf A)->St A->Option (St A)
 |[],[],s=>some s
 |k::ks,l::ls,s=>
  match kJ k l s with
  |some a=>jV ks ls a
  |none=>none
 |_,_,_=>none
def qt(a:List Sh)(b:List (TV A))(s:St A):Option (St A):=jV (a.map Sh.sP).flatten (aY a b) s
def jF(k:K)(l:Lf A)(s0 s:St A):Option (KV A):=
 match k with
 |.val t=>(nj t l s).map λx=>⟨.val t,x⟩
 |.arr e a deep=>(eB e a deep l s0).map λr=>⟨.arr e a deep,r.1⟩
 |.mp _=>none
def looks:List K->List (Lf A)->St A->St A->Option (List (KV A))
 |[],[],_,_=>some []
 |k::ks,l::ls,a,s=>match jF k l a s,looks ks ls a s with
  |some x,some xs=>some (x::xs)
  |_,_=>none
 |_,_,_,_=>none
def ga(a:ar)(c:cU A)(s:St A):Option (List (KV A)):=
 match c with
 |.ptr id g=>match dm s id g with
  |some ls=>looks a.ks ls s s
  |none=>none
 |.ro b x=>if h:ar.beq b a=true then some (Bf a (A.BH h x))else none
def gk:List ar->List (cU A)->St A->Option (List (KV A))
 |[],[],_=>some []
 |d::a,c::b,s=>match ga d c s,gk a b s with
  |some x,some r=>some (x++r)
  |_,_=>none
 |_,_,_=>none
def iS(h:Sh)(v:TV A)(s0 s:St A):Option (List (KV A)):=
 match h,v with
 |.ro b,.one (.ptr id g 0)=>ga b (.ptr id g) s
 |.ro b,.one (.ei c x 0)=>ga b (.ro c x) s
 |.fn f a,.one (.fn e d)=>bif Nat.beq f e then gk a d s else none
 |.one k,.one l=>looks [k] [l] s0 s
 |.agg ks,.agg ls=>looks ks ls s0 s
 |_,_=>none
def dI:List Sh->List (TV A)->St A->St A->Option (List (KV A))
 |[],[],_,_=>some []
 |c::a,v::d,b,s=>match iS c v b s,dI a d b s with
  |some x,some r=>some (x++r)
  |_,_=>none
 |_,_,_,_=>none
def K.closed:K->Bool
 |.val t=>(match t with |.sl .. |.map _=>false|_=>true)
 |.arr _ a d=>a.plain||d
 |.mp _=>false
def Sh.flat:Sh->Bool
 |.one _ |.agg _=>true
 |_=>false
def Sh.outs(a:Sh):List K:=a.sP.filter K.iR
def jf:List K->List (Lf A)->List (KV A)->St A->Option (St A)
 |[],[],[],s=>some s
 |.val _::ks,_::ls,a,s=>jf ks ls a s
 |.arr _ _ _::ks,.eI _ _::ls,_::a,s=>jf ks ls a s
 |.arr _ _ _::ks,.ref id _ _ []::ls,⟨.arr e b deep,x⟩::a,s=>jf ks ls a (s.bq id true (.arr e b deep x))
 |_,_,_,_=>none
def jn(a:List Sh)(b:List (TV A))(c:List (KV A))(s:St A):Option (St A):=jf (a.map Sh.sP).flatten (aY a b) c s
def dh(id:Nat)(v:KV A)(s:St A):Lf A×St A:=
 match v with
 |⟨.val t,x⟩=>(.val t x,s.new id .gone)
 |⟨.arr e a deep,x⟩=>(.ref id ((s.ob id).g+1) 0 [],s.new id (.arr e a deep x))
 |⟨.mp k,x⟩=>(.cD id ((s.ob id).g+1),s.new id (.mp k x))
def lays(id:Nat):List (KV A)->St A->List (Lf A)×St A
 |[],s=>([],s)
 |v::a,s=>let r:=dh id v s;let q:=lays (id+1) a r.2;(r.1::q.1,q.2)
def kf:(a:ar)->List (KV A)->Option (A.Vs a)
 |.nil,[]=>some A.nl
 |.cons t ts,⟨.val u,x⟩::r=>if h:Ty.beq u t=true then(kf ts r).map λy=>A.cn (A.cast h x) y else none
 |_,_=>none
def c9:List ar->List (KV A)->List (cU A)
 |[],_=>[]
 |a::b,c=>match kf a (c.take a.len)with
  |some x=>.ro a x::c9 b (c.drop a.len)
  |none=>[]
def dw(b:Nat):List Cp->List (KV A)->St A->List (cU A)×St A
 |[],_,s=>([],s)
 |.ro d::r,c,s=>match kf d (c.take d.len)with
  |some x=>let q:=dw b r (c.drop d.len) s;(.ro d x::q.1,q.2)
  |none=>([],s)
 |.mu ks::r,c,s=>
  let a:=lays (b+1) (c.take ks.length) s;let q:=dw (b+(ks.length+1)) r (c.drop ks.length) (a.2.new b (.blk a.1))
  (.ptr b ((a.2.ob b).g+1)::q.1,q.2)
def cm(b:Nat)(e:Sh)(c:List (KV A))(s:St A):TV A×St A:=
 match e with
 |.one _=>match c with
  |[v]=>let r:=dh b v s;(.one r.1,r.2)
  |_=>(.dead,s)
 |.agg _=>let r:=lays b c s;(.agg r.1,r.2)
 |.blk _=>let r:=lays (b+1) c s;(.one (.ptr b ((r.2.ob b).g+1) 0),r.2.new b (.blk r.1))
 |.ro d=>match kf d c with
  |some x=>(.one (.ei d x 0),s)
  |none=>(.dead,s)
 |.fn f a=>(.one (.fn f (c9 a c)),s)
 |.qa f a=>let q:=dw b a c s;(.one (.fn f q.1),q.2)
def Cp.width:Cp->Nat
 |.ro _=>0
 |.mu ks=>ks.length+1
def td:List Cp->Nat
 |[]=>0
 |c::r=>c.width+td r
def Sh.width:Sh->Nat
 |.one _=>1
 |.agg ks=>ks.length
 |.blk ks=>ks.length+1
 |.qa _ a=>td a
 |_=>0
def aV(b:Nat):List Sh->List (KV A)->St A->List (TV A)×St A
 |[],_,s=>([],s)
 |a::c,d,s=>let r:=cm b a (d.take a.ks.length) s;let q:=aV (b+a.width) c (d.drop a.ks.length) r.2;(r.1::q.1,q.2)
def CU:List Cp->List (List K)
 |[]=>[]
 |.ro _::r=>CU r
 |.mu ks::r=>ks::CU r
def qR:List Cp->List (cU A)->List (Lf A)
 |.ro _::r,_::a=>qR r a
 |.mu _::r,.ptr id g::a=>.ptr id g 0::qR r a
 |.mu _::r,.ro _ _::a=>.dead::qR r a
 |.ro _::r,[]=>qR r []
 |.mu _::r,[]=>.dead::qR r []
 |[],_=>[]
def Sh.DT:Sh->List (List K)
 |.blk ks=>[ks]
 |.qa _ a=>CU a
 |_=>[]
def eC(a:List Sh):List (List K):=(a.map Sh.DT).flatten
def Sh.DU(c:Sh)(v:TV A):List (Lf A):=
 match c,v with
 |.blk _,.one l=>[l]
 |.blk _,_=>[.dead]
 |.qa _ a,.one (.fn _ b)=>qR a b
 |.qa _ a,_=>qR a []
 |_,_=>[]
def bV:List Sh->List (TV A)->List (Lf A)
 |b::a,v::c=>b.DU v++bV a c
 |_,_=>[]
def cO:Nat:=1099511627776
def aR(id:Nat):Nat:=cO+id*64
def iQ:List (List K)->List (Lf A)->List (KV A)->St A->Option (St A)
 |[],[],[],s=>some s
 |ks::b,.ptr id _ 0::ls,a,s=>
  bif Nat.ble (id+1) cO&&(Nat.ble ks.length 64&&Nat.ble ks.length a.length)then
   iQ b ls (a.drop ks.length) ((lays (aR id) (a.take ks.length) s).2.bq id true (.blk (lays (aR id) (a.take ks.length) s).1))
  else none
 |_,_,_,_=>none
def apart(b W:Nat):List (Lf A)->Bool
 |[]=>true
 |.ptr id _ _::ls=>(Nat.ble (id+1) b||Nat.ble (b+W) id)&&apart b W ls
 |_::_=>false
def dY(a:Bool)(args:List Sh):List K:=bif a then(args.map Sh.outs).flatten else []
def dZ:List Sh->Nat
 |[]=>0
 |b::a=>b.width+dZ a
abbrev bp:=List (Nat×Sh)
def bp.ks(t:bp):List K:=(t.map (·.2.ks)).flatten
def fC(t:bp)(s:St A):Option (fE A (bp.ks t)×St A):=
 match bz (t.map (·.2)) (t.map λp=>s.sl p.1) s with
 |some (b,a)=>(kL _ b).map λx=>(x,a)
 |none=>none
def ir:List Nat->List (TV A)->St A->St A
 |d::a,v::b,s=>ir a b (s.set d v)
 |_,_,s=>s
def om(t:bp)(x:fE A (bp.ks t))(s:St A):St A:=
 let q:=aV 1 (t.map (·.2)) (bJ _ x) s
 ir (t.map (·.1)) q.1 q.2
def St.start:St A:={ sl:=λ_=>.dead,ob:=λ_=>⟨0,0,0,.gone⟩ }
def Sh.eG:Sh->Bool
 |.one k=>k.ni
 |.agg ks=>ks.all K.ni
 |.ro _ |.fn _ _=>true
 |_=>false
def Sh.qg:Sh->Bool
 |.one _ |.agg _ |.blk _=>true
 |_=>false
def qu:List Nat->List Nat->Bool
 |[],[]=>true
 |a::c,b::d=>Nat.beq a b&&qu c d
 |_,_=>false
def rG:∀ {a b:List Nat},qu a b=true->a=b
 |[],[],_=>rfl
 |a::c,b::d,h=>by simp only[qu,aQ]at h;rw[bc h.1,rG h.2]
 |[],_::_,h=>by cases h
 |_::_,[],h=>by cases h
abbrev bA:=FuncId×List FuncId
def wB(args:List (TV A)):List FuncId:=args.filterMap λv=>match v with |.one (.fn f _)=>some f|_=>none
def bA.beq(a b:bA):Bool:=Nat.beq a.1 b.1&&qu a.2 b.2
theorem bA.eq_of_beq{a b:bA}(h:bA.beq a b=true):a=b:=by simp only[bA.beq,aQ]at h;exact Prod.ext (bc h.1) (rG h.2)
structure Callee (A:nA) (M:Type) where
 look:Bool
 args:List Sh
 bf:List Sh
 run:fE A ((args.map Sh.ks).flatten)->(fE A ((bf.map Sh.ks).flatten++(dY look args++(eC args).flatten))->M)->M
inductive Ex where
 |normal
 |exit (id:Nat)
 |ret
 deriving DecidableEq
def jX(A:nA):List (Ex×bp)->Type
 |[]=>Empty
 |e::a=>fE A (bp.ks e.2)⊕jX A a
def jX.elim{M:Type}:(a:List (Ex×bp))->jX A a->(Ex->(t:bp)->fE A (bp.ks t)->M)->M
 |[],q,_=>Empty.elim q
 |e::a,q,k=>Sum.elim (λy=>k e.1 e.2 y) (λq=>jX.elim a q k) q
structure Bi (A:nA) (M:Type) where
 keep:bp
 gZ:bp
 gD:List (Ex×bp)
 run:fE A (bp.ks keep)->fE A (bp.ks gZ)->(Ex->(t:bp)->fE A (bp.ks t)->M)->M
def TV.comp:TV A->Bool×List (Lf A)
 |.one l=>(false,[l])
 |.agg ls=>(true,ls)
 |.ol _ |.pQ ..=>(false,[.dead])
def TV.nk:List (TV A)->TV A
 |[v]=>v
 |a=>.ol (a.map TV.comp)
variable {A:nA}{M:Type}
def limit:Int:=1073741824
def kX(C:xy A M)(d:Bool)(c:BinOp)(x y:Lf A)(k:Lf A->M):M:=
 match x,y with
 |.val (.int a) x,.val (.int b) y=>
  match c with
  |.shl |.shr=>C.cond (A.DI b y) C.fail (k (.val (.int a) (A.shift c a b x y)))
  |c=>
   if h:Ty.beq (.int b) (.int a)=true then
    match c with
    |.add |.sub |.mul |.and |.or |.xor |.andNot=>k (.val (.int a) (A.arith c a x (A.cast h y)))
    |.quo |.rem=>C.cond (A.isZero a (A.cast h y)) C.fail (k (.val (.int a) (A.arith c a x (A.cast h y))))
    |_=>k (.val .bool (A.cmp c a x (A.cast h y)))
   else C.fail
 |.val .bool x,.val .bool y=>
  bif d then
   match c with
   |.eql=>k (.val .bool (A.C9 x y))
   |.neq=>k (.val .bool (A.Cq (A.C9 x y)))
   |_=>C.fail
  else C.fail
 |.val .str x,.val .str y=>
  match c with
  |.add=>C.cond (A.DQ x y) (k (.val .str (A.Fl x y))) C.fail
  |.eql |.neq |.lss |.leq |.gtr |.geq=>k (.val .bool (A.Fm c x y))
  |_=>C.fail
 |_,_=>C.fail
def fw(E:Env)(t:Nat):Bool:=
 match E.ti t with
 |some i=>(match i.cs with |.cons .bool .nil=>true|_=>false) && !i.agg
 |none=>false
def lP(E:Env)(t:Nat):Bool:=
 match E.ti t with
 |some i=>(match i.cs with |.cons .str .nil=>true|_=>false) && !i.agg
 |none=>false
def F4:(t:Ty)->A.V t->A.V t->Option (A.V .bool)
 |.int k,x,y=>some (A.cmp .eql k x y)
 |.bool,x,y=>some (A.C9 x y)
 |_,_,_=>none
def lN:ar->List (Lf A)->List (Lf A)->Option (A.V .bool)
 |.nil,[],[]=>some (A.mj true)
 |.cons t ts,.val u x::xs,.val v y::d=>
  if a:Ty.beq u t=true then if c:Ty.beq v t=true then
   match F4 t (A.cast a x) (A.cast c y),lN ts xs d with
   |some b,some r=>some (A.EY b r)
   |_,_=>none
  else none else none
 |_,_,_=>none
def sy(s:St A)(id g:Nat):Option (Sigma λk=>A.V (.sl 0 (ar.mp k))):=bif Nat.beq (s.ob id).g g then match(s.ob id).o with |.mp k x=>some ⟨k,x⟩|_=>none else none
def eT(s:St A):Lf A->Bool
 |.val .. |.eI .. |.ei .. |.fn ..=>true
 |.ref id g h p=>(s.cont id g h p).isSome
 |.ptr id g _=>(dm s id g).isSome
 |.cD id g=>(sy s id g).isSome
 |.bH id g h p _ _=>match s.cont id g h p with
  |some c=>!Nat.beq c.md 0
  |none=>false
 |.C4 .. |.undef |.dead=>false
def cells?(s:St A)(v:TV A):Option (List (Lf A)):=
 match v with
 |.one l=>bif eT s l then some [l]else none
 |.agg ls=>bif ls.all (eT s)then some ls else none
 |.ol _ |.pQ ..=>none
def fR(a:List (Nat×Nat×Bool))(E:Env)(s:St A):List (Nat×Operand)->List (Lf A)->Option (List (Lf A))
 |[],c=>some c
 |(i,x)::r,c=>
  match a[i]? with
  |some (b,n,_)=>
   match cells? s (ev E s 0 x)with
   |some v=>bif Nat.beq v.length n&&Nat.ble (b+n) c.length then fR a E s r (c.take b++v++c.drop (b+n))else none
   |none=>none
  |none=>none
def gH(E:Env)(b:St A)(e:Nat)(a:ar):List Operand->A.V (.sl e a)->St A->Option (A.V (.sl e a)×St A)
 |[],x,s=>some (x,s)
 |o::d,x,s=>
  match cells? b (ev E b 0 o)with
  |some ls=>match eR false a ls s with
   |some (c,f)=>gH E b e a d (A.push x c) f
   |none=>none
  |none=>none
def fD(E:Env)(s:St A)(n:Nat):List Operand->Option (List (List (Lf A)))
 |[]=>some []
 |o::a=>match cells? s (ev E s 0 o),fD E s n a with
  |some ls,some r=>bif Nat.beq ls.length n then some (ls::r)else none
  |_,_=>none
def iL:Nat->List Nat->Bool
 |_,[]=>true
 |m,n::r=>Nat.beq m n&&iL (m+1) r
def xA(s:St A)(id g:Nat)(a:List (A.V (.int .i64)×Nat))(i:A.V (.int .i64))(b:Nat):Nat->(t:Ty)->A.V t->Lf A:=bif Nat.beq b 2 then Fg id g (s.ob id).h a i else wP
def jg(s:St A)(b:Bool)(n:Nat)(p:Lf A):Option (TV A):=
 match p with
 |.ptr id g a=>match dm s id g with
  |some d=>if a+n<=d.length then some (TV.mk b ((d.drop a).take n))else none
  |none=>none
 |.bH id g h path i a=>match s.cont id g h path with
  |some c=>
   bif Nat.beq c.md 0 then none else
   let cells:=unpack (xA s id g path i c.md) c.cs (A.get c.x i) 0;if a+n<=cells.length then some (TV.mk b ((cells.drop a).take n))else none
  |none=>none
 |.ei d x a=>let cells:=unpack wP d x 0;if a+n<=cells.length then some (TV.mk b ((cells.drop a).take n))else none
 |_=>none
def aN(deep:Bool):(a:ar)->A.Vs a->Nat->List (Lf A)->St A->Option (A.Vs a×St A)
 |_,x,_,[],s=>some (x,s)
 |a,x,j,l::ls,s=>
  match cellAt a x j with
  |some ⟨t,_⟩=>match bF deep t l s with
   |some (v,b)=>match setCell a x j ⟨t,v⟩with
    |some y=>aN deep a y (j+1) ls b
    |none=>none
   |none=>none
  |none=>none
def DC:(b:ar)->Nat->Nat->Bool
 |.nil,_,_=>false
 |.cons t ts,a,n=>match a,n with
  |0,0=>false
  |0,n+1=>(match t with |.sl ..=>true|_=>false)||DC ts 0 n
  |a+1,n=>DC ts a n
def kw(s:St A)(id h e:Nat)(b:ar)(x:A.V (.sl e b))(p:List (A.V (.int .i64)×Nat))(i:A.V (.int .i64))(a:Nat)(v:List (Lf A)):Option (St A):=
 bif p.isEmpty||Nat.beq (s.ob id).h h then
  match follow 2 e b x p with
  |some c=>match takes ((c.cs.kd.drop a).take v.length) v s with
   |some (g,d)=>match setRow c.cs (A.get c.x i) a g with
    |some f=>match putAt c (A.put c.x i f) e b x p with
     |some j=>match(d.ob id).o with
      |.arr ..=>some (d.bq id (((c.cs.kd.drop a).take v.length).any K.iR) (.arr e b true j))
      |_=>none
     |none=>none
    |none=>none
   |none=>none
  |none=>none
 else none
def iv(s:St A)(p:Lf A)(v:List (Lf A)):Option (St A):=
 match p with
 |.ptr id g a=>match dm s id g with
  |some b=>if a+v.length<=b.length then some (s.bq id true (.blk (b.take a++v++b.drop (a+v.length))))else none
  |none=>none
 |.bH id g h p i a=>
  bif Nat.beq (s.ob id).g g then
   match(s.ob id).o with
   |.arr e b deep x=>
    bif deep then kw s id h e b x p i a v
    else match p with
     |[]=>match aN false b (A.get x i) a v s with
      |some (d,c)=>
       match(c.ob id).o with
       |.arr ..=>some (c.bq id true (.arr e b false (A.put x i d)))
       |_=>none
      |none=>none
     |_::_=>none
   |_=>none
  else none
 |_=>none
def nv:TV A->Option (A.V (.int .i64))
 |.one (.val t x)=>if h:Ty.beq t (.int .i64)=true then some (A.cast h x)else none
 |_=>none
def BZ:TV A->Option (Sigma λk=>A.V (.int k))
 |.one (.val (.int k) x)=>some ⟨k,x⟩
 |_=>none
def p9:TV A->Option (A.V .bool)
 |.one (.val t x)=>if h:Ty.beq t .bool=true then some (A.cast h x)else none
 |_=>none
def Dt:TV A->Option (A.V .str)
 |.one (.val t x)=>if h:Ty.beq t .str=true then some (A.cast h x)else none
 |_=>none
def gC(s:St A):TV A->Option (Cont A)
 |.one (.val (.sl e a) x)=>some ⟨e,a,x,0⟩
 |.one (.eI e a)=>some ⟨e,a,A.kN e a,1⟩
 |.one (.ref id g h p)=>s.cont id g h p
 |_=>none
def af(C:xy A M){α:Type}(o:Option α)(k:α->M):M:=match o with|some x=>k x|none=>C.fail
def gX:Option Operand->Bool
 |some (.const (.int _ n))=>decide (n=0)
 |_=>false
def eS(E:Env)(C:xy A M)(d:Nat)(s:St A)(x:TV A)(c:Cont A)(a:Bool)(l h:A.V (.int .i64))(k:TV A->St A->M):M:=
 match x with
 |.one (.ref id _ _ [])=>
  bif Nat.beq c.md 0 then k (.one (.val (.sl c.e c.cs) (A.sub c.x l h))) s
  else bif E.trunc d&&a then
   bif Nat.beq c.md 2 && !c.cs.plain then C.fail else
   let b:=(s.bq id true .gone).new (aD d 0 0) (.arr c.e c.cs (Nat.beq c.md 2) (A.sub c.x l h));k (.one (.ref (aD d 0 0) ((b.ob (aD d 0 0)).g) 0 [])) b
  else k (.one (.val (.sl c.e c.cs) (A.sub c.x l h))) (s.bq id true (.bQ c.e c.cs c.x))
 |.one (.ref ..)=>C.fail
 |_=>k (.one (.val (.sl c.e c.cs) (A.sub c.x l h))) s
def DJ:Option Operand->Bool
 |none=>true
 |x=>gX x
def jL(E:Env)(C:xy A M)(d t:Nat)(s:St A)(x:TV A)(a b mx:Option Operand)(k:TV A->St A->M):M:=
 af C (E.nx t) λq=>
 af C (gC s x) λc=>
 bif Nat.beq q.1 c.e&&ar.beq q.2 c.cs then
  bif gX mx&&(gX b&&DJ a)then k (.one (.eI c.e c.cs)) s else
  match mx with
  |some _=>C.fail
  |none=>
   af C (match a with|some o=>nv (ev E s 0 o)|none=>some (A.zz .i64 0)) λl=>
   af C (match b with|some o=>nv (ev E s 0 o)|none=>some (A.len c.x)) λh=>C.cond (A.DR c.x l h) (eS E C d s x c a.isNone l h k) C.fail
 else C.fail
def ic(s:St A):TV A->Option Nat
 |.one (.ref id g _ [])=>bif Nat.beq (s.ob id).g g then(match(s.ob id).o with |.arr _ _ a _=>bif a then some id else none|_=>none)else none
 |_=>none
def uJ:TV A->Bool
 |.one (.eI ..)=>true
 |_=>false
def dD(E:Env)(C:xy A M)(d:Nat)(b:Builtin)(l:List Nat)(args:List (TV A))(s:St A)(k:TV A->St A->M):M:=
 match b,args,l with
 |.len,[x],[t]=>
  bif lP E t then af C (Dt x) λx=>k (.one (.val (.int .i64) (A.EC x))) s
  else af C (E.nx t) λ_=>af C (gC s x) λc=>k (.one (.val (.int .i64) (A.len c.x))) s
 |.min,[x,y],_=>af C (nv x) λx=>af C (nv y) λy=>k (.one (.val (.int .i64) (A.Co false .i64 x y))) s
 |.max,[x,y],_=>af C (nv x) λx=>af C (nv y) λy=>k (.one (.val (.int .i64) (A.Co true .i64 x y))) s
 |.append,[x,y],[t,o]=>
  af C (E.nx t) λq=>
  af C (E.nx o) λ_=>
  af C (gC s x) λa=>
  af C (gC s y) λe=>
  bif !(Nat.beq q.1 a.e&&ar.beq q.2 a.cs)then C.fail else
  match(match x with
    |.one (.eI ..)=>some (s,false)
    |.one (.ref id _ _ [])=>(match a.md with|0=>none|m=>some (s.bq id true .gone,Nat.beq m 2))
    |_=>none)with
  |none=>C.fail
  |some (j,g)=>
   bif (g||Nat.beq e.md 2) && !a.cs.plain then
    match ic j y with
    |some i=>
     bif g||uJ x then
      if h:Ty.beq (.sl e.e e.cs) (.sl a.e a.cs)=true then
       let z:=A.cat a.x (A.cast h e.x)
       C.cond (A.small z) (let f:=(j.bq i true .gone).new (aD d 0 0) (.arr a.e a.cs true z);k (.one (.ref (aD d 0 0) ((f.ob (aD d 0 0)).g) 0 [])) f) C.fail
      else C.fail
     else C.fail
    |none=>C.fail
   else
    let n:=j;if h:Ty.beq (.sl e.e e.cs) (.sl a.e a.cs)=true then
     let z:=A.cat a.x (A.cast h e.x)
     C.cond (A.small z) (let f:=n.new (aD d 0 0) (.arr a.e a.cs g z);k (.one (.ref (aD d 0 0) ((f.ob (aD d 0 0)).g) 0 [])) f) C.fail
    else C.fail
 |_,_,_=>C.fail
def gb(E:Env)(s:St A)(a:BinOp)(t:Nat)(x y:Operand):Option (Lf A):=
 match y with
 |.const (.slice none 0 0)=>
  match E.nx t,gC s (ev E s t x)with
  |some _,some c=>match a with
   |.eql=>some (.C4 (A.cmp .gtr .i64 (A.len c.x) (A.zz .i64 0)) false)
   |.neq=>some (.C4 (A.cmp .gtr .i64 (A.len c.x) (A.zz .i64 0)) true)
   |_=>none
  |_,_=>none
 |_=>none
def qv:Operand->Operand->Bool
 |.tmp a,.tmp b=>Nat.beq a b
 |.const (.int k a),.const (.int j b)=>decide (k=j)&&decide (a=b)
 |_,_=>false
def wj:TV A->Option (cU A)
 |.one (.ptr id g 0)=>some (.ptr id g)
 |.one (.ei a x 0)=>some (.ro a x)
 |_=>none
def cU.tv:cU A->TV A
 |.ptr id g=>.one (.ptr id g 0)
 |.ro a x=>.one (.ei a x 0)
def qn(f:Callee A M):Bool:=Nat.ble (dZ f.bf) 2047&&bif f.look then f.bf.all Sh.flat&&((f.args.all λa=>a.eG||a.flat)&&((f.bf.all λa=>a.ks.all K.closed)&&f.args.all λa=>a.outs.all K.closed))else f.bf.all Sh.qg
def jU(C:xy A M)(f:Callee A M)(d:Nat)(args:List (TV A))(s:St A)(k:TV A->St A->M):M:=
  af C (qt f.args args s) λa=>
  af C (dI f.args args s a) λc=>
  af C (kL _ c) λx=>
  f.run x λy=>
   let n:=(f.bf.map Sh.ks).flatten.length
   af C (jn f.args args ((bJ _ y).drop n) a) λb=>
   let q:=aV (aD d 0 0) f.bf ((bJ _ y).take n) b
   k (TV.nk q.1) q.2
structure sM (A:nA) where
 nb:Nat
 gn:Nat
 id:Nat
 g:Nat
 e:Nat
 cs:ar
 x:A.V (.sl e cs)
 c:Cont A
 path:List (A.V (.int .i64)×Nat)
def iT(a:Nat)(id g h:Nat)(p:List (A.V (.int .i64)×Nat))(s:St A):Option (TV A×St A×sM A):=
 match s.cont id g h p with
 |some c=>match(s.ob id).o with
  |.arr e d true x=>
   bif Nat.beq id a then none else
   let b:=(s.bq id true .gone).new a (.arr c.e c.cs true c.x)
   some (.one (.ref a (b.ob a).g 0 []),b,⟨a,(b.ob a).g,id,g,e,d,x,c,p⟩)
  |_=>none
 |none=>none
def dO(c:Nat):List Sh->List (TV A)->St A->Option (List (TV A)×St A×sM A)
 |.one (.arr ..)::_,.one (.ref id g h (d::p))::a,s=>(iT c id g h (d::p) s).map λr=>(r.1::a,r.2)
 |_::b,v::a,s=>(dO c b a s).map λr=>(v::r.1,r.2)
 |_,_,_=>none
def jG(q:sM A)(s:St A):Option (St A):=
 match(s.ob q.nb).o with
 |.arr e a b y=>
  bif (Nat.beq (s.ob q.id).g q.g&&Nat.beq (s.ob q.nb).g q.gn)&&(Nat.ble 1 q.g&&(b||a.plain))then
   if c:Ty.beq (.sl e a) (.sl q.c.e q.c.cs)=true then
    match putAt q.c (A.cast c y) q.e q.cs q.x q.path with
    |some d=>some ((s.bq q.nb true .gone).bq q.id true (.arr q.e q.cs true d))
    |none=>none
   else none
  else none
 |_=>none
def nc(C:xy A M)(f:Callee A M)(d:Nat)(args:List (TV A))(s:St A)(k:TV A->St A->M):M:=
 bif qn f then
 bif f.look then
  match dO (aD d 0 0+2047) f.args args s with
  |some (a,c,q)=>jU C f d a c λv b=>af C (jG q b) λe=>k v e
  |none=>jU C f d args s k
 else
  bif Nat.ble (aD d 0 0+dZ f.bf) cO&&apart (aD d 0 0) (dZ f.bf) (bV f.args args)then
  af C (bz f.args args s) λr=>
  af C (kL _ r.1) λx=>
  f.run x λy=>
   let n:=(f.bf.map Sh.ks).flatten.length
   af C (iQ (eC f.args) (bV f.args args) ((bJ _ y).drop n) r.2) λb=>
   let q:=aV (aD d 0 0) f.bf ((bJ _ y).take n) b
   k (TV.nk q.1) q.2
  else C.fail
 else C.fail
def aL(E:Env)(C:xy A M)(L:bA->Option (Callee A M))(o:Oper)(s:St A)(k:St A->M):M:=
 let d:=o.dst.getD 0;let put (v:TV A) (s:St A):M:=k (s.bI o.dst v);match o.op with
 |.move x |.assign x=>put (ev E s o.type x) s
 |.pick c a b=>af C (p9 (ev E s 4 c)) λc=>C.cond c (put (ev E s o.type a) s) (put (ev E s o.type b) s)
 |.alloc t=>af C (E.ti t) λi=>let w:=s.new (aD d 0 0) (.blk (oe A i.cs));put (.one (.ptr (aD d 0 0) (w.ob (aD d 0 0)).g 0)) w
 |.box t x=>af C (E.ti t) λi=>af C (cells? s (ev E s t x)) λv=>
   bif Nat.beq v.length i.cs.len then
    bif E.ro d then af C (eR false i.cs v s) λr=>put (.one (.ei i.cs r.1 0)) r.2
    else let w:=s.new (aD d 0 0) (.blk v);put (.one (.ptr (aD d 0 0) (w.ob (aD d 0 0)).g 0)) w
   else C.fail
 |.build t parts=>af C (E.ti t) λi=>bif i.agg then af C (fR i.mh E s parts.toList (oe A i.cs)) λz=>put (.agg z) s else C.fail
 |.buildSlice t n parts=>af C (E.nx t) λr=>
   bif Nat.beq parts.toList.length n&&iL 0 (parts.toList.map (·.1))&&decide (n*r.2.len<=16777216)then
   bif E.deep d then
    af C (fD E s r.2.len (parts.toList.map (·.2))) λlss=>
    af C (takes (lss.map λ_=>r.2.kd).flatten lss.flatten s) λq=>
    af C (Dk r.1 r.2 n q.1 (A.kN r.1 r.2)) λx=>let w:=q.2.new (aD d 0 0) (.arr r.1 r.2 true x);put (.one (.ref (aD d 0 0) (w.ob (aD d 0 0)).g 0 [])) w
   else
   af C (gH E s r.1 r.2 (parts.toList.map (·.2)) (A.kN r.1 r.2) s) λq=>let w:=q.2.new (aD d 0 0) (.arr r.1 r.2 false q.1);put (.one (.ref (aD d 0 0) (w.ob (aD d 0 0)).g 0 [])) w
   else C.fail
 |.load t p=>af C (E.ti t) λi=>
   match ev E s 0 p with
   |.one l=>af C (jg s i.agg i.cs.len l) λv=>put v s
   |_=>C.fail
 |.store t p v=>af C (E.ti t) λi=>af C (cells? s (ev E s t v)) λv=>
   bif Nat.beq v.length i.cs.len then
    match ev E s 0 p with
    |.one l=>af C (iv s l v) λw=>put .undef w
    |_=>C.fail
   else C.fail
 |.nilCheck x=>match ev E s 0 x with
   |.one (.ptr id g e)=>af C (dm s id g) λ_=>put (.one (.ptr id g e)) s
   |.one (.bH id g h p j e)=>af C (s.cont id g h p) λc=>bif Nat.beq c.md 0 then C.fail else put (.one (.bH id g h p j e)) s
   |.one (.ei z y e)=>put (.one (.ei z y e)) s
   |_=>C.fail
 |.binOp D t x y _=>
   match gb E s D t x y with
   |some l=>put (.one l) s
   |none=>
   match ev E s t x,ev E s t y with
   |.one x,.one y=>kX C (fw E t) D x y λl=>put (.one l) s
   |.agg xs,.agg K=>af C (E.ti t) λi=>af C (bif E.Fx t then lN i.cs xs K else none) λb=>
     match D with
     |.eql=>put (.one (.val .bool b)) s
     |.neq=>put (.one (.val .bool (A.Cq b))) s
     |_=>C.fail
   |_,_=>C.fail
 |.unOp D t x=>
   match D,ev E s t x with
   |.not,.one (.val .bool b)=>put (.one (.val .bool (A.Cq b))) s
   |.neg,.one (.val (.int k) x)=>put (.one (.val (.int k) (A.neg k x))) s
   |_,_=>C.fail
 |.convert B G x=>af C (E.ti B) λ_=>af C (E.ti G) λi=>
   bif i.agg then C.fail else
   match i.cs,ev E s B x with
   |.cons (.int j) .nil,.one (.val (.int k) x)=>put (.one (.val (.int j) (A.conv k j x))) s
   |.cons .str .nil,y=>af C (E.nx B) λq=>af C (E.ti q.1) λj=>bif j.agg then C.fail else af C (gC s y) λc=>
     bif Nat.beq q.1 c.e&&ar.beq q.2 c.cs then
      if h:Ty.beq (.sl c.e c.cs) (.sl c.e (.cons (.int .u8) .nil))=true then put (.one (.val .str (A.Hu c.e (A.cast h c.x)))) s else C.fail
     else C.fail
   |_,_=>C.fail
 |.makeFunc (.func f) first captured=>
   bif Nat.beq first.size 0 then
    af C (captured.toList.mapM λc=>wj (ev E s 0 c)) λF=>put (.one (.fn f F)) s
   else C.fail
 |.makeMap t r=>af C (E.mp t) λk=>
   bif r.isNone then
    let w:=s.new (aD d 0 0) (.mp k (A.kN 0 (ar.mp k)));put (.one (.cD (aD d 0 0) (w.ob (aD d 0 0)).g)) w
   else C.fail
 |.lookup t m x ok=>af C (E.mp t) λk=>
   bif ok then C.fail else
   match ev E s t m,ev E s 0 x with
   |.one (.cD id g),.one (.val u x)=>af C (sy s id g) λq=>bif decide (q.1=k)then if h:Ty.beq u (.int q.1)=true then put (.one (.val .bool (A.Ep q.1 q.2 (A.cast h x)))) s else C.fail else C.fail
   |.one (.val (.map j) y),.one (.val u x)=>bif decide (j=k)then if h:Ty.beq u (.int j)=true then put (.one (.val .bool (A.GG j y (A.cast h x)))) s else C.fail else C.fail
   |_,_=>C.fail
 |.mapUpdate t m x v=>af C (E.mp t) λk=>
   match ev E s t m,ev E s 0 x,p9 (ev E s 4 v)with
   |.one (.cD id g),.one (.val u x),some v=>af C (sy s id g) λq=>bif decide (q.1=k)then if h:Ty.beq u (.int q.1)=true then put .undef (s.bq id true (.mp q.1 (A.Eu q.1 q.2 (A.cast h x) v)))else C.fail else C.fail
   |_,_,_=>C.fail
 |.makeSlice t n c=>af C (E.nx t) λr=>
   af C (nv (ev E s 3 n)) λH=>
   bif qv n c then
    C.cond (A.DO H) (let w:=s.new (aD d 0 0) (.arr r.1 r.2 (E.deep d) (A.GO r.1 H (eZ A r.2)));put (.one (.ref (aD d 0 0) (w.ob (aD d 0 0)).g 0 [])) w) C.fail
   else C.fail
 |.slice t x J I mx=>jL E C d t s (ev E s t x) J I mx put
 |.fieldAddr t x f=>af C (E.ti t) λi=>af C (i.mh[f]?) λq=>
   bif !i.agg then C.fail else
   match ev E s 0 x with
   |.one (.ptr id g e)=>af C (dm s id g) λ_=>put (.one (.ptr id g (e+q.1))) s
   |.one (.bH id g h p j e)=>af C (s.cont id g h p) λc=>bif Nat.beq c.md 0 then C.fail else put (.one (.bH id g h p j (e+q.1))) s
   |.one (.ei z y e)=>put (.one (.ei z y (e+q.1))) s
   |_=>C.fail
 |.field t x f=>af C (E.ti t) λi=>af C (i.mh[f]?) λq=>
   bif !i.agg then C.fail else
   match ev E s t x with
   |.agg ls=>bif Nat.ble (q.1+q.2.1) ls.length then put (TV.mk q.2.2 ((ls.drop q.1).take q.2.1)) s else C.fail
   |_=>C.fail
 |.indexAddr t x i=>
   af C (nv (ev E s 3 i)) λi=>af C (E.nx t) λq=>
   match ev E s t x with
   |.one (.val (.sl _ z) x)=>bif ar.beq q.2 z then C.cond (A.GC x i) (put (.one (.ei z (A.get x i) 0)) s) C.fail else C.fail
   |.one (.ref id g h p)=>af C (s.cont id g h p) λc=>bif ar.beq q.2 c.cs then C.cond (A.GC c.x i)
     (bif Nat.beq c.md 0 then put (.one (.ei c.cs (A.get c.x i) 0)) s
      else put (.one (.bH id g h p i 0)) s) C.fail else C.fail
   |_=>C.fail
 |.index t x i=>
   bif lP E t then
   af C (BZ (ev E s 3 i)) λi=>af C (Dt (ev E s t x)) λx=>C.cond (A.sin i.1 x i.2) (put (.one (.val (.int .u8) (A.Fo i.1 x i.2))) s) C.fail
   else C.fail
 |.extract t i=>
   match ev E s 0 t with
   |.ol z=>af C (z[i]?) λc=>put (TV.mk c.1 c.2) s
   |_=>C.fail
 |.call c=>bif Nat.beq c.args.size c.argTypes.size then
   let args:=(c.args.toList.zip c.argTypes.toList).map λp=>ev E s p.2 p.1;match c.callee with
   |.builtin b=>dD E C d b c.argTypes.toList args s put
   |.value f=>match ev E s 0 f with
    |.one (.fn f F)=>af C (L (f,wB args)) λg=>nc C g d (args++F.map cU.tv) s put
    |_=>C.fail
   |_=>C.fail
   else C.fail
 |_=>C.fail
def qd(E:Env):Option Nat->Bool
 |none=>true
 |some d=>Nat.ble (d+1) E.nt
abbrev C6(A:nA)(M:Type):=List (TV A)->St A->(TV A->St A->M)->M
structure Lk (A:nA) (M:Type) where
 lo:Nat->Option (Bi A M)
 inl:FuncId->Option (C6 A M)
 GM:Nat->Bool
 ip:Nat->Option (St A->(Ex->St A->M)->M)
def yw(s:St A)(parts:List (Nat×Operand)):Option (St A):=
 match parts with
 |[(0,.tmp j)]=>match s.sl j with
  |.one (.cD id g)=>match sy s id g with
   |some q=>some ((s.bq id true .gone).set j (.one (.val (.map q.1) (A.Hr q.1 q.2))))
   |none=>none
  |_=>none
 |_=>none
def qi(E:Env)(C:xy A M)(a:bA->Option (Callee A M))(I:FuncId->Option (C6 A M))(o:Oper)(s:St A)(k:St A->M):M:=
 match o.op with
 |.call c=>match c.callee with
  |.value (.func f)=>match I f with
   |some t=>bif Nat.beq c.args.size c.argTypes.size then t ((c.args.toList.zip c.argTypes.toList).map λp=>ev E s p.2 p.1) s λv b=>k (b.bI o.dst v)else C.fail
   |none=>aL E C a o s k
  |_=>aL E C a o s k
 |.buildSlice _ _ parts=>match yw s parts.toList with
  |some b=>aL E C a o b k
  |none=>aL E C a o s k
 |.insert t m x v=>aL E C a { o with op:=.mapUpdate t m x v } s k
 |_=>aL E C a o s k
def lq(E:Env)(C:xy A M)(e:bA->Option (Callee A M))(I:FuncId->Option (C6 A M))(a:Array Oper):List Oper->St A->(St A->M)->M
 |[],s,k=>k s
 |o::r,s,k=>
  bif qd E o.dst then
  match o.guard with
  |none=>qi E C e I o s λc=>lq E C e I a r c k
  |some (j,d)=>
   match(a[j]?).bind (·.dst)with
   |none=>C.fail
   |some t=>
    match s.sl t with
    |.one (.val .bool b)=>
     let yes (s:St A):M:=qi E C e I o s λc=>lq E C e I a r c k;let no (s:St A):M:=lq E C e I a r (s.bI o.dst .undef) k
     C.cond b
      (let c:=s.set t (.one (.val .bool (A.mj true)));bif d then yes c else no c)
      (let c:=s.set t (.one (.val .bool (A.mj false)));bif d then no c else yes c)
    |.one .undef=>lq E C e I a r (s.bI o.dst .undef) k
    |_=>C.fail
  else C.fail
def bG:Op->List Operand
 |.move x |.assign x |.box _ x |.load _ x |.nilCheck x |.unOp _ _ x |.convert _ _ x |.fieldAddr _ x _ |.field _ x _ |.extract x _=>[x]
 |.pick c a b=>[c,a,b]
 |.build _ d |.buildSlice _ _ d=>d.toList.map (·.2)
 |.store _ a v |.binOp _ _ a v _ |.makeSlice _ a v |.indexAddr _ a v |.index _ a v=>[a,v]
 |.makeFunc _ _ captured=>captured.toList
 |.lookup _ m x _=>[m,x]
 |.mapUpdate _ m x v=>[m,x,v]
 |.slice _ x l h m=>x::(l.toList++(h.toList++m.toList))
 |.call c=>(match c.callee with |.value f=>[f]|_=>[])++c.args.toList
 |_=>[]
def cU.aK:cU A->List Nat
 |.ptr id _=>[id]
 |.ro _ _=>[]
def Lf.aK:Lf A->List Nat
 |.ref id _ _ _ |.ptr id _ _ |.bH id _ _ _ _ _ |.cD id _=>[id]
 |.fn _ a=>a.flatMap cU.aK
 |_=>[]
def TV.gG:TV A->List (Lf A)
 |.one l=>[l]
 |.agg ls=>ls
 |.ol a=>a.flatMap (·.2)
 |.pQ _ c=>c.2
def TV.aK(v:TV A):List Nat:=v.gG.flatMap Lf.aK
def reach(s:St A)(id:Nat):List Nat:=id::(match(s.ob id).o with |.blk ls=>ls.flatMap Lf.aK|_=>[])
def nQ(s:St A):Operand->List Nat
 |.tmp t=>(s.sl t).aK
 |_=>[]
def yj:Op->Bool
 |.move _ |.assign _ |.pick .. |.extract .. |.field .. |.makeFunc ..=>true
 |_=>false
def mr(s:St A)(o:Oper):List Nat:=bif yj o.op then []else(bG o.op).flatMap λx=>(nQ s x).flatMap (reach s)
def makes:Op->Bool
 |.alloc _ |.box _ _ |.buildSlice .. |.makeSlice .. |.makeMap .. |.slice ..=>true
 |.call c=>match c.callee with
  |.builtin b=>(match b with |.len |.min |.max=>false|_=>true)
  |_=>true
 |_=>false
def kr(o:Oper)(id:Nat):Bool:=makes o.op&&(Nat.ble (aD (o.dst.getD 0) 0 0) id&&Nat.ble (id+1) (aD (o.dst.getD 0) 0 0+2048))
def cU.B1:cU A->Bool
 |.ptr ..=>true
 |.ro ..=>false
def ny(s:St A)(o:Oper):Bool:=
 match o.op with
 |.call c=>(c.args.toList.any λx=>match x with
  |.tmp t=>(match s.sl t with |.one (.ptr ..)=>true |.one (.fn _ a)=>a.any cU.B1|_=>false)
  |_=>false)||(match c.callee with
  |.value (.tmp t)=>(match s.sl t with |.one (.fn _ a)=>a.any cU.B1|_=>false)
  |_=>false)
 |_=>false
def jh(a:List Nat):List Edge->Nat
 |[]=>0
 |e::b=>bif Region.binds .any e then Nat.lor (Nat.lor (a.getD e.on 0) (Nat.shiftLeft 1 e.on)) (jh a b)else jh a b
def gm:List Oper->List Nat->List Nat
 |[],a=>a
 |o::r,a=>gm r (a++[jh a o.after.toList])
def cN(P:List Nat)(i j:Nat):Bool:=Nat.testBit (P.getD i 0) j
def isDst(t:Nat):Option Nat->Bool
 |some d=>Nat.beq d t
 |none=>false
def GX(a:Array Oper)(o:Oper):Option Nat:=
 match o.guard with
 |some (j,_)=>(a[j]?).bind (·.dst)
 |none=>none
def lU(a:Array Oper)(o:Oper):List Nat:=(GX a o).toList++(bG o.op).filterMap λ|.tmp t=>some t|_=>none
def wrote(P:List Nat)(i t:Nat):Nat->List Oper->Bool
 |_,[]=>true
 |j,o::r=>(!isDst t o.dst||(cN P i j||cN P j i))&&wrote P i t (j+1) r
def alone(i:Nat)(d:Option Nat):Nat->List Oper->Bool
 |_,[]=>true
 |j,o::r=>(Nat.beq i j||(match d with|some t=>!isDst t o.dst|none=>true))&&alone i d (j+1) r
def mq(P:List Nat)(a:Array Oper):Nat->List Oper->Bool
 |_,[]=>true
 |i,o::r=>(o.after.toList.all λe=>!Region.binds .any e||Nat.ble (e.on+1) i)&&((lU a o).all λt=>wrote P i t 0 a.toList)&&alone i o.dst 0 a.toList&&(!makes o.op||o.dst.isSome)&&mq P a (i+1) r
structure xz (A:nA) where
 i:Nat
 o:Oper
 s:St A
 s':St A
def zH(s s':St A)(id:Nat):Bool:=Nat.beq (s.ob id).g (s'.ob id).g&&(Nat.beq (s.ob id).h (s'.ob id).h&&Nat.beq (s.ob id).n (s'.ob id).n)
def zJ(a b:xz A):Bool:=((mr a.s a.o).all λid=>zH b.s b.s' id&&(!kr b.o id&&(!ny b.s b.o||Nat.ble (id+1) cO)))&&Nat.ble (aD (a.o.dst.getD 0) 0 0+2048) cO
def uA(P:List Nat)(c:List (xz A)):Bool:=c.all λa=>c.all λb=>Nat.beq a.i b.i||(cN P a.i b.i||(cN P b.i a.i||(!(ny a.s a.o&&ny b.s b.o)&&(zJ a b&&zJ b a))))
def l8(E:Env)(C:xy A M)(f:bA->Option (Callee A M))(a:Array Oper)(P:List Nat):Nat->List Oper->List (xz A)->St A->(St A->M)->M
 |_,[],e,s,k=>bif uA P e then k s else C.fail
 |i,o::r,e,s,k=>
  bif qd E o.dst then
  match o.guard with
  |none=>aL E C f o s λc=>l8 E C f a P (i+1) r (⟨i,o,s,c⟩::e) c k
  |some (j,d)=>
   match(a[j]?).bind (·.dst)with
   |none=>C.fail
   |some t=>
    match s.sl t with
    |.one (.val .bool b)=>
     let yes (s:St A):M:=aL E C f o s λc=>l8 E C f a P (i+1) r (⟨i,o,s,c⟩::e) c k;let no (s:St A):M:=l8 E C f a P (i+1) r e (s.bI o.dst .undef) k
     C.cond b
      (let c:=s.set t (.one (.val .bool (A.mj true)));bif d then yes c else no c)
      (let c:=s.set t (.one (.val .bool (A.mj false)));bif d then no c else yes c)
    |.one .undef=>l8 E C f a P (i+1) r e (s.bI o.dst .undef) k
    |_=>C.fail
  else C.fail
def nU(E:Env)(C:xy A M)(b:bA->Option (Callee A M))(a:Array Oper)(s:St A)(k:St A->M):M:=bif mq (gm a.toList []) a 0 a.toList then l8 E C b a (gm a.toList []) 0 a.toList [] s k else C.fail
def zh(I:FuncId->Option (C6 A M)):Nat->List Oper->Option Nat
 |_,[]=>none
 |i,o::r=>match o.op with
  |.call c=>match c.callee with
   |.value (.func f)=>bif (I f).isSome then some i else zh I (i+1) r
   |_=>zh I (i+1) r
  |_=>zh I (i+1) r
def ox(P:List Nat)(m:Nat):Nat->List Oper->Bool
 |_,[]=>true
 |i,o::r=>(o.after.toList.all λe=>!Region.binds .any e||Nat.ble (e.on+1) i)&&((bif Nat.ble m i then o.guard.isNone&&((List.range i).all λj=>cN P i j)else match o.guard with|none=>true|some (j,_)=>Nat.ble (j+1) m)&&ox P m (i+1) r)
def uR(E:Env)(C:xy A M)(b:bA->Option (Callee A M))(I:FuncId->Option (C6 A M))(a:Array Oper)(m:Nat)(s:St A)(k:St A->M):M:=bif Nat.ble m a.toList.length&&ox (gm a.toList []) m 0 a.toList then nU E C b (a.toList.take m).toArray s λc=>lq E C b I a (a.toList.drop m) c k else C.fail
def rootOf(a:List Oper)(x:Nat):Nat:=
 match a.find? λo=>isDst x o.dst with
 |some o=>(match o.op with |.move (.tmp v) |.assign (.tmp v)=>v|_=>x)
 |none=>x
def w5(a:List Oper):List Nat:=a.filterMap λo=>match o.op with
 |.slice _ (.tmp x) _ _ _=>some (rootOf a x)
 |_=>none
def qw:List Nat->List Nat
 |[]=>[]
 |x::r=>bif r.any (Nat.beq x)then x::qw r else qw r
def Eb(s:St A)(t:Nat):St A:=
 match s.sl t with
 |.one (.ref id g _ [])=>bif Nat.beq (s.ob id).g g then(match(s.ob id).o with |.arr e a _ x=>s.bq id true (.bQ e a x)|_=>s)else s
 |_=>s
def F6(a:Array Oper)(s:St A):St A:=(qw (w5 a.toList)).foldl Eb s
def b9(c:List Nat):Code->Bool
 |.skip |.exit _ |.ret=>true
 |.region _ e _=>e.toList.all λo=>match o.dst with|none=>true|some d=>!c.any (Nat.beq d)
 |.seq a b |.cond _ a b=>b9 c a&&b9 c b
 |.block _ b |.loop b=>b9 c b
 |_=>false
def jI:Code->Bool
 |.loop _=>false
 |.seq a b |.cond _ a b=>jI a&&jI b
 |.block _ b=>jI b
 |_=>true
def exec(E:Env)(C:xy A M)(g:bA->Option (Callee A M))(L:Lk A M):Nat->Code->St A->(Ex->St A->M)->M
 |_,.skip,s,k=>k .normal s
 |_,.region _ f d,s,k=>bif d then(match zh L.inl 0 f.toList with|some m=>uR E C g L.inl f m s (k .normal)|none=>nU E C g f (F6 f s) (k .normal))else lq E C g L.inl f f.toList s (k .normal)
 |n,.seq a b,s,k=>exec E C g L n a s λe h=>match e with
  |.normal=>exec E C g L n b h k
  |e=>k e h
 |n,.cond c a b,s,k=>match ev E s 4 c with
  |.one (.C4 x y)=>C.cond x (bif y then exec E C g L n a s k else exec E C g L n b s k) (C.both (exec E C g L n a s k) (exec E C g L n b s k))
  |v=>af C (p9 v) λc=>C.cond c (exec E C g L n a s k) (exec E C g L n b s k)
 |_,.block i b,s,k=>exec E C g L i b s λe h=>match e with
  |.exit j=>bif Nat.beq j i then k .normal h else k (.exit j) h
  |e=>k e h
 |n,.loop c,s,k=>match L.ip n with
  |some t=>t s k
  |none=>af C (L.lo n) λl=>
  bif l.keep.all (λp=>p.2.eG)&&b9 (l.keep.map (·.1)) c then
   let go (s:St A):M:=af C (fC l.keep s) λo=>af C (fC l.gZ o.2) λx=>l.run o.1 x.1 λe t y=>k e (om t y (om _ o.1 St.start))
   bif L.GM n&&jI c then exec E C g L n c s λe h=>match e with
    |.normal=>go h
    |e=>k e h
   else go s
  else C.fail
 |_,.exit i,s,k=>k (.exit i) s
 |_,.ret,s,k=>k .ret s
 |_,_,_,_=>C.fail
mutual
def Ty.T:Ty->Type
 |.int _=>Int
 |.bool=>Bool
 |.str=>ByteArray
 |.map _=>List (Int×Bool)
 |.sl _ a=>List a.T
def ar.T:ar->Type
 |.nil=>Unit
 |.cons t ts=>match ts with
  |.nil=>t.T
  |.cons _ _=>t.T×ts.T
end
def kp:{t:Ty}->{ts:ar}->(ar.cons t ts).T->t.T
 |_,.nil,x=>x
 |_,.cons _ _,x=>x.1
def jP:{t:Ty}->{ts:ar}->(ar.cons t ts).T->ts.T
 |_,.nil,_=>()
 |_,.cons _ _,x=>x.2
def kZ:{t:Ty}->{ts:ar}->t.T->ts.T->(ar.cons t ts).T
 |_,.nil,x,_=>x
 |_,.cons _ _,x,y=>(x,y)
def kI{t:Ty}{ts:ar}(x:t.T)(y:ts.T):kp (kZ x y)=x:=by cases ts <;> rfl
def kK{t:Ty}{ts:ar}(x:t.T)(y:ts.T):jP (kZ x y)=y:=by cases ts <;> rfl
def D5{t:Ty}{ts:ar}(x:(ar.cons t ts).T):kZ (kp x) (jP x)=x:=by cases ts <;> rfl
mutual
def zT:(t:Ty)->t.T
 |.int _=>(0:Int)
 |.bool=>false
 |.str=>ByteArray.empty
 |.map _=>[]
 |.sl _ _=>[]
def jk:(a:ar)->a.T
 |.nil=>()
 |.cons t ts=>kZ (zT t) (jk ts)
end
def aa(a:BinOp)(k:IntKind)(x y:Int):Int:=
 match a with
 |.add=>k.wrap (x+y)
 |.sub=>k.wrap (x-y)
 |.mul=>k.wrap (x*y)
 |.quo=>k.wrap (x.tdiv y)
 |.rem=>x.tmod y
 |.and=>k.wrap (BitVec.ofInt k.bits x &&& BitVec.ofInt k.bits y).toNat
 |.or=>k.wrap (BitVec.ofInt k.bits x |||BitVec.ofInt k.bits y).toNat
 |.xor=>k.wrap (BitVec.ofInt k.bits x ^^^ BitVec.ofInt k.bits y).toNat
 |.andNot=>k.wrap (BitVec.ofInt k.bits x &&& ~~~BitVec.ofInt k.bits y).toNat
 |_=>0
def ej(a:BinOp)(k:IntKind)(x y:Int):Int:=
 match a with
 |.shl=>k.wrap (x*2 ^ (min y.toNat k.bits))
 |_=>x.fdiv (2 ^ (min y.toNat k.bits))
def ak(a:BinOp)(x y:Int):Bool:=
 match a with
 |.eql=>x==y
 |.neq=>x != y
 |.lss=>decide (x<y)
 |.leq=>decide (x<=y)
 |.gtr=>decide (x>y)
 |.geq=>decide (x>=y)
 |_=>false
def wW(a:BinOp)(x y:ByteArray):Bool:=
 match a with
 |.eql=>x.toList==y.toList
 |.neq=>!(x.toList==y.toList)
 |.lss=>Op.bytesLess x.toList y.toList
 |.leq=>Op.bytesLess x.toList y.toList||x.toList==y.toList
 |.gtr=>!(Op.bytesLess x.toList y.toList||x.toList==y.toList)
 |.geq=>!Op.bytesLess x.toList y.toList
 |_=>false
def tQ(s:ByteArray)(i:Int):Int:=if h:i.toNat<s.size then((s[i.toNat]'h).toNat:Int)else 0
def eE(x:Int):Bool:=decide (x=0)
def sG(x:Int):Bool:=decide (x<0)
def pI(x y:Bool):Bool:=x==y
def Ez(k:IntKind)(x:Int):Int:=k.wrap (0-x)
def eo(j:IntKind)(x:Int):Int:=j.wrap x
def nS(b:Bool)(x y:Int):Int:=bif b then(if y>x then y else x)else(if y<x then y else x)
def nT(x:List Int):ByteArray:=x.foldl (λr n=>r.push (UInt8.ofNat n.toNat)) ByteArray.empty
def lz(x y:ByteArray):Bool:=decide (x.size+y.size<=1073741824)
def Cz(x:ByteArray)(i:Int):Bool:=decide (0<=i)&&decide (i<(x.size:Int))
def bw{α:Type}(x:List α):Int:=(x.length:Int)
def dF{α:Type}(x:List α):Bool:=decide ((x.length:Int)<=limit)
def aZ{α:Type}(x:List α)(i:Int):Bool:=decide (0<=i)&&decide (i<(x.length:Int))
def ae{α:Type}(z:α)(x:List α)(i:Int):α:=x.getD i.toNat z
def cS{α:Type}(x:List α)(i:Int)(y:α):List α:=x.set i.toNat y
def yD{α:Type}(x:List α)(l h:Int):List α:=(x.drop l.toNat).take (h.toNat-l.toNat)
def mT{α:Type}(x:List α)(l h:Int):Bool:=decide (0<=l)&&(decide (l<=h)&&decide (h<=(x.length:Int)))
def nw{α:Type}(n:Int)(y:α):List α:=List.replicate n.toNat y
def lu(n:Int):Bool:=decide (0<=n)&&decide (n<=limit)
def jK:List (Int×Bool)->Int->Bool
 |[],_=>false
 |y::r,k=>bif k==y.1 then y.2 else jK r k
def qf:List (Int×Bool)->Int->Bool->List (Int×Bool)
 |[],k,v=>[(k,v)]
 |y::r,k,v=>bif k==y.1 then(k,v)::r else y::qf r k v
def real:nA where
 V:=Ty.T
 Vs:=ar.T
 zz _ n:=n
 mj b:=b
 Eo s:=s
 arith op k x y:=aa op k x y
 shift op k _ x y:=ej op k x y
 isZero _ x:=eE x
 DI _ x:=sG x
 cmp op _ x y:=ak op x y
 C9 x y:=pI x y
 Cq x:=Bool.not x
 EY x y:=Bool.and x y
 neg k x:=Ez k x
 conv _ j x:=eo j x
 Co b _ x y:=nS b x y
 Fm op x y:=wW op x y
 Fl x y:=ByteArray.append x y
 DQ x y:=lz x y
 EC x:=(ByteArray.size x:Int)
 Hu _ x:=nT x
 sin _ x i:=Cz x i
 Fo _ x i:=tQ x i
 kN _ _:=[]
 len x:=bw x
 small x:=dF x
 GC x i:=aZ x i
 get {_ cs} x i:=ae (jk cs) x i
 put x i y:=cS x i y
 push x y:=List.append x [y]
 cat x y:=List.append x y
 sub x l h:=yD x l h
 DR x l h:=mT x l h
 GO _ _ n y:=nw n y
 DO n:=lu n
 Ep _ x i:=jK x i
 Eu _ x i v:=qf x i v
 Hr _ x:=x
 GG _ x i:=jK x i
 Hs _:=[]
 nl:=()
 cn x y:=kZ x y
 hd x:=kp x
 tl x:=jP x
noncomputable def both{R:Type}(x y:Option R):Option R:=by classical exact if x=y then x else none
def z6{R:Type}{x y:Option R}{r:R}(h:both x y=some r):x=some r/\y=some r:=by
 grind[both]
def CZ{R:Type}(x:Option R):both x x=x:=by simp[both]
noncomputable def av(R:Type):xy real (Option R) where
 cond b x y:=bif b then x else y
 both x y:=Go.R.both x y
 fail:=none
abbrev Key:=Nat×List (Nat×Nat)
abbrev aq:=Nat->Option Key
inductive Md where
 |bQ
 |flat (k:Key)
 |deep (k:Key)
def Md.inner:Md->Nat->Nat->Md
 |.deep k,i,j=>.deep (k.1,k.2++[(i,j)])
 |_,_,_=>.bQ
def Md.has:Md->Key->Prop
 |.bQ,_=>False
 |.flat k,a=>a=k
 |.deep k,a=>a.1=k.1/\k.2 <+: a.2
def Md.tq{a:Md}{i j:Nat}{k:Key}(h:(a.inner i j).has k):a.has k:=by
 cases a with
 |bQ=>exact h
 |flat _=>exact h.elim
 |deep b=>exact⟨h.1,(List.prefix_append _ _).trans h.2⟩
def Hd(w:World)(f:aq)(e:Nat)(h:Nat)(g:Md)(a:Option Addr)(n c:Nat):Prop:=
 match g with
 |.bQ=>0<n->∃b d,a=some ⟨b,d,none⟩/\f b=none/\b<w.heap.size
 |.flat k |.deep k=>(c=0/\n=0)\/∃b arr,a=some ⟨b,0,none⟩/\w.heap[b]? = some (.cells arr e (0,0))/\arr.size=c*h/\f b=some k
def aH{α c:Type}(r:α->c->Prop):List α->List c->Prop
 |[],[]=>True
 |a::d,b::e=>r a b/\aH r d e
 |_,_=>False
def AW(k:IntKind)(a:List MapEntry)(x:List (Int×Bool)):Prop:=aH (λ(e:MapEntry) (y:Int×Bool)=>e.key=.int k y.1/\e.val=.bool y.2) a x
def zR(w:World)(e:aq)(d:Md)(k:IntKind)(v:Value)(x:List (Int×Bool)):Prop:=(v=.map none/\x=[])\/d=.bQ/\∃b a c,v=.map (some b)/\e b=none/\b<w.heap.size/\w.heap[b]? = some (.map a c)/\AW k a.toList x
mutual
def Ty.R(w:World)(g:aq):(t:Ty)->Md->Value->t.T->Prop
 |.int k,_,v,x=>v=.int k x
 |.bool,_,v,x=>v=.bool x
 |.str,_,v,x=>v=.string x
 |.map k,d,v,x=>zR w g d k v x
 |.sl e b,d,v,x=>∃a n c,v=.slice a n c/\List.length x=n/\n<=c/\Hd w g e b.len d a n c /\
   ∀(i:Nat) (f:Addr),i<n->a=some f->ar.R w g b (d.inner i) (λj=>w.cell? ⟨f.block,f.off+i*b.len+j,none⟩) 0 (List.getD x i (jk b))
def ar.R(w:World)(b:aq):(c:ar)->(Nat->Md)->(Nat->Option Value)->Nat->c.T->Prop
 |.nil,_,_,_,_=>True
 |.cons t ts,a,get,j,x=>(∃v,get j=some v/\t.R w b (a j) v (kp x))/\ar.R w b ts a get (j+1) (jP x)
end
def aM{w:World}{b:Nat}{o:Obj}(h:w.heap[b]? = some o):b<w.heap.size:=(kT.1 h).1
theorem fN{w w':World}{a:Addr}(h:w'.heap[a.block]? = w.heap[a.block]?):w'.cell? a=w.cell? a:=by unfold World.cell?;rw[h]
def lW(w:World)(a:aq)(e:World)(c:aq)(d:Md):Prop:=∀b,b<w.heap.size->(a b=none\/∃k,a b=some k/\d.has k)->e.heap[b]? = w.heap[b]? /\ c b=a b
theorem lW.inner{w w':World}{d a:aq}{c:Md}(h:lW w d w' a c)(i j:Nat):lW w d w' a (c.inner i j):=λb g l=>h b g (l.imp id λ⟨k,e,f⟩=>⟨k,e,Md.tq f⟩)
def Hd.frame{w w':World}{o j:aq}{e sz:Nat}{l:Md}{a:Option Addr}{n c:Nat}(q:w.heap.size<=w'.heap.size)(H:lW w o w' j l)(h:Hd w o e sz l a n c):Hd w' j e sz l a n c:=by
 cases l with
 |bQ=>intro p;obtain⟨b,m,g,d,f⟩:=h p;exact⟨b,m,g,(H b f (.inl d)).2.trans d,c6 f q⟩
 |flat k=>
  rcases h with h|⟨b,arr,g,d,f,i⟩
  .exact .inl h
  .have:=H b (aM d) (.inr ⟨k,i,rfl⟩);exact .inr ⟨b,arr,g,this.1.trans d,f,this.2.trans i⟩
 |deep k=>
  rcases h with h|⟨b,arr,g,d,f,i⟩
  .exact .inl h
  .have:=H b (aM d) (.inr ⟨k,i,rfl,List.prefix_refl _⟩);exact .inr ⟨b,arr,g,this.1.trans d,f,this.2.trans i⟩
def Hd.block{w:World}{l:aq}{e sz:Nat}{j:Md}{a:Option Addr}{n c:Nat}(h:Hd w l e sz j a n c)(o:0<n):
  ∃b d,a=some ⟨b,d,none⟩/\b<w.heap.size/\(l b=none\/∃k,l b=some k/\j.has k):=by
 cases j with
 |bQ=>
  obtain⟨b,d,f,g,m⟩:=h o
  grind
 |flat k=>
  rcases h with h|⟨b,arr,f,g,m,i⟩
  .omega
  .exact⟨b,0,f,aM g,.inr ⟨k,i,rfl⟩⟩
 |deep k=>
  rcases h with h|⟨b,arr,f,g,m,i⟩
  .omega
  .exact⟨b,0,f,aM g,.inr ⟨k,i,rfl,List.prefix_refl _⟩⟩
def zR.frame{w w':World}{g a:aq}{d:Md}{k:IntKind}{v:Value}{x:List (Int×Bool)}(o:w.heap.size<=w'.heap.size)(H:lW w g w' a d)(h:zR w g d k v x):zR w' a d k v x:=by
 rcases h with h|⟨n,b,i,c,j,e,f,l,m⟩
 .exact .inl h
 .have:=H b f (.inl e);exact .inr ⟨n,b,i,c,j,this.2.trans e,c6 f o,this.1.trans l,m⟩
def Ty.atom(t:Ty):Prop:=(∀e a,t≠.sl e a)/\∀k,t≠.map k
mutual
def Ty.bZ{w w':World}{o d:aq}(g:w.heap.size<=w'.heap.size):∀(t:Ty) (f:Md) (v:Value) (x:t.T),lW w o w' d f->t.R w o f v x->t.R w' d f v x
 |.int _,_,_,_,_,h=>h
 |.bool,_,_,_,_,h=>h
 |.str,_,_,_,_,h=>h
 |.map k,_,_,_,H,h=>zR.frame g H h
 |.sl e p,f,v,x,H,h=>by
  obtain⟨a,n,c,s,u,y,m,z⟩:=h;refine⟨a,n,c,s,u,y,m.frame g H,λi l B A=>?_⟩;obtain⟨b,C,D,q,r⟩:=m.block (by omega);have E:l.block=b:=by grind
  exact ar.bZ g p _ _ _ 0 _ (λj=>H.inner i j) (λj=>by
   have:=(H b q r).1
   grind[fN]) (z i l B A)
def ar.bZ{w w':World}{i b:aq}(f:w.heap.size<=w'.heap.size):∀(d:ar) (a:Nat->Md) (g c:Nat->Option Value) (j:Nat) (x:d.T),(∀j,lW w i w' b (a j))->(∀j,c j=g j)->d.R w i a g j x->d.R w' b a c j x
 |.nil,_,_,_,_,_,_,_,_=>trivial
 |.cons t ts,a,g,c,j,x,H,e,h=>by obtain⟨⟨v,k,l⟩,m⟩:=h;exact⟨⟨v,(e j).trans k,Ty.bZ f t (a j) v _ (H j) l⟩,ar.bZ f ts a g c (j+1) _ H e m⟩
end
variable {H:Nat->Value}
def aH.length{α c:Type}{r:α->c->Prop}:∀ {a:List α} {b:List c},aH r a b->a.length=b.length
 |[],[],_=>rfl
 |_::_,_::_,h=>by simp[aH.length h.2]
 |[],_::_,h=>h.elim
 |_::_,[],h=>h.elim
def aH.mono{α g:Type}{r f:α->g->Prop}(e:∀a b,r a b->f a b):∀ {c:List α} {d:List g},aH r c d->aH f c d
 |[],[],_=>trivial
 |_::_,_::_,h=>⟨e _ _ h.1,aH.mono e h.2⟩
 |[],_::_,h=>h.elim
 |_::_,[],h=>h.elim
def aH.get{α d:Type}{r:α->d->Prop}:∀ {e:List α} {f:List d},aH r e f->∀(i:Nat) (b:d),f[i]? = some b->∃a,e[i]? = some a/\r a b
 |[],[],_,i,b,c=>by simp at c
 |a::_,b::_,h,0,_,c=>by simp at c;subst c;exact⟨a,rfl,h.1⟩
 |_::_,_::_,h,i+1,b,c=>by simpa using aH.get h.2 i b (by simpa using c)
 |[],_::_,h,_,_,_=>h.elim
 |_::_,[],h,_,_,_=>h.elim
def aH.iP{α a:Type}{r:α->a->Prop}:∀ {b:List α} {c:List a} {d:List α} {e:List a},aH r b c->aH r d e->aH r (b++d) (c++e)
 |[],[],_,_,_,h=>h
 |_::_,_::_,_,_,h,f=>⟨h.1,aH.iP h.2 f⟩
 |[],_::_,_,_,h,_=>h.elim
 |_::_,[],_,_,h,_=>h.elim
def aH.take{α c:Type}{r:α->c->Prop}:∀ {a:List α} {b:List c} (n:Nat),aH r a b->aH r (a.take n) (b.take n)
 |[],[],n,_=>by simp[aH]
 |_::_,_::_,0,_=>trivial
 |_::_,_::_,n+1,h=>⟨h.1,aH.take n h.2⟩
 |[],_::_,_,h=>h.elim
 |_::_,[],_,h=>h.elim
theorem aH.drop{α c:Type}{r:α->c->Prop}:∀ {a:List α} {b:List c} (n:Nat),aH r a b->aH r (a.drop n) (b.drop n)
 |[],[],n,_=>by simp[aH]
 |_::_,_::_,0,h=>h
 |_::_,_::_,n+1,h=>aH.drop n h.2
 |[],_::_,_,h=>h.elim
 |_::_,[],_,h=>h.elim
def aH.GF{α e g:Type}{r:α->e->Prop}(f:g->e):∀ {b:List α} {d:List g},aH r b (d.map f)↔aH (λa c=>r a (f c)) b d
 |[],[]=>Iff.rfl
 |_::_,_::_=>and_congr Iff.rfl (aH.GF f)
 |[],_::_=>Iff.rfl
 |_::_,[]=>Iff.rfl
abbrev L:=Lf real
abbrev S:=St real
abbrev bK:=TV real
abbrev IV:=real.V (.int .i64)
def IV.i(x:IV):Int:=x
abbrev iU:=List (IV×Nat)
def aC(p:iU):List (Nat×Nat):=p.map λq=>(q.1.i.toNat,q.2)
def aI(a id:Nat)(p:iU):Md:=
 match a with
 |0=>.bQ
 |1=>.flat (id,[])
 |_=>.deep (id,aC p)
def jd(w:World)(d:aq)(v:Value)(c:ar)(x:c.T)(a:Nat):Prop:=∃b o,d b=none/\b<w.heap.size/\v=.pointer (some ⟨b,o+a,none⟩)/\c.R w d (λ_=>.bQ) (λj=>w.cell? ⟨b,o+j,none⟩) 0 x
def yZ(c:aq)(s:S)(v:Value)(id g a:Nat):Prop:=g<=(s.ob id).g/\((s.ob id).g=g->∀cells,(s.ob id).o=.blk cells->∃b,c b=some (id,[])/\v=.pointer (some ⟨b,a,none⟩))
def gK(w:World)(a:aq)(s:S)(v:Value):cU real->Prop
 |.ptr id g=>yZ a s v id g 0
 |.ro b x=>jd w a v b x 0
def sN(w:World)(d:aq)(s:S)(v:Value)(id g:Nat):Prop:=g<=(s.ob id).g/\((s.ob id).g=g->∀k x,(s.ob id).o=.mp k x->∃b a c,d b=some (id,[])/\v=.map (some b)/\w.heap[b]? = some (.map a c)/\AW k a.toList x)
def bU(w:World)(e:aq)(s:S)(v:Value):L->Prop
 |.val t x=>t.R w e .bQ v x
 |.eI _ _=>∃a,v=.slice a 0 0
 |.ref id g h p=>g<=(s.ob id).g/\h<=(s.ob id).h+(if g=(s.ob id).g then 0 else h) /\
   ∀c,s.cont id g h p=some c->(Ty.sl c.e c.cs).R w e (aI c.md id p) v c.x
 |.ptr id g d=>yZ e s v id g d
 |.bH id g h p i d=>g<=(s.ob id).g/\h<=(s.ob id).h+(if g=(s.ob id).g then 0 else h) /\
   ∀c,s.cont id g h p=some c->c.md≠0->0<=IV.i i/\IV.i i<(List.length c.x:Int)/\(∃b,e b=some (id,aC p)/\v=.pointer (some ⟨b,(IV.i i).toNat*c.cs.len+d,none⟩)) /\
   ∃m,(Ty.sl c.e c.cs).R w e (aI c.md id p) m c.x
 |.ei l x d=>jd w e v l x d
 |.cD id g=>sN w e s v id g
 |.fn f j=>∃k:List Value,v=.func (.func f) #[] k.toArray/\aH (λv c=>gK w e s v c) k j
 |.C4 x y=>∃b:Bool,v=.bool b/\((x:Bool)=true->b=y)
 |.undef=>v=undef
 |.dead=>True
def lX(w:World)(b:aq)(s:S)(v:Value)(c:Bool×List L):Prop:=
 match c with
 |(true,ls)=>∃a:List Value,v=.agg a.toArray/\aH (bU w b s) a ls
 |(false,ls)=>∀l,ls=[l]->bU w b s v l
def cQ(H:Nat->Value)(w:World)(b:aq)(s:S)(v:Value):bK->Prop
 |.one l=>bU w b s v l
 |.agg ls=>∃a:List Value,v=.agg a.toArray/\aH (bU w b s) a ls
 |.ol d=>∃a:List Value,v=.tuple a.toArray/\aH (lX w b s) a d
 |.pQ i c=>lX w b s (H i) c
def zQ(w:World)(a:aq):Prop:=∀q∈Fp,q.1<w.heap.size/\a q.1=none/\∃T m,w.heap[q.1]? = some (.cells q.2 T m)
structure Rel (H:Nat->Value) (ω:aq) (a:Act) (w:World) (s:S):Prop where
 dH:zQ w ω
 inj:∀b b' k,ω b=some k->ω b'=some k->b=b'
 dom:∀b k,ω b=some k->b<w.heap.size
 defers:a.defers=[]
 slots:∀i,cQ H w ω s (a.tmps.getD i undef) (s.sl i)
 dJ:(s.ob 0).o=.gone
 c7:∀id cells,(s.ob id).o=.blk cells->∃b arr T,ω b=some (id,[])/\w.heap[b]? = some (.cells arr T (0,0))/\aH (bU w ω s) arr.toList cells
def my(a:aq)(b:Nat):Prop:=a b=none\/∃q,a b=some (0,q)
def my.ne{a:aq}{b id:Nat}{q:List (Nat×Nat)}(h:my a b)(c:a b=some (id,q))(d:id≠0):False:=by
 rcases h with h|⟨e,h⟩
 .rw[c]at h;cases h
 grind
structure cH (ω:aq) (w:World) (cu:aq) (w':World):Prop where
 os:w'.os=w.os
 tape:w'.tape=w.tape
 output:w'.output=w.output/\w.drawn<=w'.drawn
 size:w.heap.size<=w'.heap.size
 block:∀b,b<w.heap.size->my ω b->w'.heap[b]? = w.heap[b]? /\ cu b=ω b
theorem cH.refl(a:aq)(w:World):cH a w a w:=⟨rfl,rfl,⟨rfl,az _⟩,az _,λ_ _ _=>⟨rfl,rfl⟩⟩
def cH.trans{i d a:aq}{w w' w'':World}(h:cH i w d w')(c:cH d w' a w''):cH i w a w'':=
 ⟨c.os.trans h.os,c.tape.trans h.tape,⟨c.output.1.trans h.output.1,eK h.output.2 c.output.2⟩,eK h.size c.size,λb g j=>
  have e:=h.block b g j;have f:=c.block b (c6 g h.size) (by grind[my])
  ⟨f.1.trans e.1,f.2.trans e.2⟩⟩
def zQ.ext{b a:aq}{w w':World}(h:zQ w b)(e:cH b w a w'):zQ w' a:=λq f=>by
 obtain⟨c,d,T,m,j⟩:=h q f;obtain⟨g,i⟩:=e.block q.1 c (.inl d)
 grind
def Fz{b:aq}{w:World}(h:Fp=[]):zQ w b:=λq a=>by rw[h]at a;cases a
def zQ.own{d a:aq}{w:World}(h:zQ w d)(e:∀b,d b=none->a b=none):zQ w a:=λq c=>⟨(h q c).1,e _ (h q c).2.1,(h q c).2.2⟩
def cH.keeps{d c:aq}{w w':World}(h:cH d w c w'):lW w d w' c .bQ:=by
 intro b e a;rcases a with a|⟨k,_,a⟩
 .exact h.block b e (.inl a)
 .exact a.elim
def jd.ext{k d:aq}{w w':World}(h:cH k w d w'){v:Value}{e:ar}{x:e.T}{c:Nat}(n:jd w k v e x c):jd w' d v e x c:=by obtain⟨b,o,f,g,l,m⟩:=n;have i:=h.block b g (.inl f);exact⟨b,o,i.2.trans f,c6 g h.size,l,ar.bZ h.size e _ _ _ 0 _ (λ_=>h.keeps) (λj=>fN (a:=⟨b,o+j,none⟩) i.1) m⟩
structure gx (w:World) (ω:aq) (s:S) (w':World) (cu:aq) (s':S) (id:Nat):Prop where
 ob:s'.ob id=s.ob id
 block:∀b k,b<w.heap.size->ω b=some k->k.1=id->w'.heap[b]? = w.heap[b]? /\ cu b=ω b
def dj(s s':S)(id:Nat):Prop:=(s.ob id).g<(s'.ob id).g
theorem gx.cont{w w':World}{c a:aq}{s s':S}{id:Nat}(h:gx w c s w' a s' id)(g b:Nat)(p:iU):s'.cont id g b p=s.cont id g b p:=by unfold St.cont;rw[h.ob]
theorem yn(a id:Nat)(p:iU)(k:Key)(h:(aI a id p).has k):k.1=id:=by
 unfold aI at h;split at h
 .exact h.elim
 .have:k=(id,[]):=h;rw[this]
 .exact h.1
def gx.keeps{w w':World}{d a:aq}{s s':S}{id:Nat}(h:gx w d s w' a s' id)(i:cH d w a w')(j:Nat)(p:iU):lW w d w' a (aI j id p):=by
 intro b e c;rcases c with c|⟨k,f,g⟩
 .exact i.block b e (.inl c)
 .exact h.block b k e f (yn _ _ _ _ g)
structure Tr (w:World) (ω:aq) (s:S) (w':World) (cu:aq) (s':S) (id:Nat):Prop where
 ref:∀v g h p,bU w ω s v (.ref id g h p)->bU w' cu s' v (.ref id g h p)
 ptr:∀v g off,yZ ω s v id g off->yZ cu s' v id g off
 bH:∀v g h p i off,bU w ω s v (.bH id g h p i off)->bU w' cu s' v (.bH id g h p i off)
 cD:∀v g,sN w ω s v id g->sN w' cu s' v id g
theorem St.qP{s s':S}{id:Nat}(b:dj s s' id){g:Nat}(a:g<=(s.ob id).g)(h:Nat)(p:iU):s'.cont id g h p=none:=by
 grind[St.cont,Nat.eq_of_beq_eq_true,dj]
theorem gx.tr{w w':World}{o f:aq}{s s':S}{id:Nat}(a:gx w o s w' f s' id)(n:cH o w f w')(hd:∀b k,o b=some k->b<w.heap.size):Tr w o s w' f s' id where
 ref v g hh p h:=by refine⟨by rw[a.ob];exact h.1,by rw[a.ob];exact h.2.1,λc d=>?_⟩;rw[a.cont]at d;exact Ty.bZ n.size _ _ _ _ (a.keeps n _ _) (h.2.2 c d)
 ptr v g off h:=by refine⟨by rw[a.ob];exact h.1,λj cells d=>?_⟩;rw[a.ob]at j d;obtain⟨b,e,l⟩:=h.2 j cells d;exact⟨b,(a.block b _ (hd b _ e) e rfl).2.trans e,l⟩
 bH v g hh p i off h:=by refine⟨by rw[a.ob];exact h.1,by rw[a.ob];exact h.2.1,λc d t=>?_⟩;rw[a.cont]at d;obtain⟨e,l,⟨b,m,q⟩,u,r⟩:=h.2.2 c d t;exact⟨e,l,⟨b,(a.block b _ (hd b _ m) m rfl).2.trans m,q⟩,u,Ty.bZ n.size _ _ _ _ (a.keeps n _ _) r⟩
 cD v g h:=by
  refine⟨by rw[a.ob];exact h.1,λj k x d=>?_⟩;rw[a.ob]at j d;obtain⟨b,y,c,e,l,m,q⟩:=h.2 j k x d;have z:=a.block b _ (hd b _ e) e rfl
  grind
def sN.shut{w w':World}{e a:aq}{s s':S}{v:Value}{id g:Nat}(h:sN w e s v id g)(c:(s'.ob id).g=(s.ob id).g)(d:∀k x,(s'.ob id).o≠.mp k x):sN w' a s' v id g:=⟨by rw[c];exact h.1,λ_ k x b=>absurd b (d k x)⟩
theorem dj.tr{w w':World}{k d:aq}{s s':S}{id:Nat}(b:dj s s' id):Tr w k s w' d s' id where
 ref v g hh p h:=by
  have e:=h.1;have a:=b;unfold dj at a;refine⟨by omega,by split <;> omega,λc f=>?_⟩
  grind[St.qP]
 ptr v g off h:=by have:=h.1;have a:=b;unfold dj at a;exact⟨by omega,λj=>by omega⟩
 bH v g hh p i off h:=by
  have e:=h.1;have a:=b;unfold dj at a;refine⟨by omega,by split <;> omega,λc f=>?_⟩
  grind[St.qP]
 cD v g h:=by have:=h.1;have a:=b;unfold dj at a;exact⟨by omega,λj=>by omega⟩
section
variable {w w':World}{ω cu:aq}{s s':S}(he:cH ω w cu w')(ht:∀id,Tr w ω s w' cu s' id)
include he ht
theorem gK.frame{v:Value}:∀ {c:cU real},gK w ω s v c->gK w' cu s' v c
 |.ptr id _,h=>(ht id).ptr _ _ _ h
 |.ro _ _,h=>jd.ext he h
theorem bU.frame{v:Value}:∀ {l:L},bU w ω s v l->bU w' cu s' v l
 |.val t x,h=>Ty.bZ he.size t .bQ v x he.keeps h
 |.eI _ _,h=>h
 |.ref id _ _ _,h=>(ht id).ref _ _ _ _ h
 |.ptr id _ _,h=>(ht id).ptr _ _ _ h
 |.bH id _ _ _ _ _,h=>(ht id).bH _ _ _ _ _ _ h
 |.ei _ _ _,h=>jd.ext he h
 |.cD id _,h=>(ht id).cD _ _ h
 |.fn _ _,h=>by obtain⟨a,b,c⟩:=h;exact⟨a,b,c.mono λ_ _ d=>gK.frame he ht d⟩
 |.C4 _ _,h=>h
 |.undef,h=>h
 |.dead,_=>trivial
theorem lX.frame{v:Value}:∀ {c:Bool×List L},lX w ω s v c->lX w' cu s' v c
 |(true,_),⟨f,a,b⟩=>⟨f,a,b.mono λ_ _ d=>bU.frame he ht d⟩
 |(false,_),h=>λl e=>bU.frame he ht (h l e)
theorem cQ.frame{v:Value}:∀ {t:bK},cQ H w ω s v t->cQ H w' cu s' v t
 |.one _,h=>bU.frame he ht h
 |.agg _,⟨d,a,b⟩=>⟨d,a,b.mono λ_ _ c=>bU.frame he ht c⟩
 |.ol _,⟨d,a,b⟩=>⟨d,a,b.mono λ_ _ c=>lX.frame he ht c⟩
 |.pQ _ _,h=>lX.frame he ht h
end
variable {H:Nat->Value}
theorem da(d c j:Nat):aD d c j≠0:=Nat.succ_ne_zero _
def Rel.pR{c:aq}{a:Act}{w:World}{s:S}(h:Rel H c a w s){id:Nat}(b:(s.ob id).o≠.gone):id≠0:=λe=>b (by rw[e];exact h.dJ)
theorem eN(n:Nat):Nat.beq n n=true:=l6 n
def mc{m n:Nat}(h:m≠n):Nat.beq m n=false:=by
 grind[Nat.eq_of_beq_eq_true]
theorem St.aB(s:S)(id:Nat)(o:fU real):(s.zP id o).ob id=o:=by simp[St.zP]
theorem St.aU(s:S){id j:Nat}(o:fU real)(h:j≠id):(s.zP id o).ob j=s.ob j:=by simp[St.zP,mc h]
def St.iY(s:S)(d:Nat)(v:bK):(s.set d v).sl d=v:=by simp[St.set]
theorem St.lV(s:S){d j:Nat}(v:bK)(h:j≠d):(s.set d v).sl j=s.sl j:=by simp[St.set,mc h]
theorem Tr.nq{w:World}{a:aq}{s s':S}{id:Nat}(hd:∀b k,a b=some k->b<w.heap.size)(h:s'.ob id=s.ob id):Tr w a s w a s' id:=gx.tr ⟨h,λ_ _ _ _ _=>⟨rfl,rfl⟩⟩ (cH.refl _ _) hd
def Rel.set{c:aq}{a:Act}{w:World}{s:S}(h:Rel H c a w s){d:Nat}(hd:d<a.tmps.size){v:Value}{t:bK}(l:cQ H w c s v t):Rel H c (a.put (some d) v) w (s.set d t) where
 dH:=h.dH
 inj:=h.inj
 dom:=h.dom
 defers:=h.defers
 dJ:=h.dJ
 slots i:=by
  have tr:∀id,Tr w c s w c (s.set d t) id:=λid=>Tr.nq h.dom rfl;by_cases e:i=d
  .subst e;rw[St.iY];have:(a.put (some i) v).tmps.getD i undef=v:=by simp[Act.put,fc,hd]
   rw[this];exact cQ.frame (cH.refl _ _) tr l
  .rw[St.lV _ _ e];have:(a.put (some d) v).tmps.getD i undef=a.tmps.getD i undef:=by simp[Act.put,fc,Array.getElem?_setIfInBounds_ne (dG e)]
   rw[this];exact cQ.frame (cH.refl _ _) tr (h.slots i)
 c7 id cells hc:=by obtain⟨b,arr,T,f,g,j⟩:=h.c7 id cells hc;exact⟨b,arr,T,f,g,j.mono λ_ _ k=>bU.frame (cH.refl _ _) (λid=>Tr.nq h.dom rfl) k⟩
def Rel.world{c:aq}{a:Act}{w w':World}{s:S}(h:Rel H c a w s)(d:cH c w c w')(g:∀b,b<w.heap.size->w'.heap[b]? = w.heap[b]?):Rel H c a w' s:=by
 have tr:∀id,Tr w c s w' c s id:=λid=>gx.tr ⟨rfl,λb k e _ _=>⟨g b e,rfl⟩⟩ d h.dom;exact
 {dH:=h.dH.ext d
  inj:=h.inj
  dom:=λb k n=>c6 (h.dom b k n) d.size
  defers:=h.defers
  dJ:=h.dJ
  slots:=λi=>cQ.frame d tr (h.slots i)
  c7:=λid cells m=>by obtain⟨b,arr,T,f,j,l⟩:=h.c7 id cells m;exact⟨b,arr,T,f,(g b (h.dom b _ f)).trans j,l.mono λ_ _ o=>bU.frame d tr o⟩ }
def aq.fresh(c:aq)(id a:Nat):aq:=λb=>if b=a then some (id,[])else match c b with
 |some k=>if k.1=id then none else some k
 |none=>none
def aq.eV(b:aq)(id a:Nat):b.fresh id a a=some (id,[]):=by simp[aq.fresh]
theorem aq.yg{a:aq}{id b0 b:Nat}(h:b≠b0)(c:a b=none):a.fresh id b0 b=none:=by simp[aq.fresh,h,c]
theorem aq.gE{a:aq}{id b0 b:Nat}{k:Key}(h:b≠b0)(d:a b=some k)(c:k.1≠id):a.fresh id b0 b=some k:=by simp[aq.fresh,h,d,c]
def aq.gu{a:aq}{id b0 b:Nat}{k:Key}(h:a.fresh id b0 b=some k):(b=b0/\k=(id,[]))\/(b≠b0/\a b=some k/\k.1≠id):=by
 grind[aq.fresh]
structure eF (w w':World):Prop where
 os:w'.os=w.os
 tape:w'.tape=w.tape
 output:w'.output=w.output/\w.drawn<=w'.drawn
 size:w.heap.size<=w'.heap.size
 block:∀b,b<w.heap.size->w'.heap[b]? = w.heap[b]?
theorem eF.refl(w:World):eF w w:=⟨rfl,rfl,⟨rfl,az _⟩,az _,λ_ _=>rfl⟩
def eF.trans{w w' w'':World}(h:eF w w')(a:eF w' w''):eF w w'':=⟨a.os.trans h.os,a.tape.trans h.tape,⟨a.output.1.trans h.output.1,eK h.output.2 a.output.2⟩,eK h.size a.size,λb c=>(a.block b (c6 c h.size)).trans (h.block b c)⟩
def eF.ext{w w':World}(h:eF w w')(a:aq):cH a w a w':=⟨h.os,h.tape,h.output,h.size,λb c _=>⟨h.block b c,rfl⟩⟩
def eF.drew(w:World):eF w w.drew:=⟨rfl,rfl,⟨rfl,kE _⟩,az _,λ_ _=>rfl⟩
def eF.drewN(w:World)(n:Nat):eF w (w.drewN n):=⟨rfl,rfl,⟨rfl,fm _ _⟩,az _,λ_ _=>rfl⟩
def eF.push(w:World)(o:Obj):eF w { w with heap:=w.heap.push o }:=⟨rfl,rfl,⟨rfl,az _⟩,by simp,λb a=>by grind⟩
def BX(w:World)(o:Obj):({ w with heap:=w.heap.push o }:World).heap[w.heap.size]? = some o:=by simp
section
variable {ω:aq}{a:Act}{w w':World}{s:S}{id b0:Nat}
def pC(a:id≠0){b:Nat}(c:b≠b0)(h:my ω b):ω.fresh id b0 b=ω b:=by
 rcases h with h|⟨q,h⟩
 .grind[aq.yg]
 grind[aq.gE]
def dW(d:id≠0)(a:eF w w')(f:w.heap.size<=b0):cH ω w (ω.fresh id b0) w':=⟨a.os,a.tape,a.output,a.size,λb c e=>⟨a.block b c,pC d (by omega) e⟩⟩
def qY(d:id≠0)(hd:∀b k,ω b=some k->b<w.heap.size)(c:eF w w')(f:w.heap.size<=b0)(o:Ob real)(j:Nat):Tr w ω s w' (ω.fresh id b0) (s.new id o) j:=by
 by_cases e:j=id
 .grind[dj.tr,dj,St.new,St.aB]
 .exact gx.tr ⟨by grind[St.new,St.aU],λb k a h g=>⟨c.block b a,by grind[aq.gE]⟩⟩ (dW d c f) hd
theorem Rel.fresh (h:Rel H ω a w s) (f:id≠0) (c:eF w w') (g:w.heap.size<=b0) (p:b0<w'.heap.size) (o:Ob real)
  (y:∀cells,o=.blk cells->∃arr T,w'.heap[b0]? = some (.cells arr T (0,0))/\aH (bU w ω s) arr.toList cells):
  Rel H (ω.fresh id b0) a w' (s.new id o) where
 dH:=h.dH.ext (dW f c g)
 inj b b' k d l:=by
  rcases aq.gu d with ⟨m,n⟩|⟨m,n,z⟩ <;> rcases aq.gu l with ⟨u,v⟩|⟨u,v,A⟩
  .rw[m,u]
  .grind
  .grind
  .exact h.inj b b' k n v
 dom b k d:=by
  rcases aq.gu d with ⟨m,_⟩|⟨_,n,_⟩
  .rw[m];exact p
  .exact c6 (h.dom b k n) c.size
 defers:=h.defers
 dJ:=by
  have:(s.new id o).ob 0=s.ob 0:=by grind[St.new,St.aU]
  rw[this];exact h.dJ
 slots i:=cQ.frame (dW f c g) (qY f h.dom c g o) (h.slots i)
 c7 j cells hc:=by
  by_cases e:j=id
  .subst e;have:o=.blk cells:=by grind[St.new,St.aB]
   obtain⟨arr,T,d,l⟩:=y cells this;exact⟨b0,arr,T,aq.eV _ _ _,d,l.mono λ_ _ r=>bU.frame (dW f c g) (qY f h.dom c g o) r⟩
  .have q:(s.ob j).o=.blk cells:=by grind[St.new,St.aU]
   obtain⟨b,arr,T,d,l,x⟩:=h.c7 j cells q;have t:=h.dom b _ d;exact⟨b,arr,T,aq.gE (by omega) d e,(c.block b t).trans l,x.mono λ_ _ r=>bU.frame (dW f c g) (qY f h.dom c g o) r⟩
end
theorem St.ay(s:S)(id:Nat)(a:Bool)(o:Ob real):(s.bq id a o).ob id=⟨(s.ob id).g,bif a then(s.ob id).h+1 else(s.ob id).h,bif a then(s.ob id).n else(s.ob id).n+1,o⟩:=by grind[St.bq,St.aB]
theorem St.aO(s:S){id j:Nat}(a:Bool)(o:Ob real)(h:j≠id):(s.bq id a o).ob j=s.ob j:=by grind[St.bq,St.aU]
def gF{g h G H:Nat}(a:Bool)(b:h<=H+(if g=G then 0 else h)):h<=(bif a then H+1 else H)+(if g=G then 0 else h):=by
 grind
def Ob.shut:Ob real->Prop
 |.gone=>True
 |_=>False
theorem jA{s:S}{id g h:Nat}{p:iU}(a:(s.ob id).o=.gone):s.cont id g h p=none:=by
 grind[St.cont,fU.cont]
def uH{w:World}{n:aq}{s:S}{id:Nat}(hd:∀b k,n b=some k->b<w.heap.size)(d:Bool)(j:Nat):Tr w n s w n (s.bq id d .gone) j:=by
 by_cases e:j=id
 .subst e;have q:((s.bq j d .gone).ob j).o=.gone:=by rw[St.ay]
  have f:((s.bq j d .gone).ob j).g=(s.ob j).g:=by rw[St.ay]
  have o:((s.bq j d .gone).ob j).h=bif d then(s.ob j).h+1 else(s.ob j).h:=by rw[St.ay]
  exact
  {ref:=λv g h p a=>⟨by rw[f];exact a.1,by rw[f,o];exact gF d a.2.1,λc l=>by grind[jA]⟩
   ptr:=λv g m a=>⟨by rw[f];exact a.1,λ_ cells l=>by rw[q]at l;cases l⟩
   bH:=λv g h p i m a=>⟨by rw[f];exact a.1,by rw[f,o];exact gF d a.2.1,λc l=>by grind[jA]⟩
   cD:=λv g a=>a.shut f λk x e=>by rw[q]at e;cases e }
 grind[Tr.nq,St.aO]
def Rel.gone{d:aq}{a:Act}{w:World}{s:S}(h:Rel H d a w s)(id:Nat)(c:Bool):Rel H d a w (s.bq id c .gone) where
 dH:=h.dH
 inj:=h.inj
 dom:=h.dom
 defers:=h.defers
 dJ:=by
  by_cases e:0=id
  .subst e;rw[St.ay]
  .rw[St.aO _ _ _ e];exact h.dJ
 slots i:=cQ.frame (cH.refl _ _) (uH h.dom c) (h.slots i)
 c7 j cells hc:=by
  by_cases e:j=id
  .grind[St.ay]
  .rw[St.aO _ _ _ e]at hc;obtain⟨b,arr,T,f,g,k⟩:=h.c7 j cells hc;exact⟨b,arr,T,f,g,k.mono λ_ _ l=>bU.frame (cH.refl _ _) (uH h.dom c) l⟩
def aq.drop(a:aq)(id:Nat):aq:=λb=>match a b with
 |some k=>if k.1=id then none else some k
 |none=>none
def aq.oI{a:aq}{id b:Nat}(h:a b=none):a.drop id b=none:=by simp[aq.drop,h]
theorem aq.oJ{a:aq}{id b:Nat}{k:Key}(h:a b=some k)(c:k.1=id):a.drop id b=none:=by simp[aq.drop,h,c]
theorem aq.dM{a:aq}{id b:Nat}{k:Key}(h:a b=some k)(c:k.1≠id):a.drop id b=some k:=by simp[aq.drop,h,c]
def aq.dA{a:aq}{id b:Nat}{k:Key}(h:a.drop id b=some k):a b=some k/\k.1≠id:=by
 grind[aq.drop]
def yY(w:World)(c a:aq)(d:Md):Prop:=∀b,b<w.heap.size->(c b=none\/∃k,c b=some k/\d.has k)->a b=none
mutual
def Ty.hM{w:World}{r g:aq}:∀(t:Ty) (m:Md) (v:Value) (x:t.T),yY w r g m->t.R w r m v x->t.R w g .bQ v x
 |.int _,_,_,_,_,h=>h
 |.bool,_,_,_,_,h=>h
 |.str,_,_,_,_,h=>h
 |.map k,m,_,_,H,h=>by
  rcases h with h|⟨_,b,A,c,d,f,l,o⟩
  .exact .inl h
  .exact .inr ⟨rfl,b,A,c,d,H b l (.inl f),l,o⟩
 |.sl e u,m,v,x,H,h=>by
  obtain⟨a,n,c,d,f,l,o,B⟩:=h;refine⟨a,n,c,d,f,l,λG=>?_,λi s E C=>?_⟩
  .obtain⟨b,p,y,q,z⟩:=o.block G;exact⟨b,p,y,H b q z,q⟩
  .exact ar.hM u _ _ 0 _ (λj b D F=>H b D (F.imp id λ⟨k,d,f⟩=>⟨k,d,Md.tq f⟩)) (B i s E C)
def ar.hM{w:World}{d b:aq}:∀(c:ar) (a:Nat->Md) (g:Nat->Option Value) (j:Nat) (x:c.T),(∀j,yY w d b (a j))->c.R w d a g j x->c.R w b (λ_=>.bQ) g j x
 |.nil,_,_,_,_,_,_=>trivial
 |.cons t ts,a,g,j,x,H,h=>by obtain⟨⟨v,e,f⟩,i⟩:=h;exact⟨⟨v,e,Ty.hM t (a j) v _ (H j) f⟩,ar.hM ts a g (j+1) _ H i⟩
end
theorem bW{s:S}{id:Nat}{e:Nat}{cs:ar}{dp:Bool}{x:real.V (.sl e cs)}(b:(s.ob id).o=.arr e cs dp x){g h:Nat}(a:g=(s.ob id).g):
  s.cont id g h []=some ⟨e,cs,x,bif dp then 2 else 1⟩:=by
 grind[St.cont,fU.cont,eN]
def wu{s:S}{id:Nat}{e:Nat}{a:ar}{x:real.V (.sl e a)}(d:(s.ob id).o=.bQ e a x){g h:Nat}{p:iU}{c:Cont real}(b:s.cont id g h p=some c):
  g=(s.ob id).g/\p=[]/\c=⟨e,a,x,0⟩:=by
 grind[St.cont,fU.cont,Nat.eq_of_beq_eq_true]
def yd{a:aq}{id b:Nat}(c:id≠0)(h:my a b):a.drop id b=a b:=by
 rcases h with h|⟨q,h⟩
 .rw[h];exact aq.oI h
 grind[aq.dM]
def bj(a:aq)(w:World)(id:Nat)(b:id≠0):cH a w (a.drop id) w:=⟨rfl,rfl,⟨rfl,az _⟩,az _,λ_ _ h=>⟨rfl,yd b h⟩⟩
def lO{w:World}{ω:aq}{s:S}{id e:Nat}{f:ar}{z:Bool}{x:real.V (.sl e f)}(B:id≠0)(hd:∀b k,ω b=some k->b<w.heap.size)(D:(s.ob id).o=.arr e f z x)(m:Bool)(j:Nat):
  Tr w ω s w (ω.drop id) (s.bq id m (.bQ e f x)) j:=by
 by_cases u:j=id
 .subst u;have d:((s.bq j m (.bQ e f x)).ob j).o=.bQ e f x:=by rw[St.ay]
  have l:((s.bq j m (.bQ e f x)).ob j).g=(s.ob j).g:=by rw[St.ay]
  have y:((s.bq j m (.bQ e f x)).ob j).h=bif m then(s.ob j).h+1 else(s.ob j).h:=by rw[St.ay]
  exact
  {ref:=λv g h p a=>⟨by rw[l];exact a.1,by rw[l,y];exact gF m a.2.1,λc n=>by
    obtain⟨r,A,t⟩:=wu d n;subst A;subst t;rw[l]at r;have E:=a.2.2 _ (bW (h:=h) D r);refine Ty.hM _ _ _ _ (λb C o=>?_) E;rcases o with o|⟨k,F,G⟩
    .exact aq.oI o
    grind[aq.oJ,yn]⟩
   ptr:=λv g q a=>⟨by rw[l];exact a.1,λ_ cells n=>by rw[d]at n;cases n⟩
   bH:=λv g h p i q a=>⟨by rw[l];exact a.1,by rw[l,y];exact gF m a.2.1,λc n I=>by
    obtain⟨_,_,t⟩:=wu d n
    grind⟩
   cD:=λv g a=>a.shut l λk x e=>by rw[d]at e;cases e }
 .exact gx.tr ⟨St.aO _ _ _ u,λb k C o H=>⟨rfl,by grind[aq.dM]⟩⟩ (bj _ _ _ B) hd
def Rel.freeze{n:aq}{a:Act}{w:World}{s:S}(h:Rel H n a w s){id e:Nat}{d:ar}{o:Bool}{x:real.V (.sl e d)}(m:(s.ob id).o=.arr e d o x)(g:Bool):Rel H (n.drop id) a w (s.bq id g (.bQ e d x)) where
 dH:=h.dH.ext (bj _ _ _ (h.pR (by grind)))
 inj b b' k c f:=h.inj b b' k (aq.dA c).1 (aq.dA f).1
 dom b k c:=h.dom b k (aq.dA c).1
 defers:=h.defers
 dJ:=by rw[St.aO _ _ _ (dG (h.pR (by grind)))];exact h.dJ
 slots i:=cQ.frame (bj _ _ _ (h.pR (by grind))) (lO (h.pR (by grind)) h.dom m g) (h.slots i)
 c7 j cells hc:=by
  by_cases l:j=id
  .grind[St.ay]
  .rw[St.aO _ _ _ l]at hc;obtain⟨b,arr,T,c,f,p⟩:=h.c7 j cells hc;exact⟨b,arr,T,aq.dM c l,f,p.mono λ_ _ q=>bU.frame (bj _ _ _ (h.pR (by grind))) (lO (h.pR (by grind)) h.dom m g) q⟩
variable {H:Nat->Value}
def zeroOf:Ty->Value
 |.int k=>.int k 0
 |.bool=>.bool false
 |.str=>.string ByteArray.empty
 |.map _=>.map none
 |.sl _ _=>.slice none 0 0
def gR:ar->List Value
 |.nil=>[]
 |.cons t ts=>zeroOf t::gR ts
theorem fQ:∀a:ar,(gR a).length=a.len
 |.nil=>rfl
 |.cons _ ts=>by simp[gR,ar.len,fQ ts]
structure vu (P:Program) (t:Nat) (i:TI) (I:TypeInfo) (d:TypeDesc):Prop where
 info:P.info? t=some I
 zO:P.underlying t=some d
 size:I.size=i.cs.len
 bytes:I.bytes=i.bytes
 bpos:0<i.bytes/\i.bytes<=65536
 zero:∃z,I.zero=some z/\z.cells.toList=gR i.cs
 row:d.isRow=i.agg
 one:i.agg=false->i.cs.len=1
 mh:i.agg=true->∃fs,d=.struct fs/\fs.size=i.mh.length/\∀(f:Nat) (q:Nat×Nat×Bool),i.mh[f]? = some q->∃(F:Field) (FI:TypeInfo) (Fd:TypeDesc),fs[f]? = some F/\F.offset=q.1/\P.info? F.type=some FI/\FI.size=q.2.1/\0<FI.size/\P.underlying F.type=some Fd/\Fd.isRow=q.2.2/\(q.2.2=false->q.2.1=1)
 el:∀e,i.el=some e->d=.slice e
 El:∀k,i.cs=.cons (.int k) .nil->i.agg=false->d=.int k
 DD:i.cs=.cons .bool .nil->i.agg=false->d=.bool
 ED:i.cs=.cons .str .nil->i.agg=false->d=.string
 IG:∀e cs,i.cs=.cons (.sl e cs) .nil->i.agg=false->d=.slice e
def EU(u:Value):Ty->Prop
 |.int k=>∃n,u=.int k n
 |.bool=>∃b,u=.bool b
 |_=>False
def Typed:ar->List Value->Prop
 |.nil,[]=>True
 |.cons t ts,u::a=>EU u t/\Typed ts a
 |_,_=>False
def cW:List Value->List Value->Bool
 |[],[]=>true
 |.int _ a::c,.int _ b::d=>(a==b)&&cW c d
 |.bool a::c,.bool b::d=>(a==b)&&cW c d
 |_,_=>false
structure bD (P:Program) (E:Env):Prop where
 mo:P.follows .mixedOrders=true
 GH:∀t k,E.mp t=some k->∃kt et I,P.underlying t=some (.map kt et)/\P.underlying kt=some (.int k)/\P.info? et=some I/\I.zero=some (.bool false)
 ti:∀t i,E.ti t=some i->∃I d,vu P t i I d
 eqs:∀t i,E.ti t=some i->E.Fx t=true->∀(op:BinOp) (x y:Operand) (us vs:List Value) (w:World),op=.eql\/op=.neq->Typed i.cs us->Typed i.cs vs ->
  (do eqGuard op t x y (.agg us.toArray) (.agg vs.toArray);binOp op t (.agg us.toArray) (.agg vs.toArray):Sem Value).run P w=.ok (.bool (match op with |.eql=>cW us vs|_=>!cW us vs)) w
def gQ{P:Program}{E:Env}(b:bD P E){t e:Nat}{cs:ar}(h:E.nx t=some (e,cs)):
  P.underlying t=some (.slice e)/\∃j I d,E.ti e=some j/\j.cs=cs/\vu P e j I d:=by
 unfold Env.nx at h;split at h
 .rename_i i n;split at h
  .rename_i o m;split at h
   .rename_i j c;injection h with h
    injection h with k l
    subst k;obtain⟨I,d,ok⟩:=b.ti _ _ n;obtain⟨f,g,a⟩:=b.ti _ _ c;exact⟨by rw[ok.zO,ok.el _ m],j,f,g,c,l,a⟩
   .cases h
  .cases h
 .cases h
def zV{w:World}{b:aq}{s:S}(E:Env)(a:Nat)(v:Value):cQ H w b s v (gN E a v):=by
 unfold gN;split
 .exact rfl
 .exact rfl
 .exact rfl
 .split
  .exact⟨none,rfl⟩
  .trivial
 .trivial
def bE{c:aq}{a:Act}{w:World}{s:S}(h:Rel H c a w s)(E:Env)(b:Nat)(x:Operand):cQ H w c s (a.eval x) (ev E s b x):=by
 cases x with
 |tmp t=>exact h.slots t
 |const v=>exact zV E b v
 |global g=>trivial
 |func f=>exact⟨[],rfl,trivial⟩
def Ends(H:Nat->Value){R:Type}(g:aq)(a:Act)(w:World)(d:Option Nat)(k:S->Option R)(r:R)(c:Act)(f:World):Prop:=∃b e,Rel H b c f e/\cH g w b f/\k e=some r/\c.tmps.size=a.tmps.size/\∀j,d≠some j->c.tmps.getD j undef=a.tmps.getD j undef
theorem lT(a:Act)(b:Option Nat)(v:Value){j:Nat}(h:b≠some j):(a.put b v).tmps.getD j undef=a.tmps.getD j undef:=by
 cases b with
 |none=>rfl
 |some d=>simp_all[Act.put]
theorem jJ(a:Act)(b:Option Nat)(v:Value):(a.put b v).tmps.size=a.tmps.size:=by cases b <;> simp[Act.put]
def Rel.bI{c:aq}{a:Act}{w:World}{s:S}(h:Rel H c a w s){b:Option Nat}(hd:∀d,b=some d->d<a.tmps.size){v:Value}{t:bK}(e:cQ H w c s v t):Rel H c (a.put b v) w (s.bI b t):=by
 cases b with
 |none=>exact h
 |some d=>exact h.set (hd d rfl) e
theorem eY {P:Program} {o:Oper} {a:Act} {w w':World} {v:Value} {K:Act->World->Prop} {Q:Exit->Act->World->Prop}
  (b:(execOp a.eval o).run P w=.ok (.value v) w') (h:K (a.put o.dst v) w'):o.wp P a w K Q:=by
 unfold Oper.wp;rw[b];exact h
def xn {P:Program} {o:Oper} {a:Act} {w w':World} {K:Act->World->Prop} {Q:Exit->Act->World->Prop}
  (b:(execOp a.eval o).run P w=.ok .skip w') (h:K (a.put o.dst undef) w'):o.wp P a w K Q:=by
 unfold Oper.wp;rw[b];exact h
section
variable {R:Type}{P:Program}{E:Env}{ω:aq}{a:Act}{w:World}{s:S}{k:S->Option R}{r:R}{o:Oper}{Q:Exit->Act->World->Prop}
def nE(h:Rel H ω a w s)(hd:∀d,o.dst=some d->d<a.tmps.size){v:Value}{t:bK}(e:cQ H w ω s v t)(c:k (s.bI o.dst t)=some r):
  Ends H ω a w o.dst k r (a.put o.dst v) w:=
 ⟨ω,_,h.bI hd e,cH.refl _ _,c,jJ _ _ _,λ_ b=>lT _ _ _ b⟩
def dV{b:aq}{c:World}{e:S}(h:Rel H b a c e)(f:cH ω w b c)(hd:∀d,o.dst=some d->d<a.tmps.size){v:Value}{t:bK}(j:cQ H c b e v t)(i:k (e.bI o.dst t)=some r):
  Ends H ω a w o.dst k r (a.put o.dst v) c:=
 ⟨b,_,h.bI hd j,f,i,jJ _ _ _,λ_ g=>lT _ _ _ g⟩
def ah{α:Type}{o:Option α}{f:α->Option R}(h:af (av R) o f=some r):∃x,o=some x/\f x=some r:=by
 unfold af at h;cases o with
 |none=>cases h
 |some x=>exact⟨x,rfl,h⟩
def Ac{b:Bool}{x y:Option R}:(av R).cond b x y=bif b then x else y:=rfl
def EK:(av R).fail=none:=rfl
def qL{t:bK}{b:Bool}{v:Value}(h:p9 t=some b)(c:cQ H w ω s v t):v=.bool b:=by
 unfold p9 at h;split at h
 .rename_i u x;split at h
  .rename_i a;obtain rfl:=Ty.eq_of_beq a;injection h with h
   have:x=b:=h;subst this;exact c
  .cases h
 .cases h
def iK{t:bK}{b:Int}{v:Value}(h:nv t=some b)(c:cQ H w ω s v t):v=.int .i64 b:=by
 unfold nv at h;split at h
 .rename_i u x;split at h
  .rename_i a;obtain rfl:=Ty.eq_of_beq a;injection h with h
   have:x=b:=h;subst this;exact c
  .cases h
 .cases h
def zN{t:bK}{b:ByteArray}{v:Value}(h:Dt t=some b)(c:cQ H w ω s v t):v=.string b:=by
 unfold Dt at h;split at h
 .rename_i u x;split at h
  .rename_i a;obtain rfl:=Ty.eq_of_beq a;injection h with h
   have:x=b:=h;subst this;exact c
  .cases h
 .cases h
def ud{x:Operand}(b:o.op=.move x\/o.op=.assign x)(h:Rel H ω a w s)(hd:∀d,o.dst=some d->d<a.tmps.size)(c:k (s.bI o.dst (ev E s o.type x))=some r):
  o.wp P a w (Ends H ω a w o.dst k r) Q:=by
 refine eY (v:=a.eval x) (w':=w) ?_ (nE h hd (bE h E o.type x) c);unfold execOp;rcases b with b|b <;> rw[b] <;> rfl
def AJ {c x y:Operand} (i:o.op=.pick c x y) (h:Rel H ω a w s) (hd:∀d,o.dst=some d->d<a.tmps.size)
  (g:(af (av R) (p9 (ev E s 4 c)) λc=>(av R).cond c (k (s.bI o.dst (ev E s o.type x))) (k (s.bI o.dst (ev E s o.type y))))=some r):
  o.wp P a w (Ends H ω a w o.dst k r) Q:=by
 obtain⟨(b:Bool),f,e⟩:=ah g;have j:=qL f (bE h E 4 c);rw[Ac]at e;cases b with
 |true=>refine eY (v:=a.eval x) (w':=w) ?_ (nE h hd (bE h E o.type x) e);simp_all[execOp,asBool]
 |false=>refine eY (v:=a.eval y) (w':=w) ?_ (nE h hd (bE h E o.type y) e);simp_all[execOp,asBool]
end
variable {H:Nat->Value}
section
variable {R:Type}{P:Program}{E:Env}{ω:aq}{a:Act}{w:World}{s:S}{k:S->Option R}{r:R}{o:Oper}{Q:Exit->Act->World->Prop}
theorem aT(h:Rel H ω a w s)(hd:∀d,o.dst=some d->d<a.tmps.size){t:bK}{v:Value}(c:(execOp a.eval o).run P w=.ok (.value v) w)(e:cQ H w ω s v t)(b:k (s.bI o.dst t)=some r):
  o.wp P a w (Ends H ω a w o.dst k r) Q:=
 eY c (nE h hd e b)
def BD(a:BinOp)(k:IntKind)(m n:Int):Value:=
 match a with
 |.add |.sub |.mul |.quo |.rem |.and |.or |.xor |.andNot=>.int k (aa a k m n)
 |_=>.bool (ak a m n)
def rR(a:BinOp)(t:Nat)(x y:Operand)(b:IntKind)(m n:Int)(d:a≠.shl/\a≠.shr)(c:(a=.quo\/a=.rem)->n≠0):
  (do eqGuard a t x y (.int b m) (.int b n);binOp a t (.int b m) (.int b n):Sem Value).run P w =
   .ok (BD a b m n) w:=by
 cases a <;> simp[eqGuard,binOp,Op.intArith,Op.intDiv,Op.intBits,Op.intCmp,BD,aa,ak]at d c⊢<;> simp[c]
def AB(a:BinOp)(t:Nat)(x y:Operand)(b c:IntKind)(m n:Int)(d:a=.shl\/a=.shr)(e:0<=n):
  (do eqGuard a t x y (.int b m) (.int c n);binOp a t (.int b m) (.int c n):Sem Value).run P w=.ok (.int b (ej a b m n)) w:=by
 have:¬n<0:=by omega
 rcases d with rfl|rfl <;> simp[eqGuard,binOp,Op.shift,ej,this]
def run_equal_bool(t:Nat)(a:P.underlying t=some .bool)(m n:Bool):(Op.equal t (.bool m) (.bool n)).run P w=.ok (m==n) w:=by have e:Op.equal t (.bool m) (.bool n)=Op.equalIn (9999+1) t (.bool m) (.bool n):=rfl;rw[e,Op.equalIn,Sem.run_bind,run_underlying a];rfl
def pK(a:BinOp)(t:Nat)(x y:Operand)(c:P.underlying t=some .bool)(m n:Bool)(b:a=.eql\/a=.neq):
  (do eqGuard a t x y (.bool m) (.bool n);binOp a t (.bool m) (.bool n):Sem Value).run P w=.ok (.bool (match a with |.eql=>pI m n|_=>!pI m n)) w:=by
 rcases b with rfl|rfl <;> simp[eqGuard,binOp,pI,run_equal_bool t c]
def yH(a:BinOp)(t:Nat)(x y:Operand)(m n:ByteArray)(b:a=.eql\/a=.neq\/a=.lss\/a=.leq\/a=.gtr\/a=.geq):
  (do eqGuard a t x y (.string m) (.string n);binOp a t (.string m) (.string n):Sem Value).run P w=.ok (.bool (wW a m n)) w:=by
 rcases b with rfl|rfl|rfl|rfl|rfl|rfl <;> simp[eqGuard,binOp,Op.stringOp,wW]
def yI(t:Nat)(x y:Operand)(m n:ByteArray)(a:lz m n=true):
  (do eqGuard .add t x y (.string m) (.string n);binOp .add t (.string m) (.string n):Sem Value).run P w=.ok (.string (m++n)) w:=by
 have:¬(((m.size+n.size:Nat):Int)>IntKind.i64.max):=by
  unfold lz at a;have:=bR a;have e:IntKind.i64.max=9223372036854775807:=by decide
  rw[e];omega
 simp_all[eqGuard,binOp,Op.stringOp]
def wI(b:bD P E){t:Nat}(h:fw E t=true):P.underlying t=some .bool:=by
 unfold fw at h;split at h
 .rename_i i e;obtain⟨I,d,ok⟩:=b.ti _ _ e;rw[aQ]at h;obtain⟨f,a⟩:=h;have c:i.cs=.cons .bool .nil:=by
   grind
  rw[ok.zO,ok.DD c (by simpa using a)]
 .cases h
def EJ{A:nA}{t:Ty}(h:Ty.beq t t=true)(x:A.V t):A.cast h x=x:=rfl
def D1{A:nA}{t:ar}(h:ar.beq t t=true)(x:A.Vs t):A.BH h x=x:=rfl
abbrev bin(a:BinOp)(t:Nat)(x y:Operand)(u v:Value):Sem Value:=do eqGuard a t x y u v;binOp a t u v
def zY {c:BinOp} {t:Nat} {x y:Operand} {a i:IntKind} {m n:Int} {q:Bool} {k:L->Option R}
  (h:kX (av R) q c (.val (.int a) m) (.val (.int i) n) k=some r):∃l z,(bin c t x y (.int a m) (.int i n)).run P w=.ok z w/\bU w ω s z l/\k l=some r:=by
 by_cases b:c=.shl\/c=.shr
 .have d:(bif sG n then none else k (.val (.int a) (ej c a m n)))=some r:=by
   rcases b with rfl|rfl <;> exact h
  cases f:sG n with
  |true=>rw[f]at d;cases d
  |false=>rw[f]at d;exact⟨.val (.int a) (ej c a m n),.int a (ej c a m n),AB c t x y a i m n b (Int.not_lt.1 (of_decide_eq_false f)),rfl,d⟩
 .have p:a=i:=by
   by_cases j:Ty.beq (.int i) (.int a)=true
   .grind[Ty.eq_of_beq]
   .exfalso;cases c <;> simp only[kX,dif_neg j]at h <;> first|(cases h;done)|exact b (.inl rfl)|exact b (.inr rfl)
  subst p;have j:Ty.beq (.int a) (.int a)=true:=by simp[Ty.beq]
  by_cases g:c=.quo\/c=.rem
  .have d:(bif eE n then none else k (.val (.int a) (aa c a m n)))=some r:=by
    rcases g with rfl|rfl <;> (simp only[kX,kg j]at h;exact h)
   cases f:eE n with
   |true=>rw[f]at d;cases d
   |false=>rw[f]at d;refine⟨.val (.int a) (aa c a m n),.int a (aa c a m n),?_,rfl,d⟩;have:=rR (P:=P) (w:=w) c t x y a m n ⟨λe=>b (.inl e),λe=>b (.inr e)⟩ (λ_=>of_decide_eq_false f);rcases g with rfl|rfl <;> exact this
  .have o:=rR (P:=P) (w:=w) c t x y a m n ⟨λe=>b (.inl e),λe=>b (.inr e)⟩ (λe=>absurd e g);cases c <;> simp only[kX,kg j]at h <;>
    first
     |exact absurd (.inl rfl) b
     |exact absurd (.inr rfl) b
     |exact absurd (.inl rfl) g
     |exact absurd (.inr rfl) g
     |exact⟨.val (.int a) (aa _ a m n),_,o,rfl,h⟩
     |exact⟨.val .bool (ak _ m n),_,o,rfl,h⟩
def ya (e:bD P E) {b:BinOp} {t:Nat} {x y:Operand} {m n:Bool} {d:L->Option R}
  (h:kX (av R) (fw E t) b (.val .bool m) (.val .bool n) d=some r):∃l z,(bin b t x y (.bool m) (.bool n)).run P w=.ok z w/\bU w ω s z l/\d l=some r:=by
 cases a:fw E t with
 |false=>rw[a]at h;cases h
 |true=>
  rw[a]at h;have c:=wI e a;cases b <;> first
   |(cases h;done)
   |exact⟨.val .bool (pI m n),_,pK .eql t x y c m n (.inl rfl),rfl,h⟩
   |exact⟨.val .bool (!pI m n),_,pK .neq t x y c m n (.inr rfl),rfl,h⟩
def zZ {b:BinOp} {t:Nat} {x y:Operand} {m n:ByteArray} {f:Bool} {d:L->Option R}
  (h:kX (av R) f b (.val .str m) (.val .str n) d=some r):∃l z,(bin b t x y (.string m) (.string n)).run P w=.ok z w/\bU w ω s z l/\d l=some r:=by
 by_cases e:b=.add
 .subst e;have a:(bif lz m n then d (.val .str (m++n))else none)=some r:=h;cases c:lz m n with
  |false=>rw[c]at a;cases a
  |true=>rw[c]at a;exact⟨.val .str (m++n),_,yI t x y m n c,rfl,a⟩
 .cases b <;> first
   |exact absurd rfl e
   |(cases h;done)
   |exact⟨.val .bool (wW _ m n),_,yH _ t x y m n (by simp),rfl,h⟩
def Da (n:bD P E) {k:BinOp} {t:Nat} {x y:Operand} {u v:Value} {e f:L} {j:L->Option R} (c:bU w ω s u e) (d:bU w ω s v f)
  (h:kX (av R) (fw E t) k e f j=some r):∃l z,(bin k t x y u v).run P w=.ok z w/\bU w ω s z l/\j l=some r:=by
 cases e with
 |val m g=>
  cases f with
  |val o i=>
   cases m <;> cases o <;> first
    |(cases h;done)
    |(have a:u=.int _ g:=c;have b:v=.int _ i:=d;subst a;subst b;exact zY h)
    |(have a:u=.bool g:=c;have b:v=.bool i:=d;subst a;subst b;exact ya n h)
    |(have a:u=.string g:=c;have b:v=.string i:=d;subst a;subst b;exact zZ h)
  |_=>cases m <;> cases h
 |_=>cases h
def mK:∀(l:ar) (xs f:List L) (d e:List Value) (b:Bool),lN (A:=real) l xs f=some b->aH (bU w ω s) d xs->aH (bU w ω s) e f->Typed l d/\Typed l e/\b=cW d e
 |.nil,[],[],d,e,b,h,a,c=>by
  cases d with
  |cons _ _=>exact a.elim
  |nil=>
   cases e with
   |cons _ _=>exact c.elim
   |nil=>have h:=aG h;subst h;exact⟨trivial,trivial,rfl⟩
 |.cons t ts,x::xs,y::f,[],e,b,h,a,c=>a.elim
 |.cons t ts,x::xs,y::f,u::d,[],b,h,a,c=>c.elim
 |.cons t ts,x::xs,y::f,u::d,v::e,b,h,a,c=>by
  cases x with
  |val F p=>
   cases y with
   |val E q=>
    simp only[lN]at h;split at h
    .rename_i C;split at h
     .rename_i D;have z:=Ty.eq_of_beq C;have B:=Ty.eq_of_beq D;subst z;subst B;cases E with
      |int k=>
       simp only[F4]at h;cases g:lN (A:=real) ts xs f with
       |none=>rw[g]at h;cases h
       |some r=>rw[g]at h;have h:=aG h;obtain⟨m,n,o⟩:=mK ts xs f d e r g a.2 c.2;have i:u=.int k p:=a.1;have j:v=.int k q:=c.1;subst i;subst j;refine⟨⟨⟨_,rfl⟩,m⟩,⟨⟨_,rfl⟩,n⟩,?_⟩;subst h;subst o;rfl
      |bool=>
       simp only[F4]at h;cases g:lN (A:=real) ts xs f with
       |none=>rw[g]at h;cases h
       |some r=>rw[g]at h;have h:=aG h;obtain⟨m,n,o⟩:=mK ts xs f d e r g a.2 c.2;have i:u=.bool p:=a.1;have j:v=.bool q:=c.1;subst i;subst j;refine⟨⟨⟨_,rfl⟩,m⟩,⟨⟨_,rfl⟩,n⟩,?_⟩;subst h;subst o;rfl
      |str=>cases h
      |map _=>cases h
      |sl _ _=>cases h
     .cases h
    .cases h
   |_=>cases h
  |_=>cases h
 |.nil,_::_,_,_,_,_,h,_,_=>by cases h
 |.nil,[],_::_,_,_,_,h,_,_=>by cases h
 |.cons _ _,[],_,_,_,_,h,_,_=>by cases h
 |.cons _ _,x::_,[],_,_,_,h,_,_=>by exfalso;cases x <;> cases h
def sI{x:bK}{v:Value}{c:Cont real}(m:cQ H w ω s v x)(a:gC s x=some c):∃b n cap,v=.slice b n cap/\n=List.length c.x/\(b=none->n=0):=by
 have f:∀(e:Nat) (d:ar) (o:Md) (z:List d.T),(Ty.sl e d).R w ω o v z->∃b n cap,v=.slice b n cap/\n=List.length z/\(b=none->n=0):=by
  intro e d o z h;obtain⟨b,n,c,i,u,B,j,C⟩:=h;refine⟨b,n,c,i,u.symm,λe=>?_⟩;subst e;cases o with
  |bQ=>
   by_cases A:0<n
   .obtain⟨_,_,q,_⟩:=j A;cases q
   .omega
  |flat k=>
   rcases j with ⟨_,q⟩|⟨_,_,q,_⟩
   .exact q
   .cases q
  |deep k=>
   rcases j with ⟨_,q⟩|⟨_,_,q,_⟩
   .exact q
   .cases q
 cases x with
 |one l=>
  cases l with
  |val t y=>
   cases t with
   |sl e d=>have a:=aG a;subst a;exact f e d .bQ y m
   |_=>cases a
  |eI e d=>have a:=aG a;subst a;obtain⟨r,i⟩:=m;exact⟨r,0,0,i,rfl,λ_=>rfl⟩
  |ref id g h p=>exact f _ _ _ _ (m.2.2 c a)
  |_=>cases a
 |_=>cases a
def tP{t e:Nat}(i:P.underlying t=some (.slice e))(a:Option Addr)(n c:Nat)(x y:Operand)(b:BinOp)(h:b=.eql\/b=.neq):
  (bin b t x y (.slice a n c) (.slice none 0 0)).run P w=.ok (.bool (match b with |.eql=>a.isNone|_=>!a.isNone)) w:=by
 have f:∀d,(Op.equalIn (d+1) t (.slice a n c) (.slice none 0 0)).run P w=.ok a.isNone w:=by intro d;cases a <;> simp[Op.equalIn,run_underlying i]
 have g:(Op.equal t (.slice a n c) (.slice none 0 0)).run P w=.ok a.isNone w:=f 9999;rcases h with rfl|rfl <;> simp[bin,eqGuard,binOp,g]
def yz(v:bD P E){o:BinOp}{t:Nat}{x y:Operand}{l:L}(h:Rel H ω a w s)(b:gb E s o t x y=some l):∃z,(bin o t x y (a.eval x) (a.eval y)).run P w=.ok z w/\bU w ω s z l:=by
 have A:=bE h E t x;unfold gb at b;split at b
 .split at b
  .rename_i q c r u;obtain⟨p,_⟩:=gQ v (e:=q.1) (cs:=q.2) r;obtain⟨f,n,cap,i,j,k⟩:=sI A u;have m:a.eval (.const (.slice none 0 0))=.slice none 0 0:=rfl;split at b
   .have b:=aG b;subst b;refine⟨_,by rw[i,m];exact tP p f n cap x _ .eql (.inl rfl),_,rfl,λd=>?_⟩;cases f with
    |some _=>rfl
    |none=>exfalso;have g:n=0:=k rfl;have d:ak .gtr ((List.length c.x:Nat):Int) 0=true:=d;rw[<-j,g]at d;exact absurd d (by decide)
   .have b:=aG b;subst b;refine⟨_,by rw[i,m];exact tP p f n cap x _ .neq (.inr rfl),_,rfl,λd=>?_⟩;cases f with
    |some _=>rfl
    |none=>exfalso;have g:n=0:=k rfl;have d:ak .gtr ((List.length c.x:Nat):Int) 0=true:=d;rw[<-j,g]at d;exact absurd d (by decide)
   .cases b
  .cases b
 .cases b
def nG{b:BinOp}{t d:Nat}{x y:Operand}(c:o.op=.binOp b t x y d){z:Value}(h:(bin b t x y (a.eval x) (a.eval y)).run P w=.ok z w):(execOp a.eval o).run P w=.ok (.value z) w:=by unfold execOp;simp only[c];unfold bin at h;rw[Sem.run_bind,h];rfl
def CF (m:bD P E) {G:BinOp} {t M:Nat} {x y:Operand} (j:o.op=.binOp G t x y M) (h:Rel H ω a w s) (hd:∀d,o.dst=some d->d<a.tmps.size) {N:bA->Option (Callee real (Option R))}
  (c:aL E (av R) N o s k=some r):o.wp P a w (Ends H ω a w o.dst k r) Q:=by
 have p:=bE h E t x;have q:=bE h E t y;unfold aL at c;simp only[j]at c;cases g:gb E s G t x y with
 |some l=>rw[g]at c;obtain⟨z,e,f⟩:=yz m h g;exact aT h hd (nG j e) (t:=.one l) f c
 |none=>
 rw[g]at c;simp only at c;generalize ev E s t x=tx at p c;generalize ev E s t y=ty at q c;split at c
 .obtain⟨l,z,e,f,I⟩:=Da (x:=x) (y:=y) m p q c;exact aT h hd (nG j e) (t:=.one l) f I
 .rename_i xs L;obtain⟨i,C,c⟩:=ah c;obtain⟨(b:Bool),e,f⟩:=ah c;obtain⟨u,A,J⟩:=p;obtain⟨v,B,K⟩:=q;cases n:E.Fx t with
  |false=>rw[n]at e;cases e
  |true=>
   rw[n]at e;obtain⟨D,F,k3⟩:=mK i.cs xs L u v b e J K;split at f
   .have:=m.eqs t i C n .eql x y u v w (.inl rfl) D F;exact aT h hd (nG j (by rw[A,B];exact this)) (t:=.one (.val .bool b)) (fK Value.bool k3.symm) f
   .have:=m.eqs t i C n .neq x y u v w (.inr rfl) D F;exact aT h hd (nG j (by rw[A,B];exact this)) (t:=.one (.val .bool (!b))) (fK (λb=>Value.bool (!b)) k3.symm) f
   .cases f
 .cases c
def Ds {j:UnOp} {t:Nat} {x:Operand} (g:o.op=.unOp j t x) (h:Rel H ω a w s) (hd:∀d,o.dst=some d->d<a.tmps.size) {l:bA->Option (Callee real (Option R))}
  (c:aL E (av R) l o s k=some r):o.wp P a w (Ends H ω a w o.dst k r) Q:=by
 have f:=bE h E t x;unfold aL at c;simp only[g]at c;generalize ev E s t x=tx at f c;split at c
 .rename_i b;have i:a.eval x=.bool b:=f;exact aT h hd (v:=.bool (!b)) (by simp_all[execOp,Op.unary]) (t:=.one (.val .bool (real.Cq b))) rfl c
 .rename_i e n;have i:a.eval x=.int e n:=f;exact aT h hd (v:=.int e (Ez e n)) (by simp_all[execOp,Op.unary,Op.intArith,Ez]) (t:=.one (.val (.int e) (real.neg e n))) rfl c
 .cases c
def Bj{v:Value}{c:Bool×List L}(h:lX w ω s v c):cQ H w ω s v (TV.mk c.1 c.2):=by
 obtain⟨b,ls⟩:=c;cases b with
 |true=>exact h
 |false=>
  cases ls with
  |nil=>trivial
  |cons l ls=>
   cases ls with
   |nil=>exact h l rfl
   |cons _ _=>trivial
def uX {t:Operand} {i:Nat} (l:o.op=.extract t i) (h:Rel H ω a w s) (hd:∀d,o.dst=some d->d<a.tmps.size) {n:bA->Option (Callee real (Option R))}
  (b:aL E (av R) n o s k=some r):o.wp P a w (Ends H ω a w o.dst k r) Q:=by
 have e:=bE h E 0 t;unfold aL at b;simp only[l]at b;generalize ev E s 0 t=tx at e b;split at b
 .rename_i p;obtain⟨c,f,g⟩:=ah b;obtain⟨x,q,m⟩:=e;obtain⟨v,u,j⟩:=m.get i c f;exact aT h hd (v:=v) (by simp_all[execOp,Instr.extract]) (Bj j) g
 .cases b
end
variable {H:Nat->Value}
def fO(agg:Bool)(a:List Value):Value:=match agg with
 |true=>.agg a.toArray
 |false=>a.headD undef
def FO{d:TypeDesc}(h:d.isRow=false):(∀a,d≠.struct a)/\(∀n e,d≠.array n e):=by
 grind
section
variable {R:Type}{P:Program}{E:Env}{ω:aq}{a:Act}{w:World}{s:S}{k:S->Option R}{r:R}{o:Oper}{Q:Exit->Act->World->Prop}
def AA{t:Nat}{i:TI}{I:TypeInfo}{d:TypeDesc}(ok:vu P t i I d)(w:World):(isAgg t).run P w=.ok i.agg w:=by unfold isAgg;rw[Sem.run_bind,run_underlying ok.zO w,<-ok.row];cases d <;> rfl
def lB{t:Nat}{i:TI}{I:TypeInfo}{d:TypeDesc}(ok:vu P t i I d){b off:Nat}{us:List Value}(e:w.rangeAt b off us)(a:us.length=i.cs.len):
  (Instr.loadAt t (.pointer (some ⟨b,off,none⟩))).run P w=.ok (fO i.agg us) w:=by
 cases c:i.agg with
 |true=>exact run_loadAt_mid w b off t us d e ok.zO (by rw[ok.row,c]) (by rw[ok.info];simp[ok.size,a])
 |false=>
  have f:=ok.one c;rw[f]at a;match us,a with
  |[u],_=>have g:=e 0 u rfl;simp only[iD]at g;have h:=AA ok w;simp_all[Instr.loadAt,Instr.sureAddr,loadVar,fO]
def Af{t:Nat}{x:Operand}(b:o.op=.load t x){z:Value}(h:(Instr.loadAt t (a.eval x)).run P w=.ok z w):(execOp a.eval o).run P w=.ok (.value z) w:=by simp_all[execOp]
def uk{a:List Value}{ls:List L}(h:aH (bU w ω s) a ls)(agg:Bool):cQ H w ω s (fO agg a) (TV.mk agg ls):=by
 cases agg with
 |true=>exact⟨a,rfl,h⟩
 |false=>
  match a,ls,h with
  |[],[],_=>trivial
  |[u],[l],h=>exact h.1
  |_::_::_,_::_::_,_=>trivial
def jY{w':World}(mk:Nat->(t:Ty)->real.V t->L):∀(a:ar) (c:Nat->Md) (g:Nat->Option Value) (j:Nat) (x:a.T),a.R w ω c g j x ->
  (∀(k:Nat) (t:Ty) (y:t.T),cellAt (A:=real) a x k=some ⟨t,y⟩->∀v,t.R w ω (c (j+k)) v y->bU w' ω s v (mk (j+k) t y)) ->
  ∃b:List Value,b.length=a.len/\(∀k u,b[k]? = some u->g (j+k)=some u)/\aH (bU w' ω s) b (unpack (A:=real) mk a x j)
 |.nil,_,_,_,_,_,_=>⟨[],rfl,λk u h=>by simp at h,trivial⟩
 |.cons t ts,c,g,j,x,h,d=>by
  obtain⟨⟨v,q,i⟩,l⟩:=h;obtain⟨b,e,p,f⟩:=jY mk ts c g (j+1) _ l (λk n y m o z=>by have:=d (k+1) n y m o (by grind);rwa[show j+(k+1)=j+1+k by omega]at this);refine⟨v::b,by simp[ar.len,e],λk u r=>?_,⟨d 0 t _ rfl v i,f⟩⟩
  grind
def ja(mk:Nat->(t:Ty)->real.V t->L):∀(a:ar) (x:a.T) (j:Nat),(unpack (A:=real) mk a x j).length=a.len
 |.nil,_,_=>rfl
 |.cons t ts,x,j=>by
  have:=ja mk ts (real.tl x) (j+1)
  grind[unpack,ar.len]
def mU{b off:Nat}{c:List Value}(h:w.rangeAt b off c)(m n:Nat):w.rangeAt b (off+m) ((c.drop m).take n):=by
 intro j v a;have d:j<n:=by
  grind
 rw[pY d,pX]at a;have:=h (m+j) v a
 grind
theorem pB(f:Nat)(i:IV)(j:Nat):∀(p:iU) (e:Nat) (b:ar) (x:real.V (.sl e b)) (c:Cont real),follow f e b x p=some c ->
  ∀(d:Nat) (a:ar) (y:real.V (.sl d a)),cellAt c.cs (real.get c.x i) j=some ⟨.sl d a,y⟩->follow f e b x (p++[(i,j)])=some ⟨d,a,y,f⟩
 |[],e,b,x,c,h,d,a,y,g=>by
  grind[follow]
 |(m,n)::p,e,b,x,c,h,d,a,y,g=>by
  simp only[follow,gV]at h⊢;cases k:cellAt b (real.get x m) n with
  |none=>rw[k]at h;cases h
  |some z=>
   obtain⟨t,z⟩:=z;rw[k]at h;cases t with
   |sl o l=>exact pB f i j p _ _ z c h d a y g
   |_=>cases h
theorem fg(b:Nat):∀(p:iU) (e:Nat) (a:ar) (x:real.V (.sl e a)) (c:Cont real),follow b e a x p=some c->c.md=b
 |[],e,a,x,c,h=>by injection h with h;rw[<-h]
 |(d,f)::p,e,a,x,c,h=>by
  simp only[follow]at h;split at h
  .exact fg b p _ _ _ c h
  .cases h
theorem dz{id g h:Nat}{p:iU}{c:Cont real}(a:s.cont id g h p = some c):(s.ob id).g = g /\
    ((∃d, (s.ob id).o = .arr c.e c.cs d c.x /\ p = [] /\ c.md = bif d then 2 else 1) \/
     (∃e b x, (s.ob id).o = .arr e b true x /\ p ≠ [] /\ (s.ob id).h = h /\ follow 2 e b x p = some c) \/
     ((s.ob id).o = .bQ c.e c.cs c.x /\ p = [] /\ c.md = 0)):=by
  unfold St.cont at a;cases f:Nat.beq (s.ob id).g g with
  |false=>rw[f]at a; cases a
  |true=>
    rw[f]at a;simp only[aJ]at a
    grind[Nat.eq_of_beq_eq_true,fU.cont]
def Ad {id g h:Nat} {p:iU} {c:Cont real} (r:s.cont id g h p=some c) (k:c.md=2) (i:IV) (j:Nat) {e':Nat} {cs':ar} {y:real.V (.sl e' cs')}
  (z:cellAt c.cs (real.get c.x i) j=some ⟨.sl e' cs',y⟩):s.cont id g (s.ob id).h (p++[(i,j)])=some ⟨e',cs',y,2⟩:=by
 obtain⟨v,q⟩:=dz r;have go:∀(e:Nat) (b:ar) (x:real.V (.sl e b)),(s.ob id).o=.arr e b true x->follow 2 e b x p=some c->s.cont id g (s.ob id).h (p++[(i,j)])=some ⟨e',cs',y,2⟩:=by
  grind[pB,St.cont,fU.cont,eN]
 rcases q with ⟨o,d,l,a⟩|⟨e,b,x,d,l,w,t⟩|⟨d,l,a⟩
 .have f:o=true:=by grind
  subst f;subst l;refine go c.e c.cs c.x d ?_;obtain⟨ce,m,u,n⟩:=c;simp only at k;subst k;rfl
 .exact go e b x d t
 .rw[k]at a;cases a
end
variable {H:Nat->Value}
section
variable {R:Type}{P:Program}{E:Env}{ω:aq}{a:Act}{w:World}{s:S}{k:S->Option R}{r:R}{o:Oper}{Q:Exit->Act->World->Prop}
def yh{b o':Nat}{a:ar}{x:a.T}(h:a.R w ω (λ_=>.bQ) (λj=>w.cell? ⟨b,o'+j,none⟩) 0 x):
  ∃c:List Value,c.length=a.len/\w.rangeAt b o' c/\aH (bU w ω s) c (unpack (A:=real) wP a x 0):=by
 obtain⟨c,d,g,e⟩:=jY (w':=w) (s:=s) (wP (A:=real)) a (λ_=>.bQ) _ 0 x h (λk t y _ v f=>f);exact⟨c,d,λj u i=>by grind,e⟩
def Ax{id d:Nat}{p:iU}{e:Nat}{a:ar}{v:Value}{x:List a.T}(l:d≠0)(m:d=1->p=[])(h:(Ty.sl e a).R w ω (aI d id p) v x)(o:0<x.length):
  ∃b arr c,v=.slice (some ⟨b,0,none⟩) x.length c/\x.length<=c/\w.heap[b]? = some (.cells arr e (0,0))/\arr.size=c*a.len/\ω b=some (id,aC p):=by
 obtain⟨f,n,c,g,i,j,k,_⟩:=h
 grind[Hd,aC,aI]
def lS{id g h:Nat}{p:iU}{c:Cont real}(a:s.cont id g h p=some c):(c.md=1->p=[])/\(c.md=0\/c.md=1\/c.md=2):=by
 obtain⟨_,b⟩:=dz a
 grind[fg]
theorem cM{id g:Nat}{cells:List L}(a:dm s id g=some cells):(s.ob id).g=g/\(s.ob id).o=.blk cells:=by
 grind[dm,Nat.eq_of_beq_eq_true]
def Ay{b:Nat}{arr:Array Value}{T:Nat}(a:w.heap[b]? = some (.cells arr T (0,0))):w.rangeAt b 0 arr.toList:=by
 intro j v c
 grind[cell_of_row]
def rH{id g h:Nat}{p:iU}{c:Cont real}(r:s.cont id g h p=some c)(m:c.md≠0){v:Value}(F:(Ty.sl c.e c.cs).R w ω (aI c.md id p) v c.x)(i:IV)(Y:0<=IV.i i)(Z:IV.i i<(List.length c.x:Int)):
  ∃b arr e,ω b=some (id,aC p)/\w.heap[b]? = some (.cells arr c.e (0,0))/\arr.size=e*c.cs.len/\List.length c.x<=e/\v=.slice (some ⟨b,0,none⟩) (List.length c.x) e /\
   ∃l:List Value,l.length=c.cs.len/\w.rangeAt b ((IV.i i).toNat*c.cs.len) l /\
    aH (bU w ω s) l (unpack (A:=real) (xA s id g p i c.md) c.cs (real.get c.x i) 0):=by
 have Q:0<List.length c.x:=by omega
 obtain⟨b,arr,e,C,H,I,J,K⟩:=Ax m (lS r).1 F Q;obtain⟨R,n,S,D,T,U,V,L⟩:=F;rw[C]at D;injection D with M W X
 have x:=L (IV.i i).toNat ⟨b,0,none⟩ (by omega) M.symm;refine⟨b,arr,e,K,I,J,H,C,?_⟩;have P:real.get c.x i=List.getD c.x (IV.i i).toNat (jk c.cs):=rfl;rw[P];obtain⟨l,o,N,q⟩:=jY (w':=w) (s:=s) (xA s id g p i c.md) c.cs _ _ 0 _ x (λk t y d v a=>by
  rcases(lS r).2 with z|B|f
  .exact absurd z m
  .rw[B]at a⊢;exact a
  .rw[f]at a⊢;simp only[bC]at a⊢;cases t with
   |sl e' cs'=>
    have O:=Ad r f i k (e':=e') (cs':=cs') (y:=y) d;refine⟨by grind[dz],by simp,λG E=>?_⟩
    grind[aI,Md.inner,aC]
   |int _=>exact a
   |bool=>exact a
   |str=>exact a
   |map _=>
    rcases a with a|⟨m,_⟩
    .exact .inl a
    .cases m)
 exact⟨l,o,λj u hu=>by grind,q⟩
def wL(h:Rel H ω a w s){t:Nat}{i:TI}{I:TypeInfo}{d:TypeDesc}(ok:vu P t i I d){v:Value}{l:L}(E:bU w ω s v l){z:bK}(f:jg s i.agg i.cs.len l=some z):
  ∃u,(Instr.loadAt t v).run P w=.ok u w/\cQ H w ω s u z:=by
 cases l with
 |ptr id g k=>
  simp only[jg]at f;cases D:dm s id g with
  |none=>rw[D]at f;cases f
  |some cells=>
   rw[D]at f;simp only at f;split at f
   .rename_i n;injection f with f
    subst f;obtain⟨Q,K⟩:=cM D;obtain⟨b,o,q⟩:=E.2 Q cells K;obtain⟨N,arr,T,B,M,C⟩:=h.c7 id cells K;obtain rfl:=h.inj _ _ _ o B;subst q;have m:=C.length;refine⟨_,lB ok (us:=(arr.toList.drop k).take i.cs.len) (by have:=mU (Ay M) k i.cs.len;simpa using this) (by simp at m⊢;omega),uk ((C.drop k).take _) i.agg⟩
   .cases f
 |bH id g V p j k=>
  simp only[jg]at f;cases r:s.cont id g V p with
  |none=>rw[r]at f;cases f
  |some c=>
   rw[r]at f;simp only at f;have F:c.md≠0:=by intro e;rw[e]at f;cases f
   rw[mc F]at f;simp only[cz]at f;split at f
   .rename_i n;injection f with f
    subst f;obtain⟨S,U,⟨b,o,q⟩,v',y⟩:=E.2.2 c r F;obtain⟨N,arr,X,B,M,C,Y,Z,us,W,G,J⟩:=rH r F y j S U;obtain rfl:=h.inj _ _ _ o B;subst q;have m:=ja (xA s id g p j c.md) c.cs (real.get c.x j) 0;rw[m]at n;refine⟨_,lB ok (us:=(us.drop k).take i.cs.len) (mU G k i.cs.len) (by simp;omega),uk ((J.drop k).take _) i.agg⟩
   .cases f
 |ei O x k=>
  simp only[jg]at f;split at f
  .rename_i n;injection f with f
   subst f;obtain⟨b,o',o,q,y,R⟩:=E;subst y;obtain⟨us,W,G,J⟩:=yh (s:=s) R;have m:=ja (wP (A:=real)) O x 0;rw[m]at n;exact⟨_,lB ok (us:=(us.drop k).take i.cs.len) (mU G k i.cs.len) (by simp;omega),uk ((J.drop k).take _) i.agg⟩
  .cases f
 |_=>cases f
def AI (m:bD P E) {t:Nat} {x:Operand} (c:o.op=.load t x) (h:Rel H ω a w s) (hd:∀d,o.dst=some d->d<a.tmps.size) {n:bA->Option (Callee real (Option R))}
  (b:aL E (av R) n o s k=some r):o.wp P a w (Ends H ω a w o.dst k r) Q:=by
 have e:=bE h E 0 x;unfold aL at b;simp only[c]at b;obtain⟨i,f,b⟩:=ah b;obtain⟨I,d,ok⟩:=m.ti _ _ f;generalize ev E s 0 x=tx at e b;split at b
 .obtain⟨z,g,b⟩:=ah b;obtain⟨u,j,l⟩:=wL h ok e g;exact aT h hd (Af c j) l b
 .cases b
def tI(h:Rel H ω a w s):∀(xs:List Operand) (f:List (cU real)),(xs.mapM λc=>wj (ev E s 0 c))=some f->aH (λv c=>gK w ω s v c) (xs.map a.eval) f
 |[],f,d=>by
  have:f=[]:=by simpa using d.symm
  subst this;trivial
 |x::xs,f,d=>by
  rw[ow]at d;obtain⟨c,b,d⟩:=CY.1 d;obtain⟨j,k,d⟩:=CY.1 d;have:f=c::j:=by simpa using d.symm
  subst this;refine⟨?_,tI h xs j k⟩;have i:=bE h E 0 x;unfold wj at b;split at b
  .rename_i id g e;rw[e]at i;injection b with b;subst b;exact i
  .rename_i j x e;rw[e]at i;injection b with b;subst b;exact i
  .cases b
theorem sJ {f:FuncId} {first captured:Array Operand} (l:o.op=.makeFunc (.func f) first captured) (h:Rel H ω a w s) (hd:∀d,o.dst=some d->d<a.tmps.size) {m:bA->Option (Callee real (Option R))}
  (b:aL E (av R) m o s k=some r):o.wp P a w (Ends H ω a w o.dst k r) Q:=by
 unfold aL at b;simp only[l]at b;cases c:Nat.beq first.size 0 with
 |false=>rw[c]at b;cases b
 |true=>
  rw[c]at b;obtain⟨e,g,i⟩:=ah b;have j:first = #[]:=Array.eq_empty_of_size_eq_zero (bc c)
  subst j;refine aT h hd (v:=.func (.func f) #[] (captured.map a.eval)) ?_ (t:=.one (.fn f e)) ⟨captured.toList.map a.eval,?_,tI h _ _ g⟩ i
  .simp_all[execOp,Instr.makeFunc]
  .congr 1;apply Array.ext';simp
theorem yO (S:bD P E) {t f:Nat} {x:Operand} (y:o.op=.field t x f) (h:Rel H ω a w s) (hd:∀d,o.dst=some d->d<a.tmps.size) {X:bA->Option (Callee real (Option R))}
  (b:aL E (av R) X o s k=some r):o.wp P a w (Ends H ω a w o.dst k r) Q:=by
 have A:=bE h E t x;unfold aL at b;simp only[y]at b;obtain⟨i,l,b⟩:=ah b;obtain⟨q,O,b⟩:=ah b;obtain⟨I,d,ok⟩:=S.ti _ _ l;have c:i.agg=true:=by
  cases U:i.agg with
  |true=>rfl
  |false=>rw[U]at b;cases b
 rw[c]at b;simp only[l7,cz]at b;obtain⟨fs,M,g2,N⟩:=ok.mh c;obtain⟨F,Y,B,D,p,G,J,Z,K,L,j⟩:=N f q O;subst M;generalize ev E s t x=tx at A b;split at b
 .rename_i ls;obtain⟨g,C,z⟩:=A;cases m:Nat.ble (q.1+q.2.1) ls.length with
  |false=>rw[m]at b;cases b
  |true=>
   rw[m]at b;simp only[aJ]at b;have V:=bn m;have u:=z.length;refine aT h hd (v:=fO q.2.2 ((g.drop q.1).take q.2.1)) ?_ (uk ((z.drop q.1).take q.2.1) q.2.2) b;have e:(part F.type g.toArray F.offset).run P w=.ok (fO q.2.2 ((g.drop q.1).take q.2.1)) w:=by
    have T:(isAgg F.type).run P w=.ok q.2.2 w:=by unfold isAgg;rw[Sem.run_bind,run_underlying K w,<-L];cases B <;> rfl
    unfold part;rw[Sem.run_bind,T];cases W:q.2.2 with
    |true=>simp[sizeOf,typeInfo,G,J,p,fO]
    |false=>
     have l:=j W;have n:q.1<g.length:=by omega
     rw[l];simp[p,fO,cL n]
     grind[List.drop_eq_getElem_cons]
   unfold execOp;simp only[y,C];simp[Instr.field,run_underlying ok.zO,D,asAgg,e]
 .cases b
theorem rY (hE:bD P E) {t f:Nat} {x:Operand} (M:o.op=.fieldAddr t x f) (h:Rel H ω a w s) (hd:∀d,o.dst=some d->d<a.tmps.size) {Φ:bA->Option (Callee real (Option R))}
  (l:aL E (av R) Φ o s k=some r):o.wp P a w (Ends H ω a w o.dst k r) Q:=by
 have B:=bE h E 0 x;unfold aL at l;simp only[M]at l;obtain⟨i,h1,l⟩:=ah l;obtain⟨q,h2,l⟩:=ah l;obtain⟨I,d,ok⟩:=hE.ti _ _ h1;have A:i.agg=true:=by
  cases K:i.agg with
  |true=>rfl
  |false=>rw[K]at l;cases l
 rw[A]at l;simp only[l7,cz]at l;obtain⟨fs,g1,g2,g3⟩:=ok.mh A;obtain⟨F,T,Fd,X,Y,Z,f4,f5,f6,f7,IR⟩:=g3 f q h2;subst g1;have n:∀b m,(Instr.fieldAt t (.pointer (some ⟨b,m,none⟩)) f).run P w=.ok (.pointer (some ⟨b,m+q.1,none⟩)) w:=by
  intro b m;have hn:T.size≠0:=by omega
  simp[Instr.fieldAt,run_underlying ok.zO,X,Instr.sureAddr,fieldPlace,sizeOf,typeInfo,Z,hn,Addr.add_mid,Y]
 have u:∀z,(Instr.fieldAt t (a.eval x) f).run P w=.ok z w->(execOp a.eval o).run P w=.ok (.value z) w:=by intro z hz;unfold execOp;simp only[M];rw[Sem.run_bind,hz];rfl
 generalize ev E s 0 x=tx at B l;generalize hv:a.eval x=v at B u;split at l
 .rename_i id g m;obtain⟨cells,G,l⟩:=ah l;obtain⟨V,W⟩:=cM G;obtain⟨b,J,D⟩:=B.2 V cells W;subst D;exact aT h hd (u _ (n b m)) (t:=.one (.ptr id g (m+q.1))) ⟨B.1,λK C hc=>⟨b,J,rfl⟩⟩ l
 .rename_i id g hh p j m;obtain⟨c,G,l⟩:=ah l;have L:c.md≠0:=by intro e;rw[e]at l;cases l
  rw[mc L]at l;obtain⟨N,O,⟨b,J,D⟩,S⟩:=B.2.2 c G L;subst D;refine aT h hd (u _ (n b _)) (t:=.one (.bH id g hh p j (m+q.1))) ⟨B.1,B.2.1,λc' Gb hm'=>?_⟩ l
  grind
 .rename_i U y m;obtain⟨b,o',N,O,S,u4⟩:=B;subst S;exact aT h hd (u _ (n b _)) (t:=.one (.ei U y (m+q.1))) ⟨b,o',N,O,by rw[Nat.add_assoc],u4⟩ l
 .cases l
theorem sK {x:Operand} (J:o.op=.nilCheck x) (h:Rel H ω a w s) (hd:∀d,o.dst=some d->d<a.tmps.size) {M:bA->Option (Callee real (Option R))}
  (f:aL E (av R) M o s k=some r):o.wp P a w (Ends H ω a w o.dst k r) Q:=by
 have m:=bE h E 0 x;unfold aL at f;simp only[J]at f;have l:∀u,a.eval x=.pointer (some u)->(execOp a.eval o).run P w=.ok (.value (.pointer (some u))) w:=by simp_all[execOp]
 generalize ev E s 0 x=tx at m f;generalize O:a.eval x=v at m l;split at f
 .rename_i id g i;obtain⟨cells,q,f⟩:=ah f;obtain⟨D,F⟩:=cM q;obtain⟨b,G,I⟩:=m.2 D cells F
  grind[aT]
 .rename_i id g N p j i;obtain⟨c,q,f⟩:=ah f;have z:c.md≠0:=by intro e;rw[e]at f;cases f
  rw[mc z]at f;obtain⟨A,B,⟨b,G,I⟩,n⟩:=m.2.2 c q z
  grind[aT]
 .rename_i C y i;obtain⟨b,K,A,B,n,L⟩:=m;exact aT h hd (by rw[l _ n,<-n]) (t:=.one (.ei C y i)) ⟨b,K,A,B,n,L⟩ f
 .cases f
end
variable {H:Nat->Value}
section
variable {R:Type}{P:Program}{E:Env}{ω:aq}{a:Act}{w:World}{s:S}{k:S->Option R}{r:R}{o:Oper}{Q:Exit->Act->World->Prop}
def lA(l:bD P E){t e:Nat}{a:ar}(m:E.nx t=some (e,a))(b off n c:Nat)(i:Int)(h:0<=i)(k:i<(n:Int)):
  (Instr.indexAt t (.slice (some ⟨b,off,none⟩) n c) (.int .i64 i)).run P w=.ok (.pointer (some ⟨b,off+i.toNat*a.len,none⟩)) w:=by
 obtain⟨o,j,I,d,p,f,ok⟩:=gQ l m;have g:I.size=a.len:=by rw[ok.size,f]
 simp[Instr.indexAt,asIntOf,run_underlying o,h,k,sizeOf,typeInfo,ok.info,g,Addr.add_mid]
def BY{α:Type}{x:List α}{i:Int}(h:aZ x i=true):0<=i/\i<(x.length:Int):=by
 grind[aZ]
def wH{e:Nat}{d:ar}{v:Value}{x:List d.T}(h:(Ty.sl e d).R w ω .bQ v x){i:Int}(s:0<=i)(t:i<(x.length:Int)):
  ∃b a c,v=.slice (some ⟨b,a,none⟩) x.length c/\ω b=none/\b<w.heap.size/\d.R w ω (λ_=>.bQ) (λj=>w.cell? ⟨b,a+i.toNat*d.len+j,none⟩) 0 (ae (jk d) x i):=by
 obtain⟨q,n,c,f,g,r,k,l⟩:=h;subst g;obtain⟨b,a,m,o,p⟩:=k (by omega);subst m;exact⟨b,a,c,f,o,p,l i.toNat _ (by omega) rfl⟩
theorem rZ (T:bD P E) {t:Nat} {x ix:Operand} (ho:o.op=.indexAddr t x ix) (h:Rel H ω a w s) (hd:∀d,o.dst=some d->d<a.tmps.size) {Φ:bA->Option (Callee real (Option R))}
  (l:aL E (av R) Φ o s k=some r):o.wp P a w (Ends H ω a w o.dst k r) Q:=by
 have D:=bE h E t x;have hi:=bE h E 3 ix;unfold aL at l;simp only[ho]at l;obtain⟨(i:Int),Z,l⟩:=ah l;obtain⟨⟨e,F⟩,O,l⟩:=ah l;have hiv:=iK Z hi;have n:∀z,(Instr.indexAt t (a.eval x) (.int .i64 i)).run P w=.ok z w->(execOp a.eval o).run P w=.ok (.value z) w:=by simp_all[execOp]
 generalize ev E s t x=tx at D l;generalize hv:a.eval x=v at D n;split at l
 .rename_i V J y;cases A:ar.beq F J with
  |false=>simp only[A]at l;cases l
  |true=>
   simp only[A,aJ]at l;obtain rfl:=ar.eq_of_beq A;have f:(bif aZ y i then k (s.bI o.dst (.one (.ei F (real.get (e:=V) y i) 0)))else none)=some r:=l;cases B:aZ y i with
   |false=>rw[B]at f;cases f
   |true=>rw[B]at f;obtain⟨u,j⟩:=BY B;obtain⟨b,C,c,K,L,M,N⟩:=wH D u j;subst K;exact aT h hd (n _ (lA T O b C _ c i u j)) (t:=.one (.ei F (real.get (e:=V) y i) 0)) ⟨b,_,L,M,rfl,N⟩ f
 .rename_i id g W p;obtain⟨c,S,q⟩:=ah l;clear l;cases A:ar.beq F c.cs with
  |false=>simp only[A]at q;cases q
  |true=>
   simp only[A,aJ]at q;obtain rfl:=ar.eq_of_beq A;have f:(bif aZ c.x i then(bif Nat.beq c.md 0 then k (s.bI o.dst (.one (.ei c.cs (real.get c.x i) 0)))else k (s.bI o.dst (.one (.bH id g W p i 0))))else none)=some r:=q;cases B:aZ c.x i with
   |false=>rw[B]at f;cases f
   |true=>
    rw[B]at f;simp only[aJ]at f;obtain⟨u,j⟩:=BY B;have G:=D.2.2 c S;by_cases U:c.md=0
    .rw[U]at f G;obtain⟨b,C,I,K,L,M,N⟩:=wH G u j;subst K;exact aT h hd (n _ (lA T O b C _ I i u j)) (t:=.one (.ei c.cs (real.get c.x i) 0)) ⟨b,_,L,M,rfl,N⟩ f
    .rw[mc U]at f;obtain⟨b,arr,I,X,g2,g3,g4,Y,us,u1,u2,u3⟩:=rH S U G i u j;subst Y;refine aT h hd (n _ (lA T O b 0 _ I i u j)) (t:=.one (.bH id g W p i 0)) ⟨D.1,D.2.1,λc' m hm'=>?_⟩ f;rw[S]at m;injection m with m
     subst m;exact⟨u,j,⟨b,X,by simp;rfl⟩,_,G⟩
 .cases l
def ri(b:bD P E){t:Nat}(h:lP E t=true):P.underlying t=some .string:=by
 unfold lP at h;split at h
 .rename_i i e;obtain⟨I,d,ok⟩:=b.ti _ _ e;rw[aQ]at h;obtain⟨f,a⟩:=h;have c:i.cs=.cons .str .nil:=by
   grind
  rw[ok.zO,ok.ED c (by simpa using a)]
 .cases h
def B0{t:bK}{a:IntKind}{i:Int}{v:Value}(h:BZ t=some (⟨a,i⟩:Sigma λk=>real.V (.int k)))(d:cQ H w ω s v t):v=.int a i:=by
 unfold BZ at h;split at h
 .injection h with h
  injection h with b c
  subst b;subst c;exact d
 .cases h
theorem yP (l:bD P E) {t:Nat} {x ix:Operand} (q:o.op=.index t x ix) (h:Rel H ω a w s) (hd:∀d,o.dst=some d->d<a.tmps.size) {A:bA->Option (Callee real (Option R))}
  (b:aL E (av R) A o s k=some r):o.wp P a w (Ends H ω a w o.dst k r) Q:=by
 have u:=bE h E t x;have m:=bE h E 3 ix;unfold aL at b;simp only[q]at b;cases f:lP E t with
 |false=>rw[f]at b;cases b
 |true=>
  rw[f]at b;simp only[aJ]at b;obtain⟨⟨ik,(i:Int)⟩,g,b⟩:=ah b;obtain⟨(y:ByteArray),j,b⟩:=ah b;have n:=B0 g m;have z:=zN j u;have D:=ri l f;have c:(bif Cz y i then k (s.bI o.dst (.one (.val (.int .u8) (tQ y i))))else none)=some r:=b;cases e:Cz y i with
  |false=>rw[e]at c;cases c
  |true=>
   rw[e]at c;unfold Cz at e;rw[aQ]at e;have B:=bR e.1;have C:=bR e.2;have p:i.toNat<y.size:=by omega
   refine aT h hd (v:=.int .u8 (tQ y i)) ?_ (t:=.one (.val (.int .u8) (tQ y i))) rfl c;simp_all[execOp,Instr.index,asIntOf,run_underlying,tQ]
def wo{t:bK}{v:Value}{c:Cont real}(h:gC s t=some c)(e:cQ H w ω s v t):∃a b,v=.slice a (List.length c.x) b/\List.length c.x<=b:=by
 unfold gC at h;split at h
 .injection h with h
  subst h;obtain⟨a,n,b,d,f,g,_⟩:=e
  grind
 .injection h with h
  subst h;obtain⟨a,d⟩:=e;exact⟨a,0,d,az _⟩
 .obtain⟨a,n,b,d,f,g,_⟩:=e.2.2 c h
  grind
 .cases h
def eM {b:Builtin} {args:Array Operand} {c:Array Nat} (e:o.op=.call ⟨.builtin b,args,c⟩) {z:Next} {d:World}
  (h:(builtin b c o.type (args.map λ|.const _=>true|_=>false) (args.map a.eval)).run P w=.ok z d):(execOp a.eval o).run P w=.ok z d:=by
 unfold execOp;simp only[e,resolve];rw[Sem.run_bind];exact h
def IK{α a:Type}(xs:Array α)(c:Array a){b:Type}(f:α×a->b){l:List b}(h:(xs.toList.zip c.toList).map f=l):True:=trivial
theorem yR (G:bD P E) {b:Builtin} {args:Array Operand} {g:Array Nat} (A:o.op=.call ⟨.builtin b,args,g⟩) (z:b=.len\/b=.min\/b=.max) (l:args.size=g.size) (h:Rel H ω a w s) (hd:∀d,o.dst=some d->d<a.tmps.size) {J:bA->Option (Callee real (Option R))}
  (f:aL E (av R) J o s k=some r):o.wp P a w (Ends H ω a w o.dst k r) Q:=by
 unfold aL at f;have B:Nat.beq args.size g.size=true:=by rw[l];exact l6 _
 simp only[A,B,aJ]at f;obtain⟨args⟩:=args;obtain⟨g⟩:=g;simp only at f l;have i:args.length=g.length:=by simpa using l
 rcases z with rfl|rfl|rfl
 .match args,g,i with
  |[x],[t],_=>
   have q:=bE h E t x;simp only[pg,p7,cR,lY,dD]at f;cases z:lP E t with
   |true=>rw[z]at f;simp only[aJ]at f;obtain⟨(y:ByteArray),j,f⟩:=ah f;have p:=zN j q;refine aT h hd (v:=.int .i64 (y.size:Int)) ?_ (t:=.one (.val (.int .i64) (real.EC y))) rfl f;refine eM A ?_;simp[builtin,Builtin.len_,run_underlying (ri G z),p,goInt]
   |false=>rw[z]at f;simp only[cz]at f;obtain⟨⟨e,M⟩,u,f⟩:=ah f;obtain⟨c,j,f⟩:=ah f;obtain⟨K,L,I,_⟩:=wo j q;refine aT h hd (v:=.int .i64 (List.length c.x:Int)) ?_ (t:=.one (.val (.int .i64) (real.len c.x))) rfl f;refine eM A ?_;simp[builtin,Builtin.len_,run_underlying (gQ G u).1,I,goInt]
  |[],[],_=>cases f
  |_::_::_,_::_::_,_=>cases f
 .match args,g,i with
  |[x,y],[t,F],_=>have q:=bE h E t x;have C:=bE h E F y;simp only[pg,p7,cR,lY,dD]at f;obtain⟨(m:Int),u,f⟩:=ah f;obtain⟨(n:Int),j,f⟩:=ah f;have p:=iK u q;have D:=iK j C;refine aT h hd (v:=.int .i64 (nS false m n)) ?_ (t:=.one (.val (.int .i64) (real.Co false .i64 m n))) rfl f;refine eM A ?_;simp_all[builtin,Builtin.min_,Builtin.min2,nS]
  |[],[],_=>cases f
  |[_],[_],_=>cases f
  |_::_::_::_,_::_::_::_,_=>cases f
 .match args,g,i with
  |[x,y],[t,F],_=>have q:=bE h E t x;have C:=bE h E F y;simp only[pg,p7,cR,lY,dD]at f;obtain⟨(m:Int),u,f⟩:=ah f;obtain⟨(n:Int),j,f⟩:=ah f;have p:=iK u q;have D:=iK j C;refine aT h hd (v:=.int .i64 (nS true m n)) ?_ (t:=.one (.val (.int .i64) (real.Co true .i64 m n))) rfl f;refine eM A ?_;simp_all[builtin,Builtin.max_,Builtin.max2,nS]
  |[],[],_=>cases f
  |[_],[_],_=>cases f
  |_::_::_::_,_::_::_::_,_=>cases f
end
variable {H:Nat->Value}
section
variable {R:Type}{P:Program}{E:Env}{ω:aq}{a:Act}{w:World}{s:S}{k:S->Option R}{r:R}{o:Oper}{Q:Exit->Act->World->Prop}
def zF{id g:Nat}{q:Sigma λk=>real.V (.sl 0 (ar.mp k))}(h:sy s id g=some q):(s.ob id).g=g/\(s.ob id).o=.mp q.1 q.2:=by
 grind[sy,Nat.eq_of_beq_eq_true]
def tY{v:Value}{l:L}(h:bU w ω s v l)(a:eT s l=true):v.oneCell'=true/\v.cells = #[v]:=by
 cases l with
 |val t x=>
  cases t with
  |sl e z=>obtain⟨u,n,c,d,_⟩:=h;subst d;exact⟨rfl,rfl⟩
  |int k=>have:v=.int k x:=h;subst this;exact⟨rfl,rfl⟩
  |bool=>have:v=.bool x:=h;subst this;exact⟨rfl,rfl⟩
  |str=>have:v=.string x:=h;subst this;exact⟨rfl,rfl⟩
  |map _=>rcases h with ⟨h,_⟩|⟨_,_,_,_,h,_⟩ <;> subst h <;> exact⟨rfl,rfl⟩
 |eI e z=>obtain⟨u,d⟩:=h;subst d;exact⟨rfl,rfl⟩
 |ref id g A p=>unfold eT at a;obtain⟨c,j⟩:=vQ.1 a;obtain⟨u,n,C,d,_⟩:=h.2.2 c j;subst d;exact⟨rfl,rfl⟩
 |ptr id g o=>unfold eT at a;obtain⟨cells,j⟩:=vQ.1 a;obtain⟨d,r⟩:=cM j;obtain⟨b,_,m⟩:=h.2 d cells r;subst m;exact⟨rfl,rfl⟩
 |bH id g A p i o=>
  simp only[eT]at a;cases j:s.cont id g A p with
  |none=>rw[j]at a;cases a
  |some c=>
   rw[j]at a;have B:c.md≠0:=by intro e;simp only[e]at a;cases a
   obtain⟨_,_,⟨b,_,m⟩,_⟩:=h.2.2 c j B;subst m;exact⟨rfl,rfl⟩
 |ei z x o=>obtain⟨b,F,_,_,m,_⟩:=h;subst m;exact⟨rfl,rfl⟩
 |fn f y=>obtain⟨D,d,_⟩:=h;subst d;exact⟨rfl,rfl⟩
 |cD id g=>simp only[eT]at a;obtain⟨q,j⟩:=vQ.1 a;obtain⟨d,r⟩:=zF j;obtain⟨b,E,c,_,m,_⟩:=h.2 d q.1 q.2 r;subst m;exact⟨rfl,rfl⟩
 |C4 _ _=>cases a
 |undef=>cases a
 |dead=>cases a
def jy{v:Value}{t:bK}{ls:List L}(h:cQ H w ω s v t)(b:cells? s t=some ls):
  aH (bU w ω s) v.cells.toList ls/\(∀u∈v.cells.toList,u.oneCell'=true)/\(∀l∈ls,eT s l=true):=by
 unfold cells? at b;cases t with
 |one l=>
  cases c:eT s l with
  |false=>grind
  |true=>
   simp only[c,aJ]at b;injection b with b
   subst b;obtain⟨k,d⟩:=tY h c;rw[d];exact⟨⟨h,trivial⟩,by simpa using k,by simpa using c⟩
 |agg i=>
  simp only at b;cases c:i.all (eT s)with
  |false=>rw[c]at b;cases b
  |true=>
   rw[c]at b;injection b with b
   subst b;obtain⟨f,j,e⟩:=h;subst j;have a:=cg.1 c;refine⟨by simpa[Value.cells] using e,?_,a⟩;have o:∀(f:List Value) (ls:List L),aH (bU w ω s) f ls->(∀l∈ls,eT s l=true)->∀u∈f,u.oneCell'=true:=by
    intro f;induction f with
    |nil=>intro ls _ _ u e;cases e
    |cons v q n=>
     intro ls d a u e;cases ls with
     |nil=>exact d.elim
     |cons l ls=>
      cases e with
      |head=>exact(tY d.1 (a l (by simp))).1
      |tail _ m=>exact n ls d.2 (λp g=>a p (by simp[g])) u m
   grind[Value.cells]
 |ol _=>cases b
 |pQ _ _=>cases b
def Bk:∀(t:Ty),bU w ω s (zeroOf t) (CT real t)
 |.int _=>rfl
 |.bool=>rfl
 |.str=>rfl
 |.map _=>.inl ⟨rfl,rfl⟩
 |.sl _ _=>⟨none,rfl⟩
theorem oB:∀(a:ar),aH (bU w ω s) (gR a) (oe real a)
 |.nil=>trivial
 |.cons t ts=>⟨Bk t,oB ts⟩
def foldl_set(d:List Value):∀(a m:Nat) (b:Array Value),a+m+d.length<=b.size ->
  ((d.zipIdx m).foldl (λb (c,j)=>b.setIfInBounds (a+j) c) b).toList=b.toList.take (a+m)++d++b.toList.drop (a+m+d.length):=by
 induction d with
 |nil=>intro a m b _;simp
 |cons v d h=>
  intro a m b e;simp only[gB]at e;simp only[List.zipIdx_cons,List.foldl_cons];rw[h a (m+1) _ (by simp;omega)];have f:a+m<b.toList.length:=by simp;omega
  simp only[vk];rw[List.take_set,List.drop_set_of_lt (by omega)];have g:(b.toList.take (a+(m+1))).set (a+m) v=b.toList.take (a+m)++[v]:=by
   rw[show a+(m+1)=a+m+1 by omega,xB f];rw[List.set_append_right _ _ (by simp;omega)];simp;have:a+m-min (a+m) b.size=0:=by omega
   rw[this];rfl
  rw[g];simp only[gB,je,gV,gi]
  grind
def zo(h:Rel H ω a w s){k:List (Nat×Nat×Bool)}(b:Nat->Option (Nat×Nat))(F:∀(i:Nat) q,k[i]? = some q->b i=some (q.1,q.2.1)):
  ∀(parts:List (Nat×Operand)) (g:List L) (arr:Array Value) (ls:List L),aH (bU w ω s) arr.toList g->fR k E s parts g=some ls ->
   ∃f,Instr.fill b arr (parts.map λp=>(p.1,a.eval p.2))=some f/\aH (bU w ω s) f.toList ls
 |[],g,arr,ls,m,d=>by
  injection d with d
  subst d;exact⟨arr,rfl,m⟩
 |(i,x)::parts,g,arr,ls,m,d=>by
  simp only[fR]at d;cases z:k[i]? with
  |none=>rw[z]at d;cases d
  |some q=>
   obtain⟨e,n,I⟩:=q;rw[z]at d;simp only at d;cases u:cells? s (ev E s 0 x)with
   |none=>rw[u]at d;cases d
   |some v=>
    rw[u]at d;simp only at d;cases o:Nat.beq v.length n&&Nat.ble (e+n) g.length with
    |false=>rw[o]at d;cases d
    |true=>
     rw[o]at d;simp only[aJ]at d;rw[aQ]at o;have y:=bc o.1;have D:=bn o.2;obtain⟨A,_,_⟩:=jy (bE h E 0 x) u;have r:=A.length;have C:=m.length;have G:(a.eval x).cells.size=n:=by rw[<-y,<-r];simp
     have t:e+(a.eval x).cells.toList.length<=arr.size:=by
      grind
     have l:=foldl_set (a.eval x).cells.toList e 0 arr (by simpa using t);have B:(a.eval x).cells.zipIdx.foldl (λg (c,j)=>g.setIfInBounds (e+j) c) arr=((a.eval x).cells.toList.zipIdx 0).foldl (λg (c,j)=>g.setIfInBounds (e+j) c) arr:=by rw[<-Array.foldl_toList];congr 1;simp
     obtain⟨f,J,K⟩:=zo h b F parts _ (((a.eval x).cells.toList.zipIdx 0).foldl (λg (c,j)=>g.setIfInBounds (e+j) c) arr) ls (by rw[l];simp only[iD];rw[r,y];exact((m.take e).iP A).iP (m.drop (e+n))) d
     grind[Instr.fill]
def ux {t:Nat} {i:TI} {I:TypeInfo} {d:TypeDesc} (ok:vu P t i I d) (m:i.agg=true) (parts:List (Nat×Value)) {arr:Array Value}
  (A:∀z:Value,I.zero=some z->Instr.fill ((i.mh.map λq=>(q.1,q.2.1)).toArray[·]?) z.cells parts=some arr):P.built t parts=some arr:=by
 obtain⟨j,k,x,y⟩:=ok.mh m;obtain⟨z,B,_⟩:=ok.zero;have a:j.toList.mapM (λf=>(P.info? f.type).map λi=>(f.offset,i.size))=some (i.mh.map λq=>(q.1,q.2.1)):=by
  have o:∀(l:List Field) (q:List (Nat×Nat×Bool)),l.length=q.length->(∀(f:Nat) p,q[f]? = some p->∃F b,l[f]? = some F/\F.offset=p.1/\P.info? F.type=some b/\b.size=p.2.1) ->
    l.mapM (λf=>(P.info? f.type).map λi=>(f.offset,i.size))=some (q.map λp=>(p.1,p.2.1)):=by
   intro l;induction l with
   |nil=>grind
   |cons F l n=>
    intro q g h;cases q with
    |nil=>cases g
    |cons p q=>
     obtain⟨s,b,e,u,v,w⟩:=h 0 p rfl;simp at e;subst e;have:=n q (by simpa using g) (λf r c=>by simpa using h (f+1) r (by simpa using c))
     grind
  grind
 unfold Program.built;subst k;rw[ok.info,ok.zO]
 grind
theorem yN (p:bD P E) {t:Nat} {parts:Array (Nat×Operand)} (u:o.op=.build t parts) (h:Rel H ω a w s) (hd:∀d,o.dst=some d->d<a.tmps.size) {C:bA->Option (Callee real (Option R))}
  (c:aL E (av R) C o s k=some r):o.wp P a w (Ends H ω a w o.dst k r) Q:=by
 unfold aL at c;simp only[u]at c;obtain⟨i,m,c⟩:=ah c;obtain⟨I,d,ok⟩:=p.ti _ _ m;cases f:i.agg with
 |false=>rw[f]at c;cases c
 |true=>
  rw[f]at c;simp only[aJ]at c;obtain⟨ls,n,c⟩:=ah c;obtain⟨z,A,B⟩:=ok.zero;obtain⟨b,g,l⟩:=zo h ((i.mh.map λq=>(q.1,q.2.1)).toArray[·]?) (λj q y=>by simp[y]) parts.toList _ z.cells ls (by grind[oB]) n;have D:P.built t (parts.map λ(i,x)=>(i,a.eval x)).toList=some b:=ux ok f _ (λF e=>by
   rw[A]at e;injection e with e
   subst e;rw[<-g];congr 1;simp)
  refine aT h hd (v:=.agg b) ?_ (t:=.agg ls) ⟨b.toList,by simp,l⟩ c;simp_all[execOp,run_build]
end
variable {H:Nat->Value}
section
variable {R:Type}{P:Program}{E:Env}{ω:aq}{a:Act}{w:World}{s:S}{k:S->Option R}{r:R}{o:Oper}{Q:Exit->Act->World->Prop}
structure Passes (H:Nat->Value) (ω:aq) (a:Act) (w:World) (s:S) (cu:aq) (s':S):Prop where
 rel:Rel H cu a w s'
 ext:cH ω w cu w
 tr:∀id,Tr w ω s w cu s' id
theorem Passes.refl(h:Rel H ω a w s):Passes H ω a w s ω s:=⟨h,cH.refl _ _,λ_=>Tr.nq h.dom rfl⟩
def Tr.trans{f j:World}{a b:aq}{d e:S}{id:Nat}(h:Tr w ω s f a d id)(c:Tr f a d j b e id):Tr w ω s j b e id where
 ref v g hh p x:=c.ref v g hh p (h.ref v g hh p x)
 ptr v g off x:=c.ptr v g off (h.ptr v g off x)
 bH v g hh p i off x:=c.bH v g hh p i off (h.bH v g hh p i off x)
 cD v g x:=c.cD v g (h.cD v g x)
def Passes.trans{b c:aq}{e f:S}(h:Passes H ω a w s b e)(d:Passes H b a w e c f):Passes H ω a w s c f:=⟨d.rel,h.ext.trans d.ext,λid=>(h.tr id).trans (d.tr id)⟩
def rI(h:Rel H ω a w s){t:Ty}{l:L}{v:Value}{x:t.T}{o:S}(q:bU w ω s v l)(b:bF (A:=real) false t l s=some (x,o)):
  ∃j,Passes H ω a w s j o/\t.R w j .bQ v x/\((o=s/\j=ω)\/∃id e d r y,(s.ob id).o=.arr e d r y/\o=s.bq id true (.bQ e d y)/\j=ω.drop id):=by
 cases l with
 |val u y=>
  have F:∃f:Ty.beq u t=true,x=real.cast f y/\o=s:=by cases u <;> simp only[bF,cz]at b <;> split at b <;> first|(cases b;done)|grind
  obtain⟨f,rfl,rfl⟩:=F;obtain rfl:=Ty.eq_of_beq f;exact⟨ω,Passes.refl h,q,.inl ⟨rfl,rfl⟩⟩
 |eI e d=>
  cases t with
  |sl P J=>
   simp only[bF]at b;split at b
   .rename_i f;injection b with b
    injection b with k m
    subst k;subst m;have:=Ty.eq_of_beq f;injection this with z K
    subst z;subst K;obtain⟨G,z⟩:=q;exact⟨ω,Passes.refl h,⟨G,0,0,z,rfl,az _,λO=>absurd O (by omega),λi I N=>absurd N (by omega)⟩,.inl ⟨rfl,rfl⟩⟩
   .cases b
  |_=>cases b
 |ref id g D p=>
  cases p with
  |cons _ _=>cases t <;> cases b
  |nil=>
   simp only[bF]at b;cases C:Nat.beq (s.ob id).g g with
   |false=>rw[C]at b;cases b
   |true=>
    rw[C]at b;simp only[aJ]at b;have M:=bc C;cases c:(s.ob id).o with
    |arr e d r y=>
     rw[c]at b;simp only[cz]at b;split at b
     .rename_i f;injection b with b
      injection b with k m
      subst k;subst m;obtain rfl:=Ty.eq_of_beq f;have n:id≠0:=h.pR (by grind);have tr:=lO (s:=s) n h.dom c true;refine⟨ω.drop id,⟨h.freeze c true,bj _ _ _ n,tr⟩,?_,.inr ⟨id,e,d,r,y,c,rfl,rfl⟩⟩;have E:=(tr id).ref v g D [] q;have B:(s.bq id true (.bQ e d y)).cont id g D []=some ⟨e,d,y,0⟩:=by
       grind[St.cont,fU.cont,St.ay]
      exact E.2.2 _ B
     .cases b
    |bQ e d y=>
     rw[c]at b;simp only[cz]at b;split at b
     .rename_i f;injection b with b
      injection b with k m
      subst k;subst m;obtain rfl:=Ty.eq_of_beq f;have B:s.cont id g D []=some ⟨e,d,y,0⟩:=by
       grind[St.cont,fU.cont]
      exact⟨ω,Passes.refl h,q.2.2 _ B,.inl ⟨rfl,rfl⟩⟩
     .cases b
    |blk _=>rw[c]at b;cases b
    |gone=>rw[c]at b;cases b
    |mp _ _=>rw[c]at b;cases b
 |_=>cases t <;> cases b
theorem wS(h:Rel H ω a w s){t:Ty}{l:L}{v:Value}{x:t.T}{c:S}(f:bU w ω s v l)(g:bF (A:=real) false t l s=some (x,c)):
  ∃b,Passes H ω a w s b c/\t.R w b .bQ v x:=
 let ⟨b,d,e,_⟩:=rI h f g
 ⟨b,d,e⟩
def rM:∀(p:ar) (ls:List L) (i:List Value) (f:aq) (s:S) (x:p.T) (o:S),Rel H f a w s->aH (bU w f s) i ls->eR (A:=real) false p ls s=some (x,o) ->
  ∃m,Passes H f a w s m o/\∀(j:Nat) (g:Nat->Option Value),(∀k u,i[k]? = some u->g (j+k)=some u)->p.R w m (λ_=>.bQ) g j x
 |.nil,[],i,f,s,x,o,h,_,b=>by
  injection b with b
  injection b with _ d
  subst d;exact⟨f,Passes.refl h,λ_ _ _=>trivial⟩
 |.cons t ts,l::ls,[],_,_,_,_,_,d,_=>d.elim
 |.cons t ts,l::ls,u::i,f,s,x,o,h,d,b=>by
  simp only[eR]at b;cases r:bF (A:=real) false t l s with
  |none=>rw[r]at b;cases b
  |some q=>
   obtain⟨y,E⟩:=q;rw[r]at b;simp only at b;cases v:eR (A:=real) false ts ls E with
   |none=>rw[v]at b;cases b
   |some M=>
    obtain⟨e,P⟩:=M;rw[v]at b;simp only at b;injection b with b
    injection b with F G
    subst F;subst G;obtain⟨B,n,N⟩:=wS h d.1 r;obtain⟨c,D,O⟩:=rM ts ls i B E e P n.rel (d.2.mono λ_ _ J=>bU.frame n.ext n.tr J) v;refine⟨c,n.trans D,λj g C=>?_⟩;have I:kp (kZ (t:=t) (ts:=ts) y e)=y:=kI _ _;have K:jP (kZ (t:=t) (ts:=ts) y e)=e:=kK _ _;refine⟨⟨u,by simpa using C 0 u rfl,?_⟩,?_⟩
    .show t.R w c .bQ u (kp (kZ y e));rw[I];exact Ty.bZ (az _) t .bQ u y D.ext.keeps N
    .show ts.R w c _ g (j+1) (jP (kZ y e));rw[K];exact O (j+1) g (λk Q z=>by
      have:=C (k+1) Q (by simpa using z)
      grind)
 |.nil,_::_,_,_,_,_,_,_,_,b=>by cases b
 |.cons _ _,[],_,_,_,_,_,_,_,b=>by cases b
def eF.alloc(w:World)(o:Obj):eF w (w.alloc o):=eF.push w o
def fM(w:World)(o:Obj):(w.alloc o).heap.size=w.heap.size+1:=by show(w.heap.push o).size=_;simp
def EB(t:Nat)(v:Value):(newVar t v).run P w=.ok ⟨w.heap.size,0,none⟩ (w.alloc (.cells v.cells t)):=rfl
def Az{t:Nat}{i:TI}{I:TypeInfo}{d:TypeDesc}(ok:vu P t i I d){z:Value}(b:I.zero=some z)(old:Value):
  (Instr.alloc t true old).run P w=.ok (.pointer (some ⟨w.heap.size,0,none⟩)) (w.alloc (.cells z.cells t)):=by
 have a:(zeroValue t).run P w=.ok z w:=by simp[zeroValue,typeInfo,ok.info,b]
 unfold Instr.alloc;rw[Sem.run_bind,a];cases old with
 |pointer p=>cases p <;> rfl
 |_=>rfl
theorem wz (h:Rel H ω a w s) (hd:∀d,o.dst=some d->d<a.tmps.size) {arr:Array Value} {T:Nat} {cells:List L} {id:Nat} (e:id≠0) (j:aH (bU w ω s) arr.toList cells)
  (i:k ((s.new id (.blk cells)).bI o.dst (.one (.ptr id ((s.new id (.blk cells)).ob id).g 0)))=some r):
  Ends H ω a w o.dst k r (a.put o.dst (.pointer (some ⟨w.heap.size,0,none⟩))) (w.alloc (.cells arr T)):=by
 have c:w.heap.size<(w.alloc (.cells arr T)).heap.size:=by rw[fM];omega
 have f:=h.fresh (id:=id) e (eF.alloc w (.cells arr T)) (az _) c (.blk cells) (λb g=>⟨arr,T,heap_alloc_new w _,by grind⟩);refine dV f (dW e (eF.alloc w _) (az _)) hd (t:=.one (.ptr id ((s.new id (.blk cells)).ob id).g 0)) ⟨az _,λ_ b _=>⟨w.heap.size,aq.eV _ _ _,rfl⟩⟩ i
theorem yM (f:bD P E) {t:Nat} (c:o.op=.alloc t) (h:Rel H ω a w s) (hd:∀d,o.dst=some d->d<a.tmps.size) {l:bA->Option (Callee real (Option R))}
  (b:aL E (av R) l o s k=some r):o.wp P a w (Ends H ω a w o.dst k r) Q:=by
 unfold aL at b;simp only[c]at b;obtain⟨i,e,b⟩:=ah b;obtain⟨I,d,ok⟩:=f.ti _ _ e;obtain⟨z,g,j⟩:=ok.zero;refine eY (v:=.pointer (some ⟨w.heap.size,0,none⟩)) (w':=w.alloc (.cells z.cells t)) ?_ (wz h hd (da _ _ _) (arr:=z.cells) (T:=t) (by grind[oB]) b);unfold execOp;simp only[c];rw[Sem.run_bind,Az ok g];rfl
def CG (J:bD P E) {t:Nat} {x:Operand} (q:o.op=.box t x) (h:Rel H ω a w s) (hd:∀d,o.dst=some d->d<a.tmps.size) {G:bA->Option (Callee real (Option R))}
  (b:aL E (av R) G o s k=some r):o.wp P a w (Ends H ω a w o.dst k r) Q:=by
 have C:=bE h E t x;unfold aL at b;simp only[q]at b;obtain⟨i,I,b⟩:=ah b;obtain⟨ls,v,b⟩:=ah b;obtain⟨A,_,_⟩:=jy C v;have f:(execOp a.eval o).run P w=.ok (.value (.pointer (some ⟨w.heap.size,0,none⟩))) (w.alloc (.cells (a.eval x).cells t)):=by unfold execOp;simp only[q];rfl
 cases n:Nat.beq ls.length i.cs.len with
 |false=>rw[n]at b;cases b
 |true=>
  rw[n]at b;simp only[aJ]at b;cases l:E.ro (o.dst.getD 0)with
  |false=>grind[eY,wz,da]
  |true=>
   rw[l]at b;simp only[aJ]at b;obtain⟨⟨y,F⟩,z,b⟩:=ah b;obtain⟨e,m,D⟩:=rM i.cs ls _ ω s y F h A z;have p:=eF.alloc w (.cells (a.eval x).cells t);have g:=p.ext e;have c:e w.heap.size=none:=by
    cases B:e w.heap.size with
    |none=>rfl
    |some L=>exact absurd (m.rel.dom _ _ B) (by omega)
   refine eY f (dV (m.rel.world g p.block) (m.ext.trans g) hd (t:=.one (.ei i.cs y 0)) ⟨w.heap.size,0,c,by rw[fM];omega,rfl,?_⟩ b);refine ar.bZ g.size i.cs _ _ _ 0 _ (λ_=>g.keeps) (λ_=>rfl) (D 0 _ (λj u K=>?_))
   grind[cell_of_row,heap_alloc_new]
end
variable {H:Nat->Value}
section
variable {R:Type}{P:Program}{E:Env}{ω:aq}{a:Act}{w:World}{s:S}{k:S->Option R}{r:R}{o:Oper}{Q:Exit->Act->World->Prop}
theorem Ch(z:Array Value)(n i j:Nat)(a:i<n)(c:j<z.size):(madeCells z (n*z.size))[i*z.size+j]? = z[j]?:=by
 have b:i*z.size+j<n*z.size:=by
  have:(i+1)*z.size<=n*z.size:=dB _ a
  grind
 grind[madeCells,Nat.mul_comm,Nat.mul_add_mod,Nat.mod_eq_of_lt]
def Dv:∀(t:Ty) (a:Md),t.R w ω a (zeroOf t) (zeroV real t)
 |.int _,_=>rfl
 |.bool,_=>rfl
 |.str,_=>rfl
 |.map _,_=>.inl ⟨rfl,rfl⟩
 |.sl e d,a=>⟨none,0,0,rfl,rfl,az _,(by
   cases a with
   |bQ=>exact λh=>absurd h (by omega)
   |flat _=>exact .inl ⟨rfl,rfl⟩
   |deep _=>exact .inl ⟨rfl,rfl⟩),λi c b=>absurd b (by omega)⟩
theorem xq:∀(a:ar) (b:Nat->Md) (j:Nat) (g:Nat->Option Value),(∀k u,(gR a)[k]? = some u->g (j+k)=some u)->a.R w ω b g j (eZ real a)
 |.nil,_,_,_,_=>trivial
 |.cons t ts,b,j,g,c=>by
  have d:kp (kZ (t:=t) (ts:=ts) (zeroV real t) (eZ real ts))=zeroV real t:=kI _ _;have e:jP (kZ (t:=t) (ts:=ts) (zeroV real t) (eZ real ts))=eZ real ts:=kK _ _;refine⟨⟨zeroOf t,by simpa[gR] using c 0 _ rfl,?_⟩,?_⟩
  .show t.R w ω _ _ (kp (kZ (zeroV real t) (eZ real ts)));rw[d];exact Dv t _
  .show ts.R w ω _ g (j+1) (jP (kZ (zeroV real t) (eZ real ts)));rw[e];exact xq ts b (j+1) g (λk u f=>by
    have:=c (k+1) u (by simpa[gR] using f)
    grind)
theorem uP {w1:World} {eD:aq} {s1:S} (h:Rel H eD a w1 s1) (s:cH ω w eD w1) (hd:∀d,o.dst=some d->d<a.tmps.size) {e:Nat} {cs:ar} {dp:Bool} {x:List cs.T} {arr:Array Value} {id c:Nat} (n:id≠0) (y:x.length<=c) (g:arr.size=c*cs.len)
  (u:∀(i:Nat),i<x.length->cs.R (w1.alloc (.cells arr e)) (eD.fresh id w1.heap.size) ((aI (bif dp then 2 else 1) id []).inner i) (λj=>arr[i*cs.len+j]?) 0 (x.getD i (jk cs)))
  (v:k ((s1.new id (.arr e cs dp x)).bI o.dst (.one (.ref id ((s1.new id (.arr e cs dp x)).ob id).g 0 [])))=some r):
  Ends H ω a w o.dst k r (a.put o.dst (.slice (some ⟨w1.heap.size,0,none⟩) x.length c)) (w1.alloc (.cells arr e)):=by
 have p:=eF.alloc w1 (.cells arr e);have m:w1.heap.size<(w1.alloc (.cells arr e)).heap.size:=by rw[fM];omega
 have q:=h.fresh (id:=id) n p (az _) m (.arr e cs dp x) (λl b=>by cases b);refine dV q (s.trans (dW n p (az _))) hd (t:=.one (.ref id ((s1.new id (.arr e cs dp x)).ob id).g 0 [])) ⟨az _,by simp,λB b=>?_⟩ v;have z:((s1.new id (.arr e cs dp x)).ob id).o=.arr e cs dp x:=by unfold St.new;rw[St.aB]
 rw[bW z rfl]at b;injection b with b
 subst b;refine⟨some ⟨w1.heap.size,0,none⟩,x.length,c,rfl,rfl,y,?_,λi A C f=>?_⟩
 .have:(w1.alloc (.cells arr e)).heap[w1.heap.size]? = some (.cells arr e (0,0)):=heap_alloc_new w1 _;cases dp with
  |true=>exact .inr ⟨w1.heap.size,arr,rfl,this,g,aq.eV _ _ _⟩
  |false=>exact .inr ⟨w1.heap.size,arr,rfl,this,g,aq.eV _ _ _⟩
 .injection f with f
  subst f
  grind[cell_of_row,heap_alloc_new]
theorem CA{α:Type}(n:Int)(y z:α)(i:Nat)(h:i<n.toNat):(nw n y).getD i z=y:=by
 grind[nw]
def EP{n:Int}(h:0<=n):((n.toNat:Nat):Int)=n:=Int.toNat_of_nonneg h
theorem r0 (G:bD P E) {t:Nat} {n c:Operand} (M:o.op=.makeSlice t n c) (h:Rel H ω a w s) (hd:∀d,o.dst=some d->d<a.tmps.size) {U:bA->Option (Callee real (Option R))}
  (f:aL E (av R) U o s k=some r):o.wp P a w (Ends H ω a w o.dst k r) Q:=by
 have L:=bE h E 3 n;unfold aL at f;simp only[M]at f;obtain⟨⟨e,g⟩,u,f⟩:=ah f;obtain⟨(m:Int),C,f⟩:=ah f;have y:=iK C L;have b:qv n c=true:=by
  cases D:qv n c with
  |true=>rfl
  |false=>simp only[D]at f;cases f
 simp only[b,aJ]at f;have J:a.eval c=.int .i64 m:=by
  rw[<-y];unfold qv at b
  grind[Nat.eq_of_beq_eq_true]
 have i:(bif lu m then k ((s.new (aD (o.dst.getD 0) 0 0) (.arr e g (E.deep (o.dst.getD 0)) (nw m (eZ real g)))).bI o.dst (.one (.ref (aD (o.dst.getD 0) 0 0) ((s.new (aD (o.dst.getD 0) 0 0) (.arr e g (E.deep (o.dst.getD 0)) (nw m (eZ real g)))).ob (aD (o.dst.getD 0) 0 0)).g 0 [])))else none)=some r:=f;cases l:lu m with
 |false=>rw[l]at i;cases i
 |true=>
  rw[l]at i;simp only[aJ]at i;unfold lu limit at l;rw[aQ]at l;have B:0<=m:=bR l.1;have K:m<=1073741824:=bR l.2;obtain⟨N,j,I,d,V,x,ok⟩:=gQ G u;obtain⟨z,O,S⟩:=ok.zero;have T:z.cells.size=g.len:=by
   grind[fQ]
  have A:I.size=g.len:=by rw[ok.size,x]
  have D:=ok.bpos;have q:=ok.bytes;have hmul:(I.bytes:Int)*m<=281474976710656:=by
   have u:(I.bytes:Int)<=65536:=by grind
   have C:(I.bytes:Int)*m<=65536*m:=Int.mul_le_mul_of_nonneg_right u B;omega
  have p:=run_make (P:=P) w t e I z N ok.info O .i64 .i64 m m B (Int.le_refl _) hmul (by omega);rw[A]at p;have F:(nw m (eZ real g):List g.T).length=m.toNat:=by grind[nw]
  refine eY (v:=.slice (some ⟨w.heap.size,0,none⟩) m.toNat m.toNat) (w':=w.alloc (.cells (madeCells z.cells (m.toNat*g.len)) e)) ?_ ?_
  .simp_all[execOp]
  grind[uP,cH.refl,da,size_madeCells,CA,xq,Ch]
end
variable {H:Nat->Value}
section
variable {R:Type}{P:Program}{E:Env}{ω:aq}{a:Act}{w:World}{s:S}{k:S->Option R}{r:R}{o:Oper}{Q:Exit->Act->World->Prop}
def flat_get{α:Type}(n:Nat):∀(ls:List (List α)),(∀l∈ls,l.length=n)->∀(i j:Nat) (l:List α),ls[i]? = some l->j<n->ls.flatten[i*n+j]? = l[j]?
 |[],_,i,j,l,a,_=>by simp at a
 |d::ls,b,0,j,l,a,g=>by
  grind
 |d::ls,b,i+1,j,l,a,g=>by
  have f:d.length=n:=b d (by simp);simp only[iV];have e:(i+1)*n+j=n+(i*n+j):=by rw[vO];omega
  rw[iM (by rw[f,e];omega),f,e,Nat.add_sub_cancel_left];exact flat_get n ls (λl c=>b l (by simp[c])) i j l (by simpa using a) g
def pA{α:Type}(n:Nat):∀(ls:List (List α)),(∀l∈ls,l.length=n)->ls.flatten.length=ls.length*n
 |[],_=>by simp
 |c::ls,b=>by simp only[iV,jv,gB];rw[pA n ls (λl a=>b l (by simp[a])),b c (by simp),vO];omega
def tK:∀(a:ar) (ls:List L) (b f:S) (c:a.T),eR (A:=real) false a ls b=some (c,f)->ls.length=a.len
 |.nil,[],_,_,_,_=>rfl
 |.nil,_::_,_,_,_,h=>by cases h
 |.cons _ _,[],_,_,_,h=>by cases h
 |.cons t ts,l::ls,b,f,c,h=>by
  simp only[eR]at h;cases d:bF (A:=real) false t l b with
  |none=>rw[d]at h;cases h
  |some q=>
   obtain⟨y,g⟩:=q;rw[d]at h;simp only at h;cases e:eR (A:=real) false ts ls g with
   |none=>rw[e]at h;cases h
   |some i=>obtain⟨k,j⟩:=i;simp only[gB,ar.len];rw[tK ts ls g j k e]
def tF{e:Nat}{b:ar}:∀(n:List Operand) (r:List b.T) (d:aq) (m:S) (x:List b.T) (C:S),Rel H ω a w s->Passes H ω a w s d m->gH (A:=real) E s e b n r m=some (x,C) ->
  ∃g,Passes H d a w m g C/\∃c:List b.T,x=r++c/\c.length=n.length/\(∀o∈n,(a.eval o).cells.toList.length=b.len) /\
   ∀(i:Nat) (l:b.T) (o:Operand),c[i]? = some l->n[i]? = some o->b.R w g (λ_=>.bQ) (λj=>(a.eval o).cells.toList[j]?) 0 l
 |[],r,d,m,x,C,_,p,h=>by
  injection h with h
  injection h with T U
  subst T;subst U;exact⟨d,Passes.refl p.rel,[],by simp,rfl,by simp,by simp⟩
 |q::n,r,d,m,x,C,K,p,h=>by
  simp only[gH]at h;cases I:cells? s (ev E s 0 q)with
  |none=>rw[I]at h;cases h
  |some ls=>
   rw[I]at h;simp only at h;cases F:eR (A:=real) false b ls m with
   |none=>rw[F]at h;cases h
   |some z=>
    obtain⟨l,B⟩:=z;rw[F]at h;simp only at h;obtain⟨M,_,_⟩:=jy (bE K E 0 q) I;obtain⟨D,N,Y⟩:=rM b ls _ d m l B p.rel (M.mono λ_ _ V=>bU.frame p.ext p.tr V) F;obtain⟨g,O,c,P,Z,Q,R⟩:=tF n (List.append (α:=b.T) r [l]) D B x C K (p.trans N) h;have v:ls.length=b.len:=by exact tK b ls _ _ _ F
    refine⟨g,N.trans O,l::c,by rw[P];exact je r [l] c,by grind,?_,?_⟩
    .intro G f;cases f with
     |head=>rw[M.length,v]
     |tail _ W=>exact Q G W
    .intro i t G L f;cases i with
     |zero=>have J:l=t:=aG L;have y:q=G:=aG f;subst J;subst y;exact ar.bZ (az _) b _ _ _ 0 _ (λ_=>O.ext.keeps) (λ_=>rfl) (Y 0 _ (λk u X=>by rw[bC];exact X))
     |succ i=>exact R i t G L f
def yl:∀(m:Nat) (l:List Nat),iL m l=true->∀(i n:Nat),l[i]? = some n->n=m+i
 |_,[],_,i,n,h=>by simp at h
 |m,x::r,a,i,n,h=>by
  simp only[iL,aQ]at a;cases i with
  |zero=>grind[Nat.eq_of_beq_eq_true]
  |succ i=>have:=yl (m+1) r a.2 i n (by simpa using h);omega
def qX(n:Nat)(arr:Array Value):∀(parts:List (Nat×Value)) (m:Nat) (done:List Value) (a:Array Value),iL m (parts.map (·.1))=true->(∀p∈parts,p.2.cells.toList.length=n) ->
  done.length=m*n->a.size=(m+parts.length)*n->a.toList=done++a.toList.drop (m*n) ->
  ∃d,Instr.fill (λi=>some (i*n,n)) a parts=some d/\d.toList=done++(parts.map λp=>p.2.cells.toList).flatten
 |[],m,done,a,_,_,hd,q,s=>by
  refine⟨a,rfl,?_⟩
  grind[List.drop_of_length_le]
 |(j,v)::parts,m,done,a,k,o,hd,q,s=>by
  simp only[cR,iL,aQ]at k;obtain rfl:=bc k.1;have l:v.cells.toList.length=n:=o (m,v) (by simp);have w:v.cells.size=n:=by simpa using l
  simp only[gB]at q;have u:a.size=m*n+n+parts.length*n:=by
   grind
  have b:=foldl_set v.cells.toList (m*n) 0 a (by rw[l];omega);simp only[iD]at b;have f:a.toList.take (m*n)=done:=by
   grind
  rw[f,l]at b;have r:v.cells.zipIdx.foldl (λe (c,j)=>e.setIfInBounds (m*n+j) c) a=(v.cells.toList.zipIdx 0).foldl (λe (c,j)=>e.setIfInBounds (m*n+j) c) a:=by rw[<-Array.foldl_toList];congr 1;simp
  have h:((v.cells.toList.zipIdx 0).foldl (λe (c,j)=>e.setIfInBounds (m*n+j) c) a).size=a.size:=by
   grind[List.length_append]
  obtain⟨d,x,y⟩:=qX n arr parts (m+1) (done++v.cells.toList) ((v.cells.toList.zipIdx 0).foldl (λe (c,j)=>e.setIfInBounds (m*n+j) c) a) k.2 (λp t=>o p (by simp[t]))
   (by grind) (by grind) (by
    rw[b];have g:(done++v.cells.toList).length=(m+1)*n:=by grind
    rw[<-g,List.drop_left])
  grind[Instr.fill]
theorem ar.fq:∀(a:ar) (c:Nat->Md) (g b:Nat->Option Value) (j:Nat) (x:a.T),(∀k,k<a.len->b (j+k)=g (j+k))->a.R w ω c g j x->a.R w ω c b j x
 |.nil,_,_,_,_,_,_,_=>trivial
 |.cons t ts,c,g,b,j,x,d,h=>by obtain⟨⟨v,e,f⟩,i⟩:=h;refine⟨⟨v,(d 0 (by simp[ar.len])).trans e,f⟩,ar.fq ts c g b (j+1) _ (λk l=>?_) i⟩;have:=d (k+1) (by simp[ar.len,l]);rwa[show j+(k+1)=j+1+k by omega]at this
def pS (w:World) (t e:TypeId) (len:Nat) (parts:Array (Nat×Value)) (cells:Array Value) (a:TypeInfo)
  (f:P.underlying t=some (.slice e)) (b:P.info? e=some a) (c:len*a.size=0)
  (h:Instr.fill (λi=>some (i*a.size,a.size)) #[] parts.toList=some cells):
  (Instr.buildSlice t len parts).run P w=.ok (.slice (some ⟨w.heap.size,0,none⟩) len len) (w.alloc (.cells cells e)):=by
 have d:(Array.map (λ_:Nat=>(default:Value)) (Array.range 0)) = #[]:=by grind
 simp[Instr.buildSlice,run_underlying f,sizeOf,typeInfo,b,c,newRow,d,h]
def getD_some{α:Type}{l:List α}{i:Nat}{z y:α}(h:l[i]? = some y):l.getD i z=y:=by
 grind
def jB{α:Type}{l:List α}{i:Nat}(h:i<l.length):∃y,l[i]? = some y:=⟨l[i],cL h⟩
end
variable {H:Nat->Value}
section
variable {R:Type}{P:Program}{E:Env}{ω:aq}{a:Act}{w:World}{s:S}{k:S->Option R}{r:R}{o:Oper}{Q:Exit->Act->World->Prop}
structure og (w w':World) (b:Nat):Prop where
 os:w'.os=w.os
 tape:w'.tape=w.tape
 output:w'.output=w.output/\w.drawn<=w'.drawn
 size:w'.heap.size=w.heap.size
 block:∀c,c≠b->w'.heap[c]? = w.heap[c]?
theorem og.refl(w:World)(b:Nat):og w w b:=⟨rfl,rfl,⟨rfl,az _⟩,rfl,λ_ _=>rfl⟩
def og.trans{w w' w'':World}{b:Nat}(h:og w w' b)(a:og w' w'' b):og w w'' b:=⟨a.os.trans h.os,a.tape.trans h.tape,⟨a.output.1.trans h.output.1,eK h.output.2 a.output.2⟩,a.size.trans h.size,λc d=>(a.block c d).trans (h.block c d)⟩
def w4{b o' T:Nat}{arr:Array Value}{z:Nat×Nat}{v:Value}(h:w.heap[b]? = some (.cells arr T z)):
  (w.setCell ⟨b,o',none⟩ v).heap[b]? = some (.cells (arr.setIfInBounds o' v) T z):=by
 simp[World.setCell,Array.getElem?_modify,h]
def wZ(b o':Nat)(v:Value):og w (w.setCell ⟨b,o',none⟩ v) b:=⟨rfl,rfl,⟨rfl,az _⟩,by simp[World.setCell],λc a=>by grind[World.setCell]⟩
def dL(b:Nat):∀(c:List Value) (a:Nat) (w:World),og w (w.setCells b a c) b
 |[],_,w=>og.refl w b
 |v::c,a,w=>(wZ b a v).trans (dL b c (a+1) _)
def dQ(b T:Nat)(z:Nat×Nat):∀(c:List Value) (o':Nat) (w:World) (arr:Array Value),w.heap[b]? = some (.cells arr T z)->o'+c.length<=arr.size ->
  ∃a,(w.setCells b o' c).heap[b]? = some (.cells a T z)/\a.toList=arr.toList.take o'++c++arr.toList.drop (o'+c.length)
 |[],o',w,arr,h,_=>⟨arr,h,by simp⟩
 |v::c,o',w,arr,h,d=>by
  simp only[gB]at d;obtain⟨a,g,i⟩:=dQ b T z c (o'+1) _ _ (w4 (v:=v) (o':=o') h) (by simp;omega);refine⟨a,g,?_⟩;rw[i];have e:o'<arr.toList.length:=by simp;omega
  simp only[vk];rw[List.take_set,List.drop_set_of_lt (by omega)];have f:(arr.toList.take (o'+1)).set o' v=arr.toList.take o'++[v]:=by
   rw[xB e,List.set_append_right _ _ (by simp;omega)];simp;have:o'-min o' arr.size=0:=by omega
   rw[this];rfl
  rw[f];simp only[gB,je,gV,gi]
  grind
def jH{g:World}{b id id':Nat}(h:id≠0)(d:id'≠0)(i:ω b=some (id,[]))(a:og w g b):cH ω w (ω.fresh id' b) g:=
 ⟨a.os,a.tape,a.output,by rw[a.size];exact az _,λc j f=>by
  have:c≠b:=λe=>by subst e;exact f.ne i h
  exact⟨a.block c this,pC d this f⟩⟩
def fS{id:Nat}(b:(s.ob id).o=.gone){g h:Nat}{p:iU}{c:Cont real}(a:s.cont id g h p=some c):False:=by
 grind[jA]
def zD{r:World}{b id id':Nat}(u:id≠0)(m:id'≠0)(hd:∀b k,ω b=some k->b<w.heap.size)(y:ω b=some (id,[]))(z:(s.ob id).o=.gone)(q:og w r b)(o:Ob real)(j:Nat):Tr w ω s r (ω.fresh id' b) (s.new id' o) j:=by
 by_cases e:j=id'
 .grind[dj.tr,dj,St.new,St.aB]
 .have a:(s.new id' o).ob j=s.ob j:=by grind[St.new,St.aU]
  by_cases t:j=id
  .subst t;have d:((s.new id' o).ob j).o=.gone:=by rw[a];exact z
   exact
   {ref:=λv g h p f=>⟨by rw[a];exact f.1,by rw[a];exact f.2.1,λc l=>(fS d l).elim⟩
    ptr:=λv g n f=>⟨by rw[a];exact f.1,λ_ cells l=>by rw[d]at l;cases l⟩
    bH:=λv g h p i n f=>⟨by rw[a];exact f.1,by rw[a];exact f.2.1,λc l=>(fS d l).elim⟩
    cD:=λv g f=>f.shut (by rw[a]) λk x e=>by rw[d]at e;cases e }
  .refine gx.tr ⟨a,λc D l C B=>?_⟩ (jH u m y q) hd;have:c≠b:=λA=>by grind
   exact⟨q.block c this,by grind[aq.gE]⟩
def Rel.DL(h:Rel H ω a w s){x:World}{b id id':Nat}(k:id≠0)(d:id'≠0)(g:ω b=some (id,[]))(v:(s.ob id).o=.gone)(f:og w x b)(o:Ob real)(A:∀cells,o≠.blk cells):
  Rel H (ω.fresh id' b) a x (s.new id' o) where
 dH:=h.dH.ext (jH k d g f)
 inj c c' kk l q:=by
  rcases aq.gu l with ⟨n,p⟩|⟨n,p,B⟩ <;> rcases aq.gu q with ⟨t,u⟩|⟨t,u,C⟩
  .rw[n,t]
  .grind
  .grind
  .exact h.inj c c' kk p u
 dom c kk l:=by
  rw[f.size];rcases aq.gu l with ⟨n,_⟩|⟨_,p,_⟩
  .rw[n];exact h.dom b _ g
  .exact h.dom c kk p
 defers:=h.defers
 dJ:=by
  have:(s.new id' o).ob 0=s.ob 0:=by grind[St.new,St.aU]
  rw[this];exact h.dJ
 slots i:=cQ.frame (jH k d g f) (zD k d h.dom g v f o) (h.slots i)
 c7 j cells hc:=by
  by_cases e:j=id'
  .grind[St.new,St.aB]
  .have r:(s.new id' o).ob j=s.ob j:=by grind[St.new,St.aU]
   rw[r]at hc;obtain⟨c,arr,T,l,q,y⟩:=h.c7 j cells hc;have m:c≠b:=λD=>by
    grind
   exact⟨c,arr,T,aq.gE m l e,(f.block c m).trans q,y.mono λ_ _ z=>bU.frame (jH k d g f) (zD k d h.dom g v f o) z⟩
def zi{a:Nat}(c:a≠0)(hd:∀b k,ω b=some k->b<w.heap.size)(o:Ob real)(j:Nat):Tr w ω s w (ω.drop a) (s.new a o) j:=by
 by_cases e:j=a
 .grind[dj.tr,dj,St.new,St.aB]
 .exact gx.tr ⟨by grind[St.new,St.aU],λb h d g f=>⟨rfl,by grind[aq.dM]⟩⟩ (bj _ _ _ c) hd
def Rel.bare(h:Rel H ω a w s){id':Nat}(d:id'≠0)(o:Ob real)(n:∀cells,o≠.blk cells):Rel H (ω.drop id') a w (s.new id' o) where
 dH:=h.dH.ext (bj _ _ _ d)
 inj b b' kk f g:=h.inj b b' kk (aq.dA f).1 (aq.dA g).1
 dom b kk f:=h.dom b kk (aq.dA f).1
 defers:=h.defers
 dJ:=by
  have:(s.new id' o).ob 0=s.ob 0:=by grind[St.new,St.aU]
  rw[this];exact h.dJ
 slots i:=cQ.frame (bj _ _ _ d) (zi d h.dom o) (h.slots i)
 c7 j cells hc:=by
  by_cases e:j=id'
  .grind[St.new,St.aB]
  .have k:(s.new id' o).ob j=s.ob j:=by grind[St.new,St.aU]
   rw[k]at hc;obtain⟨c,arr,T,f,g,l⟩:=h.c7 j cells hc;exact⟨c,arr,T,aq.dM f e,g,l.mono λ_ _ m=>bU.frame (bj _ _ _ d) (zi d h.dom o) m⟩
theorem Ty.fZ{g:World}{c:aq}{f b:Md}{v:Value}:∀ {t:Ty} {x:t.T},t.atom->t.R w ω f v x->t.R g c b v x
 |.int _,_,_,h=>h
 |.bool,_,_,h=>h
 |.str,_,_,h=>h
 |.map k,_,a,_=>absurd rfl (a.2 k)
 |.sl e d,_,a,_=>absurd rfl (a.1 e d)
def rQ{t:Ty}{ts:ar}(h:(ar.cons t ts).plain=true):t.atom/\ts.plain=true:=by
 cases t with
 |sl e a=>cases h
 |map k=>cases h
 |_=>exact⟨⟨λ_ _ e=>(by cases e),λ_ e=>(by cases e)⟩,h⟩
theorem ar.fZ{l:World}{d:aq}:∀(b:ar) (c a:Nat->Md) (g:Nat->Option Value) (j:Nat) (x:b.T),b.plain=true->b.R w ω c g j x->b.R l d a g j x
 |.nil,_,_,_,_,_,_,_=>trivial
 |.cons t ts,c,a,g,j,x,e,h=>by obtain⟨⟨v,f,i⟩,k⟩:=h;exact⟨⟨v,f,Ty.fZ (rQ e).1 i⟩,ar.fZ ts c a g (j+1) _ (rQ e).2 k⟩
def Ty.EW{a:Md}{v:Value}:∀ {t:Ty} {x:t.T},t.R w ω a v x->v.oneCell'=true
 |.int _,_,h=>by have:v=_:=h;subst this;rfl
 |.bool,_,h=>by have:v=_:=h;subst this;rfl
 |.str,_,h=>by have:v=_:=h;subst this;rfl
 |.map _,_,h=>by rcases h with ⟨h,_⟩|⟨_,_,_,_,h,_⟩ <;> subst h <;> rfl
 |.sl _ _,_,h=>by obtain⟨_,_,_,h,_⟩:=h;subst h;rfl
theorem ar.Bn:∀(b:ar) (d:Nat->Md) (g:Nat->Option Value) (j:Nat) (x:b.T),b.R w ω d g j x ->
  ∃a:List Value,a.length=b.len/\∀k u,a[k]? = some u->g (j+k)=some u/\u.oneCell'=true
 |.nil,_,_,_,_,_=>⟨[],rfl,by simp⟩
 |.cons t ts,d,g,j,x,h=>by
  obtain⟨⟨v,i,l⟩,m⟩:=h;obtain⟨a,e,f⟩:=ar.Bn ts d g (j+1) _ m;refine⟨v::a,by simp[ar.len,e],λk u c=>?_⟩;cases k with
  |zero=>simp at c;subst c;exact⟨i,Ty.EW l⟩
  |succ k=>have:=f k u (by simpa using c);rwa[show j+1+k=j+(k+1)by omega]at this
def oT{b off m:Nat}:∀(n:Nat),(∀i,i<n->∃a:List Value,a.length=m/\∀k u,a[k]? = some u->w.cell? ⟨b,off+i*m+k,none⟩=some u/\u.oneCell'=true) ->
  ∃news:List Value,news.length=n*m/\∀k u,news[k]? = some u->w.cell? ⟨b,off+k,none⟩=some u/\u.oneCell'=true
 |0,_=>⟨[],by simp,by simp⟩
 |n+1,h=>by
  obtain⟨news,c,d⟩:=oT n (λi g=>h i (by omega));obtain⟨a,e,f⟩:=h n (by omega);refine⟨news++a,by grind,λk u j=>?_⟩
  grind
def tX{t:bK}{v:Value}{c:Cont real}(h:gC s t=some c)(C:cQ H w ω s v t)(d:c.md≠2\/c.cs.plain=true):
  ∃(e:Option Addr) (l:Nat) (a:List Value),v=.slice e (List.length c.x) l/\List.length c.x<=l/\a.length=List.length c.x*c.cs.len/\(∀u∈a,u.oneCell'=true) /\
   (0<List.length c.x->∃b off,e=some ⟨b,off,none⟩/\∀k u,a[k]? = some u->w.cell? ⟨b,off+k,none⟩=some u) /\
   ∀(i:Nat),i<List.length c.x->c.cs.R w ω (λ_=>.bQ) (λj=>a[i*c.cs.len+j]?) 0 (List.getD c.x i (jk c.cs)):=by
 have q:∀(z:Md),(Ty.sl c.e c.cs).R w ω z v c.x->(∀i j,z.inner i j=.bQ)\/c.cs.plain=true->∃(e:Option Addr) (l:Nat) (a:List Value),v=.slice e (List.length c.x) l/\List.length c.x<=l/\a.length=List.length c.x*c.cs.len/\(∀u∈a,u.oneCell'=true) /\
   (0<List.length c.x->∃b off,e=some ⟨b,off,none⟩/\∀k u,a[k]? = some u->w.cell? ⟨b,off+k,none⟩=some u) /\
   ∀(i:Nat),i<List.length c.x->c.cs.R w ω (λ_=>.bQ) (λj=>a[i*c.cs.len+j]?) 0 (List.getD c.x i (jk c.cs)):=by
  intro z B f;obtain⟨e,n,l,A,J,K,L,M⟩:=B;subst J;by_cases N:List.length c.x=0
  .simp_all
  .have y:0<List.length c.x:=vN N;obtain⟨b,off,E,R,S⟩:=L.block y;obtain⟨a,F,G⟩:=oT (w:=w) (b:=b) (off:=off) (m:=c.cs.len) (List.length c.x) (λi r=>by
    grind[ar.Bn])
   refine⟨e,l,a,A,K,F,λu D=>?_,λ_=>⟨b,off,E,λk u D=>(G k u D).1⟩,λi r=>?_⟩
   .obtain⟨k,O,rfl⟩:=vL D;exact(G k _ (cL O)).2
   .have I:=M i _ r E;have o:c.cs.R w ω (λ_=>.bQ) (λj=>w.cell? ⟨b,off+i*c.cs.len+j,none⟩) 0 (List.getD c.x i (jk c.cs)):=by
     rcases f with f|f
     .have:z.inner i=λ_=>.bQ:=funext λj=>f i j
      grind
     grind[ar.fZ]
    refine ar.fq c.cs _ _ _ 0 _ (λj U=>?_) o;rw[bC];have P:i*c.cs.len+j<a.length:=by
     rw[F];have:(i+1)*c.cs.len<=List.length c.x*c.cs.len:=dB _ r
     grind
    grind
 unfold gC at h;split at h
 .injection h with h
  subst h;exact q .bQ C (.inl λ_ _=>rfl)
 .injection h with h
  subst h;obtain⟨e,A⟩:=C;exact q .bQ ⟨e,0,0,A,rfl,az _,λQ=>absurd Q (by omega),λi _ r=>absurd r (by omega)⟩ (.inl λ_ _=>rfl)
 .rename_i id g T p;have B:=C.2.2 c h;refine q _ B ?_;rcases d with d|d
  .rcases(lS h).2 with x|x|x
   .rw[x];exact .inl λ_ _=>rfl
   .rw[x];exact .inl λ_ _=>rfl
   .exact absurd x d
  .exact .inr d
 .cases h
end
end Go.R

