import GoSem.Core.Code
import GoSem.Core.Region
import Derived.WalkKit
import Derived.Deep.Draws
import Derived.Deep.MidRow
import Derived.Deep.AppendSrc
import Derived.OwnWalk
import Derived.Great.BuildSlice
import Derived.Laws.MakeOwn
/- An abstract interpreter over the code of Go functions, proved sound once: what it answers, the code computes. Conditions: none. -/
set_option autoImplicit false
set_option linter.unusedVariables false
set_option linter.unusedSimpArgs false
set_option maxRecDepth 4000
namespace Go.R
mutual
inductive Ty where
 | int (k:IntKind)
 | bool
 | str
 | sl (e:Nat) (cs:Tys)
inductive Tys where
 | nil
 | cons (t:Ty) (ts:Tys)
end
mutual
def Ty.beq:Ty→Ty→Bool
 | .int a,.int b=>decide (a=b)
 | .bool,.bool=>true
 | .str,.str=>true
 | .sl e cs,.sl e' cs'=>Nat.beq e e' && Tys.beq cs cs'
 | _,_=>false
def Tys.beq:Tys→Tys→Bool
 | .nil,.nil=>true
 | .cons t ts,.cons u us=>Ty.beq t u && Tys.beq ts us
 | _,_=>false
end
mutual
theorem Ty.eq_of_beq:∀ {a b:Ty},Ty.beq a b=true→a=b
 | .int a,.int b,h=>by simp only [Ty.beq,decide_eq_true_eq] at h;rw [h]
 | .bool,.bool,_=>rfl
 | .str,.str,_=>rfl
 | .sl e cs,.sl e' cs',h=>by
  simp only [Ty.beq,Bool.and_eq_true] at h
  rw [Nat.eq_of_beq_eq_true h.1,Tys.eq_of_beq h.2]
 | .int _,.bool,h=>by simp [Ty.beq] at h
 | .int _,.str,h=>by simp [Ty.beq] at h
 | .int _,.sl ..,h=>by simp [Ty.beq] at h
 | .bool,.int _,h=>by simp [Ty.beq] at h
 | .bool,.str,h=>by simp [Ty.beq] at h
 | .bool,.sl ..,h=>by simp [Ty.beq] at h
 | .str,.int _,h=>by simp [Ty.beq] at h
 | .str,.bool,h=>by simp [Ty.beq] at h
 | .str,.sl ..,h=>by simp [Ty.beq] at h
 | .sl ..,.int _,h=>by simp [Ty.beq] at h
 | .sl ..,.bool,h=>by simp [Ty.beq] at h
 | .sl ..,.str,h=>by simp [Ty.beq] at h
theorem Tys.eq_of_beq:∀ {a b:Tys},Tys.beq a b=true→a=b
 | .nil,.nil,_=>rfl
 | .cons t ts,.cons u us,h=>by
  simp only [Tys.beq,Bool.and_eq_true] at h
  rw [Ty.eq_of_beq h.1,Tys.eq_of_beq h.2]
 | .nil,.cons ..,h=>by simp [Tys.beq] at h
 | .cons ..,.nil,h=>by simp [Tys.beq] at h
end
def Tys.len:Tys→Nat
 | .nil=>0
 | .cons _ ts=>ts.len+1
abbrev Tys.mp (k:IntKind):Tys:=.cons (.int k) (.cons .bool .nil)
def Tys.plain:Tys→Bool
 | .nil=>true
 | .cons (.sl ..) _=>false
 | .cons _ ts=>ts.plain
structure Alg where
 V:Ty→Type
 Vs:Tys→Type
 litI:(k:IntKind)→Int→V (.int k)
 litB:Bool→V .bool
 litS:ByteArray→V .str
 arith:BinOp→(k:IntKind)→V (.int k)→V (.int k)→V (.int k)
 shift:BinOp→(k j:IntKind)→V (.int k)→V (.int j)→V (.int k)
 isZero:(k:IntKind)→V (.int k)→V .bool
 isNeg:(k:IntKind)→V (.int k)→V .bool
 cmp:BinOp→(k:IntKind)→V (.int k)→V (.int k)→V .bool
 beqB:V .bool→V .bool→V .bool
 notB:V .bool→V .bool
 andB:V .bool→V .bool→V .bool
 neg:(k:IntKind)→V (.int k)→V (.int k)
 conv:(k j:IntKind)→V (.int k)→V (.int j)
 mxmn:Bool→(k:IntKind)→V (.int k)→V (.int k)→V (.int k)
 scmp:BinOp→V .str→V .str→V .bool
 scat:V .str→V .str→V .str
 sfits:V .str→V .str→V .bool
 slen:V .str→V (.int .i64)
 sin:(k:IntKind)→V .str→V (.int k)→V .bool
 sidx:(k:IntKind)→V .str→V (.int k)→V (.int .u8)
 nilV:(e:Nat)→(cs:Tys)→V (.sl e cs)
 len:{e:Nat}→{cs:Tys}→V (.sl e cs)→V (.int .i64)
 small:{e:Nat}→{cs:Tys}→V (.sl e cs)→V .bool
 inR:{e:Nat}→{cs:Tys}→V (.sl e cs)→V (.int .i64)→V .bool
 get:{e:Nat}→{cs:Tys}→V (.sl e cs)→V (.int .i64)→Vs cs
 put:{e:Nat}→{cs:Tys}→V (.sl e cs)→V (.int .i64)→Vs cs→V (.sl e cs)
 push:{e:Nat}→{cs:Tys}→V (.sl e cs)→Vs cs→V (.sl e cs)
 cat:{e:Nat}→{cs:Tys}→V (.sl e cs)→V (.sl e cs)→V (.sl e cs)
 sub:{e:Nat}→{cs:Tys}→V (.sl e cs)→V (.int .i64)→V (.int .i64)→V (.sl e cs)
 subOk:{e:Nat}→{cs:Tys}→V (.sl e cs)→V (.int .i64)→V (.int .i64)→V .bool
 rep:(e:Nat)→{cs:Tys}→V (.int .i64)→Vs cs→V (.sl e cs)
 repOk:V (.int .i64)→V .bool
 mget:(k:IntKind)→V (.sl 0 (Tys.mp k))→V (.int k)→V .bool
 mput:(k:IntKind)→V (.sl 0 (Tys.mp k))→V (.int k)→V .bool→V (.sl 0 (Tys.mp k))
 nl:Vs .nil
 cn:{t:Ty}→{ts:Tys}→V t→Vs ts→Vs (.cons t ts)
 hd:{t:Ty}→{ts:Tys}→Vs (.cons t ts)→V t
 tl:{t:Ty}→{ts:Tys}→Vs (.cons t ts)→Vs ts
structure Ctl (A:Alg) (M:Type) where
 cond:A.V .bool→M→M→M
 both:M→M→M
 fail:M
section
variable (A:Alg)
inductive Cap where
 | ptr (id g:Nat)
 | ro (cs:Tys) (x:A.Vs cs)
inductive Lf where
 | val (t:Ty) (x:A.V t)
 | nilS (e:Nat) (cs:Tys)
 | ref (id g h:Nat) (path:List (A.V (.int .i64)×Nat))
 | ptr (id g off:Nat)
 | eptr (id g h:Nat) (path:List (A.V (.int .i64)×Nat)) (i:A.V (.int .i64)) (off:Nat)
 | iptr (cs:Tys) (x:A.Vs cs) (off:Nat)
 | fn (f:FuncId) (caps:List (Cap A))
 | mref (id g:Nat)
 | tst (x:A.V .bool) (y:Bool)
 | undef
 | dead
inductive TV where
 | one (l:Lf A)
 | agg (ls:List (Lf A))
 | tup (cs:List (Bool×List (Lf A)))
inductive Ob where
 | blk (cs:List (Lf A))
 | arr (e:Nat) (cs:Tys) (deep:Bool) (x:A.V (.sl e cs))
 | imm (e:Nat) (cs:Tys) (x:A.V (.sl e cs))
 | mp (k:IntKind) (x:A.V (.sl 0 (Tys.mp k)))
 | gone
structure Slot where
 g:Nat
 h:Nat
 o:Ob A
structure St where
 sl:Nat→TV A
 ob:Nat→Slot A
end
variable {A:Alg}
def Alg.cast (A:Alg) {a b:Ty} (h:Ty.beq a b=true) (x:A.V a):A.V b:=(Ty.eq_of_beq h) ▸ x
def Alg.casts (A:Alg) {a b:Tys} (h:Tys.beq a b=true) (x:A.Vs a):A.Vs b:=(Tys.eq_of_beq h) ▸ x
def TV.dead:TV A:=.one .dead
def TV.undef:TV A:=.one .undef
def TV.mk (isAgg:Bool) (ls:List (Lf A)):TV A:=
 match isAgg,ls with
 | true,ls=>.agg ls
 | false,[l]=>.one l
 | false,_=>.dead
def TV.cells:TV A→List (Lf A)
 | .one l=>[l]
 | .agg ls=>ls
 | .tup _=>[]
def St.set (s:St A) (d:Nat) (v:TV A):St A:={ s with sl:=fun i=>bif Nat.beq i d then v else s.sl i }
def St.setO (s:St A) (d:Option Nat) (v:TV A):St A:=match d with | some d=>s.set d v | none=>s
def St.upd (s:St A) (id:Nat) (o:Slot A):St A:={ s with ob:=fun i=>bif Nat.beq i id then o else s.ob i }
def St.new (s:St A) (id:Nat) (o:Ob A):St A:=s.upd id ⟨(s.ob id).g+1,0,o⟩
def St.gen (s:St A) (id:Nat):Nat:=(s.ob id).g
def St.chg (s:St A) (id:Nat) (nh:Bool) (o:Ob A):St A:=s.upd id ⟨(s.ob id).g,bif nh then (s.ob id).h+1 else (s.ob id).h,o⟩
def mkId (d c j:Nat):Nat:=((d*32+c)*64+j).succ
structure TI where
 cs:Tys
 agg:Bool
 bytes:Nat
 flds:List (Nat×Nat×Bool)     -- offset,cells,struct?
 el:Option Nat                    -- of a slice type: its element's type
structure Env where
 ti:Nat→Option TI
 deep:Nat→Bool
 trunc:Nat→Bool
 ro:Nat→Bool
 eqT:Nat→Bool                   -- '==' at this struct type is asked for
 mp:Nat→Option IntKind          -- a map of whole numbers of this kind to bools
 nt:Nat                           -- so many slots
def Env.slOf (E:Env) (t:Nat):Option (Nat×Tys):=
 match E.ti t with
 | some i=>match i.el with
  | some e=>match E.ti e with
   | some j=>some (e,j.cs)
   | none=>none
  | none=>none
 | none=>none
def zeroV (A:Alg):(t:Ty)→A.V t
 | .int k=>A.litI k 0
 | .bool=>A.litB false
 | .str=>A.litS ByteArray.empty
 | .sl e cs=>A.nilV e cs
def zeroVs (A:Alg):(cs:Tys)→A.Vs cs
 | .nil=>A.nl
 | .cons t ts=>A.cn (zeroV A t) (zeroVs A ts)
def zeroLf (A:Alg):Ty→Lf A
 | .sl e cs=>.nilS e cs
 | t=>.val t (zeroV A t)
def zeroLfs (A:Alg):Tys→List (Lf A)
 | .nil=>[]
 | .cons t ts=>zeroLf A t::zeroLfs A ts
def constTV (E:Env) (ty:Nat):Value→TV A
 | .int k n=>.one (.val (.int k) (A.litI k n))
 | .bool b=>.one (.val .bool (A.litB b))
 | .string b=>.one (.val .str (A.litS b))
 | .slice none 0 0=>match E.slOf ty with
  | some (e,cs)=>.one (.nilS e cs)
  | none=>.dead
 | _=>.dead
def ev (E:Env) (s:St A) (ty:Nat):Operand→TV A
 | .tmp t=>s.sl t
 | .const v=>constTV E ty v
 | .func f=>.one (.fn f [])
 | .global _=>.dead
def unpack (mk:Nat→(t:Ty)→A.V t→Lf A):(cs:Tys)→A.Vs cs→Nat→List (Lf A)
 | .nil,_,_=>[]
 | .cons t ts,x,j=>mk j t (A.hd x)::unpack mk ts (A.tl x) (j+1)
def mkImm (_:Nat) (t:Ty) (x:A.V t):Lf A:=.val t x
def mkOwn (id g h:Nat) (path:List (A.V (.int .i64)×Nat)) (i:A.V (.int .i64)) (j:Nat) (t:Ty) (x:A.V t):Lf A:=
 match t with
 | .sl _ _=>.ref id g h (path++[(i,j)])
 | t=>.val t x
def cellAt:(cs:Tys)→A.Vs cs→Nat→Option (Sigma A.V)
 | .nil,_,_=>none
 | .cons t _,x,0=>some ⟨t,A.hd x⟩
 | .cons _ ts,x,j+1=>cellAt ts (A.tl x) j
def setCell:(cs:Tys)→A.Vs cs→Nat→Sigma A.V→Option (A.Vs cs)
 | .nil,_,_,_=>none
 | .cons t ts,x,0,⟨u,v⟩=>if h:Ty.beq u t=true then some (A.cn (A.cast h v) (A.tl x)) else none
 | .cons t ts,x,j+1,v=>(setCell ts (A.tl x) j v).map fun y=>A.cn (A.hd x) y
structure Cont (A:Alg) where
 e:Nat
 cs:Tys
 x:A.V (.sl e cs)
 md:Nat
def follow (md:Nat):(e:Nat)→(cs:Tys)→A.V (.sl e cs)→List (A.V (.int .i64)×Nat)→Option (Cont A)
 | e,cs,x,[]=>some ⟨e,cs,x,md⟩
 | _,cs,x,(i,j)::p =>
  match cellAt cs (A.get x i) j with
  | some ⟨.sl e' cs',y⟩=>follow md e' cs' y p
  | _=>none
def Slot.cont (q:Slot A) (h:Nat) (path:List (A.V (.int .i64)×Nat)):Option (Cont A):=
 match q.o with
 | .arr e cs deep x=>match path with
  | []=>some ⟨e,cs,x,bif deep then 2 else 1⟩
  | st::p=>bif deep && Nat.beq q.h h then follow 2 e cs x (st::p) else none
 | .imm e cs x=>match path with
  | []=>some ⟨e,cs,x,0⟩
  | _::_=>none
 | _=>none
def St.cont (s:St A) (id g h:Nat) (path:List (A.V (.int .i64)×Nat)):Option (Cont A):=
 bif Nat.beq (s.ob id).g g then (s.ob id).cont h path else none
def modAt (f:(e:Nat)→(cs:Tys)→A.V (.sl e cs)→Option (A.V (.sl e cs))):(e:Nat)→(cs:Tys)→A.V (.sl e cs)→List (A.V (.int .i64)×Nat)→Option (A.V (.sl e cs))
 | e,cs,x,[]=>f e cs x
 | _,cs,x,(i,j)::p =>
  match cellAt cs (A.get x i) j with
  | some ⟨.sl e' cs',y⟩ =>
   match modAt f e' cs' y p with
   | some y'=>match setCell cs (A.get x i) j ⟨.sl e' cs',y'⟩ with
    | some el=>some (A.put x i el)
    | none=>none
   | none=>none
  | _=>none
def pack1 (deep:Bool) (t:Ty) (l:Lf A) (s:St A):Option (A.V t×St A):=
 match l,t with
 | .val (.sl e cs) x,t=>bif deep then none else if h:Ty.beq (.sl e cs) t=true then some (A.cast h x,s) else none
 | .val u x,t=>if h:Ty.beq u t=true then some (A.cast h x,s) else none
 | .nilS e cs,.sl e' cs'=>if h:Ty.beq (.sl e cs) (.sl e' cs')=true then some (A.cast h (A.nilV e cs),s) else none
 | .ref id g _ [],t =>
  bif Nat.beq (s.ob id).g g then
   match (s.ob id).o with
   | .arr e cs _ x =>
    if h:Ty.beq (.sl e cs) t=true then
     bif deep then none
     else some (A.cast h x,s.chg id true (.imm e cs x))
    else none
   | .imm e cs x=>bif deep then none else if h:Ty.beq (.sl e cs) t=true then some (A.cast h x,s) else none
   | _=>none
  else none
 | _,_=>none
def packs (deep:Bool):(cs:Tys)→List (Lf A)→St A→Option (A.Vs cs×St A)
 | .nil,[],s=>some (A.nl,s)
 | .cons t ts,l::ls,s =>
  match pack1 deep t l s with
  | some (x,s1)=>match packs deep ts ls s1 with
   | some (xs,s2)=>some (A.cn x xs,s2)
   | none=>none
  | none=>none
 | _,_,_=>none
def look1 (t:Ty) (l:Lf A) (s:St A):Option (A.V t):=
 match l,t with
 | .val u x,t=>if h:Ty.beq u t=true then some (A.cast h x) else none
 | .nilS e cs,t=>if h:Ty.beq (.sl e cs) t=true then some (A.cast h (A.nilV e cs)) else none
 | .ref id g h p,t =>
  match s.cont id g h p with
  | some c=>if hh:Ty.beq (.sl c.e c.cs) t=true then some (A.cast hh c.x) else none
  | none=>none
 | _,_=>none
inductive K where
 | val (t:Ty)
 | arr (e:Nat) (cs:Tys) (deep:Bool)
 | mp (k:IntKind)
def K.T (A:Alg):K→Type
 | .val t=>A.V t
 | .arr e cs _=>A.V (.sl e cs)
 | .mp k=>A.V (.sl 0 (Tys.mp k))
def KTs (A:Alg):List K→Type
 | []=>Unit
 | k::ks=>K.T A k×KTs A ks
inductive Cp where
 | ro (cs:Tys)
 | mu (ks:List K)
inductive Sh where
 | one (k:K)
 | agg (ks:List K)
 | blk (ks:List K)
 | ro (cs:Tys)
 | fn (f:FuncId) (caps:List Tys)
 | fnm (f:FuncId) (caps:List Cp)
def Tys.ks:Tys→List K
 | .nil=>[]
 | .cons t ts=>.val t::ts.ks
def Cp.ks:Cp→List K
 | .ro cs=>cs.ks
 | .mu ks=>ks
def Sh.ks:Sh→List K
 | .one k=>[k]
 | .agg ks | .blk ks=>ks
 | .ro cs=>cs.ks
 | .fn _ caps=>(caps.map Tys.ks).flatten
 | .fnm _ caps=>(caps.map Cp.ks).flatten
end Go.R
namespace Go.R
variable {A:Alg} {M:Type}
def K.beq:K→K→Bool
 | .val t,.val u=>Ty.beq t u
 | .arr e cs d,.arr e' cs' d'=>Nat.beq e e' && Tys.beq cs cs' && (d == d')
 | .mp k,.mp k'=>decide (k=k')
 | _,_=>false
theorem K.eq_of_beq:∀ {a b:K},K.beq a b=true→a=b
 | .val t,.val u,h=>by rw [Ty.eq_of_beq h]
 | .arr e cs d,.arr e' cs' d',h=>by
  simp only [K.beq,Bool.and_eq_true,beq_iff_eq] at h
  rw [Nat.eq_of_beq_eq_true h.1.1,Tys.eq_of_beq h.1.2,h.2]
 | .mp k,.mp k',h=>by simp only [K.beq,decide_eq_true_eq] at h;rw [h]
 | .val _,.arr ..,h=>by simp [K.beq] at h
 | .arr ..,.val _,h=>by simp [K.beq] at h
 | .mp _,.arr ..,h=>by simp [K.beq] at h
 | .mp _,.val _,h=>by simp [K.beq] at h
 | .val _,.mp _,h=>by simp [K.beq] at h
 | .arr ..,.mp _,h=>by simp [K.beq] at h
def K.isArr:K→Bool
 | .arr ..=>true
 | _=>false
def K.isVal:K→Bool
 | .val _=>true
 | _=>false
abbrev KV (A:Alg):=Sigma (K.T A)
def toKTs:(ks:List K)→List (KV A)→Option (KTs A ks)
 | [],[]=>some ()
 | k::ks,⟨k',x⟩::xs=>if h:K.beq k' k=true then (toKTs ks xs).map fun r=>(K.eq_of_beq h ▸ x,r) else none
 | _,_=>none
def ofKTs:(ks:List K)→KTs A ks→List (KV A)
 | [],_=>[]
 | k::ks,(x,r)=>⟨k,x⟩::ofKTs ks r
def arr1 (e:Nat) (cs:Tys) (deep:Bool) (l:Lf A) (s:St A):Option (A.V (.sl e cs)×St A):=
 match l with
 | .nilS e' cs'=>if h:Ty.beq (.sl e' cs') (.sl e cs)=true then some (A.cast h (A.nilV e' cs'),s) else none
 | .ref id g _ [] =>
  bif Nat.beq (s.ob id).g g then
   match (s.ob id).o with
   | .arr e' cs' dp x =>
    bif (dp == deep) || cs'.plain then
     if h:Ty.beq (.sl e' cs') (.sl e cs)=true then some (A.cast h x,s.chg id true .gone) else none
    else none
   | _=>none
  else none
 | _=>none
def mp1 (k:IntKind) (l:Lf A) (s:St A):Option (A.V (.sl 0 (Tys.mp k))×St A):=
 match l with
 | .mref id g =>
  bif Nat.beq (s.ob id).g g then
   match (s.ob id).o with
   | .mp k' x=>if h:Ty.beq (.sl 0 (Tys.mp k')) (.sl 0 (Tys.mp k))=true then some (A.cast h x,s.chg id true .gone) else none
   | _=>none
  else none
 | _=>none
def take1 (k:K) (l:Lf A) (s:St A):Option (KV A×St A):=
 match k with
 | .val t=>(pack1 false t l s).map fun r=>(⟨.val t,r.1⟩,r.2)
 | .arr e cs deep=>(arr1 e cs deep l s).map fun r=>(⟨.arr e cs deep,r.1⟩,r.2)
 | .mp k=>(mp1 k l s).map fun r=>(⟨.mp k,r.1⟩,r.2)
def takes:List K→List (Lf A)→St A→Option (List (KV A)×St A)
 | [],[],s=>some ([],s)
 | k::ks,l::ls,s =>
  match take1 k l s with
  | some (x,s1)=>match takes ks ls s1 with
   | some (xs,s2)=>some (x::xs,s2)
   | none=>none
  | none=>none
 | _,_,_=>none
def Tys.kd:Tys→List K
 | .nil=>[]
 | .cons t ts=>(match t with | .sl e cs=>.arr e cs true | t=>.val t)::ts.kd
def KV.sig (v:KV A):Sigma A.V:=
 match v with
 | ⟨.val t,x⟩=>⟨t,x⟩
 | ⟨.arr e cs _,x⟩=>⟨.sl e cs,x⟩
 | ⟨.mp k,x⟩=>⟨.sl 0 (Tys.mp k),x⟩
def toVsD:(cs:Tys)→List (KV A)→Option (A.Vs cs)
 | .nil,[]=>some A.nl
 | .cons t ts,v::r=>if h:Ty.beq v.sig.1 t=true then (toVsD ts r).map fun y=>A.cn (A.cast h v.sig.2) y else none
 | _,_=>none
def setRow (cs:Tys) (x:A.Vs cs) (j:Nat):List (KV A)→Option (A.Vs cs)
 | []=>some x
 | v::r=>match setCell cs x j v.sig with
  | some y=>setRow cs y (j+1) r
  | none=>none
def litD (e:Nat) (cs:Tys):Nat→List (KV A)→A.V (.sl e cs)→Option (A.V (.sl e cs))
 | 0,[],x=>some x
 | 0,_::_,_=>none
 | n+1,vs,x=>match toVsD cs (vs.take cs.len) with
  | some el=>litD e cs n (vs.drop cs.len) (A.push x el)
  | none=>none
def putAt (c:Cont A) (y:A.V (.sl c.e c.cs)) (e:Nat) (cs:Tys) (x:A.V (.sl e cs)) (p:List (A.V (.int .i64)×Nat)):Option (A.V (.sl e cs)):=
 modAt (fun e' cs' _=>if h:Ty.beq (.sl c.e c.cs) (.sl e' cs')=true then some (A.cast h y) else none) e cs x p
def blkOf (s:St A) (id g:Nat):Option (List (Lf A)):=
 bif Nat.beq (s.ob id).g g then match (s.ob id).o with | .blk cs=>some cs | _=>none else none
def kvs:(cs:Tys)→A.Vs cs→List (KV A)
 | .nil,_=>[]
 | .cons t ts,x=>⟨.val t,A.hd x⟩::kvs ts (A.tl x)
def takeCap (cs:Tys) (c:Cap A) (s:St A):Option (List (KV A)×St A):=
 match c with
 | .ptr id g=>match blkOf s id g with
  | some ls=>match takes cs.ks ls s with
   | some (vs,s1)=>match (s1.ob id).o with
    | .blk _=>some (vs,s1.chg id true .gone)
    | _=>none
   | none=>none
  | none=>none
 | .ro cs' x=>if h:Tys.beq cs' cs=true then some (kvs cs (A.casts h x),s) else none
def takeCaps:List Tys→List (Cap A)→St A→Option (List (KV A)×St A)
 | [],[],s=>some ([],s)
 | cs::css,c::cc,s=>match takeCap cs c s with
  | some (x,s1)=>match takeCaps css cc s1 with
   | some (r,s2)=>some (x++r,s2)
   | none=>none
  | none=>none
 | _,_,_=>none
def takeCp (c:Cp) (v:Cap A) (s:St A):Option (List (KV A)×St A):=
 match c,v with
 | .ro cs,v=>takeCap cs v s
 | .mu ks,.ptr id g=>match blkOf s id g with
  | some ls=>match takes ks ls (s.chg id true .gone) with
   | some r=>some r
   | none=>none
  | none=>none
 | _,_=>none
def takeCps:List Cp→List (Cap A)→St A→Option (List (KV A)×St A)
 | [],[],s=>some ([],s)
 | c::cs,v::vs,s=>match takeCp c v s with
  | some (x,s1)=>match takeCps cs vs s1 with
   | some (r,s2)=>some (x++r,s2)
   | none=>none
  | none=>none
 | _,_,_=>none
def takeTV (sh:Sh) (v:TV A) (s:St A):Option (List (KV A)×St A):=
 match sh,v with
 | .ro cs,.one (.ptr id g 0)=>takeCap cs (.ptr id g) s
 | .ro cs,.one (.iptr cs' x 0)=>takeCap cs (.ro cs' x) s
 | .fn f caps,.one (.fn f' cc)=>bif Nat.beq f f' then takeCaps caps cc s else none
 | .fnm f caps,.one (.fn f' cc)=>bif Nat.beq f f' then takeCps caps cc s else none
 | .one k,.one l=>takes [k] [l] s
 | .agg ks,.agg ls=>takes ks ls s
 | .blk ks,.one (.ptr id g 0)=>match blkOf s id g with
  | some ls=>match takes ks ls (s.chg id true .gone) with
   | some r=>some r
   | none=>none
  | none=>none
 | _,_=>none
def takeAll:List Sh→List (TV A)→St A→Option (List (KV A)×St A)
 | [],[],s=>some ([],s)
 | sh::shs,v::vs,s=>match takeTV sh v s with
  | some (x,s1)=>match takeAll shs vs s1 with
   | some (r,s2)=>some (x++r,s2)
   | none=>none
  | none=>none
 | _,_,_=>none
def Sh.aks:Sh→List K
 | .one k=>[k]
 | .agg ks=>ks
 | _=>[]
def Sh.cells (sh:Sh) (v:TV A):List (Lf A):=
 match sh,v with
 | .one _,.one l=>[l]
 | .one _,_=>[.dead]
 | .agg ks,.agg ls=>bif Nat.beq ls.length ks.length then ls else ks.map fun _=>.dead
 | .agg ks,_=>ks.map fun _=>.dead
 | _,_=>[]
def allCells:List Sh→List (TV A)→List (Lf A)
 | sh::shs,v::vs=>sh.cells v++allCells shs vs
 | _,_=>[]
def pick {α:Type}:List K→List α→List α
 | k::ks,x::xs=>bif k.isArr then x::pick ks xs else pick ks xs
 | _,_=>[]
def lend1 (k : K) (l : Lf A) (s : St A) : Option (St A) :=
  match k with
  | .val _ => some s
  | .arr e cs deep => bif Nat.ble 1 cs.len then (arr1 e cs deep l s).map (·.2) else none
  | .mp _ => none
def lends:List K→List (Lf A)→St A→Option (St A)
 | [],[],s=>some s
 | k::ks,l::ls,s =>
  match lend1 k l s with
  | some s1=>lends ks ls s1
  | none=>none
 | _,_,_=>none
def lendAll (shs:List Sh) (tvs:List (TV A)) (s:St A):Option (St A):=lends (shs.map Sh.aks).flatten (allCells shs tvs) s
def look1K (k:K) (l:Lf A) (s0 s:St A):Option (KV A):=
 match k with
 | .val t=>(look1 t l s).map fun x=>⟨.val t,x⟩
 | .arr e cs deep=>(arr1 e cs deep l s0).map fun r=>⟨.arr e cs deep,r.1⟩
 | .mp _=>none
def looks:List K→List (Lf A)→St A→St A→Option (List (KV A))
 | [],[],_,_=>some []
 | k::ks,l::ls,s0,s=>match look1K k l s0 s,looks ks ls s0 s with
  | some x,some xs=>some (x::xs)
  | _,_=>none
 | _,_,_,_=>none
def lookCap (cs:Tys) (c:Cap A) (s:St A):Option (List (KV A)):=
 match c with
 | .ptr id g=>match blkOf s id g with
  | some ls=>looks cs.ks ls s s
  | none=>none
 | .ro cs' x=>if h:Tys.beq cs' cs=true then some (kvs cs (A.casts h x)) else none
def lookCaps:List Tys→List (Cap A)→St A→Option (List (KV A))
 | [],[],_=>some []
 | cs::css,c::cc,s=>match lookCap cs c s,lookCaps css cc s with
  | some x,some r=>some (x++r)
  | _,_=>none
 | _,_,_=>none
def lookTV (sh:Sh) (v:TV A) (s0 s:St A):Option (List (KV A)):=
 match sh,v with
 | .ro cs,.one (.ptr id g 0)=>lookCap cs (.ptr id g) s
 | .ro cs,.one (.iptr cs' x 0)=>lookCap cs (.ro cs' x) s
 | .fn f caps,.one (.fn f' cc)=>bif Nat.beq f f' then lookCaps caps cc s else none
 | .one k,.one l=>looks [k] [l] s0 s
 | .agg ks,.agg ls=>looks ks ls s0 s
 | _,_=>none
def lookAll:List Sh→List (TV A)→St A→St A→Option (List (KV A))
 | [],[],_,_=>some []
 | sh::shs,v::vs,s0,s=>match lookTV sh v s0 s,lookAll shs vs s0 s with
  | some x,some r=>some (x++r)
  | _,_=>none
 | _,_,_,_=>none
def K.closed:K→Bool
 | .val t=>(match t with | .sl ..=>false | _=>true)
 | .arr _ cs d=>cs.plain || d
 | .mp _=>false
def Sh.flat:Sh→Bool
 | .one _ | .agg _=>true
 | _=>false
def Sh.outs (sh:Sh):List K:=sh.aks.filter K.isArr
def backs:List K→List (Lf A)→List (KV A)→St A→Option (St A)
 | [],[],[],s=>some s
 | .val _::ks,_::ls,vs,s=>backs ks ls vs s
 | .arr _ _ _::ks,.nilS _ _::ls,_::vs,s=>backs ks ls vs s
 | .arr _ _ _::ks,.ref id _ _ []::ls,⟨.arr e cs deep,x⟩::vs,s=>backs ks ls vs (s.chg id true (.arr e cs deep x))
 | _,_,_,_=>none
def backAll (shs:List Sh) (tvs:List (TV A)) (vs:List (KV A)) (s:St A):Option (St A):=backs (shs.map Sh.aks).flatten (allCells shs tvs) vs s
def lay1 (id:Nat) (v:KV A) (s:St A):Lf A×St A:=
 match v with
 | ⟨.val t,x⟩=>(.val t x,s.new id .gone)
 | ⟨.arr e cs deep,x⟩=>(.ref id ((s.ob id).g+1) 0 [],s.new id (.arr e cs deep x))
 | ⟨.mp k,x⟩=>(.mref id ((s.ob id).g+1),s.new id (.mp k x))
def lays (id:Nat):List (KV A)→St A→List (Lf A)×St A
 | [],s=>([],s)
 | v::vs,s=>let r:=lay1 id v s;let q:=lays (id+1) vs r.2;(r.1::q.1,q.2)
def toVs:(cs:Tys)→List (KV A)→Option (A.Vs cs)
 | .nil,[]=>some A.nl
 | .cons t ts,⟨.val u,x⟩::r=>if h:Ty.beq u t=true then (toVs ts r).map fun y=>A.cn (A.cast h x) y else none
 | _,_=>none
def layCaps:List Tys→List (KV A)→List (Cap A)
 | [],_=>[]
 | cs::css,vs=>match toVs cs (vs.take cs.len) with
  | some x=>.ro cs x::layCaps css (vs.drop cs.len)
  | none=>[]
def layCps (b:Nat):List Cp→List (KV A)→St A→List (Cap A)×St A
 | [],_,s=>([],s)
 | .ro cs::r,vs,s=>match toVs cs (vs.take cs.len) with
  | some x=>let q:=layCps b r (vs.drop cs.len) s;(.ro cs x::q.1,q.2)
  | none=>([],s)
 | .mu ks::r,vs,s =>
  let a:=lays (b+1) (vs.take ks.length) s
  let q:=layCps (b+(ks.length+1)) r (vs.drop ks.length) (a.2.new b (.blk a.1))
  (.ptr b ((a.2.ob b).g+1)::q.1,q.2)
def layTV (b:Nat) (sh:Sh) (vs:List (KV A)) (s:St A):TV A×St A:=
 match sh with
 | .one _=>match vs with
  | [v]=>let r:=lay1 b v s;(.one r.1,r.2)
  | _=>(.dead,s)
 | .agg _=>let r:=lays b vs s;(.agg r.1,r.2)
 | .blk _=>let r:=lays (b+1) vs s;(.one (.ptr b ((r.2.ob b).g+1) 0),r.2.new b (.blk r.1))
 | .ro cs=>match toVs cs vs with
  | some x=>(.one (.iptr cs x 0),s)
  | none=>(.dead,s)
 | .fn f caps=>(.one (.fn f (layCaps caps vs)),s)
 | .fnm f caps=>let q:=layCps b caps vs s;(.one (.fn f q.1),q.2)
def Cp.width:Cp→Nat
 | .ro _=>0
 | .mu ks=>ks.length+1
def cpW:List Cp→Nat
 | []=>0
 | c::r=>c.width+cpW r
def Sh.width:Sh→Nat
 | .one _=>1
 | .agg ks=>ks.length
 | .blk ks=>ks.length+1
 | .fnm _ caps=>cpW caps
 | _=>0
def layAll (b:Nat):List Sh→List (KV A)→St A→List (TV A)×St A
 | [],_,s=>([],s)
 | sh::shs,vs,s=>let r:=layTV b sh (vs.take sh.ks.length) s;let q:=layAll (b+sh.width) shs (vs.drop sh.ks.length) r.2;(r.1::q.1,q.2)
def cpB:List Cp→List (List K)
 | []=>[]
 | .ro _::r=>cpB r
 | .mu ks::r=>ks::cpB r
def cpL:List Cp→List (Cap A)→List (Lf A)
 | .ro _::r,_::cc=>cpL r cc
 | .mu _::r,.ptr id g::cc=>.ptr id g 0::cpL r cc
 | .mu _::r,.ro _ _::cc=>.dead::cpL r cc
 | .ro _::r,[]=>cpL r []
 | .mu _::r,[]=>.dead::cpL r []
 | [],_=>[]
def Sh.bks:Sh→List (List K)
 | .blk ks=>[ks]
 | .fnm _ caps=>cpB caps
 | _=>[]
def allB (shs:List Sh):List (List K):=(shs.map Sh.bks).flatten
def Sh.bls (sh:Sh) (v:TV A):List (Lf A):=
 match sh,v with
 | .blk _,.one l=>[l]
 | .blk _,_=>[.dead]
 | .fnm _ caps,.one (.fn _ cc)=>cpL caps cc
 | .fnm _ caps,_=>cpL caps []
 | _,_=>[]
def allBl:List Sh→List (TV A)→List (Lf A)
 | sh::shs,v::vs=>sh.bls v++allBl shs vs
 | _,_=>[]
def cellB:Nat:=1099511627776
def cellId (id:Nat):Nat:=cellB+id*64
def backB:List (List K)→List (Lf A)→List (KV A)→St A→Option (St A)
 | [],[],[],s=>some s
 | ks::kss,.ptr id _ 0::ls,vs,s =>
  bif Nat.ble (id+1) cellB && (Nat.ble ks.length 64 && Nat.ble ks.length vs.length) then
   backB kss ls (vs.drop ks.length) ((lays (cellId id) (vs.take ks.length) s).2.chg id true (.blk (lays (cellId id) (vs.take ks.length) s).1))
  else none
 | _,_,_,_=>none
def apart (b W:Nat):List (Lf A)→Bool
 | []=>true
 | .ptr id _ _::ls=>(Nat.ble (id+1) b || Nat.ble (b+W) id) && apart b W ls
 | _::_=>false
def outsOf (look:Bool) (args:List Sh):List K:=bif look then (args.map Sh.outs).flatten else []
def widthS:List Sh→Nat
 | []=>0
 | sh::shs=>sh.width+widthS shs
abbrev Tmpl:=List (Nat×Sh)
def Tmpl.ks (t : Tmpl) : List K := (t.map (·.2.ks)).flatten
def takeT (t : Tmpl) (s : St A) : Option (KTs A (Tmpl.ks t) × St A) :=
  match takeAll (t.map (·.2)) (t.map fun p => s.sl p.1) s with
  | some (vs, s1) => (toKTs _ vs).map fun x => (x, s1)
  | none => none
def setAll:List Nat→List (TV A)→St A→St A
 | d::ds,v::vs,s=>setAll ds vs (s.set d v)
 | _,_,s=>s
def layT (t : Tmpl) (x : KTs A (Tmpl.ks t)) (s : St A) : St A :=
  let q := layAll 1 (t.map (·.2)) (ofKTs _ x) s
  setAll (t.map (·.1)) q.1 q.2
def St.start:St A:={ sl:=fun _=>.dead,ob:=fun _=>⟨0,0,.gone⟩ }
def Sh.light:Sh→Bool
 | .one k=>k.isVal
 | .agg ks=>ks.all K.isVal
 | .ro _ | .fn _ _=>true
 | _=>false
def Sh.retOk:Sh→Bool
 | .one _ | .agg _ | .blk _=>true
 | _=>false
def natsBeq:List Nat→List Nat→Bool
 | [],[]=>true
 | a::as,b::bs=>Nat.beq a b && natsBeq as bs
 | _,_=>false
theorem natsBeq_eq:∀ {a b:List Nat},natsBeq a b=true→a=b
 | [],[],_=>rfl
 | a::as,b::bs,h=>by
  simp only [natsBeq,Bool.and_eq_true] at h
  rw [Nat.eq_of_beq_eq_true h.1,natsBeq_eq h.2]
 | [],_::_,h=>by cases h
 | _::_,[],h=>by cases h
abbrev FKey:=FuncId×List FuncId
def fnIds (args:List (TV A)):List FuncId:=args.filterMap fun v=>match v with | .one (.fn f _)=>some f | _=>none
def FKey.beq (a b:FKey):Bool:=Nat.beq a.1 b.1 && natsBeq a.2 b.2
theorem FKey.eq_of_beq {a b:FKey} (h:FKey.beq a b=true):a=b:=by
 simp only [FKey.beq,Bool.and_eq_true] at h
 exact Prod.ext (Nat.eq_of_beq_eq_true h.1) (natsBeq_eq h.2)
structure Callee (A:Alg) (M:Type) where
 look:Bool
 args:List Sh
 rets:List Sh
 run:KTs A ((args.map Sh.ks).flatten)→(KTs A ((rets.map Sh.ks).flatten++(outsOf look args++(allB args).flatten))→M)→M
inductive Ex where
 | normal
 | exit (id:Nat)
 | ret
 deriving DecidableEq
def Outs (A:Alg):List (Ex×Tmpl)→Type
 | []=>Empty
 | e::es=>KTs A (Tmpl.ks e.2) ⊕ Outs A es
def Outs.elim {M:Type}:(es:List (Ex×Tmpl))→Outs A es→(Ex→(t:Tmpl)→KTs A (Tmpl.ks t)→M)→M
 | [],q,_=>Empty.elim q
 | e::es,q,k=>Sum.elim (fun y=>k e.1 e.2 y) (fun q=>Outs.elim es q k) q
structure LoopO (A:Alg) (M:Type) where
 keep:Tmpl
 tmpl:Tmpl
 exits:List (Ex×Tmpl)
 run:KTs A (Tmpl.ks keep)→KTs A (Tmpl.ks tmpl)→(Ex→(t:Tmpl)→KTs A (Tmpl.ks t)→M)→M
def TV.comp:TV A→Bool×List (Lf A)
 | .one l=>(false,[l])
 | .agg ls=>(true,ls)
 | .tup _=>(false,[.dead])
def TV.ofRes:List (TV A)→TV A
 | [v]=>v
 | vs=>.tup (vs.map TV.comp)
end Go.R
namespace Go.R
variable {A:Alg} {M:Type}
def limit:Int:=1073741824
def binV (C:Ctl A M) (tb:Bool) (op:BinOp) (x y:Lf A) (k:Lf A→M):M:=
 match x,y with
 | .val (.int a) x,.val (.int b) y =>
  match op with
  | .shl | .shr=>C.cond (A.isNeg b y) C.fail (k (.val (.int a) (A.shift op a b x y)))
  | op =>
   if h:Ty.beq (.int b) (.int a)=true then
    match op with
    | .add | .sub | .mul | .and | .or | .xor | .andNot=>k (.val (.int a) (A.arith op a x (A.cast h y)))
    | .quo | .rem=>C.cond (A.isZero a (A.cast h y)) C.fail (k (.val (.int a) (A.arith op a x (A.cast h y))))
    | _=>k (.val .bool (A.cmp op a x (A.cast h y)))
   else C.fail
 | .val .bool x,.val .bool y =>
  bif tb then
   match op with
   | .eql=>k (.val .bool (A.beqB x y))
   | .neq=>k (.val .bool (A.notB (A.beqB x y)))
   | _=>C.fail
  else C.fail
 | .val .str x,.val .str y =>
  match op with
  | .add=>C.cond (A.sfits x y) (k (.val .str (A.scat x y))) C.fail
  | .eql | .neq | .lss | .leq | .gtr | .geq=>k (.val .bool (A.scmp op x y))
  | _=>C.fail
 | _,_=>C.fail
def isBoolTy (E:Env) (t:Nat):Bool:=
 match E.ti t with
 | some i=>(match i.cs with | .cons .bool .nil=>true | _=>false) && !i.agg
 | none=>false
def isStrTy (E:Env) (t:Nat):Bool:=
 match E.ti t with
 | some i=>(match i.cs with | .cons .str .nil=>true | _=>false) && !i.agg
 | none=>false
def eq1:(t:Ty)→A.V t→A.V t→Option (A.V .bool)
 | .int k,x,y=>some (A.cmp .eql k x y)
 | .bool,x,y=>some (A.beqB x y)
 | _,_,_=>none
def eqCells:Tys→List (Lf A)→List (Lf A)→Option (A.V .bool)
 | .nil,[],[]=>some (A.litB true)
 | .cons t ts,.val u x::xs,.val v y::ys =>
  if hu:Ty.beq u t=true then if hv:Ty.beq v t=true then
   match eq1 t (A.cast hu x) (A.cast hv y),eqCells ts xs ys with
   | some b,some r=>some (A.andB b r)
   | _,_=>none
  else none else none
 | _,_,_=>none
def mpOf (s:St A) (id g:Nat):Option (Sigma fun k=>A.V (.sl 0 (Tys.mp k))):=
 bif Nat.beq (s.ob id).g g then match (s.ob id).o with | .mp k x=>some ⟨k,x⟩ | _=>none else none
def solid (s:St A):Lf A→Bool
 | .val .. | .nilS .. | .iptr .. | .fn ..=>true
 | .ref id g h p=>(s.cont id g h p).isSome
 | .ptr id g _=>(blkOf s id g).isSome
 | .mref id g=>(mpOf s id g).isSome
 | .eptr id g h p _ _=>match s.cont id g h p with
  | some c=>!Nat.beq c.md 0
  | none=>false
 | .tst .. | .undef | .dead=>false
def cells? (s:St A) (v:TV A):Option (List (Lf A)):=
 match v with
 | .one l=>bif solid s l then some [l] else none
 | .agg ls=>bif ls.all (solid s) then some ls else none
 | .tup _=>none
def fillCells (flds:List (Nat×Nat×Bool)) (E:Env) (s:St A):List (Nat×Operand)→List (Lf A)→Option (List (Lf A))
 | [],cs=>some cs
 | (i,x)::r,cs =>
  match flds[i]? with
  | some (off,n,_) =>
   match cells? s (ev E s 0 x) with
   | some v=>bif Nat.beq v.length n && Nat.ble (off+n) cs.length then fillCells flds E s r (cs.take off++v++cs.drop (off+n)) else none
   | none=>none
  | none=>none
def litRow (E:Env) (s0:St A) (e:Nat) (cs:Tys):List Operand→A.V (.sl e cs)→St A→Option (A.V (.sl e cs)×St A)
 | [],x,s=>some (x,s)
 | o::os,x,s =>
  match cells? s0 (ev E s0 0 o) with
  | some ls=>match packs false cs ls s with
   | some (el,s1)=>litRow E s0 e cs os (A.push x el) s1
   | none=>none
  | none=>none
def litRows (E:Env) (s:St A) (n:Nat):List Operand→Option (List (List (Lf A)))
 | []=>some []
 | o::os=>match cells? s (ev E s 0 o),litRows E s n os with
  | some ls,some r=>bif Nat.beq ls.length n then some (ls::r) else none
  | _,_=>none
def isRange:Nat→List Nat→Bool
 | _,[]=>true
 | m,n::r=>Nat.beq m n && isRange (m+1) r
def mkAt (s:St A) (id g:Nat) (path:List (A.V (.int .i64)×Nat)) (i:A.V (.int .i64)) (md:Nat):Nat→(t:Ty)→A.V t→Lf A:=
 bif Nat.beq md 2 then mkOwn id g (s.ob id).h path i else mkImm
def loadV (s:St A) (isAgg:Bool) (n:Nat) (p:Lf A):Option (TV A):=
 match p with
 | .ptr id g off=>match blkOf s id g with
  | some cs=>if off+n≤cs.length then some (TV.mk isAgg ((cs.drop off).take n)) else none
  | none=>none
 | .eptr id g h path i off=>match s.cont id g h path with
  | some c =>
   bif Nat.beq c.md 0 then none else
   let cells:=unpack (mkAt s id g path i c.md) c.cs (A.get c.x i) 0
   if off+n≤cells.length then some (TV.mk isAgg ((cells.drop off).take n)) else none
  | none=>none
 | .iptr cs x off =>
  let cells:=unpack mkImm cs x 0
  if off+n≤cells.length then some (TV.mk isAgg ((cells.drop off).take n)) else none
 | _=>none
def storeCellsV (deep:Bool):(cs:Tys)→A.Vs cs→Nat→List (Lf A)→St A→Option (A.Vs cs×St A)
 | _,x,_,[],s=>some (x,s)
 | cs,x,j,l::ls,s =>
  match cellAt cs x j with
  | some ⟨t,_⟩=>match pack1 deep t l s with
   | some (v,s1)=>match setCell cs x j ⟨t,v⟩ with
    | some y=>storeCellsV deep cs y (j+1) ls s1
    | none=>none
   | none=>none
  | none=>none
def anySl:(cs:Tys)→Nat→Nat→Bool
 | .nil,_,_=>false
 | .cons t ts,off,n=>match off,n with
  | 0,0=>false
  | 0,n+1=>(match t with | .sl ..=>true | _=>false) || anySl ts 0 n
  | off+1,n=>anySl ts off n
def storeD (s:St A) (id h e:Nat) (cs:Tys) (x:A.V (.sl e cs)) (p:List (A.V (.int .i64)×Nat)) (i:A.V (.int .i64)) (off:Nat) (v:List (Lf A)):Option (St A):=
 bif p.isEmpty || Nat.beq (s.ob id).h h then
  match follow 2 e cs x p with
  | some c=>match takes ((c.cs.kd.drop off).take v.length) v s with
   | some (vs,s1)=>match setRow c.cs (A.get c.x i) off vs with
    | some el=>match putAt c (A.put c.x i el) e cs x p with
     | some x'=>match (s1.ob id).o with
      | .arr ..=>some (s1.chg id true (.arr e cs true x'))
      | _=>none
     | none=>none
    | none=>none
   | none=>none
  | none=>none
 else none
def storeV (s:St A) (p:Lf A) (v:List (Lf A)):Option (St A):=
 match p with
 | .ptr id g off=>match blkOf s id g with
  | some cs=>if off+v.length≤cs.length then some (s.chg id true (.blk (cs.take off++v++cs.drop (off+v.length)))) else none
  | none=>none
 | .eptr id g h p i off =>
  bif Nat.beq (s.ob id).g g then
   match (s.ob id).o with
   | .arr e cs deep x =>
    bif deep then storeD s id h e cs x p i off v
    else match p with
     | []=>match storeCellsV false cs (A.get x i) off v s with
      | some (el,s1) =>
       match (s1.ob id).o with
       | .arr ..=>some (s1.chg id true (.arr e cs false (A.put x i el)))
       | _=>none
      | none=>none
     | _::_=>none
   | _=>none
  else none
 | _=>none
def int? : TV A→Option (A.V (.int .i64))
 | .one (.val t x)=>if h:Ty.beq t (.int .i64)=true then some (A.cast h x) else none
 | _=>none
def intk? : TV A→Option (Sigma fun k=>A.V (.int k))
 | .one (.val (.int k) x)=>some ⟨k,x⟩
 | _=>none
def bool? : TV A→Option (A.V .bool)
 | .one (.val t x)=>if h:Ty.beq t .bool=true then some (A.cast h x) else none
 | _=>none
def str? : TV A→Option (A.V .str)
 | .one (.val t x)=>if h:Ty.beq t .str=true then some (A.cast h x) else none
 | _=>none
def cont? (s:St A):TV A→Option (Cont A)
 | .one (.val (.sl e cs) x)=>some ⟨e,cs,x,0⟩
 | .one (.nilS e cs)=>some ⟨e,cs,A.nilV e cs,1⟩
 | .one (.ref id g h p)=>s.cont id g h p
 | _=>none
def mapFail (C:Ctl A M) {α:Type} (o:Option α) (k:α→M):M:=match o with | some x=>k x | none=>C.fail
def isConst0:Option Operand→Bool
 | some (.const (.int _ n))=>decide (n=0)
 | _=>false
def sliceFin (E:Env) (C:Ctl A M) (d:Nat) (s:St A) (x:TV A) (c:Cont A) (fromStart:Bool) (l h:A.V (.int .i64)) (k:TV A→St A→M):M:=
 match x with
 | .one (.ref id _ _ []) =>
  bif Nat.beq c.md 0 then k (.one (.val (.sl c.e c.cs) (A.sub c.x l h))) s
  else bif E.trunc d && fromStart then
   bif Nat.beq c.md 2 && !c.cs.plain then C.fail else
   let s1:=(s.chg id true .gone).new (mkId d 0 0) (.arr c.e c.cs (Nat.beq c.md 2) (A.sub c.x l h));k (.one (.ref (mkId d 0 0) ((s1.ob (mkId d 0 0)).g) 0 [])) s1
  else k (.one (.val (.sl c.e c.cs) (A.sub c.x l h))) (s.chg id true (.imm c.e c.cs c.x))
 | .one (.ref ..)=>C.fail
 | _=>k (.one (.val (.sl c.e c.cs) (A.sub c.x l h))) s
def isNo0:Option Operand→Bool
 | none=>true
 | x=>isConst0 x
def sliceV (E:Env) (C:Ctl A M) (d t:Nat) (s:St A) (x:TV A) (lo hi mx:Option Operand) (k:TV A→St A→M):M:=
 mapFail C (E.slOf t) fun q =>
 mapFail C (cont? s x) fun c =>
 bif Nat.beq q.1 c.e && Tys.beq q.2 c.cs then
  bif isConst0 mx && (isConst0 hi && isNo0 lo) then k (.one (.nilS c.e c.cs)) s else
  match mx with
  | some _=>C.fail
  | none =>
   mapFail C (match lo with | some o=>int? (ev E s 0 o) | none=>some (A.litI .i64 0)) fun l =>
   mapFail C (match hi with | some o=>int? (ev E s 0 o) | none=>some (A.len c.x)) fun h =>
    C.cond (A.subOk c.x l h) (sliceFin E C d s x c lo.isNone l h k) C.fail
 else C.fail
def deepOf (s:St A):TV A→Option Nat
 | .one (.ref id g _ [])=>bif Nat.beq (s.ob id).g g then (match (s.ob id).o with | .arr _ _ dp _=>bif dp then some id else none | _=>none) else none
 | _=>none
def isNilS:TV A→Bool
 | .one (.nilS ..)=>true
 | _=>false
def builtinV (E:Env) (C:Ctl A M) (d:Nat) (b:Builtin) (tys:List Nat) (args:List (TV A)) (s:St A) (k:TV A→St A→M):M:=
 match b,args,tys with
 | .len,[x],[t] =>
  bif isStrTy E t then mapFail C (str? x) fun x=>k (.one (.val (.int .i64) (A.slen x))) s
  else mapFail C (E.slOf t) fun _=>mapFail C (cont? s x) fun c=>k (.one (.val (.int .i64) (A.len c.x))) s
 | .min,[x,y],_ =>
  mapFail C (int? x) fun x=>mapFail C (int? y) fun y=>k (.one (.val (.int .i64) (A.mxmn false .i64 x y))) s
 | .max,[x,y],_ =>
  mapFail C (int? x) fun x=>mapFail C (int? y) fun y=>k (.one (.val (.int .i64) (A.mxmn true .i64 x y))) s
 | .append,[x,y],[t,t'] =>
  mapFail C (E.slOf t) fun q =>
  mapFail C (E.slOf t') fun _ =>
  mapFail C (cont? s x) fun cx =>
  mapFail C (cont? s y) fun cy =>
  bif !(Nat.beq q.1 cx.e && Tys.beq q.2 cx.cs) then C.fail else
  match (match x with
    | .one (.nilS ..)=>some (s,false)
    | .one (.ref id _ _ [])=>(match cx.md with | 0=>none | md=>some (s.chg id true .gone,Nat.beq md 2))
    | _=>none) with
  | none=>C.fail
  | some (s1,dp) =>
   bif (dp || Nat.beq cy.md 2) && !cx.cs.plain then
    match deepOf s1 y with
    | some idy =>
     bif dp || isNilS x then
      if h:Ty.beq (.sl cy.e cy.cs) (.sl cx.e cx.cs)=true then
       let z:=A.cat cx.x (A.cast h cy.x)
       C.cond (A.small z) (let s3:=(s1.chg idy true .gone).new (mkId d 0 0) (.arr cx.e cx.cs true z);k (.one (.ref (mkId d 0 0) ((s3.ob (mkId d 0 0)).g) 0 [])) s3) C.fail
      else C.fail
     else C.fail
    | none=>C.fail
   else
    let s2:=s1
    if h:Ty.beq (.sl cy.e cy.cs) (.sl cx.e cx.cs)=true then
     let z:=A.cat cx.x (A.cast h cy.x)
     C.cond (A.small z) (let s3:=s2.new (mkId d 0 0) (.arr cx.e cx.cs dp z);k (.one (.ref (mkId d 0 0) ((s3.ob (mkId d 0 0)).g) 0 [])) s3) C.fail
    else C.fail
 | _,_,_=>C.fail
def nilTest (E:Env) (s:St A) (op:BinOp) (t:Nat) (x y:Operand):Option (Lf A):=
 match y with
 | .const (.slice none 0 0) =>
  match E.slOf t,cont? s (ev E s t x) with
  | some _,some c=>match op with
   | .eql=>some (.tst (A.cmp .gtr .i64 (A.len c.x) (A.litI .i64 0)) false)
   | .neq=>some (.tst (A.cmp .gtr .i64 (A.len c.x) (A.litI .i64 0)) true)
   | _=>none
  | _,_=>none
 | _=>none
def sameOpd:Operand→Operand→Bool
 | .tmp a,.tmp b=>Nat.beq a b
 | .const (.int k a),.const (.int j b)=>decide (k=j) && decide (a=b)
 | _,_=>false
def capOf:TV A→Option (Cap A)
 | .one (.ptr id g 0)=>some (.ptr id g)
 | .one (.iptr cs x 0)=>some (.ro cs x)
 | _=>none
def Cap.tv:Cap A→TV A
 | .ptr id g=>.one (.ptr id g 0)
 | .ro cs x=>.one (.iptr cs x 0)
def callOkB (f:Callee A M):Bool:=
 Nat.ble (widthS f.rets) 2047 && bif f.look then f.rets.all Sh.flat && ((f.args.all fun sh=>sh.light || sh.flat) && ((f.rets.all fun sh=>sh.ks.all K.closed) && f.args.all fun sh=>sh.outs.all K.closed)) else f.rets.all Sh.retOk
def callL (C:Ctl A M) (f:Callee A M) (d:Nat) (args:List (TV A)) (s:St A) (k:TV A→St A→M):M:=
  mapFail C (lendAll f.args args s) fun s1 =>
  mapFail C (lookAll f.args args s s1) fun vs =>
  mapFail C (toKTs _ vs) fun x =>
  f.run x fun y =>
   let n:=(f.rets.map Sh.ks).flatten.length
   mapFail C (backAll f.args args ((ofKTs _ y).drop n) s1) fun s2 =>
   let q:=layAll (mkId d 0 0) f.rets ((ofKTs _ y).take n) s2
   k (TV.ofRes q.1) q.2
structure Hole (A:Alg) where
 nb:Nat
 gn:Nat
 id:Nat
 g:Nat
 e:Nat
 cs:Tys
 x:A.V (.sl e cs)
 c:Cont A
 path:List (A.V (.int .i64)×Nat)
def split1 (nb:Nat) (id g h:Nat) (p:List (A.V (.int .i64)×Nat)) (s:St A):Option (TV A×St A×Hole A):=
 match s.cont id g h p with
 | some c=>match (s.ob id).o with
  | .arr e cs true x =>
   bif Nat.beq id nb then none else
   let s1:=(s.chg id true .gone).new nb (.arr c.e c.cs true c.x)
   some (.one (.ref nb (s1.ob nb).g 0 []),s1,⟨nb,(s1.ob nb).g,id,g,e,cs,x,c,p⟩)
  | _=>none
 | none=>none
def splitA (nb:Nat):List Sh→List (TV A)→St A→Option (List (TV A)×St A×Hole A)
 | .one (.arr ..)::_,.one (.ref id g h (st::p))::tvs,s=>(split1 nb id g h (st::p) s).map fun r=>(r.1::tvs,r.2)
 | _::shs,v::tvs,s=>(splitA nb shs tvs s).map fun r=>(v::r.1,r.2)
 | _,_,_=>none
def mergeA (q:Hole A) (s:St A):Option (St A):=
 match (s.ob q.nb).o with
 | .arr e cs dp y =>
  bif (Nat.beq (s.ob q.id).g q.g && Nat.beq (s.ob q.nb).g q.gn) && (Nat.ble 1 q.g && (dp || cs.plain)) then
   if hc:Ty.beq (.sl e cs) (.sl q.c.e q.c.cs)=true then
    match putAt q.c (A.cast hc y) q.e q.cs q.x q.path with
    | some x'=>some ((s.chg q.nb true .gone).chg q.id true (.arr q.e q.cs true x'))
    | none=>none
   else none
  else none
 | _=>none
def callV (C:Ctl A M) (f:Callee A M) (d:Nat) (args:List (TV A)) (s:St A) (k:TV A→St A→M):M:=
 bif callOkB f then
 bif f.look then
  match splitA (mkId d 0 0+2047) f.args args s with
  | some (args',s',q)=>callL C f d args' s' fun v s2=>mapFail C (mergeA q s2) fun s3=>k v s3
  | none=>callL C f d args s k
 else
  bif Nat.ble (mkId d 0 0+widthS f.rets) cellB && apart (mkId d 0 0) (widthS f.rets) (allBl f.args args) then
  mapFail C (takeAll f.args args s) fun r =>
  mapFail C (toKTs _ r.1) fun x =>
  f.run x fun y =>
   let n:=(f.rets.map Sh.ks).flatten.length
   mapFail C (backB (allB f.args) (allBl f.args args) ((ofKTs _ y).drop n) r.2) fun s2 =>
   let q:=layAll (mkId d 0 0) f.rets ((ofKTs _ y).take n) s2
   k (TV.ofRes q.1) q.2
  else C.fail
 else C.fail
def stepC (E : Env) (C : Ctl A M) (Φ : FKey → Option (Callee A M)) (o : Oper) (s : St A) (k : St A → M) : M :=
  let d := o.dst.getD 0
  let put (v : TV A) (s : St A) : M := k (s.setO o.dst v)
  match o.op with
  | .move x | .assign x => put (ev E s o.type x) s
  | .pick c a b => mapFail C (bool? (ev E s 4 c)) fun c => C.cond c (put (ev E s o.type a) s) (put (ev E s o.type b) s)
  | .alloc t => mapFail C (E.ti t) fun i =>
      let s1 := s.new (mkId d 0 0) (.blk (zeroLfs A i.cs)); put (.one (.ptr (mkId d 0 0) (s1.ob (mkId d 0 0)).g 0)) s1
  | .box t x => mapFail C (E.ti t) fun i => mapFail C (cells? s (ev E s t x)) fun v =>
      bif Nat.beq v.length i.cs.len then
        bif E.ro d then mapFail C (packs false i.cs v s) fun r => put (.one (.iptr i.cs r.1 0)) r.2
        else let s1 := s.new (mkId d 0 0) (.blk v); put (.one (.ptr (mkId d 0 0) (s1.ob (mkId d 0 0)).g 0)) s1
      else C.fail
  | .build t parts => mapFail C (E.ti t) fun i =>
      bif i.agg then mapFail C (fillCells i.flds E s parts.toList (zeroLfs A i.cs)) fun cs => put (.agg cs) s else C.fail
  | .buildSlice t n parts => mapFail C (E.slOf t) fun r =>
      bif Nat.beq parts.toList.length n && isRange 0 (parts.toList.map (·.1)) && decide (n * r.2.len ≤ 16777216) then
      bif E.deep d then
        mapFail C (litRows E s r.2.len (parts.toList.map (·.2))) fun lss =>
        mapFail C (takes (lss.map fun _ => r.2.kd).flatten lss.flatten s) fun q =>
        mapFail C (litD r.1 r.2 n q.1 (A.nilV r.1 r.2)) fun x =>
          let s1 := q.2.new (mkId d 0 0) (.arr r.1 r.2 true x); put (.one (.ref (mkId d 0 0) (s1.ob (mkId d 0 0)).g 0 [])) s1
      else
      mapFail C (litRow E s r.1 r.2 (parts.toList.map (·.2)) (A.nilV r.1 r.2) s) fun q =>
        let s1 := q.2.new (mkId d 0 0) (.arr r.1 r.2 false q.1); put (.one (.ref (mkId d 0 0) (s1.ob (mkId d 0 0)).g 0 [])) s1
      else C.fail
  | .load t p => mapFail C (E.ti t) fun i =>
      match ev E s 0 p with
      | .one l => mapFail C (loadV s i.agg i.cs.len l) fun v => put v s
      | _ => C.fail
  | .store t p v => mapFail C (E.ti t) fun i => mapFail C (cells? s (ev E s t v)) fun v =>
      bif Nat.beq v.length i.cs.len then
        match ev E s 0 p with
        | .one l => mapFail C (storeV s l v) fun s1 => put .undef s1
        | _ => C.fail
      else C.fail
  | .nilCheck x => match ev E s 0 x with
      | .one (.ptr id g off) => mapFail C (blkOf s id g) fun _ => put (.one (.ptr id g off)) s
      | .one (.eptr id g h p j off) => mapFail C (s.cont id g h p) fun c => bif Nat.beq c.md 0 then C.fail else put (.one (.eptr id g h p j off)) s
      | .one (.iptr cs y off) => put (.one (.iptr cs y off)) s
      | _ => C.fail
  | .binOp op t x y _ =>
      match nilTest E s op t x y with
      | some l => put (.one l) s
      | none =>
      match ev E s t x, ev E s t y with
      | .one x, .one y => binV C (isBoolTy E t) op x y fun l => put (.one l) s
      | .agg xs, .agg ys => mapFail C (E.ti t) fun i => mapFail C (bif E.eqT t then eqCells i.cs xs ys else none) fun b =>
          match op with
          | .eql => put (.one (.val .bool b)) s
          | .neq => put (.one (.val .bool (A.notB b))) s
          | _ => C.fail
      | _, _ => C.fail
  | .unOp op t x =>
      match op, ev E s t x with
      | .not, .one (.val .bool b) => put (.one (.val .bool (A.notB b))) s
      | .neg, .one (.val (.int k) x) => put (.one (.val (.int k) (A.neg k x))) s
      | _, _ => C.fail
  | .convert src dst x => mapFail C (E.ti src) fun _ => mapFail C (E.ti dst) fun i =>
      bif i.agg then C.fail else
      match i.cs, ev E s src x with
      | .cons (.int j) .nil, .one (.val (.int k) x) => put (.one (.val (.int j) (A.conv k j x))) s
      | _, _ => C.fail
  | .makeFunc (.func f) first captured =>
      bif Nat.beq first.size 0 then
        mapFail C (captured.toList.mapM fun c => capOf (ev E s 0 c)) fun cc => put (.one (.fn f cc)) s
      else C.fail
  | .makeMap t r => mapFail C (E.mp t) fun k =>
      bif r.isNone then
        let s1 := s.new (mkId d 0 0) (.mp k (A.nilV 0 (Tys.mp k))); put (.one (.mref (mkId d 0 0) (s1.ob (mkId d 0 0)).g)) s1
      else C.fail
  | .lookup t m x ok => mapFail C (E.mp t) fun k =>
      bif ok then C.fail else
      match ev E s t m, ev E s 0 x with
      | .one (.mref id g), .one (.val u x) => mapFail C (mpOf s id g) fun q =>
        bif decide (q.1 = k) then if h : Ty.beq u (.int q.1) = true then put (.one (.val .bool (A.mget q.1 q.2 (A.cast h x)))) s else C.fail else C.fail
      | _, _ => C.fail
  | .mapUpdate t m x v => mapFail C (E.mp t) fun k =>
      match ev E s t m, ev E s 0 x, bool? (ev E s 4 v) with
      | .one (.mref id g), .one (.val u x), some v => mapFail C (mpOf s id g) fun q =>
        bif decide (q.1 = k) then if h : Ty.beq u (.int q.1) = true then put .undef (s.chg id true (.mp q.1 (A.mput q.1 q.2 (A.cast h x) v))) else C.fail else C.fail
      | _, _, _ => C.fail
  | .makeSlice t n c => mapFail C (E.slOf t) fun r =>
      mapFail C (int? (ev E s 3 n)) fun n' =>
      bif sameOpd n c then
        C.cond (A.repOk n') (let s1 := s.new (mkId d 0 0) (.arr r.1 r.2 (E.deep d) (A.rep r.1 n' (zeroVs A r.2))); put (.one (.ref (mkId d 0 0) (s1.ob (mkId d 0 0)).g 0 [])) s1) C.fail
      else C.fail
  | .slice t x lo hi mx => sliceV E C d t s (ev E s t x) lo hi mx put
  | .fieldAddr t x f => mapFail C (E.ti t) fun i => mapFail C (i.flds[f]?) fun q =>
      bif !i.agg then C.fail else
      match ev E s 0 x with
      | .one (.ptr id g off) => mapFail C (blkOf s id g) fun _ => put (.one (.ptr id g (off + q.1))) s
      | .one (.eptr id g h p j off) => mapFail C (s.cont id g h p) fun c => bif Nat.beq c.md 0 then C.fail else put (.one (.eptr id g h p j (off + q.1))) s
      | .one (.iptr cs y off) => put (.one (.iptr cs y (off + q.1))) s
      | _ => C.fail
  | .field t x f => mapFail C (E.ti t) fun i => mapFail C (i.flds[f]?) fun q =>
      bif !i.agg then C.fail else
      match ev E s t x with
      | .agg ls => bif Nat.ble (q.1 + q.2.1) ls.length then put (TV.mk q.2.2 ((ls.drop q.1).take q.2.1)) s else C.fail
      | _ => C.fail
  | .indexAddr t x i =>
      mapFail C (int? (ev E s 3 i)) fun i => mapFail C (E.slOf t) fun q =>
      match ev E s t x with
      | .one (.val (.sl _ cs) x) => bif Tys.beq q.2 cs then C.cond (A.inR x i) (put (.one (.iptr cs (A.get x i) 0)) s) C.fail else C.fail
      | .one (.ref id g h p) => mapFail C (s.cont id g h p) fun c => bif Tys.beq q.2 c.cs then C.cond (A.inR c.x i)
          (bif Nat.beq c.md 0 then put (.one (.iptr c.cs (A.get c.x i) 0)) s
            else put (.one (.eptr id g h p i 0)) s) C.fail else C.fail
      | _ => C.fail
  | .index t x i =>
      bif isStrTy E t then
      mapFail C (intk? (ev E s 3 i)) fun i => mapFail C (str? (ev E s t x)) fun x =>
        C.cond (A.sin i.1 x i.2) (put (.one (.val (.int .u8) (A.sidx i.1 x i.2))) s) C.fail
      else C.fail
  | .extract t i =>
      match ev E s 0 t with
      | .tup cs => mapFail C (cs[i]?) fun c => put (TV.mk c.1 c.2) s
      | _ => C.fail
  | .call c => bif Nat.beq c.args.size c.argTypes.size then
      let args := (c.args.toList.zip c.argTypes.toList).map fun p => ev E s p.2 p.1
      match c.callee with
      | .builtin b => builtinV E C d b c.argTypes.toList args s put
      | .value f => match ev E s 0 f with
        | .one (.fn f cc) => mapFail C (Φ (f, fnIds args)) fun g => callV C g d (args ++ cc.map Cap.tv) s put
        | _ => C.fail
      | _ => C.fail
      else C.fail
  | _ => C.fail
def okDst (E:Env):Option Nat→Bool
 | none=>true
 | some d=>Nat.ble (d+1) E.nt
def opsC (E : Env) (C : Ctl A M) (Φ : FKey → Option (Callee A M)) (ops : Array Oper) : List Oper → St A → (St A → M) → M
  | [], s, k => k s
  | o :: r, s, k =>
    bif okDst E o.dst then
    match o.guard with
    | none => stepC E C Φ o s fun s1 => opsC E C Φ ops r s1 k
    | some (j, want) =>
      match (ops[j]?).bind (·.dst) with
      | none => C.fail
      | some t =>
        match s.sl t with
        | .one (.val .bool b) =>
          let yes (s : St A) : M := stepC E C Φ o s fun s1 => opsC E C Φ ops r s1 k
          let no (s : St A) : M := opsC E C Φ ops r (s.setO o.dst .undef) k
          C.cond b
            (let s1 := s.set t (.one (.val .bool (A.litB true))); bif want then yes s1 else no s1)
            (let s1 := s.set t (.one (.val .bool (A.litB false))); bif want then no s1 else yes s1)
        | .one .undef => opsC E C Φ ops r (s.setO o.dst .undef) k
        | _ => C.fail
    else C.fail
def opds : Op → List Operand
  | .move x | .assign x | .box _ x | .load _ x | .nilCheck x | .unOp _ _ x | .convert _ _ x | .fieldAddr _ x _ | .field _ x _ | .extract x _ => [x]
  | .pick c a b => [c, a, b]
  | .build _ ps | .buildSlice _ _ ps => ps.toList.map (·.2)
  | .store _ a v | .binOp _ _ a v _ | .makeSlice _ a v | .indexAddr _ a v | .index _ a v => [a, v]
  | .makeFunc _ _ captured => captured.toList
  | .lookup _ m x _ => [m, x]
  | .mapUpdate _ m x v => [m, x, v]
  | .slice _ x l h m => x :: (l.toList ++ (h.toList ++ m.toList))
  | .call c => (match c.callee with | .value f => [f] | _ => []) ++ c.args.toList
  | _ => []
def Cap.rids:Cap A→List Nat
 | .ptr id _=>[id]
 | .ro _ _=>[]
def Lf.rids:Lf A→List Nat
 | .ref id _ _ _ | .ptr id _ _ | .eptr id _ _ _ _ _ | .mref id _=>[id]
 | .fn _ caps=>caps.flatMap Cap.rids
 | _=>[]
def TV.lfs : TV A → List (Lf A)
  | .one l => [l]
  | .agg ls => ls
  | .tup cs => cs.flatMap (·.2)
def TV.rids (v:TV A):List Nat:=v.lfs.flatMap Lf.rids
def reach (s:St A) (id:Nat):List Nat:=id::(match (s.ob id).o with | .blk ls=>ls.flatMap Lf.rids | _=>[])
def opdRids (s:St A):Operand→List Nat
 | .tmp t=>(s.sl t).rids
 | _=>[]
def isCopy:Op→Bool
 | .move _ | .assign _ | .pick .. | .extract .. | .field .. | .makeFunc ..=>true
 | _=>false
def touchL (s:St A) (o:Oper):List Nat:=bif isCopy o.op then [] else (opds o.op).flatMap fun x=>(opdRids s x).flatMap (reach s)
def makes:Op→Bool
 | .alloc _ | .box _ _ | .buildSlice .. | .makeSlice .. | .makeMap .. | .slice ..=>true
 | .call c=>match c.callee with
  | .builtin b=>(match b with | .len | .min | .max=>false | _=>true)
  | _=>true
 | _=>false
def inPriv (o:Oper) (id:Nat):Bool:=
 makes o.op && (Nat.ble (mkId (o.dst.getD 0) 0 0) id && Nat.ble (id+1) (mkId (o.dst.getD 0) 0 0+2048))
def Cap.isPtr:Cap A→Bool
 | .ptr ..=>true
 | .ro ..=>false
def wild (s:St A) (o:Oper):Bool:=
 match o.op with
 | .call c=>(c.args.toList.any fun x=>match x with
  | .tmp t=>(match s.sl t with | .one (.ptr ..)=>true | .one (.fn _ cc)=>cc.any Cap.isPtr | _=>false)
  | _=>false) || (match c.callee with
  | .value (.tmp t)=>(match s.sl t with | .one (.fn _ cc)=>cc.any Cap.isPtr | _=>false)
  | _=>false)
 | _=>false
def preOf (acc:List Nat):List Edge→Nat
 | []=>0
 | e::es=>bif Region.binds .any e then Nat.lor (Nat.lor (acc.getD e.on 0) (Nat.shiftLeft 1 e.on)) (preOf acc es) else preOf acc es
def presL:List Oper→List Nat→List Nat
 | [],acc=>acc
 | o::r,acc=>presL r (acc++[preOf acc o.after.toList])
def hasBit (P:List Nat) (i j:Nat):Bool:=Nat.testBit (P.getD i 0) j
def isDst (t:Nat):Option Nat→Bool
 | some d=>Nat.beq d t
 | none=>false
def gOf (ops : Array Oper) (o : Oper) : Option Nat :=
  match o.guard with
  | some (j, _) => (ops[j]?).bind (·.dst)
  | none => none
def readsOf (ops:Array Oper) (o:Oper):List Nat:=(gOf ops o).toList++(opds o.op).filterMap fun | .tmp t=>some t | _=>none
def wrote (P:List Nat) (i t:Nat):Nat→List Oper→Bool
 | _,[]=>true
 | j,o::r=>(!isDst t o.dst || (hasBit P i j || hasBit P j i)) && wrote P i t (j+1) r
def alone (i:Nat) (d:Option Nat):Nat→List Oper→Bool
 | _,[]=>true
 | j,o::r=>(Nat.beq i j || (match d with | some t=>!isDst t o.dst | none=>true)) && alone i d (j+1) r
def statGo (P:List Nat) (ops:Array Oper):Nat→List Oper→Bool
 | _,[]=>true
 | i,o::r =>
  (o.after.toList.all fun e=>!Region.binds .any e || Nat.ble (e.on+1) i) && ((readsOf ops o).all fun t=>wrote P i t 0 ops.toList) && alone i o.dst 0 ops.toList && (!makes o.op || o.dst.isSome) && statGo P ops (i+1) r
structure DRec (A:Alg) where
 i:Nat
 o:Oper
 s:St A
 s':St A
def sameVer (s s':St A) (id:Nat):Bool:=Nat.beq (s.ob id).g (s'.ob id).g && Nat.beq (s.ob id).h (s'.ob id).h
def sepOk (a b:DRec A):Bool:=
 ((touchL a.s a.o).all fun id=>sameVer b.s b.s' id && (!inPriv b.o id && (!wild b.s b.o || Nat.ble (id+1) cellB))) && Nat.ble (mkId (a.o.dst.getD 0) 0 0+2048) cellB
def chkRecs (P:List Nat) (rs:List (DRec A)):Bool:=
 rs.all fun a=>rs.all fun b=>Nat.beq a.i b.i || (hasBit P a.i b.i || (hasBit P b.i a.i || (!(wild a.s a.o && wild b.s b.o) && (sepOk a b && sepOk b a))))
def drawC (E : Env) (C : Ctl A M) (Φ : FKey → Option (Callee A M)) (ops : Array Oper) (P : List Nat) : Nat → List Oper → List (DRec A) → St A → (St A → M) → M
  | _, [], rs, s, k => bif chkRecs P rs then k s else C.fail
  | i, o :: r, rs, s, k =>
    bif okDst E o.dst then
    match o.guard with
    | none => stepC E C Φ o s fun s1 => drawC E C Φ ops P (i + 1) r (⟨i, o, s, s1⟩ :: rs) s1 k
    | some (j, want) =>
      match (ops[j]?).bind (·.dst) with
      | none => C.fail
      | some t =>
        match s.sl t with
        | .one (.val .bool b) =>
          let yes (s : St A) : M := stepC E C Φ o s fun s1 => drawC E C Φ ops P (i + 1) r (⟨i, o, s, s1⟩ :: rs) s1 k
          let no (s : St A) : M := drawC E C Φ ops P (i + 1) r rs (s.setO o.dst .undef) k
          C.cond b
            (let s1 := s.set t (.one (.val .bool (A.litB true))); bif want then yes s1 else no s1)
            (let s1 := s.set t (.one (.val .bool (A.litB false))); bif want then no s1 else yes s1)
        | .one .undef => drawC E C Φ ops P (i + 1) r rs (s.setO o.dst .undef) k
        | _ => C.fail
    else C.fail
def regionD (E:Env) (C:Ctl A M) (Φ:FKey→Option (Callee A M)) (ops:Array Oper) (s:St A) (k:St A→M):M:=
 bif statGo (presL ops.toList []) ops 0 ops.toList then drawC E C Φ ops (presL ops.toList []) 0 ops.toList [] s k else C.fail
def freeOf (ds:List Nat):Code→Bool
 | .skip | .exit _ | .ret=>true
 | .region _ ops _=>ops.toList.all fun o=>match o.dst with | none=>true | some d=>!ds.any (Nat.beq d)
 | .seq a b | .cond _ a b=>freeOf ds a && freeOf ds b
 | .block _ b | .loop b=>freeOf ds b
 | _=>false
def exec (E : Env) (C : Ctl A M) (Φ : FKey → Option (Callee A M)) (L : Nat → Option (LoopO A M)) : Nat → Code → St A → (Ex → St A → M) → M
  | _, .skip, s, k => k .normal s
  | _, .region _ ops d, s, k => bif d then regionD E C Φ ops s (k .normal) else opsC E C Φ ops ops.toList s (k .normal)
  | n, .seq a b, s, k => exec E C Φ L n a s fun e s1 => match e with
    | .normal => exec E C Φ L n b s1 k
    | e => k e s1
  | n, .cond c a b, s, k => match ev E s 4 c with
    | .one (.tst x y) => C.cond x (bif y then exec E C Φ L n a s k else exec E C Φ L n b s k) (C.both (exec E C Φ L n a s k) (exec E C Φ L n b s k))
    | v => mapFail C (bool? v) fun c => C.cond c (exec E C Φ L n a s k) (exec E C Φ L n b s k)
  | _, .block i b, s, k => exec E C Φ L i b s fun e s1 => match e with
    | .exit j => bif Nat.beq j i then k .normal s1 else k (.exit j) s1
    | e => k e s1
  | n, .loop c, s, k => mapFail C (L n) fun l =>
    bif l.keep.all (fun p => p.2.light) && freeOf (l.keep.map (·.1)) c then
      mapFail C (takeT l.keep s) fun kx => mapFail C (takeT l.tmpl kx.2) fun x =>
      l.run kx.1 x.1 fun e t y => k e (layT t y (layT _ kx.1 St.start))
    else C.fail
  | _, .exit i, s, k => k (.exit i) s
  | _, .ret, s, k => k .ret s
  | _, _, _, _ => C.fail
end Go.R
namespace Go.R
mutual
def Ty.T:Ty→Type
 | .int _=>Int
 | .bool=>Bool
 | .str=>ByteArray
 | .sl _ cs=>List cs.T
def Tys.T:Tys→Type
 | .nil=>Unit
 | .cons t ts=>match ts with
  | .nil=>t.T
  | .cons _ _=>t.T×ts.T
end
def hdT:{t:Ty}→{ts:Tys}→(Tys.cons t ts).T→t.T
 | _,.nil,x=>x
 | _,.cons _ _,x=>x.1
def tlT:{t:Ty}→{ts:Tys}→(Tys.cons t ts).T→ts.T
 | _,.nil,_=>()
 | _,.cons _ _,x=>x.2
def cnT:{t:Ty}→{ts:Tys}→t.T→ts.T→(Tys.cons t ts).T
 | _,.nil,x,_=>x
 | _,.cons _ _,x,y=>(x,y)
theorem hd_cn {t:Ty} {ts:Tys} (x:t.T) (y:ts.T):hdT (cnT x y)=x:=by cases ts <;> rfl
theorem tl_cn {t:Ty} {ts:Tys} (x:t.T) (y:ts.T):tlT (cnT x y)=y:=by cases ts <;> rfl
theorem cn_eta {t:Ty} {ts:Tys} (x:(Tys.cons t ts).T):cnT (hdT x) (tlT x)=x:=by cases ts <;> rfl
mutual
def zT:(t:Ty)→t.T
 | .int _=>(0:Int)
 | .bool=>false
 | .str=>ByteArray.empty
 | .sl _ _=>[]
def zTs:(cs:Tys)→cs.T
 | .nil=>()
 | .cons t ts=>cnT (zT t) (zTs ts)
end
def rArith (op:BinOp) (k:IntKind) (x y:Int):Int:=
 match op with
 | .add=>k.wrap (x+y)
 | .sub=>k.wrap (x - y)
 | .mul=>k.wrap (x*y)
 | .quo=>k.wrap (x.tdiv y)
 | .rem=>x.tmod y
 | .and=>k.wrap (BitVec.ofInt k.bits x &&& BitVec.ofInt k.bits y).toNat
 | .or=>k.wrap (BitVec.ofInt k.bits x ||| BitVec.ofInt k.bits y).toNat
 | .xor=>k.wrap (BitVec.ofInt k.bits x ^^^ BitVec.ofInt k.bits y).toNat
 | .andNot=>k.wrap (BitVec.ofInt k.bits x &&& ~~~BitVec.ofInt k.bits y).toNat
 | _=>0
def rShift (op:BinOp) (k:IntKind) (x y:Int):Int:=
 match op with
 | .shl=>k.wrap (x*2 ^ (min y.toNat k.bits))
 | _=>x.fdiv (2 ^ (min y.toNat k.bits))
def rCmp (op:BinOp) (x y:Int):Bool:=
 match op with
 | .eql=>x == y
 | .neq=>x != y
 | .lss=>decide (x < y)
 | .leq=>decide (x≤y)
 | .gtr=>decide (x > y)
 | .geq=>decide (x ≥ y)
 | _=>false
def rScmp (op:BinOp) (x y:ByteArray):Bool:=
 match op with
 | .eql=>x.toList == y.toList
 | .neq=>!(x.toList == y.toList)
 | .lss=>Op.bytesLess x.toList y.toList
 | .leq=>Op.bytesLess x.toList y.toList || x.toList == y.toList
 | .gtr=>!(Op.bytesLess x.toList y.toList || x.toList == y.toList)
 | .geq=>!Op.bytesLess x.toList y.toList
 | _=>false
def sbyte (s:ByteArray) (i:Int):Int:=if h:i.toNat < s.size then ((s[i.toNat]'h).toNat:Int) else 0
def rIsZero (x:Int):Bool:=decide (x=0)
def rIsNeg (x:Int):Bool:=decide (x < 0)
def rBeq (x y:Bool):Bool:=x == y
def rNeg (k:IntKind) (x:Int):Int:=k.wrap (0 - x)
def rConv (j:IntKind) (x:Int):Int:=j.wrap x
def rMxmn (b:Bool) (x y:Int):Int:=bif b then (if y > x then y else x) else (if y < x then y else x)
def rSfits (x y:ByteArray):Bool:=decide (((x.size+y.size:Nat):Int)≤1073741824)
def rSin (x:ByteArray) (i:Int):Bool:=decide (0≤i) && decide (i < (x.size:Int))
def rLen {α:Type} (x:List α):Int:=(x.length:Int)
def rSmall {α:Type} (x:List α):Bool:=decide ((x.length:Int)≤limit)
def rInR {α:Type} (x:List α) (i:Int):Bool:=decide (0≤i) && decide (i < (x.length:Int))
def rGet {α:Type} (z:α) (x:List α) (i:Int):α:=x.getD i.toNat z
def rPut {α:Type} (x:List α) (i:Int) (y:α):List α:=x.set i.toNat y
def rSub {α:Type} (x:List α) (l h:Int):List α:=(x.drop l.toNat).take (h.toNat - l.toNat)
def rSubOk {α:Type} (x:List α) (l h:Int):Bool:=decide (0≤l) && (decide (l≤h) && decide (h≤(x.length:Int)))
def rRep {α:Type} (n:Int) (y:α):List α:=List.replicate n.toNat y
def rRepOk (n:Int):Bool:=decide (0≤n) && decide (n≤limit)
def rMget:List (Int×Bool)→Int→Bool
 | [],_=>false
 | y::r,k=>bif k == y.1 then y.2 else rMget r k
def rMput:List (Int×Bool)→Int→Bool→List (Int×Bool)
 | [],k,v=>[(k,v)]
 | y::r,k,v=>bif k == y.1 then (k,v)::r else y::rMput r k v
def real:Alg where
 V:=Ty.T
 Vs:=Tys.T
 litI _ n:=n
 litB b:=b
 litS s:=s
 arith op k x y:=rArith op k x y
 shift op k _ x y:=rShift op k x y
 isZero _ x:=rIsZero x
 isNeg _ x:=rIsNeg x
 cmp op _ x y:=rCmp op x y
 beqB x y:=rBeq x y
 notB x:=Bool.not x
 andB x y:=Bool.and x y
 neg k x:=rNeg k x
 conv _ j x:=rConv j x
 mxmn b _ x y:=rMxmn b x y
 scmp op x y:=rScmp op x y
 scat x y:=ByteArray.append x y
 sfits x y:=rSfits x y
 slen x:=(ByteArray.size x:Int)
 sin _ x i:=rSin x i
 sidx _ x i:=sbyte x i
 nilV _ _:=[]
 len x:=rLen x
 small x:=rSmall x
 inR x i:=rInR x i
 get {_ cs} x i:=rGet (zTs cs) x i
 put x i y:=rPut x i y
 push x y:=List.append x [y]
 cat x y:=List.append x y
 sub x l h:=rSub x l h
 subOk x l h:=rSubOk x l h
 rep _ _ n y:=rRep n y
 repOk n:=rRepOk n
 mget _ x i:=rMget x i
 mput _ x i v:=rMput x i v
 nl:=()
 cn x y:=cnT x y
 hd x:=hdT x
 tl x:=tlT x
noncomputable def both {R:Type} (x y:Option R):Option R:=by classical exact if x=y then x else none
theorem both_some {R:Type} {x y:Option R} {r:R} (h:both x y=some r):x=some r∧y=some r:=by
 unfold both at h
 split at h
 ·rename_i e;exact ⟨h,e ▸ h⟩
 ·cases h
theorem both_self {R:Type} (x:Option R):both x x=x:=by simp [both]
noncomputable def realC (R:Type):Ctl real (Option R) where
 cond b x y:=bif b then x else y
 both x y:=Go.R.both x y
 fail:=none
abbrev Key:=Nat×List (Nat×Nat)
abbrev Own:=Nat→Option Key
inductive Md where
 | imm
 | flat (k:Key)
 | deep (k:Key)
def Md.inner:Md→Nat→Nat→Md
 | .deep k,i,j=>.deep (k.1,k.2++[(i,j)])
 | _,_,_=>.imm
def Md.has:Md→Key→Prop
 | .imm,_=>False
 | .flat k,k'=>k'=k
 | .deep k,k'=>k'.1=k.1∧k.2 <+: k'.2
theorem Md.has_inner {md:Md} {i j:Nat} {k:Key} (h:(md.inner i j).has k):md.has k:=by
 cases md with
 | imm=>exact h
 | flat _=>exact h.elim
 | deep k'=>exact ⟨h.1,(List.prefix_append _ _).trans h.2⟩
def Hd (w:World) (ω:Own) (e:Nat) (sz:Nat) (md:Md) (a:Option Addr) (n c:Nat):Prop:=
 match md with
 | .imm=>0 < n→∃ b off,a=some ⟨b,off,none⟩∧ω b=none∧b < w.heap.size
 | .flat k | .deep k=>(c=0∧n=0)∨∃ b arr,a=some ⟨b,0,none⟩∧w.heap[b]? = some (.cells arr e (0,0))∧arr.size=c*sz∧ω b=some k
mutual
def Ty.R (w:World) (ω:Own):(t:Ty)→Md→Value→t.T→Prop
 | .int k,_,v,x=>v=.int k x
 | .bool,_,v,x=>v=.bool x
 | .str,_,v,x=>v=.string x
 | .sl e cs,md,v,x=>∃ a n c,v=.slice a n c∧List.length x=n∧n≤c∧Hd w ω e cs.len md a n c ∧
   ∀ (i:Nat) (ad:Addr),i < n→a=some ad→Tys.R w ω cs (md.inner i) (fun j=>w.cell? ⟨ad.block,ad.off+i*cs.len+j,none⟩) 0 (List.getD x i (zTs cs))
def Tys.R (w:World) (ω:Own):(cs:Tys)→(Nat→Md)→(Nat→Option Value)→Nat→cs.T→Prop
 | .nil,_,_,_,_=>True
 | .cons t ts,md,get,j,x=>(∃ v,get j=some v∧t.R w ω (md j) v (hdT x))∧Tys.R w ω ts md get (j+1) (tlT x)
end
theorem heap_lt_of_some {w:World} {b:Nat} {o:Obj} (h:w.heap[b]? = some o):b < w.heap.size:=(Array.getElem?_eq_some_iff.1 h).1
theorem cell_of_heap {w w':World} {a:Addr} (h:w'.heap[a.block]? = w.heap[a.block]?):w'.cell? a=w.cell? a:=by
 unfold World.cell?;rw [h]
def Keeps (w:World) (ω:Own) (w':World) (ω':Own) (md:Md):Prop:=
 ∀ b,b < w.heap.size→(ω b=none∨∃ k,ω b=some k∧md.has k)→w'.heap[b]? = w.heap[b]? ∧ ω' b=ω b
theorem Keeps.inner {w w':World} {ω ω':Own} {md:Md} (h:Keeps w ω w' ω' md) (i j:Nat):Keeps w ω w' ω' (md.inner i j):=
 fun b hb hk=>h b hb (hk.imp id fun ⟨k,h1,h2⟩=>⟨k,h1,Md.has_inner h2⟩)
theorem Hd.frame {w w':World} {ω ω':Own} {e sz:Nat} {md:Md} {a:Option Addr} {n c:Nat} (hs:w.heap.size≤w'.heap.size) (H:Keeps w ω w' ω' md) (h:Hd w ω e sz md a n c):Hd w' ω' e sz md a n c:=by
 cases md with
 | imm =>
  intro hn
  obtain ⟨b,off,h1,h2,h3⟩:=h hn
  exact ⟨b,off,h1,(H b h3 (.inl h2)).2.trans h2,Nat.lt_of_lt_of_le h3 hs⟩
 | flat k =>
  rcases h with h | ⟨b,arr,h1,h2,h3,h4⟩
  ·exact .inl h
  ·have:=H b (heap_lt_of_some h2) (.inr ⟨k,h4,rfl⟩)
   exact .inr ⟨b,arr,h1,this.1.trans h2,h3,this.2.trans h4⟩
 | deep k =>
  rcases h with h | ⟨b,arr,h1,h2,h3,h4⟩
  ·exact .inl h
  ·have:=H b (heap_lt_of_some h2) (.inr ⟨k,h4,rfl,List.prefix_refl _⟩)
   exact .inr ⟨b,arr,h1,this.1.trans h2,h3,this.2.trans h4⟩
theorem Hd.block {w:World} {ω:Own} {e sz:Nat} {md:Md} {a:Option Addr} {n c:Nat} (h:Hd w ω e sz md a n c) (hn:0 < n) :
  ∃ b off,a=some ⟨b,off,none⟩∧b < w.heap.size∧(ω b=none∨∃ k,ω b=some k∧md.has k):=by
 cases md with
 | imm =>
  obtain ⟨b,off,h1,h2,h3⟩:=h hn
  exact ⟨b,off,h1,h3,.inl h2⟩
 | flat k =>
  rcases h with h | ⟨b,arr,h1,h2,h3,h4⟩
  ·omega
  ·exact ⟨b,0,h1,heap_lt_of_some h2,.inr ⟨k,h4,rfl⟩⟩
 | deep k =>
  rcases h with h | ⟨b,arr,h1,h2,h3,h4⟩
  ·omega
  ·exact ⟨b,0,h1,heap_lt_of_some h2,.inr ⟨k,h4,rfl,List.prefix_refl _⟩⟩
mutual
theorem Ty.R_frame {w w':World} {ω ω':Own} (hs:w.heap.size≤w'.heap.size):∀ (t:Ty) (md:Md) (v:Value) (x:t.T),Keeps w ω w' ω' md→t.R w ω md v x→t.R w' ω' md v x
 | .int _,_,_,_,_,h=>h
 | .bool,_,_,_,_,h=>h
 | .str,_,_,_,_,h=>h
 | .sl e cs,md,v,x,H,h=>by
  obtain ⟨a,n,c,h1,h2,h3,h4,h5⟩:=h
  refine ⟨a,n,c,h1,h2,h3,h4.frame hs H,fun i ad hi ha=>?_⟩
  obtain ⟨b,off,e1,e2,e3⟩:=h4.block (by omega)
  have hb:ad.block=b:=by rw [e1] at ha;injection ha with ha;rw [←ha]
  exact Tys.R_frame hs cs _ _ _ 0 _ (fun j=>H.inner i j) (fun j=>by
   have:=(H b e2 e3).1
   exact cell_of_heap (a:=⟨ad.block,_,none⟩) (by simpa [hb] using this)) (h5 i ad hi ha)
theorem Tys.R_frame {w w':World} {ω ω':Own} (hs:w.heap.size≤w'.heap.size):∀ (cs:Tys) (md:Nat→Md) (g g':Nat→Option Value) (j:Nat) (x:cs.T),(∀ j,Keeps w ω w' ω' (md j))→(∀ j,g' j=g j)→cs.R w ω md g j x→cs.R w' ω' md g' j x
 | .nil,_,_,_,_,_,_,_,_=>trivial
 | .cons t ts,md,g,g',j,x,H,hg,h=>by
  obtain ⟨⟨v,h1,h2⟩,h3⟩:=h
  exact ⟨⟨v,(hg j).trans h1,Ty.R_frame hs t (md j) v _ (H j) h2⟩,Tys.R_frame hs ts md g g' (j+1) _ H hg h3⟩
end
end Go.R
namespace Go.R
def All2 {α β:Type} (r:α→β→Prop):List α→List β→Prop
 | [],[]=>True
 | a::as,b::bs=>r a b∧All2 r as bs
 | _,_=>False
theorem All2.length {α β:Type} {r:α→β→Prop}:∀ {as:List α} {bs:List β},All2 r as bs→as.length=bs.length
 | [],[],_=>rfl
 | _::_,_::_,h=>by simp [All2.length h.2]
 | [],_::_,h=>h.elim
 | _::_,[],h=>h.elim
theorem All2.mono {α β:Type} {r r':α→β→Prop} (hr:∀ a b,r a b→r' a b):∀ {as:List α} {bs:List β},All2 r as bs→All2 r' as bs
 | [],[],_=>trivial
 | _::_,_::_,h=>⟨hr _ _ h.1,All2.mono hr h.2⟩
 | [],_::_,h=>h.elim
 | _::_,[],h=>h.elim
theorem All2.get {α β:Type} {r:α→β→Prop}:∀ {as:List α} {bs:List β},All2 r as bs→∀ (i:Nat) (b:β),bs[i]? = some b→∃ a,as[i]? = some a∧r a b
 | [],[],_,i,b,hi=>by simp at hi
 | a::_,b::_,h,0,_,hi=>by simp at hi;subst hi;exact ⟨a,rfl,h.1⟩
 | _::_,_::_,h,i+1,b,hi=>by simpa using All2.get h.2 i b (by simpa using hi)
 | [],_::_,h,_,_,_=>h.elim
 | _::_,[],h,_,_,_=>h.elim
theorem All2.app {α β:Type} {r:α→β→Prop}:∀ {as:List α} {bs:List β} {cs:List α} {ds:List β},All2 r as bs→All2 r cs ds→All2 r (as++cs) (bs++ds)
 | [],[],_,_,_,h=>h
 | _::_,_::_,_,_,h,h'=>⟨h.1,All2.app h.2 h'⟩
 | [],_::_,_,_,h,_=>h.elim
 | _::_,[],_,_,h,_=>h.elim
theorem All2.take {α β:Type} {r:α→β→Prop}:∀ {as:List α} {bs:List β} (n:Nat),All2 r as bs→All2 r (as.take n) (bs.take n)
 | [],[],n,_=>by simp [All2]
 | _::_,_::_,0,_=>trivial
 | _::_,_::_,n+1,h=>⟨h.1,All2.take n h.2⟩
 | [],_::_,_,h=>h.elim
 | _::_,[],_,h=>h.elim
theorem All2.drop {α β:Type} {r:α→β→Prop}:∀ {as:List α} {bs:List β} (n:Nat),All2 r as bs→All2 r (as.drop n) (bs.drop n)
 | [],[],n,_=>by simp [All2]
 | _::_,_::_,0,h=>h
 | _::_,_::_,n+1,h=>All2.drop n h.2
 | [],_::_,_,h=>h.elim
 | _::_,[],_,h=>h.elim
theorem All2.mapr {α β γ:Type} {r:α→β→Prop} (f:γ→β):∀ {as:List α} {cs:List γ},All2 r as (cs.map f)↔All2 (fun a c=>r a (f c)) as cs
 | [],[]=>Iff.rfl
 | _::_,_::_=>and_congr Iff.rfl (All2.mapr f)
 | [],_::_=>Iff.rfl
 | _::_,[]=>Iff.rfl
abbrev L:=Lf real
abbrev S:=St real
abbrev TVr:=TV real
abbrev IV:=real.V (.int .i64)
def IV.i (x:IV):Int:=x
abbrev Pth:=List (IV×Nat)
def kpath (p:Pth):List (Nat×Nat):=p.map fun q=>(q.1.i.toNat,q.2)
def modeOf (md id:Nat) (p:Pth):Md:=
 match md with
 | 0=>.imm
 | 1=>.flat (id,[])
 | _=>.deep (id,kpath p)
def RIptr (w:World) (ω:Own) (v:Value) (cs:Tys) (x:cs.T) (off:Nat):Prop:=
 ∃ b o,ω b=none∧b < w.heap.size∧v=.pointer (some ⟨b,o+off,none⟩)∧cs.R w ω (fun _=>.imm) (fun j=>w.cell? ⟨b,o+j,none⟩) 0 x
def RPtr (ω:Own) (s:S) (v:Value) (id g off:Nat):Prop:=
 g≤(s.ob id).g∧((s.ob id).g=g→∀ cells,(s.ob id).o=.blk cells→∃ b,ω b=some (id,[])∧v=.pointer (some ⟨b,off,none⟩))
def RCap (w:World) (ω:Own) (s:S) (v:Value):Cap real→Prop
 | .ptr id g=>RPtr ω s v id g 0
 | .ro cs x=>RIptr w ω v cs x 0
def RMs (k:IntKind) (es:List MapEntry) (x:List (Int×Bool)):Prop:=All2 (fun (e:MapEntry) (y:Int×Bool)=>e.key=.int k y.1∧e.val=.bool y.2) es x
def RMref (w:World) (ω:Own) (s:S) (v:Value) (id g:Nat):Prop:=
 g≤(s.ob id).g∧((s.ob id).g=g→∀ k x,(s.ob id).o=.mp k x→∃ b es c,ω b=some (id,[])∧v=.map (some b)∧w.heap[b]? = some (.map es c)∧RMs k es.toList x)
def RLf (w:World) (ω:Own) (s:S) (v:Value):L→Prop
 | .val t x=>t.R w ω .imm v x
 | .nilS _ _=>∃ a,v=.slice a 0 0
 | .ref id g h p=>g≤(s.ob id).g∧h≤(s.ob id).h+(if g=(s.ob id).g then 0 else h) ∧
   ∀ c,s.cont id g h p=some c→(Ty.sl c.e c.cs).R w ω (modeOf c.md id p) v c.x
 | .ptr id g off=>RPtr ω s v id g off
 | .eptr id g h p i off=>g≤(s.ob id).g∧h≤(s.ob id).h+(if g=(s.ob id).g then 0 else h) ∧
   ∀ c,s.cont id g h p=some c→c.md≠0→0≤IV.i i∧IV.i i < (List.length c.x:Int)∧(∃ b,ω b=some (id,kpath p)∧v=.pointer (some ⟨b,(IV.i i).toNat*c.cs.len+off,none⟩)) ∧
   ∃ v',(Ty.sl c.e c.cs).R w ω (modeOf c.md id p) v' c.x
 | .iptr cs x off=>RIptr w ω v cs x off
 | .mref id g=>RMref w ω s v id g
 | .fn f caps=>∃ cv:List Value,v=.func (.func f) #[] cv.toArray∧All2 (fun v c=>RCap w ω s v c) cv caps
 | .tst x y=>∃ b:Bool,v=.bool b∧((x:Bool)=true→b=y)
 | .undef=>v=undef
 | .dead=>True
def RComp (w:World) (ω:Own) (s:S) (v:Value) (c:Bool×List L):Prop:=
 match c with
 | (true,ls)=>∃ us:List Value,v=.agg us.toArray∧All2 (RLf w ω s) us ls
 | (false,ls)=>∀ l,ls=[l]→RLf w ω s v l
def RTV (w:World) (ω:Own) (s:S) (v:Value):TVr→Prop
 | .one l=>RLf w ω s v l
 | .agg ls=>∃ us:List Value,v=.agg us.toArray∧All2 (RLf w ω s) us ls
 | .tup cs=>∃ us:List Value,v=.tuple us.toArray∧All2 (RComp w ω s) us cs
structure Rel (ω:Own) (a:Act) (w:World) (s:S):Prop where
 inj:∀ b b' k,ω b=some k→ω b'=some k→b=b'
 dom:∀ b k,ω b=some k→b < w.heap.size
 defers:a.defers=[]
 slots:∀ i,RTV w ω s (a.tmps.getD i undef) (s.sl i)
 own0:(s.ob 0).o=.gone
 blks:∀ id cells,(s.ob id).o=.blk cells→∃ b arr T,ω b=some (id,[])∧w.heap[b]? = some (.cells arr T (0,0))∧All2 (RLf w ω s) arr.toList cells
def Fixed (ω:Own) (b:Nat):Prop:=ω b=none∨∃ q,ω b=some (0,q)
theorem Fixed.ne {ω:Own} {b id:Nat} {q:List (Nat×Nat)} (h:Fixed ω b) (hb:ω b=some (id,q)) (h0:id≠0):False:=by
 rcases h with h | ⟨q',h⟩
 ·rw [hb] at h;cases h
 ·rw [hb] at h;injection h with h;injection h with h _;exact h0 h
structure Ext (ω:Own) (w:World) (ω':Own) (w':World):Prop where
 os:w'.os=w.os
 tape:w'.tape=w.tape
 output:w'.output=w.output
 size:w.heap.size≤w'.heap.size
 block:∀ b,b < w.heap.size→Fixed ω b→w'.heap[b]? = w.heap[b]? ∧ ω' b=ω b
theorem Ext.refl (ω:Own) (w:World):Ext ω w ω w:=⟨rfl,rfl,rfl,Nat.le_refl _,fun _ _ _=>⟨rfl,rfl⟩⟩
theorem Ext.trans {ω ω' ω'':Own} {w w' w'':World} (h:Ext ω w ω' w') (h':Ext ω' w' ω'' w''):Ext ω w ω'' w'':=
 ⟨h'.os.trans h.os,h'.tape.trans h.tape,h'.output.trans h.output,Nat.le_trans h.size h'.size,fun b hb hn =>
  have h1:=h.block b hb hn
  have h2:=h'.block b (Nat.lt_of_lt_of_le hb h.size) (by unfold Fixed at hn ⊢;rw [h1.2];exact hn)
  ⟨h2.1.trans h1.1,h2.2.trans h1.2⟩⟩
theorem Ext.keeps {ω ω':Own} {w w':World} (h:Ext ω w ω' w'):Keeps w ω w' ω' .imm:=by
 intro b hb hk
 rcases hk with hk | ⟨k,_,hk⟩
 ·exact h.block b hb (.inl hk)
 ·exact hk.elim
theorem RIptr.ext {ω ω':Own} {w w':World} (h:Ext ω w ω' w') {v:Value} {cs:Tys} {x:cs.T} {off:Nat} (hr:RIptr w ω v cs x off):RIptr w' ω' v cs x off:=by
 obtain ⟨b,o,h1,h2,h3,h4⟩:=hr
 have hb:=h.block b h2 (.inl h1)
 exact ⟨b,o,hb.2.trans h1,Nat.lt_of_lt_of_le h2 h.size,h3,Tys.R_frame h.size cs _ _ _ 0 _ (fun _=>h.keeps) (fun j=>cell_of_heap (a:=⟨b,o+j,none⟩) hb.1) h4⟩
structure Same (w:World) (ω:Own) (s:S) (w':World) (ω':Own) (s':S) (id:Nat):Prop where
 ob:s'.ob id=s.ob id
 block:∀ b k,b < w.heap.size→ω b=some k→k.1=id→w'.heap[b]? = w.heap[b]? ∧ ω' b=ω b
def Newer (s s':S) (id:Nat):Prop:=(s.ob id).g < (s'.ob id).g
theorem Same.cont {w w':World} {ω ω':Own} {s s':S} {id:Nat} (h:Same w ω s w' ω' s' id) (g hh:Nat) (p:Pth):s'.cont id g hh p=s.cont id g hh p:=by
 unfold St.cont;rw [h.ob]
theorem kp_fst (md id:Nat) (p:Pth) (k:Key) (h:(modeOf md id p).has k):k.1=id:=by
 unfold modeOf at h
 split at h
 ·exact h.elim
 ·have:k=(id,[]):=h
  rw [this]
 ·exact h.1
theorem Same.keeps {w w':World} {ω ω':Own} {s s':S} {id:Nat} (h:Same w ω s w' ω' s' id) (he:Ext ω w ω' w') (md:Nat) (p:Pth):Keeps w ω w' ω' (modeOf md id p):=by
 intro b hb hk
 rcases hk with hk | ⟨k,h1,h2⟩
 ·exact he.block b hb (.inl hk)
 ·exact h.block b k hb h1 (kp_fst _ _ _ _ h2)
structure Tr (w:World) (ω:Own) (s:S) (w':World) (ω':Own) (s':S) (id:Nat):Prop where
 ref:∀ v g h p,RLf w ω s v (.ref id g h p)→RLf w' ω' s' v (.ref id g h p)
 ptr:∀ v g off,RPtr ω s v id g off→RPtr ω' s' v id g off
 eptr:∀ v g h p i off,RLf w ω s v (.eptr id g h p i off)→RLf w' ω' s' v (.eptr id g h p i off)
 mref:∀ v g,RMref w ω s v id g→RMref w' ω' s' v id g
theorem St.cont_newer {s s':S} {id:Nat} (hn:Newer s s' id) {g:Nat} (hg:g≤(s.ob id).g) (h:Nat) (p:Pth):s'.cont id g h p=none:=by
 unfold St.cont
 have:Nat.beq (s'.ob id).g g=false:=by
  rw [Bool.eq_false_iff]
  intro e
  have:=Nat.eq_of_beq_eq_true e
  unfold Newer at hn
  omega
 rw [this]
 rfl
theorem Same.tr {w w':World} {ω ω':Own} {s s':S} {id:Nat} (hi:Same w ω s w' ω' s' id) (he:Ext ω w ω' w') (hd:∀ b k,ω b=some k→b < w.heap.size):Tr w ω s w' ω' s' id where
 ref v g hh p h:=by
  refine ⟨by rw [hi.ob];exact h.1,by rw [hi.ob];exact h.2.1,fun c hc=>?_⟩
  rw [hi.cont] at hc
  exact Ty.R_frame he.size _ _ _ _ (hi.keeps he _ _) (h.2.2 c hc)
 ptr v g off h:=by
  refine ⟨by rw [hi.ob];exact h.1,fun hg cells hc=>?_⟩
  rw [hi.ob] at hg hc
  obtain ⟨b,h1,h2⟩:=h.2 hg cells hc
  exact ⟨b,(hi.block b _ (hd b _ h1) h1 rfl).2.trans h1,h2⟩
 eptr v g hh p i off h:=by
  refine ⟨by rw [hi.ob];exact h.1,by rw [hi.ob];exact h.2.1,fun c hc hm=>?_⟩
  rw [hi.cont] at hc
  obtain ⟨h1,h2,⟨b,h3,h4⟩,v',h5⟩:=h.2.2 c hc hm
  exact ⟨h1,h2,⟨b,(hi.block b _ (hd b _ h3) h3 rfl).2.trans h3,h4⟩,v',Ty.R_frame he.size _ _ _ _ (hi.keeps he _ _) h5⟩
 mref v g h:=by
  refine ⟨by rw [hi.ob];exact h.1,fun hg k x hc=>?_⟩
  rw [hi.ob] at hg hc
  obtain ⟨b,es,c,h1,h2,h3,h4⟩:=h.2 hg k x hc
  have hb:=hi.block b _ (hd b _ h1) h1 rfl
  exact ⟨b,es,c,hb.2.trans h1,h2,hb.1.trans h3,h4⟩
theorem RMref.shut {w w':World} {ω ω':Own} {s s':S} {v:Value} {id g:Nat} (h:RMref w ω s v id g) (hg:(s'.ob id).g=(s.ob id).g) (ho:∀ k x,(s'.ob id).o≠.mp k x):RMref w' ω' s' v id g:=
 ⟨by rw [hg];exact h.1,fun _ k x hc=>absurd hc (ho k x)⟩
theorem Newer.tr {w w':World} {ω ω':Own} {s s':S} {id:Nat} (hi:Newer s s' id):Tr w ω s w' ω' s' id where
 ref v g hh p h:=by
  have h1:=h.1
  have hi':=hi
  unfold Newer at hi'
  refine ⟨by omega,by split <;> omega,fun c hc=>?_⟩
  rw [St.cont_newer hi h1] at hc
  cases hc
 ptr v g off h:=by
  have:=h.1
  have hi':=hi
  unfold Newer at hi'
  exact ⟨by omega,fun hg=>by omega⟩
 eptr v g hh p i off h:=by
  have h1:=h.1
  have hi':=hi
  unfold Newer at hi'
  refine ⟨by omega,by split <;> omega,fun c hc=>?_⟩
  rw [St.cont_newer hi h1] at hc
  cases hc
 mref v g h:=by
  have:=h.1
  have hi':=hi
  unfold Newer at hi'
  exact ⟨by omega,fun hg=>by omega⟩
section
variable {w w':World} {ω ω':Own} {s s':S} (he:Ext ω w ω' w') (ht:∀ id,Tr w ω s w' ω' s' id)
include he ht
theorem RCap.frame {v:Value}:∀ {c:Cap real},RCap w ω s v c→RCap w' ω' s' v c
 | .ptr id _,h=>(ht id).ptr _ _ _ h
 | .ro _ _,h=>RIptr.ext he h
theorem RLf.frame {v:Value}:∀ {l:L},RLf w ω s v l→RLf w' ω' s' v l
 | .val t x,h=>Ty.R_frame he.size t .imm v x he.keeps h
 | .nilS _ _,h=>h
 | .ref id _ _ _,h=>(ht id).ref _ _ _ _ h
 | .ptr id _ _,h=>(ht id).ptr _ _ _ h
 | .eptr id _ _ _ _ _,h=>(ht id).eptr _ _ _ _ _ _ h
 | .iptr _ _ _,h=>RIptr.ext he h
 | .mref id _,h=>(ht id).mref _ _ h
 | .fn _ _,h=>by
  obtain ⟨cv,h1,h2⟩:=h
  exact ⟨cv,h1,h2.mono fun _ _ hc=>RCap.frame he ht hc⟩
 | .tst _ _,h=>h
 | .undef,h=>h
 | .dead,_=>trivial
theorem RComp.frame {v:Value}:∀ {c:Bool×List L},RComp w ω s v c→RComp w' ω' s' v c
 | (true,_),⟨us,h1,h2⟩=>⟨us,h1,h2.mono fun _ _ hc=>RLf.frame he ht hc⟩
 | (false,_),h=>fun l hl=>RLf.frame he ht (h l hl)
theorem RTV.frame {v:Value}:∀ {t:TVr},RTV w ω s v t→RTV w' ω' s' v t
 | .one _,h=>RLf.frame he ht h
 | .agg _,⟨us,h1,h2⟩=>⟨us,h1,h2.mono fun _ _ hc=>RLf.frame he ht hc⟩
 | .tup _,⟨us,h1,h2⟩=>⟨us,h1,h2.mono fun _ _ hc=>RComp.frame he ht hc⟩
end
end Go.R
namespace Go.R
theorem mkId_ne (d c j:Nat):mkId d c j≠0:=Nat.succ_ne_zero _
theorem Rel.ne0 {ω:Own} {a:Act} {w:World} {s:S} (h:Rel ω a w s) {id:Nat} (ho:(s.ob id).o≠.gone):id≠0:=fun e=>ho (by rw [e];exact h.own0)
theorem beq_self (n:Nat):Nat.beq n n=true:=Nat.beq_refl n
theorem beq_ne {m n:Nat} (h:m≠n):Nat.beq m n=false:=by
 rw [Bool.eq_false_iff];exact fun e=>h (Nat.eq_of_beq_eq_true e)
theorem St.upd_ob_self (s:S) (id:Nat) (o:Slot real):(s.upd id o).ob id=o:=by simp [St.upd]
theorem St.upd_ob_ne (s:S) {id j:Nat} (o:Slot real) (h:j≠id):(s.upd id o).ob j=s.ob j:=by simp [St.upd,beq_ne h]
theorem St.set_sl_self (s:S) (d:Nat) (v:TVr):(s.set d v).sl d=v:=by simp [St.set]
theorem St.set_sl_ne (s:S) {d j:Nat} (v:TVr) (h:j≠d):(s.set d v).sl j=s.sl j:=by simp [St.set,beq_ne h]
theorem Tr.of_ob {w:World} {ω:Own} {s s':S} {id:Nat} (hd:∀ b k,ω b=some k→b < w.heap.size) (h:s'.ob id=s.ob id):Tr w ω s w ω s' id:=
 Same.tr ⟨h,fun _ _ _ _ _=>⟨rfl,rfl⟩⟩ (Ext.refl _ _) hd
theorem Rel.set {ω:Own} {a:Act} {w:World} {s:S} (h:Rel ω a w s) {d:Nat} (hd:d < a.tmps.size) {v:Value} {t:TVr} (ht:RTV w ω s v t):Rel ω (a.put (some d) v) w (s.set d t) where
 inj:=h.inj
 dom:=h.dom
 defers:=h.defers
 own0:=h.own0
 slots i:=by
  have tr:∀ id,Tr w ω s w ω (s.set d t) id:=fun id=>Tr.of_ob h.dom rfl
  by_cases e:i=d
  ·subst e
   rw [St.set_sl_self]
   have:(a.put (some i) v).tmps.getD i undef=v:=by simp [Act.put,Array.getD_eq_getD_getElem?,hd]
   rw [this]
   exact RTV.frame (Ext.refl _ _) tr ht
  ·rw [St.set_sl_ne _ _ e]
   have:(a.put (some d) v).tmps.getD i undef=a.tmps.getD i undef:=by
    simp [Act.put,Array.getD_eq_getD_getElem?,Array.getElem?_setIfInBounds_ne (Ne.symm e)]
   rw [this]
   exact RTV.frame (Ext.refl _ _) tr (h.slots i)
 blks id cells hc:=by
  obtain ⟨b,arr,T,h1,h2,h3⟩:=h.blks id cells hc
  exact ⟨b,arr,T,h1,h2,h3.mono fun _ _ hl=>RLf.frame (Ext.refl _ _) (fun id=>Tr.of_ob h.dom rfl) hl⟩
theorem Rel.world {ω:Own} {a:Act} {w w':World} {s:S} (h:Rel ω a w s) (he:Ext ω w ω w') (hb:∀ b,b < w.heap.size→w'.heap[b]? = w.heap[b]?):Rel ω a w' s:=by
 have tr:∀ id,Tr w ω s w' ω s id:=fun id=>Same.tr ⟨rfl,fun b k hb' _ _=>⟨hb b hb',rfl⟩⟩ he h.dom
 exact
 {inj:=h.inj
  dom:=fun b k hk=>Nat.lt_of_lt_of_le (h.dom b k hk) he.size
  defers:=h.defers
  own0:=h.own0
  slots:=fun i=>RTV.frame he tr (h.slots i)
  blks:=fun id cells hc=>by
   obtain ⟨b,arr,T,h1,h2,h3⟩:=h.blks id cells hc
   exact ⟨b,arr,T,h1,(hb b (h.dom b _ h1)).trans h2,h3.mono fun _ _ hl=>RLf.frame he tr hl⟩ }
def Own.fresh (ω:Own) (id b0:Nat):Own:=fun b=>if b=b0 then some (id,[]) else match ω b with
 | some k=>if k.1=id then none else some k
 | none=>none
theorem Own.fresh_self (ω:Own) (id b0:Nat):ω.fresh id b0 b0=some (id,[]):=by simp [Own.fresh]
theorem Own.fresh_none {ω:Own} {id b0 b:Nat} (h:b≠b0) (hn:ω b=none):ω.fresh id b0 b=none:=by simp [Own.fresh,h,hn]
theorem Own.fresh_other {ω:Own} {id b0 b:Nat} {k:Key} (h:b≠b0) (hk:ω b=some k) (hi:k.1≠id):ω.fresh id b0 b=some k:=by simp [Own.fresh,h,hk,hi]
theorem Own.fresh_spec {ω:Own} {id b0 b:Nat} {k:Key} (h:ω.fresh id b0 b=some k):(b=b0∧k=(id,[]))∨(b≠b0∧ω b=some k∧k.1≠id):=by
 unfold Own.fresh at h
 split at h
 ·rename_i e
  exact .inl ⟨e,by injection h with h;exact h.symm⟩
 ·rename_i e
  refine .inr ⟨e,?_⟩
  split at h
  ·rename_i k' hk
   split at h
   ·cases h
   ·rename_i hne
    injection h with h
    subst h
    exact ⟨hk,hne⟩
  ·cases h
structure Grow (w w':World):Prop where
 os:w'.os=w.os
 tape:w'.tape=w.tape
 output:w'.output=w.output
 size:w.heap.size≤w'.heap.size
 block:∀ b,b < w.heap.size→w'.heap[b]? = w.heap[b]?
theorem Grow.refl (w:World):Grow w w:=⟨rfl,rfl,rfl,Nat.le_refl _,fun _ _=>rfl⟩
theorem Grow.trans {w w' w'':World} (h:Grow w w') (h':Grow w' w''):Grow w w'':=
 ⟨h'.os.trans h.os,h'.tape.trans h.tape,h'.output.trans h.output,Nat.le_trans h.size h'.size,fun b hb=>(h'.block b (Nat.lt_of_lt_of_le hb h.size)).trans (h.block b hb)⟩
theorem Grow.ext {w w':World} (h:Grow w w') (ω:Own):Ext ω w ω w':=⟨h.os,h.tape,h.output,h.size,fun b hb _=>⟨h.block b hb,rfl⟩⟩
theorem Grow.drew (w:World):Grow w w.drew:=⟨rfl,rfl,rfl,Nat.le_refl _,fun _ _=>rfl⟩
theorem Grow.drewN (w:World) (n:Nat):Grow w (w.drewN n):=⟨rfl,rfl,rfl,Nat.le_refl _,fun _ _=>rfl⟩
theorem Grow.push (w:World) (o:Obj):Grow w { w with heap:=w.heap.push o }:=
 ⟨rfl,rfl,rfl,by simp,fun b hb=>by simp only [Array.getElem?_push];rw [if_neg (by omega)]⟩
theorem heap_push_self (w:World) (o:Obj):({ w with heap:=w.heap.push o }:World).heap[w.heap.size]? = some o:=by simp
section
variable {ω:Own} {a:Act} {w w':World} {s:S} {id b0:Nat}
theorem fresh_fixed (h0:id≠0) {b:Nat} (hb:b≠b0) (h:Fixed ω b):ω.fresh id b0 b=ω b:=by
 rcases h with h | ⟨q,h⟩
 ·rw [h];exact Own.fresh_none hb h
 ·rw [h];exact Own.fresh_other hb h (Ne.symm h0)
theorem fresh_ext (h0:id≠0) (hg:Grow w w') (hb:w.heap.size≤b0):Ext ω w (ω.fresh id b0) w':=
 ⟨hg.os,hg.tape,hg.output,hg.size,fun b hb' hn=>⟨hg.block b hb',fresh_fixed h0 (by omega) hn⟩⟩
theorem fresh_tr (h0:id≠0) (hd:∀ b k,ω b=some k→b < w.heap.size) (hg:Grow w w') (hb:w.heap.size≤b0) (o:Ob real) (j:Nat):Tr w ω s w' (ω.fresh id b0) (s.new id o) j:=by
 by_cases e:j=id
 ·subst e
  exact Newer.tr (by unfold Newer St.new;rw [St.upd_ob_self];exact Nat.lt_succ_self _)
 ·exact Same.tr ⟨by unfold St.new;exact St.upd_ob_ne _ _ e,fun b k hb' hk hj=>⟨hg.block b hb',by rw [hk];exact Own.fresh_other (by omega) hk (by rw [hj];exact e)⟩⟩ (fresh_ext h0 hg hb) hd
theorem Rel.fresh (h:Rel ω a w s) (h0:id≠0) (hg:Grow w w') (hb:w.heap.size≤b0) (hb':b0 < w'.heap.size) (o:Ob real)
  (ho:∀ cells,o=.blk cells→∃ arr T,w'.heap[b0]? = some (.cells arr T (0,0))∧All2 (RLf w ω s) arr.toList cells) :
  Rel (ω.fresh id b0) a w' (s.new id o) where
 inj b b' k h1 h2:=by
  rcases Own.fresh_spec h1 with ⟨e1,e2⟩ | ⟨e1,e2,e3⟩ <;> rcases Own.fresh_spec h2 with ⟨e4,e5⟩ | ⟨e4,e5,e6⟩
  ·rw [e1,e4]
  ·rw [e2] at e6;exact absurd rfl e6
  ·rw [e5] at e3;exact absurd rfl e3
  ·exact h.inj b b' k e2 e5
 dom b k h1:=by
  rcases Own.fresh_spec h1 with ⟨e1,_⟩ | ⟨_,e2,_⟩
  ·rw [e1];exact hb'
  ·exact Nat.lt_of_lt_of_le (h.dom b k e2) hg.size
 defers:=h.defers
 own0:=by
  have:(s.new id o).ob 0=s.ob 0:=by unfold St.new;exact St.upd_ob_ne _ _ (Ne.symm h0)
  rw [this];exact h.own0
 slots i:=RTV.frame (fresh_ext h0 hg hb) (fresh_tr h0 h.dom hg hb o) (h.slots i)
 blks j cells hc:=by
  by_cases e:j=id
  ·subst e
   have:o=.blk cells:=by simpa [St.new,St.upd_ob_self] using hc
   obtain ⟨arr,T,h1,h2⟩:=ho cells this
   exact ⟨b0,arr,T,Own.fresh_self _ _ _,h1,h2.mono fun _ _ hl=>RLf.frame (fresh_ext h0 hg hb) (fresh_tr h0 h.dom hg hb o) hl⟩
  ·have hc':(s.ob j).o=.blk cells:=by rw [←hc];unfold St.new;rw [St.upd_ob_ne _ _ e]
   obtain ⟨b,arr,T,h1,h2,h3⟩:=h.blks j cells hc'
   have hlt:=h.dom b _ h1
   exact ⟨b,arr,T,Own.fresh_other (by omega) h1 e,(hg.block b hlt).trans h2,h3.mono fun _ _ hl=>RLf.frame (fresh_ext h0 hg hb) (fresh_tr h0 h.dom hg hb o) hl⟩
end
theorem St.chg_self (s:S) (id:Nat) (nh:Bool) (o:Ob real):(s.chg id nh o).ob id=⟨(s.ob id).g,bif nh then (s.ob id).h+1 else (s.ob id).h,o⟩:=by unfold St.chg;exact St.upd_ob_self _ _ _
theorem St.chg_ne (s:S) {id j:Nat} (nh:Bool) (o:Ob real) (h:j≠id):(s.chg id nh o).ob j=s.ob j:=by unfold St.chg;exact St.upd_ob_ne _ _ h
theorem h_step {g h G H:Nat} (nh:Bool) (h1:h≤H+(if g=G then 0 else h)):h≤(bif nh then H+1 else H)+(if g=G then 0 else h):=by
 cases nh <;> simp only [cond_true,cond_false] <;> split at h1 <;> split <;> omega
def Ob.shut:Ob real→Prop
 | .gone=>True
 | _=>False
theorem cont_gone {s:S} {id g h:Nat} {p:Pth} (hs:(s.ob id).o=.gone):s.cont id g h p=none:=by
 unfold St.cont Slot.cont
 rw [hs]
 cases Nat.beq (s.ob id).g g <;> rfl
theorem gone_tr {w:World} {ω:Own} {s:S} {id:Nat} (hd:∀ b k,ω b=some k→b < w.heap.size) (nh:Bool) (j:Nat):Tr w ω s w ω (s.chg id nh .gone) j:=by
 by_cases e:j=id
 ·subst e
  have ho:((s.chg j nh .gone).ob j).o=.gone:=by rw [St.chg_self]
  have hg:((s.chg j nh .gone).ob j).g=(s.ob j).g:=by rw [St.chg_self]
  have hh:((s.chg j nh .gone).ob j).h=bif nh then (s.ob j).h+1 else (s.ob j).h:=by rw [St.chg_self]
  exact
  {ref:=fun v g h p hr=>⟨by rw [hg];exact hr.1,by rw [hg,hh];exact h_step nh hr.2.1,fun c hc=>by rw [cont_gone ho] at hc;cases hc⟩
   ptr:=fun v g off hr=>⟨by rw [hg];exact hr.1,fun _ cells hc=>by rw [ho] at hc;cases hc⟩
   eptr:=fun v g h p i off hr=>⟨by rw [hg];exact hr.1,by rw [hg,hh];exact h_step nh hr.2.1,fun c hc=>by rw [cont_gone ho] at hc;cases hc⟩
   mref:=fun v g hr=>hr.shut hg fun k x e=>by rw [ho] at e;cases e }
 ·exact Tr.of_ob hd (St.chg_ne _ _ _ e)
theorem Rel.gone {ω:Own} {a:Act} {w:World} {s:S} (h:Rel ω a w s) (id:Nat) (nh:Bool):Rel ω a w (s.chg id nh .gone) where
 inj:=h.inj
 dom:=h.dom
 defers:=h.defers
 own0:=by
  by_cases e:0=id
  ·subst e;rw [St.chg_self]
  ·rw [St.chg_ne _ _ _ e];exact h.own0
 slots i:=RTV.frame (Ext.refl _ _) (gone_tr h.dom nh) (h.slots i)
 blks j cells hc:=by
  by_cases e:j=id
  ·subst e;rw [St.chg_self] at hc;cases hc
  ·rw [St.chg_ne _ _ _ e] at hc
   obtain ⟨b,arr,T,h1,h2,h3⟩:=h.blks j cells hc
   exact ⟨b,arr,T,h1,h2,h3.mono fun _ _ hl=>RLf.frame (Ext.refl _ _) (gone_tr h.dom nh) hl⟩
def Own.drop (ω:Own) (id:Nat):Own:=fun b=>match ω b with
 | some k=>if k.1=id then none else some k
 | none=>none
theorem Own.drop_none {ω:Own} {id b:Nat} (h:ω b=none):ω.drop id b=none:=by simp [Own.drop,h]
theorem Own.drop_self {ω:Own} {id b:Nat} {k:Key} (h:ω b=some k) (hk:k.1=id):ω.drop id b=none:=by simp [Own.drop,h,hk]
theorem Own.drop_other {ω:Own} {id b:Nat} {k:Key} (h:ω b=some k) (hk:k.1≠id):ω.drop id b=some k:=by simp [Own.drop,h,hk]
theorem Own.drop_spec {ω:Own} {id b:Nat} {k:Key} (h:ω.drop id b=some k):ω b=some k∧k.1≠id:=by
 unfold Own.drop at h
 split at h
 ·rename_i k' hk
  split at h
  ·cases h
  ·rename_i hne;injection h with h;subst h;exact ⟨hk,hne⟩
 ·cases h
def Frees (w:World) (ω ω':Own) (md:Md):Prop:=∀ b,b < w.heap.size→(ω b=none∨∃ k,ω b=some k∧md.has k)→ω' b=none
mutual
theorem Ty.R_free {w:World} {ω ω':Own}:∀ (t:Ty) (md:Md) (v:Value) (x:t.T),Frees w ω ω' md→t.R w ω md v x→t.R w ω' .imm v x
 | .int _,_,_,_,_,h=>h
 | .bool,_,_,_,_,h=>h
 | .str,_,_,_,_,h=>h
 | .sl e cs,md,v,x,H,h=>by
  obtain ⟨a,n,c,h1,h2,h3,h4,h5⟩:=h
  refine ⟨a,n,c,h1,h2,h3,fun hn=>?_,fun i ad hi ha=>?_⟩
  ·obtain ⟨b,off,e1,e2,e3⟩:=h4.block hn
   exact ⟨b,off,e1,H b e2 e3,e2⟩
  ·exact Tys.R_free cs _ _ 0 _ (fun j b hb hk=>H b hb (hk.imp id fun ⟨k,h1,h2⟩=>⟨k,h1,Md.has_inner h2⟩)) (h5 i ad hi ha)
theorem Tys.R_free {w:World} {ω ω':Own}:∀ (cs:Tys) (md:Nat→Md) (g:Nat→Option Value) (j:Nat) (x:cs.T),(∀ j,Frees w ω ω' (md j))→cs.R w ω md g j x→cs.R w ω' (fun _=>.imm) g j x
 | .nil,_,_,_,_,_,_=>trivial
 | .cons t ts,md,g,j,x,H,h=>by
  obtain ⟨⟨v,h1,h2⟩,h3⟩:=h
  exact ⟨⟨v,h1,Ty.R_free t (md j) v _ (H j) h2⟩,Tys.R_free ts md g (j+1) _ H h3⟩
end
theorem cont_arr {s:S} {id:Nat} {e:Nat} {cs:Tys} {dp:Bool} {x:real.V (.sl e cs)} (ho:(s.ob id).o=.arr e cs dp x) {g h:Nat} (hg:g=(s.ob id).g) :
  s.cont id g h []=some ⟨e,cs,x,bif dp then 2 else 1⟩:=by
 unfold St.cont Slot.cont
 rw [hg,beq_self,ho]
 rfl
theorem cont_imm {s:S} {id:Nat} {e:Nat} {cs:Tys} {x:real.V (.sl e cs)} (ho:(s.ob id).o=.imm e cs x) {g h:Nat} {p:Pth} {c:Cont real} (hc:s.cont id g h p=some c) :
  g=(s.ob id).g∧p=[]∧c=⟨e,cs,x,0⟩:=by
 unfold St.cont Slot.cont at hc
 by_cases hb:Nat.beq (s.ob id).g g=true
 ·rw [hb,ho] at hc
  simp only [cond_true] at hc
  cases p with
  | nil=>exact ⟨(Nat.eq_of_beq_eq_true hb).symm,rfl,by injection hc with hc;exact hc.symm⟩
  | cons q p=>cases hc
 ·rw [Bool.not_eq_true] at hb
  rw [hb] at hc
  cases hc
theorem drop_fixed {ω:Own} {id b:Nat} (h0:id≠0) (h:Fixed ω b):ω.drop id b=ω b:=by
 rcases h with h | ⟨q,h⟩
 ·rw [h];exact Own.drop_none h
 ·rw [h];exact Own.drop_other h (Ne.symm h0)
theorem freeze_ext (ω:Own) (w:World) (id:Nat) (h0:id≠0):Ext ω w (ω.drop id) w:=⟨rfl,rfl,rfl,Nat.le_refl _,fun _ _ h=>⟨rfl,drop_fixed h0 h⟩⟩
theorem freeze_tr {w:World} {ω:Own} {s:S} {id e:Nat} {cs:Tys} {dp:Bool} {x:real.V (.sl e cs)} (h0:id≠0) (hd:∀ b k,ω b=some k→b < w.heap.size) (ho:(s.ob id).o=.arr e cs dp x) (nh:Bool) (j:Nat) :
  Tr w ω s w (ω.drop id) (s.chg id nh (.imm e cs x)) j:=by
 by_cases ej:j=id
 ·subst ej
  have ho':((s.chg j nh (.imm e cs x)).ob j).o=.imm e cs x:=by rw [St.chg_self]
  have hg:((s.chg j nh (.imm e cs x)).ob j).g=(s.ob j).g:=by rw [St.chg_self]
  have hh:((s.chg j nh (.imm e cs x)).ob j).h=bif nh then (s.ob j).h+1 else (s.ob j).h:=by rw [St.chg_self]
  exact
  {ref:=fun v g h p hr=>⟨by rw [hg];exact hr.1,by rw [hg,hh];exact h_step nh hr.2.1,fun c hc=>by
    obtain ⟨e1,e2,e3⟩:=cont_imm ho' hc
    subst e2;subst e3
    rw [hg] at e1
    have hx:=hr.2.2 _ (cont_arr (h:=h) ho e1)
    refine Ty.R_free _ _ _ _ (fun b hb hk=>?_) hx
    rcases hk with hk | ⟨k,h1,h2⟩
    ·exact Own.drop_none hk
    ·exact Own.drop_self h1 (kp_fst _ _ _ _ h2)⟩
   ptr:=fun v g off hr=>⟨by rw [hg];exact hr.1,fun _ cells hc=>by rw [ho'] at hc;cases hc⟩
   eptr:=fun v g h p i off hr=>⟨by rw [hg];exact hr.1,by rw [hg,hh];exact h_step nh hr.2.1,fun c hc hm=>by
    obtain ⟨_,_,e3⟩:=cont_imm ho' hc
    rw [e3] at hm
    exact absurd rfl hm⟩
   mref:=fun v g hr=>hr.shut hg fun k x e=>by rw [ho'] at e;cases e }
 ·exact Same.tr ⟨St.chg_ne _ _ _ ej,fun b k hb hk hj=>⟨rfl,by rw [hk];exact Own.drop_other hk (by rw [hj];exact ej)⟩⟩ (freeze_ext _ _ _ h0) hd
theorem Rel.freeze {ω:Own} {a:Act} {w:World} {s:S} (h:Rel ω a w s) {id e:Nat} {cs:Tys} {dp:Bool} {x:real.V (.sl e cs)} (ho:(s.ob id).o=.arr e cs dp x) (nh:Bool):Rel (ω.drop id) a w (s.chg id nh (.imm e cs x)) where
 inj b b' k h1 h2:=h.inj b b' k (Own.drop_spec h1).1 (Own.drop_spec h2).1
 dom b k h1:=h.dom b k (Own.drop_spec h1).1
 defers:=h.defers
 own0:=by
  rw [St.chg_ne _ _ _ (Ne.symm (h.ne0 (by rw [ho];exact fun e=>by cases e)))];exact h.own0
 slots i:=RTV.frame (freeze_ext _ _ _ (h.ne0 (by rw [ho];exact fun e=>by cases e))) (freeze_tr (h.ne0 (by rw [ho];exact fun e=>by cases e)) h.dom ho nh) (h.slots i)
 blks j cells hc:=by
  by_cases ej:j=id
  ·subst ej;rw [St.chg_self] at hc;cases hc
  ·rw [St.chg_ne _ _ _ ej] at hc
   obtain ⟨b,arr,T,h1,h2,h3⟩:=h.blks j cells hc
   exact ⟨b,arr,T,Own.drop_other h1 ej,h2,h3.mono fun _ _ hl=>RLf.frame (freeze_ext _ _ _ (h.ne0 (by rw [ho];exact fun e=>by cases e))) (freeze_tr (h.ne0 (by rw [ho];exact fun e=>by cases e)) h.dom ho nh) hl⟩
end Go.R
namespace Go.R
def zeroOf:Ty→Value
 | .int k=>.int k 0
 | .bool=>.bool false
 | .str=>.string ByteArray.empty
 | .sl _ _=>.slice none 0 0
def zerosOf:Tys→List Value
 | .nil=>[]
 | .cons t ts=>zeroOf t::zerosOf ts
theorem zerosOf_length:∀ cs:Tys,(zerosOf cs).length=cs.len
 | .nil=>rfl
 | .cons _ ts=>by simp [zerosOf,Tys.len,zerosOf_length ts]
structure TIok (P:Program) (t:Nat) (i:TI) (I:TypeInfo) (d:TypeDesc):Prop where
 info:P.info? t=some I
 und:P.underlying t=some d
 size:I.size=i.cs.len
 bytes:I.bytes=i.bytes
 bpos:0 < i.bytes∧i.bytes≤65536
 zero:∃ z,I.zero=some z∧z.cells.toList=zerosOf i.cs
 row:d.isRow=i.agg
 one:i.agg=false→i.cs.len=1
 flds:i.agg=true→∃ fs,d=.struct fs∧fs.size=i.flds.length∧∀ (f:Nat) (q:Nat×Nat×Bool),i.flds[f]? = some q→∃ (F:Field) (FI:TypeInfo) (Fd:TypeDesc),fs[f]? = some F∧F.offset=q.1∧P.info? F.type=some FI∧FI.size=q.2.1∧0 < FI.size∧P.underlying F.type=some Fd∧Fd.isRow=q.2.2∧(q.2.2=false→q.2.1=1)
 el:∀ e,i.el=some e→d=.slice e
 intk:∀ k,i.cs=.cons (.int k) .nil→i.agg=false→d=.int k
 boolk:i.cs=.cons .bool .nil→i.agg=false→d=.bool
 strk:i.cs=.cons .str .nil→i.agg=false→d=.string
 slk:∀ e cs,i.cs=.cons (.sl e cs) .nil→i.agg=false→d=.slice e
def CellT (u:Value):Ty→Prop
 | .int k=>∃ n,u=.int k n
 | .bool=>∃ b,u=.bool b
 | _=>False
def Typed:Tys→List Value→Prop
 | .nil,[]=>True
 | .cons t ts,u::us=>CellT u t∧Typed ts us
 | _,_=>False
def flatEq:List Value→List Value→Bool
 | [],[]=>true
 | .int _ a::us,.int _ b::vs=>(a == b) && flatEq us vs
 | .bool a::us,.bool b::vs=>(a == b) && flatEq us vs
 | _,_=>false
structure EnvOk (P:Program) (E:Env):Prop where
 mo:P.follows .mixedOrders=true
 mps:∀ t k,E.mp t=some k→∃ kt et I,P.underlying t=some (.map kt et)∧P.underlying kt=some (.int k)∧P.info? et=some I∧I.zero=some (.bool false)
 ti:∀ t i,E.ti t=some i→∃ I d,TIok P t i I d
 eqs:∀ t i,E.ti t=some i→E.eqT t=true→∀ (op:BinOp) (x y:Operand) (us vs:List Value) (w:World),op=.eql∨op=.neq→Typed i.cs us→Typed i.cs vs →
  (do eqGuard op t x y (.agg us.toArray) (.agg vs.toArray);binOp op t (.agg us.toArray) (.agg vs.toArray):Sem Value).run P w=.ok (.bool (match op with | .eql=>flatEq us vs | _=>!flatEq us vs)) w
theorem slOf_ok {P:Program} {E:Env} (hE:EnvOk P E) {t e:Nat} {cs:Tys} (h:E.slOf t=some (e,cs)) :
  P.underlying t=some (.slice e)∧∃ j I d,E.ti e=some j∧j.cs=cs∧TIok P e j I d:=by
 unfold Env.slOf at h
 split at h
 ·rename_i i hi
  split at h
  ·rename_i e' he
   split at h
   ·rename_i j hj
    injection h with h
    injection h with h1 h2
    subst h1
    obtain ⟨I,d,ok⟩:=hE.ti _ _ hi
    obtain ⟨I',d',ok'⟩:=hE.ti _ _ hj
    exact ⟨by rw [ok.und,ok.el _ he],j,I',d',hj,h2,ok'⟩
   ·cases h
  ·cases h
 ·cases h
theorem RTV_const {w:World} {ω:Own} {s:S} (E:Env) (ty:Nat) (v:Value):RTV w ω s v (constTV E ty v):=by
 unfold constTV
 split
 ·exact rfl
 ·exact rfl
 ·exact rfl
 ·split
  ·exact ⟨none,rfl⟩
  ·trivial
 ·trivial
theorem ev_ok {ω:Own} {a:Act} {w:World} {s:S} (h:Rel ω a w s) (E:Env) (ty:Nat) (x:Operand):RTV w ω s (a.eval x) (ev E s ty x):=by
 cases x with
 | tmp t=>exact h.slots t
 | const v=>exact RTV_const E ty v
 | global g=>trivial
 | func f=>exact ⟨[],rfl,trivial⟩
def Ends {R:Type} (ω:Own) (a:Act) (w:World) (dst:Option Nat) (k:S→Option R) (r:R) (a':Act) (w':World):Prop:=
 ∃ ω' s',Rel ω' a' w' s'∧Ext ω w ω' w'∧k s'=some r∧a'.tmps.size=a.tmps.size∧∀ j,dst≠some j→a'.tmps.getD j undef=a.tmps.getD j undef
theorem put_other (a:Act) (dst:Option Nat) (v:Value) {j:Nat} (h:dst≠some j):(a.put dst v).tmps.getD j undef=a.tmps.getD j undef:=by
 cases dst with
 | none=>rfl
 | some d =>
  have:d≠j:=fun e=>h (by rw [e])
  simp [Act.put,Array.getD_eq_getD_getElem?,Array.getElem?_setIfInBounds_ne this]
theorem put_size (a:Act) (dst:Option Nat) (v:Value):(a.put dst v).tmps.size=a.tmps.size:=by
 cases dst <;> simp [Act.put]
theorem Rel.setO {ω:Own} {a:Act} {w:World} {s:S} (h:Rel ω a w s) {dst:Option Nat} (hd:∀ d,dst=some d→d < a.tmps.size) {v:Value} {t:TVr} (ht:RTV w ω s v t):Rel ω (a.put dst v) w (s.setO dst t):=by
 cases dst with
 | none=>exact h
 | some d=>exact h.set (hd d rfl) ht
theorem wp_val {P:Program} {o:Oper} {a:Act} {w w':World} {v:Value} {K:Act→World→Prop} {Q:Exit→Act→World→Prop}
  (hr:(execOp a.eval o).run P w=.ok (.value v) w') (h:K (a.put o.dst v) w'):o.wp P a w K Q:=by
 unfold Oper.wp;rw [hr];exact h
theorem wp_skip' {P:Program} {o:Oper} {a:Act} {w w':World} {K:Act→World→Prop} {Q:Exit→Act→World→Prop}
  (hr:(execOp a.eval o).run P w=.ok .skip w') (h:K (a.put o.dst undef) w'):o.wp P a w K Q:=by
 unfold Oper.wp;rw [hr];exact h
section
variable {R:Type} {P:Program} {E:Env} {ω:Own} {a:Act} {w:World} {s:S} {k:S→Option R} {r:R} {o:Oper} {Q:Exit→Act→World→Prop}
theorem ends_put (h:Rel ω a w s) (hd:∀ d,o.dst=some d→d < a.tmps.size) {v:Value} {t:TVr} (ht:RTV w ω s v t) (hk:k (s.setO o.dst t)=some r) :
  Ends ω a w o.dst k r (a.put o.dst v) w:=
 ⟨ω,_,h.setO hd ht,Ext.refl _ _,hk,put_size _ _ _,fun _ hj=>put_other _ _ _ hj⟩
theorem ends_put' {ω1:Own} {w1:World} {s1:S} (h:Rel ω1 a w1 s1) (he:Ext ω w ω1 w1) (hd:∀ d,o.dst=some d→d < a.tmps.size) {v:Value} {t:TVr} (ht:RTV w1 ω1 s1 v t) (hk:k (s1.setO o.dst t)=some r) :
  Ends ω a w o.dst k r (a.put o.dst v) w1:=
 ⟨ω1,_,h.setO hd ht,he,hk,put_size _ _ _,fun _ hj=>put_other _ _ _ hj⟩
theorem mapFail_some {α:Type} {o:Option α} {f:α→Option R} (h:mapFail (realC R) o f=some r):∃ x,o=some x∧f x=some r:=by
 unfold mapFail at h
 cases o with
 | none=>cases h
 | some x=>exact ⟨x,rfl,h⟩
theorem cond_real {b:Bool} {x y:Option R}:(realC R).cond b x y=bif b then x else y:=rfl
theorem fail_real:(realC R).fail=none:=rfl
theorem bool?_ok {t:TVr} {b:Bool} {v:Value} (h:bool? t=some b) (hr:RTV w ω s v t):v=.bool b:=by
 unfold bool? at h
 split at h
 ·rename_i u x
  split at h
  ·rename_i hb
   obtain rfl:=Ty.eq_of_beq hb
   injection h with h
   have:x=b:=h
   subst this
   exact hr
  ·cases h
 ·cases h
theorem int?_ok {t:TVr} {b:Int} {v:Value} (h:int? t=some b) (hr:RTV w ω s v t):v=.int .i64 b:=by
 unfold int? at h
 split at h
 ·rename_i u x
  split at h
  ·rename_i hb
   obtain rfl:=Ty.eq_of_beq hb
   injection h with h
   have:x=b:=h
   subst this
   exact hr
  ·cases h
 ·cases h
theorem str?_ok {t:TVr} {b:ByteArray} {v:Value} (h:str? t=some b) (hr:RTV w ω s v t):v=.string b:=by
 unfold str? at h
 split at h
 ·rename_i u x
  split at h
  ·rename_i hb
   obtain rfl:=Ty.eq_of_beq hb
   injection h with h
   have:x=b:=h
   subst this
   exact hr
  ·cases h
 ·cases h
theorem step_move {x:Operand} (ho:o.op=.move x∨o.op=.assign x) (h:Rel ω a w s) (hd:∀ d,o.dst=some d→d < a.tmps.size) (hk:k (s.setO o.dst (ev E s o.type x))=some r) :
  o.wp P a w (Ends ω a w o.dst k r) Q:=by
 refine wp_val (v:=a.eval x) (w':=w) ?_ (ends_put h hd (ev_ok h E o.type x) hk)
 unfold execOp
 rcases ho with ho | ho <;> rw [ho] <;> rfl
theorem step_pick {c x y:Operand} (ho:o.op=.pick c x y) (h:Rel ω a w s) (hd:∀ d,o.dst=some d→d < a.tmps.size)
  (hk:(mapFail (realC R) (bool? (ev E s 4 c)) fun c=>(realC R).cond c (k (s.setO o.dst (ev E s o.type x))) (k (s.setO o.dst (ev E s o.type y))))=some r) :
  o.wp P a w (Ends ω a w o.dst k r) Q:=by
 obtain ⟨(b:Bool),h1,h2⟩:=mapFail_some hk
 have hv:=bool?_ok h1 (ev_ok h E 4 c)
 rw [cond_real] at h2
 cases b with
 | true =>
  refine wp_val (v:=a.eval x) (w':=w) ?_ (ends_put h hd (ev_ok h E o.type x) h2)
  unfold execOp
  simp [ho,hv,asBool]
 | false =>
  refine wp_val (v:=a.eval y) (w':=w) ?_ (ends_put h hd (ev_ok h E o.type y) h2)
  unfold execOp
  simp [ho,hv,asBool]
end
end Go.R
namespace Go.R
section
variable {R:Type} {P:Program} {E:Env} {ω:Own} {a:Act} {w:World} {s:S} {k:S→Option R} {r:R} {o:Oper} {Q:Exit→Act→World→Prop}
theorem light_ok (h:Rel ω a w s) (hd:∀ d,o.dst=some d→d < a.tmps.size) {t:TVr} {v:Value} (hr:(execOp a.eval o).run P w=.ok (.value v) w) (ht:RTV w ω s v t) (hk:k (s.setO o.dst t)=some r) :
  o.wp P a w (Ends ω a w o.dst k r) Q:=
 wp_val hr (ends_put h hd ht hk)
def binRes (op:BinOp) (k:IntKind) (m n:Int):Value:=
 match op with
 | .add | .sub | .mul | .quo | .rem | .and | .or | .xor | .andNot=>.int k (rArith op k m n)
 | _=>.bool (rCmp op m n)
theorem run_binInt (op:BinOp) (t:Nat) (x y:Operand) (kk:IntKind) (m n:Int) (ho:op≠.shl∧op≠.shr) (hz:(op=.quo∨op=.rem)→n≠0) :
  (do eqGuard op t x y (.int kk m) (.int kk n);binOp op t (.int kk m) (.int kk n):Sem Value).run P w =
   .ok (binRes op kk m n) w:=by
 cases op <;> simp [eqGuard,binOp,Op.intArith,Op.intDiv,Op.intBits,Op.intCmp,binRes,rArith,rCmp] at ho hz ⊢ <;> simp [hz]
theorem run_shift (op:BinOp) (t:Nat) (x y:Operand) (kk jj:IntKind) (m n:Int) (ho:op=.shl∨op=.shr) (hz:0≤n) :
  (do eqGuard op t x y (.int kk m) (.int jj n);binOp op t (.int kk m) (.int jj n):Sem Value).run P w=.ok (.int kk (rShift op kk m n)) w:=by
 have : ¬ n < 0:=by omega
 rcases ho with rfl | rfl <;> simp [eqGuard,binOp,Op.shift,rShift,this]
theorem run_equal_bool (t:Nat) (hu:P.underlying t=some .bool) (m n:Bool):(Op.equal t (.bool m) (.bool n)).run P w=.ok (m == n) w:=by
 have e:Op.equal t (.bool m) (.bool n)=Op.equalIn (9999+1) t (.bool m) (.bool n):=rfl
 rw [e,Op.equalIn,Sem.run_bind,run_underlying hu]
 rfl
theorem run_binBool (op:BinOp) (t:Nat) (x y:Operand) (hu:P.underlying t=some .bool) (m n:Bool) (ho:op=.eql∨op=.neq) :
  (do eqGuard op t x y (.bool m) (.bool n);binOp op t (.bool m) (.bool n):Sem Value).run P w=.ok (.bool (match op with | .eql=>rBeq m n | _=>!rBeq m n)) w:=by
 rcases ho with rfl | rfl <;> simp [eqGuard,binOp,rBeq,run_equal_bool t hu]
theorem run_binStr (op:BinOp) (t:Nat) (x y:Operand) (m n:ByteArray) (ho:op=.eql∨op=.neq∨op=.lss∨op=.leq∨op=.gtr∨op=.geq) :
  (do eqGuard op t x y (.string m) (.string n);binOp op t (.string m) (.string n):Sem Value).run P w=.ok (.bool (rScmp op m n)) w:=by
 rcases ho with rfl | rfl | rfl | rfl | rfl | rfl <;> simp [eqGuard,binOp,Op.stringOp,rScmp]
theorem run_catStr (t:Nat) (x y:Operand) (m n:ByteArray) (hf:rSfits m n=true) :
  (do eqGuard .add t x y (.string m) (.string n);binOp .add t (.string m) (.string n):Sem Value).run P w=.ok (.string (m++n)) w:=by
 have : ¬ (((m.size+n.size:Nat):Int) > IntKind.i64.max):=by
  unfold rSfits at hf
  have:=of_decide_eq_true hf
  have e:IntKind.i64.max=9223372036854775807:=by decide
  rw [e];omega
 simp only [eqGuard,binOp,Op.stringOp,Sem.run_bind]
 rw [if_neg this]
 simp
theorem isBoolTy_ok (hE:EnvOk P E) {t:Nat} (h:isBoolTy E t=true):P.underlying t=some .bool:=by
 unfold isBoolTy at h
 split at h
 ·rename_i i hi
  obtain ⟨I,d,ok⟩:=hE.ti _ _ hi
  rw [Bool.and_eq_true] at h
  obtain ⟨h1,h2⟩:=h
  have hc:i.cs=.cons .bool .nil:=by
   split at h1
   ·rename_i e;exact e
   ·cases h1
  rw [ok.und,ok.boolk hc (by simpa using h2)]
 ·cases h
theorem cast_self {A:Alg} {t:Ty} (h:Ty.beq t t=true) (x:A.V t):A.cast h x=x:=rfl
theorem casts_self {A:Alg} {t:Tys} (h:Tys.beq t t=true) (x:A.Vs t):A.casts h x=x:=rfl
abbrev bin (op:BinOp) (t:Nat) (x y:Operand) (u v:Value):Sem Value:=do eqGuard op t x y u v;binOp op t u v
theorem binInt_ok {op:BinOp} {t:Nat} {x y:Operand} {ka kb:IntKind} {m n:Int} {tb:Bool} {kk:L→Option R}
  (h:binV (realC R) tb op (.val (.int ka) m) (.val (.int kb) n) kk=some r):∃ l z,(bin op t x y (.int ka m) (.int kb n)).run P w=.ok z w∧RLf w ω s z l∧kk l=some r:=by
 by_cases hsh:op=.shl∨op=.shr
 ·have h':(bif rIsNeg n then none else kk (.val (.int ka) (rShift op ka m n)))=some r:=by
   rcases hsh with rfl | rfl <;> exact h
  cases hn:rIsNeg n with
  | true=>rw [hn] at h';cases h'
  | false =>
   rw [hn] at h'
   exact ⟨.val (.int ka) (rShift op ka m n),.int ka (rShift op ka m n),run_shift op t x y ka kb m n hsh (Int.not_lt.1 (of_decide_eq_false hn)),rfl,h'⟩
 ·have hk:ka=kb:=by
   by_cases hb:Ty.beq (.int kb) (.int ka)=true
   ·have:=Ty.eq_of_beq hb;injection this with e;exact e.symm
   ·exfalso
    cases op <;> simp only [binV,dif_neg hb] at h <;> first | (cases h;done) | exact hsh (.inl rfl) | exact hsh (.inr rfl)
  subst hk
  have hb:Ty.beq (.int ka) (.int ka)=true:=by simp [Ty.beq]
  by_cases hq:op=.quo∨op=.rem
  ·have h':(bif rIsZero n then none else kk (.val (.int ka) (rArith op ka m n)))=some r:=by
    rcases hq with rfl | rfl <;> (simp only [binV,dif_pos hb] at h;exact h)
   cases hn:rIsZero n with
   | true=>rw [hn] at h';cases h'
   | false =>
    rw [hn] at h'
    refine ⟨.val (.int ka) (rArith op ka m n),.int ka (rArith op ka m n),?_,rfl,h'⟩
    have:=run_binInt (P:=P) (w:=w) op t x y ka m n ⟨fun e=>hsh (.inl e),fun e=>hsh (.inr e)⟩ (fun _=>of_decide_eq_false hn)
    rcases hq with rfl | rfl <;> exact this
  ·have hr:=run_binInt (P:=P) (w:=w) op t x y ka m n ⟨fun e=>hsh (.inl e),fun e=>hsh (.inr e)⟩ (fun e=>absurd e hq)
   cases op <;> simp only [binV,dif_pos hb] at h <;>
    first
     | exact absurd (.inl rfl) hsh
     | exact absurd (.inr rfl) hsh
     | exact absurd (.inl rfl) hq
     | exact absurd (.inr rfl) hq
     | exact ⟨.val (.int ka) (rArith _ ka m n),_,hr,rfl,h⟩
     | exact ⟨.val .bool (rCmp _ m n),_,hr,rfl,h⟩
theorem binBool_ok (hE:EnvOk P E) {op:BinOp} {t:Nat} {x y:Operand} {m n:Bool} {kk:L→Option R}
  (h:binV (realC R) (isBoolTy E t) op (.val .bool m) (.val .bool n) kk=some r):∃ l z,(bin op t x y (.bool m) (.bool n)).run P w=.ok z w∧RLf w ω s z l∧kk l=some r:=by
 cases hb:isBoolTy E t with
 | false=>rw [hb] at h;cases h
 | true =>
  rw [hb] at h
  have hu:=isBoolTy_ok hE hb
  cases op <;> first
   | (cases h;done)
   | exact ⟨.val .bool (rBeq m n),_,run_binBool .eql t x y hu m n (.inl rfl),rfl,h⟩
   | exact ⟨.val .bool (!rBeq m n),_,run_binBool .neq t x y hu m n (.inr rfl),rfl,h⟩
theorem binStr_ok {op:BinOp} {t:Nat} {x y:Operand} {m n:ByteArray} {tb:Bool} {kk:L→Option R}
  (h:binV (realC R) tb op (.val .str m) (.val .str n) kk=some r):∃ l z,(bin op t x y (.string m) (.string n)).run P w=.ok z w∧RLf w ω s z l∧kk l=some r:=by
 by_cases ha:op=.add
 ·subst ha
  have h':(bif rSfits m n then kk (.val .str (m++n)) else none)=some r:=h
  cases hn:rSfits m n with
  | false=>rw [hn] at h';cases h'
  | true =>
   rw [hn] at h'
   exact ⟨.val .str (m++n),_,run_catStr t x y m n hn,rfl,h'⟩
 ·cases op <;> first
   | exact absurd rfl ha
   | (cases h;done)
   | exact ⟨.val .bool (rScmp _ m n),_,run_binStr _ t x y m n (by simp),rfl,h⟩
theorem binV_ok (hE:EnvOk P E) {op:BinOp} {t:Nat} {x y:Operand} {u v:Value} {lx ly:L} {kk:L→Option R} (hx:RLf w ω s u lx) (hy:RLf w ω s v ly)
  (h:binV (realC R) (isBoolTy E t) op lx ly kk=some r):∃ l z,(bin op t x y u v).run P w=.ok z w∧RLf w ω s z l∧kk l=some r:=by
 cases lx with
 | val tx x' =>
  cases ly with
  | val ty y' =>
   cases tx <;> cases ty <;> first
    | (cases h;done)
    | (have hu:u=.int _ x':=hx;have hv:v=.int _ y':=hy;subst hu;subst hv;exact binInt_ok h)
    | (have hu:u=.bool x':=hx;have hv:v=.bool y':=hy;subst hu;subst hv;exact binBool_ok hE h)
    | (have hu:u=.string x':=hx;have hv:v=.string y':=hy;subst hu;subst hv;exact binStr_ok h)
  | _=>cases tx <;> cases h
 | _=>cases h
theorem eqCells_ok:∀ (cs:Tys) (xs ys:List L) (us vs:List Value) (b:Bool),eqCells (A:=real) cs xs ys=some b→All2 (RLf w ω s) us xs→All2 (RLf w ω s) vs ys→Typed cs us∧Typed cs vs∧b=flatEq us vs
 | .nil,[],[],us,vs,b,h,hu,hv=>by
  cases us with
  | cons _ _=>exact hu.elim
  | nil =>
   cases vs with
   | cons _ _=>exact hv.elim
   | nil =>
    have h:=Option.some.inj h
    subst h
    exact ⟨trivial,trivial,rfl⟩
 | .cons t ts,x::xs,y::ys,[],vs,b,h,hu,hv=>hu.elim
 | .cons t ts,x::xs,y::ys,u::us,[],b,h,hu,hv=>hv.elim
 | .cons t ts,x::xs,y::ys,u::us,v::vs,b,h,hu,hv=>by
  cases x with
  | val tx x' =>
   cases y with
   | val ty y' =>
    simp only [eqCells] at h
    split at h
    ·rename_i h1
     split at h
     ·rename_i h2
      have e1:=Ty.eq_of_beq h1
      have e2:=Ty.eq_of_beq h2
      subst e1;subst e2
      cases ty with
      | int k =>
       simp only [eq1] at h
       cases hr:eqCells (A:=real) ts xs ys with
       | none=>rw [hr] at h;cases h
       | some r =>
        rw [hr] at h
        have h:=Option.some.inj h
        obtain ⟨q1,q2,q3⟩:=eqCells_ok ts xs ys us vs r hr hu.2 hv.2
        have hu1:u=.int k x':=hu.1
        have hv1:v=.int k y':=hv.1
        subst hu1;subst hv1
        refine ⟨⟨⟨_,rfl⟩,q1⟩,⟨⟨_,rfl⟩,q2⟩,?_⟩
        subst h;subst q3
        rfl
      | bool =>
       simp only [eq1] at h
       cases hr:eqCells (A:=real) ts xs ys with
       | none=>rw [hr] at h;cases h
       | some r =>
        rw [hr] at h
        have h:=Option.some.inj h
        obtain ⟨q1,q2,q3⟩:=eqCells_ok ts xs ys us vs r hr hu.2 hv.2
        have hu1:u=.bool x':=hu.1
        have hv1:v=.bool y':=hv.1
        subst hu1;subst hv1
        refine ⟨⟨⟨_,rfl⟩,q1⟩,⟨⟨_,rfl⟩,q2⟩,?_⟩
        subst h;subst q3
        rfl
      | str=>cases h
      | sl _ _=>cases h
     ·cases h
    ·cases h
   | _=>cases h
  | _=>cases h
 | .nil,_::_,_,_,_,_,h,_,_=>by cases h
 | .nil,[],_::_,_,_,_,h,_,_=>by cases h
 | .cons _ _,[],_,_,_,_,h,_,_=>by cases h
 | .cons _ _,x::_,[],_,_,_,h,_,_=>by
  exfalso
  cases x <;> cases h
theorem slice_of_cont {x:TVr} {v:Value} {c:Cont real} (hx:RTV w ω s v x) (hc:cont? s x=some c):∃ ad n cap,v=.slice ad n cap∧n=List.length c.x∧(ad=none→n=0):=by
 have key:∀ (e:Nat) (cs:Tys) (md:Md) (z:List cs.T),(Ty.sl e cs).R w ω md v z→∃ ad n cap,v=.slice ad n cap∧n=List.length z∧(ad=none→n=0):=by
  intro e cs md z h
  obtain ⟨ad,n,c,e1,e2,e3,e4,e5⟩:=h
  refine ⟨ad,n,c,e1,e2.symm,fun e=>?_⟩
  subst e
  cases md with
  | imm =>
   by_cases hn:0 < n
   ·obtain ⟨_,_,q,_⟩:=e4 hn
    cases q
   ·omega
  | flat k =>
   rcases e4 with ⟨_,q⟩ | ⟨_,_,q,_⟩
   ·exact q
   ·cases q
  | deep k =>
   rcases e4 with ⟨_,q⟩ | ⟨_,_,q,_⟩
   ·exact q
   ·cases q
 cases x with
 | one l =>
  cases l with
  | val t y =>
   cases t with
   | sl e cs =>
    have hc:=Option.some.inj hc
    subst hc
    exact key e cs .imm y hx
   | _=>cases hc
  | nilS e cs =>
   have hc:=Option.some.inj hc
   subst hc
   obtain ⟨a',e1⟩:=hx
   exact ⟨a',0,0,e1,rfl,fun _=>rfl⟩
  | ref id g h p=>exact key _ _ _ _ (hx.2.2 c hc)
  | _=>cases hc
 | _=>cases hc
theorem run_nilEq {t e:Nat} (hu:P.underlying t=some (.slice e)) (ad:Option Addr) (n c:Nat) (x y:Operand) (op:BinOp) (ho:op=.eql∨op=.neq) :
  (bin op t x y (.slice ad n c) (.slice none 0 0)).run P w=.ok (.bool (match op with | .eql=>ad.isNone | _=>!ad.isNone)) w:=by
 have h1:∀ d,(Op.equalIn (d+1) t (.slice ad n c) (.slice none 0 0)).run P w=.ok ad.isNone w:=by
  intro d
  cases ad <;> simp [Op.equalIn,run_underlying hu]
 have h2:(Op.equal t (.slice ad n c) (.slice none 0 0)).run P w=.ok ad.isNone w:=h1 9999
 rcases ho with rfl | rfl <;> simp [bin,eqGuard,binOp,h2]
theorem nilTest_ok (hE:EnvOk P E) {op:BinOp} {t:Nat} {x y:Operand} {l:L} (h:Rel ω a w s) (hn:nilTest E s op t x y=some l):∃ z,(bin op t x y (a.eval x) (a.eval y)).run P w=.ok z w∧RLf w ω s z l:=by
 have hx:=ev_ok h E t x
 unfold nilTest at hn
 split at hn
 ·split at hn
  ·rename_i q c h1 h2
   obtain ⟨u1,_⟩:=slOf_ok hE (e:=q.1) (cs:=q.2) h1
   obtain ⟨ad,n,cap,e1,e2,e3⟩:=slice_of_cont hx h2
   have hy:a.eval (.const (.slice none 0 0))=.slice none 0 0:=rfl
   split at hn
   ·have hn:=Option.some.inj hn
    subst hn
    refine ⟨_,by rw [e1,hy];exact run_nilEq u1 ad n cap x _ .eql (.inl rfl),_,rfl,fun hp=>?_⟩
    cases ad with
    | some _=>rfl
    | none =>
     exfalso
     have h0:n=0:=e3 rfl
     have hp:rCmp .gtr ((List.length c.x:Nat):Int) 0=true:=hp
     rw [←e2,h0] at hp
     exact absurd hp (by decide)
   ·have hn:=Option.some.inj hn
    subst hn
    refine ⟨_,by rw [e1,hy];exact run_nilEq u1 ad n cap x _ .neq (.inr rfl),_,rfl,fun hp=>?_⟩
    cases ad with
    | some _=>rfl
    | none =>
     exfalso
     have h0:n=0:=e3 rfl
     have hp:rCmp .gtr ((List.length c.x:Nat):Int) 0=true:=hp
     rw [←e2,h0] at hp
     exact absurd hp (by decide)
   ·cases hn
  ·cases hn
 ·cases hn
theorem exec_bin {op:BinOp} {t yt:Nat} {x y:Operand} (ho:o.op=.binOp op t x y yt) {z:Value} (h:(bin op t x y (a.eval x) (a.eval y)).run P w=.ok z w):(execOp a.eval o).run P w=.ok (.value z) w:=by
 unfold execOp
 simp only [ho]
 unfold bin at h
 rw [Sem.run_bind,h]
 rfl
theorem step_bin (hE:EnvOk P E) {op:BinOp} {t yt:Nat} {x y:Operand} (ho:o.op=.binOp op t x y yt) (h:Rel ω a w s) (hd:∀ d,o.dst=some d→d < a.tmps.size) {Φ:FKey→Option (Callee real (Option R))}
  (hk:stepC E (realC R) Φ o s k=some r):o.wp P a w (Ends ω a w o.dst k r) Q:=by
 have hx:=ev_ok h E t x
 have hy:=ev_ok h E t y
 unfold stepC at hk
 simp only [ho] at hk
 cases hnt:nilTest E s op t x y with
 | some l =>
  rw [hnt] at hk
  obtain ⟨z,h1,h2⟩:=nilTest_ok hE h hnt
  exact light_ok h hd (exec_bin ho h1) (t:=.one l) h2 hk
 | none =>
 rw [hnt] at hk
 simp only at hk
 generalize ev E s t x=tx at hx hk
 generalize ev E s t y=ty at hy hk
 split at hk
 ·obtain ⟨l,z,h1,h2,h3⟩:=binV_ok (x:=x) (y:=y) hE hx hy hk
  exact light_ok h hd (exec_bin ho h1) (t:=.one l) h2 h3
 ·rename_i xs ys
  obtain ⟨i,hi,hk⟩:=mapFail_some hk
  obtain ⟨(b:Bool),h1,h2⟩:=mapFail_some hk
  obtain ⟨us,e1,hu⟩:=hx
  obtain ⟨vs,e2,hv⟩:=hy
  cases hq:E.eqT t with
  | false=>rw [hq] at h1;cases h1
  | true =>
   rw [hq] at h1
   obtain ⟨k1,k2,k3⟩:=eqCells_ok i.cs xs ys us vs b h1 hu hv
   split at h2
   ·have:=hE.eqs t i hi hq .eql x y us vs w (.inl rfl) k1 k2
    exact light_ok h hd (exec_bin ho (by rw [e1,e2];exact this)) (t:=.one (.val .bool b)) (congrArg Value.bool k3.symm) h2
   ·have:=hE.eqs t i hi hq .neq x y us vs w (.inr rfl) k1 k2
    exact light_ok h hd (exec_bin ho (by rw [e1,e2];exact this)) (t:=.one (.val .bool (!b))) (congrArg (fun b=>Value.bool (!b)) k3.symm) h2
   ·cases h2
 ·cases hk
theorem step_un {op:UnOp} {t:Nat} {x:Operand} (ho:o.op=.unOp op t x) (h:Rel ω a w s) (hd:∀ d,o.dst=some d→d < a.tmps.size) {Φ:FKey→Option (Callee real (Option R))}
  (hk:stepC E (realC R) Φ o s k=some r):o.wp P a w (Ends ω a w o.dst k r) Q:=by
 have hx:=ev_ok h E t x
 unfold stepC at hk
 simp only [ho] at hk
 generalize ev E s t x=tx at hx hk
 split at hk
 ·rename_i b
  have hv:a.eval x=.bool b:=hx
  exact light_ok h hd (v:=.bool (!b)) (by unfold execOp;simp [ho,hv,Op.unary]) (t:=.one (.val .bool (real.notB b))) rfl hk
 ·rename_i kk n
  have hv:a.eval x=.int kk n:=hx
  exact light_ok h hd (v:=.int kk (rNeg kk n)) (by unfold execOp;simp [ho,hv,Op.unary,Op.intArith,rNeg]) (t:=.one (.val (.int kk) (real.neg kk n))) rfl hk
 ·cases hk
theorem step_convert (hE:EnvOk P E) {src dst:Nat} {x:Operand} (ho:o.op=.convert src dst x) (h:Rel ω a w s) (hd:∀ d,o.dst=some d→d < a.tmps.size) {Φ:FKey→Option (Callee real (Option R))}
  (hk:stepC E (realC R) Φ o s k=some r):o.wp P a w (Ends ω a w o.dst k r) Q:=by
 have hx:=ev_ok h E src x
 unfold stepC at hk
 simp only [ho] at hk
 obtain ⟨i0,h0,hk⟩:=mapFail_some hk
 obtain ⟨i,h1,hk⟩:=mapFail_some hk
 obtain ⟨_,_,ok0⟩:=hE.ti _ _ h0
 obtain ⟨_,_,ok⟩:=hE.ti _ _ h1
 cases hg:i.agg with
 | true=>rw [hg] at hk;cases hk
 | false =>
  rw [hg] at hk
  simp only [cond_false] at hk
  generalize ev E s src x=tx at hx hk
  split at hk
  ·rename_i j kk n hc
   have hv:a.eval x=.int kk n:=hx
   have hu:P.underlying dst=some (.int j):=by rw [ok.und,ok.intk j hc hg]
   refine light_ok h hd (v:=.int j (rConv j n)) ?_ (t:=.one (.val (.int j) (real.conv kk j n))) rfl hk
   unfold execOp
   simp [ho,hv,convert,run_underlying ok0.und,run_underlying hu,Conv.intToInt,rConv]
  ·cases hk
theorem RComp_mk {v:Value} {c:Bool×List L} (h:RComp w ω s v c):RTV w ω s v (TV.mk c.1 c.2):=by
 obtain ⟨b,ls⟩:=c
 cases b with
 | true=>exact h
 | false =>
  cases ls with
  | nil=>trivial
  | cons l ls =>
   cases ls with
   | nil=>exact h l rfl
   | cons _ _=>trivial
theorem step_extract {t:Operand} {i:Nat} (ho:o.op=.extract t i) (h:Rel ω a w s) (hd:∀ d,o.dst=some d→d < a.tmps.size) {Φ:FKey→Option (Callee real (Option R))}
  (hk:stepC E (realC R) Φ o s k=some r):o.wp P a w (Ends ω a w o.dst k r) Q:=by
 have hx:=ev_ok h E 0 t
 unfold stepC at hk
 simp only [ho] at hk
 generalize ev E s 0 t=tx at hx hk
 split at hk
 ·rename_i cs
  obtain ⟨c,h1,h2⟩:=mapFail_some hk
  obtain ⟨us,e1,hu⟩:=hx
  obtain ⟨v,h3,h4⟩:=hu.get i c h1
  exact light_ok h hd (v:=v) (by unfold execOp;simp [ho,e1,Instr.extract,h3]) (RComp_mk h4) h2
 ·cases hk
end
end Go.R
namespace Go.R
def mkVal (agg:Bool) (us:List Value):Value:=match agg with
 | true=>.agg us.toArray
 | false=>us.headD undef
theorem not_row {d:TypeDesc} (h:d.isRow=false):(∀ fs,d≠.struct fs)∧(∀ n e,d≠.array n e):=by
 constructor
 ·intro fs e;subst e;cases h
 ·intro n e' e;subst e;cases h
section
variable {R:Type} {P:Program} {E:Env} {ω:Own} {a:Act} {w:World} {s:S} {k:S→Option R} {r:R} {o:Oper} {Q:Exit→Act→World→Prop}
theorem run_isAgg {t:Nat} {i:TI} {I:TypeInfo} {d:TypeDesc} (ok:TIok P t i I d) (w:World):(isAgg t).run P w=.ok i.agg w:=by
 unfold isAgg
 rw [Sem.run_bind,run_underlying ok.und w,←ok.row]
 cases d <;> rfl
theorem run_loadAt' {t:Nat} {i:TI} {I:TypeInfo} {d:TypeDesc} (ok:TIok P t i I d) {b off:Nat} {us:List Value} (hr:w.rangeAt b off us) (hl:us.length=i.cs.len) :
  (Instr.loadAt t (.pointer (some ⟨b,off,none⟩))).run P w=.ok (mkVal i.agg us) w:=by
 cases hg:i.agg with
 | true =>
  exact run_loadAt_mid w b off t us d hr ok.und (by rw [ok.row,hg]) (by rw [ok.info];simp [ok.size,hl])
 | false =>
  have h1:=ok.one hg
  rw [h1] at hl
  match us,hl with
  | [u],_ =>
   have hc:=hr 0 u rfl
   simp only [Nat.add_zero] at hc
   have ha:=run_isAgg ok w
   rw [hg] at ha
   simp [Instr.loadAt,Instr.sureAddr,loadVar,Sem.run_bind,ha,mkVal,run_load,hc]
theorem exec_load {t:Nat} {x:Operand} (ho:o.op=.load t x) {z:Value} (h:(Instr.loadAt t (a.eval x)).run P w=.ok z w):(execOp a.eval o).run P w=.ok (.value z) w:=by
 unfold execOp
 simp only [ho]
 rw [Sem.run_bind,h]
 rfl
theorem RTV_mk {us:List Value} {ls:List L} (h:All2 (RLf w ω s) us ls) (agg:Bool):RTV w ω s (mkVal agg us) (TV.mk agg ls):=by
 cases agg with
 | true=>exact ⟨us,rfl,h⟩
 | false =>
  match us,ls,h with
  | [],[],_=>trivial
  | [u],[l],h=>exact h.1
  | _::_::_,_::_::_,_=>trivial
theorem Tys_R_unpack {w':World} (mk:Nat→(t:Ty)→real.V t→L):∀ (cs:Tys) (md:Nat→Md) (g:Nat→Option Value) (j:Nat) (x:cs.T),cs.R w ω md g j x →
  (∀ (k:Nat) (t:Ty) (y:t.T),cellAt (A:=real) cs x k=some ⟨t,y⟩→∀ v,t.R w ω (md (j+k)) v y→RLf w' ω s v (mk (j+k) t y)) →
  ∃ us:List Value,us.length=cs.len∧(∀ k u,us[k]? = some u→g (j+k)=some u)∧All2 (RLf w' ω s) us (unpack (A:=real) mk cs x j)
 | .nil,_,_,_,_,_,_=>⟨[],rfl,fun k u h=>by simp at h,trivial⟩
 | .cons t ts,md,g,j,x,h,hm=>by
  obtain ⟨⟨v,h1,h2⟩,h3⟩:=h
  obtain ⟨us,e1,e2,e3⟩:=Tys_R_unpack mk ts md g (j+1) _ h3 (fun k t' y hc v' hv=>by
   have:=hm (k+1) t' y hc v' (by rw [show j+(k+1)=j+1+k by omega];exact hv)
   rwa [show j+(k+1)=j+1+k by omega] at this)
  refine ⟨v::us,by simp [Tys.len,e1],fun k u hu=>?_,⟨hm 0 t _ rfl v h2,e3⟩⟩
  cases k with
  | zero=>simp at hu;rw [←hu];exact h1
  | succ k =>
   have:=e2 k u (by simpa using hu)
   rwa [show j+1+k=j+(k+1) by omega] at this
theorem unpack_length (mk:Nat→(t:Ty)→real.V t→L):∀ (cs:Tys) (x:cs.T) (j:Nat),(unpack (A:=real) mk cs x j).length=cs.len
 | .nil,_,_=>rfl
 | .cons t ts,x,j=>by
  have:=unpack_length mk ts (real.tl x) (j+1)
  simp only [unpack,Tys.len,List.length_cons]
  rw [this]
theorem range_part {b off:Nat} {us:List Value} (h:w.rangeAt b off us) (m n:Nat):w.rangeAt b (off+m) ((us.drop m).take n):=by
 intro j v hv
 have hj:j < n:=by
  have:=(List.getElem?_eq_some_iff.1 hv).1
  simp at this;omega
 rw [List.getElem?_take_of_lt hj,List.getElem?_drop] at hv
 have:=h (m+j) v hv
 rwa [←Nat.add_assoc] at this
theorem follow_snoc (md:Nat) (i:IV) (j:Nat):∀ (p:Pth) (e:Nat) (cs:Tys) (x:real.V (.sl e cs)) (c:Cont real),follow md e cs x p=some c →
  ∀ (e':Nat) (cs':Tys) (y:real.V (.sl e' cs')),cellAt c.cs (real.get c.x i) j=some ⟨.sl e' cs',y⟩→follow md e cs x (p++[(i,j)])=some ⟨e',cs',y,md⟩
 | [],e,cs,x,c,h,e',cs',y,hc=>by
  injection h with h
  subst h
  simp only [List.nil_append,follow]
  have hc':cellAt cs (real.get x i) j=some ⟨.sl e' cs',y⟩:=hc
  rw [hc']
 | (i',j')::p,e,cs,x,c,h,e',cs',y,hc=>by
  simp only [follow,List.cons_append] at h ⊢
  cases hq:cellAt cs (real.get x i') j' with
  | none=>rw [hq] at h;cases h
  | some z =>
   obtain ⟨t,z⟩:=z
   rw [hq] at h
   cases t with
   | sl e1 cs1=>exact follow_snoc md i j p _ _ z c h e' cs' y hc
   | _=>cases h
theorem follow_md (md:Nat):∀ (p:Pth) (e:Nat) (cs:Tys) (x:real.V (.sl e cs)) (c:Cont real),follow md e cs x p=some c→c.md=md
 | [],e,cs,x,c,h=>by injection h with h;rw [←h]
 | (i',j')::p,e,cs,x,c,h=>by
  simp only [follow] at h
  split at h
  ·exact follow_md md p _ _ _ c h
  ·cases h
theorem cont_spec {id g h : Nat} {p : Pth} {c : Cont real} (hc : s.cont id g h p = some c) : (s.ob id).g = g ∧
    ((∃ dp, (s.ob id).o = .arr c.e c.cs dp c.x ∧ p = [] ∧ c.md = bif dp then 2 else 1) ∨
     (∃ e cs x, (s.ob id).o = .arr e cs true x ∧ p ≠ [] ∧ (s.ob id).h = h ∧ follow 2 e cs x p = some c) ∨
     ((s.ob id).o = .imm c.e c.cs c.x ∧ p = [] ∧ c.md = 0)) := by
  unfold St.cont at hc
  cases hb : Nat.beq (s.ob id).g g with
  | false => rw [hb] at hc; cases hc
  | true =>
    rw [hb] at hc
    simp only [cond_true] at hc
    refine ⟨Nat.eq_of_beq_eq_true hb, ?_⟩
    unfold Slot.cont at hc
    cases ho : (s.ob id).o with
    | blk _ => rw [ho] at hc; cases hc
    | gone => rw [ho] at hc; cases hc
    | mp _ _ => rw [ho] at hc; cases hc
    | arr e cs dp x =>
      rw [ho] at hc
      cases p with
      | nil => injection hc with hc; subst hc; exact .inl ⟨dp, rfl, rfl, rfl⟩
      | cons st p =>
        simp only at hc
        cases hd : dp && Nat.beq (s.ob id).h h with
        | false => rw [hd] at hc; cases hc
        | true =>
          rw [hd] at hc
          rw [Bool.and_eq_true] at hd
          obtain ⟨rfl, hh⟩ := hd
          exact .inr (.inl ⟨e, cs, x, rfl, by simp, Nat.eq_of_beq_eq_true hh, hc⟩)
    | imm e cs x =>
      rw [ho] at hc
      cases p with
      | nil => injection hc with hc; subst hc; exact .inr (.inr ⟨rfl, rfl, rfl⟩)
      | cons st p => cases hc
theorem cont_snoc {id g h:Nat} {p:Pth} {c:Cont real} (hc:s.cont id g h p=some c) (hm:c.md=2) (i:IV) (j:Nat) {e':Nat} {cs':Tys} {y:real.V (.sl e' cs')}
  (hy:cellAt c.cs (real.get c.x i) j=some ⟨.sl e' cs',y⟩):s.cont id g (s.ob id).h (p++[(i,j)])=some ⟨e',cs',y,2⟩:=by
 obtain ⟨hg,h3⟩:=cont_spec hc
 have go:∀ (e:Nat) (cs:Tys) (x:real.V (.sl e cs)),(s.ob id).o=.arr e cs true x→follow 2 e cs x p=some c→s.cont id g (s.ob id).h (p++[(i,j)])=some ⟨e',cs',y,2⟩:=by
  intro e cs x ho hf
  have hs:=follow_snoc 2 i j p e cs x c hf e' cs' y hy
  unfold St.cont Slot.cont
  rw [hg,beq_self,ho]
  simp only [cond_true]
  cases hp:p++[(i,j)] with
  | nil=>simp at hp
  | cons st q =>
   rw [hp] at hs
   simp only [beq_self,Bool.and_self,cond_true]
   exact hs
 rcases h3 with ⟨dp,ho,hp,hmd⟩ | ⟨e,cs,x,ho,hp,hh,hf⟩ | ⟨ho,hp,hmd⟩
 ·have hdp:dp=true:=by cases dp with | true=>rfl | false=>rw [hm] at hmd;cases hmd
  subst hdp;subst hp
  refine go c.e c.cs c.x ho ?_
  obtain ⟨ce,ccs,cx,cmd⟩:=c
  simp only at hm
  subst hm
  rfl
 ·exact go e cs x ho hf
 ·rw [hm] at hmd;cases hmd
end
end Go.R
namespace Go.R
section
variable {R:Type} {P:Program} {E:Env} {ω:Own} {a:Act} {w:World} {s:S} {k:S→Option R} {r:R} {o:Oper} {Q:Exit→Act→World→Prop}
theorem imm_unpack {b o':Nat} {cs:Tys} {x:cs.T} (h:cs.R w ω (fun _=>.imm) (fun j=>w.cell? ⟨b,o'+j,none⟩) 0 x) :
  ∃ us:List Value,us.length=cs.len∧w.rangeAt b o' us∧All2 (RLf w ω s) us (unpack (A:=real) mkImm cs x 0):=by
 obtain ⟨us,h1,h2,h3⟩:=Tys_R_unpack (w':=w) (s:=s) (mkImm (A:=real)) cs (fun _=>.imm) _ 0 x h (fun k t y _ v hv=>hv)
 exact ⟨us,h1,fun j u hu=>by have:=h2 j u hu;simpa using this,h3⟩
theorem own_block {id md:Nat} {p:Pth} {e:Nat} {cs:Tys} {v:Value} {x:List cs.T} (hm:md≠0) (hp:md=1→p=[]) (h:(Ty.sl e cs).R w ω (modeOf md id p) v x) (hx:0 < x.length) :
  ∃ b arr c,v=.slice (some ⟨b,0,none⟩) x.length c∧x.length≤c∧w.heap[b]? = some (.cells arr e (0,0))∧arr.size=c*cs.len∧ω b=some (id,kpath p):=by
 obtain ⟨ad,n,c,h1,h2,h3,h4,_⟩:=h
 subst h2
 have key:Hd w ω e cs.len (.flat (id,kpath p)) ad x.length c:=by
  unfold modeOf at h4
  match md,hm,hp,h4 with
  | 1,_,hp,h4=>rw [hp rfl];exact h4
  | n+2,_,_,h4=>exact h4
 rcases key with ⟨e1,e2⟩ | ⟨b,arr,e1,e2,e3,e4⟩
 ·omega
 ·subst e1
  exact ⟨b,arr,c,h1,h3,e2,e3,e4⟩
theorem md_path {id g h:Nat} {p:Pth} {c:Cont real} (hc:s.cont id g h p=some c):(c.md=1→p=[])∧(c.md=0∨c.md=1∨c.md=2):=by
 obtain ⟨_,h3⟩:=cont_spec hc
 rcases h3 with ⟨dp,ho,hp,hmd⟩ | ⟨e,cs,x,ho,hp,hh,hf⟩ | ⟨ho,hp,hmd⟩
 ·exact ⟨fun _=>hp,by cases dp with | true=>exact .inr (.inr hmd) | false=>exact .inr (.inl hmd)⟩
 ·have:=follow_md 2 p e cs x c hf
  exact ⟨fun h=>(by rw [this] at h;cases h),.inr (.inr this)⟩
 ·exact ⟨fun _=>hp,.inl hmd⟩
theorem blkOf_ok {id g:Nat} {cells:List L} (hb:blkOf s id g=some cells):(s.ob id).g=g∧(s.ob id).o=.blk cells:=by
 unfold blkOf at hb
 cases hg:Nat.beq (s.ob id).g g with
 | false=>rw [hg] at hb;cases hb
 | true =>
  rw [hg] at hb
  simp only [cond_true] at hb
  refine ⟨Nat.eq_of_beq_eq_true hg,?_⟩
  cases ho:(s.ob id).o with
  | blk cs=>rw [ho] at hb;injection hb with hb;rw [hb]
  | _=>rw [ho] at hb;cases hb
theorem row_range {b:Nat} {arr:Array Value} {T:Nat} (hh:w.heap[b]? = some (.cells arr T (0,0))):w.rangeAt b 0 arr.toList:=by
 intro j v hv
 rw [Nat.zero_add,cell_of_row w b j arr T (0,0) hh]
 simpa using hv
theorem own_elem {id g h:Nat} {p:Pth} {c:Cont real} (hc:s.cont id g h p=some c) (hm:c.md≠0) {v:Value} (hr:(Ty.sl c.e c.cs).R w ω (modeOf c.md id p) v c.x) (i:IV) (h0:0≤IV.i i) (h1:IV.i i < (List.length c.x:Int)) :
  ∃ b arr cp,ω b=some (id,kpath p)∧w.heap[b]? = some (.cells arr c.e (0,0))∧arr.size=cp*c.cs.len∧List.length c.x≤cp∧v=.slice (some ⟨b,0,none⟩) (List.length c.x) cp ∧
   ∃ us:List Value,us.length=c.cs.len∧w.rangeAt b ((IV.i i).toNat*c.cs.len) us ∧
    All2 (RLf w ω s) us (unpack (A:=real) (mkAt s id g p i c.md) c.cs (real.get c.x i) 0):=by
 have hx:0 < List.length c.x:=by omega
 obtain ⟨b,arr,cp,e1,e2,e3,e4,e5⟩:=own_block hm (md_path hc).1 hr hx
 obtain ⟨ad,n,c',f1,f2,f3,f4,f5⟩:=hr
 rw [e1] at f1
 injection f1 with g1 g2 g3
 have hel:=f5 (IV.i i).toNat ⟨b,0,none⟩ (by omega) g1.symm
 refine ⟨b,arr,cp,e5,e3,e4,e2,e1,?_⟩
 have hg:real.get c.x i=List.getD c.x (IV.i i).toNat (zTs c.cs):=rfl
 rw [hg]
 obtain ⟨us,h1',h2',h3'⟩:=Tys_R_unpack (w':=w) (s:=s) (mkAt s id g p i c.md) c.cs _ _ 0 _ hel (fun k t y hcell v hv=>by
  rcases (md_path hc).2 with hm0 | hm1 | hm2
  ·exact absurd hm0 hm
  ·rw [hm1] at hv ⊢
   exact hv
  ·rw [hm2] at hv ⊢
   simp only [Nat.zero_add] at hv ⊢
   cases t with
   | sl e' cs' =>
    have hcs:=cont_snoc hc hm2 i k (e':=e') (cs':=cs') (y:=y) hcell
    refine ⟨by rw [(cont_spec hc).1];exact Nat.le_refl _,by simp,fun c'' hc''=>?_⟩
    rw [hcs] at hc''
    injection hc'' with hc''
    subst hc''
    have:modeOf 2 id (p++[(i,k)])=(modeOf 2 id p).inner (IV.i i).toNat k:=by
     simp [modeOf,Md.inner,kpath]
    rw [this]
    exact hv
   | int _=>exact hv
   | bool=>exact hv
   | str=>exact hv)
 exact ⟨us,h1',fun j u hu=>by have:=h2' j u hu;simpa using this,h3'⟩
theorem loadV_ok (h:Rel ω a w s) {t:Nat} {i:TI} {I:TypeInfo} {d:TypeDesc} (ok:TIok P t i I d) {v:Value} {l:L} (hl:RLf w ω s v l) {z:TVr} (hz:loadV s i.agg i.cs.len l=some z) :
  ∃ u,(Instr.loadAt t v).run P w=.ok u w∧RTV w ω s u z:=by
 cases l with
 | ptr id g off =>
  simp only [loadV] at hz
  cases hb:blkOf s id g with
  | none=>rw [hb] at hz;cases hz
  | some cells =>
   rw [hb] at hz
   simp only at hz
   split at hz
   ·rename_i hle
    injection hz with hz
    subst hz
    obtain ⟨e1,e2⟩:=blkOf_ok hb
    obtain ⟨b,f1,f2⟩:=hl.2 e1 cells e2
    obtain ⟨b',arr,T,g1,g2,g3⟩:=h.blks id cells e2
    obtain rfl:=h.inj _ _ _ f1 g1
    subst f2
    have hlen:=g3.length
    refine ⟨_,run_loadAt' ok (us:=(arr.toList.drop off).take i.cs.len) (by have:=range_part (row_range g2) off i.cs.len;simpa using this) (by simp at hlen ⊢;omega),RTV_mk ((g3.drop off).take _) i.agg⟩
   ·cases hz
 | eptr id g hh p j off =>
  simp only [loadV] at hz
  cases hc:s.cont id g hh p with
  | none=>rw [hc] at hz;cases hz
  | some c =>
   rw [hc] at hz
   simp only at hz
   have hm:c.md≠0:=by
    intro e
    rw [e] at hz
    cases hz
   rw [beq_ne hm] at hz
   simp only [cond_false] at hz
   split at hz
   ·rename_i hle
    injection hz with hz
    subst hz
    obtain ⟨h0,h1,⟨b,f1,f2⟩,v',f3⟩:=hl.2.2 c hc hm
    obtain ⟨b',arr,cp,g1,g2,g3,g4,g5,us,u1,u2,u3⟩:=own_elem hc hm f3 j h0 h1
    obtain rfl:=h.inj _ _ _ f1 g1
    subst f2
    have hlen:=unpack_length (mkAt s id g p j c.md) c.cs (real.get c.x j) 0
    rw [hlen] at hle
    refine ⟨_,run_loadAt' ok (us:=(us.drop off).take i.cs.len) (range_part u2 off i.cs.len) (by simp;omega),RTV_mk ((u3.drop off).take _) i.agg⟩
   ·cases hz
 | iptr cs x off =>
  simp only [loadV] at hz
  split at hz
  ·rename_i hle
   injection hz with hz
   subst hz
   obtain ⟨b,o',f1,f2,f3,f4⟩:=hl
   subst f3
   obtain ⟨us,u1,u2,u3⟩:=imm_unpack (s:=s) f4
   have hlen:=unpack_length (mkImm (A:=real)) cs x 0
   rw [hlen] at hle
   exact ⟨_,run_loadAt' ok (us:=(us.drop off).take i.cs.len) (range_part u2 off i.cs.len) (by simp;omega),RTV_mk ((u3.drop off).take _) i.agg⟩
  ·cases hz
 | _=>cases hz
theorem step_load (hE:EnvOk P E) {t:Nat} {x:Operand} (ho:o.op=.load t x) (h:Rel ω a w s) (hd:∀ d,o.dst=some d→d < a.tmps.size) {Φ:FKey→Option (Callee real (Option R))}
  (hk:stepC E (realC R) Φ o s k=some r):o.wp P a w (Ends ω a w o.dst k r) Q:=by
 have hx:=ev_ok h E 0 x
 unfold stepC at hk
 simp only [ho] at hk
 obtain ⟨i,h1,hk⟩:=mapFail_some hk
 obtain ⟨I,d,ok⟩:=hE.ti _ _ h1
 generalize ev E s 0 x=tx at hx hk
 split at hk
 ·obtain ⟨z,h2,hk⟩:=mapFail_some hk
  obtain ⟨u,h3,h4⟩:=loadV_ok h ok hx h2
  exact light_ok h hd (exec_load ho h3) h4 hk
 ·cases hk
theorem mapM_caps (h:Rel ω a w s):∀ (xs:List Operand) (cc:List (Cap real)),(xs.mapM fun c=>capOf (ev E s 0 c))=some cc→All2 (fun v c=>RCap w ω s v c) (xs.map a.eval) cc
 | [],cc,hc=>by
  have:cc=[]:=by simpa using hc.symm
  subst this;trivial
 | x::xs,cc,hc=>by
  rw [List.mapM_cons] at hc
  obtain ⟨c,h1,hc⟩:=Option.bind_eq_some_iff.1 hc
  obtain ⟨cs,h2,hc⟩:=Option.bind_eq_some_iff.1 hc
  have:cc=c::cs:=by simpa using hc.symm
  subst this
  refine ⟨?_,mapM_caps h xs cs h2⟩
  have hx:=ev_ok h E 0 x
  unfold capOf at h1
  split at h1
  ·rename_i id g e;rw [e] at hx;injection h1 with h1;subst h1;exact hx
  ·rename_i cs x e;rw [e] at hx;injection h1 with h1;subst h1;exact hx
  ·cases h1
theorem step_makeFunc {f:FuncId} {first captured:Array Operand} (ho:o.op=.makeFunc (.func f) first captured) (h:Rel ω a w s) (hd:∀ d,o.dst=some d→d < a.tmps.size) {Φ:FKey→Option (Callee real (Option R))}
  (hk:stepC E (realC R) Φ o s k=some r):o.wp P a w (Ends ω a w o.dst k r) Q:=by
 unfold stepC at hk
 simp only [ho] at hk
 cases hs:Nat.beq first.size 0 with
 | false=>rw [hs] at hk;cases hk
 | true =>
  rw [hs] at hk
  obtain ⟨cc,h1,h2⟩:=mapFail_some hk
  have hf:first = #[]:=Array.eq_empty_of_size_eq_zero (Nat.eq_of_beq_eq_true hs)
  subst hf
  refine light_ok h hd (v:=.func (.func f) #[] (captured.map a.eval)) ?_ (t:=.one (.fn f cc)) ⟨captured.toList.map a.eval,?_,mapM_caps h _ _ h1⟩ h2
  ·unfold execOp
   simp [ho,Instr.makeFunc]
  ·congr 1
   apply Array.ext'
   simp
theorem step_field (hE:EnvOk P E) {t f:Nat} {x:Operand} (ho:o.op=.field t x f) (h:Rel ω a w s) (hd:∀ d,o.dst=some d→d < a.tmps.size) {Φ:FKey→Option (Callee real (Option R))}
  (hk:stepC E (realC R) Φ o s k=some r):o.wp P a w (Ends ω a w o.dst k r) Q:=by
 have hx:=ev_ok h E t x
 unfold stepC at hk
 simp only [ho] at hk
 obtain ⟨i,h1,hk⟩:=mapFail_some hk
 obtain ⟨q,h2,hk⟩:=mapFail_some hk
 obtain ⟨I,d,ok⟩:=hE.ti _ _ h1
 have hagg:i.agg=true:=by
  cases hg:i.agg with
  | true=>rfl
  | false=>rw [hg] at hk;cases hk
 rw [hagg] at hk
 simp only [Bool.not_true,cond_false] at hk
 obtain ⟨fs,g1,g2,g3⟩:=ok.flds hagg
 obtain ⟨F,FI,Fd,f1,f2,f3,f4,f5,f6,f7,f8'⟩:=g3 f q h2
 subst g1
 generalize ev E s t x=tx at hx hk
 split at hk
 ·rename_i ls
  obtain ⟨us,e1,hu⟩:=hx
  cases hb:Nat.ble (q.1+q.2.1) ls.length with
  | false=>rw [hb] at hk;cases hk
  | true =>
   rw [hb] at hk
   simp only [cond_true] at hk
   have hle:=Nat.le_of_ble_eq_true hb
   have hlen:=hu.length
   refine light_ok h hd (v:=mkVal q.2.2 ((us.drop q.1).take q.2.1)) ?_ (RTV_mk ((hu.drop q.1).take q.2.1) q.2.2) hk
   have hpart:(part F.type us.toArray F.offset).run P w=.ok (mkVal q.2.2 ((us.drop q.1).take q.2.1)) w:=by
    have ha:(isAgg F.type).run P w=.ok q.2.2 w:=by
     unfold isAgg
     rw [Sem.run_bind,run_underlying f6 w,←f7]
     cases Fd <;> rfl
    unfold part
    rw [Sem.run_bind,ha]
    cases hq:q.2.2 with
    | true =>
     simp [sizeOf,typeInfo,f3,f4,f2,mkVal]
    | false =>
     have h1:=f8' hq
     have hlt:q.1 < us.length:=by omega
     rw [h1]
     simp [f2,mkVal,List.getElem?_eq_getElem hlt]
     rw [List.drop_eq_getElem_cons hlt]
     rfl
   unfold execOp
   simp only [ho,e1]
   simp [Instr.field,run_underlying ok.und,f1,asAgg,hpart]
 ·cases hk
theorem step_fieldAddr (hE:EnvOk P E) {t f:Nat} {x:Operand} (ho:o.op=.fieldAddr t x f) (h:Rel ω a w s) (hd:∀ d,o.dst=some d→d < a.tmps.size) {Φ:FKey→Option (Callee real (Option R))}
  (hk:stepC E (realC R) Φ o s k=some r):o.wp P a w (Ends ω a w o.dst k r) Q:=by
 have hx:=ev_ok h E 0 x
 unfold stepC at hk
 simp only [ho] at hk
 obtain ⟨i,h1,hk⟩:=mapFail_some hk
 obtain ⟨q,h2,hk⟩:=mapFail_some hk
 obtain ⟨I,d,ok⟩:=hE.ti _ _ h1
 have hagg:i.agg=true:=by
  cases hg:i.agg with
  | true=>rfl
  | false=>rw [hg] at hk;cases hk
 rw [hagg] at hk
 simp only [Bool.not_true,cond_false] at hk
 obtain ⟨fs,g1,g2,g3⟩:=ok.flds hagg
 obtain ⟨F,FI,Fd,f1,f2,f3,f4,f5,f6,f7,f8'⟩:=g3 f q h2
 subst g1
 have hrun:∀ b off,(Instr.fieldAt t (.pointer (some ⟨b,off,none⟩)) f).run P w=.ok (.pointer (some ⟨b,off+q.1,none⟩)) w:=by
  intro b off
  have hn:FI.size≠0:=by omega
  simp [Instr.fieldAt,run_underlying ok.und,f1,Instr.sureAddr,fieldPlace,sizeOf,typeInfo,f3,hn,Addr.add_mid,f2]
 have hex:∀ z,(Instr.fieldAt t (a.eval x) f).run P w=.ok z w→(execOp a.eval o).run P w=.ok (.value z) w:=by
  intro z hz
  unfold execOp
  simp only [ho]
  rw [Sem.run_bind,hz]
  rfl
 generalize ev E s 0 x=tx at hx hk
 generalize hv:a.eval x=v at hx hex
 split at hk
 ·rename_i id g off
  obtain ⟨cells,h3,hk⟩:=mapFail_some hk
  obtain ⟨e1,e2⟩:=blkOf_ok h3
  obtain ⟨b,f8,f9⟩:=hx.2 e1 cells e2
  subst f9
  exact light_ok h hd (hex _ (hrun b off)) (t:=.one (.ptr id g (off+q.1))) ⟨hx.1,fun hg cells' hc=>⟨b,f8,rfl⟩⟩ hk
 ·rename_i id g hh p j off
  obtain ⟨c,h3,hk⟩:=mapFail_some hk
  have hm:c.md≠0:=by
   intro e
   rw [e] at hk
   cases hk
  rw [beq_ne hm] at hk
  obtain ⟨u1,u2,⟨b,f8,f9⟩,u3⟩:=hx.2.2 c h3 hm
  subst f9
  refine light_ok h hd (hex _ (hrun b _)) (t:=.one (.eptr id g hh p j (off+q.1))) ⟨hx.1,hx.2.1,fun c' hc' hm'=>?_⟩ hk
  rw [h3] at hc'
  injection hc' with hc'
  subst hc'
  exact ⟨u1,u2,⟨b,f8,by rw [Nat.add_assoc]⟩,u3⟩
 ·rename_i cs y off
  obtain ⟨b,o',u1,u2,u3,u4⟩:=hx
  subst u3
  exact light_ok h hd (hex _ (hrun b _)) (t:=.one (.iptr cs y (off+q.1))) ⟨b,o',u1,u2,by rw [Nat.add_assoc],u4⟩ hk
 ·cases hk
theorem step_nilCheck {x:Operand} (ho:o.op=.nilCheck x) (h:Rel ω a w s) (hd:∀ d,o.dst=some d→d < a.tmps.size) {Φ:FKey→Option (Callee real (Option R))}
  (hk:stepC E (realC R) Φ o s k=some r):o.wp P a w (Ends ω a w o.dst k r) Q:=by
 have hx:=ev_ok h E 0 x
 unfold stepC at hk
 simp only [ho] at hk
 have hex:∀ ad,a.eval x=.pointer (some ad)→(execOp a.eval o).run P w=.ok (.value (.pointer (some ad))) w:=by
  intro ad hz
  unfold execOp
  simp [ho,hz]
 generalize ev E s 0 x=tx at hx hk
 generalize hv:a.eval x=v at hx hex
 split at hk
 ·rename_i id g off
  obtain ⟨cells,h3,hk⟩:=mapFail_some hk
  obtain ⟨e1,e2⟩:=blkOf_ok h3
  obtain ⟨b,f8,f9⟩:=hx.2 e1 cells e2
  exact light_ok h hd (by rw [hex _ f9,←f9]) hx hk
 ·rename_i id g hh p j off
  obtain ⟨c,h3,hk⟩:=mapFail_some hk
  have hm:c.md≠0:=by
   intro e
   rw [e] at hk
   cases hk
  rw [beq_ne hm] at hk
  obtain ⟨u1,u2,⟨b,f8,f9⟩,u3⟩:=hx.2.2 c h3 hm
  exact light_ok h hd (by rw [hex _ f9,←f9]) hx hk
 ·rename_i cs y off
  obtain ⟨b,o',u1,u2,u3,u4⟩:=hx
  exact light_ok h hd (by rw [hex _ u3,←u3]) (t:=.one (.iptr cs y off)) ⟨b,o',u1,u2,u3,u4⟩ hk
 ·cases hk
end
end Go.R
namespace Go.R
section
variable {R:Type} {P:Program} {E:Env} {ω:Own} {a:Act} {w:World} {s:S} {k:S→Option R} {r:R} {o:Oper} {Q:Exit→Act→World→Prop}
theorem run_indexAt (hE:EnvOk P E) {t e:Nat} {cs:Tys} (hs:E.slOf t=some (e,cs)) (b off n c:Nat) (i:Int) (h0:0≤i) (h1:i < (n:Int)) :
  (Instr.indexAt t (.slice (some ⟨b,off,none⟩) n c) (.int .i64 i)).run P w=.ok (.pointer (some ⟨b,off+i.toNat*cs.len,none⟩)) w:=by
 obtain ⟨hu,j,I,d,hj,hcs,ok⟩:=slOf_ok hE hs
 have hsz:I.size=cs.len:=by rw [ok.size,hcs]
 simp [Instr.indexAt,asIntOf,run_underlying hu,h0,h1,sizeOf,typeInfo,ok.info,hsz,Addr.add_mid]
theorem inR_ok {α:Type} {x:List α} {i:Int} (h:rInR x i=true):0≤i∧i < (x.length:Int):=by
 unfold rInR at h
 rw [Bool.and_eq_true] at h
 exact ⟨of_decide_eq_true h.1,of_decide_eq_true h.2⟩
theorem imm_elem {e:Nat} {cs:Tys} {v:Value} {x:List cs.T} (h:(Ty.sl e cs).R w ω .imm v x) {i:Int} (h0:0≤i) (h1:i < (x.length:Int)) :
  ∃ b off c,v=.slice (some ⟨b,off,none⟩) x.length c∧ω b=none∧b < w.heap.size∧cs.R w ω (fun _=>.imm) (fun j=>w.cell? ⟨b,off+i.toNat*cs.len+j,none⟩) 0 (rGet (zTs cs) x i):=by
 obtain ⟨ad,n,c,e1,e2,e3,e4,e5⟩:=h
 subst e2
 obtain ⟨b,off,f1,f2,f3⟩:=e4 (by omega)
 subst f1
 exact ⟨b,off,c,e1,f2,f3,e5 i.toNat _ (by omega) rfl⟩
theorem step_indexAddr (hE:EnvOk P E) {t:Nat} {x ix:Operand} (ho:o.op=.indexAddr t x ix) (h:Rel ω a w s) (hd:∀ d,o.dst=some d→d < a.tmps.size) {Φ:FKey→Option (Callee real (Option R))}
  (hk:stepC E (realC R) Φ o s k=some r):o.wp P a w (Ends ω a w o.dst k r) Q:=by
 have hx:=ev_ok h E t x
 have hi:=ev_ok h E 3 ix
 unfold stepC at hk
 simp only [ho] at hk
 obtain ⟨(i:Int),h1,hk⟩:=mapFail_some hk
 obtain ⟨⟨e,cs⟩,h2,hk⟩:=mapFail_some hk
 have hiv:=int?_ok h1 hi
 have hex:∀ z,(Instr.indexAt t (a.eval x) (.int .i64 i)).run P w=.ok z w→(execOp a.eval o).run P w=.ok (.value z) w:=by
  intro z hz
  unfold execOp
  simp only [ho,hiv]
  rw [Sem.run_bind,hz]
  rfl
 generalize ev E s t x=tx at hx hk
 generalize hv:a.eval x=v at hx hex
 split at hk
 ·rename_i e' cs' y
  cases hb:Tys.beq cs cs' with
  | false=>simp only [hb] at hk;cases hk
  | true =>
   simp only [hb,cond_true] at hk
   obtain rfl:=Tys.eq_of_beq hb
   have hk':(bif rInR y i then k (s.setO o.dst (.one (.iptr cs (real.get (e:=e') y i) 0))) else none)=some r:=hk
   cases hr:rInR y i with
   | false=>rw [hr] at hk';cases hk'
   | true =>
    rw [hr] at hk'
    obtain ⟨h0,h1'⟩:=inR_ok hr
    obtain ⟨b,off,c,f1,f2,f3,f4⟩:=imm_elem hx h0 h1'
    subst f1
    exact light_ok h hd (hex _ (run_indexAt hE h2 b off _ c i h0 h1')) (t:=.one (.iptr cs (real.get (e:=e') y i) 0)) ⟨b,_,f2,f3,rfl,f4⟩ hk'
 ·rename_i id g hh p
  obtain ⟨c,h3,hk2⟩:=mapFail_some hk
  clear hk
  cases hb:Tys.beq cs c.cs with
  | false=>simp only [hb] at hk2;cases hk2
  | true =>
   simp only [hb,cond_true] at hk2
   obtain rfl:=Tys.eq_of_beq hb
   have hk':(bif rInR c.x i then (bif Nat.beq c.md 0 then k (s.setO o.dst (.one (.iptr c.cs (real.get c.x i) 0))) else k (s.setO o.dst (.one (.eptr id g hh p i 0)))) else none)=some r:=hk2
   cases hr:rInR c.x i with
   | false=>rw [hr] at hk';cases hk'
   | true =>
    rw [hr] at hk'
    simp only [cond_true] at hk'
    obtain ⟨h0,h1'⟩:=inR_ok hr
    have hR:=hx.2.2 c h3
    by_cases hm:c.md=0
    ·rw [hm] at hk' hR
     obtain ⟨b,off,cp,f1,f2,f3,f4⟩:=imm_elem hR h0 h1'
     subst f1
     exact light_ok h hd (hex _ (run_indexAt hE h2 b off _ cp i h0 h1')) (t:=.one (.iptr c.cs (real.get c.x i) 0)) ⟨b,_,f2,f3,rfl,f4⟩ hk'
    ·rw [beq_ne hm] at hk'
     obtain ⟨b,arr,cp,g1,g2,g3,g4,g5,us,u1,u2,u3⟩:=own_elem h3 hm hR i h0 h1'
     subst g5
     refine light_ok h hd (hex _ (run_indexAt hE h2 b 0 _ cp i h0 h1')) (t:=.one (.eptr id g hh p i 0)) ⟨hx.1,hx.2.1,fun c' hc' hm'=>?_⟩ hk'
     rw [h3] at hc'
     injection hc' with hc'
     subst hc'
     exact ⟨h0,h1',⟨b,g1,by simp;rfl⟩,_,hR⟩
 ·cases hk
theorem isStrTy_ok (hE:EnvOk P E) {t:Nat} (h:isStrTy E t=true):P.underlying t=some .string:=by
 unfold isStrTy at h
 split at h
 ·rename_i i hi
  obtain ⟨I,d,ok⟩:=hE.ti _ _ hi
  rw [Bool.and_eq_true] at h
  obtain ⟨h1,h2⟩:=h
  have hc:i.cs=.cons .str .nil:=by
   split at h1
   ·rename_i e;exact e
   ·cases h1
  rw [ok.und,ok.strk hc (by simpa using h2)]
 ·cases h
theorem intk?_ok {t:TVr} {kk:IntKind} {i:Int} {v:Value} (h:intk? t=some (⟨kk,i⟩:Sigma fun k=>real.V (.int k))) (hr:RTV w ω s v t):v=.int kk i:=by
 unfold intk? at h
 split at h
 ·injection h with h
  injection h with e1 e2
  subst e1
  subst e2
  exact hr
 ·cases h
theorem step_index (hE:EnvOk P E) {t:Nat} {x ix:Operand} (ho:o.op=.index t x ix) (h:Rel ω a w s) (hd:∀ d,o.dst=some d→d < a.tmps.size) {Φ:FKey→Option (Callee real (Option R))}
  (hk:stepC E (realC R) Φ o s k=some r):o.wp P a w (Ends ω a w o.dst k r) Q:=by
 have hx:=ev_ok h E t x
 have hi:=ev_ok h E 3 ix
 unfold stepC at hk
 simp only [ho] at hk
 cases hb:isStrTy E t with
 | false=>rw [hb] at hk;cases hk
 | true =>
  rw [hb] at hk
  simp only [cond_true] at hk
  obtain ⟨⟨ik,(i:Int)⟩,h1,hk⟩:=mapFail_some hk
  obtain ⟨(y:ByteArray),h2,hk⟩:=mapFail_some hk
  have hiv:=intk?_ok h1 hi
  have hxv:=str?_ok h2 hx
  have hu:=isStrTy_ok hE hb
  have hk':(bif rSin y i then k (s.setO o.dst (.one (.val (.int .u8) (sbyte y i)))) else none)=some r:=hk
  cases hr:rSin y i with
  | false=>rw [hr] at hk';cases hk'
  | true =>
   rw [hr] at hk'
   unfold rSin at hr
   rw [Bool.and_eq_true] at hr
   have h0:=of_decide_eq_true hr.1
   have h3:=of_decide_eq_true hr.2
   have hlt:i.toNat < y.size:=by omega
   refine light_ok h hd (v:=.int .u8 (sbyte y i)) ?_ (t:=.one (.val (.int .u8) (sbyte y i))) rfl hk'
   unfold execOp
   simp [ho,hxv,hiv,Instr.index,asIntOf,run_underlying hu,h0,sbyte,hlt]
theorem cont?_ok {t:TVr} {v:Value} {c:Cont real} (h:cont? s t=some c) (hr:RTV w ω s v t):∃ ad cp,v=.slice ad (List.length c.x) cp∧List.length c.x≤cp:=by
 unfold cont? at h
 split at h
 ·injection h with h
  subst h
  obtain ⟨ad,n,cp,e1,e2,e3,_⟩:=hr
  subst e2
  exact ⟨ad,cp,e1,e3⟩
 ·injection h with h
  subst h
  obtain ⟨ad,e1⟩:=hr
  exact ⟨ad,0,e1,Nat.le_refl _⟩
 ·obtain ⟨ad,n,cp,e1,e2,e3,_⟩:=hr.2.2 c h
  subst e2
  exact ⟨ad,cp,e1,e3⟩
 ·cases h
theorem exec_builtin {b:Builtin} {args:Array Operand} {tys:Array Nat} (ho:o.op=.call ⟨.builtin b,args,tys⟩) {z:Next} {w':World}
  (h:(builtin b tys o.type (args.map fun | .const _=>true | _=>false) (args.map a.eval)).run P w=.ok z w'):(execOp a.eval o).run P w=.ok z w':=by
 unfold execOp
 simp only [ho,resolve]
 rw [Sem.run_bind]
 exact h
theorem zip2 {α β:Type} (xs:Array α) (ys:Array β) {γ:Type} (f:α×β→γ) {l:List γ} (h:(xs.toList.zip ys.toList).map f=l):True:=trivial
theorem step_small (hE:EnvOk P E) {b:Builtin} {args:Array Operand} {tys:Array Nat} (ho:o.op=.call ⟨.builtin b,args,tys⟩) (hb:b=.len∨b=.min∨b=.max) (hsz:args.size=tys.size) (h:Rel ω a w s) (hd:∀ d,o.dst=some d→d < a.tmps.size) {Φ:FKey→Option (Callee real (Option R))}
  (hk:stepC E (realC R) Φ o s k=some r):o.wp P a w (Ends ω a w o.dst k r) Q:=by
 unfold stepC at hk
 have hszb:Nat.beq args.size tys.size=true:=by rw [hsz];exact Nat.beq_refl _
 simp only [ho,hszb,cond_true] at hk
 obtain ⟨args⟩:=args
 obtain ⟨tys⟩:=tys
 simp only at hk hsz
 have hsz':args.length=tys.length:=by simpa using hsz
 rcases hb with rfl | rfl | rfl
 ·match args,tys,hsz' with
  | [x],[t],_ =>
   have hx:=ev_ok h E t x
   simp only [List.zip_cons_cons,List.zip_nil_right,List.map_cons,List.map_nil,builtinV] at hk
   cases hb:isStrTy E t with
   | true =>
    rw [hb] at hk
    simp only [cond_true] at hk
    obtain ⟨(y:ByteArray),h2,hk⟩:=mapFail_some hk
    have hxv:=str?_ok h2 hx
    refine light_ok h hd (v:=.int .i64 (y.size:Int)) ?_ (t:=.one (.val (.int .i64) (real.slen y))) rfl hk
    refine exec_builtin ho ?_
    simp [builtin,Builtin.len_,run_underlying (isStrTy_ok hE hb),hxv,goInt]
   | false =>
    rw [hb] at hk
    simp only [cond_false] at hk
    obtain ⟨⟨e,cs⟩,h1,hk⟩:=mapFail_some hk
    obtain ⟨c,h2,hk⟩:=mapFail_some hk
    obtain ⟨ad,cp,e1,_⟩:=cont?_ok h2 hx
    refine light_ok h hd (v:=.int .i64 (List.length c.x:Int)) ?_ (t:=.one (.val (.int .i64) (real.len c.x))) rfl hk
    refine exec_builtin ho ?_
    simp [builtin,Builtin.len_,run_underlying (slOf_ok hE h1).1,e1,goInt]
  | [],[],_=>cases hk
  | _::_::_,_::_::_,_=>cases hk
 ·match args,tys,hsz' with
  | [x,y],[t,t'],_ =>
   have hx:=ev_ok h E t x
   have hy:=ev_ok h E t' y
   simp only [List.zip_cons_cons,List.zip_nil_right,List.map_cons,List.map_nil,builtinV] at hk
   obtain ⟨(m:Int),h1,hk⟩:=mapFail_some hk
   obtain ⟨(n:Int),h2,hk⟩:=mapFail_some hk
   have hxv:=int?_ok h1 hx
   have hyv:=int?_ok h2 hy
   refine light_ok h hd (v:=.int .i64 (rMxmn false m n)) ?_ (t:=.one (.val (.int .i64) (real.mxmn false .i64 m n))) rfl hk
   refine exec_builtin ho ?_
   simp [builtin,Builtin.min_,Builtin.min2,hxv,hyv,rMxmn]
  | [],[],_=>cases hk
  | [_],[_],_=>cases hk
  | _::_::_::_,_::_::_::_,_=>cases hk
 ·match args,tys,hsz' with
  | [x,y],[t,t'],_ =>
   have hx:=ev_ok h E t x
   have hy:=ev_ok h E t' y
   simp only [List.zip_cons_cons,List.zip_nil_right,List.map_cons,List.map_nil,builtinV] at hk
   obtain ⟨(m:Int),h1,hk⟩:=mapFail_some hk
   obtain ⟨(n:Int),h2,hk⟩:=mapFail_some hk
   have hxv:=int?_ok h1 hx
   have hyv:=int?_ok h2 hy
   refine light_ok h hd (v:=.int .i64 (rMxmn true m n)) ?_ (t:=.one (.val (.int .i64) (real.mxmn true .i64 m n))) rfl hk
   refine exec_builtin ho ?_
   simp [builtin,Builtin.max_,Builtin.max2,hxv,hyv,rMxmn]
  | [],[],_=>cases hk
  | [_],[_],_=>cases hk
  | _::_::_::_,_::_::_::_,_=>cases hk
end
end Go.R
namespace Go.R
section
variable {R:Type} {P:Program} {E:Env} {ω:Own} {a:Act} {w:World} {s:S} {k:S→Option R} {r:R} {o:Oper} {Q:Exit→Act→World→Prop}
theorem mpOf_ok {id g:Nat} {q:Sigma fun k=>real.V (.sl 0 (Tys.mp k))} (h:mpOf s id g=some q):(s.ob id).g=g∧(s.ob id).o=.mp q.1 q.2:=by
 unfold mpOf at h
 cases hb:Nat.beq (s.ob id).g g with
 | false=>rw [hb] at h;cases h
 | true =>
  rw [hb] at h
  simp only [cond_true] at h
  refine ⟨Nat.eq_of_beq_eq_true hb,?_⟩
  split at h
  ·rename_i k x ho
   injection h with h
   subst h
   exact ho
  ·cases h
theorem solid_one {v:Value} {l:L} (h:RLf w ω s v l) (hs:solid s l=true):v.oneCell'=true∧v.cells = #[v]:=by
 cases l with
 | val t x =>
  cases t with
  | sl e cs =>
   obtain ⟨ad,n,c,e1,_⟩:=h
   subst e1;exact ⟨rfl,rfl⟩
  | int k=>have:v=.int k x:=h;subst this;exact ⟨rfl,rfl⟩
  | bool=>have:v=.bool x:=h;subst this;exact ⟨rfl,rfl⟩
  | str=>have:v=.string x:=h;subst this;exact ⟨rfl,rfl⟩
 | nilS e cs=>obtain ⟨ad,e1⟩:=h;subst e1;exact ⟨rfl,rfl⟩
 | ref id g hh p =>
  unfold solid at hs
  obtain ⟨c,hc⟩:=Option.isSome_iff_exists.1 hs
  obtain ⟨ad,n,cp,e1,_⟩:=h.2.2 c hc
  subst e1;exact ⟨rfl,rfl⟩
 | ptr id g off =>
  unfold solid at hs
  obtain ⟨cells,hc⟩:=Option.isSome_iff_exists.1 hs
  obtain ⟨e1,e2⟩:=blkOf_ok hc
  obtain ⟨b,_,e3⟩:=h.2 e1 cells e2
  subst e3;exact ⟨rfl,rfl⟩
 | eptr id g hh p i off =>
  simp only [solid] at hs
  cases hc:s.cont id g hh p with
  | none=>rw [hc] at hs;cases hs
  | some c =>
   rw [hc] at hs
   have hm:c.md≠0:=by
    intro e;simp only [e] at hs;cases hs
   obtain ⟨_,_,⟨b,_,e3⟩,_⟩:=h.2.2 c hc hm
   subst e3;exact ⟨rfl,rfl⟩
 | iptr cs x off=>obtain ⟨b,o',_,_,e3,_⟩:=h;subst e3;exact ⟨rfl,rfl⟩
 | fn f caps=>obtain ⟨cv,e1,_⟩:=h;subst e1;exact ⟨rfl,rfl⟩
 | mref id g =>
  simp only [solid] at hs
  obtain ⟨q,hc⟩:=Option.isSome_iff_exists.1 hs
  obtain ⟨e1,e2⟩:=mpOf_ok hc
  obtain ⟨b,es,c,_,e3,_⟩:=h.2 e1 q.1 q.2 e2
  subst e3;exact ⟨rfl,rfl⟩
 | tst _ _=>cases hs
 | undef=>cases hs
 | dead=>cases hs
theorem cells?_ok {v:Value} {t:TVr} {ls:List L} (h:RTV w ω s v t) (hc:cells? s t=some ls) :
  All2 (RLf w ω s) v.cells.toList ls∧(∀ u∈v.cells.toList,u.oneCell'=true)∧(∀ l∈ls,solid s l=true):=by
 unfold cells? at hc
 cases t with
 | one l =>
  cases hs:solid s l with
  | false=>simp only [hs] at hc;cases hc
  | true =>
   simp only [hs,cond_true] at hc
   injection hc with hc
   subst hc
   obtain ⟨h1,h2⟩:=solid_one h hs
   rw [h2]
   exact ⟨⟨h,trivial⟩,by simpa using h1,by simpa using hs⟩
 | agg ls' =>
  simp only at hc
  cases hs:ls'.all (solid s) with
  | false=>rw [hs] at hc;cases hc
  | true =>
   rw [hs] at hc
   injection hc with hc
   subst hc
   obtain ⟨us,e1,hu⟩:=h
   subst e1
   have hall:=List.all_eq_true.1 hs
   refine ⟨by simpa [Value.cells] using hu,?_,hall⟩
   have key:∀ (us:List Value) (ls:List L),All2 (RLf w ω s) us ls→(∀ l∈ls,solid s l=true)→∀ u∈us,u.oneCell'=true:=by
    intro us
    induction us with
    | nil=>intro ls _ _ u hu;cases hu
    | cons v vs ih =>
     intro ls h2 hall u hu
     cases ls with
     | nil=>exact h2.elim
     | cons l ls =>
      cases hu with
      | head=>exact (solid_one h2.1 (hall l (by simp))).1
      | tail _ hm=>exact ih ls h2.2 (fun l' hl'=>hall l' (by simp [hl'])) u hm
   simpa [Value.cells] using key us ls' hu hall
 | tup _=>cases hc
theorem RLf_zero:∀ (t:Ty),RLf w ω s (zeroOf t) (zeroLf real t)
 | .int _=>rfl
 | .bool=>rfl
 | .str=>rfl
 | .sl _ _=>⟨none,rfl⟩
theorem RLf_zeros:∀ (cs:Tys),All2 (RLf w ω s) (zerosOf cs) (zeroLfs real cs)
 | .nil=>trivial
 | .cons t ts=>⟨RLf_zero t,RLf_zeros ts⟩
theorem foldl_set (vs:List Value):∀ (off m:Nat) (cs:Array Value),off+m+vs.length≤cs.size →
  ((vs.zipIdx m).foldl (fun cs (c,j)=>cs.setIfInBounds (off+j) c) cs).toList=cs.toList.take (off+m)++vs++cs.toList.drop (off+m+vs.length):=by
 induction vs with
 | nil=>intro off m cs _;simp
 | cons v vs ih =>
  intro off m cs hle
  simp only [List.length_cons] at hle
  simp only [List.zipIdx_cons,List.foldl_cons]
  rw [ih off (m+1) _ (by simp;omega)]
  have hlt:off+m < cs.toList.length:=by simp;omega
  simp only [Array.toList_setIfInBounds]
  rw [List.take_set,List.drop_set_of_lt (by omega)]
  have e1:(cs.toList.take (off+(m+1))).set (off+m) v=cs.toList.take (off+m)++[v]:=by
   rw [show off+(m+1)=off+m+1 by omega,List.take_succ_eq_append_getElem hlt]
   rw [List.set_append_right _ _ (by simp;omega)]
   simp
   have:off+m - min (off+m) cs.size=0:=by omega
   rw [this]
   rfl
  rw [e1]
  simp only [List.length_cons,List.append_assoc,List.cons_append,List.nil_append]
  congr 3
  rw [show off+(m+1)+vs.length=off+m+(vs.length+1) by omega]
theorem fill_ok (h:Rel ω a w s) {flds:List (Nat×Nat×Bool)} (places:Nat→Option (Nat×Nat)) (hp:∀ (i:Nat) q,flds[i]? = some q→places i=some (q.1,q.2.1)) :
  ∀ (parts:List (Nat×Operand)) (cs:List L) (arr:Array Value) (ls:List L),All2 (RLf w ω s) arr.toList cs→fillCells flds E s parts cs=some ls →
   ∃ arr',Instr.fill places arr (parts.map fun p=>(p.1,a.eval p.2))=some arr'∧All2 (RLf w ω s) arr'.toList ls
 | [],cs,arr,ls,h2,hf=>by
  injection hf with hf
  subst hf
  exact ⟨arr,rfl,h2⟩
 | (i,x)::parts,cs,arr,ls,h2,hf=>by
  simp only [fillCells] at hf
  cases hq:flds[i]? with
  | none=>rw [hq] at hf;cases hf
  | some q =>
   obtain ⟨off,n,ag⟩:=q
   rw [hq] at hf
   simp only at hf
   cases hc:cells? s (ev E s 0 x) with
   | none=>rw [hc] at hf;cases hf
   | some v =>
    rw [hc] at hf
    simp only at hf
    cases hb:Nat.beq v.length n && Nat.ble (off+n) cs.length with
    | false=>rw [hb] at hf;cases hf
    | true =>
     rw [hb] at hf
     simp only [cond_true] at hf
     rw [Bool.and_eq_true] at hb
     have hn:=Nat.eq_of_beq_eq_true hb.1
     have hle:=Nat.le_of_ble_eq_true hb.2
     obtain ⟨hv,_,_⟩:=cells?_ok (ev_ok h E 0 x) hc
     have hl1:=hv.length
     have hl2:=h2.length
     have hsz:(a.eval x).cells.size=n:=by rw [←hn,←hl1];simp
     have hle':off+(a.eval x).cells.toList.length≤arr.size:=by
      have:arr.size=cs.length:=by rw [←hl2];simp
      rw [this,hl1,hn];exact hle
     have hfold:=foldl_set (a.eval x).cells.toList off 0 arr (by simpa using hle')
     have hzip:(a.eval x).cells.zipIdx.foldl (fun cs (c,j)=>cs.setIfInBounds (off+j) c) arr=((a.eval x).cells.toList.zipIdx 0).foldl (fun cs (c,j)=>cs.setIfInBounds (off+j) c) arr:=by
      rw [←Array.foldl_toList]
      congr 1
      simp
     obtain ⟨arr',g1,g2⟩:=fill_ok h places hp parts _ (((a.eval x).cells.toList.zipIdx 0).foldl (fun cs (c,j)=>cs.setIfInBounds (off+j) c) arr) ls (by
      rw [hfold]
      simp only [Nat.add_zero]
      rw [hl1,hn]
      exact ((h2.take off).app hv).app (h2.drop (off+n))) hf
     refine ⟨arr',?_,g2⟩
     simp only [List.map_cons,Instr.fill]
     rw [hp i _ hq]
     simp only [hsz]
     have hcond : ¬ (off+n > arr.size):=by
      have:(a.eval x).cells.toList.length=n:=by rw [hl1,hn]
      omega
     rw [if_neg (by simp;omega)]
     rw [hzip]
     exact g1
theorem built_struct {t:Nat} {i:TI} {I:TypeInfo} {d:TypeDesc} (ok:TIok P t i I d) (hg:i.agg=true) (parts:List (Nat×Value)) {arr:Array Value}
  (hf:∀ z:Value,I.zero=some z→Instr.fill ((i.flds.map fun q=>(q.1,q.2.1)).toArray[·]?) z.cells parts=some arr):P.built t parts=some arr:=by
 obtain ⟨fs,g1,g2,g3⟩:=ok.flds hg
 obtain ⟨z,hz,_⟩:=ok.zero
 have hplaces:fs.toList.mapM (fun f=>(P.info? f.type).map fun i=>(f.offset,i.size))=some (i.flds.map fun q=>(q.1,q.2.1)):=by
  have key:∀ (l:List Field) (q:List (Nat×Nat×Bool)),l.length=q.length→(∀ (f:Nat) p,q[f]? = some p→∃ F FI,l[f]? = some F∧F.offset=p.1∧P.info? F.type=some FI∧FI.size=p.2.1) →
    l.mapM (fun f=>(P.info? f.type).map fun i=>(f.offset,i.size))=some (q.map fun p=>(p.1,p.2.1)):=by
   intro l
   induction l with
   | nil=>intro q hl _;cases q with | nil=>simp | cons _ _=>cases hl
   | cons F l ih =>
    intro q hl hq
    cases q with
    | nil=>cases hl
    | cons p q =>
     obtain ⟨F',FI,e1,e2,e3,e4⟩:=hq 0 p rfl
     simp at e1
     subst e1
     have:=ih q (by simpa using hl) (fun f p' hp'=>by simpa using hq (f+1) p' (by simpa using hp'))
     simp [List.mapM_cons,e3,this,e2,e4]
  refine key fs.toList i.flds (by simpa using g2) (fun f p hp=>?_)
  obtain ⟨F,FI,Fd,f1,f2,f3,f4,_⟩:=g3 f p hp
  exact ⟨F,FI,by simpa using f1,f2,f3,f4⟩
 unfold Program.built
 subst g1
 rw [ok.info,ok.und]
 simp only [hz,hplaces]
 exact hf z hz
theorem step_build (hE:EnvOk P E) {t:Nat} {parts:Array (Nat×Operand)} (ho:o.op=.build t parts) (h:Rel ω a w s) (hd:∀ d,o.dst=some d→d < a.tmps.size) {Φ:FKey→Option (Callee real (Option R))}
  (hk:stepC E (realC R) Φ o s k=some r):o.wp P a w (Ends ω a w o.dst k r) Q:=by
 unfold stepC at hk
 simp only [ho] at hk
 obtain ⟨i,h1,hk⟩:=mapFail_some hk
 obtain ⟨I,d,ok⟩:=hE.ti _ _ h1
 cases hg:i.agg with
 | false=>rw [hg] at hk;cases hk
 | true =>
  rw [hg] at hk
  simp only [cond_true] at hk
  obtain ⟨ls,h2,hk⟩:=mapFail_some hk
  obtain ⟨z,hz,hz2⟩:=ok.zero
  obtain ⟨arr',g1,g2⟩:=fill_ok h ((i.flds.map fun q=>(q.1,q.2.1)).toArray[·]?) (fun j q hq=>by simp [hq]) parts.toList _ z.cells ls (by rw [hz2];exact RLf_zeros i.cs) h2
  have hb:P.built t (parts.map fun (i,x)=>(i,a.eval x)).toList=some arr':=built_struct ok hg _ (fun z' hz'=>by
   rw [hz] at hz'
   injection hz' with hz'
   subst hz'
   rw [←g1]
   congr 1
   simp)
  refine light_ok h hd (v:=.agg arr') ?_ (t:=.agg ls) ⟨arr'.toList,by simp,g2⟩ hk
  unfold execOp
  simp only [ho]
  rw [Sem.run_bind,run_build w t _ arr' hb]
  rfl
end
end Go.R
namespace Go.R
section
variable {R:Type} {P:Program} {E:Env} {ω:Own} {a:Act} {w:World} {s:S} {k:S→Option R} {r:R} {o:Oper} {Q:Exit→Act→World→Prop}
structure Passes (ω:Own) (a:Act) (w:World) (s:S) (ω':Own) (s':S):Prop where
 rel:Rel ω' a w s'
 ext:Ext ω w ω' w
 tr:∀ id,Tr w ω s w ω' s' id
theorem Passes.refl (h:Rel ω a w s):Passes ω a w s ω s:=⟨h,Ext.refl _ _,fun _=>Tr.of_ob h.dom rfl⟩
theorem Tr.trans {w1 w2:World} {ω1 ω2:Own} {s1 s2:S} {id:Nat} (h:Tr w ω s w1 ω1 s1 id) (h':Tr w1 ω1 s1 w2 ω2 s2 id):Tr w ω s w2 ω2 s2 id where
 ref v g hh p x:=h'.ref v g hh p (h.ref v g hh p x)
 ptr v g off x:=h'.ptr v g off (h.ptr v g off x)
 eptr v g hh p i off x:=h'.eptr v g hh p i off (h.eptr v g hh p i off x)
 mref v g x:=h'.mref v g (h.mref v g x)
theorem Passes.trans {ω1 ω2:Own} {s1 s2:S} (h:Passes ω a w s ω1 s1) (h':Passes ω1 a w s1 ω2 s2):Passes ω a w s ω2 s2:=
 ⟨h'.rel,h.ext.trans h'.ext,fun id=>(h.tr id).trans (h'.tr id)⟩
theorem pack1_full (h : Rel ω a w s) {t : Ty} {l : L} {v : Value} {x : t.T} {s' : S} (hl : RLf w ω s v l) (hp : pack1 (A := real) false t l s = some (x, s')) :
    ∃ ω', Passes ω a w s ω' s' ∧ t.R w ω' .imm v x ∧ ((s' = s ∧ ω' = ω) ∨ ∃ id e cs dp y, (s.ob id).o = .arr e cs dp y ∧ s' = s.chg id true (.imm e cs y) ∧ ω' = ω.drop id) := by
  cases l with
  | val u y =>
    have key : ∃ hb : Ty.beq u t = true, x = real.cast hb y ∧ s' = s := by
      cases u <;> (simp only [pack1, cond_false] at hp; split at hp; · rename_i hb; injection hp with hp; injection hp with h1 h2; exact ⟨hb, h1.symm, h2.symm⟩
                   · cases hp)
    obtain ⟨hb, rfl, rfl⟩ := key
    obtain rfl := Ty.eq_of_beq hb
    exact ⟨ω, Passes.refl h, hl, .inl ⟨rfl, rfl⟩⟩
  | nilS e cs =>
    cases t with
    | sl e' cs' =>
      simp only [pack1] at hp
      split at hp
      · rename_i hb
        injection hp with hp
        injection hp with h1 h2
        subst h1; subst h2
        have := Ty.eq_of_beq hb
        injection this with e1 e2
        subst e1; subst e2
        obtain ⟨ad, e1⟩ := hl
        exact ⟨ω, Passes.refl h, ⟨ad, 0, 0, e1, rfl, Nat.le_refl _, fun hn => absurd hn (by omega), fun i ad' hi => absurd hi (by omega)⟩, .inl ⟨rfl, rfl⟩⟩
      · cases hp
    | _ => cases hp
  | ref id g hh p =>
    cases p with
    | cons _ _ => cases t <;> cases hp
    | nil =>
      simp only [pack1] at hp
      cases hg : Nat.beq (s.ob id).g g with
      | false => rw [hg] at hp; cases hp
      | true =>
        rw [hg] at hp
        simp only [cond_true] at hp
        have hge := Nat.eq_of_beq_eq_true hg
        cases hob : (s.ob id).o with
        | arr e cs dp y =>
          rw [hob] at hp
          simp only [cond_false] at hp
          split at hp
          · rename_i hb
            injection hp with hp
            injection hp with h1 h2
            subst h1; subst h2
            obtain rfl := Ty.eq_of_beq hb
            have hne : id ≠ 0 := h.ne0 (by rw [hob]; exact fun e => by cases e)
            have tr := freeze_tr (s := s) hne h.dom hob true
            refine ⟨ω.drop id, ⟨h.freeze hob true, freeze_ext _ _ _ hne, tr⟩, ?_, .inr ⟨id, e, cs, dp, y, hob, rfl, rfl⟩⟩
            have hl' := (tr id).ref v g hh [] hl
            have hc : (s.chg id true (.imm e cs y)).cont id g hh [] = some ⟨e, cs, y, 0⟩ := by
              unfold St.cont Slot.cont
              rw [St.chg_self]
              simp only
              rw [hge, beq_self]
              rfl
            exact hl'.2.2 _ hc
          · cases hp
        | imm e cs y =>
          rw [hob] at hp
          simp only [cond_false] at hp
          split at hp
          · rename_i hb
            injection hp with hp
            injection hp with h1 h2
            subst h1; subst h2
            obtain rfl := Ty.eq_of_beq hb
            have hc : s.cont id g hh [] = some ⟨e, cs, y, 0⟩ := by
              unfold St.cont Slot.cont
              rw [hge, beq_self, hob]
              rfl
            exact ⟨ω, Passes.refl h, hl.2.2 _ hc, .inl ⟨rfl, rfl⟩⟩
          · cases hp
        | blk _ => rw [hob] at hp; cases hp
        | gone => rw [hob] at hp; cases hp
        | mp _ _ => rw [hob] at hp; cases hp
  | _ => cases t <;> cases hp
theorem pack1_ok (h:Rel ω a w s) {t:Ty} {l:L} {v:Value} {x:t.T} {s':S} (hl:RLf w ω s v l) (hp:pack1 (A:=real) false t l s=some (x,s')) :
  ∃ ω',Passes ω a w s ω' s'∧t.R w ω' .imm v x:=
 let ⟨ω',h1,h2,_⟩:=pack1_full h hl hp
 ⟨ω',h1,h2⟩
theorem packs_ok:∀ (cs:Tys) (ls:List L) (us:List Value) (ω:Own) (s:S) (x:cs.T) (s':S),Rel ω a w s→All2 (RLf w ω s) us ls→packs (A:=real) false cs ls s=some (x,s') →
  ∃ ω',Passes ω a w s ω' s'∧∀ (j:Nat) (g:Nat→Option Value),(∀ k u,us[k]? = some u→g (j+k)=some u)→cs.R w ω' (fun _=>.imm) g j x
 | .nil,[],us,ω,s,x,s',h,_,hp=>by
  injection hp with hp
  injection hp with _ h2
  subst h2
  exact ⟨ω,Passes.refl h,fun _ _ _=>trivial⟩
 | .cons t ts,l::ls,[],_,_,_,_,_,h2,_=>h2.elim
 | .cons t ts,l::ls,u::us,ω,s,x,s',h,h2,hp=>by
  simp only [packs] at hp
  cases h1:pack1 (A:=real) false t l s with
  | none=>rw [h1] at hp;cases hp
  | some q =>
   obtain ⟨y,s1⟩:=q
   rw [h1] at hp
   simp only at hp
   cases h3:packs (A:=real) false ts ls s1 with
   | none=>rw [h3] at hp;cases hp
   | some q2 =>
    obtain ⟨ys,s2⟩:=q2
    rw [h3] at hp
    simp only at hp
    injection hp with hp
    injection hp with e1 e2
    subst e1;subst e2
    obtain ⟨ω1,p1,r1⟩:=pack1_ok h h2.1 h1
    obtain ⟨ω2,p2,r2⟩:=packs_ok ts ls us ω1 s1 ys s2 p1.rel (h2.2.mono fun _ _ hl=>RLf.frame p1.ext p1.tr hl) h3
    refine ⟨ω2,p1.trans p2,fun j g hg=>?_⟩
    have hh:hdT (cnT (t:=t) (ts:=ts) y ys)=y:=hd_cn _ _
    have ht:tlT (cnT (t:=t) (ts:=ts) y ys)=ys:=tl_cn _ _
    refine ⟨⟨u,by simpa using hg 0 u rfl,?_⟩,?_⟩
    ·show t.R w ω2 .imm u (hdT (cnT y ys))
     rw [hh]
     exact Ty.R_frame (Nat.le_refl _) t .imm u y p2.ext.keeps r1
    ·show ts.R w ω2 _ g (j+1) (tlT (cnT y ys))
     rw [ht]
     exact r2 (j+1) g (fun k u' hu'=>by
      have:=hg (k+1) u' (by simpa using hu')
      rwa [show j+(k+1)=j+1+k by omega] at this)
 | .nil,_::_,_,_,_,_,_,_,_,hp=>by cases hp
 | .cons _ _,[],_,_,_,_,_,_,_,hp=>by cases hp
theorem Grow.alloc (w:World) (o:Obj):Grow w (w.alloc o):=Grow.push w o
theorem alloc_size (w:World) (o:Obj):(w.alloc o).heap.size=w.heap.size+1:=by
 show (w.heap.push o).size=_
 simp
theorem run_newVar (t:Nat) (v:Value):(newVar t v).run P w=.ok ⟨w.heap.size,0,none⟩ (w.alloc (.cells v.cells t)):=rfl
theorem run_alloc {t:Nat} {i:TI} {I:TypeInfo} {d:TypeDesc} (ok:TIok P t i I d) {z:Value} (hz:I.zero=some z) (old:Value) :
  (Instr.alloc t true old).run P w=.ok (.pointer (some ⟨w.heap.size,0,none⟩)) (w.alloc (.cells z.cells t)):=by
 have hzv:(zeroValue t).run P w=.ok z w:=by simp [zeroValue,typeInfo,ok.info,hz]
 unfold Instr.alloc
 rw [Sem.run_bind,hzv]
 cases old with
 | pointer p=>cases p <;> rfl
 | _=>rfl
theorem ends_blk (h:Rel ω a w s) (hd:∀ d,o.dst=some d→d < a.tmps.size) {arr:Array Value} {T:Nat} {cells:List L} {id:Nat} (h0:id≠0) (hc:All2 (RLf w ω s) arr.toList cells)
  (hk:k ((s.new id (.blk cells)).setO o.dst (.one (.ptr id ((s.new id (.blk cells)).ob id).g 0)))=some r) :
  Ends ω a w o.dst k r (a.put o.dst (.pointer (some ⟨w.heap.size,0,none⟩))) (w.alloc (.cells arr T)):=by
 have hsz:w.heap.size < (w.alloc (.cells arr T)).heap.size:=by rw [alloc_size];omega
 have hR:=h.fresh (id:=id) h0 (Grow.alloc w (.cells arr T)) (Nat.le_refl _) hsz (.blk cells) (fun cells' hc'=>⟨arr,T,heap_alloc_new w _,by injection hc' with hc';subst hc';exact hc⟩)
 refine ends_put' hR (fresh_ext h0 (Grow.alloc w _) (Nat.le_refl _)) hd (t:=.one (.ptr id ((s.new id (.blk cells)).ob id).g 0)) ⟨Nat.le_refl _,fun _ cells' _=>⟨w.heap.size,Own.fresh_self _ _ _,rfl⟩⟩ hk
theorem step_alloc (hE:EnvOk P E) {t:Nat} (ho:o.op=.alloc t) (h:Rel ω a w s) (hd:∀ d,o.dst=some d→d < a.tmps.size) {Φ:FKey→Option (Callee real (Option R))}
  (hk:stepC E (realC R) Φ o s k=some r):o.wp P a w (Ends ω a w o.dst k r) Q:=by
 unfold stepC at hk
 simp only [ho] at hk
 obtain ⟨i,h1,hk⟩:=mapFail_some hk
 obtain ⟨I,d,ok⟩:=hE.ti _ _ h1
 obtain ⟨z,hz,hz2⟩:=ok.zero
 refine wp_val (v:=.pointer (some ⟨w.heap.size,0,none⟩)) (w':=w.alloc (.cells z.cells t)) ?_ (ends_blk h hd (mkId_ne _ _ _) (arr:=z.cells) (T:=t) (by rw [hz2];exact RLf_zeros i.cs) hk)
 unfold execOp
 simp only [ho]
 rw [Sem.run_bind,run_alloc ok hz]
 rfl
theorem step_box (hE:EnvOk P E) {t:Nat} {x:Operand} (ho:o.op=.box t x) (h:Rel ω a w s) (hd:∀ d,o.dst=some d→d < a.tmps.size) {Φ:FKey→Option (Callee real (Option R))}
  (hk:stepC E (realC R) Φ o s k=some r):o.wp P a w (Ends ω a w o.dst k r) Q:=by
 have hx:=ev_ok h E t x
 unfold stepC at hk
 simp only [ho] at hk
 obtain ⟨i,h1,hk⟩:=mapFail_some hk
 obtain ⟨ls,h2,hk⟩:=mapFail_some hk
 obtain ⟨hc,_,_⟩:=cells?_ok hx h2
 have hrun:(execOp a.eval o).run P w=.ok (.value (.pointer (some ⟨w.heap.size,0,none⟩))) (w.alloc (.cells (a.eval x).cells t)):=by
  unfold execOp
  simp only [ho]
  rfl
 cases hb:Nat.beq ls.length i.cs.len with
 | false=>rw [hb] at hk;cases hk
 | true =>
  rw [hb] at hk
  simp only [cond_true] at hk
  cases hro:E.ro (o.dst.getD 0) with
  | false =>
   rw [hro] at hk
   exact wp_val hrun (ends_blk h hd (mkId_ne _ _ _) hc hk)
  | true =>
   rw [hro] at hk
   simp only [cond_true] at hk
   obtain ⟨⟨y,s1⟩,h3,hk⟩:=mapFail_some hk
   obtain ⟨ω1,p1,r1⟩:=packs_ok i.cs ls _ ω s y s1 h hc h3
   have hg:=Grow.alloc w (.cells (a.eval x).cells t)
   have he:=hg.ext ω1
   have hnone:ω1 w.heap.size=none:=by
    cases hq:ω1 w.heap.size with
    | none=>rfl
    | some kk=>exact absurd (p1.rel.dom _ _ hq) (by omega)
   refine wp_val hrun (ends_put' (p1.rel.world he hg.block) (p1.ext.trans he) hd (t:=.one (.iptr i.cs y 0)) ⟨w.heap.size,0,hnone,by rw [alloc_size];omega,rfl,?_⟩ hk)
   refine Tys.R_frame he.size i.cs _ _ _ 0 _ (fun _=>he.keeps) (fun _=>rfl) (r1 0 _ (fun j u hu=>?_))
   rw [Nat.zero_add,Nat.zero_add,cell_of_row _ _ _ _ t (0,0) (heap_alloc_new w _)]
   simpa using hu
end
end Go.R
namespace Go.R
section
variable {R:Type} {P:Program} {E:Env} {ω:Own} {a:Act} {w:World} {s:S} {k:S→Option R} {r:R} {o:Oper} {Q:Exit→Act→World→Prop}
theorem made_get (z:Array Value) (n i j:Nat) (hi:i < n) (hj:j < z.size):(madeCells z (n*z.size))[i*z.size+j]? = z[j]?:=by
 have hlt:i*z.size+j < n*z.size:=by
  have:(i+1)*z.size≤n*z.size:=Nat.mul_le_mul_right _ hi
  rw [Nat.succ_mul] at this
  omega
 unfold madeCells
 rw [Array.getElem?_map,Array.getElem?_range]
 rw [if_pos hlt]
 have hm:(i*z.size+j) % z.size=j:=by
  rw [Nat.mul_comm,Nat.mul_add_mod]
  exact Nat.mod_eq_of_lt hj
 simp [hm,hj]
theorem zeroV_R:∀ (t:Ty) (md:Md),t.R w ω md (zeroOf t) (zeroV real t)
 | .int _,_=>rfl
 | .bool,_=>rfl
 | .str,_=>rfl
 | .sl e cs,md=>⟨none,0,0,rfl,rfl,Nat.le_refl _,(by
   cases md with
   | imm=>exact fun h=>absurd h (by omega)
   | flat _=>exact .inl ⟨rfl,rfl⟩
   | deep _=>exact .inl ⟨rfl,rfl⟩),fun i ad hi=>absurd hi (by omega)⟩
theorem zeroVs_R:∀ (cs:Tys) (md:Nat→Md) (j:Nat) (g:Nat→Option Value),(∀ k u,(zerosOf cs)[k]? = some u→g (j+k)=some u)→cs.R w ω md g j (zeroVs real cs)
 | .nil,_,_,_,_=>trivial
 | .cons t ts,md,j,g,hg=>by
  have hh:hdT (cnT (t:=t) (ts:=ts) (zeroV real t) (zeroVs real ts))=zeroV real t:=hd_cn _ _
  have ht:tlT (cnT (t:=t) (ts:=ts) (zeroV real t) (zeroVs real ts))=zeroVs real ts:=tl_cn _ _
  refine ⟨⟨zeroOf t,by simpa [zerosOf] using hg 0 _ rfl,?_⟩,?_⟩
  ·show t.R w ω _ _ (hdT (cnT (zeroV real t) (zeroVs real ts)))
   rw [hh];exact zeroV_R t _
  ·show ts.R w ω _ g (j+1) (tlT (cnT (zeroV real t) (zeroVs real ts)))
   rw [ht]
   exact zeroVs_R ts md (j+1) g (fun k u hu=>by
    have:=hg (k+1) u (by simpa [zerosOf] using hu)
    rwa [show j+(k+1)=j+1+k by omega] at this)
theorem new_arr {w1:World} {ω1:Own} {s1:S} (h:Rel ω1 a w1 s1) (he:Ext ω w ω1 w1) (hd:∀ d,o.dst=some d→d < a.tmps.size) {e:Nat} {cs:Tys} {dp:Bool} {x:List cs.T} {arr:Array Value} {id c:Nat} (h0:id≠0) (hn:x.length≤c) (hsz:arr.size=c*cs.len)
  (hel:∀ (i:Nat),i < x.length→cs.R (w1.alloc (.cells arr e)) (ω1.fresh id w1.heap.size) ((modeOf (bif dp then 2 else 1) id []).inner i) (fun j=>arr[i*cs.len+j]?) 0 (x.getD i (zTs cs)))
  (hk:k ((s1.new id (.arr e cs dp x)).setO o.dst (.one (.ref id ((s1.new id (.arr e cs dp x)).ob id).g 0 [])))=some r) :
  Ends ω a w o.dst k r (a.put o.dst (.slice (some ⟨w1.heap.size,0,none⟩) x.length c)) (w1.alloc (.cells arr e)):=by
 have hg:=Grow.alloc w1 (.cells arr e)
 have hlt:w1.heap.size < (w1.alloc (.cells arr e)).heap.size:=by rw [alloc_size];omega
 have hR:=h.fresh (id:=id) h0 hg (Nat.le_refl _) hlt (.arr e cs dp x) (fun cells' hc'=>by cases hc')
 refine ends_put' hR (he.trans (fresh_ext h0 hg (Nat.le_refl _))) hd (t:=.one (.ref id ((s1.new id (.arr e cs dp x)).ob id).g 0 [])) ⟨Nat.le_refl _,by simp,fun c' hc'=>?_⟩ hk
 have ho:((s1.new id (.arr e cs dp x)).ob id).o=.arr e cs dp x:=by unfold St.new;rw [St.upd_ob_self]
 rw [cont_arr ho rfl] at hc'
 injection hc' with hc'
 subst hc'
 refine ⟨some ⟨w1.heap.size,0,none⟩,x.length,c,rfl,rfl,hn,?_,fun i ad hi had=>?_⟩
 ·have:(w1.alloc (.cells arr e)).heap[w1.heap.size]? = some (.cells arr e (0,0)):=heap_alloc_new w1 _
  cases dp with
  | true=>exact .inr ⟨w1.heap.size,arr,rfl,this,hsz,Own.fresh_self _ _ _⟩
  | false=>exact .inr ⟨w1.heap.size,arr,rfl,this,hsz,Own.fresh_self _ _ _⟩
 ·injection had with had
  subst had
  have:=hel i hi
  refine Tys.R_frame (Nat.le_refl _) cs _ _ _ 0 _ (fun j b hb hk=>⟨rfl,rfl⟩) (fun j=>?_) this
  rw [Nat.zero_add]
  exact cell_of_row _ _ _ arr e (0,0) (heap_alloc_new w1 _)
theorem rep_getD {α:Type} (n:Int) (y z:α) (i:Nat) (h:i < n.toNat):(rRep n y).getD i z=y:=by
 unfold rRep
 rw [List.getD_eq_getElem?_getD,List.getElem?_replicate,if_pos h]
 rfl
theorem int_toNat {n:Int} (h:0≤n):((n.toNat:Nat):Int)=n:=Int.toNat_of_nonneg h
theorem step_makeSlice (hE:EnvOk P E) {t:Nat} {n c:Operand} (ho:o.op=.makeSlice t n c) (h:Rel ω a w s) (hd:∀ d,o.dst=some d→d < a.tmps.size) {Φ:FKey→Option (Callee real (Option R))}
  (hk:stepC E (realC R) Φ o s k=some r):o.wp P a w (Ends ω a w o.dst k r) Q:=by
 have hn:=ev_ok h E 3 n
 unfold stepC at hk
 simp only [ho] at hk
 obtain ⟨⟨e,cs⟩,h1,hk⟩:=mapFail_some hk
 obtain ⟨(m:Int),h2,hk⟩:=mapFail_some hk
 have hnv:=int?_ok h2 hn
 have hsame:sameOpd n c=true:=by
  cases hb:sameOpd n c with
  | true=>rfl
  | false=>simp only [hb] at hk;cases hk
 simp only [hsame,cond_true] at hk
 have hcv:a.eval c=.int .i64 m:=by
  rw [←hnv]
  unfold sameOpd at hsame
  split at hsame
  ·rw [Nat.eq_of_beq_eq_true hsame]
  ·rw [Bool.and_eq_true] at hsame
   rw [of_decide_eq_true hsame.1,of_decide_eq_true hsame.2]
  ·cases hsame
 have hk':(bif rRepOk m then k ((s.new (mkId (o.dst.getD 0) 0 0) (.arr e cs (E.deep (o.dst.getD 0)) (rRep m (zeroVs real cs)))).setO o.dst (.one (.ref (mkId (o.dst.getD 0) 0 0) ((s.new (mkId (o.dst.getD 0) 0 0) (.arr e cs (E.deep (o.dst.getD 0)) (rRep m (zeroVs real cs)))).ob (mkId (o.dst.getD 0) 0 0)).g 0 []))) else none)=some r:=hk
 cases hr:rRepOk m with
 | false=>rw [hr] at hk';cases hk'
 | true =>
  rw [hr] at hk'
  simp only [cond_true] at hk'
  unfold rRepOk limit at hr
  rw [Bool.and_eq_true] at hr
  have h0:0≤m:=of_decide_eq_true hr.1
  have hle:m≤1073741824:=of_decide_eq_true hr.2
  obtain ⟨hu,j,I,d,hj,hcs,ok⟩:=slOf_ok hE h1
  obtain ⟨z,hz,hz2⟩:=ok.zero
  have hzs:z.cells.size=cs.len:=by
   rw [←Array.length_toList,hz2,zerosOf_length,hcs]
  have hsz:I.size=cs.len:=by rw [ok.size,hcs]
  have hb:=ok.bpos
  have hbytes:=ok.bytes
  have hmul:(I.bytes:Int)*m≤281474976710656:=by
   have h1:(I.bytes:Int)≤65536:=by rw [hbytes];exact Int.ofNat_le.2 hb.2
   have h2:(I.bytes:Int)*m≤65536*m:=Int.mul_le_mul_of_nonneg_right h1 h0
   omega
  have hrun:=run_make (P:=P) w t e I z hu ok.info hz .i64 .i64 m m h0 (Int.le_refl _) hmul (by omega)
  rw [hsz] at hrun
  have hlen:(rRep m (zeroVs real cs):List cs.T).length=m.toNat:=by unfold rRep;exact List.length_replicate
  refine wp_val (v:=.slice (some ⟨w.heap.size,0,none⟩) m.toNat m.toNat) (w':=w.alloc (.cells (madeCells z.cells (m.toNat*cs.len)) e)) ?_ ?_
  ·unfold execOp
   simp only [ho,hnv,hcv]
   rw [Sem.run_bind,hrun]
   rfl
  ·have:=new_arr (ω:=ω) (w:=w) (arr:=madeCells z.cells (m.toNat*cs.len)) (x:=(rRep m (zeroVs real cs):List cs.T)) (c:=m.toNat) h (Ext.refl _ _) hd (mkId_ne _ _ _) (by rw [hlen];exact Nat.le_refl _) (size_madeCells _ _) (fun i hi=>?_) hk'
   ·rw [hlen] at this
    exact this
   ·have hg:(rRep m (zeroVs real cs):List cs.T).getD i (zTs cs)=zeroVs real cs:=by
     rw [hlen] at hi
     exact rep_getD _ _ _ _ hi
    rw [hg]
    refine zeroVs_R cs _ 0 _ (fun j u hj=>?_)
    rw [hlen] at hi
    have hlt:j < z.cells.size:=by
     have:=(List.getElem?_eq_some_iff.1 hj).1
     rw [zerosOf_length] at this
     omega
    have hm:=made_get z.cells m.toNat i j hi hlt
    rw [hzs] at hm
    rw [Nat.zero_add,hm]
    rw [←hcs] at hj
    rw [←hz2] at hj
    simpa using hj
end
end Go.R
namespace Go.R
section
variable {R:Type} {P:Program} {E:Env} {ω:Own} {a:Act} {w:World} {s:S} {k:S→Option R} {r:R} {o:Oper} {Q:Exit→Act→World→Prop}
theorem flat_get {α:Type} (n:Nat):∀ (ls:List (List α)),(∀ l∈ls,l.length=n)→∀ (i j:Nat) (l:List α),ls[i]? = some l→j < n→ls.flatten[i*n+j]? = l[j]?
 | [],_,i,j,l,hi,_=>by simp at hi
 | l0::ls,hl,0,j,l,hi,hj=>by
  simp at hi
  subst hi
  have:l0.length=n:=hl l0 (by simp)
  simp only [Nat.zero_mul,Nat.zero_add,List.flatten_cons]
  rw [List.getElem?_append_left (by omega)]
 | l0::ls,hl,i+1,j,l,hi,hj=>by
  have h0:l0.length=n:=hl l0 (by simp)
  simp only [List.flatten_cons]
  have e:(i+1)*n+j=n+(i*n+j):=by rw [Nat.succ_mul];omega
  rw [List.getElem?_append_right (by rw [h0,e];omega),h0,e,Nat.add_sub_cancel_left]
  exact flat_get n ls (fun l hl'=>hl l (by simp [hl'])) i j l (by simpa using hi) hj
theorem flat_length {α:Type} (n:Nat):∀ (ls:List (List α)),(∀ l∈ls,l.length=n)→ls.flatten.length=ls.length*n
 | [],_=>by simp
 | l0::ls,hl=>by
  simp only [List.flatten_cons,List.length_append,List.length_cons]
  rw [flat_length n ls (fun l hl'=>hl l (by simp [hl'])),hl l0 (by simp),Nat.succ_mul]
  omega
theorem packs_len:∀ (cs:Tys) (ls:List L) (s1 s2:S) (el:cs.T),packs (A:=real) false cs ls s1=some (el,s2)→ls.length=cs.len
 | .nil,[],_,_,_,_=>rfl
 | .nil,_::_,_,_,_,h=>by cases h
 | .cons _ _,[],_,_,_,h=>by cases h
 | .cons t ts,l::ls,s1,s2,el,h=>by
  simp only [packs] at h
  cases h1:pack1 (A:=real) false t l s1 with
  | none=>rw [h1] at h;cases h
  | some q =>
   obtain ⟨y,s3⟩:=q
   rw [h1] at h
   simp only at h
   cases h2:packs (A:=real) false ts ls s3 with
   | none=>rw [h2] at h;cases h
   | some q2 =>
    obtain ⟨ys,s4⟩:=q2
    simp only [List.length_cons,Tys.len]
    rw [packs_len ts ls s3 s4 ys h2]
theorem litRow_ok {e:Nat} {cs:Tys}:∀ (os:List Operand) (x0:List cs.T) (ω1:Own) (s1:S) (x:List cs.T) (s2:S),Rel ω a w s→Passes ω a w s ω1 s1→litRow (A:=real) E s e cs os x0 s1=some (x,s2) →
  ∃ ω2,Passes ω1 a w s1 ω2 s2∧∃ els:List cs.T,x=x0++els∧els.length=os.length∧(∀ o∈os,(a.eval o).cells.toList.length=cs.len) ∧
   ∀ (i:Nat) (el:cs.T) (o:Operand),els[i]? = some el→os[i]? = some o→cs.R w ω2 (fun _=>.imm) (fun j=>(a.eval o).cells.toList[j]?) 0 el
 | [],x0,ω1,s1,x,s2,_,p,h=>by
  injection h with h
  injection h with h1 h2
  subst h1;subst h2
  exact ⟨ω1,Passes.refl p.rel,[],by simp,rfl,by simp,by simp⟩
 | q::os,x0,ω1,s1,x,s2,h0,p,h=>by
  simp only [litRow] at h
  cases hc:cells? s (ev E s 0 q) with
  | none=>rw [hc] at h;cases h
  | some ls =>
   rw [hc] at h
   simp only at h
   cases hp:packs (A:=real) false cs ls s1 with
   | none=>rw [hp] at h;cases h
   | some z =>
    obtain ⟨el,s1'⟩:=z
    rw [hp] at h
    simp only at h
    obtain ⟨hv,_,_⟩:=cells?_ok (ev_ok h0 E 0 q) hc
    obtain ⟨ω1',p1,r1⟩:=packs_ok cs ls _ ω1 s1 el s1' p.rel (hv.mono fun _ _ hl=>RLf.frame p.ext p.tr hl) hp
    obtain ⟨ω2,p2,els,e1,e2,e3,e4⟩:=litRow_ok os (List.append (α:=cs.T) x0 [el]) ω1' s1' x s2 h0 (p.trans p1) h
    have hlen:ls.length=cs.len:=by
     exact packs_len cs ls _ _ _ hp
    refine ⟨ω2,p1.trans p2,el::els,by rw [e1];exact List.append_assoc x0 [el] els,by show els.length+1=os.length+1;rw [e2],?_,?_⟩
    ·intro q' hq'
     cases hq' with
     | head=>rw [hv.length,hlen]
     | tail _ hm=>exact e3 q' hm
    ·intro i el' q' hi hq'
     cases i with
     | zero =>
      have hi':el=el':=Option.some.inj hi
      have hq'':q=q':=Option.some.inj hq'
      subst hi';subst hq''
      exact Tys.R_frame (Nat.le_refl _) cs _ _ _ 0 _ (fun _=>p2.ext.keeps) (fun _=>rfl) (r1 0 _ (fun k u hu=>by rw [Nat.zero_add];exact hu))
     | succ i=>exact e4 i el' q' hi hq'
theorem isRange_ok:∀ (m:Nat) (l:List Nat),isRange m l=true→∀ (i n:Nat),l[i]? = some n→n=m+i
 | _,[],_,i,n,h=>by simp at h
 | m,x::r,hr,i,n,h=>by
  simp only [isRange,Bool.and_eq_true] at hr
  cases i with
  | zero =>
   simp at h
   rw [←h,←Nat.eq_of_beq_eq_true hr.1];rfl
  | succ i =>
   have:=isRange_ok (m+1) r hr.2 i n (by simpa using h)
   omega
theorem fill_range (n : Nat) (arr : Array Value) : ∀ (parts : List (Nat × Value)) (m : Nat) (done : List Value) (cur : Array Value), isRange m (parts.map (·.1)) = true → (∀ p ∈ parts, p.2.cells.toList.length = n) →
    done.length = m * n → cur.size = (m + parts.length) * n → cur.toList = done ++ cur.toList.drop (m * n) →
    ∃ cur', Instr.fill (fun i => some (i * n, n)) cur parts = some cur' ∧ cur'.toList = done ++ (parts.map fun p => p.2.cells.toList).flatten
  | [], m, done, cur, _, _, hd, hs, hc => by
    refine ⟨cur, rfl, ?_⟩
    have : cur.toList.length = m * n := by simpa using hs
    rw [hc, List.drop_of_length_le (by omega)]
    simp
  | (j, v) :: parts, m, done, cur, hr, hn, hd, hs, hc => by
    simp only [List.map_cons, isRange, Bool.and_eq_true] at hr
    obtain rfl := Nat.eq_of_beq_eq_true hr.1
    have hv : v.cells.toList.length = n := hn (m, v) (by simp)
    have hvs : v.cells.size = n := by simpa using hv
    simp only [List.length_cons] at hs
    have hsz : cur.size = m * n + n + parts.length * n := by
      rw [hs, Nat.add_mul, Nat.add_mul, Nat.one_mul]; omega
    have hfold := foldl_set v.cells.toList (m * n) 0 cur (by rw [hv]; omega)
    simp only [Nat.add_zero] at hfold
    have hdone : cur.toList.take (m * n) = done := by
      rw [hc, List.take_append_of_le_length (by omega), List.take_of_length_le (by omega)]
    rw [hdone, hv] at hfold
    have hzip : v.cells.zipIdx.foldl (fun cs (c, j) => cs.setIfInBounds (m * n + j) c) cur = (v.cells.toList.zipIdx 0).foldl (fun cs (c, j) => cs.setIfInBounds (m * n + j) c) cur := by
      rw [← Array.foldl_toList]
      congr 1
      simp
    have hlen' : ((v.cells.toList.zipIdx 0).foldl (fun cs (c, j) => cs.setIfInBounds (m * n + j) c) cur).size = cur.size := by
      rw [← Array.length_toList, hfold]
      simp only [List.length_append, List.length_drop, Array.length_toList, hd, hvs]
      omega
    obtain ⟨cur', g1, g2⟩ := fill_range n arr parts (m + 1) (done ++ v.cells.toList) ((v.cells.toList.zipIdx 0).foldl (fun cs (c, j) => cs.setIfInBounds (m * n + j) c) cur) hr.2 (fun p hp => hn p (by simp [hp]))
      (by rw [List.length_append, hd, hv, Nat.succ_mul]) (by rw [hlen', hsz, Nat.add_mul, Nat.succ_mul]) (by
        rw [hfold]
        have hdl : (done ++ v.cells.toList).length = (m + 1) * n := by rw [List.length_append, hd, hv, Nat.succ_mul]
        rw [← hdl, List.drop_left])
    refine ⟨cur', ?_, by rw [g2]; simp⟩
    simp only [Instr.fill]
    rw [if_neg (by simp [hvs]; omega), hzip]
    exact g1
theorem Tys.R_get:∀ (cs:Tys) (md:Nat→Md) (g g':Nat→Option Value) (j:Nat) (x:cs.T),(∀ k,k < cs.len→g' (j+k)=g (j+k))→cs.R w ω md g j x→cs.R w ω md g' j x
 | .nil,_,_,_,_,_,_,_=>trivial
 | .cons t ts,md,g,g',j,x,hg,h=>by
  obtain ⟨⟨v,h1,h2⟩,h3⟩:=h
  refine ⟨⟨v,(hg 0 (by simp [Tys.len])).trans h1,h2⟩,Tys.R_get ts md g g' (j+1) _ (fun k hk=>?_) h3⟩
  have:=hg (k+1) (by simp [Tys.len,hk])
  rwa [show j+(k+1)=j+1+k by omega] at this
theorem run_buildSlice0 (w:World) (t e:TypeId) (len:Nat) (parts:Array (Nat×Value)) (cells:Array Value) (ie:TypeInfo)
  (hu:P.underlying t=some (.slice e)) (hie:P.info? e=some ie) (h0:len*ie.size=0)
  (h:Instr.fill (fun i=>some (i*ie.size,ie.size)) #[] parts.toList=some cells) :
  (Instr.buildSlice t len parts).run P w=.ok (.slice (some ⟨w.heap.size,0,none⟩) len len) (w.alloc (.cells cells e)):=by
 have he:(Array.map (fun _:Nat=>(default:Value)) (Array.range 0)) = #[]:=by apply Array.eq_empty_of_size_eq_zero;simp
 simp [Instr.buildSlice,run_underlying hu,sizeOf,typeInfo,hie,h0,newRow,he,h]
theorem getD_some {α:Type} {l:List α} {i:Nat} {z y:α} (h:l[i]? = some y):l.getD i z=y:=by
 rw [List.getD_eq_getElem?_getD,h];rfl
theorem get_ex {α:Type} {l:List α} {i:Nat} (h:i < l.length):∃ y,l[i]? = some y:=⟨l[i],List.getElem?_eq_getElem h⟩
end
end Go.R
namespace Go.R
section
variable {R:Type} {P:Program} {E:Env} {ω:Own} {a:Act} {w:World} {s:S} {k:S→Option R} {r:R} {o:Oper} {Q:Exit→Act→World→Prop}
structure Put (w w':World) (b:Nat):Prop where
 os:w'.os=w.os
 tape:w'.tape=w.tape
 output:w'.output=w.output
 size:w'.heap.size=w.heap.size
 block:∀ c,c≠b→w'.heap[c]? = w.heap[c]?
theorem Put.refl (w:World) (b:Nat):Put w w b:=⟨rfl,rfl,rfl,rfl,fun _ _=>rfl⟩
theorem Put.trans {w w' w'':World} {b:Nat} (h:Put w w' b) (h':Put w' w'' b):Put w w'' b:=
 ⟨h'.os.trans h.os,h'.tape.trans h.tape,h'.output.trans h.output,h'.size.trans h.size,fun c hc=>(h'.block c hc).trans (h.block c hc)⟩
theorem setCell_row {b o' T:Nat} {arr:Array Value} {z:Nat×Nat} {v:Value} (h:w.heap[b]? = some (.cells arr T z)) :
  (w.setCell ⟨b,o',none⟩ v).heap[b]? = some (.cells (arr.setIfInBounds o' v) T z):=by
 simp [World.setCell,Array.getElem?_modify,h]
theorem setCell_put (b o':Nat) (v:Value):Put w (w.setCell ⟨b,o',none⟩ v) b:=
 ⟨rfl,rfl,rfl,by simp [World.setCell],fun c hc=>by simp [World.setCell,Array.getElem?_modify,Ne.symm hc]⟩
theorem setCells_put (b:Nat):∀ (vs:List Value) (o':Nat) (w:World),Put w (w.setCells b o' vs) b
 | [],_,w=>Put.refl w b
 | v::vs,o',w=>(setCell_put b o' v).trans (setCells_put b vs (o'+1) _)
theorem setCells_row' (b T:Nat) (z:Nat×Nat):∀ (vs:List Value) (o':Nat) (w:World) (arr:Array Value),w.heap[b]? = some (.cells arr T z)→o'+vs.length≤arr.size →
  ∃ arr',(w.setCells b o' vs).heap[b]? = some (.cells arr' T z)∧arr'.toList=arr.toList.take o'++vs++arr.toList.drop (o'+vs.length)
 | [],o',w,arr,h,_=>⟨arr,h,by simp⟩
 | v::vs,o',w,arr,h,hle=>by
  simp only [List.length_cons] at hle
  obtain ⟨arr',h1,h2⟩:=setCells_row' b T z vs (o'+1) _ _ (setCell_row (v:=v) (o':=o') h) (by simp;omega)
  refine ⟨arr',h1,?_⟩
  rw [h2]
  have hlt:o' < arr.toList.length:=by simp;omega
  simp only [Array.toList_setIfInBounds]
  rw [List.take_set,List.drop_set_of_lt (by omega)]
  have e1:(arr.toList.take (o'+1)).set o' v=arr.toList.take o'++[v]:=by
   rw [List.take_succ_eq_append_getElem hlt,List.set_append_right _ _ (by simp;omega)]
   simp
   have:o' - min o' arr.size=0:=by omega
   rw [this]
   rfl
  rw [e1]
  simp only [List.length_cons,List.append_assoc,List.cons_append,List.nil_append]
  congr 3
  rw [show o'+1+vs.length=o'+(vs.length+1) by omega]
theorem move_ext {w':World} {b id id':Nat} (h0:id≠0) (h0':id'≠0) (hb:ω b=some (id,[])) (hp:Put w w' b):Ext ω w (ω.fresh id' b) w':=
 ⟨hp.os,hp.tape,hp.output,by rw [hp.size];exact Nat.le_refl _,fun c hc hn=>by
  have:c≠b:=fun e=>by subst e;exact hn.ne hb h0
  exact ⟨hp.block c this,fresh_fixed h0' this hn⟩⟩
theorem gone_cont {id:Nat} (ho:(s.ob id).o=.gone) {g h:Nat} {p:Pth} {c:Cont real} (hc:s.cont id g h p=some c):False:=by
 rw [cont_gone ho] at hc;cases hc
theorem move_tr {w':World} {b id id':Nat} (h0:id≠0) (h0':id'≠0) (hd:∀ b k,ω b=some k→b < w.heap.size) (hb:ω b=some (id,[])) (ho:(s.ob id).o=.gone) (hp:Put w w' b) (o:Ob real) (j:Nat):Tr w ω s w' (ω.fresh id' b) (s.new id' o) j:=by
 by_cases e:j=id'
 ·subst e
  exact Newer.tr (by unfold Newer St.new;rw [St.upd_ob_self];exact Nat.lt_succ_self _)
 ·have hob:(s.new id' o).ob j=s.ob j:=by unfold St.new;exact St.upd_ob_ne _ _ e
  by_cases e':j=id
  ·subst e'
   have ho':((s.new id' o).ob j).o=.gone:=by rw [hob];exact ho
   exact
   {ref:=fun v g h p hr=>⟨by rw [hob];exact hr.1,by rw [hob];exact hr.2.1,fun c hc=>(gone_cont ho' hc).elim⟩
    ptr:=fun v g off hr=>⟨by rw [hob];exact hr.1,fun _ cells hc=>by rw [ho'] at hc;cases hc⟩
    eptr:=fun v g h p i off hr=>⟨by rw [hob];exact hr.1,by rw [hob];exact hr.2.1,fun c hc=>(gone_cont ho' hc).elim⟩
    mref:=fun v g hr=>hr.shut (by rw [hob]) fun k x e=>by rw [ho'] at e;cases e }
  ·refine Same.tr ⟨hob,fun c kk hc hk hj=>?_⟩ (move_ext h0 h0' hb hp) hd
   have:c≠b:=fun ec=>by subst ec;rw [hb] at hk;injection hk with hk;subst hk;exact e' hj.symm
   exact ⟨hp.block c this,by rw [hk];exact Own.fresh_other this hk (by rw [hj];exact e)⟩
theorem Rel.moved (h:Rel ω a w s) {w':World} {b id id':Nat} (h0:id≠0) (h0':id'≠0) (hb:ω b=some (id,[])) (ho:(s.ob id).o=.gone) (hp:Put w w' b) (o:Ob real) (hno:∀ cells,o≠.blk cells) :
  Rel (ω.fresh id' b) a w' (s.new id' o) where
 inj c c' kk h1 h2:=by
  rcases Own.fresh_spec h1 with ⟨e1,e2⟩ | ⟨e1,e2,e3⟩ <;> rcases Own.fresh_spec h2 with ⟨e4,e5⟩ | ⟨e4,e5,e6⟩
  ·rw [e1,e4]
  ·rw [e2] at e6;exact absurd rfl e6
  ·rw [e5] at e3;exact absurd rfl e3
  ·exact h.inj c c' kk e2 e5
 dom c kk h1:=by
  rw [hp.size]
  rcases Own.fresh_spec h1 with ⟨e1,_⟩ | ⟨_,e2,_⟩
  ·rw [e1];exact h.dom b _ hb
  ·exact h.dom c kk e2
 defers:=h.defers
 own0:=by
  have:(s.new id' o).ob 0=s.ob 0:=by unfold St.new;exact St.upd_ob_ne _ _ (Ne.symm h0')
  rw [this];exact h.own0
 slots i:=RTV.frame (move_ext h0 h0' hb hp) (move_tr h0 h0' h.dom hb ho hp o) (h.slots i)
 blks j cells hc:=by
  by_cases e:j=id'
  ·subst e
   exact absurd (by simpa [St.new,St.upd_ob_self] using hc) (hno cells)
  ·have hob:(s.new id' o).ob j=s.ob j:=by unfold St.new;exact St.upd_ob_ne _ _ e
   rw [hob] at hc
   obtain ⟨c,arr,T,h1,h2,h3⟩:=h.blks j cells hc
   have hcb:c≠b:=fun ec=>by
    subst ec;rw [hb] at h1;injection h1 with h1;injection h1 with h1 _;subst h1;rw [ho] at hc;cases hc
   exact ⟨c,arr,T,Own.fresh_other hcb h1 e,(hp.block c hcb).trans h2,h3.mono fun _ _ hl=>RLf.frame (move_ext h0 h0' hb hp) (move_tr h0 h0' h.dom hb ho hp o) hl⟩
theorem bare_tr {id':Nat} (h0:id'≠0) (hd:∀ b k,ω b=some k→b < w.heap.size) (o:Ob real) (j:Nat):Tr w ω s w (ω.drop id') (s.new id' o) j:=by
 by_cases e:j=id'
 ·subst e
  exact Newer.tr (by unfold Newer St.new;rw [St.upd_ob_self];exact Nat.lt_succ_self _)
 ·exact Same.tr ⟨by unfold St.new;exact St.upd_ob_ne _ _ e,fun b kk hb hk hj=>⟨rfl,by rw [hk];exact Own.drop_other hk (by rw [hj];exact e)⟩⟩ (freeze_ext _ _ _ h0) hd
theorem Rel.bare (h:Rel ω a w s) {id':Nat} (h0:id'≠0) (o:Ob real) (hno:∀ cells,o≠.blk cells):Rel (ω.drop id') a w (s.new id' o) where
 inj b b' kk h1 h2:=h.inj b b' kk (Own.drop_spec h1).1 (Own.drop_spec h2).1
 dom b kk h1:=h.dom b kk (Own.drop_spec h1).1
 defers:=h.defers
 own0:=by
  have:(s.new id' o).ob 0=s.ob 0:=by unfold St.new;exact St.upd_ob_ne _ _ (Ne.symm h0)
  rw [this];exact h.own0
 slots i:=RTV.frame (freeze_ext _ _ _ h0) (bare_tr h0 h.dom o) (h.slots i)
 blks j cells hc:=by
  by_cases e:j=id'
  ·subst e
   exact absurd (by simpa [St.new,St.upd_ob_self] using hc) (hno cells)
  ·have hob:(s.new id' o).ob j=s.ob j:=by unfold St.new;exact St.upd_ob_ne _ _ e
   rw [hob] at hc
   obtain ⟨c,arr,T,h1,h2,h3⟩:=h.blks j cells hc
   exact ⟨c,arr,T,Own.drop_other h1 e,h2,h3.mono fun _ _ hl=>RLf.frame (freeze_ext _ _ _ h0) (bare_tr h0 h.dom o) hl⟩
theorem Ty.R_plain {w':World} {ω':Own} {md md':Md} {v:Value}:∀ {t:Ty} {x:t.T},(∀ e cs,t≠.sl e cs)→t.R w ω md v x→t.R w' ω' md' v x
 | .int _,_,_,h=>h
 | .bool,_,_,h=>h
 | .str,_,_,h=>h
 | .sl e cs,_,hn,_=>absurd rfl (hn e cs)
theorem plain_cons {t:Ty} {ts:Tys} (h:(Tys.cons t ts).plain=true):(∀ e cs,t≠.sl e cs)∧ts.plain=true:=by
 cases t with
 | sl e cs=>cases h
 | _=>exact ⟨fun _ _ e=>(by cases e),h⟩
theorem Tys.R_plain {w':World} {ω':Own}:∀ (cs:Tys) (md md':Nat→Md) (g:Nat→Option Value) (j:Nat) (x:cs.T),cs.plain=true→cs.R w ω md g j x→cs.R w' ω' md' g j x
 | .nil,_,_,_,_,_,_,_=>trivial
 | .cons t ts,md,md',g,j,x,hp,h=>by
  obtain ⟨⟨v,h1,h2⟩,h3⟩:=h
  exact ⟨⟨v,h1,Ty.R_plain (plain_cons hp).1 h2⟩,Tys.R_plain ts md md' g (j+1) _ (plain_cons hp).2 h3⟩
theorem Ty.R_one {md:Md} {v:Value}:∀ {t:Ty} {x:t.T},t.R w ω md v x→v.oneCell'=true
 | .int _,_,h=>by have:v=_:=h;subst this;rfl
 | .bool,_,h=>by have:v=_:=h;subst this;rfl
 | .str,_,h=>by have:v=_:=h;subst this;rfl
 | .sl _ _,_,h=>by obtain ⟨_,_,_,h,_⟩:=h;subst h;rfl
theorem Tys.R_row:∀ (cs:Tys) (md:Nat→Md) (g:Nat→Option Value) (j:Nat) (x:cs.T),cs.R w ω md g j x →
  ∃ us:List Value,us.length=cs.len∧∀ k u,us[k]? = some u→g (j+k)=some u∧u.oneCell'=true
 | .nil,_,_,_,_,_=>⟨[],rfl,by simp⟩
 | .cons t ts,md,g,j,x,h=>by
  obtain ⟨⟨v,h1,h2⟩,h3⟩:=h
  obtain ⟨us,e1,e2⟩:=Tys.R_row ts md g (j+1) _ h3
  refine ⟨v::us,by simp [Tys.len,e1],fun k u hu=>?_⟩
  cases k with
  | zero=>simp at hu;subst hu;exact ⟨h1,Ty.R_one h2⟩
  | succ k =>
   have:=e2 k u (by simpa using hu)
   rwa [show j+1+k=j+(k+1) by omega] at this
theorem row_cells {b off m:Nat}:∀ (n:Nat),(∀ i,i < n→∃ us:List Value,us.length=m∧∀ k u,us[k]? = some u→w.cell? ⟨b,off+i*m+k,none⟩=some u∧u.oneCell'=true) →
  ∃ news:List Value,news.length=n*m∧∀ k u,news[k]? = some u→w.cell? ⟨b,off+k,none⟩=some u∧u.oneCell'=true
 | 0,_=>⟨[],by simp,by simp⟩
 | n+1,h=>by
  obtain ⟨news,h1,h2⟩:=row_cells n (fun i hi=>h i (by omega))
  obtain ⟨us,h3,h4⟩:=h n (by omega)
  refine ⟨news++us,by rw [List.length_append,h1,h3,Nat.succ_mul],fun k u hu=>?_⟩
  by_cases hk:k < news.length
  ·rw [List.getElem?_append_left hk] at hu
   exact h2 k u hu
  ·rw [List.getElem?_append_right (by omega)] at hu
   have:=h4 _ u hu
   rwa [show off+n*m+(k - news.length)=off+k by omega] at this
theorem slice_src {t:TVr} {v:Value} {c:Cont real} (h:cont? s t=some c) (hr:RTV w ω s v t) (hok:c.md≠2∨c.cs.plain=true) :
  ∃ (ad:Option Addr) (cp:Nat) (news:List Value),v=.slice ad (List.length c.x) cp∧List.length c.x≤cp∧news.length=List.length c.x*c.cs.len∧(∀ u∈news,u.oneCell'=true) ∧
   (0 < List.length c.x→∃ b off,ad=some ⟨b,off,none⟩∧∀ k u,news[k]? = some u→w.cell? ⟨b,off+k,none⟩=some u) ∧
   ∀ (i:Nat),i < List.length c.x→c.cs.R w ω (fun _=>.imm) (fun j=>news[i*c.cs.len+j]?) 0 (List.getD c.x i (zTs c.cs)):=by
 have key:∀ (md:Md),(Ty.sl c.e c.cs).R w ω md v c.x→(∀ i j,md.inner i j=.imm)∨c.cs.plain=true→∃ (ad:Option Addr) (cp:Nat) (news:List Value),v=.slice ad (List.length c.x) cp∧List.length c.x≤cp∧news.length=List.length c.x*c.cs.len∧(∀ u∈news,u.oneCell'=true) ∧
   (0 < List.length c.x→∃ b off,ad=some ⟨b,off,none⟩∧∀ k u,news[k]? = some u→w.cell? ⟨b,off+k,none⟩=some u) ∧
   ∀ (i:Nat),i < List.length c.x→c.cs.R w ω (fun _=>.imm) (fun j=>news[i*c.cs.len+j]?) 0 (List.getD c.x i (zTs c.cs)):=by
  intro md hR hmd
  obtain ⟨ad,n,cp,e1,e2,e3,e4,e5⟩:=hR
  subst e2
  by_cases h0:List.length c.x=0
  ·refine ⟨ad,cp,[],e1,e3,by rw [h0];simp,by simp,fun hp=>absurd hp (by omega),fun i hi=>absurd hi (by omega)⟩
  ·have hpos:0 < List.length c.x:=Nat.pos_of_ne_zero h0
   obtain ⟨b,off,f1,f2,f3⟩:=e4.block hpos
   obtain ⟨news,g1,g2⟩:=row_cells (w:=w) (b:=b) (off:=off) (m:=c.cs.len) (List.length c.x) (fun i hi=>by
    obtain ⟨us,u1,u2⟩:=Tys.R_row c.cs _ _ 0 _ (e5 i _ hi f1)
    exact ⟨us,u1,fun k u hu=>by have:=u2 k u hu;simpa using this⟩)
   refine ⟨ad,cp,news,e1,e3,g1,fun u hu=>?_,fun _=>⟨b,off,f1,fun k u hu=>(g2 k u hu).1⟩,fun i hi=>?_⟩
   ·obtain ⟨k,hk,rfl⟩:=List.getElem_of_mem hu
    exact (g2 k _ (List.getElem?_eq_getElem hk)).2
   ·have hrow:=e5 i _ hi f1
    have hrow':c.cs.R w ω (fun _=>.imm) (fun j=>w.cell? ⟨b,off+i*c.cs.len+j,none⟩) 0 (List.getD c.x i (zTs c.cs)):=by
     rcases hmd with hmd | hmd
     ·have:md.inner i=fun _=>.imm:=funext fun j=>hmd i j
      rw [this] at hrow
      exact hrow
     ·exact Tys.R_plain c.cs _ _ _ 0 _ hmd hrow
    refine Tys.R_get c.cs _ _ _ 0 _ (fun j hj=>?_) hrow'
    rw [Nat.zero_add]
    have hlt:i*c.cs.len+j < news.length:=by
     rw [g1]
     have:(i+1)*c.cs.len≤List.length c.x*c.cs.len:=Nat.mul_le_mul_right _ hi
     rw [Nat.succ_mul] at this
     omega
    have:=(g2 _ _ (List.getElem?_eq_getElem hlt)).1
    rw [List.getElem?_eq_getElem hlt,←this]
    rw [Nat.add_assoc]
 unfold cont? at h
 split at h
 ·injection h with h
  subst h
  exact key .imm hr (.inl fun _ _=>rfl)
 ·injection h with h
  subst h
  obtain ⟨ad,e1⟩:=hr
  exact key .imm ⟨ad,0,0,e1,rfl,Nat.le_refl _,fun hn=>absurd hn (by omega),fun i _ hi=>absurd hi (by omega)⟩ (.inl fun _ _=>rfl)
 ·rename_i id g hh p
  have hR:=hr.2.2 c h
  refine key _ hR ?_
  rcases hok with hok | hok
  ·rcases (md_path h).2 with hm | hm | hm
   ·rw [hm];exact .inl fun _ _=>rfl
   ·rw [hm];exact .inl fun _ _=>rfl
   ·exact absurd hm hok
  ·exact .inr hok
 ·cases h
end
end Go.R
