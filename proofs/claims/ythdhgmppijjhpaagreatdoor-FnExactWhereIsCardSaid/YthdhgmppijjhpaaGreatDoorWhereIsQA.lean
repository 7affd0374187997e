import Derived.Test.YthdhgmppijjhpaaGreatDoorRE
import Derived.Lib.SlicesCompact
import Derived.Sort.AssemblyPlain
import Derived.Shelf.LaysM
import Derived.Shelf.Strconv.Itoa3
import Derived.Lib.AppendIntMem
import Derived.Lib.LaidTab
import Derived.Lib.ItoaLen
import Derived.Lib.ItoaMem
/- Plain functions that stand for Go functions, and what they answer. Conditions: none. -/
set_option autoImplicit false
set_option linter.unusedVariables false
set_option linter.unusedSimpArgs false
set_option linter.unusedVariables false
namespace Go.Fn
open Go.R
abbrev MA:=List (Int×Int)
abbrev LK:=List Int
abbrev RM:=Int×Int×Int×Bool
abbrev M8:=List RM
abbrev Nj:=List (Int×LK×M8)
abbrev RV:=Int×Int×Int×Int×Int×Int×Int
abbrev Kr:=List RV
abbrev Ua:=MA×MA×Nj×Int×Int×Bool×Bool×Bool×Int×Int×Kr
abbrev LJ:=List Ua
abbrev Ub:=Int×Int×Int×Int×Int×Int×RV
abbrev Ll:=List Ub
abbrev n3:=Int×Unit
abbrev Lm:=List (Int×Int×Int×RM)
abbrev PF:=Bool×Unit
abbrev nw:=Option PF
abbrev RQ:=Unit⊕Empty
abbrev NA:=Option (n3⊕PF⊕RQ)
abbrev Qz:=Kr×Unit
abbrev QV:=Int×Int×Int×Int×Int×Int×Int×Int×Int×Int×Int×LJ×Ll×Lm×Qz
abbrev M9:=Int×n3
abbrev Qy:=Option (M9⊕PF⊕n3⊕Empty)
abbrev Qq:=List (Int×Bool)
abbrev Nn:=Option n3
abbrev RW:=Int×Int×Int×Int×Int×Int×Int×Int×Int×Int×Int×LJ×Ll×Lm×Kr×n3
abbrev RN:=Option (n3⊕n3⊕RQ)
abbrev RO:=ByteArray×Unit
abbrev RP:=Option (M9⊕n3⊕Empty)
abbrev QW:=M8×Unit
abbrev RX:=Int×Int×Int×Int×Int×M9
abbrev QA:=Qq×n3
abbrev QX:=Nj×Unit
abbrev RR:=Int×LK×QW
abbrev RY:=Int×Int×Int×PF
abbrev Rm:=Option RO
abbrev Uc:=Option (M9⊕n3⊕n3⊕Empty)
abbrev QY:=M8×n3
abbrev QZ:=Nj×n3
abbrev Rn:=MA×Unit
abbrev Ro:=LJ×Unit
abbrev Rp:=Lm×Unit
abbrev Ud:=Int×Int×Int×Bool×n3
abbrev Ue:=Option (QA⊕PF⊕RQ)
noncomputable def fq:RV:=(0,0,0,0,0,0,0)
noncomputable def Lq(a b c d e f g:Int):Option RX:=some (a,b,c,d,e,f,g,())
noncomputable def bt(a b c:Int):nw:=cond (af .geq a b) (some (af .leq a c,())) (some (false,()))
noncomputable def JQ(a b c d e f g:Int):nw:=(bt a 0 5).bind fun h=>letI i:=some (false,());cond h.1 ((bt b 1 999).bind fun j=>cond j.1 ((bt c 1 100000).bind fun k=>cond k.1 ((bt d 1 4).bind fun l=>cond l.1 ((bt e 1 999).bind fun m=>cond m.1 ((bt f 0 20000).bind fun n=>cond n.1 ((bt g 0 20000).bind fun o=>some (o.1,())) i) i) i) i) i) i
noncomputable def br(a b c:Int):nw:=cond (af .geq a b) (some (af .leq a c,())) (some (false,()))
noncomputable def ia(a:Int):nw:=(br a 0 20000).bind fun b=>some (b.1,())
noncomputable def JH(a b c d e f g:Int):nw:=(br a 0 5).bind fun h=>letI i:=some (false,());cond h.1 ((br b 1 999).bind fun j=>cond j.1 ((br c 1 100000).bind fun k=>cond k.1 ((br d 1 4).bind fun l=>cond l.1 ((br e 1 999).bind fun m=>cond m.1 ((ia f).bind fun n=>cond n.1 ((ia g).bind fun o=>some (o.1,())) i) i) i) i) i) i
noncomputable def qe(a:Kr)(b:Int):Nn:=letI c:=aa .sub .i64 b (ai a);cond (af .lss c 0) (some (-1,())) (some (c,()))
noncomputable def mm(a:Qz)(b:Kr×n3):Option (Kr×n3⊕Qz⊕Empty):=letI c:=b.2.1;letI d:=ae fq a.1 c;letI e:=d.2.2.2;cond (af .lss c (ai a.1)) (cond (ah a.1 c) ((Lq d.1 d.2.1 d.2.2.1 e.1 e.2.1 e.2.2.1 e.2.2.2).bind fun f=>letI g:=f.2.2.2;cond (ah b.1 c) (some (.inl (aC b.1 c (f.1,f.2.1,f.2.2.1,g.1,g.2.1,g.2.2.1,g.2.2.2.1),aa .add .i64 c 1,()))) none) none) (some (.inr (.inl (b.1,()))))
noncomputable def mo k x:=iter (mm k) big x
noncomputable def qx(a:Kr):Option Qz:=letI b:=(0:Int);cond (cL (ai a)) ((mo (a,()) (cX (ai a) (b,b,b,b,b,b,b),b,())).bind fun c=>Sum.elim (fun d=>some (d.1,())) (fun d=>Empty.elim d) c) none
noncomputable def DM(a:Qz)(b:n3):NA:=letI c:=ae fq a.1 b.1;letI d:=c.2.2;cond (af .lss b.1 (ai a.1)) (cond (ah a.1 b.1) ((JQ c.1 c.2.1 d.1 d.2.1 d.2.2.1 d.2.2.2.1 d.2.2.2.2).bind fun e=>letI f:=(false,());letI g:=af .gtr b.1 0;letI h:=aa .sub .i64 b.1 1;letI i:=(aa .add .i64 b.1 1,());letI j:=ah a.1 h;letI k:=ae fq a.1 h;letI l:=af .eql c.1 k.1;letI m:=af .leq c.2.1 k.2.1;letI n:=af .leq d.1 k.2.2.1;cond (Bool.not e.1) (some (.inr (.inl f))) (cond g (cond j (cond (af .lss c.1 k.1) (some (.inr (.inl f))) (cond g (cond j (cond l (cond j (cond m (some (.inr (.inl f))) (cond j (cond n (some (.inr (.inl f))) (some (.inl i))) none)) none) (some (.inl i))) none) (some (.inl i)))) none) (cond g (cond j (cond l (cond j (cond m (some (.inr (.inl f))) (cond j (cond n (some (.inr (.inl f))) (some (.inl i))) none)) none) (some (.inl i))) none) (some (.inl i))))) none) (some (.inr (.inr (.inl ()))))
noncomputable def D3 k x:=iter (DM k) big x
noncomputable def jj(a:Kr):nw:=cond (af .gtr (ai a) 60) (some (false,())) ((D3 (a,()) (0,())).bind fun b=>Sum.elim (fun c=>some (c.1,())) (fun c=>Sum.elim (fun _=>some (true,())) (fun d=>Empty.elim d) c) b)
noncomputable def ve(a:Kr×Kr×n3)(b:n3):NA:=letI c:=ae fq a.2.1 b.1;letI d:=c.2.2;cond (af .lss b.1 a.2.2.1) (cond (ah a.2.1 b.1) ((JH c.1 c.2.1 d.1 d.2.1 d.2.2.1 d.2.2.2.1 d.2.2.2.2).bind fun e=>letI f:=(false,());letI g:=aa .sub .i64 b.1 1;letI h:=(aa .add .i64 b.1 1,());letI i:=ae fq a.1 g;cond (Bool.not e.1) (some (.inr (.inl f))) (cond (af .eql b.1 0) (some (.inl h)) (cond (ah a.1 g) (cond (af .lss c.1 i.1) (some (.inr (.inl f))) (cond (af .eql c.1 i.1) (cond (af .leq c.2.1 i.2.1) (some (.inr (.inl f))) (cond (af .leq d.1 i.2.2.1) (some (.inr (.inl f))) (some (.inl h)))) (some (.inl h)))) none))) none) (some (.inr (.inr (.inl ()))))
noncomputable def vm k x:=iter (ve k) big x
noncomputable def iL(a:Kr):nw:=cond (af .gtr (ai a) 60) (some (false,())) ((vm (a,a,ai a,()) (0,())).bind fun b=>Sum.elim (fun c=>some (c.1,())) (fun c=>Sum.elim (fun _=>some (true,())) (fun d=>Empty.elim d) c) b)
noncomputable def JL(a b c d e f g h i j k l m n:Int):nw:=letI o:=some (false,());cond (af .neq a h) o (cond (af .neq b i) o (cond (af .neq c j) o (cond (af .neq d k) o (cond (af .neq e l) o (cond (af .neq f m) o (cond (af .neq g n) o (some (true,()))))))))
noncomputable def IK(a:Kr×Qz)(b:n3):NA:=letI c:=ae fq a.1 b.1;letI d:=ae fq a.2.1 b.1;letI e:=c.2.2.2;letI f:=d.2.2.2;cond (af .lss b.1 (ai a.1)) (cond (ah a.1 b.1) (cond (ah a.2.1 b.1) ((JL c.1 c.2.1 c.2.2.1 e.1 e.2.1 e.2.2.1 e.2.2.2 d.1 d.2.1 d.2.2.1 f.1 f.2.1 f.2.2.1 f.2.2.2).bind fun g=>cond (Bool.not g.1) (some (.inr (.inl (false,())))) (some (.inl (aa .add .i64 b.1 1,())))) none) none) (some (.inr (.inr (.inl ()))))
noncomputable def IL k x:=iter (IK k) big x
noncomputable def n7(a b:Kr):nw:=cond (af .neq (ai a) (ai b)) (some (false,())) ((IL (a,b,()) (0,())).bind fun c=>Sum.elim (fun d=>some (d.1,())) (fun d=>Sum.elim (fun _=>some (true,())) (fun e=>Empty.elim e) d) c)
end Go.Fn
set_option linter.unusedVariables false
namespace Go.Fn
open Go.R
noncomputable def zI:Int:=0
noncomputable def Kg(a:LK×LK×Unit)(b:n3):NA:=cond (af .lss b.1 (ai a.1)) (cond (ah a.1 b.1) (cond (ah a.2.1 b.1) (cond (af .neq (ae zI a.1 b.1) (ae zI a.2.1 b.1)) (some (.inr (.inl (false,())))) (some (.inl (aa .add .i64 b.1 1,())))) none) none) (some (.inr (.inr (.inl ()))))
noncomputable def Kh k x:=iter (Kg k) big x
noncomputable def KO(a b:LK):nw:=cond (af .neq (ai a) (ai b)) (some (false,())) ((Kh (a,b,()) (0,())).bind fun c=>Sum.elim (fun d=>some (d.1,())) (fun d=>Sum.elim (fun _=>some (true,())) (fun e=>Empty.elim e) d) c)
noncomputable def zW(a:LK×Unit)(b:LK×n3):Option (LK×n3⊕LK×Unit⊕Empty):=letI c:=b.2.1;cond (af .lss c (ai a.1)) (cond (ah a.1 c) (cond (ah b.1 c) (some (.inl (aC b.1 c (ae zI a.1 c),aa .add .i64 c 1,()))) none) none) (some (.inr (.inl (b.1,()))))
noncomputable def z1 k x:=iter (zW k) big x
noncomputable def KY(a:LK):Option (LK×Unit):=cond (cL (ai a)) ((z1 (a,()) (cX (ai a) (0:Int),0,())).bind fun b=>Sum.elim (fun c=>some (c.1,())) (fun c=>Empty.elim c) b) none
end Go.Fn
set_option linter.unusedVariables false
namespace Go.Fn
open Go.R
noncomputable def RL:LK:=([]:LK)
noncomputable def KU(a:LK)(b:Int):Nn:=letI c:=aa .sub .i64 b (ai a);cond (af .lss c 0) (some (-1,())) (some (c,()))
end Go.Fn
set_option linter.unusedVariables false
namespace Go.Fn
open Go.R
noncomputable def L2:Int×Int:=(0,0)
noncomputable def ze(a:MA)(b:Int):Nn:=letI c:=aa .sub .i64 b (ai a);cond (af .lss c 0) (some (-1,())) (some (c,()))
noncomputable def KW(a b:MA)(c:Int):Nn:=(ze a c).bind fun d=>letI e:=some ((-1:Int),());cond (af .lss d.1 0) e ((ze b d.1).bind fun f=>cond (af .lss f.1 0) e (some (f.1,())))
noncomputable def LU(a b:Int):Option M9:=some (a,b,())
noncomputable def r4(a:Rn)(b:MA×n3):Option (MA×n3⊕Rn⊕Empty):=letI c:=b.2.1;cond (af .lss c (ai a.1)) (cond (ah a.1 c) ((LU (ae L2 a.1 c).1 (ae L2 a.1 c).2).bind fun d=>cond (ah b.1 c) (some (.inl (aC b.1 c (d.1,d.2.1),aa .add .i64 c 1,()))) none) none) (some (.inr (.inl (b.1,()))))
noncomputable def r5 k x:=iter (r4 k) big x
noncomputable def BE(a:MA):Option Rn:=cond (cL (ai a)) ((r5 (a,()) (cX (ai a) ((0:Int),(0:Int)),0,())).bind fun b=>Sum.elim (fun c=>some (c.1,())) (fun c=>Empty.elim c) b) none
noncomputable def KZ(a b:MA):Option (MA×Rn):=(BE a).bind fun c=>(BE b).bind fun d=>some (c.1,d.1,())
noncomputable def Ls(a b c d e f g h:Int):Option (Int×RX):=some (a,b,c,d,e,f,g,h,())
noncomputable def JA(a:MA×n3)(b:n3):NA:=letI c:=(false,());letI d:=ae L2 a.1 b.1;letI e:=aa .sub .i64 b.1 1;letI f:=(aa .add .i64 b.1 1,());cond (af .lss b.1 (ai a.1)) (cond (ah a.1 b.1) (cond (af .lss d.1 0) (some (.inr (.inl c))) (cond (af .geq d.1 d.2) (some (.inr (.inl c))) (cond (af .gtr d.2 a.2.1) (some (.inr (.inl c))) (cond (af .gtr b.1 0) (cond (ah a.1 e) (cond (af .leq d.1 (ae L2 a.1 e).2) (some (.inr (.inl c))) (some (.inl f))) none) (some (.inl f)))))) none) (some (.inr (.inr (.inl ()))))
noncomputable def JB k x:=iter (JA k) big x
noncomputable def IB(a:MA)(b:Int):nw:=cond (af .gtr (ai a) 20) (some (false,())) ((JB (a,b,()) (0,())).bind fun c=>Sum.elim (fun d=>some (d.1,())) (fun d=>Sum.elim (fun _=>some (true,())) (fun e=>Empty.elim e) d) c)
noncomputable def Jh(a b:MA):nw:=(IB a 168).bind fun c=>cond c.1 ((IB b 20000).bind fun d=>some (d.1,())) (some (false,()))
noncomputable def JR(a b c d e f g h:Int):nw:=letI i:=(2000:Int);(bt a 1 i).bind fun j=>letI k:=some (false,());cond j.1 ((bt c 1 i).bind fun l=>cond l.1 ((bt f 1 i).bind fun m=>cond m.1 ((bt b 0 i).bind fun n=>cond n.1 ((bt d 0 10000).bind fun o=>cond o.1 ((bt e 0 1000000).bind fun p=>cond p.1 ((bt g 0 100000).bind fun q=>cond q.1 ((bt h 0 20).bind fun r=>some (r.1,())) k) k) k) k) k) k) k
noncomputable def Jl(a:MA×Int×MA×n3)(b:n3):NA:=letI c:=(false,());letI d:=aa .sub .i64 b.1 1;letI e:=ae L2 a.2.2.1 b.1;letI f:=(aa .add .i64 b.1 1,());cond (af .lss b.1 a.2.2.2.1) (cond (ah a.2.2.1 b.1) (cond (af .lss e.1 0) (some (.inr (.inl c))) (cond (af .geq e.1 e.2) (some (.inr (.inl c))) (cond (af .gtr e.2 a.2.1) (some (.inr (.inl c))) (cond (af .gtr b.1 0) (cond (ah a.1 d) (cond (af .leq e.1 (ae L2 a.1 d).2) (some (.inr (.inl c))) (some (.inl f))) none) (some (.inl f)))))) none) (some (.inr (.inr (.inl ()))))
noncomputable def Jm k x:=iter (Jl k) big x
noncomputable def vw(a:MA)(b:Int):nw:=cond (af .gtr (ai a) 20) (some (false,())) ((Jm (a,b,a,ai a,()) (0,())).bind fun c=>Sum.elim (fun d=>some (d.1,())) (fun d=>Sum.elim (fun _=>some (true,())) (fun e=>Empty.elim e) d) c)
noncomputable def Jd(a b:MA):nw:=(vw a 168).bind fun c=>cond c.1 ((vw b 20000).bind fun d=>some (d.1,())) (some (false,()))
noncomputable def JI(a b c d e f g h:Int):nw:=letI i:=(2000:Int);(br a 1 i).bind fun j=>letI k:=some (false,());cond j.1 ((br c 1 i).bind fun l=>cond l.1 ((br f 1 i).bind fun m=>cond m.1 ((br b 0 i).bind fun n=>cond n.1 ((br d 0 10000).bind fun o=>cond o.1 ((br e 0 1000000).bind fun p=>cond p.1 ((br g 0 100000).bind fun q=>cond q.1 ((br h 0 20).bind fun r=>some (r.1,())) k) k) k) k) k) k) k
noncomputable def KR(a b c d:Int):nw:=letI e:=some (false,());cond (af .neq a c) e (cond (af .neq b d) e (some (true,())))
noncomputable def Jw(a:MA×Rn)(b:n3):NA:=letI c:=ae L2 a.1 b.1;letI d:=ae L2 a.2.1 b.1;cond (af .lss b.1 (ai a.1)) (cond (ah a.1 b.1) (cond (ah a.2.1 b.1) ((KR c.1 c.2 d.1 d.2).bind fun e=>cond (Bool.not e.1) (some (.inr (.inl (false,())))) (some (.inl (aa .add .i64 b.1 1,())))) none) none) (some (.inr (.inr (.inl ()))))
noncomputable def Jx k x:=iter (Jw k) big x
noncomputable def yt(a b:MA):nw:=cond (af .neq (ai a) (ai b)) (some (false,())) ((Jx (a,b,()) (0,())).bind fun c=>Sum.elim (fun d=>some (d.1,())) (fun d=>Sum.elim (fun _=>some (true,())) (fun e=>Empty.elim e) d) c)
noncomputable def KS(a b c d:MA):nw:=(yt a c).bind fun e=>letI f:=some (false,());cond (Bool.not e.1) f ((yt b d).bind fun g=>cond (Bool.not g.1) f (some (true,())))
end Go.Fn
set_option linter.unusedVariables false
namespace Go.Fn
open Go.R
noncomputable def JO(a b c d e f g h i j k l m n o p:Int):nw:=letI q:=some (false,());cond (af .neq a i) q (cond (af .neq b j) q (cond (af .neq c k) q (cond (af .neq d l) q (cond (af .neq e m) q (cond (af .neq f n) q (cond (af .neq g o) q (cond (af .neq h p) q (some (true,())))))))))
end Go.Fn
set_option linter.unusedVariables false
namespace Go.Fn
open Go.R
noncomputable def aS:Ua:=(([]:MA),([]:MA),([]:Nj),0,0,false,false,false,0,0,([]:Kr))
noncomputable def bg:Ub:=letI a:=(0:Int);(a,a,a,a,a,a,a,a,a,a,a,a,a)
noncomputable def rm:Int×Int×Int×RM:=(0,0,0,0,0,0,false)
noncomputable def bn:Int×LK×M8:=(0,([]:LK),([]:M8))
noncomputable def fe:RM:=(0,0,0,false)
noncomputable def KT(a:M8)(b:Int):Nn:=letI c:=aa .sub .i64 b (ai a);cond (af .lss c 0) (some (-1,())) (some (c,()))
noncomputable def oa(a:Int)(b:LK)(c:M8)(d:Int):Nn:=(KU b d).bind fun e=>letI f:=some ((-1:Int),());cond (af .lss e.1 0) f ((KT c e.1).bind fun g=>cond (af .lss g.1 0) f (some (g.1,())))
noncomputable def ii(a:QX)(b:M9):Uc:=letI c:=ae bn a.1 b.2.1;cond (af .lss b.2.1 (ai a.1)) (cond (ah a.1 b.2.1) ((oa c.1 c.2.1 c.2.2 b.1).bind fun d=>cond (af .lss d.1 0) (some (.inr (.inl (-1,())))) (some (.inl (d.1,aa .add .i64 b.2.1 1,())))) none) (some (.inr (.inr (.inl (b.1,())))))
noncomputable def za k x:=iter (ii k) big x
noncomputable def yx(a:Nj)(b:Int):Nn:=letI c:=aa .sub .i64 b (ai a);cond (af .lss c 0) (some (-1,())) ((za (a,()) (c,0,())).bind fun d=>Sum.elim (fun e=>some (e.1,())) (fun e=>Sum.elim (fun f=>some (f.1,())) (fun f=>Empty.elim f) e) d)
noncomputable def KV(a b:MA)(c:Nj)(d e:Int)(f g h:Bool)(i j:Int)(k:Kr)(l:Int):Nn:=(KW a b l).bind fun m=>letI n:=some ((-1:Int),());cond (af .lss m.1 0) n ((yx c m.1).bind fun o=>cond (af .lss o.1 0) n ((qe k o.1).bind fun p=>cond (af .lss p.1 0) n (some (p.1,()))))
noncomputable def kv(a:Ro)(b:M9):Uc:=letI c:=ae aS a.1 b.2.1;letI d:=c.2;letI e:=d.2.2.2.2.2;cond (af .lss b.2.1 (ai a.1)) (cond (ah a.1 b.2.1) ((KV c.1 d.1 d.2.1 d.2.2.1 d.2.2.2.1 d.2.2.2.2.1 e.1 e.2.1 e.2.2.1 e.2.2.2.1 e.2.2.2.2 b.1).bind fun f=>cond (af .lss f.1 0) (some (.inr (.inl (-1,())))) (some (.inl (f.1,aa .add .i64 b.2.1 1,())))) none) (some (.inr (.inr (.inl (b.1,())))))
noncomputable def Jy k x:=iter (kv k) big x
noncomputable def me(a:LJ)(b:Int):Nn:=letI c:=aa .sub .i64 b (ai a);cond (af .lss c 0) (some (-1,())) ((Jy (a,()) (c,0,())).bind fun d=>Sum.elim (fun e=>some (e.1,())) (fun e=>Sum.elim (fun f=>some (f.1,())) (fun f=>Empty.elim f) e) d)
noncomputable def zc(a:Ll)(b:Int):Nn:=letI c:=aa .sub .i64 b (ai a);cond (af .lss c 0) (some (-1,())) (some (c,()))
noncomputable def I7(a:Lm)(b:Int):Nn:=letI c:=aa .sub .i64 b (ai a);cond (af .lss c 0) (some (-1,())) (some (c,()))
noncomputable def zb(a b c d e f g h i j k:Int)(l:LJ)(m:Ll)(n:Lm)(o:Kr)(p:Int):Nn:=(me l p).bind fun q=>letI r:=some ((-1:Int),());cond (af .lss q.1 0) r ((zc m q.1).bind fun s=>cond (af .lss s.1 0) r ((I7 n s.1).bind fun t=>cond (af .lss t.1 0) r ((qe o t.1).bind fun u=>cond (af .lss u.1 0) r (some (u.1,())))))
noncomputable def Mm(a b c:Int)(d:Bool):Option RY:=some (a,b,c,d,())
noncomputable def zf(a:QW)(b:QY):Option (QY⊕QW⊕Empty):=letI c:=b.2.1;letI d:=ae fe a.1 c;cond (af .lss c (ai a.1)) (cond (ah a.1 c) ((Mm d.1 d.2.1 d.2.2.1 d.2.2.2).bind fun e=>cond (ah b.1 c) (some (.inl (aC b.1 c (e.1,e.2.1,e.2.2.1,e.2.2.2.1),aa .add .i64 c 1,()))) none) none) (some (.inr (.inl (b.1,()))))
noncomputable def zg k x:=iter (zf k) big x
noncomputable def KX(a:M8):Option QW:=cond (cL (ai a)) ((zg (a,()) (cX (ai a) ((0:Int),(0:Int),(0:Int),false),0,())).bind fun b=>Sum.elim (fun c=>some (c.1,())) (fun c=>Empty.elim c) b) none
noncomputable def qk(a:Int)(b:LK)(c:M8):Option RR:=(KY b).bind fun d=>(KX c).bind fun e=>some (a,d.1,e.1,())
noncomputable def kx(a:QX)(b:QZ):Option (QZ⊕QX⊕Empty):=letI c:=b.2.1;letI d:=ae bn a.1 c;cond (af .lss c (ai a.1)) (cond (ah a.1 c) ((qk d.1 d.2.1 d.2.2).bind fun e=>cond (ah b.1 c) (some (.inl (aC b.1 c (e.1,e.2.1,e.2.2.1),aa .add .i64 c 1,()))) none) none) (some (.inr (.inl (b.1,()))))
noncomputable def zT k x:=iter (kx k) big x
noncomputable def zS(a:Nj):Option QX:=cond (cL (ai a)) ((zT (a,()) (cX (ai a) ((0:Int),([]:LK),([]:M8)),0,())).bind fun b=>Sum.elim (fun c=>some (c.1,())) (fun c=>Empty.elim c) b) none
noncomputable def LS(a b:Int)(c d e:Bool):Option (Int×Int×Bool×Bool×PF):=some (a,b,c,d,e,())
noncomputable def Jf(a b:MA)(c:Nj)(d e:Int)(f g h:Bool)(i j:Int)(k:Kr):Option (MA×MA×Nj×Int×Int×Bool×Bool×Bool×Int×Int×Qz):=(KZ a b).bind fun l=>(zS c).bind fun m=>(LS d e f g h).bind fun n=>(qx k).bind fun o=>some (l.1,l.2.1,m.1,n.1,n.2.1,n.2.2.1,n.2.2.2.1,n.2.2.2.2.1,i,j,o.1,())
noncomputable def rp(a:Ro)(b:LJ×n3):Option (LJ×n3⊕Ro⊕Empty):=letI c:=b.2.1;letI d:=(ae aS a.1 c).2;letI e:=d.2.2.2.2.2;cond (af .lss c (ai a.1)) (cond (ah a.1 c) ((Jf (ae aS a.1 c).1 d.1 d.2.1 d.2.2.1 d.2.2.2.1 d.2.2.2.2.1 e.1 e.2.1 e.2.2.1 e.2.2.2.1 e.2.2.2.2).bind fun f=>letI g:=f.2.2.2.2.2;cond (ah b.1 c) (lets (aC b.1 c (f.1,f.2.1,f.2.2.1,f.2.2.2.1,f.2.2.2.2.1,g.1,g.2.1,g.2.2.1,g.2.2.2.1,g.2.2.2.2.1,g.2.2.2.2.2.1)) fun h=>some (.inl (h,aa .add .i64 c 1,()))) none) none) (some (.inr (.inl (b.1,()))))
noncomputable def Jz k x:=iter (rp k) big x
noncomputable def JP(a:LJ):Option Ro:=cond (cL (ai a)) ((Jz (a,()) (cX (ai a) (([]:MA),([]:MA),([]:Nj),(0:Int),(0:Int),false,false,false,(0:Int),(0:Int),([]:Kr)),0,())).bind fun b=>Sum.elim (fun c=>some (c.1,())) (fun c=>Empty.elim c) b) none
noncomputable def Nd(a b c d e:Int):Option (Int×Int×Int×M9):=some (a,b,c,d,e,())
noncomputable def K3(a b c d e f g h i j k l m:Int):Option (Int×Int×Int×Int×Int×Int×RX):=(Nd g h i j k).bind fun n=>some (a,b,c,d,e,f,n.1,n.2.1,n.2.2.1,n.2.2.2.1,n.2.2.2.2.1,l,m,())
noncomputable def kB(a:Ll×Unit)(b:Ll×n3):Option (Ll×n3⊕Ll×Unit⊕Empty):=letI c:=b.2.1;letI d:=ae bg a.1 c;letI e:=d.2.2;letI f:=e.2.2.2.2.2;cond (af .lss c (ai a.1)) (cond (ah a.1 c) ((K3 d.1 d.2.1 e.1 e.2.1 e.2.2.1 e.2.2.2.1 e.2.2.2.2.1 f.1 f.2.1 f.2.2.1 f.2.2.2.1 f.2.2.2.2.1 f.2.2.2.2.2).bind fun g=>letI h:=g.2.2.2;letI i:=h.2.2.2;letI j:=i.2.2.2;cond (ah b.1 c) (lets (aC b.1 c (g.1,g.2.1,g.2.2.1,h.1,h.2.1,h.2.2.1,i.1,i.2.1,i.2.2.1,j.1,j.2.1,j.2.2.1,j.2.2.2.1)) fun k=>some (.inl (k,aa .add .i64 c 1,()))) none) none) (some (.inr (.inl (b.1,()))))
noncomputable def kW k x:=iter (kB k) big x
noncomputable def Bd(a:Ll):Option (Ll×Unit):=letI b:=(0:Int);cond (cL (ai a)) ((kW (a,()) (cX (ai a) (b,b,b,b,b,b,b,b,b,b,b,b,b),b,())).bind fun c=>Sum.elim (fun d=>some (d.1,())) (fun d=>Empty.elim d) c) none
noncomputable def Lr(a b c d e f:Int)(g:Bool):Option (Int×Int×Int×RY):=some (a,b,c,d,e,f,g,())
noncomputable def mu(a:Rp)(b:Lm×n3):Option (Lm×n3⊕Rp⊕Empty):=letI c:=b.2.1;letI d:=ae rm a.1 c;letI e:=d.2.2.2;cond (af .lss c (ai a.1)) (cond (ah a.1 c) ((Lr d.1 d.2.1 d.2.2.1 e.1 e.2.1 e.2.2.1 e.2.2.2).bind fun f=>letI g:=f.2.2.2;cond (ah b.1 c) (some (.inl (aC b.1 c (f.1,f.2.1,f.2.2.1,g.1,g.2.1,g.2.2.1,g.2.2.2.1),aa .add .i64 c 1,()))) none) none) (some (.inr (.inl (b.1,()))))
noncomputable def mS k x:=iter (mu k) big x
noncomputable def I8(a:Lm):Option Rp:=cond (cL (ai a)) ((mS (a,()) (cX (ai a) ((0:Int),(0:Int),(0:Int),(0:Int),(0:Int),(0:Int),false),0,())).bind fun b=>Sum.elim (fun c=>some (c.1,())) (fun c=>Empty.elim c) b) none
noncomputable def At(a b c d e f g h i j k:Int)(l:LJ)(m:Ll)(n:Lm)(o:Kr):Option QV:=(Ls a b c d e f g h).bind fun p=>(JP l).bind fun q=>(Bd m).bind fun r=>(I8 n).bind fun s=>(qx o).bind fun t=>letI u:=p.2.2.2.2;some (p.1,p.2.1,p.2.2.1,p.2.2.2.1,u.1,u.2.1,u.2.2.1,u.2.2.2.1,i,j,k,q.1,r.1,s.1,t.1,())
noncomputable def hM(a:Int):nw:=(bt a 1 2147483646).bind fun b=>some (b.1,())
noncomputable def qW(a b c d e f g h i j k:Int)(l:LJ)(m:Ll)(n:Lm)(o:Kr)(p:Int):Nn:=(hM j).bind fun q=>letI r:=some ((0:Int),());cond (Bool.not q.1) r ((bt p 1 12).bind fun s=>cond (Bool.not s.1) r (cond (az 2147483646) none (some (aa .add .i64 (aa .rem .i64 (aa .add .i64 j (aa .mul .i64 7919 p)) 2147483646) 1,()))))
noncomputable def ik(a:Int):nw:=(br a 1 2147483646).bind fun b=>some (b.1,())
noncomputable def n5(a b c d e f g h i j k:Int)(l:LJ)(m:Ll)(n:Lm)(o:Kr)(p:Int):Nn:=(ik j).bind fun q=>letI r:=some ((0:Int),());cond (Bool.not q.1) r ((br p 1 12).bind fun s=>cond (Bool.not s.1) r (cond (az 2147483646) none (some (aa .add .i64 (aa .rem .i64 (aa .add .i64 j (aa .mul .i64 7919 p)) 2147483646) 1,()))))
noncomputable def Lp(a b c:Int)(d:Bool)(e f g:Int)(h:Bool):nw:=letI i:=some (false,());cond (af .neq a e) i (cond (af .neq b f) i (cond (af .neq c g) i (cond (Bool.not (bT d h)) i (some (true,())))))
noncomputable def Ke(a:M8×QW)(b:n3):NA:=letI c:=ae fe a.1 b.1;letI d:=ae fe a.2.1 b.1;cond (af .lss b.1 (ai a.1)) (cond (ah a.1 b.1) (cond (ah a.2.1 b.1) ((Lp c.1 c.2.1 c.2.2.1 c.2.2.2 d.1 d.2.1 d.2.2.1 d.2.2.2).bind fun e=>cond (Bool.not e.1) (some (.inr (.inl (false,())))) (some (.inl (aa .add .i64 b.1 1,())))) none) none) (some (.inr (.inr (.inl ()))))
noncomputable def Kf k x:=iter (Ke k) big x
noncomputable def KM(a b:M8):nw:=cond (af .neq (ai a) (ai b)) (some (false,())) ((Kf (a,b,()) (0,())).bind fun c=>Sum.elim (fun d=>some (d.1,())) (fun d=>Sum.elim (fun _=>some (true,())) (fun e=>Empty.elim e) d) c)
noncomputable def n6(a:Int)(b:LK)(c:M8)(d:Int)(e:LK)(f:M8):nw:=letI g:=some (false,());cond (af .neq a d) g ((KO b e).bind fun h=>cond (Bool.not h.1) g ((KM c f).bind fun i=>cond (Bool.not i.1) g (some (true,()))))
noncomputable def xb(a:Nj×QX)(b:n3):NA:=letI c:=ae bn a.1 b.1;letI d:=ae bn a.2.1 b.1;cond (af .lss b.1 (ai a.1)) (cond (ah a.1 b.1) (cond (ah a.2.1 b.1) ((n6 c.1 c.2.1 c.2.2 d.1 d.2.1 d.2.2).bind fun e=>cond (Bool.not e.1) (some (.inr (.inl (false,())))) (some (.inl (aa .add .i64 b.1 1,())))) none) none) (some (.inr (.inr (.inl ()))))
noncomputable def xh k x:=iter (xb k) big x
noncomputable def wk(a b:Nj):nw:=cond (af .neq (ai a) (ai b)) (some (false,())) ((xh (a,b,()) (0,())).bind fun c=>Sum.elim (fun d=>some (d.1,())) (fun d=>Sum.elim (fun _=>some (true,())) (fun e=>Empty.elim e) d) c)
noncomputable def KN(a b:Int)(c d e:Bool)(f g:Int)(h i j:Bool):nw:=letI k:=some (false,());cond (af .neq a f) k (cond (af .neq b g) k (cond (Bool.not (bT c h)) k (cond (Bool.not (bT d i)) k (cond (Bool.not (bT e j)) k (some (true,()))))))
noncomputable def KQ(a b:MA)(c:Nj)(d e:Int)(f g h:Bool)(i j:Int)(k:Kr)(l m:MA)(n:Nj)(o p:Int)(q r s:Bool)(t u:Int)(v:Kr):nw:=(KS a b l m).bind fun w=>letI x:=some (false,());cond (Bool.not w.1) x ((wk c n).bind fun y=>cond (Bool.not y.1) x ((KN d e f g h o p q r s).bind fun z=>cond (Bool.not z.1) x (cond (af .neq i t) x (cond (af .neq j u) x ((n7 k v).bind fun A=>cond (Bool.not A.1) x (some (true,())))))))
noncomputable def Ju(a:LJ×Ro)(b:n3):NA:=letI c:=ae aS a.1 b.1;letI d:=ae aS a.2.1 b.1;letI e:=d.2;letI f:=c.2.2;letI g:=f.2.2.2.2;letI h:=e.2.2.2.2.2;cond (af .lss b.1 (ai a.1)) (cond (ah a.1 b.1) (cond (ah a.2.1 b.1) ((KQ c.1 c.2.1 f.1 f.2.1 f.2.2.1 f.2.2.2.1 g.1 g.2.1 g.2.2.1 g.2.2.2.1 g.2.2.2.2 d.1 e.1 e.2.1 e.2.2.1 e.2.2.2.1 e.2.2.2.2.1 h.1 h.2.1 h.2.2.1 h.2.2.2.1 h.2.2.2.2).bind fun i=>cond (Bool.not i.1) (some (.inr (.inl (false,())))) (some (.inl (aa .add .i64 b.1 1,())))) none) none) (some (.inr (.inr (.inl ()))))
noncomputable def Jv k x:=iter (Ju k) big x
noncomputable def JN(a b:LJ):nw:=cond (af .neq (ai a) (ai b)) (some (false,())) ((Jv (a,b,()) (0,())).bind fun c=>Sum.elim (fun d=>some (d.1,())) (fun d=>Sum.elim (fun _=>some (true,())) (fun e=>Empty.elim e) d) c)
noncomputable def KP(a b c d e f g h i j:Int):nw:=letI k:=some (false,());cond (af .neq a f) k (cond (af .neq b g) k (cond (af .neq c h) k (cond (af .neq d i) k (cond (af .neq e j) k (some (true,()))))))
noncomputable def I6(a b c d e f g h i j k l m n o p q r s t u v w x y z:Int):nw:=letI A:=some (false,());cond (af .neq a n) A (cond (af .neq b o) A (cond (af .neq c p) A (cond (af .neq d q) A (cond (af .neq e r) A (cond (af .neq f s) A ((KP g h i j k t u v w x).bind fun B=>cond (Bool.not B.1) A (cond (af .neq l y) A (cond (af .neq m z) A (some (true,()))))))))))
noncomputable def xx(a:Ll×Ll×Unit)(b:n3):NA:=letI c:=ae bg a.1 b.1;letI d:=ae bg a.2.1 b.1;letI e:=d.2.2;letI f:=c.2.2.2;letI g:=e.2.2.2.2.2;letI h:=f.2.2.2.2.2;cond (af .lss b.1 (ai a.1)) (cond (ah a.1 b.1) (cond (ah a.2.1 b.1) ((I6 c.1 c.2.1 c.2.2.1 f.1 f.2.1 f.2.2.1 f.2.2.2.1 f.2.2.2.2.1 h.1 h.2.1 h.2.2.1 h.2.2.2.1 h.2.2.2.2 d.1 d.2.1 e.1 e.2.1 e.2.2.1 e.2.2.2.1 e.2.2.2.2.1 g.1 g.2.1 g.2.2.1 g.2.2.2.1 g.2.2.2.2.1 g.2.2.2.2.2).bind fun i=>cond (Bool.not i.1) (some (.inr (.inl (false,())))) (some (.inl (aa .add .i64 b.1 1,())))) none) none) (some (.inr (.inr (.inl ()))))
noncomputable def ye k x:=iter (xx k) big x
noncomputable def xn(a b:Ll):nw:=cond (af .neq (ai a) (ai b)) (some (false,())) ((ye (a,b,()) (0,())).bind fun c=>Sum.elim (fun d=>some (d.1,())) (fun d=>Sum.elim (fun _=>some (true,())) (fun e=>Empty.elim e) d) c)
noncomputable def JM(a b c d e f:Int)(g:Bool)(h i j k l m:Int)(n:Bool):nw:=letI o:=some (false,());cond (af .neq a h) o (cond (af .neq b i) o (cond (af .neq c j) o (cond (af .neq d k) o (cond (af .neq e l) o (cond (af .neq f m) o (cond (Bool.not (bT g n)) o (some (true,()))))))))
noncomputable def IM(a:Lm×Rp)(b:n3):NA:=letI c:=ae rm a.1 b.1;letI d:=ae rm a.2.1 b.1;letI e:=c.2.2.2;letI f:=d.2.2.2;cond (af .lss b.1 (ai a.1)) (cond (ah a.1 b.1) (cond (ah a.2.1 b.1) ((JM c.1 c.2.1 c.2.2.1 e.1 e.2.1 e.2.2.1 e.2.2.2 d.1 d.2.1 d.2.2.1 f.1 f.2.1 f.2.2.1 f.2.2.2).bind fun g=>cond (Bool.not g.1) (some (.inr (.inl (false,())))) (some (.inl (aa .add .i64 b.1 1,())))) none) none) (some (.inr (.inr (.inl ()))))
noncomputable def IP k x:=iter (IM k) big x
noncomputable def I5(a b:Lm):nw:=cond (af .neq (ai a) (ai b)) (some (false,())) ((IP (a,b,()) (0,())).bind fun c=>Sum.elim (fun d=>some (d.1,())) (fun d=>Sum.elim (fun _=>some (true,())) (fun e=>Empty.elim e) d) c)
noncomputable def xl(a b c d e f g h i j k:Int)(l:LJ)(m:Ll)(n:Lm)(o:Kr)(p q r s t u v w x y z:Int)(A:LJ)(B:Ll)(C:Lm)(D:Kr):nw:=(JO a b c d e f g h p q r s t u v w).bind fun E=>letI F:=some (false,());cond (Bool.not E.1) F (cond (af .neq i x) F (cond (af .neq j y) F (cond (af .neq k z) F ((JN l A).bind fun G=>cond (Bool.not G.1) F ((xn m B).bind fun H=>cond (Bool.not H.1) F ((I5 n C).bind fun I=>cond (Bool.not I.1) F ((n7 o D).bind fun J=>cond (Bool.not J.1) F (some (true,())))))))))
end Go.Fn
namespace Go.Fn
open Go.R
abbrev Ev:=Int×Int×Int×Int×Int×Int×Int
noncomputable def ko(a lo hi:Int):Bool:=bif decide (a>=lo)then decide (a<=hi)else false
theorem ey(a lo hi:Int):br a lo hi=some (ko a lo hi,()):=by unfold br ko;simp only[af];cases decide (a>=lo) <;> rfl
theorem Je(a lo hi:Int):bt a lo hi=some (ko a lo hi,()):=ey a lo hi
theorem NM(a:Int):ia a=some (ko a 0 20000,()):=by unfold ia;rw[ey];rfl
noncomputable def Nh(e:Ev):Bool:=bif ko e.1 0 5 then bif ko e.2.1 1 999 then bif ko e.2.2.1 1 100000 then bif ko e.2.2.2.1 1 4 then bif ko e.2.2.2.2.1 1 999 then bif ko e.2.2.2.2.2.1 0 20000 then ko e.2.2.2.2.2.2 0 20000 else false else false else false else false else false else false
theorem Lh{α:Type}(b:Bool)(x y:α):(bif b then some x else some y)=some (bif b then x else y):=by cases b <;> rfl
theorem Lg(b x y:Bool):(bif b then(x,())else(y,()))=((bif b then x else y),()):=by cases b <;> rfl
theorem Pm(a b c d e f g:Int):JQ a b c d e f g=some (Nh (a,b,c,d,e,f,g),()):=by unfold JQ Nh;simp only[Je,Option.bind_some,Lh,Lg]
theorem Pf(a b c d e f g:Int):JH a b c d e f g=some (Nh (a,b,c,d,e,f,g),()):=by unfold JH Nh;simp only[ey,NM,Option.bind_some,Lh,Lg]
noncomputable def O2(p e:Ev):Bool:=!(decide (e.1<p.1)||(decide (e.1=p.1)&&(decide (e.2.1<=p.2.1)||decide (e.2.2.1<=p.2.2.1))))
noncomputable def Li(l:List Ev):Nat->Bool
 |0=>Nh (l.getD 0 fq)
 |n+1=>Nh (l.getD (n+1) fq)&&O2 (l.getD n fq) (l.getD (n+1) fq)
noncomputable def O1(l:List Ev):Bool:=bif decide (60<l.length)then false else aB (Li l) 0 l.length
theorem Qv(l:List Ev):af .gtr (ai l) (60:Int)=decide (60<l.length):=by simp only[af,ai,gt_iff_lt,decide_eq_decide];omega
theorem Ox(l:List Ev):iL l=some (O1 l,()):=by
 unfold iL O1;rw[Qv];cases hl:decide (60<l.length)with
 |true=>rfl
 |false=>
  have hl:l.length<=60:=by have:=of_decide_eq_false hl;omega
  have gw:vm (l,l,(ai l),()) ((0:Int),())=some (bif aB (Li l) 0 l.length then(Sum.inr (Sum.inl ()):Bool×Unit⊕(Unit⊕Empty))else Sum.inl (false,())):=by
   refine bq (fun n=>((n:Int),())) l.length (by omega) (Li l) _ _ (fun n hn=>?_) ?_
   ·unfold ve;simp only[aj,ax,ak,Pf,hn,decide_true,cond_true,Option.bind_some];cases n with
    |zero=>simp only[Li];cases Nh (l.getD 0 fq) <;> rfl
    |succ n=>
     have hn':n<l.length:=by omega
     simp only[Li,au (n:=n+1) (by omega),iD (n:=n) (by omega),cK hn',ak,O2,af];have e0:((((n+1:Nat):Int))==0)=false:=by rw[beq_eq_false_iff_ne];omega
     rw[e0];simp only[cond_false,cond_true];generalize l.getD (n+1) fq=e;generalize l.getD n fq=p;show(bif !(Nh e)then _ else _)=_;cases Nh e with
     |false=>rfl
     |true=>
      simp only[Bool.not_true,cond_false,Bool.true_and];cases decide (e.1<p.1)with
      |true=>rfl
      |false=>
       simp only[cond_false,Bool.false_or];have eb:(e.1==p.1)=decide (e.1=p.1):=rfl;rw[eb];cases decide (e.1=p.1)with
       |false=>rfl
       |true=>
        simp only[cond_true,Bool.true_and];cases decide (e.2.1<=p.2.1)with
        |true=>rfl
        |false=>cases decide (e.2.2.1<=p.2.2.1) <;> rfl
   ·unfold ve;simp only[aj,Nat.lt_irrefl,decide_false,cond_false]
  rw[gw];cases aB (Li l) 0 l.length <;> rfl
theorem R0(n:Nat):af .gtr ((n+1:Nat):Int) 0=true:=by simp only[af,gt_iff_lt,decide_eq_true_eq];omega
theorem OE(l:List Ev):jj l=some (O1 l,()):=by
 unfold jj O1;rw[Qv];cases hl:decide (60<l.length)with
 |true=>rfl
 |false=>
  have hl:l.length<=60:=by have:=of_decide_eq_false hl;omega
  have gw:D3 (l,()) ((0:Int),())=some (bif aB (Li l) 0 l.length then(Sum.inr (Sum.inl ()):Bool×Unit⊕(Unit⊕Empty))else Sum.inl (false,())):=by
   refine bq (fun n=>((n:Int),())) l.length (by omega) (Li l) _ _ (fun n hn=>?_) ?_
   ·unfold DM;simp only[aj,ax,ak,Pm,hn,decide_true,cond_true,Option.bind_some];cases n with
    |zero=>simp only[Li];cases Nh (l.getD 0 fq) <;> rfl
    |succ n=>
     have hn':n<l.length:=by omega
     simp only[Li,R0,au (n:=n+1) (by omega),iD (n:=n) (by omega),cK hn',ak,O2,cond_true];simp only[af];generalize l.getD (n+1) fq=e;generalize l.getD n fq=p;show(bif !(Nh e)then _ else _)=_;cases Nh e with
     |false=>rfl
     |true=>
      simp only[Bool.not_true,cond_false,Bool.true_and];cases decide (e.1<p.1)with
      |true=>rfl
      |false=>
       simp only[cond_false,Bool.false_or];have eb:(e.1==p.1)=decide (e.1=p.1):=rfl;rw[eb];cases decide (e.1=p.1)with
       |false=>rfl
       |true=>
        simp only[cond_true,Bool.true_and];cases decide (e.2.1<=p.2.1)with
        |true=>rfl
        |false=>cases decide (e.2.2.1<=p.2.2.1) <;> rfl
   ·unfold DM;simp only[aj,Nat.lt_irrefl,decide_false,cond_false]
  rw[gw];cases aB (Li l) 0 l.length <;> rfl
theorem Qj(a b c d e f g:Int):Lq a b c d e f g=some (a,b,c,d,e,f,g,()):=rfl
theorem OM(l:List Ev)(hl:l.length<=1073741824):qx l=some (l,()):=by
 unfold qx;rw[cE hl];have gw:mo (l,()) (List.replicate l.length (0,0,0,0,0,0,0),(0:Int),())=some (Sum.inl (l,())):=by
  have:=aU (body:=mm (l,())) (fun n=>(l.take n++List.replicate (l.length-n) (0,0,0,0,0,0,0),(n:Int),())) l.length (by omega) (Sum.inl (l,())) (fun n hn=>?_) ?_
  ·unfold mo;simpa using this
  ·unfold mm;have hx:n<(l.take n++List.replicate (l.length-n) ((0,0,0,0,0,0,0):Ev)).length:=by rw[dI _ _ (Nat.le_of_lt hn)];exact hn
   simp only[aj,ax,hn,hx,decide_true,cond_true,ak,Qj,Option.bind_some,au (n:=n) (by omega),aQ];rw[<-dX l (0,0,0,0,0,0,0) hn,e9 hn fq (0,0,0,0,0,0,0)]
  ·unfold mm;simp only[aj,Nat.lt_irrefl,decide_false,cond_false,Nat.sub_self,List.replicate_zero,List.append_nil,List.take_length]
 have hr:cX (ai l) ((0:Int),(0:Int),(0:Int),(0:Int),(0:Int),(0:Int),(0:Int))=List.replicate l.length (0,0,0,0,0,0,0):=dU _ _;rw[hr];simp only[cond_true];rw[gw];rfl
theorem e8(a:Int):af .neq a a=false:=by simp[af]
theorem Pc(a b c d e f g:Int):JL a b c d e f g a b c d e f g=some (true,()):=by unfold JL;simp only[e8,cond_false]
theorem Nr(l:List Ev)(hl:l.length<=1073741824):n7 l l=some (true,()):=by
 unfold n7;rw[e8];have gw:IL (l,l,()) ((0:Int),())=some (Sum.inr (Sum.inl ())):=by
  refine aU (fun n=>((n:Int),())) l.length (by omega) _ (fun n hn=>?_) ?_
  ·unfold IK;simp only[aj,ax,hn,decide_true,cond_true,Pc,Option.bind_some,au (n:=n) (by omega)];rfl
  ·unfold IK;simp only[aj,Nat.lt_irrefl,decide_false,cond_false]
 simp only[cond_false];rw[gw];rfl
theorem OI(l:List Ev)(a:Int)(hl:l.length<=9223372036854775807)(ha:0<=a)(NS:a<=1048576):qe l a=some (bif decide (a<(l.length:Int))then -1 else a-(l.length:Int),()):=by
 unfold qe;have h1:aa .sub .i64 a (ai l)=a-(l.length:Int):=bM (by unfold ai;omega) (by unfold ai;omega);rw[h1];have h2:af .lss (a-(l.length:Int)) 0=decide (a<(l.length:Int)):=by simp only[af,decide_eq_decide];omega
 rw[h2];cases decide (a<(l.length:Int)) <;> rfl
end Go.Fn
set_option linter.unusedSimpArgs false
namespace Go.Fn
open Go.R
theorem Pt(l:List Int)(hl:l.length<=1073741824):KY l=some (l,()):=by
 unfold KY;rw[cE hl];have gw:z1 (l,()) (List.replicate l.length 0,(0:Int),())=some (Sum.inl (l,())):=by
  have:=aU (body:=zW (l,())) (fun n=>(l.take n++List.replicate (l.length-n) 0,(n:Int),())) l.length (by omega) (Sum.inl (l,())) (fun n hn=>?_) ?_
  ·unfold z1;simpa using this
  ·unfold zW;have hx:n<(l.take n++List.replicate (l.length-n) (0:Int)).length:=by rw[dI _ _ (Nat.le_of_lt hn)];exact hn
   simp only[aj,ax,hn,hx,decide_true,cond_true,ak,au (n:=n) (by omega),aQ];rw[<-dX l 0 hn,e9 hn zI 0]
  ·unfold zW;simp only[aj,Nat.lt_irrefl,decide_false,cond_false,Nat.sub_self,List.replicate_zero,List.append_nil,List.take_length]
 have hr:cX (ai l) (0:Int)=List.replicate l.length 0:=dU _ _;rw[hr];simp only[cond_true];rw[gw];rfl
theorem On(l:List Int)(hl:l.length<=1073741824):KO l l=some (true,()):=by
 unfold KO;rw[e8];have gw:Kh (l,l,()) ((0:Int),())=some (Sum.inr (Sum.inl ())):=by
  refine aU (fun n=>((n:Int),())) l.length (by omega) _ (fun n hn=>?_) ?_
  ·unfold Kg;simp only[aj,ax,hn,decide_true,cond_true,e8,au (n:=n) (by omega)];rfl
  ·unfold Kg;simp only[aj,Nat.lt_irrefl,decide_false,cond_false]
 simp only[cond_false];rw[gw];rfl
theorem P8{l:List Ev}(h:O1 l=true):l.length<=60:=by
 unfold O1 at h;cases hd:decide (60<l.length)with
 |true=>rw[hd]at h;cases h
 |false=>have:=of_decide_eq_false hd;omega
theorem QL{l:List Ev}(h:O1 l=true){n:Nat}(hn:n<l.length):Li l n=true:=by have Uw:=P8 h;unfold O1 at h;rw[decide_eq_false (by omega)]at h;exact(aO _ _).1 h n (Nat.zero_le _) (by omega)
theorem gg{a lo hi:Int}:ko a lo hi=true↔lo<=a/\a<=hi:=by
 unfold ko;by_cases h:lo<=a
 ·rw[decide_eq_true (show a>=lo from h)];simp[h]
 ·rw[decide_eq_false (show ¬a>=lo from h)];simp[h]
theorem L4{α:Type}{l:List α}{i:Int}(h0:0<=i)(h1:i<(l.length:Int)):ah l i=true:=by unfold ah;rw[Bool.and_eq_true];exact⟨decide_eq_true h0,decide_eq_true h1⟩
theorem k6{a:Int}(h:0<=a):af .lss a 0=false:=by simp only[af,decide_eq_false_iff_not];omega
end Go.Fn
set_option linter.unusedSimpArgs false
namespace Go.Fn
open Go.R
theorem Pv(a0 a1:Int):LU a0 a1=some (a0,a1,()):=rfl
theorem Ny(l:List (Int×Int))(hl:l.length<=1073741824):BE l=some (l,()):=by
 unfold BE;rw[cE hl];have gw:r5 (l,()) (List.replicate l.length (0,0),(0:Int),())=some (Sum.inl (l,())):=by
  have:=aU (body:=r4 (l,())) (fun n=>(l.take n++List.replicate (l.length-n) (0,0),(n:Int),())) l.length (by omega) (Sum.inl (l,())) (fun n hn=>?_) ?_
  ·unfold r5;simpa using this
  ·unfold r4;have hx:n<(l.take n++List.replicate (l.length-n) ((0,0):Int×Int)).length:=by rw[dI _ _ (Nat.le_of_lt hn)];exact hn
   simp only[aj,ax,hn,hx,decide_true,cond_true,ak,Pv,Option.bind_some,au (n:=n) (by omega),aQ];rw[<-dX l (0,0) hn,e9 hn L2 (0,0)]
  ·unfold r4;simp only[aj,Nat.lt_irrefl,decide_false,cond_false,Nat.sub_self,List.replicate_zero,List.append_nil,List.take_length]
 have hr:cX (ai l) (((0:Int),(0:Int)))=List.replicate l.length (0,0):=dU _ _;rw[hr];simp only[cond_true];rw[gw];rfl
theorem Ot(a0 a1:Int):KR a0 a1 a0 a1=some (true,()):=by unfold KR;simp only[e8,cond_false]
theorem MD(l:List (Int×Int))(hl:l.length<=1073741824):yt l l=some (true,()):=by
 unfold yt;rw[e8];have gw:Jx (l,l,()) ((0:Int),())=some (Sum.inr (Sum.inl ())):=by
  refine aU (fun n=>((n:Int),())) l.length (by omega) _ (fun n hn=>?_) ?_
  ·unfold Jw;simp only[aj,ax,hn,decide_true,cond_true,Ot,Option.bind_some,au (n:=n) (by omega)];rfl
  ·unfold Jw;simp only[aj,Nat.lt_irrefl,decide_false,cond_false]
 simp only[cond_false];rw[gw];rfl
theorem Nx(l:List (Int×Int))(a:Int)(hl:l.length<=9223372036854775807)(ha:0<=a)(NS:a<=1048576):ze l a=some (bif decide (a<(l.length:Int))then -1 else a-(l.length:Int),()):=by
 unfold ze;have h1:aa .sub .i64 a (ai l)=a-(l.length:Int):=bM (by unfold ai;omega) (by unfold ai;omega);rw[h1];have h2:af .lss (a-(l.length:Int)) 0=decide (a<(l.length:Int)):=by simp only[af,decide_eq_decide];omega
 rw[h2];cases decide (a<(l.length:Int)) <;> rfl
abbrev Od:=Int×Int
noncomputable def Lv(l:List Od)(most:Int)(n:Nat):Bool:=
 bif af .lss (l.getD n L2).1 0 then false else bif af .geq (l.getD n L2).1 (l.getD n L2).2 then false else bif af .gtr (l.getD n L2).2 most then false else
  match n with
  |0=>true
  |m+1=>bif af .leq (l.getD (m+1) L2).1 (l.getD m L2).2 then false else true
noncomputable def L5(l:List Od)(most:Int):Bool:=bif decide (20<l.length)then false else aB (Lv l most) 0 l.length
theorem Qu{α:Type}(l:List α):af .gtr (ai l) (20:Int)=decide (20<l.length):=by simp only[af,ai,gt_iff_lt,decide_eq_decide];omega
theorem Rs:af .gtr ((0:Nat):Int) 0=false:=rfl
theorem N2(l:List Od)(most:Int):IB l most=some (L5 l most,()):=by
 unfold IB L5;rw[Qu];cases hl:decide (20<l.length)with
 |true=>rfl
 |false=>
  have hl:l.length<=20:=by have:=of_decide_eq_false hl;omega
  have gw:JB (l,most,()) ((0:Int),())=some (bif aB (Lv l most) 0 l.length then(Sum.inr (Sum.inl ()):Bool×Unit⊕(Unit⊕Empty))else Sum.inl (false,())):=by
   refine bq (fun n=>((n:Int),())) l.length (by omega) (Lv l most) _ _ (fun n hn=>?_) ?_
   ·unfold JA Lv;simp only[aj,ax,ak,hn,decide_true,cond_true];cases n with
    |zero=>simp only[Rs,cond_false];cases af .lss (l.getD 0 L2).1 0 <;> cases af .geq (l.getD 0 L2).1 (l.getD 0 L2).2 <;> cases af .gtr (l.getD 0 L2).2 most <;> rfl
    |succ n=>
     have hn':n<l.length:=by omega
     simp only[R0,au (n:=n+1) (by omega),iD (n:=n) (by omega),cK hn',ak,cond_true];cases af .lss (l.getD (n+1) L2).1 0 <;> cases af .geq (l.getD (n+1) L2).1 (l.getD (n+1) L2).2 <;> cases af .gtr (l.getD (n+1) L2).2 most <;> cases af .leq (l.getD (n+1) L2).1 (l.getD n L2).2 <;> rfl
   ·unfold JA;simp only[aj,Nat.lt_irrefl,decide_false,cond_false]
  rw[gw];cases aB (Lv l most) 0 l.length <;> rfl
theorem NW(l:List Od)(most:Int):vw l most=some (L5 l most,()):=by
 unfold vw L5;rw[Qu];cases hl:decide (20<l.length)with
 |true=>rfl
 |false=>
  have hl:l.length<=20:=by have:=of_decide_eq_false hl;omega
  have gw:Jm (l,most,l,ai l,()) ((0:Int),())=some (bif aB (Lv l most) 0 l.length then(Sum.inr (Sum.inl ()):Bool×Unit⊕(Unit⊕Empty))else Sum.inl (false,())):=by
   refine bq (fun n=>((n:Int),())) l.length (by omega) (Lv l most) _ _ (fun n hn=>?_) ?_
   ·unfold Jl Lv;simp only[aj,ax,ak,hn,decide_true,cond_true];cases n with
    |zero=>simp only[Rs,cond_false];cases af .lss (l.getD 0 L2).1 0 <;> cases af .geq (l.getD 0 L2).1 (l.getD 0 L2).2 <;> cases af .gtr (l.getD 0 L2).2 most <;> rfl
    |succ n=>
     have hn':n<l.length:=by omega
     simp only[R0,au (n:=n+1) (by omega),iD (n:=n) (by omega),cK hn',ak,cond_true];cases af .lss (l.getD (n+1) L2).1 0 <;> cases af .geq (l.getD (n+1) L2).1 (l.getD (n+1) L2).2 <;> cases af .gtr (l.getD (n+1) L2).2 most <;> cases af .leq (l.getD (n+1) L2).1 (l.getD n L2).2 <;> rfl
   ·unfold Jl;simp only[aj,Nat.lt_irrefl,decide_false,cond_false]
  rw[gw];cases aB (Lv l most) 0 l.length <;> rfl
noncomputable def Oa(o c:List Od):Bool:=bif L5 o 168 then L5 c 20000 else false
theorem OG(o c:List Od):Jh o c=some (Oa o c,()):=by unfold Jh Oa;simp only[N2,Option.bind_some,Lh,Lg]
theorem Oy(o c:List Od):Jd o c=some (Oa o c,()):=by unfold Jd Oa;simp only[NW,Option.bind_some,Lh,Lg]
noncomputable def MS(a0 a1 a2 a3 a4 a5 a6 a7:Int):Bool:=bif ko a0 1 2000 then bif ko a2 1 2000 then bif ko a5 1 2000 then bif ko a1 0 2000 then bif ko a3 0 10000 then bif ko a4 0 1000000 then bif ko a6 0 100000 then ko a7 0 20 else false else false else false else false else false else false else false
theorem N3(a0 a1 a2 a3 a4 a5 a6 a7:Int):JR a0 a1 a2 a3 a4 a5 a6 a7=some (MS a0 a1 a2 a3 a4 a5 a6 a7,()):=by unfold JR MS;simp only[Je,Option.bind_some,Lh,Lg]
theorem NX(a0 a1 a2 a3 a4 a5 a6 a7:Int):JI a0 a1 a2 a3 a4 a5 a6 a7=some (MS a0 a1 a2 a3 a4 a5 a6 a7,()):=by unfold JI MS;simp only[ey,Option.bind_some,Lh,Lg]
theorem P6(a b:Int):af .gtr a b=Bool.not (af .leq a b):=by
 simp only[af,gt_iff_lt];by_cases h:a<=b
 ·rw[decide_eq_true h,decide_eq_false (by omega)];rfl
 ·rw[decide_eq_false h,decide_eq_true (by omega)];rfl
abbrev VM:=Int×Int×Int×Int
theorem Pw(o c:List Od)(ho:o.length<=1073741824)(hc:c.length<=1073741824):KZ o c=some (o,c,()):=by unfold KZ;rw[Ny o ho];simp only[Option.bind_some];rw[Ny c hc];rfl
theorem Ou(o c:List Od)(ho:o.length<=1073741824)(hc:c.length<=1073741824):KS o c o c=some (true,()):=by unfold KS;rw[MD o ho];simp only[Option.bind_some,Bool.not_true,cond_false];rw[MD c hc];rfl
theorem OZ(a0 a1 a2 a3 a4 a5 a6 a7:Int):Ls a0 a1 a2 a3 a4 a5 a6 a7=some (a0,a1,a2,a3,a4,a5,a6,a7,()):=rfl
theorem M5(b:Bool):bT b b=true:=by unfold bT;simp
theorem RG:af .lss (-1:Int) 0=true:=rfl
theorem Pq(o c:List Od)(a:Int)(ho:o.length<=9223372036854775807)(hc:c.length<=9223372036854775807)(ha:0<=a)(NS:a<=1048576):
  KW o c a=some (bif decide (a<(o.length:Int)+(c.length:Int))then -1 else a-(o.length:Int)-(c.length:Int),()):=by
 unfold KW;rw[Nx o a ho ha NS];simp only[Option.bind_some];cases h1:decide (a<(o.length:Int))with
 |true=>have h1:=of_decide_eq_true h1;rw[decide_eq_true (show a<(o.length:Int)+(c.length:Int)by omega)];simp only[cond_true,RG]
 |false=>
  have h1:=of_decide_eq_false h1;simp only[cond_false];rw[k6 (by omega)];simp only[cond_false];rw[Nx c _ hc (by omega) (by omega)];simp only[Option.bind_some];have h3:decide (a-(o.length:Int)<(c.length:Int))=decide (a<(o.length:Int)+(c.length:Int)):=by rw[decide_eq_decide];omega
  rw[h3];cases h2:decide (a<(o.length:Int)+(c.length:Int))with
  |true=>simp only[cond_true,RG]
  |false=>have h2:=of_decide_eq_false h2;simp only[cond_false];rw[k6 (by omega)];rfl
end Go.Fn
set_option linter.unusedSimpArgs false
namespace Go.Fn
open Go.R
abbrev Su:=Int×Int×Int×Int×Int
theorem Po(l:List Int)(a:Int)(hl:l.length<=9223372036854775807)(ha:0<=a)(NS:a<=1048576):KU l a=some (bif decide (a<(l.length:Int))then -1 else a-(l.length:Int),()):=by
 unfold KU;have h1:aa .sub .i64 a (ai l)=a-(l.length:Int):=bM (by unfold ai;omega) (by unfold ai;omega);rw[h1];have h2:af .lss (a-(l.length:Int)) 0=decide (a<(l.length:Int)):=by simp only[af,decide_eq_decide];omega
 rw[h2];cases decide (a<(l.length:Int)) <;> rfl
end Go.Fn
set_option linter.unusedSimpArgs false
namespace Go.Fn
open Go.R
noncomputable def VE(g:List (List Int))(i j:Nat):Int:=(g.getD i RL).getD j zI
end Go.Fn
set_option linter.unusedSimpArgs false
namespace Go.Fn
open Go.R
abbrev UJ:=Int×List Int×Int×Int×Int×Int
noncomputable def arr(g:List (List Int))(st:UJ)(i:Int):Int:=aa .add .i64 st.2.2.1 (ae zI (ae RL g st.2.2.2.2.2) (aa .add .i64 i 1))
theorem Qb(a b:Int):af .leq a b=Bool.not (af .gtr a b):=by rw[P6,Bool.not_not]
end Go.Fn
set_option linter.unusedSimpArgs false
namespace Go.Fn
open Go.R
theorem NR(a0 a1 a2 a3 a4 a5 a6 a7:Int):JO a0 a1 a2 a3 a4 a5 a6 a7 a0 a1 a2 a3 a4 a5 a6 a7=some (true,()):=by unfold JO;simp only[e8,cond_false]
abbrev VN:=Int×Int×Int×Int×Int×Int×Int×Int
end Go.Fn
set_option linter.unusedSimpArgs false
namespace Go.Fn
open Go.R
theorem OO(a0 a1 a2 a3 a4 a5 a6 a7 a8 a9 a10 a11 a12:Int):K3 a0 a1 a2 a3 a4 a5 a6 a7 a8 a9 a10 a11 a12=some (a0,a1,a2,a3,a4,a5,a6,a7,a8,a9,a10,a11,a12,()):=rfl
theorem Oo(a0 a1 a2 a3 a4:Int):KP a0 a1 a2 a3 a4 a0 a1 a2 a3 a4=some (true,()):=by unfold KP;simp only[e8,cond_false]
theorem NE(a0 a1 a2 a3 a4 a5 a6 a7 a8 a9 a10 a11 a12:Int):I6 a0 a1 a2 a3 a4 a5 a6 a7 a8 a9 a10 a11 a12 a0 a1 a2 a3 a4 a5 a6 a7 a8 a9 a10 a11 a12=some (true,()):=by unfold I6;simp only[e8,cond_false,Oo,Option.bind_some,Bool.not_true]
theorem PX(a0:Int)(a1:Int)(a2:Int)(a3:Bool):Mm a0 a1 a2 a3=some (a0,a1,a2,a3,()):=rfl
theorem Pr(l:List (Int×Int×Int×Bool))(hl:l.length<=1073741824):KX l=some (l,()):=by
 unfold KX;rw[cE hl];have gw:zg (l,()) (List.replicate l.length (0,0,0,false),(0:Int),())=some (Sum.inl (l,())):=by
  have:=aU (body:=zf (l,())) (fun n=>(l.take n++List.replicate (l.length-n) (0,0,0,false),(n:Int),())) l.length (by omega) (Sum.inl (l,())) (fun n hn=>?_) ?_
  ·unfold zg;simpa using this
  ·unfold zf;have hx:n<(l.take n++List.replicate (l.length-n) ((0,0,0,false):Int×Int×Int×Bool)).length:=by rw[dI _ _ (Nat.le_of_lt hn)];exact hn
   simp only[aj,ax,hn,hx,decide_true,cond_true,ak,PX,Option.bind_some,aR,au (n:=n) (by omega),aQ];rw[<-dX l (0,0,0,false) hn,e9 hn fe (0,0,0,false)]
  ·unfold zf;simp only[aj,Nat.lt_irrefl,decide_false,cond_false,Nat.sub_self,List.replicate_zero,List.append_nil,List.take_length]
 have hr:cX (ai l) (((0:Int),(0:Int),(0:Int),false))=List.replicate l.length (0,0,0,false):=dU _ _;rw[hr];simp only[cond_true];rw[gw];rfl
theorem OR(a0:Int)(a1:Int)(a2:Int)(a3:Bool):Lp a0 a1 a2 a3 a0 a1 a2 a3=some (true,()):=by unfold Lp;simp only[e8,M5,Bool.not_true,cond_false]
theorem Ol(l:List (Int×Int×Int×Bool))(hl:l.length<=1073741824):KM l l=some (true,()):=by
 unfold KM;rw[e8];have gw:Kf (l,l,()) ((0:Int),())=some (Sum.inr (Sum.inl ())):=by
  refine aU (fun n=>((n:Int),())) l.length (by omega) _ (fun n hn=>?_) ?_
  ·unfold Ke;simp only[aj,ax,hn,decide_true,cond_true,OR,Option.bind_some,au (n:=n) (by omega)];rfl
  ·unfold Ke;simp only[aj,Nat.lt_irrefl,decide_false,cond_false]
 simp only[cond_false];rw[gw];rfl
theorem Pn(l:List (Int×Int×Int×Bool))(a:Int)(hl:l.length<=9223372036854775807)(ha:0<=a)(NS:a<=1048576):KT l a=some (bif decide (a<(l.length:Int))then -1 else a-(l.length:Int),()):=by
 unfold KT;have h1:aa .sub .i64 a (ai l)=a-(l.length:Int):=bM (by unfold ai;omega) (by unfold ai;omega);rw[h1];have h2:af .lss (a-(l.length:Int)) 0=decide (a<(l.length:Int)):=by simp only[af,decide_eq_decide];omega
 rw[h2];cases decide (a<(l.length:Int)) <;> rfl
theorem N9(l:List (Int×Int×Int×Int×Int×Int×Int×Int×Int×Int×Int×Int×Int))(hl:l.length<=1073741824):Bd l=some (l,()):=by
 unfold Bd;rw[cE hl];have gw:kW (l,()) (List.replicate l.length (0,0,0,0,0,0,0,0,0,0,0,0,0),(0:Int),())=some (Sum.inl (l,())):=by
  have:=aU (body:=kB (l,())) (fun n=>(l.take n++List.replicate (l.length-n) (0,0,0,0,0,0,0,0,0,0,0,0,0),(n:Int),())) l.length (by omega) (Sum.inl (l,())) (fun n hn=>?_) ?_
  ·unfold kW;simpa using this
  ·unfold kB;have hx:n<(l.take n++List.replicate (l.length-n) ((0,0,0,0,0,0,0,0,0,0,0,0,0):Int×Int×Int×Int×Int×Int×Int×Int×Int×Int×Int×Int×Int)).length:=by rw[dI _ _ (Nat.le_of_lt hn)];exact hn
   simp only[aj,ax,hn,hx,decide_true,cond_true,ak,OO,Option.bind_some,aR,au (n:=n) (by omega),aQ];rw[<-dX l (0,0,0,0,0,0,0,0,0,0,0,0,0) hn,e9 hn bg (0,0,0,0,0,0,0,0,0,0,0,0,0)]
  ·unfold kB;simp only[aj,Nat.lt_irrefl,decide_false,cond_false,Nat.sub_self,List.replicate_zero,List.append_nil,List.take_length]
 have hr:cX (ai l) (((0:Int),(0:Int),(0:Int),(0:Int),(0:Int),(0:Int),(0:Int),(0:Int),(0:Int),(0:Int),(0:Int),(0:Int),(0:Int)))=List.replicate l.length (0,0,0,0,0,0,0,0,0,0,0,0,0):=dU _ _;rw[hr];simp only[cond_true];rw[gw];rfl
theorem Nt(l:List (Int×Int×Int×Int×Int×Int×Int×Int×Int×Int×Int×Int×Int))(hl:l.length<=1073741824):xn l l=some (true,()):=by
 unfold xn;rw[e8];have gw:ye (l,l,()) ((0:Int),())=some (Sum.inr (Sum.inl ())):=by
  refine aU (fun n=>((n:Int),())) l.length (by omega) _ (fun n hn=>?_) ?_
  ·unfold xx;simp only[aj,ax,hn,decide_true,cond_true,NE,Option.bind_some,au (n:=n) (by omega)];rfl
  ·unfold xx;simp only[aj,Nat.lt_irrefl,decide_false,cond_false]
 simp only[cond_false];rw[gw];rfl
theorem N6(l:List (Int×Int×Int×Int×Int×Int×Int×Int×Int×Int×Int×Int×Int))(a:Int)(hl:l.length<=9223372036854775807)(ha:0<=a)(NS:a<=1048576):zc l a=some (bif decide (a<(l.length:Int))then -1 else a-(l.length:Int),()):=by
 unfold zc;have h1:aa .sub .i64 a (ai l)=a-(l.length:Int):=bM (by unfold ai;omega) (by unfold ai;omega);rw[h1];have h2:af .lss (a-(l.length:Int)) 0=decide (a<(l.length:Int)):=by simp only[af,decide_eq_decide];omega
 rw[h2];cases decide (a<(l.length:Int)) <;> rfl
theorem OX(a0:Int)(a1:Int)(a2:Int)(a3:Int)(a4:Int)(a5:Int)(a6:Bool):Lr a0 a1 a2 a3 a4 a5 a6=some (a0,a1,a2,a3,a4,a5,a6,()):=rfl
theorem ON(l:List (Int×Int×Int×Int×Int×Int×Bool))(hl:l.length<=1073741824):I8 l=some (l,()):=by
 unfold I8;rw[cE hl];have gw:mS (l,()) (List.replicate l.length (0,0,0,0,0,0,false),(0:Int),())=some (Sum.inl (l,())):=by
  have:=aU (body:=mu (l,())) (fun n=>(l.take n++List.replicate (l.length-n) (0,0,0,0,0,0,false),(n:Int),())) l.length (by omega) (Sum.inl (l,())) (fun n hn=>?_) ?_
  ·unfold mS;simpa using this
  ·unfold mu;have hx:n<(l.take n++List.replicate (l.length-n) ((0,0,0,0,0,0,false):Int×Int×Int×Int×Int×Int×Bool)).length:=by rw[dI _ _ (Nat.le_of_lt hn)];exact hn
   simp only[aj,ax,hn,hx,decide_true,cond_true,ak,OX,Option.bind_some,aR,au (n:=n) (by omega),aQ];rw[<-dX l (0,0,0,0,0,0,false) hn,e9 hn rm (0,0,0,0,0,0,false)]
  ·unfold mu;simp only[aj,Nat.lt_irrefl,decide_false,cond_false,Nat.sub_self,List.replicate_zero,List.append_nil,List.take_length]
 have hr:cX (ai l) (((0:Int),(0:Int),(0:Int),(0:Int),(0:Int),(0:Int),false))=List.replicate l.length (0,0,0,0,0,0,false):=dU _ _;rw[hr];simp only[cond_true];rw[gw];rfl
theorem NP(a0:Int)(a1:Int)(a2:Int)(a3:Int)(a4:Int)(a5:Int)(a6:Bool):JM a0 a1 a2 a3 a4 a5 a6 a0 a1 a2 a3 a4 a5 a6=some (true,()):=by unfold JM;simp only[e8,M5,Bool.not_true,cond_false]
theorem ND(l:List (Int×Int×Int×Int×Int×Int×Bool))(hl:l.length<=1073741824):I5 l l=some (true,()):=by
 unfold I5;rw[e8];have gw:IP (l,l,()) ((0:Int),())=some (Sum.inr (Sum.inl ())):=by
  refine aU (fun n=>((n:Int),())) l.length (by omega) _ (fun n hn=>?_) ?_
  ·unfold IM;simp only[aj,ax,hn,decide_true,cond_true,NP,Option.bind_some,au (n:=n) (by omega)];rfl
  ·unfold IM;simp only[aj,Nat.lt_irrefl,decide_false,cond_false]
 simp only[cond_false];rw[gw];rfl
theorem OJ(l:List (Int×Int×Int×Int×Int×Int×Bool))(a:Int)(hl:l.length<=9223372036854775807)(ha:0<=a)(NS:a<=1048576):I7 l a=some (bif decide (a<(l.length:Int))then -1 else a-(l.length:Int),()):=by
 unfold I7;have h1:aa .sub .i64 a (ai l)=a-(l.length:Int):=bM (by unfold ai;omega) (by unfold ai;omega);rw[h1];have h2:af .lss (a-(l.length:Int)) 0=decide (a<(l.length:Int)):=by simp only[af,decide_eq_decide];omega
 rw[h2];cases decide (a<(l.length:Int)) <;> rfl
theorem Oj {α:Type} {body:List α×Int×Unit->Option ((List α×Int×Unit)⊕(List α×Unit⊕Empty))} (l:List α) (zr z:α) (hl:l.length<=1073741824)
  (h:∀(n:Nat) (acc:List α),n<l.length->acc.length=l.length->body (acc,(n:Int),())=some (.inl (acc.set n (l.getD n z),((n+1:Nat):Int),())))
  (hend:∀acc:List α,acc.length=l.length->body (acc,(l.length:Int),())=some (.inr (.inl (acc,())))):iter body big (List.replicate l.length zr,0,())=some (Sum.inl (l,())):=by
 have:=aU (body:=body) (fun n=>(l.take n++List.replicate (l.length-n) zr,(n:Int),())) l.length (by omega) (Sum.inl (l,())) (fun n hn=>?_) ?_
 ·simpa using this
 ·show body (l.take n++List.replicate (l.length-n) zr,(n:Int),())=_;rw[h n _ hn (dI _ _ (Nat.le_of_lt hn)),e9 hn z zr,dX l zr hn]
 ·show body (l.take l.length++List.replicate (l.length-l.length) zr,(l.length:Int),())=_;rw[hend _ (dI _ _ (Nat.le_refl _))];simp
theorem OD {α:Type} {body:Int×Int×Unit->Option ((Int×Int×Unit)⊕(Int×Unit⊕(Int×Unit⊕Empty)))} (l:List α) (hl:l.length<=1073741824) (small:Nat->Prop)
  (h:∀(n:Nat) (a:Int),n<l.length->0<=a->a<=1048576->body (a,(n:Int),())=some (.inr (.inl (-1,())))\/∃b,body (a,(n:Int),())=some (.inl (b,((n+1:Nat):Int),()))/\0<=b/\b<=a/\small n)
  (hend:∀a,body (a,(l.length:Int),())=some (.inr (.inr (.inl (a,()))))) (a:Int) (ha:0<=a) (NS:a<=1048576):
  ∃y,iter body big (a,0,())=some y/\(y=.inl (-1,())\/∃b,y=.inr (.inl (b,()))/\0<=b/\b<=a/\∀n,n<l.length->small n):=by
 have key:∀(k n:Nat) (a:Int),n+k=l.length->0<=a->a<=1048576->∃y,iter body (k+1) (a,(n:Int),())=some y/\(y=.inl (-1,())\/∃b,y=.inr (.inl (b,()))/\0<=b/\b<=a/\∀m,n<=m->m<l.length->small m):=by
  intro k;induction k with
  |zero=>
   intro n a hn h0 h1;have:n=l.length:=by omega
   subst this;exact⟨_,av (hend a),.inr ⟨a,rfl,h0,Int.le_refl _,fun m h2 h3=>absurd h3 (by omega)⟩⟩
  |succ k ih=>
   intro n a hn h0 h1;rcases h n a (by omega) h0 h1 with h|⟨b,h,b0,b1,hs⟩
   ·exact⟨_,av h,.inl rfl⟩
   ·obtain⟨y,q1,q2⟩:=ih (n+1) b (by omega) b0 (by omega);refine⟨y,by rw[aF h];exact q1,q2.imp id fun⟨c,c1,c2,c3,c4⟩=>⟨c,c1,c2,by omega,fun m h2 h3=>?_⟩⟩;rcases Nat.lt_or_ge n m with h4|h4
    ·exact c4 m (by omega) h3
    ·have:m=n:=by omega
     subst this;exact hs
 obtain⟨y,h1,h2⟩:=key l.length 0 a (by omega) ha NS;exact⟨y,bh h1 (aN (by omega)),h2.imp id fun⟨b,b1,b2,b3,b4⟩=>⟨b,b1,b2,b3,fun n hn=>b4 n (Nat.zero_le _) hn⟩⟩
abbrev Bx:=Int×Int×Int×Bool
abbrev Mj:=Int×List Int×List Bx
abbrev Site:=List Od×List Od×List Mj×Int×Int×Bool×Bool×Bool×Int×Int×List Ev
noncomputable def Ks:Mj:=bn
noncomputable def e6:Site:=aS
noncomputable def Np(m:Nat)(c:Mj):Prop:=c.2.1.length<=m/\c.2.2.length<=m
theorem OL(a0:Int)(a1:List Int)(a2:List Bx)(h1:a1.length<=1073741824)(h2:a2.length<=1073741824):qk a0 a1 a2=some (a0,a1,a2,()):=by unfold qk;rw[Pt a1 h1];simp only[Option.bind_some];rw[Pr a2 h2];rfl
theorem NC(a0:Int)(a1:List Int)(a2:List Bx)(h1:a1.length<=1073741824)(h2:a2.length<=1073741824):n6 a0 a1 a2 a0 a1 a2=some (true,()):=by unfold n6;simp only[e8,cond_false,On a1 h1,Option.bind_some,Bool.not_true,Ol a2 h2]
theorem OH(a0:Int)(a1:List Int)(a2:List Bx)(a:Int)(h1:a1.length<=9223372036854775807)(h2:a2.length<=9223372036854775807)(ha:0<=a)(NS:a<=1048576):
  ∃b,oa a0 a1 a2 a=some (b,())/\(b = -1\/(0<=b/\b<=a/\a1.length<=1073741824/\a2.length<=1073741824)):=by
 unfold oa;rw[Po a1 a h1 ha NS];simp only[Option.bind_some];cases hd:decide (a<(a1.length:Int))with
 |true=>exact⟨-1,rfl,.inl rfl⟩
 |false=>
  have hd:=of_decide_eq_false hd;simp only[cond_false];rw[k6 (by omega)];simp only[cond_false];rw[Pn a2 _ h2 (by omega) (by omega)];simp only[Option.bind_some];cases nf:decide (a-(a1.length:Int)<(a2.length:Int))with
  |true=>exact⟨-1,rfl,.inl rfl⟩
  |false=>have nf:=of_decide_eq_false nf;simp only[cond_false];rw[k6 (by omega)];exact⟨_,rfl,.inr ⟨by omega,by omega,by show _<=1073741824;omega,by show _<=1073741824;omega⟩⟩
theorem ME{α:Type}{l:List α}{n:Nat}(h:n<l.length)(z:α):l.getD n z∈l:=by rw[List.getD_eq_getElem?_getD,List.getElem?_eq_getElem h];exact List.getElem_mem h
theorem N7(l:List Mj)(hl:l.length<=1073741824)(hc:∀n,n<l.length->Np 1073741824 (l.getD n Ks)):zS l=some (l,()):=by
 unfold zS;rw[cE hl];have hr:cX (ai l) (((0:Int),([]:List Int),([]:List Bx)))=List.replicate l.length (0,[],[]):=dU _ _;rw[hr];have:=Oj (body:=kx (l,())) l (0,[],[]) Ks hl (fun n acc hn ha=>by
  obtain⟨c1,c2⟩:=hc n hn;unfold kx;simp only[aj,ax,hn,ha,decide_true,cond_true,ak,aR,au (n:=n) (show n<1099511627776 by omega),aQ];show((qk (l.getD n Ks).1 (l.getD n Ks).2.1 (l.getD n Ks).2.2).bind _)=_;rw[OL _ _ _ c1 c2];rfl) (fun acc _=>by
  unfold kx;simp only[aj,Nat.lt_irrefl,decide_false,cond_false])
 simp only[cond_true];unfold zT;rw[this];rfl
theorem Nq(l:List Mj)(hl:l.length<=1073741824)(hc:∀n,n<l.length->Np 1073741824 (l.getD n Ks)):wk l l=some (true,()):=by
 unfold wk;rw[e8];have gw:xh (l,l,()) ((0:Int),())=some (Sum.inr (Sum.inl ())):=by
  refine aU (fun n=>((n:Int),())) l.length (by show _<_;omega) _ (fun n hn=>?_) ?_
  ·obtain⟨c1,c2⟩:=hc n hn;unfold xb;simp only[aj,ax,hn,decide_true,cond_true,ak,aR,au (n:=n) (show n<1099511627776 by omega)];show((n6 (l.getD n Ks).1 (l.getD n Ks).2.1 (l.getD n Ks).2.2 (l.getD n Ks).1 (l.getD n Ks).2.1 (l.getD n Ks).2.2).bind _)=_;rw[NC _ _ _ c1 c2];rfl
  ·unfold xb;simp only[aj,Nat.lt_irrefl,decide_false,cond_false]
 simp only[cond_false];rw[gw];rfl
theorem N4(l:List Mj)(a:Int)(hl:l.length<=9223372036854775807)(hw:∀c∈l,Np 9223372036854775807 c)(ha:0<=a)(NS:a<=1048576):
  ∃b,yx l a=some (b,())/\(b = -1\/(0<=b/\b<=a/\l.length<=1073741824/\∀n,n<l.length->Np 1073741824 (l.getD n Ks))):=by
 unfold yx;have h1:aa .sub .i64 a (ai l)=a-(l.length:Int):=bM (by unfold ai;have:l.length<=9223372036854775807:=hl;omega) (by unfold ai;omega);have h2:af .lss (a-(l.length:Int)) 0=decide (a<(l.length:Int)):=by simp only[af,decide_eq_decide];omega
 rw[h1,h2];cases hd:decide (a<(l.length:Int))with
 |true=>exact⟨-1,rfl,.inl rfl⟩
 |false=>
  have hd:=of_decide_eq_false hd;have PS:l.length<=1073741824:=by omega
  obtain⟨y,q1,q2⟩:=OD (body:=ii (l,())) l PS (fun n=>Np 1073741824 (l.getD n Ks)) (fun n a hn h0 h1=>by
   obtain⟨c1,c2⟩:=hw _ (ME hn Ks);obtain⟨b,e1,e2⟩:=OH (l.getD n Ks).1 (l.getD n Ks).2.1 (l.getD n Ks).2.2 a c1 c2 h0 h1;have hb:ii (l,()) (a,(n:Int),())=(bif af .lss b 0 then some (.inr (.inl (-1,())))else some (.inl (b,((n+1:Nat):Int),()))):=by unfold ii;simp only[aj,ax,hn,decide_true,cond_true,ak,aR,au (n:=n) (show n<1099511627776 by omega)];show((oa (l.getD n Ks).1 (l.getD n Ks).2.1 (l.getD n Ks).2.2 a).bind _)=_;rw[e1];rfl
   rw[hb];rcases e2 with rfl|⟨b0,b1,b2,b3⟩
   ·exact .inl rfl
   ·rw[k6 b0];exact .inr ⟨b,rfl,b0,b1,b2,b3⟩) (fun a=>by
   unfold ii;simp only[aj,Nat.lt_irrefl,decide_false,cond_false]) (a-(l.length:Int)) (by omega) (by omega)
  simp only[cond_false];unfold za;rw[q1];rcases q2 with rfl|⟨b,rfl,b1,b2,b3⟩
  ·exact⟨-1,rfl,.inl rfl⟩
  ·exact⟨b,rfl,.inr ⟨b1,by omega,PS,b3⟩⟩
structure Ki (m:Nat) (x:Site):Prop where
 o:x.1.length<=m
 c:x.2.1.length<=m
 b:x.2.2.1.length<=m
 bs:∀n,n<x.2.2.1.length->Np m (x.2.2.1.getD n Ks)
 j:x.2.2.2.2.2.2.2.2.2.2.length<=m
theorem Ps(a0 a1:Int)(a2 a3 a4:Bool):LS a0 a1 a2 a3 a4=some (a0,a1,a2,a3,a4,()):=rfl
theorem Om(a0 a1:Int)(a2 a3 a4:Bool):KN a0 a1 a2 a3 a4 a0 a1 a2 a3 a4=some (true,()):=by unfold KN;simp only[e8,M5,Bool.not_true,cond_false]
theorem Pu(x:Site)(h:Ki 1073741824 x):Jf x.1 x.2.1 x.2.2.1 x.2.2.2.1 x.2.2.2.2.1 x.2.2.2.2.2.1 x.2.2.2.2.2.2.1 x.2.2.2.2.2.2.2.1 x.2.2.2.2.2.2.2.2.1 x.2.2.2.2.2.2.2.2.2.1 x.2.2.2.2.2.2.2.2.2.2 =
  some (x.1,x.2.1,x.2.2.1,x.2.2.2.1,x.2.2.2.2.1,x.2.2.2.2.2.1,x.2.2.2.2.2.2.1,x.2.2.2.2.2.2.2.1,x.2.2.2.2.2.2.2.2.1,x.2.2.2.2.2.2.2.2.2.1,x.2.2.2.2.2.2.2.2.2.2,()):=by
 unfold Jf;simp only[Pw _ _ h.o h.c,N7 _ h.b h.bs,Ps,OM _ h.j,Option.bind_some]
theorem Oq(x:Site)(h:Ki 1073741824 x):KQ x.1 x.2.1 x.2.2.1 x.2.2.2.1 x.2.2.2.2.1 x.2.2.2.2.2.1 x.2.2.2.2.2.2.1 x.2.2.2.2.2.2.2.1 x.2.2.2.2.2.2.2.2.1 x.2.2.2.2.2.2.2.2.2.1 x.2.2.2.2.2.2.2.2.2.2 x.1 x.2.1 x.2.2.1 x.2.2.2.1 x.2.2.2.2.1 x.2.2.2.2.2.1 x.2.2.2.2.2.2.1 x.2.2.2.2.2.2.2.1 x.2.2.2.2.2.2.2.2.1 x.2.2.2.2.2.2.2.2.2.1 x.2.2.2.2.2.2.2.2.2.2=some (true,()):=by unfold KQ;simp only[Ou _ _ h.o h.c,Nq _ h.b h.bs,Om,Nr _ h.j,Option.bind_some,e8,Bool.not_true,cond_false]
structure OU (x:Site):Prop where
 o:x.1.length<=9223372036854775807
 c:x.2.1.length<=9223372036854775807
 b:x.2.2.1.length<=9223372036854775807
 bs:∀y∈x.2.2.1,Np 9223372036854775807 y
 j:x.2.2.2.2.2.2.2.2.2.2.length<=9223372036854775807
theorem Pp(x:Site)(a:Int)(h:OU x)(ha:0<=a)(NS:a<=1048576):
  ∃b,KV x.1 x.2.1 x.2.2.1 x.2.2.2.1 x.2.2.2.2.1 x.2.2.2.2.2.1 x.2.2.2.2.2.2.1 x.2.2.2.2.2.2.2.1 x.2.2.2.2.2.2.2.2.1 x.2.2.2.2.2.2.2.2.2.1 x.2.2.2.2.2.2.2.2.2.2 a=some (b,())/\(b = -1\/(0<=b/\b<=a/\Ki 1073741824 x)):=by
 unfold KV;rw[Pq _ _ a h.o h.c ha NS];simp only[Option.bind_some];cases hd:decide (a<(x.1.length:Int)+(x.2.1.length:Int))with
 |true=>exact⟨-1,rfl,.inl rfl⟩
 |false=>
  have hd:=of_decide_eq_false hd;simp only[cond_false];rw[k6 (by omega)];simp only[cond_false];obtain⟨b,e1,e2⟩:=N4 x.2.2.1 (a-(x.1.length:Int)-(x.2.1.length:Int)) h.b h.bs (by omega) (by omega);rw[e1];simp only[Option.bind_some];rcases e2 with rfl|⟨b0,b1,b2,b3⟩
  ·exact⟨-1,rfl,.inl rfl⟩
  ·rw[k6 b0];simp only[cond_false];rw[OI _ b h.j b0 (by omega)];simp only[Option.bind_some];cases nf:decide (b<(x.2.2.2.2.2.2.2.2.2.2.length:Int))with
   |true=>exact⟨-1,rfl,.inl rfl⟩
   |false=>have nf:=of_decide_eq_false nf;simp only[cond_false];rw[k6 (by omega)];exact⟨_,rfl,.inr ⟨by omega,by omega,⟨by show _<=1073741824;omega,by show _<=1073741824;omega,b2,b3,by show _<=1073741824;omega⟩⟩⟩
theorem OY(l:List Site)(hl:l.length<=1073741824)(hc:∀n,n<l.length->Ki 1073741824 (l.getD n e6)):JP l=some (l,()):=by
 unfold JP;rw[cE hl];have hr:cX (ai l) ((([]:List Od),([]:List Od),([]:List Mj),(0:Int),(0:Int),false,false,false,(0:Int),(0:Int),([]:List Ev)):Site)=List.replicate l.length ([],[],[],0,0,false,false,false,0,0,[]):=dU _ _;rw[hr];have:=Oj (body:=rp (l,())) l ([],[],[],0,0,false,false,false,0,0,[]) e6 hl (fun n acc hn ha=>by
  have hs:=Pu (l.getD n e6) (hc n hn);unfold rp;simp only[aj,ax,hn,ha,decide_true,cond_true,ak,aR,au (n:=n) (show n<1099511627776 by omega),aQ];show((Jf (l.getD n e6).1 (l.getD n e6).2.1 (l.getD n e6).2.2.1 (l.getD n e6).2.2.2.1 (l.getD n e6).2.2.2.2.1 (l.getD n e6).2.2.2.2.2.1 (l.getD n e6).2.2.2.2.2.2.1 (l.getD n e6).2.2.2.2.2.2.2.1 (l.getD n e6).2.2.2.2.2.2.2.2.1 (l.getD n e6).2.2.2.2.2.2.2.2.2.1 (l.getD n e6).2.2.2.2.2.2.2.2.2.2).bind _)=_;rw[hs];rfl) (fun acc _=>by
  unfold rp;simp only[aj,Nat.lt_irrefl,decide_false,cond_false])
 simp only[cond_true];unfold Jz;rw[this];rfl
theorem NQ(l:List Site)(hl:l.length<=1073741824)(hc:∀n,n<l.length->Ki 1073741824 (l.getD n e6)):JN l l=some (true,()):=by
 unfold JN;rw[e8];have gw:Jv (l,l,()) ((0:Int),())=some (Sum.inr (Sum.inl ())):=by
  refine aU (fun n=>((n:Int),())) l.length (by show _<_;omega) _ (fun n hn=>?_) ?_
  ·have hs:=Oq (l.getD n e6) (hc n hn);unfold Ju;simp only[aj,ax,hn,decide_true,cond_true,ak,aR,au (n:=n) (show n<1099511627776 by omega)];have hs':=congrArg (fun q=>q.bind fun(y0:Bool×Unit)=>(bif (Bool.not y0.1)then some (Sum.inr (Sum.inl (false,())))else some (Sum.inl (((n+1:Nat):Int),())):Option ((Int×Unit)⊕(Bool×Unit⊕(Unit⊕Empty))))) hs;exact hs'
  ·unfold Ju;simp only[aj,Nat.lt_irrefl,decide_false,cond_false]
 simp only[cond_false];rw[gw];rfl
theorem OW(l:List Site)(a:Int)(hl:l.length<=9223372036854775807)(hw:∀c∈l,OU c)(ha:0<=a)(NS:a<=1048576):
  ∃b,me l a=some (b,())/\(b = -1\/(0<=b/\b<=a/\l.length<=1073741824/\∀n,n<l.length->Ki 1073741824 (l.getD n e6))):=by
 unfold me;have h1:aa .sub .i64 a (ai l)=a-(l.length:Int):=bM (by unfold ai;have:l.length<=9223372036854775807:=hl;omega) (by unfold ai;omega);have h2:af .lss (a-(l.length:Int)) 0=decide (a<(l.length:Int)):=by simp only[af,decide_eq_decide];omega
 rw[h1,h2];cases hd:decide (a<(l.length:Int))with
 |true=>exact⟨-1,rfl,.inl rfl⟩
 |false=>
  have hd:=of_decide_eq_false hd;have PS:l.length<=1073741824:=by omega
  obtain⟨y,q1,q2⟩:=OD (body:=kv (l,())) l PS (fun n=>Ki 1073741824 (l.getD n e6)) (fun n a hn h0 h1=>by
   obtain⟨b,e1,e2⟩:=Pp (l.getD n e6) a (hw _ (ME hn e6)) h0 h1;have hb:kv (l,()) (a,(n:Int),())=(bif af .lss b 0 then some (.inr (.inl (-1,())))else some (.inl (b,((n+1:Nat):Int),()))):=by unfold kv;simp only[aj,ax,hn,decide_true,cond_true,ak,aR,au (n:=n) (show n<1099511627776 by omega)];have hs':=congrArg (fun q=>q.bind fun(y0:Int×Unit)=>(bif (af .lss y0.1 (0:Int))then some (.inr (.inl ((-1:Int),())))else some (.inl (y0.1,((n+1:Nat):Int),())):Option ((Int×Int×Unit)⊕(Int×Unit⊕(Int×Unit⊕Empty))))) e1;exact hs'
   rw[hb];rcases e2 with rfl|⟨b0,b1,b2⟩
   ·exact .inl rfl
   ·rw[k6 b0];exact .inr ⟨b,rfl,b0,b1,b2⟩) (fun a=>by
   unfold kv;simp only[aj,Nat.lt_irrefl,decide_false,cond_false]) (a-(l.length:Int)) (by omega) (by omega)
  simp only[cond_false];unfold Jy;rw[q1];rcases q2 with rfl|⟨b,rfl,b1,b2,b3⟩
  ·exact⟨-1,rfl,.inl rfl⟩
  ·exact⟨b,rfl,.inr ⟨b1,by omega,PS,b3⟩⟩
end Go.Fn
set_option linter.unusedSimpArgs false
namespace Go.Fn
open Go.R
abbrev QT:=Int×Int×Int×Int×Int×Int×Int×Int×Int×Int×Int×Int×Int
abbrev Qp:=Int×Int×Int×Int×Int×Int×Bool
structure Qw (s:List Site) (p:List QT) (g:List Qp) (j:List Ev):Prop where
 ls:s.length<=9223372036854775807
 ss:∀x∈s,OU x
 lp:p.length<=9223372036854775807
 lg:g.length<=9223372036854775807
 lj:j.length<=9223372036854775807
structure NK (s:List Site) (p:List QT) (g:List Qp) (j:List Ev):Prop where
 ls:s.length<=1048576
 ss:∀n,n<s.length->Ki 1073741824 (s.getD n e6)
 lp:p.length<=1048576
 lg:g.length<=1048576
 lj:j.length<=1048576
theorem OK(s:List Site)(a b:Int)(hs:s.length<=9223372036854775807)(ha:0<=a)(NS:a<=1048576)(h:me s a=some (b,()))(hb:0<=b):s.length<=1048576:=by
 unfold me at h;have h1:aa .sub .i64 a (ai s)=a-(s.length:Int):=bM (by unfold ai;omega) (by unfold ai;omega);have h2:af .lss (a-(s.length:Int)) 0=decide (a<(s.length:Int)):=by simp only[af,decide_eq_decide];omega
 rw[h1,h2]at h;cases hd:decide (a<(s.length:Int))with
 |true=>rw[hd]at h;simp only[cond_true,Option.some.injEq,Prod.mk.injEq]at h;omega
 |false=>have hd:=of_decide_eq_false hd;omega
section
variable (a0 a1 a2 a3 a4 a5 a6 a7 a8 a9 a10:Int) (s:List Site) (p:List QT) (g:List Qp) (j:List Ev)
theorem N8(h:NK s p g j):At a0 a1 a2 a3 a4 a5 a6 a7 a8 a9 a10 s p g j=some (a0,a1,a2,a3,a4,a5,a6,a7,a8,a9,a10,s,p,g,j,()):=by have h1:=h.ls;have h2:=h.lp;have h3:=h.lg;have h4:=h.lj;unfold At;simp only[OZ,OY s (by omega) h.ss,N9 p (by omega),ON g (by omega),OM j (by omega),Option.bind_some]
theorem Ns(h:NK s p g j):xl a0 a1 a2 a3 a4 a5 a6 a7 a8 a9 a10 s p g j a0 a1 a2 a3 a4 a5 a6 a7 a8 a9 a10 s p g j=some (true,()):=by have h1:=h.ls;have h2:=h.lp;have h3:=h.lg;have h4:=h.lj;unfold xl;simp only[NR,e8,NQ s (by omega) h.ss,Nt p (by omega),ND g (by omega),Nr j (by omega),Option.bind_some,Bool.not_true,cond_false]
theorem N5(a:Int)(h:Qw s p g j)(ha:0<=a)(NS:a<=1048576):
  ∃b,zb a0 a1 a2 a3 a4 a5 a6 a7 a8 a9 a10 s p g j a=some (b,())/\(b = -1\/(0<=b/\b<=a/\NK s p g j)):=by
 unfold zb;obtain⟨b,e1,e2⟩:=OW s a h.ls h.ss ha NS;rw[e1];simp only[Option.bind_some];rcases e2 with rfl|⟨b0,b1,b2,b3⟩
 ·exact⟨-1,rfl,.inl rfl⟩
 ·rw[k6 b0];simp only[cond_false];rw[N6 p b h.lp b0 (by omega)];simp only[Option.bind_some];cases hd:decide (b<(p.length:Int))with
  |true=>exact⟨-1,rfl,.inl rfl⟩
  |false=>
   have hd:=of_decide_eq_false hd;simp only[cond_false];rw[k6 (by omega)];simp only[cond_false];rw[OJ g _ h.lg (by omega) (by omega)];simp only[Option.bind_some];cases nf:decide (b-(p.length:Int)<(g.length:Int))with
   |true=>exact⟨-1,rfl,.inl rfl⟩
   |false=>
    have nf:=of_decide_eq_false nf;simp only[cond_false];rw[k6 (by omega)];simp only[cond_false];rw[OI j _ h.lj (by omega) (by omega)];simp only[Option.bind_some];cases UE:decide (b-(p.length:Int)-(g.length:Int)<(j.length:Int))with
    |true=>exact⟨-1,rfl,.inl rfl⟩
    |false=>have UE:=of_decide_eq_false UE;simp only[cond_false];rw[k6 (by omega)];refine⟨_,rfl,.inr ⟨by omega,by omega,⟨?_,b3,by omega,by omega,by omega⟩⟩⟩;exact OK s a b h.ls ha NS e1 b0
theorem Pj(n:Int):∃y,qW a0 a1 a2 a3 a4 a5 a6 a7 a8 a9 a10 s p g j n=some (y,())/\n5 a0 a1 a2 a3 a4 a5 a6 a7 a8 a9 a10 s p g j n=some (y,()):=by
 unfold qW n5 hM ik;simp only[Je,ey,Option.bind_some];have hz:az (2147483646:Int)=false:=rfl;cases ko a9 1 2147483646 with
 |false=>exact⟨_,rfl,rfl⟩
 |true=>
  cases ko n 1 12 with
  |false=>exact⟨_,rfl,rfl⟩
  |true=>simp only[hz];exact⟨_,rfl,rfl⟩
end
end Go.Fn
namespace Go.R
def Yl{α:Type}(x:Option α)(P:α->Prop):Prop:=∃a,x=some a/\P a
section
variable {α β:Type} {P:α->Prop} {Q:β->Prop}
theorem Yl.ret{a:α}(h:P a):Yl (some a) P:=⟨a,rfl,h⟩
theorem Yl.bind{x:Option α}{f:α->Option β}(hx:Yl x P)(hf:∀a,P a->Yl (f a) Q):Yl (x.bind f) Q:=by obtain⟨a,rfl,ha⟩:=hx;exact hf a ha
theorem Yl.mono{P':α->Prop}{x:Option α}(hx:Yl x P)(h:∀a,P a->P' a):Yl x P':=by obtain⟨a,e,ha⟩:=hx;exact⟨a,e,h a ha⟩
theorem Yl.cond{b:Bool}{x y:Option α}(hx:b=true->Yl x P)(hy:b=false->Yl y P):Yl (bif b then x else y) P:=by
 cases b
 ·exact hy rfl
 ·exact hx rfl
theorem Yl.guard{b:Bool}{x:Option α}(hb:b=true)(hx:Yl x P):Yl (bif b then x else none) P:=by subst hb;exact hx
theorem Yl.lets{γ:Type}{v:γ}{k:γ->Option α}(h:Yl (k v) P):Yl (lets v k) P:=h
end
open Go.Fn
end Go.R
set_option linter.unusedSimpArgs false
set_option linter.unusedVariables false
namespace Go.Fn
open Go.R Go.Sort
section
variable {α:Type} [Inhabited α] {lt:α->α->Bool}
theorem one:(1:Int)=((1:Nat):Int):=rfl
end
end Go.Fn
set_option linter.unusedSimpArgs false
set_option linter.unusedVariables false
namespace Go.Fn
open Go.R Go.Sort
section
variable {α:Type} [Inhabited α] {lt:α->α->Bool}
abbrev Q3(α:Type):=Option (((List α)×Int×Int×Int×Bool×Bool×Unit)⊕((List α)×Unit⊕Empty))
noncomputable def Next(lt:α->α->Bool)(q:Q3 α)(d:Array α)(a b:Nat):Prop:=
 (∃R,q=some (.inr (.inl (R.toList,())))/\PermIn a b d R/\SortedIn lt a b R) \/
 (∃(E:Array α) (a' b':Nat) (L:Int) (wb wp:Bool),q=some (.inl (E.toList,(a':Int),(b':Int),L,wb,wp,()))/\E.size=d.size/\a'<=b'/\b'<=b/\b'-a'<b-a/\Below lt a' b' E/\∀R,PermIn a' b' E R->SortedIn lt a' b' R->PermIn a b d R/\SortedIn lt a b R)
theorem Next.mono{q:Q3 α}{d D:Array α}{a b:Nat}(h:Next lt q D a b)(p:PermIn a b d D):Next lt q d a b:=by
 rcases h with ⟨R,h1,h2,h3⟩|⟨E,a',b',L,wb,wp,h1,h2,h3,h4,h5,h6,h7⟩
 ·exact .inl ⟨R,h1,permIn_trans _ _ _ a b p h2,h3⟩
 ·refine .inr ⟨E,a',b',L,wb,wp,h1,by rw[h2,p.1],h3,h4,h5,h6,fun R hR hs=>?_⟩;obtain⟨k1,k2⟩:=h7 R hR hs;exact⟨permIn_trans _ _ _ a b p k1,k2⟩
end
end Go.Fn
set_option linter.unusedSimpArgs false
set_option linter.unusedVariables false
namespace Go.Fn
open Go.R Go.Sort
noncomputable def Qe(x y:Ev):Bool:=decide (x.1<y.1)||(decide (x.1=y.1)&&decide (x.2.1<y.2.1))
end Go.Fn
set_option linter.unusedSimpArgs false
set_option linter.unusedVariables false
namespace Go.Fn
open Go.R Go.Sort
theorem Nk{x y:Ev}:Qe x y=true↔x.1<y.1\/(x.1=y.1/\x.2.1<y.2.1):=by unfold Qe;simp
theorem QN{x y z:Ev}(h1:Qe x y=true)(h2:Qe y z=true):Qe x z=true:=by rw[Nk]at *;omega
abbrev QU(l:List Ev):Prop:=l.Pairwise fun x y=>Qe x y=true
theorem O7:∀(l:List Ev),(∀n,n+1<l.length->Qe (l.getD n fq) (l.getD (n+1) fq)=true)->QU l
 | [],_=>List.Pairwise.nil
 | [x],_=>List.pairwise_singleton _ _
 |x::y::l,h=>by
  have ih:=O7 (y::l) (fun n hn=>h (n+1) (by simpa using hn));have hxy:Qe x y=true:=h 0 (by simp);refine List.Pairwise.cons (fun z hz=>?_) ih;rcases List.mem_cons.1 hz with rfl|hz
  ·exact hxy
  ·exact QN hxy ((List.pairwise_cons.1 ih).1 z hz)
theorem P9{l:List Ev}(h:O1 l=true):QU l:=by refine O7 l fun n hn=>?_;have:=QL h hn;simp only[Li,Bool.and_eq_true,O2,Bool.not_eq_true',Bool.or_eq_false_iff,Bool.and_eq_false_iff,decide_eq_false_iff_not]at this;rw[Nk];omega
end Go.Fn
set_option linter.unusedSimpArgs false
set_option linter.unusedVariables false
namespace Go.Fn
open Go.R Go.Sort
noncomputable def Og(node:Int)(s:Int×Int×Nat×Nat)(x:Ev):Int×Int×Nat×Nat:=((bif decide (x.1=node)then x.2.1+1 else s.1),max s.2.1 (x.2.2.1+1),(bif decide (x.1<=node)then s.2.2.2+1 else s.2.2.1),s.2.2.2+1)
noncomputable def NN(l:List Ev)(node:Int):Int×Int×Nat×Nat:=l.foldl (Og node) (1,1,0,0)
noncomputable def RH(l:List Ev)(node kind B1 a b:Int):Ev:=(node,(NN l node).1,(NN l node).2.1,kind,B1,a,b)
noncomputable def Nz(l:List Ev)(node kind B1 a b:Int):List Ev:=l.take (NN l node).2.2.1++[RH l node kind B1 a b]++l.drop (NN l node).2.2.1
noncomputable def Qr(l:List Ev)(node kind B1 a b:Int):List Ev×Bool:=bif O1 l then bif O1 (Nz l node kind B1 a b)then(Nz l node kind B1 a b,true)else(l,false)else(l,false)
structure PE (node:Int) (p:List Ev) (s:Int×Int×Nat×Nat):Prop where
 c:s.2.2.2=p.length
 Rq:s.2.2.1<=p.length
 s1:∀x,x∈p->x.1=node->x.2.1<s.1
 s2:s.1=1\/∃x,x∈p/\x.1=node/\s.1=x.2.1+1
 p1:∀x,x∈p->x.2.2.1<s.2.1
 p2:s.2.1=1\/∃x,x∈p/\s.2.1=x.2.2.1+1
 a1:∀x,x∈p.take s.2.2.1->x.1<=node
 a2:∀x,x∈p.drop s.2.2.1->node<x.1
theorem O9{node:Int}{p:List Ev}{s:Int×Int×Nat×Nat}{x:Ev}(h:PE node p s)(hp:QU (p++[x])):PE node (p++[x]) (Og node s x):=by
 have hlt:∀y,y∈p->Qe y x=true:=fun y hy=>(List.pairwise_append.1 hp).2.2 y hy x (List.mem_singleton.2 rfl);obtain⟨h1,h2,h3,h4,h5,h6,h7,h8⟩:=h;unfold Og;refine⟨by simp[h1],?_,fun y hy hn=>?_,?_,fun y hy=>?_,?_,?_,?_⟩
 ·cases decide (x.1<=node) <;> simp <;> omega
 ·simp only[];rcases List.mem_append.1 hy with hy|hy
  ·by_cases hx:x.1=node
   ·rw[decide_eq_true hx];have:=hlt y hy;rw[Nk]at this;simp only[cond_true];omega
   ·rw[decide_eq_false hx];exact h3 y hy hn
  ·rw[List.mem_singleton]at hy;subst hy;rw[decide_eq_true hn];simp only[cond_true];omega
 ·simp only[];by_cases hx:x.1=node
  ·rw[decide_eq_true hx];exact .inr ⟨x,by simp,hx,rfl⟩
  ·rw[decide_eq_false hx];rcases h4 with h4|⟨y,hy,h4⟩
   ·exact .inl h4
   ·exact .inr ⟨y,List.mem_append_left _ hy,h4⟩
 ·simp only[];rcases List.mem_append.1 hy with hy|hy
  ·have:=h5 y hy;omega
  ·rw[List.mem_singleton]at hy;subst hy;omega
 ·simp only[];by_cases hm:s.2.1<=x.2.2.1+1
  ·exact .inr ⟨x,by simp,by omega⟩
  ·rcases h6 with h6|⟨y,hy,h6⟩
   ·exact .inl (by omega)
   ·exact .inr ⟨y,List.mem_append_left _ hy,by omega⟩
 ·simp only[];by_cases hx:x.1<=node
  ·rw[decide_eq_true hx];intro y hy;rw[cond_true,h1,List.take_of_length_le (by simp)]at hy;rcases List.mem_append.1 hy with hy|hy
   ·have:=hlt y hy;rw[Nk]at this;omega
   ·rw[List.mem_singleton]at hy;subst hy;exact hx
  ·rw[decide_eq_false hx];intro y hy;rw[cond_false,List.take_append_of_le_length h2]at hy;exact h7 y hy
 ·simp only[];by_cases hx:x.1<=node
  ·rw[decide_eq_true hx];intro y hy;rw[cond_true,h1,List.drop_of_length_le (by simp)]at hy;exact absurd hy List.not_mem_nil
  ·rw[decide_eq_false hx];intro y hy;rw[cond_false,List.drop_append_of_le_length h2]at hy;rcases List.mem_append.1 hy with hy|hy
   ·exact h8 y hy
   ·rw[List.mem_singleton]at hy;subst hy;omega
theorem Oe(node:Int):∀(l p:List Ev) (s:Int×Int×Nat×Nat),QU (p++l)->PE node p s->PE node (p++l) (l.foldl (Og node) s)
 | [],p,s,_,h=>by simpa using h
 |x::l,p,s,hp,h=>by
  have e:p++x::l=(p++[x])++l:=by simp
  rw[e]at hp⊢;exact Oe node l (p++[x]) (Og node s x) hp (O9 h (List.pairwise_append.1 hp).1)
theorem Of(node:Int){l:List Ev}(h:QU l):PE node l (NN l node):=by have:=Oe node l [] (1,1,0,0) (by simpa using h) ⟨rfl,Nat.le_refl _,fun x hx=>absurd hx List.not_mem_nil,.inl rfl,fun x hx=>absurd hx List.not_mem_nil,.inl rfl,fun x hx=>absurd (List.mem_of_mem_take hx) List.not_mem_nil,fun x hx=>absurd (List.mem_of_mem_drop hx) List.not_mem_nil⟩;exact this
theorem JW{l:List Ev}{node kind B1 a b:Int}(z:Ev):z∈Nz l node kind B1 a b↔z=RH l node kind B1 a b\/z∈l:=by
 unfold Nz;rw[List.mem_append,List.mem_append,List.mem_singleton];constructor
 ·rintro((h|h)|h)
  ·exact .inr (List.mem_of_mem_take h)
  ·exact .inl h
  ·exact .inr (List.mem_of_mem_drop h)
 ·rintro(h|h)
  ·exact .inl (.inr h)
  ·rw[<-List.take_append_drop (NN l node).2.2.1 l,List.mem_append]at h;rcases h with h|h
   ·exact .inl (.inl h)
   ·exact .inr h
theorem Px{l:List Ev}(h:QU l)(node kind B1 a b:Int):(Nz l node kind B1 a b).length=l.length+1:=by have:=(Of node h).Rq;unfold Nz;simp only[List.length_append,List.length_take,List.length_drop,List.length_singleton];omega
end Go.Fn
set_option linter.unusedSimpArgs false
set_option linter.unusedVariables false
namespace Go.Fn
open Go.R Go.Sort
structure O8 (n:Nat) (base:List Ev) (S:Int->Prop) (l:List Ev):Prop where
 j:O1 l=true
 len:l.length<=n
 st:∀x,x∈l->x.2.2.1<=(n:Int)
 RZ:∀x,x∈l->∀s:Int,1<=s->s<=x.2.1->∃y,y∈l/\y.1=x.1/\y.2.1=s
 sub:∀x,x∈base->x∈l
 new:∀x,x∈l->x∈base\/S x.1
theorem O8.mono{n m:Nat}{base:List Ev}{S:Int->Prop}{l:List Ev}(h:O8 n base S l)(hm:n<=m):O8 m base S l:=⟨h.j,by have:=h.len;omega,fun x hx=>by have:=h.st x hx;omega,h.RZ,h.sub,h.new⟩
theorem O8.add{n:Nat}{base:List Ev}{S:Int->Prop}{l:List Ev}(h:O8 n base S l){node:Int}(hS:S node)(kind B1 a b:Int):O8 (n+1) base S (Qr l node kind B1 a b).1:=by
 unfold Qr;rw[h.j];simp only[cond_true];cases hw:O1 (Nz l node kind B1 a b)with
 |false=>exact h.mono (Nat.le_succ _)
 |true=>
  have hs:=P9 h.j;have hi:=Of node hs;simp only[cond_true];refine⟨hw,by rw[Px hs];have:=h.len;omega,fun x hx=>?_,fun x hx s h1 h2=>?_,fun x hx=>(JW x).2 (.inr (h.sub x hx)),fun x hx=>?_⟩
  ·rcases(JW x).1 hx with e|e
   ·rw[e];show(NN l node).2.1<=_;rcases hi.p2 with p|⟨y,hy,p⟩
    ·rw[p];omega
    ·rw[p];have:=h.st y hy;omega
   ·have:=h.st x e;omega
  ·rcases(JW x).1 hx with e|e
   ·subst e;have h2:s<=(NN l node).1:=h2;by_cases e:s=(NN l node).1
    ·exact⟨_,hx,rfl,e.symm⟩
    ·rcases hi.s2 with p|⟨y,hy,q,p⟩
     ·omega
     ·obtain⟨z,hz,e1,e2⟩:=h.RZ y hy s h1 (by omega);exact⟨z,(JW z).2 (.inr hz),by rw[e1,q];rfl,e2⟩
   ·obtain⟨z,hz,e1,e2⟩:=h.RZ x e s h1 h2;exact⟨z,(JW z).2 (.inr hz),e1,e2⟩
  ·rcases(JW x).1 hx with e|e
   ·rw[e];exact .inr hS
   ·exact h.new x e
end Go.Fn
set_option linter.unusedSimpArgs false
set_option linter.unusedVariables false
namespace Go.Fn
open Go.R
section
variable {a0 a1:Int} {g:List (List Int)} {s:List Su}
noncomputable def lg(g:List (List Int))(p q:Int):Int:=VE g p.toNat q.toNat
end
end Go.Fn
set_option linter.unusedVariables false
set_option linter.unusedSimpArgs false
namespace Go.Fn
open Go.R
section
variable (a0 a1:Int) (g:List (List Int)) (s:List Su)
abbrev SB:Type:=Bool×Int×List Int×Unit
end
end Go.Fn
set_option linter.unusedVariables false
namespace Go.Fn
open Go.R
noncomputable def gA(a:Int):nw:=(bt a 1 40).bind fun b=>some (b.1,())
noncomputable def JT(a:Int):nw:=(bt a 0 20000).bind fun b=>some (b.1,())
noncomputable def Cp(a b c d e f:Int)(g:Bool):nw:=(gA a).bind fun h=>letI i:=some (false,());cond h.1 ((gA b).bind fun j=>cond j.1 (cond (af .neq a b) ((bt c 0 999).bind fun k=>cond k.1 ((bt d 0 5).bind fun l=>cond l.1 ((JT e).bind fun m=>cond m.1 ((JT f).bind fun n=>cond n.1 (some (af .lss e f,())) i) i) i) i) i) i) i
noncomputable def IX(a:Rp)(b:n3):NA:=letI c:=ae rm a.1 b.1;letI d:=c.2.2.2;cond (af .lss b.1 (ai a.1)) (cond (ah a.1 b.1) ((Cp c.1 c.2.1 c.2.2.1 d.1 d.2.1 d.2.2.1 d.2.2.2).bind fun e=>cond (Bool.not e.1) (some (.inr (.inl (false,())))) (some (.inl (aa .add .i64 b.1 1,())))) none) (some (.inr (.inr (.inl ()))))
noncomputable def IY k x:=iter (IX k) big x
noncomputable def Ja(a:Lm):nw:=cond (af .gtr (ai a) 30) (some (false,())) ((IY (a,()) (0,())).bind fun b=>Sum.elim (fun c=>some (c.1,())) (fun c=>Sum.elim (fun _=>some (true,())) (fun d=>Empty.elim d) c) b)
noncomputable def I0(a:Int×LK×M8×M9)(b:Ud):Option (Ud⊕PF⊕RY⊕Empty):=letI c:=b.2.2;letI d:=c.2.2.1;letI e:=(b.1,b.2.1,c.1,c.2.1,aa .add .i64 d 1,());cond (af .lss d a.2.2.2.2.1) (cond (af .gtr c.1 0) (cond (ah a.2.2.1 d) (cond (af .eql (ae fe a.2.2.1 d).2.2.1 c.1) (some (.inr (.inl (false,())))) (some (.inl e))) none) (some (.inl e))) (some (.inr (.inr (.inl (b.1,b.2.1,c.1,c.2.1,())))))
noncomputable def nl k x:=iter (I0 k) big x
noncomputable def IZ(a:RR)(b:M9):Qy:=letI c:=(false,());letI d:=b.2.1;letI e:=a.2.2.1;letI f:=ae fe e d;cond (af .lss d (ai e)) (cond (ah e d) (cond (af .neq f.1 b.1) (some (.inr (.inl c))) ((bt f.2.1 1 24).bind fun g=>cond (Bool.not g.1) (some (.inr (.inl c))) ((bt f.2.2.1 0 999).bind fun h=>cond (Bool.not h.1) (some (.inr (.inl c))) ((nl (a.1,a.2.1,e,b.1,d,()) (f.1,f.2.1,f.2.2.1,f.2.2.2,0,())).bind fun i=>Sum.elim (fun j=>some (.inr (.inl (j.1,())))) (fun j=>Sum.elim (fun k=>letI l:=aa .add .i64 b.1 k.2.1;cond (af .gtr l 24) (some (.inr (.inl c))) (some (.inl (l,aa .add .i64 d 1,())))) (fun k=>Empty.elim k) j) i)))) none) (some (.inr (.inr (.inl (b.1,())))))
noncomputable def I1 k x:=iter (IZ k) big x
noncomputable def Jb(a:Int)(b:LK)(c:M8):nw:=(I1 (a,b,c,()) (0,0,())).bind fun d=>Sum.elim (fun e=>some (e.1,())) (fun e=>Sum.elim (fun f=>cond (af .gtr (ai c) 0) (some (af .eql f.1 a,())) (some (false,()))) (fun f=>Empty.elim f) e) d
noncomputable def nh(a:Int×LK×QY)(b:Bool×n3):Option (Bool×n3⊕PF⊕Empty):=letI c:=a.2.2;letI d:=aa .add .i64 b.2.1 1;cond (af .lss b.2.1 (ai c.1)) (cond b.1 (some (.inl (true,d,()))) (cond (ah c.1 b.2.1) (cond (ah a.2.1 c.2.1) (some (.inl (af .eql (ae fe c.1 b.2.1).1 (ae zI a.2.1 c.2.1),d,()))) none) none)) (some (.inr (.inl (b.1,()))))
noncomputable def IW k x:=iter (nh k) big x
noncomputable def IU(a:RR)(b:n3):NA:=letI c:=b.1;letI d:=a.2.1;cond (af .lss c (ai d)) (cond (ah d c) ((bt (ae zI d c) 1 (aa .sub .i64 a.1 1)).bind fun e=>letI f:=(false,());letI g:=aa .sub .i64 c 1;letI h:=(aa .add .i64 c 1,());letI i:=IW (a.1,d,a.2.2.1,c,()) (false,0,());cond (Bool.not e.1) (some (.inr (.inl f))) (cond (af .gtr c 0) (cond (ah d c) (cond (ah d g) (cond (af .leq (ae zI d c) (ae zI d g)) (some (.inr (.inl f))) (i.bind fun j=>Sum.elim (fun k=>cond (Bool.not k.1) (some (.inr (.inl f))) (some (.inl h))) (fun k=>Empty.elim k) j)) none) none) (i.bind fun j=>Sum.elim (fun k=>cond (Bool.not k.1) (some (.inr (.inl f))) (some (.inl h))) (fun k=>Empty.elim k) j))) none) (some (.inr (.inr (.inl ()))))
noncomputable def IV k x:=iter (IU k) big x
noncomputable def qS(a:Int)(b:LK)(c:M8):nw:=(bt a 1 24).bind fun d=>letI e:=some (false,());cond (Bool.not d.1) e ((Jb a b c).bind fun f=>cond (Bool.not f.1) e ((IV (a,b,c,()) (0,())).bind fun g=>Sum.elim (fun h=>some (h.1,())) (fun h=>Sum.elim (fun _=>some (true,())) (fun i=>Empty.elim i) h) g))
noncomputable def hD(a:Int×RR)(b:n3):RN:=letI c:=a.2.2.2.1;letI d:=(aa .add .i64 b.1 1,());cond (af .lss b.1 (ai c)) (cond (ah c b.1) (cond (af .eql (ae fe c b.1).2.2.1 a.1) (cond (af .gtr a.1 0) (some (.inr (.inl (b.1,())))) (some (.inl d))) (some (.inl d))) none) (some (.inr (.inr (.inl ()))))
noncomputable def IC k x:=iter (hD k) big x
noncomputable def j0(a:Int)(b:LK)(c:M8)(d:Int):Nn:=(IC (d,a,b,c,()) (0,())).bind fun e=>Sum.elim (fun f=>some (f.1,())) (fun f=>Sum.elim (fun _=>some (-1,())) (fun g=>Empty.elim g) f) e
noncomputable def Kl(a:Nj×M9)(b:n3):NA:=letI c:=ae bn a.1 a.2.2.1;letI d:=(ae bn a.1 a.2.1).2.2;cond (ah a.1 a.2.1) (cond (af .lss b.1 (ai d)) (cond (ah a.1 a.2.2.1) (cond (ah a.1 a.2.1) (cond (ah d b.1) ((j0 c.1 c.2.1 c.2.2 (ae fe d b.1).2.2.1).bind fun e=>cond (af .geq e.1 0) (some (.inr (.inl (false,())))) (some (.inl (aa .add .i64 b.1 1,())))) none) none) none) (some (.inr (.inr (.inl ()))))) none
noncomputable def Ko k x:=iter (Kl k) big x
noncomputable def Kk(a:QZ)(b:n3):NA:=cond (af .lss b.1 a.2.1) ((Ko (a.1,a.2.1,b.1,()) (0,())).bind fun c=>Sum.elim (fun d=>some (.inr (.inl (d.1,())))) (fun d=>Sum.elim (fun _=>some (.inl (aa .add .i64 b.1 1,()))) (fun e=>Empty.elim e) d) c) (some (.inr (.inr (.inl ()))))
noncomputable def Kn k x:=iter (Kk k) big x
noncomputable def Kj(a:QX)(b:n3):NA:=letI c:=ae bn a.1 b.1;cond (af .lss b.1 (ai a.1)) (cond (ah a.1 b.1) ((qS c.1 c.2.1 c.2.2).bind fun d=>cond (Bool.not d.1) (some (.inr (.inl (false,())))) ((Kn (a.1,b.1,()) (0,())).bind fun e=>Sum.elim (fun f=>some (.inr (.inl (f.1,())))) (fun f=>Sum.elim (fun _=>some (.inl (aa .add .i64 b.1 1,()))) (fun g=>Empty.elim g) f) e)) none) (some (.inr (.inr (.inl ()))))
noncomputable def Km k x:=iter (Kj k) big x
noncomputable def tv(a:Nj):nw:=(bt (ai a) 1 6).bind fun b=>cond (Bool.not b.1) (some (false,())) ((Km (a,()) (0,())).bind fun c=>Sum.elim (fun d=>some (d.1,())) (fun d=>Sum.elim (fun _=>some (true,())) (fun e=>Empty.elim e) d) c)
noncomputable def L1(a b:Int)(c d e:Bool):nw:=some (bT e (af .eql a 2),())
noncomputable def tB(a b:Int)(c d e:Bool):nw:=(bt a 0 2).bind fun f=>letI g:=some (false,());cond (Bool.not f.1) g ((bt b 0 6).bind fun h=>letI i:=some (Bool.not c,());letI j:=L1 a b c d e;letI k:=cond c (some (Bool.not d,())) g;letI l:=cond (af .eql a 0) (cond (af .eql b 0) i g) (cond (af .eql b 1) (j.bind fun l=>cond l.1 i g) (cond (af .eql b 2) (j.bind fun l=>cond l.1 k g) (cond (af .eql b 3) (j.bind fun l=>cond l.1 (some (d,())) g) (cond (af .eql b 4) (j.bind fun l=>cond (Bool.not l.1) (some (d,())) g) (cond (af .eql b 5) k (cond (af .eql b 6) i (some (true,()))))))));cond (Bool.not h.1) g (cond d (cond (Bool.not c) g l) l))
noncomputable def ID(a b c d e f g h i j k:Int)(l:LJ)(m:Ll)(n:Lm)(o:Kr)(p:Int):nw:=letI q:=ae aS l p;cond (ah l p) ((Jh q.1 q.2.1).bind fun r=>letI s:=some (false,());cond (Bool.not r.1) s ((tv q.2.2.1).bind fun t=>letI u:=q.2.2.2;letI v:=u.2.2.2;cond (Bool.not t.1) s ((tB u.1 u.2.1 u.2.2.1 v.1 v.2.1).bind fun w=>letI x:=v.2.2;cond (Bool.not w.1) s ((jj x.2.2).bind fun y=>letI z:=af .eql x.2.1 0;cond (Bool.not y.1) s (cond (af .eql x.1 0) (lets (Bool.and (af .eql u.1 0) (Bool.and (af .eql u.2.1 0) (Bool.and (bT u.2.2.1 false) (Bool.and (bT v.1 false) (Bool.and (bT v.2.1 false) true))))) fun A=>cond A (some (z,())) s) ((bt x.1 1 (ai m)).bind fun A=>letI B:=aa .sub .i64 x.1 1;letI C:=(ae bg m B).2.2;letI D:=cond (af .eql u.1 2) ((bt x.2.1 0 40).bind fun D=>some (D.1,())) s;cond (Bool.not A.1) s (cond (ah m B) (cond (af .neq C.1 p) s (cond (ah m B) (cond (af .neq C.2.1 2) s (cond (af .eql u.1 1) (cond z (some (true,())) D) D)) none)) none))))))) none
noncomputable def jn(a b c d e f g h i j k:Int)(l:LJ)(m:Ll)(n:Lm)(o:Kr)(p:Int):nw:=letI q:=some (true,());letI r:=(ae bg m p).2.2;cond (ah m p) (cond (af .eql r.2.1 0) q (cond (af .eql r.2.1 1) q (cond (af .eql r.2.1 2) (cond (ah l r.1) (some (af .eql (ae aS l r.1).2.2.2.1 1,())) none) (some (false,()))))) none
noncomputable def K0(a b c d e:Int):nw:=(hM a).bind fun f=>letI g:=some (false,());cond f.1 ((bt b 0 1000001).bind fun h=>cond h.1 ((bt c 0 2).bind fun i=>cond i.1 ((bt d 0 6).bind fun j=>cond j.1 ((bt e 0 20064).bind fun k=>some (k.1,())) g) g) g) g
noncomputable def nn(a b c d e f g h i j k:Int)(l:LJ)(m:Ll)(n:Lm)(o:Kr)(p:Int):nw:=letI q:=ae bg m p;cond (ah m p) ((bt q.1 1 24).bind fun r=>letI s:=some (false,());cond (Bool.not r.1) s ((gA q.2.1).bind fun t=>letI u:=(0:Int);cond (Bool.not t.1) s ((bt q.2.2.1 u (aa .sub .i64 (ai l) 1)).bind fun v=>letI w:=q.2.2.2;cond (Bool.not v.1) s ((bt w.1 u 5).bind fun x=>letI y:=aa .add .i64 p 1;letI z:=(jn a b c d e f g h i j k l m n o p).bind fun z=>letI A:=w.2.2.2;letI B:=A.2.2;letI C:=B.2.2.2;letI D:=af .eql C.1 u;letI E:=af .eql C.2 u;cond z.1 (cond (af .eql w.2.1 u) (cond (af .eql w.2.2.1 u) (cond D (cond E (lets (Bool.and (af .eql A.1 u) (Bool.and (af .eql A.2.1 u) (Bool.and (af .eql B.1 u) (Bool.and (af .eql B.2.1 u) (Bool.and (af .eql B.2.2.1 u) true))))) fun F=>some (F,())) s) s) s) s) ((bt w.2.1 u k).bind fun F=>cond (Bool.not F.1) s ((bt w.2.2.1 u h).bind fun G=>cond (Bool.not G.1) s ((K0 A.1 A.2.1 B.1 B.2.1 B.2.2.1).bind fun H=>cond (Bool.not H.1) s ((qW a b c d e f g h i j k l m n o y).bind fun I=>cond (af .neq A.1 I.1) s (cond (af .eql w.1 4) ((gA C.1).bind fun J=>cond J.1 ((bt C.2 u (aa .add .i64 e (aa .mul .i64 g h))).bind fun K=>some (K.1,())) s) (cond D (some (E,())) s))))));cond (Bool.not x.1) s (cond (af .eql w.1 2) (cond (ah l q.2.2.1) (cond (af .neq (ae aS l q.2.2.1).2.2.2.2.2.2.2.2.1 y) s z) none) z))))) none
noncomputable def sS(a:Int×Int×Int×Int×Int×Int×Int×Int×Int×Int×Int×LJ×Ll×Lm×Kr×Int×Int×QW)(b:M9):Qy:=letI c:=(false,());letI d:=aa .add .i64 b.2.1 1;letI e:=a.2.2.2.2.2.2.2.2.2.2.2.2;letI f:=e.2.2.2.2.2.1;letI g:=ah f b.2.1;letI h:=(ae fe f b.2.1).2;letI i:=aa .sub .i64 h.2.1 1;letI j:=ae bg e.1 i;letI k:=j.2.2.2.2.2.2.2.2.2;cond (af .lss b.2.1 (ai f)) (cond g (cond (af .eql h.2.1 0) (some (.inl (b.1,d,()))) (cond (af .gtr h.2.1 (ai e.1)) (some (.inr (.inl c))) (cond (ah e.1 i) (lets k.1 fun _=>lets k.2.1 fun _=>lets k.2.2.1 fun _=>lets k.2.2.2 fun _=>lets (af .neq j.2.2.1 e.2.2.2.1) fun l=>cond l (some (.inr (.inl c))) (cond g (lets (af .neq j.1 h.1) fun m=>letI n:=j.2.2.2.1;cond m (some (.inr (.inl c))) (lets (af .neq n 2) fun o=>letI p:=(aa .add .i64 b.1 1,d,());letI q:=af .eql n 2;cond o (lets (af .neq n 3) fun r=>cond r (some (.inr (.inl c))) (lets q fun s=>cond s (cond g (cond h.2.2 (some (.inr (.inl c))) (some (.inl p))) none) (some (.inl p)))) (lets q fun r=>cond r (cond g (cond h.2.2 (some (.inr (.inl c))) (some (.inl p))) none) (some (.inl p))))) none)) none))) none) (some (.inr (.inr (.inl (b.1,())))))
noncomputable def tt k x:=iter (sS k) big x
noncomputable def sL(a:RW)(b:M9):Qy:=letI c:=b.2.1;letI d:=a.2.2.2;letI e:=d.2.2.2;letI f:=e.2.2.2.2.2;letI g:=f.2.2.2.2.1;letI h:=(ae aS f.1 g).2.2.1;cond (ah f.1 g) (cond (af .lss c (ai h)) (cond (ah f.1 g) (cond (ah h c) ((tt (a.1,a.2.1,a.2.2.1,d.1,d.2.1,d.2.2.1,e.1,e.2.1,e.2.2.1,e.2.2.2.1,e.2.2.2.2.1,f.1,f.2.1,f.2.2.1,f.2.2.2.1,g,c,(ae bn h c).2.2,()) (b.1,0,())).bind fun i=>Sum.elim (fun j=>some (.inr (.inl (j.1,())))) (fun j=>Sum.elim (fun k=>some (.inl (k.1,aa .add .i64 c 1,()))) (fun k=>Empty.elim k) j) i) none) none) (some (.inr (.inr (.inl (b.1,())))))) none
noncomputable def s4 k x:=iter (sL k) big x
noncomputable def r7(a:QV)(b:M9):Qy:=letI c:=a.2.2.2.2;letI d:=c.2.2.2.2;letI e:=d.2.2.2;cond (af .lss b.2.1 (ai e.1)) ((s4 (a.1,a.2.1,a.2.2.1,a.2.2.2.1,c.1,c.2.1,c.2.2.1,c.2.2.2.1,d.1,d.2.1,d.2.2.1,e.1,e.2.1,e.2.2.1,e.2.2.2.1,b.2.1,()) (b.1,0,())).bind fun f=>Sum.elim (fun g=>some (.inr (.inl (g.1,())))) (fun g=>Sum.elim (fun h=>some (.inl (h.1,aa .add .i64 b.2.1 1,()))) (fun h=>Empty.elim h) g) f) (some (.inr (.inr (.inl (b.1,())))))
noncomputable def Kp k x:=iter (r7 k) big x
noncomputable def s3(a:QV)(b:M9):RP:=letI c:=b.2.1;letI d:=aa .add .i64 c 1;letI e:=a.2.2.2.2.2.2.2.2.2.2.2.2.1;letI f:=(aa .sub .i64 b.1 1,d,());letI g:=(ae bg e c).2.2.2.1;cond (af .lss c (ai e)) (cond (ah e c) (cond (af .eql g 2) (some (.inl f)) (cond (ah e c) (cond (af .eql g 3) (some (.inl f)) (some (.inl (b.1,d,())))) none)) none) (some (.inr (.inl (b.1,()))))
noncomputable def Kq k x:=iter (s3 k) big x
noncomputable def r6(a b c d e f g h i j k:Int)(l:LJ)(m:Ll)(n:Lm)(o:Kr):nw:=letI p:=(a,b,c,d,e,f,g,h,i,j,k,l,m,n,o,());(Kp p (0,0,())).bind fun q=>Sum.elim (fun r=>some (r.1,())) (fun r=>Sum.elim (fun s=>(Kq p (s.1,0,())).bind fun t=>Sum.elim (fun u=>some (af .eql u.1 0,())) (fun u=>Empty.elim u) t) (fun s=>Empty.elim s) r) q
noncomputable def JC(a:QV)(b:M9):RP:=letI c:=b.2.1;letI d:=a.2.2.2.2.2;letI e:=aa .add .i64 c 1;letI f:=d.2.2.2.2.2;letI g:=f.2.2.1;cond (af .lss c (ai g)) (cond (ah g c) (cond (af .neq (ae bg g c).2.2.2.1 0) ((jn a.1 a.2.1 a.2.2.1 a.2.2.2.1 a.2.2.2.2.1 d.1 d.2.1 d.2.2.1 d.2.2.2.1 d.2.2.2.2.1 f.1 f.2.1 g f.2.2.2.1 f.2.2.2.2.1 c).bind fun h=>cond h.1 (cond (ah g c) (some (.inl (aa .add .i64 b.1 (ae bg g c).1,e,()))) none) (some (.inl (b.1,e,())))) (some (.inl (b.1,e,())))) none) (some (.inr (.inl (b.1,()))))
noncomputable def LO k x:=iter (JC k) big x
noncomputable def JU(a b c d e f g h i j k:Int)(l:LJ)(m:Ll)(n:Lm)(o:Kr):Nn:=(LO (a,b,c,d,e,f,g,h,i,j,k,l,m,n,o,()) (0,0,())).bind fun p=>Sum.elim (fun q=>some (q.1,())) (fun q=>Empty.elim q) p
noncomputable def FI(a:QV)(b:n3):NA:=letI c:=a.2.2.2.2;letI d:=c.2.2.2.2;letI e:=d.2.2.2;cond (af .lss b.1 (ai e.1)) ((ID a.1 a.2.1 a.2.2.1 a.2.2.2.1 c.1 c.2.1 c.2.2.1 c.2.2.2.1 d.1 d.2.1 d.2.2.1 e.1 e.2.1 e.2.2.1 e.2.2.2.1 b.1).bind fun f=>cond (Bool.not f.1) (some (.inr (.inl (false,())))) (some (.inl (aa .add .i64 b.1 1,())))) (some (.inr (.inr (.inl ()))))
noncomputable def K1 k x:=iter (FI k) big x
noncomputable def IA(a:QV)(b:n3):NA:=letI c:=a.2.2.2.2;letI d:=c.2.2.2.2;letI e:=d.2.2.2.2;cond (af .lss b.1 (ai e.1)) ((nn a.1 a.2.1 a.2.2.1 a.2.2.2.1 c.1 c.2.1 c.2.2.1 c.2.2.2.1 d.1 d.2.1 d.2.2.1 d.2.2.2.1 e.1 e.2.1 e.2.2.1 b.1).bind fun f=>cond (Bool.not f.1) (some (.inr (.inl (false,())))) (some (.inl (aa .add .i64 b.1 1,())))) (some (.inr (.inr (.inl ()))))
noncomputable def K2 k x:=iter (IA k) big x
noncomputable def Ex(a b c d e f g h i j k:Int)(l:LJ)(m:Ll)(n:Lm)(o:Kr):nw:=(JR a b c d e f g h).bind fun p=>letI q:=some (false,());cond (Bool.not p.1) q ((bt i 0 1000).bind fun r=>cond (Bool.not r.1) q ((hM j).bind fun s=>cond (Bool.not s.1) q ((bt k 0 20000).bind fun t=>cond (Bool.not t.1) q ((bt (ai l) 1 3).bind fun u=>cond (Bool.not u.1) q (cond (af .gtr (ai m) 12) q ((Ja n).bind fun v=>cond (Bool.not v.1) q ((jj o).bind fun w=>letI x:=(a,b,c,d,e,f,g,h,i,j,k,l,m,n,o,());cond (Bool.not w.1) q ((K1 x (0,())).bind fun y=>Sum.elim (fun z=>some (z.1,())) (fun z=>Sum.elim (fun _=>(K2 x (0,())).bind fun A=>Sum.elim (fun B=>some (B.1,())) (fun B=>Sum.elim (fun _=>(r6 a b c d e f g h i j k l m n o).bind fun C=>cond C.1 ((JU a b c d e f g h i j k l m n o).bind fun D=>some (af .leq D.1 i,())) q) (fun C=>Empty.elim C) B) A) (fun A=>Empty.elim A) z) y))))))))
noncomputable def gb(a:Int):nw:=(br a 1 40).bind fun b=>some (b.1,())
noncomputable def l5(a b c d e f:Int)(g:Bool):nw:=(gb a).bind fun h=>letI i:=some (false,());cond h.1 ((gb b).bind fun j=>cond j.1 (cond (af .neq a b) ((br c 0 999).bind fun k=>cond k.1 ((br d 0 5).bind fun l=>cond l.1 ((ia e).bind fun m=>cond m.1 ((ia f).bind fun n=>cond n.1 (some (af .lss e f,())) i) i) i) i) i) i) i
noncomputable def Jk(a b c d e f:Int)(g:Bool):nw:=(l5 a b c d e f g).bind fun h=>some (Bool.not h.1,())
noncomputable def b7(a:Lm×n3)(b:n3):RN:=letI c:=ae rm a.1 b.1;letI d:=c.2.2.2;cond (af .lss b.1 a.2.1) (cond (ah a.1 b.1) ((Jk c.1 c.2.1 c.2.2.1 d.1 d.2.1 d.2.2.1 d.2.2.2).bind fun e=>cond e.1 (some (.inr (.inl (b.1,())))) (some (.inl (aa .add .i64 b.1 1,())))) none) (some (.inr (.inr (.inl ()))))
noncomputable def cv k x:=iter (b7 k) big x
noncomputable def cy(a:Lm):Nn:=(cv (a,ai a,()) (0,())).bind fun b=>Sum.elim (fun c=>some (c.1,())) (fun c=>Sum.elim (fun _=>some (-1,())) (fun d=>Empty.elim d) c) b
noncomputable def cn(a:Lm):nw:=(cy a).bind fun b=>some (af .geq b.1 0,())
noncomputable def I2(a:Lm):nw:=cond (af .leq (ai a) 30) ((cn a).bind fun b=>some (Bool.not b.1,())) (some (false,()))
noncomputable def IE(a:Int×LK×M8×LK×n3)(b:n3):NA:=letI c:=ae zI a.2.2.2.1 b.1;cond (af .lss b.1 a.2.2.2.2.1) (cond (ah a.2.2.2.1 b.1) ((br c 1 (aa .sub .i64 a.1 1)).bind fun d=>letI e:=aa .sub .i64 b.1 1;letI f:=(aa .add .i64 b.1 1,());cond (Bool.not d.1) (some (.inr (.inl (false,())))) (cond (af .gtr b.1 0) (cond (ah a.2.1 e) (cond (af .leq c (ae zI a.2.1 e)) (some (.inr (.inl (false,())))) (some (.inl f))) none) (some (.inl f)))) none) (some (.inr (.inr (.inl ()))))
noncomputable def IG k x:=iter (IE k) big x
noncomputable def lm(a:Int×LK×M8×QY)(b:Int×Qq×QA):Option (Int×Qq×QA⊕PF⊕Int×Qq×Unit⊕Empty):=letI c:=(false,());letI d:=b.2.2.2.1;letI e:=ae fe a.2.2.2.1 d;cond (af .lss d a.2.2.2.2.1) (cond (ah a.2.2.2.1 d) (cond (af .neq e.1 b.1) (some (.inr (.inl c))) ((br e.2.1 1 (aa .sub .i64 a.1 b.1)).bind fun f=>letI g:=e.2.2.1;cond (Bool.not f.1) (some (.inr (.inl c))) ((br g 0 999).bind fun h=>letI i:=(aa .add .i64 b.1 e.2.1,eW b.2.1 e.1 true,eW b.2.2.1 g true,aa .add .i64 d 1,());cond (Bool.not h.1) (some (.inr (.inl c))) (cond (af .gtr g 0) (cond (cw b.2.2.1 g) (some (.inr (.inl c))) (some (.inl i))) (some (.inl i)))))) none) (some (.inr (.inr (.inl (b.1,b.2.1,())))))
noncomputable def II k x:=iter (lm k) big x
noncomputable def IF(a:Int×LK×M8×Int×LK×n3)(b:QA):Ue:=letI c:=a.2.2.2.2;cond (af .lss b.2.1 c.2.1) (cond (ah c.1 b.2.1) (cond (Bool.not (cw b.1 (ae zI c.1 b.2.1))) (some (.inr (.inl (false,())))) (some (.inl (b.1,aa .add .i64 b.2.1 1,())))) none) (some (.inr (.inr (.inl ()))))
noncomputable def IJ k x:=iter (IF k) big x
noncomputable def n4(a:Int)(b:LK)(c:M8):nw:=(br a 1 24).bind fun d=>letI e:=some (false,());cond (Bool.not d.1) e (cond (af .eql (ai c) 0) e ((IG (a,b,c,b,ai b,()) (0,())).bind fun f=>Sum.elim (fun g=>some (g.1,())) (fun g=>Sum.elim (fun _=>(II (a,b,c,c,ai c,()) (0,([]:Qq),([]:Qq),0,())).bind fun h=>Sum.elim (fun i=>some (i.1,())) (fun i=>Sum.elim (fun j=>(IJ (a,b,c,j.1,b,ai b,()) (j.2.1,0,())).bind fun k=>Sum.elim (fun l=>some (l.1,())) (fun l=>Sum.elim (fun _=>some (af .eql j.1 a,())) (fun m=>Empty.elim m) l) k) (fun j=>Empty.elim j) i) h) (fun h=>Empty.elim h) g) f))
noncomputable def vb(a:Nj×Int×Int×QY)(b:QA):Option (QA⊕PF⊕Qq×Unit⊕Empty):=letI c:=(ae fe a.2.2.2.1 b.2.1).2.2.1;letI d:=(eW b.1 c true,aa .add .i64 b.2.1 1,());cond (af .lss b.2.1 a.2.2.2.2.1) (cond (ah a.2.2.2.1 b.2.1) (cond (af .gtr c 0) (cond (cw b.1 c) (some (.inr (.inl (false,())))) (some (.inl d))) (some (.inl d))) none) (some (.inr (.inr (.inl (b.1,())))))
noncomputable def Kb k x:=iter (vb k) big x
noncomputable def J9(a:QZ)(b:QA):Ue:=letI c:=b.2.1;letI d:=ae bn a.1 c;cond (af .lss c a.2.1) (cond (ah a.1 c) ((n4 d.1 d.2.1 d.2.2).bind fun e=>cond (Bool.not e.1) (some (.inr (.inl (false,())))) ((Kb (a.1,a.2.1,c,d.2.2,ai d.2.2,()) (b.1,0,())).bind fun f=>Sum.elim (fun g=>some (.inr (.inl (g.1,())))) (fun g=>Sum.elim (fun h=>some (.inl (h.1,aa .add .i64 c 1,()))) (fun h=>Empty.elim h) g) f)) none) (some (.inr (.inr (.inl ()))))
noncomputable def Ka k x:=iter (J9 k) big x
noncomputable def k4(a:Nj):nw:=(br (ai a) 1 6).bind fun b=>cond (Bool.not b.1) (some (false,())) ((Ka (a,ai a,()) (([]:Qq),0,())).bind fun c=>Sum.elim (fun d=>some (d.1,())) (fun d=>Sum.elim (fun _=>some (true,())) (fun e=>Empty.elim e) d) c)
noncomputable def Nc(a b:Int)(c d e:Bool):nw:=some (bT e (af .eql a 1),())
noncomputable def k5(a b:Int)(c d e:Bool):nw:=(br a 0 2).bind fun f=>letI g:=some (false,());cond (Bool.not f.1) g ((br b 0 6).bind fun h=>letI i:=some (Bool.not c,());letI j:=Nc a b c d e;letI k:=cond c (some (Bool.not d,())) g;letI l:=cond (af .eql a 0) (cond (af .eql b 0) i g) (cond (af .eql b 1) (j.bind fun l=>cond (Bool.not l.1) i g) (cond (af .eql b 2) (j.bind fun l=>cond (Bool.not l.1) k g) (cond (af .eql b 3) (j.bind fun l=>cond (Bool.not l.1) (some (d,())) g) (cond (af .eql b 4) (j.bind fun l=>cond l.1 (some (d,())) g) (cond (af .eql b 5) k (cond (af .eql b 6) i (some (true,()))))))));cond (Bool.not h.1) g (cond d (cond (Bool.not c) g l) l))
noncomputable def KL(a b c d e f g h i j k:Int)(l:LJ)(m:Ll)(n:Lm)(o:Kr)(p:Int):nw:=letI q:=ae aS l p;cond (ah l p) ((Jd q.1 q.2.1).bind fun r=>letI s:=some (false,());cond (Bool.not r.1) s ((k4 q.2.2.1).bind fun t=>letI u:=q.2.2.2;letI v:=u.2.2.2;cond (Bool.not t.1) s ((k5 u.1 u.2.1 u.2.2.1 v.1 v.2.1).bind fun w=>letI x:=v.2.2;cond (Bool.not w.1) s ((iL x.2.2).bind fun y=>letI z:=af .eql u.1 0;letI A:=af .eql x.2.1 0;cond (Bool.not y.1) s (cond (af .eql x.1 0) (lets (Bool.and z (Bool.and (af .eql u.2.1 0) (Bool.and (bT u.2.2.1 false) (Bool.and (bT v.1 false) (Bool.and (bT v.2.1 false) true))))) fun B=>cond B (some (A,())) s) ((br x.1 1 (ai m)).bind fun B=>letI C:=aa .sub .i64 x.1 1;letI D:=(ae bg m C).2.2;cond (Bool.not B.1) s (cond (ah m C) (cond (af .neq D.1 p) s (cond (af .neq D.2.1 2) s (cond z s (cond A (some (true,())) (cond (af .eql u.1 2) ((gb x.2.1).bind fun E=>some (E.1,())) s))))) none))))))) none
noncomputable def kn(a b c d e f g h i j k:Int)(l:LJ)(m:Ll)(n:Lm)(o:Kr)(p q r s t u v w x y z A B:Int):nw:=letI C:=some (true,());cond (af .eql s 0) C (cond (af .eql s 1) C (cond (af .eql s 2) (cond (ah l r) (some (af .eql (ae aS l r).2.2.2.1 1,())) none) (some (false,()))))
noncomputable def KH(a b c d e:Int):nw:=(ik a).bind fun f=>letI g:=some (false,());cond f.1 ((br b 0 1000001).bind fun h=>cond h.1 ((br c 0 2).bind fun i=>cond i.1 ((br d 0 6).bind fun j=>cond j.1 ((br e 0 20064).bind fun k=>some (k.1,())) g) g) g) g
noncomputable def I4(a b c d e f g h i j k:Int)(l:LJ)(m:Ll)(n:Lm)(o:Kr)(p:Int):nw:=letI q:=ae bg m p;cond (ah m p) ((br q.1 1 24).bind fun r=>letI s:=some (false,());cond (Bool.not r.1) s ((gb q.2.1).bind fun t=>letI u:=(0:Int);letI v:=q.2.2.1;cond (Bool.not t.1) s ((br v u (aa .sub .i64 (ai l) 1)).bind fun w=>letI x:=q.2.2.2;cond (Bool.not w.1) s ((br x.1 u 5).bind fun y=>letI z:=aa .add .i64 p 1;letI A:=x.2.2.2;letI B:=A.2.2;letI C:=B.2.2.2;letI D:=(kn a b c d e f g h i j k l m n o q.1 q.2.1 v x.1 x.2.1 x.2.2.1 A.1 A.2.1 B.1 B.2.1 B.2.2.1 C.1 C.2).bind fun D=>letI E:=af .eql C.1 u;letI F:=af .eql C.2 u;cond D.1 (cond (af .eql x.2.1 u) (cond (af .eql x.2.2.1 u) (cond E (cond F (lets (Bool.and (af .eql A.1 u) (Bool.and (af .eql A.2.1 u) (Bool.and (af .eql B.1 u) (Bool.and (af .eql B.2.1 u) (Bool.and (af .eql B.2.2.1 u) true))))) fun G=>some (G,())) s) s) s) s) ((br x.2.1 u k).bind fun G=>cond (Bool.not G.1) s ((br x.2.2.1 u h).bind fun H=>cond (Bool.not H.1) s ((KH A.1 A.2.1 B.1 B.2.1 B.2.2.1).bind fun I=>cond (Bool.not I.1) s ((n5 a b c d e f g h i j k l m n o z).bind fun J=>cond (af .neq A.1 J.1) s (cond (af .eql x.1 4) ((gb C.1).bind fun K=>cond K.1 ((br C.2 u (aa .add .i64 e (aa .mul .i64 g h))).bind fun L=>some (L.1,())) s) (cond E (some (F,())) s))))));cond (Bool.not y.1) s (cond (af .eql x.1 2) (cond (ah l v) (cond (af .neq (ae aS l v).2.2.2.2.2.2.2.2.1 z) s D) none) D))))) none
noncomputable def Jp(a:Int×Int×Int×Int×Int×Int×Int×Int×Int×Int×Int×LJ×Ll×Lm×Kr×Int×LJ×Int×Int×Nj×Int×Int×QY)(b:M9):Qy:=letI c:=aa .add .i64 b.2.1 1;letI d:=a.2.2.2.2.2.2.2.2.2.2.2.2;letI e:=d.2.2.2.2.2.2.2.2.2.2;letI f:=(ae fe e.1 b.2.1).2;cond (af .lss b.2.1 e.2.1) (cond (ah e.1 b.2.1) (cond (af .eql f.2.1 0) (some (.inl (b.1,c,()))) ((br f.2.1 1 (ai d.1)).bind fun g=>letI h:=(false,());letI i:=aa .sub .i64 f.2.1 1;letI j:=ae bg d.1 i;letI k:=j.2.2.2;cond (Bool.not g.1) (some (.inr (.inl h))) (cond (ah d.1 i) (lets k.2.1 fun _=>lets k.2.2.1 fun _=>letI l:=k.2.2.2;lets l.1 fun _=>lets l.2.1 fun _=>lets l.2.2.1 fun _=>letI m:=l.2.2.2;lets m.1 fun _=>lets m.2.1 fun _=>lets m.2.2.1 fun _=>lets m.2.2.2 fun _=>lets (af .neq k.1 2) fun n=>letI o:=(aa .add .i64 b.1 1,c,());letI p:=af .eql k.1 2;letI q:=af .neq j.2.2.1 d.2.2.2.1;letI r:=af .neq j.1 f.1;cond n (lets (af .neq k.1 3) fun s=>cond s (some (.inr (.inl h))) (lets q fun t=>cond t (some (.inr (.inl h))) (lets r fun u=>cond u (some (.inr (.inl h))) (lets p fun v=>cond v (cond f.2.2 (some (.inr (.inl h))) (some (.inl o))) (some (.inl o)))))) (lets q fun s=>cond s (some (.inr (.inl h))) (lets r fun t=>cond t (some (.inr (.inl h))) (lets p fun u=>cond u (cond f.2.2 (some (.inr (.inl h))) (some (.inl o))) (some (.inl o)))))) none))) none) (some (.inr (.inr (.inl (b.1,())))))
noncomputable def Js k x:=iter (Jp k) big x
noncomputable def Jo(a:Int×Int×Int×Int×Int×Int×Int×Int×Int×Int×Int×LJ×Ll×Lm×Kr×Int×LJ×Int×Int×QZ)(b:M9):Qy:=letI c:=b.2.1;letI d:=a.2.2.2;letI e:=d.2.2.2;letI f:=e.2.2.2;letI g:=f.2.2.2;letI h:=g.2.2.2;letI i:=h.2.2.2;letI j:=(ae bn i.2.1 c).2.2;cond (af .lss c i.2.2.1) (cond (ah i.2.1 c) ((Js (a.1,a.2.1,a.2.2.1,d.1,d.2.1,d.2.2.1,e.1,e.2.1,e.2.2.1,f.1,f.2.1,f.2.2.1,g.1,g.2.1,g.2.2.1,h.1,h.2.1,h.2.2.1,i.1,i.2.1,i.2.2.1,c,j,ai j,()) (b.1,0,())).bind fun k=>Sum.elim (fun l=>some (.inr (.inl (l.1,())))) (fun l=>Sum.elim (fun m=>some (.inl (m.1,aa .add .i64 c 1,()))) (fun m=>Empty.elim m) l) k) none) (some (.inr (.inr (.inl (b.1,())))))
noncomputable def Jr k x:=iter (Jo k) big x
noncomputable def Jn(a:Int×Int×Int×Int×Int×Int×Int×Int×Int×Int×Int×LJ×Ll×Lm×Kr×LJ×n3)(b:M9):Qy:=letI c:=b.2.1;letI d:=a.2.2.2.2.2;letI e:=d.2.2.2.2.2;letI f:=e.2.2.2.2.2;letI g:=(ae aS f.1 c).2.2.1;cond (af .lss c f.2.1) (cond (ah f.1 c) ((Jr (a.1,a.2.1,a.2.2.1,a.2.2.2.1,a.2.2.2.2.1,d.1,d.2.1,d.2.2.1,d.2.2.2.1,d.2.2.2.2.1,e.1,e.2.1,e.2.2.1,e.2.2.2.1,e.2.2.2.2.1,c,f.1,f.2.1,c,g,ai g,()) (b.1,0,())).bind fun h=>Sum.elim (fun i=>some (.inr (.inl (i.1,())))) (fun i=>Sum.elim (fun j=>some (.inl (j.1,aa .add .i64 c 1,()))) (fun j=>Empty.elim j) i) h) none) (some (.inr (.inr (.inl (b.1,())))))
noncomputable def LM k x:=iter (Jn k) big x
noncomputable def Jq(a:Ll×n3)(b:M9):RP:=letI c:=aa .add .i64 b.2.1 1;letI d:=(ae bg a.1 b.2.1).2.2.2.1;letI e:=(aa .sub .i64 b.1 1,c,());cond (af .lss b.2.1 a.2.1) (cond (ah a.1 b.2.1) (cond (af .eql d 2) (some (.inl e)) (cond (af .eql d 3) (some (.inl e)) (some (.inl (b.1,c,()))))) none) (some (.inr (.inl (b.1,()))))
noncomputable def LN k x:=iter (Jq k) big x
noncomputable def JK(a b c d e f g h i j k:Int)(l:LJ)(m:Ll)(n:Lm)(o:Kr):nw:=(LM (a,b,c,d,e,f,g,h,i,j,k,l,m,n,o,l,ai l,()) (0,0,())).bind fun p=>Sum.elim (fun q=>some (q.1,())) (fun q=>Sum.elim (fun r=>(LN (m,ai m,()) (r.1,0,())).bind fun s=>Sum.elim (fun t=>some (af .eql t.1 0,())) (fun t=>Empty.elim t) s) (fun r=>Empty.elim r) q) p
noncomputable def Kd(a:Int×Int×Int×Int×Int×Int×Int×Int×Int×Int×Int×LJ×Ll×Lm×Kr×Ll×n3)(b:M9):RP:=letI c:=a.2.2.2.2.2;letI d:=aa .add .i64 b.2.1 1;letI e:=c.2.2.2.2;letI f:=e.2.2.2.2;letI g:=ae bg f.2.2.1 b.2.1;letI h:=g.2.2.2;letI i:=h.2.2.2;letI j:=i.2.2.2;cond (af .lss b.2.1 f.2.2.2.1) (cond (ah f.2.2.1 b.2.1) (cond (af .neq h.1 0) ((kn a.1 a.2.1 a.2.2.1 a.2.2.2.1 a.2.2.2.2.1 c.1 c.2.1 c.2.2.1 c.2.2.2.1 e.1 e.2.1 e.2.2.1 e.2.2.2.1 f.1 f.2.1 g.1 g.2.1 g.2.2.1 h.1 h.2.1 h.2.2.1 i.1 i.2.1 i.2.2.1 j.1 j.2.1 j.2.2.1 j.2.2.2).bind fun k=>cond k.1 (some (.inl (aa .add .i64 b.1 g.1,d,()))) (some (.inl (b.1,d,())))) (some (.inl (b.1,d,())))) none) (some (.inr (.inl (b.1,()))))
noncomputable def LR k x:=iter (Kd k) big x
noncomputable def KK(a b c d e f g h i j k:Int)(l:LJ)(m:Ll)(n:Lm)(o:Kr):Nn:=(LR (a,b,c,d,e,f,g,h,i,j,k,l,m,n,o,m,ai m,()) (0,0,())).bind fun p=>Sum.elim (fun q=>some (q.1,())) (fun q=>Empty.elim q) p
noncomputable def vp(a:RW)(b:n3):NA:=letI c:=a.2.2.2.2;letI d:=c.2.2.2.2;letI e:=d.2.2.2.2;cond (af .lss b.1 e.2.2.2.1) ((KL a.1 a.2.1 a.2.2.1 a.2.2.2.1 c.1 c.2.1 c.2.2.1 c.2.2.2.1 d.1 d.2.1 d.2.2.1 d.2.2.2.1 e.1 e.2.1 e.2.2.1 b.1).bind fun f=>cond (Bool.not f.1) (some (.inr (.inl (false,())))) (some (.inl (aa .add .i64 b.1 1,())))) (some (.inr (.inr (.inl ()))))
noncomputable def KI k x:=iter (vp k) big x
noncomputable def vv(a:RW)(b:n3):NA:=letI c:=a.2.2.2.2;letI d:=c.2.2.2.2;letI e:=d.2.2.2.2;cond (af .lss b.1 e.2.2.2.1) ((I4 a.1 a.2.1 a.2.2.1 a.2.2.2.1 c.1 c.2.1 c.2.2.1 c.2.2.2.1 d.1 d.2.1 d.2.2.1 d.2.2.2.1 e.1 e.2.1 e.2.2.1 b.1).bind fun f=>cond (Bool.not f.1) (some (.inr (.inl (false,())))) (some (.inl (aa .add .i64 b.1 1,())))) (some (.inr (.inr (.inl ()))))
noncomputable def KJ k x:=iter (vv k) big x
noncomputable def vn(a b c d e f g h i j k:Int)(l:LJ)(m:Ll)(n:Lm)(o:Kr):nw:=(JI a b c d e f g h).bind fun p=>letI q:=some (false,());cond (Bool.not p.1) q ((br i 0 1000).bind fun r=>cond (Bool.not r.1) q ((ik j).bind fun s=>cond (Bool.not s.1) q ((ia k).bind fun t=>cond (Bool.not t.1) q ((br (ai l) 1 3).bind fun u=>cond (Bool.not u.1) q (cond (af .gtr (ai m) 12) q ((I2 n).bind fun v=>cond (Bool.not v.1) q ((iL o).bind fun w=>cond (Bool.not w.1) q ((KI (a,b,c,d,e,f,g,h,i,j,k,l,m,n,o,ai l,()) (0,())).bind fun x=>Sum.elim (fun y=>some (y.1,())) (fun y=>Sum.elim (fun _=>(KJ (a,b,c,d,e,f,g,h,i,j,k,l,m,n,o,ai m,()) (0,())).bind fun z=>Sum.elim (fun A=>some (A.1,())) (fun A=>Sum.elim (fun _=>(JK a b c d e f g h i j k l m n o).bind fun B=>cond B.1 ((KK a b c d e f g h i j k l m n o).bind fun C=>some (af .leq C.1 i,())) q) (fun B=>Empty.elim B) A) z) (fun z=>Empty.elim z) y) x))))))))
end Go.Fn
set_option linter.unusedVariables false
set_option linter.unusedSimpArgs false
namespace Go.Fn
open Go.R
theorem PT(m:List (Int×Bool))(k k':Int)(v:Bool):cw (eW m k v) k'=bif k'==k then v else cw m k':=by
 induction m with
 |nil=>simp only[eW,cw]
 |cons y r ih=>
  unfold eW;cases hb:k==y.1 with
  |true=>
   have hk:k=y.1:=by simpa using hb
   subst hk;simp only[cond_true,cw];cases k'==y.1 <;> rfl
  |false=>
   simp only[cond_false,cw,ih];cases h1:k'==y.1 with
   |false=>rfl
   |true=>
    have:k'=y.1:=by simpa using h1
    subst this;have:(y.1==k)=false:=by rw[Bool.eq_false_iff]at hb⊢;intro e;exact hb (by simpa using (beq_iff_eq.1 e).symm)
    rw[this];rfl
noncomputable def c6(m:List (Int×Bool))(l:List Int):List (Int×Bool):=l.foldl (fun m k=>eW m k true) m
theorem Jg(k:Int):∀(l:List Int) (m:List (Int×Bool)),cw (c6 m l) k=true↔cw m k=true\/k∈l
 | [],m=>by simp[c6]
 |x::l,m=>by
  have:=Jg k l (eW m x true);unfold c6 at this⊢;rw[List.foldl_cons,this,PT];cases hb:k==x with
  |true=>simp[beq_iff_eq.1 hb]
  |false=>
   have:k≠x:=by rintro rfl;simp at hb
   simp[this]
theorem LZ(m:List (Int×Bool))(l:List Int)(x:Int):c6 m (l++[x])=eW (c6 m l) x true:=by unfold c6;rw[List.foldl_append];rfl
theorem JV{α:Type}{l:List α}{n:Nat}(h:n<l.length)(z:α):l.take (n+1)=l.take n++[l.getD n z]:=by rw[List.take_add_one,List.getElem?_eq_getElem h,List.getD_eq_getElem?_getD,List.getElem?_eq_getElem h];rfl
theorem MR{α:Type}{l:List α}{n:Nat}{x z:α}(hn:n<=l.length):x∈l.take n↔∃k,k<n/\l.getD k z=x:=by
 constructor
 ·intro h;obtain⟨k,hk,e⟩:=List.mem_iff_getElem.1 h;rw[List.length_take]at hk;rw[List.getElem_take]at e;exact⟨k,by omega,by rw[List.getD_eq_getElem?_getD,List.getElem?_eq_getElem (by omega)];exact e⟩
 ·rintro⟨k,hk,e⟩;rw[List.getD_eq_getElem?_getD,List.getElem?_eq_getElem (show k<l.length by omega)]at e;rw[<-e];have:(l.take n)[k]? = some l[k]:=by rw[List.getElem?_take_of_lt hk,List.getElem?_eq_getElem (by omega)]
  exact List.mem_of_getElem? this
noncomputable def ej(l:List Bx)(n:Nat):Bx:=l.getD n fe
noncomputable def hU(l:List Bx)(n:Nat):Int:=(l.take n).foldl (fun a b=>aa .add .i64 a b.2.1) 0
theorem IR(l:List Bx){n:Nat}(h:n<l.length):hU l (n+1)=aa .add .i64 (hU l n) (ej l n).2.1:=by unfold hU ej;rw[JV h fe,List.foldl_append];rfl
noncomputable def Na(l:List Bx)(n k:Nat):Bool:=Bool.not (af .gtr (ej l n).2.2.1 0&&af .eql (ej l k).2.2.1 (ej l n).2.2.1)
noncomputable def OP(l:List Bx)(n:Nat):Bool:=Bool.not (af .neq (ej l n).1 (hU l n))&&ko (ej l n).2.1 1 24&&ko (ej l n).2.2.1 0 999&&aB (Na l n) 0 n&&Bool.not (af .gtr (hU l (n+1)) 24)
theorem N0(h:Int)(f:List Int)(l:List Bx)(hl:l.length<=1073741824):Jb h f l=some (aB (OP l) 0 l.length&&(af .gtr (ai l) 0&&af .eql (hU l l.length) h),()):=by
 unfold Jb;have:I1 (h,f,l,()) (0,0,())=some (bif aB (OP l) 0 l.length then(Sum.inr (Sum.inl (hU l l.length,())):Bool×Unit⊕(Int×Unit⊕Empty))else .inl (false,())):=by
  refine bq (fun n=>(hU l n,(n:Int),())) l.length (by omega) (OP l) _ _ (fun n hn=>?_) ?_
  ·have hin:nl (h,f,l,hU l n,(n:Int),()) ((ej l n).1,(ej l n).2.1,(ej l n).2.2.1,(ej l n).2.2.2,0,())=some (bif aB (Na l n) 0 n then(Sum.inr (Sum.inl ((ej l n).1,(ej l n).2.1,(ej l n).2.2.1,(ej l n).2.2.2,())):Bool×Unit⊕(Int×Int×Int×Bool×Unit⊕Empty))else .inl (false,())):=by
    refine bq (fun k=>((ej l n).1,(ej l n).2.1,(ej l n).2.2.1,(ej l n).2.2.2,(k:Int),())) n (by omega) (Na l n) _ _ (fun k hk=>?_) ?_
    ·unfold I0 Na;have cM:k<l.length:=by omega
     simp only[eM,hk,decide_true,cond_true,ax,cM,ak,au (n:=k) (by omega)];show(bif af .gtr (ej l n).2.2.1 0 then(bif af .eql (ej l k).2.2.1 (ej l n).2.2.1 then _ else _)else _)=_;cases af .gtr (ej l n).2.2.1 0 <;> cases af .eql (ej l k).2.2.1 (ej l n).2.2.1 <;> rfl
    ·unfold I0;simp only[eM,Nat.lt_irrefl,decide_false,cond_false]
   unfold IZ OP;simp only[aj,hn,decide_true,cond_true,ax,ak,Je,Option.bind_some,au (n:=n) (by omega),IR l hn];show(bif af .neq (ej l n).1 (hU l n)then _ else bif Bool.not (ko (ej l n).2.1 1 24)then _ else bif Bool.not (ko (ej l n).2.2.1 0 999)then _ else(nl (h,f,l,hU l n,(n:Int),()) ((ej l n).1,(ej l n).2.1,(ej l n).2.2.1,(ej l n).2.2.2,0,())).bind _)=_;rw[hin];cases af .neq (ej l n).1 (hU l n)with
   |true=>rfl
   |false=>
    cases ko (ej l n).2.1 1 24 with
    |false=>rfl
    |true=>
     cases ko (ej l n).2.2.1 0 999 with
     |false=>rfl
     |true=>
      cases aB (Na l n) 0 n with
      |false=>rfl
      |true=>simp only[Bool.not_true,cond_false,cond_true,Option.bind_some,Sum.elim_inr,Sum.elim_inl,Bool.not_false,Bool.true_and];cases af .gtr (aa .add .i64 (hU l n) (ej l n).2.1) 24 <;> rfl
  ·unfold IZ;simp only[aj,Nat.lt_irrefl,decide_false,cond_false]
 rw[this];cases aB (OP l) 0 l.length with
 |false=>rfl
 |true=>simp only[cond_true,Option.bind_some,Sum.elim_inr,Sum.elim_inl,Bool.true_and];cases af .gtr (ai l) 0 <;> rfl
noncomputable def Mz(l:List Bx):List Int:=l.map (·.1)
noncomputable def IQ(l:List Bx):List Int:=l.map (·.2.2.1)
noncomputable def Qg(h:Int)(l:List Bx)(n:Nat):Bool:=Bool.not (af .neq (ej l n).1 (hU l n))&&ko (ej l n).2.1 1 (aa .sub .i64 h (hU l n))&&ko (ej l n).2.2.1 0 999&&Bool.not (af .gtr (ej l n).2.2.1 0&&cw (c6 [] (IQ (l.take n))) (ej l n).2.2.1)
theorem NV(h:Int)(f:List Int)(l:List Bx)(hl:l.length<=1073741824):II (h,f,l,l,ai l,()) (0,[],[],0,())=some (bif aB (Qg h l) 0 l.length then(Sum.inr (Sum.inl (hU l l.length,c6 [] (Mz l),())):Bool×Unit⊕(Int×(List (Int×Bool))×Unit⊕Empty))else .inl (false,())):=by
 have:=bq (body:=lm (h,f,l,l,ai l,())) (fun n=>(hU l n,c6 [] (Mz (l.take n)),c6 [] (IQ (l.take n)),(n:Int),())) l.length (by omega) (Qg h l) (.inr (.inl (hU l l.length,c6 [] (Mz l),()))) (.inl (false,())) (fun n hn=>?_) ?_
 ·exact this
 ·unfold lm Qg;have e1:c6 [] (Mz (l.take (n+1)))=eW (c6 [] (Mz (l.take n))) (ej l n).1 true:=by unfold Mz ej;rw[JV hn fe,List.map_append];exact LZ _ _ _
  have e2:c6 [] (IQ (l.take (n+1)))=eW (c6 [] (IQ (l.take n))) (ej l n).2.2.1 true:=by unfold IQ ej;rw[JV hn fe,List.map_append];exact LZ _ _ _
  simp only[aj,hn,decide_true,cond_true,ax,ak,ey,Option.bind_some,au (n:=n) (by omega),IR l hn,e1,e2];show(bif af .neq (ej l n).1 (hU l n)then _ else bif Bool.not (ko (ej l n).2.1 1 (aa .sub .i64 h (hU l n)))then _ else bif Bool.not (ko (ej l n).2.2.1 0 999)then _ else bif af .gtr (ej l n).2.2.1 0 then(bif cw (c6 [] (IQ (l.take n))) (ej l n).2.2.1 then _ else _)else _)=_;cases af .neq (ej l n).1 (hU l n)with
  |true=>rfl
  |false=>
   cases ko (ej l n).2.1 1 (aa .sub .i64 h (hU l n))with
   |false=>rfl
   |true=>
    cases ko (ej l n).2.2.1 0 999 with
    |false=>rfl
    |true=>
     cases af .gtr (ej l n).2.2.1 0 with
     |false=>rfl
     |true=>cases cw (c6 [] (IQ (l.take n))) (ej l n).2.2.1 <;> rfl
 ·unfold lm;simp only[aj,Nat.lt_irrefl,decide_false,cond_false,List.take_length]
theorem PU{a b:Int}:af .neq a b=false↔a=b:=by simp[af]
theorem PR{a b:Int}:af .gtr a b=false↔a<=b:=by simp[af]
theorem Rt{a b:Int}:af .gtr a b=true↔b<a:=by simp[af]
theorem Ml{a b:Int}:af .eql a b=true↔a=b:=by simp[af]
theorem O3{l:List Bx}{n:Nat}(hn:n<=l.length)(p:Int):cw (c6 [] (IQ (l.take n))) p=true↔∃k,k<n/\(ej l k).2.2.1=p:=by
 rw[Jg];simp only[cw,Bool.false_eq_true,false_or,IQ,List.mem_map];constructor
 ·rintro⟨b,hb,e⟩;obtain⟨k,hk,rfl⟩:=(MR (z:=fe) hn).1 hb;exact⟨k,hk,e⟩
 ·rintro⟨k,hk,e⟩;exact⟨ej l k,(MR (z:=fe) hn).2 ⟨k,hk,rfl⟩,e⟩
theorem NO{l:List Bx}{n:Nat}(hn:n<=l.length):(Bool.not (af .gtr (ej l n).2.2.1 0&&cw (c6 [] (IQ (l.take n))) (ej l n).2.2.1))=aB (Na l n) 0 n:=by
 rw[Bool.eq_iff_iff,aO];simp only[Na,Bool.not_eq_true',Bool.and_eq_false_iff];cases h0:af .gtr (ej l n).2.2.1 0 with
 |false=>exact⟨fun _ _ _ _=>.inl rfl,fun _=>.inl rfl⟩
 |true=>
  constructor
  ·intro h m _ hm;refine .inr ?_;rcases h with h|h
   ·cases h
   ·cases he:af .eql (ej l m).2.2.1 (ej l n).2.2.1 with
    |false=>rfl
    |true=>have:=(O3 hn _).2 ⟨m,by omega,Ml.1 he⟩;rw[h]at this;cases this
  ·intro h;refine .inr ?_;cases hm:cw (c6 [] (IQ (l.take n))) (ej l n).2.2.1 with
   |false=>rfl
   |true=>
    obtain⟨k,hk,e⟩:=(O3 hn _).1 hm;rcases h k (Nat.zero_le _) (by omega)with h|h
    ·cases h
    ·rw[Ml.2 e]at h;cases h
theorem Pb{h:Int}(h1:1<=h)(h2:h<=24)(l:List Bx)(hl:l.length<=1073741824):(aB (OP l) 0 l.length=true/\hU l l.length=h)↔(aB (Qg h l) 0 l.length=true/\hU l l.length=h):=by
 have mono:∀(hs:∀n,n<l.length->0<=hU l n/\hU l n<=hU l (n+1)) (m n:Nat),m<=n->n<=l.length->hU l m<=hU l n:=by
  intro hs m n hmn hn;induction n with
  |zero=>rw[show m=0 by omega];exact Int.le_refl _
  |succ n ih=>
   rcases Nat.lt_or_ge m (n+1)with h|h
   ·exact Int.le_trans (ih (by omega) (by omega)) (hs n (by omega)).2
   ·rw[show m=n+1 by omega];exact Int.le_refl _
 have p0:hU l 0=0:=rfl;constructor
 ·rintro⟨ha,he⟩;rw[aO]at ha;simp only[OP,Bool.and_eq_true,Bool.not_eq_true',PU,PR,gg]at ha;have hp:∀n,n<=l.length->0<=hU l n/\hU l n<=24:=by
   intro n;induction n with
   |zero=>intro _;rw[p0];omega
   |succ n ih=>intro hn;obtain⟨⟨⟨⟨_,c2⟩,_⟩,_⟩,c5⟩:=ha n (Nat.zero_le _) (by omega);have:=ih (by omega);refine⟨?_,c5⟩;rw[IR l (by omega),bU (by omega) (by omega)];omega
  have hs:∀n,n<l.length->0<=hU l n/\hU l n<=hU l (n+1):=fun n hn=>by obtain⟨⟨⟨⟨_,c2⟩,_⟩,_⟩,c5⟩:=ha n (Nat.zero_le _) (by omega);have:=hp n (by omega);refine⟨this.1,?_⟩;rw[IR l hn,bU (by omega) (by omega)];omega
  refine⟨?_,he⟩;rw[aO];intro n _ hn;obtain⟨⟨⟨⟨c1,c2⟩,c3⟩,c4⟩,c5⟩:=ha n (Nat.zero_le _) (by omega);unfold Qg;rw[NO (by omega),c4];have:=hp n (by omega);have hm:=mono hs (n+1) l.length (by omega) (Nat.le_refl _);rw[he,IR l (by omega),bU (by omega) (by omega)]at hm;rw[bM (by omega) (by omega)];simp only[Bool.and_eq_true,Bool.not_eq_true',PU,gg];exact⟨⟨⟨c1,by omega,by omega⟩,c3⟩,trivial⟩
 ·rintro⟨ha,he⟩;rw[aO]at ha;have hp:∀n,n<=l.length->0<=hU l n/\hU l n<=h:=by
   intro n;induction n with
   |zero=>intro _;rw[p0];omega
   |succ n ih=>intro hn;have hi:=ih (by omega);have:=ha n (Nat.zero_le _) (by omega);unfold Qg at this;rw[bM (by omega) (by omega)]at this;simp only[Bool.and_eq_true,Bool.not_eq_true',PU,gg]at this;obtain⟨⟨⟨_,c2⟩,_⟩,_⟩:=this;rw[IR l (by omega),bU (by omega) (by omega)];omega
  refine⟨?_,he⟩;rw[aO];intro n _ hn;have hi:=hp n (by omega);have hj:=hp (n+1) (by omega);have:=ha n (Nat.zero_le _) hn;unfold Qg at this;rw[NO (by omega),bM (by omega) (by omega)]at this;simp only[Bool.and_eq_true,Bool.not_eq_true',PU,gg]at this;obtain⟨⟨⟨c1,c2⟩,c3⟩,c4⟩:=this;unfold OP;simp only[Bool.and_eq_true,Bool.not_eq_true',PU,PR,gg];exact⟨⟨⟨⟨c1,by omega,by omega⟩,c3⟩,c4⟩,by omega⟩
noncomputable def LL(h:Int)(f:List Int):Nat->Bool
 |0=>ko (f.getD 0 zI) 1 (aa .sub .i64 h 1)
 |n+1=>ko (f.getD (n+1) zI) 1 (aa .sub .i64 h 1)&&Bool.not (af .leq (f.getD (n+1) zI) (f.getD n zI))
noncomputable def foundAt(f:List Int)(l:List Bx)(n:Nat):Bool:=l.any fun b=>af .eql b.1 (f.getD n zI)
theorem N1(h:Int)(f:List Int)(l:List Bx)(n:Nat)(hn:n<f.length)(hl:l.length<=1073741824):IW (h,f,l,(n:Int),()) (false,0,())=some (.inl (foundAt f l n,())):=by
 have:=aU (body:=nh (h,f,l,(n:Int),())) (fun k=>((l.take k).any fun b=>af .eql b.1 (f.getD n zI),(k:Int),())) l.length (by omega) (.inl (foundAt f l n,())) (fun k hk=>?_) ?_
 ·exact this
 ·unfold nh;rw[JV hk fe,List.any_append];simp only[aj,hk,hn,decide_true,cond_true,ax,ak,au (n:=k) (by omega)];cases (l.take k).any fun b=>af .eql b.1 (f.getD n zI)with
  |true=>rfl
  |false=>simp[List.any]
 ·unfold nh foundAt;simp only[aj,Nat.lt_irrefl,decide_false,cond_false,List.take_length]
theorem Qx{n:Nat}(h:n<1099511627776):aa .sub .i64 ((n+1:Nat):Int) 1=(n:Int):=iD h
theorem Ug(n:Nat):af .gtr ((n+1:Nat):Int) 0=true:=by simp only[af,gt_iff_lt,decide_eq_true_eq];omega
noncomputable def NB(h:Int)(f:List Int)(l:List Bx):Bool:=ko h 1 24&&((aB (OP l) 0 l.length&&(af .gtr (ai l) 0&&af .eql (hU l l.length) h))&&aB (fun n=>LL h f n&&foundAt f l n) 0 f.length)
theorem NH(h:Int)(f:List Int)(l:List Bx)(hf:f.length<=1073741824)(hl:l.length<=1073741824):qS h f l=some (NB h f l,()):=by
 unfold qS NB;rw[Je,N0 h f l hl];simp only[Option.bind_some];have:IV (h,f,l,()) (0,())=some (bif aB (fun n=>LL h f n&&foundAt f l n) 0 f.length then(Sum.inr (Sum.inl ()):Bool×Unit⊕(Unit⊕Empty))else .inl (false,())):=by
  refine bq (fun n=>((n:Int),())) f.length (by omega) (fun n=>LL h f n&&foundAt f l n) _ _ (fun n hn=>?_) ?_
  ·unfold IU;simp only[aj,hn,decide_true,cond_true,ax,ak,Je,Option.bind_some,au (n:=n) (by omega),N1 h f l n hn hl,Sum.elim_inl];cases n with
   |zero=>unfold LL;rw[show af .gtr ((0:Nat):Int) 0=false from rfl];cases ko (f.getD 0 zI) 1 (aa .sub .i64 h 1) <;> cases foundAt f l 0 <;> rfl
   |succ m=>
    have hm:m<f.length:=by omega
    unfold LL;rw[Ug,Qx (by omega)];simp only[ax,ak,hm,decide_true,cond_true];cases ko (f.getD (m+1) zI) 1 (aa .sub .i64 h 1) <;> cases af .leq (f.getD (m+1) zI) (f.getD m zI) <;> cases foundAt f l (m+1) <;> rfl
  ·unfold IU;simp only[aj,Nat.lt_irrefl,decide_false,cond_false]
 rw[this];cases ko h 1 24 with
 |false=>rfl
 |true=>
  simp only[Bool.not_true,cond_false,Bool.true_and];cases (aB (OP l) 0 l.length&&(af .gtr (ai l) 0&&af .eql (hU l l.length) h))with
  |false=>rfl
  |true=>simp only[Bool.not_true,cond_false,Bool.true_and];cases aB (fun n=>LL h f n&&foundAt f l n) 0 f.length <;> rfl
noncomputable def Oh(h:Int)(f:List Int)(l:List Bx):Bool:=ko h 1 24&&(Bool.not (af .eql (ai l) 0)&&(aB (LL h f) 0 f.length&&(aB (Qg h l) 0 l.length&&(aB (fun n=>cw (c6 [] (Mz l)) (f.getD n zI)) 0 f.length&&af .eql (hU l l.length) h))))
theorem NF(h:Int)(f:List Int)(l:List Bx)(hf:f.length<=1073741824)(hl:l.length<=1073741824):n4 h f l=some (Oh h f l,()):=by
 unfold n4 Oh;rw[ey];simp only[Option.bind_some];have h0:IG (h,f,l,f,ai f,()) (0,())=some (bif aB (LL h f) 0 f.length then(Sum.inr (Sum.inl ()):Bool×Unit⊕(Unit⊕Empty))else .inl (false,())):=by
  refine bq (fun n=>((n:Int),())) f.length (by omega) (LL h f) _ _ (fun n hn=>?_) ?_
  ·unfold IE;simp only[aj,hn,decide_true,cond_true,ax,ak,ey,Option.bind_some,au (n:=n) (by omega)];cases n with
   |zero=>unfold LL;rw[show af .gtr ((0:Nat):Int) 0=false from rfl];cases ko (f.getD 0 zI) 1 (aa .sub .i64 h 1) <;> rfl
   |succ m=>
    have hm:m<f.length:=by omega
    unfold LL;rw[Ug,Qx (by omega)];simp only[ax,ak,hm,decide_true,cond_true];cases ko (f.getD (m+1) zI) 1 (aa .sub .i64 h 1) <;> cases af .leq (f.getD (m+1) zI) (f.getD m zI) <;> rfl
  ·unfold IE;simp only[aj,Nat.lt_irrefl,decide_false,cond_false]
 have h4:IJ (h,f,l,hU l l.length,f,ai f,()) (c6 [] (Mz l),0,())=some (bif aB (fun n=>cw (c6 [] (Mz l)) (f.getD n zI)) 0 f.length then(Sum.inr (Sum.inl ()):Bool×Unit⊕(Unit⊕Empty))else .inl (false,())):=by
  refine bq (fun n=>(c6 [] (Mz l),(n:Int),())) f.length (by omega) _ _ _ (fun n hn=>?_) ?_
  ·unfold IF;simp only[aj,hn,decide_true,cond_true,ax,ak,au (n:=n) (by omega)];cases cw (c6 [] (Mz l)) (f.getD n zI) <;> rfl
  ·unfold IF;simp only[aj,Nat.lt_irrefl,decide_false,cond_false]
 rw[h0,NV h f l hl];cases ko h 1 24 with
 |false=>rfl
 |true=>
  simp only[Bool.not_true,cond_false,Bool.true_and];cases af .eql (ai l) 0 with
  |true=>rfl
  |false=>
   simp only[cond_false,Bool.not_false,Bool.true_and];cases aB (LL h f) 0 f.length with
   |false=>rfl
   |true=>
    simp only[cond_true,Option.bind_some,Sum.elim_inr,Sum.elim_inl,Bool.true_and];cases aB (Qg h l) 0 l.length with
    |false=>rfl
    |true=>simp only[cond_true,Option.bind_some,Sum.elim_inr,Sum.elim_inl,Bool.true_and,h4];cases aB (fun n=>cw (c6 [] (Mz l)) (f.getD n zI)) 0 f.length <;> rfl
theorem PM(f:List Int)(l:List Bx)(n:Nat):cw (c6 [] (Mz l)) (f.getD n zI)=foundAt f l n:=by rw[Bool.eq_iff_iff,Jg];simp only[cw,Bool.false_eq_true,false_or,Mz,foundAt,List.mem_map,List.any_eq_true,Ml]
theorem PI(h:Int)(f:List Int)(l:List Bx)(hl:l.length<=1073741824):NB h f l=Oh h f l:=by
 unfold NB Oh;cases h1:ko h 1 24 with
 |false=>rfl
 |true=>
  obtain⟨q1,q2⟩:=gg.1 h1;have hb:=Pb q1 q2 l hl;have hne:Bool.not (af .eql (ai l) 0)=af .gtr (ai l) 0:=by
   cases hq:af .gtr (ai l) 0 with
   |true=>
    have:af .eql (ai l) 0=false:=by rw[Bool.eq_false_iff,ne_eq,Ml];have:=Rt.1 hq;omega
    rw[this];rfl
   |false=>
    have:af .eql (ai l) 0=true:=by rw[Ml];have:=PR.1 hq;unfold ai at this⊢;omega
    rw[this];rfl
  rw[hne];have hfn:(fun n=>cw (c6 [] (Mz l)) (f.getD n zI))=foundAt f l:=funext fun n=>PM f l n;rw[hfn,Bool.eq_iff_iff];simp only[Bool.and_eq_true,Ml,aO,Bool.true_and];simp only[aO]at hb;constructor
  ·rintro⟨⟨c1,c2,c3⟩,c4⟩;obtain⟨d1,_⟩:=hb.1 ⟨c1,c3⟩;exact⟨c2,fun m x y=>(c4 m x y).1,d1,fun m x y=>(c4 m x y).2,c3⟩
  ·rintro⟨c2,c4,c1,c5,c3⟩;obtain⟨d1,_⟩:=hb.2 ⟨c1,c3⟩;exact⟨⟨d1,c2,c3⟩,fun m x y=>⟨c4 m x y,c5 m x y⟩⟩
noncomputable def b9(L:List Mj)(i:Nat):Mj:=L.getD i bn
noncomputable def Pe(l:List Bx)(p:Int):Bool:=l.any fun b=>af .eql b.2.2.1 p
theorem QF(h:Int)(f:List Int)(l:List Bx)(p:Int)(hl:l.length<=1073741824):∃r,j0 h f l p=some (r,())/\af .geq r 0=(af .gtr p 0&&Pe l p):=by
 unfold j0;obtain⟨y,h1,h2⟩:=eL (body:=hD (p,h,f,l,())) (fun n=>((n:Int),())) l.length (by omega) (fun n=>Bool.not (af .eql (l.getD n fe).2.2.1 p&&af .gtr p 0)) (Sum.inr (Sum.inl ())) (fun n=>Sum.inl ((n:Int),())) (fun n hn=>by
  unfold hD;simp only[aj,ax,hn,decide_true,cond_true,ak,au (n:=n) (by omega)];cases af .eql (l.getD n fe).2.2.1 p <;> cases af .gtr p 0 <;> rfl) (by
  unfold hD;simp only[aj,Nat.lt_irrefl,decide_false,cond_false])
 have h1':IC (p,h,f,l,()) ((0:Int),())=some y:=h1;rw[h1'];rcases h2 with ⟨e1,rfl⟩|⟨e1,n,hn,rfl,e3⟩
 ·refine⟨-1,rfl,?_⟩;rw[aO]at e1;show false=_;symm;rw[Bool.and_eq_false_iff];cases hp:af .gtr p 0 with
  |false=>exact .inl rfl
  |true=>refine .inr ?_;rw[Bool.eq_false_iff];intro hh;obtain⟨b,hb,he⟩:=List.any_eq_true.1 hh;obtain⟨n,hn,rfl⟩:=List.mem_iff_getElem.1 hb;have:=e1 n (Nat.zero_le _) (by omega);rw[List.getD_eq_getElem?_getD,List.getElem?_eq_getElem hn,Option.getD_some,he,hp]at this;cases this
 ·refine⟨(n:Int),rfl,?_⟩;have h0:af .geq (n:Int) 0=true:=by simp[af]
  rw[h0];symm;have e3:(af .eql (l.getD n fe).2.2.1 p&&af .gtr p 0)=true:=by
   cases hq:(af .eql (l.getD n fe).2.2.1 p&&af .gtr p 0)with
   |true=>rfl
   |false=>rw[hq]at e3;first|cases e3|(simp at e3)
  rw[Bool.and_eq_true]at e3⊢;exact⟨e3.2,List.any_eq_true.2 ⟨_,ME hn fe,e3.1⟩⟩
noncomputable def KG(L:List Mj)(i k n:Nat):Bool:=Bool.not (af .gtr (ej (b9 L i).2.2 n).2.2.1 0&&Pe (b9 L k).2.2 (ej (b9 L i).2.2 n).2.2.1)
noncomputable def KF(L:List Mj)(i:Nat):Bool:=NB (b9 L i).1 (b9 L i).2.1 (b9 L i).2.2&&aB (fun k=>aB (KG L i k) 0 (b9 L i).2.2.length) 0 i
noncomputable def tW(L:List Mj):Bool:=ko (ai L) 1 6&&aB (KF L) 0 L.length
noncomputable def Ji(L:List Mj):Prop:=L.length<=1073741824/\∀c,c∈L->c.2.1.length<=1073741824/\c.2.2.length<=1073741824
theorem Ji.at{L:List Mj}(h:Ji L){i:Nat}(hi:i<L.length):(b9 L i).2.1.length<=1073741824/\(b9 L i).2.2.length<=1073741824:=h.2 _ (ME hi _)
theorem L0(L:List Mj)(hw:Ji L):tv L=some (tW L,()):=by
 have hL:=hw.1;unfold tv tW;rw[Je];simp only[Option.bind_some];have h4:∀i k,i<L.length->k<i->Ko (L,(i:Int),(k:Int),()) (0,())=some (bif aB (KG L i k) 0 (b9 L i).2.2.length then(Sum.inr (Sum.inl ()):Bool×Unit⊕(Unit⊕Empty))else .inl (false,())):=by
  intro i k hi hk;have UF:k<L.length:=by omega
  have VQ:=(hw.at hi).2;refine bq (fun n=>((n:Int),())) (b9 L i).2.2.length (by omega) _ _ _ (fun n hn=>?_) ?_
  ·unfold Kl;obtain⟨r,e1,e2⟩:=QF (b9 L k).1 (b9 L k).2.1 (b9 L k).2.2 (ej (b9 L i).2.2 n).2.2.1 (hw.at UF).2;have D6:j0 (L.getD k bn).1 (L.getD k bn).2.1 (L.getD k bn).2.2 ((L.getD i bn).2.2.getD n fe).2.2.1=some (r,()):=e1;have hn':n<(L.getD i bn).2.2.length:=hn;simp only[ax,hi,UF,decide_true,cond_true,ak,aj,hn',D6,Option.bind_some,e2,au (n:=n) (by omega)];unfold KG;cases (af .gtr (ej (b9 L i).2.2 n).2.2.1 0&&Pe (b9 L k).2.2 (ej (b9 L i).2.2 n).2.2.1) <;> rfl
  ·unfold Kl;have:¬((b9 L i).2.2.length<(L.getD i bn).2.2.length):=Nat.lt_irrefl _;simp only[ax,hi,decide_true,cond_true,ak,aj,this,decide_false,cond_false]
 have h2:∀i,i<L.length->Kn (L,(i:Int),()) (0,())=some (bif aB (fun k=>aB (KG L i k) 0 (b9 L i).2.2.length) 0 i then(Sum.inr (Sum.inl ()):Bool×Unit⊕(Unit⊕Empty))else .inl (false,())):=by
  intro i hi;refine bq (fun n=>((n:Int),())) i (by omega) _ _ _ (fun k hk=>?_) ?_
  ·unfold Kk;simp only[eM,hk,decide_true,cond_true,h4 i k hi hk,Option.bind_some,au (n:=k) (by omega)];cases aB (KG L i k) 0 (b9 L i).2.2.length <;> rfl
  ·unfold Kk;simp only[eM,Nat.lt_irrefl,decide_false,cond_false]
 have h0:Km (L,()) (0,())=some (bif aB (KF L) 0 L.length then(Sum.inr (Sum.inl ()):Bool×Unit⊕(Unit⊕Empty))else .inl (false,())):=by
  refine bq (fun n=>((n:Int),())) L.length (by omega) _ _ _ (fun i hi=>?_) ?_
  ·unfold Kj KF;have hc:qS (L.getD i bn).1 (L.getD i bn).2.1 (L.getD i bn).2.2=some (NB (b9 L i).1 (b9 L i).2.1 (b9 L i).2.2,()):=NH _ _ _ (hw.at hi).1 (hw.at hi).2;simp only[aj,ax,hi,decide_true,cond_true,ak,hc,Option.bind_some,h2 i hi,au (n:=i) (by omega)];cases NB (b9 L i).1 (b9 L i).2.1 (b9 L i).2.2 with
   |false=>rfl
   |true=>cases aB (fun k=>aB (KG L i k) 0 (b9 L i).2.2.length) 0 i <;> rfl
  ·unfold Kj;simp only[aj,Nat.lt_irrefl,decide_false,cond_false]
 rw[h0];cases ko (ai L) 1 6 with
 |false=>rfl
 |true=>cases aB (KF L) 0 L.length <;> rfl
noncomputable def lc(L:List Mj)(i:Nat):List Int:=((L.take i).map fun c=>IQ c.2.2).flatten
theorem OB{L:List Mj}{i:Nat}(h:i<L.length):lc L (i+1)=lc L i++IQ (b9 L i).2.2:=by unfold lc b9;rw[JV h bn,List.map_append,List.flatten_append];simp
theorem OT(m:List (Int×Bool))(a b:List Int):c6 m (a++b)=c6 (c6 m a) b:=List.foldl_append
noncomputable def Nf(L:List Mj)(i n:Nat):Bool:=Bool.not (af .gtr (ej (b9 L i).2.2 n).2.2.1 0&&cw (c6 (c6 [] (lc L i)) (IQ ((b9 L i).2.2.take n))) (ej (b9 L i).2.2 n).2.2.1)
noncomputable def L3(L:List Mj)(i:Nat):Bool:=Oh (b9 L i).1 (b9 L i).2.1 (b9 L i).2.2&&aB (Nf L i) 0 (b9 L i).2.2.length
theorem NT(L:List Mj)(hw:Ji L):k4 L=some (ko (ai L) 1 6&&aB (L3 L) 0 L.length,()):=by
 have hL:=hw.1;unfold k4;rw[ey];simp only[Option.bind_some];have h2:∀i,i<L.length->Kb (L,ai L,(i:Int),(b9 L i).2.2,ai (b9 L i).2.2,()) (c6 [] (lc L i),0,())=some (bif aB (Nf L i) 0 (b9 L i).2.2.length then(Sum.inr (Sum.inl (c6 [] (lc L (i+1)),())):Bool×Unit⊕((List (Int×Bool))×Unit⊕Empty))else .inl (false,())):=by
  intro i hi;have hb:=(hw.at hi).2;have:=bq (body:=vb (L,ai L,(i:Int),(b9 L i).2.2,ai (b9 L i).2.2,())) (fun n=>(c6 (c6 [] (lc L i)) (IQ ((b9 L i).2.2.take n)),(n:Int),())) (b9 L i).2.2.length (by omega) (Nf L i) (Sum.inr (Sum.inl (c6 [] (lc L (i+1)),()))) (Sum.inl (false,())) (fun n hn=>?_) ?_
  ·exact this
  ·unfold vb Nf;have e2:c6 (c6 [] (lc L i)) (IQ ((b9 L i).2.2.take (n+1)))=eW (c6 (c6 [] (lc L i)) (IQ ((b9 L i).2.2.take n))) (ej (b9 L i).2.2 n).2.2.1 true:=by unfold IQ ej;rw[JV hn fe,List.map_append];exact LZ _ _ _
   simp only[aj,ax,hn,decide_true,cond_true,ak,au (n:=n) (by omega),e2];show(bif af .gtr (ej (b9 L i).2.2 n).2.2.1 0 then(bif cw (c6 (c6 [] (lc L i)) (IQ ((b9 L i).2.2.take n))) (ej (b9 L i).2.2 n).2.2.1 then _ else _)else _)=_;cases af .gtr (ej (b9 L i).2.2 n).2.2.1 0 with
   |false=>rfl
   |true=>cases cw (c6 (c6 [] (lc L i)) (IQ ((b9 L i).2.2.take n))) (ej (b9 L i).2.2 n).2.2.1 <;> rfl
  ·unfold vb;simp only[aj,Nat.lt_irrefl,decide_false,cond_false,List.take_length,OB hi,OT]
 have h0:Ka (L,ai L,()) ([],0,())=some (bif aB (L3 L) 0 L.length then(Sum.inr (Sum.inl ()):Bool×Unit⊕(Unit⊕Empty))else .inl (false,())):=by
  refine bq (fun n=>(c6 [] (lc L n),(n:Int),())) L.length (by omega) _ _ _ (fun i hi=>?_) ?_
  ·unfold J9 L3;have hc:n4 (L.getD i bn).1 (L.getD i bn).2.1 (L.getD i bn).2.2=some (Oh (b9 L i).1 (b9 L i).2.1 (b9 L i).2.2,()):=NF _ _ _ (hw.at hi).1 (hw.at hi).2;have h2':=h2 i hi;unfold b9 at h2';simp only[aj,ax,hi,decide_true,cond_true,ak,hc,Option.bind_some,h2',au (n:=i) (by omega)];cases Oh (b9 L i).1 (b9 L i).2.1 (b9 L i).2.2 with
   |false=>rfl
   |true=>show(bif Bool.not true then _ else(some (bif aB (Nf L i) 0 (b9 L i).2.2.length then _ else _)).bind _)=_;cases aB (Nf L i) 0 (b9 L i).2.2.length <;> rfl
  ·unfold J9;simp only[aj,Nat.lt_irrefl,decide_false,cond_false]
 rw[h0];cases ko (ai L) 1 6 with
 |false=>rfl
 |true=>cases aB (L3 L) 0 L.length <;> rfl
theorem Ow{l:List Bx}{p:Int}:Pe l p=true↔p∈IQ l:=by simp only[Pe,IQ,List.any_eq_true,List.mem_map,Ml]
theorem Nw{L:List Mj}{i:Nat}(hi:i<=L.length)(p:Int):p∈lc L i↔∃k,k<i/\p∈IQ (b9 L k).2.2:=by
 unfold lc;simp only[List.mem_flatten,List.mem_map];constructor
 ·rintro⟨l,⟨c,hc,rfl⟩,hp⟩;obtain⟨k,hk,rfl⟩:=(MR (z:=bn) hi).1 hc;exact⟨k,hk,hp⟩
 ·rintro⟨k,hk,hp⟩;exact⟨_,⟨b9 L k,(MR (z:=bn) hi).2 ⟨k,hk,rfl⟩,rfl⟩,hp⟩
theorem Pa(L:List Mj)(hw:Ji L){i:Nat}(hi:i<L.length):KF L i=L3 L i:=by
 unfold KF L3;rw[PI _ _ _ (hw.at hi).2];cases hc:Oh (b9 L i).1 (b9 L i).2.1 (b9 L i).2.2 with
 |false=>rfl
 |true=>
  simp only[Bool.true_and];have hdup:∀n,n<(b9 L i).2.2.length->aB (Na (b9 L i).2.2 n) 0 n=true:=by rw[<-PI _ _ _ (hw.at hi).2]at hc;unfold NB at hc;simp only[Bool.and_eq_true]at hc;intro n hn;have:=(aO _ _).1 hc.2.1.1 n (Nat.zero_le _) (by omega);unfold OP at this;simp only[Bool.and_eq_true]at this;exact this.1.2
  rw[Bool.eq_iff_iff,aO,aO];constructor
  ·intro h n _ hn;unfold Nf;rw[Bool.not_eq_true',Bool.and_eq_false_iff];cases hg:af .gtr (ej (b9 L i).2.2 n).2.2.1 0 with
   |false=>exact .inl rfl
   |true=>
    refine .inr ?_;cases hm:cw (c6 (c6 [] (lc L i)) (IQ ((b9 L i).2.2.take n))) (ej (b9 L i).2.2 n).2.2.1 with
    |false=>rfl
    |true=>
     exfalso;rcases(Jg _ _ _).1 hm with hm|hm
     ·have:=(Jg _ _ _).1 hm;simp only[cw,Bool.false_eq_true,false_or]at this;obtain⟨k,hk,hp⟩:=(Nw (by omega) _).1 this;have:=h k (Nat.zero_le _) (by omega);have:=(aO _ _).1 this n (Nat.zero_le _) hn;unfold KG at this;rw[hg,Ow.2 hp]at this;cases this
     ·have hd:=hdup n (by omega);rw[<-NO (by omega),hg]at hd;have:cw (c6 [] (IQ ((b9 L i).2.2.take n))) (ej (b9 L i).2.2 n).2.2.1=true:=(Jg _ _ _).2 (.inr hm);rw[this]at hd;cases hd
  ·intro h k _ hk;rw[aO];intro n _ hn;have:=h n (Nat.zero_le _) hn;unfold Nf at this;unfold KG;rw[Bool.not_eq_true',Bool.and_eq_false_iff]at this⊢;rcases this with h1|h1
   ·exact .inl h1
   ·refine .inr ?_;cases hp:Pe (b9 L k).2.2 (ej (b9 L i).2.2 n).2.2.1 with
    |false=>rfl
    |true=>have:cw (c6 (c6 [] (lc L i)) (IQ ((b9 L i).2.2.take n))) (ej (b9 L i).2.2 n).2.2.1=true:=(Jg _ _ _).2 (.inl ((Jg _ _ _).2 (.inr ((Nw (by omega) _).2 ⟨k,by omega,Ow.1 hp⟩))));rw[this]at h1;cases h1
theorem Nb(L:List Mj)(hw:Ji L):k4 L=some (tW L,()):=by rw[NT L hw];unfold tW;rw[fU L.length 0 fun m _ hm=>Pa L hw (by omega)]
end Go.Fn
set_option linter.unusedVariables false
set_option linter.unusedSimpArgs false
namespace Go.Fn
open Go.R
noncomputable def Sm{α:Type}(P:α->Prop)(x y:Option α):Prop:=∃r,x=some r/\y=some r/\P r
section
variable {α β:Type} {P:α->Prop} {Q:β->Prop}
theorem Sm.ret{a:α}(h:P a):Sm P (some a) (some a):=⟨a,rfl,rfl,h⟩
theorem Sm.bind{x y:Option α}{f g:α->Option β}(hx:Sm P x y)(h:∀r,P r->Sm Q (f r) (g r)):Sm Q (x.bind f) (y.bind g):=by obtain⟨r,rfl,rfl,hr⟩:=hx;exact h r hr
theorem Sm.cond{b:Bool}{x y x' y':Option α}(hx:b=true->Sm P x x')(hy:b=false->Sm P y y'):Sm P (bif b then x else y) (bif b then x' else y'):=by
 cases b
 ·exact hy rfl
 ·exact hx rfl
theorem Sm.guard{b c:Bool}{x y:Option α}(hb:b=true)(hc:c=true)(h:Sm P x y):Sm P (bif b then x else none) (bif c then y else none):=by subst hb hc;exact h
theorem Sm.mono{P':α->Prop}{x y:Option α}(h:Sm P x y)(hp:∀r,P r->P' r):Sm P' x y:=by obtain⟨r,e1,e2,hr⟩:=h;exact⟨r,e1,e2,hp r hr⟩
theorem Sm.symm{x y:Option α}(h:Sm P x y):Sm P y x:=by obtain⟨r,e1,e2,hr⟩:=h;exact⟨r,e2,e1,hr⟩
theorem M6{X Y:Type}{body body':X->Option (X⊕Y)}(Inv:X->Prop)(m:X->Nat){Q:Y->Prop}(h:∀x,Inv x->Sm (fun r=>match r with| .inl a=>Inv a/\m a<m x| .inr b=>Q b) (body x) (body' x)):∀(fu:Nat) (x:X),Inv x->m x<fu->Sm Q (iter body fu x) (iter body' fu x)
 |0,x,_,hm=>absurd hm (Nat.not_lt_zero _)
 |fu+1,x,hi,hm=>by
  obtain⟨r,e1,e2,hr⟩:=h x hi;cases r with
  |inl a=>rw[aF e1,aF e2];exact M6 Inv m h fu a hr.1 (by have:=hr.2;omega)
  |inr b=>exact⟨b,av e1,av e2,hr⟩
end
theorem Lj {B Y:Type} {body body':B×Int×Unit->Option ((B×Int×Unit)⊕Y)} (len:Nat) (hlen:len<=1073741824) {Q:Y->Prop} (I:B->Prop)
  (hs:∀b n,n<len->I b->Sm (fun r=>match r with| .inl a=>I a.1/\a.2.1=((n+1:Nat):Int)| .inr y=>Q y) (body (b,(n:Int),())) (body' (b,(n:Int),()))) (he:∀b,I b->Sm (fun r=>match r with| .inl a=>False| .inr y=>Q y) (body (b,(len:Int),())) (body' (b,(len:Int),()))) (b:B) (hb:I b):Sm Q (iter body big (b,0,())) (iter body' big (b,0,())):=by
 refine M6 (fun x=>I x.1/\0<=x.2.1/\x.2.1<=(len:Int)) (fun x=>((len:Int)-x.2.1).toNat) (fun x hx=>?_) big (b,0,()) ⟨hb,Int.le_refl _,by show(0:Int)<=(len:Int);omega⟩ (aN (by show((len:Int)-0).toNat<_;omega));obtain⟨b,i,u⟩:=x;obtain⟨h0,h1,h2⟩:=hx;have h1:0<=i:=h1;have h2:i<=(len:Int):=h2;obtain⟨n,rfl⟩:∃n:Nat,i=(n:Int):=⟨i.toNat,by omega⟩
 by_cases h:n<len
 ·refine(hs b n h h0).mono fun r hr=>?_;cases r with
  |inr y=>exact hr
  |inl a=>obtain⟨q1,q2⟩:=hr;refine⟨⟨q1,by rw[q2];omega,by rw[q2];omega⟩,?_⟩;show((len:Int)-a.2.1).toNat<((len:Int)-(n:Int)).toNat;rw[q2];omega
 ·have hn:n=len:=by omega
  subst hn;refine(he b h0).mono fun r hr=>?_;cases r with
  |inl a=>exact hr.elim
  |inr y=>exact hr
theorem OC {Y:Type} {body body':Int×Unit->Option ((Int×Unit)⊕Y)} (len:Nat) (hlen:len<=1073741824) (F:Nat->Prop) {Q:Y->Prop}
  (hs:∀n,n<len->Sm (fun r=>match r with| .inl a=>a.1=((n+1:Nat):Int)/\F n| .inr y=>Q y) (body ((n:Int),())) (body' ((n:Int),()))) (he:(∀n,n<len->F n)->Sm (fun r=>match r with| .inl a=>False| .inr y=>Q y) (body ((len:Int),())) (body' ((len:Int),()))):Sm Q (iter body big (0,())) (iter body' big (0,())):=by
 refine M6 (fun x=>0<=x.1/\x.1<=(len:Int)/\∀m:Nat,(m:Int)<x.1->F m) (fun x=>((len:Int)-x.1).toNat) (fun x hx=>?_) big (0,()) ⟨Int.le_refl _,by show(0:Int)<=(len:Int);omega,fun m hm=>by have hm:(m:Int)<0:=hm;omega⟩ (aN (by show((len:Int)-0).toNat<_;omega));obtain⟨i,u⟩:=x;obtain⟨h1,h2,h3⟩:=hx;have h1:0<=i:=h1;have h2:i<=(len:Int):=h2;have h3:∀m:Nat,(m:Int)<i->F m:=h3;obtain⟨n,rfl⟩:∃n:Nat,i=(n:Int):=⟨i.toNat,by omega⟩
 by_cases h:n<len
 ·refine(hs n h).mono fun r hr=>?_;cases r with
  |inr y=>exact hr
  |inl a=>
   obtain⟨q2,q3⟩:a.1=((n+1:Nat):Int)/\F n:=hr;refine⟨⟨by rw[q2];omega,by rw[q2];omega,fun m hm=>?_⟩,?_⟩
   ·rw[q2]at hm;rcases Nat.lt_or_ge m n with hmn|hmn
    ·exact h3 m (by omega)
    ·rw[show m=n by omega];exact q3
   ·show((len:Int)-a.1).toNat<((len:Int)-(n:Int)).toNat;rw[q2];omega
 ·have hn:n=len:=by omega
  subst hn;refine(he fun m hm=>h3 m (by omega)).mono fun r hr=>?_;cases r with
  |inl a=>exact hr.elim
  |inr y=>exact hr
abbrev Any{α:Type}:α->Prop:=fun _=>True
theorem O6{α:Type}{x y:Option α}{a:α}(h1:x=some a)(h2:y=some a):Sm (fun r=>r=a) x y:=⟨a,h1,h2,rfl⟩
theorem Mk(a lo hi:Int):Sm (fun r=>r=(ko a lo hi,())) (bt a lo hi) (br a lo hi):=O6 (Je a lo hi) (ey a lo hi)
theorem PJ:∀(k:Fin 3) (t:Fin 7) (a b c:Bool),tB ((k.val:Nat):Int) ((t.val:Nat):Int) a b c=k5 ((k.val:Nat):Int) ((t.val:Nat):Int) a b c/\(k5 ((k.val:Nat):Int) ((t.val:Nat):Int) a b c).isSome=true:=by decide +kernel
theorem P5(k t:Int)(a b c:Bool):Sm (fun r=>r.1=true->0<=k/\k<=2) (tB k t a b c) (k5 k t a b c):=by
 cases hk:ko k 0 2 with
 |false=>
  refine⟨(false,()),?_,?_,fun h=>by cases h⟩
  ·unfold tB;rw[Je,hk];rfl
  ·unfold k5;rw[ey,hk];rfl
 |true=>
  obtain⟨h1,h2⟩:=gg.1 hk;cases ht:ko t 0 6 with
  |false=>
   refine⟨(false,()),?_,?_,fun h=>by cases h⟩
   ·unfold tB;rw[Je,hk,Je,ht];rfl
   ·unfold k5;rw[ey,hk,ey,ht];rfl
  |true=>obtain⟨h3,h4⟩:=gg.1 ht;have:=PJ ⟨k.toNat,by omega⟩ ⟨t.toNat,by omega⟩ a b c;simp only[Int.toNat_of_nonneg h1,Int.toNat_of_nonneg h3]at this;obtain⟨r,hr⟩:=Option.isSome_iff_exists.1 this.2;exact⟨r,this.1.trans hr,hr,fun _=>⟨h1,h2⟩⟩
theorem Qd(a b c d e:Int):Sm Any (K0 a b c d e) (KH a b c d e):=by unfold K0 KH hM ik;simp only[Je,ey,Option.bind_some];cases ko a 1 2147483646 <;> cases ko b 0 1000001 <;> cases ko c 0 2 <;> cases ko d 0 6 <;> exact .ret trivial
theorem PP(a b c d e f:Int)(o:Bool):Sm Any (Cp a b c d e f o) (l5 a b c d e f o):=by unfold Cp l5 gA gb JT ia;simp only[Je,ey,Option.bind_some];cases ko a 1 40 <;> cases ko b 1 40 <;> cases af .neq a b <;> cases ko c 0 999 <;> cases ko d 0 5 <;> cases ko e 0 20000 <;> cases ko f 0 20000 <;> exact .ret trivial
noncomputable def Qs(x:Qp):Bool:=match l5 x.1 x.2.1 x.2.2.1 x.2.2.2.1 x.2.2.2.2.1 x.2.2.2.2.2.1 x.2.2.2.2.2.2 with|some r=>r.1|none=>false
theorem PO(x:Qp):Cp x.1 x.2.1 x.2.2.1 x.2.2.2.1 x.2.2.2.2.1 x.2.2.2.2.2.1 x.2.2.2.2.2.2=some (Qs x,())/\l5 x.1 x.2.1 x.2.2.1 x.2.2.2.1 x.2.2.2.2.1 x.2.2.2.2.2.1 x.2.2.2.2.2.2=some (Qs x,()):=by
 obtain⟨r,e1,e2,_⟩:=PP x.1 x.2.1 x.2.2.1 x.2.2.2.1 x.2.2.2.2.1 x.2.2.2.2.2.1 x.2.2.2.2.2.2;have:Qs x=r.1:=by unfold Qs;rw[e2]
 rw[this];exact⟨e1,e2⟩
theorem Pd(g:List Qp)(hg:g.length<=1073741824):Sm Any (Ja g) (I2 g):=by
 unfold Ja I2 cn cy;have hs:IY (g,()) (0,())=some (bif aB (fun n=>Qs (g.getD n rm)) 0 g.length then(Sum.inr (Sum.inl ()):Bool×Unit⊕(Unit⊕Empty))else .inl (false,())):=by
  refine bq (fun n=>((n:Int),())) g.length (by omega) _ _ _ (fun n hn=>?_) ?_
  ·unfold IX;simp only[aj,ax,hn,decide_true,cond_true,ak,(PO _).1,Option.bind_some,au (n:=n) (by omega)];cases Qs (g.getD n rm) <;> rfl
  ·unfold IX;simp only[aj,Nat.lt_irrefl,decide_false,cond_false]
 obtain⟨y,h1,h2⟩:=eL (body:=b7 (g,ai g,())) (fun n=>((n:Int),())) g.length (by omega) (fun n=>Qs (g.getD n rm)) (Sum.inr (Sum.inl ())) (fun n=>Sum.inl ((n:Int),())) (fun n hn=>by
  unfold b7 Jk;simp only[aj,ax,hn,decide_true,cond_true,ak,(PO _).2,Option.bind_some,au (n:=n) (by omega)];cases Qs (g.getD n rm) <;> rfl) (by
  unfold b7;simp only[aj,Nat.lt_irrefl,decide_false,cond_false])
 have h1':cv (g,ai g,()) ((0:Int),())=some y:=h1;rw[hs,h1'];have hle:af .leq (ai g) (30:Int)=Bool.not (af .gtr (ai g) 30):=Qb _ _;rw[hle];cases af .gtr (ai g) (30:Int)with
 |true=>exact .ret trivial
 |false=>
  simp only[Bool.not_false,cond_true,cond_false];rcases h2 with ⟨e1,rfl⟩|⟨e1,n,hn,rfl,_⟩
  ·rw[e1];exact⟨(true,()),rfl,rfl,trivial⟩
  ·rw[e1];have h0:af .geq (n:Int) 0=true:=by simp[af]
   refine⟨(false,()),rfl,?_,trivial⟩;show some (Bool.not (af .geq (n:Int) 0),())=_;rw[h0];rfl
section
variable (a0 a1 a2 a3 a4 a5 a6 a7 a8 a9 a10:Int) (s:List Site) (p:List QT) (g:List Qp) (j:List Ev)
theorem MT{x:Site}(h:Ki 1073741824 x):Ji x.2.2.1:=⟨h.b,fun c hc=>by obtain⟨n,hn,rfl⟩:=List.mem_iff_getElem.1 hc;have:=h.bs n hn;rw[List.getD_eq_getElem?_getD,List.getElem?_eq_getElem hn]at this;exact this⟩
theorem Qk(o c:List Od):Sm Any (Jh o c) (Jd o c):=⟨_,OG o c,Oy o c,trivial⟩
theorem P0{L:List Mj}(h:Ji L):Sm (fun r=>r.1=true->tW L=true) (tv L) (k4 L):=⟨_,L0 L h,Nb L h,fun h=>h⟩
theorem OS(l:List Ev):Sm Any (jj l) (iL l):=⟨_,OE l,Ox l,trivial⟩
theorem Qh(k:Nat)(hk:k<s.length)(hs:Ki 1073741824 (s.getD k e6))(hp:p.length<=1048576):Sm (fun r=>r.1=true->tW (s.getD k e6).2.2.1=true) (ID a0 a1 a2 a3 a4 a5 a6 a7 a8 a9 a10 s p g j (k:Int)) (KL a0 a1 a2 a3 a4 a5 a6 a7 a8 a9 a10 s p g j (k:Int)):=by
 unfold ID KL;refine .guard (cK hk) (cK hk) ?_;simp only[ak];have hz:s.getD k aS=s.getD k e6:=rfl;rw[hz];generalize s.getD k e6=x at hs;have no:∀ {Q:Prop},((false:Bool),()).1=true->Q:=fun h=>by cases h
 refine(Qk x.1 x.2.1).bind fun r _=>.cond (fun _=>.ret no) fun _=>?_;refine(P0 (MT hs)).bind fun r hr=>.cond (fun _=>.ret no) fun hb=>?_;have CD:tW x.2.2.1=true:=hr (by cases h:r.1 with|true=>rfl|false=>rw[h]at hb;cases hb);refine(P5 x.2.2.2.1 x.2.2.2.2.1 x.2.2.2.2.2.1 x.2.2.2.2.2.2.1 x.2.2.2.2.2.2.2.1).bind fun r hr=>.cond (fun _=>.ret no) fun hb=>?_;have RD:=hr (by cases h:r.1 with|true=>rfl|false=>rw[h]at hb;cases hb);refine(OS x.2.2.2.2.2.2.2.2.2.2).bind fun r _=>.cond (fun _=>.ret no) fun _=>?_;refine .cond (fun _=>?_) fun _=>?_
 ·simp only[aR];exact .cond (fun _=>.ret fun _=>CD) fun _=>.ret no
 ·refine(Mk x.2.2.2.2.2.2.2.2.1 1 (ai p)).bind fun r hr=>.cond (fun _=>.ret no) fun hb=>?_;subst hr;have hin:ko x.2.2.2.2.2.2.2.2.1 1 (ai p)=true:=by cases h:ko x.2.2.2.2.2.2.2.2.1 1 (ai p)with|true=>rfl|false=>rw[h]at hb;cases hb
  obtain⟨i1,i2⟩:=gg.1 hin;unfold ai at i2;have hsub:aa .sub .i64 x.2.2.2.2.2.2.2.2.1 1=x.2.2.2.2.2.2.2.2.1-1:=bM (by omega) (by omega);rw[hsub];have hr:ah p (x.2.2.2.2.2.2.2.2.1-1)=true:=L4 (by omega) (by omega);rw[hr];simp only[cond_true];refine .cond (fun _=>.ret no) fun _=>.cond (fun _=>.ret no) fun _=>?_;obtain⟨k1,k2⟩:=RD;unfold bt gb;simp only[ey];have hc:x.2.2.2.1=0\/x.2.2.2.1=1\/x.2.2.2.1=2:=by omega
  rcases hc with hc|hc|hc <;> rw[hc]
  ·exact .ret no
  ·show Sm _ (bif af .eql x.2.2.2.2.2.2.2.2.2.1 0 then _ else _) (bif af .eql x.2.2.2.2.2.2.2.2.2.1 0 then _ else _);cases af .eql x.2.2.2.2.2.2.2.2.2.1 0 with
   |true=>exact .ret fun _=>CD
   |false=>exact .ret no
  ·show Sm _ (bt x.2.2.2.2.2.2.2.2.2.1 0 40 |>.bind _) (bif af .eql x.2.2.2.2.2.2.2.2.2.1 0 then _ else(some (ko x.2.2.2.2.2.2.2.2.2.1 1 40,())).bind fun y=>some (y.1,()));rw[Je];cases hq:af .eql x.2.2.2.2.2.2.2.2.2.1 0 with
   |true=>have:x.2.2.2.2.2.2.2.2.2.1=0:=Ml.1 hq;rw[this];exact⟨(true,()),rfl,rfl,fun _=>CD⟩
   |false=>
    have h0:x.2.2.2.2.2.2.2.2.2.1≠0:=fun e=>by rw[Ml.2 e]at hq;cases hq
    have:ko x.2.2.2.2.2.2.2.2.2.1 0 40=ko x.2.2.2.2.2.2.2.2.2.1 1 40:=by rw[Bool.eq_iff_iff,gg,gg];omega
    rw[this];exact⟨_,rfl,rfl,fun _=>CD⟩
theorem NL(a:Int):Sm (fun r=>r=(ko a 1 40,())) (gA a) (gb a):=by unfold gA gb;rw[Je,ey];exact .ret rfl
theorem Pk(n:Int):Sm Any (qW a0 a1 a2 a3 a4 a5 a6 a7 a8 a9 a10 s p g j n) (n5 a0 a1 a2 a3 a4 a5 a6 a7 a8 a9 a10 s p g j n):=by obtain⟨y,e1,e2⟩:=Pj a0 a1 a2 a3 a4 a5 a6 a7 a8 a9 a10 s p g j n;exact⟨_,e1,e2,trivial⟩
theorem Ng(x:QT)(k:Nat)(hk:k<p.length)(hx:p.getD k bg=x)(h0:0<=x.2.2.1)(h1:x.2.2.1<s.length):Sm (fun r=>r.1=true->x.2.2.2.1≠4) (jn a0 a1 a2 a3 a4 a5 a6 a7 a8 a9 a10 s p g j (k:Int)) (kn a0 a1 a2 a3 a4 a5 a6 a7 a8 a9 a10 s p g j x.1 x.2.1 x.2.2.1 x.2.2.2.1 x.2.2.2.2.1 x.2.2.2.2.2.1 x.2.2.2.2.2.2.1 x.2.2.2.2.2.2.2.1 x.2.2.2.2.2.2.2.2.1 x.2.2.2.2.2.2.2.2.2.1 x.2.2.2.2.2.2.2.2.2.2.1 x.2.2.2.2.2.2.2.2.2.2.2.1 x.2.2.2.2.2.2.2.2.2.2.2.2):=by unfold jn kn;rw[cK hk,ak,hx,L4 h0 h1];simp only[cond_true];exact .cond (fun h=>.ret fun _=>by have:=Ml.1 h;omega) fun _=>.cond (fun h=>.ret fun _=>by have:=Ml.1 h;omega) fun _=>.cond (fun h=>.ret fun _=>by have:=Ml.1 h;omega) fun _=>.ret fun h=>by cases h
theorem Ph(k:Nat)(hk:k<p.length)(hs:s.length<=1048576):Sm (fun r=>r.1=true->(0<=(p.getD k bg).2.2.1/\(p.getD k bg).2.2.1<s.length)/\((p.getD k bg).2.2.2.1=4->1<=(p.getD k bg).2.2.2.2.2.2.2.2.2.2.2.1/\(p.getD k bg).2.2.2.2.2.2.2.2.2.2.2.1<=40)) (nn a0 a1 a2 a3 a4 a5 a6 a7 a8 a9 a10 s p g j (k:Int)) (I4 a0 a1 a2 a3 a4 a5 a6 a7 a8 a9 a10 s p g j (k:Int)):=by
 unfold nn I4;refine .guard (cK hk) (cK hk) ?_;simp only[ak];generalize hx:p.getD k bg=x;have no:∀ {Q:Prop},((false:Bool),()).1=true->Q:=fun h=>by cases h
 refine(Mk x.1 1 24).bind fun r _=>.cond (fun _=>.ret no) fun _=>?_;refine(NL x.2.1).bind fun r _=>.cond (fun _=>.ret no) fun _=>?_;refine(Mk x.2.2.1 0 (aa .sub .i64 (ai s) 1)).bind fun r hr=>.cond (fun _=>.ret no) fun hb=>?_;subst hr;have hin:ko x.2.2.1 0 (aa .sub .i64 (ai s) 1)=true:=by cases h:ko x.2.2.1 0 (aa .sub .i64 (ai s) 1)with|true=>rfl|false=>rw[h]at hb;cases hb
 obtain⟨i1,i2⟩:=gg.1 hin;rw[bM (by unfold ai;omega) (by unfold ai;omega)]at i2;have i2:x.2.2.1<s.length:=by unfold ai at i2;omega
 refine(Mk x.2.2.2.1 0 5).bind fun r _=>.cond (fun _=>.ret no) fun _=>?_;refine .cond (fun _=>.guard (L4 i1 i2) (L4 i1 i2) (.cond (fun _=>.ret no) fun _=>?_)) fun _=>?_;all_goals
  refine(Ng a0 a1 a2 a3 a4 a5 a6 a7 a8 a9 a10 s p g j x k hk hx i1 i2).bind fun r hun=>.cond (fun DO=>?_) fun _=>?_
  ·refine .cond (fun _=>.cond (fun _=>.cond (fun _=>.cond (fun _=>?_) fun _=>.ret no) fun _=>.ret no) fun _=>.ret no) fun _=>.ret no;simp only[aR];exact .ret fun _=>⟨⟨i1,i2⟩,fun h4=>absurd h4 (hun DO)⟩
  ·refine(Mk x.2.2.2.2.1 0 a10).bind fun r _=>.cond (fun _=>.ret no) fun _=>?_;refine(Mk x.2.2.2.2.2.1 0 a7).bind fun r _=>.cond (fun _=>.ret no) fun _=>?_;refine(Qd x.2.2.2.2.2.2.1 x.2.2.2.2.2.2.2.1 x.2.2.2.2.2.2.2.2.1 x.2.2.2.2.2.2.2.2.2.1 x.2.2.2.2.2.2.2.2.2.2.1).bind fun r _=>.cond (fun _=>.ret no) fun _=>?_;refine(Pk a0 a1 a2 a3 a4 a5 a6 a7 a8 a9 a10 s p g j (aa .add .i64 (k:Int) 1)).bind fun r _=>.cond (fun _=>.ret no) fun _=>?_;refine .cond (fun _=>?_) fun h4=>?_
   ·refine(NL x.2.2.2.2.2.2.2.2.2.2.2.1).bind fun r hr=>.cond (fun hp=>?_) fun _=>.ret no;subst hr;exact(Mk x.2.2.2.2.2.2.2.2.2.2.2.2 0 (aa .add .i64 a4 (aa .mul .i64 a6 a7))).bind fun r _=>.ret fun _=>⟨⟨i1,i2⟩,fun _=>gg.1 hp⟩
   ·exact .cond (fun _=>.ret fun _=>⟨⟨i1,i2⟩,fun he=>by rw[Ml.2 he]at h4;cases h4⟩) fun _=>.ret no
theorem Qc(hp:p.length<=1048576)(hs:∀k,k<p.length->0<=(p.getD k bg).2.2.1/\(p.getD k bg).2.2.1<s.length):Sm Any (JU a0 a1 a2 a3 a4 a5 a6 a7 a8 a9 a10 s p g j) (KK a0 a1 a2 a3 a4 a5 a6 a7 a8 a9 a10 s p g j):=by
 unfold JU KK;refine(Lj (B:=Int) (Q:=Any) p.length (by omega) (fun _=>True) (fun b n hn _=>?_) (fun b _=>?_) (0:Int) trivial).bind fun q _=>?_
 ·unfold JC Kd;simp only[aj,ax,hn,decide_true,cond_true,ak,au (n:=n) (by omega)];obtain⟨h0,h1⟩:=hs n hn;refine .cond (fun _=>?_) fun _=>.ret ⟨trivial,rfl⟩;refine(Ng a0 a1 a2 a3 a4 a5 a6 a7 a8 a9 a10 s p g j (p.getD n bg) n hn rfl h0 h1).bind fun r _=>.cond (fun _=>.ret ⟨trivial,rfl⟩) fun _=>.ret ⟨trivial,rfl⟩
 ·unfold JC Kd;simp only[aj,Nat.lt_irrefl,decide_false,cond_false];exact .ret trivial
 ·cases q with
  |inl y=>exact .ret trivial
  |inr e=>exact e.elim
theorem QH(k i:Int)(QE:List Mj)(l:List Bx)(hl:l.length<=1073741824)(uR:∀n,n<l.length->0<=(l.getD n fe).2.2.1/\(l.getD n fe).2.2.1<=999)(hp:p.length<=1048576)(c:Int):
  Sm Any (tt (a0,a1,a2,a3,a4,a5,a6,a7,a8,a9,a10,s,p,g,j,k,i,l,()) (c,0,())) (Js (a0,a1,a2,a3,a4,a5,a6,a7,a8,a9,a10,s,p,g,j,k,s,ai s,k,QE,ai QE,i,l,ai l,()) (c,0,())):=by
 refine Lj (B:=Int) (Q:=Any) l.length (by omega) (fun _=>True) (fun b n hn _=>?_) (fun b _=>?_) c trivial
 ·unfold sS Jp;obtain⟨h0,h9⟩:=uR n hn;revert h0 h9;simp only[aj,ax,hn,decide_true,cond_true,ak,au (n:=n) (by omega),ey,Option.bind_some,aR];generalize l.getD n fe=x;intro h0 h9;refine .cond (fun _=>.ret ⟨trivial,rfl⟩) fun hz=>?_;have hz:¬x.2.2.1=0:=fun e=>by rw[Ml.2 e]at hz;cases hz
  have hb:Bool.not (ko x.2.2.1 1 (ai p))=af .gtr x.2.2.1 (ai p):=by
   cases hq:af .gtr x.2.2.1 (ai p)with
   |true=>
    have:=Rt.1 hq;have:ko x.2.2.1 1 (ai p)=false:=by rw[Bool.eq_false_iff,ne_eq,gg];omega
    rw[this];rfl
   |false=>have:=PR.1 hq;have:ko x.2.2.1 1 (ai p)=true:=gg.2 ⟨by omega,by omega⟩;rw[this];rfl
  rw[hb];refine .cond (fun _=>.ret trivial) fun hg=>?_;have hg:=PR.1 hg;unfold ai at hg;rw[bM (by omega) (by omega)];refine .guard (L4 (by omega) (by omega)) (L4 (by omega) (by omega)) ?_;generalize ae bg p (x.2.2.1-1)=y;cases af .neq y.2.2.1 k <;> cases af .neq y.1 x.2.1 <;> cases af .neq y.2.2.2.1 2 <;> cases af .neq y.2.2.2.1 3 <;> cases af .eql y.2.2.2.1 2 <;> cases x.2.2.2 <;> first|exact .ret trivial|exact .ret ⟨trivial,rfl⟩
 ·unfold sS Jp;simp only[aj,Nat.lt_irrefl,decide_false,cond_false];exact .ret trivial
theorem QG(k:Nat)(hk:k<s.length)(hs:Ki 1073741824 (s.getD k e6))(hb:tW (s.getD k e6).2.2.1=true)(hp:p.length<=1048576)(c:Int):
  Sm Any (s4 (a0,a1,a2,a3,a4,a5,a6,a7,a8,a9,a10,s,p,g,j,(k:Int),()) (c,0,())) (Jr (a0,a1,a2,a3,a4,a5,a6,a7,a8,a9,a10,s,p,g,j,(k:Int),s,ai s,(k:Int),(s.getD k e6).2.2.1,ai (s.getD k e6).2.2.1,()) (c,0,())):=by
 have hw:=MT hs;refine Lj (B:=Int) (Q:=Any) (s.getD k e6).2.2.1.length (by have:=hw.1;omega) (fun _=>True) (fun b n hn _=>?_) (fun b _=>?_) c trivial
 ·unfold sL Jo;have hz:s.getD k aS=s.getD k e6:=rfl;simp only[ax,hk,decide_true,cond_true,ak,hz,aj,hn,au (n:=n) (by have:=hw.1;omega)];refine(QH a0 a1 a2 a3 a4 a5 a6 a7 a8 a9 a10 s p g j (k:Int) (n:Int) (s.getD k e6).2.2.1 (b9 (s.getD k e6).2.2.1 n).2.2 (hw.at hn).2 (fun m hm=>?_) hp b).bind fun q _=>?_
  ·unfold tW at hb;rw[Bool.and_eq_true]at hb;have:=(aO _ _).1 hb.2 n (Nat.zero_le _) (by omega);unfold KF NB at this;simp only[Bool.and_eq_true]at this;have:=(aO _ _).1 this.1.2.1.1 m (Nat.zero_le _) (by omega);unfold OP at this;simp only[Bool.and_eq_true]at this;exact gg.1 this.1.1.2
  ·cases q with
   |inl y=>exact .ret trivial
   |inr q=>
    cases q with
    |inl y=>exact .ret ⟨trivial,rfl⟩
    |inr e=>exact e.elim
 ·unfold sL Jo;have hz:s.getD k aS=s.getD k e6:=rfl;simp only[ax,hk,decide_true,cond_true,ak,hz,aj,Nat.lt_irrefl,decide_false,cond_false];exact .ret trivial
theorem PG(hle:NK s p g j)(hb:∀k,k<s.length->tW (s.getD k e6).2.2.1=true):Sm Any (r6 a0 a1 a2 a3 a4 a5 a6 a7 a8 a9 a10 s p g j) (JK a0 a1 a2 a3 a4 a5 a6 a7 a8 a9 a10 s p g j):=by
 have hls:=hle.ls;have RE:=hle.lp;unfold r6 JK;refine(Lj (B:=Int) (Q:=Any) s.length (by omega) (fun _=>True) (fun b n hn _=>?_) (fun b _=>?_) (0:Int) trivial).bind fun q _=>?_
 ·unfold r7 Jn;have hz:∀n,s.getD n aS=s.getD n e6:=fun _=>rfl;simp only[aj,ax,hn,decide_true,cond_true,ak,au (n:=n) (by omega),hz];refine(QG a0 a1 a2 a3 a4 a5 a6 a7 a8 a9 a10 s p g j n hn (hle.ss n hn) (hb n hn) RE b).bind fun q _=>?_;cases q with
  |inl y=>exact .ret trivial
  |inr q=>
   cases q with
   |inl y=>exact .ret ⟨trivial,rfl⟩
   |inr e=>exact e.elim
 ·unfold r7 Jn;simp only[aj,Nat.lt_irrefl,decide_false,cond_false];exact .ret trivial
 ·cases q with
  |inl y=>exact .ret trivial
  |inr q=>
   cases q with
   |inr e=>exact e.elim
   |inl y=>
    refine(Lj (B:=Int) (Q:=Any) p.length (by omega) (fun _=>True) (fun b n hn _=>?_) (fun b _=>?_) y.1 trivial).bind fun q _=>?_
    ·unfold s3 Jq;simp only[aj,ax,hn,decide_true,cond_true,ak,au (n:=n) (by omega)];exact .cond (fun _=>.ret ⟨trivial,rfl⟩) fun _=>.cond (fun _=>.ret ⟨trivial,rfl⟩) fun _=>.ret ⟨trivial,rfl⟩
    ·unfold s3 Jq;simp only[aj,Nat.lt_irrefl,decide_false,cond_false];exact .ret trivial
    ·cases q with
     |inl y=>exact .ret trivial
     |inr e=>exact e.elim
structure RT:Prop where
 UG:MS a0 a1 a2 a3 a4 a5 a6 a7=true
 room:0<=a8/\a8<=1000
 Sr:1<=a9/\a9<=2147483646
 now:0<=a10/\a10<=20000
 sites:1<=s.length/\s.length<=3
 IQ:p.length<=12
 jr:O1 j=true
 QE:∀n,n<s.length->tW (s.getD n e6).2.2.1=true
 mQ:∀n,n<p.length->0<=(p.getD n bg).2.2.1/\(p.getD n bg).2.2.1<s.length
 who:∀n,n<p.length->(p.getD n bg).2.2.2.1=4->1<=(p.getD n bg).2.2.2.2.2.2.2.2.2.2.2.1/\(p.getD n bg).2.2.2.2.2.2.2.2.2.2.2.1<=40
theorem Pg(hle:NK s p g j):Sm (fun r=>r.1=true->RT a0 a1 a2 a3 a4 a5 a6 a7 a8 a9 a10 s p j) (Ex a0 a1 a2 a3 a4 a5 a6 a7 a8 a9 a10 s p g j) (vn a0 a1 a2 a3 a4 a5 a6 a7 a8 a9 a10 s p g j):=by
 have hls:=hle.ls;have RE:=hle.lp;have VR:=hle.lg;unfold Ex vn;have no:∀ {Q:Prop},((false:Bool),()).1=true->Q:=fun h=>by cases h
 have tr:∀ {b:Bool},Bool.not b=false->b=true:=fun {b} h=>by cases b with|true=>rfl|false=>cases h
 refine(O6 (N3 ..) (NX ..)).bind fun r hr=>.cond (fun _=>.ret no) fun f1=>?_;subst hr;refine(Mk a8 0 1000).bind fun r hr=>.cond (fun _=>.ret no) fun f2=>?_;subst hr;refine Sm.bind (P:=fun r=>r=(ko a9 1 2147483646,())) (by unfold hM ik;rw[Je,ey];exact .ret rfl) fun r hr=>.cond (fun _=>.ret no) fun f3=>?_;subst hr;refine(O6 (Je a10 0 20000) (NM a10)).bind fun r hr=>.cond (fun _=>.ret no) fun f4=>?_;subst hr;refine(Mk (ai s) 1 3).bind fun r hr=>.cond (fun _=>.ret no) fun f5=>.cond (fun _=>.ret no) fun f6=>?_;subst hr;refine(Pd g (by omega)).bind fun r _=>.cond (fun _=>.ret no) fun _=>?_;refine(O6 (OE j) (Ox j)).bind fun r hr=>.cond (fun _=>.ret no) fun f7=>?_;subst hr;refine(OC s.length (by omega) (fun n=>tW (s.getD n e6).2.2.1=true) (Q:=fun y=>match y with| .inl y=>y.1=false| .inr _=>∀n,n<s.length->tW (s.getD n e6).2.2.1=true) (fun n hn=>?_) (fun hF=>?_)).bind fun q hq=>?_
 ·unfold FI vp;simp only[aj,hn,decide_true,cond_true,au (n:=n) (by omega)];refine(Qh a0 a1 a2 a3 a4 a5 a6 a7 a8 a9 a10 s p g j n hn (hle.ss n hn) RE).bind fun r hr=>.cond (fun _=>.ret rfl) fun hb=>.ret ⟨rfl,hr ?_⟩;cases h:r.1 with|true=>rfl|false=>rw[h]at hb;cases hb
 ·unfold FI vp;simp only[aj,Nat.lt_irrefl,decide_false,cond_false];exact .ret hF
 ·cases q with
  |inl y=>exact .ret fun h=>by have hq:y.1=false:=hq;rw[hq]at h;cases h
  |inr q=>
   cases q with
   |inr e=>exact e.elim
   |inl y=>
    have Qt:∀n,n<s.length->tW (s.getD n e6).2.2.1=true:=hq;refine(OC p.length (by omega) (fun n=>(0<=(p.getD n bg).2.2.1/\(p.getD n bg).2.2.1<s.length)/\((p.getD n bg).2.2.2.1=4->1<=(p.getD n bg).2.2.2.2.2.2.2.2.2.2.2.1/\(p.getD n bg).2.2.2.2.2.2.2.2.2.2.2.1<=40)) (Q:=fun y=>match y with| .inl y=>y.1=false| .inr _=>∀n,n<p.length->(0<=(p.getD n bg).2.2.1/\(p.getD n bg).2.2.1<s.length)/\((p.getD n bg).2.2.2.1=4->1<=(p.getD n bg).2.2.2.2.2.2.2.2.2.2.2.1/\(p.getD n bg).2.2.2.2.2.2.2.2.2.2.2.1<=40)) (fun n hn=>?_) (fun hF=>?_)).bind fun q hq=>?_
    ·unfold IA vv;simp only[aj,hn,decide_true,cond_true,au (n:=n) (by omega)];refine(Ph a0 a1 a2 a3 a4 a5 a6 a7 a8 a9 a10 s p g j n hn hls).bind fun r hr=>.cond (fun _=>.ret rfl) fun hb=>.ret ⟨rfl,hr ?_⟩;cases h:r.1 with|true=>rfl|false=>rw[h]at hb;cases hb
    ·unfold IA vv;simp only[aj,Nat.lt_irrefl,decide_false,cond_false];exact .ret hF
    ·cases q with
     |inl y=>exact .ret fun h=>by have hq:y.1=false:=hq;rw[hq]at h;cases h
     |inr q=>
      cases q with
      |inr e=>exact e.elim
      |inl y=>
       refine(PG a0 a1 a2 a3 a4 a5 a6 a7 a8 a9 a10 s p g j hle Qt).bind fun r _=>.cond (fun _=>?_) fun _=>.ret no;have i5:=gg.1 (tr f5);have i6:¬(ai p>(12:Int)):=of_decide_eq_false f6;refine(Qc a0 a1 a2 a3 a4 a5 a6 a7 a8 a9 a10 s p g j RE (fun n hn=>(hq n hn).1)).bind fun r _=>.ret fun _=>⟨tr f1,gg.1 (tr f2),gg.1 (tr f3),gg.1 (tr f4),?_,?_,tr f7,Qt,fun n hn=>(hq n hn).1,fun n hn=>(hq n hn).2⟩
       ·unfold ai at i5;omega
       ·unfold ai at i6;omega
end
end Go.Fn
set_option linter.unusedVariables false
set_option linter.unusedSimpArgs false
namespace Go.Fn
open Go.R
theorem cT{β:Type}{b:Bool}{x y:β}(h:b=true):(bif b then x else y)=x:=by rw[h];rfl
theorem cF{β:Type}{b:Bool}{x y:β}(h:b=false):(bif b then x else y)=y:=by rw[h];rfl
theorem Rr{α β:Type}{x:Option α}{r:α}{f:α->Option β}(h:x=some r):x.bind f=f r:=by rw[h];rfl
end Go.Fn
set_option linter.unusedVariables false
set_option linter.unusedSimpArgs false
namespace Go.Fn
open Go.R
abbrev Wk:=List Od×List Od
end Go.Fn
set_option linter.unusedVariables false
set_option linter.unusedSimpArgs false
namespace Go.Fn
open Go.R
theorem QB{α:Type}(l m:List α):List.append l m=l++m:=rfl
end Go.Fn
namespace Go.R
open Go.Shelf Go.Proofs
def rZ(n:Int):Bool:=decide (-9223372036854775808<=n)&&decide (n<=9223372036854775807)
theorem r8{n:Int}:rZ n=true ↔ -9223372036854775808<=n/\n<=9223372036854775807:=by unfold rZ;rw[Bool.and_eq_true,decide_eq_true_iff,decide_eq_true_iff]
def wK:Array Value:=(Lib.pow10Tab.map fun z=>Value.int .u64 z).toArray
def CS:ij:=⟨true,[.one (.val (.int .i64))],[.one (.val .str)],fun x=>bif rZ x.1 then some (ByteArray.mk (Lib.itoa x.1).toArray,())else none⟩
theorem Fm {P:Program} {ρ:Ren} (L:LaysM.n171 P ρ) {g:Nat} (hg:P.globalNamed "internal/strconv.uint64pow10" = some g) (hT:(g, wK) ∈ Co):eA P (ρ.f 171) CS:=by
 refine⟨⟨_,_,L.f171,rfl,rfl⟩,?_⟩;intro w ω us x y ry hinj hdom hsh hfn;obtain⟨n,u0⟩:=x;have hfn:(bif rZ n then some (ByteArray.mk (Lib.itoa n).toArray,())else none)=some y:=hfn;cases hi:rZ n with
 |false=>rw[hi]at hfn;cases hfn
 |true=>
  rw[hi]at hfn;injection hfn with hfn
  subst hfn;have hi:=r8.1 hi;match us,hsh with
  | [u],hsh=>
  obtain⟨_,⟨v0,zu,hr⟩,_⟩:=hsh;injection zu with zu _
  subst zu;have hr:u=.int .i64 n:=hr;subst hr;obtain⟨_,_,T,m,h3⟩:=ry _ hT;have htab:Lib.TabIs P w "internal/strconv.uint64pow10" .u64 Lib.pow10Tab:=by unfold Lib.TabIs World.var?;rw[hg];show(match w.heap[g]? with|some (.cells cs _ _)=>some cs|_=>none)=_;rw[h3];rfl
  refine(Any.strconv_Itoa L n hi.1 hi.2 w htab).mono ?_;rintro ex w' ⟨rfl,k,os,rfl⟩;have hb:=Lib.below_grow w.heap.size w (Nat.le_refl _) k os;exact⟨_,ω,rfl,⟨hb.os,hb.tape,hb.output,hb.size,fun b hlt _=>⟨hb.block b hlt,rfl⟩⟩,hinj,fun b k hk=>Nat.lt_of_lt_of_le (hdom b k hk) hb.size,⟨rfl,⟨_,rfl,rfl⟩⟩,⟨fun _=>trivial,rfl,rfl⟩⟩
theorem Fb {P:Program} {w:World} {g:Nat} (hg:P.globalNamed "internal/strconv.uint64pow10" = some g) (hG:Co = [(g, wK)]) (h:Lib.TabIs P w "internal/strconv.uint64pow10" .u64 Lib.pow10Tab):xQ w aJ.gx:=fun q hq=>by
 rw[hG,List.mem_singleton]at hq;subst hq;unfold Lib.TabIs World.var? at h;rw[hg]at h;have h:(match w.heap[g]? with|some (.cells cs _ _)=>some cs|_=>none)=some wK:=h;split at h
 ·rename_i cs T m e;injection h with h
  subst h;exact⟨(Array.getElem?_eq_some_iff.1 e).1,rfl,T,m,e⟩
 ·cases h
end Go.R
set_option linter.unusedVariables false
namespace Go.Fn
open Go.R
noncomputable def lf(a:Int):Nn:=cond (af .lss a 10) (some (aq .u8 (aa .add .i64 48 a),())) (some (aq .u8 (aa .sub .i64 (aa .add .i64 97 a) 10),()))
noncomputable def gI(a:PF)(b:Int×RO):Option (Int×RO⊕RO⊕Empty):=letI c:=b.2.1;letI d:=az 10;letI e:=aa .rem .i64 b.1 10;letI f:=aa .quo .i64 b.1 10;cond (af .neq b.1 0) (cond d none (cond (af .lss e 0) ((lf (DA .i64 e)).bind fun g=>cond (nL (lU (List.append (α:=Int) ([]:LK) [g.1])) c) (cond d none (some (.inl (f,ByteArray.append (lU (List.append (α:=Int) ([]:LK) [g.1])) c,())))) none) ((lf e).bind fun g=>cond (nL (lU (List.append (α:=Int) ([]:LK) [g.1])) c) (cond d none (some (.inl (f,ByteArray.append (lU (List.append (α:=Int) ([]:LK) [g.1])) c,())))) none))) (some (.inr (.inl (c,()))))
noncomputable def k3 k x:=iter (gI k) big x
noncomputable def ev(a:Int):Rm:=letI b:=af .lss a 0;cond (af .eql a 0) (some (ByteArray.mk #[48],())) ((k3 (b,()) (a,ByteArray.mk #[],())).bind fun c=>Sum.elim (fun d=>cond b (cond (nL (ByteArray.mk #[45]) d.1) (some (ByteArray.append (ByteArray.mk #[45]) d.1,())) none) (some (d.1,()))) (fun d=>Empty.elim d) c)
noncomputable def strconv_Itoa(a:Int):Rm:=cond (rZ a) (some (ByteArray.mk (Lib.itoa a).toArray,())) none
noncomputable def er(a:Int):Rm:=(strconv_Itoa a).bind fun b=>some (b.1,())
end Go.Fn
set_option linter.unusedVariables false
set_option linter.unusedSimpArgs false
namespace Go.Fn
open Go.R
noncomputable def Q0(n:Nat):ByteArray:=ByteArray.mk (Lib.decDigits n).toArray
theorem QC(a b:ByteArray):ByteArray.append a b=a++b:=rfl
theorem QD(a b:List UInt8):ByteArray.append (ByteArray.mk a.toArray) (ByteArray.mk b.toArray)=ByteArray.mk (a++b).toArray:=by rw[QC];apply ByteArray.ext;simp
theorem PV(x:Int):lU [x]=ByteArray.mk [UInt8.ofNat x.toNat].toArray:=by apply ByteArray.ext;rfl
theorem fits{x y:ByteArray}(h:x.size+y.size<=1073741824):nL x y=true:=decide_eq_true (by omega)
theorem NY(l:List UInt8):(ByteArray.mk l.toArray).size=l.length:=by show l.toArray.size=_;simp
theorem QJ{d:Nat}(h:d<10):lf (d:Int)=some (((48+d:Nat):Int),()):=by
 unfold lf;rw[show af .lss (d:Int) 10=true by simp only[af,decide_eq_true_eq];omega];have:aa .add .i64 48 (d:Int)=((48+d:Nat):Int):=by rw[bU (by omega) (by omega)];omega
 rw[this];have:∀d:Fin 10,aq .u8 ((48+d.val:Nat):Int)=((48+d.val:Nat):Int):=by decide +kernel
 rw[this ⟨d,h⟩];rfl
theorem RK(n:Nat):aa .rem .i64 (n:Int) 10=((n % 10:Nat):Int):=rfl
theorem RJ{n:Nat}(h:n<=1000000000000000000):aa .quo .i64 (n:Int) 10=((n / 10:Nat):Int):=by have:aa .quo .i64 (n:Int) 10=IntKind.i64.wrap ((n / 10:Nat):Int):=rfl;rw[this];exact zx (by omega) (by omega)
theorem PL{n:Nat}(h0:0<n)(h1:n<=1000000000000000000)(s:List UInt8)(hs:s.length<=1000000):
  gI (false,()) ((n:Int),ByteArray.mk s.toArray,())=some (.inl (((n / 10:Nat):Int),ByteArray.mk (UInt8.ofNat (48+n % 10)::s).toArray,())):=by
 unfold gI;have e1:af .neq (n:Int) 0=true:=by simp only[af,bne_iff_ne,ne_eq];omega
 have e2:af .lss ((n % 10:Nat):Int) 0=false:=k6 (by omega);have e3:az (10:Int)=false:=rfl;simp only[e1,e2,e3,RK,RJ h1,QJ (Nat.mod_lt n (by decide:0<10)),cond_true,cond_false,Option.bind_some,QB,List.nil_append,PV];rw[fits (by rw[NY,NY];simp only[List.length_cons,List.length_nil];omega),QD];rfl
theorem P4{n:Nat}(h:0<n)(s:List UInt8):(if n / 10=0 then []else Lib.decDigits (n / 10))++(UInt8.ofNat (48+n % 10)::s)=Lib.decDigits n++s:=by
 by_cases h1:n<10
 ·rw[if_pos (by omega),Lib.decDigits_one h1,show n % 10=n by omega];rfl
 ·rw[if_neg (by omega)];have:Lib.decDigits n=Lib.decDigits (n / 10)++[UInt8.ofNat (48+n % 10)]:=by conv=>lhs;rw[Lib.decDigits,dif_neg h1]
  rw[this,List.append_assoc];rfl
theorem Ov:∀(k n:Nat) (s:List UInt8) (f:Nat),n<=1000000000000000000->s.length+k<=60->n<10 ^ k->k<f ->
  iter (gI (false,())) f ((n:Int),ByteArray.mk s.toArray,())=some (.inl (ByteArray.mk ((if n=0 then []else Lib.decDigits n)++s).toArray,()))
 |k,n,s,0,_,_,_,hf=>absurd hf (Nat.not_lt_zero _)
 |k,n,s,f+1,hn,hs,hk,hf=>by
  by_cases h0:n=0
  ·subst h0;exact av (by unfold gI;rfl)
  ·cases k with
   |zero=>simp at hk;exact absurd hk h0
   |succ k=>rw[aF (PL (by omega) hn s (by omega)),Ov k (n / 10) _ f (by omega) (by simp only[List.length_cons];omega) (by rw[Nat.pow_succ]at hk;omega) (by omega),P4 (by omega),if_neg h0]
theorem Qi{n:Nat}(h:n<=1000000000000000000):ev (n:Int)=some (Q0 n,()):=by
 unfold ev;have e2:af .lss (n:Int) 0=false:=k6 (by omega);by_cases h0:n=0
 ·subst h0;rw[show af .eql ((0:Nat):Int) 0=true from rfl,cond_true];unfold Q0;rw[Lib.decDigits_one (by decide)];rfl
 ·have e1:af .eql (n:Int) 0=false:=by simp only[af,beq_eq_false_iff_ne,ne_eq];omega
  rw[e1,e2];have:=Ov 19 n [] big h (by decide) (by omega) (aN (by decide));have hl:k3 (false,()) ((n:Int),ByteArray.mk #[],())=_:=this;rw[hl,if_neg h0,List.append_nil];rfl
theorem P7{n:Nat}(h:n<=1000000000000000000):er (n:Int)=some (Q0 n,()):=by unfold er strconv_Itoa;rw[show rZ (n:Int)=true from r8.2 ⟨by omega,by omega⟩,Lib.itoa_nonneg];rfl
theorem PY{n:Nat}(h:n<=1000000000000000000):(Q0 n).size<=21:=by unfold Q0;rw[NY,<-Lib.itoa_nonneg];exact Lib.itoa_length_le _ (by omega) (by omega)
theorem Jc(a b:ByteArray):(ByteArray.append a b).size=a.size+b.size:=ByteArray.size_append
end Go.Fn
set_option linter.unusedVariables false
namespace Go.Fn
open Go.R
noncomputable def qB(a:QZ)(b:n3):Option (n3⊕M9⊕RQ):=cond (af .lss b.1 (ai a.1)) ((tv a.1).bind fun c=>letI d:=ae bn a.1 b.1;cond c.1 (cond (ah a.1 b.1) ((j0 d.1 d.2.1 d.2.2 a.2.1).bind fun e=>cond (af .geq e.1 0) (cond (ah a.1 b.1) (cond (ah d.2.2 e.1) (some (.inr (.inl (b.1,(ae fe d.2.2 e.1).1,())))) none) none) (some (.inl (aa .add .i64 b.1 1,())))) none) (some (.inr (.inr (.inl ()))))) (some (.inr (.inr (.inl ()))))
noncomputable def I9 k x:=iter (qB k) big x
noncomputable def Lw(a:Nj)(b:Int):Option M9:=(I9 (a,b,()) (0,())).bind fun c=>Sum.elim (fun d=>some (d.1,d.2.1,())) (fun d=>Sum.elim (fun _=>some (-1,-1,())) (fun e=>Empty.elim e) d) c
noncomputable def JS(a b c d e f g h i j k:Int)(l:LJ)(m:Ll)(n:Lm)(o:Kr)(p:Int):Rm:=(Ex a b c d e f g h i j k l m n o).bind fun q=>cond (Bool.not q.1) (some (ByteArray.mk #[],())) ((bt p 1 (ai m)).bind fun r=>letI s:=aa .sub .i64 p 1;letI t:=(ae bg m s).2.2;letI u:=t.2.1;cond (Bool.not r.1) (some (ByteArray.mk #[],())) (cond (ah m s) (cond (af .eql u 0) (some (ByteArray.mk #[104,117,98],())) (cond (af .eql u 1) (some (ByteArray.mk #[118,97,110],())) (cond (af .eql u 2) ((ev t.1).bind fun v=>cond (nL (ByteArray.mk #[100,111,111,114,32]) v.1) (some (ByteArray.append (ByteArray.mk #[100,111,111,114,32]) v.1,())) none) (cond (af .eql u 3) (cond (ah l t.1) ((Lw (ae aS l t.1).2.2.1 p).bind fun v=>(ev t.1).bind fun w=>cond (nL (ByteArray.mk #[98,111,120,32]) w.1) (cond (nL (ByteArray.append (ByteArray.mk #[98,111,120,32]) w.1) (ByteArray.mk #[32])) ((ev v.1).bind fun x=>cond (nL (ByteArray.append (ByteArray.append (ByteArray.mk #[98,111,120,32]) w.1) (ByteArray.mk #[32])) x.1) (cond (nL (ByteArray.append (ByteArray.append (ByteArray.append (ByteArray.mk #[98,111,120,32]) w.1) (ByteArray.mk #[32])) x.1) (ByteArray.mk #[32])) (lets (ByteArray.append (ByteArray.append (ByteArray.append (ByteArray.append (ByteArray.mk #[98,111,120,32]) w.1) (ByteArray.mk #[32])) x.1) (ByteArray.mk #[32])) fun y=>(ev v.2.1).bind fun z=>cond (nL y z.1) (some (ByteArray.append y z.1,())) none) none) none) none) none) none) (cond (af .eql u 4) ((ev t.2.2.2.2.2.2.2.2.2.1).bind fun v=>cond (nL (ByteArray.mk #[116,97,107,101,110,32]) v.1) (some (ByteArray.append (ByteArray.mk #[116,97,107,101,110,32]) v.1,())) none) (some (ByteArray.mk #[98,97,99,107],()))))))) none))
noncomputable def Lo(a b c:Int)(d:Bool)(e:Int):nw:=some (af .eql c e,())
noncomputable def b8(a:M8×M9)(b:n3):RN:=letI c:=ae fe a.1 b.1;cond (af .lss b.1 a.2.2.1) (cond (ah a.1 b.1) ((Lo c.1 c.2.1 c.2.2.1 c.2.2.2 a.2.1).bind fun d=>cond d.1 (some (.inr (.inl (b.1,())))) (some (.inl (aa .add .i64 b.1 1,())))) none) (some (.inr (.inr (.inl ()))))
noncomputable def ea k x:=iter (b8 k) big x
noncomputable def ec(a:M8)(b:Int):Nn:=(ea (a,b,ai a,()) (0,())).bind fun c=>Sum.elim (fun d=>some (d.1,())) (fun d=>Sum.elim (fun _=>some (-1,())) (fun e=>Empty.elim e) d) c
noncomputable def Kc(a:Int)(b:LK)(c:M8)(d:Int):Nn:=(ec c d).bind fun e=>some (e.1,())
noncomputable def Jt(a:Int)(b:LK)(c:M8)(d:Int):nw:=(Kc a b c d).bind fun e=>some (af .geq e.1 0,())
noncomputable def bu(a:Nj×M9)(b:n3):RN:=letI c:=ae bn a.1 b.1;cond (af .lss b.1 a.2.2.1) (cond (ah a.1 b.1) ((Jt c.1 c.2.1 c.2.2 a.2.1).bind fun d=>cond d.1 (some (.inr (.inl (b.1,())))) (some (.inl (aa .add .i64 b.1 1,())))) none) (some (.inr (.inr (.inl ()))))
noncomputable def cc k x:=iter (bu k) big x
noncomputable def cx(a:Nj)(b:Int):Nn:=(cc (a,b,ai a,()) (0,())).bind fun c=>Sum.elim (fun d=>some (d.1,())) (fun d=>Sum.elim (fun _=>some (-1,())) (fun e=>Empty.elim e) d) c
noncomputable def I3(a:Nj)(b:Int):Nn:=(cx a b).bind fun c=>some (c.1,())
noncomputable def Ln(a:Nj)(b:Int):Option M9:=(I3 a b).bind fun c=>(k4 a).bind fun d=>letI e:=ae bn a c.1;letI f:=some ((-1:Int),(-1:Int),());cond (Bool.not d.1) f (cond (af .lss b 1) f (cond (af .lss c.1 0) f (cond (ah a c.1) (cond (ah a c.1) ((Kc e.1 e.2.1 e.2.2 b).bind fun g=>cond (ah e.2.2 g.1) (some (c.1,(ae fe e.2.2 g.1).1,())) none) none) none)))
noncomputable def JJ(a b c d e f g h i j k:Int)(l:LJ)(m:Ll)(n:Lm)(o:Kr)(p:Int):Rm:=(vn a b c d e f g h i j k l m n o).bind fun q=>cond (Bool.not q.1) (some (ByteArray.mk #[],())) ((br p 1 (ai m)).bind fun r=>letI s:=aa .sub .i64 p 1;letI t:=(ae bg m s).2.2;letI u:=t.2.1;cond (Bool.not r.1) (some (ByteArray.mk #[],())) (cond (ah m s) (cond (af .eql u 0) (some (ByteArray.mk #[104,117,98],())) (cond (af .eql u 1) (some (ByteArray.mk #[118,97,110],())) (cond (af .eql u 2) ((er t.1).bind fun v=>cond (nL (ByteArray.mk #[100,111,111,114,32]) v.1) (some (ByteArray.append (ByteArray.mk #[100,111,111,114,32]) v.1,())) none) (cond (af .eql u 3) (cond (ah l t.1) ((Ln (ae aS l t.1).2.2.1 p).bind fun v=>(er t.1).bind fun w=>cond (nL (ByteArray.mk #[98,111,120,32]) w.1) (cond (nL (ByteArray.append (ByteArray.mk #[98,111,120,32]) w.1) (ByteArray.mk #[32])) ((er v.1).bind fun x=>cond (nL (ByteArray.append (ByteArray.append (ByteArray.mk #[98,111,120,32]) w.1) (ByteArray.mk #[32])) x.1) (cond (nL (ByteArray.append (ByteArray.append (ByteArray.append (ByteArray.mk #[98,111,120,32]) w.1) (ByteArray.mk #[32])) x.1) (ByteArray.mk #[32])) (lets (ByteArray.append (ByteArray.append (ByteArray.append (ByteArray.append (ByteArray.mk #[98,111,120,32]) w.1) (ByteArray.mk #[32])) x.1) (ByteArray.mk #[32])) fun y=>(er v.2.1).bind fun z=>cond (nL y z.1) (some (ByteArray.append y z.1,())) none) none) none) none) none) none) (cond (af .eql u 4) ((er t.2.2.2.2.2.2.2.2.2.1).bind fun v=>cond (nL (ByteArray.mk #[116,97,107,101,110,32]) v.1) (some (ByteArray.append (ByteArray.mk #[116,97,107,101,110,32]) v.1,())) none) (some (ByteArray.mk #[98,97,99,107],()))))))) none))
noncomputable def n2(a b c d e f g h i j k:Int)(l:LJ)(m:Ll)(n:Lm)(o:Kr)(p:Int):nw:=(zb a b c d e f g h i j k l m n o 1048576).bind fun q=>letI r:=some (true,());letI s:=At a b c d e f g h i j k l m n o;cond (af .lss q.1 0) r (s.bind fun t=>letI u:=t.2.2.2.2;letI v:=u.2.2.2;letI w:=v.2.2.2.2;(JS t.1 t.2.1 t.2.2.1 t.2.2.2.1 u.1 u.2.1 u.2.2.1 v.1 v.2.1 v.2.2.1 v.2.2.2.1 w.1 w.2.1 w.2.2.1 w.2.2.2.1 p).bind fun x=>s.bind fun y=>letI z:=y.2.2;letI A:=z.2.2;letI B:=A.2.2.2;letI C:=B.2.2;letI D:=C.2.2;(JJ y.1 y.2.1 z.1 z.2.1 A.1 A.2.1 A.2.2.1 B.1 B.2.1 C.1 C.2.1 D.1 D.2.1 D.2.2.1 D.2.2.2.1 p).bind fun E=>letI F:=some (false,());cond (sA .neq E.1 x.1) F (s.bind fun G=>letI H:=G.2.2.2.2;letI I:=H.2.2.2;letI J:=I.2.2.2.2;(xl y.1 y.2.1 z.1 z.2.1 A.1 A.2.1 A.2.2.1 B.1 B.2.1 C.1 C.2.1 D.1 D.2.1 D.2.2.1 D.2.2.2.1 G.1 G.2.1 G.2.2.1 G.2.2.2.1 H.1 H.2.1 H.2.2.1 I.1 I.2.1 I.2.2.1 I.2.2.2.1 J.1 J.2.1 J.2.2.1 J.2.2.2.1).bind fun K=>cond (Bool.not K.1) F r))
end Go.Fn

