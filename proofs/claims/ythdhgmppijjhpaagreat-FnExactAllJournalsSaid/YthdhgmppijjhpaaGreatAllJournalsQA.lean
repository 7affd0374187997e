import Derived.Test.YthdhgmppijjhpaaGreatRE
import Derived.Lib.SlicesCompact
import Derived.Sort.AssemblyPlain
/- Plain functions that stand for Go functions, and what they answer. Conditions: none. -/
set_option autoImplicit false
set_option linter.unusedVariables false
set_option linter.unusedSimpArgs false
set_option linter.unusedVariables false
namespace Go.Fn
open Go.R
abbrev Kl:=Int×Int×Int×Int×Int×Int×Int
abbrev Rq:=List (Int×Int)
abbrev Q8:=List Int
abbrev Zk:=Int×Int×Int×Bool
abbrev Sn:=List Zk
abbrev SZ:=List (Int×Q8×Sn)
abbrev JP:=List Kl
abbrev YbG:=Rq×Rq×SZ×Int×Int×Bool×Bool×Bool×Int×Int×JP
abbrev Pt:=List YbG
abbrev Oa:=List (Int×Int×Int×Zk)
abbrev YbW:=Int×Int×Int×Int×Int×Int×Kl
abbrev PO:=List YbW
abbrev Nd:=Int×Unit
abbrev VX:=Bool×Unit
abbrev KK:=Option VX
abbrev ZG:=VX⊕Unit⊕Empty
abbrev SY:=Option (Nd⊕ZG)
abbrev OE:=Int×Nd
abbrev U7:=JP×Unit
abbrev YcF:=Int×Pt×PO×Oa×U7
abbrev W8:=Int×Int×Int×Int×Int×Int×Int×Int×Int×Int×YcF
abbrev RN:=JP×Nd
abbrev RO:=Option Nd
abbrev WU:=List (Int×Bool)
abbrev W9:=Option (OE⊕VX⊕Nd⊕Empty)
abbrev Yu:=U7⊕Empty
abbrev Xa:=Option (RN⊕Yu)
abbrev Xb:=Option (RN⊕RN⊕Empty)
abbrev ZA:=Int×Int×Int×Int×Int×Int×Int×Int×Int×Int×Int×Pt×PO×Oa×RN
abbrev Zh:=Option (Nd⊕Nd⊕Unit⊕Empty)
abbrev ZB:=JP×VX⊕Yu
abbrev Wp:=Int×OE
abbrev Zi:=Int×Int×Int×Int×Wp
abbrev VM:=JP×OE
abbrev Xy:=Option (JP×VX)
abbrev Zj:=Option (OE⊕Nd⊕Empty)
abbrev Wo:=Option U7
abbrev Xc:=Sn×Unit
abbrev ZC:=Option (OE⊕Nd⊕Nd⊕Empty)
abbrev ZD:=Option (VM⊕RN⊕Empty)
abbrev Xd:=SZ×Unit
abbrev WV:=WU×Nd
abbrev Xe:=Sn×Nd
abbrev Xz:=Rq×Unit
abbrev XA:=Pt×Unit
abbrev XB:=Oa×Unit
abbrev Zl:=Int×Q8×Xc
abbrev ZE:=Int×Int×Int×VX
abbrev ZF:=Option (RN⊕ZB)
abbrev Yv:=Option OE
abbrev XC:=Q8×Nd
abbrev XD:=SZ×Nd
abbrev Yw:=Q8×Unit
abbrev Yx:=PO×Unit
abbrev Yy:=Rq×Nd
abbrev Yz:=Pt×Nd
abbrev YA:=PO×Nd
abbrev YcE:=Int×Int×Int×Bool×Nd
noncomputable def bg:Kl:=(0,0,0,0,0,0,0)
noncomputable def PU(a b c d e f g:Int):Option Zi:=some (a,b,c,d,e,f,g,())
noncomputable def jj(a b c:Int):KK:=cond (af .geq a b) (some (af .leq a c,())) (some (false,()))
noncomputable def NP(a b c d e f g:Int):KK:=(jj a 0 5).bind fun h=>letI i:=some (false,());cond h.1 ((jj b 1 999).bind fun j=>cond j.1 ((jj c 1 100000).bind fun k=>cond k.1 ((jj d 1 4).bind fun l=>cond l.1 ((jj e 1 999).bind fun m=>cond m.1 ((jj f 0 20000).bind fun n=>cond n.1 ((jj g 0 20000).bind fun o=>some (o.1,())) i) i) i) i) i) i
noncomputable def ik(a b c:Int):KK:=cond (af .geq a b) (some (af .leq a c,())) (some (false,()))
noncomputable def JR(a:Int):KK:=(ik a 0 20000).bind fun b=>some (b.1,())
noncomputable def NH(a b c d e f g:Int):KK:=(ik a 0 5).bind fun h=>letI i:=some (false,());cond h.1 ((ik b 1 999).bind fun j=>cond j.1 ((ik c 1 100000).bind fun k=>cond k.1 ((ik d 1 4).bind fun l=>cond l.1 ((ik e 1 999).bind fun m=>cond m.1 ((JR f).bind fun n=>cond n.1 ((JR g).bind fun o=>some (o.1,())) i) i) i) i) i) i
noncomputable def Lc(a:JP)(b:Int):RO:=letI c:=aa .sub .i64 b (ai a);cond (af .lss c 0) (some (-1,())) (some (c,()))
noncomputable def KT(a:U7)(b:RN):Xa:=letI c:=b.2.1;letI d:=ae bg a.1 c;letI e:=d.2.2.2;cond (af .lss c (ai a.1)) (cond (ah a.1 c) ((PU d.1 d.2.1 d.2.2.1 e.1 e.2.1 e.2.2.1 e.2.2.2).bind fun f=>letI g:=f.2.2.2;cond (ah b.1 c) (some (.inl (aC b.1 c (f.1,f.2.1,f.2.2.1,g.1,g.2.1,g.2.2.1,g.2.2.2.1),aa .add .i64 c 1,()))) none) none) (some (.inr (.inl (b.1,()))))
noncomputable def KU k x:=iter (KT k) big x
noncomputable def Le(a:JP):Wo:=letI b:=(0:Int);cond (cI (ai a)) ((KU (a,()) (cW (ai a) (b,b,b,b,b,b,b),b,())).bind fun c=>Sum.elim (fun d=>some (d.1,())) (fun d=>Empty.elim d) c) none
noncomputable def Mj(a:U7)(b:Nd):SY:=letI c:=ae bg a.1 b.1;letI d:=c.2.2;cond (af .lss b.1 (ai a.1)) (cond (ah a.1 b.1) ((NP c.1 c.2.1 d.1 d.2.1 d.2.2.1 d.2.2.2.1 d.2.2.2.2).bind fun e=>letI f:=(false,());letI g:=af .gtr b.1 0;letI h:=aa .sub .i64 b.1 1;letI i:=(aa .add .i64 b.1 1,());letI j:=ah a.1 h;letI k:=ae bg a.1 h;letI l:=af .eql c.1 k.1;letI m:=af .leq c.2.1 k.2.1;letI n:=af .leq d.1 k.2.2.1;cond (Bool.not e.1) (some (.inr (.inl f))) (cond g (cond j (cond (af .lss c.1 k.1) (some (.inr (.inl f))) (cond g (cond j (cond l (cond j (cond m (some (.inr (.inl f))) (cond j (cond n (some (.inr (.inl f))) (some (.inl i))) none)) none) (some (.inl i))) none) (some (.inl i)))) none) (cond g (cond j (cond l (cond j (cond m (some (.inr (.inl f))) (cond j (cond n (some (.inr (.inl f))) (some (.inl i))) none)) none) (some (.inl i))) none) (some (.inl i))))) none) (some (.inr (.inr (.inl ()))))
noncomputable def Mk k x:=iter (Mj k) big x
noncomputable def Js(a:JP):KK:=cond (af .gtr (ai a) 60) (some (false,())) ((Mk (a,()) (0,())).bind fun b=>Sum.elim (fun c=>some (c.1,())) (fun c=>Sum.elim (fun _=>some (true,())) (fun d=>Empty.elim d) c) b)
noncomputable def LL(a:JP×RN)(b:Nd):SY:=letI c:=ae bg a.2.1 b.1;letI d:=c.2.2;cond (af .lss b.1 a.2.2.1) (cond (ah a.2.1 b.1) ((NH c.1 c.2.1 d.1 d.2.1 d.2.2.1 d.2.2.2.1 d.2.2.2.2).bind fun e=>letI f:=(false,());letI g:=aa .sub .i64 b.1 1;letI h:=(aa .add .i64 b.1 1,());letI i:=ae bg a.1 g;cond (Bool.not e.1) (some (.inr (.inl f))) (cond (af .eql b.1 0) (some (.inl h)) (cond (ah a.1 g) (cond (af .lss c.1 i.1) (some (.inr (.inl f))) (cond (af .eql c.1 i.1) (cond (af .leq c.2.1 i.2.1) (some (.inr (.inl f))) (cond (af .leq d.1 i.2.2.1) (some (.inr (.inl f))) (some (.inl h)))) (some (.inl h)))) none))) none) (some (.inr (.inr (.inl ()))))
noncomputable def LM k x:=iter (LL k) big x
noncomputable def Jm(a:JP):KK:=cond (af .gtr (ai a) 60) (some (false,())) ((LM (a,a,ai a,()) (0,())).bind fun b=>Sum.elim (fun c=>some (c.1,())) (fun c=>Sum.elim (fun _=>some (true,())) (fun d=>Empty.elim d) c) b)
noncomputable def NK(a b c d e f g h i j k l m n:Int):KK:=letI o:=some (false,());cond (af .neq a h) o (cond (af .neq b i) o (cond (af .neq c j) o (cond (af .neq d k) o (cond (af .neq e l) o (cond (af .neq f m) o (cond (af .neq g n) o (some (true,()))))))))
noncomputable def Mz(a:JP×U7)(b:Nd):SY:=letI c:=ae bg a.1 b.1;letI d:=ae bg a.2.1 b.1;letI e:=c.2.2.2;letI f:=d.2.2.2;cond (af .lss b.1 (ai a.1)) (cond (ah a.1 b.1) (cond (ah a.2.1 b.1) ((NK c.1 c.2.1 c.2.2.1 e.1 e.2.1 e.2.2.1 e.2.2.2 d.1 d.2.1 d.2.2.1 f.1 f.2.1 f.2.2.1 f.2.2.2).bind fun g=>cond (Bool.not g.1) (some (.inr (.inl (false,())))) (some (.inl (aa .add .i64 b.1 1,())))) none) none) (some (.inr (.inr (.inl ()))))
noncomputable def MA k x:=iter (Mz k) big x
noncomputable def JK(a b:JP):KK:=cond (af .neq (ai a) (ai b)) (some (false,())) ((MA (a,b,()) (0,())).bind fun c=>Sum.elim (fun d=>some (d.1,())) (fun d=>Sum.elim (fun _=>some (true,())) (fun e=>Empty.elim e) d) c)
end Go.Fn
set_option linter.unusedVariables false
namespace Go.Fn
open Go.R
noncomputable def zI:Int:=0
noncomputable def Oq(a:Q8×Yw)(b:Nd):SY:=cond (af .lss b.1 (ai a.1)) (cond (ah a.1 b.1) (cond (ah a.2.1 b.1) (cond (af .neq (ae zI a.1 b.1) (ae zI a.2.1 b.1)) (some (.inr (.inl (false,())))) (some (.inl (aa .add .i64 b.1 1,())))) none) none) (some (.inr (.inr (.inl ()))))
noncomputable def Ot k x:=iter (Oq k) big x
noncomputable def O8(a b:Q8):KK:=cond (af .neq (ai a) (ai b)) (some (false,())) ((Ot (a,b,()) (0,())).bind fun c=>Sum.elim (fun d=>some (d.1,())) (fun d=>Sum.elim (fun _=>some (true,())) (fun e=>Empty.elim e) d) c)
noncomputable def Kh(a:Unit)(b:VM):ZD:=letI c:=b.2.2.1;letI d:=(ae bg b.1 c).2;cond (af .lss c (ai b.1)) (cond (ah b.1 c) (lets (aC b.1 c (b.2.1,d.1,d.2.1,d.2.2.1,d.2.2.2.1,d.2.2.2.2.1,d.2.2.2.2.2)) fun e=>letI f:=(1:Int);letI g:=aa .add .i64 b.2.1 f;letI h:=(ae bg e c).2.2;cond (ah e c) (lets (aC e c ((ae bg e c).1,g,h.1,h.2.1,h.2.2.1,h.2.2.2.1,h.2.2.2.2)) fun i=>letI j:=ae bg i c;letI k:=j.2.2.2;letI l:=aa .add .i64 g f;cond (ah i c) (lets (aC i c (j.1,j.2.1,l,k.1,k.2.1,k.2.2.1,k.2.2.2)) fun m=>letI n:=ae bg m c;letI o:=n.2.2.2.2;letI p:=aa .add .i64 l f;cond (ah m c) (lets (aC m c (n.1,n.2.1,n.2.2.1,p,o.1,o.2.1,o.2.2)) fun q=>letI r:=ae bg q c;letI s:=aa .add .i64 p f;cond (ah q c) (lets (aC q c (r.1,r.2.1,r.2.2.1,r.2.2.2.1,s,r.2.2.2.2.2.1,r.2.2.2.2.2.2)) fun t=>letI u:=ae bg t c;letI v:=aa .add .i64 s f;cond (ah t c) (lets (aC t c (u.1,u.2.1,u.2.2.1,u.2.2.2.1,u.2.2.2.2.1,v,u.2.2.2.2.2.2)) fun w=>lets (aa .add .i64 v f) fun x=>letI y:=ae bg w c;cond (ah w c) (lets (aC w c (y.1,y.2.1,y.2.2.1,y.2.2.2.1,y.2.2.2.2.1,y.2.2.2.2.2.1,x)) fun z=>some (.inl (z,aa .add .i64 x f,aa .add .i64 c f,()))) none) none) none) none) none) none) none) (some (.inr (.inl (b.1,b.2.1,()))))
noncomputable def Ki k x:=iter (Kh k) big x
noncomputable def JO(a:JP)(b:Int):Option (Int×U7):=(Ki () (a,b,0,())).bind fun c=>Sum.elim (fun d=>some (d.2.1,d.1,())) (fun d=>Empty.elim d) c
noncomputable def KP(a:Unit)(b:Q8×OE):Option (Q8×OE⊕XC⊕Empty):=letI c:=b.2.2.1;cond (af .lss c (ai b.1)) (cond (ah b.1 c) (some (.inl (aC b.1 c b.2.1,aa .add .i64 b.2.1 1,aa .add .i64 c 1,()))) none) (some (.inr (.inl (b.1,b.2.1,()))))
noncomputable def KQ k x:=iter (KP k) big x
noncomputable def MW(a:Q8)(b:Int):Option (Int×Yw):=(KQ () (a,b,0,())).bind fun c=>Sum.elim (fun d=>some (d.2.1,d.1,())) (fun d=>Empty.elim d) c
noncomputable def Mc(a:Yw)(b:XC):Option (XC⊕Yw⊕Empty):=letI c:=b.2.1;cond (af .lss c (ai a.1)) (cond (ah a.1 c) (cond (ah b.1 c) (some (.inl (aC b.1 c (ae zI a.1 c),aa .add .i64 c 1,()))) none) none) (some (.inr (.inl (b.1,()))))
noncomputable def Md k x:=iter (Mc k) big x
noncomputable def Ph(a:Q8):Option Yw:=cond (cI (ai a)) ((Md (a,()) (cW (ai a) (0:Int),0,())).bind fun b=>Sum.elim (fun c=>some (c.1,())) (fun c=>Empty.elim c) b) none
noncomputable def Kf(a:U7)(b:OE):ZC:=letI c:=(1:Int);letI d:=((-1:Int),());letI e:=ah a.1 b.2.1;letI f:=ae bg a.1 b.2.1;letI g:=aa .add .i64 b.1 c;letI h:=f.2.2.2;letI i:=aa .add .i64 g c;letI j:=aa .add .i64 i c;letI k:=aa .add .i64 j c;cond (af .lss b.2.1 (ai a.1)) (cond e (cond (af .neq f.1 b.1) (some (.inr (.inl d))) (cond e (cond (af .neq f.2.1 g) (some (.inr (.inl d))) (cond e (cond (af .neq f.2.2.1 i) (some (.inr (.inl d))) (cond e (cond (af .neq h.1 j) (some (.inr (.inl d))) (cond e (lets (af .neq h.2.1 k) fun l=>letI m:=aa .add .i64 k c;cond l (some (.inr (.inl d))) (cond e (lets (af .neq h.2.2.1 m) fun n=>cond n (some (.inr (.inl d))) (lets (aa .add .i64 m c) fun o=>cond e (cond (af .neq h.2.2.2 o) (some (.inr (.inl d))) (some (.inl (aa .add .i64 o c,aa .add .i64 b.2.1 c,())))) none)) none)) none)) none)) none)) none)) none) (some (.inr (.inr (.inl (b.1,())))))
noncomputable def Kg k x:=iter (Kf k) big x
noncomputable def Kp(a:JP)(b:Int):RO:=(Kg (a,()) (b,0,())).bind fun c=>Sum.elim (fun d=>some (d.1,())) (fun d=>Sum.elim (fun e=>some (e.1,())) (fun e=>Empty.elim e) d) c
end Go.Fn
set_option linter.unusedVariables false
namespace Go.Fn
open Go.R
noncomputable def Zg:Q8:=([]:Q8)
noncomputable def Pe(a:Q8)(b:Int):RO:=letI c:=aa .sub .i64 b (ai a);cond (af .lss c 0) (some (-1,())) (some (c,()))
end Go.Fn
set_option linter.unusedVariables false
namespace Go.Fn
open Go.R
noncomputable def Qk:Int×Int:=(0,0)
noncomputable def L7(a:Rq)(b:Int):RO:=letI c:=aa .sub .i64 b (ai a);cond (af .lss c 0) (some (-1,())) (some (c,()))
noncomputable def Pf(a b:Rq)(c:Int):RO:=(L7 a c).bind fun d=>letI e:=some ((-1:Int),());cond (af .lss d.1 0) e ((L7 b d.1).bind fun f=>cond (af .lss f.1 0) e (some (f.1,())))
noncomputable def Qu(a b:Int):Yv:=some (a,b,())
noncomputable def Ll(a:Xz)(b:Yy):Option (Yy⊕Xz⊕Empty):=letI c:=b.2.1;cond (af .lss c (ai a.1)) (cond (ah a.1 c) ((Qu (ae Qk a.1 c).1 (ae Qk a.1 c).2).bind fun d=>cond (ah b.1 c) (some (.inl (aC b.1 c (d.1,d.2.1),aa .add .i64 c 1,()))) none) none) (some (.inr (.inl (b.1,()))))
noncomputable def Lm k x:=iter (Ll k) big x
noncomputable def Mg(a:Rq):Option Xz:=cond (cI (ai a)) ((Lm (a,()) (cW (ai a) ((0:Int),(0:Int)),0,())).bind fun b=>Sum.elim (fun c=>some (c.1,())) (fun c=>Empty.elim c) b) none
noncomputable def Pj(a b:Rq):Option (Rq×Xz):=(Mg a).bind fun c=>(Mg b).bind fun d=>some (c.1,d.1,())
noncomputable def PW(a b c d e f g h:Int):Option (Int×Zi):=some (a,b,c,d,e,f,g,h,())
noncomputable def Nv(a:Yy)(b:Nd):SY:=letI c:=(false,());letI d:=ae Qk a.1 b.1;letI e:=aa .sub .i64 b.1 1;letI f:=(aa .add .i64 b.1 1,());cond (af .lss b.1 (ai a.1)) (cond (ah a.1 b.1) (cond (af .lss d.1 0) (some (.inr (.inl c))) (cond (af .geq d.1 d.2) (some (.inr (.inl c))) (cond (af .gtr d.2 a.2.1) (some (.inr (.inl c))) (cond (af .gtr b.1 0) (cond (ah a.1 e) (cond (af .leq d.1 (ae Qk a.1 e).2) (some (.inr (.inl c))) (some (.inl f))) none) (some (.inl f)))))) none) (some (.inr (.inr (.inl ()))))
noncomputable def Nw k x:=iter (Nv k) big x
noncomputable def Mo(a:Rq)(b:Int):KK:=cond (af .gtr (ai a) 20) (some (false,())) ((Nw (a,b,()) (0,())).bind fun c=>Sum.elim (fun d=>some (d.1,())) (fun d=>Sum.elim (fun _=>some (true,())) (fun e=>Empty.elim e) d) c)
noncomputable def Nb(a b:Rq):KK:=(Mo a 168).bind fun c=>cond c.1 ((Mo b 20000).bind fun d=>some (d.1,())) (some (false,()))
noncomputable def NQ(a b c d e f g h:Int):KK:=letI i:=(2000:Int);(jj a 1 i).bind fun j=>letI k:=some (false,());cond j.1 ((jj c 1 i).bind fun l=>cond l.1 ((jj f 1 i).bind fun m=>cond m.1 ((jj b 0 i).bind fun n=>cond n.1 ((jj d 0 10000).bind fun o=>cond o.1 ((jj e 0 1000000).bind fun p=>cond p.1 ((jj g 0 100000).bind fun q=>cond q.1 ((jj h 0 20).bind fun r=>some (r.1,())) k) k) k) k) k) k) k
noncomputable def Ng(a:Rq×Int×Yy)(b:Nd):SY:=letI c:=(false,());letI d:=aa .sub .i64 b.1 1;letI e:=ae Qk a.2.2.1 b.1;letI f:=(aa .add .i64 b.1 1,());cond (af .lss b.1 a.2.2.2.1) (cond (ah a.2.2.1 b.1) (cond (af .lss e.1 0) (some (.inr (.inl c))) (cond (af .geq e.1 e.2) (some (.inr (.inl c))) (cond (af .gtr e.2 a.2.1) (some (.inr (.inl c))) (cond (af .gtr b.1 0) (cond (ah a.1 d) (cond (af .leq e.1 (ae Qk a.1 d).2) (some (.inr (.inl c))) (some (.inl f))) none) (some (.inl f)))))) none) (some (.inr (.inr (.inl ()))))
noncomputable def Nh k x:=iter (Ng k) big x
noncomputable def LQ(a:Rq)(b:Int):KK:=cond (af .gtr (ai a) 20) (some (false,())) ((Nh (a,b,a,ai a,()) (0,())).bind fun c=>Sum.elim (fun d=>some (d.1,())) (fun d=>Sum.elim (fun _=>some (true,())) (fun e=>Empty.elim e) d) c)
noncomputable def M5(a b:Rq):KK:=(LQ a 168).bind fun c=>cond c.1 ((LQ b 20000).bind fun d=>some (d.1,())) (some (false,()))
noncomputable def NI(a b c d e f g h:Int):KK:=letI i:=(2000:Int);(ik a 1 i).bind fun j=>letI k:=some (false,());cond j.1 ((ik c 1 i).bind fun l=>cond l.1 ((ik f 1 i).bind fun m=>cond m.1 ((ik b 0 i).bind fun n=>cond n.1 ((ik d 0 10000).bind fun o=>cond o.1 ((ik e 0 1000000).bind fun p=>cond p.1 ((ik g 0 100000).bind fun q=>cond q.1 ((ik h 0 20).bind fun r=>some (r.1,())) k) k) k) k) k) k) k
noncomputable def Pb(a b c d:Int):KK:=letI e:=some (false,());cond (af .neq a c) e (cond (af .neq b d) e (some (true,())))
noncomputable def Nr(a:Rq×Xz)(b:Nd):SY:=letI c:=ae Qk a.1 b.1;letI d:=ae Qk a.2.1 b.1;cond (af .lss b.1 (ai a.1)) (cond (ah a.1 b.1) (cond (ah a.2.1 b.1) ((Pb c.1 c.2 d.1 d.2).bind fun e=>cond (Bool.not e.1) (some (.inr (.inl (false,())))) (some (.inl (aa .add .i64 b.1 1,())))) none) none) (some (.inr (.inr (.inl ()))))
noncomputable def Ns k x:=iter (Nr k) big x
noncomputable def LZ(a b:Rq):KK:=cond (af .neq (ai a) (ai b)) (some (false,())) ((Ns (a,b,()) (0,())).bind fun c=>Sum.elim (fun d=>some (d.1,())) (fun d=>Sum.elim (fun _=>some (true,())) (fun e=>Empty.elim e) d) c)
noncomputable def Pc(a b c d:Rq):KK:=(LZ a c).bind fun e=>letI f:=some (false,());cond (Bool.not e.1) f ((LZ b d).bind fun g=>cond (Bool.not g.1) f (some (true,())))
end Go.Fn
set_option linter.unusedVariables false
namespace Go.Fn
open Go.R
noncomputable def NN(a b c d e f g h i j k l m n o p:Int):KK:=letI q:=some (false,());cond (af .neq a i) q (cond (af .neq b j) q (cond (af .neq c k) q (cond (af .neq d l) q (cond (af .neq e m) q (cond (af .neq f n) q (cond (af .neq g o) q (cond (af .neq h p) q (some (true,())))))))))
end Go.Fn
set_option linter.unusedVariables false
namespace Go.Fn
open Go.R
noncomputable def b7:YbG:=(([]:Rq),([]:Rq),([]:SZ),0,0,false,false,false,0,0,([]:JP))
noncomputable def bt:YbW:=letI a:=(0:Int);(a,a,a,a,a,a,a,a,a,a,a,a,a)
noncomputable def xx:Int×Int×Int×Zk:=(0,0,0,0,0,0,false)
noncomputable def m6:Int×Q8×Sn:=(0,([]:Q8),([]:Sn))
noncomputable def JG:Zk:=(0,0,0,false)
noncomputable def Pd(a:Sn)(b:Int):RO:=letI c:=aa .sub .i64 b (ai a);cond (af .lss c 0) (some (-1,())) (some (c,()))
noncomputable def JU(a:Int)(b:Q8)(c:Sn)(d:Int):RO:=(Pe b d).bind fun e=>letI f:=some ((-1:Int),());cond (af .lss e.1 0) f ((Pd c e.1).bind fun g=>cond (af .lss g.1 0) f (some (g.1,())))
noncomputable def I3(a:Xd)(b:OE):ZC:=letI c:=ae m6 a.1 b.2.1;cond (af .lss b.2.1 (ai a.1)) (cond (ah a.1 b.2.1) ((JU c.1 c.2.1 c.2.2 b.1).bind fun d=>cond (af .lss d.1 0) (some (.inr (.inl (-1,())))) (some (.inl (d.1,aa .add .i64 b.2.1 1,())))) none) (some (.inr (.inr (.inl (b.1,())))))
noncomputable def Kw k x:=iter (I3 k) big x
noncomputable def J5(a:SZ)(b:Int):RO:=letI c:=aa .sub .i64 b (ai a);cond (af .lss c 0) (some (-1,())) ((Kw (a,()) (c,0,())).bind fun d=>Sum.elim (fun e=>some (e.1,())) (fun e=>Sum.elim (fun f=>some (f.1,())) (fun f=>Empty.elim f) e) d)
noncomputable def Ly(a b:Rq)(c:SZ)(d e:Int)(f g h:Bool)(i j:Int)(k:JP)(l:Int):RO:=(Pf a b l).bind fun m=>letI n:=some ((-1:Int),());cond (af .lss m.1 0) n ((J5 c m.1).bind fun o=>cond (af .lss o.1 0) n ((Lc k o.1).bind fun p=>cond (af .lss p.1 0) n (some (p.1,()))))
noncomputable def I7(a:XA)(b:OE):ZC:=letI c:=ae b7 a.1 b.2.1;letI d:=c.2;letI e:=d.2.2.2.2.2;cond (af .lss b.2.1 (ai a.1)) (cond (ah a.1 b.2.1) ((Ly c.1 d.1 d.2.1 d.2.2.1 d.2.2.2.1 d.2.2.2.2.1 e.1 e.2.1 e.2.2.1 e.2.2.2.1 e.2.2.2.2 b.1).bind fun f=>cond (af .lss f.1 0) (some (.inr (.inl (-1,())))) (some (.inl (f.1,aa .add .i64 b.2.1 1,())))) none) (some (.inr (.inr (.inl (b.1,())))))
noncomputable def Lj k x:=iter (I7 k) big x
noncomputable def JS(a:Pt)(b:Int):RO:=letI c:=aa .sub .i64 b (ai a);cond (af .lss c 0) (some (-1,())) ((Lj (a,()) (c,0,())).bind fun d=>Sum.elim (fun e=>some (e.1,())) (fun e=>Sum.elim (fun f=>some (f.1,())) (fun f=>Empty.elim f) e) d)
noncomputable def L6(a:PO)(b:Int):RO:=letI c:=aa .sub .i64 b (ai a);cond (af .lss c 0) (some (-1,())) (some (c,()))
noncomputable def MX(a:Oa)(b:Int):RO:=letI c:=aa .sub .i64 b (ai a);cond (af .lss c 0) (some (-1,())) (some (c,()))
noncomputable def J6(a b c d e f g h i j k:Int)(l:Pt)(m:PO)(n:Oa)(o:JP)(p:Int):RO:=(JS l p).bind fun q=>letI r:=some ((-1:Int),());cond (af .lss q.1 0) r ((L6 m q.1).bind fun s=>cond (af .lss s.1 0) r ((MX n s.1).bind fun t=>cond (af .lss t.1 0) r ((Lc o t.1).bind fun u=>cond (af .lss u.1 0) r (some (u.1,())))))
noncomputable def Ra(a b c:Int)(d:Bool):Option ZE:=some (a,b,c,d,())
noncomputable def L8(a:Xc)(b:Xe):Option (Xe⊕Xc⊕Empty):=letI c:=b.2.1;letI d:=ae JG a.1 c;cond (af .lss c (ai a.1)) (cond (ah a.1 c) ((Ra d.1 d.2.1 d.2.2.1 d.2.2.2).bind fun e=>cond (ah b.1 c) (some (.inl (aC b.1 c (e.1,e.2.1,e.2.2.1,e.2.2.2.1),aa .add .i64 c 1,()))) none) none) (some (.inr (.inl (b.1,()))))
noncomputable def L9 k x:=iter (L8 k) big x
noncomputable def Pg(a:Sn):Option Xc:=cond (cI (ai a)) ((L9 (a,()) (cW (ai a) ((0:Int),(0:Int),(0:Int),false),0,())).bind fun b=>Sum.elim (fun c=>some (c.1,())) (fun c=>Empty.elim c) b) none
noncomputable def Ld(a:Int)(b:Q8)(c:Sn):Option Zl:=(Ph b).bind fun d=>(Pg c).bind fun e=>some (a,d.1,e.1,())
noncomputable def Kx(a:Xd)(b:XD):Option (XD⊕Xd⊕Empty):=letI c:=b.2.1;letI d:=ae m6 a.1 c;cond (af .lss c (ai a.1)) (cond (ah a.1 c) ((Ld d.1 d.2.1 d.2.2).bind fun e=>cond (ah b.1 c) (some (.inl (aC b.1 c (e.1,e.2.1,e.2.2.1),aa .add .i64 c 1,()))) none) none) (some (.inr (.inl (b.1,()))))
noncomputable def Mb k x:=iter (Kx k) big x
noncomputable def Ma(a:SZ):Option Xd:=cond (cI (ai a)) ((Mb (a,()) (cW (ai a) ((0:Int),([]:Q8),([]:Sn)),0,())).bind fun b=>Sum.elim (fun c=>some (c.1,())) (fun c=>Empty.elim c) b) none
noncomputable def Qt(a b:Int)(c d e:Bool):Option (Int×Int×Bool×Bool×VX):=some (a,b,c,d,e,())
noncomputable def M7(a b:Rq)(c:SZ)(d e:Int)(f g h:Bool)(i j:Int)(k:JP):Option (Rq×Rq×SZ×Int×Int×Bool×Bool×Bool×Int×Int×U7):=(Pj a b).bind fun l=>(Ma c).bind fun m=>(Qt d e f g h).bind fun n=>(Le k).bind fun o=>some (l.1,l.2.1,m.1,n.1,n.2.1,n.2.2.1,n.2.2.2.1,n.2.2.2.2.1,i,j,o.1,())
noncomputable def Lk(a:XA)(b:Yz):Option (Yz⊕XA⊕Empty):=letI c:=b.2.1;letI d:=(ae b7 a.1 c).2;letI e:=d.2.2.2.2.2;cond (af .lss c (ai a.1)) (cond (ah a.1 c) ((M7 (ae b7 a.1 c).1 d.1 d.2.1 d.2.2.1 d.2.2.2.1 d.2.2.2.2.1 e.1 e.2.1 e.2.2.1 e.2.2.2.1 e.2.2.2.2).bind fun f=>letI g:=f.2.2.2.2.2;cond (ah b.1 c) (lets (aC b.1 c (f.1,f.2.1,f.2.2.1,f.2.2.2.1,f.2.2.2.2.1,g.1,g.2.1,g.2.2.1,g.2.2.2.1,g.2.2.2.2.1,g.2.2.2.2.2.1)) fun h=>some (.inl (h,aa .add .i64 c 1,()))) none) none) (some (.inr (.inl (b.1,()))))
noncomputable def Nt k x:=iter (Lk k) big x
noncomputable def NO(a:Pt):Option XA:=cond (cI (ai a)) ((Nt (a,()) (cW (ai a) (([]:Rq),([]:Rq),([]:SZ),(0:Int),(0:Int),false,false,false,(0:Int),(0:Int),([]:JP)),0,())).bind fun b=>Sum.elim (fun c=>some (c.1,())) (fun c=>Empty.elim c) b) none
noncomputable def Sf(a b c d e:Int):Option (Int×Int×Wp):=some (a,b,c,d,e,())
noncomputable def Pp(a b c d e f g h i j k l m:Int):Option (Int×Int×Int×Int×Int×Int×Zi):=(Sf g h i j k).bind fun n=>some (a,b,c,d,e,f,n.1,n.2.1,n.2.2.1,n.2.2.2.1,n.2.2.2.2.1,l,m,())
noncomputable def Ky(a:Yx)(b:YA):Option (YA⊕Yx⊕Empty):=letI c:=b.2.1;letI d:=ae bt a.1 c;letI e:=d.2.2;letI f:=e.2.2.2.2.2;cond (af .lss c (ai a.1)) (cond (ah a.1 c) ((Pp d.1 d.2.1 e.1 e.2.1 e.2.2.1 e.2.2.2.1 e.2.2.2.2.1 f.1 f.2.1 f.2.2.1 f.2.2.2.1 f.2.2.2.2.1 f.2.2.2.2.2).bind fun g=>letI h:=g.2.2.2;letI i:=h.2.2.2;letI j:=i.2.2.2;cond (ah b.1 c) (lets (aC b.1 c (g.1,g.2.1,g.2.2.1,h.1,h.2.1,h.2.2.1,i.1,i.2.1,i.2.2.1,j.1,j.2.1,j.2.2.1,j.2.2.2.1)) fun k=>some (.inl (k,aa .add .i64 c 1,()))) none) none) (some (.inr (.inl (b.1,()))))
noncomputable def Kz k x:=iter (Ky k) big x
noncomputable def Mf(a:PO):Option Yx:=letI b:=(0:Int);cond (cI (ai a)) ((Kz (a,()) (cW (ai a) (b,b,b,b,b,b,b,b,b,b,b,b,b),b,())).bind fun c=>Sum.elim (fun d=>some (d.1,())) (fun d=>Empty.elim d) c) none
noncomputable def PV(a b c d e f:Int)(g:Bool):Option (Int×Int×Int×ZE):=some (a,b,c,d,e,f,g,())
noncomputable def KV(a:XB)(b:Oa×Nd):Option (Oa×Nd⊕XB⊕Empty):=letI c:=b.2.1;letI d:=ae xx a.1 c;letI e:=d.2.2.2;cond (af .lss c (ai a.1)) (cond (ah a.1 c) ((PV d.1 d.2.1 d.2.2.1 e.1 e.2.1 e.2.2.1 e.2.2.2).bind fun f=>letI g:=f.2.2.2;cond (ah b.1 c) (some (.inl (aC b.1 c (f.1,f.2.1,f.2.2.1,g.1,g.2.1,g.2.2.1,g.2.2.2.1),aa .add .i64 c 1,()))) none) none) (some (.inr (.inl (b.1,()))))
noncomputable def KW k x:=iter (KV k) big x
noncomputable def MY(a:Oa):Option XB:=cond (cI (ai a)) ((KW (a,()) (cW (ai a) ((0:Int),(0:Int),(0:Int),(0:Int),(0:Int),(0:Int),false),0,())).bind fun b=>Sum.elim (fun c=>some (c.1,())) (fun c=>Empty.elim c) b) none
noncomputable def Me(a b c d e f g h i j k:Int)(l:Pt)(m:PO)(n:Oa)(o:JP):Option W8:=(PW a b c d e f g h).bind fun p=>(NO l).bind fun q=>(Mf m).bind fun r=>(MY n).bind fun s=>(Le o).bind fun t=>letI u:=p.2.2.2.2;some (p.1,p.2.1,p.2.2.1,p.2.2.2.1,u.1,u.2.1,u.2.2.1,u.2.2.2.1,i,j,k,q.1,r.1,s.1,t.1,())
noncomputable def JM(a:Int):KK:=(jj a 1 2147483646).bind fun b=>some (b.1,())
noncomputable def Lh(a b c d e f g h i j k:Int)(l:Pt)(m:PO)(n:Oa)(o:JP)(p:Int):RO:=(JM j).bind fun q=>letI r:=some ((0:Int),());cond (Bool.not q.1) r ((jj p 1 12).bind fun s=>cond (Bool.not s.1) r (cond (ax 2147483646) none (some (aa .add .i64 (aa .rem .i64 (aa .add .i64 j (aa .mul .i64 7919 p)) 2147483646) 1,()))))
noncomputable def JT(a:Int):KK:=(ik a 1 2147483646).bind fun b=>some (b.1,())
noncomputable def La(a b c d e f g h i j k:Int)(l:Pt)(m:PO)(n:Oa)(o:JP)(p:Int):RO:=(JT j).bind fun q=>letI r:=some ((0:Int),());cond (Bool.not q.1) r ((ik p 1 12).bind fun s=>cond (Bool.not s.1) r (cond (ax 2147483646) none (some (aa .add .i64 (aa .rem .i64 (aa .add .i64 j (aa .mul .i64 7919 p)) 2147483646) 1,()))))
noncomputable def PT(a b c:Int)(d:Bool)(e f g:Int)(h:Bool):KK:=letI i:=some (false,());cond (af .neq a e) i (cond (af .neq b f) i (cond (af .neq c g) i (cond (Bool.not (bQ d h)) i (some (true,())))))
noncomputable def On(a:Sn×Xc)(b:Nd):SY:=letI c:=ae JG a.1 b.1;letI d:=ae JG a.2.1 b.1;cond (af .lss b.1 (ai a.1)) (cond (ah a.1 b.1) (cond (ah a.2.1 b.1) ((PT c.1 c.2.1 c.2.2.1 c.2.2.2 d.1 d.2.1 d.2.2.1 d.2.2.2).bind fun e=>cond (Bool.not e.1) (some (.inr (.inl (false,())))) (some (.inl (aa .add .i64 b.1 1,())))) none) none) (some (.inr (.inr (.inl ()))))
noncomputable def Oo k x:=iter (On k) big x
noncomputable def O6(a b:Sn):KK:=cond (af .neq (ai a) (ai b)) (some (false,())) ((Oo (a,b,()) (0,())).bind fun c=>Sum.elim (fun d=>some (d.1,())) (fun d=>Sum.elim (fun _=>some (true,())) (fun e=>Empty.elim e) d) c)
noncomputable def Lb(a:Int)(b:Q8)(c:Sn)(d:Int)(e:Q8)(f:Sn):KK:=letI g:=some (false,());cond (af .neq a d) g ((O8 b e).bind fun h=>cond (Bool.not h.1) g ((O6 c f).bind fun i=>cond (Bool.not i.1) g (some (true,()))))
noncomputable def LS(a:SZ×Xd)(b:Nd):SY:=letI c:=ae m6 a.1 b.1;letI d:=ae m6 a.2.1 b.1;cond (af .lss b.1 (ai a.1)) (cond (ah a.1 b.1) (cond (ah a.2.1 b.1) ((Lb c.1 c.2.1 c.2.2 d.1 d.2.1 d.2.2).bind fun e=>cond (Bool.not e.1) (some (.inr (.inl (false,())))) (some (.inl (aa .add .i64 b.1 1,())))) none) none) (some (.inr (.inr (.inl ()))))
noncomputable def LU k x:=iter (LS k) big x
noncomputable def LR(a b:SZ):KK:=cond (af .neq (ai a) (ai b)) (some (false,())) ((LU (a,b,()) (0,())).bind fun c=>Sum.elim (fun d=>some (d.1,())) (fun d=>Sum.elim (fun _=>some (true,())) (fun e=>Empty.elim e) d) c)
noncomputable def O7(a b:Int)(c d e:Bool)(f g:Int)(h i j:Bool):KK:=letI k:=some (false,());cond (af .neq a f) k (cond (af .neq b g) k (cond (Bool.not (bQ c h)) k (cond (Bool.not (bQ d i)) k (cond (Bool.not (bQ e j)) k (some (true,()))))))
noncomputable def Pa(a b:Rq)(c:SZ)(d e:Int)(f g h:Bool)(i j:Int)(k:JP)(l m:Rq)(n:SZ)(o p:Int)(q r s:Bool)(t u:Int)(v:JP):KK:=(Pc a b l m).bind fun w=>letI x:=some (false,());cond (Bool.not w.1) x ((LR c n).bind fun y=>cond (Bool.not y.1) x ((O7 d e f g h o p q r s).bind fun z=>cond (Bool.not z.1) x (cond (af .neq i t) x (cond (af .neq j u) x ((JK k v).bind fun A=>cond (Bool.not A.1) x (some (true,())))))))
noncomputable def Np(a:Pt×XA)(b:Nd):SY:=letI c:=ae b7 a.1 b.1;letI d:=ae b7 a.2.1 b.1;letI e:=d.2;letI f:=c.2.2;letI g:=f.2.2.2.2;letI h:=e.2.2.2.2.2;cond (af .lss b.1 (ai a.1)) (cond (ah a.1 b.1) (cond (ah a.2.1 b.1) ((Pa c.1 c.2.1 f.1 f.2.1 f.2.2.1 f.2.2.2.1 g.1 g.2.1 g.2.2.1 g.2.2.2.1 g.2.2.2.2 d.1 e.1 e.2.1 e.2.2.1 e.2.2.2.1 e.2.2.2.2.1 h.1 h.2.1 h.2.2.1 h.2.2.2.1 h.2.2.2.2).bind fun i=>cond (Bool.not i.1) (some (.inr (.inl (false,())))) (some (.inl (aa .add .i64 b.1 1,())))) none) none) (some (.inr (.inr (.inl ()))))
noncomputable def Nq k x:=iter (Np k) big x
noncomputable def NM(a b:Pt):KK:=cond (af .neq (ai a) (ai b)) (some (false,())) ((Nq (a,b,()) (0,())).bind fun c=>Sum.elim (fun d=>some (d.1,())) (fun d=>Sum.elim (fun _=>some (true,())) (fun e=>Empty.elim e) d) c)
noncomputable def O9(a b c d e f g h i j:Int):KK:=letI k:=some (false,());cond (af .neq a f) k (cond (af .neq b g) k (cond (af .neq c h) k (cond (af .neq d i) k (cond (af .neq e j) k (some (true,()))))))
noncomputable def MU(a b c d e f g h i j k l m n o p q r s t u v w x y z:Int):KK:=letI A:=some (false,());cond (af .neq a n) A (cond (af .neq b o) A (cond (af .neq c p) A (cond (af .neq d q) A (cond (af .neq e r) A (cond (af .neq f s) A ((O9 g h i j k t u v w x).bind fun B=>cond (Bool.not B.1) A (cond (af .neq l y) A (cond (af .neq m z) A (some (true,()))))))))))
noncomputable def LX(a:PO×Yx)(b:Nd):SY:=letI c:=ae bt a.1 b.1;letI d:=ae bt a.2.1 b.1;letI e:=d.2.2;letI f:=c.2.2.2;letI g:=e.2.2.2.2.2;letI h:=f.2.2.2.2.2;cond (af .lss b.1 (ai a.1)) (cond (ah a.1 b.1) (cond (ah a.2.1 b.1) ((MU c.1 c.2.1 c.2.2.1 f.1 f.2.1 f.2.2.1 f.2.2.2.1 f.2.2.2.2.1 h.1 h.2.1 h.2.2.1 h.2.2.2.1 h.2.2.2.2 d.1 d.2.1 e.1 e.2.1 e.2.2.1 e.2.2.2.1 e.2.2.2.2.1 g.1 g.2.1 g.2.2.1 g.2.2.2.1 g.2.2.2.2.1 g.2.2.2.2.2).bind fun i=>cond (Bool.not i.1) (some (.inr (.inl (false,())))) (some (.inl (aa .add .i64 b.1 1,())))) none) none) (some (.inr (.inr (.inl ()))))
noncomputable def LY k x:=iter (LX k) big x
noncomputable def LW(a b:PO):KK:=cond (af .neq (ai a) (ai b)) (some (false,())) ((LY (a,b,()) (0,())).bind fun c=>Sum.elim (fun d=>some (d.1,())) (fun d=>Sum.elim (fun _=>some (true,())) (fun e=>Empty.elim e) d) c)
noncomputable def NL(a b c d e f:Int)(g:Bool)(h i j k l m:Int)(n:Bool):KK:=letI o:=some (false,());cond (af .neq a h) o (cond (af .neq b i) o (cond (af .neq c j) o (cond (af .neq d k) o (cond (af .neq e l) o (cond (af .neq f m) o (cond (Bool.not (bQ g n)) o (some (true,()))))))))
noncomputable def MB(a:Oa×XB)(b:Nd):SY:=letI c:=ae xx a.1 b.1;letI d:=ae xx a.2.1 b.1;letI e:=c.2.2.2;letI f:=d.2.2.2;cond (af .lss b.1 (ai a.1)) (cond (ah a.1 b.1) (cond (ah a.2.1 b.1) ((NL c.1 c.2.1 c.2.2.1 e.1 e.2.1 e.2.2.1 e.2.2.2 d.1 d.2.1 d.2.2.1 f.1 f.2.1 f.2.2.1 f.2.2.2).bind fun g=>cond (Bool.not g.1) (some (.inr (.inl (false,())))) (some (.inl (aa .add .i64 b.1 1,())))) none) none) (some (.inr (.inr (.inl ()))))
noncomputable def MC k x:=iter (MB k) big x
noncomputable def MT(a b:Oa):KK:=cond (af .neq (ai a) (ai b)) (some (false,())) ((MC (a,b,()) (0,())).bind fun c=>Sum.elim (fun d=>some (d.1,())) (fun d=>Sum.elim (fun _=>some (true,())) (fun e=>Empty.elim e) d) c)
noncomputable def LV(a b c d e f g h i j k:Int)(l:Pt)(m:PO)(n:Oa)(o:JP)(p q r s t u v w x y z:Int)(A:Pt)(B:PO)(C:Oa)(D:JP):KK:=(NN a b c d e f g h p q r s t u v w).bind fun E=>letI F:=some (false,());cond (Bool.not E.1) F (cond (af .neq i x) F (cond (af .neq j y) F (cond (af .neq k z) F ((NM l A).bind fun G=>cond (Bool.not G.1) F ((LW m B).bind fun H=>cond (Bool.not H.1) F ((MT n C).bind fun I=>cond (Bool.not I.1) F ((JK o D).bind fun J=>cond (Bool.not J.1) F (some (true,())))))))))
end Go.Fn
set_option linter.unusedVariables false
namespace Go.Fn
open Go.R
noncomputable def KI(a b c d e f g h i j k l m n:Int):KK:=cond (af .lss a h) (some (true,())) (cond (af .eql a h) (some (af .lss b i,())) (some (false,())))
noncomputable def Iq(a:JP×U7)(b:VM):Option (VM⊕ZB):=letI c:=([]:JP);letI d:=b.1;letI e:=b.2.1;letI f:=b.2.2.1;letI g:=(c,false,());letI h:=ah a.1 e;letI i:=ae bg a.1 e;letI j:=ah a.2.1 f;letI k:=aa .add .i64 e 1;letI l:=ae bg a.2.1 f;letI m:=aa .add .i64 f 1;letI n:=af .eql e (ai a.1);letI o:=af .lss e (ai a.1);letI p:=i.2.2.2;letI q:=af .eql f (ai a.2.1);letI r:=l.2.2.2;letI s:=p.2.2;letI t:=r.2.2;letI u:=KI l.1 l.2.1 l.2.2.1 r.1 r.2.1 t.1 t.2 i.1 i.2.1 i.2.2.1 p.1 p.2.1 s.1 s.2;letI v:=KI i.1 i.2.1 i.2.2.1 p.1 p.2.1 s.1 s.2 l.1 l.2.1 l.2.2.1 r.1 r.2.1 t.1 t.2;letI w:=Bool.not (Bool.and (af .eql i.1 l.1) (Bool.and (af .eql i.2.1 l.2.1) (Bool.and (af .eql i.2.2.1 l.2.2.1) (Bool.and (af .eql p.1 r.1) (Bool.and (af .eql p.2.1 r.2.1) (Bool.and (af .eql s.1 t.1) (Bool.and (af .eql s.2 t.2) true)))))));cond o (cond q (cond h (cond (aE (List.append (α:=Kl) d (List.append (α:=Kl) c [i]))) (some (.inl (List.append (α:=Kl) d (List.append (α:=Kl) c [i]),k,f,()))) none) none) (cond o (cond h (cond j (v.bind fun x=>cond x.1 (cond h (cond (aE (List.append (α:=Kl) d (List.append (α:=Kl) c [i]))) (some (.inl (List.append (α:=Kl) d (List.append (α:=Kl) c [i]),k,f,()))) none) none) (cond n (cond j (cond (aE (List.append (α:=Kl) d (List.append (α:=Kl) c [l]))) (some (.inl (List.append (α:=Kl) d (List.append (α:=Kl) c [l]),e,m,()))) none) none) (cond j (cond h (u.bind fun y=>cond y.1 (cond j (cond (aE (List.append (α:=Kl) d (List.append (α:=Kl) c [l]))) (some (.inl (List.append (α:=Kl) d (List.append (α:=Kl) c [l]),e,m,()))) none) none) (cond h (cond j (lets w fun z=>cond z (some (.inr (.inl g))) (cond h (cond (aE (List.append (α:=Kl) d (List.append (α:=Kl) c [i]))) (some (.inl (List.append (α:=Kl) d (List.append (α:=Kl) c [i]),k,m,()))) none) none)) none) none)) none) none))) none) none) (cond n (cond j (cond (aE (List.append (α:=Kl) d (List.append (α:=Kl) c [l]))) (some (.inl (List.append (α:=Kl) d (List.append (α:=Kl) c [l]),e,m,()))) none) none) (cond j (cond h (u.bind fun x=>cond x.1 (cond j (cond (aE (List.append (α:=Kl) d (List.append (α:=Kl) c [l]))) (some (.inl (List.append (α:=Kl) d (List.append (α:=Kl) c [l]),e,m,()))) none) none) (cond h (cond j (lets w fun y=>cond y (some (.inr (.inl g))) (cond h (cond (aE (List.append (α:=Kl) d (List.append (α:=Kl) c [i]))) (some (.inl (List.append (α:=Kl) d (List.append (α:=Kl) c [i]),k,m,()))) none) none)) none) none)) none) none)))) (cond (af .lss f (ai a.2.1)) (cond q (cond h (cond (aE (List.append (α:=Kl) d (List.append (α:=Kl) c [i]))) (some (.inl (List.append (α:=Kl) d (List.append (α:=Kl) c [i]),k,f,()))) none) none) (cond o (cond h (cond j (v.bind fun x=>cond x.1 (cond h (cond (aE (List.append (α:=Kl) d (List.append (α:=Kl) c [i]))) (some (.inl (List.append (α:=Kl) d (List.append (α:=Kl) c [i]),k,f,()))) none) none) (cond n (cond j (cond (aE (List.append (α:=Kl) d (List.append (α:=Kl) c [l]))) (some (.inl (List.append (α:=Kl) d (List.append (α:=Kl) c [l]),e,m,()))) none) none) (cond j (cond h (u.bind fun y=>cond y.1 (cond j (cond (aE (List.append (α:=Kl) d (List.append (α:=Kl) c [l]))) (some (.inl (List.append (α:=Kl) d (List.append (α:=Kl) c [l]),e,m,()))) none) none) (cond h (cond j (lets w fun z=>cond z (some (.inr (.inl g))) (cond h (cond (aE (List.append (α:=Kl) d (List.append (α:=Kl) c [i]))) (some (.inl (List.append (α:=Kl) d (List.append (α:=Kl) c [i]),k,m,()))) none) none)) none) none)) none) none))) none) none) (cond n (cond j (cond (aE (List.append (α:=Kl) d (List.append (α:=Kl) c [l]))) (some (.inl (List.append (α:=Kl) d (List.append (α:=Kl) c [l]),e,m,()))) none) none) (cond j (cond h (u.bind fun x=>cond x.1 (cond j (cond (aE (List.append (α:=Kl) d (List.append (α:=Kl) c [l]))) (some (.inl (List.append (α:=Kl) d (List.append (α:=Kl) c [l]),e,m,()))) none) none) (cond h (cond j (lets w fun y=>cond y (some (.inr (.inl g))) (cond h (cond (aE (List.append (α:=Kl) d (List.append (α:=Kl) c [i]))) (some (.inl (List.append (α:=Kl) d (List.append (α:=Kl) c [i]),k,m,()))) none) none)) none) none)) none) none)))) (some (.inr (.inr (.inl (d,()))))))
noncomputable def Ku k x:=iter (Iq k) big x
noncomputable def Kk(a b:JP):Xy:=(Js a).bind fun c=>letI d:=some (([]:JP),false,());cond (Bool.not c.1) d ((Js b).bind fun e=>cond (Bool.not e.1) d ((Ku (a,b,()) (([]:JP),0,0,())).bind fun f=>Sum.elim (fun g=>some (g.1,g.2.1,())) (fun g=>Sum.elim (fun h=>(Js h.1).bind fun i=>cond (Bool.not i.1) d (some (h.1,true,()))) (fun h=>Empty.elim h) g) f))
noncomputable def Ih(a:JP):Wo:=cond (af .gtr (ai a) 0) (cond (aE (List.append (α:=Kl) ([]:JP) a)) (some (List.append (α:=Kl) ([]:JP) a,())) none) (both (some (([]:JP),())) (cond (aE (List.append (α:=Kl) ([]:JP) a)) (some (List.append (α:=Kl) ([]:JP) a,())) none))
noncomputable def JQ(a b c d e f g h i j k l m n:Int):KK:=cond (af .eql a h) (some (af .eql b i,())) (some (false,()))
noncomputable def nl(a:JP×Int×Zi)(b:Nd):Zh:=letI c:=a.2.2.2.2;letI d:=ae bg a.1 b.1;letI e:=d.2.2.2;cond (af .lss b.1 c.2.2.2.2.1) (cond (ah a.1 b.1) ((JQ d.1 d.2.1 d.2.2.1 e.1 e.2.1 e.2.2.1 e.2.2.2 a.2.1 a.2.2.1 a.2.2.2.1 c.1 c.2.1 c.2.2.1 c.2.2.2.1).bind fun f=>cond f.1 (some (.inr (.inl (b.1,())))) (some (.inl (aa .add .i64 b.1 1,())))) none) (some (.inr (.inr (.inl ()))))
noncomputable def vn k x:=iter (nl k) big x
noncomputable def oa(a:JP)(b c d e f g h:Int):RO:=(vn (a,b,c,d,e,f,g,h,ai a,()) (0,())).bind fun i=>Sum.elim (fun j=>some (j.1,())) (fun j=>Sum.elim (fun _=>some (-1,())) (fun k=>Empty.elim k) j) i
noncomputable def Ss(a:Int):RO:=letI b:=au .shr .u32 a 16;letI c:=ak .u8 (au .shr .u32 a 8);letI d:=ak .u8 (au .shr .u32 b 8);cond (af .geq a 65536) (cond (cB 16) none (cond (af .geq b 256) (cond (cB 8) none (cond (kO (ByteArray.mk #[0,1,2,2,3,3,3,3,4,4,4,4,4,4,4,4,5,5,5,5,5,5,5,5,5,5,5,5,5,5,5,5,6,6,6,6,6,6,6,6,6,6,6,6,6,6,6,6,6,6,6,6,6,6,6,6,6,6,6,6,6,6,6,6,7,7,7,7,7,7,7,7,7,7,7,7,7,7,7,7,7,7,7,7,7,7,7,7,7,7,7,7,7,7,7,7,7,7,7,7,7,7,7,7,7,7,7,7,7,7,7,7,7,7,7,7,7,7,7,7,7,7,7,7,7,7,7,7,8,8,8,8,8,8,8,8,8,8,8,8,8,8,8,8,8,8,8,8,8,8,8,8,8,8,8,8,8,8,8,8,8,8,8,8,8,8,8,8,8,8,8,8,8,8,8,8,8,8,8,8,8,8,8,8,8,8,8,8,8,8,8,8,8,8,8,8,8,8,8,8,8,8,8,8,8,8,8,8,8,8,8,8,8,8,8,8,8,8,8,8,8,8,8,8,8,8,8,8,8,8,8,8,8,8,8,8,8,8,8,8,8,8,8,8,8,8,8,8,8,8,8,8,8,8,8,8]) d) (lets (gh (ByteArray.mk #[0,1,2,2,3,3,3,3,4,4,4,4,4,4,4,4,5,5,5,5,5,5,5,5,5,5,5,5,5,5,5,5,6,6,6,6,6,6,6,6,6,6,6,6,6,6,6,6,6,6,6,6,6,6,6,6,6,6,6,6,6,6,6,6,7,7,7,7,7,7,7,7,7,7,7,7,7,7,7,7,7,7,7,7,7,7,7,7,7,7,7,7,7,7,7,7,7,7,7,7,7,7,7,7,7,7,7,7,7,7,7,7,7,7,7,7,7,7,7,7,7,7,7,7,7,7,7,7,8,8,8,8,8,8,8,8,8,8,8,8,8,8,8,8,8,8,8,8,8,8,8,8,8,8,8,8,8,8,8,8,8,8,8,8,8,8,8,8,8,8,8,8,8,8,8,8,8,8,8,8,8,8,8,8,8,8,8,8,8,8,8,8,8,8,8,8,8,8,8,8,8,8,8,8,8,8,8,8,8,8,8,8,8,8,8,8,8,8,8,8,8,8,8,8,8,8,8,8,8,8,8,8,8,8,8,8,8,8,8,8,8,8,8,8,8,8,8,8,8,8,8,8,8,8,8,8]) d) fun e=>some (aa .add .i64 (aa .add .i64 16 8) (ak .i64 e),())) none)) (cond (kO (ByteArray.mk #[0,1,2,2,3,3,3,3,4,4,4,4,4,4,4,4,5,5,5,5,5,5,5,5,5,5,5,5,5,5,5,5,6,6,6,6,6,6,6,6,6,6,6,6,6,6,6,6,6,6,6,6,6,6,6,6,6,6,6,6,6,6,6,6,7,7,7,7,7,7,7,7,7,7,7,7,7,7,7,7,7,7,7,7,7,7,7,7,7,7,7,7,7,7,7,7,7,7,7,7,7,7,7,7,7,7,7,7,7,7,7,7,7,7,7,7,7,7,7,7,7,7,7,7,7,7,7,7,8,8,8,8,8,8,8,8,8,8,8,8,8,8,8,8,8,8,8,8,8,8,8,8,8,8,8,8,8,8,8,8,8,8,8,8,8,8,8,8,8,8,8,8,8,8,8,8,8,8,8,8,8,8,8,8,8,8,8,8,8,8,8,8,8,8,8,8,8,8,8,8,8,8,8,8,8,8,8,8,8,8,8,8,8,8,8,8,8,8,8,8,8,8,8,8,8,8,8,8,8,8,8,8,8,8,8,8,8,8,8,8,8,8,8,8,8,8,8,8,8,8,8,8,8,8,8,8]) (ak .u8 b)) (lets (gh (ByteArray.mk #[0,1,2,2,3,3,3,3,4,4,4,4,4,4,4,4,5,5,5,5,5,5,5,5,5,5,5,5,5,5,5,5,6,6,6,6,6,6,6,6,6,6,6,6,6,6,6,6,6,6,6,6,6,6,6,6,6,6,6,6,6,6,6,6,7,7,7,7,7,7,7,7,7,7,7,7,7,7,7,7,7,7,7,7,7,7,7,7,7,7,7,7,7,7,7,7,7,7,7,7,7,7,7,7,7,7,7,7,7,7,7,7,7,7,7,7,7,7,7,7,7,7,7,7,7,7,7,7,8,8,8,8,8,8,8,8,8,8,8,8,8,8,8,8,8,8,8,8,8,8,8,8,8,8,8,8,8,8,8,8,8,8,8,8,8,8,8,8,8,8,8,8,8,8,8,8,8,8,8,8,8,8,8,8,8,8,8,8,8,8,8,8,8,8,8,8,8,8,8,8,8,8,8,8,8,8,8,8,8,8,8,8,8,8,8,8,8,8,8,8,8,8,8,8,8,8,8,8,8,8,8,8,8,8,8,8,8,8,8,8,8,8,8,8,8,8,8,8,8,8,8,8,8,8,8,8]) (ak .u8 b)) fun e=>some (aa .add .i64 16 (ak .i64 e),())) none))) (cond (af .geq a 256) (cond (cB 8) none (cond (kO (ByteArray.mk #[0,1,2,2,3,3,3,3,4,4,4,4,4,4,4,4,5,5,5,5,5,5,5,5,5,5,5,5,5,5,5,5,6,6,6,6,6,6,6,6,6,6,6,6,6,6,6,6,6,6,6,6,6,6,6,6,6,6,6,6,6,6,6,6,7,7,7,7,7,7,7,7,7,7,7,7,7,7,7,7,7,7,7,7,7,7,7,7,7,7,7,7,7,7,7,7,7,7,7,7,7,7,7,7,7,7,7,7,7,7,7,7,7,7,7,7,7,7,7,7,7,7,7,7,7,7,7,7,8,8,8,8,8,8,8,8,8,8,8,8,8,8,8,8,8,8,8,8,8,8,8,8,8,8,8,8,8,8,8,8,8,8,8,8,8,8,8,8,8,8,8,8,8,8,8,8,8,8,8,8,8,8,8,8,8,8,8,8,8,8,8,8,8,8,8,8,8,8,8,8,8,8,8,8,8,8,8,8,8,8,8,8,8,8,8,8,8,8,8,8,8,8,8,8,8,8,8,8,8,8,8,8,8,8,8,8,8,8,8,8,8,8,8,8,8,8,8,8,8,8,8,8,8,8,8,8]) c) (lets (gh (ByteArray.mk #[0,1,2,2,3,3,3,3,4,4,4,4,4,4,4,4,5,5,5,5,5,5,5,5,5,5,5,5,5,5,5,5,6,6,6,6,6,6,6,6,6,6,6,6,6,6,6,6,6,6,6,6,6,6,6,6,6,6,6,6,6,6,6,6,7,7,7,7,7,7,7,7,7,7,7,7,7,7,7,7,7,7,7,7,7,7,7,7,7,7,7,7,7,7,7,7,7,7,7,7,7,7,7,7,7,7,7,7,7,7,7,7,7,7,7,7,7,7,7,7,7,7,7,7,7,7,7,7,8,8,8,8,8,8,8,8,8,8,8,8,8,8,8,8,8,8,8,8,8,8,8,8,8,8,8,8,8,8,8,8,8,8,8,8,8,8,8,8,8,8,8,8,8,8,8,8,8,8,8,8,8,8,8,8,8,8,8,8,8,8,8,8,8,8,8,8,8,8,8,8,8,8,8,8,8,8,8,8,8,8,8,8,8,8,8,8,8,8,8,8,8,8,8,8,8,8,8,8,8,8,8,8,8,8,8,8,8,8,8,8,8,8,8,8,8,8,8,8,8,8,8,8,8,8,8,8]) c) fun e=>some (aa .add .i64 (aa .add .i64 0 8) (ak .i64 e),())) none)) (cond (kO (ByteArray.mk #[0,1,2,2,3,3,3,3,4,4,4,4,4,4,4,4,5,5,5,5,5,5,5,5,5,5,5,5,5,5,5,5,6,6,6,6,6,6,6,6,6,6,6,6,6,6,6,6,6,6,6,6,6,6,6,6,6,6,6,6,6,6,6,6,7,7,7,7,7,7,7,7,7,7,7,7,7,7,7,7,7,7,7,7,7,7,7,7,7,7,7,7,7,7,7,7,7,7,7,7,7,7,7,7,7,7,7,7,7,7,7,7,7,7,7,7,7,7,7,7,7,7,7,7,7,7,7,7,8,8,8,8,8,8,8,8,8,8,8,8,8,8,8,8,8,8,8,8,8,8,8,8,8,8,8,8,8,8,8,8,8,8,8,8,8,8,8,8,8,8,8,8,8,8,8,8,8,8,8,8,8,8,8,8,8,8,8,8,8,8,8,8,8,8,8,8,8,8,8,8,8,8,8,8,8,8,8,8,8,8,8,8,8,8,8,8,8,8,8,8,8,8,8,8,8,8,8,8,8,8,8,8,8,8,8,8,8,8,8,8,8,8,8,8,8,8,8,8,8,8,8,8,8,8,8,8]) (ak .u8 a)) (lets (gh (ByteArray.mk #[0,1,2,2,3,3,3,3,4,4,4,4,4,4,4,4,5,5,5,5,5,5,5,5,5,5,5,5,5,5,5,5,6,6,6,6,6,6,6,6,6,6,6,6,6,6,6,6,6,6,6,6,6,6,6,6,6,6,6,6,6,6,6,6,7,7,7,7,7,7,7,7,7,7,7,7,7,7,7,7,7,7,7,7,7,7,7,7,7,7,7,7,7,7,7,7,7,7,7,7,7,7,7,7,7,7,7,7,7,7,7,7,7,7,7,7,7,7,7,7,7,7,7,7,7,7,7,7,8,8,8,8,8,8,8,8,8,8,8,8,8,8,8,8,8,8,8,8,8,8,8,8,8,8,8,8,8,8,8,8,8,8,8,8,8,8,8,8,8,8,8,8,8,8,8,8,8,8,8,8,8,8,8,8,8,8,8,8,8,8,8,8,8,8,8,8,8,8,8,8,8,8,8,8,8,8,8,8,8,8,8,8,8,8,8,8,8,8,8,8,8,8,8,8,8,8,8,8,8,8,8,8,8,8,8,8,8,8,8,8,8,8,8,8,8,8,8,8,8,8,8,8,8,8,8,8]) (ak .u8 a)) fun e=>some (aa .add .i64 0 (ak .i64 e),())) none))
noncomputable def Qh(a:Int):RO:=letI b:=(8:Int);letI c:=(16:Int);letI d:=cB b;letI e:=au .shr .u64 a 32;letI f:=au .shr .u64 a c;letI g:=aa .add .i64 32 c;letI h:=aa .add .i64 0 c;letI i:=ak .u8 (au .shr .u64 a b);letI j:=au .shr .u64 e c;letI k:=ak .u8 (au .shr .u64 e b);letI l:=ak .u8 (au .shr .u64 f b);letI m:=ak .u8 (au .shr .u64 j b);cond (af .geq a 4294967296) (cond (cB 32) none (cond (af .geq e 65536) (cond (cB c) none (cond (af .geq j 256) (cond d none (cond (kO (ByteArray.mk #[0,1,2,2,3,3,3,3,4,4,4,4,4,4,4,4,5,5,5,5,5,5,5,5,5,5,5,5,5,5,5,5,6,6,6,6,6,6,6,6,6,6,6,6,6,6,6,6,6,6,6,6,6,6,6,6,6,6,6,6,6,6,6,6,7,7,7,7,7,7,7,7,7,7,7,7,7,7,7,7,7,7,7,7,7,7,7,7,7,7,7,7,7,7,7,7,7,7,7,7,7,7,7,7,7,7,7,7,7,7,7,7,7,7,7,7,7,7,7,7,7,7,7,7,7,7,7,7,8,8,8,8,8,8,8,8,8,8,8,8,8,8,8,8,8,8,8,8,8,8,8,8,8,8,8,8,8,8,8,8,8,8,8,8,8,8,8,8,8,8,8,8,8,8,8,8,8,8,8,8,8,8,8,8,8,8,8,8,8,8,8,8,8,8,8,8,8,8,8,8,8,8,8,8,8,8,8,8,8,8,8,8,8,8,8,8,8,8,8,8,8,8,8,8,8,8,8,8,8,8,8,8,8,8,8,8,8,8,8,8,8,8,8,8,8,8,8,8,8,8,8,8,8,8,8,8]) m) (lets (gh (ByteArray.mk #[0,1,2,2,3,3,3,3,4,4,4,4,4,4,4,4,5,5,5,5,5,5,5,5,5,5,5,5,5,5,5,5,6,6,6,6,6,6,6,6,6,6,6,6,6,6,6,6,6,6,6,6,6,6,6,6,6,6,6,6,6,6,6,6,7,7,7,7,7,7,7,7,7,7,7,7,7,7,7,7,7,7,7,7,7,7,7,7,7,7,7,7,7,7,7,7,7,7,7,7,7,7,7,7,7,7,7,7,7,7,7,7,7,7,7,7,7,7,7,7,7,7,7,7,7,7,7,7,8,8,8,8,8,8,8,8,8,8,8,8,8,8,8,8,8,8,8,8,8,8,8,8,8,8,8,8,8,8,8,8,8,8,8,8,8,8,8,8,8,8,8,8,8,8,8,8,8,8,8,8,8,8,8,8,8,8,8,8,8,8,8,8,8,8,8,8,8,8,8,8,8,8,8,8,8,8,8,8,8,8,8,8,8,8,8,8,8,8,8,8,8,8,8,8,8,8,8,8,8,8,8,8,8,8,8,8,8,8,8,8,8,8,8,8,8,8,8,8,8,8,8,8,8,8,8,8]) m) fun n=>some (aa .add .i64 (aa .add .i64 g b) (ak .i64 n),())) none)) (cond (kO (ByteArray.mk #[0,1,2,2,3,3,3,3,4,4,4,4,4,4,4,4,5,5,5,5,5,5,5,5,5,5,5,5,5,5,5,5,6,6,6,6,6,6,6,6,6,6,6,6,6,6,6,6,6,6,6,6,6,6,6,6,6,6,6,6,6,6,6,6,7,7,7,7,7,7,7,7,7,7,7,7,7,7,7,7,7,7,7,7,7,7,7,7,7,7,7,7,7,7,7,7,7,7,7,7,7,7,7,7,7,7,7,7,7,7,7,7,7,7,7,7,7,7,7,7,7,7,7,7,7,7,7,7,8,8,8,8,8,8,8,8,8,8,8,8,8,8,8,8,8,8,8,8,8,8,8,8,8,8,8,8,8,8,8,8,8,8,8,8,8,8,8,8,8,8,8,8,8,8,8,8,8,8,8,8,8,8,8,8,8,8,8,8,8,8,8,8,8,8,8,8,8,8,8,8,8,8,8,8,8,8,8,8,8,8,8,8,8,8,8,8,8,8,8,8,8,8,8,8,8,8,8,8,8,8,8,8,8,8,8,8,8,8,8,8,8,8,8,8,8,8,8,8,8,8,8,8,8,8,8,8]) (ak .u8 j)) (lets (gh (ByteArray.mk #[0,1,2,2,3,3,3,3,4,4,4,4,4,4,4,4,5,5,5,5,5,5,5,5,5,5,5,5,5,5,5,5,6,6,6,6,6,6,6,6,6,6,6,6,6,6,6,6,6,6,6,6,6,6,6,6,6,6,6,6,6,6,6,6,7,7,7,7,7,7,7,7,7,7,7,7,7,7,7,7,7,7,7,7,7,7,7,7,7,7,7,7,7,7,7,7,7,7,7,7,7,7,7,7,7,7,7,7,7,7,7,7,7,7,7,7,7,7,7,7,7,7,7,7,7,7,7,7,8,8,8,8,8,8,8,8,8,8,8,8,8,8,8,8,8,8,8,8,8,8,8,8,8,8,8,8,8,8,8,8,8,8,8,8,8,8,8,8,8,8,8,8,8,8,8,8,8,8,8,8,8,8,8,8,8,8,8,8,8,8,8,8,8,8,8,8,8,8,8,8,8,8,8,8,8,8,8,8,8,8,8,8,8,8,8,8,8,8,8,8,8,8,8,8,8,8,8,8,8,8,8,8,8,8,8,8,8,8,8,8,8,8,8,8,8,8,8,8,8,8,8,8,8,8,8,8]) (ak .u8 j)) fun n=>some (aa .add .i64 g (ak .i64 n),())) none))) (cond (af .geq e 256) (cond d none (cond (kO (ByteArray.mk #[0,1,2,2,3,3,3,3,4,4,4,4,4,4,4,4,5,5,5,5,5,5,5,5,5,5,5,5,5,5,5,5,6,6,6,6,6,6,6,6,6,6,6,6,6,6,6,6,6,6,6,6,6,6,6,6,6,6,6,6,6,6,6,6,7,7,7,7,7,7,7,7,7,7,7,7,7,7,7,7,7,7,7,7,7,7,7,7,7,7,7,7,7,7,7,7,7,7,7,7,7,7,7,7,7,7,7,7,7,7,7,7,7,7,7,7,7,7,7,7,7,7,7,7,7,7,7,7,8,8,8,8,8,8,8,8,8,8,8,8,8,8,8,8,8,8,8,8,8,8,8,8,8,8,8,8,8,8,8,8,8,8,8,8,8,8,8,8,8,8,8,8,8,8,8,8,8,8,8,8,8,8,8,8,8,8,8,8,8,8,8,8,8,8,8,8,8,8,8,8,8,8,8,8,8,8,8,8,8,8,8,8,8,8,8,8,8,8,8,8,8,8,8,8,8,8,8,8,8,8,8,8,8,8,8,8,8,8,8,8,8,8,8,8,8,8,8,8,8,8,8,8,8,8,8,8]) k) (lets (gh (ByteArray.mk #[0,1,2,2,3,3,3,3,4,4,4,4,4,4,4,4,5,5,5,5,5,5,5,5,5,5,5,5,5,5,5,5,6,6,6,6,6,6,6,6,6,6,6,6,6,6,6,6,6,6,6,6,6,6,6,6,6,6,6,6,6,6,6,6,7,7,7,7,7,7,7,7,7,7,7,7,7,7,7,7,7,7,7,7,7,7,7,7,7,7,7,7,7,7,7,7,7,7,7,7,7,7,7,7,7,7,7,7,7,7,7,7,7,7,7,7,7,7,7,7,7,7,7,7,7,7,7,7,8,8,8,8,8,8,8,8,8,8,8,8,8,8,8,8,8,8,8,8,8,8,8,8,8,8,8,8,8,8,8,8,8,8,8,8,8,8,8,8,8,8,8,8,8,8,8,8,8,8,8,8,8,8,8,8,8,8,8,8,8,8,8,8,8,8,8,8,8,8,8,8,8,8,8,8,8,8,8,8,8,8,8,8,8,8,8,8,8,8,8,8,8,8,8,8,8,8,8,8,8,8,8,8,8,8,8,8,8,8,8,8,8,8,8,8,8,8,8,8,8,8,8,8,8,8,8,8]) k) fun n=>some (aa .add .i64 (aa .add .i64 32 b) (ak .i64 n),())) none)) (cond (kO (ByteArray.mk #[0,1,2,2,3,3,3,3,4,4,4,4,4,4,4,4,5,5,5,5,5,5,5,5,5,5,5,5,5,5,5,5,6,6,6,6,6,6,6,6,6,6,6,6,6,6,6,6,6,6,6,6,6,6,6,6,6,6,6,6,6,6,6,6,7,7,7,7,7,7,7,7,7,7,7,7,7,7,7,7,7,7,7,7,7,7,7,7,7,7,7,7,7,7,7,7,7,7,7,7,7,7,7,7,7,7,7,7,7,7,7,7,7,7,7,7,7,7,7,7,7,7,7,7,7,7,7,7,8,8,8,8,8,8,8,8,8,8,8,8,8,8,8,8,8,8,8,8,8,8,8,8,8,8,8,8,8,8,8,8,8,8,8,8,8,8,8,8,8,8,8,8,8,8,8,8,8,8,8,8,8,8,8,8,8,8,8,8,8,8,8,8,8,8,8,8,8,8,8,8,8,8,8,8,8,8,8,8,8,8,8,8,8,8,8,8,8,8,8,8,8,8,8,8,8,8,8,8,8,8,8,8,8,8,8,8,8,8,8,8,8,8,8,8,8,8,8,8,8,8,8,8,8,8,8,8]) (ak .u8 e)) (lets (gh (ByteArray.mk #[0,1,2,2,3,3,3,3,4,4,4,4,4,4,4,4,5,5,5,5,5,5,5,5,5,5,5,5,5,5,5,5,6,6,6,6,6,6,6,6,6,6,6,6,6,6,6,6,6,6,6,6,6,6,6,6,6,6,6,6,6,6,6,6,7,7,7,7,7,7,7,7,7,7,7,7,7,7,7,7,7,7,7,7,7,7,7,7,7,7,7,7,7,7,7,7,7,7,7,7,7,7,7,7,7,7,7,7,7,7,7,7,7,7,7,7,7,7,7,7,7,7,7,7,7,7,7,7,8,8,8,8,8,8,8,8,8,8,8,8,8,8,8,8,8,8,8,8,8,8,8,8,8,8,8,8,8,8,8,8,8,8,8,8,8,8,8,8,8,8,8,8,8,8,8,8,8,8,8,8,8,8,8,8,8,8,8,8,8,8,8,8,8,8,8,8,8,8,8,8,8,8,8,8,8,8,8,8,8,8,8,8,8,8,8,8,8,8,8,8,8,8,8,8,8,8,8,8,8,8,8,8,8,8,8,8,8,8,8,8,8,8,8,8,8,8,8,8,8,8,8,8,8,8,8,8]) (ak .u8 e)) fun n=>some (aa .add .i64 32 (ak .i64 n),())) none)))) (cond (af .geq a 65536) (cond (cB c) none (cond (af .geq f 256) (cond d none (cond (kO (ByteArray.mk #[0,1,2,2,3,3,3,3,4,4,4,4,4,4,4,4,5,5,5,5,5,5,5,5,5,5,5,5,5,5,5,5,6,6,6,6,6,6,6,6,6,6,6,6,6,6,6,6,6,6,6,6,6,6,6,6,6,6,6,6,6,6,6,6,7,7,7,7,7,7,7,7,7,7,7,7,7,7,7,7,7,7,7,7,7,7,7,7,7,7,7,7,7,7,7,7,7,7,7,7,7,7,7,7,7,7,7,7,7,7,7,7,7,7,7,7,7,7,7,7,7,7,7,7,7,7,7,7,8,8,8,8,8,8,8,8,8,8,8,8,8,8,8,8,8,8,8,8,8,8,8,8,8,8,8,8,8,8,8,8,8,8,8,8,8,8,8,8,8,8,8,8,8,8,8,8,8,8,8,8,8,8,8,8,8,8,8,8,8,8,8,8,8,8,8,8,8,8,8,8,8,8,8,8,8,8,8,8,8,8,8,8,8,8,8,8,8,8,8,8,8,8,8,8,8,8,8,8,8,8,8,8,8,8,8,8,8,8,8,8,8,8,8,8,8,8,8,8,8,8,8,8,8,8,8,8]) l) (lets (gh (ByteArray.mk #[0,1,2,2,3,3,3,3,4,4,4,4,4,4,4,4,5,5,5,5,5,5,5,5,5,5,5,5,5,5,5,5,6,6,6,6,6,6,6,6,6,6,6,6,6,6,6,6,6,6,6,6,6,6,6,6,6,6,6,6,6,6,6,6,7,7,7,7,7,7,7,7,7,7,7,7,7,7,7,7,7,7,7,7,7,7,7,7,7,7,7,7,7,7,7,7,7,7,7,7,7,7,7,7,7,7,7,7,7,7,7,7,7,7,7,7,7,7,7,7,7,7,7,7,7,7,7,7,8,8,8,8,8,8,8,8,8,8,8,8,8,8,8,8,8,8,8,8,8,8,8,8,8,8,8,8,8,8,8,8,8,8,8,8,8,8,8,8,8,8,8,8,8,8,8,8,8,8,8,8,8,8,8,8,8,8,8,8,8,8,8,8,8,8,8,8,8,8,8,8,8,8,8,8,8,8,8,8,8,8,8,8,8,8,8,8,8,8,8,8,8,8,8,8,8,8,8,8,8,8,8,8,8,8,8,8,8,8,8,8,8,8,8,8,8,8,8,8,8,8,8,8,8,8,8,8]) l) fun n=>some (aa .add .i64 (aa .add .i64 h b) (ak .i64 n),())) none)) (cond (kO (ByteArray.mk #[0,1,2,2,3,3,3,3,4,4,4,4,4,4,4,4,5,5,5,5,5,5,5,5,5,5,5,5,5,5,5,5,6,6,6,6,6,6,6,6,6,6,6,6,6,6,6,6,6,6,6,6,6,6,6,6,6,6,6,6,6,6,6,6,7,7,7,7,7,7,7,7,7,7,7,7,7,7,7,7,7,7,7,7,7,7,7,7,7,7,7,7,7,7,7,7,7,7,7,7,7,7,7,7,7,7,7,7,7,7,7,7,7,7,7,7,7,7,7,7,7,7,7,7,7,7,7,7,8,8,8,8,8,8,8,8,8,8,8,8,8,8,8,8,8,8,8,8,8,8,8,8,8,8,8,8,8,8,8,8,8,8,8,8,8,8,8,8,8,8,8,8,8,8,8,8,8,8,8,8,8,8,8,8,8,8,8,8,8,8,8,8,8,8,8,8,8,8,8,8,8,8,8,8,8,8,8,8,8,8,8,8,8,8,8,8,8,8,8,8,8,8,8,8,8,8,8,8,8,8,8,8,8,8,8,8,8,8,8,8,8,8,8,8,8,8,8,8,8,8,8,8,8,8,8,8]) (ak .u8 f)) (lets (gh (ByteArray.mk #[0,1,2,2,3,3,3,3,4,4,4,4,4,4,4,4,5,5,5,5,5,5,5,5,5,5,5,5,5,5,5,5,6,6,6,6,6,6,6,6,6,6,6,6,6,6,6,6,6,6,6,6,6,6,6,6,6,6,6,6,6,6,6,6,7,7,7,7,7,7,7,7,7,7,7,7,7,7,7,7,7,7,7,7,7,7,7,7,7,7,7,7,7,7,7,7,7,7,7,7,7,7,7,7,7,7,7,7,7,7,7,7,7,7,7,7,7,7,7,7,7,7,7,7,7,7,7,7,8,8,8,8,8,8,8,8,8,8,8,8,8,8,8,8,8,8,8,8,8,8,8,8,8,8,8,8,8,8,8,8,8,8,8,8,8,8,8,8,8,8,8,8,8,8,8,8,8,8,8,8,8,8,8,8,8,8,8,8,8,8,8,8,8,8,8,8,8,8,8,8,8,8,8,8,8,8,8,8,8,8,8,8,8,8,8,8,8,8,8,8,8,8,8,8,8,8,8,8,8,8,8,8,8,8,8,8,8,8,8,8,8,8,8,8,8,8,8,8,8,8,8,8,8,8,8,8]) (ak .u8 f)) fun n=>some (aa .add .i64 h (ak .i64 n),())) none))) (cond (af .geq a 256) (cond d none (cond (kO (ByteArray.mk #[0,1,2,2,3,3,3,3,4,4,4,4,4,4,4,4,5,5,5,5,5,5,5,5,5,5,5,5,5,5,5,5,6,6,6,6,6,6,6,6,6,6,6,6,6,6,6,6,6,6,6,6,6,6,6,6,6,6,6,6,6,6,6,6,7,7,7,7,7,7,7,7,7,7,7,7,7,7,7,7,7,7,7,7,7,7,7,7,7,7,7,7,7,7,7,7,7,7,7,7,7,7,7,7,7,7,7,7,7,7,7,7,7,7,7,7,7,7,7,7,7,7,7,7,7,7,7,7,8,8,8,8,8,8,8,8,8,8,8,8,8,8,8,8,8,8,8,8,8,8,8,8,8,8,8,8,8,8,8,8,8,8,8,8,8,8,8,8,8,8,8,8,8,8,8,8,8,8,8,8,8,8,8,8,8,8,8,8,8,8,8,8,8,8,8,8,8,8,8,8,8,8,8,8,8,8,8,8,8,8,8,8,8,8,8,8,8,8,8,8,8,8,8,8,8,8,8,8,8,8,8,8,8,8,8,8,8,8,8,8,8,8,8,8,8,8,8,8,8,8,8,8,8,8,8,8]) i) (lets (gh (ByteArray.mk #[0,1,2,2,3,3,3,3,4,4,4,4,4,4,4,4,5,5,5,5,5,5,5,5,5,5,5,5,5,5,5,5,6,6,6,6,6,6,6,6,6,6,6,6,6,6,6,6,6,6,6,6,6,6,6,6,6,6,6,6,6,6,6,6,7,7,7,7,7,7,7,7,7,7,7,7,7,7,7,7,7,7,7,7,7,7,7,7,7,7,7,7,7,7,7,7,7,7,7,7,7,7,7,7,7,7,7,7,7,7,7,7,7,7,7,7,7,7,7,7,7,7,7,7,7,7,7,7,8,8,8,8,8,8,8,8,8,8,8,8,8,8,8,8,8,8,8,8,8,8,8,8,8,8,8,8,8,8,8,8,8,8,8,8,8,8,8,8,8,8,8,8,8,8,8,8,8,8,8,8,8,8,8,8,8,8,8,8,8,8,8,8,8,8,8,8,8,8,8,8,8,8,8,8,8,8,8,8,8,8,8,8,8,8,8,8,8,8,8,8,8,8,8,8,8,8,8,8,8,8,8,8,8,8,8,8,8,8,8,8,8,8,8,8,8,8,8,8,8,8,8,8,8,8,8,8]) i) fun n=>some (aa .add .i64 (aa .add .i64 0 b) (ak .i64 n),())) none)) (cond (kO (ByteArray.mk #[0,1,2,2,3,3,3,3,4,4,4,4,4,4,4,4,5,5,5,5,5,5,5,5,5,5,5,5,5,5,5,5,6,6,6,6,6,6,6,6,6,6,6,6,6,6,6,6,6,6,6,6,6,6,6,6,6,6,6,6,6,6,6,6,7,7,7,7,7,7,7,7,7,7,7,7,7,7,7,7,7,7,7,7,7,7,7,7,7,7,7,7,7,7,7,7,7,7,7,7,7,7,7,7,7,7,7,7,7,7,7,7,7,7,7,7,7,7,7,7,7,7,7,7,7,7,7,7,8,8,8,8,8,8,8,8,8,8,8,8,8,8,8,8,8,8,8,8,8,8,8,8,8,8,8,8,8,8,8,8,8,8,8,8,8,8,8,8,8,8,8,8,8,8,8,8,8,8,8,8,8,8,8,8,8,8,8,8,8,8,8,8,8,8,8,8,8,8,8,8,8,8,8,8,8,8,8,8,8,8,8,8,8,8,8,8,8,8,8,8,8,8,8,8,8,8,8,8,8,8,8,8,8,8,8,8,8,8,8,8,8,8,8,8,8,8,8,8,8,8,8,8,8,8,8,8]) (ak .u8 a)) (lets (gh (ByteArray.mk #[0,1,2,2,3,3,3,3,4,4,4,4,4,4,4,4,5,5,5,5,5,5,5,5,5,5,5,5,5,5,5,5,6,6,6,6,6,6,6,6,6,6,6,6,6,6,6,6,6,6,6,6,6,6,6,6,6,6,6,6,6,6,6,6,7,7,7,7,7,7,7,7,7,7,7,7,7,7,7,7,7,7,7,7,7,7,7,7,7,7,7,7,7,7,7,7,7,7,7,7,7,7,7,7,7,7,7,7,7,7,7,7,7,7,7,7,7,7,7,7,7,7,7,7,7,7,7,7,8,8,8,8,8,8,8,8,8,8,8,8,8,8,8,8,8,8,8,8,8,8,8,8,8,8,8,8,8,8,8,8,8,8,8,8,8,8,8,8,8,8,8,8,8,8,8,8,8,8,8,8,8,8,8,8,8,8,8,8,8,8,8,8,8,8,8,8,8,8,8,8,8,8,8,8,8,8,8,8,8,8,8,8,8,8,8,8,8,8,8,8,8,8,8,8,8,8,8,8,8,8,8,8,8,8,8,8,8,8,8,8,8,8,8,8,8,8,8,8,8,8,8,8,8,8,8,8]) (ak .u8 a)) fun n=>some (aa .add .i64 0 (ak .i64 n),())) none)))
noncomputable def Lf(a:Int):RO:=(Qh a).bind fun b=>some (b.1,())
noncomputable def LC(a:Int):KK:=some (af .neq a a,())
noncomputable def JZ(a b:Int):RO:=(LC a).bind fun c=>(LC b).bind fun d=>letI e:=some ((0:Int),());letI f:=some ((1:Int),());letI g:=some ((-1:Int),());cond c.1 (cond d.1 e g) (cond d.1 f (cond (af .lss a b) g (cond (af .gtr a b) f e)))
noncomputable def J0(a:Int×XC)(b:Nd):Zh:=letI c:=ae zI a.2.1 b.1;cond (af .lss b.1 a.2.2.1) (cond (ah a.2.1 b.1) (cond (af .neq c a.1) (some (.inr (.inl (c,())))) (some (.inl (aa .add .i64 b.1 1,())))) none) (some (.inr (.inr (.inl ()))))
noncomputable def Ob k x:=iter (J0 k) big x
noncomputable def OU(a:Q8):RO:=(Ob ((0:Int),a,ai a,()) ((0:Int),())).bind fun b=>Sum.elim (fun c=>some (c.1,())) (fun c=>Sum.elim (fun _=>some (0,())) (fun d=>Empty.elim d) c) b
noncomputable def ey(a b c d e f g h i j k l m n:Int):RO:=(JZ a h).bind fun o=>(JZ b i).bind fun p=>(OU (List.append (α:=Int) (List.append (α:=Int) ([]:Q8) [o.1]) [p.1])).bind fun q=>some (q.1,())
noncomputable def xn(a:Wp)(b:RN):Xa:=letI c:=b.1;letI d:=b.2.1;letI e:=ah c d;letI f:=ae bg c d;letI g:=aa .sub .i64 d 1;letI h:=f.2.2.2;letI i:=ae bg c g;letI j:=i.2.2.2;cond (af .gtr d a.1) (cond e (cond (ah c g) ((ey f.1 f.2.1 f.2.2.1 h.1 h.2.1 h.2.2.1 h.2.2.2 i.1 i.2.1 i.2.2.1 j.1 j.2.1 j.2.2.1 j.2.2.2).bind fun k=>cond (af .lss k.1 0) (cond (ah c g) (cond e (cond e (cond (ah (aC c d i) g) (some (.inl (aC (aC c d i) g f,g,()))) none) none) none) none) (some (.inr (.inl (c,()))))) none) none) (some (.inr (.inl (c,()))))
noncomputable def n5 k x:=iter (xn k) big x
noncomputable def xl(a:OE)(b:RN):Xa:=cond (af .lss b.2.1 a.2.1) ((n5 (a.1,a.2.1,b.2.1,()) (b.1,b.2.1,())).bind fun c=>Sum.elim (fun d=>some (.inl (d.1,aa .add .i64 b.2.1 1,()))) (fun d=>Empty.elim d) c) (some (.inr (.inl (b.1,()))))
noncomputable def n4 k x:=iter (xl k) big x
noncomputable def qB(a:JP)(b c:Int):Wo:=(n4 (b,c,()) (a,aa .add .i64 b 1,())).bind fun d=>Sum.elim (fun e=>some (e.1,())) (fun e=>Empty.elim e) d
noncomputable def HY(a:OE)(b:RN):Option (RN⊕U7⊕Yu):=letI c:=b.1;letI d:=(c,());letI e:=aa .add .i64 a.2.1 b.2.1;letI f:=ah c e;letI g:=aa .add .i64 (aa .mul .i64 2 b.2.1) 1;letI h:=ae bg c e;letI i:=h.2.2.2;letI j:=aa .add .i64 g 1;letI k:=aa .add .i64 a.2.1 g;letI l:=ah c k;letI m:=ae bg c k;letI n:=aa .add .i64 k 1;letI o:=m.2.2.2;letI p:=ae bg c n;letI q:=p.2.2.2;letI r:=aC c e m;letI s:=ey h.1 h.2.1 h.2.2.1 i.1 i.2.1 i.2.2.1 i.2.2.2 m.1 m.2.1 m.2.2.1 o.1 o.2.1 o.2.2.1 o.2.2.2;cond (af .geq g a.1) (some (.inr (.inl d))) (cond (af .lss j a.1) (cond l (cond (ah c n) ((ey m.1 m.2.1 m.2.2.1 o.1 o.2.1 o.2.2.1 o.2.2.2 p.1 p.2.1 p.2.2.1 q.1 q.2.1 q.2.2.1 q.2.2.2).bind fun t=>letI u:=aa .add .i64 a.2.1 j;letI v:=ae bg c u;letI w:=v.2.2.2;cond (af .lss t.1 0) (cond f (cond (ah c u) ((ey h.1 h.2.1 h.2.2.1 i.1 i.2.1 i.2.2.1 i.2.2.2 v.1 v.2.1 v.2.2.1 w.1 w.2.1 w.2.2.1 w.2.2.2).bind fun x=>cond (Bool.not (af .lss x.1 0)) (some (.inr (.inr (.inl d)))) (cond (ah c u) (cond f (cond f (lets (aC c e v) fun y=>cond (ah y u) (lets (aC y u h) fun z=>some (.inl (z,j,()))) none) none) none) none)) none) none) (cond f (cond l (s.bind fun x=>cond (Bool.not (af .lss x.1 0)) (some (.inr (.inr (.inl d)))) (cond l (cond f (cond f (cond (ah r k) (lets (aC r k h) fun y=>some (.inl (y,g,()))) none) none) none) none)) none) none)) none) none) (cond f (cond l (s.bind fun t=>cond (Bool.not (af .lss t.1 0)) (some (.inr (.inr (.inl d)))) (cond l (cond f (cond f (cond (ah r k) (lets (aC r k h) fun u=>some (.inl (u,g,()))) none) none) none) none)) none) none))
noncomputable def sL k x:=iter (HY k) big x
noncomputable def m0(a:JP)(b c d:Int):Wo:=(sL (c,d,()) (a,b,())).bind fun e=>Sum.elim (fun f=>some (f.1,())) (fun f=>Sum.elim (fun g=>some (g.1,())) (fun g=>Empty.elim g) f) e
noncomputable def Ex(a:Wp)(b:RN):Xa:=cond (af .geq b.2.1 0) ((m0 b.1 b.2.1 a.2.2.1 a.1).bind fun c=>some (.inl (c.1,aa .sub .i64 b.2.1 1,()))) (some (.inr (.inl (b.1,()))))
noncomputable def r6 k x:=iter (Ex k) big x
noncomputable def FI(a:OE)(b:RN):Xa:=letI c:=aa .add .i64 a.1 b.2.1;letI d:=aC b.1 a.1 (ae bg b.1 c);cond (af .geq b.2.1 0) (cond (ah b.1 c) (cond (ah b.1 a.1) (cond (ah b.1 a.1) (cond (ah d c) ((m0 (aC d c (ae bg b.1 a.1)) a.2.1 b.2.1 a.1).bind fun e=>some (.inl (e.1,aa .sub .i64 b.2.1 1,()))) none) none) none) none) (some (.inr (.inl (b.1,()))))
noncomputable def r7 k x:=iter (FI k) big x
noncomputable def ve(a:JP)(b c:Int):Wo:=letI d:=aa .sub .i64 c b;letI e:=aa .sub .i64 d 1;cond (ax 2) none ((r6 (b,0,d,()) (a,aa .quo .i64 e 2,())).bind fun f=>Sum.elim (fun g=>(r7 (b,0,()) (g.1,e,())).bind fun h=>Sum.elim (fun i=>some (i.1,())) (fun i=>Empty.elim i) h) (fun g=>Empty.elim g) f)
noncomputable def I4(a:Int):RO:=(Lf (ak .u64 a)).bind fun b=>cond (cB b.1) none (some (au .shl .u64 1 b.1,()))
noncomputable def __slices_xorshift__Next(a:Int):Yv:=letI b:=aa .xor .u64 a (au .shl .u64 a 13);letI c:=aa .xor .u64 b (au .shr .u64 b 7);cond (cB 13) none (cond (cB 7) none (cond (cB 17) none (lets (au .shl .u64 c 17) fun d=>lets (aa .xor .u64 c d) fun e=>some (e,e,()))))
noncomputable def xh(a:Wp)(b:VM):Option (VM⊕Yu):=letI c:=b.1;letI d:=b.2.2.1;cond (ax 4) none (cond (af .leq d (aa .add .i64 (aa .add .i64 a.1 (aa .mul .i64 (aa .quo .i64 a.2.1 4) 2)) 1)) ((__slices_xorshift__Next b.2.1).bind fun e=>letI f:=ah c d;letI g:=aa .add .i64 d 1;letI h:=ak .i64 (aa .and .u64 e.1 (aa .sub .u64 a.2.2.1 1));letI i:=aa .add .i64 a.1 h;letI j:=aa .add .i64 a.1 (aa .sub .i64 h a.2.1);letI k:=aC c d (ae bg c i);letI l:=aC c d (ae bg c j);cond (af .geq h a.2.1) (cond (ah c j) (cond f (cond f (cond (ah l j) (lets (aC l j (ae bg c d)) fun m=>some (.inl (m,e.2.1,g,()))) none) none) none) none) (cond (ah c i) (cond f (cond f (cond (ah k i) (lets (aC k i (ae bg c d)) fun m=>some (.inl (m,e.2.1,g,()))) none) none) none) none)) (some (.inr (.inl (c,())))))
noncomputable def n3 k x:=iter (xh k) big x
noncomputable def qx(a:JP)(b c:Int):Wo:=letI d:=aa .sub .i64 c b;cond (af .geq d 8) ((I4 d).bind fun e=>cond (ax 4) none ((n3 (b,d,e.1,()) (a,ak .u64 d,aa .sub .i64 (aa .add .i64 b (aa .mul .i64 (aa .quo .i64 d 4) 2)) 1,())).bind fun f=>Sum.elim (fun g=>some (g.1,())) (fun g=>Empty.elim g) f)) (some (a,()))
noncomputable def kW(a:JP)(b c d:Int):Option Wp:=letI e:=(ae bg a c).2;letI f:=(ae bg a b).2;cond (ah a c) (cond (ah a b) ((ey (ae bg a c).1 e.1 e.2.1 e.2.2.1 e.2.2.2.1 e.2.2.2.2.1 e.2.2.2.2.2 (ae bg a b).1 f.1 f.2.1 f.2.2.1 f.2.2.2.1 f.2.2.2.2.1 f.2.2.2.2.2).bind fun g=>cond (af .lss g.1 0) (some (c,b,aa .add .i64 d 1,())) (some (b,c,d,()))) none) none
noncomputable def kB(a:JP)(b c d e:Int):Yv:=(kW a b c e).bind fun f=>(kW a f.2.1 d f.2.2.1).bind fun g=>(kW a f.1 g.1 g.2.2.1).bind fun h=>some (h.2.1,h.2.2.1,())
noncomputable def ia(a:JP)(b c:Int):Yv:=(kB a (aa .sub .i64 b 1) b (aa .add .i64 b 1) c).bind fun d=>some (d.1,d.2.1,())
noncomputable def mm(a:JP)(b c:Int):Yv:=letI d:=(0:Int);letI e:=ax 4;letI f:=aa .sub .i64 c b;letI g:=aa .quo .i64 f 4;letI h:=aa .add .i64 b (aa .mul .i64 g 2);letI i:=aa .add .i64 b (aa .mul .i64 g 1);letI j:=aa .add .i64 b (aa .mul .i64 g 3);cond e none (cond e none (cond e none (cond (af .geq f 8) (cond (af .geq f 50) ((ia a i d).bind fun k=>(ia a h k.2.1).bind fun l=>(ia a j l.2.1).bind fun m=>(kB a k.1 l.1 m.1 m.2.1).bind fun n=>cond (af .eql n.2.1 d) (some (n.1,1,())) (cond (af .eql n.2.1 12) (some (n.1,2,())) (some (n.1,d,())))) ((kB a i h j d).bind fun k=>cond (af .eql k.2.1 d) (some (k.1,1,())) (cond (af .eql k.2.1 12) (some (k.1,2,())) (some (k.1,d,()))))) (cond (af .eql d d) (some (h,1,())) (cond (af .eql d 12) (some (h,2,())) (some (h,d,())))))))
noncomputable def ye(a:Unit)(b:VM):Option (VM⊕Yu):=letI c:=b.2.1;letI d:=b.2.2.1;letI e:=aC b.1 c (ae bg b.1 d);cond (af .lss c d) (cond (ah b.1 d) (cond (ah b.1 c) (cond (ah b.1 c) (cond (ah e d) (some (.inl (aC e d (ae bg b.1 c),aa .add .i64 c 1,aa .sub .i64 d 1,()))) none) none) none) none) (some (.inr (.inl (b.1,()))))
noncomputable def p4 k x:=iter (ye k) big x
noncomputable def k6(a:JP)(b c:Int):Wo:=(p4 () (a,b,aa .sub .i64 c 1,())).bind fun d=>Sum.elim (fun e=>some (e.1,())) (fun e=>Empty.elim e) d
noncomputable def tv(a:Wp)(b:RN):Xb:=letI c:=b.2.1;letI d:=ae bg b.1 c;letI e:=aa .sub .i64 c 1;letI f:=d.2.2.2;letI g:=ae bg b.1 e;letI h:=g.2.2.2;cond (af .lss c a.2.1) (cond (ah b.1 c) (cond (ah b.1 e) ((ey d.1 d.2.1 d.2.2.1 f.1 f.2.1 f.2.2.1 f.2.2.2 g.1 g.2.1 g.2.2.1 h.1 h.2.1 h.2.2.1 h.2.2.2).bind fun i=>cond (Bool.not (af .lss i.1 0)) (some (.inl (b.1,aa .add .i64 c 1,()))) (some (.inr (.inl (b.1,c,()))))) none) none) (some (.inr (.inl (b.1,c,()))))
noncomputable def lm k x:=iter (tv k) big x
noncomputable def tB(a:Int×Wp)(b:RN):Xa:=letI c:=b.1;letI d:=b.2.1;letI e:=ah c d;letI f:=ae bg c d;letI g:=aa .sub .i64 d 1;letI h:=f.2.2.2;letI i:=ae bg c g;letI j:=i.2.2.2;cond (af .geq d 1) (cond e (cond (ah c g) ((ey f.1 f.2.1 f.2.2.1 h.1 h.2.1 h.2.2.1 h.2.2.2 i.1 i.2.1 i.2.2.1 j.1 j.2.1 j.2.2.1 j.2.2.2).bind fun k=>cond (Bool.not (af .lss k.1 0)) (some (.inr (.inl (c,())))) (cond (ah c g) (cond e (cond e (cond (ah (aC c d i) g) (some (.inl (aC (aC c d i) g f,g,()))) none) none) none) none)) none) none) (some (.inr (.inl (c,()))))
noncomputable def l5 k x:=iter (tB k) big x
noncomputable def tW(a:Int×Wp)(b:RN):Xa:=letI c:=b.1;letI d:=b.2.1;letI e:=ah c d;letI f:=ae bg c d;letI g:=aa .sub .i64 d 1;letI h:=f.2.2.2;letI i:=ae bg c g;letI j:=i.2.2.2;cond (af .lss d a.2.1) (cond e (cond (ah c g) ((ey f.1 f.2.1 f.2.2.1 h.1 h.2.1 h.2.2.1 h.2.2.2 i.1 i.2.1 i.2.2.1 j.1 j.2.1 j.2.2.1 j.2.2.2).bind fun k=>cond (Bool.not (af .lss k.1 0)) (some (.inr (.inl (c,())))) (cond (ah c g) (cond e (cond e (cond (ah (aC c d i) g) (some (.inl (aC (aC c d i) g f,aa .add .i64 d 1,()))) none) none) none) none)) none) none) (some (.inr (.inl (c,()))))
noncomputable def ii k x:=iter (tW k) big x
noncomputable def tt(a:OE)(b:VM):Option (VM⊕ZB):=letI c:=a.2.1;letI d:=b.2.2.1;cond (af .lss d 5) ((lm (a.1,c,d,()) (b.1,b.2.1,())).bind fun e=>Sum.elim (fun f=>letI g:=f.1;letI h:=f.2.1;letI i:=aa .sub .i64 h 1;letI j:=aa .add .i64 h 1;letI k:=aa .add .i64 d 1;letI l:=(a.1,c,h,d,());letI m:=af .geq (aa .sub .i64 c h) 2;letI n:=aC g h (ae bg g i);letI o:=aC n i (ae bg g h);cond (af .eql h c) (some (.inr (.inl (g,true,())))) (cond (af .lss (aa .sub .i64 c a.1) 50) (some (.inr (.inl (g,false,())))) (cond (ah g i) (cond (ah g h) (cond (ah g h) (cond (ah n i) (cond (af .geq (aa .sub .i64 h a.1) 2) ((l5 l (o,i,())).bind fun p=>Sum.elim (fun q=>cond m ((ii l (q.1,j,())).bind fun r=>Sum.elim (fun s=>some (.inl (s.1,h,k,()))) (fun s=>Empty.elim s) r) (some (.inl (q.1,h,k,())))) (fun q=>Empty.elim q) p) (cond m ((ii l (o,j,())).bind fun p=>Sum.elim (fun q=>some (.inl (q.1,h,k,()))) (fun q=>Empty.elim q) p) (some (.inl (o,h,k,()))))) none) none) none) none))) (fun f=>Empty.elim f) e) (some (.inr (.inr (.inl (b.1,())))))
noncomputable def lf k x:=iter (tt k) big x
noncomputable def gn(a:JP)(b c:Int):Option (Bool×U7):=(lf (b,c,()) (a,aa .add .i64 b 1,0,())).bind fun d=>Sum.elim (fun e=>some (e.2.1,e.1,())) (fun e=>Sum.elim (fun f=>some (false,f.1,())) (fun f=>Empty.elim f) e) d
noncomputable def vw(a:OE)(b:RN):Xb:=letI c:=b.2.1;letI d:=ae bg b.1 a.1;letI e:=ae bg b.1 c;letI f:=d.2.2.2;letI g:=e.2.2.2;cond (af .leq c a.2.1) (cond (ah b.1 a.1) (cond (ah b.1 c) ((ey d.1 d.2.1 d.2.2.1 f.1 f.2.1 f.2.2.1 f.2.2.2 e.1 e.2.1 e.2.2.1 g.1 g.2.1 g.2.2.1 g.2.2.2).bind fun h=>cond (Bool.not (af .lss h.1 0)) (some (.inl (b.1,aa .add .i64 c 1,()))) (some (.inr (.inl (b.1,c,()))))) none) none) (some (.inr (.inl (b.1,c,()))))
noncomputable def nw k x:=iter (vw k) big x
noncomputable def xb(a:OE)(b:RN):Xb:=letI c:=b.2.1;letI d:=ae bg b.1 a.1;letI e:=ae bg b.1 c;letI f:=d.2.2.2;letI g:=e.2.2.2;cond (af .leq a.2.1 c) (cond (ah b.1 a.1) (cond (ah b.1 c) ((ey d.1 d.2.1 d.2.2.1 f.1 f.2.1 f.2.2.1 f.2.2.2 e.1 e.2.1 e.2.2.1 g.1 g.2.1 g.2.2.1 g.2.2.2).bind fun h=>cond (af .lss h.1 0) (some (.inl (b.1,aa .sub .i64 c 1,()))) (some (.inr (.inl (b.1,c,()))))) none) none) (some (.inr (.inl (b.1,c,()))))
noncomputable def n2 k x:=iter (xb k) big x
noncomputable def vv(a:Nd)(b:VM):ZD:=(nw (a.1,b.2.2.1,()) (b.1,b.2.1,())).bind fun c=>Sum.elim (fun d=>letI e:=d.2.1;(n2 (a.1,e,()) (d.1,b.2.2.1,())).bind fun f=>Sum.elim (fun g=>letI h:=g.2.1;letI i:=aC g.1 e (ae bg g.1 h);cond (af .gtr e h) (some (.inr (.inl (g.1,e,())))) (cond (ah g.1 h) (cond (ah g.1 e) (cond (ah g.1 e) (cond (ah i h) (some (.inl (aC i h (ae bg g.1 e),aa .add .i64 e 1,aa .sub .i64 h 1,()))) none) none) none) none)) (fun g=>Empty.elim g) f) (fun d=>Empty.elim d) c
noncomputable def nn k x:=iter (vv k) big x
noncomputable def bu(a:JP)(b c d:Int):Option (Int×U7):=letI e:=aC a b (ae bg a d);cond (ah a d) (cond (ah a b) (cond (ah a b) (cond (ah e d) ((nn (b,()) (aC e d (ae bg a b),aa .add .i64 b 1,aa .sub .i64 c 1,())).bind fun f=>Sum.elim (fun g=>some (g.2.1,g.1,())) (fun g=>Empty.elim g) f) none) none) none) none
noncomputable def z2(a:OE)(b:RN):Xb:=letI c:=b.2.1;letI d:=ae bg b.1 a.1;letI e:=ae bg b.1 c;letI f:=d.2.2.2;letI g:=e.2.2.2;cond (af .leq c a.2.1) (cond (ah b.1 c) (cond (ah b.1 a.1) ((ey e.1 e.2.1 e.2.2.1 g.1 g.2.1 g.2.2.1 g.2.2.2 d.1 d.2.1 d.2.2.1 f.1 f.2.1 f.2.2.1 f.2.2.2).bind fun h=>cond (af .lss h.1 0) (some (.inl (b.1,aa .add .i64 c 1,()))) (some (.inr (.inl (b.1,c,()))))) none) none) (some (.inr (.inl (b.1,c,()))))
noncomputable def qW k x:=iter (z2 k) big x
noncomputable def At(a:OE)(b:RN):Xb:=letI c:=b.2.1;letI d:=ae bg b.1 a.1;letI e:=ae bg b.1 c;letI f:=d.2.2.2;letI g:=e.2.2.2;cond (af .leq a.2.1 c) (cond (ah b.1 c) (cond (ah b.1 a.1) ((ey e.1 e.2.1 e.2.2.1 g.1 g.2.1 g.2.2.1 g.2.2.2 d.1 d.2.1 d.2.2.1 f.1 f.2.1 f.2.2.1 f.2.2.2).bind fun h=>cond (Bool.not (af .lss h.1 0)) (some (.inl (b.1,aa .sub .i64 c 1,()))) (some (.inr (.inl (b.1,c,()))))) none) none) (some (.inr (.inl (b.1,c,()))))
noncomputable def rm k x:=iter (At k) big x
noncomputable def BE(a:OE)(b:RN):Xb:=letI c:=b.2.1;letI d:=ae bg b.1 a.1;letI e:=ae bg b.1 c;letI f:=d.2.2.2;letI g:=e.2.2.2;cond (af .leq c a.2.1) (cond (ah b.1 c) (cond (ah b.1 a.1) ((ey e.1 e.2.1 e.2.2.1 g.1 g.2.1 g.2.2.1 g.2.2.2 d.1 d.2.1 d.2.2.1 f.1 f.2.1 f.2.2.1 f.2.2.2).bind fun h=>cond (af .lss h.1 0) (some (.inl (b.1,aa .add .i64 c 1,()))) (some (.inr (.inl (b.1,c,()))))) none) none) (some (.inr (.inl (b.1,c,()))))
noncomputable def r3 k x:=iter (BE k) big x
noncomputable def Cp(a:OE)(b:RN):Xb:=letI c:=b.2.1;letI d:=ae bg b.1 a.1;letI e:=ae bg b.1 c;letI f:=d.2.2.2;letI g:=e.2.2.2;cond (af .leq a.2.1 c) (cond (ah b.1 c) (cond (ah b.1 a.1) ((ey e.1 e.2.1 e.2.2.1 g.1 g.2.1 g.2.2.1 g.2.2.2 d.1 d.2.1 d.2.2.1 f.1 f.2.1 f.2.2.1 f.2.2.2).bind fun h=>cond (Bool.not (af .lss h.1 0)) (some (.inl (b.1,aa .sub .i64 c 1,()))) (some (.inr (.inl (b.1,c,()))))) none) none) (some (.inr (.inl (b.1,c,()))))
noncomputable def r4 k x:=iter (Cp k) big x
noncomputable def Bd(a:Nd)(b:VM):ZD:=(r3 (a.1,b.2.2.1,()) (b.1,b.2.1,())).bind fun c=>Sum.elim (fun d=>letI e:=d.2.1;(r4 (a.1,e,()) (d.1,b.2.2.1,())).bind fun f=>Sum.elim (fun g=>letI h:=g.2.1;letI i:=aC g.1 e (ae bg g.1 h);cond (af .gtr e h) (some (.inr (.inl (g.1,h,())))) (cond (ah g.1 h) (cond (ah g.1 e) (cond (ah g.1 e) (cond (ah i h) (some (.inl (aC i h (ae bg g.1 e),aa .add .i64 e 1,aa .sub .i64 h 1,()))) none) none) none) none)) (fun g=>Empty.elim g) f) (fun d=>Empty.elim d) c
noncomputable def rp k x:=iter (Bd k) big x
noncomputable def bf(a:JP)(b c d:Int):Option (Int×Bool×U7):=letI e:=aa .sub .i64 c 1;letI f:=aC a b (ae bg a d);cond (ah a d) (cond (ah a b) (cond (ah a b) (cond (ah f d) ((qW (b,e,()) (aC f d (ae bg a b),aa .add .i64 b 1,())).bind fun g=>Sum.elim (fun h=>letI i:=h.2.1;(rm (b,i,()) (h.1,e,())).bind fun j=>Sum.elim (fun k=>letI l:=k.1;letI m:=k.2.1;letI n:=ah l m;letI o:=ae bg l m;letI p:=aC l m (ae bg l b);cond (af .gtr i m) (cond (ah l b) (cond n (cond n (cond (ah p b) (some (m,true,aC p b o,())) none) none) none) none) (cond n (cond (ah l i) (cond (ah l i) (cond (ah (aC l i o) m) ((rp (b,()) (aC (aC l i o) m (ae bg l i),aa .add .i64 i 1,aa .sub .i64 m 1,())).bind fun q=>Sum.elim (fun r=>letI s:=r.2.1;letI t:=aC r.1 s (ae bg r.1 b);cond (ah r.1 b) (cond (ah r.1 s) (cond (ah r.1 s) (cond (ah t b) (some (s,false,aC t b (ae bg r.1 s),())) none) none) none) none) (fun r=>Empty.elim r) q) none) none) none) none)) (fun k=>Empty.elim k) j) (fun h=>Empty.elim h) g) none) none) none) none
noncomputable def H7(rec:(List (Int×Int×Int×Int×Int×Int×Int))->Int->Int->Int->Option ((List (Int×Int×Int×Int×Int×Int×Int))×Unit))(k:Unit)(x:(List (Int×Int×Int×Int×Int×Int×Int))×Int×Int×Int×Bool×Bool×Unit):Option (((List (Int×Int×Int×Int×Int×Int×Int))×Int×Int×Int×Bool×Bool×Unit)⊕((List (Int×Int×Int×Int×Int×Int×Int))×Unit⊕Empty)):=(bif (af .leq (aa .sub .i64 x.2.2.1 x.2.1) (12:Int))then((qB x.1 x.2.1 x.2.2.1).bind fun y0=>some (.inr (.inl (y0.1,()))))else(bif (af .eql x.2.2.2.1 (0:Int))then((ve x.1 x.2.1 x.2.2.1).bind fun y0=>some (.inr (.inl (y0.1,()))))else(bif (Bool.not x.2.2.2.2.1)then((qx x.1 x.2.1 x.2.2.1).bind fun y0=>((mm y0.1 x.2.1 x.2.2.1).bind fun y1=>(bif (af .eql y1.2.1 (2:Int))then((k6 y0.1 x.2.1 x.2.2.1).bind fun y2=>(bif x.2.2.2.2.1 then(bif x.2.2.2.2.2.1 then(bif (af .eql (1:Int) (1:Int))then((gn y2.1 x.2.1 x.2.2.1).bind fun y3=>(bif y3.1 then some (.inr (.inl (y3.2.1,())))else(bif (af .gtr x.2.1 (0:Int))then(bif (ah y3.2.1 (aa .sub .i64 x.2.1 (1:Int)))then(bif (ah y3.2.1 (aa .sub .i64 (aa .sub .i64 x.2.2.1 (1:Int)) (aa .sub .i64 y1.1 x.2.1)))then((ey (ae bg y3.2.1 (aa .sub .i64 x.2.1 (1:Int))).1 (ae bg y3.2.1 (aa .sub .i64 x.2.1 (1:Int))).2.1 (ae bg y3.2.1 (aa .sub .i64 x.2.1 (1:Int))).2.2.1 (ae bg y3.2.1 (aa .sub .i64 x.2.1 (1:Int))).2.2.2.1 (ae bg y3.2.1 (aa .sub .i64 x.2.1 (1:Int))).2.2.2.2.1 (ae bg y3.2.1 (aa .sub .i64 x.2.1 (1:Int))).2.2.2.2.2.1 (ae bg y3.2.1 (aa .sub .i64 x.2.1 (1:Int))).2.2.2.2.2.2 (ae bg y3.2.1 (aa .sub .i64 (aa .sub .i64 x.2.2.1 (1:Int)) (aa .sub .i64 y1.1 x.2.1))).1 (ae bg y3.2.1 (aa .sub .i64 (aa .sub .i64 x.2.2.1 (1:Int)) (aa .sub .i64 y1.1 x.2.1))).2.1 (ae bg y3.2.1 (aa .sub .i64 (aa .sub .i64 x.2.2.1 (1:Int)) (aa .sub .i64 y1.1 x.2.1))).2.2.1 (ae bg y3.2.1 (aa .sub .i64 (aa .sub .i64 x.2.2.1 (1:Int)) (aa .sub .i64 y1.1 x.2.1))).2.2.2.1 (ae bg y3.2.1 (aa .sub .i64 (aa .sub .i64 x.2.2.1 (1:Int)) (aa .sub .i64 y1.1 x.2.1))).2.2.2.2.1 (ae bg y3.2.1 (aa .sub .i64 (aa .sub .i64 x.2.2.1 (1:Int)) (aa .sub .i64 y1.1 x.2.1))).2.2.2.2.2.1 (ae bg y3.2.1 (aa .sub .i64 (aa .sub .i64 x.2.2.1 (1:Int)) (aa .sub .i64 y1.1 x.2.1))).2.2.2.2.2.2).bind fun y4=>(bif (Bool.not (af .lss y4.1 (0:Int)))then((bu y3.2.1 x.2.1 x.2.2.1 (aa .sub .i64 (aa .sub .i64 x.2.2.1 (1:Int)) (aa .sub .i64 y1.1 x.2.1))).bind fun y5=>some (.inl (y5.2.1,y5.1,x.2.2.1,(aa .sub .i64 x.2.2.2.1 (1:Int)),x.2.2.2.2.1,x.2.2.2.2.2.1,())))else((bf y3.2.1 x.2.1 x.2.2.1 (aa .sub .i64 (aa .sub .i64 x.2.2.1 (1:Int)) (aa .sub .i64 y1.1 x.2.1))).bind fun y5=>(bif (ax (8:Int))then none else(bif (af .lss (aa .sub .i64 y5.1 x.2.1) (aa .sub .i64 x.2.2.1 y5.1))then((rec y5.2.2.1 x.2.1 y5.1 (aa .sub .i64 x.2.2.2.1 (1:Int))).bind fun y6=>some (.inl (y6.1,(aa .add .i64 y5.1 (1:Int)),x.2.2.1,(aa .sub .i64 x.2.2.2.1 (1:Int)),(af .geq (aa .sub .i64 y5.1 x.2.1) (aa .quo .i64 (aa .sub .i64 x.2.2.1 x.2.1) (8:Int))),y5.2.1,())))else((rec y5.2.2.1 (aa .add .i64 y5.1 (1:Int)) x.2.2.1 (aa .sub .i64 x.2.2.2.1 (1:Int))).bind fun y6=>some (.inl (y6.1,x.2.1,y5.1,(aa .sub .i64 x.2.2.2.1 (1:Int)),(af .geq (aa .sub .i64 x.2.2.1 y5.1) (aa .quo .i64 (aa .sub .i64 x.2.2.1 x.2.1) (8:Int))),y5.2.1,()))))))))else none)else none)else((bf y3.2.1 x.2.1 x.2.2.1 (aa .sub .i64 (aa .sub .i64 x.2.2.1 (1:Int)) (aa .sub .i64 y1.1 x.2.1))).bind fun y4=>(bif (ax (8:Int))then none else(bif (af .lss (aa .sub .i64 y4.1 x.2.1) (aa .sub .i64 x.2.2.1 y4.1))then((rec y4.2.2.1 x.2.1 y4.1 (aa .sub .i64 x.2.2.2.1 (1:Int))).bind fun y5=>some (.inl (y5.1,(aa .add .i64 y4.1 (1:Int)),x.2.2.1,(aa .sub .i64 x.2.2.2.1 (1:Int)),(af .geq (aa .sub .i64 y4.1 x.2.1) (aa .quo .i64 (aa .sub .i64 x.2.2.1 x.2.1) (8:Int))),y4.2.1,())))else((rec y4.2.2.1 (aa .add .i64 y4.1 (1:Int)) x.2.2.1 (aa .sub .i64 x.2.2.2.1 (1:Int))).bind fun y5=>some (.inl (y5.1,x.2.1,y4.1,(aa .sub .i64 x.2.2.2.1 (1:Int)),(af .geq (aa .sub .i64 x.2.2.1 y4.1) (aa .quo .i64 (aa .sub .i64 x.2.2.1 x.2.1) (8:Int))),y4.2.1,())))))))))else(bif (af .gtr x.2.1 (0:Int))then(bif (ah y2.1 (aa .sub .i64 x.2.1 (1:Int)))then(bif (ah y2.1 (aa .sub .i64 (aa .sub .i64 x.2.2.1 (1:Int)) (aa .sub .i64 y1.1 x.2.1)))then((ey (ae bg y2.1 (aa .sub .i64 x.2.1 (1:Int))).1 (ae bg y2.1 (aa .sub .i64 x.2.1 (1:Int))).2.1 (ae bg y2.1 (aa .sub .i64 x.2.1 (1:Int))).2.2.1 (ae bg y2.1 (aa .sub .i64 x.2.1 (1:Int))).2.2.2.1 (ae bg y2.1 (aa .sub .i64 x.2.1 (1:Int))).2.2.2.2.1 (ae bg y2.1 (aa .sub .i64 x.2.1 (1:Int))).2.2.2.2.2.1 (ae bg y2.1 (aa .sub .i64 x.2.1 (1:Int))).2.2.2.2.2.2 (ae bg y2.1 (aa .sub .i64 (aa .sub .i64 x.2.2.1 (1:Int)) (aa .sub .i64 y1.1 x.2.1))).1 (ae bg y2.1 (aa .sub .i64 (aa .sub .i64 x.2.2.1 (1:Int)) (aa .sub .i64 y1.1 x.2.1))).2.1 (ae bg y2.1 (aa .sub .i64 (aa .sub .i64 x.2.2.1 (1:Int)) (aa .sub .i64 y1.1 x.2.1))).2.2.1 (ae bg y2.1 (aa .sub .i64 (aa .sub .i64 x.2.2.1 (1:Int)) (aa .sub .i64 y1.1 x.2.1))).2.2.2.1 (ae bg y2.1 (aa .sub .i64 (aa .sub .i64 x.2.2.1 (1:Int)) (aa .sub .i64 y1.1 x.2.1))).2.2.2.2.1 (ae bg y2.1 (aa .sub .i64 (aa .sub .i64 x.2.2.1 (1:Int)) (aa .sub .i64 y1.1 x.2.1))).2.2.2.2.2.1 (ae bg y2.1 (aa .sub .i64 (aa .sub .i64 x.2.2.1 (1:Int)) (aa .sub .i64 y1.1 x.2.1))).2.2.2.2.2.2).bind fun y3=>(bif (Bool.not (af .lss y3.1 (0:Int)))then((bu y2.1 x.2.1 x.2.2.1 (aa .sub .i64 (aa .sub .i64 x.2.2.1 (1:Int)) (aa .sub .i64 y1.1 x.2.1))).bind fun y4=>some (.inl (y4.2.1,y4.1,x.2.2.1,(aa .sub .i64 x.2.2.2.1 (1:Int)),x.2.2.2.2.1,x.2.2.2.2.2.1,())))else((bf y2.1 x.2.1 x.2.2.1 (aa .sub .i64 (aa .sub .i64 x.2.2.1 (1:Int)) (aa .sub .i64 y1.1 x.2.1))).bind fun y4=>(bif (ax (8:Int))then none else(bif (af .lss (aa .sub .i64 y4.1 x.2.1) (aa .sub .i64 x.2.2.1 y4.1))then((rec y4.2.2.1 x.2.1 y4.1 (aa .sub .i64 x.2.2.2.1 (1:Int))).bind fun y5=>some (.inl (y5.1,(aa .add .i64 y4.1 (1:Int)),x.2.2.1,(aa .sub .i64 x.2.2.2.1 (1:Int)),(af .geq (aa .sub .i64 y4.1 x.2.1) (aa .quo .i64 (aa .sub .i64 x.2.2.1 x.2.1) (8:Int))),y4.2.1,())))else((rec y4.2.2.1 (aa .add .i64 y4.1 (1:Int)) x.2.2.1 (aa .sub .i64 x.2.2.2.1 (1:Int))).bind fun y5=>some (.inl (y5.1,x.2.1,y4.1,(aa .sub .i64 x.2.2.2.1 (1:Int)),(af .geq (aa .sub .i64 x.2.2.1 y4.1) (aa .quo .i64 (aa .sub .i64 x.2.2.1 x.2.1) (8:Int))),y4.2.1,()))))))))else none)else none)else((bf y2.1 x.2.1 x.2.2.1 (aa .sub .i64 (aa .sub .i64 x.2.2.1 (1:Int)) (aa .sub .i64 y1.1 x.2.1))).bind fun y3=>(bif (ax (8:Int))then none else(bif (af .lss (aa .sub .i64 y3.1 x.2.1) (aa .sub .i64 x.2.2.1 y3.1))then((rec y3.2.2.1 x.2.1 y3.1 (aa .sub .i64 x.2.2.2.1 (1:Int))).bind fun y4=>some (.inl (y4.1,(aa .add .i64 y3.1 (1:Int)),x.2.2.1,(aa .sub .i64 x.2.2.2.1 (1:Int)),(af .geq (aa .sub .i64 y3.1 x.2.1) (aa .quo .i64 (aa .sub .i64 x.2.2.1 x.2.1) (8:Int))),y3.2.1,())))else((rec y3.2.2.1 (aa .add .i64 y3.1 (1:Int)) x.2.2.1 (aa .sub .i64 x.2.2.2.1 (1:Int))).bind fun y4=>some (.inl (y4.1,x.2.1,y3.1,(aa .sub .i64 x.2.2.2.1 (1:Int)),(af .geq (aa .sub .i64 x.2.2.1 y3.1) (aa .quo .i64 (aa .sub .i64 x.2.2.1 x.2.1) (8:Int))),y3.2.1,()))))))))else(bif (af .gtr x.2.1 (0:Int))then(bif (ah y2.1 (aa .sub .i64 x.2.1 (1:Int)))then(bif (ah y2.1 (aa .sub .i64 (aa .sub .i64 x.2.2.1 (1:Int)) (aa .sub .i64 y1.1 x.2.1)))then((ey (ae bg y2.1 (aa .sub .i64 x.2.1 (1:Int))).1 (ae bg y2.1 (aa .sub .i64 x.2.1 (1:Int))).2.1 (ae bg y2.1 (aa .sub .i64 x.2.1 (1:Int))).2.2.1 (ae bg y2.1 (aa .sub .i64 x.2.1 (1:Int))).2.2.2.1 (ae bg y2.1 (aa .sub .i64 x.2.1 (1:Int))).2.2.2.2.1 (ae bg y2.1 (aa .sub .i64 x.2.1 (1:Int))).2.2.2.2.2.1 (ae bg y2.1 (aa .sub .i64 x.2.1 (1:Int))).2.2.2.2.2.2 (ae bg y2.1 (aa .sub .i64 (aa .sub .i64 x.2.2.1 (1:Int)) (aa .sub .i64 y1.1 x.2.1))).1 (ae bg y2.1 (aa .sub .i64 (aa .sub .i64 x.2.2.1 (1:Int)) (aa .sub .i64 y1.1 x.2.1))).2.1 (ae bg y2.1 (aa .sub .i64 (aa .sub .i64 x.2.2.1 (1:Int)) (aa .sub .i64 y1.1 x.2.1))).2.2.1 (ae bg y2.1 (aa .sub .i64 (aa .sub .i64 x.2.2.1 (1:Int)) (aa .sub .i64 y1.1 x.2.1))).2.2.2.1 (ae bg y2.1 (aa .sub .i64 (aa .sub .i64 x.2.2.1 (1:Int)) (aa .sub .i64 y1.1 x.2.1))).2.2.2.2.1 (ae bg y2.1 (aa .sub .i64 (aa .sub .i64 x.2.2.1 (1:Int)) (aa .sub .i64 y1.1 x.2.1))).2.2.2.2.2.1 (ae bg y2.1 (aa .sub .i64 (aa .sub .i64 x.2.2.1 (1:Int)) (aa .sub .i64 y1.1 x.2.1))).2.2.2.2.2.2).bind fun y3=>(bif (Bool.not (af .lss y3.1 (0:Int)))then((bu y2.1 x.2.1 x.2.2.1 (aa .sub .i64 (aa .sub .i64 x.2.2.1 (1:Int)) (aa .sub .i64 y1.1 x.2.1))).bind fun y4=>some (.inl (y4.2.1,y4.1,x.2.2.1,(aa .sub .i64 x.2.2.2.1 (1:Int)),x.2.2.2.2.1,x.2.2.2.2.2.1,())))else((bf y2.1 x.2.1 x.2.2.1 (aa .sub .i64 (aa .sub .i64 x.2.2.1 (1:Int)) (aa .sub .i64 y1.1 x.2.1))).bind fun y4=>(bif (ax (8:Int))then none else(bif (af .lss (aa .sub .i64 y4.1 x.2.1) (aa .sub .i64 x.2.2.1 y4.1))then((rec y4.2.2.1 x.2.1 y4.1 (aa .sub .i64 x.2.2.2.1 (1:Int))).bind fun y5=>some (.inl (y5.1,(aa .add .i64 y4.1 (1:Int)),x.2.2.1,(aa .sub .i64 x.2.2.2.1 (1:Int)),(af .geq (aa .sub .i64 y4.1 x.2.1) (aa .quo .i64 (aa .sub .i64 x.2.2.1 x.2.1) (8:Int))),y4.2.1,())))else((rec y4.2.2.1 (aa .add .i64 y4.1 (1:Int)) x.2.2.1 (aa .sub .i64 x.2.2.2.1 (1:Int))).bind fun y5=>some (.inl (y5.1,x.2.1,y4.1,(aa .sub .i64 x.2.2.2.1 (1:Int)),(af .geq (aa .sub .i64 x.2.2.1 y4.1) (aa .quo .i64 (aa .sub .i64 x.2.2.1 x.2.1) (8:Int))),y4.2.1,()))))))))else none)else none)else((bf y2.1 x.2.1 x.2.2.1 (aa .sub .i64 (aa .sub .i64 x.2.2.1 (1:Int)) (aa .sub .i64 y1.1 x.2.1))).bind fun y3=>(bif (ax (8:Int))then none else(bif (af .lss (aa .sub .i64 y3.1 x.2.1) (aa .sub .i64 x.2.2.1 y3.1))then((rec y3.2.2.1 x.2.1 y3.1 (aa .sub .i64 x.2.2.2.1 (1:Int))).bind fun y4=>some (.inl (y4.1,(aa .add .i64 y3.1 (1:Int)),x.2.2.1,(aa .sub .i64 x.2.2.2.1 (1:Int)),(af .geq (aa .sub .i64 y3.1 x.2.1) (aa .quo .i64 (aa .sub .i64 x.2.2.1 x.2.1) (8:Int))),y3.2.1,())))else((rec y3.2.2.1 (aa .add .i64 y3.1 (1:Int)) x.2.2.1 (aa .sub .i64 x.2.2.2.1 (1:Int))).bind fun y4=>some (.inl (y4.1,x.2.1,y3.1,(aa .sub .i64 x.2.2.2.1 (1:Int)),(af .geq (aa .sub .i64 x.2.2.1 y3.1) (aa .quo .i64 (aa .sub .i64 x.2.2.1 x.2.1) (8:Int))),y3.2.1,()))))))))else(bif (af .gtr x.2.1 (0:Int))then(bif (ah y2.1 (aa .sub .i64 x.2.1 (1:Int)))then(bif (ah y2.1 (aa .sub .i64 (aa .sub .i64 x.2.2.1 (1:Int)) (aa .sub .i64 y1.1 x.2.1)))then((ey (ae bg y2.1 (aa .sub .i64 x.2.1 (1:Int))).1 (ae bg y2.1 (aa .sub .i64 x.2.1 (1:Int))).2.1 (ae bg y2.1 (aa .sub .i64 x.2.1 (1:Int))).2.2.1 (ae bg y2.1 (aa .sub .i64 x.2.1 (1:Int))).2.2.2.1 (ae bg y2.1 (aa .sub .i64 x.2.1 (1:Int))).2.2.2.2.1 (ae bg y2.1 (aa .sub .i64 x.2.1 (1:Int))).2.2.2.2.2.1 (ae bg y2.1 (aa .sub .i64 x.2.1 (1:Int))).2.2.2.2.2.2 (ae bg y2.1 (aa .sub .i64 (aa .sub .i64 x.2.2.1 (1:Int)) (aa .sub .i64 y1.1 x.2.1))).1 (ae bg y2.1 (aa .sub .i64 (aa .sub .i64 x.2.2.1 (1:Int)) (aa .sub .i64 y1.1 x.2.1))).2.1 (ae bg y2.1 (aa .sub .i64 (aa .sub .i64 x.2.2.1 (1:Int)) (aa .sub .i64 y1.1 x.2.1))).2.2.1 (ae bg y2.1 (aa .sub .i64 (aa .sub .i64 x.2.2.1 (1:Int)) (aa .sub .i64 y1.1 x.2.1))).2.2.2.1 (ae bg y2.1 (aa .sub .i64 (aa .sub .i64 x.2.2.1 (1:Int)) (aa .sub .i64 y1.1 x.2.1))).2.2.2.2.1 (ae bg y2.1 (aa .sub .i64 (aa .sub .i64 x.2.2.1 (1:Int)) (aa .sub .i64 y1.1 x.2.1))).2.2.2.2.2.1 (ae bg y2.1 (aa .sub .i64 (aa .sub .i64 x.2.2.1 (1:Int)) (aa .sub .i64 y1.1 x.2.1))).2.2.2.2.2.2).bind fun y3=>(bif (Bool.not (af .lss y3.1 (0:Int)))then((bu y2.1 x.2.1 x.2.2.1 (aa .sub .i64 (aa .sub .i64 x.2.2.1 (1:Int)) (aa .sub .i64 y1.1 x.2.1))).bind fun y4=>some (.inl (y4.2.1,y4.1,x.2.2.1,(aa .sub .i64 x.2.2.2.1 (1:Int)),x.2.2.2.2.1,x.2.2.2.2.2.1,())))else((bf y2.1 x.2.1 x.2.2.1 (aa .sub .i64 (aa .sub .i64 x.2.2.1 (1:Int)) (aa .sub .i64 y1.1 x.2.1))).bind fun y4=>(bif (ax (8:Int))then none else(bif (af .lss (aa .sub .i64 y4.1 x.2.1) (aa .sub .i64 x.2.2.1 y4.1))then((rec y4.2.2.1 x.2.1 y4.1 (aa .sub .i64 x.2.2.2.1 (1:Int))).bind fun y5=>some (.inl (y5.1,(aa .add .i64 y4.1 (1:Int)),x.2.2.1,(aa .sub .i64 x.2.2.2.1 (1:Int)),(af .geq (aa .sub .i64 y4.1 x.2.1) (aa .quo .i64 (aa .sub .i64 x.2.2.1 x.2.1) (8:Int))),y4.2.1,())))else((rec y4.2.2.1 (aa .add .i64 y4.1 (1:Int)) x.2.2.1 (aa .sub .i64 x.2.2.2.1 (1:Int))).bind fun y5=>some (.inl (y5.1,x.2.1,y4.1,(aa .sub .i64 x.2.2.2.1 (1:Int)),(af .geq (aa .sub .i64 x.2.2.1 y4.1) (aa .quo .i64 (aa .sub .i64 x.2.2.1 x.2.1) (8:Int))),y4.2.1,()))))))))else none)else none)else((bf y2.1 x.2.1 x.2.2.1 (aa .sub .i64 (aa .sub .i64 x.2.2.1 (1:Int)) (aa .sub .i64 y1.1 x.2.1))).bind fun y3=>(bif (ax (8:Int))then none else(bif (af .lss (aa .sub .i64 y3.1 x.2.1) (aa .sub .i64 x.2.2.1 y3.1))then((rec y3.2.2.1 x.2.1 y3.1 (aa .sub .i64 x.2.2.2.1 (1:Int))).bind fun y4=>some (.inl (y4.1,(aa .add .i64 y3.1 (1:Int)),x.2.2.1,(aa .sub .i64 x.2.2.2.1 (1:Int)),(af .geq (aa .sub .i64 y3.1 x.2.1) (aa .quo .i64 (aa .sub .i64 x.2.2.1 x.2.1) (8:Int))),y3.2.1,())))else((rec y3.2.2.1 (aa .add .i64 y3.1 (1:Int)) x.2.2.1 (aa .sub .i64 x.2.2.2.1 (1:Int))).bind fun y4=>some (.inl (y4.1,x.2.1,y3.1,(aa .sub .i64 x.2.2.2.1 (1:Int)),(af .geq (aa .sub .i64 x.2.2.1 y3.1) (aa .quo .i64 (aa .sub .i64 x.2.2.1 x.2.1) (8:Int))),y3.2.1,())))))))))else(bif x.2.2.2.2.1 then(bif x.2.2.2.2.2.1 then(bif (af .eql y1.2.1 (1:Int))then((gn y0.1 x.2.1 x.2.2.1).bind fun y2=>(bif y2.1 then some (.inr (.inl (y2.2.1,())))else(bif (af .gtr x.2.1 (0:Int))then(bif (ah y2.2.1 (aa .sub .i64 x.2.1 (1:Int)))then(bif (ah y2.2.1 y1.1)then((ey (ae bg y2.2.1 (aa .sub .i64 x.2.1 (1:Int))).1 (ae bg y2.2.1 (aa .sub .i64 x.2.1 (1:Int))).2.1 (ae bg y2.2.1 (aa .sub .i64 x.2.1 (1:Int))).2.2.1 (ae bg y2.2.1 (aa .sub .i64 x.2.1 (1:Int))).2.2.2.1 (ae bg y2.2.1 (aa .sub .i64 x.2.1 (1:Int))).2.2.2.2.1 (ae bg y2.2.1 (aa .sub .i64 x.2.1 (1:Int))).2.2.2.2.2.1 (ae bg y2.2.1 (aa .sub .i64 x.2.1 (1:Int))).2.2.2.2.2.2 (ae bg y2.2.1 y1.1).1 (ae bg y2.2.1 y1.1).2.1 (ae bg y2.2.1 y1.1).2.2.1 (ae bg y2.2.1 y1.1).2.2.2.1 (ae bg y2.2.1 y1.1).2.2.2.2.1 (ae bg y2.2.1 y1.1).2.2.2.2.2.1 (ae bg y2.2.1 y1.1).2.2.2.2.2.2).bind fun y3=>(bif (Bool.not (af .lss y3.1 (0:Int)))then((bu y2.2.1 x.2.1 x.2.2.1 y1.1).bind fun y4=>some (.inl (y4.2.1,y4.1,x.2.2.1,(aa .sub .i64 x.2.2.2.1 (1:Int)),x.2.2.2.2.1,x.2.2.2.2.2.1,())))else((bf y2.2.1 x.2.1 x.2.2.1 y1.1).bind fun y4=>(bif (ax (8:Int))then none else(bif (af .lss (aa .sub .i64 y4.1 x.2.1) (aa .sub .i64 x.2.2.1 y4.1))then((rec y4.2.2.1 x.2.1 y4.1 (aa .sub .i64 x.2.2.2.1 (1:Int))).bind fun y5=>some (.inl (y5.1,(aa .add .i64 y4.1 (1:Int)),x.2.2.1,(aa .sub .i64 x.2.2.2.1 (1:Int)),(af .geq (aa .sub .i64 y4.1 x.2.1) (aa .quo .i64 (aa .sub .i64 x.2.2.1 x.2.1) (8:Int))),y4.2.1,())))else((rec y4.2.2.1 (aa .add .i64 y4.1 (1:Int)) x.2.2.1 (aa .sub .i64 x.2.2.2.1 (1:Int))).bind fun y5=>some (.inl (y5.1,x.2.1,y4.1,(aa .sub .i64 x.2.2.2.1 (1:Int)),(af .geq (aa .sub .i64 x.2.2.1 y4.1) (aa .quo .i64 (aa .sub .i64 x.2.2.1 x.2.1) (8:Int))),y4.2.1,()))))))))else none)else none)else((bf y2.2.1 x.2.1 x.2.2.1 y1.1).bind fun y3=>(bif (ax (8:Int))then none else(bif (af .lss (aa .sub .i64 y3.1 x.2.1) (aa .sub .i64 x.2.2.1 y3.1))then((rec y3.2.2.1 x.2.1 y3.1 (aa .sub .i64 x.2.2.2.1 (1:Int))).bind fun y4=>some (.inl (y4.1,(aa .add .i64 y3.1 (1:Int)),x.2.2.1,(aa .sub .i64 x.2.2.2.1 (1:Int)),(af .geq (aa .sub .i64 y3.1 x.2.1) (aa .quo .i64 (aa .sub .i64 x.2.2.1 x.2.1) (8:Int))),y3.2.1,())))else((rec y3.2.2.1 (aa .add .i64 y3.1 (1:Int)) x.2.2.1 (aa .sub .i64 x.2.2.2.1 (1:Int))).bind fun y4=>some (.inl (y4.1,x.2.1,y3.1,(aa .sub .i64 x.2.2.2.1 (1:Int)),(af .geq (aa .sub .i64 x.2.2.1 y3.1) (aa .quo .i64 (aa .sub .i64 x.2.2.1 x.2.1) (8:Int))),y3.2.1,())))))))))else(bif (af .gtr x.2.1 (0:Int))then(bif (ah y0.1 (aa .sub .i64 x.2.1 (1:Int)))then(bif (ah y0.1 y1.1)then((ey (ae bg y0.1 (aa .sub .i64 x.2.1 (1:Int))).1 (ae bg y0.1 (aa .sub .i64 x.2.1 (1:Int))).2.1 (ae bg y0.1 (aa .sub .i64 x.2.1 (1:Int))).2.2.1 (ae bg y0.1 (aa .sub .i64 x.2.1 (1:Int))).2.2.2.1 (ae bg y0.1 (aa .sub .i64 x.2.1 (1:Int))).2.2.2.2.1 (ae bg y0.1 (aa .sub .i64 x.2.1 (1:Int))).2.2.2.2.2.1 (ae bg y0.1 (aa .sub .i64 x.2.1 (1:Int))).2.2.2.2.2.2 (ae bg y0.1 y1.1).1 (ae bg y0.1 y1.1).2.1 (ae bg y0.1 y1.1).2.2.1 (ae bg y0.1 y1.1).2.2.2.1 (ae bg y0.1 y1.1).2.2.2.2.1 (ae bg y0.1 y1.1).2.2.2.2.2.1 (ae bg y0.1 y1.1).2.2.2.2.2.2).bind fun y2=>(bif (Bool.not (af .lss y2.1 (0:Int)))then((bu y0.1 x.2.1 x.2.2.1 y1.1).bind fun y3=>some (.inl (y3.2.1,y3.1,x.2.2.1,(aa .sub .i64 x.2.2.2.1 (1:Int)),x.2.2.2.2.1,x.2.2.2.2.2.1,())))else((bf y0.1 x.2.1 x.2.2.1 y1.1).bind fun y3=>(bif (ax (8:Int))then none else(bif (af .lss (aa .sub .i64 y3.1 x.2.1) (aa .sub .i64 x.2.2.1 y3.1))then((rec y3.2.2.1 x.2.1 y3.1 (aa .sub .i64 x.2.2.2.1 (1:Int))).bind fun y4=>some (.inl (y4.1,(aa .add .i64 y3.1 (1:Int)),x.2.2.1,(aa .sub .i64 x.2.2.2.1 (1:Int)),(af .geq (aa .sub .i64 y3.1 x.2.1) (aa .quo .i64 (aa .sub .i64 x.2.2.1 x.2.1) (8:Int))),y3.2.1,())))else((rec y3.2.2.1 (aa .add .i64 y3.1 (1:Int)) x.2.2.1 (aa .sub .i64 x.2.2.2.1 (1:Int))).bind fun y4=>some (.inl (y4.1,x.2.1,y3.1,(aa .sub .i64 x.2.2.2.1 (1:Int)),(af .geq (aa .sub .i64 x.2.2.1 y3.1) (aa .quo .i64 (aa .sub .i64 x.2.2.1 x.2.1) (8:Int))),y3.2.1,()))))))))else none)else none)else((bf y0.1 x.2.1 x.2.2.1 y1.1).bind fun y2=>(bif (ax (8:Int))then none else(bif (af .lss (aa .sub .i64 y2.1 x.2.1) (aa .sub .i64 x.2.2.1 y2.1))then((rec y2.2.2.1 x.2.1 y2.1 (aa .sub .i64 x.2.2.2.1 (1:Int))).bind fun y3=>some (.inl (y3.1,(aa .add .i64 y2.1 (1:Int)),x.2.2.1,(aa .sub .i64 x.2.2.2.1 (1:Int)),(af .geq (aa .sub .i64 y2.1 x.2.1) (aa .quo .i64 (aa .sub .i64 x.2.2.1 x.2.1) (8:Int))),y2.2.1,())))else((rec y2.2.2.1 (aa .add .i64 y2.1 (1:Int)) x.2.2.1 (aa .sub .i64 x.2.2.2.1 (1:Int))).bind fun y3=>some (.inl (y3.1,x.2.1,y2.1,(aa .sub .i64 x.2.2.2.1 (1:Int)),(af .geq (aa .sub .i64 x.2.2.1 y2.1) (aa .quo .i64 (aa .sub .i64 x.2.2.1 x.2.1) (8:Int))),y2.2.1,()))))))))else(bif (af .gtr x.2.1 (0:Int))then(bif (ah y0.1 (aa .sub .i64 x.2.1 (1:Int)))then(bif (ah y0.1 y1.1)then((ey (ae bg y0.1 (aa .sub .i64 x.2.1 (1:Int))).1 (ae bg y0.1 (aa .sub .i64 x.2.1 (1:Int))).2.1 (ae bg y0.1 (aa .sub .i64 x.2.1 (1:Int))).2.2.1 (ae bg y0.1 (aa .sub .i64 x.2.1 (1:Int))).2.2.2.1 (ae bg y0.1 (aa .sub .i64 x.2.1 (1:Int))).2.2.2.2.1 (ae bg y0.1 (aa .sub .i64 x.2.1 (1:Int))).2.2.2.2.2.1 (ae bg y0.1 (aa .sub .i64 x.2.1 (1:Int))).2.2.2.2.2.2 (ae bg y0.1 y1.1).1 (ae bg y0.1 y1.1).2.1 (ae bg y0.1 y1.1).2.2.1 (ae bg y0.1 y1.1).2.2.2.1 (ae bg y0.1 y1.1).2.2.2.2.1 (ae bg y0.1 y1.1).2.2.2.2.2.1 (ae bg y0.1 y1.1).2.2.2.2.2.2).bind fun y2=>(bif (Bool.not (af .lss y2.1 (0:Int)))then((bu y0.1 x.2.1 x.2.2.1 y1.1).bind fun y3=>some (.inl (y3.2.1,y3.1,x.2.2.1,(aa .sub .i64 x.2.2.2.1 (1:Int)),x.2.2.2.2.1,x.2.2.2.2.2.1,())))else((bf y0.1 x.2.1 x.2.2.1 y1.1).bind fun y3=>(bif (ax (8:Int))then none else(bif (af .lss (aa .sub .i64 y3.1 x.2.1) (aa .sub .i64 x.2.2.1 y3.1))then((rec y3.2.2.1 x.2.1 y3.1 (aa .sub .i64 x.2.2.2.1 (1:Int))).bind fun y4=>some (.inl (y4.1,(aa .add .i64 y3.1 (1:Int)),x.2.2.1,(aa .sub .i64 x.2.2.2.1 (1:Int)),(af .geq (aa .sub .i64 y3.1 x.2.1) (aa .quo .i64 (aa .sub .i64 x.2.2.1 x.2.1) (8:Int))),y3.2.1,())))else((rec y3.2.2.1 (aa .add .i64 y3.1 (1:Int)) x.2.2.1 (aa .sub .i64 x.2.2.2.1 (1:Int))).bind fun y4=>some (.inl (y4.1,x.2.1,y3.1,(aa .sub .i64 x.2.2.2.1 (1:Int)),(af .geq (aa .sub .i64 x.2.2.1 y3.1) (aa .quo .i64 (aa .sub .i64 x.2.2.1 x.2.1) (8:Int))),y3.2.1,()))))))))else none)else none)else((bf y0.1 x.2.1 x.2.2.1 y1.1).bind fun y2=>(bif (ax (8:Int))then none else(bif (af .lss (aa .sub .i64 y2.1 x.2.1) (aa .sub .i64 x.2.2.1 y2.1))then((rec y2.2.2.1 x.2.1 y2.1 (aa .sub .i64 x.2.2.2.1 (1:Int))).bind fun y3=>some (.inl (y3.1,(aa .add .i64 y2.1 (1:Int)),x.2.2.1,(aa .sub .i64 x.2.2.2.1 (1:Int)),(af .geq (aa .sub .i64 y2.1 x.2.1) (aa .quo .i64 (aa .sub .i64 x.2.2.1 x.2.1) (8:Int))),y2.2.1,())))else((rec y2.2.2.1 (aa .add .i64 y2.1 (1:Int)) x.2.2.1 (aa .sub .i64 x.2.2.2.1 (1:Int))).bind fun y3=>some (.inl (y3.1,x.2.1,y2.1,(aa .sub .i64 x.2.2.2.1 (1:Int)),(af .geq (aa .sub .i64 x.2.2.1 y2.1) (aa .quo .i64 (aa .sub .i64 x.2.2.1 x.2.1) (8:Int))),y2.2.1,()))))))))else(bif (af .gtr x.2.1 (0:Int))then(bif (ah y0.1 (aa .sub .i64 x.2.1 (1:Int)))then(bif (ah y0.1 y1.1)then((ey (ae bg y0.1 (aa .sub .i64 x.2.1 (1:Int))).1 (ae bg y0.1 (aa .sub .i64 x.2.1 (1:Int))).2.1 (ae bg y0.1 (aa .sub .i64 x.2.1 (1:Int))).2.2.1 (ae bg y0.1 (aa .sub .i64 x.2.1 (1:Int))).2.2.2.1 (ae bg y0.1 (aa .sub .i64 x.2.1 (1:Int))).2.2.2.2.1 (ae bg y0.1 (aa .sub .i64 x.2.1 (1:Int))).2.2.2.2.2.1 (ae bg y0.1 (aa .sub .i64 x.2.1 (1:Int))).2.2.2.2.2.2 (ae bg y0.1 y1.1).1 (ae bg y0.1 y1.1).2.1 (ae bg y0.1 y1.1).2.2.1 (ae bg y0.1 y1.1).2.2.2.1 (ae bg y0.1 y1.1).2.2.2.2.1 (ae bg y0.1 y1.1).2.2.2.2.2.1 (ae bg y0.1 y1.1).2.2.2.2.2.2).bind fun y2=>(bif (Bool.not (af .lss y2.1 (0:Int)))then((bu y0.1 x.2.1 x.2.2.1 y1.1).bind fun y3=>some (.inl (y3.2.1,y3.1,x.2.2.1,(aa .sub .i64 x.2.2.2.1 (1:Int)),x.2.2.2.2.1,x.2.2.2.2.2.1,())))else((bf y0.1 x.2.1 x.2.2.1 y1.1).bind fun y3=>(bif (ax (8:Int))then none else(bif (af .lss (aa .sub .i64 y3.1 x.2.1) (aa .sub .i64 x.2.2.1 y3.1))then((rec y3.2.2.1 x.2.1 y3.1 (aa .sub .i64 x.2.2.2.1 (1:Int))).bind fun y4=>some (.inl (y4.1,(aa .add .i64 y3.1 (1:Int)),x.2.2.1,(aa .sub .i64 x.2.2.2.1 (1:Int)),(af .geq (aa .sub .i64 y3.1 x.2.1) (aa .quo .i64 (aa .sub .i64 x.2.2.1 x.2.1) (8:Int))),y3.2.1,())))else((rec y3.2.2.1 (aa .add .i64 y3.1 (1:Int)) x.2.2.1 (aa .sub .i64 x.2.2.2.1 (1:Int))).bind fun y4=>some (.inl (y4.1,x.2.1,y3.1,(aa .sub .i64 x.2.2.2.1 (1:Int)),(af .geq (aa .sub .i64 x.2.2.1 y3.1) (aa .quo .i64 (aa .sub .i64 x.2.2.1 x.2.1) (8:Int))),y3.2.1,()))))))))else none)else none)else((bf y0.1 x.2.1 x.2.2.1 y1.1).bind fun y2=>(bif (ax (8:Int))then none else(bif (af .lss (aa .sub .i64 y2.1 x.2.1) (aa .sub .i64 x.2.2.1 y2.1))then((rec y2.2.2.1 x.2.1 y2.1 (aa .sub .i64 x.2.2.2.1 (1:Int))).bind fun y3=>some (.inl (y3.1,(aa .add .i64 y2.1 (1:Int)),x.2.2.1,(aa .sub .i64 x.2.2.2.1 (1:Int)),(af .geq (aa .sub .i64 y2.1 x.2.1) (aa .quo .i64 (aa .sub .i64 x.2.2.1 x.2.1) (8:Int))),y2.2.1,())))else((rec y2.2.2.1 (aa .add .i64 y2.1 (1:Int)) x.2.2.1 (aa .sub .i64 x.2.2.2.1 (1:Int))).bind fun y3=>some (.inl (y3.1,x.2.1,y2.1,(aa .sub .i64 x.2.2.2.1 (1:Int)),(af .geq (aa .sub .i64 x.2.2.1 y2.1) (aa .quo .i64 (aa .sub .i64 x.2.2.1 x.2.1) (8:Int))),y2.2.1,())))))))))))else((mm x.1 x.2.1 x.2.2.1).bind fun y0=>(bif (af .eql y0.2.1 (2:Int))then((k6 x.1 x.2.1 x.2.2.1).bind fun y1=>(bif x.2.2.2.2.1 then(bif x.2.2.2.2.2.1 then(bif (af .eql (1:Int) (1:Int))then((gn y1.1 x.2.1 x.2.2.1).bind fun y2=>(bif y2.1 then some (.inr (.inl (y2.2.1,())))else(bif (af .gtr x.2.1 (0:Int))then(bif (ah y2.2.1 (aa .sub .i64 x.2.1 (1:Int)))then(bif (ah y2.2.1 (aa .sub .i64 (aa .sub .i64 x.2.2.1 (1:Int)) (aa .sub .i64 y0.1 x.2.1)))then((ey (ae bg y2.2.1 (aa .sub .i64 x.2.1 (1:Int))).1 (ae bg y2.2.1 (aa .sub .i64 x.2.1 (1:Int))).2.1 (ae bg y2.2.1 (aa .sub .i64 x.2.1 (1:Int))).2.2.1 (ae bg y2.2.1 (aa .sub .i64 x.2.1 (1:Int))).2.2.2.1 (ae bg y2.2.1 (aa .sub .i64 x.2.1 (1:Int))).2.2.2.2.1 (ae bg y2.2.1 (aa .sub .i64 x.2.1 (1:Int))).2.2.2.2.2.1 (ae bg y2.2.1 (aa .sub .i64 x.2.1 (1:Int))).2.2.2.2.2.2 (ae bg y2.2.1 (aa .sub .i64 (aa .sub .i64 x.2.2.1 (1:Int)) (aa .sub .i64 y0.1 x.2.1))).1 (ae bg y2.2.1 (aa .sub .i64 (aa .sub .i64 x.2.2.1 (1:Int)) (aa .sub .i64 y0.1 x.2.1))).2.1 (ae bg y2.2.1 (aa .sub .i64 (aa .sub .i64 x.2.2.1 (1:Int)) (aa .sub .i64 y0.1 x.2.1))).2.2.1 (ae bg y2.2.1 (aa .sub .i64 (aa .sub .i64 x.2.2.1 (1:Int)) (aa .sub .i64 y0.1 x.2.1))).2.2.2.1 (ae bg y2.2.1 (aa .sub .i64 (aa .sub .i64 x.2.2.1 (1:Int)) (aa .sub .i64 y0.1 x.2.1))).2.2.2.2.1 (ae bg y2.2.1 (aa .sub .i64 (aa .sub .i64 x.2.2.1 (1:Int)) (aa .sub .i64 y0.1 x.2.1))).2.2.2.2.2.1 (ae bg y2.2.1 (aa .sub .i64 (aa .sub .i64 x.2.2.1 (1:Int)) (aa .sub .i64 y0.1 x.2.1))).2.2.2.2.2.2).bind fun y3=>(bif (Bool.not (af .lss y3.1 (0:Int)))then((bu y2.2.1 x.2.1 x.2.2.1 (aa .sub .i64 (aa .sub .i64 x.2.2.1 (1:Int)) (aa .sub .i64 y0.1 x.2.1))).bind fun y4=>some (.inl (y4.2.1,y4.1,x.2.2.1,x.2.2.2.1,x.2.2.2.2.1,x.2.2.2.2.2.1,())))else((bf y2.2.1 x.2.1 x.2.2.1 (aa .sub .i64 (aa .sub .i64 x.2.2.1 (1:Int)) (aa .sub .i64 y0.1 x.2.1))).bind fun y4=>(bif (ax (8:Int))then none else(bif (af .lss (aa .sub .i64 y4.1 x.2.1) (aa .sub .i64 x.2.2.1 y4.1))then((rec y4.2.2.1 x.2.1 y4.1 x.2.2.2.1).bind fun y5=>some (.inl (y5.1,(aa .add .i64 y4.1 (1:Int)),x.2.2.1,x.2.2.2.1,(af .geq (aa .sub .i64 y4.1 x.2.1) (aa .quo .i64 (aa .sub .i64 x.2.2.1 x.2.1) (8:Int))),y4.2.1,())))else((rec y4.2.2.1 (aa .add .i64 y4.1 (1:Int)) x.2.2.1 x.2.2.2.1).bind fun y5=>some (.inl (y5.1,x.2.1,y4.1,x.2.2.2.1,(af .geq (aa .sub .i64 x.2.2.1 y4.1) (aa .quo .i64 (aa .sub .i64 x.2.2.1 x.2.1) (8:Int))),y4.2.1,()))))))))else none)else none)else((bf y2.2.1 x.2.1 x.2.2.1 (aa .sub .i64 (aa .sub .i64 x.2.2.1 (1:Int)) (aa .sub .i64 y0.1 x.2.1))).bind fun y3=>(bif (ax (8:Int))then none else(bif (af .lss (aa .sub .i64 y3.1 x.2.1) (aa .sub .i64 x.2.2.1 y3.1))then((rec y3.2.2.1 x.2.1 y3.1 x.2.2.2.1).bind fun y4=>some (.inl (y4.1,(aa .add .i64 y3.1 (1:Int)),x.2.2.1,x.2.2.2.1,(af .geq (aa .sub .i64 y3.1 x.2.1) (aa .quo .i64 (aa .sub .i64 x.2.2.1 x.2.1) (8:Int))),y3.2.1,())))else((rec y3.2.2.1 (aa .add .i64 y3.1 (1:Int)) x.2.2.1 x.2.2.2.1).bind fun y4=>some (.inl (y4.1,x.2.1,y3.1,x.2.2.2.1,(af .geq (aa .sub .i64 x.2.2.1 y3.1) (aa .quo .i64 (aa .sub .i64 x.2.2.1 x.2.1) (8:Int))),y3.2.1,())))))))))else(bif (af .gtr x.2.1 (0:Int))then(bif (ah y1.1 (aa .sub .i64 x.2.1 (1:Int)))then(bif (ah y1.1 (aa .sub .i64 (aa .sub .i64 x.2.2.1 (1:Int)) (aa .sub .i64 y0.1 x.2.1)))then((ey (ae bg y1.1 (aa .sub .i64 x.2.1 (1:Int))).1 (ae bg y1.1 (aa .sub .i64 x.2.1 (1:Int))).2.1 (ae bg y1.1 (aa .sub .i64 x.2.1 (1:Int))).2.2.1 (ae bg y1.1 (aa .sub .i64 x.2.1 (1:Int))).2.2.2.1 (ae bg y1.1 (aa .sub .i64 x.2.1 (1:Int))).2.2.2.2.1 (ae bg y1.1 (aa .sub .i64 x.2.1 (1:Int))).2.2.2.2.2.1 (ae bg y1.1 (aa .sub .i64 x.2.1 (1:Int))).2.2.2.2.2.2 (ae bg y1.1 (aa .sub .i64 (aa .sub .i64 x.2.2.1 (1:Int)) (aa .sub .i64 y0.1 x.2.1))).1 (ae bg y1.1 (aa .sub .i64 (aa .sub .i64 x.2.2.1 (1:Int)) (aa .sub .i64 y0.1 x.2.1))).2.1 (ae bg y1.1 (aa .sub .i64 (aa .sub .i64 x.2.2.1 (1:Int)) (aa .sub .i64 y0.1 x.2.1))).2.2.1 (ae bg y1.1 (aa .sub .i64 (aa .sub .i64 x.2.2.1 (1:Int)) (aa .sub .i64 y0.1 x.2.1))).2.2.2.1 (ae bg y1.1 (aa .sub .i64 (aa .sub .i64 x.2.2.1 (1:Int)) (aa .sub .i64 y0.1 x.2.1))).2.2.2.2.1 (ae bg y1.1 (aa .sub .i64 (aa .sub .i64 x.2.2.1 (1:Int)) (aa .sub .i64 y0.1 x.2.1))).2.2.2.2.2.1 (ae bg y1.1 (aa .sub .i64 (aa .sub .i64 x.2.2.1 (1:Int)) (aa .sub .i64 y0.1 x.2.1))).2.2.2.2.2.2).bind fun y2=>(bif (Bool.not (af .lss y2.1 (0:Int)))then((bu y1.1 x.2.1 x.2.2.1 (aa .sub .i64 (aa .sub .i64 x.2.2.1 (1:Int)) (aa .sub .i64 y0.1 x.2.1))).bind fun y3=>some (.inl (y3.2.1,y3.1,x.2.2.1,x.2.2.2.1,x.2.2.2.2.1,x.2.2.2.2.2.1,())))else((bf y1.1 x.2.1 x.2.2.1 (aa .sub .i64 (aa .sub .i64 x.2.2.1 (1:Int)) (aa .sub .i64 y0.1 x.2.1))).bind fun y3=>(bif (ax (8:Int))then none else(bif (af .lss (aa .sub .i64 y3.1 x.2.1) (aa .sub .i64 x.2.2.1 y3.1))then((rec y3.2.2.1 x.2.1 y3.1 x.2.2.2.1).bind fun y4=>some (.inl (y4.1,(aa .add .i64 y3.1 (1:Int)),x.2.2.1,x.2.2.2.1,(af .geq (aa .sub .i64 y3.1 x.2.1) (aa .quo .i64 (aa .sub .i64 x.2.2.1 x.2.1) (8:Int))),y3.2.1,())))else((rec y3.2.2.1 (aa .add .i64 y3.1 (1:Int)) x.2.2.1 x.2.2.2.1).bind fun y4=>some (.inl (y4.1,x.2.1,y3.1,x.2.2.2.1,(af .geq (aa .sub .i64 x.2.2.1 y3.1) (aa .quo .i64 (aa .sub .i64 x.2.2.1 x.2.1) (8:Int))),y3.2.1,()))))))))else none)else none)else((bf y1.1 x.2.1 x.2.2.1 (aa .sub .i64 (aa .sub .i64 x.2.2.1 (1:Int)) (aa .sub .i64 y0.1 x.2.1))).bind fun y2=>(bif (ax (8:Int))then none else(bif (af .lss (aa .sub .i64 y2.1 x.2.1) (aa .sub .i64 x.2.2.1 y2.1))then((rec y2.2.2.1 x.2.1 y2.1 x.2.2.2.1).bind fun y3=>some (.inl (y3.1,(aa .add .i64 y2.1 (1:Int)),x.2.2.1,x.2.2.2.1,(af .geq (aa .sub .i64 y2.1 x.2.1) (aa .quo .i64 (aa .sub .i64 x.2.2.1 x.2.1) (8:Int))),y2.2.1,())))else((rec y2.2.2.1 (aa .add .i64 y2.1 (1:Int)) x.2.2.1 x.2.2.2.1).bind fun y3=>some (.inl (y3.1,x.2.1,y2.1,x.2.2.2.1,(af .geq (aa .sub .i64 x.2.2.1 y2.1) (aa .quo .i64 (aa .sub .i64 x.2.2.1 x.2.1) (8:Int))),y2.2.1,()))))))))else(bif (af .gtr x.2.1 (0:Int))then(bif (ah y1.1 (aa .sub .i64 x.2.1 (1:Int)))then(bif (ah y1.1 (aa .sub .i64 (aa .sub .i64 x.2.2.1 (1:Int)) (aa .sub .i64 y0.1 x.2.1)))then((ey (ae bg y1.1 (aa .sub .i64 x.2.1 (1:Int))).1 (ae bg y1.1 (aa .sub .i64 x.2.1 (1:Int))).2.1 (ae bg y1.1 (aa .sub .i64 x.2.1 (1:Int))).2.2.1 (ae bg y1.1 (aa .sub .i64 x.2.1 (1:Int))).2.2.2.1 (ae bg y1.1 (aa .sub .i64 x.2.1 (1:Int))).2.2.2.2.1 (ae bg y1.1 (aa .sub .i64 x.2.1 (1:Int))).2.2.2.2.2.1 (ae bg y1.1 (aa .sub .i64 x.2.1 (1:Int))).2.2.2.2.2.2 (ae bg y1.1 (aa .sub .i64 (aa .sub .i64 x.2.2.1 (1:Int)) (aa .sub .i64 y0.1 x.2.1))).1 (ae bg y1.1 (aa .sub .i64 (aa .sub .i64 x.2.2.1 (1:Int)) (aa .sub .i64 y0.1 x.2.1))).2.1 (ae bg y1.1 (aa .sub .i64 (aa .sub .i64 x.2.2.1 (1:Int)) (aa .sub .i64 y0.1 x.2.1))).2.2.1 (ae bg y1.1 (aa .sub .i64 (aa .sub .i64 x.2.2.1 (1:Int)) (aa .sub .i64 y0.1 x.2.1))).2.2.2.1 (ae bg y1.1 (aa .sub .i64 (aa .sub .i64 x.2.2.1 (1:Int)) (aa .sub .i64 y0.1 x.2.1))).2.2.2.2.1 (ae bg y1.1 (aa .sub .i64 (aa .sub .i64 x.2.2.1 (1:Int)) (aa .sub .i64 y0.1 x.2.1))).2.2.2.2.2.1 (ae bg y1.1 (aa .sub .i64 (aa .sub .i64 x.2.2.1 (1:Int)) (aa .sub .i64 y0.1 x.2.1))).2.2.2.2.2.2).bind fun y2=>(bif (Bool.not (af .lss y2.1 (0:Int)))then((bu y1.1 x.2.1 x.2.2.1 (aa .sub .i64 (aa .sub .i64 x.2.2.1 (1:Int)) (aa .sub .i64 y0.1 x.2.1))).bind fun y3=>some (.inl (y3.2.1,y3.1,x.2.2.1,x.2.2.2.1,x.2.2.2.2.1,x.2.2.2.2.2.1,())))else((bf y1.1 x.2.1 x.2.2.1 (aa .sub .i64 (aa .sub .i64 x.2.2.1 (1:Int)) (aa .sub .i64 y0.1 x.2.1))).bind fun y3=>(bif (ax (8:Int))then none else(bif (af .lss (aa .sub .i64 y3.1 x.2.1) (aa .sub .i64 x.2.2.1 y3.1))then((rec y3.2.2.1 x.2.1 y3.1 x.2.2.2.1).bind fun y4=>some (.inl (y4.1,(aa .add .i64 y3.1 (1:Int)),x.2.2.1,x.2.2.2.1,(af .geq (aa .sub .i64 y3.1 x.2.1) (aa .quo .i64 (aa .sub .i64 x.2.2.1 x.2.1) (8:Int))),y3.2.1,())))else((rec y3.2.2.1 (aa .add .i64 y3.1 (1:Int)) x.2.2.1 x.2.2.2.1).bind fun y4=>some (.inl (y4.1,x.2.1,y3.1,x.2.2.2.1,(af .geq (aa .sub .i64 x.2.2.1 y3.1) (aa .quo .i64 (aa .sub .i64 x.2.2.1 x.2.1) (8:Int))),y3.2.1,()))))))))else none)else none)else((bf y1.1 x.2.1 x.2.2.1 (aa .sub .i64 (aa .sub .i64 x.2.2.1 (1:Int)) (aa .sub .i64 y0.1 x.2.1))).bind fun y2=>(bif (ax (8:Int))then none else(bif (af .lss (aa .sub .i64 y2.1 x.2.1) (aa .sub .i64 x.2.2.1 y2.1))then((rec y2.2.2.1 x.2.1 y2.1 x.2.2.2.1).bind fun y3=>some (.inl (y3.1,(aa .add .i64 y2.1 (1:Int)),x.2.2.1,x.2.2.2.1,(af .geq (aa .sub .i64 y2.1 x.2.1) (aa .quo .i64 (aa .sub .i64 x.2.2.1 x.2.1) (8:Int))),y2.2.1,())))else((rec y2.2.2.1 (aa .add .i64 y2.1 (1:Int)) x.2.2.1 x.2.2.2.1).bind fun y3=>some (.inl (y3.1,x.2.1,y2.1,x.2.2.2.1,(af .geq (aa .sub .i64 x.2.2.1 y2.1) (aa .quo .i64 (aa .sub .i64 x.2.2.1 x.2.1) (8:Int))),y2.2.1,()))))))))else(bif (af .gtr x.2.1 (0:Int))then(bif (ah y1.1 (aa .sub .i64 x.2.1 (1:Int)))then(bif (ah y1.1 (aa .sub .i64 (aa .sub .i64 x.2.2.1 (1:Int)) (aa .sub .i64 y0.1 x.2.1)))then((ey (ae bg y1.1 (aa .sub .i64 x.2.1 (1:Int))).1 (ae bg y1.1 (aa .sub .i64 x.2.1 (1:Int))).2.1 (ae bg y1.1 (aa .sub .i64 x.2.1 (1:Int))).2.2.1 (ae bg y1.1 (aa .sub .i64 x.2.1 (1:Int))).2.2.2.1 (ae bg y1.1 (aa .sub .i64 x.2.1 (1:Int))).2.2.2.2.1 (ae bg y1.1 (aa .sub .i64 x.2.1 (1:Int))).2.2.2.2.2.1 (ae bg y1.1 (aa .sub .i64 x.2.1 (1:Int))).2.2.2.2.2.2 (ae bg y1.1 (aa .sub .i64 (aa .sub .i64 x.2.2.1 (1:Int)) (aa .sub .i64 y0.1 x.2.1))).1 (ae bg y1.1 (aa .sub .i64 (aa .sub .i64 x.2.2.1 (1:Int)) (aa .sub .i64 y0.1 x.2.1))).2.1 (ae bg y1.1 (aa .sub .i64 (aa .sub .i64 x.2.2.1 (1:Int)) (aa .sub .i64 y0.1 x.2.1))).2.2.1 (ae bg y1.1 (aa .sub .i64 (aa .sub .i64 x.2.2.1 (1:Int)) (aa .sub .i64 y0.1 x.2.1))).2.2.2.1 (ae bg y1.1 (aa .sub .i64 (aa .sub .i64 x.2.2.1 (1:Int)) (aa .sub .i64 y0.1 x.2.1))).2.2.2.2.1 (ae bg y1.1 (aa .sub .i64 (aa .sub .i64 x.2.2.1 (1:Int)) (aa .sub .i64 y0.1 x.2.1))).2.2.2.2.2.1 (ae bg y1.1 (aa .sub .i64 (aa .sub .i64 x.2.2.1 (1:Int)) (aa .sub .i64 y0.1 x.2.1))).2.2.2.2.2.2).bind fun y2=>(bif (Bool.not (af .lss y2.1 (0:Int)))then((bu y1.1 x.2.1 x.2.2.1 (aa .sub .i64 (aa .sub .i64 x.2.2.1 (1:Int)) (aa .sub .i64 y0.1 x.2.1))).bind fun y3=>some (.inl (y3.2.1,y3.1,x.2.2.1,x.2.2.2.1,x.2.2.2.2.1,x.2.2.2.2.2.1,())))else((bf y1.1 x.2.1 x.2.2.1 (aa .sub .i64 (aa .sub .i64 x.2.2.1 (1:Int)) (aa .sub .i64 y0.1 x.2.1))).bind fun y3=>(bif (ax (8:Int))then none else(bif (af .lss (aa .sub .i64 y3.1 x.2.1) (aa .sub .i64 x.2.2.1 y3.1))then((rec y3.2.2.1 x.2.1 y3.1 x.2.2.2.1).bind fun y4=>some (.inl (y4.1,(aa .add .i64 y3.1 (1:Int)),x.2.2.1,x.2.2.2.1,(af .geq (aa .sub .i64 y3.1 x.2.1) (aa .quo .i64 (aa .sub .i64 x.2.2.1 x.2.1) (8:Int))),y3.2.1,())))else((rec y3.2.2.1 (aa .add .i64 y3.1 (1:Int)) x.2.2.1 x.2.2.2.1).bind fun y4=>some (.inl (y4.1,x.2.1,y3.1,x.2.2.2.1,(af .geq (aa .sub .i64 x.2.2.1 y3.1) (aa .quo .i64 (aa .sub .i64 x.2.2.1 x.2.1) (8:Int))),y3.2.1,()))))))))else none)else none)else((bf y1.1 x.2.1 x.2.2.1 (aa .sub .i64 (aa .sub .i64 x.2.2.1 (1:Int)) (aa .sub .i64 y0.1 x.2.1))).bind fun y2=>(bif (ax (8:Int))then none else(bif (af .lss (aa .sub .i64 y2.1 x.2.1) (aa .sub .i64 x.2.2.1 y2.1))then((rec y2.2.2.1 x.2.1 y2.1 x.2.2.2.1).bind fun y3=>some (.inl (y3.1,(aa .add .i64 y2.1 (1:Int)),x.2.2.1,x.2.2.2.1,(af .geq (aa .sub .i64 y2.1 x.2.1) (aa .quo .i64 (aa .sub .i64 x.2.2.1 x.2.1) (8:Int))),y2.2.1,())))else((rec y2.2.2.1 (aa .add .i64 y2.1 (1:Int)) x.2.2.1 x.2.2.2.1).bind fun y3=>some (.inl (y3.1,x.2.1,y2.1,x.2.2.2.1,(af .geq (aa .sub .i64 x.2.2.1 y2.1) (aa .quo .i64 (aa .sub .i64 x.2.2.1 x.2.1) (8:Int))),y2.2.1,())))))))))else(bif x.2.2.2.2.1 then(bif x.2.2.2.2.2.1 then(bif (af .eql y0.2.1 (1:Int))then((gn x.1 x.2.1 x.2.2.1).bind fun y1=>(bif y1.1 then some (.inr (.inl (y1.2.1,())))else(bif (af .gtr x.2.1 (0:Int))then(bif (ah y1.2.1 (aa .sub .i64 x.2.1 (1:Int)))then(bif (ah y1.2.1 y0.1)then((ey (ae bg y1.2.1 (aa .sub .i64 x.2.1 (1:Int))).1 (ae bg y1.2.1 (aa .sub .i64 x.2.1 (1:Int))).2.1 (ae bg y1.2.1 (aa .sub .i64 x.2.1 (1:Int))).2.2.1 (ae bg y1.2.1 (aa .sub .i64 x.2.1 (1:Int))).2.2.2.1 (ae bg y1.2.1 (aa .sub .i64 x.2.1 (1:Int))).2.2.2.2.1 (ae bg y1.2.1 (aa .sub .i64 x.2.1 (1:Int))).2.2.2.2.2.1 (ae bg y1.2.1 (aa .sub .i64 x.2.1 (1:Int))).2.2.2.2.2.2 (ae bg y1.2.1 y0.1).1 (ae bg y1.2.1 y0.1).2.1 (ae bg y1.2.1 y0.1).2.2.1 (ae bg y1.2.1 y0.1).2.2.2.1 (ae bg y1.2.1 y0.1).2.2.2.2.1 (ae bg y1.2.1 y0.1).2.2.2.2.2.1 (ae bg y1.2.1 y0.1).2.2.2.2.2.2).bind fun y2=>(bif (Bool.not (af .lss y2.1 (0:Int)))then((bu y1.2.1 x.2.1 x.2.2.1 y0.1).bind fun y3=>some (.inl (y3.2.1,y3.1,x.2.2.1,x.2.2.2.1,x.2.2.2.2.1,x.2.2.2.2.2.1,())))else((bf y1.2.1 x.2.1 x.2.2.1 y0.1).bind fun y3=>(bif (ax (8:Int))then none else(bif (af .lss (aa .sub .i64 y3.1 x.2.1) (aa .sub .i64 x.2.2.1 y3.1))then((rec y3.2.2.1 x.2.1 y3.1 x.2.2.2.1).bind fun y4=>some (.inl (y4.1,(aa .add .i64 y3.1 (1:Int)),x.2.2.1,x.2.2.2.1,(af .geq (aa .sub .i64 y3.1 x.2.1) (aa .quo .i64 (aa .sub .i64 x.2.2.1 x.2.1) (8:Int))),y3.2.1,())))else((rec y3.2.2.1 (aa .add .i64 y3.1 (1:Int)) x.2.2.1 x.2.2.2.1).bind fun y4=>some (.inl (y4.1,x.2.1,y3.1,x.2.2.2.1,(af .geq (aa .sub .i64 x.2.2.1 y3.1) (aa .quo .i64 (aa .sub .i64 x.2.2.1 x.2.1) (8:Int))),y3.2.1,()))))))))else none)else none)else((bf y1.2.1 x.2.1 x.2.2.1 y0.1).bind fun y2=>(bif (ax (8:Int))then none else(bif (af .lss (aa .sub .i64 y2.1 x.2.1) (aa .sub .i64 x.2.2.1 y2.1))then((rec y2.2.2.1 x.2.1 y2.1 x.2.2.2.1).bind fun y3=>some (.inl (y3.1,(aa .add .i64 y2.1 (1:Int)),x.2.2.1,x.2.2.2.1,(af .geq (aa .sub .i64 y2.1 x.2.1) (aa .quo .i64 (aa .sub .i64 x.2.2.1 x.2.1) (8:Int))),y2.2.1,())))else((rec y2.2.2.1 (aa .add .i64 y2.1 (1:Int)) x.2.2.1 x.2.2.2.1).bind fun y3=>some (.inl (y3.1,x.2.1,y2.1,x.2.2.2.1,(af .geq (aa .sub .i64 x.2.2.1 y2.1) (aa .quo .i64 (aa .sub .i64 x.2.2.1 x.2.1) (8:Int))),y2.2.1,())))))))))else(bif (af .gtr x.2.1 (0:Int))then(bif (ah x.1 (aa .sub .i64 x.2.1 (1:Int)))then(bif (ah x.1 y0.1)then((ey (ae bg x.1 (aa .sub .i64 x.2.1 (1:Int))).1 (ae bg x.1 (aa .sub .i64 x.2.1 (1:Int))).2.1 (ae bg x.1 (aa .sub .i64 x.2.1 (1:Int))).2.2.1 (ae bg x.1 (aa .sub .i64 x.2.1 (1:Int))).2.2.2.1 (ae bg x.1 (aa .sub .i64 x.2.1 (1:Int))).2.2.2.2.1 (ae bg x.1 (aa .sub .i64 x.2.1 (1:Int))).2.2.2.2.2.1 (ae bg x.1 (aa .sub .i64 x.2.1 (1:Int))).2.2.2.2.2.2 (ae bg x.1 y0.1).1 (ae bg x.1 y0.1).2.1 (ae bg x.1 y0.1).2.2.1 (ae bg x.1 y0.1).2.2.2.1 (ae bg x.1 y0.1).2.2.2.2.1 (ae bg x.1 y0.1).2.2.2.2.2.1 (ae bg x.1 y0.1).2.2.2.2.2.2).bind fun y1=>(bif (Bool.not (af .lss y1.1 (0:Int)))then((bu x.1 x.2.1 x.2.2.1 y0.1).bind fun y2=>some (.inl (y2.2.1,y2.1,x.2.2.1,x.2.2.2.1,x.2.2.2.2.1,x.2.2.2.2.2.1,())))else((bf x.1 x.2.1 x.2.2.1 y0.1).bind fun y2=>(bif (ax (8:Int))then none else(bif (af .lss (aa .sub .i64 y2.1 x.2.1) (aa .sub .i64 x.2.2.1 y2.1))then((rec y2.2.2.1 x.2.1 y2.1 x.2.2.2.1).bind fun y3=>some (.inl (y3.1,(aa .add .i64 y2.1 (1:Int)),x.2.2.1,x.2.2.2.1,(af .geq (aa .sub .i64 y2.1 x.2.1) (aa .quo .i64 (aa .sub .i64 x.2.2.1 x.2.1) (8:Int))),y2.2.1,())))else((rec y2.2.2.1 (aa .add .i64 y2.1 (1:Int)) x.2.2.1 x.2.2.2.1).bind fun y3=>some (.inl (y3.1,x.2.1,y2.1,x.2.2.2.1,(af .geq (aa .sub .i64 x.2.2.1 y2.1) (aa .quo .i64 (aa .sub .i64 x.2.2.1 x.2.1) (8:Int))),y2.2.1,()))))))))else none)else none)else((bf x.1 x.2.1 x.2.2.1 y0.1).bind fun y1=>(bif (ax (8:Int))then none else(bif (af .lss (aa .sub .i64 y1.1 x.2.1) (aa .sub .i64 x.2.2.1 y1.1))then((rec y1.2.2.1 x.2.1 y1.1 x.2.2.2.1).bind fun y2=>some (.inl (y2.1,(aa .add .i64 y1.1 (1:Int)),x.2.2.1,x.2.2.2.1,(af .geq (aa .sub .i64 y1.1 x.2.1) (aa .quo .i64 (aa .sub .i64 x.2.2.1 x.2.1) (8:Int))),y1.2.1,())))else((rec y1.2.2.1 (aa .add .i64 y1.1 (1:Int)) x.2.2.1 x.2.2.2.1).bind fun y2=>some (.inl (y2.1,x.2.1,y1.1,x.2.2.2.1,(af .geq (aa .sub .i64 x.2.2.1 y1.1) (aa .quo .i64 (aa .sub .i64 x.2.2.1 x.2.1) (8:Int))),y1.2.1,()))))))))else(bif (af .gtr x.2.1 (0:Int))then(bif (ah x.1 (aa .sub .i64 x.2.1 (1:Int)))then(bif (ah x.1 y0.1)then((ey (ae bg x.1 (aa .sub .i64 x.2.1 (1:Int))).1 (ae bg x.1 (aa .sub .i64 x.2.1 (1:Int))).2.1 (ae bg x.1 (aa .sub .i64 x.2.1 (1:Int))).2.2.1 (ae bg x.1 (aa .sub .i64 x.2.1 (1:Int))).2.2.2.1 (ae bg x.1 (aa .sub .i64 x.2.1 (1:Int))).2.2.2.2.1 (ae bg x.1 (aa .sub .i64 x.2.1 (1:Int))).2.2.2.2.2.1 (ae bg x.1 (aa .sub .i64 x.2.1 (1:Int))).2.2.2.2.2.2 (ae bg x.1 y0.1).1 (ae bg x.1 y0.1).2.1 (ae bg x.1 y0.1).2.2.1 (ae bg x.1 y0.1).2.2.2.1 (ae bg x.1 y0.1).2.2.2.2.1 (ae bg x.1 y0.1).2.2.2.2.2.1 (ae bg x.1 y0.1).2.2.2.2.2.2).bind fun y1=>(bif (Bool.not (af .lss y1.1 (0:Int)))then((bu x.1 x.2.1 x.2.2.1 y0.1).bind fun y2=>some (.inl (y2.2.1,y2.1,x.2.2.1,x.2.2.2.1,x.2.2.2.2.1,x.2.2.2.2.2.1,())))else((bf x.1 x.2.1 x.2.2.1 y0.1).bind fun y2=>(bif (ax (8:Int))then none else(bif (af .lss (aa .sub .i64 y2.1 x.2.1) (aa .sub .i64 x.2.2.1 y2.1))then((rec y2.2.2.1 x.2.1 y2.1 x.2.2.2.1).bind fun y3=>some (.inl (y3.1,(aa .add .i64 y2.1 (1:Int)),x.2.2.1,x.2.2.2.1,(af .geq (aa .sub .i64 y2.1 x.2.1) (aa .quo .i64 (aa .sub .i64 x.2.2.1 x.2.1) (8:Int))),y2.2.1,())))else((rec y2.2.2.1 (aa .add .i64 y2.1 (1:Int)) x.2.2.1 x.2.2.2.1).bind fun y3=>some (.inl (y3.1,x.2.1,y2.1,x.2.2.2.1,(af .geq (aa .sub .i64 x.2.2.1 y2.1) (aa .quo .i64 (aa .sub .i64 x.2.2.1 x.2.1) (8:Int))),y2.2.1,()))))))))else none)else none)else((bf x.1 x.2.1 x.2.2.1 y0.1).bind fun y1=>(bif (ax (8:Int))then none else(bif (af .lss (aa .sub .i64 y1.1 x.2.1) (aa .sub .i64 x.2.2.1 y1.1))then((rec y1.2.2.1 x.2.1 y1.1 x.2.2.2.1).bind fun y2=>some (.inl (y2.1,(aa .add .i64 y1.1 (1:Int)),x.2.2.1,x.2.2.2.1,(af .geq (aa .sub .i64 y1.1 x.2.1) (aa .quo .i64 (aa .sub .i64 x.2.2.1 x.2.1) (8:Int))),y1.2.1,())))else((rec y1.2.2.1 (aa .add .i64 y1.1 (1:Int)) x.2.2.1 x.2.2.2.1).bind fun y2=>some (.inl (y2.1,x.2.1,y1.1,x.2.2.2.1,(af .geq (aa .sub .i64 x.2.2.1 y1.1) (aa .quo .i64 (aa .sub .i64 x.2.2.1 x.2.1) (8:Int))),y1.2.1,()))))))))else(bif (af .gtr x.2.1 (0:Int))then(bif (ah x.1 (aa .sub .i64 x.2.1 (1:Int)))then(bif (ah x.1 y0.1)then((ey (ae bg x.1 (aa .sub .i64 x.2.1 (1:Int))).1 (ae bg x.1 (aa .sub .i64 x.2.1 (1:Int))).2.1 (ae bg x.1 (aa .sub .i64 x.2.1 (1:Int))).2.2.1 (ae bg x.1 (aa .sub .i64 x.2.1 (1:Int))).2.2.2.1 (ae bg x.1 (aa .sub .i64 x.2.1 (1:Int))).2.2.2.2.1 (ae bg x.1 (aa .sub .i64 x.2.1 (1:Int))).2.2.2.2.2.1 (ae bg x.1 (aa .sub .i64 x.2.1 (1:Int))).2.2.2.2.2.2 (ae bg x.1 y0.1).1 (ae bg x.1 y0.1).2.1 (ae bg x.1 y0.1).2.2.1 (ae bg x.1 y0.1).2.2.2.1 (ae bg x.1 y0.1).2.2.2.2.1 (ae bg x.1 y0.1).2.2.2.2.2.1 (ae bg x.1 y0.1).2.2.2.2.2.2).bind fun y1=>(bif (Bool.not (af .lss y1.1 (0:Int)))then((bu x.1 x.2.1 x.2.2.1 y0.1).bind fun y2=>some (.inl (y2.2.1,y2.1,x.2.2.1,x.2.2.2.1,x.2.2.2.2.1,x.2.2.2.2.2.1,())))else((bf x.1 x.2.1 x.2.2.1 y0.1).bind fun y2=>(bif (ax (8:Int))then none else(bif (af .lss (aa .sub .i64 y2.1 x.2.1) (aa .sub .i64 x.2.2.1 y2.1))then((rec y2.2.2.1 x.2.1 y2.1 x.2.2.2.1).bind fun y3=>some (.inl (y3.1,(aa .add .i64 y2.1 (1:Int)),x.2.2.1,x.2.2.2.1,(af .geq (aa .sub .i64 y2.1 x.2.1) (aa .quo .i64 (aa .sub .i64 x.2.2.1 x.2.1) (8:Int))),y2.2.1,())))else((rec y2.2.2.1 (aa .add .i64 y2.1 (1:Int)) x.2.2.1 x.2.2.2.1).bind fun y3=>some (.inl (y3.1,x.2.1,y2.1,x.2.2.2.1,(af .geq (aa .sub .i64 x.2.2.1 y2.1) (aa .quo .i64 (aa .sub .i64 x.2.2.1 x.2.1) (8:Int))),y2.2.1,()))))))))else none)else none)else((bf x.1 x.2.1 x.2.2.1 y0.1).bind fun y1=>(bif (ax (8:Int))then none else(bif (af .lss (aa .sub .i64 y1.1 x.2.1) (aa .sub .i64 x.2.2.1 y1.1))then((rec y1.2.2.1 x.2.1 y1.1 x.2.2.2.1).bind fun y2=>some (.inl (y2.1,(aa .add .i64 y1.1 (1:Int)),x.2.2.1,x.2.2.2.1,(af .geq (aa .sub .i64 y1.1 x.2.1) (aa .quo .i64 (aa .sub .i64 x.2.2.1 x.2.1) (8:Int))),y1.2.1,())))else((rec y1.2.2.1 (aa .add .i64 y1.1 (1:Int)) x.2.2.1 x.2.2.2.1).bind fun y2=>some (.inl (y2.1,x.2.1,y1.1,x.2.2.2.1,(af .geq (aa .sub .i64 x.2.2.1 y1.1) (aa .quo .i64 (aa .sub .i64 x.2.2.1 x.2.1) (8:Int))),y1.2.1,())))))))))))))
noncomputable def tb(rec:(List (Int×Int×Int×Int×Int×Int×Int))->Int->Int->Int->Option ((List (Int×Int×Int×Int×Int×Int×Int))×Unit))(k:Unit)(x:(List (Int×Int×Int×Int×Int×Int×Int))×Int×Int×Int×Bool×Bool×Unit):Option ((List (Int×Int×Int×Int×Int×Int×Int))×Unit⊕Empty):=iter (H7 rec k) big x
noncomputable def vb(rec:(List (Int×Int×Int×Int×Int×Int×Int))->Int->Int->Int->Option ((List (Int×Int×Int×Int×Int×Int×Int))×Unit))(a0:(List (Int×Int×Int×Int×Int×Int×Int)))(a1:Int)(a2:Int)(a3:Int):Option ((List (Int×Int×Int×Int×Int×Int×Int))×Unit):=((tb rec (()) (a0,a1,a2,a3,true,true,())).bind fun q0=>(Sum.elim (fun y1=>some (y1.1,())) (fun q2=>(Empty.elim q2)) q0))
noncomputable def kk:Nat->(List (Int×Int×Int×Int×Int×Int×Int))->Int->Int->Int->Option ((List (Int×Int×Int×Int×Int×Int×Int))×Unit)|0=>fun _ _ _ _=>none|n+1=>vb (kk n)
noncomputable def vm(a:JP)(b c d:Int):Wo:=kk big a b c d
noncomputable def qe(a:JP):Wo:=(Lf (ak .u64 (ai a))).bind fun b=>(vm a 0 (ai a) b.1).bind fun c=>some (c.1,())
noncomputable def JN(a:JP×RN)(b:RN):ZF:=letI c:=ae bg a.2.1 b.2.1;letI d:=c.2.2.2;cond (af .lss b.2.1 a.2.2.1) (cond (ah a.2.1 b.2.1) ((oa a.1 c.1 c.2.1 c.2.2.1 d.1 d.2.1 d.2.2.1 d.2.2.2).bind fun e=>letI f:=ae bg a.1 e.1;letI g:=aa .add .i64 b.2.1 1;letI h:=f.2.2.2;cond (af .lss e.1 0) (cond (aE (List.append (α:=Kl) b.1 (List.append (α:=Kl) ([]:JP) [c]))) (some (.inl (List.append (α:=Kl) b.1 (List.append (α:=Kl) ([]:JP) [c]),g,()))) none) (cond (ah a.1 e.1) (lets (Bool.not (Bool.and (af .eql f.1 c.1) (Bool.and (af .eql f.2.1 c.2.1) (Bool.and (af .eql f.2.2.1 c.2.2.1) (Bool.and (af .eql h.1 d.1) (Bool.and (af .eql h.2.1 d.2.1) (Bool.and (af .eql h.2.2.1 d.2.2.1) (Bool.and (af .eql h.2.2.2 d.2.2.2) true)))))))) fun i=>cond i (some (.inr (.inl (([]:JP),false,())))) (some (.inl (b.1,g,())))) none)) none) (some (.inr (.inr (.inl (b.1,())))))
noncomputable def Kt k x:=iter (JN k) big x
noncomputable def Kd(a b:JP):Xy:=(Jm a).bind fun c=>letI d:=some (([]:JP),false,());cond (Bool.not c.1) d ((Jm b).bind fun e=>cond (Bool.not e.1) d ((Ih a).bind fun f=>(Kt (a,b,ai b,()) (f.1,0,())).bind fun g=>Sum.elim (fun h=>some (h.1,h.2.1,())) (fun h=>Sum.elim (fun i=>(qe i.1).bind fun j=>(Jm j.1).bind fun k=>cond (Bool.not k.1) d (some (j.1,true,()))) (fun i=>Empty.elim i) h) g))
end Go.Fn
namespace Go.Fn
open Go.R
abbrev Ev:=Int×Int×Int×Int×Int×Int×Int
noncomputable def KA(a lo hi:Int):Bool:=bif decide (a>=lo)then decide (a<=hi)else false
theorem IZ(a lo hi:Int):ik a lo hi=some (KA a lo hi,()):=by unfold ik KA;simp only[af];cases decide (a>=lo) <;> rfl
theorem M6(a lo hi:Int):jj a lo hi=some (KA a lo hi,()):=IZ a lo hi
theorem Ts(a:Int):JR a=some (KA a 0 20000,()):=by unfold JR;rw[IZ];rfl
noncomputable def Sp(e:Ev):Bool:=bif KA e.1 0 5 then bif KA e.2.1 1 999 then bif KA e.2.2.1 1 100000 then bif KA e.2.2.2.1 1 4 then bif KA e.2.2.2.2.1 1 999 then bif KA e.2.2.2.2.2.1 0 20000 then KA e.2.2.2.2.2.2 0 20000 else false else false else false else false else false else false
theorem PJ{α:Type}(b:Bool)(x y:α):(bif b then some x else some y)=some (bif b then x else y):=by cases b <;> rfl
theorem PI(b x y:Bool):(bif b then(x,())else(y,()))=((bif b then x else y),()):=by cases b <;> rfl
theorem VD(a b c d e f g:Int):NP a b c d e f g=some (Sp (a,b,c,d,e,f,g),()):=by unfold NP Sp;simp only[M6,Option.bind_some,PJ,PI]
theorem Vx(a b c d e f g:Int):NH a b c d e f g=some (Sp (a,b,c,d,e,f,g),()):=by unfold NH Sp;simp only[IZ,Ts,Option.bind_some,PJ,PI]
noncomputable def Ve(p e:Ev):Bool:=!(decide (e.1<p.1)||(decide (e.1=p.1)&&(decide (e.2.1<=p.2.1)||decide (e.2.2.1<=p.2.2.1))))
noncomputable def PK(l:List Ev):Nat->Bool
 |0=>Sp (l.getD 0 bg)
 |n+1=>Sp (l.getD (n+1) bg)&&Ve (l.getD n bg) (l.getD (n+1) bg)
noncomputable def Sr(l:List Ev):Bool:=bif decide (60<l.length)then false else aB (PK l) 0 l.length
theorem W5(l:List Ev):af .gtr (ai l) (60:Int)=decide (60<l.length):=by simp only[af,ai,gt_iff_lt,decide_eq_decide];omega
theorem SG(l:List Ev):Jm l=some (Sr l,()):=by
 unfold Jm Sr;rw[W5];cases hl:decide (60<l.length)with
 |true=>rfl
 |false=>
  have hl:l.length<=60:=by have:=of_decide_eq_false hl;omega
  have Jf:LM (l,l,(ai l),()) ((0:Int),())=some (bif aB (PK l) 0 l.length then(Sum.inr (Sum.inl ()):Bool×Unit⊕(Unit⊕Empty))else Sum.inl (false,())):=by
   refine bp (fun n=>((n:Int),())) l.length (by omega) (PK l) _ _ (fun n hn=>?_) ?_
   ·unfold LL;simp only[aj,az,aq,Vx,hn,decide_true,cond_true,Option.bind_some];cases n with
    |zero=>simp only[PK];cases Sp (l.getD 0 bg) <;> rfl
    |succ n=>
     have hn':n<l.length:=by omega
     simp only[PK,av (n:=n+1) (by omega),iw (n:=n) (by omega),cV hn',aq,Ve,af];have e0:((((n+1:Nat):Int))==0)=false:=by rw[beq_eq_false_iff_ne];omega
     rw[e0];simp only[cond_false,cond_true];generalize l.getD (n+1) bg=e;generalize l.getD n bg=p;show(bif !(Sp e)then _ else _)=_;cases Sp e with
     |false=>rfl
     |true=>
      simp only[Bool.not_true,cond_false,Bool.true_and];cases decide (e.1<p.1)with
      |true=>rfl
      |false=>
       simp only[cond_false,Bool.false_or];have eb:(e.1==p.1)=decide (e.1=p.1):=rfl;rw[eb];cases decide (e.1=p.1)with
       |false=>rfl
       |true=>
        simp only[cond_true,Bool.true_and];cases decide (e.2.1<=p.2.1)with
        |true=>rfl
        |false=>cases decide (e.2.2.1<=p.2.2.1) <;> rfl
   ·unfold LL;simp only[aj,Nat.lt_irrefl,decide_false,cond_false]
  rw[Jf];cases aB (PK l) 0 l.length <;> rfl
theorem Zo(n:Nat):af .gtr ((n+1:Nat):Int) 0=true:=by simp only[af,gt_iff_lt,decide_eq_true_eq];omega
theorem SQ(l:List Ev):Js l=some (Sr l,()):=by
 unfold Js Sr;rw[W5];cases hl:decide (60<l.length)with
 |true=>rfl
 |false=>
  have hl:l.length<=60:=by have:=of_decide_eq_false hl;omega
  have Jf:Mk (l,()) ((0:Int),())=some (bif aB (PK l) 0 l.length then(Sum.inr (Sum.inl ()):Bool×Unit⊕(Unit⊕Empty))else Sum.inl (false,())):=by
   refine bp (fun n=>((n:Int),())) l.length (by omega) (PK l) _ _ (fun n hn=>?_) ?_
   ·unfold Mj;simp only[aj,az,aq,VD,hn,decide_true,cond_true,Option.bind_some];cases n with
    |zero=>simp only[PK];cases Sp (l.getD 0 bg) <;> rfl
    |succ n=>
     have hn':n<l.length:=by omega
     simp only[PK,Zo,av (n:=n+1) (by omega),iw (n:=n) (by omega),cV hn',aq,Ve,cond_true];simp only[af];generalize l.getD (n+1) bg=e;generalize l.getD n bg=p;show(bif !(Sp e)then _ else _)=_;cases Sp e with
     |false=>rfl
     |true=>
      simp only[Bool.not_true,cond_false,Bool.true_and];cases decide (e.1<p.1)with
      |true=>rfl
      |false=>
       simp only[cond_false,Bool.false_or];have eb:(e.1==p.1)=decide (e.1=p.1):=rfl;rw[eb];cases decide (e.1=p.1)with
       |false=>rfl
       |true=>
        simp only[cond_true,Bool.true_and];cases decide (e.2.1<=p.2.1)with
        |true=>rfl
        |false=>cases decide (e.2.2.1<=p.2.2.1) <;> rfl
   ·unfold Mj;simp only[aj,Nat.lt_irrefl,decide_false,cond_false]
  rw[Jf];cases aB (PK l) 0 l.length <;> rfl
theorem WN(a b c d e f g:Int):PU a b c d e f g=some (a,b,c,d,e,f,g,()):=rfl
theorem UN(l:List Ev)(hl:l.length<=1073741824):Le l=some (l,()):=by
 unfold Le;rw[cC hl];have Jf:KU (l,()) (List.replicate l.length (0,0,0,0,0,0,0),(0:Int),())=some (Sum.inl (l,())):=by
  have:=aR (body:=KT (l,())) (fun n=>(l.take n++List.replicate (l.length-n) (0,0,0,0,0,0,0),(n:Int),())) l.length (by omega) (Sum.inl (l,())) (fun n hn=>?_) ?_
  ·unfold KU;simpa using this
  ·unfold KT;have hx:n<(l.take n++List.replicate (l.length-n) ((0,0,0,0,0,0,0):Ev)).length:=by rw[dD _ _ (Nat.le_of_lt hn)];exact hn
   simp only[aj,az,hn,hx,decide_true,cond_true,aq,WN,Option.bind_some,av (n:=n) (by omega),aN];rw[<-dS l (0,0,0,0,0,0,0) hn,eX hn bg (0,0,0,0,0,0,0)]
  ·unfold KT;simp only[aj,Nat.lt_irrefl,decide_false,cond_false,Nat.sub_self,List.replicate_zero,List.append_nil,List.take_length]
 have hr:cW (ai l) ((0:Int),(0:Int),(0:Int),(0:Int),(0:Int),(0:Int),(0:Int))=List.replicate l.length (0,0,0,0,0,0,0):=dP _ _;rw[hr];simp only[cond_true];rw[Jf];rfl
theorem IR(a:Int):af .neq a a=false:=by simp[af]
theorem Vr(a b c d e f g:Int):NK a b c d e f g a b c d e f g=some (true,()):=by unfold NK;simp only[IR,cond_false]
theorem Q9(l:List Ev)(hl:l.length<=1073741824):JK l l=some (true,()):=by
 unfold JK;rw[IR];have Jf:MA (l,l,()) ((0:Int),())=some (Sum.inr (Sum.inl ())):=by
  refine aR (fun n=>((n:Int),())) l.length (by omega) _ (fun n hn=>?_) ?_
  ·unfold Mz;simp only[aj,az,hn,decide_true,cond_true,Vr,Option.bind_some,av (n:=n) (by omega)];rfl
  ·unfold Mz;simp only[aj,Nat.lt_irrefl,decide_false,cond_false]
 simp only[cond_false];rw[Jf];rfl
theorem SS(l:List Ev)(a:Int)(hl:l.length<=9223372036854775807)(ha:0<=a)(Ql:a<=1048576):Lc l a=some (bif decide (a<(l.length:Int))then -1 else a-(l.length:Int),()):=by
 unfold Lc;have h1:aa .sub .i64 a (ai l)=a-(l.length:Int):=bO (by unfold ai;omega) (by unfold ai;omega);rw[h1];have h2:af .lss (a-(l.length:Int)) 0=decide (a<(l.length:Int)):=by simp only[af,decide_eq_decide];omega
 rw[h2];cases decide (a<(l.length:Int)) <;> rfl
end Go.Fn
set_option linter.unusedSimpArgs false
namespace Go.Fn
open Go.R
theorem VH(l:List Int)(hl:l.length<=1073741824):Ph l=some (l,()):=by
 unfold Ph;rw[cC hl];have Jf:Md (l,()) (List.replicate l.length 0,(0:Int),())=some (Sum.inl (l,())):=by
  have:=aR (body:=Mc (l,())) (fun n=>(l.take n++List.replicate (l.length-n) 0,(n:Int),())) l.length (by omega) (Sum.inl (l,())) (fun n hn=>?_) ?_
  ·unfold Md;simpa using this
  ·unfold Mc;have hx:n<(l.take n++List.replicate (l.length-n) (0:Int)).length:=by rw[dD _ _ (Nat.le_of_lt hn)];exact hn
   simp only[aj,az,hn,hx,decide_true,cond_true,aq,av (n:=n) (by omega),aN];rw[<-dS l 0 hn,eX hn zI 0]
  ·unfold Mc;simp only[aj,Nat.lt_irrefl,decide_false,cond_false,Nat.sub_self,List.replicate_zero,List.append_nil,List.take_length]
 have hr:cW (ai l) (0:Int)=List.replicate l.length 0:=dP _ _;rw[hr];simp only[cond_true];rw[Jf];rfl
theorem Uj(l:List Int)(hl:l.length<=1073741824):O8 l l=some (true,()):=by
 unfold O8;rw[IR];have Jf:Ot (l,l,()) ((0:Int),())=some (Sum.inr (Sum.inl ())):=by
  refine aR (fun n=>((n:Int),())) l.length (by omega) _ (fun n hn=>?_) ?_
  ·unfold Oq;simp only[aj,az,hn,decide_true,cond_true,IR,av (n:=n) (by omega)];rfl
  ·unfold Oq;simp only[aj,Nat.lt_irrefl,decide_false,cond_false]
 simp only[cond_false];rw[Jf];rfl
theorem Qq{a:Int}(h0:0<=a)(h1:a<=4611686018427387904):aa .add .i64 a 1=a+1:=bV (by omega) (by omega)
noncomputable def Ms{α:Type}(l:List α)(f:Nat->α)(n:Nat):List α:=(List.range n).map f++l.drop n
theorem QL{α:Type}(l:List α)(f:Nat->α){n:Nat}(h:n<=l.length):(Ms l f n).length=l.length:=by simp only[Ms,List.length_append,List.length_map,List.length_range,List.length_drop];omega
theorem Tj{α:Type}(l:List α)(f:Nat->α){n:Nat}(h:n<l.length):(Ms l f n).set n (f n)=Ms l f (n+1):=by
 unfold Ms;have h1:((List.range n).map f).length=n:=by simp
 rw[List.set_append,if_neg (by omega),h1,Nat.sub_self,List.range_succ,List.map_append,List.append_assoc];congr 1;rw[List.drop_eq_getElem_cons h];rfl
theorem Vs{α:Type}(f:Nat->α)(k:Nat){n:Nat}(h:n<k)(z:α):((List.range k).map f).getD n z=f n:=by rw[List.getD_eq_getElem?_getD,List.getElem?_map,List.getElem?_range h];rfl
noncomputable def R5(k:Int)(n:Nat):List Int:=(List.range n).map fun i:Nat=>k+(i:Int)
theorem Uu(l:List Int)(k:Int)(hl:l.length<=1073741824)(h0:0<=k)(h1:k<=1125899906842624):MW l k=some (k+(l.length:Int),R5 k l.length,()):=by
 unfold MW;have Jf:KQ () (l,k,(0:Int),())=some (Sum.inl (R5 k l.length,k+(l.length:Int),())):=by
  have:=aR (body:=KP ()) (fun n=>(Ms l (fun i=>k+(i:Int)) n,k+(n:Int),(n:Int),())) l.length (by omega) (Sum.inl (R5 k l.length,k+(l.length:Int),())) (fun n hn=>?_) ?_
  ·unfold KQ;have e0:Ms l (fun i=>k+(i:Int)) 0=l:=by simp[Ms]
   simp only[e0]at this;simpa using this
  ·unfold KP;have hx:n<(Ms l (fun i=>k+(i:Int)) n).length:=by rw[QL _ _ (Nat.le_of_lt hn)];exact hn
   simp only[aj,az,hx,decide_true,cond_true,av (n:=n) (by omega),aN];rw[Qq (by omega) (by omega),<-Tj _ _ hn];have:k+(n:Int)+1=k+((n+1:Nat):Int):=by omega
   rw[this]
  ·unfold KP;have hx:(Ms l (fun i=>k+(i:Int)) l.length).length=l.length:=QL _ _ (Nat.le_refl _);simp only[aj,hx,Nat.lt_irrefl,decide_false,cond_false];simp[Ms,R5]
 rw[Jf];rfl
noncomputable def Q7(k:Int)(i:Nat):Ev:=(k+7*(i:Int),k+7*(i:Int)+1,k+7*(i:Int)+1+1,k+7*(i:Int)+1+1+1,k+7*(i:Int)+1+1+1+1,k+7*(i:Int)+1+1+1+1+1,k+7*(i:Int)+1+1+1+1+1+1)
noncomputable def MF(k:Int)(n:Nat):List Ev:=(List.range n).map (Q7 k)
theorem Pq(l:List Ev)(k:Int)(hl:l.length<=1073741824)(h0:0<=k)(h1:k<=1099511627776):JO l k=some (k+7*(l.length:Int),MF k l.length,()):=by
 unfold JO;have Jf:Ki () (l,k,(0:Int),())=some (Sum.inl (MF k l.length,k+7*(l.length:Int),())):=by
  have:=aR (body:=Kh ()) (fun n=>(Ms l (Q7 k) n,k+7*(n:Int),(n:Int),())) l.length (by omega) (Sum.inl (MF k l.length,k+7*(l.length:Int),())) (fun n hn=>?_) ?_
  ·unfold Ki;have e0:Ms l (Q7 k) 0=l:=by simp[Ms]
   simp only[e0]at this;simpa using this
  ·have hx:n<(Ms l (Q7 k) n).length:=by rw[QL _ _ (Nat.le_of_lt hn)];exact hn
   rw[<-Tj l (Q7 k) hn];generalize hL:Ms l (Q7 k) n=L at hx;have e1:k+7*((n+1:Nat):Int)=k+7*(n:Int)+1+1+1+1+1+1+1:=by omega
   rw[e1];unfold Q7;have b0:0<=k+7*(n:Int):=by omega
   have b1:k+7*(n:Int)<=1125899906842624:=by omega
   revert b0 b1;generalize k+7*(n:Int)=q;intro b0 b1;have a1:aa .add .i64 q 1=q+1:=Qq (by omega) (by omega);have a2:aa .add .i64 (q+1) 1=q+1+1:=Qq (by omega) (by omega);have a3:aa .add .i64 (q+1+1) 1=q+1+1+1:=Qq (by omega) (by omega);have a4:aa .add .i64 (q+1+1+1) 1=q+1+1+1+1:=Qq (by omega) (by omega);have a5:aa .add .i64 (q+1+1+1+1) 1=q+1+1+1+1+1:=Qq (by omega) (by omega);have a6:aa .add .i64 (q+1+1+1+1+1) 1=q+1+1+1+1+1+1:=Qq (by omega) (by omega);have a7:aa .add .i64 (q+1+1+1+1+1+1) 1=q+1+1+1+1+1+1+1:=Qq (by omega) (by omega);unfold Kh;simp only[aj,az,hx,decide_true,cond_true,av (n:=n) (by omega),aN,aq,a1,a2,a3,a4,a5,a6,a7];iterate 8 (rw[aV];try simp only[je,List.length_set,hx,decide_true,cond_true,aN,aq,aF hx,List.set_set,a7])
  ·unfold Kh;have hx:(Ms l (Q7 k) l.length).length=l.length:=QL _ _ (Nat.le_refl _);simp only[aj,hx,Nat.lt_irrefl,decide_false,cond_false];simp[Ms,MF]
 rw[Jf];rfl
theorem S5(n:Nat)(k:Int)(hl:n<=1073741824)(h0:0<=k)(h1:k<=1099511627776):Kp (MF k n) k=some (k+7*(n:Int),()):=by
 unfold Kp;have hlen:(MF k n).length=n:=by simp[MF]
 have Jf:Kg (MF k n,()) (k,(0:Int),())=some (Sum.inr (Sum.inl (k+7*(n:Int),()))):=by
  have:=aR (body:=Kf (MF k n,())) (fun m=>(k+7*(m:Int),(m:Int),())) n (by omega) (Sum.inr (Sum.inl (k+7*(n:Int),()))) (fun m hm=>?_) ?_
  ·unfold Kg;simpa using this
  ·have hg:(MF k n).getD m bg=Q7 k m:=Vs _ _ hm _;have e1:k+7*((m+1:Nat):Int)=k+7*(m:Int)+1+1+1+1+1+1+1:=by omega
   rw[e1];unfold Q7 at hg;have b0:0<=k+7*(m:Int):=by omega
   have b1:k+7*(m:Int)<=1125899906842624:=by omega
   revert b0 b1 hg;generalize k+7*(m:Int)=q;intro hg b0 b1;have a1:aa .add .i64 q 1=q+1:=Qq (by omega) (by omega);have a2:aa .add .i64 (q+1) 1=q+1+1:=Qq (by omega) (by omega);have a3:aa .add .i64 (q+1+1) 1=q+1+1+1:=Qq (by omega) (by omega);have a4:aa .add .i64 (q+1+1+1) 1=q+1+1+1+1:=Qq (by omega) (by omega);have a5:aa .add .i64 (q+1+1+1+1) 1=q+1+1+1+1+1:=Qq (by omega) (by omega);have a6:aa .add .i64 (q+1+1+1+1+1) 1=q+1+1+1+1+1+1:=Qq (by omega) (by omega);have a7:aa .add .i64 (q+1+1+1+1+1+1) 1=q+1+1+1+1+1+1+1:=Qq (by omega) (by omega);unfold Kf;simp only[aj,hlen,az,hm,decide_true,cond_true,aq,hg,IR,cond_false,av (n:=m) (by omega),a1,a2,a3,a4,a5,a6,a7,aV]
  ·unfold Kf;simp only[aj,hlen,Nat.lt_irrefl,decide_false,cond_false]
 rw[Jf];rfl
theorem O5{l:List Ev}(h:Sr l=true):l.length<=60:=by
 unfold Sr at h;cases hd:decide (60<l.length)with
 |true=>rw[hd]at h;cases h
 |false=>have:=of_decide_eq_false hd;omega
theorem Xp{l:List Ev}(h:Sr l=true){n:Nat}(hn:n<l.length):PK l n=true:=by have h60:=O5 h;unfold Sr at h;rw[decide_eq_false (by omega)]at h;exact(aQ _ _).1 h n (Nat.zero_le _) (by omega)
theorem Ke{a lo hi:Int}:KA a lo hi=true↔lo<=a/\a<=hi:=by
 unfold KA;by_cases h:lo<=a
 ·rw[decide_eq_true (show a>=lo from h)];simp[h]
 ·rw[decide_eq_false (show ¬a>=lo from h)];simp[h]
theorem QN{α:Type}{l:List α}{i:Int}(h0:0<=i)(h1:i<(l.length:Int)):ah l i=true:=by unfold ah;rw[Bool.and_eq_true];exact⟨decide_eq_true h0,decide_eq_true h1⟩
theorem JJ{a:Int}(h:0<=a):af .lss a 0=false:=by simp only[af,decide_eq_false_iff_not];omega
theorem QF{α:Type}{l:List α}(h:l.length<=1073741824):aE l=true:=by unfold aE limit;exact decide_eq_true (by omega)
end Go.Fn
set_option linter.unusedSimpArgs false
namespace Go.Fn
open Go.R
theorem VJ(a0 a1:Int):Qu a0 a1=some (a0,a1,()):=rfl
theorem SV(l:List (Int×Int))(hl:l.length<=1073741824):Mg l=some (l,()):=by
 unfold Mg;rw[cC hl];have Jf:Lm (l,()) (List.replicate l.length (0,0),(0:Int),())=some (Sum.inl (l,())):=by
  have:=aR (body:=Ll (l,())) (fun n=>(l.take n++List.replicate (l.length-n) (0,0),(n:Int),())) l.length (by omega) (Sum.inl (l,())) (fun n hn=>?_) ?_
  ·unfold Lm;simpa using this
  ·unfold Ll;have hx:n<(l.take n++List.replicate (l.length-n) ((0,0):Int×Int)).length:=by rw[dD _ _ (Nat.le_of_lt hn)];exact hn
   simp only[aj,az,hn,hx,decide_true,cond_true,aq,VJ,Option.bind_some,av (n:=n) (by omega),aN];rw[<-dS l (0,0) hn,eX hn Qk (0,0)]
  ·unfold Ll;simp only[aj,Nat.lt_irrefl,decide_false,cond_false,Nat.sub_self,List.replicate_zero,List.append_nil,List.take_length]
 have hr:cW (ai l) (((0:Int),(0:Int)))=List.replicate l.length (0,0):=dP _ _;rw[hr];simp only[cond_true];rw[Jf];rfl
theorem Um(a0 a1:Int):Pb a0 a1 a0 a1=some (true,()):=by unfold Pb;simp only[IR,cond_false]
theorem Ru(l:List (Int×Int))(hl:l.length<=1073741824):LZ l l=some (true,()):=by
 unfold LZ;rw[IR];have Jf:Ns (l,l,()) ((0:Int),())=some (Sum.inr (Sum.inl ())):=by
  refine aR (fun n=>((n:Int),())) l.length (by omega) _ (fun n hn=>?_) ?_
  ·unfold Nr;simp only[aj,az,hn,decide_true,cond_true,Um,Option.bind_some,av (n:=n) (by omega)];rfl
  ·unfold Nr;simp only[aj,Nat.lt_irrefl,decide_false,cond_false]
 simp only[cond_false];rw[Jf];rfl
theorem SU(l:List (Int×Int))(a:Int)(hl:l.length<=9223372036854775807)(ha:0<=a)(Ql:a<=1048576):L7 l a=some (bif decide (a<(l.length:Int))then -1 else a-(l.length:Int),()):=by
 unfold L7;have h1:aa .sub .i64 a (ai l)=a-(l.length:Int):=bO (by unfold ai;omega) (by unfold ai;omega);rw[h1];have h2:af .lss (a-(l.length:Int)) 0=decide (a<(l.length:Int)):=by simp only[af,decide_eq_decide];omega
 rw[h2];cases decide (a<(l.length:Int)) <;> rfl
abbrev SX:=Int×Int
noncomputable def PY(l:List SX)(most:Int)(n:Nat):Bool:=
 bif af .lss (l.getD n Qk).1 0 then false else bif af .geq (l.getD n Qk).1 (l.getD n Qk).2 then false else bif af .gtr (l.getD n Qk).2 most then false else
  match n with
  |0=>true
  |m+1=>bif af .leq (l.getD (m+1) Qk).1 (l.getD m Qk).2 then false else true
noncomputable def QR(l:List SX)(most:Int):Bool:=bif decide (20<l.length)then false else aB (PY l most) 0 l.length
theorem W4{α:Type}(l:List α):af .gtr (ai l) (20:Int)=decide (20<l.length):=by simp only[af,ai,gt_iff_lt,decide_eq_decide];omega
theorem YG:af .gtr ((0:Nat):Int) 0=false:=rfl
theorem TO(l:List SX)(most:Int):Mo l most=some (QR l most,()):=by
 unfold Mo QR;rw[W4];cases hl:decide (20<l.length)with
 |true=>rfl
 |false=>
  have hl:l.length<=20:=by have:=of_decide_eq_false hl;omega
  have Jf:Nw (l,most,()) ((0:Int),())=some (bif aB (PY l most) 0 l.length then(Sum.inr (Sum.inl ()):Bool×Unit⊕(Unit⊕Empty))else Sum.inl (false,())):=by
   refine bp (fun n=>((n:Int),())) l.length (by omega) (PY l most) _ _ (fun n hn=>?_) ?_
   ·unfold Nv PY;simp only[aj,az,aq,hn,decide_true,cond_true];cases n with
    |zero=>simp only[YG,cond_false];cases af .lss (l.getD 0 Qk).1 0 <;> cases af .geq (l.getD 0 Qk).1 (l.getD 0 Qk).2 <;> cases af .gtr (l.getD 0 Qk).2 most <;> rfl
    |succ n=>
     have hn':n<l.length:=by omega
     simp only[Zo,av (n:=n+1) (by omega),iw (n:=n) (by omega),cV hn',aq,cond_true];cases af .lss (l.getD (n+1) Qk).1 0 <;> cases af .geq (l.getD (n+1) Qk).1 (l.getD (n+1) Qk).2 <;> cases af .gtr (l.getD (n+1) Qk).2 most <;> cases af .leq (l.getD (n+1) Qk).1 (l.getD n Qk).2 <;> rfl
   ·unfold Nv;simp only[aj,Nat.lt_irrefl,decide_false,cond_false]
  rw[Jf];cases aB (PY l most) 0 l.length <;> rfl
theorem TE(l:List SX)(most:Int):LQ l most=some (QR l most,()):=by
 unfold LQ QR;rw[W4];cases hl:decide (20<l.length)with
 |true=>rfl
 |false=>
  have hl:l.length<=20:=by have:=of_decide_eq_false hl;omega
  have Jf:Nh (l,most,l,ai l,()) ((0:Int),())=some (bif aB (PY l most) 0 l.length then(Sum.inr (Sum.inl ()):Bool×Unit⊕(Unit⊕Empty))else Sum.inl (false,())):=by
   refine bp (fun n=>((n:Int),())) l.length (by omega) (PY l most) _ _ (fun n hn=>?_) ?_
   ·unfold Ng PY;simp only[aj,az,aq,hn,decide_true,cond_true];cases n with
    |zero=>simp only[YG,cond_false];cases af .lss (l.getD 0 Qk).1 0 <;> cases af .geq (l.getD 0 Qk).1 (l.getD 0 Qk).2 <;> cases af .gtr (l.getD 0 Qk).2 most <;> rfl
    |succ n=>
     have hn':n<l.length:=by omega
     simp only[Zo,av (n:=n+1) (by omega),iw (n:=n) (by omega),cV hn',aq,cond_true];cases af .lss (l.getD (n+1) Qk).1 0 <;> cases af .geq (l.getD (n+1) Qk).1 (l.getD (n+1) Qk).2 <;> cases af .gtr (l.getD (n+1) Qk).2 most <;> cases af .leq (l.getD (n+1) Qk).1 (l.getD n Qk).2 <;> rfl
   ·unfold Ng;simp only[aj,Nat.lt_irrefl,decide_false,cond_false]
  rw[Jf];cases aB (PY l most) 0 l.length <;> rfl
noncomputable def TX(o c:List SX):Bool:=bif QR o 168 then QR c 20000 else false
theorem UG(o c:List SX):Nb o c=some (TX o c,()):=by unfold Nb TX;simp only[TO,Option.bind_some,PJ,PI]
theorem Ur(o c:List SX):M5 o c=some (TX o c,()):=by unfold M5 TX;simp only[TE,Option.bind_some,PJ,PI]
noncomputable def Sw(a0 a1 a2 a3 a4 a5 a6 a7:Int):Bool:=bif KA a0 1 2000 then bif KA a2 1 2000 then bif KA a5 1 2000 then bif KA a1 0 2000 then bif KA a3 0 10000 then bif KA a4 0 1000000 then bif KA a6 0 100000 then KA a7 0 20 else false else false else false else false else false else false else false
theorem TP(a0 a1 a2 a3 a4 a5 a6 a7:Int):NQ a0 a1 a2 a3 a4 a5 a6 a7=some (Sw a0 a1 a2 a3 a4 a5 a6 a7,()):=by unfold NQ Sw;simp only[M6,Option.bind_some,PJ,PI]
theorem TF(a0 a1 a2 a3 a4 a5 a6 a7:Int):NI a0 a1 a2 a3 a4 a5 a6 a7=some (Sw a0 a1 a2 a3 a4 a5 a6 a7,()):=by unfold NI Sw;simp only[IZ,Option.bind_some,PJ,PI]
theorem Wt(a b:Int):af .gtr a b=Bool.not (af .leq a b):=by
 simp only[af,gt_iff_lt];by_cases h:a<=b
 ·rw[decide_eq_true h,decide_eq_false (by omega)];rfl
 ·rw[decide_eq_false h,decide_eq_true (by omega)];rfl
abbrev Sty:=Int×Int×Int×Int
theorem VK(o c:List SX)(ho:o.length<=1073741824)(hc:c.length<=1073741824):Pj o c=some (o,c,()):=by unfold Pj;rw[SV o ho];simp only[Option.bind_some];rw[SV c hc];rfl
theorem Un(o c:List SX)(ho:o.length<=1073741824)(hc:c.length<=1073741824):Pc o c o c=some (true,()):=by unfold Pc;rw[Ru o ho];simp only[Option.bind_some,Bool.not_true,cond_false];rw[Ru c hc];rfl
theorem U5(a0 a1 a2 a3 a4 a5 a6 a7:Int):PW a0 a1 a2 a3 a4 a5 a6 a7=some (a0,a1,a2,a3,a4,a5,a6,a7,()):=rfl
theorem QO(b:Bool):bQ b b=true:=by unfold bQ;simp
theorem Xt:af .lss (-1:Int) 0=true:=rfl
theorem Tr(o c:List SX)(a:Int)(ho:o.length<=9223372036854775807)(hc:c.length<=9223372036854775807)(ha:0<=a)(Ql:a<=1048576):
  Pf o c a=some (bif decide (a<(o.length:Int)+(c.length:Int))then -1 else a-(o.length:Int)-(c.length:Int),()):=by
 unfold Pf;rw[SU o a ho ha Ql];simp only[Option.bind_some];cases h1:decide (a<(o.length:Int))with
 |true=>have h1:=of_decide_eq_true h1;rw[decide_eq_true (show a<(o.length:Int)+(c.length:Int)by omega)];simp only[cond_true,Xt]
 |false=>
  have h1:=of_decide_eq_false h1;simp only[cond_false];rw[JJ (by omega)];simp only[cond_false];rw[SU c _ hc (by omega) (by omega)];simp only[Option.bind_some];have h3:decide (a-(o.length:Int)<(c.length:Int))=decide (a<(o.length:Int)+(c.length:Int)):=by rw[decide_eq_decide];omega
  rw[h3];cases h2:decide (a<(o.length:Int)+(c.length:Int))with
  |true=>simp only[cond_true,Xt]
  |false=>have h2:=of_decide_eq_false h2;simp only[cond_false];rw[JJ (by omega)];rfl
end Go.Fn
set_option linter.unusedSimpArgs false
namespace Go.Fn
open Go.R
abbrev Stp:=Int×Int×Int×Int×Int
theorem Tq(l:List Int)(a:Int)(hl:l.length<=9223372036854775807)(ha:0<=a)(Ql:a<=1048576):Pe l a=some (bif decide (a<(l.length:Int))then -1 else a-(l.length:Int),()):=by
 unfold Pe;have h1:aa .sub .i64 a (ai l)=a-(l.length:Int):=bO (by unfold ai;omega) (by unfold ai;omega);rw[h1];have h2:af .lss (a-(l.length:Int)) 0=decide (a<(l.length:Int)):=by simp only[af,decide_eq_decide];omega
 rw[h2];cases decide (a<(l.length:Int)) <;> rfl
end Go.Fn
set_option linter.unusedSimpArgs false
namespace Go.Fn
open Go.R
noncomputable def leg(g:List (List Int))(i j:Nat):Int:=(g.getD i Zg).getD j zI
end Go.Fn
set_option linter.unusedSimpArgs false
namespace Go.Fn
open Go.R
abbrev RSt:=Int×List Int×Int×Int×Int×Int
noncomputable def arr(g:List (List Int))(st:RSt)(i:Int):Int:=aa .add .i64 st.2.2.1 (ae zI (ae Zg g st.2.2.2.2.2) (aa .add .i64 i 1))
theorem Wz(a b:Int):af .leq a b=Bool.not (af .gtr a b):=by rw[Wt,Bool.not_not]
end Go.Fn
set_option linter.unusedSimpArgs false
namespace Go.Fn
open Go.R
theorem Ty(a0 a1 a2 a3 a4 a5 a6 a7:Int):NN a0 a1 a2 a3 a4 a5 a6 a7 a0 a1 a2 a3 a4 a5 a6 a7=some (true,()):=by unfold NN;simp only[IR,cond_false]
abbrev Trm:=Int×Int×Int×Int×Int×Int×Int×Int
end Go.Fn
set_option linter.unusedSimpArgs false
namespace Go.Fn
open Go.R
theorem UP(a0 a1 a2 a3 a4 a5 a6 a7 a8 a9 a10 a11 a12:Int):Pp a0 a1 a2 a3 a4 a5 a6 a7 a8 a9 a10 a11 a12=some (a0,a1,a2,a3,a4,a5,a6,a7,a8,a9,a10,a11,a12,()):=rfl
theorem Uk(a0 a1 a2 a3 a4:Int):O9 a0 a1 a2 a3 a4 a0 a1 a2 a3 a4=some (true,()):=by unfold O9;simp only[IR,cond_false]
theorem S3(a0 a1 a2 a3 a4 a5 a6 a7 a8 a9 a10 a11 a12:Int):MU a0 a1 a2 a3 a4 a5 a6 a7 a8 a9 a10 a11 a12 a0 a1 a2 a3 a4 a5 a6 a7 a8 a9 a10 a11 a12=some (true,()):=by unfold MU;simp only[IR,cond_false,Uk,Option.bind_some,Bool.not_true]
theorem Wj(a0:Int)(a1:Int)(a2:Int)(a3:Bool):Ra a0 a1 a2 a3=some (a0,a1,a2,a3,()):=rfl
theorem VF(l:List (Int×Int×Int×Bool))(hl:l.length<=1073741824):Pg l=some (l,()):=by
 unfold Pg;rw[cC hl];have Jf:L9 (l,()) (List.replicate l.length (0,0,0,false),(0:Int),())=some (Sum.inl (l,())):=by
  have:=aR (body:=L8 (l,())) (fun n=>(l.take n++List.replicate (l.length-n) (0,0,0,false),(n:Int),())) l.length (by omega) (Sum.inl (l,())) (fun n hn=>?_) ?_
  ·unfold L9;simpa using this
  ·unfold L8;have hx:n<(l.take n++List.replicate (l.length-n) ((0,0,0,false):Int×Int×Int×Bool)).length:=by rw[dD _ _ (Nat.le_of_lt hn)];exact hn
   simp only[aj,az,hn,hx,decide_true,cond_true,aq,Wj,Option.bind_some,aV,av (n:=n) (by omega),aN];rw[<-dS l (0,0,0,false) hn,eX hn JG (0,0,0,false)]
  ·unfold L8;simp only[aj,Nat.lt_irrefl,decide_false,cond_false,Nat.sub_self,List.replicate_zero,List.append_nil,List.take_length]
 have hr:cW (ai l) (((0:Int),(0:Int),(0:Int),false))=List.replicate l.length (0,0,0,false):=dP _ _;rw[hr];simp only[cond_true];rw[Jf];rfl
theorem UR(a0:Int)(a1:Int)(a2:Int)(a3:Bool):PT a0 a1 a2 a3 a0 a1 a2 a3=some (true,()):=by unfold PT;simp only[IR,QO,Bool.not_true,cond_false]
theorem Uh(l:List (Int×Int×Int×Bool))(hl:l.length<=1073741824):O6 l l=some (true,()):=by
 unfold O6;rw[IR];have Jf:Oo (l,l,()) ((0:Int),())=some (Sum.inr (Sum.inl ())):=by
  refine aR (fun n=>((n:Int),())) l.length (by omega) _ (fun n hn=>?_) ?_
  ·unfold On;simp only[aj,az,hn,decide_true,cond_true,UR,Option.bind_some,av (n:=n) (by omega)];rfl
  ·unfold On;simp only[aj,Nat.lt_irrefl,decide_false,cond_false]
 simp only[cond_false];rw[Jf];rfl
theorem Tp(l:List (Int×Int×Int×Bool))(a:Int)(hl:l.length<=9223372036854775807)(ha:0<=a)(Ql:a<=1048576):Pd l a=some (bif decide (a<(l.length:Int))then -1 else a-(l.length:Int),()):=by
 unfold Pd;have h1:aa .sub .i64 a (ai l)=a-(l.length:Int):=bO (by unfold ai;omega) (by unfold ai;omega);rw[h1];have h2:af .lss (a-(l.length:Int)) 0=decide (a<(l.length:Int)):=by simp only[af,decide_eq_decide];omega
 rw[h2];cases decide (a<(l.length:Int)) <;> rfl
theorem TW(l:List (Int×Int×Int×Int×Int×Int×Int×Int×Int×Int×Int×Int×Int))(hl:l.length<=1073741824):Mf l=some (l,()):=by
 unfold Mf;rw[cC hl];have Jf:Kz (l,()) (List.replicate l.length (0,0,0,0,0,0,0,0,0,0,0,0,0),(0:Int),())=some (Sum.inl (l,())):=by
  have:=aR (body:=Ky (l,())) (fun n=>(l.take n++List.replicate (l.length-n) (0,0,0,0,0,0,0,0,0,0,0,0,0),(n:Int),())) l.length (by omega) (Sum.inl (l,())) (fun n hn=>?_) ?_
  ·unfold Kz;simpa using this
  ·unfold Ky;have hx:n<(l.take n++List.replicate (l.length-n) ((0,0,0,0,0,0,0,0,0,0,0,0,0):Int×Int×Int×Int×Int×Int×Int×Int×Int×Int×Int×Int×Int)).length:=by rw[dD _ _ (Nat.le_of_lt hn)];exact hn
   simp only[aj,az,hn,hx,decide_true,cond_true,aq,UP,Option.bind_some,aV,av (n:=n) (by omega),aN];rw[<-dS l (0,0,0,0,0,0,0,0,0,0,0,0,0) hn,eX hn bt (0,0,0,0,0,0,0,0,0,0,0,0,0)]
  ·unfold Ky;simp only[aj,Nat.lt_irrefl,decide_false,cond_false,Nat.sub_self,List.replicate_zero,List.append_nil,List.take_length]
 have hr:cW (ai l) (((0:Int),(0:Int),(0:Int),(0:Int),(0:Int),(0:Int),(0:Int),(0:Int),(0:Int),(0:Int),(0:Int),(0:Int),(0:Int)))=List.replicate l.length (0,0,0,0,0,0,0,0,0,0,0,0,0):=dP _ _;rw[hr];simp only[cond_true];rw[Jf];rfl
theorem SF(l:List (Int×Int×Int×Int×Int×Int×Int×Int×Int×Int×Int×Int×Int))(hl:l.length<=1073741824):LW l l=some (true,()):=by
 unfold LW;rw[IR];have Jf:LY (l,l,()) ((0:Int),())=some (Sum.inr (Sum.inl ())):=by
  refine aR (fun n=>((n:Int),())) l.length (by omega) _ (fun n hn=>?_) ?_
  ·unfold LX;simp only[aj,az,hn,decide_true,cond_true,S3,Option.bind_some,av (n:=n) (by omega)];rfl
  ·unfold LX;simp only[aj,Nat.lt_irrefl,decide_false,cond_false]
 simp only[cond_false];rw[Jf];rfl
theorem TT(l:List (Int×Int×Int×Int×Int×Int×Int×Int×Int×Int×Int×Int×Int))(a:Int)(hl:l.length<=9223372036854775807)(ha:0<=a)(Ql:a<=1048576):L6 l a=some (bif decide (a<(l.length:Int))then -1 else a-(l.length:Int),()):=by
 unfold L6;have h1:aa .sub .i64 a (ai l)=a-(l.length:Int):=bO (by unfold ai;omega) (by unfold ai;omega);rw[h1];have h2:af .lss (a-(l.length:Int)) 0=decide (a<(l.length:Int)):=by simp only[af,decide_eq_decide];omega
 rw[h2];cases decide (a<(l.length:Int)) <;> rfl
theorem U3(a0:Int)(a1:Int)(a2:Int)(a3:Int)(a4:Int)(a5:Int)(a6:Bool):PV a0 a1 a2 a3 a4 a5 a6=some (a0,a1,a2,a3,a4,a5,a6,()):=rfl
theorem UO(l:List (Int×Int×Int×Int×Int×Int×Bool))(hl:l.length<=1073741824):MY l=some (l,()):=by
 unfold MY;rw[cC hl];have Jf:KW (l,()) (List.replicate l.length (0,0,0,0,0,0,false),(0:Int),())=some (Sum.inl (l,())):=by
  have:=aR (body:=KV (l,())) (fun n=>(l.take n++List.replicate (l.length-n) (0,0,0,0,0,0,false),(n:Int),())) l.length (by omega) (Sum.inl (l,())) (fun n hn=>?_) ?_
  ·unfold KW;simpa using this
  ·unfold KV;have hx:n<(l.take n++List.replicate (l.length-n) ((0,0,0,0,0,0,false):Int×Int×Int×Int×Int×Int×Bool)).length:=by rw[dD _ _ (Nat.le_of_lt hn)];exact hn
   simp only[aj,az,hn,hx,decide_true,cond_true,aq,U3,Option.bind_some,aV,av (n:=n) (by omega),aN];rw[<-dS l (0,0,0,0,0,0,false) hn,eX hn xx (0,0,0,0,0,0,false)]
  ·unfold KV;simp only[aj,Nat.lt_irrefl,decide_false,cond_false,Nat.sub_self,List.replicate_zero,List.append_nil,List.take_length]
 have hr:cW (ai l) (((0:Int),(0:Int),(0:Int),(0:Int),(0:Int),(0:Int),false))=List.replicate l.length (0,0,0,0,0,0,false):=dP _ _;rw[hr];simp only[cond_true];rw[Jf];rfl
theorem Tw(a0:Int)(a1:Int)(a2:Int)(a3:Int)(a4:Int)(a5:Int)(a6:Bool):NL a0 a1 a2 a3 a4 a5 a6 a0 a1 a2 a3 a4 a5 a6=some (true,()):=by unfold NL;simp only[IR,QO,Bool.not_true,cond_false]
theorem S2(l:List (Int×Int×Int×Int×Int×Int×Bool))(hl:l.length<=1073741824):MT l l=some (true,()):=by
 unfold MT;rw[IR];have Jf:MC (l,l,()) ((0:Int),())=some (Sum.inr (Sum.inl ())):=by
  refine aR (fun n=>((n:Int),())) l.length (by omega) _ (fun n hn=>?_) ?_
  ·unfold MB;simp only[aj,az,hn,decide_true,cond_true,Tw,Option.bind_some,av (n:=n) (by omega)];rfl
  ·unfold MB;simp only[aj,Nat.lt_irrefl,decide_false,cond_false]
 simp only[cond_false];rw[Jf];rfl
theorem UJ(l:List (Int×Int×Int×Int×Int×Int×Bool))(a:Int)(hl:l.length<=9223372036854775807)(ha:0<=a)(Ql:a<=1048576):MX l a=some (bif decide (a<(l.length:Int))then -1 else a-(l.length:Int),()):=by
 unfold MX;have h1:aa .sub .i64 a (ai l)=a-(l.length:Int):=bO (by unfold ai;omega) (by unfold ai;omega);rw[h1];have h2:af .lss (a-(l.length:Int)) 0=decide (a<(l.length:Int)):=by simp only[af,decide_eq_decide];omega
 rw[h2];cases decide (a<(l.length:Int)) <;> rfl
theorem Ug {α:Type} {body:List α×Int×Unit->Option ((List α×Int×Unit)⊕(List α×Unit⊕Empty))} (l:List α) (zr z:α) (hl:l.length<=1073741824)
  (h:∀(n:Nat) (acc:List α),n<l.length->acc.length=l.length->body (acc,(n:Int),())=some (.inl (acc.set n (l.getD n z),((n+1:Nat):Int),())))
  (hend:∀acc:List α,acc.length=l.length->body (acc,(l.length:Int),())=some (.inr (.inl (acc,())))):iter body big (List.replicate l.length zr,0,())=some (Sum.inl (l,())):=by
 have:=aR (body:=body) (fun n=>(l.take n++List.replicate (l.length-n) zr,(n:Int),())) l.length (by omega) (Sum.inl (l,())) (fun n hn=>?_) ?_
 ·simpa using this
 ·show body (l.take n++List.replicate (l.length-n) zr,(n:Int),())=_;rw[h n _ hn (dD _ _ (Nat.le_of_lt hn)),eX hn z zr,dS l zr hn]
 ·show body (l.take l.length++List.replicate (l.length-l.length) zr,(l.length:Int),())=_;rw[hend _ (dD _ _ (Nat.le_refl _))];simp
theorem UD {α:Type} {body:Int×Int×Unit->Option ((Int×Int×Unit)⊕(Int×Unit⊕(Int×Unit⊕Empty)))} (l:List α) (hl:l.length<=1073741824) (small:Nat->Prop)
  (h:∀(n:Nat) (a:Int),n<l.length->0<=a->a<=1048576->body (a,(n:Int),())=some (.inr (.inl (-1,())))\/∃b,body (a,(n:Int),())=some (.inl (b,((n+1:Nat):Int),()))/\0<=b/\b<=a/\small n)
  (hend:∀a,body (a,(l.length:Int),())=some (.inr (.inr (.inl (a,()))))) (a:Int) (ha:0<=a) (Ql:a<=1048576):
  ∃y,iter body big (a,0,())=some y/\(y=.inl (-1,())\/∃b,y=.inr (.inl (b,()))/\0<=b/\b<=a/\∀n,n<l.length->small n):=by
 have key:∀(k n:Nat) (a:Int),n+k=l.length->0<=a->a<=1048576->∃y,iter body (k+1) (a,(n:Int),())=some y/\(y=.inl (-1,())\/∃b,y=.inr (.inl (b,()))/\0<=b/\b<=a/\∀m,n<=m->m<l.length->small m):=by
  intro k;induction k with
  |zero=>
   intro n a hn h0 h1;have:n=l.length:=by omega
   subst this;exact⟨_,ay (hend a),.inr ⟨a,rfl,h0,Int.le_refl _,fun m h2 h3=>absurd h3 (by omega)⟩⟩
  |succ k ih=>
   intro n a hn h0 h1;rcases h n a (by omega) h0 h1 with h|⟨b,h,b0,b1,hs⟩
   ·exact⟨_,ay h,.inl rfl⟩
   ·obtain⟨y,q1,q2⟩:=ih (n+1) b (by omega) b0 (by omega);refine⟨y,by rw[aH h];exact q1,q2.imp id fun⟨c,c1,c2,c3,c4⟩=>⟨c,c1,c2,by omega,fun m h2 h3=>?_⟩⟩;rcases Nat.lt_or_ge n m with h4|h4
    ·exact c4 m (by omega) h3
    ·have:m=n:=by omega
     subst this;exact hs
 obtain⟨y,h1,h2⟩:=key l.length 0 a (by omega) ha Ql;exact⟨y,bF h1 (aT (by omega)),h2.imp id fun⟨b,b1,b2,b3,b4⟩=>⟨b,b1,b2,b3,fun n hn=>b4 n (Nat.zero_le _) hn⟩⟩
abbrev Bx:=Int×Int×Int×Bool
abbrev QI:=Int×List Int×List Bx
abbrev Site:=List SX×List SX×List QI×Int×Int×Bool×Bool×Bool×Int×Int×List Ev
noncomputable def Mr:QI:=m6
noncomputable def b8:Site:=b7
noncomputable def Rt(m:Nat)(c:QI):Prop:=c.2.1.length<=m/\c.2.2.length<=m
theorem UM(a0:Int)(a1:List Int)(a2:List Bx)(h1:a1.length<=1073741824)(h2:a2.length<=1073741824):Ld a0 a1 a2=some (a0,a1,a2,()):=by unfold Ld;rw[VH a1 h1];simp only[Option.bind_some];rw[VF a2 h2];rfl
theorem S1(a0:Int)(a1:List Int)(a2:List Bx)(h1:a1.length<=1073741824)(h2:a2.length<=1073741824):Lb a0 a1 a2 a0 a1 a2=some (true,()):=by unfold Lb;simp only[IR,cond_false,Uj a1 h1,Option.bind_some,Bool.not_true,Uh a2 h2]
theorem UI(a0:Int)(a1:List Int)(a2:List Bx)(a:Int)(h1:a1.length<=9223372036854775807)(h2:a2.length<=9223372036854775807)(ha:0<=a)(Ql:a<=1048576):
  ∃b,JU a0 a1 a2 a=some (b,())/\(b = -1\/(0<=b/\b<=a/\a1.length<=1073741824/\a2.length<=1073741824)):=by
 unfold JU;rw[Tq a1 a h1 ha Ql];simp only[Option.bind_some];cases hd:decide (a<(a1.length:Int))with
 |true=>exact⟨-1,rfl,.inl rfl⟩
 |false=>
  have hd:=of_decide_eq_false hd;simp only[cond_false];rw[JJ (by omega)];simp only[cond_false];rw[Tp a2 _ h2 (by omega) (by omega)];simp only[Option.bind_some];cases mP:decide (a-(a1.length:Int)<(a2.length:Int))with
  |true=>exact⟨-1,rfl,.inl rfl⟩
  |false=>have mP:=of_decide_eq_false mP;simp only[cond_false];rw[JJ (by omega)];exact⟨_,rfl,.inr ⟨by omega,by omega,by show _<=1073741824;omega,by show _<=1073741824;omega⟩⟩
theorem LJ{α:Type}{l:List α}{n:Nat}(h:n<l.length)(z:α):l.getD n z∈l:=by rw[List.getD_eq_getElem?_getD,List.getElem?_eq_getElem h];exact List.getElem_mem h
theorem TU(l:List QI)(hl:l.length<=1073741824)(hc:∀n,n<l.length->Rt 1073741824 (l.getD n Mr)):Ma l=some (l,()):=by
 unfold Ma;rw[cC hl];have hr:cW (ai l) (((0:Int),([]:List Int),([]:List Bx)))=List.replicate l.length (0,[],[]):=dP _ _;rw[hr];have:=Ug (body:=Kx (l,())) l (0,[],[]) Mr hl (fun n acc hn ha=>by
  obtain⟨c1,c2⟩:=hc n hn;unfold Kx;simp only[aj,az,hn,ha,decide_true,cond_true,aq,aV,av (n:=n) (show n<1099511627776 by omega),aN];show((Ld (l.getD n Mr).1 (l.getD n Mr).2.1 (l.getD n Mr).2.2).bind _)=_;rw[UM _ _ _ c1 c2];rfl) (fun acc _=>by
  unfold Kx;simp only[aj,Nat.lt_irrefl,decide_false,cond_false])
 simp only[cond_true];unfold Mb;rw[this];rfl
theorem SD(l:List QI)(hl:l.length<=1073741824)(hc:∀n,n<l.length->Rt 1073741824 (l.getD n Mr)):LR l l=some (true,()):=by
 unfold LR;rw[IR];have Jf:LU (l,l,()) ((0:Int),())=some (Sum.inr (Sum.inl ())):=by
  refine aR (fun n=>((n:Int),())) l.length (by show _<_;omega) _ (fun n hn=>?_) ?_
  ·obtain⟨c1,c2⟩:=hc n hn;unfold LS;simp only[aj,az,hn,decide_true,cond_true,aq,aV,av (n:=n) (show n<1099511627776 by omega)];show((Lb (l.getD n Mr).1 (l.getD n Mr).2.1 (l.getD n Mr).2.2 (l.getD n Mr).1 (l.getD n Mr).2.1 (l.getD n Mr).2.2).bind _)=_;rw[S1 _ _ _ c1 c2];rfl
  ·unfold LS;simp only[aj,Nat.lt_irrefl,decide_false,cond_false]
 simp only[cond_false];rw[Jf];rfl
theorem TQ(l:List QI)(a:Int)(hl:l.length<=9223372036854775807)(hw:∀c∈l,Rt 9223372036854775807 c)(ha:0<=a)(Ql:a<=1048576):
  ∃b,J5 l a=some (b,())/\(b = -1\/(0<=b/\b<=a/\l.length<=1073741824/\∀n,n<l.length->Rt 1073741824 (l.getD n Mr))):=by
 unfold J5;have h1:aa .sub .i64 a (ai l)=a-(l.length:Int):=bO (by unfold ai;have:l.length<=9223372036854775807:=hl;omega) (by unfold ai;omega);have h2:af .lss (a-(l.length:Int)) 0=decide (a<(l.length:Int)):=by simp only[af,decide_eq_decide];omega
 rw[h1,h2];cases hd:decide (a<(l.length:Int))with
 |true=>exact⟨-1,rfl,.inl rfl⟩
 |false=>
  have hd:=of_decide_eq_false hd;have TA:l.length<=1073741824:=by omega
  obtain⟨y,q1,q2⟩:=UD (body:=I3 (l,())) l TA (fun n=>Rt 1073741824 (l.getD n Mr)) (fun n a hn h0 h1=>by
   obtain⟨c1,c2⟩:=hw _ (LJ hn Mr);obtain⟨b,e1,e2⟩:=UI (l.getD n Mr).1 (l.getD n Mr).2.1 (l.getD n Mr).2.2 a c1 c2 h0 h1;have hb:I3 (l,()) (a,(n:Int),())=(bif af .lss b 0 then some (.inr (.inl (-1,())))else some (.inl (b,((n+1:Nat):Int),()))):=by unfold I3;simp only[aj,az,hn,decide_true,cond_true,aq,aV,av (n:=n) (show n<1099511627776 by omega)];show((JU (l.getD n Mr).1 (l.getD n Mr).2.1 (l.getD n Mr).2.2 a).bind _)=_;rw[e1];rfl
   rw[hb];rcases e2 with rfl|⟨b0,b1,b2,b3⟩
   ·exact .inl rfl
   ·rw[JJ b0];exact .inr ⟨b,rfl,b0,b1,b2,b3⟩) (fun a=>by
   unfold I3;simp only[aj,Nat.lt_irrefl,decide_false,cond_false]) (a-(l.length:Int)) (by omega) (by omega)
  simp only[cond_false];unfold Kw;rw[q1];rcases q2 with rfl|⟨b,rfl,b1,b2,b3⟩
  ·exact⟨-1,rfl,.inl rfl⟩
  ·exact⟨b,rfl,.inr ⟨b1,by omega,TA,b3⟩⟩
structure Nu (m:Nat) (x:Site):Prop where
 o:x.1.length<=m
 c:x.2.1.length<=m
 b:x.2.2.1.length<=m
 bs:∀n,n<x.2.2.1.length->Rt m (x.2.2.1.getD n Mr)
 j:x.2.2.2.2.2.2.2.2.2.2.length<=m
theorem VG(a0 a1:Int)(a2 a3 a4:Bool):Qt a0 a1 a2 a3 a4=some (a0,a1,a2,a3,a4,()):=rfl
theorem Ui(a0 a1:Int)(a2 a3 a4:Bool):O7 a0 a1 a2 a3 a4 a0 a1 a2 a3 a4=some (true,()):=by unfold O7;simp only[IR,QO,Bool.not_true,cond_false]
theorem VI(x:Site)(h:Nu 1073741824 x):M7 x.1 x.2.1 x.2.2.1 x.2.2.2.1 x.2.2.2.2.1 x.2.2.2.2.2.1 x.2.2.2.2.2.2.1 x.2.2.2.2.2.2.2.1 x.2.2.2.2.2.2.2.2.1 x.2.2.2.2.2.2.2.2.2.1 x.2.2.2.2.2.2.2.2.2.2 =
  some (x.1,x.2.1,x.2.2.1,x.2.2.2.1,x.2.2.2.2.1,x.2.2.2.2.2.1,x.2.2.2.2.2.2.1,x.2.2.2.2.2.2.2.1,x.2.2.2.2.2.2.2.2.1,x.2.2.2.2.2.2.2.2.2.1,x.2.2.2.2.2.2.2.2.2.2,()):=by
 unfold M7;simp only[VK _ _ h.o h.c,TU _ h.b h.bs,VG,UN _ h.j,Option.bind_some]
theorem Ul(x:Site)(h:Nu 1073741824 x):Pa x.1 x.2.1 x.2.2.1 x.2.2.2.1 x.2.2.2.2.1 x.2.2.2.2.2.1 x.2.2.2.2.2.2.1 x.2.2.2.2.2.2.2.1 x.2.2.2.2.2.2.2.2.1 x.2.2.2.2.2.2.2.2.2.1 x.2.2.2.2.2.2.2.2.2.2 x.1 x.2.1 x.2.2.1 x.2.2.2.1 x.2.2.2.2.1 x.2.2.2.2.2.1 x.2.2.2.2.2.2.1 x.2.2.2.2.2.2.2.1 x.2.2.2.2.2.2.2.2.1 x.2.2.2.2.2.2.2.2.2.1 x.2.2.2.2.2.2.2.2.2.2=some (true,()):=by unfold Pa;simp only[Un _ _ h.o h.c,SD _ h.b h.bs,Ui,Q9 _ h.j,Option.bind_some,IR,Bool.not_true,cond_false]
structure SP (x:Site):Prop where
 o:x.1.length<=9223372036854775807
 c:x.2.1.length<=9223372036854775807
 b:x.2.2.1.length<=9223372036854775807
 bs:∀y∈x.2.2.1,Rt 9223372036854775807 y
 j:x.2.2.2.2.2.2.2.2.2.2.length<=9223372036854775807
theorem VE(x:Site)(a:Int)(h:SP x)(ha:0<=a)(Ql:a<=1048576):
  ∃b,Ly x.1 x.2.1 x.2.2.1 x.2.2.2.1 x.2.2.2.2.1 x.2.2.2.2.2.1 x.2.2.2.2.2.2.1 x.2.2.2.2.2.2.2.1 x.2.2.2.2.2.2.2.2.1 x.2.2.2.2.2.2.2.2.2.1 x.2.2.2.2.2.2.2.2.2.2 a=some (b,())/\(b = -1\/(0<=b/\b<=a/\Nu 1073741824 x)):=by
 unfold Ly;rw[Tr _ _ a h.o h.c ha Ql];simp only[Option.bind_some];cases hd:decide (a<(x.1.length:Int)+(x.2.1.length:Int))with
 |true=>exact⟨-1,rfl,.inl rfl⟩
 |false=>
  have hd:=of_decide_eq_false hd;simp only[cond_false];rw[JJ (by omega)];simp only[cond_false];obtain⟨b,e1,e2⟩:=TQ x.2.2.1 (a-(x.1.length:Int)-(x.2.1.length:Int)) h.b h.bs (by omega) (by omega);rw[e1];simp only[Option.bind_some];rcases e2 with rfl|⟨b0,b1,b2,b3⟩
  ·exact⟨-1,rfl,.inl rfl⟩
  ·rw[JJ b0];simp only[cond_false];rw[SS _ b h.j b0 (by omega)];simp only[Option.bind_some];cases mP:decide (b<(x.2.2.2.2.2.2.2.2.2.2.length:Int))with
   |true=>exact⟨-1,rfl,.inl rfl⟩
   |false=>have mP:=of_decide_eq_false mP;simp only[cond_false];rw[JJ (by omega)];exact⟨_,rfl,.inr ⟨by omega,by omega,⟨by show _<=1073741824;omega,by show _<=1073741824;omega,b2,b3,by show _<=1073741824;omega⟩⟩⟩
theorem U4(l:List Site)(hl:l.length<=1073741824)(hc:∀n,n<l.length->Nu 1073741824 (l.getD n b8)):NO l=some (l,()):=by
 unfold NO;rw[cC hl];have hr:cW (ai l) ((([]:List SX),([]:List SX),([]:List QI),(0:Int),(0:Int),false,false,false,(0:Int),(0:Int),([]:List Ev)):Site)=List.replicate l.length ([],[],[],0,0,false,false,false,0,0,[]):=dP _ _;rw[hr];have:=Ug (body:=Lk (l,())) l ([],[],[],0,0,false,false,false,0,0,[]) b8 hl (fun n acc hn ha=>by
  have hs:=VI (l.getD n b8) (hc n hn);unfold Lk;simp only[aj,az,hn,ha,decide_true,cond_true,aq,aV,av (n:=n) (show n<1099511627776 by omega),aN];show((M7 (l.getD n b8).1 (l.getD n b8).2.1 (l.getD n b8).2.2.1 (l.getD n b8).2.2.2.1 (l.getD n b8).2.2.2.2.1 (l.getD n b8).2.2.2.2.2.1 (l.getD n b8).2.2.2.2.2.2.1 (l.getD n b8).2.2.2.2.2.2.2.1 (l.getD n b8).2.2.2.2.2.2.2.2.1 (l.getD n b8).2.2.2.2.2.2.2.2.2.1 (l.getD n b8).2.2.2.2.2.2.2.2.2.2).bind _)=_;rw[hs];rfl) (fun acc _=>by
  unfold Lk;simp only[aj,Nat.lt_irrefl,decide_false,cond_false])
 simp only[cond_true];unfold Nt;rw[this];rfl
theorem Tx(l:List Site)(hl:l.length<=1073741824)(hc:∀n,n<l.length->Nu 1073741824 (l.getD n b8)):NM l l=some (true,()):=by
 unfold NM;rw[IR];have Jf:Nq (l,l,()) ((0:Int),())=some (Sum.inr (Sum.inl ())):=by
  refine aR (fun n=>((n:Int),())) l.length (by show _<_;omega) _ (fun n hn=>?_) ?_
  ·have hs:=Ul (l.getD n b8) (hc n hn);unfold Np;simp only[aj,az,hn,decide_true,cond_true,aq,aV,av (n:=n) (show n<1099511627776 by omega)];have hs':=congrArg (fun q=>q.bind fun(y0:Bool×Unit)=>(bif (Bool.not y0.1)then some (Sum.inr (Sum.inl (false,())))else some (Sum.inl (((n+1:Nat):Int),())):Option ((Int×Unit)⊕(Bool×Unit⊕(Unit⊕Empty))))) hs;exact hs'
  ·unfold Np;simp only[aj,Nat.lt_irrefl,decide_false,cond_false]
 simp only[cond_false];rw[Jf];rfl
theorem U1(l:List Site)(a:Int)(hl:l.length<=9223372036854775807)(hw:∀c∈l,SP c)(ha:0<=a)(Ql:a<=1048576):
  ∃b,JS l a=some (b,())/\(b = -1\/(0<=b/\b<=a/\l.length<=1073741824/\∀n,n<l.length->Nu 1073741824 (l.getD n b8))):=by
 unfold JS;have h1:aa .sub .i64 a (ai l)=a-(l.length:Int):=bO (by unfold ai;have:l.length<=9223372036854775807:=hl;omega) (by unfold ai;omega);have h2:af .lss (a-(l.length:Int)) 0=decide (a<(l.length:Int)):=by simp only[af,decide_eq_decide];omega
 rw[h1,h2];cases hd:decide (a<(l.length:Int))with
 |true=>exact⟨-1,rfl,.inl rfl⟩
 |false=>
  have hd:=of_decide_eq_false hd;have TA:l.length<=1073741824:=by omega
  obtain⟨y,q1,q2⟩:=UD (body:=I7 (l,())) l TA (fun n=>Nu 1073741824 (l.getD n b8)) (fun n a hn h0 h1=>by
   obtain⟨b,e1,e2⟩:=VE (l.getD n b8) a (hw _ (LJ hn b8)) h0 h1;have hb:I7 (l,()) (a,(n:Int),())=(bif af .lss b 0 then some (.inr (.inl (-1,())))else some (.inl (b,((n+1:Nat):Int),()))):=by unfold I7;simp only[aj,az,hn,decide_true,cond_true,aq,aV,av (n:=n) (show n<1099511627776 by omega)];have hs':=congrArg (fun q=>q.bind fun(y0:Int×Unit)=>(bif (af .lss y0.1 (0:Int))then some (.inr (.inl ((-1:Int),())))else some (.inl (y0.1,((n+1:Nat):Int),())):Option ((Int×Int×Unit)⊕(Int×Unit⊕(Int×Unit⊕Empty))))) e1;exact hs'
   rw[hb];rcases e2 with rfl|⟨b0,b1,b2⟩
   ·exact .inl rfl
   ·rw[JJ b0];exact .inr ⟨b,rfl,b0,b1,b2⟩) (fun a=>by
   unfold I7;simp only[aj,Nat.lt_irrefl,decide_false,cond_false]) (a-(l.length:Int)) (by omega) (by omega)
  simp only[cond_false];unfold Lj;rw[q1];rcases q2 with rfl|⟨b,rfl,b1,b2,b3⟩
  ·exact⟨-1,rfl,.inl rfl⟩
  ·exact⟨b,rfl,.inr ⟨b1,by omega,TA,b3⟩⟩
end Go.Fn
set_option linter.unusedSimpArgs false
namespace Go.Fn
open Go.R
abbrev Ub:=Int×Int×Int×Int×Int×Int×Int×Int×Int×Int×Int×Int×Int
abbrev TY:=Int×Int×Int×Int×Int×Int×Bool
structure Wb (s:List Site) (p:List Ub) (g:List TY) (j:List Ev):Prop where
 ls:s.length<=9223372036854775807
 ss:∀x∈s,SP x
 lp:p.length<=9223372036854775807
 lg:g.length<=9223372036854775807
 lj:j.length<=9223372036854775807
structure Sg (s:List Site) (p:List Ub) (g:List TY) (j:List Ev):Prop where
 ls:s.length<=1048576
 ss:∀n,n<s.length->Nu 1073741824 (s.getD n b8)
 lp:p.length<=1048576
 lg:g.length<=1048576
 lj:j.length<=1048576
theorem UK(s:List Site)(a b:Int)(hs:s.length<=9223372036854775807)(ha:0<=a)(Ql:a<=1048576)(h:JS s a=some (b,()))(hb:0<=b):s.length<=1048576:=by
 unfold JS at h;have h1:aa .sub .i64 a (ai s)=a-(s.length:Int):=bO (by unfold ai;omega) (by unfold ai;omega);have h2:af .lss (a-(s.length:Int)) 0=decide (a<(s.length:Int)):=by simp only[af,decide_eq_decide];omega
 rw[h1,h2]at h;cases hd:decide (a<(s.length:Int))with
 |true=>rw[hd]at h;simp only[cond_true,Option.some.injEq,Prod.mk.injEq]at h;omega
 |false=>have hd:=of_decide_eq_false hd;omega
section
variable (a0 a1 a2 a3 a4 a5 a6 a7 a8 a9 a10:Int) (s:List Site) (p:List Ub) (g:List TY) (j:List Ev)
theorem TV(h:Sg s p g j):Me a0 a1 a2 a3 a4 a5 a6 a7 a8 a9 a10 s p g j=some (a0,a1,a2,a3,a4,a5,a6,a7,a8,a9,a10,s,p,g,j,()):=by have h1:=h.ls;have h2:=h.lp;have h3:=h.lg;have h4:=h.lj;unfold Me;simp only[U5,U4 s (by omega) h.ss,TW p (by omega),UO g (by omega),UN j (by omega),Option.bind_some]
theorem SE(h:Sg s p g j):LV a0 a1 a2 a3 a4 a5 a6 a7 a8 a9 a10 s p g j a0 a1 a2 a3 a4 a5 a6 a7 a8 a9 a10 s p g j=some (true,()):=by have h1:=h.ls;have h2:=h.lp;have h3:=h.lg;have h4:=h.lj;unfold LV;simp only[Ty,IR,Tx s (by omega) h.ss,SF p (by omega),S2 g (by omega),Q9 j (by omega),Option.bind_some,Bool.not_true,cond_false]
theorem TS(a:Int)(h:Wb s p g j)(ha:0<=a)(Ql:a<=1048576):
  ∃b,J6 a0 a1 a2 a3 a4 a5 a6 a7 a8 a9 a10 s p g j a=some (b,())/\(b = -1\/(0<=b/\b<=a/\Sg s p g j)):=by
 unfold J6;obtain⟨b,e1,e2⟩:=U1 s a h.ls h.ss ha Ql;rw[e1];simp only[Option.bind_some];rcases e2 with rfl|⟨b0,b1,b2,b3⟩
 ·exact⟨-1,rfl,.inl rfl⟩
 ·rw[JJ b0];simp only[cond_false];rw[TT p b h.lp b0 (by omega)];simp only[Option.bind_some];cases hd:decide (b<(p.length:Int))with
  |true=>exact⟨-1,rfl,.inl rfl⟩
  |false=>
   have hd:=of_decide_eq_false hd;simp only[cond_false];rw[JJ (by omega)];simp only[cond_false];rw[UJ g _ h.lg (by omega) (by omega)];simp only[Option.bind_some];cases mP:decide (b-(p.length:Int)<(g.length:Int))with
   |true=>exact⟨-1,rfl,.inl rfl⟩
   |false=>
    have mP:=of_decide_eq_false mP;simp only[cond_false];rw[JJ (by omega)];simp only[cond_false];rw[SS j _ h.lj (by omega) (by omega)];simp only[Option.bind_some];cases hd3:decide (b-(p.length:Int)-(g.length:Int)<(j.length:Int))with
    |true=>exact⟨-1,rfl,.inl rfl⟩
    |false=>have hd3:=of_decide_eq_false hd3;simp only[cond_false];rw[JJ (by omega)];refine⟨_,rfl,.inr ⟨by omega,by omega,⟨?_,b3,by omega,by omega,by omega⟩⟩⟩;exact UK s a b h.ls ha Ql e1 b0
theorem VB(n:Int):∃y,Lh a0 a1 a2 a3 a4 a5 a6 a7 a8 a9 a10 s p g j n=some (y,())/\La a0 a1 a2 a3 a4 a5 a6 a7 a8 a9 a10 s p g j n=some (y,()):=by
 unfold Lh La JM JT;simp only[M6,IZ,Option.bind_some];have hz:ax (2147483646:Int)=false:=rfl;cases KA a9 1 2147483646 with
 |false=>exact⟨_,rfl,rfl⟩
 |true=>
  cases KA n 1 12 with
  |false=>exact⟨_,rfl,rfl⟩
  |true=>simp only[hz];exact⟨_,rfl,rfl⟩
end
end Go.Fn
namespace Go.R
def Yl{α:Type}(x:Option α)(P:α->Prop):Prop:=∃a,x=some a/\P a
section
variable {α β:Type} {P:α->Prop} {Q:β->Prop}
theorem Yl.ret{a:α}(h:P a):Yl (some a) P:=⟨a,rfl,h⟩
theorem Yl.bind{x:Option α}{f:α->Option β}(hx:Yl x P)(hf:∀a,P a->Yl (f a) Q):Yl (x.bind f) Q:=by obtain⟨a,rfl,ha⟩:=hx;exact hf a ha
theorem Yl.mono{P':α->Prop}{x:Option α}(hx:Yl x P)(h:∀a,P a->P' a):Yl x P':=by obtain⟨a,e,ha⟩:=hx;exact⟨a,e,h a ha⟩
theorem Yl.cond{b:Bool}{x y:Option α}(hx:b=true->Yl x P)(hy:b=false->Yl y P):Yl (bif b then x else y) P:=by
 cases b
 ·exact hy rfl
 ·exact hx rfl
theorem Yl.guard{b:Bool}{x:Option α}(hb:b=true)(hx:Yl x P):Yl (bif b then x else none) P:=by subst hb;exact hx
theorem Yl.lets{γ:Type}{v:γ}{k:γ->Option α}(h:Yl (k v) P):Yl (lets v k) P:=h
end
theorem QF{α:Type}{l:List α}(h:l.length<=1073741824):aE l=true:=by unfold aE limit;exact decide_eq_true (by omega)
open Go.Fn
end Go.R

