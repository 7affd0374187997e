import Derived.Test.YthdhgmppijjhpaaGreatRE
import Derived.Lib.SlicesCompact
import Derived.Sort.AssemblyPlain
/- Plain functions that stand for Go functions, and what they answer. Conditions: none. -/
set_option autoImplicit false
set_option linter.unusedVariables false
set_option linter.unusedSimpArgs false
set_option linter.unusedVariables false
namespace Go.Fn
open Go.R
abbrev Lz:=List (Int×Int)
abbrev nw:=List Int
abbrev Xy:=Int×Int×Int×Bool
abbrev QX:=List Xy
abbrev QY:=List (Int×nw×QX)
abbrev Q4:=Int×Int×Int×Int×Int
abbrev XN:=Int×Int×Q4
abbrev Ko:=List XN
abbrev Z3:=Lz×Lz×QY×Int×Int×Bool×Bool×Bool×Int×Int×Ko
abbrev KQ:=List Z3
abbrev Z6:=Int×Int×Int×Int×Int×Int×XN
abbrev M3:=List Z6
abbrev KR:=List (Int×Int×Int×Xy)
abbrev DM:=Int×Unit
abbrev Tv:=Bool×Unit
abbrev mo:=Option Tv
abbrev XA:=Unit⊕Empty
abbrev Pj:=Option (DM⊕Tv⊕XA)
abbrev z2:=List nw
abbrev Vh:=Ko×Unit
abbrev YcP:=Int×KQ×M3×KR×Vh
abbrev UE:=Int×Int×Int×Int×Int×Int×Int×Int×Int×Int×YcP
abbrev Ir:=List Q4
abbrev Kp:=Int×DM
abbrev VS:=Ko×DM
abbrev WO:=Int×Int×z2×Ir×Int×Int×z2×Ir×nw×nw×Lz×Lz×QY×Int×Int×Bool×Bool×Bool×Int×Int×VS
abbrev Ug:=nw×DM
abbrev Vf:=Int×Int×z2×Ir×Int×Int×z2×Ir×nw×Ug
abbrev Xu:=Int×Int×Int×Int×Int×Int×Int×Int×Int×Int×Int×KQ×M3×KR×VS
abbrev QK:=Option DM
abbrev Vg:=List (Int×Bool)
abbrev Vs:=Option (Kp⊕Tv⊕DM⊕Empty)
abbrev VO:=Option (Kp⊕DM⊕DM⊕Empty)
abbrev XK:=Int×Int×Int×Kp
abbrev XJ:=Int×Int×z2×Ir×Int×Int×z2×Ir×nw×nw×XK
abbrev Xv:=Int×Int×z2×Ir×nw×Tv
abbrev UI:=nw×Unit
abbrev Z0:=Int×Int×z2×Ir×Int×Int×z2×Ir×nw×UI⊕Empty
abbrev VP:=Option (Kp⊕DM⊕Empty)
abbrev Z1:=Int×Int×z2×Ir×Int×Int×z2×Ir×nw×nw×Lz×Lz×QY×Int×Int×Bool×Bool×Bool×Int×Int×Ko×Int×Kp
abbrev Xw:=Int×Int×z2×Ir×DM
abbrev Z2:=Int×Int×Int×Int×Int×Int×Int×Int×Int×Int×Int×KQ×M3×KR×Ko×KQ×DM
abbrev Xx:=Int×z2×Ir×Unit
abbrev XL:=Option (DM⊕DM⊕XA)
abbrev Vt:=QX×Unit
abbrev Z4:=Int×Int×z2×Ir×Int×Int×z2×Ir×nw×nw×Ug
abbrev Z5:=Int×Int×z2×Ir×Int×Int×z2×Ir×UI⊕Empty
abbrev Vi:=z2×Unit
abbrev Vj:=Lz×Unit
abbrev Xz:=Option (Int×Tv)
abbrev Z7:=Int×Int×z2×Ir×Int×Int×z2×Ir×Ug
abbrev Vu:=QY×Unit
abbrev Vv:=Vg×DM
abbrev Z8:=Option (Xw⊕Xv⊕Int×Xx⊕Empty)
abbrev Vw:=Lz×DM
abbrev Vx:=QX×DM
abbrev VQ:=KQ×Unit
abbrev VR:=KR×Unit
abbrev XB:=Int×nw×Vt
abbrev XM:=Int×Int×Int×Tv
abbrev VT:=z2×DM
abbrev VU:=QY×DM
abbrev VV:=M3×DM
abbrev WQ:=M3×Unit
abbrev Z9:=Int×Int×Int×Bool×DM
abbrev YcL:=Option (Vv⊕Tv⊕XA)
abbrev YcM:=Option (Vf⊕Xv⊕Z0)
abbrev XO:=Int×Int×XK
abbrev YcQ:=Int×Int×Int×KQ×Kp
noncomputable def e7:XN:=(0,0,0,0,0,0,0)
noncomputable def N1(a b c d e f g:Int):Option XO:=some (a,b,c,d,e,f,g,())
noncomputable def bt(a b c:Int):mo:=cond (af .geq a b) (some (af .leq a c,())) (some (false,()))
noncomputable def LN(a b c d e f g:Int):mo:=(bt a 0 5).bind fun h=>letI i:=some (false,());cond h.1 ((bt b 1 999).bind fun j=>cond j.1 ((bt c 1 100000).bind fun k=>cond k.1 ((bt d 1 4).bind fun l=>cond l.1 ((bt e 1 999).bind fun m=>cond m.1 ((bt f 0 20000).bind fun n=>cond n.1 ((bt g 0 20000).bind fun o=>some (o.1,())) i) i) i) i) i) i
noncomputable def bu(a b c:Int):mo:=cond (af .geq a b) (some (af .leq a c,())) (some (false,()))
noncomputable def gg(a:Int):mo:=(bu a 0 20000).bind fun b=>some (b.1,())
noncomputable def LA(a b c d e f g:Int):mo:=(bu a 0 5).bind fun h=>letI i:=some (false,());cond h.1 ((bu b 1 999).bind fun j=>cond j.1 ((bu c 1 100000).bind fun k=>cond k.1 ((bu d 1 4).bind fun l=>cond l.1 ((bu e 1 999).bind fun m=>cond m.1 ((gg f).bind fun n=>cond n.1 ((gg g).bind fun o=>some (o.1,())) i) i) i) i) i) i
noncomputable def H6(a:Ko)(b:Int):QK:=letI c:=aa .sub .i64 b (ai a);cond (af .lss c 0) (some (-1,())) (some (c,()))
noncomputable def vw(a:Vh)(b:VS):Option (VS⊕Vh⊕Empty):=letI c:=b.2.1;letI d:=ae e7 a.1 c;letI e:=d.2.2.2;cond (af .lss c (ai a.1)) (cond (ah a.1 c) ((N1 d.1 d.2.1 d.2.2.1 e.1 e.2.1 e.2.2.1 e.2.2.2).bind fun f=>letI g:=f.2.2.2;cond (ah b.1 c) (some (.inl (aC b.1 c (f.1,f.2.1,f.2.2.1,g.1,g.2.1,g.2.2.1,g.2.2.2.1),aa .add .i64 c 1,()))) none) none) (some (.inr (.inl (b.1,()))))
noncomputable def xb k x:=iter (vw k) big x
noncomputable def H8(a:Ko):Option Vh:=letI b:=(0:Int);cond (cI (ai a)) ((xb (a,()) (cW (ai a) (b,b,b,b,b,b,b),b,())).bind fun c=>Sum.elim (fun d=>some (d.1,())) (fun d=>Empty.elim d) c) none
noncomputable def JC(a:Vh)(b:DM):Pj:=letI c:=ae e7 a.1 b.1;letI d:=c.2.2;cond (af .lss b.1 (ai a.1)) (cond (ah a.1 b.1) ((LN c.1 c.2.1 d.1 d.2.1 d.2.2.1 d.2.2.2.1 d.2.2.2.2).bind fun e=>letI f:=(false,());letI g:=af .gtr b.1 0;letI h:=aa .sub .i64 b.1 1;letI i:=(aa .add .i64 b.1 1,());letI j:=ah a.1 h;letI k:=ae e7 a.1 h;letI l:=af .eql c.1 k.1;letI m:=af .leq c.2.1 k.2.1;letI n:=af .leq d.1 k.2.2.1;cond (Bool.not e.1) (some (.inr (.inl f))) (cond g (cond j (cond (af .lss c.1 k.1) (some (.inr (.inl f))) (cond g (cond j (cond l (cond j (cond m (some (.inr (.inl f))) (cond j (cond n (some (.inr (.inl f))) (some (.inl i))) none)) none) (some (.inl i))) none) (some (.inl i)))) none) (cond g (cond j (cond l (cond j (cond m (some (.inr (.inl f))) (cond j (cond n (some (.inr (.inl f))) (some (.inl i))) none)) none) (some (.inl i))) none) (some (.inl i))))) none) (some (.inr (.inr (.inl ()))))
noncomputable def JD k x:=iter (JC k) big x
noncomputable def lm(a:Ko):mo:=cond (af .gtr (ai a) 60) (some (false,())) ((JD (a,()) (0,())).bind fun b=>Sum.elim (fun c=>some (c.1,())) (fun c=>Sum.elim (fun _=>some (true,())) (fun d=>Empty.elim d) c) b)
noncomputable def IK(a:Ko×VS)(b:DM):Pj:=letI c:=ae e7 a.2.1 b.1;letI d:=c.2.2;cond (af .lss b.1 a.2.2.1) (cond (ah a.2.1 b.1) ((LA c.1 c.2.1 d.1 d.2.1 d.2.2.1 d.2.2.2.1 d.2.2.2.2).bind fun e=>letI f:=(false,());letI g:=aa .sub .i64 b.1 1;letI h:=(aa .add .i64 b.1 1,());letI i:=ae e7 a.1 g;cond (Bool.not e.1) (some (.inr (.inl f))) (cond (af .eql b.1 0) (some (.inl h)) (cond (ah a.1 g) (cond (af .lss c.1 i.1) (some (.inr (.inl f))) (cond (af .eql c.1 i.1) (cond (af .leq c.2.1 i.2.1) (some (.inr (.inl f))) (cond (af .leq d.1 i.2.2.1) (some (.inr (.inl f))) (some (.inl h)))) (some (.inl h)))) none))) none) (some (.inr (.inr (.inl ()))))
noncomputable def IL k x:=iter (IK k) big x
noncomputable def ko(a:Ko):mo:=cond (af .gtr (ai a) 60) (some (false,())) ((IL (a,a,ai a,()) (0,())).bind fun b=>Sum.elim (fun c=>some (c.1,())) (fun c=>Sum.elim (fun _=>some (true,())) (fun d=>Empty.elim d) c) b)
noncomputable def LD(a b c d e f g h i j k l m n:Int):mo:=letI o:=some (false,());cond (af .neq a h) o (cond (af .neq b i) o (cond (af .neq c j) o (cond (af .neq d k) o (cond (af .neq e l) o (cond (af .neq f m) o (cond (af .neq g n) o (some (true,()))))))))
noncomputable def J3(a:Ko×Vh)(b:DM):Pj:=letI c:=ae e7 a.1 b.1;letI d:=ae e7 a.2.1 b.1;letI e:=c.2.2.2;letI f:=d.2.2.2;cond (af .lss b.1 (ai a.1)) (cond (ah a.1 b.1) (cond (ah a.2.1 b.1) ((LD c.1 c.2.1 c.2.2.1 e.1 e.2.1 e.2.2.1 e.2.2.2 d.1 d.2.1 d.2.2.1 f.1 f.2.1 f.2.2.1 f.2.2.2).bind fun g=>cond (Bool.not g.1) (some (.inr (.inl (false,())))) (some (.inl (aa .add .i64 b.1 1,())))) none) none) (some (.inr (.inr (.inl ()))))
noncomputable def J4 k x:=iter (J3 k) big x
noncomputable def HZ(a b:Ko):mo:=cond (af .neq (ai a) (ai b)) (some (false,())) ((J4 (a,b,()) (0,())).bind fun c=>Sum.elim (fun d=>some (d.1,())) (fun d=>Sum.elim (fun _=>some (true,())) (fun e=>Empty.elim e) d) c)
end Go.Fn
set_option linter.unusedVariables false
namespace Go.Fn
open Go.R
noncomputable def zI:Int:=0
noncomputable def Mq(a:nw×UI)(b:DM):Pj:=cond (af .lss b.1 (ai a.1)) (cond (ah a.1 b.1) (cond (ah a.2.1 b.1) (cond (af .neq (ae zI a.1 b.1) (ae zI a.2.1 b.1)) (some (.inr (.inl (false,())))) (some (.inl (aa .add .i64 b.1 1,())))) none) none) (some (.inr (.inr (.inl ()))))
noncomputable def Mr k x:=iter (Mq k) big x
noncomputable def rp(a b:nw):mo:=cond (af .neq (ai a) (ai b)) (some (false,())) ((Mr (a,b,()) (0,())).bind fun c=>Sum.elim (fun d=>some (d.1,())) (fun d=>Sum.elim (fun _=>some (true,())) (fun e=>Empty.elim e) d) c)
noncomputable def m0(a:Unit)(b:Ko×Kp):Option (Ko×Kp⊕VS⊕Empty):=letI c:=b.2.2.1;letI d:=(ae e7 b.1 c).2;cond (af .lss c (ai b.1)) (cond (ah b.1 c) (lets (aC b.1 c (b.2.1,d.1,d.2.1,d.2.2.1,d.2.2.2.1,d.2.2.2.2.1,d.2.2.2.2.2)) fun e=>letI f:=(1:Int);letI g:=aa .add .i64 b.2.1 f;letI h:=(ae e7 e c).2.2;cond (ah e c) (lets (aC e c ((ae e7 e c).1,g,h.1,h.2.1,h.2.2.1,h.2.2.2.1,h.2.2.2.2)) fun i=>letI j:=ae e7 i c;letI k:=j.2.2.2;letI l:=aa .add .i64 g f;cond (ah i c) (lets (aC i c (j.1,j.2.1,l,k.1,k.2.1,k.2.2.1,k.2.2.2)) fun m=>letI n:=ae e7 m c;letI o:=n.2.2.2.2;letI p:=aa .add .i64 l f;cond (ah m c) (lets (aC m c (n.1,n.2.1,n.2.2.1,p,o.1,o.2.1,o.2.2)) fun q=>letI r:=ae e7 q c;letI s:=aa .add .i64 p f;cond (ah q c) (lets (aC q c (r.1,r.2.1,r.2.2.1,r.2.2.2.1,s,r.2.2.2.2.2.1,r.2.2.2.2.2.2)) fun t=>letI u:=ae e7 t c;letI v:=aa .add .i64 s f;cond (ah t c) (lets (aC t c (u.1,u.2.1,u.2.2.1,u.2.2.2.1,u.2.2.2.2.1,v,u.2.2.2.2.2.2)) fun w=>lets (aa .add .i64 v f) fun x=>letI y:=ae e7 w c;cond (ah w c) (lets (aC w c (y.1,y.2.1,y.2.2.1,y.2.2.2.1,y.2.2.2.2.1,y.2.2.2.2.2.1,x)) fun z=>some (.inl (z,aa .add .i64 x f,aa .add .i64 c f,()))) none) none) none) none) none) none) none) (some (.inr (.inl (b.1,b.2.1,()))))
noncomputable def nh k x:=iter (m0 k) big x
noncomputable def n4(a:Ko)(b:Int):Option (Int×Vh):=(nh () (a,b,0,())).bind fun c=>Sum.elim (fun d=>some (d.2.1,d.1,())) (fun d=>Empty.elim d) c
noncomputable def vm(a:Unit)(b:nw×Kp):Option (nw×Kp⊕Ug⊕Empty):=letI c:=b.2.2.1;cond (af .lss c (ai b.1)) (cond (ah b.1 c) (some (.inl (aC b.1 c b.2.1,aa .add .i64 b.2.1 1,aa .add .i64 c 1,()))) none) (some (.inr (.inl (b.1,b.2.1,()))))
noncomputable def vn k x:=iter (vm k) big x
noncomputable def n6(a:nw)(b:Int):Option (Int×UI):=(vn () (a,b,0,())).bind fun c=>Sum.elim (fun d=>some (d.2.1,d.1,())) (fun d=>Empty.elim d) c
noncomputable def u0(a:UI)(b:Kp):VO:=cond (af .lss b.2.1 (ai a.1)) (cond (ah a.1 b.2.1) (cond (af .neq (ae zI a.1 b.2.1) b.1) (some (.inr (.inl (-1,())))) (some (.inl (aa .add .i64 b.1 1,aa .add .i64 b.2.1 1,())))) none) (some (.inr (.inr (.inl (b.1,())))))
noncomputable def vb k x:=iter (u0 k) big x
noncomputable def n5(a:nw)(b:Int):QK:=(vb (a,()) (b,0,())).bind fun c=>Sum.elim (fun d=>some (d.1,())) (fun d=>Sum.elim (fun e=>some (e.1,())) (fun e=>Empty.elim e) d) c
noncomputable def Jv(a:UI)(b:Ug):Option (Ug⊕UI⊕Empty):=letI c:=b.2.1;cond (af .lss c (ai a.1)) (cond (ah a.1 c) (cond (ah b.1 c) (some (.inl (aC b.1 c (ae zI a.1 c),aa .add .i64 c 1,()))) none) none) (some (.inr (.inl (b.1,()))))
noncomputable def Jw k x:=iter (Jv k) big x
noncomputable def KH(a:nw):Option UI:=cond (cI (ai a)) ((Jw (a,()) (cW (ai a) (0:Int),0,())).bind fun b=>Sum.elim (fun c=>some (c.1,())) (fun c=>Empty.elim c) b) none
end Go.Fn
set_option linter.unusedVariables false
namespace Go.Fn
open Go.R
noncomputable def g8:nw:=([]:nw)
noncomputable def j0:Q4:=(0,0,0,0,0)
noncomputable def KG(a:nw)(b:Int):QK:=letI c:=aa .sub .i64 b (ai a);cond (af .lss c 0) (some (-1,())) (some (c,()))
noncomputable def Ie(a:Vi)(b:Kp):VO:=cond (af .lss b.2.1 (ai a.1)) (cond (ah a.1 b.2.1) ((KG (ae g8 a.1 b.2.1) b.1).bind fun c=>cond (af .lss c.1 0) (some (.inr (.inl (-1,())))) (some (.inl (c.1,aa .add .i64 b.2.1 1,())))) none) (some (.inr (.inr (.inl (b.1,())))))
noncomputable def Lf k x:=iter (Ie k) big x
noncomputable def LJ(a:z2)(b:Int):QK:=letI c:=aa .sub .i64 b (ai a);cond (af .lss c 0) (some (-1,())) ((Lf (a,()) (c,0,())).bind fun d=>Sum.elim (fun e=>some (e.1,())) (fun e=>Sum.elim (fun f=>some (f.1,())) (fun f=>Empty.elim f) e) d)
noncomputable def Ih(a:Vi)(b:VT):Option (VT⊕Vi⊕Empty):=letI c:=b.2.1;cond (af .lss c (ai a.1)) (cond (ah a.1 c) ((KH (ae g8 a.1 c)).bind fun d=>cond (ah b.1 c) (some (.inl (aC b.1 c d.1,aa .add .i64 c 1,()))) none) none) (some (.inr (.inl (b.1,()))))
noncomputable def Ii k x:=iter (Ih k) big x
noncomputable def LK(a:z2):Option Vi:=cond (cI (ai a)) ((Ii (a,()) (cW (ai a) ([]:nw),0,())).bind fun b=>Sum.elim (fun c=>some (c.1,())) (fun c=>Empty.elim c) b) none
noncomputable def Lj(a:Xw)(b:DM):Pj:=letI c:=a.2.2;letI d:=ae g8 c.1 c.2.2.1;cond (af .lss b.1 (ai c.1)) (cond (ah c.1 c.2.2.1) (cond (ah d b.1) ((bt (ae zI d b.1) 0 200).bind fun e=>cond (Bool.not e.1) (some (.inr (.inl (false,())))) (some (.inl (aa .add .i64 b.1 1,())))) none) none) (some (.inr (.inr (.inl ()))))
noncomputable def Lm k x:=iter (Lj k) big x
noncomputable def Li(a:Int×Xx)(b:DM):Pj:=letI c:=a.2.2.1;cond (af .lss b.1 (ai c)) (cond (ah c b.1) (cond (af .neq (ai (ae g8 c b.1)) (ai c)) (some (.inr (.inl (false,())))) ((Lm (a.1,a.2.1,c,a.2.2.2.1,b.1,()) (0,())).bind fun d=>Sum.elim (fun e=>some (.inr (.inl (e.1,())))) (fun e=>Sum.elim (fun _=>some (.inl (aa .add .i64 b.1 1,()))) (fun f=>Empty.elim f) e) d)) none) (some (.inr (.inr (.inl ()))))
noncomputable def Ll k x:=iter (Li k) big x
noncomputable def Lk(a:Int×Xx)(b:DM):Pj:=letI c:=a.2.2.2.1;letI d:=ae j0 c b.1;cond (af .lss b.1 (ai c)) (cond (ah c b.1) ((bt d.2.1 0 20000).bind fun e=>letI f:=(false,());cond (Bool.not e.1) (some (.inr (.inl f))) ((bt d.1 0 d.2.1).bind fun g=>cond (Bool.not g.1) (some (.inr (.inl f))) ((bt d.2.2.1 0 200).bind fun h=>cond (Bool.not h.1) (some (.inr (.inl f))) ((bt d.2.2.2.1 0 1000).bind fun i=>cond (Bool.not i.1) (some (.inr (.inl f))) ((bt d.2.2.2.2 0 1000).bind fun j=>cond (Bool.not j.1) (some (.inr (.inl f))) (some (.inl (aa .add .i64 b.1 1,())))))))) none) (some (.inr (.inr (.inl ()))))
noncomputable def Ln k x:=iter (Lk k) big x
noncomputable def LO(a b:Int)(c:z2)(d:Ir):mo:=(bt a 0 20000).bind fun e=>letI f:=some (false,());cond (Bool.not e.1) f ((bt b 0 1000).bind fun g=>letI h:=(a,b,c,d,());cond (Bool.not g.1) f (cond (af .gtr (ai d) 6) f (cond (af .neq (ai c) (aa .add .i64 (ai d) 1)) f ((Ll h (0,())).bind fun i=>Sum.elim (fun j=>some (j.1,())) (fun j=>Sum.elim (fun _=>(Ln h (0,())).bind fun k=>Sum.elim (fun l=>some (l.1,())) (fun l=>Sum.elim (fun _=>some (true,())) (fun m=>Empty.elim m) l) k) (fun k=>Empty.elim k) j) i))))
noncomputable def Mm(a:Int):mo:=(bu a 0 200).bind fun b=>some (Bool.not b.1,())
noncomputable def ek(a:Ug)(b:DM):XL:=cond (af .lss b.1 a.2.1) (cond (ah a.1 b.1) ((Mm (ae zI a.1 b.1)).bind fun c=>cond c.1 (some (.inr (.inl (b.1,())))) (some (.inl (aa .add .i64 b.1 1,())))) none) (some (.inr (.inr (.inl ()))))
noncomputable def e5 k x:=iter (ek k) big x
noncomputable def ga(a:nw):QK:=(e5 (a,ai a,()) (0,())).bind fun b=>Sum.elim (fun c=>some (c.1,())) (fun c=>Sum.elim (fun _=>some (-1,())) (fun d=>Empty.elim d) c) b
noncomputable def ej(a:nw):mo:=(ga a).bind fun b=>some (af .geq b.1 0,())
noncomputable def KT(a:Int×Int×z2×Ir×VT)(b:DM):Pj:=letI c:=a.2.2.2.2;letI d:=ae g8 c.1 b.1;cond (af .lss b.1 c.2.1) (cond (ah c.1 b.1) (cond (af .neq (ai d) (ai a.2.2.1)) (some (.inr (.inl (false,())))) ((ej d).bind fun e=>cond e.1 (some (.inr (.inl (false,())))) (some (.inl (aa .add .i64 b.1 1,()))))) none) (some (.inr (.inr (.inl ()))))
noncomputable def KV k x:=iter (KT k) big x
noncomputable def KU(a:Ir×DM)(b:DM):Pj:=letI c:=ae j0 a.1 b.1;cond (af .lss b.1 a.2.1) (cond (ah a.1 b.1) ((gg c.1).bind fun d=>letI e:=(false,());cond (Bool.not d.1) (some (.inr (.inl e))) ((gg c.2.1).bind fun f=>cond (Bool.not f.1) (some (.inr (.inl e))) (cond (af .gtr c.1 c.2.1) (some (.inr (.inl e))) ((bu c.2.2.1 0 200).bind fun g=>cond (Bool.not g.1) (some (.inr (.inl e))) ((bu c.2.2.2.1 0 1000).bind fun h=>cond (Bool.not h.1) (some (.inr (.inl e))) ((bu c.2.2.2.2 0 1000).bind fun i=>cond (Bool.not i.1) (some (.inr (.inl e))) (some (.inl (aa .add .i64 b.1 1,()))))))))) none) (some (.inr (.inr (.inl ()))))
noncomputable def KW k x:=iter (KU k) big x
noncomputable def LB(a b:Int)(c:z2)(d:Ir):mo:=(gg a).bind fun e=>letI f:=some (false,());cond (Bool.not e.1) f ((bu b 0 1000).bind fun g=>cond (Bool.not g.1) f (cond (af .gtr (ai d) 6) f (cond (af .neq (ai c) (aa .add .i64 (ai d) 1)) f ((KV (a,b,c,d,c,ai c,()) (0,())).bind fun h=>Sum.elim (fun i=>some (i.1,())) (fun i=>Sum.elim (fun _=>(KW (d,ai d,()) (0,())).bind fun j=>Sum.elim (fun k=>some (k.1,())) (fun k=>Sum.elim (fun _=>some (true,())) (fun l=>Empty.elim l) k) j) (fun j=>Empty.elim j) i) h))))
noncomputable def K7(a:z2×Vi)(b:DM):Pj:=cond (af .lss b.1 (ai a.1)) (cond (ah a.1 b.1) (cond (ah a.2.1 b.1) ((rp (ae g8 a.1 b.1) (ae g8 a.2.1 b.1)).bind fun c=>cond (Bool.not c.1) (some (.inr (.inl (false,())))) (some (.inl (aa .add .i64 b.1 1,())))) none) none) (some (.inr (.inr (.inl ()))))
noncomputable def K8 k x:=iter (K7 k) big x
noncomputable def I0(a b:z2):mo:=cond (af .neq (ai a) (ai b)) (some (false,())) ((K8 (a,b,()) (0,())).bind fun c=>Sum.elim (fun d=>some (d.1,())) (fun d=>Sum.elim (fun _=>some (true,())) (fun e=>Empty.elim e) d) c)
noncomputable def Nh(a b c d e f g h i j:Int):mo:=letI k:=some (false,());cond (af .neq a f) k (cond (af .neq b g) k (cond (af .neq c h) k (cond (af .neq d i) k (cond (af .neq e j) k (some (true,()))))))
noncomputable def Ld(a:Ir×Ir×Unit)(b:DM):Pj:=letI c:=ae j0 a.1 b.1;letI d:=ae j0 a.2.1 b.1;cond (af .lss b.1 (ai a.1)) (cond (ah a.1 b.1) (cond (ah a.2.1 b.1) ((Nh c.1 c.2.1 c.2.2.1 c.2.2.2.1 c.2.2.2.2 d.1 d.2.1 d.2.2.1 d.2.2.2.1 d.2.2.2.2).bind fun e=>cond (Bool.not e.1) (some (.inr (.inl (false,())))) (some (.inl (aa .add .i64 b.1 1,())))) none) none) (some (.inr (.inr (.inl ()))))
noncomputable def Le k x:=iter (Ld k) big x
noncomputable def LH(a b:Ir):mo:=cond (af .neq (ai a) (ai b)) (some (false,())) ((Le (a,b,()) (0,())).bind fun c=>Sum.elim (fun d=>some (d.1,())) (fun d=>Sum.elim (fun _=>some (true,())) (fun e=>Empty.elim e) d) c)
noncomputable def I5(a b:Int)(c:z2)(d:Ir)(e f:Int)(g:z2)(h:Ir):mo:=letI i:=some (false,());cond (af .neq a e) i (cond (af .neq b f) i ((I0 c g).bind fun j=>cond (Bool.not j.1) i ((LH d h).bind fun k=>cond (Bool.not k.1) i (some (true,())))))
end Go.Fn
set_option linter.unusedVariables false
namespace Go.Fn
open Go.R
noncomputable def MC:Int×Int:=(0,0)
noncomputable def Jq(a:Lz)(b:Int):QK:=letI c:=aa .sub .i64 b (ai a);cond (af .lss c 0) (some (-1,())) (some (c,()))
noncomputable def Nk(a b:Lz)(c:Int):QK:=(Jq a c).bind fun d=>letI e:=some ((-1:Int),());cond (af .lss d.1 0) e ((Jq b d.1).bind fun f=>cond (af .lss f.1 0) e (some (f.1,())))
noncomputable def Oz(a b:Int):Option Kp:=some (a,b,())
noncomputable def Ik(a:Vj)(b:Vw):Option (Vw⊕Vj⊕Empty):=letI c:=b.2.1;cond (af .lss c (ai a.1)) (cond (ah a.1 c) ((Oz (ae MC a.1 c).1 (ae MC a.1 c).2).bind fun d=>cond (ah b.1 c) (some (.inl (aC b.1 c (d.1,d.2.1),aa .add .i64 c 1,()))) none) none) (some (.inr (.inl (b.1,()))))
noncomputable def Il k x:=iter (Ik k) big x
noncomputable def Jz(a:Lz):Option Vj:=cond (cI (ai a)) ((Il (a,()) (cW (ai a) ((0:Int),(0:Int)),0,())).bind fun b=>Sum.elim (fun c=>some (c.1,())) (fun c=>Empty.elim c) b) none
noncomputable def Nm(a b:Lz):Option (Lz×Vj):=(Jz a).bind fun c=>(Jz b).bind fun d=>some (c.1,d.1,())
noncomputable def N3(a b c d e f g h:Int):Option (Int×XO):=some (a,b,c,d,e,f,g,h,())
noncomputable def Lo(a:Vw)(b:DM):Pj:=letI c:=(false,());letI d:=ae MC a.1 b.1;letI e:=aa .sub .i64 b.1 1;letI f:=(aa .add .i64 b.1 1,());cond (af .lss b.1 (ai a.1)) (cond (ah a.1 b.1) (cond (af .lss d.1 0) (some (.inr (.inl c))) (cond (af .geq d.1 d.2) (some (.inr (.inl c))) (cond (af .gtr d.2 a.2.1) (some (.inr (.inl c))) (cond (af .gtr b.1 0) (cond (ah a.1 e) (cond (af .leq d.1 (ae MC a.1 e).2) (some (.inr (.inl c))) (some (.inl f))) none) (some (.inl f)))))) none) (some (.inr (.inr (.inl ()))))
noncomputable def Lp k x:=iter (Lo k) big x
noncomputable def JI(a:Lz)(b:Int):mo:=cond (af .gtr (ai a) 20) (some (false,())) ((Lp (a,b,()) (0,())).bind fun c=>Sum.elim (fun d=>some (d.1,())) (fun d=>Sum.elim (fun _=>some (true,())) (fun e=>Empty.elim e) d) c)
noncomputable def sS(a b:Lz):mo:=(JI a 168).bind fun c=>cond c.1 ((JI b 20000).bind fun d=>some (d.1,())) (some (false,()))
noncomputable def JJ(a b c d e f g h:Int):mo:=letI i:=(2000:Int);(bt a 1 i).bind fun j=>letI k:=some (false,());cond j.1 ((bt c 1 i).bind fun l=>cond l.1 ((bt f 1 i).bind fun m=>cond m.1 ((bt b 0 i).bind fun n=>cond n.1 ((bt d 0 10000).bind fun o=>cond o.1 ((bt e 0 1000000).bind fun p=>cond p.1 ((bt g 0 100000).bind fun q=>cond q.1 ((bt h 0 20).bind fun r=>some (r.1,())) k) k) k) k) k) k) k
noncomputable def JL(a:Vw)(b:DM):Pj:=letI c:=ae MC a.1 b.1;letI d:=(aa .add .i64 b.1 1,());cond (af .lss b.1 (ai a.1)) (cond (ah a.1 b.1) (cond (af .leq c.1 a.2.1) (cond (ah a.1 b.1) (cond (af .lss a.2.1 c.2) (some (.inr (.inl (true,())))) (some (.inl d))) none) (some (.inl d))) none) (some (.inr (.inr (.inl ()))))
noncomputable def JM k x:=iter (JL k) big x
noncomputable def s3(a:Lz)(b:Int):mo:=(JM (a,b,()) (0,())).bind fun c=>Sum.elim (fun d=>some (d.1,())) (fun d=>Sum.elim (fun _=>some (false,())) (fun e=>Empty.elim e) d) c
noncomputable def JK(a b:Lz)(c:Int):mo:=cond (ax 168) none ((s3 a (aa .rem .i64 c 168)).bind fun d=>cond d.1 ((s3 b c).bind fun e=>some (Bool.not e.1,())) (some (false,())))
noncomputable def KX(a:Lz×Int×Vw)(b:DM):Pj:=letI c:=(false,());letI d:=aa .sub .i64 b.1 1;letI e:=ae MC a.2.2.1 b.1;letI f:=(aa .add .i64 b.1 1,());cond (af .lss b.1 a.2.2.2.1) (cond (ah a.2.2.1 b.1) (cond (af .lss e.1 0) (some (.inr (.inl c))) (cond (af .geq e.1 e.2) (some (.inr (.inl c))) (cond (af .gtr e.2 a.2.1) (some (.inr (.inl c))) (cond (af .gtr b.1 0) (cond (ah a.1 d) (cond (af .leq e.1 (ae MC a.1 d).2) (some (.inr (.inl c))) (some (.inl f))) none) (some (.inl f)))))) none) (some (.inr (.inr (.inl ()))))
noncomputable def KY k x:=iter (KX k) big x
noncomputable def IU(a:Lz)(b:Int):mo:=cond (af .gtr (ai a) 20) (some (false,())) ((KY (a,b,a,ai a,()) (0,())).bind fun c=>Sum.elim (fun d=>some (d.1,())) (fun d=>Sum.elim (fun _=>some (true,())) (fun e=>Empty.elim e) d) c)
noncomputable def mu(a b:Lz):mo:=(IU a 168).bind fun c=>cond c.1 ((IU b 20000).bind fun d=>some (d.1,())) (some (false,()))
noncomputable def IV(a b c d e f g h:Int):mo:=letI i:=(2000:Int);(bu a 1 i).bind fun j=>letI k:=some (false,());cond j.1 ((bu c 1 i).bind fun l=>cond l.1 ((bu f 1 i).bind fun m=>cond m.1 ((bu b 0 i).bind fun n=>cond n.1 ((bu d 0 10000).bind fun o=>cond o.1 ((bu e 0 1000000).bind fun p=>cond p.1 ((bu g 0 100000).bind fun q=>cond q.1 ((bu h 0 20).bind fun r=>some (r.1,())) k) k) k) k) k) k) k
noncomputable def K5(a:Int×Vw)(b:DM):Pj:=letI c:=ae MC a.2.1 b.1;letI d:=(aa .add .i64 b.1 1,());cond (af .lss b.1 a.2.2.1) (cond (ah a.2.1 b.1) (cond (af .geq a.1 c.1) (cond (af .lss a.1 c.2) (some (.inr (.inl (true,())))) (some (.inl d))) (some (.inl d))) none) (some (.inr (.inr (.inl ()))))
noncomputable def K6 k x:=iter (K5 k) big x
noncomputable def IW(a:Lz)(b:Int):mo:=(K6 (b,a,ai a,()) (0,())).bind fun c=>Sum.elim (fun d=>some (d.1,())) (fun d=>Sum.elim (fun _=>some (false,())) (fun e=>Empty.elim e) d) c
noncomputable def KF(a b:Lz)(c:Int):mo:=cond (ax 168) none ((IW a (aa .rem .i64 c 168)).bind fun d=>cond d.1 ((IW b c).bind fun e=>some (Bool.not e.1,())) (some (false,())))
noncomputable def Ng(a b c d:Int):mo:=letI e:=some (false,());cond (af .neq a c) e (cond (af .neq b d) e (some (true,())))
noncomputable def Lb(a:Lz×Vj)(b:DM):Pj:=letI c:=ae MC a.1 b.1;letI d:=ae MC a.2.1 b.1;cond (af .lss b.1 (ai a.1)) (cond (ah a.1 b.1) (cond (ah a.2.1 b.1) ((Ng c.1 c.2 d.1 d.2).bind fun e=>cond (Bool.not e.1) (some (.inr (.inl (false,())))) (some (.inl (aa .add .i64 b.1 1,())))) none) none) (some (.inr (.inr (.inl ()))))
noncomputable def Lc k x:=iter (Lb k) big x
noncomputable def I6(a b:Lz):mo:=cond (af .neq (ai a) (ai b)) (some (false,())) ((Lc (a,b,()) (0,())).bind fun c=>Sum.elim (fun d=>some (d.1,())) (fun d=>Sum.elim (fun _=>some (true,())) (fun e=>Empty.elim e) d) c)
noncomputable def Ni(a b c d:Lz):mo:=(I6 a c).bind fun e=>letI f:=some (false,());cond (Bool.not e.1) f ((I6 b d).bind fun g=>cond (Bool.not g.1) f (some (true,())))
end Go.Fn
set_option linter.unusedVariables false
namespace Go.Fn
open Go.R
noncomputable def LI(a b c d e f g h i j k l m n o p:Int):mo:=letI q:=some (false,());cond (af .neq a i) q (cond (af .neq b j) q (cond (af .neq c k) q (cond (af .neq d l) q (cond (af .neq e m) q (cond (af .neq f n) q (cond (af .neq g o) q (cond (af .neq h p) q (some (true,())))))))))
end Go.Fn
set_option linter.unusedVariables false
namespace Go.Fn
open Go.R
noncomputable def aS:Z3:=(([]:Lz),([]:Lz),([]:QY),0,0,false,false,false,0,0,([]:Ko))
noncomputable def bf:Z6:=letI a:=(0:Int);(a,a,a,a,a,a,a,a,a,a,a,a,a)
noncomputable def cx:Int×Int×Int×Xy:=(0,0,0,0,0,0,false)
noncomputable def cn:Int×nw×QX:=(0,([]:nw),([]:QX))
noncomputable def hU:Xy:=(0,0,0,false)
noncomputable def Nj(a:QX)(b:Int):QK:=letI c:=aa .sub .i64 b (ai a);cond (af .lss c 0) (some (-1,())) (some (c,()))
noncomputable def jn(a:Int)(b:nw)(c:QX)(d:Int):QK:=(KG b d).bind fun e=>letI f:=some ((-1:Int),());cond (af .lss e.1 0) f ((Nj c e.1).bind fun g=>cond (af .lss g.1 0) f (some (g.1,())))
noncomputable def gy(a:Vu)(b:Kp):VO:=letI c:=ae cn a.1 b.2.1;cond (af .lss b.2.1 (ai a.1)) (cond (ah a.1 b.2.1) ((jn c.1 c.2.1 c.2.2 b.1).bind fun d=>cond (af .lss d.1 0) (some (.inr (.inl (-1,())))) (some (.inl (d.1,aa .add .i64 b.2.1 1,())))) none) (some (.inr (.inr (.inl (b.1,())))))
noncomputable def qe k x:=iter (gy k) big x
noncomputable def kB(a:QY)(b:Int):QK:=letI c:=aa .sub .i64 b (ai a);cond (af .lss c 0) (some (-1,())) ((qe (a,()) (c,0,())).bind fun d=>Sum.elim (fun e=>some (e.1,())) (fun e=>Sum.elim (fun f=>some (f.1,())) (fun f=>Empty.elim f) e) d)
noncomputable def IE(a b:Lz)(c:QY)(d e:Int)(f g h:Bool)(i j:Int)(k:Ko)(l:Int):QK:=(Nk a b l).bind fun m=>letI n:=some ((-1:Int),());cond (af .lss m.1 0) n ((kB c m.1).bind fun o=>cond (af .lss o.1 0) n ((H6 k o.1).bind fun p=>cond (af .lss p.1 0) n (some (p.1,()))))
noncomputable def gA(a:VQ)(b:Kp):VO:=letI c:=ae aS a.1 b.2.1;letI d:=c.2;letI e:=d.2.2.2.2.2;cond (af .lss b.2.1 (ai a.1)) (cond (ah a.1 b.2.1) ((IE c.1 d.1 d.2.1 d.2.2.1 d.2.2.2.1 d.2.2.2.2.1 e.1 e.2.1 e.2.2.1 e.2.2.2.1 e.2.2.2.2 b.1).bind fun f=>cond (af .lss f.1 0) (some (.inr (.inl (-1,())))) (some (.inl (f.1,aa .add .i64 b.2.1 1,())))) none) (some (.inr (.inr (.inl (b.1,())))))
noncomputable def Ig k x:=iter (gA k) big x
noncomputable def i4(a:KQ)(b:Int):QK:=letI c:=aa .sub .i64 b (ai a);cond (af .lss c 0) (some (-1,())) ((Ig (a,()) (c,0,())).bind fun d=>Sum.elim (fun e=>some (e.1,())) (fun e=>Sum.elim (fun f=>some (f.1,())) (fun f=>Empty.elim f) e) d)
noncomputable def Jp(a:M3)(b:Int):QK:=letI c:=aa .sub .i64 b (ai a);cond (af .lss c 0) (some (-1,())) (some (c,()))
noncomputable def Kv(a:KR)(b:Int):QK:=letI c:=aa .sub .i64 b (ai a);cond (af .lss c 0) (some (-1,())) (some (c,()))
noncomputable def kW(a b c d e f g h i j k:Int)(l:KQ)(m:M3)(n:KR)(o:Ko)(p:Int):QK:=(i4 l p).bind fun q=>letI r:=some ((-1:Int),());cond (af .lss q.1 0) r ((Jp m q.1).bind fun s=>cond (af .lss s.1 0) r ((Kv n s.1).bind fun t=>cond (af .lss t.1 0) r ((H6 o t.1).bind fun u=>cond (af .lss u.1 0) r (some (u.1,())))))
noncomputable def Pk(a b c:Int)(d:Bool):Option XM:=some (a,b,c,d,())
noncomputable def Jr(a:Vt)(b:Vx):Option (Vx⊕Vt⊕Empty):=letI c:=b.2.1;letI d:=ae hU a.1 c;cond (af .lss c (ai a.1)) (cond (ah a.1 c) ((Pk d.1 d.2.1 d.2.2.1 d.2.2.2).bind fun e=>cond (ah b.1 c) (some (.inl (aC b.1 c (e.1,e.2.1,e.2.2.1,e.2.2.2.1),aa .add .i64 c 1,()))) none) none) (some (.inr (.inl (b.1,()))))
noncomputable def Js k x:=iter (Jr k) big x
noncomputable def Nl(a:QX):Option Vt:=cond (cI (ai a)) ((Js (a,()) (cW (ai a) ((0:Int),(0:Int),(0:Int),false),0,())).bind fun b=>Sum.elim (fun c=>some (c.1,())) (fun c=>Empty.elim c) b) none
noncomputable def H7(a:Int)(b:nw)(c:QX):Option XB:=(KH b).bind fun d=>(Nl c).bind fun e=>some (a,d.1,e.1,())
noncomputable def qk(a:Vu)(b:VU):Option (VU⊕Vu⊕Empty):=letI c:=b.2.1;letI d:=ae cn a.1 c;cond (af .lss c (ai a.1)) (cond (ah a.1 c) ((H7 d.1 d.2.1 d.2.2).bind fun e=>cond (ah b.1 c) (some (.inl (aC b.1 c (e.1,e.2.1,e.2.2.1),aa .add .i64 c 1,()))) none) none) (some (.inr (.inl (b.1,()))))
noncomputable def Ju k x:=iter (qk k) big x
noncomputable def Jt(a:QY):Option Vu:=cond (cI (ai a)) ((Ju (a,()) (cW (ai a) ((0:Int),([]:nw),([]:QX)),0,())).bind fun b=>Sum.elim (fun c=>some (c.1,())) (fun c=>Empty.elim c) b) none
noncomputable def Oy(a b:Int)(c d e:Bool):Option (Int×Int×Bool×Bool×Tv):=some (a,b,c,d,e,())
noncomputable def KI(a b:Lz)(c:QY)(d e:Int)(f g h:Bool)(i j:Int)(k:Ko):Option (Lz×Lz×QY×Int×Int×Bool×Bool×Bool×Int×Int×Vh):=(Nm a b).bind fun l=>(Jt c).bind fun m=>(Oy d e f g h).bind fun n=>(H8 k).bind fun o=>some (l.1,l.2.1,m.1,n.1,n.2.1,n.2.2.1,n.2.2.2.1,n.2.2.2.2.1,i,j,o.1,())
noncomputable def Ij(a:VQ)(b:KQ×DM):Option (KQ×DM⊕VQ⊕Empty):=letI c:=b.2.1;letI d:=(ae aS a.1 c).2;letI e:=d.2.2.2.2.2;cond (af .lss c (ai a.1)) (cond (ah a.1 c) ((KI (ae aS a.1 c).1 d.1 d.2.1 d.2.2.1 d.2.2.2.1 d.2.2.2.2.1 e.1 e.2.1 e.2.2.1 e.2.2.2.1 e.2.2.2.2).bind fun f=>letI g:=f.2.2.2.2.2;cond (ah b.1 c) (lets (aC b.1 c (f.1,f.2.1,f.2.2.1,f.2.2.2.1,f.2.2.2.2.1,g.1,g.2.1,g.2.2.1,g.2.2.2.1,g.2.2.2.2.1,g.2.2.2.2.2.1)) fun h=>some (.inl (h,aa .add .i64 c 1,()))) none) none) (some (.inr (.inl (b.1,()))))
noncomputable def Lg k x:=iter (Ij k) big x
noncomputable def LL(a:KQ):Option VQ:=cond (cI (ai a)) ((Lg (a,()) (cW (ai a) (([]:Lz),([]:Lz),([]:QY),(0:Int),(0:Int),false,false,false,(0:Int),(0:Int),([]:Ko)),0,())).bind fun b=>Sum.elim (fun c=>some (c.1,())) (fun c=>Empty.elim c) b) none
noncomputable def QO(a b c d e:Int):Option XK:=some (a,b,c,d,e,())
noncomputable def Nu(a b c d e f g h i j k l m:Int):Option (Int×Int×Int×Int×Int×Int×XO):=(QO g h i j k).bind fun n=>some (a,b,c,d,e,f,n.1,n.2.1,n.2.2.1,n.2.2.2.1,n.2.2.2.2.1,l,m,())
noncomputable def qx(a:WQ)(b:VV):Option (VV⊕WQ⊕Empty):=letI c:=b.2.1;letI d:=ae bf a.1 c;letI e:=d.2.2;letI f:=e.2.2.2.2.2;cond (af .lss c (ai a.1)) (cond (ah a.1 c) ((Nu d.1 d.2.1 e.1 e.2.1 e.2.2.1 e.2.2.2.1 e.2.2.2.2.1 f.1 f.2.1 f.2.2.1 f.2.2.2.1 f.2.2.2.2.1 f.2.2.2.2.2).bind fun g=>letI h:=g.2.2.2;letI i:=h.2.2.2;letI j:=i.2.2.2;cond (ah b.1 c) (lets (aC b.1 c (g.1,g.2.1,g.2.2.1,h.1,h.2.1,h.2.2.1,i.1,i.2.1,i.2.2.1,j.1,j.2.1,j.2.2.1,j.2.2.2.1)) fun k=>some (.inl (k,aa .add .i64 c 1,()))) none) none) (some (.inr (.inl (b.1,()))))
noncomputable def qB k x:=iter (qx k) big x
noncomputable def Jy(a:M3):Option WQ:=letI b:=(0:Int);cond (cI (ai a)) ((qB (a,()) (cW (ai a) (b,b,b,b,b,b,b,b,b,b,b,b,b),b,())).bind fun c=>Sum.elim (fun d=>some (d.1,())) (fun d=>Empty.elim d) c) none
noncomputable def N2(a b c d e f:Int)(g:Bool):Option (Int×Int×Int×XM):=some (a,b,c,d,e,f,g,())
noncomputable def xh(a:VR)(b:KR×DM):Option (KR×DM⊕VR⊕Empty):=letI c:=b.2.1;letI d:=ae cx a.1 c;letI e:=d.2.2.2;cond (af .lss c (ai a.1)) (cond (ah a.1 c) ((N2 d.1 d.2.1 d.2.2.1 e.1 e.2.1 e.2.2.1 e.2.2.2).bind fun f=>letI g:=f.2.2.2;cond (ah b.1 c) (some (.inl (aC b.1 c (f.1,f.2.1,f.2.2.1,g.1,g.2.1,g.2.2.1,g.2.2.2.1),aa .add .i64 c 1,()))) none) none) (some (.inr (.inl (b.1,()))))
noncomputable def xl k x:=iter (xh k) big x
noncomputable def Kw(a:KR):Option VR:=cond (cI (ai a)) ((xl (a,()) (cW (ai a) ((0:Int),(0:Int),(0:Int),(0:Int),(0:Int),(0:Int),false),0,())).bind fun b=>Sum.elim (fun c=>some (c.1,())) (fun c=>Empty.elim c) b) none
noncomputable def Jx(a b c d e f g h i j k:Int)(l:KQ)(m:M3)(n:KR)(o:Ko):Option UE:=(N3 a b c d e f g h).bind fun p=>(LL l).bind fun q=>(Jy m).bind fun r=>(Kw n).bind fun s=>(H8 o).bind fun t=>letI u:=p.2.2.2.2;some (p.1,p.2.1,p.2.2.1,p.2.2.2.1,u.1,u.2.1,u.2.2.1,u.2.2.2.1,i,j,k,q.1,r.1,s.1,t.1,())
noncomputable def ii(a:Int):mo:=(bt a 1 2147483646).bind fun b=>some (b.1,())
noncomputable def Ia(a b c d e f g h i j k:Int)(l:KQ)(m:M3)(n:KR)(o:Ko)(p:Int):QK:=(ii j).bind fun q=>letI r:=some ((0:Int),());cond (Bool.not q.1) r ((bt p 1 12).bind fun s=>cond (Bool.not s.1) r (cond (ax 2147483646) none (some (aa .add .i64 (aa .rem .i64 (aa .add .i64 j (aa .mul .i64 7919 p)) 2147483646) 1,()))))
noncomputable def hD(a:Int):mo:=(bu a 1 2147483646).bind fun b=>some (b.1,())
noncomputable def FI(a b c d e f g h i j k:Int)(l:KQ)(m:M3)(n:KR)(o:Ko)(p:Int):QK:=(hD j).bind fun q=>letI r:=some ((0:Int),());cond (Bool.not q.1) r ((bu p 1 12).bind fun s=>cond (Bool.not s.1) r (cond (ax 2147483646) none (some (aa .add .i64 (aa .rem .i64 (aa .add .i64 j (aa .mul .i64 7919 p)) 2147483646) 1,()))))
noncomputable def N0(a b c:Int)(d:Bool)(e f g:Int)(h:Bool):mo:=letI i:=some (false,());cond (af .neq a e) i (cond (af .neq b f) i (cond (af .neq c g) i (cond (Bool.not (bQ d h)) i (some (true,())))))
noncomputable def Mo(a:QX×Vt)(b:DM):Pj:=letI c:=ae hU a.1 b.1;letI d:=ae hU a.2.1 b.1;cond (af .lss b.1 (ai a.1)) (cond (ah a.1 b.1) (cond (ah a.2.1 b.1) ((N0 c.1 c.2.1 c.2.2.1 c.2.2.2 d.1 d.2.1 d.2.2.1 d.2.2.2).bind fun e=>cond (Bool.not e.1) (some (.inr (.inl (false,())))) (some (.inl (aa .add .i64 b.1 1,())))) none) none) (some (.inr (.inr (.inl ()))))
noncomputable def Mp k x:=iter (Mo k) big x
noncomputable def Nb(a b:QX):mo:=cond (af .neq (ai a) (ai b)) (some (false,())) ((Mp (a,b,()) (0,())).bind fun c=>Sum.elim (fun d=>some (d.1,())) (fun d=>Sum.elim (fun _=>some (true,())) (fun e=>Empty.elim e) d) c)
noncomputable def HY(a:Int)(b:nw)(c:QX)(d:Int)(e:nw)(f:QX):mo:=letI g:=some (false,());cond (af .neq a d) g ((rp b e).bind fun h=>cond (Bool.not h.1) g ((Nb c f).bind fun i=>cond (Bool.not i.1) g (some (true,()))))
noncomputable def IY(a:QY×Vu)(b:DM):Pj:=letI c:=ae cn a.1 b.1;letI d:=ae cn a.2.1 b.1;cond (af .lss b.1 (ai a.1)) (cond (ah a.1 b.1) (cond (ah a.2.1 b.1) ((HY c.1 c.2.1 c.2.2 d.1 d.2.1 d.2.2).bind fun e=>cond (Bool.not e.1) (some (.inr (.inl (false,())))) (some (.inl (aa .add .i64 b.1 1,())))) none) none) (some (.inr (.inr (.inl ()))))
noncomputable def IZ k x:=iter (IY k) big x
noncomputable def IX(a b:QY):mo:=cond (af .neq (ai a) (ai b)) (some (false,())) ((IZ (a,b,()) (0,())).bind fun c=>Sum.elim (fun d=>some (d.1,())) (fun d=>Sum.elim (fun _=>some (true,())) (fun e=>Empty.elim e) d) c)
noncomputable def Nc(a b:Int)(c d e:Bool)(f g:Int)(h i j:Bool):mo:=letI k:=some (false,());cond (af .neq a f) k (cond (af .neq b g) k (cond (Bool.not (bQ c h)) k (cond (Bool.not (bQ d i)) k (cond (Bool.not (bQ e j)) k (some (true,()))))))
noncomputable def Nf(a b:Lz)(c:QY)(d e:Int)(f g h:Bool)(i j:Int)(k:Ko)(l m:Lz)(n:QY)(o p:Int)(q r s:Bool)(t u:Int)(v:Ko):mo:=(Ni a b l m).bind fun w=>letI x:=some (false,());cond (Bool.not w.1) x ((IX c n).bind fun y=>cond (Bool.not y.1) x ((Nc d e f g h o p q r s).bind fun z=>cond (Bool.not z.1) x (cond (af .neq i t) x (cond (af .neq j u) x ((HZ k v).bind fun A=>cond (Bool.not A.1) x (some (true,())))))))
noncomputable def K9(a:KQ×VQ)(b:DM):Pj:=letI c:=ae aS a.1 b.1;letI d:=ae aS a.2.1 b.1;letI e:=d.2;letI f:=c.2.2;letI g:=f.2.2.2.2;letI h:=e.2.2.2.2.2;cond (af .lss b.1 (ai a.1)) (cond (ah a.1 b.1) (cond (ah a.2.1 b.1) ((Nf c.1 c.2.1 f.1 f.2.1 f.2.2.1 f.2.2.2.1 g.1 g.2.1 g.2.2.1 g.2.2.2.1 g.2.2.2.2 d.1 e.1 e.2.1 e.2.2.1 e.2.2.2.1 e.2.2.2.2.1 h.1 h.2.1 h.2.2.1 h.2.2.2.1 h.2.2.2.2).bind fun i=>cond (Bool.not i.1) (some (.inr (.inl (false,())))) (some (.inl (aa .add .i64 b.1 1,())))) none) none) (some (.inr (.inr (.inl ()))))
noncomputable def La k x:=iter (K9 k) big x
noncomputable def LG(a b:KQ):mo:=cond (af .neq (ai a) (ai b)) (some (false,())) ((La (a,b,()) (0,())).bind fun c=>Sum.elim (fun d=>some (d.1,())) (fun d=>Sum.elim (fun _=>some (true,())) (fun e=>Empty.elim e) d) c)
noncomputable def Nd(a b c d e f g h i j:Int):mo:=letI k:=some (false,());cond (af .neq a f) k (cond (af .neq b g) k (cond (af .neq c h) k (cond (af .neq d i) k (cond (af .neq e j) k (some (true,()))))))
noncomputable def Kt(a b c d e f g h i j k l m n o p q r s t u v w x y z:Int):mo:=letI A:=some (false,());cond (af .neq a n) A (cond (af .neq b o) A (cond (af .neq c p) A (cond (af .neq d q) A (cond (af .neq e r) A (cond (af .neq f s) A ((Nd g h i j k t u v w x).bind fun B=>cond (Bool.not B.1) A (cond (af .neq l y) A (cond (af .neq m z) A (some (true,()))))))))))
noncomputable def I3(a:M3×WQ)(b:DM):Pj:=letI c:=ae bf a.1 b.1;letI d:=ae bf a.2.1 b.1;letI e:=d.2.2;letI f:=c.2.2.2;letI g:=e.2.2.2.2.2;letI h:=f.2.2.2.2.2;cond (af .lss b.1 (ai a.1)) (cond (ah a.1 b.1) (cond (ah a.2.1 b.1) ((Kt c.1 c.2.1 c.2.2.1 f.1 f.2.1 f.2.2.1 f.2.2.2.1 f.2.2.2.2.1 h.1 h.2.1 h.2.2.1 h.2.2.2.1 h.2.2.2.2 d.1 d.2.1 e.1 e.2.1 e.2.2.1 e.2.2.2.1 e.2.2.2.2.1 g.1 g.2.1 g.2.2.1 g.2.2.2.1 g.2.2.2.2.1 g.2.2.2.2.2).bind fun i=>cond (Bool.not i.1) (some (.inr (.inl (false,())))) (some (.inl (aa .add .i64 b.1 1,())))) none) none) (some (.inr (.inr (.inl ()))))
noncomputable def I4 k x:=iter (I3 k) big x
noncomputable def I2(a b:M3):mo:=cond (af .neq (ai a) (ai b)) (some (false,())) ((I4 (a,b,()) (0,())).bind fun c=>Sum.elim (fun d=>some (d.1,())) (fun d=>Sum.elim (fun _=>some (true,())) (fun e=>Empty.elim e) d) c)
noncomputable def LF(a b c d e f:Int)(g:Bool)(h i j k l m:Int)(n:Bool):mo:=letI o:=some (false,());cond (af .neq a h) o (cond (af .neq b i) o (cond (af .neq c j) o (cond (af .neq d k) o (cond (af .neq e l) o (cond (af .neq f m) o (cond (Bool.not (bQ g n)) o (some (true,()))))))))
noncomputable def J5(a:KR×VR)(b:DM):Pj:=letI c:=ae cx a.1 b.1;letI d:=ae cx a.2.1 b.1;letI e:=c.2.2.2;letI f:=d.2.2.2;cond (af .lss b.1 (ai a.1)) (cond (ah a.1 b.1) (cond (ah a.2.1 b.1) ((LF c.1 c.2.1 c.2.2.1 e.1 e.2.1 e.2.2.1 e.2.2.2 d.1 d.2.1 d.2.2.1 f.1 f.2.1 f.2.2.1 f.2.2.2).bind fun g=>cond (Bool.not g.1) (some (.inr (.inl (false,())))) (some (.inl (aa .add .i64 b.1 1,())))) none) none) (some (.inr (.inr (.inl ()))))
noncomputable def J6 k x:=iter (J5 k) big x
noncomputable def Ks(a b:KR):mo:=cond (af .neq (ai a) (ai b)) (some (false,())) ((J6 (a,b,()) (0,())).bind fun c=>Sum.elim (fun d=>some (d.1,())) (fun d=>Sum.elim (fun _=>some (true,())) (fun e=>Empty.elim e) d) c)
noncomputable def I1(a b c d e f g h i j k:Int)(l:KQ)(m:M3)(n:KR)(o:Ko)(p q r s t u v w x y z:Int)(A:KQ)(B:M3)(C:KR)(D:Ko):mo:=(LI a b c d e f g h p q r s t u v w).bind fun E=>letI F:=some (false,());cond (Bool.not E.1) F (cond (af .neq i x) F (cond (af .neq j y) F (cond (af .neq k z) F ((LG l A).bind fun G=>cond (Bool.not G.1) F ((I2 m B).bind fun H=>cond (Bool.not H.1) F ((Ks n C).bind fun I=>cond (Bool.not I.1) F ((HZ o D).bind fun J=>cond (Bool.not J.1) F (some (true,())))))))))
end Go.Fn
namespace Go.Fn
open Go.R
abbrev Ev:=Int×Int×Int×Int×Int×Int×Int
noncomputable def g6(a lo hi:Int):Bool:=bif decide (a>=lo)then decide (a<=hi)else false
theorem ev(a lo hi:Int):bu a lo hi=some (g6 a lo hi,()):=by unfold bu g6;simp only[af];cases decide (a>=lo) <;> rfl
theorem mS(a lo hi:Int):bt a lo hi=some (g6 a lo hi,()):=ev a lo hi
theorem zT(a:Int):gg a=some (g6 a 0 20000,()):=by unfold gg;rw[ev];rfl
noncomputable def QZ(e:Ev):Bool:=bif g6 e.1 0 5 then bif g6 e.2.1 1 999 then bif g6 e.2.2.1 1 100000 then bif g6 e.2.2.2.1 1 4 then bif g6 e.2.2.2.2.1 1 999 then bif g6 e.2.2.2.2.2.1 0 20000 then g6 e.2.2.2.2.2.2 0 20000 else false else false else false else false else false else false
theorem KD{α:Type}(b:Bool)(x y:α):(bif b then some x else some y)=some (bif b then x else y):=by cases b <;> rfl
theorem KC(b x y:Bool):(bif b then(x,())else(y,()))=((bif b then x else y),()):=by cases b <;> rfl
theorem TQ(a b c d e f g:Int):LN a b c d e f g=some (QZ (a,b,c,d,e,f,g),()):=by unfold LN QZ;simp only[mS,Option.bind_some,KD,KC]
theorem TD(a b c d e f g:Int):LA a b c d e f g=some (QZ (a,b,c,d,e,f,g),()):=by unfold LA QZ;simp only[ev,zT,Option.bind_some,KD,KC]
noncomputable def Tp(p e:Ev):Bool:=!(decide (e.1<p.1)||(decide (e.1=p.1)&&(decide (e.2.1<=p.2.1)||decide (e.2.2.1<=p.2.2.1))))
noncomputable def NT(l:List Ev):Nat->Bool
 |0=>QZ (l.getD 0 e7)
 |n+1=>QZ (l.getD (n+1) e7)&&Tp (l.getD n e7) (l.getD (n+1) e7)
noncomputable def TG(l:List Ev):Bool:=bif decide (60<l.length)then false else aB (NT l) 0 l.length
theorem Vn(l:List Ev):af .gtr (ai l) (60:Int)=decide (60<l.length):=by simp only[af,ai,gt_iff_lt,decide_eq_decide];omega
theorem Us(l:List Ev):ko l=some (TG l,()):=by
 unfold ko TG;rw[Vn];cases hl:decide (60<l.length)with
 |true=>rfl
 |false=>
  have hl:l.length<=60:=by have:=of_decide_eq_false hl;omega
  have e8:IL (l,l,(ai l),()) ((0:Int),())=some (bif aB (NT l) 0 l.length then(Sum.inr (Sum.inl ()):Bool×Unit⊕(Unit⊕Empty))else Sum.inl (false,())):=by
   refine bp (fun n=>((n:Int),())) l.length (by omega) (NT l) _ _ (fun n hn=>?_) ?_
   ·unfold IK;simp only[aj,az,aq,TD,hn,decide_true,cond_true,Option.bind_some];cases n with
    |zero=>simp only[NT];cases QZ (l.getD 0 e7) <;> rfl
    |succ n=>
     have hn':n<l.length:=by omega
     simp only[NT,av (n:=n+1) (by omega),iw (n:=n) (by omega),cV hn',aq,Tp,af];have e0:((((n+1:Nat):Int))==0)=false:=by rw[beq_eq_false_iff_ne];omega
     rw[e0];simp only[cond_false,cond_true];generalize l.getD (n+1) e7=e;generalize l.getD n e7=p;show(bif !(QZ e)then _ else _)=_;cases QZ e with
     |false=>rfl
     |true=>
      simp only[Bool.not_true,cond_false,Bool.true_and];cases decide (e.1<p.1)with
      |true=>rfl
      |false=>
       simp only[cond_false,Bool.false_or];have eb:(e.1==p.1)=decide (e.1=p.1):=rfl;rw[eb];cases decide (e.1=p.1)with
       |false=>rfl
       |true=>
        simp only[cond_true,Bool.true_and];cases decide (e.2.1<=p.2.1)with
        |true=>rfl
        |false=>cases decide (e.2.2.1<=p.2.2.1) <;> rfl
   ·unfold IK;simp only[aj,Nat.lt_irrefl,decide_false,cond_false]
  rw[e8];cases aB (NT l) 0 l.length <;> rfl
theorem XQ(n:Nat):af .gtr ((n+1:Nat):Int) 0=true:=by simp only[af,gt_iff_lt,decide_eq_true_eq];omega
theorem UA(l:List Ev):lm l=some (TG l,()):=by
 unfold lm TG;rw[Vn];cases hl:decide (60<l.length)with
 |true=>rfl
 |false=>
  have hl:l.length<=60:=by have:=of_decide_eq_false hl;omega
  have e8:JD (l,()) ((0:Int),())=some (bif aB (NT l) 0 l.length then(Sum.inr (Sum.inl ()):Bool×Unit⊕(Unit⊕Empty))else Sum.inl (false,())):=by
   refine bp (fun n=>((n:Int),())) l.length (by omega) (NT l) _ _ (fun n hn=>?_) ?_
   ·unfold JC;simp only[aj,az,aq,TQ,hn,decide_true,cond_true,Option.bind_some];cases n with
    |zero=>simp only[NT];cases QZ (l.getD 0 e7) <;> rfl
    |succ n=>
     have hn':n<l.length:=by omega
     simp only[NT,XQ,av (n:=n+1) (by omega),iw (n:=n) (by omega),cV hn',aq,Tp,cond_true];simp only[af];generalize l.getD (n+1) e7=e;generalize l.getD n e7=p;show(bif !(QZ e)then _ else _)=_;cases QZ e with
     |false=>rfl
     |true=>
      simp only[Bool.not_true,cond_false,Bool.true_and];cases decide (e.1<p.1)with
      |true=>rfl
      |false=>
       simp only[cond_false,Bool.false_or];have eb:(e.1==p.1)=decide (e.1=p.1):=rfl;rw[eb];cases decide (e.1=p.1)with
       |false=>rfl
       |true=>
        simp only[cond_true,Bool.true_and];cases decide (e.2.1<=p.2.1)with
        |true=>rfl
        |false=>cases decide (e.2.2.1<=p.2.2.1) <;> rfl
   ·unfold JC;simp only[aj,Nat.lt_irrefl,decide_false,cond_false]
  rw[e8];cases aB (NT l) 0 l.length <;> rfl
theorem U9(a b c d e f g:Int):N1 a b c d e f g=some (a,b,c,d,e,f,g,()):=rfl
theorem S0(l:List Ev)(hl:l.length<=1073741824):H8 l=some (l,()):=by
 unfold H8;rw[cC hl];have e8:xb (l,()) (List.replicate l.length (0,0,0,0,0,0,0),(0:Int),())=some (Sum.inl (l,())):=by
  have:=aR (body:=vw (l,())) (fun n=>(l.take n++List.replicate (l.length-n) (0,0,0,0,0,0,0),(n:Int),())) l.length (by omega) (Sum.inl (l,())) (fun n hn=>?_) ?_
  ·unfold xb;simpa using this
  ·unfold vw;have hx:n<(l.take n++List.replicate (l.length-n) ((0,0,0,0,0,0,0):Ev)).length:=by rw[dD _ _ (Nat.le_of_lt hn)];exact hn
   simp only[aj,az,hn,hx,decide_true,cond_true,aq,U9,Option.bind_some,av (n:=n) (by omega),aN];rw[<-dS l (0,0,0,0,0,0,0) hn,eX hn e7 (0,0,0,0,0,0,0)]
  ·unfold vw;simp only[aj,Nat.lt_irrefl,decide_false,cond_false,Nat.sub_self,List.replicate_zero,List.append_nil,List.take_length]
 have hr:cW (ai l) ((0:Int),(0:Int),(0:Int),(0:Int),(0:Int),(0:Int),(0:Int))=List.replicate l.length (0,0,0,0,0,0,0):=dP _ _;rw[hr];simp only[cond_true];rw[e8];rfl
theorem e6(a:Int):af .neq a a=false:=by simp[af]
theorem Tz(a b c d e f g:Int):LD a b c d e f g a b c d e f g=some (true,()):=by unfold LD;simp only[e6,cond_false]
theorem Rc(l:List Ev)(hl:l.length<=1073741824):HZ l l=some (true,()):=by
 unfold HZ;rw[e6];have e8:J4 (l,l,()) ((0:Int),())=some (Sum.inr (Sum.inl ())):=by
  refine aR (fun n=>((n:Int),())) l.length (by omega) _ (fun n hn=>?_) ?_
  ·unfold J3;simp only[aj,az,hn,decide_true,cond_true,Tz,Option.bind_some,av (n:=n) (by omega)];rfl
  ·unfold J3;simp only[aj,Nat.lt_irrefl,decide_false,cond_false]
 simp only[cond_false];rw[e8];rfl
theorem Rs(l:List Ev)(a:Int)(hl:l.length<=9223372036854775807)(ha:0<=a)(PO:a<=1048576):H6 l a=some (bif decide (a<(l.length:Int))then -1 else a-(l.length:Int),()):=by
 unfold H6;have h1:aa .sub .i64 a (ai l)=a-(l.length:Int):=bO (by unfold ai;omega) (by unfold ai;omega);rw[h1];have h2:af .lss (a-(l.length:Int)) 0=decide (a<(l.length:Int)):=by simp only[af,decide_eq_decide];omega
 rw[h2];cases decide (a<(l.length:Int)) <;> rfl
end Go.Fn
set_option linter.unusedSimpArgs false
namespace Go.Fn
open Go.R
theorem RU(l:List Int)(hl:l.length<=1073741824):KH l=some (l,()):=by
 unfold KH;rw[cC hl];have e8:Jw (l,()) (List.replicate l.length 0,(0:Int),())=some (Sum.inl (l,())):=by
  have:=aR (body:=Jv (l,())) (fun n=>(l.take n++List.replicate (l.length-n) 0,(n:Int),())) l.length (by omega) (Sum.inl (l,())) (fun n hn=>?_) ?_
  ·unfold Jw;simpa using this
  ·unfold Jv;have hx:n<(l.take n++List.replicate (l.length-n) (0:Int)).length:=by rw[dD _ _ (Nat.le_of_lt hn)];exact hn
   simp only[aj,az,hn,hx,decide_true,cond_true,aq,av (n:=n) (by omega),aN];rw[<-dS l 0 hn,eX hn zI 0]
  ·unfold Jv;simp only[aj,Nat.lt_irrefl,decide_false,cond_false,Nat.sub_self,List.replicate_zero,List.append_nil,List.take_length]
 have hr:cW (ai l) (0:Int)=List.replicate l.length 0:=dP _ _;rw[hr];simp only[cond_true];rw[e8];rfl
theorem Ov(l:List Int)(hl:l.length<=1073741824):rp l l=some (true,()):=by
 unfold rp;rw[e6];have e8:Mr (l,l,()) ((0:Int),())=some (Sum.inr (Sum.inl ())):=by
  refine aR (fun n=>((n:Int),())) l.length (by omega) _ (fun n hn=>?_) ?_
  ·unfold Mq;simp only[aj,az,hn,decide_true,cond_true,e6,av (n:=n) (by omega)];rfl
  ·unfold Mq;simp only[aj,Nat.lt_irrefl,decide_false,cond_false]
 simp only[cond_false];rw[e8];rfl
theorem JR{a:Int}(h0:0<=a)(h1:a<=4611686018427387904):aa .add .i64 a 1=a+1:=bV (by omega) (by omega)
noncomputable def JQ{α:Type}(l:List α)(f:Nat->α)(n:Nat):List α:=(List.range n).map f++l.drop n
theorem OQ{α:Type}(l:List α)(f:Nat->α){n:Nat}(h:n<=l.length):(JQ l f n).length=l.length:=by simp only[JQ,List.length_append,List.length_map,List.length_range,List.length_drop];omega
theorem RM{α:Type}(l:List α)(f:Nat->α){n:Nat}(h:n<l.length):(JQ l f n).set n (f n)=JQ l f (n+1):=by
 unfold JQ;have h1:((List.range n).map f).length=n:=by simp
 rw[List.set_append,if_neg (by omega),h1,Nat.sub_self,List.range_succ,List.map_append,List.append_assoc];congr 1;rw[List.drop_eq_getElem_cons h];rfl
theorem TA{α:Type}(f:Nat->α)(k:Nat){n:Nat}(h:n<k)(z:α):((List.range k).map f).getD n z=f n:=by rw[List.getD_eq_getElem?_getD,List.getElem?_map,List.getElem?_range h];rfl
noncomputable def J9(k:Int)(n:Nat):List Int:=(List.range n).map fun i:Nat=>k+(i:Int)
theorem OJ(l:List Int)(k:Int)(hl:l.length<=1073741824)(h0:0<=k)(h1:k<=1125899906842624):n6 l k=some (k+(l.length:Int),J9 k l.length,()):=by
 unfold n6;have e8:vn () (l,k,(0:Int),())=some (Sum.inl (J9 k l.length,k+(l.length:Int),())):=by
  have:=aR (body:=vm ()) (fun n=>(JQ l (fun i=>k+(i:Int)) n,k+(n:Int),(n:Int),())) l.length (by omega) (Sum.inl (J9 k l.length,k+(l.length:Int),())) (fun n hn=>?_) ?_
  ·unfold vn;have e0:JQ l (fun i=>k+(i:Int)) 0=l:=by simp[JQ]
   simp only[e0]at this;simpa using this
  ·unfold vm;have hx:n<(JQ l (fun i=>k+(i:Int)) n).length:=by rw[OQ _ _ (Nat.le_of_lt hn)];exact hn
   simp only[aj,az,hx,decide_true,cond_true,av (n:=n) (by omega),aN];rw[JR (by omega) (by omega),<-RM _ _ hn];have:k+(n:Int)+1=k+((n+1:Nat):Int):=by omega
   rw[this]
  ·unfold vm;have hx:(JQ l (fun i=>k+(i:Int)) l.length).length=l.length:=OQ _ _ (Nat.le_refl _);simp only[aj,hx,Nat.lt_irrefl,decide_false,cond_false];simp[JQ,J9]
 rw[e8];rfl
theorem QM(n:Nat)(k:Int)(hl:n<=1073741824)(h0:0<=k)(h1:k<=1125899906842624):n5 (J9 k n) k=some (k+(n:Int),()):=by
 unfold n5;have hlen:(J9 k n).length=n:=by simp[J9]
 have e8:vb (J9 k n,()) (k,(0:Int),())=some (Sum.inr (Sum.inl (k+(n:Int),()))):=by
  have:=aR (body:=u0 (J9 k n,())) (fun m=>(k+(m:Int),(m:Int),())) n (by omega) (Sum.inr (Sum.inl (k+(n:Int),()))) (fun m hm=>?_) ?_
  ·unfold vb;simpa using this
  ·unfold u0;have hg:(J9 k n).getD m zI=k+(m:Int):=TA _ _ hm _;simp only[aj,hlen,az,hm,decide_true,cond_true,aq,hg,e6,cond_false,av (n:=m) (by omega)];rw[JR (by omega) (by omega)];have:k+(m:Int)+1=k+((m+1:Nat):Int):=by omega
   rw[this]
  ·unfold u0;simp only[aj,hlen,Nat.lt_irrefl,decide_false,cond_false]
 rw[e8];rfl
noncomputable def QR(k:Int)(i:Nat):Ev:=(k+7*(i:Int),k+7*(i:Int)+1,k+7*(i:Int)+1+1,k+7*(i:Int)+1+1+1,k+7*(i:Int)+1+1+1+1,k+7*(i:Int)+1+1+1+1+1,k+7*(i:Int)+1+1+1+1+1+1)
noncomputable def PN(k:Int)(n:Nat):List Ev:=(List.range n).map (QR k)
theorem Ph(l:List Ev)(k:Int)(hl:l.length<=1073741824)(h0:0<=k)(h1:k<=1099511627776):n4 l k=some (k+7*(l.length:Int),PN k l.length,()):=by
 unfold n4;have e8:nh () (l,k,(0:Int),())=some (Sum.inl (PN k l.length,k+7*(l.length:Int),())):=by
  have:=aR (body:=m0 ()) (fun n=>(JQ l (QR k) n,k+7*(n:Int),(n:Int),())) l.length (by omega) (Sum.inl (PN k l.length,k+7*(l.length:Int),())) (fun n hn=>?_) ?_
  ·unfold nh;have e0:JQ l (QR k) 0=l:=by simp[JQ]
   simp only[e0]at this;simpa using this
  ·have hx:n<(JQ l (QR k) n).length:=by rw[OQ _ _ (Nat.le_of_lt hn)];exact hn
   rw[<-RM l (QR k) hn];generalize hL:JQ l (QR k) n=L at hx;have e1:k+7*((n+1:Nat):Int)=k+7*(n:Int)+1+1+1+1+1+1+1:=by omega
   rw[e1];unfold QR;have b0:0<=k+7*(n:Int):=by omega
   have b1:k+7*(n:Int)<=1125899906842624:=by omega
   revert b0 b1;generalize k+7*(n:Int)=q;intro b0 b1;have a1:aa .add .i64 q 1=q+1:=JR (by omega) (by omega);have a2:aa .add .i64 (q+1) 1=q+1+1:=JR (by omega) (by omega);have a3:aa .add .i64 (q+1+1) 1=q+1+1+1:=JR (by omega) (by omega);have a4:aa .add .i64 (q+1+1+1) 1=q+1+1+1+1:=JR (by omega) (by omega);have a5:aa .add .i64 (q+1+1+1+1) 1=q+1+1+1+1+1:=JR (by omega) (by omega);have a6:aa .add .i64 (q+1+1+1+1+1) 1=q+1+1+1+1+1+1:=JR (by omega) (by omega);have a7:aa .add .i64 (q+1+1+1+1+1+1) 1=q+1+1+1+1+1+1+1:=JR (by omega) (by omega);unfold m0;simp only[aj,az,hx,decide_true,cond_true,av (n:=n) (by omega),aN,aq,a1,a2,a3,a4,a5,a6,a7];iterate 8 (rw[aV];try simp only[je,List.length_set,hx,decide_true,cond_true,aN,aq,aF hx,List.set_set,a7])
  ·unfold m0;have hx:(JQ l (QR k) l.length).length=l.length:=OQ _ _ (Nat.le_refl _);simp only[aj,hx,Nat.lt_irrefl,decide_false,cond_false];simp[JQ,PN]
 rw[e8];rfl
theorem US{l:List Ev}(h:TG l=true):l.length<=60:=by
 unfold TG at h;cases hd:decide (60<l.length)with
 |true=>rw[hd]at h;cases h
 |false=>have:=of_decide_eq_false hd;omega
theorem VH{l:List Ev}(h:TG l=true){n:Nat}(hn:n<l.length):NT l n=true:=by have Yf:=US h;unfold TG at h;rw[decide_eq_false (by omega)]at h;exact(aQ _ _).1 h n (Nat.zero_le _) (by omega)
theorem gb{a lo hi:Int}:g6 a lo hi=true↔lo<=a/\a<=hi:=by
 unfold g6;by_cases h:lo<=a
 ·rw[decide_eq_true (show a>=lo from h)];simp[h]
 ·rw[decide_eq_false (show ¬a>=lo from h)];simp[h]
theorem UK{a b:Bool}:(bif a then b else false)=true↔a=true/\b=true:=by cases a <;> simp
theorem OR{α:Type}{l:List α}{i:Int}(h0:0<=i)(h1:i<(l.length:Int)):ah l i=true:=by unfold ah;rw[Bool.and_eq_true];exact⟨decide_eq_true h0,decide_eq_true h1⟩
theorem g2{a:Int}(h:0<=a):af .lss a 0=false:=by simp only[af,decide_eq_false_iff_not];omega
theorem KM{α:Type}{l:List α}(h:l.length<=1073741824):aE l=true:=by unfold aE limit;exact decide_eq_true (by omega)
end Go.Fn
set_option linter.unusedSimpArgs false
namespace Go.Fn
open Go.R
theorem TV(a0 a1:Int):Oz a0 a1=some (a0,a1,()):=rfl
theorem Rv(l:List (Int×Int))(hl:l.length<=1073741824):Jz l=some (l,()):=by
 unfold Jz;rw[cC hl];have e8:Il (l,()) (List.replicate l.length (0,0),(0:Int),())=some (Sum.inl (l,())):=by
  have:=aR (body:=Ik (l,())) (fun n=>(l.take n++List.replicate (l.length-n) (0,0),(n:Int),())) l.length (by omega) (Sum.inl (l,())) (fun n hn=>?_) ?_
  ·unfold Il;simpa using this
  ·unfold Ik;have hx:n<(l.take n++List.replicate (l.length-n) ((0,0):Int×Int)).length:=by rw[dD _ _ (Nat.le_of_lt hn)];exact hn
   simp only[aj,az,hn,hx,decide_true,cond_true,aq,TV,Option.bind_some,av (n:=n) (by omega),aN];rw[<-dS l (0,0) hn,eX hn MC (0,0)]
  ·unfold Ik;simp only[aj,Nat.lt_irrefl,decide_false,cond_false,Nat.sub_self,List.replicate_zero,List.append_nil,List.take_length]
 have hr:cW (ai l) (((0:Int),(0:Int)))=List.replicate l.length (0,0):=dP _ _;rw[hr];simp only[cond_true];rw[e8];rfl
theorem SE(a0 a1:Int):Ng a0 a1 a0 a1=some (true,()):=by unfold Ng;simp only[e6,cond_false]
theorem PU(l:List (Int×Int))(hl:l.length<=1073741824):I6 l l=some (true,()):=by
 unfold I6;rw[e6];have e8:Lc (l,l,()) ((0:Int),())=some (Sum.inr (Sum.inl ())):=by
  refine aR (fun n=>((n:Int),())) l.length (by omega) _ (fun n hn=>?_) ?_
  ·unfold Lb;simp only[aj,az,hn,decide_true,cond_true,SE,Option.bind_some,av (n:=n) (by omega)];rfl
  ·unfold Lb;simp only[aj,Nat.lt_irrefl,decide_false,cond_false]
 simp only[cond_false];rw[e8];rfl
theorem Rt(l:List (Int×Int))(a:Int)(hl:l.length<=9223372036854775807)(ha:0<=a)(PO:a<=1048576):Jq l a=some (bif decide (a<(l.length:Int))then -1 else a-(l.length:Int),()):=by
 unfold Jq;have h1:aa .sub .i64 a (ai l)=a-(l.length:Int):=bO (by unfold ai;omega) (by unfold ai;omega);rw[h1];have h2:af .lss (a-(l.length:Int)) 0=decide (a<(l.length:Int)):=by simp only[af,decide_eq_decide];omega
 rw[h2];cases decide (a<(l.length:Int)) <;> rfl
abbrev LR:=Int×Int
noncomputable def N4(l:List LR)(most:Int)(n:Nat):Bool:=
 bif af .lss (l.getD n MC).1 0 then false else bif af .geq (l.getD n MC).1 (l.getD n MC).2 then false else bif af .gtr (l.getD n MC).2 most then false else
  match n with
  |0=>true
  |m+1=>bif af .leq (l.getD (m+1) MC).1 (l.getD m MC).2 then false else true
noncomputable def LM(l:List LR)(most:Int):Bool:=bif decide (20<l.length)then false else aB (N4 l most) 0 l.length
theorem Vm{α:Type}(l:List α):af .gtr (ai l) (20:Int)=decide (20<l.length):=by simp only[af,ai,gt_iff_lt,decide_eq_decide];omega
theorem WU:af .gtr ((0:Nat):Int) 0=false:=rfl
theorem Si(l:List LR)(most:Int):JI l most=some (LM l most,()):=by
 unfold JI LM;rw[Vm];cases hl:decide (20<l.length)with
 |true=>rfl
 |false=>
  have hl:l.length<=20:=by have:=of_decide_eq_false hl;omega
  have e8:Lp (l,most,()) ((0:Int),())=some (bif aB (N4 l most) 0 l.length then(Sum.inr (Sum.inl ()):Bool×Unit⊕(Unit⊕Empty))else Sum.inl (false,())):=by
   refine bp (fun n=>((n:Int),())) l.length (by omega) (N4 l most) _ _ (fun n hn=>?_) ?_
   ·unfold Lo N4;simp only[aj,az,aq,hn,decide_true,cond_true];cases n with
    |zero=>simp only[WU,cond_false];cases af .lss (l.getD 0 MC).1 0 <;> cases af .geq (l.getD 0 MC).1 (l.getD 0 MC).2 <;> cases af .gtr (l.getD 0 MC).2 most <;> rfl
    |succ n=>
     have hn':n<l.length:=by omega
     simp only[XQ,av (n:=n+1) (by omega),iw (n:=n) (by omega),cV hn',aq,cond_true];cases af .lss (l.getD (n+1) MC).1 0 <;> cases af .geq (l.getD (n+1) MC).1 (l.getD (n+1) MC).2 <;> cases af .gtr (l.getD (n+1) MC).2 most <;> cases af .leq (l.getD (n+1) MC).1 (l.getD n MC).2 <;> rfl
   ·unfold Lo;simp only[aj,Nat.lt_irrefl,decide_false,cond_false]
  rw[e8];cases aB (N4 l most) 0 l.length <;> rfl
theorem R9(l:List LR)(most:Int):IU l most=some (LM l most,()):=by
 unfold IU LM;rw[Vm];cases hl:decide (20<l.length)with
 |true=>rfl
 |false=>
  have hl:l.length<=20:=by have:=of_decide_eq_false hl;omega
  have e8:KY (l,most,l,ai l,()) ((0:Int),())=some (bif aB (N4 l most) 0 l.length then(Sum.inr (Sum.inl ()):Bool×Unit⊕(Unit⊕Empty))else Sum.inl (false,())):=by
   refine bp (fun n=>((n:Int),())) l.length (by omega) (N4 l most) _ _ (fun n hn=>?_) ?_
   ·unfold KX N4;simp only[aj,az,aq,hn,decide_true,cond_true];cases n with
    |zero=>simp only[WU,cond_false];cases af .lss (l.getD 0 MC).1 0 <;> cases af .geq (l.getD 0 MC).1 (l.getD 0 MC).2 <;> cases af .gtr (l.getD 0 MC).2 most <;> rfl
    |succ n=>
     have hn':n<l.length:=by omega
     simp only[XQ,av (n:=n+1) (by omega),iw (n:=n) (by omega),cV hn',aq,cond_true];cases af .lss (l.getD (n+1) MC).1 0 <;> cases af .geq (l.getD (n+1) MC).1 (l.getD (n+1) MC).2 <;> cases af .gtr (l.getD (n+1) MC).2 most <;> cases af .leq (l.getD (n+1) MC).1 (l.getD n MC).2 <;> rfl
   ·unfold KX;simp only[aj,Nat.lt_irrefl,decide_false,cond_false]
  rw[e8];cases aB (N4 l most) 0 l.length <;> rfl
noncomputable def n7(o c:List LR):Bool:=bif LM o 168 then LM c 20000 else false
theorem IF(o c:List LR):sS o c=some (n7 o c,()):=by unfold sS n7;simp only[Si,Option.bind_some,KD,KC]
theorem IC(o c:List LR):mu o c=some (n7 o c,()):=by unfold mu n7;simp only[R9,Option.bind_some,KD,KC]
theorem QV{l:List LR}{most:Int}(h:LM l most=true):l.length<=20:=by
 unfold LM at h;cases hd:decide (20<l.length)with
 |true=>rw[hd]at h;cases h
 |false=>have:=of_decide_eq_false hd;omega
theorem N6{o c:List LR}(h:n7 o c=true):o.length<=20/\c.length<=20:=by
 unfold n7 at h;cases ho:LM o 168 with
 |true=>rw[ho]at h;exact⟨QV ho,QV h⟩
 |false=>rw[ho]at h;cases h
noncomputable def Qr(l:List LR)(x:Int)(n:Nat):Bool:=bif af .leq (l.getD n MC).1 x then !af .lss x (l.getD n MC).2 else true
noncomputable def TF(l:List LR)(x:Int):Bool:=!aB (Qr l x) 0 l.length
theorem UM(a b:Int):af .geq a b=af .leq b a:=rfl
theorem RR(l:List LR)(x:Int)(hl:l.length<=1073741824):s3 l x=some (TF l x,()):=by
 unfold s3 TF;have e8:JM (l,x,()) ((0:Int),())=some (bif aB (Qr l x) 0 l.length then(Sum.inr (Sum.inl ()):Bool×Unit⊕(Unit⊕Empty))else Sum.inl (true,())):=by
  refine bp (fun n=>((n:Int),())) l.length (by omega) (Qr l x) _ _ (fun n hn=>?_) ?_
  ·unfold JL Qr;simp only[aj,az,aq,hn,decide_true,cond_true,av (n:=n) (by omega)];cases af .leq (l.getD n MC).1 x <;> cases af .lss x (l.getD n MC).2 <;> rfl
  ·unfold JL;simp only[aj,Nat.lt_irrefl,decide_false,cond_false]
 rw[e8];cases aB (Qr l x) 0 l.length <;> rfl
theorem RN(l:List LR)(x:Int)(hl:l.length<=1073741824):IW l x=some (TF l x,()):=by
 unfold IW TF;have e8:K6 (x,l,ai l,()) ((0:Int),())=some (bif aB (Qr l x) 0 l.length then(Sum.inr (Sum.inl ()):Bool×Unit⊕(Unit⊕Empty))else Sum.inl (true,())):=by
  refine bp (fun n=>((n:Int),())) l.length (by omega) (Qr l x) _ _ (fun n hn=>?_) ?_
  ·unfold K5 Qr;simp only[aj,az,aq,hn,decide_true,cond_true,av (n:=n) (by omega),UM];cases af .leq (l.getD n MC).1 x <;> cases af .lss x (l.getD n MC).2 <;> rfl
  ·unfold K5;simp only[aj,Nat.lt_irrefl,decide_false,cond_false]
 rw[e8];cases aB (Qr l x) 0 l.length <;> rfl
noncomputable def OK(o c:List LR)(x:Int):Bool:=bif TF o (aa .rem .i64 x 168)then Bool.not (TF c x)else false
theorem Xt:ax (168:Int)=false:=rfl
theorem KN{o c:List LR}(x:Int)(ho:o.length<=20)(hc:c.length<=20):JK o c x=some (OK o c x,()):=by unfold JK OK;simp only[Xt,cond_false,RR o _ (by omega),RR c _ (by omega),Option.bind_some,KD,KC]
theorem Ow{o c:List LR}(x:Int)(ho:o.length<=20)(hc:c.length<=20):KF o c x=some (OK o c x,()):=by unfold KF OK;simp only[Xt,cond_false,RN o _ (by omega),RN c _ (by omega),Option.bind_some,KD,KC]
noncomputable def Nt(a0 a1 a2 a3 a4 a5 a6 a7:Int):Bool:=bif g6 a0 1 2000 then bif g6 a2 1 2000 then bif g6 a5 1 2000 then bif g6 a1 0 2000 then bif g6 a3 0 10000 then bif g6 a4 0 1000000 then bif g6 a6 0 100000 then g6 a7 0 20 else false else false else false else false else false else false else false
theorem Qs(a0 a1 a2 a3 a4 a5 a6 a7:Int):JJ a0 a1 a2 a3 a4 a5 a6 a7=some (Nt a0 a1 a2 a3 a4 a5 a6 a7,()):=by unfold JJ Nt;simp only[mS,Option.bind_some,KD,KC]
theorem NZ(a0 a1 a2 a3 a4 a5 a6 a7:Int):IV a0 a1 a2 a3 a4 a5 a6 a7=some (Nt a0 a1 a2 a3 a4 a5 a6 a7,()):=by unfold IV Nt;simp only[ev,Option.bind_some,KD,KC]
theorem UN(a b:Int):af .gtr a b=Bool.not (af .leq a b):=by
 simp only[af,gt_iff_lt];by_cases h:a<=b
 ·rw[decide_eq_true h,decide_eq_false (by omega)];rfl
 ·rw[decide_eq_false h,decide_eq_true (by omega)];rfl
abbrev Sty:=Int×Int×Int×Int
theorem TW(o c:List LR)(ho:o.length<=1073741824)(hc:c.length<=1073741824):Nm o c=some (o,c,()):=by unfold Nm;rw[Rv o ho];simp only[Option.bind_some];rw[Rv c hc];rfl
theorem SG(o c:List LR)(ho:o.length<=1073741824)(hc:c.length<=1073741824):Ni o c o c=some (true,()):=by unfold Ni;rw[PU o ho];simp only[Option.bind_some,Bool.not_true,cond_false];rw[PU c hc];rfl
theorem Tl(a0 a1 a2 a3 a4 a5 a6 a7:Int):N3 a0 a1 a2 a3 a4 a5 a6 a7=some (a0,a1,a2,a3,a4,a5,a6,a7,()):=rfl
theorem OS(b:Bool):bQ b b=true:=by unfold bQ;simp
theorem Xp:af .lss (-1:Int) 0=true:=rfl
theorem RT(o c:List LR)(a:Int)(ho:o.length<=9223372036854775807)(hc:c.length<=9223372036854775807)(ha:0<=a)(PO:a<=1048576):
  Nk o c a=some (bif decide (a<(o.length:Int)+(c.length:Int))then -1 else a-(o.length:Int)-(c.length:Int),()):=by
 unfold Nk;rw[Rt o a ho ha PO];simp only[Option.bind_some];cases h1:decide (a<(o.length:Int))with
 |true=>have h1:=of_decide_eq_true h1;rw[decide_eq_true (show a<(o.length:Int)+(c.length:Int)by omega)];simp only[cond_true,Xp]
 |false=>
  have h1:=of_decide_eq_false h1;simp only[cond_false];rw[g2 (by omega)];simp only[cond_false];rw[Rt c _ hc (by omega) (by omega)];simp only[Option.bind_some];have h3:decide (a-(o.length:Int)<(c.length:Int))=decide (a<(o.length:Int)+(c.length:Int)):=by rw[decide_eq_decide];omega
  rw[h3];cases h2:decide (a<(o.length:Int)+(c.length:Int))with
  |true=>simp only[cond_true,Xp]
  |false=>have h2:=of_decide_eq_false h2;simp only[cond_false];rw[g2 (by omega)];rfl
end Go.Fn
set_option linter.unusedSimpArgs false
namespace Go.Fn
open Go.R
theorem SF(a0 a1 a2 a3 a4:Int):Nh a0 a1 a2 a3 a4 a0 a1 a2 a3 a4=some (true,()):=by unfold Nh;simp only[e6,cond_false]
theorem R1(l:List (Int×Int×Int×Int×Int))(hl:l.length<=1073741824):LH l l=some (true,()):=by
 unfold LH;rw[e6];have e8:Le (l,l,()) ((0:Int),())=some (Sum.inr (Sum.inl ())):=by
  refine aR (fun n=>((n:Int),())) l.length (by omega) _ (fun n hn=>?_) ?_
  ·unfold Ld;simp only[aj,az,hn,decide_true,cond_true,SF,Option.bind_some,av (n:=n) (by omega)];rfl
  ·unfold Ld;simp only[aj,Nat.lt_irrefl,decide_false,cond_false]
 simp only[cond_false];rw[e8];rfl
abbrev Ou:=Int×Int×Int×Int×Int
theorem Tj(l:List (List Int))(hl:l.length<=1073741824)(hr:∀r∈l,r.length<=1073741824):LK l=some (l,()):=by
 unfold LK;rw[cC hl];have e8:Ii (l,()) (List.replicate l.length [],(0:Int),())=some (Sum.inl (l,())):=by
  have:=aR (body:=Ih (l,())) (fun n=>(l.take n++List.replicate (l.length-n) [],(n:Int),())) l.length (by omega) (Sum.inl (l,())) (fun n hn=>?_) ?_
  ·unfold Ii;simpa using this
  ·unfold Ih;have hx:n<(l.take n++List.replicate (l.length-n) ([]:List Int)).length:=by rw[dD _ _ (Nat.le_of_lt hn)];exact hn
   have hrow:(l.getD n g8).length<=1073741824:=by rw[List.getD_eq_getElem?_getD,List.getElem?_eq_getElem hn];exact hr _ (List.getElem_mem hn)
   simp only[aj,az,hn,hx,decide_true,cond_true,aq,RU _ hrow,Option.bind_some,av (n:=n) (by omega),aN];rw[<-dS l [] hn,eX hn g8 []]
  ·unfold Ih;simp only[aj,Nat.lt_irrefl,decide_false,cond_false,Nat.sub_self,List.replicate_zero,List.append_nil,List.take_length]
 have hr':cW (ai l) ([]:List Int)=List.replicate l.length []:=dP _ _;rw[hr'];simp only[cond_true];rw[e8];rfl
theorem PT(l:List (List Int))(hl:l.length<=1073741824)(hr:∀r∈l,r.length<=1073741824):I0 l l=some (true,()):=by
 unfold I0;rw[e6];have e8:K8 (l,l,()) ((0:Int),())=some (Sum.inr (Sum.inl ())):=by
  refine aR (fun n=>((n:Int),())) l.length (by omega) _ (fun n hn=>?_) ?_
  ·unfold K7;have hrow:(l.getD n g8).length<=1073741824:=by rw[List.getD_eq_getElem?_getD,List.getElem?_eq_getElem hn];exact hr _ (List.getElem_mem hn)
   simp only[aj,az,hn,decide_true,cond_true,aq,Ov _ hrow,Option.bind_some,av (n:=n) (by omega)];rfl
  ·unfold K7;simp only[aj,Nat.lt_irrefl,decide_false,cond_false]
 simp only[cond_false];rw[e8];rfl
theorem QI(l:List Int)(a:Int)(hl:l.length<=9223372036854775807)(ha:0<=a)(PO:a<=1048576):KG l a=some (bif decide (a<(l.length:Int))then -1 else a-(l.length:Int),()):=by
 unfold KG;have h1:aa .sub .i64 a (ai l)=a-(l.length:Int):=bO (by unfold ai;omega) (by unfold ai;omega);rw[h1];have h2:af .lss (a-(l.length:Int)) 0=decide (a<(l.length:Int)):=by simp only[af,decide_eq_decide];omega
 rw[h2];cases decide (a<(l.length:Int)) <;> rfl
noncomputable def Ru(a:Int)(r:List Int):Int⊕(Int×Unit⊕(Int×Unit⊕Empty)):=bif decide (a<(r.length:Int))then .inr (.inl (-1,()))else .inl (a-(r.length:Int))
theorem Vq:∀(l:List (List Int)) (a:Int),0<=a->∃y,gf Ru (fun a=>.inr (.inl (a,()))) l a=y/\(y=.inl (-1,())\/∃b,y=.inr (.inl (b,()))/\0<=b/\b<=a/\∀r∈l,(r.length:Int)<=a)
 | [],a,ha=>⟨_,rfl,.inr ⟨a,rfl,ha,Int.le_refl _,fun r hr=>nomatch hr⟩⟩
 |r::l,a,ha=>by
  simp only[gf,Ru];cases hd:decide (a<(r.length:Int))with
  |true=>exact⟨_,rfl,.inl rfl⟩
  |false=>
   have hd:=of_decide_eq_false hd;obtain⟨y,h1,h2⟩:=Vq l (a-(r.length:Int)) (by omega);refine⟨y,h1,h2.imp id fun⟨b,q1,q2,q3,q4⟩=>⟨b,q1,q2,by omega,fun r' hr'=>?_⟩⟩;cases hr' with
   |head=>omega
   |tail _ hm=>have:=q4 r' hm;omega
theorem Te(l:List (List Int))(a:Int)(hl:l.length<=9223372036854775807)(hr:∀r∈l,r.length<=9223372036854775807)(ha:0<=a)(PO:a<=1048576):
  ∃b,LJ l a=some (b,())/\(b = -1\/(0<=b/\b<=a/\(l.length:Int)<=a/\∀r∈l,(r.length:Int)<=a)):=by
 unfold LJ;have h1:aa .sub .i64 a (ai l)=a-(l.length:Int):=bO (by unfold ai;omega) (by unfold ai;omega);have h2:af .lss (a-(l.length:Int)) 0=decide (a<(l.length:Int)):=by simp only[af,decide_eq_decide];omega
 rw[h1,h2];cases hd:decide (a<(l.length:Int))with
 |true=>exact⟨-1,rfl,.inl rfl⟩
 |false=>
  have hd:=of_decide_eq_false hd;obtain⟨y,q1,q2⟩:=Vq l (a-(l.length:Int)) (by omega);have e8:Lf (l,()) (a-(l.length:Int),(0:Int),())=some y:=by
   rw[<-q1];refine gQ (body:=Ie (l,())) l g8 (by omega) (fun a n=>(a,(n:Int),())) Ru _ (fun _ a=>0<=a/\a<=1048576) (fun n a hn hi=>⟨?_,fun b hb=>?_⟩) (fun a _=>?_) (a-(l.length:Int)) ⟨by omega,by omega⟩
   ·have hrow:(l.getD n g8).length<=9223372036854775807:=by
     rw[List.getD_eq_getElem?_getD,List.getElem?_eq_getElem hn];exact hr _ (List.getElem_mem hn)
    unfold Ie Ru;simp only[aj,az,hn,decide_true,cond_true,aq,QI _ _ hrow hi.1 hi.2,Option.bind_some,av (n:=n) (by omega)];cases hd:decide (a<((l.getD n g8).length:Int))with
    |true=>rfl
    |false=>have hd:=of_decide_eq_false hd;simp only[cond_false];rw[g2 (by omega)];rfl
   ·unfold Ru at hb;cases hd:decide (a<((l.getD n g8).length:Int))with
    |true=>rw[hd]at hb;cases hb
    |false=>
     have CH:=of_decide_eq_false hd;rw[hd]at hb;injection hb with hb
     subst hb;exact⟨by omega,by omega⟩
   ·unfold Ie;simp only[aj,Nat.lt_irrefl,decide_false,cond_false]
  simp only[cond_false];rw[e8];rcases q2 with rfl|⟨b,rfl,b1,b2,b3⟩
  ·exact⟨-1,rfl,.inl rfl⟩
  ·exact⟨b,rfl,.inr ⟨b1,by omega,by omega,fun r hr=>by have:=b3 r hr;omega⟩⟩
theorem RZ(a0 a1:Int)(g:List (List Int))(s:List Ou)(hg:g.length<=1073741824)(hr:∀r∈g,r.length<=1073741824)(hs:s.length<=1073741824):I5 a0 a1 g s a0 a1 g s=some (true,()):=by unfold I5;rw[e6,e6,PT g hg hr,R1 s hs];rfl
noncomputable def PW(r:List Int)(j:Nat):Bool:=g6 (r.getD j zI) 0 200
noncomputable def rowAt(g:List (List Int))(n:Nat):Bool:=bif af .neq (ai (g.getD n g8)) (ai g)then false else aB (PW (g.getD n g8)) 0 (g.getD n g8).length
noncomputable def N5(s:Ou):Bool:=g6 s.1 0 20000&&(g6 s.2.1 0 20000&&(!af .gtr s.1 s.2.1&&(g6 s.2.2.1 0 200&&(g6 s.2.2.2.1 0 1000&&g6 s.2.2.2.2 0 1000))))
noncomputable def Q2(a0 a1:Int)(g:List (List Int))(s:List Ou):Bool:=g6 a0 0 20000&&(g6 a1 0 1000&&(!af .gtr (ai s) 6&&(!af .neq (ai g) (aa .add .i64 (ai s) 1)&&(aB (rowAt g) 0 g.length&&aB (fun n=>N5 (s.getD n j0)) 0 s.length))))
theorem U1{α β:Type}{l:List α}{m:List β}(h:af .neq (ai l) (ai m)=false):l.length=m.length:=by simp only[af,ai,bne_eq_false_iff_eq]at h;omega
theorem contains_eq(r:List Int)(hr:r.length<=1073741824):ej r=some (Bool.not (aB (PW r) 0 r.length),()):=by
 unfold ej ga;obtain⟨y,h1,h2⟩:=fP (body:=ek (r,ai r,())) (fun n=>((n:Int),())) r.length (by omega) (PW r) (Sum.inr (Sum.inl ())) (fun n=>Sum.inl ((n:Int),())) (fun n hn=>by
  unfold ek Mm PW;simp only[aj,az,hn,decide_true,cond_true,aq,ev,Option.bind_some,av (n:=n) (by omega)];cases g6 (r.getD n zI) 0 200 <;> rfl) (by
  unfold ek;simp only[aj,Nat.lt_irrefl,decide_false,cond_false])
 have h1':e5 (r,ai r,()) ((0:Int),())=some y:=h1;rw[h1'];rcases h2 with ⟨e1,rfl⟩|⟨e1,n,hn,rfl,_⟩
 ·rw[e1];rfl
 ·rw[e1];show some (af .geq ((n:Nat):Int) 0,())=some (Bool.not false,());have:af .geq ((n:Nat):Int) 0=true:=by simp[af]
  rw[this];rfl
theorem R8(a0 a1:Int)(g:List (List Int))(s:List Ou)(hg:∀r∈g,r.length<=1073741824):LB a0 a1 g s=some (Q2 a0 a1 g s,()):=by
 unfold LB Q2;simp only[zT,ev,Option.bind_some];cases g6 a0 0 20000 with
 |false=>rfl
 |true=>
  cases g6 a1 0 1000 with
  |false=>rfl
  |true=>
   cases h6:af .gtr (ai s) 6 with
   |true=>rfl
   |false=>
    have hs6:s.length<=6:=by simp[af,ai]at h6;omega
    cases hn:af .neq (ai g) (aa .add .i64 (ai s) 1)with
    |true=>rfl
    |false=>
     have hg7:g.length=s.length+1:=by rw[bV (by unfold ai;omega) (by unfold ai;omega)]at hn;simp only[af,ai,bne_eq_false_iff_eq]at hn;omega
     have S6:KV (a0,a1,g,s,g,ai g,()) ((0:Int),())=some (bif aB (rowAt g) 0 g.length then(Sum.inr (Sum.inl ()):Bool×Unit⊕(Unit⊕Empty))else Sum.inl (false,())):=by
      refine bp (fun n=>((n:Int),())) g.length (by omega) (rowAt g) _ _ (fun n hn=>?_) ?_
      ·have hrow:(g.getD n g8).length<=1073741824:=by
        rw[List.getD_eq_getElem?_getD,List.getElem?_eq_getElem hn];exact hg _ (List.getElem_mem hn)
       unfold KT rowAt;simp only[aj,az,hn,decide_true,cond_true,aq,contains_eq _ hrow,Option.bind_some,av (n:=n) (by omega)];cases af .neq (ai (g.getD n g8)) (ai g)with
       |true=>rfl
       |false=>cases aB (PW (g.getD n g8)) 0 (g.getD n g8).length <;> rfl
      ·unfold KT;simp only[aj,Nat.lt_irrefl,decide_false,cond_false]
     have S7:KW (s,ai s,()) ((0:Int),())=some (bif aB (fun n=>N5 (s.getD n j0)) 0 s.length then(Sum.inr (Sum.inl ()):Bool×Unit⊕(Unit⊕Empty))else Sum.inl (false,())):=by
      refine bp (fun n=>((n:Int),())) s.length (by omega) (fun n=>N5 (s.getD n j0)) _ _ (fun n hn=>?_) ?_
      ·unfold KU N5;simp only[aj,az,hn,decide_true,cond_true,aq,zT,ev,Option.bind_some,av (n:=n) (by omega)];generalize s.getD n j0=e;cases g6 e.1 0 20000 with
       |false=>rfl
       |true=>
        cases g6 e.2.1 0 20000 with
        |false=>rfl
        |true=>
         cases af .gtr e.1 e.2.1 with
         |true=>rfl
         |false=>
          cases g6 e.2.2.1 0 200 with
          |false=>rfl
          |true=>
           cases g6 e.2.2.2.1 0 1000 with
           |false=>rfl
           |true=>cases g6 e.2.2.2.2 0 1000 <;> rfl
      ·unfold KU;simp only[aj,Nat.lt_irrefl,decide_false,cond_false]
     simp only[Bool.not_true,cond_false];rw[S6,S7];cases aB (rowAt g) 0 g.length with
     |false=>rfl
     |true=>cases aB (fun n=>N5 (s.getD n j0)) 0 s.length <;> rfl
theorem Sg(a0 a1:Int)(g:List (List Int))(s:List Ou):LO a0 a1 g s=some (Q2 a0 a1 g s,()):=by
 unfold LO Q2;simp only[mS,Option.bind_some];cases g6 a0 0 20000 with
 |false=>rfl
 |true=>
  cases g6 a1 0 1000 with
  |false=>rfl
  |true=>
   cases h6:af .gtr (ai s) 6 with
   |true=>rfl
   |false=>
    have hs6:s.length<=6:=by simp[af,ai]at h6;omega
    cases hn:af .neq (ai g) (aa .add .i64 (ai s) 1)with
    |true=>rfl
    |false=>
     have hg7:g.length=s.length+1:=by rw[bV (by unfold ai;omega) (by unfold ai;omega)]at hn;simp only[af,ai,bne_eq_false_iff_eq]at hn;omega
     have S6:Ll (a0,a1,g,s,()) ((0:Int),())=some (bif aB (rowAt g) 0 g.length then(Sum.inr (Sum.inl ()):Bool×Unit⊕(Unit⊕Empty))else Sum.inl (false,())):=by
      refine bp (fun n=>((n:Int),())) g.length (by omega) (rowAt g) _ _ (fun n hn=>?_) ?_
      ·unfold Li rowAt;simp only[aj,az,hn,decide_true,cond_true,aq,av (n:=n) (by omega)];cases hne:af .neq (ai (g.getD n g8)) (ai g)with
       |true=>rfl
       |false=>
        have hlen:=U1 hne;have hin:Lm (a0,a1,g,s,(n:Int),()) ((0:Int),())=some (bif aB (PW (g.getD n g8)) 0 g.length then(Sum.inr (Sum.inl ()):Bool×Unit⊕(Unit⊕Empty))else Sum.inl (false,())):=by
         refine bp (fun n=>((n:Int),())) g.length (by omega) (PW (g.getD n g8)) _ _ (fun m hm=>?_) ?_
         ·have hm':m<(g.getD n g8).length:=by rw[hlen];exact hm
          unfold Lj PW;simp only[aj,az,hn,hm,aq,hm',decide_true,cond_true,mS,Option.bind_some,av (n:=m) (by omega)];cases g6 ((g.getD n g8).getD m zI) 0 200 <;> rfl
         ·unfold Lj;simp only[aj,Nat.lt_irrefl,decide_false,cond_false]
        simp only[cond_false];rw[hin,hlen];cases aB (PW (g.getD n g8)) 0 g.length <;> rfl
      ·unfold Li;simp only[aj,Nat.lt_irrefl,decide_false,cond_false]
     have S7:Ln (a0,a1,g,s,()) ((0:Int),())=some (bif aB (fun n=>N5 (s.getD n j0)) 0 s.length then(Sum.inr (Sum.inl ()):Bool×Unit⊕(Unit⊕Empty))else Sum.inl (false,())):=by
      refine bp (fun n=>((n:Int),())) s.length (by omega) (fun n=>N5 (s.getD n j0)) _ _ (fun n hn=>?_) ?_
      ·unfold Lk N5;simp only[aj,az,hn,decide_true,cond_true,aq,mS,Option.bind_some,av (n:=n) (by omega)];generalize s.getD n j0=e;have hse:g6 e.2.1 0 20000=true->g6 e.1 0 e.2.1=(g6 e.1 0 20000 && !af .gtr e.1 e.2.1):=by intro hb;have hb:=gb.1 hb;rw[Bool.eq_iff_iff,Bool.and_eq_true,gb,gb];simp only[af,Bool.not_eq_true',decide_eq_false_iff_not];omega
       cases hb:g6 e.2.1 0 20000 with
       |false=>cases g6 e.1 0 20000 <;> rfl
       |true=>
        rw[hse hb];cases g6 e.1 0 20000 with
        |false=>rfl
        |true=>
         cases af .gtr e.1 e.2.1 with
         |true=>rfl
         |false=>
          cases g6 e.2.2.1 0 200 with
          |false=>rfl
          |true=>
           cases g6 e.2.2.2.1 0 1000 with
           |false=>rfl
           |true=>cases g6 e.2.2.2.2 0 1000 <;> rfl
      ·unfold Lk;simp only[aj,Nat.lt_irrefl,decide_false,cond_false]
     simp only[Bool.not_true,cond_false];rw[S6,S7];cases aB (rowAt g) 0 g.length with
     |false=>rfl
     |true=>cases aB (fun n=>N5 (s.getD n j0)) 0 s.length <;> rfl
end Go.Fn
set_option linter.unusedSimpArgs false
namespace Go.Fn
open Go.R
noncomputable def leg(g:List (List Int))(i j:Nat):Int:=(g.getD i g8).getD j zI
end Go.Fn
set_option linter.unusedSimpArgs false
namespace Go.Fn
open Go.R
abbrev RSt:=Int×List Int×Int×Int×Int×Int
noncomputable def arr(g:List (List Int))(st:RSt)(i:Int):Int:=aa .add .i64 st.2.2.1 (ae zI (ae g8 g st.2.2.2.2.2) (aa .add .i64 i 1))
theorem UW(a b:Int):af .leq a b=Bool.not (af .gtr a b):=by rw[UN,Bool.not_not]
end Go.Fn
set_option linter.unusedSimpArgs false
namespace Go.Fn
open Go.R
theorem R2(a0 a1 a2 a3 a4 a5 a6 a7:Int):LI a0 a1 a2 a3 a4 a5 a6 a7 a0 a1 a2 a3 a4 a5 a6 a7=some (true,()):=by unfold LI;simp only[e6,cond_false]
abbrev Trm:=Int×Int×Int×Int×Int×Int×Int×Int
end Go.Fn
set_option linter.unusedSimpArgs false
namespace Go.Fn
open Go.R
theorem S2(a0 a1 a2 a3 a4 a5 a6 a7 a8 a9 a10 a11 a12:Int):Nu a0 a1 a2 a3 a4 a5 a6 a7 a8 a9 a10 a11 a12=some (a0,a1,a2,a3,a4,a5,a6,a7,a8,a9,a10,a11,a12,()):=rfl
theorem SC(a0 a1 a2 a3 a4:Int):Nd a0 a1 a2 a3 a4 a0 a1 a2 a3 a4=some (true,()):=by unfold Nd;simp only[e6,cond_false]
theorem RA(a0 a1 a2 a3 a4 a5 a6 a7 a8 a9 a10 a11 a12:Int):Kt a0 a1 a2 a3 a4 a5 a6 a7 a8 a9 a10 a11 a12 a0 a1 a2 a3 a4 a5 a6 a7 a8 a9 a10 a11 a12=some (true,()):=by unfold Kt;simp only[e6,cond_false,SC,Option.bind_some,Bool.not_true]
theorem UD(a0:Int)(a1:Int)(a2:Int)(a3:Bool):Pk a0 a1 a2 a3=some (a0,a1,a2,a3,()):=rfl
theorem TS(l:List (Int×Int×Int×Bool))(hl:l.length<=1073741824):Nl l=some (l,()):=by
 unfold Nl;rw[cC hl];have e8:Js (l,()) (List.replicate l.length (0,0,0,false),(0:Int),())=some (Sum.inl (l,())):=by
  have:=aR (body:=Jr (l,())) (fun n=>(l.take n++List.replicate (l.length-n) (0,0,0,false),(n:Int),())) l.length (by omega) (Sum.inl (l,())) (fun n hn=>?_) ?_
  ·unfold Js;simpa using this
  ·unfold Jr;have hx:n<(l.take n++List.replicate (l.length-n) ((0,0,0,false):Int×Int×Int×Bool)).length:=by rw[dD _ _ (Nat.le_of_lt hn)];exact hn
   simp only[aj,az,hn,hx,decide_true,cond_true,aq,UD,Option.bind_some,aV,av (n:=n) (by omega),aN];rw[<-dS l (0,0,0,false) hn,eX hn hU (0,0,0,false)]
  ·unfold Jr;simp only[aj,Nat.lt_irrefl,decide_false,cond_false,Nat.sub_self,List.replicate_zero,List.append_nil,List.take_length]
 have hr:cW (ai l) (((0:Int),(0:Int),(0:Int),false))=List.replicate l.length (0,0,0,false):=dP _ _;rw[hr];simp only[cond_true];rw[e8];rfl
theorem S4(a0:Int)(a1:Int)(a2:Int)(a3:Bool):N0 a0 a1 a2 a3 a0 a1 a2 a3=some (true,()):=by unfold N0;simp only[e6,OS,Bool.not_true,cond_false]
theorem Sz(l:List (Int×Int×Int×Bool))(hl:l.length<=1073741824):Nb l l=some (true,()):=by
 unfold Nb;rw[e6];have e8:Mp (l,l,()) ((0:Int),())=some (Sum.inr (Sum.inl ())):=by
  refine aR (fun n=>((n:Int),())) l.length (by omega) _ (fun n hn=>?_) ?_
  ·unfold Mo;simp only[aj,az,hn,decide_true,cond_true,S4,Option.bind_some,av (n:=n) (by omega)];rfl
  ·unfold Mo;simp only[aj,Nat.lt_irrefl,decide_false,cond_false]
 simp only[cond_false];rw[e8];rfl
theorem RS(l:List (Int×Int×Int×Bool))(a:Int)(hl:l.length<=9223372036854775807)(ha:0<=a)(PO:a<=1048576):Nj l a=some (bif decide (a<(l.length:Int))then -1 else a-(l.length:Int),()):=by
 unfold Nj;have h1:aa .sub .i64 a (ai l)=a-(l.length:Int):=bO (by unfold ai;omega) (by unfold ai;omega);rw[h1];have h2:af .lss (a-(l.length:Int)) 0=decide (a<(l.length:Int)):=by simp only[af,decide_eq_decide];omega
 rw[h2];cases decide (a<(l.length:Int)) <;> rfl
theorem Sr(l:List (Int×Int×Int×Int×Int×Int×Int×Int×Int×Int×Int×Int×Int))(hl:l.length<=1073741824):Jy l=some (l,()):=by
 unfold Jy;rw[cC hl];have e8:qB (l,()) (List.replicate l.length (0,0,0,0,0,0,0,0,0,0,0,0,0),(0:Int),())=some (Sum.inl (l,())):=by
  have:=aR (body:=qx (l,())) (fun n=>(l.take n++List.replicate (l.length-n) (0,0,0,0,0,0,0,0,0,0,0,0,0),(n:Int),())) l.length (by omega) (Sum.inl (l,())) (fun n hn=>?_) ?_
  ·unfold qB;simpa using this
  ·unfold qx;have hx:n<(l.take n++List.replicate (l.length-n) ((0,0,0,0,0,0,0,0,0,0,0,0,0):Int×Int×Int×Int×Int×Int×Int×Int×Int×Int×Int×Int×Int)).length:=by rw[dD _ _ (Nat.le_of_lt hn)];exact hn
   simp only[aj,az,hn,hx,decide_true,cond_true,aq,S2,Option.bind_some,aV,av (n:=n) (by omega),aN];rw[<-dS l (0,0,0,0,0,0,0,0,0,0,0,0,0) hn,eX hn bf (0,0,0,0,0,0,0,0,0,0,0,0,0)]
  ·unfold qx;simp only[aj,Nat.lt_irrefl,decide_false,cond_false,Nat.sub_self,List.replicate_zero,List.append_nil,List.take_length]
 have hr:cW (ai l) (((0:Int),(0:Int),(0:Int),(0:Int),(0:Int),(0:Int),(0:Int),(0:Int),(0:Int),(0:Int),(0:Int),(0:Int),(0:Int)))=List.replicate l.length (0,0,0,0,0,0,0,0,0,0,0,0,0):=dP _ _;rw[hr];simp only[cond_true];rw[e8];rfl
theorem Re(l:List (Int×Int×Int×Int×Int×Int×Int×Int×Int×Int×Int×Int×Int))(hl:l.length<=1073741824):I2 l l=some (true,()):=by
 unfold I2;rw[e6];have e8:I4 (l,l,()) ((0:Int),())=some (Sum.inr (Sum.inl ())):=by
  refine aR (fun n=>((n:Int),())) l.length (by omega) _ (fun n hn=>?_) ?_
  ·unfold I3;simp only[aj,az,hn,decide_true,cond_true,RA,Option.bind_some,av (n:=n) (by omega)];rfl
  ·unfold I3;simp only[aj,Nat.lt_irrefl,decide_false,cond_false]
 simp only[cond_false];rw[e8];rfl
theorem Sn(l:List (Int×Int×Int×Int×Int×Int×Int×Int×Int×Int×Int×Int×Int))(a:Int)(hl:l.length<=9223372036854775807)(ha:0<=a)(PO:a<=1048576):Jp l a=some (bif decide (a<(l.length:Int))then -1 else a-(l.length:Int),()):=by
 unfold Jp;have h1:aa .sub .i64 a (ai l)=a-(l.length:Int):=bO (by unfold ai;omega) (by unfold ai;omega);rw[h1];have h2:af .lss (a-(l.length:Int)) 0=decide (a<(l.length:Int)):=by simp only[af,decide_eq_decide];omega
 rw[h2];cases decide (a<(l.length:Int)) <;> rfl
theorem Ti(a0:Int)(a1:Int)(a2:Int)(a3:Int)(a4:Int)(a5:Int)(a6:Bool):N2 a0 a1 a2 a3 a4 a5 a6=some (a0,a1,a2,a3,a4,a5,a6,()):=rfl
theorem S1(l:List (Int×Int×Int×Int×Int×Int×Bool))(hl:l.length<=1073741824):Kw l=some (l,()):=by
 unfold Kw;rw[cC hl];have e8:xl (l,()) (List.replicate l.length (0,0,0,0,0,0,false),(0:Int),())=some (Sum.inl (l,())):=by
  have:=aR (body:=xh (l,())) (fun n=>(l.take n++List.replicate (l.length-n) (0,0,0,0,0,0,false),(n:Int),())) l.length (by omega) (Sum.inl (l,())) (fun n hn=>?_) ?_
  ·unfold xl;simpa using this
  ·unfold xh;have hx:n<(l.take n++List.replicate (l.length-n) ((0,0,0,0,0,0,false):Int×Int×Int×Int×Int×Int×Bool)).length:=by rw[dD _ _ (Nat.le_of_lt hn)];exact hn
   simp only[aj,az,hn,hx,decide_true,cond_true,aq,Ti,Option.bind_some,aV,av (n:=n) (by omega),aN];rw[<-dS l (0,0,0,0,0,0,false) hn,eX hn cx (0,0,0,0,0,0,false)]
  ·unfold xh;simp only[aj,Nat.lt_irrefl,decide_false,cond_false,Nat.sub_self,List.replicate_zero,List.append_nil,List.take_length]
 have hr:cW (ai l) (((0:Int),(0:Int),(0:Int),(0:Int),(0:Int),(0:Int),false))=List.replicate l.length (0,0,0,0,0,0,false):=dP _ _;rw[hr];simp only[cond_true];rw[e8];rfl
theorem RY(a0:Int)(a1:Int)(a2:Int)(a3:Int)(a4:Int)(a5:Int)(a6:Bool):LF a0 a1 a2 a3 a4 a5 a6 a0 a1 a2 a3 a4 a5 a6=some (true,()):=by unfold LF;simp only[e6,OS,Bool.not_true,cond_false]
theorem Rz(l:List (Int×Int×Int×Int×Int×Int×Bool))(hl:l.length<=1073741824):Ks l l=some (true,()):=by
 unfold Ks;rw[e6];have e8:J6 (l,l,()) ((0:Int),())=some (Sum.inr (Sum.inl ())):=by
  refine aR (fun n=>((n:Int),())) l.length (by omega) _ (fun n hn=>?_) ?_
  ·unfold J5;simp only[aj,az,hn,decide_true,cond_true,RY,Option.bind_some,av (n:=n) (by omega)];rfl
  ·unfold J5;simp only[aj,Nat.lt_irrefl,decide_false,cond_false]
 simp only[cond_false];rw[e8];rfl
theorem SW(l:List (Int×Int×Int×Int×Int×Int×Bool))(a:Int)(hl:l.length<=9223372036854775807)(ha:0<=a)(PO:a<=1048576):Kv l a=some (bif decide (a<(l.length:Int))then -1 else a-(l.length:Int),()):=by
 unfold Kv;have h1:aa .sub .i64 a (ai l)=a-(l.length:Int):=bO (by unfold ai;omega) (by unfold ai;omega);rw[h1];have h2:af .lss (a-(l.length:Int)) 0=decide (a<(l.length:Int)):=by simp only[af,decide_eq_decide];omega
 rw[h2];cases decide (a<(l.length:Int)) <;> rfl
theorem Sx {α:Type} {body:List α×Int×Unit->Option ((List α×Int×Unit)⊕(List α×Unit⊕Empty))} (l:List α) (zr z:α) (hl:l.length<=1073741824)
  (h:∀(n:Nat) (acc:List α),n<l.length->acc.length=l.length->body (acc,(n:Int),())=some (.inl (acc.set n (l.getD n z),((n+1:Nat):Int),())))
  (hend:∀acc:List α,acc.length=l.length->body (acc,(l.length:Int),())=some (.inr (.inl (acc,())))):iter body big (List.replicate l.length zr,0,())=some (Sum.inl (l,())):=by
 have:=aR (body:=body) (fun n=>(l.take n++List.replicate (l.length-n) zr,(n:Int),())) l.length (by omega) (Sum.inl (l,())) (fun n hn=>?_) ?_
 ·simpa using this
 ·show body (l.take n++List.replicate (l.length-n) zr,(n:Int),())=_;rw[h n _ hn (dD _ _ (Nat.le_of_lt hn)),eX hn z zr,dS l zr hn]
 ·show body (l.take l.length++List.replicate (l.length-l.length) zr,(l.length:Int),())=_;rw[hend _ (dD _ _ (Nat.le_refl _))];simp
theorem SR {α:Type} {body:Int×Int×Unit->Option ((Int×Int×Unit)⊕(Int×Unit⊕(Int×Unit⊕Empty)))} (l:List α) (hl:l.length<=1073741824) (small:Nat->Prop)
  (h:∀(n:Nat) (a:Int),n<l.length->0<=a->a<=1048576->body (a,(n:Int),())=some (.inr (.inl (-1,())))\/∃b,body (a,(n:Int),())=some (.inl (b,((n+1:Nat):Int),()))/\0<=b/\b<=a/\small n)
  (hend:∀a,body (a,(l.length:Int),())=some (.inr (.inr (.inl (a,()))))) (a:Int) (ha:0<=a) (PO:a<=1048576):
  ∃y,iter body big (a,0,())=some y/\(y=.inl (-1,())\/∃b,y=.inr (.inl (b,()))/\0<=b/\b<=a/\∀n,n<l.length->small n):=by
 have key:∀(k n:Nat) (a:Int),n+k=l.length->0<=a->a<=1048576->∃y,iter body (k+1) (a,(n:Int),())=some y/\(y=.inl (-1,())\/∃b,y=.inr (.inl (b,()))/\0<=b/\b<=a/\∀m,n<=m->m<l.length->small m):=by
  intro k;induction k with
  |zero=>
   intro n a hn h0 h1;have:n=l.length:=by omega
   subst this;exact⟨_,ay (hend a),.inr ⟨a,rfl,h0,Int.le_refl _,fun m h2 h3=>absurd h3 (by omega)⟩⟩
  |succ k ih=>
   intro n a hn h0 h1;rcases h n a (by omega) h0 h1 with h|⟨b,h,b0,b1,hs⟩
   ·exact⟨_,ay h,.inl rfl⟩
   ·obtain⟨y,q1,q2⟩:=ih (n+1) b (by omega) b0 (by omega);refine⟨y,by rw[aH h];exact q1,q2.imp id fun⟨c,c1,c2,c3,c4⟩=>⟨c,c1,c2,by omega,fun m h2 h3=>?_⟩⟩;rcases Nat.lt_or_ge n m with h4|h4
    ·exact c4 m (by omega) h3
    ·have:m=n:=by omega
     subst this;exact hs
 obtain⟨y,h1,h2⟩:=key l.length 0 a (by omega) ha PO;exact⟨y,bF h1 (aT (by omega)),h2.imp id fun⟨b,b1,b2,b3,b4⟩=>⟨b,b1,b2,b3,fun n hn=>b4 n (Nat.zero_le _) hn⟩⟩
abbrev Bx:=Int×Int×Int×Bool
abbrev OO:=Int×List Int×List Bx
abbrev Site:=List LR×List LR×List OO×Int×Int×Bool×Bool×Bool×Int×Int×List Ev
noncomputable def JP:OO:=cn
noncomputable def bg:Site:=aS
noncomputable def PS(m:Nat)(c:OO):Prop:=c.2.1.length<=m/\c.2.2.length<=m
theorem SZ(a0:Int)(a1:List Int)(a2:List Bx)(h1:a1.length<=1073741824)(h2:a2.length<=1073741824):H7 a0 a1 a2=some (a0,a1,a2,()):=by unfold H7;rw[RU a1 h1];simp only[Option.bind_some];rw[TS a2 h2];rfl
theorem Ry(a0:Int)(a1:List Int)(a2:List Bx)(h1:a1.length<=1073741824)(h2:a2.length<=1073741824):HY a0 a1 a2 a0 a1 a2=some (true,()):=by unfold HY;simp only[e6,cond_false,Ov a1 h1,Option.bind_some,Bool.not_true,Sz a2 h2]
theorem SV(a0:Int)(a1:List Int)(a2:List Bx)(a:Int)(h1:a1.length<=9223372036854775807)(h2:a2.length<=9223372036854775807)(ha:0<=a)(PO:a<=1048576):
  ∃b,jn a0 a1 a2 a=some (b,())/\(b = -1\/(0<=b/\b<=a/\a1.length<=1073741824/\a2.length<=1073741824)):=by
 unfold jn;rw[QI a1 a h1 ha PO];simp only[Option.bind_some];cases hd:decide (a<(a1.length:Int))with
 |true=>exact⟨-1,rfl,.inl rfl⟩
 |false=>
  have hd:=of_decide_eq_false hd;simp only[cond_false];rw[g2 (by omega)];simp only[cond_false];rw[RS a2 _ h2 (by omega) (by omega)];simp only[Option.bind_some];cases mP:decide (a-(a1.length:Int)<(a2.length:Int))with
  |true=>exact⟨-1,rfl,.inl rfl⟩
  |false=>have mP:=of_decide_eq_false mP;simp only[cond_false];rw[g2 (by omega)];exact⟨_,rfl,.inr ⟨by omega,by omega,by show _<=1073741824;omega,by show _<=1073741824;omega⟩⟩
theorem qS{α:Type}{l:List α}{n:Nat}(h:n<l.length)(z:α):l.getD n z∈l:=by rw[List.getD_eq_getElem?_getD,List.getElem?_eq_getElem h];exact List.getElem_mem h
theorem Sp(l:List OO)(hl:l.length<=1073741824)(hc:∀n,n<l.length->PS 1073741824 (l.getD n JP)):Jt l=some (l,()):=by
 unfold Jt;rw[cC hl];have hr:cW (ai l) (((0:Int),([]:List Int),([]:List Bx)))=List.replicate l.length (0,[],[]):=dP _ _;rw[hr];have:=Sx (body:=qk (l,())) l (0,[],[]) JP hl (fun n acc hn ha=>by
  obtain⟨c1,c2⟩:=hc n hn;unfold qk;simp only[aj,az,hn,ha,decide_true,cond_true,aq,aV,av (n:=n) (show n<1099511627776 by omega),aN];show((H7 (l.getD n JP).1 (l.getD n JP).2.1 (l.getD n JP).2.2).bind _)=_;rw[SZ _ _ _ c1 c2];rfl) (fun acc _=>by
  unfold qk;simp only[aj,Nat.lt_irrefl,decide_false,cond_false])
 simp only[cond_true];unfold Ju;rw[this];rfl
theorem Rb(l:List OO)(hl:l.length<=1073741824)(hc:∀n,n<l.length->PS 1073741824 (l.getD n JP)):IX l l=some (true,()):=by
 unfold IX;rw[e6];have e8:IZ (l,l,()) ((0:Int),())=some (Sum.inr (Sum.inl ())):=by
  refine aR (fun n=>((n:Int),())) l.length (by show _<_;omega) _ (fun n hn=>?_) ?_
  ·obtain⟨c1,c2⟩:=hc n hn;unfold IY;simp only[aj,az,hn,decide_true,cond_true,aq,aV,av (n:=n) (show n<1099511627776 by omega)];show((HY (l.getD n JP).1 (l.getD n JP).2.1 (l.getD n JP).2.2 (l.getD n JP).1 (l.getD n JP).2.1 (l.getD n JP).2.2).bind _)=_;rw[Ry _ _ _ c1 c2];rfl
  ·unfold IY;simp only[aj,Nat.lt_irrefl,decide_false,cond_false]
 simp only[cond_false];rw[e8];rfl
theorem Sj(l:List OO)(a:Int)(hl:l.length<=9223372036854775807)(hw:∀c∈l,PS 9223372036854775807 c)(ha:0<=a)(PO:a<=1048576):
  ∃b,kB l a=some (b,())/\(b = -1\/(0<=b/\b<=a/\l.length<=1073741824/\∀n,n<l.length->PS 1073741824 (l.getD n JP))):=by
 unfold kB;have h1:aa .sub .i64 a (ai l)=a-(l.length:Int):=bO (by unfold ai;have:l.length<=9223372036854775807:=hl;omega) (by unfold ai;omega);have h2:af .lss (a-(l.length:Int)) 0=decide (a<(l.length:Int)):=by simp only[af,decide_eq_decide];omega
 rw[h1,h2];cases hd:decide (a<(l.length:Int))with
 |true=>exact⟨-1,rfl,.inl rfl⟩
 |false=>
  have hd:=of_decide_eq_false hd;have R5:l.length<=1073741824:=by omega
  obtain⟨y,q1,q2⟩:=SR (body:=gy (l,())) l R5 (fun n=>PS 1073741824 (l.getD n JP)) (fun n a hn h0 h1=>by
   obtain⟨c1,c2⟩:=hw _ (qS hn JP);obtain⟨b,e1,e2⟩:=SV (l.getD n JP).1 (l.getD n JP).2.1 (l.getD n JP).2.2 a c1 c2 h0 h1;have hb:gy (l,()) (a,(n:Int),())=(bif af .lss b 0 then some (.inr (.inl (-1,())))else some (.inl (b,((n+1:Nat):Int),()))):=by unfold gy;simp only[aj,az,hn,decide_true,cond_true,aq,aV,av (n:=n) (show n<1099511627776 by omega)];show((jn (l.getD n JP).1 (l.getD n JP).2.1 (l.getD n JP).2.2 a).bind _)=_;rw[e1];rfl
   rw[hb];rcases e2 with rfl|⟨b0,b1,b2,b3⟩
   ·exact .inl rfl
   ·rw[g2 b0];exact .inr ⟨b,rfl,b0,b1,b2,b3⟩) (fun a=>by
   unfold gy;simp only[aj,Nat.lt_irrefl,decide_false,cond_false]) (a-(l.length:Int)) (by omega) (by omega)
  simp only[cond_false];unfold qe;rw[q1];rcases q2 with rfl|⟨b,rfl,b1,b2,b3⟩
  ·exact⟨-1,rfl,.inl rfl⟩
  ·exact⟨b,rfl,.inr ⟨b1,by omega,R5,b3⟩⟩
structure Lh (m:Nat) (x:Site):Prop where
 o:x.1.length<=m
 c:x.2.1.length<=m
 b:x.2.2.1.length<=m
 bs:∀n,n<x.2.2.1.length->PS m (x.2.2.1.getD n JP)
 j:x.2.2.2.2.2.2.2.2.2.2.length<=m
theorem TT(a0 a1:Int)(a2 a3 a4:Bool):Oy a0 a1 a2 a3 a4=some (a0,a1,a2,a3,a4,()):=rfl
theorem SA(a0 a1:Int)(a2 a3 a4:Bool):Nc a0 a1 a2 a3 a4 a0 a1 a2 a3 a4=some (true,()):=by unfold Nc;simp only[e6,OS,Bool.not_true,cond_false]
theorem TU(x:Site)(h:Lh 1073741824 x):KI x.1 x.2.1 x.2.2.1 x.2.2.2.1 x.2.2.2.2.1 x.2.2.2.2.2.1 x.2.2.2.2.2.2.1 x.2.2.2.2.2.2.2.1 x.2.2.2.2.2.2.2.2.1 x.2.2.2.2.2.2.2.2.2.1 x.2.2.2.2.2.2.2.2.2.2 =
  some (x.1,x.2.1,x.2.2.1,x.2.2.2.1,x.2.2.2.2.1,x.2.2.2.2.2.1,x.2.2.2.2.2.2.1,x.2.2.2.2.2.2.2.1,x.2.2.2.2.2.2.2.2.1,x.2.2.2.2.2.2.2.2.2.1,x.2.2.2.2.2.2.2.2.2.2,()):=by
 unfold KI;simp only[TW _ _ h.o h.c,Sp _ h.b h.bs,TT,S0 _ h.j,Option.bind_some]
theorem SD(x:Site)(h:Lh 1073741824 x):Nf x.1 x.2.1 x.2.2.1 x.2.2.2.1 x.2.2.2.2.1 x.2.2.2.2.2.1 x.2.2.2.2.2.2.1 x.2.2.2.2.2.2.2.1 x.2.2.2.2.2.2.2.2.1 x.2.2.2.2.2.2.2.2.2.1 x.2.2.2.2.2.2.2.2.2.2 x.1 x.2.1 x.2.2.1 x.2.2.2.1 x.2.2.2.2.1 x.2.2.2.2.2.1 x.2.2.2.2.2.2.1 x.2.2.2.2.2.2.2.1 x.2.2.2.2.2.2.2.2.1 x.2.2.2.2.2.2.2.2.2.1 x.2.2.2.2.2.2.2.2.2.2=some (true,()):=by unfold Nf;simp only[SG _ _ h.o h.c,Rb _ h.b h.bs,SA,Rc _ h.j,Option.bind_some,e6,Bool.not_true,cond_false]
structure Rq (x:Site):Prop where
 o:x.1.length<=9223372036854775807
 c:x.2.1.length<=9223372036854775807
 b:x.2.2.1.length<=9223372036854775807
 bs:∀y∈x.2.2.1,PS 9223372036854775807 y
 j:x.2.2.2.2.2.2.2.2.2.2.length<=9223372036854775807
theorem TR(x:Site)(a:Int)(h:Rq x)(ha:0<=a)(PO:a<=1048576):
  ∃b,IE x.1 x.2.1 x.2.2.1 x.2.2.2.1 x.2.2.2.2.1 x.2.2.2.2.2.1 x.2.2.2.2.2.2.1 x.2.2.2.2.2.2.2.1 x.2.2.2.2.2.2.2.2.1 x.2.2.2.2.2.2.2.2.2.1 x.2.2.2.2.2.2.2.2.2.2 a=some (b,())/\(b = -1\/(0<=b/\b<=a/\Lh 1073741824 x)):=by
 unfold IE;rw[RT _ _ a h.o h.c ha PO];simp only[Option.bind_some];cases hd:decide (a<(x.1.length:Int)+(x.2.1.length:Int))with
 |true=>exact⟨-1,rfl,.inl rfl⟩
 |false=>
  have hd:=of_decide_eq_false hd;simp only[cond_false];rw[g2 (by omega)];simp only[cond_false];obtain⟨b,e1,e2⟩:=Sj x.2.2.1 (a-(x.1.length:Int)-(x.2.1.length:Int)) h.b h.bs (by omega) (by omega);rw[e1];simp only[Option.bind_some];rcases e2 with rfl|⟨b0,b1,b2,b3⟩
  ·exact⟨-1,rfl,.inl rfl⟩
  ·rw[g2 b0];simp only[cond_false];rw[Rs _ b h.j b0 (by omega)];simp only[Option.bind_some];cases mP:decide (b<(x.2.2.2.2.2.2.2.2.2.2.length:Int))with
   |true=>exact⟨-1,rfl,.inl rfl⟩
   |false=>have mP:=of_decide_eq_false mP;simp only[cond_false];rw[g2 (by omega)];exact⟨_,rfl,.inr ⟨by omega,by omega,⟨by show _<=1073741824;omega,by show _<=1073741824;omega,b2,b3,by show _<=1073741824;omega⟩⟩⟩
theorem Tk(l:List Site)(hl:l.length<=1073741824)(hc:∀n,n<l.length->Lh 1073741824 (l.getD n bg)):LL l=some (l,()):=by
 unfold LL;rw[cC hl];have hr:cW (ai l) ((([]:List LR),([]:List LR),([]:List OO),(0:Int),(0:Int),false,false,false,(0:Int),(0:Int),([]:List Ev)):Site)=List.replicate l.length ([],[],[],0,0,false,false,false,0,0,[]):=dP _ _;rw[hr];have:=Sx (body:=Ij (l,())) l ([],[],[],0,0,false,false,false,0,0,[]) bg hl (fun n acc hn ha=>by
  have hs:=TU (l.getD n bg) (hc n hn);unfold Ij;simp only[aj,az,hn,ha,decide_true,cond_true,aq,aV,av (n:=n) (show n<1099511627776 by omega),aN];show((KI (l.getD n bg).1 (l.getD n bg).2.1 (l.getD n bg).2.2.1 (l.getD n bg).2.2.2.1 (l.getD n bg).2.2.2.2.1 (l.getD n bg).2.2.2.2.2.1 (l.getD n bg).2.2.2.2.2.2.1 (l.getD n bg).2.2.2.2.2.2.2.1 (l.getD n bg).2.2.2.2.2.2.2.2.1 (l.getD n bg).2.2.2.2.2.2.2.2.2.1 (l.getD n bg).2.2.2.2.2.2.2.2.2.2).bind _)=_;rw[hs];rfl) (fun acc _=>by
  unfold Ij;simp only[aj,Nat.lt_irrefl,decide_false,cond_false])
 simp only[cond_true];unfold Lg;rw[this];rfl
theorem R0(l:List Site)(hl:l.length<=1073741824)(hc:∀n,n<l.length->Lh 1073741824 (l.getD n bg)):LG l l=some (true,()):=by
 unfold LG;rw[e6];have e8:La (l,l,()) ((0:Int),())=some (Sum.inr (Sum.inl ())):=by
  refine aR (fun n=>((n:Int),())) l.length (by show _<_;omega) _ (fun n hn=>?_) ?_
  ·have hs:=SD (l.getD n bg) (hc n hn);unfold K9;simp only[aj,az,hn,decide_true,cond_true,aq,aV,av (n:=n) (show n<1099511627776 by omega)];have hs':=congrArg (fun q=>q.bind fun(y0:Bool×Unit)=>(bif (Bool.not y0.1)then some (Sum.inr (Sum.inl (false,())))else some (Sum.inl (((n+1:Nat):Int),())):Option ((Int×Unit)⊕(Bool×Unit⊕(Unit⊕Empty))))) hs;exact hs'
  ·unfold K9;simp only[aj,Nat.lt_irrefl,decide_false,cond_false]
 simp only[cond_false];rw[e8];rfl
theorem Tf(l:List Site)(a:Int)(hl:l.length<=9223372036854775807)(hw:∀c∈l,Rq c)(ha:0<=a)(PO:a<=1048576):
  ∃b,i4 l a=some (b,())/\(b = -1\/(0<=b/\b<=a/\l.length<=1073741824/\∀n,n<l.length->Lh 1073741824 (l.getD n bg))):=by
 unfold i4;have h1:aa .sub .i64 a (ai l)=a-(l.length:Int):=bO (by unfold ai;have:l.length<=9223372036854775807:=hl;omega) (by unfold ai;omega);have h2:af .lss (a-(l.length:Int)) 0=decide (a<(l.length:Int)):=by simp only[af,decide_eq_decide];omega
 rw[h1,h2];cases hd:decide (a<(l.length:Int))with
 |true=>exact⟨-1,rfl,.inl rfl⟩
 |false=>
  have hd:=of_decide_eq_false hd;have R5:l.length<=1073741824:=by omega
  obtain⟨y,q1,q2⟩:=SR (body:=gA (l,())) l R5 (fun n=>Lh 1073741824 (l.getD n bg)) (fun n a hn h0 h1=>by
   obtain⟨b,e1,e2⟩:=TR (l.getD n bg) a (hw _ (qS hn bg)) h0 h1;have hb:gA (l,()) (a,(n:Int),())=(bif af .lss b 0 then some (.inr (.inl (-1,())))else some (.inl (b,((n+1:Nat):Int),()))):=by unfold gA;simp only[aj,az,hn,decide_true,cond_true,aq,aV,av (n:=n) (show n<1099511627776 by omega)];have hs':=congrArg (fun q=>q.bind fun(y0:Int×Unit)=>(bif (af .lss y0.1 (0:Int))then some (.inr (.inl ((-1:Int),())))else some (.inl (y0.1,((n+1:Nat):Int),())):Option ((Int×Int×Unit)⊕(Int×Unit⊕(Int×Unit⊕Empty))))) e1;exact hs'
   rw[hb];rcases e2 with rfl|⟨b0,b1,b2⟩
   ·exact .inl rfl
   ·rw[g2 b0];exact .inr ⟨b,rfl,b0,b1,b2⟩) (fun a=>by
   unfold gA;simp only[aj,Nat.lt_irrefl,decide_false,cond_false]) (a-(l.length:Int)) (by omega) (by omega)
  simp only[cond_false];unfold Ig;rw[q1];rcases q2 with rfl|⟨b,rfl,b1,b2,b3⟩
  ·exact⟨-1,rfl,.inl rfl⟩
  ·exact⟨b,rfl,.inr ⟨b1,by omega,R5,b3⟩⟩
end Go.Fn
set_option linter.unusedSimpArgs false
namespace Go.Fn
open Go.R
abbrev Q0:=Int×Int×Int×Int×Int×Int×Int×Int×Int×Int×Int×Int×Int
abbrev Rx:=Int×Int×Int×Int×Int×Int×Bool
structure Uw (s:List Site) (p:List Q0) (g:List Rx) (j:List Ev):Prop where
 ls:s.length<=9223372036854775807
 ss:∀x∈s,Rq x
 lp:p.length<=9223372036854775807
 lg:g.length<=9223372036854775807
 lj:j.length<=9223372036854775807
structure QS (s:List Site) (p:List Q0) (g:List Rx) (j:List Ev):Prop where
 ls:s.length<=1048576
 ss:∀n,n<s.length->Lh 1073741824 (s.getD n bg)
 lp:p.length<=1048576
 lg:g.length<=1048576
 lj:j.length<=1048576
theorem SX(s:List Site)(a b:Int)(hs:s.length<=9223372036854775807)(ha:0<=a)(PO:a<=1048576)(h:i4 s a=some (b,()))(hb:0<=b):s.length<=1048576:=by
 unfold i4 at h;have h1:aa .sub .i64 a (ai s)=a-(s.length:Int):=bO (by unfold ai;omega) (by unfold ai;omega);have h2:af .lss (a-(s.length:Int)) 0=decide (a<(s.length:Int)):=by simp only[af,decide_eq_decide];omega
 rw[h1,h2]at h;cases hd:decide (a<(s.length:Int))with
 |true=>rw[hd]at h;simp only[cond_true,Option.some.injEq,Prod.mk.injEq]at h;omega
 |false=>have hd:=of_decide_eq_false hd;omega
section
variable (a0 a1 a2 a3 a4 a5 a6 a7 a8 a9 a10:Int) (s:List Site) (p:List Q0) (g:List Rx) (j:List Ev)
theorem Sq(h:QS s p g j):Jx a0 a1 a2 a3 a4 a5 a6 a7 a8 a9 a10 s p g j=some (a0,a1,a2,a3,a4,a5,a6,a7,a8,a9,a10,s,p,g,j,()):=by have h1:=h.ls;have h2:=h.lp;have h3:=h.lg;have h4:=h.lj;unfold Jx;simp only[Tl,Tk s (by omega) h.ss,Sr p (by omega),S1 g (by omega),S0 j (by omega),Option.bind_some]
theorem Rd(h:QS s p g j):I1 a0 a1 a2 a3 a4 a5 a6 a7 a8 a9 a10 s p g j a0 a1 a2 a3 a4 a5 a6 a7 a8 a9 a10 s p g j=some (true,()):=by have h1:=h.ls;have h2:=h.lp;have h3:=h.lg;have h4:=h.lj;unfold I1;simp only[R2,e6,R0 s (by omega) h.ss,Re p (by omega),Rz g (by omega),Rc j (by omega),Option.bind_some,Bool.not_true,cond_false]
theorem Sl(a:Int)(h:Uw s p g j)(ha:0<=a)(PO:a<=1048576):
  ∃b,kW a0 a1 a2 a3 a4 a5 a6 a7 a8 a9 a10 s p g j a=some (b,())/\(b = -1\/(0<=b/\b<=a/\QS s p g j)):=by
 unfold kW;obtain⟨b,e1,e2⟩:=Tf s a h.ls h.ss ha PO;rw[e1];simp only[Option.bind_some];rcases e2 with rfl|⟨b0,b1,b2,b3⟩
 ·exact⟨-1,rfl,.inl rfl⟩
 ·rw[g2 b0];simp only[cond_false];rw[Sn p b h.lp b0 (by omega)];simp only[Option.bind_some];cases hd:decide (b<(p.length:Int))with
  |true=>exact⟨-1,rfl,.inl rfl⟩
  |false=>
   have hd:=of_decide_eq_false hd;simp only[cond_false];rw[g2 (by omega)];simp only[cond_false];rw[SW g _ h.lg (by omega) (by omega)];simp only[Option.bind_some];cases mP:decide (b-(p.length:Int)<(g.length:Int))with
   |true=>exact⟨-1,rfl,.inl rfl⟩
   |false=>
    have mP:=of_decide_eq_false mP;simp only[cond_false];rw[g2 (by omega)];simp only[cond_false];rw[Rs j _ h.lj (by omega) (by omega)];simp only[Option.bind_some];cases hd3:decide (b-(p.length:Int)-(g.length:Int)<(j.length:Int))with
    |true=>exact⟨-1,rfl,.inl rfl⟩
    |false=>have hd3:=of_decide_eq_false hd3;simp only[cond_false];rw[g2 (by omega)];refine⟨_,rfl,.inr ⟨by omega,by omega,⟨?_,b3,by omega,by omega,by omega⟩⟩⟩;exact SX s a b h.ls ha PO e1 b0
theorem TM(n:Int):∃y,Ia a0 a1 a2 a3 a4 a5 a6 a7 a8 a9 a10 s p g j n=some (y,())/\FI a0 a1 a2 a3 a4 a5 a6 a7 a8 a9 a10 s p g j n=some (y,()):=by
 unfold Ia FI ii hD;simp only[mS,ev,Option.bind_some];have hz:ax (2147483646:Int)=false:=rfl;cases g6 a9 1 2147483646 with
 |false=>exact⟨_,rfl,rfl⟩
 |true=>
  cases g6 n 1 12 with
  |false=>exact⟨_,rfl,rfl⟩
  |true=>simp only[hz];exact⟨_,rfl,rfl⟩
end
end Go.Fn
namespace Go.R
def Yl{α:Type}(x:Option α)(P:α->Prop):Prop:=∃a,x=some a/\P a
section
variable {α β:Type} {P:α->Prop} {Q:β->Prop}
theorem Yl.ret{a:α}(h:P a):Yl (some a) P:=⟨a,rfl,h⟩
theorem Yl.bind{x:Option α}{f:α->Option β}(hx:Yl x P)(hf:∀a,P a->Yl (f a) Q):Yl (x.bind f) Q:=by obtain⟨a,rfl,ha⟩:=hx;exact hf a ha
theorem Yl.mono{P':α->Prop}{x:Option α}(hx:Yl x P)(h:∀a,P a->P' a):Yl x P':=by obtain⟨a,e,ha⟩:=hx;exact⟨a,e,h a ha⟩
theorem Yl.cond{b:Bool}{x y:Option α}(hx:b=true->Yl x P)(hy:b=false->Yl y P):Yl (bif b then x else y) P:=by
 cases b
 ·exact hy rfl
 ·exact hx rfl
theorem Yl.guard{b:Bool}{x:Option α}(hb:b=true)(hx:Yl x P):Yl (bif b then x else none) P:=by subst hb;exact hx
theorem Yl.lets{γ:Type}{v:γ}{k:γ->Option α}(h:Yl (k v) P):Yl (lets v k) P:=h
end
theorem KM{α:Type}{l:List α}(h:l.length<=1073741824):aE l=true:=by unfold aE limit;exact decide_eq_true (by omega)
open Go.Fn
end Go.R
set_option linter.unusedSimpArgs false
set_option linter.unusedVariables false
namespace Go.Fn
open Go.R Go.Sort
section
variable {α:Type} [Inhabited α] {lt:α->α->Bool}
theorem one:(1:Int)=((1:Nat):Int):=rfl
end
end Go.Fn
set_option linter.unusedSimpArgs false
set_option linter.unusedVariables false
namespace Go.Fn
open Go.R Go.Sort
section
variable {α:Type} [Inhabited α] {lt:α->α->Bool}
abbrev V0(α:Type):=Option (((List α)×Int×Int×Int×Bool×Bool×Unit)⊕((List α)×Unit⊕Empty))
noncomputable def Next(lt:α->α->Bool)(q:V0 α)(d:Array α)(a b:Nat):Prop:=
 (∃R,q=some (.inr (.inl (R.toList,())))/\PermIn a b d R/\SortedIn lt a b R) \/
 (∃(E:Array α) (a' b':Nat) (L:Int) (wb wp:Bool),q=some (.inl (E.toList,(a':Int),(b':Int),L,wb,wp,()))/\E.size=d.size/\a'<=b'/\b'<=b/\b'-a'<b-a/\Below lt a' b' E/\∀R,PermIn a' b' E R->SortedIn lt a' b' R->PermIn a b d R/\SortedIn lt a b R)
theorem Next.mono{q:V0 α}{d D:Array α}{a b:Nat}(h:Next lt q D a b)(p:PermIn a b d D):Next lt q d a b:=by
 rcases h with ⟨R,h1,h2,h3⟩|⟨E,a',b',L,wb,wp,h1,h2,h3,h4,h5,h6,h7⟩
 ·exact .inl ⟨R,h1,permIn_trans _ _ _ a b p h2,h3⟩
 ·refine .inr ⟨E,a',b',L,wb,wp,h1,by rw[h2,p.1],h3,h4,h5,h6,fun R hR hs=>?_⟩;obtain⟨k1,k2⟩:=h7 R hR hs;exact⟨permIn_trans _ _ _ a b p k1,k2⟩
end
end Go.Fn
set_option linter.unusedSimpArgs false
set_option linter.unusedVariables false
namespace Go.Fn
open Go.R Go.Sort
noncomputable def UZ(x y:Ev):Bool:=decide (x.1<y.1)||(decide (x.1=y.1)&&decide (x.2.1<y.2.1))
end Go.Fn
set_option linter.unusedSimpArgs false
set_option linter.unusedVariables false
namespace Go.Fn
open Go.R Go.Sort
theorem Q1{x y:Ev}:UZ x y=true↔x.1<y.1\/(x.1=y.1/\x.2.1<y.2.1):=by unfold UZ;simp
theorem VI{x y z:Ev}(h1:UZ x y=true)(h2:UZ y z=true):UZ x z=true:=by rw[Q1]at *;omega
abbrev VN(l:List Ev):Prop:=l.Pairwise fun x y=>UZ x y=true
theorem Tt:∀(l:List Ev),(∀n,n+1<l.length->UZ (l.getD n e7) (l.getD (n+1) e7)=true)->VN l
 | [],_=>List.Pairwise.nil
 | [x],_=>List.pairwise_singleton _ _
 |x::y::l,h=>by
  have ih:=Tt (y::l) (fun n hn=>h (n+1) (by simpa using hn));have hxy:UZ x y=true:=h 0 (by simp);refine List.Pairwise.cons (fun z hz=>?_) ih;rcases List.mem_cons.1 hz with rfl|hz
  ·exact hxy
  ·exact VI hxy ((List.pairwise_cons.1 ih).1 z hz)
theorem UT{l:List Ev}(h:TG l=true):VN l:=by refine Tt l fun n hn=>?_;have:=VH h hn;simp only[NT,Bool.and_eq_true,Tp,Bool.not_eq_true',Bool.or_eq_false_iff,Bool.and_eq_false_iff,decide_eq_false_iff_not]at this;rw[Q1];omega
end Go.Fn
set_option linter.unusedSimpArgs false
set_option linter.unusedVariables false
namespace Go.Fn
open Go.R Go.Sort
noncomputable def Sv(node:Int)(s:Int×Int×Nat×Nat)(x:Ev):Int×Int×Nat×Nat:=((bif decide (x.1=node)then x.2.1+1 else s.1),max s.2.1 (x.2.2.1+1),(bif decide (x.1<=node)then s.2.2.2+1 else s.2.2.1),s.2.2.2+1)
noncomputable def RV(l:List Ev)(node:Int):Int×Int×Nat×Nat:=l.foldl (Sv node) (1,1,0,0)
noncomputable def Xq(l:List Ev)(node kind JA a b:Int):Ev:=(node,(RV l node).1,(RV l node).2.1,kind,JA,a,b)
noncomputable def Rw(l:List Ev)(node kind JA a b:Int):List Ev:=l.take (RV l node).2.2.1++[Xq l node kind JA a b]++l.drop (RV l node).2.2.1
noncomputable def Vk(l:List Ev)(node kind JA a b:Int):List Ev×Bool:=bif TG l then bif TG (Rw l node kind JA a b)then(Rw l node kind JA a b,true)else(l,false)else(l,false)
structure Uf (node:Int) (p:List Ev) (s:Int×Int×Nat×Nat):Prop where
 c:s.2.2.2=p.length
 WR:s.2.2.1<=p.length
 s1:∀x,x∈p->x.1=node->x.2.1<s.1
 s2:s.1=1\/∃x,x∈p/\x.1=node/\s.1=x.2.1+1
 p1:∀x,x∈p->x.2.2.1<s.2.1
 p2:s.2.1=1\/∃x,x∈p/\s.2.1=x.2.2.1+1
 a1:∀x,x∈p.take s.2.2.1->x.1<=node
 a2:∀x,x∈p.drop s.2.2.1->node<x.1
theorem Tw{node:Int}{p:List Ev}{s:Int×Int×Nat×Nat}{x:Ev}(h:Uf node p s)(hp:VN (p++[x])):Uf node (p++[x]) (Sv node s x):=by
 have hlt:∀y,y∈p->UZ y x=true:=fun y hy=>(List.pairwise_append.1 hp).2.2 y hy x (List.mem_singleton.2 rfl);obtain⟨h1,h2,h3,h4,h5,h6,h7,h8⟩:=h;unfold Sv;refine⟨by simp[h1],?_,fun y hy hn=>?_,?_,fun y hy=>?_,?_,?_,?_⟩
 ·cases decide (x.1<=node) <;> simp <;> omega
 ·simp only[];rcases List.mem_append.1 hy with hy|hy
  ·by_cases hx:x.1=node
   ·rw[decide_eq_true hx];have:=hlt y hy;rw[Q1]at this;simp only[cond_true];omega
   ·rw[decide_eq_false hx];exact h3 y hy hn
  ·rw[List.mem_singleton]at hy;subst hy;rw[decide_eq_true hn];simp only[cond_true];omega
 ·simp only[];by_cases hx:x.1=node
  ·rw[decide_eq_true hx];exact .inr ⟨x,by simp,hx,rfl⟩
  ·rw[decide_eq_false hx];rcases h4 with h4|⟨y,hy,h4⟩
   ·exact .inl h4
   ·exact .inr ⟨y,List.mem_append_left _ hy,h4⟩
 ·simp only[];rcases List.mem_append.1 hy with hy|hy
  ·have:=h5 y hy;omega
  ·rw[List.mem_singleton]at hy;subst hy;omega
 ·simp only[];by_cases hm:s.2.1<=x.2.2.1+1
  ·exact .inr ⟨x,by simp,by omega⟩
  ·rcases h6 with h6|⟨y,hy,h6⟩
   ·exact .inl (by omega)
   ·exact .inr ⟨y,List.mem_append_left _ hy,by omega⟩
 ·simp only[];by_cases hx:x.1<=node
  ·rw[decide_eq_true hx];intro y hy;rw[cond_true,h1,List.take_of_length_le (by simp)]at hy;rcases List.mem_append.1 hy with hy|hy
   ·have:=hlt y hy;rw[Q1]at this;omega
   ·rw[List.mem_singleton]at hy;subst hy;exact hx
  ·rw[decide_eq_false hx];intro y hy;rw[cond_false,List.take_append_of_le_length h2]at hy;exact h7 y hy
 ·simp only[];by_cases hx:x.1<=node
  ·rw[decide_eq_true hx];intro y hy;rw[cond_true,h1,List.drop_of_length_le (by simp)]at hy;exact absurd hy List.not_mem_nil
  ·rw[decide_eq_false hx];intro y hy;rw[cond_false,List.drop_append_of_le_length h2]at hy;rcases List.mem_append.1 hy with hy|hy
   ·exact h8 y hy
   ·rw[List.mem_singleton]at hy;subst hy;omega
theorem St(node:Int):∀(l p:List Ev) (s:Int×Int×Nat×Nat),VN (p++l)->Uf node p s->Uf node (p++l) (l.foldl (Sv node) s)
 | [],p,s,_,h=>by simpa using h
 |x::l,p,s,hp,h=>by
  have e:p++x::l=(p++[x])++l:=by simp
  rw[e]at hp⊢;exact St node l (p++[x]) (Sv node s x) hp (Tw h (List.pairwise_append.1 hp).1)
theorem Su(node:Int){l:List Ev}(h:VN l):Uf node l (RV l node):=by have:=St node l [] (1,1,0,0) (by simpa using h) ⟨rfl,Nat.le_refl _,fun x hx=>absurd hx List.not_mem_nil,.inl rfl,fun x hx=>absurd hx List.not_mem_nil,.inl rfl,fun x hx=>absurd (List.mem_of_mem_take hx) List.not_mem_nil,fun x hx=>absurd (List.mem_of_mem_drop hx) List.not_mem_nil⟩;exact this
theorem LV{l:List Ev}{node kind JA a b:Int}(z:Ev):z∈Rw l node kind JA a b↔z=Xq l node kind JA a b\/z∈l:=by
 unfold Rw;rw[List.mem_append,List.mem_append,List.mem_singleton];constructor
 ·rintro((h|h)|h)
  ·exact .inr (List.mem_of_mem_take h)
  ·exact .inl h
  ·exact .inr (List.mem_of_mem_drop h)
 ·rintro(h|h)
  ·exact .inl (.inr h)
  ·rw[<-List.take_append_drop (RV l node).2.2.1 l,List.mem_append]at h;rcases h with h|h
   ·exact .inl (.inl h)
   ·exact .inr h
theorem TX{l:List Ev}(h:VN l)(node kind JA a b:Int):(Rw l node kind JA a b).length=l.length+1:=by have:=(Su node h).WR;unfold Rw;simp only[List.length_append,List.length_take,List.length_drop,List.length_singleton];omega
end Go.Fn
set_option linter.unusedSimpArgs false
set_option linter.unusedVariables false
namespace Go.Fn
open Go.R Go.Sort
structure Tu (n:Nat) (base:List Ev) (S:Int->Prop) (l:List Ev):Prop where
 j:TG l=true
 len:l.length<=n
 st:∀x,x∈l->x.2.2.1<=(n:Int)
 XP:∀x,x∈l->∀s:Int,1<=s->s<=x.2.1->∃y,y∈l/\y.1=x.1/\y.2.1=s
 sub:∀x,x∈base->x∈l
 new:∀x,x∈l->x∈base\/S x.1
theorem Tu.mono{n m:Nat}{base:List Ev}{S:Int->Prop}{l:List Ev}(h:Tu n base S l)(hm:n<=m):Tu m base S l:=⟨h.j,by have:=h.len;omega,fun x hx=>by have:=h.st x hx;omega,h.XP,h.sub,h.new⟩
theorem Tu.add{n:Nat}{base:List Ev}{S:Int->Prop}{l:List Ev}(h:Tu n base S l){node:Int}(hS:S node)(kind JA a b:Int):Tu (n+1) base S (Vk l node kind JA a b).1:=by
 unfold Vk;rw[h.j];simp only[cond_true];cases hw:TG (Rw l node kind JA a b)with
 |false=>exact h.mono (Nat.le_succ _)
 |true=>
  have hs:=UT h.j;have hi:=Su node hs;simp only[cond_true];refine⟨hw,by rw[TX hs];have:=h.len;omega,fun x hx=>?_,fun x hx s h1 h2=>?_,fun x hx=>(LV x).2 (.inr (h.sub x hx)),fun x hx=>?_⟩
  ·rcases(LV x).1 hx with e|e
   ·rw[e];show(RV l node).2.1<=_;rcases hi.p2 with p|⟨y,hy,p⟩
    ·rw[p];omega
    ·rw[p];have:=h.st y hy;omega
   ·have:=h.st x e;omega
  ·rcases(LV x).1 hx with e|e
   ·subst e;have h2:s<=(RV l node).1:=h2;by_cases e:s=(RV l node).1
    ·exact⟨_,hx,rfl,e.symm⟩
    ·rcases hi.s2 with p|⟨y,hy,q,p⟩
     ·omega
     ·obtain⟨z,hz,e1,e2⟩:=h.XP y hy s h1 (by omega);exact⟨z,(LV z).2 (.inr hz),by rw[e1,q];rfl,e2⟩
   ·obtain⟨z,hz,e1,e2⟩:=h.XP x e s h1 h2;exact⟨z,(LV z).2 (.inr hz),e1,e2⟩
  ·rcases(LV x).1 hx with e|e
   ·rw[e];exact .inr hS
   ·exact h.new x e
end Go.Fn
set_option linter.unusedSimpArgs false
set_option linter.unusedVariables false
namespace Go.Fn
open Go.R
section
variable {a0 a1:Int} {g:List (List Int)} {s:List Ou}
noncomputable def lg(g:List (List Int))(p q:Int):Int:=leg g p.toNat q.toNat
end
end Go.Fn
set_option linter.unusedVariables false
namespace Go.Fn
open Go.R
noncomputable def Je(a:Unit)(b:z2×Kp):Option (z2×Kp⊕VT⊕Empty):=letI c:=b.2.2.1;cond (af .lss c (ai b.1)) (cond (ah b.1 c) ((n6 (ae g8 b.1 c) b.2.1).bind fun d=>some (.inl (aC b.1 c d.2.1,d.1,aa .add .i64 c 1,()))) none) (some (.inr (.inl (b.1,b.2.1,()))))
noncomputable def Jf k x:=iter (Je k) big x
noncomputable def r5(a:z2)(b:Int):Option (Int×Vi):=(Jf () (a,b,0,())).bind fun c=>Sum.elim (fun d=>some (d.2.1,d.1,())) (fun d=>Empty.elim d) c
noncomputable def Jn(a:Unit)(b:Ir×Kp):Option (Ir×Kp⊕Ir×DM⊕Empty):=letI c:=b.2.2.1;letI d:=aa .add .i64 b.2.1 1;letI e:=(ae j0 b.1 c).2;letI f:=aC b.1 c (b.2.1,e.1,e.2.1,e.2.2.1,e.2.2.2);letI g:=ae j0 f c;cond (af .lss c (ai b.1)) (cond (ah b.1 c) (cond (ah f c) (lets (aC f c (g.1,d,g.2.2.1,g.2.2.2.1,g.2.2.2.2)) fun h=>letI i:=ae j0 h c;letI j:=aa .add .i64 d 1;cond (ah h c) (lets (aC h c (i.1,i.2.1,j,i.2.2.2.1,i.2.2.2.2)) fun k=>letI l:=ae j0 k c;letI m:=aa .add .i64 j 1;cond (ah k c) (lets (aC k c (l.1,l.2.1,l.2.2.1,m,l.2.2.2.2)) fun n=>letI o:=ae j0 n c;letI p:=aa .add .i64 m 1;cond (ah n c) (lets (aC n c (o.1,o.2.1,o.2.2.1,o.2.2.2.1,p)) fun q=>some (.inl (q,aa .add .i64 p 1,aa .add .i64 c 1,()))) none) none) none) none) none) (some (.inr (.inl (b.1,b.2.1,()))))
noncomputable def Jo k x:=iter (Jn k) big x
noncomputable def Jm(a:Ir)(b:Int):Option (Int×Ir×Unit):=(Jo () (a,b,0,())).bind fun c=>Sum.elim (fun d=>some (d.2.1,d.1,())) (fun d=>Empty.elim d) c
noncomputable def Jg(a b:Int)(c:z2)(d:Ir)(e:Int):Option Xx:=(r5 c e).bind fun f=>(Jm d f.1).bind fun g=>some (g.1,f.2.1,g.2.1,())
end Go.Fn
set_option linter.unusedVariables false
set_option linter.unusedSimpArgs false
namespace Go.Fn
open Go.R
noncomputable def cc{α:Type}(mk:Int->α->α×Int):List α->Int->List α×Int
 | [],k=>([],k)
 |x::xs,k=>((mk k x).1::(cc mk xs (mk k x).2).1,(cc mk xs (mk k x).2).2)
theorem Rh{α:Type}(mk:Int->α->α×Int)(y:α):∀(l:List α) (k:Int),cc mk (l++[y]) k=((cc mk l k).1++[(mk (cc mk l k).2 y).1],(mk (cc mk l k).2 y).2)
 | [],k=>rfl
 |x::xs,k=>by simp only[List.cons_append,cc,Rh mk y xs]
theorem NY{α:Type}(mk:Int->α->α×Int):∀(l:List α) (k:Int),(cc mk l k).1.length=l.length
 | [],k=>rfl
 |x::xs,k=>by simp only[cc,List.length_cons,NY mk xs]
noncomputable def gI{α:Type}(cost:α->Nat):List α->Nat
 | []=>0
 |x::xs=>cost x+gI cost xs
theorem RK{α:Type}(cost:α->Nat):∀(l l':List α),gI cost (l++l')=gI cost l+gI cost l'
 | [],_=>by simp[gI]
 |x::xs,l'=>by simp only[List.cons_append,gI,RK cost xs];omega
theorem hG{α:Type}(c:Nat):∀l:List α,gI (fun _=>c) l=c*l.length
 | []=>rfl
 |x::xs=>by simp only[gI,hG c xs,List.length_cons,Nat.mul_succ];omega
theorem Q9{α:Type}(cost:α->Nat)(l:List α)(n:Nat):gI cost (l.take n)<=gI cost l:=by have:=RK cost (l.take n) (l.drop n);rw[List.take_append_drop]at this;omega
theorem JS{α:Type}{mk:Int->α->α×Int}{cost:α->Nat}(hm:∀k x,k<=(mk k x).2/\(mk k x).2<=k+cost x):∀(l:List α) (k:Int),k<=(cc mk l k).2/\(cc mk l k).2<=k+gI cost l
 | [],k=>by simp[cc,gI]
 |x::xs,k=>by have h1:=hm k x;have h2:=JS hm xs (mk k x).2;simp only[cc,gI];omega
theorem KJ {α:Type} {body:List α×Int×Int×Unit->Option ((List α×Int×Int×Unit)⊕(List α×Int×Unit⊕Empty))} {mk:Int->α->α×Int} {cost:α->Nat} (z:α) (l:List α) (k0:Int) (hl:l.length<=1073741824) (h0:0<=k0)
  (hm:∀k x,k<=(mk k x).2/\(mk k x).2<=k+cost x)
  (hs:∀(L:List α) (k:Int) (n:Nat),n<L.length->L.length=l.length->L.getD n z=l.getD n z->0<=k->k<=k0+gI cost l->body (L,k,(n:Int),())=some (.inl (L.set n (mk k (l.getD n z)).1,(mk k (l.getD n z)).2,((n+1:Nat):Int),())))
  (he:∀(L:List α) (k:Int),body (L,k,(L.length:Int),())=some (.inr (.inl (L,k,())))):iter body big (l,k0,0,())=some (.inl ((cc mk l k0).1,(cc mk l k0).2,())):=by
 have hst:∀n,n<=l.length->((cc mk (l.take n) k0).1++l.drop n).length=l.length:=by intro n hn;rw[List.length_append,NY,List.length_take,List.length_drop];omega
 have:=aR (body:=body) (fun n=>((cc mk (l.take n) k0).1++l.drop n,(cc mk (l.take n) k0).2,(n:Int),())) l.length (by omega) (.inl ((cc mk l k0).1,(cc mk l k0).2,())) (fun n hn=>?_) ?_
 ·simpa[cc] using this
 ·have hb:=JS hm (l.take n) k0;have hc:=Q9 cost l n;have UF:(cc mk (l.take n) k0).1.length=n:=by rw[NY,List.length_take];omega
  have om:((cc mk (l.take n) k0).1++l.drop n).getD n z=l.getD n z:=by rw[List.getD_eq_getElem?_getD,List.getElem?_append_right (by omega),UF,Nat.sub_self,List.getElem?_drop,Nat.add_zero,<-List.getD_eq_getElem?_getD]
  rw[hs _ _ n (by rw[hst n (Nat.le_of_lt hn)];exact hn) (hst n (Nat.le_of_lt hn)) om (by omega) (by omega)];have jS:l.take (n+1)=l.take n++[l.getD n z]:=by rw[List.take_add_one,List.getElem?_eq_getElem hn,List.getD_eq_getElem?_getD,List.getElem?_eq_getElem hn];rfl
  rw[jS,Rh];congr 3;rw[List.set_append,if_neg (by omega),UF,Nat.sub_self,List.drop_eq_getElem_cons hn,List.set_cons_zero,List.append_assoc];rfl
 ·have hlen:((cc mk l k0).1).length=l.length:=NY _ _ _;have:=he (cc mk l k0).1 (cc mk l k0).2;rw[hlen]at this;simp only[List.take_length,List.drop_length,List.append_nil];exact this
theorem SJ {α:Type} {mk:Int->α->α×Int} {cost:α->Nat} {Y:Type} {body:Int×Int×Unit->Option ((Int×Int×Unit)⊕(Y⊕(Int×Unit⊕Empty)))} (z:α) (l:List α) (k0:Int) (hl:l.length<=1073741824) (h0:0<=k0)
  (hm:∀k x,k<=(mk k x).2/\(mk k x).2<=k+cost x)
  (hs:∀(k:Int) (n:Nat),n<l.length->0<=k->k<=k0+gI cost l->(cc mk l k0).1.getD n z=(mk k (l.getD n z)).1->body (k,(n:Int),())=some (.inl ((mk k (l.getD n z)).2,((n+1:Nat):Int),())))
  (he:∀k:Int,body (k,(l.length:Int),())=some (.inr (.inr (.inl (k,()))))):iter body big (k0,0,())=some (.inr (.inl ((cc mk l k0).2,()))):=by
 have:=aR (body:=body) (fun n=>((cc mk (l.take n) k0).2,(n:Int),())) l.length (by omega) (.inr (.inl ((cc mk l k0).2,()))) (fun n hn=>?_) (by rw[List.take_length];exact he _)
 ·simpa[cc] using this
 ·have hb:=JS hm (l.take n) k0;have hc:=Q9 cost l n;have jS:l.take (n+1)=l.take n++[l.getD n z]:=by rw[List.take_add_one,List.getElem?_eq_getElem hn,List.getD_eq_getElem?_getD,List.getElem?_eq_getElem hn];rfl
  have om:(cc mk l k0).1.getD n z=(mk (cc mk (l.take n) k0).2 (l.getD n z)).1:=by
   have Yj:∀(a b:List α) (k:Int),(cc mk (a++b) k).1=(cc mk a k).1++(cc mk b (cc mk a k).2).1:=by
    intro a;induction a with
    |nil=>intro b k;rfl
    |cons x a ih=>intro b k;simp only[List.cons_append,cc,ih]
   have hd:l.drop n=l.getD n z::l.drop (n+1):=by rw[List.drop_eq_getElem_cons hn,List.getD_eq_getElem?_getD,List.getElem?_eq_getElem hn];rfl
   have h1:=Yj (l.take n) (l.drop n) k0;rw[List.take_append_drop]at h1;have UF:(cc mk (l.take n) k0).1.length=n:=by rw[NY,List.length_take];omega
   rw[h1,List.getD_eq_getElem?_getD,List.getElem?_append_right (by omega),UF,Nat.sub_self,hd];rfl
  rw[hs _ n hn (by omega) (by omega) om,jS,Rh]
noncomputable def Pf(k:Int)(x:List Int):List Int×Int:=(J9 k x.length,k+(x.length:Int))
theorem Ql(l:List (List Int))(k:Int)(hl:l.length<=1073741824)(hr:∀r∈l,r.length<=1073741824)(h0:0<=k)(h1:k+gI List.length l<=1125899906842624):r5 l k=some ((cc Pf l k).2,(cc Pf l k).1,()):=by
 unfold r5;have:Jf () (l,k,0,())=some (.inl ((cc Pf l k).1,(cc Pf l k).2,())):=by
  refine KJ (cost:=List.length) g8 l k hl h0 (fun k x=>⟨by show k<=k+(x.length:Int);omega,Int.le_refl _⟩) (fun L k' n hn hL hg lA cQ=>?_) (fun L k'=>?_)
  ·have hlt:n<l.length:=by omega
   have hrow:(l.getD n g8).length<=1073741824:=hr _ (by rw[List.getD_eq_getElem?_getD,List.getElem?_eq_getElem hlt];exact List.getElem_mem hlt);unfold Je;simp only[aj,az,hn,decide_true,cond_true,aq,hg,OJ (l.getD n g8) k' hrow lA (by omega),Option.bind_some,aN,av (n:=n) (by omega)];rfl
  ·unfold Je;simp only[aj,Nat.lt_irrefl,decide_false,cond_false]
 rw[this];rfl
noncomputable def Nn(k:Int)(x:Ou):Ou×Int:=((k,k+1,k+1+1,k+1+1+1,k+1+1+1+1),k+1+1+1+1+1)
theorem Sc(l:List Ou)(k:Int)(hl:l.length<=1073741824)(h0:0<=k)(h1:k+5*(l.length:Int)<=1125899906842624):Jm l k=some ((cc Nn l k).2,(cc Nn l k).1,()):=by
 unfold Jm;have:Jo () (l,k,0,())=some (.inl ((cc Nn l k).1,(cc Nn l k).2,())):=by
  refine KJ (cost:=fun _=>5) j0 l k hl h0 (fun k x=>⟨by show k<=k+1+1+1+1+1;omega,by show k+1+1+1+1+1<=k+5;omega⟩) (fun L q n hx hL hg lA cQ=>?_) (fun L k'=>?_)
  ·rw[hG]at cQ;unfold Nn;have a1:aa .add .i64 q 1=q+1:=JR (by omega) (by omega);have a2:aa .add .i64 (q+1) 1=q+1+1:=JR (by omega) (by omega);have a3:aa .add .i64 (q+1+1) 1=q+1+1+1:=JR (by omega) (by omega);have a4:aa .add .i64 (q+1+1+1) 1=q+1+1+1+1:=JR (by omega) (by omega);have a5:aa .add .i64 (q+1+1+1+1) 1=q+1+1+1+1+1:=JR (by omega) (by omega);unfold Jn;simp only[aj,az,hx,decide_true,cond_true,av (n:=n) (by omega),aN,aq,a1,a2,a3,a4,a5];repeat (first|rw[aV]|simp only[je,List.length_set,hx,decide_true,cond_true,aN,aq,aF hx,List.set_set,a5])
  ·unfold Jn;simp only[aj,Nat.lt_irrefl,decide_false,cond_false]
 rw[this];rfl
theorem Q8{l:List (List Int)}{b:Nat}(h:∀r∈l,r.length<=b):gI List.length l<=l.length*b:=by
 induction l with
 |nil=>simp[gI]
 |cons x xs ih=>have h1:=h x (by simp);have h2:=ih fun r hr=>h r (by simp[hr]);simp only[gI,List.length_cons,Nat.succ_mul];omega
end Go.Fn
set_option linter.unusedVariables false
set_option linter.unusedSimpArgs false
namespace Go.Fn
open Go.R
section
variable (a0 a1:Int) (g:List (List Int)) (s:List Ou)
abbrev SB:Type:=Bool×Int×List Int×Unit
end
end Go.Fn
set_option linter.unusedVariables false
namespace Go.Fn
open Go.R
noncomputable def hM(a:Int):mo:=(bt a 1 40).bind fun b=>some (b.1,())
noncomputable def LP(a:Int):mo:=(bt a 0 20000).bind fun b=>some (b.1,())
noncomputable def JB(a b c d e f:Int)(g:Bool):mo:=(hM a).bind fun h=>letI i:=some (false,());cond h.1 ((hM b).bind fun j=>cond j.1 (cond (af .neq a b) ((bt c 0 999).bind fun k=>cond k.1 ((bt d 0 5).bind fun l=>cond l.1 ((LP e).bind fun m=>cond m.1 ((LP f).bind fun n=>cond n.1 (some (af .lss e f,())) i) i) i) i) i) i) i
noncomputable def Kd(a:VR)(b:DM):Pj:=letI c:=ae cx a.1 b.1;letI d:=c.2.2.2;cond (af .lss b.1 (ai a.1)) (cond (ah a.1 b.1) ((JB c.1 c.2.1 c.2.2.1 d.1 d.2.1 d.2.2.1 d.2.2.2).bind fun e=>cond (Bool.not e.1) (some (.inr (.inl (false,())))) (some (.inl (aa .add .i64 b.1 1,())))) none) (some (.inr (.inr (.inl ()))))
noncomputable def Ke k x:=iter (Kd k) big x
noncomputable def Kx(a:KR):mo:=cond (af .gtr (ai a) 30) (some (false,())) ((Ke (a,()) (0,())).bind fun b=>Sum.elim (fun c=>some (c.1,())) (fun c=>Sum.elim (fun _=>some (true,())) (fun d=>Empty.elim d) c) b)
noncomputable def Km(a:Int×nw×QX×Kp)(b:Z9):Option (Z9⊕Tv⊕XM⊕Empty):=letI c:=b.2.2;letI d:=c.2.2.1;letI e:=(b.1,b.2.1,c.1,c.2.1,aa .add .i64 d 1,());cond (af .lss d a.2.2.2.2.1) (cond (af .gtr c.1 0) (cond (ah a.2.2.1 d) (cond (af .eql (ae hU a.2.2.1 d).2.2.1 c.1) (some (.inr (.inl (false,())))) (some (.inl e))) none) (some (.inl e))) (some (.inr (.inr (.inl (b.1,b.2.1,c.1,c.2.1,())))))
noncomputable def yt k x:=iter (Km k) big x
noncomputable def Kl(a:XB)(b:Kp):Vs:=letI c:=(false,());letI d:=b.2.1;letI e:=a.2.2.1;letI f:=ae hU e d;cond (af .lss d (ai e)) (cond (ah e d) (cond (af .neq f.1 b.1) (some (.inr (.inl c))) ((bt f.2.1 1 24).bind fun g=>cond (Bool.not g.1) (some (.inr (.inl c))) ((bt f.2.2.1 0 999).bind fun h=>cond (Bool.not h.1) (some (.inr (.inl c))) ((yt (a.1,a.2.1,e,b.1,d,()) (f.1,f.2.1,f.2.2.1,f.2.2.2,0,())).bind fun i=>Sum.elim (fun j=>some (.inr (.inl (j.1,())))) (fun j=>Sum.elim (fun k=>letI l:=aa .add .i64 b.1 k.2.1;cond (af .gtr l 24) (some (.inr (.inl c))) (some (.inl (l,aa .add .i64 d 1,())))) (fun k=>Empty.elim k) j) i)))) none) (some (.inr (.inr (.inl (b.1,())))))
noncomputable def Kn k x:=iter (Kl k) big x
noncomputable def Kz(a:Int)(b:nw)(c:QX):mo:=(Kn (a,b,c,()) (0,0,())).bind fun d=>Sum.elim (fun e=>some (e.1,())) (fun e=>Sum.elim (fun f=>cond (af .gtr (ai c) 0) (some (af .eql f.1 a,())) (some (false,()))) (fun f=>Empty.elim f) e) d
noncomputable def xn(a:Int×nw×Vx)(b:Bool×DM):Option (Bool×DM⊕Tv⊕Empty):=letI c:=a.2.2;letI d:=aa .add .i64 b.2.1 1;cond (af .lss b.2.1 (ai c.1)) (cond b.1 (some (.inl (true,d,()))) (cond (ah c.1 b.2.1) (cond (ah a.2.1 c.2.1) (some (.inl (af .eql (ae hU c.1 b.2.1).1 (ae zI a.2.1 c.2.1),d,()))) none) none)) (some (.inr (.inl (b.1,()))))
noncomputable def Kc k x:=iter (xn k) big x
noncomputable def Ka(a:XB)(b:DM):Pj:=letI c:=b.1;letI d:=a.2.1;cond (af .lss c (ai d)) (cond (ah d c) ((bt (ae zI d c) 1 (aa .sub .i64 a.1 1)).bind fun e=>letI f:=(false,());letI g:=aa .sub .i64 c 1;letI h:=(aa .add .i64 c 1,());letI i:=Kc (a.1,d,a.2.2.1,c,()) (false,0,());cond (Bool.not e.1) (some (.inr (.inl f))) (cond (af .gtr c 0) (cond (ah d c) (cond (ah d g) (cond (af .leq (ae zI d c) (ae zI d g)) (some (.inr (.inl f))) (i.bind fun j=>Sum.elim (fun k=>cond (Bool.not k.1) (some (.inr (.inl f))) (some (.inl h))) (fun k=>Empty.elim k) j)) none) none) (i.bind fun j=>Sum.elim (fun k=>cond (Bool.not k.1) (some (.inr (.inl f))) (some (.inl h))) (fun k=>Empty.elim k) j))) none) (some (.inr (.inr (.inl ()))))
noncomputable def Kb k x:=iter (Ka k) big x
noncomputable def H9(a:Int)(b:nw)(c:QX):mo:=(bt a 1 24).bind fun d=>letI e:=some (false,());cond (Bool.not d.1) e ((Kz a b c).bind fun f=>cond (Bool.not f.1) e ((Kb (a,b,c,()) (0,())).bind fun g=>Sum.elim (fun h=>some (h.1,())) (fun h=>Sum.elim (fun _=>some (true,())) (fun i=>Empty.elim i) h) g))
noncomputable def JN(a:Int×XB)(b:DM):XL:=letI c:=a.2.2.2.1;letI d:=(aa .add .i64 b.1 1,());cond (af .lss b.1 (ai c)) (cond (ah c b.1) (cond (af .eql (ae hU c b.1).2.2.1 a.1) (cond (af .gtr a.1 0) (some (.inr (.inl (b.1,())))) (some (.inl d))) (some (.inl d))) none) (some (.inr (.inr (.inl ()))))
noncomputable def Mz k x:=iter (JN k) big x
noncomputable def KP(a:Int)(b:nw)(c:QX)(d:Int):QK:=(Mz (d,a,b,c,()) (0,())).bind fun e=>Sum.elim (fun f=>some (f.1,())) (fun f=>Sum.elim (fun _=>some (-1,())) (fun g=>Empty.elim g) f) e
noncomputable def Mv(a:QY×Kp)(b:DM):Pj:=letI c:=ae cn a.1 a.2.2.1;letI d:=(ae cn a.1 a.2.1).2.2;cond (ah a.1 a.2.1) (cond (af .lss b.1 (ai d)) (cond (ah a.1 a.2.2.1) (cond (ah a.1 a.2.1) (cond (ah d b.1) ((KP c.1 c.2.1 c.2.2 (ae hU d b.1).2.2.1).bind fun e=>cond (af .geq e.1 0) (some (.inr (.inl (false,())))) (some (.inl (aa .add .i64 b.1 1,())))) none) none) none) (some (.inr (.inr (.inl ()))))) none
noncomputable def My k x:=iter (Mv k) big x
noncomputable def Mu(a:VU)(b:DM):Pj:=cond (af .lss b.1 a.2.1) ((My (a.1,a.2.1,b.1,()) (0,())).bind fun c=>Sum.elim (fun d=>some (.inr (.inl (d.1,())))) (fun d=>Sum.elim (fun _=>some (.inl (aa .add .i64 b.1 1,()))) (fun e=>Empty.elim e) d) c) (some (.inr (.inr (.inl ()))))
noncomputable def Mx k x:=iter (Mu k) big x
noncomputable def Mt(a:Vu)(b:DM):Pj:=letI c:=ae cn a.1 b.1;cond (af .lss b.1 (ai a.1)) (cond (ah a.1 b.1) ((H9 c.1 c.2.1 c.2.2).bind fun d=>cond (Bool.not d.1) (some (.inr (.inl (false,())))) ((Mx (a.1,b.1,()) (0,())).bind fun e=>Sum.elim (fun f=>some (.inr (.inl (f.1,())))) (fun f=>Sum.elim (fun _=>some (.inl (aa .add .i64 b.1 1,()))) (fun g=>Empty.elim g) f) e)) none) (some (.inr (.inr (.inl ()))))
noncomputable def Mw k x:=iter (Mt k) big x
noncomputable def KO(a:QY):mo:=(bt (ai a) 1 6).bind fun b=>cond (Bool.not b.1) (some (false,())) ((Mw (a,()) (0,())).bind fun c=>Sum.elim (fun d=>some (d.1,())) (fun d=>Sum.elim (fun _=>some (true,())) (fun e=>Empty.elim e) d) c)
noncomputable def ON(a b:Int)(c d e:Bool):mo:=some (bQ e (af .eql a 2),())
noncomputable def IG(a b:Int)(c d e:Bool):mo:=(bt a 0 2).bind fun f=>letI g:=some (false,());cond (Bool.not f.1) g ((bt b 0 6).bind fun h=>letI i:=some (Bool.not c,());letI j:=ON a b c d e;letI k:=cond c (some (Bool.not d,())) g;letI l:=cond (af .eql a 0) (cond (af .eql b 0) i g) (cond (af .eql b 1) (j.bind fun l=>cond l.1 i g) (cond (af .eql b 2) (j.bind fun l=>cond l.1 k g) (cond (af .eql b 3) (j.bind fun l=>cond l.1 (some (d,())) g) (cond (af .eql b 4) (j.bind fun l=>cond (Bool.not l.1) (some (d,())) g) (cond (af .eql b 5) k (cond (af .eql b 6) i (some (true,()))))))));cond (Bool.not h.1) g (cond d (cond (Bool.not c) g l) l))
noncomputable def JO(a b c d e f g h i j k:Int)(l:KQ)(m:M3)(n:KR)(o:Ko)(p:Int):mo:=letI q:=ae aS l p;cond (ah l p) ((sS q.1 q.2.1).bind fun r=>letI s:=some (false,());cond (Bool.not r.1) s ((KO q.2.2.1).bind fun t=>letI u:=q.2.2.2;letI v:=u.2.2.2;cond (Bool.not t.1) s ((IG u.1 u.2.1 u.2.2.1 v.1 v.2.1).bind fun w=>letI x:=v.2.2;cond (Bool.not w.1) s ((lm x.2.2).bind fun y=>letI z:=af .eql x.2.1 0;cond (Bool.not y.1) s (cond (af .eql x.1 0) (lets (Bool.and (af .eql u.1 0) (Bool.and (af .eql u.2.1 0) (Bool.and (bQ u.2.2.1 false) (Bool.and (bQ v.1 false) (Bool.and (bQ v.2.1 false) true))))) fun A=>cond A (some (z,())) s) ((bt x.1 1 (ai m)).bind fun A=>letI B:=aa .sub .i64 x.1 1;letI C:=(ae bf m B).2.2;letI D:=cond (af .eql u.1 2) ((bt x.2.1 0 40).bind fun D=>some (D.1,())) s;cond (Bool.not A.1) s (cond (ah m B) (cond (af .neq C.1 p) s (cond (ah m B) (cond (af .neq C.2.1 2) s (cond (af .eql u.1 1) (cond z (some (true,())) D) D)) none)) none))))))) none
noncomputable def mm(a b c d e f g h i j k:Int)(l:KQ)(m:M3)(n:KR)(o:Ko)(p:Int):mo:=letI q:=some (true,());letI r:=(ae bf m p).2.2;cond (ah m p) (cond (af .eql r.2.1 0) q (cond (af .eql r.2.1 1) q (cond (af .eql r.2.1 2) (cond (ah l r.1) (some (af .eql (ae aS l r.1).2.2.2.1 1,())) none) (some (false,()))))) none
noncomputable def Nq(a b c d e:Int):mo:=(ii a).bind fun f=>letI g:=some (false,());cond f.1 ((bt b 0 1000001).bind fun h=>cond h.1 ((bt c 0 2).bind fun i=>cond i.1 ((bt d 0 6).bind fun j=>cond j.1 ((bt e 0 20064).bind fun k=>some (k.1,())) g) g) g) g
noncomputable def yx(a b c d e f g h i j k:Int)(l:KQ)(m:M3)(n:KR)(o:Ko)(p:Int):mo:=letI q:=ae bf m p;cond (ah m p) ((bt q.1 1 24).bind fun r=>letI s:=some (false,());cond (Bool.not r.1) s ((hM q.2.1).bind fun t=>letI u:=(0:Int);cond (Bool.not t.1) s ((bt q.2.2.1 u (aa .sub .i64 (ai l) 1)).bind fun v=>letI w:=q.2.2.2;cond (Bool.not v.1) s ((bt w.1 u 5).bind fun x=>letI y:=aa .add .i64 p 1;letI z:=(mm a b c d e f g h i j k l m n o p).bind fun z=>letI A:=w.2.2.2;letI B:=A.2.2;letI C:=B.2.2.2;letI D:=af .eql C.1 u;letI E:=af .eql C.2 u;cond z.1 (cond (af .eql w.2.1 u) (cond (af .eql w.2.2.1 u) (cond D (cond E (lets (Bool.and (af .eql A.1 u) (Bool.and (af .eql A.2.1 u) (Bool.and (af .eql B.1 u) (Bool.and (af .eql B.2.1 u) (Bool.and (af .eql B.2.2.1 u) true))))) fun F=>some (F,())) s) s) s) s) ((bt w.2.1 u k).bind fun F=>cond (Bool.not F.1) s ((bt w.2.2.1 u h).bind fun G=>cond (Bool.not G.1) s ((Nq A.1 A.2.1 B.1 B.2.1 B.2.2.1).bind fun H=>cond (Bool.not H.1) s ((Ia a b c d e f g h i j k l m n o y).bind fun I=>cond (af .neq A.1 I.1) s (cond (af .eql w.1 4) ((hM C.1).bind fun J=>cond J.1 ((bt C.2 u (aa .add .i64 e (aa .mul .i64 g h))).bind fun K=>some (K.1,())) s) (cond D (some (E,())) s))))));cond (Bool.not x.1) s (cond (af .eql w.1 2) (cond (ah l q.2.2.1) (cond (af .neq (ae aS l q.2.2.1).2.2.2.2.2.2.2.2.1 y) s z) none) z))))) none
noncomputable def Iw(a:Int×Int×Int×Int×Int×Int×Int×Int×Int×Int×Int×KQ×M3×KR×Ko×Int×Int×Vt)(b:Kp):Vs:=letI c:=(false,());letI d:=aa .add .i64 b.2.1 1;letI e:=a.2.2.2.2.2.2.2.2.2.2.2.2;letI f:=e.2.2.2.2.2.1;letI g:=ah f b.2.1;letI h:=(ae hU f b.2.1).2;letI i:=aa .sub .i64 h.2.1 1;letI j:=ae bf e.1 i;letI k:=j.2.2.2.2.2.2.2.2.2;cond (af .lss b.2.1 (ai f)) (cond g (cond (af .eql h.2.1 0) (some (.inl (b.1,d,()))) (cond (af .gtr h.2.1 (ai e.1)) (some (.inr (.inl c))) (cond (ah e.1 i) (lets k.1 fun _=>lets k.2.1 fun _=>lets k.2.2.1 fun _=>lets k.2.2.2 fun _=>lets (af .neq j.2.2.1 e.2.2.2.1) fun l=>cond l (some (.inr (.inl c))) (cond g (lets (af .neq j.1 h.1) fun m=>letI n:=j.2.2.2.1;cond m (some (.inr (.inl c))) (lets (af .neq n 2) fun o=>letI p:=(aa .add .i64 b.1 1,d,());letI q:=af .eql n 2;cond o (lets (af .neq n 3) fun r=>cond r (some (.inr (.inl c))) (lets q fun s=>cond s (cond g (cond h.2.2 (some (.inr (.inl c))) (some (.inl p))) none) (some (.inl p)))) (lets q fun r=>cond r (cond g (cond h.2.2 (some (.inr (.inl c))) (some (.inl p))) none) (some (.inl p))))) none)) none))) none) (some (.inr (.inr (.inl (b.1,())))))
noncomputable def Iz k x:=iter (Iw k) big x
noncomputable def Iv(a:Xu)(b:Kp):Vs:=letI c:=b.2.1;letI d:=a.2.2.2;letI e:=d.2.2.2;letI f:=e.2.2.2.2.2;letI g:=f.2.2.2.2.1;letI h:=(ae aS f.1 g).2.2.1;cond (ah f.1 g) (cond (af .lss c (ai h)) (cond (ah f.1 g) (cond (ah h c) ((Iz (a.1,a.2.1,a.2.2.1,d.1,d.2.1,d.2.2.1,e.1,e.2.1,e.2.2.1,e.2.2.2.1,e.2.2.2.2.1,f.1,f.2.1,f.2.2.1,f.2.2.2.1,g,c,(ae cn h c).2.2,()) (b.1,0,())).bind fun i=>Sum.elim (fun j=>some (.inr (.inl (j.1,())))) (fun j=>Sum.elim (fun k=>some (.inl (k.1,aa .add .i64 c 1,()))) (fun k=>Empty.elim k) j) i) none) none) (some (.inr (.inr (.inl (b.1,())))))) none
noncomputable def Iy k x:=iter (Iv k) big x
noncomputable def Iu(a:UE)(b:Kp):Vs:=letI c:=a.2.2.2.2;letI d:=c.2.2.2.2;letI e:=d.2.2.2;cond (af .lss b.2.1 (ai e.1)) ((Iy (a.1,a.2.1,a.2.2.1,a.2.2.2.1,c.1,c.2.1,c.2.2.1,c.2.2.2.1,d.1,d.2.1,d.2.2.1,e.1,e.2.1,e.2.2.1,e.2.2.2.1,b.2.1,()) (b.1,0,())).bind fun f=>Sum.elim (fun g=>some (.inr (.inl (g.1,())))) (fun g=>Sum.elim (fun h=>some (.inl (h.1,aa .add .i64 b.2.1 1,()))) (fun h=>Empty.elim h) g) f) (some (.inr (.inr (.inl (b.1,())))))
noncomputable def MA k x:=iter (Iu k) big x
noncomputable def Ix(a:UE)(b:Kp):VP:=letI c:=b.2.1;letI d:=aa .add .i64 c 1;letI e:=a.2.2.2.2.2.2.2.2.2.2.2.2.1;letI f:=(aa .sub .i64 b.1 1,d,());letI g:=(ae bf e c).2.2.2.1;cond (af .lss c (ai e)) (cond (ah e c) (cond (af .eql g 2) (some (.inl f)) (cond (ah e c) (cond (af .eql g 3) (some (.inl f)) (some (.inl (b.1,d,())))) none)) none) (some (.inr (.inl (b.1,()))))
noncomputable def MB k x:=iter (Ix k) big x
noncomputable def Io(a b c d e f g h i j k:Int)(l:KQ)(m:M3)(n:KR)(o:Ko):mo:=letI p:=(a,b,c,d,e,f,g,h,i,j,k,l,m,n,o,());(MA p (0,0,())).bind fun q=>Sum.elim (fun r=>some (r.1,())) (fun r=>Sum.elim (fun s=>(MB p (s.1,0,())).bind fun t=>Sum.elim (fun u=>some (af .eql u.1 0,())) (fun u=>Empty.elim u) t) (fun s=>Empty.elim s) r) q
noncomputable def Lq(a:UE)(b:Kp):VP:=letI c:=b.2.1;letI d:=a.2.2.2.2.2;letI e:=aa .add .i64 c 1;letI f:=d.2.2.2.2.2;letI g:=f.2.2.1;cond (af .lss c (ai g)) (cond (ah g c) (cond (af .neq (ae bf g c).2.2.2.1 0) ((mm a.1 a.2.1 a.2.2.1 a.2.2.2.1 a.2.2.2.2.1 d.1 d.2.1 d.2.2.1 d.2.2.2.1 d.2.2.2.2.1 f.1 f.2.1 g f.2.2.2.1 f.2.2.2.2.1 c).bind fun h=>cond h.1 (cond (ah g c) (some (.inl (aa .add .i64 b.1 (ae bf g c).1,e,()))) none) (some (.inl (b.1,e,())))) (some (.inl (b.1,e,())))) none) (some (.inr (.inl (b.1,()))))
noncomputable def On k x:=iter (Lq k) big x
noncomputable def LQ(a b c d e f g h i j k:Int)(l:KQ)(m:M3)(n:KR)(o:Ko):QK:=(On (a,b,c,d,e,f,g,h,i,j,k,l,m,n,o,()) (0,0,())).bind fun p=>Sum.elim (fun q=>some (q.1,())) (fun q=>Empty.elim q) p
noncomputable def JF(a:UE)(b:DM):Pj:=letI c:=a.2.2.2.2;letI d:=c.2.2.2.2;letI e:=d.2.2.2;cond (af .lss b.1 (ai e.1)) ((JO a.1 a.2.1 a.2.2.1 a.2.2.2.1 c.1 c.2.1 c.2.2.1 c.2.2.2.1 d.1 d.2.1 d.2.2.1 e.1 e.2.1 e.2.2.1 e.2.2.2.1 b.1).bind fun f=>cond (Bool.not f.1) (some (.inr (.inl (false,())))) (some (.inl (aa .add .i64 b.1 1,())))) (some (.inr (.inr (.inl ()))))
noncomputable def Nr k x:=iter (JF k) big x
noncomputable def JG(a:UE)(b:DM):Pj:=letI c:=a.2.2.2.2;letI d:=c.2.2.2.2;letI e:=d.2.2.2.2;cond (af .lss b.1 (ai e.1)) ((yx a.1 a.2.1 a.2.2.1 a.2.2.2.1 c.1 c.2.1 c.2.2.1 c.2.2.2.1 d.1 d.2.1 d.2.2.1 d.2.2.2.1 e.1 e.2.1 e.2.2.1 b.1).bind fun f=>cond (Bool.not f.1) (some (.inr (.inl (false,())))) (some (.inl (aa .add .i64 b.1 1,())))) (some (.inr (.inr (.inl ()))))
noncomputable def Ns k x:=iter (JG k) big x
noncomputable def JE(a b c d e f g h i j k:Int)(l:KQ)(m:M3)(n:KR)(o:Ko):mo:=(JJ a b c d e f g h).bind fun p=>letI q:=some (false,());cond (Bool.not p.1) q ((bt i 0 1000).bind fun r=>cond (Bool.not r.1) q ((ii j).bind fun s=>cond (Bool.not s.1) q ((bt k 0 20000).bind fun t=>cond (Bool.not t.1) q ((bt (ai l) 1 3).bind fun u=>cond (Bool.not u.1) q (cond (af .gtr (ai m) 12) q ((Kx n).bind fun v=>cond (Bool.not v.1) q ((lm o).bind fun w=>letI x:=(a,b,c,d,e,f,g,h,i,j,k,l,m,n,o,());cond (Bool.not w.1) q ((Nr x (0,())).bind fun y=>Sum.elim (fun z=>some (z.1,())) (fun z=>Sum.elim (fun _=>(Ns x (0,())).bind fun A=>Sum.elim (fun B=>some (B.1,())) (fun B=>Sum.elim (fun _=>(Io a b c d e f g h i j k l m n o).bind fun C=>cond C.1 ((LQ a b c d e f g h i j k l m n o).bind fun D=>some (af .leq D.1 i,())) q) (fun C=>Empty.elim C) B) A) (fun A=>Empty.elim A) z) y))))))))
noncomputable def g4(a:Int):mo:=(bu a 1 40).bind fun b=>some (b.1,())
noncomputable def tb(a b c d e f:Int)(g:Bool):mo:=(g4 a).bind fun h=>letI i:=some (false,());cond h.1 ((g4 b).bind fun j=>cond j.1 (cond (af .neq a b) ((bu c 0 999).bind fun k=>cond k.1 ((bu d 0 5).bind fun l=>cond l.1 ((gg e).bind fun m=>cond m.1 ((gg f).bind fun n=>cond n.1 (some (af .lss e f,())) i) i) i) i) i) i) i
noncomputable def KS(a b c d e f:Int)(g:Bool):mo:=(tb a b c d e f g).bind fun h=>some (Bool.not h.1,())
noncomputable def cv(a:KR×DM)(b:DM):XL:=letI c:=ae cx a.1 b.1;letI d:=c.2.2.2;cond (af .lss b.1 a.2.1) (cond (ah a.1 b.1) ((KS c.1 c.2.1 c.2.2.1 d.1 d.2.1 d.2.2.1 d.2.2.2).bind fun e=>cond e.1 (some (.inr (.inl (b.1,())))) (some (.inl (aa .add .i64 b.1 1,())))) none) (some (.inr (.inr (.inl ()))))
noncomputable def ec k x:=iter (cv k) big x
noncomputable def ei(a:KR):QK:=(ec (a,ai a,()) (0,())).bind fun b=>Sum.elim (fun c=>some (c.1,())) (fun c=>Sum.elim (fun _=>some (-1,())) (fun d=>Empty.elim d) c) b
noncomputable def ea(a:KR):mo:=(ei a).bind fun b=>some (af .geq b.1 0,())
noncomputable def Kq(a:KR):mo:=cond (af .leq (ai a) 30) ((ea a).bind fun b=>some (Bool.not b.1,())) (some (false,()))
noncomputable def JT(a:Int×nw×QX×Ug)(b:DM):Pj:=letI c:=ae zI a.2.2.2.1 b.1;cond (af .lss b.1 a.2.2.2.2.1) (cond (ah a.2.2.2.1 b.1) ((bu c 1 (aa .sub .i64 a.1 1)).bind fun d=>letI e:=aa .sub .i64 b.1 1;letI f:=(aa .add .i64 b.1 1,());cond (Bool.not d.1) (some (.inr (.inl (false,())))) (cond (af .gtr b.1 0) (cond (ah a.2.1 e) (cond (af .leq c (ae zI a.2.1 e)) (some (.inr (.inl (false,())))) (some (.inl f))) none) (some (.inl f)))) none) (some (.inr (.inr (.inl ()))))
noncomputable def JV k x:=iter (JT k) big x
noncomputable def s4(a:Int×nw×QX×Vx)(b:Int×Vg×Vv):Option (Int×Vg×Vv⊕Tv⊕Int×Vg×Unit⊕Empty):=letI c:=(false,());letI d:=b.2.2.2.1;letI e:=ae hU a.2.2.2.1 d;cond (af .lss d a.2.2.2.2.1) (cond (ah a.2.2.2.1 d) (cond (af .neq e.1 b.1) (some (.inr (.inl c))) ((bu e.2.1 1 (aa .sub .i64 a.1 b.1)).bind fun f=>letI g:=e.2.2.1;cond (Bool.not f.1) (some (.inr (.inl c))) ((bu g 0 999).bind fun h=>letI i:=(aa .add .i64 b.1 e.2.1,eT b.2.1 e.1 true,eT b.2.2.1 g true,aa .add .i64 d 1,());cond (Bool.not h.1) (some (.inr (.inl c))) (cond (af .gtr g 0) (cond (ct b.2.2.1 g) (some (.inr (.inl c))) (some (.inl i))) (some (.inl i)))))) none) (some (.inr (.inr (.inl (b.1,b.2.1,())))))
noncomputable def JW k x:=iter (s4 k) big x
noncomputable def JU(a:Int×nw×QX×Int×Ug)(b:Vv):YcL:=letI c:=a.2.2.2.2;cond (af .lss b.2.1 c.2.1) (cond (ah c.1 b.2.1) (cond (Bool.not (ct b.1 (ae zI c.1 b.2.1))) (some (.inr (.inl (false,())))) (some (.inl (b.1,aa .add .i64 b.2.1 1,())))) none) (some (.inr (.inr (.inl ()))))
noncomputable def JX k x:=iter (JU k) big x
noncomputable def D3(a:Int)(b:nw)(c:QX):mo:=(bu a 1 24).bind fun d=>letI e:=some (false,());cond (Bool.not d.1) e (cond (af .eql (ai c) 0) e ((JV (a,b,c,b,ai b,()) (0,())).bind fun f=>Sum.elim (fun g=>some (g.1,())) (fun g=>Sum.elim (fun _=>(JW (a,b,c,c,ai c,()) (0,([]:Vg),([]:Vg),0,())).bind fun h=>Sum.elim (fun i=>some (i.1,())) (fun i=>Sum.elim (fun j=>(JX (a,b,c,j.1,b,ai b,()) (j.2.1,0,())).bind fun k=>Sum.elim (fun l=>some (l.1,())) (fun l=>Sum.elim (fun _=>some (af .eql j.1 a,())) (fun m=>Empty.elim m) l) k) (fun j=>Empty.elim j) i) h) (fun h=>Empty.elim h) g) f))
noncomputable def IJ(a:QY×Int×Int×Vx)(b:Vv):Option (Vv⊕Tv⊕Vg×Unit⊕Empty):=letI c:=(ae hU a.2.2.2.1 b.2.1).2.2.1;letI d:=(eT b.1 c true,aa .add .i64 b.2.1 1,());cond (af .lss b.2.1 a.2.2.2.2.1) (cond (ah a.2.2.2.1 b.2.1) (cond (af .gtr c 0) (cond (ct b.1 c) (some (.inr (.inl (false,())))) (some (.inl d))) (some (.inl d))) none) (some (.inr (.inr (.inl (b.1,())))))
noncomputable def Ml k x:=iter (IJ k) big x
noncomputable def Mj(a:VU)(b:Vv):YcL:=letI c:=b.2.1;letI d:=ae cn a.1 c;cond (af .lss c a.2.1) (cond (ah a.1 c) ((D3 d.1 d.2.1 d.2.2).bind fun e=>cond (Bool.not e.1) (some (.inr (.inl (false,())))) ((Ml (a.1,a.2.1,c,d.2.2,ai d.2.2,()) (b.1,0,())).bind fun f=>Sum.elim (fun g=>some (.inr (.inl (g.1,())))) (fun g=>Sum.elim (fun h=>some (.inl (h.1,aa .add .i64 c 1,()))) (fun h=>Empty.elim h) g) f)) none) (some (.inr (.inr (.inl ()))))
noncomputable def Mk k x:=iter (Mj k) big x
noncomputable def ID(a:QY):mo:=(bu (ai a) 1 6).bind fun b=>cond (Bool.not b.1) (some (false,())) ((Mk (a,ai a,()) (([]:Vg),0,())).bind fun c=>Sum.elim (fun d=>some (d.1,())) (fun d=>Sum.elim (fun _=>some (true,())) (fun e=>Empty.elim e) d) c)
noncomputable def QN(a b:Int)(c d e:Bool):mo:=some (bQ e (af .eql a 1),())
noncomputable def qW(a b:Int)(c d e:Bool):mo:=(bu a 0 2).bind fun f=>letI g:=some (false,());cond (Bool.not f.1) g ((bu b 0 6).bind fun h=>letI i:=some (Bool.not c,());letI j:=QN a b c d e;letI k:=cond c (some (Bool.not d,())) g;letI l:=cond (af .eql a 0) (cond (af .eql b 0) i g) (cond (af .eql b 1) (j.bind fun l=>cond (Bool.not l.1) i g) (cond (af .eql b 2) (j.bind fun l=>cond (Bool.not l.1) k g) (cond (af .eql b 3) (j.bind fun l=>cond (Bool.not l.1) (some (d,())) g) (cond (af .eql b 4) (j.bind fun l=>cond l.1 (some (d,())) g) (cond (af .eql b 5) k (cond (af .eql b 6) i (some (true,()))))))));cond (Bool.not h.1) g (cond d (cond (Bool.not c) g l) l))
noncomputable def Na(a b c d e f g h i j k:Int)(l:KQ)(m:M3)(n:KR)(o:Ko)(p:Int):mo:=letI q:=ae aS l p;cond (ah l p) ((mu q.1 q.2.1).bind fun r=>letI s:=some (false,());cond (Bool.not r.1) s ((ID q.2.2.1).bind fun t=>letI u:=q.2.2.2;letI v:=u.2.2.2;cond (Bool.not t.1) s ((qW u.1 u.2.1 u.2.2.1 v.1 v.2.1).bind fun w=>letI x:=v.2.2;cond (Bool.not w.1) s ((ko x.2.2).bind fun y=>letI z:=af .eql u.1 0;letI A:=af .eql x.2.1 0;cond (Bool.not y.1) s (cond (af .eql x.1 0) (lets (Bool.and z (Bool.and (af .eql u.2.1 0) (Bool.and (bQ u.2.2.1 false) (Bool.and (bQ v.1 false) (Bool.and (bQ v.2.1 false) true))))) fun B=>cond B (some (A,())) s) ((bu x.1 1 (ai m)).bind fun B=>letI C:=aa .sub .i64 x.1 1;letI D:=(ae bf m C).2.2;cond (Bool.not B.1) s (cond (ah m C) (cond (af .neq D.1 p) s (cond (af .neq D.2.1 2) s (cond z s (cond A (some (true,())) (cond (af .eql u.1 2) ((g4 x.2.1).bind fun E=>some (E.1,())) s))))) none))))))) none
noncomputable def n3(a b c d e f g h i j k:Int)(l:KQ)(m:M3)(n:KR)(o:Ko)(p q r s t u v w x y z A B:Int):mo:=letI C:=some (true,());cond (af .eql s 0) C (cond (af .eql s 1) C (cond (af .eql s 2) (cond (ah l r) (some (af .eql (ae aS l r).2.2.2.1 1,())) none) (some (false,()))))
noncomputable def M6(a b c d e:Int):mo:=(hD a).bind fun f=>letI g:=some (false,());cond f.1 ((bu b 0 1000001).bind fun h=>cond h.1 ((bu c 0 2).bind fun i=>cond i.1 ((bu d 0 6).bind fun j=>cond j.1 ((bu e 0 20064).bind fun k=>some (k.1,())) g) g) g) g
noncomputable def Kr(a b c d e f g h i j k:Int)(l:KQ)(m:M3)(n:KR)(o:Ko)(p:Int):mo:=letI q:=ae bf m p;cond (ah m p) ((bu q.1 1 24).bind fun r=>letI s:=some (false,());cond (Bool.not r.1) s ((g4 q.2.1).bind fun t=>letI u:=(0:Int);letI v:=q.2.2.1;cond (Bool.not t.1) s ((bu v u (aa .sub .i64 (ai l) 1)).bind fun w=>letI x:=q.2.2.2;cond (Bool.not w.1) s ((bu x.1 u 5).bind fun y=>letI z:=aa .add .i64 p 1;letI A:=x.2.2.2;letI B:=A.2.2;letI C:=B.2.2.2;letI D:=(n3 a b c d e f g h i j k l m n o q.1 q.2.1 v x.1 x.2.1 x.2.2.1 A.1 A.2.1 B.1 B.2.1 B.2.2.1 C.1 C.2).bind fun D=>letI E:=af .eql C.1 u;letI F:=af .eql C.2 u;cond D.1 (cond (af .eql x.2.1 u) (cond (af .eql x.2.2.1 u) (cond E (cond F (lets (Bool.and (af .eql A.1 u) (Bool.and (af .eql A.2.1 u) (Bool.and (af .eql B.1 u) (Bool.and (af .eql B.2.1 u) (Bool.and (af .eql B.2.2.1 u) true))))) fun G=>some (G,())) s) s) s) s) ((bu x.2.1 u k).bind fun G=>cond (Bool.not G.1) s ((bu x.2.2.1 u h).bind fun H=>cond (Bool.not H.1) s ((M6 A.1 A.2.1 B.1 B.2.1 B.2.2.1).bind fun I=>cond (Bool.not I.1) s ((FI a b c d e f g h i j k l m n o z).bind fun J=>cond (af .neq A.1 J.1) s (cond (af .eql x.1 4) ((g4 C.1).bind fun K=>cond K.1 ((bu C.2 u (aa .add .i64 e (aa .mul .i64 g h))).bind fun L=>some (L.1,())) s) (cond E (some (F,())) s))))));cond (Bool.not y.1) s (cond (af .eql x.1 2) (cond (ah l v) (cond (af .neq (ae aS l v).2.2.2.2.2.2.2.2.1 z) s D) none) D))))) none
noncomputable def K1(a:Int×Int×Int×Int×Int×Int×Int×Int×Int×Int×Int×KQ×M3×KR×Ko×Int×KQ×Int×Int×QY×Int×Int×Vx)(b:Kp):Vs:=letI c:=aa .add .i64 b.2.1 1;letI d:=a.2.2.2.2.2.2.2.2.2.2.2.2;letI e:=d.2.2.2.2.2.2.2.2.2.2;letI f:=(ae hU e.1 b.2.1).2;cond (af .lss b.2.1 e.2.1) (cond (ah e.1 b.2.1) (cond (af .eql f.2.1 0) (some (.inl (b.1,c,()))) ((bu f.2.1 1 (ai d.1)).bind fun g=>letI h:=(false,());letI i:=aa .sub .i64 f.2.1 1;letI j:=ae bf d.1 i;letI k:=j.2.2.2;cond (Bool.not g.1) (some (.inr (.inl h))) (cond (ah d.1 i) (lets k.2.1 fun _=>lets k.2.2.1 fun _=>letI l:=k.2.2.2;lets l.1 fun _=>lets l.2.1 fun _=>lets l.2.2.1 fun _=>letI m:=l.2.2.2;lets m.1 fun _=>lets m.2.1 fun _=>lets m.2.2.1 fun _=>lets m.2.2.2 fun _=>lets (af .neq k.1 2) fun n=>letI o:=(aa .add .i64 b.1 1,c,());letI p:=af .eql k.1 2;letI q:=af .neq j.2.2.1 d.2.2.2.1;letI r:=af .neq j.1 f.1;cond n (lets (af .neq k.1 3) fun s=>cond s (some (.inr (.inl h))) (lets q fun t=>cond t (some (.inr (.inl h))) (lets r fun u=>cond u (some (.inr (.inl h))) (lets p fun v=>cond v (cond f.2.2 (some (.inr (.inl h))) (some (.inl o))) (some (.inl o)))))) (lets q fun s=>cond s (some (.inr (.inl h))) (lets r fun t=>cond t (some (.inr (.inl h))) (lets p fun u=>cond u (cond f.2.2 (some (.inr (.inl h))) (some (.inl o))) (some (.inl o)))))) none))) none) (some (.inr (.inr (.inl (b.1,())))))
noncomputable def K4 k x:=iter (K1 k) big x
noncomputable def K0(a:Int×Int×Int×Int×Int×Int×Int×Int×Int×Int×Int×KQ×M3×KR×Ko×Int×KQ×Int×Int×VU)(b:Kp):Vs:=letI c:=b.2.1;letI d:=a.2.2.2;letI e:=d.2.2.2;letI f:=e.2.2.2;letI g:=f.2.2.2;letI h:=g.2.2.2;letI i:=h.2.2.2;letI j:=(ae cn i.2.1 c).2.2;cond (af .lss c i.2.2.1) (cond (ah i.2.1 c) ((K4 (a.1,a.2.1,a.2.2.1,d.1,d.2.1,d.2.2.1,e.1,e.2.1,e.2.2.1,f.1,f.2.1,f.2.2.1,g.1,g.2.1,g.2.2.1,h.1,h.2.1,h.2.2.1,i.1,i.2.1,i.2.2.1,c,j,ai j,()) (b.1,0,())).bind fun k=>Sum.elim (fun l=>some (.inr (.inl (l.1,())))) (fun l=>Sum.elim (fun m=>some (.inl (m.1,aa .add .i64 c 1,()))) (fun m=>Empty.elim m) l) k) none) (some (.inr (.inr (.inl (b.1,())))))
noncomputable def K3 k x:=iter (K0 k) big x
noncomputable def KZ(a:Z2)(b:Kp):Vs:=letI c:=b.2.1;letI d:=a.2.2.2.2.2;letI e:=d.2.2.2.2.2;letI f:=e.2.2.2.2.2;letI g:=(ae aS f.1 c).2.2.1;cond (af .lss c f.2.1) (cond (ah f.1 c) ((K3 (a.1,a.2.1,a.2.2.1,a.2.2.2.1,a.2.2.2.2.1,d.1,d.2.1,d.2.2.1,d.2.2.2.1,d.2.2.2.2.1,e.1,e.2.1,e.2.2.1,e.2.2.2.1,e.2.2.2.2.1,c,f.1,f.2.1,c,g,ai g,()) (b.1,0,())).bind fun h=>Sum.elim (fun i=>some (.inr (.inl (i.1,())))) (fun i=>Sum.elim (fun j=>some (.inl (j.1,aa .add .i64 c 1,()))) (fun j=>Empty.elim j) i) h) none) (some (.inr (.inr (.inl (b.1,())))))
noncomputable def Ol k x:=iter (KZ k) big x
noncomputable def K2(a:VV)(b:Kp):VP:=letI c:=aa .add .i64 b.2.1 1;letI d:=(ae bf a.1 b.2.1).2.2.2.1;letI e:=(aa .sub .i64 b.1 1,c,());cond (af .lss b.2.1 a.2.1) (cond (ah a.1 b.2.1) (cond (af .eql d 2) (some (.inl e)) (cond (af .eql d 3) (some (.inl e)) (some (.inl (b.1,c,()))))) none) (some (.inr (.inl (b.1,()))))
noncomputable def Om k x:=iter (K2 k) big x
noncomputable def LC(a b c d e f g h i j k:Int)(l:KQ)(m:M3)(n:KR)(o:Ko):mo:=(Ol (a,b,c,d,e,f,g,h,i,j,k,l,m,n,o,l,ai l,()) (0,0,())).bind fun p=>Sum.elim (fun q=>some (q.1,())) (fun q=>Sum.elim (fun r=>(Om (m,ai m,()) (r.1,0,())).bind fun s=>Sum.elim (fun t=>some (af .eql t.1 0,())) (fun t=>Empty.elim t) s) (fun r=>Empty.elim r) q) p
noncomputable def Mn(a:Int×Int×Int×Int×Int×Int×Int×Int×Int×Int×Int×KQ×M3×KR×Ko×VV)(b:Kp):VP:=letI c:=a.2.2.2.2.2;letI d:=aa .add .i64 b.2.1 1;letI e:=c.2.2.2.2;letI f:=e.2.2.2.2;letI g:=ae bf f.2.2.1 b.2.1;letI h:=g.2.2.2;letI i:=h.2.2.2;letI j:=i.2.2.2;cond (af .lss b.2.1 f.2.2.2.1) (cond (ah f.2.2.1 b.2.1) (cond (af .neq h.1 0) ((n3 a.1 a.2.1 a.2.2.1 a.2.2.2.1 a.2.2.2.2.1 c.1 c.2.1 c.2.2.1 c.2.2.2.1 e.1 e.2.1 e.2.2.1 e.2.2.2.1 f.1 f.2.1 g.1 g.2.1 g.2.2.1 h.1 h.2.1 h.2.2.1 i.1 i.2.1 i.2.2.1 j.1 j.2.1 j.2.2.1 j.2.2.2).bind fun k=>cond k.1 (some (.inl (aa .add .i64 b.1 g.1,d,()))) (some (.inl (b.1,d,())))) (some (.inl (b.1,d,())))) none) (some (.inr (.inl (b.1,()))))
noncomputable def Ox k x:=iter (Mn k) big x
noncomputable def M9(a b c d e f g h i j k:Int)(l:KQ)(m:M3)(n:KR)(o:Ko):QK:=(Ox (a,b,c,d,e,f,g,h,i,j,k,l,m,n,o,m,ai m,()) (0,0,())).bind fun p=>Sum.elim (fun q=>some (q.1,())) (fun q=>Empty.elim q) p
noncomputable def IM(a:Xu)(b:DM):Pj:=letI c:=a.2.2.2.2;letI d:=c.2.2.2.2;letI e:=d.2.2.2.2;cond (af .lss b.1 e.2.2.2.1) ((Na a.1 a.2.1 a.2.2.1 a.2.2.2.1 c.1 c.2.1 c.2.2.1 c.2.2.2.1 d.1 d.2.1 d.2.2.1 d.2.2.2.1 e.1 e.2.1 e.2.2.1 b.1).bind fun f=>cond (Bool.not f.1) (some (.inr (.inl (false,())))) (some (.inl (aa .add .i64 b.1 1,())))) (some (.inr (.inr (.inl ()))))
noncomputable def M7 k x:=iter (IM k) big x
noncomputable def IP(a:Xu)(b:DM):Pj:=letI c:=a.2.2.2.2;letI d:=c.2.2.2.2;letI e:=d.2.2.2.2;cond (af .lss b.1 e.2.2.2.1) ((Kr a.1 a.2.1 a.2.2.1 a.2.2.2.1 c.1 c.2.1 c.2.2.1 c.2.2.2.1 d.1 d.2.1 d.2.2.1 d.2.2.2.1 e.1 e.2.1 e.2.2.1 b.1).bind fun f=>cond (Bool.not f.1) (some (.inr (.inl (false,())))) (some (.inl (aa .add .i64 b.1 1,())))) (some (.inr (.inr (.inl ()))))
noncomputable def M8 k x:=iter (IP k) big x
noncomputable def ia(a b c d e f g h i j k:Int)(l:KQ)(m:M3)(n:KR)(o:Ko):mo:=(IV a b c d e f g h).bind fun p=>letI q:=some (false,());cond (Bool.not p.1) q ((bu i 0 1000).bind fun r=>cond (Bool.not r.1) q ((hD j).bind fun s=>cond (Bool.not s.1) q ((gg k).bind fun t=>cond (Bool.not t.1) q ((bu (ai l) 1 3).bind fun u=>cond (Bool.not u.1) q (cond (af .gtr (ai m) 12) q ((Kq n).bind fun v=>cond (Bool.not v.1) q ((ko o).bind fun w=>cond (Bool.not w.1) q ((M7 (a,b,c,d,e,f,g,h,i,j,k,l,m,n,o,ai l,()) (0,())).bind fun x=>Sum.elim (fun y=>some (y.1,())) (fun y=>Sum.elim (fun _=>(M8 (a,b,c,d,e,f,g,h,i,j,k,l,m,n,o,ai m,()) (0,())).bind fun z=>Sum.elim (fun A=>some (A.1,())) (fun A=>Sum.elim (fun _=>(LC a b c d e f g h i j k l m n o).bind fun B=>cond B.1 ((M9 a b c d e f g h i j k l m n o).bind fun C=>some (af .leq C.1 i,())) q) (fun B=>Empty.elim B) A) z) (fun z=>Empty.elim z) y) x))))))))
end Go.Fn
set_option linter.unusedVariables false
set_option linter.unusedSimpArgs false
namespace Go.Fn
open Go.R
theorem Uu(m:List (Int×Bool))(k k':Int)(v:Bool):ct (eT m k v) k'=bif k'==k then v else ct m k':=by
 induction m with
 |nil=>simp only[eT,ct]
 |cons y r ih=>
  unfold eT;cases hb:k==y.1 with
  |true=>
   have hk:k=y.1:=by simpa using hb
   subst hk;simp only[cond_true,ct];cases k'==y.1 <;> rfl
  |false=>
   simp only[cond_false,ct,ih];cases h1:k'==y.1 with
   |false=>rfl
   |true=>
    have:k'=y.1:=by simpa using h1
    subst this;have:(y.1==k)=false:=by rw[Bool.eq_false_iff]at hb⊢;intro e;exact hb (by simpa using (beq_iff_eq.1 e).symm)
    rw[this];rfl
noncomputable def er(m:List (Int×Bool))(l:List Int):List (Int×Bool):=l.foldl (fun m k=>eT m k true) m
theorem KK(k:Int):∀(l:List Int) (m:List (Int×Bool)),ct (er m l) k=true↔ct m k=true\/k∈l
 | [],m=>by simp[er]
 |x::l,m=>by
  have:=KK k l (eT m x true);unfold er at this⊢;rw[List.foldl_cons,this,Uu];cases hb:k==x with
  |true=>simp[beq_iff_eq.1 hb]
  |false=>
   have:k≠x:=by rintro rfl;simp at hb
   simp[this]
theorem OL(m:List (Int×Bool))(l:List Int)(x:Int):er m (l++[x])=eT (er m l) x true:=by unfold er;rw[List.foldl_append];rfl
theorem LU{α:Type}{l:List α}{n:Nat}(h:n<l.length)(z:α):l.take (n+1)=l.take n++[l.getD n z]:=by rw[List.take_add_one,List.getElem?_eq_getElem h,List.getD_eq_getElem?_getD,List.getElem?_eq_getElem h];rfl
theorem Qn{α:Type}{l:List α}{n:Nat}{x z:α}(hn:n<=l.length):x∈l.take n↔∃k,k<n/\l.getD k z=x:=by
 constructor
 ·intro h;obtain⟨k,hk,e⟩:=List.mem_iff_getElem.1 h;rw[List.length_take]at hk;rw[List.getElem_take]at e;exact⟨k,by omega,by rw[List.getD_eq_getElem?_getD,List.getElem?_eq_getElem (by omega)];exact e⟩
 ·rintro⟨k,hk,e⟩;rw[List.getD_eq_getElem?_getD,List.getElem?_eq_getElem (show k<l.length by omega)]at e;rw[<-e];have:(l.take n)[k]? = some l[k]:=by rw[List.getElem?_take_of_lt hk,List.getElem?_eq_getElem (by omega)]
  exact List.mem_of_getElem? this
noncomputable def fq(l:List Bx)(n:Nat):Bx:=l.getD n hU
noncomputable def lf(l:List Bx)(n:Nat):Int:=(l.take n).foldl (fun a b=>aa .add .i64 a b.2.1) 0
theorem LS(l:List Bx){n:Nat}(h:n<l.length):lf l (n+1)=aa .add .i64 (lf l n) (fq l n).2.1:=by unfold lf fq;rw[LU h hU,List.foldl_append];rfl
noncomputable def QL(l:List Bx)(n k:Nat):Bool:=Bool.not (af .gtr (fq l n).2.2.1 0&&af .eql (fq l k).2.2.1 (fq l n).2.2.1)
noncomputable def TZ(l:List Bx)(n:Nat):Bool:=Bool.not (af .neq (fq l n).1 (lf l n))&&g6 (fq l n).2.1 1 24&&g6 (fq l n).2.2.1 0 999&&aB (QL l n) 0 n&&Bool.not (af .gtr (lf l (n+1)) 24)
theorem Se(h:Int)(f:List Int)(l:List Bx)(hl:l.length<=1073741824):Kz h f l=some (aB (TZ l) 0 l.length&&(af .gtr (ai l) 0&&af .eql (lf l l.length) h),()):=by
 unfold Kz;have:Kn (h,f,l,()) (0,0,())=some (bif aB (TZ l) 0 l.length then(Sum.inr (Sum.inl (lf l l.length,())):Bool×Unit⊕(Int×Unit⊕Empty))else .inl (false,())):=by
  refine bp (fun n=>(lf l n,(n:Int),())) l.length (by omega) (TZ l) _ _ (fun n hn=>?_) ?_
  ·have hin:yt (h,f,l,lf l n,(n:Int),()) ((fq l n).1,(fq l n).2.1,(fq l n).2.2.1,(fq l n).2.2.2,0,())=some (bif aB (QL l n) 0 n then(Sum.inr (Sum.inl ((fq l n).1,(fq l n).2.1,(fq l n).2.2.1,(fq l n).2.2.2,())):Bool×Unit⊕(Int×Int×Int×Bool×Unit⊕Empty))else .inl (false,())):=by
    refine bp (fun k=>((fq l n).1,(fq l n).2.1,(fq l n).2.2.1,(fq l n).2.2.2,(k:Int),())) n (by omega) (QL l n) _ _ (fun k hk=>?_) ?_
    ·unfold Km QL;have cJ:k<l.length:=by omega
     simp only[eH,hk,decide_true,cond_true,az,cJ,aq,av (n:=k) (by omega)];show(bif af .gtr (fq l n).2.2.1 0 then(bif af .eql (fq l k).2.2.1 (fq l n).2.2.1 then _ else _)else _)=_;cases af .gtr (fq l n).2.2.1 0 <;> cases af .eql (fq l k).2.2.1 (fq l n).2.2.1 <;> rfl
    ·unfold Km;simp only[eH,Nat.lt_irrefl,decide_false,cond_false]
   unfold Kl TZ;simp only[aj,hn,decide_true,cond_true,az,aq,mS,Option.bind_some,av (n:=n) (by omega),LS l hn];show(bif af .neq (fq l n).1 (lf l n)then _ else bif Bool.not (g6 (fq l n).2.1 1 24)then _ else bif Bool.not (g6 (fq l n).2.2.1 0 999)then _ else(yt (h,f,l,lf l n,(n:Int),()) ((fq l n).1,(fq l n).2.1,(fq l n).2.2.1,(fq l n).2.2.2,0,())).bind _)=_;rw[hin];cases af .neq (fq l n).1 (lf l n)with
   |true=>rfl
   |false=>
    cases g6 (fq l n).2.1 1 24 with
    |false=>rfl
    |true=>
     cases g6 (fq l n).2.2.1 0 999 with
     |false=>rfl
     |true=>
      cases aB (QL l n) 0 n with
      |false=>rfl
      |true=>simp only[Bool.not_true,cond_false,cond_true,Option.bind_some,Sum.elim_inr,Sum.elim_inl,Bool.not_false,Bool.true_and];cases af .gtr (aa .add .i64 (lf l n) (fq l n).2.1) 24 <;> rfl
  ·unfold Kl;simp only[aj,Nat.lt_irrefl,decide_false,cond_false]
 rw[this];cases aB (TZ l) 0 l.length with
 |false=>rfl
 |true=>simp only[cond_true,Option.bind_some,Sum.elim_inr,Sum.elim_inl,Bool.true_and];cases af .gtr (ai l) 0 <;> rfl
noncomputable def PM(l:List Bx):List Int:=l.map (·.1)
noncomputable def KL(l:List Bx):List Int:=l.map (·.2.2.1)
noncomputable def U3(h:Int)(l:List Bx)(n:Nat):Bool:=Bool.not (af .neq (fq l n).1 (lf l n))&&g6 (fq l n).2.1 1 (aa .sub .i64 h (lf l n))&&g6 (fq l n).2.2.1 0 999&&Bool.not (af .gtr (fq l n).2.2.1 0&&ct (er [] (KL (l.take n))) (fq l n).2.2.1)
theorem R7(h:Int)(f:List Int)(l:List Bx)(hl:l.length<=1073741824):JW (h,f,l,l,ai l,()) (0,[],[],0,())=some (bif aB (U3 h l) 0 l.length then(Sum.inr (Sum.inl (lf l l.length,er [] (PM l),())):Bool×Unit⊕(Int×(List (Int×Bool))×Unit⊕Empty))else .inl (false,())):=by
 have:=bp (body:=s4 (h,f,l,l,ai l,())) (fun n=>(lf l n,er [] (PM (l.take n)),er [] (KL (l.take n)),(n:Int),())) l.length (by omega) (U3 h l) (.inr (.inl (lf l l.length,er [] (PM l),()))) (.inl (false,())) (fun n hn=>?_) ?_
 ·exact this
 ·unfold s4 U3;have e1:er [] (PM (l.take (n+1)))=eT (er [] (PM (l.take n))) (fq l n).1 true:=by unfold PM fq;rw[LU hn hU,List.map_append];exact OL _ _ _
  have e2:er [] (KL (l.take (n+1)))=eT (er [] (KL (l.take n))) (fq l n).2.2.1 true:=by unfold KL fq;rw[LU hn hU,List.map_append];exact OL _ _ _
  simp only[aj,hn,decide_true,cond_true,az,aq,ev,Option.bind_some,av (n:=n) (by omega),LS l hn,e1,e2];show(bif af .neq (fq l n).1 (lf l n)then _ else bif Bool.not (g6 (fq l n).2.1 1 (aa .sub .i64 h (lf l n)))then _ else bif Bool.not (g6 (fq l n).2.2.1 0 999)then _ else bif af .gtr (fq l n).2.2.1 0 then(bif ct (er [] (KL (l.take n))) (fq l n).2.2.1 then _ else _)else _)=_;cases af .neq (fq l n).1 (lf l n)with
  |true=>rfl
  |false=>
   cases g6 (fq l n).2.1 1 (aa .sub .i64 h (lf l n))with
   |false=>rfl
   |true=>
    cases g6 (fq l n).2.2.1 0 999 with
    |false=>rfl
    |true=>
     cases af .gtr (fq l n).2.2.1 0 with
     |false=>rfl
     |true=>cases ct (er [] (KL (l.take n))) (fq l n).2.2.1 <;> rfl
 ·unfold s4;simp only[aj,Nat.lt_irrefl,decide_false,cond_false,List.take_length]
theorem Uv{a b:Int}:af .neq a b=false↔a=b:=by simp[af]
theorem Uq{a b:Int}:af .gtr a b=false↔a<=b:=by simp[af]
theorem WV{a b:Int}:af .gtr a b=true↔b<a:=by simp[af]
theorem RB{a b:Int}:af .eql a b=true↔a=b:=by simp[af]
theorem Tq{l:List Bx}{n:Nat}(hn:n<=l.length)(p:Int):ct (er [] (KL (l.take n))) p=true↔∃k,k<n/\(fq l k).2.2.1=p:=by
 rw[KK];simp only[ct,Bool.false_eq_true,false_or,KL,List.mem_map];constructor
 ·rintro⟨b,hb,e⟩;obtain⟨k,hk,rfl⟩:=(Qn (z:=hU) hn).1 hb;exact⟨k,hk,e⟩
 ·rintro⟨k,hk,e⟩;exact⟨fq l k,(Qn (z:=hU) hn).2 ⟨k,hk,rfl⟩,e⟩
theorem RX{l:List Bx}{n:Nat}(hn:n<=l.length):(Bool.not (af .gtr (fq l n).2.2.1 0&&ct (er [] (KL (l.take n))) (fq l n).2.2.1))=aB (QL l n) 0 n:=by
 rw[Bool.eq_iff_iff,aQ];simp only[QL,Bool.not_eq_true',Bool.and_eq_false_iff];cases h0:af .gtr (fq l n).2.2.1 0 with
 |false=>exact⟨fun _ _ _ _=>.inl rfl,fun _=>.inl rfl⟩
 |true=>
  constructor
  ·intro h m _ hm;refine .inr ?_;rcases h with h|h
   ·cases h
   ·cases he:af .eql (fq l m).2.2.1 (fq l n).2.2.1 with
    |false=>rfl
    |true=>have:=(Tq hn _).2 ⟨m,by omega,RB.1 he⟩;rw[h]at this;cases this
  ·intro h;refine .inr ?_;cases hm:ct (er [] (KL (l.take n))) (fq l n).2.2.1 with
   |false=>rfl
   |true=>
    obtain⟨k,hk,e⟩:=(Tq hn _).1 hm;rcases h k (Nat.zero_le _) (by omega)with h|h
    ·cases h
    ·rw[RB.2 e]at h;cases h
theorem Ty{h:Int}(h1:1<=h)(h2:h<=24)(l:List Bx)(hl:l.length<=1073741824):(aB (TZ l) 0 l.length=true/\lf l l.length=h)↔(aB (U3 h l) 0 l.length=true/\lf l l.length=h):=by
 have mono:∀(hs:∀n,n<l.length->0<=lf l n/\lf l n<=lf l (n+1)) (m n:Nat),m<=n->n<=l.length->lf l m<=lf l n:=by
  intro hs m n hmn hn;induction n with
  |zero=>rw[show m=0 by omega];exact Int.le_refl _
  |succ n ih=>
   rcases Nat.lt_or_ge m (n+1)with h|h
   ·exact Int.le_trans (ih (by omega) (by omega)) (hs n (by omega)).2
   ·rw[show m=n+1 by omega];exact Int.le_refl _
 have p0:lf l 0=0:=rfl;constructor
 ·rintro⟨ha,he⟩;rw[aQ]at ha;simp only[TZ,Bool.and_eq_true,Bool.not_eq_true',Uv,Uq,gb]at ha;have hp:∀n,n<=l.length->0<=lf l n/\lf l n<=24:=by
   intro n;induction n with
   |zero=>intro _;rw[p0];omega
   |succ n ih=>intro hn;obtain⟨⟨⟨⟨_,c2⟩,_⟩,_⟩,c5⟩:=ha n (Nat.zero_le _) (by omega);have:=ih (by omega);refine⟨?_,c5⟩;rw[LS l (by omega),bV (by omega) (by omega)];omega
  have hs:∀n,n<l.length->0<=lf l n/\lf l n<=lf l (n+1):=fun n hn=>by obtain⟨⟨⟨⟨_,c2⟩,_⟩,_⟩,c5⟩:=ha n (Nat.zero_le _) (by omega);have:=hp n (by omega);refine⟨this.1,?_⟩;rw[LS l hn,bV (by omega) (by omega)];omega
  refine⟨?_,he⟩;rw[aQ];intro n _ hn;obtain⟨⟨⟨⟨c1,c2⟩,c3⟩,c4⟩,c5⟩:=ha n (Nat.zero_le _) (by omega);unfold U3;rw[RX (by omega),c4];have:=hp n (by omega);have hm:=mono hs (n+1) l.length (by omega) (Nat.le_refl _);rw[he,LS l (by omega),bV (by omega) (by omega)]at hm;rw[bO (by omega) (by omega)];simp only[Bool.and_eq_true,Bool.not_eq_true',Uv,gb];exact⟨⟨⟨c1,by omega,by omega⟩,c3⟩,trivial⟩
 ·rintro⟨ha,he⟩;rw[aQ]at ha;have hp:∀n,n<=l.length->0<=lf l n/\lf l n<=h:=by
   intro n;induction n with
   |zero=>intro _;rw[p0];omega
   |succ n ih=>intro hn;have hi:=ih (by omega);have:=ha n (Nat.zero_le _) (by omega);unfold U3 at this;rw[bO (by omega) (by omega)]at this;simp only[Bool.and_eq_true,Bool.not_eq_true',Uv,gb]at this;obtain⟨⟨⟨_,c2⟩,_⟩,_⟩:=this;rw[LS l (by omega),bV (by omega) (by omega)];omega
  refine⟨?_,he⟩;rw[aQ];intro n _ hn;have hi:=hp n (by omega);have hj:=hp (n+1) (by omega);have:=ha n (Nat.zero_le _) hn;unfold U3 at this;rw[RX (by omega),bO (by omega) (by omega)]at this;simp only[Bool.and_eq_true,Bool.not_eq_true',Uv,gb]at this;obtain⟨⟨⟨c1,c2⟩,c3⟩,c4⟩:=this;unfold TZ;simp only[Bool.and_eq_true,Bool.not_eq_true',Uv,Uq,gb];exact⟨⟨⟨⟨c1,by omega,by omega⟩,c3⟩,c4⟩,by omega⟩
noncomputable def Oj(h:Int)(f:List Int):Nat->Bool
 |0=>g6 (f.getD 0 zI) 1 (aa .sub .i64 h 1)
 |n+1=>g6 (f.getD (n+1) zI) 1 (aa .sub .i64 h 1)&&Bool.not (af .leq (f.getD (n+1) zI) (f.getD n zI))
noncomputable def foundAt(f:List Int)(l:List Bx)(n:Nat):Bool:=l.any fun b=>af .eql b.1 (f.getD n zI)
theorem Sf(h:Int)(f:List Int)(l:List Bx)(n:Nat)(hn:n<f.length)(hl:l.length<=1073741824):Kc (h,f,l,(n:Int),()) (false,0,())=some (.inl (foundAt f l n,())):=by
 have:=aR (body:=xn (h,f,l,(n:Int),())) (fun k=>((l.take k).any fun b=>af .eql b.1 (f.getD n zI),(k:Int),())) l.length (by omega) (.inl (foundAt f l n,())) (fun k hk=>?_) ?_
 ·exact this
 ·unfold xn;rw[LU hk hU,List.any_append];simp only[aj,hk,hn,decide_true,cond_true,az,aq,av (n:=k) (by omega)];cases (l.take k).any fun b=>af .eql b.1 (f.getD n zI)with
  |true=>rfl
  |false=>simp[List.any]
 ·unfold xn foundAt;simp only[aj,Nat.lt_irrefl,decide_false,cond_false,List.take_length]
theorem Vo{n:Nat}(h:n<1099511627776):aa .sub .i64 ((n+1:Nat):Int) 1=(n:Int):=iw h
theorem gt1(n:Nat):af .gtr ((n+1:Nat):Int) 0=true:=by simp only[af,gt_iff_lt,decide_eq_true_eq];omega
noncomputable def RW(h:Int)(f:List Int)(l:List Bx):Bool:=g6 h 1 24&&((aB (TZ l) 0 l.length&&(af .gtr (ai l) 0&&af .eql (lf l l.length) h))&&aB (fun n=>Oj h f n&&foundAt f l n) 0 f.length)
theorem RG(h:Int)(f:List Int)(l:List Bx)(hf:f.length<=1073741824)(hl:l.length<=1073741824):H9 h f l=some (RW h f l,()):=by
 unfold H9 RW;rw[mS,Se h f l hl];simp only[Option.bind_some];have:Kb (h,f,l,()) (0,())=some (bif aB (fun n=>Oj h f n&&foundAt f l n) 0 f.length then(Sum.inr (Sum.inl ()):Bool×Unit⊕(Unit⊕Empty))else .inl (false,())):=by
  refine bp (fun n=>((n:Int),())) f.length (by omega) (fun n=>Oj h f n&&foundAt f l n) _ _ (fun n hn=>?_) ?_
  ·unfold Ka;simp only[aj,hn,decide_true,cond_true,az,aq,mS,Option.bind_some,av (n:=n) (by omega),Sf h f l n hn hl,Sum.elim_inl];cases n with
   |zero=>unfold Oj;rw[show af .gtr ((0:Nat):Int) 0=false from rfl];cases g6 (f.getD 0 zI) 1 (aa .sub .i64 h 1) <;> cases foundAt f l 0 <;> rfl
   |succ m=>
    have hm:m<f.length:=by omega
    unfold Oj;rw[gt1,Vo (by omega)];simp only[az,aq,hm,decide_true,cond_true];cases g6 (f.getD (m+1) zI) 1 (aa .sub .i64 h 1) <;> cases af .leq (f.getD (m+1) zI) (f.getD m zI) <;> cases foundAt f l (m+1) <;> rfl
  ·unfold Ka;simp only[aj,Nat.lt_irrefl,decide_false,cond_false]
 rw[this];cases g6 h 1 24 with
 |false=>rfl
 |true=>
  simp only[Bool.not_true,cond_false,Bool.true_and];cases (aB (TZ l) 0 l.length&&(af .gtr (ai l) 0&&af .eql (lf l l.length) h))with
  |false=>rfl
  |true=>simp only[Bool.not_true,cond_false,Bool.true_and];cases aB (fun n=>Oj h f n&&foundAt f l n) 0 f.length <;> rfl
noncomputable def Sw(h:Int)(f:List Int)(l:List Bx):Bool:=g6 h 1 24&&(Bool.not (af .eql (ai l) 0)&&(aB (Oj h f) 0 f.length&&(aB (U3 h l) 0 l.length&&(aB (fun n=>ct (er [] (PM l)) (f.getD n zI)) 0 f.length&&af .eql (lf l l.length) h))))
theorem RC(h:Int)(f:List Int)(l:List Bx)(hf:f.length<=1073741824)(hl:l.length<=1073741824):D3 h f l=some (Sw h f l,()):=by
 unfold D3 Sw;rw[ev];simp only[Option.bind_some];have h0:JV (h,f,l,f,ai f,()) (0,())=some (bif aB (Oj h f) 0 f.length then(Sum.inr (Sum.inl ()):Bool×Unit⊕(Unit⊕Empty))else .inl (false,())):=by
  refine bp (fun n=>((n:Int),())) f.length (by omega) (Oj h f) _ _ (fun n hn=>?_) ?_
  ·unfold JT;simp only[aj,hn,decide_true,cond_true,az,aq,ev,Option.bind_some,av (n:=n) (by omega)];cases n with
   |zero=>unfold Oj;rw[show af .gtr ((0:Nat):Int) 0=false from rfl];cases g6 (f.getD 0 zI) 1 (aa .sub .i64 h 1) <;> rfl
   |succ m=>
    have hm:m<f.length:=by omega
    unfold Oj;rw[gt1,Vo (by omega)];simp only[az,aq,hm,decide_true,cond_true];cases g6 (f.getD (m+1) zI) 1 (aa .sub .i64 h 1) <;> cases af .leq (f.getD (m+1) zI) (f.getD m zI) <;> rfl
  ·unfold JT;simp only[aj,Nat.lt_irrefl,decide_false,cond_false]
 have h4:JX (h,f,l,lf l l.length,f,ai f,()) (er [] (PM l),0,())=some (bif aB (fun n=>ct (er [] (PM l)) (f.getD n zI)) 0 f.length then(Sum.inr (Sum.inl ()):Bool×Unit⊕(Unit⊕Empty))else .inl (false,())):=by
  refine bp (fun n=>(er [] (PM l),(n:Int),())) f.length (by omega) _ _ _ (fun n hn=>?_) ?_
  ·unfold JU;simp only[aj,hn,decide_true,cond_true,az,aq,av (n:=n) (by omega)];cases ct (er [] (PM l)) (f.getD n zI) <;> rfl
  ·unfold JU;simp only[aj,Nat.lt_irrefl,decide_false,cond_false]
 rw[h0,R7 h f l hl];cases g6 h 1 24 with
 |false=>rfl
 |true=>
  simp only[Bool.not_true,cond_false,Bool.true_and];cases af .eql (ai l) 0 with
  |true=>rfl
  |false=>
   simp only[cond_false,Bool.not_false,Bool.true_and];cases aB (Oj h f) 0 f.length with
   |false=>rfl
   |true=>
    simp only[cond_true,Option.bind_some,Sum.elim_inr,Sum.elim_inl,Bool.true_and];cases aB (U3 h l) 0 l.length with
    |false=>rfl
    |true=>simp only[cond_true,Option.bind_some,Sum.elim_inr,Sum.elim_inl,Bool.true_and,h4];cases aB (fun n=>ct (er [] (PM l)) (f.getD n zI)) 0 f.length <;> rfl
theorem Un(f:List Int)(l:List Bx)(n:Nat):ct (er [] (PM l)) (f.getD n zI)=foundAt f l n:=by rw[Bool.eq_iff_iff,KK];simp only[ct,Bool.false_eq_true,false_or,PM,foundAt,List.mem_map,List.any_eq_true,RB]
theorem Ul(h:Int)(f:List Int)(l:List Bx)(hl:l.length<=1073741824):RW h f l=Sw h f l:=by
 unfold RW Sw;cases h1:g6 h 1 24 with
 |false=>rfl
 |true=>
  obtain⟨q1,q2⟩:=gb.1 h1;have hb:=Ty q1 q2 l hl;have hne:Bool.not (af .eql (ai l) 0)=af .gtr (ai l) 0:=by
   cases hq:af .gtr (ai l) 0 with
   |true=>
    have:af .eql (ai l) 0=false:=by rw[Bool.eq_false_iff,ne_eq,RB];have:=WV.1 hq;omega
    rw[this];rfl
   |false=>
    have:af .eql (ai l) 0=true:=by rw[RB];have:=Uq.1 hq;unfold ai at this⊢;omega
    rw[this];rfl
  rw[hne];have hfn:(fun n=>ct (er [] (PM l)) (f.getD n zI))=foundAt f l:=funext fun n=>Un f l n;rw[hfn,Bool.eq_iff_iff];simp only[Bool.and_eq_true,RB,aQ,Bool.true_and];simp only[aQ]at hb;constructor
  ·rintro⟨⟨c1,c2,c3⟩,c4⟩;obtain⟨d1,_⟩:=hb.1 ⟨c1,c3⟩;exact⟨c2,fun m x y=>(c4 m x y).1,d1,fun m x y=>(c4 m x y).2,c3⟩
  ·rintro⟨c2,c4,c1,c5,c3⟩;obtain⟨d1,_⟩:=hb.2 ⟨c1,c3⟩;exact⟨⟨d1,c2,c3⟩,fun m x y=>⟨c4 m x y,c5 m x y⟩⟩
noncomputable def c6(L:List OO)(i:Nat):OO:=L.getD i cn
noncomputable def TC(l:List Bx)(p:Int):Bool:=l.any fun b=>af .eql b.2.2.1 p
theorem Vy(h:Int)(f:List Int)(l:List Bx)(p:Int)(hl:l.length<=1073741824):∃r,KP h f l p=some (r,())/\af .geq r 0=(af .gtr p 0&&TC l p):=by
 unfold KP;obtain⟨y,h1,h2⟩:=fP (body:=JN (p,h,f,l,())) (fun n=>((n:Int),())) l.length (by omega) (fun n=>Bool.not (af .eql (l.getD n hU).2.2.1 p&&af .gtr p 0)) (Sum.inr (Sum.inl ())) (fun n=>Sum.inl ((n:Int),())) (fun n hn=>by
  unfold JN;simp only[aj,az,hn,decide_true,cond_true,aq,av (n:=n) (by omega)];cases af .eql (l.getD n hU).2.2.1 p <;> cases af .gtr p 0 <;> rfl) (by
  unfold JN;simp only[aj,Nat.lt_irrefl,decide_false,cond_false])
 have h1':Mz (p,h,f,l,()) ((0:Int),())=some y:=h1;rw[h1'];rcases h2 with ⟨e1,rfl⟩|⟨e1,n,hn,rfl,e3⟩
 ·refine⟨-1,rfl,?_⟩;rw[aQ]at e1;show false=_;symm;rw[Bool.and_eq_false_iff];cases hp:af .gtr p 0 with
  |false=>exact .inl rfl
  |true=>refine .inr ?_;rw[Bool.eq_false_iff];intro hh;obtain⟨b,hb,he⟩:=List.any_eq_true.1 hh;obtain⟨n,hn,rfl⟩:=List.mem_iff_getElem.1 hb;have:=e1 n (Nat.zero_le _) (by omega);rw[List.getD_eq_getElem?_getD,List.getElem?_eq_getElem hn,Option.getD_some,he,hp]at this;cases this
 ·refine⟨(n:Int),rfl,?_⟩;have h0:af .geq (n:Int) 0=true:=by simp[af]
  rw[h0];symm;have e3:(af .eql (l.getD n hU).2.2.1 p&&af .gtr p 0)=true:=by
   cases hq:(af .eql (l.getD n hU).2.2.1 p&&af .gtr p 0)with
   |true=>rfl
   |false=>rw[hq]at e3;first|cases e3|(simp at e3)
  rw[Bool.and_eq_true]at e3⊢;exact⟨e3.2,List.any_eq_true.2 ⟨_,qS hn hU,e3.1⟩⟩
noncomputable def M5(L:List OO)(i k n:Nat):Bool:=Bool.not (af .gtr (fq (c6 L i).2.2 n).2.2.1 0&&TC (c6 L k).2.2 (fq (c6 L i).2.2 n).2.2.1)
noncomputable def NX(L:List OO)(i:Nat):Bool:=RW (c6 L i).1 (c6 L i).2.1 (c6 L i).2.2&&aB (fun k=>aB (M5 L i k) 0 (c6 L i).2.2.length) 0 i
noncomputable def NS(L:List OO):Bool:=g6 (ai L) 1 6&&aB (NX L) 0 L.length
noncomputable def Ot(L:List OO):Prop:=L.length<=1073741824/\∀c,c∈L->c.2.1.length<=1073741824/\c.2.2.length<=1073741824
theorem Ot.at{L:List OO}(h:Ot L){i:Nat}(hi:i<L.length):(c6 L i).2.1.length<=1073741824/\(c6 L i).2.2.length<=1073741824:=h.2 _ (qS hi _)
theorem SU(L:List OO)(hw:Ot L):KO L=some (NS L,()):=by
 have hL:=hw.1;unfold KO NS;rw[mS];simp only[Option.bind_some];have h4:∀i k,i<L.length->k<i->My (L,(i:Int),(k:Int),()) (0,())=some (bif aB (M5 L i k) 0 (c6 L i).2.2.length then(Sum.inr (Sum.inl ()):Bool×Unit⊕(Unit⊕Empty))else .inl (false,())):=by
  intro i k hi hk;have hki:k<L.length:=by omega
  have hbi:=(hw.at hi).2;refine bp (fun n=>((n:Int),())) (c6 L i).2.2.length (by omega) _ _ _ (fun n hn=>?_) ?_
  ·unfold Mv;obtain⟨r,e1,e2⟩:=Vy (c6 L k).1 (c6 L k).2.1 (c6 L k).2.2 (fq (c6 L i).2.2 n).2.2.1 (hw.at hki).2;have DC:KP (L.getD k cn).1 (L.getD k cn).2.1 (L.getD k cn).2.2 ((L.getD i cn).2.2.getD n hU).2.2.1=some (r,()):=e1;have hn':n<(L.getD i cn).2.2.length:=hn;simp only[az,hi,hki,decide_true,cond_true,aq,aj,hn',DC,Option.bind_some,e2,av (n:=n) (by omega)];unfold M5;cases (af .gtr (fq (c6 L i).2.2 n).2.2.1 0&&TC (c6 L k).2.2 (fq (c6 L i).2.2 n).2.2.1) <;> rfl
  ·unfold Mv;have:¬((c6 L i).2.2.length<(L.getD i cn).2.2.length):=Nat.lt_irrefl _;simp only[az,hi,decide_true,cond_true,aq,aj,this,decide_false,cond_false]
 have h2:∀i,i<L.length->Mx (L,(i:Int),()) (0,())=some (bif aB (fun k=>aB (M5 L i k) 0 (c6 L i).2.2.length) 0 i then(Sum.inr (Sum.inl ()):Bool×Unit⊕(Unit⊕Empty))else .inl (false,())):=by
  intro i hi;refine bp (fun n=>((n:Int),())) i (by omega) _ _ _ (fun k hk=>?_) ?_
  ·unfold Mu;simp only[eH,hk,decide_true,cond_true,h4 i k hi hk,Option.bind_some,av (n:=k) (by omega)];cases aB (M5 L i k) 0 (c6 L i).2.2.length <;> rfl
  ·unfold Mu;simp only[eH,Nat.lt_irrefl,decide_false,cond_false]
 have h0:Mw (L,()) (0,())=some (bif aB (NX L) 0 L.length then(Sum.inr (Sum.inl ()):Bool×Unit⊕(Unit⊕Empty))else .inl (false,())):=by
  refine bp (fun n=>((n:Int),())) L.length (by omega) _ _ _ (fun i hi=>?_) ?_
  ·unfold Mt NX;have hc:H9 (L.getD i cn).1 (L.getD i cn).2.1 (L.getD i cn).2.2=some (RW (c6 L i).1 (c6 L i).2.1 (c6 L i).2.2,()):=RG _ _ _ (hw.at hi).1 (hw.at hi).2;simp only[aj,az,hi,decide_true,cond_true,aq,hc,Option.bind_some,h2 i hi,av (n:=i) (by omega)];cases RW (c6 L i).1 (c6 L i).2.1 (c6 L i).2.2 with
   |false=>rfl
   |true=>cases aB (fun k=>aB (M5 L i k) 0 (c6 L i).2.2.length) 0 i <;> rfl
  ·unfold Mt;simp only[aj,Nat.lt_irrefl,decide_false,cond_false]
 rw[h0];cases g6 (ai L) 1 6 with
 |false=>rfl
 |true=>cases aB (NX L) 0 L.length <;> rfl
noncomputable def r7(L:List OO)(i:Nat):List Int:=((L.take i).map fun c=>KL c.2.2).flatten
theorem SP{L:List OO}{i:Nat}(h:i<L.length):r7 L (i+1)=r7 L i++KL (c6 L i).2.2:=by unfold r7 c6;rw[LU h cn,List.map_append,List.flatten_append];simp
theorem Tc(m:List (Int×Bool))(a b:List Int):er m (a++b)=er (er m a) b:=List.foldl_append
noncomputable def QT(L:List OO)(i n:Nat):Bool:=Bool.not (af .gtr (fq (c6 L i).2.2 n).2.2.1 0&&ct (er (er [] (r7 L i)) (KL ((c6 L i).2.2.take n))) (fq (c6 L i).2.2 n).2.2.1)
noncomputable def OP(L:List OO)(i:Nat):Bool:=Sw (c6 L i).1 (c6 L i).2.1 (c6 L i).2.2&&aB (QT L i) 0 (c6 L i).2.2.length
theorem R6(L:List OO)(hw:Ot L):ID L=some (g6 (ai L) 1 6&&aB (OP L) 0 L.length,()):=by
 have hL:=hw.1;unfold ID;rw[ev];simp only[Option.bind_some];have h2:∀i,i<L.length->Ml (L,ai L,(i:Int),(c6 L i).2.2,ai (c6 L i).2.2,()) (er [] (r7 L i),0,())=some (bif aB (QT L i) 0 (c6 L i).2.2.length then(Sum.inr (Sum.inl (er [] (r7 L (i+1)),())):Bool×Unit⊕((List (Int×Bool))×Unit⊕Empty))else .inl (false,())):=by
  intro i hi;have hb:=(hw.at hi).2;have:=bp (body:=IJ (L,ai L,(i:Int),(c6 L i).2.2,ai (c6 L i).2.2,())) (fun n=>(er (er [] (r7 L i)) (KL ((c6 L i).2.2.take n)),(n:Int),())) (c6 L i).2.2.length (by omega) (QT L i) (Sum.inr (Sum.inl (er [] (r7 L (i+1)),()))) (Sum.inl (false,())) (fun n hn=>?_) ?_
  ·exact this
  ·unfold IJ QT;have e2:er (er [] (r7 L i)) (KL ((c6 L i).2.2.take (n+1)))=eT (er (er [] (r7 L i)) (KL ((c6 L i).2.2.take n))) (fq (c6 L i).2.2 n).2.2.1 true:=by unfold KL fq;rw[LU hn hU,List.map_append];exact OL _ _ _
   simp only[aj,az,hn,decide_true,cond_true,aq,av (n:=n) (by omega),e2];show(bif af .gtr (fq (c6 L i).2.2 n).2.2.1 0 then(bif ct (er (er [] (r7 L i)) (KL ((c6 L i).2.2.take n))) (fq (c6 L i).2.2 n).2.2.1 then _ else _)else _)=_;cases af .gtr (fq (c6 L i).2.2 n).2.2.1 0 with
   |false=>rfl
   |true=>cases ct (er (er [] (r7 L i)) (KL ((c6 L i).2.2.take n))) (fq (c6 L i).2.2 n).2.2.1 <;> rfl
  ·unfold IJ;simp only[aj,Nat.lt_irrefl,decide_false,cond_false,List.take_length,SP hi,Tc]
 have h0:Mk (L,ai L,()) ([],0,())=some (bif aB (OP L) 0 L.length then(Sum.inr (Sum.inl ()):Bool×Unit⊕(Unit⊕Empty))else .inl (false,())):=by
  refine bp (fun n=>(er [] (r7 L n),(n:Int),())) L.length (by omega) _ _ _ (fun i hi=>?_) ?_
  ·unfold Mj OP;have hc:D3 (L.getD i cn).1 (L.getD i cn).2.1 (L.getD i cn).2.2=some (Sw (c6 L i).1 (c6 L i).2.1 (c6 L i).2.2,()):=RC _ _ _ (hw.at hi).1 (hw.at hi).2;have h2':=h2 i hi;unfold c6 at h2';simp only[aj,az,hi,decide_true,cond_true,aq,hc,Option.bind_some,h2',av (n:=i) (by omega)];cases Sw (c6 L i).1 (c6 L i).2.1 (c6 L i).2.2 with
   |false=>rfl
   |true=>show(bif Bool.not true then _ else(some (bif aB (QT L i) 0 (c6 L i).2.2.length then _ else _)).bind _)=_;cases aB (QT L i) 0 (c6 L i).2.2.length <;> rfl
  ·unfold Mj;simp only[aj,Nat.lt_irrefl,decide_false,cond_false]
 rw[h0];cases g6 (ai L) 1 6 with
 |false=>rfl
 |true=>cases aB (OP L) 0 L.length <;> rfl
theorem SI{l:List Bx}{p:Int}:TC l p=true↔p∈KL l:=by simp only[TC,KL,List.any_eq_true,List.mem_map,RB]
theorem Rp{L:List OO}{i:Nat}(hi:i<=L.length)(p:Int):p∈r7 L i↔∃k,k<i/\p∈KL (c6 L k).2.2:=by
 unfold r7;simp only[List.mem_flatten,List.mem_map];constructor
 ·rintro⟨l,⟨c,hc,rfl⟩,hp⟩;obtain⟨k,hk,rfl⟩:=(Qn (z:=cn) hi).1 hc;exact⟨k,hk,hp⟩
 ·rintro⟨k,hk,hp⟩;exact⟨_,⟨c6 L k,(Qn (z:=cn) hi).2 ⟨k,hk,rfl⟩,rfl⟩,hp⟩
theorem Tx(L:List OO)(hw:Ot L){i:Nat}(hi:i<L.length):NX L i=OP L i:=by
 unfold NX OP;rw[Ul _ _ _ (hw.at hi).2];cases hc:Sw (c6 L i).1 (c6 L i).2.1 (c6 L i).2.2 with
 |false=>rfl
 |true=>
  simp only[Bool.true_and];have hdup:∀n,n<(c6 L i).2.2.length->aB (QL (c6 L i).2.2 n) 0 n=true:=by rw[<-Ul _ _ _ (hw.at hi).2]at hc;unfold RW at hc;simp only[Bool.and_eq_true]at hc;intro n hn;have:=(aQ _ _).1 hc.2.1.1 n (Nat.zero_le _) (by omega);unfold TZ at this;simp only[Bool.and_eq_true]at this;exact this.1.2
  rw[Bool.eq_iff_iff,aQ,aQ];constructor
  ·intro h n _ hn;unfold QT;rw[Bool.not_eq_true',Bool.and_eq_false_iff];cases hg:af .gtr (fq (c6 L i).2.2 n).2.2.1 0 with
   |false=>exact .inl rfl
   |true=>
    refine .inr ?_;cases hm:ct (er (er [] (r7 L i)) (KL ((c6 L i).2.2.take n))) (fq (c6 L i).2.2 n).2.2.1 with
    |false=>rfl
    |true=>
     exfalso;rcases(KK _ _ _).1 hm with hm|hm
     ·have:=(KK _ _ _).1 hm;simp only[ct,Bool.false_eq_true,false_or]at this;obtain⟨k,hk,hp⟩:=(Rp (by omega) _).1 this;have:=h k (Nat.zero_le _) (by omega);have:=(aQ _ _).1 this n (Nat.zero_le _) hn;unfold M5 at this;rw[hg,SI.2 hp]at this;cases this
     ·have hd:=hdup n (by omega);rw[<-RX (by omega),hg]at hd;have:ct (er [] (KL ((c6 L i).2.2.take n))) (fq (c6 L i).2.2 n).2.2.1=true:=(KK _ _ _).2 (.inr hm);rw[this]at hd;cases hd
  ·intro h k _ hk;rw[aQ];intro n _ hn;have:=h n (Nat.zero_le _) hn;unfold QT at this;unfold M5;rw[Bool.not_eq_true',Bool.and_eq_false_iff]at this⊢;rcases this with h1|h1
   ·exact .inl h1
   ·refine .inr ?_;cases hp:TC (c6 L k).2.2 (fq (c6 L i).2.2 n).2.2.1 with
    |false=>rfl
    |true=>have:ct (er (er [] (r7 L i)) (KL ((c6 L i).2.2.take n))) (fq (c6 L i).2.2 n).2.2.1=true:=(KK _ _ _).2 (.inl ((KK _ _ _).2 (.inr ((Rp (by omega) _).2 ⟨k,by omega,SI.1 hp⟩))));rw[this]at h1;cases h1
theorem SK(L:List OO)(hw:Ot L):ID L=some (NS L,()):=by rw[R6 L hw];unfold NS;rw[fR L.length 0 fun m _ hm=>Tx L hw (by omega)]
end Go.Fn

