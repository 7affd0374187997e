import Derived.Test.YthdhgmppijjhpaaGreatRE
import Derived.Lib.SlicesCompact
import Derived.Sort.AssemblyPlain
/- Plain functions that stand for Go functions, and what they answer. Conditions: none. -/
set_option autoImplicit false
set_option linter.unusedVariables false
set_option linter.unusedSimpArgs false
set_option linter.unusedVariables false
namespace Go.Fn
open Go.R
abbrev Mf:=List (Int×Int)
abbrev gg:=List Int
abbrev YbT:=Int×Int×Int×Bool
abbrev Se:=List YbT
abbrev Sf:=List (Int×gg×Se)
abbrev Sn:=Int×Int×Int×Int×Int
abbrev YcT:=Int×Int×Sn
abbrev Km:=List YcT
abbrev YbQ:=Mf×Mf×Sf×Int×Int×Bool×Bool×Bool×Int×Int×Km
abbrev Lc:=List YbQ
abbrev YbY:=Int×Int×Int×Int×Int×Int×YcT
abbrev Nq:=List YbY
abbrev Ld:=List (Int×Int×Int×YbT)
abbrev Cp:=Int×Unit
abbrev Vw:=Bool×Unit
abbrev oa:=Option Vw
abbrev YcD:=Unit⊕Empty
abbrev PZ:=Option (Cp⊕Vw⊕YcD)
abbrev u0:=List gg
abbrev Xv:=Km×Unit
abbrev YcW:=Int×Lc×Nq×Ld×Xv
abbrev WL:=Int×Int×Int×Int×Int×Int×Int×Int×Int×Int×YcW
abbrev Jo:=List Sn
abbrev Ls:=Int×Cp
abbrev Yh:=Km×Cp
abbrev Zn:=Int×Int×u0×Jo×Int×Int×u0×Jo×gg×gg×Mf×Mf×Sf×Int×Int×Bool×Bool×Bool×Int×Int×Yh
abbrev V4:=gg×Cp
abbrev Xz:=gg×V4
abbrev Xt:=Int×Int×u0×Jo×Int×Int×u0×Jo×Xz
abbrev YaT:=Int×Int×Int×Int×Int×Int×Int×Int×Int×Int×Int×Lc×Nq×Ld×Yh
abbrev YcV:=Int×Int×Ls
abbrev XI:=Int×YcV
abbrev R4:=Option Cp
abbrev Xu:=List (Int×Bool)
abbrev XJ:=Option (Ls⊕Vw⊕Cp⊕Empty)
abbrev XK:=Int×Int×u0×Jo×Unit
abbrev YbA:=Int×Int×u0×Jo×gg×Vw
abbrev Zo:=Option (Cp⊕Cp⊕YcD)
abbrev Vx:=gg×Unit
abbrev YbC:=Int×Int×u0×Jo×Int×Int×u0×Jo×gg×Vx⊕Empty
abbrev Ye:=Option (Ls⊕Cp⊕Empty)
abbrev YbE:=Int×Int×u0×Jo×Int×Int×u0×Jo×gg×gg×Mf×Mf×Sf×Int×Int×Bool×Bool×Bool×Int×Int×Km×Int×Ls
abbrev YbF:=Int×Int×u0×Jo×Int×Int×u0×Jo×gg×gg×XI
abbrev Zq:=Int×Vw
abbrev XL:=Int×Int×Zq
abbrev YbH:=Option (Ls⊕Cp⊕Cp⊕Empty)
abbrev YbI:=gg×Int×Int×Int×gg×YcV⊕Empty
abbrev YbK:=Int×Int×u0×Jo×Cp
abbrev YbL:=Int×Int×u0×Jo×V4
abbrev YbM:=Int×Int×Int×Int×Int×Int×Int×Int×Int×Int×Int×Lc×Nq×Ld×Km×Lc×Cp
abbrev YbN:=Int×Int×Int×gg×XI
abbrev XM:=Se×Unit
abbrev YbP:=Option (gg×Zq)
abbrev YbS:=Int×Int×u0×Jo×Int×Int×u0×Jo×gg×Xz
abbrev YbU:=Int×Int×u0×Jo×Int×Int×u0×Jo×Vx⊕Empty
abbrev Xw:=u0×Unit
abbrev Xx:=Mf×Unit
abbrev YbX:=Option Zq
abbrev XN:=Sf×Unit
abbrev Xy:=u0×Cp
abbrev XO:=Xu×Cp
abbrev XP:=Mf×Cp
abbrev XQ:=Se×Cp
abbrev Yf:=Lc×Unit
abbrev Yg:=Ld×Unit
abbrev YcI:=Int×gg×XM
abbrev YcJ:=gg×Int×Int×Int×gg×Int×XI
abbrev YcK:=Option (YbK⊕YbA⊕XK⊕Empty)
abbrev Yi:=Sf×Cp
abbrev Yj:=Nq×Cp
abbrev Zp:=Nq×Unit
abbrev YcQ:=Int×Int×Int×Bool×Cp
abbrev YcR:=Option (XO⊕Vw⊕YcD)
abbrev YcS:=Option (Xt⊕YbA⊕YbC)
abbrev YcU:=Int×Int×XI
abbrev YcX:=Int×Int×Int×Lc×Ls
abbrev YcY:=Int×Int×u0×Jo×YbL
noncomputable def e5:YcT:=(0,0,0,0,0,0,0)
noncomputable def O1(a b c d e f g:Int):Option YcU:=some (a,b,c,d,e,f,g,())
noncomputable def bt(a b c:Int):oa:=cond (af .geq a b) (some (af .leq a c,())) (some (false,()))
noncomputable def Mw(a b c d e f g:Int):oa:=(bt a 0 5).bind fun h=>letI i:=some (false,());cond h.1 ((bt b 1 999).bind fun j=>cond j.1 ((bt c 1 100000).bind fun k=>cond k.1 ((bt d 1 4).bind fun l=>cond l.1 ((bt e 1 999).bind fun m=>cond m.1 ((bt f 0 20000).bind fun n=>cond n.1 ((bt g 0 20000).bind fun o=>some (o.1,())) i) i) i) i) i) i
noncomputable def bu(a b c:Int):oa:=cond (af .geq a b) (some (af .leq a c,())) (some (false,()))
noncomputable def gn(a:Int):oa:=(bu a 0 20000).bind fun b=>some (b.1,())
noncomputable def Mh(a b c d e f g:Int):oa:=(bu a 0 5).bind fun h=>letI i:=some (false,());cond h.1 ((bu b 1 999).bind fun j=>cond j.1 ((bu c 1 100000).bind fun k=>cond k.1 ((bu d 1 4).bind fun l=>cond l.1 ((bu e 1 999).bind fun m=>cond m.1 ((gn f).bind fun n=>cond n.1 ((gn g).bind fun o=>some (o.1,())) i) i) i) i) i) i
noncomputable def IG(a:Km)(b:Int):R4:=letI c:=aa .sub .i64 b (ai a);cond (af .lss c 0) (some (-1,())) (some (c,()))
noncomputable def Ih(a:Xv)(b:Yh):Option (Yh⊕Xv⊕Empty):=letI c:=b.2.1;letI d:=ae e5 a.1 c;letI e:=d.2.2.2;cond (af .lss c (ai a.1)) (cond (ah a.1 c) ((O1 d.1 d.2.1 d.2.2.1 e.1 e.2.1 e.2.2.1 e.2.2.2).bind fun f=>letI g:=f.2.2.2;cond (ah b.1 c) (some (.inl (aC b.1 c (f.1,f.2.1,f.2.2.1,g.1,g.2.1,g.2.2.1,g.2.2.2.1),aa .add .i64 c 1,()))) none) none) (some (.inr (.inl (b.1,()))))
noncomputable def Ii k x:=iter (Ih k) big x
noncomputable def IJ(a:Km):Option Xv:=letI b:=(0:Int);cond (cI (ai a)) ((Ii (a,()) (cW (ai a) (b,b,b,b,b,b,b),b,())).bind fun c=>Sum.elim (fun d=>some (d.1,())) (fun d=>Empty.elim d) c) none
noncomputable def J7(a:Xv)(b:Cp):PZ:=letI c:=ae e5 a.1 b.1;letI d:=c.2.2;cond (af .lss b.1 (ai a.1)) (cond (ah a.1 b.1) ((Mw c.1 c.2.1 d.1 d.2.1 d.2.2.1 d.2.2.2.1 d.2.2.2.2).bind fun e=>letI f:=(false,());letI g:=af .gtr b.1 0;letI h:=aa .sub .i64 b.1 1;letI i:=(aa .add .i64 b.1 1,());letI j:=ah a.1 h;letI k:=ae e5 a.1 h;letI l:=af .eql c.1 k.1;letI m:=af .leq c.2.1 k.2.1;letI n:=af .leq d.1 k.2.2.1;cond (Bool.not e.1) (some (.inr (.inl f))) (cond g (cond j (cond (af .lss c.1 k.1) (some (.inr (.inl f))) (cond g (cond j (cond l (cond j (cond m (some (.inr (.inl f))) (cond j (cond n (some (.inr (.inl f))) (some (.inl i))) none)) none) (some (.inl i))) none) (some (.inl i)))) none) (cond g (cond j (cond l (cond j (cond m (some (.inr (.inl f))) (cond j (cond n (some (.inr (.inl f))) (some (.inl i))) none)) none) (some (.inl i))) none) (some (.inl i))))) none) (some (.inr (.inr (.inl ()))))
noncomputable def J8 k x:=iter (J7 k) big x
noncomputable def r3(a:Km):oa:=cond (af .gtr (ai a) 60) (some (false,())) ((J8 (a,()) (0,())).bind fun b=>Sum.elim (fun c=>some (c.1,())) (fun c=>Sum.elim (fun _=>some (true,())) (fun d=>Empty.elim d) c) b)
noncomputable def Jt(a:Km×Yh)(b:Cp):PZ:=letI c:=ae e5 a.2.1 b.1;letI d:=c.2.2;cond (af .lss b.1 a.2.2.1) (cond (ah a.2.1 b.1) ((Mh c.1 c.2.1 d.1 d.2.1 d.2.2.1 d.2.2.2.1 d.2.2.2.2).bind fun e=>letI f:=(false,());letI g:=aa .sub .i64 b.1 1;letI h:=(aa .add .i64 b.1 1,());letI i:=ae e5 a.1 g;cond (Bool.not e.1) (some (.inr (.inl f))) (cond (af .eql b.1 0) (some (.inl h)) (cond (ah a.1 g) (cond (af .lss c.1 i.1) (some (.inr (.inl f))) (cond (af .eql c.1 i.1) (cond (af .leq c.2.1 i.2.1) (some (.inr (.inl f))) (cond (af .leq d.1 i.2.2.1) (some (.inr (.inl f))) (some (.inl h)))) (some (.inl h)))) none))) none) (some (.inr (.inr (.inl ()))))
noncomputable def Ju k x:=iter (Jt k) big x
noncomputable def qe(a:Km):oa:=cond (af .gtr (ai a) 60) (some (false,())) ((Ju (a,a,ai a,()) (0,())).bind fun b=>Sum.elim (fun c=>some (c.1,())) (fun c=>Sum.elim (fun _=>some (true,())) (fun d=>Empty.elim d) c) b)
noncomputable def Mm(a b c d e f g h i j k l m n:Int):oa:=letI o:=some (false,());cond (af .neq a h) o (cond (af .neq b i) o (cond (af .neq c j) o (cond (af .neq d k) o (cond (af .neq e l) o (cond (af .neq f m) o (cond (af .neq g n) o (some (true,()))))))))
noncomputable def Ky(a:Km×Xv)(b:Cp):PZ:=letI c:=ae e5 a.1 b.1;letI d:=ae e5 a.2.1 b.1;letI e:=c.2.2.2;letI f:=d.2.2.2;cond (af .lss b.1 (ai a.1)) (cond (ah a.1 b.1) (cond (ah a.2.1 b.1) ((Mm c.1 c.2.1 c.2.2.1 e.1 e.2.1 e.2.2.1 e.2.2.2 d.1 d.2.1 d.2.2.1 f.1 f.2.1 f.2.2.1 f.2.2.2).bind fun g=>cond (Bool.not g.1) (some (.inr (.inl (false,())))) (some (.inl (aa .add .i64 b.1 1,())))) none) none) (some (.inr (.inr (.inl ()))))
noncomputable def Kz k x:=iter (Ky k) big x
noncomputable def IE(a b:Km):oa:=cond (af .neq (ai a) (ai b)) (some (false,())) ((Kz (a,b,()) (0,())).bind fun c=>Sum.elim (fun d=>some (d.1,())) (fun d=>Sum.elim (fun _=>some (true,())) (fun e=>Empty.elim e) d) c)
end Go.Fn
set_option linter.unusedVariables false
namespace Go.Fn
open Go.R
noncomputable def zI:Int:=0
noncomputable def M6(a:gg×Vx)(b:Cp):PZ:=cond (af .lss b.1 (ai a.1)) (cond (ah a.1 b.1) (cond (ah a.2.1 b.1) (cond (af .neq (ae zI a.1 b.1) (ae zI a.2.1 b.1)) (some (.inr (.inl (false,())))) (some (.inl (aa .add .i64 b.1 1,())))) none) none) (some (.inr (.inr (.inl ()))))
noncomputable def M7 k x:=iter (M6 k) big x
noncomputable def s3(a b:gg):oa:=cond (af .neq (ai a) (ai b)) (some (false,())) ((M7 (a,b,()) (0,())).bind fun c=>Sum.elim (fun d=>some (d.1,())) (fun d=>Sum.elim (fun _=>some (true,())) (fun e=>Empty.elim e) d) c)
noncomputable def s4(a:Unit)(b:Km×Ls):Option (Km×Ls⊕Yh⊕Empty):=letI c:=b.2.2.1;letI d:=(ae e5 b.1 c).2;cond (af .lss c (ai b.1)) (cond (ah b.1 c) (lets (aC b.1 c (b.2.1,d.1,d.2.1,d.2.2.1,d.2.2.2.1,d.2.2.2.2.1,d.2.2.2.2.2)) fun e=>letI f:=(1:Int);letI g:=aa .add .i64 b.2.1 f;letI h:=(ae e5 e c).2.2;cond (ah e c) (lets (aC e c ((ae e5 e c).1,g,h.1,h.2.1,h.2.2.1,h.2.2.2.1,h.2.2.2.2)) fun i=>letI j:=ae e5 i c;letI k:=j.2.2.2;letI l:=aa .add .i64 g f;cond (ah i c) (lets (aC i c (j.1,j.2.1,l,k.1,k.2.1,k.2.2.1,k.2.2.2)) fun m=>letI n:=ae e5 m c;letI o:=n.2.2.2.2;letI p:=aa .add .i64 l f;cond (ah m c) (lets (aC m c (n.1,n.2.1,n.2.2.1,p,o.1,o.2.1,o.2.2)) fun q=>letI r:=ae e5 q c;letI s:=aa .add .i64 p f;cond (ah q c) (lets (aC q c (r.1,r.2.1,r.2.2.1,r.2.2.2.1,s,r.2.2.2.2.2.1,r.2.2.2.2.2.2)) fun t=>letI u:=ae e5 t c;letI v:=aa .add .i64 s f;cond (ah t c) (lets (aC t c (u.1,u.2.1,u.2.2.1,u.2.2.2.1,u.2.2.2.2.1,v,u.2.2.2.2.2.2)) fun w=>lets (aa .add .i64 v f) fun x=>letI y:=ae e5 w c;cond (ah w c) (lets (aC w c (y.1,y.2.1,y.2.2.1,y.2.2.2.1,y.2.2.2.2.1,y.2.2.2.2.2.1,x)) fun z=>some (.inl (z,aa .add .i64 x f,aa .add .i64 c f,()))) none) none) none) none) none) none) none) (some (.inr (.inl (b.1,b.2.1,()))))
noncomputable def tb k x:=iter (s4 k) big x
noncomputable def tW(a:Km)(b:Int):Option (Int×Xv):=(tb () (a,b,0,())).bind fun c=>Sum.elim (fun d=>some (d.2.1,d.1,())) (fun d=>Empty.elim d) c
noncomputable def Ib(a:Unit)(b:gg×Ls):Option (gg×Ls⊕V4⊕Empty):=letI c:=b.2.2.1;cond (af .lss c (ai b.1)) (cond (ah b.1 c) (some (.inl (aC b.1 c b.2.1,aa .add .i64 b.2.1 1,aa .add .i64 c 1,()))) none) (some (.inr (.inl (b.1,b.2.1,()))))
noncomputable def Ic k x:=iter (Ib k) big x
noncomputable def vm(a:gg)(b:Int):Option (Int×Vx):=(Ic () (a,b,0,())).bind fun c=>Sum.elim (fun d=>some (d.2.1,d.1,())) (fun d=>Empty.elim d) c
noncomputable def H8(a:Vx)(b:Ls):YbH:=cond (af .lss b.2.1 (ai a.1)) (cond (ah a.1 b.2.1) (cond (af .neq (ae zI a.1 b.2.1) b.1) (some (.inr (.inl (-1,())))) (some (.inl (aa .add .i64 b.1 1,aa .add .i64 b.2.1 1,())))) none) (some (.inr (.inr (.inl (b.1,())))))
noncomputable def H9 k x:=iter (H8 k) big x
noncomputable def IF(a:gg)(b:Int):R4:=(H9 (a,()) (b,0,())).bind fun c=>Sum.elim (fun d=>some (d.1,())) (fun d=>Sum.elim (fun e=>some (e.1,())) (fun e=>Empty.elim e) d) c
noncomputable def JZ(a:Vx)(b:V4):Option (V4⊕Vx⊕Empty):=letI c:=b.2.1;cond (af .lss c (ai a.1)) (cond (ah a.1 c) (cond (ah b.1 c) (some (.inl (aC b.1 c (ae zI a.1 c),aa .add .i64 c 1,()))) none) none) (some (.inr (.inl (b.1,()))))
noncomputable def J0 k x:=iter (JZ k) big x
noncomputable def Lk(a:gg):Option Vx:=cond (cI (ai a)) ((J0 (a,()) (cW (ai a) (0:Int),0,())).bind fun b=>Sum.elim (fun c=>some (c.1,())) (fun c=>Empty.elim c) b) none
end Go.Fn
set_option linter.unusedVariables false
namespace Go.Fn
open Go.R
noncomputable def gb:gg:=([]:gg)
noncomputable def lf:Sn:=(0,0,0,0,0)
noncomputable def Lj(a:gg)(b:Int):R4:=letI c:=aa .sub .i64 b (ai a);cond (af .lss c 0) (some (-1,())) (some (c,()))
noncomputable def IR(a:Xw)(b:Ls):YbH:=cond (af .lss b.2.1 (ai a.1)) (cond (ah a.1 b.2.1) ((Lj (ae gb a.1 b.2.1) b.1).bind fun c=>cond (af .lss c.1 0) (some (.inr (.inl (-1,())))) (some (.inl (c.1,aa .add .i64 b.2.1 1,())))) none) (some (.inr (.inr (.inl (b.1,())))))
noncomputable def LR k x:=iter (IR k) big x
noncomputable def Mr(a:u0)(b:Int):R4:=letI c:=aa .sub .i64 b (ai a);cond (af .lss c 0) (some (-1,())) ((LR (a,()) (c,0,())).bind fun d=>Sum.elim (fun e=>some (e.1,())) (fun e=>Sum.elim (fun f=>some (f.1,())) (fun f=>Empty.elim f) e) d)
noncomputable def IV(a:Xw)(b:Xy):Option (Xy⊕Xw⊕Empty):=letI c:=b.2.1;cond (af .lss c (ai a.1)) (cond (ah a.1 c) ((Lk (ae gb a.1 c)).bind fun d=>cond (ah b.1 c) (some (.inl (aC b.1 c d.1,aa .add .i64 c 1,()))) none) none) (some (.inr (.inl (b.1,()))))
noncomputable def IW k x:=iter (IV k) big x
noncomputable def Ms(a:u0):Option Xw:=cond (cI (ai a)) ((IW (a,()) (cW (ai a) ([]:gg),0,())).bind fun b=>Sum.elim (fun c=>some (c.1,())) (fun c=>Empty.elim c) b) none
noncomputable def LZ(a:YbK)(b:Cp):PZ:=letI c:=a.2.2;letI d:=ae gb c.1 c.2.2.1;cond (af .lss b.1 (ai c.1)) (cond (ah c.1 c.2.2.1) (cond (ah d b.1) ((bt (ae zI d b.1) 0 200).bind fun e=>cond (Bool.not e.1) (some (.inr (.inl (false,())))) (some (.inl (aa .add .i64 b.1 1,())))) none) none) (some (.inr (.inr (.inl ()))))
noncomputable def L2 k x:=iter (LZ k) big x
noncomputable def LY(a:XK)(b:Cp):PZ:=letI c:=a.2.2.1;cond (af .lss b.1 (ai c)) (cond (ah c b.1) (cond (af .neq (ai (ae gb c b.1)) (ai c)) (some (.inr (.inl (false,())))) ((L2 (a.1,a.2.1,c,a.2.2.2.1,b.1,()) (0,())).bind fun d=>Sum.elim (fun e=>some (.inr (.inl (e.1,())))) (fun e=>Sum.elim (fun _=>some (.inl (aa .add .i64 b.1 1,()))) (fun f=>Empty.elim f) e) d)) none) (some (.inr (.inr (.inl ()))))
noncomputable def L1 k x:=iter (LY k) big x
noncomputable def L0(a:XK)(b:Cp):PZ:=letI c:=a.2.2.2.1;letI d:=ae lf c b.1;cond (af .lss b.1 (ai c)) (cond (ah c b.1) ((bt d.2.1 0 20000).bind fun e=>letI f:=(false,());cond (Bool.not e.1) (some (.inr (.inl f))) ((bt d.1 0 d.2.1).bind fun g=>cond (Bool.not g.1) (some (.inr (.inl f))) ((bt d.2.2.1 0 200).bind fun h=>cond (Bool.not h.1) (some (.inr (.inl f))) ((bt d.2.2.2.1 0 1000).bind fun i=>cond (Bool.not i.1) (some (.inr (.inl f))) ((bt d.2.2.2.2 0 1000).bind fun j=>cond (Bool.not j.1) (some (.inr (.inl f))) (some (.inl (aa .add .i64 b.1 1,())))))))) none) (some (.inr (.inr (.inl ()))))
noncomputable def L3 k x:=iter (L0 k) big x
noncomputable def Ip(a b:Int)(c:u0)(d:Jo):oa:=(bt a 0 20000).bind fun e=>letI f:=some (false,());cond (Bool.not e.1) f ((bt b 0 1000).bind fun g=>letI h:=(a,b,c,d,());cond (Bool.not g.1) f (cond (af .gtr (ai d) 6) f (cond (af .neq (ai c) (aa .add .i64 (ai d) 1)) f ((L1 h (0,())).bind fun i=>Sum.elim (fun j=>some (j.1,())) (fun j=>Sum.elim (fun _=>(L3 h (0,())).bind fun k=>Sum.elim (fun l=>some (l.1,())) (fun l=>Sum.elim (fun _=>some (true,())) (fun m=>Empty.elim m) l) k) (fun k=>Empty.elim k) j) i))))
noncomputable def M1(a:Int):oa:=(bu a 0 200).bind fun b=>some (Bool.not b.1,())
noncomputable def ej(a:V4)(b:Cp):Zo:=cond (af .lss b.1 a.2.1) (cond (ah a.1 b.1) ((M1 (ae zI a.1 b.1)).bind fun c=>cond c.1 (some (.inr (.inl (b.1,())))) (some (.inl (aa .add .i64 b.1 1,())))) none) (some (.inr (.inr (.inl ()))))
noncomputable def e6 k x:=iter (ej k) big x
noncomputable def ga(a:gg):R4:=(e6 (a,ai a,()) (0,())).bind fun b=>Sum.elim (fun c=>some (c.1,())) (fun c=>Sum.elim (fun _=>some (-1,())) (fun d=>Empty.elim d) c) b
noncomputable def ei(a:gg):oa:=(ga a).bind fun b=>some (af .geq b.1 0,())
noncomputable def Lw(a:Int×Int×u0×Jo×Xy)(b:Cp):PZ:=letI c:=a.2.2.2.2;letI d:=ae gb c.1 b.1;cond (af .lss b.1 c.2.1) (cond (ah c.1 b.1) (cond (af .neq (ai d) (ai a.2.2.1)) (some (.inr (.inl (false,())))) ((ei d).bind fun e=>cond e.1 (some (.inr (.inl (false,())))) (some (.inl (aa .add .i64 b.1 1,()))))) none) (some (.inr (.inr (.inl ()))))
noncomputable def Ly k x:=iter (Lw k) big x
noncomputable def Lx(a:Jo×Cp)(b:Cp):PZ:=letI c:=ae lf a.1 b.1;cond (af .lss b.1 a.2.1) (cond (ah a.1 b.1) ((gn c.1).bind fun d=>letI e:=(false,());cond (Bool.not d.1) (some (.inr (.inl e))) ((gn c.2.1).bind fun f=>cond (Bool.not f.1) (some (.inr (.inl e))) (cond (af .gtr c.1 c.2.1) (some (.inr (.inl e))) ((bu c.2.2.1 0 200).bind fun g=>cond (Bool.not g.1) (some (.inr (.inl e))) ((bu c.2.2.2.1 0 1000).bind fun h=>cond (Bool.not h.1) (some (.inr (.inl e))) ((bu c.2.2.2.2 0 1000).bind fun i=>cond (Bool.not i.1) (some (.inr (.inl e))) (some (.inl (aa .add .i64 b.1 1,()))))))))) none) (some (.inr (.inr (.inl ()))))
noncomputable def Lz k x:=iter (Lx k) big x
noncomputable def H7(a b:Int)(c:u0)(d:Jo):oa:=(gn a).bind fun e=>letI f:=some (false,());cond (Bool.not e.1) f ((bu b 0 1000).bind fun g=>cond (Bool.not g.1) f (cond (af .gtr (ai d) 6) f (cond (af .neq (ai c) (aa .add .i64 (ai d) 1)) f ((Ly (a,b,c,d,c,ai c,()) (0,())).bind fun h=>Sum.elim (fun i=>some (i.1,())) (fun i=>Sum.elim (fun _=>(Lz (d,ai d,()) (0,())).bind fun j=>Sum.elim (fun k=>some (k.1,())) (fun k=>Sum.elim (fun _=>some (true,())) (fun l=>Empty.elim l) k) j) (fun j=>Empty.elim j) i) h))))
noncomputable def LL(a:u0×Xw)(b:Cp):PZ:=cond (af .lss b.1 (ai a.1)) (cond (ah a.1 b.1) (cond (ah a.2.1 b.1) ((s3 (ae gb a.1 b.1) (ae gb a.2.1 b.1)).bind fun c=>cond (Bool.not c.1) (some (.inr (.inl (false,())))) (some (.inl (aa .add .i64 b.1 1,())))) none) none) (some (.inr (.inr (.inl ()))))
noncomputable def LM k x:=iter (LL k) big x
noncomputable def Mo(a b:u0):oa:=cond (af .neq (ai a) (ai b)) (some (false,())) ((LM (a,b,()) (0,())).bind fun c=>Sum.elim (fun d=>some (d.1,())) (fun d=>Sum.elim (fun _=>some (true,())) (fun e=>Empty.elim e) d) c)
end Go.Fn
set_option linter.unusedVariables false
namespace Go.Fn
open Go.R
noncomputable def Nr:Int×Int:=(0,0)
noncomputable def JU(a:Mf)(b:Int):R4:=letI c:=aa .sub .i64 b (ai a);cond (af .lss c 0) (some (-1,())) (some (c,()))
noncomputable def N9(a b:Mf)(c:Int):R4:=(JU a c).bind fun d=>letI e:=some ((-1:Int),());cond (af .lss d.1 0) e ((JU b d.1).bind fun f=>cond (af .lss f.1 0) e (some (f.1,())))
noncomputable def PD(a b:Int):Option Ls:=some (a,b,())
noncomputable def IY(a:Xx)(b:XP):Option (XP⊕Xx⊕Empty):=letI c:=b.2.1;cond (af .lss c (ai a.1)) (cond (ah a.1 c) ((PD (ae Nr a.1 c).1 (ae Nr a.1 c).2).bind fun d=>cond (ah b.1 c) (some (.inl (aC b.1 c (d.1,d.2.1),aa .add .i64 c 1,()))) none) none) (some (.inr (.inl (b.1,()))))
noncomputable def IZ k x:=iter (IY k) big x
noncomputable def J3(a:Mf):Option Xx:=cond (cI (ai a)) ((IZ (a,()) (cW (ai a) ((0:Int),(0:Int)),0,())).bind fun b=>Sum.elim (fun c=>some (c.1,())) (fun c=>Empty.elim c) b) none
noncomputable def Ob(a b:Mf):Option (Mf×Xx):=(J3 a).bind fun c=>(J3 b).bind fun d=>some (c.1,d.1,())
noncomputable def O3(a b c d e f g h:Int):Option (Int×YcU):=some (a,b,c,d,e,f,g,h,())
noncomputable def L4(a:XP)(b:Cp):PZ:=letI c:=(false,());letI d:=ae Nr a.1 b.1;letI e:=aa .sub .i64 b.1 1;letI f:=(aa .add .i64 b.1 1,());cond (af .lss b.1 (ai a.1)) (cond (ah a.1 b.1) (cond (af .lss d.1 0) (some (.inr (.inl c))) (cond (af .geq d.1 d.2) (some (.inr (.inl c))) (cond (af .gtr d.2 a.2.1) (some (.inr (.inl c))) (cond (af .gtr b.1 0) (cond (ah a.1 e) (cond (af .leq d.1 (ae Nr a.1 e).2) (some (.inr (.inl c))) (some (.inl f))) none) (some (.inl f)))))) none) (some (.inr (.inr (.inl ()))))
noncomputable def L5 k x:=iter (L4 k) big x
noncomputable def Kd(a:Mf)(b:Int):oa:=cond (af .gtr (ai a) 20) (some (false,())) ((L5 (a,b,()) (0,())).bind fun c=>Sum.elim (fun d=>some (d.1,())) (fun d=>Sum.elim (fun _=>some (true,())) (fun e=>Empty.elim e) d) c)
noncomputable def BE(a b:Mf):oa:=(Kd a 168).bind fun c=>cond c.1 ((Kd b 20000).bind fun d=>some (d.1,())) (some (false,()))
noncomputable def Ke(a b c d e f g h:Int):oa:=letI i:=(2000:Int);(bt a 1 i).bind fun j=>letI k:=some (false,());cond j.1 ((bt c 1 i).bind fun l=>cond l.1 ((bt f 1 i).bind fun m=>cond m.1 ((bt b 0 i).bind fun n=>cond n.1 ((bt d 0 10000).bind fun o=>cond o.1 ((bt e 0 1000000).bind fun p=>cond p.1 ((bt g 0 100000).bind fun q=>cond q.1 ((bt h 0 20).bind fun r=>some (r.1,())) k) k) k) k) k) k) k
noncomputable def Kh(a:XP)(b:Cp):PZ:=letI c:=ae Nr a.1 b.1;letI d:=(aa .add .i64 b.1 1,());cond (af .lss b.1 (ai a.1)) (cond (ah a.1 b.1) (cond (af .leq c.1 a.2.1) (cond (ah a.1 b.1) (cond (af .lss a.2.1 c.2) (some (.inr (.inl (true,())))) (some (.inl d))) none) (some (.inl d))) none) (some (.inr (.inr (.inl ()))))
noncomputable def Ki k x:=iter (Kh k) big x
noncomputable def B1(a:Mf)(b:Int):oa:=(Ki (a,b,()) (0,())).bind fun c=>Sum.elim (fun d=>some (d.1,())) (fun d=>Sum.elim (fun _=>some (false,())) (fun e=>Empty.elim e) d) c
noncomputable def Kg(a b:Mf)(c:Int):oa:=cond (ax 168) none ((B1 a (aa .rem .i64 c 168)).bind fun d=>cond d.1 ((B1 b c).bind fun e=>some (Bool.not e.1,())) (some (false,())))
noncomputable def LA(a:Mf×Int×XP)(b:Cp):PZ:=letI c:=(false,());letI d:=aa .sub .i64 b.1 1;letI e:=ae Nr a.2.2.1 b.1;letI f:=(aa .add .i64 b.1 1,());cond (af .lss b.1 a.2.2.2.1) (cond (ah a.2.2.1 b.1) (cond (af .lss e.1 0) (some (.inr (.inl c))) (cond (af .geq e.1 e.2) (some (.inr (.inl c))) (cond (af .gtr e.2 a.2.1) (some (.inr (.inl c))) (cond (af .gtr b.1 0) (cond (ah a.1 d) (cond (af .leq e.1 (ae Nr a.1 d).2) (some (.inr (.inl c))) (some (.inl f))) none) (some (.inl f)))))) none) (some (.inr (.inr (.inl ()))))
noncomputable def LB k x:=iter (LA k) big x
noncomputable def Jz(a:Mf)(b:Int):oa:=cond (af .gtr (ai a) 20) (some (false,())) ((LB (a,b,a,ai a,()) (0,())).bind fun c=>Sum.elim (fun d=>some (d.1,())) (fun d=>Sum.elim (fun _=>some (true,())) (fun e=>Empty.elim e) d) c)
noncomputable def sS(a b:Mf):oa:=(Jz a 168).bind fun c=>cond c.1 ((Jz b 20000).bind fun d=>some (d.1,())) (some (false,()))
noncomputable def JA(a b c d e f g h:Int):oa:=letI i:=(2000:Int);(bu a 1 i).bind fun j=>letI k:=some (false,());cond j.1 ((bu c 1 i).bind fun l=>cond l.1 ((bu f 1 i).bind fun m=>cond m.1 ((bu b 0 i).bind fun n=>cond n.1 ((bu d 0 10000).bind fun o=>cond o.1 ((bu e 0 1000000).bind fun p=>cond p.1 ((bu g 0 100000).bind fun q=>cond q.1 ((bu h 0 20).bind fun r=>some (r.1,())) k) k) k) k) k) k) k
noncomputable def LJ(a:Int×XP)(b:Cp):PZ:=letI c:=ae Nr a.2.1 b.1;letI d:=(aa .add .i64 b.1 1,());cond (af .lss b.1 a.2.2.1) (cond (ah a.2.1 b.1) (cond (af .geq a.1 c.1) (cond (af .lss a.1 c.2) (some (.inr (.inl (true,())))) (some (.inl d))) (some (.inl d))) none) (some (.inr (.inr (.inl ()))))
noncomputable def LK k x:=iter (LJ k) big x
noncomputable def JC(a:Mf)(b:Int):oa:=(LK (b,a,ai a,()) (0,())).bind fun c=>Sum.elim (fun d=>some (d.1,())) (fun d=>Sum.elim (fun _=>some (false,())) (fun e=>Empty.elim e) d) c
noncomputable def Li(a b:Mf)(c:Int):oa:=cond (ax 168) none ((JC a (aa .rem .i64 c 168)).bind fun d=>cond d.1 ((JC b c).bind fun e=>some (Bool.not e.1,())) (some (false,())))
noncomputable def N6(a b c d:Int):oa:=letI e:=some (false,());cond (af .neq a c) e (cond (af .neq b d) e (some (true,())))
noncomputable def LP(a:Mf×Xx)(b:Cp):PZ:=letI c:=ae Nr a.1 b.1;letI d:=ae Nr a.2.1 b.1;cond (af .lss b.1 (ai a.1)) (cond (ah a.1 b.1) (cond (ah a.2.1 b.1) ((N6 c.1 c.2 d.1 d.2).bind fun e=>cond (Bool.not e.1) (some (.inr (.inl (false,())))) (some (.inl (aa .add .i64 b.1 1,())))) none) none) (some (.inr (.inr (.inl ()))))
noncomputable def LQ k x:=iter (LP k) big x
noncomputable def JK(a b:Mf):oa:=cond (af .neq (ai a) (ai b)) (some (false,())) ((LQ (a,b,()) (0,())).bind fun c=>Sum.elim (fun d=>some (d.1,())) (fun d=>Sum.elim (fun _=>some (true,())) (fun e=>Empty.elim e) d) c)
noncomputable def N7(a b c d:Mf):oa:=(JK a c).bind fun e=>letI f:=some (false,());cond (Bool.not e.1) f ((JK b d).bind fun g=>cond (Bool.not g.1) f (some (true,())))
end Go.Fn
set_option linter.unusedVariables false
namespace Go.Fn
open Go.R
noncomputable def Nj(a:V4)(b:Cp):PZ:=cond (af .lss b.1 (ai a.1)) (cond (ah a.1 b.1) (cond (af .eql (ae zI a.1 b.1) a.2.1) (some (.inr (.inl (true,())))) (some (.inl (aa .add .i64 b.1 1,())))) none) (some (.inr (.inr (.inl ()))))
noncomputable def Nk k x:=iter (Nj k) big x
noncomputable def Lr(a:gg)(b:Int):oa:=(Nk (a,b,()) (0,())).bind fun c=>Sum.elim (fun d=>some (d.1,())) (fun d=>Sum.elim (fun _=>some (false,())) (fun e=>Empty.elim e) d) c
noncomputable def LW(a:gg×XK)(b:Cp):PZ:=letI c:=ae zI a.1 b.1;cond (af .lss b.1 (ai a.1)) (cond (ah a.1 b.1) ((bt c 0 (aa .sub .i64 (ai a.2.2.2.2.1) 1)).bind fun d=>cond (Bool.not d.1) (some (.inr (.inl (false,())))) (cond (cP a.1 (0:Int) b.1) (cond (ah a.1 b.1) ((Lr (eN a.1 0 b.1) c).bind fun e=>cond e.1 (some (.inr (.inl (false,())))) (some (.inl (aa .add .i64 b.1 1,())))) none) none)) none) (some (.inr (.inr (.inl ()))))
noncomputable def LX k x:=iter (LW k) big x
noncomputable def Mx(a b:Int)(c:u0)(d:Jo)(e:gg):oa:=(Ip a b c d).bind fun f=>cond (Bool.not f.1) (some (false,())) ((LX (e,a,b,c,d,()) (0,())).bind fun g=>Sum.elim (fun h=>some (h.1,())) (fun h=>Sum.elim (fun _=>some (true,())) (fun i=>Empty.elim i) h) g)
noncomputable def iL(a:gg×Ls)(b:Cp):Zo:=cond (af .lss b.1 a.2.2.1) (cond (ah a.1 b.1) (cond (af .eql a.2.1 (ae zI a.1 b.1)) (some (.inr (.inl (b.1,())))) (some (.inl (aa .add .i64 b.1 1,())))) none) (some (.inr (.inr (.inl ()))))
noncomputable def m0 k x:=iter (iL k) big x
noncomputable def rp(a:gg)(b:Int):R4:=(m0 (a,b,ai a,()) (0,())).bind fun c=>Sum.elim (fun d=>some (d.1,())) (fun d=>Sum.elim (fun _=>some (-1,())) (fun e=>Empty.elim e) d) c
noncomputable def gw(a:gg)(b:Int):oa:=(rp a b).bind fun c=>some (af .geq c.1 0,())
noncomputable def Lu(a:gg×YbL)(b:Cp):PZ:=letI c:=a.2.2.2.2;letI d:=ae zI c.2.1 b.1;cond (af .lss b.1 c.2.2.1) (cond (ah c.2.1 b.1) ((bu d 0 (aa .sub .i64 (ai c.1) 1)).bind fun e=>cond (Bool.not e.1) (some (.inr (.inl (false,())))) (cond (cP a.1 (0:Int) b.1) ((gw (eN a.1 0 b.1) d).bind fun f=>cond f.1 (some (.inr (.inl (false,())))) (some (.inl (aa .add .i64 b.1 1,())))) none)) none) (some (.inr (.inr (.inl ()))))
noncomputable def Lv k x:=iter (Lu k) big x
noncomputable def Mi(a b:Int)(c:u0)(d:Jo)(e:gg):oa:=(H7 a b c d).bind fun f=>cond (Bool.not f.1) (some (false,())) ((Lv (e,a,b,c,d,e,ai e,()) (0,())).bind fun g=>Sum.elim (fun h=>some (h.1,())) (fun h=>Sum.elim (fun _=>some (true,())) (fun i=>Empty.elim i) h) g)
noncomputable def Is(a:gg×XK)(b:gg×YbN):Option (gg×YbN⊕YbI):=letI c:=b.2.2.2;letI d:=c.2.2.2;letI e:=d.2.2.2.1;cond (af .lss e (ai a.1)) (cond (ah a.1 e) (cond (ah a.2.2.2.2.1 (ae zI a.1 e)) (some (.inl (b.1,b.2.1,b.2.2.1,c.1,c.2.1,c.2.2.1,d.1,d.2.1,aa .add .i64 d.2.2.1 (ae lf a.2.2.2.2.1 (ae zI a.1 e)).2.2.2.1,aa .add .i64 e 1,()))) none) none) (some (.inr (.inl (b.1,b.2.1,b.2.2.1,c.1,c.2.1,c.2.2.1,d.1,d.2.1,d.2.2.1,()))))
noncomputable def KU k x:=iter (Is k) big x
noncomputable def It(a:gg×XK)(b:YcJ):Option (YcJ⊕gg×XL⊕YbI):=letI c:=b.2.2;letI d:=a.2.2.2;letI e:=c.2.2;letI f:=e.2.2;letI g:=f.2.2.2;letI h:=ah a.1 g.2.1;letI i:=ae zI a.1 g.2.1;letI j:=ae gb d.1 g.1;letI k:=aa .add .i64 i 1;letI l:=ae lf d.2.1 i;letI m:=aa .add .i64 e.2.1 (ae zI j k);cond (af .lss g.2.1 (ai a.1)) (cond h (cond (ah d.2.1 i) (cond (ah d.1 g.1) (cond h (cond (ah j k) (lets (af .gtr m l.2.1) fun n=>cond n (some (.inr (.inl (e.1,e.2.1,f.1,f.2.1,false,())))) (lets (bI true m l.1) fun o=>cond (aE (List.append (α:=Int) e.1 (List.append (α:=Int) ([]:gg) [o]))) (lets (aa .sub .i64 (aa .add .i64 f.2.1 o) m) fun p=>lets (aa .add .i64 (aa .sub .i64 f.2.2.1 l.2.2.2.1) l.2.2.2.2) fun q=>cond h (some (.inl (b.1,b.2.1,c.1,c.2.1,List.append (α:=Int) e.1 (List.append (α:=Int) ([]:gg) [o]),aa .add .i64 o l.2.2.1,bI true f.1 q,p,q,k,aa .add .i64 g.2.1 1,()))) none) none)) none) none) none) none) none) (some (.inr (.inr (.inl (b.1,b.2.1,c.1,c.2.1,e.1,e.2.1,f.1,f.2.1,g.1,())))))
noncomputable def KV k x:=iter (It k) big x
noncomputable def K9(a b:Int)(c:u0)(d:Jo)(e:gg):Option (gg×XL):=(Mx a b c d e).bind fun f=>letI g:=(0:Int);letI h:=(e,a,b,c,d,());cond (Bool.not f.1) (some (([]:gg),a,g,g,false,())) ((KU h (([]:gg),g,g,g,([]:gg),a,g,g,g,g,())).bind fun i=>Sum.elim (fun j=>letI k:=j.2.2.2.2;(KV h (j.1,j.2.1,j.2.2.1,j.2.2.2.1,k.1,k.2.1,k.2.2.2.2.1,k.2.2.2.1,k.2.2.2.2.1,g,g,())).bind fun l=>Sum.elim (fun m=>some (m.1,m.2.1,m.2.2.1,m.2.2.2.1,m.2.2.2.2.1,())) (fun m=>Sum.elim (fun n=>letI o:=n.2.2.2.2;letI p:=o.2;letI q:=af .leq p.2.1 b;letI r:=ae gb c p.2.2.2.1;cond (af .gtr (ai e) g) (cond (ah c p.2.2.2.1) (cond (ah r g) (some (o.1,aa .add .i64 p.1 (ae zI r g),p.2.1,p.2.2.1,q,())) none) none) (some (o.1,p.1,p.2.1,p.2.2.1,q,()))) (fun n=>Empty.elim n) m) l) (fun j=>Empty.elim j) i)
noncomputable def Mk(a:gg×YbL)(b:gg×XI):Option (gg×XI⊕gg×YcV⊕Empty):=letI c:=b.2.2.2;letI d:=a.2.2.2.2;letI e:=c.2.2.1;letI f:=ae zI d.2.1 e;cond (af .lss e d.2.2.1) (cond (ah d.2.1 e) (cond (ah d.1 f) (some (.inl (b.1,b.2.1,b.2.2.1,c.1,aa .add .i64 c.2.1 (ae lf d.1 f).2.2.2.1,aa .add .i64 e 1,()))) none) none) (some (.inr (.inl (b.1,b.2.1,b.2.2.1,c.1,c.2.1,()))))
noncomputable def OX k x:=iter (Mk k) big x
noncomputable def Ml(a:gg×YbL)(b:gg×Int×YbN):Option (gg×Int×YbN⊕gg×XL⊕YbI):=letI c:=b.2.2;letI d:=a.2.2.2;letI e:=c.2.2.2;letI f:=e.2.2;letI g:=f.2.2;letI h:=ae gb d.1 g.1;letI i:=ae zI d.2.2.1 g.2.1;letI j:=aa .add .i64 i 1;cond (af .lss g.2.1 d.2.2.2.1) (cond (ah d.2.2.1 g.2.1) (cond (ah d.2.1 i) (cond (ah d.1 g.1) (cond (ah h j) (lets (aa .add .i64 e.2.1 (ae zI h j)) fun k=>letI l:=ae lf d.2.1 i;cond (af .gtr k l.2.1) (some (.inr (.inl (([]:gg),0,0,0,false,())))) (cond (aE (List.append (α:=Int) e.1 (List.append (α:=Int) ([]:gg) [bI true k l.1]))) (lets (aa .sub .i64 l.2.2.2.2 l.2.2.2.1) fun m=>lets (aa .add .i64 (bI true k l.1) l.2.2.1) fun n=>letI o:=aa .add .i64 c.2.2.1 m;some (.inl (b.1,b.2.1,c.1,c.2.1,o,List.append (α:=Int) e.1 (List.append (α:=Int) ([]:gg) [bI true k l.1]),n,bI true f.1 o,aa .add .i64 f.2.1 (aa .sub .i64 (bI true k l.1) k),j,aa .add .i64 g.2.1 1,()))) none)) none) none) none) none) (some (.inr (.inr (.inl (b.1,b.2.1,c.1,c.2.1,e.1,e.2.1,f.1,f.2.1,g.1,())))))
noncomputable def OY k x:=iter (Ml k) big x
noncomputable def PW(a b:Int)(c:u0)(d:Jo)(e:gg):Option (gg×XL):=(Mi a b c d e).bind fun f=>letI g:=(0:Int);letI h:=(e,a,b,c,d,e,ai e,());letI i:=some (([]:gg),g,g,g,false,());cond (Bool.not f.1) i ((OX h (([]:gg),g,g,g,g,g,())).bind fun j=>Sum.elim (fun k=>(OY h (k.1,k.2.1,k.2.2.1,k.2.2.2.1,k.2.2.2.2.1,([]:gg),a,k.2.2.2.2.1,g,g,g,())).bind fun l=>Sum.elim (fun m=>some (m.1,m.2.1,m.2.2.1,m.2.2.2.1,m.2.2.2.2.1,())) (fun m=>Sum.elim (fun n=>letI o:=n.2.2.2.2;letI p:=o.2.2;letI q:=ae gb c p.2.2.1;cond (ah c p.2.2.1) (cond (ah q g) (cond (af .gtr p.1 b) i (some (o.1,aa .add .i64 o.2.1 (aa .mul .i64 (ae zI q g) (bI false (1:Int) (ai e))),p.1,p.2.1,true,()))) none) none) (fun n=>Empty.elim n) m) l) (fun k=>Empty.elim k) j)
end Go.Fn
set_option linter.unusedVariables false
namespace Go.Fn
open Go.R
noncomputable def Mq(a b c d e f g h i j k l m n o p:Int):oa:=letI q:=some (false,());cond (af .neq a i) q (cond (af .neq b j) q (cond (af .neq c k) q (cond (af .neq d l) q (cond (af .neq e m) q (cond (af .neq f n) q (cond (af .neq g o) q (cond (af .neq h p) q (some (true,())))))))))
end Go.Fn
set_option linter.unusedVariables false
namespace Go.Fn
open Go.R
noncomputable def aS:YbQ:=(([]:Mf),([]:Mf),([]:Sf),0,0,false,false,false,0,0,([]:Km))
noncomputable def bf:YbY:=letI a:=(0:Int);(a,a,a,a,a,a,a,a,a,a,a,a,a)
noncomputable def cn:Int×Int×Int×YbT:=(0,0,0,0,0,0,false)
noncomputable def b9:Int×gg×Se:=(0,([]:gg),([]:Se))
noncomputable def kW:YbT:=(0,0,0,false)
noncomputable def N8(a:Se)(b:Int):R4:=letI c:=aa .sub .i64 b (ai a);cond (af .lss c 0) (some (-1,())) (some (c,()))
noncomputable def n7(a:Int)(b:gg)(c:Se)(d:Int):R4:=(Lj b d).bind fun e=>letI f:=some ((-1:Int),());cond (af .lss e.1 0) f ((N8 c e.1).bind fun g=>cond (af .lss g.1 0) f (some (g.1,())))
noncomputable def g3(a:XN)(b:Ls):YbH:=letI c:=ae b9 a.1 b.2.1;cond (af .lss b.2.1 (ai a.1)) (cond (ah a.1 b.2.1) ((n7 c.1 c.2.1 c.2.2 b.1).bind fun d=>cond (af .lss d.1 0) (some (.inr (.inl (-1,())))) (some (.inl (d.1,aa .add .i64 b.2.1 1,())))) none) (some (.inr (.inr (.inl (b.1,())))))
noncomputable def xx k x:=iter (g3 k) big x
noncomputable def qS(a:Sf)(b:Int):R4:=letI c:=aa .sub .i64 b (ai a);cond (af .lss c 0) (some (-1,())) ((xx (a,()) (c,0,())).bind fun d=>Sum.elim (fun e=>some (e.1,())) (fun e=>Sum.elim (fun f=>some (f.1,())) (fun f=>Empty.elim f) e) d)
noncomputable def Jk(a b:Mf)(c:Sf)(d e:Int)(f g h:Bool)(i j:Int)(k:Km)(l:Int):R4:=(N9 a b l).bind fun m=>letI n:=some ((-1:Int),());cond (af .lss m.1 0) n ((qS c m.1).bind fun o=>cond (af .lss o.1 0) n ((IG k o.1).bind fun p=>cond (af .lss p.1 0) n (some (p.1,()))))
noncomputable def g5(a:Yf)(b:Ls):YbH:=letI c:=ae aS a.1 b.2.1;letI d:=c.2;letI e:=d.2.2.2.2.2;cond (af .lss b.2.1 (ai a.1)) (cond (ah a.1 b.2.1) ((Jk c.1 d.1 d.2.1 d.2.2.1 d.2.2.2.1 d.2.2.2.2.1 e.1 e.2.1 e.2.2.1 e.2.2.2.1 e.2.2.2.2 b.1).bind fun f=>cond (af .lss f.1 0) (some (.inr (.inl (-1,())))) (some (.inl (f.1,aa .add .i64 b.2.1 1,())))) none) (some (.inr (.inr (.inl (b.1,())))))
noncomputable def IU k x:=iter (g5 k) big x
noncomputable def nw(a:Lc)(b:Int):R4:=letI c:=aa .sub .i64 b (ai a);cond (af .lss c 0) (some (-1,())) ((IU (a,()) (c,0,())).bind fun d=>Sum.elim (fun e=>some (e.1,())) (fun e=>Sum.elim (fun f=>some (f.1,())) (fun f=>Empty.elim f) e) d)
noncomputable def JT(a:Nq)(b:Int):R4:=letI c:=aa .sub .i64 b (ai a);cond (af .lss c 0) (some (-1,())) (some (c,()))
noncomputable def K3(a:Ld)(b:Int):R4:=letI c:=aa .sub .i64 b (ai a);cond (af .lss c 0) (some (-1,())) (some (c,()))
noncomputable def qW(a b c d e f g h i j k:Int)(l:Lc)(m:Nq)(n:Ld)(o:Km)(p:Int):R4:=(nw l p).bind fun q=>letI r:=some ((-1:Int),());cond (af .lss q.1 0) r ((JT m q.1).bind fun s=>cond (af .lss s.1 0) r ((K3 n s.1).bind fun t=>cond (af .lss t.1 0) r ((IG o t.1).bind fun u=>cond (af .lss u.1 0) r (some (u.1,())))))
noncomputable def Qt(a b c:Int)(d:Bool):Option XL:=some (a,b,c,d,())
noncomputable def JV(a:XM)(b:XQ):Option (XQ⊕XM⊕Empty):=letI c:=b.2.1;letI d:=ae kW a.1 c;cond (af .lss c (ai a.1)) (cond (ah a.1 c) ((Qt d.1 d.2.1 d.2.2.1 d.2.2.2).bind fun e=>cond (ah b.1 c) (some (.inl (aC b.1 c (e.1,e.2.1,e.2.2.1,e.2.2.2.1),aa .add .i64 c 1,()))) none) none) (some (.inr (.inl (b.1,()))))
noncomputable def JW k x:=iter (JV k) big x
noncomputable def Oa(a:Se):Option XM:=cond (cI (ai a)) ((JW (a,()) (cW (ai a) ((0:Int),(0:Int),(0:Int),false),0,())).bind fun b=>Sum.elim (fun c=>some (c.1,())) (fun c=>Empty.elim c) b) none
noncomputable def II(a:Int)(b:gg)(c:Se):Option YcI:=(Lk b).bind fun d=>(Oa c).bind fun e=>some (a,d.1,e.1,())
noncomputable def ye(a:XN)(b:Yi):Option (Yi⊕XN⊕Empty):=letI c:=b.2.1;letI d:=ae b9 a.1 c;cond (af .lss c (ai a.1)) (cond (ah a.1 c) ((II d.1 d.2.1 d.2.2).bind fun e=>cond (ah b.1 c) (some (.inl (aC b.1 c (e.1,e.2.1,e.2.2.1),aa .add .i64 c 1,()))) none) none) (some (.inr (.inl (b.1,()))))
noncomputable def JY k x:=iter (ye k) big x
noncomputable def JX(a:Sf):Option XN:=cond (cI (ai a)) ((JY (a,()) (cW (ai a) ((0:Int),([]:gg),([]:Se)),0,())).bind fun b=>Sum.elim (fun c=>some (c.1,())) (fun c=>Empty.elim c) b) none
noncomputable def PC(a b:Int)(c d e:Bool):Option (Int×Int×Bool×Bool×Vw):=some (a,b,c,d,e,())
noncomputable def Ll(a b:Mf)(c:Sf)(d e:Int)(f g h:Bool)(i j:Int)(k:Km):Option (Mf×Mf×Sf×Int×Int×Bool×Bool×Bool×Int×Int×Xv):=(Ob a b).bind fun l=>(JX c).bind fun m=>(PC d e f g h).bind fun n=>(IJ k).bind fun o=>some (l.1,l.2.1,m.1,n.1,n.2.1,n.2.2.1,n.2.2.2.1,n.2.2.2.2.1,i,j,o.1,())
noncomputable def IX(a:Yf)(b:Lc×Cp):Option (Lc×Cp⊕Yf⊕Empty):=letI c:=b.2.1;letI d:=(ae aS a.1 c).2;letI e:=d.2.2.2.2.2;cond (af .lss c (ai a.1)) (cond (ah a.1 c) ((Ll (ae aS a.1 c).1 d.1 d.2.1 d.2.2.1 d.2.2.2.1 d.2.2.2.2.1 e.1 e.2.1 e.2.2.1 e.2.2.2.1 e.2.2.2.2).bind fun f=>letI g:=f.2.2.2.2.2;cond (ah b.1 c) (lets (aC b.1 c (f.1,f.2.1,f.2.2.1,f.2.2.2.1,f.2.2.2.2.1,g.1,g.2.1,g.2.2.1,g.2.2.2.1,g.2.2.2.2.1,g.2.2.2.2.2.1)) fun h=>some (.inl (h,aa .add .i64 c 1,()))) none) none) (some (.inr (.inl (b.1,()))))
noncomputable def LS k x:=iter (IX k) big x
noncomputable def Mt(a:Lc):Option Yf:=cond (cI (ai a)) ((LS (a,()) (cW (ai a) (([]:Mf),([]:Mf),([]:Sf),(0:Int),(0:Int),false,false,false,(0:Int),(0:Int),([]:Km)),0,())).bind fun b=>Sum.elim (fun c=>some (c.1,())) (fun c=>Empty.elim c) b) none
noncomputable def R7(a b c d e:Int):Option XI:=some (a,b,c,d,e,())
noncomputable def Oj(a b c d e f g h i j k l m:Int):Option (Int×Int×Int×Int×Int×Int×YcU):=(R7 g h i j k).bind fun n=>some (a,b,c,d,e,f,n.1,n.2.1,n.2.2.1,n.2.2.2.1,n.2.2.2.2.1,l,m,())
noncomputable def yt(a:Zp)(b:Yj):Option (Yj⊕Zp⊕Empty):=letI c:=b.2.1;letI d:=ae bf a.1 c;letI e:=d.2.2;letI f:=e.2.2.2.2.2;cond (af .lss c (ai a.1)) (cond (ah a.1 c) ((Oj d.1 d.2.1 e.1 e.2.1 e.2.2.1 e.2.2.2.1 e.2.2.2.2.1 f.1 f.2.1 f.2.2.1 f.2.2.2.1 f.2.2.2.2.1 f.2.2.2.2.2).bind fun g=>letI h:=g.2.2.2;letI i:=h.2.2.2;letI j:=i.2.2.2;cond (ah b.1 c) (lets (aC b.1 c (g.1,g.2.1,g.2.2.1,h.1,h.2.1,h.2.2.1,i.1,i.2.1,i.2.2.1,j.1,j.2.1,j.2.2.1,j.2.2.2.1)) fun k=>some (.inl (k,aa .add .i64 c 1,()))) none) none) (some (.inr (.inl (b.1,()))))
noncomputable def yx k x:=iter (yt k) big x
noncomputable def J2(a:Nq):Option Zp:=letI b:=(0:Int);cond (cI (ai a)) ((yx (a,()) (cW (ai a) (b,b,b,b,b,b,b,b,b,b,b,b,b),b,())).bind fun c=>Sum.elim (fun d=>some (d.1,())) (fun d=>Empty.elim d) c) none
noncomputable def O2(a b c d e f:Int)(g:Bool):Option (Int×Int×Int×XL):=some (a,b,c,d,e,f,g,())
noncomputable def Ij(a:Yg)(b:Ld×Cp):Option (Ld×Cp⊕Yg⊕Empty):=letI c:=b.2.1;letI d:=ae cn a.1 c;letI e:=d.2.2.2;cond (af .lss c (ai a.1)) (cond (ah a.1 c) ((O2 d.1 d.2.1 d.2.2.1 e.1 e.2.1 e.2.2.1 e.2.2.2).bind fun f=>letI g:=f.2.2.2;cond (ah b.1 c) (some (.inl (aC b.1 c (f.1,f.2.1,f.2.2.1,g.1,g.2.1,g.2.2.1,g.2.2.2.1),aa .add .i64 c 1,()))) none) none) (some (.inr (.inl (b.1,()))))
noncomputable def Ik k x:=iter (Ij k) big x
noncomputable def K4(a:Ld):Option Yg:=cond (cI (ai a)) ((Ik (a,()) (cW (ai a) ((0:Int),(0:Int),(0:Int),(0:Int),(0:Int),(0:Int),false),0,())).bind fun b=>Sum.elim (fun c=>some (c.1,())) (fun c=>Empty.elim c) b) none
noncomputable def J1(a b c d e f g h i j k:Int)(l:Lc)(m:Nq)(n:Ld)(o:Km):Option WL:=(O3 a b c d e f g h).bind fun p=>(Mt l).bind fun q=>(J2 m).bind fun r=>(K4 n).bind fun s=>(IJ o).bind fun t=>letI u:=p.2.2.2.2;some (p.1,p.2.1,p.2.2.1,p.2.2.2.1,u.1,u.2.1,u.2.2.1,u.2.2.2.1,i,j,k,q.1,r.1,s.1,t.1,())
noncomputable def m7(a:Int):oa:=(bt a 1 2147483646).bind fun b=>some (b.1,())
noncomputable def IL(a b c d e f g h i j k:Int)(l:Lc)(m:Nq)(n:Ld)(o:Km)(p:Int):R4:=(m7 j).bind fun q=>letI r:=some ((0:Int),());cond (Bool.not q.1) r ((bt p 1 12).bind fun s=>cond (Bool.not s.1) r (cond (ax 2147483646) none (some (aa .add .i64 (aa .rem .i64 (aa .add .i64 j (aa .mul .i64 7919 p)) 2147483646) 1,()))))
noncomputable def kk(a:Int):oa:=(bu a 1 2147483646).bind fun b=>some (b.1,())
noncomputable def IC(a b c d e f g h i j k:Int)(l:Lc)(m:Nq)(n:Ld)(o:Km)(p:Int):R4:=(kk j).bind fun q=>letI r:=some ((0:Int),());cond (Bool.not q.1) r ((bu p 1 12).bind fun s=>cond (Bool.not s.1) r (cond (ax 2147483646) none (some (aa .add .i64 (aa .rem .i64 (aa .add .i64 j (aa .mul .i64 7919 p)) 2147483646) 1,()))))
noncomputable def O0(a b c:Int)(d:Bool)(e f g:Int)(h:Bool):oa:=letI i:=some (false,());cond (af .neq a e) i (cond (af .neq b f) i (cond (af .neq c g) i (cond (Bool.not (bQ d h)) i (some (true,())))))
noncomputable def M4(a:Se×XM)(b:Cp):PZ:=letI c:=ae kW a.1 b.1;letI d:=ae kW a.2.1 b.1;cond (af .lss b.1 (ai a.1)) (cond (ah a.1 b.1) (cond (ah a.2.1 b.1) ((O0 c.1 c.2.1 c.2.2.1 c.2.2.2 d.1 d.2.1 d.2.2.1 d.2.2.2).bind fun e=>cond (Bool.not e.1) (some (.inr (.inl (false,())))) (some (.inl (aa .add .i64 b.1 1,())))) none) none) (some (.inr (.inr (.inl ()))))
noncomputable def M5 k x:=iter (M4 k) big x
noncomputable def N2(a b:Se):oa:=cond (af .neq (ai a) (ai b)) (some (false,())) ((M5 (a,b,()) (0,())).bind fun c=>Sum.elim (fun d=>some (d.1,())) (fun d=>Sum.elim (fun _=>some (true,())) (fun e=>Empty.elim e) d) c)
noncomputable def ID(a:Int)(b:gg)(c:Se)(d:Int)(e:gg)(f:Se):oa:=letI g:=some (false,());cond (af .neq a d) g ((s3 b e).bind fun h=>cond (Bool.not h.1) g ((N2 c f).bind fun i=>cond (Bool.not i.1) g (some (true,()))))
noncomputable def JE(a:Sf×XN)(b:Cp):PZ:=letI c:=ae b9 a.1 b.1;letI d:=ae b9 a.2.1 b.1;cond (af .lss b.1 (ai a.1)) (cond (ah a.1 b.1) (cond (ah a.2.1 b.1) ((ID c.1 c.2.1 c.2.2 d.1 d.2.1 d.2.2).bind fun e=>cond (Bool.not e.1) (some (.inr (.inl (false,())))) (some (.inl (aa .add .i64 b.1 1,())))) none) none) (some (.inr (.inr (.inl ()))))
noncomputable def JF k x:=iter (JE k) big x
noncomputable def JD(a b:Sf):oa:=cond (af .neq (ai a) (ai b)) (some (false,())) ((JF (a,b,()) (0,())).bind fun c=>Sum.elim (fun d=>some (d.1,())) (fun d=>Sum.elim (fun _=>some (true,())) (fun e=>Empty.elim e) d) c)
noncomputable def N3(a b:Int)(c d e:Bool)(f g:Int)(h i j:Bool):oa:=letI k:=some (false,());cond (af .neq a f) k (cond (af .neq b g) k (cond (Bool.not (bQ c h)) k (cond (Bool.not (bQ d i)) k (cond (Bool.not (bQ e j)) k (some (true,()))))))
noncomputable def N5(a b:Mf)(c:Sf)(d e:Int)(f g h:Bool)(i j:Int)(k:Km)(l m:Mf)(n:Sf)(o p:Int)(q r s:Bool)(t u:Int)(v:Km):oa:=(N7 a b l m).bind fun w=>letI x:=some (false,());cond (Bool.not w.1) x ((JD c n).bind fun y=>cond (Bool.not y.1) x ((N3 d e f g h o p q r s).bind fun z=>cond (Bool.not z.1) x (cond (af .neq i t) x (cond (af .neq j u) x ((IE k v).bind fun A=>cond (Bool.not A.1) x (some (true,())))))))
noncomputable def LN(a:Lc×Yf)(b:Cp):PZ:=letI c:=ae aS a.1 b.1;letI d:=ae aS a.2.1 b.1;letI e:=d.2;letI f:=c.2.2;letI g:=f.2.2.2.2;letI h:=e.2.2.2.2.2;cond (af .lss b.1 (ai a.1)) (cond (ah a.1 b.1) (cond (ah a.2.1 b.1) ((N5 c.1 c.2.1 f.1 f.2.1 f.2.2.1 f.2.2.2.1 g.1 g.2.1 g.2.2.1 g.2.2.2.1 g.2.2.2.2 d.1 e.1 e.2.1 e.2.2.1 e.2.2.2.1 e.2.2.2.2.1 h.1 h.2.1 h.2.2.1 h.2.2.2.1 h.2.2.2.2).bind fun i=>cond (Bool.not i.1) (some (.inr (.inl (false,())))) (some (.inl (aa .add .i64 b.1 1,())))) none) none) (some (.inr (.inr (.inl ()))))
noncomputable def LO k x:=iter (LN k) big x
noncomputable def Mp(a b:Lc):oa:=cond (af .neq (ai a) (ai b)) (some (false,())) ((LO (a,b,()) (0,())).bind fun c=>Sum.elim (fun d=>some (d.1,())) (fun d=>Sum.elim (fun _=>some (true,())) (fun e=>Empty.elim e) d) c)
noncomputable def N4(a b c d e f g h i j:Int):oa:=letI k:=some (false,());cond (af .neq a f) k (cond (af .neq b g) k (cond (af .neq c h) k (cond (af .neq d i) k (cond (af .neq e j) k (some (true,()))))))
noncomputable def K1(a b c d e f g h i j k l m n o p q r s t u v w x y z:Int):oa:=letI A:=some (false,());cond (af .neq a n) A (cond (af .neq b o) A (cond (af .neq c p) A (cond (af .neq d q) A (cond (af .neq e r) A (cond (af .neq f s) A ((N4 g h i j k t u v w x).bind fun B=>cond (Bool.not B.1) A (cond (af .neq l y) A (cond (af .neq m z) A (some (true,()))))))))))
noncomputable def JI(a:Nq×Zp)(b:Cp):PZ:=letI c:=ae bf a.1 b.1;letI d:=ae bf a.2.1 b.1;letI e:=d.2.2;letI f:=c.2.2.2;letI g:=e.2.2.2.2.2;letI h:=f.2.2.2.2.2;cond (af .lss b.1 (ai a.1)) (cond (ah a.1 b.1) (cond (ah a.2.1 b.1) ((K1 c.1 c.2.1 c.2.2.1 f.1 f.2.1 f.2.2.1 f.2.2.2.1 f.2.2.2.2.1 h.1 h.2.1 h.2.2.1 h.2.2.2.1 h.2.2.2.2 d.1 d.2.1 e.1 e.2.1 e.2.2.1 e.2.2.2.1 e.2.2.2.2.1 g.1 g.2.1 g.2.2.1 g.2.2.2.1 g.2.2.2.2.1 g.2.2.2.2.2).bind fun i=>cond (Bool.not i.1) (some (.inr (.inl (false,())))) (some (.inl (aa .add .i64 b.1 1,())))) none) none) (some (.inr (.inr (.inl ()))))
noncomputable def JJ k x:=iter (JI k) big x
noncomputable def JH(a b:Nq):oa:=cond (af .neq (ai a) (ai b)) (some (false,())) ((JJ (a,b,()) (0,())).bind fun c=>Sum.elim (fun d=>some (d.1,())) (fun d=>Sum.elim (fun _=>some (true,())) (fun e=>Empty.elim e) d) c)
noncomputable def Mn(a b c d e f:Int)(g:Bool)(h i j k l m:Int)(n:Bool):oa:=letI o:=some (false,());cond (af .neq a h) o (cond (af .neq b i) o (cond (af .neq c j) o (cond (af .neq d k) o (cond (af .neq e l) o (cond (af .neq f m) o (cond (Bool.not (bQ g n)) o (some (true,()))))))))
noncomputable def KA(a:Ld×Yg)(b:Cp):PZ:=letI c:=ae cn a.1 b.1;letI d:=ae cn a.2.1 b.1;letI e:=c.2.2.2;letI f:=d.2.2.2;cond (af .lss b.1 (ai a.1)) (cond (ah a.1 b.1) (cond (ah a.2.1 b.1) ((Mn c.1 c.2.1 c.2.2.1 e.1 e.2.1 e.2.2.1 e.2.2.2 d.1 d.2.1 d.2.2.1 f.1 f.2.1 f.2.2.1 f.2.2.2).bind fun g=>cond (Bool.not g.1) (some (.inr (.inl (false,())))) (some (.inl (aa .add .i64 b.1 1,())))) none) none) (some (.inr (.inr (.inl ()))))
noncomputable def KB k x:=iter (KA k) big x
noncomputable def K0(a b:Ld):oa:=cond (af .neq (ai a) (ai b)) (some (false,())) ((KB (a,b,()) (0,())).bind fun c=>Sum.elim (fun d=>some (d.1,())) (fun d=>Sum.elim (fun _=>some (true,())) (fun e=>Empty.elim e) d) c)
noncomputable def JG(a b c d e f g h i j k:Int)(l:Lc)(m:Nq)(n:Ld)(o:Km)(p q r s t u v w x y z:Int)(A:Lc)(B:Nq)(C:Ld)(D:Km):oa:=(Mq a b c d e f g h p q r s t u v w).bind fun E=>letI F:=some (false,());cond (Bool.not E.1) F (cond (af .neq i x) F (cond (af .neq j y) F (cond (af .neq k z) F ((Mp l A).bind fun G=>cond (Bool.not G.1) F ((JH m B).bind fun H=>cond (Bool.not H.1) F ((K0 n C).bind fun I=>cond (Bool.not I.1) F ((IE o D).bind fun J=>cond (Bool.not J.1) F (some (true,())))))))))
end Go.Fn
set_option linter.unusedVariables false
namespace Go.Fn
open Go.R
noncomputable def lm(rec:(List (List (Int)))->(List (Int))->Int->Option ((List (List (Int)))×Unit))(k:(List (Int))×Int×Unit)(x:(List (List (Int)))×Int×Unit):Option (((List (List (Int)))×Int×Unit)⊕((List (List (Int)))×Unit⊕Empty)):=(bif (af .lss x.2.1 k.2.1)then((Lr k.1 x.2.1).bind fun y0=>(bif (Bool.not y0.1)then(bif (aE (List.append (α:=Int) ([]:List (Int)) k.1))then(bif (aE (List.append (α:=Int) (List.append (α:=Int) ([]:List (Int)) k.1) (List.append (α:=Int) ([]:List (Int)) [x.2.1])))then((rec x.1 (List.append (α:=Int) (List.append (α:=Int) ([]:List (Int)) k.1) (List.append (α:=Int) ([]:List (Int)) [x.2.1])) k.2.1).bind fun y1=>some (.inl (y1.1,(aa .add .i64 x.2.1 (1:Int)),())))else none)else none)else some (.inl (x.1,(aa .add .i64 x.2.1 (1:Int)),()))))else some (.inr (.inl (x.1,()))))
noncomputable def n5(rec:(List (List (Int)))->(List (Int))->Int->Option ((List (List (Int)))×Unit))(k:(List (Int))×Int×Unit)(x:(List (List (Int)))×Int×Unit):Option ((List (List (Int)))×Unit⊕Empty):=iter (lm rec k) big x
noncomputable def mm(rec:(List (List (Int)))->(List (Int))->Int->Option ((List (List (Int)))×Unit))(a0:(List (List (Int))))(a1:(List (Int)))(a2:Int):Option ((List (List (Int)))×Unit):=(bif (aE (List.append (α:=List (Int)) a0 (List.append (α:=List (Int)) ([]:List (List (Int))) [a1])))then((n5 rec (a1,a2,()) ((List.append (α:=List (Int)) a0 (List.append (α:=List (Int)) ([]:List (List (Int))) [a1])),(0:Int),())).bind fun q0=>(Sum.elim (fun y1=>some (y1.1,())) (fun q2=>(Empty.elim q2)) q0))else none)
noncomputable def hD:Nat->(List (List (Int)))->(List (Int))->Int->Option ((List (List (Int)))×Unit)|0=>fun _ _ _=>none|n+1=>mm (hD n)
noncomputable def Nl(a:u0)(b:gg)(c:Int):Option Xw:=hD big a b c
noncomputable def R1(a b:Int)(c:u0)(d:Jo)(e:gg):YbP:=(K9 a b c d e).bind fun f=>cond (Bool.not f.2.2.2.2.1) (some (([]:gg),0,false,())) (some (f.1,f.2.1,true,()))
noncomputable def I1(a:Int×XK)(b:gg×Int×Bool×Xy):Option (gg×Int×Bool×Xy⊕gg×Zq⊕Empty):=letI c:=b.2.2.2;letI d:=aa .add .i64 c.2.1 1;letI e:=ah c.1 c.2.1;letI f:=ae gb c.1 c.2.1;letI g:=(b.1,b.2.1,b.2.2.1,c.1,d,());cond (af .lss c.2.1 (ai c.1)) (cond e (cond (af .lss (ai f) a.1) (some (.inl g)) (cond e ((R1 a.2.1 a.2.2.1 a.2.2.2.1 a.2.2.2.2.1 f).bind fun h=>letI i:=(f,h.2.1,true,c.1,d,());cond h.2.2.1 (cond (Bool.not b.2.2.1) (cond e (some (.inl i)) none) (cond e (cond (af .gtr (ai f) (ai b.1)) (cond e (some (.inl i)) none) (cond e (cond (af .eql (ai f) (ai b.1)) (cond (af .lss h.2.1 b.2.1) (cond e (some (.inl i)) none) (some (.inl g))) (some (.inl g))) none)) none)) (some (.inl g))) none)) none) (some (.inr (.inl (b.1,b.2.1,b.2.2.1,()))))
noncomputable def I2 k x:=iter (I1 k) big x
noncomputable def Ir(a b:Int)(c:u0)(d:Jo)(e:Int):YbP:=(Ip a b c d).bind fun f=>letI g:=some (([]:gg),(0:Int),false,());cond (Bool.not f.1) g ((Nl ([]:u0) ([]:gg) (ai d)).bind fun h=>(I2 (e,a,b,c,d,()) (([]:gg),0,false,h.1,0,())).bind fun i=>Sum.elim (fun j=>cond (Bool.not j.2.2.1) g (some (j.1,j.2.1,true,()))) (fun j=>Empty.elim j) i)
noncomputable def K6(a b:Int)(c:u0)(d:Jo):YbP:=(Ir a b c d 0).bind fun e=>some (e.1,e.2.1,e.2.2.1,())
end Go.Fn
set_option linter.unusedVariables false
namespace Go.Fn
open Go.R
noncomputable def Jp(a:Int):oa:=some (af .neq a a,())
noncomputable def DM(a b:Int):R4:=(Jp a).bind fun c=>(Jp b).bind fun d=>letI e:=some ((0:Int),());letI f:=some ((1:Int),());letI g:=some ((-1:Int),());cond c.1 (cond d.1 e g) (cond d.1 f (cond (af .lss a b) g (cond (af .gtr a b) f e)))
end Go.Fn
namespace Go.Fn
open Go.R
abbrev Ev:=Int×Int×Int×Int×Int×Int×Int
noncomputable def hG(a lo hi:Int):Bool:=bif decide (a>=lo)then decide (a<=hi)else false
theorem ev(a lo hi:Int):bu a lo hi=some (hG a lo hi,()):=by unfold bu hG;simp only[af];cases decide (a>=lo) <;> rfl
theorem qB(a lo hi:Int):bt a lo hi=some (hG a lo hi,()):=ev a lo hi
theorem Iv(a:Int):gn a=some (hG a 0 20000,()):=by unfold gn;rw[ev];rfl
noncomputable def Sg(e:Ev):Bool:=bif hG e.1 0 5 then bif hG e.2.1 1 999 then bif hG e.2.2.1 1 100000 then bif hG e.2.2.2.1 1 4 then bif hG e.2.2.2.2.1 1 999 then bif hG e.2.2.2.2.2.1 0 20000 then hG e.2.2.2.2.2.2 0 20000 else false else false else false else false else false else false
theorem Lf{α:Type}(b:Bool)(x y:α):(bif b then some x else some y)=some (bif b then x else y):=by cases b <;> rfl
theorem Le(b x y:Bool):(bif b then(x,())else(y,()))=((bif b then x else y),()):=by cases b <;> rfl
theorem VU(a b c d e f g:Int):Mw a b c d e f g=some (Sg (a,b,c,d,e,f,g),()):=by unfold Mw Sg;simp only[qB,Option.bind_some,Lf,Le]
theorem VF(a b c d e f g:Int):Mh a b c d e f g=some (Sg (a,b,c,d,e,f,g),()):=by unfold Mh Sg;simp only[ev,Iv,Option.bind_some,Lf,Le]
noncomputable def Vq(p e:Ev):Bool:=!(decide (e.1<p.1)||(decide (e.1=p.1)&&(decide (e.2.1<=p.2.1)||decide (e.2.2.1<=p.2.2.1))))
noncomputable def OR(l:List Ev):Nat->Bool
 |0=>Sg (l.getD 0 e5)
 |n+1=>Sg (l.getD (n+1) e5)&&Vq (l.getD n e5) (l.getD (n+1) e5)
noncomputable def VI(l:List Ev):Bool:=bif decide (60<l.length)then false else aB (OR l) 0 l.length
theorem XD(l:List Ev):af .gtr (ai l) (60:Int)=decide (60<l.length):=by simp only[af,ai,gt_iff_lt,decide_eq_decide];omega
theorem Wr(l:List Ev):qe l=some (VI l,()):=by
 unfold qe VI;rw[XD];cases hl:decide (60<l.length)with
 |true=>rfl
 |false=>
  have hl:l.length<=60:=by have:=of_decide_eq_false hl;omega
  have e8:Ju (l,l,(ai l),()) ((0:Int),())=some (bif aB (OR l) 0 l.length then(Sum.inr (Sum.inl ()):Bool×Unit⊕(Unit⊕Empty))else Sum.inl (false,())):=by
   refine bp (fun n=>((n:Int),())) l.length (by omega) (OR l) _ _ (fun n hn=>?_) ?_
   ·unfold Jt;simp only[aj,az,aq,VF,hn,decide_true,cond_true,Option.bind_some];cases n with
    |zero=>simp only[OR];cases Sg (l.getD 0 e5) <;> rfl
    |succ n=>
     have hn':n<l.length:=by omega
     simp only[OR,av (n:=n+1) (by omega),iw (n:=n) (by omega),cV hn',aq,Vq,af];have e0:((((n+1:Nat):Int))==0)=false:=by rw[beq_eq_false_iff_ne];omega
     rw[e0];simp only[cond_false,cond_true];generalize l.getD (n+1) e5=e;generalize l.getD n e5=p;show(bif !(Sg e)then _ else _)=_;cases Sg e with
     |false=>rfl
     |true=>
      simp only[Bool.not_true,cond_false,Bool.true_and];cases decide (e.1<p.1)with
      |true=>rfl
      |false=>
       simp only[cond_false,Bool.false_or];have eb:(e.1==p.1)=decide (e.1=p.1):=rfl;rw[eb];cases decide (e.1=p.1)with
       |false=>rfl
       |true=>
        simp only[cond_true,Bool.true_and];cases decide (e.2.1<=p.2.1)with
        |true=>rfl
        |false=>cases decide (e.2.2.1<=p.2.2.1) <;> rfl
   ·unfold Jt;simp only[aj,Nat.lt_irrefl,decide_false,cond_false]
  rw[e8];cases aB (OR l) 0 l.length <;> rfl
theorem gt0(n:Nat):af .gtr ((n+1:Nat):Int) 0=true:=by simp only[af,gt_iff_lt,decide_eq_true_eq];omega
theorem WD(l:List Ev):r3 l=some (VI l,()):=by
 unfold r3 VI;rw[XD];cases hl:decide (60<l.length)with
 |true=>rfl
 |false=>
  have hl:l.length<=60:=by have:=of_decide_eq_false hl;omega
  have e8:J8 (l,()) ((0:Int),())=some (bif aB (OR l) 0 l.length then(Sum.inr (Sum.inl ()):Bool×Unit⊕(Unit⊕Empty))else Sum.inl (false,())):=by
   refine bp (fun n=>((n:Int),())) l.length (by omega) (OR l) _ _ (fun n hn=>?_) ?_
   ·unfold J7;simp only[aj,az,aq,VU,hn,decide_true,cond_true,Option.bind_some];cases n with
    |zero=>simp only[OR];cases Sg (l.getD 0 e5) <;> rfl
    |succ n=>
     have hn':n<l.length:=by omega
     simp only[OR,gt0,av (n:=n+1) (by omega),iw (n:=n) (by omega),cV hn',aq,Vq,cond_true];simp only[af];generalize l.getD (n+1) e5=e;generalize l.getD n e5=p;show(bif !(Sg e)then _ else _)=_;cases Sg e with
     |false=>rfl
     |true=>
      simp only[Bool.not_true,cond_false,Bool.true_and];cases decide (e.1<p.1)with
      |true=>rfl
      |false=>
       simp only[cond_false,Bool.false_or];have eb:(e.1==p.1)=decide (e.1=p.1):=rfl;rw[eb];cases decide (e.1=p.1)with
       |false=>rfl
       |true=>
        simp only[cond_true,Bool.true_and];cases decide (e.2.1<=p.2.1)with
        |true=>rfl
        |false=>cases decide (e.2.2.1<=p.2.2.1) <;> rfl
   ·unfold J7;simp only[aj,Nat.lt_irrefl,decide_false,cond_false]
  rw[e8];cases aB (OR l) 0 l.length <;> rfl
theorem Xm(a b c d e f g:Int):O1 a b c d e f g=some (a,b,c,d,e,f,g,()):=rfl
theorem UR(l:List Ev)(hl:l.length<=1073741824):IJ l=some (l,()):=by
 unfold IJ;rw[cC hl];have e8:Ii (l,()) (List.replicate l.length (0,0,0,0,0,0,0),(0:Int),())=some (Sum.inl (l,())):=by
  have:=aR (body:=Ih (l,())) (fun n=>(l.take n++List.replicate (l.length-n) (0,0,0,0,0,0,0),(n:Int),())) l.length (by omega) (Sum.inl (l,())) (fun n hn=>?_) ?_
  ·unfold Ii;simpa using this
  ·unfold Ih;have hx:n<(l.take n++List.replicate (l.length-n) ((0,0,0,0,0,0,0):Ev)).length:=by rw[dD _ _ (Nat.le_of_lt hn)];exact hn
   simp only[aj,az,hn,hx,decide_true,cond_true,aq,Xm,Option.bind_some,av (n:=n) (by omega),aN];rw[<-dS l (0,0,0,0,0,0,0) hn,eX hn e5 (0,0,0,0,0,0,0)]
  ·unfold Ih;simp only[aj,Nat.lt_irrefl,decide_false,cond_false,Nat.sub_self,List.replicate_zero,List.append_nil,List.take_length]
 have hr:cW (ai l) ((0:Int),(0:Int),(0:Int),(0:Int),(0:Int),(0:Int),(0:Int))=List.replicate l.length (0,0,0,0,0,0,0):=dP _ _;rw[hr];simp only[cond_true];rw[e8];rfl
theorem gm(a:Int):af .neq a a=false:=by simp[af]
theorem VB(a b c d e f g:Int):Mm a b c d e f g a b c d e f g=some (true,()):=by unfold Mm;simp only[gm,cond_false]
theorem Su(l:List Ev)(hl:l.length<=1073741824):IE l l=some (true,()):=by
 unfold IE;rw[gm];have e8:Kz (l,l,()) ((0:Int),())=some (Sum.inr (Sum.inl ())):=by
  refine aR (fun n=>((n:Int),())) l.length (by omega) _ (fun n hn=>?_) ?_
  ·unfold Ky;simp only[aj,az,hn,decide_true,cond_true,VB,Option.bind_some,av (n:=n) (by omega)];rfl
  ·unfold Ky;simp only[aj,Nat.lt_irrefl,decide_false,cond_false]
 simp only[cond_false];rw[e8];rfl
theorem SP(l:List Ev)(a:Int)(hl:l.length<=9223372036854775807)(ha:0<=a)(Q1:a<=1048576):IG l a=some (bif decide (a<(l.length:Int))then -1 else a-(l.length:Int),()):=by
 unfold IG;have h1:aa .sub .i64 a (ai l)=a-(l.length:Int):=bO (by unfold ai;omega) (by unfold ai;omega);rw[h1];have h2:af .lss (a-(l.length:Int)) 0=decide (a<(l.length:Int)):=by simp only[af,decide_eq_decide];omega
 rw[h2];cases decide (a<(l.length:Int)) <;> rfl
end Go.Fn
set_option linter.unusedSimpArgs false
namespace Go.Fn
open Go.R
theorem To(l:List Int)(hl:l.length<=1073741824):Lk l=some (l,()):=by
 unfold Lk;rw[cC hl];have e8:J0 (l,()) (List.replicate l.length 0,(0:Int),())=some (Sum.inl (l,())):=by
  have:=aR (body:=JZ (l,())) (fun n=>(l.take n++List.replicate (l.length-n) 0,(n:Int),())) l.length (by omega) (Sum.inl (l,())) (fun n hn=>?_) ?_
  ·unfold J0;simpa using this
  ·unfold JZ;have hx:n<(l.take n++List.replicate (l.length-n) (0:Int)).length:=by rw[dD _ _ (Nat.le_of_lt hn)];exact hn
   simp only[aj,az,hn,hx,decide_true,cond_true,aq,av (n:=n) (by omega),aN];rw[<-dS l 0 hn,eX hn zI 0]
  ·unfold JZ;simp only[aj,Nat.lt_irrefl,decide_false,cond_false,Nat.sub_self,List.replicate_zero,List.append_nil,List.take_length]
 have hr:cW (ai l) (0:Int)=List.replicate l.length 0:=dP _ _;rw[hr];simp only[cond_true];rw[e8];rfl
theorem Py(l:List Int)(hl:l.length<=1073741824):s3 l l=some (true,()):=by
 unfold s3;rw[gm];have e8:M7 (l,l,()) ((0:Int),())=some (Sum.inr (Sum.inl ())):=by
  refine aR (fun n=>((n:Int),())) l.length (by omega) _ (fun n hn=>?_) ?_
  ·unfold M6;simp only[aj,az,hn,decide_true,cond_true,gm,av (n:=n) (by omega)];rfl
  ·unfold M6;simp only[aj,Nat.lt_irrefl,decide_false,cond_false]
 simp only[cond_false];rw[e8];rfl
theorem Pt{a:Int}(h0:0<=a)(h1:a<=4611686018427387904):aa .add .i64 a 1=a+1:=bV (by omega) (by omega)
noncomputable def Kn{α:Type}(l:List α)(f:Nat->α)(n:Nat):List α:=(List.range n).map f++l.drop n
theorem PV{α:Type}(l:List α)(f:Nat->α){n:Nat}(h:n<=l.length):(Kn l f n).length=l.length:=by simp only[Kn,List.length_append,List.length_map,List.length_range,List.length_drop];omega
theorem Tc{α:Type}(l:List α)(f:Nat->α){n:Nat}(h:n<l.length):(Kn l f n).set n (f n)=Kn l f (n+1):=by
 unfold Kn;have h1:((List.range n).map f).length=n:=by simp
 rw[List.set_append,if_neg (by omega),h1,Nat.sub_self,List.range_succ,List.map_append,List.append_assoc];congr 1;rw[List.drop_eq_getElem_cons h];rfl
theorem VC{α:Type}(f:Nat->α)(k:Nat){n:Nat}(h:n<k)(z:α):((List.range k).map f).getD n z=f n:=by rw[List.getD_eq_getElem?_getD,List.getElem?_map,List.getElem?_range h];rfl
noncomputable def KF(k:Int)(n:Nat):List Int:=(List.range n).map fun i:Nat=>k+(i:Int)
theorem PN(l:List Int)(k:Int)(hl:l.length<=1073741824)(h0:0<=k)(h1:k<=1125899906842624):vm l k=some (k+(l.length:Int),KF k l.length,()):=by
 unfold vm;have e8:Ic () (l,k,(0:Int),())=some (Sum.inl (KF k l.length,k+(l.length:Int),())):=by
  have:=aR (body:=Ib ()) (fun n=>(Kn l (fun i=>k+(i:Int)) n,k+(n:Int),(n:Int),())) l.length (by omega) (Sum.inl (KF k l.length,k+(l.length:Int),())) (fun n hn=>?_) ?_
  ·unfold Ic;have e0:Kn l (fun i=>k+(i:Int)) 0=l:=by simp[Kn]
   simp only[e0]at this;simpa using this
  ·unfold Ib;have hx:n<(Kn l (fun i=>k+(i:Int)) n).length:=by rw[PV _ _ (Nat.le_of_lt hn)];exact hn
   simp only[aj,az,hx,decide_true,cond_true,av (n:=n) (by omega),aN];rw[Pt (by omega) (by omega),<-Tc _ _ hn];have:k+(n:Int)+1=k+((n+1:Nat):Int):=by omega
   rw[this]
  ·unfold Ib;have hx:(Kn l (fun i=>k+(i:Int)) l.length).length=l.length:=PV _ _ (Nat.le_refl _);simp only[aj,hx,Nat.lt_irrefl,decide_false,cond_false];simp[Kn,KF]
 rw[e8];rfl
theorem Ut(n:Nat)(k:Int)(hl:n<=1073741824)(h0:0<=k)(h1:k<=1125899906842624):IF (KF k n) k=some (k+(n:Int),()):=by
 unfold IF;have hlen:(KF k n).length=n:=by simp[KF]
 have e8:H9 (KF k n,()) (k,(0:Int),())=some (Sum.inr (Sum.inl (k+(n:Int),()))):=by
  have:=aR (body:=H8 (KF k n,())) (fun m=>(k+(m:Int),(m:Int),())) n (by omega) (Sum.inr (Sum.inl (k+(n:Int),()))) (fun m hm=>?_) ?_
  ·unfold H9;simpa using this
  ·unfold H8;have hg:(KF k n).getD m zI=k+(m:Int):=VC _ _ hm _;simp only[aj,hlen,az,hm,decide_true,cond_true,aq,hg,gm,cond_false,av (n:=m) (by omega)];rw[Pt (by omega) (by omega)];have:k+(m:Int)+1=k+((m+1:Nat):Int):=by omega
   rw[this]
  ·unfold H8;simp only[aj,hlen,Nat.lt_irrefl,decide_false,cond_false]
 rw[e8];rfl
noncomputable def R9(k:Int)(i:Nat):Ev:=(k+7*(i:Int),k+7*(i:Int)+1,k+7*(i:Int)+1+1,k+7*(i:Int)+1+1+1,k+7*(i:Int)+1+1+1+1,k+7*(i:Int)+1+1+1+1+1,k+7*(i:Int)+1+1+1+1+1+1)
noncomputable def QY(k:Int)(n:Nat):List Ev:=(List.range n).map (R9 k)
theorem Qp(l:List Ev)(k:Int)(hl:l.length<=1073741824)(h0:0<=k)(h1:k<=1099511627776):tW l k=some (k+7*(l.length:Int),QY k l.length,()):=by
 unfold tW;have e8:tb () (l,k,(0:Int),())=some (Sum.inl (QY k l.length,k+7*(l.length:Int),())):=by
  have:=aR (body:=s4 ()) (fun n=>(Kn l (R9 k) n,k+7*(n:Int),(n:Int),())) l.length (by omega) (Sum.inl (QY k l.length,k+7*(l.length:Int),())) (fun n hn=>?_) ?_
  ·unfold tb;have e0:Kn l (R9 k) 0=l:=by simp[Kn]
   simp only[e0]at this;simpa using this
  ·have hx:n<(Kn l (R9 k) n).length:=by rw[PV _ _ (Nat.le_of_lt hn)];exact hn
   rw[<-Tc l (R9 k) hn];generalize hL:Kn l (R9 k) n=L at hx;have e1:k+7*((n+1:Nat):Int)=k+7*(n:Int)+1+1+1+1+1+1+1:=by omega
   rw[e1];unfold R9;have b0:0<=k+7*(n:Int):=by omega
   have b1:k+7*(n:Int)<=1125899906842624:=by omega
   revert b0 b1;generalize k+7*(n:Int)=q;intro b0 b1;have a1:aa .add .i64 q 1=q+1:=Pt (by omega) (by omega);have a2:aa .add .i64 (q+1) 1=q+1+1:=Pt (by omega) (by omega);have a3:aa .add .i64 (q+1+1) 1=q+1+1+1:=Pt (by omega) (by omega);have a4:aa .add .i64 (q+1+1+1) 1=q+1+1+1+1:=Pt (by omega) (by omega);have a5:aa .add .i64 (q+1+1+1+1) 1=q+1+1+1+1+1:=Pt (by omega) (by omega);have a6:aa .add .i64 (q+1+1+1+1+1) 1=q+1+1+1+1+1+1:=Pt (by omega) (by omega);have a7:aa .add .i64 (q+1+1+1+1+1+1) 1=q+1+1+1+1+1+1+1:=Pt (by omega) (by omega);unfold s4;simp only[aj,az,hx,decide_true,cond_true,av (n:=n) (by omega),aN,aq,a1,a2,a3,a4,a5,a6,a7];iterate 8 (rw[aV];try simp only[je,List.length_set,hx,decide_true,cond_true,aN,aq,aF hx,List.set_set,a7])
  ·unfold s4;have hx:(Kn l (R9 k) l.length).length=l.length:=PV _ _ (Nat.le_refl _);simp only[aj,hx,Nat.lt_irrefl,decide_false,cond_false];simp[Kn,QY]
 rw[e8];rfl
theorem W2{l:List Ev}(h:VI l=true):l.length<=60:=by
 unfold VI at h;cases hd:decide (60<l.length)with
 |true=>rw[hd]at h;cases h
 |false=>have:=of_decide_eq_false hd;omega
theorem X6{l:List Ev}(h:VI l=true){n:Nat}(hn:n<l.length):OR l n=true:=by have h60:=W2 h;unfold VI at h;rw[decide_eq_false (by omega)]at h;exact(aQ _ _).1 h n (Nat.zero_le _) (by omega)
theorem e7{a lo hi:Int}:hG a lo hi=true↔lo<=a/\a<=hi:=by
 unfold hG;by_cases h:lo<=a
 ·rw[decide_eq_true (show a>=lo from h)];simp[h]
 ·rw[decide_eq_false (show ¬a>=lo from h)];simp[h]
theorem WS{a b:Bool}:(bif a then b else false)=true↔a=true/\b=true:=by cases a <;> simp
theorem xn{α:Type}{l:List α}{i:Int}(h0:0<=i)(h1:i<(l.length:Int)):ah l i=true:=by unfold ah;rw[Bool.and_eq_true];exact⟨decide_eq_true h0,decide_eq_true h1⟩
theorem XW{a b:Int}(h:af .eql a b=true):a=b:=by simpa[af] using h
theorem kv{a:Int}(h:0<=a):af .lss a 0=false:=by simp only[af,decide_eq_false_iff_not];omega
theorem kx{α:Type}{l:List α}(h:l.length<=1073741824):aE l=true:=by unfold aE limit;exact decide_eq_true (by omega)
end Go.Fn
set_option linter.unusedSimpArgs false
namespace Go.Fn
open Go.R
theorem V0(a0 a1:Int):PD a0 a1=some (a0,a1,()):=rfl
theorem SU(l:List (Int×Int))(hl:l.length<=1073741824):J3 l=some (l,()):=by
 unfold J3;rw[cC hl];have e8:IZ (l,()) (List.replicate l.length (0,0),(0:Int),())=some (Sum.inl (l,())):=by
  have:=aR (body:=IY (l,())) (fun n=>(l.take n++List.replicate (l.length-n) (0,0),(n:Int),())) l.length (by omega) (Sum.inl (l,())) (fun n hn=>?_) ?_
  ·unfold IZ;simpa using this
  ·unfold IY;have hx:n<(l.take n++List.replicate (l.length-n) ((0,0):Int×Int)).length:=by rw[dD _ _ (Nat.le_of_lt hn)];exact hn
   simp only[aj,az,hn,hx,decide_true,cond_true,aq,V0,Option.bind_some,av (n:=n) (by omega),aN];rw[<-dS l (0,0) hn,eX hn Nr (0,0)]
  ·unfold IY;simp only[aj,Nat.lt_irrefl,decide_false,cond_false,Nat.sub_self,List.replicate_zero,List.append_nil,List.take_length]
 have hr:cW (ai l) (((0:Int),(0:Int)))=List.replicate l.length (0,0):=dP _ _;rw[hr];simp only[cond_true];rw[e8];rfl
theorem Ul(a0 a1:Int):N6 a0 a1 a0 a1=some (true,()):=by unfold N6;simp only[gm,cond_false]
theorem Q6(l:List (Int×Int))(hl:l.length<=1073741824):JK l l=some (true,()):=by
 unfold JK;rw[gm];have e8:LQ (l,l,()) ((0:Int),())=some (Sum.inr (Sum.inl ())):=by
  refine aR (fun n=>((n:Int),())) l.length (by omega) _ (fun n hn=>?_) ?_
  ·unfold LP;simp only[aj,az,hn,decide_true,cond_true,Ul,Option.bind_some,av (n:=n) (by omega)];rfl
  ·unfold LP;simp only[aj,Nat.lt_irrefl,decide_false,cond_false]
 simp only[cond_false];rw[e8];rfl
theorem SQ(l:List (Int×Int))(a:Int)(hl:l.length<=9223372036854775807)(ha:0<=a)(Q1:a<=1048576):JU l a=some (bif decide (a<(l.length:Int))then -1 else a-(l.length:Int),()):=by
 unfold JU;have h1:aa .sub .i64 a (ai l)=a-(l.length:Int):=bO (by unfold ai;omega) (by unfold ai;omega);rw[h1];have h2:af .lss (a-(l.length:Int)) 0=decide (a<(l.length:Int)):=by simp only[af,decide_eq_decide];omega
 rw[h2];cases decide (a<(l.length:Int)) <;> rfl
abbrev MA:=Int×Int
noncomputable def O5(l:List MA)(most:Int)(n:Nat):Bool:=
 bif af .lss (l.getD n Nr).1 0 then false else bif af .geq (l.getD n Nr).1 (l.getD n Nr).2 then false else bif af .gtr (l.getD n Nr).2 most then false else
  match n with
  |0=>true
  |m+1=>bif af .leq (l.getD (m+1) Nr).1 (l.getD m Nr).2 then false else true
noncomputable def Mu(l:List MA)(most:Int):Bool:=bif decide (20<l.length)then false else aB (O5 l most) 0 l.length
theorem XC{α:Type}(l:List α):af .gtr (ai l) (20:Int)=decide (20<l.length):=by simp only[af,ai,gt_iff_lt,decide_eq_decide];omega
theorem Zu:af .gtr ((0:Nat):Int) 0=false:=rfl
theorem TM(l:List MA)(most:Int):Kd l most=some (Mu l most,()):=by
 unfold Kd Mu;rw[XC];cases hl:decide (20<l.length)with
 |true=>rfl
 |false=>
  have hl:l.length<=20:=by have:=of_decide_eq_false hl;omega
  have e8:L5 (l,most,()) ((0:Int),())=some (bif aB (O5 l most) 0 l.length then(Sum.inr (Sum.inl ()):Bool×Unit⊕(Unit⊕Empty))else Sum.inl (false,())):=by
   refine bp (fun n=>((n:Int),())) l.length (by omega) (O5 l most) _ _ (fun n hn=>?_) ?_
   ·unfold L4 O5;simp only[aj,az,aq,hn,decide_true,cond_true];cases n with
    |zero=>simp only[Zu,cond_false];cases af .lss (l.getD 0 Nr).1 0 <;> cases af .geq (l.getD 0 Nr).1 (l.getD 0 Nr).2 <;> cases af .gtr (l.getD 0 Nr).2 most <;> rfl
    |succ n=>
     have hn':n<l.length:=by omega
     simp only[gt0,av (n:=n+1) (by omega),iw (n:=n) (by omega),cV hn',aq,cond_true];cases af .lss (l.getD (n+1) Nr).1 0 <;> cases af .geq (l.getD (n+1) Nr).1 (l.getD (n+1) Nr).2 <;> cases af .gtr (l.getD (n+1) Nr).2 most <;> cases af .leq (l.getD (n+1) Nr).1 (l.getD n Nr).2 <;> rfl
   ·unfold L4;simp only[aj,Nat.lt_irrefl,decide_false,cond_false]
  rw[e8];cases aB (O5 l most) 0 l.length <;> rfl
theorem TB(l:List MA)(most:Int):Jz l most=some (Mu l most,()):=by
 unfold Jz Mu;rw[XC];cases hl:decide (20<l.length)with
 |true=>rfl
 |false=>
  have hl:l.length<=20:=by have:=of_decide_eq_false hl;omega
  have e8:LB (l,most,l,ai l,()) ((0:Int),())=some (bif aB (O5 l most) 0 l.length then(Sum.inr (Sum.inl ()):Bool×Unit⊕(Unit⊕Empty))else Sum.inl (false,())):=by
   refine bp (fun n=>((n:Int),())) l.length (by omega) (O5 l most) _ _ (fun n hn=>?_) ?_
   ·unfold LA O5;simp only[aj,az,aq,hn,decide_true,cond_true];cases n with
    |zero=>simp only[Zu,cond_false];cases af .lss (l.getD 0 Nr).1 0 <;> cases af .geq (l.getD 0 Nr).1 (l.getD 0 Nr).2 <;> cases af .gtr (l.getD 0 Nr).2 most <;> rfl
    |succ n=>
     have hn':n<l.length:=by omega
     simp only[gt0,av (n:=n+1) (by omega),iw (n:=n) (by omega),cV hn',aq,cond_true];cases af .lss (l.getD (n+1) Nr).1 0 <;> cases af .geq (l.getD (n+1) Nr).1 (l.getD (n+1) Nr).2 <;> cases af .gtr (l.getD (n+1) Nr).2 most <;> cases af .leq (l.getD (n+1) Nr).1 (l.getD n Nr).2 <;> rfl
   ·unfold LA;simp only[aj,Nat.lt_irrefl,decide_false,cond_false]
  rw[e8];cases aB (O5 l most) 0 l.length <;> rfl
noncomputable def vv(o c:List MA):Bool:=bif Mu o 168 then Mu c 20000 else false
theorem Jl(o c:List MA):BE o c=some (vv o c,()):=by unfold BE vv;simp only[TM,Option.bind_some,Lf,Le]
theorem Ji(o c:List MA):sS o c=some (vv o c,()):=by unfold sS vv;simp only[TB,Option.bind_some,Lf,Le]
theorem Sc{l:List MA}{most:Int}(h:Mu l most=true):l.length<=20:=by
 unfold Mu at h;cases hd:decide (20<l.length)with
 |true=>rw[hd]at h;cases h
 |false=>have:=of_decide_eq_false hd;omega
theorem O6{o c:List MA}(h:vv o c=true):o.length<=20/\c.length<=20:=by
 unfold vv at h;cases ho:Mu o 168 with
 |true=>rw[ho]at h;exact⟨Sc ho,Sc h⟩
 |false=>rw[ho]at h;cases h
noncomputable def RF(l:List MA)(x:Int)(n:Nat):Bool:=bif af .leq (l.getD n Nr).1 x then !af .lss x (l.getD n Nr).2 else true
noncomputable def VH(l:List MA)(x:Int):Bool:=!aB (RF l x) 0 l.length
theorem WU(a b:Int):af .geq a b=af .leq b a:=rfl
theorem Tj(l:List MA)(x:Int)(hl:l.length<=1073741824):B1 l x=some (VH l x,()):=by
 unfold B1 VH;have e8:Ki (l,x,()) ((0:Int),())=some (bif aB (RF l x) 0 l.length then(Sum.inr (Sum.inl ()):Bool×Unit⊕(Unit⊕Empty))else Sum.inl (true,())):=by
  refine bp (fun n=>((n:Int),())) l.length (by omega) (RF l x) _ _ (fun n hn=>?_) ?_
  ·unfold Kh RF;simp only[aj,az,aq,hn,decide_true,cond_true,av (n:=n) (by omega)];cases af .leq (l.getD n Nr).1 x <;> cases af .lss x (l.getD n Nr).2 <;> rfl
  ·unfold Kh;simp only[aj,Nat.lt_irrefl,decide_false,cond_false]
 rw[e8];cases aB (RF l x) 0 l.length <;> rfl
theorem Tf(l:List MA)(x:Int)(hl:l.length<=1073741824):JC l x=some (VH l x,()):=by
 unfold JC VH;have e8:LK (x,l,ai l,()) ((0:Int),())=some (bif aB (RF l x) 0 l.length then(Sum.inr (Sum.inl ()):Bool×Unit⊕(Unit⊕Empty))else Sum.inl (true,())):=by
  refine bp (fun n=>((n:Int),())) l.length (by omega) (RF l x) _ _ (fun n hn=>?_) ?_
  ·unfold LJ RF;simp only[aj,az,aq,hn,decide_true,cond_true,av (n:=n) (by omega),WU];cases af .leq (l.getD n Nr).1 x <;> cases af .lss x (l.getD n Nr).2 <;> rfl
  ·unfold LJ;simp only[aj,Nat.lt_irrefl,decide_false,cond_false]
 rw[e8];cases aB (RF l x) 0 l.length <;> rfl
noncomputable def PO(o c:List MA)(x:Int):Bool:=bif VH o (aa .rem .i64 x 168)then Bool.not (VH c x)else false
theorem Z9:ax (168:Int)=false:=rfl
theorem Lo{o c:List MA}(x:Int)(ho:o.length<=20)(hc:c.length<=20):Kg o c x=some (PO o c x,()):=by unfold Kg PO;simp only[Z9,cond_false,Tj o _ (by omega),Tj c _ (by omega),Option.bind_some,Lf,Le]
theorem PA{o c:List MA}(x:Int)(ho:o.length<=20)(hc:c.length<=20):Li o c x=some (PO o c x,()):=by unfold Li PO;simp only[Z9,cond_false,Tf o _ (by omega),Tf c _ (by omega),Option.bind_some,Lf,Le]
noncomputable def Oh(a0 a1 a2 a3 a4 a5 a6 a7:Int):Bool:=bif hG a0 1 2000 then bif hG a2 1 2000 then bif hG a5 1 2000 then bif hG a1 0 2000 then bif hG a3 0 10000 then bif hG a4 0 1000000 then bif hG a6 0 100000 then hG a7 0 20 else false else false else false else false else false else false else false
theorem RG(a0 a1 a2 a3 a4 a5 a6 a7:Int):Ke a0 a1 a2 a3 a4 a5 a6 a7=some (Oh a0 a1 a2 a3 a4 a5 a6 a7,()):=by unfold Ke Oh;simp only[qB,Option.bind_some,Lf,Le]
theorem OW(a0 a1 a2 a3 a4 a5 a6 a7:Int):JA a0 a1 a2 a3 a4 a5 a6 a7=some (Oh a0 a1 a2 a3 a4 a5 a6 a7,()):=by unfold JA Oh;simp only[ev,Option.bind_some,Lf,Le]
theorem WV(a b:Int):af .gtr a b=Bool.not (af .leq a b):=by
 simp only[af,gt_iff_lt];by_cases h:a<=b
 ·rw[decide_eq_true h,decide_eq_false (by omega)];rfl
 ·rw[decide_eq_false h,decide_eq_true (by omega)];rfl
abbrev Sty:=Int×Int×Int×Int
theorem V1(o c:List MA)(ho:o.length<=1073741824)(hc:c.length<=1073741824):Ob o c=some (o,c,()):=by unfold Ob;rw[SU o ho];simp only[Option.bind_some];rw[SU c hc];rfl
theorem Um(o c:List MA)(ho:o.length<=1073741824)(hc:c.length<=1073741824):N7 o c o c=some (true,()):=by unfold N7;rw[Q6 o ho];simp only[Option.bind_some,Bool.not_true,cond_false];rw[Q6 c hc];rfl
theorem Vj(a0 a1 a2 a3 a4 a5 a6 a7:Int):O3 a0 a1 a2 a3 a4 a5 a6 a7=some (a0,a1,a2,a3,a4,a5,a6,a7,()):=rfl
theorem PX(b:Bool):bQ b b=true:=by unfold bQ;simp
theorem Z3:af .lss (-1:Int) 0=true:=rfl
theorem Tn(o c:List MA)(a:Int)(ho:o.length<=9223372036854775807)(hc:c.length<=9223372036854775807)(ha:0<=a)(Q1:a<=1048576):
  N9 o c a=some (bif decide (a<(o.length:Int)+(c.length:Int))then -1 else a-(o.length:Int)-(c.length:Int),()):=by
 unfold N9;rw[SQ o a ho ha Q1];simp only[Option.bind_some];cases h1:decide (a<(o.length:Int))with
 |true=>have h1:=of_decide_eq_true h1;rw[decide_eq_true (show a<(o.length:Int)+(c.length:Int)by omega)];simp only[cond_true,Z3]
 |false=>
  have h1:=of_decide_eq_false h1;simp only[cond_false];rw[kv (by omega)];simp only[cond_false];rw[SQ c _ hc (by omega) (by omega)];simp only[Option.bind_some];have h3:decide (a-(o.length:Int)<(c.length:Int))=decide (a<(o.length:Int)+(c.length:Int)):=by rw[decide_eq_decide];omega
  rw[h3];cases h2:decide (a<(o.length:Int)+(c.length:Int))with
  |true=>simp only[cond_true,Z3]
  |false=>have h2:=of_decide_eq_false h2;simp only[cond_false];rw[kv (by omega)];rfl
end Go.Fn
set_option linter.unusedSimpArgs false
namespace Go.Fn
open Go.R
abbrev Mg:=Int×Int×Int×Int×Int
theorem Vh(l:List (List Int))(hl:l.length<=1073741824)(hr:∀r∈l,r.length<=1073741824):Ms l=some (l,()):=by
 unfold Ms;rw[cC hl];have e8:IW (l,()) (List.replicate l.length [],(0:Int),())=some (Sum.inl (l,())):=by
  have:=aR (body:=IV (l,())) (fun n=>(l.take n++List.replicate (l.length-n) [],(n:Int),())) l.length (by omega) (Sum.inl (l,())) (fun n hn=>?_) ?_
  ·unfold IW;simpa using this
  ·unfold IV;have hx:n<(l.take n++List.replicate (l.length-n) ([]:List Int)).length:=by rw[dD _ _ (Nat.le_of_lt hn)];exact hn
   have hrow:(l.getD n gb).length<=1073741824:=by rw[List.getD_eq_getElem?_getD,List.getElem?_eq_getElem hn];exact hr _ (List.getElem_mem hn)
   simp only[aj,az,hn,hx,decide_true,cond_true,aq,To _ hrow,Option.bind_some,av (n:=n) (by omega),aN];rw[<-dS l [] hn,eX hn gb []]
  ·unfold IV;simp only[aj,Nat.lt_irrefl,decide_false,cond_false,Nat.sub_self,List.replicate_zero,List.append_nil,List.take_length]
 have hr':cW (ai l) ([]:List Int)=List.replicate l.length []:=dP _ _;rw[hr'];simp only[cond_true];rw[e8];rfl
theorem Tt(l:List (List Int))(hl:l.length<=1073741824)(hr:∀r∈l,r.length<=1073741824):Mo l l=some (true,()):=by
 unfold Mo;rw[gm];have e8:LM (l,l,()) ((0:Int),())=some (Sum.inr (Sum.inl ())):=by
  refine aR (fun n=>((n:Int),())) l.length (by omega) _ (fun n hn=>?_) ?_
  ·unfold LL;have hrow:(l.getD n gb).length<=1073741824:=by rw[List.getD_eq_getElem?_getD,List.getElem?_eq_getElem hn];exact hr _ (List.getElem_mem hn)
   simp only[aj,az,hn,decide_true,cond_true,aq,Py _ hrow,Option.bind_some,av (n:=n) (by omega)];rfl
  ·unfold LL;simp only[aj,Nat.lt_irrefl,decide_false,cond_false]
 simp only[cond_false];rw[e8];rfl
theorem R2(l:List Int)(a:Int)(hl:l.length<=9223372036854775807)(ha:0<=a)(Q1:a<=1048576):Lj l a=some (bif decide (a<(l.length:Int))then -1 else a-(l.length:Int),()):=by
 unfold Lj;have h1:aa .sub .i64 a (ai l)=a-(l.length:Int):=bO (by unfold ai;omega) (by unfold ai;omega);rw[h1];have h2:af .lss (a-(l.length:Int)) 0=decide (a<(l.length:Int)):=by simp only[af,decide_eq_decide];omega
 rw[h2];cases decide (a<(l.length:Int)) <;> rfl
noncomputable def SR(a:Int)(r:List Int):Int⊕(Int×Unit⊕(Int×Unit⊕Empty)):=bif decide (a<(r.length:Int))then .inr (.inl (-1,()))else .inl (a-(r.length:Int))
theorem XG:∀(l:List (List Int)) (a:Int),0<=a->∃y,gf SR (fun a=>.inr (.inl (a,()))) l a=y/\(y=.inl (-1,())\/∃b,y=.inr (.inl (b,()))/\0<=b/\b<=a/\∀r∈l,(r.length:Int)<=a)
 | [],a,ha=>⟨_,rfl,.inr ⟨a,rfl,ha,Int.le_refl _,fun r hr=>nomatch hr⟩⟩
 |r::l,a,ha=>by
  simp only[gf,SR];cases hd:decide (a<(r.length:Int))with
  |true=>exact⟨_,rfl,.inl rfl⟩
  |false=>
   have hd:=of_decide_eq_false hd;obtain⟨y,h1,h2⟩:=XG l (a-(r.length:Int)) (by omega);refine⟨y,h1,h2.imp id fun⟨b,q1,q2,q3,q4⟩=>⟨b,q1,q2,by omega,fun r' hr'=>?_⟩⟩;cases hr' with
   |head=>omega
   |tail _ hm=>have:=q4 r' hm;omega
theorem Vb(l:List (List Int))(a:Int)(hl:l.length<=9223372036854775807)(hr:∀r∈l,r.length<=9223372036854775807)(ha:0<=a)(Q1:a<=1048576):
  ∃b,Mr l a=some (b,())/\(b = -1\/(0<=b/\b<=a/\(l.length:Int)<=a/\∀r∈l,(r.length:Int)<=a)):=by
 unfold Mr;have h1:aa .sub .i64 a (ai l)=a-(l.length:Int):=bO (by unfold ai;omega) (by unfold ai;omega);have h2:af .lss (a-(l.length:Int)) 0=decide (a<(l.length:Int)):=by simp only[af,decide_eq_decide];omega
 rw[h1,h2];cases hd:decide (a<(l.length:Int))with
 |true=>exact⟨-1,rfl,.inl rfl⟩
 |false=>
  have hd:=of_decide_eq_false hd;obtain⟨y,q1,q2⟩:=XG l (a-(l.length:Int)) (by omega);have e8:LR (l,()) (a-(l.length:Int),(0:Int),())=some y:=by
   rw[<-q1];refine gQ (body:=IR (l,())) l gb (by omega) (fun a n=>(a,(n:Int),())) SR _ (fun _ a=>0<=a/\a<=1048576) (fun n a hn hi=>⟨?_,fun b hb=>?_⟩) (fun a _=>?_) (a-(l.length:Int)) ⟨by omega,by omega⟩
   ·have hrow:(l.getD n gb).length<=9223372036854775807:=by
     rw[List.getD_eq_getElem?_getD,List.getElem?_eq_getElem hn];exact hr _ (List.getElem_mem hn)
    unfold IR SR;simp only[aj,az,hn,decide_true,cond_true,aq,R2 _ _ hrow hi.1 hi.2,Option.bind_some,av (n:=n) (by omega)];cases hd:decide (a<((l.getD n gb).length:Int))with
    |true=>rfl
    |false=>have hd:=of_decide_eq_false hd;simp only[cond_false];rw[kv (by omega)];rfl
   ·unfold SR at hb;cases hd:decide (a<((l.getD n gb).length:Int))with
    |true=>rw[hd]at hb;cases hb
    |false=>
     have CH:=of_decide_eq_false hd;rw[hd]at hb;injection hb with hb
     subst hb;exact⟨by omega,by omega⟩
   ·unfold IR;simp only[aj,Nat.lt_irrefl,decide_false,cond_false]
  simp only[cond_false];rw[e8];rcases q2 with rfl|⟨b,rfl,b1,b2,b3⟩
  ·exact⟨-1,rfl,.inl rfl⟩
  ·exact⟨b,rfl,.inr ⟨b1,by omega,by omega,fun r hr=>by have:=b3 r hr;omega⟩⟩
noncomputable def Q9(r:List Int)(j:Nat):Bool:=hG (r.getD j zI) 0 200
noncomputable def rowAt(g:List (List Int))(n:Nat):Bool:=bif af .neq (ai (g.getD n gb)) (ai g)then false else aB (Q9 (g.getD n gb)) 0 (g.getD n gb).length
noncomputable def On(s:Mg):Bool:=hG s.1 0 20000&&(hG s.2.1 0 20000&&(!af .gtr s.1 s.2.1&&(hG s.2.2.1 0 200&&(hG s.2.2.2.1 0 1000&&hG s.2.2.2.2 0 1000))))
noncomputable def n3(a0 a1:Int)(g:List (List Int))(s:List Mg):Bool:=hG a0 0 20000&&(hG a1 0 1000&&(!af .gtr (ai s) 6&&(!af .neq (ai g) (aa .add .i64 (ai s) 1)&&(aB (rowAt g) 0 g.length&&aB (fun n=>On (s.getD n lf)) 0 s.length))))
theorem Vp{α β:Type}{l:List α}{m:List β}(h:af .neq (ai l) (ai m)=false):l.length=m.length:=by simp only[af,ai,bne_eq_false_iff_eq]at h;omega
theorem contains_eq(r:List Int)(hr:r.length<=1073741824):ei r=some (Bool.not (aB (Q9 r) 0 r.length),()):=by
 unfold ei ga;obtain⟨y,h1,h2⟩:=fP (body:=ej (r,ai r,())) (fun n=>((n:Int),())) r.length (by omega) (Q9 r) (Sum.inr (Sum.inl ())) (fun n=>Sum.inl ((n:Int),())) (fun n hn=>by
  unfold ej M1 Q9;simp only[aj,az,hn,decide_true,cond_true,aq,ev,Option.bind_some,av (n:=n) (by omega)];cases hG (r.getD n zI) 0 200 <;> rfl) (by
  unfold ej;simp only[aj,Nat.lt_irrefl,decide_false,cond_false])
 have h1':e6 (r,ai r,()) ((0:Int),())=some y:=h1;rw[h1'];rcases h2 with ⟨e1,rfl⟩|⟨e1,n,hn,rfl,_⟩
 ·rw[e1];rfl
 ·rw[e1];show some (af .geq ((n:Nat):Int) 0,())=some (Bool.not false,());have:af .geq ((n:Nat):Int) 0=true:=by simp[af]
  rw[this];rfl
theorem OV(a0 a1:Int)(g:List (List Int))(s:List Mg)(hg:∀r∈g,r.length<=1073741824):H7 a0 a1 g s=some (n3 a0 a1 g s,()):=by
 unfold H7 n3;simp only[Iv,ev,Option.bind_some];cases hG a0 0 20000 with
 |false=>rfl
 |true=>
  cases hG a1 0 1000 with
  |false=>rfl
  |true=>
   cases h6:af .gtr (ai s) 6 with
   |true=>rfl
   |false=>
    have hs6:s.length<=6:=by simp[af,ai]at h6;omega
    cases hn:af .neq (ai g) (aa .add .i64 (ai s) 1)with
    |true=>rfl
    |false=>
     have hg7:g.length=s.length+1:=by rw[bV (by unfold ai;omega) (by unfold ai;omega)]at hn;simp only[af,ai,bne_eq_false_iff_eq]at hn;omega
     have U3:Ly (a0,a1,g,s,g,ai g,()) ((0:Int),())=some (bif aB (rowAt g) 0 g.length then(Sum.inr (Sum.inl ()):Bool×Unit⊕(Unit⊕Empty))else Sum.inl (false,())):=by
      refine bp (fun n=>((n:Int),())) g.length (by omega) (rowAt g) _ _ (fun n hn=>?_) ?_
      ·have hrow:(g.getD n gb).length<=1073741824:=by
        rw[List.getD_eq_getElem?_getD,List.getElem?_eq_getElem hn];exact hg _ (List.getElem_mem hn)
       unfold Lw rowAt;simp only[aj,az,hn,decide_true,cond_true,aq,contains_eq _ hrow,Option.bind_some,av (n:=n) (by omega)];cases af .neq (ai (g.getD n gb)) (ai g)with
       |true=>rfl
       |false=>cases aB (Q9 (g.getD n gb)) 0 (g.getD n gb).length <;> rfl
      ·unfold Lw;simp only[aj,Nat.lt_irrefl,decide_false,cond_false]
     have U4:Lz (s,ai s,()) ((0:Int),())=some (bif aB (fun n=>On (s.getD n lf)) 0 s.length then(Sum.inr (Sum.inl ()):Bool×Unit⊕(Unit⊕Empty))else Sum.inl (false,())):=by
      refine bp (fun n=>((n:Int),())) s.length (by omega) (fun n=>On (s.getD n lf)) _ _ (fun n hn=>?_) ?_
      ·unfold Lx On;simp only[aj,az,hn,decide_true,cond_true,aq,Iv,ev,Option.bind_some,av (n:=n) (by omega)];generalize s.getD n lf=e;cases hG e.1 0 20000 with
       |false=>rfl
       |true=>
        cases hG e.2.1 0 20000 with
        |false=>rfl
        |true=>
         cases af .gtr e.1 e.2.1 with
         |true=>rfl
         |false=>
          cases hG e.2.2.1 0 200 with
          |false=>rfl
          |true=>
           cases hG e.2.2.2.1 0 1000 with
           |false=>rfl
           |true=>cases hG e.2.2.2.2 0 1000 <;> rfl
      ·unfold Lx;simp only[aj,Nat.lt_irrefl,decide_false,cond_false]
     simp only[Bool.not_true,cond_false];rw[U3,U4];cases aB (rowAt g) 0 g.length with
     |false=>rfl
     |true=>cases aB (fun n=>On (s.getD n lf)) 0 s.length <;> rfl
theorem Mv(a0 a1:Int)(g:List (List Int))(s:List Mg):Ip a0 a1 g s=some (n3 a0 a1 g s,()):=by
 unfold Ip n3;simp only[qB,Option.bind_some];cases hG a0 0 20000 with
 |false=>rfl
 |true=>
  cases hG a1 0 1000 with
  |false=>rfl
  |true=>
   cases h6:af .gtr (ai s) 6 with
   |true=>rfl
   |false=>
    have hs6:s.length<=6:=by simp[af,ai]at h6;omega
    cases hn:af .neq (ai g) (aa .add .i64 (ai s) 1)with
    |true=>rfl
    |false=>
     have hg7:g.length=s.length+1:=by rw[bV (by unfold ai;omega) (by unfold ai;omega)]at hn;simp only[af,ai,bne_eq_false_iff_eq]at hn;omega
     have U3:L1 (a0,a1,g,s,()) ((0:Int),())=some (bif aB (rowAt g) 0 g.length then(Sum.inr (Sum.inl ()):Bool×Unit⊕(Unit⊕Empty))else Sum.inl (false,())):=by
      refine bp (fun n=>((n:Int),())) g.length (by omega) (rowAt g) _ _ (fun n hn=>?_) ?_
      ·unfold LY rowAt;simp only[aj,az,hn,decide_true,cond_true,aq,av (n:=n) (by omega)];cases hne:af .neq (ai (g.getD n gb)) (ai g)with
       |true=>rfl
       |false=>
        have hlen:=Vp hne;have hin:L2 (a0,a1,g,s,(n:Int),()) ((0:Int),())=some (bif aB (Q9 (g.getD n gb)) 0 g.length then(Sum.inr (Sum.inl ()):Bool×Unit⊕(Unit⊕Empty))else Sum.inl (false,())):=by
         refine bp (fun n=>((n:Int),())) g.length (by omega) (Q9 (g.getD n gb)) _ _ (fun m hm=>?_) ?_
         ·have hm':m<(g.getD n gb).length:=by rw[hlen];exact hm
          unfold LZ Q9;simp only[aj,az,hn,hm,aq,hm',decide_true,cond_true,qB,Option.bind_some,av (n:=m) (by omega)];cases hG ((g.getD n gb).getD m zI) 0 200 <;> rfl
         ·unfold LZ;simp only[aj,Nat.lt_irrefl,decide_false,cond_false]
        simp only[cond_false];rw[hin,hlen];cases aB (Q9 (g.getD n gb)) 0 g.length <;> rfl
      ·unfold LY;simp only[aj,Nat.lt_irrefl,decide_false,cond_false]
     have U4:L3 (a0,a1,g,s,()) ((0:Int),())=some (bif aB (fun n=>On (s.getD n lf)) 0 s.length then(Sum.inr (Sum.inl ()):Bool×Unit⊕(Unit⊕Empty))else Sum.inl (false,())):=by
      refine bp (fun n=>((n:Int),())) s.length (by omega) (fun n=>On (s.getD n lf)) _ _ (fun n hn=>?_) ?_
      ·unfold L0 On;simp only[aj,az,hn,decide_true,cond_true,aq,qB,Option.bind_some,av (n:=n) (by omega)];generalize s.getD n lf=e;have hse:hG e.2.1 0 20000=true->hG e.1 0 e.2.1=(hG e.1 0 20000 && !af .gtr e.1 e.2.1):=by intro hb;have hb:=e7.1 hb;rw[Bool.eq_iff_iff,Bool.and_eq_true,e7,e7];simp only[af,Bool.not_eq_true',decide_eq_false_iff_not];omega
       cases hb:hG e.2.1 0 20000 with
       |false=>cases hG e.1 0 20000 <;> rfl
       |true=>
        rw[hse hb];cases hG e.1 0 20000 with
        |false=>rfl
        |true=>
         cases af .gtr e.1 e.2.1 with
         |true=>rfl
         |false=>
          cases hG e.2.2.1 0 200 with
          |false=>rfl
          |true=>
           cases hG e.2.2.2.1 0 1000 with
           |false=>rfl
           |true=>cases hG e.2.2.2.2 0 1000 <;> rfl
      ·unfold L0;simp only[aj,Nat.lt_irrefl,decide_false,cond_false]
     simp only[Bool.not_true,cond_false];rw[U3,U4];cases aB (rowAt g) 0 g.length with
     |false=>rfl
     |true=>cases aB (fun n=>On (s.getD n lf)) 0 s.length <;> rfl
end Go.Fn
set_option linter.unusedSimpArgs false
namespace Go.Fn
open Go.R
theorem me{a0 a1:Int}{g:List (List Int)}{s:List Mg}(h:n3 a0 a1 g s=true):s.length<=6/\g.length=s.length+1/\(∀n,n<g.length->(g.getD n gb).length=g.length/\∀m,m<g.length->0<=(g.getD n gb).getD m zI/\(g.getD n gb).getD m zI<=200) /\
  (∀n,n<s.length->On (s.getD n lf)=true)/\(0<=a0/\a0<=20000)/\(0<=a1/\a1<=1000):=by
 unfold n3 at h;simp only[Bool.and_eq_true]at h;obtain⟨h1,h2,h3,h4,h5,h6⟩:=h;have hs6:s.length<=6:=by simp[af,ai]at h3;omega
 have hg:g.length=s.length+1:=by rw[bV (by unfold ai;omega) (by unfold ai;omega)]at h4;simp only[af,ai,Bool.not_eq_true',bne_eq_false_iff_eq]at h4;omega
 refine⟨hs6,hg,fun n hn=>?_,fun n hn=>(aQ _ _).1 h6 n (Nat.zero_le _) (by omega),e7.1 h1,e7.1 h2⟩;have:=(aQ _ _).1 h5 n (Nat.zero_le _) (by omega);unfold rowAt at this;cases hne:af .neq (ai (g.getD n gb)) (ai g)with
 |true=>rw[hne]at this;cases this
 |false=>rw[hne]at this;have hl:=Vp hne;refine⟨hl,fun m hm=>?_⟩;have:=(aQ _ _).1 this m (Nat.zero_le _) (by omega);exact e7.1 this
noncomputable def leg(g:List (List Int))(i j:Nat):Int:=(g.getD i gb).getD j zI
noncomputable def nat(l:List Int)(x:Int)(n:Nat):Bool:=!af .eql (l.getD n zI) x
noncomputable def Jq(l:List Int)(x:Int):Bool:=!aB (nat l x) 0 l.length
theorem Wj(a b:Int):af .eql a b=af .eql b a:=by simp only[af];rw[Bool.eq_iff_iff,beq_iff_eq,beq_iff_eq];exact eq_comm
theorem Q0(l:List Int)(x:Int)(hl:l.length<=1073741824):Lr l x=some (Jq l x,()):=by
 unfold Lr Jq;have e8:Nk (l,x,()) ((0:Int),())=some (bif aB (nat l x) 0 l.length then(Sum.inr (Sum.inl ()):Bool×Unit⊕(Unit⊕Empty))else Sum.inl (true,())):=by
  refine bp (fun n=>((n:Int),())) l.length (by omega) (nat l x) _ _ (fun n hn=>?_) ?_
  ·unfold Nj nat;simp only[aj,az,aq,hn,decide_true,cond_true,av (n:=n) (by omega)];cases af .eql (l.getD n zI) x <;> rfl
  ·unfold Nj;simp only[aj,Nat.lt_irrefl,decide_false,cond_false]
 rw[e8];cases aB (nat l x) 0 l.length <;> rfl
theorem Q5(l:List Int)(x:Int)(hl:l.length<=1073741824):gw l x=some (Jq l x,()):=by
 unfold gw rp Jq;obtain⟨y,h1,h2⟩:=fP (body:=iL (l,x,ai l,())) (fun n=>((n:Int),())) l.length (by omega) (nat l x) (Sum.inr (Sum.inl ())) (fun n=>Sum.inl ((n:Int),())) (fun n hn=>by
  unfold iL nat;simp only[aj,az,hn,decide_true,cond_true,aq,av (n:=n) (by omega),Wj x];cases af .eql (l.getD n zI) x <;> rfl) (by
  unfold iL;simp only[aj,Nat.lt_irrefl,decide_false,cond_false])
 have h1':m0 (l,x,ai l,()) ((0:Int),())=some y:=h1;rw[h1'];rcases h2 with ⟨e1,rfl⟩|⟨e1,n,hn,rfl,_⟩
 ·rw[e1];rfl
 ·rw[e1];show some (af .geq ((n:Nat):Int) 0,())=some (Bool.not false,());have:af .geq ((n:Nat):Int) 0=true:=by simp[af]
  rw[this];rfl
noncomputable def Pr(s:List Mg)(o:List Int)(n:Nat):Bool:=hG (o.getD n zI) 0 (aa .sub .i64 (ai s) 1) && !Jq (o.take n) (o.getD n zI)
noncomputable def ik(a0 a1:Int)(g:List (List Int))(s:List Mg)(o:List Int):Bool:=n3 a0 a1 g s&&aB (Pr s o) 0 o.length
theorem UL{α:Type}(l:List α)(n:Nat):eN l 0 (n:Int)=l.take n:=by simp[eN]
theorem SO{α:Type}{l:List α}{n:Nat}(h:n<=l.length):cP l 0 (n:Int)=true:=by unfold cP;simp only[Bool.and_eq_true,decide_eq_true_eq];omega
theorem kj{α:Type}{l:List α}{n m:Nat}(h:l.length<=m):(l.take n).length<=m:=by rw[List.length_take];omega
theorem TK(a0 a1:Int)(g:List (List Int))(s:List Mg)(o:List Int)(ho:o.length<=1073741824):Mx a0 a1 g s o=some (ik a0 a1 g s o,()):=by
 unfold Mx ik;rw[Mv];simp only[Option.bind_some];cases hr:n3 a0 a1 g s with
 |false=>rfl
 |true=>
  have lB:LX (o,a0,a1,g,s,()) ((0:Int),())=some (bif aB (Pr s o) 0 o.length then(Sum.inr (Sum.inl ()):Bool×Unit⊕(Unit⊕Empty))else Sum.inl (false,())):=by
   refine bp (fun n=>((n:Int),())) o.length (by omega) (Pr s o) _ _ (fun n hn=>?_) ?_
   ·unfold LW Pr;simp only[aj,az,aq,hn,decide_true,cond_true,qB,Option.bind_some,UL,SO (Nat.le_of_lt hn),Q0 _ _ (kj ho),av (n:=n) (by omega)];cases hG (o.getD n zI) 0 (aa .sub .i64 (ai s) 1)with
    |false=>rfl
    |true=>cases Jq (o.take n) (o.getD n zI) <;> rfl
   ·unfold LW;simp only[aj,Nat.lt_irrefl,decide_false,cond_false]
  simp only[Bool.not_true,cond_false,Bool.true_and];rw[lB];cases aB (Pr s o) 0 o.length <;> rfl
theorem TA(a0 a1:Int)(g:List (List Int))(s:List Mg)(o:List Int)(WM:∀r∈g,r.length<=1073741824)(ho:o.length<=1073741824):Mi a0 a1 g s o=some (ik a0 a1 g s o,()):=by
 unfold Mi ik;rw[OV a0 a1 g s WM];simp only[Option.bind_some];cases hr:n3 a0 a1 g s with
 |false=>rfl
 |true=>
  have lB:Lv (o,a0,a1,g,s,o,ai o,()) ((0:Int),())=some (bif aB (Pr s o) 0 o.length then(Sum.inr (Sum.inl ()):Bool×Unit⊕(Unit⊕Empty))else Sum.inl (false,())):=by
   refine bp (fun n=>((n:Int),())) o.length (by omega) (Pr s o) _ _ (fun n hn=>?_) ?_
   ·unfold Lu Pr;simp only[aj,az,aq,hn,decide_true,cond_true,ev,Option.bind_some,UL,SO (Nat.le_of_lt hn),Q5 _ _ (kj ho),av (n:=n) (by omega)];cases hG (o.getD n zI) 0 (aa .sub .i64 (ai s) 1)with
    |false=>rfl
    |true=>cases Jq (o.take n) (o.getD n zI) <;> rfl
   ·unfold Lu;simp only[aj,Nat.lt_irrefl,decide_false,cond_false]
  simp only[Bool.not_true,cond_false,Bool.true_and];rw[lB];cases aB (Pr s o) 0 o.length <;> rfl
end Go.Fn
set_option linter.unusedSimpArgs false
namespace Go.Fn
open Go.R
theorem Yb(a b c:Int):aa .sub .i64 (aa .add .i64 a b) c=aa .add .i64 a (aa .sub .i64 b c):=by show IntKind.i64.wrap (IntKind.i64.wrap (a+b)-c)=IntKind.i64.wrap (a+IntKind.i64.wrap (b-c));simp only[IntKind.wrap_i64];omega
theorem XR(a b c:Int):aa .add .i64 (aa .sub .i64 a b) c=aa .add .i64 a (aa .sub .i64 c b):=by show IntKind.i64.wrap (IntKind.i64.wrap (a-b)+c)=IntKind.i64.wrap (a+IntKind.i64.wrap (c-b));simp only[IntKind.wrap_i64];omega
abbrev TV:=Int×List Int×Int×Int×Int×Int
noncomputable def arr(g:List (List Int))(st:TV)(i:Int):Int:=aa .add .i64 st.2.2.1 (ae zI (ae gb g st.2.2.2.2.2) (aa .add .i64 i 1))
noncomputable def Uw(s:List Mg)(l i:Int):Int:=aa .add .i64 l (ae lf s i).2.2.2.1
noncomputable def next(g:List (List Int))(s:List Mg)(st:TV)(i:Int):TV:=
  (aa .add .i64 st.1 (aa .sub .i64 (ae lf s i).2.2.2.2 (ae lf s i).2.2.2.1),
   st.2.1 ++ [bI true (arr g st i) (ae lf s i).1],
   aa .add .i64 (bI true (arr g st i) (ae lf s i).1) (ae lf s i).2.2.1,
   bI true st.2.2.2.1 (aa .add .i64 st.1 (aa .sub .i64 (ae lf s i).2.2.2.2 (ae lf s i).2.2.2.1)),
   aa .add .i64 st.2.2.2.2.1 (aa .sub .i64 (bI true (arr g st i) (ae lf s i).1) (arr g st i)),
   aa .add .i64 i 1)
noncomputable def late(g:List (List Int))(s:List Mg)(st:TV)(i:Int):Bool:=af .gtr (arr g st i) (ae lf s i).2.1
noncomputable def Tl{Y:Type}(g:List (List Int))(s:List Mg)(f:TV->Y)(st:TV)(i:Int):TV⊕Y:=bif late g s st i then .inr (f st)else .inl (next g s st i)
noncomputable def Om(g:List (List Int))(s:List Mg):List Int->TV->TV⊕TV
 | [],st=>.inl st
 |i::o,st=>bif late g s st i then .inr st else Om g s o (next g s st i)
theorem TG{Y:Type}(g:List (List Int))(s:List Mg)(f fin:TV->Y):∀(o:List Int) (st:TV),gf (Tl g s f) fin o st=match Om g s o st with| .inl Tk=>fin Tk| .inr Tk=>f Tk
 | [],st=>rfl
 |i::o,st=>by
  simp only[gf,Om,Tl];cases late g s st i with
  |true=>rfl
  |false=>exact TG g s f fin o _
noncomputable def R8(s:List Mg)(o:List Int):Int:=o.foldl (Uw s) 0
noncomputable def start(a0:Int)(s:List Mg)(o:List Int):TV:=(R8 s o,[],a0,R8 s o,0,0)
noncomputable def home(g:List (List Int))(o:List Int)(st:TV):Int:=aa .add .i64 st.2.2.1 (aa .mul .i64 (ae zI (ae gb g st.2.2.2.2.2) 0) (bI false 1 (ai o)))
noncomputable def RY(a0 a1:Int)(g:List (List Int))(s:List Mg)(o:List Int):Option (List Int×Int×Int×Int):=
 bif ik a0 a1 g s o then
  match Om g s o (start a0 s o)with
  | .inr _=>none
  | .inl st=>bif af .gtr st.2.2.2.1 a1 then none else some (st.2.1,home g o st,st.2.2.2.1,st.2.2.2.2.1)
 else none
theorem vn{a0 a1:Int}{g:List (List Int)}{s:List Mg}{o:List Int}(h:ik a0 a1 g s o=true):n3 a0 a1 g s=true:=by unfold ik at h;rw[Bool.and_eq_true]at h;exact h.1
theorem O4{a0 a1:Int}{g:List (List Int)}{s:List Mg}{o:List Int}(h:ik a0 a1 g s o=true){n:Nat}(hn:n<o.length):0<=o.getD n zI/\o.getD n zI<(s.length:Int):=by have hr:=me (vn h);unfold ik at h;rw[Bool.and_eq_true]at h;have:=(aQ _ _).1 h.2 n (Nat.zero_le _) (by omega);unfold Pr at this;rw[Bool.and_eq_true,e7]at this;have e:aa .sub .i64 (ai s) 1=(s.length:Int)-1:=bO (by unfold ai;omega) (by unfold ai;omega);rw[e]at this;omega
structure TY (g:List (List Int)) (n:Nat) (st:TV):Prop where
 lo:0<=st.2.2.2.2.2
 hi:st.2.2.2.2.2<(g.length:Int)
 len:st.2.1.length=n
section
variable {a0 a1:Int} {g:List (List Int)} {s:List Mg} {o:List Int}
theorem Sp(h:ik a0 a1 g s o=true){n:Nat}(hn:n<o.length){st:TV}(hi:TY g n st)(ho:o.length<=1073741824):
  ah s (o.getD n zI)=true/\ah g st.2.2.2.2.2=true/\ah (ae gb g st.2.2.2.2.2) (aa .add .i64 (o.getD n zI) 1)=true/\ah (ae gb g st.2.2.2.2.2) 0=true /\
  (∀v:Int,aE (List.append st.2.1 (List.append [] [v]))=true)/\TY g (n+1) (next g s st (o.getD n zI)):=by
 obtain⟨h6,hg,hrow,_,_,_⟩:=me (vn h);obtain⟨i0,i1⟩:=O4 h hn;have hp:=hi.hi;have hp0:=hi.lo;have hr:=(hrow st.2.2.2.2.2.toNat (by omega)).1;have e1:aa .add .i64 (o.getD n zI) 1=o.getD n zI+1:=Pt i0 (by omega);have hrl:(ae gb g st.2.2.2.2.2).length=g.length:=hr;have hl:=hi.len;refine⟨xn i0 i1,xn hp0 hp,?_,xn (Int.le_refl 0) (by rw[hrl];omega),fun v=>kx (by show(st.2.1++([]++[v])).length<=_;simp;omega),?_,?_,?_⟩
 ·rw[e1];exact xn (by omega) (by rw[hrl];omega)
 ·show 0<=aa .add .i64 (o.getD n zI) 1;rw[e1];omega
 ·show aa .add .i64 (o.getD n zI) 1<_;rw[e1];omega
 ·show(st.2.1++[_]).length=n+1;simp[hl]
theorem PY(h:ik a0 a1 g s o=true):TY g 0 (start a0 s o):=by obtain⟨h6,hg,_,_,_,_⟩:=me (vn h);exact⟨Int.le_refl 0,by show(0:Int)<_;omega,rfl⟩
theorem Ws(h:ik a0 a1 g s o=true)(ho:o.length<=1073741824):OX (o,a0,a1,g,s,o,ai o,()) ([],0,0,0,0,0,())=some (Sum.inl ([],0,0,0,R8 s o,())):=by
 refine(cL (body:=Mk (o,a0,a1,g,s,o,ai o,())) o zI (by omega) (Uw s) (fun l n=>([],0,0,0,l,(n:Int),())) (fun _ _=>True) (fun l=>Sum.inl ([],0,0,0,l,())) (fun n l hn _=>⟨?_,trivial⟩) (fun l _=>?_) 0 trivial).1
 ·obtain⟨i0,i1⟩:=O4 h hn;unfold Mk Uw;simp only[aj,az,aq,hn,decide_true,cond_true,xn i0 i1,av (n:=n) (by omega)]
 ·unfold Mk;simp only[aj,Nat.lt_irrefl,decide_false,cond_false]
theorem WE(h:ik a0 a1 g s o=true)(ho:o.length<=1073741824):KU (o,a0,a1,g,s,()) ([],0,0,0,[],a0,0,0,0,0,())=some (Sum.inl ([],0,0,0,[],a0,0,0,R8 s o,())):=by
 refine(cL (body:=Is (o,a0,a1,g,s,())) o zI (by omega) (Uw s) (fun l n=>([],0,0,0,[],a0,0,0,l,(n:Int),())) (fun _ _=>True) (fun l=>Sum.inl ([],0,0,0,[],a0,0,0,l,())) (fun n l hn _=>⟨?_,trivial⟩) (fun l _=>?_) 0 trivial).1
 ·obtain⟨i0,i1⟩:=O4 h hn;unfold Is Uw;simp only[aj,az,aq,hn,decide_true,cond_true,xn i0 i1,av (n:=n) (by omega)]
 ·unfold Is;simp only[aj,Nat.lt_irrefl,decide_false,cond_false]
theorem W0(h:ik a0 a1 g s o=true)(ho:o.length<=1073741824):OY (o,a0,a1,g,s,o,ai o,()) ([],0,0,0,R8 s o,[],a0,R8 s o,0,0,0,()) =
  some (match Om g s o (start a0 s o)with| .inl st=>Sum.inr (Sum.inl ([],0,0,0,st.2.1,st.2.2.1,st.2.2.2.1,st.2.2.2.2.1,st.2.2.2.2.2,()))| .inr _=>Sum.inl ([],0,0,0,false,())):=by
 rw[<-TG g s (fun _=>Sum.inl ([],0,0,0,false,())) (fun st=>Sum.inr (Sum.inl ([],0,0,0,st.2.1,st.2.2.1,st.2.2.2.1,st.2.2.2.2.1,st.2.2.2.2.2,())))];refine gQ (body:=Ml (o,a0,a1,g,s,o,ai o,())) o zI (by omega) (fun st n=>([],0,0,0,st.1,st.2.1,st.2.2.1,st.2.2.2.1,st.2.2.2.2.1,st.2.2.2.2.2,(n:Int),())) _ _ (TY g) (fun n st hn hi=>?_) (fun st hi=>?_) (start a0 s o) (PY h)
 ·obtain⟨f1,f2,f3,_,f5,f6⟩:=Sp h hn hi ho;refine⟨?_,fun b hb=>?_⟩
  ·unfold Ml Tl;simp only[aj,az,aq,hn,decide_true,cond_true,f1,f2,f3,f5,aV,av (n:=n) (by omega)];show(bif late g s st (o.getD n zI)then _ else _)=_;cases late g s st (o.getD n zI) <;> rfl
  ·unfold Tl at hb;cases hl:late g s st (o.getD n zI)with
   |true=>rw[hl]at hb;cases hb
   |false=>rw[hl]at hb;injection hb with hb;subst hb;exact f6
 ·unfold Ml;simp only[aj,Nat.lt_irrefl,decide_false,cond_false]
theorem Xj(h:ik a0 a1 g s o=true)(ho:o.length<=1073741824):KV (o,a0,a1,g,s,()) ([],0,0,0,[],a0,R8 s o,0,R8 s o,0,0,()) =
  some (match Om g s o (start a0 s o)with| .inl st=>Sum.inr (Sum.inl ([],0,0,0,st.2.1,st.2.2.1,st.2.2.2.1,st.2.2.2.2.1,st.2.2.2.2.2,()))| .inr st=>Sum.inl (st.2.1,st.2.2.1,st.2.2.2.1,st.2.2.2.2.1,false,())):=by
 rw[<-TG g s (fun st=>Sum.inl (st.2.1,st.2.2.1,st.2.2.2.1,st.2.2.2.2.1,false,())) (fun st=>Sum.inr (Sum.inl ([],0,0,0,st.2.1,st.2.2.1,st.2.2.2.1,st.2.2.2.2.1,st.2.2.2.2.2,())))];refine gQ (body:=It (o,a0,a1,g,s,())) o zI (by omega) (fun st n=>([],0,0,0,st.2.1,st.2.2.1,st.2.2.2.1,st.2.2.2.2.1,st.1,st.2.2.2.2.2,(n:Int),())) _ _ (TY g) (fun n st hn hi=>?_) (fun st hi=>?_) (start a0 s o) (PY h)
 ·obtain⟨f1,f2,f3,_,f5,f6⟩:=Sp h hn hi ho;refine⟨?_,fun b hb=>?_⟩
  ·unfold It Tl;simp only[aj,az,aq,hn,decide_true,cond_true,f1,f2,f3,f5,aV,av (n:=n) (by omega),Yb,XR];show(bif late g s st (o.getD n zI)then _ else _)=_;cases late g s st (o.getD n zI) <;> rfl
  ·unfold Tl at hb;cases hl:late g s st (o.getD n zI)with
   |true=>rw[hl]at hb;cases hb
   |false=>rw[hl]at hb;injection hb with hb;subst hb;exact f6
 ·unfold It;simp only[aj,Nat.lt_irrefl,decide_false,cond_false]
theorem U2(h:ik a0 a1 g s o=true)(ho:o.length<=1073741824):∀(k n:Nat) (st Tk:TV),n+k=o.length->TY g n st->Om g s (o.drop n) st=.inl Tk->TY g o.length Tk
 |0,n,st,Tk,hk,hi,hg=>by
  have:n=o.length:=by omega
  subst this;rw[List.drop_length]at hg;injection hg with hg
  subst hg;exact hi
 |k+1,n,st,Tk,hk,hi,hg=>by
  have hn:n<o.length:=by omega
  rw[dA hn zI]at hg;simp only[Om]at hg;cases hl:late g s st (o.getD n zI)with
  |true=>rw[hl]at hg;cases hg
  |false=>rw[hl]at hg;exact U2 h ho k (n+1) _ Tk (by omega) (Sp h hn hi ho).2.2.2.2.2 hg
theorem Sz(h:ik a0 a1 g s o=true){st:TV}{n:Nat}(hi:TY g n st):ah g st.2.2.2.2.2=true/\ah (ae gb g st.2.2.2.2.2) 0=true/\0<=ae zI (ae gb g st.2.2.2.2.2) 0/\ae zI (ae gb g st.2.2.2.2.2) 0<=200:=by obtain⟨h6,hg,hrow,_,_,_⟩:=me (vn h);have hp:=hi.hi;have hp0:=hi.lo;obtain⟨hr,hv⟩:=hrow st.2.2.2.2.2.toNat (by omega);have hv:=hv 0 (by omega);exact⟨xn hp0 hp,xn (Int.le_refl 0) (by show(0:Int)<((g.getD st.2.2.2.2.2.toNat gb).length:Int);omega),hv.1,hv.2⟩
end
theorem Uv(a0 a1:Int)(g:List (List Int))(s:List Mg)(o:List Int)(WM:∀r∈g,r.length<=1073741824)(ho:o.length<=1073741824):
  PW a0 a1 g s o=some (match RY a0 a1 g s o with|some (b,e,p,w)=>(b,e,p,w,true,())|none=>([],0,0,0,false,())):=by
 unfold PW RY;rw[TA a0 a1 g s o WM ho];simp only[Option.bind_some];cases hk:ik a0 a1 g s o with
 |false=>rfl
 |true=>
  simp only[Bool.not_true,cond_false,cond_true];rw[Ws hk ho];simp only[Option.bind_some,Sum.elim_inl];rw[W0 hk ho];cases Ym:Om g s o (start a0 s o)with
  |inr st=>rfl
  |inl st=>have hi:=U2 hk ho o.length 0 _ st (by omega) (PY hk) (by rw[List.drop_zero];exact Ym);obtain⟨f1,f2,_,_⟩:=Sz hk hi;simp only[Option.bind_some,Sum.elim_inl,Sum.elim_inr,f1,f2,cond_true];cases af .gtr st.2.2.2.1 a1 <;> rfl
theorem Vl(a b:Int):af .leq a b=Bool.not (af .gtr a b):=by rw[WV,Bool.not_not]
theorem UK(a0 a1:Int)(g:List (List Int))(s:List Mg)(o:List Int)(ho:o.length<=1073741824):
  ∃y,K9 a0 a1 g s o=some y/\match RY a0 a1 g s o with|some (b,e,p,w)=>y=(b,e,p,w,true,())|none=>y.2.2.2.2.1=false:=by
 unfold K9 RY;rw[TK a0 a1 g s o ho];simp only[Option.bind_some];cases hk:ik a0 a1 g s o with
 |false=>exact⟨_,rfl,rfl⟩
 |true=>
  simp only[Bool.not_true,cond_false,cond_true];rw[WE hk ho];simp only[Option.bind_some,Sum.elim_inl];rw[Xj hk ho];cases Ym:Om g s o (start a0 s o)with
  |inr st=>exact⟨_,rfl,rfl⟩
  |inl st=>
   have hi:=U2 hk ho o.length 0 _ st (by omega) (PY hk) (by rw[List.drop_zero];exact Ym);obtain⟨f1,f2,f3,f4⟩:=Sz hk hi;obtain⟨_,_,_,_,ha0,_⟩:=me (vn hk);simp only[Option.bind_some,Sum.elim_inl,Sum.elim_inr,f1,f2,cond_true,Vl];have ZZ:home g o st=bif af .gtr (ai o) 0 then aa .add .i64 st.2.2.1 (ae zI (ae gb g st.2.2.2.2.2) 0)else st.2.2.1:=by
    unfold home;cases o with
    |nil=>
     have:st=start a0 s []:=by injection Ym with Ym;exact Ym.symm
     subst this;show aa .add .i64 a0 (aa .mul .i64 _ 0)=a0;have hm:∀x:Int,aa .mul .i64 x 0=0:=fun x=>by rw[jw] <;> simp
     rw[hm,bV (by omega) (by omega)];omega
    |cons i o=>
     have h1:bI false 1 (ai (i::o))=1:=by unfold bI ai;simp only[cond_false];rw[if_neg (by simp only[List.length_cons];omega)]
     have h2:af .gtr (ai (i::o)) 0=true:=by simp[af,ai]
     rw[h1,h2,jw (by omega) (by omega)];simp
   rw[ZZ];cases af .gtr (ai o) 0 <;> cases af .gtr st.2.2.2.1 a1 <;> exact⟨_,rfl,rfl⟩
end Go.Fn
set_option linter.unusedSimpArgs false
namespace Go.Fn
open Go.R
theorem Tv(a0 a1 a2 a3 a4 a5 a6 a7:Int):Mq a0 a1 a2 a3 a4 a5 a6 a7 a0 a1 a2 a3 a4 a5 a6 a7=some (true,()):=by unfold Mq;simp only[gm,cond_false]
abbrev Trm:=Int×Int×Int×Int×Int×Int×Int×Int
end Go.Fn
set_option linter.unusedSimpArgs false
namespace Go.Fn
open Go.R
theorem UT(a0 a1 a2 a3 a4 a5 a6 a7 a8 a9 a10 a11 a12:Int):Oj a0 a1 a2 a3 a4 a5 a6 a7 a8 a9 a10 a11 a12=some (a0,a1,a2,a3,a4,a5,a6,a7,a8,a9,a10,a11,a12,()):=rfl
theorem Uj(a0 a1 a2 a3 a4:Int):N4 a0 a1 a2 a3 a4 a0 a1 a2 a3 a4=some (true,()):=by unfold N4;simp only[gm,cond_false]
theorem S0(a0 a1 a2 a3 a4 a5 a6 a7 a8 a9 a10 a11 a12:Int):K1 a0 a1 a2 a3 a4 a5 a6 a7 a8 a9 a10 a11 a12 a0 a1 a2 a3 a4 a5 a6 a7 a8 a9 a10 a11 a12=some (true,()):=by unfold K1;simp only[gm,cond_false,Uj,Option.bind_some,Bool.not_true]
theorem WK(a0:Int)(a1:Int)(a2:Int)(a3:Bool):Qt a0 a1 a2 a3=some (a0,a1,a2,a3,()):=rfl
theorem VX(l:List (Int×Int×Int×Bool))(hl:l.length<=1073741824):Oa l=some (l,()):=by
 unfold Oa;rw[cC hl];have e8:JW (l,()) (List.replicate l.length (0,0,0,false),(0:Int),())=some (Sum.inl (l,())):=by
  have:=aR (body:=JV (l,())) (fun n=>(l.take n++List.replicate (l.length-n) (0,0,0,false),(n:Int),())) l.length (by omega) (Sum.inl (l,())) (fun n hn=>?_) ?_
  ·unfold JW;simpa using this
  ·unfold JV;have hx:n<(l.take n++List.replicate (l.length-n) ((0,0,0,false):Int×Int×Int×Bool)).length:=by rw[dD _ _ (Nat.le_of_lt hn)];exact hn
   simp only[aj,az,hn,hx,decide_true,cond_true,aq,WK,Option.bind_some,aV,av (n:=n) (by omega),aN];rw[<-dS l (0,0,0,false) hn,eX hn kW (0,0,0,false)]
  ·unfold JV;simp only[aj,Nat.lt_irrefl,decide_false,cond_false,Nat.sub_self,List.replicate_zero,List.append_nil,List.take_length]
 have hr:cW (ai l) (((0:Int),(0:Int),(0:Int),false))=List.replicate l.length (0,0,0,false):=dP _ _;rw[hr];simp only[cond_true];rw[e8];rfl
theorem UZ(a0:Int)(a1:Int)(a2:Int)(a3:Bool):O0 a0 a1 a2 a3 a0 a1 a2 a3=some (true,()):=by unfold O0;simp only[gm,PX,Bool.not_true,cond_false]
theorem Uh(l:List (Int×Int×Int×Bool))(hl:l.length<=1073741824):N2 l l=some (true,()):=by
 unfold N2;rw[gm];have e8:M5 (l,l,()) ((0:Int),())=some (Sum.inr (Sum.inl ())):=by
  refine aR (fun n=>((n:Int),())) l.length (by omega) _ (fun n hn=>?_) ?_
  ·unfold M4;simp only[aj,az,hn,decide_true,cond_true,UZ,Option.bind_some,av (n:=n) (by omega)];rfl
  ·unfold M4;simp only[aj,Nat.lt_irrefl,decide_false,cond_false]
 simp only[cond_false];rw[e8];rfl
theorem Tm(l:List (Int×Int×Int×Bool))(a:Int)(hl:l.length<=9223372036854775807)(ha:0<=a)(Q1:a<=1048576):N8 l a=some (bif decide (a<(l.length:Int))then -1 else a-(l.length:Int),()):=by
 unfold N8;have h1:aa .sub .i64 a (ai l)=a-(l.length:Int):=bO (by unfold ai;omega) (by unfold ai;omega);rw[h1];have h2:af .lss (a-(l.length:Int)) 0=decide (a<(l.length:Int)):=by simp only[af,decide_eq_decide];omega
 rw[h2];cases decide (a<(l.length:Int)) <;> rfl
theorem TT(l:List (Int×Int×Int×Int×Int×Int×Int×Int×Int×Int×Int×Int×Int))(hl:l.length<=1073741824):J2 l=some (l,()):=by
 unfold J2;rw[cC hl];have e8:yx (l,()) (List.replicate l.length (0,0,0,0,0,0,0,0,0,0,0,0,0),(0:Int),())=some (Sum.inl (l,())):=by
  have:=aR (body:=yt (l,())) (fun n=>(l.take n++List.replicate (l.length-n) (0,0,0,0,0,0,0,0,0,0,0,0,0),(n:Int),())) l.length (by omega) (Sum.inl (l,())) (fun n hn=>?_) ?_
  ·unfold yx;simpa using this
  ·unfold yt;have hx:n<(l.take n++List.replicate (l.length-n) ((0,0,0,0,0,0,0,0,0,0,0,0,0):Int×Int×Int×Int×Int×Int×Int×Int×Int×Int×Int×Int×Int)).length:=by rw[dD _ _ (Nat.le_of_lt hn)];exact hn
   simp only[aj,az,hn,hx,decide_true,cond_true,aq,UT,Option.bind_some,aV,av (n:=n) (by omega),aN];rw[<-dS l (0,0,0,0,0,0,0,0,0,0,0,0,0) hn,eX hn bf (0,0,0,0,0,0,0,0,0,0,0,0,0)]
  ·unfold yt;simp only[aj,Nat.lt_irrefl,decide_false,cond_false,Nat.sub_self,List.replicate_zero,List.append_nil,List.take_length]
 have hr:cW (ai l) (((0:Int),(0:Int),(0:Int),(0:Int),(0:Int),(0:Int),(0:Int),(0:Int),(0:Int),(0:Int),(0:Int),(0:Int),(0:Int)))=List.replicate l.length (0,0,0,0,0,0,0,0,0,0,0,0,0):=dP _ _;rw[hr];simp only[cond_true];rw[e8];rfl
theorem Sw(l:List (Int×Int×Int×Int×Int×Int×Int×Int×Int×Int×Int×Int×Int))(hl:l.length<=1073741824):JH l l=some (true,()):=by
 unfold JH;rw[gm];have e8:JJ (l,l,()) ((0:Int),())=some (Sum.inr (Sum.inl ())):=by
  refine aR (fun n=>((n:Int),())) l.length (by omega) _ (fun n hn=>?_) ?_
  ·unfold JI;simp only[aj,az,hn,decide_true,cond_true,S0,Option.bind_some,av (n:=n) (by omega)];rfl
  ·unfold JI;simp only[aj,Nat.lt_irrefl,decide_false,cond_false]
 simp only[cond_false];rw[e8];rfl
theorem TQ(l:List (Int×Int×Int×Int×Int×Int×Int×Int×Int×Int×Int×Int×Int))(a:Int)(hl:l.length<=9223372036854775807)(ha:0<=a)(Q1:a<=1048576):JT l a=some (bif decide (a<(l.length:Int))then -1 else a-(l.length:Int),()):=by
 unfold JT;have h1:aa .sub .i64 a (ai l)=a-(l.length:Int):=bO (by unfold ai;omega) (by unfold ai;omega);rw[h1];have h2:af .lss (a-(l.length:Int)) 0=decide (a<(l.length:Int)):=by simp only[af,decide_eq_decide];omega
 rw[h2];cases decide (a<(l.length:Int)) <;> rfl
theorem Vg(a0:Int)(a1:Int)(a2:Int)(a3:Int)(a4:Int)(a5:Int)(a6:Bool):O2 a0 a1 a2 a3 a4 a5 a6=some (a0,a1,a2,a3,a4,a5,a6,()):=rfl
theorem US(l:List (Int×Int×Int×Int×Int×Int×Bool))(hl:l.length<=1073741824):K4 l=some (l,()):=by
 unfold K4;rw[cC hl];have e8:Ik (l,()) (List.replicate l.length (0,0,0,0,0,0,false),(0:Int),())=some (Sum.inl (l,())):=by
  have:=aR (body:=Ij (l,())) (fun n=>(l.take n++List.replicate (l.length-n) (0,0,0,0,0,0,false),(n:Int),())) l.length (by omega) (Sum.inl (l,())) (fun n hn=>?_) ?_
  ·unfold Ik;simpa using this
  ·unfold Ij;have hx:n<(l.take n++List.replicate (l.length-n) ((0,0,0,0,0,0,false):Int×Int×Int×Int×Int×Int×Bool)).length:=by rw[dD _ _ (Nat.le_of_lt hn)];exact hn
   simp only[aj,az,hn,hx,decide_true,cond_true,aq,Vg,Option.bind_some,aV,av (n:=n) (by omega),aN];rw[<-dS l (0,0,0,0,0,0,false) hn,eX hn cn (0,0,0,0,0,0,false)]
  ·unfold Ij;simp only[aj,Nat.lt_irrefl,decide_false,cond_false,Nat.sub_self,List.replicate_zero,List.append_nil,List.take_length]
 have hr:cW (ai l) (((0:Int),(0:Int),(0:Int),(0:Int),(0:Int),(0:Int),false))=List.replicate l.length (0,0,0,0,0,0,false):=dP _ _;rw[hr];simp only[cond_true];rw[e8];rfl
theorem Ts(a0:Int)(a1:Int)(a2:Int)(a3:Int)(a4:Int)(a5:Int)(a6:Bool):Mn a0 a1 a2 a3 a4 a5 a6 a0 a1 a2 a3 a4 a5 a6=some (true,()):=by unfold Mn;simp only[gm,PX,Bool.not_true,cond_false]
theorem SZ(l:List (Int×Int×Int×Int×Int×Int×Bool))(hl:l.length<=1073741824):K0 l l=some (true,()):=by
 unfold K0;rw[gm];have e8:KB (l,l,()) ((0:Int),())=some (Sum.inr (Sum.inl ())):=by
  refine aR (fun n=>((n:Int),())) l.length (by omega) _ (fun n hn=>?_) ?_
  ·unfold KA;simp only[aj,az,hn,decide_true,cond_true,Ts,Option.bind_some,av (n:=n) (by omega)];rfl
  ·unfold KA;simp only[aj,Nat.lt_irrefl,decide_false,cond_false]
 simp only[cond_false];rw[e8];rfl
theorem UN(l:List (Int×Int×Int×Int×Int×Int×Bool))(a:Int)(hl:l.length<=9223372036854775807)(ha:0<=a)(Q1:a<=1048576):K3 l a=some (bif decide (a<(l.length:Int))then -1 else a-(l.length:Int),()):=by
 unfold K3;have h1:aa .sub .i64 a (ai l)=a-(l.length:Int):=bO (by unfold ai;omega) (by unfold ai;omega);rw[h1];have h2:af .lss (a-(l.length:Int)) 0=decide (a<(l.length:Int)):=by simp only[af,decide_eq_decide];omega
 rw[h2];cases decide (a<(l.length:Int)) <;> rfl
theorem Uf {α:Type} {body:List α×Int×Unit->Option ((List α×Int×Unit)⊕(List α×Unit⊕Empty))} (l:List α) (zr z:α) (hl:l.length<=1073741824)
  (h:∀(n:Nat) (acc:List α),n<l.length->acc.length=l.length->body (acc,(n:Int),())=some (.inl (acc.set n (l.getD n z),((n+1:Nat):Int),())))
  (hend:∀acc:List α,acc.length=l.length->body (acc,(l.length:Int),())=some (.inr (.inl (acc,())))):iter body big (List.replicate l.length zr,0,())=some (Sum.inl (l,())):=by
 have:=aR (body:=body) (fun n=>(l.take n++List.replicate (l.length-n) zr,(n:Int),())) l.length (by omega) (Sum.inl (l,())) (fun n hn=>?_) ?_
 ·simpa using this
 ·show body (l.take n++List.replicate (l.length-n) zr,(n:Int),())=_;rw[h n _ hn (dD _ _ (Nat.le_of_lt hn)),eX hn z zr,dS l zr hn]
 ·show body (l.take l.length++List.replicate (l.length-l.length) zr,(l.length:Int),())=_;rw[hend _ (dD _ _ (Nat.le_refl _))];simp
theorem UG {α:Type} {body:Int×Int×Unit->Option ((Int×Int×Unit)⊕(Int×Unit⊕(Int×Unit⊕Empty)))} (l:List α) (hl:l.length<=1073741824) (small:Nat->Prop)
  (h:∀(n:Nat) (a:Int),n<l.length->0<=a->a<=1048576->body (a,(n:Int),())=some (.inr (.inl (-1,())))\/∃b,body (a,(n:Int),())=some (.inl (b,((n+1:Nat):Int),()))/\0<=b/\b<=a/\small n)
  (hend:∀a,body (a,(l.length:Int),())=some (.inr (.inr (.inl (a,()))))) (a:Int) (ha:0<=a) (Q1:a<=1048576):
  ∃y,iter body big (a,0,())=some y/\(y=.inl (-1,())\/∃b,y=.inr (.inl (b,()))/\0<=b/\b<=a/\∀n,n<l.length->small n):=by
 have key:∀(k n:Nat) (a:Int),n+k=l.length->0<=a->a<=1048576->∃y,iter body (k+1) (a,(n:Int),())=some y/\(y=.inl (-1,())\/∃b,y=.inr (.inl (b,()))/\0<=b/\b<=a/\∀m,n<=m->m<l.length->small m):=by
  intro k;induction k with
  |zero=>
   intro n a hn h0 h1;have:n=l.length:=by omega
   subst this;exact⟨_,ay (hend a),.inr ⟨a,rfl,h0,Int.le_refl _,fun m h2 h3=>absurd h3 (by omega)⟩⟩
  |succ k ih=>
   intro n a hn h0 h1;rcases h n a (by omega) h0 h1 with h|⟨b,h,b0,b1,hs⟩
   ·exact⟨_,ay h,.inl rfl⟩
   ·obtain⟨y,q1,q2⟩:=ih (n+1) b (by omega) b0 (by omega);refine⟨y,by rw[aH h];exact q1,q2.imp id fun⟨c,c1,c2,c3,c4⟩=>⟨c,c1,c2,by omega,fun m h2 h3=>?_⟩⟩;rcases Nat.lt_or_ge n m with h4|h4
    ·exact c4 m (by omega) h3
    ·have:m=n:=by omega
     subst this;exact hs
 obtain⟨y,h1,h2⟩:=key l.length 0 a (by omega) ha Q1;exact⟨y,bF h1 (aT (by omega)),h2.imp id fun⟨b,b1,b2,b3,b4⟩=>⟨b,b1,b2,b3,fun n hn=>b4 n (Nat.zero_le _) hn⟩⟩
abbrev Bx:=Int×Int×Int×Bool
abbrev PT:=Int×List Int×List Bx
abbrev Site:=List MA×List MA×List PT×Int×Int×Bool×Bool×Bool×Int×Int×List Ev
noncomputable def Kl:PT:=b9
noncomputable def bn:Site:=aS
noncomputable def Q4(m:Nat)(c:PT):Prop:=c.2.1.length<=m/\c.2.2.length<=m
theorem UQ(a0:Int)(a1:List Int)(a2:List Bx)(h1:a1.length<=1073741824)(h2:a2.length<=1073741824):II a0 a1 a2=some (a0,a1,a2,()):=by unfold II;rw[To a1 h1];simp only[Option.bind_some];rw[VX a2 h2];rfl
theorem SY(a0:Int)(a1:List Int)(a2:List Bx)(h1:a1.length<=1073741824)(h2:a2.length<=1073741824):ID a0 a1 a2 a0 a1 a2=some (true,()):=by unfold ID;simp only[gm,cond_false,Py a1 h1,Option.bind_some,Bool.not_true,Uh a2 h2]
theorem UM(a0:Int)(a1:List Int)(a2:List Bx)(a:Int)(h1:a1.length<=9223372036854775807)(h2:a2.length<=9223372036854775807)(ha:0<=a)(Q1:a<=1048576):
  ∃b,n7 a0 a1 a2 a=some (b,())/\(b = -1\/(0<=b/\b<=a/\a1.length<=1073741824/\a2.length<=1073741824)):=by
 unfold n7;rw[R2 a1 a h1 ha Q1];simp only[Option.bind_some];cases hd:decide (a<(a1.length:Int))with
 |true=>exact⟨-1,rfl,.inl rfl⟩
 |false=>
  have hd:=of_decide_eq_false hd;simp only[cond_false];rw[kv (by omega)];simp only[cond_false];rw[Tm a2 _ h2 (by omega) (by omega)];simp only[Option.bind_some];cases mP:decide (a-(a1.length:Int)<(a2.length:Int))with
  |true=>exact⟨-1,rfl,.inl rfl⟩
  |false=>have mP:=of_decide_eq_false mP;simp only[cond_false];rw[kv (by omega)];exact⟨_,rfl,.inr ⟨by omega,by omega,by show _<=1073741824;omega,by show _<=1073741824;omega⟩⟩
theorem mo{α:Type}{l:List α}{n:Nat}(h:n<l.length)(z:α):l.getD n z∈l:=by rw[List.getD_eq_getElem?_getD,List.getElem?_eq_getElem h];exact List.getElem_mem h
theorem TR(l:List PT)(hl:l.length<=1073741824)(hc:∀n,n<l.length->Q4 1073741824 (l.getD n Kl)):JX l=some (l,()):=by
 unfold JX;rw[cC hl];have hr:cW (ai l) (((0:Int),([]:List Int),([]:List Bx)))=List.replicate l.length (0,[],[]):=dP _ _;rw[hr];have:=Uf (body:=ye (l,())) l (0,[],[]) Kl hl (fun n acc hn ha=>by
  obtain⟨c1,c2⟩:=hc n hn;unfold ye;simp only[aj,az,hn,ha,decide_true,cond_true,aq,aV,av (n:=n) (show n<1099511627776 by omega),aN];show((II (l.getD n Kl).1 (l.getD n Kl).2.1 (l.getD n Kl).2.2).bind _)=_;rw[UQ _ _ _ c1 c2];rfl) (fun acc _=>by
  unfold ye;simp only[aj,Nat.lt_irrefl,decide_false,cond_false])
 simp only[cond_true];unfold JY;rw[this];rfl
theorem St(l:List PT)(hl:l.length<=1073741824)(hc:∀n,n<l.length->Q4 1073741824 (l.getD n Kl)):JD l l=some (true,()):=by
 unfold JD;rw[gm];have e8:JF (l,l,()) ((0:Int),())=some (Sum.inr (Sum.inl ())):=by
  refine aR (fun n=>((n:Int),())) l.length (by show _<_;omega) _ (fun n hn=>?_) ?_
  ·obtain⟨c1,c2⟩:=hc n hn;unfold JE;simp only[aj,az,hn,decide_true,cond_true,aq,aV,av (n:=n) (show n<1099511627776 by omega)];show((ID (l.getD n Kl).1 (l.getD n Kl).2.1 (l.getD n Kl).2.2 (l.getD n Kl).1 (l.getD n Kl).2.1 (l.getD n Kl).2.2).bind _)=_;rw[SY _ _ _ c1 c2];rfl
  ·unfold JE;simp only[aj,Nat.lt_irrefl,decide_false,cond_false]
 simp only[cond_false];rw[e8];rfl
theorem TN(l:List PT)(a:Int)(hl:l.length<=9223372036854775807)(hw:∀c∈l,Q4 9223372036854775807 c)(ha:0<=a)(Q1:a<=1048576):
  ∃b,qS l a=some (b,())/\(b = -1\/(0<=b/\b<=a/\l.length<=1073741824/\∀n,n<l.length->Q4 1073741824 (l.getD n Kl))):=by
 unfold qS;have h1:aa .sub .i64 a (ai l)=a-(l.length:Int):=bO (by unfold ai;have:l.length<=9223372036854775807:=hl;omega) (by unfold ai;omega);have h2:af .lss (a-(l.length:Int)) 0=decide (a<(l.length:Int)):=by simp only[af,decide_eq_decide];omega
 rw[h1,h2];cases hd:decide (a<(l.length:Int))with
 |true=>exact⟨-1,rfl,.inl rfl⟩
 |false=>
  have hd:=of_decide_eq_false hd;have Tx:l.length<=1073741824:=by omega
  obtain⟨y,q1,q2⟩:=UG (body:=g3 (l,())) l Tx (fun n=>Q4 1073741824 (l.getD n Kl)) (fun n a hn h0 h1=>by
   obtain⟨c1,c2⟩:=hw _ (mo hn Kl);obtain⟨b,e1,e2⟩:=UM (l.getD n Kl).1 (l.getD n Kl).2.1 (l.getD n Kl).2.2 a c1 c2 h0 h1;have hb:g3 (l,()) (a,(n:Int),())=(bif af .lss b 0 then some (.inr (.inl (-1,())))else some (.inl (b,((n+1:Nat):Int),()))):=by unfold g3;simp only[aj,az,hn,decide_true,cond_true,aq,aV,av (n:=n) (show n<1099511627776 by omega)];show((n7 (l.getD n Kl).1 (l.getD n Kl).2.1 (l.getD n Kl).2.2 a).bind _)=_;rw[e1];rfl
   rw[hb];rcases e2 with rfl|⟨b0,b1,b2,b3⟩
   ·exact .inl rfl
   ·rw[kv b0];exact .inr ⟨b,rfl,b0,b1,b2,b3⟩) (fun a=>by
   unfold g3;simp only[aj,Nat.lt_irrefl,decide_false,cond_false]) (a-(l.length:Int)) (by omega) (by omega)
  simp only[cond_false];unfold xx;rw[q1];rcases q2 with rfl|⟨b,rfl,b1,b2,b3⟩
  ·exact⟨-1,rfl,.inl rfl⟩
  ·exact⟨b,rfl,.inr ⟨b1,by omega,Tx,b3⟩⟩
structure LV (m:Nat) (x:Site):Prop where
 o:x.1.length<=m
 c:x.2.1.length<=m
 b:x.2.2.1.length<=m
 bs:∀n,n<x.2.2.1.length->Q4 m (x.2.2.1.getD n Kl)
 j:x.2.2.2.2.2.2.2.2.2.2.length<=m
theorem VY(a0 a1:Int)(a2 a3 a4:Bool):PC a0 a1 a2 a3 a4=some (a0,a1,a2,a3,a4,()):=rfl
theorem Ui(a0 a1:Int)(a2 a3 a4:Bool):N3 a0 a1 a2 a3 a4 a0 a1 a2 a3 a4=some (true,()):=by unfold N3;simp only[gm,PX,Bool.not_true,cond_false]
theorem VZ(x:Site)(h:LV 1073741824 x):Ll x.1 x.2.1 x.2.2.1 x.2.2.2.1 x.2.2.2.2.1 x.2.2.2.2.2.1 x.2.2.2.2.2.2.1 x.2.2.2.2.2.2.2.1 x.2.2.2.2.2.2.2.2.1 x.2.2.2.2.2.2.2.2.2.1 x.2.2.2.2.2.2.2.2.2.2 =
  some (x.1,x.2.1,x.2.2.1,x.2.2.2.1,x.2.2.2.2.1,x.2.2.2.2.2.1,x.2.2.2.2.2.2.1,x.2.2.2.2.2.2.2.1,x.2.2.2.2.2.2.2.2.1,x.2.2.2.2.2.2.2.2.2.1,x.2.2.2.2.2.2.2.2.2.2,()):=by
 unfold Ll;simp only[V1 _ _ h.o h.c,TR _ h.b h.bs,VY,UR _ h.j,Option.bind_some]
theorem Uk(x:Site)(h:LV 1073741824 x):N5 x.1 x.2.1 x.2.2.1 x.2.2.2.1 x.2.2.2.2.1 x.2.2.2.2.2.1 x.2.2.2.2.2.2.1 x.2.2.2.2.2.2.2.1 x.2.2.2.2.2.2.2.2.1 x.2.2.2.2.2.2.2.2.2.1 x.2.2.2.2.2.2.2.2.2.2 x.1 x.2.1 x.2.2.1 x.2.2.2.1 x.2.2.2.2.1 x.2.2.2.2.2.1 x.2.2.2.2.2.2.1 x.2.2.2.2.2.2.2.1 x.2.2.2.2.2.2.2.2.1 x.2.2.2.2.2.2.2.2.2.1 x.2.2.2.2.2.2.2.2.2.2=some (true,()):=by unfold N5;simp only[Um _ _ h.o h.c,St _ h.b h.bs,Ui,Su _ h.j,Option.bind_some,gm,Bool.not_true,cond_false]
structure SL (x:Site):Prop where
 o:x.1.length<=9223372036854775807
 c:x.2.1.length<=9223372036854775807
 b:x.2.2.1.length<=9223372036854775807
 bs:∀y∈x.2.2.1,Q4 9223372036854775807 y
 j:x.2.2.2.2.2.2.2.2.2.2.length<=9223372036854775807
theorem VW(x:Site)(a:Int)(h:SL x)(ha:0<=a)(Q1:a<=1048576):
  ∃b,Jk x.1 x.2.1 x.2.2.1 x.2.2.2.1 x.2.2.2.2.1 x.2.2.2.2.2.1 x.2.2.2.2.2.2.1 x.2.2.2.2.2.2.2.1 x.2.2.2.2.2.2.2.2.1 x.2.2.2.2.2.2.2.2.2.1 x.2.2.2.2.2.2.2.2.2.2 a=some (b,())/\(b = -1\/(0<=b/\b<=a/\LV 1073741824 x)):=by
 unfold Jk;rw[Tn _ _ a h.o h.c ha Q1];simp only[Option.bind_some];cases hd:decide (a<(x.1.length:Int)+(x.2.1.length:Int))with
 |true=>exact⟨-1,rfl,.inl rfl⟩
 |false=>
  have hd:=of_decide_eq_false hd;simp only[cond_false];rw[kv (by omega)];simp only[cond_false];obtain⟨b,e1,e2⟩:=TN x.2.2.1 (a-(x.1.length:Int)-(x.2.1.length:Int)) h.b h.bs (by omega) (by omega);rw[e1];simp only[Option.bind_some];rcases e2 with rfl|⟨b0,b1,b2,b3⟩
  ·exact⟨-1,rfl,.inl rfl⟩
  ·rw[kv b0];simp only[cond_false];rw[SP _ b h.j b0 (by omega)];simp only[Option.bind_some];cases mP:decide (b<(x.2.2.2.2.2.2.2.2.2.2.length:Int))with
   |true=>exact⟨-1,rfl,.inl rfl⟩
   |false=>have mP:=of_decide_eq_false mP;simp only[cond_false];rw[kv (by omega)];exact⟨_,rfl,.inr ⟨by omega,by omega,⟨by show _<=1073741824;omega,by show _<=1073741824;omega,b2,b3,by show _<=1073741824;omega⟩⟩⟩
theorem Vi(l:List Site)(hl:l.length<=1073741824)(hc:∀n,n<l.length->LV 1073741824 (l.getD n bn)):Mt l=some (l,()):=by
 unfold Mt;rw[cC hl];have hr:cW (ai l) ((([]:List MA),([]:List MA),([]:List PT),(0:Int),(0:Int),false,false,false,(0:Int),(0:Int),([]:List Ev)):Site)=List.replicate l.length ([],[],[],0,0,false,false,false,0,0,[]):=dP _ _;rw[hr];have:=Uf (body:=IX (l,())) l ([],[],[],0,0,false,false,false,0,0,[]) bn hl (fun n acc hn ha=>by
  have hs:=VZ (l.getD n bn) (hc n hn);unfold IX;simp only[aj,az,hn,ha,decide_true,cond_true,aq,aV,av (n:=n) (show n<1099511627776 by omega),aN];show((Ll (l.getD n bn).1 (l.getD n bn).2.1 (l.getD n bn).2.2.1 (l.getD n bn).2.2.2.1 (l.getD n bn).2.2.2.2.1 (l.getD n bn).2.2.2.2.2.1 (l.getD n bn).2.2.2.2.2.2.1 (l.getD n bn).2.2.2.2.2.2.2.1 (l.getD n bn).2.2.2.2.2.2.2.2.1 (l.getD n bn).2.2.2.2.2.2.2.2.2.1 (l.getD n bn).2.2.2.2.2.2.2.2.2.2).bind _)=_;rw[hs];rfl) (fun acc _=>by
  unfold IX;simp only[aj,Nat.lt_irrefl,decide_false,cond_false])
 simp only[cond_true];unfold LS;rw[this];rfl
theorem Tu(l:List Site)(hl:l.length<=1073741824)(hc:∀n,n<l.length->LV 1073741824 (l.getD n bn)):Mp l l=some (true,()):=by
 unfold Mp;rw[gm];have e8:LO (l,l,()) ((0:Int),())=some (Sum.inr (Sum.inl ())):=by
  refine aR (fun n=>((n:Int),())) l.length (by show _<_;omega) _ (fun n hn=>?_) ?_
  ·have hs:=Uk (l.getD n bn) (hc n hn);unfold LN;simp only[aj,az,hn,decide_true,cond_true,aq,aV,av (n:=n) (show n<1099511627776 by omega)];have hs':=congrArg (fun q=>q.bind fun(y0:Bool×Unit)=>(bif (Bool.not y0.1)then some (Sum.inr (Sum.inl (false,())))else some (Sum.inl (((n+1:Nat):Int),())):Option ((Int×Unit)⊕(Bool×Unit⊕(Unit⊕Empty))))) hs;exact hs'
  ·unfold LN;simp only[aj,Nat.lt_irrefl,decide_false,cond_false]
 simp only[cond_false];rw[e8];rfl
theorem Vc(l:List Site)(a:Int)(hl:l.length<=9223372036854775807)(hw:∀c∈l,SL c)(ha:0<=a)(Q1:a<=1048576):
  ∃b,nw l a=some (b,())/\(b = -1\/(0<=b/\b<=a/\l.length<=1073741824/\∀n,n<l.length->LV 1073741824 (l.getD n bn))):=by
 unfold nw;have h1:aa .sub .i64 a (ai l)=a-(l.length:Int):=bO (by unfold ai;have:l.length<=9223372036854775807:=hl;omega) (by unfold ai;omega);have h2:af .lss (a-(l.length:Int)) 0=decide (a<(l.length:Int)):=by simp only[af,decide_eq_decide];omega
 rw[h1,h2];cases hd:decide (a<(l.length:Int))with
 |true=>exact⟨-1,rfl,.inl rfl⟩
 |false=>
  have hd:=of_decide_eq_false hd;have Tx:l.length<=1073741824:=by omega
  obtain⟨y,q1,q2⟩:=UG (body:=g5 (l,())) l Tx (fun n=>LV 1073741824 (l.getD n bn)) (fun n a hn h0 h1=>by
   obtain⟨b,e1,e2⟩:=VW (l.getD n bn) a (hw _ (mo hn bn)) h0 h1;have hb:g5 (l,()) (a,(n:Int),())=(bif af .lss b 0 then some (.inr (.inl (-1,())))else some (.inl (b,((n+1:Nat):Int),()))):=by unfold g5;simp only[aj,az,hn,decide_true,cond_true,aq,aV,av (n:=n) (show n<1099511627776 by omega)];have hs':=congrArg (fun q=>q.bind fun(y0:Int×Unit)=>(bif (af .lss y0.1 (0:Int))then some (.inr (.inl ((-1:Int),())))else some (.inl (y0.1,((n+1:Nat):Int),())):Option ((Int×Int×Unit)⊕(Int×Unit⊕(Int×Unit⊕Empty))))) e1;exact hs'
   rw[hb];rcases e2 with rfl|⟨b0,b1,b2⟩
   ·exact .inl rfl
   ·rw[kv b0];exact .inr ⟨b,rfl,b0,b1,b2⟩) (fun a=>by
   unfold g5;simp only[aj,Nat.lt_irrefl,decide_false,cond_false]) (a-(l.length:Int)) (by omega) (by omega)
  simp only[cond_false];unfold IU;rw[q1];rcases q2 with rfl|⟨b,rfl,b1,b2,b3⟩
  ·exact⟨-1,rfl,.inl rfl⟩
  ·exact⟨b,rfl,.inr ⟨b1,by omega,Tx,b3⟩⟩
end Go.Fn
set_option linter.unusedSimpArgs false
namespace Go.Fn
open Go.R
abbrev Si:=Int×Int×Int×Int×Int×Int×Int×Int×Int×Int×Int×Int×Int
abbrev SX:=Int×Int×Int×Int×Int×Int×Bool
structure Wz (s:List Site) (p:List Si) (g:List SX) (j:List Ev):Prop where
 ls:s.length<=9223372036854775807
 ss:∀x∈s,SL x
 lp:p.length<=9223372036854775807
 lg:g.length<=9223372036854775807
 lj:j.length<=9223372036854775807
structure RE (s:List Site) (p:List Si) (g:List SX) (j:List Ev):Prop where
 ls:s.length<=1048576
 ss:∀n,n<s.length->LV 1073741824 (s.getD n bn)
 lp:p.length<=1048576
 lg:g.length<=1048576
 lj:j.length<=1048576
theorem UO(s:List Site)(a b:Int)(hs:s.length<=9223372036854775807)(ha:0<=a)(Q1:a<=1048576)(h:nw s a=some (b,()))(hb:0<=b):s.length<=1048576:=by
 unfold nw at h;have h1:aa .sub .i64 a (ai s)=a-(s.length:Int):=bO (by unfold ai;omega) (by unfold ai;omega);have h2:af .lss (a-(s.length:Int)) 0=decide (a<(s.length:Int)):=by simp only[af,decide_eq_decide];omega
 rw[h1,h2]at h;cases hd:decide (a<(s.length:Int))with
 |true=>rw[hd]at h;simp only[cond_true,Option.some.injEq,Prod.mk.injEq]at h;omega
 |false=>have hd:=of_decide_eq_false hd;omega
section
variable (a0 a1 a2 a3 a4 a5 a6 a7 a8 a9 a10:Int) (s:List Site) (p:List Si) (g:List SX) (j:List Ev)
theorem TS(h:RE s p g j):J1 a0 a1 a2 a3 a4 a5 a6 a7 a8 a9 a10 s p g j=some (a0,a1,a2,a3,a4,a5,a6,a7,a8,a9,a10,s,p,g,j,()):=by have h1:=h.ls;have h2:=h.lp;have h3:=h.lg;have h4:=h.lj;unfold J1;simp only[Vj,Vi s (by omega) h.ss,TT p (by omega),US g (by omega),UR j (by omega),Option.bind_some]
theorem Sv(h:RE s p g j):JG a0 a1 a2 a3 a4 a5 a6 a7 a8 a9 a10 s p g j a0 a1 a2 a3 a4 a5 a6 a7 a8 a9 a10 s p g j=some (true,()):=by have h1:=h.ls;have h2:=h.lp;have h3:=h.lg;have h4:=h.lj;unfold JG;simp only[Tv,gm,Tu s (by omega) h.ss,Sw p (by omega),SZ g (by omega),Su j (by omega),Option.bind_some,Bool.not_true,cond_false]
theorem TP(a:Int)(h:Wz s p g j)(ha:0<=a)(Q1:a<=1048576):
  ∃b,qW a0 a1 a2 a3 a4 a5 a6 a7 a8 a9 a10 s p g j a=some (b,())/\(b = -1\/(0<=b/\b<=a/\RE s p g j)):=by
 unfold qW;obtain⟨b,e1,e2⟩:=Vc s a h.ls h.ss ha Q1;rw[e1];simp only[Option.bind_some];rcases e2 with rfl|⟨b0,b1,b2,b3⟩
 ·exact⟨-1,rfl,.inl rfl⟩
 ·rw[kv b0];simp only[cond_false];rw[TQ p b h.lp b0 (by omega)];simp only[Option.bind_some];cases hd:decide (b<(p.length:Int))with
  |true=>exact⟨-1,rfl,.inl rfl⟩
  |false=>
   have hd:=of_decide_eq_false hd;simp only[cond_false];rw[kv (by omega)];simp only[cond_false];rw[UN g _ h.lg (by omega) (by omega)];simp only[Option.bind_some];cases mP:decide (b-(p.length:Int)<(g.length:Int))with
   |true=>exact⟨-1,rfl,.inl rfl⟩
   |false=>
    have mP:=of_decide_eq_false mP;simp only[cond_false];rw[kv (by omega)];simp only[cond_false];rw[SP j _ h.lj (by omega) (by omega)];simp only[Option.bind_some];cases hd3:decide (b-(p.length:Int)-(g.length:Int)<(j.length:Int))with
    |true=>exact⟨-1,rfl,.inl rfl⟩
    |false=>have hd3:=of_decide_eq_false hd3;simp only[cond_false];rw[kv (by omega)];refine⟨_,rfl,.inr ⟨by omega,by omega,⟨?_,b3,by omega,by omega,by omega⟩⟩⟩;exact UO s a b h.ls ha Q1 e1 b0
theorem VQ(n:Int):∃y,IL a0 a1 a2 a3 a4 a5 a6 a7 a8 a9 a10 s p g j n=some (y,())/\IC a0 a1 a2 a3 a4 a5 a6 a7 a8 a9 a10 s p g j n=some (y,()):=by
 unfold IL IC m7 kk;simp only[qB,ev,Option.bind_some];have hz:ax (2147483646:Int)=false:=rfl;cases hG a9 1 2147483646 with
 |false=>exact⟨_,rfl,rfl⟩
 |true=>
  cases hG n 1 12 with
  |false=>exact⟨_,rfl,rfl⟩
  |true=>simp only[hz];exact⟨_,rfl,rfl⟩
end
end Go.Fn
namespace Go.R
def Yl{α:Type}(x:Option α)(P:α->Prop):Prop:=∃a,x=some a/\P a
section
variable {α β:Type} {P:α->Prop} {Q:β->Prop}
theorem Yl.ret{a:α}(h:P a):Yl (some a) P:=⟨a,rfl,h⟩
theorem Yl.bind{x:Option α}{f:α->Option β}(hx:Yl x P)(hf:∀a,P a->Yl (f a) Q):Yl (x.bind f) Q:=by obtain⟨a,rfl,ha⟩:=hx;exact hf a ha
theorem Yl.mono{P':α->Prop}{x:Option α}(hx:Yl x P)(h:∀a,P a->P' a):Yl x P':=by obtain⟨a,e,ha⟩:=hx;exact⟨a,e,h a ha⟩
theorem Yl.cond{b:Bool}{x y:Option α}(hx:b=true->Yl x P)(hy:b=false->Yl y P):Yl (bif b then x else y) P:=by
 cases b
 ·exact hy rfl
 ·exact hx rfl
theorem Yl.guard{b:Bool}{x:Option α}(hb:b=true)(hx:Yl x P):Yl (bif b then x else none) P:=by subst hb;exact hx
theorem Yl.lets{γ:Type}{v:γ}{k:γ->Option α}(h:Yl (k v) P):Yl (lets v k) P:=h
end
theorem kx{α:Type}{l:List α}(h:l.length<=1073741824):aE l=true:=by unfold aE limit;exact decide_eq_true (by omega)
open Go.Fn
end Go.R
set_option linter.unusedSimpArgs false
set_option linter.unusedVariables false
namespace Go.Fn
open Go.R Go.Sort
section
variable {α:Type} [Inhabited α] {lt:α->α->Bool}
theorem one:(1:Int)=((1:Nat):Int):=rfl
end
end Go.Fn
set_option linter.unusedSimpArgs false
set_option linter.unusedVariables false
namespace Go.Fn
open Go.R Go.Sort
section
variable {α:Type} [Inhabited α] {lt:α->α->Bool}
abbrev Yq(α:Type):=Option (((List α)×Int×Int×Int×Bool×Bool×Unit)⊕((List α)×Unit⊕Empty))
noncomputable def Next(lt:α->α->Bool)(q:Yq α)(d:Array α)(a b:Nat):Prop:=
 (∃R,q=some (.inr (.inl (R.toList,())))/\PermIn a b d R/\SortedIn lt a b R) \/
 (∃(E:Array α) (a' b':Nat) (L:Int) (wb wp:Bool),q=some (.inl (E.toList,(a':Int),(b':Int),L,wb,wp,()))/\E.size=d.size/\a'<=b'/\b'<=b/\b'-a'<b-a/\Below lt a' b' E/\∀R,PermIn a' b' E R->SortedIn lt a' b' R->PermIn a b d R/\SortedIn lt a b R)
theorem Next.mono{q:Yq α}{d D:Array α}{a b:Nat}(h:Next lt q D a b)(p:PermIn a b d D):Next lt q d a b:=by
 rcases h with ⟨R,h1,h2,h3⟩|⟨E,a',b',L,wb,wp,h1,h2,h3,h4,h5,h6,h7⟩
 ·exact .inl ⟨R,h1,permIn_trans _ _ _ a b p h2,h3⟩
 ·refine .inr ⟨E,a',b',L,wb,wp,h1,by rw[h2,p.1],h3,h4,h5,h6,fun R hR hs=>?_⟩;obtain⟨k1,k2⟩:=h7 R hR hs;exact⟨permIn_trans _ _ _ a b p k1,k2⟩
end
end Go.Fn
set_option linter.unusedSimpArgs false
set_option linter.unusedVariables false
namespace Go.Fn
open Go.R Go.Sort
noncomputable def W7(x y:Ev):Bool:=decide (x.1<y.1)||(decide (x.1=y.1)&&decide (x.2.1<y.2.1))
end Go.Fn
set_option linter.unusedSimpArgs false
set_option linter.unusedVariables false
namespace Go.Fn
open Go.R Go.Sort
theorem Sk{x y:Ev}:W7 x y=true↔x.1<y.1\/(x.1=y.1/\x.2.1<y.2.1):=by unfold W7;simp
theorem X7{x y z:Ev}(h1:W7 x y=true)(h2:W7 y z=true):W7 x z=true:=by rw[Sk]at *;omega
abbrev Yd(l:List Ev):Prop:=l.Pairwise fun x y=>W7 x y=true
theorem Vu:∀(l:List Ev),(∀n,n+1<l.length->W7 (l.getD n e5) (l.getD (n+1) e5)=true)->Yd l
 | [],_=>List.Pairwise.nil
 | [x],_=>List.pairwise_singleton _ _
 |x::y::l,h=>by
  have ih:=Vu (y::l) (fun n hn=>h (n+1) (by simpa using hn));have hxy:W7 x y=true:=h 0 (by simp);refine List.Pairwise.cons (fun z hz=>?_) ih;rcases List.mem_cons.1 hz with rfl|hz
  ·exact hxy
  ·exact X7 hxy ((List.pairwise_cons.1 ih).1 z hz)
theorem W3{l:List Ev}(h:VI l=true):Yd l:=by refine Vu l fun n hn=>?_;have:=X6 h hn;simp only[OR,Bool.and_eq_true,Vq,Bool.not_eq_true',Bool.or_eq_false_iff,Bool.and_eq_false_iff,decide_eq_false_iff_not]at this;rw[Sk];omega
end Go.Fn
set_option linter.unusedSimpArgs false
set_option linter.unusedVariables false
namespace Go.Fn
open Go.R Go.Sort
theorem iE{R:Type}(x:Option R):both x x=x:=by unfold both;simp
end Go.Fn
set_option linter.unusedSimpArgs false
set_option linter.unusedVariables false
namespace Go.Fn
open Go.R Go.Sort
noncomputable def Ub(node:Int)(s:Int×Int×Nat×Nat)(x:Ev):Int×Int×Nat×Nat:=((bif decide (x.1=node)then x.2.1+1 else s.1),max s.2.1 (x.2.2.1+1),(bif decide (x.1<=node)then s.2.2.2+1 else s.2.2.1),s.2.2.2+1)
noncomputable def Tp(l:List Ev)(node:Int):Int×Int×Nat×Nat:=l.foldl (Ub node) (1,1,0,0)
noncomputable def Z4(l:List Ev)(node kind J5 a b:Int):Ev:=(node,(Tp l node).1,(Tp l node).2.1,kind,J5,a,b)
noncomputable def SW(l:List Ev)(node kind J5 a b:Int):List Ev:=l.take (Tp l node).2.2.1++[Z4 l node kind J5 a b]++l.drop (Tp l node).2.2.1
noncomputable def XA(l:List Ev)(node kind J5 a b:Int):List Ev×Bool:=bif VI l then bif VI (SW l node kind J5 a b)then(SW l node kind J5 a b,true)else(l,false)else(l,false)
structure Wc (node:Int) (p:List Ev) (s:Int×Int×Nat×Nat):Prop where
 c:s.2.2.2=p.length
 Zr:s.2.2.1<=p.length
 s1:∀x,x∈p->x.1=node->x.2.1<s.1
 s2:s.1=1\/∃x,x∈p/\x.1=node/\s.1=x.2.1+1
 p1:∀x,x∈p->x.2.2.1<s.2.1
 p2:s.2.1=1\/∃x,x∈p/\s.2.1=x.2.2.1+1
 a1:∀x,x∈p.take s.2.2.1->x.1<=node
 a2:∀x,x∈p.drop s.2.2.1->node<x.1
theorem Vy{node:Int}{p:List Ev}{s:Int×Int×Nat×Nat}{x:Ev}(h:Wc node p s)(hp:Yd (p++[x])):Wc node (p++[x]) (Ub node s x):=by
 have hlt:∀y,y∈p->W7 y x=true:=fun y hy=>(List.pairwise_append.1 hp).2.2 y hy x (List.mem_singleton.2 rfl);obtain⟨h1,h2,h3,h4,h5,h6,h7,h8⟩:=h;unfold Ub;refine⟨by simp[h1],?_,fun y hy hn=>?_,?_,fun y hy=>?_,?_,?_,?_⟩
 ·cases decide (x.1<=node) <;> simp <;> omega
 ·simp only[];rcases List.mem_append.1 hy with hy|hy
  ·by_cases hx:x.1=node
   ·rw[decide_eq_true hx];have:=hlt y hy;rw[Sk]at this;simp only[cond_true];omega
   ·rw[decide_eq_false hx];exact h3 y hy hn
  ·rw[List.mem_singleton]at hy;subst hy;rw[decide_eq_true hn];simp only[cond_true];omega
 ·simp only[];by_cases hx:x.1=node
  ·rw[decide_eq_true hx];exact .inr ⟨x,by simp,hx,rfl⟩
  ·rw[decide_eq_false hx];rcases h4 with h4|⟨y,hy,h4⟩
   ·exact .inl h4
   ·exact .inr ⟨y,List.mem_append_left _ hy,h4⟩
 ·simp only[];rcases List.mem_append.1 hy with hy|hy
  ·have:=h5 y hy;omega
  ·rw[List.mem_singleton]at hy;subst hy;omega
 ·simp only[];by_cases hm:s.2.1<=x.2.2.1+1
  ·exact .inr ⟨x,by simp,by omega⟩
  ·rcases h6 with h6|⟨y,hy,h6⟩
   ·exact .inl (by omega)
   ·exact .inr ⟨y,List.mem_append_left _ hy,by omega⟩
 ·simp only[];by_cases hx:x.1<=node
  ·rw[decide_eq_true hx];intro y hy;rw[cond_true,h1,List.take_of_length_le (by simp)]at hy;rcases List.mem_append.1 hy with hy|hy
   ·have:=hlt y hy;rw[Sk]at this;omega
   ·rw[List.mem_singleton]at hy;subst hy;exact hx
  ·rw[decide_eq_false hx];intro y hy;rw[cond_false,List.take_append_of_le_length h2]at hy;exact h7 y hy
 ·simp only[];by_cases hx:x.1<=node
  ·rw[decide_eq_true hx];intro y hy;rw[cond_true,h1,List.drop_of_length_le (by simp)]at hy;exact absurd hy List.not_mem_nil
  ·rw[decide_eq_false hx];intro y hy;rw[cond_false,List.drop_append_of_le_length h2]at hy;rcases List.mem_append.1 hy with hy|hy
   ·exact h8 y hy
   ·rw[List.mem_singleton]at hy;subst hy;omega
theorem TZ(node:Int):∀(l p:List Ev) (s:Int×Int×Nat×Nat),Yd (p++l)->Wc node p s->Wc node (p++l) (l.foldl (Ub node) s)
 | [],p,s,_,h=>by simpa using h
 |x::l,p,s,hp,h=>by
  have e:p++x::l=(p++[x])++l:=by simp
  rw[e]at hp⊢;exact TZ node l (p++[x]) (Ub node s x) hp (Vy h (List.pairwise_append.1 hp).1)
theorem Ua(node:Int){l:List Ev}(h:Yd l):Wc node l (Tp l node):=by have:=TZ node l [] (1,1,0,0) (by simpa using h) ⟨rfl,Nat.le_refl _,fun x hx=>absurd hx List.not_mem_nil,.inl rfl,fun x hx=>absurd hx List.not_mem_nil,.inl rfl,fun x hx=>absurd (List.mem_of_mem_take hx) List.not_mem_nil,fun x hx=>absurd (List.mem_of_mem_drop hx) List.not_mem_nil⟩;exact this
theorem MD{l:List Ev}{node kind J5 a b:Int}(z:Ev):z∈SW l node kind J5 a b↔z=Z4 l node kind J5 a b\/z∈l:=by
 unfold SW;rw[List.mem_append,List.mem_append,List.mem_singleton];constructor
 ·rintro((h|h)|h)
  ·exact .inr (List.mem_of_mem_take h)
  ·exact .inl h
  ·exact .inr (List.mem_of_mem_drop h)
 ·rintro(h|h)
  ·exact .inl (.inr h)
  ·rw[<-List.take_append_drop (Tp l node).2.2.1 l,List.mem_append]at h;rcases h with h|h
   ·exact .inl (.inl h)
   ·exact .inr h
theorem V3{l:List Ev}(h:Yd l)(node kind J5 a b:Int):(SW l node kind J5 a b).length=l.length+1:=by have:=(Ua node h).Zr;unfold SW;simp only[List.length_append,List.length_take,List.length_drop,List.length_singleton];omega
end Go.Fn
set_option linter.unusedSimpArgs false
set_option linter.unusedVariables false
namespace Go.Fn
open Go.R Go.Sort
structure Vv (n:Nat) (base:List Ev) (S:Int->Prop) (l:List Ev):Prop where
 j:VI l=true
 len:l.length<=n
 st:∀x,x∈l->x.2.2.1<=(n:Int)
 gap:∀x,x∈l->∀s:Int,1<=s->s<=x.2.1->∃y,y∈l/\y.1=x.1/\y.2.1=s
 sub:∀x,x∈base->x∈l
 new:∀x,x∈l->x∈base\/S x.1
theorem Vv.mono{n m:Nat}{base:List Ev}{S:Int->Prop}{l:List Ev}(h:Vv n base S l)(hm:n<=m):Vv m base S l:=⟨h.j,by have:=h.len;omega,fun x hx=>by have:=h.st x hx;omega,h.gap,h.sub,h.new⟩
theorem Vv.add{n:Nat}{base:List Ev}{S:Int->Prop}{l:List Ev}(h:Vv n base S l){node:Int}(hS:S node)(kind J5 a b:Int):Vv (n+1) base S (XA l node kind J5 a b).1:=by
 unfold XA;rw[h.j];simp only[cond_true];cases hw:VI (SW l node kind J5 a b)with
 |false=>exact h.mono (Nat.le_succ _)
 |true=>
  have hs:=W3 h.j;have hi:=Ua node hs;simp only[cond_true];refine⟨hw,by rw[V3 hs];have:=h.len;omega,fun x hx=>?_,fun x hx s h1 h2=>?_,fun x hx=>(MD x).2 (.inr (h.sub x hx)),fun x hx=>?_⟩
  ·rcases(MD x).1 hx with e|e
   ·rw[e];show(Tp l node).2.1<=_;rcases hi.p2 with p|⟨y,hy,p⟩
    ·rw[p];omega
    ·rw[p];have:=h.st y hy;omega
   ·have:=h.st x e;omega
  ·rcases(MD x).1 hx with e|e
   ·subst e;have h2:s<=(Tp l node).1:=h2;by_cases e:s=(Tp l node).1
    ·exact⟨_,hx,rfl,e.symm⟩
    ·rcases hi.s2 with p|⟨y,hy,q,p⟩
     ·omega
     ·obtain⟨z,hz,e1,e2⟩:=h.gap y hy s h1 (by omega);exact⟨z,(MD z).2 (.inr hz),by rw[e1,q];rfl,e2⟩
   ·obtain⟨z,hz,e1,e2⟩:=h.gap x e s h1 h2;exact⟨z,(MD z).2 (.inr hz),e1,e2⟩
  ·rcases(MD x).1 hx with e|e
   ·rw[e];exact .inr hS
   ·exact h.new x e
end Go.Fn
set_option linter.unusedSimpArgs false
set_option linter.unusedVariables false
namespace Go.Fn
open Go.R Go.Sort
noncomputable def Z7(l:List Ev)(x:Int):Int:=(l.getD x.toNat e5).2.2.1
end Go.Fn
set_option linter.unusedSimpArgs false
set_option linter.unusedVariables false
namespace Go.Fn
open Go.R
theorem Pz{l:List Int}{x:Int}:Jq l x=true↔x∈l:=by
 unfold Jq;rw[Bool.not_eq_true',<-Bool.not_eq_true,aQ];constructor
 ·intro h;refine Decidable.byContradiction fun hn=>h fun m _ hm=>?_;unfold nat;rw[Bool.not_eq_true',<-Bool.not_eq_true];intro he;have he:l.getD m zI=x:=XW he;exact hn (he▸mo (by omega) zI)
 ·intro h hall;obtain⟨m,hm,rfl⟩:=List.getElem_of_mem h;have:=hall m (Nat.zero_le _) (by omega);unfold nat at this;rw[List.getD_eq_getElem?_getD,List.getElem?_eq_getElem hm]at this;simp[af]at this
theorem UD{a0 a1:Int}{g:List (List Int)}{s:List Mg}{o:List Int}:ik a0 a1 g s o = true ↔ n3 a0 a1 g s = true /\ (∀x, x ∈ o -> 0 <= x /\ x<(s.length:Int)) /\ o.Pairwise (· ≠ ·):=by
  constructor
  · intro h
    refine⟨vn h, fun x hx=>?_, ?_⟩
    · obtain⟨m, hm, rfl⟩:=List.getElem_of_mem hx
      have:=O4 h hm;rwa[List.getD_eq_getElem?_getD, List.getElem?_eq_getElem hm]at this
    · unfold ik at h
      rw[Bool.and_eq_true]at h;rw[List.pairwise_iff_getElem];intro i j hi hj hij he;have:=(aQ _ _).1 h.2 j (Nat.zero_le _) (by omega);unfold Pr at this;rw[Bool.and_eq_true, Bool.not_eq_true', <- Bool.not_eq_true, Pz]at this;refine this.2 ?_;rw[List.getD_eq_getElem?_getD, List.getElem?_eq_getElem hj];show o[j] ∈ o.take j;rw[<- he];exact List.mem_take_iff_getElem.2 ⟨i, by omega, rfl⟩
  · intro ⟨h1, h2, h3⟩
    have hr:=me h1;unfold ik;rw[Bool.and_eq_true];refine⟨h1, (aQ _ _).2 fun m _ hm=>?_⟩;have hm:m<o.length:=by omega
    have e:aa .sub .i64 (ai s) 1 = (s.length:Int)-1:=bO (by unfold ai; omega) (by unfold ai; omega);have hx:=h2 _ (mo hm zI);unfold Pr;rw[Bool.and_eq_true, e7, e, Bool.not_eq_true', <- Bool.not_eq_true, Pz];refine⟨by omega, fun hmem=>?_⟩;obtain⟨i, hi, he⟩:=List.mem_take_iff_getElem.1 hmem;rw[List.getD_eq_getElem?_getD, List.getElem?_eq_getElem hm]at he;exact List.pairwise_iff_getElem.1 h3 i m (by omega) hm (by omega) he
section
variable {a0 a1:Int} {g:List (List Int)} {s:List Mg}
noncomputable def lg(g:List (List Int))(p q:Int):Int:=leg g p.toNat q.toNat
end
end Go.Fn
set_option linter.unusedVariables false
namespace Go.Fn
open Go.R
noncomputable def JM(a:Unit)(b:u0×Ls):Option (u0×Ls⊕Xy⊕Empty):=letI c:=b.2.2.1;cond (af .lss c (ai b.1)) (cond (ah b.1 c) ((vm (ae gb b.1 c) b.2.1).bind fun d=>some (.inl (aC b.1 c d.2.1,d.1,aa .add .i64 c 1,()))) none) (some (.inr (.inl (b.1,b.2.1,()))))
noncomputable def JN k x:=iter (JM k) big x
noncomputable def JL(a:u0)(b:Int):Option (Int×Xw):=(JN () (a,b,0,())).bind fun c=>Sum.elim (fun d=>some (d.2.1,d.1,())) (fun d=>Empty.elim d) c
end Go.Fn
set_option linter.unusedVariables false
set_option linter.unusedSimpArgs false
namespace Go.Fn
open Go.R
noncomputable def b8{α:Type}(mk:Int->α->α×Int):List α->Int->List α×Int
 | [],k=>([],k)
 |x::xs,k=>((mk k x).1::(b8 mk xs (mk k x).2).1,(b8 mk xs (mk k x).2).2)
theorem Up{α:Type}(mk:Int->α->α×Int)(y:α):∀(l:List α) (k:Int),b8 mk (l++[y]) k=((b8 mk l k).1++[(mk (b8 mk l k).2 y).1],(mk (b8 mk l k).2 y).2)
 | [],k=>rfl
 |x::xs,k=>by simp only[List.cons_append,b8,Up mk y xs]
theorem Sj{α:Type}(mk:Int->α->α×Int):∀(l:List α) (k:Int),(b8 mk l k).1.length=l.length
 | [],k=>rfl
 |x::xs,k=>by simp only[b8,List.length_cons,Sj mk xs]
noncomputable def ii{α:Type}(cost:α->Nat):List α->Nat
 | []=>0
 |x::xs=>cost x+ii cost xs
theorem Ta{α:Type}(cost:α->Nat):∀(l l':List α),ii cost (l++l')=ii cost l+ii cost l'
 | [],_=>by simp[ii]
 |x::xs,l'=>by simp only[List.cons_append,ii,Ta cost xs];omega
theorem sL{α:Type}(c:Nat):∀l:List α,ii (fun _=>c) l=c*l.length
 | []=>rfl
 |x::xs=>by simp only[ii,sL c xs,List.length_cons,Nat.mul_succ];omega
theorem UY{α:Type}(cost:α->Nat)(l:List α)(n:Nat):ii cost (l.take n)<=ii cost l:=by have:=Ta cost (l.take n) (l.drop n);rw[List.take_append_drop]at this;omega
theorem Oi{α:Type}{mk:Int->α->α×Int}{cost:α->Nat}(hm:∀k x,k<=(mk k x).2/\(mk k x).2<=k+cost x):∀(l:List α) (k:Int),k<=(b8 mk l k).2/\(b8 mk l k).2<=k+ii cost l
 | [],k=>by simp[b8,ii]
 |x::xs,k=>by have h1:=hm k x;have h2:=Oi hm xs (mk k x).2;simp only[b8,ii];omega
theorem M8 {α:Type} {body:List α×Int×Int×Unit->Option ((List α×Int×Int×Unit)⊕(List α×Int×Unit⊕Empty))} {mk:Int->α->α×Int} {cost:α->Nat} (z:α) (l:List α) (k0:Int) (hl:l.length<=1073741824) (h0:0<=k0)
  (hm:∀k x,k<=(mk k x).2/\(mk k x).2<=k+cost x)
  (hs:∀(L:List α) (k:Int) (n:Nat),n<L.length->L.length=l.length->L.getD n z=l.getD n z->0<=k->k<=k0+ii cost l->body (L,k,(n:Int),())=some (.inl (L.set n (mk k (l.getD n z)).1,(mk k (l.getD n z)).2,((n+1:Nat):Int),())))
  (he:∀(L:List α) (k:Int),body (L,k,(L.length:Int),())=some (.inr (.inl (L,k,())))):iter body big (l,k0,0,())=some (.inl ((b8 mk l k0).1,(b8 mk l k0).2,())):=by
 have hst:∀n,n<=l.length->((b8 mk (l.take n) k0).1++l.drop n).length=l.length:=by intro n hn;rw[List.length_append,Sj,List.length_take,List.length_drop];omega
 have:=aR (body:=body) (fun n=>((b8 mk (l.take n) k0).1++l.drop n,(b8 mk (l.take n) k0).2,(n:Int),())) l.length (by omega) (.inl ((b8 mk l k0).1,(b8 mk l k0).2,())) (fun n hn=>?_) ?_
 ·simpa[b8] using this
 ·have hb:=Oi hm (l.take n) k0;have hc:=UY cost l n;have hgl:(b8 mk (l.take n) k0).1.length=n:=by rw[Sj,List.length_take];omega
  have om:((b8 mk (l.take n) k0).1++l.drop n).getD n z=l.getD n z:=by rw[List.getD_eq_getElem?_getD,List.getElem?_append_right (by omega),hgl,Nat.sub_self,List.getElem?_drop,Nat.add_zero,<-List.getD_eq_getElem?_getD]
  rw[hs _ _ n (by rw[hst n (Nat.le_of_lt hn)];exact hn) (hst n (Nat.le_of_lt hn)) om (by omega) (by omega)];have jS:l.take (n+1)=l.take n++[l.getD n z]:=by rw[List.take_add_one,List.getElem?_eq_getElem hn,List.getD_eq_getElem?_getD,List.getElem?_eq_getElem hn];rfl
  rw[jS,Up];congr 3;rw[List.set_append,if_neg (by omega),hgl,Nat.sub_self,List.drop_eq_getElem_cons hn,List.set_cons_zero,List.append_assoc];rfl
 ·have hlen:((b8 mk l k0).1).length=l.length:=Sj _ _ _;have:=he (b8 mk l k0).1 (b8 mk l k0).2;rw[hlen]at this;simp only[List.take_length,List.drop_length,List.append_nil];exact this
noncomputable def Uz(k:Int)(x:List Int):List Int×Int:=(KF k x.length,k+(x.length:Int))
theorem TE(l:List (List Int))(k:Int)(hl:l.length<=1073741824)(hr:∀r∈l,r.length<=1073741824)(h0:0<=k)(h1:k+ii List.length l<=1125899906842624):JL l k=some ((b8 Uz l k).2,(b8 Uz l k).1,()):=by
 unfold JL;have:JN () (l,k,0,())=some (.inl ((b8 Uz l k).1,(b8 Uz l k).2,())):=by
  refine M8 (cost:=List.length) gb l k hl h0 (fun k x=>⟨by show k<=k+(x.length:Int);omega,Int.le_refl _⟩) (fun L k' n hn hL hg lA cQ=>?_) (fun L k'=>?_)
  ·have hlt:n<l.length:=by omega
   have hrow:(l.getD n gb).length<=1073741824:=hr _ (by rw[List.getD_eq_getElem?_getD,List.getElem?_eq_getElem hlt];exact List.getElem_mem hlt);unfold JM;simp only[aj,az,hn,decide_true,cond_true,aq,hg,PN (l.getD n gb) k' hrow lA (by omega),Option.bind_some,aN,av (n:=n) (by omega)];rfl
  ·unfold JM;simp only[aj,Nat.lt_irrefl,decide_false,cond_false]
 rw[this];rfl
theorem UX{l:List (List Int)}{b:Nat}(h:∀r∈l,r.length<=b):ii List.length l<=l.length*b:=by
 induction l with
 |nil=>simp[ii]
 |cons x xs ih=>have h1:=h x (by simp);have h2:=ih fun r hr=>h r (by simp[hr]);simp only[ii,List.length_cons,Nat.succ_mul];omega
end Go.Fn
set_option linter.unusedVariables false
namespace Go.Fn
open Go.R
noncomputable def g8(a:gg):Option Vx:=cond (af .gtr (ai a) 0) (cond (aE (List.append (α:=Int) ([]:gg) a)) (some (List.append (α:=Int) ([]:gg) a,())) none) (both (some (([]:gg),())) (cond (aE (List.append (α:=Int) ([]:gg) a)) (some (List.append (α:=Int) ([]:gg) a,())) none))
end Go.Fn
set_option linter.unusedVariables false
namespace Go.Fn
open Go.R
noncomputable def g6(a:gg×Xz)(b:Cp):Zo:=cond (af .lss b.1 a.2.2.2.1) (cond (ah a.2.2.1 b.1) (cond (af .geq b.1 (ai a.2.1)) (some (.inr (.inl (1,())))) (cond (ah a.2.1 b.1) ((DM (ae zI a.2.2.1 b.1) (ae zI a.2.1 b.1)).bind fun c=>cond (af .neq c.1 0) (some (.inr (.inl (c.1,())))) (some (.inl (aa .add .i64 b.1 1,())))) none)) none) (some (.inr (.inr (.inl ()))))
noncomputable def g7 k x:=iter (g6 k) big x
noncomputable def jn(a b:gg):R4:=(g7 (a,b,a,ai a,()) (0,())).bind fun c=>Sum.elim (fun d=>some (d.1,())) (fun d=>Sum.elim (fun _=>cond (af .lss (ai a) (ai b)) (some (-1,())) (some (0,()))) (fun e=>Empty.elim e) d) c
noncomputable def IP(a:gg)(b c:Int)(d:u0)(e:Jo)(f:Bool)(g:gg)(h:Int):Option (Bool×V4):=(PW b c d e a).bind fun i=>letI j:=some (f,g,h,());letI k:=(g8 a).bind fun k=>some (true,k.1,i.2.1,());cond i.2.2.2.2.1 (cond (Bool.not f) k (cond (af .gtr (ai a) (ai g)) k (cond (af .eql (ai a) (ai g)) (cond (af .lss i.2.1 h) k (cond (af .eql i.2.1 h) ((jn a g).bind fun l=>cond (af .lss l.1 0) k j) j)) j))) j
noncomputable def i4(rec:Int->(List (Int))->Int->Int->(List (List (Int)))->(List (Int×Int×Int×Int×Int))->Bool->(List (Int))->Int->Option (Bool×(List (Int))×Int×Unit))(k:Int×(List (Int))×Unit)(x:Int×Int×(List (List (Int)))×(List (Int×Int×Int×Int×Int))×Bool×(List (Int))×Int×Int×Unit):Option ((Int×Int×(List (List (Int)))×(List (Int×Int×Int×Int×Int))×Bool×(List (Int))×Int×Int×Unit)⊕(Int×Int×(List (List (Int)))×(List (Int×Int×Int×Int×Int))×Bool×(List (Int))×Int×Unit⊕Empty)):=(bif (af .lss x.2.2.2.2.2.2.2.1 k.1)then((gw k.2.1 x.2.2.2.2.2.2.2.1).bind fun y0=>(bif (Bool.not y0.1)then((g8 k.2.1).bind fun y1=>(bif (aE (List.append (α:=Int) y1.1 (List.append (α:=Int) ([]:List (Int)) [x.2.2.2.2.2.2.2.1])))then((rec k.1 (List.append (α:=Int) y1.1 (List.append (α:=Int) ([]:List (Int)) [x.2.2.2.2.2.2.2.1])) x.1 x.2.1 x.2.2.1 x.2.2.2.1 x.2.2.2.2.1 x.2.2.2.2.2.1 x.2.2.2.2.2.2.1).bind fun y2=>some (.inl (x.1,x.2.1,x.2.2.1,x.2.2.2.1,y2.1,y2.2.1,y2.2.2.1,(aa .add .i64 x.2.2.2.2.2.2.2.1 (1:Int)),())))else none))else some (.inl (x.1,x.2.1,x.2.2.1,x.2.2.2.1,x.2.2.2.2.1,x.2.2.2.2.2.1,x.2.2.2.2.2.2.1,(aa .add .i64 x.2.2.2.2.2.2.2.1 (1:Int)),()))))else some (.inr (.inl (x.1,x.2.1,x.2.2.1,x.2.2.2.1,x.2.2.2.2.1,x.2.2.2.2.2.1,x.2.2.2.2.2.2.1,()))))
noncomputable def jj(rec:Int->(List (Int))->Int->Int->(List (List (Int)))->(List (Int×Int×Int×Int×Int))->Bool->(List (Int))->Int->Option (Bool×(List (Int))×Int×Unit))(k:Int×(List (Int))×Unit)(x:Int×Int×(List (List (Int)))×(List (Int×Int×Int×Int×Int))×Bool×(List (Int))×Int×Int×Unit):Option (Int×Int×(List (List (Int)))×(List (Int×Int×Int×Int×Int))×Bool×(List (Int))×Int×Unit⊕Empty):=iter (i4 rec k) big x
noncomputable def gA(rec:Int->(List (Int))->Int->Int->(List (List (Int)))->(List (Int×Int×Int×Int×Int))->Bool->(List (Int))->Int->Option (Bool×(List (Int))×Int×Unit))(a0:Int)(a1:(List (Int)))(a2:Int)(a3:Int)(a4:(List (List (Int))))(a5:(List (Int×Int×Int×Int×Int)))(a6:Bool)(a7:(List (Int)))(a8:Int):Option (Bool×(List (Int))×Int×Unit):=((IP a1 a2 a3 a4 a5 a6 a7 a8).bind fun y0=>((jj rec (a0,a1,()) (a2,a3,a4,a5,y0.1,y0.2.1,y0.2.2.1,(0:Int),())).bind fun q1=>(Sum.elim (fun y2=>some (y2.2.2.2.2.1,y2.2.2.2.2.2.1,y2.2.2.2.2.2.2.1,())) (fun q3=>(Empty.elim q3)) q1)))
noncomputable def er:Nat->Int->(List (Int))->Int->Int->(List (List (Int)))->(List (Int×Int×Int×Int×Int))->Bool->(List (Int))->Int->Option (Bool×(List (Int))×Int×Unit)|0=>fun _ _ _ _ _ _ _ _ _=>none|n+1=>gA (er n)
noncomputable def g4(a:Int)(b:gg)(c d:Int)(e:u0)(f:Jo)(g:Bool)(h:gg)(i:Int):Option (Bool×V4):=er big a b c d e f g h i
noncomputable def KX(a b:Int)(c:u0)(d:Jo):YbP:=(H7 a b c d).bind fun e=>cond (Bool.not e.1) (some (([]:gg),0,false,())) ((g4 (ai d) ([]:gg) a b c d false ([]:gg) 0).bind fun f=>some (f.2.1,f.2.2.1,f.1,()))
end Go.Fn
set_option linter.unusedVariables false
set_option linter.unusedSimpArgs false
namespace Go.Fn
open Go.R
noncomputable def TW(n:Nat):Nat->List Int->Nat->List (List Int)
 |0,_,_=>[]
 |d+1,p,i=>bif Jq p (i:Int)then []else(p++[(i:Int)])::(List.range n).flatMap (TW n d (p++[(i:Int)]))
noncomputable def tree(n d:Nat)(p:List Int):List (List Int):=p::(List.range n).flatMap (TW n d p)
theorem OZ{n d:Nat}{p:List Int}{i:Nat}(h:Jq p (i:Int)=true):TW n d p i=[]:=by cases d <;> simp[TW,h]
theorem Qs{n d:Nat}{p:List Int}{i:Nat}(h:Jq p (i:Int)=false):TW n (d+1) p i=tree n d (p++[(i:Int)]):=by simp[TW,h,tree]
noncomputable def free(n:Nat)(p:List Int):Nat:=((List.range n).filter fun i:Nat=>Bool.not (Jq p (i:Int))).length
theorem filter_lt{α:Type}{q q':α->Bool}(h:∀x,q' x=true->q x=true):∀l:List α,(l.filter q').length<=(l.filter q).length/\((∃x,x∈l/\q x=true/\q' x=false)->(l.filter q').length<(l.filter q).length)
 | []=>⟨Nat.le_refl _,fun⟨x,hx,_⟩=>absurd hx List.not_mem_nil⟩
 |y::ys=>by
  obtain⟨h1,h2⟩:=filter_lt h ys;cases lR:q' y with
  |true=>
   have hq:=h y lR;simp only[List.filter_cons,hq,lR,if_true,List.length_cons];refine⟨by omega,fun⟨x,hx,a,b⟩=>?_⟩;rcases List.mem_cons.1 hx with rfl|hx
   ·rw[lR]at b;cases b
   ·have:=h2 ⟨x,hx,a,b⟩;omega
  |false=>
   cases hq:q y with
   |true=>simp only[List.filter_cons,hq,lR,if_true,List.length_cons,Bool.false_eq_true,if_false];exact⟨by omega,fun _=>by omega⟩
   |false=>
    simp only[List.filter_cons,hq,lR,Bool.false_eq_true,if_false];refine⟨h1,fun⟨x,hx,a,b⟩=>?_⟩;rcases List.mem_cons.1 hx with rfl|hx
    ·rw[hq]at a;cases a
    ·exact h2 ⟨x,hx,a,b⟩
theorem Tw{n:Nat}{p:List Int}{i:Nat}(hi:i<n)(h:Jq p (i:Int)=false):free n (p++[(i:Int)])<free n p:=by
 refine(filter_lt (fun x hx=>?_) _).2 ⟨i,List.mem_range.2 hi,by rw[h];rfl,?_⟩
 ·rw[Bool.not_eq_true']at hx⊢;cases hh:Jq p (x:Int)with
  |false=>rfl
  |true=>have:Jq (p++[(i:Int)]) (x:Int)=true:=Pz.2 (List.mem_append_left _ (Pz.1 hh));rw[this]at hx;cases hx
 ·have:Jq (p++[(i:Int)]) (i:Int)=true:=Pz.2 (List.mem_append_right _ (by simp));rw[this];rfl
theorem Te{n:Nat}{p:List Int}(h:free n p<=0){i:Nat}(hi:i<n):Jq p (i:Int)=true:=by
 cases hh:Jq p (i:Int)with
 |true=>rfl
 |false=>have:=Tw hi hh;omega
theorem Uo(n:Nat):free n []<=n:=by unfold free;have:=List.length_filter_le (fun i:Nat=>Bool.not (Jq [] (i:Int))) (List.range n);rw[List.length_range]at this;exact this
theorem NW{β:Type}(f:Nat->List β)(i:Nat):(List.range (i+1)).flatMap f=(List.range i).flatMap f++f i:=by rw[List.range_succ,List.flatMap_append];simp
theorem U1{β:Type}{f:Nat->List β}{b:Nat}(h:∀i,(f i).length<=b):∀i,((List.range i).flatMap f).length<=i*b
 |0=>by simp
 |i+1=>by have h1:=U1 h i;have h2:=h i;rw[NW,List.length_append,Nat.succ_mul];omega
noncomputable def Ve(n:Nat):Nat->Nat
 |0=>1
 |d+1=>1+n*Ve n d
theorem Xk(n:Nat):∀d,1<=Ve n d
 |0=>Nat.le_refl _
 |d+1=>by unfold Ve;omega
theorem SV(n:Nat):∀(d:Nat) (p:List Int),(tree n d p).length<=Ve n d
 |0,p=>by
  have:∀m,(List.range m).flatMap (TW n 0 p)=[]:=fun m=>by
   induction m with
   |zero=>rfl
   |succ m ih=>rw[NW,ih];rfl
  simp[tree,this,Ve]
 |d+1,p=>by
  have:=U1 (f:=TW n (d+1) p) (b:=Ve n d) (fun i=>by
   cases h:Jq p (i:Int)with
   |true=>rw[OZ h];exact Nat.zero_le _
   |false=>rw[Qs h];exact SV n d _) n
  simp only[tree,Ve,List.length_cons];omega
theorem TU(n:Nat):∀(d:Nat) (p o:List Int),o∈tree n d p->o.length<=p.length+d
 |0,p,o,h=>by
  have:∀m,(List.range m).flatMap (TW n 0 p)=[]:=fun m=>by
   induction m with
   |zero=>rfl
   |succ m ih=>rw[NW,ih];rfl
  rw[tree,this,List.mem_singleton]at h;subst h;omega
 |d+1,p,o,h=>by
  rcases List.mem_cons.1 h with rfl|h
  ·omega
  ·obtain⟨i,_,h⟩:=List.mem_flatMap.1 h;cases hh:Jq p (i:Int)with
   |true=>rw[OZ hh]at h;exact absurd h List.not_mem_nil
   |false=>rw[Qs hh]at h;have:=TU n d _ o h;simp only[List.length_append,List.length_cons,List.length_nil]at this;omega
theorem TL(n:Nat)(hn:n<=1000):∀(d fu:Nat) (acc:List (List Int)) (p:List Int),d<fu->free n p<=d->p.length+d<=1000->acc.length+Ve n d<=1000000->hD fu acc p (n:Int)=some (acc++tree n d p,()):=by
 intro d;induction d with
 |zero=>
  intro fu acc p hf hfr hp ha;obtain⟨fu,rfl⟩:∃m,fu=m+1:=⟨fu-1,by omega⟩
  show mm _ acc p _=_;unfold mm;have hs:aE (List.append acc (List.append [] [p]))=true:=kx (by show(acc++([]++[p])).length<=_;simp;omega);rw[hs];have:n5 (hD fu) (p,(n:Int),()) (List.append acc (List.append [] [p]),0,())=some (.inl (acc++tree n 0 p,())):=by
   refine aR (fun i=>(acc++[p],(i:Int),())) n (by omega) _ (fun i hi=>?_) ?_
   ·unfold lm;simp only[eH,hi,decide_true,cond_true,Q0 p i (by omega),Te hfr hi,Option.bind_some,Bool.not_true,cond_false,av (n:=i) (by omega)]
   ·unfold lm;have:∀m,(List.range m).flatMap (TW n 0 p)=[]:=fun m=>by
     induction m with
     |zero=>rfl
     |succ m ih=>rw[NW,ih];rfl
    simp only[eH,Nat.lt_irrefl,decide_false,cond_false,tree,this]
  rw[this];rfl
 |succ d ih=>
  intro fu acc p hf hfr hp ha;obtain⟨fu,rfl⟩:∃m,fu=m+1:=⟨fu-1,by omega⟩
  show mm _ acc p _=_;unfold mm;have hpos:=Xk n (d+1);have hs:aE (List.append acc (List.append [] [p]))=true:=kx (by show(acc++([]++[p])).length<=_;simp;omega);rw[hs];have:n5 (hD fu) (p,(n:Int),()) (List.append acc (List.append [] [p]),0,())=some (.inl (acc++tree n (d+1) p,())):=by
   have:=aR (body:=lm (hD fu) (p,(n:Int),())) (fun i=>(acc++[p]++(List.range i).flatMap (TW n (d+1) p),(i:Int),())) n (by omega) (.inl (acc++tree n (d+1) p,())) (fun i hi=>?_) ?_
   ·unfold n5;simpa using this
   ·unfold lm;simp only[eH,hi,decide_true,cond_true,Q0 p i (by omega),Option.bind_some,av (n:=i) (by omega),NW];cases hh:Jq p (i:Int)with
    |true=>simp only[Bool.not_true,cond_false,OZ hh,List.append_nil]
    |false=>
     have s1:aE (List.append (α:=Int) [] p)=true:=kx (by show([]++p).length<=_;simp;omega);have s2:aE (List.append (α:=Int) (List.append [] p) (List.append [] [(i:Int)]))=true:=kx (by show(([]++p)++([]++[(i:Int)])).length<=_;simp;omega);have hk:=U1 (f:=TW n (d+1) p) (b:=Ve n d) (fun i=>by
      cases h:Jq p (i:Int)with
      |true=>rw[OZ h];exact Nat.zero_le _
      |false=>rw[Qs h];exact SV n d _) i
     have hle:(i+1)*Ve n d<=n*Ve n d:=Nat.mul_le_mul_right _ hi;rw[Nat.succ_mul]at hle;have hsz:Ve n (d+1)=1+n*Ve n d:=rfl;have hr:=ih fu (acc++[p]++(List.range i).flatMap (TW n (d+1) p)) (p++[(i:Int)]) (by omega) (by have:=Tw hi hh;omega) (by simp;omega) (by simp only[List.length_append,List.length_cons,List.length_nil];omega);have he:List.append (α:=Int) (List.append [] p) (List.append [] [(i:Int)])=p++[(i:Int)]:=rfl;rw[he]at s2;simp only[Bool.not_false,cond_true,s1,he,s2,hr,Option.bind_some,Qs hh];simp only[List.append_assoc]
   ·unfold lm;simp only[eH,Nat.lt_irrefl,decide_false,cond_false,tree,List.append_assoc,List.cons_append,List.nil_append]
  rw[this];rfl
theorem U7 {S:Type} (n:Nat) (Z7:S->List Int->S) (F:Nat->List Int->S->Option S)
  (h:∀(fu:Nat) (p:List Int) (st:S) (ch:Nat->List (List Int)),p.length<=1000->(∀i,i<n->Jq p (i:Int)=true->ch i=[])->(∀i st,i<n->Jq p (i:Int)=false->F fu (p++[(i:Int)]) st=some ((ch i).foldl Z7 st))->F (fu+1) p st=some (((List.range n).flatMap ch).foldl Z7 (Z7 st p))):
  ∀(d fu:Nat) (p:List Int) (st:S),d<fu->free n p<=d->p.length+d<=1000->F fu p st=some ((tree n d p).foldl Z7 st):=by
 intro d;induction d with
 |zero=>
  intro fu p st hf hfr hp;obtain⟨fu,rfl⟩:∃m,fu=m+1:=⟨fu-1,by omega⟩
  exact h fu p st (TW n 0 p) (by omega) (fun i hi hh=>rfl) (fun i st hi hh=>by rw[Te hfr hi]at hh;cases hh)
 |succ d ih=>
  intro fu p st hf hfr hp;obtain⟨fu,rfl⟩:∃m,fu=m+1:=⟨fu-1,by omega⟩
  refine h fu p st (TW n (d+1) p) (by omega) (fun i hi hh=>OZ hh) (fun i st hi hh=>?_);rw[Qs hh];exact ih fu _ st (by omega) (by have:=Tw hi hh;omega) (by simp;omega)
theorem Uc(l:List Int)(h:l.length<=1073741824):g8 l=some (l,()):=by
 unfold g8;have hs:aE (List.append (α:=Int) [] l)=true:=kx h;cases l with
 |nil=>simp only[hs,cond_true];rw[show af .gtr (ai ([]:List Int)) 0=false from rfl];exact iE _
 |cons x l=>rw[show af .gtr (ai (x::l)) 0=true from by simp[af,ai]];simp only[hs,cond_true];rfl
theorem Uq{α β:Type}(l:List α)(m:List β):af .gtr (ai l) (ai m)=decide (m.length<l.length):=by simp[af,ai]
theorem Ww{α β:Type}(l:List α)(m:List β):af .lss (ai l) (ai m)=decide (l.length<m.length):=by simp[af,ai]
theorem Un{α β:Type}(l:List α)(m:List β):af .eql (ai l) (ai m)=decide (l.length=m.length):=by rw[Bool.eq_iff_iff];simp[af,ai];omega
section
variable (a0 a1:Int) (g:List (List Int)) (s:List Mg)
abbrev SB:Type:=Bool×Int×List Int×Unit
abbrev SS:Type:=List Int×Int×Bool×Unit
noncomputable def Np(k:Nat)(st:SS)(p:List Int):SS:=
 bif decide (p.length<k)then st else match RY a0 a1 g s p with
  |none=>st
  |some v=>bif Bool.not st.2.2.1 then(p,v.2.1,true,())else bif decide (st.1.length<p.length)then(p,v.2.1,true,())else
   bif decide (p.length=st.1.length)then(bif af .lss v.2.1 st.2.1 then(p,v.2.1,true,())else st)else st
theorem S5(k:Nat)(L:List (List Int))(hL:L.length<=1000000)(ho:∀o,o∈L->o.length<=1000):I2 ((k:Int),a0,a1,g,s,()) ([],0,false,L,0,())=some (.inl (L.foldl (Np a0 a1 g s k) ([],0,false,()))):=by
 unfold I2;have:=aR (body:=I1 ((k:Int),a0,a1,g,s,())) (fun i=>(((L.take i).foldl (Np a0 a1 g s k) ([],0,false,())).1,((L.take i).foldl (Np a0 a1 g s k) ([],0,false,())).2.1,((L.take i).foldl (Np a0 a1 g s k) ([],0,false,())).2.2.1,L,(i:Int),())) L.length (by omega) (.inl (L.foldl (Np a0 a1 g s k) ([],0,false,()))) (fun i hi=>?_) ?_
 ·simpa using this
 ·have mQ:=ho _ (mo hi gb);have jS:L.take (i+1)=L.take i++[L.getD i gb]:=by rw[List.take_add_one,List.getElem?_eq_getElem hi,List.getD_eq_getElem?_getD,List.getElem?_eq_getElem hi];rfl
  rw[jS];simp only[List.foldl_append,List.foldl_cons,List.foldl_nil];generalize (L.take i).foldl (Np a0 a1 g s k) ([],0,false,())=st;obtain⟨y,hy,hm⟩:=UK a0 a1 g s (L.getD i gb) (by omega);have hlk:af .lss (ai (L.getD i gb)) (k:Int)=decide ((L.getD i gb).length<k):=by simp[af,ai]
  unfold I1 R1;simp only[aj,hi,decide_true,cond_true,az,aq,cond_false,hy,Option.bind_some,av (n:=i) (by omega),hlk,Uq,Un];unfold Np;cases decide ((L.getD i gb).length<k)with
  |true=>rfl
  |false=>
   simp only[cond_false];cases hr:RY a0 a1 g s (L.getD i gb)with
   |none=>rw[hr]at hm;have hm:y.2.2.2.2.1=false:=hm;simp only[hm,Bool.not_false,cond_true,cond_false,Option.bind_some]
   |some v=>
    obtain⟨vb,ve,vp,vw⟩:=v;rw[hr]at hm;have hm:y=(vb,ve,vp,vw,true,()):=hm;subst hm;simp only[Bool.not_true,cond_false,cond_true,Option.bind_some];cases hq:st.2.2.1 with
    |false=>rfl
    |true=>
     simp only[Bool.not_true,cond_false];cases decide (st.1.length<(L.getD i gb).length)with
     |true=>rfl
     |false=>
      simp only[cond_false];cases decide ((L.getD i gb).length=st.1.length)with
      |false=>simp only[cond_false,hq]
      |true=>
       simp only[cond_true];cases af .lss ve st.2.1 with
       |true=>rfl
       |false=>simp only[cond_false,hq]
 ·unfold I1;simp only[aj,Nat.lt_irrefl,decide_false,cond_false,List.take_length]
abbrev SM:Type:=Bool×List Int×Int×Unit
noncomputable def Qr(a b:Int):Int:=bif af .lss a b then -1 else bif af .gtr a b then 1 else 0
theorem aaA(a b:Int):DM a b=some (Qr a b,()):=by unfold DM Jp Qr;simp only[gm,Option.bind_some,cond_false];cases af .lss a b <;> cases af .gtr a b <;> rfl
noncomputable def TC:List Int->List Int->Option Int
 | [],_=>none
 |_::_,[]=>some 1
 |x::xs,y::ys=>bif af .neq (Qr x y) 0 then some (Qr x y)else TC xs ys
noncomputable def TD(a b:List Int):Int:=match TC a b with|some c=>c|none=>bif decide (a.length<b.length)then -1 else 0
theorem VJ(a b:List Int){i:Nat}(hi:i<a.length):TC (a.drop i) (b.drop i)=if i<b.length then(bif af .neq (Qr (a.getD i zI) (b.getD i zI)) 0 then some (Qr (a.getD i zI) (b.getD i zI))else TC (a.drop (i+1)) (b.drop (i+1)))else some 1:=by
 rw[dA hi zI];by_cases hb:i<b.length
 ·rw[if_pos hb,dA hb zI];rfl
 ·rw[if_neg hb,List.drop_eq_nil_of_le (as:=b) (by omega)];rfl
theorem Ue(a b:List Int)(ha:a.length<=1000)(hb:b.length<=1000):jn a b=some (TD a b,()):=by
 unfold jn TD;have:g7 (a,b,a,ai a,()) (0,())=some (match TC a b with|some c=>.inl (c,())|none=>.inr (.inl ())):=by
  have:=jg (body:=g6 (a,b,a,ai a,())) (fun i=>((i:Int),())) a.length (by omega) (fun i=>match TC (a.drop i) (b.drop i)with|some c=>.inl (c,())|none=>.inr (.inl ())) (fun i hi=>?_) ?_
  ·unfold g7;simpa using this
  ·unfold g6;have hg:af .geq (i:Int) (ai b)=decide (b.length<=i):=by simp[af,ai]
   simp only[aj,hi,decide_true,cond_true,az,aq,hg,aaA,Option.bind_some,av (n:=i) (by omega),VJ a b hi];by_cases hb':i<b.length
   ·rw[if_pos hb',decide_eq_false (by omega:¬b.length<=i),decide_eq_true hb'];simp only[cond_false,cond_true];cases af .neq (Qr (a.getD i zI) (b.getD i zI)) 0 with
    |true=>exact .inr rfl
    |false=>exact .inl ⟨rfl,rfl⟩
   ·rw[if_neg hb',decide_eq_true (by omega:b.length<=i)];exact .inr rfl
  ·unfold g6;simp only[aj,Nat.lt_irrefl,decide_false,cond_false,List.drop_length];rfl
 rw[this];cases TC a b with
 |some c=>rfl
 |none=>simp only[Option.bind_some,Sum.elim_inr,Sum.elim_inl,Ww];cases decide (a.length<b.length) <;> rfl
theorem Wv{i j:Int}(h:i<j)(u v:List Int):∀p:List Int,TC (p++j::u) (p++i::v)=some 1
 | []=>by
  have h1:af .lss j i=false:=decide_eq_false (by omega);have h2:af .gtr j i=true:=decide_eq_true (by omega);have h3:Qr j i=1:=by unfold Qr;rw[h1,h2];rfl
  show(bif af .neq (Qr j i) 0 then some (Qr j i)else _)=_;rw[h3];rfl
 |x::p=>by
  have h1:af .lss x x=false:=decide_eq_false (by omega);have h2:af .gtr x x=false:=decide_eq_false (by omega);have h3:Qr x x=0:=by unfold Qr;rw[h1,h2];rfl
  show(bif af .neq (Qr x x) 0 then some (Qr x x)else TC (p++j::u) (p++i::v))=_;rw[h3,Wv h u v p];rfl
noncomputable def Aft(a b:List Int):Prop:=a.length=b.length->TD b a=1
theorem Q8(n:Nat):∀(d:Nat) (p o:List Int) (i:Nat),o∈TW n d p i->∃u,o=p++(i:Int)::u
 |0,p,o,i,h=>absurd h List.not_mem_nil
 |d+1,p,o,i,h=>by
  cases hh:Jq p (i:Int)with
  |true=>rw[OZ hh]at h;exact absurd h List.not_mem_nil
  |false=>
   rw[Qs hh]at h;rcases List.mem_cons.1 h with rfl|h
   ·exact⟨[],rfl⟩
   ·obtain⟨j,_,h⟩:=List.mem_flatMap.1 h;obtain⟨u,rfl⟩:=Q8 n d _ o j h;exact⟨(j:Int)::u,by simp⟩
theorem V2(n:Nat):∀(d:Nat) (p:List Int),(tree n d p).Pairwise Aft:=by
 intro d;induction d with
 |zero=>
  intro p;have:∀m,(List.range m).flatMap (TW n 0 p)=[]:=fun m=>by
   induction m with
   |zero=>rfl
   |succ m ih=>rw[NW,ih];rfl
  rw[tree,this];exact List.pairwise_singleton _ _
 |succ d ih=>
  intro p;refine List.pairwise_cons.2 ⟨fun o ho he=>?_,?_⟩
  ·obtain⟨j,_,h⟩:=List.mem_flatMap.1 ho;obtain⟨u,rfl⟩:=Q8 n _ _ o j h;simp only[List.length_append,List.length_cons]at he;omega
  ·suffices ∀m,((List.range m).flatMap (TW n (d+1) p)).Pairwise Aft from this n
   intro m;induction m with
   |zero=>exact List.Pairwise.nil
   |succ m ihm=>
    rw[NW];refine List.pairwise_append.2 ⟨ihm,?_,fun a ha b hb he=>?_⟩
    ·cases hh:Jq p (m:Int)with
     |true=>rw[OZ hh];exact List.Pairwise.nil
     |false=>rw[Qs hh];exact ih _
    ·obtain⟨i,hi,h⟩:=List.mem_flatMap.1 ha;have hi:=List.mem_range.1 hi;obtain⟨u,rfl⟩:=Q8 n _ _ a i h;obtain⟨v,rfl⟩:=Q8 n _ _ b m hb;unfold TD;rw[Wv (by omega) v u p]
noncomputable def n6(st:SM)(p:List Int):SM:=
 match RY a0 a1 g s p with
  |none=>st
  |some v=>bif Bool.not st.1 then(true,p,v.2.1,())else bif decide (st.2.1.length<p.length)then(true,p,v.2.1,())else
   bif decide (p.length=st.2.1.length)then(bif af .lss v.2.1 st.2.2.1 then(true,p,v.2.1,())else bif af .eql v.2.1 st.2.2.1 then(bif af .lss (TD p st.2.1) 0 then(true,p,v.2.1,())else st)else st)else st
theorem WI(WM:∀r∈g,r.length<=1073741824)(p:List Int)(st:SM)(hp:p.length<=1000):IP p a0 a1 g s st.1 st.2.1 st.2.2.1=some (n6 a0 a1 g s st p):=by
 unfold IP n6;rw[Uv a0 a1 g s p WM (by omega)];simp only[Option.bind_some];cases RY a0 a1 g s p with
 |none=>rfl
 |some v=>
  obtain⟨vb,ve,vp,vw⟩:=v;obtain⟨f,b,e,u⟩:=st;simp only[cond_true,Uc p (by omega),Option.bind_some,Uq,Un];cases f with
  |false=>rfl
  |true=>
   simp only[Bool.not_true,cond_false];by_cases h1:b.length<p.length
   ·simp only[h1,decide_true,cond_true]
   ·by_cases h2:p.length=b.length
    ·simp only[h1,h2,decide_true,decide_false,cond_true,cond_false,Ue p b hp (by omega),Option.bind_some,Nat.lt_irrefl];cases af .lss ve e <;> cases af .eql ve e <;> cases af .lss (TD p b) 0 <;> rfl
    ·simp only[h1,h2,decide_true,decide_false,cond_true,cond_false]
theorem Xc(WM:∀r∈g,r.length<=1073741824)(n:Nat)(hn:n<=1000):g4 (n:Int) [] a0 a1 g s false [] 0=some ((tree n n []).foldl (n6 a0 a1 g s) (false,[],0,())):=by
 refine U7 n (n6 a0 a1 g s) (fun fu p st=>er fu (n:Int) p a0 a1 g s st.1 st.2.1 st.2.2.1) (fun fu p st ch hp h1 h2=>?_) n big [] (false,[],0,()) (aT (by omega)) (Uo n) (by simp;omega);show gA _ (n:Int) p a0 a1 g s st.1 st.2.1 st.2.2.1=_;unfold gA;rw[WI a0 a1 g s WM p st hp];simp only[Option.bind_some];generalize n6 a0 a1 g s st p=Tk;have:jj (er fu) ((n:Int),p,()) (a0,a1,g,s,Tk.1,Tk.2.1,Tk.2.2.1,0,())=some (.inl (a0,a1,g,s,(((List.range n).flatMap ch).foldl (n6 a0 a1 g s) Tk).1,(((List.range n).flatMap ch).foldl (n6 a0 a1 g s) Tk).2.1,(((List.range n).flatMap ch).foldl (n6 a0 a1 g s) Tk).2.2.1,())):=by
  refine aR (fun i=>(a0,a1,g,s,(((List.range i).flatMap ch).foldl (n6 a0 a1 g s) Tk).1,(((List.range i).flatMap ch).foldl (n6 a0 a1 g s) Tk).2.1,(((List.range i).flatMap ch).foldl (n6 a0 a1 g s) Tk).2.2.1,(i:Int),())) n (by omega) _ (fun i hi=>?_) ?_
  ·unfold i4;simp only[eH,hi,decide_true,cond_true,Q5 p i (by omega),Option.bind_some,av (n:=i) (by omega),NW,List.foldl_append];cases hh:Jq p (i:Int)with
   |true=>simp only[Bool.not_true,cond_false,h1 i hi hh,List.foldl_nil]
   |false=>have he:List.append (α:=Int) p (List.append [] [(i:Int)])=p++[(i:Int)]:=rfl;have s2:aE (p++[(i:Int)])=true:=kx (by simp;omega);have hq:=h2 i (((List.range i).flatMap ch).foldl (n6 a0 a1 g s) Tk) hi hh;simp only[Bool.not_false,cond_true,Uc p (by omega),Option.bind_some,he,s2,hq]
  ·unfold i4;simp only[eH,Nat.lt_irrefl,decide_false,cond_false]
 rw[this];rfl
noncomputable def Td(st:SM):SS:=(st.2.1,st.2.2.1,st.1,())
theorem UB:∀(L P:List (List Int)) (st:SM),(P++L).Pairwise Aft->(st.1=true->st.2.1∈P)->L.foldl (Np a0 a1 g s 0) (Td st)=Td (L.foldl (n6 a0 a1 g s) st)/\((L.foldl (n6 a0 a1 g s) st).1=false->st=L.foldl (n6 a0 a1 g s) st)
 | [],P,st,_,_=>⟨rfl,fun _=>rfl⟩
 |o::L,P,st,hP,hst=>by
  have key:Np a0 a1 g s 0 (Td st) o=Td (n6 a0 a1 g s st o)/\((n6 a0 a1 g s st o).1=true->(n6 a0 a1 g s st o).2.1∈P++[o])/\((n6 a0 a1 g s st o).1=false->st=n6 a0 a1 g s st o):=by
   have hold:st.1=true->st.2.1∈P++[o]:=fun h=>List.mem_append_left _ (hst h);have hnew:o∈P++[o]:=by simp
   unfold Np n6;simp only[Nat.not_lt_zero,decide_false,cond_false];cases RY a0 a1 g s o with
   |none=>exact⟨rfl,hold,fun _=>rfl⟩
   |some v=>
    obtain⟨f,b,e,u⟩:=st;cases f with
    |false=>exact⟨rfl,fun _=>hnew,fun h=>by cases h⟩
    |true=>
     simp only[Td,Bool.not_true,cond_false];by_cases h1:b.length<o.length
     ·simp only[h1,decide_true,cond_true];exact⟨trivial,fun _=>hnew,fun h=>by cases h⟩
     ·by_cases h2:o.length=b.length
      ·have ha:Aft b o:=(List.pairwise_append.1 hP).2.2 b (hst rfl) o (by simp);have hn:af .lss (TD o b) 0=false:=by rw[ha h2.symm];rfl
       simp only[h2,Nat.lt_irrefl,decide_true,decide_false,cond_true,cond_false,hn];cases af .lss v.2.1 e with
       |true=>exact⟨rfl,fun _=>hnew,fun h=>by cases h⟩
       |false=>
        cases af .eql v.2.1 e with
        |true=>exact⟨rfl,fun _=>hold rfl,fun _=>rfl⟩
        |false=>exact⟨rfl,fun _=>hold rfl,fun _=>rfl⟩
      ·simp only[h1,h2,decide_false,cond_false];exact⟨trivial,fun _=>hold rfl,fun _=>trivial⟩
  obtain⟨k1,k2,k3⟩:=key;obtain⟨h1,h2⟩:=UB L (P++[o]) (n6 a0 a1 g s st o) (by rw[List.append_assoc];exact hP) k2;simp only[List.foldl_cons,k1];refine⟨h1,fun h=>?_⟩;have e2:=h2 h;rw[<-e2]at h;rw[<-e2];exact k3 h
theorem UJ(hro:n3 a0 a1 g s=true)(k:Nat):Ir a0 a1 g s (k:Int)=some (bif Bool.not ((tree s.length s.length []).foldl (Np a0 a1 g s k) ([],0,false,())).2.2.1 then([],0,false,())else(((tree s.length s.length []).foldl (Np a0 a1 g s k) ([],0,false,())).1,((tree s.length s.length []).foldl (Np a0 a1 g s k) ([],0,false,())).2.1,true,())):=by
 obtain⟨hs,_⟩:=me hro;have hsz:Ve s.length s.length<=100000:=by
  have:∀n,n<=6->Ve n n<=100000:=by decide
  exact this _ hs
 unfold Ir;rw[Mv,hro];have hL:Nl [] [] (ai s)=some (tree s.length s.length [],()):=TL s.length (by omega) s.length big [] [] (aT (by omega)) (Uo _) (by simp;omega) (by simp;omega);have hlen:=SV s.length s.length [];have e8:=S5 a0 a1 g s k (tree s.length s.length []) (by omega) (fun o ho=>by have:=TU _ _ _ o ho;simp at this;omega);simp only[Option.bind_some,Bool.not_true,cond_false,hL,e8,Sum.elim_inl];cases ((tree s.length s.length []).foldl (Np a0 a1 g s k) ([],0,false,())).2.2.1 <;> rfl
noncomputable def RC:SS:=bif n3 a0 a1 g s then Td ((tree s.length s.length []).foldl (n6 a0 a1 g s) (false,[],0,()))else([],0,false,())
theorem Wt(WM:∀r∈g,r.length<=1073741824):KX a0 a1 g s=some (RC a0 a1 g s):=by
 unfold KX RC;rw[OV a0 a1 g s WM];cases hro:n3 a0 a1 g s with
 |false=>rfl
 |true=>obtain⟨hs,_⟩:=me hro;simp only[Option.bind_some,Bool.not_true,cond_false,cond_true];have:g4 (ai s) [] a0 a1 g s false [] 0=_:=Xc a0 a1 g s WM s.length (by omega);rw[this];rfl
theorem WG:K6 a0 a1 g s=some (RC a0 a1 g s):=by
 unfold K6 RC;cases hro:n3 a0 a1 g s with
 |false=>unfold Ir;rw[Mv,hro];rfl
 |true=>
  have:Ir a0 a1 g s 0=_:=UJ a0 a1 g s hro 0;rw[this];obtain⟨h1,h2⟩:=UB a0 a1 g s (tree s.length s.length []) [] (false,[],0,()) (V2 _ _ _) (fun h=>by cases h);have h1:(tree s.length s.length []).foldl (Np a0 a1 g s 0) ([],0,false,())=_:=h1;rw[h1];revert h2;generalize (tree s.length s.length []).foldl (n6 a0 a1 g s) (false,[],0,())=r;intro h2;obtain⟨f,b,e,u⟩:=r;cases f with
  |true=>rfl
  |false=>rw[<-h2 rfl];rfl
theorem Vo:∀(L:List (List Int)) (st:SM),st.2.1.length<=1000->(∀o,o∈L->o.length<=1000)->(L.foldl (n6 a0 a1 g s) st).2.1.length<=1000
 | [],st,h,_=>h
 |o::L,st,h,hL=>by
  refine Vo L _ ?_ fun o' cR=>hL o' (by simp[cR]);have ho:=hL o (by simp);unfold n6;cases RY a0 a1 g s o with
  |none=>exact h
  |some v=>simp only;cases st.1 <;> cases decide (st.2.1.length<o.length) <;> cases decide (o.length=st.2.1.length) <;> cases af .lss v.2.1 st.2.2.1 <;> cases af .eql v.2.1 st.2.2.1 <;> cases af .lss (TD o st.2.1) 0 <;> first|exact ho|exact h
theorem VK:(RC a0 a1 g s).1.length<=1000:=by
 unfold RC;cases hro:n3 a0 a1 g s with
 |false=>exact Nat.zero_le _
 |true=>obtain⟨hs,_⟩:=me hro;exact Vo a0 a1 g s _ _ (Nat.zero_le _) fun o ho=>by have:=TU _ _ _ o ho;simp at this;omega
end
end Go.Fn

