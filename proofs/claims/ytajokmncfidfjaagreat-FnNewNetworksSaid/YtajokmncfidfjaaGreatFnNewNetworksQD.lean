import Derived.Test.YtajokmncfidfjaaGreatFnNewNetworksQC
/- Plain functions that stand for Go functions, and what they answer. Conditions: none. -/
set_option autoImplicit false
set_option linter.unusedVariables false
set_option linter.unusedSimpArgs false
set_option linter.unusedVariables false
namespace Go.Fn
open Go.R
noncomputable def aa9:Z3:=(0,0,0)
noncomputable def UZ(a:Int×YbR)(b:Int×LZ×Rx×YcR):Option (Int×LZ×Rx×YcR⊕YcB⊕YcI):=letI c:=b.2.2.2;letI d:=c.2.2;letI e:=d.2.1;letI f:=((0:Int),([]:LZ),([]:Rx),false,());letI g:=d.2.2.1;letI h:=ae zI a.2.1 g;letI i:=aa .add .i64 g 1;letI j:=(e,aa .sub .i64 a.1 e,(0:Int),false);letI k:=(e,aa .sub .i64 h e,(0:Int),false);cond (af .leq g (ai a.2.1)) (cond (af .lss g (ai a.2.1)) (cond (ah a.2.1 g) (cond (af .leq h e) (some (.inr (.inl f))) (cond (af .gtr h 24) (some (.inr (.inl f))) (cond (aE (List.append (α:=SU) d.1 (List.append (α:=SU) ([]:Rx) [k]))) (lets (List.append (α:=SU) ([]:Rx) [k]) fun _=>lets (List.append (α:=SU) d.1 (List.append (α:=SU) ([]:Rx) [k])) fun l=>some (.inl (b.1,b.2.1,b.2.2.1,c.1,c.2.1,l,h,i,()))) none))) none) (cond (af .leq a.1 e) (some (.inr (.inl f))) (cond (af .gtr a.1 24) (some (.inr (.inl f))) (cond (aE (List.append (α:=SU) d.1 (List.append (α:=SU) ([]:Rx) [j]))) (lets (List.append (α:=SU) d.1 (List.append (α:=SU) ([]:Rx) [j])) fun l=>some (.inl (b.1,b.2.1,b.2.2.1,c.1,c.2.1,l,a.1,i,()))) none)))) (some (.inr (.inr (.inl (b.1,b.2.1,b.2.2.1,c.1,c.2.1,d.1,())))))
noncomputable def Qd k x:=iter (UZ k) big x
noncomputable def MR(a:Int)(b:LZ):Option YcB:=cond (aE (List.append (α:=Int) ([]:LZ) b)) ((Qd (a,b,()) (0,([]:LZ),([]:Rx),a,List.append (α:=Int) ([]:LZ) b,([]:Rx),0,0,())).bind fun c=>Sum.elim (fun d=>some (d.1,d.2.1,d.2.2.1,d.2.2.2.1,())) (fun d=>Sum.elim (fun e=>letI f:=e.2.2.2;(NT f.1 f.2.1 f.2.2.1).bind fun g=>cond (Bool.not g.1) (some (0,([]:LZ),([]:Rx),false,())) (some (f.1,f.2.1,f.2.2.1,true,()))) (fun e=>Empty.elim e) d) c) none
noncomputable def R3(a:Int)(b:LZ)(c:Rx)(d:Int):Option YcB:=(PU a b c).bind fun e=>(OW a b c d).bind fun f=>(NT a b c).bind fun g=>letI h:=e.2.2.1;letI i:=ae LY h f.1;letI j:=some (e.1,e.2.1,h,false,());cond (Bool.not g.1) j (cond (af .lss f.1 0) j (cond (ah c f.1) (cond (ae LY c f.1).2.2.2 j (cond (ah h f.1) (some (e.1,e.2.1,aC h f.1 (i.1,i.2.1,0,i.2.2.2),true,())) none)) none))
noncomputable def Wy(a:Int×Bool×YbC)(b:YbI):Option (YbI⊕YcB⊕YcI):=letI c:=b.2.2.2;letI d:=c.2.2;letI e:=a.2.2.2.2.1;letI f:=d.2.1;letI g:=(b.1,b.2.1,b.2.2.1,c.1,c.2.1,d.1,());cond (af .lss f (ai e)) ((NT a.2.2.1 a.2.2.2.1 e).bind fun h=>letI i:=ah e f;letI j:=ae LY e f;cond h.1 (cond i (cond i (cond i ((I1 a.1 j.1 (aa .sub .i64 (aa .add .i64 j.1 j.2.1) 1)).bind fun k=>letI l:=ae LY d.1 f;cond k.1 (cond (ah d.1 f) (lets (aC d.1 f (l.1,l.2.1,l.2.2.1,a.2.1)) fun m=>some (.inr (.inl (c.1,c.2.1,m,true,())))) none) (some (.inl (b.1,b.2.1,b.2.2.1,c.1,c.2.1,d.1,aa .add .i64 f 1,())))) none) none) none) (some (.inr (.inr (.inl g))))) (some (.inr (.inr (.inl g))))
noncomputable def R1 k x:=iter (Wy k) big x
noncomputable def SQ(a:Int)(b:LZ)(c:Rx)(d:Int)(e:Bool):Option YcB:=(PU a b c).bind fun f=>(R1 (d,e,a,b,c,()) (0,([]:LZ),([]:Rx),f.1,f.2.1,f.2.2.1,0,())).bind fun g=>Sum.elim (fun h=>some (h.1,h.2.1,h.2.2.1,h.2.2.2.1,())) (fun h=>Sum.elim (fun i=>some (i.2.2.2.1,i.2.2.2.2.1,i.2.2.2.2.2.1,false,())) (fun i=>Empty.elim i) h) g
noncomputable def R6(a b c:Int)(d:Bool):QV:=cond (af .eql c 0) (some (Bool.not d,())) (some (false,()))
noncomputable def Wx(a:YbC)(b:YbG×Rn):Option (YbG×Rn⊕YbG×Unit⊕Empty):=letI c:=b.1;letI d:=b.2.1;letI e:=a.2.2.1;letI f:=ae LY e d;cond (af .lss d (ai e)) (cond (ah e d) ((R6 f.1 f.2.1 f.2.2.1 f.2.2.2).bind fun g=>letI h:=aa .add .i64 d 1;letI i:=aa .sub .i64 d 1;letI j:=ae LY e i;letI k:=((0:Int),f.1,f.2.1);cond (Bool.not g.1) (some (.inl (c,h,()))) (cond (af .gtr d 0) (cond (ah e i) ((R6 j.1 j.2.1 j.2.2.1 j.2.2.2).bind fun l=>cond l.1 ((U2 a.2.1 f.1).bind fun m=>letI n:=aa .sub .i64 (ai c) 1;letI o:=ae aa9 c n;cond (Bool.not m.1) (cond (ah c n) (cond (ah c n) (lets (aC c n (o.1,o.2.1,aa .add .i64 o.2.2 f.2.1)) fun p=>some (.inl (p,h,()))) none) none) (cond (aE (List.append (α:=Z3) c (List.append (α:=Z3) ([]:YbG) [k]))) (some (.inl (List.append (α:=Z3) c (List.append (α:=Z3) ([]:YbG) [k]),h,()))) none)) (cond (aE (List.append (α:=Z3) c (List.append (α:=Z3) ([]:YbG) [k]))) (some (.inl (List.append (α:=Z3) c (List.append (α:=Z3) ([]:YbG) [k]),h,()))) none)) none) (cond (aE (List.append (α:=Z3) c (List.append (α:=Z3) ([]:YbG) [k]))) (some (.inl (List.append (α:=Z3) c (List.append (α:=Z3) ([]:YbG) [k]),h,()))) none))) none) (some (.inr (.inl (c,()))))
noncomputable def RT k x:=iter (Wx k) big x
noncomputable def UU(a:Int)(b:LZ)(c:Rx):Option (YbG×Unit):=(NT a b c).bind fun d=>cond (Bool.not d.1) (some (([]:YbG),())) ((RT (a,b,c,()) (([]:YbG),0,())).bind fun e=>Sum.elim (fun f=>some (f.1,())) (fun f=>Empty.elim f) e)
noncomputable def Vv(a:YbG×Rn)(b:TR):YbE:=letI c:=b.2.1;letI d:=aa .add .i64 c 1;letI e:=(ae aa9 a.1 c).2.2;cond (af .lss c (ai a.1)) (cond (ah a.1 c) (cond (af .geq e a.2.1) (cond (af .lss b.1 0) (some (.inl (c,d,()))) (cond (ah a.1 c) (cond (ah a.1 b.1) (cond (af .lss e (ae aa9 a.1 b.1).2.2) (some (.inl (c,d,()))) (some (.inl (b.1,d,())))) none) none)) (some (.inl (b.1,d,())))) none) (some (.inr (.inl (b.1,()))))
noncomputable def QR k x:=iter (Vv k) big x
noncomputable def SJ(a:YbG)(b:Int):YR:=(QR (a,b,()) (-1,0,())).bind fun c=>Sum.elim (fun d=>some (d.1,())) (fun d=>Empty.elim d) c
noncomputable def VD(a:Int)(b:LZ)(c:Rx)(d:Int):Option (Int×Int×Int×Z1):=(UU a b c).bind fun e=>(SJ e.1 d).bind fun f=>letI g:=ae aa9 e.1 f.1;letI h:=some ((0:Int),(0:Int),(0:Int),false,());cond (af .lss d 1) h (cond (af .lss f.1 0) h (cond (ah e.1 f.1) (some (g.1,g.2.1,g.2.2,true,())) none))
noncomputable def V1(a:Int×Int×Int×LZ×Rx×YbN)(b:YbI):Option (YbI⊕YcI):=letI c:=([]:Rx);letI d:=b.1;letI e:=b.2.1;letI f:=b.2.2.2;letI g:=b.2.2.1;letI h:=a.2.2.2.2;letI i:=f.1;letI j:=f.2.2;letI k:=f.2.1;letI l:=h.2.2;letI m:=j.1;letI n:=aa .add .i64 j.2.1 1;letI o:=(l.1,a.2.1,a.1,false);letI p:=ae LY h.1 j.2.1;letI q:=af .lss p.1 l.1;letI r:=af .geq p.1 (aa .add .i64 l.1 l.2.1);cond (af .lss j.2.1 (ai h.1)) (cond (ah h.1 j.2.1) (cond (af .eql p.1 l.1) (cond (aE (List.append (α:=SU) m (List.append (α:=SU) c [o]))) (lets (List.append (α:=SU) m (List.append (α:=SU) c [o])) fun s=>letI t:=(aa .add .i64 l.1 a.2.1,aa .sub .i64 l.2.1 a.2.1,(0:Int),false);cond (af .lss a.2.1 l.2.1) (cond (aE (List.append (α:=SU) s (List.append (α:=SU) c [t]))) (lets (List.append (α:=SU) c [t]) fun _=>lets (List.append (α:=SU) s (List.append (α:=SU) c [t])) fun u=>cond q (cond (aE (List.append (α:=SU) u (List.append (α:=SU) c [p]))) (lets (List.append (α:=SU) u (List.append (α:=SU) c [p])) fun v=>some (.inl (d,e,g,i,k,v,n,()))) none) (cond r (cond (aE (List.append (α:=SU) u (List.append (α:=SU) c [p]))) (lets (List.append (α:=SU) u (List.append (α:=SU) c [p])) fun v=>some (.inl (d,e,g,i,k,v,n,()))) none) (some (.inl (d,e,g,i,k,u,n,()))))) none) (cond q (cond (aE (List.append (α:=SU) s (List.append (α:=SU) c [p]))) (lets (List.append (α:=SU) s (List.append (α:=SU) c [p])) fun u=>some (.inl (d,e,g,i,k,u,n,()))) none) (cond r (cond (aE (List.append (α:=SU) s (List.append (α:=SU) c [p]))) (lets (List.append (α:=SU) s (List.append (α:=SU) c [p])) fun u=>some (.inl (d,e,g,i,k,u,n,()))) none) (some (.inl (d,e,g,i,k,s,n,())))))) none) (cond q (cond (aE (List.append (α:=SU) m (List.append (α:=SU) c [p]))) (lets (List.append (α:=SU) m (List.append (α:=SU) c [p])) fun s=>some (.inl (d,e,g,i,k,s,n,()))) none) (cond r (cond (aE (List.append (α:=SU) m (List.append (α:=SU) c [p]))) (lets (List.append (α:=SU) m (List.append (α:=SU) c [p])) fun s=>some (.inl (d,e,g,i,k,s,n,()))) none) (some (.inl (d,e,g,i,k,m,n,())))))) none) (some (.inr (.inl (d,e,g,i,k,m,()))))
noncomputable def Rb k x:=iter (V1 k) big x
noncomputable def Tv(a:Int)(b:LZ)(c:Rx)(d e f g h:Int):Option YbC:=cond (aE (List.append (α:=Int) ([]:LZ) b)) ((Rb (g,h,a,b,c,d,e,f,()) (0,([]:LZ),([]:Rx),a,List.append (α:=Int) ([]:LZ) b,([]:Rx),0,())).bind fun i=>Sum.elim (fun j=>some (j.2.2.2.1,j.2.2.2.2.1,j.2.2.2.2.2.1,())) (fun j=>Empty.elim j) i) none
noncomputable def Ui(a:Int)(b:LZ)(c:Rx)(d e:Int):Option (Int×LZ×Rx×Int×Z1):=(VD a b c e).bind fun f=>letI g:=(PU a b c).bind fun g=>some (g.1,g.2.1,g.2.2.1,(-1:Int),false,());cond (Bool.not f.2.2.2.1) g ((I1 d 1 999).bind fun h=>cond (Bool.not h.1) g ((OW a b c d).bind fun i=>cond (af .geq i.1 0) g ((Tv a b c f.1 f.2.1 f.2.2.1 d e).bind fun j=>some (j.1,j.2.1,j.2.2.1,f.2.1,true,()))))
noncomputable def U1(a:TR)(b:LZ×Int×Int×YbI):Option (LZ×Int×Int×YbI⊕LZ×Int×Int×Int×LZ×Rx×YbC⊕Empty):=letI c:=b.2.2.2;letI d:=c.2.2;letI e:=c.2.1;letI f:=d.2.2;letI g:=d.2.1;letI h:=f.2.1;cond (af .gtr f.2.2.1 0) ((Jc b.1 b.2.1 b.2.2.1 6).bind fun i=>(Jc i.2.1 i.2.2.1 i.2.2.2.1 6).bind fun j=>letI k:=j.2.2;letI l:=af .eql j.1 0;letI m:=af .eql j.1 2;letI n:=aa .add .i64 a.1 i.1;letI o:=Jc j.2.1 k.1 k.2.1 4;letI p:=aa .sub .i64 f.2.2.1 1;letI q:=Jc j.2.1 k.1 k.2.1 a.2.1;cond l (cond l ((R3 g f.1 h n).bind fun r=>some (.inl (j.2.1,k.1,k.2.1,c.1,e,d.1,r.1,r.2.1,r.2.2.1,p,()))) (cond m (q.bind fun r=>(OV r.2.1 r.2.2.1 r.2.2.2.1 3).bind fun s=>(SQ g f.1 h r.1 s.1).bind fun t=>some (.inl (s.2.1,s.2.2.1,s.2.2.2.1,c.1,e,d.1,t.1,t.2.1,t.2.2.1,p,()))) (o.bind fun r=>(Ui g f.1 h n (aa .add .i64 1 r.1)).bind fun s=>some (.inl (r.2.1,r.2.2.1,r.2.2.2.1,c.1,e,d.1,s.1,s.2.1,s.2.2.1,p,()))))) (cond (af .eql j.1 1) ((R3 g f.1 h n).bind fun r=>some (.inl (j.2.1,k.1,k.2.1,c.1,e,d.1,r.1,r.2.1,r.2.2.1,p,()))) (cond m (q.bind fun r=>(OV r.2.1 r.2.2.1 r.2.2.2.1 3).bind fun s=>(SQ g f.1 h r.1 s.1).bind fun t=>some (.inl (s.2.1,s.2.2.1,s.2.2.2.1,c.1,e,d.1,t.1,t.2.1,t.2.2.1,p,()))) (o.bind fun r=>(Ui g f.1 h n (aa .add .i64 1 r.1)).bind fun s=>some (.inl (r.2.1,r.2.2.1,r.2.2.2.1,c.1,e,d.1,s.1,s.2.1,s.2.2.1,p,())))))) (some (.inr (.inl (b.1,b.2.1,b.2.2.1,c.1,e,d.1,g,f.1,h,()))))
noncomputable def OX k x:=iter (U1 k) big x
noncomputable def Qv(a:LZ)(b c d:Int):YcU:=(Jc a b c 9).bind fun e=>(OV e.2.1 e.2.2.1 e.2.2.2.1 2).bind fun f=>letI g:=aa .add .i64 4 e.1;cond f.1 ((Jc f.2.1 f.2.2.1 f.2.2.2.1 (aa .sub .i64 g 2)).bind fun h=>letI i:=aa .add .i64 1 h.1;cond (aE (List.append (α:=Int) ([]:LZ) (List.append (α:=Int) ([]:LZ) [i]))) ((MR g (List.append (α:=Int) ([]:LZ) (List.append (α:=Int) ([]:LZ) [i]))).bind fun j=>(Jc h.2.1 h.2.2.1 h.2.2.2.1 7).bind fun k=>(OX (d,g,()) (k.2.1,k.2.2.1,k.2.2.2.1,0,([]:LZ),([]:Rx),j.1,j.2.1,j.2.2.1,k.1,())).bind fun l=>Sum.elim (fun m=>letI n:=m.2.2.2.2.2.2;some (n.1,n.2.1,n.2.2.1,m.1,m.2.1,m.2.2.1,())) (fun m=>Empty.elim m) l) none) ((MR g ([]:LZ)).bind fun h=>(Jc f.2.1 f.2.2.1 f.2.2.2.1 7).bind fun i=>(OX (d,g,()) (i.2.1,i.2.2.1,i.2.2.2.1,0,([]:LZ),([]:Rx),h.1,h.2.1,h.2.2.1,i.1,())).bind fun j=>Sum.elim (fun k=>letI l:=k.2.2.2.2.2.2;some (l.1,l.2.1,l.2.2.1,k.1,k.2.1,k.2.2.1,())) (fun k=>Empty.elim k) j)
noncomputable def V0(a:Unit)(b:LZ×YdC):Option (LZ×YdC⊕YcK⊕Empty):=letI c:=b.2.2.2;cond (af .gtr c.2.1 0) ((Qv b.1 b.2.1 b.2.2.1 (aa .add .i64 1 (aa .mul .i64 6 (ai c.1)))).bind fun d=>letI e:=(d.1,d.2.1,d.2.2.1);cond (aE (List.append (α:=XJ) c.1 (List.append (α:=XJ) ([]:Tl) [e]))) (lets (List.append (α:=XJ) ([]:Tl) [e]) fun _=>some (.inl (d.2.2.2.1,d.2.2.2.2.1,d.2.2.2.2.2.1,List.append (α:=XJ) c.1 (List.append (α:=XJ) ([]:Tl) [e]),aa .sub .i64 c.2.1 1,()))) none) (some (.inr (.inl (b.1,b.2.1,b.2.2.1,c.1,()))))
noncomputable def Ra k x:=iter (V0 k) big x
noncomputable def Tu(a:LZ)(b c:Int):Option (Tl×YN):=(Jc a b c 3).bind fun d=>(Ra () (d.2.1,d.2.2.1,d.2.2.2.1,([]:Tl),aa .add .i64 1 d.1,())).bind fun e=>Sum.elim (fun f=>some (f.2.2.2.1,f.1,f.2.1,f.2.2.1,())) (fun f=>Empty.elim f) e
noncomputable def Qf(a:LZ)(b c:Int):YcU:=(Qv a b c 1).bind fun d=>letI e:=d.2.2.1;(Jc d.2.2.2.1 d.2.2.2.2.1 d.2.2.2.2.2.1 (ai e)).bind fun f=>(Jc f.2.1 f.2.2.1 f.2.2.2.1 14).bind fun g=>letI h:=g.2.2;letI i:=d.2.1;letI j:=g.2.1;letI k:=h.2.1;letI l:=ae LY e f.1;cond (af .eql g.1 0) ((Kh j h.1 k (List.append (α:=Int) (List.append (α:=Int) (List.append (α:=Int) (List.append (α:=Int) ([]:LZ) [(0:Int)]) [(24:Int)]) [(25:Int)]) [aa .add .i64 d.1 1])).bind fun m=>some (m.1,i,e,m.2.1,m.2.2.1,m.2.2.2.1,())) (cond (af .eql g.1 1) ((Kh j h.1 k (List.append (α:=Int) (List.append (α:=Int) (List.append (α:=Int) (List.append (α:=Int) ([]:LZ) [(-1:Int)]) [(0:Int)]) [(1:Int)]) [(9223372036854775807:Int)])).bind fun m=>cond (ah e f.1) (some (d.1,i,aC e f.1 (l.1,m.1,l.2.2.1,l.2.2.2),m.2.1,m.2.2.1,m.2.2.2.1,())) none) (cond (af .eql g.1 2) ((Kh j h.1 k (List.append (α:=Int) (List.append (α:=Int) (List.append (α:=Int) (List.append (α:=Int) ([]:LZ) [(-1:Int)]) [(1:Int)]) [(999:Int)]) [(1000:Int)])).bind fun m=>cond (ah e f.1) (some (d.1,i,aC e f.1 (l.1,l.2.1,m.1,l.2.2.2),m.2.1,m.2.2.1,m.2.2.2.1,())) none) (cond (af .eql g.1 3) ((Jc j h.1 k 14).bind fun m=>cond (aE (List.append (α:=Int) i (List.append (α:=Int) ([]:LZ) [m.1]))) (some (d.1,List.append (α:=Int) i (List.append (α:=Int) ([]:LZ) [m.1]),e,m.2.1,m.2.2.1,m.2.2.2.1,())) none) (cond (af .eql g.1 4) (some (d.1,i,([]:Rx),j,h.1,k,())) (some (d.1,i,e,j,h.1,k,()))))))
noncomputable def Uk(a:Unit)(b:YcK):Option (YcK⊕YcK⊕Empty):=letI c:=b.2.2.2.1;cond (af .lss (ai c) 7) ((MR 3 ([]:LZ)).bind fun d=>letI e:=(d.1,d.2.1,d.2.2.1);cond (aE (List.append (α:=XJ) c (List.append (α:=XJ) ([]:Tl) [e]))) (lets (List.append (α:=XJ) ([]:Tl) [e]) fun _=>some (.inl (b.1,b.2.1,b.2.2.1,List.append (α:=XJ) c (List.append (α:=XJ) ([]:Tl) [e]),()))) none) (some (.inr (.inl (b.1,b.2.1,b.2.2.1,c,()))))
noncomputable def PT k x:=iter (Uk k) big x
noncomputable def Q9(a:LZ)(b c:Int):Option (Tl×YN):=(Tu a b c).bind fun d=>(Jc d.2.1 d.2.2.1 d.2.2.2.1 14).bind fun e=>letI f:=d.1;letI g:=e.2.2;letI h:=e.2.1;letI i:=g.2.1;letI j:=ae Ji f 0;cond (af .eql e.1 0) ((Qf h g.1 i).bind fun k=>cond (ah f 0) (some (aC f 0 (k.1,k.2.1,k.2.2.1),k.2.2.2.1,k.2.2.2.2.1,k.2.2.2.2.2.1,())) none) (cond (af .eql e.1 1) (cond (ah f 0) (cond (aE (List.append (α:=XJ) f (List.append (α:=XJ) ([]:Tl) [j]))) (lets (List.append (α:=XJ) ([]:Tl) [j]) fun _=>some (List.append (α:=XJ) f (List.append (α:=XJ) ([]:Tl) [j]),h,g.1,i,())) none) none) (cond (af .eql e.1 2) (some (([]:Tl),h,g.1,i,())) (cond (af .eql e.1 3) ((PT () (h,g.1,i,f,())).bind fun k=>Sum.elim (fun l=>some (l.2.2.2.1,l.1,l.2.1,l.2.2.1,())) (fun l=>Empty.elim l) k) (some (f,h,g.1,i,())))))
noncomputable def RS(a:TR)(b:YbM):Option (YbM⊕Int×Int×Int×Int×Int×Int×Int×Int×LZ×YcC⊕Empty):=letI c:=b.2.2.2;letI d:=c.2.2;letI e:=d.2.2.2;letI f:=e.2.2.2;letI g:=f.2.2.2;letI h:=g.2.2.2;letI i:=h.2.2;letI j:=i.2.1;cond (af .gtr i.2.2.1 0) ((Q8 e.1 e.2.1 e.2.2.1).bind fun k=>letI l:=(k.1,k.2.1);cond (aE (List.append (α:=YbY) i.1 (List.append (α:=YbY) ([]:Z2) [l]))) ((MR 4 ([]:LZ)).bind fun m=>(OV k.2.2.1 k.2.2.2.1 k.2.2.2.2.1 5).bind fun n=>letI o:=(m.1,m.2.1,m.2.2.1);letI p:=aa .sub .i64 i.2.2.1 1;cond n.1 ((Q9 n.2.1 n.2.2.1 n.2.2.2.1).bind fun q=>cond (aE (List.append (α:=Tl) j (List.append (α:=Tl) ([]:YbU) [q.1]))) (some (.inl (b.1,b.2.1,b.2.2.1,c.1,c.2.1,d.1,d.2.1,d.2.2.1,q.2.1,q.2.2.1,q.2.2.2.1,f.1,f.2.1,f.2.2.1,g.1,g.2.1,g.2.2.1,h.1,h.2.1,List.append (α:=YbY) i.1 (List.append (α:=YbY) ([]:Z2) [l]),List.append (α:=Tl) j (List.append (α:=Tl) ([]:YbU) [q.1]),p,()))) none) (cond (aE (List.append (α:=Tl) j (List.append (α:=Tl) ([]:YbU) [List.append (α:=XJ) ([]:Tl) [o]]))) (lets (List.append (α:=Tl) ([]:YbU) [List.append (α:=XJ) ([]:Tl) [o]]) fun _=>some (.inl (b.1,b.2.1,b.2.2.1,c.1,c.2.1,d.1,d.2.1,d.2.2.1,n.2.1,n.2.2.1,n.2.2.2.1,f.1,f.2.1,f.2.2.1,g.1,g.2.1,g.2.2.1,h.1,h.2.1,List.append (α:=YbY) i.1 (List.append (α:=YbY) ([]:Z2) [l]),List.append (α:=Tl) j (List.append (α:=Tl) ([]:YbU) [List.append (α:=XJ) ([]:Tl) [o]]),p,()))) none)) none) (some (.inr (.inl (b.1,b.2.1,b.2.2.1,c.1,c.2.1,d.1,d.2.1,d.2.2.1,e.1,e.2.1,e.2.2.1,f.1,f.2.1,f.2.2.1,g.1,g.2.1,g.2.2.1,h.1,h.2.1,i.1,j,()))))
noncomputable def Of k x:=iter (RS k) big x
noncomputable def Pe(a:LZ):Option YcC:=(U0 a).bind fun b=>(U3 b.1 b.2.1 b.2.2.1).bind fun c=>letI d:=(0:Int);letI e:=c.2.2.2.2.2;(Kh e.2.2.2.1 e.2.2.2.2.1 e.2.2.2.2.2.1 (List.append (α:=Int) (List.append (α:=Int) (List.append (α:=Int) (List.append (α:=Int) (List.append (α:=Int) ([]:LZ) [d]) [(10:Int)]) [(1000:Int)]) [(1001:Int)]) [(-1:Int)])).bind fun f=>(Kh f.2.1 f.2.2.1 f.2.2.2.1 (List.append (α:=Int) (List.append (α:=Int) (List.append (α:=Int) (List.append (α:=Int) (List.append (α:=Int) ([]:LZ) [(1:Int)]) [(77:Int)]) [d]) [(2147483646:Int)]) [(2147483647:Int)])).bind fun g=>(Jc g.2.1 g.2.2.1 g.2.2.2.1 4).bind fun h=>(Of (f.1,g.1,()) (d,d,d,d,d,d,d,d,h.2.1,h.2.2.1,h.2.2.2.1,c.1,c.2.1,c.2.2.1,c.2.2.2.1,c.2.2.2.2.1,e.1,e.2.1,e.2.2.1,([]:Z2),([]:YbU),h.1,())).bind fun i=>Sum.elim (fun j=>letI k:=j.2.2.2.2.2.2.2.2;(OV k.1 k.2.1 k.2.2.1 12).bind fun l=>letI m:=(([]:Rr),([]:Rr));letI n:=k.2.2.2;letI o:=n.2.2.2;letI p:=o.2.2;letI q:=p.2.2.2;cond l.1 (cond (aE (List.append (α:=YbY) q.1 (List.append (α:=YbY) ([]:Z2) [m]))) (lets (List.append (α:=YbY) ([]:Z2) [m]) fun _=>some (n.1,n.2.1,n.2.2.1,o.1,o.2.1,p.1,p.2.1,p.2.2.1,f.1,g.1,List.append (α:=YbY) q.1 (List.append (α:=YbY) ([]:Z2) [m]),q.2.1,())) none) (some (n.1,n.2.1,n.2.2.1,o.1,o.2.1,p.1,p.2.1,p.2.2.1,f.1,g.1,q.1,q.2.1,()))) (fun j=>Empty.elim j) i
noncomputable def Qb(a:YcX)(b:Rn):Ys:=letI c:=ae WM a.1 b.1;letI d:=ae WM a.2.1 b.1;cond (af .lss b.1 (ai a.1)) (cond (ah a.1 b.1) (cond (ah a.2.1 b.1) (cond (Bool.not (Bool.and (af .eql c.1 d.1) (Bool.and (af .eql c.2 d.2) true))) (some (.inr (.inl (false,())))) (some (.inl (aa .add .i64 b.1 1,())))) none) none) (some (.inr (.inr (.inl ()))))
noncomputable def Qc k x:=iter (Qb k) big x
noncomputable def Qp(a b:Rr):QV:=cond (af .neq (ai a) (ai b)) (some (false,())) ((Qc (a,b,()) (0,())).bind fun c=>Sum.elim (fun d=>some (d.1,())) (fun d=>Sum.elim (fun _=>some (true,())) (fun e=>Empty.elim e) d) c)
noncomputable def P7(a:Rx×Rx×Unit)(b:Rn):Ys:=letI c:=ae LY a.1 b.1;letI d:=ae LY a.2.1 b.1;cond (af .lss b.1 (ai a.1)) (cond (ah a.1 b.1) (cond (ah a.2.1 b.1) (lets (Bool.not (Bool.and (af .eql c.1 d.1) (Bool.and (af .eql c.2.1 d.2.1) (Bool.and (af .eql c.2.2.1 d.2.2.1) (Bool.and (bT c.2.2.2 d.2.2.2) true))))) fun e=>cond e (some (.inr (.inl (false,())))) (some (.inl (aa .add .i64 b.1 1,())))) none) none) (some (.inr (.inr (.inl ()))))
noncomputable def P8 k x:=iter (P7 k) big x
noncomputable def RM(a b:Rx):QV:=cond (af .neq (ai a) (ai b)) (some (false,())) ((P8 (a,b,()) (0,())).bind fun c=>Sum.elim (fun d=>some (d.1,())) (fun d=>Sum.elim (fun _=>some (true,())) (fun e=>Empty.elim e) d) c)
noncomputable def Q5(a:Int)(b:LZ)(c:Rx)(d:Int)(e:LZ)(f:Rx):QV:=letI g:=some (false,());cond (af .eql a d) ((SF b e).bind fun h=>cond h.1 ((RM c f).bind fun i=>some (i.1,())) g) g
noncomputable def QD(a:Tl×YbZ)(b:Rn):Ys:=letI c:=ae Ji a.1 b.1;letI d:=ae Ji a.2.1 b.1;cond (af .lss b.1 (ai a.1)) (cond (ah a.1 b.1) (cond (ah a.2.1 b.1) ((Q5 c.1 c.2.1 c.2.2 d.1 d.2.1 d.2.2).bind fun e=>cond (Bool.not e.1) (some (.inr (.inl (false,())))) (some (.inl (aa .add .i64 b.1 1,())))) none) none) (some (.inr (.inr (.inl ()))))
noncomputable def QE k x:=iter (QD k) big x
noncomputable def Q0(a b:Tl):QV:=cond (af .neq (ai a) (ai b)) (some (false,())) ((QE (a,b,()) (0,())).bind fun c=>Sum.elim (fun d=>some (d.1,())) (fun d=>Sum.elim (fun _=>some (true,())) (fun e=>Empty.elim e) d) c)
noncomputable def SG(a b:Rr)(c:Tl)(d e:Int)(f g h:Bool)(i j:Int)(k:Oo)(l m:Rr)(n:Tl)(o p:Int)(q r s:Bool)(t u:Int)(v:Oo):QV:=(Qp a l).bind fun w=>letI x:=some (false,());cond w.1 ((Qp b m).bind fun y=>cond y.1 ((Q0 c n).bind fun z=>cond z.1 (cond (Bool.and (af .eql d o) (Bool.and (af .eql e p) (Bool.and (bT f q) (Bool.and (bT g r) (Bool.and (bT h s) true))))) (cond (af .eql i t) (cond (af .eql j u) ((PV k v).bind fun A=>some (A.1,())) x) x) x) x) x) x
noncomputable def P9(a:TA×TA×Unit)(b:Rn):Ys:=letI c:=ae b8 a.1 b.1;letI d:=ae b8 a.2.1 b.1;letI e:=d.2;letI f:=c.2.2;letI g:=f.2.2.2.2;letI h:=e.2.2.2.2.2;cond (af .lss b.1 (ai a.1)) (cond (ah a.1 b.1) (cond (ah a.2.1 b.1) ((SG c.1 c.2.1 f.1 f.2.1 f.2.2.1 f.2.2.2.1 g.1 g.2.1 g.2.2.1 g.2.2.2.1 g.2.2.2.2 d.1 e.1 e.2.1 e.2.2.1 e.2.2.2.1 e.2.2.2.2.1 h.1 h.2.1 h.2.2.1 h.2.2.2.1 h.2.2.2.2).bind fun i=>cond (Bool.not i.1) (some (.inr (.inl (false,())))) (some (.inl (aa .add .i64 b.1 1,())))) none) none) (some (.inr (.inr (.inl ()))))
noncomputable def Qa k x:=iter (P9 k) big x
noncomputable def RN(a b:TA):QV:=cond (af .neq (ai a) (ai b)) (some (false,())) ((Qa (a,b,()) (0,())).bind fun c=>Sum.elim (fun d=>some (d.1,())) (fun d=>Sum.elim (fun _=>some (true,())) (fun e=>Empty.elim e) d) c)
noncomputable def Tk(a:U4×U4×Unit)(b:Rn):Ys:=letI c:=ae zW a.1 b.1;letI d:=ae zW a.2.1 b.1;letI e:=d.2.2;letI f:=c.2.2.2;letI g:=e.2.2.2.2.2;letI h:=f.2.2.2.2.2;cond (af .lss b.1 (ai a.1)) (cond (ah a.1 b.1) (cond (ah a.2.1 b.1) (lets (Bool.not (Bool.and (af .eql c.1 d.1) (Bool.and (af .eql c.2.1 d.2.1) (Bool.and (af .eql c.2.2.1 e.1) (Bool.and (af .eql f.1 e.2.1) (Bool.and (af .eql f.2.1 e.2.2.1) (Bool.and (af .eql f.2.2.1 e.2.2.2.1) (Bool.and (af .eql f.2.2.2.1 e.2.2.2.2.1) (Bool.and (af .eql f.2.2.2.2.1 g.1) (Bool.and (af .eql h.1 g.2.1) (Bool.and (af .eql h.2.1 g.2.2.1) (Bool.and (af .eql h.2.2.1 g.2.2.2.1) (Bool.and (af .eql h.2.2.2.1 g.2.2.2.2.1) (Bool.and (af .eql h.2.2.2.2 g.2.2.2.2.2) true)))))))))))))) fun i=>cond i (some (.inr (.inl (false,())))) (some (.inl (aa .add .i64 b.1 1,())))) none) none) (some (.inr (.inr (.inl ()))))
noncomputable def Pd k x:=iter (Tk k) big x
noncomputable def QG(a b:U4):QV:=cond (af .neq (ai a) (ai b)) (some (false,())) ((Pd (a,b,()) (0,())).bind fun c=>Sum.elim (fun d=>some (d.1,())) (fun d=>Sum.elim (fun _=>some (true,())) (fun e=>Empty.elim e) d) c)
noncomputable def Ua(a:Uq×Uq×Unit)(b:Rn):Ys:=letI c:=ae SS a.1 b.1;letI d:=ae SS a.2.1 b.1;letI e:=c.2.2.2;letI f:=d.2.2.2;cond (af .lss b.1 (ai a.1)) (cond (ah a.1 b.1) (cond (ah a.2.1 b.1) (lets (Bool.not (Bool.and (af .eql c.1 d.1) (Bool.and (af .eql c.2.1 d.2.1) (Bool.and (af .eql c.2.2.1 d.2.2.1) (Bool.and (af .eql e.1 f.1) (Bool.and (af .eql e.2.1 f.2.1) (Bool.and (af .eql e.2.2.1 f.2.2.1) (Bool.and (bT e.2.2.2 f.2.2.2) true)))))))) fun g=>cond g (some (.inr (.inl (false,())))) (some (.inl (aa .add .i64 b.1 1,())))) none) none) (some (.inr (.inr (.inl ()))))
noncomputable def PN k x:=iter (Ua k) big x
noncomputable def Q6(a b:Uq):QV:=cond (af .neq (ai a) (ai b)) (some (false,())) ((PN (a,b,()) (0,())).bind fun c=>Sum.elim (fun d=>some (d.1,())) (fun d=>Sum.elim (fun _=>some (true,())) (fun e=>Empty.elim e) d) c)
noncomputable def QF(a b c d e f g h i j k:Int)(l:TA)(m:U4)(n:Uq)(o:Oo)(p q r s t u v w x y z:Int)(A:TA)(B:U4)(C:Uq)(D:Oo):QV:=lets (Bool.and (af .eql a p) (Bool.and (af .eql b q) (Bool.and (af .eql c r) (Bool.and (af .eql d s) (Bool.and (af .eql e t) (Bool.and (af .eql f u) (Bool.and (af .eql g v) (Bool.and (af .eql h w) true)))))))) fun E=>letI F:=some (false,());cond E (cond (af .eql i x) (cond (af .eql j y) (cond (af .eql k z) ((RN l A).bind fun G=>cond G.1 ((QG m B).bind fun H=>cond H.1 ((Q6 n C).bind fun I=>cond I.1 ((PV o D).bind fun J=>some (J.1,())) F) F) F) F) F) F) F
noncomputable def OB(a:Unit)(b:Z2×YbU×YaM):Option (Z2×YbU×YaM⊕Z1⊕Z2×YaP⊕Empty):=letI c:=b.2.2.2;letI d:=c.2.2.2;letI e:=d.2.2.2;letI f:=e.2.2;letI g:=f.2.2;letI h:=g.2.2;letI i:=h.2.2.1;cond (af .lss i (ai g.1)) (cond (ah g.1 i) (cond (ah b.2.1 i) ((Q0 (ae b8 g.1 i).2.2.1 (ae KW b.2.1 i)).bind fun j=>cond (Bool.not j.1) (some (.inr (.inl (false,())))) (some (.inl (b.1,b.2.1,b.2.2.1,c.1,c.2.1,c.2.2.1,d.1,d.2.1,d.2.2.1,e.1,e.2.1,f.1,f.2.1,g.1,g.2.1,h.1,h.2.1,aa .add .i64 i 1,())))) none) none) (some (.inr (.inr (.inl (b.1,b.2.2.1,c.1,c.2.1,c.2.2.1,d.1,d.2.1,d.2.2.1,e.1,e.2.1,f.1,f.2.1,g.1,g.2.1,h.1,h.2.1,())))))
noncomputable def OC k x:=iter (OB k) big x
noncomputable def Re(a:LZ):QV:=(YD a).bind fun b=>cond b.1 (some (true,())) ((Pe a).bind fun c=>letI d:=c.2.2.2;letI e:=d.2.2.2;letI f:=e.2.2.2;(Q3 c.1 c.2.1 c.2.2.1 d.1 d.2.1 d.2.2.1 e.1 e.2.1 e.2.2.1 f.1 f.2.1 f.2.2.1).bind fun g=>(Q7 c.1 c.2.1 c.2.2.1 d.1 d.2.1 d.2.2.1 e.1 e.2.1 e.2.2.1 f.1 f.2.1 f.2.2.1).bind fun h=>letI i:=h.2.2;letI j:=some (false,());letI k:=i.2.2;letI l:=g.2.2.2.2;letI m:=k.2.2;letI n:=m.2.2;letI o:=l.2.2.2.2;letI p:=n.2.2;letI q:=o.2.2.2;letI r:=p.2.2;cond (Bool.not (bT q.2.2.2.2.1 r.2.2.2.1)) j ((QF g.1 g.2.1 g.2.2.1 g.2.2.2.1 l.1 l.2.1 l.2.2.1 l.2.2.2.1 o.1 o.2.1 o.2.2.1 q.1 q.2.1 q.2.2.1 q.2.2.2.1 h.1 h.2.1 i.1 i.2.1 k.1 k.2.1 m.1 m.2.1 n.1 n.2.1 p.1 p.2.1 r.1 r.2.1 r.2.2.1).bind fun s=>cond (Bool.not s.1) j (cond (Bool.not r.2.2.2.1) (some (af .eql (ai q.1) 0,())) ((OC () (f.2.1,f.2.2.1,h.1,h.2.1,i.1,i.2.1,k.1,k.2.1,m.1,m.2.1,n.1,n.2.1,p.1,p.2.1,r.1,r.2.1,r.2.2.1,0,())).bind fun t=>Sum.elim (fun u=>some (u.1,())) (fun u=>Sum.elim (fun v=>letI w:=v.2.2;letI x:=w.2.2;letI y:=x.2.2;letI z:=y.2.2;letI A:=z.2.2;letI B:=A.2.2;letI C:=B.2.2;(K1 v.2.1 w.1 w.2.1 x.1 x.2.1 y.1 y.2.1 z.1 z.2.1 A.1 A.2.1 B.1 B.2.1 C.1 C.2.1).bind fun D=>cond D.1 ((SA v.2.1 w.1 w.2.1 x.1 x.2.1 y.1 y.2.1 z.1 z.2.1 A.1 A.2.1 B.1 B.2.1 C.1 C.2.1).bind fun E=>cond E.1 (cond (af .eql (ai B.2.1) 0) ((UJ v.2.1 w.1 w.2.1 x.1 x.2.1 y.1 y.2.1 z.1 z.2.1 A.1 A.2.1 B.1 B.2.1 C.1 C.2.1).bind fun F=>cond (af .eql F.1 0) (some (af .eql (ai B.1) (ai v.1),())) j) j) j) j) (fun v=>Empty.elim v) u) t))))
end Go.Fn
set_option linter.unusedVariables false
namespace Go.Fn
open Go.R
theorem To(h:Int)(f:List Int)(hf:f.length<=1048576):Yl (MR h f) fun y=>y.2.1.length<=f.length/\y.2.2.1.length<=f.length+1:=by
 unfold MR;refine .guard (KP (by simp;omega)) ?_;have hl:Yl (Qd (h,f,()) ((0:Int),[],[],h,List.append (α:=Int) [] f,[],(0:Int),(0:Int),())) fun q=>match q with
   | .inl y=>y.2.1.length=0/\y.2.2.1.length=0
   | .inr (.inl y)=>y.2.2.2.2.1=f/\y.2.2.2.2.2.1.length<=f.length+1
   | .inr (.inr _)=>True:=by
  unfold Qd;refine Yl.loop (fun x=>x.2.2.2.2.1=f/\0<=x.2.2.2.2.2.2.2.1/\x.2.2.2.2.2.2.2.1<=(f.length:Int)+1/\(x.2.2.2.2.2.1.length:Int)=x.2.2.2.2.2.2.2.1) (fun x=>f.length+1-x.2.2.2.2.2.2.2.1.toNat) (fun x hx=>?_) big _
   ⟨rfl,Int.le_refl _,by show(0:Int)<=(f.length:Int)+1;omega,rfl⟩ (aN (by show f.length+1-0<_;omega))
  obtain⟨x1,x2,x3,x4⟩:=hx;have key:af .leq x.2.2.2.2.2.2.2.1 (ai f)=true->∀(v:Bx) (lo:Int),(match(Sum.inl (x.1,x.2.1,x.2.2.1,x.2.2.2.1,x.2.2.2.2.1,List.append x.2.2.2.2.2.1 (List.append [] [v]),lo,aa .add .i64 x.2.2.2.2.2.2.2.1 (1:Int),()):(Int×List Int×List Bx×Int×List Int×List Bx×Int×Int×Unit)⊕((Int×List Int×List Bx×Bool×Unit)⊕((Int×List Int×List Bx×Int×List Int×List Bx×Unit)⊕Empty)))with
    | .inl y=>(y.2.2.2.2.1=f/\0<=y.2.2.2.2.2.2.2.1/\y.2.2.2.2.2.2.2.1<=(f.length:Int)+1/\(y.2.2.2.2.2.1.length:Int)=y.2.2.2.2.2.2.2.1)/\f.length+1-y.2.2.2.2.2.2.2.1.toNat<f.length+1-x.2.2.2.2.2.2.2.1.toNat
    | .inr b=>match b with
     | .inl y=>y.2.1.length=0/\y.2.2.1.length=0
     | .inr (.inl y)=>y.2.2.2.2.1=f/\y.2.2.2.2.2.1.length<=f.length+1
     | .inr (.inr _)=>True):=by
   intro h1 v lo;have h1:x.2.2.2.2.2.2.2.1<=(f.length:Int):=of_decide_eq_true h1;have e1:aa .add .i64 x.2.2.2.2.2.2.2.1 (1:Int)=x.2.2.2.2.2.2.2.1+1:=bU (by omega) (by omega);simp only[e1];have e2:(List.append x.2.2.2.2.2.1 (List.append [] [v])).length=x.2.2.2.2.2.1.length+1:=by simp
   refine⟨⟨x1,by omega,by omega,by rw[e2];push_cast;omega⟩,by omega⟩
  unfold UZ;refine .cond (fun h1=>?_) fun _=>.ret ⟨x1,by show x.2.2.2.2.2.1.length<=f.length+1;omega⟩;have sm:∀v:Bx,aE (List.append x.2.2.2.2.2.1 (List.append [] [v]))=true:=fun v=>KP (by have h1:x.2.2.2.2.2.2.2.1<=(f.length:Int):=of_decide_eq_true h1;simp;omega);refine .cond (fun h2=>.guard (Pc x2 (of_decide_eq_true h2)) ?_) fun h2=>?_
  ·refine .cond (fun _=>.ret ⟨rfl,rfl⟩) fun _=>.cond (fun _=>.ret ⟨rfl,rfl⟩) fun _=>.guard (sm _) (.lets (.lets (.ret (key h1 _ _))))
  ·refine .cond (fun _=>.ret ⟨rfl,rfl⟩) fun _=>.cond (fun _=>.ret ⟨rfl,rfl⟩) fun _=>.guard (sm _) (.lets (.lets (.ret (key h1 _ _))))
 refine hl.bind fun q hq=>?_;match q,hq with
 | .inl y,hq=>exact .ret ⟨by rw[hq.1];omega,by rw[hq.2];omega⟩
 | .inr (.inl y),hq=>refine Yl.bind (P:=fun _=>True) ⟨_,Q1 _ _ _ (by rw[hq.1];omega) (by omega),trivial⟩ fun y4 _=>?_;exact .cond (fun _=>.ret ⟨by show 0<=_;omega,by show 0<=_;omega⟩) fun _=>.ret ⟨by rw[hq.1];exact Nat.le_refl _,hq.2⟩
 | .inr (.inr q),_=>exact nomatch q
theorem aap(h:Int)(f:List Int)(l:List Bx)(p:Int)(hf:f.length<=1048576)(hl:l.length<=1048576)(hp:1<=p):Yl (R3 h f l p) fun y=>y.2.1=f/\y.2.2.1.length=l.length:=by
 unfold R3;rw[VA h f l (by omega) (by omega),YK h f l (by omega) hp,Q1 h f l (by omega) (by omega)];simp only[Option.bind_some];refine .cond (fun _=>.ret ⟨rfl,rfl⟩) fun _=>.cond (fun _=>.ret ⟨rfl,rfl⟩) fun h1=>?_;have hin:ah l (afC (abL l p))=true:=by
  cases hx:abL l p with
  |none=>rw[hx]at h1;exact absurd h1 (by decide)
  |some n=>show ah l ((n:Nat):Int)=true;rw[ax];exact decide_eq_true (acG hx)
 exact .guard hin (.cond (fun _=>.ret ⟨rfl,rfl⟩) fun _=>.guard hin (.ret ⟨rfl,Tp _ _ _⟩))
theorem aa6(h:Int)(f:List Int)(l:List Bx)(u:Int)(b:Bool)(hf:f.length<=1048576)(hl:l.length<=1048576):Yl (SQ h f l u b) fun y=>y.2.1=f/\y.2.2.1.length=l.length:=by
 unfold SQ;rw[VA h f l (by omega) (by omega)];simp only[Option.bind_some];have wl:Yl (R1 (u,b,h,f,l,()) ((0:Int),[],[],h,f,l,(0:Int),())) fun q=>match q with
   | .inl y=>y.2.1=f/\y.2.2.1.length=l.length
   | .inr (.inl y)=>y.2.2.2.2.1=f/\y.2.2.2.2.2.1.length=l.length
   | .inr (.inr _)=>True:=by
  unfold R1;refine Yl.loop (fun x=>x.2.2.2.2.1=f/\x.2.2.2.2.2.1.length=l.length/\0<=x.2.2.2.2.2.2.1) (fun x=>l.length-x.2.2.2.2.2.2.1.toNat) (fun x hx=>?_) big _ ⟨rfl,rfl,Int.le_refl _⟩ (aN (by show l.length-0<_;omega));obtain⟨x1,x2,x3⟩:=hx;unfold Wy;refine .cond (fun h1=>?_) fun _=>.ret ⟨x1,x2⟩;have h1:x.2.2.2.2.2.2.1<(l.length:Int):=of_decide_eq_true h1;have hin:ah l x.2.2.2.2.2.2.1=true:=Pc x3 h1;have agJ:ah x.2.2.2.2.2.1 x.2.2.2.2.2.2.1=true:=Pc x3 (by omega);refine Yl.bind (P:=fun _=>True) ⟨_,Q1 _ _ _ (by show f.length<=_;omega) (by show l.length<=_;omega),trivial⟩ fun y0 _=>?_;refine .cond (fun _=>.guard hin (.guard hin (.guard hin (Yl.bind (P:=fun _=>True) ?_ fun y1 _=>?_)))) fun _=>.ret ⟨x1,x2⟩
  ·exact⟨_,RL _ _ _,trivial⟩
  ·refine .cond (fun _=>.guard agJ (.lets (.ret ⟨x1,?_⟩))) fun _=>.ret ?_
   ·exact(Tp _ _ _).trans x2
   ·have e1:aa .add .i64 x.2.2.2.2.2.2.1 (1:Int)=x.2.2.2.2.2.2.1+1:=bU (by omega) (by omega);show(x.2.2.2.2.1=f/\x.2.2.2.2.2.1.length=l.length/\0<=aa .add .i64 x.2.2.2.2.2.2.1 (1:Int))/\l.length-(aa .add .i64 x.2.2.2.2.2.2.1 (1:Int)).toNat<l.length-x.2.2.2.2.2.2.1.toNat;rw[e1];exact⟨⟨x1,x2,by omega⟩,by omega⟩
 refine wl.bind fun q hq=>?_;match q,hq with
 | .inl y,hq=>exact .ret hq
 | .inr (.inl y),hq=>exact .ret hq
 | .inr (.inr q),_=>exact nomatch q
end Go.Fn
set_option linter.unusedVariables false
namespace Go.Fn
open Go.R
noncomputable def opn(b:Bx):Bool:=af .eql b.2.2.1 0 && !b.2.2.2
theorem aay(b:Bx):R6 b.1 b.2.1 b.2.2.1 b.2.2.2=some (opn b,()):=by unfold R6 opn;cases af .eql b.2.2.1 (0:Int) <;> rfl
abbrev Gp:=Int×Int×Int
noncomputable def Yk(l:List Bx)(o:List Gp):Prop:=∀g,g∈o->∃b,b∈l/\g.2.1=b.1
theorem Yk.iB{l:List Bx}{o:List Gp}(h:Yk l o){b:Bx}(hb:b∈l)(z:Int):Yk l (List.append o (List.append [] [((0:Int),b.1,z)])):=by
 intro g hg;have hg:g∈o++[((0:Int),b.1,z)]:=hg;rcases List.mem_append.1 hg with hg|hg
 ·exact h g hg
 ·rw[List.mem_singleton]at hg;subst hg;exact⟨b,hb,rfl⟩
theorem Yk.put{l:List Bx}{o:List Gp}(h:Yk l o){i:Int}(h0:0<=i)(h1:i<(o.length:Int))(z z':Int):Yk l (aC o i (z,(ae aa9 o i).2.1,z')):=by
 intro g hg;unfold aC at hg;rcases List.mem_or_eq_of_mem_set hg with hg|hg
 ·exact h g hg
 ·have hm:ae aa9 o i∈o:=by
   unfold ae;rw[List.getD_eq_getElem?_getD,List.getElem?_eq_getElem (by omega)];exact List.getElem_mem _
  obtain⟨b,hb,e⟩:=h _ hm;subst hg;exact⟨b,hb,e⟩
theorem get_mem{α:Type}{z:α}{l:List α}{i:Int}(h0:0<=i)(h1:i<(l.length:Int)):ae z l i∈l:=by unfold ae;rw[List.getD_eq_getElem?_getD,List.getElem?_eq_getElem (by omega)];exact List.getElem_mem _
theorem aaN(h:Int)(f:List Int)(l:List Bx)(hf:f.length<=1048576)(hl:l.length<=1048576):Yl (UU h f l) fun y=>Yk l y.1/\y.1.length<=l.length:=by
 unfold UU;rw[Q1 h f l (by omega) (by omega)];simp only[Option.bind_some];refine .cond (fun _=>.ret ⟨fun g hg=>absurd hg List.not_mem_nil,Nat.zero_le _⟩) fun _=>?_;have wl:Yl (RT (h,f,l,()) ([],(0:Int),())) fun q=>match q with
   | .inl y=>Yk l y.1/\y.1.length<=l.length
   | .inr _=>True:=by
  unfold RT;refine Yl.loop (fun x=>Yk l x.1/\x.1.length<=x.2.1.toNat/\0<=x.2.1/\x.2.1<=(l.length:Int)/\(x.2.1>0->opn (ae LY l (x.2.1-1))=true->1<=x.1.length)) (fun x=>l.length-x.2.1.toNat) (fun x hx=>?_) big _
   ⟨fun g hg=>absurd hg List.not_mem_nil,Nat.zero_le _,Int.le_refl _,by show(0:Int)<=(l.length:Int);omega,fun h=>absurd h (by decide)⟩ (aN (by show l.length-0<_;omega))
  obtain⟨x1,x2,x3,x4,x5⟩:=hx;unfold Wx;refine .cond (fun h1=>?_) fun _=>.ret ⟨x1,by show x.1.length<=_;omega⟩;have h1:x.2.1<(l.length:Int):=of_decide_eq_true h1;have hin:ah l x.2.1=true:=Pc x3 h1;have hbm:ae LY l x.2.1∈l:=get_mem x3 h1;have e1:aa .add .i64 x.2.1 (1:Int)=x.2.1+1:=bU (by omega) (by omega);have step:∀(o:List Gp),Yk l o->o.length<=x.1.length+1->(opn (ae LY l x.2.1)=true->1<=o.length) ->
    (Yk l o/\o.length<=(aa .add .i64 x.2.1 (1:Int)).toNat/\0<=aa .add .i64 x.2.1 (1:Int)/\aa .add .i64 x.2.1 (1:Int)<=(l.length:Int)/\(aa .add .i64 x.2.1 (1:Int)>0->opn (ae LY l (aa .add .i64 x.2.1 (1:Int)-1))=true->1<=o.length))/\l.length-(aa .add .i64 x.2.1 (1:Int)).toNat<l.length-x.2.1.toNat:=by
   intro o ho hlen hop;rw[e1,Int.add_sub_cancel];exact⟨⟨ho,by omega,by omega,by omega,fun _=>hop⟩,by omega⟩
  have abC:∀z,(List.append x.1 (List.append [] [((0:Int),(ae LY l x.2.1).1,z)])).length=x.1.length+1:=fun z=>by simp
  have sm:∀z,aE (List.append x.1 (List.append [] [((0:Int),(ae LY l x.2.1).1,z)]))=true:=fun z=>KP (by rw[abC];omega);have push:∀z,(Yk l (List.append x.1 (List.append [] [((0:Int),(ae LY l x.2.1).1,z)]))/\_/\_/\_/\_)/\_:=fun z=>step _ (x1.iB hbm z) (Nat.le_of_eq (abC z)) fun _=>by rw[abC];omega
  refine .guard hin ?_;rw[aay];simp only[Option.bind_some];refine .cond (fun h2=>.ret (step x.1 x1 (by omega) fun h3=>?_)) fun h2=>?_
  ·have h2:(!opn (ae LY l x.2.1))=true:=h2;rw[h3]at h2;cases h2
  ·refine .cond (fun h3=>?_) fun _=>.guard (sm _) (.ret (push _));have h3:(0:Int)<x.2.1:=of_decide_eq_true h3;have e2:aa .sub .i64 x.2.1 (1:Int)=x.2.1-1:=bM (by omega) (by omega);refine .guard (by rw[e2];exact Pc (by omega) (by omega)) ?_;rw[aay];simp only[Option.bind_some];refine .cond (fun h4=>?_) fun _=>.guard (sm _) (.ret (push _));rw[e2]at h4;have h5:=x5 h3 h4;refine Yl.bind (P:=fun _=>True) ⟨_,aam _ _ (by show f.length<=_;omega),trivial⟩ fun y2 _=>?_;refine .cond (fun _=>?_) fun _=>.guard (sm _) (.ret (push _));have e3:aa .sub .i64 (ai x.1) (1:Int)=(x.1.length:Int)-1:=bM (by unfold ai;omega) (by unfold ai;omega);have lI:ah x.1 (aa .sub .i64 (ai x.1) (1:Int))=true:=by rw[e3];exact Pc (by omega) (by omega)
   refine .guard lI (.guard lI (.lets (.ret (step _ (x1.put (by rw[e3];omega) (by rw[e3];omega) _ _) ?_ fun _=>?_))))
   ·rw[Tp];omega
   ·rw[Tp];exact h5
 refine wl.bind fun q hq=>?_;match q,hq with
 | .inl y,hq=>exact .ret hq
 | .inr q,_=>exact nomatch q
end Go.Fn
set_option linter.unusedVariables false
namespace Go.Fn
open Go.R
theorem abE(o:List Gp)(s:Int)(ho:o.length<=1048576):Yl (SJ o s) fun y=>y.1<(o.length:Int):=by
 unfold SJ;have hl:Yl (QR (o,s,()) ((-1:Int),(0:Int),())) fun q=>match q with
   | .inl y=>y.1<(o.length:Int)
   | .inr _=>True:=by
  unfold QR;refine Yl.loop (fun x=>x.1<(o.length:Int)/\0<=x.2.1) (fun x=>o.length-x.2.1.toNat) (fun x hx=>?_) big _ ⟨by show(-1:Int)<(o.length:Int);omega,Int.le_refl _⟩ (aN (by show o.length-0<_;omega));obtain⟨x1,x2⟩:=hx;unfold Vv;refine .cond (fun h1=>?_) fun _=>.ret x1;have h1:x.2.1<(o.length:Int):=of_decide_eq_true h1;have e1:aa .add .i64 x.2.1 (1:Int)=x.2.1+1:=bU (by omega) (by omega);have hin:ah o x.2.1=true:=Pc x2 h1;have step:∀b:Int,b<(o.length:Int)->(b<(o.length:Int)/\0<=aa .add .i64 x.2.1 (1:Int))/\o.length-(aa .add .i64 x.2.1 (1:Int)).toNat<o.length-x.2.1.toNat:=fun b hb=>by rw[e1];exact⟨⟨hb,by omega⟩,by omega⟩
  refine .guard hin (.cond (fun _=>.cond (fun _=>.ret (step _ h1)) fun h2=>?_) fun _=>.ret (step _ x1));have h2:¬x.1<0:=of_decide_eq_false h2;exact .guard hin (.guard (Pc (by omega) x1) (.cond (fun _=>.ret (step _ h1)) fun _=>.ret (step _ x1)))
 refine hl.bind fun q hq=>?_;match q,hq with
 | .inl y,hq=>exact .ret hq
 | .inr q,_=>exact nomatch q
theorem abv(h:Int)(f:List Int)(l:List Bx)(s:Int)(hf:f.length<=1048576)(hl:l.length<=1048576):Yl (VD h f l s) fun y=>y.2.2.2.1=true->∃b,b∈l/\y.2.1=b.1:=by unfold VD;refine(aaN h f l hf hl).bind fun y0 ⟨a1,a2⟩=>(abE y0.1 s (by omega)).bind fun y1 b1=>?_;refine .cond (fun _=>.ret fun h=>by cases h) fun _=>.cond (fun _=>.ret fun h=>by cases h) fun h2=>?_;have h2:¬y1.1<0:=of_decide_eq_false h2;exact .guard (Pc (by omega) b1) (.ret fun _=>a1 _ (get_mem (by omega) b1))
theorem ach(h:Int)(f:List Int)(l:List Bx)(gc gl gs p s:Int)(hf:f.length<=1048576)(hl:l.length<=1048576):Yl (Tv h f l gc gl gs p s) fun y=>y.2.1=f/\y.2.2.1.length<=3*l.length/\((∃b,b∈l/\gl=b.1)->1<=y.2.2.1.length):=by
 unfold Tv;refine .guard (KP (by simp;omega)) ?_;have wl:Yl (Rb (p,s,h,f,l,gc,gl,gs,()) ((0:Int),[],[],h,List.append (α:=Int) [] f,[],(0:Int),())) fun q=>match q with
   | .inl y=>y.2.2.2.2.1=f/\y.2.2.2.2.2.1.length<=3*l.length/\((∃b,b∈l/\gl=b.1)->1<=y.2.2.2.2.2.1.length)
   | .inr _=>True:=by
  unfold Rb;refine Yl.loop (fun x=>x.2.2.2.2.1=f/\0<=x.2.2.2.2.2.2.1/\x.2.2.2.2.2.2.1<=(l.length:Int)/\x.2.2.2.2.2.1.length<=3*x.2.2.2.2.2.2.1.toNat/\∀k:Nat,(k:Int)<x.2.2.2.2.2.2.1->(l.getD k LY).1=gl->1<=x.2.2.2.2.2.1.length) (fun x=>l.length-x.2.2.2.2.2.2.1.toNat) (fun x hx=>?_) big _
   ⟨rfl,Int.le_refl _,by show(0:Int)<=(l.length:Int);omega,Nat.le_refl _,fun k hk=>absurd hk (by show ¬(k:Int)<0;omega)⟩ (aN (by show l.length-0<_;omega))
  obtain⟨x1,x2,x3,x4,x5⟩:=hx;unfold V1;refine .cond (fun h1=>?_) fun h1=>.ret ⟨x1,by show x.2.2.2.2.2.1.length<=_;omega,fun⟨b,hb,e⟩=>?_⟩
  ·have h1:x.2.2.2.2.2.2.1<(l.length:Int):=of_decide_eq_true h1;have hin:ah l x.2.2.2.2.2.2.1=true:=Pc x2 h1;have e1:aa .add .i64 x.2.2.2.2.2.2.1 (1:Int)=x.2.2.2.2.2.2.1+1:=bU (by omega) (by omega);have step:∀o:List Bx,o.length<=3*x.2.2.2.2.2.2.1.toNat+3->x.2.2.2.2.2.1.length<=o.length->((ae LY l x.2.2.2.2.2.2.1).1=gl->1<=o.length) ->
     (x.2.2.2.2.1=f/\0<=aa .add .i64 x.2.2.2.2.2.2.1 (1:Int)/\aa .add .i64 x.2.2.2.2.2.2.1 (1:Int)<=(l.length:Int)/\o.length<=3*(aa .add .i64 x.2.2.2.2.2.2.1 (1:Int)).toNat/\∀k:Nat,(k:Int)<aa .add .i64 x.2.2.2.2.2.2.1 (1:Int)->(l.getD k LY).1=gl->1<=o.length)/\l.length-(aa .add .i64 x.2.2.2.2.2.2.1 (1:Int)).toNat<l.length-x.2.2.2.2.2.2.1.toNat:=by
    intro o o1 o2 o3;rw[e1];refine⟨⟨x1,by omega,by omega,by omega,fun k hk hkg=>?_⟩,by omega⟩;by_cases hlt:(k:Int)<x.2.2.2.2.2.2.1
    ·exact Nat.le_trans (x5 k hlt hkg) o2
    ·have:k=x.2.2.2.2.2.2.1.toNat:=by omega
     subst this;exact o3 hkg
   have al:∀(o:List Bx) (v:Bx),(List.append o (List.append [] [v])).length=o.length+1:=fun o v=>by simp
   have sm:∀(o:List Bx) (v:Bx),o.length<=3*x.2.2.2.2.2.2.1.toNat+2->aE (List.append o (List.append [] [v]))=true:=fun o v ho=>KP (by rw[al];omega);refine .guard hin (.cond (fun h2=>?_) fun h2=>?_)
   ·refine .guard (sm _ _ (by omega)) (.lets (.cond (fun _=>.guard (sm _ _ (by rw[al];omega)) (.lets (.lets ?_))) fun _=>?_))
    ·refine .cond (fun _=>.guard (sm _ _ (by rw[al,al];omega)) (.lets (.ret (step _ (by rw[al,al,al];omega) (by rw[al,al,al];omega) fun _=>by rw[al];omega)))) fun _=>.cond (fun _=>.guard (sm _ _ (by rw[al,al];omega)) (.lets (.ret (step _ (by rw[al,al,al];omega) (by rw[al,al,al];omega) fun _=>by rw[al];omega)))) fun _=>.ret (step _ (by rw[al,al];omega) (by rw[al,al];omega) fun _=>by rw[al];omega)
    ·refine .cond (fun _=>.guard (sm _ _ (by rw[al];omega)) (.lets (.ret (step _ (by rw[al,al];omega) (by rw[al,al];omega) fun _=>by rw[al];omega)))) fun _=>.cond (fun _=>.guard (sm _ _ (by rw[al];omega)) (.lets (.ret (step _ (by rw[al,al];omega) (by rw[al,al];omega) fun _=>by rw[al];omega)))) fun _=>.ret (step _ (by rw[al];omega) (by rw[al];omega) fun _=>by rw[al];omega)
   ·have h2:(af .eql (ae LY l x.2.2.2.2.2.2.1).1 gl)=false:=h2;have hne:(ae LY l x.2.2.2.2.2.2.1).1=gl->False:=fun e=>by rw[e]at h2;simp[af]at h2
    refine .cond (fun _=>.guard (sm _ _ (by omega)) (.lets (.ret (step _ (by rw[al];omega) (by rw[al];omega) fun e=>(hne e).elim)))) fun _=>.cond (fun _=>.guard (sm _ _ (by omega)) (.lets (.ret (step _ (by rw[al];omega) (by rw[al];omega) fun e=>(hne e).elim)))) fun _=>.ret (step x.2.2.2.2.2.1 (by omega) (Nat.le_refl _) fun e=>(hne e).elim)
  ·have h1:¬x.2.2.2.2.2.2.1<(l.length:Int):=of_decide_eq_false h1;obtain⟨k,hk,rfl⟩:=List.getElem_of_mem hb;exact x5 k (by omega) (by rw[List.getD_eq_getElem?_getD,List.getElem?_eq_getElem hk];exact e.symm)
 refine wl.bind fun q hq=>?_;match q,hq with
 | .inl y,hq=>exact .ret hq
 | .inr q,_=>exact nomatch q
theorem abM(h:Int)(f:List Int)(l:List Bx)(p s:Int)(hf:f.length<=1048576)(hl:l.length<=1048576)(pQ:1<=l.length)(hp:1<=p):Yl (Ui h f l p s) fun y=>y.2.1=f/\y.2.2.1.length<=3*l.length/\1<=y.2.2.1.length:=by
 unfold Ui;have hc:=VA h f l (by omega) (by omega);refine(abv h f l s hf hl).bind fun y0 a0=>?_;rw[hc,RL,YK h f l (by omega) hp];simp only[Option.bind_some];refine .cond (fun _=>.ret ⟨rfl,by show l.length<=_;omega,pQ⟩) fun h1=>?_;have h1:y0.2.2.2.1=true:=by
  cases h3:y0.2.2.2.1 with
  |true=>rfl
  |false=>rw[h3]at h1;cases h1
 refine .cond (fun _=>.ret ⟨rfl,by show l.length<=_;omega,pQ⟩) fun _=>.cond (fun _=>.ret ⟨rfl,by show l.length<=_;omega,pQ⟩) fun _=>?_;exact(ach h f l _ _ _ p s hf hl).bind fun y3 ⟨c1,c2,c3⟩=>.ret ⟨c1,c2,c3 (a0 h1)⟩
end Go.Fn
set_option linter.unusedVariables false
namespace Go.Fn
open Go.R
noncomputable def Ze(h:Int)(f:List Int):Bool:=match MR h f with
 |some y=>decide (1<=y.2.2.1.length)
 |none=>false
theorem nc0:((List.range 9).all fun a=>Ze (aa .add .i64 4 ((a:Nat):Int)) [])=true:=by decide +kernel
theorem nc1:((List.range 9).all fun a=>(List.range (a+2)).all fun k=>Ze (aa .add .i64 4 ((a:Nat):Int)) [aa .add .i64 1 ((k:Nat):Int)])=true:=by decide +kernel
theorem acd{a:Int}(h0:0<=a)(h1:a<=8):Yl (MR (aa .add .i64 4 a) []) fun y=>y.2.1.length<=1/\1<=y.2.2.1.length/\y.2.2.1.length<=2:=by obtain⟨y,e,y1,y2⟩:=To (aa .add .i64 4 a) [] (by decide);have h:=List.all_eq_true.1 nc0 a.toNat (List.mem_range.2 (by omega));rw[show((a.toNat:Nat):Int)=a by omega]at h;unfold Ze at h;rw[e]at h;exact⟨y,e,by simpa using Nat.le_trans y1 (Nat.zero_le 1),of_decide_eq_true h,Nat.le_trans y2 (by decide)⟩
theorem ace{a k:Int}(h0:0<=a)(h1:a<=8)(k0:0<=k)(k1:k<=a+1):Yl (MR (aa .add .i64 4 a) [aa .add .i64 1 k]) fun y=>y.2.1.length<=1/\1<=y.2.2.1.length/\y.2.2.1.length<=2:=by obtain⟨y,e,y1,y2⟩:=To (aa .add .i64 4 a) [aa .add .i64 1 k] (by show 1<=_;decide);have h:=List.all_eq_true.1 (List.all_eq_true.1 nc1 a.toNat (List.mem_range.2 (by omega))) k.toNat (List.mem_range.2 (by omega));rw[show((a.toNat:Nat):Int)=a by omega,show((k.toNat:Nat):Int)=k by omega]at h;unfold Ze at h;rw[e]at h;exact⟨y,e,y1,of_decide_eq_true h,y2⟩
theorem Y4(b:List Int)(hb:b.length<=1048576)(i h a:Int)(hi:0<=i)(ha:1<=a)(ha2:a<=1000000):Yl (Qv b i h a) fun y=>y.2.1.length<=1/\1<=y.2.2.1.length/\y.2.2.1.length<=1458/\y.2.2.2.1=b/\0<=y.2.2.2.2.1:=by
 unfold Qv;have loop:∀(hh i' h' n c1:Int) (c2:List Int) (c3:List Bx),hh<=1073741824->0<=i'->n<=6->c2.length<=1->1<=c3.length->c3.length<=2 ->
   Yl (OX (a,hh,()) (b,i',h',(0:Int),[],[],c1,c2,c3,n,())) fun q=>match q with
    | .inl y=>y.1=b/\0<=y.2.1/\y.2.2.2.2.2.2.2.1.length<=1/\1<=y.2.2.2.2.2.2.2.2.1.length/\y.2.2.2.2.2.2.2.2.1.length<=1458
    | .inr _=>True:=by
  intro hh i' h' n c1 c2 c3 hhh hi' hn CE hc3 hc4;unfold OX;refine Yl.loop (fun x=>x.1=b/\0<=x.2.1/\x.2.2.2.2.2.2.2.1.length<=1/\1<=x.2.2.2.2.2.2.2.2.1.length/\x.2.2.2.2.2.2.2.2.1.length*3 ^ x.2.2.2.2.2.2.2.2.2.1.toNat<=1458/\x.2.2.2.2.2.2.2.2.2.1<=6) (fun x=>x.2.2.2.2.2.2.2.2.2.1.toNat) (fun x hx=>?_) big _
   ⟨rfl,hi',CE,hc3,?_,hn⟩ (aN (by show n.toNat<_;omega))
  ·obtain⟨x1,x2,x3,x4,x5,x6⟩:=hx;have x7:x.2.2.2.2.2.2.2.2.1.length<=1458:=by have h3:1<=3 ^ x.2.2.2.2.2.2.2.2.2.1.toNat:=Nat.pow_pos (by decide);have:=Nat.mul_le_mul_left x.2.2.2.2.2.2.2.2.1.length h3;omega
   unfold U1;refine .cond (fun g1=>?_) fun _=>.ret ⟨x1,x2,x3,x4,x7⟩;have g1:(0:Int)<x.2.2.2.2.2.2.2.2.2.1:=of_decide_eq_true g1;have e1:aa .sub .i64 x.2.2.2.2.2.2.2.2.2.1 (1:Int)=x.2.2.2.2.2.2.2.2.2.1-1:=bM (by omega) (by omega);have step:∀(c:List Int) (j j':Int) (z1:Int) (f':List Int) (l':List Bx),c=b->0<=j->f'.length<=1->1<=l'.length->l'.length<=3*x.2.2.2.2.2.2.2.2.1.length ->
     (c=b/\0<=j/\f'.length<=1/\1<=l'.length/\l'.length*3 ^ (aa .sub .i64 x.2.2.2.2.2.2.2.2.2.1 (1:Int)).toNat<=1458/\aa .sub .i64 x.2.2.2.2.2.2.2.2.2.1 (1:Int)<=6)/\(aa .sub .i64 x.2.2.2.2.2.2.2.2.2.1 (1:Int)).toNat<x.2.2.2.2.2.2.2.2.2.1.toNat:=by
    intro c j j' z1 f' l' k1 k2 k3 k4 k5;rw[e1];refine⟨⟨k1,k2,k3,k4,?_,by omega⟩,by omega⟩;have e3:x.2.2.2.2.2.2.2.2.2.1.toNat=(x.2.2.2.2.2.2.2.2.2.1-1).toNat+1:=by omega
    rw[e3,Nat.pow_succ]at x5;have h6:=Nat.mul_le_mul_right (3 ^ (x.2.2.2.2.2.2.2.2.2.1-1).toNat) k5;have h7:3*x.2.2.2.2.2.2.2.2.1.length*3 ^ (x.2.2.2.2.2.2.2.2.2.1-1).toNat=x.2.2.2.2.2.2.2.2.1.length*(3 ^ (x.2.2.2.2.2.2.2.2.2.1-1).toNat*3):=by rw[Nat.mul_comm 3,Nat.mul_assoc,Nat.mul_comm 3]
    omega
   rw[x1];refine(K6 b hb _ _ 6 x2 (by omega)).bind fun y0 ⟨a1,a2,a3,a4⟩=>?_;rw[a3];refine(K6 b hb _ _ 6 a4 (by omega)).bind fun y1 ⟨b1,b2,b3,b4⟩=>?_;have hp:1<=aa .add .i64 a y0.1:=by have a2:y0.1<=5:=a2;rw[bU (by omega) (by omega)];omega
   rw[b3];refine .cond (fun _=>.cond (fun _=>?_) fun _=>.cond (fun _=>?_) fun _=>?_) fun _=>.cond (fun _=>?_) fun _=>.cond (fun _=>?_) fun _=>?_;all_goals first
    |exact(aap _ _ _ _ (by omega) (by omega) hp).bind fun y2 ⟨q1,q2⟩=>.ret (step b y1.2.2.1 y1.2.2.2.1 y2.1 y2.2.1 y2.2.2.1 rfl b4 (by rw[q1];exact x3) (by rw[q2];exact x4) (by rw[q2];omega))
    |exact(K6 b hb _ _ hh b4 hhh).bind fun y2 ⟨_,_,c3,c4⟩=>by rw[c3];exact(Yv b hb _ _ 3 c4 (by omega)).bind fun y3 ⟨d1,d2⟩=>(aa6 x.2.2.2.2.2.2.1 _ _ y2.1 y3.1 (by omega) (by omega)).bind fun y4 ⟨q1,q2⟩=>.ret (step y3.2.1 y3.2.2.1 y3.2.2.2.1 y4.1 y4.2.1 y4.2.2.1 d1 d2 (by rw[q1];exact x3) (by rw[q2];exact x4) (by rw[q2];omega))
    |exact(K6 b hb _ _ 4 b4 (by omega)).bind fun y2 ⟨_,_,c3,c4⟩=>(abM x.2.2.2.2.2.2.1 _ _ (aa .add .i64 a y0.1) (aa .add .i64 (1:Int) y2.1) (by omega) (by omega) x4 hp).bind fun y3 ⟨q1,q2,q3⟩=>.ret (step y2.2.1 y2.2.2.1 y2.2.2.2.1 y3.1 y3.2.1 y3.2.2.1 c3 c4 (by rw[q1];exact x3) q3 q2)
  ·show c3.length*3 ^ n.toNat<=1458;have h1:3 ^ n.toNat<=3 ^ 6:=Nat.pow_le_pow_right (by decide) (by omega);have h2:=Nat.mul_le_mul hc4 h1;exact Nat.le_trans h2 (by decide)
 refine(K6 b hb i h 9 hi (by omega)).bind fun y0 ⟨a1,a2,a3,a4⟩=>?_;have a2:y0.1<=8:=a2;have e4:aa .add .i64 (4:Int) y0.1=4+y0.1:=bU (by omega) (by omega);rw[a3];refine(Yv b hb _ _ 2 a4 (by omega)).bind fun y1 ⟨b1,b2⟩=>?_;rw[b1];refine .cond (fun _=>?_) fun _=>?_
 ·have e5:aa .sub .i64 (aa .add .i64 (4:Int) y0.1) (2:Int)=2+y0.1:=by rw[e4,bM (by omega) (by omega)];omega
  refine(K6 b hb _ _ _ b2 (by rw[e5];omega)).bind fun y2 ⟨c1,c2,c3,c4⟩=>.guard (KP (by simp)) ?_;rw[e5]at c2;refine(ace a1 a2 c1 (by omega)).bind fun y3 ⟨d1,d2,d3⟩=>?_;rw[c3];refine(K6 b hb _ _ 7 c4 (by omega)).bind fun y4 ⟨f1,f2,f3,f4⟩=>?_;rw[f3];refine(loop _ _ _ _ _ _ _ (by rw[e4];omega) f4 f2 d1 d2 d3).bind fun q hq=>?_;match q,hq with
  | .inl y,hq=>exact .ret ⟨hq.2.2.1,hq.2.2.2.1,hq.2.2.2.2,hq.1,hq.2.1⟩
  | .inr q,_=>exact nomatch q
 ·refine(acd a1 a2).bind fun y3 ⟨d1,d2,d3⟩=>?_;refine(K6 b hb _ _ 7 b2 (by omega)).bind fun y4 ⟨f1,f2,f3,f4⟩=>?_;rw[f3];refine(loop _ _ _ _ _ _ _ (by rw[e4];omega) f4 f2 d1 d2 d3).bind fun q hq=>?_;match q,hq with
  | .inl y,hq=>exact .ret ⟨hq.2.2.1,hq.2.2.2.1,hq.2.2.2.2,hq.1,hq.2.1⟩
  | .inr q,_=>exact nomatch q
end Go.Fn
set_option linter.unusedVariables false
namespace Go.Fn
open Go.R
noncomputable def YP(c:Int×List Int×List Bx):Prop:=c.2.1.length<=2/\c.2.2.length<=1458
theorem ab6(b:List Int)(hb:b.length<=1048576)(i h:Int)(hi:0<=i):Yl (Tu b i h) fun y=>1<=y.1.length/\y.1.length<=3/\(∀c,c∈y.1->YP c)/\y.2.1=b/\0<=y.2.2.1:=by
 unfold Tu;refine(K6 b hb i h 3 hi (by omega)).bind fun y0 ⟨a1,a2,a3,a4⟩=>?_;have a2:y0.1<=2:=a2;have e1:aa .add .i64 (1:Int) y0.1=1+y0.1:=bU (by omega) (by omega);have hl:Yl (Ra () (y0.2.1,y0.2.2.1,y0.2.2.2.1,[],aa .add .i64 (1:Int) y0.1,())) fun q=>match q with
   | .inl y=>y.1=b/\0<=y.2.1/\1<=y.2.2.2.1.length/\y.2.2.2.1.length<=3/\∀c,c∈y.2.2.2.1->YP c
   | .inr _=>True:=by
  unfold Ra;refine Yl.loop (fun x=>x.1=b/\0<=x.2.1/\(x.2.2.2.1.length:Int)+x.2.2.2.2.1=1+y0.1/\0<=x.2.2.2.2.1/\∀c,c∈x.2.2.2.1->YP c) (fun x=>x.2.2.2.2.1.toNat) (fun x hx=>?_) big _
   ⟨a3,a4,by show(0:Int)+aa .add .i64 (1:Int) y0.1=_;rw[e1];omega,by show 0<=aa .add .i64 (1:Int) y0.1;rw[e1];omega,fun c hc=>absurd hc List.not_mem_nil⟩ (aN (by show(aa .add .i64 (1:Int) y0.1).toNat<_;rw[e1];omega))
  obtain⟨x1,x2,x3,x4,x5⟩:=hx;unfold V0;refine .cond (fun g1=>?_) fun g1=>.ret ⟨x1,x2,?_,?_,x5⟩
  ·have g1:(0:Int)<x.2.2.2.2.1:=of_decide_eq_true g1;have e2:aa .sub .i64 x.2.2.2.2.1 (1:Int)=x.2.2.2.2.1-1:=bM (by omega) (by omega);have e3:aa .mul .i64 (6:Int) (ai x.2.2.2.1)=6*(x.2.2.2.1.length:Int):=iY (by unfold ai;omega) (by unfold ai;omega);have e4:aa .add .i64 (1:Int) (aa .mul .i64 (6:Int) (ai x.2.2.2.1))=1+6*(x.2.2.2.1.length:Int):=by rw[e3];exact bU (by omega) (by omega)
   rw[x1];refine(Y4 b hb _ _ _ x2 (by rw[e4];omega) (by rw[e4];omega)).bind fun y1 ⟨c1,c2,c3,c4,c5⟩=>.guard (KP (by simp;omega)) (.lets (.ret ?_));have al:(List.append x.2.2.2.1 (List.append [] [(y1.1,y1.2.1,y1.2.2.1)])).length=x.2.2.2.1.length+1:=by simp
   refine⟨⟨c4,c5,?_,?_,fun c hc=>?_⟩,?_⟩
   ·show((List.append x.2.2.2.1 (List.append [] [(y1.1,y1.2.1,y1.2.2.1)])).length:Int)+aa .sub .i64 x.2.2.2.2.1 (1:Int)=_;rw[al,e2];push_cast;omega
   ·show 0<=aa .sub .i64 x.2.2.2.2.1 (1:Int);rw[e2];omega
   ·have hc:c∈x.2.2.2.1++[(y1.1,y1.2.1,y1.2.2.1)]:=hc;rcases List.mem_append.1 hc with hc|hc
    ·exact x5 c hc
    ·rw[List.mem_singleton]at hc;subst hc;exact⟨by show y1.2.1.length<=2;omega,c3⟩
   ·show(aa .sub .i64 x.2.2.2.2.1 (1:Int)).toNat<x.2.2.2.2.1.toNat;rw[e2];omega
  ·have g1:¬(0:Int)<x.2.2.2.2.1:=of_decide_eq_false g1;show 1<=x.2.2.2.1.length;omega
  ·show x.2.2.2.1.length<=3;omega
 refine hl.bind fun q hq=>?_;match q,hq with
 | .inl y,hq=>exact .ret ⟨hq.2.2.1,hq.2.2.2.1,hq.2.2.2.2,hq.1,hq.2.1⟩
 | .inr q,_=>exact nomatch q
theorem Zd(b:List Int)(hb:b.length<=1048576)(i h:Int)(hi:0<=i):Yl (Qf b i h) fun y=>YP (y.1,y.2.1,y.2.2.1)/\y.2.2.2.1=b/\0<=y.2.2.2.2.1:=by
 unfold Qf;refine(Y4 b hb i h 1 hi (by omega) (by omega)).bind fun y0 ⟨a1,a2,a3,a4,a5⟩=>?_;rw[a4];refine(K6 b hb _ _ (ai y0.2.2.1) a5 (by unfold ai;omega)).bind fun y1 ⟨b1,b2,b3,b4⟩=>?_;have b2:y1.1<=max 0 ((y0.2.2.1.length:Int)-1):=b2;have hin:ah y0.2.2.1 y1.1=true:=Pc b1 (by omega);rw[b3];refine(K6 b hb _ _ 14 b4 (by omega)).bind fun y2 ⟨c1,c2,c3,c4⟩=>?_;rw[c3];have old:∀z:Int,YP (z,y0.2.1,y0.2.2.1):=fun z=>⟨by show y0.2.1.length<=2;omega,a3⟩
 have put:∀v,YP (y0.1,y0.2.1,aC y0.2.2.1 y1.1 v):=fun v=>⟨by show y0.2.1.length<=2;omega,by show(aC y0.2.2.1 y1.1 v).length<=1458;rw[Tp];exact a3⟩
 refine .cond (fun _=>(M4 b hb _ _ _ c4 (by simp) (by simp)).bind fun y3 ⟨_,d2,d3⟩=>.ret ⟨old _,d2,d3⟩) fun _=>?_;refine .cond (fun _=>(M4 b hb _ _ _ c4 (by simp) (by simp)).bind fun y3 ⟨_,d2,d3⟩=>.guard hin (.ret ⟨put _,d2,d3⟩)) fun _=>?_;refine .cond (fun _=>(M4 b hb _ _ _ c4 (by simp) (by simp)).bind fun y3 ⟨_,d2,d3⟩=>.guard hin (.ret ⟨put _,d2,d3⟩)) fun _=>?_;refine .cond (fun _=>(K6 b hb _ _ 14 c4 (by omega)).bind fun y3 ⟨_,_,d2,d3⟩=>.guard (KP (by simp;omega)) (.ret ⟨⟨by show(List.append y0.2.1 (List.append [] [y3.1])).length<=2;simp;omega,a3⟩,d2,d3⟩)) fun _=>?_;exact .cond (fun _=>.ret ⟨⟨by show y0.2.1.length<=2;omega,Nat.zero_le _⟩,rfl,c4⟩) fun _=>.ret ⟨old _,rfl,c4⟩
theorem Z4(b:List Int)(hb:b.length<=1048576)(i h:Int)(hi:0<=i):Yl (Q9 b i h) fun y=>y.1.length<=7/\(∀c,c∈y.1->YP c)/\y.2.1=b/\0<=y.2.2.1:=by
 unfold Q9;refine(ab6 b hb i h hi).bind fun y0 ⟨a1,a2,a3,a4,a5⟩=>?_;rw[a4];refine(K6 b hb _ _ 14 a5 (by omega)).bind fun y1 ⟨b1,b2,b3,b4⟩=>?_;rw[b3];have hin:ah y0.1 (0:Int)=true:=Pc (by omega) (by omega);refine .cond (fun _=>(Zd b hb _ _ b4).bind fun y2 ⟨c1,c2,c3⟩=>.guard hin (.ret ⟨?_,fun c hc=>?_,c2,c3⟩)) fun _=>?_
 ·show(aC y0.1 (0:Int) _).length<=7;rw[Tp];omega
 ·unfold aC at hc;rcases List.mem_or_eq_of_mem_set hc with hc|hc
  ·exact a3 c hc
  ·rw[hc];exact c1
 refine .cond (fun _=>.guard hin (.guard (KP (by simp;omega)) (.lets (.ret ⟨?_,fun c hc=>?_,rfl,b4⟩)))) fun _=>?_
 ·show(List.append y0.1 (List.append [] _)).length<=7;simp;omega
 ·have hc:c∈y0.1++[ae Ji y0.1 (0:Int)]:=hc;rcases List.mem_append.1 hc with hc|hc
  ·exact a3 c hc
  ·rw[List.mem_singleton]at hc;rw[hc];exact a3 _ (get_mem (by omega) (by omega))
 refine .cond (fun _=>.ret ⟨Nat.zero_le _,fun c hc=>absurd hc List.not_mem_nil,rfl,b4⟩) fun _=>?_;refine .cond (fun _=>?_) fun _=>.ret ⟨Nat.le_trans a2 (by decide),a3,rfl,b4⟩;have hl:Yl (PT () (b,y1.2.2.1,y1.2.2.2.1,y0.1,())) fun q=>match q with
   | .inl y=>y.1=b/\0<=y.2.1/\y.2.2.2.1.length<=7/\∀c,c∈y.2.2.2.1->YP c
   | .inr _=>True:=by
  unfold PT;refine Yl.loop (fun x=>x.1=b/\0<=x.2.1/\x.2.2.2.1.length<=7/\∀c,c∈x.2.2.2.1->YP c) (fun x=>7-x.2.2.2.1.length) (fun x hx=>?_) big _ ⟨rfl,b4,by show y0.1.length<=7;omega,a3⟩ (aN (by show 7-y0.1.length<_;omega));obtain⟨x1,x2,x3,x4⟩:=hx;unfold Uk;refine .cond (fun h1=>?_) fun _=>.ret ⟨x1,x2,x3,x4⟩;have h1:((x.2.2.2.1.length:Nat):Int)<7:=of_decide_eq_true h1;refine(To 3 [] (by decide)).bind fun y2 ⟨d1,d2⟩=>.guard (KP (by simp;omega)) (.lets (.ret ⟨⟨x1,x2,?_,fun c hc=>?_⟩,?_⟩))
  ·show(List.append x.2.2.2.1 (List.append [] _)).length<=7;simp;omega
  ·have hc:c∈x.2.2.2.1++[(y2.1,y2.2.1,y2.2.2.1)]:=hc;rcases List.mem_append.1 hc with hc|hc
   ·exact x4 c hc
   ·rw[List.mem_singleton]at hc;subst hc;exact⟨Nat.le_trans d1 (by decide),Nat.le_trans d2 (by decide)⟩
  ·show 7-(List.append x.2.2.2.1 (List.append [] _)).length<7-x.2.2.2.1.length;simp;omega
 refine hl.bind fun q hq=>?_;match q,hq with
 | .inl y,hq=>exact .ret ⟨hq.2.2.1,hq.2.2.2,hq.1,hq.2.1⟩
 | .inr q,_=>exact nomatch q
end Go.Fn
set_option linter.unusedVariables false
namespace Go.Fn
open Go.R
noncomputable def WkD(w:List (Int×Int)×List (Int×Int)):Prop:=w.1.length<=30/\w.2.length<=30
noncomputable def BkD(k:List (Int×List Int×List Bx)):Prop:=k.length<=7/\∀c,c∈k->YP c
theorem mem_push{α:Type}{P:α->Prop}{l:List α}{v:α}(h:∀x,x∈l->P x)(hv:P v):∀x,x∈List.append l (List.append [] [v])->P x:=by
 intro x hx;have hx:x∈l++[v]:=hx;rcases List.mem_append.1 hx with hx|hx
 ·exact h x hx
 ·rw[List.mem_singleton]at hx;rw[hx];exact hv
theorem Z7(b:List Int)(hb:b.length<=1048576):Yl (Pe b) fun y=>y.2.2.2.2.2.2.2.2.2.2.1.length<=4/\y.2.2.2.2.2.2.2.2.2.2.2.1.length<=3/\(∀w,w∈y.2.2.2.2.2.2.2.2.2.2.1->WkD w)/\∀k,k∈y.2.2.2.2.2.2.2.2.2.2.2.1->BkD k:=by
 unfold Pe;refine(adL b hb).bind fun y0 ⟨a1,a2⟩=>?_;rw[a1];refine(ab4 b hb _ _ (by rw[a2];exact Int.le_refl _)).bind fun y1 ⟨b1,b2⟩=>?_;rw[b1];refine(M4 b hb _ _ _ b2 (by simp) (by simp)).bind fun y2 ⟨_,c2,c3⟩=>?_;rw[c2];refine(M4 b hb _ _ _ c3 (by simp) (by simp)).bind fun y3 ⟨_,d2,d3⟩=>?_;rw[d2];refine(K6 b hb _ _ 4 d3 (by omega)).bind fun y4 ⟨e1,e2,e3,e4⟩=>?_;have e2:y4.1<=3:=e2;have hl:∀s,(s.2.2.2.2.2.2.2.2.1=b/\0<=s.2.2.2.2.2.2.2.2.2.1/\(s.2.2.2.2.2.2.2.2.2.2.2.2.2.2.2.2.2.2.2.1.length:Int)+s.2.2.2.2.2.2.2.2.2.2.2.2.2.2.2.2.2.2.2.2.2.1<=3/\(s.2.2.2.2.2.2.2.2.2.2.2.2.2.2.2.2.2.2.2.2.1.length:Int)+s.2.2.2.2.2.2.2.2.2.2.2.2.2.2.2.2.2.2.2.2.2.1<=3/\0<=s.2.2.2.2.2.2.2.2.2.2.2.2.2.2.2.2.2.2.2.2.2.1/\(∀w,w∈s.2.2.2.2.2.2.2.2.2.2.2.2.2.2.2.2.2.2.2.1->WkD w)/\∀k,k∈s.2.2.2.2.2.2.2.2.2.2.2.2.2.2.2.2.2.2.2.2.1->BkD k)->Yl (Of (y2.1,y3.1,()) s) fun q=>match q with
   | .inl y=>y.2.2.2.2.2.2.2.2.1=b/\0<=y.2.2.2.2.2.2.2.2.2.1/\y.2.2.2.2.2.2.2.2.2.2.2.2.2.2.2.2.2.2.2.1.length<=3/\y.2.2.2.2.2.2.2.2.2.2.2.2.2.2.2.2.2.2.2.2.1.length<=3/\(∀w,w∈y.2.2.2.2.2.2.2.2.2.2.2.2.2.2.2.2.2.2.2.1->WkD w)/\∀k,k∈y.2.2.2.2.2.2.2.2.2.2.2.2.2.2.2.2.2.2.2.2.1->BkD k
   | .inr _=>True:=by
  intro s hs;unfold Of;refine Yl.loop (fun x=>x.2.2.2.2.2.2.2.2.1=b/\0<=x.2.2.2.2.2.2.2.2.2.1/\(x.2.2.2.2.2.2.2.2.2.2.2.2.2.2.2.2.2.2.2.1.length:Int)+x.2.2.2.2.2.2.2.2.2.2.2.2.2.2.2.2.2.2.2.2.2.1<=3/\(x.2.2.2.2.2.2.2.2.2.2.2.2.2.2.2.2.2.2.2.2.1.length:Int)+x.2.2.2.2.2.2.2.2.2.2.2.2.2.2.2.2.2.2.2.2.2.1<=3/\0<=x.2.2.2.2.2.2.2.2.2.2.2.2.2.2.2.2.2.2.2.2.2.1/\(∀w,w∈x.2.2.2.2.2.2.2.2.2.2.2.2.2.2.2.2.2.2.2.1->WkD w)/\∀k,k∈x.2.2.2.2.2.2.2.2.2.2.2.2.2.2.2.2.2.2.2.2.1->BkD k) (fun x=>x.2.2.2.2.2.2.2.2.2.2.2.2.2.2.2.2.2.2.2.2.2.1.toNat) (fun x hx=>?_) big s hs (aN (by omega));obtain⟨x1,x2,x3,x4,x5,x6,x7⟩:=hx;unfold RS;refine .cond (fun g1=>?_) fun g1=>.ret ⟨x1,x2,?_,?_,x6,x7⟩
  ·have g1:(0:Int)<x.2.2.2.2.2.2.2.2.2.2.2.2.2.2.2.2.2.2.2.2.2.1:=of_decide_eq_true g1;have n1:aa .sub .i64 x.2.2.2.2.2.2.2.2.2.2.2.2.2.2.2.2.2.2.2.2.2.1 (1:Int)=x.2.2.2.2.2.2.2.2.2.2.2.2.2.2.2.2.2.2.2.2.2.1-1:=bM (by omega) (by omega);rw[x1];refine(Z5 b hb _ _ x2).bind fun z0 ⟨f1,f2,f3,f4⟩=>.guard (KP (by simp;omega)) ?_;refine(To 4 [] (by decide)).bind fun z1 ⟨h1,h2⟩=>?_;rw[f3];refine(Yv b hb _ _ 5 f4 (by omega)).bind fun z2 ⟨i1,i2⟩=>?_;rw[i1];refine .cond (fun _=>(Z4 b hb _ _ i2).bind fun z3 ⟨j1,j2,j3,j4⟩=>.guard (KP (by simp;omega)) (.ret ⟨⟨j3,j4,?_,?_,?_,mem_push x6 ⟨f1,f2⟩,mem_push x7 ⟨j1,j2⟩⟩,?_⟩)) fun _=>.guard (KP (by simp;omega)) (.lets (.ret ⟨⟨rfl,i2,?_,?_,?_,mem_push x6 ⟨f1,f2⟩,mem_push x7 ⟨by show(List.append [] [_]).length<=7;simp,fun c hc=>?_⟩⟩,?_⟩));all_goals first
    |(rw[List.mem_singleton.1 (show c∈[(z1.1,z1.2.1,z1.2.2.1)]from hc)];exact⟨Nat.le_trans h1 (by decide),Nat.le_trans h2 (by decide)⟩)
    |(dsimp only;rw[n1];simp <;> omega)
    |(dsimp only;rw[n1];omega)
  ·have g1:¬(0:Int)<x.2.2.2.2.2.2.2.2.2.2.2.2.2.2.2.2.2.2.2.2.2.1:=of_decide_eq_false g1;show x.2.2.2.2.2.2.2.2.2.2.2.2.2.2.2.2.2.2.2.1.length<=3;omega
  ·show x.2.2.2.2.2.2.2.2.2.2.2.2.2.2.2.2.2.2.2.2.1.length<=3;omega
 refine(hl _ ⟨e3,e4,by dsimp only;simp <;> omega,by dsimp only;simp <;> omega,e1,fun w hw=>absurd hw List.not_mem_nil,fun k hk=>absurd hk List.not_mem_nil⟩).bind fun q hq=>?_;match q,hq with
 | .inr q,_=>exact nomatch q
 | .inl y,hq=>obtain⟨G9,y2',y3',y4',y5',y6'⟩:=hq;dsimp only[Sum.elim_inl];refine(Yv _ (by rw[G9];exact hb) _ _ 12 y2' (by omega)).bind fun y7 ⟨_,_⟩=>?_;refine .cond (fun _=>.guard (KP (by simp;omega)) (.lets (.ret ⟨?_,y4',mem_push y5' ⟨Nat.zero_le _,Nat.zero_le _⟩,y6'⟩))) fun _=>.ret ⟨Nat.le_trans y3' (by decide),y4',y5',y6'⟩;dsimp only;simp <;> omega
end Go.Fn
set_option linter.unusedVariables false
namespace Go.Fn
open Go.R
section
variable (a0 a1 a2 a3 a4 a5 a6 a7 a8 a9:Int) (W:List Wk) (B:List (List V6))
theorem abJ(hl:W.length<=1048576)(hW:∀n,n<W.length->abk (W.getD n NQ))(hB:∀n,n<B.length->ZB (B.getD n KW)):
  ∃r:ad1,Q7 a0 a1 a2 a3 a4 a5 a6 a7 a8 a9 W B=some r/\Q3 a0 a1 a2 a3 a4 a5 a6 a7 a8 a9 W B=some r/\(r=ZO\/(W.length=B.length/\r=(a0,a1,a2,a3,a4,a5,a6,a7,a8,a9,0,Jx W B,[],[],[],true,())/\K1 a0 a1 a2 a3 a4 a5 a6 a7 a8 a9 0 (Jx W B) [] [] []=some (true,()))):=by
 unfold Q7 Q3;by_cases h:W.length=B.length
 ·have n1:af .neq (ai W) (ai B)=false:=by unfold ai;rw[h];exact Py _
  have n2:af .neq (ai B) (ai W)=false:=by unfold ai;rw[h];exact Py _
  have hle:=ZN h hl hW hB;have iL:=abD a0 a1 a2 a3 a4 a5 a6 a7 a8 a9 W B h hl hW hB;have sL:=abS a0 a1 a2 a3 a4 a5 a6 a7 a8 a9 W B h hl hW hB;rw[n1,n2];by_cases h3:3<W.length
  ·have g3:af .gtr (ai W) (3:Int)=true:=by simp only[af,ai,gt_iff_lt,decide_eq_true_eq];omega
   have hm:=aaf a0 a1 a2 a3 a4 a5 a6 a7 a8 a9 0 (Jx W B) [] [] [] (by rw[Od h];exact h3);refine⟨ZO,?_,?_,.inl rfl⟩
   ·rw[g3];rfl
   ·refine(cF rfl).trans ((Pb iL).trans ?_);show((K1 a0 a1 a2 a3 a4 a5 a6 a7 a8 a9 0 (Jx W B) [] [] []).bind _)=_;refine(Pb hm).trans ?_;rfl
  ·have g3:af .gtr (ai W) (3:Int)=false:=by simp only[af,ai,gt_iff_lt,decide_eq_false_iff_not];omega
   obtain⟨⟨b,u⟩,s1,i1,_⟩:=aah a0 a1 a2 a3 a4 a5 a6 a7 a8 a9 0 (Jx W B) [] [] [] hle;refine⟨bif b then(a0,a1,a2,a3,a4,a5,a6,a7,a8,a9,0,Jx W B,[],[],[],true,())else ZO,?_,?_,?_⟩
   ·rw[g3];refine(cF rfl).trans ((cF rfl).trans ((Pb sL).trans ?_));show((PE a0 a1 a2 a3 a4 a5 a6 a7 a8 a9 0 (Jx W B) [] [] []).bind _)=_;refine(Pb s1).trans ?_;cases b <;> rfl
   ·refine(cF rfl).trans ((Pb iL).trans ?_);show((K1 a0 a1 a2 a3 a4 a5 a6 a7 a8 a9 0 (Jx W B) [] [] []).bind _)=_;refine(Pb i1).trans ?_;cases b <;> rfl
   ·cases b with
    |false=>exact .inl rfl
    |true=>exact .inr ⟨h,rfl,i1⟩
 ·have n1:af .neq (ai W) (ai B)=true:=by simp only[af,ai,bne_iff_ne,ne_eq];omega
  have n2:af .neq (ai B) (ai W)=true:=by simp only[af,ai,bne_iff_ne,ne_eq];omega
  refine⟨ZO,?_,?_,.inl rfl⟩
  ·rw[n1];rfl
  ·rw[n2];rfl
end
end Go.Fn
set_option linter.unusedVariables false
set_option linter.unusedSimpArgs false
namespace Go.Fn
open Go.R
theorem Vl(a:Int):af .eql a a=true:=by simp[af]
theorem YG(l:List Bx)(hl:l.length<=1073741824):RM l l=some (true,()):=by
 unfold RM;rw[Py];simp only[cond_false];have:P8 (l,l,()) ((0:Int),())=some (.inr (.inl ())):=by
  have:=aU (body:=P7 (l,l,())) (fun n=>((n:Int),())) l.length (by omega) (.inr (.inl ())) (fun n hn=>?_) ?_
  ·unfold P8;exact this
  ·unfold P7;simp only[aj,hn,decide_true,cond_true,ax,Vl,WI,Bool.and_true,Bool.not_true,lets,cond_false,au (n:=n) (show n<1099511627776 by omega)]
  ·unfold P7;simp only[aj,Nat.lt_irrefl,decide_false,cond_false]
 rw[this];rfl
theorem Ws(l:List (Int×Int))(hl:l.length<=1073741824):Qp l l=some (true,()):=by
 unfold Qp;rw[Py];simp only[cond_false];have:Qc (l,l,()) ((0:Int),())=some (.inr (.inl ())):=by
  have:=aU (body:=Qb (l,l,())) (fun n=>((n:Int),())) l.length (by omega) (.inr (.inl ())) (fun n hn=>?_) ?_
  ·unfold Qc;exact this
  ·unfold Qb;simp only[aj,hn,decide_true,cond_true,ax,Vl,WI,Bool.and_true,Bool.not_true,lets,cond_false,au (n:=n) (show n<1099511627776 by omega)]
  ·unfold Qb;simp only[aj,Nat.lt_irrefl,decide_false,cond_false]
 rw[this];rfl
theorem Yq(c:Int×List Int×List Bx)(h1:c.2.1.length<=1073741824)(h2:c.2.2.length<=1073741824):Q5 c.1 c.2.1 c.2.2 c.1 c.2.1 c.2.2=some (true,()):=by unfold Q5;rw[Vl,aak _ h1,YG _ h2];rfl
theorem W3(l:List (Int×List Int×List Bx))(hl:l.length<=1073741824)(hc:∀n,n<l.length->(l.getD n Ji).2.1.length<=1073741824/\(l.getD n Ji).2.2.length<=1073741824):Q0 l l=some (true,()):=by
 unfold Q0;rw[Py];simp only[cond_false];have:QE (l,l,()) ((0:Int),())=some (.inr (.inl ())):=by
  have:=aU (body:=QD (l,l,())) (fun n=>((n:Int),())) l.length (by omega) (.inr (.inl ())) (fun n hn=>?_) ?_
  ·unfold QE;exact this
  ·have e:=Yq (l.getD n Ji) (hc n hn).1 (hc n hn).2;unfold QD;simp only[aj,hn,decide_true,cond_true,ax,ak,e,Option.bind_some,Bool.not_true,cond_false,au (n:=n) (show n<1099511627776 by omega)]
  ·unfold QD;simp only[aj,Nat.lt_irrefl,decide_false,cond_false]
 rw[this];rfl
theorem YV(t:Site)(h1:t.1.length<=1073741824)(h2:t.2.1.length<=1073741824)(h3:t.2.2.1.length<=1073741824)(hc:∀n,n<t.2.2.1.length->(t.2.2.1.getD n Ji).2.1.length<=1073741824/\(t.2.2.1.getD n Ji).2.2.length<=1073741824)(h4:t.2.2.2.2.2.2.2.2.2.2.length<=1073741824):
  SG t.1 t.2.1 t.2.2.1 t.2.2.2.1 t.2.2.2.2.1 t.2.2.2.2.2.1 t.2.2.2.2.2.2.1 t.2.2.2.2.2.2.2.1 t.2.2.2.2.2.2.2.2.1 t.2.2.2.2.2.2.2.2.2.1 t.2.2.2.2.2.2.2.2.2.2 t.1 t.2.1 t.2.2.1 t.2.2.2.1 t.2.2.2.2.1 t.2.2.2.2.2.1 t.2.2.2.2.2.2.1 t.2.2.2.2.2.2.2.1 t.2.2.2.2.2.2.2.2.1 t.2.2.2.2.2.2.2.2.2.1 t.2.2.2.2.2.2.2.2.2.2=some (true,()):=by
 unfold SG;simp only[Ws _ h1,Ws _ h2,W3 _ h3 hc,Yh _ h4,Option.bind_some,cond_true,Vl,WI,Bool.and_true]
noncomputable def abj(t:Site):Prop:=t.1.length<=1073741824/\t.2.1.length<=1073741824/\t.2.2.1.length<=1073741824/\(∀n,n<t.2.2.1.length->(t.2.2.1.getD n Ji).2.1.length<=1073741824/\(t.2.2.1.getD n Ji).2.2.length<=1073741824)/\t.2.2.2.2.2.2.2.2.2.2.length<=1073741824
theorem YI(l:List Site)(hl:l.length<=1073741824)(hc:∀n,n<l.length->abj (l.getD n b8)):RN l l=some (true,()):=by
 unfold RN;rw[Py];simp only[cond_false];have:Qa (l,l,()) ((0:Int),())=some (.inr (.inl ())):=by
  have:=aU (body:=P9 (l,l,())) (fun n=>((n:Int),())) l.length (by omega) (.inr (.inl ())) (fun n hn=>?_) ?_
  ·unfold Qa;exact this
  ·obtain⟨c1,c2,c3,c4,c5⟩:=hc n hn;have e:=YV (l.getD n b8) c1 c2 c3 c4 c5;unfold P9;simp only[aj,hn,decide_true,cond_true,ax,ak];refine(congrArg (fun z=>Option.bind z _) e).trans ?_;simp only[Option.bind_some,Bool.not_true,cond_false,au (n:=n) (show n<1099511627776 by omega)]
  ·unfold P9;simp only[aj,Nat.lt_irrefl,decide_false,cond_false]
 rw[this];rfl
theorem Yr:QG [] []=some (true,()):=by
 unfold QG;rw[Py];simp only[cond_false];have:Pd ([],[],()) ((0:Int),())=some (.inr (.inl ())):=by have:=aU (body:=Tk ([],[],())) (fun n=>((n:Int),())) 0 (by omega) (.inr (.inl ())) (fun n hn=>absurd hn (Nat.not_lt_zero _)) rfl;unfold Pd;exact this
 rw[this];rfl
theorem YH:Q6 [] []=some (true,()):=by
 unfold Q6;rw[Py];simp only[cond_false];have:PN ([],[],()) ((0:Int),())=some (.inr (.inl ())):=by have:=aU (body:=Ua ([],[],())) (fun n=>((n:Int),())) 0 (by omega) (.inr (.inl ())) (fun n hn=>absurd hn (Nat.not_lt_zero _)) rfl;unfold PN;exact this
 rw[this];rfl
theorem XH(a0 a1 a2 a3 a4 a5 a6 a7 a8 a9 a10:Int)(s:List Site)(hl:s.length<=1073741824)(hc:∀n,n<s.length->abj (s.getD n b8)):
  QF a0 a1 a2 a3 a4 a5 a6 a7 a8 a9 a10 s [] [] [] a0 a1 a2 a3 a4 a5 a6 a7 a8 a9 a10 s [] [] []=some (true,()):=by
 unfold QF;simp only[lets,Vl,Bool.and_true,cond_true,YI s hl hc,Yr,YH,Yh [] (Nat.zero_le _),Option.bind_some]
end Go.Fn
set_option linter.unusedVariables false
set_option linter.unusedSimpArgs false
namespace Go.Fn
open Go.R
theorem aag:X0 [] []=([],true):=aaX rfl rfl rfl fun z=>by simp
theorem ZQ:Pr []=some ([],()):=by
 obtain⟨r,_,q2,_,q4,_⟩:=Zo [];have h:r=[]:=List.eq_nil_iff_forall_not_mem.2 fun x hx=>by obtain⟨_,_,e,he,_⟩:=((q4 rfl).1 x).1 hx;exact nomatch he
 rw[q2,h]
section
variable (a0 a1 a2 a3 a4 a5 a6 a7 a8 a9:Int) (W:List Wk) (B:List (List V6))
theorem aaW(h:W.length=B.length)(hl:W.length<=1048576):UP a0 a1 a2 a3 a4 a5 a6 a7 a8 a9 0 (Jx W B) [] [] []=some ([],true,()):=by
 have hS:=Od h;unfold UP;rw[Y2 [] (Nat.zero_le _)];have:RK (Jx W B,ai (Jx W B),()) ([],(0:Int),())=some (.inr (.inl ([],()))):=by
  have:=aU (body:=RJ (Jx W B,ai (Jx W B),())) (fun n=>([],(n:Int),())) (Jx W B).length (by omega) (.inr (.inl ([],()))) (fun n hn=>?_) ?_
  ·unfold RK;exact this
  ·unfold RJ;have hg:=QK h (n:=n) (by omega);have hg:(Jx W B).getD n b8=Wt (W.getD n NQ) (B.getD n KW):=hg;simp only[aj,hn,decide_true,cond_true,ax,ak,hg,Wt,Zk,aag,Option.bind_some,Bool.not_true,cond_false,au (n:=n) (show n<1099511627776 by omega)]
  ·unfold RJ;simp only[aj,Nat.lt_irrefl,decide_false,cond_false]
 simp only[Option.bind_some,this,Sum.elim_inr,Sum.elim_inl]
theorem aaU(h:W.length=B.length)(hl:W.length<=1048576)(hok:K1 a0 a1 a2 a3 a4 a5 a6 a7 a8 a9 0 (Jx W B) [] [] []=some (true,())):SA a0 a1 a2 a3 a4 a5 a6 a7 a8 a9 0 (Jx W B) [] [] []=some (true,()):=by unfold SA Sa;have l0:∀k,Sg (a0,a1,a2,a3,a4,a5,a6,a7,a8,a9,k,Jx W B,[],[],[],ai ([]:List Int),()) ([],[],(0:Int),())=some (.inr (.inl ([],()))):=fun k=>aU (body:=Vo (a0,a1,a2,a3,a4,a5,a6,a7,a8,a9,k,Jx W B,[],[],[],ai ([]:List Int),())) (fun n=>([],[],(n:Int),())) 0 (by omega) (.inr (.inl ([],()))) (fun n hn=>absurd hn (Nat.not_lt_zero _)) rfl;have l2:∀k,Si (a0,a1,a2,a3,a4,a5,a6,a7,a8,a9,k,Jx W B,[],[],[],[],ai ([]:List Prc),()) ([],(0:Int),())=some (.inr (.inl ())):=fun k=>aU (body:=Vp (a0,a1,a2,a3,a4,a5,a6,a7,a8,a9,k,Jx W B,[],[],[],[],ai ([]:List Prc),())) (fun n=>([],(n:Int),())) 0 (by omega) (.inr (.inl ())) (fun n hn=>absurd hn (Nat.not_lt_zero _)) rfl;simp only[hok,aaW a0 a1 a2 a3 a4 a5 a6 a7 a8 a9 W B h hl,Option.bind_some,Bool.not_true,cond_false,ZQ];refine(Pb (l0 0)).trans ?_;dsimp only[Sum.elim_inl,Sum.elim_inr];refine(Pb (l2 0)).trans ?_;rfl
theorem acg(hok:K1 a0 a1 a2 a3 a4 a5 a6 a7 a8 a9 0 (Jx W B) [] [] []=some (true,())):UJ a0 a1 a2 a3 a4 a5 a6 a7 a8 a9 0 (Jx W B) [] [] []=some (0,()):=by unfold UJ;have l0:TY ([],ai ([]:List Prc),()) ((0:Int),(0:Int),())=some (.inl (0,())):=aU (body:=Wc ([],ai ([]:List Prc),())) (fun n=>((0:Int),(n:Int),())) 0 (by omega) (.inl (0,())) (fun n hn=>absurd hn (Nat.not_lt_zero _)) rfl;simp only[hok,Option.bind_some,Bool.not_true,cond_false];refine(Pb l0).trans ?_;rfl
theorem abm(h:W.length=B.length)(hl:W.length<=1048576)(hB:∀n,n<B.length->ZB (B.getD n KW)):
  OC () (W,B,a0,a1,a2,a3,a4,a5,a6,a7,a8,a9,0,Jx W B,[],[],[],(0:Int),())=some (.inr (.inl (W,a0,a1,a2,a3,a4,a5,a6,a7,a8,a9,0,Jx W B,[],[],[],()))):=by
 have hS:=Od h;have:=aU (body:=OB ()) (fun n=>(W,B,a0,a1,a2,a3,a4,a5,a6,a7,a8,a9,0,Jx W B,[],[],[],(n:Int),())) (Jx W B).length (by omega) (.inr (.inl (W,a0,a1,a2,a3,a4,a5,a6,a7,a8,a9,0,Jx W B,[],[],[],()))) (fun n hn=>?_) ?_
 ·unfold OC;exact this
 ·have hg:=QK h (n:=n) (by omega);have hg:(Jx W B).getD n b8=Wt (W.getD n NQ) (B.getD n KW):=hg;obtain⟨b1,b2⟩:=hB n (by omega);have hb:=W3 (B.getD n KW) b1 fun m hm=>b2 m hm;have hnB:n<B.length:=by omega
  unfold OB;dsimp only;refine(cT (loX hn)).trans ?_;refine(cT (inX hn)).trans ?_;refine(cT (inX hnB)).trans ?_;rw[ak,ak,hg];refine(Pb hb).trans ?_;simp only[Bool.not_true,cond_false,au (n:=n) (show n<1099511627776 by omega)]
 ·unfold OB;simp only[aj,Nat.lt_irrefl,decide_false,cond_false]
end
theorem X1(code:List Int):Re code=some (true,()):=by
 unfold Re YD;simp only[Option.bind_some];cases hbig:af .gtr (ai code) 1048576 with
 |true=>rfl
 |false=>
  have hb:code.length<=1048576:=by have:¬((1048576:Int)<(code.length:Int)):=of_decide_eq_false hbig;omega
  refine(cF rfl).trans ?_;obtain⟨⟨a0,a1,a2,a3,a4,a5,a6,a7,a8,a9,W,B,u⟩,he,hW4,hB3,hW,hB⟩:=Z7 code hb;have hW4:W.length<=4:=hW4;have hB3:B.length<=3:=hB3;have hW:∀n,n<W.length->abk (W.getD n NQ):=fun n hn=>by have:=hW _ (Qj hn NQ);exact⟨Nat.le_trans this.1 (by decide),Nat.le_trans this.2 (by decide)⟩
  have hB:∀n,n<B.length->ZB (B.getD n KW):=fun n hn=>by have:=hB _ (Qj hn KW);refine⟨Nat.le_trans this.1 (by decide),fun m hm=>?_⟩;have h2:=this.2 _ (Qj hm X5);exact⟨Nat.le_trans h2.1 (by decide),Nat.le_trans h2.2 (by decide)⟩
  refine(Pb he).trans ?_;dsimp only;obtain⟨r,r1,r2,r3⟩:=abJ a0 a1 a2 a3 a4 a5 a6 a7 a8 a9 W B (by omega) hW hB;refine(Pb r2).trans ?_;refine(Pb r1).trans ?_;refine(cF (by rw[WI];rfl)).trans ?_;rcases r3 with rfl|⟨hl,rfl,hok⟩
  ·have:=XH 0 0 0 0 0 0 0 0 0 0 0 [] (Nat.zero_le _) fun n hn=>absurd hn (Nat.not_lt_zero _);unfold ZO;dsimp only;refine(Pb this).trans ?_;rfl
  ·have hS:=Od hl;have:=XH a0 a1 a2 a3 a4 a5 a6 a7 a8 a9 0 (Jx W B) (by omega) fun n hn=>by have hg:=QK hl (n:=n) (by omega);have hg:(Jx W B).getD n b8=Wt (W.getD n NQ) (B.getD n KW):=hg;rw[hg];have hw:=hW n (by omega);have hb:=hB n (by omega);exact⟨hw.1,hw.2,hb.1,hb.2,Nat.zero_le _⟩
   dsimp only;refine(Pb this).trans ?_;refine(cF rfl).trans ?_;refine(cF rfl).trans ?_;refine(Pb (abm a0 a1 a2 a3 a4 a5 a6 a7 a8 a9 W B hl (by omega) hB)).trans ?_;dsimp only[Sum.elim_inl,Sum.elim_inr];refine(Pb hok).trans ?_;refine(cT rfl).trans ?_;refine(Pb (aaU a0 a1 a2 a3 a4 a5 a6 a7 a8 a9 W B hl (by omega) hok)).trans ?_;refine(cT rfl).trans ?_;refine(cT rfl).trans ?_;refine(Pb (acg a0 a1 a2 a3 a4 a5 a6 a7 a8 a9 W B hok)).trans ?_;refine(cT rfl).trans ?_;rw[show ai (Jx W B)=ai W by unfold ai;rw[hS],Vl]
end Go.Fn

