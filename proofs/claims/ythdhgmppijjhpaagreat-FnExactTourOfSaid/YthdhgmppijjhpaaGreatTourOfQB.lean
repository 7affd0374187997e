import Derived.Test.YthdhgmppijjhpaaGreatTourOfQA
/- Plain functions that stand for Go functions, and what they answer. Conditions: none. -/
set_option autoImplicit false
set_option linter.unusedVariables false
set_option linter.unusedSimpArgs false
set_option linter.unusedVariables false
namespace Go.Fn
open Go.R
noncomputable def kB(a:Int):oa:=(bt a 1 40).bind fun b=>some (b.1,())
noncomputable def My(a:Int):oa:=(bt a 0 20000).bind fun b=>some (b.1,())
noncomputable def J6(a b c d e f:Int)(g:Bool):oa:=(kB a).bind fun h=>letI i:=some (false,());cond h.1 ((kB b).bind fun j=>cond j.1 (cond (af .neq a b) ((bt c 0 999).bind fun k=>cond k.1 ((bt d 0 5).bind fun l=>cond l.1 ((My e).bind fun m=>cond m.1 ((My f).bind fun n=>cond n.1 (some (af .lss e f,())) i) i) i) i) i) i) i
noncomputable def KJ(a:Yg)(b:Cp):PZ:=letI c:=ae cn a.1 b.1;letI d:=c.2.2.2;cond (af .lss b.1 (ai a.1)) (cond (ah a.1 b.1) ((J6 c.1 c.2.1 c.2.2.1 d.1 d.2.1 d.2.2.1 d.2.2.2).bind fun e=>cond (Bool.not e.1) (some (.inr (.inl (false,())))) (some (.inl (aa .add .i64 b.1 1,())))) none) (some (.inr (.inr (.inl ()))))
noncomputable def KK k x:=iter (KJ k) big x
noncomputable def K5(a:Ld):oa:=cond (af .gtr (ai a) 30) (some (false,())) ((KK (a,()) (0,())).bind fun b=>Sum.elim (fun c=>some (c.1,())) (fun c=>Sum.elim (fun _=>some (true,())) (fun d=>Empty.elim d) c) b)
noncomputable def KS(a:Int×gg×Se×Ls)(b:YcQ):Option (YcQ⊕Vw⊕XL⊕Empty):=letI c:=b.2.2;letI d:=c.2.2.1;letI e:=(b.1,b.2.1,c.1,c.2.1,aa .add .i64 d 1,());cond (af .lss d a.2.2.2.2.1) (cond (af .gtr c.1 0) (cond (ah a.2.2.1 d) (cond (af .eql (ae kW a.2.2.1 d).2.2.1 c.1) (some (.inr (.inl (false,())))) (some (.inl e))) none) (some (.inl e))) (some (.inr (.inr (.inl (b.1,b.2.1,c.1,c.2.1,())))))
noncomputable def Iq k x:=iter (KS k) big x
noncomputable def KR(a:YcI)(b:Ls):XJ:=letI c:=(false,());letI d:=b.2.1;letI e:=a.2.2.1;letI f:=ae kW e d;cond (af .lss d (ai e)) (cond (ah e d) (cond (af .neq f.1 b.1) (some (.inr (.inl c))) ((bt f.2.1 1 24).bind fun g=>cond (Bool.not g.1) (some (.inr (.inl c))) ((bt f.2.2.1 0 999).bind fun h=>cond (Bool.not h.1) (some (.inr (.inl c))) ((Iq (a.1,a.2.1,e,b.1,d,()) (f.1,f.2.1,f.2.2.1,f.2.2.2,0,())).bind fun i=>Sum.elim (fun j=>some (.inr (.inl (j.1,())))) (fun j=>Sum.elim (fun k=>letI l:=aa .add .i64 b.1 k.2.1;cond (af .gtr l 24) (some (.inr (.inl c))) (some (.inl (l,aa .add .i64 d 1,())))) (fun k=>Empty.elim k) j) i)))) none) (some (.inr (.inr (.inl (b.1,())))))
noncomputable def KT k x:=iter (KR k) big x
noncomputable def K8(a:Int)(b:gg)(c:Se):oa:=(KT (a,b,c,()) (0,0,())).bind fun d=>Sum.elim (fun e=>some (e.1,())) (fun e=>Sum.elim (fun f=>cond (af .gtr (ai c) 0) (some (af .eql f.1 a,())) (some (false,()))) (fun f=>Empty.elim f) e) d
noncomputable def Il(a:Int×gg×XQ)(b:Bool×Cp):Option (Bool×Cp⊕Vw⊕Empty):=letI c:=a.2.2;letI d:=aa .add .i64 b.2.1 1;cond (af .lss b.2.1 (ai c.1)) (cond b.1 (some (.inl (true,d,()))) (cond (ah c.1 b.2.1) (cond (ah a.2.1 c.2.1) (some (.inl (af .eql (ae kW c.1 b.2.1).1 (ae zI a.2.1 c.2.1),d,()))) none) none)) (some (.inr (.inl (b.1,()))))
noncomputable def KI k x:=iter (Il k) big x
noncomputable def KG(a:YcI)(b:Cp):PZ:=letI c:=b.1;letI d:=a.2.1;cond (af .lss c (ai d)) (cond (ah d c) ((bt (ae zI d c) 1 (aa .sub .i64 a.1 1)).bind fun e=>letI f:=(false,());letI g:=aa .sub .i64 c 1;letI h:=(aa .add .i64 c 1,());letI i:=KI (a.1,d,a.2.2.1,c,()) (false,0,());cond (Bool.not e.1) (some (.inr (.inl f))) (cond (af .gtr c 0) (cond (ah d c) (cond (ah d g) (cond (af .leq (ae zI d c) (ae zI d g)) (some (.inr (.inl f))) (i.bind fun j=>Sum.elim (fun k=>cond (Bool.not k.1) (some (.inr (.inl f))) (some (.inl h))) (fun k=>Empty.elim k) j)) none) none) (i.bind fun j=>Sum.elim (fun k=>cond (Bool.not k.1) (some (.inr (.inl f))) (some (.inl h))) (fun k=>Empty.elim k) j))) none) (some (.inr (.inr (.inl ()))))
noncomputable def KH k x:=iter (KG k) big x
noncomputable def IK(a:Int)(b:gg)(c:Se):oa:=(bt a 1 24).bind fun d=>letI e:=some (false,());cond (Bool.not d.1) e ((K8 a b c).bind fun f=>cond (Bool.not f.1) e ((KH (a,b,c,()) (0,())).bind fun g=>Sum.elim (fun h=>some (h.1,())) (fun h=>Sum.elim (fun _=>some (true,())) (fun i=>Empty.elim i) h) g))
noncomputable def Kj(a:Int×YcI)(b:Cp):Zo:=letI c:=a.2.2.2.1;letI d:=(aa .add .i64 b.1 1,());cond (af .lss b.1 (ai c)) (cond (ah c b.1) (cond (af .eql (ae kW c b.1).2.2.1 a.1) (cond (af .gtr a.1 0) (some (.inr (.inl (b.1,())))) (some (.inl d))) (some (.inl d))) none) (some (.inr (.inr (.inl ()))))
noncomputable def Ni k x:=iter (Kj k) big x
noncomputable def Lq(a:Int)(b:gg)(c:Se)(d:Int):R4:=(Ni (d,a,b,c,()) (0,())).bind fun e=>Sum.elim (fun f=>some (f.1,())) (fun f=>Sum.elim (fun _=>some (-1,())) (fun g=>Empty.elim g) f) e
noncomputable def Nc(a:Sf×Ls)(b:Cp):PZ:=letI c:=ae b9 a.1 a.2.2.1;letI d:=(ae b9 a.1 a.2.1).2.2;cond (ah a.1 a.2.1) (cond (af .lss b.1 (ai d)) (cond (ah a.1 a.2.2.1) (cond (ah a.1 a.2.1) (cond (ah d b.1) ((Lq c.1 c.2.1 c.2.2 (ae kW d b.1).2.2.1).bind fun e=>cond (af .geq e.1 0) (some (.inr (.inl (false,())))) (some (.inl (aa .add .i64 b.1 1,())))) none) none) none) (some (.inr (.inr (.inl ()))))) none
noncomputable def Ng k x:=iter (Nc k) big x
noncomputable def Nb(a:Yi)(b:Cp):PZ:=cond (af .lss b.1 a.2.1) ((Ng (a.1,a.2.1,b.1,()) (0,())).bind fun c=>Sum.elim (fun d=>some (.inr (.inl (d.1,())))) (fun d=>Sum.elim (fun _=>some (.inl (aa .add .i64 b.1 1,()))) (fun e=>Empty.elim e) d) c) (some (.inr (.inr (.inl ()))))
noncomputable def Nf k x:=iter (Nb k) big x
noncomputable def Na(a:XN)(b:Cp):PZ:=letI c:=ae b9 a.1 b.1;cond (af .lss b.1 (ai a.1)) (cond (ah a.1 b.1) ((IK c.1 c.2.1 c.2.2).bind fun d=>cond (Bool.not d.1) (some (.inr (.inl (false,())))) ((Nf (a.1,b.1,()) (0,())).bind fun e=>Sum.elim (fun f=>some (.inr (.inl (f.1,())))) (fun f=>Sum.elim (fun _=>some (.inl (aa .add .i64 b.1 1,()))) (fun g=>Empty.elim g) f) e)) none) (some (.inr (.inr (.inl ()))))
noncomputable def Nd k x:=iter (Na k) big x
noncomputable def Lp(a:Sf):oa:=(bt (ai a) 1 6).bind fun b=>cond (Bool.not b.1) (some (false,())) ((Nd (a,()) (0,())).bind fun c=>Sum.elim (fun d=>some (d.1,())) (fun d=>Sum.elim (fun _=>some (true,())) (fun e=>Empty.elim e) d) c)
noncomputable def PS(a b:Int)(c d e:Bool):oa:=some (bQ e (af .eql a 2),())
noncomputable def Jm(a b:Int)(c d e:Bool):oa:=(bt a 0 2).bind fun f=>letI g:=some (false,());cond (Bool.not f.1) g ((bt b 0 6).bind fun h=>letI i:=some (Bool.not c,());letI j:=PS a b c d e;letI k:=cond c (some (Bool.not d,())) g;letI l:=cond (af .eql a 0) (cond (af .eql b 0) i g) (cond (af .eql b 1) (j.bind fun l=>cond l.1 i g) (cond (af .eql b 2) (j.bind fun l=>cond l.1 k g) (cond (af .eql b 3) (j.bind fun l=>cond l.1 (some (d,())) g) (cond (af .eql b 4) (j.bind fun l=>cond (Bool.not l.1) (some (d,())) g) (cond (af .eql b 5) k (cond (af .eql b 6) i (some (true,()))))))));cond (Bool.not h.1) g (cond d (cond (Bool.not c) g l) l))
noncomputable def Kk(a b c d e f g h i j k:Int)(l:Lc)(m:Nq)(n:Ld)(o:Km)(p:Int):oa:=letI q:=ae aS l p;cond (ah l p) ((BE q.1 q.2.1).bind fun r=>letI s:=some (false,());cond (Bool.not r.1) s ((Lp q.2.2.1).bind fun t=>letI u:=q.2.2.2;letI v:=u.2.2.2;cond (Bool.not t.1) s ((Jm u.1 u.2.1 u.2.2.1 v.1 v.2.1).bind fun w=>letI x:=v.2.2;cond (Bool.not w.1) s ((r3 x.2.2).bind fun y=>letI z:=af .eql x.2.1 0;cond (Bool.not y.1) s (cond (af .eql x.1 0) (lets (Bool.and (af .eql u.1 0) (Bool.and (af .eql u.2.1 0) (Bool.and (bQ u.2.2.1 false) (Bool.and (bQ v.1 false) (Bool.and (bQ v.2.1 false) true))))) fun A=>cond A (some (z,())) s) ((bt x.1 1 (ai m)).bind fun A=>letI B:=aa .sub .i64 x.1 1;letI C:=(ae bf m B).2.2;letI D:=cond (af .eql u.1 2) ((bt x.2.1 0 40).bind fun D=>some (D.1,())) s;cond (Bool.not A.1) s (cond (ah m B) (cond (af .neq C.1 p) s (cond (ah m B) (cond (af .neq C.2.1 2) s (cond (af .eql u.1 1) (cond z (some (true,())) D) D)) none)) none))))))) none
noncomputable def r6(a b c d e f g h i j k:Int)(l:Lc)(m:Nq)(n:Ld)(o:Km)(p:Int):oa:=letI q:=some (true,());letI r:=(ae bf m p).2.2;cond (ah m p) (cond (af .eql r.2.1 0) q (cond (af .eql r.2.1 1) q (cond (af .eql r.2.1 2) (cond (ah l r.1) (some (af .eql (ae aS l r.1).2.2.2.1 1,())) none) (some (false,()))))) none
noncomputable def Od(a b c d e:Int):oa:=(m7 a).bind fun f=>letI g:=some (false,());cond f.1 ((bt b 0 1000001).bind fun h=>cond h.1 ((bt c 0 2).bind fun i=>cond i.1 ((bt d 0 6).bind fun j=>cond j.1 ((bt e 0 20064).bind fun k=>some (k.1,())) g) g) g) g
noncomputable def Iu(a b c d e f g h i j k:Int)(l:Lc)(m:Nq)(n:Ld)(o:Km)(p:Int):oa:=letI q:=ae bf m p;cond (ah m p) ((bt q.1 1 24).bind fun r=>letI s:=some (false,());cond (Bool.not r.1) s ((kB q.2.1).bind fun t=>letI u:=(0:Int);cond (Bool.not t.1) s ((bt q.2.2.1 u (aa .sub .i64 (ai l) 1)).bind fun v=>letI w:=q.2.2.2;cond (Bool.not v.1) s ((bt w.1 u 5).bind fun x=>letI y:=aa .add .i64 p 1;letI z:=(r6 a b c d e f g h i j k l m n o p).bind fun z=>letI A:=w.2.2.2;letI B:=A.2.2;letI C:=B.2.2.2;letI D:=af .eql C.1 u;letI E:=af .eql C.2 u;cond z.1 (cond (af .eql w.2.1 u) (cond (af .eql w.2.2.1 u) (cond D (cond E (lets (Bool.and (af .eql A.1 u) (Bool.and (af .eql A.2.1 u) (Bool.and (af .eql B.1 u) (Bool.and (af .eql B.2.1 u) (Bool.and (af .eql B.2.2.1 u) true))))) fun F=>some (F,())) s) s) s) s) ((bt w.2.1 u k).bind fun F=>cond (Bool.not F.1) s ((bt w.2.2.1 u h).bind fun G=>cond (Bool.not G.1) s ((Od A.1 A.2.1 B.1 B.2.1 B.2.2.1).bind fun H=>cond (Bool.not H.1) s ((IL a b c d e f g h i j k l m n o y).bind fun I=>cond (af .neq A.1 I.1) s (cond (af .eql w.1 4) ((kB C.1).bind fun J=>cond J.1 ((bt C.2 u (aa .add .i64 e (aa .mul .i64 g h))).bind fun K=>some (K.1,())) s) (cond D (some (E,())) s))))));cond (Bool.not x.1) s (cond (af .eql w.1 2) (cond (ah l q.2.2.1) (cond (af .neq (ae aS l q.2.2.1).2.2.2.2.2.2.2.2.1 y) s z) none) z))))) none
noncomputable def Jc(a:Int×Int×Int×Int×Int×Int×Int×Int×Int×Int×Int×Lc×Nq×Ld×Km×Int×Int×XM)(b:Ls):XJ:=letI c:=(false,());letI d:=aa .add .i64 b.2.1 1;letI e:=a.2.2.2.2.2.2.2.2.2.2.2.2;letI f:=e.2.2.2.2.2.1;letI g:=ah f b.2.1;letI h:=(ae kW f b.2.1).2;letI i:=aa .sub .i64 h.2.1 1;letI j:=ae bf e.1 i;letI k:=j.2.2.2.2.2.2.2.2.2;cond (af .lss b.2.1 (ai f)) (cond g (cond (af .eql h.2.1 0) (some (.inl (b.1,d,()))) (cond (af .gtr h.2.1 (ai e.1)) (some (.inr (.inl c))) (cond (ah e.1 i) (lets k.1 fun _=>lets k.2.1 fun _=>lets k.2.2.1 fun _=>lets k.2.2.2 fun _=>lets (af .neq j.2.2.1 e.2.2.2.1) fun l=>cond l (some (.inr (.inl c))) (cond g (lets (af .neq j.1 h.1) fun m=>letI n:=j.2.2.2.1;cond m (some (.inr (.inl c))) (lets (af .neq n 2) fun o=>letI p:=(aa .add .i64 b.1 1,d,());letI q:=af .eql n 2;cond o (lets (af .neq n 3) fun r=>cond r (some (.inr (.inl c))) (lets q fun s=>cond s (cond g (cond h.2.2 (some (.inr (.inl c))) (some (.inl p))) none) (some (.inl p)))) (lets q fun r=>cond r (cond g (cond h.2.2 (some (.inr (.inl c))) (some (.inl p))) none) (some (.inl p))))) none)) none))) none) (some (.inr (.inr (.inl (b.1,())))))
noncomputable def Jf k x:=iter (Jc k) big x
noncomputable def Jb(a:YaT)(b:Ls):XJ:=letI c:=b.2.1;letI d:=a.2.2.2;letI e:=d.2.2.2;letI f:=e.2.2.2.2.2;letI g:=f.2.2.2.2.1;letI h:=(ae aS f.1 g).2.2.1;cond (ah f.1 g) (cond (af .lss c (ai h)) (cond (ah f.1 g) (cond (ah h c) ((Jf (a.1,a.2.1,a.2.2.1,d.1,d.2.1,d.2.2.1,e.1,e.2.1,e.2.2.1,e.2.2.2.1,e.2.2.2.2.1,f.1,f.2.1,f.2.2.1,f.2.2.2.1,g,c,(ae b9 h c).2.2,()) (b.1,0,())).bind fun i=>Sum.elim (fun j=>some (.inr (.inl (j.1,())))) (fun j=>Sum.elim (fun k=>some (.inl (k.1,aa .add .i64 c 1,()))) (fun k=>Empty.elim k) j) i) none) none) (some (.inr (.inr (.inl (b.1,())))))) none
noncomputable def Je k x:=iter (Jb k) big x
noncomputable def Ja(a:WL)(b:Ls):XJ:=letI c:=a.2.2.2.2;letI d:=c.2.2.2.2;letI e:=d.2.2.2;cond (af .lss b.2.1 (ai e.1)) ((Je (a.1,a.2.1,a.2.2.1,a.2.2.2.1,c.1,c.2.1,c.2.2.1,c.2.2.2.1,d.1,d.2.1,d.2.2.1,e.1,e.2.1,e.2.2.1,e.2.2.2.1,b.2.1,()) (b.1,0,())).bind fun f=>Sum.elim (fun g=>some (.inr (.inl (g.1,())))) (fun g=>Sum.elim (fun h=>some (.inl (h.1,aa .add .i64 b.2.1 1,()))) (fun h=>Empty.elim h) g) f) (some (.inr (.inr (.inl (b.1,())))))
noncomputable def Nm k x:=iter (Ja k) big x
noncomputable def Jd(a:WL)(b:Ls):Ye:=letI c:=b.2.1;letI d:=aa .add .i64 c 1;letI e:=a.2.2.2.2.2.2.2.2.2.2.2.2.1;letI f:=(aa .sub .i64 b.1 1,d,());letI g:=(ae bf e c).2.2.2.1;cond (af .lss c (ai e)) (cond (ah e c) (cond (af .eql g 2) (some (.inl f)) (cond (ah e c) (cond (af .eql g 3) (some (.inl f)) (some (.inl (b.1,d,())))) none)) none) (some (.inr (.inl (b.1,()))))
noncomputable def Nn k x:=iter (Jd k) big x
noncomputable def I3(a b c d e f g h i j k:Int)(l:Lc)(m:Nq)(n:Ld)(o:Km):oa:=letI p:=(a,b,c,d,e,f,g,h,i,j,k,l,m,n,o,());(Nm p (0,0,())).bind fun q=>Sum.elim (fun r=>some (r.1,())) (fun r=>Sum.elim (fun s=>(Nn p (s.1,0,())).bind fun t=>Sum.elim (fun u=>some (af .eql u.1 0,())) (fun u=>Empty.elim u) t) (fun s=>Empty.elim s) r) q
noncomputable def L6(a:WL)(b:Ls):Ye:=letI c:=b.2.1;letI d:=a.2.2.2.2.2;letI e:=aa .add .i64 c 1;letI f:=d.2.2.2.2.2;letI g:=f.2.2.1;cond (af .lss c (ai g)) (cond (ah g c) (cond (af .neq (ae bf g c).2.2.2.1 0) ((r6 a.1 a.2.1 a.2.2.1 a.2.2.2.1 a.2.2.2.2.1 d.1 d.2.1 d.2.2.1 d.2.2.2.1 d.2.2.2.2.1 f.1 f.2.1 g f.2.2.2.1 f.2.2.2.2.1 c).bind fun h=>cond h.1 (cond (ah g c) (some (.inl (aa .add .i64 b.1 (ae bf g c).1,e,()))) none) (some (.inl (b.1,e,())))) (some (.inl (b.1,e,())))) none) (some (.inr (.inl (b.1,()))))
noncomputable def Ps k x:=iter (L6 k) big x
noncomputable def Mz(a b c d e f g h i j k:Int)(l:Lc)(m:Nq)(n:Ld)(o:Km):R4:=(Ps (a,b,c,d,e,f,g,h,i,j,k,l,m,n,o,()) (0,0,())).bind fun p=>Sum.elim (fun q=>some (q.1,())) (fun q=>Empty.elim q) p
noncomputable def Ka(a:WL)(b:Cp):PZ:=letI c:=a.2.2.2.2;letI d:=c.2.2.2.2;letI e:=d.2.2.2;cond (af .lss b.1 (ai e.1)) ((Kk a.1 a.2.1 a.2.2.1 a.2.2.2.1 c.1 c.2.1 c.2.2.1 c.2.2.2.1 d.1 d.2.1 d.2.2.1 e.1 e.2.1 e.2.2.1 e.2.2.2.1 b.1).bind fun f=>cond (Bool.not f.1) (some (.inr (.inl (false,())))) (some (.inl (aa .add .i64 b.1 1,())))) (some (.inr (.inr (.inl ()))))
noncomputable def Oe k x:=iter (Ka k) big x
noncomputable def Kb(a:WL)(b:Cp):PZ:=letI c:=a.2.2.2.2;letI d:=c.2.2.2.2;letI e:=d.2.2.2.2;cond (af .lss b.1 (ai e.1)) ((Iu a.1 a.2.1 a.2.2.1 a.2.2.2.1 c.1 c.2.1 c.2.2.1 c.2.2.2.1 d.1 d.2.1 d.2.2.1 d.2.2.2.1 e.1 e.2.1 e.2.2.1 b.1).bind fun f=>cond (Bool.not f.1) (some (.inr (.inl (false,())))) (some (.inl (aa .add .i64 b.1 1,())))) (some (.inr (.inr (.inl ()))))
noncomputable def Of k x:=iter (Kb k) big x
noncomputable def J9(a b c d e f g h i j k:Int)(l:Lc)(m:Nq)(n:Ld)(o:Km):oa:=(Ke a b c d e f g h).bind fun p=>letI q:=some (false,());cond (Bool.not p.1) q ((bt i 0 1000).bind fun r=>cond (Bool.not r.1) q ((m7 j).bind fun s=>cond (Bool.not s.1) q ((bt k 0 20000).bind fun t=>cond (Bool.not t.1) q ((bt (ai l) 1 3).bind fun u=>cond (Bool.not u.1) q (cond (af .gtr (ai m) 12) q ((K5 n).bind fun v=>cond (Bool.not v.1) q ((r3 o).bind fun w=>letI x:=(a,b,c,d,e,f,g,h,i,j,k,l,m,n,o,());cond (Bool.not w.1) q ((Oe x (0,())).bind fun y=>Sum.elim (fun z=>some (z.1,())) (fun z=>Sum.elim (fun _=>(Of x (0,())).bind fun A=>Sum.elim (fun B=>some (B.1,())) (fun B=>Sum.elim (fun _=>(I3 a b c d e f g h i j k l m n o).bind fun C=>cond C.1 ((Mz a b c d e f g h i j k l m n o).bind fun D=>some (af .leq D.1 i,())) q) (fun C=>Empty.elim C) B) A) (fun A=>Empty.elim A) z) y))))))))
noncomputable def hU(a:Int):oa:=(bu a 1 40).bind fun b=>some (b.1,())
noncomputable def Ex(a b c d e f:Int)(g:Bool):oa:=(hU a).bind fun h=>letI i:=some (false,());cond h.1 ((hU b).bind fun j=>cond j.1 (cond (af .neq a b) ((bu c 0 999).bind fun k=>cond k.1 ((bu d 0 5).bind fun l=>cond l.1 ((gn e).bind fun m=>cond m.1 ((gn f).bind fun n=>cond n.1 (some (af .lss e f,())) i) i) i) i) i) i) i
noncomputable def Lt(a b c d e f:Int)(g:Bool):oa:=(Ex a b c d e f g).bind fun h=>some (Bool.not h.1,())
noncomputable def cc(a:Ld×Cp)(b:Cp):Zo:=letI c:=ae cn a.1 b.1;letI d:=c.2.2.2;cond (af .lss b.1 a.2.1) (cond (ah a.1 b.1) ((Lt c.1 c.2.1 c.2.2.1 d.1 d.2.1 d.2.2.1 d.2.2.2).bind fun e=>cond e.1 (some (.inr (.inl (b.1,())))) (some (.inl (aa .add .i64 b.1 1,())))) none) (some (.inr (.inr (.inl ()))))
noncomputable def c6 k x:=iter (cc k) big x
noncomputable def eg(a:Ld):R4:=(c6 (a,ai a,()) (0,())).bind fun b=>Sum.elim (fun c=>some (c.1,())) (fun c=>Sum.elim (fun _=>some (-1,())) (fun d=>Empty.elim d) c) b
noncomputable def cy(a:Ld):oa:=(eg a).bind fun b=>some (af .geq b.1 0,())
noncomputable def KW(a:Ld):oa:=cond (af .leq (ai a) 30) ((cy a).bind fun b=>some (Bool.not b.1,())) (some (false,()))
noncomputable def Ko(a:Int×gg×Se×V4)(b:Cp):PZ:=letI c:=ae zI a.2.2.2.1 b.1;cond (af .lss b.1 a.2.2.2.2.1) (cond (ah a.2.2.2.1 b.1) ((bu c 1 (aa .sub .i64 a.1 1)).bind fun d=>letI e:=aa .sub .i64 b.1 1;letI f:=(aa .add .i64 b.1 1,());cond (Bool.not d.1) (some (.inr (.inl (false,())))) (cond (af .gtr b.1 0) (cond (ah a.2.1 e) (cond (af .leq c (ae zI a.2.1 e)) (some (.inr (.inl (false,())))) (some (.inl f))) none) (some (.inl f)))) none) (some (.inr (.inr (.inl ()))))
noncomputable def Kq k x:=iter (Ko k) big x
noncomputable def D3(a:Int×gg×Se×XQ)(b:Int×Xu×XO):Option (Int×Xu×XO⊕Vw⊕Int×Xu×Unit⊕Empty):=letI c:=(false,());letI d:=b.2.2.2.1;letI e:=ae kW a.2.2.2.1 d;cond (af .lss d a.2.2.2.2.1) (cond (ah a.2.2.2.1 d) (cond (af .neq e.1 b.1) (some (.inr (.inl c))) ((bu e.2.1 1 (aa .sub .i64 a.1 b.1)).bind fun f=>letI g:=e.2.2.1;cond (Bool.not f.1) (some (.inr (.inl c))) ((bu g 0 999).bind fun h=>letI i:=(aa .add .i64 b.1 e.2.1,eT b.2.1 e.1 true,eT b.2.2.1 g true,aa .add .i64 d 1,());cond (Bool.not h.1) (some (.inr (.inl c))) (cond (af .gtr g 0) (cond (ct b.2.2.1 g) (some (.inr (.inl c))) (some (.inl i))) (some (.inl i)))))) none) (some (.inr (.inr (.inl (b.1,b.2.1,())))))
noncomputable def Kr k x:=iter (D3 k) big x
noncomputable def Kp(a:Int×gg×Se×Int×V4)(b:XO):YcR:=letI c:=a.2.2.2.2;cond (af .lss b.2.1 c.2.1) (cond (ah c.1 b.2.1) (cond (Bool.not (ct b.1 (ae zI c.1 b.2.1))) (some (.inr (.inl (false,())))) (some (.inl (b.1,aa .add .i64 b.2.1 1,())))) none) (some (.inr (.inr (.inl ()))))
noncomputable def Ks k x:=iter (Kp k) big x
noncomputable def IB(a:Int)(b:gg)(c:Se):oa:=(bu a 1 24).bind fun d=>letI e:=some (false,());cond (Bool.not d.1) e (cond (af .eql (ai c) 0) e ((Kq (a,b,c,b,ai b,()) (0,())).bind fun f=>Sum.elim (fun g=>some (g.1,())) (fun g=>Sum.elim (fun _=>(Kr (a,b,c,c,ai c,()) (0,([]:Xu),([]:Xu),0,())).bind fun h=>Sum.elim (fun i=>some (i.1,())) (fun i=>Sum.elim (fun j=>(Ks (a,b,c,j.1,b,ai b,()) (j.2.1,0,())).bind fun k=>Sum.elim (fun l=>some (l.1,())) (fun l=>Sum.elim (fun _=>some (af .eql j.1 a,())) (fun m=>Empty.elim m) l) k) (fun j=>Empty.elim j) i) h) (fun h=>Empty.elim h) g) f))
noncomputable def Js(a:Sf×Int×Int×XQ)(b:XO):Option (XO⊕Vw⊕Xu×Unit⊕Empty):=letI c:=(ae kW a.2.2.2.1 b.2.1).2.2.1;letI d:=(eT b.1 c true,aa .add .i64 b.2.1 1,());cond (af .lss b.2.1 a.2.2.2.2.1) (cond (ah a.2.2.2.1 b.2.1) (cond (af .gtr c 0) (cond (ct b.1 c) (some (.inr (.inl (false,())))) (some (.inl d))) (some (.inl d))) none) (some (.inr (.inr (.inl (b.1,())))))
noncomputable def M0 k x:=iter (Js k) big x
noncomputable def MY(a:Yi)(b:XO):YcR:=letI c:=b.2.1;letI d:=ae b9 a.1 c;cond (af .lss c a.2.1) (cond (ah a.1 c) ((IB d.1 d.2.1 d.2.2).bind fun e=>cond (Bool.not e.1) (some (.inr (.inl (false,())))) ((M0 (a.1,a.2.1,c,d.2.2,ai d.2.2,()) (b.1,0,())).bind fun f=>Sum.elim (fun g=>some (.inr (.inl (g.1,())))) (fun g=>Sum.elim (fun h=>some (.inl (h.1,aa .add .i64 c 1,()))) (fun h=>Empty.elim h) g) f)) none) (some (.inr (.inr (.inl ()))))
noncomputable def MZ k x:=iter (MY k) big x
noncomputable def Jj(a:Sf):oa:=(bu (ai a) 1 6).bind fun b=>cond (Bool.not b.1) (some (false,())) ((MZ (a,ai a,()) (([]:Xu),0,())).bind fun c=>Sum.elim (fun d=>some (d.1,())) (fun d=>Sum.elim (fun _=>some (true,())) (fun e=>Empty.elim e) d) c)
noncomputable def R6(a b:Int)(c d e:Bool):oa:=some (bQ e (af .eql a 1),())
noncomputable def zT(a b:Int)(c d e:Bool):oa:=(bu a 0 2).bind fun f=>letI g:=some (false,());cond (Bool.not f.1) g ((bu b 0 6).bind fun h=>letI i:=some (Bool.not c,());letI j:=R6 a b c d e;letI k:=cond c (some (Bool.not d,())) g;letI l:=cond (af .eql a 0) (cond (af .eql b 0) i g) (cond (af .eql b 1) (j.bind fun l=>cond (Bool.not l.1) i g) (cond (af .eql b 2) (j.bind fun l=>cond (Bool.not l.1) k g) (cond (af .eql b 3) (j.bind fun l=>cond (Bool.not l.1) (some (d,())) g) (cond (af .eql b 4) (j.bind fun l=>cond l.1 (some (d,())) g) (cond (af .eql b 5) k (cond (af .eql b 6) i (some (true,()))))))));cond (Bool.not h.1) g (cond d (cond (Bool.not c) g l) l))
noncomputable def N1(a b c d e f g h i j k:Int)(l:Lc)(m:Nq)(n:Ld)(o:Km)(p:Int):oa:=letI q:=ae aS l p;cond (ah l p) ((sS q.1 q.2.1).bind fun r=>letI s:=some (false,());cond (Bool.not r.1) s ((Jj q.2.2.1).bind fun t=>letI u:=q.2.2.2;letI v:=u.2.2.2;cond (Bool.not t.1) s ((zT u.1 u.2.1 u.2.2.1 v.1 v.2.1).bind fun w=>letI x:=v.2.2;cond (Bool.not w.1) s ((qe x.2.2).bind fun y=>letI z:=af .eql u.1 0;letI A:=af .eql x.2.1 0;cond (Bool.not y.1) s (cond (af .eql x.1 0) (lets (Bool.and z (Bool.and (af .eql u.2.1 0) (Bool.and (bQ u.2.2.1 false) (Bool.and (bQ v.1 false) (Bool.and (bQ v.2.1 false) true))))) fun B=>cond B (some (A,())) s) ((bu x.1 1 (ai m)).bind fun B=>letI C:=aa .sub .i64 x.1 1;letI D:=(ae bf m C).2.2;cond (Bool.not B.1) s (cond (ah m C) (cond (af .neq D.1 p) s (cond (af .neq D.2.1 2) s (cond z s (cond A (some (true,())) (cond (af .eql u.1 2) ((hU x.2.1).bind fun E=>some (E.1,())) s))))) none))))))) none
noncomputable def tB(a b c d e f g h i j k:Int)(l:Lc)(m:Nq)(n:Ld)(o:Km)(p q r s t u v w x y z A B:Int):oa:=letI C:=some (true,());cond (af .eql s 0) C (cond (af .eql s 1) C (cond (af .eql s 2) (cond (ah l r) (some (af .eql (ae aS l r).2.2.2.1 1,())) none) (some (false,()))))
noncomputable def NX(a b c d e:Int):oa:=(kk a).bind fun f=>letI g:=some (false,());cond f.1 ((bu b 0 1000001).bind fun h=>cond h.1 ((bu c 0 2).bind fun i=>cond i.1 ((bu d 0 6).bind fun j=>cond j.1 ((bu e 0 20064).bind fun k=>some (k.1,())) g) g) g) g
noncomputable def KZ(a b c d e f g h i j k:Int)(l:Lc)(m:Nq)(n:Ld)(o:Km)(p:Int):oa:=letI q:=ae bf m p;cond (ah m p) ((bu q.1 1 24).bind fun r=>letI s:=some (false,());cond (Bool.not r.1) s ((hU q.2.1).bind fun t=>letI u:=(0:Int);letI v:=q.2.2.1;cond (Bool.not t.1) s ((bu v u (aa .sub .i64 (ai l) 1)).bind fun w=>letI x:=q.2.2.2;cond (Bool.not w.1) s ((bu x.1 u 5).bind fun y=>letI z:=aa .add .i64 p 1;letI A:=x.2.2.2;letI B:=A.2.2;letI C:=B.2.2.2;letI D:=(tB a b c d e f g h i j k l m n o q.1 q.2.1 v x.1 x.2.1 x.2.2.1 A.1 A.2.1 B.1 B.2.1 B.2.2.1 C.1 C.2).bind fun D=>letI E:=af .eql C.1 u;letI F:=af .eql C.2 u;cond D.1 (cond (af .eql x.2.1 u) (cond (af .eql x.2.2.1 u) (cond E (cond F (lets (Bool.and (af .eql A.1 u) (Bool.and (af .eql A.2.1 u) (Bool.and (af .eql B.1 u) (Bool.and (af .eql B.2.1 u) (Bool.and (af .eql B.2.2.1 u) true))))) fun G=>some (G,())) s) s) s) s) ((bu x.2.1 u k).bind fun G=>cond (Bool.not G.1) s ((bu x.2.2.1 u h).bind fun H=>cond (Bool.not H.1) s ((NX A.1 A.2.1 B.1 B.2.1 B.2.2.1).bind fun I=>cond (Bool.not I.1) s ((IC a b c d e f g h i j k l m n o z).bind fun J=>cond (af .neq A.1 J.1) s (cond (af .eql x.1 4) ((hU C.1).bind fun K=>cond K.1 ((bu C.2 u (aa .add .i64 e (aa .mul .i64 g h))).bind fun L=>some (L.1,())) s) (cond E (some (F,())) s))))));cond (Bool.not y.1) s (cond (af .eql x.1 2) (cond (ah l v) (cond (af .neq (ae aS l v).2.2.2.2.2.2.2.2.1 z) s D) none) D))))) none
noncomputable def LF(a:Int×Int×Int×Int×Int×Int×Int×Int×Int×Int×Int×Lc×Nq×Ld×Km×Int×Lc×Int×Int×Sf×Int×Int×XQ)(b:Ls):XJ:=letI c:=aa .add .i64 b.2.1 1;letI d:=a.2.2.2.2.2.2.2.2.2.2.2.2;letI e:=d.2.2.2.2.2.2.2.2.2.2;letI f:=(ae kW e.1 b.2.1).2;cond (af .lss b.2.1 e.2.1) (cond (ah e.1 b.2.1) (cond (af .eql f.2.1 0) (some (.inl (b.1,c,()))) ((bu f.2.1 1 (ai d.1)).bind fun g=>letI h:=(false,());letI i:=aa .sub .i64 f.2.1 1;letI j:=ae bf d.1 i;letI k:=j.2.2.2;cond (Bool.not g.1) (some (.inr (.inl h))) (cond (ah d.1 i) (lets k.2.1 fun _=>lets k.2.2.1 fun _=>letI l:=k.2.2.2;lets l.1 fun _=>lets l.2.1 fun _=>lets l.2.2.1 fun _=>letI m:=l.2.2.2;lets m.1 fun _=>lets m.2.1 fun _=>lets m.2.2.1 fun _=>lets m.2.2.2 fun _=>lets (af .neq k.1 2) fun n=>letI o:=(aa .add .i64 b.1 1,c,());letI p:=af .eql k.1 2;letI q:=af .neq j.2.2.1 d.2.2.2.1;letI r:=af .neq j.1 f.1;cond n (lets (af .neq k.1 3) fun s=>cond s (some (.inr (.inl h))) (lets q fun t=>cond t (some (.inr (.inl h))) (lets r fun u=>cond u (some (.inr (.inl h))) (lets p fun v=>cond v (cond f.2.2 (some (.inr (.inl h))) (some (.inl o))) (some (.inl o)))))) (lets q fun s=>cond s (some (.inr (.inl h))) (lets r fun t=>cond t (some (.inr (.inl h))) (lets p fun u=>cond u (cond f.2.2 (some (.inr (.inl h))) (some (.inl o))) (some (.inl o)))))) none))) none) (some (.inr (.inr (.inl (b.1,())))))
noncomputable def LI k x:=iter (LF k) big x
noncomputable def LD(a:Int×Int×Int×Int×Int×Int×Int×Int×Int×Int×Int×Lc×Nq×Ld×Km×Int×Lc×Int×Int×Yi)(b:Ls):XJ:=letI c:=b.2.1;letI d:=a.2.2.2;letI e:=d.2.2.2;letI f:=e.2.2.2;letI g:=f.2.2.2;letI h:=g.2.2.2;letI i:=h.2.2.2;letI j:=(ae b9 i.2.1 c).2.2;cond (af .lss c i.2.2.1) (cond (ah i.2.1 c) ((LI (a.1,a.2.1,a.2.2.1,d.1,d.2.1,d.2.2.1,e.1,e.2.1,e.2.2.1,f.1,f.2.1,f.2.2.1,g.1,g.2.1,g.2.2.1,h.1,h.2.1,h.2.2.1,i.1,i.2.1,i.2.2.1,c,j,ai j,()) (b.1,0,())).bind fun k=>Sum.elim (fun l=>some (.inr (.inl (l.1,())))) (fun l=>Sum.elim (fun m=>some (.inl (m.1,aa .add .i64 c 1,()))) (fun m=>Empty.elim m) l) k) none) (some (.inr (.inr (.inl (b.1,())))))
noncomputable def LH k x:=iter (LD k) big x
noncomputable def LC(a:YbM)(b:Ls):XJ:=letI c:=b.2.1;letI d:=a.2.2.2.2.2;letI e:=d.2.2.2.2.2;letI f:=e.2.2.2.2.2;letI g:=(ae aS f.1 c).2.2.1;cond (af .lss c f.2.1) (cond (ah f.1 c) ((LH (a.1,a.2.1,a.2.2.1,a.2.2.2.1,a.2.2.2.2.1,d.1,d.2.1,d.2.2.1,d.2.2.2.1,d.2.2.2.2.1,e.1,e.2.1,e.2.2.1,e.2.2.2.1,e.2.2.2.2.1,c,f.1,f.2.1,c,g,ai g,()) (b.1,0,())).bind fun h=>Sum.elim (fun i=>some (.inr (.inl (i.1,())))) (fun i=>Sum.elim (fun j=>some (.inl (j.1,aa .add .i64 c 1,()))) (fun j=>Empty.elim j) i) h) none) (some (.inr (.inr (.inl (b.1,())))))
noncomputable def Pp k x:=iter (LC k) big x
noncomputable def LG(a:Yj)(b:Ls):Ye:=letI c:=aa .add .i64 b.2.1 1;letI d:=(ae bf a.1 b.2.1).2.2.2.1;letI e:=(aa .sub .i64 b.1 1,c,());cond (af .lss b.2.1 a.2.1) (cond (ah a.1 b.2.1) (cond (af .eql d 2) (some (.inl e)) (cond (af .eql d 3) (some (.inl e)) (some (.inl (b.1,c,()))))) none) (some (.inr (.inl (b.1,()))))
noncomputable def Pq k x:=iter (LG k) big x
noncomputable def Mj(a b c d e f g h i j k:Int)(l:Lc)(m:Nq)(n:Ld)(o:Km):oa:=(Pp (a,b,c,d,e,f,g,h,i,j,k,l,m,n,o,l,ai l,()) (0,0,())).bind fun p=>Sum.elim (fun q=>some (q.1,())) (fun q=>Sum.elim (fun r=>(Pq (m,ai m,()) (r.1,0,())).bind fun s=>Sum.elim (fun t=>some (af .eql t.1 0,())) (fun t=>Empty.elim t) s) (fun r=>Empty.elim r) q) p
noncomputable def M3(a:Int×Int×Int×Int×Int×Int×Int×Int×Int×Int×Int×Lc×Nq×Ld×Km×Yj)(b:Ls):Ye:=letI c:=a.2.2.2.2.2;letI d:=aa .add .i64 b.2.1 1;letI e:=c.2.2.2.2;letI f:=e.2.2.2.2;letI g:=ae bf f.2.2.1 b.2.1;letI h:=g.2.2.2;letI i:=h.2.2.2;letI j:=i.2.2.2;cond (af .lss b.2.1 f.2.2.2.1) (cond (ah f.2.2.1 b.2.1) (cond (af .neq h.1 0) ((tB a.1 a.2.1 a.2.2.1 a.2.2.2.1 a.2.2.2.2.1 c.1 c.2.1 c.2.2.1 c.2.2.2.1 e.1 e.2.1 e.2.2.1 e.2.2.2.1 f.1 f.2.1 g.1 g.2.1 g.2.2.1 h.1 h.2.1 h.2.2.1 i.1 i.2.1 i.2.2.1 j.1 j.2.1 j.2.2.1 j.2.2.2).bind fun k=>cond k.1 (some (.inl (aa .add .i64 b.1 g.1,d,()))) (some (.inl (b.1,d,())))) (some (.inl (b.1,d,())))) none) (some (.inr (.inl (b.1,()))))
noncomputable def PB k x:=iter (M3 k) big x
noncomputable def N0(a b c d e f g h i j k:Int)(l:Lc)(m:Nq)(n:Ld)(o:Km):R4:=(PB (a,b,c,d,e,f,g,h,i,j,k,l,m,n,o,m,ai m,()) (0,0,())).bind fun p=>Sum.elim (fun q=>some (q.1,())) (fun q=>Empty.elim q) p
noncomputable def Jv(a:YaT)(b:Cp):PZ:=letI c:=a.2.2.2.2;letI d:=c.2.2.2.2;letI e:=d.2.2.2.2;cond (af .lss b.1 e.2.2.2.1) ((N1 a.1 a.2.1 a.2.2.1 a.2.2.2.1 c.1 c.2.1 c.2.2.1 c.2.2.2.1 d.1 d.2.1 d.2.2.1 d.2.2.2.1 e.1 e.2.1 e.2.2.1 b.1).bind fun f=>cond (Bool.not f.1) (some (.inr (.inl (false,())))) (some (.inl (aa .add .i64 b.1 1,())))) (some (.inr (.inr (.inl ()))))
noncomputable def NY k x:=iter (Jv k) big x
noncomputable def Jw(a:YaT)(b:Cp):PZ:=letI c:=a.2.2.2.2;letI d:=c.2.2.2.2;letI e:=d.2.2.2.2;cond (af .lss b.1 e.2.2.2.1) ((KZ a.1 a.2.1 a.2.2.1 a.2.2.2.1 c.1 c.2.1 c.2.2.1 c.2.2.2.1 d.1 d.2.1 d.2.2.1 d.2.2.2.1 e.1 e.2.1 e.2.2.1 b.1).bind fun f=>cond (Bool.not f.1) (some (.inr (.inl (false,())))) (some (.inl (aa .add .i64 b.1 1,())))) (some (.inr (.inr (.inl ()))))
noncomputable def NZ k x:=iter (Jw k) big x
noncomputable def mS(a b c d e f g h i j k:Int)(l:Lc)(m:Nq)(n:Ld)(o:Km):oa:=(JA a b c d e f g h).bind fun p=>letI q:=some (false,());cond (Bool.not p.1) q ((bu i 0 1000).bind fun r=>cond (Bool.not r.1) q ((kk j).bind fun s=>cond (Bool.not s.1) q ((gn k).bind fun t=>cond (Bool.not t.1) q ((bu (ai l) 1 3).bind fun u=>cond (Bool.not u.1) q (cond (af .gtr (ai m) 12) q ((KW n).bind fun v=>cond (Bool.not v.1) q ((qe o).bind fun w=>cond (Bool.not w.1) q ((NY (a,b,c,d,e,f,g,h,i,j,k,l,m,n,o,ai l,()) (0,())).bind fun x=>Sum.elim (fun y=>some (y.1,())) (fun y=>Sum.elim (fun _=>(NZ (a,b,c,d,e,f,g,h,i,j,k,l,m,n,o,ai m,()) (0,())).bind fun z=>Sum.elim (fun A=>some (A.1,())) (fun A=>Sum.elim (fun _=>(Mj a b c d e f g h i j k l m n o).bind fun B=>cond B.1 ((N0 a b c d e f g h i j k l m n o).bind fun C=>some (af .leq C.1 i,())) q) (fun B=>Empty.elim B) A) z) (fun z=>Empty.elim z) y) x))))))))
end Go.Fn
set_option linter.unusedVariables false
set_option linter.unusedSimpArgs false
namespace Go.Fn
open Go.R
theorem Wx(m:List (Int×Bool))(k k':Int)(v:Bool):ct (eT m k v) k'=bif k'==k then v else ct m k':=by
 induction m with
 |nil=>simp only[eT,ct]
 |cons y r ih=>
  unfold eT;cases hb:k==y.1 with
  |true=>
   have hk:k=y.1:=by simpa using hb
   subst hk;simp only[cond_true,ct];cases k'==y.1 <;> rfl
  |false=>
   simp only[cond_false,ct,ih];cases h1:k'==y.1 with
   |false=>rfl
   |true=>
    have:k'=y.1:=by simpa using h1
    subst this;have:(y.1==k)=false:=by rw[Bool.eq_false_iff]at hb⊢;intro e;exact hb (by simpa using (beq_iff_eq.1 e).symm)
    rw[this];rfl
noncomputable def ek(m:List (Int×Bool))(l:List Int):List (Int×Bool):=l.foldl (fun m k=>eT m k true) m
theorem Lm(k:Int):∀(l:List Int) (m:List (Int×Bool)),ct (ek m l) k=true↔ct m k=true\/k∈l
 | [],m=>by simp[ek]
 |x::l,m=>by
  have:=Lm k l (eT m x true);unfold ek at this⊢;rw[List.foldl_cons,this,Wx];cases hb:k==x with
  |true=>simp[beq_iff_eq.1 hb]
  |false=>
   have:k≠x:=by rintro rfl;simp at hb
   simp[this]
theorem PP(m:List (Int×Bool))(l:List Int)(x:Int):ek m (l++[x])=eT (ek m l) x true:=by unfold ek;rw[List.foldl_append];rfl
theorem MC{α:Type}{l:List α}{n:Nat}(h:n<l.length)(z:α):l.take (n+1)=l.take n++[l.getD n z]:=by rw[List.take_add_one,List.getElem?_eq_getElem h,List.getD_eq_getElem?_getD,List.getElem?_eq_getElem h];rfl
theorem Rz{α:Type}{l:List α}{n:Nat}{x z:α}(hn:n<=l.length):x∈l.take n↔∃k,k<n/\l.getD k z=x:=by
 constructor
 ·intro h;obtain⟨k,hk,e⟩:=List.mem_iff_getElem.1 h;rw[List.length_take]at hk;rw[List.getElem_take]at e;exact⟨k,by omega,by rw[List.getD_eq_getElem?_getD,List.getElem?_eq_getElem (by omega)];exact e⟩
 ·rintro⟨k,hk,e⟩;rw[List.getD_eq_getElem?_getD,List.getElem?_eq_getElem (show k<l.length by omega)]at e;rw[<-e];have:(l.take n)[k]? = some l[k]:=by rw[List.getElem?_take_of_lt hk,List.getElem?_eq_getElem (by omega)]
  exact List.mem_of_getElem? this
noncomputable def fq(l:List Bx)(n:Nat):Bx:=l.getD n kW
noncomputable def rm(l:List Bx)(n:Nat):Int:=(l.take n).foldl (fun a b=>aa .add .i64 a b.2.1) 0
theorem MB(l:List Bx){n:Nat}(h:n<l.length):rm l (n+1)=aa .add .i64 (rm l n) (fq l n).2.1:=by unfold rm fq;rw[MC h kW,List.foldl_append];rfl
noncomputable def R5(l:List Bx)(n k:Nat):Bool:=Bool.not (af .gtr (fq l n).2.2.1 0&&af .eql (fq l k).2.2.1 (fq l n).2.2.1)
noncomputable def V6(l:List Bx)(n:Nat):Bool:=Bool.not (af .neq (fq l n).1 (rm l n))&&hG (fq l n).2.1 1 24&&hG (fq l n).2.2.1 0 999&&aB (R5 l n) 0 n&&Bool.not (af .gtr (rm l (n+1)) 24)
theorem TH(h:Int)(f:List Int)(l:List Bx)(hl:l.length<=1073741824):K8 h f l=some (aB (V6 l) 0 l.length&&(af .gtr (ai l) 0&&af .eql (rm l l.length) h),()):=by
 unfold K8;have:KT (h,f,l,()) (0,0,())=some (bif aB (V6 l) 0 l.length then(Sum.inr (Sum.inl (rm l l.length,())):Bool×Unit⊕(Int×Unit⊕Empty))else .inl (false,())):=by
  refine bp (fun n=>(rm l n,(n:Int),())) l.length (by omega) (V6 l) _ _ (fun n hn=>?_) ?_
  ·have hin:Iq (h,f,l,rm l n,(n:Int),()) ((fq l n).1,(fq l n).2.1,(fq l n).2.2.1,(fq l n).2.2.2,0,())=some (bif aB (R5 l n) 0 n then(Sum.inr (Sum.inl ((fq l n).1,(fq l n).2.1,(fq l n).2.2.1,(fq l n).2.2.2,())):Bool×Unit⊕(Int×Int×Int×Bool×Unit⊕Empty))else .inl (false,())):=by
    refine bp (fun k=>((fq l n).1,(fq l n).2.1,(fq l n).2.2.1,(fq l n).2.2.2,(k:Int),())) n (by omega) (R5 l n) _ _ (fun k hk=>?_) ?_
    ·unfold KS R5;have cJ:k<l.length:=by omega
     simp only[eH,hk,decide_true,cond_true,az,cJ,aq,av (n:=k) (by omega)];show(bif af .gtr (fq l n).2.2.1 0 then(bif af .eql (fq l k).2.2.1 (fq l n).2.2.1 then _ else _)else _)=_;cases af .gtr (fq l n).2.2.1 0 <;> cases af .eql (fq l k).2.2.1 (fq l n).2.2.1 <;> rfl
    ·unfold KS;simp only[eH,Nat.lt_irrefl,decide_false,cond_false]
   unfold KR V6;simp only[aj,hn,decide_true,cond_true,az,aq,qB,Option.bind_some,av (n:=n) (by omega),MB l hn];show(bif af .neq (fq l n).1 (rm l n)then _ else bif Bool.not (hG (fq l n).2.1 1 24)then _ else bif Bool.not (hG (fq l n).2.2.1 0 999)then _ else(Iq (h,f,l,rm l n,(n:Int),()) ((fq l n).1,(fq l n).2.1,(fq l n).2.2.1,(fq l n).2.2.2,0,())).bind _)=_;rw[hin];cases af .neq (fq l n).1 (rm l n)with
   |true=>rfl
   |false=>
    cases hG (fq l n).2.1 1 24 with
    |false=>rfl
    |true=>
     cases hG (fq l n).2.2.1 0 999 with
     |false=>rfl
     |true=>
      cases aB (R5 l n) 0 n with
      |false=>rfl
      |true=>simp only[Bool.not_true,cond_false,cond_true,Option.bind_some,Sum.elim_inr,Sum.elim_inl,Bool.not_false,Bool.true_and];cases af .gtr (aa .add .i64 (rm l n) (fq l n).2.1) 24 <;> rfl
  ·unfold KR;simp only[aj,Nat.lt_irrefl,decide_false,cond_false]
 rw[this];cases aB (V6 l) 0 l.length with
 |false=>rfl
 |true=>simp only[cond_true,Option.bind_some,Sum.elim_inr,Sum.elim_inl,Bool.true_and];cases af .gtr (ai l) 0 <;> rfl
noncomputable def QX(l:List Bx):List Int:=l.map (·.1)
noncomputable def Ln(l:List Bx):List Int:=l.map (·.2.2.1)
noncomputable def Xb(h:Int)(l:List Bx)(n:Nat):Bool:=Bool.not (af .neq (fq l n).1 (rm l n))&&hG (fq l n).2.1 1 (aa .sub .i64 h (rm l n))&&hG (fq l n).2.2.1 0 999&&Bool.not (af .gtr (fq l n).2.2.1 0&&ct (ek [] (Ln (l.take n))) (fq l n).2.2.1)
theorem Tz(h:Int)(f:List Int)(l:List Bx)(hl:l.length<=1073741824):Kr (h,f,l,l,ai l,()) (0,[],[],0,())=some (bif aB (Xb h l) 0 l.length then(Sum.inr (Sum.inl (rm l l.length,ek [] (QX l),())):Bool×Unit⊕(Int×(List (Int×Bool))×Unit⊕Empty))else .inl (false,())):=by
 have:=bp (body:=D3 (h,f,l,l,ai l,())) (fun n=>(rm l n,ek [] (QX (l.take n)),ek [] (Ln (l.take n)),(n:Int),())) l.length (by omega) (Xb h l) (.inr (.inl (rm l l.length,ek [] (QX l),()))) (.inl (false,())) (fun n hn=>?_) ?_
 ·exact this
 ·unfold D3 Xb;have e1:ek [] (QX (l.take (n+1)))=eT (ek [] (QX (l.take n))) (fq l n).1 true:=by unfold QX fq;rw[MC hn kW,List.map_append];exact PP _ _ _
  have e2:ek [] (Ln (l.take (n+1)))=eT (ek [] (Ln (l.take n))) (fq l n).2.2.1 true:=by unfold Ln fq;rw[MC hn kW,List.map_append];exact PP _ _ _
  simp only[aj,hn,decide_true,cond_true,az,aq,ev,Option.bind_some,av (n:=n) (by omega),MB l hn,e1,e2];show(bif af .neq (fq l n).1 (rm l n)then _ else bif Bool.not (hG (fq l n).2.1 1 (aa .sub .i64 h (rm l n)))then _ else bif Bool.not (hG (fq l n).2.2.1 0 999)then _ else bif af .gtr (fq l n).2.2.1 0 then(bif ct (ek [] (Ln (l.take n))) (fq l n).2.2.1 then _ else _)else _)=_;cases af .neq (fq l n).1 (rm l n)with
  |true=>rfl
  |false=>
   cases hG (fq l n).2.1 1 (aa .sub .i64 h (rm l n))with
   |false=>rfl
   |true=>
    cases hG (fq l n).2.2.1 0 999 with
    |false=>rfl
    |true=>
     cases af .gtr (fq l n).2.2.1 0 with
     |false=>rfl
     |true=>cases ct (ek [] (Ln (l.take n))) (fq l n).2.2.1 <;> rfl
 ·unfold D3;simp only[aj,Nat.lt_irrefl,decide_false,cond_false,List.take_length]
theorem Wy{a b:Int}:af .neq a b=false↔a=b:=by simp[af]
theorem Wo{a b:Int}:af .gtr a b=false↔a<=b:=by simp[af]
theorem Zv{a b:Int}:af .gtr a b=true↔b<a:=by simp[af]
theorem S1{a b:Int}:af .eql a b=true↔a=b:=by simp[af]
theorem Vr{l:List Bx}{n:Nat}(hn:n<=l.length)(p:Int):ct (ek [] (Ln (l.take n))) p=true↔∃k,k<n/\(fq l k).2.2.1=p:=by
 rw[Lm];simp only[ct,Bool.false_eq_true,false_or,Ln,List.mem_map];constructor
 ·rintro⟨b,hb,e⟩;obtain⟨k,hk,rfl⟩:=(Rz (z:=kW) hn).1 hb;exact⟨k,hk,e⟩
 ·rintro⟨k,hk,e⟩;exact⟨fq l k,(Rz (z:=kW) hn).2 ⟨k,hk,rfl⟩,e⟩
theorem Tr{l:List Bx}{n:Nat}(hn:n<=l.length):(Bool.not (af .gtr (fq l n).2.2.1 0&&ct (ek [] (Ln (l.take n))) (fq l n).2.2.1))=aB (R5 l n) 0 n:=by
 rw[Bool.eq_iff_iff,aQ];simp only[R5,Bool.not_eq_true',Bool.and_eq_false_iff];cases h0:af .gtr (fq l n).2.2.1 0 with
 |false=>exact⟨fun _ _ _ _=>.inl rfl,fun _=>.inl rfl⟩
 |true=>
  constructor
  ·intro h m _ hm;refine .inr ?_;rcases h with h|h
   ·cases h
   ·cases he:af .eql (fq l m).2.2.1 (fq l n).2.2.1 with
    |false=>rfl
    |true=>have:=(Vr hn _).2 ⟨m,by omega,S1.1 he⟩;rw[h]at this;cases this
  ·intro h;refine .inr ?_;cases hm:ct (ek [] (Ln (l.take n))) (fq l n).2.2.1 with
   |false=>rfl
   |true=>
    obtain⟨k,hk,e⟩:=(Vr hn _).1 hm;rcases h k (Nat.zero_le _) (by omega)with h|h
    ·cases h
    ·rw[S1.2 e]at h;cases h
theorem VA{h:Int}(h1:1<=h)(h2:h<=24)(l:List Bx)(hl:l.length<=1073741824):(aB (V6 l) 0 l.length=true/\rm l l.length=h)↔(aB (Xb h l) 0 l.length=true/\rm l l.length=h):=by
 have mono:∀(hs:∀n,n<l.length->0<=rm l n/\rm l n<=rm l (n+1)) (m n:Nat),m<=n->n<=l.length->rm l m<=rm l n:=by
  intro hs m n hmn hn;induction n with
  |zero=>rw[show m=0 by omega];exact Int.le_refl _
  |succ n ih=>
   rcases Nat.lt_or_ge m (n+1)with h|h
   ·exact Int.le_trans (ih (by omega) (by omega)) (hs n (by omega)).2
   ·rw[show m=n+1 by omega];exact Int.le_refl _
 have p0:rm l 0=0:=rfl;constructor
 ·rintro⟨ha,he⟩;rw[aQ]at ha;simp only[V6,Bool.and_eq_true,Bool.not_eq_true',Wy,Wo,e7]at ha;have hp:∀n,n<=l.length->0<=rm l n/\rm l n<=24:=by
   intro n;induction n with
   |zero=>intro _;rw[p0];omega
   |succ n ih=>intro hn;obtain⟨⟨⟨⟨_,c2⟩,_⟩,_⟩,c5⟩:=ha n (Nat.zero_le _) (by omega);have:=ih (by omega);refine⟨?_,c5⟩;rw[MB l (by omega),bV (by omega) (by omega)];omega
  have hs:∀n,n<l.length->0<=rm l n/\rm l n<=rm l (n+1):=fun n hn=>by obtain⟨⟨⟨⟨_,c2⟩,_⟩,_⟩,c5⟩:=ha n (Nat.zero_le _) (by omega);have:=hp n (by omega);refine⟨this.1,?_⟩;rw[MB l hn,bV (by omega) (by omega)];omega
  refine⟨?_,he⟩;rw[aQ];intro n _ hn;obtain⟨⟨⟨⟨c1,c2⟩,c3⟩,c4⟩,c5⟩:=ha n (Nat.zero_le _) (by omega);unfold Xb;rw[Tr (by omega),c4];have:=hp n (by omega);have hm:=mono hs (n+1) l.length (by omega) (Nat.le_refl _);rw[he,MB l (by omega),bV (by omega) (by omega)]at hm;rw[bO (by omega) (by omega)];simp only[Bool.and_eq_true,Bool.not_eq_true',Wy,e7];exact⟨⟨⟨c1,by omega,by omega⟩,c3⟩,trivial⟩
 ·rintro⟨ha,he⟩;rw[aQ]at ha;have hp:∀n,n<=l.length->0<=rm l n/\rm l n<=h:=by
   intro n;induction n with
   |zero=>intro _;rw[p0];omega
   |succ n ih=>intro hn;have hi:=ih (by omega);have:=ha n (Nat.zero_le _) (by omega);unfold Xb at this;rw[bO (by omega) (by omega)]at this;simp only[Bool.and_eq_true,Bool.not_eq_true',Wy,e7]at this;obtain⟨⟨⟨_,c2⟩,_⟩,_⟩:=this;rw[MB l (by omega),bV (by omega) (by omega)];omega
  refine⟨?_,he⟩;rw[aQ];intro n _ hn;have hi:=hp n (by omega);have hj:=hp (n+1) (by omega);have:=ha n (Nat.zero_le _) hn;unfold Xb at this;rw[Tr (by omega),bO (by omega) (by omega)]at this;simp only[Bool.and_eq_true,Bool.not_eq_true',Wy,e7]at this;obtain⟨⟨⟨c1,c2⟩,c3⟩,c4⟩:=this;unfold V6;simp only[Bool.and_eq_true,Bool.not_eq_true',Wy,Wo,e7];exact⟨⟨⟨⟨c1,by omega,by omega⟩,c3⟩,c4⟩,by omega⟩
noncomputable def Po(h:Int)(f:List Int):Nat->Bool
 |0=>hG (f.getD 0 zI) 1 (aa .sub .i64 h 1)
 |n+1=>hG (f.getD (n+1) zI) 1 (aa .sub .i64 h 1)&&Bool.not (af .leq (f.getD (n+1) zI) (f.getD n zI))
noncomputable def foundAt(f:List Int)(l:List Bx)(n:Nat):Bool:=l.any fun b=>af .eql b.1 (f.getD n zI)
theorem TJ(h:Int)(f:List Int)(l:List Bx)(n:Nat)(hn:n<f.length)(hl:l.length<=1073741824):KI (h,f,l,(n:Int),()) (false,0,())=some (.inl (foundAt f l n,())):=by
 have:=aR (body:=Il (h,f,l,(n:Int),())) (fun k=>((l.take k).any fun b=>af .eql b.1 (f.getD n zI),(k:Int),())) l.length (by omega) (.inl (foundAt f l n,())) (fun k hk=>?_) ?_
 ·exact this
 ·unfold Il;rw[MC hk kW,List.any_append];simp only[aj,hk,hn,decide_true,cond_true,az,aq,av (n:=k) (by omega)];cases (l.take k).any fun b=>af .eql b.1 (f.getD n zI)with
  |true=>rfl
  |false=>simp[List.any]
 ·unfold Il foundAt;simp only[aj,Nat.lt_irrefl,decide_false,cond_false,List.take_length]
theorem XE{n:Nat}(h:n<1099511627776):aa .sub .i64 ((n+1:Nat):Int) 1=(n:Int):=iw h
theorem gt1(n:Nat):af .gtr ((n+1:Nat):Int) 0=true:=by simp only[af,gt_iff_lt,decide_eq_true_eq];omega
noncomputable def Tq(h:Int)(f:List Int)(l:List Bx):Bool:=hG h 1 24&&((aB (V6 l) 0 l.length&&(af .gtr (ai l) 0&&af .eql (rm l l.length) h))&&aB (fun n=>Po h f n&&foundAt f l n) 0 f.length)
theorem S6(h:Int)(f:List Int)(l:List Bx)(hf:f.length<=1073741824)(hl:l.length<=1073741824):IK h f l=some (Tq h f l,()):=by
 unfold IK Tq;rw[qB,TH h f l hl];simp only[Option.bind_some];have:KH (h,f,l,()) (0,())=some (bif aB (fun n=>Po h f n&&foundAt f l n) 0 f.length then(Sum.inr (Sum.inl ()):Bool×Unit⊕(Unit⊕Empty))else .inl (false,())):=by
  refine bp (fun n=>((n:Int),())) f.length (by omega) (fun n=>Po h f n&&foundAt f l n) _ _ (fun n hn=>?_) ?_
  ·unfold KG;simp only[aj,hn,decide_true,cond_true,az,aq,qB,Option.bind_some,av (n:=n) (by omega),TJ h f l n hn hl,Sum.elim_inl];cases n with
   |zero=>unfold Po;rw[show af .gtr ((0:Nat):Int) 0=false from rfl];cases hG (f.getD 0 zI) 1 (aa .sub .i64 h 1) <;> cases foundAt f l 0 <;> rfl
   |succ m=>
    have hm:m<f.length:=by omega
    unfold Po;rw[gt1,XE (by omega)];simp only[az,aq,hm,decide_true,cond_true];cases hG (f.getD (m+1) zI) 1 (aa .sub .i64 h 1) <;> cases af .leq (f.getD (m+1) zI) (f.getD m zI) <;> cases foundAt f l (m+1) <;> rfl
  ·unfold KG;simp only[aj,Nat.lt_irrefl,decide_false,cond_false]
 rw[this];cases hG h 1 24 with
 |false=>rfl
 |true=>
  simp only[Bool.not_true,cond_false,Bool.true_and];cases (aB (V6 l) 0 l.length&&(af .gtr (ai l) 0&&af .eql (rm l l.length) h))with
  |false=>rfl
  |true=>simp only[Bool.not_true,cond_false,Bool.true_and];cases aB (fun n=>Po h f n&&foundAt f l n) 0 f.length <;> rfl
noncomputable def Ud(h:Int)(f:List Int)(l:List Bx):Bool:=hG h 1 24&&(Bool.not (af .eql (ai l) 0)&&(aB (Po h f) 0 f.length&&(aB (Xb h l) 0 l.length&&(aB (fun n=>ct (ek [] (QX l)) (f.getD n zI)) 0 f.length&&af .eql (rm l l.length) h))))
theorem S2(h:Int)(f:List Int)(l:List Bx)(hf:f.length<=1073741824)(hl:l.length<=1073741824):IB h f l=some (Ud h f l,()):=by
 unfold IB Ud;rw[ev];simp only[Option.bind_some];have h0:Kq (h,f,l,f,ai f,()) (0,())=some (bif aB (Po h f) 0 f.length then(Sum.inr (Sum.inl ()):Bool×Unit⊕(Unit⊕Empty))else .inl (false,())):=by
  refine bp (fun n=>((n:Int),())) f.length (by omega) (Po h f) _ _ (fun n hn=>?_) ?_
  ·unfold Ko;simp only[aj,hn,decide_true,cond_true,az,aq,ev,Option.bind_some,av (n:=n) (by omega)];cases n with
   |zero=>unfold Po;rw[show af .gtr ((0:Nat):Int) 0=false from rfl];cases hG (f.getD 0 zI) 1 (aa .sub .i64 h 1) <;> rfl
   |succ m=>
    have hm:m<f.length:=by omega
    unfold Po;rw[gt1,XE (by omega)];simp only[az,aq,hm,decide_true,cond_true];cases hG (f.getD (m+1) zI) 1 (aa .sub .i64 h 1) <;> cases af .leq (f.getD (m+1) zI) (f.getD m zI) <;> rfl
  ·unfold Ko;simp only[aj,Nat.lt_irrefl,decide_false,cond_false]
 have h4:Ks (h,f,l,rm l l.length,f,ai f,()) (ek [] (QX l),0,())=some (bif aB (fun n=>ct (ek [] (QX l)) (f.getD n zI)) 0 f.length then(Sum.inr (Sum.inl ()):Bool×Unit⊕(Unit⊕Empty))else .inl (false,())):=by
  refine bp (fun n=>(ek [] (QX l),(n:Int),())) f.length (by omega) _ _ _ (fun n hn=>?_) ?_
  ·unfold Kp;simp only[aj,hn,decide_true,cond_true,az,aq,av (n:=n) (by omega)];cases ct (ek [] (QX l)) (f.getD n zI) <;> rfl
  ·unfold Kp;simp only[aj,Nat.lt_irrefl,decide_false,cond_false]
 rw[h0,Tz h f l hl];cases hG h 1 24 with
 |false=>rfl
 |true=>
  simp only[Bool.not_true,cond_false,Bool.true_and];cases af .eql (ai l) 0 with
  |true=>rfl
  |false=>
   simp only[cond_false,Bool.not_false,Bool.true_and];cases aB (Po h f) 0 f.length with
   |false=>rfl
   |true=>
    simp only[cond_true,Option.bind_some,Sum.elim_inr,Sum.elim_inl,Bool.true_and];cases aB (Xb h l) 0 l.length with
    |false=>rfl
    |true=>simp only[cond_true,Option.bind_some,Sum.elim_inr,Sum.elim_inl,Bool.true_and,h4];cases aB (fun n=>ct (ek [] (QX l)) (f.getD n zI)) 0 f.length <;> rfl
theorem Wl(f:List Int)(l:List Bx)(n:Nat):ct (ek [] (QX l)) (f.getD n zI)=foundAt f l n:=by rw[Bool.eq_iff_iff,Lm];simp only[ct,Bool.false_eq_true,false_or,QX,foundAt,List.mem_map,List.any_eq_true,S1]
theorem Wh(h:Int)(f:List Int)(l:List Bx)(hl:l.length<=1073741824):Tq h f l=Ud h f l:=by
 unfold Tq Ud;cases h1:hG h 1 24 with
 |false=>rfl
 |true=>
  obtain⟨q1,q2⟩:=e7.1 h1;have hb:=VA q1 q2 l hl;have hne:Bool.not (af .eql (ai l) 0)=af .gtr (ai l) 0:=by
   cases hq:af .gtr (ai l) 0 with
   |true=>
    have:af .eql (ai l) 0=false:=by rw[Bool.eq_false_iff,ne_eq,S1];have:=Zv.1 hq;omega
    rw[this];rfl
   |false=>
    have:af .eql (ai l) 0=true:=by rw[S1];have:=Wo.1 hq;unfold ai at this⊢;omega
    rw[this];rfl
  rw[hne];have hfn:(fun n=>ct (ek [] (QX l)) (f.getD n zI))=foundAt f l:=funext fun n=>Wl f l n;rw[hfn,Bool.eq_iff_iff];simp only[Bool.and_eq_true,S1,aQ,Bool.true_and];simp only[aQ]at hb;constructor
  ·rintro⟨⟨c1,c2,c3⟩,c4⟩;obtain⟨d1,_⟩:=hb.1 ⟨c1,c3⟩;exact⟨c2,fun m x y=>(c4 m x y).1,d1,fun m x y=>(c4 m x y).2,c3⟩
  ·rintro⟨c2,c4,c1,c5,c3⟩;obtain⟨d1,_⟩:=hb.2 ⟨c1,c3⟩;exact⟨⟨d1,c2,c3⟩,fun m x y=>⟨c4 m x y,c5 m x y⟩⟩
noncomputable def cx(L:List PT)(i:Nat):PT:=L.getD i b9
noncomputable def VE(l:List Bx)(p:Int):Bool:=l.any fun b=>af .eql b.2.2.1 p
theorem XS(h:Int)(f:List Int)(l:List Bx)(p:Int)(hl:l.length<=1073741824):∃r,Lq h f l p=some (r,())/\af .geq r 0=(af .gtr p 0&&VE l p):=by
 unfold Lq;obtain⟨y,h1,h2⟩:=fP (body:=Kj (p,h,f,l,())) (fun n=>((n:Int),())) l.length (by omega) (fun n=>Bool.not (af .eql (l.getD n kW).2.2.1 p&&af .gtr p 0)) (Sum.inr (Sum.inl ())) (fun n=>Sum.inl ((n:Int),())) (fun n hn=>by
  unfold Kj;simp only[aj,az,hn,decide_true,cond_true,aq,av (n:=n) (by omega)];cases af .eql (l.getD n kW).2.2.1 p <;> cases af .gtr p 0 <;> rfl) (by
  unfold Kj;simp only[aj,Nat.lt_irrefl,decide_false,cond_false])
 have h1':Ni (p,h,f,l,()) ((0:Int),())=some y:=h1;rw[h1'];rcases h2 with ⟨e1,rfl⟩|⟨e1,n,hn,rfl,e3⟩
 ·refine⟨-1,rfl,?_⟩;rw[aQ]at e1;show false=_;symm;rw[Bool.and_eq_false_iff];cases hp:af .gtr p 0 with
  |false=>exact .inl rfl
  |true=>refine .inr ?_;rw[Bool.eq_false_iff];intro hh;obtain⟨b,hb,he⟩:=List.any_eq_true.1 hh;obtain⟨n,hn,rfl⟩:=List.mem_iff_getElem.1 hb;have:=e1 n (Nat.zero_le _) (by omega);rw[List.getD_eq_getElem?_getD,List.getElem?_eq_getElem hn,Option.getD_some,he,hp]at this;cases this
 ·refine⟨(n:Int),rfl,?_⟩;have h0:af .geq (n:Int) 0=true:=by simp[af]
  rw[h0];symm;have e3:(af .eql (l.getD n kW).2.2.1 p&&af .gtr p 0)=true:=by
   cases hq:(af .eql (l.getD n kW).2.2.1 p&&af .gtr p 0)with
   |true=>rfl
   |false=>rw[hq]at e3;first|cases e3|(simp at e3)
  rw[Bool.and_eq_true]at e3⊢;exact⟨e3.2,List.any_eq_true.2 ⟨_,mo hn kW,e3.1⟩⟩
noncomputable def NV(L:List PT)(i k n:Nat):Bool:=Bool.not (af .gtr (fq (cx L i).2.2 n).2.2.1 0&&VE (cx L k).2.2 (fq (cx L i).2.2 n).2.2.1)
noncomputable def OU(L:List PT)(i:Nat):Bool:=Tq (cx L i).1 (cx L i).2.1 (cx L i).2.2&&aB (fun k=>aB (NV L i k) 0 (cx L i).2.2.length) 0 i
noncomputable def OQ(L:List PT):Bool:=hG (ai L) 1 6&&aB (OU L) 0 L.length
noncomputable def Px(L:List PT):Prop:=L.length<=1073741824/\∀c,c∈L->c.2.1.length<=1073741824/\c.2.2.length<=1073741824
theorem Px.at{L:List PT}(h:Px L){i:Nat}(hi:i<L.length):(cx L i).2.1.length<=1073741824/\(cx L i).2.2.length<=1073741824:=h.2 _ (mo hi _)
theorem UI(L:List PT)(hw:Px L):Lp L=some (OQ L,()):=by
 have hL:=hw.1;unfold Lp OQ;rw[qB];simp only[Option.bind_some];have h4:∀i k,i<L.length->k<i->Ng (L,(i:Int),(k:Int),()) (0,())=some (bif aB (NV L i k) 0 (cx L i).2.2.length then(Sum.inr (Sum.inl ()):Bool×Unit⊕(Unit⊕Empty))else .inl (false,())):=by
  intro i k hi hk;have hki:k<L.length:=by omega
  have hbi:=(hw.at hi).2;refine bp (fun n=>((n:Int),())) (cx L i).2.2.length (by omega) _ _ _ (fun n hn=>?_) ?_
  ·unfold Nc;obtain⟨r,e1,e2⟩:=XS (cx L k).1 (cx L k).2.1 (cx L k).2.2 (fq (cx L i).2.2 n).2.2.1 (hw.at hki).2;have DC:Lq (L.getD k b9).1 (L.getD k b9).2.1 (L.getD k b9).2.2 ((L.getD i b9).2.2.getD n kW).2.2.1=some (r,()):=e1;have hn':n<(L.getD i b9).2.2.length:=hn;simp only[az,hi,hki,decide_true,cond_true,aq,aj,hn',DC,Option.bind_some,e2,av (n:=n) (by omega)];unfold NV;cases (af .gtr (fq (cx L i).2.2 n).2.2.1 0&&VE (cx L k).2.2 (fq (cx L i).2.2 n).2.2.1) <;> rfl
  ·unfold Nc;have:¬((cx L i).2.2.length<(L.getD i b9).2.2.length):=Nat.lt_irrefl _;simp only[az,hi,decide_true,cond_true,aq,aj,this,decide_false,cond_false]
 have h2:∀i,i<L.length->Nf (L,(i:Int),()) (0,())=some (bif aB (fun k=>aB (NV L i k) 0 (cx L i).2.2.length) 0 i then(Sum.inr (Sum.inl ()):Bool×Unit⊕(Unit⊕Empty))else .inl (false,())):=by
  intro i hi;refine bp (fun n=>((n:Int),())) i (by omega) _ _ _ (fun k hk=>?_) ?_
  ·unfold Nb;simp only[eH,hk,decide_true,cond_true,h4 i k hi hk,Option.bind_some,av (n:=k) (by omega)];cases aB (NV L i k) 0 (cx L i).2.2.length <;> rfl
  ·unfold Nb;simp only[eH,Nat.lt_irrefl,decide_false,cond_false]
 have h0:Nd (L,()) (0,())=some (bif aB (OU L) 0 L.length then(Sum.inr (Sum.inl ()):Bool×Unit⊕(Unit⊕Empty))else .inl (false,())):=by
  refine bp (fun n=>((n:Int),())) L.length (by omega) _ _ _ (fun i hi=>?_) ?_
  ·unfold Na OU;have hc:IK (L.getD i b9).1 (L.getD i b9).2.1 (L.getD i b9).2.2=some (Tq (cx L i).1 (cx L i).2.1 (cx L i).2.2,()):=S6 _ _ _ (hw.at hi).1 (hw.at hi).2;simp only[aj,az,hi,decide_true,cond_true,aq,hc,Option.bind_some,h2 i hi,av (n:=i) (by omega)];cases Tq (cx L i).1 (cx L i).2.1 (cx L i).2.2 with
   |false=>rfl
   |true=>cases aB (fun k=>aB (NV L i k) 0 (cx L i).2.2.length) 0 i <;> rfl
  ·unfold Na;simp only[aj,Nat.lt_irrefl,decide_false,cond_false]
 rw[h0];cases hG (ai L) 1 6 with
 |false=>rfl
 |true=>cases aB (OU L) 0 L.length <;> rfl
noncomputable def At(L:List PT)(i:Nat):List Int:=((L.take i).map fun c=>Ln c.2.2).flatten
theorem UE{L:List PT}{i:Nat}(h:i<L.length):At L (i+1)=At L i++Ln (cx L i).2.2:=by unfold At cx;rw[MC h b9,List.map_append,List.flatten_append];simp
theorem U9(m:List (Int×Bool))(a b:List Int):ek m (a++b)=ek (ek m a) b:=List.foldl_append
noncomputable def Sa(L:List PT)(i n:Nat):Bool:=Bool.not (af .gtr (fq (cx L i).2.2 n).2.2.1 0&&ct (ek (ek [] (At L i)) (Ln ((cx L i).2.2.take n))) (fq (cx L i).2.2 n).2.2.1)
noncomputable def PU(L:List PT)(i:Nat):Bool:=Ud (cx L i).1 (cx L i).2.1 (cx L i).2.2&&aB (Sa L i) 0 (cx L i).2.2.length
theorem Ty(L:List PT)(hw:Px L):Jj L=some (hG (ai L) 1 6&&aB (PU L) 0 L.length,()):=by
 have hL:=hw.1;unfold Jj;rw[ev];simp only[Option.bind_some];have h2:∀i,i<L.length->M0 (L,ai L,(i:Int),(cx L i).2.2,ai (cx L i).2.2,()) (ek [] (At L i),0,())=some (bif aB (Sa L i) 0 (cx L i).2.2.length then(Sum.inr (Sum.inl (ek [] (At L (i+1)),())):Bool×Unit⊕((List (Int×Bool))×Unit⊕Empty))else .inl (false,())):=by
  intro i hi;have hb:=(hw.at hi).2;have:=bp (body:=Js (L,ai L,(i:Int),(cx L i).2.2,ai (cx L i).2.2,())) (fun n=>(ek (ek [] (At L i)) (Ln ((cx L i).2.2.take n)),(n:Int),())) (cx L i).2.2.length (by omega) (Sa L i) (Sum.inr (Sum.inl (ek [] (At L (i+1)),()))) (Sum.inl (false,())) (fun n hn=>?_) ?_
  ·exact this
  ·unfold Js Sa;have e2:ek (ek [] (At L i)) (Ln ((cx L i).2.2.take (n+1)))=eT (ek (ek [] (At L i)) (Ln ((cx L i).2.2.take n))) (fq (cx L i).2.2 n).2.2.1 true:=by unfold Ln fq;rw[MC hn kW,List.map_append];exact PP _ _ _
   simp only[aj,az,hn,decide_true,cond_true,aq,av (n:=n) (by omega),e2];show(bif af .gtr (fq (cx L i).2.2 n).2.2.1 0 then(bif ct (ek (ek [] (At L i)) (Ln ((cx L i).2.2.take n))) (fq (cx L i).2.2 n).2.2.1 then _ else _)else _)=_;cases af .gtr (fq (cx L i).2.2 n).2.2.1 0 with
   |false=>rfl
   |true=>cases ct (ek (ek [] (At L i)) (Ln ((cx L i).2.2.take n))) (fq (cx L i).2.2 n).2.2.1 <;> rfl
  ·unfold Js;simp only[aj,Nat.lt_irrefl,decide_false,cond_false,List.take_length,UE hi,U9]
 have h0:MZ (L,ai L,()) ([],0,())=some (bif aB (PU L) 0 L.length then(Sum.inr (Sum.inl ()):Bool×Unit⊕(Unit⊕Empty))else .inl (false,())):=by
  refine bp (fun n=>(ek [] (At L n),(n:Int),())) L.length (by omega) _ _ _ (fun i hi=>?_) ?_
  ·unfold MY PU;have hc:IB (L.getD i b9).1 (L.getD i b9).2.1 (L.getD i b9).2.2=some (Ud (cx L i).1 (cx L i).2.1 (cx L i).2.2,()):=S2 _ _ _ (hw.at hi).1 (hw.at hi).2;have h2':=h2 i hi;unfold cx at h2';simp only[aj,az,hi,decide_true,cond_true,aq,hc,Option.bind_some,h2',av (n:=i) (by omega)];cases Ud (cx L i).1 (cx L i).2.1 (cx L i).2.2 with
   |false=>rfl
   |true=>show(bif Bool.not true then _ else(some (bif aB (Sa L i) 0 (cx L i).2.2.length then _ else _)).bind _)=_;cases aB (Sa L i) 0 (cx L i).2.2.length <;> rfl
  ·unfold MY;simp only[aj,Nat.lt_irrefl,decide_false,cond_false]
 rw[h0];cases hG (ai L) 1 6 with
 |false=>rfl
 |true=>cases aB (PU L) 0 L.length <;> rfl
theorem Us{l:List Bx}{p:Int}:VE l p=true↔p∈Ln l:=by simp only[VE,Ln,List.any_eq_true,List.mem_map,S1]
theorem SK{L:List PT}{i:Nat}(hi:i<=L.length)(p:Int):p∈At L i↔∃k,k<i/\p∈Ln (cx L k).2.2:=by
 unfold At;simp only[List.mem_flatten,List.mem_map];constructor
 ·rintro⟨l,⟨c,hc,rfl⟩,hp⟩;obtain⟨k,hk,rfl⟩:=(Rz (z:=b9) hi).1 hc;exact⟨k,hk,hp⟩
 ·rintro⟨k,hk,hp⟩;exact⟨_,⟨cx L k,(Rz (z:=b9) hi).2 ⟨k,hk,rfl⟩,rfl⟩,hp⟩
theorem Vz(L:List PT)(hw:Px L){i:Nat}(hi:i<L.length):OU L i=PU L i:=by
 unfold OU PU;rw[Wh _ _ _ (hw.at hi).2];cases hc:Ud (cx L i).1 (cx L i).2.1 (cx L i).2.2 with
 |false=>rfl
 |true=>
  simp only[Bool.true_and];have hdup:∀n,n<(cx L i).2.2.length->aB (R5 (cx L i).2.2 n) 0 n=true:=by rw[<-Wh _ _ _ (hw.at hi).2]at hc;unfold Tq at hc;simp only[Bool.and_eq_true]at hc;intro n hn;have:=(aQ _ _).1 hc.2.1.1 n (Nat.zero_le _) (by omega);unfold V6 at this;simp only[Bool.and_eq_true]at this;exact this.1.2
  rw[Bool.eq_iff_iff,aQ,aQ];constructor
  ·intro h n _ hn;unfold Sa;rw[Bool.not_eq_true',Bool.and_eq_false_iff];cases hg:af .gtr (fq (cx L i).2.2 n).2.2.1 0 with
   |false=>exact .inl rfl
   |true=>
    refine .inr ?_;cases hm:ct (ek (ek [] (At L i)) (Ln ((cx L i).2.2.take n))) (fq (cx L i).2.2 n).2.2.1 with
    |false=>rfl
    |true=>
     exfalso;rcases(Lm _ _ _).1 hm with hm|hm
     ·have:=(Lm _ _ _).1 hm;simp only[ct,Bool.false_eq_true,false_or]at this;obtain⟨k,hk,hp⟩:=(SK (by omega) _).1 this;have:=h k (Nat.zero_le _) (by omega);have:=(aQ _ _).1 this n (Nat.zero_le _) hn;unfold NV at this;rw[hg,Us.2 hp]at this;cases this
     ·have hd:=hdup n (by omega);rw[<-Tr (by omega),hg]at hd;have:ct (ek [] (Ln ((cx L i).2.2.take n))) (fq (cx L i).2.2 n).2.2.1=true:=(Lm _ _ _).2 (.inr hm);rw[this]at hd;cases hd
  ·intro h k _ hk;rw[aQ];intro n _ hn;have:=h n (Nat.zero_le _) hn;unfold Sa at this;unfold NV;rw[Bool.not_eq_true',Bool.and_eq_false_iff]at this⊢;rcases this with h1|h1
   ·exact .inl h1
   ·refine .inr ?_;cases hp:VE (cx L k).2.2 (fq (cx L i).2.2 n).2.2.1 with
    |false=>rfl
    |true=>have:ct (ek (ek [] (At L i)) (Ln ((cx L i).2.2.take n))) (fq (cx L i).2.2 n).2.2.1=true:=(Lm _ _ _).2 (.inl ((Lm _ _ _).2 (.inr ((SK (by omega) _).2 ⟨k,by omega,Us.1 hp⟩))));rw[this]at h1;cases h1
theorem Uu(L:List PT)(hw:Px L):Jj L=some (OQ L,()):=by rw[Ty L hw];unfold OQ;rw[fR L.length 0 fun m _ hm=>Vz L hw (by omega)]
end Go.Fn
set_option linter.unusedVariables false
set_option linter.unusedSimpArgs false
namespace Go.Fn
open Go.R
noncomputable def Sm{α:Type}(P:α->Prop)(x y:Option α):Prop:=∃r,x=some r/\y=some r/\P r
section
variable {α β:Type} {P:α->Prop} {Q:β->Prop}
theorem Sm.ret{a:α}(h:P a):Sm P (some a) (some a):=⟨a,rfl,rfl,h⟩
theorem Sm.bind{x y:Option α}{f g:α->Option β}(hx:Sm P x y)(h:∀r,P r->Sm Q (f r) (g r)):Sm Q (x.bind f) (y.bind g):=by obtain⟨r,rfl,rfl,hr⟩:=hx;exact h r hr
theorem Sm.cond{b:Bool}{x y x' y':Option α}(hx:b=true->Sm P x x')(hy:b=false->Sm P y y'):Sm P (bif b then x else y) (bif b then x' else y'):=by
 cases b
 ·exact hy rfl
 ·exact hx rfl
theorem Sm.guard{b c:Bool}{x y:Option α}(hb:b=true)(hc:c=true)(h:Sm P x y):Sm P (bif b then x else none) (bif c then y else none):=by subst hb hc;exact h
theorem Sm.mono{P':α->Prop}{x y:Option α}(h:Sm P x y)(hp:∀r,P r->P' r):Sm P' x y:=by obtain⟨r,e1,e2,hr⟩:=h;exact⟨r,e1,e2,hp r hr⟩
theorem Sm.symm{x y:Option α}(h:Sm P x y):Sm P y x:=by obtain⟨r,e1,e2,hr⟩:=h;exact⟨r,e2,e1,hr⟩
theorem RZ{X Y:Type}{body body':X->Option (X⊕Y)}(Inv:X->Prop)(m:X->Nat){Q:Y->Prop}(h:∀x,Inv x->Sm (fun r=>match r with| .inl a=>Inv a/\m a<m x| .inr b=>Q b) (body x) (body' x)):∀(fu:Nat) (x:X),Inv x->m x<fu->Sm Q (iter body fu x) (iter body' fu x)
 |0,x,_,hm=>absurd hm (Nat.not_lt_zero _)
 |fu+1,x,hi,hm=>by
  obtain⟨r,e1,e2,hr⟩:=h x hi;cases r with
  |inl a=>rw[aH e1,aH e2];exact RZ Inv m h fu a hr.1 (by have:=hr.2;omega)
  |inr b=>exact⟨b,ay e1,ay e2,hr⟩
end
theorem OT {B Y:Type} {body body':B×Int×Unit->Option ((B×Int×Unit)⊕Y)} (len:Nat) (hlen:len<=1073741824) {Q:Y->Prop} (I:B->Prop)
  (hs:∀b n,n<len->I b->Sm (fun r=>match r with| .inl a=>I a.1/\a.2.1=((n+1:Nat):Int)| .inr y=>Q y) (body (b,(n:Int),())) (body' (b,(n:Int),()))) (he:∀b,I b->Sm (fun r=>match r with| .inl a=>False| .inr y=>Q y) (body (b,(len:Int),())) (body' (b,(len:Int),()))) (b:B) (hb:I b):Sm Q (iter body big (b,0,())) (iter body' big (b,0,())):=by
 refine RZ (fun x=>I x.1/\0<=x.2.1/\x.2.1<=(len:Int)) (fun x=>((len:Int)-x.2.1).toNat) (fun x hx=>?_) big (b,0,()) ⟨hb,Int.le_refl _,by show(0:Int)<=(len:Int);omega⟩ (aT (by show((len:Int)-0).toNat<_;omega));obtain⟨b,i,u⟩:=x;obtain⟨h0,h1,h2⟩:=hx;have h1:0<=i:=h1;have h2:i<=(len:Int):=h2;obtain⟨n,rfl⟩:∃n:Nat,i=(n:Int):=⟨i.toNat,by omega⟩
 by_cases h:n<len
 ·refine(hs b n h h0).mono fun r hr=>?_;cases r with
  |inr y=>exact hr
  |inl a=>obtain⟨q1,q2⟩:=hr;refine⟨⟨q1,by rw[q2];omega,by rw[q2];omega⟩,?_⟩;show((len:Int)-a.2.1).toNat<((len:Int)-(n:Int)).toNat;rw[q2];omega
 ·have hn:n=len:=by omega
  subst hn;refine(he b h0).mono fun r hr=>?_;cases r with
  |inl a=>exact hr.elim
  |inr y=>exact hr
theorem UF {Y:Type} {body body':Int×Unit->Option ((Int×Unit)⊕Y)} (len:Nat) (hlen:len<=1073741824) (F:Nat->Prop) {Q:Y->Prop}
  (hs:∀n,n<len->Sm (fun r=>match r with| .inl a=>a.1=((n+1:Nat):Int)/\F n| .inr y=>Q y) (body ((n:Int),())) (body' ((n:Int),()))) (he:(∀n,n<len->F n)->Sm (fun r=>match r with| .inl a=>False| .inr y=>Q y) (body ((len:Int),())) (body' ((len:Int),()))):Sm Q (iter body big (0,())) (iter body' big (0,())):=by
 refine RZ (fun x=>0<=x.1/\x.1<=(len:Int)/\∀m:Nat,(m:Int)<x.1->F m) (fun x=>((len:Int)-x.1).toNat) (fun x hx=>?_) big (0,()) ⟨Int.le_refl _,by show(0:Int)<=(len:Int);omega,fun m hm=>by have hm:(m:Int)<0:=hm;omega⟩ (aT (by show((len:Int)-0).toNat<_;omega));obtain⟨i,u⟩:=x;obtain⟨h1,h2,h3⟩:=hx;have h1:0<=i:=h1;have h2:i<=(len:Int):=h2;have h3:∀m:Nat,(m:Int)<i->F m:=h3;obtain⟨n,rfl⟩:∃n:Nat,i=(n:Int):=⟨i.toNat,by omega⟩
 by_cases h:n<len
 ·refine(hs n h).mono fun r hr=>?_;cases r with
  |inr y=>exact hr
  |inl a=>
   obtain⟨q2,q3⟩:a.1=((n+1:Nat):Int)/\F n:=hr;refine⟨⟨by rw[q2];omega,by rw[q2];omega,fun m hm=>?_⟩,?_⟩
   ·rw[q2]at hm;rcases Nat.lt_or_ge m n with hmn|hmn
    ·exact h3 m (by omega)
    ·rw[show m=n by omega];exact q3
   ·show((len:Int)-a.1).toNat<((len:Int)-(n:Int)).toNat;rw[q2];omega
 ·have hn:n=len:=by omega
  subst hn;refine(he fun m hm=>h3 m (by omega)).mono fun r hr=>?_;cases r with
  |inl a=>exact hr.elim
  |inr y=>exact hr
abbrev Any{α:Type}:α->Prop:=fun _=>True
theorem Z6{α:Type}{x y:Option α}{a:α}(h1:x=some a)(h2:y=some a):Sm (fun r=>r=a) x y:=⟨a,h1,h2,rfl⟩
theorem Q7(a lo hi:Int):Sm (fun r=>r=(hG a lo hi,())) (bt a lo hi) (bu a lo hi):=Z6 (qB a lo hi) (ev a lo hi)
theorem Wi:∀(k:Fin 3) (t:Fin 7) (a b c:Bool),Jm ((k.val:Nat):Int) ((t.val:Nat):Int) a b c=zT ((k.val:Nat):Int) ((t.val:Nat):Int) a b c/\(zT ((k.val:Nat):Int) ((t.val:Nat):Int) a b c).isSome=true:=by decide +kernel
theorem WT(k t:Int)(a b c:Bool):Sm (fun r=>r.1=true->0<=k/\k<=2) (Jm k t a b c) (zT k t a b c):=by
 cases hk:hG k 0 2 with
 |false=>
  refine⟨(false,()),?_,?_,fun h=>by cases h⟩
  ·unfold Jm;rw[qB,hk];rfl
  ·unfold zT;rw[ev,hk];rfl
 |true=>
  obtain⟨h1,h2⟩:=e7.1 hk;cases ht:hG t 0 6 with
  |false=>
   refine⟨(false,()),?_,?_,fun h=>by cases h⟩
   ·unfold Jm;rw[qB,hk,qB,ht];rfl
   ·unfold zT;rw[ev,hk,ev,ht];rfl
  |true=>obtain⟨h3,h4⟩:=e7.1 ht;have:=Wi ⟨k.toNat,by omega⟩ ⟨t.toNat,by omega⟩ a b c;simp only[Int.toNat_of_nonneg h1,Int.toNat_of_nonneg h3]at this;obtain⟨r,hr⟩:=Option.isSome_iff_exists.1 this.2;exact⟨r,this.1.trans hr,hr,fun _=>⟨h1,h2⟩⟩
theorem W6(a b c d e:Int):Sm Any (Od a b c d e) (NX a b c d e):=by unfold Od NX m7 kk;simp only[qB,ev,Option.bind_some];cases hG a 1 2147483646 <;> cases hG b 0 1000001 <;> cases hG c 0 2 <;> cases hG d 0 6 <;> exact .ret trivial
theorem Wn(a b c d e f:Int)(o:Bool):Sm Any (J6 a b c d e f o) (Ex a b c d e f o):=by unfold J6 Ex kB hU My gn;simp only[qB,ev,Option.bind_some];cases hG a 1 40 <;> cases hG b 1 40 <;> cases af .neq a b <;> cases hG c 0 999 <;> cases hG d 0 5 <;> cases hG e 0 20000 <;> cases hG f 0 20000 <;> exact .ret trivial
noncomputable def XB(x:SX):Bool:=match Ex x.1 x.2.1 x.2.2.1 x.2.2.2.1 x.2.2.2.2.1 x.2.2.2.2.2.1 x.2.2.2.2.2.2 with|some r=>r.1|none=>false
theorem Wm(x:SX):J6 x.1 x.2.1 x.2.2.1 x.2.2.2.1 x.2.2.2.2.1 x.2.2.2.2.2.1 x.2.2.2.2.2.2=some (XB x,())/\Ex x.1 x.2.1 x.2.2.1 x.2.2.2.1 x.2.2.2.2.1 x.2.2.2.2.2.1 x.2.2.2.2.2.2=some (XB x,()):=by
 obtain⟨r,e1,e2,_⟩:=Wn x.1 x.2.1 x.2.2.1 x.2.2.2.1 x.2.2.2.2.1 x.2.2.2.2.2.1 x.2.2.2.2.2.2;have:XB x=r.1:=by unfold XB;rw[e2]
 rw[this];exact⟨e1,e2⟩
theorem VD(g:List SX)(hg:g.length<=1073741824):Sm Any (K5 g) (KW g):=by
 unfold K5 KW cy eg;have hs:KK (g,()) (0,())=some (bif aB (fun n=>XB (g.getD n cn)) 0 g.length then(Sum.inr (Sum.inl ()):Bool×Unit⊕(Unit⊕Empty))else .inl (false,())):=by
  refine bp (fun n=>((n:Int),())) g.length (by omega) _ _ _ (fun n hn=>?_) ?_
  ·unfold KJ;simp only[aj,az,hn,decide_true,cond_true,aq,(Wm _).1,Option.bind_some,av (n:=n) (by omega)];cases XB (g.getD n cn) <;> rfl
  ·unfold KJ;simp only[aj,Nat.lt_irrefl,decide_false,cond_false]
 obtain⟨y,h1,h2⟩:=fP (body:=cc (g,ai g,())) (fun n=>((n:Int),())) g.length (by omega) (fun n=>XB (g.getD n cn)) (Sum.inr (Sum.inl ())) (fun n=>Sum.inl ((n:Int),())) (fun n hn=>by
  unfold cc Lt;simp only[aj,az,hn,decide_true,cond_true,aq,(Wm _).2,Option.bind_some,av (n:=n) (by omega)];cases XB (g.getD n cn) <;> rfl) (by
  unfold cc;simp only[aj,Nat.lt_irrefl,decide_false,cond_false])
 have h1':c6 (g,ai g,()) ((0:Int),())=some y:=h1;rw[hs,h1'];have hle:af .leq (ai g) (30:Int)=Bool.not (af .gtr (ai g) 30):=Vl _ _;rw[hle];cases af .gtr (ai g) (30:Int)with
 |true=>exact .ret trivial
 |false=>
  simp only[Bool.not_false,cond_true,cond_false];rcases h2 with ⟨e1,rfl⟩|⟨e1,n,hn,rfl,_⟩
  ·rw[e1];exact⟨(true,()),rfl,rfl,trivial⟩
  ·rw[e1];have h0:af .geq (n:Int) 0=true:=by simp[af]
   refine⟨(false,()),rfl,?_,trivial⟩;show some (Bool.not (af .geq (n:Int) 0),())=_;rw[h0];rfl
section
variable (a0 a1 a2 a3 a4 a5 a6 a7 a8 a9 a10:Int) (s:List Site) (p:List Si) (g:List SX) (j:List Ev)
theorem S9{x:Site}(h:LV 1073741824 x):Px x.2.2.1:=⟨h.b,fun c hc=>by obtain⟨n,hn,rfl⟩:=List.mem_iff_getElem.1 hc;have:=h.bs n hn;rw[List.getD_eq_getElem?_getD,List.getElem?_eq_getElem hn]at this;exact this⟩
theorem Xo(o c:List MA):Sm Any (BE o c) (sS o c):=⟨_,Jl o c,Ji o c,trivial⟩
theorem WR{L:List PT}(h:Px L):Sm (fun r=>r.1=true->OQ L=true) (Lp L) (Jj L):=⟨_,UI L h,Uu L h,fun h=>h⟩
theorem SA(l:List Ev):Sm Any (r3 l) (qe l):=⟨_,WD l,Wr l,trivial⟩
theorem Xf(k:Nat)(hk:k<s.length)(hs:LV 1073741824 (s.getD k bn))(hp:p.length<=1048576):Sm (fun r=>r.1=true->OQ (s.getD k bn).2.2.1=true) (Kk a0 a1 a2 a3 a4 a5 a6 a7 a8 a9 a10 s p g j (k:Int)) (N1 a0 a1 a2 a3 a4 a5 a6 a7 a8 a9 a10 s p g j (k:Int)):=by
 unfold Kk N1;refine .guard (cV hk) (cV hk) ?_;simp only[aq];have hz:s.getD k aS=s.getD k bn:=rfl;rw[hz];generalize s.getD k bn=x at hs;have no:∀ {Q:Prop},((false:Bool),()).1=true->Q:=fun h=>by cases h
 refine(Xo x.1 x.2.1).bind fun r _=>.cond (fun _=>.ret no) fun _=>?_;refine(WR (S9 hs)).bind fun r hr=>.cond (fun _=>.ret no) fun hb=>?_;have B8:OQ x.2.2.1=true:=hr (by cases h:r.1 with|true=>rfl|false=>rw[h]at hb;cases hb);refine(WT x.2.2.2.1 x.2.2.2.2.1 x.2.2.2.2.2.1 x.2.2.2.2.2.2.1 x.2.2.2.2.2.2.2.1).bind fun r hr=>.cond (fun _=>.ret no) fun hb=>?_;have Z0:=hr (by cases h:r.1 with|true=>rfl|false=>rw[h]at hb;cases hb);refine(SA x.2.2.2.2.2.2.2.2.2.2).bind fun r _=>.cond (fun _=>.ret no) fun _=>?_;refine .cond (fun _=>?_) fun _=>?_
 ·simp only[aV];exact .cond (fun _=>.ret fun _=>B8) fun _=>.ret no
 ·refine(Q7 x.2.2.2.2.2.2.2.2.1 1 (ai p)).bind fun r hr=>.cond (fun _=>.ret no) fun hb=>?_;subst hr;have hin:hG x.2.2.2.2.2.2.2.2.1 1 (ai p)=true:=by cases h:hG x.2.2.2.2.2.2.2.2.1 1 (ai p)with|true=>rfl|false=>rw[h]at hb;cases hb
  obtain⟨i1,i2⟩:=e7.1 hin;unfold ai at i2;have hsub:aa .sub .i64 x.2.2.2.2.2.2.2.2.1 1=x.2.2.2.2.2.2.2.2.1-1:=bO (by omega) (by omega);rw[hsub];have hr:ah p (x.2.2.2.2.2.2.2.2.1-1)=true:=xn (by omega) (by omega);rw[hr];simp only[cond_true];refine .cond (fun _=>.ret no) fun _=>.cond (fun _=>.ret no) fun _=>?_;obtain⟨k1,k2⟩:=Z0;unfold bt hU;simp only[ev];have hc:x.2.2.2.1=0\/x.2.2.2.1=1\/x.2.2.2.1=2:=by omega
  rcases hc with hc|hc|hc <;> rw[hc]
  ·exact .ret no
  ·show Sm _ (bif af .eql x.2.2.2.2.2.2.2.2.2.1 0 then _ else _) (bif af .eql x.2.2.2.2.2.2.2.2.2.1 0 then _ else _);cases af .eql x.2.2.2.2.2.2.2.2.2.1 0 with
   |true=>exact .ret fun _=>B8
   |false=>exact .ret no
  ·show Sm _ (bt x.2.2.2.2.2.2.2.2.2.1 0 40 |>.bind _) (bif af .eql x.2.2.2.2.2.2.2.2.2.1 0 then _ else(some (hG x.2.2.2.2.2.2.2.2.2.1 1 40,())).bind fun y=>some (y.1,()));rw[qB];cases hq:af .eql x.2.2.2.2.2.2.2.2.2.1 0 with
   |true=>have:x.2.2.2.2.2.2.2.2.2.1=0:=S1.1 hq;rw[this];exact⟨(true,()),rfl,rfl,fun _=>B8⟩
   |false=>
    have h0:x.2.2.2.2.2.2.2.2.2.1≠0:=fun e=>by rw[S1.2 e]at hq;cases hq
    have:hG x.2.2.2.2.2.2.2.2.2.1 0 40=hG x.2.2.2.2.2.2.2.2.2.1 1 40:=by rw[Bool.eq_iff_iff,e7,e7];omega
    rw[this];exact⟨_,rfl,rfl,fun _=>B8⟩
theorem Ti(a:Int):Sm Any (kB a) (hU a):=by unfold kB hU;rw[qB,ev];exact .ret trivial
theorem VR(n:Int):Sm Any (IL a0 a1 a2 a3 a4 a5 a6 a7 a8 a9 a10 s p g j n) (IC a0 a1 a2 a3 a4 a5 a6 a7 a8 a9 a10 s p g j n):=by obtain⟨y,e1,e2⟩:=VQ a0 a1 a2 a3 a4 a5 a6 a7 a8 a9 a10 s p g j n;exact⟨_,e1,e2,trivial⟩
theorem Sd(x:Si)(k:Nat)(hk:k<p.length)(hx:p.getD k bf=x)(h0:0<=x.2.2.1)(h1:x.2.2.1<s.length):Sm Any (r6 a0 a1 a2 a3 a4 a5 a6 a7 a8 a9 a10 s p g j (k:Int)) (tB a0 a1 a2 a3 a4 a5 a6 a7 a8 a9 a10 s p g j x.1 x.2.1 x.2.2.1 x.2.2.2.1 x.2.2.2.2.1 x.2.2.2.2.2.1 x.2.2.2.2.2.2.1 x.2.2.2.2.2.2.2.1 x.2.2.2.2.2.2.2.2.1 x.2.2.2.2.2.2.2.2.2.1 x.2.2.2.2.2.2.2.2.2.2.1 x.2.2.2.2.2.2.2.2.2.2.2.1 x.2.2.2.2.2.2.2.2.2.2.2.2):=by unfold r6 tB;rw[cV hk,aq,hx,xn h0 h1];simp only[cond_true];exact .cond (fun _=>.ret trivial) fun _=>.cond (fun _=>.ret trivial) fun _=>.cond (fun _=>.ret trivial) fun _=>.ret trivial
theorem VN(k:Nat)(hk:k<p.length)(hs:s.length<=1048576):Sm (fun r=>r.1=true->0<=(p.getD k bf).2.2.1/\(p.getD k bf).2.2.1<s.length) (Iu a0 a1 a2 a3 a4 a5 a6 a7 a8 a9 a10 s p g j (k:Int)) (KZ a0 a1 a2 a3 a4 a5 a6 a7 a8 a9 a10 s p g j (k:Int)):=by
 unfold Iu KZ;refine .guard (cV hk) (cV hk) ?_;simp only[aq];generalize hx:p.getD k bf=x;have no:∀ {Q:Prop},((false:Bool),()).1=true->Q:=fun h=>by cases h
 refine(Q7 x.1 1 24).bind fun r _=>.cond (fun _=>.ret no) fun _=>?_;refine(Ti x.2.1).bind fun r _=>.cond (fun _=>.ret no) fun _=>?_;refine(Q7 x.2.2.1 0 (aa .sub .i64 (ai s) 1)).bind fun r hr=>.cond (fun _=>.ret no) fun hb=>?_;subst hr;have hin:hG x.2.2.1 0 (aa .sub .i64 (ai s) 1)=true:=by cases h:hG x.2.2.1 0 (aa .sub .i64 (ai s) 1)with|true=>rfl|false=>rw[h]at hb;cases hb
 obtain⟨i1,i2⟩:=e7.1 hin;rw[bO (by unfold ai;omega) (by unfold ai;omega)]at i2;have i2:x.2.2.1<s.length:=by unfold ai at i2;omega
 have yes:∀ {b:Bool},b=true->0<=x.2.2.1/\x.2.2.1<s.length:=fun _=>⟨i1,i2⟩
 refine(Q7 x.2.2.2.1 0 5).bind fun r _=>.cond (fun _=>.ret no) fun _=>?_;refine .cond (fun _=>.guard (xn i1 i2) (xn i1 i2) (.cond (fun _=>.ret no) fun _=>?_)) fun _=>?_;all_goals
  refine(Sd a0 a1 a2 a3 a4 a5 a6 a7 a8 a9 a10 s p g j x k hk hx i1 i2).bind fun r _=>.cond (fun _=>?_) fun _=>?_
  ·refine .cond (fun _=>.cond (fun _=>.cond (fun _=>.cond (fun _=>?_) fun _=>.ret no) fun _=>.ret no) fun _=>.ret no) fun _=>.ret no;simp only[aV];exact .ret yes
  ·refine(Q7 x.2.2.2.2.1 0 a10).bind fun r _=>.cond (fun _=>.ret no) fun _=>?_;refine(Q7 x.2.2.2.2.2.1 0 a7).bind fun r _=>.cond (fun _=>.ret no) fun _=>?_;refine(W6 x.2.2.2.2.2.2.1 x.2.2.2.2.2.2.2.1 x.2.2.2.2.2.2.2.2.1 x.2.2.2.2.2.2.2.2.2.1 x.2.2.2.2.2.2.2.2.2.2.1).bind fun r _=>.cond (fun _=>.ret no) fun _=>?_;refine(VR a0 a1 a2 a3 a4 a5 a6 a7 a8 a9 a10 s p g j (aa .add .i64 (k:Int) 1)).bind fun r _=>.cond (fun _=>.ret no) fun _=>?_;refine .cond (fun _=>?_) fun _=>?_
   ·refine(Ti x.2.2.2.2.2.2.2.2.2.2.2.1).bind fun r _=>.cond (fun _=>?_) fun _=>.ret no;exact(Q7 x.2.2.2.2.2.2.2.2.2.2.2.2 0 (aa .add .i64 a4 (aa .mul .i64 a6 a7))).bind fun r _=>.ret yes
   ·exact .cond (fun _=>.ret yes) fun _=>.ret no
theorem W5(hp:p.length<=1048576)(hs:∀k,k<p.length->0<=(p.getD k bf).2.2.1/\(p.getD k bf).2.2.1<s.length):Sm Any (Mz a0 a1 a2 a3 a4 a5 a6 a7 a8 a9 a10 s p g j) (N0 a0 a1 a2 a3 a4 a5 a6 a7 a8 a9 a10 s p g j):=by
 unfold Mz N0;refine(OT (B:=Int) (Q:=Any) p.length (by omega) (fun _=>True) (fun b n hn _=>?_) (fun b _=>?_) (0:Int) trivial).bind fun q _=>?_
 ·unfold L6 M3;simp only[aj,az,hn,decide_true,cond_true,aq,av (n:=n) (by omega)];obtain⟨h0,h1⟩:=hs n hn;refine .cond (fun _=>?_) fun _=>.ret ⟨trivial,rfl⟩;refine(Sd a0 a1 a2 a3 a4 a5 a6 a7 a8 a9 a10 s p g j (p.getD n bf) n hn rfl h0 h1).bind fun r _=>.cond (fun _=>.ret ⟨trivial,rfl⟩) fun _=>.ret ⟨trivial,rfl⟩
 ·unfold L6 M3;simp only[aj,Nat.lt_irrefl,decide_false,cond_false];exact .ret trivial
 ·cases q with
  |inl y=>exact .ret trivial
  |inr e=>exact e.elim
theorem XU(k i:Int)(Zs:List PT)(l:List Bx)(hl:l.length<=1073741824)(xP:∀n,n<l.length->0<=(l.getD n kW).2.2.1/\(l.getD n kW).2.2.1<=999)(hp:p.length<=1048576)(c:Int):
  Sm Any (Jf (a0,a1,a2,a3,a4,a5,a6,a7,a8,a9,a10,s,p,g,j,k,i,l,()) (c,0,())) (LI (a0,a1,a2,a3,a4,a5,a6,a7,a8,a9,a10,s,p,g,j,k,s,ai s,k,Zs,ai Zs,i,l,ai l,()) (c,0,())):=by
 refine OT (B:=Int) (Q:=Any) l.length (by omega) (fun _=>True) (fun b n hn _=>?_) (fun b _=>?_) c trivial
 ·unfold Jc LF;obtain⟨h0,h9⟩:=xP n hn;revert h0 h9;simp only[aj,az,hn,decide_true,cond_true,aq,av (n:=n) (by omega),ev,Option.bind_some,aV];generalize l.getD n kW=x;intro h0 h9;refine .cond (fun _=>.ret ⟨trivial,rfl⟩) fun hz=>?_;have hz:¬x.2.2.1=0:=fun e=>by rw[S1.2 e]at hz;cases hz
  have hb:Bool.not (hG x.2.2.1 1 (ai p))=af .gtr x.2.2.1 (ai p):=by
   cases hq:af .gtr x.2.2.1 (ai p)with
   |true=>
    have:=Zv.1 hq;have:hG x.2.2.1 1 (ai p)=false:=by rw[Bool.eq_false_iff,ne_eq,e7];omega
    rw[this];rfl
   |false=>have:=Wo.1 hq;have:hG x.2.2.1 1 (ai p)=true:=e7.2 ⟨by omega,by omega⟩;rw[this];rfl
  rw[hb];refine .cond (fun _=>.ret trivial) fun hg=>?_;have hg:=Wo.1 hg;unfold ai at hg;rw[bO (by omega) (by omega)];refine .guard (xn (by omega) (by omega)) (xn (by omega) (by omega)) ?_;generalize ae bf p (x.2.2.1-1)=y;cases af .neq y.2.2.1 k <;> cases af .neq y.1 x.2.1 <;> cases af .neq y.2.2.2.1 2 <;> cases af .neq y.2.2.2.1 3 <;> cases af .eql y.2.2.2.1 2 <;> cases x.2.2.2 <;> first|exact .ret trivial|exact .ret ⟨trivial,rfl⟩
 ·unfold Jc LF;simp only[aj,Nat.lt_irrefl,decide_false,cond_false];exact .ret trivial
theorem XT(k:Nat)(hk:k<s.length)(hs:LV 1073741824 (s.getD k bn))(hb:OQ (s.getD k bn).2.2.1=true)(hp:p.length<=1048576)(c:Int):
  Sm Any (Je (a0,a1,a2,a3,a4,a5,a6,a7,a8,a9,a10,s,p,g,j,(k:Int),()) (c,0,())) (LH (a0,a1,a2,a3,a4,a5,a6,a7,a8,a9,a10,s,p,g,j,(k:Int),s,ai s,(k:Int),(s.getD k bn).2.2.1,ai (s.getD k bn).2.2.1,()) (c,0,())):=by
 have hw:=S9 hs;refine OT (B:=Int) (Q:=Any) (s.getD k bn).2.2.1.length (by have:=hw.1;omega) (fun _=>True) (fun b n hn _=>?_) (fun b _=>?_) c trivial
 ·unfold Jb LD;have hz:s.getD k aS=s.getD k bn:=rfl;simp only[az,hk,decide_true,cond_true,aq,hz,aj,hn,av (n:=n) (by have:=hw.1;omega)];refine(XU a0 a1 a2 a3 a4 a5 a6 a7 a8 a9 a10 s p g j (k:Int) (n:Int) (s.getD k bn).2.2.1 (cx (s.getD k bn).2.2.1 n).2.2 (hw.at hn).2 (fun m hm=>?_) hp b).bind fun q _=>?_
  ·unfold OQ at hb;rw[Bool.and_eq_true]at hb;have:=(aQ _ _).1 hb.2 n (Nat.zero_le _) (by omega);unfold OU Tq at this;simp only[Bool.and_eq_true]at this;have:=(aQ _ _).1 this.1.2.1.1 m (Nat.zero_le _) (by omega);unfold V6 at this;simp only[Bool.and_eq_true]at this;exact e7.1 this.1.1.2
  ·cases q with
   |inl y=>exact .ret trivial
   |inr q=>
    cases q with
    |inl y=>exact .ret ⟨trivial,rfl⟩
    |inr e=>exact e.elim
 ·unfold Jb LD;have hz:s.getD k aS=s.getD k bn:=rfl;simp only[az,hk,decide_true,cond_true,aq,hz,aj,Nat.lt_irrefl,decide_false,cond_false];exact .ret trivial
theorem Wf(hle:RE s p g j)(hb:∀k,k<s.length->OQ (s.getD k bn).2.2.1=true):Sm Any (I3 a0 a1 a2 a3 a4 a5 a6 a7 a8 a9 a10 s p g j) (Mj a0 a1 a2 a3 a4 a5 a6 a7 a8 a9 a10 s p g j):=by
 have hls:=hle.ls;have hlp:=hle.lp;unfold I3 Mj;refine(OT (B:=Int) (Q:=Any) s.length (by omega) (fun _=>True) (fun b n hn _=>?_) (fun b _=>?_) (0:Int) trivial).bind fun q _=>?_
 ·unfold Ja LC;have hz:∀n,s.getD n aS=s.getD n bn:=fun _=>rfl;simp only[aj,az,hn,decide_true,cond_true,aq,av (n:=n) (by omega),hz];refine(XT a0 a1 a2 a3 a4 a5 a6 a7 a8 a9 a10 s p g j n hn (hle.ss n hn) (hb n hn) hlp b).bind fun q _=>?_;cases q with
  |inl y=>exact .ret trivial
  |inr q=>
   cases q with
   |inl y=>exact .ret ⟨trivial,rfl⟩
   |inr e=>exact e.elim
 ·unfold Ja LC;simp only[aj,Nat.lt_irrefl,decide_false,cond_false];exact .ret trivial
 ·cases q with
  |inl y=>exact .ret trivial
  |inr q=>
   cases q with
   |inr e=>exact e.elim
   |inl y=>
    refine(OT (B:=Int) (Q:=Any) p.length (by omega) (fun _=>True) (fun b n hn _=>?_) (fun b _=>?_) y.1 trivial).bind fun q _=>?_
    ·unfold Jd LG;simp only[aj,az,hn,decide_true,cond_true,aq,av (n:=n) (by omega)];exact .cond (fun _=>.ret ⟨trivial,rfl⟩) fun _=>.cond (fun _=>.ret ⟨trivial,rfl⟩) fun _=>.ret ⟨trivial,rfl⟩
    ·unfold Jd LG;simp only[aj,Nat.lt_irrefl,decide_false,cond_false];exact .ret trivial
    ·cases q with
     |inl y=>exact .ret trivial
     |inr e=>exact e.elim
theorem U5(hle:RE s p g j):Sm Any (J9 a0 a1 a2 a3 a4 a5 a6 a7 a8 a9 a10 s p g j) (mS a0 a1 a2 a3 a4 a5 a6 a7 a8 a9 a10 s p g j):=by
 have hls:=hle.ls;have hlp:=hle.lp;have hlg:=hle.lg;unfold J9 mS;refine Sm.bind (P:=Any) ⟨_,RG ..,OW ..,trivial⟩ fun r _=>.cond (fun _=>.ret trivial) fun _=>?_;refine(Q7 a8 0 1000).bind fun r _=>.cond (fun _=>.ret trivial) fun _=>?_;refine Sm.bind (P:=Any) (by unfold m7 kk;rw[qB,ev];exact .ret trivial) fun r _=>.cond (fun _=>.ret trivial) fun _=>?_;refine Sm.bind (P:=Any) (by rw[qB,Iv];exact .ret trivial) fun r _=>.cond (fun _=>.ret trivial) fun _=>?_;refine(Q7 (ai s) 1 3).bind fun r _=>.cond (fun _=>.ret trivial) fun _=>.cond (fun _=>.ret trivial) fun _=>?_;refine(VD g (by omega)).bind fun r _=>.cond (fun _=>.ret trivial) fun _=>?_;refine(SA j).bind fun r _=>.cond (fun _=>.ret trivial) fun _=>?_;refine(UF s.length (by omega) (fun n=>OQ (s.getD n bn).2.2.1=true) (Q:=fun y=>match y with| .inl _=>True| .inr _=>∀n,n<s.length->OQ (s.getD n bn).2.2.1=true) (fun n hn=>?_) (fun hF=>?_)).bind fun q hq=>?_
 ·unfold Ka Jv;simp only[aj,hn,decide_true,cond_true,av (n:=n) (by omega)];refine(Xf a0 a1 a2 a3 a4 a5 a6 a7 a8 a9 a10 s p g j n hn (hle.ss n hn) hlp).bind fun r hr=>.cond (fun _=>.ret trivial) fun hb=>.ret ⟨rfl,hr ?_⟩;cases h:r.1 with|true=>rfl|false=>rw[h]at hb;cases hb
 ·unfold Ka Jv;simp only[aj,Nat.lt_irrefl,decide_false,cond_false];exact .ret hF
 ·cases q with
  |inl y=>exact .ret trivial
  |inr q=>
   cases q with
   |inr e=>exact e.elim
   |inl y=>
    have ZY:∀n,n<s.length->OQ (s.getD n bn).2.2.1=true:=hq;refine(UF p.length (by omega) (fun n=>0<=(p.getD n bf).2.2.1/\(p.getD n bf).2.2.1<s.length) (Q:=fun y=>match y with| .inl _=>True| .inr _=>∀n,n<p.length->0<=(p.getD n bf).2.2.1/\(p.getD n bf).2.2.1<s.length) (fun n hn=>?_) (fun hF=>?_)).bind fun q hq=>?_
    ·unfold Kb Jw;simp only[aj,hn,decide_true,cond_true,av (n:=n) (by omega)];refine(VN a0 a1 a2 a3 a4 a5 a6 a7 a8 a9 a10 s p g j n hn hls).bind fun r hr=>.cond (fun _=>.ret trivial) fun hb=>.ret ⟨rfl,hr ?_⟩;cases h:r.1 with|true=>rfl|false=>rw[h]at hb;cases hb
    ·unfold Kb Jw;simp only[aj,Nat.lt_irrefl,decide_false,cond_false];exact .ret hF
    ·cases q with
     |inl y=>exact .ret trivial
     |inr q=>
      cases q with
      |inr e=>exact e.elim
      |inl y=>refine(Wf a0 a1 a2 a3 a4 a5 a6 a7 a8 a9 a10 s p g j hle ZY).bind fun r _=>.cond (fun _=>?_) fun _=>.ret trivial;exact(W5 a0 a1 a2 a3 a4 a5 a6 a7 a8 a9 a10 s p g j hlp hq).bind fun r _=>.ret trivial
end
end Go.Fn
set_option linter.unusedVariables false
namespace Go.Fn
open Go.R
noncomputable def JR(a:Unit)(b:Mf×Ls):Option (Mf×Ls⊕XP⊕Empty):=letI c:=b.2.2.1;letI d:=aa .add .i64 b.2.1 1;letI e:=aC b.1 c (b.2.1,(ae Nr b.1 c).2);cond (af .lss c (ai b.1)) (cond (ah b.1 c) (cond (ah e c) (lets (aC e c ((ae Nr e c).1,d)) fun f=>some (.inl (f,aa .add .i64 d 1,aa .add .i64 c 1,()))) none) none) (some (.inr (.inl (b.1,b.2.1,()))))
noncomputable def JS k x:=iter (JR k) big x
noncomputable def z2(a:Mf)(b:Int):Option (Int×Xx):=(JS () (a,b,0,())).bind fun c=>Sum.elim (fun d=>some (d.2.1,d.1,())) (fun d=>Empty.elim d) c
noncomputable def KC(a:Unit)(b:Se×Ls):Option (Se×Ls⊕XQ⊕Empty):=letI c:=b.2.2.1;letI d:=aa .add .i64 b.2.1 1;letI e:=(ae kW b.1 c).2;letI f:=aC b.1 c (b.2.1,e.1,e.2.1,e.2.2);letI g:=ae kW f c;cond (af .lss c (ai b.1)) (cond (ah b.1 c) (cond (ah f c) (lets (aC f c (g.1,d,g.2.2.1,g.2.2.2)) fun h=>letI i:=ae kW h c;letI j:=aa .add .i64 d 1;cond (ah h c) (lets (aC h c (i.1,i.2.1,j,i.2.2.2)) fun k=>letI l:=ae kW k c;letI m:=aa .add .i64 j 1;cond (ax 3) none (cond (ah k c) (lets (aC k c (l.1,l.2.1,l.2.2.1,af .eql (aa .rem .i64 m 3) 0)) fun n=>some (.inl (n,aa .add .i64 m 1,aa .add .i64 c 1,()))) none)) none) none) none) (some (.inr (.inl (b.1,b.2.1,()))))
noncomputable def KD k x:=iter (KC k) big x
noncomputable def K2(a:Se)(b:Int):Option (Int×XM):=(KD () (a,b,0,())).bind fun c=>Sum.elim (fun d=>some (d.2.1,d.1,())) (fun d=>Empty.elim d) c
noncomputable def Ix(a:Unit)(b:Sf×Ls):Option (Sf×Ls⊕Yi⊕Empty):=letI c:=b.2.2.1;letI d:=(ae b9 b.1 c).2;letI e:=aC b.1 c (b.2.1,d.1,d.2);letI f:=ae b9 e c;cond (af .lss c (ai b.1)) (cond (ah b.1 c) (cond (ah e c) ((vm f.2.1 (aa .add .i64 b.2.1 1)).bind fun g=>lets (aC e c (f.1,g.2.1,f.2.2)) fun h=>letI i:=ae b9 h c;cond (ah h c) ((K2 i.2.2 g.1).bind fun j=>some (.inl (aC h c (i.1,i.2.1,j.2.1),j.1,aa .add .i64 c 1,()))) none) none) none) (some (.inr (.inl (b.1,b.2.1,()))))
noncomputable def Iy k x:=iter (Ix k) big x
noncomputable def Ia(a:Sf)(b:Int):Option (Int×XN):=(Iy () (a,b,0,())).bind fun c=>Sum.elim (fun d=>some (d.2.1,d.1,())) (fun d=>Empty.elim d) c
noncomputable def JP(a:Unit)(b:Lc×Ls):Option (Lc×Ls⊕Lc×Cp⊕Empty):=letI c:=b.2.2.1;letI d:=ae aS b.1 c;cond (af .lss c (ai b.1)) (cond (ah b.1 c) ((z2 d.1 b.2.1).bind fun e=>letI f:=d.2.2;letI g:=f.2.2.2.2;lets (aC b.1 c (e.2.1,d.2.1,f.1,f.2.1,f.2.2.1,f.2.2.2.1,g.1,g.2.1,g.2.2.1,g.2.2.2.1,g.2.2.2.2)) fun h=>letI i:=ae aS h c;cond (ah h c) ((z2 i.2.1 e.1).bind fun j=>letI k:=i.2.2.2;letI l:=k.2.2.2.2;lets (aC h c (i.1,j.2.1,i.2.2.1,k.1,k.2.1,k.2.2.1,k.2.2.2.1,l.1,l.2.1,l.2.2.1,l.2.2.2)) fun m=>letI n:=ae aS m c;cond (ah m c) ((Ia n.2.2.1 j.1).bind fun o=>letI p:=n.2.2.2;letI q:=p.2.2.2.2;lets (aC m c (n.1,n.2.1,o.2.1,p.1,p.2.1,p.2.2.1,p.2.2.2.1,q.1,q.2.1,q.2.2.1,q.2.2.2)) fun r=>letI s:=ae aS r c;letI t:=s.2.2.2.2;letI u:=t.2.2.2;cond (ah r c) (lets (aC r c (s.1,s.2.1,s.2.2.1,o.1,t.1,t.2.1,t.2.2.1,u.1,u.2.1,u.2.2.1,u.2.2.2)) fun v=>letI w:=(1:Int);letI x:=aa .add .i64 o.1 w;letI y:=ae aS v c;letI z:=y.2.2.2.2.2;cond (ah v c) (lets (aC v c (y.1,y.2.1,y.2.2.1,y.2.2.2.1,x,z.1,z.2.1,z.2.2.1,z.2.2.2.1,z.2.2.2.2.1,z.2.2.2.2.2)) fun A=>letI B:=ax 3;letI C:=ae aS A c;letI D:=C.2.2;letI E:=D.2.2.2.2;letI F:=aa .add .i64 x w;cond B none (cond (ah A c) (lets (aC A c (C.1,C.2.1,D.1,D.2.1,D.2.2.1,af .eql (aa .rem .i64 F 3) 0,E.1,E.2.1,E.2.2.1,E.2.2.2.1,E.2.2.2.2)) fun G=>letI H:=ae aS G c;letI I:=H.2.2;letI J:=I.2.2.2.2.2;letI K:=aa .add .i64 F w;cond B none (cond (ah G c) (lets (aC G c (H.1,H.2.1,I.1,I.2.1,I.2.2.1,I.2.2.2.1,af .eql (aa .rem .i64 K 3) 0,J.1,J.2.1,J.2.2.1,J.2.2.2)) fun L=>letI M:=aa .add .i64 K w;cond B none (lets (af .eql (aa .rem .i64 M 3) 0) fun N=>letI O:=ae aS L c;letI P:=O.2.2;letI Q:=P.2.2.2.2.2.2;cond (ah L c) (lets (aC L c (O.1,O.2.1,P.1,P.2.1,P.2.2.1,P.2.2.2.1,P.2.2.2.2.1,N,Q.1,Q.2.1,Q.2.2)) fun R=>letI S:=ae aS R c;letI T:=S.2.2;letI U:=T.2.2.2.2;letI V:=aa .add .i64 M w;cond (ah R c) (lets (aC R c (S.1,S.2.1,T.1,T.2.1,T.2.2.1,T.2.2.2.1,U.1,U.2.1,V,U.2.2.2.1,U.2.2.2.2)) fun W=>lets (aa .add .i64 V w) fun X=>letI Y:=ae aS W c;letI Z:=Y.2.2;letI a0:=Z.2.2.2.2;cond (ah W c) (lets (aC W c (Y.1,Y.2.1,Z.1,Z.2.1,Z.2.2.1,Z.2.2.2.1,a0.1,a0.2.1,a0.2.2.1,X,a0.2.2.2.2)) fun a1=>letI a2:=ae aS a1 c;letI a3:=a2.2.2.2;letI a4:=a3.2.2.2.2;cond (ah a1 c) ((tW a4.2.2.2 (aa .add .i64 X w)).bind fun a5=>lets (aC a1 c (a2.1,a2.2.1,a2.2.2.1,a3.1,a3.2.1,a3.2.2.1,a3.2.2.2.1,a4.1,a4.2.1,a4.2.2.1,a5.2.1)) fun a6=>some (.inl (a6,a5.1,aa .add .i64 c w,()))) none) none) none) none)) none)) none)) none) none) none) none) none) (some (.inr (.inl (b.1,b.2.1,()))))
noncomputable def JQ k x:=iter (JP k) big x
noncomputable def JO(a:Lc)(b:Int):Option (Int×Yf):=(JQ () (a,b,0,())).bind fun c=>Sum.elim (fun d=>some (d.2.1,d.1,())) (fun d=>Empty.elim d) c
noncomputable def Iz(a:Unit)(b:Nq×Ls):Option (Nq×Ls⊕Yj⊕Empty):=letI c:=b.2.2.1;letI d:=(ae bf b.1 c).2;letI e:=d.2.2;letI f:=e.2.2.2.2.2;cond (af .lss c (ai b.1)) (cond (ah b.1 c) (lets (aC b.1 c (b.2.1,d.1,d.2.1,e.1,e.2.1,e.2.2.1,e.2.2.2.1,e.2.2.2.2.1,f.1,f.2.1,f.2.2.1,f.2.2.2.1,f.2.2.2.2)) fun g=>letI h:=(1:Int);letI i:=ae bf g c;letI j:=aa .add .i64 b.2.1 h;letI k:=i.2.2.2.2;letI l:=k.2.2.2.2;cond (ah g c) (lets (aC g c (i.1,j,i.2.2.1,i.2.2.2.1,k.1,k.2.1,k.2.2.1,k.2.2.2.1,l.1,l.2.1,l.2.2.1,l.2.2.2.1,l.2.2.2.2)) fun m=>letI n:=ae bf m c;letI o:=n.2.2.2.2;letI p:=aa .add .i64 j h;letI q:=o.2.2.2.2;cond (ah m c) (lets (aC m c (n.1,n.2.1,p,n.2.2.2.1,o.1,o.2.1,o.2.2.1,o.2.2.2.1,q.1,q.2.1,q.2.2.1,q.2.2.2.1,q.2.2.2.2)) fun r=>letI s:=ae bf r c;letI t:=s.2.2.2.2;letI u:=t.2.2.2.2;letI v:=aa .add .i64 p h;cond (ah r c) (lets (aC r c (s.1,s.2.1,s.2.2.1,v,t.1,t.2.1,t.2.2.1,t.2.2.2.1,u.1,u.2.1,u.2.2.1,u.2.2.2.1,u.2.2.2.2)) fun w=>letI x:=ae bf w c;letI y:=x.2.2.2.2.2;letI z:=y.2.2.2.2;letI A:=aa .add .i64 v h;cond (ah w c) (lets (aC w c (x.1,x.2.1,x.2.2.1,x.2.2.2.1,A,y.1,y.2.1,y.2.2.1,y.2.2.2.1,z.1,z.2.1,z.2.2.1,z.2.2.2)) fun B=>letI C:=ae bf B c;letI D:=C.2.2.2.2.2.2;letI E:=D.2.2.2;letI F:=aa .add .i64 A h;cond (ah B c) (lets (aC B c (C.1,C.2.1,C.2.2.1,C.2.2.2.1,C.2.2.2.2.1,F,D.1,D.2.1,D.2.2.1,E.1,E.2.1,E.2.2.1,E.2.2.2)) fun G=>lets (aa .add .i64 F h) fun H=>letI I:=ae bf G c;letI J:=I.2.2.2;letI K:=J.2.2.2.2.2;cond (ah G c) (lets (aC G c (I.1,I.2.1,I.2.2.1,J.1,J.2.1,J.2.2.1,H,J.2.2.2.2.1,K.1,K.2.1,K.2.2.1,K.2.2.2.1,K.2.2.2.2)) fun L=>letI M:=aa .add .i64 H h;letI N:=ae bf L c;letI O:=N.2.2.2;letI P:=O.2.2.2.2.2;cond (ah L c) (lets (aC L c (N.1,N.2.1,N.2.2.1,O.1,O.2.1,O.2.2.1,O.2.2.2.1,M,P.1,P.2.1,P.2.2.1,P.2.2.2.1,P.2.2.2.2)) fun Q=>letI R:=ae bf Q c;letI S:=R.2.2.2;letI T:=aa .add .i64 M h;letI U:=S.2.2.2.2.2.2;cond (ah Q c) (lets (aC Q c (R.1,R.2.1,R.2.2.1,S.1,S.2.1,S.2.2.1,S.2.2.2.1,S.2.2.2.2.1,T,U.1,U.2.1,U.2.2.1,U.2.2.2)) fun V=>letI W:=ae bf V c;letI X:=W.2.2.2;letI Y:=X.2.2.2.2;letI Z:=aa .add .i64 T h;cond (ah V c) (lets (aC V c (W.1,W.2.1,W.2.2.1,X.1,X.2.1,X.2.2.1,X.2.2.2.1,Y.1,Y.2.1,Z,Y.2.2.2.1,Y.2.2.2.2.1,Y.2.2.2.2.2)) fun a0=>letI a1:=ae bf a0 c;letI a2:=a1.2.2.2;letI a3:=a2.2.2.2.2;letI a4:=aa .add .i64 Z h;cond (ah a0 c) (lets (aC a0 c (a1.1,a1.2.1,a1.2.2.1,a2.1,a2.2.1,a2.2.2.1,a2.2.2.2.1,a3.1,a3.2.1,a3.2.2.1,a4,a3.2.2.2.2.1,a3.2.2.2.2.2)) fun a5=>letI a6:=ae bf a5 c;letI a7:=a6.2.2.2;letI a8:=a7.2.2.2.2;letI a9:=aa .add .i64 a4 h;cond (ah a5 c) (lets (aC a5 c (a6.1,a6.2.1,a6.2.2.1,a7.1,a7.2.1,a7.2.2.1,a7.2.2.2.1,a8.1,a8.2.1,a8.2.2.1,a8.2.2.2.1,a9,a8.2.2.2.2.2)) fun b0=>lets (aa .add .i64 a9 h) fun b1=>letI b2:=ae bf b0 c;letI b3:=b2.2.2.2;letI b4:=b3.2.2.2.2;cond (ah b0 c) (lets (aC b0 c (b2.1,b2.2.1,b2.2.2.1,b3.1,b3.2.1,b3.2.2.1,b3.2.2.2.1,b4.1,b4.2.1,b4.2.2.1,b4.2.2.2.1,b4.2.2.2.2.1,b1)) fun b5=>some (.inl (b5,aa .add .i64 b1 h,aa .add .i64 c h,()))) none) none) none) none) none) none) none) none) none) none) none) none) none) (some (.inr (.inl (b.1,b.2.1,()))))
noncomputable def IA k x:=iter (Iz k) big x
noncomputable def Ig(a:Nq)(b:Int):Option (Int×Zp):=(IA () (a,b,0,())).bind fun c=>Sum.elim (fun d=>some (d.2.1,d.1,())) (fun d=>Empty.elim d) c
noncomputable def I8(a:Unit)(b:Ld×Ls):Option (Ld×Ls⊕Ld×Cp⊕Empty):=letI c:=b.2.2.1;letI d:=(ae cn b.1 c).2;cond (af .lss c (ai b.1)) (cond (ah b.1 c) (lets (aC b.1 c (b.2.1,d.1,d.2.1,d.2.2.1,d.2.2.2.1,d.2.2.2.2.1,d.2.2.2.2.2)) fun e=>letI f:=(1:Int);letI g:=aa .add .i64 b.2.1 f;letI h:=(ae cn e c).2.2;cond (ah e c) (lets (aC e c ((ae cn e c).1,g,h.1,h.2.1,h.2.2.1,h.2.2.2.1,h.2.2.2.2)) fun i=>letI j:=ae cn i c;letI k:=j.2.2.2;letI l:=aa .add .i64 g f;cond (ah i c) (lets (aC i c (j.1,j.2.1,l,k.1,k.2.1,k.2.2.1,k.2.2.2)) fun m=>letI n:=ae cn m c;letI o:=n.2.2.2.2;letI p:=aa .add .i64 l f;cond (ah m c) (lets (aC m c (n.1,n.2.1,n.2.2.1,p,o.1,o.2.1,o.2.2)) fun q=>letI r:=ae cn q c;letI s:=aa .add .i64 p f;cond (ah q c) (lets (aC q c (r.1,r.2.1,r.2.2.1,r.2.2.2.1,s,r.2.2.2.2.2.1,r.2.2.2.2.2.2)) fun t=>letI u:=ae cn t c;letI v:=aa .add .i64 s f;cond (ah t c) (lets (aC t c (u.1,u.2.1,u.2.2.1,u.2.2.2.1,u.2.2.2.2.1,v,u.2.2.2.2.2.2)) fun w=>lets (aa .add .i64 v f) fun x=>letI y:=ae cn w c;cond (ax 3) none (cond (ah w c) (lets (aC w c (y.1,y.2.1,y.2.2.1,y.2.2.2.1,y.2.2.2.2.1,y.2.2.2.2.2.1,af .eql (aa .rem .i64 x 3) 0)) fun z=>some (.inl (z,aa .add .i64 x f,aa .add .i64 c f,()))) none)) none) none) none) none) none) none) (some (.inr (.inl (b.1,b.2.1,()))))
noncomputable def I9 k x:=iter (I8 k) big x
noncomputable def IQ(a:Ld)(b:Int):Option (Int×Yg):=(I9 () (a,b,0,())).bind fun c=>Sum.elim (fun d=>some (d.2.1,d.1,())) (fun d=>Empty.elim d) c
noncomputable def Ie(a b c d e f g h i j k:Int)(l:Lc)(m:Nq)(n:Ld)(o:Km)(p:Int):Option YcW:=(JO l p).bind fun q=>(Ig m q.1).bind fun r=>(IQ n r.1).bind fun s=>(tW o s.1).bind fun t=>some (t.1,q.2.1,r.2.1,s.2.1,t.2.1,())
end Go.Fn
set_option linter.unusedVariables false
set_option linter.unusedSimpArgs false
namespace Go.Fn
open Go.R
theorem Yn:ax (3:Int)=false:=by decide
noncomputable def k3(k:Int):Bool:=af .eql (aa .rem .i64 k 3) 0
theorem Iw{a b:Int}(h0:0<=a)(h1:a<=4611686018427387904)(h:b=a+1):aa .add .i64 a 1=b:=(Pt h0 h1).trans h.symm
theorem cT{β:Type}{b:Bool}{x y:β}(h:b=true):(bif b then x else y)=x:=by rw[h];rfl
theorem cF{β:Type}{b:Bool}{x y:β}(h:b=false):(bif b then x else y)=y:=by rw[h];rfl
theorem j0{α β:Type}{a b:α}{f:α->β}(h:a=b):lets a f=f b:=by rw[aV,h]
theorem Pn{α β:Type}{x:Option α}{r:α}{f:α->Option β}(h:x=some r):x.bind f=f r:=by rw[h];rfl
theorem loX{α:Type}{L:List α}{n:Nat}(h:n<L.length):af .lss (n:Int) (ai L)=true:=by rw[aj];exact decide_eq_true h
theorem inX{α:Type}{L:List α}{n:Nat}(h:n<L.length):ah L (n:Int)=true:=by rw[az];exact decide_eq_true h
theorem Q2{α:Type}{L:List α}{n:Nat}{a:α}(h:n<L.length):ah (L.set n a) (n:Int)=true:=by rw[je];exact decide_eq_true h
noncomputable def b7(k:Int)(x:MA):MA×Int:=((k,k+1),k+2)
theorem Vn(k:Int)(x:MA):k<=(b7 k x).2/\(b7 k x).2<=k+(2:Nat):=⟨by show k<=k+2;omega,by show k+2<=k+2;omega⟩
theorem Ry(l:List MA)(k:Int)(hl:l.length<=1073741824)(h0:0<=k)(h1:k+2*(l.length:Int)<=1125899906842624):z2 l k=some ((b8 b7 l k).2,(b8 b7 l k).1,()):=by
 unfold z2;have:JS () (l,k,0,())=some (.inl ((b8 b7 l k).1,(b8 b7 l k).2,())):=by
  refine M8 (cost:=fun _=>2) Nr l k hl h0 Vn (fun L q n hx hL hg lA cQ=>?_) (fun L k'=>?_)
  ·rw[sL]at cQ;unfold b7;have a1:aa .add .i64 (q) 1=q+1:=Iw (by omega) (by omega) (by omega);have a2:aa .add .i64 (q+1) 1=q+2:=Iw (by omega) (by omega) (by omega);unfold JR;simp only[aj,az,hx,decide_true,cond_true,av (n:=n) (by omega),aN,aq,a1,a2];repeat (first|rw[aV]|simp only[je,List.length_set,hx,decide_true,cond_true,aN,aq,aF hx,List.set_set,a2])
  ·unfold JR;simp only[aj,Nat.lt_irrefl,decide_false,cond_false]
 rw[this];rfl
noncomputable def SH(k:Int)(x:Bx):Bx×Int:=((k,k+1,k+2,k3 (k+3)),k+4)
theorem Vm(k:Int)(x:Bx):k<=(SH k x).2/\(SH k x).2<=k+(4:Nat):=⟨by show k<=k+4;omega,by show k+4<=k+4;omega⟩
theorem Ux(l:List Bx)(k:Int)(hl:l.length<=1073741824)(h0:0<=k)(h1:k+4*(l.length:Int)<=1125899906842624):K2 l k=some ((b8 SH l k).2,(b8 SH l k).1,()):=by
 unfold K2;have:KD () (l,k,0,())=some (.inl ((b8 SH l k).1,(b8 SH l k).2,())):=by
  refine M8 (cost:=fun _=>4) kW l k hl h0 Vm (fun L q n hx hL hg lA cQ=>?_) (fun L k'=>?_)
  ·rw[sL]at cQ;unfold SH k3;have a1:aa .add .i64 (q) 1=q+1:=Iw (by omega) (by omega) (by omega);have a2:aa .add .i64 (q+1) 1=q+2:=Iw (by omega) (by omega) (by omega);have a3:aa .add .i64 (q+2) 1=q+3:=Iw (by omega) (by omega) (by omega);have a4:aa .add .i64 (q+3) 1=q+4:=Iw (by omega) (by omega) (by omega);unfold KC;simp only[aj,az,hx,decide_true,cond_true,av (n:=n) (by omega),aN,aq,a1,a2,a3,a4,Yn,cond_false];repeat (first|rw[aV]|simp only[je,List.length_set,hx,decide_true,cond_true,aN,aq,aF hx,List.set_set,a4,Yn,cond_false])
  ·unfold KC;simp only[aj,Nat.lt_irrefl,decide_false,cond_false]
 rw[this];rfl
noncomputable def RB(k:Int)(x:Si):Si×Int:=((k,k+1,k+2,k+3,k+4,k+5,k+6,k+7,k+8,k+9,k+10,k+11,k+12),k+13)
theorem UA(k:Int)(x:Si):k<=(RB k x).2/\(RB k x).2<=k+(13:Nat):=⟨by show k<=k+13;omega,by show k+13<=k+13;omega⟩
theorem SG(l:List Si)(k:Int)(hl:l.length<=1073741824)(h0:0<=k)(h1:k+13*(l.length:Int)<=1125899906842624):Ig l k=some ((b8 RB l k).2,(b8 RB l k).1,()):=by
 unfold Ig;have:IA () (l,k,0,())=some (.inl ((b8 RB l k).1,(b8 RB l k).2,())):=by
  refine M8 (cost:=fun _=>13) bf l k hl h0 UA (fun L q n hx hL hg lA cQ=>?_) (fun L k'=>?_)
  ·rw[sL]at cQ;unfold RB;have a1:aa .add .i64 (q) 1=q+1:=Iw (by omega) (by omega) (by omega);have a2:aa .add .i64 (q+1) 1=q+2:=Iw (by omega) (by omega) (by omega);have a3:aa .add .i64 (q+2) 1=q+3:=Iw (by omega) (by omega) (by omega);have a4:aa .add .i64 (q+3) 1=q+4:=Iw (by omega) (by omega) (by omega);have a5:aa .add .i64 (q+4) 1=q+5:=Iw (by omega) (by omega) (by omega);have a6:aa .add .i64 (q+5) 1=q+6:=Iw (by omega) (by omega) (by omega);have a7:aa .add .i64 (q+6) 1=q+7:=Iw (by omega) (by omega) (by omega);have a8:aa .add .i64 (q+7) 1=q+8:=Iw (by omega) (by omega) (by omega);have a9:aa .add .i64 (q+8) 1=q+9:=Iw (by omega) (by omega) (by omega);have a10:aa .add .i64 (q+9) 1=q+10:=Iw (by omega) (by omega) (by omega);have a11:aa .add .i64 (q+10) 1=q+11:=Iw (by omega) (by omega) (by omega);have a12:aa .add .i64 (q+11) 1=q+12:=Iw (by omega) (by omega) (by omega);have a13:aa .add .i64 (q+12) 1=q+13:=Iw (by omega) (by omega) (by omega);unfold Iz;dsimp only;refine(cT (loX hx)).trans ?_;refine(cT (inX hx)).trans ?_;refine(j0 (b:=L.set n (q,(L.getD n bf).2.1,(L.getD n bf).2.2.1,(L.getD n bf).2.2.2.1,(L.getD n bf).2.2.2.2.1,(L.getD n bf).2.2.2.2.2.1,(L.getD n bf).2.2.2.2.2.2.1,(L.getD n bf).2.2.2.2.2.2.2.1,(L.getD n bf).2.2.2.2.2.2.2.2.1,(L.getD n bf).2.2.2.2.2.2.2.2.2.1,(L.getD n bf).2.2.2.2.2.2.2.2.2.2.1,(L.getD n bf).2.2.2.2.2.2.2.2.2.2.2.1,(L.getD n bf).2.2.2.2.2.2.2.2.2.2.2.2)) (by simp only[aq,aN,aF hx,List.set_set,a1,a2,a3,a4,a5,a6,a7,a8,a9,a10,a11,a12,a13])).trans ?_;refine(cT (Q2 hx)).trans ?_;refine(j0 (b:=L.set n (q,q+1,(L.getD n bf).2.2.1,(L.getD n bf).2.2.2.1,(L.getD n bf).2.2.2.2.1,(L.getD n bf).2.2.2.2.2.1,(L.getD n bf).2.2.2.2.2.2.1,(L.getD n bf).2.2.2.2.2.2.2.1,(L.getD n bf).2.2.2.2.2.2.2.2.1,(L.getD n bf).2.2.2.2.2.2.2.2.2.1,(L.getD n bf).2.2.2.2.2.2.2.2.2.2.1,(L.getD n bf).2.2.2.2.2.2.2.2.2.2.2.1,(L.getD n bf).2.2.2.2.2.2.2.2.2.2.2.2)) (by simp only[aq,aN,aF hx,List.set_set,a1,a2,a3,a4,a5,a6,a7,a8,a9,a10,a11,a12,a13])).trans ?_;refine(cT (Q2 hx)).trans ?_;refine(j0 (b:=L.set n (q,q+1,q+2,(L.getD n bf).2.2.2.1,(L.getD n bf).2.2.2.2.1,(L.getD n bf).2.2.2.2.2.1,(L.getD n bf).2.2.2.2.2.2.1,(L.getD n bf).2.2.2.2.2.2.2.1,(L.getD n bf).2.2.2.2.2.2.2.2.1,(L.getD n bf).2.2.2.2.2.2.2.2.2.1,(L.getD n bf).2.2.2.2.2.2.2.2.2.2.1,(L.getD n bf).2.2.2.2.2.2.2.2.2.2.2.1,(L.getD n bf).2.2.2.2.2.2.2.2.2.2.2.2)) (by simp only[aq,aN,aF hx,List.set_set,a1,a2,a3,a4,a5,a6,a7,a8,a9,a10,a11,a12,a13])).trans ?_;refine(cT (Q2 hx)).trans ?_;refine(j0 (b:=L.set n (q,q+1,q+2,q+3,(L.getD n bf).2.2.2.2.1,(L.getD n bf).2.2.2.2.2.1,(L.getD n bf).2.2.2.2.2.2.1,(L.getD n bf).2.2.2.2.2.2.2.1,(L.getD n bf).2.2.2.2.2.2.2.2.1,(L.getD n bf).2.2.2.2.2.2.2.2.2.1,(L.getD n bf).2.2.2.2.2.2.2.2.2.2.1,(L.getD n bf).2.2.2.2.2.2.2.2.2.2.2.1,(L.getD n bf).2.2.2.2.2.2.2.2.2.2.2.2)) (by simp only[aq,aN,aF hx,List.set_set,a1,a2,a3,a4,a5,a6,a7,a8,a9,a10,a11,a12,a13])).trans ?_;refine(cT (Q2 hx)).trans ?_;refine(j0 (b:=L.set n (q,q+1,q+2,q+3,q+4,(L.getD n bf).2.2.2.2.2.1,(L.getD n bf).2.2.2.2.2.2.1,(L.getD n bf).2.2.2.2.2.2.2.1,(L.getD n bf).2.2.2.2.2.2.2.2.1,(L.getD n bf).2.2.2.2.2.2.2.2.2.1,(L.getD n bf).2.2.2.2.2.2.2.2.2.2.1,(L.getD n bf).2.2.2.2.2.2.2.2.2.2.2.1,(L.getD n bf).2.2.2.2.2.2.2.2.2.2.2.2)) (by simp only[aq,aN,aF hx,List.set_set,a1,a2,a3,a4,a5,a6,a7,a8,a9,a10,a11,a12,a13])).trans ?_;refine(cT (Q2 hx)).trans ?_;refine(j0 (b:=L.set n (q,q+1,q+2,q+3,q+4,q+5,(L.getD n bf).2.2.2.2.2.2.1,(L.getD n bf).2.2.2.2.2.2.2.1,(L.getD n bf).2.2.2.2.2.2.2.2.1,(L.getD n bf).2.2.2.2.2.2.2.2.2.1,(L.getD n bf).2.2.2.2.2.2.2.2.2.2.1,(L.getD n bf).2.2.2.2.2.2.2.2.2.2.2.1,(L.getD n bf).2.2.2.2.2.2.2.2.2.2.2.2)) (by simp only[aq,aN,aF hx,List.set_set,a1,a2,a3,a4,a5,a6,a7,a8,a9,a10,a11,a12,a13])).trans ?_;refine(j0 (b:=q+6) (by simp only[a1,a2,a3,a4,a5,a6,a7,a8,a9,a10,a11,a12,a13])).trans ?_;refine(cT (Q2 hx)).trans ?_;refine(j0 (b:=L.set n (q,q+1,q+2,q+3,q+4,q+5,q+6,(L.getD n bf).2.2.2.2.2.2.2.1,(L.getD n bf).2.2.2.2.2.2.2.2.1,(L.getD n bf).2.2.2.2.2.2.2.2.2.1,(L.getD n bf).2.2.2.2.2.2.2.2.2.2.1,(L.getD n bf).2.2.2.2.2.2.2.2.2.2.2.1,(L.getD n bf).2.2.2.2.2.2.2.2.2.2.2.2)) (by simp only[aq,aN,aF hx,List.set_set,a1,a2,a3,a4,a5,a6,a7,a8,a9,a10,a11,a12,a13])).trans ?_;refine(cT (Q2 hx)).trans ?_;refine(j0 (b:=L.set n (q,q+1,q+2,q+3,q+4,q+5,q+6,q+7,(L.getD n bf).2.2.2.2.2.2.2.2.1,(L.getD n bf).2.2.2.2.2.2.2.2.2.1,(L.getD n bf).2.2.2.2.2.2.2.2.2.2.1,(L.getD n bf).2.2.2.2.2.2.2.2.2.2.2.1,(L.getD n bf).2.2.2.2.2.2.2.2.2.2.2.2)) (by simp only[aq,aN,aF hx,List.set_set,a1,a2,a3,a4,a5,a6,a7,a8,a9,a10,a11,a12,a13])).trans ?_;refine(cT (Q2 hx)).trans ?_;refine(j0 (b:=L.set n (q,q+1,q+2,q+3,q+4,q+5,q+6,q+7,q+8,(L.getD n bf).2.2.2.2.2.2.2.2.2.1,(L.getD n bf).2.2.2.2.2.2.2.2.2.2.1,(L.getD n bf).2.2.2.2.2.2.2.2.2.2.2.1,(L.getD n bf).2.2.2.2.2.2.2.2.2.2.2.2)) (by simp only[aq,aN,aF hx,List.set_set,a1,a2,a3,a4,a5,a6,a7,a8,a9,a10,a11,a12,a13])).trans ?_;refine(cT (Q2 hx)).trans ?_;refine(j0 (b:=L.set n (q,q+1,q+2,q+3,q+4,q+5,q+6,q+7,q+8,q+9,(L.getD n bf).2.2.2.2.2.2.2.2.2.2.1,(L.getD n bf).2.2.2.2.2.2.2.2.2.2.2.1,(L.getD n bf).2.2.2.2.2.2.2.2.2.2.2.2)) (by simp only[aq,aN,aF hx,List.set_set,a1,a2,a3,a4,a5,a6,a7,a8,a9,a10,a11,a12,a13])).trans ?_;refine(cT (Q2 hx)).trans ?_;refine(j0 (b:=L.set n (q,q+1,q+2,q+3,q+4,q+5,q+6,q+7,q+8,q+9,q+10,(L.getD n bf).2.2.2.2.2.2.2.2.2.2.2.1,(L.getD n bf).2.2.2.2.2.2.2.2.2.2.2.2)) (by simp only[aq,aN,aF hx,List.set_set,a1,a2,a3,a4,a5,a6,a7,a8,a9,a10,a11,a12,a13])).trans ?_;refine(cT (Q2 hx)).trans ?_;refine(j0 (b:=L.set n (q,q+1,q+2,q+3,q+4,q+5,q+6,q+7,q+8,q+9,q+10,q+11,(L.getD n bf).2.2.2.2.2.2.2.2.2.2.2.2)) (by simp only[aq,aN,aF hx,List.set_set,a1,a2,a3,a4,a5,a6,a7,a8,a9,a10,a11,a12,a13])).trans ?_;refine(j0 (b:=q+12) (by simp only[a1,a2,a3,a4,a5,a6,a7,a8,a9,a10,a11,a12,a13])).trans ?_;refine(cT (Q2 hx)).trans ?_;refine(j0 (b:=L.set n (q,q+1,q+2,q+3,q+4,q+5,q+6,q+7,q+8,q+9,q+10,q+11,q+12)) (by simp only[aq,aN,aF hx,List.set_set,a1,a2,a3,a4,a5,a6,a7,a8,a9,a10,a11,a12,a13])).trans ?_;simp only[a13,av (n:=n) (by omega)]
  ·unfold Iz;simp only[aj,Nat.lt_irrefl,decide_false,cond_false]
 rw[this];rfl
noncomputable def RA(k:Int)(x:SX):SX×Int:=((k,k+1,k+2,k+3,k+4,k+5,k3 (k+6)),k+7)
theorem Uy(k:Int)(x:SX):k<=(RA k x).2/\(RA k x).2<=k+(7:Nat):=⟨by show k<=k+7;omega,by show k+7<=k+7;omega⟩
theorem S3(l:List SX)(k:Int)(hl:l.length<=1073741824)(h0:0<=k)(h1:k+7*(l.length:Int)<=1125899906842624):IQ l k=some ((b8 RA l k).2,(b8 RA l k).1,()):=by
 unfold IQ;have:I9 () (l,k,0,())=some (.inl ((b8 RA l k).1,(b8 RA l k).2,())):=by
  refine M8 (cost:=fun _=>7) cn l k hl h0 Uy (fun L q n hx hL hg lA cQ=>?_) (fun L k'=>?_)
  ·rw[sL]at cQ;unfold RA k3;have a1:aa .add .i64 (q) 1=q+1:=Iw (by omega) (by omega) (by omega);have a2:aa .add .i64 (q+1) 1=q+2:=Iw (by omega) (by omega) (by omega);have a3:aa .add .i64 (q+2) 1=q+3:=Iw (by omega) (by omega) (by omega);have a4:aa .add .i64 (q+3) 1=q+4:=Iw (by omega) (by omega) (by omega);have a5:aa .add .i64 (q+4) 1=q+5:=Iw (by omega) (by omega) (by omega);have a6:aa .add .i64 (q+5) 1=q+6:=Iw (by omega) (by omega) (by omega);have a7:aa .add .i64 (q+6) 1=q+7:=Iw (by omega) (by omega) (by omega);unfold I8;dsimp only;refine(cT (loX hx)).trans ?_;refine(cT (inX hx)).trans ?_;refine(j0 (b:=L.set n (q,(L.getD n cn).2.1,(L.getD n cn).2.2.1,(L.getD n cn).2.2.2.1,(L.getD n cn).2.2.2.2.1,(L.getD n cn).2.2.2.2.2.1,(L.getD n cn).2.2.2.2.2.2)) (by simp only[aq,aN,aF hx,List.set_set,a1,a2,a3,a4,a5,a6,a7])).trans ?_;refine(cT (Q2 hx)).trans ?_;refine(j0 (b:=L.set n (q,q+1,(L.getD n cn).2.2.1,(L.getD n cn).2.2.2.1,(L.getD n cn).2.2.2.2.1,(L.getD n cn).2.2.2.2.2.1,(L.getD n cn).2.2.2.2.2.2)) (by simp only[aq,aN,aF hx,List.set_set,a1,a2,a3,a4,a5,a6,a7])).trans ?_;refine(cT (Q2 hx)).trans ?_;refine(j0 (b:=L.set n (q,q+1,q+2,(L.getD n cn).2.2.2.1,(L.getD n cn).2.2.2.2.1,(L.getD n cn).2.2.2.2.2.1,(L.getD n cn).2.2.2.2.2.2)) (by simp only[aq,aN,aF hx,List.set_set,a1,a2,a3,a4,a5,a6,a7])).trans ?_;refine(cT (Q2 hx)).trans ?_;refine(j0 (b:=L.set n (q,q+1,q+2,q+3,(L.getD n cn).2.2.2.2.1,(L.getD n cn).2.2.2.2.2.1,(L.getD n cn).2.2.2.2.2.2)) (by simp only[aq,aN,aF hx,List.set_set,a1,a2,a3,a4,a5,a6,a7])).trans ?_;refine(cT (Q2 hx)).trans ?_;refine(j0 (b:=L.set n (q,q+1,q+2,q+3,q+4,(L.getD n cn).2.2.2.2.2.1,(L.getD n cn).2.2.2.2.2.2)) (by simp only[aq,aN,aF hx,List.set_set,a1,a2,a3,a4,a5,a6,a7])).trans ?_;refine(cT (Q2 hx)).trans ?_;refine(j0 (b:=L.set n (q,q+1,q+2,q+3,q+4,q+5,(L.getD n cn).2.2.2.2.2.2)) (by simp only[aq,aN,aF hx,List.set_set,a1,a2,a3,a4,a5,a6,a7])).trans ?_;refine(j0 (b:=q+6) (by simp only[a1,a2,a3,a4,a5,a6,a7])).trans ?_;refine(cF Yn).trans ?_;refine(cT (Q2 hx)).trans ?_;refine(j0 (b:=L.set n (q,q+1,q+2,q+3,q+4,q+5,af .eql (aa .rem .i64 (q+6) 3) 0)) (by simp only[aq,aN,aF hx,List.set_set,a1,a2,a3,a4,a5,a6,a7])).trans ?_;simp only[a7,av (n:=n) (by omega)]
  ·unfold I8;simp only[aj,Nat.lt_irrefl,decide_false,cond_false]
 rw[this];rfl
end Go.Fn
set_option linter.unusedVariables false
set_option linter.unusedSimpArgs false
namespace Go.Fn
open Go.R
theorem Tb{α:Type}(cost:α->Nat)(z:α):∀ {l:List α} {n:Nat},n<l.length->cost (l.getD n z)<=ii cost l
 |x::xs,0,_=>by simp only[List.getD_cons_zero,ii];omega
 |x::xs,n+1,h=>by have:=Tb cost z (l:=xs) (n:=n) (by simpa using h);simp only[List.getD_cons_succ,ii];omega
theorem Vt(l:List MA)(k:Int):k<=(b8 b7 l k).2/\(b8 b7 l k).2<=k+2*(l.length:Int):=by have:=Oi Vn l k;rw[sL]at this;omega
theorem Zt(l:List Bx)(k:Int):k<=(b8 SH l k).2/\(b8 SH l k).2<=k+4*(l.length:Int):=by have:=Oi Vm l k;rw[sL]at this;omega
noncomputable def NU(c:PT):Nat:=1+c.2.1.length+4*c.2.2.length
noncomputable def cv(k:Int)(c:PT):PT×Int:=((k,KF (k+1) c.2.1.length,(b8 SH c.2.2 (k+1+(c.2.1.length:Int))).1),(b8 SH c.2.2 (k+1+(c.2.1.length:Int))).2)
theorem SI(k:Int)(c:PT):k<=(cv k c).2/\(cv k c).2<=k+(NU c:Nat):=by have:=Zt c.2.2 (k+1+(c.2.1.length:Int));unfold cv NU;dsimp only;omega
theorem SE(l:List PT)(k:Int)(hl:l.length<=1073741824)(hc:∀n,n<l.length->Q4 1073741824 (l.getD n Kl))(h0:0<=k)(h1:k+(ii NU l:Nat)<=1099511627776):Ia l k=some ((b8 cv l k).2,(b8 cv l k).1,()):=by
 unfold Ia;have:Iy () (l,k,0,())=some (.inl ((b8 cv l k).1,(b8 cv l k).2,())):=by
  refine M8 (cost:=NU) Kl l k hl h0 SI (fun L q n hx hL hg lA cQ=>?_) (fun L k'=>?_)
  ·have hn:n<l.length:=by omega
   obtain⟨c1,c2⟩:=hc n hn;rw[<-hg]at c1 c2⊢;unfold cv;have a1:aa .add .i64 q 1=q+1:=Pt (by omega) (by omega);have m1:=PN (L.getD n Kl).2.1 (q+1) c1 (by omega) (by omega);have m2:=Ux (L.getD n Kl).2.2 (q+1+((L.getD n Kl).2.1.length:Int)) c2 (by omega) (by omega);unfold Ix;dsimp only;refine(cT (loX hx)).trans ?_;refine(cT (inX hx)).trans ?_;rw[aN,aq];refine(cT (Q2 hx)).trans ?_;rw[a1,aq];refine(Pn (r:=_) (by rw[aF hx];exact m1)).trans ?_;refine(j0 (b:=L.set n (q,KF (q+1) (L.getD n Kl).2.1.length,(L.getD n Kl).2.2)) (by rw[aF hx,aN,List.set_set];rfl)).trans ?_;refine(cT (Q2 hx)).trans ?_;rw[aq];refine(Pn (r:=_) (by rw[aF hx];exact m2)).trans ?_;rw[aF hx,aN,List.set_set,av (n:=n) (by omega)]
  ·unfold Ix;simp only[aj,Nat.lt_irrefl,decide_false,cond_false]
 rw[this];rfl
noncomputable def Bd(x:Site):Nat:=2*x.1.length+2*x.2.1.length+ii NU x.2.2.1+7+7*x.2.2.2.2.2.2.2.2.2.2.length
noncomputable def Ol(q:Int)(x:Site):Site×Int:=(((b8 b7 x.1 q).1,(b8 b7 x.2.1 (b8 b7 x.1 q).2).1,(b8 cv x.2.2.1 (b8 b7 x.2.1 (b8 b7 x.1 q).2).2).1,(b8 cv x.2.2.1 (b8 b7 x.2.1 (b8 b7 x.1 q).2).2).2,(b8 cv x.2.2.1 (b8 b7 x.2.1 (b8 b7 x.1 q).2).2).2+1,k3 ((b8 cv x.2.2.1 (b8 b7 x.2.1 (b8 b7 x.1 q).2).2).2+2),k3 ((b8 cv x.2.2.1 (b8 b7 x.2.1 (b8 b7 x.1 q).2).2).2+3),k3 ((b8 cv x.2.2.1 (b8 b7 x.2.1 (b8 b7 x.1 q).2).2).2+4),(b8 cv x.2.2.1 (b8 b7 x.2.1 (b8 b7 x.1 q).2).2).2+5,(b8 cv x.2.2.1 (b8 b7 x.2.1 (b8 b7 x.1 q).2).2).2+6,QY ((b8 cv x.2.2.1 (b8 b7 x.2.1 (b8 b7 x.1 q).2).2).2+7) x.2.2.2.2.2.2.2.2.2.2.length),(b8 cv x.2.2.1 (b8 b7 x.2.1 (b8 b7 x.1 q).2).2).2+7+7*(x.2.2.2.2.2.2.2.2.2.2.length:Int))
theorem Th(q:Int)(x:Site):q<=(Ol q x).2/\(Ol q x).2<=q+(Bd x:Nat):=by have b1:=Vt x.1 q;have b2:=Vt x.2.1 (b8 b7 x.1 q).2;have b3:=Oi SI x.2.2.1 (b8 b7 x.2.1 (b8 b7 x.1 q).2).2;unfold Ol Bd;dsimp only;omega
theorem TF(l:List Site)(k:Int)(hl:l.length<=1073741824)(hc:∀n,n<l.length->LV 1073741824 (l.getD n bn))(h0:0<=k)(h1:k+(ii Bd l:Nat)<=274877906944):JO l k=some ((b8 Ol l k).2,(b8 Ol l k).1,()):=by
 unfold JO;have:JQ () (l,k,0,())=some (.inl ((b8 Ol l k).1,(b8 Ol l k).2,())):=by
  refine M8 (cost:=Bd) bn l k hl h0 Th (fun L q n hx hL hg lA cQ=>?_) (fun L k'=>?_)
  ·have hn:n<l.length:=by omega
   obtain⟨c1,c2,c3,c4,c5⟩:=hc n hn;rw[<-hg]at c1 c2 c3 c4 c5⊢;have Wq:2*(l.getD n bn).1.length+2*(l.getD n bn).2.1.length+ii NU (l.getD n bn).2.2.1+7+7*(l.getD n bn).2.2.2.2.2.2.2.2.2.2.length<=ii Bd l:=Tb Bd bn hn;rw[<-hg]at Wq;have b1:=Vt (L.getD n bn).1 q;have b2:=Vt (L.getD n bn).2.1 (b8 b7 (L.getD n bn).1 q).2;have b3:=Oi SI (L.getD n bn).2.2.1 (b8 b7 (L.getD n bn).2.1 (b8 b7 (L.getD n bn).1 q).2).2;unfold Ol k3;have a1:aa .add .i64 ((b8 cv (L.getD n bn).2.2.1 (b8 b7 (L.getD n bn).2.1 (b8 b7 (L.getD n bn).1 q).2).2).2) 1=(b8 cv (L.getD n bn).2.2.1 (b8 b7 (L.getD n bn).2.1 (b8 b7 (L.getD n bn).1 q).2).2).2+1:=Iw (by omega) (by omega) (by omega);have a2:aa .add .i64 ((b8 cv (L.getD n bn).2.2.1 (b8 b7 (L.getD n bn).2.1 (b8 b7 (L.getD n bn).1 q).2).2).2+1) 1=(b8 cv (L.getD n bn).2.2.1 (b8 b7 (L.getD n bn).2.1 (b8 b7 (L.getD n bn).1 q).2).2).2+2:=Iw (by omega) (by omega) (by omega);have a3:aa .add .i64 ((b8 cv (L.getD n bn).2.2.1 (b8 b7 (L.getD n bn).2.1 (b8 b7 (L.getD n bn).1 q).2).2).2+2) 1=(b8 cv (L.getD n bn).2.2.1 (b8 b7 (L.getD n bn).2.1 (b8 b7 (L.getD n bn).1 q).2).2).2+3:=Iw (by omega) (by omega) (by omega);have a4:aa .add .i64 ((b8 cv (L.getD n bn).2.2.1 (b8 b7 (L.getD n bn).2.1 (b8 b7 (L.getD n bn).1 q).2).2).2+3) 1=(b8 cv (L.getD n bn).2.2.1 (b8 b7 (L.getD n bn).2.1 (b8 b7 (L.getD n bn).1 q).2).2).2+4:=Iw (by omega) (by omega) (by omega);have a5:aa .add .i64 ((b8 cv (L.getD n bn).2.2.1 (b8 b7 (L.getD n bn).2.1 (b8 b7 (L.getD n bn).1 q).2).2).2+4) 1=(b8 cv (L.getD n bn).2.2.1 (b8 b7 (L.getD n bn).2.1 (b8 b7 (L.getD n bn).1 q).2).2).2+5:=Iw (by omega) (by omega) (by omega);have a6:aa .add .i64 ((b8 cv (L.getD n bn).2.2.1 (b8 b7 (L.getD n bn).2.1 (b8 b7 (L.getD n bn).1 q).2).2).2+5) 1=(b8 cv (L.getD n bn).2.2.1 (b8 b7 (L.getD n bn).2.1 (b8 b7 (L.getD n bn).1 q).2).2).2+6:=Iw (by omega) (by omega) (by omega);have a7:aa .add .i64 ((b8 cv (L.getD n bn).2.2.1 (b8 b7 (L.getD n bn).2.1 (b8 b7 (L.getD n bn).1 q).2).2).2+6) 1=(b8 cv (L.getD n bn).2.2.1 (b8 b7 (L.getD n bn).2.1 (b8 b7 (L.getD n bn).1 q).2).2).2+7:=Iw (by omega) (by omega) (by omega);have m1:=Ry (L.getD n bn).1 q c1 (by omega) (by omega);have m2:=Ry (L.getD n bn).2.1 (b8 b7 (L.getD n bn).1 q).2 c2 (by omega) (by omega);have m3:=SE (L.getD n bn).2.2.1 (b8 b7 (L.getD n bn).2.1 (b8 b7 (L.getD n bn).1 q).2).2 c3 c4 (by omega) (by omega);have m4:=Qp (L.getD n bn).2.2.2.2.2.2.2.2.2.2 ((b8 cv (L.getD n bn).2.2.1 (b8 b7 (L.getD n bn).2.1 (b8 b7 (L.getD n bn).1 q).2).2).2+7) c5 (by omega) (by omega);unfold JP;dsimp only;rw[show aS=bn from rfl];refine(cT (loX hx)).trans ?_;refine(cT (inX hx)).trans ?_;refine(Pn (r:=_) (by simp only[aq,aF hx,a1,a2,a3,a4,a5,a6,a7];exact m1)).trans ?_;refine(j0 (b:=L.set n ((b8 b7 (L.getD n bn).1 q).1,(L.getD n bn).2.1,(L.getD n bn).2.2.1,(L.getD n bn).2.2.2.1,(L.getD n bn).2.2.2.2.1,(L.getD n bn).2.2.2.2.2.1,(L.getD n bn).2.2.2.2.2.2.1,(L.getD n bn).2.2.2.2.2.2.2.1,(L.getD n bn).2.2.2.2.2.2.2.2.1,(L.getD n bn).2.2.2.2.2.2.2.2.2.1,(L.getD n bn).2.2.2.2.2.2.2.2.2.2)) (by simp only[aq,aN,aF hx,List.set_set])).trans ?_;refine(cT (Q2 hx)).trans ?_;refine(Pn (r:=_) (by simp only[aq,aF hx,a1,a2,a3,a4,a5,a6,a7];exact m2)).trans ?_;refine(j0 (b:=L.set n ((b8 b7 (L.getD n bn).1 q).1,(b8 b7 (L.getD n bn).2.1 (b8 b7 (L.getD n bn).1 q).2).1,(L.getD n bn).2.2.1,(L.getD n bn).2.2.2.1,(L.getD n bn).2.2.2.2.1,(L.getD n bn).2.2.2.2.2.1,(L.getD n bn).2.2.2.2.2.2.1,(L.getD n bn).2.2.2.2.2.2.2.1,(L.getD n bn).2.2.2.2.2.2.2.2.1,(L.getD n bn).2.2.2.2.2.2.2.2.2.1,(L.getD n bn).2.2.2.2.2.2.2.2.2.2)) (by simp only[aq,aN,aF hx,List.set_set])).trans ?_;refine(cT (Q2 hx)).trans ?_;refine(Pn (r:=_) (by simp only[aq,aF hx,a1,a2,a3,a4,a5,a6,a7];exact m3)).trans ?_;refine(j0 (b:=L.set n ((b8 b7 (L.getD n bn).1 q).1,(b8 b7 (L.getD n bn).2.1 (b8 b7 (L.getD n bn).1 q).2).1,(b8 cv (L.getD n bn).2.2.1 (b8 b7 (L.getD n bn).2.1 (b8 b7 (L.getD n bn).1 q).2).2).1,(L.getD n bn).2.2.2.1,(L.getD n bn).2.2.2.2.1,(L.getD n bn).2.2.2.2.2.1,(L.getD n bn).2.2.2.2.2.2.1,(L.getD n bn).2.2.2.2.2.2.2.1,(L.getD n bn).2.2.2.2.2.2.2.2.1,(L.getD n bn).2.2.2.2.2.2.2.2.2.1,(L.getD n bn).2.2.2.2.2.2.2.2.2.2)) (by simp only[aq,aN,aF hx,List.set_set])).trans ?_;refine(cT (Q2 hx)).trans ?_;refine(j0 (b:=L.set n ((b8 b7 (L.getD n bn).1 q).1,(b8 b7 (L.getD n bn).2.1 (b8 b7 (L.getD n bn).1 q).2).1,(b8 cv (L.getD n bn).2.2.1 (b8 b7 (L.getD n bn).2.1 (b8 b7 (L.getD n bn).1 q).2).2).1,(b8 cv (L.getD n bn).2.2.1 (b8 b7 (L.getD n bn).2.1 (b8 b7 (L.getD n bn).1 q).2).2).2,(L.getD n bn).2.2.2.2.1,(L.getD n bn).2.2.2.2.2.1,(L.getD n bn).2.2.2.2.2.2.1,(L.getD n bn).2.2.2.2.2.2.2.1,(L.getD n bn).2.2.2.2.2.2.2.2.1,(L.getD n bn).2.2.2.2.2.2.2.2.2.1,(L.getD n bn).2.2.2.2.2.2.2.2.2.2)) (by simp only[aq,aN,aF hx,List.set_set,a1,a2,a3,a4,a5,a6,a7])).trans ?_;refine(cT (Q2 hx)).trans ?_;refine(j0 (b:=L.set n ((b8 b7 (L.getD n bn).1 q).1,(b8 b7 (L.getD n bn).2.1 (b8 b7 (L.getD n bn).1 q).2).1,(b8 cv (L.getD n bn).2.2.1 (b8 b7 (L.getD n bn).2.1 (b8 b7 (L.getD n bn).1 q).2).2).1,(b8 cv (L.getD n bn).2.2.1 (b8 b7 (L.getD n bn).2.1 (b8 b7 (L.getD n bn).1 q).2).2).2,(b8 cv (L.getD n bn).2.2.1 (b8 b7 (L.getD n bn).2.1 (b8 b7 (L.getD n bn).1 q).2).2).2+1,(L.getD n bn).2.2.2.2.2.1,(L.getD n bn).2.2.2.2.2.2.1,(L.getD n bn).2.2.2.2.2.2.2.1,(L.getD n bn).2.2.2.2.2.2.2.2.1,(L.getD n bn).2.2.2.2.2.2.2.2.2.1,(L.getD n bn).2.2.2.2.2.2.2.2.2.2)) (by simp only[aq,aN,aF hx,List.set_set,a1,a2,a3,a4,a5,a6,a7])).trans ?_;refine(cF Yn).trans ?_;refine(cT (Q2 hx)).trans ?_;refine(j0 (b:=L.set n ((b8 b7 (L.getD n bn).1 q).1,(b8 b7 (L.getD n bn).2.1 (b8 b7 (L.getD n bn).1 q).2).1,(b8 cv (L.getD n bn).2.2.1 (b8 b7 (L.getD n bn).2.1 (b8 b7 (L.getD n bn).1 q).2).2).1,(b8 cv (L.getD n bn).2.2.1 (b8 b7 (L.getD n bn).2.1 (b8 b7 (L.getD n bn).1 q).2).2).2,(b8 cv (L.getD n bn).2.2.1 (b8 b7 (L.getD n bn).2.1 (b8 b7 (L.getD n bn).1 q).2).2).2+1,af .eql (aa .rem .i64 ((b8 cv (L.getD n bn).2.2.1 (b8 b7 (L.getD n bn).2.1 (b8 b7 (L.getD n bn).1 q).2).2).2+2) 3) 0,(L.getD n bn).2.2.2.2.2.2.1,(L.getD n bn).2.2.2.2.2.2.2.1,(L.getD n bn).2.2.2.2.2.2.2.2.1,(L.getD n bn).2.2.2.2.2.2.2.2.2.1,(L.getD n bn).2.2.2.2.2.2.2.2.2.2)) (by simp only[aq,aN,aF hx,List.set_set,a1,a2,a3,a4,a5,a6,a7])).trans ?_;refine(cF Yn).trans ?_;refine(cT (Q2 hx)).trans ?_;refine(j0 (b:=L.set n ((b8 b7 (L.getD n bn).1 q).1,(b8 b7 (L.getD n bn).2.1 (b8 b7 (L.getD n bn).1 q).2).1,(b8 cv (L.getD n bn).2.2.1 (b8 b7 (L.getD n bn).2.1 (b8 b7 (L.getD n bn).1 q).2).2).1,(b8 cv (L.getD n bn).2.2.1 (b8 b7 (L.getD n bn).2.1 (b8 b7 (L.getD n bn).1 q).2).2).2,(b8 cv (L.getD n bn).2.2.1 (b8 b7 (L.getD n bn).2.1 (b8 b7 (L.getD n bn).1 q).2).2).2+1,af .eql (aa .rem .i64 ((b8 cv (L.getD n bn).2.2.1 (b8 b7 (L.getD n bn).2.1 (b8 b7 (L.getD n bn).1 q).2).2).2+2) 3) 0,af .eql (aa .rem .i64 ((b8 cv (L.getD n bn).2.2.1 (b8 b7 (L.getD n bn).2.1 (b8 b7 (L.getD n bn).1 q).2).2).2+3) 3) 0,(L.getD n bn).2.2.2.2.2.2.2.1,(L.getD n bn).2.2.2.2.2.2.2.2.1,(L.getD n bn).2.2.2.2.2.2.2.2.2.1,(L.getD n bn).2.2.2.2.2.2.2.2.2.2)) (by simp only[aq,aN,aF hx,List.set_set,a1,a2,a3,a4,a5,a6,a7])).trans ?_;refine(cF Yn).trans ?_;refine(j0 (b:=af .eql (aa .rem .i64 ((b8 cv (L.getD n bn).2.2.1 (b8 b7 (L.getD n bn).2.1 (b8 b7 (L.getD n bn).1 q).2).2).2+4) 3) 0) (by simp only[a1,a2,a3,a4])).trans ?_;refine(cT (Q2 hx)).trans ?_;refine(j0 (b:=L.set n ((b8 b7 (L.getD n bn).1 q).1,(b8 b7 (L.getD n bn).2.1 (b8 b7 (L.getD n bn).1 q).2).1,(b8 cv (L.getD n bn).2.2.1 (b8 b7 (L.getD n bn).2.1 (b8 b7 (L.getD n bn).1 q).2).2).1,(b8 cv (L.getD n bn).2.2.1 (b8 b7 (L.getD n bn).2.1 (b8 b7 (L.getD n bn).1 q).2).2).2,(b8 cv (L.getD n bn).2.2.1 (b8 b7 (L.getD n bn).2.1 (b8 b7 (L.getD n bn).1 q).2).2).2+1,af .eql (aa .rem .i64 ((b8 cv (L.getD n bn).2.2.1 (b8 b7 (L.getD n bn).2.1 (b8 b7 (L.getD n bn).1 q).2).2).2+2) 3) 0,af .eql (aa .rem .i64 ((b8 cv (L.getD n bn).2.2.1 (b8 b7 (L.getD n bn).2.1 (b8 b7 (L.getD n bn).1 q).2).2).2+3) 3) 0,af .eql (aa .rem .i64 ((b8 cv (L.getD n bn).2.2.1 (b8 b7 (L.getD n bn).2.1 (b8 b7 (L.getD n bn).1 q).2).2).2+4) 3) 0,(L.getD n bn).2.2.2.2.2.2.2.2.1,(L.getD n bn).2.2.2.2.2.2.2.2.2.1,(L.getD n bn).2.2.2.2.2.2.2.2.2.2)) (by simp only[aq,aN,aF hx,List.set_set])).trans ?_;refine(cT (Q2 hx)).trans ?_;refine(j0 (b:=L.set n ((b8 b7 (L.getD n bn).1 q).1,(b8 b7 (L.getD n bn).2.1 (b8 b7 (L.getD n bn).1 q).2).1,(b8 cv (L.getD n bn).2.2.1 (b8 b7 (L.getD n bn).2.1 (b8 b7 (L.getD n bn).1 q).2).2).1,(b8 cv (L.getD n bn).2.2.1 (b8 b7 (L.getD n bn).2.1 (b8 b7 (L.getD n bn).1 q).2).2).2,(b8 cv (L.getD n bn).2.2.1 (b8 b7 (L.getD n bn).2.1 (b8 b7 (L.getD n bn).1 q).2).2).2+1,af .eql (aa .rem .i64 ((b8 cv (L.getD n bn).2.2.1 (b8 b7 (L.getD n bn).2.1 (b8 b7 (L.getD n bn).1 q).2).2).2+2) 3) 0,af .eql (aa .rem .i64 ((b8 cv (L.getD n bn).2.2.1 (b8 b7 (L.getD n bn).2.1 (b8 b7 (L.getD n bn).1 q).2).2).2+3) 3) 0,af .eql (aa .rem .i64 ((b8 cv (L.getD n bn).2.2.1 (b8 b7 (L.getD n bn).2.1 (b8 b7 (L.getD n bn).1 q).2).2).2+4) 3) 0,(b8 cv (L.getD n bn).2.2.1 (b8 b7 (L.getD n bn).2.1 (b8 b7 (L.getD n bn).1 q).2).2).2+5,(L.getD n bn).2.2.2.2.2.2.2.2.2.1,(L.getD n bn).2.2.2.2.2.2.2.2.2.2)) (by simp only[aq,aN,aF hx,List.set_set,a1,a2,a3,a4,a5,a6,a7])).trans ?_;refine(j0 (b:=(b8 cv (L.getD n bn).2.2.1 (b8 b7 (L.getD n bn).2.1 (b8 b7 (L.getD n bn).1 q).2).2).2+6) (by simp only[a1,a2,a3,a4,a5,a6])).trans ?_;refine(cT (Q2 hx)).trans ?_;refine(j0 (b:=L.set n ((b8 b7 (L.getD n bn).1 q).1,(b8 b7 (L.getD n bn).2.1 (b8 b7 (L.getD n bn).1 q).2).1,(b8 cv (L.getD n bn).2.2.1 (b8 b7 (L.getD n bn).2.1 (b8 b7 (L.getD n bn).1 q).2).2).1,(b8 cv (L.getD n bn).2.2.1 (b8 b7 (L.getD n bn).2.1 (b8 b7 (L.getD n bn).1 q).2).2).2,(b8 cv (L.getD n bn).2.2.1 (b8 b7 (L.getD n bn).2.1 (b8 b7 (L.getD n bn).1 q).2).2).2+1,af .eql (aa .rem .i64 ((b8 cv (L.getD n bn).2.2.1 (b8 b7 (L.getD n bn).2.1 (b8 b7 (L.getD n bn).1 q).2).2).2+2) 3) 0,af .eql (aa .rem .i64 ((b8 cv (L.getD n bn).2.2.1 (b8 b7 (L.getD n bn).2.1 (b8 b7 (L.getD n bn).1 q).2).2).2+3) 3) 0,af .eql (aa .rem .i64 ((b8 cv (L.getD n bn).2.2.1 (b8 b7 (L.getD n bn).2.1 (b8 b7 (L.getD n bn).1 q).2).2).2+4) 3) 0,(b8 cv (L.getD n bn).2.2.1 (b8 b7 (L.getD n bn).2.1 (b8 b7 (L.getD n bn).1 q).2).2).2+5,(b8 cv (L.getD n bn).2.2.1 (b8 b7 (L.getD n bn).2.1 (b8 b7 (L.getD n bn).1 q).2).2).2+6,(L.getD n bn).2.2.2.2.2.2.2.2.2.2)) (by simp only[aq,aN,aF hx,List.set_set])).trans ?_;refine(cT (Q2 hx)).trans ?_;refine(Pn (r:=_) (by simp only[aq,aF hx,a1,a2,a3,a4,a5,a6,a7];exact m4)).trans ?_;refine(j0 (b:=L.set n ((b8 b7 (L.getD n bn).1 q).1,(b8 b7 (L.getD n bn).2.1 (b8 b7 (L.getD n bn).1 q).2).1,(b8 cv (L.getD n bn).2.2.1 (b8 b7 (L.getD n bn).2.1 (b8 b7 (L.getD n bn).1 q).2).2).1,(b8 cv (L.getD n bn).2.2.1 (b8 b7 (L.getD n bn).2.1 (b8 b7 (L.getD n bn).1 q).2).2).2,(b8 cv (L.getD n bn).2.2.1 (b8 b7 (L.getD n bn).2.1 (b8 b7 (L.getD n bn).1 q).2).2).2+1,af .eql (aa .rem .i64 ((b8 cv (L.getD n bn).2.2.1 (b8 b7 (L.getD n bn).2.1 (b8 b7 (L.getD n bn).1 q).2).2).2+2) 3) 0,af .eql (aa .rem .i64 ((b8 cv (L.getD n bn).2.2.1 (b8 b7 (L.getD n bn).2.1 (b8 b7 (L.getD n bn).1 q).2).2).2+3) 3) 0,af .eql (aa .rem .i64 ((b8 cv (L.getD n bn).2.2.1 (b8 b7 (L.getD n bn).2.1 (b8 b7 (L.getD n bn).1 q).2).2).2+4) 3) 0,(b8 cv (L.getD n bn).2.2.1 (b8 b7 (L.getD n bn).2.1 (b8 b7 (L.getD n bn).1 q).2).2).2+5,(b8 cv (L.getD n bn).2.2.1 (b8 b7 (L.getD n bn).2.1 (b8 b7 (L.getD n bn).1 q).2).2).2+6,QY ((b8 cv (L.getD n bn).2.2.1 (b8 b7 (L.getD n bn).2.1 (b8 b7 (L.getD n bn).1 q).2).2).2+7) (L.getD n bn).2.2.2.2.2.2.2.2.2.2.length)) (by simp only[aq,aN,aF hx,List.set_set])).trans ?_;simp only[av (n:=n) (by omega)]
  ·unfold JP;simp only[aj,Nat.lt_irrefl,decide_false,cond_false]
 rw[this];rfl
end Go.Fn
set_option linter.unusedVariables false
set_option linter.unusedSimpArgs false
namespace Go.Fn
open Go.R
noncomputable def RD(s:List Site)(p:List Si)(g:List SX)(j:List Ev):Nat:=ii Bd s+13*p.length+7*g.length+7*j.length
noncomputable def WO(k:Int)(s:List Site):List Site×Int:=b8 Ol s k
noncomputable def WN(k:Int)(s:List Site)(p:List Si):List Si×Int:=b8 RB p (WO k s).2
noncomputable def X8(k:Int)(s:List Site)(p:List Si)(g:List SX):List SX×Int:=b8 RA g (WN k s p).2
noncomputable def Xa(k:Int)(s:List Site)(p:List Si)(g:List SX)(j:List Ev):Int:=(X8 k s p g).2+7*(j.length:Int)
section
variable (a0 a1 a2 a3 a4 a5 a6 a7 a8 a9 a10:Int) (s:List Site) (p:List Si) (g:List SX) (j:List Ev) (k:Int)
theorem U6:(k<=(WO k s).2/\(WO k s).2<=k+(ii Bd s:Nat))/\((WO k s).2<=(WN k s p).2/\(WN k s p).2<=(WO k s).2+(13*p.length:Nat))/\((WN k s p).2<=(X8 k s p g).2/\(X8 k s p g).2<=(WN k s p).2+(7*g.length:Nat)):=by have b1:=Oi Th s k;have b2:=Oi UA p (WO k s).2;have b3:=Oi Uy g (WN k s p).2;rw[sL]at b2 b3;exact⟨b1,b2,b3⟩
theorem SF(h:RE s p g j)(h0:0<=k)(h1:k+(RD s p g j:Nat)<=137438953472):
  Ie a0 a1 a2 a3 a4 a5 a6 a7 a8 a9 a10 s p g j k=some (Xa k s p g j,(WO k s).1,(WN k s p).1,(X8 k s p g).1,QY (X8 k s p g).2 j.length,()):=by
 have e1:=h.ls;have e2:=h.lp;have e3:=h.lg;have e4:=h.lj;obtain⟨b1,b2,b3⟩:=U6 s p g k;unfold RD at h1;unfold Ie;rw[TF s k (by omega) h.ss h0 (by omega)];simp only[Option.bind_some];rw[show(b8 Ol s k).2=(WO k s).2 from rfl,SG p (WO k s).2 (by omega) (by omega) (by omega)];simp only[Option.bind_some];rw[show(b8 RB p (WO k s).2).2=(WN k s p).2 from rfl,S3 g (WN k s p).2 (by omega) (by omega) (by omega)];simp only[Option.bind_some];rw[show(b8 RA g (WN k s p).2).2=(X8 k s p g).2 from rfl,Qp j (X8 k s p g).2 (by omega) (by omega) (by omega)];rfl
theorem SJ(h0:0<=k):0<=Xa k s p g j:=by obtain⟨b1,b2,b3⟩:=U6 s p g k;unfold Xa;omega
end
abbrev Wk:=List MA×List MA
end Go.Fn
set_option linter.unusedVariables false
set_option linter.unusedSimpArgs false
namespace Go.Fn
open Go.R
theorem UH {α:Type} {body:Int×Int×Unit->Option ((Int×Int×Unit)⊕(Int×Unit⊕(Int×Unit⊕Empty)))} (z:α) (cost:α->Nat) (l:List α) (hl:l.length<=1073741824)
  (h:∀(n:Nat) (a:Int),n<l.length->0<=a->a<=1048576->body (a,(n:Int),())=some (.inr (.inl (-1,())))\/∃b,body (a,(n:Int),())=some (.inl (b,((n+1:Nat):Int),()))/\0<=b/\b+(cost (l.getD n z):Nat)<=a)
  (hend:∀a,body (a,(l.length:Int),())=some (.inr (.inr (.inl (a,()))))) (a:Int) (ha:0<=a) (Q1:a<=1048576):
  ∃y,iter body big (a,0,())=some y/\(y=.inl (-1,())\/∃b,y=.inr (.inl (b,()))/\0<=b/\b+(ii cost l:Nat)<=a):=by
 have key:∀(k n:Nat) (a:Int),n+k=l.length->0<=a->a<=1048576->∃y,iter body (k+1) (a,(n:Int),())=some y/\(y=.inl (-1,())\/∃b,y=.inr (.inl (b,()))/\0<=b/\b+(ii cost (l.drop n):Nat)<=a):=by
  intro k;induction k with
  |zero=>
   intro n a hn h0 h1;have:n=l.length:=by omega
   subst this;refine⟨_,ay (hend a),.inr ⟨a,rfl,h0,?_⟩⟩;rw[List.drop_length];show a+(0:Int)<=a;omega
  |succ k ih=>
   intro n a hn h0 h1;have hlt:n<l.length:=by omega
   rcases h n a hlt h0 h1 with h|⟨b,h,b0,b1⟩
   ·exact⟨_,ay h,.inl rfl⟩
   ·obtain⟨y,q1,q2⟩:=ih (n+1) b (by omega) b0 (by omega);refine⟨y,by rw[aH h];exact q1,q2.imp id fun⟨c,c1,c2,c3⟩=>⟨c,c1,c2,?_⟩⟩;have hd:l.drop n=l.getD n z::l.drop (n+1):=by rw[List.drop_eq_getElem_cons hlt,List.getD_eq_getElem?_getD,List.getElem?_eq_getElem hlt];rfl
    rw[hd];simp only[ii];omega
 obtain⟨y,h1,h2⟩:=key l.length 0 a (by omega) ha Q1;exact⟨y,bF h1 (aT (by omega)),h2⟩
noncomputable def Wg(c:PT):Nat:=c.2.1.length+c.2.2.length
noncomputable def Sq(l:List PT):Nat:=l.length+ii Wg l
theorem TO(a0:Int)(a1:List Int)(a2:List Bx)(a:Int)(h1:a1.length<=9223372036854775807)(h2:a2.length<=9223372036854775807)(ha:0<=a)(Q1:a<=1048576):
  ∃b,n7 a0 a1 a2 a=some (b,())/\(b = -1\/(0<=b/\b+(a1.length+a2.length:Nat)<=a)):=by
 unfold n7;rw[R2 a1 a h1 ha Q1];simp only[Option.bind_some];cases hd:decide (a<(a1.length:Int))with
 |true=>exact⟨-1,rfl,.inl rfl⟩
 |false=>
  have hd:=of_decide_eq_false hd;simp only[cond_false];rw[kv (by omega)];simp only[cond_false];rw[Tm a2 _ h2 (by omega) (by omega)];simp only[Option.bind_some];cases mP:decide (a-(a1.length:Int)<(a2.length:Int))with
  |true=>exact⟨-1,rfl,.inl rfl⟩
  |false=>have mP:=of_decide_eq_false mP;simp only[cond_false];rw[kv (by omega)];exact⟨_,rfl,.inr ⟨by omega,by omega⟩⟩
theorem S7(l:List PT)(a:Int)(hl:l.length<=9223372036854775807)(hw:∀c∈l,Q4 9223372036854775807 c)(ha:0<=a)(Q1:a<=1048576):
  ∃b,qS l a=some (b,())/\(b = -1\/(0<=b/\b+(Sq l:Nat)<=a)):=by
 unfold qS;have h1:aa .sub .i64 a (ai l)=a-(l.length:Int):=bO (by unfold ai;omega) (by unfold ai;omega);have h2:af .lss (a-(l.length:Int)) 0=decide (a<(l.length:Int)):=by simp only[af,decide_eq_decide];omega
 rw[h1,h2];cases hd:decide (a<(l.length:Int))with
 |true=>exact⟨-1,rfl,.inl rfl⟩
 |false=>
  have hd:=of_decide_eq_false hd;have Tx:l.length<=1073741824:=by omega
  obtain⟨y,q1,q2⟩:=UH (body:=g3 (l,())) b9 Wg l Tx (fun n a hn h0 h1=>by
   obtain⟨c1,c2⟩:=hw _ (mo hn b9);obtain⟨b,e1,e2⟩:=TO (l.getD n b9).1 (l.getD n b9).2.1 (l.getD n b9).2.2 a c1 c2 h0 h1;unfold g3;simp only[aj,az,hn,decide_true,cond_true,aq,aV,av (n:=n) (show n<1099511627776 by omega),e1,Option.bind_some];rcases e2 with rfl|⟨b0,b1⟩
   ·exact .inl rfl
   ·rw[kv b0];exact .inr ⟨b,rfl,b0,b1⟩) (fun a=>by
   unfold g3;simp only[aj,Nat.lt_irrefl,decide_false,cond_false]) (a-(l.length:Int)) (by omega) (by omega)
  simp only[cond_false];unfold xx;rw[q1];rcases q2 with rfl|⟨b,rfl,b1,b2⟩
  ·exact⟨-1,rfl,.inl rfl⟩
  ·exact⟨b,rfl,.inr ⟨b1,by unfold Sq;omega⟩⟩
end Go.Fn
set_option linter.unusedVariables false
set_option linter.unusedSimpArgs false
namespace Go.Fn
open Go.R
theorem VM(a:Int):∃b,kk a=some (b,()):=by unfold kk;rw[ev];exact⟨_,rfl⟩
end Go.Fn
set_option linter.unusedVariables false
set_option linter.unusedSimpArgs false
namespace Go.Fn
open Go.R
theorem Sr:∀l:List PT,ii NU l<=4*Sq l
 | []=>Nat.zero_le _
 |c::l=>by have:=Sr l;unfold Sq at this⊢;simp only[ii,NU,Wg,List.length_cons]at this⊢;omega
end Go.Fn
set_option linter.unusedVariables false
set_option linter.unusedSimpArgs false
namespace Go.Fn
open Go.R
noncomputable def R0(x:Site):Nat:=x.1.length+x.2.1.length+Sq x.2.2.1+x.2.2.2.2.2.2.2.2.2.2.length
theorem Vd(x:Site)(a:Int)(h:SL x)(ha:0<=a)(Q1:a<=1048576):
  ∃b,Jk x.1 x.2.1 x.2.2.1 x.2.2.2.1 x.2.2.2.2.1 x.2.2.2.2.2.1 x.2.2.2.2.2.2.1 x.2.2.2.2.2.2.2.1 x.2.2.2.2.2.2.2.2.1 x.2.2.2.2.2.2.2.2.2.1 x.2.2.2.2.2.2.2.2.2.2 a=some (b,())/\(b = -1\/(0<=b/\b+(R0 x:Nat)<=a)):=by
 unfold Jk;rw[Tn _ _ a h.o h.c ha Q1];simp only[Option.bind_some];cases hd:decide (a<(x.1.length:Int)+(x.2.1.length:Int))with
 |true=>exact⟨-1,rfl,.inl rfl⟩
 |false=>
  have hd:=of_decide_eq_false hd;simp only[cond_false];rw[kv (by omega)];simp only[cond_false];obtain⟨b,e1,e2⟩:=S7 x.2.2.1 (a-(x.1.length:Int)-(x.2.1.length:Int)) h.b h.bs (by omega) (by omega);rw[e1];simp only[Option.bind_some];rcases e2 with rfl|⟨b0,b1⟩
  ·exact⟨-1,rfl,.inl rfl⟩
  ·rw[kv b0];simp only[cond_false];rw[SP _ b h.j b0 (by omega)];simp only[Option.bind_some];cases mP:decide (b<(x.2.2.2.2.2.2.2.2.2.2.length:Int))with
   |true=>exact⟨-1,rfl,.inl rfl⟩
   |false=>have mP:=of_decide_eq_false mP;simp only[cond_false];rw[kv (by omega)];exact⟨_,rfl,.inr ⟨by omega,by unfold R0;omega⟩⟩
theorem UP(l:List Site)(a:Int)(hl:l.length<=9223372036854775807)(hw:∀c∈l,SL c)(ha:0<=a)(Q1:a<=1048576):
  ∃b,nw l a=some (b,())/\(b = -1\/(0<=b/\b+(l.length+ii R0 l:Nat)<=a)):=by
 unfold nw;have h1:aa .sub .i64 a (ai l)=a-(l.length:Int):=bO (by unfold ai;omega) (by unfold ai;omega);have h2:af .lss (a-(l.length:Int)) 0=decide (a<(l.length:Int)):=by simp only[af,decide_eq_decide];omega
 rw[h1,h2];cases hd:decide (a<(l.length:Int))with
 |true=>exact⟨-1,rfl,.inl rfl⟩
 |false=>
  have hd:=of_decide_eq_false hd;have Tx:l.length<=1073741824:=by omega
  obtain⟨y,q1,q2⟩:=UH (body:=g5 (l,())) bn R0 l Tx (fun n a hn h0 h1=>by
   obtain⟨b,e1,e2⟩:=Vd (l.getD n bn) a (hw _ (mo hn bn)) h0 h1;have hb:g5 (l,()) (a,(n:Int),())=(bif af .lss b 0 then some (.inr (.inl (-1,())))else some (.inl (b,((n+1:Nat):Int),()))):=by unfold g5;simp only[aj,az,hn,decide_true,cond_true,aq,aV,av (n:=n) (show n<1099511627776 by omega)];have hs':=congrArg (fun q=>q.bind fun(y0:Int×Unit)=>(bif (af .lss y0.1 (0:Int))then some (.inr (.inl ((-1:Int),())))else some (.inl (y0.1,((n+1:Nat):Int),())):Option ((Int×Int×Unit)⊕(Int×Unit⊕(Int×Unit⊕Empty))))) e1;exact hs'
   rw[hb];rcases e2 with rfl|⟨b0,b1⟩
   ·exact .inl rfl
   ·rw[kv b0];exact .inr ⟨b,rfl,b0,b1⟩) (fun a=>by
   unfold g5;simp only[aj,Nat.lt_irrefl,decide_false,cond_false]) (a-(l.length:Int)) (by omega) (by omega)
  simp only[cond_false];unfold IU;rw[q1];rcases q2 with rfl|⟨b,rfl,b1,b2⟩
  ·exact⟨-1,rfl,.inl rfl⟩
  ·exact⟨b,rfl,.inr ⟨b1,by omega⟩⟩
theorem Sb:∀l:List Site,ii Bd l<=7*(l.length+ii R0 l)
 | []=>Nat.zero_le _
 |x::l=>by have h1:=Sb l;have h2:=Sr x.2.2.1;simp only[ii,Bd,R0,List.length_cons];omega
section
variable (a0 a1 a2 a3 a4 a5 a6 a7 a8 a9 a10:Int) (s:List Site) (p:List Si) (g:List SX) (j:List Ev)
theorem Xl(a b:Int)(h:Wz s p g j)(ha:0<=a)(Q1:a<=1048576)(hz:qW a0 a1 a2 a3 a4 a5 a6 a7 a8 a9 a10 s p g j a=some (b,()))(hb:0<=b)(hle:RE s p g j):RD s p g j<=68719476736:=by
 have hs:ii Bd s<=7340032:=by
  obtain⟨y,e1,e2⟩:=UP s a h.ls h.ss ha Q1;unfold qW at hz;rw[e1]at hz;rcases e2 with rfl|⟨y0,y1⟩
  ·have:some ((-1:Int),())=some (b,()):=hz;injection this with this
   injection this with this
   omega
  ·have:=Sb s;omega
 have h2:=hle.lp;have h3:=hle.lg;have h4:=hle.lj;unfold RD;omega
end
end Go.Fn
set_option linter.unusedVariables false
namespace Go.Fn
open Go.R
noncomputable def tt(a:Int×WL)(b:Ls):Ye:=letI c:=aa .add .i64 b.2.1 1;letI d:=a.2.2.2.2.2.2.2.2.2.2.2.2.2.1;letI e:=ah d b.2.1;letI f:=ae bf d b.2.1;cond (af .lss b.2.1 (ai d)) (cond e (cond (af .eql f.2.2.2.1 1) (cond e (cond (af .eql f.2.2.1 a.1) (cond e (some (.inl (aa .add .i64 b.1 f.1,c,()))) none) (some (.inl (b.1,c,())))) none) (some (.inl (b.1,c,())))) none) (some (.inr (.inl (b.1,()))))
noncomputable def Jg k x:=iter (tt k) big x
noncomputable def I4(a b c d e f g h i j k:Int)(l:Lc)(m:Nq)(n:Ld)(o:Km)(p:Int):R4:=(Jg (p,a,b,c,d,e,f,g,h,i,j,k,l,m,n,o,()) (0,0,())).bind fun q=>Sum.elim (fun r=>some (r.1,())) (fun r=>Empty.elim r) q
noncomputable def ec(a:Mf×Xx)(b:Ls):Option (Ls⊕Ls⊕Empty):=letI c:=b.2.1;cond (af .gtr b.1 0) (cond (af .lss c 20000) ((Kg a.1 a.2.1 c).bind fun d=>letI e:=aa .add .i64 c 1;cond d.1 (some (.inl (aa .sub .i64 b.1 1,e,()))) (some (.inl (b.1,e,())))) (some (.inr (.inl (b.1,c,()))))) (some (.inr (.inl (b.1,c,()))))
noncomputable def n4 k x:=iter (ec k) big x
noncomputable def gy(a b:Mf)(c d:Int):YbX:=(BE a b).bind fun e=>letI f:=some ((0:Int),false,());cond (Bool.not e.1) f ((bt c 0 20000).bind fun g=>cond (Bool.not g.1) f ((n4 (a,b,()) (d,c,())).bind fun h=>Sum.elim (fun i=>cond (af .neq i.1 0) f (some (i.2.1,true,()))) (fun i=>Empty.elim i) h))
noncomputable def I0(a b:Mf)(c d e f g h i j k l:Int):YbX:=(Ke c d e f g h i j).bind fun m=>letI n:=some ((0:Int),false,());cond (Bool.not m.1) n ((bt l 0 j).bind fun o=>cond (Bool.not o.1) n ((gy a b k (aa .add .i64 c (aa .mul .i64 h l))).bind fun p=>some (p.1,p.2.1,())))
noncomputable def Kc(a b:Mf)(c d e f g h i j k l m:Int):oa:=(I0 a b c d e f g h i j k m).bind fun n=>cond n.2.1 ((bt l (aa .add .i64 n.1 1) 20000).bind fun o=>some (o.1,())) (some (false,()))
noncomputable def tv(a:Int×WL)(b:Ls):Ye:=letI c:=a.2.2.2.2.2;letI d:=aa .add .i64 b.2.1 1;letI e:=c.2.2.2.2.2.2;letI f:=(b.1,d,());letI g:=ae aS e.2.1 a.1;letI h:=ae bf e.2.2.1 b.2.1;cond (af .lss b.2.1 (ai e.2.2.1)) (cond (ah e.2.2.1 b.2.1) (cond (af .eql h.2.2.2.1 3) (cond (af .eql h.2.2.1 a.1) (cond (ah e.2.1 a.1) ((Kc g.1 g.2.1 a.2.1 a.2.2.1 a.2.2.2.1 a.2.2.2.2.1 c.1 c.2.1 c.2.2.1 c.2.2.2.1 h.2.2.2.2.1 e.1 h.2.2.2.2.2.1).bind fun i=>cond i.1 (some (.inl (aa .add .i64 b.1 h.1,d,()))) (some (.inl f))) none) (some (.inl f))) (some (.inl f))) none) (some (.inr (.inl (b.1,()))))
noncomputable def Jh k x:=iter (tv k) big x
noncomputable def I5(a b c d e f g h i j k:Int)(l:Lc)(m:Nq)(n:Ld)(o:Km)(p:Int):R4:=(Jh (p,a,b,c,d,e,f,g,h,i,j,k,l,m,n,o,()) (0,0,())).bind fun q=>Sum.elim (fun r=>some (r.1,())) (fun r=>Empty.elim r) q
noncomputable def Oc(a b:Mf)(c:Int):oa:=(BE a b).bind fun d=>letI e:=some (false,());cond d.1 ((bt c 0 19999).bind fun f=>cond f.1 ((Kg a b c).bind fun g=>some (g.1,())) e) e
noncomputable def KL(a:u0×Int×WL)(b:YbK):YcK:=letI c:=b.2.2;letI d:=c.2.2.1;cond (af .lss d (ai a.1)) (cond (ah a.1 d) (cond (af .neq (ai (ae gb a.1 d)) (ai a.1)) (some (.inr (.inl (0,0,([]:u0),([]:Jo),([]:gg),false,())))) (some (.inl (b.1,b.2.1,c.1,c.2.1,aa .add .i64 d 1,())))) none) (some (.inr (.inr (.inl (b.1,b.2.1,c.1,c.2.1,())))))
noncomputable def KN k x:=iter (KL k) big x
noncomputable def KM(a:u0×Int×YaT)(b:YbF):Option (YbF⊕YbF⊕Empty):=letI c:=b.2.2;letI d:=c.2.2;letI e:=d.2.2;letI f:=e.2.2;letI g:=f.2.2.2;letI h:=a.2.2.2.2.2.2.2.2.2.2.2.2.2;letI i:=aa .add .i64 g.1 1;letI j:=ae aS h.1 h.2.2.2.2.1;cond (ah h.1 h.2.2.2.2.1) ((Oc j.1 j.2.1 i).bind fun k=>cond k.1 (some (.inl (b.1,b.2.1,c.1,c.2.1,d.1,d.2.1,e.1,e.2.1,f.1,f.2.1,f.2.2.1,i,g.2.1,g.2.2.1,g.2.2.2.1,()))) (some (.inr (.inl (b.1,b.2.1,c.1,c.2.1,d.1,d.2.1,e.1,e.2.1,f.1,f.2.1,f.2.2.1,g.1,g.2.1,g.2.2.1,g.2.2.2.1,()))))) none
noncomputable def r5 k x:=iter (KM k) big x
noncomputable def r4(a:u0×Int×WL)(b:Xt):YcS:=letI c:=b.2.2;letI d:=a.2.2.2;letI e:=c.2.2;letI f:=d.2.2;letI g:=e.2.2;letI h:=g.2.2;letI i:=f.2.2.2;letI j:=i.2.2;letI k:=h.2.2.1;letI l:=j.2.2.2;letI m:=j.2.2.1;letI n:=l.1;letI o:=l.2.2;cond (af .lss k (ai n)) ((I4 a.2.2.1 d.1 d.2.1 f.1 f.2.1 f.2.2.1 i.1 i.2.1 j.1 j.2.1 m n l.2.1 o.1 o.2.1 k).bind fun p=>(I5 a.2.2.1 d.1 d.2.1 f.1 f.2.1 f.2.2.1 i.1 i.2.1 j.1 j.2.1 m n l.2.1 o.1 o.2.1 k).bind fun q=>letI r:=([]:gg);letI s:=((0:Int),(0:Int),([]:u0),([]:Jo),r,false,());letI t:=aa .add .i64 k 1;letI u:=gy (ae aS n k).1 (ae aS n k).2.1 m 1;letI v:=(a.1,a.2.1,a.2.2.1,d.1,d.2.1,f.1,f.2.1,f.2.2.1,i.1,i.2.1,j.1,j.2.1,m,n,l.2.1,o.1,o.2.1,k,());cond (af .eql p.1 0) (cond (af .eql q.1 0) (some (.inl (b.1,b.2.1,c.1,c.2.1,e.1,e.2.1,g.1,g.2.1,h.1,h.2.1,t,()))) (cond (ah n k) (u.bind fun w=>letI x:=aa .sub .i64 w.1 1;cond (Bool.not w.2.1) (some (.inr (.inl s))) ((r5 v (b.1,b.2.1,c.1,c.2.1,e.1,e.2.1,g.1,g.2.1,h.1,h.2.1,x,x,a.2.1,p.1,q.1,())).bind fun y=>Sum.elim (fun z=>letI A:=z.2.2.2.2;letI B:=A.2.2.2;letI C:=B.2.2.2.2;letI D:=(B.2.2.2.1,C.1,C.2.1,C.2.2.1,C.2.2.2.1);cond (aE (List.append (α:=Sn) B.1 (List.append (α:=Sn) ([]:Jo) [D]))) (lets (List.append (α:=Sn) ([]:Jo) [D]) fun _=>lets (List.append (α:=Sn) B.1 (List.append (α:=Sn) ([]:Jo) [D])) fun E=>cond (aE (List.append (α:=Int) B.2.1 (List.append (α:=Int) r [k]))) (cond (aE (List.append (α:=Int) B.2.2.1 (List.append (α:=Int) r [t]))) (some (.inl (z.1,z.2.1,z.2.2.1,z.2.2.2.1,A.1,A.2.1,A.2.2.1,E,List.append (α:=Int) B.2.1 (List.append (α:=Int) r [k]),List.append (α:=Int) B.2.2.1 (List.append (α:=Int) r [t]),t,()))) none) none) none) (fun z=>Empty.elim z) y)) none)) (cond (ah n k) (u.bind fun w=>letI x:=aa .sub .i64 w.1 1;cond (Bool.not w.2.1) (some (.inr (.inl s))) ((r5 v (b.1,b.2.1,c.1,c.2.1,e.1,e.2.1,g.1,g.2.1,h.1,h.2.1,x,x,a.2.1,p.1,q.1,())).bind fun y=>Sum.elim (fun z=>letI A:=z.2.2.2.2;letI B:=A.2.2.2;letI C:=B.2.2.2.2;letI D:=(B.2.2.2.1,C.1,C.2.1,C.2.2.1,C.2.2.2.1);cond (aE (List.append (α:=Sn) B.1 (List.append (α:=Sn) ([]:Jo) [D]))) (lets (List.append (α:=Sn) ([]:Jo) [D]) fun _=>lets (List.append (α:=Sn) B.1 (List.append (α:=Sn) ([]:Jo) [D])) fun E=>cond (aE (List.append (α:=Int) B.2.1 (List.append (α:=Int) r [k]))) (cond (aE (List.append (α:=Int) B.2.2.1 (List.append (α:=Int) r [t]))) (some (.inl (z.1,z.2.1,z.2.2.1,z.2.2.2.1,A.1,A.2.1,A.2.2.1,E,List.append (α:=Int) B.2.1 (List.append (α:=Int) r [k]),List.append (α:=Int) B.2.2.1 (List.append (α:=Int) r [t]),t,()))) none) none) none) (fun z=>Empty.elim z) y)) none)) (some (.inr (.inr (.inl (b.1,b.2.1,c.1,c.2.1,e.1,e.2.1,g.1,g.2.1,h.1,h.2.1,())))))
noncomputable def KO k x:=iter (r4 k) big x
noncomputable def Io(a:Xy)(b:YbS):Option (YbS⊕Int×Int×u0×Jo×Int×Int×u0×Jo×gg×gg×Vx⊕Empty):=letI c:=b.2.2.2;letI d:=c.2.2;letI e:=d.2.2;letI f:=e.2.2;letI g:=f.1;letI h:=f.2.2.1;letI i:=ae zI g a.2.1;letI j:=ae zI (ae gb a.1 i) (ae zI g h);cond (af .lss h (ai g)) (cond (ah g a.2.1) (cond (ah a.1 i) (cond (ah g h) (cond (ah (ae gb a.1 i) (ae zI g h)) (cond (aE (List.append (α:=Int) f.2.1 (List.append (α:=Int) ([]:gg) [j]))) (lets (List.append (α:=Int) ([]:gg) [j]) fun _=>some (.inl (b.1,b.2.1,b.2.2.1,c.1,c.2.1,d.1,d.2.1,e.1,e.2.1,g,List.append (α:=Int) f.2.1 (List.append (α:=Int) ([]:gg) [j]),aa .add .i64 h 1,()))) none) none) none) none) none) (some (.inr (.inl (b.1,b.2.1,b.2.2.1,c.1,c.2.1,d.1,d.2.1,e.1,e.2.1,g,f.2.1,()))))
noncomputable def KQ k x:=iter (Io k) big x
noncomputable def Im(a:Xw)(b:Xt):Option (Xt⊕YbU):=letI c:=b.2.2.2;letI d:=c.2.2.2;letI e:=d.2.2.2;cond (af .lss e.2.1 (ai e.1)) ((KQ (a.1,e.2.1,()) (b.1,b.2.1,b.2.2.1,c.1,c.2.1,c.2.2.1,d.1,d.2.1,d.2.2.1,e.1,([]:gg),0,())).bind fun f=>Sum.elim (fun g=>letI h:=g.2.2.2;letI i:=h.2.2.2;cond (aE (List.append (α:=gg) i.1 (List.append (α:=gg) ([]:u0) [i.2.2.2.2.1]))) (some (.inl (g.1,g.2.1,g.2.2.1,h.1,h.2.1,h.2.2.1,List.append (α:=gg) i.1 (List.append (α:=gg) ([]:u0) [i.2.2.2.2.1]),i.2.1,i.2.2.1,i.2.2.2.1,aa .add .i64 e.2.1 1,()))) none) (fun g=>Empty.elim g) f) (some (.inr (.inl (b.1,b.2.1,b.2.2.1,c.1,c.2.1,c.2.2.1,d.1,d.2.1,d.2.2.1,()))))
noncomputable def KP k x:=iter (Im k) big x
noncomputable def K7(a b c d e f g h i j k:Int)(l:Lc)(m:Nq)(n:Ld)(o:Km)(p:u0)(q:Int):Option YbA:=(J9 a b c d e f g h i j k l m n o).bind fun r=>letI s:=(0:Int);letI t:=some (s,s,([]:u0),([]:Jo),([]:gg),false,());letI u:=(p,q,a,b,c,d,e,f,g,h,i,j,k,l,m,n,o,());cond (Bool.not r.1) t (cond (af .neq (ai p) (aa .add .i64 (ai l) 1)) t ((KN u (s,s,([]:u0),([]:Jo),s,())).bind fun v=>Sum.elim (fun w=>some (w.1,w.2.1,w.2.2.1,w.2.2.2.1,w.2.2.2.2.1,w.2.2.2.2.2.1,())) (fun w=>Sum.elim (fun x=>(KO u (x.1,x.2.1,x.2.2.1,x.2.2.2.1,k,i,([]:u0),([]:Jo),([]:gg),List.append (α:=Int) ([]:gg) [s],s,())).bind fun y=>Sum.elim (fun z=>some (z.1,z.2.1,z.2.2.1,z.2.2.2.1,z.2.2.2.2.1,z.2.2.2.2.2.1,())) (fun z=>Sum.elim (fun A=>letI B:=A.2.2.2.2.2;(KP (p,()) (A.1,A.2.1,A.2.2.1,A.2.2.2.1,A.2.2.2.2.1,B.1,B.2.1,B.2.2.1,B.2.2.2.1,B.2.2.2.2.1,s,())).bind fun C=>Sum.elim (fun D=>letI E:=D.2.2.2.2;letI F:=E.2.2;(Ip E.1 E.2.1 F.1 F.2.1).bind fun G=>cond (Bool.not G.1) t (some (E.1,E.2.1,F.1,F.2.1,F.2.2.1,true,()))) (fun D=>Empty.elim D) C) (fun A=>Empty.elim A) z) y) (fun x=>Empty.elim x) w) v))
noncomputable def g2(a:Mf×Xx)(b:Ls):Option (Ls⊕Zq⊕YcD):=letI c:=b.2.1;letI d:=aa .add .i64 c 1;cond (af .leq c 20000) (cond (af .eql b.1 0) (some (.inr (.inl (c,true,())))) (cond (af .lss c 20000) ((Li a.1 a.2.1 c).bind fun e=>cond e.1 (some (.inl (aa .sub .i64 b.1 1,d,()))) (some (.inl (b.1,d,())))) (some (.inl (b.1,d,()))))) (some (.inr (.inr (.inl ()))))
noncomputable def Jr k x:=iter (g2 k) big x
noncomputable def p4(a b:Mf)(c d:Int):YbX:=letI e:=some ((0:Int),false,());cond (af .lss d 0) e ((sS a b).bind fun f=>cond (Bool.not f.1) e ((gn c).bind fun g=>cond (Bool.not g.1) e ((Jr (a,b,()) (d,c,())).bind fun h=>Sum.elim (fun i=>some (i.1,i.2.1,())) (fun i=>Sum.elim (fun _=>e) (fun j=>Empty.elim j) i) h)))
noncomputable def IM(a b:Mf)(c d e f g h i j k l:Int):YbX:=(sS a b).bind fun m=>letI n:=some ((0:Int),false,());cond (Bool.not m.1) n ((JA c d e f g h i j).bind fun o=>cond (Bool.not o.1) n ((gn k).bind fun p=>cond (Bool.not p.1) n ((bu l 0 j).bind fun q=>cond (Bool.not q.1) n ((p4 a b k (aa .add .i64 c (aa .mul .i64 h l))).bind fun r=>some (r.1,r.2.1,())))))
noncomputable def FI(a b:Mf)(c d e f g h i j k l m:Int):oa:=(IM a b c d e f g h i j k m).bind fun n=>letI o:=some (false,());cond n.2.1 ((gn l).bind fun p=>cond p.1 (some (af .gtr l n.1,())) o) o
noncomputable def Lg(a b:Mf)(c:Int):oa:=(sS a b).bind fun d=>letI e:=some (false,());cond d.1 ((bu c 0 19999).bind fun f=>cond f.1 ((Li a b c).bind fun g=>some (g.1,())) e) e
noncomputable def Kt(a:u0×Int×Int×Int×Int×Int×Int×Int×Int×Int×Int×Int×Int×Lc×Nq×Ld×Km×Xy)(b:YbK):YcK:=letI c:=b.2.2;letI d:=c.2.2.1;letI e:=a.2.2.2.2.2.2.2.2.2.2.2.2.2.2.2.2.2;cond (af .lss d e.2.1) (cond (ah e.1 d) (cond (af .neq (ai (ae gb e.1 d)) (ai a.1)) (some (.inr (.inl (0,0,([]:u0),([]:Jo),([]:gg),false,())))) (some (.inl (b.1,b.2.1,c.1,c.2.1,aa .add .i64 d 1,())))) none) (some (.inr (.inr (.inl (b.1,b.2.1,c.1,c.2.1,())))))
noncomputable def Kv k x:=iter (Kt k) big x
noncomputable def HY(a:u0×Int×Int×Int×Int×Int×Int×Int×Int×Int×Int×Int×Int×Lc×Nq×Ld×Km×Int×Lc×Int×Int×Yj)(b:YbE):Option (YbE⊕Int×Int×u0×Jo×Int×Int×u0×Jo×gg×gg×Mf×Mf×Sf×Int×Int×Bool×Bool×Bool×Int×Int×Km×Ls⊕Empty):=letI c:=b.2.2;letI d:=a.2.2.2;letI e:=c.2.2;letI f:=d.2.2.2;letI g:=e.2.2.2;letI h:=e.2.2.1;letI i:=g.2.2.2;letI j:=g.2.2.1;letI k:=i.2.1;letI l:=i.2.2.2;letI m:=i.2.2.1;letI n:=l.2.2.2;letI o:=l.2.2.1;letI p:=f.2.2.2.2.2.2.2.2.2.2.2;letI q:=n.2.2.2;letI r:=n.2.2.1;letI s:=q.2.2;letI t:=p.2.2.2.2;letI u:=s.2.2.1;letI v:=ae bf t.1 u;cond (af .lss u t.2.1) (cond (ah t.1 u) (lets (af .neq v.2.2.1 p.1) fun w=>letI x:=aa .add .i64 u 1;letI y:=v.2.2.2;letI z:=(b.1,b.2.1,c.1,c.2.1,e.1,e.2.1,h,g.1,g.2.1,j,i.1,k,m,l.1,l.2.1,o,n.1,n.2.1,r,q.1,q.2.1,s.1,s.2.1,x,());cond w (some (.inl z)) (cond (af .eql y.1 1) (lets (aa .add .i64 s.1 v.1) fun A=>some (.inl (b.1,b.2.1,c.1,c.2.1,e.1,e.2.1,h,g.1,g.2.1,j,i.1,k,m,l.1,l.2.1,o,n.1,n.2.1,r,q.1,q.2.1,A,s.2.1,x,()))) (cond (af .eql y.1 3) ((FI i.1 k a.2.2.1 d.1 d.2.1 d.2.2.1 f.1 f.2.1 f.2.2.1 f.2.2.2.1 y.2.1 f.2.2.2.2.2.2.1 y.2.2.1).bind fun A=>cond A.1 (lets (aa .add .i64 s.2.1 v.1) fun B=>some (.inl (b.1,b.2.1,c.1,c.2.1,e.1,e.2.1,h,g.1,g.2.1,j,i.1,k,m,l.1,l.2.1,o,n.1,n.2.1,r,q.1,q.2.1,s.1,B,x,()))) (some (.inl z))) (some (.inl z))))) none) (some (.inr (.inl (b.1,b.2.1,c.1,c.2.1,e.1,e.2.1,h,g.1,g.2.1,j,i.1,k,m,l.1,l.2.1,o,n.1,n.2.1,r,q.1,q.2.1,s.1,s.2.1,()))))
noncomputable def Kx k x:=iter (HY k) big x
noncomputable def HZ(a:u0×Int×Int×Int×Int×Int×Int×Int×Int×Int×Int×Int×Int×Lc×Nq×Ld×Km×YcX)(b:Zn):Option (Zn⊕Zn⊕Empty):=letI c:=b.2.2.2;letI d:=c.2.2;letI e:=d.2.2.2;letI f:=e.2.2;letI g:=f.2.2.2;letI h:=g.2.2.2;letI i:=h.2.2.2;letI j:=i.2.2.1;letI k:=(b.1,b.2.1,b.2.2.1,c.1,c.2.1,d.1,d.2.1,d.2.2.1,e.1,e.2.1,f.1,f.2.1,f.2.2.1,g.1,g.2.1,g.2.2.1,h.1,h.2.1,h.2.2.1,i.1,i.2.1,j,());cond (af .lss j 20000) ((Lg f.1 f.2.1 j).bind fun l=>cond (Bool.not l.1) (some (.inl (b.1,b.2.1,b.2.2.1,c.1,c.2.1,d.1,d.2.1,d.2.2.1,e.1,e.2.1,f.1,f.2.1,f.2.2.1,g.1,g.2.1,g.2.2.1,h.1,h.2.1,h.2.2.1,i.1,i.2.1,aa .add .i64 j 1,()))) (some (.inr (.inl k)))) (some (.inr (.inl k)))
noncomputable def H6 k x:=iter (HZ k) big x
noncomputable def Ku(a:u0×Int×Int×Int×Int×Int×Int×Int×Int×Int×Int×Int×Int×Lc×Nq×Ld×Km×Int×YcX)(b:Zn):Option (Zn⊕Xt⊕Empty):=letI c:=b.2.2.2;letI d:=c.2.2;letI e:=d.2.2;letI f:=e.2.2;letI g:=f.2.2.2.2;letI h:=g.2.2.2;letI i:=h.2.2.2;letI j:=aa .add .i64 i.2.2.1 1;(Lg f.2.1 f.2.2.1 j).bind fun k=>cond k.1 (some (.inl (b.1,b.2.1,b.2.2.1,c.1,c.2.1,d.1,d.2.1,e.1,e.2.1,f.1,f.2.1,f.2.2.1,f.2.2.2.1,g.1,g.2.1,g.2.2.1,h.1,h.2.1,h.2.2.1,i.1,i.2.1,j,()))) (some (.inr (.inl (b.1,b.2.1,b.2.2.1,c.1,c.2.1,d.1,d.2.1,e.1,e.2.1,f.1,i.2.2.1,()))))
noncomputable def qx k x:=iter (Ku k) big x
noncomputable def qk(a:u0×Int×YbM)(b:Xt):YcS:=letI c:=a.2.1;letI d:=a.2.2.2;letI e:=b.2.2.2;letI f:=a.2.2.1;letI g:=e.2.2;letI h:=d.2.2.2;letI i:=d.2.2.1;letI j:=g.2.2.2;letI k:=h.2.2.2;letI l:=h.2.2.1;letI m:=k.2.2;letI n:=j.2.2.1;letI o:=m.2.2;letI p:=m.2.1;letI q:=o.2.2;letI r:=o.2.1;letI s:=q.2.2;letI t:=s.2.1;letI u:=ae aS s.1 n;letI v:=u.2.2.2.2.2;cond (af .lss n t) (cond (ah s.1 n) ((Kx (a.1,c,f,d.1,d.2.1,i,h.1,h.2.1,l,k.1,k.2.1,m.1,p,o.1,r,q.1,q.2.1,n,s.1,t,n,r,ai r,()) (b.1,b.2.1,b.2.2.1,e.1,e.2.1,g.1,g.2.1,g.2.2.1,j.1,j.2.1,u.1,u.2.1,u.2.2.1,u.2.2.2.1,u.2.2.2.2.1,v.1,v.2.1,v.2.2.1,v.2.2.2.1,v.2.2.2.2.1,v.2.2.2.2.2,0,0,0,())).bind fun w=>Sum.elim (fun x=>letI y:=([]:gg);letI z:=x.2.2;letI A:=z.2.2;letI B:=A.2.2.2;letI C:=B.2.2;letI D:=C.2.2.2;letI E:=((0:Int),(0:Int),([]:u0),([]:Jo),y,false,());letI F:=D.2.2.2.2;letI G:=aa .add .i64 n 1;letI H:=F.2.2.2.2.2;letI I:=H.2.1;letI J:=H6 (a.1,c,f,d.1,d.2.1,i,h.1,h.2.1,l,k.1,k.2.1,m.1,p,o.1,r,q.1,q.2.1,n,H.1,I,s.1,t,n,()) (x.1,x.2.1,z.1,z.2.1,A.1,A.2.1,A.2.2.1,B.1,B.2.1,C.1,C.2.1,C.2.2.1,D.1,D.2.1,D.2.2.1,D.2.2.2.1,F.1,F.2.1,F.2.2.1,F.2.2.2.1,F.2.2.2.2.1,p,());cond (af .eql H.1 0) (cond (af .eql I 0) (some (.inl (x.1,x.2.1,z.1,z.2.1,A.1,A.2.1,A.2.2.1,B.1,B.2.1,C.1,G,()))) (J.bind fun K=>Sum.elim (fun L=>letI M:=L.2.2.2.2;letI N:=M.2.2.2;letI O:=N.2.2.2;letI P:=O.2.2.2;letI Q:=P.2.2.2;letI R:=Q.2.2.2;letI S:=R.2.2.1;cond (af .eql S 20000) (some (.inr (.inl E))) ((qx (a.1,c,f,d.1,d.2.1,i,h.1,h.2.1,l,k.1,k.2.1,m.1,p,o.1,r,q.1,q.2.1,n,H.1,I,S,s.1,t,n,()) (L.1,L.2.1,L.2.2.1,L.2.2.2.1,M.1,M.2.1,M.2.2.1,N.1,N.2.1,N.2.2.1,O.1,O.2.1,O.2.2.1,P.1,P.2.1,P.2.2.1,Q.1,Q.2.1,Q.2.2.1,R.1,R.2.1,S,())).bind fun T=>Sum.elim (fun U=>letI V:=U.2.2.2.2;letI W:=V.2.2.2;letI X:=(S,W.2.2.2.1,c,H.1,I);cond (aE (List.append (α:=Sn) W.1 (List.append (α:=Sn) ([]:Jo) [X]))) (lets (List.append (α:=Sn) ([]:Jo) [X]) fun _=>lets (List.append (α:=Sn) W.1 (List.append (α:=Sn) ([]:Jo) [X])) fun Y=>cond (aE (List.append (α:=Int) W.2.1 (List.append (α:=Int) y [n]))) (cond (aE (List.append (α:=Int) W.2.2.1 (List.append (α:=Int) y [G]))) (some (.inl (U.1,U.2.1,U.2.2.1,U.2.2.2.1,V.1,V.2.1,V.2.2.1,Y,List.append (α:=Int) W.2.1 (List.append (α:=Int) y [n]),List.append (α:=Int) W.2.2.1 (List.append (α:=Int) y [G]),G,()))) none) none) none) (fun U=>Empty.elim U) T)) (fun L=>Empty.elim L) K)) (J.bind fun K=>Sum.elim (fun L=>letI M:=L.2.2.2.2;letI N:=M.2.2.2;letI O:=N.2.2.2;letI P:=O.2.2.2;letI Q:=P.2.2.2;letI R:=Q.2.2.2;letI S:=R.2.2.1;cond (af .eql S 20000) (some (.inr (.inl E))) ((qx (a.1,c,f,d.1,d.2.1,i,h.1,h.2.1,l,k.1,k.2.1,m.1,p,o.1,r,q.1,q.2.1,n,H.1,I,S,s.1,t,n,()) (L.1,L.2.1,L.2.2.1,L.2.2.2.1,M.1,M.2.1,M.2.2.1,N.1,N.2.1,N.2.2.1,O.1,O.2.1,O.2.2.1,P.1,P.2.1,P.2.2.1,Q.1,Q.2.1,Q.2.2.1,R.1,R.2.1,S,())).bind fun T=>Sum.elim (fun U=>letI V:=U.2.2.2.2;letI W:=V.2.2.2;letI X:=(S,W.2.2.2.1,c,H.1,I);cond (aE (List.append (α:=Sn) W.1 (List.append (α:=Sn) ([]:Jo) [X]))) (lets (List.append (α:=Sn) ([]:Jo) [X]) fun _=>lets (List.append (α:=Sn) W.1 (List.append (α:=Sn) ([]:Jo) [X])) fun Y=>cond (aE (List.append (α:=Int) W.2.1 (List.append (α:=Int) y [n]))) (cond (aE (List.append (α:=Int) W.2.2.1 (List.append (α:=Int) y [G]))) (some (.inl (U.1,U.2.1,U.2.2.1,U.2.2.2.1,V.1,V.2.1,V.2.2.1,Y,List.append (α:=Int) W.2.1 (List.append (α:=Int) y [n]),List.append (α:=Int) W.2.2.1 (List.append (α:=Int) y [G]),G,()))) none) none) none) (fun U=>Empty.elim U) T)) (fun L=>Empty.elim L) K)) (fun x=>Empty.elim x) w) none) (some (.inr (.inr (.inl (b.1,b.2.1,b.2.2.1,e.1,e.2.1,g.1,g.2.1,g.2.2.1,j.1,j.2.1,())))))
noncomputable def Kw k x:=iter (qk k) big x
noncomputable def xl(a:u0×gg×Int×gg×Int×Int×V4)(b:Xt):Option (Xt⊕YbC):=letI c:=b.2.2;letI d:=c.2.2;letI e:=a.2.2.2.2.2.2;letI f:=d.2.2.2;letI g:=ae gb a.1 a.2.2.1;letI h:=f.2.2.2.1;letI i:=ae zI e.1 h;cond (af .lss h e.2.1) (cond (ah e.1 h) (cond (ah a.1 a.2.2.1) (cond (ah g i) (cond (aE (List.append (α:=Int) f.2.2.1 (List.append (α:=Int) ([]:gg) [ae zI g i]))) (some (.inl (b.1,b.2.1,c.1,c.2.1,d.1,d.2.1,d.2.2.1,f.1,f.2.1,List.append (α:=Int) f.2.2.1 (List.append (α:=Int) ([]:gg) [ae zI g i]),aa .add .i64 h 1,()))) none) none) none) none) (some (.inr (.inl (b.1,b.2.1,c.1,c.2.1,d.1,d.2.1,d.2.2.1,f.1,f.2.1,f.2.2.1,()))))
noncomputable def Jy k x:=iter (xl k) big x
noncomputable def xh(a:u0×Xz)(b:YcY):Option (YcY⊕YbU):=letI c:=a.2.2;letI d:=b.2.2.2;letI e:=d.2.2.2;letI f:=e.2.2.2.1;cond (af .lss f c.2.1) (cond (ah c.1 f) ((Jy (a.1,a.2.1,ae zI c.1 f,c.1,c.2.1,f,a.2.1,ai a.2.1,()) (b.1,b.2.1,b.2.2.1,d.1,d.2.1,d.2.2.1,e.1,e.2.1,e.2.2.1,([]:gg),0,())).bind fun g=>Sum.elim (fun h=>letI i:=h.2.2.2;letI j:=i.2.2.2;cond (aE (List.append (α:=gg) j.1 (List.append (α:=gg) ([]:u0) [j.2.2.2.1]))) (some (.inl (h.1,h.2.1,h.2.2.1,i.1,i.2.1,i.2.2.1,List.append (α:=gg) j.1 (List.append (α:=gg) ([]:u0) [j.2.2.2.1]),j.2.1,j.2.2.1,aa .add .i64 f 1,()))) none) (fun h=>Empty.elim h) g) none) (some (.inr (.inl (b.1,b.2.1,b.2.2.1,d.1,d.2.1,d.2.2.1,e.1,e.2.1,e.2.2.1,()))))
noncomputable def Jx k x:=iter (xh k) big x
noncomputable def KY(a b c d e f g h i j k:Int)(l:Lc)(m:Nq)(n:Ld)(o:Km)(p:u0)(q:Int):Option YbA:=(mS a b c d e f g h i j k l m n o).bind fun r=>letI s:=(0:Int);letI t:=some (s,s,([]:u0),([]:Jo),([]:gg),false,());cond (Bool.not r.1) t (cond (af .neq (ai p) (aa .add .i64 (ai l) 1)) t ((Kv (p,q,a,b,c,d,e,f,g,h,i,j,k,l,m,n,o,p,ai p,()) (s,s,([]:u0),([]:Jo),s,())).bind fun u=>Sum.elim (fun v=>some (v.1,v.2.1,v.2.2.1,v.2.2.2.1,v.2.2.2.2.1,v.2.2.2.2.2.1,())) (fun v=>Sum.elim (fun w=>(Kw (p,q,a,b,c,d,e,f,g,h,i,j,k,l,m,n,o,l,ai l,()) (w.1,w.2.1,w.2.2.1,w.2.2.2.1,k,i,([]:u0),([]:Jo),([]:gg),List.append (α:=Int) ([]:gg) [s],s,())).bind fun x=>Sum.elim (fun y=>some (y.1,y.2.1,y.2.2.1,y.2.2.2.1,y.2.2.2.2.1,y.2.2.2.2.2.1,())) (fun y=>Sum.elim (fun z=>letI A:=z.2.2.2;letI B:=A.2.2.2;letI C:=B.2.2.2.1;(Jx (p,C,C,ai C,()) (z.1,z.2.1,z.2.2.1,A.1,A.2.1,A.2.2.1,B.1,B.2.1,B.2.2.1,s,())).bind fun D=>Sum.elim (fun E=>letI F:=E.2.2.2.2;letI G:=F.2.2;(H7 F.1 F.2.1 G.1 G.2.1).bind fun H=>cond (Bool.not H.1) t (some (F.1,F.2.1,G.1,G.2.1,G.2.2.1,true,()))) (fun E=>Empty.elim E) D) (fun z=>Empty.elim z) y) x) (fun w=>Empty.elim w) v) u))
end Go.Fn
set_option linter.unusedVariables false
set_option linter.unusedSimpArgs false
namespace Go.Fn
open Go.R
theorem RH(o c:List MA)(ho:o.length<=20)(hc:c.length<=20):∀(k:Nat) (n t:Int),t+(k:Int)=20000->0<=t->0<=n->n<=1125899906842624 ->
  ∃n' t' y,iter (ec (o,c,())) (k+1) (n,t,())=some (.inl (n',t',()))/\iter (g2 (o,c,())) (k+2) (n,t,())=some y/\((n'=0/\t<=t'/\t'<=20000/\y=.inl (t',true,()))\/(n'≠0/\y=.inr (.inl ())))
 |k,n,t,hk,h0,hn,hn'=>by
  have e1:af .leq t (20000:Int)=true:=by simp only[af,decide_eq_true_eq];omega
  by_cases hz:n=0
  ·subst hz;refine⟨0,t,.inl (t,true,()),ay ?_,ay ?_,.inl ⟨rfl,Int.le_refl _,by omega,rfl⟩⟩
   ·unfold ec;rfl
   ·unfold g2;refine(cT e1).trans ?_;rfl
  ·have g:af .gtr n (0:Int)=true:=by simp only[af,gt_iff_lt,decide_eq_true_eq];omega
   have z:af .eql n (0:Int)=false:=by simp only[af,decide_eq_false_iff_not,beq_eq_false_iff_ne,ne_eq];exact hz
   cases k with
   |zero=>
    have:t=20000:=by omega
    subst this;refine⟨n,20000,.inr (.inl ()),ay ?_,?_,.inr ⟨hz,rfl⟩⟩
    ·unfold ec;refine(cT g).trans ?_;rfl
    ·have s1:g2 (o,c,()) (n,20000,())=some (.inl (n,20001,())):=by
      unfold g2;refine(cT e1).trans ((cF z).trans ?_);rfl
     rw[aH s1];exact ay (by unfold g2;rfl)
   |succ k=>
    have l:af .lss t (20000:Int)=true:=by simp only[af,decide_eq_true_eq];omega
    have a:aa .add .i64 t 1=t+1:=Pt h0 (by omega);have b:aa .sub .i64 n 1=n-1:=bO (by omega) (by omega);cases hop:PO o c t with
    |true=>
     obtain⟨n',t',y,q1,q2,q3⟩:=RH o c ho hc k (n-1) (t+1) (by omega) (by omega) (by omega) (by omega);refine⟨n',t',y,?_,?_,q3.imp (fun q=>⟨q.1,by omega,q.2.2⟩) id⟩
     ·rw[aH (by unfold ec;simp only[g,l,cond_true,Lo t ho hc,hop,Option.bind_some,a,b];rfl)];exact q1
     ·rw[aH (by unfold g2;simp only[e1,z,l,cond_true,cond_false,PA t ho hc,hop,Option.bind_some,a,b];rfl)];exact q2
    |false=>
     obtain⟨n',t',y,q1,q2,q3⟩:=RH o c ho hc k n (t+1) (by omega) (by omega) (by omega) (by omega);refine⟨n',t',y,?_,?_,q3.imp (fun q=>⟨q.1,by omega,q.2.2⟩) id⟩
     ·rw[aH (by unfold ec;simp only[g,l,cond_true,Lo t ho hc,hop,Option.bind_some,a,b];rfl)];exact q1
     ·rw[aH (by unfold g2;simp only[e1,z,l,cond_true,cond_false,PA t ho hc,hop,Option.bind_some,a,b];rfl)];exact q2
end Go.Fn
set_option linter.unusedVariables false
namespace Go.Fn
open Go.R
noncomputable def Kf(a:Vx)(b:Xz):Option (Xz⊕Vx⊕Empty):=letI c:=b.2.2.1;letI d:=ae zI a.1 c;cond (af .lss c (ai a.1)) (cond (ah a.1 c) (cond (ah b.1 d) (cond (aE (List.append (α:=Int) b.2.1 (List.append (α:=Int) ([]:gg) [ae zI b.1 d]))) (some (.inl (b.1,List.append (α:=Int) b.2.1 (List.append (α:=Int) ([]:gg) [ae zI b.1 d]),aa .add .i64 c 1,()))) none) none) none) (some (.inr (.inl (b.2.1,()))))
noncomputable def Nh k x:=iter (Kf k) big x
noncomputable def Og(a b c d e f g h i j k:Int)(l:Lc)(m:Nq)(n:Ld)(o:Km)(p:u0)(q:Int):Option (gg×Vw):=(K7 a b c d e f g h i j k l m n o p q).bind fun r=>(K6 r.1 r.2.1 r.2.2.1 r.2.2.2.1).bind fun s=>cond (Bool.not r.2.2.2.2.2.1) (some (([]:gg),false,())) ((Nh (s.1,()) (r.2.2.2.2.1,([]:gg),0,())).bind fun t=>Sum.elim (fun u=>some (u.1,true,())) (fun u=>Empty.elim u) t)
noncomputable def JB(a:Cp)(b:gg×Xz):Option (gg×Xz⊕Vx⊕Empty):=letI c:=b.2.2.2.1;letI d:=ae zI b.2.2.1 c;cond (af .lss c a.1) (cond (ah b.2.2.1 c) (cond (ah b.1 d) (cond (aE (List.append (α:=Int) b.2.1 (List.append (α:=Int) ([]:gg) [ae zI b.1 d]))) (some (.inl (b.1,List.append (α:=Int) b.2.1 (List.append (α:=Int) ([]:gg) [ae zI b.1 d]),b.2.2.1,aa .add .i64 c 1,()))) none) none) none) (some (.inr (.inl (b.2.1,()))))
noncomputable def M2 k x:=iter (JB k) big x
noncomputable def Lh(a b c d e f g h i j k:Int)(l:Lc)(m:Nq)(n:Ld)(o:Km)(p:u0)(q:Int):Option (gg×Vw):=(KY a b c d e f g h i j k l m n o p q).bind fun r=>cond (Bool.not r.2.2.2.2.2.1) (some (([]:gg),false,())) ((KX r.1 r.2.1 r.2.2.1 r.2.2.2.1).bind fun s=>(M2 (ai s.1,()) (r.2.2.2.2.1,([]:gg),s.1,0,())).bind fun t=>Sum.elim (fun u=>some (u.1,true,())) (fun u=>Empty.elim u) t)
noncomputable def I7(a b c d e f g h i j k:Int)(l:Lc)(m:Nq)(n:Ld)(o:Km)(p:u0)(q:Int):oa:=(qW a b c d e f g h i j k l m n o 1048576).bind fun r=>letI s:=some (true,());cond (af .lss r.1 0) s ((Mr p r.1).bind fun t=>letI u:=J1 a b c d e f g h i j k l m n o;cond (af .lss t.1 0) s (u.bind fun v=>letI w:=Ms p;w.bind fun x=>letI y:=v.2.2.2.2;letI z:=y.2.2.2;letI A:=z.2.2.2.2;(Og v.1 v.2.1 v.2.2.1 v.2.2.2.1 y.1 y.2.1 y.2.2.1 z.1 z.2.1 z.2.2.1 z.2.2.2.1 A.1 A.2.1 A.2.2.1 A.2.2.2.1 x.1 q).bind fun B=>u.bind fun C=>w.bind fun D=>letI E:=C.2.2;letI F:=E.2.2;letI G:=F.2.2.2;letI H:=G.2.2;letI I:=H.2.2;letI J:=I.2.2;(Lh C.1 C.2.1 E.1 E.2.1 F.1 F.2.1 F.2.2.1 G.1 G.2.1 H.1 H.2.1 I.1 I.2.1 J.1 J.2.1 D.1 q).bind fun K=>(s3 K.1 B.1).bind fun L=>letI M:=some (false,());letI N:=Bool.not (bQ K.2.1 B.2.1);cond (Bool.not L.1) M (cond N M (u.bind fun O=>letI P:=O.2.2.2.2;letI Q:=P.2.2.2;letI R:=Q.2.2.2.2;(JG C.1 C.2.1 E.1 E.2.1 F.1 F.2.1 F.2.2.1 G.1 G.2.1 H.1 H.2.1 I.1 I.2.1 J.1 J.2.1 O.1 O.2.1 O.2.2.1 O.2.2.2.1 P.1 P.2.1 P.2.2.1 Q.1 Q.2.1 Q.2.2.1 Q.2.2.2.1 R.1 R.2.1 R.2.2.1 R.2.2.2.1).bind fun S=>cond (Bool.not S.1) M (w.bind fun T=>(Mo D.1 T.1).bind fun U=>cond (Bool.not U.1) M ((Ie C.1 C.2.1 E.1 E.2.1 F.1 F.2.1 F.2.2.1 G.1 G.2.1 H.1 H.2.1 I.1 I.2.1 J.1 J.2.1 1).bind fun V=>(JL D.1 V.1).bind fun W=>cond (af .lss W.1 0) M ((s3 K.1 B.1).bind fun X=>cond (Bool.not X.1) M (cond N M ((vm K.1 1).bind fun Y=>(IF Y.2.1 1).bind fun Z=>cond (af .lss Z.1 0) M (cond (af .neq Z.1 Y.1) M (u.bind fun a0=>w.bind fun a1=>letI a2:=a0.2.2.2.2;letI a3:=a2.2.2.2;letI a4:=a3.2.2.2.2;(Lh a0.1 a0.2.1 a0.2.2.1 a0.2.2.2.1 a2.1 a2.2.1 a2.2.2.1 a3.1 a3.2.1 a3.2.2.1 a3.2.2.2.1 a4.1 a4.2.1 a4.2.2.1 a4.2.2.2.1 a1.1 q).bind fun a5=>(s3 a5.1 B.1).bind fun a6=>cond (Bool.not a6.1) M (cond (Bool.not (bQ a5.2.1 B.2.1)) M ((IF Y.2.1 1).bind fun a7=>cond (af .lss a7.1 0) M (cond (af .neq a7.1 Y.1) M s))))))))))))))
end Go.Fn
set_option linter.unusedVariables false
set_option linter.unusedSimpArgs false
namespace Go.Fn
open Go.R
theorem M9{o c:List MA}(t n:Int)(h:vv o c=false):gy o c t n=some (0,false,()):=by unfold gy;simp only[Jl,h,Option.bind_some];rfl
theorem PR{o c:List MA}(t n:Int)(h:hG t 0 20000=false):gy o c t n=some (0,false,()):=by unfold gy;simp only[Jl,qB,h,Option.bind_some];cases vv o c <;> rfl
theorem We(o c:List MA)(t n:Int)(hn:n<=1125899906842624):Sm (fun r=>r.2.1=true->0<=t/\t<=r.1/\r.1<=20000) (gy o c t n) (p4 o c t n):=by
 cases hw:vv o c with
 |false=>rw[M9 t n hw];unfold p4;simp only[Ji,hw,Option.bind_some];cases af .lss n 0 <;> exact .ret fun h=>by cases h
 |true=>
  cases ht:hG t 0 20000 with
  |false=>rw[PR t n ht];unfold p4;simp only[Ji,hw,Iv,ht,Option.bind_some];cases af .lss n 0 <;> exact .ret fun h=>by cases h
  |true=>
   obtain⟨h0,h1⟩:=e7.1 ht;obtain⟨ho,hc⟩:=O6 hw;unfold gy p4;simp only[Jl,Ji,qB,Iv,hw,ht,Option.bind_some,Bool.not_true,cond_false];cases hl:af .lss n 0 with
   |true=>
    have hneg:n<0:=by simpa[af] using hl
    have:n4 (o,c,()) (n,t,())=some (.inl (n,t,())):=by refine bF (n:=1) (ay ?_) (Nat.le_of_lt (aT (by omega)));unfold ec;exact cF (by simp only[af,gt_iff_lt,decide_eq_false_iff_not];omega)
    rw[this];have z:af .neq n (0:Int)=true:=by simp only[af,bne_iff_ne,ne_eq];omega
    simp only[Option.bind_some,Sum.elim_inl,z,cond_true];exact .ret fun h=>by cases h
   |false=>
    have hpos:0<=n:=by
     have:¬n<0:=by simpa[af] using hl
     omega
    obtain⟨n',t',y,q1,q2,q3⟩:=RH o c ho hc (20000-t).toNat n t (by omega) h0 hpos hn;have e1:n4 (o,c,()) (n,t,())=some (.inl (n',t',())):=bF q1 (Nat.le_of_lt (aT (by omega)));have e2:Jr (o,c,()) (n,t,())=some y:=bF q2 (Nat.le_of_lt (aT (by omega)));rw[e1,e2];rcases q3 with ⟨rfl,b1,b2,rfl⟩|⟨hz,rfl⟩
    ·exact .ret fun _=>⟨h0,b1,b2⟩
    ·have z:af .neq n' (0:Int)=true:=by simp only[af,bne_iff_ne,ne_eq];exact hz
     simp only[cond_false,Option.bind_some,Sum.elim_inl,Sum.elim_inr,z,cond_true];exact .ret fun h=>by cases h
theorem Vf{a0 a1 a2 a3 a4 a5 a6 a7:Int}(h:Oh a0 a1 a2 a3 a4 a5 a6 a7=true):(1<=a0/\a0<=2000)/\(1<=a5/\a5<=2000)/\a7<=20:=by unfold Oh at h;simp only[WS,e7]at h;exact⟨h.1,h.2.2.1,h.2.2.2.2.2.2.2.2⟩
theorem Ug(o c:List MA)(a0 a1 a2 a3 a4 a5 a6 a7 t x:Int):Sm (fun r=>r.2.1=true->0<=t/\t<=r.1/\r.1<=20000) (I0 o c a0 a1 a2 a3 a4 a5 a6 a7 t x) (IM o c a0 a1 a2 a3 a4 a5 a6 a7 t x):=by
 unfold I0 IM;simp only[RG,OW,Ji,qB,ev,Iv,Option.bind_some];cases hT:Oh a0 a1 a2 a3 a4 a5 a6 a7 with
 |false=>cases vv o c <;> exact .ret fun h=>by cases h
 |true=>
  cases hx:hG x 0 a7 with
  |false=>cases vv o c <;> cases hG t 0 20000 <;> exact .ret fun h=>by cases h
  |true=>
   cases hw:vv o c with
   |false=>rw[M9 _ _ hw];exact .ret fun h=>by cases h
   |true=>
    cases ht:hG t 0 20000 with
    |false=>rw[PR _ _ ht];exact .ret fun h=>by cases h
    |true=>obtain⟨⟨k1,k2⟩,⟨l1,l2⟩,m2⟩:=Vf hT;obtain⟨x1,x2⟩:=e7.1 hx;have CL:0<=a5*x:=Int.mul_nonneg (by omega) x1;have CM:a5*x<=2000*20:=Int.mul_le_mul l2 (by omega) x1 (by omega);have e1:aa .mul .i64 a5 x=a5*x:=jw (by omega) (by omega);have e2:aa .add .i64 a0 (a5*x)=a0+a5*x:=bV (by omega) (by omega);simp only[Bool.not_true,cond_false,e1,e2];exact(We o c t (a0+a5*x) (by omega)).bind fun r hr=>.ret hr
theorem U8(o c:List MA)(a0 a1 a2 a3 a4 a5 a6 a7 t now x:Int):Sm Any (Kc o c a0 a1 a2 a3 a4 a5 a6 a7 t now x) (FI o c a0 a1 a2 a3 a4 a5 a6 a7 t now x):=by
 unfold Kc FI;refine(Ug o c a0 a1 a2 a3 a4 a5 a6 a7 t x).bind fun r hr=>?_;cases hb:r.2.1 with
 |false=>exact .ret trivial
 |true=>
  obtain⟨h1,h2,h3⟩:=hr hb;have e:aa .add .i64 r.1 1=r.1+1:=Pt (by omega) (by omega);simp only[cond_true,qB,Iv,Option.bind_some,e];cases hn:hG now 0 20000 with
  |true=>
   obtain⟨n1,n2⟩:=e7.1 hn;refine⟨(af .gtr now r.1,()),?_,rfl,trivial⟩;have:hG now (r.1+1) 20000=af .gtr now r.1:=by rw[Bool.eq_iff_iff,e7];simp only[af,gt_iff_lt,decide_eq_true_eq];omega
   rw[this]
  |false=>
   refine⟨(false,()),?_,rfl,trivial⟩;have:hG now (r.1+1) 20000=false:=by
    cases hq:hG now (r.1+1) 20000 with
    |false=>rfl
    |true=>have:=e7.1 hq;have:hG now 0 20000=true:=e7.2 ⟨by omega,by omega⟩;rw[this]at hn;cases hn
   rw[this]
noncomputable def Ns(o c:List MA)(x:Int):Bool:=bif vv o c then bif hG x 0 19999 then PO o c x else false else false
theorem VT(o c:List MA)(x:Int):Oc o c x=some (Ns o c x,()):=by
 unfold Oc Ns;simp only[Jl,qB,Option.bind_some];cases hw:vv o c with
 |false=>rfl
 |true=>obtain⟨ho,hc⟩:=O6 hw;simp only[Lo x ho hc,Option.bind_some,cond_true];cases hG x 0 19999 <;> rfl
theorem Tg(o c:List MA)(x:Int):Lg o c x=some (Ns o c x,()):=by
 unfold Lg Ns;simp only[Ji,ev,Option.bind_some];cases hw:vv o c with
 |false=>rfl
 |true=>obtain⟨ho,hc⟩:=O6 hw;simp only[PA x ho hc,Option.bind_some,cond_true];cases hG x 0 19999 <;> rfl
noncomputable def nh(o c:List MA):Nat->Int->Int
 |0,t=>t
 |k+1,t=>bif Ns o c t then t else nh o c k (t+1)
theorem Sx(o c:List MA):∀(k:Nat) (t:Int),t<=nh o c k t/\nh o c k t<=t+(k:Int)
 |0,t=>⟨Int.le_refl _,by simp[nh]⟩
 |k+1,t=>by have:=Sx o c k (t+1);unfold nh;cases Ns o c t <;> simp only[cond_true,cond_false] <;> omega
noncomputable def RJ(o c:List MA):Nat->Int->Int
 |0,e=>e
 |k+1,e=>bif Ns o c (e+1)then RJ o c k (e+1)else e
theorem W1{o c:List MA}{x:Int}(h:Ns o c x=true):x<=19999:=by
 unfold Ns at h;cases hw:vv o c with
 |false=>rw[hw]at h;cases h
 |true=>
  rw[hw]at h;cases hx:hG x 0 19999 with
  |false=>rw[hx]at h;cases h
  |true=>exact(e7.1 hx).2
theorem SN{X Y:Type}{body:X->Option (X⊕Y)}(o c:List MA)(st:Int->X)(fin:Int->Y)(hs:∀t,0<=t->t<20000->body (st t)=some (bif Ns o c t then .inr (fin t)else .inl (st (t+1))))(he:body (st 20000)=some (.inr (fin 20000))):∀(k:Nat) (t:Int),t+(k:Int)=20000->0<=t->iter body (k+1) (st t)=some (fin (nh o c k t))
 |0,t,hk,h0=>by
  obtain rfl:t=20000:=by omega
  exact ay he
 |k+1,t,hk,h0=>by
  have h:=hs t h0 (by omega);unfold nh;cases hop:Ns o c t with
  |true=>rw[hop]at h;exact ay h
  |false=>rw[hop]at h;rw[aH h];exact SN o c st fin hs he k (t+1) (by omega) (by omega)
theorem Ss{X Y:Type}{body:X->Option (X⊕Y)}(o c:List MA)(st:Int->X)(fin:Int->Y)(hs:∀t,0<=t->t<=20000->body (st t)=some (bif Ns o c (t+1)then .inl (st (t+1))else .inr (fin t))):∀(k:Nat) (t:Int),t+(k:Int)=20000->0<=t->iter body (k+1) (st t)=some (fin (RJ o c k t))
 |0,t,hk,h0=>by
  have h:=hs t h0 (by omega);have:Ns o c (t+1)=false:=by
   cases hq:Ns o c (t+1)with
   |false=>rfl
   |true=>have:=W1 hq;omega
  rw[this]at h;exact ay h
 |k+1,t,hk,h0=>by
  have h:=hs t h0 (by omega);unfold RJ;cases hop:Ns o c (t+1)with
  |false=>rw[hop]at h;exact ay h
  |true=>rw[hop]at h;rw[aH h];exact Ss o c st fin hs k (t+1) (by omega) (by omega)
theorem Wd(o c:List MA)(ho:o.length<=20)(hc:c.length<=20)(hw:vv o c=true):∀(k:Nat) (t:Int),t+(k:Int)=20000->0<=t ->
  iter (ec (o,c,())) (k+2) (1,t,())=some (.inl (bif decide (nh o c k t<20000)then(0,nh o c k t+1,())else(1,20000,())))
 |0,t,hk,h0=>by
  obtain rfl:t=20000:=by omega
  exact ay (by unfold ec;rfl)
 |k+1,t,hk,h0=>by
  have l:af .lss t (20000:Int)=true:=by simp only[af,decide_eq_true_eq];omega
  have a:aa .add .i64 t 1=t+1:=Pt h0 (by omega);have e:Ns o c t=PO o c t:=by unfold Ns;rw[hw,e7.2 ⟨h0,by omega⟩];rfl
  unfold nh;rw[e];cases hop:PO o c t with
  |true=>
   have s1:ec (o,c,()) (1,t,())=some (.inl (0,t+1,())):=by unfold ec;simp only[l,cond_true,Lo t ho hc,hop,Option.bind_some,a];rfl
   rw[aH s1,cond_true,show decide (t<20000)=true from decide_eq_true (by omega)];exact ay (by unfold ec;rfl)
  |false=>
   have s1:ec (o,c,()) (1,t,())=some (.inl (1,t+1,())):=by unfold ec;simp only[l,cond_true,Lo t ho hc,hop,Option.bind_some,a,cond_false];rfl
   rw[aH s1,cond_false];exact Wd o c ho hc hw k (t+1) (by omega) (by omega)
theorem Va(o c:List MA){t:Int}(h0:0<=t)(h1:t<=20000):gy o c t 1=some (bif decide (nh o c (20000-t).toNat t<20000)then(nh o c (20000-t).toNat t+1,true,())else(0,false,())):=by
 cases hw:vv o c with
 |false=>
  rw[M9 t 1 hw];have:∀(k:Nat) (t:Int),nh o c k t=t+(k:Int):=by
   intro k;induction k with
   |zero=>intro t;simp[nh]
   |succ k ih=>
    intro t;have e:Ns o c t=false:=by unfold Ns;rw[hw];rfl
    simp only[nh,e,cond_false,ih];omega
  rw[this,decide_eq_false (by omega)];rfl
 |true=>obtain⟨ho,hc⟩:=O6 hw;unfold gy;simp only[Jl,qB,hw,e7.2 ⟨h0,h1⟩,Option.bind_some,Bool.not_true,cond_false];have e1:n4 (o,c,()) (1,t,())=_:=bF (Wd o c ho hc hw (20000-t).toNat t (by omega) h0) (Nat.le_of_lt (aT (by omega)));rw[e1];cases decide (nh o c (20000-t).toNat t<20000) <;> rfl
end Go.Fn
set_option linter.unusedVariables false
set_option linter.unusedSimpArgs false
namespace Go.Fn
open Go.R
section
variable (a0 a1 a2 a3 a4 a5 a6 a7 a8 a9 a10:Int) (s:List Site) (p:List Si) (g:List SX) (j:List Ev)
noncomputable def Ya(x:Site)(q:Si):Bool:=match FI x.1 x.2.1 a0 a1 a2 a3 a4 a5 a6 a7 q.2.2.2.2.1 a10 q.2.2.2.2.2.1 with|some r=>r.1|none=>false
theorem WA(x:Site)(q:Si):Kc x.1 x.2.1 a0 a1 a2 a3 a4 a5 a6 a7 q.2.2.2.2.1 a10 q.2.2.2.2.2.1=some (Ya a0 a1 a2 a3 a4 a5 a6 a7 a10 x q,())/\FI x.1 x.2.1 a0 a1 a2 a3 a4 a5 a6 a7 q.2.2.2.2.1 a10 q.2.2.2.2.2.1=some (Ya a0 a1 a2 a3 a4 a5 a6 a7 a10 x q,()):=by
 obtain⟨r,e1,e2,_⟩:=U8 x.1 x.2.1 a0 a1 a2 a3 a4 a5 a6 a7 q.2.2.2.2.1 a10 q.2.2.2.2.2.1;have:Ya a0 a1 a2 a3 a4 a5 a6 a7 a10 x q=r.1:=by unfold Ya;rw[e2]
 rw[this];exact⟨e1,e2⟩
noncomputable def XV(i:Int)(acc:Int)(q:Si):Int:=bif af .eql q.2.2.2.1 1 then bif af .eql q.2.2.1 i then aa .add .i64 acc q.1 else acc else acc
noncomputable def XY(x:Site)(i:Int)(acc:Int)(q:Si):Int:=bif af .eql q.2.2.2.1 3 then bif af .eql q.2.2.1 i then bif Ya a0 a1 a2 a3 a4 a5 a6 a7 a10 x q then aa .add .i64 acc q.1 else acc else acc else acc
theorem UW(i:Int)(hp:p.length<=1048576):I4 a0 a1 a2 a3 a4 a5 a6 a7 a8 a9 a10 s p g j i=some (p.foldl (XV i) 0,()):=by
 unfold I4;have:=(cL (body:=tt (i,a0,a1,a2,a3,a4,a5,a6,a7,a8,a9,a10,s,p,g,j,())) p bf (by omega) (XV i) (fun acc n=>(acc,(n:Int),())) (fun _ _=>True) (fun acc=>.inl (acc,())) (fun n acc hn _=>⟨?_,trivial⟩) (fun acc _=>?_) 0 trivial).1
 ·have e:Jg (i,a0,a1,a2,a3,a4,a5,a6,a7,a8,a9,a10,s,p,g,j,()) (0,0,())=_:=this;rw[e];rfl
 ·unfold tt XV;simp only[aj,az,hn,decide_true,cond_true,aq,av (n:=n) (by omega)];cases af .eql (p.getD n bf).2.2.2.1 1 <;> cases af .eql (p.getD n bf).2.2.1 i <;> rfl
 ·unfold tt;simp only[aj,Nat.lt_irrefl,decide_false,cond_false]
theorem U0{i:Nat}(hi:i<s.length)(hp:p.length<=1048576):I5 a0 a1 a2 a3 a4 a5 a6 a7 a8 a9 a10 s p g j (i:Int)=some (p.foldl (XY a0 a1 a2 a3 a4 a5 a6 a7 a10 (s.getD i aS) (i:Int)) 0,()):=by
 unfold I5;have:=(cL (body:=tv ((i:Int),a0,a1,a2,a3,a4,a5,a6,a7,a8,a9,a10,s,p,g,j,())) p bf (by omega) (XY a0 a1 a2 a3 a4 a5 a6 a7 a10 (s.getD i aS) (i:Int)) (fun acc n=>(acc,(n:Int),())) (fun _ _=>True) (fun acc=>.inl (acc,())) (fun n acc hn _=>⟨?_,trivial⟩) (fun acc _=>?_) 0 trivial).1
 ·have e:Jh ((i:Int),a0,a1,a2,a3,a4,a5,a6,a7,a8,a9,a10,s,p,g,j,()) (0,0,())=_:=this;rw[e];rfl
 ·unfold tv XY;have hv:=(WA a0 a1 a2 a3 a4 a5 a6 a7 a10 (s.getD i aS) (p.getD n bf)).1;simp only[aj,az,hn,hi,decide_true,cond_true,aq,av (n:=n) (by omega),hv,Option.bind_some];cases af .eql (p.getD n bf).2.2.2.1 3 <;> cases af .eql (p.getD n bf).2.2.1 (i:Int) <;> cases Ya a0 a1 a2 a3 a4 a5 a6 a7 a10 (s.getD i aS) (p.getD n bf) <;> rfl
 ·unfold tv;simp only[aj,Nat.lt_irrefl,decide_false,cond_false]
variable (lg:List (List Int)) (wk:Int) (z0 z1:Int) (zg:List (List Int)) (zs:List Mg) (b r:Int) (L:List (List Int)) (S:List Mg) (I Pl:List Int)
theorem Sy{α:Type}(f h:Int->α->Int):∀(l:List α) (a b:Int),l.foldl (fun(q:Int×Int) x=>(f q.1 x,h q.2 x)) (a,b)=(l.foldl f a,l.foldl h b)
 | [],_,_=>rfl
 |x::l,a,b=>Sy f h l (f a x) (h b x)
theorem X5{i:Nat}(x:Site)(hp:p.length<=1048576):
  Kx (lg,wk,a0,a1,a2,a3,a4,a5,a6,a7,a8,a9,a10,s,p,g,j,(i:Int),s,ai s,(i:Int),p,ai p,()) (z0,z1,zg,zs,b,r,L,S,I,Pl,x.1,x.2.1,x.2.2.1,x.2.2.2.1,x.2.2.2.2.1,x.2.2.2.2.2.1,x.2.2.2.2.2.2.1,x.2.2.2.2.2.2.2.1,x.2.2.2.2.2.2.2.2.1,x.2.2.2.2.2.2.2.2.2.1,x.2.2.2.2.2.2.2.2.2.2,0,0,0,())
   = some (.inl (z0,z1,zg,zs,b,r,L,S,I,Pl,x.1,x.2.1,x.2.2.1,x.2.2.2.1,x.2.2.2.2.1,x.2.2.2.2.2.1,x.2.2.2.2.2.2.1,x.2.2.2.2.2.2.2.1,x.2.2.2.2.2.2.2.2.1,x.2.2.2.2.2.2.2.2.2.1,x.2.2.2.2.2.2.2.2.2.2,p.foldl (XV (i:Int)) 0,p.foldl (XY a0 a1 a2 a3 a4 a5 a6 a7 a10 x (i:Int)) 0,())):=by
 have:=(cL (body:=HY (lg,wk,a0,a1,a2,a3,a4,a5,a6,a7,a8,a9,a10,s,p,g,j,(i:Int),s,ai s,(i:Int),p,ai p,())) p bf (by omega) (fun(q:Int×Int) c=>(XV (i:Int) q.1 c,XY a0 a1 a2 a3 a4 a5 a6 a7 a10 x (i:Int) q.2 c)) (fun acc n=>(z0,z1,zg,zs,b,r,L,S,I,Pl,x.1,x.2.1,x.2.2.1,x.2.2.2.1,x.2.2.2.2.1,x.2.2.2.2.2.1,x.2.2.2.2.2.2.1,x.2.2.2.2.2.2.2.1,x.2.2.2.2.2.2.2.2.1,x.2.2.2.2.2.2.2.2.2.1,x.2.2.2.2.2.2.2.2.2.2,acc.1,acc.2,(n:Int),())) (fun _ _=>True) (fun acc=>.inl (z0,z1,zg,zs,b,r,L,S,I,Pl,x.1,x.2.1,x.2.2.1,x.2.2.2.1,x.2.2.2.2.1,x.2.2.2.2.2.1,x.2.2.2.2.2.2.1,x.2.2.2.2.2.2.2.1,x.2.2.2.2.2.2.2.2.1,x.2.2.2.2.2.2.2.2.2.1,x.2.2.2.2.2.2.2.2.2.2,acc.1,acc.2,())) (fun n acc hn _=>⟨?_,trivial⟩) (fun acc _=>?_) (0,0) trivial).1
 ·rw[Sy]at this;exact this
 ·unfold HY;have hv:=(WA a0 a1 a2 a3 a4 a5 a6 a7 a10 x (p.getD n bf)).2;dsimp only;simp only[aj,az,hn,decide_true,cond_true,aq,av (n:=n) (by omega),hv,Option.bind_some,aV];have en:af .neq (p.getD n bf).2.2.1 (i:Int)=Bool.not (af .eql (p.getD n bf).2.2.1 (i:Int)):=rfl;rw[en];unfold XV XY;cases h1:af .eql (p.getD n bf).2.2.1 (i:Int)with
  |false=>cases af .eql (p.getD n bf).2.2.2.1 1 <;> cases af .eql (p.getD n bf).2.2.2.1 3 <;> rfl
  |true=>
   cases h2:af .eql (p.getD n bf).2.2.2.1 1 with
   |false=>cases af .eql (p.getD n bf).2.2.2.1 3 <;> cases Ya a0 a1 a2 a3 a4 a5 a6 a7 a10 x (p.getD n bf) <;> rfl
   |true=>
    have h3:af .eql (p.getD n bf).2.2.2.1 3=false:=by simp only[af,beq_iff_eq]at h2;simp only[af,h2];rfl
    rw[h3];rfl
 ·unfold HY;simp only[aj,Nat.lt_irrefl,decide_false,cond_false]
theorem VG{i:Nat}(x:Site)(br fe t:Int)(h0:0<=t)(h1:t<=20000):
  H6 (lg,wk,a0,a1,a2,a3,a4,a5,a6,a7,a8,a9,a10,s,p,g,j,(i:Int),br,fe,s,ai s,(i:Int),()) (z0,z1,zg,zs,b,r,L,S,I,Pl,x.1,x.2.1,x.2.2.1,x.2.2.2.1,x.2.2.2.2.1,x.2.2.2.2.2.1,x.2.2.2.2.2.2.1,x.2.2.2.2.2.2.2.1,x.2.2.2.2.2.2.2.2.1,x.2.2.2.2.2.2.2.2.2.1,x.2.2.2.2.2.2.2.2.2.2,t,())
   = some (.inl (z0,z1,zg,zs,b,r,L,S,I,Pl,x.1,x.2.1,x.2.2.1,x.2.2.2.1,x.2.2.2.2.1,x.2.2.2.2.2.1,x.2.2.2.2.2.2.1,x.2.2.2.2.2.2.2.1,x.2.2.2.2.2.2.2.2.1,x.2.2.2.2.2.2.2.2.2.1,x.2.2.2.2.2.2.2.2.2.2,nh x.1 x.2.1 (20000-t).toNat t,())):=by
 unfold H6;refine bF (SN (body:=HZ (lg,wk,a0,a1,a2,a3,a4,a5,a6,a7,a8,a9,a10,s,p,g,j,(i:Int),br,fe,s,ai s,(i:Int),())) x.1 x.2.1 (fun t=>(z0,z1,zg,zs,b,r,L,S,I,Pl,x.1,x.2.1,x.2.2.1,x.2.2.2.1,x.2.2.2.2.1,x.2.2.2.2.2.1,x.2.2.2.2.2.2.1,x.2.2.2.2.2.2.2.1,x.2.2.2.2.2.2.2.2.1,x.2.2.2.2.2.2.2.2.2.1,x.2.2.2.2.2.2.2.2.2.2,t,())) (fun t=>.inl (z0,z1,zg,zs,b,r,L,S,I,Pl,x.1,x.2.1,x.2.2.1,x.2.2.2.1,x.2.2.2.2.1,x.2.2.2.2.2.1,x.2.2.2.2.2.2.1,x.2.2.2.2.2.2.2.1,x.2.2.2.2.2.2.2.2.1,x.2.2.2.2.2.2.2.2.2.1,x.2.2.2.2.2.2.2.2.2.2,t,())) (fun t t0 t1=>?_) ?_ (20000-t).toNat t (by omega) h0) (Nat.le_of_lt (aT (by omega)))
 ·unfold HZ;dsimp only;rw[show af .lss t 20000=true by simp only[af,decide_eq_true_eq];omega,Tg,Pt t0 (by omega)];cases Ns x.1 x.2.1 t <;> rfl
 ·unfold HZ;rfl
theorem WX{i:Nat}(x:Site)(br fe st t:Int)(h0:0<=t)(h1:t<=20000):
  qx (lg,wk,a0,a1,a2,a3,a4,a5,a6,a7,a8,a9,a10,s,p,g,j,(i:Int),br,fe,st,s,ai s,(i:Int),()) (z0,z1,zg,zs,b,r,L,S,I,Pl,x.1,x.2.1,x.2.2.1,x.2.2.2.1,x.2.2.2.2.1,x.2.2.2.2.2.1,x.2.2.2.2.2.2.1,x.2.2.2.2.2.2.2.1,x.2.2.2.2.2.2.2.2.1,x.2.2.2.2.2.2.2.2.2.1,x.2.2.2.2.2.2.2.2.2.2,t,())
   = some (.inl (z0,z1,zg,zs,b,r,L,S,I,Pl,RJ x.1 x.2.1 (20000-t).toNat t,())):=by
 unfold qx;refine bF (Ss (body:=Ku (lg,wk,a0,a1,a2,a3,a4,a5,a6,a7,a8,a9,a10,s,p,g,j,(i:Int),br,fe,st,s,ai s,(i:Int),())) x.1 x.2.1 (fun t=>(z0,z1,zg,zs,b,r,L,S,I,Pl,x.1,x.2.1,x.2.2.1,x.2.2.2.1,x.2.2.2.2.1,x.2.2.2.2.2.1,x.2.2.2.2.2.2.1,x.2.2.2.2.2.2.2.1,x.2.2.2.2.2.2.2.2.1,x.2.2.2.2.2.2.2.2.2.1,x.2.2.2.2.2.2.2.2.2.2,t,())) (fun t=>.inl (z0,z1,zg,zs,b,r,L,S,I,Pl,t,())) (fun t t0 t1=>?_) (20000-t).toNat t (by omega) h0) (Nat.le_of_lt (aT (by omega)));unfold Ku;dsimp only;rw[Tg,Pt t0 (by omega)];cases Ns x.1 x.2.1 (t+1) <;> rfl
theorem Xg{i:Nat}(hi:i<s.length)(br fe st t w:Int)(h0:0<=t)(h1:t<=20000):
  r5 (lg,wk,a0,a1,a2,a3,a4,a5,a6,a7,a8,a9,a10,s,p,g,j,(i:Int),()) (z0,z1,zg,zs,b,r,L,S,I,Pl,st,t,w,br,fe,())
   = some (.inl (z0,z1,zg,zs,b,r,L,S,I,Pl,st,RJ (s.getD i aS).1 (s.getD i aS).2.1 (20000-t).toNat t,w,br,fe,())):=by
 unfold r5;refine bF (Ss (body:=KM (lg,wk,a0,a1,a2,a3,a4,a5,a6,a7,a8,a9,a10,s,p,g,j,(i:Int),())) (s.getD i aS).1 (s.getD i aS).2.1 (fun t=>(z0,z1,zg,zs,b,r,L,S,I,Pl,st,t,w,br,fe,())) (fun t=>.inl (z0,z1,zg,zs,b,r,L,S,I,Pl,st,t,w,br,fe,())) (fun t t0 t1=>?_) (20000-t).toNat t (by omega) h0) (Nat.le_of_lt (aT (by omega)));unfold KM;dsimp only;rw[az,aq,VT,Pt t0 (by omega),decide_eq_true hi];cases Ns (s.getD i aS).1 (s.getD i aS).2.1 (t+1) <;> rfl
end
end Go.Fn
set_option linter.unusedVariables false
set_option linter.unusedSimpArgs false
namespace Go.Fn
open Go.R
section
variable (a0 a1 a2 a3 a4 a5 a6 a7 a8 a9 a10:Int) (s:List Site) (p:List Si) (g:List SX) (j:List Ev)
variable (lg:List (List Int)) (wk:Int)
abbrev RfX:=Int×Int×List (List Int)×List Mg×Int×Int×List (List Int)×List Mg×List Int×List Int×Int×Unit
noncomputable def S4(n:Nat)(S:List Mg)(I Pl:List Int):Prop:=S.length<=n/\I.length<=n/\1<=Pl.length/\Pl.length<=n+1/\(∀q∈Pl,0<=q/\q<=(n:Int))/\I.length=S.length
theorem VO{n:Nat}{S:List Mg}{I Pl:List Int}(h:S4 n S I Pl):S4 (n+1) S I Pl:=⟨by have:=h.1;omega,by have:=h.2.1;omega,h.2.2.1,by have:=h.2.2.2.1;omega,fun q hq=>by have:=h.2.2.2.2.1 q hq;omega,h.2.2.2.2.2⟩
theorem VP{n:Nat}{S:List Mg}{I Pl:List Int}(h:S4 n S I Pl)(x:Mg):S4 (n+1) (S++[x]) (I++[(n:Int)]) (Pl++[((n+1:Nat):Int)]):=by
 obtain⟨h1,h2,h3,h4,h5,h6⟩:=h;refine⟨by simp;omega,by simp;omega,by simp,by simp;omega,fun q hq=>?_,by simp;omega⟩;rcases List.mem_append.1 hq with hq|hq
 ·have:=h5 q hq;omega
 ·rw[List.mem_singleton]at hq;omega
theorem VS(z0 z1:Int)(zg:List (List Int))(zs:List Mg)(b r:Int)(L:List (List Int))(S:List Mg)(I Pl:List Int){n:Nat}(hn:n<s.length)(hs:s.length<=1048576)(hp:p.length<=1048576)(ht:0<=a10/\a10<=20000)(hok:S4 n S I Pl):
  Sm (fun y=>match y with| .inl y=>∃S' I' XH,y=(z0,z1,zg,zs,b,r,L,S',I',XH,((n+1:Nat):Int),())/\S4 (n+1) S' I' XH| .inr (.inl y)=>y=(0,0,[],[],[],false,())| .inr (.inr _)=>False)
   (r4 (lg,wk,a0,a1,a2,a3,a4,a5,a6,a7,a8,a9,a10,s,p,g,j,()) (z0,z1,zg,zs,b,r,L,S,I,Pl,(n:Int),()))
   (qk (lg,wk,a0,a1,a2,a3,a4,a5,a6,a7,a8,a9,a10,s,p,g,j,s,ai s,()) (z0,z1,zg,zs,b,r,L,S,I,Pl,(n:Int),())):=by
 obtain⟨q1,q2,q3,q4,q5⟩:=hok;have hok:S4 n S I Pl:=⟨q1,q2,q3,q4,q5⟩
 have hB:=UW a0 a1 a2 a3 a4 a5 a6 a7 a8 a9 a10 s p g j (n:Int) hp;have hF:=U0 a0 a1 a2 a3 a4 a5 a6 a7 a8 a9 a10 s p g j hn hp;have hL:=X5 a0 a1 a2 a3 a4 a5 a6 a7 a8 a9 a10 s p g j lg wk z0 z1 zg zs b r L S I Pl (i:=n) (s.getD n aS) hp;have hSt:=fun br fe=>VG a0 a1 a2 a3 a4 a5 a6 a7 a8 a9 a10 s p g j lg wk z0 z1 zg zs b r L S I Pl (i:=n) (s.getD n aS) br fe a10 ht.1 ht.2;have hA:=Va (s.getD n aS).1 (s.getD n aS).2.1 ht.1 ht.2;have hbd:=Sx (s.getD n aS).1 (s.getD n aS).2.1 (20000-a10).toNat a10;generalize p.foldl (XV (n:Int)) 0=br at hB hL;generalize p.foldl (XY a0 a1 a2 a3 a4 a5 a6 a7 a10 (s.getD n aS) (n:Int)) 0=fe at hF hL;have hSt:=hSt br fe;generalize nh (s.getD n aS).1 (s.getD n aS).2.1 (20000-a10).toNat a10=t at hA hSt hbd;have ht0:0<=t:=by omega
 have ht1:t<=20000:=by omega
 have Ga:=Xg a0 a1 a2 a3 a4 a5 a6 a7 a8 a9 a10 s p g j lg wk z0 z1 zg zs b r L S I Pl hn br fe t t wk ht0 ht1;have hE2:=WX a0 a1 a2 a3 a4 a5 a6 a7 a8 a9 a10 s p g j lg wk z0 z1 zg zs b r L S I Pl (i:=n) (s.getD n aS) br fe t t ht0 ht1;generalize RJ (s.getD n aS).1 (s.getD n aS).2.1 (20000-t).toNat t=e at Ga hE2;have m1:aE (S++[(t,e,wk,br,fe)])=true:=kx (by simp;omega);have m2:aE (I++[(n:Int)])=true:=kx (by simp;omega);have m3:aE (Pl++[((n+1:Nat):Int)])=true:=kx (by simp;omega);have e1:aa .sub .i64 (t+1) 1=t:=by rw[bO (by omega) (by omega)];omega
 have e2:af .eql t (20000:Int)=Bool.not (decide (t<20000)):=by
  cases hd:decide (t<20000)with
  |true=>simp only[af,Bool.not_true,beq_eq_false_iff_ne,ne_eq];have:=of_decide_eq_true hd;omega
  |false=>have:=of_decide_eq_false hd;simp only[af,Bool.not_false,beq_iff_eq];omega
 have ap:∀ {α:Type} (l m:List α),List.append l m=l++m:=fun _ _=>rfl;unfold r4 qk;dsimp only;simp only[aj,az,hn,decide_true,cond_true,aq,av (n:=n) (by omega),hB,hF,hL,hA,Option.bind_some,Sum.elim_inl,hSt,e2,ap,List.nil_append];have key:Sm (fun(y:RfX⊕((Int×Int×List (List Int)×List Mg×List Int×Bool×Unit)⊕((Int×Int×List (List Int)×List Mg×Int×Int×List (List Int)×List Mg×List Int×List Int×Unit)⊕Empty)))=>match y with| .inl y=>∃S' I' XH,y=(z0,z1,zg,zs,b,r,L,S',I',XH,((n+1:Nat):Int),())/\S4 (n+1) S' I' XH| .inr (.inl y)=>y=(0,0,[],[],[],false,())| .inr (.inr _)=>False) (some (.inl (z0,z1,zg,zs,b,r,L,S++[(t,e,wk,br,fe)],I++[(n:Int)],Pl++[((n+1:Nat):Int)],((n+1:Nat):Int),()))) (some (.inl (z0,z1,zg,zs,b,r,L,S++[(t,e,wk,br,fe)],I++[(n:Int)],Pl++[((n+1:Nat):Int)],((n+1:Nat):Int),()))):=.ret ⟨_,_,_,rfl,VP hok _⟩;refine .cond (fun _=>.cond (fun _=>.ret ⟨_,_,_,rfl,VO hok⟩) fun _=>?_) fun _=>?_;all_goals
  cases hd:decide (t<20000)with
  |false=>exact .ret rfl
  |true=>simp only[cond_true,cond_false,Bool.not_true,e1,Ga,hE2,Option.bind_some,Sum.elim_inl,m1,m2,m3,aV];exact key
end
end Go.Fn

