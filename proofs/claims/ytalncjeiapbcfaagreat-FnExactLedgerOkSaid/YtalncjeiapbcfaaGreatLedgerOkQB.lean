import Derived.Test.YtalncjeiapbcfaaGreatLedgerOkQA
/- Plain functions that stand for Go functions, and what they answer. Conditions: none. -/
set_option autoImplicit false
set_option linter.unusedVariables false
set_option linter.unusedSimpArgs false
set_option linter.unusedVariables false
namespace Go.Fn
open Go.R
noncomputable def Od(a:Uq)(b:U2):Zl:=cond (af .lss b.2.1 (ai a.1)) (cond (ah a.1 b.2.1) (cond (af .eql (ae bf a.1 b.2.1).2.2.2.2.1 a.2.1) (cond (aE (List.append (α:=Int) b.1 (List.append (α:=Int) ([]:O1) [a.2.1]))) (some (.inr (.inl (List.append (α:=Int) b.1 (List.append (α:=Int) ([]:O1) [a.2.1]),())))) none) (some (.inl (b.1,aa .add .i64 b.2.1 1,())))) none) (some (.inr (.inl (b.1,()))))
noncomputable def Qz k x:=iter (Od k) big x
noncomputable def Mf(a:Z5)(b:U2):Zl:=cond (af .leq b.2.1 999) ((Ld a.1).bind fun c=>cond c.1 ((Qz (a.1,b.2.1,()) (b.1,0,())).bind fun d=>Sum.elim (fun e=>some (.inl (e.1,aa .add .i64 b.2.1 1,()))) (fun e=>Empty.elim e) d) (some (.inr (.inl (b.1,()))))) (some (.inr (.inl (b.1,()))))
noncomputable def Qy k x:=iter (Mf k) big x
noncomputable def SR(a:MA):XZ:=(Qy (a,()) (([]:O1),1,())).bind fun b=>Sum.elim (fun c=>some (c.1,())) (fun c=>Empty.elim c) b
noncomputable def rp(a b:Int):NV:=(M0 a).bind fun c=>letI d:=some (af .lss a b,());cond c.1 ((M0 b).bind fun e=>cond (Bool.not e.1) (some (true,())) d) d
noncomputable def LH(a:YbG)(b:U2):Zl:=letI c:=b.1;letI d:=b.2.1;letI e:=ah c d;letI f:=aa .sub .i64 d 1;letI g:=ae zI c f;cond (af .gtr d a.1) (cond e (cond (ah c f) ((rp (ae zI c d) g).bind fun h=>cond h.1 (cond (ah c f) (cond e (cond e (cond (ah (aC c d g) f) (some (.inl (aC (aC c d g) f (ae zI c d),f,()))) none) none) none) none) (some (.inr (.inl (c,()))))) none) none) (some (.inr (.inl (c,()))))
noncomputable def KH k x:=iter (LH k) big x
noncomputable def LG(a:Tg)(b:U2):Zl:=cond (af .lss b.2.1 a.2.1) ((KH (a.1,a.2.1,b.2.1,()) (b.1,b.2.1,())).bind fun c=>Sum.elim (fun d=>some (.inl (d.1,aa .add .i64 b.2.1 1,()))) (fun d=>Empty.elim d) c) (some (.inr (.inl (b.1,()))))
noncomputable def KG k x:=iter (LG k) big x
noncomputable def K0(a:O1)(b c:Int):XZ:=(KG (b,c,()) (a,aa .add .i64 b 1,())).bind fun d=>Sum.elim (fun e=>some (e.1,())) (fun e=>Empty.elim e) d
noncomputable def Mz(a:Tg)(b:U2):Option (U2⊕YbJ⊕YbX):=letI c:=b.1;letI d:=(c,());letI e:=aa .add .i64 a.2.1 b.2.1;letI f:=ah c e;letI g:=aa .add .i64 (aa .mul .i64 2 b.2.1) 1;letI h:=ae zI c e;letI i:=aa .add .i64 g 1;letI j:=aa .add .i64 a.2.1 g;letI k:=ah c j;letI l:=ae zI c j;letI m:=aa .add .i64 j 1;letI n:=aC c e l;cond (af .geq g a.1) (some (.inr (.inl d))) (cond (af .lss i a.1) (cond k (cond (ah c m) ((rp l (ae zI c m)).bind fun o=>letI p:=aa .add .i64 a.2.1 i;cond o.1 (cond f (cond (ah c p) ((rp h (ae zI c p)).bind fun q=>cond (Bool.not q.1) (some (.inr (.inr (.inl d)))) (cond (ah c p) (cond f (cond f (lets (aC c e (ae zI c p)) fun r=>cond (ah r p) (lets (aC r p h) fun s=>some (.inl (s,i,()))) none) none) none) none)) none) none) (cond f (cond k ((rp h l).bind fun q=>cond (Bool.not q.1) (some (.inr (.inr (.inl d)))) (cond k (cond f (cond f (cond (ah n j) (lets (aC n j h) fun r=>some (.inl (r,g,()))) none) none) none) none)) none) none)) none) none) (cond f (cond k ((rp h l).bind fun o=>cond (Bool.not o.1) (some (.inr (.inr (.inl d)))) (cond k (cond f (cond f (cond (ah n j) (lets (aC n j h) fun p=>some (.inl (p,g,()))) none) none) none) none)) none) none))
noncomputable def Lm k x:=iter (Mz k) big x
noncomputable def K1(a:O1)(b c d:Int):XZ:=(Lm (c,d,()) (a,b,())).bind fun e=>Sum.elim (fun f=>some (f.1,())) (fun f=>Sum.elim (fun g=>some (g.1,())) (fun g=>Empty.elim g) f) e
noncomputable def Mx(a:YbG)(b:U2):Zl:=cond (af .geq b.2.1 0) ((K1 b.1 b.2.1 a.2.2.1 a.1).bind fun c=>some (.inl (c.1,aa .sub .i64 b.2.1 1,()))) (some (.inr (.inl (b.1,()))))
noncomputable def Lk k x:=iter (Mx k) big x
noncomputable def My(a:Tg)(b:U2):Zl:=letI c:=aa .add .i64 a.1 b.2.1;letI d:=aC b.1 a.1 (ae zI b.1 c);cond (af .geq b.2.1 0) (cond (ah b.1 c) (cond (ah b.1 a.1) (cond (ah b.1 a.1) (cond (ah d c) ((K1 (aC d c (ae zI b.1 a.1)) a.2.1 b.2.1 a.1).bind fun e=>some (.inl (e.1,aa .sub .i64 b.2.1 1,()))) none) none) none) none) (some (.inr (.inl (b.1,()))))
noncomputable def Ll k x:=iter (My k) big x
noncomputable def LX(a:O1)(b c:Int):XZ:=letI d:=aa .sub .i64 c b;letI e:=aa .sub .i64 d 1;cond (ax 2) none ((Lk (b,0,d,()) (a,aa .quo .i64 e 2,())).bind fun f=>Sum.elim (fun g=>(Ll (b,0,()) (g.1,e,())).bind fun h=>Sum.elim (fun i=>some (i.1,())) (fun i=>Empty.elim i) h) (fun g=>Empty.elim g) f)
noncomputable def LF(a:YbG)(b:YbN):Option (YbN⊕YbX):=letI c:=b.1;letI d:=b.2.2.1;cond (ax 4) none (cond (af .leq d (aa .add .i64 (aa .add .i64 a.1 (aa .mul .i64 (aa .quo .i64 a.2.1 4) 2)) 1)) ((__slices_xorshift__Next b.2.1).bind fun e=>letI f:=ah c d;letI g:=aa .add .i64 d 1;letI h:=ak .i64 (aa .and .u64 e.1 (aa .sub .u64 a.2.2.1 1));letI i:=aa .add .i64 a.1 h;letI j:=aa .add .i64 a.1 (aa .sub .i64 h a.2.1);letI k:=aC c d (ae zI c i);letI l:=aC c d (ae zI c j);cond (af .geq h a.2.1) (cond (ah c j) (cond f (cond f (cond (ah l j) (lets (aC l j (ae zI c d)) fun m=>some (.inl (m,e.2.1,g,()))) none) none) none) none) (cond (ah c i) (cond f (cond f (cond (ah k i) (lets (aC k i (ae zI c d)) fun m=>some (.inl (m,e.2.1,g,()))) none) none) none) none)) (some (.inr (.inl (c,())))))
noncomputable def KF k x:=iter (LF k) big x
noncomputable def KZ(a:O1)(b c:Int):XZ:=letI d:=aa .sub .i64 c b;cond (af .geq d 8) ((KV d).bind fun e=>cond (ax 4) none ((KF (b,d,e.1,()) (a,ak .u64 d,aa .sub .i64 (aa .add .i64 b (aa .mul .i64 (aa .quo .i64 d 4) 2)) 1,())).bind fun f=>Sum.elim (fun g=>some (g.1,())) (fun g=>Empty.elim g) f)) (some (a,()))
noncomputable def KM(a:O1)(b c d:Int):Option YbG:=cond (ah a c) (cond (ah a b) ((rp (ae zI a c) (ae zI a b)).bind fun e=>cond e.1 (some (c,b,aa .add .i64 d 1,())) (some (b,c,d,()))) none) none
noncomputable def KL(a:O1)(b c d e:Int):YbQ:=(KM a b c e).bind fun f=>(KM a f.2.1 d f.2.2.1).bind fun g=>(KM a f.1 g.1 g.2.2.1).bind fun h=>some (h.2.1,h.2.2.1,())
noncomputable def JI(a:O1)(b c:Int):YbQ:=(KL a (aa .sub .i64 b 1) b (aa .add .i64 b 1) c).bind fun d=>some (d.1,d.2.1,())
noncomputable def Kz(a:O1)(b c:Int):YbQ:=letI d:=(0:Int);letI e:=ax 4;letI f:=aa .sub .i64 c b;letI g:=aa .quo .i64 f 4;letI h:=aa .add .i64 b (aa .mul .i64 g 2);letI i:=aa .add .i64 b (aa .mul .i64 g 1);letI j:=aa .add .i64 b (aa .mul .i64 g 3);cond e none (cond e none (cond e none (cond (af .geq f 8) (cond (af .geq f 50) ((JI a i d).bind fun k=>(JI a h k.2.1).bind fun l=>(JI a j l.2.1).bind fun m=>(KL a k.1 l.1 m.1 m.2.1).bind fun n=>cond (af .eql n.2.1 d) (some (n.1,1,())) (cond (af .eql n.2.1 12) (some (n.1,2,())) (some (n.1,d,())))) ((KL a i h j d).bind fun k=>cond (af .eql k.2.1 d) (some (k.1,1,())) (cond (af .eql k.2.1 12) (some (k.1,2,())) (some (k.1,d,()))))) (cond (af .eql d d) (some (h,1,())) (cond (af .eql d 12) (some (h,2,())) (some (h,d,())))))))
noncomputable def LU(a:Unit)(b:YbN):Option (YbN⊕YbX):=letI c:=b.2.1;letI d:=b.2.2.1;letI e:=aC b.1 c (ae zI b.1 d);cond (af .lss c d) (cond (ah b.1 d) (cond (ah b.1 c) (cond (ah b.1 c) (cond (ah e d) (some (.inl (aC e d (ae zI b.1 c),aa .add .i64 c 1,aa .sub .i64 d 1,()))) none) none) none) none) (some (.inr (.inl (b.1,()))))
noncomputable def KS k x:=iter (LU k) big x
noncomputable def Kq(a:O1)(b c:Int):XZ:=(KS () (a,b,aa .sub .i64 c 1,())).bind fun d=>Sum.elim (fun e=>some (e.1,())) (fun e=>Empty.elim e) d
noncomputable def KP(a:YbG)(b:U2):YbC:=letI c:=b.2.1;letI d:=aa .sub .i64 c 1;cond (af .lss c a.2.1) (cond (ah b.1 c) (cond (ah b.1 d) ((rp (ae zI b.1 c) (ae zI b.1 d)).bind fun e=>cond (Bool.not e.1) (some (.inl (b.1,aa .add .i64 c 1,()))) (some (.inr (.inl (b.1,c,()))))) none) none) (some (.inr (.inl (b.1,c,()))))
noncomputable def JT k x:=iter (KP k) big x
noncomputable def KQ(a:YcG)(b:U2):Zl:=letI c:=b.1;letI d:=b.2.1;letI e:=ah c d;letI f:=aa .sub .i64 d 1;letI g:=ae zI c f;cond (af .geq d 1) (cond e (cond (ah c f) ((rp (ae zI c d) g).bind fun h=>cond (Bool.not h.1) (some (.inr (.inl (c,())))) (cond (ah c f) (cond e (cond e (cond (ah (aC c d g) f) (some (.inl (aC (aC c d g) f (ae zI c d),f,()))) none) none) none) none)) none) none) (some (.inr (.inl (c,()))))
noncomputable def JU k x:=iter (KQ k) big x
noncomputable def KR(a:YcG)(b:U2):Zl:=letI c:=b.1;letI d:=b.2.1;letI e:=ah c d;letI f:=aa .sub .i64 d 1;letI g:=ae zI c f;cond (af .lss d a.2.1) (cond e (cond (ah c f) ((rp (ae zI c d) g).bind fun h=>cond (Bool.not h.1) (some (.inr (.inl (c,())))) (cond (ah c f) (cond e (cond e (cond (ah (aC c d g) f) (some (.inl (aC (aC c d g) f (ae zI c d),aa .add .i64 d 1,()))) none) none) none) none)) none) none) (some (.inr (.inl (c,()))))
noncomputable def Jg k x:=iter (KR k) big x
noncomputable def KO(a:Tg)(b:YbN):Option (YbN⊕O1×Zm⊕YbX):=letI c:=a.2.1;letI d:=b.2.2.1;cond (af .lss d 5) ((JT (a.1,c,d,()) (b.1,b.2.1,())).bind fun e=>Sum.elim (fun f=>letI g:=f.1;letI h:=f.2.1;letI i:=aa .sub .i64 h 1;letI j:=aa .add .i64 h 1;letI k:=aa .add .i64 d 1;letI l:=(a.1,c,h,d,());letI m:=af .geq (aa .sub .i64 c h) 2;letI n:=aC g h (ae zI g i);letI o:=aC n i (ae zI g h);cond (af .eql h c) (some (.inr (.inl (g,true,())))) (cond (af .lss (aa .sub .i64 c a.1) 50) (some (.inr (.inl (g,false,())))) (cond (ah g i) (cond (ah g h) (cond (ah g h) (cond (ah n i) (cond (af .geq (aa .sub .i64 h a.1) 2) ((JU l (o,i,())).bind fun p=>Sum.elim (fun q=>cond m ((Jg l (q.1,j,())).bind fun r=>Sum.elim (fun s=>some (.inl (s.1,h,k,()))) (fun s=>Empty.elim s) r) (some (.inl (q.1,h,k,())))) (fun q=>Empty.elim q) p) (cond m ((Jg l (o,j,())).bind fun p=>Sum.elim (fun q=>some (.inl (q.1,h,k,()))) (fun q=>Empty.elim q) p) (some (.inl (o,h,k,()))))) none) none) none) none))) (fun f=>Empty.elim f) e) (some (.inr (.inr (.inl (b.1,())))))
noncomputable def JS k x:=iter (KO k) big x
noncomputable def Is(a:O1)(b c:Int):Option (Bool×YbJ):=(JS (b,c,()) (a,aa .add .i64 b 1,0,())).bind fun d=>Sum.elim (fun e=>some (e.2.1,e.1,())) (fun e=>Sum.elim (fun f=>some (false,f.1,())) (fun f=>Empty.elim f) e) d
noncomputable def Ls(a:Tg)(b:U2):YbC:=letI c:=b.2.1;cond (af .leq c a.2.1) (cond (ah b.1 a.1) (cond (ah b.1 c) ((rp (ae zI b.1 a.1) (ae zI b.1 c)).bind fun d=>cond (Bool.not d.1) (some (.inl (b.1,aa .add .i64 c 1,()))) (some (.inr (.inl (b.1,c,()))))) none) none) (some (.inr (.inl (b.1,c,()))))
noncomputable def Kv k x:=iter (Ls k) big x
noncomputable def Lt(a:Tg)(b:U2):YbC:=letI c:=b.2.1;cond (af .leq a.2.1 c) (cond (ah b.1 a.1) (cond (ah b.1 c) ((rp (ae zI b.1 a.1) (ae zI b.1 c)).bind fun d=>cond d.1 (some (.inl (b.1,aa .sub .i64 c 1,()))) (some (.inr (.inl (b.1,c,()))))) none) none) (some (.inr (.inl (b.1,c,()))))
noncomputable def Kw k x:=iter (Lt k) big x
noncomputable def Lr(a:Px)(b:YbN):YbE:=(Kv (a.1,b.2.2.1,()) (b.1,b.2.1,())).bind fun c=>Sum.elim (fun d=>letI e:=d.2.1;(Kw (a.1,e,()) (d.1,b.2.2.1,())).bind fun f=>Sum.elim (fun g=>letI h:=g.2.1;letI i:=aC g.1 e (ae zI g.1 h);cond (af .gtr e h) (some (.inr (.inl (g.1,e,())))) (cond (ah g.1 h) (cond (ah g.1 e) (cond (ah g.1 e) (cond (ah i h) (some (.inl (aC i h (ae zI g.1 e),aa .add .i64 e 1,aa .sub .i64 h 1,()))) none) none) none) none)) (fun g=>Empty.elim g) f) (fun d=>Empty.elim d) c
noncomputable def Ku k x:=iter (Lr k) big x
noncomputable def hD(a:O1)(b c d:Int):Option (Int×YbJ):=letI e:=aC a b (ae zI a d);cond (ah a d) (cond (ah a b) (cond (ah a b) (cond (ah e d) ((Ku (b,()) (aC e d (ae zI a b),aa .add .i64 b 1,aa .sub .i64 c 1,())).bind fun f=>Sum.elim (fun g=>some (g.2.1,g.1,())) (fun g=>Empty.elim g) f) none) none) none) none
noncomputable def Mn(a:Tg)(b:U2):YbC:=letI c:=b.2.1;cond (af .leq c a.2.1) (cond (ah b.1 c) (cond (ah b.1 a.1) ((rp (ae zI b.1 c) (ae zI b.1 a.1)).bind fun d=>cond d.1 (some (.inl (b.1,aa .add .i64 c 1,()))) (some (.inr (.inl (b.1,c,()))))) none) none) (some (.inr (.inl (b.1,c,()))))
noncomputable def K4 k x:=iter (Mn k) big x
noncomputable def Mo(a:Tg)(b:U2):YbC:=letI c:=b.2.1;cond (af .leq a.2.1 c) (cond (ah b.1 c) (cond (ah b.1 a.1) ((rp (ae zI b.1 c) (ae zI b.1 a.1)).bind fun d=>cond (Bool.not d.1) (some (.inl (b.1,aa .sub .i64 c 1,()))) (some (.inr (.inl (b.1,c,()))))) none) none) (some (.inr (.inl (b.1,c,()))))
noncomputable def K5 k x:=iter (Mo k) big x
noncomputable def Mq(a:Tg)(b:U2):YbC:=letI c:=b.2.1;cond (af .leq c a.2.1) (cond (ah b.1 c) (cond (ah b.1 a.1) ((rp (ae zI b.1 c) (ae zI b.1 a.1)).bind fun d=>cond d.1 (some (.inl (b.1,aa .add .i64 c 1,()))) (some (.inr (.inl (b.1,c,()))))) none) none) (some (.inr (.inl (b.1,c,()))))
noncomputable def K7 k x:=iter (Mq k) big x
noncomputable def Mr(a:Tg)(b:U2):YbC:=letI c:=b.2.1;cond (af .leq a.2.1 c) (cond (ah b.1 c) (cond (ah b.1 a.1) ((rp (ae zI b.1 c) (ae zI b.1 a.1)).bind fun d=>cond (Bool.not d.1) (some (.inl (b.1,aa .sub .i64 c 1,()))) (some (.inr (.inl (b.1,c,()))))) none) none) (some (.inr (.inl (b.1,c,()))))
noncomputable def K8 k x:=iter (Mr k) big x
noncomputable def Mp(a:Px)(b:YbN):YbE:=(K7 (a.1,b.2.2.1,()) (b.1,b.2.1,())).bind fun c=>Sum.elim (fun d=>letI e:=d.2.1;(K8 (a.1,e,()) (d.1,b.2.2.1,())).bind fun f=>Sum.elim (fun g=>letI h:=g.2.1;letI i:=aC g.1 e (ae zI g.1 h);cond (af .gtr e h) (some (.inr (.inl (g.1,h,())))) (cond (ah g.1 h) (cond (ah g.1 e) (cond (ah g.1 e) (cond (ah i h) (some (.inl (aC i h (ae zI g.1 e),aa .add .i64 e 1,aa .sub .i64 h 1,()))) none) none) none) none)) (fun g=>Empty.elim g) f) (fun d=>Empty.elim d) c
noncomputable def K6 k x:=iter (Mp k) big x
noncomputable def b8(a:O1)(b c d:Int):Option (Int×Bool×YbJ):=letI e:=aa .sub .i64 c 1;letI f:=aC a b (ae zI a d);cond (ah a d) (cond (ah a b) (cond (ah a b) (cond (ah f d) ((K4 (b,e,()) (aC f d (ae zI a b),aa .add .i64 b 1,())).bind fun g=>Sum.elim (fun h=>letI i:=h.2.1;(K5 (b,i,()) (h.1,e,())).bind fun j=>Sum.elim (fun k=>letI l:=k.1;letI m:=k.2.1;letI n:=ah l m;letI o:=ae zI l m;letI p:=aC l m (ae zI l b);cond (af .gtr i m) (cond (ah l b) (cond n (cond n (cond (ah p b) (some (m,true,aC p b o,())) none) none) none) none) (cond n (cond (ah l i) (cond (ah l i) (cond (ah (aC l i o) m) ((K6 (b,()) (aC (aC l i o) m (ae zI l i),aa .add .i64 i 1,aa .sub .i64 m 1,())).bind fun q=>Sum.elim (fun r=>letI s:=r.2.1;letI t:=aC r.1 s (ae zI r.1 b);cond (ah r.1 b) (cond (ah r.1 s) (cond (ah r.1 s) (cond (ah t b) (some (s,false,aC t b (ae zI r.1 s),())) none) none) none) none) (fun r=>Empty.elim r) q) none) none) none) none)) (fun k=>Empty.elim k) j) (fun h=>Empty.elim h) g) none) none) none) none
noncomputable def MG(rec:(List (Int))->Int->Int->Int->Option ((List (Int))×Unit))(k:Unit)(x:(List (Int))×Int×Int×Int×Bool×Bool×Unit):Option (((List (Int))×Int×Int×Int×Bool×Bool×Unit)⊕((List (Int))×Unit⊕Empty)):=(bif (af .leq (aa .sub .i64 x.2.2.1 x.2.1) (12:Int))then((K0 x.1 x.2.1 x.2.2.1).bind fun y0=>some (.inr (.inl (y0.1,()))))else(bif (af .eql x.2.2.2.1 (0:Int))then((LX x.1 x.2.1 x.2.2.1).bind fun y0=>some (.inr (.inl (y0.1,()))))else(bif (Bool.not x.2.2.2.2.1)then((KZ x.1 x.2.1 x.2.2.1).bind fun y0=>((Kz y0.1 x.2.1 x.2.2.1).bind fun y1=>(bif (af .eql y1.2.1 (2:Int))then((Kq y0.1 x.2.1 x.2.2.1).bind fun y2=>(bif x.2.2.2.2.1 then(bif x.2.2.2.2.2.1 then(bif (af .eql (1:Int) (1:Int))then((Is y2.1 x.2.1 x.2.2.1).bind fun y3=>(bif y3.1 then some (.inr (.inl (y3.2.1,())))else(bif (af .gtr x.2.1 (0:Int))then(bif (ah y3.2.1 (aa .sub .i64 x.2.1 (1:Int)))then(bif (ah y3.2.1 (aa .sub .i64 (aa .sub .i64 x.2.2.1 (1:Int)) (aa .sub .i64 y1.1 x.2.1)))then((rp (ae zI y3.2.1 (aa .sub .i64 x.2.1 (1:Int))) (ae zI y3.2.1 (aa .sub .i64 (aa .sub .i64 x.2.2.1 (1:Int)) (aa .sub .i64 y1.1 x.2.1)))).bind fun y4=>(bif (Bool.not y4.1)then((hD y3.2.1 x.2.1 x.2.2.1 (aa .sub .i64 (aa .sub .i64 x.2.2.1 (1:Int)) (aa .sub .i64 y1.1 x.2.1))).bind fun y5=>some (.inl (y5.2.1,y5.1,x.2.2.1,(aa .sub .i64 x.2.2.2.1 (1:Int)),x.2.2.2.2.1,x.2.2.2.2.2.1,())))else((b8 y3.2.1 x.2.1 x.2.2.1 (aa .sub .i64 (aa .sub .i64 x.2.2.1 (1:Int)) (aa .sub .i64 y1.1 x.2.1))).bind fun y5=>(bif (ax (8:Int))then none else(bif (af .lss (aa .sub .i64 y5.1 x.2.1) (aa .sub .i64 x.2.2.1 y5.1))then((rec y5.2.2.1 x.2.1 y5.1 (aa .sub .i64 x.2.2.2.1 (1:Int))).bind fun y6=>some (.inl (y6.1,(aa .add .i64 y5.1 (1:Int)),x.2.2.1,(aa .sub .i64 x.2.2.2.1 (1:Int)),(af .geq (aa .sub .i64 y5.1 x.2.1) (aa .quo .i64 (aa .sub .i64 x.2.2.1 x.2.1) (8:Int))),y5.2.1,())))else((rec y5.2.2.1 (aa .add .i64 y5.1 (1:Int)) x.2.2.1 (aa .sub .i64 x.2.2.2.1 (1:Int))).bind fun y6=>some (.inl (y6.1,x.2.1,y5.1,(aa .sub .i64 x.2.2.2.1 (1:Int)),(af .geq (aa .sub .i64 x.2.2.1 y5.1) (aa .quo .i64 (aa .sub .i64 x.2.2.1 x.2.1) (8:Int))),y5.2.1,()))))))))else none)else none)else((b8 y3.2.1 x.2.1 x.2.2.1 (aa .sub .i64 (aa .sub .i64 x.2.2.1 (1:Int)) (aa .sub .i64 y1.1 x.2.1))).bind fun y4=>(bif (ax (8:Int))then none else(bif (af .lss (aa .sub .i64 y4.1 x.2.1) (aa .sub .i64 x.2.2.1 y4.1))then((rec y4.2.2.1 x.2.1 y4.1 (aa .sub .i64 x.2.2.2.1 (1:Int))).bind fun y5=>some (.inl (y5.1,(aa .add .i64 y4.1 (1:Int)),x.2.2.1,(aa .sub .i64 x.2.2.2.1 (1:Int)),(af .geq (aa .sub .i64 y4.1 x.2.1) (aa .quo .i64 (aa .sub .i64 x.2.2.1 x.2.1) (8:Int))),y4.2.1,())))else((rec y4.2.2.1 (aa .add .i64 y4.1 (1:Int)) x.2.2.1 (aa .sub .i64 x.2.2.2.1 (1:Int))).bind fun y5=>some (.inl (y5.1,x.2.1,y4.1,(aa .sub .i64 x.2.2.2.1 (1:Int)),(af .geq (aa .sub .i64 x.2.2.1 y4.1) (aa .quo .i64 (aa .sub .i64 x.2.2.1 x.2.1) (8:Int))),y4.2.1,())))))))))else(bif (af .gtr x.2.1 (0:Int))then(bif (ah y2.1 (aa .sub .i64 x.2.1 (1:Int)))then(bif (ah y2.1 (aa .sub .i64 (aa .sub .i64 x.2.2.1 (1:Int)) (aa .sub .i64 y1.1 x.2.1)))then((rp (ae zI y2.1 (aa .sub .i64 x.2.1 (1:Int))) (ae zI y2.1 (aa .sub .i64 (aa .sub .i64 x.2.2.1 (1:Int)) (aa .sub .i64 y1.1 x.2.1)))).bind fun y3=>(bif (Bool.not y3.1)then((hD y2.1 x.2.1 x.2.2.1 (aa .sub .i64 (aa .sub .i64 x.2.2.1 (1:Int)) (aa .sub .i64 y1.1 x.2.1))).bind fun y4=>some (.inl (y4.2.1,y4.1,x.2.2.1,(aa .sub .i64 x.2.2.2.1 (1:Int)),x.2.2.2.2.1,x.2.2.2.2.2.1,())))else((b8 y2.1 x.2.1 x.2.2.1 (aa .sub .i64 (aa .sub .i64 x.2.2.1 (1:Int)) (aa .sub .i64 y1.1 x.2.1))).bind fun y4=>(bif (ax (8:Int))then none else(bif (af .lss (aa .sub .i64 y4.1 x.2.1) (aa .sub .i64 x.2.2.1 y4.1))then((rec y4.2.2.1 x.2.1 y4.1 (aa .sub .i64 x.2.2.2.1 (1:Int))).bind fun y5=>some (.inl (y5.1,(aa .add .i64 y4.1 (1:Int)),x.2.2.1,(aa .sub .i64 x.2.2.2.1 (1:Int)),(af .geq (aa .sub .i64 y4.1 x.2.1) (aa .quo .i64 (aa .sub .i64 x.2.2.1 x.2.1) (8:Int))),y4.2.1,())))else((rec y4.2.2.1 (aa .add .i64 y4.1 (1:Int)) x.2.2.1 (aa .sub .i64 x.2.2.2.1 (1:Int))).bind fun y5=>some (.inl (y5.1,x.2.1,y4.1,(aa .sub .i64 x.2.2.2.1 (1:Int)),(af .geq (aa .sub .i64 x.2.2.1 y4.1) (aa .quo .i64 (aa .sub .i64 x.2.2.1 x.2.1) (8:Int))),y4.2.1,()))))))))else none)else none)else((b8 y2.1 x.2.1 x.2.2.1 (aa .sub .i64 (aa .sub .i64 x.2.2.1 (1:Int)) (aa .sub .i64 y1.1 x.2.1))).bind fun y3=>(bif (ax (8:Int))then none else(bif (af .lss (aa .sub .i64 y3.1 x.2.1) (aa .sub .i64 x.2.2.1 y3.1))then((rec y3.2.2.1 x.2.1 y3.1 (aa .sub .i64 x.2.2.2.1 (1:Int))).bind fun y4=>some (.inl (y4.1,(aa .add .i64 y3.1 (1:Int)),x.2.2.1,(aa .sub .i64 x.2.2.2.1 (1:Int)),(af .geq (aa .sub .i64 y3.1 x.2.1) (aa .quo .i64 (aa .sub .i64 x.2.2.1 x.2.1) (8:Int))),y3.2.1,())))else((rec y3.2.2.1 (aa .add .i64 y3.1 (1:Int)) x.2.2.1 (aa .sub .i64 x.2.2.2.1 (1:Int))).bind fun y4=>some (.inl (y4.1,x.2.1,y3.1,(aa .sub .i64 x.2.2.2.1 (1:Int)),(af .geq (aa .sub .i64 x.2.2.1 y3.1) (aa .quo .i64 (aa .sub .i64 x.2.2.1 x.2.1) (8:Int))),y3.2.1,()))))))))else(bif (af .gtr x.2.1 (0:Int))then(bif (ah y2.1 (aa .sub .i64 x.2.1 (1:Int)))then(bif (ah y2.1 (aa .sub .i64 (aa .sub .i64 x.2.2.1 (1:Int)) (aa .sub .i64 y1.1 x.2.1)))then((rp (ae zI y2.1 (aa .sub .i64 x.2.1 (1:Int))) (ae zI y2.1 (aa .sub .i64 (aa .sub .i64 x.2.2.1 (1:Int)) (aa .sub .i64 y1.1 x.2.1)))).bind fun y3=>(bif (Bool.not y3.1)then((hD y2.1 x.2.1 x.2.2.1 (aa .sub .i64 (aa .sub .i64 x.2.2.1 (1:Int)) (aa .sub .i64 y1.1 x.2.1))).bind fun y4=>some (.inl (y4.2.1,y4.1,x.2.2.1,(aa .sub .i64 x.2.2.2.1 (1:Int)),x.2.2.2.2.1,x.2.2.2.2.2.1,())))else((b8 y2.1 x.2.1 x.2.2.1 (aa .sub .i64 (aa .sub .i64 x.2.2.1 (1:Int)) (aa .sub .i64 y1.1 x.2.1))).bind fun y4=>(bif (ax (8:Int))then none else(bif (af .lss (aa .sub .i64 y4.1 x.2.1) (aa .sub .i64 x.2.2.1 y4.1))then((rec y4.2.2.1 x.2.1 y4.1 (aa .sub .i64 x.2.2.2.1 (1:Int))).bind fun y5=>some (.inl (y5.1,(aa .add .i64 y4.1 (1:Int)),x.2.2.1,(aa .sub .i64 x.2.2.2.1 (1:Int)),(af .geq (aa .sub .i64 y4.1 x.2.1) (aa .quo .i64 (aa .sub .i64 x.2.2.1 x.2.1) (8:Int))),y4.2.1,())))else((rec y4.2.2.1 (aa .add .i64 y4.1 (1:Int)) x.2.2.1 (aa .sub .i64 x.2.2.2.1 (1:Int))).bind fun y5=>some (.inl (y5.1,x.2.1,y4.1,(aa .sub .i64 x.2.2.2.1 (1:Int)),(af .geq (aa .sub .i64 x.2.2.1 y4.1) (aa .quo .i64 (aa .sub .i64 x.2.2.1 x.2.1) (8:Int))),y4.2.1,()))))))))else none)else none)else((b8 y2.1 x.2.1 x.2.2.1 (aa .sub .i64 (aa .sub .i64 x.2.2.1 (1:Int)) (aa .sub .i64 y1.1 x.2.1))).bind fun y3=>(bif (ax (8:Int))then none else(bif (af .lss (aa .sub .i64 y3.1 x.2.1) (aa .sub .i64 x.2.2.1 y3.1))then((rec y3.2.2.1 x.2.1 y3.1 (aa .sub .i64 x.2.2.2.1 (1:Int))).bind fun y4=>some (.inl (y4.1,(aa .add .i64 y3.1 (1:Int)),x.2.2.1,(aa .sub .i64 x.2.2.2.1 (1:Int)),(af .geq (aa .sub .i64 y3.1 x.2.1) (aa .quo .i64 (aa .sub .i64 x.2.2.1 x.2.1) (8:Int))),y3.2.1,())))else((rec y3.2.2.1 (aa .add .i64 y3.1 (1:Int)) x.2.2.1 (aa .sub .i64 x.2.2.2.1 (1:Int))).bind fun y4=>some (.inl (y4.1,x.2.1,y3.1,(aa .sub .i64 x.2.2.2.1 (1:Int)),(af .geq (aa .sub .i64 x.2.2.1 y3.1) (aa .quo .i64 (aa .sub .i64 x.2.2.1 x.2.1) (8:Int))),y3.2.1,()))))))))else(bif (af .gtr x.2.1 (0:Int))then(bif (ah y2.1 (aa .sub .i64 x.2.1 (1:Int)))then(bif (ah y2.1 (aa .sub .i64 (aa .sub .i64 x.2.2.1 (1:Int)) (aa .sub .i64 y1.1 x.2.1)))then((rp (ae zI y2.1 (aa .sub .i64 x.2.1 (1:Int))) (ae zI y2.1 (aa .sub .i64 (aa .sub .i64 x.2.2.1 (1:Int)) (aa .sub .i64 y1.1 x.2.1)))).bind fun y3=>(bif (Bool.not y3.1)then((hD y2.1 x.2.1 x.2.2.1 (aa .sub .i64 (aa .sub .i64 x.2.2.1 (1:Int)) (aa .sub .i64 y1.1 x.2.1))).bind fun y4=>some (.inl (y4.2.1,y4.1,x.2.2.1,(aa .sub .i64 x.2.2.2.1 (1:Int)),x.2.2.2.2.1,x.2.2.2.2.2.1,())))else((b8 y2.1 x.2.1 x.2.2.1 (aa .sub .i64 (aa .sub .i64 x.2.2.1 (1:Int)) (aa .sub .i64 y1.1 x.2.1))).bind fun y4=>(bif (ax (8:Int))then none else(bif (af .lss (aa .sub .i64 y4.1 x.2.1) (aa .sub .i64 x.2.2.1 y4.1))then((rec y4.2.2.1 x.2.1 y4.1 (aa .sub .i64 x.2.2.2.1 (1:Int))).bind fun y5=>some (.inl (y5.1,(aa .add .i64 y4.1 (1:Int)),x.2.2.1,(aa .sub .i64 x.2.2.2.1 (1:Int)),(af .geq (aa .sub .i64 y4.1 x.2.1) (aa .quo .i64 (aa .sub .i64 x.2.2.1 x.2.1) (8:Int))),y4.2.1,())))else((rec y4.2.2.1 (aa .add .i64 y4.1 (1:Int)) x.2.2.1 (aa .sub .i64 x.2.2.2.1 (1:Int))).bind fun y5=>some (.inl (y5.1,x.2.1,y4.1,(aa .sub .i64 x.2.2.2.1 (1:Int)),(af .geq (aa .sub .i64 x.2.2.1 y4.1) (aa .quo .i64 (aa .sub .i64 x.2.2.1 x.2.1) (8:Int))),y4.2.1,()))))))))else none)else none)else((b8 y2.1 x.2.1 x.2.2.1 (aa .sub .i64 (aa .sub .i64 x.2.2.1 (1:Int)) (aa .sub .i64 y1.1 x.2.1))).bind fun y3=>(bif (ax (8:Int))then none else(bif (af .lss (aa .sub .i64 y3.1 x.2.1) (aa .sub .i64 x.2.2.1 y3.1))then((rec y3.2.2.1 x.2.1 y3.1 (aa .sub .i64 x.2.2.2.1 (1:Int))).bind fun y4=>some (.inl (y4.1,(aa .add .i64 y3.1 (1:Int)),x.2.2.1,(aa .sub .i64 x.2.2.2.1 (1:Int)),(af .geq (aa .sub .i64 y3.1 x.2.1) (aa .quo .i64 (aa .sub .i64 x.2.2.1 x.2.1) (8:Int))),y3.2.1,())))else((rec y3.2.2.1 (aa .add .i64 y3.1 (1:Int)) x.2.2.1 (aa .sub .i64 x.2.2.2.1 (1:Int))).bind fun y4=>some (.inl (y4.1,x.2.1,y3.1,(aa .sub .i64 x.2.2.2.1 (1:Int)),(af .geq (aa .sub .i64 x.2.2.1 y3.1) (aa .quo .i64 (aa .sub .i64 x.2.2.1 x.2.1) (8:Int))),y3.2.1,())))))))))else(bif x.2.2.2.2.1 then(bif x.2.2.2.2.2.1 then(bif (af .eql y1.2.1 (1:Int))then((Is y0.1 x.2.1 x.2.2.1).bind fun y2=>(bif y2.1 then some (.inr (.inl (y2.2.1,())))else(bif (af .gtr x.2.1 (0:Int))then(bif (ah y2.2.1 (aa .sub .i64 x.2.1 (1:Int)))then(bif (ah y2.2.1 y1.1)then((rp (ae zI y2.2.1 (aa .sub .i64 x.2.1 (1:Int))) (ae zI y2.2.1 y1.1)).bind fun y3=>(bif (Bool.not y3.1)then((hD y2.2.1 x.2.1 x.2.2.1 y1.1).bind fun y4=>some (.inl (y4.2.1,y4.1,x.2.2.1,(aa .sub .i64 x.2.2.2.1 (1:Int)),x.2.2.2.2.1,x.2.2.2.2.2.1,())))else((b8 y2.2.1 x.2.1 x.2.2.1 y1.1).bind fun y4=>(bif (ax (8:Int))then none else(bif (af .lss (aa .sub .i64 y4.1 x.2.1) (aa .sub .i64 x.2.2.1 y4.1))then((rec y4.2.2.1 x.2.1 y4.1 (aa .sub .i64 x.2.2.2.1 (1:Int))).bind fun y5=>some (.inl (y5.1,(aa .add .i64 y4.1 (1:Int)),x.2.2.1,(aa .sub .i64 x.2.2.2.1 (1:Int)),(af .geq (aa .sub .i64 y4.1 x.2.1) (aa .quo .i64 (aa .sub .i64 x.2.2.1 x.2.1) (8:Int))),y4.2.1,())))else((rec y4.2.2.1 (aa .add .i64 y4.1 (1:Int)) x.2.2.1 (aa .sub .i64 x.2.2.2.1 (1:Int))).bind fun y5=>some (.inl (y5.1,x.2.1,y4.1,(aa .sub .i64 x.2.2.2.1 (1:Int)),(af .geq (aa .sub .i64 x.2.2.1 y4.1) (aa .quo .i64 (aa .sub .i64 x.2.2.1 x.2.1) (8:Int))),y4.2.1,()))))))))else none)else none)else((b8 y2.2.1 x.2.1 x.2.2.1 y1.1).bind fun y3=>(bif (ax (8:Int))then none else(bif (af .lss (aa .sub .i64 y3.1 x.2.1) (aa .sub .i64 x.2.2.1 y3.1))then((rec y3.2.2.1 x.2.1 y3.1 (aa .sub .i64 x.2.2.2.1 (1:Int))).bind fun y4=>some (.inl (y4.1,(aa .add .i64 y3.1 (1:Int)),x.2.2.1,(aa .sub .i64 x.2.2.2.1 (1:Int)),(af .geq (aa .sub .i64 y3.1 x.2.1) (aa .quo .i64 (aa .sub .i64 x.2.2.1 x.2.1) (8:Int))),y3.2.1,())))else((rec y3.2.2.1 (aa .add .i64 y3.1 (1:Int)) x.2.2.1 (aa .sub .i64 x.2.2.2.1 (1:Int))).bind fun y4=>some (.inl (y4.1,x.2.1,y3.1,(aa .sub .i64 x.2.2.2.1 (1:Int)),(af .geq (aa .sub .i64 x.2.2.1 y3.1) (aa .quo .i64 (aa .sub .i64 x.2.2.1 x.2.1) (8:Int))),y3.2.1,())))))))))else(bif (af .gtr x.2.1 (0:Int))then(bif (ah y0.1 (aa .sub .i64 x.2.1 (1:Int)))then(bif (ah y0.1 y1.1)then((rp (ae zI y0.1 (aa .sub .i64 x.2.1 (1:Int))) (ae zI y0.1 y1.1)).bind fun y2=>(bif (Bool.not y2.1)then((hD y0.1 x.2.1 x.2.2.1 y1.1).bind fun y3=>some (.inl (y3.2.1,y3.1,x.2.2.1,(aa .sub .i64 x.2.2.2.1 (1:Int)),x.2.2.2.2.1,x.2.2.2.2.2.1,())))else((b8 y0.1 x.2.1 x.2.2.1 y1.1).bind fun y3=>(bif (ax (8:Int))then none else(bif (af .lss (aa .sub .i64 y3.1 x.2.1) (aa .sub .i64 x.2.2.1 y3.1))then((rec y3.2.2.1 x.2.1 y3.1 (aa .sub .i64 x.2.2.2.1 (1:Int))).bind fun y4=>some (.inl (y4.1,(aa .add .i64 y3.1 (1:Int)),x.2.2.1,(aa .sub .i64 x.2.2.2.1 (1:Int)),(af .geq (aa .sub .i64 y3.1 x.2.1) (aa .quo .i64 (aa .sub .i64 x.2.2.1 x.2.1) (8:Int))),y3.2.1,())))else((rec y3.2.2.1 (aa .add .i64 y3.1 (1:Int)) x.2.2.1 (aa .sub .i64 x.2.2.2.1 (1:Int))).bind fun y4=>some (.inl (y4.1,x.2.1,y3.1,(aa .sub .i64 x.2.2.2.1 (1:Int)),(af .geq (aa .sub .i64 x.2.2.1 y3.1) (aa .quo .i64 (aa .sub .i64 x.2.2.1 x.2.1) (8:Int))),y3.2.1,()))))))))else none)else none)else((b8 y0.1 x.2.1 x.2.2.1 y1.1).bind fun y2=>(bif (ax (8:Int))then none else(bif (af .lss (aa .sub .i64 y2.1 x.2.1) (aa .sub .i64 x.2.2.1 y2.1))then((rec y2.2.2.1 x.2.1 y2.1 (aa .sub .i64 x.2.2.2.1 (1:Int))).bind fun y3=>some (.inl (y3.1,(aa .add .i64 y2.1 (1:Int)),x.2.2.1,(aa .sub .i64 x.2.2.2.1 (1:Int)),(af .geq (aa .sub .i64 y2.1 x.2.1) (aa .quo .i64 (aa .sub .i64 x.2.2.1 x.2.1) (8:Int))),y2.2.1,())))else((rec y2.2.2.1 (aa .add .i64 y2.1 (1:Int)) x.2.2.1 (aa .sub .i64 x.2.2.2.1 (1:Int))).bind fun y3=>some (.inl (y3.1,x.2.1,y2.1,(aa .sub .i64 x.2.2.2.1 (1:Int)),(af .geq (aa .sub .i64 x.2.2.1 y2.1) (aa .quo .i64 (aa .sub .i64 x.2.2.1 x.2.1) (8:Int))),y2.2.1,()))))))))else(bif (af .gtr x.2.1 (0:Int))then(bif (ah y0.1 (aa .sub .i64 x.2.1 (1:Int)))then(bif (ah y0.1 y1.1)then((rp (ae zI y0.1 (aa .sub .i64 x.2.1 (1:Int))) (ae zI y0.1 y1.1)).bind fun y2=>(bif (Bool.not y2.1)then((hD y0.1 x.2.1 x.2.2.1 y1.1).bind fun y3=>some (.inl (y3.2.1,y3.1,x.2.2.1,(aa .sub .i64 x.2.2.2.1 (1:Int)),x.2.2.2.2.1,x.2.2.2.2.2.1,())))else((b8 y0.1 x.2.1 x.2.2.1 y1.1).bind fun y3=>(bif (ax (8:Int))then none else(bif (af .lss (aa .sub .i64 y3.1 x.2.1) (aa .sub .i64 x.2.2.1 y3.1))then((rec y3.2.2.1 x.2.1 y3.1 (aa .sub .i64 x.2.2.2.1 (1:Int))).bind fun y4=>some (.inl (y4.1,(aa .add .i64 y3.1 (1:Int)),x.2.2.1,(aa .sub .i64 x.2.2.2.1 (1:Int)),(af .geq (aa .sub .i64 y3.1 x.2.1) (aa .quo .i64 (aa .sub .i64 x.2.2.1 x.2.1) (8:Int))),y3.2.1,())))else((rec y3.2.2.1 (aa .add .i64 y3.1 (1:Int)) x.2.2.1 (aa .sub .i64 x.2.2.2.1 (1:Int))).bind fun y4=>some (.inl (y4.1,x.2.1,y3.1,(aa .sub .i64 x.2.2.2.1 (1:Int)),(af .geq (aa .sub .i64 x.2.2.1 y3.1) (aa .quo .i64 (aa .sub .i64 x.2.2.1 x.2.1) (8:Int))),y3.2.1,()))))))))else none)else none)else((b8 y0.1 x.2.1 x.2.2.1 y1.1).bind fun y2=>(bif (ax (8:Int))then none else(bif (af .lss (aa .sub .i64 y2.1 x.2.1) (aa .sub .i64 x.2.2.1 y2.1))then((rec y2.2.2.1 x.2.1 y2.1 (aa .sub .i64 x.2.2.2.1 (1:Int))).bind fun y3=>some (.inl (y3.1,(aa .add .i64 y2.1 (1:Int)),x.2.2.1,(aa .sub .i64 x.2.2.2.1 (1:Int)),(af .geq (aa .sub .i64 y2.1 x.2.1) (aa .quo .i64 (aa .sub .i64 x.2.2.1 x.2.1) (8:Int))),y2.2.1,())))else((rec y2.2.2.1 (aa .add .i64 y2.1 (1:Int)) x.2.2.1 (aa .sub .i64 x.2.2.2.1 (1:Int))).bind fun y3=>some (.inl (y3.1,x.2.1,y2.1,(aa .sub .i64 x.2.2.2.1 (1:Int)),(af .geq (aa .sub .i64 x.2.2.1 y2.1) (aa .quo .i64 (aa .sub .i64 x.2.2.1 x.2.1) (8:Int))),y2.2.1,()))))))))else(bif (af .gtr x.2.1 (0:Int))then(bif (ah y0.1 (aa .sub .i64 x.2.1 (1:Int)))then(bif (ah y0.1 y1.1)then((rp (ae zI y0.1 (aa .sub .i64 x.2.1 (1:Int))) (ae zI y0.1 y1.1)).bind fun y2=>(bif (Bool.not y2.1)then((hD y0.1 x.2.1 x.2.2.1 y1.1).bind fun y3=>some (.inl (y3.2.1,y3.1,x.2.2.1,(aa .sub .i64 x.2.2.2.1 (1:Int)),x.2.2.2.2.1,x.2.2.2.2.2.1,())))else((b8 y0.1 x.2.1 x.2.2.1 y1.1).bind fun y3=>(bif (ax (8:Int))then none else(bif (af .lss (aa .sub .i64 y3.1 x.2.1) (aa .sub .i64 x.2.2.1 y3.1))then((rec y3.2.2.1 x.2.1 y3.1 (aa .sub .i64 x.2.2.2.1 (1:Int))).bind fun y4=>some (.inl (y4.1,(aa .add .i64 y3.1 (1:Int)),x.2.2.1,(aa .sub .i64 x.2.2.2.1 (1:Int)),(af .geq (aa .sub .i64 y3.1 x.2.1) (aa .quo .i64 (aa .sub .i64 x.2.2.1 x.2.1) (8:Int))),y3.2.1,())))else((rec y3.2.2.1 (aa .add .i64 y3.1 (1:Int)) x.2.2.1 (aa .sub .i64 x.2.2.2.1 (1:Int))).bind fun y4=>some (.inl (y4.1,x.2.1,y3.1,(aa .sub .i64 x.2.2.2.1 (1:Int)),(af .geq (aa .sub .i64 x.2.2.1 y3.1) (aa .quo .i64 (aa .sub .i64 x.2.2.1 x.2.1) (8:Int))),y3.2.1,()))))))))else none)else none)else((b8 y0.1 x.2.1 x.2.2.1 y1.1).bind fun y2=>(bif (ax (8:Int))then none else(bif (af .lss (aa .sub .i64 y2.1 x.2.1) (aa .sub .i64 x.2.2.1 y2.1))then((rec y2.2.2.1 x.2.1 y2.1 (aa .sub .i64 x.2.2.2.1 (1:Int))).bind fun y3=>some (.inl (y3.1,(aa .add .i64 y2.1 (1:Int)),x.2.2.1,(aa .sub .i64 x.2.2.2.1 (1:Int)),(af .geq (aa .sub .i64 y2.1 x.2.1) (aa .quo .i64 (aa .sub .i64 x.2.2.1 x.2.1) (8:Int))),y2.2.1,())))else((rec y2.2.2.1 (aa .add .i64 y2.1 (1:Int)) x.2.2.1 (aa .sub .i64 x.2.2.2.1 (1:Int))).bind fun y3=>some (.inl (y3.1,x.2.1,y2.1,(aa .sub .i64 x.2.2.2.1 (1:Int)),(af .geq (aa .sub .i64 x.2.2.1 y2.1) (aa .quo .i64 (aa .sub .i64 x.2.2.1 x.2.1) (8:Int))),y2.2.1,())))))))))))else((Kz x.1 x.2.1 x.2.2.1).bind fun y0=>(bif (af .eql y0.2.1 (2:Int))then((Kq x.1 x.2.1 x.2.2.1).bind fun y1=>(bif x.2.2.2.2.1 then(bif x.2.2.2.2.2.1 then(bif (af .eql (1:Int) (1:Int))then((Is y1.1 x.2.1 x.2.2.1).bind fun y2=>(bif y2.1 then some (.inr (.inl (y2.2.1,())))else(bif (af .gtr x.2.1 (0:Int))then(bif (ah y2.2.1 (aa .sub .i64 x.2.1 (1:Int)))then(bif (ah y2.2.1 (aa .sub .i64 (aa .sub .i64 x.2.2.1 (1:Int)) (aa .sub .i64 y0.1 x.2.1)))then((rp (ae zI y2.2.1 (aa .sub .i64 x.2.1 (1:Int))) (ae zI y2.2.1 (aa .sub .i64 (aa .sub .i64 x.2.2.1 (1:Int)) (aa .sub .i64 y0.1 x.2.1)))).bind fun y3=>(bif (Bool.not y3.1)then((hD y2.2.1 x.2.1 x.2.2.1 (aa .sub .i64 (aa .sub .i64 x.2.2.1 (1:Int)) (aa .sub .i64 y0.1 x.2.1))).bind fun y4=>some (.inl (y4.2.1,y4.1,x.2.2.1,x.2.2.2.1,x.2.2.2.2.1,x.2.2.2.2.2.1,())))else((b8 y2.2.1 x.2.1 x.2.2.1 (aa .sub .i64 (aa .sub .i64 x.2.2.1 (1:Int)) (aa .sub .i64 y0.1 x.2.1))).bind fun y4=>(bif (ax (8:Int))then none else(bif (af .lss (aa .sub .i64 y4.1 x.2.1) (aa .sub .i64 x.2.2.1 y4.1))then((rec y4.2.2.1 x.2.1 y4.1 x.2.2.2.1).bind fun y5=>some (.inl (y5.1,(aa .add .i64 y4.1 (1:Int)),x.2.2.1,x.2.2.2.1,(af .geq (aa .sub .i64 y4.1 x.2.1) (aa .quo .i64 (aa .sub .i64 x.2.2.1 x.2.1) (8:Int))),y4.2.1,())))else((rec y4.2.2.1 (aa .add .i64 y4.1 (1:Int)) x.2.2.1 x.2.2.2.1).bind fun y5=>some (.inl (y5.1,x.2.1,y4.1,x.2.2.2.1,(af .geq (aa .sub .i64 x.2.2.1 y4.1) (aa .quo .i64 (aa .sub .i64 x.2.2.1 x.2.1) (8:Int))),y4.2.1,()))))))))else none)else none)else((b8 y2.2.1 x.2.1 x.2.2.1 (aa .sub .i64 (aa .sub .i64 x.2.2.1 (1:Int)) (aa .sub .i64 y0.1 x.2.1))).bind fun y3=>(bif (ax (8:Int))then none else(bif (af .lss (aa .sub .i64 y3.1 x.2.1) (aa .sub .i64 x.2.2.1 y3.1))then((rec y3.2.2.1 x.2.1 y3.1 x.2.2.2.1).bind fun y4=>some (.inl (y4.1,(aa .add .i64 y3.1 (1:Int)),x.2.2.1,x.2.2.2.1,(af .geq (aa .sub .i64 y3.1 x.2.1) (aa .quo .i64 (aa .sub .i64 x.2.2.1 x.2.1) (8:Int))),y3.2.1,())))else((rec y3.2.2.1 (aa .add .i64 y3.1 (1:Int)) x.2.2.1 x.2.2.2.1).bind fun y4=>some (.inl (y4.1,x.2.1,y3.1,x.2.2.2.1,(af .geq (aa .sub .i64 x.2.2.1 y3.1) (aa .quo .i64 (aa .sub .i64 x.2.2.1 x.2.1) (8:Int))),y3.2.1,())))))))))else(bif (af .gtr x.2.1 (0:Int))then(bif (ah y1.1 (aa .sub .i64 x.2.1 (1:Int)))then(bif (ah y1.1 (aa .sub .i64 (aa .sub .i64 x.2.2.1 (1:Int)) (aa .sub .i64 y0.1 x.2.1)))then((rp (ae zI y1.1 (aa .sub .i64 x.2.1 (1:Int))) (ae zI y1.1 (aa .sub .i64 (aa .sub .i64 x.2.2.1 (1:Int)) (aa .sub .i64 y0.1 x.2.1)))).bind fun y2=>(bif (Bool.not y2.1)then((hD y1.1 x.2.1 x.2.2.1 (aa .sub .i64 (aa .sub .i64 x.2.2.1 (1:Int)) (aa .sub .i64 y0.1 x.2.1))).bind fun y3=>some (.inl (y3.2.1,y3.1,x.2.2.1,x.2.2.2.1,x.2.2.2.2.1,x.2.2.2.2.2.1,())))else((b8 y1.1 x.2.1 x.2.2.1 (aa .sub .i64 (aa .sub .i64 x.2.2.1 (1:Int)) (aa .sub .i64 y0.1 x.2.1))).bind fun y3=>(bif (ax (8:Int))then none else(bif (af .lss (aa .sub .i64 y3.1 x.2.1) (aa .sub .i64 x.2.2.1 y3.1))then((rec y3.2.2.1 x.2.1 y3.1 x.2.2.2.1).bind fun y4=>some (.inl (y4.1,(aa .add .i64 y3.1 (1:Int)),x.2.2.1,x.2.2.2.1,(af .geq (aa .sub .i64 y3.1 x.2.1) (aa .quo .i64 (aa .sub .i64 x.2.2.1 x.2.1) (8:Int))),y3.2.1,())))else((rec y3.2.2.1 (aa .add .i64 y3.1 (1:Int)) x.2.2.1 x.2.2.2.1).bind fun y4=>some (.inl (y4.1,x.2.1,y3.1,x.2.2.2.1,(af .geq (aa .sub .i64 x.2.2.1 y3.1) (aa .quo .i64 (aa .sub .i64 x.2.2.1 x.2.1) (8:Int))),y3.2.1,()))))))))else none)else none)else((b8 y1.1 x.2.1 x.2.2.1 (aa .sub .i64 (aa .sub .i64 x.2.2.1 (1:Int)) (aa .sub .i64 y0.1 x.2.1))).bind fun y2=>(bif (ax (8:Int))then none else(bif (af .lss (aa .sub .i64 y2.1 x.2.1) (aa .sub .i64 x.2.2.1 y2.1))then((rec y2.2.2.1 x.2.1 y2.1 x.2.2.2.1).bind fun y3=>some (.inl (y3.1,(aa .add .i64 y2.1 (1:Int)),x.2.2.1,x.2.2.2.1,(af .geq (aa .sub .i64 y2.1 x.2.1) (aa .quo .i64 (aa .sub .i64 x.2.2.1 x.2.1) (8:Int))),y2.2.1,())))else((rec y2.2.2.1 (aa .add .i64 y2.1 (1:Int)) x.2.2.1 x.2.2.2.1).bind fun y3=>some (.inl (y3.1,x.2.1,y2.1,x.2.2.2.1,(af .geq (aa .sub .i64 x.2.2.1 y2.1) (aa .quo .i64 (aa .sub .i64 x.2.2.1 x.2.1) (8:Int))),y2.2.1,()))))))))else(bif (af .gtr x.2.1 (0:Int))then(bif (ah y1.1 (aa .sub .i64 x.2.1 (1:Int)))then(bif (ah y1.1 (aa .sub .i64 (aa .sub .i64 x.2.2.1 (1:Int)) (aa .sub .i64 y0.1 x.2.1)))then((rp (ae zI y1.1 (aa .sub .i64 x.2.1 (1:Int))) (ae zI y1.1 (aa .sub .i64 (aa .sub .i64 x.2.2.1 (1:Int)) (aa .sub .i64 y0.1 x.2.1)))).bind fun y2=>(bif (Bool.not y2.1)then((hD y1.1 x.2.1 x.2.2.1 (aa .sub .i64 (aa .sub .i64 x.2.2.1 (1:Int)) (aa .sub .i64 y0.1 x.2.1))).bind fun y3=>some (.inl (y3.2.1,y3.1,x.2.2.1,x.2.2.2.1,x.2.2.2.2.1,x.2.2.2.2.2.1,())))else((b8 y1.1 x.2.1 x.2.2.1 (aa .sub .i64 (aa .sub .i64 x.2.2.1 (1:Int)) (aa .sub .i64 y0.1 x.2.1))).bind fun y3=>(bif (ax (8:Int))then none else(bif (af .lss (aa .sub .i64 y3.1 x.2.1) (aa .sub .i64 x.2.2.1 y3.1))then((rec y3.2.2.1 x.2.1 y3.1 x.2.2.2.1).bind fun y4=>some (.inl (y4.1,(aa .add .i64 y3.1 (1:Int)),x.2.2.1,x.2.2.2.1,(af .geq (aa .sub .i64 y3.1 x.2.1) (aa .quo .i64 (aa .sub .i64 x.2.2.1 x.2.1) (8:Int))),y3.2.1,())))else((rec y3.2.2.1 (aa .add .i64 y3.1 (1:Int)) x.2.2.1 x.2.2.2.1).bind fun y4=>some (.inl (y4.1,x.2.1,y3.1,x.2.2.2.1,(af .geq (aa .sub .i64 x.2.2.1 y3.1) (aa .quo .i64 (aa .sub .i64 x.2.2.1 x.2.1) (8:Int))),y3.2.1,()))))))))else none)else none)else((b8 y1.1 x.2.1 x.2.2.1 (aa .sub .i64 (aa .sub .i64 x.2.2.1 (1:Int)) (aa .sub .i64 y0.1 x.2.1))).bind fun y2=>(bif (ax (8:Int))then none else(bif (af .lss (aa .sub .i64 y2.1 x.2.1) (aa .sub .i64 x.2.2.1 y2.1))then((rec y2.2.2.1 x.2.1 y2.1 x.2.2.2.1).bind fun y3=>some (.inl (y3.1,(aa .add .i64 y2.1 (1:Int)),x.2.2.1,x.2.2.2.1,(af .geq (aa .sub .i64 y2.1 x.2.1) (aa .quo .i64 (aa .sub .i64 x.2.2.1 x.2.1) (8:Int))),y2.2.1,())))else((rec y2.2.2.1 (aa .add .i64 y2.1 (1:Int)) x.2.2.1 x.2.2.2.1).bind fun y3=>some (.inl (y3.1,x.2.1,y2.1,x.2.2.2.1,(af .geq (aa .sub .i64 x.2.2.1 y2.1) (aa .quo .i64 (aa .sub .i64 x.2.2.1 x.2.1) (8:Int))),y2.2.1,()))))))))else(bif (af .gtr x.2.1 (0:Int))then(bif (ah y1.1 (aa .sub .i64 x.2.1 (1:Int)))then(bif (ah y1.1 (aa .sub .i64 (aa .sub .i64 x.2.2.1 (1:Int)) (aa .sub .i64 y0.1 x.2.1)))then((rp (ae zI y1.1 (aa .sub .i64 x.2.1 (1:Int))) (ae zI y1.1 (aa .sub .i64 (aa .sub .i64 x.2.2.1 (1:Int)) (aa .sub .i64 y0.1 x.2.1)))).bind fun y2=>(bif (Bool.not y2.1)then((hD y1.1 x.2.1 x.2.2.1 (aa .sub .i64 (aa .sub .i64 x.2.2.1 (1:Int)) (aa .sub .i64 y0.1 x.2.1))).bind fun y3=>some (.inl (y3.2.1,y3.1,x.2.2.1,x.2.2.2.1,x.2.2.2.2.1,x.2.2.2.2.2.1,())))else((b8 y1.1 x.2.1 x.2.2.1 (aa .sub .i64 (aa .sub .i64 x.2.2.1 (1:Int)) (aa .sub .i64 y0.1 x.2.1))).bind fun y3=>(bif (ax (8:Int))then none else(bif (af .lss (aa .sub .i64 y3.1 x.2.1) (aa .sub .i64 x.2.2.1 y3.1))then((rec y3.2.2.1 x.2.1 y3.1 x.2.2.2.1).bind fun y4=>some (.inl (y4.1,(aa .add .i64 y3.1 (1:Int)),x.2.2.1,x.2.2.2.1,(af .geq (aa .sub .i64 y3.1 x.2.1) (aa .quo .i64 (aa .sub .i64 x.2.2.1 x.2.1) (8:Int))),y3.2.1,())))else((rec y3.2.2.1 (aa .add .i64 y3.1 (1:Int)) x.2.2.1 x.2.2.2.1).bind fun y4=>some (.inl (y4.1,x.2.1,y3.1,x.2.2.2.1,(af .geq (aa .sub .i64 x.2.2.1 y3.1) (aa .quo .i64 (aa .sub .i64 x.2.2.1 x.2.1) (8:Int))),y3.2.1,()))))))))else none)else none)else((b8 y1.1 x.2.1 x.2.2.1 (aa .sub .i64 (aa .sub .i64 x.2.2.1 (1:Int)) (aa .sub .i64 y0.1 x.2.1))).bind fun y2=>(bif (ax (8:Int))then none else(bif (af .lss (aa .sub .i64 y2.1 x.2.1) (aa .sub .i64 x.2.2.1 y2.1))then((rec y2.2.2.1 x.2.1 y2.1 x.2.2.2.1).bind fun y3=>some (.inl (y3.1,(aa .add .i64 y2.1 (1:Int)),x.2.2.1,x.2.2.2.1,(af .geq (aa .sub .i64 y2.1 x.2.1) (aa .quo .i64 (aa .sub .i64 x.2.2.1 x.2.1) (8:Int))),y2.2.1,())))else((rec y2.2.2.1 (aa .add .i64 y2.1 (1:Int)) x.2.2.1 x.2.2.2.1).bind fun y3=>some (.inl (y3.1,x.2.1,y2.1,x.2.2.2.1,(af .geq (aa .sub .i64 x.2.2.1 y2.1) (aa .quo .i64 (aa .sub .i64 x.2.2.1 x.2.1) (8:Int))),y2.2.1,())))))))))else(bif x.2.2.2.2.1 then(bif x.2.2.2.2.2.1 then(bif (af .eql y0.2.1 (1:Int))then((Is x.1 x.2.1 x.2.2.1).bind fun y1=>(bif y1.1 then some (.inr (.inl (y1.2.1,())))else(bif (af .gtr x.2.1 (0:Int))then(bif (ah y1.2.1 (aa .sub .i64 x.2.1 (1:Int)))then(bif (ah y1.2.1 y0.1)then((rp (ae zI y1.2.1 (aa .sub .i64 x.2.1 (1:Int))) (ae zI y1.2.1 y0.1)).bind fun y2=>(bif (Bool.not y2.1)then((hD y1.2.1 x.2.1 x.2.2.1 y0.1).bind fun y3=>some (.inl (y3.2.1,y3.1,x.2.2.1,x.2.2.2.1,x.2.2.2.2.1,x.2.2.2.2.2.1,())))else((b8 y1.2.1 x.2.1 x.2.2.1 y0.1).bind fun y3=>(bif (ax (8:Int))then none else(bif (af .lss (aa .sub .i64 y3.1 x.2.1) (aa .sub .i64 x.2.2.1 y3.1))then((rec y3.2.2.1 x.2.1 y3.1 x.2.2.2.1).bind fun y4=>some (.inl (y4.1,(aa .add .i64 y3.1 (1:Int)),x.2.2.1,x.2.2.2.1,(af .geq (aa .sub .i64 y3.1 x.2.1) (aa .quo .i64 (aa .sub .i64 x.2.2.1 x.2.1) (8:Int))),y3.2.1,())))else((rec y3.2.2.1 (aa .add .i64 y3.1 (1:Int)) x.2.2.1 x.2.2.2.1).bind fun y4=>some (.inl (y4.1,x.2.1,y3.1,x.2.2.2.1,(af .geq (aa .sub .i64 x.2.2.1 y3.1) (aa .quo .i64 (aa .sub .i64 x.2.2.1 x.2.1) (8:Int))),y3.2.1,()))))))))else none)else none)else((b8 y1.2.1 x.2.1 x.2.2.1 y0.1).bind fun y2=>(bif (ax (8:Int))then none else(bif (af .lss (aa .sub .i64 y2.1 x.2.1) (aa .sub .i64 x.2.2.1 y2.1))then((rec y2.2.2.1 x.2.1 y2.1 x.2.2.2.1).bind fun y3=>some (.inl (y3.1,(aa .add .i64 y2.1 (1:Int)),x.2.2.1,x.2.2.2.1,(af .geq (aa .sub .i64 y2.1 x.2.1) (aa .quo .i64 (aa .sub .i64 x.2.2.1 x.2.1) (8:Int))),y2.2.1,())))else((rec y2.2.2.1 (aa .add .i64 y2.1 (1:Int)) x.2.2.1 x.2.2.2.1).bind fun y3=>some (.inl (y3.1,x.2.1,y2.1,x.2.2.2.1,(af .geq (aa .sub .i64 x.2.2.1 y2.1) (aa .quo .i64 (aa .sub .i64 x.2.2.1 x.2.1) (8:Int))),y2.2.1,())))))))))else(bif (af .gtr x.2.1 (0:Int))then(bif (ah x.1 (aa .sub .i64 x.2.1 (1:Int)))then(bif (ah x.1 y0.1)then((rp (ae zI x.1 (aa .sub .i64 x.2.1 (1:Int))) (ae zI x.1 y0.1)).bind fun y1=>(bif (Bool.not y1.1)then((hD x.1 x.2.1 x.2.2.1 y0.1).bind fun y2=>some (.inl (y2.2.1,y2.1,x.2.2.1,x.2.2.2.1,x.2.2.2.2.1,x.2.2.2.2.2.1,())))else((b8 x.1 x.2.1 x.2.2.1 y0.1).bind fun y2=>(bif (ax (8:Int))then none else(bif (af .lss (aa .sub .i64 y2.1 x.2.1) (aa .sub .i64 x.2.2.1 y2.1))then((rec y2.2.2.1 x.2.1 y2.1 x.2.2.2.1).bind fun y3=>some (.inl (y3.1,(aa .add .i64 y2.1 (1:Int)),x.2.2.1,x.2.2.2.1,(af .geq (aa .sub .i64 y2.1 x.2.1) (aa .quo .i64 (aa .sub .i64 x.2.2.1 x.2.1) (8:Int))),y2.2.1,())))else((rec y2.2.2.1 (aa .add .i64 y2.1 (1:Int)) x.2.2.1 x.2.2.2.1).bind fun y3=>some (.inl (y3.1,x.2.1,y2.1,x.2.2.2.1,(af .geq (aa .sub .i64 x.2.2.1 y2.1) (aa .quo .i64 (aa .sub .i64 x.2.2.1 x.2.1) (8:Int))),y2.2.1,()))))))))else none)else none)else((b8 x.1 x.2.1 x.2.2.1 y0.1).bind fun y1=>(bif (ax (8:Int))then none else(bif (af .lss (aa .sub .i64 y1.1 x.2.1) (aa .sub .i64 x.2.2.1 y1.1))then((rec y1.2.2.1 x.2.1 y1.1 x.2.2.2.1).bind fun y2=>some (.inl (y2.1,(aa .add .i64 y1.1 (1:Int)),x.2.2.1,x.2.2.2.1,(af .geq (aa .sub .i64 y1.1 x.2.1) (aa .quo .i64 (aa .sub .i64 x.2.2.1 x.2.1) (8:Int))),y1.2.1,())))else((rec y1.2.2.1 (aa .add .i64 y1.1 (1:Int)) x.2.2.1 x.2.2.2.1).bind fun y2=>some (.inl (y2.1,x.2.1,y1.1,x.2.2.2.1,(af .geq (aa .sub .i64 x.2.2.1 y1.1) (aa .quo .i64 (aa .sub .i64 x.2.2.1 x.2.1) (8:Int))),y1.2.1,()))))))))else(bif (af .gtr x.2.1 (0:Int))then(bif (ah x.1 (aa .sub .i64 x.2.1 (1:Int)))then(bif (ah x.1 y0.1)then((rp (ae zI x.1 (aa .sub .i64 x.2.1 (1:Int))) (ae zI x.1 y0.1)).bind fun y1=>(bif (Bool.not y1.1)then((hD x.1 x.2.1 x.2.2.1 y0.1).bind fun y2=>some (.inl (y2.2.1,y2.1,x.2.2.1,x.2.2.2.1,x.2.2.2.2.1,x.2.2.2.2.2.1,())))else((b8 x.1 x.2.1 x.2.2.1 y0.1).bind fun y2=>(bif (ax (8:Int))then none else(bif (af .lss (aa .sub .i64 y2.1 x.2.1) (aa .sub .i64 x.2.2.1 y2.1))then((rec y2.2.2.1 x.2.1 y2.1 x.2.2.2.1).bind fun y3=>some (.inl (y3.1,(aa .add .i64 y2.1 (1:Int)),x.2.2.1,x.2.2.2.1,(af .geq (aa .sub .i64 y2.1 x.2.1) (aa .quo .i64 (aa .sub .i64 x.2.2.1 x.2.1) (8:Int))),y2.2.1,())))else((rec y2.2.2.1 (aa .add .i64 y2.1 (1:Int)) x.2.2.1 x.2.2.2.1).bind fun y3=>some (.inl (y3.1,x.2.1,y2.1,x.2.2.2.1,(af .geq (aa .sub .i64 x.2.2.1 y2.1) (aa .quo .i64 (aa .sub .i64 x.2.2.1 x.2.1) (8:Int))),y2.2.1,()))))))))else none)else none)else((b8 x.1 x.2.1 x.2.2.1 y0.1).bind fun y1=>(bif (ax (8:Int))then none else(bif (af .lss (aa .sub .i64 y1.1 x.2.1) (aa .sub .i64 x.2.2.1 y1.1))then((rec y1.2.2.1 x.2.1 y1.1 x.2.2.2.1).bind fun y2=>some (.inl (y2.1,(aa .add .i64 y1.1 (1:Int)),x.2.2.1,x.2.2.2.1,(af .geq (aa .sub .i64 y1.1 x.2.1) (aa .quo .i64 (aa .sub .i64 x.2.2.1 x.2.1) (8:Int))),y1.2.1,())))else((rec y1.2.2.1 (aa .add .i64 y1.1 (1:Int)) x.2.2.1 x.2.2.2.1).bind fun y2=>some (.inl (y2.1,x.2.1,y1.1,x.2.2.2.1,(af .geq (aa .sub .i64 x.2.2.1 y1.1) (aa .quo .i64 (aa .sub .i64 x.2.2.1 x.2.1) (8:Int))),y1.2.1,()))))))))else(bif (af .gtr x.2.1 (0:Int))then(bif (ah x.1 (aa .sub .i64 x.2.1 (1:Int)))then(bif (ah x.1 y0.1)then((rp (ae zI x.1 (aa .sub .i64 x.2.1 (1:Int))) (ae zI x.1 y0.1)).bind fun y1=>(bif (Bool.not y1.1)then((hD x.1 x.2.1 x.2.2.1 y0.1).bind fun y2=>some (.inl (y2.2.1,y2.1,x.2.2.1,x.2.2.2.1,x.2.2.2.2.1,x.2.2.2.2.2.1,())))else((b8 x.1 x.2.1 x.2.2.1 y0.1).bind fun y2=>(bif (ax (8:Int))then none else(bif (af .lss (aa .sub .i64 y2.1 x.2.1) (aa .sub .i64 x.2.2.1 y2.1))then((rec y2.2.2.1 x.2.1 y2.1 x.2.2.2.1).bind fun y3=>some (.inl (y3.1,(aa .add .i64 y2.1 (1:Int)),x.2.2.1,x.2.2.2.1,(af .geq (aa .sub .i64 y2.1 x.2.1) (aa .quo .i64 (aa .sub .i64 x.2.2.1 x.2.1) (8:Int))),y2.2.1,())))else((rec y2.2.2.1 (aa .add .i64 y2.1 (1:Int)) x.2.2.1 x.2.2.2.1).bind fun y3=>some (.inl (y3.1,x.2.1,y2.1,x.2.2.2.1,(af .geq (aa .sub .i64 x.2.2.1 y2.1) (aa .quo .i64 (aa .sub .i64 x.2.2.1 x.2.1) (8:Int))),y2.2.1,()))))))))else none)else none)else((b8 x.1 x.2.1 x.2.2.1 y0.1).bind fun y1=>(bif (ax (8:Int))then none else(bif (af .lss (aa .sub .i64 y1.1 x.2.1) (aa .sub .i64 x.2.2.1 y1.1))then((rec y1.2.2.1 x.2.1 y1.1 x.2.2.2.1).bind fun y2=>some (.inl (y2.1,(aa .add .i64 y1.1 (1:Int)),x.2.2.1,x.2.2.2.1,(af .geq (aa .sub .i64 y1.1 x.2.1) (aa .quo .i64 (aa .sub .i64 x.2.2.1 x.2.1) (8:Int))),y1.2.1,())))else((rec y1.2.2.1 (aa .add .i64 y1.1 (1:Int)) x.2.2.1 x.2.2.2.1).bind fun y2=>some (.inl (y2.1,x.2.1,y1.1,x.2.2.2.1,(af .geq (aa .sub .i64 x.2.2.1 y1.1) (aa .quo .i64 (aa .sub .i64 x.2.2.1 x.2.1) (8:Int))),y1.2.1,())))))))))))))
noncomputable def Lz(rec:(List (Int))->Int->Int->Int->Option ((List (Int))×Unit))(k:Unit)(x:(List (Int))×Int×Int×Int×Bool×Bool×Unit):Option ((List (Int))×Unit⊕Empty):=iter (MG rec k) big x
noncomputable def LL(rec:(List (Int))->Int->Int->Int->Option ((List (Int))×Unit))(a0:(List (Int)))(a1:Int)(a2:Int)(a3:Int):Option ((List (Int))×Unit):=((Lz rec (()) (a0,a1,a2,a3,true,true,())).bind fun q0=>(Sum.elim (fun y1=>some (y1.1,())) (fun q2=>(Empty.elim q2)) q0))
noncomputable def J7:Nat->(List (Int))->Int->Int->Int->Option ((List (Int))×Unit)|0=>fun _ _ _ _=>none|n+1=>LL (J7 n)
noncomputable def Me(a:O1)(b c d:Int):XZ:=J7 big a b c d
noncomputable def MU(a:O1):XZ:=(N2 (ak .u64 (ai a))).bind fun b=>(Me a 0 (ai a) b.1).bind fun c=>some (c.1,())
noncomputable def OX(a:O1):XZ:=cond (aE a) (some (Go.Lib.compact a,())) none
noncomputable def N7(a:Uq)(b:U2):Zl:=letI c:=(ae bf a.1 b.2.1).2.2.2.2.1;cond (af .lss b.2.1 a.2.1) (cond (ah a.1 b.2.1) (cond (aE (List.append (α:=Int) b.1 (List.append (α:=Int) ([]:O1) [c]))) (some (.inl (List.append (α:=Int) b.1 (List.append (α:=Int) ([]:O1) [c]),aa .add .i64 b.2.1 1,()))) none) none) (some (.inr (.inl (b.1,()))))
noncomputable def PT k x:=iter (N7 k) big x
noncomputable def Oj(a:MA):XZ:=(Lb a).bind fun b=>cond (Bool.not b.1) (some (([]:O1),())) ((PT (a,ai a,()) (([]:O1),0,())).bind fun c=>Sum.elim (fun d=>(MU d.1).bind fun e=>(OX e.1).bind fun f=>some (f.1,())) (fun d=>Empty.elim d) c)
end Go.Fn
namespace Go.Fn
open Go.R
abbrev Ev:=Int×Int×Int×Int×Int×Int×Int
noncomputable def M4(a lo hi:Int):Bool:=bif decide (a>=lo)then decide (a<=hi)else false
theorem K2(a lo hi:Int):qx a lo hi=some (M4 a lo hi,()):=by unfold qx M4;simp only[af];cases decide (a>=lo) <;> rfl
theorem PX(a lo hi:Int):qe a lo hi=some (M4 a lo hi,()):=K2 a lo hi
theorem Vw(a:Int):LV a=some (M4 a 0 20000,()):=by unfold LV;rw[K2];rfl
noncomputable def U8(e:Ev):Bool:=bif M4 e.1 0 5 then bif M4 e.2.1 1 999 then bif M4 e.2.2.1 1 100000 then bif M4 e.2.2.2.1 1 4 then bif M4 e.2.2.2.2.1 1 999 then bif M4 e.2.2.2.2.2.1 0 20000 then M4 e.2.2.2.2.2.2 0 20000 else false else false else false else false else false else false
theorem Rj{α:Type}(b:Bool)(x y:α):(bif b then some x else some y)=some (bif b then x else y):=by cases b <;> rfl
theorem Ri(b x y:Bool):(bif b then(x,())else(y,()))=((bif b then x else y),()):=by cases b <;> rfl
theorem aaz(a b c d e f g:Int):R5 a b c d e f g=some (U8 (a,b,c,d,e,f,g),()):=by unfold R5 U8;simp only[PX,Option.bind_some,Rj,Ri]
theorem aak(a b c d e f g:Int):RW a b c d e f g=some (U8 (a,b,c,d,e,f,g),()):=by unfold RW U8;simp only[K2,Vw,Option.bind_some,Rj,Ri]
noncomputable def XT(p e:Ev):Bool:=!(decide (e.1<p.1)||(decide (e.1=p.1)&&(decide (e.2.1<=p.2.1)||decide (e.2.2.1<=p.2.2.1))))
noncomputable def RT(l:List Ev):Nat->Bool
 |0=>U8 (l.getD 0 bf)
 |n+1=>U8 (l.getD (n+1) bf)&&XT (l.getD n bf) (l.getD (n+1) bf)
noncomputable def QH(l:List Ev):Bool:=bif decide (60<l.length)then false else aB (RT l) 0 l.length
theorem acw(l:List Ev):af .gtr (ai l) (60:Int)=decide (60<l.length):=by simp only[af,ai,gt_iff_lt,decide_eq_decide];omega
theorem Rl(l:List Ev):Lb l=some (QH l,()):=by
 unfold Lb QH;rw[acw];cases hl:decide (60<l.length)with
 |true=>rfl
 |false=>
  have hl:l.length<=60:=by have:=of_decide_eq_false hl;omega
  have Li:PM (l,l,(ai l),()) ((0:Int),())=some (bif aB (RT l) 0 l.length then(Sum.inr (Sum.inl ()):Bool×Unit⊕(Unit⊕Empty))else Sum.inl (false,())):=by
   refine bp (fun n=>((n:Int),())) l.length (by omega) (RT l) _ _ (fun n hn=>?_) ?_
   ·unfold PL;simp only[aj,az,aq,aak,hn,decide_true,cond_true,Option.bind_some];cases n with
    |zero=>simp only[RT];cases U8 (l.getD 0 bf) <;> rfl
    |succ n=>
     have hn':n<l.length:=by omega
     simp only[RT,av (n:=n+1) (by omega),iw (n:=n) (by omega),cV hn',aq,XT,af];have e0:((((n+1:Nat):Int))==0)=false:=by rw[beq_eq_false_iff_ne];omega
     rw[e0];simp only[cond_false,cond_true];generalize l.getD (n+1) bf=e;generalize l.getD n bf=p;show(bif !(U8 e)then _ else _)=_;cases U8 e with
     |false=>rfl
     |true=>
      simp only[Bool.not_true,cond_false,Bool.true_and];cases decide (e.1<p.1)with
      |true=>rfl
      |false=>
       simp only[cond_false,Bool.false_or];have eb:(e.1==p.1)=decide (e.1=p.1):=rfl;rw[eb];cases decide (e.1=p.1)with
       |false=>rfl
       |true=>
        simp only[cond_true,Bool.true_and];cases decide (e.2.1<=p.2.1)with
        |true=>rfl
        |false=>cases decide (e.2.2.1<=p.2.2.1) <;> rfl
   ·unfold PL;simp only[aj,Nat.lt_irrefl,decide_false,cond_false]
  rw[Li];cases aB (RT l) 0 l.length <;> rfl
theorem gt0(n:Nat):af .gtr ((n+1:Nat):Int) 0=true:=by simp only[af,gt_iff_lt,decide_eq_true_eq];omega
theorem Rp(l:List Ev):Ld l=some (QH l,()):=by
 unfold Ld QH;rw[acw];cases hl:decide (60<l.length)with
 |true=>rfl
 |false=>
  have hl:l.length<=60:=by have:=of_decide_eq_false hl;omega
  have Li:Qs (l,()) ((0:Int),())=some (bif aB (RT l) 0 l.length then(Sum.inr (Sum.inl ()):Bool×Unit⊕(Unit⊕Empty))else Sum.inl (false,())):=by
   refine bp (fun n=>((n:Int),())) l.length (by omega) (RT l) _ _ (fun n hn=>?_) ?_
   ·unfold Qr;simp only[aj,az,aq,aaz,hn,decide_true,cond_true,Option.bind_some];cases n with
    |zero=>simp only[RT];cases U8 (l.getD 0 bf) <;> rfl
    |succ n=>
     have hn':n<l.length:=by omega
     simp only[RT,gt0,av (n:=n+1) (by omega),iw (n:=n) (by omega),cV hn',aq,XT,cond_true];simp only[af];generalize l.getD (n+1) bf=e;generalize l.getD n bf=p;show(bif !(U8 e)then _ else _)=_;cases U8 e with
     |false=>rfl
     |true=>
      simp only[Bool.not_true,cond_false,Bool.true_and];cases decide (e.1<p.1)with
      |true=>rfl
      |false=>
       simp only[cond_false,Bool.false_or];have eb:(e.1==p.1)=decide (e.1=p.1):=rfl;rw[eb];cases decide (e.1=p.1)with
       |false=>rfl
       |true=>
        simp only[cond_true,Bool.true_and];cases decide (e.2.1<=p.2.1)with
        |true=>rfl
        |false=>cases decide (e.2.2.1<=p.2.2.1) <;> rfl
   ·unfold Qr;simp only[aj,Nat.lt_irrefl,decide_false,cond_false]
  rw[Li];cases aB (RT l) 0 l.length <;> rfl
theorem ace(a b c d e f g:Int):Uw a b c d e f g=some (a,b,c,d,e,f,g,()):=rfl
theorem Zi(l:List Ev)(hl:l.length<=1073741824):Pa l=some (l,()):=by
 unfold Pa;rw[cC hl];have Li:OJ (l,()) (List.replicate l.length (0,0,0,0,0,0,0),(0:Int),())=some (Sum.inl (l,())):=by
  have:=aR (body:=OI (l,())) (fun n=>(l.take n++List.replicate (l.length-n) (0,0,0,0,0,0,0),(n:Int),())) l.length (by omega) (Sum.inl (l,())) (fun n hn=>?_) ?_
  ·unfold OJ;simpa using this
  ·unfold OI;have hx:n<(l.take n++List.replicate (l.length-n) ((0,0,0,0,0,0,0):Ev)).length:=by rw[dD _ _ (Nat.le_of_lt hn)];exact hn
   simp only[aj,az,hn,hx,decide_true,cond_true,aq,ace,Option.bind_some,av (n:=n) (by omega),aN];rw[<-dS l (0,0,0,0,0,0,0) hn,eX hn bf (0,0,0,0,0,0,0)]
  ·unfold OI;simp only[aj,Nat.lt_irrefl,decide_false,cond_false,Nat.sub_self,List.replicate_zero,List.append_nil,List.take_length]
 have hr:cW (ai l) ((0:Int),(0:Int),(0:Int),(0:Int),(0:Int),(0:Int),(0:Int))=List.replicate l.length (0,0,0,0,0,0,0):=dP _ _;rw[hr];simp only[cond_true];rw[Li];rfl
theorem Lo(a:Int):af .neq a a=false:=by simp[af]
theorem aab(a b c d e f g:Int):RZ a b c d e f g a b c d e f g=some (true,()):=by unfold RZ;simp only[Lo,cond_false]
theorem Xp(l:List Ev)(hl:l.length<=1073741824):O6 l l=some (true,()):=by
 unfold O6;rw[Lo];have Li:QS (l,l,()) ((0:Int),())=some (Sum.inr (Sum.inl ())):=by
  refine aR (fun n=>((n:Int),())) l.length (by omega) _ (fun n hn=>?_) ?_
  ·unfold QR;simp only[aj,az,hn,decide_true,cond_true,aab,Option.bind_some,av (n:=n) (by omega)];rfl
  ·unfold QR;simp only[aj,Nat.lt_irrefl,decide_false,cond_false]
 simp only[cond_false];rw[Li];rfl
theorem Ze(l:List Ev)(a:Int)(hl:l.length<=9223372036854775807)(ha:0<=a)(Wd:a<=1048576):O8 l a=some (bif decide (a<(l.length:Int))then -1 else a-(l.length:Int),()):=by
 unfold O8;have h1:aa .sub .i64 a (ai l)=a-(l.length:Int):=bO (by unfold ai;omega) (by unfold ai;omega);rw[h1];have h2:af .lss (a-(l.length:Int)) 0=decide (a<(l.length:Int)):=by simp only[af,decide_eq_decide];omega
 rw[h2];cases decide (a<(l.length:Int)) <;> rfl
end Go.Fn
set_option linter.unusedSimpArgs false
namespace Go.Fn
open Go.R
theorem aaG(l:List Int)(hl:l.length<=1073741824):TF l=some (l,()):=by
 unfold TF;rw[cC hl];have Li:Qi (l,()) (List.replicate l.length 0,(0:Int),())=some (Sum.inl (l,())):=by
  have:=aR (body:=Qh (l,())) (fun n=>(l.take n++List.replicate (l.length-n) 0,(n:Int),())) l.length (by omega) (Sum.inl (l,())) (fun n hn=>?_) ?_
  ·unfold Qi;simpa using this
  ·unfold Qh;have hx:n<(l.take n++List.replicate (l.length-n) (0:Int)).length:=by rw[dD _ _ (Nat.le_of_lt hn)];exact hn
   simp only[aj,az,hn,hx,decide_true,cond_true,aq,av (n:=n) (by omega),aN];rw[<-dS l 0 hn,eX hn zI 0]
  ·unfold Qh;simp only[aj,Nat.lt_irrefl,decide_false,cond_false,Nat.sub_self,List.replicate_zero,List.append_nil,List.take_length]
 have hr:cW (ai l) (0:Int)=List.replicate l.length 0:=dP _ _;rw[hr];simp only[cond_true];rw[Li];rfl
theorem YO(l:List Int)(hl:l.length<=1073741824):Tu l l=some (true,()):=by
 unfold Tu;rw[Lo];have Li:SI (l,l,()) ((0:Int),())=some (Sum.inr (Sum.inl ())):=by
  refine aR (fun n=>((n:Int),())) l.length (by omega) _ (fun n hn=>?_) ?_
  ·unfold SH;simp only[aj,az,hn,decide_true,cond_true,Lo,av (n:=n) (by omega)];rfl
  ·unfold SH;simp only[aj,Nat.lt_irrefl,decide_false,cond_false]
 simp only[cond_false];rw[Li];rfl
theorem abB{a:Int}(h0:0<=a)(h1:a<=4611686018427387904):aa .add .i64 a 1=a+1:=bV (by omega) (by omega)
theorem NT{l:List Ev}(h:QH l=true):l.length<=60:=by
 unfold QH at h;cases hd:decide (60<l.length)with
 |true=>rw[hd]at h;cases h
 |false=>have:=of_decide_eq_false hd;omega
theorem Zt{l:List Ev}(h:QH l=true){n:Nat}(hn:n<l.length):RT l n=true:=by have h60:=NT h;unfold QH at h;rw[decide_eq_false (by omega)]at h;exact(aQ _ _).1 h n (Nat.zero_le _) (by omega)
theorem abb{l:List Ev}(h:QH l=true){n:Nat}(hn:n<l.length):U8 (l.getD n bf)=true:=by
 have:=Zt h hn;cases n with
 |zero=>exact this
 |succ n=>simp only[RT,Bool.and_eq_true]at this;exact this.1
theorem K3{a lo hi:Int}:M4 a lo hi=true↔lo<=a/\a<=hi:=by
 unfold M4;by_cases h:lo<=a
 ·rw[decide_eq_true (show a>=lo from h)];simp[h]
 ·rw[decide_eq_false (show ¬a>=lo from h)];simp[h]
theorem ZO{a b:Bool}:(bif a then b else false)=true↔a=true/\b=true:=by cases a <;> simp
theorem Xs{e:Ev}:U8 e=true↔(0<=e.1/\e.1<=5)/\(1<=e.2.1/\e.2.1<=999)/\(1<=e.2.2.1/\e.2.2.1<=100000)/\(1<=e.2.2.2.1/\e.2.2.2.1<=4)/\(1<=e.2.2.2.2.1/\e.2.2.2.2.1<=999)/\(0<=e.2.2.2.2.2.1/\e.2.2.2.2.2.1<=20000)/\(0<=e.2.2.2.2.2.2/\e.2.2.2.2.2.2<=20000):=by unfold U8;simp only[ZO,K3]
theorem Uu{α:Type}{l:List α}{i:Int}(h0:0<=i)(h1:i<(l.length:Int)):ah l i=true:=by unfold ah;rw[Bool.and_eq_true];exact⟨decide_eq_true h0,decide_eq_true h1⟩
theorem Pq{a:Int}(h:0<=a):af .lss a 0=false:=by simp only[af,decide_eq_false_iff_not];omega
theorem Pc{α:Type}{l:List α}(h:l.length<=1073741824):aE l=true:=by unfold aE limit;exact decide_eq_true (by omega)
end Go.Fn
set_option linter.unusedSimpArgs false
namespace Go.Fn
open Go.R
theorem aaI(a0 a1:Int):Vd a0 a1=some (a0,a1,()):=rfl
theorem Xy(l:List (Int×Int))(hl:l.length<=1073741824):Ql l=some (l,()):=by
 unfold Ql;rw[cC hl];have Li:Pk (l,()) (List.replicate l.length (0,0),(0:Int),())=some (Sum.inl (l,())):=by
  have:=aR (body:=Pj (l,())) (fun n=>(l.take n++List.replicate (l.length-n) (0,0),(n:Int),())) l.length (by omega) (Sum.inl (l,())) (fun n hn=>?_) ?_
  ·unfold Pk;simpa using this
  ·unfold Pj;have hx:n<(l.take n++List.replicate (l.length-n) ((0,0):Int×Int)).length:=by rw[dD _ _ (Nat.le_of_lt hn)];exact hn
   simp only[aj,az,hn,hx,decide_true,cond_true,aq,aaI,Option.bind_some,av (n:=n) (by omega),aN];rw[<-dS l (0,0) hn,eX hn TS (0,0)]
  ·unfold Pj;simp only[aj,Nat.lt_irrefl,decide_false,cond_false,Nat.sub_self,List.replicate_zero,List.append_nil,List.take_length]
 have hr:cW (ai l) (((0:Int),(0:Int)))=List.replicate l.length (0,0):=dP _ _;rw[hr];simp only[cond_true];rw[Li];rfl
theorem YR(a0 a1:Int):Tx a0 a1 a0 a1=some (true,()):=by unfold Tx;simp only[Lo,cond_false]
theorem Wf(l:List (Int×Int))(hl:l.length<=1073741824):P7 l l=some (true,()):=by
 unfold P7;rw[Lo];have Li:RH (l,l,()) ((0:Int),())=some (Sum.inr (Sum.inl ())):=by
  refine aR (fun n=>((n:Int),())) l.length (by omega) _ (fun n hn=>?_) ?_
  ·unfold RG;simp only[aj,az,hn,decide_true,cond_true,YR,Option.bind_some,av (n:=n) (by omega)];rfl
  ·unfold RG;simp only[aj,Nat.lt_irrefl,decide_false,cond_false]
 simp only[cond_false];rw[Li];rfl
theorem Xx(l:List (Int×Int))(a:Int)(hl:l.length<=9223372036854775807)(ha:0<=a)(Wd:a<=1048576):Qc l a=some (bif decide (a<(l.length:Int))then -1 else a-(l.length:Int),()):=by
 unfold Qc;have h1:aa .sub .i64 a (ai l)=a-(l.length:Int):=bO (by unfold ai;omega) (by unfold ai;omega);rw[h1];have h2:af .lss (a-(l.length:Int)) 0=decide (a<(l.length:Int)):=by simp only[af,decide_eq_decide];omega
 rw[h2];cases decide (a<(l.length:Int)) <;> rfl
abbrev U6:=Int×Int
noncomputable def UC(l:List U6)(most:Int)(n:Nat):Bool:=
 bif af .lss (l.getD n TS).1 0 then false else bif af .geq (l.getD n TS).1 (l.getD n TS).2 then false else bif af .gtr (l.getD n TS).2 most then false else
  match n with
  |0=>true
  |m+1=>bif af .leq (l.getD (m+1) TS).1 (l.getD m TS).2 then false else true
noncomputable def R4(l:List U6)(most:Int):Bool:=bif decide (20<l.length)then false else aB (UC l most) 0 l.length
theorem acv{α:Type}(l:List α):af .gtr (ai l) (20:Int)=decide (20<l.length):=by simp only[af,ai,gt_iff_lt,decide_eq_decide];omega
theorem aeW:af .gtr ((0:Nat):Int) 0=false:=rfl
theorem Yo(l:List U6)(most:Int):QA l most=some (R4 l most,()):=by
 unfold QA R4;rw[acv];cases hl:decide (20<l.length)with
 |true=>rfl
 |false=>
  have hl:l.length<=20:=by have:=of_decide_eq_false hl;omega
  have Li:RM (l,most,()) ((0:Int),())=some (bif aB (UC l most) 0 l.length then(Sum.inr (Sum.inl ()):Bool×Unit⊕(Unit⊕Empty))else Sum.inl (false,())):=by
   refine bp (fun n=>((n:Int),())) l.length (by omega) (UC l most) _ _ (fun n hn=>?_) ?_
   ·unfold RL UC;simp only[aj,az,aq,hn,decide_true,cond_true];cases n with
    |zero=>simp only[aeW,cond_false];cases af .lss (l.getD 0 TS).1 0 <;> cases af .geq (l.getD 0 TS).1 (l.getD 0 TS).2 <;> cases af .gtr (l.getD 0 TS).2 most <;> rfl
    |succ n=>
     have hn':n<l.length:=by omega
     simp only[gt0,av (n:=n+1) (by omega),iw (n:=n) (by omega),cV hn',aq,cond_true];cases af .lss (l.getD (n+1) TS).1 0 <;> cases af .geq (l.getD (n+1) TS).1 (l.getD (n+1) TS).2 <;> cases af .gtr (l.getD (n+1) TS).2 most <;> cases af .leq (l.getD (n+1) TS).1 (l.getD n TS).2 <;> rfl
   ·unfold RL;simp only[aj,Nat.lt_irrefl,decide_false,cond_false]
  rw[Li];cases aB (UC l most) 0 l.length <;> rfl
theorem Yc(l:List U6)(most:Int):PU l most=some (R4 l most,()):=by
 unfold PU R4;rw[acv];cases hl:decide (20<l.length)with
 |true=>rfl
 |false=>
  have hl:l.length<=20:=by have:=of_decide_eq_false hl;omega
  have Li:Rv (l,most,l,ai l,()) ((0:Int),())=some (bif aB (UC l most) 0 l.length then(Sum.inr (Sum.inl ()):Bool×Unit⊕(Unit⊕Empty))else Sum.inl (false,())):=by
   refine bp (fun n=>((n:Int),())) l.length (by omega) (UC l most) _ _ (fun n hn=>?_) ?_
   ·unfold Ru UC;simp only[aj,az,aq,hn,decide_true,cond_true];cases n with
    |zero=>simp only[aeW,cond_false];cases af .lss (l.getD 0 TS).1 0 <;> cases af .geq (l.getD 0 TS).1 (l.getD 0 TS).2 <;> cases af .gtr (l.getD 0 TS).2 most <;> rfl
    |succ n=>
     have hn':n<l.length:=by omega
     simp only[gt0,av (n:=n+1) (by omega),iw (n:=n) (by omega),cV hn',aq,cond_true];cases af .lss (l.getD (n+1) TS).1 0 <;> cases af .geq (l.getD (n+1) TS).1 (l.getD (n+1) TS).2 <;> cases af .gtr (l.getD (n+1) TS).2 most <;> cases af .leq (l.getD (n+1) TS).1 (l.getD n TS).2 <;> rfl
   ·unfold Ru;simp only[aj,Nat.lt_irrefl,decide_false,cond_false]
  rw[Li];cases aB (UC l most) 0 l.length <;> rfl
noncomputable def RO(o c:List U6):Bool:=bif R4 o 168 then R4 c 20000 else false
theorem Vm(o c:List U6):Ov o c=some (RO o c,()):=by unfold Ov RO;simp only[Yo,Option.bind_some,Rj,Ri]
theorem U9(o c:List U6):Ol o c=some (RO o c,()):=by unfold Ol RO;simp only[Yc,Option.bind_some,Rj,Ri]
theorem Xc{l:List U6}{most:Int}(h:R4 l most=true):l.length<=20:=by
 unfold R4 at h;cases hd:decide (20<l.length)with
 |true=>rw[hd]at h;cases h
 |false=>have:=of_decide_eq_false hd;omega
theorem Xz{o c:List U6}(h:RO o c=true):o.length<=20/\c.length<=20:=by
 unfold RO at h;cases ho:R4 o 168 with
 |true=>rw[ho]at h;exact⟨Xc ho,Xc h⟩
 |false=>rw[ho]at h;cases h
noncomputable def WD(l:List U6)(x:Int)(n:Nat):Bool:=bif af .leq (l.getD n TS).1 x then !af .lss x (l.getD n TS).2 else true
noncomputable def aal(l:List U6)(x:Int):Bool:=!aB (WD l x) 0 l.length
theorem abH(a b:Int):af .geq a b=af .leq b a:=rfl
theorem XX(l:List U6)(x:Int)(hl:l.length<=1073741824):Ow l x=some (aal l x,()):=by
 unfold Ow aal;have Li:QD (l,x,()) ((0:Int),())=some (bif aB (WD l x) 0 l.length then(Sum.inr (Sum.inl ()):Bool×Unit⊕(Unit⊕Empty))else Sum.inl (true,())):=by
  refine bp (fun n=>((n:Int),())) l.length (by omega) (WD l x) _ _ (fun n hn=>?_) ?_
  ·unfold QC WD;simp only[aj,az,aq,hn,decide_true,cond_true,av (n:=n) (by omega)];cases af .leq (l.getD n TS).1 x <;> cases af .lss x (l.getD n TS).2 <;> rfl
  ·unfold QC;simp only[aj,Nat.lt_irrefl,decide_false,cond_false]
 rw[Li];cases aB (WD l x) 0 l.length <;> rfl
theorem XS(l:List U6)(x:Int)(hl:l.length<=1073741824):PW l x=some (aal l x,()):=by
 unfold PW aal;have Li:RD (x,l,ai l,()) ((0:Int),())=some (bif aB (WD l x) 0 l.length then(Sum.inr (Sum.inl ()):Bool×Unit⊕(Unit⊕Empty))else Sum.inl (true,())):=by
  refine bp (fun n=>((n:Int),())) l.length (by omega) (WD l x) _ _ (fun n hn=>?_) ?_
  ·unfold RC WD;simp only[aj,az,aq,hn,decide_true,cond_true,av (n:=n) (by omega),abH];cases af .leq (l.getD n TS).1 x <;> cases af .lss x (l.getD n TS).2 <;> rfl
  ·unfold RC;simp only[aj,Nat.lt_irrefl,decide_false,cond_false]
 rw[Li];cases aB (WD l x) 0 l.length <;> rfl
noncomputable def UB(o c:List U6)(x:Int):Bool:=bif aal o (aa .rem .i64 x 168)then Bool.not (aal c x)else false
theorem afz:ax (168:Int)=false:=rfl
theorem Zb{o c:List U6}(x:Int)(ho:o.length<=20)(hc:c.length<=20):R6 o c x=some (UB o c x,()):=by unfold R6 UB;simp only[afz,cond_false,XX o _ (by omega),XX c _ (by omega),Option.bind_some,Rj,Ri]
theorem YV{o c:List U6}(x:Int)(ho:o.length<=20)(hc:c.length<=20):To o c x=some (UB o c x,()):=by unfold To UB;simp only[afz,cond_false,XS o _ (by omega),XS c _ (by omega),Option.bind_some,Rj,Ri]
noncomputable def Ro(o c:List U6)(a:Int)(k:Nat):Int:=(List.range k).foldl (fun(n:Int) (i:Nat)=>bif UB o c (a+(i:Int))then n+1 else n) 0
noncomputable def hours(o c:List U6)(a b:Int):Int:=bif RO o c then bif M4 a 0 20000 then bif M4 b 0 20000 then Ro o c a (b-a).toNat else 0 else 0 else 0
theorem V9(o c:List U6)(a:Int)(k:Nat):Ro o c a (k+1)=bif UB o c (a+(k:Int))then Ro o c a k+1 else Ro o c a k:=by unfold Ro;rw[List.range_succ,List.foldl_append];rfl
theorem Vi(o c:List U6)(a:Int):∀k:Nat,0<=Ro o c a k/\Ro o c a k<=(k:Int)
 |0=>⟨Int.le_refl 0,Int.le_refl 0⟩
 |k+1=>by
  have:=Vi o c a k;rw[V9];cases UB o c (a+(k:Int))with
  |true=>simp only[cond_true];omega
  |false=>simp only[cond_false];omega
theorem Ym(o c:List U6)(a b:Int):Qw o c a b=some (hours o c a b,()):=by
 unfold Qw hours;simp only[Vm,PX,Option.bind_some];cases hw:RO o c with
 |false=>rfl
 |true=>
  obtain⟨ho,hc⟩:=Xz hw;simp only[Bool.not_true,cond_false,cond_true];cases ha:M4 a 0 20000 with
  |false=>rfl
  |true=>
   simp only[Bool.not_true,cond_false,cond_true];cases hb:M4 b 0 20000 with
   |false=>rfl
   |true=>
    have ha:=K3.1 ha;have hb:=K3.1 hb;simp only[Bool.not_true,cond_false,cond_true];have Li:Oc (b,o,c,()) ((0:Int),a,())=some (Sum.inl (Ro o c a (b-a).toNat,())):=by
     have:=aR (body:=Ob (b,o,c,())) (fun n=>(Ro o c a n,a+(n:Int),())) (b-a).toNat (by omega) (Sum.inl (Ro o c a (b-a).toNat,())) (fun n hn=>?_) ?_
     ·unfold Oc;simpa[Ro] using this
     ·have hbd:=Vi o c a n;unfold Ob;have h1:af .lss (a+(n:Int)) b=true:=by simp only[af,decide_eq_true_eq];omega
      simp only[h1,cond_true,Zb _ ho hc,Option.bind_some];rw[V9,abB (a:=a+(n:Int)) (by omega) (by omega),abB (a:=Ro o c a n) (by omega) (by omega)];have h2:a+(n:Int)+1=a+((n+1:Nat):Int):=by omega
      rw[h2];cases UB o c (a+(n:Int)) <;> rfl
     ·unfold Ob;have h1:af .lss (a+((b-a).toNat:Int)) b=false:=by simp only[af,decide_eq_false_iff_not];omega
      simp only[h1,cond_false]
    rw[Li];rfl
theorem Ya(o c:List U6)(a b:Int):PR o c a b=some (hours o c a b,()):=by
 unfold PR hours;simp only[U9,Vw,Option.bind_some];cases hw:RO o c with
 |false=>rfl
 |true=>
  obtain⟨ho,hc⟩:=Xz hw;simp only[Bool.not_true,cond_false,cond_true];cases ha:M4 a 0 20000 with
  |false=>rfl
  |true=>
   simp only[Bool.not_true,cond_false,cond_true];cases hb:M4 b 0 20000 with
   |false=>rfl
   |true=>
    have ha:=K3.1 ha;have hb:=K3.1 hb;simp only[Bool.not_true,cond_false,cond_true];have Li:N6 (b,o,c,()) ((0:Int),a,())=some (Sum.inl (Ro o c a (b-a).toNat,())):=by
     have:=aR (body:=N5 (b,o,c,())) (fun n=>(Ro o c a n,a+(n:Int),())) (b-a).toNat (by omega) (Sum.inl (Ro o c a (b-a).toNat,())) (fun n hn=>?_) ?_
     ·unfold N6;simpa[Ro] using this
     ·have hbd:=Vi o c a n;unfold N5;have h1:af .lss (a+(n:Int)) b=true:=by simp only[af,decide_eq_true_eq];omega
      simp only[h1,cond_true,YV _ ho hc,Option.bind_some];rw[V9,abB (a:=a+(n:Int)) (by omega) (by omega),abB (a:=Ro o c a n) (by omega) (by omega)];have h2:a+(n:Int)+1=a+((n+1:Nat):Int):=by omega
      rw[h2];cases UB o c (a+(n:Int)) <;> rfl
     ·unfold N5;have h1:af .lss (a+((b-a).toNat:Int)) b=false:=by simp only[af,decide_eq_false_iff_not];omega
      simp only[h1,cond_false]
    rw[Li];rfl
noncomputable def Rg(a0 a1 a2 a3 a4 a5 a6 a7:Int):Bool:=bif M4 a0 1 2000 then bif M4 a2 1 2000 then bif M4 a5 1 2000 then bif M4 a1 0 2000 then bif M4 a3 0 10000 then bif M4 a4 0 1000000 then bif M4 a6 0 100000 then M4 a7 0 20 else false else false else false else false else false else false else false
theorem WE(a0 a1 a2 a3 a4 a5 a6 a7:Int):QB a0 a1 a2 a3 a4 a5 a6 a7=some (Rg a0 a1 a2 a3 a4 a5 a6 a7,()):=by unfold QB Rg;simp only[PX,Option.bind_some,Rj,Ri]
theorem Wh(a0 a1 a2 a3 a4 a5 a6 a7:Int):PV a0 a1 a2 a3 a4 a5 a6 a7=some (Rg a0 a1 a2 a3 a4 a5 a6 a7,()):=by unfold PV Rg;simp only[K2,Option.bind_some,Rj,Ri]
theorem WG{a0 a1 a2 a3 a4 a5 a6 a7:Int}(h:Rg a0 a1 a2 a3 a4 a5 a6 a7=true):1<=a2:=by unfold Rg at h;simp only[ZO,K3]at h;exact h.2.1.1
noncomputable def over(free step rate cap size open_:Int):Int:=bI false cap (aa .mul .i64 (aa .mul .i64 (aa .quo .i64 (aa .sub .i64 (aa .add .i64 (aa .sub .i64 open_ free) step) 1) step) rate) size)
noncomputable def abr(free step rate cap size open_:Int):Int:=bif af .leq (aa .sub .i64 open_ free) 0 then 0 else over free step rate cap size open_
theorem YX{a2:Int}(h:1<=a2)(a0 a1 a3 a4 a5 a6 a7 a8 a9:Int):RY a0 a1 a2 a3 a4 a5 a6 a7 a8 a9=some (abr a1 a2 a3 a4 a8 a9,()):=by
 unfold RY abr;have hz:ax a2=false:=by unfold ax;exact decide_eq_false (by omega)
 rw[hz];cases af .leq (aa .sub .i64 a9 a1) 0 <;> rfl
theorem ZR(a b:Int):af .gtr a b=Bool.not (af .leq a b):=by
 simp only[af,gt_iff_lt];by_cases h:a<=b
 ·rw[decide_eq_true h,decide_eq_false (by omega)];rfl
 ·rw[decide_eq_false h,decide_eq_true (by omega)];rfl
theorem Za{a2:Int}(h:1<=a2)(a0 a1 a3 a4 a5 a6 a7 a8 a9 a10:Int):TO a0 a1 a2 a3 a4 a5 a6 a7 a8 a9 a10=some (aa .add .i64 (abr a1 a2 a3 a4 a8 a9) (aa .mul .i64 a6 a10),()):=by
 unfold TO abr;have hz:ax a2=false:=by unfold ax;exact decide_eq_false (by omega)
 rw[hz,ZR];cases af .leq (aa .sub .i64 a9 a1) 0 <;> rfl
noncomputable def fee(o c:List U6)(a0 a1 a2 a3 a4 a5 a6 a7 size a b ext:Int):Int:=bif RO o c&&(Rg a0 a1 a2 a3 a4 a5 a6 a7&&(M4 size 1 24&&(M4 a 0 20000&&(M4 b 0 20000&&(!af .lss b a&&M4 ext 0 a7)))))then aa .add .i64 (abr a1 a2 a3 a4 size (hours o c a b)) (aa .mul .i64 a6 ext)else -1
theorem Zq(o c:List U6)(a0 a1 a2 a3 a4 a5 a6 a7 size a b ext:Int):Ut o c a0 a1 a2 a3 a4 a5 a6 a7 size a b ext=some (fee o c a0 a1 a2 a3 a4 a5 a6 a7 size a b ext,()):=by
 unfold Ut fee;simp only[U9,Wh,K2,Vw,Ya,Option.bind_some];cases RO o c with
 |false=>rfl
 |true=>
  cases ht:Rg a0 a1 a2 a3 a4 a5 a6 a7 with
  |false=>rfl
  |true=>
   rw[YX (WG ht)];cases M4 size 1 24 with
   |false=>rfl
   |true=>
    cases M4 a 0 20000 with
    |false=>rfl
    |true=>
     cases M4 b 0 20000 with
     |false=>rfl
     |true=>
      cases af .lss b a with
      |true=>rfl
      |false=>cases M4 ext 0 a7 <;> rfl
theorem ZE(o c:List U6)(a0 a1 a2 a3 a4 a5 a6 a7 size a b ext:Int):UD o c a0 a1 a2 a3 a4 a5 a6 a7 size a b ext=some (fee o c a0 a1 a2 a3 a4 a5 a6 a7 size a b ext,()):=by
 unfold UD fee;simp only[Vm,WE,PX,Ym,Option.bind_some];cases RO o c with
 |false=>rfl
 |true=>
  cases ht:Rg a0 a1 a2 a3 a4 a5 a6 a7 with
  |false=>rfl
  |true=>
   rw[Za (WG ht)];cases M4 size 1 24 with
   |false=>rfl
   |true=>
    cases hb:M4 b 0 20000 with
    |false=>cases M4 a 0 20000 <;> rfl
    |true=>
     have hb:=K3.1 hb;have hab:M4 a 0 b=(M4 a 0 20000 && !af .lss b a):=by rw[Bool.eq_iff_iff,Bool.and_eq_true,K3,K3];simp only[af,Bool.not_eq_true',decide_eq_false_iff_not];omega
     rw[hab];cases M4 a 0 20000 with
     |false=>rfl
     |true=>
      cases af .lss b a with
      |true=>rfl
      |false=>cases M4 ext 0 a7 <;> rfl
abbrev Sty:=Int×Int×Int×Int
theorem aaJ(o c:List U6)(ho:o.length<=1073741824)(hc:c.length<=1073741824):TG o c=some (o,c,()):=by unfold TG;rw[Xy o ho];simp only[Option.bind_some];rw[Xy c hc];rfl
theorem YS(o c:List U6)(ho:o.length<=1073741824)(hc:c.length<=1073741824):Tz o c o c=some (true,()):=by unfold Tz;rw[Wf o ho];simp only[Option.bind_some,Bool.not_true,cond_false];rw[Wf c hc];rfl
theorem ZM(a0 a1 a2 a3 a4 a5 a6 a7:Int):Uy a0 a1 a2 a3 a4 a5 a6 a7=some (a0,a1,a2,a3,a4,a5,a6,a7,()):=rfl
theorem Vu(b:Bool):bQ b b=true:=by unfold bQ;simp
theorem ada:af .lss (-1:Int) 0=true:=rfl
theorem aaD(o c:List U6)(a:Int)(ho:o.length<=9223372036854775807)(hc:c.length<=9223372036854775807)(ha:0<=a)(Wd:a<=1048576):
  TD o c a=some (bif decide (a<(o.length:Int)+(c.length:Int))then -1 else a-(o.length:Int)-(c.length:Int),()):=by
 unfold TD;rw[Xx o a ho ha Wd];simp only[Option.bind_some];cases h1:decide (a<(o.length:Int))with
 |true=>have h1:=of_decide_eq_true h1;rw[decide_eq_true (show a<(o.length:Int)+(c.length:Int)by omega)];simp only[cond_true,ada]
 |false=>
  have h1:=of_decide_eq_false h1;simp only[cond_false];rw[Pq (by omega)];simp only[cond_false];rw[Xx c _ hc (by omega) (by omega)];simp only[Option.bind_some];have h3:decide (a-(o.length:Int)<(c.length:Int))=decide (a<(o.length:Int)+(c.length:Int)):=by rw[decide_eq_decide];omega
  rw[h3];cases h2:decide (a<(o.length:Int)+(c.length:Int))with
  |true=>simp only[cond_true,ada]
  |false=>have h2:=of_decide_eq_false h2;simp only[cond_false];rw[Pq (by omega)];rfl
end Go.Fn
set_option linter.unusedSimpArgs false
namespace Go.Fn
open Go.R
abbrev Stp:=Int×Int×Int×Int×Int
theorem aaB(l:List Int)(a:Int)(hl:l.length<=9223372036854775807)(ha:0<=a)(Wd:a<=1048576):TB l a=some (bif decide (a<(l.length:Int))then -1 else a-(l.length:Int),()):=by
 unfold TB;have h1:aa .sub .i64 a (ai l)=a-(l.length:Int):=bO (by unfold ai;omega) (by unfold ai;omega);rw[h1];have h2:af .lss (a-(l.length:Int)) 0=decide (a<(l.length:Int)):=by simp only[af,decide_eq_decide];omega
 rw[h2];cases decide (a<(l.length:Int)) <;> rfl
end Go.Fn
set_option linter.unusedSimpArgs false
namespace Go.Fn
open Go.R
noncomputable def leg(g:List (List Int))(i j:Nat):Int:=(g.getD i afA).getD j zI
noncomputable def nat(l:List Int)(x:Int)(n:Nat):Bool:=!af .eql (l.getD n zI) x
noncomputable def agQ(l:List Int)(x:Int):Bool:=!aB (nat l x) 0 l.length
end Go.Fn
set_option linter.unusedSimpArgs false
namespace Go.Fn
open Go.R
abbrev RSt:=Int×List Int×Int×Int×Int×Int
noncomputable def arr(g:List (List Int))(st:RSt)(i:Int):Int:=aa .add .i64 st.2.2.1 (ae zI (ae afA g st.2.2.2.2.2) (aa .add .i64 i 1))
theorem abS(a b:Int):af .leq a b=Bool.not (af .gtr a b):=by rw[ZR,Bool.not_not]
end Go.Fn
set_option linter.unusedSimpArgs false
namespace Go.Fn
open Go.R
theorem X6(a0 a1 a2 a3 a4 a5 a6 a7:Int):R2 a0 a1 a2 a3 a4 a5 a6 a7 a0 a1 a2 a3 a4 a5 a6 a7=some (true,()):=by unfold R2;simp only[Lo,cond_false]
abbrev Trm:=Int×Int×Int×Int×Int×Int×Int×Int
end Go.Fn
set_option linter.unusedSimpArgs false
namespace Go.Fn
open Go.R
theorem Zk(a0 a1 a2 a3 a4 a5 a6 a7 a8 a9 a10 a11 a12:Int):TR a0 a1 a2 a3 a4 a5 a6 a7 a8 a9 a10 a11 a12=some (a0,a1,a2,a3,a4,a5,a6,a7,a8,a9,a10,a11,a12,()):=rfl
theorem YP(a0 a1 a2 a3 a4:Int):Tv a0 a1 a2 a3 a4 a0 a1 a2 a3 a4=some (true,()):=by unfold Tv;simp only[Lo,cond_false]
theorem XF(a0 a1 a2 a3 a4 a5 a6 a7 a8 a9 a10 a11 a12:Int):Ra a0 a1 a2 a3 a4 a5 a6 a7 a8 a9 a10 a11 a12 a0 a1 a2 a3 a4 a5 a6 a7 a8 a9 a10 a11 a12=some (true,()):=by unfold Ra;simp only[Lo,cond_false,YP,Option.bind_some,Bool.not_true]
theorem abu(a0:Int)(a1:Int)(a2:Int)(a3:Bool):VQ a0 a1 a2 a3=some (a0,a1,a2,a3,()):=rfl
theorem aaE(l:List (Int×Int×Int×Bool))(hl:l.length<=1073741824):TE l=some (l,()):=by
 unfold TE;rw[cC hl];have Li:Qe (l,()) (List.replicate l.length (0,0,0,false),(0:Int),())=some (Sum.inl (l,())):=by
  have:=aR (body:=Qd (l,())) (fun n=>(l.take n++List.replicate (l.length-n) (0,0,0,false),(n:Int),())) l.length (by omega) (Sum.inl (l,())) (fun n hn=>?_) ?_
  ·unfold Qe;simpa using this
  ·unfold Qd;have hx:n<(l.take n++List.replicate (l.length-n) ((0,0,0,false):Int×Int×Int×Bool)).length:=by rw[dD _ _ (Nat.le_of_lt hn)];exact hn
   simp only[aj,az,hn,hx,decide_true,cond_true,aq,abu,Option.bind_some,aV,av (n:=n) (by omega),aN];rw[<-dS l (0,0,0,false) hn,eX hn Na (0,0,0,false)]
  ·unfold Qd;simp only[aj,Nat.lt_irrefl,decide_false,cond_false,Nat.sub_self,List.replicate_zero,List.append_nil,List.take_length]
 have hr:cW (ai l) (((0:Int),(0:Int),(0:Int),false))=List.replicate l.length (0,0,0,false):=dP _ _;rw[hr];simp only[cond_true];rw[Li];rfl
theorem Zo(a0:Int)(a1:Int)(a2:Int)(a3:Bool):Uv a0 a1 a2 a3 a0 a1 a2 a3=some (true,()):=by unfold Uv;simp only[Lo,Vu,Bool.not_true,cond_false]
theorem YM(l:List (Int×Int×Int×Bool))(hl:l.length<=1073741824):Ts l l=some (true,()):=by
 unfold Ts;rw[Lo];have Li:SG (l,l,()) ((0:Int),())=some (Sum.inr (Sum.inl ())):=by
  refine aR (fun n=>((n:Int),())) l.length (by omega) _ (fun n hn=>?_) ?_
  ·unfold SF;simp only[aj,az,hn,decide_true,cond_true,Zo,Option.bind_some,av (n:=n) (by omega)];rfl
  ·unfold SF;simp only[aj,Nat.lt_irrefl,decide_false,cond_false]
 simp only[cond_false];rw[Li];rfl
theorem aaA(l:List (Int×Int×Int×Bool))(a:Int)(hl:l.length<=9223372036854775807)(ha:0<=a)(Wd:a<=1048576):TA l a=some (bif decide (a<(l.length:Int))then -1 else a-(l.length:Int),()):=by
 unfold TA;have h1:aa .sub .i64 a (ai l)=a-(l.length:Int):=bO (by unfold ai;omega) (by unfold ai;omega);rw[h1];have h2:af .lss (a-(l.length:Int)) 0=decide (a<(l.length:Int)):=by simp only[af,decide_eq_decide];omega
 rw[h2];cases decide (a<(l.length:Int)) <;> rfl
theorem Yu(l:List (Int×Int×Int×Int×Int×Int×Int×Int×Int×Int×Int×Int×Int))(hl:l.length<=1073741824):Qk l=some (l,()):=by
 unfold Qk;rw[cC hl];have Li:Oa (l,()) (List.replicate l.length (0,0,0,0,0,0,0,0,0,0,0,0,0),(0:Int),())=some (Sum.inl (l,())):=by
  have:=aR (body:=N9 (l,())) (fun n=>(l.take n++List.replicate (l.length-n) (0,0,0,0,0,0,0,0,0,0,0,0,0),(n:Int),())) l.length (by omega) (Sum.inl (l,())) (fun n hn=>?_) ?_
  ·unfold Oa;simpa using this
  ·unfold N9;have hx:n<(l.take n++List.replicate (l.length-n) ((0,0,0,0,0,0,0,0,0,0,0,0,0):Int×Int×Int×Int×Int×Int×Int×Int×Int×Int×Int×Int×Int)).length:=by rw[dD _ _ (Nat.le_of_lt hn)];exact hn
   simp only[aj,az,hn,hx,decide_true,cond_true,aq,Zk,Option.bind_some,aV,av (n:=n) (by omega),aN];rw[<-dS l (0,0,0,0,0,0,0,0,0,0,0,0,0) hn,eX hn qk (0,0,0,0,0,0,0,0,0,0,0,0,0)]
  ·unfold N9;simp only[aj,Nat.lt_irrefl,decide_false,cond_false,Nat.sub_self,List.replicate_zero,List.append_nil,List.take_length]
 have hr:cW (ai l) (((0:Int),(0:Int),(0:Int),(0:Int),(0:Int),(0:Int),(0:Int),(0:Int),(0:Int),(0:Int),(0:Int),(0:Int),(0:Int)))=List.replicate l.length (0,0,0,0,0,0,0,0,0,0,0,0,0):=dP _ _;rw[hr];simp only[cond_true];rw[Li];rfl
theorem Xr(l:List (Int×Int×Int×Int×Int×Int×Int×Int×Int×Int×Int×Int×Int))(hl:l.length<=1073741824):P4 l l=some (true,()):=by
 unfold P4;rw[Lo];have Li:P6 (l,l,()) ((0:Int),())=some (Sum.inr (Sum.inl ())):=by
  refine aR (fun n=>((n:Int),())) l.length (by omega) _ (fun n hn=>?_) ?_
  ·unfold P5;simp only[aj,az,hn,decide_true,cond_true,XF,Option.bind_some,av (n:=n) (by omega)];rfl
  ·unfold P5;simp only[aj,Nat.lt_irrefl,decide_false,cond_false]
 simp only[cond_false];rw[Li];rfl
theorem Yr(l:List (Int×Int×Int×Int×Int×Int×Int×Int×Int×Int×Int×Int×Int))(a:Int)(hl:l.length<=9223372036854775807)(ha:0<=a)(Wd:a<=1048576):Qb l a=some (bif decide (a<(l.length:Int))then -1 else a-(l.length:Int),()):=by
 unfold Qb;have h1:aa .sub .i64 a (ai l)=a-(l.length:Int):=bO (by unfold ai;omega) (by unfold ai;omega);rw[h1];have h2:af .lss (a-(l.length:Int)) 0=decide (a<(l.length:Int)):=by simp only[af,decide_eq_decide];omega
 rw[h2];cases decide (a<(l.length:Int)) <;> rfl
theorem ZK(a0:Int)(a1:Int)(a2:Int)(a3:Int)(a4:Int)(a5:Int)(a6:Bool):Ux a0 a1 a2 a3 a4 a5 a6=some (a0,a1,a2,a3,a4,a5,a6,()):=rfl
theorem Zj(l:List (Int×Int×Int×Int×Int×Int×Bool))(hl:l.length<=1073741824):Rc l=some (l,()):=by
 unfold Rc;rw[cC hl];have Li:OL (l,()) (List.replicate l.length (0,0,0,0,0,0,false),(0:Int),())=some (Sum.inl (l,())):=by
  have:=aR (body:=OK (l,())) (fun n=>(l.take n++List.replicate (l.length-n) (0,0,0,0,0,0,false),(n:Int),())) l.length (by omega) (Sum.inl (l,())) (fun n hn=>?_) ?_
  ·unfold OL;simpa using this
  ·unfold OK;have hx:n<(l.take n++List.replicate (l.length-n) ((0,0,0,0,0,0,false):Int×Int×Int×Int×Int×Int×Bool)).length:=by rw[dD _ _ (Nat.le_of_lt hn)];exact hn
   simp only[aj,az,hn,hx,decide_true,cond_true,aq,ZK,Option.bind_some,aV,av (n:=n) (by omega),aN];rw[<-dS l (0,0,0,0,0,0,false) hn,eX hn Pf (0,0,0,0,0,0,false)]
  ·unfold OK;simp only[aj,Nat.lt_irrefl,decide_false,cond_false,Nat.sub_self,List.replicate_zero,List.append_nil,List.take_length]
 have hr:cW (ai l) (((0:Int),(0:Int),(0:Int),(0:Int),(0:Int),(0:Int),false))=List.replicate l.length (0,0,0,0,0,0,false):=dP _ _;rw[hr];simp only[cond_true];rw[Li];rfl
theorem X4(a0:Int)(a1:Int)(a2:Int)(a3:Int)(a4:Int)(a5:Int)(a6:Bool):R0 a0 a1 a2 a3 a4 a5 a6 a0 a1 a2 a3 a4 a5 a6=some (true,()):=by unfold R0;simp only[Lo,Vu,Bool.not_true,cond_false]
theorem XE(l:List (Int×Int×Int×Int×Int×Int×Bool))(hl:l.length<=1073741824):Q9 l l=some (true,()):=by
 unfold Q9;rw[Lo];have Li:QU (l,l,()) ((0:Int),())=some (Sum.inr (Sum.inl ())):=by
  refine aR (fun n=>((n:Int),())) l.length (by omega) _ (fun n hn=>?_) ?_
  ·unfold QT;simp only[aj,az,hn,decide_true,cond_true,X4,Option.bind_some,av (n:=n) (by omega)];rfl
  ·unfold QT;simp only[aj,Nat.lt_irrefl,decide_false,cond_false]
 simp only[cond_false];rw[Li];rfl
theorem Zf(l:List (Int×Int×Int×Int×Int×Int×Bool))(a:Int)(hl:l.length<=9223372036854775807)(ha:0<=a)(Wd:a<=1048576):Rb l a=some (bif decide (a<(l.length:Int))then -1 else a-(l.length:Int),()):=by
 unfold Rb;have h1:aa .sub .i64 a (ai l)=a-(l.length:Int):=bO (by unfold ai;omega) (by unfold ai;omega);rw[h1];have h2:af .lss (a-(l.length:Int)) 0=decide (a<(l.length:Int)):=by simp only[af,decide_eq_decide];omega
 rw[h2];cases decide (a<(l.length:Int)) <;> rfl
theorem YL {α:Type} {body:List α×Int×Unit->Option ((List α×Int×Unit)⊕(List α×Unit⊕Empty))} (l:List α) (zr z:α) (hl:l.length<=1073741824)
  (h:∀(n:Nat) (acc:List α),n<l.length->acc.length=l.length->body (acc,(n:Int),())=some (.inl (acc.set n (l.getD n z),((n+1:Nat):Int),())))
  (hend:∀acc:List α,acc.length=l.length->body (acc,(l.length:Int),())=some (.inr (.inl (acc,())))):iter body big (List.replicate l.length zr,0,())=some (Sum.inl (l,())):=by
 have:=aR (body:=body) (fun n=>(l.take n++List.replicate (l.length-n) zr,(n:Int),())) l.length (by omega) (Sum.inl (l,())) (fun n hn=>?_) ?_
 ·simpa using this
 ·show body (l.take n++List.replicate (l.length-n) zr,(n:Int),())=_;rw[h n _ hn (dD _ _ (Nat.le_of_lt hn)),eX hn z zr,dS l zr hn]
 ·show body (l.take l.length++List.replicate (l.length-l.length) zr,(l.length:Int),())=_;rw[hend _ (dD _ _ (Nat.le_refl _))];simp
theorem Y8 {α:Type} {body:Int×Int×Unit->Option ((Int×Int×Unit)⊕(Int×Unit⊕(Int×Unit⊕Empty)))} (l:List α) (hl:l.length<=1073741824) (small:Nat->Prop)
  (h:∀(n:Nat) (a:Int),n<l.length->0<=a->a<=1048576->body (a,(n:Int),())=some (.inr (.inl (-1,())))\/∃b,body (a,(n:Int),())=some (.inl (b,((n+1:Nat):Int),()))/\0<=b/\b<=a/\small n)
  (hend:∀a,body (a,(l.length:Int),())=some (.inr (.inr (.inl (a,()))))) (a:Int) (ha:0<=a) (Wd:a<=1048576):
  ∃y,iter body big (a,0,())=some y/\(y=.inl (-1,())\/∃b,y=.inr (.inl (b,()))/\0<=b/\b<=a/\∀n,n<l.length->small n):=by
 have key:∀(k n:Nat) (a:Int),n+k=l.length->0<=a->a<=1048576->∃y,iter body (k+1) (a,(n:Int),())=some y/\(y=.inl (-1,())\/∃b,y=.inr (.inl (b,()))/\0<=b/\b<=a/\∀m,n<=m->m<l.length->small m):=by
  intro k;induction k with
  |zero=>
   intro n a hn h0 h1;have:n=l.length:=by omega
   subst this;exact⟨_,ay (hend a),.inr ⟨a,rfl,h0,Int.le_refl _,fun m h2 h3=>absurd h3 (by omega)⟩⟩
  |succ k ih=>
   intro n a hn h0 h1;rcases h n a (by omega) h0 h1 with h|⟨b,h,b0,b1,hs⟩
   ·exact⟨_,ay h,.inl rfl⟩
   ·obtain⟨y,q1,q2⟩:=ih (n+1) b (by omega) b0 (by omega);refine⟨y,by rw[aH h];exact q1,q2.imp id fun⟨c,c1,c2,c3,c4⟩=>⟨c,c1,c2,by omega,fun m h2 h3=>?_⟩⟩;rcases Nat.lt_or_ge n m with h4|h4
    ·exact c4 m (by omega) h3
    ·have:m=n:=by omega
     subst this;exact hs
 obtain⟨y,h1,h2⟩:=key l.length 0 a (by omega) ha Wd;exact⟨y,bF h1 (aT (by omega)),h2.imp id fun⟨b,b1,b2,b3,b4⟩=>⟨b,b1,b2,b3,fun n hn=>b4 n (Nat.zero_le _) hn⟩⟩
abbrev Bx:=Int×Int×Int×Bool
abbrev Xe:=Int×List Int×List Bx
abbrev Site:=List U6×List U6×List Xe×Int×Int×Bool×Bool×Bool×Int×Int×List Ev
noncomputable def SZ:Xe:=I8
noncomputable def L3:Site:=b7
noncomputable def Xm(m:Nat)(c:Xe):Prop:=c.2.1.length<=m/\c.2.2.length<=m
theorem Zh(a0:Int)(a1:List Int)(a2:List Bx)(h1:a1.length<=1073741824)(h2:a2.length<=1073741824):O9 a0 a1 a2=some (a0,a1,a2,()):=by unfold O9;rw[aaG a1 h1];simp only[Option.bind_some];rw[aaE a2 h2];rfl
theorem XD(a0:Int)(a1:List Int)(a2:List Bx)(h1:a1.length<=1073741824)(h2:a2.length<=1073741824):O5 a0 a1 a2 a0 a1 a2=some (true,()):=by unfold O5;simp only[Lo,cond_false,YO a1 h1,Option.bind_some,Bool.not_true,YM a2 h2]
theorem Zd(a0:Int)(a1:List Int)(a2:List Bx)(a:Int)(h1:a1.length<=9223372036854775807)(h2:a2.length<=9223372036854775807)(ha:0<=a)(Wd:a<=1048576):
  ∃b,O7 a0 a1 a2 a=some (b,())/\(b = -1\/(0<=b/\b<=a/\a1.length<=1073741824/\a2.length<=1073741824)):=by
 unfold O7;rw[aaB a1 a h1 ha Wd];simp only[Option.bind_some];cases hd:decide (a<(a1.length:Int))with
 |true=>exact⟨-1,rfl,.inl rfl⟩
 |false=>
  have hd:=of_decide_eq_false hd;simp only[cond_false];rw[Pq (by omega)];simp only[cond_false];rw[aaA a2 _ h2 (by omega) (by omega)];simp only[Option.bind_some];cases mP:decide (a-(a1.length:Int)<(a2.length:Int))with
  |true=>exact⟨-1,rfl,.inl rfl⟩
  |false=>have mP:=of_decide_eq_false mP;simp only[cond_false];rw[Pq (by omega)];exact⟨_,rfl,.inr ⟨by omega,by omega,by show _<=1073741824;omega,by show _<=1073741824;omega⟩⟩
theorem NH{α:Type}{l:List α}{n:Nat}(h:n<l.length)(z:α):l.getD n z∈l:=by rw[List.getD_eq_getElem?_getD,List.getElem?_eq_getElem h];exact List.getElem_mem h
theorem Ys(l:List Xe)(hl:l.length<=1073741824)(hc:∀n,n<l.length->Xm 1073741824 (l.getD n SZ)):Qf l=some (l,()):=by
 unfold Qf;rw[cC hl];have hr:cW (ai l) (((0:Int),([]:List Int),([]:List Bx)))=List.replicate l.length (0,[],[]):=dP _ _;rw[hr];have:=YL (body:=N8 (l,())) l (0,[],[]) SZ hl (fun n acc hn ha=>by
  obtain⟨c1,c2⟩:=hc n hn;unfold N8;simp only[aj,az,hn,ha,decide_true,cond_true,aq,aV,av (n:=n) (show n<1099511627776 by omega),aN];show((O9 (l.getD n SZ).1 (l.getD n SZ).2.1 (l.getD n SZ).2.2).bind _)=_;rw[Zh _ _ _ c1 c2];rfl) (fun acc _=>by
  unfold N8;simp only[aj,Nat.lt_irrefl,decide_false,cond_false])
 simp only[cond_true];unfold Qg;rw[this];rfl
theorem Xo(l:List Xe)(hl:l.length<=1073741824)(hc:∀n,n<l.length->Xm 1073741824 (l.getD n SZ)):PY l l=some (true,()):=by
 unfold PY;rw[Lo];have Li:P0 (l,l,()) ((0:Int),())=some (Sum.inr (Sum.inl ())):=by
  refine aR (fun n=>((n:Int),())) l.length (by show _<_;omega) _ (fun n hn=>?_) ?_
  ·obtain⟨c1,c2⟩:=hc n hn;unfold PZ;simp only[aj,az,hn,decide_true,cond_true,aq,aV,av (n:=n) (show n<1099511627776 by omega)];show((O5 (l.getD n SZ).1 (l.getD n SZ).2.1 (l.getD n SZ).2.2 (l.getD n SZ).1 (l.getD n SZ).2.1 (l.getD n SZ).2.2).bind _)=_;rw[XD _ _ _ c1 c2];rfl
  ·unfold PZ;simp only[aj,Nat.lt_irrefl,decide_false,cond_false]
 simp only[cond_false];rw[Li];rfl
theorem Yp(l:List Xe)(a:Int)(hl:l.length<=9223372036854775807)(hw:∀c∈l,Xm 9223372036854775807 c)(ha:0<=a)(Wd:a<=1048576):
  ∃b,P8 l a=some (b,())/\(b = -1\/(0<=b/\b<=a/\l.length<=1073741824/\∀n,n<l.length->Xm 1073741824 (l.getD n SZ))):=by
 unfold P8;have h1:aa .sub .i64 a (ai l)=a-(l.length:Int):=bO (by unfold ai;have:l.length<=9223372036854775807:=hl;omega) (by unfold ai;omega);have h2:af .lss (a-(l.length:Int)) 0=decide (a<(l.length:Int)):=by simp only[af,decide_eq_decide];omega
 rw[h1,h2];cases hd:decide (a<(l.length:Int))with
 |true=>exact⟨-1,rfl,.inl rfl⟩
 |false=>
  have hd:=of_decide_eq_false hd;have aa9:l.length<=1073741824:=by omega
  obtain⟨y,q1,q2⟩:=Y8 (body:=Np (l,())) l aa9 (fun n=>Xm 1073741824 (l.getD n SZ)) (fun n a hn h0 h1=>by
   obtain⟨c1,c2⟩:=hw _ (NH hn SZ);obtain⟨b,e1,e2⟩:=Zd (l.getD n SZ).1 (l.getD n SZ).2.1 (l.getD n SZ).2.2 a c1 c2 h0 h1;have hb:Np (l,()) (a,(n:Int),())=(bif af .lss b 0 then some (.inr (.inl (-1,())))else some (.inl (b,((n+1:Nat):Int),()))):=by unfold Np;simp only[aj,az,hn,decide_true,cond_true,aq,aV,av (n:=n) (show n<1099511627776 by omega)];show((O7 (l.getD n SZ).1 (l.getD n SZ).2.1 (l.getD n SZ).2.2 a).bind _)=_;rw[e1];rfl
   rw[hb];rcases e2 with rfl|⟨b0,b1,b2,b3⟩
   ·exact .inl rfl
   ·rw[Pq b0];exact .inr ⟨b,rfl,b0,b1,b2,b3⟩) (fun a=>by
   unfold Np;simp only[aj,Nat.lt_irrefl,decide_false,cond_false]) (a-(l.length:Int)) (by omega) (by omega)
  simp only[cond_false];unfold P9;rw[q1];rcases q2 with rfl|⟨b,rfl,b1,b2,b3⟩
  ·exact⟨-1,rfl,.inl rfl⟩
  ·exact⟨b,rfl,.inr ⟨b1,by omega,aa9,b3⟩⟩
structure SJ (m:Nat) (x:Site):Prop where
 o:x.1.length<=m
 c:x.2.1.length<=m
 b:x.2.2.1.length<=m
 bs:∀n,n<x.2.2.1.length->Xm m (x.2.2.1.getD n SZ)
 j:x.2.2.2.2.2.2.2.2.2.2.length<=m
theorem aaF(a0 a1:Int)(a2 a3 a4:Bool):Vc a0 a1 a2 a3 a4=some (a0,a1,a2,a3,a4,()):=rfl
theorem YN(a0 a1:Int)(a2 a3 a4:Bool):Tt a0 a1 a2 a3 a4 a0 a1 a2 a3 a4=some (true,()):=by unfold Tt;simp only[Lo,Vu,Bool.not_true,cond_false]
theorem aaH(x:Site)(h:SJ 1073741824 x):Rm x.1 x.2.1 x.2.2.1 x.2.2.2.1 x.2.2.2.2.1 x.2.2.2.2.2.1 x.2.2.2.2.2.2.1 x.2.2.2.2.2.2.2.1 x.2.2.2.2.2.2.2.2.1 x.2.2.2.2.2.2.2.2.2.1 x.2.2.2.2.2.2.2.2.2.2 =
  some (x.1,x.2.1,x.2.2.1,x.2.2.2.1,x.2.2.2.2.1,x.2.2.2.2.2.1,x.2.2.2.2.2.2.1,x.2.2.2.2.2.2.2.1,x.2.2.2.2.2.2.2.2.1,x.2.2.2.2.2.2.2.2.2.1,x.2.2.2.2.2.2.2.2.2.2,()):=by
 unfold Rm;simp only[aaJ _ _ h.o h.c,Ys _ h.b h.bs,aaF,Zi _ h.j,Option.bind_some]
theorem YQ(x:Site)(h:SJ 1073741824 x):Tw x.1 x.2.1 x.2.2.1 x.2.2.2.1 x.2.2.2.2.1 x.2.2.2.2.2.1 x.2.2.2.2.2.2.1 x.2.2.2.2.2.2.2.1 x.2.2.2.2.2.2.2.2.1 x.2.2.2.2.2.2.2.2.2.1 x.2.2.2.2.2.2.2.2.2.2 x.1 x.2.1 x.2.2.1 x.2.2.2.1 x.2.2.2.2.1 x.2.2.2.2.2.1 x.2.2.2.2.2.2.1 x.2.2.2.2.2.2.2.1 x.2.2.2.2.2.2.2.2.1 x.2.2.2.2.2.2.2.2.2.1 x.2.2.2.2.2.2.2.2.2.2=some (true,()):=by unfold Tw;simp only[YS _ _ h.o h.c,Xo _ h.b h.bs,YN,Xp _ h.j,Option.bind_some,Lo,Bool.not_true,cond_false]
structure ZD (x:Site):Prop where
 o:x.1.length<=9223372036854775807
 c:x.2.1.length<=9223372036854775807
 b:x.2.2.1.length<=9223372036854775807
 bs:∀y∈x.2.2.1,Xm 9223372036854775807 y
 j:x.2.2.2.2.2.2.2.2.2.2.length<=9223372036854775807
theorem aaC(x:Site)(a:Int)(h:ZD x)(ha:0<=a)(Wd:a<=1048576):
  ∃b,TC x.1 x.2.1 x.2.2.1 x.2.2.2.1 x.2.2.2.2.1 x.2.2.2.2.2.1 x.2.2.2.2.2.2.1 x.2.2.2.2.2.2.2.1 x.2.2.2.2.2.2.2.2.1 x.2.2.2.2.2.2.2.2.2.1 x.2.2.2.2.2.2.2.2.2.2 a=some (b,())/\(b = -1\/(0<=b/\b<=a/\SJ 1073741824 x)):=by
 unfold TC;rw[aaD _ _ a h.o h.c ha Wd];simp only[Option.bind_some];cases hd:decide (a<(x.1.length:Int)+(x.2.1.length:Int))with
 |true=>exact⟨-1,rfl,.inl rfl⟩
 |false=>
  have hd:=of_decide_eq_false hd;simp only[cond_false];rw[Pq (by omega)];simp only[cond_false];obtain⟨b,e1,e2⟩:=Yp x.2.2.1 (a-(x.1.length:Int)-(x.2.1.length:Int)) h.b h.bs (by omega) (by omega);rw[e1];simp only[Option.bind_some];rcases e2 with rfl|⟨b0,b1,b2,b3⟩
  ·exact⟨-1,rfl,.inl rfl⟩
  ·rw[Pq b0];simp only[cond_false];rw[Ze _ b h.j b0 (by omega)];simp only[Option.bind_some];cases mP:decide (b<(x.2.2.2.2.2.2.2.2.2.2.length:Int))with
   |true=>exact⟨-1,rfl,.inl rfl⟩
   |false=>have mP:=of_decide_eq_false mP;simp only[cond_false];rw[Pq (by omega)];exact⟨_,rfl,.inr ⟨by omega,by omega,⟨by show _<=1073741824;omega,by show _<=1073741824;omega,b2,b3,by show _<=1073741824;omega⟩⟩⟩
theorem ZL(l:List Site)(hl:l.length<=1073741824)(hc:∀n,n<l.length->SJ 1073741824 (l.getD n L3)):R3 l=some (l,()):=by
 unfold R3;rw[cC hl];have hr:cW (ai l) ((([]:List U6),([]:List U6),([]:List Xe),(0:Int),(0:Int),false,false,false,(0:Int),(0:Int),([]:List Ev)):Site)=List.replicate l.length ([],[],[],0,0,false,false,false,0,0,[]):=dP _ _;rw[hr];have:=YL (body:=Ph (l,())) l ([],[],[],0,0,false,false,false,0,0,[]) L3 hl (fun n acc hn ha=>by
  have hs:=aaH (l.getD n L3) (hc n hn);unfold Ph;simp only[aj,az,hn,ha,decide_true,cond_true,aq,aV,av (n:=n) (show n<1099511627776 by omega),aN];show((Rm (l.getD n L3).1 (l.getD n L3).2.1 (l.getD n L3).2.2.1 (l.getD n L3).2.2.2.1 (l.getD n L3).2.2.2.2.1 (l.getD n L3).2.2.2.2.2.1 (l.getD n L3).2.2.2.2.2.2.1 (l.getD n L3).2.2.2.2.2.2.2.1 (l.getD n L3).2.2.2.2.2.2.2.2.1 (l.getD n L3).2.2.2.2.2.2.2.2.2.1 (l.getD n L3).2.2.2.2.2.2.2.2.2.2).bind _)=_;rw[hs];rfl) (fun acc _=>by
  unfold Ph;simp only[aj,Nat.lt_irrefl,decide_false,cond_false])
 simp only[cond_true];unfold RJ;rw[this];rfl
theorem X5(l:List Site)(hl:l.length<=1073741824)(hc:∀n,n<l.length->SJ 1073741824 (l.getD n L3)):R1 l l=some (true,()):=by
 unfold R1;rw[Lo];have Li:RF (l,l,()) ((0:Int),())=some (Sum.inr (Sum.inl ())):=by
  refine aR (fun n=>((n:Int),())) l.length (by show _<_;omega) _ (fun n hn=>?_) ?_
  ·have hs:=YQ (l.getD n L3) (hc n hn);unfold RE;simp only[aj,az,hn,decide_true,cond_true,aq,aV,av (n:=n) (show n<1099511627776 by omega)];have hs':=congrArg (fun q=>q.bind fun(y0:Bool×Unit)=>(bif (Bool.not y0.1)then some (Sum.inr (Sum.inl (false,())))else some (Sum.inl (((n+1:Nat):Int),())):Option ((Int×Unit)⊕(Bool×Unit⊕(Unit⊕Empty))))) hs;exact hs'
  ·unfold RE;simp only[aj,Nat.lt_irrefl,decide_false,cond_false]
 simp only[cond_false];rw[Li];rfl
theorem ZJ(l:List Site)(a:Int)(hl:l.length<=9223372036854775807)(hw:∀c∈l,ZD c)(ha:0<=a)(Wd:a<=1048576):
  ∃b,OH l a=some (b,())/\(b = -1\/(0<=b/\b<=a/\l.length<=1073741824/\∀n,n<l.length->SJ 1073741824 (l.getD n L3))):=by
 unfold OH;have h1:aa .sub .i64 a (ai l)=a-(l.length:Int):=bO (by unfold ai;have:l.length<=9223372036854775807:=hl;omega) (by unfold ai;omega);have h2:af .lss (a-(l.length:Int)) 0=decide (a<(l.length:Int)):=by simp only[af,decide_eq_decide];omega
 rw[h1,h2];cases hd:decide (a<(l.length:Int))with
 |true=>exact⟨-1,rfl,.inl rfl⟩
 |false=>
  have hd:=of_decide_eq_false hd;have aa9:l.length<=1073741824:=by omega
  obtain⟨y,q1,q2⟩:=Y8 (body:=NX (l,())) l aa9 (fun n=>SJ 1073741824 (l.getD n L3)) (fun n a hn h0 h1=>by
   obtain⟨b,e1,e2⟩:=aaC (l.getD n L3) a (hw _ (NH hn L3)) h0 h1;have hb:NX (l,()) (a,(n:Int),())=(bif af .lss b 0 then some (.inr (.inl (-1,())))else some (.inl (b,((n+1:Nat):Int),()))):=by unfold NX;simp only[aj,az,hn,decide_true,cond_true,aq,aV,av (n:=n) (show n<1099511627776 by omega)];have hs':=congrArg (fun q=>q.bind fun(y0:Int×Unit)=>(bif (af .lss y0.1 (0:Int))then some (.inr (.inl ((-1:Int),())))else some (.inl (y0.1,((n+1:Nat):Int),())):Option ((Int×Int×Unit)⊕(Int×Unit⊕(Int×Unit⊕Empty))))) e1;exact hs'
   rw[hb];rcases e2 with rfl|⟨b0,b1,b2⟩
   ·exact .inl rfl
   ·rw[Pq b0];exact .inr ⟨b,rfl,b0,b1,b2⟩) (fun a=>by
   unfold NX;simp only[aj,Nat.lt_irrefl,decide_false,cond_false]) (a-(l.length:Int)) (by omega) (by omega)
  simp only[cond_false];unfold RI;rw[q1];rcases q2 with rfl|⟨b,rfl,b1,b2,b3⟩
  ·exact⟨-1,rfl,.inl rfl⟩
  ·exact⟨b,rfl,.inr ⟨b1,by omega,aa9,b3⟩⟩
end Go.Fn
set_option linter.unusedSimpArgs false
namespace Go.Fn
open Go.R
abbrev Prc:=Int×Int×Int×Int×Int×Int×Int×Int×Int×Int×Int×Int×Int
abbrev Grt:=Int×Int×Int×Int×Int×Int×Bool
structure acy (s:List Site) (p:List Prc) (g:List Grt) (j:List Ev):Prop where
 ls:s.length<=9223372036854775807
 ss:∀x∈s,ZD x
 lp:p.length<=9223372036854775807
 lg:g.length<=9223372036854775807
 lj:j.length<=9223372036854775807
structure Xu (s:List Site) (p:List Prc) (g:List Grt) (j:List Ev):Prop where
 ls:s.length<=1048576
 ss:∀n,n<s.length->SJ 1073741824 (s.getD n L3)
 lp:p.length<=1048576
 lg:g.length<=1048576
 lj:j.length<=1048576
theorem Zg(s:List Site)(a b:Int)(hs:s.length<=9223372036854775807)(ha:0<=a)(Wd:a<=1048576)(h:OH s a=some (b,()))(hb:0<=b):s.length<=1048576:=by
 unfold OH at h;have h1:aa .sub .i64 a (ai s)=a-(s.length:Int):=bO (by unfold ai;omega) (by unfold ai;omega);have h2:af .lss (a-(s.length:Int)) 0=decide (a<(s.length:Int)):=by simp only[af,decide_eq_decide];omega
 rw[h1,h2]at h;cases hd:decide (a<(s.length:Int))with
 |true=>rw[hd]at h;simp only[cond_true,Option.some.injEq,Prod.mk.injEq]at h;omega
 |false=>have hd:=of_decide_eq_false hd;omega
section
variable (a0 a1 a2 a3 a4 a5 a6 a7 a8 a9 a10:Int) (s:List Site) (p:List Prc) (g:List Grt) (j:List Ev)
theorem Yt(h:Xu s p g j):Qj a0 a1 a2 a3 a4 a5 a6 a7 a8 a9 a10 s p g j=some (a0,a1,a2,a3,a4,a5,a6,a7,a8,a9,a10,s,p,g,j,()):=by have h1:=h.ls;have h2:=h.lp;have h3:=h.lg;have h4:=h.lj;unfold Qj;simp only[ZM,ZL s (by omega) h.ss,Yu p (by omega),Zj g (by omega),Zi j (by omega),Option.bind_some]
theorem Xq(h:Xu s p g j):P3 a0 a1 a2 a3 a4 a5 a6 a7 a8 a9 a10 s p g j a0 a1 a2 a3 a4 a5 a6 a7 a8 a9 a10 s p g j=some (true,()):=by have h1:=h.ls;have h2:=h.lp;have h3:=h.lg;have h4:=h.lj;unfold P3;simp only[X6,Lo,X5 s (by omega) h.ss,Xr p (by omega),XE g (by omega),Xp j (by omega),Option.bind_some,Bool.not_true,cond_false]
theorem Yq(a:Int)(h:acy s p g j)(ha:0<=a)(Wd:a<=1048576):
  ∃b,Qa a0 a1 a2 a3 a4 a5 a6 a7 a8 a9 a10 s p g j a=some (b,())/\(b = -1\/(0<=b/\b<=a/\Xu s p g j)):=by
 unfold Qa;obtain⟨b,e1,e2⟩:=ZJ s a h.ls h.ss ha Wd;rw[e1];simp only[Option.bind_some];rcases e2 with rfl|⟨b0,b1,b2,b3⟩
 ·exact⟨-1,rfl,.inl rfl⟩
 ·rw[Pq b0];simp only[cond_false];rw[Yr p b h.lp b0 (by omega)];simp only[Option.bind_some];cases hd:decide (b<(p.length:Int))with
  |true=>exact⟨-1,rfl,.inl rfl⟩
  |false=>
   have hd:=of_decide_eq_false hd;simp only[cond_false];rw[Pq (by omega)];simp only[cond_false];rw[Zf g _ h.lg (by omega) (by omega)];simp only[Option.bind_some];cases mP:decide (b-(p.length:Int)<(g.length:Int))with
   |true=>exact⟨-1,rfl,.inl rfl⟩
   |false=>
    have mP:=of_decide_eq_false mP;simp only[cond_false];rw[Pq (by omega)];simp only[cond_false];rw[Ze j _ h.lj (by omega) (by omega)];simp only[Option.bind_some];cases hd3:decide (b-(p.length:Int)-(g.length:Int)<(j.length:Int))with
    |true=>exact⟨-1,rfl,.inl rfl⟩
    |false=>have hd3:=of_decide_eq_false hd3;simp only[cond_false];rw[Pq (by omega)];refine⟨_,rfl,.inr ⟨by omega,by omega,⟨?_,b3,by omega,by omega,by omega⟩⟩⟩;exact Zg s a b h.ls ha Wd e1 b0
theorem aax(n:Int):∃y,Pe a0 a1 a2 a3 a4 a5 a6 a7 a8 a9 a10 s p g j n=some (y,())/\O4 a0 a1 a2 a3 a4 a5 a6 a7 a8 a9 a10 s p g j n=some (y,()):=by
 unfold Pe O4 M6 Nr;simp only[PX,K2,Option.bind_some];have hz:ax (2147483646:Int)=false:=rfl;cases M4 a9 1 2147483646 with
 |false=>exact⟨_,rfl,rfl⟩
 |true=>
  cases M4 n 1 12 with
  |false=>exact⟨_,rfl,rfl⟩
  |true=>simp only[hz];exact⟨_,rfl,rfl⟩
end
end Go.Fn
namespace Go.R
def Yl{α:Type}(x:Option α)(P:α->Prop):Prop:=∃a,x=some a/\P a
section
variable {α β:Type} {P:α->Prop} {Q:β->Prop}
theorem Yl.ret{a:α}(h:P a):Yl (some a) P:=⟨a,rfl,h⟩
theorem Yl.bind{x:Option α}{f:α->Option β}(hx:Yl x P)(hf:∀a,P a->Yl (f a) Q):Yl (x.bind f) Q:=by obtain⟨a,rfl,ha⟩:=hx;exact hf a ha
theorem Yl.mono{P':α->Prop}{x:Option α}(hx:Yl x P)(h:∀a,P a->P' a):Yl x P':=by obtain⟨a,e,ha⟩:=hx;exact⟨a,e,h a ha⟩
theorem Yl.cond{b:Bool}{x y:Option α}(hx:b=true->Yl x P)(hy:b=false->Yl y P):Yl (bif b then x else y) P:=by
 cases b
 ·exact hy rfl
 ·exact hx rfl
theorem Yl.guard{b:Bool}{x:Option α}(hb:b=true)(hx:Yl x P):Yl (bif b then x else none) P:=by subst hb;exact hx
theorem Yl.lets{γ:Type}{v:γ}{k:γ->Option α}(h:Yl (k v) P):Yl (lets v k) P:=h
end
theorem Pc{α:Type}{l:List α}(h:l.length<=1073741824):aE l=true:=by unfold aE limit;exact decide_eq_true (by omega)
open Go.Fn
end Go.R
set_option linter.unusedVariables false
namespace Go.Fn
open Go.R
noncomputable def Ki{α:Type}[Inhabited α](lt:α->α->Bool)(k:Int×Int×Int×Unit)(x:(List α)×Int×Unit):Option (((List α)×Int×Unit)⊕((List α)×Unit⊕Empty)):=(bif (af .gtr x.2.1 k.1)then(bif (ah x.1 x.2.1)then(bif (ah x.1 (aa .sub .i64 x.2.1 (1:Int)))then((some (lt (ae default x.1 x.2.1) (ae default x.1 (aa .sub .i64 x.2.1 (1:Int))),())).bind fun y0=>(bif y0.1 then(bif (ah x.1 (aa .sub .i64 x.2.1 (1:Int)))then(bif (ah x.1 x.2.1)then(bif (ah x.1 x.2.1)then(bif (ah (aC x.1 x.2.1 (ae default x.1 (aa .sub .i64 x.2.1 (1:Int)))) (aa .sub .i64 x.2.1 (1:Int)))then some (.inl ((aC (aC x.1 x.2.1 (ae default x.1 (aa .sub .i64 x.2.1 (1:Int)))) (aa .sub .i64 x.2.1 (1:Int)) (ae default x.1 x.2.1)),(aa .sub .i64 x.2.1 (1:Int)),()))else none)else none)else none)else none)else some (.inr (.inl (x.1,())))))else none)else none)else some (.inr (.inl (x.1,()))))
noncomputable def Mw{α:Type}[Inhabited α](lt:α->α->Bool)(k:Int×Int×Int×Unit)(x:(List α)×Int×Unit):Option ((List α)×Unit⊕Empty):=iter (Ki lt k) big x
noncomputable def KN{α:Type}[Inhabited α](lt:α->α->Bool)(k:Int×Int×Unit)(x:(List α)×Int×Unit):Option (((List α)×Int×Unit)⊕((List α)×Unit⊕Empty)):=(bif (af .lss x.2.1 k.2.1)then((Mw lt (k.1,k.2.1,x.2.1,()) (x.1,x.2.1,())).bind fun q0=>(Sum.elim (fun y1=>some (.inl (y1.1,(aa .add .i64 x.2.1 (1:Int)),()))) (fun q2=>(Empty.elim q2)) q0))else some (.inr (.inl (x.1,()))))
noncomputable def Mv{α:Type}[Inhabited α](lt:α->α->Bool)(k:Int×Int×Unit)(x:(List α)×Int×Unit):Option ((List α)×Unit⊕Empty):=iter (KN lt k) big x
noncomputable def MN{α:Type}[Inhabited α](lt:α->α->Bool)(a0:(List α))(a1:Int)(a2:Int):Option ((List α)×Unit):=((Mv lt (a1,a2,()) (a0,(aa .add .i64 a1 (1:Int)),())).bind fun q0=>(Sum.elim (fun y1=>some (y1.1,())) (fun q2=>(Empty.elim q2)) q0))
noncomputable def KE{α:Type}[Inhabited α](lt:α->α->Bool)(k:Int×Int×Unit)(x:(List α)×Int×Unit):Option (((List α)×Int×Unit)⊕((List α)×Unit⊕((List α)×Unit⊕Empty))):=(bif (af .geq (aa .add .i64 (aa .mul .i64 (2:Int) x.2.1) (1:Int)) k.1)then some (.inr (.inl (x.1,())))else(bif (af .lss (aa .add .i64 (aa .add .i64 (aa .mul .i64 (2:Int) x.2.1) (1:Int)) (1:Int)) k.1)then(bif (ah x.1 (aa .add .i64 k.2.1 (aa .add .i64 (aa .mul .i64 (2:Int) x.2.1) (1:Int))))then(bif (ah x.1 (aa .add .i64 (aa .add .i64 k.2.1 (aa .add .i64 (aa .mul .i64 (2:Int) x.2.1) (1:Int))) (1:Int)))then((some (lt (ae default x.1 (aa .add .i64 k.2.1 (aa .add .i64 (aa .mul .i64 (2:Int) x.2.1) (1:Int)))) (ae default x.1 (aa .add .i64 (aa .add .i64 k.2.1 (aa .add .i64 (aa .mul .i64 (2:Int) x.2.1) (1:Int))) (1:Int))),())).bind fun y0=>(bif y0.1 then(bif (ah x.1 (aa .add .i64 k.2.1 x.2.1))then(bif (ah x.1 (aa .add .i64 k.2.1 (aa .add .i64 (aa .add .i64 (aa .mul .i64 (2:Int) x.2.1) (1:Int)) (1:Int))))then((some (lt (ae default x.1 (aa .add .i64 k.2.1 x.2.1)) (ae default x.1 (aa .add .i64 k.2.1 (aa .add .i64 (aa .add .i64 (aa .mul .i64 (2:Int) x.2.1) (1:Int)) (1:Int)))),())).bind fun y1=>(bif (Bool.not y1.1)then some (.inr (.inr (.inl (x.1,()))))else(bif (ah x.1 (aa .add .i64 k.2.1 (aa .add .i64 (aa .add .i64 (aa .mul .i64 (2:Int) x.2.1) (1:Int)) (1:Int))))then(bif (ah x.1 (aa .add .i64 k.2.1 x.2.1))then(bif (ah x.1 (aa .add .i64 k.2.1 x.2.1))then(lets (aC x.1 (aa .add .i64 k.2.1 x.2.1) (ae default x.1 (aa .add .i64 k.2.1 (aa .add .i64 (aa .add .i64 (aa .mul .i64 (2:Int) x.2.1) (1:Int)) (1:Int))))) fun v2=>(bif (ah v2 (aa .add .i64 k.2.1 (aa .add .i64 (aa .add .i64 (aa .mul .i64 (2:Int) x.2.1) (1:Int)) (1:Int))))then(lets (aC v2 (aa .add .i64 k.2.1 (aa .add .i64 (aa .add .i64 (aa .mul .i64 (2:Int) x.2.1) (1:Int)) (1:Int))) (ae default x.1 (aa .add .i64 k.2.1 x.2.1))) fun v3=>some (.inl (v3,(aa .add .i64 (aa .add .i64 (aa .mul .i64 (2:Int) x.2.1) (1:Int)) (1:Int)),())))else none))else none)else none)else none)))else none)else none)else(bif (ah x.1 (aa .add .i64 k.2.1 x.2.1))then(bif (ah x.1 (aa .add .i64 k.2.1 (aa .add .i64 (aa .mul .i64 (2:Int) x.2.1) (1:Int))))then((some (lt (ae default x.1 (aa .add .i64 k.2.1 x.2.1)) (ae default x.1 (aa .add .i64 k.2.1 (aa .add .i64 (aa .mul .i64 (2:Int) x.2.1) (1:Int)))),())).bind fun y1=>(bif (Bool.not y1.1)then some (.inr (.inr (.inl (x.1,()))))else(bif (ah x.1 (aa .add .i64 k.2.1 (aa .add .i64 (aa .mul .i64 (2:Int) x.2.1) (1:Int))))then(bif (ah x.1 (aa .add .i64 k.2.1 x.2.1))then(bif (ah x.1 (aa .add .i64 k.2.1 x.2.1))then(bif (ah (aC x.1 (aa .add .i64 k.2.1 x.2.1) (ae default x.1 (aa .add .i64 k.2.1 (aa .add .i64 (aa .mul .i64 (2:Int) x.2.1) (1:Int))))) (aa .add .i64 k.2.1 (aa .add .i64 (aa .mul .i64 (2:Int) x.2.1) (1:Int))))then(lets (aC (aC x.1 (aa .add .i64 k.2.1 x.2.1) (ae default x.1 (aa .add .i64 k.2.1 (aa .add .i64 (aa .mul .i64 (2:Int) x.2.1) (1:Int))))) (aa .add .i64 k.2.1 (aa .add .i64 (aa .mul .i64 (2:Int) x.2.1) (1:Int))) (ae default x.1 (aa .add .i64 k.2.1 x.2.1))) fun v2=>some (.inl (v2,(aa .add .i64 (aa .mul .i64 (2:Int) x.2.1) (1:Int)),())))else none)else none)else none)else none)))else none)else none)))else none)else none)else(bif (ah x.1 (aa .add .i64 k.2.1 x.2.1))then(bif (ah x.1 (aa .add .i64 k.2.1 (aa .add .i64 (aa .mul .i64 (2:Int) x.2.1) (1:Int))))then((some (lt (ae default x.1 (aa .add .i64 k.2.1 x.2.1)) (ae default x.1 (aa .add .i64 k.2.1 (aa .add .i64 (aa .mul .i64 (2:Int) x.2.1) (1:Int)))),())).bind fun y0=>(bif (Bool.not y0.1)then some (.inr (.inr (.inl (x.1,()))))else(bif (ah x.1 (aa .add .i64 k.2.1 (aa .add .i64 (aa .mul .i64 (2:Int) x.2.1) (1:Int))))then(bif (ah x.1 (aa .add .i64 k.2.1 x.2.1))then(bif (ah x.1 (aa .add .i64 k.2.1 x.2.1))then(bif (ah (aC x.1 (aa .add .i64 k.2.1 x.2.1) (ae default x.1 (aa .add .i64 k.2.1 (aa .add .i64 (aa .mul .i64 (2:Int) x.2.1) (1:Int))))) (aa .add .i64 k.2.1 (aa .add .i64 (aa .mul .i64 (2:Int) x.2.1) (1:Int))))then(lets (aC (aC x.1 (aa .add .i64 k.2.1 x.2.1) (ae default x.1 (aa .add .i64 k.2.1 (aa .add .i64 (aa .mul .i64 (2:Int) x.2.1) (1:Int))))) (aa .add .i64 k.2.1 (aa .add .i64 (aa .mul .i64 (2:Int) x.2.1) (1:Int))) (ae default x.1 (aa .add .i64 k.2.1 x.2.1))) fun v1=>some (.inl (v1,(aa .add .i64 (aa .mul .i64 (2:Int) x.2.1) (1:Int)),())))else none)else none)else none)else none)))else none)else none)))
noncomputable def N1{α:Type}[Inhabited α](lt:α->α->Bool)(k:Int×Int×Unit)(x:(List α)×Int×Unit):Option ((List α)×Unit⊕((List α)×Unit⊕Empty)):=iter (KE lt k) big x
noncomputable def Og{α:Type}[Inhabited α](lt:α->α->Bool)(a0:(List α))(a1:Int)(a2:Int)(a3:Int):Option ((List α)×Unit):=((N1 lt (a2,a3,()) (a0,a1,())).bind fun q0=>(Sum.elim (fun y1=>some (y1.1,())) (fun q2=>(Sum.elim (fun y3=>some (y3.1,())) (fun q4=>(Empty.elim q4)) q2)) q0))
noncomputable def MX{α:Type}[Inhabited α](lt:α->α->Bool)(k:Int×Int×Int×Unit)(x:(List α)×Int×Unit):Option (((List α)×Int×Unit)⊕((List α)×Unit⊕Empty)):=(bif (af .geq x.2.1 (0:Int))then((Og lt x.1 x.2.1 k.2.2.1 k.1).bind fun y0=>some (.inl (y0.1,(aa .sub .i64 x.2.1 (1:Int)),())))else some (.inr (.inl (x.1,()))))
noncomputable def NZ{α:Type}[Inhabited α](lt:α->α->Bool)(k:Int×Int×Int×Unit)(x:(List α)×Int×Unit):Option ((List α)×Unit⊕Empty):=iter (MX lt k) big x
noncomputable def MY{α:Type}[Inhabited α](lt:α->α->Bool)(k:Int×Int×Unit)(x:(List α)×Int×Unit):Option (((List α)×Int×Unit)⊕((List α)×Unit⊕Empty)):=(bif (af .geq x.2.1 (0:Int))then(bif (ah x.1 (aa .add .i64 k.1 x.2.1))then(bif (ah x.1 k.1)then(bif (ah x.1 k.1)then(bif (ah (aC x.1 k.1 (ae default x.1 (aa .add .i64 k.1 x.2.1))) (aa .add .i64 k.1 x.2.1))then((Og lt (aC (aC x.1 k.1 (ae default x.1 (aa .add .i64 k.1 x.2.1))) (aa .add .i64 k.1 x.2.1) (ae default x.1 k.1)) k.2.1 x.2.1 k.1).bind fun y0=>some (.inl (y0.1,(aa .sub .i64 x.2.1 (1:Int)),())))else none)else none)else none)else none)else some (.inr (.inl (x.1,()))))
noncomputable def N0{α:Type}[Inhabited α](lt:α->α->Bool)(k:Int×Int×Unit)(x:(List α)×Int×Unit):Option ((List α)×Unit⊕Empty):=iter (MY lt k) big x
noncomputable def Pp{α:Type}[Inhabited α](lt:α->α->Bool)(a0:(List α))(a1:Int)(a2:Int):Option ((List α)×Unit):=(bif (ax (2:Int))then none else((NZ lt (a1,(0:Int),(aa .sub .i64 a2 a1),()) (a0,(aa .quo .i64 (aa .sub .i64 (aa .sub .i64 a2 a1) (1:Int)) (2:Int)),())).bind fun q0=>(Sum.elim (fun y1=>((N0 lt (a1,(0:Int),()) (y1.1,(aa .sub .i64 (aa .sub .i64 a2 a1) (1:Int)),())).bind fun q2=>(Sum.elim (fun y3=>some (y3.1,())) (fun q4=>(Empty.elim q4)) q2))) (fun q2=>(Empty.elim q2)) q0)))
noncomputable def Kh{α:Type}[Inhabited α](lt:α->α->Bool)(k:Int×Int×Int×Unit)(x:(List α)×Int×Int×Unit):Option (((List α)×Int×Int×Unit)⊕((List α)×Unit⊕Empty)):=(bif (ax (4:Int))then none else(bif (af .leq x.2.2.1 (aa .add .i64 (aa .add .i64 k.1 (aa .mul .i64 (aa .quo .i64 k.2.1 (4:Int)) (2:Int))) (1:Int)))then((__slices_xorshift__Next x.2.1).bind fun y0=>(bif (af .geq (ak .i64 (aa .and .u64 y0.1 (aa .sub .u64 k.2.2.1 (1:Int)))) k.2.1)then(bif (ah x.1 (aa .add .i64 k.1 (aa .sub .i64 (ak .i64 (aa .and .u64 y0.1 (aa .sub .u64 k.2.2.1 (1:Int)))) k.2.1)))then(bif (ah x.1 x.2.2.1)then(bif (ah x.1 x.2.2.1)then(bif (ah (aC x.1 x.2.2.1 (ae default x.1 (aa .add .i64 k.1 (aa .sub .i64 (ak .i64 (aa .and .u64 y0.1 (aa .sub .u64 k.2.2.1 (1:Int)))) k.2.1)))) (aa .add .i64 k.1 (aa .sub .i64 (ak .i64 (aa .and .u64 y0.1 (aa .sub .u64 k.2.2.1 (1:Int)))) k.2.1)))then(lets (aC (aC x.1 x.2.2.1 (ae default x.1 (aa .add .i64 k.1 (aa .sub .i64 (ak .i64 (aa .and .u64 y0.1 (aa .sub .u64 k.2.2.1 (1:Int)))) k.2.1)))) (aa .add .i64 k.1 (aa .sub .i64 (ak .i64 (aa .and .u64 y0.1 (aa .sub .u64 k.2.2.1 (1:Int)))) k.2.1)) (ae default x.1 x.2.2.1)) fun v1=>some (.inl (v1,y0.2.1,(aa .add .i64 x.2.2.1 (1:Int)),())))else none)else none)else none)else none)else(bif (ah x.1 (aa .add .i64 k.1 (ak .i64 (aa .and .u64 y0.1 (aa .sub .u64 k.2.2.1 (1:Int))))))then(bif (ah x.1 x.2.2.1)then(bif (ah x.1 x.2.2.1)then(bif (ah (aC x.1 x.2.2.1 (ae default x.1 (aa .add .i64 k.1 (ak .i64 (aa .and .u64 y0.1 (aa .sub .u64 k.2.2.1 (1:Int))))))) (aa .add .i64 k.1 (ak .i64 (aa .and .u64 y0.1 (aa .sub .u64 k.2.2.1 (1:Int))))))then(lets (aC (aC x.1 x.2.2.1 (ae default x.1 (aa .add .i64 k.1 (ak .i64 (aa .and .u64 y0.1 (aa .sub .u64 k.2.2.1 (1:Int))))))) (aa .add .i64 k.1 (ak .i64 (aa .and .u64 y0.1 (aa .sub .u64 k.2.2.1 (1:Int))))) (ae default x.1 x.2.2.1)) fun v1=>some (.inl (v1,y0.2.1,(aa .add .i64 x.2.2.1 (1:Int)),())))else none)else none)else none)else none)))else some (.inr (.inl (x.1,())))))
noncomputable def Mu{α:Type}[Inhabited α](lt:α->α->Bool)(k:Int×Int×Int×Unit)(x:(List α)×Int×Int×Unit):Option ((List α)×Unit⊕Empty):=iter (Kh lt k) big x
noncomputable def MM{α:Type}[Inhabited α](lt:α->α->Bool)(a0:(List α))(a1:Int)(a2:Int):Option ((List α)×Unit):=(bif (af .geq (aa .sub .i64 a2 a1) (8:Int))then((KV (aa .sub .i64 a2 a1)).bind fun y0=>(bif (ax (4:Int))then none else((Mu lt (a1,(aa .sub .i64 a2 a1),y0.1,()) (a0,(ak .u64 (aa .sub .i64 a2 a1)),(aa .sub .i64 (aa .add .i64 a1 (aa .mul .i64 (aa .quo .i64 (aa .sub .i64 a2 a1) (4:Int)) (2:Int))) (1:Int)),())).bind fun q1=>(Sum.elim (fun y2=>some (y2.1,())) (fun q3=>(Empty.elim q3)) q1))))else some (a0,()))
noncomputable def O2{α:Type}[Inhabited α](lt:α->α->Bool)(a0:(List α))(a1:Int)(a2:Int)(a3:Int):Option (Int×Int×Int×Unit):=(bif (ah a0 a2)then(bif (ah a0 a1)then((some (lt (ae default a0 a2) (ae default a0 a1),())).bind fun y0=>(bif y0.1 then some (a2,a1,(aa .add .i64 a3 (1:Int)),())else some (a1,a2,a3,())))else none)else none)
noncomputable def PJ{α:Type}[Inhabited α](lt:α->α->Bool)(a0:(List α))(a1:Int)(a2:Int)(a3:Int)(a4:Int):Option (Int×Int×Unit):=((O2 lt a0 a1 a2 a4).bind fun y0=>((O2 lt a0 y0.2.1 a3 y0.2.2.1).bind fun y1=>((O2 lt a0 y0.1 y1.1 y1.2.2.1).bind fun y2=>some (y2.2.1,y2.2.2.1,()))))
noncomputable def Lj{α:Type}[Inhabited α](lt:α->α->Bool)(a0:(List α))(a1:Int)(a2:Int):Option (Int×Int×Unit):=((PJ lt a0 (aa .sub .i64 a1 (1:Int)) a1 (aa .add .i64 a1 (1:Int)) a2).bind fun y0=>some (y0.1,y0.2.1,()))
noncomputable def MW{α:Type}[Inhabited α](lt:α->α->Bool)(a0:(List α))(a1:Int)(a2:Int):Option (Int×Int×Unit):=(bif (ax (4:Int))then none else(bif (ax (4:Int))then none else(bif (ax (4:Int))then none else(bif (af .geq (aa .sub .i64 a2 a1) (8:Int))then(bif (af .geq (aa .sub .i64 a2 a1) (50:Int))then((Lj lt a0 (aa .add .i64 a1 (aa .mul .i64 (aa .quo .i64 (aa .sub .i64 a2 a1) (4:Int)) (1:Int))) (0:Int)).bind fun y0=>((Lj lt a0 (aa .add .i64 a1 (aa .mul .i64 (aa .quo .i64 (aa .sub .i64 a2 a1) (4:Int)) (2:Int))) y0.2.1).bind fun y1=>((Lj lt a0 (aa .add .i64 a1 (aa .mul .i64 (aa .quo .i64 (aa .sub .i64 a2 a1) (4:Int)) (3:Int))) y1.2.1).bind fun y2=>((PJ lt a0 y0.1 y1.1 y2.1 y2.2.1).bind fun y3=>(bif (af .eql y3.2.1 (0:Int))then some (y3.1,(1:Int),())else(bif (af .eql y3.2.1 (12:Int))then some (y3.1,(2:Int),())else some (y3.1,(0:Int),())))))))else((PJ lt a0 (aa .add .i64 a1 (aa .mul .i64 (aa .quo .i64 (aa .sub .i64 a2 a1) (4:Int)) (1:Int))) (aa .add .i64 a1 (aa .mul .i64 (aa .quo .i64 (aa .sub .i64 a2 a1) (4:Int)) (2:Int))) (aa .add .i64 a1 (aa .mul .i64 (aa .quo .i64 (aa .sub .i64 a2 a1) (4:Int)) (3:Int))) (0:Int)).bind fun y0=>(bif (af .eql y0.2.1 (0:Int))then some (y0.1,(1:Int),())else(bif (af .eql y0.2.1 (12:Int))then some (y0.1,(2:Int),())else some (y0.1,(0:Int),())))))else(bif (af .eql (0:Int) (0:Int))then some ((aa .add .i64 a1 (aa .mul .i64 (aa .quo .i64 (aa .sub .i64 a2 a1) (4:Int)) (2:Int))),(1:Int),())else(bif (af .eql (0:Int) (12:Int))then some ((aa .add .i64 a1 (aa .mul .i64 (aa .quo .i64 (aa .sub .i64 a2 a1) (4:Int)) (2:Int))),(2:Int),())else some ((aa .add .i64 a1 (aa .mul .i64 (aa .quo .i64 (aa .sub .i64 a2 a1) (4:Int)) (2:Int))),(0:Int),())))))))
noncomputable def KY{α:Type}[Inhabited α](lt:α->α->Bool)(k:Unit)(x:(List α)×Int×Int×Unit):Option (((List α)×Int×Int×Unit)⊕((List α)×Unit⊕Empty)):=(bif (af .lss x.2.1 x.2.2.1)then(bif (ah x.1 x.2.2.1)then(bif (ah x.1 x.2.1)then(bif (ah x.1 x.2.1)then(bif (ah (aC x.1 x.2.1 (ae default x.1 x.2.2.1)) x.2.2.1)then some (.inl ((aC (aC x.1 x.2.1 (ae default x.1 x.2.2.1)) x.2.2.1 (ae default x.1 x.2.1)),(aa .add .i64 x.2.1 (1:Int)),(aa .sub .i64 x.2.2.1 (1:Int)),()))else none)else none)else none)else none)else some (.inr (.inl (x.1,()))))
noncomputable def ML{α:Type}[Inhabited α](lt:α->α->Bool)(k:Unit)(x:(List α)×Int×Int×Unit):Option ((List α)×Unit⊕Empty):=iter (KY lt k) big x
noncomputable def MB{α:Type}[Inhabited α](lt:α->α->Bool)(a0:(List α))(a1:Int)(a2:Int):Option ((List α)×Unit):=((ML lt (()) (a0,a1,(aa .sub .i64 a2 (1:Int)),())).bind fun q0=>(Sum.elim (fun y1=>some (y1.1,())) (fun q2=>(Empty.elim q2)) q0))
noncomputable def I1{α:Type}[Inhabited α](lt:α->α->Bool)(k:Int×Int×Int×Unit)(x:(List α)×Int×Unit):Option (((List α)×Int×Unit)⊕((List α)×Int×Unit⊕Empty)):=(bif (af .lss x.2.1 k.2.1)then(bif (ah x.1 x.2.1)then(bif (ah x.1 (aa .sub .i64 x.2.1 (1:Int)))then((some (lt (ae default x.1 x.2.1) (ae default x.1 (aa .sub .i64 x.2.1 (1:Int))),())).bind fun y0=>(bif (Bool.not y0.1)then some (.inl (x.1,(aa .add .i64 x.2.1 (1:Int)),()))else some (.inr (.inl (x.1,x.2.1,())))))else none)else none)else some (.inr (.inl (x.1,x.2.1,()))))
noncomputable def KJ{α:Type}[Inhabited α](lt:α->α->Bool)(k:Int×Int×Int×Unit)(x:(List α)×Int×Unit):Option ((List α)×Int×Unit⊕Empty):=iter (I1 lt k) big x
noncomputable def JR{α:Type}[Inhabited α](lt:α->α->Bool)(k:Int×Int×Int×Int×Unit)(x:(List α)×Int×Unit):Option (((List α)×Int×Unit)⊕((List α)×Unit⊕Empty)):=(bif (af .geq x.2.1 (1:Int))then(bif (ah x.1 x.2.1)then(bif (ah x.1 (aa .sub .i64 x.2.1 (1:Int)))then((some (lt (ae default x.1 x.2.1) (ae default x.1 (aa .sub .i64 x.2.1 (1:Int))),())).bind fun y0=>(bif (Bool.not y0.1)then some (.inr (.inl (x.1,())))else(bif (ah x.1 (aa .sub .i64 x.2.1 (1:Int)))then(bif (ah x.1 x.2.1)then(bif (ah x.1 x.2.1)then(bif (ah (aC x.1 x.2.1 (ae default x.1 (aa .sub .i64 x.2.1 (1:Int)))) (aa .sub .i64 x.2.1 (1:Int)))then some (.inl ((aC (aC x.1 x.2.1 (ae default x.1 (aa .sub .i64 x.2.1 (1:Int)))) (aa .sub .i64 x.2.1 (1:Int)) (ae default x.1 x.2.1)),(aa .sub .i64 x.2.1 (1:Int)),()))else none)else none)else none)else none)))else none)else none)else some (.inr (.inl (x.1,()))))
noncomputable def KK{α:Type}[Inhabited α](lt:α->α->Bool)(k:Int×Int×Int×Int×Unit)(x:(List α)×Int×Unit):Option ((List α)×Unit⊕Empty):=iter (JR lt k) big x
noncomputable def I2{α:Type}[Inhabited α](lt:α->α->Bool)(k:Int×Int×Int×Int×Unit)(x:(List α)×Int×Unit):Option (((List α)×Int×Unit)⊕((List α)×Unit⊕Empty)):=(bif (af .lss x.2.1 k.2.1)then(bif (ah x.1 x.2.1)then(bif (ah x.1 (aa .sub .i64 x.2.1 (1:Int)))then((some (lt (ae default x.1 x.2.1) (ae default x.1 (aa .sub .i64 x.2.1 (1:Int))),())).bind fun y0=>(bif (Bool.not y0.1)then some (.inr (.inl (x.1,())))else(bif (ah x.1 (aa .sub .i64 x.2.1 (1:Int)))then(bif (ah x.1 x.2.1)then(bif (ah x.1 x.2.1)then(bif (ah (aC x.1 x.2.1 (ae default x.1 (aa .sub .i64 x.2.1 (1:Int)))) (aa .sub .i64 x.2.1 (1:Int)))then some (.inl ((aC (aC x.1 x.2.1 (ae default x.1 (aa .sub .i64 x.2.1 (1:Int)))) (aa .sub .i64 x.2.1 (1:Int)) (ae default x.1 x.2.1)),(aa .add .i64 x.2.1 (1:Int)),()))else none)else none)else none)else none)))else none)else none)else some (.inr (.inl (x.1,()))))
noncomputable def J6{α:Type}[Inhabited α](lt:α->α->Bool)(k:Int×Int×Int×Int×Unit)(x:(List α)×Int×Unit):Option ((List α)×Unit⊕Empty):=iter (I2 lt k) big x
noncomputable def Ir{α:Type}[Inhabited α](lt:α->α->Bool)(k:Int×Int×Unit)(x:(List α)×Int×Int×Unit):Option (((List α)×Int×Int×Unit)⊕((List α)×Bool×Unit⊕((List α)×Unit⊕Empty))):=(bif (af .lss x.2.2.1 (5:Int))then((KJ lt (k.1,k.2.1,x.2.2.1,()) (x.1,x.2.1,())).bind fun q0=>(Sum.elim (fun y1=>(bif (af .eql y1.2.1 k.2.1)then some (.inr (.inl (y1.1,true,())))else(bif (af .lss (aa .sub .i64 k.2.1 k.1) (50:Int))then some (.inr (.inl (y1.1,false,())))else(bif (ah y1.1 (aa .sub .i64 y1.2.1 (1:Int)))then(bif (ah y1.1 y1.2.1)then(bif (ah y1.1 y1.2.1)then(bif (ah (aC y1.1 y1.2.1 (ae default y1.1 (aa .sub .i64 y1.2.1 (1:Int)))) (aa .sub .i64 y1.2.1 (1:Int)))then(bif (af .geq (aa .sub .i64 y1.2.1 k.1) (2:Int))then((KK lt (k.1,k.2.1,y1.2.1,x.2.2.1,()) ((aC (aC y1.1 y1.2.1 (ae default y1.1 (aa .sub .i64 y1.2.1 (1:Int)))) (aa .sub .i64 y1.2.1 (1:Int)) (ae default y1.1 y1.2.1)),(aa .sub .i64 y1.2.1 (1:Int)),())).bind fun q2=>(Sum.elim (fun y3=>(bif (af .geq (aa .sub .i64 k.2.1 y1.2.1) (2:Int))then((J6 lt (k.1,k.2.1,y1.2.1,x.2.2.1,()) (y3.1,(aa .add .i64 y1.2.1 (1:Int)),())).bind fun q4=>(Sum.elim (fun y5=>some (.inl (y5.1,y1.2.1,(aa .add .i64 x.2.2.1 (1:Int)),()))) (fun q6=>(Empty.elim q6)) q4))else some (.inl (y3.1,y1.2.1,(aa .add .i64 x.2.2.1 (1:Int)),())))) (fun q4=>(Empty.elim q4)) q2))else(bif (af .geq (aa .sub .i64 k.2.1 y1.2.1) (2:Int))then((J6 lt (k.1,k.2.1,y1.2.1,x.2.2.1,()) ((aC (aC y1.1 y1.2.1 (ae default y1.1 (aa .sub .i64 y1.2.1 (1:Int)))) (aa .sub .i64 y1.2.1 (1:Int)) (ae default y1.1 y1.2.1)),(aa .add .i64 y1.2.1 (1:Int)),())).bind fun q2=>(Sum.elim (fun y3=>some (.inl (y3.1,y1.2.1,(aa .add .i64 x.2.2.1 (1:Int)),()))) (fun q4=>(Empty.elim q4)) q2))else some (.inl ((aC (aC y1.1 y1.2.1 (ae default y1.1 (aa .sub .i64 y1.2.1 (1:Int)))) (aa .sub .i64 y1.2.1 (1:Int)) (ae default y1.1 y1.2.1)),y1.2.1,(aa .add .i64 x.2.2.1 (1:Int)),()))))else none)else none)else none)else none)))) (fun q2=>(Empty.elim q2)) q0))else some (.inr (.inr (.inl (x.1,())))))
noncomputable def KI{α:Type}[Inhabited α](lt:α->α->Bool)(k:Int×Int×Unit)(x:(List α)×Int×Int×Unit):Option ((List α)×Bool×Unit⊕((List α)×Unit⊕Empty)):=iter (Ir lt k) big x
noncomputable def Jf{α:Type}[Inhabited α](lt:α->α->Bool)(a0:(List α))(a1:Int)(a2:Int):Option (Bool×(List α)×Unit):=((KI lt (a1,a2,()) (a0,(aa .add .i64 a1 (1:Int)),(0:Int),())).bind fun q0=>(Sum.elim (fun y1=>some (y1.2.1,y1.1,())) (fun q2=>(Sum.elim (fun y3=>some (false,y3.1,())) (fun q4=>(Empty.elim q4)) q2)) q0))
noncomputable def Lp{α:Type}[Inhabited α](lt:α->α->Bool)(k:Int×Int×Unit)(x:(List α)×Int×Unit):Option (((List α)×Int×Unit)⊕((List α)×Int×Unit⊕Empty)):=(bif (af .leq x.2.1 k.2.1)then(bif (ah x.1 k.1)then(bif (ah x.1 x.2.1)then((some (lt (ae default x.1 k.1) (ae default x.1 x.2.1),())).bind fun y0=>(bif (Bool.not y0.1)then some (.inl (x.1,(aa .add .i64 x.2.1 (1:Int)),()))else some (.inr (.inl (x.1,x.2.1,())))))else none)else none)else some (.inr (.inl (x.1,x.2.1,()))))
noncomputable def Mh{α:Type}[Inhabited α](lt:α->α->Bool)(k:Int×Int×Unit)(x:(List α)×Int×Unit):Option ((List α)×Int×Unit⊕Empty):=iter (Lp lt k) big x
noncomputable def Lq{α:Type}[Inhabited α](lt:α->α->Bool)(k:Int×Int×Unit)(x:(List α)×Int×Unit):Option (((List α)×Int×Unit)⊕((List α)×Int×Unit⊕Empty)):=(bif (af .leq k.2.1 x.2.1)then(bif (ah x.1 k.1)then(bif (ah x.1 x.2.1)then((some (lt (ae default x.1 k.1) (ae default x.1 x.2.1),())).bind fun y0=>(bif y0.1 then some (.inl (x.1,(aa .sub .i64 x.2.1 (1:Int)),()))else some (.inr (.inl (x.1,x.2.1,())))))else none)else none)else some (.inr (.inl (x.1,x.2.1,()))))
noncomputable def Mi{α:Type}[Inhabited α](lt:α->α->Bool)(k:Int×Int×Unit)(x:(List α)×Int×Unit):Option ((List α)×Int×Unit⊕Empty):=iter (Lq lt k) big x
noncomputable def Ks{α:Type}[Inhabited α](lt:α->α->Bool)(k:Int×Unit)(x:(List α)×Int×Int×Unit):Option (((List α)×Int×Int×Unit)⊕((List α)×Int×Unit⊕Empty)):=((Mh lt (k.1,x.2.2.1,()) (x.1,x.2.1,())).bind fun q0=>(Sum.elim (fun y1=>((Mi lt (k.1,y1.2.1,()) (y1.1,x.2.2.1,())).bind fun q2=>(Sum.elim (fun y3=>(bif (af .gtr y1.2.1 y3.2.1)then some (.inr (.inl (y3.1,y1.2.1,())))else(bif (ah y3.1 y3.2.1)then(bif (ah y3.1 y1.2.1)then(bif (ah y3.1 y1.2.1)then(bif (ah (aC y3.1 y1.2.1 (ae default y3.1 y3.2.1)) y3.2.1)then some (.inl ((aC (aC y3.1 y1.2.1 (ae default y3.1 y3.2.1)) y3.2.1 (ae default y3.1 y1.2.1)),(aa .add .i64 y1.2.1 (1:Int)),(aa .sub .i64 y3.2.1 (1:Int)),()))else none)else none)else none)else none))) (fun q4=>(Empty.elim q4)) q2))) (fun q2=>(Empty.elim q2)) q0))
noncomputable def Mg{α:Type}[Inhabited α](lt:α->α->Bool)(k:Int×Unit)(x:(List α)×Int×Int×Unit):Option ((List α)×Int×Unit⊕Empty):=iter (Ks lt k) big x
noncomputable def BE{α:Type}[Inhabited α](lt:α->α->Bool)(a0:(List α))(a1:Int)(a2:Int)(a3:Int):Option (Int×(List α)×Unit):=(bif (ah a0 a3)then(bif (ah a0 a1)then(bif (ah a0 a1)then(bif (ah (aC a0 a1 (ae default a0 a3)) a3)then((Mg lt (a1,()) ((aC (aC a0 a1 (ae default a0 a3)) a3 (ae default a0 a1)),(aa .add .i64 a1 (1:Int)),(aa .sub .i64 a2 (1:Int)),())).bind fun q0=>(Sum.elim (fun y1=>some (y1.2.1,y1.1,())) (fun q2=>(Empty.elim q2)) q0))else none)else none)else none)else none)
noncomputable def M1{α:Type}[Inhabited α](lt:α->α->Bool)(k:Int×Int×Unit)(x:(List α)×Int×Unit):Option (((List α)×Int×Unit)⊕((List α)×Int×Unit⊕Empty)):=(bif (af .leq x.2.1 k.2.1)then(bif (ah x.1 x.2.1)then(bif (ah x.1 k.1)then((some (lt (ae default x.1 x.2.1) (ae default x.1 k.1),())).bind fun y0=>(bif y0.1 then some (.inl (x.1,(aa .add .i64 x.2.1 (1:Int)),()))else some (.inr (.inl (x.1,x.2.1,())))))else none)else none)else some (.inr (.inl (x.1,x.2.1,()))))
noncomputable def NC{α:Type}[Inhabited α](lt:α->α->Bool)(k:Int×Int×Unit)(x:(List α)×Int×Unit):Option ((List α)×Int×Unit⊕Empty):=iter (M1 lt k) big x
noncomputable def M2{α:Type}[Inhabited α](lt:α->α->Bool)(k:Int×Int×Unit)(x:(List α)×Int×Unit):Option (((List α)×Int×Unit)⊕((List α)×Int×Unit⊕Empty)):=(bif (af .leq k.2.1 x.2.1)then(bif (ah x.1 x.2.1)then(bif (ah x.1 k.1)then((some (lt (ae default x.1 x.2.1) (ae default x.1 k.1),())).bind fun y0=>(bif (Bool.not y0.1)then some (.inl (x.1,(aa .sub .i64 x.2.1 (1:Int)),()))else some (.inr (.inl (x.1,x.2.1,())))))else none)else none)else some (.inr (.inl (x.1,x.2.1,()))))
noncomputable def ND{α:Type}[Inhabited α](lt:α->α->Bool)(k:Int×Int×Unit)(x:(List α)×Int×Unit):Option ((List α)×Int×Unit⊕Empty):=iter (M2 lt k) big x
noncomputable def Oe{α:Type}[Inhabited α](lt:α->α->Bool)(k:Int×Int×Unit)(x:(List α)×Int×Unit):Option (((List α)×Int×Unit)⊕((List α)×Int×Unit⊕Empty)):=(bif (af .leq x.2.1 k.2.1)then(bif (ah x.1 x.2.1)then(bif (ah x.1 k.1)then((some (lt (ae default x.1 x.2.1) (ae default x.1 k.1),())).bind fun y0=>(bif y0.1 then some (.inl (x.1,(aa .add .i64 x.2.1 (1:Int)),()))else some (.inr (.inl (x.1,x.2.1,())))))else none)else none)else some (.inr (.inl (x.1,x.2.1,()))))
noncomputable def NF{α:Type}[Inhabited α](lt:α->α->Bool)(k:Int×Int×Unit)(x:(List α)×Int×Unit):Option ((List α)×Int×Unit⊕Empty):=iter (Oe lt k) big x
noncomputable def Of{α:Type}[Inhabited α](lt:α->α->Bool)(k:Int×Int×Unit)(x:(List α)×Int×Unit):Option (((List α)×Int×Unit)⊕((List α)×Int×Unit⊕Empty)):=(bif (af .leq k.2.1 x.2.1)then(bif (ah x.1 x.2.1)then(bif (ah x.1 k.1)then((some (lt (ae default x.1 x.2.1) (ae default x.1 k.1),())).bind fun y0=>(bif (Bool.not y0.1)then some (.inl (x.1,(aa .sub .i64 x.2.1 (1:Int)),()))else some (.inr (.inl (x.1,x.2.1,())))))else none)else none)else some (.inr (.inl (x.1,x.2.1,()))))
noncomputable def NG{α:Type}[Inhabited α](lt:α->α->Bool)(k:Int×Int×Unit)(x:(List α)×Int×Unit):Option ((List α)×Int×Unit⊕Empty):=iter (Of lt k) big x
noncomputable def K9{α:Type}[Inhabited α](lt:α->α->Bool)(k:Int×Unit)(x:(List α)×Int×Int×Unit):Option (((List α)×Int×Int×Unit)⊕((List α)×Int×Unit⊕Empty)):=((NF lt (k.1,x.2.2.1,()) (x.1,x.2.1,())).bind fun q0=>(Sum.elim (fun y1=>((NG lt (k.1,y1.2.1,()) (y1.1,x.2.2.1,())).bind fun q2=>(Sum.elim (fun y3=>(bif (af .gtr y1.2.1 y3.2.1)then some (.inr (.inl (y3.1,y3.2.1,())))else(bif (ah y3.1 y3.2.1)then(bif (ah y3.1 y1.2.1)then(bif (ah y3.1 y1.2.1)then(bif (ah (aC y3.1 y1.2.1 (ae default y3.1 y3.2.1)) y3.2.1)then some (.inl ((aC (aC y3.1 y1.2.1 (ae default y3.1 y3.2.1)) y3.2.1 (ae default y3.1 y1.2.1)),(aa .add .i64 y1.2.1 (1:Int)),(aa .sub .i64 y3.2.1 (1:Int)),()))else none)else none)else none)else none))) (fun q4=>(Empty.elim q4)) q2))) (fun q2=>(Empty.elim q2)) q0))
noncomputable def NE{α:Type}[Inhabited α](lt:α->α->Bool)(k:Int×Unit)(x:(List α)×Int×Int×Unit):Option ((List α)×Int×Unit⊕Empty):=iter (K9 lt k) big x
noncomputable def vv{α:Type}[Inhabited α](lt:α->α->Bool)(a0:(List α))(a1:Int)(a2:Int)(a3:Int):Option (Int×Bool×(List α)×Unit):=(bif (ah a0 a3)then(bif (ah a0 a1)then(bif (ah a0 a1)then(bif (ah (aC a0 a1 (ae default a0 a3)) a3)then((NC lt (a1,(aa .sub .i64 a2 (1:Int)),()) ((aC (aC a0 a1 (ae default a0 a3)) a3 (ae default a0 a1)),(aa .add .i64 a1 (1:Int)),())).bind fun q0=>(Sum.elim (fun y1=>((ND lt (a1,y1.2.1,()) (y1.1,(aa .sub .i64 a2 (1:Int)),())).bind fun q2=>(Sum.elim (fun y3=>(bif (af .gtr y1.2.1 y3.2.1)then(bif (ah y3.1 a1)then(bif (ah y3.1 y3.2.1)then(bif (ah y3.1 y3.2.1)then(bif (ah (aC y3.1 y3.2.1 (ae default y3.1 a1)) a1)then some (y3.2.1,true,(aC (aC y3.1 y3.2.1 (ae default y3.1 a1)) a1 (ae default y3.1 y3.2.1)),())else none)else none)else none)else none)else(bif (ah y3.1 y3.2.1)then(bif (ah y3.1 y1.2.1)then(bif (ah y3.1 y1.2.1)then(bif (ah (aC y3.1 y1.2.1 (ae default y3.1 y3.2.1)) y3.2.1)then((NE lt (a1,()) ((aC (aC y3.1 y1.2.1 (ae default y3.1 y3.2.1)) y3.2.1 (ae default y3.1 y1.2.1)),(aa .add .i64 y1.2.1 (1:Int)),(aa .sub .i64 y3.2.1 (1:Int)),())).bind fun q4=>(Sum.elim (fun y5=>(bif (ah y5.1 a1)then(bif (ah y5.1 y5.2.1)then(bif (ah y5.1 y5.2.1)then(bif (ah (aC y5.1 y5.2.1 (ae default y5.1 a1)) a1)then some (y5.2.1,false,(aC (aC y5.1 y5.2.1 (ae default y5.1 a1)) a1 (ae default y5.1 y5.2.1)),())else none)else none)else none)else none)) (fun q6=>(Empty.elim q6)) q4))else none)else none)else none)else none))) (fun q4=>(Empty.elim q4)) q2))) (fun q2=>(Empty.elim q2)) q0))else none)else none)else none)else none)
noncomputable def Kt{α:Type}[Inhabited α](lt:α->α->Bool)(rec:(List α)->Int->Int->Int->Option ((List α)×Unit))(k:Unit)(x:(List α)×Int×Int×Int×Bool×Bool×Unit):Option (((List α)×Int×Int×Int×Bool×Bool×Unit)⊕((List α)×Unit⊕Empty)):=(bif (af .leq (aa .sub .i64 x.2.2.1 x.2.1) (12:Int))then((MN lt x.1 x.2.1 x.2.2.1).bind fun y0=>some (.inr (.inl (y0.1,()))))else(bif (af .eql x.2.2.2.1 (0:Int))then((Pp lt x.1 x.2.1 x.2.2.1).bind fun y0=>some (.inr (.inl (y0.1,()))))else(bif (Bool.not x.2.2.2.2.1)then((MM lt x.1 x.2.1 x.2.2.1).bind fun y0=>((MW lt y0.1 x.2.1 x.2.2.1).bind fun y1=>(bif (af .eql y1.2.1 (2:Int))then((MB lt y0.1 x.2.1 x.2.2.1).bind fun y2=>(bif x.2.2.2.2.1 then(bif x.2.2.2.2.2.1 then(bif (af .eql (1:Int) (1:Int))then((Jf lt y2.1 x.2.1 x.2.2.1).bind fun y3=>(bif y3.1 then some (.inr (.inl (y3.2.1,())))else(bif (af .gtr x.2.1 (0:Int))then(bif (ah y3.2.1 (aa .sub .i64 x.2.1 (1:Int)))then(bif (ah y3.2.1 (aa .sub .i64 (aa .sub .i64 x.2.2.1 (1:Int)) (aa .sub .i64 y1.1 x.2.1)))then((some (lt (ae default y3.2.1 (aa .sub .i64 x.2.1 (1:Int))) (ae default y3.2.1 (aa .sub .i64 (aa .sub .i64 x.2.2.1 (1:Int)) (aa .sub .i64 y1.1 x.2.1))),())).bind fun y4=>(bif (Bool.not y4.1)then((BE lt y3.2.1 x.2.1 x.2.2.1 (aa .sub .i64 (aa .sub .i64 x.2.2.1 (1:Int)) (aa .sub .i64 y1.1 x.2.1))).bind fun y5=>some (.inl (y5.2.1,y5.1,x.2.2.1,(aa .sub .i64 x.2.2.2.1 (1:Int)),x.2.2.2.2.1,x.2.2.2.2.2.1,())))else((vv lt y3.2.1 x.2.1 x.2.2.1 (aa .sub .i64 (aa .sub .i64 x.2.2.1 (1:Int)) (aa .sub .i64 y1.1 x.2.1))).bind fun y5=>(bif (ax (8:Int))then none else(bif (af .lss (aa .sub .i64 y5.1 x.2.1) (aa .sub .i64 x.2.2.1 y5.1))then((rec y5.2.2.1 x.2.1 y5.1 (aa .sub .i64 x.2.2.2.1 (1:Int))).bind fun y6=>some (.inl (y6.1,(aa .add .i64 y5.1 (1:Int)),x.2.2.1,(aa .sub .i64 x.2.2.2.1 (1:Int)),(af .geq (aa .sub .i64 y5.1 x.2.1) (aa .quo .i64 (aa .sub .i64 x.2.2.1 x.2.1) (8:Int))),y5.2.1,())))else((rec y5.2.2.1 (aa .add .i64 y5.1 (1:Int)) x.2.2.1 (aa .sub .i64 x.2.2.2.1 (1:Int))).bind fun y6=>some (.inl (y6.1,x.2.1,y5.1,(aa .sub .i64 x.2.2.2.1 (1:Int)),(af .geq (aa .sub .i64 x.2.2.1 y5.1) (aa .quo .i64 (aa .sub .i64 x.2.2.1 x.2.1) (8:Int))),y5.2.1,()))))))))else none)else none)else((vv lt y3.2.1 x.2.1 x.2.2.1 (aa .sub .i64 (aa .sub .i64 x.2.2.1 (1:Int)) (aa .sub .i64 y1.1 x.2.1))).bind fun y4=>(bif (ax (8:Int))then none else(bif (af .lss (aa .sub .i64 y4.1 x.2.1) (aa .sub .i64 x.2.2.1 y4.1))then((rec y4.2.2.1 x.2.1 y4.1 (aa .sub .i64 x.2.2.2.1 (1:Int))).bind fun y5=>some (.inl (y5.1,(aa .add .i64 y4.1 (1:Int)),x.2.2.1,(aa .sub .i64 x.2.2.2.1 (1:Int)),(af .geq (aa .sub .i64 y4.1 x.2.1) (aa .quo .i64 (aa .sub .i64 x.2.2.1 x.2.1) (8:Int))),y4.2.1,())))else((rec y4.2.2.1 (aa .add .i64 y4.1 (1:Int)) x.2.2.1 (aa .sub .i64 x.2.2.2.1 (1:Int))).bind fun y5=>some (.inl (y5.1,x.2.1,y4.1,(aa .sub .i64 x.2.2.2.1 (1:Int)),(af .geq (aa .sub .i64 x.2.2.1 y4.1) (aa .quo .i64 (aa .sub .i64 x.2.2.1 x.2.1) (8:Int))),y4.2.1,())))))))))else(bif (af .gtr x.2.1 (0:Int))then(bif (ah y2.1 (aa .sub .i64 x.2.1 (1:Int)))then(bif (ah y2.1 (aa .sub .i64 (aa .sub .i64 x.2.2.1 (1:Int)) (aa .sub .i64 y1.1 x.2.1)))then((some (lt (ae default y2.1 (aa .sub .i64 x.2.1 (1:Int))) (ae default y2.1 (aa .sub .i64 (aa .sub .i64 x.2.2.1 (1:Int)) (aa .sub .i64 y1.1 x.2.1))),())).bind fun y3=>(bif (Bool.not y3.1)then((BE lt y2.1 x.2.1 x.2.2.1 (aa .sub .i64 (aa .sub .i64 x.2.2.1 (1:Int)) (aa .sub .i64 y1.1 x.2.1))).bind fun y4=>some (.inl (y4.2.1,y4.1,x.2.2.1,(aa .sub .i64 x.2.2.2.1 (1:Int)),x.2.2.2.2.1,x.2.2.2.2.2.1,())))else((vv lt y2.1 x.2.1 x.2.2.1 (aa .sub .i64 (aa .sub .i64 x.2.2.1 (1:Int)) (aa .sub .i64 y1.1 x.2.1))).bind fun y4=>(bif (ax (8:Int))then none else(bif (af .lss (aa .sub .i64 y4.1 x.2.1) (aa .sub .i64 x.2.2.1 y4.1))then((rec y4.2.2.1 x.2.1 y4.1 (aa .sub .i64 x.2.2.2.1 (1:Int))).bind fun y5=>some (.inl (y5.1,(aa .add .i64 y4.1 (1:Int)),x.2.2.1,(aa .sub .i64 x.2.2.2.1 (1:Int)),(af .geq (aa .sub .i64 y4.1 x.2.1) (aa .quo .i64 (aa .sub .i64 x.2.2.1 x.2.1) (8:Int))),y4.2.1,())))else((rec y4.2.2.1 (aa .add .i64 y4.1 (1:Int)) x.2.2.1 (aa .sub .i64 x.2.2.2.1 (1:Int))).bind fun y5=>some (.inl (y5.1,x.2.1,y4.1,(aa .sub .i64 x.2.2.2.1 (1:Int)),(af .geq (aa .sub .i64 x.2.2.1 y4.1) (aa .quo .i64 (aa .sub .i64 x.2.2.1 x.2.1) (8:Int))),y4.2.1,()))))))))else none)else none)else((vv lt y2.1 x.2.1 x.2.2.1 (aa .sub .i64 (aa .sub .i64 x.2.2.1 (1:Int)) (aa .sub .i64 y1.1 x.2.1))).bind fun y3=>(bif (ax (8:Int))then none else(bif (af .lss (aa .sub .i64 y3.1 x.2.1) (aa .sub .i64 x.2.2.1 y3.1))then((rec y3.2.2.1 x.2.1 y3.1 (aa .sub .i64 x.2.2.2.1 (1:Int))).bind fun y4=>some (.inl (y4.1,(aa .add .i64 y3.1 (1:Int)),x.2.2.1,(aa .sub .i64 x.2.2.2.1 (1:Int)),(af .geq (aa .sub .i64 y3.1 x.2.1) (aa .quo .i64 (aa .sub .i64 x.2.2.1 x.2.1) (8:Int))),y3.2.1,())))else((rec y3.2.2.1 (aa .add .i64 y3.1 (1:Int)) x.2.2.1 (aa .sub .i64 x.2.2.2.1 (1:Int))).bind fun y4=>some (.inl (y4.1,x.2.1,y3.1,(aa .sub .i64 x.2.2.2.1 (1:Int)),(af .geq (aa .sub .i64 x.2.2.1 y3.1) (aa .quo .i64 (aa .sub .i64 x.2.2.1 x.2.1) (8:Int))),y3.2.1,()))))))))else(bif (af .gtr x.2.1 (0:Int))then(bif (ah y2.1 (aa .sub .i64 x.2.1 (1:Int)))then(bif (ah y2.1 (aa .sub .i64 (aa .sub .i64 x.2.2.1 (1:Int)) (aa .sub .i64 y1.1 x.2.1)))then((some (lt (ae default y2.1 (aa .sub .i64 x.2.1 (1:Int))) (ae default y2.1 (aa .sub .i64 (aa .sub .i64 x.2.2.1 (1:Int)) (aa .sub .i64 y1.1 x.2.1))),())).bind fun y3=>(bif (Bool.not y3.1)then((BE lt y2.1 x.2.1 x.2.2.1 (aa .sub .i64 (aa .sub .i64 x.2.2.1 (1:Int)) (aa .sub .i64 y1.1 x.2.1))).bind fun y4=>some (.inl (y4.2.1,y4.1,x.2.2.1,(aa .sub .i64 x.2.2.2.1 (1:Int)),x.2.2.2.2.1,x.2.2.2.2.2.1,())))else((vv lt y2.1 x.2.1 x.2.2.1 (aa .sub .i64 (aa .sub .i64 x.2.2.1 (1:Int)) (aa .sub .i64 y1.1 x.2.1))).bind fun y4=>(bif (ax (8:Int))then none else(bif (af .lss (aa .sub .i64 y4.1 x.2.1) (aa .sub .i64 x.2.2.1 y4.1))then((rec y4.2.2.1 x.2.1 y4.1 (aa .sub .i64 x.2.2.2.1 (1:Int))).bind fun y5=>some (.inl (y5.1,(aa .add .i64 y4.1 (1:Int)),x.2.2.1,(aa .sub .i64 x.2.2.2.1 (1:Int)),(af .geq (aa .sub .i64 y4.1 x.2.1) (aa .quo .i64 (aa .sub .i64 x.2.2.1 x.2.1) (8:Int))),y4.2.1,())))else((rec y4.2.2.1 (aa .add .i64 y4.1 (1:Int)) x.2.2.1 (aa .sub .i64 x.2.2.2.1 (1:Int))).bind fun y5=>some (.inl (y5.1,x.2.1,y4.1,(aa .sub .i64 x.2.2.2.1 (1:Int)),(af .geq (aa .sub .i64 x.2.2.1 y4.1) (aa .quo .i64 (aa .sub .i64 x.2.2.1 x.2.1) (8:Int))),y4.2.1,()))))))))else none)else none)else((vv lt y2.1 x.2.1 x.2.2.1 (aa .sub .i64 (aa .sub .i64 x.2.2.1 (1:Int)) (aa .sub .i64 y1.1 x.2.1))).bind fun y3=>(bif (ax (8:Int))then none else(bif (af .lss (aa .sub .i64 y3.1 x.2.1) (aa .sub .i64 x.2.2.1 y3.1))then((rec y3.2.2.1 x.2.1 y3.1 (aa .sub .i64 x.2.2.2.1 (1:Int))).bind fun y4=>some (.inl (y4.1,(aa .add .i64 y3.1 (1:Int)),x.2.2.1,(aa .sub .i64 x.2.2.2.1 (1:Int)),(af .geq (aa .sub .i64 y3.1 x.2.1) (aa .quo .i64 (aa .sub .i64 x.2.2.1 x.2.1) (8:Int))),y3.2.1,())))else((rec y3.2.2.1 (aa .add .i64 y3.1 (1:Int)) x.2.2.1 (aa .sub .i64 x.2.2.2.1 (1:Int))).bind fun y4=>some (.inl (y4.1,x.2.1,y3.1,(aa .sub .i64 x.2.2.2.1 (1:Int)),(af .geq (aa .sub .i64 x.2.2.1 y3.1) (aa .quo .i64 (aa .sub .i64 x.2.2.1 x.2.1) (8:Int))),y3.2.1,()))))))))else(bif (af .gtr x.2.1 (0:Int))then(bif (ah y2.1 (aa .sub .i64 x.2.1 (1:Int)))then(bif (ah y2.1 (aa .sub .i64 (aa .sub .i64 x.2.2.1 (1:Int)) (aa .sub .i64 y1.1 x.2.1)))then((some (lt (ae default y2.1 (aa .sub .i64 x.2.1 (1:Int))) (ae default y2.1 (aa .sub .i64 (aa .sub .i64 x.2.2.1 (1:Int)) (aa .sub .i64 y1.1 x.2.1))),())).bind fun y3=>(bif (Bool.not y3.1)then((BE lt y2.1 x.2.1 x.2.2.1 (aa .sub .i64 (aa .sub .i64 x.2.2.1 (1:Int)) (aa .sub .i64 y1.1 x.2.1))).bind fun y4=>some (.inl (y4.2.1,y4.1,x.2.2.1,(aa .sub .i64 x.2.2.2.1 (1:Int)),x.2.2.2.2.1,x.2.2.2.2.2.1,())))else((vv lt y2.1 x.2.1 x.2.2.1 (aa .sub .i64 (aa .sub .i64 x.2.2.1 (1:Int)) (aa .sub .i64 y1.1 x.2.1))).bind fun y4=>(bif (ax (8:Int))then none else(bif (af .lss (aa .sub .i64 y4.1 x.2.1) (aa .sub .i64 x.2.2.1 y4.1))then((rec y4.2.2.1 x.2.1 y4.1 (aa .sub .i64 x.2.2.2.1 (1:Int))).bind fun y5=>some (.inl (y5.1,(aa .add .i64 y4.1 (1:Int)),x.2.2.1,(aa .sub .i64 x.2.2.2.1 (1:Int)),(af .geq (aa .sub .i64 y4.1 x.2.1) (aa .quo .i64 (aa .sub .i64 x.2.2.1 x.2.1) (8:Int))),y4.2.1,())))else((rec y4.2.2.1 (aa .add .i64 y4.1 (1:Int)) x.2.2.1 (aa .sub .i64 x.2.2.2.1 (1:Int))).bind fun y5=>some (.inl (y5.1,x.2.1,y4.1,(aa .sub .i64 x.2.2.2.1 (1:Int)),(af .geq (aa .sub .i64 x.2.2.1 y4.1) (aa .quo .i64 (aa .sub .i64 x.2.2.1 x.2.1) (8:Int))),y4.2.1,()))))))))else none)else none)else((vv lt y2.1 x.2.1 x.2.2.1 (aa .sub .i64 (aa .sub .i64 x.2.2.1 (1:Int)) (aa .sub .i64 y1.1 x.2.1))).bind fun y3=>(bif (ax (8:Int))then none else(bif (af .lss (aa .sub .i64 y3.1 x.2.1) (aa .sub .i64 x.2.2.1 y3.1))then((rec y3.2.2.1 x.2.1 y3.1 (aa .sub .i64 x.2.2.2.1 (1:Int))).bind fun y4=>some (.inl (y4.1,(aa .add .i64 y3.1 (1:Int)),x.2.2.1,(aa .sub .i64 x.2.2.2.1 (1:Int)),(af .geq (aa .sub .i64 y3.1 x.2.1) (aa .quo .i64 (aa .sub .i64 x.2.2.1 x.2.1) (8:Int))),y3.2.1,())))else((rec y3.2.2.1 (aa .add .i64 y3.1 (1:Int)) x.2.2.1 (aa .sub .i64 x.2.2.2.1 (1:Int))).bind fun y4=>some (.inl (y4.1,x.2.1,y3.1,(aa .sub .i64 x.2.2.2.1 (1:Int)),(af .geq (aa .sub .i64 x.2.2.1 y3.1) (aa .quo .i64 (aa .sub .i64 x.2.2.1 x.2.1) (8:Int))),y3.2.1,())))))))))else(bif x.2.2.2.2.1 then(bif x.2.2.2.2.2.1 then(bif (af .eql y1.2.1 (1:Int))then((Jf lt y0.1 x.2.1 x.2.2.1).bind fun y2=>(bif y2.1 then some (.inr (.inl (y2.2.1,())))else(bif (af .gtr x.2.1 (0:Int))then(bif (ah y2.2.1 (aa .sub .i64 x.2.1 (1:Int)))then(bif (ah y2.2.1 y1.1)then((some (lt (ae default y2.2.1 (aa .sub .i64 x.2.1 (1:Int))) (ae default y2.2.1 y1.1),())).bind fun y3=>(bif (Bool.not y3.1)then((BE lt y2.2.1 x.2.1 x.2.2.1 y1.1).bind fun y4=>some (.inl (y4.2.1,y4.1,x.2.2.1,(aa .sub .i64 x.2.2.2.1 (1:Int)),x.2.2.2.2.1,x.2.2.2.2.2.1,())))else((vv lt y2.2.1 x.2.1 x.2.2.1 y1.1).bind fun y4=>(bif (ax (8:Int))then none else(bif (af .lss (aa .sub .i64 y4.1 x.2.1) (aa .sub .i64 x.2.2.1 y4.1))then((rec y4.2.2.1 x.2.1 y4.1 (aa .sub .i64 x.2.2.2.1 (1:Int))).bind fun y5=>some (.inl (y5.1,(aa .add .i64 y4.1 (1:Int)),x.2.2.1,(aa .sub .i64 x.2.2.2.1 (1:Int)),(af .geq (aa .sub .i64 y4.1 x.2.1) (aa .quo .i64 (aa .sub .i64 x.2.2.1 x.2.1) (8:Int))),y4.2.1,())))else((rec y4.2.2.1 (aa .add .i64 y4.1 (1:Int)) x.2.2.1 (aa .sub .i64 x.2.2.2.1 (1:Int))).bind fun y5=>some (.inl (y5.1,x.2.1,y4.1,(aa .sub .i64 x.2.2.2.1 (1:Int)),(af .geq (aa .sub .i64 x.2.2.1 y4.1) (aa .quo .i64 (aa .sub .i64 x.2.2.1 x.2.1) (8:Int))),y4.2.1,()))))))))else none)else none)else((vv lt y2.2.1 x.2.1 x.2.2.1 y1.1).bind fun y3=>(bif (ax (8:Int))then none else(bif (af .lss (aa .sub .i64 y3.1 x.2.1) (aa .sub .i64 x.2.2.1 y3.1))then((rec y3.2.2.1 x.2.1 y3.1 (aa .sub .i64 x.2.2.2.1 (1:Int))).bind fun y4=>some (.inl (y4.1,(aa .add .i64 y3.1 (1:Int)),x.2.2.1,(aa .sub .i64 x.2.2.2.1 (1:Int)),(af .geq (aa .sub .i64 y3.1 x.2.1) (aa .quo .i64 (aa .sub .i64 x.2.2.1 x.2.1) (8:Int))),y3.2.1,())))else((rec y3.2.2.1 (aa .add .i64 y3.1 (1:Int)) x.2.2.1 (aa .sub .i64 x.2.2.2.1 (1:Int))).bind fun y4=>some (.inl (y4.1,x.2.1,y3.1,(aa .sub .i64 x.2.2.2.1 (1:Int)),(af .geq (aa .sub .i64 x.2.2.1 y3.1) (aa .quo .i64 (aa .sub .i64 x.2.2.1 x.2.1) (8:Int))),y3.2.1,())))))))))else(bif (af .gtr x.2.1 (0:Int))then(bif (ah y0.1 (aa .sub .i64 x.2.1 (1:Int)))then(bif (ah y0.1 y1.1)then((some (lt (ae default y0.1 (aa .sub .i64 x.2.1 (1:Int))) (ae default y0.1 y1.1),())).bind fun y2=>(bif (Bool.not y2.1)then((BE lt y0.1 x.2.1 x.2.2.1 y1.1).bind fun y3=>some (.inl (y3.2.1,y3.1,x.2.2.1,(aa .sub .i64 x.2.2.2.1 (1:Int)),x.2.2.2.2.1,x.2.2.2.2.2.1,())))else((vv lt y0.1 x.2.1 x.2.2.1 y1.1).bind fun y3=>(bif (ax (8:Int))then none else(bif (af .lss (aa .sub .i64 y3.1 x.2.1) (aa .sub .i64 x.2.2.1 y3.1))then((rec y3.2.2.1 x.2.1 y3.1 (aa .sub .i64 x.2.2.2.1 (1:Int))).bind fun y4=>some (.inl (y4.1,(aa .add .i64 y3.1 (1:Int)),x.2.2.1,(aa .sub .i64 x.2.2.2.1 (1:Int)),(af .geq (aa .sub .i64 y3.1 x.2.1) (aa .quo .i64 (aa .sub .i64 x.2.2.1 x.2.1) (8:Int))),y3.2.1,())))else((rec y3.2.2.1 (aa .add .i64 y3.1 (1:Int)) x.2.2.1 (aa .sub .i64 x.2.2.2.1 (1:Int))).bind fun y4=>some (.inl (y4.1,x.2.1,y3.1,(aa .sub .i64 x.2.2.2.1 (1:Int)),(af .geq (aa .sub .i64 x.2.2.1 y3.1) (aa .quo .i64 (aa .sub .i64 x.2.2.1 x.2.1) (8:Int))),y3.2.1,()))))))))else none)else none)else((vv lt y0.1 x.2.1 x.2.2.1 y1.1).bind fun y2=>(bif (ax (8:Int))then none else(bif (af .lss (aa .sub .i64 y2.1 x.2.1) (aa .sub .i64 x.2.2.1 y2.1))then((rec y2.2.2.1 x.2.1 y2.1 (aa .sub .i64 x.2.2.2.1 (1:Int))).bind fun y3=>some (.inl (y3.1,(aa .add .i64 y2.1 (1:Int)),x.2.2.1,(aa .sub .i64 x.2.2.2.1 (1:Int)),(af .geq (aa .sub .i64 y2.1 x.2.1) (aa .quo .i64 (aa .sub .i64 x.2.2.1 x.2.1) (8:Int))),y2.2.1,())))else((rec y2.2.2.1 (aa .add .i64 y2.1 (1:Int)) x.2.2.1 (aa .sub .i64 x.2.2.2.1 (1:Int))).bind fun y3=>some (.inl (y3.1,x.2.1,y2.1,(aa .sub .i64 x.2.2.2.1 (1:Int)),(af .geq (aa .sub .i64 x.2.2.1 y2.1) (aa .quo .i64 (aa .sub .i64 x.2.2.1 x.2.1) (8:Int))),y2.2.1,()))))))))else(bif (af .gtr x.2.1 (0:Int))then(bif (ah y0.1 (aa .sub .i64 x.2.1 (1:Int)))then(bif (ah y0.1 y1.1)then((some (lt (ae default y0.1 (aa .sub .i64 x.2.1 (1:Int))) (ae default y0.1 y1.1),())).bind fun y2=>(bif (Bool.not y2.1)then((BE lt y0.1 x.2.1 x.2.2.1 y1.1).bind fun y3=>some (.inl (y3.2.1,y3.1,x.2.2.1,(aa .sub .i64 x.2.2.2.1 (1:Int)),x.2.2.2.2.1,x.2.2.2.2.2.1,())))else((vv lt y0.1 x.2.1 x.2.2.1 y1.1).bind fun y3=>(bif (ax (8:Int))then none else(bif (af .lss (aa .sub .i64 y3.1 x.2.1) (aa .sub .i64 x.2.2.1 y3.1))then((rec y3.2.2.1 x.2.1 y3.1 (aa .sub .i64 x.2.2.2.1 (1:Int))).bind fun y4=>some (.inl (y4.1,(aa .add .i64 y3.1 (1:Int)),x.2.2.1,(aa .sub .i64 x.2.2.2.1 (1:Int)),(af .geq (aa .sub .i64 y3.1 x.2.1) (aa .quo .i64 (aa .sub .i64 x.2.2.1 x.2.1) (8:Int))),y3.2.1,())))else((rec y3.2.2.1 (aa .add .i64 y3.1 (1:Int)) x.2.2.1 (aa .sub .i64 x.2.2.2.1 (1:Int))).bind fun y4=>some (.inl (y4.1,x.2.1,y3.1,(aa .sub .i64 x.2.2.2.1 (1:Int)),(af .geq (aa .sub .i64 x.2.2.1 y3.1) (aa .quo .i64 (aa .sub .i64 x.2.2.1 x.2.1) (8:Int))),y3.2.1,()))))))))else none)else none)else((vv lt y0.1 x.2.1 x.2.2.1 y1.1).bind fun y2=>(bif (ax (8:Int))then none else(bif (af .lss (aa .sub .i64 y2.1 x.2.1) (aa .sub .i64 x.2.2.1 y2.1))then((rec y2.2.2.1 x.2.1 y2.1 (aa .sub .i64 x.2.2.2.1 (1:Int))).bind fun y3=>some (.inl (y3.1,(aa .add .i64 y2.1 (1:Int)),x.2.2.1,(aa .sub .i64 x.2.2.2.1 (1:Int)),(af .geq (aa .sub .i64 y2.1 x.2.1) (aa .quo .i64 (aa .sub .i64 x.2.2.1 x.2.1) (8:Int))),y2.2.1,())))else((rec y2.2.2.1 (aa .add .i64 y2.1 (1:Int)) x.2.2.1 (aa .sub .i64 x.2.2.2.1 (1:Int))).bind fun y3=>some (.inl (y3.1,x.2.1,y2.1,(aa .sub .i64 x.2.2.2.1 (1:Int)),(af .geq (aa .sub .i64 x.2.2.1 y2.1) (aa .quo .i64 (aa .sub .i64 x.2.2.1 x.2.1) (8:Int))),y2.2.1,()))))))))else(bif (af .gtr x.2.1 (0:Int))then(bif (ah y0.1 (aa .sub .i64 x.2.1 (1:Int)))then(bif (ah y0.1 y1.1)then((some (lt (ae default y0.1 (aa .sub .i64 x.2.1 (1:Int))) (ae default y0.1 y1.1),())).bind fun y2=>(bif (Bool.not y2.1)then((BE lt y0.1 x.2.1 x.2.2.1 y1.1).bind fun y3=>some (.inl (y3.2.1,y3.1,x.2.2.1,(aa .sub .i64 x.2.2.2.1 (1:Int)),x.2.2.2.2.1,x.2.2.2.2.2.1,())))else((vv lt y0.1 x.2.1 x.2.2.1 y1.1).bind fun y3=>(bif (ax (8:Int))then none else(bif (af .lss (aa .sub .i64 y3.1 x.2.1) (aa .sub .i64 x.2.2.1 y3.1))then((rec y3.2.2.1 x.2.1 y3.1 (aa .sub .i64 x.2.2.2.1 (1:Int))).bind fun y4=>some (.inl (y4.1,(aa .add .i64 y3.1 (1:Int)),x.2.2.1,(aa .sub .i64 x.2.2.2.1 (1:Int)),(af .geq (aa .sub .i64 y3.1 x.2.1) (aa .quo .i64 (aa .sub .i64 x.2.2.1 x.2.1) (8:Int))),y3.2.1,())))else((rec y3.2.2.1 (aa .add .i64 y3.1 (1:Int)) x.2.2.1 (aa .sub .i64 x.2.2.2.1 (1:Int))).bind fun y4=>some (.inl (y4.1,x.2.1,y3.1,(aa .sub .i64 x.2.2.2.1 (1:Int)),(af .geq (aa .sub .i64 x.2.2.1 y3.1) (aa .quo .i64 (aa .sub .i64 x.2.2.1 x.2.1) (8:Int))),y3.2.1,()))))))))else none)else none)else((vv lt y0.1 x.2.1 x.2.2.1 y1.1).bind fun y2=>(bif (ax (8:Int))then none else(bif (af .lss (aa .sub .i64 y2.1 x.2.1) (aa .sub .i64 x.2.2.1 y2.1))then((rec y2.2.2.1 x.2.1 y2.1 (aa .sub .i64 x.2.2.2.1 (1:Int))).bind fun y3=>some (.inl (y3.1,(aa .add .i64 y2.1 (1:Int)),x.2.2.1,(aa .sub .i64 x.2.2.2.1 (1:Int)),(af .geq (aa .sub .i64 y2.1 x.2.1) (aa .quo .i64 (aa .sub .i64 x.2.2.1 x.2.1) (8:Int))),y2.2.1,())))else((rec y2.2.2.1 (aa .add .i64 y2.1 (1:Int)) x.2.2.1 (aa .sub .i64 x.2.2.2.1 (1:Int))).bind fun y3=>some (.inl (y3.1,x.2.1,y2.1,(aa .sub .i64 x.2.2.2.1 (1:Int)),(af .geq (aa .sub .i64 x.2.2.1 y2.1) (aa .quo .i64 (aa .sub .i64 x.2.2.1 x.2.1) (8:Int))),y2.2.1,())))))))))))else((MW lt x.1 x.2.1 x.2.2.1).bind fun y0=>(bif (af .eql y0.2.1 (2:Int))then((MB lt x.1 x.2.1 x.2.2.1).bind fun y1=>(bif x.2.2.2.2.1 then(bif x.2.2.2.2.2.1 then(bif (af .eql (1:Int) (1:Int))then((Jf lt y1.1 x.2.1 x.2.2.1).bind fun y2=>(bif y2.1 then some (.inr (.inl (y2.2.1,())))else(bif (af .gtr x.2.1 (0:Int))then(bif (ah y2.2.1 (aa .sub .i64 x.2.1 (1:Int)))then(bif (ah y2.2.1 (aa .sub .i64 (aa .sub .i64 x.2.2.1 (1:Int)) (aa .sub .i64 y0.1 x.2.1)))then((some (lt (ae default y2.2.1 (aa .sub .i64 x.2.1 (1:Int))) (ae default y2.2.1 (aa .sub .i64 (aa .sub .i64 x.2.2.1 (1:Int)) (aa .sub .i64 y0.1 x.2.1))),())).bind fun y3=>(bif (Bool.not y3.1)then((BE lt y2.2.1 x.2.1 x.2.2.1 (aa .sub .i64 (aa .sub .i64 x.2.2.1 (1:Int)) (aa .sub .i64 y0.1 x.2.1))).bind fun y4=>some (.inl (y4.2.1,y4.1,x.2.2.1,x.2.2.2.1,x.2.2.2.2.1,x.2.2.2.2.2.1,())))else((vv lt y2.2.1 x.2.1 x.2.2.1 (aa .sub .i64 (aa .sub .i64 x.2.2.1 (1:Int)) (aa .sub .i64 y0.1 x.2.1))).bind fun y4=>(bif (ax (8:Int))then none else(bif (af .lss (aa .sub .i64 y4.1 x.2.1) (aa .sub .i64 x.2.2.1 y4.1))then((rec y4.2.2.1 x.2.1 y4.1 x.2.2.2.1).bind fun y5=>some (.inl (y5.1,(aa .add .i64 y4.1 (1:Int)),x.2.2.1,x.2.2.2.1,(af .geq (aa .sub .i64 y4.1 x.2.1) (aa .quo .i64 (aa .sub .i64 x.2.2.1 x.2.1) (8:Int))),y4.2.1,())))else((rec y4.2.2.1 (aa .add .i64 y4.1 (1:Int)) x.2.2.1 x.2.2.2.1).bind fun y5=>some (.inl (y5.1,x.2.1,y4.1,x.2.2.2.1,(af .geq (aa .sub .i64 x.2.2.1 y4.1) (aa .quo .i64 (aa .sub .i64 x.2.2.1 x.2.1) (8:Int))),y4.2.1,()))))))))else none)else none)else((vv lt y2.2.1 x.2.1 x.2.2.1 (aa .sub .i64 (aa .sub .i64 x.2.2.1 (1:Int)) (aa .sub .i64 y0.1 x.2.1))).bind fun y3=>(bif (ax (8:Int))then none else(bif (af .lss (aa .sub .i64 y3.1 x.2.1) (aa .sub .i64 x.2.2.1 y3.1))then((rec y3.2.2.1 x.2.1 y3.1 x.2.2.2.1).bind fun y4=>some (.inl (y4.1,(aa .add .i64 y3.1 (1:Int)),x.2.2.1,x.2.2.2.1,(af .geq (aa .sub .i64 y3.1 x.2.1) (aa .quo .i64 (aa .sub .i64 x.2.2.1 x.2.1) (8:Int))),y3.2.1,())))else((rec y3.2.2.1 (aa .add .i64 y3.1 (1:Int)) x.2.2.1 x.2.2.2.1).bind fun y4=>some (.inl (y4.1,x.2.1,y3.1,x.2.2.2.1,(af .geq (aa .sub .i64 x.2.2.1 y3.1) (aa .quo .i64 (aa .sub .i64 x.2.2.1 x.2.1) (8:Int))),y3.2.1,())))))))))else(bif (af .gtr x.2.1 (0:Int))then(bif (ah y1.1 (aa .sub .i64 x.2.1 (1:Int)))then(bif (ah y1.1 (aa .sub .i64 (aa .sub .i64 x.2.2.1 (1:Int)) (aa .sub .i64 y0.1 x.2.1)))then((some (lt (ae default y1.1 (aa .sub .i64 x.2.1 (1:Int))) (ae default y1.1 (aa .sub .i64 (aa .sub .i64 x.2.2.1 (1:Int)) (aa .sub .i64 y0.1 x.2.1))),())).bind fun y2=>(bif (Bool.not y2.1)then((BE lt y1.1 x.2.1 x.2.2.1 (aa .sub .i64 (aa .sub .i64 x.2.2.1 (1:Int)) (aa .sub .i64 y0.1 x.2.1))).bind fun y3=>some (.inl (y3.2.1,y3.1,x.2.2.1,x.2.2.2.1,x.2.2.2.2.1,x.2.2.2.2.2.1,())))else((vv lt y1.1 x.2.1 x.2.2.1 (aa .sub .i64 (aa .sub .i64 x.2.2.1 (1:Int)) (aa .sub .i64 y0.1 x.2.1))).bind fun y3=>(bif (ax (8:Int))then none else(bif (af .lss (aa .sub .i64 y3.1 x.2.1) (aa .sub .i64 x.2.2.1 y3.1))then((rec y3.2.2.1 x.2.1 y3.1 x.2.2.2.1).bind fun y4=>some (.inl (y4.1,(aa .add .i64 y3.1 (1:Int)),x.2.2.1,x.2.2.2.1,(af .geq (aa .sub .i64 y3.1 x.2.1) (aa .quo .i64 (aa .sub .i64 x.2.2.1 x.2.1) (8:Int))),y3.2.1,())))else((rec y3.2.2.1 (aa .add .i64 y3.1 (1:Int)) x.2.2.1 x.2.2.2.1).bind fun y4=>some (.inl (y4.1,x.2.1,y3.1,x.2.2.2.1,(af .geq (aa .sub .i64 x.2.2.1 y3.1) (aa .quo .i64 (aa .sub .i64 x.2.2.1 x.2.1) (8:Int))),y3.2.1,()))))))))else none)else none)else((vv lt y1.1 x.2.1 x.2.2.1 (aa .sub .i64 (aa .sub .i64 x.2.2.1 (1:Int)) (aa .sub .i64 y0.1 x.2.1))).bind fun y2=>(bif (ax (8:Int))then none else(bif (af .lss (aa .sub .i64 y2.1 x.2.1) (aa .sub .i64 x.2.2.1 y2.1))then((rec y2.2.2.1 x.2.1 y2.1 x.2.2.2.1).bind fun y3=>some (.inl (y3.1,(aa .add .i64 y2.1 (1:Int)),x.2.2.1,x.2.2.2.1,(af .geq (aa .sub .i64 y2.1 x.2.1) (aa .quo .i64 (aa .sub .i64 x.2.2.1 x.2.1) (8:Int))),y2.2.1,())))else((rec y2.2.2.1 (aa .add .i64 y2.1 (1:Int)) x.2.2.1 x.2.2.2.1).bind fun y3=>some (.inl (y3.1,x.2.1,y2.1,x.2.2.2.1,(af .geq (aa .sub .i64 x.2.2.1 y2.1) (aa .quo .i64 (aa .sub .i64 x.2.2.1 x.2.1) (8:Int))),y2.2.1,()))))))))else(bif (af .gtr x.2.1 (0:Int))then(bif (ah y1.1 (aa .sub .i64 x.2.1 (1:Int)))then(bif (ah y1.1 (aa .sub .i64 (aa .sub .i64 x.2.2.1 (1:Int)) (aa .sub .i64 y0.1 x.2.1)))then((some (lt (ae default y1.1 (aa .sub .i64 x.2.1 (1:Int))) (ae default y1.1 (aa .sub .i64 (aa .sub .i64 x.2.2.1 (1:Int)) (aa .sub .i64 y0.1 x.2.1))),())).bind fun y2=>(bif (Bool.not y2.1)then((BE lt y1.1 x.2.1 x.2.2.1 (aa .sub .i64 (aa .sub .i64 x.2.2.1 (1:Int)) (aa .sub .i64 y0.1 x.2.1))).bind fun y3=>some (.inl (y3.2.1,y3.1,x.2.2.1,x.2.2.2.1,x.2.2.2.2.1,x.2.2.2.2.2.1,())))else((vv lt y1.1 x.2.1 x.2.2.1 (aa .sub .i64 (aa .sub .i64 x.2.2.1 (1:Int)) (aa .sub .i64 y0.1 x.2.1))).bind fun y3=>(bif (ax (8:Int))then none else(bif (af .lss (aa .sub .i64 y3.1 x.2.1) (aa .sub .i64 x.2.2.1 y3.1))then((rec y3.2.2.1 x.2.1 y3.1 x.2.2.2.1).bind fun y4=>some (.inl (y4.1,(aa .add .i64 y3.1 (1:Int)),x.2.2.1,x.2.2.2.1,(af .geq (aa .sub .i64 y3.1 x.2.1) (aa .quo .i64 (aa .sub .i64 x.2.2.1 x.2.1) (8:Int))),y3.2.1,())))else((rec y3.2.2.1 (aa .add .i64 y3.1 (1:Int)) x.2.2.1 x.2.2.2.1).bind fun y4=>some (.inl (y4.1,x.2.1,y3.1,x.2.2.2.1,(af .geq (aa .sub .i64 x.2.2.1 y3.1) (aa .quo .i64 (aa .sub .i64 x.2.2.1 x.2.1) (8:Int))),y3.2.1,()))))))))else none)else none)else((vv lt y1.1 x.2.1 x.2.2.1 (aa .sub .i64 (aa .sub .i64 x.2.2.1 (1:Int)) (aa .sub .i64 y0.1 x.2.1))).bind fun y2=>(bif (ax (8:Int))then none else(bif (af .lss (aa .sub .i64 y2.1 x.2.1) (aa .sub .i64 x.2.2.1 y2.1))then((rec y2.2.2.1 x.2.1 y2.1 x.2.2.2.1).bind fun y3=>some (.inl (y3.1,(aa .add .i64 y2.1 (1:Int)),x.2.2.1,x.2.2.2.1,(af .geq (aa .sub .i64 y2.1 x.2.1) (aa .quo .i64 (aa .sub .i64 x.2.2.1 x.2.1) (8:Int))),y2.2.1,())))else((rec y2.2.2.1 (aa .add .i64 y2.1 (1:Int)) x.2.2.1 x.2.2.2.1).bind fun y3=>some (.inl (y3.1,x.2.1,y2.1,x.2.2.2.1,(af .geq (aa .sub .i64 x.2.2.1 y2.1) (aa .quo .i64 (aa .sub .i64 x.2.2.1 x.2.1) (8:Int))),y2.2.1,()))))))))else(bif (af .gtr x.2.1 (0:Int))then(bif (ah y1.1 (aa .sub .i64 x.2.1 (1:Int)))then(bif (ah y1.1 (aa .sub .i64 (aa .sub .i64 x.2.2.1 (1:Int)) (aa .sub .i64 y0.1 x.2.1)))then((some (lt (ae default y1.1 (aa .sub .i64 x.2.1 (1:Int))) (ae default y1.1 (aa .sub .i64 (aa .sub .i64 x.2.2.1 (1:Int)) (aa .sub .i64 y0.1 x.2.1))),())).bind fun y2=>(bif (Bool.not y2.1)then((BE lt y1.1 x.2.1 x.2.2.1 (aa .sub .i64 (aa .sub .i64 x.2.2.1 (1:Int)) (aa .sub .i64 y0.1 x.2.1))).bind fun y3=>some (.inl (y3.2.1,y3.1,x.2.2.1,x.2.2.2.1,x.2.2.2.2.1,x.2.2.2.2.2.1,())))else((vv lt y1.1 x.2.1 x.2.2.1 (aa .sub .i64 (aa .sub .i64 x.2.2.1 (1:Int)) (aa .sub .i64 y0.1 x.2.1))).bind fun y3=>(bif (ax (8:Int))then none else(bif (af .lss (aa .sub .i64 y3.1 x.2.1) (aa .sub .i64 x.2.2.1 y3.1))then((rec y3.2.2.1 x.2.1 y3.1 x.2.2.2.1).bind fun y4=>some (.inl (y4.1,(aa .add .i64 y3.1 (1:Int)),x.2.2.1,x.2.2.2.1,(af .geq (aa .sub .i64 y3.1 x.2.1) (aa .quo .i64 (aa .sub .i64 x.2.2.1 x.2.1) (8:Int))),y3.2.1,())))else((rec y3.2.2.1 (aa .add .i64 y3.1 (1:Int)) x.2.2.1 x.2.2.2.1).bind fun y4=>some (.inl (y4.1,x.2.1,y3.1,x.2.2.2.1,(af .geq (aa .sub .i64 x.2.2.1 y3.1) (aa .quo .i64 (aa .sub .i64 x.2.2.1 x.2.1) (8:Int))),y3.2.1,()))))))))else none)else none)else((vv lt y1.1 x.2.1 x.2.2.1 (aa .sub .i64 (aa .sub .i64 x.2.2.1 (1:Int)) (aa .sub .i64 y0.1 x.2.1))).bind fun y2=>(bif (ax (8:Int))then none else(bif (af .lss (aa .sub .i64 y2.1 x.2.1) (aa .sub .i64 x.2.2.1 y2.1))then((rec y2.2.2.1 x.2.1 y2.1 x.2.2.2.1).bind fun y3=>some (.inl (y3.1,(aa .add .i64 y2.1 (1:Int)),x.2.2.1,x.2.2.2.1,(af .geq (aa .sub .i64 y2.1 x.2.1) (aa .quo .i64 (aa .sub .i64 x.2.2.1 x.2.1) (8:Int))),y2.2.1,())))else((rec y2.2.2.1 (aa .add .i64 y2.1 (1:Int)) x.2.2.1 x.2.2.2.1).bind fun y3=>some (.inl (y3.1,x.2.1,y2.1,x.2.2.2.1,(af .geq (aa .sub .i64 x.2.2.1 y2.1) (aa .quo .i64 (aa .sub .i64 x.2.2.1 x.2.1) (8:Int))),y2.2.1,())))))))))else(bif x.2.2.2.2.1 then(bif x.2.2.2.2.2.1 then(bif (af .eql y0.2.1 (1:Int))then((Jf lt x.1 x.2.1 x.2.2.1).bind fun y1=>(bif y1.1 then some (.inr (.inl (y1.2.1,())))else(bif (af .gtr x.2.1 (0:Int))then(bif (ah y1.2.1 (aa .sub .i64 x.2.1 (1:Int)))then(bif (ah y1.2.1 y0.1)then((some (lt (ae default y1.2.1 (aa .sub .i64 x.2.1 (1:Int))) (ae default y1.2.1 y0.1),())).bind fun y2=>(bif (Bool.not y2.1)then((BE lt y1.2.1 x.2.1 x.2.2.1 y0.1).bind fun y3=>some (.inl (y3.2.1,y3.1,x.2.2.1,x.2.2.2.1,x.2.2.2.2.1,x.2.2.2.2.2.1,())))else((vv lt y1.2.1 x.2.1 x.2.2.1 y0.1).bind fun y3=>(bif (ax (8:Int))then none else(bif (af .lss (aa .sub .i64 y3.1 x.2.1) (aa .sub .i64 x.2.2.1 y3.1))then((rec y3.2.2.1 x.2.1 y3.1 x.2.2.2.1).bind fun y4=>some (.inl (y4.1,(aa .add .i64 y3.1 (1:Int)),x.2.2.1,x.2.2.2.1,(af .geq (aa .sub .i64 y3.1 x.2.1) (aa .quo .i64 (aa .sub .i64 x.2.2.1 x.2.1) (8:Int))),y3.2.1,())))else((rec y3.2.2.1 (aa .add .i64 y3.1 (1:Int)) x.2.2.1 x.2.2.2.1).bind fun y4=>some (.inl (y4.1,x.2.1,y3.1,x.2.2.2.1,(af .geq (aa .sub .i64 x.2.2.1 y3.1) (aa .quo .i64 (aa .sub .i64 x.2.2.1 x.2.1) (8:Int))),y3.2.1,()))))))))else none)else none)else((vv lt y1.2.1 x.2.1 x.2.2.1 y0.1).bind fun y2=>(bif (ax (8:Int))then none else(bif (af .lss (aa .sub .i64 y2.1 x.2.1) (aa .sub .i64 x.2.2.1 y2.1))then((rec y2.2.2.1 x.2.1 y2.1 x.2.2.2.1).bind fun y3=>some (.inl (y3.1,(aa .add .i64 y2.1 (1:Int)),x.2.2.1,x.2.2.2.1,(af .geq (aa .sub .i64 y2.1 x.2.1) (aa .quo .i64 (aa .sub .i64 x.2.2.1 x.2.1) (8:Int))),y2.2.1,())))else((rec y2.2.2.1 (aa .add .i64 y2.1 (1:Int)) x.2.2.1 x.2.2.2.1).bind fun y3=>some (.inl (y3.1,x.2.1,y2.1,x.2.2.2.1,(af .geq (aa .sub .i64 x.2.2.1 y2.1) (aa .quo .i64 (aa .sub .i64 x.2.2.1 x.2.1) (8:Int))),y2.2.1,())))))))))else(bif (af .gtr x.2.1 (0:Int))then(bif (ah x.1 (aa .sub .i64 x.2.1 (1:Int)))then(bif (ah x.1 y0.1)then((some (lt (ae default x.1 (aa .sub .i64 x.2.1 (1:Int))) (ae default x.1 y0.1),())).bind fun y1=>(bif (Bool.not y1.1)then((BE lt x.1 x.2.1 x.2.2.1 y0.1).bind fun y2=>some (.inl (y2.2.1,y2.1,x.2.2.1,x.2.2.2.1,x.2.2.2.2.1,x.2.2.2.2.2.1,())))else((vv lt x.1 x.2.1 x.2.2.1 y0.1).bind fun y2=>(bif (ax (8:Int))then none else(bif (af .lss (aa .sub .i64 y2.1 x.2.1) (aa .sub .i64 x.2.2.1 y2.1))then((rec y2.2.2.1 x.2.1 y2.1 x.2.2.2.1).bind fun y3=>some (.inl (y3.1,(aa .add .i64 y2.1 (1:Int)),x.2.2.1,x.2.2.2.1,(af .geq (aa .sub .i64 y2.1 x.2.1) (aa .quo .i64 (aa .sub .i64 x.2.2.1 x.2.1) (8:Int))),y2.2.1,())))else((rec y2.2.2.1 (aa .add .i64 y2.1 (1:Int)) x.2.2.1 x.2.2.2.1).bind fun y3=>some (.inl (y3.1,x.2.1,y2.1,x.2.2.2.1,(af .geq (aa .sub .i64 x.2.2.1 y2.1) (aa .quo .i64 (aa .sub .i64 x.2.2.1 x.2.1) (8:Int))),y2.2.1,()))))))))else none)else none)else((vv lt x.1 x.2.1 x.2.2.1 y0.1).bind fun y1=>(bif (ax (8:Int))then none else(bif (af .lss (aa .sub .i64 y1.1 x.2.1) (aa .sub .i64 x.2.2.1 y1.1))then((rec y1.2.2.1 x.2.1 y1.1 x.2.2.2.1).bind fun y2=>some (.inl (y2.1,(aa .add .i64 y1.1 (1:Int)),x.2.2.1,x.2.2.2.1,(af .geq (aa .sub .i64 y1.1 x.2.1) (aa .quo .i64 (aa .sub .i64 x.2.2.1 x.2.1) (8:Int))),y1.2.1,())))else((rec y1.2.2.1 (aa .add .i64 y1.1 (1:Int)) x.2.2.1 x.2.2.2.1).bind fun y2=>some (.inl (y2.1,x.2.1,y1.1,x.2.2.2.1,(af .geq (aa .sub .i64 x.2.2.1 y1.1) (aa .quo .i64 (aa .sub .i64 x.2.2.1 x.2.1) (8:Int))),y1.2.1,()))))))))else(bif (af .gtr x.2.1 (0:Int))then(bif (ah x.1 (aa .sub .i64 x.2.1 (1:Int)))then(bif (ah x.1 y0.1)then((some (lt (ae default x.1 (aa .sub .i64 x.2.1 (1:Int))) (ae default x.1 y0.1),())).bind fun y1=>(bif (Bool.not y1.1)then((BE lt x.1 x.2.1 x.2.2.1 y0.1).bind fun y2=>some (.inl (y2.2.1,y2.1,x.2.2.1,x.2.2.2.1,x.2.2.2.2.1,x.2.2.2.2.2.1,())))else((vv lt x.1 x.2.1 x.2.2.1 y0.1).bind fun y2=>(bif (ax (8:Int))then none else(bif (af .lss (aa .sub .i64 y2.1 x.2.1) (aa .sub .i64 x.2.2.1 y2.1))then((rec y2.2.2.1 x.2.1 y2.1 x.2.2.2.1).bind fun y3=>some (.inl (y3.1,(aa .add .i64 y2.1 (1:Int)),x.2.2.1,x.2.2.2.1,(af .geq (aa .sub .i64 y2.1 x.2.1) (aa .quo .i64 (aa .sub .i64 x.2.2.1 x.2.1) (8:Int))),y2.2.1,())))else((rec y2.2.2.1 (aa .add .i64 y2.1 (1:Int)) x.2.2.1 x.2.2.2.1).bind fun y3=>some (.inl (y3.1,x.2.1,y2.1,x.2.2.2.1,(af .geq (aa .sub .i64 x.2.2.1 y2.1) (aa .quo .i64 (aa .sub .i64 x.2.2.1 x.2.1) (8:Int))),y2.2.1,()))))))))else none)else none)else((vv lt x.1 x.2.1 x.2.2.1 y0.1).bind fun y1=>(bif (ax (8:Int))then none else(bif (af .lss (aa .sub .i64 y1.1 x.2.1) (aa .sub .i64 x.2.2.1 y1.1))then((rec y1.2.2.1 x.2.1 y1.1 x.2.2.2.1).bind fun y2=>some (.inl (y2.1,(aa .add .i64 y1.1 (1:Int)),x.2.2.1,x.2.2.2.1,(af .geq (aa .sub .i64 y1.1 x.2.1) (aa .quo .i64 (aa .sub .i64 x.2.2.1 x.2.1) (8:Int))),y1.2.1,())))else((rec y1.2.2.1 (aa .add .i64 y1.1 (1:Int)) x.2.2.1 x.2.2.2.1).bind fun y2=>some (.inl (y2.1,x.2.1,y1.1,x.2.2.2.1,(af .geq (aa .sub .i64 x.2.2.1 y1.1) (aa .quo .i64 (aa .sub .i64 x.2.2.1 x.2.1) (8:Int))),y1.2.1,()))))))))else(bif (af .gtr x.2.1 (0:Int))then(bif (ah x.1 (aa .sub .i64 x.2.1 (1:Int)))then(bif (ah x.1 y0.1)then((some (lt (ae default x.1 (aa .sub .i64 x.2.1 (1:Int))) (ae default x.1 y0.1),())).bind fun y1=>(bif (Bool.not y1.1)then((BE lt x.1 x.2.1 x.2.2.1 y0.1).bind fun y2=>some (.inl (y2.2.1,y2.1,x.2.2.1,x.2.2.2.1,x.2.2.2.2.1,x.2.2.2.2.2.1,())))else((vv lt x.1 x.2.1 x.2.2.1 y0.1).bind fun y2=>(bif (ax (8:Int))then none else(bif (af .lss (aa .sub .i64 y2.1 x.2.1) (aa .sub .i64 x.2.2.1 y2.1))then((rec y2.2.2.1 x.2.1 y2.1 x.2.2.2.1).bind fun y3=>some (.inl (y3.1,(aa .add .i64 y2.1 (1:Int)),x.2.2.1,x.2.2.2.1,(af .geq (aa .sub .i64 y2.1 x.2.1) (aa .quo .i64 (aa .sub .i64 x.2.2.1 x.2.1) (8:Int))),y2.2.1,())))else((rec y2.2.2.1 (aa .add .i64 y2.1 (1:Int)) x.2.2.1 x.2.2.2.1).bind fun y3=>some (.inl (y3.1,x.2.1,y2.1,x.2.2.2.1,(af .geq (aa .sub .i64 x.2.2.1 y2.1) (aa .quo .i64 (aa .sub .i64 x.2.2.1 x.2.1) (8:Int))),y2.2.1,()))))))))else none)else none)else((vv lt x.1 x.2.1 x.2.2.1 y0.1).bind fun y1=>(bif (ax (8:Int))then none else(bif (af .lss (aa .sub .i64 y1.1 x.2.1) (aa .sub .i64 x.2.2.1 y1.1))then((rec y1.2.2.1 x.2.1 y1.1 x.2.2.2.1).bind fun y2=>some (.inl (y2.1,(aa .add .i64 y1.1 (1:Int)),x.2.2.1,x.2.2.2.1,(af .geq (aa .sub .i64 y1.1 x.2.1) (aa .quo .i64 (aa .sub .i64 x.2.2.1 x.2.1) (8:Int))),y1.2.1,())))else((rec y1.2.2.1 (aa .add .i64 y1.1 (1:Int)) x.2.2.1 x.2.2.2.1).bind fun y2=>some (.inl (y2.1,x.2.1,y1.1,x.2.2.2.1,(af .geq (aa .sub .i64 x.2.2.1 y1.1) (aa .quo .i64 (aa .sub .i64 x.2.2.1 x.2.1) (8:Int))),y1.2.1,())))))))))))))
noncomputable def Oz{α:Type}[Inhabited α](lt:α->α->Bool)(rec:(List α)->Int->Int->Int->Option ((List α)×Unit))(k:Unit)(x:(List α)×Int×Int×Int×Bool×Bool×Unit):Option ((List α)×Unit⊕Empty):=iter (Kt lt rec k) big x
noncomputable def Py{α:Type}[Inhabited α](lt:α->α->Bool)(rec:(List α)->Int->Int->Int->Option ((List α)×Unit))(a0:(List α))(a1:Int)(a2:Int)(a3:Int):Option ((List α)×Unit):=((Oz lt rec (()) (a0,a1,a2,a3,true,true,())).bind fun q0=>(Sum.elim (fun y1=>some (y1.1,())) (fun q2=>(Empty.elim q2)) q0))
noncomputable def NR{α:Type}[Inhabited α](lt:α->α->Bool):Nat->(List α)->Int->Int->Int->Option ((List α)×Unit)|0=>fun _ _ _ _=>none|n+1=>Py lt (NR lt n)
noncomputable def Uk{α:Type}[Inhabited α](lt:α->α->Bool)(a0:(List α))(a1:Int)(a2:Int)(a3:Int):Option ((List α)×Unit):=NR lt big a0 a1 a2 a3
end Go.Fn
set_option linter.unusedSimpArgs false
set_option linter.unusedVariables false
namespace Go.Fn
open Go.R Go.Sort
theorem TT{α:Type}(d:Array α)(i:Nat):ah d.toList (i:Int)=decide (i<d.size):=by rw[az,Array.length_toList]
theorem W7{α:Type}(d:Array α)(i j:Nat)(x:α):ah (aC d.toList (i:Int) x) (j:Int)=decide (j<d.size):=by rw[aN,je,Array.length_toList]
section
variable {α:Type} [Inhabited α] {lt:α->α->Bool}
theorem gA(d:Array α)(i:Nat):ae default d.toList (i:Int)=d[i]!:=by rw[aq,List.getD_eq_getElem?_getD,getElem!_def,<-Array.getElem?_toList];cases d.toList[i]? <;> rfl
theorem Xk(d:Array α)(i j:Nat):aC (aC d.toList (i:Int) d[j]!) (j:Int) d[i]! = (swp d i j).toList:=by rw[aN,aN];unfold swp;rw[Array.toList_setIfInBounds,Array.toList_setIfInBounds]
theorem aS{n m:Nat}(h:n+m<1099511627776):aa .add .i64 (n:Int) (m:Int)=((n+m:Nat):Int):=by rw[bV] <;> omega
theorem sS{n m:Nat}(h:m<=n)(h2:n<1099511627776):aa .sub .i64 (n:Int) (m:Int)=((n-m:Nat):Int):=by rw[bO] <;> omega
theorem mS{n m:Nat}(h:n*m<1099511627776):aa .mul .i64 (n:Int) (m:Int)=((n*m:Nat):Int):=by
 rw[jw]
 ·rw[Int.natCast_mul]
 ·rw[<-Int.natCast_mul];omega
 ·rw[<-Int.natCast_mul];omega
theorem qS(n m:Nat)(h:n<1099511627776):aa .quo .i64 (n:Int) (m:Int)=((n / m:Nat):Int):=by have h2:n / m<=n:=Nat.div_le_self n m;have e:aa .quo .i64 (n:Int) (m:Int)=IntKind.i64.wrap ((n:Int).tdiv (m:Int)):=rfl;rw[e,show((n:Int).tdiv (m:Int))=((n / m:Nat):Int)from rfl];generalize n / m=c at h2⊢;exact A1 (by omega) (by omega)
theorem Xj(n m:Nat):af .gtr (n:Int) (m:Int)=decide (n>m):=by simp[af]
theorem RU(n m:Nat):af .lss (n:Int) (m:Int)=decide (n<m):=by simp[af]
theorem X7(n m:Nat):af .geq (n:Int) (m:Int)=decide (n>=m):=by simp[af]
theorem XC(n m:Nat):af .leq (n:Int) (m:Int)=decide (n<=m):=by simp[af]
theorem eqS(n m:Nat):af .eql (n:Int) (m:Int)=decide (n=m):=by
 simp only[af];by_cases h:n=m
 ·subst h;simp
 ·rw[decide_eq_false h];simp;omega
theorem Pb(lt:α->α->Bool)(a:Nat):∀j (d:Array α),(insInner lt a j d).size=d.size
 |0,_=>rfl
 |j+1,d=>by
  unfold insInner;split
  ·rw[Pb lt a j,size_swp]
  ·rfl
theorem one:(1:Int)=((1:Nat):Int):=rfl
theorem ac3(a b i:Nat):∀(j:Nat) (d:Array α) (n:Nat),j<d.size->d.size<=255->j<n->iter (Ki lt ((a:Int),(b:Int),(i:Int),())) n (d.toList,(j:Int),())=some (.inl ((insInner lt a j d).toList,())):=by
 intro j;induction j with
 |zero=>
  intro d n hj hd hn;obtain⟨n,rfl⟩:∃m,n=m+1:=⟨n-1,by omega⟩
  refine ay ?_;unfold Ki insInner;simp only[Xj,show ¬(0>a)by omega,decide_false,cond_false]
 |succ j ih=>
  intro d n hj hd hn;obtain⟨n,rfl⟩:∃m,n=m+1:=⟨n-1,by omega⟩
  have e1:aa .sub .i64 ((j+1:Nat):Int) (1:Int)=(j:Int):=iw (by omega);unfold insInner;by_cases h:j+1>a
  ·cases hl:lt d[j+1]! d[j]! with
   |true=>simp only[h,decide_true,Bool.true_and,if_true];rw[<-ih (swp d (j+1) j) n (by rw[size_swp];omega) (by rw[size_swp];omega) (by omega)];refine aH ?_;unfold Ki;simp only[Xj,h,decide_true,cond_true,e1,TT,gA,W7,hj,show j<d.size by omega,Option.bind_some,hl,Xk]
   |false=>simp only[Bool.and_false,Bool.false_eq_true,if_false];refine ay ?_;unfold Ki;simp only[Xj,h,decide_true,cond_true,e1,TT,gA,hj,show j<d.size by omega,Option.bind_some,hl,cond_false]
  ·simp only[h,decide_false,Bool.false_and,Bool.false_eq_true,if_false];refine ay ?_;unfold Ki;simp only[Xj,h,decide_false,cond_false]
theorem abO(a b:Nat)(hb:b<=255):∀(k i:Nat) (d:Array α) (n:Nat),b-i<=k->b<=d.size->d.size<=255->i<=256->k<n->iter (KN lt ((a:Int),(b:Int),())) n (d.toList,(i:Int),())=some (.inl ((insOuter lt a b i d).toList,())):=by
 intro k;induction k with
 |zero=>
  intro i d n hk hbd hd hi hn;obtain⟨n,rfl⟩:∃m,n=m+1:=⟨n-1,by omega⟩
  refine ay ?_;unfold KN insOuter;simp only[RU,show ¬(i<b)by omega,decide_false,cond_false,if_false]
 |succ k ih=>
  intro i d n hk hbd hd hi hn;obtain⟨n,rfl⟩:∃m,n=m+1:=⟨n-1,by omega⟩
  unfold insOuter;by_cases h:i<b
  ·simp only[h,if_true];rw[<-ih (i+1) (insInner lt a i d) n (by omega) (by rw[Pb];omega) (by rw[Pb];omega) (by omega) (by omega)];refine aH ?_;unfold KN Mw;simp only[RU,h,decide_true,cond_true,ac3 a b i i d big (by omega) hd (aT (by omega)),Option.bind_some,Sum.elim_inl,av (n:=i) (by omega)]
  ·simp only[h,if_false];refine ay ?_;unfold KN;simp only[RU,h,decide_false,cond_false]
theorem ab7(d:Array α)(a b:Nat)(hab:a<=b)(hb:b<=d.size)(hd:d.size<=255):MN lt d.toList (a:Int) (b:Int)=some ((insertionSort lt d a b).toList,()):=by unfold MN Mv insertionSort;simp only[av (n:=a) (by omega),abO (lt:=lt) a b (by omega) 256 (a+1) d big (by omega) hb hd (by omega) (aT (by omega)),Option.bind_some,Sum.elim_inl]
theorem XL(lt:α->α->Bool)(hi first:Nat):∀(k root:Nat) (d:Array α),hi-root<=k->(siftDown lt hi first root d).size=d.size:=by
 intro k;induction k with
 |zero=>intro root d hk;unfold siftDown;rw[dif_pos (by omega)]
 |succ k ih=>
  intro root d hk;unfold siftDown;repeat' split
  all_goals first|rfl|(rw[ih _ _ (by omega),size_swp])
theorem ab6(hi first:Nat):∀(k root:Nat) (d:Array α) (n:Nat),hi-root<=k->first+hi<=d.size->first+root<=255->d.size<=255->k<n->∃q,iter (KE lt ((hi:Int),(first:Int),())) n (d.toList,(root:Int),())=some q/\(q=.inl ((siftDown lt hi first root d).toList,())\/q=.inr (.inl ((siftDown lt hi first root d).toList,()))):=by
 intro k;induction k with
 |zero=>
  intro root d n hk hf hr hd hn;obtain⟨n,rfl⟩:∃m,n=m+1:=⟨n-1,by omega⟩
  refine⟨_,ay ?_,.inl rfl⟩;unfold KE siftDown;rw[dif_pos (by omega)];have e1:aa .mul .i64 (2:Int) (root:Int)=((2*root:Nat):Int):=mS (n:=2) (by omega);simp only[e1,av (n:=2*root) (by omega),X7,show 2*root+1>=hi by omega,decide_true,cond_true]
 |succ k ih=>
  intro root d n hk hf hr hd hn;obtain⟨n,rfl⟩:∃m,n=m+1:=⟨n-1,by omega⟩
  have e1:aa .mul .i64 (2:Int) (root:Int)=((2*root:Nat):Int):=mS (n:=2) (by omega);have e2:aa .add .i64 (first:Int) (root:Int)=((first+root:Nat):Int):=aS (by omega);have e3:aa .add .i64 ((2*root:Nat):Int) (1:Int)=((2*root+1:Nat):Int):=av (by omega);have e4:aa .add .i64 ((2*root+1:Nat):Int) (1:Int)=((2*root+2:Nat):Int):=av (by omega);have e5:aa .add .i64 (first:Int) ((2*root+1:Nat):Int)=((first+(2*root+1):Nat):Int):=aS (by omega);have e6:aa .add .i64 (first:Int) ((2*root+2:Nat):Int)=((first+(2*root+2):Nat):Int):=aS (by omega);have e7:aa .add .i64 ((first+(2*root+1):Nat):Int) (1:Int)=((first+(2*root+1)+1:Nat):Int):=av (by omega);by_cases h1:2*root+1>=hi
  ·refine⟨_,ay ?_,.inl rfl⟩;unfold KE siftDown;rw[dif_pos h1];simp only[e1,e3,X7,h1,decide_true,cond_true]
  ·have i1:first+(2*root+1)<d.size:=by omega
   have i2:first+root<d.size:=by omega
   unfold siftDown;rw[dif_neg h1];by_cases h2:2*root+2<hi
   ·have i3:first+(2*root+2)<d.size:=by omega
    have i4:first+(2*root+1)+1<d.size:=by omega
    cases h3:lt d[first+(2*root+1)]! d[first+(2*root+1)+1]! with
    |true=>
     cases h4:lt d[first+root]! d[first+(2*root+2)]! with
     |false=>refine⟨_,ay ?_,.inr rfl⟩;unfold KE;simp only[e1,e2,e3,e4,e5,e6,e7,X7,RU,h1,h2,decide_true,decide_false,cond_true,cond_false,TT,gA,i1,i2,i3,i4,Option.bind_some,h3,h4,Bool.not_false,Bool.true_and,if_true]
     |true=>
      obtain⟨q,hq,lR⟩:=ih (2*root+2) (swp d (first+root) (first+(2*root+2))) n (by omega) (by rw[size_swp];omega) (by omega) (by rw[size_swp];omega) (by omega);refine⟨q,?_,?_⟩
      ·rw[<-hq];refine aH ?_;unfold KE;simp only[e1,e2,e3,e4,e5,e6,e7,X7,RU,h1,h2,decide_true,decide_false,cond_true,cond_false,TT,gA,W7,i1,i2,i3,i4,Option.bind_some,h3,h4,Bool.not_true,Xk,aV]
      ·simp only[h2,decide_true,Bool.true_and,if_true,Bool.not_true,Bool.false_eq_true,if_false,dite_true];exact lR
    |false=>
     simp only[Bool.and_false,Bool.false_eq_true,if_false];cases h4:lt d[first+root]! d[first+(2*root+1)]! with
     |false=>refine⟨_,ay ?_,.inr rfl⟩;unfold KE;simp only[e1,e2,e3,e4,e5,e6,e7,X7,RU,h1,h2,decide_true,decide_false,cond_true,cond_false,TT,gA,i1,i2,i3,i4,Option.bind_some,h3,h4,Bool.not_false,if_true]
     |true=>
      obtain⟨q,hq,lR⟩:=ih (2*root+1) (swp d (first+root) (first+(2*root+1))) n (by omega) (by rw[size_swp];omega) (by omega) (by rw[size_swp];omega) (by omega);refine⟨q,?_,?_⟩
      ·rw[<-hq];refine aH ?_;unfold KE;simp only[e1,e2,e3,e4,e5,e6,e7,X7,RU,h1,h2,decide_true,decide_false,cond_true,cond_false,TT,gA,W7,i1,i2,i3,i4,Option.bind_some,h3,h4,Bool.not_true,Xk,aV]
      ·simp only[Bool.not_true,Bool.false_eq_true,if_false];exact lR
   ·simp only[show ¬(2*root+1+1<hi)from h2,decide_false,Bool.false_and,Bool.false_eq_true,if_false];cases h4:lt d[first+root]! d[first+(2*root+1)]! with
    |false=>refine⟨_,ay ?_,.inr rfl⟩;unfold KE;simp only[e1,e2,e3,e4,e5,e6,e7,X7,RU,h1,h2,decide_true,decide_false,cond_true,cond_false,TT,gA,i1,i2,Option.bind_some,h4,Bool.not_false,if_true]
    |true=>
     obtain⟨q,hq,lR⟩:=ih (2*root+1) (swp d (first+root) (first+(2*root+1))) n (by omega) (by rw[size_swp];omega) (by omega) (by rw[size_swp];omega) (by omega);refine⟨q,?_,?_⟩
     ·rw[<-hq];refine aH ?_;unfold KE;simp only[e1,e2,e3,e4,e5,e6,e7,X7,RU,h1,h2,decide_true,decide_false,cond_true,cond_false,TT,gA,W7,i1,i2,Option.bind_some,h4,Bool.not_true,Xk,aV]
     ·simp only[Bool.not_true,Bool.false_eq_true,if_false];exact lR
theorem Y7(d:Array α)(root hi first:Nat)(hf:first+hi<=d.size)(hr:first+root<=255)(hd:d.size<=255):Og lt d.toList (root:Int) (hi:Int) (first:Int)=some ((siftDown lt hi first root d).toList,()):=by unfold Og N1;obtain⟨q,hq,rfl|rfl⟩:=ab6 (lt:=lt) hi first 256 root d big (by omega) hf hr hd (aT (by omega)) <;> rw[hq] <;> rfl
end
end Go.Fn

